
import Derived.Test.YtibehcmomiplnabGreatDoorLawSva
set_option linter.unusedSimpArgs false
set_option linter.unusedVariables false
set_option linter.defProp false
set_option maxRecDepth 100000
open Go.IntKind(wrap)
namespace Go.Sh
open Go.Abs
def db(A B:Nat)(w:aa):aa:=mt A++w++mt B
def rV(g l:Bool)(dg:aa)(x q:Int)(m d:aa)(k0 k1 k2:Nat):aa:=
 db (plA (bp m d) k0 k1 k2).1 (plB (bp m d) k0 k1 k2).1 (fZ g l dg x q)
  ++ ((if m=[]then[]else 45::db (plA (bp m d) k0 k1 k2).2.1 (plB (bp m d) k0 k1 k2).2.1 m)
  ++ (if d=[]then[]else 45::db (plA (bp m d) k0 k1 k2).2.2 (plB (bp m d) k0 k1 k2).2.2 d))
structure OkD(g l:Bool)(dg:aa)(x q:Nat)(m d:aa)(k0 k1 k2:Nat):Prop where
 yr:okY g l dg (x:Int) (q:Int)
 x16:x<=16
 q17:q<=17
 dg17:dg.length<=17
 noM:0<q->m=[]
 mon:m=[]\/(m.length=2/\∀c∈m,isDX c=true)
 day:d=[]\/(m≠[]/\d.length=2/\∀c∈d,isDX c=true)
 m0:k0<4
 m1:k1<4
 m2:k2<4
 z1:bp m d<2->k1=0
 z2:bp m d<3->k2=0
def Gk{g l:Bool}{dg:aa}{x q:Int}{m d:aa}{k0 k1 k2:Int}(B:0<=k0)(v:0<=k1)(u:0<=k2)(h:chkD g l dg x q m d k0 k1 k2=0):
  ∃p o a b c:Nat,x=(p:Int)/\q=(o:Int)/\k0=(a:Int)/\k1=(b:Int)/\k2=(c:Int)/\OkD g l dg p o m d a b c:=by
 obtain⟨hy,f,j,k⟩:=Hl h;unfold yrD at hy;by_cases e:okY g l dg x q
 rotate_left
 ·rw[ab e]at hy;cases hy
 rw[ae e]at hy;obtain⟨r,A,s,C,w,t⟩:=gR e;have hk':¬(3<k0\/3<k1\/3<k2\/(bp m d<2/\k1≠0)\/(bp m d<3/\k2≠0)):=by
  intro z;unfold allM at k;rw[ae z]at k;exact absurd k (by decide)
 refine⟨x.toNat,q.toNat,k0.toNat,k1.toNat,k2.toNat,by omega,by omega,by omega,by omega,by omega,?_⟩;rw[<-Ko r,<-Ko s]at e;refine⟨e,by omega,by omega,t,?_,?_,?_,by omega,by omega,by omega,by omega,by omega⟩
 ·intro y;unfold yrB at hy;have hq':decide (0<q)=true:=by simp;omega
  rw[hq']at hy;by_cases i:m=[]
  ·exact i
  ·have:(m==[])=false:=aL.2 i;rw[this]at hy;simp at hy
 ·rcases f with f | f | f
  ·exact .inl f
  ·exact .inr (IU f)
  ·exact .inr (pK (by omega) f)
 ·rcases j with j | ⟨j,_,n⟩
  ·exact .inl j
  ·have:=pK (show 31<=31 by omega) n;exact .inr ⟨j,this.1,this.2⟩
def Tq(n k i:Nat)(hi:i<k)(C:k<=3)(A B:List Nat)(a b:Nat)(m:A[i]?=some a)(j:B[i]?=some b)(g:a<4)(f:b<4)(ws:List aa)(t:ws.length=k)(w:aa)(w0 d e:aa)(p:[w0,d,e][i]?=some w)(r:w.length<=1000):
  bg n (k,(k:Int),(i:Int),A.map cI,B.map cI,ws,[w0,d,e])=some (.inl (k,(k:Int),((i+1:Nat):Int),A.map cI,B.map cI,ws.set i (db a b w),[w0,d,e])):=by
 have w2':wrap .i64 ((i:Int)+1)=((i+1:Nat):Int):=by rw[wd];omega
 have s:(A.map cI)[i]?=some (a:Int):=by rw[nV,m];rfl
 have h:(B.map cI)[i]?=some (b:Int):=by rw[nV,j];rfl
 have c:∀z:Nat,z<4->(mt z).length<=1:=λz y=>by
  unfold mt;split
  ·simp
  ·split
   ·simp
   ·split<;>simp
 unfold bg;rw[bN,ae (show(i:Int)<(k:Int)by omega)];simp only[dh hi,dh (show i<3 by omega),ob,p,d4,s,h,Ve n a g,Ve n b f];have x:=c a g;have u:=c b f;have q:cat (mt a) w=some (mt a++w):=dm (by omega);have o:cat (mt a++w) (mt b)=some (mt a++w++mt b):=dm (by rw[aV];omega);rw[q];simp only[ob];rw[o];simp only[ob];have hi':i<ws.length:=by omega
 obtain⟨v,l⟩:∃v,ws[i]?=some v:=⟨ws[i],ba hi'⟩;rw[dh hi'];simp only[ob,l,w2'];rfl
def Ib(n k:Nat)(A B:List Int)(ws V:List aa):bg n (k,(k:Int),(k:Int),A,B,ws,V)=some (.inr ws):=by
 unfold bg;rw[bN,ab (show¬((k:Int)<(k:Int))by omega)]
def o6(a b:Nat)(w:aa):(db a b w).length<=w.length+2:=by
 have c:∀z:Nat,(mt z).length<=1:=λz=>by
  unfold mt;split
  ·simp
  ·split
   ·simp
   ·split<;>simp
 have:=c a;have:=c b;unfold db;simp only[aV];omega
def JW:bp [] []=1:=rfl
def Hz{m:aa}(h:m≠[]):bp m []=2:=by unfold bp;rw[aL.2 h];rfl
def FN{m d:aa}(h:m≠[])(a:d≠[]):bp m d=3:=by unfold bp;rw[aL.2 h,aL.2 a];rfl
def rW{d:aa}(h:d.length=2):d≠[]:=by rintro rfl;simp at h
def Xr(n:Nat)(g l:Bool)(dg:aa)(x q:Nat)(m d:aa)(k0 k1 k2:Nat)(Q:m.length<=18)(P:dg.length<=100):
  dM (n+300) g l dg (x:Int) (q:Int) m d (k0:Int) (k1:Int) (k2:Int)=some (if chkD g l dg (x:Int) (q:Int) m d (k0:Int) (k1:Int) (k2:Int)=0 then(rV g l dg (x:Int) (q:Int) m d k0 k1 k2,0)else([],chkD g l dg (x:Int) (q:Int) m d (k0:Int) (k1:Int) (k2:Int))):=by
 unfold dM;rw[Eh (n+300) (by omega) g l dg _ _ m d _ _ _ Q P (by omega) (by omega) (by omega)];show cond (chkD g l dg (x:Int) (q:Int) m d (k0:Int) (k1:Int) (k2:Int) != 0) _ _=_;rw[yA];by_cases D:chkD g l dg (x:Int) (q:Int) m d (k0:Int) (k1:Int) (k2:Int)=0
 rotate_left
 ·rw[ab D,ab D]
 rw[ae D,ae D];obtain⟨R,V,a,b,c,e1,e2,e3,e4,e5,o⟩:=Gk (by omega) (by omega) (by omega) D;obtain rfl:x=R:=by omega
 obtain rfl:q=V:=by omega
 obtain rfl:k0=a:=by omega
 obtain rfl:k1=b:=by omega
 obtain rfl:k2=c:=by omega
 have hc:=hZ m d;have M:=ZJ n (bp m d) k0 k1 k2 hc o.m0 o.m1 o.m2 o.z1 o.z2;obtain⟨G,K,N,y,H,O⟩:=Yr (k:=bp m d) o.m0 o.m1 o.m2;rw[sW (n+300) (by omega)];simp only[ob];rw[M,Ez (n+300) g l dg _ _ (by omega) P,ae o.yr];simp only[ob,fU,af,NZ o.yr,ah];have C:(decide ((0:Int)<=((bp m d:Nat):Int))&&(decide (((bp m d:Nat):Int)<=((bp m d:Nat):Int))&&decide (((bp m d:Nat):Int)<=(67108864:Int))))=true:=by
  rw[rM,rM,rM];rfl
 rw[C,de (show bp m d<=3 by omega)];simp only[ob,ah,co];have J:=wq o.yr;have Z:Nat.ble 1 140737488355328=true:=rfl;have W:Nat.ble 2 140737488355328=true:=rfl;have X:Nat.ble 3 140737488355328=true:=rfl;unfold rV;generalize fZ g l dg (x:Int) (q:Int)=Y at J;generalize B:plA (bp m d) k0 k1 k2=S at *;generalize E:plB (bp m d) k0 k1 k2=PB at *;obtain⟨j,r,s⟩:=S;obtain⟨f,p,t⟩:=PB;simp only at G K N y H O;have st:=λ(k i:Nat) (hi:i<k) (hk:k<=3) (a b:Nat) (ha:[j,r,s][i]?=some a) (hb:[f,p,t][i]?=some b) (a4:a<4) (b4:b<4) (ws:List aa) (hl:ws.length=k) (w:aa) (w0 w1 w2:aa) (F:[w0,w1,w2][i]?=some w) (hwl:w.length<=1000)=>Tq (n+300) k i hi hk [j,r,s] [f,p,t] a b ha hb a4 b4 ws hl w w0 w1 w2 F hwl;have A:∀L:aa,L.length<=1000->Nat.ble L.length 140737488355328=true:=λL h=>dc (by omega);by_cases u:m=[]
 ·have v:d=[]:=o.day.resolve_right (λz=>z.1 u);subst u v;show ob (av (bg (n+300)) (n+299+1) (1,((1:Nat):Int),((0:Nat):Int),[j,r,s].map cI,[f,p,t].map cI,[[]],[Y,[],[]])) _=_;rw[av,st 1 0 (by omega) (by omega) j f rfl rfl G y [[]] rfl Y Y [] [] rfl (by omega)];show ob (av (bg (n+300)) (n+298+1) (1,((1:Nat):Int),((1:Nat):Int),[j,r,s].map cI,[f,p,t].map cI,[db j f Y],[Y,[],[]])) _=_;rw[av,Ib];simp only[ob];have e:Lib.join [db j f Y] [45]=db j f Y:=Lib.join_one _ _;have F:=o6 j f Y;rw[e,A _ (by omega)];simp[Z]
 ·have U:m.length=2:=(o.mon.resolve_left u).1;by_cases v:d=[]
  ·subst v;rw[Hz u]at B E ⊢;show ob (av (bg (n+300)) (n+299+1) (2,((2:Nat):Int),((0:Nat):Int),[j,r,s].map cI,[f,p,t].map cI,[[],[]],[Y,m,[]])) _=_;rw[av,st 2 0 (by omega) (by omega) j f rfl rfl G y [[],[]] rfl Y Y m [] rfl (by omega)];show ob (av (bg (n+300)) (n+298+1) (2,((2:Nat):Int),((1:Nat):Int),[j,r,s].map cI,[f,p,t].map cI,[db j f Y,[]],[Y,m,[]])) _=_;rw[av,st 2 1 (by omega) (by omega) r p rfl rfl K H [db j f Y,[]] rfl m Y m [] rfl (by omega)];show ob (av (bg (n+300)) (n+297+1) (2,((2:Nat):Int),((2:Nat):Int),[j,r,s].map cI,[f,p,t].map cI,[db j f Y,db r p m],[Y,m,[]])) _=_;rw[av,Ib];simp only[ob];have e:Lib.join [db j f Y,db r p m] [45]=db j f Y++(45::db r p m):=by rw[Lib.join_cons];simp[Lib.joinTail]
   have F:=o6 j f Y;have I:=o6 r p m;rw[e,A _ (by simp only[aV,aI];omega)];rw[ab u];simp[W]
  ·have hdl:d.length=2:=(o.day.resolve_left v).2.1;rw[FN u v]at B E ⊢;show ob (av (bg (n+300)) (n+299+1) (3,((3:Nat):Int),((0:Nat):Int),[j,r,s].map cI,[f,p,t].map cI,[[],[],[]],[Y,m,d])) _=_;rw[av,st 3 0 (by omega) (by omega) j f rfl rfl G y [[],[],[]] rfl Y Y m d rfl (by omega)];show ob (av (bg (n+300)) (n+298+1) (3,((3:Nat):Int),((1:Nat):Int),[j,r,s].map cI,[f,p,t].map cI,[db j f Y,[],[]],[Y,m,d])) _=_;rw[av,st 3 1 (by omega) (by omega) r p rfl rfl K H [db j f Y,[],[]] rfl m Y m d rfl (by omega)];show ob (av (bg (n+300)) (n+297+1) (3,((3:Nat):Int),((2:Nat):Int),[j,r,s].map cI,[f,p,t].map cI,[db j f Y,db r p m,[]],[Y,m,d])) _=_;rw[av,st 3 2 (by omega) (by omega) s t rfl rfl N O [db j f Y,db r p m,[]] rfl d Y m d rfl (by omega)];show ob (av (bg (n+300)) (n+296+1) (3,((3:Nat):Int),((3:Nat):Int),[j,r,s].map cI,[f,p,t].map cI,[db j f Y,db r p m,db s t d],[Y,m,d])) _=_;rw[av,Ib];simp only[ob];have e:Lib.join [db j f Y,db r p m,db s t d] [45]=db j f Y++(45::db r p m++(45::db s t d)):=by rw[Lib.join_cons];simp[Lib.joinTail]
   have F:=o6 j f Y;have I:=o6 r p m;have T:=o6 s t d;rw[e,A _ (by simp only[aV,aI];omega)];rw[ab u,ab v];simp[X]
def Np(n:Nat){g l:Bool}{dg:aa}{x q:Nat}{m d:aa}{k0 k1 k2:Nat}(e:OkD g l dg x q m d k0 k1 k2):
  gF (n+300) g l dg (x:Int) (q:Int) m d (k0:Int) (k1:Int) (k2:Int)=some (rV g l dg (x:Int) (q:Int) m d k0 k1 k2):=by
 have hc:=hZ m d;have y:=(YW n (bp m d) k0 k1 k2 hc e.m0 e.m1 e.m2 e.z1 e.z2).2;obtain⟨D,F,C,p,B,E⟩:=Yr (k:=bp m d) e.m0 e.m1 e.m2;have u:=wq e.yr;have hx:=e.x16;have V:=e.q17;have S:=e.dg17;unfold gF;rw[dO (n+300)];simp only[ob];rw[y,KL (n+300) g l dg x q (by omega) (by omega) (by omega)];unfold rV;generalize fZ g l dg (x:Int) (q:Int)=Y at u ⊢;generalize J:plA (bp m d) k0 k1 k2=I at *;generalize P:plB (bp m d) k0 k1 k2=PB at *;obtain⟨A,s,t⟩:=I;obtain⟨v,r,w⟩:=PB;simp only at D F C p B E;have j:∀z:Nat,(mt z).length<=1:=λz=>by
  unfold mt;split
  ·simp
  ·split
   ·simp
   ·split<;>simp
 have U:=j A;have H:=j s;have R:=j t;have M:=j v;have K:=j r;have G:=j w;have L:m.length<=2:=by
  rcases e.mon with h | h
  ·rw[h];simp
  ·omega
 have T:d.length<=2:=by
  rcases e.day with h | h
  ·rw[h];simp
  ·omega
 have N:∀a b c:Nat,(l3 (a,b,c))[0]?=some (a:Int):=λ_ _ _=>rfl;have O:∀a b c:Nat,(l3 (a,b,c))[1]?=some (b:Int):=λ_ _ _=>rfl;have Q:∀a b c:Nat,(l3 (a,b,c))[2]?=some (c:Int):=λ_ _ _=>rfl;have f:∀a b:aa,a.length+b.length<=1000000->cat a b=some (a++b):=λa b h=>dm h;simp only[ob,N,O,Q,(MW (n+300) A D).2,(MW (n+300) s F).2,(MW (n+300) t C).2,(MW (n+300) v p).2,(MW (n+300) r B).2,(MW (n+300) w E).2];rw[f (mt A) Y (by omega)];simp only[ob];rw[f _ (mt v) (by simp only[aV];omega)];simp only[ob];have k1':decide (((bp m d:Nat):Int)>1)=decide (1<bp m d):=by rw[jr];omega
 have k2':decide (((bp m d:Nat):Int)>2)=decide (2<bp m d):=by rw[jr];omega
 rw[k1',k2'];by_cases i:m=[]
 ·have o:d=[]:=e.day.resolve_right (λz=>z.1 i);subst i o;rw[JW];simp[db]
 ·by_cases o:d=[]
  ·subst o;rw[Hz i,ab i];simp only[show decide (1<2)=true from rfl,show decide (2<2)=false from rfl,ah,af];rw[f [45] (mt s) (by simp;omega)];simp only[ob];rw[f _ m (by simp only[aV,aI,bU];omega)];simp only[ob];rw[f _ (mt r) (by simp only[aV,aI,bU];omega)];simp only[ob];rw[f _ _ (by simp only[aV,aI,bU];omega)];simp[db]
  ·rw[FN i o,ab i,ab o];simp only[show decide (1<3)=true from rfl,show decide (2<3)=true from rfl,ah,af];rw[f [45] (mt s) (by simp;omega)];simp only[ob];rw[f _ m (by simp only[aV,aI,bU];omega)];simp only[ob];rw[f _ (mt r) (by simp only[aV,aI,bU];omega)];simp only[ob];rw[f _ _ (by simp only[aV,aI,bU];omega)];simp only[ob];rw[f [45] (mt t) (by simp;omega)];simp only[ob];rw[f _ d (by simp only[aV,aI,bU];omega)];simp only[ob];rw[f _ (mt w) (by simp only[aV,aI,bU];omega)];simp only[ob];rw[f _ _ (by simp only[aV,aI,bU];omega)];simp[db]
def isMk(c:UInt8):Bool:=decide (0<mkOf c)
def iP{S u v:aa}{a:Nat}(h:S.drop a=u++v):S.drop (a+u.length)=v:=by
 rw[<-km,h,HC];rfl
def NV{A:Nat}(d:A<4){r:aa}(b:dG isMk r):mkS (mt A++r)=A/\mkN (mt A++r)=(mt A).length:=by
 have a:mkS r=0:=by
  cases r with
  | nil=>rfl
  | cons c r=>
   have:=b c rfl;unfold isMk at this;have:=of_decide_eq_false this;show mkOf c=0;omega
 have h:A=0\/A=1\/A=2\/A=3:=by omega
 rcases h with rfl | rfl | rfl | rfl
 ·refine⟨a,?_⟩;show mkN r=0;unfold mkN;rw[ae a]
 ·exact⟨rfl,rfl⟩
 ·exact⟨rfl,rfl⟩
 ·exact⟨rfl,rfl⟩
def fg{p:UInt8->Bool}{c:UInt8}{r:aa}(h:p c=false):dG p (c::r):=λa hc=>by
 simp only[qU,aw]at hc;rw[<-hc];exact h
def O8{p:UInt8->Bool}(B:Nat){r:aa}(a:p 63=false)(c:p 126=false)(b:p 37=false)(d:dG p r):dG p (mt B++r):=by
 unfold mt;split
 ·exact fg a
 ·split
  ·exact fg c
  ·split
   ·exact fg b
   ·exact d
def Gg{c:UInt8}(h:isDX c=true):isMk c=false:=by
 have:=gO (λc=>!(isDX c)||!(isMk c)) (by decide +kernel) c;rw[h]at this;simpa using this
def yP{p q:UInt8->Bool}{w r:aa}(b:w≠[])(h:∀c∈w,p c=true)(a:∀c,p c=true->q c=false):dG q (w++r):=by
 cases w with
 | nil=>exact absurd rfl b
 | cons c w=>exact fg (a c (h c kY))
def Ce{g l:Bool}{d:aa}{x s:Int}(h:okY g l d x s):∀c∈d,isDX c=true:=by
 intro c hc;unfold okY at h;have:bv c=true\/c=88:=by
  split at h
  ·exact .inl (h.1.1 c hc)
  ·exact h.2.1 c hc
 unfold isDX;rcases this with a | a
 ·rw[a];rfl
 ·rw[a];decide
def LZ{g l:Bool}{d:aa}{x s:Nat}(h:okY g l d (x:Int) (s:Int))(r:aa):dG isMk (fZ g l d (x:Int) (s:Int)++r):=by
 have a:d≠[]:=by
  have:=(gR h).2.2.2.2.1;rintro rfl;simp at this
 rw[ir];cases l with
 | true=>exact fg (by decide)
 | false=>
  cases g with
  | true=>exact fg (by decide)
  | false=>
   simp only[bI,aF,eo,gx];exact yP a (Ce h) (λc=>Gg)
def ww{S:aa}{p A B:Nat}{w R:aa}(h:S.drop p=db A B w++R)(l:A<4)(e:B<4)(j:dG isMk (w++(mt B++R)))(k:dG isMk R):
  mkS (S.drop p)=A/\S.drop (mkE S p)=w++(mt B++R)/\mkS (S.drop (mkE S p+w.length))=B/\S.drop (mkE S (mkE S p+w.length))=R/\mkE S (mkE S p+w.length)=p+(db A B w).length:=by
 have h':S.drop p=mt A++(w++(mt B++R)):=by rw[h];unfold db;simp
 obtain⟨m,i⟩:=NV l j;obtain⟨g,f⟩:=NV e k;have d:mkE S p=p+(mt A).length:=by unfold mkE;rw[h',i]
 have c:S.drop (mkE S p)=w++(mt B++R):=by rw[d];exact iP h'
 have b:S.drop (mkE S p+w.length)=mt B++R:=iP c;have a:mkE S (mkE S p+w.length)=mkE S p+w.length+(mt B).length:=by
  show mkE S p+w.length+mkN (S.drop (mkE S p+w.length))=_;rw[b,f]
 refine⟨by rw[h',m],c,by rw[b,g],by rw[a];exact iP b,?_⟩;rw[a,d];unfold db;simp only[aV];omega
def EW{m r:aa}(d:m.length=2)(h:∀c∈m,isDX c=true):twoN (m++r)=2/\(m++r).take 2=m:=by
 match m,d with
 | [a,b],_=>
  have e:=h a (by simp);have f:=h b (by simp);refine⟨?_,rfl⟩;unfold twoN;show bS isDX 2 (a::b::r)=2;simp[bS,e,f]
def Yu{k a b c:Nat}(d:k<2->b=0)(e:k<3->c=0)(f:1<=k):(k<2->(plA k a b c).2.1=0/\(plB k a b c).2.1=0)/\(k<3->(plA k a b c).2.2=0/\(plB k a b c).2.2=0):=by
 unfold plA plB;constructor
 ·intro h;have:k=1:=by omega
  subst this;have:=d h;split
  ·simp
  ·simp[this]
 ·intro h;have:=e h;split
  ·split
   ·simp
   ·have:k=2:=by omega
    simp[this]
  ·simp[this]
def rawD(A B:Nat×Nat×Nat)(g l:Bool)(dg:aa)(x q:Int)(m d:aa):aa:=
 db A.1 B.1 (fZ g l dg x q)++((if m=[]then[]else 45::db A.2.1 B.2.1 m)++(if d=[]then[]else 45::db A.2.2 B.2.2 d))
structure MkD(A B:Nat×Nat×Nat)(m d:aa):Prop where
 a0:A.1<4
 a1:A.2.1<4
 a2:A.2.2<4
 b0:B.1<4
 b1:B.2.1<4
 b2:B.2.2<4
 zm:m=[]->A.2.1=0/\B.2.1=0
 zd:d=[]->A.2.2=0/\B.2.2=0
structure ShD(g l:Bool)(dg:aa)(x q:Nat)(m d:aa):Prop where
 yr:okY g l dg (x:Int) (q:Int)
 noM:0<q->m=[]
 mon:m=[]\/(m.length=2/\∀c∈m,isDX c=true)
 day:d=[]\/(m≠[]/\d.length=2/\∀c∈d,isDX c=true)
def OkD.sh{g l:Bool}{dg:aa}{x q:Nat}{m d:aa}{k0 k1 k2:Nat}(h:OkD g l dg x q m d k0 k1 k2):ShD g l dg x q m d:=⟨h.yr,h.noM,h.mon,h.day⟩
def OkD.marks{g l:Bool}{dg:aa}{x q:Nat}{m d:aa}{k0 k1 k2:Nat}(h:OkD g l dg x q m d k0 k1 k2):MkD (plA (bp m d) k0 k1 k2) (plB (bp m d) k0 k1 k2) m d:=by
 obtain⟨X,U,W,E,Q,O⟩:=Yr (k:=bp m d) h.m0 h.m1 h.m2;obtain⟨J,F⟩:=Yu (a:=k0) h.z1 h.z2 (hZ m d).1;refine⟨X,U,W,E,Q,O,λC=>J ?_,λY=>F ?_⟩
 ·have G:d=[]:=h.day.resolve_right (λz=>z.1 C);subst C G;rw[JW];omega
 ·subst Y;by_cases C:m=[]
  ·subst C;rw[JW];omega
  ·rw[Hz C];omega
def Kw{A B:Nat×Nat×Nat}{g l:Bool}{dg:aa}{x q:Nat}{m d:aa}(i:ShD g l dg x q m d)(p:MkD A B m d){S:aa}{a:Nat}{post:aa}(h:S.drop a=rawD A B g l dg (x:Int) (q:Int) m d++post)
  (hp1:dG isYC post) (G:dG isMk post) (U:dG (λc=>c==45) post):
  ∃P:Nat×Nat×Nat,P.1=a+(mt A.1).length/\uu S a=.inr (g,l,dg,x,q,m,d,spM A B,P,a+(rawD A B g l dg (x:Int) (q:Int) m d).length):=by
 obtain⟨l0,l1,l2,M,l4,l5,Z,C⟩:=p;obtain⟨k,t,J⟩:=A;obtain⟨j,n,D⟩:=B;simp only at l0 l1 l2 M l4 l5 Z C h;unfold rawD at h ⊢;simp only at h ⊢;have I:isMk 45=false:=by decide
 have N:isYC 45=false:=by decide
 have t45:∀r:aa,dG (λc=>c==45) r->gm 45 r=0:=λr hr=>by
  cases r with
  | nil=>rfl
  | cons c r=>
   have:=hr c rfl;exact rh (λe=>by rw[e]at this;exact absurd this (by decide)) r
 have hyx:=QP i.yr;have O:=LZ i.yr;generalize hY:fZ g l dg (x:Int) (q:Int)=Y at *;have H:∀R:aa,S.drop a=db k j Y++R->dG isYC R->dG isMk R->
   mkE S a=a+(mt k).length/\mkS (S.drop a)=k/\sR (S.drop (mkE S a))=.inr (g,l,dg,x,q,Y.length)/\mkS (S.drop (mkE S a+Y.length))=j/\S.drop (mkE S (mkE S a+Y.length))=R/\mkE S (mkE S a+Y.length)=a+(db k j Y).length:=by
  intro R hR h1 T;obtain⟨E,F,v,s,w⟩:=ww hR l0 M (O _) T;refine⟨?_,E,?_,v,s,w⟩
  ·have hR':S.drop a=mt k++(Y++(mt j++R)):=by rw[hR];unfold db;simp
   unfold mkE;rw[hR',(NV l0 (O _)).2]
  rw[F];exact hyx _ (O8 j (by decide) (by decide) (by decide) h1)
 unfold uu;by_cases f:m=[]
 ·have b:d=[]:=i.day.resolve_right (λz=>z.1 f);subst f b;simp only[aS,mi]at h ⊢;obtain⟨w0,E,F,v,s,w⟩:=H post h hp1 G;rw[F];simp only[];rw[s,ae (.inr (t45 post U)),E,v,w];obtain⟨rfl,rfl⟩:=Z rfl;obtain⟨rfl,rfl⟩:=C rfl;exact⟨_,w0,rfl⟩
 ·have L:¬0<q:=λz=>f (i.noM z);obtain⟨o,y⟩:=i.mon.resolve_left f;rw[ab f]at h ⊢;have p:∀r,dG isMk (m++r):=λr=>yP f y (λc=>Gg);by_cases b:d=[]
  ·subst b;rw[ae rfl,mi]at h ⊢;have h':S.drop a=db k j Y++(45::(db t n m++post)):=by rw[h];simp
   obtain⟨w0,E,F,v,s,w⟩:=H _ h' (fg N) (fg I);rw[F];simp only[];rw[s,qC,ab (λz=>z.elim L (by omega)),E,v];unfold rd2;have T:S.drop (mkE S (mkE S a+Y.length)+1)=db t n m++post:=iP (u:=[45]) s;obtain⟨v1,v2,X,K,V⟩:=ww T l1 l4 (p _) G;obtain⟨Q,u2⟩:=EW (r:=mt n++post) o y;rw[<-v2]at Q u2;rw[o]at X K V;rw[Q,ad,K,t45 post U,ae rfl,u2,v1,X,V,w];obtain⟨rfl,rfl⟩:=C rfl;have:a+(db k j Y).length+1+(db t n m).length=a+(db k j Y++45::db t n m).length:=by simp only[aV,aI];omega
   rw[this];exact⟨_,w0,rfl⟩
  ·obtain⟨_,hdl,W⟩:=i.day.resolve_left b;rw[ab b]at h ⊢;have hdk:∀r,dG isMk (d++r):=λr=>yP b W (λc=>Gg);have h':S.drop a=db k j Y++(45::(db t n m++(45::(db J D d++post)))):=by rw[h];simp
   obtain⟨w0,E,F,v,s,w⟩:=H _ h' (fg N) (fg I);rw[F];simp only[];rw[s,qC,ab (λz=>z.elim L (by omega)),E,v];unfold rd2;have T:S.drop (mkE S (mkE S a+Y.length)+1)=db t n m++(45::(db J D d++post)):=iP (u:=[45]) s;obtain⟨v1,v2,X,K,V⟩:=ww T l1 l4 (p _) (fg I);obtain⟨Q,u2⟩:=EW (r:=mt n++(45::(db J D d++post))) o y;rw[<-v2]at Q u2;rw[o]at X K V;rw[Q,ad,K,qC,ad,u2,v1,X];unfold rd3;have h3:S.drop (mkE S (mkE S (mkE S (mkE S a+Y.length)+1)+2)+1)=db J D d++post:=iP (u:=[45]) K;obtain⟨x1,x2,x3,x4,x5⟩:=ww h3 l2 l5 (hdk _) G;obtain⟨s1,s2⟩:=EW (r:=mt D++post) hdl W;rw[<-x2]at s1 s2;rw[hdl]at x3 x4 x5;rw[s1,ad,s2,x1,x3,x5,V,w];have:a+(db k j Y).length+1+(db t n m).length+1+(db J D d).length=a+(db k j Y++(45::db t n m++45::db J D d)).length:=by simp only[aV,aI];omega
   rw[this];exact⟨_,w0,rfl⟩
def MR{g l:Bool}{dg:aa}{x q:Nat}{m d:aa}{k0 k1 k2:Nat}(b:OkD g l dg x q m d k0 k1 k2){S:aa}{a:Nat}{post:aa}(h:S.drop a=rV g l dg (x:Int) (q:Int) m d k0 k1 k2++post)
  (f:dG isYC post) (e:dG isMk post) (i:dG (λc=>c==45) post):
  ∃P,uu S a=.inr (g,l,dg,x,q,m,d,(k0,k1,k2),P,a+(rV g l dg (x:Int) (q:Int) m d k0 k1 k2).length):=by
 obtain⟨P,_,j⟩:=Kw b.sh b.marks (S:=S) (a:=a) (post:=post) h f e i;rw[acW (bp m d) k0 k1 k2 (hZ m d) b.m0 b.m1 b.m2 b.z1 b.z2]at j;exact⟨P,j⟩
def Rx{g l:Bool}{dg:aa}{x q:Nat}{m d:aa}{k0 k1 k2:Nat}(a:OkD g l dg x q m d k0 k1 k2):(rV g l dg (x:Int) (q:Int) m d k0 k1 k2).length<=37:=by
 have hy:=wq a.yr;have e:=o6 (plA (bp m d) k0 k1 k2).1 (plB (bp m d) k0 k1 k2).1 (fZ g l dg (x:Int) (q:Int));have f:=o6 (plA (bp m d) k0 k1 k2).2.1 (plB (bp m d) k0 k1 k2).2.1 m;have i:=o6 (plA (bp m d) k0 k1 k2).2.2 (plB (bp m d) k0 k1 k2).2.2 d;have c:m.length<=2:=by
  rcases a.mon with h | h
  ·rw[h];simp
  ·omega
 have b:d.length<=2:=by
  rcases a.day with h | h
  ·rw[h];simp
  ·omega
 unfold rV;simp only[aV];have a1:(if m=[]then[]else 45::db (plA (bp m d) k0 k1 k2).2.1 (plB (bp m d) k0 k1 k2).2.1 m).length<=5:=by
  split
  ·simp
  ·simp only[aI];omega
 have a2:(if d=[]then[]else 45::db (plA (bp m d) k0 k1 k2).2.2 (plB (bp m d) k0 k1 k2).2.2 d).length<=5:=by
  split
  ·simp
  ·simp only[aI];omega
 omega
def W8{A B:Nat×Nat×Nat}(d:A.1<4)(e:A.2.1<4)(f:A.2.2<4)(g0:B.1<4)(c:B.2.1<4)(b:B.2.2<4):(spM A B).1<4/\(spM A B).2.1<4/\(spM A B).2.2<4:=by
 have a:∀x y:Nat,x<4->y<4->x ||| y<4:=λx y hx hy=>(or4 hx hy).2;exact⟨a _ _ (a _ _ (a _ _ d g0) c) b,a _ _ (a _ _ e c) b,a _ _ f b⟩
structure RdOK(S:aa)(a:Nat)(dg m d:aa)(M:Nat×Nat×Nat)(e:Nat):Prop where
 dg17:dg.length<=17
 m2:m.length<=2
 d2:d.length<=2
 all:inM (bp m d) M
 le:a<=e
 end_:e<=S.length
def KV{S:aa}{a:Nat}(h:a<=S.length){g l:Bool}{dg:aa}{x s:Nat}{m d:aa}{M P:Nat×Nat×Nat}{e:Nat}(b:uu S a=.inr (g,l,dg,x,s,m,d,M,P,e)):RdOK S a dg m d M e:=by
 have c:∀p,mkS (S.drop p)<4:=λp=>Hi _;have o:0<4:=by omega
 have b0:=mg h;have g0:a<=mkE S a:=ED _ _;have n:∀p,p<=mkE S p:=λp=>ED _ _;unfold uu at b;cases hy:sR (S.drop (mkE S a))with
 | inl k=>rw[hy]at b;cases b
 | inr y=>
  obtain⟨K,N,E,H,s',k⟩:=y;obtain⟨_,bk,_,_,j⟩:=uj hy;have bk:mkE S a+k<=S.length:=by
   rw[cg]at bk;omega
  have b1:=mg bk;rw[hy]at b;simp only[]at b;by_cases hc:0<s'\/gm 45 (S.drop (mkE S (mkE S a+k)))=0
  ·rw[ae hc]at b;cases b;have:=W8 (A:=(mkS (S.drop a),0,0)) (B:=(mkS (S.drop (mkE S a+k)),0,0)) (c _) o o (c _) o o;refine⟨j,by simp,by simp,⟨this.1,this.2.1,this.2.2,λ_=>by simp[spM],λ_=>by simp[spM]⟩,?_,b1⟩;have:=n (mkE S a+k);omega
  ·rw[ab hc]at b;have v:=uR (λz=>hc (.inr z));have I:=mg v;unfold rd2 at b;by_cases u:twoN (S.drop (mkE S (mkE S (mkE S a+k)+1)))<2
   ·rw[ae u]at b;cases b
   ·rw[ab u]at b;have b2:=xX u;have F:=mg b2;have f:(List.take 2 (S.drop (mkE S (mkE S (mkE S a+k)+1)))).length=2:=by rw[dN,cg];omega
    have L:=n (mkE S a+k);have J:=n (mkE S (mkE S a+k)+1);have O:=n (mkE S (mkE S (mkE S a+k)+1)+2);by_cases i:gm 45 (S.drop (mkE S (mkE S (mkE S (mkE S a+k)+1)+2)))=0
    ·rw[ae i]at b;cases b;have:=W8 (A:=(mkS (S.drop a),mkS (S.drop (mkE S (mkE S a+k)+1)),0)) (B:=(mkS (S.drop (mkE S a+k)),mkS (S.drop (mkE S (mkE S (mkE S a+k)+1)+2)),0)) (c _) (c _) o (c _) (c _) o;refine⟨j,by omega,by simp,⟨this.1,this.2.1,this.2.2,λz=>?_,λ_=>by simp[spM]⟩,by omega,F⟩;rw[Hz (rW f)]at z;omega
    ·rw[ab i]at b;have t:=uR i;have D:=mg t;unfold rd3 at b;by_cases r:twoN (S.drop (mkE S (mkE S (mkE S (mkE S (mkE S a+k)+1)+2)+1)))<2
     ·rw[ae r]at b;cases b
     ·rw[ab r]at b;have w:=xX r;have C:=mg w;have q:(List.take 2 (S.drop (mkE S (mkE S (mkE S (mkE S (mkE S a+k)+1)+2)+1)))).length=2:=by rw[dN,cg];omega
      cases b;have G:=n (mkE S (mkE S (mkE S (mkE S a+k)+1)+2)+1);have Q:=n (mkE S (mkE S (mkE S (mkE S (mkE S a+k)+1)+2)+1)+2);have:=W8 (A:=(mkS (S.drop a),mkS (S.drop (mkE S (mkE S a+k)+1)),mkS (S.drop (mkE S (mkE S (mkE S (mkE S a+k)+1)+2)+1)))) (B:=(mkS (S.drop (mkE S a+k)),mkS (S.drop (mkE S (mkE S (mkE S a+k)+1)+2)),mkS (S.drop (mkE S (mkE S (mkE S (mkE S (mkE S a+k)+1)+2)+1)+2)))) (c _) (c _) (c _) (c _) (c _) (c _);refine⟨j,by omega,by omega,⟨this.1,this.2.1,this.2.2,λz=>?_,λz=>?_⟩,by omega,C⟩
      ·rw[FN (rW f) (rW q)]at z;omega
      ·rw[FN (rW f) (rW q)]at z;omega
def Ot{g l:Bool}{dg:aa}{x q:Int}{m d:aa}{k0 k1 k2:Int}(a:allM k0 k1 k2 (bp m d)=0):chkD g l dg x q m d k0 k1 k2=0\/chkD g l dg x q m d k0 k1 k2=6\/chkD g l dg x q m d k0 k1 k2=7\/chkD g l dg x q m d k0 k1 k2=8:=by
 unfold chkD;rw[a];generalize yrD g l dg x q m=b1;generalize(!(m==[])&&(!(decide (0<sea m))&&!(eW m 12)))=b2;generalize(!(d==[])&&((m==[])||(decide (0<sea m)||!(eW d 31))))=b;cases b1<;>cases b2<;>cases b<;>simp
def xb{p:UInt8->Bool}:dG p []:=λc hc=>by cases hc
def monT(j:Nat):aa:=if j=0 then[]else if j<=12 then two j else if j<=33 then two (j+8)else([[48,88],[49,88],[88,50],[88,88],[88,48],[88,57]]:List aa).getD (j - 34) []
def adh(m:aa):Nat:=if m=[48,50]then 28 else if m=[48,52]\/m=[48,54]\/m=[48,57]\/m=[49,49]\/m=[88,57]then 30 else 31
def dayT(j:Nat)(m:aa):aa:=if j=0 then[]else if j<=31 then two (min j (adh m))else if m=[48,50]/\j=35 then[50,88]else([[48,88],[49,88],[50,88],[51,88],[88,48],[88,49],[88,88],[88,56]]:List aa).getD (j - 32) []
def r40{p:Nat->Bool}(h:(List.range 40).all p=true){a:Nat}(b:a<40):p a=true:=(cb.1 h) a (il.2 b)
noncomputable def U6(m:Nat)(a0:Int)(a1:Bool)(a2 c d f b a e:Int)(j:Nat):Bool:=ie (m+300) a0 a1 a2 c d (j:Int) f b a e==some (monT j)
def OI(m:Nat)(a0:Int)(a1:Bool)(a2 c d f b a e:Int):((List.range 40).all λj=>U6 m a0 a1 a2 c d f b a e j)=true:=by kernel_rfl
def Wz(a:Nat)(h:a<256):wrap .i64 (Int.tmod (a:Int) 40)=((a%40:Nat):Int):=by
 have:Int.tmod (a:Int) 40=((a%40:Nat):Int):=rfl;rw[this,wd]
def Vv(j:Nat)(h:j<40):wrap .i64 (Int.tmod (j:Int) 40)=(j:Int):=by
 rw[Wz j (by omega)];have:j%40=j:=by omega
 rw[this]
def CV(m:Nat)(a0:Int)(a1:Bool)(a2 e g:Int)(b:Nat)(j d c i:Int)(h:b<256):ie (m+300) a0 a1 a2 e g (b:Int) j d c i=some (monT (b%40)):=by
 have f:b%40<40:=by omega
 have a:=r40 (OI m a0 a1 a2 e g j d c i) f;unfold U6 at a;have a:=bA.1 a;unfold ie at a ⊢;rw[Vv _ f]at a;rw[Wz _ h];exact a
def Pg{j:Nat}(h:j<40):monT j=[]\/0<sea (monT j)\/(sea (monT j)=0/\eW (monT j) 12=true):=by
 have:((List.range 40).all λj=>decide (monT j=[])||(decide (0<sea (monT j))||(decide (sea (monT j)=0)&&eW (monT j) 12)))=true:=by decide +kernel
 have:=r40 this h;simpa using this
def GV{j:Nat}(h:j<40)(hs:sea (monT j)=0)(a:monT j≠[]):monT j∈((List.range 12).map λi=>two (i+1))++[[48,88],[49,88],[88,50],[88,88],[88,48],[88,57]]:=by
 have:((List.range 40).all λj=>!decide (sea (monT j)=0)||(decide (monT j=[])||decide (monT j∈((List.range 12).map λi=>two (i+1))++[[48,88],[49,88],[88,50],[88,88],[88,48],[88,57]])))=true:=by decide +kernel
 have:=r40 this h;rw[ar hs,au a]at this;simpa using this
noncomputable def Vh(m:Nat)(a0:Int)(a1:Bool)(a2 d f e c b g:Int)(a:aa)(j:Nat):Bool:=jP (m+300) a0 a1 a2 d f e (j:Int) c b g a==some (dayT j a)
def Qw(m:Nat)(a0:Int)(a1:Bool)(a2 d f e c a g:Int):((((List.range 12).map λi=>two (i+1))++[[48,88],[49,88],[88,50],[88,88],[88,48],[88,57]]).all λb=>(List.range 40).all λj=>Vh m a0 a1 a2 d f e c a g b j)=true:=by kernel_rfl
def JB(m:Nat)(a0:Int)(a1:Bool)(a2 g j f:Int)(c:Nat)(e d l:Int)(b:aa)(n:b∈((List.range 12).map λi=>two (i+1))++[[48,88],[49,88],[88,50],[88,88],[88,48],[88,57]])(h:c<256):jP (m+300) a0 a1 a2 g j f (c:Int) e d l b=some (dayT (c%40) b):=by
 have k:c%40<40:=by omega
 have a:=r40 ((cb.1 (Qw m a0 a1 a2 g j f e d l)) b n) k;unfold Vh at a;have a:=bA.1 a;unfold jP at a ⊢;rw[Vv _ k]at a;rw[Wz _ h];exact a
def Pq{j:Nat}(h:j<40){a:aa}(b:a∈((List.range 12).map λi=>two (i+1))++[[48,88],[49,88],[88,50],[88,88],[88,48],[88,57]]):dayT j a=[]\/eW (dayT j a) 31=true:=by
 have:((((List.range 12).map λi=>two (i+1))++[[48,88],[49,88],[88,50],[88,88],[88,48],[88,57]]).all λa=>(List.range 40).all λj=>decide (dayT j a=[])||eW (dayT j a) 31)=true:=by decide +kernel
 have:=r40 ((cb.1 this) a b) h;simpa using this
def mksT(k a b c:Nat):Nat×Nat×Nat:=(a%4,if 1<k then b%4 else 0,if 2<k then c%4 else 0)
def zP(k a b c:Nat):allM ((mksT k a b c).1:Int) ((mksT k a b c).2.1:Int) ((mksT k a b c).2.2:Int) k=0:=by
 apply Ao;refine⟨by simp only[mksT];omega,?_,?_,?_,?_⟩
 ·simp only[mksT];split<;>omega
 ·simp only[mksT];split<;>omega
 ·intro h;simp only[mksT];rw[ad]
 ·intro h;simp only[mksT];rw[ad]
def JA{g l:Bool}{d:aa}{x s:Int}(h:okY g l d x s)(i:d.length<=5)(b:x<=11):tH g d x=false:=by
 unfold tH;cases j:hasX d with
 | true=>rfl
 | false=>
  obtain⟨k,q,rfl,rfl,f⟩:=va h j;have a:=tR d 0 0 f.dig (by decide);rw[dj]at a;have m:dval 0 d<10 ^ 5:=re a (mK (by omega) i);have e:10 ^ k<=10 ^ 11:=mK (by omega) (by omega);have c:val d k≠E16:=by
   unfold val E16;have:dval 0 d*10 ^ k<=99999*10 ^ 11:=zy (by omega) e;omega
  rw[co,au c];simp
def G7{g l:Bool}{dg:aa}{x q:Int}{m d:aa}{k0 k1 k2:Int}(h:okY g l dg x q)(c:tH g dg x=false)(k:0<q->m=[])(i:m=[]\/0<sea m\/(sea m=0/\eW m 12=true))(p:d=[]\/(m≠[]/\sea m=0/\eW d 31=true))(b:allM k0 k1 k2 (bp m d)=0):chkD g l dg x q m d k0 k1 k2=0:=by
 have hy:yrD g l dg x q m=true:=by
  unfold yrD yrB;rw[ae h,c];by_cases a:0<q
  ·rw[k a];simp
  ·simp[a]
 unfold chkD;rw[hy,b];have j:(!(m==[])&&(!(decide (0<sea m))&&!(eW m 12)))=false:=by
  rcases i with h | h | ⟨_,h⟩
  ·rw[h];rfl
  ·rw[ar h];simp
  ·rw[h];simp
 have f:(!(d==[])&&((m==[])||(decide (0<sea m)||!(eW d 31))))=false:=by
  rcases p with h | ⟨n,o,e⟩
  ·rw[h];rfl
  ·rw[aL.2 n,o,e];simp
 rw[j,f];rfl
def minL(a:Nat):Nat:=if a=2 then 28 else if a=4\/a=6\/a=9\/a=11 then 30 else 31
def fitD(a d:aa):Bool:=(List.range' 1 12).any λi=>agr a i&&(List.range' 1 (minL i)).any (agr d)
def Xs:((((List.range 12).map λi=>two (i+1))++[[48,88],[49,88],[88,50],[88,88],[88,48],[88,57]]).all λa=>(List.range 40).all λj=>(dayT j a==[])||fitD a (dayT j a))=true:=by decide +kernel
def J9{j:Nat}(h:j<40){a:aa}(b:a∈((List.range 12).map λi=>two (i+1))++[[48,88],[49,88],[88,50],[88,88],[88,48],[88,57]]):dayT j a=[]\/fitD a (dayT j a)=true:=by
 have:=r40 ((cb.1 Xs) a b) h;simp only[jk,bA]at this;exact this
def abf(m a0 a2 K J A v i j n:Nat)(g:Bool)(I:a2<65536)(T:K<256)(S:J<256)(Y:A<256)(V:v<256)(h7:i<256)(h8:j<256)(h9:n<256):
  ∃k l dg x q f d k0 k1 k2,aQ (m+300) (a0:Int) g (a2:Int) (K:Int) (J:Int) (A:Int) (v:Int) (i:Int) (j:Int) (n:Int)=some (k,l,dg,((x:Nat):Int),((q:Nat):Int),f,d,((k0:Nat):Int),((k1:Nat):Int),((k2:Nat):Int))/\chkD k l dg (x:Int) (q:Int) f d (k0:Int) (k1:Int) (k2:Int)=0/\OkD k l dg x q f d k0 k1 k2/\(d=[]\/fitD f d=true):=by
 obtain⟨k,l,dg,x,q,e,B,L,D⟩:=abA m a0 a2 K J g I T S;have G:=JA B L D;obtain⟨s1,s2,s3,s4,s5,s6⟩:=gR B
 suffices H:∃f d,aQ (m+300) (a0:Int) g (a2:Int) (K:Int) (J:Int) (A:Int) (v:Int) (i:Int) (j:Int) (n:Int)=some (k,l,dg,x,q,f,d,((mksT (bp f d) i j n).1:Int),((mksT (bp f d) i j n).2.1:Int),((mksT (bp f d) i j n).2.2:Int))/\chkD k l dg x q f d ((mksT (bp f d) i j n).1:Int) ((mksT (bp f d) i j n).2.1:Int) ((mksT (bp f d) i j n).2.2:Int)=0/\(d=[]\/fitD f d=true)by
  obtain⟨f,d,Z,I,R⟩:=H;obtain⟨U,X,a,b,c,e1,W,N,P,Q,M⟩:=Gk (by omega) (by omega) (by omega) I;subst e1 W;refine⟨k,l,dg,U,X,f,d,a,b,c,?_,?_,M,R⟩
  ·rw[Z,N,P,Q]
  ·rw[<-N,<-P,<-Q];exact I
 have t7:Int.tmod (i:Int) 4=((i%4:Nat):Int):=rfl;have t8:Int.tmod (j:Int) 4=((j%4:Nat):Int):=rfl;have t9:Int.tmod (n:Int) 4=((n%4:Nat):Int):=rfl;have p:∀(f d:aa) (o:Option (Bool×Bool×aa×Int×Int×aa×aa×Int×Int×Int)),
   (ob (am (m+300) k l dg x q f d 0 0 0) λr=>cond (decide ((0:Int)<r)) (ob (am (m+300) k l dg x q f d (Int.tmod (i:Int) 4) 0 0) λr=>cond (decide ((1:Int)<r)) (ob (am (m+300) k l dg x q f d (Int.tmod (i:Int) 4) (Int.tmod (j:Int) 4) 0) λr=>cond (decide ((2:Int)<r)) (ob (am (m+300) k l dg x q f d (Int.tmod (i:Int) 4) (Int.tmod (j:Int) 4) (Int.tmod (n:Int) 4)) λr=>cond (decide ((3:Int)<r)) none (some (k,l,dg,x,q,f,d,Int.tmod (i:Int) 4,Int.tmod (j:Int) 4,Int.tmod (n:Int) 4))) (some (k,l,dg,x,q,f,d,Int.tmod (i:Int) 4,Int.tmod (j:Int) 4,0))) (some (k,l,dg,x,q,f,d,Int.tmod (i:Int) 4,0,0))) (some (k,l,dg,x,q,f,d,0,0,0)))=some (k,l,dg,x,q,f,d,((mksT (bp f d) i j n).1:Int),((mksT (bp f d) i j n).2.1:Int),((mksT (bp f d) i j n).2.2:Int)):=by
  intro f d _;have hc:=hZ f d;have:bp f d=1\/bp f d=2\/bp f d=3:=by omega
  rw[dO,dO,dO,dO];rcases this with h | h | h<;>rw[h]<;>rfl
 unfold aQ;rw[e];simp only[ob,d4];rw[iQ];by_cases O:q=0
 ·rw[ae O];rw[CV m _ _ _ _ _ A _ _ _ _ Y];have F:A%40<40:=by omega
  have y:=Pg F;have E:=GV F;generalize monT (A%40)=f at y E ⊢;show ∃t d,cond (!(f==[])) _ _=_/\_;by_cases s:f=[]
  ·subst s;refine⟨[],[],p [] [] none,?_,.inl rfl⟩;exact G7 B G (λ_=>rfl) (.inl rfl) (.inl rfl) (zP _ _ _ _)
  ·rw[aL.2 s];show ∃t d,ob (aC (m+300) k l dg x q f [] 0 0 0) _=_/\_;rw[nl (m+300) (by omega)];show ∃t d,cond (sea f==0) _ _=_/\_;rw[iQ];by_cases hs:sea f=0
   ·rw[ae hs];have w:=E hs s;rw[JB m _ _ _ _ _ _ v _ _ _ f w V];have C:=Pq (show v%40<40 by omega) w;have u:=J9 (show v%40<40 by omega) w;generalize dayT (v%40) f=d at C u ⊢;refine⟨f,d,p f d none,?_,u⟩;refine G7 B G (λz=>by omega) y ?_ (zP _ _ _ _);rcases C with C | C
    ·exact .inl C
    ·exact .inr ⟨s,hs,C⟩
   ·rw[ab hs];refine⟨f,[],p f [] none,?_,.inl rfl⟩;exact G7 B G (λz=>by omega) y (.inl rfl) (zP _ _ _ _)
 ·rw[ab O];refine⟨[],[],p [] [] none,?_,.inl rfl⟩;exact G7 B G (λ_=>rfl) (.inl rfl) (.inl rfl) (zP _ _ _ _)
def RI(n:Nat)(g l:Bool)(dg:aa)(x q:Int)(m d:aa)(k0 k1 k2:Int)(a:m.length<=18):bD n g l dg x q m d k0 k1 k2=some (if d=[]then(if 0<sea m then 0 else if m=[]then 1 else 2)else 3):=by
 unfold bD;rw[rH n g l dg x q m d k0 k1 k2 a];by_cases b:d=[]
 ·rw[ae b,b];show cond (decide (0<sea m)) _ _=_;rw[bN];by_cases hs:0<sea m
  ·rw[ae hs,ae hs]
  ·rw[ab hs,ab hs];by_cases a:m=[]
   ·rw[ae a,a];rfl
   ·rw[ab a,aL.2 a];rfl
 ·rw[ab b,aL.2 b];rfl
def LJ(n:Nat)(g l:Bool)(dg:aa)(x q:Int)(m d:aa)(k0 k1 k2:Int)(f:m.length<=18)(j:dg.length<=100)(e:0<=k0)(h:0<=k1)(i:0<=k2):
  dM (n+300) g l dg x q m d k0 k1 k2=some (if chkD g l dg x q m d k0 k1 k2=0 then(rV g l dg x q m d k0.toNat k1.toNat k2.toNat,0)else([],chkD g l dg x q m d k0 k1 k2)):=by
 by_cases hc:chkD g l dg x q m d k0 k1 k2=0
 ·obtain⟨t,o,a,b,c,v,s,r,p,u,k⟩:=Gk e h i hc;subst v s r p u;exact Xr n g l dg t o m d a b c f j
 ·rw[ab hc];unfold dM;rw[Eh (n+300) (by omega) g l dg _ _ m d _ _ _ f j e h i];show cond (chkD g l dg x q m d k0 k1 k2 != 0) _ _=_;rw[yA,ab hc]
def Ny(n:Nat){g l:Bool}{dg:aa}{x q:Int}{m d:aa}{k0 k1 k2:Int}(i:0<=k0)(o:0<=k1)(r:0<=k2)(hc:chkD g l dg x q m d k0 k1 k2=0):
  gF (n+300) g l dg x q m d k0 k1 k2=some (rV g l dg x q m d k0.toNat k1.toNat k2.toNat):=by
 obtain⟨t,s,a,b,c,p,j,h,f,k,e⟩:=Gk i o r hc;subst p j h f k;exact Np n e
def yx(a b:aa):hasX (a++b)=(hasX a||hasX b):=by unfold hasX;rw[rf]
def G0(n:Nat)(g l:Bool)(dg:aa)(x q:Int)(m d:aa)(k0 k1 k2:Int)(a:m.length<=1000)(b:dg.length<=1000)(h:d.length<=1000):
  eP n g l dg x q m d k0 k1 k2=some (hasX dg||(hasX m||hasX d)):=by
 unfold eP;rw[dm (by omega)];simp only[ob];rw[dm (by simp only[aV];omega)];simp only[ob];rw[Hr,yx,yx,Bool.or_assoc]
def Ea(d:aa)(k q:Nat):Nat×Nat:=if 0<q then(val d k / 10 ^ (d.length+k - q)*10 ^ (d.length+k - q),min (val d k / 10 ^ (d.length+k - q)*10 ^ (d.length+k - q)+10 ^ (d.length+k - q) - 1) E16)else(val d k,val d k)
def sgn(g:Bool)(p:Nat×Nat):Int×Int:=if g then(-(p.2:Int),-(p.1:Int))else((p.1:Int),(p.2:Int))
def GW(n:Nat)(g l:Bool)(d:aa)(k q:Nat)(B:200<n)(A:d.length<=100)(e:Num d k q):
  aU n g l d (k:Int) (q:Int)=some (sgn g (Ea d k q)):=by
 have D:=e.wide;have hs:=e.small;have C:=e.sig;unfold aU;rw[rS n g l d k q (by omega) (by omega),wv e.dig,kU n d k e.dig A (by omega) (by omega),ae hs];have p:dval 0 d*10 ^ k=val d k:=rfl;rw[p]at hs ⊢;unfold E16 at hs;have f:((if false=true then(1:Int)else 0)==1)=false:=rfl;simp only[ob,f,af];by_cases j:0<q
 ·have h:decide ((q:Int)>0)=true:=ar (by omega);have w0:wrap .i64 (wrap .i64 ((d.length:Int)+(k:Int)) - (q:Int))=((d.length+k - q:Nat):Int):=by
   rw[wrap_i64 ((d.length:Int)+(k:Int)) (by omega) (by omega),wd];omega
  have z:10 ^ (d.length+k - q)<=10 ^ 16:=mK (by decide) (by omega);have w:(10:Nat) ^ 16=10000000000000000:=by decide
  have one:dval 0 [49]=1:=by decide
  have a:dval 0 [49]*10 ^ (d.length+k - q)<=E16:=by rw[one];unfold E16;omega
  rw[h,w0,kU n [49] (d.length+k - q) (by decide) (by decide) (by omega) (by simp;omega),ae a,one,zM];simp only[ah];have E:1<=10 ^ (d.length+k - q):=DU _ _ (by decide);unfold sgn Ea;rw[ae j];clear a;generalize 10 ^ (d.length+k - q)=u at *;generalize val d k=v at *;have d2:((u:Int)==0)=false:=aL.2 (by omega);have c:Int.tdiv (v:Int) (u:Int)=((v / u:Nat):Int):=rfl;have r:v / u*u<=v:=HM v u;have m:v / u<=v:=Ii v u;have x:wrap .i64 ((v / u:Nat):Int)=((v / u:Nat):Int):=by
   generalize v / u=t at *;exact wrap_i64 _ (by omega) (by omega)
  have y:wrap .i64 (((v / u:Nat):Int)*(u:Int))=((v / u*u:Nat):Int):=by
   rw[<-K3];exact wrap_i64 _ (by omega) (by omega)
  rw[d2,af,c,x,y];generalize v / u*u=lo at *;have o:wrap .i64 (wrap .i64 ((lo:Int)+(u:Int)) - 1)=((lo+u - 1:Nat):Int):=by
   rw[wrap_i64 ((lo:Int)+(u:Int)) (by omega) (by omega),wd];omega
  rw[o];have b:(cond (decide ((10000000000000000:Int)<((lo+u - 1:Nat):Int))) (10000000000000000:Int) ((lo+u - 1:Nat):Int))=((min (lo+u - 1) E16:Nat):Int):=by
   unfold E16;by_cases i:(10000000000000000:Int)<((lo+u - 1:Nat):Int)
   ·rw[ar i,ah];omega
   ·rw[au i,af];omega
  rw[b];have s:min (lo+u - 1) E16<=10000000000000000:=Iu _ _;generalize min (lo+u - 1) E16=hi at *;cases g with
  | true=>
   simp only[ah,aS];rw[wd,wd,C0,C0]
  | false=>simp
 ·have h:decide ((q:Int)>0)=false:=au (by omega);rw[h,af];unfold sgn Ea;rw[ab j];cases g with
  | true=>
   simp only[ah,aS];rw[wd,C0]
  | false=>simp
def fC(z:UInt8)(d:aa):aa:=d.map λc=>if c=88 then z else c
def kz(z:UInt8)(d:aa):(fC z d).length=d.length:=by simp[fC]
def uv{z:UInt8}(a:bv z=true){d:aa}(h:∀c∈d,bv c=true\/c=88):∀c∈fC z d,bv c=true:=by
 intro c hc;obtain⟨b,e,rfl⟩:=eY.1 hc;by_cases hx:b=88
 ·rw[ae hx];exact a
 ·rw[ab hx];exact(h b e).resolve_right hx
def AP{z:UInt8}{d:aa}{i:Nat}{c:UInt8}(h:d[i]?=some c):(fC z d)[i]?=some (if c=88 then z else c):=by
 simp[fC,h]
def vZ(d:aa):Nat:=10 ^ (d.reverse.takeWhile (λc=>c != 88)).length
def mH(g:Bool)(d:aa):Nat×Nat:=(if g=true/\dval 0 (fC 48 d)=0 then vZ d else dval 0 (fC 48 d),dval 0 (fC 57 d))
def Xv(m:Nat):aU (m+300) true false [48,48,48,88] 0 0=some (sgn true (mH true [48,48,48,88])):=by kernel_rfl
def XX(m:Nat):aU (m+300) true false [48,48,88,48] 0 0=some (sgn true (mH true [48,48,88,48])):=by kernel_rfl
def WN(m:Nat):aU (m+300) true false [48,48,88,88] 0 0=some (sgn true (mH true [48,48,88,88])):=by kernel_rfl
def Xm(m:Nat):aU (m+300) true false [48,88,48,48] 0 0=some (sgn true (mH true [48,88,48,48])):=by kernel_rfl
def Wx(m:Nat):aU (m+300) true false [48,88,48,88] 0 0=some (sgn true (mH true [48,88,48,88])):=by kernel_rfl
def XI(m:Nat):aU (m+300) true false [48,88,88,48] 0 0=some (sgn true (mH true [48,88,88,48])):=by kernel_rfl
def We(m:Nat):aU (m+300) true false [48,88,88,88] 0 0=some (sgn true (mH true [48,88,88,88])):=by kernel_rfl
def Wi(m:Nat):aU (m+300) true false [88,48,48,48] 0 0=some (sgn true (mH true [88,48,48,48])):=by kernel_rfl
def Xc(m:Nat):aU (m+300) true false [88,48,48,88] 0 0=some (sgn true (mH true [88,48,48,88])):=by kernel_rfl
def Xl(m:Nat):aU (m+300) true false [88,48,88,48] 0 0=some (sgn true (mH true [88,48,88,48])):=by kernel_rfl
def R1(m:Nat):aU (m+300) true false [88,48,88,88] 0 0=some (sgn true (mH true [88,48,88,88])):=by kernel_rfl
def R7(m:Nat):aU (m+300) true false [88,88,48,48] 0 0=some (sgn true (mH true [88,88,48,48])):=by kernel_rfl
def SS(m:Nat):aU (m+300) true false [88,88,48,88] 0 0=some (sgn true (mH true [88,88,48,88])):=by kernel_rfl
def SH(m:Nat):aU (m+300) true false [88,88,88,48] 0 0=some (sgn true (mH true [88,88,88,48])):=by kernel_rfl
def TT(m:Nat):aU (m+300) true false [88,88,88,88] 0 0=some (sgn true (mH true [88,88,88,88])):=by kernel_rfl
def Gm{d:aa}(i:d.length=4)(h:∀c∈d,bv c=true\/c=88)(k:dval 0 (fC 48 d)=0):∀c∈d,c=48\/c=88:=by
 match d,i with
 | [a,b,c,e],_=>
  have g:=uv (z:=48) (by decide) h;have l:dval 0 (fC 48 [a,b,c,e])=((((0*10+((if a=88 then(48:UInt8)else a).toNat - 48))*10+((if b=88 then(48:UInt8)else b).toNat - 48))*10+((if c=88 then(48:UInt8)else c).toNat - 48))*10+((if e=88 then(48:UInt8)else e).toNat - 48)):=by
   simp only[fC,gW,List.map_nil,rE,sD,yw]
  rw[l]at k;have key:∀x:UInt8,bv (if x=88 then(48:UInt8)else x)=true->(if x=88 then(48:UInt8)else x).toNat - 48=0->x=48\/x=88:=by
   intro x hx j;by_cases f:x=88
   ·exact .inr f
   ·rw[ab f]at hx j;have:=(cA x).1 hx;exact .inl (ii.1 (by show x.toNat=48;omega))
  simp only[fC,gW,List.map_nil,ck,nB,ov,Et,forall_eq]at g ⊢;exact⟨key a g.1 (by omega),key b g.2.1 (by omega),key c g.2.2.1 (by omega),key e g.2.2.2 (by omega)⟩
def C3{d:aa}(m:d.length=4)(h:∀c∈d,c=48\/c=88)(z:hasX d=true)(P:aa->Prop)(u:P [48,48,48,88])(w:P [48,48,88,48])(t:P [48,48,88,88])(n:P [48,88,48,48])(l:P [48,88,48,88])(v:P [48,88,88,48])(r:P [48,88,88,88])(p:P [88,48,48,48])(s:P [88,48,48,88])(y:P [88,48,88,48])(g:P [88,48,88,88])(k:P [88,88,48,48])(j:P [88,88,48,88])(f:P [88,88,88,48])(i:P [88,88,88,88]):P d:=by
 match d,m with
 | [a,b,c,e],_=>
  simp only[ck,nB,ov,Et,forall_eq]at h;obtain⟨q,o,hc,x⟩:=h;rcases q with rfl | rfl<;>rcases o with rfl | rfl<;>rcases hc with rfl | rfl<;>rcases x with rfl | rfl
  ·exact absurd z (by decide)
  ·exact u
  ·exact w
  ·exact t
  ·exact n
  ·exact l
  ·exact v
  ·exact r
  ·exact p
  ·exact s
  ·exact y
  ·exact g
  ·exact k
  ·exact j
  ·exact f
  ·exact i
def Jh(n:Nat)(g l:Bool)(d:aa)(x s:Int)(o:d.length=4)(p:4<n):av (ia n) n ([],[],0,g,l,d,x,s)=some (fC 48 d,fC 57 d,g,l,d,x,s):=by
 refine gL (step:=ia n) (λq=>∃i:Nat,i<=4/\q=((fC 48 d).take i,(fC 57 d).take i,(i:Int),g,l,d,x,s)) (λq=>4 - q.2.2.1.toNat) (λ_=>(fC 48 d,fC 57 d,g,l,d,x,s)) ?_ n _ ⟨0,by omega,by simp⟩ (by simp;omega);rintro q ⟨i,hi,rfl⟩;rcases aN i 4 with m | h
 ·obtain⟨c,hc⟩:∃c,d[i]?=some c:=⟨d[i],ba (by omega)⟩;have b:=XT (AP (z:=48) hc);have f:=XT (AP (z:=57) hc);have j:decide ((i:Int)<4)=true:=ar (by omega);have k:wrap .i64 ((i:Int)+1)=((i+1:Nat):Int):=by rw[wd];omega
  refine .inl ⟨((fC 48 d).take (i+1),(fC 57 d).take (i+1),((i+1:Nat):Int),g,l,d,x,s),?_,⟨i+1,by omega,rfl⟩,by simp only[co];omega,rfl⟩;simp only[ia,j,ah,k,de (show i+1<=d.length by omega),de (show i<=i+1 by omega),ob,cut1 hc];have a:∀z:UInt8,((fC z d).take i).length<=4:=λz=>by rw[dN];omega
  rw[b,f];by_cases hx:c=88
  ·have e:(([c]:aa)==[88])=true:=by rw[hx];rfl
   rw[e,ah,ae hx,ae hx,dm (by have:=a 48;simp;omega),dm (by have:=a 57;simp;omega)]
  ·have e:(([c]:aa)==[88])=false:=by
    rw[aL];intro e;exact hx (by simpa using e)
   rw[e,af,ab hx,ab hx,dm (by have:=a 48;simp;omega),dm (by have:=a 57;simp;omega)]
 ·have:i=4:=by omega
  subst this;refine .inr ?_;rw[kr (by rw[kz];omega),kr (by rw[kz];omega)];rfl
def Ns{d:aa}(h:d=[48,48,48,48]):dval 0 d=0:=by rw[h];decide
def DO(m:Nat)(g:Bool)(d:aa)(h:okY g false d 0 0)(k:hasX d=true):aU (m+300) g false d 0 0=some (sgn g (mH g d)):=by
 obtain⟨_,_,_,j,l⟩:=tK h k;by_cases f:g=true/\dval 0 (fC 48 d)=0
 ·obtain⟨rfl,f⟩:=f;exact C3 j (Gm j l f) k (λd=>aU (m+300) true false d 0 0=some (sgn true (mH true d))) (Xv m) (XX m) (WN m) (Xm m) (Wx m) (XI m) (We m) (Wi m) (Xc m) (Xl m) (R1 m) (R7 m) (SS m) (SH m) (TT m)
 ·have hs:mH g d=(dval 0 (fC 48 d),dval 0 (fC 57 d)):=by unfold mH;rw[ab f]
  have i:=uv (z:=48) (by decide) l;have c:=uv (z:=57) (by decide) l;have p:=tR (fC 48 d) 0 0 i (by simp);have q:=tR (fC 57 d) 0 0 c (by simp);rw[kz,j]at p q;have r:(10:Nat) ^ (4+0)=10000:=by decide
  have m1:aq (m+300) (fC 48 d) 0=some (((dval 0 (fC 48 d):Nat):Int),1):=by
   have:=kU (m+300) (fC 48 d) 0 i (by rw[kz];omega) (by omega) (by rw[kz];omega);rw[ae (by unfold E16;simp only[E4,tz];omega)]at this;simpa using this
  have m2:aq (m+300) (fC 57 d) 0=some (((dval 0 (fC 57 d):Nat):Int),1):=by
   have:=kU (m+300) (fC 57 d) 0 c (by rw[kz];omega) (by omega) (by rw[kz];omega);rw[ae (by unfold E16;simp only[E4,tz];omega)]at this;simpa using this
  have o:((if true=true then(1:Int)else 0)==1)=true:=rfl;have n:decide ((0:Int)>0)=false:=rfl;unfold aU;rw[rS _ g false d 0 0 (by omega) (by omega),k,Jh _ g false d 0 0 j (by omega),hs];simp only[ob,aS,xY,ah];cases g with
  | true=>
   have e:(fC 48 d==([48,48,48,48]:aa))=false:=by
    rw[aL];intro e;exact f ⟨rfl,Ns e⟩
   simp only[ah,e,af,m1,m2,n,sgn,aS];generalize dval 0 (fC 48 d)=a at *;generalize dval 0 (fC 57 d)=b at *;rw[wd,wd,C0,C0]
  | false=>simp only[af,m1,m2,n,sgn,bI,aF]
def qE(g:Bool)(d:aa)(x s:Int):Nat×Nat:=if hasX d then mH g d else Ea d x.toNat s.toNat
def Us(m:Nat)(g l:Bool)(d:aa)(x s:Int)(b:d.length<=100)(h:okY g l d x s):aU (m+300) g l d x s=some (sgn g (qE g d x s)):=by
 unfold qE;cases a:hasX d with
 | true=>
  obtain⟨rfl,rfl,rfl,f,e⟩:=tK h a;exact DO m g d h a
 | false=>
  obtain⟨k,q,rfl,rfl,c⟩:=va h a;exact GW _ g l d k q (by omega) b c
def Yw{d:aa}{k q:Nat}(h:Num d k q):(Ea d k q).1<=val d k/\val d k<=(Ea d k q).2/\(Ea d k q).2<=E16:=by
 have hs:=h.small;have c:dval 0 d*10 ^ k=val d k:=rfl;rw[c]at hs;unfold Ea;split
 ·have a:1<=10 ^ (d.length+k - q):=DU _ _ (by decide);generalize 10 ^ (d.length+k - q)=u at a ⊢;generalize val d k=v at hs ⊢;have b:=HM v u;have e:v<v / u*u+u:=by
   have h:=Nat.div_add_mod v u;have:=ua v a;rw[xw]at h;omega
  refine⟨b,?_,Iu _ _⟩;rw[Nat.le_min];omega
 ·exact⟨bi _,bi _,hs⟩
def mtk(d:aa):Nat->Nat->Bool
 | 0,_=>true
 | k+1,w=>(decide (d.getD k 0=88)||decide ((d.getD k 0).toNat=48+w%10))&&mtk d k (w / 10)
def Fb(d:aa)(k w:Nat):mtk d (k+1) w=((decide (d.getD k 0=88)||decide ((d.getD k 0).toNat=48+w%10))&&mtk d k (w / 10)):=rfl
def E8{d:aa}{k:Nat}{c:UInt8}(h:d[k]?=some c):d.getD k 0=c:=by
 rw[G5,h];rfl
def N1(n:Nat)(g l:Bool)(d:aa)(x s:Int)(t:d.length=4):∀(k w:Nat),k<=4->w<100000000000000000->∀q,k<q->
  av (cr n) q ((w:Int),(k:Int) - 1,g,l,d,x,s)=some (if mtk d k w=true then .inr ((w / 10 ^ k:Nat):Int)else .inl 0)
 | 0,w,m,y,q,v=>by
  obtain⟨q,rfl⟩:∃p,q=p+1:=⟨q - 1,by omega⟩;have b:decide (((0:Nat):Int) - 1>=0)=false:=rfl;have j:mtk d 0 w=true:=rfl;simp only[av,cr,b,af];rw[ae j];simp
 | k+1,w,m,y,q,v=>by
  obtain⟨q,rfl⟩:∃p,q=p+1:=⟨q - 1,by omega⟩;have ih:=N1 n g l d x s t k (w / 10) (by omega) (by omega) q (by omega);obtain⟨c,hc⟩:∃c,d[k]?=some c:=⟨d[k],ba (by omega)⟩;have A:((k+1:Nat):Int) - 1=(k:Int):=by omega
  have b:decide ((k:Int)>=0)=true:=ar (by omega);have r:Int.tmod (w:Int) 10=((w%10:Nat):Int):=rfl;have eq':Int.tdiv (w:Int) 10=((w / 10:Nat):Int):=rfl;have u:wrap .i64 (48+((w%10:Nat):Int))=((48+w%10:Nat):Int):=by rw[wd];omega
  have z:wrap .u8 ((48+w%10:Nat):Int)=((48+w%10:Nat):Int):=gJ _ (by omega) (by omega);have o:wrap .i64 ((w / 10:Nat):Int)=((w / 10:Nat):Int):=wrap_i64 _ (by omega) (by omega);have B:wrap .i64 ((k:Int) - 1)=(k:Int) - 1:=wrap_i64 _ (by omega) (by omega);have a:w / 10 ^ (k+1)=w / 10 / 10 ^ k:=by rw[vz,xw,Nat.div_div_eq_div_mul]
  rw[Fb,E8 hc,a,A];simp only[av,cr,b,ah,fh hc,ob,r,eq',u,z,o,B];by_cases hx:c=88
  ·have i:((c.toNat:Int) != 88)=false:=by rw[hx];rfl
   rw[i,ar hx];simp only[af,FT,rG];exact ih
  ·have i:((c.toNat:Int) != 88)=true:=by
    simp only[bne,ko,aL];intro e;exact hx (ii.1 (by show c.toNat=88;omega))
   rw[i,au hx];simp only[ah,qK];by_cases f:c.toNat=48+w%10
   ·have h:((c.toNat:Int) != ((48+w%10:Nat):Int))=false:=by rw[f];simp
    rw[h,ar f];simp only[af,rG];exact ih
   ·have h:((c.toNat:Int) != ((48+w%10:Nat):Int))=true:=by
     simp only[bne,ko,aL];omega
    rw[h,au f];simp only[ah,yh];rfl
def IY(d:aa)(k q:Nat):Nat:=if 0<q then 10 ^ (d.length+k - q)else 1
def memP(d:aa)(x s:Int)(w:Nat):Prop:=if hasX d=true then mtk d 4 w=true/\w / 10 ^ 4=0 else val d x.toNat / IY d x.toNat s.toNat=w / IY d x.toNat s.toNat
instance (d:aa)(x s:Int)(w:Nat):Decidable (memP d x s w):=by unfold memP;infer_instance
def wOf(g:Bool)(v:Int):Int:=if g then -v else v
def inP(g:Bool)(d:aa)(x s v:Int):Prop:=-10000000000000000<=v/\v<=10000000000000000/\0<=wOf g v/\¬(hasX d=true/\g=true/\wOf g v=0)/\memP d x s (wOf g v).toNat
instance (g:Bool)(d:aa)(x s v:Int):Decidable (inP g d x s v):=by unfold inP;infer_instance
noncomputable def inT(n:Nat)(a0 a1:Bool)(a2:aa)(g h W:Int):Option Int:=
 (ob (aJ n a0 a1 a2 g h) λe=>cond (e==1) (ob (av (cr n) n (W,3,a0,a1,a2,g,h)) λf=>Sum.casesOn (motive:=λ_=>Option _) f (λc=>some c) (λd=>cond (decide (d>0)) (some 0) (some 1))) (ob (aq n a2 g) λb=>cond (decide (h>0)) (ob (aq n [49] (wrap .i64 ((wrap .i64 ((a2.length:Int)+g)) - h))) λa=>cond (a.1==0) none (cond (a.1==0) none (cond ((wrap .i64 (Int.tdiv b.1 a.1))==(wrap .i64 (Int.tdiv W a.1))) (some 1) (some 0)))) (cond ((wrap .i64 (Int.tdiv b.1 1))==(wrap .i64 (Int.tdiv W 1))) (some 1) (some 0))))
def Ou(a b:Nat):((a:Int)==(b:Int))=decide (a=b):=by
 by_cases h:a=b
 ·subst h;simp
 ·rw[au h,aL];omega
def LK{d:aa}{x s:Int}{w:Nat}(a:hasX d=true):memP d x s w↔mtk d 4 w=true/\w / 10 ^ 4=0:=by unfold memP;rw[ae a]
def VE{d:aa}{x s:Int}{w:Nat}(a:hasX d=false):memP d x s w↔val d x.toNat / IY d x.toNat s.toNat=w / IY d x.toNat s.toNat:=by unfold memP;rw[ab (by rw[a];simp)]
def in_T(m:Nat){g l:Bool}{d:aa}{x s:Int}(n:okY g l d x s)(w:Nat)(S:w<=10000000000000000):inT (m+300) g l d x s (w:Int)=some (if memP d x s w then 1 else 0):=by
 have O:=gR n;have J:=rS (m+300) g l d x s (by omega) (by omega);unfold inT;cases i:hasX d with
 | true=>
  obtain⟨rfl,rfl,rfl,K,_⟩:=tK n i;have C:=N1 (m+300) g false d 0 0 K 4 w (by omega) (by omega) (m+300) (by omega);have hlp':av (cr (m+300)) (m+300) ((w:Int),3,g,false,d,0,0)=_:=C;have D:((1:Int)==1)=true:=rfl;have o:aJ (m+300) g false d 0 0=some 1:=by rw[J,i];rfl
  rw[o];simp only[ob,D,ah,hlp'];by_cases A:mtk d 4 w=true
  ·rw[ae A];by_cases y:w / 10 ^ 4=0
   ·have e:decide (((w / 10 ^ 4:Nat):Int)>0)=false:=au (by rw[y];decide);rw[ae ((LK i).2 ⟨A,y⟩)];simp only[e,af]
   ·have e:decide (((w / 10 ^ 4:Nat):Int)>0)=true:=ar (by
     generalize w / 10 ^ 4=t at y ⊢;omega)
    rw[ab (λq=>y ((LK i).1 q).2)];simp only[e,ah]
  ·rw[ab A,ab (λq=>A ((LK i).1 q).1)]
 | false=>
  obtain⟨k,q,rfl,rfl,z⟩:=va n i;have hw':=z.wide;have hs:=z.small;have R:=z.sig;have G:dval 0 d*10 ^ k=val d k:=rfl;have H:=kU (m+300) d k z.dig (by omega) (by omega) (by omega);rw[ae hs,G]at H;rw[G]at hs;unfold E16 at hs;have B:((0:Int)==1)=false:=rfl;have o:aJ (m+300) g l d k q=some 0:=by rw[J,i];rfl
  have c:=VE (x:=(k:Int)) (s:=(q:Int)) (w:=w) i;rw[co,co]at c;unfold IY at c;rw[o];simp only[ob,B,af,H];by_cases I:0<q
  ·have F:decide ((q:Int)>0)=true:=ar (by omega);have w0:wrap .i64 (wrap .i64 ((d.length:Int)+(k:Int)) - (q:Int))=((d.length+k - q:Nat):Int):=by
    rw[wrap_i64 ((d.length:Int)+(k:Int)) (by omega) (by omega),wd];omega
   have E:10 ^ (d.length+k - q)<=10 ^ 16:=mK (by decide) (by omega);have M:(10:Nat) ^ 16=10000000000000000:=by decide
   have one:dval 0 [49]=1:=by decide
   have h:dval 0 [49]*10 ^ (d.length+k - q)<=E16:=by rw[one];unfold E16;omega
   have j:=kU (m+300) [49] (d.length+k - q) (by decide) (by decide) (by omega) (by simp;omega);rw[ae h,one,zM]at j;have Q:1<=10 ^ (d.length+k - q):=DU _ _ (by decide);rw[F,w0,j];rw[ae I]at c;clear h j;generalize 10 ^ (d.length+k - q)=u at Q E c ⊢;generalize val d k=v at hs c ⊢;have d2:((u:Int)==0)=false:=aL.2 (by omega);have p:Int.tdiv (v:Int) (u:Int)=((v / u:Nat):Int):=rfl;have r:Int.tdiv (w:Int) (u:Int)=((w / u:Nat):Int):=rfl;have L:v / u<=v:=Ii v u;have P:w / u<=w:=Ii w u;simp only[ah,d2,af,p,r];generalize v / u=a at L c ⊢;generalize w / u=b at P c ⊢;rw[wd,wd,Ou];by_cases f:a=b
   ·rw[ar f,ae (c.2 f)];rfl
   ·rw[au f,ab (λq=>f (c.1 q))];rfl
  ·have F:decide ((q:Int)>0)=false:=au (by omega);have N:∀a:Nat,Int.tdiv (a:Int) 1=(a:Int):=λa=>by
    have:Int.tdiv (a:Int) 1=((a / 1:Nat):Int):=rfl;rw[this,vG]
   rw[ab I,vG,vG]at c;rw[F];simp only[af,N];rw[wd,wd,Ou];by_cases f:val d k=w
   ·rw[ar f,ae (c.2 f)];rfl
   ·rw[au f,ab (λq=>f (c.1 q))];rfl
def ZF(m:Nat){g l:Bool}{d:aa}{x s:Int}(k:okY g l d x s)(v:Int):pt (m+300) g l d x s v=some (if inP g d x s v then 1 else 0):=by
 have y:=gR k;have b:=λw o=>in_T m k w o;have p:=rS (m+300) g l d x s (by omega) (by omega);unfold inT at b;unfold pt;by_cases t:v < -10000000000000000
 ·rw[ar t,ab (λq=>by have:=q.1;omega)];rfl
 ·rw[au t,af];by_cases u:v>10000000000000000
  ·rw[ar u,ab (λq=>by have:=q.2.1;omega)];rfl
  ·rw[au u,af];cases g with
   | true=>
    have w0:wrap .i64 (0 - v)=-v:=by rw[wd];omega
    simp only[ah,w0];by_cases n:-v<0
    ·rw[ar n,ab (λq=>by have:=q.2.2.1;unfold wOf at this;simp only[aS]at this;omega)];rfl
    ·rw[au n,af];obtain⟨w,o⟩:∃w:Nat,-v=(w:Int):=⟨(-v).toNat,by omega⟩;have b:=b w (by omega);have h:wOf true v=(w:Int):=by unfold wOf;simpa using o
     have c:¬(hasX d=true/\w=0)->(inP true d x s v↔memP d x s w):=by
      intro r;unfold inP;rw[h,co];constructor
      ·exactλq=>q.2.2.2.2
      ·exactλq=>⟨by omega,by omega,by omega,λq=>r ⟨q.1,by omega⟩,q⟩
     rw[o];cases j:hasX d with
     | true=>
      have a:aJ (m+300) true l d x s=some 1:=by rw[p,j];rfl
      rw[a];have f:((1:Int)==1)=true:=rfl;simp only[ob,f,ah];by_cases r:w=0
      ·have e:((w:Int)==0)=true:=bA.2 (by omega);rw[e,ab (λq=>q.2.2.2.1 ⟨j,rfl,by rw[h];omega⟩)];rfl
      ·have e:((w:Int)==0)=false:=aL.2 (by omega);rw[a]at b;simp only[ob,f,ah]at b;rw[e,af,b];have:=c (λq=>r q.2);by_cases hp:memP d x s w
       ·rw[ae hp,ae (this.2 hp)]
       ·rw[ab hp,ab (λq=>hp (this.1 q))]
     | false=>
      have a:aJ (m+300) true l d x s=some 0:=by rw[p,j];rfl
      have i:((0:Int)==1)=false:=rfl;rw[a]at b ⊢;simp only[ob,i,af]at b ⊢;rw[b];have:=c (λq=>by rw[j]at q;cases q.1);by_cases hp:memP d x s w
      ·rw[ae hp,ae (this.2 hp)]
      ·rw[ab hp,ab (λq=>hp (this.1 q))]
   | false=>
    simp only[af];by_cases n:v<0
    ·rw[ar n,ab (λq=>by have:=q.2.2.1;unfold wOf at this;simp only[bI,aF]at this;omega)];rfl
    ·rw[au n,af];obtain⟨w,rfl⟩:∃w:Nat,v=(w:Int):=⟨v.toNat,by omega⟩;have b:=b w (by omega);have h:wOf false (w:Int)=(w:Int):=rfl;have c:inP false d x s (w:Int)↔memP d x s w:=by
      unfold inP;rw[h,co];constructor
      ·exactλq=>q.2.2.2.2
      ·exactλq=>⟨by omega,by omega,by omega,λq=>(by cases q.2.1),q⟩
     cases j:hasX d with
     | true=>
      have a:aJ (m+300) false l d x s=some 1:=by rw[p,j];rfl
      rw[a]at b ⊢;have f:((1:Int)==1)=true:=rfl;simp only[ob,f,ah]at b ⊢;rw[b];by_cases hp:memP d x s w
      ·rw[ae hp,ae (c.2 hp)]
      ·rw[ab hp,ab (λq=>hp (c.1 q))]
     | false=>
      have a:aJ (m+300) false l d x s=some 0:=by rw[p,j];rfl
      rw[a]at b ⊢;have i:((0:Int)==1)=false:=rfl;simp only[ob,i,af]at b ⊢;rw[b];by_cases hp:memP d x s w
      ·rw[ae hp,ae (c.2 hp)]
      ·rw[ab hp,ab (λq=>hp (c.1 q))]
def loK(d:aa)(k:Nat):Nat:=dval 0 ((fC 48 d).take k)
def hiK(d:aa)(k:Nat):Nat:=dval 0 ((fC 57 d).take k)
def zF(z:UInt8){d:aa}{k:Nat}{c:UInt8}(h:d[k]?=some c):dval 0 ((fC z d).take (k+1))=dval 0 ((fC z d).take k)*10+((if c=88 then z else c).toNat - 48):=by
 rw[XT (AP h),Jw]
def GH(d:aa)(e:d.length=4)(l:∀c∈d,bv c=true\/c=88):∀(k w:Nat),k<=4->w<10 ^ k->mtk d k w=true->loK d k<=w/\w<=hiK d k
 | 0,w,j,b,a=>by
  simp at b;subst b;simp[loK,hiK,sD]
 | k+1,w,j,b,a=>by
  obtain⟨c,hc⟩:∃c,d[k]?=some c:=⟨d[k],ba (by omega)⟩;rw[Fb,E8 hc,aD,jk,cK,cK]at a;have hp:(10:Nat) ^ (k+1)=10 ^ k*10:=vz 10 k;have ih:=GH d e l k (w / 10) (by omega) (by omega) a.2;have h:=zF 48 hc;have f:=zF 57 hc;unfold loK hiK at ih ⊢;rw[h,f];by_cases hx:c=88
  ·rw[ae hx,ae hx];have i:(48:UInt8).toNat - 48=0:=rfl;have g:(57:UInt8).toNat - 48=9:=rfl;rw[i,g];omega
  ·rw[ab hx,ab hx];have:=a.1.resolve_left hx;omega
def EK(z:UInt8)(g:bv z=true)(d:aa)(i:d.length=4)(h:∀c∈d,bv c=true\/c=88):∀k,k<=4->mtk d k (dval 0 ((fC z d).take k))=true
 | 0,_=>rfl
 | k+1,n=>by
  obtain⟨c,hc⟩:∃c,d[k]?=some c:=⟨d[k],ba (by omega)⟩;have ih:=EK z g d i h k (by omega);have e:bv (if c=88 then z else c)=true:=by
   by_cases hx:c=88
   ·rw[ae hx];exact g
   ·rw[ab hx];exact(h c (fR hc)).resolve_right hx
  have j:=(cA _).1 e;rw[Fb,E8 hc,zF z hc];generalize f:(if c=88 then z else c)=b at j ⊢;generalize dval 0 ((fC z d).take k)=a at ih ⊢;have m:(a*10+(b.toNat - 48)) / 10=a:=by omega
  have l:(a*10+(b.toNat - 48))%10=b.toNat - 48:=by omega
  rw[m,l,ih,BX];by_cases hx:c=88
  ·rw[ar hx];rfl
  ·rw[ab hx]at f;rw[f,ar (show b.toNat=48+(b.toNat - 48)by omega),Bool.or_true]
def ES:List (aa):=[[48,48,48,88],[48,48,88,48],[48,48,88,88],[48,88,48,48],[48,88,48,88],[48,88,88,48],[48,88,88,88],[88,48,48,48],[88,48,48,88],[88,48,88,48],[88,48,88,88],[88,88,48,48],[88,88,48,88],[88,88,88,48],[88,88,88,88]]
def acm:ES.all (λd=>mtk d 4 (vZ d)&&decide (1<=vZ d)&&decide (vZ d<=1000)&&(List.range 1000).all (λw=>decide (w=0)||!mtk d 4 w||decide (vZ d<=w)))=true:=by decide +kernel
def FH{d:aa}(j:d∈ES):mtk d 4 (vZ d)=true/\1<=vZ d/\vZ d<=1000/\∀w,1<=w->mtk d 4 w=true->vZ d<=w:=by
 have h:=cb.1 acm d j;simp only[aD,cK,cb,il,jk,ko]at h;obtain⟨⟨⟨g,i⟩,e⟩,b⟩:=h;refine⟨g,i,e,λw k f=>?_⟩;rcases aN w 1000 with a | c
 ·rcases b w a with(h | h) | h
  ·omega
  ·rw[f]at h;cases h
  ·exact h
 ·omega
def Gv{d:aa}(a:d.length=4)(e:∀c∈d,bv c=true\/c=88)(f:hasX d=true)(b:dval 0 (fC 48 d)=0):d∈ES:=
 C3 a (Gm a e b) f (λd=>d∈ES) (by decide) (by decide) (by decide) (by decide) (by decide) (by decide) (by decide) (by decide) (by decide) (by decide) (by decide) (by decide) (by decide) (by decide) (by decide)
def V4{d:aa}(a:d.length=4):loK d 4=dval 0 (fC 48 d):=by
 unfold loK;rw[kr (by rw[kz];omega)]
def Wp{d:aa}(a:d.length=4):hiK d 4=dval 0 (fC 57 d):=by
 unfold hiK;rw[kr (by rw[kz];omega)]
def SC{g:Bool}{d:aa}(b:d.length=4)(f:∀c∈d,bv c=true\/c=88)(q:hasX d=true):
  (mH g d).1<10000/\(mH g d).2<10000/\mtk d 4 (mH g d).1=true/\mtk d 4 (mH g d).2=true/\1<=(mH g d).2/\(g=true->1<=(mH g d).1)/\∀w,w<10000->mtk d 4 w=true->(g=true->1<=w)->(mH g d).1<=w/\w<=(mH g d).2:=by
 have r:(10:Nat) ^ 4=10000:=by decide
 have o:=uv (z:=48) (by decide) f;have n:=uv (z:=57) (by decide) f;have b1:=tR (fC 48 d) 0 0 o (by simp);have b2:=tR (fC 57 d) 0 0 n (by simp);rw[kz,b,dj,r]at b1 b2;have m1:=EK 48 (by decide) d b f 4 (by omega);have m2:=EK 57 (by decide) d b f 4 (by omega);rw[kr (by rw[kz];omega)]at m1 m2;have l:∀w,w<10000->mtk d 4 w=true->dval 0 (fC 48 d)<=w/\w<=dval 0 (fC 57 d):=λw m h=>by
  have:=GH d b f 4 w (by omega) (by omega) h;rw[V4 b,Wp b]at this;exact this
 have j:1<=dval 0 (fC 57 d):=by
  rcases DW (dval 0 (fC 57 d))with i | i
  ·exfalso;have e:dval 0 (fC 48 d)=0:=by
    have:=(l _ b1 m1).2;omega
   have p:=Gv b f q e;have a:=FH p;have:=(l _ (by omega) a.1).2;omega
  ·exact i
 unfold mH;by_cases e:g=true/\dval 0 (fC 48 d)=0
 ·rw[ae e];have a:=FH (Gv b f q e.2);refine⟨by simp only;omega,b2,a.1,m2,j,λ_=>a.2.1,λw m h k=>⟨a.2.2.2 w (k e.1) h,(l w m h).2⟩⟩
 ·rw[ab e];refine⟨b1,b2,m1,m2,j,λk=>?_,λw m h k=>l w m h⟩;simp only;rcases DW (dval 0 (fC 48 d))with i | i
  ·exact absurd ⟨k,i⟩ e
  ·exact i
def Tf{g l:Bool}{d:aa}{x s:Int}(f:okY g l d x s):(qE g d x s).1<=10000000000000000/\(qE g d x s).2<=10000000000000000/\memP d x s (qE g d x s).1/\memP d x s (qE g d x s).2/\(hasX d=true->1<=(qE g d x s).2/\(g=true->1<=(qE g d x s).1))/\
  ∀w,w<=10000000000000000->memP d x s w->(hasX d=true->g=true->1<=w)->(qE g d x s).1<=w/\w<=(qE g d x s).2:=by
 unfold qE memP;cases r:hasX d with
 | true=>
  obtain⟨rfl,rfl,rfl,F,M⟩:=tK f r;obtain⟨H,D,J,I,C,O,L⟩:=SC (g:=g) F M r;have E:(10:Nat) ^ 4=10000:=by decide
  simp only[aS,E];refine⟨by omega,by omega,⟨J,Nat.div_eq_of_lt H⟩,⟨I,Nat.div_eq_of_lt D⟩,λ_=>⟨C,O⟩,λw z j N=>L w (by omega) j.1 (N trivial)⟩
 | false=>
  obtain⟨k,q,rfl,rfl,y⟩:=va f r;have hs:=y.small;have G:dval 0 d*10 ^ k=val d k:=rfl;rw[G]at hs;obtain⟨c,i,b⟩:=Yw y;unfold E16 at b;simp only[bI,aF,co];unfold IY;unfold Ea at c i b ⊢;by_cases m:0<q
  ·rw[ae m]at c i b ⊢;rw[ae m];have B:1<=10 ^ (d.length+k - q):=DU _ _ (by decide);generalize 10 ^ (d.length+k - q)=u at *;generalize val d k=v at *;simp only at c i b ⊢;have e:v / u*u / u=v / u:=Nat.mul_div_cancel _ B;have n:∀w,v / u*u<=w->w<v / u*u+u->w / u=v / u:=by
    intro w A o;apply Nat.div_eq_of_lt_le
    ·exact A
    ·rw[Dw];exact o
   have a:∀w,v / u=w / u->v / u*u<=w/\w<v / u*u+u:=by
    intro w h;rw[h];have A:=HM w u;have o:=Nat.div_add_mod w u;have P:=ua w B;rw[xw]at o;omega
   have t:min (v / u*u+u - 1) E16<=v / u*u+u - 1:=Nat.min_le_left _ _;have p:=a v rfl;refine⟨by omega,b,e.symm,(n _ (by omega) (by omega)).symm,λq=>(by cases q),λw z j _=>?_⟩;obtain⟨K,Q⟩:=a w j;refine⟨K,?_⟩;rw[Nat.le_min];unfold E16;omega
  ·rw[ab m]at c i b ⊢;rw[ab m];simp only[vG]at c i b ⊢;refine⟨b,b,trivial,trivial,λq=>(by cases q),λw z j _=>by omega⟩
def ID{g l:Bool}{d:aa}{x s:Int}(r:okY g l d x s):inP g d x s (sgn g (qE g d x s)).1/\inP g d x s (sgn g (qE g d x s)).2/\∀v,inP g d x s v->(sgn g (qE g d x s)).1<=v/\v<=(sgn g (qE g d x s)).2:=by
 obtain⟨k,i,n,m,f,w⟩:=Tf r;generalize qE g d x s=D at *;obtain⟨lo,hi⟩:=D;simp only at k i n m f w;cases g with
 | true=>
  have b:∀a:Nat,wOf true (-(a:Int))=(a:Int):=λa=>by unfold wOf;simp
  have mk:∀a:Nat,a<=10000000000000000->memP d x s a->(hasX d=true->1<=a)->inP true d x s (-(a:Int)):=by
   intro a C p z;refine⟨by omega,by omega,by rw[b];omega,λq=>?_,by rw[b,co];exact p⟩;have:=z q.1;have y:=q.2.2;rw[b]at y;omega
  simp only[sgn,aS];refine⟨mk hi i m (λh=>(f h).1),mk lo k n (λh=>(f h).2 rfl),λv j=>?_⟩;obtain⟨A,B,u,o,c⟩:=j;have t:wOf true v=-v:=rfl;rw[t]at u o c
  have:=w (-v).toNat (by omega) c (λhx _=>by
   have:¬-v=0:=λe=>o ⟨hx,rfl,e⟩;omega)
  omega
 | false=>
  have b:∀a:Int,wOf false a=a:=λa=>rfl;have mk:∀a:Nat,a<=10000000000000000->memP d x s a->inP false d x s (a:Int):=by
   intro a C p;exact⟨by omega,by omega,by rw[b];omega,λq=>(by cases q.2.1),by rw[b,co];exact p⟩
  simp only[sgn,bI,aF];refine⟨mk lo k n,mk hi i m,λv j=>?_⟩;obtain⟨A,B,u,o,c⟩:=j;rw[b]at u c;have:=w v.toNat (by omega) c (λ_ q=>by cases q);omega
end Go.Sh
namespace Go.Sh.Mk
open Go.Abs
def okB(c:UInt8):Bool:=c.toNat==88||(decide (48<=c.toNat)&&decide (c.toNat<=57))
def chk(s:aa):Int:=if 18<s.length then 3 else if s.all okB then(if s=[]then 5 else 0)else 5
def yq(n:Nat)(s0 s:aa)(r:s.length+1<n):
  av (jW n) n (s0,s,0)=some (if s.all okB then .inr s0 else .inl 5):=by
 have:=gL (step:=jW n) (λx=>x.1=s0/\x.2.1=s/\x.2.2<=s.length) (λx=>s.length - x.2.2)
  (λx=>if(s.drop x.2.2).all okB then .inr s0 else .inl 5) ?_ n (s0,s,0) ⟨rfl,rfl,lc _⟩ (by simp;omega)
 ·simpa using this
 rintro⟨a,b,i⟩ ⟨rfl,rfl,hi⟩;simp only at hi ⊢;rcases aN i b.length with k | m
 ·obtain⟨c,hc⟩:∃c,b[i]?=some c:=⟨b[i],ba k⟩;have o:Nat.blt i b.length=true:=dc k;rw[da hc,oL];simp only[jW,o,ah];by_cases g:c.toNat<128
  ·rw[Dp hc g];by_cases l:c.toNat=88
   ·refine .inl ⟨(a,b,i+1),by simp[l],⟨rfl,rfl,by simp only;omega⟩,by simp only;omega,?_⟩;simp[okB,l]
   ·by_cases q:c.toNat<48
    ·refine .inr ?_;have f:((c.toNat:Int) != 88)=true:=by simp;omega
     have e:(decide ((c.toNat:Int)<48))=true:=by simp;omega
     have d:okB c=false:=by simp[okB];omega
     simp[f,e,d]
    ·by_cases p:57<c.toNat
     ·refine .inr ?_;have f:((c.toNat:Int) != 88)=true:=by simp;omega
      have e:(decide ((c.toNat:Int)<48))=false:=by simp;omega
      have j:(decide ((c.toNat:Int)>57))=true:=by simp;omega
      have d:okB c=false:=by simp[okB];omega
      simp[f,e,d,j]
     ·have f:((c.toNat:Int) != 88)=true:=by simp;omega
      have e:(decide ((c.toNat:Int)<48))=false:=by simp;omega
      have j:(decide ((c.toNat:Int)>57))=false:=by simp;omega
      have d:okB c=true:=by simp[okB];omega
      refine .inl ⟨(a,b,i+1),by simp only[f,e,j,ah,af],⟨rfl,rfl,by simp only;omega⟩,by simp only;omega,?_⟩;simp[d]
  ·obtain⟨t,u⟩:=Lo hc (by omega);refine .inr ?_;have f:((((dec b i).1:Nat):Int) != 88)=true:=by simp;omega
   have e:(decide ((((dec b i).1:Nat):Int)<48))=false:=by simp;omega
   have j:(decide ((((dec b i).1:Nat):Int)>57))=true:=by simp;omega
   have d:okB c=false:=by simp[okB];omega
   simp[f,e,d,j]
 ·have o:Nat.blt i b.length=false:=by
   cases h:Nat.blt i b.length with
   | false=>rfl
   | true=>have:i<b.length:=aR h;omega
  refine .inr ?_;simp only[jW,o,af];rw[kW m];rfl
def nI(n:Nat)(s:aa)(b:30<=n):lV n s=some (chk s):=by
 unfold lV chk;by_cases h:18<s.length
 ·have:(decide ((s.length:Int)>18))=true:=by simp;omega
  simp[this,h]
 ·have e:(decide ((s.length:Int)>18))=false:=by simp;omega
  simp only[e,af,h,aF];rw[yq n s s (by omega)];by_cases a:s.all okB=true
  ·simp only[a,aS,ob];by_cases hs:s=[]
   ·simp[hs]
   ·have:(s==([]:aa))=false:=by simpa using hs
    simp[this,hs]
  ·simp[a,ob]
def pO{s:aa}(h:chk s=0):s.length<=18/\s≠[]/\∀c∈s,okB c=true:=by
 unfold chk at h;split at h
 ·simp at h
 ·split at h
  ·rename_i a;split at h
   ·simp at h
   ·rename_i hs;exact⟨by omega,hs,by simpa using a⟩
  ·simp at h
def nums(l:aa):List Int:=l.map λb=>(b.toNat:Int)
def over(d:List Int)(i:Nat)(l:List Int):List Int:=d.take i++(l++d.drop (i+l.length))
def EH(d:List Int)(i:Nat)(x:Int)(l:List Int)(h:i<d.length):over (d.set i x) (i+1) l=over d i (x::l):=by
 unfold over;rw[show(d.set i x).take (i+1)=d.take i++[x]from by
  rw[Q6 (by simpa using h)];simp[List.take_set_of_le]]
 rw[List.drop_set_of_lt (by omega)];simp[iy,qP 1]
def La(d:List Int)(i:Nat):over d i []=d:=by simp[over]
def SK(d:List Int)(i:Nat)(l:List Int)(h:i+l.length<=d.length):(over d i l).length=d.length:=by
 unfold over;simp;omega
def SL{x y:UInt8}:((x.toNat:Int)==(y.toNat:Int))=decide (x=y):=by
 by_cases h:x=y
 ·simp[h]
 ·have:x.toNat≠y.toNat:=λe=>h (ii.1 e);simp[h];omega
def Dz{x:UInt8}:((x.toNat:Int)==88)=decide (x=88):=by
 have:=SL (x:=x) (y:=88);simpa using this
def dg:Nat->Int->List Int
 | 0,_=>[]
 | L+1,k=>dg L (k / 10)++[48+k%10]
def Ad:∀(L:Nat) (k:Int),(dg L k).length=L
 | 0,_=>rfl
 | L+1,k=>by simp[dg,Ad L]
def wI:∀(L:Nat) (k:Int),∀x∈dg L k,48<=x/\x<58
 | 0,_,x,h=>by simp[dg]at h
 | L+1,k,x,h=>by
  simp only[dg,md,nh]at h;rcases h with h | rfl
  ·exact wI L _ x h
  ·omega
def kQ:aa->List Int->Bool
 | c::m,d::l=>(c==88||decide ((c.toNat:Int)=d))&&kQ m l
 | _,_=>true
def ye:∀{a c:aa} {b d:List Int},a.length=b.length->kQ (a++c) (b++d)=(kQ a b&&kQ c d)
 | [],c,[],d,_=>by simp[kQ]
 | x::a,c,y::b,d,h=>by
  simp only[aI,zI]at h;simp only[fK,kQ,ye h,Bool.and_assoc]
def hasM(m:aa)(k:Int):Bool:=decide (0<=k)&&(decide (k<10 ^ m.length)&&kQ m (dg m.length k))
def Sz(L:Nat)(h:L<=18):sw 20000000 (L:Int)=some (10 ^ L):=by
 have a:allN (λi=>match sw 20000000 (i:Int)with | some r=>decide (r=10 ^ i) | none=>false) 19=true:=by kernel_rfl
 have:=IL a L (by omega);split at this
 ·rename_i r b;rw[b];simpa using this
 ·cases this
def GN(L:Nat)(h:L<=18):(10:Int) ^ L<=1000000000000000000:=by
 have a:allN (λi=>decide ((10:Int) ^ i<=1000000000000000000)) 19=true:=by kernel_rfl
 simpa using IL a L (by omega)
def abr{k:Int}(h:0<=k):Int.tmod k 10=k%10:=O1 h
def aah{k:Int}(h:0<=k):Int.tdiv k 10=k / 10:=VW h
def L2(k:Int)(i:Nat)(d:List Int)(a:0<=k)(c:k<9223372036854775808)(hi:i<=18)(b:d.length=18):
  av (jX 20000000) 20000000 (k,(i:Int) - 1,d)=some (over d 0 (dg i k)):=by
 have:=gL (step:=jX 20000000) (λx=>(0<=x.1/\x.1<9223372036854775808)/\(-1<=x.2.1/\x.2.1<=17)/\x.2.2.length=18) (λx=>(x.2.1+1).toNat)
  (λx=>over x.2.2 0 (dg (x.2.1+1).toNat x.1)) ?_ 20000000 (k,(i:Int) - 1,d) ⟨⟨a,c⟩,⟨by simp only;omega,by simp only;omega⟩,b⟩ (by simp only;omega)
 ·simpa using this
 rintro⟨k,i,d⟩ ⟨⟨a,c⟩,⟨q,h⟩,b⟩;simp only at a c q h b ⊢;by_cases hi:0<=i
 ·obtain⟨j,rfl⟩:∃j:Nat,i=j:=⟨i.toNat,by omega⟩;have f:j<18:=by omega
  have e:decide ((j:Int)>=0)=true:=by simp
  have n:Nat.blt j 18=true:=dc f;have l:wrap .i64 ((j:Int) - 1)=(j:Int) - 1:=wrap_i64 _ (by omega) (by omega);have p:wrap .i64 (Int.tdiv k 10)=k / 10:=by rw[aah a];exact wrap_i64 _ (by omega) (by omega)
  have g:wrap .u8 (wrap .i64 (48+Int.tmod k 10))=48+k%10:=by rw[abr a,wd,gJ _ (by omega) (by omega)]
  refine .inl ⟨(k / 10,(j:Int) - 1,d.set j (48+k%10)),by simp only[jX,e,ah,dh f,ob,n,l,p,g],⟨⟨by simp only;omega,by simp only;omega⟩,⟨by simp only;omega,by simp only;omega⟩,by simpa using b⟩,by simp only;omega,?_⟩;have m:((j:Int) - 1+1).toNat=j:=by omega
  have o:((j:Int)+1).toNat=j+1:=by omega
  simp only[m,o,over,oq,eo,Ad,dw,dg,gx];congr 1;rw[List.drop_set,ad,Ep,qj (by omega)];simp only[List.set_cons_zero,aV,Ad,aI,bU,fK,eo,dw]
 ·have e:decide (i>=0)=false:=by simp;omega
  have s:(i+1).toNat=0:=by omega
  refine .inr ?_;simp only[jX,e,af,s,dg,La]
def SA(m:aa)(k:Int)(a:m.length<=18)(c:0<=k)(b:k<9223372036854775808):
  nj 20000000 m k=some (over [0,0,0,0,0,0,0,0,0,0,0,0,0,0,0,0,0,0] 0 (dg m.length k)):=by
 have w:wrap .i64 ((m.length:Int) - 1)=(m.length:Int) - 1:=wrap_i64 _ (by omega) (by omega);simp only[nj,w,L2 k m.length [0,0,0,0,0,0,0,0,0,0,0,0,0,0,0,0,0,0] c b a (by rfl),ob]
def yW{d l:List Int}{i:Nat}(h:i<l.length):(over d 0 l)[i]?=l[i]?:=by
 unfold over;simp only[oq,eo];rw[qp h]
def C4:∀(l:List Int),(∀x∈l,0<=x/\x<256)->nums (jy l)=l
 | [],_=>rfl
 | x::l,h=>by
  have ih:=C4 l λy hy=>h y (fV _ hy);obtain⟨c,a⟩:=h x (by simp);have e:(((UInt8.ofNat x.toNat).toNat:Nat):Int)=x:=by
   rw[IN,mB (by omega)];omega
  simp only[nums,jy,vK]at ih ⊢;simp only[gW,Function.comp,e];rw[show List.map ((λb:UInt8=>(b.toNat:Int)) ∘ λn:Int=>UInt8.ofNat n.toNat) l=l from ih]
def UO(l:aa):(nums l).length=l.length:=by simp[nums]
def cnt:aa->Nat
 | []=>0
 | c::r=>if c=88 then cnt r+1 else cnt r
def dv(c:UInt8):Int:=(c.toNat:Int) - 48
def nth:aa->Int->Int
 | [],_=>0
 | c::r,i=>if c=88 then 10*nth r (i / 10)+i%10 else 10*nth r i+dv c
def ag:aa->Int->Bool
 | [],_=>true
 | c::r,k=>ag r (k / 10)&&(decide (c=88)||decide (dv c=k%10))
def idx:aa->Int->Int
 | [],_=>0
 | c::r,k=>if c=88 then 10*idx r (k / 10)+k%10 else idx r (k / 10)
def okR(r:aa):Prop:=∀c∈r,c=88\/(0<=dv c/\dv c<10)
def CO{m:aa}(h:∀c∈m,okB c=true):okR m.reverse:=by
 intro c hc;have:=h c (HO.1 hc);simp only[okB,jk,bA,aD,cK]at this;rcases this with h | h
 ·exact .inl (ii.1 (by simpa using h))
 ·exact .inr (by unfold dv;omega)
def uP{c:UInt8}{r:aa}(h:okR (c::r)):okR r:=λx hx=>h x (fV _ hx)
def jU(n:Nat):(10:Int) ^ (n+1)=10*10 ^ n:=by rw[Int.pow_succ,CP]
def wc(n:Nat):(0:Int)<10 ^ n:=Int.pow_pos (by omega)
def ut:∀{r:aa},okR r->∀i,0<=i->0<=nth r i/\nth r i<10 ^ r.length
 | [],_,i,_=>by simp[nth]
 | c::r,h,i,hi=>by
  simp only[nth,aI,jU];split
  ·have:=ut (uP h) (i / 10) (by omega);omega
  ·rename_i hc;have:=ut (uP h) i hi;have:=(h c (by simp)).resolve_left hc;omega
def Ov:∀{r:aa},okR r->∀i,0<=i->ag r (nth r i)=true
 | [],_,_,_=>rfl
 | c::r,h,i,hi=>by
  simp only[nth,ag];split
  ·rename_i hc;have e:(10*nth r (i / 10)+i%10) / 10=nth r (i / 10):=by omega
   rw[e,Ov (uP h) (i / 10) (by omega)];simp[hc]
  ·rename_i hc;have b:=(h c (by simp)).resolve_left hc;have e:(10*nth r i+dv c) / 10=nth r i:=by omega
   have a:(10*nth r i+dv c)%10=dv c:=by omega
   rw[e,a,Ov (uP h) i hi];simp
def Bl:∀(r:aa) (k:Int),0<=k->0<=idx r k/\idx r k<10 ^ cnt r
 | [],k,_=>by simp[idx,cnt]
 | c::r,k,a=>by
  have:=Bl r (k / 10) (by omega);simp only[idx,cnt];split
  ·rw[jU];omega
  ·exact this
def PU:∀{r:aa} {k:Int},0<=k->k<10 ^ r.length->ag r k=true->nth r (idx r k)=k
 | [],k,f,a,_=>by simp at a;simp[nth];omega
 | c::r,k,f,a,b=>by
  simp only[ag,aD,jk,cK]at b;rw[aI,jU]at a;have ih:=PU (r:=r) (k:=k / 10) (by omega) (by omega) b.1;simp only[nth,idx];split
  ·have:=Bl r (k / 10) (by omega);have e:(10*idx r (k / 10)+k%10) / 10=idx r (k / 10):=by omega
   have d:(10*idx r (k / 10)+k%10)%10=k%10:=by omega
   rw[e,d,ih];omega
  ·rename_i hc;rw[ih];have:=b.2.resolve_left hc;omega
def EL:∀{r:aa},okR r->∀i j,0<=i->i<j->j<10 ^ cnt r->nth r i<nth r j
 | [],_,i,j,d,b,a=>by simp[cnt]at a;omega
 | c::r,h,i,j,d,b,a=>by
  simp only[nth,cnt]at a ⊢;split
  ·rename_i hc;rw[ae hc,jU]at a;by_cases e:i / 10=j / 10
   ·rw[e];omega
   ·have:=EL (uP h) (i / 10) (j / 10) (by omega) (by omega) (by omega);omega
  ·rename_i hc;rw[ab hc]at a;have:=EL (uP h) i j d b a;omega
def KO:∀(r:aa),∀k,kQ r.reverse (dg r.length k)=ag r k
 | [],k=>rfl
 | c::r,k=>by
  simp only[List.reverse_cons,aI,dg,ag];rw[ye (by rw[xI,Ad]),KO r];have b:decide ((c.toNat:Int)=48+k%10)=decide (dv c=k%10):=jr.2 (by unfold dv;omega);have a:(c==88)=decide (c=88):=by by_cases h:c=88<;>simp[h]
  simp only[kQ,BX,b,a]
def Jo(m:aa)(k:Int):hasM m k=(decide (0<=k)&&(decide (k<10 ^ m.length)&&ag m.reverse k)):=by
 have:=KO m.reverse k;rw[Bj,xI]at this;unfold hasM;rw[this]
def Aw:∀(m:aa),cnt m=m.count 88
 | []=>rfl
 | c::m=>by
  simp only[cnt,Aw m,List.count_cons];by_cases h:c=88<;>simp[h]
def vE(m:aa):cnt m.reverse=cnt m:=by rw[Aw,Aw,List.count_reverse]
def Qj:∀(m:aa),cnt m<=m.length
 | []=>by simp[cnt]
 | c::m=>by
  have:=Qj m;simp only[cnt,aI];split<;>omega
def fd(x y:Int):Int:=(if y=88 then x else y) - 48
def fval(x:Int)(l:List Int):Int:=l.foldl (λn y=>10*n+fd x y) 0
def ER(x:Int):∀(l:List Int) (n:Int),l.foldl (λn y=>10*n+fd x y) n=n*10 ^ l.length+fval x l
 | [],n=>by simp[fval]
 | y::l,n=>by
  have e:=ER x l (10*n+fd x y);have a:=ER x l (10*0+fd x y);simp only[fval,xW,aI,jU]at e a ⊢;rw[e,a,Int.add_mul,Int.add_mul];have:10*n*10 ^ l.length=n*(10*10 ^ l.length):=by rw[CP 10 n,Int.mul_assoc]
  omega
def zo(s:aa)(x:Int)(h18:s.length<=18)(hs:∀c∈s,0<=fd x (c.toNat:Int)/\fd x (c.toNat:Int)<10):oh 20000000 s x=some (fval x (nums s)):=by
 have hs':∀y∈nums s,0<=fd x y/\fd x y<10:=by
  intro y hy;obtain⟨c,hc,rfl⟩:=eY.1 hy;exact hs c hc
 have hl:(nums s).length=s.length:=UO s;have:=gL (step:=ji 20000000)
  (λst=>st.1=x/\st.2.2.1=(s.length:Int)/\st.2.2.2.2=nums s/\(0<=st.2.2.2.1/\st.2.2.2.1<=s.length)/\0<=st.2.1/\st.2.1<10 ^ st.2.2.2.1.toNat) (λst=>s.length - st.2.2.2.1.toNat)
  (λst=>((nums s).drop st.2.2.2.1.toNat).foldl (λn y=>10*n+fd x y) st.2.1) ?_ 20000000 (x,0,(s.length:Int),0,nums s) ⟨rfl,rfl,rfl,⟨by simp,by simp⟩,by simp,by simp⟩ (by simp;omega)
 ·show(ob (av (ji 20000000) 20000000 (x,0,((List.length (nums s):Nat):Int),0,nums s)) λy30=>some y30)=_;rw[hl,this];rfl
 rintro⟨x',n,len,i,l⟩ ⟨q1,q2,q3,⟨h0,hi⟩,n0,n1⟩;simp only at q1 q2 q3 h0 hi n0 n1 ⊢;subst q1 q2 q3;obtain⟨j,rfl⟩:∃j:Nat,i=j:=⟨i.toNat,by omega⟩;simp only[co]at n1 ⊢;rcases aN j s.length with hlt | hge
 ·obtain⟨y,hy⟩:∃c,(nums s)[j]?=some c:=⟨(nums s)[j]'(by omega),ba (by omega)⟩;obtain⟨d0,d1⟩:=hs' y (fR hy);have hb:(decide ((j:Int)<(s.length:Int)))=true:=by simp;omega
  have hw:wrap .i64 ((j:Int)+1)=((j+1:Nat):Int):=by rw[wd];omega
  have hb1:=GN (j+1) (by omega);rw[jU]at hb1;have w1:wrap .i64 (10*n)=10*n:=wrap_i64 _ (by omega) (by omega);have w2:∀z:Int,0<=z->z<10->wrap .i64 (10*n+wrap .i64 (wrap .u8 z))=10*n+z:=λz z0 z1=>by
   rw[gJ z (by omega) (by omega),wrap_i64 z (by omega) (by omega),wd]
  rw[da hy,xW];simp only[ji,hb,ah,dh (show j<(nums s).length by omega),ob,hy,hw,w1];have next:0<=10*n+fd x' y/\10*n+fd x' y<10 ^ (j+1):=by rw[jU];omega
  by_cases h88:y=88
  ·have e1:(y==88)=true:=by simpa using h88
   have hd:fd x' y=x' - 48:=by simp[fd,h88]
   rw[hd]at d0 d1 next ⊢;refine .inl ⟨(x',10*n+(x' - 48),(s.length:Int),((j+1:Nat):Int),nums s),by simp only[e1,ah,w2 _ d0 d1],⟨rfl,rfl,rfl,⟨by simp only;omega,by simp only;omega⟩,next.1,by simpa only[co]using next.2⟩,by simp only[co];omega,by simp only[co]⟩
  ·have e1:(y==88)=false:=by simpa using h88
   have hd:fd x' y=y - 48:=by simp[fd,h88]
   rw[hd]at d0 d1 next ⊢;refine .inl ⟨(x',10*n+(y - 48),(s.length:Int),((j+1:Nat):Int),nums s),by simp only[e1,af,w2 _ d0 d1],⟨rfl,rfl,rfl,⟨by simp only;omega,by simp only;omega⟩,next.1,by simpa only[co]using next.2⟩,by simp only[co];omega,by simp only[co]⟩
 ·have hb:(decide ((j:Int)<(s.length:Int)))=false:=by simp;omega
  refine .inr ?_;simp only[ji,hb,af];rw[kW (by omega)];rfl
def Aq(x:Int)(l:List Int)(y:Int):fval x (l++[y])=10*fval x l+fd x y:=by simp[fval,K6]
def Ge(r:aa)(c:UInt8):nums ((c::r).reverse)=nums r.reverse++[(c.toNat:Int)]:=by simp[nums]
def Im(x:Int)(c:UInt8):fd x (c.toNat:Int)=if c=88 then x - 48 else dv c:=by
 unfold fd dv;by_cases h:c=88
 ·simp[h]
 ·have:¬(c.toNat:Int)=88:=λe=>h (ii.1 (by simpa using(by omega:c.toNat=88)));rw[ab this,ab h]
def BV:∀(r:aa),fval 48 (nums r.reverse)=nth r 0
 | []=>rfl
 | c::r=>by
  rw[Ge,Aq,BV r,Im];simp only[nth];split<;>simp
def wH:∀(r:aa),fval 57 (nums r.reverse)=nth r (10 ^ cnt r - 1)
 | []=>rfl
 | c::r=>by
  have hp:=wc (cnt r);rw[Ge,Aq,wH r,Im];simp only[nth,cnt];split
  ·rw[jU];have b:(10*(10:Int) ^ cnt r - 1) / 10=10 ^ cnt r - 1:=by omega
   have a:(10*(10:Int) ^ cnt r - 1)%10=9:=by omega
   rw[b,a];omega
  ·rfl
def ZY{m:aa}(a:∀c∈m,okB c=true){x:Int}(hx:48<=x/\x<58):∀c∈m,0<=fd x (c.toNat:Int)/\fd x (c.toNat:Int)<10:=by
 intro c hc;rw[Im];have:=CO a c (HO.2 hc);split
 ·omega
 ·rename_i h;exact this.resolve_left h
def Uz{m:aa}(c:chk m=0):sC 20000000 m=some (nth m.reverse 0,0):=by
 obtain⟨a,_,b⟩:=pO c;have d:((0:Int) != 0)=false:=by simp
 have:=BV m.reverse;rw[Bj]at this;simp only[sC,nI 20000000 m (by omega),c,ob,d,af,zo m 48 a (ZY b (by omega)),this]
def HW{m:aa}(c:chk m=0):nJ 20000000 m=some (nth m.reverse (10 ^ cnt m - 1),0):=by
 obtain⟨a,_,b⟩:=pO c;have d:((0:Int) != 0)=false:=by simp
 have:=wH m.reverse;rw[Bj,vE]at this;simp only[nJ,nI 20000000 m (by omega),c,ob,d,af,zo m 57 a (ZY b (by omega)),this]
def Ss{m:aa}{l:List Int}(z:List Int)(a:m.length<=18)(f:l.length=m.length)(d:∀y∈l,48<=y/\y<58):iv 20000000 m (over z 0 l)=some (fval 0 l):=by
 have g:List.take m.length (over z 0 l)=l:=by
  unfold over;rw[oq,eo,xA (by omega),kr (by omega)]
 have e:nums (jy l)=l:=C4 l λy hy=>by have:=d y hy;omega
 have h:(jy l).length=m.length:=by simp[jy,f]
 simp only[iv,de a,ob,dw,show Nat.ble m.length 18=true from dc a,ah,cM,g];rw[zo (jy l) 0 (by omega) ?_,e];intro c hc;have b:(c.toNat:Int)∈l:=by rw[<-e];exact eY.2 ⟨c,hc,rfl⟩
 have:=d _ b;unfold fd;rw[ad];omega
def LD{m:aa}(e:chk m=0){i:Int}(c:0<=i):hasM m (nth m.reverse i)=true:=by
 obtain⟨d,_,a⟩:=pO e;have b:=ut (CO a) i c;rw[xI]at b;rw[Jo,Ov (CO a) i c,ar b.1,ar b.2];rfl
def vl:List Int->Int
 | []=>0
 | y::l=>(y - 48)*10 ^ l.length+vl l
def digl(l:List Int):Prop:=∀y∈l,48<=y/\y<58
def dZ{y:Int}{l:List Int}(h:digl (y::l)):digl l:=λx hx=>h x (fV _ hx)
def yS:∀{l:List Int},digl l->0<=vl l/\vl l<10 ^ l.length
 | [],_=>by simp[vl]
 | y::l,h=>by
  have ih:=yS (dZ h);have hy:=h y (by simp);have hp:=wc l.length;simp only[vl,aI,jU];have a1:0<=(y - 48)*10 ^ l.length:=Int.mul_nonneg (by omega) (by omega);have a2:(y - 48)*10 ^ l.length<=9*10 ^ l.length:=Vm (by omega) (by omega);omega
def Wc{y z:Int}{a b:List Int}(d:a.length=b.length)(c:digl a)(e:digl b)(h:y<z):vl (y::a)<vl (z::b):=by
 have g:=yS c;have f:=yS e;have hp:=wc a.length;simp only[vl];rw[<-d]at f ⊢;have a2:(y - 48+1)*10 ^ a.length<=(z - 48)*10 ^ a.length:=Vm (by omega) (by omega);rw[Int.add_mul]at a2;omega
def D9:∀{l:List Int},digl l->fval 0 l=vl l
 | [],_=>rfl
 | y::l,h=>by
  have hy:=h y (by simp);have e:fval 0 (y::l)=l.foldl (λn y=>10*n+fd 0 y) (10*0+fd 0 y):=rfl;have a:fd 0 y=y - 48:=by unfold fd;rw[ad]
  rw[e,ER,D9 (dZ h),a];simp only[vl,Int.mul_zero,Int.zero_add]
def OK{l:List Int}{y:Int}(h:digl (l++[y])):vl (l++[y])=10*vl l+(y - 48):=by
 have hy:=h y (by simp);have a:digl l:=λx hx=>h x (by simp[hx]);rw[<-D9 h,<-D9 a,Aq];unfold fd;rw[ad]
def SV:∀(L:Nat) (k:Int),0<=k->k<10 ^ L->vl (dg L k)=k
 | 0,k,c,a=>by simp at a;simp[dg,vl];omega
 | L+1,k,c,a=>by
  rw[jU]at a;have:=SV L (k / 10) (by omega) (by omega);have b:=wI (L+1) k;simp only[dg]at b ⊢;rw[OK b,this];omega
def ab8{l:List Int}(h:digl l):dg l.length (vl l)=l:=by
 have a:∀(r:List Int),digl r.reverse->dg r.length (vl r.reverse)=r.reverse:=by
  intro r
  induction r with
  | nil=>intro _;rfl
  | cons y r ih=>
   intro h;simp only[List.reverse_cons,aI]at h ⊢;have hy:=h y (by simp);rw[OK h];simp only[dg];have c:(10*vl r.reverse+(y - 48)) / 10=vl r.reverse:=by omega
   have b:48+(10*vl r.reverse+(y - 48))%10=y:=by omega
   rw[c,b,ih λx hx=>h x (md.2 (.inl hx))]
 have:=a l.reverse (by rw[Bj];exact h);rwa[Bj,xI]at this
def fst(up:Bool):Int:=cond up 48 57
def lst(up:Bool):Int:=cond up 57 48
def stp(up:Bool)(y:Int):Int:=cond up (y+1) (y - 1)
def fil(up:Bool)(m:aa):List Int:=m.map λc=>cond (decide (c=88)) (fst up) (c.toNat:Int)
def nx(up:Bool):aa->List Int->Option (List Int)
 | c::m,y::l=>
  if c=88 then
   match nx up m l with
   | some r=>some (y::r)
   | none=>if y=lst up then none else some (stp up y::fil up m)
  else if(c.toNat:Int)=y then(nx up m l).map λr=>y::r
  else if decide ((c.toNat:Int)>y)=up then some ((c.toNat:Int)::fil up m)else none
 | _,_=>some []
def okM(m:aa):Prop:=∀c∈m,okB c=true
def uI{c:UInt8}{m:aa}(h:okM (c::m)):okM m:=λx hx=>h x (fV _ hx)
def J1{c:UInt8}(h:okB c=true)(a:¬c=88):48<=(c.toNat:Int)/\(c.toNat:Int)<58:=by
 simp only[okB,jk,bA,aD,cK]at h;have:¬c.toNat=88:=λe=>a (ii.1 (by simpa using e));omega
def EU(up:Bool)(m:aa):(fil up m).length=m.length:=by simp[fil]
def OE(up:Bool){m:aa}(h:okM m):digl (fil up m):=by
 intro y hy;obtain⟨c,hc,rfl⟩:=eY.1 hy;by_cases a:c=88
 ·simp only[ar a,ah];cases up<;>simp[fst]
 ·simp only[au a,af];exact J1 (h c hc) a
def Ax(up:Bool):∀(m:aa),kQ m (fil up m)=true
 | []=>rfl
 | c::m=>by
  have:=Ax up m;simp only[fil,gW,kQ]at this ⊢;rw[this];by_cases a:c=88
  ·simp[a]
  ·simp[a]
def ga(up:Bool)(a b:Int):Prop:=match up with | true=>a<=b | false=>b<=a
def Dt(up:Bool):∀{m:aa} {e:List Int},okM m->m.length=e.length->digl e->kQ m e=true->ga up (vl (fil up m)) (vl e)
 | [],[],_,_,_,_=>by cases up<;>simp[fil,vl,ga]
 | c::m,y::e,l,i,j,k=>by
  simp only[aI,zI]at i;simp only[kQ,aD,jk,bA,cK]at k;have ih:=Dt up (uI l) i (dZ j) k.2;have hy:=j y (by simp);have b:=EU up m;have n:=OE up (uI l);have a:∀z:Int,vl (z::fil up m)=(z - 48)*10 ^ m.length+vl (fil up m):=λz=>by rw[vl,b]
  have d:fil up (c::m)=(cond (decide (c=88)) (fst up) (c.toNat:Int))::fil up m:=rfl;rw[d];by_cases g:c=88
  ·simp only[ar g,ah];by_cases f:y=fst up
   ·rw[<-f,a,vl,<-i];cases up<;>simp only[ga]at ih ⊢<;>omega
   ·cases up
    ·exact Int.le_of_lt (Wc (by rw[b,i]) (dZ j) n (by simp[fst]at f ⊢;omega))
    ·exact Int.le_of_lt (Wc (by rw[b,i]) n (dZ j) (by simp[fst]at f ⊢;omega))
  ·simp only[au g,af];rw[k.1.resolve_left g,a,vl,<-i];cases up<;>simp only[ga]at ih ⊢<;>omega
 | [],_::_,_,h,_,_=>by simp at h
 | _::_,[],_,h,_,_=>by simp at h
def Wb(up:Bool):∀{m:aa} {l:List Int},okM m->m.length=l.length->digl l->
  match nx up m l with
  | some r=>r.length=m.length/\digl r/\kQ m r=true/\ga up (vl l) (vl r)/\∀e,e.length=m.length->digl e->kQ m e=true->ga up (vl l) (vl e)->ga up (vl r) (vl e)
  | none=>∀e,e.length=m.length->digl e->kQ m e=true->¬ga up (vl l) (vl e)
 | [],[],_,_,_=>by
  simp only[nx];refine⟨rfl,by intro y hy;simp at hy,rfl,by cases up<;>simp[ga],?_⟩;intro e E _ _ _;simp only[bU]at E;rw[vi E];cases up<;>simp[ga]
 | c::m,y::l,K,s,V=>by
  simp only[aI,zI]at s;have ih:=Wb up (uI K) s (dZ V);have hy:=V y (by simp);have A:=dZ V;have t:=EU up m;have B:=OE up (uI K);have M:∀{z w:Int} {a b:List Int},a.length=m.length->b.length=m.length->digl a->digl b->z<w->vl (z::a)<vl (w::b):=λE J O N T=>Wc (by rw[E,J]) O N T;have d:∀(z:Int) {a b:List Int},a.length=m.length->b.length=m.length->(ga up (vl (z::a)) (vl (z::b))↔ga up (vl a) (vl b)):=λz a b E J=>by
   simp only[vl,E,J];cases up<;>simp only[ga]<;>omega
  have q:∀{z w:Int} {a b:List Int},a.length=m.length->b.length=m.length->digl a->digl b->z≠w->(ga up (vl (z::a)) (vl (w::b))↔ga up z w):=λ{z w a b} E J O N T=>by
   rcases Int.lt_trichotomy z w with h | h | h
   ·have:=M E J O N h;cases up<;>simp only[ga]<;>omega
   ·exact absurd h T
   ·have:=M J E N O h;cases up<;>simp only[ga]<;>omega
  have f:∀e:List Int,e.length=(c::m).length->∃w a,e=w::a/\a.length=m.length:=λe h=>by
   match e,h with
   | w::a,h=>exact⟨w,a,rfl,by simpa using h⟩
  by_cases g:c=88
  ·cases C:nx up m l with
   | some r=>
    rw[C]at ih;obtain⟨I,P,U,Q,S⟩:=ih;simp only[nx,ae g,C];refine⟨by simp[I],λz u=>?_,by simp[kQ,g,U],(d y s.symm I).2 Q,λe x j o p=>?_⟩
    ·rcases ck.1 u with rfl | u
     ·exact hy
     ·exact P z u
    ·obtain⟨w,a,rfl,i⟩:=f e x;simp only[kQ,g,Ac,FT,rG]at o;by_cases D:y=w
     ·subst D;exact(d y I i).2 (S a i (dZ j) o ((d y s.symm i).1 p))
     ·exact(q I i P (dZ j) D).2 ((q s.symm i A (dZ j) D).1 p)
   | none=>
    rw[C]at ih;by_cases k:y=lst up
    ·simp only[nx,ae g,C,ae k];intro e x j o p;obtain⟨w,a,rfl,i⟩:=f e x;simp only[kQ,g,Ac,FT,rG]at o;have hw9:=j w (by simp);by_cases D:y=w
     ·subst D;exact ih a i (dZ j) o ((d y s.symm i).1 p)
     ·have:=(q s.symm i A (dZ j) D).1 p;cases up<;>simp only[ga,lst,ah,af]at this k<;>omega
    ·simp only[nx,ae g,C,ab k];have hs:48<=stp up y/\stp up y<58/\y≠stp up y/\ga up y (stp up y)/\∀w,w≠y->ga up y w->ga up (stp up y) w:=by
      cases up<;>simp only[ga,lst,stp,ah,af]at k ⊢<;>exact⟨by omega,by omega,by omega,by omega,λw E J=>by omega⟩
     obtain⟨W,Z,Y,s4,X⟩:=hs;refine⟨by simp[t],λz u=>?_,by simp[kQ,g,Ax],(q s.symm t A B Y).2 s4,λe x j o p=>?_⟩
     ·rcases ck.1 u with rfl | u
      ·exact⟨W,Z⟩
      ·exact B z u
     ·obtain⟨w,a,rfl,i⟩:=f e x;simp only[kQ,g,Ac,FT,rG]at o;by_cases D:y=w
      ·subst D;exact absurd ((d y s.symm i).1 p) (ih a i (dZ j) o)
      ·have h9:=X w (λh=>D h.symm) ((q s.symm i A (dZ j) D).1 p);by_cases L:stp up y=w
       ·rw[L];exact(d w t i).2 (Dt up (uI K) i.symm (dZ j) o)
       ·exact(q t i B (dZ j) L).2 h9
  ·have R:=J1 (K c (by simp)) g;have G:∀w a,kQ (c::m) (w::a)=true->w=(c.toNat:Int)/\kQ m a=true:=λw a h=>by
    simp only[kQ,aD,jk,bA,cK]at h;exact⟨(h.1.resolve_left g).symm,h.2⟩
   by_cases n:(c.toNat:Int)=y
   ·cases C:nx up m l with
    | some r=>
     rw[C]at ih;obtain⟨I,P,U,Q,S⟩:=ih;simp only[nx,ab g,ae n,C,fQ];refine⟨by simp[I],λz u=>?_,by simp[kQ,n,U],(d y s.symm I).2 Q,λe x j o p=>?_⟩
     ·rcases ck.1 u with rfl | u
      ·exact hy
      ·exact P z u
     ·obtain⟨w,a,rfl,i⟩:=f e x;obtain⟨rfl,v⟩:=G w a o;rw[n]at p ⊢;exact(d y I i).2 (S a i (dZ j) v ((d y s.symm i).1 p))
    | none=>
     rw[C]at ih;simp only[nx,ab g,ae n,C,ke];intro e x j o p;obtain⟨w,a,rfl,i⟩:=f e x;obtain⟨rfl,v⟩:=G w a o;rw[n]at p;exact ih a i (dZ j) v ((d y s.symm i).1 p)
   ·have H:decide ((c.toNat:Int)>y)=up↔ga up y (c.toNat:Int):=by
     cases up
     ·simp only[vX,ga];omega
     ·simp only[cK,ga];omega
    by_cases F:decide ((c.toNat:Int)>y)=up
    ·simp only[nx,ab g,ab n,ae F];refine⟨by simp[t],λz u=>?_,by simp[kQ,Ax],(q s.symm t A B (λh=>n h.symm)).2 (H.1 F),λe x j o p=>?_⟩
     ·rcases ck.1 u with rfl | u
      ·exact R
      ·exact B z u
     ·obtain⟨w,a,rfl,i⟩:=f e x;obtain⟨rfl,v⟩:=G w a o;exact(d _ t i).2 (Dt up (uI K) i.symm (dZ j) v)
    ·simp only[nx,ab g,ab n,ab F];intro e x j o p;obtain⟨w,a,rfl,i⟩:=f e x;obtain⟨rfl,v⟩:=G w a o;exact F (H.2 ((q s.symm i A (dZ j) (λh=>n h.symm)).1 p))
 | [],_::_,_,h,_=>by simp at h
 | _::_,[],_,h,_=>by simp at h
def ap:aa->List Int->Nat
 | c::m,y::l=>if c=88\/(c.toNat:Int)=y then ap m l+1 else 0
 | _,_=>0
def aaA:∀(m:aa) (l:List Int),ap m l<=m.length
 | [],_=>by simp[ap]
 | c::m,[]=>by simp[ap]
 | c::m,y::l=>by
  have:=aaA m l;simp only[ap,aI];split<;>omega
def N2:∀(m:aa) (l:List Int),kQ (m.take (ap m l)) (l.take (ap m l))=true
 | [],_=>by simp[ap,kQ]
 | c::m,[]=>by simp[ap,kQ]
 | c::m,y::l=>by
  have:=N2 m l;simp only[ap];split
  ·rename_i h;simp only[ox,kQ,this,BX,jk,bA,cK];exact h
  ·rfl
def NJ:∀{m:aa} {l:List Int} {c:UInt8} {y:Int},m[ap m l]?=some c->l[ap m l]?=some y->¬c=88/\¬(c.toNat:Int)=y
 | [],_,c,y,h,_=>by simp at h
 | x::m,[],c,y,_,h=>by simp at h
 | x::m,z::l,c,y,a,b=>by
  by_cases h:x=88\/(x.toNat:Int)=z
  ·simp only[ap,ae h,K9]at a b;exact NJ a b
  ·simp only[ap,ab h,mV,aw]at a b;subst a b;exact⟨λe=>h (.inl e),λe=>h (.inr e)⟩
def bkn(up:Bool):aa->List Int->aa->Option (List Int)
 | c::m,y::d,m'=>
  match bkn up m d m' with
  | some r=>some (y::r)
  | none=>if c=88/\y≠lst up then some (stp up y::fil up (m++m'))else none
 | _,_,_=>none
def Ha(up:Bool):∀{m m':aa} {d d':List Int},m.length=d.length->kQ m d=true->
  nx up (m++m') (d++d')=match nx up m' d' with | some r=>some (d++r) | none=>bkn up m d m'
 | [],m',[],d',_,_=>by
  simp only[eo];cases nx up m' d'<;>rfl
 | c::m,m',y::d,d',e,b=>by
  simp only[aI,zI]at e;simp only[kQ,aD,jk,bA,cK]at b;have ih:=Ha up (m':=m') (d':=d') e b.2;simp only[fK,nx,ih,bkn];by_cases a:c=88
  ·simp only[ae a];cases nx up m' d' with
   | some r=>rfl
   | none=>
    cases bkn up m d m' with
    | some r=>rfl
    | none=>
     by_cases hy:y=lst up
     ·simp[hy]
     ·simp[hy,a]
  ·simp only[ab a,ae (b.1.resolve_left a)];cases nx up m' d' with
   | some r=>rfl
   | none=>
    cases bkn up m d m' with
    | some r=>rfl
    | none=>simp[a]
 | [],_,_::_,_,h,_=>by simp at h
 | _::_,_,[],_,h,_=>by simp at h
def LA(up:Bool)(c:UInt8)(y:Int):∀{m m':aa} {d:List Int},m.length=d.length->
  bkn up (m++[c]) (d++[y]) m'=if c=88/\y≠lst up then some (d++stp up y::fil up m')else bkn up m d (c::m')
 | [],m',[],_=>by simp[bkn]
 | x::m,m',z::d,a=>by
  simp only[aI,zI]at a;have ih:=LA up c y (m':=m') a;simp only[fK,bkn,ih];by_cases h:c=88/\y≠lst up
  ·simp only[ae h]
  ·simp only[ab h,gx,fK,eo]
 | [],_,_::_,h=>by simp at h
 | _::_,_,[],h=>by simp at h
def bki(up:Bool)(m:aa)(l:List Int):Nat->Option Nat
 | 0=>none
 | j+1=>if m[j]?=some 88/\l[j]?≠some (lst up)then some j else bki up m l j
def Vz(up:Bool)(m:aa)(l:List Int):∀{j a:Nat},bki up m l j=some a->a<j
 | 0,a,h=>by simp[bki]at h
 | j+1,a,h=>by
  simp only[bki]at h;split at h
  ·simp only[aw]at h;omega
  ·have:=Vz up m l h;omega
def Jv(up:Bool)(m:aa)(l:List Int)(hl:m.length=l.length):∀j,j<=m.length->
  bkn up (m.take j) (l.take j) (m.drop j)=(bki up m l j).map λa=>l.take a++stp up (l.getD a 0)::fil up (m.drop (a+1))
 | 0,_=>by simp[bkn,bki]
 | j+1,h=>by
  obtain⟨c,hc⟩:∃c,m[j]?=some c:=⟨m[j]'(by omega),ba (by omega)⟩;obtain⟨y,hy⟩:∃c,l[j]?=some c:=⟨l[j]'(by omega),ba (by omega)⟩;have ih:=Jv up m l hl j (by omega);rw[da hc]at ih;rw[tu,tu,hc,hy];simp only[Option.toList_some];rw[LA up c y (by simp;omega),ih];have hg:l.getD j 0=y:=by rw[G5,hy];rfl
  simp only[bki,hc,hy,ne_eq,aw];by_cases hh:c=88/\¬y=lst up
  ·rw[ae hh,ae hh,fQ,hg]
  ·rw[ab hh,ab hh]
section
variable {m:List UInt8} {l z:List Int}
def nX(hl:m.length=l.length)(h18:m.length<=18)(k f g:Int)(up:Bool):
  av (gK 20000000) 20000000 (m,k,up,f,g,0,over z 0 l,over z 0 l)=some (m,k,up,f,g,((ap m l:Nat):Int),over z 0 l,over z 0 l):=by
 have:=gL (step:=gK 20000000) (λx=>x.1=m/\(0<=x.2.2.2.2.2.1/\x.2.2.2.2.2.1<=m.length)/\x.2.2.2.2.2.2.1=over z 0 l) (λx=>m.length - x.2.2.2.2.2.1.toNat)
  (λx=>(x.1,x.2.1,x.2.2.1,x.2.2.2.1,x.2.2.2.2.1,x.2.2.2.2.2.1+((ap (m.drop x.2.2.2.2.2.1.toNat) (l.drop x.2.2.2.2.2.1.toNat):Nat):Int),x.2.2.2.2.2.2.1,x.2.2.2.2.2.2.2)) ?_ 20000000 (m,k,up,f,g,0,over z 0 l,over z 0 l) ⟨rfl,⟨by simp,by simp⟩,rfl⟩ (by simp;omega)
 ·simpa using this
 rintro⟨m',k,up,f,g,i,d,o⟩ ⟨q1,⟨h0,hi⟩,q2⟩;simp only at q1 h0 hi q2 ⊢;subst q1 q2;obtain⟨j,rfl⟩:∃j:Nat,i=j:=⟨i.toNat,by omega⟩;simp only[co];rcases aN j m'.length with hlt | hge
 ·obtain⟨c,hc⟩:∃c,m'[j]?=some c:=⟨m'[j],ba hlt⟩;obtain⟨y,hy⟩:∃c,l[j]?=some c:=⟨l[j]'(by omega),ba (by omega)⟩;have hg:(over z 0 l)[j]?=some y:=by rw[yW (by omega)];exact hy
  have hb:(decide ((j:Int)<(m'.length:Int)))=true:=by simp;omega
  have hw:wrap .i64 ((j:Int)+1)=((j+1:Nat):Int):=by rw[wd];omega
  rw[da hc,da hy];simp only[gK,hb,ah,fh hc,ob,Dz,hw,dh (show j<18 by omega),hg,ap];by_cases h88:c=88
  ·refine .inl ⟨(m',k,up,f,g,((j+1:Nat):Int),over z 0 l,o),by simp only[ar h88,ah],⟨rfl,⟨by simp only;omega,by simp only;omega⟩,rfl⟩,by simp only[co];omega,?_⟩;simp only[co,ae (show c=88\/(c.toNat:Int)=y from .inl h88)];congr 6;omega
  ·simp only[au h88,af];by_cases hcy:(c.toNat:Int)=y
   ·have e:((c.toNat:Int)==y)=true:=by simpa using hcy
    refine .inl ⟨(m',k,up,f,g,((j+1:Nat):Int),over z 0 l,o),by simp only[e,ah],⟨rfl,⟨by simp only;omega,by simp only;omega⟩,rfl⟩,by simp only[co];omega,?_⟩;simp only[co,ae (show c=88\/(c.toNat:Int)=y from .inr hcy)];congr 6;omega
   ·have e:((c.toNat:Int)==y)=false:=by simpa using hcy
    refine .inr ?_;simp only[e,af,ab (show¬(c=88\/(c.toNat:Int)=y)fromλh=>h.elim h88 hcy),Int.ofNat_zero,Int.add_zero,Int.natCast_zero]
 ·have hb:(decide ((j:Int)<(m'.length:Int)))=false:=by simp;omega
  refine .inr ?_;simp only[gK,hb,af];rw[kW hge];simp[ap]
def P5(hl:m.length=l.length)(h18:m.length<=18)(f:Int)(up:Bool)(o:List Int)(i:Nat)(hi:i<=m.length):
  av (dk 20000000) 20000000 (m,up,f,lst up,(i:Int),over z 0 l,o) =
   some (match bki up m l i with | none=>.inl (0,16) | some a=>.inr (m,up,f,(a:Int),o)):=by
 have:=gL (step:=dk 20000000) (λx=>x.1=m/\x.2.2.2.1=lst up/\(0<=x.2.2.2.2.1/\x.2.2.2.2.1<=m.length)/\x.2.2.2.2.2.1=over z 0 l) (λx=>x.2.2.2.2.1.toNat)
  (λx=>match bki up m l x.2.2.2.2.1.toNat with | none=>.inl (0,16) | some a=>.inr (x.1,x.2.1,x.2.2.1,(a:Int),x.2.2.2.2.2.2)) ?_ 20000000 (m,up,f,lst up,(i:Int),over z 0 l,o) ⟨rfl,rfl,⟨by simp only;omega,by simp only;omega⟩,rfl⟩ (by simp;omega)
 ·simpa using this
 rintro⟨m',up',f,g,i,d,o⟩ ⟨q1,q3,⟨h0,hi⟩,q2⟩;simp only at q1 q3 h0 hi q2 ⊢;subst q1 q2 q3;obtain⟨j,rfl⟩:∃j:Nat,i=j:=⟨i.toNat,by omega⟩;simp only[co];rcases j with _ | j
 ·refine .inr ?_;have w:wrap .i64 (((0:Nat):Int) - 1)=-1:=wrap_i64 _ (by omega) (by omega);simp only[dk,w,show decide ((-1:Int)<0)=true from rfl,ah,bki]
 ·have w:wrap .i64 (((j+1:Nat):Int) - 1)=(j:Int):=by rw[wd];omega
  have e0:decide ((j:Int)<0)=false:=by simp
  obtain⟨c,hc⟩:∃c,m'[j]?=some c:=⟨m'[j]'(by omega),ba (by omega)⟩;obtain⟨y,hy⟩:∃c,l[j]?=some c:=⟨l[j]'(by omega),ba (by omega)⟩;have hg:(over z 0 l)[j]?=some y:=by rw[yW (by omega)];exact hy
  simp only[dk,w,e0,af,fh hc,ob,Dz,dh (show j<18 by omega),hg,bki,hc,hy,aw,ne_eq];by_cases h88:c=88
  ·by_cases hy9:y=lst up
   ·have e:(y != lst up)=false:=by simpa using hy9
    refine .inl ⟨(m',up',f,lst up,(j:Int),over z 0 l,o),by simp only[ar h88,ah,e,af],⟨rfl,rfl,⟨by simp only;omega,by simp only;omega⟩,rfl⟩,by simp only[co];omega,?_⟩;simp only[co,ab (show¬(c=88/\¬y=lst up)fromλh=>h.2 hy9)]
   ·have e:(y != lst up)=true:=by simpa using hy9
    refine .inr ?_;simp only[ar h88,ah,e,ae (show c=88/\¬y=lst up from⟨h88,hy9⟩)]
  ·refine .inl ⟨(m',up',f,lst up,(j:Int),over z 0 l,o),by simp only[au h88,af],⟨rfl,rfl,⟨by simp only;omega,by simp only;omega⟩,rfl⟩,by simp only[co];omega,?_⟩;simp only[co,ab (show¬(c=88/\¬y=lst up)fromλh=>h88 h.1)]
def Hw(p:m.length<=18)(up:Bool)(d:List Int)(e:d.length=18)(i:Nat)(hi:i<=m.length):
  av (bM 20000000) 20000000 (m,fst up,(i:Int),d)=some (m,over d i (fil up (m.drop i))):=by
 have:=gL (step:=bM 20000000) (λx=>x.1=m/\x.2.1=fst up/\(0<=x.2.2.1/\x.2.2.1<=m.length)/\x.2.2.2.length=18) (λx=>m.length - x.2.2.1.toNat)
  (λx=>(m,over x.2.2.2 x.2.2.1.toNat (fil up (m.drop x.2.2.1.toNat)))) ?_ 20000000 (m,fst up,(i:Int),d) ⟨rfl,rfl,⟨by simp only;omega,by simp only;omega⟩,e⟩ (by simp;omega)
 ·simpa using this
 rintro⟨m',f,i,d⟩ ⟨l,o,⟨q,hi⟩,e⟩;simp only at l o q hi e ⊢;subst l o;obtain⟨j,rfl⟩:∃j:Nat,i=j:=⟨i.toNat,by omega⟩;simp only[co];rcases aN j m'.length with k | g
 ·obtain⟨c,hc⟩:∃c,m'[j]?=some c:=⟨m'[j],ba k⟩;have n:j<18:=by omega
  have h:(decide ((j:Int)<(m'.length:Int)))=true:=by simp;omega
  have s:wrap .i64 ((j:Int)+1)=((j+1:Nat):Int):=by rw[wd];omega
  have r:Nat.blt j 18=true:=dc n;have b:∀c:UInt8,fil up (c::m'.drop (j+1))=(cond (decide (c=88)) (fst up) (c.toNat:Int))::fil up (m'.drop (j+1)):=λ_=>rfl;rw[da hc,b];simp only[bM,h,ah,fh hc,ob,Dz,dh n,r,s];by_cases a:c=88
  ·refine .inl ⟨(m',fst up,((j+1:Nat):Int),(d.set j (c.toNat:Int)).set j (fst up)),by simp only[ar a,ah],⟨rfl,rfl,⟨by simp only;omega,by simp only;omega⟩,by simpa using e⟩,by simp only[co];omega,?_⟩;simp only[co,ar a,ah];rw[List.set_set,EH _ _ _ _ (by omega)]
  ·refine .inl ⟨(m',fst up,((j+1:Nat):Int),d.set j (c.toNat:Int)),by simp only[au a,af],⟨rfl,rfl,⟨by simp only;omega,by simp only;omega⟩,by simpa using e⟩,by simp only[co];omega,?_⟩;simp only[co,au a,af];rw[EH _ _ _ _ (by omega)]
 ·have h:(decide ((j:Int)<(m'.length:Int)))=false:=by simp;omega
  refine .inr ?_;simp only[bM,h,af];rw[kW g];simp[fil,La]
def FX(z l F:List Int)(i:Nat)(h:i+F.length=l.length):over (over z 0 l) i F=over z 0 (l.take i++F):=by
 unfold over;simp only[oq,eo,dw,aV,dN,vM (show i<=l.length by omega),h];rw[xA (by omega),List.drop_append_of_le_length (by omega),List.drop_of_length_le (bi l.length)];simp
end
def RH{m:aa}(hm:chk m=0)(up:Bool)(k:Int)(h0:0<=k)(h1:k<10 ^ m.length):
  ef 20000000 m k up=some (match nx up m (dg m.length k)with | some r=>(vl r,0) | none=>(0,16)):=by
 obtain⟨h18,_,hok⟩:=pO hm;have hp:=GN m.length h18;have hlen:=Ad m.length k;have hrng:=wI m.length k;have hv:=SV m.length k h0 h1;have hn:=Wb up hok hlen.symm hrng;have hsplit:=SA m k h18 h0 (by omega);generalize dg m.length k=l at hlen hrng hv hn hsplit ⊢;have hout:(over [0,0,0,0,0,0,0,0,0,0,0,0,0,0,0,0,0,0] 0 l).length=18:=by rw[SK _ _ _ (by simp;omega)];rfl
 have fin:∀r:List Int,nx up m l=some r->iv 20000000 m (over [0,0,0,0,0,0,0,0,0,0,0,0,0,0,0,0,0,0] 0 r)=some (vl r):=by
  intro r hr;rw[hr]at hn;obtain⟨i1,i2,_⟩:=hn;rw[Ss _ h18 i1 i2,D9 i2]
 have hap:=aaA m l;have hagr:=N2 m l;have happ:=Ha up (m:=m.take (ap m l)) (m':=m.drop (ap m l)) (d:=l.take (ap m l)) (d':=l.drop (ap m l)) (by simp;omega) hagr;rw[vJ,vJ]at happ;have hz0:nj 20000000 m k=some (over [0,0,0,0,0,0,0,0,0,0,0,0,0,0,0,0,0,0] 0 l):=hsplit;generalize hzz:([0,0,0,0,0,0,0,0,0,0,0,0,0,0,0,0,0,0]:List Int)=z at hout fin hz0;rcases aN (ap m l) m.length with hlt | hge
 ·obtain⟨c,hc⟩:∃c,m[ap m l]?=some c:=⟨m[ap m l],ba hlt⟩;obtain⟨y,hy⟩:∃c,l[ap m l]?=some c:=⟨l[ap m l]'(by omega),ba (by omega)⟩;obtain⟨h88,hcy⟩:=NJ hc hy;have hg:(over z 0 l)[ap m l]?=some y:=by rw[yW (by omega)];exact hy
  have eL:(((ap m l:Nat):Int)==(m.length:Int))=false:=by simp;omega
  have hj:ap m l<18:=by omega
  have hfc:fil up (m.drop (ap m l))=(c.toNat:Int)::fil up (m.drop (ap m l+1)):=by
   rw[da hc];simp[fil,h88]
  have hbk:=Jv up m l hlen.symm (ap m l) hap;have hnx:nx up (m.drop (ap m l)) (l.drop (ap m l))=if decide ((c.toNat:Int)>y)=up then some (fil up (m.drop (ap m l)))else none:=by
   rw[hfc,da hc,da hy];simp only[nx,ab h88,ab hcy]
  rw[hnx]at happ;by_cases hup:decide ((c.toNat:Int)>y)=up
  ·rw[ae hup]at happ;simp only at happ;have f2:=fin _ happ;rw[happ];simp only[];rw[<-FX z l _ _ (by rw[EU,cg];omega)]at f2;have l2:=Hw h18 up _ hout (ap m l) hap;cases up
   ·have l0:=nX (z:=z) hlen.symm h18 k 57 48 false;have l2':av (bM 20000000) 20000000 (m,57,((ap m l:Nat):Int),over z 0 l)=_:=l2;simp only[ef,kH,ah,hz0,ob,l0,eL,af,fh hc,dh hj,hg,hup,Ac,dU,l2',f2]
   ·have l0:=nX (z:=z) hlen.symm h18 k 48 57 true;have l2':av (bM 20000000) 20000000 (m,48,((ap m l:Nat):Int),over z 0 l)=_:=l2;simp only[ef,dU,ah,hz0,ob,l0,eL,af,fh hc,dh hj,hg,hup,Ac,l2',f2]
  ·rw[ab hup]at happ;simp only[hbk]at happ;have hne:(!(decide ((c.toNat:Int)>y)==up))=true:=by
    cases up<;>cases hh:decide ((c.toNat:Int)>y)<;>simp_all
   have l1:=P5 (z:=z) hlen.symm h18 (fst up) up (over z 0 l) (ap m l) hap;cases hb:bki up m l (ap m l)with
   | none=>
    rw[hb]at happ l1;simp only[ke]at happ;rw[happ];simp only[]at l1 ⊢;cases up
    ·have l0:=nX (z:=z) hlen.symm h18 k 57 48 false;have l1':av (dk 20000000) 20000000 (m,false,57,48,((ap m l:Nat):Int),over z 0 l,over z 0 l)=_:=l1;simp only[ef,kH,ah,hz0,ob,l0,eL,af,fh hc,dh hj,hg,hne,l1']
    ·have l0:=nX (z:=z) hlen.symm h18 k 48 57 true;have l1':av (dk 20000000) 20000000 (m,true,48,57,((ap m l:Nat):Int),over z 0 l,over z 0 l)=_:=l1;simp only[ef,dU,ah,hz0,ob,l0,eL,af,fh hc,dh hj,hg,hne,l1']
   | some a=>
    have ha:=Vz up m l hb;obtain⟨w,hw⟩:∃c,l[a]?=some c:=⟨l[a]'(by omega),ba (by omega)⟩;have hga:(over z 0 l)[a]?=some w:=by rw[yW (by omega)];exact hw
    have hgd:l.getD a 0=w:=by rw[G5,hw];rfl
    have hwr:=hrng w (fR hw);have haj:a<18:=by omega
    have e2:Nat.blt a 18=true:=dc haj;have w1:wrap .i64 ((a:Int)+1)=((a+1:Nat):Int):=by rw[wd];omega
    rw[hb]at happ l1;simp only[fQ,hgd]at happ;have f2:=fin _ happ;rw[happ];simp only[]at l1 ⊢;rw[<-FX z l _ _ (by rw[aI,EU,cg];omega),<-EH _ _ _ _ (by omega)]at f2;have l2:=Hw h18 up ((over z 0 l).set a (stp up w)) (by simpa using hout) (a+1) (by omega);cases up
    ·have l0:=nX (z:=z) hlen.symm h18 k 57 48 false;have l1':av (dk 20000000) 20000000 (m,false,57,48,((ap m l:Nat):Int),over z 0 l,over z 0 l)=some (.inr (m,false,57,(a:Int),over z 0 l)):=l1;have l2':av (bM 20000000) 20000000 (m,57,((a+1:Nat):Int),(over z 0 l).set a (w - 1))=_:=l2;have w2:wrap .u8 (w - 1)=w - 1:=gJ _ (by omega) (by omega);simp only[ef,kH,ah,hz0,ob,l0,eL,af,fh hc,dh hj,hg,hne,l1',dh haj,hga,e2,w1,w2,l2',f2]
    ·have l0:=nX (z:=z) hlen.symm h18 k 48 57 true;have l1':av (dk 20000000) 20000000 (m,true,48,57,((ap m l:Nat):Int),over z 0 l,over z 0 l)=some (.inr (m,true,48,(a:Int),over z 0 l)):=l1;have l2':av (bM 20000000) 20000000 (m,48,((a+1:Nat):Int),(over z 0 l).set a (w+1))=_:=l2;have w2:wrap .u8 (w+1)=w+1:=gJ _ (by omega) (by omega);simp only[ef,dU,ah,hz0,ob,l0,eL,af,fh hc,dh hj,hg,hne,l1',dh haj,hga,e2,w1,w2,l2',f2]
 ·have e:ap m l=m.length:=by omega
  rw[e,tg,<-hlen,tg,oC]at happ;simp only[nx,mi]at happ;have eL:(((ap m l:Nat):Int)==(m.length:Int))=true:=by rw[e];simp
  rw[happ];simp only[hv];cases up
  ·have l0:=nX (z:=z) hlen.symm h18 k 57 48 false;simp only[ef,kH,ah,hz0,ob,l0,eL]
  ·have l0:=nX (z:=z) hlen.symm h18 k 48 57 true;simp only[ef,dU,af,hz0,ob,l0,eL,ah]
def near(up:Bool)(m:aa)(k:Int):Option Int->Prop
 | some R=>hasM m R=true/\ga up k R/\∀e,hasM m e=true->ga up k e->ga up R e
 | none=>∀e,hasM m e=true->¬ga up k e
def res(o:Option Int):Int×Int:=match o with | some r=>(r,0) | none=>(0,16)
def qS{m:aa}{e:Int}(h:hasM m e=true):(dg m.length e).length=m.length/\digl (dg m.length e)/\kQ m (dg m.length e)=true/\vl (dg m.length e)=e/\0<=e/\e<10 ^ m.length:=by
 unfold hasM at h;simp only[aD,cK]at h;exact⟨Ad _ _,wI _ _,h.2.2,SV _ _ h.1 h.2.1,h.1,h.2.1⟩
def XQ{m:aa}{r:List Int}(e:r.length=m.length)(b:digl r)(d:kQ m r=true):hasM m (vl r)=true:=by
 have a:=yS b;have c:=ab8 b;rw[e]at a c;unfold hasM;rw[c,d,ar a.1,ar a.2];rfl
def AU{m:aa}(p:chk m=0)(up:Bool)(k:Int)(n:0<=k)(q:k<10 ^ m.length):∃o,ef 20000000 m k up=some (res o)/\near up m k o:=by
 obtain⟨t,_,d⟩:=pO p;have b:=Wb up d (Ad m.length k).symm (wI m.length k);have g:=SV m.length k n q;refine⟨(nx up m (dg m.length k)).map vl,?_,?_⟩
 ·rw[RH p up k n q];cases nx up m (dg m.length k)<;>rfl
 ·cases hx:nx up m (dg m.length k)with
  | none=>
   rw[hx]at b;intro e f c;obtain⟨j,i,h,a,_⟩:=qS f;exact b _ j i h (by rw[g,a];exact c)
  | some r=>
   rw[hx]at b;obtain⟨w,u,s,l,v⟩:=b;refine⟨XQ w u s,by rw[g]at l;exact l,λe f c=>?_⟩;obtain⟨j,i,h,a,_⟩:=qS f;have:=v _ j i h (by rw[g,a];exact c);rwa[a]at this
def Jt{m:aa}{e:Int}(h:hasM m e=true):0<=idx m.reverse e/\idx m.reverse e<10 ^ cnt m/\nth m.reverse (idx m.reverse e)=e:=by
 rw[Jo]at h;simp only[aD,cK]at h;obtain⟨k0,k1,k2⟩:=h;have:=Bl m.reverse e k0;rw[vE]at this;exact⟨this.1,this.2,PU k0 (by rw[xI];exact k1) k2⟩
section
variable {m:List UInt8} (hm:chk m=0)
include hm
def Qs{i j:Int}(c:0<=i)(d:i<=j)(e:j<10 ^ cnt m):nth m.reverse i<=nth m.reverse j:=by
 obtain⟨b,_,a⟩:=pO hm;rcases Int.lt_or_eq_of_le d with h | rfl
 ·exact Int.le_of_lt (EL (CO a) i j c h (by rw[vE];exact e))
 ·exact ql _
def GZ(k:Int):od 20000000 m k=some (decide (0<=k/\k<10 ^ m.length)):=by
 obtain⟨b,_,c⟩:=pO hm;simp only[od,Sz m.length b,ob];by_cases a:0<=k
 ·have d0:decide (k>=0)=true:=by simpa using a
  simp only[d0,ah,a,lL,qV]
 ·have d0:decide (k>=0)=false:=by simpa using a
  simp only[d0,af,a,AB,pM]
def Qh(k:Int):∃o,uH 20000000 m k=some (res o)/\near true m k o:=by
 obtain⟨g,_,a⟩:=pO hm;have l:((0:Int) != 0)=false:=by simp
 simp only[uH,nI 20000000 m (by omega),hm,oO,l,af,GZ hm];by_cases c:k<0
 ·refine⟨some (nth m.reverse 0),by simp only[ar c,ah,Uz hm,oO,res],LD hm (by omega),?_,λe d f=>?_⟩
  ·have:=(ut (CO a) 0 (by omega)).1;simp only[ga];omega
  ·obtain⟨q,n,r⟩:=Jt d;have:=Qs hm (ql 0) q n;simp only[ga];omega
 ·by_cases b:k<10 ^ m.length
  ·obtain⟨o,p,j⟩:=AU hm true k (by omega) b;exact⟨o,by simp only[au c,af,ar (show 0<=k/\k<10 ^ m.length from⟨by omega,b⟩),dU,p,oO],j⟩
  ·refine⟨none,by simp only[au c,af,au (show¬(0<=k/\k<10 ^ m.length)fromλh=>b h.2),kH,ah,res],λe d f=>?_⟩;obtain⟨_,_,_,_,_,i⟩:=qS d;simp only[ga]at f;omega
def Px(k:Int):∃o,uD 20000000 m k=some (res o)/\near false m k o:=by
 obtain⟨g,_,a⟩:=pO hm;have n:((0:Int) != 0)=false:=by simp
 simp only[uD,nI 20000000 m (by omega),hm,oO,n,af,GZ hm];by_cases c:k<0
 ·refine⟨none,by simp only[ar c,ah,res],λe d f=>?_⟩;obtain⟨_,_,_,_,i,_⟩:=qS d;simp only[ga]at f;omega
 ·by_cases b:k<10 ^ m.length
  ·obtain⟨o,p,j⟩:=AU hm false k (by omega) b;exact⟨o,by simp only[au c,af,ar (show 0<=k/\k<10 ^ m.length from⟨by omega,b⟩),dU,p,oO],j⟩
  ·have l:=wc (cnt m);refine⟨some (nth m.reverse (10 ^ cnt m - 1)),by simp only[au c,af,au (show¬(0<=k/\k<10 ^ m.length)fromλh=>b h.2),kH,ah,HW hm,oO,res],LD hm (by omega),?_,λe d f=>?_⟩
   ·have:=(ut (CO a) (10 ^ cnt m - 1) (by omega)).2;rw[xI]at this;simp only[ga];omega
   ·obtain⟨q,s,r⟩:=Jt d;have:=Qs hm q (show idx m.reverse e<=10 ^ cnt m - 1 by omega) (by omega);simp only[ga];omega
end
end Go.Sh.Mk
namespace Go.Sh
open Go.Abs
def fitN(s:aa)(g:Nat):List Nat:=(List.range' 1 g).filter (agr s)
def wC(l:List Nat):List Int:=l.map λk:Nat=>(k:Int)
def Gl(l:List Nat):(wC l).length=l.length:=by simp[wC]
def HA(c:UInt8){j:Nat}(a:j<10):(wrap .i64 (wrap .u8 ((c.toNat:Int) - 48))==(j:Int))=(c==UInt8.ofNat (48+j)):=by
 have hc:=c.toNat_lt;have b:=D3 ((c.toNat:Int) - 48);rw[wd,MZ,mL,bA,bA];have d:(UInt8.ofNat (48+j)).toNat=48+j:=by simp;omega
 constructor
 ·intro h;apply ii.1;omega
 ·rintro rfl;omega
def NC(n:Nat)(a b:UInt8){k:Nat}(l:k<=31):mj n [a,b] (k:Int)=some (agr [a,b] k):=by
 have j:wrap .i64 (Int.tdiv (k:Int) 10)=((k / 10:Nat):Int):=by
  rw[show Int.tdiv (k:Int) 10=((k / 10:Nat):Int)from rfl,wd]
 have i:Int.tmod (k:Int) 10=((k%10:Nat):Int):=rfl;have s0:sx [a,b] 0=some a:=rfl;have g:sx [a,b] 1=some b:=rfl;have c:(88:Int)=((88:Nat):Int):=rfl;unfold mj;simp only[s0,g,ob,j,i];rw[HA a (show k / 10<10 by omega),HA b (show k%10<10 by omega),c,yf (by omega),yf (by omega)];show _=some ((a==UInt8.ofNat 88||a==UInt8.ofNat (48+k / 10))&&(b==UInt8.ofNat 88||b==UInt8.ofNat (48+k%10)));generalize(a==UInt8.ofNat 88)=e;generalize(b==UInt8.ofNat 88)=d;generalize(a==UInt8.ofNat (48+k / 10))=h;generalize(b==UInt8.ofNat (48+k%10))=f;cases e<;>cases d<;>cases h<;>cases f<;>rfl
def room{k:Nat}(h:k<=60000000):Nat.ble (k+1) cS=true:=dc (by unfold cS;omega)
def Lt{X Y:Type}{step:X->Option (X⊕Y)}{f:Nat->List Int->X}{y:List Int->Y}{p:Nat->Bool}{g:Nat}(e:g<=1000)
  (h:∀i out,i<g->out.length<=1000->step (f i out)=some (.inl (f (i+1) (if p (i+1)then out++[((i+1:Nat):Int)]else out))))
  (d:∀out,step (f g out)=some (.inr (y out))) {N:Nat} (a:g<N):av step N (f 0 [])=some (y (wC ((List.range' 1 g).filter p))):=by
 have c:∀(r i:Nat) (out:List Int),i+r=g->out.length<=i->∀N,r<N->av step N (f i out)=some (y (out++wC ((List.range' (i+1) r).filter p))):=by
  intro r
  induction r with
  | zero=>
   intro i out hi b N a;obtain⟨N,rfl⟩:∃q,N=q+1:=⟨N - 1,by omega⟩;obtain rfl:i=g:=by omega
   rw[av,d];simp[wC]
  | succ r ih=>
   intro i out hi b N a;obtain⟨N,rfl⟩:∃q,N=q+1:=⟨N - 1,by omega⟩;rw[av,h i out (by omega) (by omega)];show av step N _=_;by_cases hp:p (i+1)=true
   ·rw[ae hp,ih (i+1) _ (by omega) (by simp;omega) N (by omega),Aj,Vf hp];simp[wC]
   ·rw[ab hp,ih (i+1) _ (by omega) (by omega) N (by omega),Aj,VU hp]
 have:=c g 0 [] (by omega) (by simp) N a;simpa using this
def O4 (n:Nat) (j:100<n) (a b:UInt8) {g:Nat} (h:g<=31):gf n [a,b] (g:Int)=some (wC (fitN [a,b] g)):=by
 unfold gf
 have:=Lt (step:=gZ n) (f:=λi out=>([a,b],(g:Int),(i:Int),out)) (y:=λl=>l) (p:=agr [a,b]) (g:=g) (by omega)
  (λi out hi e=>by
   have d:wrap .i64 ((i:Int)+1)=((i+1:Nat):Int):=by rw [wd];omega
   unfold gZ;simp only [d];rw [ar (show (i:Int)<(g:Int) by omega),NC n a b (by omega),room (by omega)];by_cases hp:agr [a,b] (i+1)=true
   ·rw [ae hp];simp only [ob,hp,ah]
   ·rw [ab hp];rw [KH] at hp;simp only [ob,hp,ah,af])
  (λout=>by
   unfold gZ;simp only [au (show ¬(g:Int)<(g:Int) by omega),af])
  (N:=n) (by omega)
 have c:av (gZ n) n ([a,b],(g:Int),0,([]:List Int))=_:=this;rw [c];rfl
def monI(m:aa):List Int:=if m=[]then[0]else if 0<sea m then[sea m]else wC (fitN m 12)
def dayI(d:aa):List Int:=if d=[]then[0]else wC (fitN d 31)
def gY{l:aa}(h:l≠[]):(l==([]:aa))=false:=aL.2 h
def len2{s:aa}(h:s.length=2):∃a b,s=[a,b]:=by
 match s,h with
 | [a,b],_=>exact⟨a,b,rfl⟩
def ada(n:Nat)(k:100<n)(g l:Bool)(dg:aa)(x q:Int)(m d:aa)(k0 k1 k2:Int)(j:m=[]\/m.length=2)(p:d=[]\/d.length=2):
  sA n g l dg x q m d k0 k1 k2=some (g,l,dg,x,q,m,d,k0,k1,k2,monI m,dayI d):=by
 have i:m.length<=18:=by rcases j with h | h;(rw[h];simp);omega
 have f:d≠[]->gf n d 31=some (dayI d):=λh=>by
  obtain⟨a,b,rfl⟩:=len2 (p.resolve_left h);rw[show(31:Int)=((31:Nat):Int)from rfl,O4 n k a b (by omega)];unfold dayI;rw[ab h]
 have c:d=[]->dayI d=[0]:=λh=>by unfold dayI;rw[ae h]
 have o:m≠[]->¬0<sea m->gf n m 12=some (monI m):=λh hs=>by
  obtain⟨a,b,rfl⟩:=len2 (j.resolve_left h);rw[show(12:Int)=((12:Nat):Int)from rfl,O4 n k a b (by omega)];unfold monI;rw[ab h,ab hs]
 unfold sA;rw[rH n g l dg x q m d k0 k1 k2 i];simp only[ob];by_cases hs:0<sea m
 ·have e:m≠[]:=by rintro rfl;exact absurd hs (by decide)
  have hm':monI m=[sea m]:=by unfold monI;rw[ab e,ae hs]
  rw[ar hs];by_cases h:d=[]
  ·rw[h,<-h,c h,hm',h];rfl
  ·rw[gY h,f h,hm'];rfl
 ·rw[au hs];by_cases e:m=[]
  ·have hm':monI m=[0]:=by unfold monI;rw[ae e]
   by_cases h:d=[]
   ·rw[c h,hm',h,e];rfl
   ·rw[gY h,f h,hm',e];rfl
  ·rw[gY e,o e hs];by_cases h:d=[]
   ·rw[c h,h];rfl
   ·rw[gY h,f h];rfl
def M6 (n:Nat) (c:100<n) (g l:Bool) (dg:aa) (x q:Int) (m d:aa) (k0 k1 k2:Int):kS n g l dg x q m d k0 k1 k2=some (monI m):=by
 unfold kS;by_cases a:m=[]
 ·unfold monI;rw [ae a,a];rfl
 ·rw [gY a,nl n c];simp only [ob,af];unfold monI;rw [ab a];by_cases hs:0<sea m
  ·rw [ae hs,ar (show sea m>0 from hs)];rfl
  ·rw [ab hs,au (show ¬sea m>0 from hs)]
   have:=Lt (step:=eO n) (f:=λi out=>(((i+1:Nat):Int),g,l,dg,x,q,m,d,k0,k1,k2,out)) (y:=λl=>l) (p:=agr m) (g:=12) (by omega)
    (λi out hi h=>by
     have b:wrap .i64 (((i+1:Nat):Int)+1)=((i+1+1:Nat):Int):=by rw [wd];omega
     unfold eO;simp only [d4,d8,b];rw [ar (show ((i+1:Nat):Int)<=12 by omega),xK n m (i+1) (by omega),room (by omega)];by_cases hp:agr m (i+1)=true
     ·rw [ae hp,ae hp];rfl
     ·rw [ab hp,ab hp];rfl)
    (λout=>by
     unfold eO;simp only [d4,d8,au (show ¬((12+1:Nat):Int)<=12 by omega),af])
    (N:=n) (by omega)
   have e:av (eO n) n (1,g,l,dg,x,q,m,d,k0,k1,k2,([]:List Int))=_:=this;rw [e];rfl
def vo(y:Int):Bool:=decide (y%4=0)&&(decide (y%100≠0)||decide (y%400=0))
def lenI(y m:Int):Int:=if m=4\/m=6\/m=9\/m=11 then 30 else if m=2 then(if vo y then 29 else 28)else 31
def Q3(y:Int){b:Int}(c:0<b):(Int.tmod y b==0)=decide (y%b=0):=by
 rw[mL,bA,decide_eq_true_iff];have h:=Qz (a:=y) (b:=b);have f:=O6 y (show b≠0 by omega);have g:=OU y c;by_cases hc:0<=y\/b∣y
 ·rw[ae hc]at h;omega
 ·rw[ab hc]at h;have d:¬b∣y:=λe=>hc (.inr e);have:y%b≠0:=λe=>d (NN e);omega
def D5(n:Nat)(y m:Int):fi n y m=some (lenI y m):=by
 have b:(Int.tmod y 100 != 0)=decide (y%100≠0):=by
  rw[bne,Q3 y (by omega)];by_cases h:y%100=0<;>simp[h]
 unfold fi;rw[Q3 y (by omega),Q3 y (by omega),b];have body:(cond (m==2) (cond (decide (y%4=0)) (cond (decide (y%100≠0)) (some (29:Int)) (cond (decide (y%400=0)) (some 29) (some 28))) (some 28)) (some 31))=some (if m=2 then(if vo y=true then 29 else 28)else 31):=by
  rw[iQ];by_cases c:m=2
  ·rw[ae c,ae c];unfold vo;cases decide (y%4=0)<;>cases decide (y%100≠0)<;>cases decide (y%400=0)<;>rfl
  ·rw[ab c,ab c]
 rw[body];unfold lenI;by_cases d:m=4
 ·subst d;rfl
 ·by_cases e:m=6
  ·subst e;rfl
  ·by_cases f:m=9
   ·subst f;rfl
   ·by_cases a:m=11
    ·subst a;rfl
    ·rw[aL.2 d,aL.2 e,aL.2 f,aL.2 a,ab (show¬(m=4\/m=6\/m=9\/m=11)by omega)];rfl
def AE(n:Nat){y:Int}(h:-20000000000000000<=y/\y<=20000000000000000):gA n y=some (1+(y - 1) / 4 - (y - 1) / 100+(y - 1) / 400):=by
 unfold gA;rw[wrap_i64 (y - 1) (by omega) (by omega),zf n (by omega) (by omega) (by omega) (by omega),zf n (by omega) (by omega) (by omega) (by omega),zf n (by omega) (by omega) (by omega) (by omega)];show some _=some _;have f:-5000000000000001<=(y - 1) / 4/\(y - 1) / 4<=5000000000000001:=by omega
 have d:-5000000000000001<=(y - 1) / 100/\(y - 1) / 100<=5000000000000001:=by omega
 have e:-5000000000000001<=(y - 1) / 400/\(y - 1) / 400<=5000000000000001:=by omega
 generalize(y - 1) / 4=a at *;generalize(y - 1) / 100=b at *;generalize(y - 1) / 400=c at *;simp only[];rw[wrap_i64 (1*a) (by omega) (by omega),wrap_i64 (-1*b) (by omega) (by omega),wrap_i64 (1*c) (by omega) (by omega),wrap_i64 (1+1*a) (by omega) (by omega),wrap_i64 (1+1*a+-1*b) (by omega) (by omega),wd];congr 1;omega
def SJ(y:Int):(1+y / 4 - y / 100+y / 400>1+(y - 1) / 4 - (y - 1) / 100+(y - 1) / 400)↔vo y=true:=by
 unfold vo;simp only[aD,jk,cK];omega
def WI(n:Nat){y:Int}(h:eT y):lX n y=some (vo y,0):=by
 unfold lX;have h':=h;unfold eT at h';rw[iw,ae h,wrap_i64 (y+1) (by omega) (by omega),AE n (by omega),AE n (by omega),show y+1 - 1=y by omega];have b:=SJ y;show some (decide (1+y / 4 - y / 100+y / 400>1+(y - 1) / 4 - (y - 1) / 100+(y - 1) / 400),(0:Int))=_;by_cases a:vo y=true
 ·rw[a,ar (b.2 a)]
 ·rw[KH]at a;rw[a,au (λe=>by rw[b.1 e]at a;cases a)]
def A9(n:Nat){y:Int}(h:eT y){m:Nat}(d:1<=m)(c:m<=12):fj n y (m:Int)=some (lenI y (m:Int)):=by
 unfold fj;rw[WI n h];show cond (vo y&&((m:Int)==2)) _ _=_;have a:wrap .i64 ((m:Int) - 1)=((m - 1:Nat):Int):=by rw[wd];omega
 rw[a,dh (show m - 1<12 by omega)];have b:m=1\/m=2\/m=3\/m=4\/m=5\/m=6\/m=7\/m=8\/m=9\/m=10\/m=11\/m=12:=by omega
 rcases b with rfl | rfl | rfl | rfl | rfl | rfl | rfl | rfl | rfl | rfl | rfl | rfl<;>unfold lenI<;>cases vo y<;>rfl
def P7(n:Nat){y:Int}(h:eT y){m:Nat}(a:1<=m)(b:m<=12):rj n y (m:Int)=some (lenI y (m:Int),0):=by
 unfold rj;rw[Lp n h a b,A9 n h a b];rfl
def kL(y m:Int):28<=lenI y m/\lenI y m<=31:=by
 unfold lenI;split
 ·omega
 ·split
  ·split<;>omega
  ·omega
def yj(d:aa)(y m:Int):Int:=if d=[]then 0 else lenI y m
def yb(d:aa)(y a:Int):List (Int×Int×Int):=((dayI d).filter λk=>decide (k<=yj d y a)).map λk=>(y,a,k)
def yo(m d:aa)(y:Int):List (Int×Int×Int):=(monI m).flatMap (yb d y)
def QJ{X Y A:Type}{step:X->Option (X⊕Y)}{f:Nat->List A->X}{y:List A->Y}{p:Nat->Bool}{e:Nat->A}{g:Nat}(a:List A)
  (h:∀i out,i<g->out.length<=a.length+i->step (f i out)=some (.inl (f (i+1) (if p (i+1)then out++[e (i+1)]else out))))
  (j:∀out,step (f g out)=some (.inr (y out))) {N:Nat} (b:g<N):av step N (f 0 a)=some (y (a++((List.range' 1 g).filter p).map e)):=by
 have d:∀(r i:Nat) (out:List A),i+r=g->out.length<=a.length+i->∀N,r<N->av step N (f i out)=some (y (out++((List.range' (i+1) r).filter p).map e)):=by
  intro r
  induction r with
  | zero=>
   intro i out hi c N b;obtain⟨N,rfl⟩:∃q,N=q+1:=⟨N - 1,by omega⟩;obtain rfl:i=g:=by omega
   rw[av,j];simp
  | succ r ih=>
   intro i out hi c N b;obtain⟨N,rfl⟩:∃q,N=q+1:=⟨N - 1,by omega⟩;rw[av,h i out (by omega) (by omega)];show av step N _=_;by_cases hp:p (i+1)=true
   ·rw[ae hp,ih (i+1) _ (by omega) (by simp;omega) N (by omega),Aj,Vf hp];simp
   ·rw[ab hp,ih (i+1) _ (by omega) (by omega) N (by omega),Aj,VU hp]
 exact d g 0 a (by omega) (by omega) N b
def PP{X Y A B:Type}{step:X->Option (X⊕Y)}{f:Nat->List A->X}{y:List A->Y}{F:B->List A}{L:List B}{c:Nat}(hc:∀b∈L,(F b).length<=c)
  (h:∀i b out,L[i]?=some b->out.length<=c*i->step (f i out)=some (.inl (f (i+1) (out++F b))))
  (j:∀out,step (f L.length out)=some (.inr (y out))) {N:Nat} (a:L.length<N):av step N (f 0 [])=some (y (L.flatMap F)):=by
 have g:∀(r i:Nat) (out:List A),i+r=L.length->out.length<=c*i->∀N,r<N->av step N (f i out)=some (y (out++(L.drop i).flatMap F)):=by
  intro r
  induction r with
  | zero=>
   intro i out hi d N a;obtain⟨N,rfl⟩:∃q,N=q+1:=⟨N - 1,by omega⟩;obtain rfl:i=L.length:=by omega
   rw[av,j];simp
  | succ r ih=>
   intro i out hi d N a;obtain⟨N,rfl⟩:∃q,N=q+1:=⟨N - 1,by omega⟩;have e:L[i]?=some L[i]:=ba (by omega);rw[av,h i L[i] out e d];show av step N _=_;have k:=hc L[i] (tG _);rw[ih (i+1) _ (by omega) (by rw[aV,Nat.mul_add];omega) N (by omega),qj (show i<L.length by omega),pV,gx]
 have:=g L.length 0 [] (by omega) (by simp) N a;simpa using this
def Yf(d:aa)(L:Nat)(h:L<=31):(wC (fitN d 31)).filter (λk=>decide (k<=(L:Int)))=wC ((List.range' 1 L).filter (agr d)):=by
 have hs:List.range' 1 31=List.range' 1 L++List.range' (1+L) (31 - L):=by
  have:=List.range'_append_1 (s:=1) (m:=L) (n:=31 - L);rw[this,show L+(31 - L)=31 by omega]
 unfold fitN wC;rw[hs,RJ,Iy,RJ];have e:(List.map (λk:Nat=>(k:Int)) (List.filter (agr d) (List.range' 1 L))).filter (λk=>decide (k<=(L:Int)))=List.map (λk:Nat=>(k:Int)) (List.filter (agr d) (List.range' 1 L)):=by
  rw[List.filter_eq_self];intro k b;obtain⟨j,a,rfl⟩:=eY.1 b;have:=vD.1 (na.1 a).1;exact ar (by omega)
 have c:(List.map (λk:Nat=>(k:Int)) (List.filter (agr d) (List.range' (1+L) (31 - L)))).filter (λk=>decide (k<=(L:Int)))=[]:=by
  rw[List.filter_eq_nil_iff];intro k b;obtain⟨j,a,rfl⟩:=eY.1 b;have:=vD.1 (na.1 a).1;simp only[cK];omega
 rw[e,c,mi]
def JQ(s:aa)(g:Nat):(fitN s g).length<=g:=by
 have:=D8 (agr s) (List.range' 1 g);rw[List.length_range']at this;exact this
def Lx(d:aa):(dayI d).length<=31:=by
 unfold dayI;split
 ·simp
 ·rw[Gl];exact JQ d 31
def Lc(m:aa):(monI m).length<=12:=by
 unfold monI;split
 ·simp
 ·split
  ·simp
  ·rw[Gl];exact JQ m 12
def MX(d:aa)(y a:Int):(yb d y a).length<=31:=by
 unfold yb;rw[vF];exact tY (D8 _ _) (Lx d)
def O3(y a:Int):yb [] y a=[(y,a,0)]:=rfl
def Nk{d:aa}(h:d≠[])(y a:Int):yb d y a=((List.range' 1 (lenI y a).toNat).filter (agr d)).map λk:Nat=>(y,a,(k:Int)):=by
 have b:=kL y a;unfold yb dayI yj;rw[ab h,ab h];have:=Yf d (lenI y a).toNat (by omega);rw[show(((lenI y a).toNat:Nat):Int)=lenI y a by omega]at this;rw[this,wC,vK];rfl
def MV (n:Nat) (v:100<n) (g l:Bool) (dg:aa) (x q:Int) (m d:aa) (k0 k1 k2 y:Int):
  mf n g l dg x q m d k0 k1 k2 y=some (yo m d y):=by
 have w:=Lc m;unfold mf;rw [M6 n v];have:=PP (step:=fE n) (f:=λi out=>(y,(i:Int),g,l,dg,x,q,m,d,k0,k1,k2,monI m,out)) (y:=λo=>o) (F:=yb d y) (L:=monI m) (c:=31) (λb _=>MX d y b)
  (λi h out hi B=>by
   have a:i<(monI m).length:=(qk.1 hi).1;have t:wrap .i64 ((i:Int)+1)=((i+1:Nat):Int):=by rw [wd];omega
   unfold fE;simp only [d4,d8,t];rw [ar (show (i:Int)<(((monI m).length:Nat):Int) by omega),dh a];by_cases s:d=[]
   ·subst s;rw [O3];simp only [ob,hi,ah,room (show out.length<=60000000 by omega)];rfl
   ·rw [gY s];have C:=kL y h;have r:=QJ (step:=fJ n) (f:=λj o=>(y,(i:Int),((j+1:Nat):Int),g,l,dg,x,q,m,d,k0,k1,k2,monI m,o)) (y:=λo=>(y,(i:Int),g,l,dg,x,q,m,d,k0,k1,k2,monI m,o)) (p:=agr d) (e:=λk=>(y,h,(k:Int))) (g:=(lenI y h).toNat) out
     (λj o D z=>by
      have A:wrap .i64 (((j+1:Nat):Int)+1)=((j+1+1:Nat):Int):=by rw [wd];omega
      unfold fJ;simp only [d4,d8,A,dh a,ob,hi,D5];rw [ar (show ((j+1:Nat):Int)<=lenI y h by omega),xK n d (j+1) (by omega),room (show o.length<=60000000 by omega)];by_cases hp:agr d (j+1)=true
      ·rw [ae hp,ae hp];rfl
      ·rw [ab hp,ab hp];rfl)
     (λo=>by
      unfold fJ;simp only [d4,d8,dh a,ob,hi,D5];rw [au (show ¬(((lenI y h).toNat+1:Nat):Int)<=lenI y h by omega)];rfl)
     (N:=n) (by omega)
    have hin':av (fJ n) n (y,(i:Int),1,g,l,dg,x,q,m,d,k0,k1,k2,monI m,out)=_:=r;simp only [ah,af];rw [hin',Nk s];simp only [ob,d4,d8,t])
  (λout=>by
   unfold fE;simp only [d4,d8];rw [au (show ¬(((monI m).length:Nat):Int)<(((monI m).length:Nat):Int) by omega)];rfl)
  (N:=n) (by omega)
 have u:av (fE n) n (y,0,g,l,dg,x,q,m,d,k0,k1,k2,monI m,([]:List (Int×Int×Int)))=_:=this;simp only [ob];rw [u];rfl
def abK{a b c e:UInt8}(j:bv a=true\/a=88)(k:bv b=true\/b=88)(hc:bv c=true\/c=88)(l:bv e=true\/e=88)(w:Nat):
  mtk [a,b,c,e] 4 w=Mk.ag [e,c,b,a] (w:Int):=by
 have one:∀(z:UInt8) (v:Nat),(decide (z=88)||decide (z.toNat=48+v%10))=(decide (z=88)||decide (Mk.dv z=(v:Int)%10)):=by
  intro z v;have:(z.toNat=48+v%10)↔(Mk.dv z=(v:Int)%10):=by unfold Mk.dv;omega
  rw[jr.2 this]
 have d:∀v:Nat,(v:Int) / 10=((v / 10:Nat):Int):=λv=>by omega
 show((decide (e=88)||decide (e.toNat=48+w%10))&&((decide (c=88)||decide (c.toNat=48+w / 10%10))&&((decide (b=88)||decide (b.toNat=48+w / 10 / 10%10))&&((decide (a=88)||decide (a.toNat=48+w / 10 / 10 / 10%10))&&true))))
  = ((((true&&(decide (a=88)||decide (Mk.dv a=(w:Int) / 10 / 10 / 10%10)))&&(decide (b=88)||decide (Mk.dv b=(w:Int) / 10 / 10%10)))&&(decide (c=88)||decide (Mk.dv c=(w:Int) / 10%10)))&&(decide (e=88)||decide (Mk.dv e=(w:Int)%10)))
 rw[one e w,one c (w / 10),one b (w / 10 / 10),one a (w / 10 / 10 / 10),d w,d (w / 10),d (w / 10 / 10)];generalize(decide (e=88)||decide (Mk.dv e=(w:Int)%10))=g;generalize(decide (c=88)||decide (Mk.dv c=((w / 10:Nat):Int)%10))=f;generalize(decide (b=88)||decide (Mk.dv b=((w / 10 / 10:Nat):Int)%10))=i;generalize(decide (a=88)||decide (Mk.dv a=((w / 10 / 10 / 10:Nat):Int)%10))=h;cases g<;>cases f<;>cases i<;>cases h<;>rfl
def XA{c:UInt8}(h:bv c=true\/c=88):Mk.okB c=true:=by
 rcases h with h | h
 ·have h:=(cA c).1 h;unfold Mk.okB;simp only[jk,aD,cK];right
  first | omega | (obtain⟨a,b⟩:=h;constructor<;>omega)
 ·subst h;decide
def Ub{d:aa}(a:d.length=4)(h:∀c∈d,bv c=true\/c=88):Mk.chk d=0:=by
 unfold Mk.chk;have:d.all Mk.okB=true:=cb.2 λc hc=>XA (h c hc);rw[ad,ae this,ab (by rintro rfl;simp at a)]
def JU{d:aa}(g:d.length=4)(h:∀c∈d,bv c=true\/c=88)(w:Nat):Mk.hasM d (w:Int)=true↔mtk d 4 w=true/\w / 10 ^ 4=0:=by
 obtain⟨a,b,c,e,rfl⟩:∃a b c e,d=[a,b,c,e]:=by
  match d,g with
  | [a,b,c,e],_=>exact⟨a,b,c,e,rfl⟩
 rw[Mk.Jo,abK (h a (by simp)) (h b (by simp)) (h c (by simp)) (h e (by simp)) w];simp only[aD,cK];show 0<=(w:Int)/\(w:Int)<10 ^ 4/\Mk.ag [e,c,b,a] (w:Int)=true↔Mk.ag [e,c,b,a] (w:Int)=true/\w / 10 ^ 4=0;have i:(10:Int) ^ 4=10000:=by decide
 have e4':(10:Nat) ^ 4=10000:=by decide
 rw[i,e4'];constructor
 ·rintro⟨_,j,f⟩;exact⟨f,by omega⟩
 ·rintro⟨f,j⟩;exact⟨by omega,by omega,f⟩
def LQ{g l:Bool}{d:aa}{x q:Int}(a:okY g l d x q)(h:hasX d=true)(v:Int):inP g d x q v↔(Mk.hasM d (wOf g v)=true/\(g=true->1<=wOf g v)):=by
 obtain⟨rfl,rfl,rfl,b,i⟩:=tK a h;unfold inP;rw[LK h];have o:∀k:Int,Mk.hasM d k=true->0<=k/\k<10000:=λk m=>by
  have:=(Mk.qS m).2.2.2.2;rw[b]at this;have u:(10:Int) ^ 4=10000:=by decide
  omega
 constructor
 ·rintro⟨f,j,s,n,r⟩;have:=(JU b i (wOf g v).toNat).2 r;rw[show(((wOf g v).toNat:Nat):Int)=wOf g v by omega]at this;refine⟨this,λc=>?_⟩;have w:¬wOf g v=0:=λe=>n ⟨h,c,e⟩;omega
 ·rintro⟨f,j⟩;have hr':=o _ f;have p:=(JU b i (wOf g v).toNat).1 (by rw[show(((wOf g v).toNat:Nat):Int)=wOf g v by omega];exact f);have t:v=wOf g v\/v=- wOf g v:=by
   unfold wOf;split
   ·right;omega
   ·left;rfl
  refine⟨by omega,by omega,hr'.1,?_,p⟩;rintro⟨_,c,e⟩;have:=j c;omega
def HN{g l:Bool}{d:aa}{x:Int}(a:okY g l d x 0)(b:hasX d=false)(v:Int):inP g d x 0 v↔v=(if g then -((val d x.toNat:Nat):Int)else((val d x.toNat:Nat):Int)):=by
 obtain⟨k,q,rfl,n,f⟩:=va a b;have hs:=f.small;have e:dval 0 d*10 ^ k=val d k:=rfl;rw[e]at hs;unfold E16 at hs;unfold inP;rw[VE b];have j:IY d (k:Int).toNat (0:Int).toNat=1:=rfl;rw[j,co,vG,vG,b];unfold wOf;cases g with
 | true=>
  simp only[aS];constructor
  ·rintro⟨i,m,c,_,h⟩;omega
  ·rintro rfl;refine⟨by omega,by omega,by omega,by simp,by omega⟩
 | false=>
  simp only[bI,aF];constructor
  ·rintro⟨i,m,c,_,h⟩;omega
  ·rintro rfl;refine⟨by omega,by omega,by omega,by simp,by omega⟩
def I3(up:Bool)(Y:Int->Prop)(v w:Int)(a:Bool):Prop:=
 (a=true->Y w/\Mk.ga up v w/\∀e,Y e->Mk.ga up v e->Mk.ga up w e)/\(a=false->∀e,Y e->¬Mk.ga up v e)
def gk(a b:Int):Mk.ga true a b↔a<=b:=Iff.rfl
def jC(a b:Int):Mk.ga false a b↔b<=a:=Iff.rfl
def US(o:Option Int):(Mk.res o).2=0/\(∃r,o=some r/\(Mk.res o).1=r)\/(Mk.res o).2=16/\o=none/\(Mk.res o).1=0:=by
 cases o with
 | none=>exact .inr ⟨rfl,rfl,rfl⟩
 | some r=>exact .inl ⟨rfl,r,rfl,rfl⟩
def yc{m:aa}(j:Mk.chk m=0)(v a:Int)(q:0<=a):∃w f,gI 20000000 m v true a=some (w,f)/\I3 true (λe=>Mk.hasM m e=true/\a<=e) v w f/\(0<=w/\w<1000000000000000000):=by
 obtain⟨o,p,d⟩:=Mk.Qh j (cond (decide (a>v)) a v);unfold gI;rw[p];simp only[ob,ah];have hc:(cond (decide (a>v)) a v)=max v a:=by
  by_cases h:a>v
  ·rw[ar h];show a=_;omega
  ·rw[au h];show v=_;omega
 rw[hc]at d;rcases US o with⟨i,r,rfl,c⟩ | ⟨i,rfl,c⟩
 ·refine⟨_,_,rfl,?_,?_⟩
  ·rw[i,c];obtain⟨a1,a2,n⟩:=d;rw[gk]at a2;refine⟨λ_=>⟨⟨a1,by omega⟩,?_,λe b g=>?_⟩,λh=>by cases h⟩
   ·rw[gk];omega
   ·rw[gk]at g;exact n e b.1 (by rw[gk];have:=b.2;omega)
  ·have:=(Mk.qS d.1).2.2.2.2;have l:=Mk.pO j;have hp:(10:Int) ^ m.length<=10 ^ 18:=by
    have:=mK (show 0<10 by decide) l.1
    exact_mod_cast this
   have k:(10:Int) ^ 18=1000000000000000000:=by decide
   rw[c];omega
 ·refine⟨_,_,rfl,?_,by rw[c];omega⟩;rw[i];refine⟨(λh=>by cases h),λ_ e b g=>?_⟩;rw[gk]at g;exact d e b.1 (by rw[gk];have:=b.2;omega)
def yg{m:aa}(j:Mk.chk m=0)(v a:Int)(t:0<=a):∃w f,gI 20000000 m v false a=some (w,f)/\I3 false (λe=>Mk.hasM m e=true/\a<=e) v w f/\(0<=w/\w<1000000000000000000):=by
 obtain⟨o,q,l⟩:=Mk.Px j v;unfold gI;rw[q];simp only[ob,af];rcases US o with⟨i,r,rfl,g⟩ | ⟨i,rfl,g⟩
 ·rw[i,g];obtain⟨a1,a2,k⟩:=l;rw[jC]at a2;have s:=(Mk.qS a1).2.2.2.2;have p:=Mk.pO j;have hp:(10:Int) ^ m.length<=10 ^ 18:=by
   have:=mK (show 0<10 by decide) p.1
   exact_mod_cast this
  have n:(10:Int) ^ 18=1000000000000000000:=by decide
  refine⟨_,_,rfl,?_,by omega⟩;by_cases d:r>=a
  ·rw[ar d];refine⟨λ_=>⟨⟨a1,by omega⟩,by rw[jC];omega,λe b c=>k e b.1 c⟩,λh=>by cases h⟩
  ·rw[au d];refine⟨(λh=>by cases h),λ_ e b c=>?_⟩;have:=k e b.1 c;rw[jC]at this;have:=b.2;omega
 ·rw[i,g];refine⟨_,_,rfl,?_,by omega⟩;refine⟨(λh=>by cases h),λ_ e b c=>l e b.1 c⟩
def Rw{g l:Bool}{dg:aa}{x:Int}(n:okY g l dg x 0)(m d:aa)(k0 k1 k2:Int)(v:Int)(G:-9223372036854775808<=v/\v<9223372036854775808)(up:Bool)(C E:List Int):
  ∃w f,cX 20000000 g l dg x 0 m d k0 k1 k2 v up C E=some (w,f)/\I3 up (inP g dg x 0) v w f:=by
 have D:=gR n;unfold cX;rw[wX];simp only[ob];cases t:hasX dg with
 | false=>
  have c:=HN n t;rw[EG 20000000 g l dg x 0 (by omega) (by omega),ae ⟨n,t⟩];simp only[kH,ah];generalize(if g then -((val dg x.toNat:Nat):Int)else((val dg x.toNat:Nat):Int))=w at *;cases up with
  | true=>
   by_cases h:w>=v
   ·refine⟨w,true,?_,?_⟩
    ·simp only[ar h,ah]
    ·refine⟨λ_=>⟨(c w).2 rfl,h,λe b _=>?_⟩,λh=>by cases h⟩;rw[(c e).1 b];exact ql _
   ·refine⟨w,false,?_,?_⟩
    ·simp only[au h,ah,af,dU]
    ·refine⟨(λh=>by cases h),λ_ e b k=>?_⟩;rw[(c e).1 b,gk]at k;omega
  | false=>
   by_cases h:w<=v
   ·refine⟨w,true,?_,?_⟩
    ·simp only[ar h,ah,af,kH]
    ·refine⟨λ_=>⟨(c w).2 rfl,h,λe b _=>?_⟩,λh=>by cases h⟩;rw[(c e).1 b];exact ql _
   ·refine⟨w,false,?_,?_⟩
    ·simp only[au h,ah,af,kH]
    ·refine⟨(λh=>by cases h),λ_ e b k=>?_⟩;rw[(c e).1 b,jC]at k;omega
 | true=>
  have c:=LQ n t;obtain⟨rfl,rfl,_,z,F⟩:=tK n t;have s:=Ub z F;simp only[dU,af];cases g with
  | false=>
   simp only[kH,ah];have q:∀w f,I3 up (λe=>Mk.hasM dg e=true/\0<=e) v w f->I3 up (inP false dg 0 0) v w f:=λw f h=>by
    have a:∀e,(Mk.hasM dg e=true/\0<=e)↔inP false dg 0 0 e:=λe=>by
     rw[c e];constructor
     ·rintro⟨i,_⟩;exact⟨i,λh=>by cases h⟩
     ·rintro⟨i,_⟩;exact⟨i,(Mk.qS i).2.2.2.2.1⟩
    refine⟨λj=>?_,λj e b=>h.2 j e ((a e).2 b)⟩;obtain⟨b1,b2,r⟩:=h.1 j;exact⟨(a w).1 b1,b2,λe b=>r e ((a e).2 b)⟩
   cases up with
   | true=>
    obtain⟨w,f,i,p,_⟩:=yc s v 0 (by omega);exact⟨w,f,by rw[i],q w f p⟩
   | false=>
    obtain⟨w,f,i,p,_⟩:=yg s v 0 (by omega);exact⟨w,f,by rw[i],q w f p⟩
  | true=>
   simp only[dU,af];have hc:wrap .i64 (0 - (cond (decide (((-9223372036854775807):Int)>v)) (-9223372036854775807) v))=min (-v) 9223372036854775807:=by
    by_cases h:((-9223372036854775807):Int)>v
    ·rw[ar h,ah,wd];omega
    ·rw[au h,af,wd];omega
   rw[hc];have y:∀e,Mk.hasM dg e=true->0<=e/\e<10000:=λe b=>by
    have:=(Mk.qS b).2.2.2.2;rw[z]at this;have H:(10:Int) ^ 4=10000:=by decide
    omega
   have a:∀e,inP true dg 0 0 e↔(Mk.hasM dg (-e)=true/\1<=-e):=λe=>by
    rw[c e];exact⟨λh=>⟨h.1,h.2 rfl⟩,λh=>⟨h.1,λ_=>h.2⟩⟩
   have A:∀w:Int,0<=w/\w<1000000000000000000->wrap .i64 (0 - w)=-w:=λw h=>by rw[wd];omega
   cases up with
   | true=>
    obtain⟨w,f,i,p,u⟩:=yg s (min (-v) 9223372036854775807) 1 (by omega);refine⟨-w,f,by rw[dU,i];simp only[A w u],?_,?_⟩
    ·intro j;obtain⟨b1,b2,r⟩:=p.1 j;rw[jC]at b2;refine⟨(a _).2 (by rw[Int.neg_neg];exact b1),by rw[gk];omega,λe b k=>?_⟩;rw[gk]at k;have o:=(a e).1 b;have:=r (-e) o (by rw[jC];have:=y _ o.1;omega);rw[jC]at this;rw[gk];omega
    ·intro j e b k;rw[gk]at k;have o:=(a e).1 b;exact p.2 j (-e) o (by rw[jC];have:=y _ o.1;omega)
   | false=>
    obtain⟨w,f,i,p,u⟩:=yc s (min (-v) 9223372036854775807) 1 (by omega);refine⟨-w,f,by rw[kH,i];simp only[A w u],?_,?_⟩
    ·intro j;obtain⟨b1,b2,r⟩:=p.1 j;rw[gk]at b2;have B:=y _ b1.1;refine⟨(a _).2 (by rw[Int.neg_neg];exact b1),by rw[jC];omega,λe b k=>?_⟩;rw[jC]at k;have o:=(a e).1 b;have:=r (-e) o (by rw[gk];omega);rw[gk]at this;rw[jC];omega
    ·intro j e b k;rw[jC]at k;have o:=(a e).1 b;exact p.2 j (-e) o (by rw[gk];omega)
def wY{X Y A:Type}{step:X->Option (X⊕Y)}{f:Nat->X}{L:List A}{G:A->Option Y}{e:Y}
  (h:∀i a,L[i]?=some a->step (f i)=some ((G a).elim (.inl (f (i+1))) Sum.inr)) (g:step (f L.length)=some (.inr e)) {N:Nat} (b:L.length<N):
  av step N (f 0)=some ((L.findSome? G).getD e):=by
 have d:∀(r i:Nat),i+r=L.length->∀N,r<N->av step N (f i)=some (((L.drop i).findSome? G).getD e):=by
  intro r
  induction r with
  | zero=>
   intro i hi N b;obtain⟨N,rfl⟩:∃q,N=q+1:=⟨N - 1,by omega⟩;obtain rfl:i=L.length:=by omega
   rw[av,g];simp
  | succ r ih=>
   intro i hi N b;obtain⟨N,rfl⟩:∃q,N=q+1:=⟨N - 1,by omega⟩;have c:L[i]?=some L[i]:=ba (by omega);rw[av,h i L[i] c,qj (show i<L.length by omega),FK];cases j:G L[i]with
   | some y=>rfl
   | none=>exact ih (i+1) (by omega) N (by omega)
 have:=d L.length 0 (by omega) N b;simpa using this
def ahd(up:Bool)(a b:Int):Bool:=cond up (decide (a<b)) (decide (a>b))
def J8(n:Nat)(a b:Int)(up:Bool):dC n a b up=some (ahd up a b):=by
 unfold dC ahd;cases up
 ·rfl
 ·simp only[ah,dU,af];cases decide (a<b)<;>rfl
def EY(up a:Bool)(d:aa)(b most k:Int):Bool:=decide (k<=most)&&!(a&&(!(d==([]:aa))&&ahd up k b))
def Om(up:Bool)(m:aa)(b a y c:Int):Bool:=(y==b)&&(!(m==([]:aa))&&ahd up c a)
def MF(m:aa)(b a y c:Int):Bool:=(y==b)&&((m==([]:aa))||(c==a))
def IA(up:Bool)(m d:aa)(c b e y:Int)(f:List Int)(a:Int):Option (Int×Int×Int):=
 if Om up m c b y a then none else(f.find? (EY up (MF m c b y a) d e (yj d y a))).map λk=>(y,a,k)
def IQ(up:Bool)(m d:aa)(f c b:Int)(a e:List Int)(y:Int):Option (Int×Int×Int):=a.findSome? (IA up m d f c b y e)
def QO(d:aa)(b:List Int):Prop:=b.length<=31/\(d≠[]->∀a∈b,1<=a/\a<=12)
def RD(n:Nat)(g l:Bool)(dg:aa)(x q:Int)(m d:aa)(k0 k1 k2:Int){y:Int}(hy:eT y){a:Int}(c:d≠[]->1<=a/\a<=12)(e f:List Int):
  fX n g l dg x q m d k0 k1 k2 y a e f=some (yj d y a):=by
 unfold fX yj;by_cases b:d=[]
 ·subst b;rfl
 ·rw[gY b,ab b];have:=c b;obtain⟨k,rfl⟩:∃k:Nat,a=(k:Int):=⟨a.toNat,by omega⟩;rw[af,P7 n hy (by omega) (by omega)];rfl
def Xf{A B Y:Type}(L:List A)(p:A->Bool)(F:A->B)(J:B->Y)(e:Y):(L.findSome? λa=>if p a then some (J (F a))else none).getD e=((L.find? p).map F).elim e J:=by
 induction L with
 | nil=>rfl
 | cons a L ih=>
  rw[List.find?_cons,FK];cases h:p a
  ·simpa using ih
  ·simp
def abD{A B Y:Type}(L:List A)(G:A->Option B)(J:B->Y)(e:Y):(L.findSome? λa=>(G a).map J).getD e=(L.findSome? G).elim e J:=by
 induction L with
 | nil=>rfl
 | cons a L ih=>
  rw[FK,FK];cases h:G a
  ·simpa using ih
  ·simp
def Ux(n:Nat)(s y f:Int)(a:Bool)(most j h:Int)(o b:List Int)(g l:Bool)(dg:aa)(x q:Int)(m d:aa)(k0 k1 k2 v u c:Int)(up:Bool)(r p rd:Int)(i:Nat)(k:Int)(hi:b[i]?=some k)(w:i<1000):
  cn n (s,y,f,a,most,j,h,(b.length:Int),(i:Int),o,b,g,l,dg,x,q,m,d,k0,k1,k2,v,u,c,up,r,p,rd)=some ((if EY up a d c most k then some (.inl (true,y,f,k))else none).elim (.inl (s,y,f,a,most,j,h,(b.length:Int),((i+1:Nat):Int),o,b,g,l,dg,x,q,m,d,k0,k1,k2,v,u,c,up,r,p,rd)) Sum.inr):=by
 have e:i<b.length:=(qk.1 hi).1;have t:wrap .i64 ((i:Int)+1)=((i+1:Nat):Int):=by rw[wd];omega
 unfold cn jM EY;simp only[d4,d8,d16,dh e,hi,ob,t,J8];rw[ar (show(i:Int)<(b.length:Int)by omega)];simp only[ah];cases decide (k<=most)<;>cases a<;>cases(d==([]:aa))<;>cases ahd up k c<;>simp only[dU,kH,ah,af,t]<;>rfl
def Yi(n:Nat)(s y p:Int)(b:Bool)(most e c:Int)(f a:List Int)(g l:Bool)(dg:aa)(x q:Int)(m d:aa)(k0 k1 k2 o k h:Int)(up:Bool)(j i rd:Int):
  cn n (s,y,p,b,most,e,c,(a.length:Int),(a.length:Int),f,a,g,l,dg,x,q,m,d,k0,k1,k2,o,k,h,up,j,i,rd)=some (.inr (.inr (s,y,e,c,f,a,g,l,dg,x,q,m,d,k0,k1,k2,o,k,h,up,j,i,rd))):=by
 unfold cn;simp only[d4,d8,d16];rw[au (show¬(a.length:Int)<(a.length:Int)by omega)];rfl
def Wa (n:Nat) (A:1000<n) (s y h:Int) (a:Bool) (most o j:Int) (p b:List Int) (g l:Bool) (dg:aa) (x q:Int) (m d:aa) (k0 k1 k2 v u c:Int) (up:Bool) (t r rd:Int) (B:b.length<=31):
  av (cn n) n (s,y,h,a,most,o,j,(b.length:Int),0,p,b,g,l,dg,x,q,m,d,k0,k1,k2,v,u,c,up,t,r,rd)=some (((b.find? (EY up a d c most)).map (λk=>(y,h,k))).elim (.inr (s,y,o,j,p,b,g,l,dg,x,q,m,d,k0,k1,k2,v,u,c,up,t,r,rd)) (λz=>.inl (true,z))):=by
 have:=wY (step:=cn n) (f:=λi=>(s,y,h,a,most,o,j,(b.length:Int),(i:Int),p,b,g,l,dg,x,q,m,d,k0,k1,k2,v,u,c,up,t,r,rd)) (L:=b) (G:=λk=>if EY up a d c most k then some (.inl (true,y,h,k)) else none) (e:=.inr (s,y,o,j,p,b,g,l,dg,x,q,m,d,k0,k1,k2,v,u,c,up,t,r,rd))
  (λi k hi=>by
   have w:i<b.length:=(qk.1 hi).1;exact Ux n s y h a most o j p b g l dg x q m d k0 k1 k2 v u c up t r rd i k hi (by omega))
  (Yi n s y h a most o j p b g l dg x q m d k0 k1 k2 v u c up t r rd) (N:=n) (by omega)
 exact this.trans (cf some (Xf b (EY up a d c most) (λk=>(y,h,k)) (λz=>Sum.inl (true,z)) _))
def SY(n:Nat)(D:1000<n)(s y:Int)(hy:eT y)(j p:List Int)(g l:Bool)(dg:aa)(x q:Int)(m d:aa)(k0 k1 k2 e o r:Int)(up:Bool)(u t rd:Int)(A:QO d j)(E:p.length<=31)(i:Nat)(f:Int)(hi:j[i]?=some f):
  cV n (s,y,(j.length:Int),(i:Int),j,p,g,l,dg,x,q,m,d,k0,k1,k2,e,o,r,up,u,t,rd)=some (((IA up m d e o r y p f).map (λz=>(.inl (true,z):(Bool×Int×Int×Int)⊕_))).elim (.inl (s,y,(j.length:Int),((i+1:Nat):Int),j,p,g,l,dg,x,q,m,d,k0,k1,k2,e,o,r,up,u,t,rd)) Sum.inr):=by
 have w:i<j.length:=(qk.1 hi).1;have C:=A.1;have B:wrap .i64 ((i:Int)+1)=((i+1:Nat):Int):=by rw[wd];omega
 have v:d≠[]->1<=f/\f<=12:=λh=>A.2 h f (fR hi);have j20:∀a b:Int,gp n s y f (y==e) a b j p g l dg x q m d k0 k1 k2 e o r up u t rd=some (s,y,f,y==e,a,b,Om up m e o y f,j,p,g,l,dg,x,q,m,d,k0,k1,k2,e,o,r,up,u,t,rd):=by
  intro a b;unfold gp Om;simp only[J8,ob];cases(y==e)<;>cases(m==([]:aa))<;>rfl
 have j23:∀a b c:Int,gq n s y f (y==e) a b c j p g l dg x q m d k0 k1 k2 e o r up u t rd=some (s,y,f,MF m e o y f,a,b,c,j,p,g,l,dg,x,q,m,d,k0,k1,k2,e,o,r,up,u,t,rd):=by
  intro a b c;unfold gq MF;cases(y==e)<;>cases(m==([]:aa))<;>rfl
 unfold cV jx IA;simp only[d4,d8,d16,dh w,hi,ob,j20];rw[ar (show(i:Int)<(j.length:Int)by omega)];simp only[ah];cases hs:Om up m e o y f with
 | true=>simp only[ah,aS,ke,B];rfl
 | false=>
  simp only[af,bI,aF,RD n g l dg x q m d k0 k1 k2 hy v,j23,Wa n D s y f (MF m e o y f) (yj d y f) _ _ j p g l dg x q m d k0 k1 k2 e o r up u t rd E];cases p.find? (EY up (MF m e o y f) d r (yj d y f))with
  | some k=>rfl
  | none=>simp only[ke,Option.elim_none,B]
def Yt (n:Nat) (u:1000<n) (s y:Int) (hy:eT y) (a b:List Int) (g l:Bool) (dg:aa) (x q:Int) (m d:aa) (k0 k1 k2 j h c:Int) (up:Bool) (o k rd:Int) (r:QO d a) (v:b.length<=31):
  av (cV n) n (s,y,(a.length:Int),0,a,b,g,l,dg,x,q,m,d,k0,k1,k2,j,h,c,up,o,k,rd)=some ((IQ up m d j h c a b y).elim (.inr (s,y,a,b,g,l,dg,x,q,m,d,k0,k1,k2,j,h,c,up,o,k,rd)) (λz=>.inl (true,z))):=by
 have t:=r.1;have:=wY (step:=cV n) (f:=λi=>(s,y,(a.length:Int),(i:Int),a,b,g,l,dg,x,q,m,d,k0,k1,k2,j,h,c,up,o,k,rd)) (L:=a) (G:=λp=>(IA up m d j h c y b p).map (λz=>(.inl (true,z):(Bool×Int×Int×Int)⊕_))) (e:=.inr (s,y,a,b,g,l,dg,x,q,m,d,k0,k1,k2,j,h,c,up,o,k,rd))
  (λi p hi=>SY n u s y hy a b g l dg x q m d k0 k1 k2 j h c up o k rd r v i p hi)
  (by
   unfold cV;simp only [d4,d8,d16];rw [au (show ¬(a.length:Int)<(a.length:Int) by omega)];rfl)
  (N:=n) (by omega)
 exact this.trans (cf some (abD a (IA up m d j h c y b) (λz=>Sum.inl (true,z)) _))
def Si(n:Nat)(k:1000<n)(s y:Int)(hy:eT y)(a b:List Int)(g l:Bool)(dg:aa)(x q:Int)(m d:aa)(k0 k1 k2 f e c:Int)(up:Bool)(i h rd:Int)(j:QO d a)(o:b.length<=31):
  dK n (s,y,true,a,b,g,l,dg,x,q,m,d,k0,k1,k2,f,e,c,up,i,h,rd)=(IQ up m d f e c a b y).elim (ob (cX n g l dg x q m d k0 k1 k2 (wrap .i64 (y+s)) up a b) λr=>some (.inl (s,r.1,r.2,a,b,g,l,dg,x,q,m,d,k0,k1,k2,f,e,c,up,i,h,rd))) (λz=>some (.inr (.inl (true,z)))):=by
 unfold dK;simp only[d4,d8,d16,ah,ob,Yt n k s y hy a b g l dg x q m d k0 k1 k2 f e c up i h rd j o];cases IQ up m d f e c a b y<;>rfl
def K4(up:Bool)(Y:Int->Prop)(F:Int->Option (Int×Int×Int))(v:Int):Option (Int×Int×Int)->Prop
 | some z=>∃e,Y e/\Mk.ga up v e/\F e=some z/\∀a,Y a->Mk.ga up v a->¬Mk.ga up e a->F a=none
 | none=>∀e,Y e->Mk.ga up v e->F e=none
def MJ{X:Type}{step:X->Option (X⊕((Bool×Int×Int×Int)⊕(Int×Int×Int)))}{st:Int->Bool->X}{F:Int->Option (Int×Int×Int)}{Y:Int->Prop}{up:Bool}{s lo hi:Int}{E:Int×Int×Int}{fy:Int->Option (Int×Bool)}
  (hs:s=if up then 1 else -1) (B:∀e,Y e->lo<=e/\e<=hi) (M:-10000000000000000<=lo) (d:hi<=10000000000000000)
  (a:∀y,Y y->step (st y true)=(F y).elim (ob (fy (wrap .i64 (y+s))) λr=>some (.inl (st r.1 r.2))) (λz=>some (.inr (.inl (true,z)))))
  (c:∀y,step (st y false)=some (.inr (.inr E)))
  (p:∀v,-9223372036854775808<=v/\v<9223372036854775808->∃w f,fy v=some (w,f)/\I3 up Y v w f):
  ∀(r:Nat) (v y:Int) (f:Bool),I3 up Y v y f->(f=true->(if up then hi - y else y - lo)<(r:Int))->∀N,r<N->
   ∃o,av step N (st y f)=some (o.elim (.inr E) (λz=>.inl (true,z)))/\K4 up Y F v o:=by
 intro r
 induction r with
 | zero=>
  intro v y f k n N H;obtain⟨N,rfl⟩:∃q,N=q+1:=⟨N - 1,by omega⟩;cases f with
  | true=>
   obtain⟨a1,_,_⟩:=k.1 rfl;have:=B y a1;have:=n rfl;cases up<;>simp at this<;>omega
  | false=>
   refine⟨none,by rw[av,c];rfl,λe i l=>absurd l (k.2 rfl e i)⟩
 | succ r ih=>
  intro v y f k n N H;obtain⟨N,rfl⟩:∃q,N=q+1:=⟨N - 1,by omega⟩;cases f with
  | false=>
   refine⟨none,by rw[av,c];rfl,λe i l=>absurd l (k.2 rfl e i)⟩
  | true=>
   obtain⟨a1,a2,A⟩:=k.1 rfl;have L:=B y a1;cases j:F y with
   | some z=>
    refine⟨some z,?_,y,a1,a2,j,λb d m g=>absurd (A b d m) g⟩;rw[av,a y a1,j];rfl
   | none=>
    have I:wrap .i64 (y+s)=y+s:=by
     have:-1<=s/\s<=1:=by rw[hs];cases up<;>simp
     exact wrap_i64 _ (by omega) (by omega)
    obtain⟨w,C,K,u⟩:=p (y+s) (by
     have:-1<=s/\s<=1:=by rw[hs];cases up<;>simp
     omega)
    have hstep':step (st y true)=some (.inl (st w C)):=by
     rw[a y a1,j,I];show ob (fy (y+s)) _=_;rw[K];rfl
    obtain⟨o,J,x⟩:=ih (y+s) w C u (λD=>by
     obtain⟨b1,b2,_⟩:=u.1 D;have:=n rfl;cases up
     ·rw[jC]at b2;simp only[bI,aF]at hs this ⊢;omega
     ·rw[gk]at b2;simp only[aS]at hs this ⊢;omega) N (by omega)
    refine⟨o,by rw[av,hstep'];exact J,?_⟩;have split:∀b,Y b->Mk.ga up v b->b=y\/Mk.ga up (y+s) b:=λb d m=>by
     have g:=A b d m;cases up
     ·rw[jC]at g ⊢;simp only[bI,aF]at hs;omega
     ·rw[gk]at g ⊢;simp only[aS]at hs;omega
    cases o with
    | none=>
     intro e i l;rcases split e i l with rfl | h
     ·exact j
     ·exact x e i h
    | some z=>
     obtain⟨e,G,t,c3,c4⟩:=x;refine⟨e,G,?_,c3,λb d m g=>?_⟩
     ·cases up
      ·rw[jC]at t a2 ⊢;simp only[bI,aF]at hs;omega
      ·rw[gk]at t a2 ⊢;simp only[aS]at hs;omega
     ·rcases split b d m with rfl | h
      ·exact j
      ·exact c4 b d h g
def BS{g l:Bool}{dg:aa}{x:Int}(c:okY g l dg x 0):∃lo hi:Int,(∀e,inP g dg x 0 e->lo<=e/\e<=hi)/\hi - lo<=10000/\-10000000000000000<=lo/\hi<=10000000000000000:=by
 cases f:hasX dg with
 | false=>
  have a:=HN c f;by_cases d:-10000000000000000<=(if g then -((val dg x.toNat:Nat):Int)else((val dg x.toNat:Nat):Int))/\(if g then -((val dg x.toNat:Nat):Int)else((val dg x.toNat:Nat):Int))<=10000000000000000
  ·refine⟨_,_,λe b=>?_,?_,d.1,d.2⟩
   ·rw[(a e).1 b];exact⟨ql _,ql _⟩
   ·omega
  ·refine⟨0,0,λe b=>?_,by omega,by omega,by omega⟩;exfalso;have:=(a e).1 b;unfold inP at b;exact d ⟨by rw[<-this];exact b.1,by rw[<-this];exact b.2.1⟩
 | true=>
  have a:=LQ c f;obtain⟨_,_,_,i,k⟩:=tK c f;refine⟨if g then -9999 else 0,if g then 0 else 9999,λe b=>?_,by cases g<;>simp,by cases g<;>simp,by cases g<;>simp⟩;have h:=((a e).1 b).1;have:=(Mk.qS h).2.2.2.2;rw[i]at this;have j:(10:Int) ^ 4=10000:=by decide
  unfold wOf at this;cases g
  ·simp at this ⊢;omega
  ·simp at this ⊢;omega
def Eb{g:Bool}{dg:aa}{x q e:Int}(h:inP g dg x q e):eT e:=⟨h.1,h.2.1⟩
def MO{g l:Bool}{dg:aa}{x:Int}(e:okY g l dg x 0)(m d:aa)(k0 k1 k2:Int)(a i h:Int)(k:-9223372036854775808<=a/\a<9223372036854775808)(b c:List Int)(u:QO d b)(D:c.length<=31):
  ∃o,ki 20000000 g l dg x 0 m d k0 k1 k2 a i h true b c=some (o.elim (0,0,0,false) λz=>(z.1,z.2.1,z.2.2,true))/\K4 true (inP g dg x 0) (IQ true m d a i h b c) a o:=by
 obtain⟨lo,hi,p,G,n,j⟩:=BS e;obtain⟨w,f,C,q⟩:=Rw e m d k0 k1 k2 a k true b c;obtain⟨o,A,B⟩:=MJ (step:=dK 20000000) (st:=λy f=>(1,y,f,b,c,g,l,dg,x,0,m,d,k0,k1,k2,a,i,h,true,0,0,0)) (F:=IQ true m d a i h b c) (Y:=inP g dg x 0) (up:=true) (s:=1) (lo:=lo) (hi:=hi) (E:=(0,0,0)) (fy:=λv=>cX 20000000 g l dg x 0 m d k0 k1 k2 v true b c)
  rfl p n j
  (λy hy=>Si 20000000 (by omega) 1 y (Eb hy) b c g l dg x 0 m d k0 k1 k2 a i h true 0 0 0 u D)
  (λy=>rfl)
  (λv t=>Rw e m d k0 k1 k2 v t true b c)
  10002 a w f q (λr=>by have:=p w (q.1 r).1;simp;omega) 20000000 (by omega)
 refine⟨o,?_,B⟩;unfold ki kl;simp only[dU,af,ob,d4,d8,d16,C];have i1':av (dK 20000000) 20000000 (1,w,f,b,c,g,l,dg,x,0,m,d,k0,k1,k2,a,i,h,true,0,0,0)=_:=A;rw[i1'];cases o<;>rfl
def JX(m d:aa)(o n:Int){g e:Int}(h:e≠g)(l f:List Int):IQ true m d g o n l f e=none↔(l.flatMap λa=>(f.filter λk=>decide (k<=yj d e a)).map λk=>(e,a,k))=[]:=by
 have i:(e==g)=false:=aL.2 h;unfold IQ;rw[VV,List.flatMap_eq_nil_iff];have:∀a,IA true m d g o n e f a=none↔((f.filter λk=>decide (k<=yj d e a)).map λk=>(e,a,k))=[]:=by
  intro a;unfold IA Om MF;rw[i];simp only[yh,bI,aF,Option.map_eq_none_iff,List.find?_eq_none,List.map_eq_nil_iff,List.filter_eq_nil_iff];constructor
  ·intro c k j;have:=c k j;unfold EY at this;simpa using this
  ·intro c k j;have:=c k j;unfold EY;simpa using this
 exact⟨λc a b=>(this a).1 (c a b),λc a b=>(this a).2 (c a b)⟩
def hasF(g:Bool)(dg:aa)(x:Int)(m d:aa):Prop:=∃e,inP g dg x 0 e/\yo m d e≠[]
open Classical in
noncomputable def chkF(g l:Bool)(dg:aa)(x q:Int)(m d:aa)(k0 k1 k2:Int):Int:=
 if chkD g l dg x q m d k0 k1 k2=0/\d≠[]/\¬hasF g dg x m d then 8 else chkD g l dg x q m d k0 k1 k2
def rt{g l:Bool}{dg:aa}{x q:Int}{m d:aa}{k0 k1 k2:Int}(h:chkD g l dg x q m d k0 k1 k2=0):okY g l dg x q/\(m=[]\/m.length=2)/\(d=[]\/d.length=2)/\(0<q->m=[])/\(d≠[]->m≠[]/\sea m=0):=by
 obtain⟨b,e,c3,c4⟩:=Hl h;unfold yrD at b;by_cases a:okY g l dg x q
 ·rw[ae a]at b;refine⟨a,?_,?_,λf=>?_,λk=>?_⟩
  ·rcases e with h | h | h
   ·exact .inl h
   ·exact .inr (IU h).1
   ·exact .inr (pK (by omega) h).1
  ·rcases c3 with h | ⟨_,_,h⟩
   ·exact .inl h
   ·exact .inr (pK (by omega) h).1
  ·unfold yrB at b;simp only[aD,ko]at b;have:=b.1;rw[ar f,rG]at this;by_cases c:m=[]
   ·exact c
   ·rw[gY c]at this;cases this
  ·rcases c3 with h | ⟨i,j,_⟩
   ·exact absurd h k
   ·exact⟨i,j⟩
 ·rw[ab a]at b;cases b
def RU{g l:Bool}{dg:aa}{x q:Int}(h:okY g l dg x q):0<=q:=(gR h).2.2.1
def PH{m d:aa}(h:d≠[]->m≠[]/\sea m=0):QO d (monI m):=by
 refine⟨tY (Lc m) (by omega),λe f a=>?_⟩;obtain⟨c,g⟩:=h e;unfold monI at a;rw[ab c,ad]at a;obtain⟨k,b,rfl⟩:=eY.1 a;have:=vD.1 (na.1 b).1;omega
def yB{g l:Bool}{dg:aa}{x q:Int}{m d:aa}{k0 k1 k2:Int}(p:m.length<=18)(t:dg.length<=100)(C:0<=k0)(E:0<=k1)(A:0<=k2):
  bQ 20000000 g l dg x q m d k0 k1 k2=some (chkF g l dg x q m d k0 k1 k2):=by
 unfold bQ chkF;rw[Eh 20000000 (by omega) g l dg x q m d k0 k1 k2 p t C E A];simp only[ob];by_cases hc:chkD g l dg x q m d k0 k1 k2=0
 ·obtain⟨c,n,r,w,f⟩:=rt hc;rw[hc];simp only[fU,af];by_cases j:d=[]
  ·subst j;rw[ab (by simp)];rfl
  ·rw[gY j,af];have k:q=0:=by
    have:=RU c;by_cases h:0<q
    ·exact absurd (w h) (f j).1
    ·omega
   subst k;have e:=ada 20000000 (by omega) g l dg x 0 m d k0 k1 k2 n r;have s:=PH f;obtain⟨o,o1,u⟩:=MO c m d k0 k1 k2 (-9223372036854775808) 0 0 (by omega) (monI m) (dayI d) s (Lx d);have b:∀e,inP g dg x 0 e->e≠-9223372036854775808:=λe D=>by have:=Eb D;unfold eT at this;omega
   have key:(∃z,o=some z)↔hasF g dg x m d:=by
    constructor
    ·rintro⟨z,rfl⟩;obtain⟨e,a,_,c3,_⟩:=u;refine⟨e,a,λv=>?_⟩;have:=(JX m d 0 0 (b e a) (monI m) (dayI d)).2 v;rw[this]at c3;cases c3
    ·rintro⟨e,a,y⟩;cases o with
     | some z=>exact⟨z,rfl⟩
     | none=>
      have:=u e a (by rw[gk];have:=Eb a;unfold eT at this;omega);exact absurd ((JX m d 0 0 (b e a) (monI m) (dayI d)).1 this) y
   rw[e];by_cases i:hasF g dg x m d
   ·obtain⟨z,rfl⟩:=key.2 i;rw[ab (λh=>h.2.2 i)]
    all_goals
     simp only[d4,d8,o1];rfl
   ·have B:o=none:=by
     cases o with
     | none=>rfl
     | some z=>exact absurd (key.1 ⟨z,rfl⟩) i
    subst B;rw[ae ⟨rfl,j,i⟩]
    all_goals
     simp only[d4,d8,o1];rfl
 ·rw[ab (λh=>hc h.1)];have:(chkD g l dg x q m d k0 k1 k2 != 0)=true:=by simp[hc]
  rw[this];rfl
def Uw {g l:Bool} {dg:aa} {x:Int} (c:okY g l dg x 0) (m d:aa) (k0 k1 k2:Int):
  ∃r,mr 20000000 g l dg x 0 m d k0 k1 k2=some r/\(r=1/\hasF g dg x m d\/r=0/\¬hasF g dg x m d):=by
 have K:=gR c;obtain ⟨lo,hi,A,R,M,P⟩:=BS c;obtain ⟨D,I,E⟩:=ID c;have w:=Us 19999700 g l dg x 0 (by omega) c;unfold mr;rw [show (20000000:Nat)=19999700+300 from rfl,w];simp only [ob];generalize (sgn g (qE g dg x 0)).1=a at *;generalize (sgn g (qE g dg x 0)).2=b at *;have Q:=A a D;have hb':=A b I;have O:=λy=>ZF 19999700 c y;have step:∀i y,((List.range (b - a+1).toNat).map (λj:Nat=>a+(j:Int)))[i]?=some y->i<(b - a+1).toNat/\y=a+(i:Int):=by
  intro i y h;rw [nV] at h;cases u:(List.range (b - a+1).toNat)[i]? with
  | none=>rw [u] at h;cases h
  | some j=>
   rw [u] at h;have hi:=qk.1 u;obtain ⟨C,B⟩:=hi;rw [List.getElem_range] at B;rw [List.length_range] at C;subst B;exact ⟨C,(bE h).symm⟩
 have p:((List.range (b - a+1).toNat).map (λj:Nat=>a+(j:Int))).length=(b - a+1).toNat:=by simp
 have:=wY (step:=g9 (19999700+300)) (f:=λi=>(b,a+(i:Int),g,l,dg,x,0,m,d,k0,k1,k2)) (L:=(List.range (b - a+1).toNat).map (λj:Nat=>a+(j:Int))) (G:=λy=>if inP g dg x 0 y/\yo m d y≠[] then some (.inl 1) else none) (e:=.inr ())
  (λi y h=>by
   obtain ⟨hi,rfl⟩:=step i y h;have H:wrap .i64 (a+(i:Int)+1)=a+((i+1:Nat):Int):=by rw [wd];omega
   unfold g9;simp only [d4,d8,H];rw [ar (show a+(i:Int)<=b by omega),O,MV (19999700+300) (by omega)];by_cases k:inP g dg x 0 (a+(i:Int))
   ·rw [ae k];by_cases n:yo m d (a+(i:Int))=[]
    ·rw [ab (λh=>h.2 n),n];rfl
    ·rw [ae ⟨k,n⟩];have hp:0<(yo m d (a+(i:Int))).length:=List.length_pos_iff.2 n;have F:decide ((((yo m d (a+(i:Int))).length:Nat):Int)>0)=true:=ar (by omega);simp only [ah,ob,F];rfl
   ·rw [ab k,ab (λh=>k h.1)];rfl)
  (by
   unfold g9;simp only [d4,d8];rw [p,au (show ¬a+(((b - a+1).toNat:Nat):Int)<=b by omega)];rfl)
  (N:=19999700+300) (by rw [p];omega)
 rw [show a+((0:Nat):Int)=a by omega] at this;rw [this];cases q:(List.findSome? (λy=>if inP g dg x 0 y/\yo m d y≠[] then some (Sum.inl (1:Int)) else none) ((List.range (b - a+1).toNat).map (λj:Nat=>a+(j:Int))):Option (Int⊕Unit)) with
 | none=>
  refine ⟨0,rfl,.inr ⟨rfl,?_⟩⟩;rintro ⟨e,s,v⟩;rw [VV] at q;have hs:=E e s;have:=q e (eY.2 ⟨(e - a).toNat,il.2 (by omega),by omega⟩);rw [ae ⟨s,v⟩] at this;cases this
 | some z=>
  obtain ⟨y,J,o⟩:=List.exists_of_findSome?_eq_some q;by_cases t:inP g dg x 0 y/\yo m d y≠[]
  ·rw [ae t] at o;obtain rfl:=bE o;exact ⟨1,rfl,.inl ⟨rfl,y,t.1,t.2⟩⟩
  ·rw [ab t] at o;cases o
def Ia{g l:Bool}{dg:aa}{x q:Int}{m d:aa}{k0 k1 k2:Int}(f:dg.length<=100)(k:0<=k0)(p:0<=k1)(s:0<=k2):
  cQ 20000000 g l dg x q m d k0 k1 k2=some (chkF g l dg x q m d k0 k1 k2):=by
 unfold cQ chkF;rw[Jb 20000000 (by omega) g l dg x q m d k0 k1 k2 f k p s];simp only[ob];by_cases hc:chkD g l dg x q m d k0 k1 k2=0
 ·obtain⟨a,j,n,o,i⟩:=rt hc;rw[hc];by_cases b:d=[]
  ·subst b;rw[ab (by simp)];rfl
  ·have c:q=0:=by
    have:=RU a;by_cases h:0<q
    ·exact absurd (o h) (i b).1
    ·omega
   subst c;obtain⟨r,u,t⟩:=Uw a m d k0 k1 k2;rw[gY b,u];rcases t with⟨rfl,e⟩ | ⟨rfl,e⟩
   ·rw[ab (λh=>h.2.2 e)];rfl
   ·rw[ae ⟨rfl,b,e⟩];rfl
 ·rw[ab (λh=>hc h.1)];have:(chkD g l dg x q m d k0 k1 k2==0)=false:=aL.2 hc;rw[this];rfl
def pX{g l:Bool}{dg:aa}{x q:Int}{m d:aa}{k0 k1 k2:Int}(h:chkF g l dg x q m d k0 k1 k2=0):chkD g l dg x q m d k0 k1 k2=0:=by
 unfold chkF at h;split at h
 ·cases h
 ·exact h
def bne0{e:Int}(h:e≠0):(e != 0)=true:=by simp[h]
def LO{m d:aa}{y:Int}{z:Int×Int×Int}:z∈yo m d y↔z.1=y/\z.2.1∈monI m/\z.2.2∈dayI d/\z.2.2<=yj d y z.2.1:=by
 unfold yo yb;simp only[Jl,eY,na,cK];constructor
 ·rintro⟨f,b,k,⟨c,a⟩,rfl⟩;exact⟨rfl,b,c,a⟩
 ·rintro⟨e,b,c,a⟩;exact⟨z.2.1,b,z.2.2,⟨c,a⟩,by rw[<-e]⟩
def Xk(y:Int)(i:Nat):(minL i:Int)<=lenI y (i:Int):=by
 unfold minL lenI
 repeat' split
 all_goals omega
def UL{g l:Bool}{dg:aa}{x:Int}(c:okY g l dg x 0){m d:aa}(o:m≠[])(hs:sea m=0)(h:d≠[])(a:fitD m d=true):hasF g dg x m d:=by
 obtain⟨p,_,_⟩:=ID c;refine⟨_,p,?_⟩;unfold fitD at a;simp only[vk,aD]at a;obtain⟨i,hi,j,k,q,b⟩:=a;have hi':=vD.1 hi;have hk':=vD.1 q;have n:minL i<=31:=by
  unfold minL
  repeat' split
  all_goals omega
 have f:((sgn g (qE g dg x 0)).1,(i:Int),(k:Int))∈yo m d (sgn g (qE g dg x 0)).1:=by
  rw[LO];refine⟨rfl,?_,?_,?_⟩
  ·unfold monI;rw[ab o,ad];exact eY.2 ⟨i,na.2 ⟨hi,j⟩,rfl⟩
  ·unfold dayI;rw[ab h];exact eY.2 ⟨k,na.2 ⟨vD.2 (by omega),b⟩,rfl⟩
  ·unfold yj;rw[ab h];have:=Xk (sgn g (qE g dg x 0)).1 i;show(k:Int)<=lenI (sgn g (qE g dg x 0)).1 (i:Int);omega
 intro e;rw[e]at f;cases f
def Ld{g l:Bool}{dg:aa}{x q:Int}{m d:aa}{k0 k1 k2:Int}(hc:chkD g l dg x q m d k0 k1 k2=0)(i:d=[]\/fitD m d=true):chkF g l dg x q m d k0 k1 k2=0:=by
 obtain⟨a,j,k,n,c⟩:=rt hc;unfold chkF;rw[ab,hc];rintro⟨_,e,o⟩;obtain⟨f,p⟩:=c e;have b:q=0:=by
  have:=RU a;by_cases h:0<q
  ·exact absurd (n h) f
  ·omega
 subst b;exact o (UL a f p e (i.resolve_left e))
def plN(P:Nat×Nat×Nat)(i:Nat):Nat:=if i=0 then P.1 else if i=1 then P.2.1 else P.2.2
def Cd{g l:Bool}{dg:aa}{x q:Int}{m d:aa}{k0 k1 k2:Int}(a:allM k0 k1 k2 (bp m d)=0):chkF g l dg x q m d k0 k1 k2=0\/chkF g l dg x q m d k0 k1 k2=6\/chkF g l dg x q m d k0 k1 k2=7\/chkF g l dg x q m d k0 k1 k2=8:=by
 unfold chkF;split
 ·exact .inr (.inr (.inr rfl))
 ·exact Ot a
noncomputable def chkR(r:DR):Nat:=(chkF r.1 r.2.1 r.2.2.1 (r.2.2.2.1:Int) (r.2.2.2.2.1:Int) r.2.2.2.2.2.1 r.2.2.2.2.2.2.1 (r.2.2.2.2.2.2.2.1.1:Int) (r.2.2.2.2.2.2.2.1.2.1:Int) (r.2.2.2.2.2.2.2.1.2.2:Int)).toNat
noncomputable def fY(S:aa)(a:Nat):(Nat×Nat×Nat)⊕DR:=
 match uu S a with
 | .inl k=>.inl (k,5,k)
 | .inr r=>if chkR r=0 then .inr r else .inl (plN r.2.2.2.2.2.2.2.2.1 (chkR r - 6),chkR r,r.2.2.2.2.2.2.2.2.2)
def aaD(S:aa):(Nat×Nat×Nat)⊕DR->(Int×Int×aa×Int)⊕(Bool×Bool×aa×Int×Int×aa×aa×Int×Int×Int×Int×aa×Int)
 | .inl (k,E,p)=>.inl ((k:Int),(E:Int),S,(p:Int))
 | .inr (g,l,dg,x,s,m,d,M,P,e)=>.inr (g,l,dg,(x:Int),(s:Int),m,d,(M.1:Int),(M.2.1:Int),(M.2.2:Int),(P.1:Int),S,(e:Int))
def IV(S:aa)(a:Nat)(h:a<=S.length)(n:S.length<100000):jK 20000000 S (a:Int)=some (aaD S (fY S a)):=by
 have j:lh 20000000 S (a:Int)=_:=XM 19999700 S a h n (by omega);unfold jK fY;rw[j];cases p:uu S a with
 | inl k=>rfl
 | inr r=>
  obtain⟨g,l,dg,x,s,f,d,M,P,e⟩:=r;have b:=KV h p;have o:=b.all;have t:=b.m2;have i:=b.dg17;simp only[ob,YN,d4,d8];rw[yB (g:=g) (l:=l) (x:=(x:Int)) (q:=(s:Int)) (d:=d) (show f.length<=18 by omega) (show dg.length<=100 by omega) (show(0:Int)<=(M.1:Int)by omega) (show(0:Int)<=(M.2.1:Int)by omega) (show(0:Int)<=(M.2.2:Int)by omega)];simp only[ob];have c:=Cd (g:=g) (l:=l) (dg:=dg) (x:=(x:Int)) (q:=(s:Int)) (m:=f) (d:=d) (k0:=(M.1:Int)) (k1:=(M.2.1:Int)) (k2:=(M.2.2:Int)) (Ao o);unfold chkR;simp only[];rcases c with hc | hc | hc | hc<;>rw[hc]<;>rfl
def dayY(y:Int):Int:=365*y+(1+(y - 1) / 4 - (y - 1) / 100+(y - 1) / 400)
def cumM(y:Int):Nat->Int
 | 0=>0
 | k+1=>cumM y k+lenI y ((k+1:Nat):Int)
def dayM(y:Int)(m:Nat):Int:=if m<=12 then dayY y+cumM y (m - 1)else dayY (y+1)+cumM (y+1) (m - 13)
def zg(y:Int):dayY (y+1)=dayY y+365+(if vo y then 1 else 0):=by
 unfold dayY vo;simp only[aD,jk,cK];split<;>omega
def KX(n:Int):dayY (400*n)=146097*n:=by
 unfold dayY;omega
def l6{y:Int}(h:-20000000000000000<=y/\y<=20000000000000000):-8000000000000000000<=dayY y/\dayY y<=8000000000000000000:=by
 unfold dayY;omega
def ab0(y:Int):cumM y 12=365+(if vo y then 1 else 0):=by
 have e:∀k:Nat,cumM y (k+1)=cumM y k+lenI y ((k+1:Nat):Int):=λ_=>rfl;have z:cumM y 0=0:=rfl;rw[e 11,e 10,e 9,e 8,e 7,e 6,e 5,e 4,e 3,e 2,e 1,e 0,z];unfold lenI;cases vo y<;>rfl
def tN(y:Int):∀k:Nat,0<=cumM y k/\cumM y k<=31*(k:Int)
 | 0=>by simp[cumM]
 | k+1=>by
  have a:=tN y k;have b:=kL y ((k+1:Nat):Int);show 0<=cumM y k+lenI y ((k+1:Nat):Int)/\cumM y k+lenI y ((k+1:Nat):Int)<=_;omega
def rJ{y:Int}(h:eT y){m:Nat}(a:m<=24):-8100000000000000000<=dayM y m/\dayM y m<=8100000000000000000:=by
 unfold eT at h;unfold dayM;split
 ·have:=tN y (m - 1);have:=l6 (y:=y) (by omega);omega
 ·have:=tN (y+1) (m - 13);have:=l6 (y:=y+1) (by omega);omega
def Xj(y:Int):dayM y 13=dayY (y+1):=by
 unfold dayM;rw[ad];simp[cumM]
def zh(y:Int){m:Nat}(a:1<=m)(b:m<=12):dayM y (m+1)=dayM y m+lenI y (m:Int):=by
 obtain⟨k,rfl⟩:∃k,m=k+1:=⟨m - 1,by omega⟩;have e:dayM y (k+1)=dayY y+cumM y k:=by unfold dayM;rw[ea];rfl
 rw[e];by_cases h:k+1=12
 ·obtain rfl:k=11:=by omega
  rw[Xj,zg];have:=ab0 y;have e:cumM y 12=cumM y 11+lenI y ((11+1:Nat):Int):=rfl;omega
 ·have:dayM y (k+1+1)=dayY y+cumM y (k+1):=by unfold dayM;rw[ea];rfl
  rw[this];show dayY y+(cumM y k+lenI y ((k+1:Nat):Int))=_;omega
def xa(y:Int){m:Nat}(b:1<=m)(a:m<=12):dayM y (m+12)=dayM (y+1) m:=by
 unfold dayM;rw[ad,ae a];congr 2
def ve(n:Nat){y:Int}(h:-10000000000000001<=y/\y<=10000000000000001):nq n y=some (dayY y):=by
 have a:=l6 (y:=y) (by omega);unfold nq;rw[AE n (by omega),wrap_i64 (365*y) (by omega) (by omega)];show some (wrap .i64 (dayY y))=_;rw[wd]
def vj(n:Nat){y:Int}(h:eT y):nz n y=some (dayY y,0):=by
 unfold nz;have h':=h;unfold eT at h';rw[iw,ae h,ve n (by omega)];rfl
def Hm(n:Nat){y:Int}(h:eT y):wJ n y=some (dayY (y+1) - 1,0):=by
 unfold wJ;have h':=h;unfold eT at h';have a:=l6 (y:=y+1) (by omega);rw[iw,ae h,wrap_i64 (y+1) (by omega) (by omega),ve n (by omega)];show some (wrap .i64 (dayY (y+1) - 1),(0:Int))=_;rw[wd]
def HY(n:Nat){y:Int}(h:eT y){m:Nat}(e:m<=11):∀(r j:Nat),j+r=m->∀N,r<N->av (ca n) N (y,dayY y+cumM y j,(m:Int),(j:Int))=some (dayY y+cumM y m):=by
 have h':=h;unfold eT at h';have d:=l6 (y:=y) (by omega);intro r
 induction r with
 | zero=>
  intro j b N a;obtain⟨N,rfl⟩:∃k,N=k+1:=⟨N - 1,by omega⟩;obtain rfl:j=m:=by omega
  have:ca n (y,dayY y+cumM y j,(j:Int),(j:Int))=some (.inr (dayY y+cumM y j)):=by
   unfold ca;rw[bN,ab (show¬((j:Int)<(j:Int))by omega)]
  rw[av,this]
 | succ r ih=>
  intro j b N a;obtain⟨N,rfl⟩:∃k,N=k+1:=⟨N - 1,by omega⟩;have w:wrap .i64 ((j:Int)+1)=((j+1:Nat):Int):=by rw[wd];omega
  have hc:=tN y j;have c:=kL y ((j+1:Nat):Int);have:ca n (y,dayY y+cumM y j,(m:Int),(j:Int))=some (.inl (y,dayY y+cumM y (j+1),(m:Int),((j+1:Nat):Int))):=by
   unfold ca;rw[bN,ae (show((j:Int)<(m:Int))by omega)];simp only[w,A9 n h (show 1<=j+1 by omega) (show j+1<=12 by omega),ob];rw[wrap_i64 (dayY y+cumM y j+lenI y ((j+1:Nat):Int)) (by omega) (by omega),Int.add_assoc];rfl
  rw[av,this];exact ih (j+1) (by omega) N (by omega)
def wT(n:Nat)(c:100<n){y:Int}(h:eT y){m:Nat}(b:1<=m)(a:m<=12):gy n y (m:Int)=some (dayM y m,0):=by
 unfold gy;have w:wrap .i64 ((m:Int) - 1)=((m - 1:Nat):Int):=by rw[wd];omega
 rw[Lp n h b a,vj n h,w];have:=HY n h (m:=m - 1) (by omega) (m - 1) 0 (by omega) n (by omega);rw[show dayY y+cumM y 0=dayY y by simp[cumM]]at this;show ob (av (ca n) n (y,dayY y,((m - 1:Nat):Int),((0:Nat):Int))) _=_;rw[this];unfold dayM;rw[ae a];rfl
def IJ(n:Nat)(c:100<n){y:Int}(h:eT y){m:Nat}(a:1<=m)(b:m<=12):jh n y (m:Int)=some (dayM y (m+1) - 1,0):=by
 unfold jh;have e:=rJ h (m:=m) (by omega);have d:=kL y (m:Int);rw[wT n c h a b,A9 n h a b,zh y a b];show some (wrap .i64 (wrap .i64 (dayM y m+lenI y (m:Int)) - 1),(0:Int))=_;rw[wrap_i64 (dayM y m+lenI y (m:Int)) (by omega) (by omega),wd]
def L8(n:Nat)(b:100<n){y:Int}(h:eT y){j m c:Nat}(l:j<21)(e:pR[j]?=some ((m:Int),(c:Int)))(f:1<=m)(g:m<=12)(k:1<=c)(i:c<=6)(hy:12<m+c - 1->y≠10000000000000000):
  jH n y ((21+j:Nat):Int)=some (0,dayM y m,0,dayM y (m+c) - 1,0):=by
 have o:gv n ((21+j:Nat):Int)=some ((m:Int),(c:Int),0):=by
  unfold gv eF;rw[bN,bN,ad,ad];have:wrap .i64 (((21+j:Nat):Int) - 21)=(j:Int):=by rw[wd];omega
  rw[this,dh l];show ob (pR[j]?) _=_;rw[e];rfl
 unfold jH;rw[o];simp only[ob,fU,af];rw[wT n b h f g];simp only[ob,fU,af];rw[madd n h f g k i];have h':=h;unfold eT at h';by_cases a:12<m+c - 1
 ·rw[ae a,ab (hy a)];have d:eT (y+1):=by unfold eT;have:=hy a;omega
  simp only[ob,fU,af];rw[IJ n b d (m:=m+c - 1 - 12) (by omega) (by omega)];have:=xa y (m:=m+c - 1 - 12+1) (by omega) (by omega);rw[show m+c - 1 - 12+1+12=m+c by omega]at this;rw[this]
 ·rw[ab a];simp only[ob,fU,af];rw[IJ n b h (m:=m+c - 1) (by omega) (by omega),show m+c - 1+1=m+c by omega]
def Dm(n:Nat){y:Int}(hy:-10000000000000002<=y/\y<=10000000000000002):∀(r:Nat) (z:Int),z+(r:Int)=y->-10000000000000402<=z->∀N,r<N->av (dJ n) N (y,dayY z,z)=some (dayY y):=by
 intro r
 induction r with
 | zero=>
  intro z e a N d;obtain⟨N,rfl⟩:∃k,N=k+1:=⟨N - 1,by omega⟩;obtain rfl:z=y:=by omega
  have:dJ n (z,dayY z,z)=some (.inr (dayY z)):=by
   unfold dJ;rw[bN,ab (show¬(z<z)by omega)]
  rw[av,this]
 | succ r ih=>
  intro z e a N d;obtain⟨N,rfl⟩:∃k,N=k+1:=⟨N - 1,by omega⟩;have f:=l6 (y:=z) (by omega);have b:=zg z;have:dJ n (y,dayY z,z)=some (.inl (y,dayY (z+1),z+1)):=by
   unfold dJ;rw[bN,ae (show z<y by omega),D5];have c:lenI z 2=if vo z then 29 else 28:=rfl
   simp only[ob,c];rw[wrap_i64 (dayY z+365) (by omega) (by omega),wrap_i64 (dayY z+365+1) (by omega) (by omega),wrap_i64 (z+1) (by omega) (by omega),b];cases vo z
   ·simp
   ·rfl
  rw[av,this];exact ih (z+1) (by omega) (by omega) N (by omega)
def uG(n:Nat)(e:1000<n){y:Int}(hy:-10000000000000002<=y/\y<=10000000000000002):cP n y=some (dayY y):=by
 have b:=Int.mul_tdiv_add_tmod y 400;have d:Int.tmod y 400=if 0<=y then y%400 else -((-y)%400):=by
  by_cases h:0<=y
  ·rw[ae h,O1 h]
  ·rw[ab h,<-O1 (show 0<=-y by omega),Int.neg_tmod,Int.neg_neg]
 unfold cP;by_cases a:Int.tmod y 400<0
 ·rw[ar a];have c:Int.tdiv y 400 - 1=y / 400:=by
   rw[d]at a b;split at a
   ·omega
   ·rw[ab (by assumption)]at b;omega
  rw[wrap_i64 (Int.tdiv y 400) (by omega) (by omega),c,wrap_i64 (y / 400) (by omega) (by omega),wrap_i64 (y / 400*146097) (by omega) (by omega),wrap_i64 (y / 400*400) (by omega) (by omega)];have:=Dm n hy (y - y / 400*400).toNat (y / 400*400) (by omega) (by omega) n (by omega);rw[show dayY (y / 400*400)=y / 400*146097 by rw[CP,KX,CP]]at this;simp only[ah,this,ob]
 ·rw[au a];have c:Int.tdiv y 400=y / 400:=by
   rw[d]at a b;split at a
   ·rw[ae (by assumption)]at b;omega
   ·rw[ab (by assumption)]at b;omega
  rw[c,wrap_i64 (y / 400) (by omega) (by omega),wrap_i64 (y / 400*146097) (by omega) (by omega),wrap_i64 (y / 400*400) (by omega) (by omega)];have:=Dm n hy (y - y / 400*400).toNat (y / 400*400) (by omega) (by omega) n (by omega);rw[show dayY (y / 400*400)=y / 400*146097 by rw[CP,KX,CP]]at this;simp only[af,this,ob]
def Be{step:Int×Int×Int×Int->Option ((Int×Int×Int×Int)⊕Int)}(n:Nat)
  (hs:step=λx=>cond (decide (x.2.2.2<x.2.1)) (ob (fi n x.1 x.2.2.2) λr=>some (.inl (x.1,x.2.1,wrap .i64 (x.2.2.1+r),wrap .i64 (x.2.2.2+1)))) (some (.inr x.2.2.1)))
  {y:Int} (hy:-10000000000000002<=y/\y<=10000000000000002) {m:Nat} (h:1<=m) (d:m<=12) {N:Nat} (a:20<N):av step N (y,(m:Int),dayY y,1)=some (dayM y m):=by
 have g:=l6 (y:=y) (by omega);have b:∀(r j:Nat),j+1+r=m->∀N,r<N->av step N (y,(m:Int),dayY y+cumM y j,((j+1:Nat):Int))=some (dayY y+cumM y (m - 1)):=by
  intro r
  induction r with
  | zero=>
   intro j c N a;obtain⟨N,rfl⟩:∃k,N=k+1:=⟨N - 1,by omega⟩;obtain rfl:j+1=m:=by omega
   have:step (y,((j+1:Nat):Int),dayY y+cumM y j,((j+1:Nat):Int))=some (.inr (dayY y+cumM y j)):=by
    rw[hs];simp only[];rw[au (show¬(((j+1:Nat):Int)<((j+1:Nat):Int))by omega)];rfl
   rw[av,this];rfl
  | succ r ih=>
   intro j c N a;obtain⟨N,rfl⟩:∃k,N=k+1:=⟨N - 1,by omega⟩;have w:wrap .i64 (((j+1:Nat):Int)+1)=((j+1+1:Nat):Int):=by rw[wd];omega
   have hc:=tN y j;have f:=kL y ((j+1:Nat):Int);have:step (y,(m:Int),dayY y+cumM y j,((j+1:Nat):Int))=some (.inl (y,(m:Int),dayY y+cumM y (j+1),((j+1+1:Nat):Int))):=by
    rw[hs];simp only[];rw[ar (show(((j+1:Nat):Int)<(m:Int))by omega),D5];simp only[ah,ob,w];rw[wrap_i64 (dayY y+cumM y j+lenI y ((j+1:Nat):Int)) (by omega) (by omega),Int.add_assoc];rfl
   rw[av,this];exact ih (j+1) (by omega) N (by omega)
 have:=b (m - 1) 0 (by omega) N (by omega);rw[show dayY y+cumM y 0=dayY y by simp[cumM]]at this;have e:dayM y m=dayY y+cumM y (m - 1):=by unfold dayM;rw[ae d]
 rw[e];exact this
def uf(n:Nat)(a:1000<n){y:Int}(hy:-10000000000000001<=y/\y<=10000000000000001){m:Nat}(b:1<=m)(c:m<=24):aY n y (m:Int)=some (dayM y m):=by
 unfold aY;by_cases h:12<m
 ·rw[ar (show(m:Int)>12 by omega),wrap_i64 (y+1) (by omega) (by omega),wrap_i64 ((m:Int) - 12) (by omega) (by omega),show(m:Int) - 12=((m - 12:Nat):Int)by omega];unfold lQ;rw[au (show¬((m - 12:Nat):Int)>12 by omega),uG n a (by omega)];simp only[ah,af,ob];have:=Be (step:=kb n) n rfl (y:=y+1) (by omega) (m:=m - 12) (by omega) (by omega) (N:=n) (by omega);rw[this,<-xa y (by omega) (by omega),show m - 12+12=m by omega]
 ·rw[au (show¬(m:Int)>12 by omega),uG n a (by omega)];simp only[af,ob];have:=Be (step:=lO n) n rfl (y:=y) (by omega) (m:=m) (by omega) (by omega) (N:=n) (by omega);rw[this]
def twoV(s:aa):Nat:=match s with
 | [a,b]=>10*(a.toNat - 48)+(b.toNat - 48)
 | _=>0
def yOf(g:Bool)(dg:aa)(x:Int):Int:=if g then -((val dg x.toNat:Nat):Int)else((val dg x.toNat:Nat):Int)
def spF(m:aa):Nat:=((pR.getD (sea m - 21).toNat (0,0)).1).toNat
def spC(m:aa):Nat:=((pR.getD (sea m - 21).toNat (0,0)).2).toNat
def qF(g:Bool)(dg:aa)(x:Int)(m d:aa):Int×Int:=
 if m=[]then(dayY (yOf g dg x),dayY (yOf g dg x+1) - 1)
 else if 0<sea m then(dayM (yOf g dg x) (spF m),dayM (yOf g dg x) (spF m+spC m) - 1)
 else if d=[]then(dayM (yOf g dg x) (twoV m),dayM (yOf g dg x) (twoV m+1) - 1)
 else(dayM (yOf g dg x) (twoV m)+(twoV d:Int) - 1,dayM (yOf g dg x) (twoV m)+(twoV d:Int) - 1)
def exD(dg m d:aa)(q:Int):Bool:=!(hasX dg||(hasX m||hasX d))&&(q==0)
def Vj{s:aa}(h:hasX s=false){c:UInt8}(hc:c∈s):c≠88:=by
 rintro rfl;unfold hasX at h;rw[ud]at h;exact h 88 hc (by decide)
def QK{s:aa}(h:hasX s=false){k:Nat}(l:k<100)(c:agr s k=true):twoV s=k/\s=two k:=by
 unfold agr at c;split at c
 ·rename_i a b;have d:a≠88:=Vj h (by simp);have g:b≠88:=Vj h (by simp);simp only[aD,jk,bA]at c;obtain⟨e,f⟩:=c;have e:=e.resolve_left d;have f:=f.resolve_left g;subst e f;refine⟨?_,rfl⟩;unfold twoV;have i:(UInt8.ofNat (48+k / 10)).toNat=48+k / 10:=by simp;omega
  have j:(UInt8.ofNat (48+k%10)).toNat=48+k%10:=by simp;omega
  simp only[i,j];omega
 ·cases c
def Da{s:aa}(h:hasX s=false){g:Nat}(d:g<100)(a:eW s g=true):1<=twoV s/\twoV s<=g/\s=two (twoV s):=by
 unfold eW at a;obtain⟨i,hi,a⟩:=vk.1 a;have:=il.1 hi;obtain⟨c,b⟩:=QK h (by omega) a;rw[c];exact⟨by omega,by omega,b⟩
def PM{s:aa}(h:hasX s=false){g:Nat}(d:g<100){k:Int}(c:k∈wC (fitN s g)):k=(twoV s:Int):=by
 obtain⟨i,hi,rfl⟩:=eY.1 c;obtain⟨a,b⟩:=na.1 hi;have:=vD.1 a;rw[(QK h (by omega) b).1]
def Jz{k:Nat}(c:k<100):Lib.atoi (two k)=some (k:Int):=by
 have a:(UInt8.ofNat (48+k / 10)).toNat=48+k / 10:=by simp;omega
 have b:(UInt8.ofNat (48+k%10)).toNat=48+k%10:=by simp;omega
 unfold two;rw[Jx (by omega) (by omega),a,b];congr 2;omega
def CG(n:Nat){k:Nat}(d:k<100):bq n (two k)=some (k:Int):=by
 have b:(UInt8.ofNat (48+k / 10)).toNat=48+k / 10:=by simp;omega
 have a:(UInt8.ofNat (48+k%10)).toNat=48+k%10:=by simp;omega
 have s0:sx (two k) 0=some (UInt8.ofNat (48+k / 10)):=rfl;have c:sx (two k) 1=some (UInt8.ofNat (48+k%10)):=rfl;unfold bq;rw[s0,c];simp only[ob,b,a]
 rw[gJ (((48+k / 10:Nat):Int) - 48) (by omega) (by omega),gJ (((48+k%10:Nat):Int) - 48) (by omega) (by omega),
  wrap_i64 (((48+k / 10:Nat):Int) - 48) (by omega) (by omega),wrap_i64 (((48+k%10:Nat):Int) - 48) (by omega) (by omega),
  wrap_i64 (10*(((48+k / 10:Nat):Int) - 48)) (by omega) (by omega),wd]
 congr 1;omega
structure Exact(g l:Bool)(dg:aa)(x:Int)(m d:aa):Prop where
 ok:okY g l dg x 0
 num:hasX dg=false
 cal:eT (yOf g dg x)
 mon:m=[]\/(∃j,j<21/\m=two (21+j)/\(j=3\/j=7\/j=9->yOf g dg x≠10000000000000000))\/(sea m=0/\1<=twoV m/\twoV m<=12/\m=two (twoV m))
 day:d=[]\/(m≠[]/\sea m=0/\1<=twoV d/\twoV d<=31/\d=two (twoV d)/\(twoV d:Int)<=lenI (yOf g dg x) (twoV m:Int))
def yM{g l:Bool}{dg:aa}{x q:Int}{m d:aa}{k0 k1 k2:Int}(hc:chkF g l dg x q m d k0 k1 k2=0)(r:exD dg m d q=true):q=0/\Exact g l dg x m d:=by
 unfold exD at r;simp only[aD,ko,qt,bA]at r;obtain⟨⟨E,p,k⟩,rfl⟩:=r;refine⟨rfl,?_⟩;have y:=pX hc;obtain⟨a,I,O,P,w⟩:=rt y;obtain⟨o,K,c3,c4⟩:=Hl y;have n:=HN a E;obtain⟨F,_,_⟩:=ID a;have hy:inP g dg x 0 (yOf g dg x):=by
  have:=(n _).1 F;have e:yOf g dg x=(sgn g (qE g dg x 0)).1:=by rw[this];rfl
  rw[e];exact F
 have s:=Eb hy;refine⟨a,E,s,?_,?_⟩
 ·by_cases i:m=[]
  ·exact .inl i
  ·right;rcases qs m with M | ⟨j,G,e⟩
   ·right;rcases K with h | h | h
    ·exact absurd h i
    ·omega
    ·obtain⟨a1,a2,B⟩:=Da p (by omega) h;exact⟨M,a1,a2,B⟩
   ·left;refine⟨j,G,e,λN=>?_⟩;unfold yrD at o;rw[ae a]at o;unfold yrB at o;simp only[aD,ko]at o;have A:wint (sea m)=true:=by
     rw[e,lT G];rcases N with rfl | rfl | rfl<;>rfl
    have f:=o.2;rw[A,rG]at f;unfold tH at f;rw[E]at f;intro b;unfold yOf at b;cases g with
    | true=>
     simp only[aS]at b;omega
    | false=>
     simp only[bI,aF]at b;have:val dg x.toNat=E16:=by unfold E16;omega
     rw[ar this]at f;cases f
 ·by_cases c:d=[]
  ·exact .inl c
  ·right;obtain⟨i,hs⟩:=w c;rcases c3 with h | ⟨_,_,h⟩
   ·exact absurd h c
   ·obtain⟨a1,a2,B⟩:=Da k (by omega) h;refine⟨i,hs,a1,a2,B,?_⟩;have H:hasF g dg x m d:=by
     unfold chkF at hc;split at hc
     ·cases hc
     ·rename_i J;by_cases h:hasF g dg x m d
      ·exact h
      ·exact absurd ⟨y,c,h⟩ J
    obtain⟨e,r,t⟩:=H;obtain⟨z,L,C⟩:=List.exists_cons_of_ne_nil t;have C:z∈yo m d e:=by rw[C];exact kY
    obtain⟨z1,z2,u,v⟩:=LO.1 C;have D:e=yOf g dg x:=(n e).1 r;unfold monI at z2;rw[ab i,ad]at z2;unfold dayI at u;rw[ab c]at u;unfold yj at v;rw[ab c,PM k (by omega) u,PM p (by omega) z2,D]at v;exact v
def I5{j:Nat}(b:j<21):∃f c:Nat,pR[j]?=some ((f:Int),(c:Int))/\1<=f/\f<=12/\1<=c/\c<=6/\(12<f+c - 1↔j=3\/j=7\/j=9)/\spF (two (21+j))=f/\spC (two (21+j))=c:=by
 obtain⟨f,c,e,i,k,g,d,h⟩:=Lh b;have hs:(sea (two (21+j)) - 21).toNat=j:=by rw[lT b];omega
 have a:pR.getD j (0,0)=((f:Int),(c:Int)):=by rw[G5,e];rfl
 refine⟨f,c,e,i,k,g,d,h,?_,?_⟩
 ·unfold spF;rw[hs,a];rfl
 ·unfold spC;rw[hs,a];rfl
def GF(n:Nat){j:Nat}(a:j<21):i7 n ((21+j:Nat):Int)=pR[j]?:=by
 have:j=0\/j=1\/j=2\/j=3\/j=4\/j=5\/j=6\/j=7\/j=8\/j=9\/j=10\/j=11\/j=12\/j=13\/j=14\/j=15\/j=16\/j=17\/j=18\/j=19\/j=20:=by omega
 rcases this with rfl | rfl | rfl | rfl | rfl | rfl | rfl | rfl | rfl | rfl | rfl | rfl | rfl | rfl | rfl | rfl | rfl | rfl | rfl | rfl | rfl<;>rfl
def Lr(n:Nat)(g l:Bool)(dg:aa)(x q:Int)(m d:aa)(k0 k1 k2:Int)(a:m.length<=1000)(b:dg.length<=1000)(h:d.length<=1000):nZ n g l dg x q m d k0 k1 k2=some (exD dg m d q):=by
 unfold nZ exD;rw[G0 n g l dg x q m d k0 k1 k2 a b h];simp only[ob];cases(hasX dg||(hasX m||hasX d))<;>rfl
def Vy{Y:Type}(a b:Y):∀s:aa,((s.findSome? λc=>if c=88 then some a else none).getD b)=if hasX s then a else b
 | []=>rfl
 | c::s=>by
  have ih:=Vy a b s;unfold hasX at ih ⊢;rw[FK,qG];by_cases hc:c=88
  ·subst hc;rfl
  ·rw[ab hc];have e:(c==88)=false:=aL.2 hc;rw[e,qK];exact ih
def Bz (n:Nat) (s:aa) (g l:Bool) (dg:aa) (x q:Int) (m d:aa) (k0 k1 k2:Int) (hs:s.length<=100000) {N:Nat} (a:s.length<N):
  av (fb n) N (s,0,g,l,dg,x,q,m,d,k0,k1,k2)=some (if hasX s then .inl 0 else .inr (g,l,dg,x,q,m,d,k0,k1,k2)):=by
 have:=wY (step:=fb n) (f:=λi=>(s,(i:Int),g,l,dg,x,q,m,d,k0,k1,k2)) (L:=s) (G:=λc=>if c=88 then some (.inl 0) else none) (e:=.inr (g,l,dg,x,q,m,d,k0,k1,k2))
  (λi c hi=>by
   have j:=(qk.1 hi).1;have b:wrap .i64 ((i:Int)+1)=((i+1:Nat):Int):=by rw [wd];omega
   unfold fb;simp only [d4,d8,b];rw [ar (show (i:Int)<(s.length:Int) by omega),fh hi];simp only [ah,ob];by_cases hc:c=88
   ·subst hc;rw [ae rfl];rfl
   ·rw [ab hc];have:((c.toNat:Int)==88)=false:=by
     rw [aL];intro h;apply hc;apply ii.1;have:c.toNat=88:=by omega
     rw [this];rfl
    rw [this];rfl)
  (by
   unfold fb;simp only [d4,d8];rw [au (show ¬(s.length:Int)<(s.length:Int) by omega)];rfl)
  a
 rw [show ((0:Nat):Int)=0 from rfl] at this;rw [this];rw [Vy]
def FR(n:Nat)(g l:Bool)(dg:aa)(x q:Int)(m d:aa)(k0 k1 k2:Int)(e:m.length<=1000)(i:dg.length<=1000)(h:d.length<=1000)(f:4000<n):aX n g l dg x q m d k0 k1 k2=some (if exD dg m d q then 1 else 0):=by
 unfold aX;rw[dm (by omega)];simp only[ob];rw[dm (by rw[aV];omega)];simp only[];rw[Bz n _ _ _ _ _ _ _ _ _ _ _ (by simp only[aV];omega) (by simp only[aV];omega)];rw[yx,yx];unfold exD;cases hasX dg<;>cases hasX m<;>cases hasX d<;>(try rfl);simp only[xT,bI,aF,ob,d4,kH,rG];by_cases a:q=0
 ·subst a;rfl
 ·have c:(q != 0)=true:=by simp[a]
  have b:(q==0)=false:=aL.2 a;rw[c,b];rfl
def XY(n:Nat)(c:100<n){y:Int}(h:eT y){m k:Nat}(a:1<=m)(b:m<=12)(k1:1<=k)(k2:(k:Int)<=lenI y (m:Int)):uC n y (m:Int) (k:Int)=some (dayM y m+(k:Int) - 1,0):=by
 have e:=rJ h (m:=m) (by omega);have d:=kL y (m:Int);unfold uC tJ;rw[P7 n h a b];simp only[ob,fU,af];rw[au (show¬(k:Int)<1 by omega),au (show¬(k:Int)>lenI y (m:Int)by omega),wT n c h a b];simp only[ob,fU,af];rw[wrap_i64 (dayM y m+(k:Int)) (by omega) (by omega),wd]
section
variable {g l:Bool} {dg:List UInt8} {x:Int} {m d:List UInt8} {k0 k1 k2:Int}
def IW (n:Nat) (u:100<n) (z:m.length<=18) (E:Exact g l dg x m d) (q r:Int) (C:m≠[]->q=if 0<sea m then sea m else (twoV m:Int)) (J:d≠[]->r=(twoV d:Int)):
  (ob (ky n) λA=>ob (bD n g l dg x 0 m d k0 k1 k2) λk=>cond (k==0) (ob (ip n (yOf g dg x) ([q,r]:List Int)) λa=>some (a.1,a.2.1,a.2.2.1,a.2.2.2,(0:Int))) (cond (k==1) (ob (iz n (yOf g dg x) ([q,r]:List Int)) λb=>some (b.1,b.2.1,b.2.2.1,b.2.2.2,0)) (cond (k==2) (ob (iH n (yOf g dg x) ([q,r]:List Int)) λi=>some (i.1,i.2.1,i.2.2.1,i.2.2.2,0)) (cond (k==3) (ob (iq n (yOf g dg x) ([q,r]:List Int)) λo=>some (o.1,o.2.1,o.2.2.1,o.2.2.2,0)) none)))) =
   some (0,(qF g dg x m d).1,0,(qF g dg x m d).2,0):=by
 have P:ky n=some ():=rfl;have D:ix ([q,r]:List Int).length 0=some 0:=rfl;have M:ix ([q,r]:List Int).length 1=some 1:=rfl;have g0:([q,r]:List Int)[0]?=some q:=rfl;have I:([q,r]:List Int)[1]?=some r:=rfl;rw [P,RI n g l dg x 0 m d k0 k1 k2 z];unfold qF;by_cases t:d=[]
 ·rw [ae t];by_cases p:m=[]
  ·have hs:sea m=0:=by rw [p];decide
   rw [ab (show ¬0<sea m by omega),ae p,ae p];unfold iz;rw [vj n E.cal,Hm n E.cal];rfl
  ·rw [ab p];by_cases hs:0<sea m
   ·rw [ae hs,ae hs];rcases E.mon with h | ⟨j,s,e,B⟩ | ⟨h,_⟩
    ·exact absurd h p
    ·obtain ⟨f,c,N,a1,a2,O,L,K,G,H⟩:=I5 s;have v:q=((21+j:Nat):Int):=by rw [C p,ae hs,e,lT s]
     unfold ip;rw [D];simp only [ob,g0];rw [v,L8 n u E.cal s N a1 a2 O L (λh=>B (K.1 h)),e,G,H];rfl
    ·omega
   ·rw [ab hs,ab hs,ab p,ae t];rcases E.mon with h | ⟨j,s,e,B⟩ | ⟨_,a1,a2,_⟩
    ·exact absurd h p
    ·rw [e,lT s] at hs;omega
    ·have v:q=(twoV m:Int):=by rw [C p,ab hs]
     unfold iH;rw [D];simp only [ob,g0];rw [v,wT n u E.cal a1 a2,IJ n u E.cal a1 a2];rfl
 ·rw [ab t];rcases E.day with h | ⟨p,hs,b1,b2,Q,F⟩
  ·exact absurd h t
  ·rw [ab p,ab (show ¬0<sea m by omega),ab t];rcases E.mon with h | ⟨j,s,e,B⟩ | ⟨_,a1,a2,_⟩
   ·exact absurd h p
   ·rw [e,lT s] at hs;omega
   ·have w:q=(twoV m:Int):=by rw [C p,ad]
    have y:=J t;unfold iq;rw [D,M];simp only [ob,g0,I];rw [w,y,XY n u E.cal a1 a2 b1 F];rfl
def UJ(E:Exact g l dg x m d)(b:m≠[]):Lib.atoi m=some (if 0<sea m then sea m else(twoV m:Int)):=by
 rcases E.mon with h | ⟨j,a,e,_⟩ | ⟨f,a1,a2,c⟩
 ·exact absurd h b
 ·rw[e,lT a,ea];exact zq a
 ·rw[ad];have:=Jz (k:=twoV m) (by omega);rw[<-c]at this;exact this
def UE(E:Exact g l dg x m d)(a:d≠[]):Lib.atoi d=some (twoV d:Int):=by
 rcases E.day with h | ⟨_,_,a1,a2,b,_⟩
 ·exact absurd h a
 ·have:=Jz (k:=twoV d) (by omega);rw[<-b]at this;exact this
def Dy:Lib.atoi []=none:=by kernel_rfl
def Jf{q:Int}(b:m.length<=18)(e:dg.length<=100)(t:d.length<=18)(o:0<=k0)(r:0<=k1)(s:0<=k2):
  io 20000000 g l dg x q m d k0 k1 k2=some (if chkF g l dg x q m d k0 k1 k2=0 then(if exD dg m d q=true then(0,(qF g dg x m d).1,0,(qF g dg x m d).2,0)else(0,0,0,0,1))else(0,0,0,0,chkF g l dg x q m d k0 k1 k2)):=by
 have k:Nat.ble m.length 18=true:=dc b;have p:Nat.ble d.length 18=true:=dc t;unfold io;rw[yB b e o r s];simp only[ob];by_cases hc:chkF g l dg x q m d k0 k1 k2=0
 ·rw[ae hc,hc,Lr 20000000 g l dg x q m d k0 k1 k2 (by omega) (by omega) (by omega)];simp only[ob,fU,af];by_cases c:exD dg m d q=true
  ·rw[ae c,c];obtain⟨rfl,E⟩:=yM hc c;have n:fq 20000000 g l dg x 0=some (yOf g dg x,0):=by
    rw[EG 20000000 g l dg x 0 (by omega) e,ae ⟨E.ok,E.num⟩];rfl
   rw[n,k,p];simp only[dU,af,ah,ob];by_cases i:m=[]
   ·have a:d=[]:=by
     rcases E.day with h | ⟨h,_⟩
     ·exact h
     ·exact absurd i h
    have:=IW (k0:=k0) (k1:=k1) (k2:=k2) 20000000 (by omega) b E 0 0 (λh=>absurd i h) (λh=>absurd a h);have f:Lib.atoi m=none:=by rw[i];exact Dy
    have j:Lib.atoi d=none:=by rw[a];exact Dy
    rw[f,j];simp only[opt];exact this
   ·have f:=UJ E i;by_cases a:d=[]
    ·have:=IW (k0:=k0) (k1:=k1) (k2:=k2) 20000000 (by omega) b E (if 0<sea m then sea m else(twoV m:Int)) 0 (λ_=>rfl) (λh=>absurd a h);have j:Lib.atoi d=none:=by rw[a];exact Dy
     rw[f,j];simp only[opt];exact this
    ·have:=IW (k0:=k0) (k1:=k1) (k2:=k2) 20000000 (by omega) b E (if 0<sea m then sea m else(twoV m:Int)) (twoV d:Int) (λ_=>rfl) (λ_=>rfl);rw[f,UE E a];simp only[opt];exact this
  ·rw[ab c];rw[KH]at c;rw[c];rfl
 ·rw[ab hc,bne0 hc];rfl
def xh(E:Exact g l dg x m d)(M:dg.length<=100):bn 20000000 g l dg x 0 m d k0 k1 k2=some (qF g dg x m d):=by
 obtain⟨k,q,rfl,X,I⟩:=va E.ok E.num;have V:k<=17:=by have:=I.wide;omega
 have hs:=I.small;have C:aq 20000000 dg (k:Int)=some (((val dg k:Nat):Int),1):=by
  rw[kU 20000000 dg k I.dig M (by omega) (by omega),ae I.small];rfl
 have P:dval 0 dg*10 ^ k=val dg k:=rfl;rw[P]at hs;unfold E16 at hs;have hy:yOf g dg (k:Int)=if g then -((val dg k:Nat):Int)else((val dg k:Nat):Int):=by unfold yOf;rw[co]
 have G:=E.cal;unfold eT at G;have key:∀y:Int,y=yOf g dg (k:Int)->
   (ob (aC 20000000 g l dg (k:Int) 0 m d k0 k1 k2) λn=>(cond (m==([]:aa)) (ob (cP 20000000 y) λA=>ob (cP 20000000 (wrap .i64 (y+1))) λu=>some (A,wrap .i64 (u - 1))) (cond (decide (n>0)) (ob (i7 20000000 n) λa=>ob (aY 20000000 y a.1) λv=>ob (aY 20000000 y (wrap .i64 (a.1+a.2))) λr=>some (v,wrap .i64 (r - 1))) (cond (d==([]:aa)) (ob (bq 20000000 m) λt=>ob (aY 20000000 y t) λp=>ob (bq 20000000 m) λz=>ob (aY 20000000 y (wrap .i64 (z+1))) λo=>some (p,wrap .i64 (o - 1))) (ob (bq 20000000 m) λs=>ob (aY 20000000 y s) λb=>ob (bq 20000000 d) λi=>some (wrap .i64 ((wrap .i64 (b+i)) - 1),wrap .i64 ((wrap .i64 (b+i)) - 1)))))) )=some (qF g dg (k:Int) m d):=by
  intro y K;subst K;have hcal':=E.cal;have rY:=l6 (y:=yOf g dg (k:Int)+1) (by omega);rw[nl 20000000 (by omega)];simp only[ob];unfold qF;by_cases B:m=[]
  ·have e:(m==([]:aa))=true:=by rw[B];rfl
   rw[ae B,e,uG 20000000 (by omega) (by omega),wrap_i64 (yOf g dg (k:Int)+1) (by omega) (by omega),uG 20000000 (by omega) (by omega)];simp only[ah,ob];rw[wd]
  ·rw[ab B,gY B];simp only[af];by_cases hs:0<sea m
   ·rw[ae hs,ar (show sea m>0 from hs)];rcases E.mon with h | ⟨j,F,e,_⟩ | ⟨h,_⟩
    ·exact absurd h B
    ·obtain⟨f,c,U,a1,a2,N,Z,Y,Q,R⟩:=I5 F;have L:sea m=((21+j:Nat):Int):=by rw[e,lT F]
     have S:=rJ hcal' (m:=f+c) (by omega);rw[L,GF 20000000 F,U];simp only[ah,ob];rw[uf 20000000 (by omega) (by omega) a1 (by omega)];simp only[ob];rw[wrap_i64 ((f:Int)+(c:Int)) (by omega) (by omega),show(f:Int)+(c:Int)=((f+c:Nat):Int)by omega,uf 20000000 (by omega) (by omega) (by omega) (by omega)];simp only[ob];rw[wd,e,Q,R]
    ·omega
   ·rw[ab hs,au (show¬sea m>0 from hs)];simp only[af];rcases E.mon with h | ⟨j,F,e,_⟩ | ⟨_,a1,a2,N⟩
    ·exact absurd h B
    ·rw[e,lT F]at hs;omega
    ·have J:=CG 20000000 (k:=twoV m) (by omega);rw[<-N]at J;have S:=rJ hcal' (m:=twoV m) (by omega);have O:=rJ hcal' (m:=twoV m+1) (by omega);by_cases H:d=[]
     ·have e:(d==([]:aa))=true:=by rw[H];rfl
      rw[ae H,e,J];simp only[ah,ob];rw[uf 20000000 (by omega) (by omega) a1 (by omega)];simp only[ob];rw[wrap_i64 ((twoV m:Int)+1) (by omega) (by omega),show(twoV m:Int)+1=((twoV m+1:Nat):Int)by omega,uf 20000000 (by omega) (by omega) (by omega) (by omega)];simp only[ob];rw[wd]
     ·rw[ab H,gY H];rcases E.day with h | ⟨_,_,b1,b2,T,W⟩
      ·exact absurd h H
      ·have D:=CG 20000000 (k:=twoV d) (by omega);rw[<-T]at D;rw[J];simp only[af,ob];rw[uf 20000000 (by omega) (by omega) a1 (by omega),D];simp only[ob];rw[wrap_i64 (dayM (yOf g dg (k:Int)) (twoV m)+(twoV d:Int)) (by omega) (by omega),wd]
 unfold bn;rw[C];simp only[ob];cases g with
 | true=>
  have w:wrap .i64 (0 - ((val dg k:Nat):Int))=yOf true dg (k:Int):=by
   rw[wd,hy];simp
  rw[w];simp only[ah];exact key _ rfl
 | false=>
  have w:((val dg k:Nat):Int)=yOf false dg (k:Int):=by rw[hy];rfl
  rw[w];simp only[af];exact key _ rfl
end
end Go.Sh
