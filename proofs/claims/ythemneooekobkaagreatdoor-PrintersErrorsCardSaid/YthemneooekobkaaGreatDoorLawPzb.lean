
/- Plain proofs, kept as far as they are needed here (printed by prune.py).
   Conditions: none. -/
import Derived.Test.YthemneooekobkaaGreatDoorLawPza
set_option linter.unusedVariables false
set_option linter.unusedSimpArgs false
set_option maxRecDepth 100000
namespace Go.Sh
open Go.Abs
def gO (A B:Nat) (w:aa):aa:=mt A++w++mt B
def vn (g l:Bool) (dg:aa) (x q:Int) (m d:aa) (k0 k1 k2:Nat):aa:=
 gO (plA (bq m d) k0 k1 k2).1 (plB (bq m d) k0 k1 k2).1 (lu g l dg x q)
  ++ ((if m=[] then [] else 45::gO (plA (bq m d) k0 k1 k2).2.1 (plB (bq m d) k0 k1 k2).2.1 m)
  ++ (if d=[] then [] else 45::gO (plA (bq m d) k0 k1 k2).2.2 (plB (bq m d) k0 k1 k2).2.2 d))
structure OkD (g l:Bool) (dg:aa) (x q:Nat) (m d:aa) (k0 k1 k2:Nat):Prop where
 yr:okY g l dg (x:Int) (q:Int)
 x16:x<=16
 q17:q<=17
 dg17:dg.length<=17
 noM:0<q->m=[]
 mon:m=[]\/(m.length=2/\∀c∈m,isDX c=true)
 day:d=[]\/(m≠[]/\d.length=2/\∀c∈d,isDX c=true)
 m0:k0<4
 m1:k1<4
 m2:k2<4
 z1:bq m d<2->k1=0
 z2:bq m d<3->k2=0
theorem zp {g l:Bool} {dg:aa} {x q:Int} {m d:aa} {k0 k1 k2:Int} (u:0<=k0) (w:0<=k1) (v:0<=k2) (h:chkD g l dg x q m d k0 k1 k2=0):
  ∃o p a b c:Nat,x=(o:Int)/\q=(p:Int)/\k0=(a:Int)/\k1=(b:Int)/\k2=(c:Int)/\OkD g l dg o p m d a b c:=by
 obtain ⟨hy,f,i,n⟩:=Ah h;unfold yrD at hy;by_cases e:okY g l dg x q
 rotate_left
 ·rw [ab e] at hy;cases hy
 rw [ad e] at hy;obtain ⟨s,y,r,B,A,t⟩:=jF e;have hk':¬(3<k0\/3<k1\/3<k2\/(bq m d<2/\k1≠0)\/(bq m d<3/\k2≠0)):=by
  intro z;unfold allM at n;rw [ad z] at n;exact absurd n (by decide)
 refine ⟨x.toNat,q.toNat,k0.toNat,k1.toNat,k2.toNat,by omega,by omega,by omega,by omega,by omega,?_⟩;rw [<-Ec s,<-Ec r] at e;refine ⟨e,by omega,by omega,t,?_,?_,?_,by omega,by omega,by omega,by omega,by omega⟩
 ·intro C;unfold yrB at hy;have hq':decide (0<q)=true:=by simp;omega
  rw [hq'] at hy;by_cases j:m=[]
  ·exact j
  ·have:(m==[])=false:=aL.2 j;rw [this] at hy;simp at hy
 ·rcases f with f | f | f
  ·exact .inl f
  ·exact .inr (BI f)
  ·exact .inr (lU (by omega) f)
 ·rcases i with i | ⟨i,_,k⟩
  ·exact .inl i
  ·have:=lU (show 31<=31 by omega) k;exact .inr ⟨i,this.1,this.2⟩
theorem KP (n k i:Nat) (hi:i<k) (y:k<=3) (A B:List Nat) (a b:Nat) (s:A[i]?=some a) (p:B[i]?=some b) (f:a<4) (g:b<4) (ws:List (aa)) (t:ws.length=k) (w:aa) (w0 d e:aa) (m:[w0,d,e][i]?=some w) (l:w.length<=1000):
  aO n (k,(k:Int),(i:Int),A.map cI,B.map cI,ws,[w0,d,e])=some (.inl (k,(k:Int),((i+1:Nat):Int),A.map cI,B.map cI,ws.set i (gO a b w),[w0,d,e])):=by
 have w2':IntKind.wrap .i64 ((i:Int)+1)=((i+1:Nat):Int):=by rw [wrap_i64 _ (by omega) (by omega)];omega
 have r:(A.map cI)[i]?=some (a:Int):=by rw [mz,s];rfl
 have j:(B.map cI)[i]?=some (b:Int):=by rw [mz,p];rfl
 have c:∀z:Nat,z<4->(mt z).length<=1:=λz u=>by
  unfold mt;split
  ·simp
  ·split
   ·simp
   ·split<;>simp
 unfold aO;rw [bM,ad (show (i:Int)<(k:Int) by omega)];simp only [di hi,di (show i<3 by omega),ob,m,d4,r,j,(zJ n a f).1,(zJ n b g).1];have x:=c a f;have C:=c b g;have q:cat (mt a) w=some (mt a++w):=bN (by omega);have h:cat (mt a++w) (mt b)=some (mt a++w++mt b):=bN (by rw [bB];omega);rw [q];simp only [ob];rw [h];simp only [ob];have hi':i<ws.length:=by omega
 obtain ⟨v,o⟩:∃v,ws[i]?=some v:=⟨ws[i],bH hi'⟩;rw [di hi'];simp only [ob,o,w2'];rfl
theorem BE (n k:Nat) (A B:List Int) (ws V:List (aa)):aO n (k,(k:Int),(k:Int),A,B,ws,V)=some (.inr ws):=by
 unfold aO;rw [bM,ab (show ¬((k:Int)<(k:Int)) by omega)]
theorem lK (a b:Nat) (w:aa):(gO a b w).length<=w.length+2:=by
 have c:∀z:Nat,(mt z).length<=1:=λz=>by
  unfold mt;split
  ·simp
  ·split
   ·simp
   ·split<;>simp
 have:=c a;have:=c b;unfold gO;simp only [bB];omega
theorem Ri:bq [] []=1:=rfl
theorem Ni {m:aa} (h:m≠[]):bq m []=2:=by unfold bq;rw [aL.2 h];rfl
theorem MY {m d:aa} (h:m≠[]) (a:d≠[]):bq m d=3:=by unfold bq;rw [aL.2 h,aL.2 a];rfl
theorem NW (n:Nat) (g l:Bool) (dg:aa) (x q:Nat) (m d:aa) (k0 k1 k2:Nat) (Z:m.length<=18) (N:dg.length<=100):
  ch (n+300) g l dg (x:Int) (q:Int) m d (k0:Int) (k1:Int) (k2:Int)=some (if chkD g l dg (x:Int) (q:Int) m d (k0:Int) (k1:Int) (k2:Int)=0 then (vn g l dg (x:Int) (q:Int) m d k0 k1 k2,0) else ([],chkD g l dg (x:Int) (q:Int) m d (k0:Int) (k1:Int) (k2:Int))):=by
 unfold ch;rw [yF (n+300) (by omega) g l dg _ _ m d _ _ _ Z N (by omega) (by omega) (by omega)];show cond (chkD g l dg (x:Int) (q:Int) m d (k0:Int) (k1:Int) (k2:Int) != 0) _ _=_;rw [tJ];by_cases D:chkD g l dg (x:Int) (q:Int) m d (k0:Int) (k1:Int) (k2:Int)=0
 rotate_left
 ·rw [ab D,ab D]
 rw [ad D,ad D];obtain ⟨U,R,a,b,c,e1,e2,e3,e4,e5,o⟩:=zp (by omega) (by omega) (by omega) D;obtain rfl:x=U:=by omega
 obtain rfl:q=R:=by omega
 obtain rfl:k0=a:=by omega
 obtain rfl:k1=b:=by omega
 obtain rfl:k2=c:=by omega
 have hc:=mg m d;have J:=(Q9 n (bq m d) k0 k1 k2 hc o.m0 o.m1 o.m2 o.z1 o.z2).1;obtain ⟨G,K,P,y,H,O⟩:=RS (k:=bq m d) o.m0 o.m1 o.m2;rw [rr (n+300) (by omega)];simp only [ob];rw [J,yH (n+300) g l dg _ _ (by omega) N,ad o.yr];simp only [ob,eH,ae,ID o.yr,aj];have B:(decide ((0:Int)<=((bq m d:Nat):Int))&&(decide (((bq m d:Nat):Int)<=((bq m d:Nat):Int))&&decide (((bq m d:Nat):Int)<=(67108864:Int))))=true:=by
  rw [ar (by omega),ar (by omega),ar (by omega)];rfl
 rw [B,eM (show bq m d<=3 by omega)];simp only [ob,aj,bY];have I:=uv o.yr;have q1:Nat.ble 1 140737488355328=true:=rfl;have T:Nat.ble 2 140737488355328=true:=rfl;have Q:Nat.ble 3 140737488355328=true:=rfl;unfold vn;generalize lu g l dg (x:Int) (q:Int)=Y at I;generalize C:plA (bq m d) k0 k1 k2=V at *;generalize E:plB (bq m d) k0 k1 k2=PB at *;obtain ⟨f,p,s⟩:=V;obtain ⟨j,r,t⟩:=PB;simp only at G K P y H O;have st:=λ(k i:Nat) (hi:i<k) (hk:k<=3) (a b:Nat) (ha:[f,p,s][i]?=some a) (hb:[j,r,t][i]?=some b) (a4:a<4) (b4:b<4) (ws:List (aa)) (hl:ws.length=k) (w:aa) (w0 w1 w2:aa) (F:[w0,w1,w2][i]?=some w) (hwl:w.length<=1000)=>KP (n+300) k i hi hk [f,p,s] [j,r,t] a b ha hb a4 b4 ws hl w w0 w1 w2 F hwl;have A:∀L:aa,L.length<=1000->Nat.ble L.length 140737488355328=true:=λL h=>cU (by omega);by_cases u:m=[]
 ·have v:d=[]:=o.day.resolve_right (λz=>z.1 u);subst u v;show ob (aw (aO (n+300)) (n+299+1) (1,((1:Nat):Int),((0:Nat):Int),[f,p,s].map cI,[j,r,t].map cI,[[]],[Y,[],[]])) _=_;rw [aw,st 1 0 (by omega) (by omega) f j rfl rfl G y [[]] rfl Y Y [] [] rfl (by omega)];show ob (aw (aO (n+300)) (n+298+1) (1,((1:Nat):Int),((1:Nat):Int),[f,p,s].map cI,[j,r,t].map cI,[gO f j Y],[Y,[],[]])) _=_;rw [aw,BE];simp only [ob];have e:Lib.join [gO f j Y] [45]=gO f j Y:=Lib.join_one _ _;have F:=lK f j Y;rw [e,A _ (by omega)];simp [q1]
 ·have W:m.length=2:=(o.mon.resolve_left u).1;by_cases v:d=[]
  ·subst v;rw [Ni u] at C E ⊢;show ob (aw (aO (n+300)) (n+299+1) (2,((2:Nat):Int),((0:Nat):Int),[f,p,s].map cI,[j,r,t].map cI,[[],[]],[Y,m,[]])) _=_;rw [aw,st 2 0 (by omega) (by omega) f j rfl rfl G y [[],[]] rfl Y Y m [] rfl (by omega)];show ob (aw (aO (n+300)) (n+298+1) (2,((2:Nat):Int),((1:Nat):Int),[f,p,s].map cI,[j,r,t].map cI,[gO f j Y,[]],[Y,m,[]])) _=_;rw [aw,st 2 1 (by omega) (by omega) p r rfl rfl K H [gO f j Y,[]] rfl m Y m [] rfl (by omega)];show ob (aw (aO (n+300)) (n+297+1) (2,((2:Nat):Int),((2:Nat):Int),[f,p,s].map cI,[j,r,t].map cI,[gO f j Y,gO p r m],[Y,m,[]])) _=_;rw [aw,BE];simp only [ob];have e:Lib.join [gO f j Y,gO p r m] [45]=gO f j Y++(45::gO p r m):=by rw [Lib.join_cons];simp [Lib.joinTail]
   have F:=lK f j Y;have M:=lK p r m;rw [e,A _ (by simp only [bB,aS];omega)];rw [ab u];simp [T]
  ·have S:d.length=2:=(o.day.resolve_left v).2.1;rw [MY u v] at C E ⊢;show ob (aw (aO (n+300)) (n+299+1) (3,((3:Nat):Int),((0:Nat):Int),[f,p,s].map cI,[j,r,t].map cI,[[],[],[]],[Y,m,d])) _=_;rw [aw,st 3 0 (by omega) (by omega) f j rfl rfl G y [[],[],[]] rfl Y Y m d rfl (by omega)];show ob (aw (aO (n+300)) (n+298+1) (3,((3:Nat):Int),((1:Nat):Int),[f,p,s].map cI,[j,r,t].map cI,[gO f j Y,[],[]],[Y,m,d])) _=_;rw [aw,st 3 1 (by omega) (by omega) p r rfl rfl K H [gO f j Y,[],[]] rfl m Y m d rfl (by omega)];show ob (aw (aO (n+300)) (n+297+1) (3,((3:Nat):Int),((2:Nat):Int),[f,p,s].map cI,[j,r,t].map cI,[gO f j Y,gO p r m,[]],[Y,m,d])) _=_;rw [aw,st 3 2 (by omega) (by omega) s t rfl rfl P O [gO f j Y,gO p r m,[]] rfl d Y m d rfl (by omega)];show ob (aw (aO (n+300)) (n+296+1) (3,((3:Nat):Int),((3:Nat):Int),[f,p,s].map cI,[j,r,t].map cI,[gO f j Y,gO p r m,gO s t d],[Y,m,d])) _=_;rw [aw,BE];simp only [ob];have e:Lib.join [gO f j Y,gO p r m,gO s t d] [45]=gO f j Y++(45::gO p r m++(45::gO s t d)):=by rw [Lib.join_cons];simp [Lib.joinTail]
   have F:=lK f j Y;have M:=lK p r m;have X:=lK s t d;rw [e,A _ (by simp only [bB,aS];omega)];rw [ab u,ab v];simp [Q]
theorem F7 (n:Nat) {g l:Bool} {dg:aa} {x q:Nat} {m d:aa} {k0 k1 k2:Nat} (e:OkD g l dg x q m d k0 k1 k2):
  bX (n+300) g l dg (x:Int) (q:Int) m d (k0:Int) (k1:Int) (k2:Int)=some (vn g l dg (x:Int) (q:Int) m d k0 k1 k2):=by
 have hc:=mg m d;have w:=(Q9 n (bq m d) k0 k1 k2 hc e.m0 e.m1 e.m2 e.z1 e.z2).2;obtain ⟨F,D,E,p,B,C⟩:=RS (k:=bq m d) e.m0 e.m1 e.m2;have u:=uv e.yr;have hx:=e.x16;have V:=e.q17;have Q:=e.dg17;unfold bX;rw [cG (n+300)];simp only [ob];rw [w,Ld (n+300) g l dg x q (by omega) (by omega) (by omega)];unfold vn;generalize lu g l dg (x:Int) (q:Int)=Y at u ⊢;generalize R:plA (bq m d) k0 k1 k2=K at *;generalize U:plB (bq m d) k0 k1 k2=PB at *;obtain ⟨y,r,v⟩:=K;obtain ⟨A,s,t⟩:=PB;simp only at F D E p B C;have i:∀z:Nat,(mt z).length<=1:=λz=>by
  unfold mt;split
  ·simp
  ·split
   ·simp
   ·split<;>simp
 have T:=i y;have O:=i r;have G:=i v;have J:=i A;have S:=i s;have L:=i t;have M:m.length<=2:=by
  rcases e.mon with h | h
  ·rw [h];simp
  ·omega
 have H:d.length<=2:=by
  rcases e.day with h | h
  ·rw [h];simp
  ·omega
 have I:∀a b c:Nat,(l3 (a,b,c))[0]?=some (a:Int):=λ_ _ _=>rfl;have N:∀a b c:Nat,(l3 (a,b,c))[1]?=some (b:Int):=λ_ _ _=>rfl;have P:∀a b c:Nat,(l3 (a,b,c))[2]?=some (c:Int):=λ_ _ _=>rfl;have f:∀a b:aa,a.length+b.length<=1000000->cat a b=some (a++b):=λa b h=>bN h;simp only [ob,I,N,P,(zJ (n+300) y F).2,(zJ (n+300) r D).2,(zJ (n+300) v E).2,(zJ (n+300) A p).2,(zJ (n+300) s B).2,(zJ (n+300) t C).2];rw [f (mt y) Y (by omega)];simp only [ob];rw [f _ (mt A) (by simp only [bB];omega)];simp only [ob];have k1':decide (((bq m d:Nat):Int)>1)=decide (1<bq m d):=by rw [qA];omega
 have k2':decide (((bq m d:Nat):Int)>2)=decide (2<bq m d):=by rw [qA];omega
 rw [k1',k2'];by_cases j:m=[]
 ·have o:d=[]:=e.day.resolve_right (λz=>z.1 j);subst j o;rw [Ri];simp [gO]
 ·by_cases o:d=[]
  ·subst o;rw [Ni j,ab j];simp only [show decide (1<2)=true from rfl,show decide (2<2)=false from rfl,aj,ae];rw [f [45] (mt r) (by simp;omega)];simp only [ob];rw [f _ m (by simp only [bB,aS,bg];omega)];simp only [ob];rw [f _ (mt s) (by simp only [bB,aS,bg];omega)];simp only [ob];rw [f _ _ (by simp only [bB,aS,bg];omega)];simp [gO]
  ·rw [MY j o,ab j,ab o];simp only [show decide (1<3)=true from rfl,show decide (2<3)=true from rfl,aj,ae];rw [f [45] (mt r) (by simp;omega)];simp only [ob];rw [f _ m (by simp only [bB,aS,bg];omega)];simp only [ob];rw [f _ (mt s) (by simp only [bB,aS,bg];omega)];simp only [ob];rw [f _ _ (by simp only [bB,aS,bg];omega)];simp only [ob];rw [f [45] (mt v) (by simp;omega)];simp only [ob];rw [f _ d (by simp only [bB,aS,bg];omega)];simp only [ob];rw [f _ (mt t) (by simp only [bB,aS,bg];omega)];simp only [ob];rw [f _ _ (by simp only [bB,aS,bg];omega)];simp [gO]
def isMk (c:UInt8):Bool:=decide (0<mkOf c)
theorem Jr {g l:Bool} {dg:aa} {x q:Nat} {m d:aa} {k0 k1 k2:Nat} (a:OkD g l dg x q m d k0 k1 k2):(vn g l dg (x:Int) (q:Int) m d k0 k1 k2).length<=37:=by
 have hy:=uv a.yr;have j:=lK (plA (bq m d) k0 k1 k2).1 (plB (bq m d) k0 k1 k2).1 (lu g l dg (x:Int) (q:Int));have k:=lK (plA (bq m d) k0 k1 k2).2.1 (plB (bq m d) k0 k1 k2).2.1 m;have e:=lK (plA (bq m d) k0 k1 k2).2.2 (plB (bq m d) k0 k1 k2).2.2 d;have c:m.length<=2:=by
  rcases a.mon with h | h
  ·rw [h];simp
  ·omega
 have b:d.length<=2:=by
  rcases a.day with h | h
  ·rw [h];simp
  ·omega
 unfold vn;simp only [bB];have i:(if m=[] then [] else 45::gO (plA (bq m d) k0 k1 k2).2.1 (plB (bq m d) k0 k1 k2).2.1 m).length<=5:=by
  split
  ·simp
  ·simp only [aS];omega
 have f:(if d=[] then [] else 45::gO (plA (bq m d) k0 k1 k2).2.2 (plB (bq m d) k0 k1 k2).2.2 d).length<=5:=by
  split
  ·simp
  ·simp only [aS];omega
 omega
def monT (j:Nat):aa:=if j=0 then [] else if j<=12 then two j else if j<=33 then two (j+8) else ([[48,88],[49,88],[88,50],[88,88],[88,48],[88,57]]:List (aa)).getD (j - 34) []
def TB (m:aa):Nat:=if m=[48,50] then 28 else if m=[48,52]\/m=[48,54]\/m=[48,57]\/m=[49,49]\/m=[88,57] then 30 else 31
def dayT (j:Nat) (m:aa):aa:=if j=0 then [] else if j<=31 then two (min j (TB m)) else if m=[48,50]/\j=35 then [50,88] else ([[48,88],[49,88],[50,88],[51,88],[88,48],[88,49],[88,88],[88,56]]:List (aa)).getD (j - 32) []
theorem r40 {p:Nat->Bool} (h:(List.range 40).all p=true) {a:Nat} (b:a<40):p a=true:=(cr.1 h) a (jk.2 b)
noncomputable def MM (m:Nat) (g:Int) (e:Bool) (d f h b i a c:Int) (j:Nat):Bool:=eT (m+300) g e d f h (j:Int) b i a c==some (monT j)
theorem GM (m:Nat) (g:Int) (e:Bool) (d f h b i a c:Int):((List.range 40).all λj=>MM m g e d f h b i a c j)=true:=by kernel_rfl
theorem OF (a:Nat) (h:a<256):IntKind.wrap .i64 (Int.tmod (a:Int) 40)=((a%40:Nat):Int):=by
 have:Int.tmod (a:Int) 40=((a%40:Nat):Int):=rfl;rw [this,wrap_i64 _ (by omega) (by omega)]
theorem Nw (j:Nat) (h:j<40):IntKind.wrap .i64 (Int.tmod (j:Int) 40)=((j:Nat):Int):=by
 rw [OF j (by omega)];have:j%40=j:=by omega
 rw [this]
theorem xq (m:Nat) (j:Int) (g:Bool) (f i k:Int) (b:Nat) (c n d e:Int) (h:b<256):eT (m+300) j g f i k (b:Int) c n d e=some (monT (b%40)):=by
 have l:b%40<40:=by omega
 have a:=r40 (GM m j g f i k c n d e) l;unfold MM at a;have a:=bU.1 a;unfold eT at a ⊢;rw [Nw _ l] at a;rw [OF _ h];exact a
theorem HE {j:Nat} (h:j<40):monT j=[]\/0<sea (monT j)\/(sea (monT j)=0/\dG (monT j) 12=true):=by
 have:((List.range 40).all λj=>decide (monT j=[])||(decide (0<sea (monT j))||(decide (sea (monT j)=0)&&dG (monT j) 12)))=true:=by decide +kernel
 have:=r40 this h;simpa using this
theorem Ax {j:Nat} (h:j<40) (hs:sea (monT j)=0) (a:monT j≠[]):monT j∈((List.range 12).map λi=>two (i+1))++[[48,88],[49,88],[88,50],[88,88],[88,48],[88,57]]:=by
 have:((List.range 40).all λj=>!decide (sea (monT j)=0)||(decide (monT j=[])||decide (monT j∈((List.range 12).map λi=>two (i+1))++[[48,88],[49,88],[88,50],[88,88],[88,48],[88,57]])))=true:=by decide +kernel
 have:=r40 this h;rw [ar hs,aq a] at this;simpa using this
noncomputable def Ny (m:Nat) (h:Int) (f:Bool) (e g i b k c d:Int) (a:aa) (j:Nat):Bool:=gy (m+300) h f e g i b (j:Int) k c d a==some (dayT j a)
theorem Gu (m:Nat) (h:Int) (f:Bool) (e g k a l b c:Int):((((List.range 12).map λi=>two (i+1))++[[48,88],[49,88],[88,50],[88,88],[88,48],[88,57]]).all λd=>(List.range 40).all λj=>Ny m h f e g k a l b c d j)=true:=by kernel_rfl
theorem E8 (m:Nat) (l:Int) (j:Bool) (g k n d:Int) (b:Nat) (p e f:Int) (c:aa) (q:c∈((List.range 12).map λi=>two (i+1))++[[48,88],[49,88],[88,50],[88,88],[88,48],[88,57]]) (h:b<256):gy (m+300) l j g k n d (b:Int) p e f c=some (dayT (b%40) c):=by
 have o:b%40<40:=by omega
 have a:=r40 ((cr.1 (Gu m l j g k n d p e f)) c q) o;unfold Ny at a;have a:=bU.1 a;unfold gy at a ⊢;rw [Nw _ o] at a;rw [OF _ h];exact a
theorem IX {j:Nat} (h:j<40) {a:aa} (b:a∈((List.range 12).map λi=>two (i+1))++[[48,88],[49,88],[88,50],[88,88],[88,48],[88,57]]):dayT j a=[]\/dG (dayT j a) 31=true:=by
 have:((((List.range 12).map λi=>two (i+1))++[[48,88],[49,88],[88,50],[88,88],[88,48],[88,57]]).all λa=>(List.range 40).all λj=>decide (dayT j a=[])||dG (dayT j a) 31)=true:=by decide +kernel
 have:=r40 ((cr.1 this) a b) h;simpa using this
def mksT (k a b c:Nat):Nat×Nat×Nat:=(a%4,if 1<k then b%4 else 0,if 2<k then c%4 else 0)
theorem vo (k a b c:Nat):allM ((mksT k a b c).1:Int) ((mksT k a b c).2.1:Int) ((mksT k a b c).2.2:Int) k=0:=by
 apply PL;refine ⟨by simp only [mksT];omega,?_,?_,?_,?_⟩
 ·simp only [mksT];split<;>omega
 ·simp only [mksT];split<;>omega
 ·intro h;simp only [mksT];rw [ab (by omega)]
 ·intro h;simp only [mksT];rw [ab (by omega)]
theorem EE {g l:Bool} {d:aa} {x s:Int} (h:okY g l d x s) (e:d.length<=5) (c:x<=11):pg g d x=false:=by
 unfold pg;cases j:hasX d with
 | true=>rfl
 | false=>
  obtain ⟨k,q,rfl,rfl,f⟩:=qj h j;have a:=oy d 0 0 f.dig (by decide);rw [fg] at a;have m:dval 0 d<10 ^ 5:=mH a (jI (by omega) e);have b:10 ^ k<=10 ^ 11:=jI (by omega) (by omega);have i:val d k≠E16:=by
   unfold val E16;have:dval 0 d*10 ^ k<=99999*10 ^ 11:=ui (by omega) b;omega
  rw [bY,aq i];simp
theorem Ap {g l:Bool} {dg:aa} {x q:Int} {m d:aa} {k0 k1 k2:Int} (h:okY g l dg x q) (j:pg g dg x=false) (n:0<q->m=[]) (i:m=[]\/0<sea m\/(sea m=0/\dG m 12=true)) (e:d=[]\/(m≠[]/\sea m=0/\dG d 31=true)) (k:allM k0 k1 k2 (bq m d)=0):chkD g l dg x q m d k0 k1 k2=0:=by
 have hy:yrD g l dg x q m=true:=by
  unfold yrD yrB;rw [ad h,j];by_cases a:0<q
  ·rw [n a];simp
  ·simp [a]
 unfold chkD;rw [hy,k];have o:(!(m==[])&&(!(decide (0<sea m))&&!(dG m 12)))=false:=by
  rcases i with h | h | ⟨_,h⟩
  ·rw [h];rfl
  ·rw [ar h];simp
  ·rw [h];simp
 have f:(!(d==[])&&((m==[])||(decide (0<sea m)||!(dG d 31))))=false:=by
  rcases e with h | ⟨p,b,c⟩
  ·rw [h];rfl
  ·rw [aL.2 p,b,c];simp
 rw [o,f];rfl
def minL (a:Nat):Nat:=if a=2 then 28 else if a=4\/a=6\/a=9\/a=11 then 30 else 31
def fitD (a d:aa):Bool:=(List.range' 1 12).any λi=>agr a i&&(List.range' 1 (minL i)).any (agr d)
theorem N2:((((List.range 12).map λi=>two (i+1))++[[48,88],[49,88],[88,50],[88,88],[88,48],[88,57]]).all λa=>(List.range 40).all λj=>(dayT j a==[])||fitD a (dayT j a))=true:=by decide +kernel
theorem Dh {j:Nat} (h:j<40) {a:aa} (b:a∈((List.range 12).map λi=>two (i+1))++[[48,88],[49,88],[88,50],[88,88],[88,48],[88,57]]):dayT j a=[]\/fitD a (dayT j a)=true:=by
 have:=r40 ((cr.1 N2) a b) h;simp only [gC,bU] at this;exact this
theorem QF (m N J G I A w i j n:Nat) (g:Bool) (K:J<65536) (X:G<256) (Z:I<256) (h5:A<256) (h6:w<256) (h7:i<256) (h8:j<256) (h9:n<256):
  ∃k l dg x q f d k0 k1 k2,aC (m+300) (N:Int) g (J:Int) (G:Int) (I:Int) (A:Int) (w:Int) (i:Int) (j:Int) (n:Int)=some (k,l,dg,((x:Nat):Int),((q:Nat):Int),f,d,((k0:Nat):Int),((k1:Nat):Int),((k2:Nat):Int))/\chkD k l dg (x:Int) (q:Int) f d (k0:Int) (k1:Int) (k2:Int)=0/\OkD k l dg x q f d k0 k1 k2/\(d=[]\/fitD f d=true):=by
 obtain ⟨k,l,dg,x,q,e,C,O,D⟩:=P6 m N J G I g K X Z;have L:=EE C O D;obtain ⟨s1,s2,s3,s4,s5,s6⟩:=jF C
 suffices H:∃f d,aC (m+300) (N:Int) g (J:Int) (G:Int) (I:Int) (A:Int) (w:Int) (i:Int) (j:Int) (n:Int)=some (k,l,dg,x,q,f,d,((mksT (bq f d) i j n).1:Int),((mksT (bq f d) i j n).2.1:Int),((mksT (bq f d) i j n).2.2:Int))/\chkD k l dg x q f d ((mksT (bq f d) i j n).1:Int) ((mksT (bq f d) i j n).2.1:Int) ((mksT (bq f d) i j n).2.2:Int)=0/\(d=[]\/fitD f d=true) by
  obtain ⟨f,d,h1,K,U⟩:=H;obtain ⟨Y,T,a,b,c,V,W,R,Q,S,M⟩:=zp (by omega) (by omega) (by omega) K;subst V W;refine ⟨k,l,dg,Y,T,f,d,a,b,c,?_,?_,M,U⟩
  ·rw [h1,R,Q,S]
  ·rw [<-R,<-Q,<-S];exact K
 have t7:Int.tmod (i:Int) 4=((i%4:Nat):Int):=rfl;have t8:Int.tmod (j:Int) 4=((j%4:Nat):Int):=rfl;have t9:Int.tmod (n:Int) 4=((n%4:Nat):Int):=rfl;have p:∀(f d:aa) (o:Option (Bool×Bool×aa×Int×Int×aa×aa×Int×Int×Int)),
   (ob (ah (m+300) k l dg x q f d 0 0 0) λr=>(cond (decide ((0:Int)<r)) (ob (ah (m+300) k l dg x q f d (Int.tmod (i:Int) 4) 0 0) λr=>(cond (decide ((1:Int)<r)) (ob (ah (m+300) k l dg x q f d (Int.tmod (i:Int) 4) (Int.tmod (j:Int) 4) 0) λr=>(cond (decide ((2:Int)<r)) (ob (ah (m+300) k l dg x q f d (Int.tmod (i:Int) 4) (Int.tmod (j:Int) 4) (Int.tmod (n:Int) 4)) λr=>(cond (decide ((3:Int)<r)) none (some (k,l,dg,x,q,f,d,(Int.tmod (i:Int) 4),(Int.tmod (j:Int) 4),(Int.tmod (n:Int) 4))))) (some (k,l,dg,x,q,f,d,(Int.tmod (i:Int) 4),(Int.tmod (j:Int) 4),0)))) (some (k,l,dg,x,q,f,d,(Int.tmod (i:Int) 4),0,0)))) (some (k,l,dg,x,q,f,d,0,0,0))))=some (k,l,dg,x,q,f,d,((mksT (bq f d) i j n).1:Int),((mksT (bq f d) i j n).2.1:Int),((mksT (bq f d) i j n).2.2:Int)):=by
  intro f d _;have hc:=mg f d;have:bq f d=1\/bq f d=2\/bq f d=3:=by omega
  rw [cG,cG,cG,cG];rcases this with h | h | h<;>rw [h]<;>rfl
 unfold aC;rw [e];simp only [ob,d4];rw [iH];by_cases P:q=0
 ·rw [ad P];rw [xq m _ _ _ _ _ A _ _ _ _ h5];have F:A%40<40:=by omega
  have y:=HE F;have E:=Ax F;generalize monT (A%40)=f at y E ⊢;show ∃u d,cond (!(f==[])) _ _=_/\_;by_cases s:f=[]
  ·subst s;refine ⟨[],[],p [] [] none,?_,.inl rfl⟩;exact Ap C L (λ_=>rfl) (.inl rfl) (.inl rfl) (vo _ _ _ _)
  ·rw [aL.2 s];show ∃u d,ob (aJ (m+300) k l dg x q f [] 0 0 0) _=_/\_;rw [kF (m+300) (by omega)];show ∃u d,cond (sea f==0) _ _=_/\_;rw [iH];by_cases hs:sea f=0
   ·rw [ad hs];have v:=E hs s;rw [E8 m _ _ _ _ _ _ w _ _ _ f v h6];have B:=IX (show w%40<40 by omega) v;have t:=Dh (show w%40<40 by omega) v;generalize dayT (w%40) f=d at B t ⊢;refine ⟨f,d,p f d none,?_,t⟩;refine Ap C L (λz=>by omega) y ?_ (vo _ _ _ _);rcases B with B | B
    ·exact .inl B
    ·exact .inr ⟨s,hs,B⟩
   ·rw [ab hs];refine ⟨f,[],p f [] none,?_,.inl rfl⟩;exact Ap C L (λz=>by omega) y (.inl rfl) (vo _ _ _ _)
 ·rw [ab P];refine ⟨[],[],p [] [] none,?_,.inl rfl⟩;exact Ap C L (λ_=>rfl) (.inl rfl) (.inl rfl) (vo _ _ _ _)
theorem Js (n:Nat) (g l:Bool) (dg:aa) (x q:Int) (m d:aa) (k0 k1 k2:Int) (a:m.length<=18):aZ n g l dg x q m d k0 k1 k2=some (if d=[] then (if 0<sea m then 0 else if m=[] then 1 else 2) else 3):=by
 unfold aZ;rw [rh n g l dg x q m d k0 k1 k2 a];by_cases b:d=[]
 ·rw [ad b,b];show cond (decide (0<sea m)) _ _=_;rw [bM];by_cases hs:0<sea m
  ·rw [ad hs,ad hs]
  ·rw [ab hs,ab hs];by_cases a:m=[]
   ·rw [ad a,a];rfl
   ·rw [ab a,aL.2 a];rfl
 ·rw [ab b,aL.2 b];rfl
theorem Ew (n:Nat) (g l:Bool) (dg:aa) (x q:Int) (m d:aa) (k0 k1 k2:Int) (h:m.length<=18) (f:dg.length<=100) (i:0<=k0) (j:0<=k1) (e:0<=k2):
  ch (n+300) g l dg x q m d k0 k1 k2=some (if chkD g l dg x q m d k0 k1 k2=0 then (vn g l dg x q m d k0.toNat k1.toNat k2.toNat,0) else ([],chkD g l dg x q m d k0 k1 k2)):=by
 by_cases hc:chkD g l dg x q m d k0 k1 k2=0
 ·obtain ⟨o,p,a,b,c,v,k,t,s,u,r⟩:=zp i j e hc;subst v k t s u;exact NW n g l dg o p m d a b c h f
 ·rw [ab hc];unfold ch;rw [yF (n+300) (by omega) g l dg _ _ m d _ _ _ h f i j e];show cond (chkD g l dg x q m d k0 k1 k2 != 0) _ _=_;rw [tJ,ab hc]
theorem zu (n:Nat) {g l:Bool} {dg:aa} {x q:Int} {m d:aa} {k0 k1 k2:Int} (i:0<=k0) (p:0<=k1) (h:0<=k2) (hc:chkD g l dg x q m d k0 k1 k2=0):
  bX (n+300) g l dg x q m d k0 k1 k2=some (vn g l dg x q m d k0.toNat k1.toNat k2.toNat):=by
 obtain ⟨s,t,a,b,c,r,f,k,j,o,e⟩:=zp i p h hc;subst r f k j o;exact F7 n e
theorem ud (a b:aa):hasX (a++b)=(hasX a||hasX b):=by unfold hasX;rw [List.any_append]
theorem zw (n:Nat) (g l:Bool) (dg:aa) (x q:Int) (m d:aa) (k0 k1 k2:Int) (a:m.length<=1000) (b:dg.length<=1000) (h:d.length<=1000):
  dP n g l dg x q m d k0 k1 k2=some (hasX dg||(hasX m||hasX d)):=by
 unfold dP;rw [bN (by omega)];simp only [ob];rw [bN (by simp only [bB];omega)];simp only [ob];rw [zA,ud,ud,Bool.or_assoc]
def yI (d:aa) (k q:Nat):Nat×Nat:=if 0<q then (val d k / 10 ^ (d.length+k - q)*10 ^ (d.length+k - q),min (val d k / 10 ^ (d.length+k - q)*10 ^ (d.length+k - q)+10 ^ (d.length+k - q) - 1) E16) else (val d k,val d k)
def sgn (g:Bool) (p:Nat×Nat):Int×Int:=if g then (-(p.2:Int),-(p.1:Int)) else ((p.1:Int),(p.2:Int))
theorem zQ (n:Nat) (g l:Bool) (d:aa) (k q:Nat) (D:200<n) (o:d.length<=100) (b:Num d k q):
  aF n g l d (k:Int) (q:Int)=some (sgn g (yI d k q)):=by
 have E:=b.wide;have hs:=b.small;have C:=b.sig;unfold aF;rw [ng n g l d k q (by omega) (by omega),rF b.dig,iG n d k b.dig o (by omega) (by omega),ad hs];have x:dval 0 d*10 ^ k=val d k:=rfl;rw [x] at hs ⊢;unfold E16 at hs;have h:((if false=true then (1:Int) else 0)==1)=false:=rfl;simp only [ob,h,ae];by_cases j:0<q
 ·have f:decide ((q:Int)>0)=true:=ar (by omega);have w0:IntKind.wrap .i64 (IntKind.wrap .i64 (((d.length:Nat):Int)+(k:Int)) - (q:Int))=((d.length+k - q:Nat):Int):=by
   rw [wrap_i64 (((d.length:Nat):Int)+(k:Int)) (by omega) (by omega),wrap_i64 _ (by omega) (by omega)];omega
  have s:10 ^ (d.length+k - q)<=10 ^ 16:=jI (by decide) (by omega);have A:(10:Nat) ^ 16=10000000000000000:=by decide
  have one:dval 0 [49]=1:=by decide
  have a:dval 0 [49]*10 ^ (d.length+k - q)<=E16:=by rw [one];unfold E16;omega
  rw [f,w0,iG n [49] (d.length+k - q) (by decide) (by decide) (by omega) (by simp;omega),ad a,one,vG];simp only [aj];have F:1<=10 ^ (d.length+k - q):=xW _ _ (by decide);unfold sgn yI;rw [ad j];clear a;generalize 10 ^ (d.length+k - q)=u at *;generalize val d k=v at *;have y:(((u:Nat):Int)==0)=false:=aL.2 (by omega);have c:Int.tdiv ((v:Nat):Int) ((u:Nat):Int)=((v / u:Nat):Int):=rfl;have r:v / u*u<=v:=Ba v u;have m:v / u<=v:=B8 v u;have z:IntKind.wrap .i64 ((v / u:Nat):Int)=((v / u:Nat):Int):=by
   generalize v / u=t at *;exact wrap_i64 _ (by omega) (by omega)
  have B:IntKind.wrap .i64 (((v / u:Nat):Int)*((u:Nat):Int))=((v / u*u:Nat):Int):=by
   rw [<-D5];exact wrap_i64 _ (by omega) (by omega)
  rw [y,ae,c,z,B];generalize v / u*u=lo at *;have p:IntKind.wrap .i64 (IntKind.wrap .i64 (((lo:Nat):Int)+((u:Nat):Int)) - 1)=((lo+u - 1:Nat):Int):=by
   rw [wrap_i64 (((lo:Nat):Int)+((u:Nat):Int)) (by omega) (by omega),wrap_i64 _ (by omega) (by omega)];omega
  rw [p];have e:(cond (decide ((10000000000000000:Int)<((lo+u - 1:Nat):Int))) (10000000000000000:Int) ((lo+u - 1:Nat):Int))=((min (lo+u - 1) E16:Nat):Int):=by
   unfold E16;by_cases i:(10000000000000000:Int)<((lo+u - 1:Nat):Int)
   ·rw [ar i,aj];omega
   ·rw [aq i,ae];omega
  rw [e];have w:min (lo+u - 1) E16<=10000000000000000:=CZ _ _;generalize min (lo+u - 1) E16=hi at *;cases g with
  | true=>
   simp only [aj,aY];rw [wrap_i64 _ (by omega) (by omega),wrap_i64 _ (by omega) (by omega),wV,wV]
  | false=>simp
 ·have f:decide ((q:Int)>0)=false:=aq (by omega);rw [f,ae];unfold sgn yI;rw [ab j];cases g with
  | true=>
   simp only [aj,aY];rw [wrap_i64 _ (by omega) (by omega),wV]
  | false=>simp
def dI (z:UInt8) (d:aa):aa:=d.map λc=>if c=88 then z else c
theorem ip (z:UInt8) (d:aa):(dI z d).length=d.length:=by simp [dI]
theorem o8 {z:UInt8} (e:cM z=true) {d:aa} (h:∀c∈d,cM c=true\/c=88):∀c∈dI z d,cM c=true:=by
 intro c hc;obtain ⟨b,a,rfl⟩:=dr.1 hc;by_cases hx:b=88
 ·rw [ad hx];exact e
 ·rw [ab hx];exact (h b a).resolve_right hx
theorem vA {z:UInt8} {d:aa} {i:Nat} {c:UInt8} (h:d[i]?=some c):(dI z d)[i]?=some (if c=88 then z else c):=by
 simp [dI,h]
def rP (d:aa):Nat:=10 ^ (d.reverse.takeWhile (λc=>c != 88)).length
def jy (g:Bool) (d:aa):Nat×Nat:=(if g=true/\dval 0 (dI 48 d)=0 then rP d else dval 0 (dI 48 d),dval 0 (dI 57 d))
theorem O2 (m:Nat):aF (m+300) true false [48,48,48,88] 0 0=some (sgn true (jy true [48,48,48,88])):=by kernel_rfl
theorem O8 (m:Nat):aF (m+300) true false [48,48,88,48] 0 0=some (sgn true (jy true [48,48,88,48])):=by kernel_rfl
theorem Oo (m:Nat):aF (m+300) true false [48,48,88,88] 0 0=some (sgn true (jy true [48,48,88,88])):=by kernel_rfl
theorem Oy (m:Nat):aF (m+300) true false [48,88,48,48] 0 0=some (sgn true (jy true [48,88,48,48])):=by kernel_rfl
theorem OW (m:Nat):aF (m+300) true false [48,88,48,88] 0 0=some (sgn true (jy true [48,88,48,88])):=by kernel_rfl
theorem Pm (m:Nat):aF (m+300) true false [48,88,88,48] 0 0=some (sgn true (jy true [48,88,88,48])):=by kernel_rfl
theorem NN (m:Nat):aF (m+300) true false [48,88,88,88] 0 0=some (sgn true (jy true [48,88,88,88])):=by kernel_rfl
theorem Ol (m:Nat):aF (m+300) true false [88,48,48,48] 0 0=some (sgn true (jy true [88,48,48,48])):=by kernel_rfl
theorem Pv (m:Nat):aF (m+300) true false [88,48,48,88] 0 0=some (sgn true (jy true [88,48,48,88])):=by kernel_rfl
theorem Oc (m:Nat):aF (m+300) true false [88,48,88,48] 0 0=some (sgn true (jy true [88,48,88,48])):=by kernel_rfl
theorem J2 (m:Nat):aF (m+300) true false [88,48,88,88] 0 0=some (sgn true (jy true [88,48,88,88])):=by kernel_rfl
theorem K8 (m:Nat):aF (m+300) true false [88,88,48,48] 0 0=some (sgn true (jy true [88,88,48,48])):=by kernel_rfl
theorem LE (m:Nat):aF (m+300) true false [88,88,48,88] 0 0=some (sgn true (jy true [88,88,48,88])):=by kernel_rfl
theorem K4 (m:Nat):aF (m+300) true false [88,88,88,48] 0 0=some (sgn true (jy true [88,88,88,48])):=by kernel_rfl
theorem LS (m:Nat):aF (m+300) true false [88,88,88,88] 0 0=some (sgn true (jy true [88,88,88,88])):=by kernel_rfl
theorem zo {d:aa} (j:d.length=4) (h:∀c∈d,cM c=true\/c=88) (l:dval 0 (dI 48 d)=0):∀c∈d,c=48\/c=88:=by
 match d,j with
 | [a,b,c,e],_=>
  have f:=o8 (z:=48) (by decide) h;have i:dval 0 (dI 48 [a,b,c,e])=((((0*10+((if a=88 then (48:UInt8) else a).toNat - 48))*10+((if b=88 then (48:UInt8) else b).toNat - 48))*10+((if c=88 then (48:UInt8) else c).toNat - 48))*10+((if e=88 then (48:UInt8) else e).toNat - 48)):=by
   simp only [dI,fa,List.map_nil,mZ,nB,tC]
  rw [i] at l;have key:∀x:UInt8,cM (if x=88 then (48:UInt8) else x)=true->(if x=88 then (48:UInt8) else x).toNat - 48=0->x=48\/x=88:=by
   intro x hx k;by_cases g:x=88
   ·exact .inr g
   ·rw [ab g] at hx k;have:=(gx x).1 hx;exact .inl (jf.1 (by show x.toNat=48;omega))
  simp only [dI,fa,List.map_nil,cA,pi,qm,yA,forall_eq] at f ⊢;exact ⟨key a f.1 (by omega),key b f.2.1 (by omega),key c f.2.2.1 (by omega),key e f.2.2.2 (by omega)⟩
theorem xp {d:aa} (o:d.length=4) (h:∀c∈d,c=48\/c=88) (q:hasX d=true) (P:aa->Prop) (u:P [48,48,48,88]) (z:P [48,48,88,48]) (t:P [48,48,88,88]) (n:P [48,88,48,48]) (p:P [48,88,48,88]) (v:P [48,88,88,48]) (r:P [48,88,88,88]) (x:P [88,48,48,48]) (w:P [88,48,48,88]) (m:P [88,48,88,48]) (j:P [88,48,88,88]) (f:P [88,88,48,48]) (g:P [88,88,48,88]) (i:P [88,88,88,48]) (k:P [88,88,88,88]):P d:=by
 match d,o with
 | [a,b,c,e],_=>
  simp only [cA,pi,qm,yA,forall_eq] at h;obtain ⟨y,s,hc,l⟩:=h;rcases y with rfl | rfl<;>rcases s with rfl | rfl<;>rcases hc with rfl | rfl<;>rcases l with rfl | rfl
  ·exact absurd q (by decide)
  ·exact u
  ·exact z
  ·exact t
  ·exact n
  ·exact p
  ·exact v
  ·exact r
  ·exact x
  ·exact w
  ·exact m
  ·exact j
  ·exact f
  ·exact g
  ·exact i
  ·exact k
theorem BF (n:Nat) (g l:Bool) (d:aa) (x s:Int) (o:d.length=4) (p:4<n):aw (eK n) n ([],[],0,g,l,d,x,s)=some (dI 48 d,dI 57 d,g,l,d,x,s):=by
 refine gv (step:=eK n) (λq=>∃i:Nat,i<=4/\q=((dI 48 d).take i,(dI 57 d).take i,(i:Int),g,l,d,x,s)) (λq=>4 - q.2.2.1.toNat) (λ_=>(dI 48 d,dI 57 d,g,l,d,x,s)) ?_ n _ ⟨0,by omega,by simp⟩ (by simp;omega);rintro q ⟨i,hi,rfl⟩;rcases aH i 4 with j | k
 ·obtain ⟨c,hc⟩:∃c,d[i]?=some c:=⟨d[i],bH (by omega)⟩;have b:=NE (vA (z:=48) hc);have f:=NE (vA (z:=57) hc);have h:decide ((i:Int)<4)=true:=ar (by omega);have m:IntKind.wrap .i64 ((i:Int)+1)=((i+1:Nat):Int):=by rw [wrap_i64 _ (by omega) (by omega)];omega
  refine .inl ⟨((dI 48 d).take (i+1),(dI 57 d).take (i+1),((i+1:Nat):Int),g,l,d,x,s),?_,⟨i+1,by omega,rfl⟩,by simp only [bY];omega,rfl⟩;simp only [eK,h,aj,m,eM (show i+1<=d.length by omega),eM (show i<=i+1 by omega),ob,cut1 hc];have a:∀z:UInt8,((dI z d).take i).length<=4:=λz=>by rw [dx];omega
  rw [b,f];by_cases hx:c=88
  ·have e:(([c]:aa)==[88])=true:=by rw [hx];rfl
   rw [e,aj,ad hx,ad hx,bN (by have:=a 48;simp;omega),bN (by have:=a 57;simp;omega)]
  ·have e:(([c]:aa)==[88])=false:=by
    rw [aL];intro e;exact hx (by simpa using e)
   rw [e,ae,ab hx,ab hx,bN (by have:=a 48;simp;omega),bN (by have:=a 57;simp;omega)]
 ·have:i=4:=by omega
  subst this;refine .inr ?_;rw [gX (by rw [ip];omega),gX (by rw [ip];omega)];rfl
theorem F4 {d:aa} (h:d=[48,48,48,48]):dval 0 d=0:=by rw [h];decide
theorem yh (m:Nat) (g:Bool) (d:aa) (h:okY g false d 0 0) (l:hasX d=true):aF (m+300) g false d 0 0=some (sgn g (jy g d)):=by
 obtain ⟨_,_,_,j,k⟩:=oz h l;by_cases f:g=true/\dval 0 (dI 48 d)=0
 ·obtain ⟨rfl,f⟩:=f;exact xp j (zo j k f) l (λd=>aF (m+300) true false d 0 0=some (sgn true (jy true d))) (O2 m) (O8 m) (Oo m) (Oy m) (OW m) (Pm m) (NN m) (Ol m) (Pv m) (Oc m) (J2 m) (K8 m) (LE m) (K4 m) (LS m)
 ·have hs:jy g d=(dval 0 (dI 48 d),dval 0 (dI 57 d)):=by unfold jy;rw [ab f]
  have c:=o8 (z:=48) (by decide) k;have i:=o8 (z:=57) (by decide) k;have q:=oy (dI 48 d) 0 0 c (by simp);have o:=oy (dI 57 d) 0 0 i (by simp);rw [ip,j] at q o;have r:(10:Nat) ^ (4+0)=10000:=by decide
  have m1:ak (m+300) (dI 48 d) 0=some (((dval 0 (dI 48 d):Nat):Int),1):=by
   have:=iG (m+300) (dI 48 d) 0 c (by rw [ip];omega) (by omega) (by rw [ip];omega);rw [ad (by unfold E16;simp only [yl,ow];omega)] at this;simpa using this
  have m2:ak (m+300) (dI 57 d) 0=some (((dval 0 (dI 57 d):Nat):Int),1):=by
   have:=iG (m+300) (dI 57 d) 0 i (by rw [ip];omega) (by omega) (by rw [ip];omega);rw [ad (by unfold E16;simp only [yl,ow];omega)] at this;simpa using this
  have p:((if true=true then (1:Int) else 0)==1)=true:=rfl;have n:decide ((0:Int)>0)=false:=rfl;unfold aF;rw [ng _ g false d 0 0 (by omega) (by omega),l,BF _ g false d 0 0 j (by omega),hs];simp only [ob,aY,BEq.rfl,aj];cases g with
  | true=>
   have e:(dI 48 d==([48,48,48,48]:aa))=false:=by
    rw [aL];intro e;exact f ⟨rfl,F4 e⟩
   simp only [aj,e,ae,m1,m2,n,sgn,aY];generalize dval 0 (dI 48 d)=a at *;generalize dval 0 (dI 57 d)=b at *;rw [wrap_i64 _ (by omega) (by omega),wrap_i64 _ (by omega) (by omega),wV,wV]
  | false=>simp only [ae,m1,m2,n,sgn,cE,aG]
def l6 (g:Bool) (d:aa) (x s:Int):Nat×Nat:=if hasX d then jy g d else yI d x.toNat s.toNat
theorem JV (m:Nat) (g l:Bool) (d:aa) (x s:Int) (b:d.length<=100) (h:okY g l d x s):aF (m+300) g l d x s=some (sgn g (l6 g d x s)):=by
 unfold l6;cases a:hasX d with
 | true=>
  obtain ⟨rfl,rfl,rfl,f,c⟩:=oz h a;exact yh m g d h a
 | false=>
  obtain ⟨k,q,rfl,rfl,e⟩:=qj h a;exact zQ _ g l d k q (by omega) b e
theorem Pq {d:aa} {k q:Nat} (h:Num d k q):(yI d k q).1<=val d k/\val d k<=(yI d k q).2/\(yI d k q).2<=E16:=by
 have hs:=h.small;have b:dval 0 d*10 ^ k=val d k:=rfl;rw [b] at hs;unfold yI;split
 ·have a:1<=10 ^ (d.length+k - q):=xW _ _ (by decide);generalize 10 ^ (d.length+k - q)=u at a ⊢;generalize val d k=v at hs ⊢;have c:=Ba v u;have e:v<v / u*u+u:=by
   have h:=Nat.div_add_mod v u;have:=oI v a;rw [sQ] at h;omega
  refine ⟨c,?_,CZ _ _⟩;rw [Nat.le_min];omega
 ·exact ⟨aW _,aW _,hs⟩
def mtk (d:aa):Nat->Nat->Bool
 | 0,_=>true
 | k+1,w=>(decide (d.getD k 0=88)||decide ((d.getD k 0).toNat=48+w%10))&&mtk d k (w / 10)
theorem yW (d:aa) (k w:Nat):mtk d (k+1) w=((decide (d.getD k 0=88)||decide ((d.getD k 0).toNat=48+w%10))&&mtk d k (w / 10)):=rfl
theorem y6 {d:aa} {k:Nat} {c:UInt8} (h:d[k]?=some c):d.getD k 0=c:=by
 rw [E3,h];rfl
theorem GY (n:Nat) (g l:Bool) (d:aa) (x s:Int) (u:d.length=4):∀(k w:Nat),k<=4->w<100000000000000000->∀q,k<q->
  aw (bA n) q ((w:Int),(k:Int) - 1,g,l,d,x,s)=some (if mtk d k w=true then .inr ((w / 10 ^ k:Nat):Int) else .inl 0)
 | 0,w,y,o,q,z=>by
  obtain ⟨q,rfl⟩:∃p,q=p+1:=⟨q - 1,by omega⟩;have f:decide (((0:Nat):Int) - 1>=0)=false:=rfl;have i:mtk d 0 w=true:=rfl;simp only [aw,bA,f,ae];rw [ad i];simp
 | k+1,w,y,o,q,z=>by
  obtain ⟨q,rfl⟩:∃p,q=p+1:=⟨q - 1,by omega⟩;have ih:=GY n g l d x s u k (w / 10) (by omega) (by omega) q (by omega);obtain ⟨c,hc⟩:∃c,d[k]?=some c:=⟨d[k],bH (by omega)⟩;have A:((k+1:Nat):Int) - 1=(k:Int):=by omega
  have f:decide ((k:Int)>=0)=true:=ar (by omega);have r:Int.tmod (w:Int) 10=((w%10:Nat):Int):=rfl;have eq':Int.tdiv (w:Int) 10=((w / 10:Nat):Int):=rfl;have B:IntKind.wrap .i64 (48+((w%10:Nat):Int))=((48+w%10:Nat):Int):=by rw [wrap_i64 _ (by omega) (by omega)];omega
  have v:IntKind.wrap .u8 ((48+w%10:Nat):Int)=((48+w%10:Nat):Int):=eY _ (by omega) (by omega);have t:IntKind.wrap .i64 ((w / 10:Nat):Int)=((w / 10:Nat):Int):=wrap_i64 _ (by omega) (by omega);have m:IntKind.wrap .i64 ((k:Int) - 1)=(k:Int) - 1:=wrap_i64 _ (by omega) (by omega);have a:w / 10 ^ (k+1)=w / 10 / 10 ^ k:=by rw [qt,sQ,Nat.div_div_eq_div_mul]
  rw [yW,y6 hc,a,A];simp only [aw,bA,f,aj,lr hc,ob,r,eq',B,v,t,m];by_cases hx:c=88
  ·have j:(((c.toNat:Nat):Int) != 88)=false:=by rw [hx];rfl
   rw [j,ar hx];simp only [ae,ER,lZ];exact ih
  ·have j:(((c.toNat:Nat):Int) != 88)=true:=by
    simp only [bne,kn,aL];intro e;exact hx (jf.1 (by show c.toNat=88;omega))
   rw [j,aq hx];simp only [aj,vC];by_cases h:c.toNat=48+w%10
   ·have b:(((c.toNat:Nat):Int) != ((48+w%10:Nat):Int))=false:=by rw [h];simp
    rw [b,ar h];simp only [ae,lZ];exact ih
   ·have b:(((c.toNat:Nat):Int) != ((48+w%10:Nat):Int))=true:=by
     simp only [bne,kn,aL];omega
    rw [b,aq h];simp only [aj,Dv];rfl
def CN (d:aa) (k q:Nat):Nat:=if 0<q then 10 ^ (d.length+k - q) else 1
def memP (d:aa) (x s:Int) (w:Nat):Prop:=if hasX d=true then mtk d 4 w=true/\w / 10 ^ 4=0 else val d x.toNat / CN d x.toNat s.toNat=w / CN d x.toNat s.toNat
instance (d:aa) (x s:Int) (w:Nat):Decidable (memP d x s w):=by unfold memP;infer_instance
def wOf (g:Bool) (v:Int):Int:=if g then -v else v
def inP (g:Bool) (d:aa) (x s v:Int):Prop:=-10000000000000000<=v/\v<=10000000000000000/\0<=wOf g v/\¬(hasX d=true/\g=true/\wOf g v=0)/\memP d x s (wOf g v).toNat
instance (g:Bool) (d:aa) (x s v:Int):Decidable (inP g d x s v):=by unfold inP;infer_instance
noncomputable def inT (n:Nat) (k j:Bool) (g:aa) (h i W:Int):Option Int:=
 (ob (aA n k j g h i) λf=>(cond (f==1) (ob (aw (bA n) n (W,3,k,j,g,h,i)) λd=>(Sum.casesOn (motive:=λ_=>Option _) d (λc=>(some c)) (λe=>(cond (decide (e>0)) (some 0) (some 1))))) (ob (ak n g h) λb=>(cond (decide (i>0)) (ob (ak n [49] (IntKind.wrap .i64 ((IntKind.wrap .i64 (((List.length g:Nat):Int)+h)) - i))) λa=>(cond (a.1==0) none (cond (a.1==0) none (cond ((IntKind.wrap .i64 (Int.tdiv b.1 a.1))==(IntKind.wrap .i64 (Int.tdiv W a.1))) (some 1) (some 0))))) (cond ((IntKind.wrap .i64 (Int.tdiv b.1 1))==(IntKind.wrap .i64 (Int.tdiv W 1))) (some 1) (some 0))))))
theorem Hz (a b:Nat):(((a:Nat):Int)==((b:Nat):Int))=decide (a=b):=by
 by_cases h:a=b
 ·subst h;simp
 ·rw [aq h,aL];omega
theorem Ek {d:aa} {x s:Int} {w:Nat} (a:hasX d=true):memP d x s w↔mtk d 4 w=true/\w / 10 ^ 4=0:=by unfold memP;rw [ad a]
theorem MS {d:aa} {x s:Int} {w:Nat} (a:hasX d=false):memP d x s w↔val d x.toNat / CN d x.toNat s.toNat=w / CN d x.toNat s.toNat:=by unfold memP;rw [ab (by rw [a];simp)]
theorem in_T (m:Nat) {g l:Bool} {d:aa} {x s:Int} (j:okY g l d x s) (w:Nat) (T:w<=10000000000000000):inT (m+300) g l d x s (w:Int)=some (if memP d x s w then 1 else 0):=by
 have N:=jF j;have H:=ng (m+300) g l d x s (by omega) (by omega);unfold inT;cases h:hasX d with
 | true=>
  obtain ⟨rfl,rfl,rfl,M,_⟩:=oz j h;have D:=GY (m+300) g false d 0 0 M 4 w (by omega) (by omega) (m+300) (by omega);have hlp':aw (bA (m+300)) (m+300) ((w:Int),3,g,false,d,0,0)=_:=D;have F:((1:Int)==1)=true:=rfl;have o:aA (m+300) g false d 0 0=some 1:=by rw [H,h];rfl
  rw [o];simp only [ob,F,aj,hlp'];by_cases A:mtk d 4 w=true
  ·rw [ad A];by_cases z:w / 10 ^ 4=0
   ·have e:decide (((w / 10 ^ 4:Nat):Int)>0)=false:=aq (by rw [z];decide);rw [ad ((Ek h).2 ⟨A,z⟩)];simp only [e,ae]
   ·have e:decide (((w / 10 ^ 4:Nat):Int)>0)=true:=ar (by
     generalize w / 10 ^ 4=t at z ⊢;omega)
    rw [ab (λq=>z ((Ek h).1 q).2)];simp only [e,aj]
  ·rw [ab A,ab (λq=>A ((Ek h).1 q).1)]
 | false=>
  obtain ⟨k,q,rfl,rfl,y⟩:=qj j h;have hw':=y.wide;have hs:=y.small;have S:=y.sig;have G:dval 0 d*10 ^ k=val d k:=rfl;have I:=iG (m+300) d k y.dig (by omega) (by omega) (by omega);rw [ad hs,G] at I;rw [G] at hs;unfold E16 at hs;have E:((0:Int)==1)=false:=rfl;have o:aA (m+300) g l d k q=some 0:=by rw [H,h];rfl
  have c:=MS (x:=(k:Int)) (s:=(q:Int)) (w:=w) h;rw [bY,bY] at c;unfold CN at c;rw [o];simp only [ob,E,ae,I];by_cases J:0<q
  ·have B:decide ((q:Int)>0)=true:=ar (by omega);have w0:IntKind.wrap .i64 (IntKind.wrap .i64 (((d.length:Nat):Int)+(k:Int)) - (q:Int))=((d.length+k - q:Nat):Int):=by
    rw [wrap_i64 (((d.length:Nat):Int)+(k:Int)) (by omega) (by omega),wrap_i64 _ (by omega) (by omega)];omega
   have C:10 ^ (d.length+k - q)<=10 ^ 16:=jI (by decide) (by omega);have Q:(10:Nat) ^ 16=10000000000000000:=by decide
   have one:dval 0 [49]=1:=by decide
   have i:dval 0 [49]*10 ^ (d.length+k - q)<=E16:=by rw [one];unfold E16;omega
   have n:=iG (m+300) [49] (d.length+k - q) (by decide) (by decide) (by omega) (by simp;omega);rw [ad i,one,vG] at n;have R:1<=10 ^ (d.length+k - q):=xW _ _ (by decide);rw [B,w0,n];rw [ad J] at c;clear i n;generalize 10 ^ (d.length+k - q)=u at R C c ⊢;generalize val d k=v at hs c ⊢;have P:(((u:Nat):Int)==0)=false:=aL.2 (by omega);have r:Int.tdiv ((v:Nat):Int) ((u:Nat):Int)=((v / u:Nat):Int):=rfl;have p:Int.tdiv ((w:Nat):Int) ((u:Nat):Int)=((w / u:Nat):Int):=rfl;have L:v / u<=v:=B8 v u;have O:w / u<=w:=B8 w u;simp only [aj,P,ae,r,p];generalize v / u=a at L c ⊢;generalize w / u=b at O c ⊢;rw [wrap_i64 _ (by omega) (by omega),wrap_i64 _ (by omega) (by omega),Hz];by_cases f:a=b
   ·rw [ar f,ad (c.2 f)];rfl
   ·rw [aq f,ab (λq=>f (c.1 q))];rfl
  ·have B:decide ((q:Int)>0)=false:=aq (by omega);have K:∀a:Nat,Int.tdiv ((a:Nat):Int) 1=((a:Nat):Int):=λa=>by
    have:Int.tdiv ((a:Nat):Int) 1=((a / 1:Nat):Int):=rfl;rw [this,qP]
   rw [ab J,qP,qP] at c;rw [B];simp only [ae,K];rw [wrap_i64 _ (by omega) (by omega),wrap_i64 _ (by omega) (by omega),Hz];by_cases f:val d k=w
   ·rw [ar f,ad (c.2 f)];rfl
   ·rw [aq f,ab (λq=>f (c.1 q))];rfl
theorem Rz (m:Nat) {g l:Bool} {d:aa} {x s:Int} (n:okY g l d x s) (v:Int):lQ (m+300) g l d x s v=some (if inP g d x s v then 1 else 0):=by
 have y:=jF n;have a:=λw o=>in_T m n w o;have p:=ng (m+300) g l d x s (by omega) (by omega);unfold inT at a;unfold lQ;by_cases u:v < -10000000000000000
 ·rw [ar u,ab (λq=>by have:=q.1;omega)];rfl
 ·rw [aq u,ae];by_cases t:v>10000000000000000
  ·rw [ar t,ab (λq=>by have:=q.2.1;omega)];rfl
  ·rw [aq t,ae];cases g with
   | true=>
    have w0:IntKind.wrap .i64 (0 - v)=-v:=by rw [wrap_i64 _ (by omega) (by omega)];omega
    simp only [aj,w0];by_cases k:-v<0
    ·rw [ar k,ab (λq=>by have:=q.2.2.1;unfold wOf at this;simp only [aY] at this;omega)];rfl
    ·rw [aq k,ae];obtain ⟨w,o⟩:∃w:Nat,-v=(w:Int):=⟨(-v).toNat,by omega⟩;have a:=a w (by omega);have h:wOf true v=(w:Int):=by unfold wOf;simpa using o
     have c:¬(hasX d=true/\w=0)->(inP true d x s v↔memP d x s w):=by
      intro r;unfold inP;rw [h,bY];constructor
      ·exact λq=>q.2.2.2.2
      ·exact λq=>⟨by omega,by omega,by omega,λq=>r ⟨q.1,by omega⟩,q⟩
     rw [o];cases i:hasX d with
     | true=>
      have b:aA (m+300) true l d x s=some 1:=by rw [p,i];rfl
      rw [b];have f:((1:Int)==1)=true:=rfl;simp only [ob,f,aj];by_cases r:w=0
      ·have e:(((w:Nat):Int)==0)=true:=bU.2 (by omega);rw [e,ab (λq=>q.2.2.2.1 ⟨i,rfl,by rw [h];omega⟩)];rfl
      ·have e:(((w:Nat):Int)==0)=false:=aL.2 (by omega);rw [b] at a;simp only [ob,f,aj] at a;rw [e,ae,a];have:=c (λq=>r q.2);by_cases hp:memP d x s w
       ·rw [ad hp,ad (this.2 hp)]
       ·rw [ab hp,ab (λq=>hp (this.1 q))]
     | false=>
      have b:aA (m+300) true l d x s=some 0:=by rw [p,i];rfl
      have j:((0:Int)==1)=false:=rfl;rw [b] at a ⊢;simp only [ob,j,ae] at a ⊢;rw [a];have:=c (λq=>by rw [i] at q;cases q.1);by_cases hp:memP d x s w
      ·rw [ad hp,ad (this.2 hp)]
      ·rw [ab hp,ab (λq=>hp (this.1 q))]
   | false=>
    simp only [ae];by_cases k:v<0
    ·rw [ar k,ab (λq=>by have:=q.2.2.1;unfold wOf at this;simp only [cE,aG] at this;omega)];rfl
    ·rw [aq k,ae];obtain ⟨w,rfl⟩:∃w:Nat,v=(w:Int):=⟨v.toNat,by omega⟩;have a:=a w (by omega);have h:wOf false (w:Int)=(w:Int):=rfl;have c:inP false d x s (w:Int)↔memP d x s w:=by
      unfold inP;rw [h,bY];constructor
      ·exact λq=>q.2.2.2.2
      ·exact λq=>⟨by omega,by omega,by omega,λq=>(by cases q.2.1),q⟩
     cases i:hasX d with
     | true=>
      have b:aA (m+300) false l d x s=some 1:=by rw [p,i];rfl
      rw [b] at a ⊢;have f:((1:Int)==1)=true:=rfl;simp only [ob,f,aj] at a ⊢;rw [a];by_cases hp:memP d x s w
      ·rw [ad hp,ad (c.2 hp)]
      ·rw [ab hp,ab (λq=>hp (c.1 q))]
     | false=>
      have b:aA (m+300) false l d x s=some 0:=by rw [p,i];rfl
      rw [b] at a ⊢;have j:((0:Int)==1)=false:=rfl;simp only [ob,j,ae] at a ⊢;rw [a];by_cases hp:memP d x s w
      ·rw [ad hp,ad (c.2 hp)]
      ·rw [ab hp,ab (λq=>hp (c.1 q))]
def loK (d:aa) (k:Nat):Nat:=dval 0 ((dI 48 d).take k)
def hiK (d:aa) (k:Nat):Nat:=dval 0 ((dI 57 d).take k)
theorem uV (z:UInt8) {d:aa} {k:Nat} {c:UInt8} (h:d[k]?=some c):dval 0 ((dI z d).take (k+1))=dval 0 ((dI z d).take k)*10+((if c=88 then z else c).toNat - 48):=by
 rw [NE (vA h),Ea]
theorem zG (d:aa) (h:d.length=4) (f:∀c∈d,cM c=true\/c=88):∀(k w:Nat),k<=4->w<10 ^ k->mtk d k w=true->loK d k<=w/\w<=hiK d k
 | 0,w,i,b,a=>by
  simp at b;subst b;simp [loK,hiK,nB]
 | k+1,w,i,b,a=>by
  obtain ⟨c,hc⟩:∃c,d[k]?=some c:=⟨d[k],bH (by omega)⟩;rw [yW,y6 hc,ay,gC,cj,cj] at a;have hp:(10:Nat) ^ (k+1)=10 ^ k*10:=qt 10 k;have ih:=zG d h f k (w / 10) (by omega) (by omega) a.2;have l:=uV 48 hc;have g:=uV 57 hc;unfold loK hiK at ih ⊢;rw [l,g];by_cases hx:c=88
  ·rw [ad hx,ad hx];have j:(48:UInt8).toNat - 48=0:=rfl;have e:(57:UInt8).toNat - 48=9:=rfl;rw [j,e];omega
  ·rw [ab hx,ab hx];have:=a.1.resolve_left hx;omega
theorem ye (z:UInt8) (g:cM z=true) (d:aa) (j:d.length=4) (f:∀c∈d,cM c=true\/c=88):∀k,k<=4->mtk d k (dval 0 ((dI z d).take k))=true
 | 0,_=>rfl
 | k+1,n=>by
  obtain ⟨c,hc⟩:∃c,d[k]?=some c:=⟨d[k],bH (by omega)⟩;have ih:=ye z g d j f k (by omega);have e:cM (if c=88 then z else c)=true:=by
   by_cases hx:c=88
   ·rw [ad hx];exact g
   ·rw [ab hx];exact (f c (dT hc)).resolve_right hx
  have l:=(gx _).1 e;rw [yW,y6 hc,uV z hc];generalize h:(if c=88 then z else c)=b at l ⊢;generalize dval 0 ((dI z d).take k)=a at ih ⊢;have m:(a*10+(b.toNat - 48)) / 10=a:=by omega
  have i:(a*10+(b.toNat - 48))%10=b.toNat - 48:=by omega
  rw [m,i,ih,xc];by_cases hx:c=88
  ·rw [ar hx];rfl
  ·rw [ab hx] at h;rw [h,ar (show b.toNat=48+(b.toNat - 48) by omega),Bool.or_true]
def yM:List (aa):=[[48,48,48,88],[48,48,88,48],[48,48,88,88],[48,88,48,48],[48,88,48,88],[48,88,88,48],[48,88,88,88],[88,48,48,48],[88,48,48,88],[88,48,88,48],[88,48,88,88],[88,88,48,48],[88,88,48,88],[88,88,88,48],[88,88,88,88]]
theorem Ti:yM.all (λd=>mtk d 4 (rP d)&&decide (1<=rP d)&&decide (rP d<=1000)&&(List.range 1000).all (λw=>decide (w=0)||!mtk d 4 w||decide (rP d<=w)))=true:=by decide +kernel
theorem Ag {d:aa} (b:d∈yM):mtk d 4 (rP d)=true/\1<=rP d/\rP d<=1000/\∀w,1<=w->mtk d 4 w=true->rP d<=w:=by
 have h:=cr.1 Ti d b;simp only [ay,cj,cr,jk,gC,kn] at h;obtain ⟨⟨⟨j,e⟩,c⟩,i⟩:=h;refine ⟨j,e,c,λw k f=>?_⟩;rcases aH w 1000 with a | g
 ·rcases i w a with (h | h) | h
  ·omega
  ·rw [f] at h;cases h
  ·exact h
 ·omega
theorem Ad {d:aa} (a:d.length=4) (e:∀c∈d,cM c=true\/c=88) (b:hasX d=true) (f:dval 0 (dI 48 d)=0):d∈yM:=
 xp a (zo a e f) b (λd=>d∈yM) (by decide) (by decide) (by decide) (by decide) (by decide) (by decide) (by decide) (by decide) (by decide) (by decide) (by decide) (by decide) (by decide) (by decide) (by decide)
theorem Pl {d:aa} (a:d.length=4):loK d 4=dval 0 (dI 48 d):=by
 unfold loK;rw [gX (by rw [ip];omega)]
theorem OM {d:aa} (a:d.length=4):hiK d 4=dval 0 (dI 57 d):=by
 unfold hiK;rw [gX (by rw [ip];omega)]
theorem Le {g:Bool} {d:aa} (b:d.length=4) (e:∀c∈d,cM c=true\/c=88) (s:hasX d=true):
  (jy g d).1<10000/\(jy g d).2<10000/\mtk d 4 (jy g d).1=true/\mtk d 4 (jy g d).2=true/\1<=(jy g d).2/\(g=true->1<=(jy g d).1)/\∀w,w<10000->mtk d 4 w=true->(g=true->1<=w)->(jy g d).1<=w/\w<=(jy g d).2:=by
 have t:(10:Nat) ^ 4=10000:=by decide
 have o:=o8 (z:=48) (by decide) e;have p:=o8 (z:=57) (by decide) e;have r:=oy (dI 48 d) 0 0 o (by simp);have q:=oy (dI 57 d) 0 0 p (by simp);rw [ip,b,fg,t] at r q;have m1:=ye 48 (by decide) d b e 4 (by omega);have m2:=ye 57 (by decide) d b e 4 (by omega);rw [gX (by rw [ip];omega)] at m1 m2;have m:∀w,w<10000->mtk d 4 w=true->dval 0 (dI 48 d)<=w/\w<=dval 0 (dI 57 d):=λw k h=>by
  have:=zG d b e 4 w (by omega) (by omega) h;rw [Pl b,OM b] at this;exact this
 have j:1<=dval 0 (dI 57 d):=by
  rcases yV (dval 0 (dI 57 d)) with i | i
  ·exfalso;have f:dval 0 (dI 48 d)=0:=by
    have:=(m _ r m1).2;omega
   have n:=Ad b e s f;have a:=Ag n;have:=(m _ (by omega) a.1).2;omega
  ·exact i
 unfold jy;by_cases f:g=true/\dval 0 (dI 48 d)=0
 ·rw [ad f];have a:=Ag (Ad b e s f.2);refine ⟨by simp only;omega,q,a.1,m2,j,λ_=>a.2.1,λw k h l=>⟨a.2.2.2 w (l f.1) h,(m w k h).2⟩⟩
 ·rw [ab f];refine ⟨r,q,m1,m2,j,λl=>?_,λw k h l=>m w k h⟩;simp only;rcases yV (dval 0 (dI 48 d)) with i | i
  ·exact absurd ⟨l,i⟩ f
  ·exact i
theorem KQ {g l:Bool} {d:aa} {x s:Int} (f:okY g l d x s):(l6 g d x s).1<=10000000000000000/\(l6 g d x s).2<=10000000000000000/\memP d x s (l6 g d x s).1/\memP d x s (l6 g d x s).2/\(hasX d=true->1<=(l6 g d x s).2/\(g=true->1<=(l6 g d x s).1))/\
  ∀w,w<=10000000000000000->memP d x s w->(hasX d=true->g=true->1<=w)->(l6 g d x s).1<=w/\w<=(l6 g d x s).2:=by
 unfold l6 memP;cases o:hasX d with
 | true=>
  obtain ⟨rfl,rfl,rfl,G,C⟩:=oz f o;obtain ⟨E,D,L,M,F,O,I⟩:=Le (g:=g) G C o;have K:(10:Nat) ^ 4=10000:=by decide
  simp only [aY,K];refine ⟨by omega,by omega,⟨L,Nat.div_eq_of_lt E⟩,⟨M,Nat.div_eq_of_lt D⟩,λ_=>⟨F,O⟩,λw y j H=>I w (by omega) j.1 (H trivial)⟩
 | false=>
  obtain ⟨k,q,rfl,rfl,t⟩:=qj f o;have hs:=t.small;have N:dval 0 d*10 ^ k=val d k:=rfl;rw [N] at hs;obtain ⟨e,c,b⟩:=Pq t;unfold E16 at b;simp only [cE,aG,bY];unfold CN;unfold yI at e c b ⊢;by_cases m:0<q
  ·rw [ad m] at e c b ⊢;rw [ad m];have A:1<=10 ^ (d.length+k - q):=xW _ _ (by decide);generalize 10 ^ (d.length+k - q)=u at *;generalize val d k=v at *;simp only at e c b ⊢;have i:v / u*u / u=v / u:=Nat.mul_div_cancel _ A;have r:∀w,v / u*u<=w->w<v / u*u+u->w / u=v / u:=by
    intro w B p;apply Nat.div_eq_of_lt_le
    ·exact B
    ·rw [xN];exact p
   have a:∀w,v / u=w / u->v / u*u<=w/\w<v / u*u+u:=by
    intro w h;rw [h];have B:=Ba w u;have p:=Nat.div_add_mod w u;have P:=oI w A;rw [sQ] at p;omega
   have z:min (v / u*u+u - 1) E16<=v / u*u+u - 1:=Nat.min_le_left _ _;have n:=a v rfl;refine ⟨by omega,b,i.symm,(r _ (by omega) (by omega)).symm,λq=>(by cases q),λw y j _=>?_⟩;obtain ⟨J,Q⟩:=a w j;refine ⟨J,?_⟩;rw [Nat.le_min];unfold E16;omega
  ·rw [ab m] at e c b ⊢;rw [ab m];simp only [qP] at e c b ⊢;refine ⟨b,b,trivial,trivial,λq=>(by cases q),λw y j _=>by omega⟩
theorem Bz {g l:Bool} {d:aa} {x s:Int} (j:okY g l d x s):inP g d x s (sgn g (l6 g d x s)).1/\inP g d x s (sgn g (l6 g d x s)).2/\∀v,inP g d x s v->(sgn g (l6 g d x s)).1<=v/\v<=(sgn g (l6 g d x s)).2:=by
 obtain ⟨k,f,o,r,i,w⟩:=KQ j;generalize l6 g d x s=C at *;obtain ⟨lo,hi⟩:=C;simp only at k f o r i w;cases g with
 | true=>
  have b:∀a:Nat,wOf true (-(a:Int))=(a:Int):=λa=>by unfold wOf;simp
  have mk:∀a:Nat,a<=10000000000000000->memP d x s a->(hasX d=true->1<=a)->inP true d x s (-(a:Int)):=by
   intro a D u z;refine ⟨by omega,by omega,by rw [b];omega,λq=>?_,by rw [b,bY];exact u⟩;have:=z q.1;have B:=q.2.2;rw [b] at B;omega
  simp only [sgn,aY];refine ⟨mk hi f r (λh=>(i h).1),mk lo k o (λh=>(i h).2 rfl),λv t=>?_⟩;obtain ⟨y,A,p,m,c⟩:=t;have n:wOf true v=-v:=rfl;rw [n] at p m c
  have:=w (-v).toNat (by omega) c (λhx _=>by
   have:¬-v=0:=λe=>m ⟨hx,rfl,e⟩;omega)
  omega
 | false=>
  have b:∀a:Int,wOf false a=a:=λa=>rfl;have mk:∀a:Nat,a<=10000000000000000->memP d x s a->inP false d x s (a:Int):=by
   intro a D u;exact ⟨by omega,by omega,by rw [b];omega,λq=>(by cases q.2.1),by rw [b,bY];exact u⟩
  simp only [sgn,cE,aG];refine ⟨mk lo k o,mk hi f r,λv t=>?_⟩;obtain ⟨y,A,p,m,c⟩:=t;rw [b] at p c;have:=w v.toNat (by omega) c (λ_ q=>by cases q);omega
end Go.Sh
namespace Go.Sh.Mk
open Go.Abs
def okB (c:UInt8):Bool:=c.toNat==88||(decide (48<=c.toNat)&&decide (c.toNat<=57))
def chk (s:aa):Int:=if 18<s.length then 3 else if s.all okB then (if s=[] then 5 else 0) else 5
theorem tt (n:Nat) (s0 s:aa) (t:s.length+1<n):
  aw (gH n) n (s0,s,0)=some (if s.all okB then .inr s0 else .inl 5):=by
 have:=gv (step:=gH n) (λx=>x.1=s0/\x.2.1=s/\x.2.2<=s.length) (λx=>s.length - x.2.2)
  (λx=>if (s.drop x.2.2).all okB then .inr s0 else .inl 5) ?_ n (s0,s,0) ⟨rfl,rfl,qT _⟩ (by simp;omega)
 ·simpa using this
 rintro ⟨a,b,i⟩ ⟨rfl,rfl,hi⟩;simp only at hi ⊢;rcases aH i b.length with j | m
 ·obtain ⟨c,hc⟩:∃c,b[i]?=some c:=⟨b[i],bH j⟩;have o:Nat.blt i b.length=true:=cU j;rw [kM hc,mV];simp only [gH,o,aj];by_cases g:c.toNat<128
  ·rw [Cb hc g];by_cases k:c.toNat=88
   ·refine .inl ⟨(a,b,i+1),by simp [k],⟨rfl,rfl,by simp only;omega⟩,by simp only;omega,?_⟩;simp [okB,k]
   ·by_cases p:c.toNat<48
    ·refine .inr ?_;have f:(((c.toNat:Nat):Int) != 88)=true:=by simp;omega
     have d:(decide (((c.toNat:Nat):Int)<48))=true:=by simp;omega
     have e:okB c=false:=by simp [okB];omega
     simp [f,d,e]
    ·by_cases q:57<c.toNat
     ·refine .inr ?_;have f:(((c.toNat:Nat):Int) != 88)=true:=by simp;omega
      have d:(decide (((c.toNat:Nat):Int)<48))=false:=by simp;omega
      have l:(decide (((c.toNat:Nat):Int)>57))=true:=by simp;omega
      have e:okB c=false:=by simp [okB];omega
      simp [f,d,e,l]
     ·have f:(((c.toNat:Nat):Int) != 88)=true:=by simp;omega
      have d:(decide (((c.toNat:Nat):Int)<48))=false:=by simp;omega
      have l:(decide (((c.toNat:Nat):Int)>57))=false:=by simp;omega
      have e:okB c=true:=by simp [okB];omega
      refine .inl ⟨(a,b,i+1),by simp only [f,d,l,aj,ae],⟨rfl,rfl,by simp only;omega⟩,by simp only;omega,?_⟩;simp [e]
  ·obtain ⟨u,r⟩:=Eu hc (by omega);refine .inr ?_;have f:((((dec b i).1:Nat):Int) != 88)=true:=by simp;omega
   have d:(decide ((((dec b i).1:Nat):Int)<48))=false:=by simp;omega
   have l:(decide ((((dec b i).1:Nat):Int)>57))=true:=by simp;omega
   have e:okB c=false:=by simp [okB];omega
   simp [f,d,e,l]
 ·have o:Nat.blt i b.length=false:=by
   cases h:Nat.blt i b.length with
   | false=>rfl
   | true=>have:i<b.length:=aD h;omega
  refine .inr ?_;simp only [gH,o,ae];rw [rl m];rfl
theorem kG (n:Nat) (s:aa) (b:30<=n):jg n s=some (chk s):=by
 unfold jg chk;by_cases h:18<s.length
 ·have:(decide (((List.length s:Nat):Int)>18))=true:=by simp;omega
  simp [this,h]
 ·have e:(decide (((List.length s:Nat):Int)>18))=false:=by simp;omega
  simp only [e,ae,h,aG];rw [tt n s s (by omega)];by_cases a:s.all okB=true
  ·simp only [a,aY,ob];by_cases hs:s=[]
   ·simp [hs]
   ·have:(s==([]:aa))=false:=by simpa using hs
    simp [this,hs]
  ·simp [a,ob]
theorem mh {s:aa} (h:chk s=0):s.length<=18/\s≠[]/\∀c∈s,okB c=true:=by
 unfold chk at h;split at h
 ·simp at h
 ·split at h
  ·rename_i a;split at h
   ·simp at h
   ·rename_i hs;exact ⟨by omega,hs,by simpa using a⟩
  ·simp at h
def nums (l:aa):List Int:=l.map λb=>((b.toNat:Nat):Int)
def over (d:List Int) (i:Nat) (l:List Int):List Int:=d.take i++(l++d.drop (i+l.length))
theorem yN (d:List Int) (i:Nat) (x:Int) (l:List Int) (h:i<d.length):over (d.set i x) (i+1) l=over d i (x::l):=by
 unfold over;rw [show (d.set i x).take (i+1)=d.take i++[x] from by
  rw [Ix (by simpa using h)];simp [List.take_set_of_le]]
 rw [List.drop_set_of_lt (by omega)];simp [il,qI 1]
theorem Ep (d:List Int) (i:Nat):over d i []=d:=by simp [over]
theorem Lp (d:List Int) (i:Nat) (l:List Int) (h:i+l.length<=d.length):(over d i l).length=d.length:=by
 unfold over;simp;omega
theorem JU {x y:UInt8}:(((x.toNat:Nat):Int)==((y.toNat:Nat):Int))=decide (x=y):=by
 by_cases h:x=y
 ·simp [h]
 ·have:x.toNat≠y.toNat:=λe=>h (jf.1 e);simp [h];omega
theorem yB {x:UInt8}:(((x.toNat:Nat):Int)==88)=decide (x=88):=by
 have:=JU (x:=x) (y:=88);simpa using this
def dg:Nat->Int->List Int
 | 0,_=>[]
 | L+1,k=>dg L (k / 10)++[48+k%10]
theorem uq:∀(L:Nat) (k:Int),(dg L k).length=L
 | 0,_=>rfl
 | L+1,k=>by simp [dg,uq L]
theorem rB:∀(L:Nat) (k:Int),∀x∈dg L k,48<=x/\x<58
 | 0,_,x,h=>by simp [dg] at h
 | L+1,k,x,h=>by
  simp only [dg,kA,uB] at h;rcases h with h | rfl
  ·exact rB L _ x h
  ·omega
def iE:aa->List Int->Bool
 | c::m,d::l=>(c==88||decide (((c.toNat:Nat):Int)=d))&&iE m l
 | _,_=>true
theorem sV:∀{a c:aa} {b d:List Int},a.length=b.length->iE (a++c) (b++d)=(iE a b&&iE c d)
 | [],c,[],d,_=>by simp [iE]
 | x::a,c,y::b,d,h=>by
  simp only [aS,vY] at h;simp only [ki,iE,sV h,Bool.and_assoc]
def hasM (m:aa) (k:Int):Bool:=decide (0<=k)&&(decide (k<10 ^ m.length)&&iE m (dg m.length k))
theorem Lq (L:Nat) (h:L<=18):nL 20000000 ((L:Nat):Int)=some (10 ^ L):=by
 have a:allN (λi=>match nL 20000000 ((i:Nat):Int) with | some r=>decide (r=10 ^ i) | none=>false) 19=true:=by kernel_rfl
 have:=Bg a L (by omega);split at this
 ·rename_i r b;rw [b];simpa using this
 ·cases this
theorem AQ (L:Nat) (h:L<=18):(10:Int) ^ L<=1000000000000000000:=by
 have a:allN (λi=>decide ((10:Int) ^ i<=1000000000000000000)) 19=true:=by kernel_rfl
 simpa using Bg a L (by omega)
theorem QZ {k:Int} (h:0<=k):Int.tmod k 10=k%10:=G0 h
theorem RY {k:Int} (h:0<=k):Int.tdiv k 10=k / 10:=Np h
theorem Gp (k:Int) (i:Nat) (d:List Int) (a:0<=k) (c:k<9223372036854775808) (hi:i<=18) (b:d.length=18):
  aw (gJ 20000000) 20000000 (k,(i:Int) - 1,d)=some (over d 0 (dg i k)):=by
 have:=gv (step:=gJ 20000000) (λx=>(0<=x.1/\x.1<9223372036854775808)/\(-1<=x.2.1/\x.2.1<=17)/\x.2.2.length=18) (λx=>(x.2.1+1).toNat)
  (λx=>over x.2.2 0 (dg (x.2.1+1).toNat x.1)) ?_ 20000000 (k,(i:Int) - 1,d) ⟨⟨a,c⟩,⟨by simp only;omega,by simp only;omega⟩,b⟩ (by simp only;omega)
 ·simpa using this
 rintro ⟨k,i,d⟩ ⟨⟨a,c⟩,⟨h,l⟩,b⟩;simp only at a c h l b ⊢;by_cases hi:0<=i
 ·obtain ⟨j,rfl⟩:∃j:Nat,i=j:=⟨i.toNat,by omega⟩;have f:j<18:=by omega
  have e:decide ((j:Int)>=0)=true:=by simp
  have g:Nat.blt j 18=true:=cU f;have q:IntKind.wrap .i64 ((j:Int) - 1)=(j:Int) - 1:=wrap_i64 _ (by omega) (by omega);have p:IntKind.wrap .i64 (Int.tdiv k 10)=k / 10:=by rw [RY a];exact wrap_i64 _ (by omega) (by omega)
  have n:IntKind.wrap .u8 (IntKind.wrap .i64 (48+Int.tmod k 10))=48+k%10:=by rw [QZ a,wrap_i64 _ (by omega) (by omega),eY _ (by omega) (by omega)]
  refine .inl ⟨(k / 10,(j:Int) - 1,d.set j (48+k%10)),by simp only [gJ,e,aj,di f,ob,g,q,p,n],⟨⟨by simp only;omega,by simp only;omega⟩,⟨by simp only;omega,by simp only;omega⟩,by simpa using b⟩,by simp only;omega,?_⟩;have m:((j:Int) - 1+1).toNat=j:=by omega
  have o:((j:Int)+1).toNat=j+1:=by omega
  simp only [m,o,over,mI,ij,uq,cV,dg,uj];congr 1;rw [List.drop_set,ab (by omega),yc,wK (by omega)];simp only [List.set_cons_zero,bB,uq,aS,bg,ki,ij,cV]
 ·have e:decide (i>=0)=false:=by simp;omega
  have s:(i+1).toNat=0:=by omega
  refine .inr ?_;simp only [gJ,e,ae,s,dg,Ep]
theorem Mc (m:aa) (k:Int) (a:m.length<=18) (c:0<=k) (b:k<9223372036854775808):
  kB 20000000 m k=some (over [0,0,0,0,0,0,0,0,0,0,0,0,0,0,0,0,0,0] 0 (dg m.length k)):=by
 have w:IntKind.wrap .i64 (((List.length m:Nat):Int) - 1)=(m.length:Int) - 1:=wrap_i64 _ (by omega) (by omega);simp only [kB,w,Gp k m.length [0,0,0,0,0,0,0,0,0,0,0,0,0,0,0,0,0,0] c b a (by rfl),ob]
theorem tN {d l:List Int} {i:Nat} (h:i<l.length):(over d 0 l)[i]?=l[i]?:=by
 unfold over;simp only [mI,ij];rw [mi h]
theorem wG:∀(l:List Int),(∀x∈l,0<=x/\x<256)->nums (gh l)=l
 | [],_=>rfl
 | x::l,h=>by
  have ih:=wG l λy hy=>h y (gP _ hy);obtain ⟨c,a⟩:=h x (by simp);have e:(((UInt8.ofNat x.toNat).toNat:Nat):Int)=x:=by
   rw [BD,ov (by omega)];omega
  simp only [nums,gh,qu] at ih ⊢;simp only [fa,Function.comp,e];rw [show List.map ((λb:UInt8=>((b.toNat:Nat):Int)) ∘ λn:Int=>UInt8.ofNat n.toNat) l=l from ih]
theorem LV (l:aa):(nums l).length=l.length:=by simp [nums]
def cnt:aa->Nat
 | []=>0
 | c::r=>if c=88 then cnt r+1 else cnt r
def dv (c:UInt8):Int:=((c.toNat:Nat):Int) - 48
def nth:aa->Int->Int
 | [],_=>0
 | c::r,i=>if c=88 then 10*nth r (i / 10)+i%10 else 10*nth r i+dv c
def ag:aa->Int->Bool
 | [],_=>true
 | c::r,k=>ag r (k / 10)&&(decide (c=88)||decide (dv c=k%10))
def idx:aa->Int->Int
 | [],_=>0
 | c::r,k=>if c=88 then 10*idx r (k / 10)+k%10 else idx r (k / 10)
def okR (r:aa):Prop:=∀c∈r,c=88\/(0<=dv c/\dv c<10)
theorem xg {m:aa} (h:∀c∈m,okB c=true):okR m.reverse:=by
 intro c hc;have:=h c (List.mem_reverse.1 hc);simp only [okB,gC,bU,ay,cj] at this;rcases this with h | h
 ·exact .inl (jf.1 (by simpa using h))
 ·exact .inr (by unfold dv;omega)
theorem pw {c:UInt8} {r:aa} (h:okR (c::r)):okR r:=λx hx=>h x (gP _ hx)
theorem gG (n:Nat):(10:Int) ^ (n+1)=10*10 ^ n:=by rw [Int.pow_succ,wO]
theorem rX (n:Nat):(0:Int)<10 ^ n:=Int.pow_pos (by omega)
theorem o7:∀{r:aa},okR r->∀i,0<=i->0<=nth r i/\nth r i<10 ^ r.length
 | [],_,i,_=>by simp [nth]
 | c::r,h,i,hi=>by
  simp only [nth,aS,gG];split
  ·have:=o7 (pw h) (i / 10) (by omega);omega
  ·rename_i hc;have:=o7 (pw h) i hi;have:=(h c (by simp)).resolve_left hc;omega
theorem GX:∀{r:aa},okR r->∀i,0<=i->ag r (nth r i)=true
 | [],_,_,_=>rfl
 | c::r,h,i,hi=>by
  simp only [nth,ag];split
  ·rename_i hc;have e:(10*nth r (i / 10)+i%10) / 10=nth r (i / 10):=by omega
   rw [e,GX (pw h) (i / 10) (by omega)];simp [hc]
  ·rename_i hc;have b:=(h c (by simp)).resolve_left hc;have e:(10*nth r i+dv c) / 10=nth r i:=by omega
   have a:(10*nth r i+dv c)%10=dv c:=by omega
   rw [e,a,GX (pw h) i hi];simp
theorem uT:∀(r:aa) (k:Int),0<=k->0<=idx r k/\idx r k<10 ^ cnt r
 | [],k,_=>by simp [idx,cnt]
 | c::r,k,a=>by
  have:=uT r (k / 10) (by omega);simp only [idx,cnt];split
  ·rw [gG];omega
  ·exact this
theorem Ig:∀{r:aa} {k:Int},0<=k->k<10 ^ r.length->ag r k=true->nth r (idx r k)=k
 | [],k,f,b,_=>by simp at b;simp [nth];omega
 | c::r,k,f,b,a=>by
  simp only [ag,ay,gC,cj] at a;rw [aS,gG] at b;have ih:=Ig (r:=r) (k:=k / 10) (by omega) (by omega) a.1;simp only [nth,idx];split
  ·have:=uT r (k / 10) (by omega);have e:(10*idx r (k / 10)+k%10) / 10=idx r (k / 10):=by omega
   have d:(10*idx r (k / 10)+k%10)%10=k%10:=by omega
   rw [e,d,ih];omega
  ·rename_i hc;rw [ih];have:=a.2.resolve_left hc;omega
theorem yR:∀{r:aa},okR r->∀i j,0<=i->i<j->j<10 ^ cnt r->nth r i<nth r j
 | [],_,i,j,d,b,a=>by simp [cnt] at a;omega
 | c::r,h,i,j,d,b,a=>by
  simp only [nth,cnt] at a ⊢;split
  ·rename_i hc;rw [ad hc,gG] at a;by_cases e:i / 10=j / 10
   ·rw [e];omega
   ·have:=yR (pw h) (i / 10) (j / 10) (by omega) (by omega) (by omega);omega
  ·rename_i hc;rw [ab hc] at a;have:=yR (pw h) i j d b a;omega
theorem EG:∀(r:aa),∀k,iE r.reverse (dg r.length k)=ag r k
 | [],k=>rfl
 | c::r,k=>by
  simp only [List.reverse_cons,aS,dg,ag];rw [sV (by rw [sO,uq]),EG r];have b:decide (((c.toNat:Nat):Int)=48+k%10)=decide (dv c=k%10):=qA.2 (by unfold dv;omega);have a:(c==88)=decide (c=88):=by by_cases h:c=88<;>simp [h]
  simp only [iE,xc,b,a]
theorem Ce (m:aa) (k:Int):hasM m k=(decide (0<=k)&&(decide (k<10 ^ m.length)&&ag m.reverse k)):=by
 have:=EG m.reverse k;rw [vH,sO] at this;unfold hasM;rw [this]
theorem uf:∀(m:aa),cnt m=m.count 88
 | []=>rfl
 | c::m=>by
  simp only [cnt,uf m,List.count_cons];by_cases h:c=88<;>simp [h]
theorem qC (m:aa):cnt m.reverse=cnt m:=by rw [uf,uf,List.count_reverse]
theorem GW:∀(m:aa),cnt m<=m.length
 | []=>by simp [cnt]
 | c::m=>by
  have:=GW m;simp only [cnt,aS];split<;>omega
def fd (x y:Int):Int:=(if y=88 then x else y) - 48
def fval (x:Int) (l:List Int):Int:=l.foldl (λn y=>10*n+fd x y) 0
theorem zd (x:Int):∀(l:List Int) (n:Int),l.foldl (λn y=>10*n+fd x y) n=n*10 ^ l.length+fval x l
 | [],n=>by simp [fval]
 | y::l,n=>by
  have e:=zd x l (10*n+fd x y);have a:=zd x l (10*0+fd x y);simp only [fval,tc,aS,gG] at e a ⊢;rw [e,a,Int.add_mul,Int.add_mul];have:10*n*10 ^ l.length=n*(10*10 ^ l.length):=by rw [wO 10 n,Int.mul_assoc]
  omega
theorem uN (s:aa) (x:Int) (u:s.length<=18) (hs:∀c∈s,0<=fd x ((c.toNat:Nat):Int)/\fd x ((c.toNat:Nat):Int)<10):kS 20000000 s x=some (fval x (nums s)):=by
 have hs':∀y∈nums s,0<=fd x y/\fd x y<10:=by
  intro y hy;obtain ⟨c,hc,rfl⟩:=dr.1 hy;exact hs c hc
 have v:(nums s).length=s.length:=LV s;have:=gv (step:=fN 20000000)
  (λst=>st.1=x/\st.2.2.1=((s.length:Nat):Int)/\st.2.2.2.2=nums s/\(0<=st.2.2.2.1/\st.2.2.2.1<=s.length)/\0<=st.2.1/\st.2.1<10 ^ st.2.2.2.1.toNat) (λst=>s.length - st.2.2.2.1.toNat)
  (λst=>((nums s).drop st.2.2.2.1.toNat).foldl (λn y=>10*n+fd x y) st.2.1) ?_ 20000000 (x,0,((s.length:Nat):Int),0,nums s) ⟨rfl,rfl,rfl,⟨by simp,by simp⟩,by simp,by simp⟩ (by simp;omega)
 ·show (ob (aw (fN 20000000) 20000000 (x,0,((List.length (nums s):Nat):Int),0,nums s)) λf=>some f)=_;rw [v,this];rfl
 rintro ⟨b,n,len,i,l⟩ ⟨r,p,m,⟨D,hi⟩,A,o⟩;simp only at r p m D hi A o ⊢;subst r p m;obtain ⟨j,rfl⟩:∃j:Nat,i=j:=⟨i.toNat,by omega⟩;simp only [bY] at o ⊢;rcases aH j s.length with C | t
 ·obtain ⟨y,hy⟩:∃c,(nums s)[j]?=some c:=⟨(nums s)[j]'(by omega),bH (by omega)⟩;obtain ⟨d0,d⟩:=hs' y (dT hy);have h:(decide ((j:Int)<((s.length:Nat):Int)))=true:=by simp;omega
  have w:IntKind.wrap .i64 ((j:Int)+1)=((j+1:Nat):Int):=by rw [wrap_i64 _ (by omega) (by omega)];omega
  have g:=AQ (j+1) (by omega);rw [gG] at g;have B:IntKind.wrap .i64 (10*n)=10*n:=wrap_i64 _ (by omega) (by omega);have q:∀z:Int,0<=z->z<10->IntKind.wrap .i64 (10*n+IntKind.wrap .i64 (IntKind.wrap .u8 z))=10*n+z:=λz E z1=>by
   rw [eY z (by omega) (by omega),wrap_i64 z (by omega) (by omega),wrap_i64 _ (by omega) (by omega)]
  rw [kM hy,tc];simp only [fN,h,aj,di (show j<(nums s).length by omega),ob,hy,w,B];have next:0<=10*n+fd b y/\10*n+fd b y<10 ^ (j+1):=by rw [gG];omega
  by_cases a:y=88
  ·have k:(y==88)=true:=by simpa using a
   have e:fd b y=b - 48:=by simp [fd,a]
   rw [e] at d0 d next ⊢;refine .inl ⟨(b,10*n+(b - 48),((s.length:Nat):Int),((j+1:Nat):Int),nums s),by simp only [k,aj,q _ d0 d],⟨rfl,rfl,rfl,⟨by simp only;omega,by simp only;omega⟩,next.1,by simpa only [bY] using next.2⟩,by simp only [bY];omega,by simp only [bY]⟩
  ·have k:(y==88)=false:=by simpa using a
   have e:fd b y=y - 48:=by simp [fd,a]
   rw [e] at d0 d next ⊢;refine .inl ⟨(b,10*n+(y - 48),((s.length:Nat):Int),((j+1:Nat):Int),nums s),by simp only [k,ae,q _ d0 d],⟨rfl,rfl,rfl,⟨by simp only;omega,by simp only;omega⟩,next.1,by simpa only [bY] using next.2⟩,by simp only [bY];omega,by simp only [bY]⟩
 ·have h:(decide ((j:Int)<((s.length:Nat):Int)))=false:=by simp;omega
  refine .inr ?_;simp only [fN,h,ae];rw [rl (by omega)];rfl
theorem vF (x:Int) (l:List Int) (y:Int):fval x (l++[y])=10*fval x l+fd x y:=by simp [fval,Dz]
theorem zM (r:aa) (c:UInt8):nums ((c::r).reverse)=nums r.reverse++[((c.toNat:Nat):Int)]:=by simp [nums]
theorem Br (x:Int) (c:UInt8):fd x ((c.toNat:Nat):Int)=if c=88 then x - 48 else dv c:=by
 unfold fd dv;by_cases h:c=88
 ·simp [h]
 ·have:¬((c.toNat:Nat):Int)=88:=λe=>h (jf.1 (by simpa using (by omega:c.toNat=88)));rw [ab this,ab h]
theorem xC:∀(r:aa),fval 48 (nums r.reverse)=nth r 0
 | []=>rfl
 | c::r=>by
  rw [zM,vF,xC r,Br];simp only [nth];split<;>simp
theorem rG:∀(r:aa),fval 57 (nums r.reverse)=nth r (10 ^ cnt r - 1)
 | []=>rfl
 | c::r=>by
  have hp:=rX (cnt r);rw [zM,vF,rG r,Br];simp only [nth,cnt];split
  ·rw [gG];have b:(10*(10:Int) ^ cnt r - 1) / 10=10 ^ cnt r - 1:=by omega
   have a:(10*(10:Int) ^ cnt r - 1)%10=9:=by omega
   rw [b,a];omega
  ·rfl
theorem SG {m:aa} (a:∀c∈m,okB c=true) {x:Int} (hx:48<=x/\x<58):∀c∈m,0<=fd x ((c.toNat:Nat):Int)/\fd x ((c.toNat:Nat):Int)<10:=by
 intro c hc;rw [Br];have:=xg a c (List.mem_reverse.2 hc);split
 ·omega
 ·rename_i h;exact this.resolve_left h
theorem Kp {m:aa} (c:chk m=0):nQ 20000000 m=some (nth m.reverse 0,0):=by
 obtain ⟨a,_,b⟩:=mh c;have d:((0:Int) != 0)=false:=by simp
 have:=xC m.reverse;rw [vH] at this;simp only [nQ,kG 20000000 m (by omega),c,ob,d,ae,uN m 48 a (SG b (by omega)),this]
theorem CE {m:aa} (c:chk m=0):kL 20000000 m=some (nth m.reverse (10 ^ cnt m - 1),0):=by
 obtain ⟨a,_,b⟩:=mh c;have d:((0:Int) != 0)=false:=by simp
 have:=rG m.reverse;rw [vH,qC] at this;simp only [kL,kG 20000000 m (by omega),c,ob,d,ae,uN m 57 a (SG b (by omega)),this]
theorem Ks {m:aa} {l:List Int} (z:List Int) (b:m.length<=18) (g:l.length=m.length) (e:∀y∈l,48<=y/\y<58):fi 20000000 m (over z 0 l)=some (fval 0 l):=by
 have f:List.take m.length (over z 0 l)=l:=by
  unfold over;rw [mI,ij,sj (by omega),gX (by omega)]
 have d:nums (gh l)=l:=wG l λy hy=>by have:=e y hy;omega
 have h:(gh l).length=m.length:=by simp [gh,g]
 simp only [fi,eM b,ob,cV,show Nat.ble m.length 18=true from cU b,aj,jO,f];rw [uN (gh l) 0 (by omega) ?_,d];intro c hc;have a:((c.toNat:Nat):Int)∈l:=by rw [<-d];exact dr.2 ⟨c,hc,rfl⟩
 have:=e _ a;unfold fd;rw [ab (by omega)];omega
theorem Ei {m:aa} (d:chk m=0) {i:Int} (c:0<=i):hasM m (nth m.reverse i)=true:=by
 obtain ⟨e,_,a⟩:=mh d;have b:=o7 (xg a) i c;rw [sO] at b;rw [Ce,GX (xg a) i c,ar b.1,ar b.2];rfl
def vl:List Int->Int
 | []=>0
 | y::l=>(y - 48)*10 ^ l.length+vl l
def digl (l:List Int):Prop:=∀y∈l,48<=y/\y<58
theorem cQ {y:Int} {l:List Int} (h:digl (y::l)):digl l:=λx hx=>h x (gP _ hx)
theorem tZ:∀{l:List Int},digl l->0<=vl l/\vl l<10 ^ l.length
 | [],_=>by simp [vl]
 | y::l,h=>by
  have ih:=tZ (cQ h);have hy:=h y (by simp);have hp:=rX l.length;simp only [vl,aS,gG];have b:0<=(y - 48)*10 ^ l.length:=Int.mul_nonneg (by omega) (by omega);have a:(y - 48)*10 ^ l.length<=9*10 ^ l.length:=M9 (by omega) (by omega);omega
theorem O7 {y z:Int} {a b:List Int} (e:a.length=b.length) (g:digl a) (f:digl b) (h:y<z):vl (y::a)<vl (z::b):=by
 have i:=tZ g;have c:=tZ f;have hp:=rX a.length;simp only [vl];rw [<-e] at c ⊢;have d:(y - 48+1)*10 ^ a.length<=(z - 48)*10 ^ a.length:=M9 (by omega) (by omega);rw [Int.add_mul] at d;omega
theorem yn:∀{l:List Int},digl l->fval 0 l=vl l
 | [],_=>rfl
 | y::l,h=>by
  have hy:=h y (by simp);have e:fval 0 (y::l)=l.foldl (λn y=>10*n+fd 0 y) (10*0+fd 0 y):=rfl;have a:fd 0 y=y - 48:=by unfold fd;rw [ab (by omega)]
  rw [e,zd,yn (cQ h),a];simp only [vl,Int.mul_zero,Int.zero_add]
theorem I8 {l:List Int} {y:Int} (h:digl (l++[y])):vl (l++[y])=10*vl l+(y - 48):=by
 have hy:=h y (by simp);have a:digl l:=λx hx=>h x (by simp [hx]);rw [<-yn h,<-yn a,vF];unfold fd;rw [ab (by omega)]
theorem Lu:∀(L:Nat) (k:Int),0<=k->k<10 ^ L->vl (dg L k)=k
 | 0,k,c,a=>by simp at a;simp [dg,vl];omega
 | L+1,k,c,a=>by
  rw [gG] at a;have:=Lu L (k / 10) (by omega) (by omega);have b:=rB (L+1) k;simp only [dg] at b ⊢;rw [I8 b,this];omega
theorem To {l:List Int} (h:digl l):dg l.length (vl l)=l:=by
 have c:∀(r:List Int),digl r.reverse->dg r.length (vl r.reverse)=r.reverse:=by
  intro r
  induction r with
  | nil=>intro _;rfl
  | cons y r ih=>
   intro h;simp only [List.reverse_cons,aS] at h ⊢;have hy:=h y (by simp);rw [I8 h];simp only [dg];have b:(10*vl r.reverse+(y - 48)) / 10=vl r.reverse:=by omega
   have a:48+(10*vl r.reverse+(y - 48))%10=y:=by omega
   rw [b,a,ih λx hx=>h x (kA.2 (.inl hx))]
 have:=c l.reverse (by rw [vH];exact h);rwa [vH,sO] at this
def fst (up:Bool):Int:=cond up 48 57
def lst (up:Bool):Int:=cond up 57 48
def stp (up:Bool) (y:Int):Int:=cond up (y+1) (y - 1)
def fil (up:Bool) (m:aa):List Int:=m.map λc=>cond (decide (c=88)) (fst up) ((c.toNat:Nat):Int)
def nx (up:Bool):aa->List Int->Option (List Int)
 | c::m,y::l=>
  if c=88 then
   match nx up m l with
   | some r=>some (y::r)
   | none=>if y=lst up then none else some (stp up y::fil up m)
  else if ((c.toNat:Nat):Int)=y then (nx up m l).map λr=>y::r
  else if decide (((c.toNat:Nat):Int)>y)=up then some (((c.toNat:Nat):Int)::fil up m) else none
 | _,_=>some []
def okM (m:aa):Prop:=∀c∈m,okB c=true
theorem pK {c:UInt8} {m:aa} (h:okM (c::m)):okM m:=λx hx=>h x (gP _ hx)
theorem EK {c:UInt8} (h:okB c=true) (a:¬c=88):48<=((c.toNat:Nat):Int)/\((c.toNat:Nat):Int)<58:=by
 simp only [okB,gC,bU,ay,cj] at h;have:¬c.toNat=88:=λe=>a (jf.1 (by simpa using e));omega
theorem ya (up:Bool) (m:aa):(fil up m).length=m.length:=by simp [fil]
theorem Hf (up:Bool) {m:aa} (h:okM m):digl (fil up m):=by
 intro y hy;obtain ⟨c,hc,rfl⟩:=dr.1 hy;by_cases a:c=88
 ·simp only [ar a,aj];cases up<;>simp [fst]
 ·simp only [aq a,ae];exact EK (h c hc) a
theorem uy (up:Bool):∀(m:aa),iE m (fil up m)=true
 | []=>rfl
 | c::m=>by
  have:=uy up m;simp only [fil,fa,iE] at this ⊢;rw [this];by_cases a:c=88
  ·simp [a]
  ·simp [a]
def dV (up:Bool) (a b:Int):Prop:=match up with | true=>a<=b | false=>b<=a
theorem xX (up:Bool):∀{m:aa} {e:List Int},okM m->m.length=e.length->digl e->iE m e=true->dV up (vl (fil up m)) (vl e)
 | [],[],_,_,_,_=>by cases up<;>simp [fil,vl,dV]
 | c::m,y::e,l,i,j,k=>by
  simp only [aS,vY] at i;simp only [iE,ay,gC,bU,cj] at k;have ih:=xX up (pK l) i (cQ j) k.2;have hy:=j y (by simp);have f:=ya up m;have n:=Hf up (pK l);have a:∀z:Int,vl (z::fil up m)=(z - 48)*10 ^ m.length+vl (fil up m):=λz=>by rw [vl,f]
  have g:fil up (c::m)=(cond (decide (c=88)) (fst up) ((c.toNat:Nat):Int))::fil up m:=rfl;rw [g];by_cases d:c=88
  ·simp only [ar d,aj];by_cases b:y=fst up
   ·rw [<-b,a,vl,<-i];cases up<;>simp only [dV] at ih ⊢<;>omega
   ·cases up
    ·exact Int.le_of_lt (O7 (by rw [f,i]) (cQ j) n (by simp [fst] at b ⊢;omega))
    ·exact Int.le_of_lt (O7 (by rw [f,i]) n (cQ j) (by simp [fst] at b ⊢;omega))
  ·simp only [aq d,ae];rw [k.1.resolve_left d,a,vl,<-i];cases up<;>simp only [dV] at ih ⊢<;>omega
 | [],_::_,_,h,_,_=>by simp at h
 | _::_,[],_,h,_,_=>by simp at h
theorem NG (up:Bool):∀{m:aa} {l:List Int},okM m->m.length=l.length->digl l->
  match nx up m l with
  | some r=>r.length=m.length/\digl r/\iE m r=true/\dV up (vl l) (vl r)/\∀e,e.length=m.length->digl e->iE m e=true->dV up (vl l) (vl e)->dV up (vl r) (vl e)
  | none=>∀e,e.length=m.length->digl e->iE m e=true->¬dV up (vl l) (vl e)
 | [],[],_,_,_=>by
  simp only [nx];refine ⟨rfl,by intro y hy;simp at hy,rfl,by cases up<;>simp [dV],?_⟩;intro e E _ _ _;simp only [bg] at E;rw [uu E];cases up<;>simp [dV]
 | c::m,y::l,M,s,Q=>by
  simp only [aS,vY] at s;have ih:=NG up (pK M) s (cQ Q);have hy:=Q y (by simp);have x:=cQ Q;have t:=ya up m;have B:=Hf up (pK M);have L:∀{z w:Int} {a b:List Int},a.length=m.length->b.length=m.length->digl a->digl b->z<w->vl (z::a)<vl (w::b):=λE J N O U=>O7 (by rw [E,J]) N O U;have d:∀(z:Int) {a b:List Int},a.length=m.length->b.length=m.length->(dV up (vl (z::a)) (vl (z::b))↔dV up (vl a) (vl b)):=λz a b E J=>by
   simp only [vl,E,J];cases up<;>simp only [dV]<;>omega
  have q:∀{z w:Int} {a b:List Int},a.length=m.length->b.length=m.length->digl a->digl b->z≠w->(dV up (vl (z::a)) (vl (w::b))↔dV up z w):=λ{z w a b} E J N O U=>by
   rcases Int.lt_trichotomy z w with h | h | h
   ·have:=L E J N O h;cases up<;>simp only [dV]<;>omega
   ·exact absurd h U
   ·have:=L J E O N h;cases up<;>simp only [dV]<;>omega
  have f:∀e:List Int,e.length=(c::m).length->∃w a,e=w::a/\a.length=m.length:=λe h=>by
   match e,h with
   | w::a,h=>exact ⟨w,a,rfl,by simpa using h⟩
  by_cases g:c=88
  ·cases C:nx up m l with
   | some r=>
    rw [C] at ih;obtain ⟨H,P,R,T,V⟩:=ih;simp only [nx,ad g,C];refine ⟨by simp [H],λz u=>?_,by simp [iE,g,R],(d y s.symm H).2 T,λe A j p o=>?_⟩
    ·rcases cA.1 u with rfl | u
     ·exact hy
     ·exact P z u
    ·obtain ⟨w,a,rfl,i⟩:=f e A;simp only [iE,g,vu,ER,lZ] at p;by_cases D:y=w
     ·subst D;exact (d y H i).2 (V a i (cQ j) p ((d y s.symm i).1 o))
     ·exact (q H i P (cQ j) D).2 ((q s.symm i x (cQ j) D).1 o)
   | none=>
    rw [C] at ih;by_cases k:y=lst up
    ·simp only [nx,ad g,C,ad k];intro e A j p o;obtain ⟨w,a,rfl,i⟩:=f e A;simp only [iE,g,vu,ER,lZ] at p;have hw9:=j w (by simp);by_cases D:y=w
     ·subst D;exact ih a i (cQ j) p ((d y s.symm i).1 o)
     ·have:=(q s.symm i x (cQ j) D).1 o;cases up<;>simp only [dV,lst,aj,ae] at this k<;>omega
    ·simp only [nx,ad g,C,ab k];have hs:48<=stp up y/\stp up y<58/\y≠stp up y/\dV up y (stp up y)/\∀w,w≠y->dV up y w->dV up (stp up y) w:=by
      cases up<;>simp only [dV,lst,stp,aj,ae] at k ⊢<;>exact ⟨by omega,by omega,by omega,by omega,λw E J=>by omega⟩
     obtain ⟨Z,W,Y,s4,s5⟩:=hs;refine ⟨by simp [t],λz u=>?_,by simp [iE,g,uy],(q s.symm t x B Y).2 s4,λe A j p o=>?_⟩
     ·rcases cA.1 u with rfl | u
      ·exact ⟨Z,W⟩
      ·exact B z u
     ·obtain ⟨w,a,rfl,i⟩:=f e A;simp only [iE,g,vu,ER,lZ] at p;by_cases D:y=w
      ·subst D;exact absurd ((d y s.symm i).1 o) (ih a i (cQ j) p)
      ·have X:=s5 w (λh=>D h.symm) ((q s.symm i x (cQ j) D).1 o);by_cases K:stp up y=w
       ·rw [K];exact (d w t i).2 (xX up (pK M) i.symm (cQ j) p)
       ·exact (q t i B (cQ j) K).2 X
  ·have S:=EK (M c (by simp)) g;have G:∀w a,iE (c::m) (w::a)=true->w=((c.toNat:Nat):Int)/\iE m a=true:=λw a h=>by
    simp only [iE,ay,gC,bU,cj] at h;exact ⟨(h.1.resolve_left g).symm,h.2⟩
   by_cases n:((c.toNat:Nat):Int)=y
   ·cases C:nx up m l with
    | some r=>
     rw [C] at ih;obtain ⟨H,P,R,T,V⟩:=ih;simp only [nx,ab g,ad n,C,ee];refine ⟨by simp [H],λz u=>?_,by simp [iE,n,R],(d y s.symm H).2 T,λe A j p o=>?_⟩
     ·rcases cA.1 u with rfl | u
      ·exact hy
      ·exact P z u
     ·obtain ⟨w,a,rfl,i⟩:=f e A;obtain ⟨rfl,v⟩:=G w a p;rw [n] at o ⊢;exact (d y H i).2 (V a i (cQ j) v ((d y s.symm i).1 o))
    | none=>
     rw [C] at ih;simp only [nx,ab g,ad n,C,gN];intro e A j p o;obtain ⟨w,a,rfl,i⟩:=f e A;obtain ⟨rfl,v⟩:=G w a p;rw [n] at o;exact ih a i (cQ j) v ((d y s.symm i).1 o)
   ·have I:decide (((c.toNat:Nat):Int)>y)=up↔dV up y ((c.toNat:Nat):Int):=by
     cases up
     ·simp only [vT,dV];omega
     ·simp only [cj,dV];omega
    by_cases F:decide (((c.toNat:Nat):Int)>y)=up
    ·simp only [nx,ab g,ab n,ad F];refine ⟨by simp [t],λz u=>?_,by simp [iE,uy],(q s.symm t x B (λh=>n h.symm)).2 (I.1 F),λe A j p o=>?_⟩
     ·rcases cA.1 u with rfl | u
      ·exact S
      ·exact B z u
     ·obtain ⟨w,a,rfl,i⟩:=f e A;obtain ⟨rfl,v⟩:=G w a p;exact (d _ t i).2 (xX up (pK M) i.symm (cQ j) v)
    ·simp only [nx,ab g,ab n,ab F];intro e A j p o;obtain ⟨w,a,rfl,i⟩:=f e A;obtain ⟨rfl,v⟩:=G w a p;exact F (I.2 ((q s.symm i x (cQ j) (λh=>n h.symm)).1 o))
 | [],_::_,_,h,_=>by simp at h
 | _::_,[],_,h,_=>by simp at h
def ap:aa->List Int->Nat
 | c::m,y::l=>if c=88\/((c.toNat:Nat):Int)=y then ap m l+1 else 0
 | _,_=>0
theorem QV:∀(m:aa) (l:List Int),ap m l<=m.length
 | [],_=>by simp [ap]
 | c::m,[]=>by simp [ap]
 | c::m,y::l=>by
  have:=QV m l;simp only [ap,aS];split<;>omega
theorem HM:∀(m:aa) (l:List Int),iE (m.take (ap m l)) (l.take (ap m l))=true
 | [],_=>by simp [ap,iE]
 | c::m,[]=>by simp [ap,iE]
 | c::m,y::l=>by
  have:=HM m l;simp only [ap];split
  ·rename_i h;simp only [oP,iE,this,xc,gC,bU,cj];exact h
  ·rfl
theorem IY:∀{m:aa} {l:List Int} {c:UInt8} {y:Int},m[ap m l]?=some c->l[ap m l]?=some y->¬c=88/\¬((c.toNat:Nat):Int)=y
 | [],_,c,y,h,_=>by simp at h
 | x::m,[],c,y,_,h=>by simp at h
 | x::m,z::l,c,y,b,a=>by
  by_cases h:x=88\/((x.toNat:Nat):Int)=z
  ·simp only [ap,ad h,Ed] at b a;exact IY b a
  ·simp only [ap,ab h,kb,am] at b a;subst b a;exact ⟨λe=>h (.inl e),λe=>h (.inr e)⟩
def bkn (up:Bool):aa->List Int->aa->Option (List Int)
 | c::m,y::d,m'=>
  match bkn up m d m' with
  | some r=>some (y::r)
  | none=>if c=88/\y≠lst up then some (stp up y::fil up (m++m')) else none
 | _,_,_=>none
theorem AS (up:Bool):∀{m m':aa} {d d':List Int},m.length=d.length->iE m d=true->
  nx up (m++m') (d++d')=match nx up m' d' with | some r=>some (d++r) | none=>bkn up m d m'
 | [],m',[],d',_,_=>by
  simp only [ij];cases nx up m' d'<;>rfl
 | c::m,m',y::d,d',e,b=>by
  simp only [aS,vY] at e;simp only [iE,ay,gC,bU,cj] at b;have ih:=AS up (m':=m') (d':=d') e b.2;simp only [ki,nx,ih,bkn];by_cases a:c=88
  ·simp only [ad a];cases nx up m' d' with
   | some r=>rfl
   | none=>
    cases bkn up m d m' with
    | some r=>rfl
    | none=>
     by_cases hy:y=lst up
     ·simp [hy]
     ·simp [hy,a]
  ·simp only [ab a,ad (b.1.resolve_left a)];cases nx up m' d' with
   | some r=>rfl
   | none=>
    cases bkn up m d m' with
    | some r=>rfl
    | none=>simp [a]
 | [],_,_::_,_,h,_=>by simp at h
 | _::_,_,[],_,h,_=>by simp at h
theorem Fq (up:Bool) (c:UInt8) (y:Int):∀{m m':aa} {d:List Int},m.length=d.length->
  bkn up (m++[c]) (d++[y]) m'=if c=88/\y≠lst up then some (d++stp up y::fil up m') else bkn up m d (c::m')
 | [],m',[],_=>by simp [bkn]
 | x::m,m',z::d,a=>by
  simp only [aS,vY] at a;have ih:=Fq up c y (m':=m') a;simp only [ki,bkn,ih];by_cases h:c=88/\y≠lst up
  ·simp only [ad h]
  ·simp only [ab h,uj,ki,ij]
 | [],_,_::_,h=>by simp at h
 | _::_,_,[],h=>by simp at h
def bki (up:Bool) (m:aa) (l:List Int):Nat->Option Nat
 | 0=>none
 | j+1=>if m[j]?=some 88/\l[j]?≠some (lst up) then some j else bki up m l j
theorem MK (up:Bool) (m:aa) (l:List Int):∀{j a:Nat},bki up m l j=some a->a<j
 | 0,a,h=>by simp [bki] at h
 | j+1,a,h=>by
  simp only [bki] at h;split at h
  ·simp only [am] at h;omega
  ·have:=MK up m l h;omega
theorem Es (up:Bool) (m:aa) (l:List Int) (e:m.length=l.length):∀j,j<=m.length->
  bkn up (m.take j) (l.take j) (m.drop j)=(bki up m l j).map λa=>l.take a++stp up (l.getD a 0)::fil up (m.drop (a+1))
 | 0,_=>by simp [bkn,bki]
 | j+1,h=>by
  obtain ⟨c,hc⟩:∃c,m[j]?=some c:=⟨m[j]'(by omega),bH (by omega)⟩;obtain ⟨y,hy⟩:∃c,l[j]?=some c:=⟨l[j]'(by omega),bH (by omega)⟩;have ih:=Es up m l e j (by omega);rw [kM hc] at ih;rw [nT,nT,hc,hy];simp only [Option.toList_some];rw [Fq up c y (by simp;omega),ih];have d:l.getD j 0=y:=by rw [E3,hy];rfl
  simp only [bki,hc,hy,ne_eq,am];by_cases b:c=88/\¬y=lst up
  ·rw [ad b,ad b,ee,d]
  ·rw [ab b,ab b]
section
variable {m:List UInt8} {l z:List Int}
theorem kO (A:m.length=l.length) (v:m.length<=18) (k f g:Int) (up:Bool):
  aw (eC 20000000) 20000000 (m,k,up,f,g,0,over z 0 l,over z 0 l)=some (m,k,up,f,g,((ap m l:Nat):Int),over z 0 l,over z 0 l):=by
 have:=gv (step:=eC 20000000) (λx=>x.1=m/\(0<=x.2.2.2.2.2.1/\x.2.2.2.2.2.1<=m.length)/\x.2.2.2.2.2.2.1=over z 0 l) (λx=>m.length - x.2.2.2.2.2.1.toNat)
  (λx=>(x.1,x.2.1,x.2.2.1,x.2.2.2.1,x.2.2.2.2.1,x.2.2.2.2.2.1+((ap (m.drop x.2.2.2.2.2.1.toNat) (l.drop x.2.2.2.2.2.1.toNat):Nat):Int),x.2.2.2.2.2.2.1,x.2.2.2.2.2.2.2)) ?_ 20000000 (m,k,up,f,g,0,over z 0 l,over z 0 l) ⟨rfl,⟨by simp,by simp⟩,rfl⟩ (by simp;omega)
 ·simpa using this
 rintro ⟨m',k,up,f,g,i,d,o⟩ ⟨r,⟨u,hi⟩,s⟩;simp only at r u hi s ⊢;subst r s;obtain ⟨j,rfl⟩:∃j:Nat,i=j:=⟨i.toNat,by omega⟩;simp only [bY];rcases aH j m'.length with n | p
 ·obtain ⟨c,hc⟩:∃c,m'[j]?=some c:=⟨m'[j],bH n⟩;obtain ⟨y,hy⟩:∃c,l[j]?=some c:=⟨l[j]'(by omega),bH (by omega)⟩;have w:(over z 0 l)[j]?=some y:=by rw [tN (by omega)];exact hy
  have q:(decide ((j:Int)<((List.length m':Nat):Int)))=true:=by simp;omega
  have t:IntKind.wrap .i64 ((j:Int)+1)=((j+1:Nat):Int):=by rw [wrap_i64 _ (by omega) (by omega)];omega
  rw [kM hc,kM hy];simp only [eC,q,aj,lr hc,ob,yB,t,di (show j<18 by omega),w,ap];by_cases a:c=88
  ·refine .inl ⟨(m',k,up,f,g,((j+1:Nat):Int),over z 0 l,o),by simp only [ar a,aj],⟨rfl,⟨by simp only;omega,by simp only;omega⟩,rfl⟩,by simp only [bY];omega,?_⟩;simp only [bY,ad (show c=88\/((c.toNat:Nat):Int)=y from .inl a)];congr 6;omega
  ·simp only [aq a,ae];by_cases b:((c.toNat:Nat):Int)=y
   ·have e:(((c.toNat:Nat):Int)==y)=true:=by simpa using b
    refine .inl ⟨(m',k,up,f,g,((j+1:Nat):Int),over z 0 l,o),by simp only [e,aj],⟨rfl,⟨by simp only;omega,by simp only;omega⟩,rfl⟩,by simp only [bY];omega,?_⟩;simp only [bY,ad (show c=88\/((c.toNat:Nat):Int)=y from .inr b)];congr 6;omega
   ·have e:(((c.toNat:Nat):Int)==y)=false:=by simpa using b
    refine .inr ?_;simp only [e,ae,ab (show ¬(c=88\/((c.toNat:Nat):Int)=y) from λh=>h.elim a b),Int.ofNat_zero,Int.add_zero,Int.natCast_zero]
 ·have q:(decide ((j:Int)<((List.length m':Nat):Int)))=false:=by simp;omega
  refine .inr ?_;simp only [eC,q,ae];rw [rl p];simp [ap]
theorem HJ (A:m.length=l.length) (t:m.length<=18) (f:Int) (up:Bool) (o:List Int) (i:Nat) (hi:i<=m.length):
  aw (bZ 20000000) 20000000 (m,up,f,lst up,(i:Int),over z 0 l,o) =
   some (match bki up m l i with | none=>.inl (0,16) | some a=>.inr (m,up,f,((a:Nat):Int),o)):=by
 have:=gv (step:=bZ 20000000) (λx=>x.1=m/\x.2.2.2.1=lst up/\(0<=x.2.2.2.2.1/\x.2.2.2.2.1<=m.length)/\x.2.2.2.2.2.1=over z 0 l) (λx=>x.2.2.2.2.1.toNat)
  (λx=>match bki up m l x.2.2.2.2.1.toNat with | none=>.inl (0,16) | some a=>.inr (x.1,x.2.1,x.2.2.1,((a:Nat):Int),x.2.2.2.2.2.2)) ?_ 20000000 (m,up,f,lst up,(i:Int),over z 0 l,o) ⟨rfl,rfl,⟨by simp only;omega,by simp only;omega⟩,rfl⟩ (by simp;omega)
 ·simpa using this
 rintro ⟨m',n,f,g,i,d,o⟩ ⟨q,p,⟨s,hi⟩,r⟩;simp only at q p s hi r ⊢;subst q r p;obtain ⟨j,rfl⟩:∃j:Nat,i=j:=⟨i.toNat,by omega⟩;simp only [bY];rcases j with _ | j
 ·refine .inr ?_;have w:IntKind.wrap .i64 (((0:Nat):Int) - 1)=-1:=wrap_i64 _ (by omega) (by omega);simp only [bZ,w,show decide ((-1:Int)<0)=true from rfl,aj,bki]
 ·have w:IntKind.wrap .i64 (((j+1:Nat):Int) - 1)=(j:Int):=by rw [wrap_i64 _ (by omega) (by omega)];omega
  have v:decide ((j:Int)<0)=false:=by simp
  obtain ⟨c,hc⟩:∃c,m'[j]?=some c:=⟨m'[j]'(by omega),bH (by omega)⟩;obtain ⟨y,hy⟩:∃c,l[j]?=some c:=⟨l[j]'(by omega),bH (by omega)⟩;have u:(over z 0 l)[j]?=some y:=by rw [tN (by omega)];exact hy
  simp only [bZ,w,v,ae,lr hc,ob,yB,di (show j<18 by omega),u,bki,hc,hy,am,ne_eq];by_cases b:c=88
  ·by_cases k:y=lst up
   ·have e:(y != lst up)=false:=by simpa using k
    refine .inl ⟨(m',n,f,lst up,(j:Int),over z 0 l,o),by simp only [ar b,aj,e,ae],⟨rfl,rfl,⟨by simp only;omega,by simp only;omega⟩,rfl⟩,by simp only [bY];omega,?_⟩;simp only [bY,ab (show ¬(c=88/\¬y=lst up) from λh=>h.2 k)]
   ·have e:(y != lst up)=true:=by simpa using k
    refine .inr ?_;simp only [ar b,aj,e,ad (show c=88/\¬y=lst up from ⟨b,k⟩)]
  ·refine .inl ⟨(m',n,f,lst up,(j:Int),over z 0 l,o),by simp only [aq b,ae],⟨rfl,rfl,⟨by simp only;omega,by simp only;omega⟩,rfl⟩,by simp only [bY];omega,?_⟩;simp only [bY,ab (show ¬(c=88/\¬y=lst up) from λh=>b h.1)]
theorem AM (s:m.length<=18) (up:Bool) (d:List Int) (e:d.length=18) (i:Nat) (hi:i<=m.length):
  aw (bi 20000000) 20000000 (m,fst up,(i:Int),d)=some (m,over d i (fil up (m.drop i))):=by
 have:=gv (step:=bi 20000000) (λx=>x.1=m/\x.2.1=fst up/\(0<=x.2.2.1/\x.2.2.1<=m.length)/\x.2.2.2.length=18) (λx=>m.length - x.2.2.1.toNat)
  (λx=>(m,over x.2.2.2 x.2.2.1.toNat (fil up (m.drop x.2.2.1.toNat)))) ?_ 20000000 (m,fst up,(i:Int),d) ⟨rfl,rfl,⟨by simp only;omega,by simp only;omega⟩,e⟩ (by simp;omega)
 ·simpa using this
 rintro ⟨m',f,i,d⟩ ⟨n,l,⟨r,hi⟩,e⟩;simp only at n l r hi e ⊢;subst n l;obtain ⟨j,rfl⟩:∃j:Nat,i=j:=⟨i.toNat,by omega⟩;simp only [bY];rcases aH j m'.length with g | h
 ·obtain ⟨c,hc⟩:∃c,m'[j]?=some c:=⟨m'[j],bH g⟩;have o:j<18:=by omega
  have k:(decide ((j:Int)<((List.length m':Nat):Int)))=true:=by simp;omega
  have q:IntKind.wrap .i64 ((j:Int)+1)=((j+1:Nat):Int):=by rw [wrap_i64 _ (by omega) (by omega)];omega
  have p:Nat.blt j 18=true:=cU o;have b:∀c:UInt8,fil up (c::m'.drop (j+1))=(cond (decide (c=88)) (fst up) ((c.toNat:Nat):Int))::fil up (m'.drop (j+1)):=λ_=>rfl;rw [kM hc,b];simp only [bi,k,aj,lr hc,ob,yB,di o,p,q];by_cases a:c=88
  ·refine .inl ⟨(m',fst up,((j+1:Nat):Int),(d.set j ((c.toNat:Nat):Int)).set j (fst up)),by simp only [ar a,aj],⟨rfl,rfl,⟨by simp only;omega,by simp only;omega⟩,by simpa using e⟩,by simp only [bY];omega,?_⟩;simp only [bY,ar a,aj];rw [List.set_set,yN _ _ _ _ (by omega)]
  ·refine .inl ⟨(m',fst up,((j+1:Nat):Int),d.set j ((c.toNat:Nat):Int)),by simp only [aq a,ae],⟨rfl,rfl,⟨by simp only;omega,by simp only;omega⟩,by simpa using e⟩,by simp only [bY];omega,?_⟩;simp only [bY,aq a,ae];rw [yN _ _ _ _ (by omega)]
 ·have k:(decide ((j:Int)<((List.length m':Nat):Int)))=false:=by simp;omega
  refine .inr ?_;simp only [bi,k,ae];rw [rl h];simp [fil,Ep]
theorem AD (z l F:List Int) (i:Nat) (h:i+F.length=l.length):over (over z 0 l) i F=over z 0 (l.take i++F):=by
 unfold over;simp only [mI,ij,cV,bB,dx,qL (show i<=l.length by omega),h];rw [sj (by omega),List.drop_append_of_le_length (by omega),List.drop_of_length_le (aW l.length)];simp
end
theorem Jx {m:aa} (hm:chk m=0) (up:Bool) (k:Int) (W:0<=k) (h1:k<10 ^ m.length):
  cR 20000000 m k up=some (match nx up m (dg m.length k) with | some r=>(vl r,0) | none=>(0,16)):=by
 obtain ⟨g,_,K⟩:=mh hm;have hp:=AQ m.length g;have f:=uq m.length k;have o:=rB m.length k;have U:=Lu m.length k W h1;have L:=NG up K f.symm o;have j:=Mc m k g W (by omega);generalize dg m.length k=l at f o U L j ⊢;have n:(over [0,0,0,0,0,0,0,0,0,0,0,0,0,0,0,0,0,0] 0 l).length=18:=by rw [Lp _ _ _ (by simp;omega)];rfl
 have A:∀r:List Int,nx up m l=some r->fi 20000000 m (over [0,0,0,0,0,0,0,0,0,0,0,0,0,0,0,0,0,0] 0 r)=some (vl r):=by
  intro r hr;rw [hr] at L;obtain ⟨i1,T,_⟩:=L;rw [Ks _ g i1 T,yn T]
 have x:=QV m l;have F:=HM m l;have b:=AS up (m:=m.take (ap m l)) (m':=m.drop (ap m l)) (d:=l.take (ap m l)) (d':=l.drop (ap m l)) (by simp;omega) F;rw [uG,uG] at b;have h:kB 20000000 m k=some (over [0,0,0,0,0,0,0,0,0,0,0,0,0,0,0,0,0,0] 0 l):=j;generalize Y:([0,0,0,0,0,0,0,0,0,0,0,0,0,0,0,0,0,0]:List Int)=z at n A h;rcases aH (ap m l) m.length with P | X
 ·obtain ⟨c,hc⟩:∃c,m[ap m l]?=some c:=⟨m[ap m l],bH P⟩;obtain ⟨y,hy⟩:∃c,l[ap m l]?=some c:=⟨l[ap m l]'(by omega),bH (by omega)⟩;obtain ⟨G,R⟩:=IY hc hy;have B:(over z 0 l)[ap m l]?=some y:=by rw [tN (by omega)];exact hy
  have s:(((ap m l:Nat):Int)==((List.length m:Nat):Int))=false:=by simp;omega
  have C:ap m l<18:=by omega
  have N:fil up (m.drop (ap m l))=((c.toNat:Nat):Int)::fil up (m.drop (ap m l+1)):=by
   rw [kM hc];simp [fil,G]
  have J:=Es up m l f.symm (ap m l) x;have H:nx up (m.drop (ap m l)) (l.drop (ap m l))=if decide (((c.toNat:Nat):Int)>y)=up then some (fil up (m.drop (ap m l))) else none:=by
   rw [N,kM hc,kM hy];simp only [nx,ab G,ab R]
  rw [H] at b;by_cases q:decide (((c.toNat:Nat):Int)>y)=up
  ·rw [ad q] at b;simp only at b;have u:=A _ b;rw [b];simp only [];rw [<-AD z l _ _ (by rw [ya,nh];omega)] at u;have E:=AM g up _ n (ap m l) x;cases up
   ·have i:=kO (z:=z) f.symm g k 57 48 false;have l2':aw (bi 20000000) 20000000 (m,57,((ap m l:Nat):Int),over z 0 l)=_:=E;simp only [cR,ko,aj,h,ob,i,s,ae,lr hc,di C,B,q,vu,eG,l2',u]
   ·have i:=kO (z:=z) f.symm g k 48 57 true;have l2':aw (bi 20000000) 20000000 (m,48,((ap m l:Nat):Int),over z 0 l)=_:=E;simp only [cR,eG,aj,h,ob,i,s,ae,lr hc,di C,B,q,vu,l2',u]
  ·rw [ab q] at b;simp only [J] at b;have p:(!(decide (((c.toNat:Nat):Int)>y)==up))=true:=by
    cases up<;>cases hh:decide (((c.toNat:Nat):Int)>y)<;>simp_all
   have t:=HJ (z:=z) f.symm g (fst up) up (over z 0 l) (ap m l) x;cases O:bki up m l (ap m l) with
   | none=>
    rw [O] at b t;simp only [gN] at b;rw [b];simp only [] at t ⊢;cases up
    ·have i:=kO (z:=z) f.symm g k 57 48 false;have l1':aw (bZ 20000000) 20000000 (m,false,57,48,((ap m l:Nat):Int),over z 0 l,over z 0 l)=_:=t;simp only [cR,ko,aj,h,ob,i,s,ae,lr hc,di C,B,p,l1']
    ·have i:=kO (z:=z) f.symm g k 48 57 true;have l1':aw (bZ 20000000) 20000000 (m,true,48,57,((ap m l:Nat):Int),over z 0 l,over z 0 l)=_:=t;simp only [cR,eG,aj,h,ob,i,s,ae,lr hc,di C,B,p,l1']
   | some a=>
    have ha:=MK up m l O;obtain ⟨w,M⟩:∃c,l[a]?=some c:=⟨l[a]'(by omega),bH (by omega)⟩;have D:(over z 0 l)[a]?=some w:=by rw [tN (by omega)];exact M
    have I:l.getD a 0=w:=by rw [E3,M];rfl
    have Z:=o w (dT M);have v:a<18:=by omega
    have S:Nat.blt a 18=true:=cU v;have V:IntKind.wrap .i64 ((a:Int)+1)=((a+1:Nat):Int):=by rw [wrap_i64 _ (by omega) (by omega)];omega
    rw [O] at b t;simp only [ee,I] at b;have u:=A _ b;rw [b];simp only [] at t ⊢;rw [<-AD z l _ _ (by rw [aS,ya,nh];omega),<-yN _ _ _ _ (by omega)] at u;have E:=AM g up ((over z 0 l).set a (stp up w)) (by simpa using n) (a+1) (by omega);cases up
    ·have i:=kO (z:=z) f.symm g k 57 48 false;have l1':aw (bZ 20000000) 20000000 (m,false,57,48,((ap m l:Nat):Int),over z 0 l,over z 0 l)=some (.inr (m,false,57,((a:Nat):Int),over z 0 l)):=t;have l2':aw (bi 20000000) 20000000 (m,57,((a+1:Nat):Int),(over z 0 l).set a (w - 1))=_:=E;have Q:IntKind.wrap .u8 (w - 1)=w - 1:=eY _ (by omega) (by omega);simp only [cR,ko,aj,h,ob,i,s,ae,lr hc,di C,B,p,l1',di v,D,S,V,Q,l2',u]
    ·have i:=kO (z:=z) f.symm g k 48 57 true;have l1':aw (bZ 20000000) 20000000 (m,true,48,57,((ap m l:Nat):Int),over z 0 l,over z 0 l)=some (.inr (m,true,48,((a:Nat):Int),over z 0 l)):=t;have l2':aw (bi 20000000) 20000000 (m,48,((a+1:Nat):Int),(over z 0 l).set a (w+1))=_:=E;have Q:IntKind.wrap .u8 (w+1)=w+1:=eY _ (by omega) (by omega);simp only [cR,eG,aj,h,ob,i,s,ae,lr hc,di C,B,p,l1',di v,D,S,V,Q,l2',u]
 ·have e:ap m l=m.length:=by omega
  rw [e,II,<-f,II,nU] at b;simp only [nx,tn] at b;have s:(((ap m l:Nat):Int)==((List.length m:Nat):Int))=true:=by rw [e];simp
  rw [b];simp only [U];cases up
  ·have i:=kO (z:=z) f.symm g k 57 48 false;simp only [cR,ko,aj,h,ob,i,s]
  ·have i:=kO (z:=z) f.symm g k 48 57 true;simp only [cR,eG,ae,h,ob,i,s,aj]
def near (up:Bool) (m:aa) (k:Int):Option Int->Prop
 | some R=>hasM m R=true/\dV up k R/\∀e,hasM m e=true->dV up k e->dV up R e
 | none=>∀e,hasM m e=true->¬dV up k e
def res (o:Option Int):Int×Int:=match o with | some r=>(r,0) | none=>(0,16)
theorem mD {m:aa} {e:Int} (h:hasM m e=true):(dg m.length e).length=m.length/\digl (dg m.length e)/\iE m (dg m.length e)=true/\vl (dg m.length e)=e/\0<=e/\e<10 ^ m.length:=by
 unfold hasM at h;simp only [ay,cj] at h;exact ⟨uq _ _,rB _ _,h.2.2,Lu _ _ h.1 h.2.1,h.1,h.2.1⟩
theorem Ov {m:aa} {r:List Int} (e:r.length=m.length) (b:digl r) (d:iE m r=true):hasM m (vl r)=true:=by
 have a:=tZ b;have c:=To b;rw [e] at a c;unfold hasM;rw [c,d,ar a.1,ar a.2];rfl
theorem vd {m:aa} (n:chk m=0) (up:Bool) (k:Int) (p:0<=k) (q:k<10 ^ m.length):∃o,cR 20000000 m k up=some (res o)/\near up m k o:=by
 obtain ⟨v,_,d⟩:=mh n;have a:=NG up d (uq m.length k).symm (rB m.length k);have g:=Lu m.length k p q;refine ⟨(nx up m (dg m.length k)).map vl,?_,?_⟩
 ·rw [Jx n up k p q];cases nx up m (dg m.length k)<;>rfl
 ·cases hx:nx up m (dg m.length k) with
  | none=>
   rw [hx] at a;intro e f j;obtain ⟨i,c,h,b,_⟩:=mD f;exact a _ i c h (by rw [g,b];exact j)
  | some r=>
   rw [hx] at a;obtain ⟨s,u,t,l,w⟩:=a;refine ⟨Ov s u t,by rw [g] at l;exact l,λe f j=>?_⟩;obtain ⟨i,c,h,b,_⟩:=mD f;have:=w _ i c h (by rw [g,b];exact j);rwa [b] at this
theorem Eb {m:aa} {e:Int} (h:hasM m e=true):0<=idx m.reverse e/\idx m.reverse e<10 ^ cnt m/\nth m.reverse (idx m.reverse e)=e:=by
 rw [Ce] at h;simp only [ay,cj] at h;obtain ⟨k0,k1,k2⟩:=h;have:=uT m.reverse e k0;rw [qC] at this;exact ⟨this.1,this.2,Ig k0 (by rw [sO];exact k1) k2⟩
section
variable {m:List UInt8} (hm:chk m=0)
include hm
theorem HI {i j:Int} (c:0<=i) (e:i<=j) (b:j<10 ^ cnt m):nth m.reverse i<=nth m.reverse j:=by
 obtain ⟨d,_,a⟩:=mh hm;rcases Int.lt_or_eq_of_le e with h | rfl
 ·exact Int.le_of_lt (yR (xg a) i j c h (by rw [qC];exact b))
 ·exact rZ _
theorem zW (k:Int):kW 20000000 m k=some (decide (0<=k/\k<10 ^ m.length)):=by
 obtain ⟨b,_,c⟩:=mh hm;simp only [kW,Lq m.length b,ob];by_cases a:0<=k
 ·have d0:decide (k>=0)=true:=by simpa using a
  simp only [d0,aj,a,jm,np]
 ·have d0:decide (k>=0)=false:=by simpa using a
  simp only [d0,ae,a,uh,ny]
theorem Gy (k:Int):∃o,pH 20000000 m k=some (res o)/\near true m k o:=by
 obtain ⟨n,_,a⟩:=mh hm;have p:((0:Int) != 0)=false:=by simp
 simp only [pH,kG 20000000 m (by omega),hm,ly,p,ae,zW hm];by_cases c:k<0
 ·refine ⟨some (nth m.reverse 0),by simp only [ar c,aj,Kp hm,ly,res],Ei hm (by omega),?_,λe b f=>?_⟩
  ·have:=(o7 (xg a) 0 (by omega)).1;simp only [dV];omega
  ·obtain ⟨q,g,r⟩:=Eb b;have:=HI hm (rZ 0) q g;simp only [dV];omega
 ·by_cases d:k<10 ^ m.length
  ·obtain ⟨o,j,l⟩:=vd hm true k (by omega) d;exact ⟨o,by simp only [aq c,ae,ar (show 0<=k/\k<10 ^ m.length from ⟨by omega,d⟩),eG,j,ly],l⟩
  ·refine ⟨none,by simp only [aq c,ae,aq (show ¬(0<=k/\k<10 ^ m.length) from λh=>d h.2),ko,aj,res],λe b f=>?_⟩;obtain ⟨_,_,_,_,_,i⟩:=mD b;simp only [dV] at f;omega
theorem Ik (k:Int):∃o,pO 20000000 m k=some (res o)/\near false m k o:=by
 obtain ⟨n,_,a⟩:=mh hm;have p:((0:Int) != 0)=false:=by simp
 simp only [pO,kG 20000000 m (by omega),hm,ly,p,ae,zW hm];by_cases c:k<0
 ·refine ⟨none,by simp only [ar c,aj,res],λe b f=>?_⟩;obtain ⟨_,_,_,_,i,_⟩:=mD b;simp only [dV] at f;omega
 ·by_cases d:k<10 ^ m.length
  ·obtain ⟨o,g,j⟩:=vd hm false k (by omega) d;exact ⟨o,by simp only [aq c,ae,ar (show 0<=k/\k<10 ^ m.length from ⟨by omega,d⟩),eG,g,ly],j⟩
  ·have l:=rX (cnt m);refine ⟨some (nth m.reverse (10 ^ cnt m - 1)),by simp only [aq c,ae,aq (show ¬(0<=k/\k<10 ^ m.length) from λh=>d h.2),ko,aj,CE hm,ly,res],Ei hm (by omega),?_,λe b f=>?_⟩
   ·have:=(o7 (xg a) (10 ^ cnt m - 1) (by omega)).2;rw [sO] at this;simp only [dV];omega
   ·obtain ⟨q,r,s⟩:=Eb b;have:=HI hm q (show idx m.reverse e<=10 ^ cnt m - 1 by omega) (by omega);simp only [dV];omega
end
end Go.Sh.Mk
namespace Go.Sh
open Go.Abs
def fitN (s:aa) (g:Nat):List Nat:=(List.range' 1 g).filter (agr s)
def rc (l:List Nat):List Int:=l.map λk:Nat=>(k:Int)
theorem AA (l:List Nat):(rc l).length=l.length:=by simp [rc]
theorem An (c:UInt8) {j:Nat} (a:j<10):(IntKind.wrap .i64 (IntKind.wrap .u8 (((c.toNat:Nat):Int) - 48))==((j:Nat):Int))=(c==UInt8.ofNat (48+j)):=by
 have hc:=c.toNat_lt;have b:=yZ (((c.toNat:Nat):Int) - 48);rw [wrap_i64 _ (by omega) (by omega),F3,Eg,bU,bU];have d:(UInt8.ofNat (48+j)).toNat=48+j:=by simp;omega
 constructor
 ·intro h;apply jf.1;omega
 ·rintro rfl;omega
theorem Hm (n:Nat) (a b:UInt8) {k:Nat} (l:k<=31):jG n [a,b] (k:Int)=some (agr [a,b] k):=by
 have j:IntKind.wrap .i64 (Int.tdiv (k:Int) 10)=((k / 10:Nat):Int):=by
  rw [show Int.tdiv (k:Int) 10=((k / 10:Nat):Int) from rfl,wrap_i64 _ (by omega) (by omega)]
 have d:Int.tmod (k:Int) 10=((k%10:Nat):Int):=rfl;have s0:sx [a,b] 0=some a:=rfl;have e:sx [a,b] 1=some b:=rfl;have c:(88:Int)=((88:Nat):Int):=rfl;unfold jG;simp only [s0,e,ob,j,d];rw [An a (show k / 10<10 by omega),An b (show k%10<10 by omega),c,tg (by omega),tg (by omega)];show _=some ((a==UInt8.ofNat 88||a==UInt8.ofNat (48+k / 10))&&(b==UInt8.ofNat 88||b==UInt8.ofNat (48+k%10)));generalize (a==UInt8.ofNat 88)=h;generalize (b==UInt8.ofNat 88)=g;generalize (a==UInt8.ofNat (48+k / 10))=f;generalize (b==UInt8.ofNat (48+k%10))=i;cases h<;>cases g<;>cases f<;>cases i<;>rfl
theorem room {k:Nat} (h:k<=60000000):Nat.ble (k+1) dE=true:=cU (by unfold dE;omega)
theorem Dl {X Y:Type} {step:X->Option (X⊕Y)} {f:Nat->List Int->X} {y:List Int->Y} {p:Nat->Bool} {g:Nat} (e:g<=1000)
  (h:∀i out,i<g->out.length<=1000->step (f i out)=some (.inl (f (i+1) (if p (i+1) then out++[((i+1:Nat):Int)] else out))))
  (d:∀out,step (f g out)=some (.inr (y out))) {N:Nat} (a:g<N):aw step N (f 0 [])=some (y (rc ((List.range' 1 g).filter p))):=by
 have c:∀(r i:Nat) (out:List Int),i+r=g->out.length<=i->∀N,r<N->aw step N (f i out)=some (y (out++rc ((List.range' (i+1) r).filter p))):=by
  intro r
  induction r with
  | zero=>
   intro i out hi b N a;obtain ⟨N,rfl⟩:∃q,N=q+1:=⟨N - 1,by omega⟩;obtain rfl:i=g:=by omega
   rw [aw,d];simp [rc]
  | succ r ih=>
   intro i out hi b N a;obtain ⟨N,rfl⟩:∃q,N=q+1:=⟨N - 1,by omega⟩;rw [aw,h i out (by omega) (by omega)];show aw step N _=_;by_cases hp:p (i+1)=true
   ·rw [ad hp,ih (i+1) _ (by omega) (by simp;omega) N (by omega),vI,Nv hp];simp [rc]
   ·rw [ab hp,ih (i+1) _ (by omega) (by omega) N (by omega),vI,NB hp]
 have:=c g 0 [] (by omega) (by simp) N a;simpa using this
theorem Jg (n:Nat) (j:100<n) (a b:UInt8) {g:Nat} (h:g<=31):dU n [a,b] (g:Int)=some (rc (fitN [a,b] g)):=by
 unfold dU
 have:=Dl (step:=eJ n) (f:=λi out=>([a,b],(g:Int),(i:Int),out)) (y:=λl=>l) (p:=agr [a,b]) (g:=g) (by omega)
  (λi out hi e=>by
   have d:IntKind.wrap .i64 ((i:Int)+1)=((i+1:Nat):Int):=by rw [wrap_i64 _ (by omega) (by omega)];omega
   unfold eJ;simp only [d];rw [ar (show (i:Int)<(g:Int) by omega),Hm n a b (by omega),room (by omega)];by_cases hp:agr [a,b] (i+1)=true
   ·rw [ad hp];simp only [ob,hp,aj]
   ·rw [ab hp];rw [EI] at hp;simp only [ob,hp,aj,ae])
  (λout=>by
   unfold eJ;simp only [aq (show ¬(g:Int)<(g:Int) by omega),ae])
  (N:=n) (by omega)
 have c:aw (eJ n) n ([a,b],(g:Int),0,([]:List Int))=_:=this;rw [c];rfl
def monI (m:aa):List Int:=if m=[] then [0] else if 0<sea m then [sea m] else rc (fitN m 12)
def dayI (d:aa):List Int:=if d=[] then [0] else rc (fitN d 31)
theorem eI {l:aa} (h:l≠[]):(l==([]:aa))=false:=aL.2 h
theorem len2 {s:aa} (h:s.length=2):∃a b,s=[a,b]:=by
 match s,h with
 | [a,b],_=>exact ⟨a,b,rfl⟩
theorem Tf (n:Nat) (k:100<n) (g l:Bool) (dg:aa) (x q:Int) (m d:aa) (k0 k1 k2:Int) (j:m=[]\/m.length=2) (o:d=[]\/d.length=2):
  nD n g l dg x q m d k0 k1 k2=some (g,l,dg,x,q,m,d,k0,k1,k2,monI m,dayI d):=by
 have i:m.length<=18:=by rcases j with h | h;(rw [h];simp);omega
 have f:d≠[]->dU n d 31=some (dayI d):=λh=>by
  obtain ⟨a,b,rfl⟩:=len2 (o.resolve_left h);rw [show (31:Int)=((31:Nat):Int) from rfl,Jg n k a b (by omega)];unfold dayI;rw [ab h]
 have c:d=[]->dayI d=[0]:=λh=>by unfold dayI;rw [ad h]
 have p:m≠[]->¬0<sea m->dU n m 12=some (monI m):=λh hs=>by
  obtain ⟨a,b,rfl⟩:=len2 (j.resolve_left h);rw [show (12:Int)=((12:Nat):Int) from rfl,Jg n k a b (by omega)];unfold monI;rw [ab h,ab hs]
 unfold nD;rw [rh n g l dg x q m d k0 k1 k2 i];simp only [ob];by_cases hs:0<sea m
 ·have e:m≠[]:=by rintro rfl;exact absurd hs (by decide)
  have hm':monI m=[sea m]:=by unfold monI;rw [ab e,ad hs]
  rw [ar hs];by_cases h:d=[]
  ·rw [h,<-h,c h,hm',h];rfl
  ·rw [eI h,f h,hm'];rfl
 ·rw [aq hs];by_cases e:m=[]
  ·have hm':monI m=[0]:=by unfold monI;rw [ad e]
   by_cases h:d=[]
   ·rw [c h,hm',h,e];rfl
   ·rw [eI h,f h,hm',e];rfl
  ·rw [eI e,p e hs];by_cases h:d=[]
   ·rw [c h,h];rfl
   ·rw [eI h,f h];rfl
theorem F6 (n:Nat) (b:100<n) (g l:Bool) (dg:aa) (x q:Int) (m d:aa) (k0 k1 k2:Int):iD n g l dg x q m d k0 k1 k2=some (monI m):=by
 unfold iD;by_cases a:m=[]
 ·unfold monI;rw [ad a,a];rfl
 ·rw [eI a,kF n b];simp only [ob,ae];unfold monI;rw [ab a];by_cases hs:0<sea m
  ·rw [ad hs,ar (show sea m>0 from hs)];rfl
  ·rw [ab hs,aq (show ¬sea m>0 from hs)]
   have:=Dl (step:=db n) (f:=λi out=>(((i+1:Nat):Int),g,l,dg,x,q,m,d,k0,k1,k2,out)) (y:=λl=>l) (p:=agr m) (g:=12) (by omega)
    (λi out hi h=>by
     have c:IntKind.wrap .i64 (((i+1:Nat):Int)+1)=((i+1+1:Nat):Int):=by rw [wrap_i64 _ (by omega) (by omega)];omega
     unfold db;simp only [d4,d8,c];rw [ar (show ((i+1:Nat):Int)<=12 by omega),sE n m (i+1) (by omega),room (by omega)];by_cases hp:agr m (i+1)=true
     ·rw [ad hp,ad hp];rfl
     ·rw [ab hp,ab hp];rfl)
    (λout=>by
     unfold db;simp only [d4,d8,aq (show ¬((12+1:Nat):Int)<=12 by omega),ae])
    (N:=n) (by omega)
   have e:aw (db n) n (1,g,l,dg,x,q,m,d,k0,k1,k2,([]:List Int))=_:=this;rw [e];rfl
def qs (y:Int):Bool:=decide (y%4=0)&&(decide (y%100≠0)||decide (y%400=0))
def lenI (y m:Int):Int:=if m=4\/m=6\/m=9\/m=11 then 30 else if m=2 then (if qs y then 29 else 28) else 31
theorem JJ (y:Int) {b:Int} (c:0<b):(Int.tmod y b==0)=decide (y%b=0):=by
 rw [Eg,bU,decide_eq_true_iff];have h:=JD (a:=y) (b:=b);have g:=GK y (show b≠0 by omega);have f:=GO y c;by_cases hc:0<=y\/b∣y
 ·rw [ad hc] at h;omega
 ·rw [ab hc] at h;have d:¬b∣y:=λe=>hc (.inr e);have:y%b≠0:=λe=>d (H3 e);omega
theorem yD (n:Nat) (y m:Int):dB n y m=some (lenI y m):=by
 have a:(Int.tmod y 100 != 0)=decide (y%100≠0):=by
  rw [bne,JJ y (by omega)];by_cases h:y%100=0<;>simp [h]
 unfold dB;rw [JJ y (by omega),JJ y (by omega),a];have body:(cond (m==2) (cond (decide (y%4=0)) (cond (decide (y%100≠0)) (some (29:Int)) (cond (decide (y%400=0)) (some 29) (some 28))) (some 28)) (some 31))=some (if m=2 then (if qs y=true then 29 else 28) else 31):=by
  rw [iH];by_cases c:m=2
  ·rw [ad c,ad c];unfold qs;cases decide (y%4=0)<;>cases decide (y%100≠0)<;>cases decide (y%400=0)<;>rfl
  ·rw [ab c,ab c]
 rw [body];unfold lenI;by_cases f:m=4
 ·subst f;rfl
 ·by_cases e:m=6
  ·subst e;rfl
  ·by_cases d:m=9
   ·subst d;rfl
   ·by_cases b:m=11
    ·subst b;rfl
    ·rw [aL.2 f,aL.2 e,aL.2 d,aL.2 b,ab (show ¬(m=4\/m=6\/m=9\/m=11) by omega)];rfl
theorem uQ (n:Nat) {y:Int} (h:-20000000000000000<=y/\y<=20000000000000000):ef n y=some (1+(y - 1) / 4 - (y - 1) / 100+(y - 1) / 400):=by
 unfold ef;rw [wrap_i64 (y - 1) (by omega) (by omega),vt n (by omega) (by omega) (by omega) (by omega),vt n (by omega) (by omega) (by omega) (by omega),vt n (by omega) (by omega) (by omega) (by omega)];show some _=some _;have f:-5000000000000001<=(y - 1) / 4/\(y - 1) / 4<=5000000000000001:=by omega
 have d:-5000000000000001<=(y - 1) / 100/\(y - 1) / 100<=5000000000000001:=by omega
 have e:-5000000000000001<=(y - 1) / 400/\(y - 1) / 400<=5000000000000001:=by omega
 generalize (y - 1) / 4=a at *;generalize (y - 1) / 100=b at *;generalize (y - 1) / 400=c at *;simp only [];rw [wrap_i64 (1*a) (by omega) (by omega),wrap_i64 (-1*b) (by omega) (by omega),wrap_i64 (1*c) (by omega) (by omega),wrap_i64 (1+1*a) (by omega) (by omega),wrap_i64 (1+1*a+-1*b) (by omega) (by omega),wrap_i64 _ (by omega) (by omega)];congr 1;omega
theorem KH (y:Int):(1+y / 4 - y / 100+y / 400>1+(y - 1) / 4 - (y - 1) / 100+(y - 1) / 400)↔qs y=true:=by
 unfold qs;simp only [ay,gC,cj];omega
theorem NY (n:Nat) {y:Int} (h:dl y):jp n y=some (qs y,0):=by
 unfold jp;have h':=h;unfold dl at h';rw [fc,ad h,wrap_i64 (y+1) (by omega) (by omega),uQ n (by omega),uQ n (by omega),show y+1 - 1=y by omega];have b:=KH y;show some (decide (1+y / 4 - y / 100+y / 400>1+(y - 1) / 4 - (y - 1) / 100+(y - 1) / 400),(0:Int))=_;by_cases a:qs y=true
 ·rw [a,ar (b.2 a)]
 ·rw [EI] at a;rw [a,aq (λe=>by rw [b.1 e] at a;cases a)]
theorem uS (n:Nat) {y:Int} (h:dl y) {m:Nat} (d:1<=m) (c:m<=12):dC n y (m:Int)=some (lenI y (m:Int)):=by
 unfold dC;rw [NY n h];show cond (qs y&&((m:Int)==2)) _ _=_;have a:IntKind.wrap .i64 ((m:Int) - 1)=((m - 1:Nat):Int):=by rw [wrap_i64 _ (by omega) (by omega)];omega
 rw [a,di (show m - 1<12 by omega)];have b:m=1\/m=2\/m=3\/m=4\/m=5\/m=6\/m=7\/m=8\/m=9\/m=10\/m=11\/m=12:=by omega
 rcases b with rfl | rfl | rfl | rfl | rfl | rfl | rfl | rfl | rfl | rfl | rfl | rfl<;>unfold lenI<;>cases qs y<;>rfl
theorem Hr (n:Nat) {y:Int} (h:dl y) {m:Nat} (b:1<=m) (a:m<=12):mP n y (m:Int)=some (lenI y (m:Int),0):=by
 unfold mP;rw [DY n h b a,uS n h b a];rfl
theorem ir (y m:Int):28<=lenI y m/\lenI y m<=31:=by
 unfold lenI;split
 ·omega
 ·split
  ·split<;>omega
  ·omega
def tG (d:aa) (y m:Int):Int:=if d=[] then 0 else lenI y m
def s8 (d:aa) (y a:Int):List (Int×Int×Int):=((dayI d).filter λk=>decide (k<=tG d y a)).map λk=>(y,a,k)
def tD (m d:aa) (y:Int):List (Int×Int×Int):=(monI m).flatMap (s8 d y)
theorem Ip {X Y A:Type} {step:X->Option (X⊕Y)} {f:Nat->List A->X} {y:List A->Y} {p:Nat->Bool} {e:Nat->A} {g:Nat} (a:List A)
  (h:∀i out,i<g->out.length<=a.length+i->step (f i out)=some (.inl (f (i+1) (if p (i+1) then out++[e (i+1)] else out))))
  (j:∀out,step (f g out)=some (.inr (y out))) {N:Nat} (b:g<N):aw step N (f 0 a)=some (y (a++((List.range' 1 g).filter p).map e)):=by
 have d:∀(r i:Nat) (out:List A),i+r=g->out.length<=a.length+i->∀N,r<N->aw step N (f i out)=some (y (out++((List.range' (i+1) r).filter p).map e)):=by
  intro r
  induction r with
  | zero=>
   intro i out hi c N b;obtain ⟨N,rfl⟩:∃q,N=q+1:=⟨N - 1,by omega⟩;obtain rfl:i=g:=by omega
   rw [aw,j];simp
  | succ r ih=>
   intro i out hi c N b;obtain ⟨N,rfl⟩:∃q,N=q+1:=⟨N - 1,by omega⟩;rw [aw,h i out (by omega) (by omega)];show aw step N _=_;by_cases hp:p (i+1)=true
   ·rw [ad hp,ih (i+1) _ (by omega) (by simp;omega) N (by omega),vI,Nv hp];simp
   ·rw [ab hp,ih (i+1) _ (by omega) (by omega) N (by omega),vI,NB hp]
 exact d g 0 a (by omega) (by omega) N b
theorem Jf {X Y A B:Type} {step:X->Option (X⊕Y)} {f:Nat->List A->X} {y:List A->Y} {F:B->List A} {L:List B} {c:Nat} (hc:∀b∈L,(F b).length<=c)
  (h:∀i b out,L[i]?=some b->out.length<=c*i->step (f i out)=some (.inl (f (i+1) (out++F b))))
  (g:∀out,step (f L.length out)=some (.inr (y out))) {N:Nat} (a:L.length<N):aw step N (f 0 [])=some (y (L.flatMap F)):=by
 have e:∀(r i:Nat) (out:List A),i+r=L.length->out.length<=c*i->∀N,r<N->aw step N (f i out)=some (y (out++(L.drop i).flatMap F)):=by
  intro r
  induction r with
  | zero=>
   intro i out hi d N a;obtain ⟨N,rfl⟩:∃q,N=q+1:=⟨N - 1,by omega⟩;obtain rfl:i=L.length:=by omega
   rw [aw,g];simp
  | succ r ih=>
   intro i out hi d N a;obtain ⟨N,rfl⟩:∃q,N=q+1:=⟨N - 1,by omega⟩;have j:L[i]?=some L[i]:=bH (by omega);rw [aw,h i L[i] out j d];show aw step N _=_;have k:=hc L[i] (Ht _);rw [ih (i+1) _ (by omega) (by rw [bB,Nat.mul_add];omega) N (by omega),wK (show i<L.length by omega),m8,uj]
 have:=e L.length 0 [] (by omega) (by simp) N a;simpa using this
theorem NM (d:aa) (L:Nat) (h:L<=31):(rc (fitN d 31)).filter (λk=>decide (k<=(L:Int)))=rc ((List.range' 1 L).filter (agr d)):=by
 have hs:List.range' 1 31=List.range' 1 L++List.range' (1+L) (31 - L):=by
  have:=List.range'_append_1 (s:=1) (m:=L) (n:=31 - L);rw [this,show L+(31 - L)=31 by omega]
 unfold fitN rc;rw [hs,HT,BZ,HT];have e:(List.map (λk:Nat=>(k:Int)) (List.filter (agr d) (List.range' 1 L))).filter (λk=>decide (k<=(L:Int)))=List.map (λk:Nat=>(k:Int)) (List.filter (agr d) (List.range' 1 L)):=by
  rw [List.filter_eq_self];intro k b;obtain ⟨j,a,rfl⟩:=dr.1 b;have:=qM.1 (kw.1 a).1;exact ar (by omega)
 have c:(List.map (λk:Nat=>(k:Int)) (List.filter (agr d) (List.range' (1+L) (31 - L)))).filter (λk=>decide (k<=(L:Int)))=[]:=by
  rw [List.filter_eq_nil_iff];intro k b;obtain ⟨j,a,rfl⟩:=dr.1 b;have:=qM.1 (kw.1 a).1;simp only [cj];omega
 rw [e,c,tn]
theorem E4 (s:aa) (g:Nat):(fitN s g).length<=g:=by
 have:=D7 (agr s) (List.range' 1 g);rw [List.length_range'] at this;exact this
theorem Db (d:aa):(dayI d).length<=31:=by
 unfold dayI;split
 ·simp
 ·rw [AA];exact E4 d 31
theorem EL (m:aa):(monI m).length<=12:=by
 unfold monI;split
 ·simp
 ·split
  ·simp
  ·rw [AA];exact E4 m 12
theorem FU (d:aa) (y a:Int):(s8 d y a).length<=31:=by
 unfold s8;rw [sF];exact o6 (D7 _ _) (Db d)
theorem JB (y a:Int):s8 [] y a=[(y,a,0)]:=rfl
theorem Gi {d:aa} (h:d≠[]) (y a:Int):s8 d y a=((List.range' 1 (lenI y a).toNat).filter (agr d)).map λk:Nat=>(y,a,(k:Int)):=by
 have b:=ir y a;unfold s8 dayI tG;rw [ab h,ab h];have:=NM d (lenI y a).toNat (by omega);rw [show (((lenI y a).toNat:Nat):Int)=lenI y a by omega] at this;rw [this,rc,qu];rfl
theorem Gm (n:Nat) (v:100<n) (g l:Bool) (dg:aa) (x q:Int) (m d:aa) (k0 k1 k2 y:Int):
  jQ n g l dg x q m d k0 k1 k2 y=some (tD m d y):=by
 have A:=EL m;unfold jQ;rw [F6 n v];have:=Jf (step:=dL n) (f:=λi out=>(y,(i:Int),g,l,dg,x,q,m,d,k0,k1,k2,monI m,out)) (y:=λo=>o) (F:=s8 d y) (L:=monI m) (c:=31) (λb _=>FU d y b)
  (λi h out hi B=>by
   have a:i<(monI m).length:=(om.1 hi).1;have t:IntKind.wrap .i64 ((i:Int)+1)=((i+1:Nat):Int):=by rw [wrap_i64 _ (by omega) (by omega)];omega
   unfold dL;simp only [d4,d8,t];rw [ar (show (i:Int)<(((monI m).length:Nat):Int) by omega),di a];by_cases r:d=[]
   ·subst r;rw [JB];simp only [ob,hi,aj,room (show out.length<=60000000 by omega)];rfl
   ·rw [eI r];have C:=ir y h;have s:=Ip (step:=dK n) (f:=λj o=>(y,(i:Int),((j+1:Nat):Int),g,l,dg,x,q,m,d,k0,k1,k2,monI m,o)) (y:=λo=>(y,(i:Int),g,l,dg,x,q,m,d,k0,k1,k2,monI m,o)) (p:=agr d) (e:=λk=>(y,h,(k:Int))) (g:=(lenI y h).toNat) out
     (λj o D z=>by
      have u:IntKind.wrap .i64 (((j+1:Nat):Int)+1)=((j+1+1:Nat):Int):=by rw [wrap_i64 _ (by omega) (by omega)];omega
      unfold dK;simp only [d4,d8,u,di a,ob,hi,yD];rw [ar (show ((j+1:Nat):Int)<=lenI y h by omega),sE n d (j+1) (by omega),room (show o.length<=60000000 by omega)];by_cases hp:agr d (j+1)=true
      ·rw [ad hp,ad hp];rfl
      ·rw [ab hp,ab hp];rfl)
     (λo=>by
      unfold dK;simp only [d4,d8,di a,ob,hi,yD];rw [aq (show ¬(((lenI y h).toNat+1:Nat):Int)<=lenI y h by omega)];rfl)
     (N:=n) (by omega)
    have hin':aw (dK n) n (y,(i:Int),1,g,l,dg,x,q,m,d,k0,k1,k2,monI m,out)=_:=s;simp only [aj,ae];rw [hin',Gi r];simp only [ob,d4,d8,t])
  (λout=>by
   unfold dL;simp only [d4,d8];rw [aq (show ¬(((monI m).length:Nat):Int)<(((monI m).length:Nat):Int) by omega)];rfl)
  (N:=n) (by omega)
 have w:aw (dL n) n (y,0,g,l,dg,x,q,m,d,k0,k1,k2,monI m,([]:List (Int×Int×Int)))=_:=this;simp only [ob];rw [w];rfl
theorem R2 {a b c e:UInt8} (l:cM a=true\/a=88) (k:cM b=true\/b=88) (hc:cM c=true\/c=88) (j:cM e=true\/e=88) (w:Nat):
  mtk [a,b,c,e] 4 w=Mk.ag [e,c,b,a] (w:Int):=by
 have one:∀(z:UInt8) (v:Nat),(decide (z=88)||decide (z.toNat=48+v%10))=(decide (z=88)||decide (Mk.dv z=(v:Int)%10)):=by
  intro z v;have:(z.toNat=48+v%10)↔(Mk.dv z=(v:Int)%10):=by unfold Mk.dv;omega
  rw [qA.2 this]
 have d:∀v:Nat,(v:Int) / 10=((v / 10:Nat):Int):=λv=>by omega
 show ((decide (e=88)||decide (e.toNat=48+w%10))&&((decide (c=88)||decide (c.toNat=48+w / 10%10))&&((decide (b=88)||decide (b.toNat=48+w / 10 / 10%10))&&((decide (a=88)||decide (a.toNat=48+w / 10 / 10 / 10%10))&&true))))
  = ((((true&&(decide (a=88)||decide (Mk.dv a=(w:Int) / 10 / 10 / 10%10)))&&(decide (b=88)||decide (Mk.dv b=(w:Int) / 10 / 10%10)))&&(decide (c=88)||decide (Mk.dv c=(w:Int) / 10%10)))&&(decide (e=88)||decide (Mk.dv e=(w:Int)%10)))
 rw [one e w,one c (w / 10),one b (w / 10 / 10),one a (w / 10 / 10 / 10),d w,d (w / 10),d (w / 10 / 10)];generalize (decide (e=88)||decide (Mk.dv e=(w:Int)%10))=h;generalize (decide (c=88)||decide (Mk.dv c=((w / 10:Nat):Int)%10))=g;generalize (decide (b=88)||decide (Mk.dv b=((w / 10 / 10:Nat):Int)%10))=f;generalize (decide (a=88)||decide (Mk.dv a=((w / 10 / 10 / 10:Nat):Int)%10))=i;cases h<;>cases g<;>cases f<;>cases i<;>rfl
theorem OD {c:UInt8} (h:cM c=true\/c=88):Mk.okB c=true:=by
 rcases h with h | h
 ·have h:=(gx c).1 h;unfold Mk.okB;simp only [gC,ay,cj];right
  first | omega | (obtain ⟨b,a⟩:=h;constructor<;>omega)
 ·subst h;decide
theorem Kq {d:aa} (a:d.length=4) (h:∀c∈d,cM c=true\/c=88):Mk.chk d=0:=by
 unfold Mk.chk;have:d.all Mk.okB=true:=cr.2 λc hc=>OD (h c hc);rw [ab (by omega),ad this,ab (by rintro rfl;simp at a)]
theorem Dj {d:aa} (j:d.length=4) (h:∀c∈d,cM c=true\/c=88) (w:Nat):Mk.hasM d (w:Int)=true↔mtk d 4 w=true/\w / 10 ^ 4=0:=by
 obtain ⟨a,b,c,e,rfl⟩:∃a b c e,d=[a,b,c,e]:=by
  match d,j with
  | [a,b,c,e],_=>exact ⟨a,b,c,e,rfl⟩
 rw [Mk.Ce,R2 (h a (by simp)) (h b (by simp)) (h c (by simp)) (h e (by simp)) w];simp only [ay,cj];show 0<=(w:Int)/\(w:Int)<10 ^ 4/\Mk.ag [e,c,b,a] (w:Int)=true↔Mk.ag [e,c,b,a] (w:Int)=true/\w / 10 ^ 4=0;have g:(10:Int) ^ 4=10000:=by decide
 have e4':(10:Nat) ^ 4=10000:=by decide
 rw [g,e4'];constructor
 ·rintro ⟨_,i,f⟩;exact ⟨f,by omega⟩
 ·rintro ⟨f,i⟩;exact ⟨by omega,by omega,f⟩
theorem D1 {g l:Bool} {d:aa} {x q:Int} (b:okY g l d x q) (h:hasX d=true) (v:Int):inP g d x q v↔(Mk.hasM d (wOf g v)=true/\(g=true->1<=wOf g v)):=by
 obtain ⟨rfl,rfl,rfl,c,j⟩:=oz b h;unfold inP;rw [Ek h];have p:∀k:Int,Mk.hasM d k=true->0<=k/\k<10000:=λk o=>by
  have:=(Mk.mD o).2.2.2.2;rw [c] at this;have w:(10:Int) ^ 4=10000:=by decide
  omega
 constructor
 ·rintro ⟨a,i,s,r,n⟩;have:=(Dj c j (wOf g v).toNat).2 n;rw [show (((wOf g v).toNat:Nat):Int)=wOf g v by omega] at this;refine ⟨this,λf=>?_⟩;have t:¬wOf g v=0:=λe=>r ⟨h,f,e⟩;omega
 ·rintro ⟨a,i⟩;have hr':=p _ a;have m:=(Dj c j (wOf g v).toNat).1 (by rw [show (((wOf g v).toNat:Nat):Int)=wOf g v by omega];exact a);have u:v=wOf g v\/v=- wOf g v:=by
   unfold wOf;split
   ·right;omega
   ·left;rfl
  refine ⟨by omega,by omega,hr'.1,?_,m⟩;rintro ⟨_,f,e⟩;have:=i f;omega
theorem A4 {g l:Bool} {d:aa} {x:Int} (a:okY g l d x 0) (b:hasX d=false) (v:Int):inP g d x 0 v↔v=(if g then -((val d x.toNat:Nat):Int) else ((val d x.toNat:Nat):Int)):=by
 obtain ⟨k,q,rfl,n,i⟩:=qj a b;have hs:=i.small;have h:dval 0 d*10 ^ k=val d k:=rfl;rw [h] at hs;unfold E16 at hs;unfold inP;rw [MS b];have j:CN d (k:Int).toNat (0:Int).toNat=1:=rfl;rw [j,bY,qP,qP,b];unfold wOf;cases g with
 | true=>
  simp only [aY];constructor
  ·rintro ⟨m,c,e,_,f⟩;omega
  ·rintro rfl;refine ⟨by omega,by omega,by omega,by simp,by omega⟩
 | false=>
  simp only [cE,aG];constructor
  ·rintro ⟨m,c,e,_,f⟩;omega
  ·rintro rfl;refine ⟨by omega,by omega,by omega,by simp,by omega⟩
def BG (up:Bool) (Y:Int->Prop) (v w:Int) (a:Bool):Prop:=
 (a=true->Y w/\Mk.dV up v w/\∀e,Y e->Mk.dV up v e->Mk.dV up w e)/\(a=false->∀e,Y e->¬Mk.dV up v e)
theorem dX (a b:Int):Mk.dV true a b↔a<=b:=Iff.rfl
theorem fW (a b:Int):Mk.dV false a b↔b<=a:=Iff.rfl
theorem MO (o:Option Int):(Mk.res o).2=0/\(∃r,o=some r/\(Mk.res o).1=r)\/(Mk.res o).2=16/\o=none/\(Mk.res o).1=0:=by
 cases o with
 | none=>exact .inr ⟨rfl,rfl,rfl⟩
 | some r=>exact .inl ⟨rfl,r,rfl,rfl⟩
theorem tl {m:aa} (j:Mk.chk m=0) (v a:Int) (t:0<=a):∃w f,en 20000000 m v true a=some (w,f)/\BG true (λe=>Mk.hasM m e=true/\a<=e) v w f/\(0<=w/\w<1000000000000000000):=by
 obtain ⟨o,s,d⟩:=Mk.Gy j (cond (decide (a>v)) a v);unfold en;rw [s];simp only [ob,aj];have hc:(cond (decide (a>v)) a v)=max v a:=by
  by_cases h:a>v
  ·rw [ar h];show a=_;omega
  ·rw [aq h];show v=_;omega
 rw [hc] at d;rcases MO o with ⟨i,r,rfl,c⟩ | ⟨i,rfl,c⟩
 ·refine ⟨_,_,rfl,?_,?_⟩
  ·rw [i,c];obtain ⟨q,k,p⟩:=d;rw [dX] at k;refine ⟨λ_=>⟨⟨q,by omega⟩,?_,λe b g=>?_⟩,λh=>by cases h⟩
   ·rw [dX];omega
   ·rw [dX] at g;exact p e b.1 (by rw [dX];have:=b.2;omega)
  ·have:=(Mk.mD d.1).2.2.2.2;have n:=Mk.mh j;have hp:(10:Int) ^ m.length<=10 ^ 18:=by
    have:=jI (show 0<10 by decide) n.1
    exact_mod_cast this
   have l:(10:Int) ^ 18=1000000000000000000:=by decide
   rw [c];omega
 ·refine ⟨_,_,rfl,?_,by rw [c];omega⟩;rw [i];refine ⟨(λh=>by cases h),λ_ e b g=>?_⟩;rw [dX] at g;exact d e b.1 (by rw [dX];have:=b.2;omega)
theorem sX {m:aa} (n:Mk.chk m=0) (v a:Int) (u:0<=a):∃w f,en 20000000 m v false a=some (w,f)/\BG false (λe=>Mk.hasM m e=true/\a<=e) v w f/\(0<=w/\w<1000000000000000000):=by
 obtain ⟨o,t,j⟩:=Mk.Ik n v;unfold en;rw [t];simp only [ob,ae];rcases MO o with ⟨i,r,rfl,g⟩ | ⟨i,rfl,g⟩
 ·rw [i,g];obtain ⟨l,p,k⟩:=j;rw [fW] at p;have x:=(Mk.mD l).2.2.2.2;have s:=Mk.mh n;have hp:(10:Int) ^ m.length<=10 ^ 18:=by
   have:=jI (show 0<10 by decide) s.1
   exact_mod_cast this
  have q:(10:Int) ^ 18=1000000000000000000:=by decide
  refine ⟨_,_,rfl,?_,by omega⟩;by_cases c:r>=a
  ·rw [ar c];refine ⟨λ_=>⟨⟨l,by omega⟩,by rw [fW];omega,λe b d=>k e b.1 d⟩,λh=>by cases h⟩
  ·rw [aq c];refine ⟨(λh=>by cases h),λ_ e b d=>?_⟩;have:=k e b.1 d;rw [fW] at this;have:=b.2;omega
 ·rw [i,g];refine ⟨_,_,rfl,?_,by omega⟩;refine ⟨(λh=>by cases h),λ_ e b d=>j e b.1 d⟩
theorem IQ {g l:Bool} {dg:aa} {x:Int} (k:okY g l dg x 0) (m d:aa) (k0 k1 k2:Int) (v:Int) (J:-9223372036854775808<=v/\v<9223372036854775808) (up:Bool) (F G:List Int):
  ∃w f,bW 20000000 g l dg x 0 m d k0 k1 k2 v up F G=some (w,f)/\BG up (inP g dg x 0) v w f:=by
 have E:=jF k;unfold bW;rw [rE];simp only [ob];cases u:hasX dg with
 | false=>
  have c:=A4 k u;rw [xR 20000000 g l dg x 0 (by omega) (by omega),ad ⟨k,u⟩];simp only [ko,aj];generalize (if g then -((val dg x.toNat:Nat):Int) else ((val dg x.toNat:Nat):Int))=w at *;cases up with
  | true=>
   by_cases h:w>=v
   ·refine ⟨w,true,?_,?_⟩
    ·simp only [ar h,aj]
    ·refine ⟨λ_=>⟨(c w).2 rfl,h,λe b _=>?_⟩,λh=>by cases h⟩;rw [(c e).1 b];exact rZ _
   ·refine ⟨w,false,?_,?_⟩
    ·simp only [aq h,aj,ae,eG]
    ·refine ⟨(λh=>by cases h),λ_ e b n=>?_⟩;rw [(c e).1 b,dX] at n;omega
  | false=>
   by_cases h:w<=v
   ·refine ⟨w,true,?_,?_⟩
    ·simp only [ar h,aj,ae,ko]
    ·refine ⟨λ_=>⟨(c w).2 rfl,h,λe b _=>?_⟩,λh=>by cases h⟩;rw [(c e).1 b];exact rZ _
   ·refine ⟨w,false,?_,?_⟩
    ·simp only [aq h,aj,ae,ko]
    ·refine ⟨(λh=>by cases h),λ_ e b n=>?_⟩;rw [(c e).1 b,fW] at n;omega
 | true=>
  have c:=D1 k u;obtain ⟨rfl,rfl,_,B,D⟩:=oz k u;have y:=Kq B D;simp only [eG,ae];cases g with
  | false=>
   simp only [ko,aj];have q:∀w f,BG up (λe=>Mk.hasM dg e=true/\0<=e) v w f->BG up (inP false dg 0 0) v w f:=λw f h=>by
    have a:∀e,(Mk.hasM dg e=true/\0<=e)↔inP false dg 0 0 e:=λe=>by
     rw [c e];constructor
     ·rintro ⟨i,_⟩;exact ⟨i,λh=>by cases h⟩
     ·rintro ⟨i,_⟩;exact ⟨i,(Mk.mD i).2.2.2.2.1⟩
    refine ⟨λj=>?_,λj e b=>h.2 j e ((a e).2 b)⟩;obtain ⟨r,s,t⟩:=h.1 j;exact ⟨(a w).1 r,s,λe b=>t e ((a e).2 b)⟩
   cases up with
   | true=>
    obtain ⟨w,f,i,o,_⟩:=tl y v 0 (by omega);exact ⟨w,f,by rw [i],q w f o⟩
   | false=>
    obtain ⟨w,f,i,o,_⟩:=sX y v 0 (by omega);exact ⟨w,f,by rw [i],q w f o⟩
  | true=>
   simp only [eG,ae];have hc:IntKind.wrap .i64 (0 - (cond (decide (((-9223372036854775807):Int)>v)) (-9223372036854775807) v))=min (-v) 9223372036854775807:=by
    by_cases h:((-9223372036854775807):Int)>v
    ·rw [ar h,aj,wrap_i64 _ (by omega) (by omega)];omega
    ·rw [aq h,ae,wrap_i64 _ (by omega) (by omega)];omega
   rw [hc];have A:∀e,Mk.hasM dg e=true->0<=e/\e<10000:=λe b=>by
    have:=(Mk.mD b).2.2.2.2;rw [B] at this;have I:(10:Int) ^ 4=10000:=by decide
    omega
   have a:∀e,inP true dg 0 0 e↔(Mk.hasM dg (-e)=true/\1<=-e):=λe=>by
    rw [c e];exact ⟨λh=>⟨h.1,h.2 rfl⟩,λh=>⟨h.1,λ_=>h.2⟩⟩
   have C:∀w:Int,0<=w/\w<1000000000000000000->IntKind.wrap .i64 (0 - w)=-w:=λw h=>by rw [wrap_i64 _ (by omega) (by omega)];omega
   cases up with
   | true=>
    obtain ⟨w,f,i,o,z⟩:=sX y (min (-v) 9223372036854775807) 1 (by omega);refine ⟨-w,f,by rw [eG,i];simp only [C w z],?_,?_⟩
    ·intro j;obtain ⟨r,s,t⟩:=o.1 j;rw [fW] at s;refine ⟨(a _).2 (by rw [Int.neg_neg];exact r),by rw [dX];omega,λe b n=>?_⟩;rw [dX] at n;have p:=(a e).1 b;have:=t (-e) p (by rw [fW];have:=A _ p.1;omega);rw [fW] at this;rw [dX];omega
    ·intro j e b n;rw [dX] at n;have p:=(a e).1 b;exact o.2 j (-e) p (by rw [fW];have:=A _ p.1;omega)
   | false=>
    obtain ⟨w,f,i,o,z⟩:=tl y (min (-v) 9223372036854775807) 1 (by omega);refine ⟨-w,f,by rw [ko,i];simp only [C w z],?_,?_⟩
    ·intro j;obtain ⟨r,s,t⟩:=o.1 j;rw [dX] at s;have H:=A _ r.1;refine ⟨(a _).2 (by rw [Int.neg_neg];exact r),by rw [fW];omega,λe b n=>?_⟩;rw [fW] at n;have p:=(a e).1 b;have:=t (-e) p (by rw [dX];omega);rw [dX] at this;rw [fW];omega
    ·intro j e b n;rw [fW] at n;have p:=(a e).1 b;exact o.2 j (-e) p (by rw [dX];omega)
theorem rk {X Y A:Type} {step:X->Option (X⊕Y)} {f:Nat->X} {L:List A} {G:A->Option Y} {e:Y}
  (h:∀i a,L[i]?=some a->step (f i)=some ((G a).elim (.inl (f (i+1))) Sum.inr)) (d:step (f L.length)=some (.inr e)) {N:Nat} (b:L.length<N):
  aw step N (f 0)=some ((L.findSome? G).getD e):=by
 have c:∀(r i:Nat),i+r=L.length->∀N,r<N->aw step N (f i)=some (((L.drop i).findSome? G).getD e):=by
  intro r
  induction r with
  | zero=>
   intro i hi N b;obtain ⟨N,rfl⟩:∃q,N=q+1:=⟨N - 1,by omega⟩;obtain rfl:i=L.length:=by omega
   rw [aw,d];simp
  | succ r ih=>
   intro i hi N b;obtain ⟨N,rfl⟩:∃q,N=q+1:=⟨N - 1,by omega⟩;have g:L[i]?=some L[i]:=bH (by omega);rw [aw,h i L[i] g,wK (show i<L.length by omega),zR];cases j:G L[i] with
   | some y=>rfl
   | none=>exact ih (i+1) (by omega) N (by omega)
 have:=c L.length 0 (by omega) N b;simpa using this
def ahd (up:Bool) (a b:Int):Bool:=cond up (decide (a<b)) (decide (a>b))
theorem Et (n:Nat) (a b:Int) (up:Bool):cn n a b up=some (ahd up a b):=by
 unfold cn ahd;cases up
 ·rfl
 ·simp only [aj,eG,ae];cases decide (a<b)<;>rfl
def yG (up a:Bool) (d:aa) (b most k:Int):Bool:=decide (k<=most)&&!(a&&(!(d==([]:aa))&&ahd up k b))
def IM (up:Bool) (m:aa) (b c y a:Int):Bool:=(y==b)&&(!(m==([]:aa))&&ahd up a c)
def Gn (m:aa) (b c y a:Int):Bool:=(y==b)&&((m==([]:aa))||(a==c))
def BO (up:Bool) (m d:aa) (b c e y:Int) (f:List Int) (a:Int):Option (Int×Int×Int):=
 if IM up m b c y a then none else (f.find? (yG up (Gn m b c y a) d e (tG d y a))).map λk=>(y,a,k)
def Bn (up:Bool) (m d:aa) (b c a:Int) (e f:List Int) (y:Int):Option (Int×Int×Int):=e.findSome? (BO up m d b c a y f)
def Jy (d:aa) (a:List Int):Prop:=a.length<=31/\(d≠[]->∀b∈a,1<=b/\b<=12)
theorem IT (n:Nat) (g l:Bool) (dg:aa) (x q:Int) (m d:aa) (k0 k1 k2:Int) {y:Int} (hy:dl y) {a:Int} (c:d≠[]->1<=a/\a<=12) (e f:List Int):
  dQ n g l dg x q m d k0 k1 k2 y a e f=some (tG d y a):=by
 unfold dQ tG;by_cases b:d=[]
 ·subst b;rfl
 ·rw [eI b,ab b];have:=c b;obtain ⟨k,rfl⟩:∃k:Nat,a=(k:Int):=⟨a.toNat,by omega⟩;rw [ae,Hr n hy (by omega) (by omega)];rfl
theorem NU {A B Y:Type} (L:List A) (p:A->Bool) (F:A->B) (J:B->Y) (e:Y):(L.findSome? λa=>if p a then some (J (F a)) else none).getD e=((L.find? p).map F).elim e J:=by
 induction L with
 | nil=>rfl
 | cons a L ih=>
  rw [List.find?_cons,zR];cases h:p a
  ·simpa using ih
  ·simp
theorem Qz {A B Y:Type} (L:List A) (G:A->Option B) (J:B->Y) (e:Y):(L.findSome? λa=>(G a).map J).getD e=(L.findSome? G).elim e J:=by
 induction L with
 | nil=>rfl
 | cons a L ih=>
  rw [zR,zR];cases h:G a
  ·simpa using ih
  ·simp
theorem KZ (n:Nat) (s y f:Int) (a:Bool) (most h o:Int) (u b:List Int) (g l:Bool) (dg:aa) (x q:Int) (m d:aa) (k0 k1 k2 r t c:Int) (up:Bool) (j p rd:Int) (i:Nat) (k:Int) (hi:b[i]?=some k) (w:i<1000):
  bv n (s,y,f,a,most,h,o,((b.length:Nat):Int),(i:Int),u,b,g,l,dg,x,q,m,d,k0,k1,k2,r,t,c,up,j,p,rd)=some ((if yG up a d c most k then some (.inl (true,y,f,k)) else none).elim (.inl (s,y,f,a,most,h,o,((b.length:Nat):Int),((i+1:Nat):Int),u,b,g,l,dg,x,q,m,d,k0,k1,k2,r,t,c,up,j,p,rd)) Sum.inr):=by
 have e:i<b.length:=(om.1 hi).1;have v:IntKind.wrap .i64 ((i:Int)+1)=((i+1:Nat):Int):=by rw [wrap_i64 _ (by omega) (by omega)];omega
 unfold bv gg yG;simp only [d4,d8,d16,di e,hi,ob,v,Et];rw [ar (show (i:Int)<((b.length:Nat):Int) by omega)];simp only [aj];cases decide (k<=most)<;>cases a<;>cases (d==([]:aa))<;>cases ahd up k c<;>simp only [eG,ko,aj,ae,v]<;>rfl
theorem O3 (n:Nat) (s y p:Int) (b:Bool) (most c f:Int) (o a:List Int) (g l:Bool) (dg:aa) (x q:Int) (m d:aa) (k0 k1 k2 j k h:Int) (up:Bool) (e i rd:Int):
  bv n (s,y,p,b,most,c,f,((a.length:Nat):Int),((a.length:Nat):Int),o,a,g,l,dg,x,q,m,d,k0,k1,k2,j,k,h,up,e,i,rd)=some (.inr (.inr (s,y,c,f,o,a,g,l,dg,x,q,m,d,k0,k1,k2,j,k,h,up,e,i,rd))):=by
 unfold bv;simp only [d4,d8,d16];rw [aq (show ¬((a.length:Nat):Int)<((a.length:Nat):Int) by omega)];rfl
theorem OR (n:Nat) (B:1000<n) (s y h:Int) (a:Bool) (most j p:Int) (v b:List Int) (g l:Bool) (dg:aa) (x q:Int) (m d:aa) (k0 k1 k2 t u c:Int) (up:Bool) (o r rd:Int) (A:b.length<=31):
  aw (bv n) n (s,y,h,a,most,j,p,((b.length:Nat):Int),0,v,b,g,l,dg,x,q,m,d,k0,k1,k2,t,u,c,up,o,r,rd)=some (((b.find? (yG up a d c most)).map (λk=>(y,h,k))).elim (.inr (s,y,j,p,v,b,g,l,dg,x,q,m,d,k0,k1,k2,t,u,c,up,o,r,rd)) (λz=>.inl (true,z))):=by
 have:=rk (step:=bv n) (f:=λi=>(s,y,h,a,most,j,p,((b.length:Nat):Int),(i:Int),v,b,g,l,dg,x,q,m,d,k0,k1,k2,t,u,c,up,o,r,rd)) (L:=b) (G:=λk=>if yG up a d c most k then some (.inl (true,y,h,k)) else none) (e:=.inr (s,y,j,p,v,b,g,l,dg,x,q,m,d,k0,k1,k2,t,u,c,up,o,r,rd))
  (λi k hi=>by
   have w:i<b.length:=(om.1 hi).1;exact KZ n s y h a most j p v b g l dg x q m d k0 k1 k2 t u c up o r rd i k hi (by omega))
  (O3 n s y h a most j p v b g l dg x q m d k0 k1 k2 t u c up o r rd) (N:=n) (by omega)
 exact this.trans (gf some (NU b (yG up a d c most) (λk=>(y,h,k)) (λz=>Sum.inl (true,z)) _))
theorem KA (n:Nat) (E:1000<n) (s y:Int) (hy:dl y) (o p:List Int) (g l:Bool) (dg:aa) (x q:Int) (m d:aa) (k0 k1 k2 e j r:Int) (up:Bool) (t u rd:Int) (A:Jy d o) (C:p.length<=31) (i:Nat) (f:Int) (hi:o[i]?=some f):
  bV n (s,y,((o.length:Nat):Int),(i:Int),o,p,g,l,dg,x,q,m,d,k0,k1,k2,e,j,r,up,t,u,rd)=some (((BO up m d e j r y p f).map (λz=>(.inl (true,z):(Bool×Int×Int×Int)⊕_))).elim (.inl (s,y,((o.length:Nat):Int),((i+1:Nat):Int),o,p,g,l,dg,x,q,m,d,k0,k1,k2,e,j,r,up,t,u,rd)) Sum.inr):=by
 have v:i<o.length:=(om.1 hi).1;have D:=A.1;have B:IntKind.wrap .i64 ((i:Int)+1)=((i+1:Nat):Int):=by rw [wrap_i64 _ (by omega) (by omega)];omega
 have w:d≠[]->1<=f/\f<=12:=λh=>A.2 h f (dT hi);have j20:∀a b:Int,dZ n s y f (y==e) a b o p g l dg x q m d k0 k1 k2 e j r up t u rd=some (s,y,f,(y==e),a,b,IM up m e j y f,o,p,g,l,dg,x,q,m,d,k0,k1,k2,e,j,r,up,t,u,rd):=by
  intro a b;unfold dZ IM;simp only [Et,ob];cases (y==e)<;>cases (m==([]:aa))<;>rfl
 have j23:∀a b c:Int,ec n s y f (y==e) a b c o p g l dg x q m d k0 k1 k2 e j r up t u rd=some (s,y,f,Gn m e j y f,a,b,c,o,p,g,l,dg,x,q,m,d,k0,k1,k2,e,j,r,up,t,u,rd):=by
  intro a b c;unfold ec Gn;cases (y==e)<;>cases (m==([]:aa))<;>rfl
 unfold bV f8 BO;simp only [d4,d8,d16,di v,hi,ob,j20];rw [ar (show (i:Int)<((o.length:Nat):Int) by omega)];simp only [aj];cases hs:IM up m e j y f with
 | true=>simp only [aj,aY,gN,B];rfl
 | false=>
  simp only [ae,cE,aG,IT n g l dg x q m d k0 k1 k2 hy w,j23,OR n E s y f (Gn m e j y f) (tG d y f) _ _ o p g l dg x q m d k0 k1 k2 e j r up t u rd C];cases p.find? (yG up (Gn m e j y f) d r (tG d y f)) with
  | some k=>rfl
  | none=>simp only [gN,Option.elim_none,B]
theorem Ob (n:Nat) (v:1000<n) (s y:Int) (hy:dl y) (a b:List Int) (g l:Bool) (dg:aa) (x q:Int) (m d:aa) (k0 k1 k2 h j c:Int) (up:Bool) (k o rd:Int) (r:Jy d a) (t:b.length<=31):
  aw (bV n) n (s,y,((a.length:Nat):Int),0,a,b,g,l,dg,x,q,m,d,k0,k1,k2,h,j,c,up,k,o,rd)=some ((Bn up m d h j c a b y).elim (.inr (s,y,a,b,g,l,dg,x,q,m,d,k0,k1,k2,h,j,c,up,k,o,rd)) (λz=>.inl (true,z))):=by
 have u:=r.1;have:=rk (step:=bV n) (f:=λi=>(s,y,((a.length:Nat):Int),(i:Int),a,b,g,l,dg,x,q,m,d,k0,k1,k2,h,j,c,up,k,o,rd)) (L:=a) (G:=λp=>(BO up m d h j c y b p).map (λz=>(.inl (true,z):(Bool×Int×Int×Int)⊕_))) (e:=.inr (s,y,a,b,g,l,dg,x,q,m,d,k0,k1,k2,h,j,c,up,k,o,rd))
  (λi p hi=>KA n v s y hy a b g l dg x q m d k0 k1 k2 h j c up k o rd r t i p hi)
  (by
   unfold bV;simp only [d4,d8,d16];rw [aq (show ¬((a.length:Nat):Int)<((a.length:Nat):Int) by omega)];rfl)
  (N:=n) (by omega)
 exact this.trans (gf some (Qz a (BO up m d h j c y b) (λz=>Sum.inl (true,z)) _))
theorem LX (n:Nat) (o:1000<n) (s y:Int) (hy:dl y) (a b:List Int) (g l:Bool) (dg:aa) (x q:Int) (m d:aa) (k0 k1 k2 e f c:Int) (up:Bool) (h i rd:Int) (k:Jy d a) (j:b.length<=31):
  ct n (s,y,true,a,b,g,l,dg,x,q,m,d,k0,k1,k2,e,f,c,up,h,i,rd)=(Bn up m d e f c a b y).elim (ob (bW n g l dg x q m d k0 k1 k2 (IntKind.wrap .i64 (y+s)) up a b) λr=>some (.inl (s,r.1,r.2,a,b,g,l,dg,x,q,m,d,k0,k1,k2,e,f,c,up,h,i,rd))) (λz=>some (.inr (.inl (true,z)))):=by
 unfold ct;simp only [d4,d8,d16,aj,ob,Ob n o s y hy a b g l dg x q m d k0 k1 k2 e f c up h i rd k j];cases Bn up m d e f c a b y<;>rfl
def EH (up:Bool) (Y:Int->Prop) (F:Int->Option (Int×Int×Int)) (v:Int):Option (Int×Int×Int)->Prop
 | some z=>∃e,Y e/\Mk.dV up v e/\F e=some z/\∀a,Y a->Mk.dV up v a->¬Mk.dV up e a->F a=none
 | none=>∀e,Y e->Mk.dV up v e->F e=none
theorem F5 {X:Type} {step:X->Option (X⊕((Bool×Int×Int×Int)⊕(Int×Int×Int)))} {st:Int->Bool->X} {F:Int->Option (Int×Int×Int)} {Y:Int->Prop} {up:Bool} {s lo hi:Int} {E:Int×Int×Int} {fy:Int->Option (Int×Bool)}
  (hs:s=if up then 1 else -1) (A:∀e,Y e->lo<=e/\e<=hi) (T:-10000000000000000<=lo) (d:hi<=10000000000000000)
  (b:∀y,Y y->step (st y true)=(F y).elim (ob (fy (IntKind.wrap .i64 (y+s))) λr=>some (.inl (st r.1 r.2))) (λz=>some (.inr (.inl (true,z)))))
  (c:∀y,step (st y false)=some (.inr (.inr E)))
  (u:∀v,-9223372036854775808<=v/\v<9223372036854775808->∃w f,fy v=some (w,f)/\BG up Y v w f):
  ∀(r:Nat) (v y:Int) (f:Bool),BG up Y v y f->(f=true->(if up then hi - y else y - lo)<(r:Int))->∀N,r<N->
   ∃o,aw step N (st y f)=some (o.elim (.inr E) (λz=>.inl (true,z)))/\EH up Y F v o:=by
 intro r
 induction r with
 | zero=>
  intro v y f l t N I;obtain ⟨N,rfl⟩:∃q,N=q+1:=⟨N - 1,by omega⟩;cases f with
  | true=>
   obtain ⟨j,_,_⟩:=l.1 rfl;have:=A y j;have:=t rfl;cases up<;>simp at this<;>omega
  | false=>
   refine ⟨none,by rw [aw,c];rfl,λe g n=>absurd n (l.2 rfl e g)⟩
 | succ r ih=>
  intro v y f l t N I;obtain ⟨N,rfl⟩:∃q,N=q+1:=⟨N - 1,by omega⟩;cases f with
  | false=>
   refine ⟨none,by rw [aw,c];rfl,λe g n=>absurd n (l.2 rfl e g)⟩
  | true=>
   obtain ⟨j,p,x⟩:=l.1 rfl;have R:=A y j;cases k:F y with
   | some z=>
    refine ⟨some z,?_,y,j,p,k,λa d m i=>absurd (x a d m) i⟩;rw [aw,b y j,k];rfl
   | none=>
    have M:IntKind.wrap .i64 (y+s)=y+s:=by
     have:-1<=s/\s<=1:=by rw [hs];cases up<;>simp
     exact wrap_i64 _ (by omega) (by omega)
    obtain ⟨w,C,Q,B⟩:=u (y+s) (by
     have:-1<=s/\s<=1:=by rw [hs];cases up<;>simp
     omega)
    have hstep':step (st y true)=some (.inl (st w C)):=by
     rw [b y j,k,M];show ob (fy (y+s)) _=_;rw [Q];rfl
    obtain ⟨o,L,G⟩:=ih (y+s) w C B (λJ=>by
     obtain ⟨S,D,_⟩:=B.1 J;have:=t rfl;cases up
     ·rw [fW] at D;simp only [cE,aG] at hs this ⊢;omega
     ·rw [dX] at D;simp only [aY] at hs this ⊢;omega) N (by omega)
    refine ⟨o,by rw [aw,hstep'];exact L,?_⟩;have split:∀a,Y a->Mk.dV up v a->a=y\/Mk.dV up (y+s) a:=λa d m=>by
     have i:=x a d m;cases up
     ·rw [fW] at i ⊢;simp only [cE,aG] at hs;omega
     ·rw [dX] at i ⊢;simp only [aY] at hs;omega
    cases o with
    | none=>
     intro e g n;rcases split e g n with rfl | h
     ·exact k
     ·exact G e g h
    | some z=>
     obtain ⟨e,K,H,O,P⟩:=G;refine ⟨e,K,?_,O,λa d m i=>?_⟩
     ·cases up
      ·rw [fW] at H p ⊢;simp only [cE,aG] at hs;omega
      ·rw [dX] at H p ⊢;simp only [aY] at hs;omega
     ·rcases split a d m with rfl | h
      ·exact k
      ·exact P a d h i
theorem wQ {g l:Bool} {dg:aa} {x:Int} (c:okY g l dg x 0):∃lo hi:Int,(∀e,inP g dg x 0 e->lo<=e/\e<=hi)/\hi - lo<=10000/\-10000000000000000<=lo/\hi<=10000000000000000:=by
 cases f:hasX dg with
 | false=>
  have a:=A4 c f;by_cases d:-10000000000000000<=(if g then -((val dg x.toNat:Nat):Int) else ((val dg x.toNat:Nat):Int))/\(if g then -((val dg x.toNat:Nat):Int) else ((val dg x.toNat:Nat):Int))<=10000000000000000
  ·refine ⟨_,_,λe b=>?_,?_,d.1,d.2⟩
   ·rw [(a e).1 b];exact ⟨rZ _,rZ _⟩
   ·omega
  ·refine ⟨0,0,λe b=>?_,by omega,by omega,by omega⟩;exfalso;have:=(a e).1 b;unfold inP at b;exact d ⟨by rw [<-this];exact b.1,by rw [<-this];exact b.2.1⟩
 | true=>
  have a:=D1 c f;obtain ⟨_,_,_,i,j⟩:=oz c f;refine ⟨if g then -9999 else 0,if g then 0 else 9999,λe b=>?_,by cases g<;>simp,by cases g<;>simp,by cases g<;>simp⟩;have h:=((a e).1 b).1;have:=(Mk.mD h).2.2.2.2;rw [i] at this;have k:(10:Int) ^ 4=10000:=by decide
  unfold wOf at this;cases g
  ·simp at this ⊢;omega
  ·simp at this ⊢;omega
theorem xJ {g:Bool} {dg:aa} {x q e:Int} (h:inP g dg x q e):dl e:=⟨h.1,h.2.1⟩
theorem FD {g l:Bool} {dg:aa} {x:Int} (e:okY g l dg x 0) (m d:aa) (k0 k1 k2:Int) (a h i:Int) (n:-9223372036854775808<=a/\a<9223372036854775808) (b c:List Int) (C:Jy d b) (r:c.length<=31):
  ∃o,gU 20000000 g l dg x 0 m d k0 k1 k2 a h i true b c=some (o.elim (0,0,0,false) λz=>(z.1,z.2.1,z.2.2,true))/\EH true (inP g dg x 0) (Bn true m d a h i b c) a o:=by
 obtain ⟨lo,hi,q,G,k,j⟩:=wQ e;obtain ⟨w,f,D,p⟩:=IQ e m d k0 k1 k2 a n true b c;obtain ⟨o,u,A⟩:=F5 (step:=ct 20000000) (st:=λy f=>(1,y,f,b,c,g,l,dg,x,0,m,d,k0,k1,k2,a,h,i,true,0,0,0)) (F:=Bn true m d a h i b c) (Y:=inP g dg x 0) (up:=true) (s:=1) (lo:=lo) (hi:=hi) (E:=(0,0,0)) (fy:=λv=>bW 20000000 g l dg x 0 m d k0 k1 k2 v true b c)
  rfl q k j
  (λy hy=>LX 20000000 (by omega) 1 y (xJ hy) b c g l dg x 0 m d k0 k1 k2 a h i true 0 0 0 C r)
  (λy=>rfl)
  (λv B=>IQ e m d k0 k1 k2 v B true b c)
  10002 a w f p (λt=>by have:=q w (p.1 t).1;simp;omega) 20000000 (by omega)
 refine ⟨o,?_,A⟩;unfold gU ii;simp only [eG,ae,ob,d4,d8,d16,D];have i1':aw (ct 20000000) 20000000 (1,w,f,b,c,g,l,dg,x,0,m,d,k0,k1,k2,a,h,i,true,0,0,0)=_:=u;rw [i1'];cases o<;>rfl
theorem EJ (m d:aa) (n l:Int) {f e:Int} (h:e≠f) (o g:List Int):Bn true m d f n l o g e=none↔(o.flatMap λa=>(g.filter λk=>decide (k<=tG d e a)).map λk=>(e,a,k))=[]:=by
 have i:(e==f)=false:=aL.2 h;unfold Bn;rw [MF,List.flatMap_eq_nil_iff];have:∀a,BO true m d f n l e g a=none↔((g.filter λk=>decide (k<=tG d e a)).map λk=>(e,a,k))=[]:=by
  intro a;unfold BO IM Gn;rw [i];simp only [Dv,cE,aG,Option.map_eq_none_iff,List.find?_eq_none,List.map_eq_nil_iff,List.filter_eq_nil_iff];constructor
  ·intro c k j;have:=c k j;unfold yG at this;simpa using this
  ·intro c k j;have:=c k j;unfold yG;simpa using this
 exact ⟨λc a b=>(this a).1 (c a b),λc a b=>(this a).2 (c a b)⟩
def hasF (g:Bool) (dg:aa) (x:Int) (m d:aa):Prop:=∃e,inP g dg x 0 e/\tD m d e≠[]
open Classical in
noncomputable def chkF (g l:Bool) (dg:aa) (x q:Int) (m d:aa) (k0 k1 k2:Int):Int:=
 if chkD g l dg x q m d k0 k1 k2=0/\d≠[]/\¬hasF g dg x m d then 8 else chkD g l dg x q m d k0 k1 k2
theorem mU {g l:Bool} {dg:aa} {x q:Int} {m d:aa} {k0 k1 k2:Int} (h:chkD g l dg x q m d k0 k1 k2=0):okY g l dg x q/\(m=[]\/m.length=2)/\(d=[]\/d.length=2)/\(0<q->m=[])/\(d≠[]->m≠[]/\sea m=0):=by
 obtain ⟨b,j,c,o⟩:=Ah h;unfold yrD at b;by_cases a:okY g l dg x q
 ·rw [ad a] at b;refine ⟨a,?_,?_,λk=>?_,λi=>?_⟩
  ·rcases j with h | h | h
   ·exact .inl h
   ·exact .inr (BI h).1
   ·exact .inr (lU (by omega) h).1
  ·rcases c with h | ⟨_,_,h⟩
   ·exact .inl h
   ·exact .inr (lU (by omega) h).1
  ·unfold yrB at b;simp only [ay,kn] at b;have:=b.1;rw [ar k,lZ] at this;by_cases e:m=[]
   ·exact e
   ·rw [eI e] at this;cases this
  ·rcases c with h | ⟨n,f,_⟩
   ·exact absurd h i
   ·exact ⟨n,f⟩
 ·rw [ab a] at b;cases b
theorem LK {g l:Bool} {dg:aa} {x q:Int} (h:okY g l dg x q):0<=q:=(jF h).2.2.1
theorem H5 {m d:aa} (h:d≠[]->m≠[]/\sea m=0):Jy d (monI m):=by
 refine ⟨o6 (EL m) (by omega),λb g a=>?_⟩;obtain ⟨e,f⟩:=h b;unfold monI at a;rw [ab e,ab (by omega)] at a;obtain ⟨k,c,rfl⟩:=dr.1 a;have:=qM.1 (kw.1 c).1;omega
theorem y7 {g l:Bool} {dg:aa} {x q:Int} {m d:aa} {k0 k1 k2:Int} (p:m.length<=18) (k:dg.length<=100) (E:0<=k0) (F:0<=k1) (C:0<=k2):
  bp 20000000 g l dg x q m d k0 k1 k2=some (chkF g l dg x q m d k0 k1 k2):=by
 unfold bp chkF;rw [yF 20000000 (by omega) g l dg x q m d k0 k1 k2 p k E F C];simp only [ob];by_cases hc:chkD g l dg x q m d k0 k1 k2=0
 ·obtain ⟨c,t,r,y,f⟩:=mU hc;rw [hc];simp only [eH,ae];by_cases i:d=[]
  ·subst i;rw [ab (by simp)];rfl
  ·rw [eI i,ae];have n:q=0:=by
    have:=LK c;by_cases h:0<q
    ·exact absurd (y h) (f i).1
    ·omega
   subst n;have e:=Tf 20000000 (by omega) g l dg x 0 m d k0 k1 k2 t r;have s:=H5 f;obtain ⟨o,o1,v⟩:=FD c m d k0 k1 k2 (-9223372036854775808) 0 0 (by omega) (monI m) (dayI d) s (Db d);have b:∀e,inP g dg x 0 e->e≠-9223372036854775808:=λe w=>by have:=xJ w;unfold dl at this;omega
   have key:(∃z,o=some z)↔hasF g dg x m d:=by
    constructor
    ·rintro ⟨z,rfl⟩;obtain ⟨e,a,_,u,_⟩:=v;refine ⟨e,a,λA=>?_⟩;have:=(EJ m d 0 0 (b e a) (monI m) (dayI d)).2 A;rw [this] at u;cases u
    ·rintro ⟨e,a,D⟩;cases o with
     | some z=>exact ⟨z,rfl⟩
     | none=>
      have:=v e a (by rw [dX];have:=xJ a;unfold dl at this;omega);exact absurd ((EJ m d 0 0 (b e a) (monI m) (dayI d)).1 this) D
   rw [e];by_cases j:hasF g dg x m d
   ·obtain ⟨z,rfl⟩:=key.2 j;rw [ab (λh=>h.2.2 j)]
    all_goals
     simp only [d4,d8,o1];rfl
   ·have B:o=none:=by
     cases o with
     | none=>rfl
     | some z=>exact absurd (key.1 ⟨z,rfl⟩) j
    subst B;rw [ad ⟨rfl,i,j⟩]
    all_goals
     simp only [d4,d8,o1];rfl
 ·rw [ab (λh=>hc h.1)];have:(chkD g l dg x q m d k0 k1 k2 != 0)=true:=by simp [hc]
  rw [this];rfl
theorem LM {g l:Bool} {dg:aa} {x:Int} (c:okY g l dg x 0) (m d:aa) (k0 k1 k2:Int):
  ∃r,jC 20000000 g l dg x 0 m d k0 k1 k2=some r/\(r=1/\hasF g dg x m d\/r=0/\¬hasF g dg x m d):=by
 have K:=jF c;obtain ⟨lo,hi,A,Q,P,M⟩:=wQ c;obtain ⟨J,E,H⟩:=Bz c;have u:=JV 19999700 g l dg x 0 (by omega) c;unfold jC;rw [show (20000000:Nat)=19999700+300 from rfl,u];simp only [ob];generalize (sgn g (l6 g dg x 0)).1=a at *;generalize (sgn g (l6 g dg x 0)).2=b at *;have R:=A a J;have hb':=A b E;have F:=λy=>Rz 19999700 c y;have step:∀i y,((List.range (b - a+1).toNat).map (λj:Nat=>a+(j:Int)))[i]?=some y->i<(b - a+1).toNat/\y=a+(i:Int):=by
  intro i y h;rw [mz] at h;cases w:(List.range (b - a+1).toNat)[i]? with
  | none=>rw [w] at h;cases h
  | some j=>
   rw [w] at h;have hi:=om.1 w;obtain ⟨C,B⟩:=hi;rw [List.getElem_range] at B;rw [List.length_range] at C;subst B;exact ⟨C,(bc h).symm⟩
 have p:((List.range (b - a+1).toNat).map (λj:Nat=>a+(j:Int))).length=(b - a+1).toNat:=by simp
 have:=rk (step:=eQ (19999700+300)) (f:=λi=>(b,a+(i:Int),g,l,dg,x,0,m,d,k0,k1,k2)) (L:=(List.range (b - a+1).toNat).map (λj:Nat=>a+(j:Int))) (G:=λy=>if inP g dg x 0 y/\tD m d y≠[] then some (.inl 1) else none) (e:=.inr ())
  (λi y h=>by
   obtain ⟨hi,rfl⟩:=step i y h;have O:IntKind.wrap .i64 (a+(i:Int)+1)=a+((i+1:Nat):Int):=by rw [wrap_i64 _ (by omega) (by omega)];omega
   unfold eQ;simp only [d4,d8,O];rw [ar (show a+(i:Int)<=b by omega),F,Gm (19999700+300) (by omega)];by_cases k:inP g dg x 0 (a+(i:Int))
   ·rw [ad k];by_cases n:tD m d (a+(i:Int))=[]
    ·rw [ab (λh=>h.2 n),n];rfl
    ·rw [ad ⟨k,n⟩];have hp:0<(tD m d (a+(i:Int))).length:=List.length_pos_iff.2 n;have D:decide ((((tD m d (a+(i:Int))).length:Nat):Int)>0)=true:=ar (by omega);simp only [aj,ob,D];rfl
   ·rw [ab k,ab (λh=>k h.1)];rfl)
  (by
   unfold eQ;simp only [d4,d8];rw [p,aq (show ¬a+(((b - a+1).toNat:Nat):Int)<=b by omega)];rfl)
  (N:=19999700+300) (by rw [p];omega)
 rw [show a+((0:Nat):Int)=a by omega] at this;rw [this];cases q:(List.findSome? (λy=>if inP g dg x 0 y/\tD m d y≠[] then some (Sum.inl (1:Int)) else none) ((List.range (b - a+1).toNat).map (λj:Nat=>a+(j:Int))):Option (Int⊕Unit)) with
 | none=>
  refine ⟨0,rfl,.inr ⟨rfl,?_⟩⟩;rintro ⟨e,s,v⟩;rw [MF] at q;have hs:=H e s;have:=q e (dr.2 ⟨(e - a).toNat,jk.2 (by omega),by omega⟩);rw [ad ⟨s,v⟩] at this;cases this
 | some z=>
  obtain ⟨y,I,o⟩:=List.exists_of_findSome?_eq_some q;by_cases t:inP g dg x 0 y/\tD m d y≠[]
  ·rw [ad t] at o;obtain rfl:=bc o;exact ⟨1,rfl,.inl ⟨rfl,y,t.1,t.2⟩⟩
  ·rw [ab t] at o;cases o
theorem we {g l:Bool} {dg:aa} {x q:Int} {m d:aa} {k0 k1 k2:Int} (f:dg.length<=100) (o:0<=k0) (u:0<=k1) (j:0<=k2):
  bO 20000000 g l dg x q m d k0 k1 k2=some (chkF g l dg x q m d k0 k1 k2):=by
 unfold bO chkF;rw [Cj 20000000 (by omega) g l dg x q m d k0 k1 k2 f o u j];simp only [ob];by_cases hc:chkD g l dg x q m d k0 k1 k2=0
 ·obtain ⟨a,n,p,s,e⟩:=mU hc;rw [hc];by_cases b:d=[]
  ·subst b;rw [ab (by simp)];rfl
  ·have i:q=0:=by
    have:=LK a;by_cases h:0<q
    ·exact absurd (s h) (e b).1
    ·omega
   subst i;obtain ⟨r,k,t⟩:=LM a m d k0 k1 k2;rw [eI b,k];rcases t with ⟨rfl,c⟩ | ⟨rfl,c⟩
   ·rw [ab (λh=>h.2.2 c)];rfl
   ·rw [ad ⟨rfl,b,c⟩];rfl
 ·rw [ab (λh=>hc h.1)];have:(chkD g l dg x q m d k0 k1 k2==0)=false:=aL.2 hc;rw [this];rfl
theorem kR {g l:Bool} {dg:aa} {x q:Int} {m d:aa} {k0 k1 k2:Int} (h:chkF g l dg x q m d k0 k1 k2=0):chkD g l dg x q m d k0 k1 k2=0:=by
 unfold chkF at h;split at h
 ·cases h
 ·exact h
theorem bne0 {e:Int} (h:e≠0):(e != 0)=true:=by simp [h]
theorem DV {m d:aa} {y:Int} {z:Int×Int×Int}:z∈tD m d y↔z.1=y/\z.2.1∈monI m/\z.2.2∈dayI d/\z.2.2<=tG d y z.2.1:=by
 unfold tD s8;simp only [List.mem_flatMap,dr,kw,cj];constructor
 ·rintro ⟨f,c,k,⟨a,b⟩,rfl⟩;exact ⟨rfl,c,a,b⟩
 ·rintro ⟨e,c,a,b⟩;exact ⟨z.2.1,c,z.2.2,⟨a,b⟩,by rw [<-e]⟩
theorem OG (y:Int) (i:Nat):(minL i:Int)<=lenI y (i:Int):=by
 unfold minL lenI
 repeat' split
 all_goals omega
theorem LR {g l:Bool} {dg:aa} {x:Int} (a:okY g l dg x 0) {m d:aa} (o:m≠[]) (hs:sea m=0) (f:d≠[]) (c:fitD m d=true):hasF g dg x m d:=by
 obtain ⟨j,_,_⟩:=Bz a;refine ⟨_,j,?_⟩;unfold fitD at c;simp only [qe,ay] at c;obtain ⟨i,hi,q,k,p,b⟩:=c;have hi':=qM.1 hi;have hk':=qM.1 p;have n:minL i<=31:=by
  unfold minL
  repeat' split
  all_goals omega
 have h:((sgn g (l6 g dg x 0)).1,(i:Int),(k:Int))∈tD m d (sgn g (l6 g dg x 0)).1:=by
  rw [DV];refine ⟨rfl,?_,?_,?_⟩
  ·unfold monI;rw [ab o,ab (by omega)];exact dr.2 ⟨i,kw.2 ⟨hi,q⟩,rfl⟩
  ·unfold dayI;rw [ab f];exact dr.2 ⟨k,kw.2 ⟨qM.2 (by omega),b⟩,rfl⟩
  ·unfold tG;rw [ab f];have:=OG (sgn g (l6 g dg x 0)).1 i;show (k:Int)<=lenI (sgn g (l6 g dg x 0)).1 (i:Int);omega
 intro e;rw [e] at h;cases h
theorem EZ {g l:Bool} {dg:aa} {x q:Int} {m d:aa} {k0 k1 k2:Int} (hc:chkD g l dg x q m d k0 k1 k2=0) (p:d=[]\/fitD m d=true):chkF g l dg x q m d k0 k1 k2=0:=by
 obtain ⟨a,j,n,o,c⟩:=mU hc;unfold chkF;rw [ab,hc];rintro ⟨_,b,k⟩;obtain ⟨f,i⟩:=c b;have e:q=0:=by
  have:=LK a;by_cases h:0<q
  ·exact absurd (o h) f
  ·omega
 subst e;exact k (LR a f i b (p.resolve_left b))
def dayY (y:Int):Int:=365*y+(1+(y - 1) / 4 - (y - 1) / 100+(y - 1) / 400)
def cumM (y:Int):Nat->Int
 | 0=>0
 | k+1=>cumM y k+lenI y ((k+1:Nat):Int)
def dayM (y:Int) (m:Nat):Int:=if m<=12 then dayY y+cumM y (m - 1) else dayY (y+1)+cumM (y+1) (m - 13)
theorem wi (y:Int):dayY (y+1)=dayY y+365+(if qs y then 1 else 0):=by
 unfold dayY qs;simp only [ay,gC,cj];split<;>omega
theorem Dc (n:Int):dayY (400*n)=146097*n:=by
 unfold dayY;omega
theorem jv {y:Int} (h:-20000000000000000<=y/\y<=20000000000000000):-8000000000000000000<=dayY y/\dayY y<=8000000000000000000:=by
 unfold dayY;omega
theorem TA (y:Int):cumM y 12=365+(if qs y then 1 else 0):=by
 have e:∀k:Nat,cumM y (k+1)=cumM y k+lenI y ((k+1:Nat):Int):=λ_=>rfl;have z:cumM y 0=0:=rfl;rw [e 11,e 10,e 9,e 8,e 7,e 6,e 5,e 4,e 3,e 2,e 1,e 0,z];unfold lenI;cases qs y<;>rfl
theorem oQ (y:Int):∀k:Nat,0<=cumM y k/\cumM y k<=31*(k:Int)
 | 0=>by simp [cumM]
 | k+1=>by
  have b:=oQ y k;have a:=ir y ((k+1:Nat):Int);show 0<=cumM y k+lenI y ((k+1:Nat):Int)/\cumM y k+lenI y ((k+1:Nat):Int)<=_;omega
theorem m9 {y:Int} (h:dl y) {m:Nat} (a:m<=24):-8100000000000000000<=dayM y m/\dayM y m<=8100000000000000000:=by
 unfold dl at h;unfold dayM;split
 ·have:=oQ y (m - 1);have:=jv (y:=y) (by omega);omega
 ·have:=oQ (y+1) (m - 13);have:=jv (y:=y+1) (by omega);omega
theorem ND (y:Int):dayM y 13=dayY (y+1):=by
 unfold dayM;rw [ab (by omega)];simp [cumM]
theorem vJ (y:Int) {m:Nat} (b:1<=m) (a:m<=12):dayM y (m+1)=dayM y m+lenI y (m:Int):=by
 obtain ⟨k,rfl⟩:∃k,m=k+1:=⟨m - 1,by omega⟩;have e:dayM y (k+1)=dayY y+cumM y k:=by unfold dayM;rw [ad (by omega)];rfl
 rw [e];by_cases h:k+1=12
 ·obtain rfl:k=11:=by omega
  rw [ND,wi];have:=TA y;have e:cumM y 12=cumM y 11+lenI y ((11+1:Nat):Int):=rfl;omega
 ·have:dayM y (k+1+1)=dayY y+cumM y (k+1):=by unfold dayM;rw [ad (by omega)];rfl
  rw [this];show dayY y+(cumM y k+lenI y ((k+1:Nat):Int))=_;omega
theorem rf (y:Int) {m:Nat} (b:1<=m) (a:m<=12):dayM y (m+12)=dayM (y+1) m:=by
 unfold dayM;rw [ab (by omega),ad a];congr 2
theorem qb (n:Nat) {y:Int} (h:-10000000000000001<=y/\y<=10000000000000001):ku n y=some (dayY y):=by
 have a:=jv (y:=y) (by omega);unfold ku;rw [uQ n (by omega),wrap_i64 (365*y) (by omega) (by omega)];show some (IntKind.wrap .i64 (dayY y))=_;rw [wrap_i64 _ (by omega) (by omega)]
theorem pZ (n:Nat) {y:Int} (h:dl y):kx n y=some (dayY y,0):=by
 unfold kx;have h':=h;unfold dl at h';rw [fc,ad h,qb n (by omega)];rfl
theorem zr (n:Nat) {y:Int} (h:dl y):rN n y=some (dayY (y+1) - 1,0):=by
 unfold rN;have h':=h;unfold dl at h';have a:=jv (y:=y+1) (by omega);rw [fc,ad h,wrap_i64 (y+1) (by omega) (by omega),qb n (by omega)];show some (IntKind.wrap .i64 (dayY (y+1) - 1),(0:Int))=_;rw [wrap_i64 _ (by omega) (by omega)]
theorem CL (n:Nat) {y:Int} (h:dl y) {m:Nat} (c:m<=11):∀(r j:Nat),j+r=m->∀N,r<N->aw (bu n) N (y,dayY y+cumM y j,(m:Int),(j:Int))=some (dayY y+cumM y m):=by
 have h':=h;unfold dl at h';have e:=jv (y:=y) (by omega);intro r
 induction r with
 | zero=>
  intro j b N a;obtain ⟨N,rfl⟩:∃k,N=k+1:=⟨N - 1,by omega⟩;obtain rfl:j=m:=by omega
  have:bu n (y,dayY y+cumM y j,(j:Int),(j:Int))=some (.inr (dayY y+cumM y j)):=by
   unfold bu;rw [bM,ab (show ¬((j:Int)<(j:Int)) by omega)]
  rw [aw,this]
 | succ r ih=>
  intro j b N a;obtain ⟨N,rfl⟩:∃k,N=k+1:=⟨N - 1,by omega⟩;have w:IntKind.wrap .i64 ((j:Int)+1)=((j+1:Nat):Int):=by rw [wrap_i64 _ (by omega) (by omega)];omega
  have hc:=oQ y j;have d:=ir y ((j+1:Nat):Int);have:bu n (y,dayY y+cumM y j,(m:Int),(j:Int))=some (.inl (y,dayY y+cumM y (j+1),(m:Int),((j+1:Nat):Int))):=by
   unfold bu;rw [bM,ad (show ((j:Int)<(m:Int)) by omega)];simp only [w,uS n h (show 1<=j+1 by omega) (show j+1<=12 by omega),ob];rw [wrap_i64 (dayY y+cumM y j+lenI y ((j+1:Nat):Int)) (by omega) (by omega),Int.add_assoc];rfl
  rw [aw,this];exact ih (j+1) (by omega) N (by omega)
theorem rJ (n:Nat) (c:100<n) {y:Int} (h:dl y) {m:Nat} (b:1<=m) (a:m<=12):ei n y (m:Int)=some (dayM y m,0):=by
 unfold ei;have w:IntKind.wrap .i64 ((m:Int) - 1)=((m - 1:Nat):Int):=by rw [wrap_i64 _ (by omega) (by omega)];omega
 rw [DY n h b a,pZ n h,w];have:=CL n h (m:=m - 1) (by omega) (m - 1) 0 (by omega) n (by omega);rw [show dayY y+cumM y 0=dayY y by simp [cumM]] at this;show ob (aw (bu n) n (y,dayY y,((m - 1:Nat):Int),((0:Nat):Int))) _=_;rw [this];unfold dayM;rw [ad a];rfl
theorem A9 (n:Nat) (c:100<n) {y:Int} (h:dl y) {m:Nat} (b:1<=m) (a:m<=12):fQ n y (m:Int)=some (dayM y (m+1) - 1,0):=by
 unfold fQ;have e:=m9 h (m:=m) (by omega);have d:=ir y (m:Int);rw [rJ n c h b a,uS n h b a,vJ y b a];show some (IntKind.wrap .i64 (IntKind.wrap .i64 (dayM y m+lenI y (m:Int)) - 1),(0:Int))=_;rw [wrap_i64 (dayM y m+lenI y (m:Int)) (by omega) (by omega),wrap_i64 _ (by omega) (by omega)]
theorem Gj (n:Nat) (d:100<n) {y:Int} (h:dl y) {j m c:Nat} (l:j<21) (e:md[j]?=some ((m:Int),(c:Int))) (g:1<=m) (f:m<=12) (i:1<=c) (o:c<=6) (hy:12<m+c - 1->y≠10000000000000000):
  gq n y ((21+j:Nat):Int)=some (0,dayM y m,0,dayM y (m+c) - 1,0):=by
 have k:eh n ((21+j:Nat):Int)=some ((m:Int),(c:Int),0):=by
  unfold eh da;rw [bM,bM,ab (by omega),ab (by omega)];have:IntKind.wrap .i64 (((21+j:Nat):Int) - 21)=(j:Int):=by rw [wrap_i64 _ (by omega) (by omega)];omega
  rw [this,di l];show ob (md[j]?) _=_;rw [e];rfl
 unfold gq;rw [k];simp only [ob,eH,ae];rw [rJ n d h g f];simp only [ob,eH,ae];rw [madd n h g f i o];have h':=h;unfold dl at h';by_cases a:12<m+c - 1
 ·rw [ad a,ab (hy a)];have b:dl (y+1):=by unfold dl;have:=hy a;omega
  simp only [ob,eH,ae];rw [A9 n d b (m:=m+c - 1 - 12) (by omega) (by omega)];have:=rf y (m:=m+c - 1 - 12+1) (by omega) (by omega);rw [show m+c - 1 - 12+1+12=m+c by omega] at this;rw [this]
 ·rw [ab a];simp only [ob,eH,ae];rw [A9 n d h (m:=m+c - 1) (by omega) (by omega),show m+c - 1+1=m+c by omega]
theorem wY (n:Nat) {y:Int} (hy:-10000000000000002<=y/\y<=10000000000000002):∀(r:Nat) (z:Int),z+(r:Int)=y->-10000000000000402<=z->∀N,r<N->aw (cq n) N (y,dayY z,z)=some (dayY y):=by
 intro r
 induction r with
 | zero=>
  intro z d a N e;obtain ⟨N,rfl⟩:∃k,N=k+1:=⟨N - 1,by omega⟩;obtain rfl:z=y:=by omega
  have:cq n (z,dayY z,z)=some (.inr (dayY z)):=by
   unfold cq;rw [bM,ab (show ¬(z<z) by omega)]
  rw [aw,this]
 | succ r ih=>
  intro z d a N e;obtain ⟨N,rfl⟩:∃k,N=k+1:=⟨N - 1,by omega⟩;have f:=jv (y:=z) (by omega);have b:=wi z;have:cq n (y,dayY z,z)=some (.inl (y,dayY (z+1),z+1)):=by
   unfold cq;rw [bM,ad (show z<y by omega),yD];have c:lenI z 2=if qs z then 29 else 28:=rfl
   simp only [ob,c];rw [wrap_i64 (dayY z+365) (by omega) (by omega),wrap_i64 (dayY z+365+1) (by omega) (by omega),wrap_i64 (z+1) (by omega) (by omega),b];cases qs z
   ·simp
   ·rfl
  rw [aw,this];exact ih (z+1) (by omega) (by omega) N (by omega)
theorem pF (n:Nat) (e:1000<n) {y:Int} (hy:-10000000000000002<=y/\y<=10000000000000002):bQ n y=some (dayY y):=by
 have b:=Int.mul_tdiv_add_tmod y 400;have d:Int.tmod y 400=if 0<=y then y%400 else -((-y)%400):=by
  by_cases h:0<=y
  ·rw [ad h,G0 h]
  ·rw [ab h,<-G0 (show 0<=-y by omega),Int.neg_tmod,Int.neg_neg]
 unfold bQ;by_cases a:Int.tmod y 400<0
 ·rw [ar a];have c:Int.tdiv y 400 - 1=y / 400:=by
   rw [d] at a b;split at a
   ·omega
   ·rw [ab (by assumption)] at b;omega
  rw [wrap_i64 (Int.tdiv y 400) (by omega) (by omega),c,wrap_i64 (y / 400) (by omega) (by omega),wrap_i64 (y / 400*146097) (by omega) (by omega),wrap_i64 (y / 400*400) (by omega) (by omega)];have:=wY n hy (y - y / 400*400).toNat (y / 400*400) (by omega) (by omega) n (by omega);rw [show dayY (y / 400*400)=y / 400*146097 by rw [wO,Dc,wO]] at this;simp only [aj,this,ob]
 ·rw [aq a];have c:Int.tdiv y 400=y / 400:=by
   rw [d] at a b;split at a
   ·rw [ad (by assumption)] at b;omega
   ·rw [ab (by assumption)] at b;omega
  rw [c,wrap_i64 (y / 400) (by omega) (by omega),wrap_i64 (y / 400*146097) (by omega) (by omega),wrap_i64 (y / 400*400) (by omega) (by omega)];have:=wY n hy (y - y / 400*400).toNat (y / 400*400) (by omega) (by omega) n (by omega);rw [show dayY (y / 400*400)=y / 400*146097 by rw [wO,Dc,wO]] at this;simp only [ae,this,ob]
theorem uF {step:Int×Int×Int×Int->Option ((Int×Int×Int×Int)⊕Int)} (n:Nat)
  (hs:step=λx=>(cond (decide (x.2.2.2<x.2.1)) (ob (dB n x.1 x.2.2.2) λr=>(some (.inl (x.1,x.2.1,(IntKind.wrap .i64 (x.2.2.1+r)),(IntKind.wrap .i64 (x.2.2.2+1)))))) (some (.inr x.2.2.1))))
  {y:Int} (hy:-10000000000000002<=y/\y<=10000000000000002) {m:Nat} (h:1<=m) (b:m<=12) {N:Nat} (a:20<N):aw step N (y,(m:Int),dayY y,1)=some (dayM y m):=by
 have g:=jv (y:=y) (by omega);have c:∀(r j:Nat),j+1+r=m->∀N,r<N->aw step N (y,(m:Int),dayY y+cumM y j,((j+1:Nat):Int))=some (dayY y+cumM y (m - 1)):=by
  intro r
  induction r with
  | zero=>
   intro j d N a;obtain ⟨N,rfl⟩:∃k,N=k+1:=⟨N - 1,by omega⟩;obtain rfl:j+1=m:=by omega
   have:step (y,((j+1:Nat):Int),dayY y+cumM y j,((j+1:Nat):Int))=some (.inr (dayY y+cumM y j)):=by
    rw [hs];simp only [];rw [aq (show ¬(((j+1:Nat):Int)<((j+1:Nat):Int)) by omega)];rfl
   rw [aw,this];rfl
  | succ r ih=>
   intro j d N a;obtain ⟨N,rfl⟩:∃k,N=k+1:=⟨N - 1,by omega⟩;have w:IntKind.wrap .i64 (((j+1:Nat):Int)+1)=((j+1+1:Nat):Int):=by rw [wrap_i64 _ (by omega) (by omega)];omega
   have hc:=oQ y j;have f:=ir y ((j+1:Nat):Int);have:step (y,(m:Int),dayY y+cumM y j,((j+1:Nat):Int))=some (.inl (y,(m:Int),dayY y+cumM y (j+1),((j+1+1:Nat):Int))):=by
    rw [hs];simp only [];rw [ar (show (((j+1:Nat):Int)<(m:Int)) by omega),yD];simp only [aj,ob,w];rw [wrap_i64 (dayY y+cumM y j+lenI y ((j+1:Nat):Int)) (by omega) (by omega),Int.add_assoc];rfl
   rw [aw,this];exact ih (j+1) (by omega) N (by omega)
 have:=c (m - 1) 0 (by omega) N (by omega);rw [show dayY y+cumM y 0=dayY y by simp [cumM]] at this;have e:dayM y m=dayY y+cumM y (m - 1):=by unfold dayM;rw [ad b]
 rw [e];exact this
theorem oM (n:Nat) (a:1000<n) {y:Int} (hy:-10000000000000001<=y/\y<=10000000000000001) {m:Nat} (c:1<=m) (b:m<=24):aM n y (m:Int)=some (dayM y m):=by
 unfold aM;by_cases h:12<m
 ·rw [ar (show (m:Int)>12 by omega),wrap_i64 (y+1) (by omega) (by omega),wrap_i64 ((m:Int) - 12) (by omega) (by omega),show (m:Int) - 12=((m - 12:Nat):Int) by omega];unfold ji;rw [aq (show ¬((m - 12:Nat):Int)>12 by omega),pF n a (by omega)];simp only [aj,ae,ob];have:=uF (step:=gL n) n rfl (y:=y+1) (by omega) (m:=m - 12) (by omega) (by omega) (N:=n) (by omega);rw [this,<-rf y (by omega) (by omega),show m - 12+12=m by omega]
 ·rw [aq (show ¬(m:Int)>12 by omega),pF n a (by omega)];simp only [ae,ob];have:=uF (step:=jl n) n rfl (y:=y) (by omega) (m:=m) (by omega) (by omega) (N:=n) (by omega);rw [this]
def twoV (s:aa):Nat:=match s with
 | [a,b]=>10*(a.toNat - 48)+(b.toNat - 48)
 | _=>0
def yOf (g:Bool) (dg:aa) (x:Int):Int:=if g then -((val dg x.toNat:Nat):Int) else ((val dg x.toNat:Nat):Int)
def spF (m:aa):Nat:=((md.getD (sea m - 21).toNat (0,0)).1).toNat
def spC (m:aa):Nat:=((md.getD (sea m - 21).toNat (0,0)).2).toNat
def mq (g:Bool) (dg:aa) (x:Int) (m d:aa):Int×Int:=
 if m=[] then (dayY (yOf g dg x),dayY (yOf g dg x+1) - 1)
 else if 0<sea m then (dayM (yOf g dg x) (spF m),dayM (yOf g dg x) (spF m+spC m) - 1)
 else if d=[] then (dayM (yOf g dg x) (twoV m),dayM (yOf g dg x) (twoV m+1) - 1)
 else (dayM (yOf g dg x) (twoV m)+(twoV d:Int) - 1,dayM (yOf g dg x) (twoV m)+(twoV d:Int) - 1)
def exD (dg m d:aa) (q:Int):Bool:=!(hasX dg||(hasX m||hasX d))&&(q==0)
theorem M7 {s:aa} (h:hasX s=false) {c:UInt8} (hc:c∈s):c≠88:=by
 rintro rfl;unfold hasX at h;rw [qY] at h;exact h 88 hc (by decide)
theorem H8 {s:aa} (h:hasX s=false) {k:Nat} (l:k<100) (c:agr s k=true):twoV s=k/\s=two k:=by
 unfold agr at c;split at c
 ·rename_i a b;have e:a≠88:=M7 h (by simp);have f:b≠88:=M7 h (by simp);simp only [ay,gC,bU] at c;obtain ⟨g,d⟩:=c;have g:=g.resolve_left e;have d:=d.resolve_left f;subst g d;refine ⟨?_,rfl⟩;unfold twoV;have j:(UInt8.ofNat (48+k / 10)).toNat=48+k / 10:=by simp;omega
  have i:(UInt8.ofNat (48+k%10)).toNat=48+k%10:=by simp;omega
  simp only [j,i];omega
 ·cases c
theorem wz {s:aa} (h:hasX s=false) {g:Nat} (d:g<100) (a:dG s g=true):1<=twoV s/\twoV s<=g/\s=two (twoV s):=by
 unfold dG at a;obtain ⟨i,hi,a⟩:=qe.1 a;have:=jk.1 hi;obtain ⟨c,b⟩:=H8 h (by omega) a;rw [c];exact ⟨by omega,by omega,b⟩
theorem Ir {s:aa} (h:hasX s=false) {g:Nat} (d:g<100) {k:Int} (a:k∈rc (fitN s g)):k=(twoV s:Int):=by
 obtain ⟨i,hi,rfl⟩:=dr.1 a;obtain ⟨c,b⟩:=kw.1 hi;have:=qM.1 c;rw [(H8 h (by omega) b).1]
theorem Em {k:Nat} (c:k<100):Lib.atoi (two k)=some (k:Int):=by
 have a:(UInt8.ofNat (48+k / 10)).toNat=48+k / 10:=by simp;omega
 have b:(UInt8.ofNat (48+k%10)).toNat=48+k%10:=by simp;omega
 unfold two;rw [Ko (by omega) (by omega),a,b];congr 2;omega
theorem xn (n:Nat) {k:Nat} (d:k<100):aT n (two k)=some (k:Int):=by
 have a:(UInt8.ofNat (48+k / 10)).toNat=48+k / 10:=by simp;omega
 have b:(UInt8.ofNat (48+k%10)).toNat=48+k%10:=by simp;omega
 have s0:sx (two k) 0=some (UInt8.ofNat (48+k / 10)):=rfl;have c:sx (two k) 1=some (UInt8.ofNat (48+k%10)):=rfl;unfold aT;rw [s0,c];simp only [ob,a,b]
 rw [eY (((48+k / 10:Nat):Int) - 48) (by omega) (by omega),eY (((48+k%10:Nat):Int) - 48) (by omega) (by omega),
  wrap_i64 (((48+k / 10:Nat):Int) - 48) (by omega) (by omega),wrap_i64 (((48+k%10:Nat):Int) - 48) (by omega) (by omega),
  wrap_i64 (10*(((48+k / 10:Nat):Int) - 48)) (by omega) (by omega),wrap_i64 _ (by omega) (by omega)]
 congr 1;omega
structure Exact (g l:Bool) (dg:aa) (x:Int) (m d:aa):Prop where
 ok:okY g l dg x 0
 num:hasX dg=false
 cal:dl (yOf g dg x)
 mon:m=[]\/(∃j,j<21/\m=two (21+j)/\(j=3\/j=7\/j=9->yOf g dg x≠10000000000000000))\/(sea m=0/\1<=twoV m/\twoV m<=12/\m=two (twoV m))
 day:d=[]\/(m≠[]/\sea m=0/\1<=twoV d/\twoV d<=31/\d=two (twoV d)/\(twoV d:Int)<=lenI (yOf g dg x) (twoV m:Int))
theorem tO {g l:Bool} {dg:aa} {x q:Int} {m d:aa} {k0 k1 k2:Int} (hc:chkF g l dg x q m d k0 k1 k2=0) (f:exD dg m d q=true):q=0/\Exact g l dg x m d:=by
 unfold exD at f;simp only [ay,kn,Dq,bU] at f;obtain ⟨⟨D,o,s⟩,rfl⟩:=f;refine ⟨rfl,?_⟩;have G:=kR hc;obtain ⟨a,Q,N,S,B⟩:=mU G;obtain ⟨n,P,O,T⟩:=Ah G;have i:=A4 a D;obtain ⟨H,_,_⟩:=Bz a;have hy:inP g dg x 0 (yOf g dg x):=by
  have:=(i _).1 H;have e:yOf g dg x=(sgn g (l6 g dg x 0)).1:=by rw [this];rfl
  rw [e];exact H
 have p:=xJ hy;refine ⟨a,D,p,?_,?_⟩
 ·by_cases r:m=[]
  ·exact .inl r
  ·right;rcases mM m with R | ⟨j,I,e⟩
   ·right;rcases P with h | h | h
    ·exact absurd h r
    ·omega
    ·obtain ⟨F,E,u⟩:=wz o (by omega) h;exact ⟨R,F,E,u⟩
   ·left;refine ⟨j,I,e,λM=>?_⟩;unfold yrD at n;rw [ad a] at n;unfold yrB at n;simp only [ay,kn] at n;have v:wint (sea m)=true:=by
     rw [e,jB I];rcases M with rfl | rfl | rfl<;>rfl
    have k:=n.2;rw [v,lZ] at k;unfold pg at k;rw [D] at k;intro b;unfold yOf at b;cases g with
    | true=>
     simp only [aY] at b;omega
    | false=>
     simp only [cE,aG] at b;have:val dg x.toNat=E16:=by unfold E16;omega
     rw [ar this] at k;cases k
 ·by_cases c:d=[]
  ·exact .inl c
  ·right;obtain ⟨r,hs⟩:=B c;rcases O with h | ⟨_,_,h⟩
   ·exact absurd h c
   ·obtain ⟨F,E,u⟩:=wz s (by omega) h;refine ⟨r,hs,F,E,u,?_⟩;have J:hasF g dg x m d:=by
     unfold chkF at hc;split at hc
     ·cases hc
     ·rename_i K;by_cases h:hasF g dg x m d
      ·exact h
      ·exact absurd ⟨G,c,h⟩ K
    obtain ⟨e,f,t⟩:=J;obtain ⟨z,L,C⟩:=List.exists_cons_of_ne_nil t;have C:z∈tD m d e:=by rw [C];exact vL
    obtain ⟨z1,z2,w,y⟩:=DV.1 C;have A:e=yOf g dg x:=(i e).1 f;unfold monI at z2;rw [ab r,ab (by omega)] at z2;unfold dayI at w;rw [ab c] at w;unfold tG at y;rw [ab c,Ir s (by omega) w,Ir o (by omega) z2,A] at y;exact y
theorem C0 {j:Nat} (b:j<21):∃f c:Nat,md[j]?=some ((f:Int),(c:Int))/\1<=f/\f<=12/\1<=c/\c<=6/\(12<f+c - 1↔j=3\/j=7\/j=9)/\spF (two (21+j))=f/\spC (two (21+j))=c:=by
 obtain ⟨f,c,e,k,d,g,i,h⟩:=DI b;have hs:(sea (two (21+j)) - 21).toNat=j:=by rw [jB b];omega
 have a:md.getD j (0,0)=((f:Int),(c:Int)):=by rw [E3,e];rfl
 refine ⟨f,c,e,k,d,g,i,h,?_,?_⟩
 ·unfold spF;rw [hs,a];rfl
 ·unfold spC;rw [hs,a];rfl
theorem AI (n:Nat) {j:Nat} (a:j<21):fS n ((21+j:Nat):Int)=md[j]?:=by
 have:j=0\/j=1\/j=2\/j=3\/j=4\/j=5\/j=6\/j=7\/j=8\/j=9\/j=10\/j=11\/j=12\/j=13\/j=14\/j=15\/j=16\/j=17\/j=18\/j=19\/j=20:=by omega
 rcases this with rfl | rfl | rfl | rfl | rfl | rfl | rfl | rfl | rfl | rfl | rfl | rfl | rfl | rfl | rfl | rfl | rfl | rfl | rfl | rfl | rfl<;>rfl
theorem Dy (n:Nat) (g l:Bool) (dg:aa) (x q:Int) (m d:aa) (k0 k1 k2:Int) (a:m.length<=1000) (b:dg.length<=1000) (h:d.length<=1000):kV n g l dg x q m d k0 k1 k2=some (exD dg m d q):=by
 unfold kV exD;rw [zw n g l dg x q m d k0 k1 k2 a b h];simp only [ob];cases (hasX dg||(hasX m||hasX d))<;>rfl
theorem M8 {Y:Type} (a b:Y):∀s:aa,((s.findSome? λc=>if c=88 then some a else none).getD b)=if hasX s then a else b
 | []=>rfl
 | c::s=>by
  have ih:=M8 a b s;unfold hasX at ih ⊢;rw [zR,List.any_cons];by_cases hc:c=88
  ·subst hc;rfl
  ·rw [ab hc];have e:(c==88)=false:=aL.2 hc;rw [e,vC];exact ih
theorem wq (n:Nat) (s:aa) (g l:Bool) (dg:aa) (x q:Int) (m d:aa) (k0 k1 k2:Int) (hs:s.length<=100000) {N:Nat} (j:s.length<N):
  aw (dq n) N (s,0,g,l,dg,x,q,m,d,k0,k1,k2)=some (if hasX s then .inl 0 else .inr (g,l,dg,x,q,m,d,k0,k1,k2)):=by
 have:=rk (step:=dq n) (f:=λi=>(s,(i:Int),g,l,dg,x,q,m,d,k0,k1,k2)) (L:=s) (G:=λc=>if c=88 then some (.inl 0) else none) (e:=.inr (g,l,dg,x,q,m,d,k0,k1,k2))
  (λi c hi=>by
   have b:=(om.1 hi).1;have a:IntKind.wrap .i64 ((i:Int)+1)=((i+1:Nat):Int):=by rw [wrap_i64 _ (by omega) (by omega)];omega
   unfold dq;simp only [d4,d8,a];rw [ar (show (i:Int)<((s.length:Nat):Int) by omega),lr hi];simp only [aj,ob];by_cases hc:c=88
   ·subst hc;rw [ad rfl];rfl
   ·rw [ab hc];have:(((c.toNat:Nat):Int)==88)=false:=by
     rw [aL];intro h;apply hc;apply jf.1;have:c.toNat=88:=by omega
     rw [this];rfl
    rw [this];rfl)
  (by
   unfold dq;simp only [d4,d8];rw [aq (show ¬((s.length:Nat):Int)<((s.length:Nat):Int) by omega)];rfl)
  j
 rw [show ((0:Nat):Int)=0 from rfl] at this;rw [this];rw [M8]
theorem zh (n:Nat) (g l:Bool) (dg:aa) (x q:Int) (m d:aa) (k0 k1 k2:Int) (f:m.length<=1000) (e:dg.length<=1000) (h:d.length<=1000) (i:4000<n):ba n g l dg x q m d k0 k1 k2=some (if exD dg m d q then 1 else 0):=by
 unfold ba;rw [bN (by omega)];simp only [ob];rw [bN (by rw [bB];omega)];simp only [];rw [wq n _ _ _ _ _ _ _ _ _ _ _ (by simp only [bB];omega) (by simp only [bB];omega)];rw [ud,ud];unfold exD;cases hasX dg<;>cases hasX m<;>cases hasX d<;>(try rfl);simp only [Bool.or_false,cE,aG,ob,d4,ko,lZ];by_cases a:q=0
 ·subst a;rfl
 ·have c:(q != 0)=true:=by simp [a]
  have b:(q==0)=false:=aL.2 a;rw [c,b];rfl
theorem NZ (n:Nat) (c:100<n) {y:Int} (h:dl y) {m k:Nat} (b:1<=m) (a:m<=12) (k1:1<=k) (k2:(k:Int)<=lenI y (m:Int)):pI n y (m:Int) (k:Int)=some (dayM y m+(k:Int) - 1,0):=by
 have e:=m9 h (m:=m) (by omega);have d:=ir y (m:Int);unfold pI ox;rw [Hr n h b a];simp only [ob,eH,ae];rw [aq (show ¬(k:Int)<1 by omega),aq (show ¬(k:Int)>lenI y (m:Int) by omega),rJ n c h b a];simp only [ob,eH,ae];rw [wrap_i64 (dayM y m+(k:Int)) (by omega) (by omega),wrap_i64 _ (by omega) (by omega)]
section
variable {g l:Bool} {dg:List UInt8} {x:Int} {m d:List UInt8} {k0 k1 k2:Int}
theorem Be (n:Nat) (w:100<n) (z:m.length<=18) (E:Exact g l dg x m d) (p r:Int) (F:m≠[]->p=if 0<sea m then sea m else (twoV m:Int)) (Q:d≠[]->r=(twoV d:Int)):
  (ob (hZ n) λG=>(ob (aZ n g l dg x 0 m d k0 k1 k2) λk=>(cond (k==0) (ob (eW n (yOf g dg x) ([p,r]:List (Int))) λi=>(some (i.1,i.2.1,i.2.2.1,i.2.2.2,(0:Int)))) (cond (k==1) (ob (fh n (yOf g dg x) ([p,r]:List (Int))) λa=>(some (a.1,a.2.1,a.2.2.1,a.2.2.2,0))) (cond (k==2) (ob (eX n (yOf g dg x) ([p,r]:List (Int))) λb=>(some (b.1,b.2.1,b.2.2.1,b.2.2.2,0))) (cond (k==3) (ob (eZ n (yOf g dg x) ([p,r]:List (Int))) λo=>(some (o.1,o.2.1,o.2.2.1,o.2.2.2,0))) none)))))) =
   some (0,(mq g dg x m d).1,0,(mq g dg x m d).2,0):=by
 have R:hZ n=some ():=rfl;have y:ix ([p,r]:List Int).length 0=some 0:=rfl;have O:ix ([p,r]:List Int).length 1=some 1:=rfl;have g0:([p,r]:List Int)[0]?=some p:=rfl;have J:([p,r]:List Int)[1]?=some r:=rfl;rw [R,Js n g l dg x 0 m d k0 k1 k2 z];unfold mq;by_cases t:d=[]
 ·rw [ad t];by_cases q:m=[]
  ·have hs:sea m=0:=by rw [q];decide
   rw [ab (show ¬0<sea m by omega),ad q,ad q];unfold fh;rw [pZ n E.cal,zr n E.cal];rfl
  ·rw [ab q];by_cases hs:0<sea m
   ·rw [ad hs,ad hs];rcases E.mon with h | ⟨j,s,e,A⟩ | ⟨h,_⟩
    ·exact absurd h q
    ·obtain ⟨f,c,S,v,u,I,L,H,K,N⟩:=C0 s;have B:p=((21+j:Nat):Int):=by rw [F q,ad hs,e,jB s]
     unfold eW;rw [y];simp only [ob,g0];rw [B,Gj n w E.cal s S v u I L (λh=>A (H.1 h)),e,K,N];rfl
    ·omega
   ·rw [ab hs,ab hs,ab q,ad t];rcases E.mon with h | ⟨j,s,e,A⟩ | ⟨_,v,u,_⟩
    ·exact absurd h q
    ·rw [e,jB s] at hs;omega
    ·have B:p=(twoV m:Int):=by rw [F q,ab hs]
     unfold eX;rw [y];simp only [ob,g0];rw [B,rJ n w E.cal v u,A9 n w E.cal v u];rfl
 ·rw [ab t];rcases E.day with h | ⟨q,hs,P,T,U,M⟩
  ·exact absurd h t
  ·rw [ab q,ab (show ¬0<sea m by omega),ab t];rcases E.mon with h | ⟨j,s,e,A⟩ | ⟨_,v,u,_⟩
   ·exact absurd h q
   ·rw [e,jB s] at hs;omega
   ·have D:p=(twoV m:Int):=by rw [F q,ab (by omega)]
    have C:=Q t;unfold eZ;rw [y,O];simp only [ob,g0,J];rw [D,C,NZ n w E.cal v u P M];rfl
theorem LY (E:Exact g l dg x m d) (b:m≠[]):Lib.atoi m=some (if 0<sea m then sea m else (twoV m:Int)):=by
 rcases E.mon with h | ⟨j,a,e,_⟩ | ⟨n,i,f,c⟩
 ·exact absurd h b
 ·rw [e,jB a,ad (by omega)];exact vb a
 ·rw [ab (by omega)];have:=Em (k:=twoV m) (by omega);rw [<-c] at this;exact this
theorem KI (E:Exact g l dg x m d) (a:d≠[]):Lib.atoi d=some (twoV d:Int):=by
 rcases E.day with h | ⟨_,_,e,c,b,_⟩
 ·exact absurd h a
 ·have:=Em (k:=twoV d) (by omega);rw [<-b] at this;exact this
theorem xL:Lib.atoi []=none:=by kernel_rfl
theorem CU {q:Int} (b:m.length<=18) (e:dg.length<=100) (o:d.length<=18) (p:0<=k0) (t:0<=k1) (n:0<=k2):
  fb 20000000 g l dg x q m d k0 k1 k2=some (if chkF g l dg x q m d k0 k1 k2=0 then (if exD dg m d q=true then (0,(mq g dg x m d).1,0,(mq g dg x m d).2,0) else (0,0,0,0,1)) else (0,0,0,0,chkF g l dg x q m d k0 k1 k2)):=by
 have k:Nat.ble m.length 18=true:=cU b;have s:Nat.ble d.length 18=true:=cU o;unfold fb;rw [y7 b e p t n];simp only [ob];by_cases hc:chkF g l dg x q m d k0 k1 k2=0
 ·rw [ad hc,hc,Dy 20000000 g l dg x q m d k0 k1 k2 (by omega) (by omega) (by omega)];simp only [ob,eH,ae];by_cases c:exD dg m d q=true
  ·rw [ad c,c];obtain ⟨rfl,E⟩:=tO hc c;have r:dF 20000000 g l dg x 0=some (yOf g dg x,0):=by
    rw [xR 20000000 g l dg x 0 (by omega) e,ad ⟨E.ok,E.num⟩];rfl
   rw [r,k,s];simp only [eG,ae,aj,ob];by_cases f:m=[]
   ·have a:d=[]:=by
     rcases E.day with h | ⟨h,_⟩
     ·exact h
     ·exact absurd f h
    have:=Be (k0:=k0) (k1:=k1) (k2:=k2) 20000000 (by omega) b E 0 0 (λh=>absurd f h) (λh=>absurd a h);have i:Lib.atoi m=none:=by rw [f];exact xL
    have j:Lib.atoi d=none:=by rw [a];exact xL
    rw [i,j];simp only [opt];exact this
   ·have i:=LY E f;by_cases a:d=[]
    ·have:=Be (k0:=k0) (k1:=k1) (k2:=k2) 20000000 (by omega) b E (if 0<sea m then sea m else (twoV m:Int)) 0 (λ_=>rfl) (λh=>absurd a h);have j:Lib.atoi d=none:=by rw [a];exact xL
     rw [i,j];simp only [opt];exact this
    ·have:=Be (k0:=k0) (k1:=k1) (k2:=k2) 20000000 (by omega) b E (if 0<sea m then sea m else (twoV m:Int)) (twoV d:Int) (λ_=>rfl) (λ_=>rfl);rw [i,KI E a];simp only [opt];exact this
  ·rw [ab c];rw [EI] at c;rw [c];rfl
 ·rw [ab hc,bne0 hc];rfl
theorem so (E:Exact g l dg x m d) (K:dg.length<=100):aR 20000000 g l dg x 0 m d k0 k1 k2=some (mq g dg x m d):=by
 obtain ⟨k,q,rfl,Y,I⟩:=qj E.ok E.num;have hk:k<=17:=by have:=I.wide;omega
 have hs:=I.small;have D:ak 20000000 dg (k:Int)=some (((val dg k:Nat):Int),1):=by
  rw [iG 20000000 dg k I.dig K (by omega) (by omega),ad I.small];rfl
 have T:dval 0 dg*10 ^ k=val dg k:=rfl;rw [T] at hs;unfold E16 at hs;have hy:yOf g dg (k:Int)=if g then -((val dg k:Nat):Int) else ((val dg k:Nat):Int):=by unfold yOf;rw [bY]
 have G:=E.cal;unfold dl at G;have key:∀y:Int,y=yOf g dg (k:Int)->
   (ob (aJ 20000000 g l dg (k:Int) 0 m d k0 k1 k2) λb=>(cond (m==([]:aa)) (ob (bQ 20000000 y) λo=>(ob (bQ 20000000 (IntKind.wrap .i64 (y+1))) λv=>(some (o,(IntKind.wrap .i64 (v - 1)))))) (cond (decide (b>0)) (ob (fS 20000000 b) λa=>(ob (aM 20000000 y a.1) λt=>(ob (aM 20000000 y (IntKind.wrap .i64 (a.1+a.2))) λs=>(some (t,(IntKind.wrap .i64 (s - 1))))))) (cond (d==([]:aa)) (ob (aT 20000000 m) λz=>(ob (aM 20000000 y z) λp=>(ob (aT 20000000 m) λA=>(ob (aM 20000000 y (IntKind.wrap .i64 (A+1))) λr=>(some (p,(IntKind.wrap .i64 (r - 1)))))))) (ob (aT 20000000 m) λu=>(ob (aM 20000000 y u) λi=>(ob (aT 20000000 d) λn=>(some ((IntKind.wrap .i64 ((IntKind.wrap .i64 (i+n)) - 1)),(IntKind.wrap .i64 ((IntKind.wrap .i64 (i+n)) - 1)))))))))) )=some (mq g dg (k:Int) m d):=by
  intro y L;subst L;have hcal':=E.cal;have rY:=jv (y:=yOf g dg (k:Int)+1) (by omega);rw [kF 20000000 (by omega)];simp only [ob];unfold mq;by_cases B:m=[]
  ·have e:(m==([]:aa))=true:=by rw [B];rfl
   rw [ad B,e,pF 20000000 (by omega) (by omega),wrap_i64 (yOf g dg (k:Int)+1) (by omega) (by omega),pF 20000000 (by omega) (by omega)];simp only [aj,ob];rw [wrap_i64 _ (by omega) (by omega)]
  ·rw [ab B,eI B];simp only [ae];by_cases hs:0<sea m
   ·rw [ad hs,ar (show sea m>0 from hs)];rcases E.mon with h | ⟨j,F,e,_⟩ | ⟨h,_⟩
    ·exact absurd h B
    ·obtain ⟨f,c,W,J,S,O,Z,X,P,R⟩:=C0 F;have N:sea m=((21+j:Nat):Int):=by rw [e,jB F]
     have V:=m9 hcal' (m:=f+c) (by omega);rw [N,AI 20000000 F,W];simp only [aj,ob];rw [oM 20000000 (by omega) (by omega) J (by omega)];simp only [ob];rw [wrap_i64 ((f:Int)+(c:Int)) (by omega) (by omega),show (f:Int)+(c:Int)=((f+c:Nat):Int) by omega,oM 20000000 (by omega) (by omega) (by omega) (by omega)];simp only [ob];rw [wrap_i64 _ (by omega) (by omega),e,P,R]
    ·omega
   ·rw [ab hs,aq (show ¬sea m>0 from hs)];simp only [ae];rcases E.mon with h | ⟨j,F,e,_⟩ | ⟨_,J,S,O⟩
    ·exact absurd h B
    ·rw [e,jB F] at hs;omega
    ·have M:=xn 20000000 (k:=twoV m) (by omega);rw [<-O] at M;have V:=m9 hcal' (m:=twoV m) (by omega);have Q:=m9 hcal' (m:=twoV m+1) (by omega);by_cases C:d=[]
     ·have e:(d==([]:aa))=true:=by rw [C];rfl
      rw [ad C,e,M];simp only [aj,ob];rw [oM 20000000 (by omega) (by omega) J (by omega)];simp only [ob];rw [wrap_i64 ((twoV m:Int)+1) (by omega) (by omega),show (twoV m:Int)+1=((twoV m+1:Nat):Int) by omega,oM 20000000 (by omega) (by omega) (by omega) (by omega)];simp only [ob];rw [wrap_i64 _ (by omega) (by omega)]
     ·rw [ab C,eI C];rcases E.day with h | ⟨_,_,b1,b2,U,b4⟩
      ·exact absurd h C
      ·have H:=xn 20000000 (k:=twoV d) (by omega);rw [<-U] at H;rw [M];simp only [ae,ob];rw [oM 20000000 (by omega) (by omega) J (by omega),H];simp only [ob];rw [wrap_i64 (dayM (yOf g dg (k:Int)) (twoV m)+(twoV d:Int)) (by omega) (by omega),wrap_i64 _ (by omega) (by omega)]
 unfold aR;rw [D];simp only [ob];cases g with
 | true=>
  have w:IntKind.wrap .i64 (0 - ((val dg k:Nat):Int))=yOf true dg (k:Int):=by
   rw [wrap_i64 _ (by omega) (by omega),hy];simp
  rw [w];simp only [aj];exact key _ rfl
 | false=>
  have w:((val dg k:Nat):Int)=yOf false dg (k:Int):=by rw [hy];rfl
  rw [w];simp only [ae];exact key _ rfl
end
end Go.Sh
