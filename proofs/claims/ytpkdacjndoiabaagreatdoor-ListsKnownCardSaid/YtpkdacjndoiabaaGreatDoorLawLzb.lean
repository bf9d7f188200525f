/- Plain proofs, kept as far as they are needed here (printed by prune.py).
   Conditions: none. -/
import Derived.Test.YtpkdacjndoiabaaGreatDoorLawLza
set_option linter.unusedVariables false
set_option linter.unusedSimpArgs false
set_option maxRecDepth 100000
namespace Go.Sh
open Go.Abs
def cE (A B:Nat) (w:aa):aa:=mt A++w++mt B
def sD (g l:Bool) (dg:aa) (x q:Int) (m d:aa) (k0 k1 k2:Nat):aa:=
 cE (plA (da m d) k0 k1 k2).1 (plB (da m d) k0 k1 k2).1 (iO g l dg x q)
  ++ ((if m=[] then [] else 45::cE (plA (da m d) k0 k1 k2).2.1 (plB (da m d) k0 k1 k2).2.1 m)
  ++ (if d=[] then [] else 45::cE (plA (da m d) k0 k1 k2).2.2 (plB (da m d) k0 k1 k2).2.2 d))
structure OkD (g l:Bool) (dg:aa) (x q:Nat) (m d:aa) (k0 k1 k2:Nat):Prop where
 yr:okY g l dg (x:Int) (q:Int)
 x16:x<=16
 q17:q<=17
 dg17:dg.length<=17
 noM:0<q->m=[]
 mon:m=[]\/(m.length=2/\∀c∈m,isDX c=true)
 day:d=[]\/(m≠[]/\d.length=2/\∀c∈d,isDX c=true)
 m0:k0<4
 m1:k1<4
 m2:k2<4
 z1:da m d<2->k1=0
 z2:da m d<3->k2=0
theorem Gp {g l:Bool} {dg:aa} {x q:Int} {m d:aa} {k0 k1 k2:Int} (p0:0<=k0) (p1:0<=k1) (p2:0<=k2) (h:chkD g l dg x q m d k0 k1 k2=0):
  ∃x' q' a b c:Nat,x=(x':Int)/\q=(q':Int)/\k0=(a:Int)/\k1=(b:Int)/\k2=(c:Int)/\OkD g l dg x' q' m d a b c:=by
 obtain ⟨hy,hm,hd,hk⟩:=Kq h
 unfold yrD at hy
 by_cases hok:okY g l dg x q
 rotate_left
 ·rw [ab hok] at hy;cases hy
 rw [ae hok] at hy
 obtain ⟨s1,s2,s3,s4,s5,s6⟩:=ki hok
 have hk':¬(3<k0\/3<k1\/3<k2\/(da m d<2/\k1≠0)\/(da m d<3/\k2≠0)):=by
  intro z
  unfold allM at hk
  rw [ae z] at hk
  exact absurd hk (by decide)
 refine ⟨x.toNat,q.toNat,k0.toNat,k1.toNat,k2.toNat,by omega,by omega,by omega,by omega,by omega,?_⟩
 rw [<-Gg s1,<-Gg s3] at hok
 refine ⟨hok,by omega,by omega,s6,?_,?_,?_,by omega,by omega,by omega,by omega,by omega⟩
 ·intro hq
  unfold yrB at hy
  have hq':decide (0<q)=true:=by simp;omega
  rw [hq'] at hy
  by_cases hm0:m=[]
  ·exact hm0
  ·have:(m==[])=false:=aN.2 hm0
   rw [this] at hy
   simp at hy
 ·rcases hm with hm | hm | hm
  ·exact .inl hm
  ·exact .inr (KD hm)
  ·exact .inr (qR (by omega) hm)
 ·rcases hd with hd | ⟨hd,_,h31⟩
  ·exact .inl hd
  ·have:=qR (show 31<=31 by omega) h31
   exact .inr ⟨hd,this.1,this.2⟩
theorem LM (n k i:Nat) (hi:i<k) (hk:k<=3) (A B:List Nat) (a b:Nat) (ha:A[i]?=some a) (hb:B[i]?=some b) (a4:a<4) (b4:b<4) (ws:List (aa)) (hl:ws.length=k) (w:aa) (w0 w1 w2:aa) (hw:[w0,w1,w2][i]?=some w) (hwl:w.length<=1000):
  aS n (k,(k:Int),(i:Int),A.map cI,B.map cI,ws,[w0,w1,w2])=some (.inl (k,(k:Int),((i+1:Nat):Int),A.map cI,B.map cI,ws.set i (cE a b w),[w0,w1,w2])):=by
 have w2':IntKind.wrap .i64 ((i:Int)+1)=((i+1:Nat):Int):=by rw [wrap_i64 _ (by omega) (by omega)];omega
 have hA:(A.map cI)[i]?=some (a:Int):=by rw [my,ha];rfl
 have hB:(B.map cI)[i]?=some (b:Int):=by rw [my,hb];rfl
 have hmt:∀z:Nat,z<4->(mt z).length<=1:=λz hz=>by
  unfold mt
  split
  ·simp
  ·split
   ·simp
   ·split<;>simp
 unfold aS
 rw [bD,ae (show (i:Int)<(k:Int) by omega)]
 simp only [dp hi,dp (show i<3 by omega),ob,hw,d4,hA,hB,(CX n a a4).1,(CX n b b4).1]
 have c1:=hmt a a4
 have c2:=hmt b b4
 have q1:cat (mt a) w=some (mt a++w):=bZ (by omega)
 have q2:cat (mt a++w) (mt b)=some (mt a++w++mt b):=bZ (by rw [aM];omega)
 rw [q1]
 simp only [ob]
 rw [q2]
 simp only [ob]
 have hi':i<ws.length:=by omega
 obtain ⟨v,hv⟩:∃v,ws[i]?=some v:=⟨ws[i],bp hi'⟩
 rw [dp hi']
 simp only [ob,hv,w2']
 rfl
theorem Dh (n k:Nat) (A B:List Int) (ws V:List (aa)):aS n (k,(k:Int),(k:Int),A,B,ws,V)=some (.inr ws):=by
 unfold aS
 rw [bD,ab (show ¬((k:Int)<(k:Int)) by omega)]
theorem mJ (a b:Nat) (w:aa):(cE a b w).length<=w.length+2:=by
 have hmt:∀z:Nat,(mt z).length<=1:=λz=>by
  unfold mt
  split
  ·simp
  ·split
   ·simp
   ·split<;>simp
 have:=hmt a
 have:=hmt b
 unfold cE
 simp only [aM]
 omega
theorem KO:da [] []=1:=rfl
theorem FA {m:aa} (h:m≠[]):da m []=2:=by unfold da;rw [aN.2 h];rfl
theorem FC {m d:aa} (h:m≠[]) (h2:d≠[]):da m d=3:=by unfold da;rw [aN.2 h,aN.2 h2];rfl
theorem oh {d:aa} (h:d.length=2):d≠[]:=by rintro rfl;simp at h
theorem OW (n:Nat) (g l:Bool) (dg:aa) (x q:Nat) (m d:aa) (k0 k1 k2:Nat) (hm:m.length<=18) (hd:dg.length<=100):
  fb (n+300) g l dg (x:Int) (q:Int) m d (k0:Int) (k1:Int) (k2:Int)=some (if chkD g l dg (x:Int) (q:Int) m d (k0:Int) (k1:Int) (k2:Int)=0 then (sD g l dg (x:Int) (q:Int) m d k0 k1 k2,0) else ([],chkD g l dg (x:Int) (q:Int) m d (k0:Int) (k1:Int) (k2:Int))):=by
 unfold fb
 rw [AD (n+300) (by omega) g l dg _ _ m d _ _ _ hm hd (by omega) (by omega) (by omega)]
 show cond (chkD g l dg (x:Int) (q:Int) m d (k0:Int) (k1:Int) (k2:Int) != 0) _ _=_
 rw [vc]
 by_cases h0:chkD g l dg (x:Int) (q:Int) m d (k0:Int) (k1:Int) (k2:Int)=0
 rotate_left
 ·rw [ab h0,ab h0]
 rw [ae h0,ae h0]
 obtain ⟨x',q',a,b,c,e1,e2,e3,e4,e5,hok⟩:=Gp (by omega) (by omega) (by omega) h0
 obtain rfl:x=x':=by omega
 obtain rfl:q=q':=by omega
 obtain rfl:k0=a:=by omega
 obtain rfl:k1=b:=by omega
 obtain rfl:k2=c:=by omega
 have hc:=oi m d
 have hpl:=(SN n (da m d) k0 k1 k2 hc hok.m0 hok.m1 hok.m2 hok.z1 hok.z2).1
 obtain ⟨l0,l1,l2,l3',l4,l5⟩:=Qe (k:=da m d) hok.m0 hok.m1 hok.m2
 rw [sP (n+300) (by omega)]
 simp only [ob]
 rw [hpl,zM (n+300) g l dg _ _ (by omega) hd,ae hok.yr]
 simp only [ob,eM,af,Kz hok.yr,aj]
 have hcnd:(decide ((0:Int)<=((da m d:Nat):Int))&&(decide (((da m d:Nat):Int)<=((da m d:Nat):Int))&&decide (((da m d:Nat):Int)<=(67108864:Int))))=true:=by
  rw [ar (by omega),ar (by omega),ar (by omega)];rfl
 rw [hcnd,gG (show da m d<=3 by omega)]
 simp only [ob,aj,bV]
 have hyl:=wP hok.yr
 have q1:Nat.ble 1 140737488355328=true:=rfl
 have q2:Nat.ble 2 140737488355328=true:=rfl
 have q3:Nat.ble 3 140737488355328=true:=rfl
 unfold sD
 generalize iO g l dg (x:Int) (q:Int)=Y at hyl
 generalize hpA:plA (da m d) k0 k1 k2=PA at *
 generalize hpB:plB (da m d) k0 k1 k2=PB at *
 obtain ⟨A0,A1,A2⟩:=PA
 obtain ⟨B0,B1,B2⟩:=PB
 simp only at l0 l1 l2 l3' l4 l5
 have st:=λ(k i:Nat) (hi:i<k) (hk:k<=3) (a b:Nat) (ha:[A0,A1,A2][i]?=some a) (hb:[B0,B1,B2][i]?=some b) (a4:a<4) (b4:b<4) (ws:List (aa)) (hl:ws.length=k) (w:aa) (w0 w1 w2:aa) (hw:[w0,w1,w2][i]?=some w) (hwl:w.length<=1000)=>LM (n+300) k i hi hk [A0,A1,A2] [B0,B1,B2] a b ha hb a4 b4 ws hl w w0 w1 w2 hw hwl
 have big:∀L:aa,L.length<=1000->Nat.ble L.length 140737488355328=true:=λL h=>dG (by omega)
 by_cases hm0:m=[]
 ·have hd0:d=[]:=hok.day.resolve_right (λz=>z.1 hm0)
  subst hm0 hd0
  show ob (am (aS (n+300)) (n+299+1) (1,((1:Nat):Int),((0:Nat):Int),[A0,A1,A2].map cI,[B0,B1,B2].map cI,[[]],[Y,[],[]])) _=_
  rw [am,st 1 0 (by omega) (by omega) A0 B0 rfl rfl l0 l3' [[]] rfl Y Y [] [] rfl (by omega)]
  show ob (am (aS (n+300)) (n+298+1) (1,((1:Nat):Int),((1:Nat):Int),[A0,A1,A2].map cI,[B0,B1,B2].map cI,[cE A0 B0 Y],[Y,[],[]])) _=_
  rw [am,Dh]
  simp only [ob]
  have e:Lib.join [cE A0 B0 Y] [45]=cE A0 B0 Y:=Lib.join_one _ _
  have hw:=mJ A0 B0 Y
  rw [e,big _ (by omega)]
  simp [q1]
 ·have hml:m.length=2:=(hok.mon.resolve_left hm0).1
  by_cases hd0:d=[]
  ·subst hd0
   rw [FA hm0] at hpA hpB ⊢
   show ob (am (aS (n+300)) (n+299+1) (2,((2:Nat):Int),((0:Nat):Int),[A0,A1,A2].map cI,[B0,B1,B2].map cI,[[],[]],[Y,m,[]])) _=_
   rw [am,st 2 0 (by omega) (by omega) A0 B0 rfl rfl l0 l3' [[],[]] rfl Y Y m [] rfl (by omega)]
   show ob (am (aS (n+300)) (n+298+1) (2,((2:Nat):Int),((1:Nat):Int),[A0,A1,A2].map cI,[B0,B1,B2].map cI,[cE A0 B0 Y,[]],[Y,m,[]])) _=_
   rw [am,st 2 1 (by omega) (by omega) A1 B1 rfl rfl l1 l4 [cE A0 B0 Y,[]] rfl m Y m [] rfl (by omega)]
   show ob (am (aS (n+300)) (n+297+1) (2,((2:Nat):Int),((2:Nat):Int),[A0,A1,A2].map cI,[B0,B1,B2].map cI,[cE A0 B0 Y,cE A1 B1 m],[Y,m,[]])) _=_
   rw [am,Dh]
   simp only [ob]
   have e:Lib.join [cE A0 B0 Y,cE A1 B1 m] [45]=cE A0 B0 Y++(45::cE A1 B1 m):=by rw [Lib.join_cons];simp [Lib.joinTail]
   have hw:=mJ A0 B0 Y
   have hw1:=mJ A1 B1 m
   rw [e,big _ (by simp only [aM,aD];omega)]
   rw [ab hm0]
   simp [q2]
  ·have hdl:d.length=2:=(hok.day.resolve_left hd0).2.1
   rw [FC hm0 hd0] at hpA hpB ⊢
   show ob (am (aS (n+300)) (n+299+1) (3,((3:Nat):Int),((0:Nat):Int),[A0,A1,A2].map cI,[B0,B1,B2].map cI,[[],[],[]],[Y,m,d])) _=_
   rw [am,st 3 0 (by omega) (by omega) A0 B0 rfl rfl l0 l3' [[],[],[]] rfl Y Y m d rfl (by omega)]
   show ob (am (aS (n+300)) (n+298+1) (3,((3:Nat):Int),((1:Nat):Int),[A0,A1,A2].map cI,[B0,B1,B2].map cI,[cE A0 B0 Y,[],[]],[Y,m,d])) _=_
   rw [am,st 3 1 (by omega) (by omega) A1 B1 rfl rfl l1 l4 [cE A0 B0 Y,[],[]] rfl m Y m d rfl (by omega)]
   show ob (am (aS (n+300)) (n+297+1) (3,((3:Nat):Int),((2:Nat):Int),[A0,A1,A2].map cI,[B0,B1,B2].map cI,[cE A0 B0 Y,cE A1 B1 m,[]],[Y,m,d])) _=_
   rw [am,st 3 2 (by omega) (by omega) A2 B2 rfl rfl l2 l5 [cE A0 B0 Y,cE A1 B1 m,[]] rfl d Y m d rfl (by omega)]
   show ob (am (aS (n+300)) (n+296+1) (3,((3:Nat):Int),((3:Nat):Int),[A0,A1,A2].map cI,[B0,B1,B2].map cI,[cE A0 B0 Y,cE A1 B1 m,cE A2 B2 d],[Y,m,d])) _=_
   rw [am,Dh]
   simp only [ob]
   have e:Lib.join [cE A0 B0 Y,cE A1 B1 m,cE A2 B2 d] [45]=cE A0 B0 Y++(45::cE A1 B1 m++(45::cE A2 B2 d)):=by rw [Lib.join_cons];simp [Lib.joinTail]
   have hw:=mJ A0 B0 Y
   have hw1:=mJ A1 B1 m
   have hw2:=mJ A2 B2 d
   rw [e,big _ (by simp only [aM,aD];omega)]
   rw [ab hm0,ab hd0]
   simp [q3]
theorem GT (n:Nat) {g l:Bool} {dg:aa} {x q:Nat} {m d:aa} {k0 k1 k2:Nat} (hok:OkD g l dg x q m d k0 k1 k2):
  ee (n+300) g l dg (x:Int) (q:Int) m d (k0:Int) (k1:Int) (k2:Int)=some (sD g l dg (x:Int) (q:Int) m d k0 k1 k2):=by
 have hc:=oi m d
 have hpl:=(SN n (da m d) k0 k1 k2 hc hok.m0 hok.m1 hok.m2 hok.z1 hok.z2).2
 obtain ⟨l0,l1,l2,l3',l4,l5⟩:=Qe (k:=da m d) hok.m0 hok.m1 hok.m2
 have hyl:=wP hok.yr
 have hx:=hok.x16
 have hq:=hok.q17
 have hdg:=hok.dg17
 unfold ee
 rw [nP (n+300)]
 simp only [ob]
 rw [hpl,NM (n+300) g l dg x q (by omega) (by omega) (by omega)]
 unfold sD
 generalize iO g l dg (x:Int) (q:Int)=Y at hyl ⊢
 generalize hpA:plA (da m d) k0 k1 k2=PA at *
 generalize hpB:plB (da m d) k0 k1 k2=PB at *
 obtain ⟨A0,A1,A2⟩:=PA
 obtain ⟨B0,B1,B2⟩:=PB
 simp only at l0 l1 l2 l3' l4 l5
 have hmt:∀z:Nat,(mt z).length<=1:=λz=>by
  unfold mt
  split
  ·simp
  ·split
   ·simp
   ·split<;>simp
 have hA0:=hmt A0
 have hA1:=hmt A1
 have hA2:=hmt A2
 have hB0:=hmt B0
 have hB1:=hmt B1
 have hB2:=hmt B2
 have hml:m.length<=2:=by
  rcases hok.mon with h | h
  ·rw [h];simp
  ·omega
 have hdl:d.length<=2:=by
  rcases hok.day with h | h
  ·rw [h];simp
  ·omega
 have i0:∀a b c:Nat,(l3 (a,b,c))[0]?=some (a:Int):=λ_ _ _=>rfl
 have i1:∀a b c:Nat,(l3 (a,b,c))[1]?=some (b:Int):=λ_ _ _=>rfl
 have i2:∀a b c:Nat,(l3 (a,b,c))[2]?=some (c:Int):=λ_ _ _=>rfl
 have cc:∀a b:aa,a.length+b.length<=1000000->cat a b=some (a++b):=λa b h=>bZ h
 simp only [ob,i0,i1,i2,(CX (n+300) A0 l0).2,(CX (n+300) A1 l1).2,(CX (n+300) A2 l2).2,(CX (n+300) B0 l3').2,(CX (n+300) B1 l4).2,(CX (n+300) B2 l5).2]
 rw [cc (mt A0) Y (by omega)]
 simp only [ob]
 rw [cc _ (mt B0) (by simp only [aM];omega)]
 simp only [ob]
 have k1':decide (((da m d:Nat):Int)>1)=decide (1<da m d):=by rw [nq];omega
 have k2':decide (((da m d:Nat):Int)>2)=decide (2<da m d):=by rw [nq];omega
 rw [k1',k2']
 by_cases hm0:m=[]
 ·have hd0:d=[]:=hok.day.resolve_right (λz=>z.1 hm0)
  subst hm0 hd0
  rw [KO]
  simp [cE]
 ·by_cases hd0:d=[]
  ·subst hd0
   rw [FA hm0,ab hm0]
   simp only [show decide (1<2)=true from rfl,show decide (2<2)=false from rfl,aj,af]
   rw [cc [45] (mt A1) (by simp;omega)]
   simp only [ob]
   rw [cc _ m (by simp only [aM,aD,bj];omega)]
   simp only [ob]
   rw [cc _ (mt B1) (by simp only [aM,aD,bj];omega)]
   simp only [ob]
   rw [cc _ _ (by simp only [aM,aD,bj];omega)]
   simp [cE]
  ·rw [FC hm0 hd0,ab hm0,ab hd0]
   simp only [show decide (1<3)=true from rfl,show decide (2<3)=true from rfl,aj,af]
   rw [cc [45] (mt A1) (by simp;omega)]
   simp only [ob]
   rw [cc _ m (by simp only [aM,aD,bj];omega)]
   simp only [ob]
   rw [cc _ (mt B1) (by simp only [aM,aD,bj];omega)]
   simp only [ob]
   rw [cc _ _ (by simp only [aM,aD,bj];omega)]
   simp only [ob]
   rw [cc [45] (mt A2) (by simp;omega)]
   simp only [ob]
   rw [cc _ d (by simp only [aM,aD,bj];omega)]
   simp only [ob]
   rw [cc _ (mt B2) (by simp only [aM,aD,bj];omega)]
   simp only [ob]
   rw [cc _ _ (by simp only [aM,aD,bj];omega)]
   simp [cE]
def isMk (c:UInt8):Bool:=decide (0<mkOf c)
theorem fB {S u v:aa} {a:Nat} (h:S.drop a=u++v):S.drop (a+u.length)=v:=by
 rw [<-kR,h,A7]
 rfl
theorem IT {A:Nat} (hA:A<4) {r:aa} (hr:cN isMk r):mkS (mt A++r)=A/\mkN (mt A++r)=(mt A).length:=by
 have h0:mkS r=0:=by
  cases r with
  | nil=>rfl
  | cons c r=>
   have:=hr c rfl
   unfold isMk at this
   have:=of_decide_eq_false this
   show mkOf c=0
   omega
 have h:A=0\/A=1\/A=2\/A=3:=by omega
 rcases h with rfl | rfl | rfl | rfl
 ·refine ⟨h0,?_⟩
  show mkN r=0
  unfold mkN
  rw [ae h0]
 ·exact ⟨rfl,rfl⟩
 ·exact ⟨rfl,rfl⟩
 ·exact ⟨rfl,rfl⟩
theorem dO {p:UInt8->Bool} {c:UInt8} {r:aa} (h:p c=false):cN p (c::r):=λc' hc=>by
 simp only [qg,aq] at hc
 rw [<-hc];exact h
theorem I3 {p:UInt8->Bool} (B:Nat) {r:aa} (h1:p 63=false) (h2:p 126=false) (h3:p 37=false) (hr:cN p r):cN p (mt B++r):=by
 unfold mt
 split
 ·exact dO h1
 ·split
  ·exact dO h2
  ·split
   ·exact dO h3
   ·exact hr
theorem QN {c:UInt8} (h:isDX c=true):isMk c=false:=by
 have:=np (λc=>!(isDX c)||!(isMk c)) (by decide +kernel) c
 rw [h] at this
 simpa using this
theorem vi {p q:UInt8->Bool} {w r:aa} (h0:w≠[]) (h:∀c∈w,p c=true) (hpq:∀c,p c=true->q c=false):cN q (w++r):=by
 cases w with
 | nil=>exact absurd rfl h0
 | cons c w=>exact dO (hpq c (h c nV))
theorem Oo {g l:Bool} {d:aa} {x s:Int} (h:okY g l d x s):∀c∈d,isDX c=true:=by
 intro c hc
 unfold okY at h
 have:bw c=true\/c=88:=by
  split at h
  ·exact .inl (h.1.1 c hc)
  ·exact h.2.1 c hc
 unfold isDX
 rcases this with h1 | h1
 ·rw [h1];rfl
 ·rw [h1];decide
theorem G2 {g l:Bool} {d:aa} {x s:Nat} (h:okY g l d (x:Int) (s:Int)) (r:aa):cN isMk (iO g l d (x:Int) (s:Int)++r):=by
 have hl:d≠[]:=by
  have:=(ki h).2.2.2.2.1
  rintro rfl
  simp at this
 rw [k9]
 cases l with
 | true=>exact dO (by decide)
 | false=>
  cases g with
  | true=>exact dO (by decide)
  | false=>
   simp only [bP,aE,dQ,jr]
   exact vi hl (Oo h) (λc=>QN)
theorem tA {S:aa} {p A B:Nat} {w R:aa} (h:S.drop p=cE A B w++R) (hA:A<4) (hB:B<4) (hw:cN isMk (w++(mt B++R))) (hR:cN isMk R):
  mkS (S.drop p)=A/\S.drop (mkE S p)=w++(mt B++R)/\mkS (S.drop (mkE S p+w.length))=B/\S.drop (mkE S (mkE S p+w.length))=R/\mkE S (mkE S p+w.length)=p+(cE A B w).length:=by
 have h':S.drop p=mt A++(w++(mt B++R)):=by rw [h];unfold cE;simp
 obtain ⟨e1,e2⟩:=IT hA hw
 obtain ⟨e3,e4⟩:=IT hB hR
 have hE:mkE S p=p+(mt A).length:=by unfold mkE;rw [h',e2]
 have h1:S.drop (mkE S p)=w++(mt B++R):=by rw [hE];exact fB h'
 have h2:S.drop (mkE S p+w.length)=mt B++R:=fB h1
 have hE2:mkE S (mkE S p+w.length)=mkE S p+w.length+(mt B).length:=by
  show mkE S p+w.length+mkN (S.drop (mkE S p+w.length))=_
  rw [h2,e4]
 refine ⟨by rw [h',e1],h1,by rw [h2,e3],by rw [hE2];exact fB h2,?_⟩
 rw [hE2,hE]
 unfold cE
 simp only [aM]
 omega
theorem AG {m r:aa} (hl:m.length=2) (h:∀c∈m,isDX c=true):twoN (m++r)=2/\(m++r).take 2=m:=by
 match m,hl with
 | [a,b],_=>
  have ha:=h a (by simp)
  have hb:=h b (by simp)
  refine ⟨?_,rfl⟩
  unfold twoN
  show bK isDX 2 (a::b::r)=2
  simp [bK,ha,hb]
theorem QP {k a b c:Nat} (h1:k<2->b=0) (h2:k<3->c=0) (hk:1<=k):(k<2->(plA k a b c).2.1=0/\(plB k a b c).2.1=0)/\(k<3->(plA k a b c).2.2=0/\(plB k a b c).2.2=0):=by
 unfold plA plB
 constructor
 ·intro h
  have:k=1:=by omega
  subst this
  have:=h1 h
  split
  ·simp
  ·simp [this]
 ·intro h
  have:=h2 h
  split
  ·split
   ·simp
   ·have:k=2:=by omega
    simp [this]
  ·simp [this]
def rawD (A B:Nat×Nat×Nat) (g l:Bool) (dg:aa) (x q:Int) (m d:aa):aa:=
 cE A.1 B.1 (iO g l dg x q)++((if m=[] then [] else 45::cE A.2.1 B.2.1 m)++(if d=[] then [] else 45::cE A.2.2 B.2.2 d))
structure MkD (A B:Nat×Nat×Nat) (m d:aa):Prop where
 a0:A.1<4
 a1:A.2.1<4
 a2:A.2.2<4
 b0:B.1<4
 b1:B.2.1<4
 b2:B.2.2<4
 zm:m=[]->A.2.1=0/\B.2.1=0
 zd:d=[]->A.2.2=0/\B.2.2=0
structure ShD (g l:Bool) (dg:aa) (x q:Nat) (m d:aa):Prop where
 yr:okY g l dg (x:Int) (q:Int)
 noM:0<q->m=[]
 mon:m=[]\/(m.length=2/\∀c∈m,isDX c=true)
 day:d=[]\/(m≠[]/\d.length=2/\∀c∈d,isDX c=true)
theorem OkD.sh {g l:Bool} {dg:aa} {x q:Nat} {m d:aa} {k0 k1 k2:Nat} (h:OkD g l dg x q m d k0 k1 k2):ShD g l dg x q m d:=⟨h.yr,h.noM,h.mon,h.day⟩
theorem OkD.marks {g l:Bool} {dg:aa} {x q:Nat} {m d:aa} {k0 k1 k2:Nat} (h:OkD g l dg x q m d k0 k1 k2):MkD (plA (da m d) k0 k1 k2) (plB (da m d) k0 k1 k2) m d:=by
 obtain ⟨l0,l1,l2,l3',l4,l5⟩:=Qe (k:=da m d) h.m0 h.m1 h.m2
 obtain ⟨hz1,hz2⟩:=QP (a:=k0) h.z1 h.z2 (oi m d).1
 refine ⟨l0,l1,l2,l3',l4,l5,λhm=>hz1 ?_,λhd=>hz2 ?_⟩
 ·have hd0:d=[]:=h.day.resolve_right (λz=>z.1 hm)
  subst hm hd0
  rw [KO];omega
 ·subst hd
  by_cases hm:m=[]
  ·subst hm;rw [KO];omega
  ·rw [FA hm];omega
theorem N6 {A B:Nat×Nat×Nat} {g l:Bool} {dg:aa} {x q:Nat} {m d:aa} (hok:ShD g l dg x q m d) (hmk:MkD A B m d) {S:aa} {a:Nat} {post:aa} (h:S.drop a=rawD A B g l dg (x:Int) (q:Int) m d++post)
  (hp1:cN isYC post) (hp2:cN isMk post) (hp3:cN (λc=>c==45) post):
  ∃P:Nat×Nat×Nat,P.1=a+(mt A.1).length/\so S a=.inr (g,l,dg,x,q,m,d,spM A B,P,a+(rawD A B g l dg (x:Int) (q:Int) m d).length):=by
 obtain ⟨l0,l1,l2,l3',l4,l5,hz1,hz2⟩:=hmk
 obtain ⟨A0,A1,A2⟩:=A
 obtain ⟨B0,B1,B2⟩:=B
 simp only at l0 l1 l2 l3' l4 l5 hz1 hz2 h
 unfold rawD at h ⊢
 simp only at h ⊢
 have h45:isMk 45=false:=by decide
 have y45:isYC 45=false:=by decide
 have t45:∀r:aa,cN (λc=>c==45) r->fC 45 r=0:=λr hr=>by
  cases r with
  | nil=>rfl
  | cons c r=>
   have:=hr c rfl
   exact ot (λe=>by rw [e] at this;exact absurd this (by decide)) r
 have hyx:=Lq hok.yr
 have hyh:=G2 hok.yr
 generalize hY:iO g l dg (x:Int) (q:Int)=Y at *
 have hRs:∀R:aa,S.drop a=cE A0 B0 Y++R->cN isYC R->cN isMk R->
   mkE S a=a+(mt A0).length/\mkS (S.drop a)=A0/\pU (S.drop (mkE S a))=.inr (g,l,dg,x,q,Y.length)/\mkS (S.drop (mkE S a+Y.length))=B0/\S.drop (mkE S (mkE S a+Y.length))=R/\mkE S (mkE S a+Y.length)=a+(cE A0 B0 Y).length:=by
  intro R hR h1 h2
  obtain ⟨w1,w2,w3,w4,w5⟩:=tA hR l0 l3' (hyh _) h2
  refine ⟨?_,w1,?_,w3,w4,w5⟩
  ·have hR':S.drop a=mt A0++(Y++(mt B0++R)):=by rw [hR];unfold cE;simp
   unfold mkE
   rw [hR',(IT l0 (hyh _)).2]
  rw [w2]
  exact hyx _ (I3 B0 (by decide) (by decide) (by decide) h1)
 unfold so
 by_cases hm0:m=[]
 ·have hd0:d=[]:=hok.day.resolve_right (λz=>z.1 hm0)
  subst hm0 hd0
  simp only [aQ,pM] at h ⊢
  obtain ⟨w0,w1,w2,w3,w4,w5⟩:=hRs post h hp1 hp2
  rw [w2]
  simp only []
  rw [w4,ae (.inr (t45 post hp3)),w1,w3,w5]
  obtain ⟨rfl,rfl⟩:=hz1 rfl
  obtain ⟨rfl,rfl⟩:=hz2 rfl
  exact ⟨_,w0,rfl⟩
 ·have hq0:¬0<q:=λz=>hm0 (hok.noM z)
  obtain ⟨hml,hmx⟩:=hok.mon.resolve_left hm0
  rw [ab hm0] at h ⊢
  have hmk:∀r,cN isMk (m++r):=λr=>vi hm0 hmx (λc=>QN)
  by_cases hd0:d=[]
  ·subst hd0
   rw [ae rfl,pM] at h ⊢
   have h':S.drop a=cE A0 B0 Y++(45::(cE A1 B1 m++post)):=by rw [h];simp
   obtain ⟨w0,w1,w2,w3,w4,w5⟩:=hRs _ h' (dO y45) (dO h45)
   rw [w2]
   simp only []
   rw [w4,ng,ab (λz=>z.elim hq0 (by omega)),w1,w3]
   unfold rd2
   have h2:S.drop (mkE S (mkE S a+Y.length)+1)=cE A1 B1 m++post:=fB (u:=[45]) w4
   obtain ⟨v1,v2,v3,v4,v5⟩:=tA h2 l1 l4 (hmk _) hp2
   obtain ⟨u1,u2⟩:=AG (r:=mt B1++post) hml hmx
   rw [<-v2] at u1 u2
   rw [hml] at v3 v4 v5
   rw [u1,ab (by omega),v4,t45 post hp3,ae rfl,u2,v1,v3,v5,w5]
   obtain ⟨rfl,rfl⟩:=hz2 rfl
   have:a+(cE A0 B0 Y).length+1+(cE A1 B1 m).length=a+(cE A0 B0 Y++45::cE A1 B1 m).length:=by simp only [aM,aD];omega
   rw [this]
   exact ⟨_,w0,rfl⟩
  ·obtain ⟨_,hdl,hdx⟩:=hok.day.resolve_left hd0
   rw [ab hd0] at h ⊢
   have hdk:∀r,cN isMk (d++r):=λr=>vi hd0 hdx (λc=>QN)
   have h':S.drop a=cE A0 B0 Y++(45::(cE A1 B1 m++(45::(cE A2 B2 d++post)))):=by rw [h];simp
   obtain ⟨w0,w1,w2,w3,w4,w5⟩:=hRs _ h' (dO y45) (dO h45)
   rw [w2]
   simp only []
   rw [w4,ng,ab (λz=>z.elim hq0 (by omega)),w1,w3]
   unfold rd2
   have h2:S.drop (mkE S (mkE S a+Y.length)+1)=cE A1 B1 m++(45::(cE A2 B2 d++post)):=fB (u:=[45]) w4
   obtain ⟨v1,v2,v3,v4,v5⟩:=tA h2 l1 l4 (hmk _) (dO h45)
   obtain ⟨u1,u2⟩:=AG (r:=mt B1++(45::(cE A2 B2 d++post))) hml hmx
   rw [<-v2] at u1 u2
   rw [hml] at v3 v4 v5
   rw [u1,ab (by omega),v4,ng,ab (by omega),u2,v1,v3]
   unfold rd3
   have h3:S.drop (mkE S (mkE S (mkE S (mkE S a+Y.length)+1)+2)+1)=cE A2 B2 d++post:=fB (u:=[45]) v4
   obtain ⟨x1,x2,x3,x4,x5⟩:=tA h3 l2 l5 (hdk _) hp2
   obtain ⟨s1,s2⟩:=AG (r:=mt B2++post) hdl hdx
   rw [<-x2] at s1 s2
   rw [hdl] at x3 x4 x5
   rw [s1,ab (by omega),s2,x1,x3,x5,v5,w5]
   have:a+(cE A0 B0 Y).length+1+(cE A1 B1 m).length+1+(cE A2 B2 d).length=a+(cE A0 B0 Y++(45::cE A1 B1 m++45::cE A2 B2 d)).length:=by simp only [aM,aD];omega
   rw [this]
   exact ⟨_,w0,rfl⟩
theorem Hz {g l:Bool} {dg:aa} {x q:Nat} {m d:aa} {k0 k1 k2:Nat} (hok:OkD g l dg x q m d k0 k1 k2) {S:aa} {a:Nat} {post:aa} (h:S.drop a=sD g l dg (x:Int) (q:Int) m d k0 k1 k2++post)
  (hp1:cN isYC post) (hp2:cN isMk post) (hp3:cN (λc=>c==45) post):
  ∃P,so S a=.inr (g,l,dg,x,q,m,d,(k0,k1,k2),P,a+(sD g l dg (x:Int) (q:Int) m d k0 k1 k2).length):=by
 obtain ⟨P,_,hP⟩:=N6 hok.sh hok.marks (S:=S) (a:=a) (post:=post) h hp1 hp2 hp3
 rw [U2 (da m d) k0 k1 k2 (oi m d) hok.m0 hok.m1 hok.m2 hok.z1 hok.z2] at hP
 exact ⟨P,hP⟩
theorem JR {g l:Bool} {dg:aa} {x q:Nat} {m d:aa} {k0 k1 k2:Nat} (hok:OkD g l dg x q m d k0 k1 k2):(sD g l dg (x:Int) (q:Int) m d k0 k1 k2).length<=37:=by
 have hy:=wP hok.yr
 have h0:=mJ (plA (da m d) k0 k1 k2).1 (plB (da m d) k0 k1 k2).1 (iO g l dg (x:Int) (q:Int))
 have h1:=mJ (plA (da m d) k0 k1 k2).2.1 (plB (da m d) k0 k1 k2).2.1 m
 have h2:=mJ (plA (da m d) k0 k1 k2).2.2 (plB (da m d) k0 k1 k2).2.2 d
 have hml:m.length<=2:=by
  rcases hok.mon with h | h
  ·rw [h];simp
  ·omega
 have hdl:d.length<=2:=by
  rcases hok.day with h | h
  ·rw [h];simp
  ·omega
 unfold sD
 simp only [aM]
 have a1:(if m=[] then [] else 45::cE (plA (da m d) k0 k1 k2).2.1 (plB (da m d) k0 k1 k2).2.1 m).length<=5:=by
  split
  ·simp
  ·simp only [aD];omega
 have a2:(if d=[] then [] else 45::cE (plA (da m d) k0 k1 k2).2.2 (plB (da m d) k0 k1 k2).2.2 d).length<=5:=by
  split
  ·simp
  ·simp only [aD];omega
 omega
theorem QC {A B:Nat×Nat×Nat} (h0:A.1<4) (h1:A.2.1<4) (h2:A.2.2<4) (g0:B.1<4) (g1:B.2.1<4) (g2:B.2.2<4):(spM A B).1<4/\(spM A B).2.1<4/\(spM A B).2.2<4:=by
 have ol:∀x y:Nat,x<4->y<4->x ||| y<4:=λx y hx hy=>(or4 hx hy).2
 exact ⟨ol _ _ (ol _ _ (ol _ _ h0 g0) g1) g2,ol _ _ (ol _ _ h1 g1) g2,ol _ _ h2 g2⟩
structure RdOK (S:aa) (a:Nat) (dg m d:aa) (M:Nat×Nat×Nat) (e:Nat):Prop where
 dg17:dg.length<=17
 m2:m.length<=2
 d2:d.length<=2
 all:inM (da m d) M
 le:a<=e
 end_:e<=S.length
theorem An {S:aa} {a:Nat} (h:a<=S.length) {g l:Bool} {dg:aa} {x s:Nat} {m d:aa} {M P:Nat×Nat×Nat} {e:Nat} (hr:so S a=.inr (g,l,dg,x,s,m,d,M,P,e)):RdOK S a dg m d M e:=by
 have z4:∀p,mkS (S.drop p)<4:=λp=>Lp _
 have z0:0<4:=by omega
 have b0:=ke h
 have g0:a<=mkE S a:=Au _ _
 have gE:∀p,p<=mkE S p:=λp=>Au _ _
 unfold so at hr
 cases hy:pU (S.drop (mkE S a)) with
 | inl k=>rw [hy] at hr;cases hr
 | inr y=>
  obtain ⟨g',l',dg',x',s',k⟩:=y
  obtain ⟨_,bk,_,_,hdg⟩:=sT hy
  have bk:mkE S a+k<=S.length:=by
   rw [co] at bk
   omega
  have b1:=ke bk
  rw [hy] at hr
  simp only [] at hr
  by_cases hc:0<s'\/fC 45 (S.drop (mkE S (mkE S a+k)))=0
  ·rw [ae hc] at hr
   cases hr
   have:=QC (A:=(mkS (S.drop a),0,0)) (B:=(mkS (S.drop (mkE S a+k)),0,0)) (z4 _) z0 z0 (z4 _) z0 z0
   refine ⟨hdg,by simp,by simp,⟨this.1,this.2.1,this.2.2,λ_=>by simp [spM],λ_=>by simp [spM]⟩,?_,b1⟩
   have:=gE (mkE S a+k)
   omega
  ·rw [ab hc] at hr
   have bt1:=rf (λz=>hc (.inr z))
   have bc:=ke bt1
   unfold rd2 at hr
   by_cases h2:twoN (S.drop (mkE S (mkE S (mkE S a+k)+1)))<2
   ·rw [ae h2] at hr;cases hr
   ·rw [ab h2] at hr
    have b2:=xE h2
    have b3:=ke b2
    have hml:(List.take 2 (S.drop (mkE S (mkE S (mkE S a+k)+1)))).length=2:=by rw [cO,co];omega
    have g1:=gE (mkE S a+k)
    have g2:=gE (mkE S (mkE S a+k)+1)
    have g3:=gE (mkE S (mkE S (mkE S a+k)+1)+2)
    by_cases ht2:fC 45 (S.drop (mkE S (mkE S (mkE S (mkE S a+k)+1)+2)))=0
    ·rw [ae ht2] at hr
     cases hr
     have:=QC (A:=(mkS (S.drop a),mkS (S.drop (mkE S (mkE S a+k)+1)),0)) (B:=(mkS (S.drop (mkE S a+k)),mkS (S.drop (mkE S (mkE S (mkE S a+k)+1)+2)),0)) (z4 _) (z4 _) z0 (z4 _) (z4 _) z0
     refine ⟨hdg,by omega,by simp,⟨this.1,this.2.1,this.2.2,λz=>?_,λ_=>by simp [spM]⟩,by omega,b3⟩
     rw [FA (oh hml)] at z
     omega
    ·rw [ab ht2] at hr
     have bt2:=rf ht2
     have bc2:=ke bt2
     unfold rd3 at hr
     by_cases h3:twoN (S.drop (mkE S (mkE S (mkE S (mkE S (mkE S a+k)+1)+2)+1)))<2
     ·rw [ae h3] at hr;cases hr
     ·rw [ab h3] at hr
      have b4:=xE h3
      have b5:=ke b4
      have hdl:(List.take 2 (S.drop (mkE S (mkE S (mkE S (mkE S (mkE S a+k)+1)+2)+1)))).length=2:=by rw [cO,co];omega
      cases hr
      have g4:=gE (mkE S (mkE S (mkE S (mkE S a+k)+1)+2)+1)
      have g5:=gE (mkE S (mkE S (mkE S (mkE S (mkE S a+k)+1)+2)+1)+2)
      have:=QC (A:=(mkS (S.drop a),mkS (S.drop (mkE S (mkE S a+k)+1)),mkS (S.drop (mkE S (mkE S (mkE S (mkE S a+k)+1)+2)+1)))) (B:=(mkS (S.drop (mkE S a+k)),mkS (S.drop (mkE S (mkE S (mkE S a+k)+1)+2)),mkS (S.drop (mkE S (mkE S (mkE S (mkE S (mkE S a+k)+1)+2)+1)+2)))) (z4 _) (z4 _) (z4 _) (z4 _) (z4 _) (z4 _)
      refine ⟨hdg,by omega,by omega,⟨this.1,this.2.1,this.2.2,λz=>?_,λz=>?_⟩,by omega,b5⟩
      ·rw [FC (oh hml) (oh hdl)] at z
       omega
      ·rw [FC (oh hml) (oh hdl)] at z
       omega
theorem Ji {g l:Bool} {dg:aa} {x q:Int} {m d:aa} {k0 k1 k2:Int} (hk:allM k0 k1 k2 (da m d)=0):chkD g l dg x q m d k0 k1 k2=0\/chkD g l dg x q m d k0 k1 k2=6\/chkD g l dg x q m d k0 k1 k2=7\/chkD g l dg x q m d k0 k1 k2=8:=by
 unfold chkD
 rw [hk]
 generalize yrD g l dg x q m=b1
 generalize (!(m==[])&&(!(decide (0<sea m))&&!(gW m 12)))=b2
 generalize (!(d==[])&&((m==[])||(decide (0<sea m)||!(gW d 31))))=b3
 cases b1<;>cases b2<;>cases b3<;>simp
def VJ (m:aa):Nat:=if m=[48,50] then 28 else if m=[48,52]\/m=[48,54]\/m=[48,57]\/m=[49,49]\/m=[88,57] then 30 else 31
def dayT (j:Nat) (m:aa):aa:=if j=0 then [] else if j<=31 then two (min j (VJ m)) else if m=[48,50]/\j=35 then [50,88] else ([[48,88],[49,88],[50,88],[51,88],[88,48],[88,49],[88,88],[88,56]]:List (aa)).getD (j - 32) []
theorem r40 {p:Nat->Bool} (h:(List.range 40).all p=true) {a:Nat} (ha:a<40):p a=true:=(dF.1 h) a (kq.2 ha)
def minL (mo:Nat):Nat:=if mo=2 then 28 else if mo=4\/mo=6\/mo=9\/mo=11 then 30 else 31
def fitD (mo d:aa):Bool:=(List.range' 1 12).any λi=>agr mo i&&(List.range' 1 (minL i)).any (agr d)
theorem QI:((((List.range 12).map λi=>two (i+1))++[[48,88],[49,88],[88,50],[88,88],[88,48],[88,57]]).all λmo=>(List.range 40).all λj=>(dayT j mo==[])||fitD mo (dayT j mo))=true:=by decide +kernel
theorem UO {j:Nat} (h:j<40) {mo:aa} (hm:mo∈((List.range 12).map λi=>two (i+1))++[[48,88],[49,88],[88,50],[88,88],[88,48],[88,57]]):dayT j mo=[]\/fitD mo (dayT j mo)=true:=by
 have:=r40 ((dF.1 QI) mo hm) h
 simp only [gX,bB] at this
 exact this
theorem JI (n:Nat) (g l:Bool) (dg:aa) (x q:Int) (m d:aa) (k0 k1 k2:Int) (hm:m.length<=18):bf n g l dg x q m d k0 k1 k2=some (if d=[] then (if 0<sea m then 0 else if m=[] then 1 else 2) else 3):=by
 unfold bf
 rw [s9 n g l dg x q m d k0 k1 k2 hm]
 by_cases hd:d=[]
 ·rw [ae hd,hd]
  show cond (decide (0<sea m)) _ _=_
  rw [bD]
  by_cases hs:0<sea m
  ·rw [ae hs,ae hs]
  ·rw [ab hs,ab hs]
   by_cases hm:m=[]
   ·rw [ae hm,hm];rfl
   ·rw [ab hm,aN.2 hm];rfl
 ·rw [ab hd,aN.2 hd];rfl
theorem MI (n:Nat) (g l:Bool) (dg:aa) (x q:Int) (m d:aa) (k0 k1 k2:Int) (hm:m.length<=18) (hd:dg.length<=100) (h0:0<=k0) (h1:0<=k1) (h2:0<=k2):
  fb (n+300) g l dg x q m d k0 k1 k2=some (if chkD g l dg x q m d k0 k1 k2=0 then (sD g l dg x q m d k0.toNat k1.toNat k2.toNat,0) else ([],chkD g l dg x q m d k0 k1 k2)):=by
 by_cases hc:chkD g l dg x q m d k0 k1 k2=0
 ·obtain ⟨x',q',a,b,c,e1,e2,e3,e4,e5,hok⟩:=Gp h0 h1 h2 hc
  subst e1 e2 e3 e4 e5
  exact OW n g l dg x' q' m d a b c hm hd
 ·rw [ab hc]
  unfold fb
  rw [AD (n+300) (by omega) g l dg _ _ m d _ _ _ hm hd h0 h1 h2]
  show cond (chkD g l dg x q m d k0 k1 k2 != 0) _ _=_
  rw [vc,ab hc]
theorem K8 (n:Nat) {g l:Bool} {dg:aa} {x q:Int} {m d:aa} {k0 k1 k2:Int} (h0:0<=k0) (h1:0<=k1) (h2:0<=k2) (hc:chkD g l dg x q m d k0 k1 k2=0):
  ee (n+300) g l dg x q m d k0 k1 k2=some (sD g l dg x q m d k0.toNat k1.toNat k2.toNat):=by
 obtain ⟨x',q',a,b,c,e1,e2,e3,e4,e5,hok⟩:=Gp h0 h1 h2 hc
 subst e1 e2 e3 e4 e5
 exact GT n hok
theorem vg (a b:aa):hasX (a++b)=(hasX a||hasX b):=by unfold hasX;rw [List.any_append]
theorem CZ (n:Nat) (g l:Bool) (dg:aa) (x q:Int) (m d:aa) (k0 k1 k2:Int) (hm:m.length<=1000) (hd:dg.length<=1000) (h:d.length<=1000):
  fN n g l dg x q m d k0 k1 k2=some (hasX dg||(hasX m||hasX d)):=by
 unfold fN
 rw [bZ (by omega)]
 simp only [ob]
 rw [bZ (by simp only [aM];omega)]
 simp only [ob]
 rw [BV,vg,vg,Bool.or_assoc]
def Am (d:aa) (k q:Nat):Nat×Nat:=if 0<q then (val d k / 10 ^ (d.length+k - q)*10 ^ (d.length+k - q),min (val d k / 10 ^ (d.length+k - q)*10 ^ (d.length+k - q)+10 ^ (d.length+k - q) - 1) E16) else (val d k,val d k)
def sgn (g:Bool) (p:Nat×Nat):Int×Int:=if g then (-(p.2:Int),-(p.1:Int)) else ((p.1:Int),(p.2:Int))
theorem BL (n:Nat) (g l:Bool) (d:aa) (k q:Nat) (hn:200<n) (hd:d.length<=100) (hN:Num d k q):
  aJ n g l d (k:Int) (q:Int)=some (sgn g (Am d k q)):=by
 have hw:=hN.wide
 have hs:=hN.small
 have hq:=hN.sig
 unfold aJ
 rw [n6 n g l d k q (by omega) (by omega),E0 hN.dig,jg n d k hN.dig hd (by omega) (by omega),ae hs]
 have hv:dval 0 d*10 ^ k=val d k:=rfl
 rw [hv] at hs ⊢
 unfold E16 at hs
 have z01:((if false=true then (1:Int) else 0)==1)=false:=rfl
 simp only [ob,z01,af]
 by_cases h0:0<q
 ·have e0:decide ((q:Int)>0)=true:=ar (by omega)
  have w0:IntKind.wrap .i64 (IntKind.wrap .i64 (((d.length:Nat):Int)+(k:Int)) - (q:Int))=((d.length+k - q:Nat):Int):=by
   rw [wrap_i64 (((d.length:Nat):Int)+(k:Int)) (by omega) (by omega),wrap_i64 _ (by omega) (by omega)]
   omega
  have hu2:10 ^ (d.length+k - q)<=10 ^ 16:=nW (by decide) (by omega)
  have h16:(10:Nat) ^ 16=10000000000000000:=by decide
  have one:dval 0 [49]=1:=by decide
  have hone:dval 0 [49]*10 ^ (d.length+k - q)<=E16:=by rw [one];unfold E16;omega
  rw [e0,w0,jg n [49] (d.length+k - q) (by decide) (by decide) (by omega) (by simp;omega),ae hone,one,vI]
  simp only [aj]
  have hu:1<=10 ^ (d.length+k - q):=zq _ _ (by decide)
  unfold sgn Am
  rw [ae h0]
  clear hone
  generalize 10 ^ (d.length+k - q)=u at *
  generalize val d k=v at *
  have d2:(((u:Nat):Int)==0)=false:=aN.2 (by omega)
  have hdiv:Int.tdiv ((v:Nat):Int) ((u:Nat):Int)=((v / u:Nat):Int):=rfl
  have hle:v / u*u<=v:=Es v u
  have hle2:v / u<=v:=DW v u
  have w1:IntKind.wrap .i64 ((v / u:Nat):Int)=((v / u:Nat):Int):=by
   generalize v / u=t at *
   exact wrap_i64 _ (by omega) (by omega)
  have w2:IntKind.wrap .i64 (((v / u:Nat):Int)*((u:Nat):Int))=((v / u*u:Nat):Int):=by
   rw [<-Gh];exact wrap_i64 _ (by omega) (by omega)
  rw [d2,af,hdiv,w1,w2]
  generalize v / u*u=lo at *
  have w3:IntKind.wrap .i64 (IntKind.wrap .i64 (((lo:Nat):Int)+((u:Nat):Int)) - 1)=((lo+u - 1:Nat):Int):=by
   rw [wrap_i64 (((lo:Nat):Int)+((u:Nat):Int)) (by omega) (by omega),wrap_i64 _ (by omega) (by omega)]
   omega
  rw [w3]
  have hmin:(cond (decide ((10000000000000000:Int)<((lo+u - 1:Nat):Int))) (10000000000000000:Int) ((lo+u - 1:Nat):Int))=((min (lo+u - 1) E16:Nat):Int):=by
   unfold E16
   by_cases hm:(10000000000000000:Int)<((lo+u - 1:Nat):Int)
   ·rw [ar hm,aj];omega
   ·rw [au hm,af];omega
  rw [hmin]
  have hmE:min (lo+u - 1) E16<=10000000000000000:=Nat.min_le_right _ _
  generalize min (lo+u - 1) E16=hi at *
  cases g with
  | true=>
   simp only [aj,aQ]
   rw [wrap_i64 _ (by omega) (by omega),wrap_i64 _ (by omega) (by omega),yR,yR]
  | false=>simp
 ·have e0:decide ((q:Int)>0)=false:=au (by omega)
  rw [e0,af]
  unfold sgn Am
  rw [ab h0]
  cases g with
  | true=>
   simp only [aj,aQ]
   rw [wrap_i64 _ (by omega) (by omega),yR]
  | false=>simp
def ej (z:UInt8) (d:aa):aa:=d.map λc=>if c=88 then z else c
theorem iQ (z:UInt8) (d:aa):(ej z d).length=d.length:=by simp [ej]
theorem qM {z:UInt8} (hz:bw z=true) {d:aa} (h:∀c∈d,bw c=true\/c=88):∀c∈ej z d,bw c=true:=by
 intro c hc
 obtain ⟨b,hb,rfl⟩:=eJ.1 hc
 by_cases hx:b=88
 ·rw [ae hx];exact hz
 ·rw [ab hx]
  exact (h b hb).resolve_right hx
theorem vH {z:UInt8} {d:aa} {i:Nat} {c:UInt8} (h:d[i]?=some c):(ej z d)[i]?=some (if c=88 then z else c):=by
 simp [ej,h]
def tM (d:aa):Nat:=10 ^ (d.reverse.takeWhile (λc=>c != 88)).length
def kI (g:Bool) (d:aa):Nat×Nat:=(if g=true/\dval 0 (ej 48 d)=0 then tM d else dval 0 (ej 48 d),dval 0 (ej 57 d))
theorem Rl (m:Nat):aJ (m+300) true false [48,48,48,88] 0 0=some (sgn true (kI true [48,48,48,88])):=by kernel_rfl
theorem Qk (m:Nat):aJ (m+300) true false [48,48,88,48] 0 0=some (sgn true (kI true [48,48,88,48])):=by kernel_rfl
theorem Pl (m:Nat):aJ (m+300) true false [48,48,88,88] 0 0=some (sgn true (kI true [48,48,88,88])):=by kernel_rfl
theorem QS (m:Nat):aJ (m+300) true false [48,88,48,48] 0 0=some (sgn true (kI true [48,88,48,48])):=by kernel_rfl
theorem OV (m:Nat):aJ (m+300) true false [48,88,48,88] 0 0=some (sgn true (kI true [48,88,48,88])):=by kernel_rfl
theorem Qm (m:Nat):aJ (m+300) true false [48,88,88,48] 0 0=some (sgn true (kI true [48,88,88,48])):=by kernel_rfl
theorem QQ (m:Nat):aJ (m+300) true false [48,88,88,88] 0 0=some (sgn true (kI true [48,88,88,88])):=by kernel_rfl
theorem O2 (m:Nat):aJ (m+300) true false [88,48,48,48] 0 0=some (sgn true (kI true [88,48,48,48])):=by kernel_rfl
theorem Pi (m:Nat):aJ (m+300) true false [88,48,48,88] 0 0=some (sgn true (kI true [88,48,48,88])):=by kernel_rfl
theorem Qg (m:Nat):aJ (m+300) true false [88,48,88,48] 0 0=some (sgn true (kI true [88,48,88,48])):=by kernel_rfl
theorem NU (m:Nat):aJ (m+300) true false [88,48,88,88] 0 0=some (sgn true (kI true [88,48,88,88])):=by kernel_rfl
theorem NX (m:Nat):aJ (m+300) true false [88,88,48,48] 0 0=some (sgn true (kI true [88,88,48,48])):=by kernel_rfl
theorem LW (m:Nat):aJ (m+300) true false [88,88,48,88] 0 0=some (sgn true (kI true [88,88,48,88])):=by kernel_rfl
theorem M7 (m:Nat):aJ (m+300) true false [88,88,88,48] 0 0=some (sgn true (kI true [88,88,88,48])):=by kernel_rfl
theorem NH (m:Nat):aJ (m+300) true false [88,88,88,88] 0 0=some (sgn true (kI true [88,88,88,88])):=by kernel_rfl
theorem A5 {d:aa} (hl:d.length=4) (h:∀c∈d,bw c=true\/c=88) (hz:dval 0 (ej 48 d)=0):∀c∈d,c=48\/c=88:=by
 match d,hl with
 | [a,b,c,e],_=>
  have hd:=qM (z:=48) (by decide) h
  have h2:dval 0 (ej 48 [a,b,c,e])=((((0*10+((if a=88 then (48:UInt8) else a).toNat - 48))*10+((if b=88 then (48:UInt8) else b).toNat - 48))*10+((if c=88 then (48:UInt8) else c).toNat - 48))*10+((if e=88 then (48:UInt8) else e).toNat - 48)):=by
   simp only [ej,fE,List.map_nil,oJ,pJ,uT]
  rw [h2] at hz
  have key:∀x:UInt8,bw (if x=88 then (48:UInt8) else x)=true->(if x=88 then (48:UInt8) else x).toNat - 48=0->x=48\/x=88:=by
   intro x hx h0
   by_cases hx8:x=88
   ·exact .inr hx8
   ·rw [ab hx8] at hx h0
    have:=(cg x).1 hx
    exact .inl (gH.1 (by show x.toNat=48;omega))
  simp only [ej,fE,List.map_nil,dl,sC,uy,C7,forall_eq] at hd ⊢
  exact ⟨key a hd.1 (by omega),key b hd.2.1 (by omega),key c hd.2.2.1 (by omega),key e hd.2.2.2 (by omega)⟩
theorem yC {d:aa} (hl:d.length=4) (h:∀c∈d,c=48\/c=88) (hX:hasX d=true) (P:aa->Prop) (h0:P [48,48,48,88]) (h1:P [48,48,88,48]) (h2:P [48,48,88,88]) (h3:P [48,88,48,48]) (h4:P [48,88,48,88]) (h5:P [48,88,88,48]) (h6:P [48,88,88,88]) (h7:P [88,48,48,48]) (h8:P [88,48,48,88]) (h9:P [88,48,88,48]) (h10:P [88,48,88,88]) (h11:P [88,88,48,48]) (h12:P [88,88,48,88]) (h13:P [88,88,88,48]) (h14:P [88,88,88,88]):P d:=by
 match d,hl with
 | [a,b,c,e],_=>
  simp only [dl,sC,uy,C7,forall_eq] at h
  obtain ⟨ha,hb,hc,he⟩:=h
  rcases ha with rfl | rfl<;>rcases hb with rfl | rfl<;>rcases hc with rfl | rfl<;>rcases he with rfl | rfl
  ·exact absurd hX (by decide)
  ·exact h0
  ·exact h1
  ·exact h2
  ·exact h3
  ·exact h4
  ·exact h5
  ·exact h6
  ·exact h7
  ·exact h8
  ·exact h9
  ·exact h10
  ·exact h11
  ·exact h12
  ·exact h13
  ·exact h14
theorem DN (n:Nat) (g l:Bool) (d:aa) (x s:Int) (hl:d.length=4) (hn:4<n):am (fX n) n ([],[],0,g,l,d,x,s)=some (ej 48 d,ej 57 d,g,l,d,x,s):=by
 refine fq (step:=fX n) (λq=>∃i:Nat,i<=4/\q=((ej 48 d).take i,(ej 57 d).take i,(i:Int),g,l,d,x,s)) (λq=>4 - q.2.2.1.toNat) (λ_=>(ej 48 d,ej 57 d,g,l,d,x,s)) ?_ n _ ⟨0,by omega,by simp⟩ (by simp;omega)
 rintro q ⟨i,hi,rfl⟩
 rcases aG i 4 with hlt | hge
 ·obtain ⟨c,hc⟩:∃c,d[i]?=some c:=⟨d[i],bp (by omega)⟩
  have hf1:=Qw (vH (z:=48) hc)
  have hf2:=Qw (vH (z:=57) hc)
  have d1:decide ((i:Int)<4)=true:=ar (by omega)
  have w1:IntKind.wrap .i64 ((i:Int)+1)=((i+1:Nat):Int):=by rw [wrap_i64 _ (by omega) (by omega)];omega
  refine .inl ⟨((ej 48 d).take (i+1),(ej 57 d).take (i+1),((i+1:Nat):Int),g,l,d,x,s),?_,⟨i+1,by omega,rfl⟩,by simp only [bV];omega,rfl⟩
  simp only [fX,d1,aj,w1,gG (show i+1<=d.length by omega),gG (show i<=i+1 by omega),ob,cut1 hc]
  have ht:∀z:UInt8,((ej z d).take i).length<=4:=λz=>by rw [cO];omega
  rw [hf1,hf2]
  by_cases hx:c=88
  ·have e:(([c]:aa)==[88])=true:=by rw [hx];rfl
   rw [e,aj,ae hx,ae hx,bZ (by have:=ht 48;simp;omega),bZ (by have:=ht 57;simp;omega)]
  ·have e:(([c]:aa)==[88])=false:=by
    rw [aN];intro e;exact hx (by simpa using e)
   rw [e,af,ab hx,ab hx,bZ (by have:=ht 48;simp;omega),bZ (by have:=ht 57;simp;omega)]
 ·have:i=4:=by omega
  subst this
  refine .inr ?_
  rw [iP (by rw [iQ];omega),iP (by rw [iQ];omega)]
  rfl
theorem G9 {d:aa} (h:d=[48,48,48,48]):dval 0 d=0:=by rw [h];decide
theorem zk (m:Nat) (g:Bool) (d:aa) (h:okY g false d 0 0) (hX:hasX d=true):aJ (m+300) g false d 0 0=some (sgn g (kI g d)):=by
 obtain ⟨_,_,_,hl,hd⟩:=qe h hX
 by_cases hz:g=true/\dval 0 (ej 48 d)=0
 ·obtain ⟨rfl,hz⟩:=hz
  exact yC hl (A5 hl hd hz) hX (λd=>aJ (m+300) true false d 0 0=some (sgn true (kI true d))) (Rl m) (Qk m) (Pl m) (QS m) (OV m) (Qm m) (QQ m) (O2 m) (Pi m) (Qg m) (NU m) (NX m) (LW m) (M7 m) (NH m)
 ·have hs:kI g d=(dval 0 (ej 48 d),dval 0 (ej 57 d)):=by unfold kI;rw [ab hz]
  have d48:=qM (z:=48) (by decide) hd
  have d57:=qM (z:=57) (by decide) hd
  have h1:=tZ (ej 48 d) 0 0 d48 (by simp)
  have h2:=tZ (ej 57 d) 0 0 d57 (by simp)
  rw [iQ,hl] at h1 h2
  have h4:(10:Nat) ^ (4+0)=10000:=by decide
  have m1:ak (m+300) (ej 48 d) 0=some (((dval 0 (ej 48 d):Nat):Int),1):=by
   have:=jg (m+300) (ej 48 d) 0 d48 (by rw [iQ];omega) (by omega) (by rw [iQ];omega)
   rw [ae (by unfold E16;simp only [zR,qf];omega)] at this
   simpa using this
  have m2:ak (m+300) (ej 57 d) 0=some (((dval 0 (ej 57 d):Nat):Int),1):=by
   have:=jg (m+300) (ej 57 d) 0 d57 (by rw [iQ];omega) (by omega) (by rw [iQ];omega)
   rw [ae (by unfold E16;simp only [zR,qf];omega)] at this
   simpa using this
  have z11:((if true=true then (1:Int) else 0)==1)=true:=rfl
  have z0:decide ((0:Int)>0)=false:=rfl
  unfold aJ
  rw [n6 _ g false d 0 0 (by omega) (by omega),hX,DN _ g false d 0 0 hl (by omega),hs]
  simp only [ob,aQ,uQ,aj]
  cases g with
  | true=>
   have e:(ej 48 d==([48,48,48,48]:aa))=false:=by
    rw [aN]
    intro e
    exact hz ⟨rfl,G9 e⟩
   simp only [aj,e,af,m1,m2,z0,sgn,aQ]
   generalize dval 0 (ej 48 d)=a at *
   generalize dval 0 (ej 57 d)=b at *
   rw [wrap_i64 _ (by omega) (by omega),wrap_i64 _ (by omega) (by omega),yR,yR]
  | false=>simp only [af,m1,m2,z0,sgn,bP,aE]
def o8 (g:Bool) (d:aa) (x s:Int):Nat×Nat:=if hasX d then kI g d else Am d x.toNat s.toNat
theorem NS (m:Nat) (g l:Bool) (d:aa) (x s:Int) (hd:d.length<=100) (h:okY g l d x s):aJ (m+300) g l d x s=some (sgn g (o8 g d x s)):=by
 unfold o8
 cases hX:hasX d with
 | true=>
  obtain ⟨rfl,rfl,rfl,hl,hdd⟩:=qe h hX
  exact zk m g d h hX
 | false=>
  obtain ⟨k,q,rfl,rfl,hN⟩:=tL h hX
  exact BL _ g l d k q (by omega) hd hN
theorem PI {d:aa} {k q:Nat} (h:Num d k q):(Am d k q).1<=val d k/\val d k<=(Am d k q).2/\(Am d k q).2<=E16:=by
 have hs:=h.small
 have hv:dval 0 d*10 ^ k=val d k:=rfl
 rw [hv] at hs
 unfold Am
 split
 ·have hu:1<=10 ^ (d.length+k - q):=zq _ _ (by decide)
  generalize 10 ^ (d.length+k - q)=u at hu ⊢
  generalize val d k=v at hs ⊢
  have h1:=Es v u
  have h2:v<v / u*u+u:=by
   have h:=Nat.div_add_mod v u
   have:=zO v hu
   rw [wk] at h
   omega
  refine ⟨h1,?_,Nat.min_le_right _ _⟩
  rw [Nat.le_min]
  omega
 ·exact ⟨aV _,aV _,hs⟩
def mtk (d:aa):Nat->Nat->Bool
 | 0,_=>true
 | k+1,w=>(decide (d.getD k 0=88)||decide ((d.getD k 0).toNat=48+w%10))&&mtk d k (w / 10)
theorem Aq (d:aa) (k w:Nat):mtk d (k+1) w=((decide (d.getD k 0=88)||decide ((d.getD k 0).toNat=48+w%10))&&mtk d k (w / 10)):=rfl
theorem zg {d:aa} {k:Nat} {c:UInt8} (h:d[k]?=some c):d.getD k 0=c:=by
 rw [CQ,h];rfl
theorem Ln (n:Nat) (g l:Bool) (d:aa) (x s:Int) (hl:d.length=4):∀(k w:Nat),k<=4->w<100000000000000000->∀q,k<q->
  am (bI n) q ((w:Int),(k:Int) - 1,g,l,d,x,s)=some (if mtk d k w=true then .inr ((w / 10 ^ k:Nat):Int) else .inl 0)
 | 0,w,hk,hw,q,hq=>by
  obtain ⟨q,rfl⟩:∃p,q=p+1:=⟨q - 1,by omega⟩
  have d1:decide (((0:Nat):Int) - 1>=0)=false:=rfl
  have hm0:mtk d 0 w=true:=rfl
  simp only [am,bI,d1,af]
  rw [ae hm0]
  simp
 | k+1,w,hk,hw,q,hq=>by
  obtain ⟨q,rfl⟩:∃p,q=p+1:=⟨q - 1,by omega⟩
  have ih:=Ln n g l d x s hl k (w / 10) (by omega) (by omega) q (by omega)
  obtain ⟨c,hc⟩:∃c,d[k]?=some c:=⟨d[k],bp (by omega)⟩
  have e0:((k+1:Nat):Int) - 1=(k:Int):=by omega
  have d1:decide ((k:Int)>=0)=true:=ar (by omega)
  have em:Int.tmod (w:Int) 10=((w%10:Nat):Int):=rfl
  have eq':Int.tdiv (w:Int) 10=((w / 10:Nat):Int):=rfl
  have w1:IntKind.wrap .i64 (48+((w%10:Nat):Int))=((48+w%10:Nat):Int):=by rw [wrap_i64 _ (by omega) (by omega)];omega
  have w2:IntKind.wrap .u8 ((48+w%10:Nat):Int)=((48+w%10:Nat):Int):=jR _ (by omega) (by omega)
  have w3:IntKind.wrap .i64 ((w / 10:Nat):Int)=((w / 10:Nat):Int):=wrap_i64 _ (by omega) (by omega)
  have w4:IntKind.wrap .i64 ((k:Int) - 1)=(k:Int) - 1:=wrap_i64 _ (by omega) (by omega)
  have hdiv:w / 10 ^ (k+1)=w / 10 / 10 ^ k:=by rw [rU,wk,Nat.div_div_eq_div_mul]
  rw [Aq,zg hc,hdiv,e0]
  simp only [am,bI,d1,aj,eF hc,ob,em,eq',w1,w2,w3,w4]
  by_cases hx:c=88
  ·have e1:(((c.toNat:Nat):Int) != 88)=false:=by rw [hx];rfl
   rw [e1,ar hx]
   simp only [af,Gi,mU]
   exact ih
  ·have e1:(((c.toNat:Nat):Int) != 88)=true:=by
    simp only [bne,kl,aN]
    intro e
    exact hx (gH.1 (by show c.toNat=88;omega))
   rw [e1,au hx]
   simp only [aj,xH]
   by_cases hm:c.toNat=48+w%10
   ·have e2:(((c.toNat:Nat):Int) != ((48+w%10:Nat):Int))=false:=by rw [hm];simp
    rw [e2,ar hm]
    simp only [af,mU]
    exact ih
   ·have e2:(((c.toNat:Nat):Int) != ((48+w%10:Nat):Int))=true:=by
     simp only [bne,kl,aN]
     omega
    rw [e2,au hm]
    simp only [aj,Gw]
    rfl
def Da (d:aa) (k q:Nat):Nat:=if 0<q then 10 ^ (d.length+k - q) else 1
def memP (d:aa) (x s:Int) (w:Nat):Prop:=if hasX d=true then mtk d 4 w=true/\w / 10 ^ 4=0 else val d x.toNat / Da d x.toNat s.toNat=w / Da d x.toNat s.toNat
instance (d:aa) (x s:Int) (w:Nat):Decidable (memP d x s w):=by unfold memP;infer_instance
def wOf (g:Bool) (v:Int):Int:=if g then -v else v
def inP (g:Bool) (d:aa) (x s v:Int):Prop:=-10000000000000000<=v/\v<=10000000000000000/\0<=wOf g v/\¬(hasX d=true/\g=true/\wOf g v=0)/\memP d x s (wOf g v).toNat
instance (g:Bool) (d:aa) (x s v:Int):Decidable (inP g d x s v):=by unfold inP;infer_instance
noncomputable def inT (n:Nat) (a0 a1:Bool) (a2:aa) (a3 a4 W:Int):Option Int:=
 (ob (aB n a0 a1 a2 a3 a4) λr221=>(cond (r221==1) (ob (am (bI n) n (W,3,a0,a1,a2,a3,a4)) λy222=>(Sum.casesOn (motive:=λ_=>Option _) y222 (λa223=>(some a223)) (λb224=>(cond (decide (b224>0)) (some 0) (some 1))))) (ob (ak n a2 a3) λr225=>(cond (decide (a4>0)) (ob (ak n [49] (IntKind.wrap .i64 ((IntKind.wrap .i64 (((List.length a2:Nat):Int)+a3)) - a4))) λr226=>(cond (r226.1==0) none (cond (r226.1==0) none (cond ((IntKind.wrap .i64 (Int.tdiv r225.1 r226.1))==(IntKind.wrap .i64 (Int.tdiv W r226.1))) (some 1) (some 0))))) (cond ((IntKind.wrap .i64 (Int.tdiv r225.1 1))==(IntKind.wrap .i64 (Int.tdiv W 1))) (some 1) (some 0))))))
theorem K9 (a b:Nat):(((a:Nat):Int)==((b:Nat):Int))=decide (a=b):=by
 by_cases h:a=b
 ·subst h;simp
 ·rw [au h,aN];omega
theorem Gt {d:aa} {x s:Int} {w:Nat} (hX:hasX d=true):memP d x s w↔mtk d 4 w=true/\w / 10 ^ 4=0:=by unfold memP;rw [ae hX]
theorem OE {d:aa} {x s:Int} {w:Nat} (hX:hasX d=false):memP d x s w↔val d x.toNat / Da d x.toNat s.toNat=w / Da d x.toNat s.toNat:=by unfold memP;rw [ab (by rw [hX];simp)]
theorem in_T (m:Nat) {g l:Bool} {d:aa} {x s:Int} (hok:okY g l d x s) (w:Nat) (hw:w<=10000000000000000):inT (m+300) g l d x s (w:Int)=some (if memP d x s w then 1 else 0):=by
 have hsm:=ki hok
 have hM:=n6 (m+300) g l d x s (by omega) (by omega)
 unfold inT
 cases hX:hasX d with
 | true=>
  obtain ⟨rfl,rfl,rfl,hl,_⟩:=qe hok hX
  have hlp:=Ln (m+300) g false d 0 0 hl 4 w (by omega) (by omega) (m+300) (by omega)
  have hlp':am (bI (m+300)) (m+300) ((w:Int),3,g,false,d,0,0)=_:=hlp
  have z11:((1:Int)==1)=true:=rfl
  have hMt:aB (m+300) g false d 0 0=some 1:=by rw [hM,hX];rfl
  rw [hMt]
  simp only [ob,z11,aj,hlp']
  by_cases h1:mtk d 4 w=true
  ·rw [ae h1]
   by_cases h2:w / 10 ^ 4=0
   ·have e:decide (((w / 10 ^ 4:Nat):Int)>0)=false:=au (by rw [h2];decide)
    rw [ae ((Gt hX).2 ⟨h1,h2⟩)]
    simp only [e,af]
   ·have e:decide (((w / 10 ^ 4:Nat):Int)>0)=true:=ar (by
     generalize w / 10 ^ 4=t at h2 ⊢
     omega)
    rw [ab (λq=>h2 ((Gt hX).1 q).2)]
    simp only [e,aj]
  ·rw [ab h1,ab (λq=>h1 ((Gt hX).1 q).1)]
 | false=>
  obtain ⟨k,q,rfl,rfl,hN⟩:=tL hok hX
  have hw':=hN.wide
  have hs:=hN.small
  have hq:=hN.sig
  have hv:dval 0 d*10 ^ k=val d k:=rfl
  have hm:=jg (m+300) d k hN.dig (by omega) (by omega) (by omega)
  rw [ae hs,hv] at hm
  rw [hv] at hs
  unfold E16 at hs
  have z01:((0:Int)==1)=false:=rfl
  have hMt:aB (m+300) g l d k q=some 0:=by rw [hM,hX];rfl
  have hmp:=OE (x:=(k:Int)) (s:=(q:Int)) (w:=w) hX
  rw [bV,bV] at hmp
  unfold Da at hmp
  rw [hMt]
  simp only [ob,z01,af,hm]
  by_cases h0:0<q
  ·have e0:decide ((q:Int)>0)=true:=ar (by omega)
   have w0:IntKind.wrap .i64 (IntKind.wrap .i64 (((d.length:Nat):Int)+(k:Int)) - (q:Int))=((d.length+k - q:Nat):Int):=by
    rw [wrap_i64 (((d.length:Nat):Int)+(k:Int)) (by omega) (by omega),wrap_i64 _ (by omega) (by omega)]
    omega
   have hu2:10 ^ (d.length+k - q)<=10 ^ 16:=nW (by decide) (by omega)
   have h16:(10:Nat) ^ 16=10000000000000000:=by decide
   have one:dval 0 [49]=1:=by decide
   have hone:dval 0 [49]*10 ^ (d.length+k - q)<=E16:=by rw [one];unfold E16;omega
   have hm1:=jg (m+300) [49] (d.length+k - q) (by decide) (by decide) (by omega) (by simp;omega)
   rw [ae hone,one,vI] at hm1
   have hu:1<=10 ^ (d.length+k - q):=zq _ _ (by decide)
   rw [e0,w0,hm1]
   rw [ae h0] at hmp
   clear hone hm1
   generalize 10 ^ (d.length+k - q)=u at hu hu2 hmp ⊢
   generalize val d k=v at hs hmp ⊢
   have d2:(((u:Nat):Int)==0)=false:=aN.2 (by omega)
   have hdiv:Int.tdiv ((v:Nat):Int) ((u:Nat):Int)=((v / u:Nat):Int):=rfl
   have hdiw:Int.tdiv ((w:Nat):Int) ((u:Nat):Int)=((w / u:Nat):Int):=rfl
   have l1:v / u<=v:=DW v u
   have l2:w / u<=w:=DW w u
   simp only [aj,d2,af,hdiv,hdiw]
   generalize v / u=a at l1 hmp ⊢
   generalize w / u=b at l2 hmp ⊢
   rw [wrap_i64 _ (by omega) (by omega),wrap_i64 _ (by omega) (by omega),K9]
   by_cases hab:a=b
   ·rw [ar hab,ae (hmp.2 hab)];rfl
   ·rw [au hab,ab (λq=>hab (hmp.1 q))];rfl
  ·have e0:decide ((q:Int)>0)=false:=au (by omega)
   have t1:∀a:Nat,Int.tdiv ((a:Nat):Int) 1=((a:Nat):Int):=λa=>by
    have:Int.tdiv ((a:Nat):Int) 1=((a / 1:Nat):Int):=rfl
    rw [this,sy]
   rw [ab h0,sy,sy] at hmp
   rw [e0]
   simp only [af,t1]
   rw [wrap_i64 _ (by omega) (by omega),wrap_i64 _ (by omega) (by omega),K9]
   by_cases hab:val d k=w
   ·rw [ar hab,ae (hmp.2 hab)];rfl
   ·rw [au hab,ab (λq=>hab (hmp.1 q))];rfl
theorem Tj (m:Nat) {g l:Bool} {d:aa} {x s:Int} (hok:okY g l d x s) (v:Int):mC (m+300) g l d x s v=some (if inP g d x s v then 1 else 0):=by
 have hsm:=ki hok
 have hT:=λw hw=>in_T m hok w hw
 have hM:=n6 (m+300) g l d x s (by omega) (by omega)
 unfold inT at hT
 unfold mC
 by_cases h1:v < -10000000000000000
 ·rw [ar h1,ab (λq=>by have:=q.1;omega)];rfl
 ·rw [au h1,af]
  by_cases h2:v>10000000000000000
  ·rw [ar h2,ab (λq=>by have:=q.2.1;omega)];rfl
  ·rw [au h2,af]
   cases g with
   | true=>
    have w0:IntKind.wrap .i64 (0 - v)=-v:=by rw [wrap_i64 _ (by omega) (by omega)];omega
    simp only [aj,w0]
    by_cases h3:-v<0
    ·rw [ar h3,ab (λq=>by have:=q.2.2.1;unfold wOf at this;simp only [aQ] at this;omega)];rfl
    ·rw [au h3,af]
     obtain ⟨w,hw⟩:∃w:Nat,-v=(w:Int):=⟨(-v).toNat,by omega⟩
     have hT:=hT w (by omega)
     have hwo:wOf true v=(w:Int):=by unfold wOf;simpa using hw
     have hin:¬(hasX d=true/\w=0)->(inP true d x s v↔memP d x s w):=by
      intro hz
      unfold inP
      rw [hwo,bV]
      constructor
      ·exact λq=>q.2.2.2.2
      ·exact λq=>⟨by omega,by omega,by omega,λq=>hz ⟨q.1,by omega⟩,q⟩
     rw [hw]
     cases hX:hasX d with
     | true=>
      have hMt:aB (m+300) true l d x s=some 1:=by rw [hM,hX];rfl
      rw [hMt]
      have z11:((1:Int)==1)=true:=rfl
      simp only [ob,z11,aj]
      by_cases hz:w=0
      ·have e:(((w:Nat):Int)==0)=true:=bB.2 (by omega)
       rw [e,ab (λq=>q.2.2.2.1 ⟨hX,rfl,by rw [hwo];omega⟩)];rfl
      ·have e:(((w:Nat):Int)==0)=false:=aN.2 (by omega)
       rw [hMt] at hT
       simp only [ob,z11,aj] at hT
       rw [e,af,hT]
       have:=hin (λq=>hz q.2)
       by_cases hp:memP d x s w
       ·rw [ae hp,ae (this.2 hp)]
       ·rw [ab hp,ab (λq=>hp (this.1 q))]
     | false=>
      have hMt:aB (m+300) true l d x s=some 0:=by rw [hM,hX];rfl
      have z01:((0:Int)==1)=false:=rfl
      rw [hMt] at hT ⊢
      simp only [ob,z01,af] at hT ⊢
      rw [hT]
      have:=hin (λq=>by rw [hX] at q;cases q.1)
      by_cases hp:memP d x s w
      ·rw [ae hp,ae (this.2 hp)]
      ·rw [ab hp,ab (λq=>hp (this.1 q))]
   | false=>
    simp only [af]
    by_cases h3:v<0
    ·rw [ar h3,ab (λq=>by have:=q.2.2.1;unfold wOf at this;simp only [bP,aE] at this;omega)];rfl
    ·rw [au h3,af]
     obtain ⟨w,rfl⟩:∃w:Nat,v=(w:Int):=⟨v.toNat,by omega⟩
     have hT:=hT w (by omega)
     have hwo:wOf false (w:Int)=(w:Int):=rfl
     have hin:inP false d x s (w:Int)↔memP d x s w:=by
      unfold inP
      rw [hwo,bV]
      constructor
      ·exact λq=>q.2.2.2.2
      ·exact λq=>⟨by omega,by omega,by omega,λq=>(by cases q.2.1),q⟩
     cases hX:hasX d with
     | true=>
      have hMt:aB (m+300) false l d x s=some 1:=by rw [hM,hX];rfl
      rw [hMt] at hT ⊢
      have z11:((1:Int)==1)=true:=rfl
      simp only [ob,z11,aj] at hT ⊢
      rw [hT]
      by_cases hp:memP d x s w
      ·rw [ae hp,ae (hin.2 hp)]
      ·rw [ab hp,ab (λq=>hp (hin.1 q))]
     | false=>
      have hMt:aB (m+300) false l d x s=some 0:=by rw [hM,hX];rfl
      rw [hMt] at hT ⊢
      have z01:((0:Int)==1)=false:=rfl
      simp only [ob,z01,af] at hT ⊢
      rw [hT]
      by_cases hp:memP d x s w
      ·rw [ae hp,ae (hin.2 hp)]
      ·rw [ab hp,ab (λq=>hp (hin.1 q))]
def loK (d:aa) (k:Nat):Nat:=dval 0 ((ej 48 d).take k)
def hiK (d:aa) (k:Nat):Nat:=dval 0 ((ej 57 d).take k)
theorem xz (z:UInt8) {d:aa} {k:Nat} {c:UInt8} (h:d[k]?=some c):dval 0 ((ej z d).take (k+1))=dval 0 ((ej z d).take k)*10+((if c=88 then z else c).toNat - 48):=by
 rw [Qw (vH h),EZ]
theorem BM (d:aa) (hl:d.length=4) (hd:∀c∈d,bw c=true\/c=88):∀(k w:Nat),k<=4->w<10 ^ k->mtk d k w=true->loK d k<=w/\w<=hiK d k
 | 0,w,hk,hw,hm=>by
  simp at hw
  subst hw
  simp [loK,hiK,pJ]
 | k+1,w,hk,hw,hm=>by
  obtain ⟨c,hc⟩:∃c,d[k]?=some c:=⟨d[k],bp (by omega)⟩
  rw [Aq,zg hc,az,gX,cb,cb] at hm
  have hp:(10:Nat) ^ (k+1)=10 ^ k*10:=rU 10 k
  have ih:=BM d hl hd k (w / 10) (by omega) (by omega) hm.2
  have h1:=xz 48 hc
  have h2:=xz 57 hc
  unfold loK hiK at ih ⊢
  rw [h1,h2]
  by_cases hx:c=88
  ·rw [ae hx,ae hx]
   have e1:(48:UInt8).toNat - 48=0:=rfl
   have e2:(57:UInt8).toNat - 48=9:=rfl
   rw [e1,e2]
   omega
  ·rw [ab hx,ab hx]
   have:=hm.1.resolve_left hx
   omega
theorem zi (z:UInt8) (hz:bw z=true) (d:aa) (hl:d.length=4) (hd:∀c∈d,bw c=true\/c=88):∀k,k<=4->mtk d k (dval 0 ((ej z d).take k))=true
 | 0,_=>rfl
 | k+1,hk=>by
  obtain ⟨c,hc⟩:∃c,d[k]?=some c:=⟨d[k],bp (by omega)⟩
  have ih:=zi z hz d hl hd k (by omega)
  have hdg:bw (if c=88 then z else c)=true:=by
   by_cases hx:c=88
   ·rw [ae hx];exact hz
   ·rw [ab hx];exact (hd c (gQ hc)).resolve_right hx
  have hr:=(cg _).1 hdg
  rw [Aq,zg hc,xz z hc]
  generalize hb:(if c=88 then z else c)=b at hr ⊢
  generalize dval 0 ((ej z d).take k)=a at ih ⊢
  have e1:(a*10+(b.toNat - 48)) / 10=a:=by omega
  have e2:(a*10+(b.toNat - 48))%10=b.toNat - 48:=by omega
  rw [e1,e2,ih,yi]
  by_cases hx:c=88
  ·rw [ar hx];rfl
  ·rw [ab hx] at hb
   rw [hb,ar (show b.toNat=48+(b.toNat - 48) by omega),Bool.or_true]
def AO:List (aa):=[[48,48,48,88],[48,48,88,48],[48,48,88,88],[48,88,48,48],[48,88,48,88],[48,88,88,48],[48,88,88,88],[88,48,48,48],[88,48,48,88],[88,48,88,48],[88,48,88,88],[88,88,48,48],[88,88,48,88],[88,88,88,48],[88,88,88,88]]
theorem U4:AO.all (λd=>mtk d 4 (tM d)&&decide (1<=tM d)&&decide (tM d<=1000)&&(List.range 1000).all (λw=>decide (w=0)||!mtk d 4 w||decide (tM d<=w)))=true:=by decide +kernel
theorem CP {d:aa} (hd:d∈AO):mtk d 4 (tM d)=true/\1<=tM d/\tM d<=1000/\∀w,1<=w->mtk d 4 w=true->tM d<=w:=by
 have h:=dF.1 U4 d hd
 simp only [az,cb,dF,kq,gX,kl] at h
 obtain ⟨⟨⟨h1,h2⟩,h3⟩,h4⟩:=h
 refine ⟨h1,h2,h3,λw hw hm=>?_⟩
 rcases aG w 1000 with hlt | hge
 ·rcases h4 w hlt with (h | h) | h
  ·omega
  ·rw [hm] at h;cases h
  ·exact h
 ·omega
theorem Bv {d:aa} (hl:d.length=4) (hd:∀c∈d,bw c=true\/c=88) (hX:hasX d=true) (hz:dval 0 (ej 48 d)=0):d∈AO:=
 yC hl (A5 hl hd hz) hX (λd=>d∈AO) (by decide) (by decide) (by decide) (by decide) (by decide) (by decide) (by decide) (by decide) (by decide) (by decide) (by decide) (by decide) (by decide) (by decide) (by decide)
theorem QB {d:aa} (hl:d.length=4):loK d 4=dval 0 (ej 48 d):=by
 unfold loK;rw [iP (by rw [iQ];omega)]
theorem Q4 {d:aa} (hl:d.length=4):hiK d 4=dval 0 (ej 57 d):=by
 unfold hiK;rw [iP (by rw [iQ];omega)]
theorem NN {g:Bool} {d:aa} (hl:d.length=4) (hd:∀c∈d,bw c=true\/c=88) (hX:hasX d=true):
  (kI g d).1<10000/\(kI g d).2<10000/\mtk d 4 (kI g d).1=true/\mtk d 4 (kI g d).2=true/\1<=(kI g d).2/\(g=true->1<=(kI g d).1)/\∀w,w<10000->mtk d 4 w=true->(g=true->1<=w)->(kI g d).1<=w/\w<=(kI g d).2:=by
 have h4:(10:Nat) ^ 4=10000:=by decide
 have d48:=qM (z:=48) (by decide) hd
 have d57:=qM (z:=57) (by decide) hd
 have b1:=tZ (ej 48 d) 0 0 d48 (by simp)
 have b2:=tZ (ej 57 d) 0 0 d57 (by simp)
 rw [iQ,hl,cD,h4] at b1 b2
 have m1:=zi 48 (by decide) d hl hd 4 (by omega)
 have m2:=zi 57 (by decide) d hl hd 4 (by omega)
 rw [iP (by rw [iQ];omega)] at m1 m2
 have hr:∀w,w<10000->mtk d 4 w=true->dval 0 (ej 48 d)<=w/\w<=dval 0 (ej 57 d):=λw hw hm=>by
  have:=BM d hl hd 4 w (by omega) (by omega) hm
  rw [QB hl,Q4 hl] at this
  exact this
 have hhi:1<=dval 0 (ej 57 d):=by
  rcases zS (dval 0 (ej 57 d)) with h0 | h0
  ·exfalso
   have hz:dval 0 (ej 48 d)=0:=by
    have:=(hr _ b1 m1).2
    omega
   have h15:=Bv hl hd hX hz
   have hlow:=CP h15
   have:=(hr _ (by omega) hlow.1).2
   omega
  ·exact h0
 unfold kI
 by_cases hz:g=true/\dval 0 (ej 48 d)=0
 ·rw [ae hz]
  have hlow:=CP (Bv hl hd hX hz.2)
  refine ⟨by simp only;omega,b2,hlow.1,m2,hhi,λ_=>hlow.2.1,λw hw hm hg=>⟨hlow.2.2.2 w (hg hz.1) hm,(hr w hw hm).2⟩⟩
 ·rw [ab hz]
  refine ⟨b1,b2,m1,m2,hhi,λhg=>?_,λw hw hm hg=>hr w hw hm⟩
  simp only
  rcases zS (dval 0 (ej 48 d)) with h0 | h0
  ·exact absurd ⟨hg,h0⟩ hz
  ·exact h0
theorem ND {g l:Bool} {d:aa} {x s:Int} (hok:okY g l d x s):(o8 g d x s).1<=10000000000000000/\(o8 g d x s).2<=10000000000000000/\memP d x s (o8 g d x s).1/\memP d x s (o8 g d x s).2/\(hasX d=true->1<=(o8 g d x s).2/\(g=true->1<=(o8 g d x s).1))/\
  ∀w,w<=10000000000000000->memP d x s w->(hasX d=true->g=true->1<=w)->(o8 g d x s).1<=w/\w<=(o8 g d x s).2:=by
 unfold o8 memP
 cases hX:hasX d with
 | true=>
  obtain ⟨rfl,rfl,rfl,hl,hd⟩:=qe hok hX
  obtain ⟨p1,p2,p3,p4,p5,p6,p7⟩:=NN (g:=g) hl hd hX
  have h4:(10:Nat) ^ 4=10000:=by decide
  simp only [aQ,h4]
  refine ⟨by omega,by omega,⟨p3,Nat.div_eq_of_lt p1⟩,⟨p4,Nat.div_eq_of_lt p2⟩,λ_=>⟨p5,p6⟩,λw hw hm hg=>p7 w (by omega) hm.1 (hg trivial)⟩
 | false=>
  obtain ⟨k,q,rfl,rfl,hN⟩:=tL hok hX
  have hs:=hN.small
  have hv:dval 0 d*10 ^ k=val d k:=rfl
  rw [hv] at hs
  obtain ⟨s1,s2,s3⟩:=PI hN
  unfold E16 at s3
  simp only [bP,aE,bV]
  unfold Da
  unfold Am at s1 s2 s3 ⊢
  by_cases h0:0<q
  ·rw [ae h0] at s1 s2 s3 ⊢
   rw [ae h0]
   have hu:1<=10 ^ (d.length+k - q):=zq _ _ (by decide)
   generalize 10 ^ (d.length+k - q)=u at *
   generalize val d k=v at *
   simp only at s1 s2 s3 ⊢
   have hmul:v / u*u / u=v / u:=Nat.mul_div_cancel _ hu
   have hlt:∀w,v / u*u<=w->w<v / u*u+u->w / u=v / u:=by
    intro w h1 h2
    apply Nat.div_eq_of_lt_le
    ·exact h1
    ·rw [Nat.succ_mul];exact h2
   have hback:∀w,v / u=w / u->v / u*u<=w/\w<v / u*u+u:=by
    intro w h
    rw [h]
    have h1:=Es w u
    have h2:=Nat.div_add_mod w u
    have h3:=zO w hu
    rw [wk] at h2
    omega
   have hmin:min (v / u*u+u - 1) E16<=v / u*u+u - 1:=Nat.min_le_left _ _
   have hself:=hback v rfl
   refine ⟨by omega,s3,hmul.symm,(hlt _ (by omega) (by omega)).symm,λq=>(by cases q),λw hw hm _=>?_⟩
   obtain ⟨c1,c2⟩:=hback w hm
   refine ⟨c1,?_⟩
   rw [Nat.le_min]
   unfold E16
   omega
  ·rw [ab h0] at s1 s2 s3 ⊢
   rw [ab h0]
   simp only [sy] at s1 s2 s3 ⊢
   refine ⟨s3,s3,trivial,trivial,λq=>(by cases q),λw hw hm _=>by omega⟩
theorem IV {g l:Bool} {d:aa} {x s:Int} (hok:okY g l d x s):inP g d x s (sgn g (o8 g d x s)).1/\inP g d x s (sgn g (o8 g d x s)).2/\∀v,inP g d x s v->(sgn g (o8 g d x s)).1<=v/\v<=(sgn g (o8 g d x s)).2:=by
 obtain ⟨p1,p2,p3,p4,p5,p6⟩:=ND hok
 generalize o8 g d x s=sp at *
 obtain ⟨lo,hi⟩:=sp
 simp only at p1 p2 p3 p4 p5 p6
 cases g with
 | true=>
  have hw:∀a:Nat,wOf true (-(a:Int))=(a:Int):=λa=>by unfold wOf;simp
  have mk:∀a:Nat,a<=10000000000000000->memP d x s a->(hasX d=true->1<=a)->inP true d x s (-(a:Int)):=by
   intro a h1 h2 h3
   refine ⟨by omega,by omega,by rw [hw];omega,λq=>?_,by rw [hw,bV];exact h2⟩
   have:=h3 q.1
   have h4:=q.2.2
   rw [hw] at h4
   omega
  simp only [sgn,aQ]
  refine ⟨mk hi p2 p4 (λh=>(p5 h).1),mk lo p1 p3 (λh=>(p5 h).2 rfl),λv hv=>?_⟩
  obtain ⟨v1,v2,v3,v4,v5⟩:=hv
  have hwv:wOf true v=-v:=rfl
  rw [hwv] at v3 v4 v5
  have:=p6 (-v).toNat (by omega) v5 (λhx _=>by
   have:¬-v=0:=λe=>v4 ⟨hx,rfl,e⟩
   omega)
  omega
 | false=>
  have hw:∀a:Int,wOf false a=a:=λa=>rfl
  have mk:∀a:Nat,a<=10000000000000000->memP d x s a->inP false d x s (a:Int):=by
   intro a h1 h2
   exact ⟨by omega,by omega,by rw [hw];omega,λq=>(by cases q.2.1),by rw [hw,bV];exact h2⟩
  simp only [sgn,bP,aE]
  refine ⟨mk lo p1 p3,mk hi p2 p4,λv hv=>?_⟩
  obtain ⟨v1,v2,v3,v4,v5⟩:=hv
  rw [hw] at v3 v5
  have:=p6 v.toNat (by omega) v5 (λ_ q=>by cases q)
  omega
end Go.Sh
namespace Go.Sh.Mk
open Go.Abs
def okB (c:UInt8):Bool:=c.toNat==88||(decide (48<=c.toNat)&&decide (c.toNat<=57))
def chk (s:aa):Int:=if 18<s.length then 3 else if s.all okB then (if s=[] then 5 else 0) else 5
theorem uV (n:Nat) (s0 s:aa) (hn:s.length+1<n):
  am (iC n) n (s0,s,0)=some (if s.all okB then .inr s0 else .inl 5):=by
 have:=fq (step:=iC n) (λx=>x.1=s0/\x.2.1=s/\x.2.2<=s.length) (λx=>s.length - x.2.2)
  (λx=>if (s.drop x.2.2).all okB then .inr s0 else .inl 5) ?_ n (s0,s,0) ⟨rfl,rfl,sj _⟩ (by simp;omega)
 ·simpa using this
 rintro ⟨a,b,i⟩ ⟨rfl,rfl,hi⟩
 simp only at hi ⊢
 rcases aG i b.length with hlt | hge
 ·obtain ⟨c,hc⟩:∃c,b[i]?=some c:=⟨b[i],bp hlt⟩
  have hb:Nat.blt i b.length=true:=dG hlt
  rw [ci hc,oG]
  simp only [iC,hb,aj]
  by_cases h128:c.toNat<128
  ·rw [Ee hc h128]
   by_cases h88:c.toNat=88
   ·refine .inl ⟨(a,b,i+1),by simp [h88],⟨rfl,rfl,by simp only;omega⟩,by simp only;omega,?_⟩
    simp [okB,h88]
   ·by_cases h48:c.toNat<48
    ·refine .inr ?_
     have e1:(((c.toNat:Nat):Int) != 88)=true:=by simp;omega
     have e2:(decide (((c.toNat:Nat):Int)<48))=true:=by simp;omega
     have e3:okB c=false:=by simp [okB];omega
     simp [e1,e2,e3]
    ·by_cases h57:57<c.toNat
     ·refine .inr ?_
      have e1:(((c.toNat:Nat):Int) != 88)=true:=by simp;omega
      have e2:(decide (((c.toNat:Nat):Int)<48))=false:=by simp;omega
      have e4:(decide (((c.toNat:Nat):Int)>57))=true:=by simp;omega
      have e3:okB c=false:=by simp [okB];omega
      simp [e1,e2,e3,e4]
     ·have e1:(((c.toNat:Nat):Int) != 88)=true:=by simp;omega
      have e2:(decide (((c.toNat:Nat):Int)<48))=false:=by simp;omega
      have e4:(decide (((c.toNat:Nat):Int)>57))=false:=by simp;omega
      have e3:okB c=true:=by simp [okB];omega
      refine .inl ⟨(a,b,i+1),by simp only [e1,e2,e4,aj,af],⟨rfl,rfl,by simp only;omega⟩,by simp only;omega,?_⟩
      simp [e3]
  ·obtain ⟨h1,h2⟩:=FR hc (by omega)
   refine .inr ?_
   have e1:((((dec b i).1:Nat):Int) != 88)=true:=by simp;omega
   have e2:(decide ((((dec b i).1:Nat):Int)<48))=false:=by simp;omega
   have e4:(decide ((((dec b i).1:Nat):Int)>57))=true:=by simp;omega
   have e3:okB c=false:=by simp [okB];omega
   simp [e1,e2,e3,e4]
 ·have hb:Nat.blt i b.length=false:=by
   cases h:Nat.blt i b.length with
   | false=>rfl
   | true=>have:i<b.length:=aI h;omega
  refine .inr ?_
  simp only [iC,hb,af]
  rw [jo hge]
  rfl
theorem ll (n:Nat) (s:aa) (hn:30<=n):jP n s=some (chk s):=by
 unfold jP chk
 by_cases h:18<s.length
 ·have:(decide (((List.length s:Nat):Int)>18))=true:=by simp;omega
  simp [this,h]
 ·have e:(decide (((List.length s:Nat):Int)>18))=false:=by simp;omega
  simp only [e,af,h,aE]
  rw [uV n s s (by omega)]
  by_cases ha:s.all okB=true
  ·simp only [ha,aQ,ob]
   by_cases hs:s=[]
   ·simp [hs]
   ·have:(s==([]:aa))=false:=by simpa using hs
    simp [this,hs]
  ·simp [ha,ob]
theorem ny {s:aa} (h:chk s=0):s.length<=18/\s≠[]/\∀c∈s,okB c=true:=by
 unfold chk at h
 split at h
 ·simp at h
 ·split at h
  ·rename_i ha
   split at h
   ·simp at h
   ·rename_i hs
    exact ⟨by omega,hs,by simpa using ha⟩
  ·simp at h
def nums (l:aa):List Int:=l.map λb=>((b.toNat:Nat):Int)
def over (d:List Int) (i:Nat) (l:List Int):List Int:=d.take i++(l++d.drop (i+l.length))
theorem Ab (d:List Int) (i:Nat) (x:Int) (l:List Int) (h:i<d.length):over (d.set i x) (i+1) l=over d i (x::l):=by
 unfold over
 rw [show (d.set i x).take (i+1)=d.take i++[x] from by
  rw [J9 (by simpa using h)]
  simp [List.take_set_of_le]]
 rw [List.drop_set_of_lt (by omega)]
 simp [gO,oS 1]
theorem F6 (d:List Int) (i:Nat):over d i []=d:=by simp [over]
theorem NY (d:List Int) (i:Nat) (l:List Int) (h:i+l.length<=d.length):(over d i l).length=d.length:=by
 unfold over;simp;omega
theorem L6 {x y:UInt8}:(((x.toNat:Nat):Int)==((y.toNat:Nat):Int))=decide (x=y):=by
 by_cases h:x=y
 ·simp [h]
 ·have:x.toNat≠y.toNat:=λe=>h (gH.1 e)
  simp [h];omega
theorem y7 {x:UInt8}:(((x.toNat:Nat):Int)==88)=decide (x=88):=by
 have:=L6 (x:=x) (y:=88)
 simpa using this
def dg:Nat->Int->List Int
 | 0,_=>[]
 | L+1,k=>dg L (k / 10)++[48+k%10]
theorem vM:∀(L:Nat) (k:Int),(dg L k).length=L
 | 0,_=>rfl
 | L+1,k=>by simp [dg,vM L]
theorem tc:∀(L:Nat) (k:Int),∀x∈dg L k,48<=x/\x<58
 | 0,_,x,h=>by simp [dg] at h
 | L+1,k,x,h=>by
  simp only [dg,nU,D6] at h
  rcases h with h | rfl
  ·exact tc L _ x h
  ·omega
def jf:aa->List Int->Bool
 | c::m,d::l=>(c==88||decide (((c.toNat:Nat):Int)=d))&&jf m l
 | _,_=>true
theorem uH:∀{a c:aa} {b d:List Int},a.length=b.length->jf (a++c) (b++d)=(jf a b&&jf c d)
 | [],c,[],d,_=>by simp [jf]
 | x::a,c,y::b,d,h=>by
  simp only [aD,xb] at h
  simp only [fP,jf,uH h,Bool.and_assoc]
def hasM (m:aa) (k:Int):Bool:=decide (0<=k)&&(decide (k<10 ^ m.length)&&jf m (dg m.length k))
theorem Np (L:Nat) (h:L<=18):o5 20000000 ((L:Nat):Int)=some (10 ^ L):=by
 have hk:allN (λi=>match o5 20000000 ((i:Nat):Int) with | some r=>decide (r=10 ^ i) | none=>false) 19=true:=by kernel_rfl
 have:=Ej hk L (by omega)
 split at this
 ·rename_i r hr
  rw [hr];simpa using this
 ·cases this
theorem Ba (L:Nat) (h:L<=18):(10:Int) ^ L<=1000000000000000000:=by
 have hk:allN (λi=>decide ((10:Int) ^ i<=1000000000000000000)) 19=true:=by kernel_rfl
 simpa using Ej hk L (by omega)
theorem RY {k:Int} (h:0<=k):Int.tmod k 10=k%10:=KA h
theorem TN {k:Int} (h:0<=k):Int.tdiv k 10=k / 10:=OJ h
theorem HD (k:Int) (i:Nat) (d:List Int) (h0:0<=k) (h1:k<9223372036854775808) (hi:i<=18) (hd:d.length=18):
  am (iz 20000000) 20000000 (k,(i:Int) - 1,d)=some (over d 0 (dg i k)):=by
 have:=fq (step:=iz 20000000) (λx=>(0<=x.1/\x.1<9223372036854775808)/\(-1<=x.2.1/\x.2.1<=17)/\x.2.2.length=18) (λx=>(x.2.1+1).toNat)
  (λx=>over x.2.2 0 (dg (x.2.1+1).toNat x.1)) ?_ 20000000 (k,(i:Int) - 1,d) ⟨⟨h0,h1⟩,⟨by simp only;omega,by simp only;omega⟩,hd⟩ (by simp only;omega)
 ·simpa using this
 rintro ⟨k,i,d⟩ ⟨⟨h0,h1⟩,⟨h2,h3⟩,hd⟩
 simp only at h0 h1 h2 h3 hd ⊢
 by_cases hi:0<=i
 ·obtain ⟨j,rfl⟩:∃j:Nat,i=j:=⟨i.toNat,by omega⟩
  have hj:j<18:=by omega
  have e1:decide ((j:Int)>=0)=true:=by simp
  have e2:Nat.blt j 18=true:=dG hj
  have w1:IntKind.wrap .i64 ((j:Int) - 1)=(j:Int) - 1:=wrap_i64 _ (by omega) (by omega)
  have w2:IntKind.wrap .i64 (Int.tdiv k 10)=k / 10:=by rw [TN h0];exact wrap_i64 _ (by omega) (by omega)
  have w3:IntKind.wrap .u8 (IntKind.wrap .i64 (48+Int.tmod k 10))=48+k%10:=by rw [RY h0,wrap_i64 _ (by omega) (by omega),jR _ (by omega) (by omega)]
  refine .inl ⟨(k / 10,(j:Int) - 1,d.set j (48+k%10)),by simp only [iz,e1,aj,dp hj,ob,e2,w1,w2,w3],⟨⟨by simp only;omega,by simp only;omega⟩,⟨by simp only;omega,by simp only;omega⟩,by simpa using hd⟩,by simp only;omega,?_⟩
  have s1:((j:Int) - 1+1).toNat=j:=by omega
  have s2:((j:Int)+1).toNat=j+1:=by omega
  simp only [s1,s2,over,nM,dQ,vM,cY,dg,jr]
  congr 1
  rw [List.drop_set,ab (by omega),zw,wU (by omega)]
  simp only [List.set_cons_zero,aM,vM,aD,bj,fP,dQ,cY]
 ·have e1:decide (i>=0)=false:=by simp;omega
  have s:(i+1).toNat=0:=by omega
  refine .inr ?_
  simp only [iz,e1,af,s,dg,F6]
theorem NC (m:aa) (k:Int) (hm:m.length<=18) (h0:0<=k) (h1:k<9223372036854775808):
  kU 20000000 m k=some (over [0,0,0,0,0,0,0,0,0,0,0,0,0,0,0,0,0,0] 0 (dg m.length k)):=by
 have w:IntKind.wrap .i64 (((List.length m:Nat):Int) - 1)=(m.length:Int) - 1:=wrap_i64 _ (by omega) (by omega)
 simp only [kU,w,HD k m.length [0,0,0,0,0,0,0,0,0,0,0,0,0,0,0,0,0,0] h0 h1 hm (by rfl),ob]
theorem vo {d l:List Int} {i:Nat} (h:i<l.length):(over d 0 l)[i]?=l[i]?:=by
 unfold over
 simp only [nM,dQ]
 rw [nh h]
theorem yk:∀(l:List Int),(∀x∈l,0<=x/\x<256)->nums (ib l)=l
 | [],_=>rfl
 | x::l,h=>by
  have ih:=yk l λy hy=>h y (gq _ hy)
  obtain ⟨h0,h1⟩:=h x (by simp)
  have e:(((UInt8.ofNat x.toNat).toNat:Nat):Int)=x:=by
   rw [DZ,qK (by omega)];omega
  simp only [nums,ib,rW] at ih ⊢
  simp only [fE,Function.comp,e]
  rw [show List.map ((λb:UInt8=>((b.toNat:Nat):Int)) ∘ λn:Int=>UInt8.ofNat n.toNat) l=l from ih]
theorem L0 (l:aa):(nums l).length=l.length:=by simp [nums]
def cnt:aa->Nat
 | []=>0
 | c::r=>if c=88 then cnt r+1 else cnt r
def dv (c:UInt8):Int:=((c.toNat:Nat):Int) - 48
def nth:aa->Int->Int
 | [],_=>0
 | c::r,i=>if c=88 then 10*nth r (i / 10)+i%10 else 10*nth r i+dv c
def ag:aa->Int->Bool
 | [],_=>true
 | c::r,k=>ag r (k / 10)&&(decide (c=88)||decide (dv c=k%10))
def idx:aa->Int->Int
 | [],_=>0
 | c::r,k=>if c=88 then 10*idx r (k / 10)+k%10 else idx r (k / 10)
def okR (r:aa):Prop:=∀c∈r,c=88\/(0<=dv c/\dv c<10)
theorem yO {m:aa} (h:∀c∈m,okB c=true):okR m.reverse:=by
 intro c hc
 have:=h c (List.mem_reverse.1 hc)
 simp only [okB,gX,bB,az,cb] at this
 rcases this with h | h
 ·exact .inl (gH.1 (by simpa using h))
 ·exact .inr (by unfold dv;omega)
theorem rk {c:UInt8} {r:aa} (h:okR (c::r)):okR r:=λx hx=>h x (gq _ hx)
theorem iy (n:Nat):(10:Int) ^ (n+1)=10*10 ^ n:=by rw [Int.pow_succ,yo]
theorem sY (n:Nat):(0:Int)<10 ^ n:=Int.pow_pos (by omega)
theorem qB:∀{r:aa},okR r->∀i,0<=i->0<=nth r i/\nth r i<10 ^ r.length
 | [],_,i,_=>by simp [nth]
 | c::r,h,i,hi=>by
  simp only [nth,aD,iy]
  split
  ·have:=qB (rk h) (i / 10) (by omega)
   omega
  ·rename_i hc
   have:=qB (rk h) i hi
   have:=(h c (by simp)).resolve_left hc
   omega
theorem JO:∀{r:aa},okR r->∀i,0<=i->ag r (nth r i)=true
 | [],_,_,_=>rfl
 | c::r,h,i,hi=>by
  simp only [nth,ag]
  split
  ·rename_i hc
   have e:(10*nth r (i / 10)+i%10) / 10=nth r (i / 10):=by omega
   rw [e,JO (rk h) (i / 10) (by omega)]
   simp [hc]
  ·rename_i hc
   have hd:=(h c (by simp)).resolve_left hc
   have e:(10*nth r i+dv c) / 10=nth r i:=by omega
   have e2:(10*nth r i+dv c)%10=dv c:=by omega
   rw [e,e2,JO (rk h) i hi]
   simp
theorem xx:∀(r:aa) (k:Int),0<=k->0<=idx r k/\idx r k<10 ^ cnt r
 | [],k,_=>by simp [idx,cnt]
 | c::r,k,hk=>by
  have:=xx r (k / 10) (by omega)
  simp only [idx,cnt]
  split
  ·rw [iy];omega
  ·exact this
theorem LA:∀{r:aa} {k:Int},0<=k->k<10 ^ r.length->ag r k=true->nth r (idx r k)=k
 | [],k,h0,h1,_=>by simp at h1;simp [nth];omega
 | c::r,k,h0,h1,ha=>by
  simp only [ag,az,gX,cb] at ha
  rw [aD,iy] at h1
  have ih:=LA (r:=r) (k:=k / 10) (by omega) (by omega) ha.1
  simp only [nth,idx]
  split
  ·have:=xx r (k / 10) (by omega)
   have e:(10*idx r (k / 10)+k%10) / 10=idx r (k / 10):=by omega
   have e2:(10*idx r (k / 10)+k%10)%10=k%10:=by omega
   rw [e,e2,ih];omega
  ·rename_i hc
   rw [ih]
   have:=ha.2.resolve_left hc
   omega
theorem zC:∀{r:aa},okR r->∀i j,0<=i->i<j->j<10 ^ cnt r->nth r i<nth r j
 | [],_,i,j,h0,h1,h2=>by simp [cnt] at h2;omega
 | c::r,h,i,j,h0,h1,h2=>by
  simp only [nth,cnt] at h2 ⊢
  split
  ·rename_i hc
   rw [ae hc,iy] at h2
   by_cases hq:i / 10=j / 10
   ·rw [hq];omega
   ·have:=zC (rk h) (i / 10) (j / 10) (by omega) (by omega) (by omega)
    omega
  ·rename_i hc
   rw [ab hc] at h2
   have:=zC (rk h) i j h0 h1 h2
   omega
theorem Gq:∀(r:aa),∀k,jf r.reverse (dg r.length k)=ag r k
 | [],k=>rfl
 | c::r,k=>by
  simp only [List.reverse_cons,aD,dg,ag]
  rw [uH (by rw [ut,vM]),Gq r]
  have e1:decide (((c.toNat:Nat):Int)=48+k%10)=decide (dv c=k%10):=nq.2 (by unfold dv;omega)
  have e2:(c==88)=decide (c=88):=by by_cases h:c=88<;>simp [h]
  simp only [jf,yi,e1,e2]
theorem Dm (m:aa) (k:Int):hasM m k=(decide (0<=k)&&(decide (k<10 ^ m.length)&&ag m.reverse k)):=by
 have:=Gq m.reverse k
 rw [wB,ut] at this
 unfold hasM
 rw [this]
theorem xc:∀(m:aa),cnt m=m.count 88
 | []=>rfl
 | c::m=>by
  simp only [cnt,xc m,List.count_cons]
  by_cases h:c=88<;>simp [h]
theorem sI (m:aa):cnt m.reverse=cnt m:=by rw [xc,xc,List.count_reverse]
theorem KB:∀(m:aa),cnt m<=m.length
 | []=>by simp [cnt]
 | c::m=>by
  have:=KB m
  simp only [cnt,aD]
  split<;>omega
def fd (x y:Int):Int:=(if y=88 then x else y) - 48
def fval (x:Int) (l:List Int):Int:=l.foldl (λn y=>10*n+fd x y) 0
theorem zN (x:Int):∀(l:List Int) (n:Int),l.foldl (λn y=>10*n+fd x y) n=n*10 ^ l.length+fval x l
 | [],n=>by simp [fval]
 | y::l,n=>by
  have e:=zN x l (10*n+fd x y)
  have e2:=zN x l (10*0+fd x y)
  simp only [fval,uE,aD,iy] at e e2 ⊢
  rw [e,e2,Int.add_mul,Int.add_mul]
  have:10*n*10 ^ l.length=n*(10*10 ^ l.length):=by rw [yo 10 n,Int.mul_assoc]
  omega
theorem wq (s:aa) (x:Int) (h18:s.length<=18) (hs:∀c∈s,0<=fd x ((c.toNat:Nat):Int)/\fd x ((c.toNat:Nat):Int)<10):lG 20000000 s x=some (fval x (nums s)):=by
 have hs':∀y∈nums s,0<=fd x y/\fd x y<10:=by
  intro y hy
  obtain ⟨c,hc,rfl⟩:=eJ.1 hy
  exact hs c hc
 have hl:(nums s).length=s.length:=L0 s
 have:=fq (step:=gP 20000000)
  (λst=>st.1=x/\st.2.2.1=((s.length:Nat):Int)/\st.2.2.2.2=nums s/\(0<=st.2.2.2.1/\st.2.2.2.1<=s.length)/\0<=st.2.1/\st.2.1<10 ^ st.2.2.2.1.toNat) (λst=>s.length - st.2.2.2.1.toNat)
  (λst=>((nums s).drop st.2.2.2.1.toNat).foldl (λn y=>10*n+fd x y) st.2.1) ?_ 20000000 (x,0,((s.length:Nat):Int),0,nums s) ⟨rfl,rfl,rfl,⟨by simp,by simp⟩,by simp,by simp⟩ (by simp;omega)
 ·show (ob (am (gP 20000000) 20000000 (x,0,((List.length (nums s):Nat):Int),0,nums s)) λy30=>some y30)=_
  rw [hl,this]
  rfl
 rintro ⟨x',n,len,i,l⟩ ⟨q1,q2,q3,⟨h0,hi⟩,n0,n1⟩
 simp only at q1 q2 q3 h0 hi n0 n1 ⊢
 subst q1 q2 q3
 obtain ⟨j,rfl⟩:∃j:Nat,i=j:=⟨i.toNat,by omega⟩
 simp only [bV] at n1 ⊢
 rcases aG j s.length with hlt | hge
 ·obtain ⟨y,hy⟩:∃c,(nums s)[j]?=some c:=⟨(nums s)[j]'(by omega),bp (by omega)⟩
  obtain ⟨d0,d1⟩:=hs' y (gQ hy)
  have hb:(decide ((j:Int)<((s.length:Nat):Int)))=true:=by simp;omega
  have hw:IntKind.wrap .i64 ((j:Int)+1)=((j+1:Nat):Int):=by rw [wrap_i64 _ (by omega) (by omega)];omega
  have hb1:=Ba (j+1) (by omega)
  rw [iy] at hb1
  have w1:IntKind.wrap .i64 (10*n)=10*n:=wrap_i64 _ (by omega) (by omega)
  have w2:∀z:Int,0<=z->z<10->IntKind.wrap .i64 (10*n+IntKind.wrap .i64 (IntKind.wrap .u8 z))=10*n+z:=λz z0 z1=>by
   rw [jR z (by omega) (by omega),wrap_i64 z (by omega) (by omega),wrap_i64 _ (by omega) (by omega)]
  rw [ci hy,uE]
  simp only [gP,hb,aj,dp (show j<(nums s).length by omega),ob,hy,hw,w1]
  have next:0<=10*n+fd x' y/\10*n+fd x' y<10 ^ (j+1):=by rw [iy];omega
  by_cases h88:y=88
  ·have e1:(y==88)=true:=by simpa using h88
   have hd:fd x' y=x' - 48:=by simp [fd,h88]
   rw [hd] at d0 d1 next ⊢
   refine .inl ⟨(x',10*n+(x' - 48),((s.length:Nat):Int),((j+1:Nat):Int),nums s),by simp only [e1,aj,w2 _ d0 d1],⟨rfl,rfl,rfl,⟨by simp only;omega,by simp only;omega⟩,next.1,by simpa only [bV] using next.2⟩,by simp only [bV];omega,by simp only [bV]⟩
  ·have e1:(y==88)=false:=by simpa using h88
   have hd:fd x' y=y - 48:=by simp [fd,h88]
   rw [hd] at d0 d1 next ⊢
   refine .inl ⟨(x',10*n+(y - 48),((s.length:Nat):Int),((j+1:Nat):Int),nums s),by simp only [e1,af,w2 _ d0 d1],⟨rfl,rfl,rfl,⟨by simp only;omega,by simp only;omega⟩,next.1,by simpa only [bV] using next.2⟩,by simp only [bV];omega,by simp only [bV]⟩
 ·have hb:(decide ((j:Int)<((s.length:Nat):Int)))=false:=by simp;omega
  refine .inr ?_
  simp only [gP,hb,af]
  rw [jo (by omega)];rfl
theorem wL (x:Int) (l:List Int) (y:Int):fval x (l++[y])=10*fval x l+fd x y:=by simp [fval,FM]
theorem Bd (r:aa) (c:UInt8):nums ((c::r).reverse)=nums r.reverse++[((c.toNat:Nat):Int)]:=by simp [nums]
theorem C3 (x:Int) (c:UInt8):fd x ((c.toNat:Nat):Int)=if c=88 then x - 48 else dv c:=by
 unfold fd dv
 by_cases h:c=88
 ·simp [h]
 ·have:¬((c.toNat:Nat):Int)=88:=λe=>h (gH.1 (by simpa using (by omega:c.toNat=88)))
  rw [ab this,ab h]
theorem yp:∀(r:aa),fval 48 (nums r.reverse)=nth r 0
 | []=>rfl
 | c::r=>by
  rw [Bd,wL,yp r,C3]
  simp only [nth]
  split<;>simp
theorem tw:∀(r:aa),fval 57 (nums r.reverse)=nth r (10 ^ cnt r - 1)
 | []=>rfl
 | c::r=>by
  have hp:=sY (cnt r)
  rw [Bd,wL,tw r,C3]
  simp only [nth,cnt]
  split
  ·rw [iy]
   have e1:(10*(10:Int) ^ cnt r - 1) / 10=10 ^ cnt r - 1:=by omega
   have e2:(10*(10:Int) ^ cnt r - 1)%10=9:=by omega
   rw [e1,e2];omega
  ·rfl
theorem UL {m:aa} (hok:∀c∈m,okB c=true) {x:Int} (hx:48<=x/\x<58):∀c∈m,0<=fd x ((c.toNat:Nat):Int)/\fd x ((c.toNat:Nat):Int)<10:=by
 intro c hc
 rw [C3]
 have:=yO hok c (List.mem_reverse.2 hc)
 split
 ·omega
 ·rename_i h;exact this.resolve_left h
theorem Ni {m:aa} (hm:chk m=0):oV 20000000 m=some (nth m.reverse 0,0):=by
 obtain ⟨h18,_,hok⟩:=ny hm
 have e0:((0:Int) != 0)=false:=by simp
 have:=yp m.reverse
 rw [wB] at this
 simp only [oV,ll 20000000 m (by omega),hm,ob,e0,af,wq m 48 h18 (UL hok (by omega)),this]
theorem Ed {m:aa} (hm:chk m=0):lq 20000000 m=some (nth m.reverse (10 ^ cnt m - 1),0):=by
 obtain ⟨h18,_,hok⟩:=ny hm
 have e0:((0:Int) != 0)=false:=by simp
 have:=tw m.reverse
 rw [wB,sI] at this
 simp only [lq,ll 20000000 m (by omega),hm,ob,e0,af,wq m 57 h18 (UL hok (by omega)),this]
theorem N7 {m:aa} {l:List Int} (z:List Int) (h18:m.length<=18) (hl:l.length=m.length) (hr:∀y∈l,48<=y/\y<58):gh 20000000 m (over z 0 l)=some (fval 0 l):=by
 have ht:List.take m.length (over z 0 l)=l:=by
  unfold over
  rw [nM,dQ,uu (by omega),iP (by omega)]
 have hn:nums (ib l)=l:=yk l λy hy=>by have:=hr y hy;omega
 have hb:(ib l).length=m.length:=by simp [ib,hl]
 simp only [gh,gG h18,ob,cY,show Nat.ble m.length 18=true from dG h18,aj,gy,ht]
 rw [wq (ib l) 0 (by omega) ?_,hn]
 intro c hc
 have hmem:((c.toNat:Nat):Int)∈l:=by rw [<-hn];exact eJ.2 ⟨c,hc,rfl⟩
 have:=hr _ hmem
 unfold fd
 rw [ab (by omega)];omega
theorem EP {m:aa} (hm:chk m=0) {i:Int} (h0:0<=i):hasM m (nth m.reverse i)=true:=by
 obtain ⟨h18,_,hok⟩:=ny hm
 have hr:=qB (yO hok) i h0
 rw [ut] at hr
 rw [Dm,JO (yO hok) i h0,ar hr.1,ar hr.2]
 rfl
def vl:List Int->Int
 | []=>0
 | y::l=>(y - 48)*10 ^ l.length+vl l
def digl (l:List Int):Prop:=∀y∈l,48<=y/\y<58
theorem dh {y:Int} {l:List Int} (h:digl (y::l)):digl l:=λx hx=>h x (gq _ hx)
theorem vk:∀{l:List Int},digl l->0<=vl l/\vl l<10 ^ l.length
 | [],_=>by simp [vl]
 | y::l,h=>by
  have ih:=vk (dh h)
  have hy:=h y (by simp)
  have hp:=sY l.length
  simp only [vl,aD,iy]
  have a1:0<=(y - 48)*10 ^ l.length:=Int.mul_nonneg (by omega) (by omega)
  have a2:(y - 48)*10 ^ l.length<=9*10 ^ l.length:=OO (by omega) (by omega)
  omega
theorem Q6 {y z:Int} {a b:List Int} (hl:a.length=b.length) (ha:digl a) (hb:digl b) (h:y<z):vl (y::a)<vl (z::b):=by
 have h1:=vk ha
 have h2:=vk hb
 have hp:=sY a.length
 simp only [vl]
 rw [<-hl] at h2 ⊢
 have a2:(y - 48+1)*10 ^ a.length<=(z - 48)*10 ^ a.length:=OO (by omega) (by omega)
 rw [Int.add_mul] at a2
 omega
theorem Ag:∀{l:List Int},digl l->fval 0 l=vl l
 | [],_=>rfl
 | y::l,h=>by
  have hy:=h y (by simp)
  have e:fval 0 (y::l)=l.foldl (λn y=>10*n+fd 0 y) (10*0+fd 0 y):=rfl
  have e2:fd 0 y=y - 48:=by unfold fd;rw [ab (by omega)]
  rw [e,zN,Ag (dh h),e2]
  simp only [vl,Int.mul_zero,Int.zero_add]
theorem I5 {l:List Int} {y:Int} (h:digl (l++[y])):vl (l++[y])=10*vl l+(y - 48):=by
 have hy:=h y (by simp)
 have hl:digl l:=λx hx=>h x (by simp [hx])
 rw [<-Ag h,<-Ag hl,wL]
 unfold fd;rw [ab (by omega)]
theorem Nk:∀(L:Nat) (k:Int),0<=k->k<10 ^ L->vl (dg L k)=k
 | 0,k,h0,h1=>by simp at h1;simp [dg,vl];omega
 | L+1,k,h0,h1=>by
  rw [iy] at h1
  have:=Nk L (k / 10) (by omega) (by omega)
  have hd:=tc (L+1) k
  simp only [dg] at hd ⊢
  rw [I5 hd,this];omega
theorem Vp {l:List Int} (h:digl l):dg l.length (vl l)=l:=by
 have go:∀(r:List Int),digl r.reverse->dg r.length (vl r.reverse)=r.reverse:=by
  intro r
  induction r with
  | nil=>intro _;rfl
  | cons y r ih=>
   intro h
   simp only [List.reverse_cons,aD] at h ⊢
   have hy:=h y (by simp)
   rw [I5 h]
   simp only [dg]
   have e1:(10*vl r.reverse+(y - 48)) / 10=vl r.reverse:=by omega
   have e2:48+(10*vl r.reverse+(y - 48))%10=y:=by omega
   rw [e1,e2,ih λx hx=>h x (nU.2 (.inl hx))]
 have:=go l.reverse (by rw [wB];exact h)
 rwa [wB,ut] at this
def fst (up:Bool):Int:=cond up 48 57
def lst (up:Bool):Int:=cond up 57 48
def stp (up:Bool) (y:Int):Int:=cond up (y+1) (y - 1)
def fil (up:Bool) (m:aa):List Int:=m.map λc=>cond (decide (c=88)) (fst up) ((c.toNat:Nat):Int)
def nx (up:Bool):aa->List Int->Option (List Int)
 | c::m,y::l=>
  if c=88 then
   match nx up m l with
   | some r=>some (y::r)
   | none=>if y=lst up then none else some (stp up y::fil up m)
  else if ((c.toNat:Nat):Int)=y then (nx up m l).map λr=>y::r
  else if decide (((c.toNat:Nat):Int)>y)=up then some (((c.toNat:Nat):Int)::fil up m) else none
 | _,_=>some []
def okM (m:aa):Prop:=∀c∈m,okB c=true
theorem qY {c:UInt8} {m:aa} (h:okM (c::m)):okM m:=λx hx=>h x (gq _ hx)
theorem EY {c:UInt8} (h:okB c=true) (h88:¬c=88):48<=((c.toNat:Nat):Int)/\((c.toNat:Nat):Int)<58:=by
 simp only [okB,gX,bB,az,cb] at h
 have:¬c.toNat=88:=λe=>h88 (gH.1 (by simpa using e))
 omega
theorem Av (up:Bool) (m:aa):(fil up m).length=m.length:=by simp [fil]
theorem JX (up:Bool) {m:aa} (h:okM m):digl (fil up m):=by
 intro y hy
 obtain ⟨c,hc,rfl⟩:=eJ.1 hy
 by_cases h88:c=88
 ·simp only [ar h88,aj]
  cases up<;>simp [fst]
 ·simp only [au h88,af]
  exact EY (h c hc) h88
theorem wn (up:Bool):∀(m:aa),jf m (fil up m)=true
 | []=>rfl
 | c::m=>by
  have:=wn up m
  simp only [fil,fE,jf] at this ⊢
  rw [this]
  by_cases h88:c=88
  ·simp [h88]
  ·simp [h88]
def eX (up:Bool) (a b:Int):Prop:=match up with | true=>a<=b | false=>b<=a
theorem Ad (up:Bool):∀{m:aa} {e:List Int},okM m->m.length=e.length->digl e->jf m e=true->eX up (vl (fil up m)) (vl e)
 | [],[],_,_,_,_=>by cases up<;>simp [fil,vl,eX]
 | c::m,y::e,hm,hl,he,ha=>by
  simp only [aD,xb] at hl
  simp only [jf,az,gX,bB,cb] at ha
  have ih:=Ad up (qY hm) hl (dh he) ha.2
  have hy:=he y (by simp)
  have hfl:=Av up m
  have h1:=JX up (qY hm)
  have same:∀z:Int,vl (z::fil up m)=(z - 48)*10 ^ m.length+vl (fil up m):=λz=>by rw [vl,hfl]
  have hcons:fil up (c::m)=(cond (decide (c=88)) (fst up) ((c.toNat:Nat):Int))::fil up m:=rfl
  rw [hcons]
  by_cases h88:c=88
  ·simp only [ar h88,aj]
   by_cases hyf:y=fst up
   ·rw [<-hyf,same,vl,<-hl]
    cases up<;>simp only [eX] at ih ⊢<;>omega
   ·cases up
    ·exact Int.le_of_lt (Q6 (by rw [hfl,hl]) (dh he) h1 (by simp [fst] at hyf ⊢;omega))
    ·exact Int.le_of_lt (Q6 (by rw [hfl,hl]) h1 (dh he) (by simp [fst] at hyf ⊢;omega))
  ·simp only [au h88,af]
   rw [ha.1.resolve_left h88,same,vl,<-hl]
   cases up<;>simp only [eX] at ih ⊢<;>omega
 | [],_::_,_,h,_,_=>by simp at h
 | _::_,[],_,h,_,_=>by simp at h
theorem Rj (up:Bool):∀{m:aa} {l:List Int},okM m->m.length=l.length->digl l->
  match nx up m l with
  | some r=>r.length=m.length/\digl r/\jf m r=true/\eX up (vl l) (vl r)/\∀e,e.length=m.length->digl e->jf m e=true->eX up (vl l) (vl e)->eX up (vl r) (vl e)
  | none=>∀e,e.length=m.length->digl e->jf m e=true->¬eX up (vl l) (vl e)
 | [],[],_,_,_=>by
  simp only [nx]
  refine ⟨rfl,by intro y hy;simp at hy,rfl,by cases up<;>simp [eX],?_⟩
  intro e h1 _ _ _
  simp only [bj] at h1
  rw [yx h1]
  cases up<;>simp [eX]
 | c::m,y::l,hm,hl,hd=>by
  simp only [aD,xb] at hl
  have ih:=Rj up (qY hm) hl (dh hd)
  have hy:=hd y (by simp)
  have hdl:=dh hd
  have hfl:=Av up m
  have hfd:=JX up (qY hm)
  have hlt:∀{z w:Int} {a b:List Int},a.length=m.length->b.length=m.length->digl a->digl b->z<w->vl (z::a)<vl (w::b):=λh1 h2 h3 h4 h5=>Q6 (by rw [h1,h2]) h3 h4 h5
  have hsame:∀(z:Int) {a b:List Int},a.length=m.length->b.length=m.length->(eX up (vl (z::a)) (vl (z::b))↔eX up (vl a) (vl b)):=λz a b h1 h2=>by
   simp only [vl,h1,h2]
   cases up<;>simp only [eX]<;>omega
  have beh:∀{z w:Int} {a b:List Int},a.length=m.length->b.length=m.length->digl a->digl b->z≠w->(eX up (vl (z::a)) (vl (w::b))↔eX up z w):=λ{z w a b} h1 h2 h3 h4 h5=>by
   rcases Int.lt_trichotomy z w with h | h | h
   ·have:=hlt h1 h2 h3 h4 h
    cases up<;>simp only [eX]<;>omega
   ·exact absurd h h5
   ·have:=hlt h2 h1 h4 h3 h
    cases up<;>simp only [eX]<;>omega
  have cases_e:∀e:List Int,e.length=(c::m).length->∃w a,e=w::a/\a.length=m.length:=λe h=>by
   match e,h with
   | w::a,h=>exact ⟨w,a,rfl,by simpa using h⟩
  by_cases h88:c=88
  ·cases hn:nx up m l with
   | some r=>
    rw [hn] at ih
    obtain ⟨i1,i2,i3,i4,i5⟩:=ih
    simp only [nx,ae h88,hn]
    refine ⟨by simp [i1],λz hz=>?_,by simp [jf,h88,i3],(hsame y hl.symm i1).2 i4,λe e1 e2 e3 e4=>?_⟩
    ·rcases dl.1 hz with rfl | hz
     ·exact hy
     ·exact i2 z hz
    ·obtain ⟨w,a,rfl,ha⟩:=cases_e e e1
     simp only [jf,h88,qw,Gi,mU] at e3
     by_cases hw:y=w
     ·subst hw
      exact (hsame y i1 ha).2 (i5 a ha (dh e2) e3 ((hsame y hl.symm ha).1 e4))
     ·exact (beh i1 ha i2 (dh e2) hw).2 ((beh hl.symm ha hdl (dh e2) hw).1 e4)
   | none=>
    rw [hn] at ih
    by_cases hlast:y=lst up
    ·simp only [nx,ae h88,hn,ae hlast]
     intro e e1 e2 e3 e4
     obtain ⟨w,a,rfl,ha⟩:=cases_e e e1
     simp only [jf,h88,qw,Gi,mU] at e3
     have hw9:=e2 w (by simp)
     by_cases hw:y=w
     ·subst hw
      exact ih a ha (dh e2) e3 ((hsame y hl.symm ha).1 e4)
     ·have:=(beh hl.symm ha hdl (dh e2) hw).1 e4
      cases up<;>simp only [eX,lst,aj,af] at this hlast<;>omega
    ·simp only [nx,ae h88,hn,ab hlast]
     have hs:48<=stp up y/\stp up y<58/\y≠stp up y/\eX up y (stp up y)/\∀w,w≠y->eX up y w->eX up (stp up y) w:=by
      cases up<;>simp only [eX,lst,stp,aj,af] at hlast ⊢<;>exact ⟨by omega,by omega,by omega,by omega,λw h1 h2=>by omega⟩
     obtain ⟨s1,s2,s3,s4,s5⟩:=hs
     refine ⟨by simp [hfl],λz hz=>?_,by simp [jf,h88,wn],(beh hl.symm hfl hdl hfd s3).2 s4,λe e1 e2 e3 e4=>?_⟩
     ·rcases dl.1 hz with rfl | hz
      ·exact ⟨s1,s2⟩
      ·exact hfd z hz
     ·obtain ⟨w,a,rfl,ha⟩:=cases_e e e1
      simp only [jf,h88,qw,Gi,mU] at e3
      by_cases hw:y=w
      ·subst hw
       exact absurd ((hsame y hl.symm ha).1 e4) (ih a ha (dh e2) e3)
      ·have h9:=s5 w (λh=>hw h.symm) ((beh hl.symm ha hdl (dh e2) hw).1 e4)
       by_cases hw2:stp up y=w
       ·rw [hw2]
        exact (hsame w hfl ha).2 (Ad up (qY hm) ha.symm (dh e2) e3)
       ·exact (beh hfl ha hfd (dh e2) hw2).2 h9
  ·have hcr:=EY (hm c (by simp)) h88
   have hag:∀w a,jf (c::m) (w::a)=true->w=((c.toNat:Nat):Int)/\jf m a=true:=λw a h=>by
    simp only [jf,az,gX,bB,cb] at h
    exact ⟨(h.1.resolve_left h88).symm,h.2⟩
   by_cases hcy:((c.toNat:Nat):Int)=y
   ·cases hn:nx up m l with
    | some r=>
     rw [hn] at ih
     obtain ⟨i1,i2,i3,i4,i5⟩:=ih
     simp only [nx,ab h88,ae hcy,hn,eK]
     refine ⟨by simp [i1],λz hz=>?_,by simp [jf,hcy,i3],(hsame y hl.symm i1).2 i4,λe e1 e2 e3 e4=>?_⟩
     ·rcases dl.1 hz with rfl | hz
      ·exact hy
      ·exact i2 z hz
     ·obtain ⟨w,a,rfl,ha⟩:=cases_e e e1
      obtain ⟨rfl,e3'⟩:=hag w a e3
      rw [hcy] at e4 ⊢
      exact (hsame y i1 ha).2 (i5 a ha (dh e2) e3' ((hsame y hl.symm ha).1 e4))
    | none=>
     rw [hn] at ih
     simp only [nx,ab h88,ae hcy,hn,iJ]
     intro e e1 e2 e3 e4
     obtain ⟨w,a,rfl,ha⟩:=cases_e e e1
     obtain ⟨rfl,e3'⟩:=hag w a e3
     rw [hcy] at e4
     exact ih a ha (dh e2) e3' ((hsame y hl.symm ha).1 e4)
   ·have hdir:decide (((c.toNat:Nat):Int)>y)=up↔eX up y ((c.toNat:Nat):Int):=by
     cases up
     ·simp only [rZ,eX];omega
     ·simp only [cb,eX];omega
    by_cases hup:decide (((c.toNat:Nat):Int)>y)=up
    ·simp only [nx,ab h88,ab hcy,ae hup]
     refine ⟨by simp [hfl],λz hz=>?_,by simp [jf,wn],(beh hl.symm hfl hdl hfd (λh=>hcy h.symm)).2 (hdir.1 hup),λe e1 e2 e3 e4=>?_⟩
     ·rcases dl.1 hz with rfl | hz
      ·exact hcr
      ·exact hfd z hz
     ·obtain ⟨w,a,rfl,ha⟩:=cases_e e e1
      obtain ⟨rfl,e3'⟩:=hag w a e3
      exact (hsame _ hfl ha).2 (Ad up (qY hm) ha.symm (dh e2) e3')
    ·simp only [nx,ab h88,ab hcy,ab hup]
     intro e e1 e2 e3 e4
     obtain ⟨w,a,rfl,ha⟩:=cases_e e e1
     obtain ⟨rfl,e3'⟩:=hag w a e3
     exact hup (hdir.2 ((beh hl.symm ha hdl (dh e2) (λh=>hcy h.symm)).1 e4))
 | [],_::_,_,h,_=>by simp at h
 | _::_,[],_,h,_=>by simp at h
def ap:aa->List Int->Nat
 | c::m,y::l=>if c=88\/((c.toNat:Nat):Int)=y then ap m l+1 else 0
 | _,_=>0
theorem S9:∀(m:aa) (l:List Int),ap m l<=m.length
 | [],_=>by simp [ap]
 | c::m,[]=>by simp [ap]
 | c::m,y::l=>by
  have:=S9 m l
  simp only [ap,aD]
  split<;>omega
theorem K5:∀(m:aa) (l:List Int),jf (m.take (ap m l)) (l.take (ap m l))=true
 | [],_=>by simp [ap,jf]
 | c::m,[]=>by simp [ap,jf]
 | c::m,y::l=>by
  have:=K5 m l
  simp only [ap]
  split
  ·rename_i h
   simp only [pX,jf,this,yi,gX,bB,cb]
   exact h
  ·rfl
theorem Jb:∀{m:aa} {l:List Int} {c:UInt8} {y:Int},m[ap m l]?=some c->l[ap m l]?=some y->¬c=88/\¬((c.toNat:Nat):Int)=y
 | [],_,c,y,h,_=>by simp at h
 | x::m,[],c,y,_,h=>by simp at h
 | x::m,z::l,c,y,h1,h2=>by
  by_cases h:x=88\/((x.toNat:Nat):Int)=z
  ·simp only [ap,ae h,EX] at h1 h2
   exact Jb h1 h2
  ·simp only [ap,ab h,lD,aq] at h1 h2
   subst h1 h2
   exact ⟨λe=>h (.inl e),λe=>h (.inr e)⟩
def bkn (up:Bool):aa->List Int->aa->Option (List Int)
 | c::m,y::d,m'=>
  match bkn up m d m' with
  | some r=>some (y::r)
  | none=>if c=88/\y≠lst up then some (stp up y::fil up (m++m')) else none
 | _,_,_=>none
theorem CV (up:Bool):∀{m m':aa} {d d':List Int},m.length=d.length->jf m d=true->
  nx up (m++m') (d++d')=match nx up m' d' with | some r=>some (d++r) | none=>bkn up m d m'
 | [],m',[],d',_,_=>by
  simp only [dQ]
  cases nx up m' d'<;>rfl
 | c::m,m',y::d,d',hl,ha=>by
  simp only [aD,xb] at hl
  simp only [jf,az,gX,bB,cb] at ha
  have ih:=CV up (m':=m') (d':=d') hl ha.2
  simp only [fP,nx,ih,bkn]
  by_cases h88:c=88
  ·simp only [ae h88]
   cases nx up m' d' with
   | some r=>rfl
   | none=>
    cases bkn up m d m' with
    | some r=>rfl
    | none=>
     by_cases hy:y=lst up
     ·simp [hy]
     ·simp [hy,h88]
  ·simp only [ab h88,ae (ha.1.resolve_left h88)]
   cases nx up m' d' with
   | some r=>rfl
   | none=>
    cases bkn up m d m' with
    | some r=>rfl
    | none=>simp [h88]
 | [],_,_::_,_,h,_=>by simp at h
 | _::_,_,[],_,h,_=>by simp at h
theorem F7 (up:Bool) (c:UInt8) (y:Int):∀{m m':aa} {d:List Int},m.length=d.length->
  bkn up (m++[c]) (d++[y]) m'=if c=88/\y≠lst up then some (d++stp up y::fil up m') else bkn up m d (c::m')
 | [],m',[],_=>by simp [bkn]
 | x::m,m',z::d,hl=>by
  simp only [aD,xb] at hl
  have ih:=F7 up c y (m':=m') hl
  simp only [fP,bkn,ih]
  by_cases h:c=88/\y≠lst up
  ·simp only [ae h]
  ·simp only [ab h,jr,fP,dQ]
 | [],_,_::_,h=>by simp at h
 | _::_,_,[],h=>by simp at h
def bki (up:Bool) (m:aa) (l:List Int):Nat->Option Nat
 | 0=>none
 | j+1=>if m[j]?=some 88/\l[j]?≠some (lst up) then some j else bki up m l j
theorem OT (up:Bool) (m:aa) (l:List Int):∀{j a:Nat},bki up m l j=some a->a<j
 | 0,a,h=>by simp [bki] at h
 | j+1,a,h=>by
  simp only [bki] at h
  split at h
  ·simp only [aq] at h;omega
  ·have:=OT up m l h;omega
theorem F3 (up:Bool) (m:aa) (l:List Int) (hl:m.length=l.length):∀j,j<=m.length->
  bkn up (m.take j) (l.take j) (m.drop j)=(bki up m l j).map λa=>l.take a++stp up (l.getD a 0)::fil up (m.drop (a+1))
 | 0,_=>by simp [bkn,bki]
 | j+1,h=>by
  obtain ⟨c,hc⟩:∃c,m[j]?=some c:=⟨m[j]'(by omega),bp (by omega)⟩
  obtain ⟨y,hy⟩:∃c,l[j]?=some c:=⟨l[j]'(by omega),bp (by omega)⟩
  have ih:=F3 up m l hl j (by omega)
  rw [ci hc] at ih
  rw [oO,oO,hc,hy]
  simp only [Option.toList_some]
  rw [F7 up c y (by simp;omega),ih]
  have hg:l.getD j 0=y:=by rw [CQ,hy];rfl
  simp only [bki,hc,hy,ne_eq,aq]
  by_cases hh:c=88/\¬y=lst up
  ·rw [ae hh,ae hh,eK,hg]
  ·rw [ab hh,ab hh]
section
variable {m:List UInt8} {l z:List Int}
theorem lY (hl:m.length=l.length) (h18:m.length<=18) (k f g:Int) (up:Bool):
  am (fh 20000000) 20000000 (m,k,up,f,g,0,over z 0 l,over z 0 l)=some (m,k,up,f,g,((ap m l:Nat):Int),over z 0 l,over z 0 l):=by
 have:=fq (step:=fh 20000000) (λx=>x.1=m/\(0<=x.2.2.2.2.2.1/\x.2.2.2.2.2.1<=m.length)/\x.2.2.2.2.2.2.1=over z 0 l) (λx=>m.length - x.2.2.2.2.2.1.toNat)
  (λx=>(x.1,x.2.1,x.2.2.1,x.2.2.2.1,x.2.2.2.2.1,x.2.2.2.2.2.1+((ap (m.drop x.2.2.2.2.2.1.toNat) (l.drop x.2.2.2.2.2.1.toNat):Nat):Int),x.2.2.2.2.2.2.1,x.2.2.2.2.2.2.2)) ?_ 20000000 (m,k,up,f,g,0,over z 0 l,over z 0 l) ⟨rfl,⟨by simp,by simp⟩,rfl⟩ (by simp;omega)
 ·simpa using this
 rintro ⟨m',k,up,f,g,i,d,o⟩ ⟨q1,⟨h0,hi⟩,q2⟩
 simp only at q1 h0 hi q2 ⊢
 subst q1 q2
 obtain ⟨j,rfl⟩:∃j:Nat,i=j:=⟨i.toNat,by omega⟩
 simp only [bV]
 rcases aG j m'.length with hlt | hge
 ·obtain ⟨c,hc⟩:∃c,m'[j]?=some c:=⟨m'[j],bp hlt⟩
  obtain ⟨y,hy⟩:∃c,l[j]?=some c:=⟨l[j]'(by omega),bp (by omega)⟩
  have hg:(over z 0 l)[j]?=some y:=by rw [vo (by omega)];exact hy
  have hb:(decide ((j:Int)<((List.length m':Nat):Int)))=true:=by simp;omega
  have hw:IntKind.wrap .i64 ((j:Int)+1)=((j+1:Nat):Int):=by rw [wrap_i64 _ (by omega) (by omega)];omega
  rw [ci hc,ci hy]
  simp only [fh,hb,aj,eF hc,ob,y7,hw,dp (show j<18 by omega),hg,ap]
  by_cases h88:c=88
  ·refine .inl ⟨(m',k,up,f,g,((j+1:Nat):Int),over z 0 l,o),by simp only [ar h88,aj],⟨rfl,⟨by simp only;omega,by simp only;omega⟩,rfl⟩,by simp only [bV];omega,?_⟩
   simp only [bV,ae (show c=88\/((c.toNat:Nat):Int)=y from .inl h88)]
   congr 6;omega
  ·simp only [au h88,af]
   by_cases hcy:((c.toNat:Nat):Int)=y
   ·have e:(((c.toNat:Nat):Int)==y)=true:=by simpa using hcy
    refine .inl ⟨(m',k,up,f,g,((j+1:Nat):Int),over z 0 l,o),by simp only [e,aj],⟨rfl,⟨by simp only;omega,by simp only;omega⟩,rfl⟩,by simp only [bV];omega,?_⟩
    simp only [bV,ae (show c=88\/((c.toNat:Nat):Int)=y from .inr hcy)]
    congr 6;omega
   ·have e:(((c.toNat:Nat):Int)==y)=false:=by simpa using hcy
    refine .inr ?_
    simp only [e,af,ab (show ¬(c=88\/((c.toNat:Nat):Int)=y) from λh=>h.elim h88 hcy),Int.ofNat_zero,Int.add_zero,Int.natCast_zero]
 ·have hb:(decide ((j:Int)<((List.length m':Nat):Int)))=false:=by simp;omega
  refine .inr ?_
  simp only [fh,hb,af]
  rw [jo hge]
  simp [ap]
theorem Kt (hl:m.length=l.length) (h18:m.length<=18) (f:Int) (up:Bool) (o:List Int) (i:Nat) (hi:i<=m.length):
  am (cq 20000000) 20000000 (m,up,f,lst up,(i:Int),over z 0 l,o) =
   some (match bki up m l i with | none=>.inl (0,16) | some a=>.inr (m,up,f,((a:Nat):Int),o)):=by
 have:=fq (step:=cq 20000000) (λx=>x.1=m/\x.2.2.2.1=lst up/\(0<=x.2.2.2.2.1/\x.2.2.2.2.1<=m.length)/\x.2.2.2.2.2.1=over z 0 l) (λx=>x.2.2.2.2.1.toNat)
  (λx=>match bki up m l x.2.2.2.2.1.toNat with | none=>.inl (0,16) | some a=>.inr (x.1,x.2.1,x.2.2.1,((a:Nat):Int),x.2.2.2.2.2.2)) ?_ 20000000 (m,up,f,lst up,(i:Int),over z 0 l,o) ⟨rfl,rfl,⟨by simp only;omega,by simp only;omega⟩,rfl⟩ (by simp;omega)
 ·simpa using this
 rintro ⟨m',up',f,g,i,d,o⟩ ⟨q1,q3,⟨h0,hi⟩,q2⟩
 simp only at q1 q3 h0 hi q2 ⊢
 subst q1 q2 q3
 obtain ⟨j,rfl⟩:∃j:Nat,i=j:=⟨i.toNat,by omega⟩
 simp only [bV]
 rcases j with _ | j
 ·refine .inr ?_
  have w:IntKind.wrap .i64 (((0:Nat):Int) - 1)=-1:=wrap_i64 _ (by omega) (by omega)
  simp only [cq,w,show decide ((-1:Int)<0)=true from rfl,aj,bki]
 ·have w:IntKind.wrap .i64 (((j+1:Nat):Int) - 1)=(j:Int):=by rw [wrap_i64 _ (by omega) (by omega)];omega
  have e0:decide ((j:Int)<0)=false:=by simp
  obtain ⟨c,hc⟩:∃c,m'[j]?=some c:=⟨m'[j]'(by omega),bp (by omega)⟩
  obtain ⟨y,hy⟩:∃c,l[j]?=some c:=⟨l[j]'(by omega),bp (by omega)⟩
  have hg:(over z 0 l)[j]?=some y:=by rw [vo (by omega)];exact hy
  simp only [cq,w,e0,af,eF hc,ob,y7,dp (show j<18 by omega),hg,bki,hc,hy,aq,ne_eq]
  by_cases h88:c=88
  ·by_cases hy9:y=lst up
   ·have e:(y != lst up)=false:=by simpa using hy9
    refine .inl ⟨(m',up',f,lst up,(j:Int),over z 0 l,o),by simp only [ar h88,aj,e,af],⟨rfl,rfl,⟨by simp only;omega,by simp only;omega⟩,rfl⟩,by simp only [bV];omega,?_⟩
    simp only [bV,ab (show ¬(c=88/\¬y=lst up) from λh=>h.2 hy9)]
   ·have e:(y != lst up)=true:=by simpa using hy9
    refine .inr ?_
    simp only [ar h88,aj,e,ae (show c=88/\¬y=lst up from ⟨h88,hy9⟩)]
  ·refine .inl ⟨(m',up',f,lst up,(j:Int),over z 0 l,o),by simp only [au h88,af],⟨rfl,rfl,⟨by simp only;omega,by simp only;omega⟩,rfl⟩,by simp only [bV];omega,?_⟩
   simp only [bV,ab (show ¬(c=88/\¬y=lst up) from λh=>h88 h.1)]
theorem BC (h18:m.length<=18) (up:Bool) (d:List Int) (hd:d.length=18) (i:Nat) (hi:i<=m.length):
  am (bq 20000000) 20000000 (m,fst up,(i:Int),d)=some (m,over d i (fil up (m.drop i))):=by
 have:=fq (step:=bq 20000000) (λx=>x.1=m/\x.2.1=fst up/\(0<=x.2.2.1/\x.2.2.1<=m.length)/\x.2.2.2.length=18) (λx=>m.length - x.2.2.1.toNat)
  (λx=>(m,over x.2.2.2 x.2.2.1.toNat (fil up (m.drop x.2.2.1.toNat)))) ?_ 20000000 (m,fst up,(i:Int),d) ⟨rfl,rfl,⟨by simp only;omega,by simp only;omega⟩,hd⟩ (by simp;omega)
 ·simpa using this
 rintro ⟨m',f,i,d⟩ ⟨q1,q3,⟨h0,hi⟩,hd⟩
 simp only at q1 q3 h0 hi hd ⊢
 subst q1 q3
 obtain ⟨j,rfl⟩:∃j:Nat,i=j:=⟨i.toNat,by omega⟩
 simp only [bV]
 rcases aG j m'.length with hlt | hge
 ·obtain ⟨c,hc⟩:∃c,m'[j]?=some c:=⟨m'[j],bp hlt⟩
  have hj:j<18:=by omega
  have hb:(decide ((j:Int)<((List.length m':Nat):Int)))=true:=by simp;omega
  have hw:IntKind.wrap .i64 ((j:Int)+1)=((j+1:Nat):Int):=by rw [wrap_i64 _ (by omega) (by omega)];omega
  have e2:Nat.blt j 18=true:=dG hj
  have hcons:∀c:UInt8,fil up (c::m'.drop (j+1))=(cond (decide (c=88)) (fst up) ((c.toNat:Nat):Int))::fil up (m'.drop (j+1)):=λ_=>rfl
  rw [ci hc,hcons]
  simp only [bq,hb,aj,eF hc,ob,y7,dp hj,e2,hw]
  by_cases h88:c=88
  ·refine .inl ⟨(m',fst up,((j+1:Nat):Int),(d.set j ((c.toNat:Nat):Int)).set j (fst up)),by simp only [ar h88,aj],⟨rfl,rfl,⟨by simp only;omega,by simp only;omega⟩,by simpa using hd⟩,by simp only [bV];omega,?_⟩
   simp only [bV,ar h88,aj]
   rw [List.set_set,Ab _ _ _ _ (by omega)]
  ·refine .inl ⟨(m',fst up,((j+1:Nat):Int),d.set j ((c.toNat:Nat):Int)),by simp only [au h88,af],⟨rfl,rfl,⟨by simp only;omega,by simp only;omega⟩,by simpa using hd⟩,by simp only [bV];omega,?_⟩
   simp only [bV,au h88,af]
   rw [Ab _ _ _ _ (by omega)]
 ·have hb:(decide ((j:Int)<((List.length m':Nat):Int)))=false:=by simp;omega
  refine .inr ?_
  simp only [bq,hb,af]
  rw [jo hge]
  simp [fil,F6]
theorem CH (z l F:List Int) (i:Nat) (h:i+F.length=l.length):over (over z 0 l) i F=over z 0 (l.take i++F):=by
 unfold over
 simp only [nM,dQ,cY,aM,cO,sd (show i<=l.length by omega),h]
 rw [uu (by omega),List.drop_append_of_le_length (by omega),List.drop_of_length_le (aV l.length)]
 simp
end
theorem K7 {m:aa} (hm:chk m=0) (up:Bool) (k:Int) (h0:0<=k) (h1:k<10 ^ m.length):
  dc 20000000 m k up=some (match nx up m (dg m.length k) with | some r=>(vl r,0) | none=>(0,16)):=by
 obtain ⟨h18,_,hok⟩:=ny hm
 have hp:=Ba m.length h18
 have hlen:=vM m.length k
 have hrng:=tc m.length k
 have hv:=Nk m.length k h0 h1
 have hn:=Rj up hok hlen.symm hrng
 have hsplit:=NC m k h18 h0 (by omega)
 generalize dg m.length k=l at hlen hrng hv hn hsplit ⊢
 have hout:(over [0,0,0,0,0,0,0,0,0,0,0,0,0,0,0,0,0,0] 0 l).length=18:=by rw [NY _ _ _ (by simp;omega)];rfl
 have fin:∀r:List Int,nx up m l=some r->gh 20000000 m (over [0,0,0,0,0,0,0,0,0,0,0,0,0,0,0,0,0,0] 0 r)=some (vl r):=by
  intro r hr
  rw [hr] at hn
  obtain ⟨i1,i2,_⟩:=hn
  rw [N7 _ h18 i1 i2,Ag i2]
 have hap:=S9 m l
 have hagr:=K5 m l
 have happ:=CV up (m:=m.take (ap m l)) (m':=m.drop (ap m l)) (d:=l.take (ap m l)) (d':=l.drop (ap m l)) (by simp;omega) hagr
 rw [zu,zu] at happ
 have hz0:kU 20000000 m k=some (over [0,0,0,0,0,0,0,0,0,0,0,0,0,0,0,0,0,0] 0 l):=hsplit
 generalize hzz:([0,0,0,0,0,0,0,0,0,0,0,0,0,0,0,0,0,0]:List Int)=z at hout fin hz0
 rcases aG (ap m l) m.length with hlt | hge
 ·obtain ⟨c,hc⟩:∃c,m[ap m l]?=some c:=⟨m[ap m l],bp hlt⟩
  obtain ⟨y,hy⟩:∃c,l[ap m l]?=some c:=⟨l[ap m l]'(by omega),bp (by omega)⟩
  obtain ⟨h88,hcy⟩:=Jb hc hy
  have hg:(over z 0 l)[ap m l]?=some y:=by rw [vo (by omega)];exact hy
  have eL:(((ap m l:Nat):Int)==((List.length m:Nat):Int))=false:=by simp;omega
  have hj:ap m l<18:=by omega
  have hfc:fil up (m.drop (ap m l))=((c.toNat:Nat):Int)::fil up (m.drop (ap m l+1)):=by
   rw [ci hc];simp [fil,h88]
  have hbk:=F3 up m l hlen.symm (ap m l) hap
  have hnx:nx up (m.drop (ap m l)) (l.drop (ap m l))=if decide (((c.toNat:Nat):Int)>y)=up then some (fil up (m.drop (ap m l))) else none:=by
   rw [hfc,ci hc,ci hy]
   simp only [nx,ab h88,ab hcy]
  rw [hnx] at happ
  by_cases hup:decide (((c.toNat:Nat):Int)>y)=up
  ·rw [ae hup] at happ
   simp only at happ
   have f2:=fin _ happ
   rw [happ]
   simp only []
   rw [<-CH z l _ _ (by rw [Av,co];omega)] at f2
   have l2:=BC h18 up _ hout (ap m l) hap
   cases up
   ·have l0:=lY (z:=z) hlen.symm h18 k 57 48 false
    have l2':am (bq 20000000) 20000000 (m,57,((ap m l:Nat):Int),over z 0 l)=_:=l2
    simp only [dc,jq,aj,hz0,ob,l0,eL,af,eF hc,dp hj,hg,hup,qw,dn,l2',f2]
   ·have l0:=lY (z:=z) hlen.symm h18 k 48 57 true
    have l2':am (bq 20000000) 20000000 (m,48,((ap m l:Nat):Int),over z 0 l)=_:=l2
    simp only [dc,dn,aj,hz0,ob,l0,eL,af,eF hc,dp hj,hg,hup,qw,l2',f2]
  ·rw [ab hup] at happ
   simp only [hbk] at happ
   have hne:(!(decide (((c.toNat:Nat):Int)>y)==up))=true:=by
    cases up<;>cases hh:decide (((c.toNat:Nat):Int)>y)<;>simp_all
   have l1:=Kt (z:=z) hlen.symm h18 (fst up) up (over z 0 l) (ap m l) hap
   cases hb:bki up m l (ap m l) with
   | none=>
    rw [hb] at happ l1
    simp only [iJ] at happ
    rw [happ]
    simp only [] at l1 ⊢
    cases up
    ·have l0:=lY (z:=z) hlen.symm h18 k 57 48 false
     have l1':am (cq 20000000) 20000000 (m,false,57,48,((ap m l:Nat):Int),over z 0 l,over z 0 l)=_:=l1
     simp only [dc,jq,aj,hz0,ob,l0,eL,af,eF hc,dp hj,hg,hne,l1']
    ·have l0:=lY (z:=z) hlen.symm h18 k 48 57 true
     have l1':am (cq 20000000) 20000000 (m,true,48,57,((ap m l:Nat):Int),over z 0 l,over z 0 l)=_:=l1
     simp only [dc,dn,aj,hz0,ob,l0,eL,af,eF hc,dp hj,hg,hne,l1']
   | some a=>
    have ha:=OT up m l hb
    obtain ⟨w,hw⟩:∃c,l[a]?=some c:=⟨l[a]'(by omega),bp (by omega)⟩
    have hga:(over z 0 l)[a]?=some w:=by rw [vo (by omega)];exact hw
    have hgd:l.getD a 0=w:=by rw [CQ,hw];rfl
    have hwr:=hrng w (gQ hw)
    have haj:a<18:=by omega
    have e2:Nat.blt a 18=true:=dG haj
    have w1:IntKind.wrap .i64 ((a:Int)+1)=((a+1:Nat):Int):=by rw [wrap_i64 _ (by omega) (by omega)];omega
    rw [hb] at happ l1
    simp only [eK,hgd] at happ
    have f2:=fin _ happ
    rw [happ]
    simp only [] at l1 ⊢
    rw [<-CH z l _ _ (by rw [aD,Av,co];omega),<-Ab _ _ _ _ (by omega)] at f2
    have l2:=BC h18 up ((over z 0 l).set a (stp up w)) (by simpa using hout) (a+1) (by omega)
    cases up
    ·have l0:=lY (z:=z) hlen.symm h18 k 57 48 false
     have l1':am (cq 20000000) 20000000 (m,false,57,48,((ap m l:Nat):Int),over z 0 l,over z 0 l)=some (.inr (m,false,57,((a:Nat):Int),over z 0 l)):=l1
     have l2':am (bq 20000000) 20000000 (m,57,((a+1:Nat):Int),(over z 0 l).set a (w - 1))=_:=l2
     have w2:IntKind.wrap .u8 (w - 1)=w - 1:=jR _ (by omega) (by omega)
     simp only [dc,jq,aj,hz0,ob,l0,eL,af,eF hc,dp hj,hg,hne,l1',dp haj,hga,e2,w1,w2,l2',f2]
    ·have l0:=lY (z:=z) hlen.symm h18 k 48 57 true
     have l1':am (cq 20000000) 20000000 (m,true,48,57,((ap m l:Nat):Int),over z 0 l,over z 0 l)=some (.inr (m,true,48,((a:Nat):Int),over z 0 l)):=l1
     have l2':am (bq 20000000) 20000000 (m,48,((a+1:Nat):Int),(over z 0 l).set a (w+1))=_:=l2
     have w2:IntKind.wrap .u8 (w+1)=w+1:=jR _ (by omega) (by omega)
     simp only [dc,dn,aj,hz0,ob,l0,eL,af,eF hc,dp hj,hg,hne,l1',dp haj,hga,e2,w1,w2,l2',f2]
 ·have e:ap m l=m.length:=by omega
  rw [e,IC,<-hlen,IC,oU] at happ
  simp only [nx,pM] at happ
  have eL:(((ap m l:Nat):Int)==((List.length m:Nat):Int))=true:=by rw [e];simp
  rw [happ]
  simp only [hv]
  cases up
  ·have l0:=lY (z:=z) hlen.symm h18 k 57 48 false
   simp only [dc,jq,aj,hz0,ob,l0,eL]
  ·have l0:=lY (z:=z) hlen.symm h18 k 48 57 true
   simp only [dc,dn,af,hz0,ob,l0,eL,aj]
def near (up:Bool) (m:aa) (k:Int):Option Int->Prop
 | some R=>hasM m R=true/\eX up k R/\∀e,hasM m e=true->eX up k e->eX up R e
 | none=>∀e,hasM m e=true->¬eX up k e
def res (o:Option Int):Int×Int:=match o with | some r=>(r,0) | none=>(0,16)
theorem nQ {m:aa} {e:Int} (h:hasM m e=true):(dg m.length e).length=m.length/\digl (dg m.length e)/\jf m (dg m.length e)=true/\vl (dg m.length e)=e/\0<=e/\e<10 ^ m.length:=by
 unfold hasM at h
 simp only [az,cb] at h
 exact ⟨vM _ _,tc _ _,h.2.2,Nk _ _ h.1 h.2.1,h.1,h.2.1⟩
theorem Q2 {m:aa} {r:List Int} (h1:r.length=m.length) (h2:digl r) (h3:jf m r=true):hasM m (vl r)=true:=by
 have hr:=vk h2
 have hd:=Vp h2
 rw [h1] at hr hd
 unfold hasM
 rw [hd,h3,ar hr.1,ar hr.2];rfl
theorem wQ {m:aa} (hm:chk m=0) (up:Bool) (k:Int) (h0:0<=k) (h1:k<10 ^ m.length):∃o,dc 20000000 m k up=some (res o)/\near up m k o:=by
 obtain ⟨h18,_,hok⟩:=ny hm
 have hn:=Rj up hok (vM m.length k).symm (tc m.length k)
 have hv:=Nk m.length k h0 h1
 refine ⟨(nx up m (dg m.length k)).map vl,?_,?_⟩
 ·rw [K7 hm up k h0 h1]
  cases nx up m (dg m.length k)<;>rfl
 ·cases hx:nx up m (dg m.length k) with
  | none=>
   rw [hx] at hn
   intro e he ha
   obtain ⟨e1,e2,e3,e4,_⟩:=nQ he
   exact hn _ e1 e2 e3 (by rw [hv,e4];exact ha)
  | some r=>
   rw [hx] at hn
   obtain ⟨i1,i2,i3,i4,i5⟩:=hn
   refine ⟨Q2 i1 i2 i3,by rw [hv] at i4;exact i4,λe he ha=>?_⟩
   obtain ⟨e1,e2,e3,e4,_⟩:=nQ he
   have:=i5 _ e1 e2 e3 (by rw [hv,e4];exact ha)
   rwa [e4] at this
theorem Fh {m:aa} {e:Int} (h:hasM m e=true):0<=idx m.reverse e/\idx m.reverse e<10 ^ cnt m/\nth m.reverse (idx m.reverse e)=e:=by
 rw [Dm] at h
 simp only [az,cb] at h
 obtain ⟨k0,k1,k2⟩:=h
 have:=xx m.reverse e k0
 rw [sI] at this
 exact ⟨this.1,this.2,LA k0 (by rw [ut];exact k1) k2⟩
section
variable {m:List UInt8} (hm:chk m=0)
include hm
theorem Jy {i j:Int} (h0:0<=i) (h1:i<=j) (h2:j<10 ^ cnt m):nth m.reverse i<=nth m.reverse j:=by
 obtain ⟨h18,_,hok⟩:=ny hm
 rcases Int.lt_or_eq_of_le h1 with h | rfl
 ·exact Int.le_of_lt (zC (yO hok) i j h0 h (by rw [sI];exact h2))
 ·exact yT _
theorem AX (k:Int):lV 20000000 m k=some (decide (0<=k/\k<10 ^ m.length)):=by
 obtain ⟨h18,_,hok⟩:=ny hm
 simp only [lV,Np m.length h18,ob]
 by_cases h0:0<=k
 ·have d0:decide (k>=0)=true:=by simpa using h0
  simp only [d0,aj,h0,js,nY]
 ·have d0:decide (k>=0)=false:=by simpa using h0
  simp only [d0,af,h0,xJ,m7]
theorem IY (k:Int):∃o,rl 20000000 m k=some (res o)/\near true m k o:=by
 obtain ⟨h18,_,hok⟩:=ny hm
 have e0:((0:Int) != 0)=false:=by simp
 simp only [rl,ll 20000000 m (by omega),hm,mf,e0,af,AX hm]
 by_cases h0:k<0
 ·refine ⟨some (nth m.reverse 0),by simp only [ar h0,aj,Ni hm,mf,res],EP hm (by omega),?_,λe he ha=>?_⟩
  ·have:=(qB (yO hok) 0 (by omega)).1
   simp only [eX];omega
  ·obtain ⟨i0,i1,i2⟩:=Fh he
   have:=Jy hm (yT 0) i0 i1
   simp only [eX];omega
 ·by_cases h1:k<10 ^ m.length
  ·obtain ⟨o,h2,h3⟩:=wQ hm true k (by omega) h1
   exact ⟨o,by simp only [au h0,af,ar (show 0<=k/\k<10 ^ m.length from ⟨by omega,h1⟩),dn,h2,mf],h3⟩
  ·refine ⟨none,by simp only [au h0,af,au (show ¬(0<=k/\k<10 ^ m.length) from λh=>h1 h.2),jq,aj,res],λe he ha=>?_⟩
   obtain ⟨_,_,_,_,_,i⟩:=nQ he
   simp only [eX] at ha;omega
theorem J3 (k:Int):∃o,qW 20000000 m k=some (res o)/\near false m k o:=by
 obtain ⟨h18,_,hok⟩:=ny hm
 have e0:((0:Int) != 0)=false:=by simp
 simp only [qW,ll 20000000 m (by omega),hm,mf,e0,af,AX hm]
 by_cases h0:k<0
 ·refine ⟨none,by simp only [ar h0,aj,res],λe he ha=>?_⟩
  obtain ⟨_,_,_,_,i,_⟩:=nQ he
  simp only [eX] at ha;omega
 ·by_cases h1:k<10 ^ m.length
  ·obtain ⟨o,h2,h3⟩:=wQ hm false k (by omega) h1
   exact ⟨o,by simp only [au h0,af,ar (show 0<=k/\k<10 ^ m.length from ⟨by omega,h1⟩),dn,h2,mf],h3⟩
  ·have hp0:=sY (cnt m)
   refine ⟨some (nth m.reverse (10 ^ cnt m - 1)),by simp only [au h0,af,au (show ¬(0<=k/\k<10 ^ m.length) from λh=>h1 h.2),jq,aj,Ed hm,mf,res],EP hm (by omega),?_,λe he ha=>?_⟩
   ·have:=(qB (yO hok) (10 ^ cnt m - 1) (by omega)).2
    rw [ut] at this
    simp only [eX];omega
   ·obtain ⟨i0,i1,i2⟩:=Fh he
    have:=Jy hm i0 (show idx m.reverse e<=10 ^ cnt m - 1 by omega) (by omega)
    simp only [eX];omega
end
end Go.Sh.Mk
namespace Go.Sh
open Go.Abs
def fitN (s:aa) (g:Nat):List Nat:=(List.range' 1 g).filter (agr s)
def sS (l:List Nat):List Int:=l.map λk:Nat=>(k:Int)
theorem Cc (l:List Nat):(sS l).length=l.length:=by simp [sS]
theorem A9 (c:UInt8) {j:Nat} (hj:j<10):(IntKind.wrap .i64 (IntKind.wrap .u8 (((c.toNat:Nat):Int) - 48))==((j:Nat):Int))=(c==UInt8.ofNat (48+j)):=by
 have hc:=c.toNat_lt
 have hu:=AS (((c.toNat:Nat):Int) - 48)
 rw [wrap_i64 _ (by omega) (by omega),Hj,uO,bB,bB]
 have hn:(UInt8.ofNat (48+j)).toNat=48+j:=by simp;omega
 constructor
 ·intro h
  apply gH.1
  omega
 ·rintro rfl
  omega
theorem Jl (n:Nat) (a b:UInt8) {k:Nat} (h2:k<=31):kn n [a,b] (k:Int)=some (agr [a,b] k):=by
 have e1:IntKind.wrap .i64 (Int.tdiv (k:Int) 10)=((k / 10:Nat):Int):=by
  rw [show Int.tdiv (k:Int) 10=((k / 10:Nat):Int) from rfl,wrap_i64 _ (by omega) (by omega)]
 have e2:Int.tmod (k:Int) 10=((k%10:Nat):Int):=rfl
 have s0:sx [a,b] 0=some a:=rfl
 have s1:sx [a,b] 1=some b:=rfl
 have x88:(88:Int)=((88:Nat):Int):=rfl
 unfold kn
 simp only [s0,s1,ob,e1,e2]
 rw [A9 a (show k / 10<10 by omega),A9 b (show k%10<10 by omega),x88,uC (by omega),uC (by omega)]
 show _=some ((a==UInt8.ofNat 88||a==UInt8.ofNat (48+k / 10))&&(b==UInt8.ofNat 88||b==UInt8.ofNat (48+k%10)))
 generalize (a==UInt8.ofNat 88)=p1
 generalize (b==UInt8.ofNat 88)=p2
 generalize (a==UInt8.ofNat (48+k / 10))=p3
 generalize (b==UInt8.ofNat (48+k%10))=p4
 cases p1<;>cases p2<;>cases p3<;>cases p4<;>rfl
theorem room {k:Nat} (h:k<=60000000):Nat.ble (k+1) gD=true:=dG (by unfold gD;omega)
theorem EF {X Y:Type} {step:X->Option (X⊕Y)} {f:Nat->List Int->X} {y:List Int->Y} {p:Nat->Bool} {g:Nat} (hg:g<=1000)
  (h:∀i out,i<g->out.length<=1000->step (f i out)=some (.inl (f (i+1) (if p (i+1) then out++[((i+1:Nat):Int)] else out))))
  (he:∀out,step (f g out)=some (.inr (y out))) {N:Nat} (hN:g<N):am step N (f 0 [])=some (y (sS ((List.range' 1 g).filter p))):=by
 have go:∀(r i:Nat) (out:List Int),i+r=g->out.length<=i->∀N,r<N->am step N (f i out)=some (y (out++sS ((List.range' (i+1) r).filter p))):=by
  intro r
  induction r with
  | zero=>
   intro i out hi ho N hN
   obtain ⟨N,rfl⟩:∃q,N=q+1:=⟨N - 1,by omega⟩
   obtain rfl:i=g:=by omega
   rw [am,he]
   simp [sS]
  | succ r ih=>
   intro i out hi ho N hN
   obtain ⟨N,rfl⟩:∃q,N=q+1:=⟨N - 1,by omega⟩
   rw [am,h i out (by omega) (by omega)]
   show am step N _=_
   by_cases hp:p (i+1)=true
   ·rw [ae hp,ih (i+1) _ (by omega) (by simp;omega) N (by omega),vN,Ov hp]
    simp [sS]
   ·rw [ab hp,ih (i+1) _ (by omega) (by omega) N (by omega),vN,OC hp]
 have:=go g 0 [] (by omega) (by simp) N hN
 simpa using this
theorem Jm (n:Nat) (hn:100<n) (a b:UInt8) {g:Nat} (hg:g<=31):eV n [a,b] (g:Int)=some (sS (fitN [a,b] g)):=by
 unfold eV
 have:=EF (step:=fM n) (f:=λi out=>([a,b],(g:Int),(i:Int),out)) (y:=λl=>l) (p:=agr [a,b]) (g:=g) (by omega)
  (λi out hi ho=>by
   have w1:IntKind.wrap .i64 ((i:Int)+1)=((i+1:Nat):Int):=by rw [wrap_i64 _ (by omega) (by omega)];omega
   unfold fM
   simp only [w1]
   rw [ar (show (i:Int)<(g:Int) by omega),Jl n a b (by omega),room (by omega)]
   by_cases hp:agr [a,b] (i+1)=true
   ·rw [ae hp];simp only [ob,hp,aj]
   ·rw [ab hp]
    rw [FQ] at hp
    simp only [ob,hp,aj,af])
  (λout=>by
   unfold fM
   simp only [au (show ¬(g:Int)<(g:Int) by omega),af])
  (N:=n) (by omega)
 have h0:am (fM n) n ([a,b],(g:Int),0,([]:List Int))=_:=this
 rw [h0]
 rfl
def monI (m:aa):List Int:=if m=[] then [0] else if 0<sea m then [sea m] else sS (fitN m 12)
def dayI (d:aa):List Int:=if d=[] then [0] else sS (fitN d 31)
theorem fK {l:aa} (h:l≠[]):(l==([]:aa))=false:=aN.2 h
theorem len2 {s:aa} (h:s.length=2):∃a b,s=[a,b]:=by
 match s,h with
 | [a,b],_=>exact ⟨a,b,rfl⟩
theorem Vn (n:Nat) (hn:100<n) (g l:Bool) (dg:aa) (x q:Int) (m d:aa) (k0 k1 k2:Int) (hm:m=[]\/m.length=2) (hd:d=[]\/d.length=2):
  oM n g l dg x q m d k0 k1 k2=some (g,l,dg,x,q,m,d,k0,k1,k2,monI m,dayI d):=by
 have hml:m.length<=18:=by rcases hm with h | h;(rw [h];simp);omega
 have hD:d≠[]->eV n d 31=some (dayI d):=λh=>by
  obtain ⟨a,b,rfl⟩:=len2 (hd.resolve_left h)
  rw [show (31:Int)=((31:Nat):Int) from rfl,Jm n hn a b (by omega)]
  unfold dayI
  rw [ab h]
 have hD0:d=[]->dayI d=[0]:=λh=>by unfold dayI;rw [ae h]
 have hM:m≠[]->¬0<sea m->eV n m 12=some (monI m):=λh hs=>by
  obtain ⟨a,b,rfl⟩:=len2 (hm.resolve_left h)
  rw [show (12:Int)=((12:Nat):Int) from rfl,Jm n hn a b (by omega)]
  unfold monI
  rw [ab h,ab hs]
 unfold oM
 rw [s9 n g l dg x q m d k0 k1 k2 hml]
 simp only [ob]
 by_cases hs:0<sea m
 ·have h0:m≠[]:=by rintro rfl;exact absurd hs (by decide)
  have hm':monI m=[sea m]:=by unfold monI;rw [ab h0,ae hs]
  rw [ar hs]
  by_cases h:d=[]
  ·rw [h,<-h,hD0 h,hm',h];rfl
  ·rw [fK h,hD h,hm'];rfl
 ·rw [au hs]
  by_cases h0:m=[]
  ·have hm':monI m=[0]:=by unfold monI;rw [ae h0]
   by_cases h:d=[]
   ·rw [hD0 h,hm',h,h0];rfl
   ·rw [fK h,hD h,hm',h0];rfl
  ·rw [fK h0,hM h0 hs]
   by_cases h:d=[]
   ·rw [hD0 h,h];rfl
   ·rw [fK h,hD h];rfl
theorem GO (n:Nat) (hn:100<n) (g l:Bool) (dg:aa) (x q:Int) (m d:aa) (k0 k1 k2:Int):ji n g l dg x q m d k0 k1 k2=some (monI m):=by
 unfold ji
 by_cases h0:m=[]
 ·unfold monI
  rw [ae h0,h0];rfl
 ·rw [fK h0,oa n hn]
  simp only [ob,af]
  unfold monI
  rw [ab h0]
  by_cases hs:0<sea m
  ·rw [ae hs,ar (show sea m>0 from hs)];rfl
  ·rw [ab hs,au (show ¬sea m>0 from hs)]
   have:=EF (step:=dC n) (f:=λi out=>(((i+1:Nat):Int),g,l,dg,x,q,m,d,k0,k1,k2,out)) (y:=λl=>l) (p:=agr m) (g:=12) (by omega)
    (λi out hi ho=>by
     have w1:IntKind.wrap .i64 (((i+1:Nat):Int)+1)=((i+1+1:Nat):Int):=by rw [wrap_i64 _ (by omega) (by omega)];omega
     unfold dC
     simp only [d4,d8,w1]
     rw [ar (show ((i+1:Nat):Int)<=12 by omega),uh n m (i+1) (by omega),room (by omega)]
     by_cases hp:agr m (i+1)=true
     ·rw [ae hp,ae hp];rfl
     ·rw [ab hp,ab hp];rfl)
    (λout=>by
     unfold dC
     simp only [d4,d8,au (show ¬((12+1:Nat):Int)<=12 by omega),af])
    (N:=n) (by omega)
   have h1:am (dC n) n (1,g,l,dg,x,q,m,d,k0,k1,k2,([]:List Int))=_:=this
   rw [h1]
   rfl
def rS (y:Int):Bool:=decide (y%4=0)&&(decide (y%100≠0)||decide (y%400=0))
def lenI (y m:Int):Int:=if m=4\/m=6\/m=9\/m=11 then 30 else if m=2 then (if rS y then 29 else 28) else 31
theorem Le (y:Int) {b:Int} (hb:0<b):(Int.tmod y b==0)=decide (y%b=0):=by
 rw [uO,bB,decide_eq_true_iff]
 have h:=JM (a:=y) (b:=b)
 have h1:=KV y (show b≠0 by omega)
 have h2:=JJ y hb
 by_cases hc:0<=y\/b∣y
 ·rw [ae hc] at h;omega
 ·rw [ab hc] at h
  have hd:¬b∣y:=λe=>hc (.inr e)
  have:y%b≠0:=λe=>hd (It e)
  omega
theorem zA (n:Nat) (y m:Int):dV n y m=some (lenI y m):=by
 have e100:(Int.tmod y 100 != 0)=decide (y%100≠0):=by
  rw [bne,Le y (by omega)]
  by_cases h:y%100=0<;>simp [h]
 unfold dV
 rw [Le y (by omega),Le y (by omega),e100]
 have body:(cond (m==2) (cond (decide (y%4=0)) (cond (decide (y%100≠0)) (some (29:Int)) (cond (decide (y%400=0)) (some 29) (some 28))) (some 28)) (some 31))=some (if m=2 then (if rS y=true then 29 else 28) else 31):=by
  rw [kC]
  by_cases h2:m=2
  ·rw [ae h2,ae h2]
   unfold rS
   cases decide (y%4=0)<;>cases decide (y%100≠0)<;>cases decide (y%400=0)<;>rfl
  ·rw [ab h2,ab h2]
 rw [body]
 unfold lenI
 by_cases h4:m=4
 ·subst h4;rfl
 ·by_cases h6:m=6
  ·subst h6;rfl
  ·by_cases h9:m=9
   ·subst h9;rfl
   ·by_cases h11:m=11
    ·subst h11;rfl
    ·rw [aN.2 h4,aN.2 h6,aN.2 h9,aN.2 h11,ab (show ¬(m=4\/m=6\/m=9\/m=11) by omega)]
     rfl
theorem wJ (n:Nat) {y:Int} (h:-20000000000000000<=y/\y<=20000000000000000):fe n y=some (1+(y - 1) / 4 - (y - 1) / 100+(y - 1) / 400):=by
 unfold fe
 rw [wrap_i64 (y - 1) (by omega) (by omega),wZ n (by omega) (by omega) (by omega) (by omega),wZ n (by omega) (by omega) (by omega) (by omega),wZ n (by omega) (by omega) (by omega) (by omega)]
 show some _=some _
 have h4:-5000000000000001<=(y - 1) / 4/\(y - 1) / 4<=5000000000000001:=by omega
 have h100:-5000000000000001<=(y - 1) / 100/\(y - 1) / 100<=5000000000000001:=by omega
 have h400:-5000000000000001<=(y - 1) / 400/\(y - 1) / 400<=5000000000000001:=by omega
 generalize (y - 1) / 4=a at *
 generalize (y - 1) / 100=b at *
 generalize (y - 1) / 400=c at *
 simp only []
 rw [wrap_i64 (1*a) (by omega) (by omega),wrap_i64 (-1*b) (by omega) (by omega),wrap_i64 (1*c) (by omega) (by omega),wrap_i64 (1+1*a) (by omega) (by omega),wrap_i64 (1+1*a+-1*b) (by omega) (by omega),wrap_i64 _ (by omega) (by omega)]
 congr 1
 omega
theorem Nq (y:Int):(1+y / 4 - y / 100+y / 400>1+(y - 1) / 4 - (y - 1) / 100+(y - 1) / 400)↔rS y=true:=by
 unfold rS
 simp only [az,gX,cb]
 omega
theorem O8 (n:Nat) {y:Int} (h:dH y):jZ n y=some (rS y,0):=by
 unfold jZ
 have h':=h
 unfold dH at h'
 rw [ge,ae h,wrap_i64 (y+1) (by omega) (by omega),wJ n (by omega),wJ n (by omega),show y+1 - 1=y by omega]
 have hl:=Nq y
 show some (decide (1+y / 4 - y / 100+y / 400>1+(y - 1) / 4 - (y - 1) / 100+(y - 1) / 400),(0:Int))=_
 by_cases hb:rS y=true
 ·rw [hb,ar (hl.2 hb)]
 ·rw [FQ] at hb
  rw [hb,au (λe=>by rw [hl.1 e] at hb;cases hb)]
theorem wH (n:Nat) {y:Int} (h:dH y) {m:Nat} (h1:1<=m) (h2:m<=12):dX n y (m:Int)=some (lenI y (m:Int)):=by
 unfold dX
 rw [O8 n h]
 show cond (rS y&&((m:Int)==2)) _ _=_
 have hix:IntKind.wrap .i64 ((m:Int) - 1)=((m - 1:Nat):Int):=by rw [wrap_i64 _ (by omega) (by omega)];omega
 rw [hix,dp (show m - 1<12 by omega)]
 have hm:m=1\/m=2\/m=3\/m=4\/m=5\/m=6\/m=7\/m=8\/m=9\/m=10\/m=11\/m=12:=by omega
 rcases hm with rfl | rfl | rfl | rfl | rfl | rfl | rfl | rfl | rfl | rfl | rfl | rfl<;>unfold lenI<;>cases rS y<;>rfl
theorem HQ (n:Nat) {y:Int} (h:dH y) {m:Nat} (h1:1<=m) (h2:m<=12):n7 n y (m:Int)=some (lenI y (m:Int),0):=by
 unfold n7
 rw [EU n h h1 h2,wH n h h1 h2]
 rfl
theorem la (y m:Int):28<=lenI y m/\lenI y m<=31:=by
 unfold lenI
 split
 ·omega
 ·split
  ·split<;>omega
  ·omega
def xp (d:aa) (y m:Int):Int:=if d=[] then 0 else lenI y m
def uK (d:aa) (y mo:Int):List (Int×Int×Int):=((dayI d).filter λk=>decide (k<=xp d y mo)).map λk=>(y,mo,k)
def xB (m d:aa) (y:Int):List (Int×Int×Int):=(monI m).flatMap (uK d y)
theorem Jx {X Y A:Type} {step:X->Option (X⊕Y)} {f:Nat->List A->X} {y:List A->Y} {p:Nat->Bool} {e:Nat->A} {g:Nat} (out0:List A)
  (h:∀i out,i<g->out.length<=out0.length+i->step (f i out)=some (.inl (f (i+1) (if p (i+1) then out++[e (i+1)] else out))))
  (he:∀out,step (f g out)=some (.inr (y out))) {N:Nat} (hN:g<N):am step N (f 0 out0)=some (y (out0++((List.range' 1 g).filter p).map e)):=by
 have go:∀(r i:Nat) (out:List A),i+r=g->out.length<=out0.length+i->∀N,r<N->am step N (f i out)=some (y (out++((List.range' (i+1) r).filter p).map e)):=by
  intro r
  induction r with
  | zero=>
   intro i out hi ho N hN
   obtain ⟨N,rfl⟩:∃q,N=q+1:=⟨N - 1,by omega⟩
   obtain rfl:i=g:=by omega
   rw [am,he]
   simp
  | succ r ih=>
   intro i out hi ho N hN
   obtain ⟨N,rfl⟩:∃q,N=q+1:=⟨N - 1,by omega⟩
   rw [am,h i out (by omega) (by omega)]
   show am step N _=_
   by_cases hp:p (i+1)=true
   ·rw [ae hp,ih (i+1) _ (by omega) (by simp;omega) N (by omega),vN,Ov hp]
    simp
   ·rw [ab hp,ih (i+1) _ (by omega) (by omega) N (by omega),vN,OC hp]
 exact go g 0 out0 (by omega) (by omega) N hN
theorem Ih {X Y A B:Type} {step:X->Option (X⊕Y)} {f:Nat->List A->X} {y:List A->Y} {F:B->List A} {L:List B} {c:Nat} (hc:∀b∈L,(F b).length<=c)
  (h:∀i b out,L[i]?=some b->out.length<=c*i->step (f i out)=some (.inl (f (i+1) (out++F b))))
  (he:∀out,step (f L.length out)=some (.inr (y out))) {N:Nat} (hN:L.length<N):am step N (f 0 [])=some (y (L.flatMap F)):=by
 have go:∀(r i:Nat) (out:List A),i+r=L.length->out.length<=c*i->∀N,r<N->am step N (f i out)=some (y (out++(L.drop i).flatMap F)):=by
  intro r
  induction r with
  | zero=>
   intro i out hi ho N hN
   obtain ⟨N,rfl⟩:∃q,N=q+1:=⟨N - 1,by omega⟩
   obtain rfl:i=L.length:=by omega
   rw [am,he]
   simp
  | succ r ih=>
   intro i out hi ho N hN
   obtain ⟨N,rfl⟩:∃q,N=q+1:=⟨N - 1,by omega⟩
   have hb:L[i]?=some L[i]:=bp (by omega)
   rw [am,h i L[i] out hb ho]
   show am step N _=_
   have hm:=hc L[i] (Ef _)
   rw [ih (i+1) _ (by omega) (by rw [aM,Nat.mul_add];omega) N (by omega),wU (show i<L.length by omega),pQ,jr]
 have:=go L.length 0 [] (by omega) (by simp) N hN
 simpa using this
theorem QF (d:aa) (L:Nat) (h:L<=31):(sS (fitN d 31)).filter (λk=>decide (k<=(L:Int)))=sS ((List.range' 1 L).filter (agr d)):=by
 have hs:List.range' 1 31=List.range' 1 L++List.range' (1+L) (31 - L):=by
  have:=List.range'_append_1 (s:=1) (m:=L) (n:=31 - L)
  rw [this,show L+(31 - L)=31 by omega]
 unfold fitN sS
 rw [hs,I0,D7,I0]
 have e1:(List.map (λk:Nat=>(k:Int)) (List.filter (agr d) (List.range' 1 L))).filter (λk=>decide (k<=(L:Int)))=List.map (λk:Nat=>(k:Int)) (List.filter (agr d) (List.range' 1 L)):=by
  rw [List.filter_eq_self]
  intro k hk
  obtain ⟨j,hj,rfl⟩:=eJ.1 hk
  have:=zo.1 (mY.1 hj).1
  exact ar (by omega)
 have e2:(List.map (λk:Nat=>(k:Int)) (List.filter (agr d) (List.range' (1+L) (31 - L)))).filter (λk=>decide (k<=(L:Int)))=[]:=by
  rw [List.filter_eq_nil_iff]
  intro k hk
  obtain ⟨j,hj,rfl⟩:=eJ.1 hk
  have:=zo.1 (mY.1 hj).1
  simp only [cb]
  omega
 rw [e1,e2,pM]
theorem FK (s:aa) (g:Nat):(fitN s g).length<=g:=by
 have:=Aa (agr s) (List.range' 1 g)
 rw [List.length_range'] at this
 exact this
theorem EJ (d:aa):(dayI d).length<=31:=by
 unfold dayI
 split
 ·simp
 ·rw [Cc];exact FK d 31
theorem Fz (m:aa):(monI m).length<=12:=by
 unfold monI
 split
 ·simp
 ·split
  ·simp
  ·rw [Cc];exact FK m 12
theorem Hg (d:aa) (y mo:Int):(uK d y mo).length<=31:=by
 unfold uK
 rw [uz]
 exact qC (Aa _ _) (EJ d)
theorem Kv (y mo:Int):uK [] y mo=[(y,mo,0)]:=rfl
theorem Ho {d:aa} (h:d≠[]) (y mo:Int):uK d y mo=((List.range' 1 (lenI y mo).toNat).filter (agr d)).map λk:Nat=>(y,mo,(k:Int)):=by
 have hr:=la y mo
 unfold uK dayI xp
 rw [ab h,ab h]
 have:=QF d (lenI y mo).toNat (by omega)
 rw [show (((lenI y mo).toNat:Nat):Int)=lenI y mo by omega] at this
 rw [this,sS,rW]
 rfl
theorem HI (n:Nat) (hn:100<n) (g l:Bool) (dg:aa) (x q:Int) (m d:aa) (k0 k1 k2 y:Int):
  kH n g l dg x q m d k0 k1 k2 y=some (xB m d y):=by
 have hml:=Fz m
 unfold kH
 rw [GO n hn]
 have:=Ih (step:=ep n) (f:=λi out=>(y,(i:Int),g,l,dg,x,q,m,d,k0,k1,k2,monI m,out)) (y:=λo=>o) (F:=uK d y) (L:=monI m) (c:=31) (λb _=>Hg d y b)
  (λi mo out hi ho=>by
   have hil:i<(monI m).length:=(od.1 hi).1
   have w1:IntKind.wrap .i64 ((i:Int)+1)=((i+1:Nat):Int):=by rw [wrap_i64 _ (by omega) (by omega)];omega
   unfold ep
   simp only [d4,d8,w1]
   rw [ar (show (i:Int)<(((monI m).length:Nat):Int) by omega),dp hil]
   by_cases hd:d=[]
   ·subst hd
    rw [Kv]
    simp only [ob,hi,aj,room (show out.length<=60000000 by omega)]
    rfl
   ·rw [fK hd]
    have hr:=la y mo
    have hin:=Jx (step:=ew n) (f:=λj o=>(y,(i:Int),((j+1:Nat):Int),g,l,dg,x,q,m,d,k0,k1,k2,monI m,o)) (y:=λo=>(y,(i:Int),g,l,dg,x,q,m,d,k0,k1,k2,monI m,o)) (p:=agr d) (e:=λk=>(y,mo,(k:Int))) (g:=(lenI y mo).toNat) out
     (λj o hj ho'=>by
      have w2:IntKind.wrap .i64 (((j+1:Nat):Int)+1)=((j+1+1:Nat):Int):=by rw [wrap_i64 _ (by omega) (by omega)];omega
      unfold ew
      simp only [d4,d8,w2,dp hil,ob,hi,zA]
      rw [ar (show ((j+1:Nat):Int)<=lenI y mo by omega),uh n d (j+1) (by omega),room (show o.length<=60000000 by omega)]
      by_cases hp:agr d (j+1)=true
      ·rw [ae hp,ae hp];rfl
      ·rw [ab hp,ab hp];rfl)
     (λo=>by
      unfold ew
      simp only [d4,d8,dp hil,ob,hi,zA]
      rw [au (show ¬(((lenI y mo).toNat+1:Nat):Int)<=lenI y mo by omega)]
      rfl)
     (N:=n) (by omega)
    have hin':am (ew n) n (y,(i:Int),1,g,l,dg,x,q,m,d,k0,k1,k2,monI m,out)=_:=hin
    simp only [aj,af]
    rw [hin',Ho hd]
    simp only [ob,d4,d8,w1])
  (λout=>by
   unfold ep
   simp only [d4,d8]
   rw [au (show ¬(((monI m).length:Nat):Int)<(((monI m).length:Nat):Int) by omega)]
   rfl)
  (N:=n) (by omega)
 have h0:am (ep n) n (y,0,g,l,dg,x,q,m,d,k0,k1,k2,monI m,([]:List (Int×Int×Int)))=_:=this
 simp only [ob]
 rw [h0]
 rfl
theorem Tc {a b c e:UInt8} (ha:bw a=true\/a=88) (hb:bw b=true\/b=88) (hc:bw c=true\/c=88) (he:bw e=true\/e=88) (w:Nat):
  mtk [a,b,c,e] 4 w=Mk.ag [e,c,b,a] (w:Int):=by
 have one:∀(z:UInt8) (v:Nat),(decide (z=88)||decide (z.toNat=48+v%10))=(decide (z=88)||decide (Mk.dv z=(v:Int)%10)):=by
  intro z v
  have:(z.toNat=48+v%10)↔(Mk.dv z=(v:Int)%10):=by unfold Mk.dv;omega
  rw [nq.2 this]
 have cast:∀v:Nat,(v:Int) / 10=((v / 10:Nat):Int):=λv=>by omega
 show ((decide (e=88)||decide (e.toNat=48+w%10))&&((decide (c=88)||decide (c.toNat=48+w / 10%10))&&((decide (b=88)||decide (b.toNat=48+w / 10 / 10%10))&&((decide (a=88)||decide (a.toNat=48+w / 10 / 10 / 10%10))&&true))))
  = ((((true&&(decide (a=88)||decide (Mk.dv a=(w:Int) / 10 / 10 / 10%10)))&&(decide (b=88)||decide (Mk.dv b=(w:Int) / 10 / 10%10)))&&(decide (c=88)||decide (Mk.dv c=(w:Int) / 10%10)))&&(decide (e=88)||decide (Mk.dv e=(w:Int)%10)))
 rw [one e w,one c (w / 10),one b (w / 10 / 10),one a (w / 10 / 10 / 10),cast w,cast (w / 10),cast (w / 10 / 10)]
 generalize (decide (e=88)||decide (Mk.dv e=(w:Int)%10))=p1
 generalize (decide (c=88)||decide (Mk.dv c=((w / 10:Nat):Int)%10))=p2
 generalize (decide (b=88)||decide (Mk.dv b=((w / 10 / 10:Nat):Int)%10))=p3
 generalize (decide (a=88)||decide (Mk.dv a=((w / 10 / 10 / 10:Nat):Int)%10))=p4
 cases p1<;>cases p2<;>cases p3<;>cases p4<;>rfl
theorem P8 {c:UInt8} (h:bw c=true\/c=88):Mk.okB c=true:=by
 rcases h with h | h
 ·have h:=(cg c).1 h
  unfold Mk.okB
  simp only [gX,az,cb]
  right
  first | omega | (obtain ⟨h1,h2⟩:=h;constructor<;>omega)
 ·subst h;decide
theorem Nj {d:aa} (hl:d.length=4) (h:∀c∈d,bw c=true\/c=88):Mk.chk d=0:=by
 unfold Mk.chk
 have:d.all Mk.okB=true:=dF.2 λc hc=>P8 (h c hc)
 rw [ab (by omega),ae this,ab (by rintro rfl;simp at hl)]
theorem F5 {d:aa} (hl:d.length=4) (h:∀c∈d,bw c=true\/c=88) (w:Nat):Mk.hasM d (w:Int)=true↔mtk d 4 w=true/\w / 10 ^ 4=0:=by
 obtain ⟨a,b,c,e,rfl⟩:∃a b c e,d=[a,b,c,e]:=by
  match d,hl with
  | [a,b,c,e],_=>exact ⟨a,b,c,e,rfl⟩
 rw [Mk.Dm,Tc (h a (by simp)) (h b (by simp)) (h c (by simp)) (h e (by simp)) w]
 simp only [az,cb]
 show 0<=(w:Int)/\(w:Int)<10 ^ 4/\Mk.ag [e,c,b,a] (w:Int)=true↔Mk.ag [e,c,b,a] (w:Int)=true/\w / 10 ^ 4=0
 have e4:(10:Int) ^ 4=10000:=by decide
 have e4':(10:Nat) ^ 4=10000:=by decide
 rw [e4,e4']
 constructor
 ·rintro ⟨_,h2,h3⟩;exact ⟨h3,by omega⟩
 ·rintro ⟨h3,h2⟩;exact ⟨by omega,by omega,h3⟩
theorem Gs {g l:Bool} {d:aa} {x q:Int} (hok:okY g l d x q) (hX:hasX d=true) (v:Int):inP g d x q v↔(Mk.hasM d (wOf g v)=true/\(g=true->1<=wOf g v)):=by
 obtain ⟨rfl,rfl,rfl,hl,hd⟩:=qe hok hX
 unfold inP
 rw [Gt hX]
 have hr:∀k:Int,Mk.hasM d k=true->0<=k/\k<10000:=λk hk=>by
  have:=(Mk.nQ hk).2.2.2.2
  rw [hl] at this
  have e4:(10:Int) ^ 4=10000:=by decide
  omega
 constructor
 ·rintro ⟨h1,h2,h3,h4,h5⟩
  have:=(F5 hl hd (wOf g v).toNat).2 h5
  rw [show (((wOf g v).toNat:Nat):Int)=wOf g v by omega] at this
  refine ⟨this,λhg=>?_⟩
  have h0:¬wOf g v=0:=λe=>h4 ⟨hX,hg,e⟩
  omega
 ·rintro ⟨h1,h2⟩
  have hr':=hr _ h1
  have hm:=(F5 hl hd (wOf g v).toNat).1 (by rw [show (((wOf g v).toNat:Nat):Int)=wOf g v by omega];exact h1)
  have hv:v=wOf g v\/v=- wOf g v:=by
   unfold wOf;split
   ·right;omega
   ·left;rfl
  refine ⟨by omega,by omega,hr'.1,?_,hm⟩
  rintro ⟨_,hg,e⟩
  have:=h2 hg
  omega
theorem Di {g l:Bool} {d:aa} {x:Int} (hok:okY g l d x 0) (hX:hasX d=false) (v:Int):inP g d x 0 v↔v=(if g then -((val d x.toNat:Nat):Int) else ((val d x.toNat:Nat):Int)):=by
 obtain ⟨k,q,rfl,hq,hN⟩:=tL hok hX
 have hs:=hN.small
 have hv:dval 0 d*10 ^ k=val d k:=rfl
 rw [hv] at hs
 unfold E16 at hs
 unfold inP
 rw [OE hX]
 have hu:Da d (k:Int).toNat (0:Int).toNat=1:=rfl
 rw [hu,bV,sy,sy,hX]
 unfold wOf
 cases g with
 | true=>
  simp only [aQ]
  constructor
  ·rintro ⟨h1,h2,h3,_,h5⟩;omega
  ·rintro rfl;refine ⟨by omega,by omega,by omega,by simp,by omega⟩
 | false=>
  simp only [bP,aE]
  constructor
  ·rintro ⟨h1,h2,h3,_,h5⟩;omega
  ·rintro rfl;refine ⟨by omega,by omega,by omega,by simp,by omega⟩
def Dz (up:Bool) (Y:Int->Prop) (v w:Int) (found:Bool):Prop:=
 (found=true->Y w/\Mk.eX up v w/\∀e,Y e->Mk.eX up v e->Mk.eX up w e)/\(found=false->∀e,Y e->¬Mk.eX up v e)
theorem eQ (a b:Int):Mk.eX true a b↔a<=b:=Iff.rfl
theorem io (a b:Int):Mk.eX false a b↔b<=a:=Iff.rfl
theorem Om (o:Option Int):(Mk.res o).2=0/\(∃r,o=some r/\(Mk.res o).1=r)\/(Mk.res o).2=16/\o=none/\(Mk.res o).1=0:=by
 cases o with
 | none=>exact .inr ⟨rfl,rfl,rfl⟩
 | some r=>exact .inl ⟨rfl,r,rfl,rfl⟩
theorem uM {m:aa} (hm:Mk.chk m=0) (v least:Int) (h0:0<=least):∃w f,fj 20000000 m v true least=some (w,f)/\Dz true (λe=>Mk.hasM m e=true/\least<=e) v w f/\(0<=w/\w<1000000000000000000):=by
 obtain ⟨o,h1,h2⟩:=Mk.IY hm (cond (decide (least>v)) least v)
 unfold fj
 rw [h1]
 simp only [ob,aj]
 have hc:(cond (decide (least>v)) least v)=max v least:=by
  by_cases h:least>v
  ·rw [ar h];show least=_;omega
  ·rw [au h];show v=_;omega
 rw [hc] at h2
 rcases Om o with ⟨e1,r,rfl,e2⟩ | ⟨e1,rfl,e2⟩
 ·refine ⟨_,_,rfl,?_,?_⟩
  ·rw [e1,e2]
   obtain ⟨a1,a2,a3⟩:=h2
   rw [eQ] at a2
   refine ⟨λ_=>⟨⟨a1,by omega⟩,?_,λe he hv=>?_⟩,λh=>by cases h⟩
   ·rw [eQ];omega
   ·rw [eQ] at hv
    exact a3 e he.1 (by rw [eQ];have:=he.2;omega)
  ·have:=(Mk.nQ h2.1).2.2.2.2
   have hl:=Mk.ny hm
   have hp:(10:Int) ^ m.length<=10 ^ 18:=by
    have:=nW (show 0<10 by decide) hl.1
    exact_mod_cast this
   have e18:(10:Int) ^ 18=1000000000000000000:=by decide
   rw [e2]
   omega
 ·refine ⟨_,_,rfl,?_,by rw [e2];omega⟩
  rw [e1]
  refine ⟨(λh=>by cases h),λ_ e he hv=>?_⟩
  rw [eQ] at hv
  exact h2 e he.1 (by rw [eQ];have:=he.2;omega)
theorem uN {m:aa} (hm:Mk.chk m=0) (v least:Int) (h0:0<=least):∃w f,fj 20000000 m v false least=some (w,f)/\Dz false (λe=>Mk.hasM m e=true/\least<=e) v w f/\(0<=w/\w<1000000000000000000):=by
 obtain ⟨o,h1,h2⟩:=Mk.J3 hm v
 unfold fj
 rw [h1]
 simp only [ob,af]
 rcases Om o with ⟨e1,r,rfl,e2⟩ | ⟨e1,rfl,e2⟩
 ·rw [e1,e2]
  obtain ⟨a1,a2,a3⟩:=h2
  rw [io] at a2
  have hb:=(Mk.nQ a1).2.2.2.2
  have hl:=Mk.ny hm
  have hp:(10:Int) ^ m.length<=10 ^ 18:=by
   have:=nW (show 0<10 by decide) hl.1
   exact_mod_cast this
  have e18:(10:Int) ^ 18=1000000000000000000:=by decide
  refine ⟨_,_,rfl,?_,by omega⟩
  by_cases hle:r>=least
  ·rw [ar hle]
   refine ⟨λ_=>⟨⟨a1,by omega⟩,by rw [io];omega,λe he hv=>a3 e he.1 hv⟩,λh=>by cases h⟩
  ·rw [au hle]
   refine ⟨(λh=>by cases h),λ_ e he hv=>?_⟩
   have:=a3 e he.1 hv
   rw [io] at this
   have:=he.2
   omega
 ·rw [e1,e2]
  refine ⟨_,_,rfl,?_,by omega⟩
  refine ⟨(λh=>by cases h),λ_ e he hv=>h2 e he.1 hv⟩
theorem K6 {g l:Bool} {dg:aa} {x:Int} (hok:okY g l dg x 0) (m d:aa) (k0 k1 k2:Int) (v:Int) (hv:-9223372036854775808<=v/\v<9223372036854775808) (up:Bool) (ms ds:List Int):
  ∃w f,cn 20000000 g l dg x 0 m d k0 k1 k2 v up ms ds=some (w,f)/\Dz up (inP g dg x 0) v w f:=by
 have hsm:=ki hok
 unfold cn
 rw [tC]
 simp only [ob]
 cases hX:hasX dg with
 | false=>
  have hin:=Di hok hX
  rw [Aj 20000000 g l dg x 0 (by omega) (by omega),ae ⟨hok,hX⟩]
  simp only [jq,aj]
  generalize (if g then -((val dg x.toNat:Nat):Int) else ((val dg x.toNat:Nat):Int))=w at *
  cases up with
  | true=>
   by_cases h:w>=v
   ·refine ⟨w,true,?_,?_⟩
    ·simp only [ar h,aj]
    ·refine ⟨λ_=>⟨(hin w).2 rfl,h,λe he _=>?_⟩,λh=>by cases h⟩
     rw [(hin e).1 he];exact yT _
   ·refine ⟨w,false,?_,?_⟩
    ·simp only [au h,aj,af,dn]
    ·refine ⟨(λh=>by cases h),λ_ e he ha=>?_⟩
     rw [(hin e).1 he,eQ] at ha;omega
  | false=>
   by_cases h:w<=v
   ·refine ⟨w,true,?_,?_⟩
    ·simp only [ar h,aj,af,jq]
    ·refine ⟨λ_=>⟨(hin w).2 rfl,h,λe he _=>?_⟩,λh=>by cases h⟩
     rw [(hin e).1 he];exact yT _
   ·refine ⟨w,false,?_,?_⟩
    ·simp only [au h,aj,af,jq]
    ·refine ⟨(λh=>by cases h),λ_ e he ha=>?_⟩
     rw [(hin e).1 he,io] at ha;omega
 | true=>
  have hin:=Gs hok hX
  obtain ⟨rfl,rfl,_,hl,hd⟩:=qe hok hX
  have hm:=Nj hl hd
  simp only [dn,af]
  cases g with
  | false=>
   simp only [jq,aj]
   have same:∀w f,Dz up (λe=>Mk.hasM dg e=true/\0<=e) v w f->Dz up (inP false dg 0 0) v w f:=λw f h=>by
    have hiff:∀e,(Mk.hasM dg e=true/\0<=e)↔inP false dg 0 0 e:=λe=>by
     rw [hin e]
     constructor
     ·rintro ⟨h1,_⟩;exact ⟨h1,λh=>by cases h⟩
     ·rintro ⟨h1,_⟩;exact ⟨h1,(Mk.nQ h1).2.2.2.2.1⟩
    refine ⟨λhf=>?_,λhf e he=>h.2 hf e ((hiff e).2 he)⟩
    obtain ⟨b1,b2,b3⟩:=h.1 hf
    exact ⟨(hiff w).1 b1,b2,λe he=>b3 e ((hiff e).2 he)⟩
   cases up with
   | true=>
    obtain ⟨w,f,h1,h2,_⟩:=uM hm v 0 (by omega)
    exact ⟨w,f,by rw [h1],same w f h2⟩
   | false=>
    obtain ⟨w,f,h1,h2,_⟩:=uN hm v 0 (by omega)
    exact ⟨w,f,by rw [h1],same w f h2⟩
  | true=>
   simp only [dn,af]
   have hc:IntKind.wrap .i64 (0 - (cond (decide (((-9223372036854775807):Int)>v)) (-9223372036854775807) v))=min (-v) 9223372036854775807:=by
    by_cases h:((-9223372036854775807):Int)>v
    ·rw [ar h,aj,wrap_i64 _ (by omega) (by omega)];omega
    ·rw [au h,af,wrap_i64 _ (by omega) (by omega)];omega
   rw [hc]
   have hb:∀e,Mk.hasM dg e=true->0<=e/\e<10000:=λe he=>by
    have:=(Mk.nQ he).2.2.2.2
    rw [hl] at this
    have e4:(10:Int) ^ 4=10000:=by decide
    omega
   have hiff:∀e,inP true dg 0 0 e↔(Mk.hasM dg (-e)=true/\1<=-e):=λe=>by
    rw [hin e]
    exact ⟨λh=>⟨h.1,h.2 rfl⟩,λh=>⟨h.1,λ_=>h.2⟩⟩
   have hw:∀w:Int,0<=w/\w<1000000000000000000->IntKind.wrap .i64 (0 - w)=-w:=λw h=>by rw [wrap_i64 _ (by omega) (by omega)];omega
   cases up with
   | true=>
    obtain ⟨w,f,h1,h2,h3⟩:=uN hm (min (-v) 9223372036854775807) 1 (by omega)
    refine ⟨-w,f,by rw [dn,h1];simp only [hw w h3],?_,?_⟩
    ·intro hf
     obtain ⟨b1,b2,b3⟩:=h2.1 hf
     rw [io] at b2
     refine ⟨(hiff _).2 (by rw [Int.neg_neg];exact b1),by rw [eQ];omega,λe he ha=>?_⟩
     rw [eQ] at ha
     have hh:=(hiff e).1 he
     have:=b3 (-e) hh (by rw [io];have:=hb _ hh.1;omega)
     rw [io] at this
     rw [eQ];omega
    ·intro hf e he ha
     rw [eQ] at ha
     have hh:=(hiff e).1 he
     exact h2.2 hf (-e) hh (by rw [io];have:=hb _ hh.1;omega)
   | false=>
    obtain ⟨w,f,h1,h2,h3⟩:=uM hm (min (-v) 9223372036854775807) 1 (by omega)
    refine ⟨-w,f,by rw [jq,h1];simp only [hw w h3],?_,?_⟩
    ·intro hf
     obtain ⟨b1,b2,b3⟩:=h2.1 hf
     rw [eQ] at b2
     have hbw:=hb _ b1.1
     refine ⟨(hiff _).2 (by rw [Int.neg_neg];exact b1),by rw [io];omega,λe he ha=>?_⟩
     rw [io] at ha
     have hh:=(hiff e).1 he
     have:=b3 (-e) hh (by rw [eQ];omega)
     rw [eQ] at this
     rw [io];omega
    ·intro hf e he ha
     rw [io] at ha
     have hh:=(hiff e).1 he
     exact h2.2 hf (-e) hh (by rw [eQ];omega)
theorem tO {X Y A:Type} {step:X->Option (X⊕Y)} {f:Nat->X} {L:List A} {G:A->Option Y} {e:Y}
  (h:∀i a,L[i]?=some a->step (f i)=some ((G a).elim (.inl (f (i+1))) Sum.inr)) (he:step (f L.length)=some (.inr e)) {N:Nat} (hN:L.length<N):
  am step N (f 0)=some ((L.findSome? G).getD e):=by
 have go:∀(r i:Nat),i+r=L.length->∀N,r<N->am step N (f i)=some (((L.drop i).findSome? G).getD e):=by
  intro r
  induction r with
  | zero=>
   intro i hi N hN
   obtain ⟨N,rfl⟩:∃q,N=q+1:=⟨N - 1,by omega⟩
   obtain rfl:i=L.length:=by omega
   rw [am,he]
   simp
  | succ r ih=>
   intro i hi N hN
   obtain ⟨N,rfl⟩:∃q,N=q+1:=⟨N - 1,by omega⟩
   have hb:L[i]?=some L[i]:=bp (by omega)
   rw [am,h i L[i] hb,wU (show i<L.length by omega),AZ]
   cases hG:G L[i] with
   | some y=>rfl
   | none=>exact ih (i+1) (by omega) N (by omega)
 have:=go L.length 0 (by omega) N hN
 simpa using this
def ahd (up:Bool) (a b:Int):Bool:=cond up (decide (a<b)) (decide (a>b))
theorem E6 (n:Nat) (a b:Int) (up:Bool):cG n a b up=some (ahd up a b):=by
 unfold cG ahd
 cases up
 ·rfl
 ·simp only [aj,dn,af]
  cases decide (a<b)<;>rfl
def Ah (up same:Bool) (d:aa) (cd most k:Int):Bool:=decide (k<=most)&&!(same&&(!(d==([]:aa))&&ahd up k cd))
def IR (up:Bool) (m:aa) (cy cm y mo:Int):Bool:=(y==cy)&&(!(m==([]:aa))&&ahd up mo cm)
def HF (m:aa) (cy cm y mo:Int):Bool:=(y==cy)&&((m==([]:aa))||(mo==cm))
def Ez (up:Bool) (m d:aa) (cy cm cd y:Int) (ds:List Int) (mo:Int):Option (Int×Int×Int):=
 if IR up m cy cm y mo then none else (ds.find? (Ah up (HF m cy cm y mo) d cd (xp d y mo))).map λk=>(y,mo,k)
def Dp (up:Bool) (m d:aa) (cy cm cd:Int) (ms ds:List Int) (y:Int):Option (Int×Int×Int):=ms.findSome? (Ez up m d cy cm cd y ds)
def Ir (d:aa) (ms:List Int):Prop:=ms.length<=31/\(d≠[]->∀mo∈ms,1<=mo/\mo<=12)
theorem Js (n:Nat) (g l:Bool) (dg:aa) (x q:Int) (m d:aa) (k0 k1 k2:Int) {y:Int} (hy:dH y) {mo:Int} (hmo:d≠[]->1<=mo/\mo<=12) (ms ds:List Int):
  eN n g l dg x q m d k0 k1 k2 y mo ms ds=some (xp d y mo):=by
 unfold eN xp
 by_cases hd:d=[]
 ·subst hd;rfl
 ·rw [fK hd,ab hd]
  have:=hmo hd
  obtain ⟨k,rfl⟩:∃k:Nat,mo=(k:Int):=⟨mo.toNat,by omega⟩
  rw [af,HQ n hy (by omega) (by omega)]
  rfl
theorem Px {A B Y:Type} (L:List A) (p:A->Bool) (F:A->B) (J:B->Y) (e:Y):(L.findSome? λa=>if p a then some (J (F a)) else none).getD e=((L.find? p).map F).elim e J:=by
 induction L with
 | nil=>rfl
 | cons a L ih=>
  rw [List.find?_cons,AZ]
  cases h:p a
  ·simpa using ih
  ·simp
theorem RV {A B Y:Type} (L:List A) (G:A->Option B) (J:B->Y) (e:Y):(L.findSome? λa=>(G a).map J).getD e=(L.findSome? G).elim e J:=by
 induction L with
 | nil=>rfl
 | cons a L ih=>
  rw [AZ,AZ]
  cases h:G a
  ·simpa using ih
  ·simp
theorem Nz (n:Nat) (s y mo:Int) (same:Bool) (most lm im:Int) (ms ds:List Int) (g l:Bool) (dg:aa) (x q:Int) (m d:aa) (k0 k1 k2 cy cm cd:Int) (up:Bool) (ry rm rd:Int) (i:Nat) (k:Int) (hi:ds[i]?=some k) (h31:i<1000):
  bF n (s,y,mo,same,most,lm,im,((ds.length:Nat):Int),(i:Int),ms,ds,g,l,dg,x,q,m,d,k0,k1,k2,cy,cm,cd,up,ry,rm,rd)=some ((if Ah up same d cd most k then some (.inl (true,y,mo,k)) else none).elim (.inl (s,y,mo,same,most,lm,im,((ds.length:Nat):Int),((i+1:Nat):Int),ms,ds,g,l,dg,x,q,m,d,k0,k1,k2,cy,cm,cd,up,ry,rm,rd)) Sum.inr):=by
 have hil:i<ds.length:=(od.1 hi).1
 have w1:IntKind.wrap .i64 ((i:Int)+1)=((i+1:Nat):Int):=by rw [wrap_i64 _ (by omega) (by omega)];omega
 unfold bF ig Ah
 simp only [d4,d8,d16,dp hil,hi,ob,w1,E6]
 rw [ar (show (i:Int)<((ds.length:Nat):Int) by omega)]
 simp only [aj]
 cases decide (k<=most)<;>cases same<;>cases (d==([]:aa))<;>cases ahd up k cd<;>simp only [dn,jq,aj,af,w1]<;>rfl
theorem PR (n:Nat) (s y mo:Int) (same:Bool) (most lm im:Int) (ms ds:List Int) (g l:Bool) (dg:aa) (x q:Int) (m d:aa) (k0 k1 k2 cy cm cd:Int) (up:Bool) (ry rm rd:Int):
  bF n (s,y,mo,same,most,lm,im,((ds.length:Nat):Int),((ds.length:Nat):Int),ms,ds,g,l,dg,x,q,m,d,k0,k1,k2,cy,cm,cd,up,ry,rm,rd)=some (.inr (.inr (s,y,lm,im,ms,ds,g,l,dg,x,q,m,d,k0,k1,k2,cy,cm,cd,up,ry,rm,rd))):=by
 unfold bF
 simp only [d4,d8,d16]
 rw [au (show ¬((ds.length:Nat):Int)<((ds.length:Nat):Int) by omega)]
 rfl
theorem Qb (n:Nat) (hn:1000<n) (s y mo:Int) (same:Bool) (most lm im:Int) (ms ds:List Int) (g l:Bool) (dg:aa) (x q:Int) (m d:aa) (k0 k1 k2 cy cm cd:Int) (up:Bool) (ry rm rd:Int) (hd:ds.length<=31):
  am (bF n) n (s,y,mo,same,most,lm,im,((ds.length:Nat):Int),0,ms,ds,g,l,dg,x,q,m,d,k0,k1,k2,cy,cm,cd,up,ry,rm,rd)=some (((ds.find? (Ah up same d cd most)).map (λk=>(y,mo,k))).elim (.inr (s,y,lm,im,ms,ds,g,l,dg,x,q,m,d,k0,k1,k2,cy,cm,cd,up,ry,rm,rd)) (λz=>.inl (true,z))):=by
 have:=tO (step:=bF n) (f:=λi=>(s,y,mo,same,most,lm,im,((ds.length:Nat):Int),(i:Int),ms,ds,g,l,dg,x,q,m,d,k0,k1,k2,cy,cm,cd,up,ry,rm,rd)) (L:=ds) (G:=λk=>if Ah up same d cd most k then some (.inl (true,y,mo,k)) else none) (e:=.inr (s,y,lm,im,ms,ds,g,l,dg,x,q,m,d,k0,k1,k2,cy,cm,cd,up,ry,rm,rd))
  (λi k hi=>by
   have hil:i<ds.length:=(od.1 hi).1
   exact Nz n s y mo same most lm im ms ds g l dg x q m d k0 k1 k2 cy cm cd up ry rm rd i k hi (by omega))
  (PR n s y mo same most lm im ms ds g l dg x q m d k0 k1 k2 cy cm cd up ry rm rd) (N:=n) (by omega)
 exact this.trans (dm some (Px ds (Ah up same d cd most) (λk=>(y,mo,k)) (λz=>Sum.inl (true,z)) _))
theorem MZ (n:Nat) (hn:1000<n) (s y:Int) (hy:dH y) (ms ds:List Int) (g l:Bool) (dg:aa) (x q:Int) (m d:aa) (k0 k1 k2 cy cm cd:Int) (up:Bool) (ry rm rd:Int) (hm:Ir d ms) (hd:ds.length<=31) (i:Nat) (mo:Int) (hi:ms[i]?=some mo):
  ca n (s,y,((ms.length:Nat):Int),(i:Int),ms,ds,g,l,dg,x,q,m,d,k0,k1,k2,cy,cm,cd,up,ry,rm,rd)=some (((Ez up m d cy cm cd y ds mo).map (λz=>(.inl (true,z):(Bool×Int×Int×Int)⊕_))).elim (.inl (s,y,((ms.length:Nat):Int),((i+1:Nat):Int),ms,ds,g,l,dg,x,q,m,d,k0,k1,k2,cy,cm,cd,up,ry,rm,rd)) Sum.inr):=by
 have hil:i<ms.length:=(od.1 hi).1
 have h31:=hm.1
 have w1:IntKind.wrap .i64 ((i:Int)+1)=((i+1:Nat):Int):=by rw [wrap_i64 _ (by omega) (by omega)];omega
 have hmo:d≠[]->1<=mo/\mo<=12:=λh=>hm.2 h mo (gQ hi)
 have j20:∀a b:Int,eU n s y mo (y==cy) a b ms ds g l dg x q m d k0 k1 k2 cy cm cd up ry rm rd=some (s,y,mo,(y==cy),a,b,IR up m cy cm y mo,ms,ds,g,l,dg,x,q,m,d,k0,k1,k2,cy,cm,cd,up,ry,rm,rd):=by
  intro a b
  unfold eU IR
  simp only [E6,ob]
  cases (y==cy)<;>cases (m==([]:aa))<;>rfl
 have j23:∀a b c:Int,eS n s y mo (y==cy) a b c ms ds g l dg x q m d k0 k1 k2 cy cm cd up ry rm rd=some (s,y,mo,HF m cy cm y mo,a,b,c,ms,ds,g,l,dg,x,q,m,d,k0,k1,k2,cy,cm,cd,up,ry,rm,rd):=by
  intro a b c
  unfold eS HF
  cases (y==cy)<;>cases (m==([]:aa))<;>rfl
 unfold ca ic Ez
 simp only [d4,d8,d16,dp hil,hi,ob,j20]
 rw [ar (show (i:Int)<((ms.length:Nat):Int) by omega)]
 simp only [aj]
 cases hs:IR up m cy cm y mo with
 | true=>simp only [aj,aQ,iJ,w1];rfl
 | false=>
  simp only [af,bP,aE,Js n g l dg x q m d k0 k1 k2 hy hmo,j23,Qb n hn s y mo (HF m cy cm y mo) (xp d y mo) _ _ ms ds g l dg x q m d k0 k1 k2 cy cm cd up ry rm rd hd]
  cases ds.find? (Ah up (HF m cy cm y mo) d cd (xp d y mo)) with
  | some k=>rfl
  | none=>simp only [iJ,Option.elim_none,w1]
theorem QU (n:Nat) (hn:1000<n) (s y:Int) (hy:dH y) (ms ds:List Int) (g l:Bool) (dg:aa) (x q:Int) (m d:aa) (k0 k1 k2 cy cm cd:Int) (up:Bool) (ry rm rd:Int) (hm:Ir d ms) (hd:ds.length<=31):
  am (ca n) n (s,y,((ms.length:Nat):Int),0,ms,ds,g,l,dg,x,q,m,d,k0,k1,k2,cy,cm,cd,up,ry,rm,rd)=some ((Dp up m d cy cm cd ms ds y).elim (.inr (s,y,ms,ds,g,l,dg,x,q,m,d,k0,k1,k2,cy,cm,cd,up,ry,rm,rd)) (λz=>.inl (true,z))):=by
 have h31:=hm.1
 have:=tO (step:=ca n) (f:=λi=>(s,y,((ms.length:Nat):Int),(i:Int),ms,ds,g,l,dg,x,q,m,d,k0,k1,k2,cy,cm,cd,up,ry,rm,rd)) (L:=ms) (G:=λmo=>(Ez up m d cy cm cd y ds mo).map (λz=>(.inl (true,z):(Bool×Int×Int×Int)⊕_))) (e:=.inr (s,y,ms,ds,g,l,dg,x,q,m,d,k0,k1,k2,cy,cm,cd,up,ry,rm,rd))
  (λi mo hi=>MZ n hn s y hy ms ds g l dg x q m d k0 k1 k2 cy cm cd up ry rm rd hm hd i mo hi)
  (by
   unfold ca
   simp only [d4,d8,d16]
   rw [au (show ¬((ms.length:Nat):Int)<((ms.length:Nat):Int) by omega)]
   rfl)
  (N:=n) (by omega)
 exact this.trans (dm some (RV ms (Ez up m d cy cm cd y ds) (λz=>Sum.inl (true,z)) _))
theorem NR (n:Nat) (hn:1000<n) (s y:Int) (hy:dH y) (ms ds:List Int) (g l:Bool) (dg:aa) (x q:Int) (m d:aa) (k0 k1 k2 cy cm cd:Int) (up:Bool) (ry rm rd:Int) (hm:Ir d ms) (hd:ds.length<=31):
  cM n (s,y,true,ms,ds,g,l,dg,x,q,m,d,k0,k1,k2,cy,cm,cd,up,ry,rm,rd)=(Dp up m d cy cm cd ms ds y).elim (ob (cn n g l dg x q m d k0 k1 k2 (IntKind.wrap .i64 (y+s)) up ms ds) λr=>some (.inl (s,r.1,r.2,ms,ds,g,l,dg,x,q,m,d,k0,k1,k2,cy,cm,cd,up,ry,rm,rd))) (λz=>some (.inr (.inl (true,z)))):=by
 unfold cM
 simp only [d4,d8,d16,aj,ob,QU n hn s y hy ms ds g l dg x q m d k0 k1 k2 cy cm cd up ry rm rd hm hd]
 cases Dp up m d cy cm cd ms ds y<;>rfl
def GG (up:Bool) (Y:Int->Prop) (F:Int->Option (Int×Int×Int)) (v:Int):Option (Int×Int×Int)->Prop
 | some z=>∃e,Y e/\Mk.eX up v e/\F e=some z/\∀e',Y e'->Mk.eX up v e'->¬Mk.eX up e e'->F e'=none
 | none=>∀e,Y e->Mk.eX up v e->F e=none
theorem Hu {X:Type} {step:X->Option (X⊕((Bool×Int×Int×Int)⊕(Int×Int×Int)))} {st:Int->Bool->X} {F:Int->Option (Int×Int×Int)} {Y:Int->Prop} {up:Bool} {s lo hi:Int} {E:Int×Int×Int} {fy:Int->Option (Int×Bool)}
  (hs:s=if up then 1 else -1) (hY:∀e,Y e->lo<=e/\e<=hi) (h0:-10000000000000000<=lo) (h1:hi<=10000000000000000)
  (hstep:∀y,Y y->step (st y true)=(F y).elim (ob (fy (IntKind.wrap .i64 (y+s))) λr=>some (.inl (st r.1 r.2))) (λz=>some (.inr (.inl (true,z)))))
  (hend:∀y,step (st y false)=some (.inr (.inr E)))
  (hfy:∀v,-9223372036854775808<=v/\v<9223372036854775808->∃w f,fy v=some (w,f)/\Dz up Y v w f):
  ∀(r:Nat) (v y:Int) (f:Bool),Dz up Y v y f->(f=true->(if up then hi - y else y - lo)<(r:Int))->∀N,r<N->
   ∃o,am step N (st y f)=some (o.elim (.inr E) (λz=>.inl (true,z)))/\GG up Y F v o:=by
 intro r
 induction r with
 | zero=>
  intro v y f hn hr N hN
  obtain ⟨N,rfl⟩:∃q,N=q+1:=⟨N - 1,by omega⟩
  cases f with
  | true=>
   obtain ⟨a1,_,_⟩:=hn.1 rfl
   have:=hY y a1
   have:=hr rfl
   cases up<;>simp at this<;>omega
  | false=>
   refine ⟨none,by rw [am,hend];rfl,λe he ha=>absurd ha (hn.2 rfl e he)⟩
 | succ r ih=>
  intro v y f hn hr N hN
  obtain ⟨N,rfl⟩:∃q,N=q+1:=⟨N - 1,by omega⟩
  cases f with
  | false=>
   refine ⟨none,by rw [am,hend];rfl,λe he ha=>absurd ha (hn.2 rfl e he)⟩
  | true=>
   obtain ⟨a1,a2,a3⟩:=hn.1 rfl
   have hb:=hY y a1
   cases hF:F y with
   | some z=>
    refine ⟨some z,?_,y,a1,a2,hF,λe' h1 h2 h3=>absurd (a3 e' h1 h2) h3⟩
    rw [am,hstep y a1,hF];rfl
   | none=>
    have hw:IntKind.wrap .i64 (y+s)=y+s:=by
     have:-1<=s/\s<=1:=by rw [hs];cases up<;>simp
     exact wrap_i64 _ (by omega) (by omega)
    obtain ⟨w,f',e1,e2⟩:=hfy (y+s) (by
     have:-1<=s/\s<=1:=by rw [hs];cases up<;>simp
     omega)
    have hstep':step (st y true)=some (.inl (st w f')):=by
     rw [hstep y a1,hF,hw]
     show ob (fy (y+s)) _=_
     rw [e1];rfl
    obtain ⟨o,i1,i2⟩:=ih (y+s) w f' e2 (λhf=>by
     obtain ⟨b1,b2,_⟩:=e2.1 hf
     have:=hr rfl
     cases up
     ·rw [io] at b2
      simp only [bP,aE] at hs this ⊢
      omega
     ·rw [eQ] at b2
      simp only [aQ] at hs this ⊢
      omega) N (by omega)
    refine ⟨o,by rw [am,hstep'];exact i1,?_⟩
    have split:∀e',Y e'->Mk.eX up v e'->e'=y\/Mk.eX up (y+s) e':=λe' h1 h2=>by
     have h3:=a3 e' h1 h2
     cases up
     ·rw [io] at h3 ⊢
      simp only [bP,aE] at hs
      omega
     ·rw [eQ] at h3 ⊢
      simp only [aQ] at hs
      omega
    cases o with
    | none=>
     intro e he ha
     rcases split e he ha with rfl | h
     ·exact hF
     ·exact i2 e he h
    | some z=>
     obtain ⟨e,c1,c2,c3,c4⟩:=i2
     refine ⟨e,c1,?_,c3,λe' h1 h2 h3=>?_⟩
     ·cases up
      ·rw [io] at c2 a2 ⊢
       simp only [bP,aE] at hs
       omega
      ·rw [eQ] at c2 a2 ⊢
       simp only [aQ] at hs
       omega
     ·rcases split e' h1 h2 with rfl | h
      ·exact hF
      ·exact c4 e' h1 h h3
theorem ya {g l:Bool} {dg:aa} {x:Int} (hok:okY g l dg x 0):∃lo hi:Int,(∀e,inP g dg x 0 e->lo<=e/\e<=hi)/\hi - lo<=10000/\-10000000000000000<=lo/\hi<=10000000000000000:=by
 cases hX:hasX dg with
 | false=>
  have hin:=Di hok hX
  by_cases hv:-10000000000000000<=(if g then -((val dg x.toNat:Nat):Int) else ((val dg x.toNat:Nat):Int))/\(if g then -((val dg x.toNat:Nat):Int) else ((val dg x.toNat:Nat):Int))<=10000000000000000
  ·refine ⟨_,_,λe he=>?_,?_,hv.1,hv.2⟩
   ·rw [(hin e).1 he];exact ⟨yT _,yT _⟩
   ·omega
  ·refine ⟨0,0,λe he=>?_,by omega,by omega,by omega⟩
   exfalso
   have:=(hin e).1 he
   unfold inP at he
   exact hv ⟨by rw [<-this];exact he.1,by rw [<-this];exact he.2.1⟩
 | true=>
  have hin:=Gs hok hX
  obtain ⟨_,_,_,hl,hd⟩:=qe hok hX
  refine ⟨if g then -9999 else 0,if g then 0 else 9999,λe he=>?_,by cases g<;>simp,by cases g<;>simp,by cases g<;>simp⟩
  have h:=((hin e).1 he).1
  have:=(Mk.nQ h).2.2.2.2
  rw [hl] at this
  have e4:(10:Int) ^ 4=10000:=by decide
  unfold wOf at this
  cases g
  ·simp at this ⊢;omega
  ·simp at this ⊢;omega
theorem AL {g:Bool} {dg:aa} {x q e:Int} (h:inP g dg x q e):dH e:=⟨h.1,h.2.1⟩
theorem Hr {g l:Bool} {dg:aa} {x:Int} (hok:okY g l dg x 0) (m d:aa) (k0 k1 k2:Int) (cy cm cd:Int) (hcy:-9223372036854775808<=cy/\cy<9223372036854775808) (ms ds:List Int) (hm:Ir d ms) (hd:ds.length<=31):
  ∃o,iL 20000000 g l dg x 0 m d k0 k1 k2 cy cm cd true ms ds=some (o.elim (0,0,0,false) λz=>(z.1,z.2.1,z.2.2,true))/\GG true (inP g dg x 0) (Dp true m d cy cm cd ms ds) cy o:=by
 obtain ⟨lo,hi,hb,hw,hb0,hb1⟩:=ya hok
 obtain ⟨w,f,e1,e2⟩:=K6 hok m d k0 k1 k2 cy hcy true ms ds
 obtain ⟨o,i1,i2⟩:=Hu (step:=cM 20000000) (st:=λy f=>(1,y,f,ms,ds,g,l,dg,x,0,m,d,k0,k1,k2,cy,cm,cd,true,0,0,0)) (F:=Dp true m d cy cm cd ms ds) (Y:=inP g dg x 0) (up:=true) (s:=1) (lo:=lo) (hi:=hi) (E:=(0,0,0)) (fy:=λv=>cn 20000000 g l dg x 0 m d k0 k1 k2 v true ms ds)
  rfl hb hb0 hb1
  (λy hy=>NR 20000000 (by omega) 1 y (AL hy) ms ds g l dg x 0 m d k0 k1 k2 cy cm cd true 0 0 0 hm hd)
  (λy=>rfl)
  (λv hv=>K6 hok m d k0 k1 k2 v hv true ms ds)
  10002 cy w f e2 (λhf=>by have:=hb w (e2.1 hf).1;simp;omega) 20000000 (by omega)
 refine ⟨o,?_,i2⟩
 unfold iL iZ
 simp only [dn,af,ob,d4,d8,d16,e1]
 have i1':am (cM 20000000) 20000000 (1,w,f,ms,ds,g,l,dg,x,0,m,d,k0,k1,k2,cy,cm,cd,true,0,0,0)=_:=i1
 rw [i1']
 cases o<;>rfl
theorem FO (m d:aa) (cm cd:Int) {cy e:Int} (h:e≠cy) (ms ds:List Int):Dp true m d cy cm cd ms ds e=none↔(ms.flatMap λmo=>(ds.filter λk=>decide (k<=xp d e mo)).map λk=>(e,mo,k))=[]:=by
 have hne:(e==cy)=false:=aN.2 h
 unfold Dp
 rw [OI,List.flatMap_eq_nil_iff]
 have:∀mo,Ez true m d cy cm cd e ds mo=none↔((ds.filter λk=>decide (k<=xp d e mo)).map λk=>(e,mo,k))=[]:=by
  intro mo
  unfold Ez IR HF
  rw [hne]
  simp only [Gw,bP,aE,Option.map_eq_none_iff,List.find?_eq_none,List.map_eq_nil_iff,List.filter_eq_nil_iff]
  constructor
  ·intro h1 k hk
   have:=h1 k hk
   unfold Ah at this
   simpa using this
  ·intro h1 k hk
   have:=h1 k hk
   unfold Ah
   simpa using this
 exact ⟨λh1 mo hmo=>(this mo).1 (h1 mo hmo),λh1 mo hmo=>(this mo).2 (h1 mo hmo)⟩
def hasF (g:Bool) (dg:aa) (x:Int) (m d:aa):Prop:=∃e,inP g dg x 0 e/\xB m d e≠[]
open Classical in
noncomputable def chkF (g l:Bool) (dg:aa) (x q:Int) (m d:aa) (k0 k1 k2:Int):Int:=
 if chkD g l dg x q m d k0 k1 k2=0/\d≠[]/\¬hasF g dg x m d then 8 else chkD g l dg x q m d k0 k1 k2
theorem th {g l:Bool} {dg:aa} {x q:Int} {m d:aa} {k0 k1 k2:Int} (h:chkD g l dg x q m d k0 k1 k2=0):okY g l dg x q/\(m=[]\/m.length=2)/\(d=[]\/d.length=2)/\(0<q->m=[])/\(d≠[]->m≠[]/\sea m=0):=by
 obtain ⟨c1,c2,c3,c4⟩:=Kq h
 unfold yrD at c1
 by_cases hok:okY g l dg x q
 ·rw [ae hok] at c1
  refine ⟨hok,?_,?_,λhq=>?_,λhd=>?_⟩
  ·rcases c2 with h | h | h
   ·exact .inl h
   ·exact .inr (KD h).1
   ·exact .inr (qR (by omega) h).1
  ·rcases c3 with h | ⟨_,_,h⟩
   ·exact .inl h
   ·exact .inr (qR (by omega) h).1
  ·unfold yrB at c1
   simp only [az,kl] at c1
   have:=c1.1
   rw [ar hq,mU] at this
   by_cases hm:m=[]
   ·exact hm
   ·rw [fK hm] at this;cases this
  ·rcases c3 with h | ⟨h1,h2,_⟩
   ·exact absurd h hd
   ·exact ⟨h1,h2⟩
 ·rw [ab hok] at c1;cases c1
theorem Sm {g l:Bool} {dg:aa} {x q:Int} (h:okY g l dg x q):0<=q:=(ki h).2.2.1
theorem KR {m d:aa} (h:d≠[]->m≠[]/\sea m=0):Ir d (monI m):=by
 refine ⟨qC (Fz m) (by omega),λhd mo hmo=>?_⟩
 obtain ⟨h1,h2⟩:=h hd
 unfold monI at hmo
 rw [ab h1,ab (by omega)] at hmo
 obtain ⟨k,hk,rfl⟩:=eJ.1 hmo
 have:=zo.1 (mY.1 hk).1
 omega
theorem uY {g l:Bool} {dg:aa} {x q:Int} {m d:aa} {k0 k1 k2:Int} (hml:m.length<=18) (hdl:dg.length<=100) (h0:0<=k0) (h1:0<=k1) (h2:0<=k2):
  bu 20000000 g l dg x q m d k0 k1 k2=some (chkF g l dg x q m d k0 k1 k2):=by
 unfold bu chkF
 rw [AD 20000000 (by omega) g l dg x q m d k0 k1 k2 hml hdl h0 h1 h2]
 simp only [ob]
 by_cases hc:chkD g l dg x q m d k0 k1 k2=0
 ·obtain ⟨hok,hm2,hd2,hq,hdm⟩:=th hc
  rw [hc]
  simp only [eM,af]
  by_cases hd:d=[]
  ·subst hd
   rw [ab (by simp)];rfl
  ·rw [fK hd,af]
   have hq0:q=0:=by
    have:=Sm hok
    by_cases h:0<q
    ·exact absurd (hq h) (hdm hd).1
    ·omega
   subst hq0
   have e:=Vn 20000000 (by omega) g l dg x 0 m d k0 k1 k2 hm2 hd2
   have hmo:=KR hdm
   obtain ⟨o,o1,o2⟩:=Hr hok m d k0 k1 k2 (-9223372036854775808) 0 0 (by omega) (monI m) (dayI d) hmo (EJ d)
   have hne:∀e,inP g dg x 0 e->e≠-9223372036854775808:=λe he=>by have:=AL he;unfold dH at this;omega
   have key:(∃z,o=some z)↔hasF g dg x m d:=by
    constructor
    ·rintro ⟨z,rfl⟩
     obtain ⟨e,c1,_,c3,_⟩:=o2
     refine ⟨e,c1,λhn=>?_⟩
     have:=(FO m d 0 0 (hne e c1) (monI m) (dayI d)).2 hn
     rw [this] at c3;cases c3
    ·rintro ⟨e,c1,c2⟩
     cases o with
     | some z=>exact ⟨z,rfl⟩
     | none=>
      have:=o2 e c1 (by rw [eQ];have:=AL c1;unfold dH at this;omega)
      exact absurd ((FO m d 0 0 (hne e c1) (monI m) (dayI d)).1 this) c2
   rw [e]
   by_cases hF:hasF g dg x m d
   ·obtain ⟨z,rfl⟩:=key.2 hF
    rw [ab (λh=>h.2.2 hF)]
    all_goals
     simp only [d4,d8,o1]
     rfl
   ·have ho:o=none:=by
     cases o with
     | none=>rfl
     | some z=>exact absurd (key.1 ⟨z,rfl⟩) hF
    subst ho
    rw [ae ⟨rfl,hd,hF⟩]
    all_goals
     simp only [d4,d8,o1]
     rfl
 ·rw [ab (λh=>hc h.1)]
  have:(chkD g l dg x q m d k0 k1 k2 != 0)=true:=by simp [hc]
  rw [this];rfl
theorem Nu {g l:Bool} {dg:aa} {x:Int} (hok:okY g l dg x 0) (m d:aa) (k0 k1 k2:Int):
  ∃r,kF 20000000 g l dg x 0 m d k0 k1 k2=some r/\(r=1/\hasF g dg x m d\/r=0/\¬hasF g dg x m d):=by
 have hsm:=ki hok
 obtain ⟨lo,hi,hb,hw,hb0,hb1⟩:=ya hok
 obtain ⟨s1,s2,s3⟩:=IV hok
 have hsp:=NS 19999700 g l dg x 0 (by omega) hok
 unfold kF
 rw [show (20000000:Nat)=19999700+300 from rfl,hsp]
 simp only [ob]
 generalize (sgn g (o8 g dg x 0)).1=a at *
 generalize (sgn g (o8 g dg x 0)).2=b at *
 have ha:=hb a s1
 have hb':=hb b s2
 have hY:=λy=>Tj 19999700 hok y
 have step:∀i y,((List.range (b - a+1).toNat).map (λj:Nat=>a+(j:Int)))[i]?=some y->i<(b - a+1).toNat/\y=a+(i:Int):=by
  intro i y h
  rw [my] at h
  cases hr:(List.range (b - a+1).toNat)[i]? with
  | none=>rw [hr] at h;cases h
  | some j=>
   rw [hr] at h
   have hi:=od.1 hr
   obtain ⟨h1,h2⟩:=hi
   rw [List.getElem_range] at h2
   rw [List.length_range] at h1
   subst h2
   exact ⟨h1,(bg h).symm⟩
 have hlen:((List.range (b - a+1).toNat).map (λj:Nat=>a+(j:Int))).length=(b - a+1).toNat:=by simp
 have:=tO (step:=fQ (19999700+300)) (f:=λi=>(b,a+(i:Int),g,l,dg,x,0,m,d,k0,k1,k2)) (L:=(List.range (b - a+1).toNat).map (λj:Nat=>a+(j:Int))) (G:=λy=>if inP g dg x 0 y/\xB m d y≠[] then some (.inl 1) else none) (e:=.inr ())
  (λi y h=>by
   obtain ⟨hi,rfl⟩:=step i y h
   have w1:IntKind.wrap .i64 (a+(i:Int)+1)=a+((i+1:Nat):Int):=by rw [wrap_i64 _ (by omega) (by omega)];omega
   unfold fQ
   simp only [d4,d8,w1]
   rw [ar (show a+(i:Int)<=b by omega),hY,HI (19999700+300) (by omega)]
   by_cases hin:inP g dg x 0 (a+(i:Int))
   ·rw [ae hin]
    by_cases hyr:xB m d (a+(i:Int))=[]
    ·rw [ab (λh=>h.2 hyr),hyr];rfl
    ·rw [ae ⟨hin,hyr⟩]
     have hp:0<(xB m d (a+(i:Int))).length:=List.length_pos_iff.2 hyr
     have hd:decide ((((xB m d (a+(i:Int))).length:Nat):Int)>0)=true:=ar (by omega)
     simp only [aj,ob,hd]
     rfl
   ·rw [ab hin,ab (λh=>hin h.1)];rfl)
  (by
   unfold fQ
   simp only [d4,d8]
   rw [hlen,au (show ¬a+(((b - a+1).toNat:Nat):Int)<=b by omega)]
   rfl)
  (N:=19999700+300) (by rw [hlen];omega)
 rw [show a+((0:Nat):Int)=a by omega] at this
 rw [this]
 cases hfs:(List.findSome? (λy=>if inP g dg x 0 y/\xB m d y≠[] then some (Sum.inl (1:Int)) else none) ((List.range (b - a+1).toNat).map (λj:Nat=>a+(j:Int))):Option (Int⊕Unit)) with
 | none=>
  refine ⟨0,rfl,.inr ⟨rfl,?_⟩⟩
  rintro ⟨e,he1,he2⟩
  rw [OI] at hfs
  have hs:=s3 e he1
  have:=hfs e (eJ.2 ⟨(e - a).toNat,kq.2 (by omega),by omega⟩)
  rw [ae ⟨he1,he2⟩] at this
  cases this
 | some z=>
  obtain ⟨y,hy1,hy2⟩:=List.exists_of_findSome?_eq_some hfs
  by_cases hh:inP g dg x 0 y/\xB m d y≠[]
  ·rw [ae hh] at hy2
   obtain rfl:=bg hy2
   exact ⟨1,rfl,.inl ⟨rfl,y,hh.1,hh.2⟩⟩
  ·rw [ab hh] at hy2;cases hy2
theorem sw {g l:Bool} {dg:aa} {x q:Int} {m d:aa} {k0 k1 k2:Int} (hdl:dg.length<=100) (h0:0<=k0) (h1:0<=k1) (h2:0<=k2):
  bJ 20000000 g l dg x q m d k0 k1 k2=some (chkF g l dg x q m d k0 k1 k2):=by
 unfold bJ chkF
 rw [Dt 20000000 (by omega) g l dg x q m d k0 k1 k2 hdl h0 h1 h2]
 simp only [ob]
 by_cases hc:chkD g l dg x q m d k0 k1 k2=0
 ·obtain ⟨hok,hm2,hd2,hq,hdm⟩:=th hc
  rw [hc]
  by_cases hd:d=[]
  ·subst hd
   rw [ab (by simp)];rfl
  ·have hq0:q=0:=by
    have:=Sm hok
    by_cases h:0<q
    ·exact absurd (hq h) (hdm hd).1
    ·omega
   subst hq0
   obtain ⟨r,r1,r2⟩:=Nu hok m d k0 k1 k2
   rw [fK hd,r1]
   rcases r2 with ⟨rfl,hF⟩ | ⟨rfl,hF⟩
   ·rw [ab (λh=>h.2.2 hF)];rfl
   ·rw [ae ⟨rfl,hd,hF⟩];rfl
 ·rw [ab (λh=>hc h.1)]
  have:(chkD g l dg x q m d k0 k1 k2==0)=false:=aN.2 hc
  rw [this];rfl
theorem qk {g l:Bool} {dg:aa} {x q:Int} {m d:aa} {k0 k1 k2:Int} (h:chkF g l dg x q m d k0 k1 k2=0):chkD g l dg x q m d k0 k1 k2=0:=by
 unfold chkF at h
 split at h
 ·cases h
 ·exact h
theorem bne0 {e:Int} (h:e≠0):(e != 0)=true:=by simp [h]
theorem NE {m d:aa} {y:Int} {z:Int×Int×Int}:z∈xB m d y↔z.1=y/\z.2.1∈monI m/\z.2.2∈dayI d/\z.2.2<=xp d y z.2.1:=by
 unfold xB uK
 simp only [List.mem_flatMap,eJ,mY,cb]
 constructor
 ·rintro ⟨mo,h1,k,⟨h2,h3⟩,rfl⟩;exact ⟨rfl,h1,h2,h3⟩
 ·rintro ⟨h0,h1,h2,h3⟩
  exact ⟨z.2.1,h1,z.2.2,⟨h2,h3⟩,by rw [<-h0]⟩
def plN (P:Nat×Nat×Nat) (i:Nat):Nat:=if i=0 then P.1 else if i=1 then P.2.1 else P.2.2
theorem uA {g l:Bool} {dg:aa} {x q:Int} {m d:aa} {k0 k1 k2:Int} (hk:allM k0 k1 k2 (da m d)=0):chkF g l dg x q m d k0 k1 k2=0\/chkF g l dg x q m d k0 k1 k2=6\/chkF g l dg x q m d k0 k1 k2=7\/chkF g l dg x q m d k0 k1 k2=8:=by
 unfold chkF
 split
 ·exact .inr (.inr (.inr rfl))
 ·exact Ji hk
noncomputable def chkR (r:DR):Nat:=(chkF r.1 r.2.1 r.2.2.1 (r.2.2.2.1:Int) (r.2.2.2.2.1:Int) r.2.2.2.2.2.1 r.2.2.2.2.2.2.1 (r.2.2.2.2.2.2.2.1.1:Int) (r.2.2.2.2.2.2.2.1.2.1:Int) (r.2.2.2.2.2.2.2.1.2.2:Int)).toNat
noncomputable def iq (S:aa) (a:Nat):(Nat×Nat×Nat)⊕DR:=
 match so S a with
 | .inl k=>.inl (k,5,k)
 | .inr r=>if chkR r=0 then .inr r else .inl (plN r.2.2.2.2.2.2.2.2.1 (chkR r - 6),chkR r,r.2.2.2.2.2.2.2.2.2)
def RF (S:aa):(Nat×Nat×Nat)⊕DR->(Int×Int×aa×Int)⊕(Bool×Bool×aa×Int×Int×aa×aa×Int×Int×Int×Int×aa×Int)
 | .inl (k,E,p)=>.inl ((k:Int),(E:Int),S,(p:Int))
 | .inr (g,l,dg,x,s,m,d,M,P,e)=>.inr (g,l,dg,(x:Int),(s:Int),m,d,(M.1:Int),(M.2.1:Int),(M.2.2:Int),(P.1:Int),S,(e:Int))
theorem IQ (S:aa) (a:Nat) (h:a<=S.length) (hS:S.length<100000):jl 20000000 S (a:Int)=some (RF S (iq S a)):=by
 have hr:jB 20000000 S (a:Int)=_:=PQ 19999700 S a h hS (by omega)
 unfold jl iq
 rw [hr]
 cases hd:so S a with
 | inl k=>rfl
 | inr r=>
  obtain ⟨g,l,dg,x,s,mm,d,M,P,e⟩:=r
  have hok:=An h hd
  have hM:=hok.all
  have h2:=hok.m2
  have h17:=hok.dg17
  simp only [ob,SZ,d4,d8]
  rw [uY (g:=g) (l:=l) (x:=(x:Int)) (q:=(s:Int)) (d:=d) (show mm.length<=18 by omega) (show dg.length<=100 by omega) (show (0:Int)<=(M.1:Int) by omega) (show (0:Int)<=(M.2.1:Int) by omega) (show (0:Int)<=(M.2.2:Int) by omega)]
  simp only [ob]
  have hcs:=uA (g:=g) (l:=l) (dg:=dg) (x:=(x:Int)) (q:=(s:Int)) (m:=mm) (d:=d) (k0:=(M.1:Int)) (k1:=(M.2.1:Int)) (k2:=(M.2.2:Int)) (xg hM)
  unfold chkR
  simp only []
  rcases hcs with hc | hc | hc | hc<;>rw [hc]<;>rfl
def dayY (y:Int):Int:=365*y+(1+(y - 1) / 4 - (y - 1) / 100+(y - 1) / 400)
def cumM (y:Int):Nat->Int
 | 0=>0
 | k+1=>cumM y k+lenI y ((k+1:Nat):Int)
def dayM (y:Int) (m:Nat):Int:=if m<=12 then dayY y+cumM y (m - 1) else dayY (y+1)+cumM (y+1) (m - 13)
theorem A6 (y:Int):dayY (y+1)=dayY y+365+(if rS y then 1 else 0):=by
 unfold dayY rS
 simp only [az,gX,cb]
 split<;>omega
theorem fS9 (n:Int):dayY (400*n)=146097*n:=by
 unfold dayY
 omega
theorem jU {y:Int} (h:-20000000000000000<=y/\y<=20000000000000000):-8000000000000000000<=dayY y/\dayY y<=8000000000000000000:=by
 unfold dayY
 omega
theorem Vj (y:Int):cumM y 12=365+(if rS y then 1 else 0):=by
 have e:∀k:Nat,cumM y (k+1)=cumM y k+lenI y ((k+1:Nat):Int):=λ_=>rfl
 have z:cumM y 0=0:=rfl
 rw [e 11,e 10,e 9,e 8,e 7,e 6,e 5,e 4,e 3,e 2,e 1,e 0,z]
 unfold lenI
 cases rS y<;>rfl
theorem qi (y:Int):∀k:Nat,0<=cumM y k/\cumM y k<=31*(k:Int)
 | 0=>by simp [cumM]
 | k+1=>by
  have h1:=qi y k
  have h2:=la y ((k+1:Nat):Int)
  show 0<=cumM y k+lenI y ((k+1:Nat):Int)/\cumM y k+lenI y ((k+1:Nat):Int)<=_
  omega
theorem ow {y:Int} (h:dH y) {m:Nat} (h2:m<=24):-8100000000000000000<=dayM y m/\dayM y m<=8100000000000000000:=by
 unfold dH at h
 unfold dayM
 split
 ·have:=qi y (m - 1)
  have:=jU (y:=y) (by omega)
  omega
 ·have:=qi (y+1) (m - 13)
  have:=jU (y:=y+1) (by omega)
  omega
theorem Rb (y:Int):dayM y 13=dayY (y+1):=by
 unfold dayM
 rw [ab (by omega)]
 simp [cumM]
theorem If (y:Int) {m:Nat} (h1:1<=m) (h2:m<=12):dayM y (m+1)=dayM y m+lenI y (m:Int):=by
 obtain ⟨k,rfl⟩:∃k,m=k+1:=⟨m - 1,by omega⟩
 have e:dayM y (k+1)=dayY y+cumM y k:=by unfold dayM;rw [ae (by omega)];rfl
 rw [e]
 by_cases h:k+1=12
 ·obtain rfl:k=11:=by omega
  rw [Rb,A6]
  have:=Vj y
  have e:cumM y 12=cumM y 11+lenI y ((11+1:Nat):Int):=rfl
  omega
 ·have:dayM y (k+1+1)=dayY y+cumM y (k+1):=by unfold dayM;rw [ae (by omega)];rfl
  rw [this]
  show dayY y+(cumM y k+lenI y ((k+1:Nat):Int))=_
  omega
theorem BB (y:Int) {m:Nat} (h1:1<=m) (h2:m<=12):dayM y (m+12)=dayM (y+1) m:=by
 unfold dayM
 rw [ab (by omega),ae h2]
 congr 2
theorem rK (n:Nat) {y:Int} (h:-10000000000000001<=y/\y<=10000000000000001):li n y=some (dayY y):=by
 have hr:=jU (y:=y) (by omega)
 unfold li
 rw [wJ n (by omega),wrap_i64 (365*y) (by omega) (by omega)]
 show some (IntKind.wrap .i64 (dayY y))=_
 rw [wrap_i64 _ (by omega) (by omega)]
theorem rD (n:Nat) {y:Int} (h:dH y):kW n y=some (dayY y,0):=by
 unfold kW
 have h':=h
 unfold dH at h'
 rw [ge,ae h,rK n (by omega)]
 rfl
theorem BY (n:Nat) {y:Int} (h:dH y):tP n y=some (dayY (y+1) - 1,0):=by
 unfold tP
 have h':=h
 unfold dH at h'
 have hr:=jU (y:=y+1) (by omega)
 rw [ge,ae h,wrap_i64 (y+1) (by omega) (by omega),rK n (by omega)]
 show some (IntKind.wrap .i64 (dayY (y+1) - 1),(0:Int))=_
 rw [wrap_i64 _ (by omega) (by omega)]
theorem DO (n:Nat) {y:Int} (h:dH y) {m:Nat} (hm:m<=11):∀(r j:Nat),j+r=m->∀N,r<N->am (bC n) N (y,dayY y+cumM y j,(m:Int),(j:Int))=some (dayY y+cumM y m):=by
 have h':=h
 unfold dH at h'
 have hr:=jU (y:=y) (by omega)
 intro r
 induction r with
 | zero=>
  intro j hj N hN
  obtain ⟨N,rfl⟩:∃k,N=k+1:=⟨N - 1,by omega⟩
  obtain rfl:j=m:=by omega
  have:bC n (y,dayY y+cumM y j,(j:Int),(j:Int))=some (.inr (dayY y+cumM y j)):=by
   unfold bC
   rw [bD,ab (show ¬((j:Int)<(j:Int)) by omega)]
  rw [am,this]
 | succ r ih=>
  intro j hj N hN
  obtain ⟨N,rfl⟩:∃k,N=k+1:=⟨N - 1,by omega⟩
  have w:IntKind.wrap .i64 ((j:Int)+1)=((j+1:Nat):Int):=by rw [wrap_i64 _ (by omega) (by omega)];omega
  have hc:=qi y j
  have hl:=la y ((j+1:Nat):Int)
  have:bC n (y,dayY y+cumM y j,(m:Int),(j:Int))=some (.inl (y,dayY y+cumM y (j+1),(m:Int),((j+1:Nat):Int))):=by
   unfold bC
   rw [bD,ae (show ((j:Int)<(m:Int)) by omega)]
   simp only [w,wH n h (show 1<=j+1 by omega) (show j+1<=12 by omega),ob]
   rw [wrap_i64 (dayY y+cumM y j+lenI y ((j+1:Nat):Int)) (by omega) (by omega),Int.add_assoc]
   rfl
  rw [am,this]
  exact ih (j+1) (by omega) N (by omega)
theorem tu (n:Nat) (hn:100<n) {y:Int} (h:dH y) {m:Nat} (h1:1<=m) (h2:m<=12):fa n y (m:Int)=some (dayM y m,0):=by
 unfold fa
 have w:IntKind.wrap .i64 ((m:Int) - 1)=((m - 1:Nat):Int):=by rw [wrap_i64 _ (by omega) (by omega)];omega
 rw [EU n h h1 h2,rD n h,w]
 have:=DO n h (m:=m - 1) (by omega) (m - 1) 0 (by omega) n (by omega)
 rw [show dayY y+cumM y 0=dayY y by simp [cumM]] at this
 show ob (am (bC n) n (y,dayY y,((m - 1:Nat):Int),((0:Nat):Int))) _=_
 rw [this]
 unfold dayM
 rw [ae h2];rfl
theorem Dy (n:Nat) (hn:100<n) {y:Int} (h:dH y) {m:Nat} (h1:1<=m) (h2:m<=12):gM n y (m:Int)=some (dayM y (m+1) - 1,0):=by
 unfold gM
 have hr:=ow h (m:=m) (by omega)
 have hl:=la y (m:Int)
 rw [tu n hn h h1 h2,wH n h h1 h2,If y h1 h2]
 show some (IntKind.wrap .i64 (IntKind.wrap .i64 (dayM y m+lenI y (m:Int)) - 1),(0:Int))=_
 rw [wrap_i64 (dayM y m+lenI y (m:Int)) (by omega) (by omega),wrap_i64 _ (by omega) (by omega)]
theorem HB (n:Nat) (hn:100<n) {y:Int} (h:dH y) {j m c:Nat} (hj:j<21) (e:nj[j]?=some ((m:Int),(c:Int))) (h1:1<=m) (h2:m<=12) (h3:1<=c) (h4:c<=6) (hy:12<m+c - 1->y≠10000000000000000):
  gZ n y ((21+j:Nat):Int)=some (0,dayM y m,0,dayM y (m+c) - 1,0):=by
 have hM:fc n ((21+j:Nat):Int)=some ((m:Int),(c:Int),0):=by
  unfold fc dr
  rw [bD,bD,ab (by omega),ab (by omega)]
  have:IntKind.wrap .i64 (((21+j:Nat):Int) - 21)=(j:Int):=by rw [wrap_i64 _ (by omega) (by omega)];omega
  rw [this,dp hj]
  show ob (nj[j]?) _=_
  rw [e]
  rfl
 unfold gZ
 rw [hM]
 simp only [ob,eM,af]
 rw [tu n hn h h1 h2]
 simp only [ob,eM,af]
 rw [madd n h h1 h2 h3 h4]
 have h':=h
 unfold dH at h'
 by_cases hb:12<m+c - 1
 ·rw [ae hb,ab (hy hb)]
  have hc1:dH (y+1):=by unfold dH;have:=hy hb;omega
  simp only [ob,eM,af]
  rw [Dy n hn hc1 (m:=m+c - 1 - 12) (by omega) (by omega)]
  have:=BB y (m:=m+c - 1 - 12+1) (by omega) (by omega)
  rw [show m+c - 1 - 12+1+12=m+c by omega] at this
  rw [this]
 ·rw [ab hb]
  simp only [ob,eM,af]
  rw [Dy n hn h (m:=m+c - 1) (by omega) (by omega),show m+c - 1+1=m+c by omega]
theorem yE (n:Nat) {y:Int} (hy:-10000000000000002<=y/\y<=10000000000000002):∀(r:Nat) (z:Int),z+(r:Int)=y->-10000000000000402<=z->∀N,r<N->am (cK n) N (y,dayY z,z)=some (dayY y):=by
 intro r
 induction r with
 | zero=>
  intro z hz hz2 N hN
  obtain ⟨N,rfl⟩:∃k,N=k+1:=⟨N - 1,by omega⟩
  obtain rfl:z=y:=by omega
  have:cK n (z,dayY z,z)=some (.inr (dayY z)):=by
   unfold cK
   rw [bD,ab (show ¬(z<z) by omega)]
  rw [am,this]
 | succ r ih=>
  intro z hz hz2 N hN
  obtain ⟨N,rfl⟩:∃k,N=k+1:=⟨N - 1,by omega⟩
  have hr:=jU (y:=z) (by omega)
  have hst:=A6 z
  have:cK n (y,dayY z,z)=some (.inl (y,dayY (z+1),z+1)):=by
   unfold cK
   rw [bD,ae (show z<y by omega),zA]
   have hl:lenI z 2=if rS z then 29 else 28:=rfl
   simp only [ob,hl]
   rw [wrap_i64 (dayY z+365) (by omega) (by omega),wrap_i64 (dayY z+365+1) (by omega) (by omega),wrap_i64 (z+1) (by omega) (by omega),hst]
   cases rS z
   ·simp
   ·rfl
  rw [am,this]
  exact ih (z+1) (by omega) (by omega) N (by omega)
theorem qU (n:Nat) (hn:1000<n) {y:Int} (hy:-10000000000000002<=y/\y<=10000000000000002):bW n y=some (dayY y):=by
 have hd:=Int.mul_tdiv_add_tmod y 400
 have ht:Int.tmod y 400=if 0<=y then y%400 else -((-y)%400):=by
  by_cases h:0<=y
  ·rw [ae h,KA h]
  ·rw [ab h,<-KA (show 0<=-y by omega),Int.neg_tmod,Int.neg_neg]
 unfold bW
 by_cases hm:Int.tmod y 400<0
 ·rw [ar hm]
  have hq:Int.tdiv y 400 - 1=y / 400:=by
   rw [ht] at hm hd
   split at hm
   ·omega
   ·rw [ab (by assumption)] at hd
    omega
  rw [wrap_i64 (Int.tdiv y 400) (by omega) (by omega),hq,wrap_i64 (y / 400) (by omega) (by omega),wrap_i64 (y / 400*146097) (by omega) (by omega),wrap_i64 (y / 400*400) (by omega) (by omega)]
  have:=yE n hy (y - y / 400*400).toNat (y / 400*400) (by omega) (by omega) n (by omega)
  rw [show dayY (y / 400*400)=y / 400*146097 by rw [yo,fS9,yo]] at this
  simp only [aj,this,ob]
 ·rw [au hm]
  have hq:Int.tdiv y 400=y / 400:=by
   rw [ht] at hm hd
   split at hm
   ·rw [ae (by assumption)] at hd
    omega
   ·rw [ab (by assumption)] at hd
    omega
  rw [hq,wrap_i64 (y / 400) (by omega) (by omega),wrap_i64 (y / 400*146097) (by omega) (by omega),wrap_i64 (y / 400*400) (by omega) (by omega)]
  have:=yE n hy (y - y / 400*400).toNat (y / 400*400) (by omega) (by omega) n (by omega)
  rw [show dayY (y / 400*400)=y / 400*146097 by rw [yo,fS9,yo]] at this
  simp only [af,this,ob]
theorem xa {step:Int×Int×Int×Int->Option ((Int×Int×Int×Int)⊕Int)} (n:Nat)
  (hs:step=λx=>(cond (decide (x.2.2.2<x.2.1)) (ob (dV n x.1 x.2.2.2) λr=>(some (.inl (x.1,x.2.1,(IntKind.wrap .i64 (x.2.2.1+r)),(IntKind.wrap .i64 (x.2.2.2+1)))))) (some (.inr x.2.2.1))))
  {y:Int} (hy:-10000000000000002<=y/\y<=10000000000000002) {m:Nat} (h1:1<=m) (h2:m<=12) {N:Nat} (hN:20<N):am step N (y,(m:Int),dayY y,1)=some (dayM y m):=by
 have hr:=jU (y:=y) (by omega)
 have go:∀(r j:Nat),j+1+r=m->∀N,r<N->am step N (y,(m:Int),dayY y+cumM y j,((j+1:Nat):Int))=some (dayY y+cumM y (m - 1)):=by
  intro r
  induction r with
  | zero=>
   intro j hj N hN
   obtain ⟨N,rfl⟩:∃k,N=k+1:=⟨N - 1,by omega⟩
   obtain rfl:j+1=m:=by omega
   have:step (y,((j+1:Nat):Int),dayY y+cumM y j,((j+1:Nat):Int))=some (.inr (dayY y+cumM y j)):=by
    rw [hs]
    simp only []
    rw [au (show ¬(((j+1:Nat):Int)<((j+1:Nat):Int)) by omega)]
    rfl
   rw [am,this]
   rfl
  | succ r ih=>
   intro j hj N hN
   obtain ⟨N,rfl⟩:∃k,N=k+1:=⟨N - 1,by omega⟩
   have w:IntKind.wrap .i64 (((j+1:Nat):Int)+1)=((j+1+1:Nat):Int):=by rw [wrap_i64 _ (by omega) (by omega)];omega
   have hc:=qi y j
   have hl:=la y ((j+1:Nat):Int)
   have:step (y,(m:Int),dayY y+cumM y j,((j+1:Nat):Int))=some (.inl (y,(m:Int),dayY y+cumM y (j+1),((j+1+1:Nat):Int))):=by
    rw [hs]
    simp only []
    rw [ar (show (((j+1:Nat):Int)<(m:Int)) by omega),zA]
    simp only [aj,ob,w]
    rw [wrap_i64 (dayY y+cumM y j+lenI y ((j+1:Nat):Int)) (by omega) (by omega),Int.add_assoc]
    rfl
   rw [am,this]
   exact ih (j+1) (by omega) N (by omega)
 have:=go (m - 1) 0 (by omega) N (by omega)
 rw [show dayY y+cumM y 0=dayY y by simp [cumM]] at this
 have e:dayM y m=dayY y+cumM y (m - 1):=by unfold dayM;rw [ae h2]
 rw [e]
 exact this
theorem qu (n:Nat) (hn:1000<n) {y:Int} (hy:-10000000000000001<=y/\y<=10000000000000001) {m:Nat} (h1:1<=m) (h2:m<=24):aR n y (m:Int)=some (dayM y m):=by
 unfold aR
 by_cases h:12<m
 ·rw [ar (show (m:Int)>12 by omega),wrap_i64 (y+1) (by omega) (by omega),wrap_i64 ((m:Int) - 12) (by omega) (by omega),show (m:Int) - 12=((m - 12:Nat):Int) by omega]
  unfold jS
  rw [au (show ¬((m - 12:Nat):Int)>12 by omega),qU n hn (by omega)]
  simp only [aj,af,ob]
  have:=xa (step:=iI n) n rfl (y:=y+1) (by omega) (m:=m - 12) (by omega) (by omega) (N:=n) (by omega)
  rw [this,<-BB y (by omega) (by omega),show m - 12+12=m by omega]
 ·rw [au (show ¬(m:Int)>12 by omega),qU n hn (by omega)]
  simp only [af,ob]
  have:=xa (step:=jO n) n rfl (y:=y) (by omega) (m:=m) (by omega) (by omega) (N:=n) (by omega)
  rw [this]
def twoV (s:aa):Nat:=match s with
 | [a,b]=>10*(a.toNat - 48)+(b.toNat - 48)
 | _=>0
def yOf (g:Bool) (dg:aa) (x:Int):Int:=if g then -((val dg x.toNat:Nat):Int) else ((val dg x.toNat:Nat):Int)
def spF (m:aa):Nat:=((nj.getD (sea m - 21).toNat (0,0)).1).toNat
def spC (m:aa):Nat:=((nj.getD (sea m - 21).toNat (0,0)).2).toNat
def pD (g:Bool) (dg:aa) (x:Int) (m d:aa):Int×Int:=
 if m=[] then (dayY (yOf g dg x),dayY (yOf g dg x+1) - 1)
 else if 0<sea m then (dayM (yOf g dg x) (spF m),dayM (yOf g dg x) (spF m+spC m) - 1)
 else if d=[] then (dayM (yOf g dg x) (twoV m),dayM (yOf g dg x) (twoV m+1) - 1)
 else (dayM (yOf g dg x) (twoV m)+(twoV d:Int) - 1,dayM (yOf g dg x) (twoV m)+(twoV d:Int) - 1)
def exD (dg m d:aa) (q:Int):Bool:=!(hasX dg||(hasX m||hasX d))&&(q==0)
theorem Oa {s:aa} (h:hasX s=false) {c:UInt8} (hc:c∈s):c≠88:=by
 rintro rfl
 unfold hasX at h
 rw [sK] at h
 exact h 88 hc (by decide)
theorem KE {s:aa} (h:hasX s=false) {k:Nat} (hk:k<100) (ha:agr s k=true):twoV s=k/\s=two k:=by
 unfold agr at ha
 split at ha
 ·rename_i a b
  have ha1:a≠88:=Oa h (by simp)
  have hb1:b≠88:=Oa h (by simp)
  simp only [az,gX,bB] at ha
  obtain ⟨h1,h2⟩:=ha
  have h1:=h1.resolve_left ha1
  have h2:=h2.resolve_left hb1
  subst h1 h2
  refine ⟨?_,rfl⟩
  unfold twoV
  have n1:(UInt8.ofNat (48+k / 10)).toNat=48+k / 10:=by simp;omega
  have n2:(UInt8.ofNat (48+k%10)).toNat=48+k%10:=by simp;omega
  simp only [n1,n2]
  omega
 ·cases ha
theorem yB {s:aa} (h:hasX s=false) {g:Nat} (hg:g<100) (ha:gW s g=true):1<=twoV s/\twoV s<=g/\s=two (twoV s):=by
 unfold gW at ha
 obtain ⟨i,hi,ha⟩:=tg.1 ha
 have:=kq.1 hi
 obtain ⟨e1,e2⟩:=KE h (by omega) ha
 rw [e1]
 exact ⟨by omega,by omega,e2⟩
theorem H3 {s:aa} (h:hasX s=false) {g:Nat} (hg:g<100) {k:Int} (hk:k∈sS (fitN s g)):k=(twoV s:Int):=by
 obtain ⟨i,hi,rfl⟩:=eJ.1 hk
 obtain ⟨h1,h2⟩:=mY.1 hi
 have:=zo.1 h1
 rw [(KE h (by omega) h2).1]
theorem FL {k:Nat} (hk:k<100):Lib.atoi (two k)=some (k:Int):=by
 have n1:(UInt8.ofNat (48+k / 10)).toNat=48+k / 10:=by simp;omega
 have n2:(UInt8.ofNat (48+k%10)).toNat=48+k%10:=by simp;omega
 unfold two
 rw [Gf (by omega) (by omega),n1,n2]
 congr 2
 omega
theorem yM (n:Nat) {k:Nat} (hk:k<100):aY n (two k)=some (k:Int):=by
 have n1:(UInt8.ofNat (48+k / 10)).toNat=48+k / 10:=by simp;omega
 have n2:(UInt8.ofNat (48+k%10)).toNat=48+k%10:=by simp;omega
 have s0:sx (two k) 0=some (UInt8.ofNat (48+k / 10)):=rfl
 have s1:sx (two k) 1=some (UInt8.ofNat (48+k%10)):=rfl
 unfold aY
 rw [s0,s1]
 simp only [ob,n1,n2]
 rw [jR (((48+k / 10:Nat):Int) - 48) (by omega) (by omega),jR (((48+k%10:Nat):Int) - 48) (by omega) (by omega),
  wrap_i64 (((48+k / 10:Nat):Int) - 48) (by omega) (by omega),wrap_i64 (((48+k%10:Nat):Int) - 48) (by omega) (by omega),
  wrap_i64 (10*(((48+k / 10:Nat):Int) - 48)) (by omega) (by omega),wrap_i64 _ (by omega) (by omega)]
 congr 1
 omega
structure Exact (g l:Bool) (dg:aa) (x:Int) (m d:aa):Prop where
 ok:okY g l dg x 0
 num:hasX dg=false
 cal:dH (yOf g dg x)
 mon:m=[]\/(∃j,j<21/\m=two (21+j)/\(j=3\/j=7\/j=9->yOf g dg x≠10000000000000000))\/(sea m=0/\1<=twoV m/\twoV m<=12/\m=two (twoV m))
 day:d=[]\/(m≠[]/\sea m=0/\1<=twoV d/\twoV d<=31/\d=two (twoV d)/\(twoV d:Int)<=lenI (yOf g dg x) (twoV m:Int))
theorem ve {g l:Bool} {dg:aa} {x q:Int} {m d:aa} {k0 k1 k2:Int} (hc:chkF g l dg x q m d k0 k1 k2=0) (he:exD dg m d q=true):q=0/\Exact g l dg x m d:=by
 unfold exD at he
 simp only [az,kl,rE,bB] at he
 obtain ⟨⟨hX,hXm,hXd⟩,rfl⟩:=he
 refine ⟨rfl,?_⟩
 have hD:=qk hc
 obtain ⟨hok,hm2,hd2,hq,hdm⟩:=th hD
 obtain ⟨c1,c2,c3,c4⟩:=Kq hD
 have hin:=Di hok hX
 obtain ⟨s1,_,_⟩:=IV hok
 have hy:inP g dg x 0 (yOf g dg x):=by
  have:=(hin _).1 s1
  have e:yOf g dg x=(sgn g (o8 g dg x 0)).1:=by rw [this];rfl
  rw [e]
  exact s1
 have hcal:=AL hy
 refine ⟨hok,hX,hcal,?_,?_⟩
 ·by_cases hm:m=[]
  ·exact .inl hm
  ·right
   rcases ou m with h0 | ⟨j,hj,e⟩
   ·right
    rcases c2 with h | h | h
    ·exact absurd h hm
    ·omega
    ·obtain ⟨a1,a2,a3⟩:=yB hXm (by omega) h
     exact ⟨h0,a1,a2,a3⟩
   ·left
    refine ⟨j,hj,e,λhw=>?_⟩
    unfold yrD at c1
    rw [ae hok] at c1
    unfold yrB at c1
    simp only [az,kl] at c1
    have hwt:wint (sea m)=true:=by
     rw [e,kV hj]
     rcases hw with rfl | rfl | rfl<;>rfl
    have hl:=c1.2
    rw [hwt,mU] at hl
    unfold ui at hl
    rw [hX] at hl
    intro hyE
    unfold yOf at hyE
    cases g with
    | true=>
     simp only [aQ] at hyE
     omega
    | false=>
     simp only [bP,aE] at hyE
     have:val dg x.toNat=E16:=by unfold E16;omega
     rw [ar this] at hl
     cases hl
 ·by_cases hd:d=[]
  ·exact .inl hd
  ·right
   obtain ⟨hm,hs⟩:=hdm hd
   rcases c3 with h | ⟨_,_,h⟩
   ·exact absurd h hd
   ·obtain ⟨a1,a2,a3⟩:=yB hXd (by omega) h
    refine ⟨hm,hs,a1,a2,a3,?_⟩
    have hF:hasF g dg x m d:=by
     unfold chkF at hc
     split at hc
     ·cases hc
     ·rename_i hn
      by_cases h:hasF g dg x m d
      ·exact h
      ·exact absurd ⟨hD,hd,h⟩ hn
    obtain ⟨e,he,hne⟩:=hF
    obtain ⟨z,L,hz⟩:=List.exists_cons_of_ne_nil hne
    have hz:z∈xB m d e:=by rw [hz];exact nV
    obtain ⟨z1,z2,z3,z4⟩:=NE.1 hz
    have hey:e=yOf g dg x:=(hin e).1 he
    unfold monI at z2
    rw [ab hm,ab (by omega)] at z2
    unfold dayI at z3
    rw [ab hd] at z3
    unfold xp at z4
    rw [ab hd,H3 hXd (by omega) z3,H3 hXm (by omega) z2,hey] at z4
    exact z4
theorem I9 {j:Nat} (hj:j<21):∃f c:Nat,nj[j]?=some ((f:Int),(c:Int))/\1<=f/\f<=12/\1<=c/\c<=6/\(12<f+c - 1↔j=3\/j=7\/j=9)/\spF (two (21+j))=f/\spC (two (21+j))=c:=by
 obtain ⟨f,c,e,h1,h2,h3,h4,h5⟩:=EI hj
 have hs:(sea (two (21+j)) - 21).toNat=j:=by rw [kV hj];omega
 have hg:nj.getD j (0,0)=((f:Int),(c:Int)):=by rw [CQ,e];rfl
 refine ⟨f,c,e,h1,h2,h3,h4,h5,?_,?_⟩
 ·unfold spF;rw [hs,hg];rfl
 ·unfold spC;rw [hs,hg];rfl
theorem Bj (n:Nat) {j:Nat} (hj:j<21):gS n ((21+j:Nat):Int)=nj[j]?:=by
 have:j=0\/j=1\/j=2\/j=3\/j=4\/j=5\/j=6\/j=7\/j=8\/j=9\/j=10\/j=11\/j=12\/j=13\/j=14\/j=15\/j=16\/j=17\/j=18\/j=19\/j=20:=by omega
 rcases this with rfl | rfl | rfl | rfl | rfl | rfl | rfl | rfl | rfl | rfl | rfl | rfl | rfl | rfl | rfl | rfl | rfl | rfl | rfl | rfl | rfl<;>rfl
theorem GH (n:Nat) (g l:Bool) (dg:aa) (x q:Int) (m d:aa) (k0 k1 k2:Int) (hm:m.length<=1000) (hd:dg.length<=1000) (h:d.length<=1000):lB n g l dg x q m d k0 k1 k2=some (exD dg m d q):=by
 unfold lB exD
 rw [CZ n g l dg x q m d k0 k1 k2 hm hd h]
 simp only [ob]
 cases (hasX dg||(hasX m||hasX d))<;>rfl
theorem Oy {Y:Type} (a b:Y):∀s:aa,((s.findSome? λc=>if c=88 then some a else none).getD b)=if hasX s then a else b
 | []=>rfl
 | c::s=>by
  have ih:=Oy a b s
  unfold hasX at ih ⊢
  rw [AZ,Jp]
  by_cases hc:c=88
  ·subst hc;rfl
  ·rw [ab hc]
   have e:(c==88)=false:=aN.2 hc
   rw [e,xH]
   exact ih
theorem xM (n:Nat) (s:aa) (g l:Bool) (dg:aa) (x q:Int) (m d:aa) (k0 k1 k2:Int) (hs:s.length<=100000) {N:Nat} (hN:s.length<N):
  am (dM n) N (s,0,g,l,dg,x,q,m,d,k0,k1,k2)=some (if hasX s then .inl 0 else .inr (g,l,dg,x,q,m,d,k0,k1,k2)):=by
 have:=tO (step:=dM n) (f:=λi=>(s,(i:Int),g,l,dg,x,q,m,d,k0,k1,k2)) (L:=s) (G:=λc=>if c=88 then some (.inl 0) else none) (e:=.inr (g,l,dg,x,q,m,d,k0,k1,k2))
  (λi c hi=>by
   have hil:=(od.1 hi).1
   have w1:IntKind.wrap .i64 ((i:Int)+1)=((i+1:Nat):Int):=by rw [wrap_i64 _ (by omega) (by omega)];omega
   unfold dM
   simp only [d4,d8,w1]
   rw [ar (show (i:Int)<((s.length:Nat):Int) by omega),eF hi]
   simp only [aj,ob]
   by_cases hc:c=88
   ·subst hc
    rw [ae rfl];rfl
   ·rw [ab hc]
    have:(((c.toNat:Nat):Int)==88)=false:=by
     rw [aN]
     intro h
     apply hc
     apply gH.1
     have:c.toNat=88:=by omega
     rw [this];rfl
    rw [this];rfl)
  (by
   unfold dM
   simp only [d4,d8]
   rw [au (show ¬((s.length:Nat):Int)<((s.length:Nat):Int) by omega)];rfl)
  hN
 rw [show ((0:Nat):Int)=0 from rfl] at this
 rw [this]
 rw [Oy]
theorem BZ (n:Nat) (g l:Bool) (dg:aa) (x q:Int) (m d:aa) (k0 k1 k2:Int) (hm:m.length<=1000) (hd:dg.length<=1000) (h:d.length<=1000) (hn:4000<n):be n g l dg x q m d k0 k1 k2=some (if exD dg m d q then 1 else 0):=by
 unfold be
 rw [bZ (by omega)]
 simp only [ob]
 rw [bZ (by rw [aM];omega)]
 simp only []
 rw [xM n _ _ _ _ _ _ _ _ _ _ _ (by simp only [aM];omega) (by simp only [aM];omega)]
 rw [vg,vg]
 unfold exD
 cases hasX dg<;>cases hasX m<;>cases hasX d<;>(try rfl)
 simp only [HT,bP,aE,ob,d4,jq,mU]
 by_cases hq:q=0
 ·subst hq;rfl
 ·have e1:(q != 0)=true:=by simp [hq]
  have e2:(q==0)=false:=aN.2 hq
  rw [e1,e2];rfl
theorem Qq (n:Nat) (hn:100<n) {y:Int} (h:dH y) {m k:Nat} (h1:1<=m) (h2:m<=12) (k1:1<=k) (k2:(k:Int)<=lenI y (m:Int)):qP n y (m:Int) (k:Int)=some (dayM y m+(k:Int) - 1,0):=by
 have hr:=ow h (m:=m) (by omega)
 have hl:=la y (m:Int)
 unfold qP ql
 rw [HQ n h h1 h2]
 simp only [ob,eM,af]
 rw [au (show ¬(k:Int)<1 by omega),au (show ¬(k:Int)>lenI y (m:Int) by omega),tu n hn h h1 h2]
 simp only [ob,eM,af]
 rw [wrap_i64 (dayM y m+(k:Int)) (by omega) (by omega),wrap_i64 _ (by omega) (by omega)]
section
variable {g l:Bool} {dg:List UInt8} {x:Int} {m d:List UInt8} {k0 k1 k2:Int}
theorem D8 (n:Nat) (hn:100<n) (hml:m.length<=18) (E:Exact g l dg x m d) (v1 v2:Int) (h1:m≠[]->v1=if 0<sea m then sea m else (twoV m:Int)) (h2:d≠[]->v2=(twoV d:Int)):
  (ob (jb n) λy4625=>(ob (bf n g l dg x 0 m d k0 k1 k2) λr4626=>(cond (r4626==0) (ob (gg n (yOf g dg x) ([v1,v2]:List (Int))) λy4633=>(some (y4633.1,y4633.2.1,y4633.2.2.1,y4633.2.2.2,(0:Int)))) (cond (r4626==1) (ob (fZ n (yOf g dg x) ([v1,v2]:List (Int))) λy4644=>(some (y4644.1,y4644.2.1,y4644.2.2.1,y4644.2.2.2,0))) (cond (r4626==2) (ob (gm n (yOf g dg x) ([v1,v2]:List (Int))) λy4659=>(some (y4659.1,y4659.2.1,y4659.2.2.1,y4659.2.2.2,0))) (cond (r4626==3) (ob (gv n (yOf g dg x) ([v1,v2]:List (Int))) λy4675=>(some (y4675.1,y4675.2.1,y4675.2.2.1,y4675.2.2.2,0))) none)))))) =
   some (0,(pD g dg x m d).1,0,(pD g dg x m d).2,0):=by
 have hu:jb n=some ():=rfl
 have i0:ix ([v1,v2]:List Int).length 0=some 0:=rfl
 have i1:ix ([v1,v2]:List Int).length 1=some 1:=rfl
 have g0:([v1,v2]:List Int)[0]?=some v1:=rfl
 have g1:([v1,v2]:List Int)[1]?=some v2:=rfl
 rw [hu,JI n g l dg x 0 m d k0 k1 k2 hml]
 unfold pD
 by_cases hd:d=[]
 ·rw [ae hd]
  by_cases hm:m=[]
  ·have hs:sea m=0:=by rw [hm];decide
   rw [ab (show ¬0<sea m by omega),ae hm,ae hm]
   unfold fZ
   rw [rD n E.cal,BY n E.cal]
   rfl
  ·rw [ab hm]
   by_cases hs:0<sea m
   ·rw [ae hs,ae hs]
    rcases E.mon with h | ⟨j,hj,e,hw⟩ | ⟨h,_⟩
    ·exact absurd h hm
    ·obtain ⟨f,c,e1,a1,a2,a3,a4,a5,a6,a7⟩:=I9 hj
     have hv:v1=((21+j:Nat):Int):=by rw [h1 hm,ae hs,e,kV hj]
     unfold gg
     rw [i0]
     simp only [ob,g0]
     rw [hv,HB n hn E.cal hj e1 a1 a2 a3 a4 (λh=>hw (a5.1 h)),e,a6,a7]
     rfl
    ·omega
   ·rw [ab hs,ab hs,ab hm,ae hd]
    rcases E.mon with h | ⟨j,hj,e,hw⟩ | ⟨_,a1,a2,_⟩
    ·exact absurd h hm
    ·rw [e,kV hj] at hs;omega
    ·have hv:v1=(twoV m:Int):=by rw [h1 hm,ab hs]
     unfold gm
     rw [i0]
     simp only [ob,g0]
     rw [hv,tu n hn E.cal a1 a2,Dy n hn E.cal a1 a2]
     rfl
 ·rw [ab hd]
  rcases E.day with h | ⟨hm,hs,b1,b2,b3,b4⟩
  ·exact absurd h hd
  ·rw [ab hm,ab (show ¬0<sea m by omega),ab hd]
   rcases E.mon with h | ⟨j,hj,e,hw⟩ | ⟨_,a1,a2,_⟩
   ·exact absurd h hm
   ·rw [e,kV hj] at hs;omega
   ·have hv1:v1=(twoV m:Int):=by rw [h1 hm,ab (by omega)]
    have hv2:=h2 hd
    unfold gv
    rw [i0,i1]
    simp only [ob,g0,g1]
    rw [hv1,hv2,Qq n hn E.cal a1 a2 b1 b4]
    rfl
theorem N2 (E:Exact g l dg x m d) (hm:m≠[]):Lib.atoi m=some (if 0<sea m then sea m else (twoV m:Int)):=by
 rcases E.mon with h | ⟨j,hj,e,_⟩ | ⟨h0,a1,a2,a3⟩
 ·exact absurd h hm
 ·rw [e,kV hj,ae (by omega)]
  exact xo hj
 ·rw [ab (by omega)]
  have:=FL (k:=twoV m) (by omega)
  rw [<-a3] at this
  exact this
theorem MK (E:Exact g l dg x m d) (hd:d≠[]):Lib.atoi d=some (twoV d:Int):=by
 rcases E.day with h | ⟨_,_,a1,a2,a3,_⟩
 ·exact absurd h hd
 ·have:=FL (k:=twoV d) (by omega)
  rw [<-a3] at this
  exact this
theorem yY:Lib.atoi []=none:=by kernel_rfl
theorem Dl {q:Int} (hml:m.length<=18) (hdl:dg.length<=100) (hd:d.length<=18) (h0:0<=k0) (h1:0<=k1) (h2:0<=k2):
  fY 20000000 g l dg x q m d k0 k1 k2=some (if chkF g l dg x q m d k0 k1 k2=0 then (if exD dg m d q=true then (0,(pD g dg x m d).1,0,(pD g dg x m d).2,0) else (0,0,0,0,1)) else (0,0,0,0,chkF g l dg x q m d k0 k1 k2)):=by
 have lm:Nat.ble m.length 18=true:=dG hml
 have ld:Nat.ble d.length 18=true:=dG hd
 unfold fY
 rw [uY hml hdl h0 h1 h2]
 simp only [ob]
 by_cases hc:chkF g l dg x q m d k0 k1 k2=0
 ·rw [ae hc,hc,GH 20000000 g l dg x q m d k0 k1 k2 (by omega) (by omega) (by omega)]
  simp only [ob,eM,af]
  by_cases he:exD dg m d q=true
  ·rw [ae he,he]
   obtain ⟨rfl,E⟩:=ve hc he
   have hv:ei 20000000 g l dg x 0=some (yOf g dg x,0):=by
    rw [Aj 20000000 g l dg x 0 (by omega) hdl,ae ⟨E.ok,E.num⟩]
    rfl
   rw [hv,lm,ld]
   simp only [dn,af,aj,ob]
   by_cases hm:m=[]
   ·have hd0:d=[]:=by
     rcases E.day with h | ⟨h,_⟩
     ·exact h
     ·exact absurd hm h
    have:=D8 (k0:=k0) (k1:=k1) (k2:=k2) 20000000 (by omega) hml E 0 0 (λh=>absurd hm h) (λh=>absurd hd0 h)
    have ea:Lib.atoi m=none:=by rw [hm];exact yY
    have eb:Lib.atoi d=none:=by rw [hd0];exact yY
    rw [ea,eb]
    simp only [opt]
    exact this
   ·have ea:=N2 E hm
    by_cases hd0:d=[]
    ·have:=D8 (k0:=k0) (k1:=k1) (k2:=k2) 20000000 (by omega) hml E (if 0<sea m then sea m else (twoV m:Int)) 0 (λ_=>rfl) (λh=>absurd hd0 h)
     have eb:Lib.atoi d=none:=by rw [hd0];exact yY
     rw [ea,eb]
     simp only [opt]
     exact this
    ·have:=D8 (k0:=k0) (k1:=k1) (k2:=k2) 20000000 (by omega) hml E (if 0<sea m then sea m else (twoV m:Int)) (twoV d:Int) (λ_=>rfl) (λ_=>rfl)
     rw [ea,MK E hd0]
     simp only [opt]
     exact this
  ·rw [ab he]
   rw [FQ] at he
   rw [he];rfl
 ·rw [ab hc,bne0 hc];rfl
theorem uf (E:Exact g l dg x m d) (hdl:dg.length<=100):bm 20000000 g l dg x 0 m d k0 k1 k2=some (pD g dg x m d):=by
 obtain ⟨k,q,rfl,hq,hN⟩:=tL E.ok E.num
 have hk:k<=17:=by have:=hN.wide;omega
 have hs:=hN.small
 have hmag:ak 20000000 dg (k:Int)=some (((val dg k:Nat):Int),1):=by
  rw [jg 20000000 dg k hN.dig hdl (by omega) (by omega),ae hN.small]
  rfl
 have hv:dval 0 dg*10 ^ k=val dg k:=rfl
 rw [hv] at hs
 unfold E16 at hs
 have hy:yOf g dg (k:Int)=if g then -((val dg k:Nat):Int) else ((val dg k:Nat):Int):=by unfold yOf;rw [bV]
 have hcal:=E.cal
 unfold dH at hcal
 have key:∀y:Int,y=yOf g dg (k:Int)->
   (ob (aT 20000000 g l dg (k:Int) 0 m d k0 k1 k2) λr5010=>(cond (m==([]:aa)) (ob (bW 20000000 y) λr5011=>(ob (bW 20000000 (IntKind.wrap .i64 (y+1))) λr5012=>(some (r5011,(IntKind.wrap .i64 (r5012 - 1)))))) (cond (decide (r5010>0)) (ob (gS 20000000 r5010) λr5013=>(ob (aR 20000000 y r5013.1) λr5014=>(ob (aR 20000000 y (IntKind.wrap .i64 (r5013.1+r5013.2))) λr5015=>(some (r5014,(IntKind.wrap .i64 (r5015 - 1))))))) (cond (d==([]:aa)) (ob (aY 20000000 m) λr5016=>(ob (aR 20000000 y r5016) λr5017=>(ob (aY 20000000 m) λr5018=>(ob (aR 20000000 y (IntKind.wrap .i64 (r5018+1))) λr5019=>(some (r5017,(IntKind.wrap .i64 (r5019 - 1)))))))) (ob (aY 20000000 m) λr5020=>(ob (aR 20000000 y r5020) λr5021=>(ob (aY 20000000 d) λr5022=>(some ((IntKind.wrap .i64 ((IntKind.wrap .i64 (r5021+r5022)) - 1)),(IntKind.wrap .i64 ((IntKind.wrap .i64 (r5021+r5022)) - 1)))))))))) )=some (pD g dg (k:Int) m d):=by
  intro y hyy
  subst hyy
  have hcal':=E.cal
  have rY:=jU (y:=yOf g dg (k:Int)+1) (by omega)
  rw [oa 20000000 (by omega)]
  simp only [ob]
  unfold pD
  by_cases hm:m=[]
  ·have e:(m==([]:aa))=true:=by rw [hm];rfl
   rw [ae hm,e,qU 20000000 (by omega) (by omega),wrap_i64 (yOf g dg (k:Int)+1) (by omega) (by omega),qU 20000000 (by omega) (by omega)]
   simp only [aj,ob]
   rw [wrap_i64 _ (by omega) (by omega)]
  ·rw [ab hm,fK hm]
   simp only [af]
   by_cases hs:0<sea m
   ·rw [ae hs,ar (show sea m>0 from hs)]
    rcases E.mon with h | ⟨j,hj,e,_⟩ | ⟨h,_⟩
    ·exact absurd h hm
    ·obtain ⟨f,c,e1,a1,a2,a3,a4,a5,a6,a7⟩:=I9 hj
     have hsm:sea m=((21+j:Nat):Int):=by rw [e,kV hj]
     have rM:=ow hcal' (m:=f+c) (by omega)
     rw [hsm,Bj 20000000 hj,e1]
     simp only [aj,ob]
     rw [qu 20000000 (by omega) (by omega) a1 (by omega)]
     simp only [ob]
     rw [wrap_i64 ((f:Int)+(c:Int)) (by omega) (by omega),show (f:Int)+(c:Int)=((f+c:Nat):Int) by omega,qu 20000000 (by omega) (by omega) (by omega) (by omega)]
     simp only [ob]
     rw [wrap_i64 _ (by omega) (by omega),e,a6,a7]
    ·omega
   ·rw [ab hs,au (show ¬sea m>0 from hs)]
    simp only [af]
    rcases E.mon with h | ⟨j,hj,e,_⟩ | ⟨_,a1,a2,a3⟩
    ·exact absurd h hm
    ·rw [e,kV hj] at hs;omega
    ·have hn:=yM 20000000 (k:=twoV m) (by omega)
     rw [<-a3] at hn
     have rM:=ow hcal' (m:=twoV m) (by omega)
     have rM2:=ow hcal' (m:=twoV m+1) (by omega)
     by_cases hd:d=[]
     ·have e:(d==([]:aa))=true:=by rw [hd];rfl
      rw [ae hd,e,hn]
      simp only [aj,ob]
      rw [qu 20000000 (by omega) (by omega) a1 (by omega)]
      simp only [ob]
      rw [wrap_i64 ((twoV m:Int)+1) (by omega) (by omega),show (twoV m:Int)+1=((twoV m+1:Nat):Int) by omega,qu 20000000 (by omega) (by omega) (by omega) (by omega)]
      simp only [ob]
      rw [wrap_i64 _ (by omega) (by omega)]
     ·rw [ab hd,fK hd]
      rcases E.day with h | ⟨_,_,b1,b2,b3,b4⟩
      ·exact absurd h hd
      ·have hn2:=yM 20000000 (k:=twoV d) (by omega)
       rw [<-b3] at hn2
       rw [hn]
       simp only [af,ob]
       rw [qu 20000000 (by omega) (by omega) a1 (by omega),hn2]
       simp only [ob]
       rw [wrap_i64 (dayM (yOf g dg (k:Int)) (twoV m)+(twoV d:Int)) (by omega) (by omega),wrap_i64 _ (by omega) (by omega)]
 unfold bm
 rw [hmag]
 simp only [ob]
 cases g with
 | true=>
  have w:IntKind.wrap .i64 (0 - ((val dg k:Nat):Int))=yOf true dg (k:Int):=by
   rw [wrap_i64 _ (by omega) (by omega),hy]
   simp
  rw [w]
  simp only [aj]
  exact key _ rfl
 | false=>
  have w:((val dg k:Nat):Int)=yOf false dg (k:Int):=by rw [hy];rfl
  rw [w]
  simp only [af]
  exact key _ rfl
end
end Go.Sh
