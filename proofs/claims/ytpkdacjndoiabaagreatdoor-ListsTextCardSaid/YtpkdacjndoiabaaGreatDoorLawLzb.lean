/- Plain proofs, kept as far as they are needed here (printed by prune.py).
   Conditions: none. -/
import Derived.Test.YtpkdacjndoiabaaGreatDoorLawLza
set_option linter.unusedVariables false
set_option linter.unusedSimpArgs false
set_option maxRecDepth 100000
namespace Go.Sh
open Go.Abs
def cw (A B:Nat) (w:aa):aa:=mt A++w++mt B
def rf (g l:Bool) (dg:aa) (x q:Int) (m d:aa) (k0 k1 k2:Nat):aa:=
 cw (plA (bi m d) k0 k1 k2).1 (plB (bi m d) k0 k1 k2).1 (iG g l dg x q)
  ++ ((if m=[] then [] else 45::cw (plA (bi m d) k0 k1 k2).2.1 (plB (bi m d) k0 k1 k2).2.1 m)
  ++ (if d=[] then [] else 45::cw (plA (bi m d) k0 k1 k2).2.2 (plB (bi m d) k0 k1 k2).2.2 d))
structure OkD (g l:Bool) (dg:aa) (x q:Nat) (m d:aa) (k0 k1 k2:Nat):Prop where
 yr:okY g l dg (x:Int) (q:Int)
 x16:x<=16
 q17:q<=17
 dg17:dg.length<=17
 noM:0<q->m=[]
 mon:m=[]\/(m.length=2/\∀c∈m,isDX c=true)
 day:d=[]\/(m≠[]/\d.length=2/\∀c∈d,isDX c=true)
 m0:k0<4
 m1:k1<4
 m2:k2<4
 z1:bi m d<2->k1=0
 z2:bi m d<3->k2=0
theorem A3 {g l:Bool} {dg:aa} {x q:Int} {m d:aa} {k0 k1 k2:Int} (p0:0<=k0) (p1:0<=k1) (p2:0<=k2) (h:chkD g l dg x q m d k0 k1 k2=0):
  ∃x' q' a b c:Nat,x=(x':Int)/\q=(q':Int)/\k0=(a:Int)/\k1=(b:Int)/\k2=(c:Int)/\OkD g l dg x' q' m d a b c:=by
 obtain ⟨hy,hm,hd,hk⟩:=At h
 unfold yrD at hy
 by_cases hok:okY g l dg x q
 rotate_left
 ·rw [ab hok] at hy;cases hy
 rw [ae hok] at hy
 obtain ⟨s1,s2,s3,s4,s5,s6⟩:=ir hok
 have hk':¬(3<k0\/3<k1\/3<k2\/(bi m d<2/\k1≠0)\/(bi m d<3/\k2≠0)):=by
  intro z
  unfold allM at hk
  rw [ae z] at hk
  exact absurd hk (by decide)
 refine ⟨x.toNat,q.toNat,k0.toNat,k1.toNat,k2.toNat,by omega,by omega,by omega,by omega,by omega,?_⟩
 rw [<-ER s1,<-ER s3] at hok
 refine ⟨hok,by omega,by omega,s6,?_,?_,?_,by omega,by omega,by omega,by omega,by omega⟩
 ·intro hq
  unfold yrB at hy
  have hq':decide (0<q)=true:=by simp;omega
  rw [hq'] at hy
  by_cases hm0:m=[]
  ·exact hm0
  ·have:(m==[])=false:=aM.2 hm0
   rw [this] at hy
   simp at hy
 ·rcases hm with hm | hm | hm
  ·exact .inl hm
  ·exact .inr (B7 hm)
  ·exact .inr (mF (by omega) hm)
 ·rcases hd with hd | ⟨hd,_,h31⟩
  ·exact .inl hd
  ·have:=mF (show 31<=31 by omega) h31
   exact .inr ⟨hd,this.1,this.2⟩
theorem Ks (n k i:Nat) (hi:i<k) (hk:k<=3) (A B:List Nat) (a b:Nat) (ha:A[i]?=some a) (hb:B[i]?=some b) (a4:a<4) (b4:b<4) (ws:List (aa)) (hl:ws.length=k) (w:aa) (w0 w1 w2:aa) (hw:[w0,w1,w2][i]?=some w) (hwl:w.length<=1000):
  aQ n (k,(k:Int),(i:Int),A.map cI,B.map cI,ws,[w0,w1,w2])=some (.inl (k,(k:Int),((i+1:Nat):Int),A.map cI,B.map cI,ws.set i (cw a b w),[w0,w1,w2])):=by
 have w2':IntKind.wrap .i64 ((i:Int)+1)=((i+1:Nat):Int):=by rw [wrap_i64 _ (by omega) (by omega)];omega
 have hA:(A.map cI)[i]?=some (a:Int):=by rw [nq,ha];rfl
 have hB:(B.map cI)[i]?=some (b:Int):=by rw [nq,hb];rfl
 have hmt:∀z:Nat,z<4->(mt z).length<=1:=λz hz=>by
  unfold mt
  split
  ·simp
  ·split
   ·simp
   ·split<;>simp
 unfold aQ
 rw [bP,ae (show (i:Int)<(k:Int) by omega)]
 simp only [cT hi,cT (show i<3 by omega),ob,hw,d4,hA,hB,(Aq n a a4).1,(Aq n b b4).1]
 have c1:=hmt a a4
 have c2:=hmt b b4
 have q1:cat (mt a) w=some (mt a++w):=bM (by omega)
 have q2:cat (mt a++w) (mt b)=some (mt a++w++mt b):=bM (by rw [aN];omega)
 rw [q1]
 simp only [ob]
 rw [q2]
 simp only [ob]
 have hi':i<ws.length:=by omega
 obtain ⟨v,hv⟩:∃v,ws[i]?=some v:=⟨ws[i],bm hi'⟩
 rw [cT hi']
 simp only [ob,hv,w2']
 rfl
theorem B8 (n k:Nat) (A B:List Int) (ws V:List (aa)):aQ n (k,(k:Int),(k:Int),A,B,ws,V)=some (.inr ws):=by
 unfold aQ
 rw [bP,ab (show ¬((k:Int)<(k:Int)) by omega)]
theorem mz (a b:Nat) (w:aa):(cw a b w).length<=w.length+2:=by
 have hmt:∀z:Nat,(mt z).length<=1:=λz=>by
  unfold mt
  split
  ·simp
  ·split
   ·simp
   ·split<;>simp
 have:=hmt a
 have:=hmt b
 unfold cw
 simp only [aN]
 omega
theorem G8:bi [] []=1:=rfl
theorem DI {m:aa} (h:m≠[]):bi m []=2:=by unfold bi;rw [aM.2 h];rfl
theorem DG {m d:aa} (h:m≠[]) (h2:d≠[]):bi m d=3:=by unfold bi;rw [aM.2 h,aM.2 h2];rfl
theorem oc {d:aa} (h:d.length=2):d≠[]:=by rintro rfl;simp at h
theorem MK (n:Nat) (g l:Bool) (dg:aa) (x q:Nat) (m d:aa) (k0 k1 k2:Nat) (hm:m.length<=18) (hd:dg.length<=100):
  eU (n+300) g l dg (x:Int) (q:Int) m d (k0:Int) (k1:Int) (k2:Int)=some (if chkD g l dg (x:Int) (q:Int) m d (k0:Int) (k1:Int) (k2:Int)=0 then (rf g l dg (x:Int) (q:Int) m d k0 k1 k2,0) else ([],chkD g l dg (x:Int) (q:Int) m d (k0:Int) (k1:Int) (k2:Int))):=by
 unfold eU
 rw [ze (n+300) (by omega) g l dg _ _ m d _ _ _ hm hd (by omega) (by omega) (by omega)]
 show cond (chkD g l dg (x:Int) (q:Int) m d (k0:Int) (k1:Int) (k2:Int) != 0) _ _=_
 rw [uj]
 by_cases h0:chkD g l dg (x:Int) (q:Int) m d (k0:Int) (k1:Int) (k2:Int)=0
 rotate_left
 ·rw [ab h0,ab h0]
 rw [ae h0,ae h0]
 obtain ⟨x',q',a,b,c,e1,e2,e3,e4,e5,hok⟩:=A3 (by omega) (by omega) (by omega) h0
 obtain rfl:x=x':=by omega
 obtain rfl:q=q':=by omega
 obtain rfl:k0=a:=by omega
 obtain rfl:k1=b:=by omega
 obtain rfl:k2=c:=by omega
 have hc:=ki m d
 have hpl:=(PG n (bi m d) k0 k1 k2 hc hok.m0 hok.m1 hok.m2 hok.z1 hok.z2).1
 obtain ⟨l0,l1,l2,l3',l4,l5⟩:=MV (k:=bi m d) hok.m0 hok.m1 hok.m2
 rw [rX (n+300) (by omega)]
 simp only [ob]
 rw [hpl,y7 (n+300) g l dg _ _ (by omega) hd,ae hok.yr]
 simp only [ob,fp,af,Iq hok.yr,aj]
 have hcnd:(decide ((0:Int)<=((bi m d:Nat):Int))&&(decide (((bi m d:Nat):Int)<=((bi m d:Nat):Int))&&decide (((bi m d:Nat):Int)<=(67108864:Int))))=true:=by
  rw [ar (by omega),ar (by omega),ar (by omega)];rfl
 rw [hcnd,dG (show bi m d<=3 by omega)]
 simp only [ob,aj,bF]
 have hyl:=wU hok.yr
 have q1:Nat.ble 1 140737488355328=true:=rfl
 have q2:Nat.ble 2 140737488355328=true:=rfl
 have q3:Nat.ble 3 140737488355328=true:=rfl
 unfold rf
 generalize iG g l dg (x:Int) (q:Int)=Y at hyl
 generalize hpA:plA (bi m d) k0 k1 k2=PA at *
 generalize hpB:plB (bi m d) k0 k1 k2=PB at *
 obtain ⟨A0,A1,A2⟩:=PA
 obtain ⟨B0,B1,B2⟩:=PB
 simp only at l0 l1 l2 l3' l4 l5
 have st:=λ(k i:Nat) (hi:i<k) (hk:k<=3) (a b:Nat) (ha:[A0,A1,A2][i]?=some a) (hb:[B0,B1,B2][i]?=some b) (a4:a<4) (b4:b<4) (ws:List (aa)) (hl:ws.length=k) (w:aa) (w0 w1 w2:aa) (hw:[w0,w1,w2][i]?=some w) (hwl:w.length<=1000)=>Ks (n+300) k i hi hk [A0,A1,A2] [B0,B1,B2] a b ha hb a4 b4 ws hl w w0 w1 w2 hw hwl
 have big:∀L:aa,L.length<=1000->Nat.ble L.length 140737488355328=true:=λL h=>dq (by omega)
 by_cases hm0:m=[]
 ·have hd0:d=[]:=hok.day.resolve_right (λz=>z.1 hm0)
  subst hm0 hd0
  show ob (aw (aQ (n+300)) (n+299+1) (1,((1:Nat):Int),((0:Nat):Int),[A0,A1,A2].map cI,[B0,B1,B2].map cI,[[]],[Y,[],[]])) _=_
  rw [aw,st 1 0 (by omega) (by omega) A0 B0 rfl rfl l0 l3' [[]] rfl Y Y [] [] rfl (by omega)]
  show ob (aw (aQ (n+300)) (n+298+1) (1,((1:Nat):Int),((1:Nat):Int),[A0,A1,A2].map cI,[B0,B1,B2].map cI,[cw A0 B0 Y],[Y,[],[]])) _=_
  rw [aw,B8]
  simp only [ob]
  have e:Lib.join [cw A0 B0 Y] [45]=cw A0 B0 Y:=Lib.join_one _ _
  have hw:=mz A0 B0 Y
  rw [e,big _ (by omega)]
  simp [q1]
 ·have hml:m.length=2:=(hok.mon.resolve_left hm0).1
  by_cases hd0:d=[]
  ·subst hd0
   rw [DI hm0] at hpA hpB ⊢
   show ob (aw (aQ (n+300)) (n+299+1) (2,((2:Nat):Int),((0:Nat):Int),[A0,A1,A2].map cI,[B0,B1,B2].map cI,[[],[]],[Y,m,[]])) _=_
   rw [aw,st 2 0 (by omega) (by omega) A0 B0 rfl rfl l0 l3' [[],[]] rfl Y Y m [] rfl (by omega)]
   show ob (aw (aQ (n+300)) (n+298+1) (2,((2:Nat):Int),((1:Nat):Int),[A0,A1,A2].map cI,[B0,B1,B2].map cI,[cw A0 B0 Y,[]],[Y,m,[]])) _=_
   rw [aw,st 2 1 (by omega) (by omega) A1 B1 rfl rfl l1 l4 [cw A0 B0 Y,[]] rfl m Y m [] rfl (by omega)]
   show ob (aw (aQ (n+300)) (n+297+1) (2,((2:Nat):Int),((2:Nat):Int),[A0,A1,A2].map cI,[B0,B1,B2].map cI,[cw A0 B0 Y,cw A1 B1 m],[Y,m,[]])) _=_
   rw [aw,B8]
   simp only [ob]
   have e:Lib.join [cw A0 B0 Y,cw A1 B1 m] [45]=cw A0 B0 Y++(45::cw A1 B1 m):=by rw [Lib.join_cons];simp [Lib.joinTail]
   have hw:=mz A0 B0 Y
   have hw1:=mz A1 B1 m
   rw [e,big _ (by simp only [aN,aB];omega)]
   rw [ab hm0]
   simp [q2]
  ·have hdl:d.length=2:=(hok.day.resolve_left hd0).2.1
   rw [DG hm0 hd0] at hpA hpB ⊢
   show ob (aw (aQ (n+300)) (n+299+1) (3,((3:Nat):Int),((0:Nat):Int),[A0,A1,A2].map cI,[B0,B1,B2].map cI,[[],[],[]],[Y,m,d])) _=_
   rw [aw,st 3 0 (by omega) (by omega) A0 B0 rfl rfl l0 l3' [[],[],[]] rfl Y Y m d rfl (by omega)]
   show ob (aw (aQ (n+300)) (n+298+1) (3,((3:Nat):Int),((1:Nat):Int),[A0,A1,A2].map cI,[B0,B1,B2].map cI,[cw A0 B0 Y,[],[]],[Y,m,d])) _=_
   rw [aw,st 3 1 (by omega) (by omega) A1 B1 rfl rfl l1 l4 [cw A0 B0 Y,[],[]] rfl m Y m d rfl (by omega)]
   show ob (aw (aQ (n+300)) (n+297+1) (3,((3:Nat):Int),((2:Nat):Int),[A0,A1,A2].map cI,[B0,B1,B2].map cI,[cw A0 B0 Y,cw A1 B1 m,[]],[Y,m,d])) _=_
   rw [aw,st 3 2 (by omega) (by omega) A2 B2 rfl rfl l2 l5 [cw A0 B0 Y,cw A1 B1 m,[]] rfl d Y m d rfl (by omega)]
   show ob (aw (aQ (n+300)) (n+296+1) (3,((3:Nat):Int),((3:Nat):Int),[A0,A1,A2].map cI,[B0,B1,B2].map cI,[cw A0 B0 Y,cw A1 B1 m,cw A2 B2 d],[Y,m,d])) _=_
   rw [aw,B8]
   simp only [ob]
   have e:Lib.join [cw A0 B0 Y,cw A1 B1 m,cw A2 B2 d] [45]=cw A0 B0 Y++(45::cw A1 B1 m++(45::cw A2 B2 d)):=by rw [Lib.join_cons];simp [Lib.joinTail]
   have hw:=mz A0 B0 Y
   have hw1:=mz A1 B1 m
   have hw2:=mz A2 B2 d
   rw [e,big _ (by simp only [aN,aB];omega)]
   rw [ab hm0,ab hd0]
   simp [q3]
theorem FL (n:Nat) {g l:Bool} {dg:aa} {x q:Nat} {m d:aa} {k0 k1 k2:Nat} (hok:OkD g l dg x q m d k0 k1 k2):
  d7 (n+300) g l dg (x:Int) (q:Int) m d (k0:Int) (k1:Int) (k2:Int)=some (rf g l dg (x:Int) (q:Int) m d k0 k1 k2):=by
 have hc:=ki m d
 have hpl:=(PG n (bi m d) k0 k1 k2 hc hok.m0 hok.m1 hok.m2 hok.z1 hok.z2).2
 obtain ⟨l0,l1,l2,l3',l4,l5⟩:=MV (k:=bi m d) hok.m0 hok.m1 hok.m2
 have hyl:=wU hok.yr
 have hx:=hok.x16
 have hq:=hok.q17
 have hdg:=hok.dg17
 unfold d7
 rw [cV (n+300)]
 simp only [ob]
 rw [hpl,JO (n+300) g l dg x q (by omega) (by omega) (by omega)]
 unfold rf
 generalize iG g l dg (x:Int) (q:Int)=Y at hyl ⊢
 generalize hpA:plA (bi m d) k0 k1 k2=PA at *
 generalize hpB:plB (bi m d) k0 k1 k2=PB at *
 obtain ⟨A0,A1,A2⟩:=PA
 obtain ⟨B0,B1,B2⟩:=PB
 simp only at l0 l1 l2 l3' l4 l5
 have hmt:∀z:Nat,(mt z).length<=1:=λz=>by
  unfold mt
  split
  ·simp
  ·split
   ·simp
   ·split<;>simp
 have hA0:=hmt A0
 have hA1:=hmt A1
 have hA2:=hmt A2
 have hB0:=hmt B0
 have hB1:=hmt B1
 have hB2:=hmt B2
 have hml:m.length<=2:=by
  rcases hok.mon with h | h
  ·rw [h];simp
  ·omega
 have hdl:d.length<=2:=by
  rcases hok.day with h | h
  ·rw [h];simp
  ·omega
 have i0:∀a b c:Nat,(l3 (a,b,c))[0]?=some (a:Int):=λ_ _ _=>rfl
 have i1:∀a b c:Nat,(l3 (a,b,c))[1]?=some (b:Int):=λ_ _ _=>rfl
 have i2:∀a b c:Nat,(l3 (a,b,c))[2]?=some (c:Int):=λ_ _ _=>rfl
 have cc:∀a b:aa,a.length+b.length<=1000000->cat a b=some (a++b):=λa b h=>bM h
 simp only [ob,i0,i1,i2,(Aq (n+300) A0 l0).2,(Aq (n+300) A1 l1).2,(Aq (n+300) A2 l2).2,(Aq (n+300) B0 l3').2,(Aq (n+300) B1 l4).2,(Aq (n+300) B2 l5).2]
 rw [cc (mt A0) Y (by omega)]
 simp only [ob]
 rw [cc _ (mt B0) (by simp only [aN];omega)]
 simp only [ob]
 have k1':decide (((bi m d:Nat):Int)>1)=decide (1<bi m d):=by rw [rt];omega
 have k2':decide (((bi m d:Nat):Int)>2)=decide (2<bi m d):=by rw [rt];omega
 rw [k1',k2']
 by_cases hm0:m=[]
 ·have hd0:d=[]:=hok.day.resolve_right (λz=>z.1 hm0)
  subst hm0 hd0
  rw [G8]
  simp [cw]
 ·by_cases hd0:d=[]
  ·subst hd0
   rw [DI hm0,ab hm0]
   simp only [show decide (1<2)=true from rfl,show decide (2<2)=false from rfl,aj,af]
   rw [cc [45] (mt A1) (by simp;omega)]
   simp only [ob]
   rw [cc _ m (by simp only [aN,aB,aY];omega)]
   simp only [ob]
   rw [cc _ (mt B1) (by simp only [aN,aB,aY];omega)]
   simp only [ob]
   rw [cc _ _ (by simp only [aN,aB,aY];omega)]
   simp [cw]
  ·rw [DG hm0 hd0,ab hm0,ab hd0]
   simp only [show decide (1<3)=true from rfl,show decide (2<3)=true from rfl,aj,af]
   rw [cc [45] (mt A1) (by simp;omega)]
   simp only [ob]
   rw [cc _ m (by simp only [aN,aB,aY];omega)]
   simp only [ob]
   rw [cc _ (mt B1) (by simp only [aN,aB,aY];omega)]
   simp only [ob]
   rw [cc _ _ (by simp only [aN,aB,aY];omega)]
   simp only [ob]
   rw [cc [45] (mt A2) (by simp;omega)]
   simp only [ob]
   rw [cc _ d (by simp only [aN,aB,aY];omega)]
   simp only [ob]
   rw [cc _ (mt B2) (by simp only [aN,aB,aY];omega)]
   simp only [ob]
   rw [cc _ _ (by simp only [aN,aB,aY];omega)]
   simp [cw]
def isMk (c:UInt8):Bool:=decide (0<mkOf c)
theorem ge {S u v:aa} {a:Nat} (h:S.drop a=u++v):S.drop (a+u.length)=v:=by
 rw [<-mQ,h,A7]
 rfl
theorem Ih {A:Nat} (hA:A<4) {r:aa} (hr:cS isMk r):mkS (mt A++r)=A/\mkN (mt A++r)=(mt A).length:=by
 have h0:mkS r=0:=by
  cases r with
  | nil=>rfl
  | cons c r=>
   have:=hr c rfl
   unfold isMk at this
   have:=of_decide_eq_false this
   show mkOf c=0
   omega
 have h:A=0\/A=1\/A=2\/A=3:=by omega
 rcases h with rfl | rfl | rfl | rfl
 ·refine ⟨h0,?_⟩
  show mkN r=0
  unfold mkN
  rw [ae h0]
 ·exact ⟨rfl,rfl⟩
 ·exact ⟨rfl,rfl⟩
 ·exact ⟨rfl,rfl⟩
theorem dS {p:UInt8->Bool} {c:UInt8} {r:aa} (h:p c=false):cS p (c::r):=λc' hc=>by
 simp only [yx,aq] at hc
 rw [<-hc];exact h
theorem I9 {p:UInt8->Bool} (B:Nat) {r:aa} (h1:p 63=false) (h2:p 126=false) (h3:p 37=false) (hr:cS p r):cS p (mt B++r):=by
 unfold mt
 split
 ·exact dS h1
 ·split
  ·exact dS h2
  ·split
   ·exact dS h3
   ·exact hr
theorem Mf {c:UInt8} (h:isDX c=true):isMk c=false:=by
 have:=mP (λc=>!(isDX c)||!(isMk c)) (by decide +kernel) c
 rw [h] at this
 simpa using this
theorem us {p q:UInt8->Bool} {w r:aa} (h0:w≠[]) (h:∀c∈w,p c=true) (hpq:∀c,p c=true->q c=false):cS q (w++r):=by
 cases w with
 | nil=>exact absurd rfl h0
 | cons c w=>exact dS (hpq c (h c oG))
theorem L8 {g l:Bool} {d:aa} {x s:Int} (h:okY g l d x s):∀c∈d,isDX c=true:=by
 intro c hc
 unfold okY at h
 have:bp c=true\/c=88:=by
  split at h
  ·exact .inl (h.1.1 c hc)
  ·exact h.2.1 c hc
 unfold isDX
 rcases this with h1 | h1
 ·rw [h1];rfl
 ·rw [h1];decide
theorem F6 {g l:Bool} {d:aa} {x s:Nat} (h:okY g l d (x:Int) (s:Int)) (r:aa):cS isMk (iG g l d (x:Int) (s:Int)++r):=by
 have hl:d≠[]:=by
  have:=(ir h).2.2.2.2.1
  rintro rfl
  simp at this
 rw [kN]
 cases l with
 | true=>exact dS (by decide)
 | false=>
  cases g with
  | true=>exact dS (by decide)
  | false=>
   simp only [bV,aD,dR,iB]
   exact us hl (L8 h) (λc=>Mf)
theorem sc {S:aa} {p A B:Nat} {w R:aa} (h:S.drop p=cw A B w++R) (hA:A<4) (hB:B<4) (hw:cS isMk (w++(mt B++R))) (hR:cS isMk R):
  mkS (S.drop p)=A/\S.drop (mkE S p)=w++(mt B++R)/\mkS (S.drop (mkE S p+w.length))=B/\S.drop (mkE S (mkE S p+w.length))=R/\mkE S (mkE S p+w.length)=p+(cw A B w).length:=by
 have h':S.drop p=mt A++(w++(mt B++R)):=by rw [h];unfold cw;simp
 obtain ⟨e1,e2⟩:=Ih hA hw
 obtain ⟨e3,e4⟩:=Ih hB hR
 have hE:mkE S p=p+(mt A).length:=by unfold mkE;rw [h',e2]
 have h1:S.drop (mkE S p)=w++(mt B++R):=by rw [hE];exact ge h'
 have h2:S.drop (mkE S p+w.length)=mt B++R:=ge h1
 have hE2:mkE S (mkE S p+w.length)=mkE S p+w.length+(mt B).length:=by
  show mkE S p+w.length+mkN (S.drop (mkE S p+w.length))=_
  rw [h2,e4]
 refine ⟨by rw [h',e1],h1,by rw [h2,e3],by rw [hE2];exact ge h2,?_⟩
 rw [hE2,hE]
 unfold cw
 simp only [aN]
 omega
theorem yC {m r:aa} (hl:m.length=2) (h:∀c∈m,isDX c=true):twoN (m++r)=2/\(m++r).take 2=m:=by
 match m,hl with
 | [a,b],_=>
  have ha:=h a (by simp)
  have hb:=h b (by simp)
  refine ⟨?_,rfl⟩
  unfold twoN
  show cA isDX 2 (a::b::r)=2
  simp [cA,ha,hb]
theorem M4 {k a b c:Nat} (h1:k<2->b=0) (h2:k<3->c=0) (hk:1<=k):(k<2->(plA k a b c).2.1=0/\(plB k a b c).2.1=0)/\(k<3->(plA k a b c).2.2=0/\(plB k a b c).2.2=0):=by
 unfold plA plB
 constructor
 ·intro h
  have:k=1:=by omega
  subst this
  have:=h1 h
  split
  ·simp
  ·simp [this]
 ·intro h
  have:=h2 h
  split
  ·split
   ·simp
   ·have:k=2:=by omega
    simp [this]
  ·simp [this]
def rawD (A B:Nat×Nat×Nat) (g l:Bool) (dg:aa) (x q:Int) (m d:aa):aa:=
 cw A.1 B.1 (iG g l dg x q)++((if m=[] then [] else 45::cw A.2.1 B.2.1 m)++(if d=[] then [] else 45::cw A.2.2 B.2.2 d))
structure MkD (A B:Nat×Nat×Nat) (m d:aa):Prop where
 a0:A.1<4
 a1:A.2.1<4
 a2:A.2.2<4
 b0:B.1<4
 b1:B.2.1<4
 b2:B.2.2<4
 zm:m=[]->A.2.1=0/\B.2.1=0
 zd:d=[]->A.2.2=0/\B.2.2=0
structure ShD (g l:Bool) (dg:aa) (x q:Nat) (m d:aa):Prop where
 yr:okY g l dg (x:Int) (q:Int)
 noM:0<q->m=[]
 mon:m=[]\/(m.length=2/\∀c∈m,isDX c=true)
 day:d=[]\/(m≠[]/\d.length=2/\∀c∈d,isDX c=true)
theorem OkD.sh {g l:Bool} {dg:aa} {x q:Nat} {m d:aa} {k0 k1 k2:Nat} (h:OkD g l dg x q m d k0 k1 k2):ShD g l dg x q m d:=⟨h.yr,h.noM,h.mon,h.day⟩
theorem OkD.marks {g l:Bool} {dg:aa} {x q:Nat} {m d:aa} {k0 k1 k2:Nat} (h:OkD g l dg x q m d k0 k1 k2):MkD (plA (bi m d) k0 k1 k2) (plB (bi m d) k0 k1 k2) m d:=by
 obtain ⟨l0,l1,l2,l3',l4,l5⟩:=MV (k:=bi m d) h.m0 h.m1 h.m2
 obtain ⟨hz1,hz2⟩:=M4 (a:=k0) h.z1 h.z2 (ki m d).1
 refine ⟨l0,l1,l2,l3',l4,l5,λhm=>hz1 ?_,λhd=>hz2 ?_⟩
 ·have hd0:d=[]:=h.day.resolve_right (λz=>z.1 hm)
  subst hm hd0
  rw [G8];omega
 ·subst hd
  by_cases hm:m=[]
  ·subst hm;rw [G8];omega
  ·rw [DI hm];omega
theorem Kp {A B:Nat×Nat×Nat} {g l:Bool} {dg:aa} {x q:Nat} {m d:aa} (hok:ShD g l dg x q m d) (hmk:MkD A B m d) {S:aa} {a:Nat} {post:aa} (h:S.drop a=rawD A B g l dg (x:Int) (q:Int) m d++post)
  (hp1:cS isYC post) (hp2:cS isMk post) (hp3:cS (λc=>c==45) post):
  ∃P:Nat×Nat×Nat,P.1=a+(mt A.1).length/\tS S a=.inr (g,l,dg,x,q,m,d,spM A B,P,a+(rawD A B g l dg (x:Int) (q:Int) m d).length):=by
 obtain ⟨l0,l1,l2,l3',l4,l5,hz1,hz2⟩:=hmk
 obtain ⟨A0,A1,A2⟩:=A
 obtain ⟨B0,B1,B2⟩:=B
 simp only at l0 l1 l2 l3' l4 l5 hz1 hz2 h
 unfold rawD at h ⊢
 simp only at h ⊢
 have h45:isMk 45=false:=by decide
 have y45:isYC 45=false:=by decide
 have t45:∀r:aa,cS (λc=>c==45) r->gA 45 r=0:=λr hr=>by
  cases r with
  | nil=>rfl
  | cons c r=>
   have:=hr c rfl
   exact oh (λe=>by rw [e] at this;exact absurd this (by decide)) r
 have hyx:=Ip hok.yr
 have hyh:=F6 hok.yr
 generalize hY:iG g l dg (x:Int) (q:Int)=Y at *
 have hRs:∀R:aa,S.drop a=cw A0 B0 Y++R->cS isYC R->cS isMk R->
   mkE S a=a+(mt A0).length/\mkS (S.drop a)=A0/\tB (S.drop (mkE S a))=.inr (g,l,dg,x,q,Y.length)/\mkS (S.drop (mkE S a+Y.length))=B0/\S.drop (mkE S (mkE S a+Y.length))=R/\mkE S (mkE S a+Y.length)=a+(cw A0 B0 Y).length:=by
  intro R hR h1 h2
  obtain ⟨w1,w2,w3,w4,w5⟩:=sc hR l0 l3' (hyh _) h2
  refine ⟨?_,w1,?_,w3,w4,w5⟩
  ·have hR':S.drop a=mt A0++(Y++(mt B0++R)):=by rw [hR];unfold cw;simp
   unfold mkE
   rw [hR',(Ih l0 (hyh _)).2]
  rw [w2]
  exact hyx _ (I9 B0 (by decide) (by decide) (by decide) h1)
 unfold tS
 by_cases hm0:m=[]
 ·have hd0:d=[]:=hok.day.resolve_right (λz=>z.1 hm0)
  subst hm0 hd0
  simp only [aO,nW] at h ⊢
  obtain ⟨w0,w1,w2,w3,w4,w5⟩:=hRs post h hp1 hp2
  rw [w2]
  simp only []
  rw [w4,ae (.inr (t45 post hp3)),w1,w3,w5]
  obtain ⟨rfl,rfl⟩:=hz1 rfl
  obtain ⟨rfl,rfl⟩:=hz2 rfl
  exact ⟨_,w0,rfl⟩
 ·have hq0:¬0<q:=λz=>hm0 (hok.noM z)
  obtain ⟨hml,hmx⟩:=hok.mon.resolve_left hm0
  rw [ab hm0] at h ⊢
  have hmk:∀r,cS isMk (m++r):=λr=>us hm0 hmx (λc=>Mf)
  by_cases hd0:d=[]
  ·subst hd0
   rw [ae rfl,nW] at h ⊢
   have h':S.drop a=cw A0 B0 Y++(45::(cw A1 B1 m++post)):=by rw [h];simp
   obtain ⟨w0,w1,w2,w3,w4,w5⟩:=hRs _ h' (dS y45) (dS h45)
   rw [w2]
   simp only []
   rw [w4,m9,ab (λz=>z.elim hq0 (by omega)),w1,w3]
   unfold rd2
   have h2:S.drop (mkE S (mkE S a+Y.length)+1)=cw A1 B1 m++post:=ge (u:=[45]) w4
   obtain ⟨v1,v2,v3,v4,v5⟩:=sc h2 l1 l4 (hmk _) hp2
   obtain ⟨u1,u2⟩:=yC (r:=mt B1++post) hml hmx
   rw [<-v2] at u1 u2
   rw [hml] at v3 v4 v5
   rw [u1,ab (by omega),v4,t45 post hp3,ae rfl,u2,v1,v3,v5,w5]
   obtain ⟨rfl,rfl⟩:=hz2 rfl
   have:a+(cw A0 B0 Y).length+1+(cw A1 B1 m).length=a+(cw A0 B0 Y++45::cw A1 B1 m).length:=by simp only [aN,aB];omega
   rw [this]
   exact ⟨_,w0,rfl⟩
  ·obtain ⟨_,hdl,hdx⟩:=hok.day.resolve_left hd0
   rw [ab hd0] at h ⊢
   have hdk:∀r,cS isMk (d++r):=λr=>us hd0 hdx (λc=>Mf)
   have h':S.drop a=cw A0 B0 Y++(45::(cw A1 B1 m++(45::(cw A2 B2 d++post)))):=by rw [h];simp
   obtain ⟨w0,w1,w2,w3,w4,w5⟩:=hRs _ h' (dS y45) (dS h45)
   rw [w2]
   simp only []
   rw [w4,m9,ab (λz=>z.elim hq0 (by omega)),w1,w3]
   unfold rd2
   have h2:S.drop (mkE S (mkE S a+Y.length)+1)=cw A1 B1 m++(45::(cw A2 B2 d++post)):=ge (u:=[45]) w4
   obtain ⟨v1,v2,v3,v4,v5⟩:=sc h2 l1 l4 (hmk _) (dS h45)
   obtain ⟨u1,u2⟩:=yC (r:=mt B1++(45::(cw A2 B2 d++post))) hml hmx
   rw [<-v2] at u1 u2
   rw [hml] at v3 v4 v5
   rw [u1,ab (by omega),v4,m9,ab (by omega),u2,v1,v3]
   unfold rd3
   have h3:S.drop (mkE S (mkE S (mkE S (mkE S a+Y.length)+1)+2)+1)=cw A2 B2 d++post:=ge (u:=[45]) v4
   obtain ⟨x1,x2,x3,x4,x5⟩:=sc h3 l2 l5 (hdk _) hp2
   obtain ⟨s1,s2⟩:=yC (r:=mt B2++post) hdl hdx
   rw [<-x2] at s1 s2
   rw [hdl] at x3 x4 x5
   rw [s1,ab (by omega),s2,x1,x3,x5,v5,w5]
   have:a+(cw A0 B0 Y).length+1+(cw A1 B1 m).length+1+(cw A2 B2 d).length=a+(cw A0 B0 Y++(45::cw A1 B1 m++45::cw A2 B2 d)).length:=by simp only [aN,aB];omega
   rw [this]
   exact ⟨_,w0,rfl⟩
theorem FU {g l:Bool} {dg:aa} {x q:Nat} {m d:aa} {k0 k1 k2:Nat} (hok:OkD g l dg x q m d k0 k1 k2) {S:aa} {a:Nat} {post:aa} (h:S.drop a=rf g l dg (x:Int) (q:Int) m d k0 k1 k2++post)
  (hp1:cS isYC post) (hp2:cS isMk post) (hp3:cS (λc=>c==45) post):
  ∃P,tS S a=.inr (g,l,dg,x,q,m,d,(k0,k1,k2),P,a+(rf g l dg (x:Int) (q:Int) m d k0 k1 k2).length):=by
 obtain ⟨P,_,hP⟩:=Kp hok.sh hok.marks (S:=S) (a:=a) (post:=post) h hp1 hp2 hp3
 rw [Q7 (bi m d) k0 k1 k2 (ki m d) hok.m0 hok.m1 hok.m2 hok.z1 hok.z2] at hP
 exact ⟨P,hP⟩
theorem Ht {g l:Bool} {dg:aa} {x q:Nat} {m d:aa} {k0 k1 k2:Nat} (hok:OkD g l dg x q m d k0 k1 k2):(rf g l dg (x:Int) (q:Int) m d k0 k1 k2).length<=37:=by
 have hy:=wU hok.yr
 have h0:=mz (plA (bi m d) k0 k1 k2).1 (plB (bi m d) k0 k1 k2).1 (iG g l dg (x:Int) (q:Int))
 have h1:=mz (plA (bi m d) k0 k1 k2).2.1 (plB (bi m d) k0 k1 k2).2.1 m
 have h2:=mz (plA (bi m d) k0 k1 k2).2.2 (plB (bi m d) k0 k1 k2).2.2 d
 have hml:m.length<=2:=by
  rcases hok.mon with h | h
  ·rw [h];simp
  ·omega
 have hdl:d.length<=2:=by
  rcases hok.day with h | h
  ·rw [h];simp
  ·omega
 unfold rf
 simp only [aN]
 have a1:(if m=[] then [] else 45::cw (plA (bi m d) k0 k1 k2).2.1 (plB (bi m d) k0 k1 k2).2.1 m).length<=5:=by
  split
  ·simp
  ·simp only [aB];omega
 have a2:(if d=[] then [] else 45::cw (plA (bi m d) k0 k1 k2).2.2 (plB (bi m d) k0 k1 k2).2.2 d).length<=5:=by
  split
  ·simp
  ·simp only [aB];omega
 omega
theorem Nq {A B:Nat×Nat×Nat} (h0:A.1<4) (h1:A.2.1<4) (h2:A.2.2<4) (g0:B.1<4) (g1:B.2.1<4) (g2:B.2.2<4):(spM A B).1<4/\(spM A B).2.1<4/\(spM A B).2.2<4:=by
 have ol:∀x y:Nat,x<4->y<4->x ||| y<4:=λx y hx hy=>(or4 hx hy).2
 exact ⟨ol _ _ (ol _ _ (ol _ _ h0 g0) g1) g2,ol _ _ (ol _ _ h1 g1) g2,ol _ _ h2 g2⟩
structure RdOK (S:aa) (a:Nat) (dg m d:aa) (M:Nat×Nat×Nat) (e:Nat):Prop where
 dg17:dg.length<=17
 m2:m.length<=2
 d2:d.length<=2
 all:inM (bi m d) M
 le:a<=e
 end_:e<=S.length
theorem DK {S:aa} {a:Nat} (h:a<=S.length) {g l:Bool} {dg:aa} {x s:Nat} {m d:aa} {M P:Nat×Nat×Nat} {e:Nat} (hr:tS S a=.inr (g,l,dg,x,s,m,d,M,P,e)):RdOK S a dg m d M e:=by
 have z4:∀p,mkS (S.drop p)<4:=λp=>L3 _
 have z0:0<4:=by omega
 have b0:=pI h
 have g0:a<=mkE S a:=yR _ _
 have gE:∀p,p<=mkE S p:=λp=>yR _ _
 unfold tS at hr
 cases hy:tB (S.drop (mkE S a)) with
 | inl k=>rw [hy] at hr;cases hr
 | inr y=>
  obtain ⟨g',l',dg',x',s',k⟩:=y
  obtain ⟨_,bk,_,_,hdg⟩:=Ap hy
  have bk:mkE S a+k<=S.length:=by
   rw [cQ] at bk
   omega
  have b1:=pI bk
  rw [hy] at hr
  simp only [] at hr
  by_cases hc:0<s'\/gA 45 (S.drop (mkE S (mkE S a+k)))=0
  ·rw [ae hc] at hr
   cases hr
   have:=Nq (A:=(mkS (S.drop a),0,0)) (B:=(mkS (S.drop (mkE S a+k)),0,0)) (z4 _) z0 z0 (z4 _) z0 z0
   refine ⟨hdg,by simp,by simp,⟨this.1,this.2.1,this.2.2,λ_=>by simp [spM],λ_=>by simp [spM]⟩,?_,b1⟩
   have:=gE (mkE S a+k)
   omega
  ·rw [ab hc] at hr
   have bt1:=uo (λz=>hc (.inr z))
   have bc:=pI bt1
   unfold rd2 at hr
   by_cases h2:twoN (S.drop (mkE S (mkE S (mkE S a+k)+1)))<2
   ·rw [ae h2] at hr;cases hr
   ·rw [ab h2] at hr
    have b2:=DB h2
    have b3:=pI b2
    have hml:(List.take 2 (S.drop (mkE S (mkE S (mkE S a+k)+1)))).length=2:=by rw [cE,cQ];omega
    have g1:=gE (mkE S a+k)
    have g2:=gE (mkE S (mkE S a+k)+1)
    have g3:=gE (mkE S (mkE S (mkE S a+k)+1)+2)
    by_cases ht2:gA 45 (S.drop (mkE S (mkE S (mkE S (mkE S a+k)+1)+2)))=0
    ·rw [ae ht2] at hr
     cases hr
     have:=Nq (A:=(mkS (S.drop a),mkS (S.drop (mkE S (mkE S a+k)+1)),0)) (B:=(mkS (S.drop (mkE S a+k)),mkS (S.drop (mkE S (mkE S (mkE S a+k)+1)+2)),0)) (z4 _) (z4 _) z0 (z4 _) (z4 _) z0
     refine ⟨hdg,by omega,by simp,⟨this.1,this.2.1,this.2.2,λz=>?_,λ_=>by simp [spM]⟩,by omega,b3⟩
     rw [DI (oc hml)] at z
     omega
    ·rw [ab ht2] at hr
     have bt2:=uo ht2
     have bc2:=pI bt2
     unfold rd3 at hr
     by_cases h3:twoN (S.drop (mkE S (mkE S (mkE S (mkE S (mkE S a+k)+1)+2)+1)))<2
     ·rw [ae h3] at hr;cases hr
     ·rw [ab h3] at hr
      have b4:=DB h3
      have b5:=pI b4
      have hdl:(List.take 2 (S.drop (mkE S (mkE S (mkE S (mkE S (mkE S a+k)+1)+2)+1)))).length=2:=by rw [cE,cQ];omega
      cases hr
      have g4:=gE (mkE S (mkE S (mkE S (mkE S a+k)+1)+2)+1)
      have g5:=gE (mkE S (mkE S (mkE S (mkE S (mkE S a+k)+1)+2)+1)+2)
      have:=Nq (A:=(mkS (S.drop a),mkS (S.drop (mkE S (mkE S a+k)+1)),mkS (S.drop (mkE S (mkE S (mkE S (mkE S a+k)+1)+2)+1)))) (B:=(mkS (S.drop (mkE S a+k)),mkS (S.drop (mkE S (mkE S (mkE S a+k)+1)+2)),mkS (S.drop (mkE S (mkE S (mkE S (mkE S (mkE S a+k)+1)+2)+1)+2)))) (z4 _) (z4 _) (z4 _) (z4 _) (z4 _) (z4 _)
      refine ⟨hdg,by omega,by omega,⟨this.1,this.2.1,this.2.2,λz=>?_,λz=>?_⟩,by omega,b5⟩
      ·rw [DG (oc hml) (oc hdl)] at z
       omega
      ·rw [DG (oc hml) (oc hdl)] at z
       omega
theorem IA {g l:Bool} {dg:aa} {x q:Int} {m d:aa} {k0 k1 k2:Int} (hk:allM k0 k1 k2 (bi m d)=0):chkD g l dg x q m d k0 k1 k2=0\/chkD g l dg x q m d k0 k1 k2=6\/chkD g l dg x q m d k0 k1 k2=7\/chkD g l dg x q m d k0 k1 k2=8:=by
 unfold chkD
 rw [hk]
 generalize yrD g l dg x q m=b1
 generalize (!(m==[])&&(!(decide (0<sea m))&&!(dH m 12)))=b2
 generalize (!(d==[])&&((m==[])||(decide (0<sea m)||!(dH d 31))))=b3
 cases b1<;>cases b2<;>cases b3<;>simp
def monT (j:Nat):aa:=if j=0 then [] else if j<=12 then two j else if j<=33 then two (j+8) else ([[48,88],[49,88],[88,50],[88,88],[88,48],[88,57]]:List (aa)).getD (j - 34) []
def Rq (m:aa):Nat:=if m=[48,50] then 28 else if m=[48,52]\/m=[48,54]\/m=[48,57]\/m=[49,49]\/m=[88,57] then 30 else 31
def dayT (j:Nat) (m:aa):aa:=if j=0 then [] else if j<=31 then two (min j (Rq m)) else if m=[48,50]/\j=35 then [50,88] else ([[48,88],[49,88],[50,88],[51,88],[88,48],[88,49],[88,88],[88,56]]:List (aa)).getD (j - 32) []
theorem r40 {p:Nat->Bool} (h:(List.range 40).all p=true) {a:Nat} (ha:a<40):p a=true:=(cL.1 h) a (jg.2 ha)
noncomputable def L5 (m:Nat) (a0:Int) (a1:Bool) (a2 a3 a4 a6 a7 a8 a9:Int) (j:Nat):Bool:=fF (m+300) a0 a1 a2 a3 a4 (j:Int) a6 a7 a8 a9==some (monT j)
theorem If (m:Nat) (a0:Int) (a1:Bool) (a2 a3 a4 a6 a7 a8 a9:Int):((List.range 40).all λj=>L5 m a0 a1 a2 a3 a4 a6 a7 a8 a9 j)=true:=by kernel_rfl
theorem Mg (a:Nat) (h:a<256):IntKind.wrap .i64 (Int.tmod (a:Int) 40)=((a%40:Nat):Int):=by
 have:Int.tmod (a:Int) 40=((a%40:Nat):Int):=rfl
 rw [this,wrap_i64 _ (by omega) (by omega)]
theorem LD (j:Nat) (h:j<40):IntKind.wrap .i64 (Int.tmod (j:Int) 40)=((j:Nat):Int):=by
 rw [Mg j (by omega)]
 have:j%40=j:=by omega
 rw [this]
theorem yy (m:Nat) (a0:Int) (a1:Bool) (a2 a3 a4:Int) (a5:Nat) (a6 a7 a8 a9:Int) (h:a5<256):fF (m+300) a0 a1 a2 a3 a4 (a5:Int) a6 a7 a8 a9=some (monT (a5%40)):=by
 have hj:a5%40<40:=by omega
 have h1:=r40 (If m a0 a1 a2 a3 a4 a6 a7 a8 a9) hj
 unfold L5 at h1
 have h1:=bD.1 h1
 unfold fF at h1 ⊢
 rw [LD _ hj] at h1
 rw [Mg _ h]
 exact h1
theorem IG {j:Nat} (h:j<40):monT j=[]\/0<sea (monT j)\/(sea (monT j)=0/\dH (monT j) 12=true):=by
 have:((List.range 40).all λj=>decide (monT j=[])||(decide (0<sea (monT j))||(decide (sea (monT j)=0)&&dH (monT j) 12)))=true:=by decide +kernel
 have:=r40 this h
 simpa using this
theorem AF {j:Nat} (h:j<40) (hs:sea (monT j)=0) (h0:monT j≠[]):monT j∈((List.range 12).map λi=>two (i+1))++[[48,88],[49,88],[88,50],[88,88],[88,48],[88,57]]:=by
 have:((List.range 40).all λj=>!decide (sea (monT j)=0)||(decide (monT j=[])||decide (monT j∈((List.range 12).map λi=>two (i+1))++[[48,88],[49,88],[88,50],[88,88],[88,48],[88,57]])))=true:=by decide +kernel
 have:=r40 this h
 rw [ar hs,au h0] at this
 simpa using this
noncomputable def L7 (m:Nat) (a0:Int) (a1:Bool) (a2 a3 a4 a5 a7 a8 a9:Int) (mo:aa) (j:Nat):Bool:=ib (m+300) a0 a1 a2 a3 a4 a5 (j:Int) a7 a8 a9 mo==some (dayT j mo)
theorem HA (m:Nat) (a0:Int) (a1:Bool) (a2 a3 a4 a5 a7 a8 a9:Int):((((List.range 12).map λi=>two (i+1))++[[48,88],[49,88],[88,50],[88,88],[88,48],[88,57]]).all λmo=>(List.range 40).all λj=>L7 m a0 a1 a2 a3 a4 a5 a7 a8 a9 mo j)=true:=by kernel_rfl
theorem Dk (m:Nat) (a0:Int) (a1:Bool) (a2 a3 a4 a5:Int) (a6:Nat) (a7 a8 a9:Int) (mo:aa) (hm:mo∈((List.range 12).map λi=>two (i+1))++[[48,88],[49,88],[88,50],[88,88],[88,48],[88,57]]) (h:a6<256):ib (m+300) a0 a1 a2 a3 a4 a5 (a6:Int) a7 a8 a9 mo=some (dayT (a6%40) mo):=by
 have hj:a6%40<40:=by omega
 have h1:=r40 ((cL.1 (HA m a0 a1 a2 a3 a4 a5 a7 a8 a9)) mo hm) hj
 unfold L7 at h1
 have h1:=bD.1 h1
 unfold ib at h1 ⊢
 rw [LD _ hj] at h1
 rw [Mg _ h]
 exact h1
theorem GY {j:Nat} (h:j<40) {mo:aa} (hm:mo∈((List.range 12).map λi=>two (i+1))++[[48,88],[49,88],[88,50],[88,88],[88,48],[88,57]]):dayT j mo=[]\/dH (dayT j mo) 31=true:=by
 have:((((List.range 12).map λi=>two (i+1))++[[48,88],[49,88],[88,50],[88,88],[88,48],[88,57]]).all λmo=>(List.range 40).all λj=>decide (dayT j mo=[])||dH (dayT j mo) 31)=true:=by decide +kernel
 have:=r40 ((cL.1 this) mo hm) h
 simpa using this
def mksT (k a b c:Nat):Nat×Nat×Nat:=(a%4,if 1<k then b%4 else 0,if 2<k then c%4 else 0)
theorem wV (k a b c:Nat):allM ((mksT k a b c).1:Int) ((mksT k a b c).2.1:Int) ((mksT k a b c).2.2:Int) k=0:=by
 apply vM
 refine ⟨by simp only [mksT];omega,?_,?_,?_,?_⟩
 ·simp only [mksT];split<;>omega
 ·simp only [mksT];split<;>omega
 ·intro h;simp only [mksT];rw [ab (by omega)]
 ·intro h;simp only [mksT];rw [ab (by omega)]
theorem Db {g l:Bool} {d:aa} {x s:Int} (h:okY g l d x s) (h5:d.length<=5) (h11:x<=11):pX g d x=false:=by
 unfold pX
 cases hX:hasX d with
 | true=>rfl
 | false=>
  obtain ⟨k,q,rfl,rfl,hN⟩:=qM h hX
  have h1:=qa d 0 0 hN.dig (by decide)
  rw [cG] at h1
  have h2:dval 0 d<10 ^ 5:=nG h1 (jS (by omega) h5)
  have h3:10 ^ k<=10 ^ 11:=jS (by omega) (by omega)
  have h4:val d k≠E16:=by
   unfold val E16
   have:dval 0 d*10 ^ k<=99999*10 ^ 11:=wx (by omega) h3
   omega
  rw [bF,au h4]
  simp
theorem AA {g l:Bool} {dg:aa} {x q:Int} {m d:aa} {k0 k1 k2:Int} (h:okY g l dg x q) (hl:pX g dg x=false) (hq:0<q->m=[]) (hm:m=[]\/0<sea m\/(sea m=0/\dH m 12=true)) (hd:d=[]\/(m≠[]/\sea m=0/\dH d 31=true)) (hk:allM k0 k1 k2 (bi m d)=0):chkD g l dg x q m d k0 k1 k2=0:=by
 have hy:yrD g l dg x q m=true:=by
  unfold yrD yrB
  rw [ae h,hl]
  by_cases h0:0<q
  ·rw [hq h0];simp
  ·simp [h0]
 unfold chkD
 rw [hy,hk]
 have c1:(!(m==[])&&(!(decide (0<sea m))&&!(dH m 12)))=false:=by
  rcases hm with h | h | ⟨_,h⟩
  ·rw [h];rfl
  ·rw [ar h];simp
  ·rw [h];simp
 have c2:(!(d==[])&&((m==[])||(decide (0<sea m)||!(dH d 31))))=false:=by
  rcases hd with h | ⟨h1,h2,h3⟩
  ·rw [h];rfl
  ·rw [aM.2 h1,h2,h3];simp
 rw [c1,c2]
 rfl
def minL (mo:Nat):Nat:=if mo=2 then 28 else if mo=4\/mo=6\/mo=9\/mo=11 then 30 else 31
def fitD (mo d:aa):Bool:=(List.range' 1 12).any λi=>agr mo i&&(List.range' 1 (minL i)).any (agr d)
theorem Mq:((((List.range 12).map λi=>two (i+1))++[[48,88],[49,88],[88,50],[88,88],[88,48],[88,57]]).all λmo=>(List.range 40).all λj=>(dayT j mo==[])||fitD mo (dayT j mo))=true:=by decide +kernel
theorem DU {j:Nat} (h:j<40) {mo:aa} (hm:mo∈((List.range 12).map λi=>two (i+1))++[[48,88],[49,88],[88,50],[88,88],[88,48],[88,57]]):dayT j mo=[]\/fitD mo (dayT j mo)=true:=by
 have:=r40 ((cL.1 Mq) mo hm) h
 simp only [gB,bD] at this
 exact this
theorem Pb (m a0 a2 a3 a4 a5 a6 a7 a8 a9:Nat) (g:Bool) (h2:a2<65536) (h3:a3<256) (h4:a4<256) (h5:a5<256) (h6:a6<256) (h7:a7<256) (h8:a8<256) (h9:a9<256):
  ∃g' l dg x q mo d k0 k1 k2,aF (m+300) (a0:Int) g (a2:Int) (a3:Int) (a4:Int) (a5:Int) (a6:Int) (a7:Int) (a8:Int) (a9:Int)=some (g',l,dg,((x:Nat):Int),((q:Nat):Int),mo,d,((k0:Nat):Int),((k1:Nat):Int),((k2:Nat):Int))/\chkD g' l dg (x:Int) (q:Int) mo d (k0:Int) (k1:Int) (k2:Int)=0/\OkD g' l dg x q mo d k0 k1 k2/\(d=[]\/fitD mo d=true):=by
 obtain ⟨g',l,dg,x,q,e,hY,hd5,hx11⟩:=O0 m a0 a2 a3 a4 g h2 h3 h4
 have hL:=Db hY hd5 hx11
 obtain ⟨s1,s2,s3,s4,s5,s6⟩:=ir hY
 suffices H:∃mo d,aF (m+300) (a0:Int) g (a2:Int) (a3:Int) (a4:Int) (a5:Int) (a6:Int) (a7:Int) (a8:Int) (a9:Int)=some (g',l,dg,x,q,mo,d,((mksT (bi mo d) a7 a8 a9).1:Int),((mksT (bi mo d) a7 a8 a9).2.1:Int),((mksT (bi mo d) a7 a8 a9).2.2:Int))/\chkD g' l dg x q mo d ((mksT (bi mo d) a7 a8 a9).1:Int) ((mksT (bi mo d) a7 a8 a9).2.1:Int) ((mksT (bi mo d) a7 a8 a9).2.2:Int)=0/\(d=[]\/fitD mo d=true) by
  obtain ⟨mo,d,h1,h2,hf⟩:=H
  obtain ⟨x',q',a,b,c,e1,e2,e3,e4,e5,hok⟩:=A3 (by omega) (by omega) (by omega) h2
  subst e1 e2
  refine ⟨g',l,dg,x',q',mo,d,a,b,c,?_,?_,hok,hf⟩
  ·rw [h1,e3,e4,e5]
  ·rw [<-e3,<-e4,<-e5];exact h2
 have t7:Int.tmod (a7:Int) 4=((a7%4:Nat):Int):=rfl
 have t8:Int.tmod (a8:Int) 4=((a8%4:Nat):Int):=rfl
 have t9:Int.tmod (a9:Int) 4=((a9%4:Nat):Int):=rfl
 have tail:∀(mo d:aa) (o:Option (Bool×Bool×aa×Int×Int×aa×aa×Int×Int×Int)),
   (ob (ak (m+300) g' l dg x q mo d 0 0 0) λr=>(cond (decide ((0:Int)<r)) (ob (ak (m+300) g' l dg x q mo d (Int.tmod (a7:Int) 4) 0 0) λr=>(cond (decide ((1:Int)<r)) (ob (ak (m+300) g' l dg x q mo d (Int.tmod (a7:Int) 4) (Int.tmod (a8:Int) 4) 0) λr=>(cond (decide ((2:Int)<r)) (ob (ak (m+300) g' l dg x q mo d (Int.tmod (a7:Int) 4) (Int.tmod (a8:Int) 4) (Int.tmod (a9:Int) 4)) λr=>(cond (decide ((3:Int)<r)) none (some (g',l,dg,x,q,mo,d,(Int.tmod (a7:Int) 4),(Int.tmod (a8:Int) 4),(Int.tmod (a9:Int) 4))))) (some (g',l,dg,x,q,mo,d,(Int.tmod (a7:Int) 4),(Int.tmod (a8:Int) 4),0)))) (some (g',l,dg,x,q,mo,d,(Int.tmod (a7:Int) 4),0,0)))) (some (g',l,dg,x,q,mo,d,0,0,0))))=some (g',l,dg,x,q,mo,d,((mksT (bi mo d) a7 a8 a9).1:Int),((mksT (bi mo d) a7 a8 a9).2.1:Int),((mksT (bi mo d) a7 a8 a9).2.2:Int)):=by
  intro mo d _
  have hc:=ki mo d
  have:bi mo d=1\/bi mo d=2\/bi mo d=3:=by omega
  rw [cV,cV,cV,cV]
  rcases this with h | h | h<;>rw [h]<;>rfl
 unfold aF
 rw [e]
 simp only [ob,d4]
 rw [gR]
 by_cases hq:q=0
 ·rw [ae hq]
  rw [yy m _ _ _ _ _ a5 _ _ _ _ h5]
  have h40:a5%40<40:=by omega
  have hmo:=IG h40
  have hml:=AF h40
  generalize monT (a5%40)=mo at hmo hml ⊢
  show ∃mo_1 d,cond (!(mo==[])) _ _=_/\_
  by_cases hm0:mo=[]
  ·subst hm0
   refine ⟨[],[],tail [] [] none,?_,.inl rfl⟩
   exact AA hY hL (λ_=>rfl) (.inl rfl) (.inl rfl) (wV _ _ _ _)
  ·rw [aM.2 hm0]
   show ∃mo_1 d,ob (aK (m+300) g' l dg x q mo [] 0 0 0) _=_/\_
   rw [kI (m+300) (by omega)]
   show ∃mo_1 d,cond (sea mo==0) _ _=_/\_
   rw [gR]
   by_cases hs:sea mo=0
   ·rw [ae hs]
    have hin:=hml hs hm0
    rw [Dk m _ _ _ _ _ _ a6 _ _ _ mo hin h6]
    have hd:=GY (show a6%40<40 by omega) hin
    have hfit:=DU (show a6%40<40 by omega) hin
    generalize dayT (a6%40) mo=d at hd hfit ⊢
    refine ⟨mo,d,tail mo d none,?_,hfit⟩
    refine AA hY hL (λz=>by omega) hmo ?_ (wV _ _ _ _)
    rcases hd with hd | hd
    ·exact .inl hd
    ·exact .inr ⟨hm0,hs,hd⟩
   ·rw [ab hs]
    refine ⟨mo,[],tail mo [] none,?_,.inl rfl⟩
    exact AA hY hL (λz=>by omega) hmo (.inl rfl) (wV _ _ _ _)
 ·rw [ab hq]
  refine ⟨[],[],tail [] [] none,?_,.inl rfl⟩
  exact AA hY hL (λ_=>rfl) (.inl rfl) (.inl rfl) (wV _ _ _ _)
theorem Hb (n:Nat) (g l:Bool) (dg:aa) (x q:Int) (m d:aa) (k0 k1 k2:Int) (hm:m.length<=18):aZ n g l dg x q m d k0 k1 k2=some (if d=[] then (if 0<sea m then 0 else if m=[] then 1 else 2) else 3):=by
 unfold aZ
 rw [se n g l dg x q m d k0 k1 k2 hm]
 by_cases hd:d=[]
 ·rw [ae hd,hd]
  show cond (decide (0<sea m)) _ _=_
  rw [bP]
  by_cases hs:0<sea m
  ·rw [ae hs,ae hs]
  ·rw [ab hs,ab hs]
   by_cases hm:m=[]
   ·rw [ae hm,hm];rfl
   ·rw [ab hm,aM.2 hm];rfl
 ·rw [ab hd,aM.2 hd];rfl
theorem J2 (n:Nat) (g l:Bool) (dg:aa) (x q:Int) (m d:aa) (k0 k1 k2:Int) (hm:m.length<=18) (hd:dg.length<=100) (h0:0<=k0) (h1:0<=k1) (h2:0<=k2):
  eU (n+300) g l dg x q m d k0 k1 k2=some (if chkD g l dg x q m d k0 k1 k2=0 then (rf g l dg x q m d k0.toNat k1.toNat k2.toNat,0) else ([],chkD g l dg x q m d k0 k1 k2)):=by
 by_cases hc:chkD g l dg x q m d k0 k1 k2=0
 ·obtain ⟨x',q',a,b,c,e1,e2,e3,e4,e5,hok⟩:=A3 h0 h1 h2 hc
  subst e1 e2 e3 e4 e5
  exact MK n g l dg x' q' m d a b c hm hd
 ·rw [ab hc]
  unfold eU
  rw [ze (n+300) (by omega) g l dg _ _ m d _ _ _ hm hd h0 h1 h2]
  show cond (chkD g l dg x q m d k0 k1 k2 != 0) _ _=_
  rw [uj,ab hc]
theorem H5 (n:Nat) {g l:Bool} {dg:aa} {x q:Int} {m d:aa} {k0 k1 k2:Int} (h0:0<=k0) (h1:0<=k1) (h2:0<=k2) (hc:chkD g l dg x q m d k0 k1 k2=0):
  d7 (n+300) g l dg x q m d k0 k1 k2=some (rf g l dg x q m d k0.toNat k1.toNat k2.toNat):=by
 obtain ⟨x',q',a,b,c,e1,e2,e3,e4,e5,hok⟩:=A3 h0 h1 h2 hc
 subst e1 e2 e3 e4 e5
 exact FL n hok
theorem ux (a b:aa):hasX (a++b)=(hasX a||hasX b):=by unfold hasX;rw [List.any_append]
theorem AY (n:Nat) (g l:Bool) (dg:aa) (x q:Int) (m d:aa) (k0 k1 k2:Int) (hm:m.length<=1000) (hd:dg.length<=1000) (h:d.length<=1000):
  fw n g l dg x q m d k0 k1 k2=some (hasX dg||(hasX m||hasX d)):=by
 unfold fw
 rw [bM (by omega)]
 simp only [ob]
 rw [bM (by simp only [aN];omega)]
 simp only [ob]
 rw [A6,ux,ux,Bool.or_assoc]
def Aj (d:aa) (k q:Nat):Nat×Nat:=if 0<q then (val d k / 10 ^ (d.length+k - q)*10 ^ (d.length+k - q),min (val d k / 10 ^ (d.length+k - q)*10 ^ (d.length+k - q)+10 ^ (d.length+k - q) - 1) E16) else (val d k,val d k)
def sgn (g:Bool) (p:Nat×Nat):Int×Int:=if g then (-(p.2:Int),-(p.1:Int)) else ((p.1:Int),(p.2:Int))
theorem AT (n:Nat) (g l:Bool) (d:aa) (k q:Nat) (hn:200<n) (hd:d.length<=100) (hN:Num d k q):
  aI n g l d (k:Int) (q:Int)=some (sgn g (Aj d k q)):=by
 have hw:=hN.wide
 have hs:=hN.small
 have hq:=hN.sig
 unfold aI
 rw [nX n g l d k q (by omega) (by omega),sK hN.dig,iQ n d k hN.dig hd (by omega) (by omega),ae hs]
 have hv:dval 0 d*10 ^ k=val d k:=rfl
 rw [hv] at hs ⊢
 unfold E16 at hs
 have z01:((if false=true then (1:Int) else 0)==1)=false:=rfl
 simp only [ob,z01,af]
 by_cases h0:0<q
 ·have e0:decide ((q:Int)>0)=true:=ar (by omega)
  have w0:IntKind.wrap .i64 (IntKind.wrap .i64 (((d.length:Nat):Int)+(k:Int)) - (q:Int))=((d.length+k - q:Nat):Int):=by
   rw [wrap_i64 (((d.length:Nat):Int)+(k:Int)) (by omega) (by omega),wrap_i64 _ (by omega) (by omega)]
   omega
  have hu2:10 ^ (d.length+k - q)<=10 ^ 16:=jS (by decide) (by omega)
  have h16:(10:Nat) ^ 16=10000000000000000:=by decide
  have one:dval 0 [49]=1:=by decide
  have hone:dval 0 [49]*10 ^ (d.length+k - q)<=E16:=by rw [one];unfold E16;omega
  rw [e0,w0,iQ n [49] (d.length+k - q) (by decide) (by decide) (by omega) (by simp;omega),ae hone,one,vN]
  simp only [aj]
  have hu:1<=10 ^ (d.length+k - q):=yT _ _ (by decide)
  unfold sgn Aj
  rw [ae h0]
  clear hone
  generalize 10 ^ (d.length+k - q)=u at *
  generalize val d k=v at *
  have d2:(((u:Nat):Int)==0)=false:=aM.2 (by omega)
  have hdiv:Int.tdiv ((v:Nat):Int) ((u:Nat):Int)=((v / u:Nat):Int):=rfl
  have hle:v / u*u<=v:=Cn v u
  have hle2:v / u<=v:=Cw v u
  have w1:IntKind.wrap .i64 ((v / u:Nat):Int)=((v / u:Nat):Int):=by
   generalize v / u=t at *
   exact wrap_i64 _ (by omega) (by omega)
  have w2:IntKind.wrap .i64 (((v / u:Nat):Int)*((u:Nat):Int))=((v / u*u:Nat):Int):=by
   rw [<-EZ];exact wrap_i64 _ (by omega) (by omega)
  rw [d2,af,hdiv,w1,w2]
  generalize v / u*u=lo at *
  have w3:IntKind.wrap .i64 (IntKind.wrap .i64 (((lo:Nat):Int)+((u:Nat):Int)) - 1)=((lo+u - 1:Nat):Int):=by
   rw [wrap_i64 (((lo:Nat):Int)+((u:Nat):Int)) (by omega) (by omega),wrap_i64 _ (by omega) (by omega)]
   omega
  rw [w3]
  have hmin:(cond (decide ((10000000000000000:Int)<((lo+u - 1:Nat):Int))) (10000000000000000:Int) ((lo+u - 1:Nat):Int))=((min (lo+u - 1) E16:Nat):Int):=by
   unfold E16
   by_cases hm:(10000000000000000:Int)<((lo+u - 1:Nat):Int)
   ·rw [ar hm,aj];omega
   ·rw [au hm,af];omega
  rw [hmin]
  have hmE:min (lo+u - 1) E16<=10000000000000000:=CT _ _
  generalize min (lo+u - 1) E16=hi at *
  cases g with
  | true=>
   simp only [aj,aO]
   rw [wrap_i64 _ (by omega) (by omega),wrap_i64 _ (by omega) (by omega),yo,yo]
  | false=>simp
 ·have e0:decide ((q:Int)>0)=false:=au (by omega)
  rw [e0,af]
  unfold sgn Aj
  rw [ab h0]
  cases g with
  | true=>
   simp only [aj,aO]
   rw [wrap_i64 _ (by omega) (by omega),yo]
  | false=>simp
def ee (z:UInt8) (d:aa):aa:=d.map λc=>if c=88 then z else c
theorem iy (z:UInt8) (d:aa):(ee z d).length=d.length:=by simp [ee]
theorem pR {z:UInt8} (hz:bp z=true) {d:aa} (h:∀c∈d,bp c=true\/c=88):∀c∈ee z d,bp c=true:=by
 intro c hc
 obtain ⟨b,hb,rfl⟩:=dQ.1 hc
 by_cases hx:b=88
 ·rw [ae hx];exact hz
 ·rw [ab hx]
  exact (h b hb).resolve_right hx
theorem uU {z:UInt8} {d:aa} {i:Nat} {c:UInt8} (h:d[i]?=some c):(ee z d)[i]?=some (if c=88 then z else c):=by
 simp [ee,h]
def sA (d:aa):Nat:=10 ^ (d.reverse.takeWhile (λc=>c != 88)).length
def jY (g:Bool) (d:aa):Nat×Nat:=(if g=true/\dval 0 (ee 48 d)=0 then sA d else dval 0 (ee 48 d),dval 0 (ee 57 d))
theorem Nb (m:Nat):aI (m+300) true false [48,48,48,88] 0 0=some (sgn true (jY true [48,48,48,88])):=by kernel_rfl
theorem Nh (m:Nat):aI (m+300) true false [48,48,88,48] 0 0=some (sgn true (jY true [48,48,88,48])):=by kernel_rfl
theorem Nd (m:Nat):aI (m+300) true false [48,48,88,88] 0 0=some (sgn true (jY true [48,48,88,88])):=by kernel_rfl
theorem Nm (m:Nat):aI (m+300) true false [48,88,48,48] 0 0=some (sgn true (jY true [48,88,48,48])):=by kernel_rfl
theorem MB (m:Nat):aI (m+300) true false [48,88,48,88] 0 0=some (sgn true (jY true [48,88,48,88])):=by kernel_rfl
theorem NJ (m:Nat):aI (m+300) true false [48,88,88,48] 0 0=some (sgn true (jY true [48,88,88,48])):=by kernel_rfl
theorem Np (m:Nat):aI (m+300) true false [48,88,88,88] 0 0=some (sgn true (jY true [48,88,88,88])):=by kernel_rfl
theorem MM (m:Nat):aI (m+300) true false [88,48,48,48] 0 0=some (sgn true (jY true [88,48,48,48])):=by kernel_rfl
theorem M6 (m:Nat):aI (m+300) true false [88,48,48,88] 0 0=some (sgn true (jY true [88,48,48,88])):=by kernel_rfl
theorem NC (m:Nat):aI (m+300) true false [88,48,88,48] 0 0=some (sgn true (jY true [88,48,88,48])):=by kernel_rfl
theorem JB (m:Nat):aI (m+300) true false [88,48,88,88] 0 0=some (sgn true (jY true [88,48,88,88])):=by kernel_rfl
theorem Kh (m:Nat):aI (m+300) true false [88,88,48,48] 0 0=some (sgn true (jY true [88,88,48,48])):=by kernel_rfl
theorem KX (m:Nat):aI (m+300) true false [88,88,48,88] 0 0=some (sgn true (jY true [88,88,48,88])):=by kernel_rfl
theorem KJ (m:Nat):aI (m+300) true false [88,88,88,48] 0 0=some (sgn true (jY true [88,88,88,48])):=by kernel_rfl
theorem J0 (m:Nat):aI (m+300) true false [88,88,88,88] 0 0=some (sgn true (jY true [88,88,88,88])):=by kernel_rfl
theorem AE {d:aa} (hl:d.length=4) (h:∀c∈d,bp c=true\/c=88) (hz:dval 0 (ee 48 d)=0):∀c∈d,c=48\/c=88:=by
 match d,hl with
 | [a,b,c,e],_=>
  have hd:=pR (z:=48) (by decide) h
  have h2:dval 0 (ee 48 [a,b,c,e])=((((0*10+((if a=88 then (48:UInt8) else a).toNat - 48))*10+((if b=88 then (48:UInt8) else b).toNat - 48))*10+((if c=88 then (48:UInt8) else c).toNat - 48))*10+((if e=88 then (48:UInt8) else e).toNat - 48)):=by
   simp only [ee,fS,List.map_nil,ot,pc,ub]
  rw [h2] at hz
  have key:∀x:UInt8,bp (if x=88 then (48:UInt8) else x)=true->(if x=88 then (48:UInt8) else x).toNat - 48=0->x=48\/x=88:=by
   intro x hx h0
   by_cases hx8:x=88
   ·exact .inr hx8
   ·rw [ab hx8] at hx h0
    have:=(dl x).1 hx
    exact .inl (ip.1 (by show x.toNat=48;omega))
  simp only [ee,fS,List.map_nil,cU,qc,qV,zA,forall_eq] at hd ⊢
  exact ⟨key a hd.1 (by omega),key b hd.2.1 (by omega),key c hd.2.2.1 (by omega),key e hd.2.2.2 (by omega)⟩
theorem xR {d:aa} (hl:d.length=4) (h:∀c∈d,c=48\/c=88) (hX:hasX d=true) (P:aa->Prop) (h0:P [48,48,48,88]) (h1:P [48,48,88,48]) (h2:P [48,48,88,88]) (h3:P [48,88,48,48]) (h4:P [48,88,48,88]) (h5:P [48,88,88,48]) (h6:P [48,88,88,88]) (h7:P [88,48,48,48]) (h8:P [88,48,48,88]) (h9:P [88,48,88,48]) (h10:P [88,48,88,88]) (h11:P [88,88,48,48]) (h12:P [88,88,48,88]) (h13:P [88,88,88,48]) (h14:P [88,88,88,88]):P d:=by
 match d,hl with
 | [a,b,c,e],_=>
  simp only [cU,qc,qV,zA,forall_eq] at h
  obtain ⟨ha,hb,hc,he⟩:=h
  rcases ha with rfl | rfl<;>rcases hb with rfl | rfl<;>rcases hc with rfl | rfl<;>rcases he with rfl | rfl
  ·exact absurd hX (by decide)
  ·exact h0
  ·exact h1
  ·exact h2
  ·exact h3
  ·exact h4
  ·exact h5
  ·exact h6
  ·exact h7
  ·exact h8
  ·exact h9
  ·exact h10
  ·exact h11
  ·exact h12
  ·exact h13
  ·exact h14
theorem CN (n:Nat) (g l:Bool) (d:aa) (x s:Int) (hl:d.length=4) (hn:4<n):aw (fA n) n ([],[],0,g,l,d,x,s)=some (ee 48 d,ee 57 d,g,l,d,x,s):=by
 refine fe (step:=fA n) (λq=>∃i:Nat,i<=4/\q=((ee 48 d).take i,(ee 57 d).take i,(i:Int),g,l,d,x,s)) (λq=>4 - q.2.2.1.toNat) (λ_=>(ee 48 d,ee 57 d,g,l,d,x,s)) ?_ n _ ⟨0,by omega,by simp⟩ (by simp;omega)
 rintro q ⟨i,hi,rfl⟩
 rcases aG i 4 with hlt | hge
 ·obtain ⟨c,hc⟩:∃c,d[i]?=some c:=⟨d[i],bm (by omega)⟩
  have hf1:=Oa (uU (z:=48) hc)
  have hf2:=Oa (uU (z:=57) hc)
  have d1:decide ((i:Int)<4)=true:=ar (by omega)
  have w1:IntKind.wrap .i64 ((i:Int)+1)=((i+1:Nat):Int):=by rw [wrap_i64 _ (by omega) (by omega)];omega
  refine .inl ⟨((ee 48 d).take (i+1),(ee 57 d).take (i+1),((i+1:Nat):Int),g,l,d,x,s),?_,⟨i+1,by omega,rfl⟩,by simp only [bF];omega,rfl⟩
  simp only [fA,d1,aj,w1,dG (show i+1<=d.length by omega),dG (show i<=i+1 by omega),ob,cut1 hc]
  have ht:∀z:UInt8,((ee z d).take i).length<=4:=λz=>by rw [cE];omega
  rw [hf1,hf2]
  by_cases hx:c=88
  ·have e:(([c]:aa)==[88])=true:=by rw [hx];rfl
   rw [e,aj,ae hx,ae hx,bM (by have:=ht 48;simp;omega),bM (by have:=ht 57;simp;omega)]
  ·have e:(([c]:aa)==[88])=false:=by
    rw [aM];intro e;exact hx (by simpa using e)
   rw [e,af,ab hx,ab hx,bM (by have:=ht 48;simp;omega),bM (by have:=ht 57;simp;omega)]
 ·have:i=4:=by omega
  subst this
  refine .inr ?_
  rw [iI (by rw [iy];omega),iI (by rw [iy];omega)]
  rfl
theorem F5 {d:aa} (h:d=[48,48,48,48]):dval 0 d=0:=by rw [h];decide
theorem zb (m:Nat) (g:Bool) (d:aa) (h:okY g false d 0 0) (hX:hasX d=true):aI (m+300) g false d 0 0=some (sgn g (jY g d)):=by
 obtain ⟨_,_,_,hl,hd⟩:=pD h hX
 by_cases hz:g=true/\dval 0 (ee 48 d)=0
 ·obtain ⟨rfl,hz⟩:=hz
  exact xR hl (AE hl hd hz) hX (λd=>aI (m+300) true false d 0 0=some (sgn true (jY true d))) (Nb m) (Nh m) (Nd m) (Nm m) (MB m) (NJ m) (Np m) (MM m) (M6 m) (NC m) (JB m) (Kh m) (KX m) (KJ m) (J0 m)
 ·have hs:jY g d=(dval 0 (ee 48 d),dval 0 (ee 57 d)):=by unfold jY;rw [ab hz]
  have d48:=pR (z:=48) (by decide) hd
  have d57:=pR (z:=57) (by decide) hd
  have h1:=qa (ee 48 d) 0 0 d48 (by simp)
  have h2:=qa (ee 57 d) 0 0 d57 (by simp)
  rw [iy,hl] at h1 h2
  have h4:(10:Nat) ^ (4+0)=10000:=by decide
  have m1:am (m+300) (ee 48 d) 0=some (((dval 0 (ee 48 d):Nat):Int),1):=by
   have:=iQ (m+300) (ee 48 d) 0 d48 (by rw [iy];omega) (by omega) (by rw [iy];omega)
   rw [ae (by unfold E16;simp only [z8,pN];omega)] at this
   simpa using this
  have m2:am (m+300) (ee 57 d) 0=some (((dval 0 (ee 57 d):Nat):Int),1):=by
   have:=iQ (m+300) (ee 57 d) 0 d57 (by rw [iy];omega) (by omega) (by rw [iy];omega)
   rw [ae (by unfold E16;simp only [z8,pN];omega)] at this
   simpa using this
  have z11:((if true=true then (1:Int) else 0)==1)=true:=rfl
  have z0:decide ((0:Int)>0)=false:=rfl
  unfold aI
  rw [nX _ g false d 0 0 (by omega) (by omega),hX,CN _ g false d 0 0 hl (by omega),hs]
  simp only [ob,aO,BEq.rfl,aj]
  cases g with
  | true=>
   have e:(ee 48 d==([48,48,48,48]:aa))=false:=by
    rw [aM]
    intro e
    exact hz ⟨rfl,F5 e⟩
   simp only [aj,e,af,m1,m2,z0,sgn,aO]
   generalize dval 0 (ee 48 d)=a at *
   generalize dval 0 (ee 57 d)=b at *
   rw [wrap_i64 _ (by omega) (by omega),wrap_i64 _ (by omega) (by omega),yo,yo]
  | false=>simp only [af,m1,m2,z0,sgn,bV,aD]
def mN (g:Bool) (d:aa) (x s:Int):Nat×Nat:=if hasX d then jY g d else Aj d x.toNat s.toNat
theorem KS (m:Nat) (g l:Bool) (d:aa) (x s:Int) (hd:d.length<=100) (h:okY g l d x s):aI (m+300) g l d x s=some (sgn g (mN g d x s)):=by
 unfold mN
 cases hX:hasX d with
 | true=>
  obtain ⟨rfl,rfl,rfl,hl,hdd⟩:=pD h hX
  exact zb m g d h hX
 | false=>
  obtain ⟨k,q,rfl,rfl,hN⟩:=qM h hX
  exact AT _ g l d k q (by omega) hd hN
theorem Mi {d:aa} {k q:Nat} (h:Num d k q):(Aj d k q).1<=val d k/\val d k<=(Aj d k q).2/\(Aj d k q).2<=E16:=by
 have hs:=h.small
 have hv:dval 0 d*10 ^ k=val d k:=rfl
 rw [hv] at hs
 unfold Aj
 split
 ·have hu:1<=10 ^ (d.length+k - q):=yT _ _ (by decide)
  generalize 10 ^ (d.length+k - q)=u at hu ⊢
  generalize val d k=v at hs ⊢
  have h1:=Cn v u
  have h2:v<v / u*u+u:=by
   have h:=Nat.div_add_mod v u
   have:=pO v hu
   rw [wm] at h
   omega
  refine ⟨h1,?_,CT _ _⟩
  rw [Nat.le_min]
  omega
 ·exact ⟨aW _,aW _,hs⟩
def mtk (d:aa):Nat->Nat->Bool
 | 0,_=>true
 | k+1,w=>(decide (d.getD k 0=88)||decide ((d.getD k 0).toNat=48+w%10))&&mtk d k (w / 10)
theorem y4 (d:aa) (k w:Nat):mtk d (k+1) w=((decide (d.getD k 0=88)||decide ((d.getD k 0).toNat=48+w%10))&&mtk d k (w / 10)):=rfl
theorem yA {d:aa} {k:Nat} {c:UInt8} (h:d[k]?=some c):d.getD k 0=c:=by
 rw [DS,h];rfl
theorem In (n:Nat) (g l:Bool) (d:aa) (x s:Int) (hl:d.length=4):∀(k w:Nat),k<=4->w<100000000000000000->∀q,k<q->
  aw (bH n) q ((w:Int),(k:Int) - 1,g,l,d,x,s)=some (if mtk d k w=true then .inr ((w / 10 ^ k:Nat):Int) else .inl 0)
 | 0,w,hk,hw,q,hq=>by
  obtain ⟨q,rfl⟩:∃p,q=p+1:=⟨q - 1,by omega⟩
  have d1:decide (((0:Nat):Int) - 1>=0)=false:=rfl
  have hm0:mtk d 0 w=true:=rfl
  simp only [aw,bH,d1,af]
  rw [ae hm0]
  simp
 | k+1,w,hk,hw,q,hq=>by
  obtain ⟨q,rfl⟩:∃p,q=p+1:=⟨q - 1,by omega⟩
  have ih:=In n g l d x s hl k (w / 10) (by omega) (by omega) q (by omega)
  obtain ⟨c,hc⟩:∃c,d[k]?=some c:=⟨d[k],bm (by omega)⟩
  have e0:((k+1:Nat):Int) - 1=(k:Int):=by omega
  have d1:decide ((k:Int)>=0)=true:=ar (by omega)
  have em:Int.tmod (w:Int) 10=((w%10:Nat):Int):=rfl
  have eq':Int.tdiv (w:Int) 10=((w / 10:Nat):Int):=rfl
  have w1:IntKind.wrap .i64 (48+((w%10:Nat):Int))=((48+w%10:Nat):Int):=by rw [wrap_i64 _ (by omega) (by omega)];omega
  have w2:IntKind.wrap .u8 ((48+w%10:Nat):Int)=((48+w%10:Nat):Int):=fN _ (by omega) (by omega)
  have w3:IntKind.wrap .i64 ((w / 10:Nat):Int)=((w / 10:Nat):Int):=wrap_i64 _ (by omega) (by omega)
  have w4:IntKind.wrap .i64 ((k:Int) - 1)=(k:Int) - 1:=wrap_i64 _ (by omega) (by omega)
  have hdiv:w / 10 ^ (k+1)=w / 10 / 10 ^ k:=by rw [rF,wm,Nat.div_div_eq_div_mul]
  rw [y4,yA hc,hdiv,e0]
  simp only [aw,bH,d1,aj,iw hc,ob,em,eq',w1,w2,w3,w4]
  by_cases hx:c=88
  ·have e1:(((c.toNat:Nat):Int) != 88)=false:=by rw [hx];rfl
   rw [e1,ar hx]
   simp only [af,D5,mJ]
   exact ih
  ·have e1:(((c.toNat:Nat):Int) != 88)=true:=by
    simp only [bne,kx,aM]
    intro e
    exact hx (ip.1 (by show c.toNat=88;omega))
   rw [e1,au hx]
   simp only [aj,tK]
   by_cases hm:c.toNat=48+w%10
   ·have e2:(((c.toNat:Nat):Int) != ((48+w%10:Nat):Int))=false:=by rw [hm];simp
    rw [e2,ar hm]
    simp only [af,mJ]
    exact ih
   ·have e2:(((c.toNat:Nat):Int) != ((48+w%10:Nat):Int))=true:=by
     simp only [bne,kx,aM]
     omega
    rw [e2,au hm]
    simp only [aj,E8]
    rfl
def CD (d:aa) (k q:Nat):Nat:=if 0<q then 10 ^ (d.length+k - q) else 1
def memP (d:aa) (x s:Int) (w:Nat):Prop:=if hasX d=true then mtk d 4 w=true/\w / 10 ^ 4=0 else val d x.toNat / CD d x.toNat s.toNat=w / CD d x.toNat s.toNat
instance (d:aa) (x s:Int) (w:Nat):Decidable (memP d x s w):=by unfold memP;infer_instance
def wOf (g:Bool) (v:Int):Int:=if g then -v else v
def inP (g:Bool) (d:aa) (x s v:Int):Prop:=-10000000000000000<=v/\v<=10000000000000000/\0<=wOf g v/\¬(hasX d=true/\g=true/\wOf g v=0)/\memP d x s (wOf g v).toNat
instance (g:Bool) (d:aa) (x s v:Int):Decidable (inP g d x s v):=by unfold inP;infer_instance
noncomputable def inT (n:Nat) (a0 a1:Bool) (a2:aa) (a3 a4 W:Int):Option Int:=
 (ob (aC n a0 a1 a2 a3 a4) λr221=>(cond (r221==1) (ob (aw (bH n) n (W,3,a0,a1,a2,a3,a4)) λy222=>(Sum.casesOn (motive:=λ_=>Option _) y222 (λa223=>(some a223)) (λb224=>(cond (decide (b224>0)) (some 0) (some 1))))) (ob (am n a2 a3) λr225=>(cond (decide (a4>0)) (ob (am n [49] (IntKind.wrap .i64 ((IntKind.wrap .i64 (((List.length a2:Nat):Int)+a3)) - a4))) λr226=>(cond (r226.1==0) none (cond (r226.1==0) none (cond ((IntKind.wrap .i64 (Int.tdiv r225.1 r226.1))==(IntKind.wrap .i64 (Int.tdiv W r226.1))) (some 1) (some 0))))) (cond ((IntKind.wrap .i64 (Int.tdiv r225.1 1))==(IntKind.wrap .i64 (Int.tdiv W 1))) (some 1) (some 0))))))
theorem Ho (a b:Nat):(((a:Nat):Int)==((b:Nat):Int))=decide (a=b):=by
 by_cases h:a=b
 ·subst h;simp
 ·rw [au h,aM];omega
theorem E6 {d:aa} {x s:Int} {w:Nat} (hX:hasX d=true):memP d x s w↔mtk d 4 w=true/\w / 10 ^ 4=0:=by unfold memP;rw [ae hX]
theorem LE {d:aa} {x s:Int} {w:Nat} (hX:hasX d=false):memP d x s w↔val d x.toNat / CD d x.toNat s.toNat=w / CD d x.toNat s.toNat:=by unfold memP;rw [ab (by rw [hX];simp)]
theorem in_T (m:Nat) {g l:Bool} {d:aa} {x s:Int} (hok:okY g l d x s) (w:Nat) (hw:w<=10000000000000000):inT (m+300) g l d x s (w:Int)=some (if memP d x s w then 1 else 0):=by
 have hsm:=ir hok
 have hM:=nX (m+300) g l d x s (by omega) (by omega)
 unfold inT
 cases hX:hasX d with
 | true=>
  obtain ⟨rfl,rfl,rfl,hl,_⟩:=pD hok hX
  have hlp:=In (m+300) g false d 0 0 hl 4 w (by omega) (by omega) (m+300) (by omega)
  have hlp':aw (bH (m+300)) (m+300) ((w:Int),3,g,false,d,0,0)=_:=hlp
  have z11:((1:Int)==1)=true:=rfl
  have hMt:aC (m+300) g false d 0 0=some 1:=by rw [hM,hX];rfl
  rw [hMt]
  simp only [ob,z11,aj,hlp']
  by_cases h1:mtk d 4 w=true
  ·rw [ae h1]
   by_cases h2:w / 10 ^ 4=0
   ·have e:decide (((w / 10 ^ 4:Nat):Int)>0)=false:=au (by rw [h2];decide)
    rw [ae ((E6 hX).2 ⟨h1,h2⟩)]
    simp only [e,af]
   ·have e:decide (((w / 10 ^ 4:Nat):Int)>0)=true:=ar (by
     generalize w / 10 ^ 4=t at h2 ⊢
     omega)
    rw [ab (λq=>h2 ((E6 hX).1 q).2)]
    simp only [e,aj]
  ·rw [ab h1,ab (λq=>h1 ((E6 hX).1 q).1)]
 | false=>
  obtain ⟨k,q,rfl,rfl,hN⟩:=qM hok hX
  have hw':=hN.wide
  have hs:=hN.small
  have hq:=hN.sig
  have hv:dval 0 d*10 ^ k=val d k:=rfl
  have hm:=iQ (m+300) d k hN.dig (by omega) (by omega) (by omega)
  rw [ae hs,hv] at hm
  rw [hv] at hs
  unfold E16 at hs
  have z01:((0:Int)==1)=false:=rfl
  have hMt:aC (m+300) g l d k q=some 0:=by rw [hM,hX];rfl
  have hmp:=LE (x:=(k:Int)) (s:=(q:Int)) (w:=w) hX
  rw [bF,bF] at hmp
  unfold CD at hmp
  rw [hMt]
  simp only [ob,z01,af,hm]
  by_cases h0:0<q
  ·have e0:decide ((q:Int)>0)=true:=ar (by omega)
   have w0:IntKind.wrap .i64 (IntKind.wrap .i64 (((d.length:Nat):Int)+(k:Int)) - (q:Int))=((d.length+k - q:Nat):Int):=by
    rw [wrap_i64 (((d.length:Nat):Int)+(k:Int)) (by omega) (by omega),wrap_i64 _ (by omega) (by omega)]
    omega
   have hu2:10 ^ (d.length+k - q)<=10 ^ 16:=jS (by decide) (by omega)
   have h16:(10:Nat) ^ 16=10000000000000000:=by decide
   have one:dval 0 [49]=1:=by decide
   have hone:dval 0 [49]*10 ^ (d.length+k - q)<=E16:=by rw [one];unfold E16;omega
   have hm1:=iQ (m+300) [49] (d.length+k - q) (by decide) (by decide) (by omega) (by simp;omega)
   rw [ae hone,one,vN] at hm1
   have hu:1<=10 ^ (d.length+k - q):=yT _ _ (by decide)
   rw [e0,w0,hm1]
   rw [ae h0] at hmp
   clear hone hm1
   generalize 10 ^ (d.length+k - q)=u at hu hu2 hmp ⊢
   generalize val d k=v at hs hmp ⊢
   have d2:(((u:Nat):Int)==0)=false:=aM.2 (by omega)
   have hdiv:Int.tdiv ((v:Nat):Int) ((u:Nat):Int)=((v / u:Nat):Int):=rfl
   have hdiw:Int.tdiv ((w:Nat):Int) ((u:Nat):Int)=((w / u:Nat):Int):=rfl
   have l1:v / u<=v:=Cw v u
   have l2:w / u<=w:=Cw w u
   simp only [aj,d2,af,hdiv,hdiw]
   generalize v / u=a at l1 hmp ⊢
   generalize w / u=b at l2 hmp ⊢
   rw [wrap_i64 _ (by omega) (by omega),wrap_i64 _ (by omega) (by omega),Ho]
   by_cases hab:a=b
   ·rw [ar hab,ae (hmp.2 hab)];rfl
   ·rw [au hab,ab (λq=>hab (hmp.1 q))];rfl
  ·have e0:decide ((q:Int)>0)=false:=au (by omega)
   have t1:∀a:Nat,Int.tdiv ((a:Nat):Int) 1=((a:Nat):Int):=λa=>by
    have:Int.tdiv ((a:Nat):Int) 1=((a / 1:Nat):Int):=rfl
    rw [this,rJ]
   rw [ab h0,rJ,rJ] at hmp
   rw [e0]
   simp only [af,t1]
   rw [wrap_i64 _ (by omega) (by omega),wrap_i64 _ (by omega) (by omega),Ho]
   by_cases hab:val d k=w
   ·rw [ar hab,ae (hmp.2 hab)];rfl
   ·rw [au hab,ab (λq=>hab (hmp.1 q))];rfl
theorem PH (m:Nat) {g l:Bool} {d:aa} {x s:Int} (hok:okY g l d x s) (v:Int):mj (m+300) g l d x s v=some (if inP g d x s v then 1 else 0):=by
 have hsm:=ir hok
 have hT:=λw hw=>in_T m hok w hw
 have hM:=nX (m+300) g l d x s (by omega) (by omega)
 unfold inT at hT
 unfold mj
 by_cases h1:v < -10000000000000000
 ·rw [ar h1,ab (λq=>by have:=q.1;omega)];rfl
 ·rw [au h1,af]
  by_cases h2:v>10000000000000000
  ·rw [ar h2,ab (λq=>by have:=q.2.1;omega)];rfl
  ·rw [au h2,af]
   cases g with
   | true=>
    have w0:IntKind.wrap .i64 (0 - v)=-v:=by rw [wrap_i64 _ (by omega) (by omega)];omega
    simp only [aj,w0]
    by_cases h3:-v<0
    ·rw [ar h3,ab (λq=>by have:=q.2.2.1;unfold wOf at this;simp only [aO] at this;omega)];rfl
    ·rw [au h3,af]
     obtain ⟨w,hw⟩:∃w:Nat,-v=(w:Int):=⟨(-v).toNat,by omega⟩
     have hT:=hT w (by omega)
     have hwo:wOf true v=(w:Int):=by unfold wOf;simpa using hw
     have hin:¬(hasX d=true/\w=0)->(inP true d x s v↔memP d x s w):=by
      intro hz
      unfold inP
      rw [hwo,bF]
      constructor
      ·exact λq=>q.2.2.2.2
      ·exact λq=>⟨by omega,by omega,by omega,λq=>hz ⟨q.1,by omega⟩,q⟩
     rw [hw]
     cases hX:hasX d with
     | true=>
      have hMt:aC (m+300) true l d x s=some 1:=by rw [hM,hX];rfl
      rw [hMt]
      have z11:((1:Int)==1)=true:=rfl
      simp only [ob,z11,aj]
      by_cases hz:w=0
      ·have e:(((w:Nat):Int)==0)=true:=bD.2 (by omega)
       rw [e,ab (λq=>q.2.2.2.1 ⟨hX,rfl,by rw [hwo];omega⟩)];rfl
      ·have e:(((w:Nat):Int)==0)=false:=aM.2 (by omega)
       rw [hMt] at hT
       simp only [ob,z11,aj] at hT
       rw [e,af,hT]
       have:=hin (λq=>hz q.2)
       by_cases hp:memP d x s w
       ·rw [ae hp,ae (this.2 hp)]
       ·rw [ab hp,ab (λq=>hp (this.1 q))]
     | false=>
      have hMt:aC (m+300) true l d x s=some 0:=by rw [hM,hX];rfl
      have z01:((0:Int)==1)=false:=rfl
      rw [hMt] at hT ⊢
      simp only [ob,z01,af] at hT ⊢
      rw [hT]
      have:=hin (λq=>by rw [hX] at q;cases q.1)
      by_cases hp:memP d x s w
      ·rw [ae hp,ae (this.2 hp)]
      ·rw [ab hp,ab (λq=>hp (this.1 q))]
   | false=>
    simp only [af]
    by_cases h3:v<0
    ·rw [ar h3,ab (λq=>by have:=q.2.2.1;unfold wOf at this;simp only [bV,aD] at this;omega)];rfl
    ·rw [au h3,af]
     obtain ⟨w,rfl⟩:∃w:Nat,v=(w:Int):=⟨v.toNat,by omega⟩
     have hT:=hT w (by omega)
     have hwo:wOf false (w:Int)=(w:Int):=rfl
     have hin:inP false d x s (w:Int)↔memP d x s w:=by
      unfold inP
      rw [hwo,bF]
      constructor
      ·exact λq=>q.2.2.2.2
      ·exact λq=>⟨by omega,by omega,by omega,λq=>(by cases q.2.1),q⟩
     cases hX:hasX d with
     | true=>
      have hMt:aC (m+300) false l d x s=some 1:=by rw [hM,hX];rfl
      rw [hMt] at hT ⊢
      have z11:((1:Int)==1)=true:=rfl
      simp only [ob,z11,aj] at hT ⊢
      rw [hT]
      by_cases hp:memP d x s w
      ·rw [ae hp,ae (hin.2 hp)]
      ·rw [ab hp,ab (λq=>hp (hin.1 q))]
     | false=>
      have hMt:aC (m+300) false l d x s=some 0:=by rw [hM,hX];rfl
      rw [hMt] at hT ⊢
      have z01:((0:Int)==1)=false:=rfl
      simp only [ob,z01,af] at hT ⊢
      rw [hT]
      by_cases hp:memP d x s w
      ·rw [ae hp,ae (hin.2 hp)]
      ·rw [ab hp,ab (λq=>hp (hin.1 q))]
def loK (d:aa) (k:Nat):Nat:=dval 0 ((ee 48 d).take k)
def hiK (d:aa) (k:Nat):Nat:=dval 0 ((ee 57 d).take k)
theorem wR (z:UInt8) {d:aa} {k:Nat} {c:UInt8} (h:d[k]?=some c):dval 0 ((ee z d).take (k+1))=dval 0 ((ee z d).take k)*10+((if c=88 then z else c).toNat - 48):=by
 rw [Oa (uU h),Dm]
theorem Am (d:aa) (hl:d.length=4) (hd:∀c∈d,bp c=true\/c=88):∀(k w:Nat),k<=4->w<10 ^ k->mtk d k w=true->loK d k<=w/\w<=hiK d k
 | 0,w,hk,hw,hm=>by
  simp at hw
  subst hw
  simp [loK,hiK,pc]
 | k+1,w,hk,hw,hm=>by
  obtain ⟨c,hc⟩:∃c,d[k]?=some c:=⟨d[k],bm (by omega)⟩
  rw [y4,yA hc,az,gB,bY,bY] at hm
  have hp:(10:Nat) ^ (k+1)=10 ^ k*10:=rF 10 k
  have ih:=Am d hl hd k (w / 10) (by omega) (by omega) hm.2
  have h1:=wR 48 hc
  have h2:=wR 57 hc
  unfold loK hiK at ih ⊢
  rw [h1,h2]
  by_cases hx:c=88
  ·rw [ae hx,ae hx]
   have e1:(48:UInt8).toNat - 48=0:=rfl
   have e2:(57:UInt8).toNat - 48=9:=rfl
   rw [e1,e2]
   omega
  ·rw [ab hx,ab hx]
   have:=hm.1.resolve_left hx
   omega
theorem zS (z:UInt8) (hz:bp z=true) (d:aa) (hl:d.length=4) (hd:∀c∈d,bp c=true\/c=88):∀k,k<=4->mtk d k (dval 0 ((ee z d).take k))=true
 | 0,_=>rfl
 | k+1,hk=>by
  obtain ⟨c,hc⟩:∃c,d[k]?=some c:=⟨d[k],bm (by omega)⟩
  have ih:=zS z hz d hl hd k (by omega)
  have hdg:bp (if c=88 then z else c)=true:=by
   by_cases hx:c=88
   ·rw [ae hx];exact hz
   ·rw [ab hx];exact (hd c (fm hc)).resolve_right hx
  have hr:=(dl _).1 hdg
  rw [y4,yA hc,wR z hc]
  generalize hb:(if c=88 then z else c)=b at hr ⊢
  generalize dval 0 ((ee z d).take k)=a at ih ⊢
  have e1:(a*10+(b.toNat - 48)) / 10=a:=by omega
  have e2:(a*10+(b.toNat - 48))%10=b.toNat - 48:=by omega
  rw [e1,e2,ih,xI]
  by_cases hx:c=88
  ·rw [ar hx];rfl
  ·rw [ab hx] at hb
   rw [hb,ar (show b.toNat=48+(b.toNat - 48) by omega),Bool.or_true]
def Ae:List (aa):=[[48,48,48,88],[48,48,88,48],[48,48,88,88],[48,88,48,48],[48,88,48,88],[48,88,88,48],[48,88,88,88],[88,48,48,48],[88,48,48,88],[88,48,88,48],[88,48,88,88],[88,88,48,48],[88,88,48,88],[88,88,88,48],[88,88,88,88]]
theorem Rr:Ae.all (λd=>mtk d 4 (sA d)&&decide (1<=sA d)&&decide (sA d<=1000)&&(List.range 1000).all (λw=>decide (w=0)||!mtk d 4 w||decide (sA d<=w)))=true:=by decide +kernel
theorem Bc {d:aa} (hd:d∈Ae):mtk d 4 (sA d)=true/\1<=sA d/\sA d<=1000/\∀w,1<=w->mtk d 4 w=true->sA d<=w:=by
 have h:=cL.1 Rr d hd
 simp only [az,bY,cL,jg,gB,kx] at h
 obtain ⟨⟨⟨h1,h2⟩,h3⟩,h4⟩:=h
 refine ⟨h1,h2,h3,λw hw hm=>?_⟩
 rcases aG w 1000 with hlt | hge
 ·rcases h4 w hlt with (h | h) | h
  ·omega
  ·rw [hm] at h;cases h
  ·exact h
 ·omega
theorem Bf {d:aa} (hl:d.length=4) (hd:∀c∈d,bp c=true\/c=88) (hX:hasX d=true) (hz:dval 0 (ee 48 d)=0):d∈Ae:=
 xR hl (AE hl hd hz) hX (λd=>d∈Ae) (by decide) (by decide) (by decide) (by decide) (by decide) (by decide) (by decide) (by decide) (by decide) (by decide) (by decide) (by decide) (by decide) (by decide) (by decide)
theorem NW {d:aa} (hl:d.length=4):loK d 4=dval 0 (ee 48 d):=by
 unfold loK;rw [iI (by rw [iy];omega)]
theorem M5 {d:aa} (hl:d.length=4):hiK d 4=dval 0 (ee 57 d):=by
 unfold hiK;rw [iI (by rw [iy];omega)]
theorem Kw {g:Bool} {d:aa} (hl:d.length=4) (hd:∀c∈d,bp c=true\/c=88) (hX:hasX d=true):
  (jY g d).1<10000/\(jY g d).2<10000/\mtk d 4 (jY g d).1=true/\mtk d 4 (jY g d).2=true/\1<=(jY g d).2/\(g=true->1<=(jY g d).1)/\∀w,w<10000->mtk d 4 w=true->(g=true->1<=w)->(jY g d).1<=w/\w<=(jY g d).2:=by
 have h4:(10:Nat) ^ 4=10000:=by decide
 have d48:=pR (z:=48) (by decide) hd
 have d57:=pR (z:=57) (by decide) hd
 have b1:=qa (ee 48 d) 0 0 d48 (by simp)
 have b2:=qa (ee 57 d) 0 0 d57 (by simp)
 rw [iy,hl,cG,h4] at b1 b2
 have m1:=zS 48 (by decide) d hl hd 4 (by omega)
 have m2:=zS 57 (by decide) d hl hd 4 (by omega)
 rw [iI (by rw [iy];omega)] at m1 m2
 have hr:∀w,w<10000->mtk d 4 w=true->dval 0 (ee 48 d)<=w/\w<=dval 0 (ee 57 d):=λw hw hm=>by
  have:=Am d hl hd 4 w (by omega) (by omega) hm
  rw [NW hl,M5 hl] at this
  exact this
 have hhi:1<=dval 0 (ee 57 d):=by
  rcases zL (dval 0 (ee 57 d)) with h0 | h0
  ·exfalso
   have hz:dval 0 (ee 48 d)=0:=by
    have:=(hr _ b1 m1).2
    omega
   have h15:=Bf hl hd hX hz
   have hlow:=Bc h15
   have:=(hr _ (by omega) hlow.1).2
   omega
  ·exact h0
 unfold jY
 by_cases hz:g=true/\dval 0 (ee 48 d)=0
 ·rw [ae hz]
  have hlow:=Bc (Bf hl hd hX hz.2)
  refine ⟨by simp only;omega,b2,hlow.1,m2,hhi,λ_=>hlow.2.1,λw hw hm hg=>⟨hlow.2.2.2 w (hg hz.1) hm,(hr w hw hm).2⟩⟩
 ·rw [ab hz]
  refine ⟨b1,b2,m1,m2,hhi,λhg=>?_,λw hw hm hg=>hr w hw hm⟩
  simp only
  rcases zL (dval 0 (ee 48 d)) with h0 | h0
  ·exact absurd ⟨hg,h0⟩ hz
  ·exact h0
theorem Kv {g l:Bool} {d:aa} {x s:Int} (hok:okY g l d x s):(mN g d x s).1<=10000000000000000/\(mN g d x s).2<=10000000000000000/\memP d x s (mN g d x s).1/\memP d x s (mN g d x s).2/\(hasX d=true->1<=(mN g d x s).2/\(g=true->1<=(mN g d x s).1))/\
  ∀w,w<=10000000000000000->memP d x s w->(hasX d=true->g=true->1<=w)->(mN g d x s).1<=w/\w<=(mN g d x s).2:=by
 unfold mN memP
 cases hX:hasX d with
 | true=>
  obtain ⟨rfl,rfl,rfl,hl,hd⟩:=pD hok hX
  obtain ⟨p1,p2,p3,p4,p5,p6,p7⟩:=Kw (g:=g) hl hd hX
  have h4:(10:Nat) ^ 4=10000:=by decide
  simp only [aO,h4]
  refine ⟨by omega,by omega,⟨p3,Nat.div_eq_of_lt p1⟩,⟨p4,Nat.div_eq_of_lt p2⟩,λ_=>⟨p5,p6⟩,λw hw hm hg=>p7 w (by omega) hm.1 (hg trivial)⟩
 | false=>
  obtain ⟨k,q,rfl,rfl,hN⟩:=qM hok hX
  have hs:=hN.small
  have hv:dval 0 d*10 ^ k=val d k:=rfl
  rw [hv] at hs
  obtain ⟨s1,s2,s3⟩:=Mi hN
  unfold E16 at s3
  simp only [bV,aD,bF]
  unfold CD
  unfold Aj at s1 s2 s3 ⊢
  by_cases h0:0<q
  ·rw [ae h0] at s1 s2 s3 ⊢
   rw [ae h0]
   have hu:1<=10 ^ (d.length+k - q):=yT _ _ (by decide)
   generalize 10 ^ (d.length+k - q)=u at *
   generalize val d k=v at *
   simp only at s1 s2 s3 ⊢
   have hmul:v / u*u / u=v / u:=Nat.mul_div_cancel _ hu
   have hlt:∀w,v / u*u<=w->w<v / u*u+u->w / u=v / u:=by
    intro w h1 h2
    apply Nat.div_eq_of_lt_le
    ·exact h1
    ·rw [yS];exact h2
   have hback:∀w,v / u=w / u->v / u*u<=w/\w<v / u*u+u:=by
    intro w h
    rw [h]
    have h1:=Cn w u
    have h2:=Nat.div_add_mod w u
    have h3:=pO w hu
    rw [wm] at h2
    omega
   have hmin:min (v / u*u+u - 1) E16<=v / u*u+u - 1:=Nat.min_le_left _ _
   have hself:=hback v rfl
   refine ⟨by omega,s3,hmul.symm,(hlt _ (by omega) (by omega)).symm,λq=>(by cases q),λw hw hm _=>?_⟩
   obtain ⟨c1,c2⟩:=hback w hm
   refine ⟨c1,?_⟩
   rw [Nat.le_min]
   unfold E16
   omega
  ·rw [ab h0] at s1 s2 s3 ⊢
   rw [ab h0]
   simp only [rJ] at s1 s2 s3 ⊢
   refine ⟨s3,s3,trivial,trivial,λq=>(by cases q),λw hw hm _=>by omega⟩
theorem BZ {g l:Bool} {d:aa} {x s:Int} (hok:okY g l d x s):inP g d x s (sgn g (mN g d x s)).1/\inP g d x s (sgn g (mN g d x s)).2/\∀v,inP g d x s v->(sgn g (mN g d x s)).1<=v/\v<=(sgn g (mN g d x s)).2:=by
 obtain ⟨p1,p2,p3,p4,p5,p6⟩:=Kv hok
 generalize mN g d x s=sp at *
 obtain ⟨lo,hi⟩:=sp
 simp only at p1 p2 p3 p4 p5 p6
 cases g with
 | true=>
  have hw:∀a:Nat,wOf true (-(a:Int))=(a:Int):=λa=>by unfold wOf;simp
  have mk:∀a:Nat,a<=10000000000000000->memP d x s a->(hasX d=true->1<=a)->inP true d x s (-(a:Int)):=by
   intro a h1 h2 h3
   refine ⟨by omega,by omega,by rw [hw];omega,λq=>?_,by rw [hw,bF];exact h2⟩
   have:=h3 q.1
   have h4:=q.2.2
   rw [hw] at h4
   omega
  simp only [sgn,aO]
  refine ⟨mk hi p2 p4 (λh=>(p5 h).1),mk lo p1 p3 (λh=>(p5 h).2 rfl),λv hv=>?_⟩
  obtain ⟨v1,v2,v3,v4,v5⟩:=hv
  have hwv:wOf true v=-v:=rfl
  rw [hwv] at v3 v4 v5
  have:=p6 (-v).toNat (by omega) v5 (λhx _=>by
   have:¬-v=0:=λe=>v4 ⟨hx,rfl,e⟩
   omega)
  omega
 | false=>
  have hw:∀a:Int,wOf false a=a:=λa=>rfl
  have mk:∀a:Nat,a<=10000000000000000->memP d x s a->inP false d x s (a:Int):=by
   intro a h1 h2
   exact ⟨by omega,by omega,by rw [hw];omega,λq=>(by cases q.2.1),by rw [hw,bF];exact h2⟩
  simp only [sgn,bV,aD]
  refine ⟨mk lo p1 p3,mk hi p2 p4,λv hv=>?_⟩
  obtain ⟨v1,v2,v3,v4,v5⟩:=hv
  rw [hw] at v3 v5
  have:=p6 v.toNat (by omega) v5 (λ_ q=>by cases q)
  omega
end Go.Sh
namespace Go.Sh.Mk
open Go.Abs
def okB (c:UInt8):Bool:=c.toNat==88||(decide (48<=c.toNat)&&decide (c.toNat<=57))
def chk (s:aa):Int:=if 18<s.length then 3 else if s.all okB then (if s=[] then 5 else 0) else 5
theorem ua (n:Nat) (s0 s:aa) (hn:s.length+1<n):
  aw (ii n) n (s0,s,0)=some (if s.all okB then .inr s0 else .inl 5):=by
 have:=fe (step:=ii n) (λx=>x.1=s0/\x.2.1=s/\x.2.2<=s.length) (λx=>s.length - x.2.2)
  (λx=>if (s.drop x.2.2).all okB then .inr s0 else .inl 5) ?_ n (s0,s,0) ⟨rfl,rfl,rq _⟩ (by simp;omega)
 ·simpa using this
 rintro ⟨a,b,i⟩ ⟨rfl,rfl,hi⟩
 simp only at hi ⊢
 rcases aG i b.length with hlt | hge
 ·obtain ⟨c,hc⟩:∃c,b[i]?=some c:=⟨b[i],bm hlt⟩
  have hb:Nat.blt i b.length=true:=dq hlt
  rw [fi hc,oi]
  simp only [ii,hb,aj]
  by_cases h128:c.toNat<128
  ·rw [CU hc h128]
   by_cases h88:c.toNat=88
   ·refine .inl ⟨(a,b,i+1),by simp [h88],⟨rfl,rfl,by simp only;omega⟩,by simp only;omega,?_⟩
    simp [okB,h88]
   ·by_cases h48:c.toNat<48
    ·refine .inr ?_
     have e1:(((c.toNat:Nat):Int) != 88)=true:=by simp;omega
     have e2:(decide (((c.toNat:Nat):Int)<48))=true:=by simp;omega
     have e3:okB c=false:=by simp [okB];omega
     simp [e1,e2,e3]
    ·by_cases h57:57<c.toNat
     ·refine .inr ?_
      have e1:(((c.toNat:Nat):Int) != 88)=true:=by simp;omega
      have e2:(decide (((c.toNat:Nat):Int)<48))=false:=by simp;omega
      have e4:(decide (((c.toNat:Nat):Int)>57))=true:=by simp;omega
      have e3:okB c=false:=by simp [okB];omega
      simp [e1,e2,e3,e4]
     ·have e1:(((c.toNat:Nat):Int) != 88)=true:=by simp;omega
      have e2:(decide (((c.toNat:Nat):Int)<48))=false:=by simp;omega
      have e4:(decide (((c.toNat:Nat):Int)>57))=false:=by simp;omega
      have e3:okB c=true:=by simp [okB];omega
      refine .inl ⟨(a,b,i+1),by simp only [e1,e2,e4,aj,af],⟨rfl,rfl,by simp only;omega⟩,by simp only;omega,?_⟩
      simp [e3]
  ·obtain ⟨h1,h2⟩:=D0 hc (by omega)
   refine .inr ?_
   have e1:((((dec b i).1:Nat):Int) != 88)=true:=by simp;omega
   have e2:(decide ((((dec b i).1:Nat):Int)<48))=false:=by simp;omega
   have e4:(decide ((((dec b i).1:Nat):Int)>57))=true:=by simp;omega
   have e3:okB c=false:=by simp [okB];omega
   simp [e1,e2,e3,e4]
 ·have hb:Nat.blt i b.length=false:=by
   cases h:Nat.blt i b.length with
   | false=>rfl
   | true=>have:i<b.length:=aH h;omega
  refine .inr ?_
  simp only [ii,hb,af]
  rw [kB hge]
  rfl
theorem lc (n:Nat) (s:aa) (hn:30<=n):jB n s=some (chk s):=by
 unfold jB chk
 by_cases h:18<s.length
 ·have:(decide (((List.length s:Nat):Int)>18))=true:=by simp;omega
  simp [this,h]
 ·have e:(decide (((List.length s:Nat):Int)>18))=false:=by simp;omega
  simp only [e,af,h,aD]
  rw [ua n s s (by omega)]
  by_cases ha:s.all okB=true
  ·simp only [ha,aO,ob]
   by_cases hs:s=[]
   ·simp [hs]
   ·have:(s==([]:aa))=false:=by simpa using hs
    simp [this,hs]
  ·simp [ha,ob]
theorem mL {s:aa} (h:chk s=0):s.length<=18/\s≠[]/\∀c∈s,okB c=true:=by
 unfold chk at h
 split at h
 ·simp at h
 ·split at h
  ·rename_i ha
   split at h
   ·simp at h
   ·rename_i hs
    exact ⟨by omega,hs,by simpa using ha⟩
  ·simp at h
def nums (l:aa):List Int:=l.map λb=>((b.toNat:Nat):Int)
def over (d:List Int) (i:Nat) (l:List Int):List Int:=d.take i++(l++d.drop (i+l.length))
theorem zr (d:List Int) (i:Nat) (x:Int) (l:List Int) (h:i<d.length):over (d.set i x) (i+1) l=over d i (x::l):=by
 unfold over
 rw [show (d.set i x).take (i+1)=d.take i++[x] from by
  rw [Hf (by simpa using h)]
  simp [List.take_set_of_le]]
 rw [List.drop_set_of_lt (by omega)]
 simp [gv,nB 1]
theorem Do (d:List Int) (i:Nat):over d i []=d:=by simp [over]
theorem KR (d:List Int) (i:Nat) (l:List Int) (h:i+l.length<=d.length):(over d i l).length=d.length:=by
 unfold over;simp;omega
theorem J8 {x y:UInt8}:(((x.toNat:Nat):Int)==((y.toNat:Nat):Int))=decide (x=y):=by
 by_cases h:x=y
 ·simp [h]
 ·have:x.toNat≠y.toNat:=λe=>h (ip.1 e)
  simp [h];omega
theorem zV {x:UInt8}:(((x.toNat:Nat):Int)==88)=decide (x=88):=by
 have:=J8 (x:=x) (y:=88)
 simpa using this
def dg:Nat->Int->List Int
 | 0,_=>[]
 | L+1,k=>dg L (k / 10)++[48+k%10]
theorem wI:∀(L:Nat) (k:Int),(dg L k).length=L
 | 0,_=>rfl
 | L+1,k=>by simp [dg,wI L]
theorem r7:∀(L:Nat) (k:Int),∀x∈dg L k,48<=x/\x<58
 | 0,_,x,h=>by simp [dg] at h
 | L+1,k,x,h=>by
  simp only [dg,la,ta] at h
  rcases h with h | rfl
  ·exact r7 L _ x h
  ·omega
def iV:aa->List Int->Bool
 | c::m,d::l=>(c==88||decide (((c.toNat:Nat):Int)=d))&&iV m l
 | _,_=>true
theorem tL:∀{a c:aa} {b d:List Int},a.length=b.length->iV (a++c) (b++d)=(iV a b&&iV c d)
 | [],c,[],d,_=>by simp [iV]
 | x::a,c,y::b,d,h=>by
  simp only [aB,uV] at h
  simp only [fj,iV,tL h,Bool.and_assoc]
def hasM (m:aa) (k:Int):Bool:=decide (0<=k)&&(decide (k<10 ^ m.length)&&iV m (dg m.length k))
theorem KB (L:Nat) (h:L<=18):oV 20000000 ((L:Nat):Int)=some (10 ^ L):=by
 have hk:allN (λi=>match oV 20000000 ((i:Nat):Int) with | some r=>decide (r=10 ^ i) | none=>false) 19=true:=by kernel_rfl
 have:=Cy hk L (by omega)
 split at this
 ·rename_i r hr
  rw [hr];simpa using this
 ·cases this
theorem BD (L:Nat) (h:L<=18):(10:Int) ^ L<=1000000000000000000:=by
 have hk:allN (λi=>decide ((10:Int) ^ i<=1000000000000000000)) 19=true:=by kernel_rfl
 simpa using Cy hk L (by omega)
theorem Qp {k:Int} (h:0<=k):Int.tmod k 10=k%10:=Gp h
theorem Om {k:Int} (h:0<=k):Int.tdiv k 10=k / 10:=Lt h
theorem Ft (k:Int) (i:Nat) (d:List Int) (h0:0<=k) (h1:k<9223372036854775808) (hi:i<=18) (hd:d.length=18):
  aw (ig 20000000) 20000000 (k,(i:Int) - 1,d)=some (over d 0 (dg i k)):=by
 have:=fe (step:=ig 20000000) (λx=>(0<=x.1/\x.1<9223372036854775808)/\(-1<=x.2.1/\x.2.1<=17)/\x.2.2.length=18) (λx=>(x.2.1+1).toNat)
  (λx=>over x.2.2 0 (dg (x.2.1+1).toNat x.1)) ?_ 20000000 (k,(i:Int) - 1,d) ⟨⟨h0,h1⟩,⟨by simp only;omega,by simp only;omega⟩,hd⟩ (by simp only;omega)
 ·simpa using this
 rintro ⟨k,i,d⟩ ⟨⟨h0,h1⟩,⟨h2,h3⟩,hd⟩
 simp only at h0 h1 h2 h3 hd ⊢
 by_cases hi:0<=i
 ·obtain ⟨j,rfl⟩:∃j:Nat,i=j:=⟨i.toNat,by omega⟩
  have hj:j<18:=by omega
  have e1:decide ((j:Int)>=0)=true:=by simp
  have e2:Nat.blt j 18=true:=dq hj
  have w1:IntKind.wrap .i64 ((j:Int) - 1)=(j:Int) - 1:=wrap_i64 _ (by omega) (by omega)
  have w2:IntKind.wrap .i64 (Int.tdiv k 10)=k / 10:=by rw [Om h0];exact wrap_i64 _ (by omega) (by omega)
  have w3:IntKind.wrap .u8 (IntKind.wrap .i64 (48+Int.tmod k 10))=48+k%10:=by rw [Qp h0,wrap_i64 _ (by omega) (by omega),fN _ (by omega) (by omega)]
  refine .inl ⟨(k / 10,(j:Int) - 1,d.set j (48+k%10)),by simp only [ig,e1,aj,cT hj,ob,e2,w1,w2,w3],⟨⟨by simp only;omega,by simp only;omega⟩,⟨by simp only;omega,by simp only;omega⟩,by simpa using hd⟩,by simp only;omega,?_⟩
  have s1:((j:Int) - 1+1).toNat=j:=by omega
  have s2:((j:Int)+1).toNat=j+1:=by omega
  simp only [s1,s2,over,nH,dR,wI,de,dg,iB]
  congr 1
  rw [List.drop_set,ab (by omega),yZ,wJ (by omega)]
  simp only [List.set_cons_zero,aN,wI,aB,aY,fj,dR,de]
 ·have e1:decide (i>=0)=false:=by simp;omega
  have s:(i+1).toNat=0:=by omega
  refine .inr ?_
  simp only [ig,e1,af,s,dg,Do]
theorem Ky (m:aa) (k:Int) (hm:m.length<=18) (h0:0<=k) (h1:k<9223372036854775808):
  kO 20000000 m k=some (over [0,0,0,0,0,0,0,0,0,0,0,0,0,0,0,0,0,0] 0 (dg m.length k)):=by
 have w:IntKind.wrap .i64 (((List.length m:Nat):Int) - 1)=(m.length:Int) - 1:=wrap_i64 _ (by omega) (by omega)
 simp only [kO,w,Ft k m.length [0,0,0,0,0,0,0,0,0,0,0,0,0,0,0,0,0,0] h0 h1 hm (by rfl),ob]
theorem uk {d l:List Int} {i:Nat} (h:i<l.length):(over d 0 l)[i]?=l[i]?:=by
 unfold over
 simp only [nH,dR]
 rw [na h]
theorem xD:∀(l:List Int),(∀x∈l,0<=x/\x<256)->nums (gY l)=l
 | [],_=>rfl
 | x::l,h=>by
  have ih:=xD l λy hy=>h y (gt _ hy)
  obtain ⟨h0,h1⟩:=h x (by simp)
  have e:(((UInt8.ofNat x.toNat).toNat:Nat):Int)=x:=by
   rw [CB,pK (by omega)];omega
  simp only [nums,gY,ri] at ih ⊢
  simp only [fS,Function.comp,e]
  rw [show List.map ((λb:UInt8=>((b.toNat:Nat):Int)) ∘ λn:Int=>UInt8.ofNat n.toNat) l=l from ih]
theorem Kj (l:aa):(nums l).length=l.length:=by simp [nums]
def cnt:aa->Nat
 | []=>0
 | c::r=>if c=88 then cnt r+1 else cnt r
def dv (c:UInt8):Int:=((c.toNat:Nat):Int) - 48
def nth:aa->Int->Int
 | [],_=>0
 | c::r,i=>if c=88 then 10*nth r (i / 10)+i%10 else 10*nth r i+dv c
def ag:aa->Int->Bool
 | [],_=>true
 | c::r,k=>ag r (k / 10)&&(decide (c=88)||decide (dv c=k%10))
def idx:aa->Int->Int
 | [],_=>0
 | c::r,k=>if c=88 then 10*idx r (k / 10)+k%10 else idx r (k / 10)
def okR (r:aa):Prop:=∀c∈r,c=88\/(0<=dv c/\dv c<10)
theorem yq {m:aa} (h:∀c∈m,okB c=true):okR m.reverse:=by
 intro c hc
 have:=h c (List.mem_reverse.1 hc)
 simp only [okB,gB,bD,az,bY] at this
 rcases this with h | h
 ·exact .inl (ip.1 (by simpa using h))
 ·exact .inr (by unfold dv;omega)
theorem qi {c:UInt8} {r:aa} (h:okR (c::r)):okR r:=λx hx=>h x (gt _ hx)
theorem ie (n:Nat):(10:Int) ^ (n+1)=10*10 ^ n:=by rw [Int.pow_succ,xZ]
theorem sG (n:Nat):(0:Int)<10 ^ n:=Int.pow_pos (by omega)
theorem pl:∀{r:aa},okR r->∀i,0<=i->0<=nth r i/\nth r i<10 ^ r.length
 | [],_,i,_=>by simp [nth]
 | c::r,h,i,hi=>by
  simp only [nth,aB,ie]
  split
  ·have:=pl (qi h) (i / 10) (by omega)
   omega
  ·rename_i hc
   have:=pl (qi h) i hi
   have:=(h c (by simp)).resolve_left hc
   omega
theorem GQ:∀{r:aa},okR r->∀i,0<=i->ag r (nth r i)=true
 | [],_,_,_=>rfl
 | c::r,h,i,hi=>by
  simp only [nth,ag]
  split
  ·rename_i hc
   have e:(10*nth r (i / 10)+i%10) / 10=nth r (i / 10):=by omega
   rw [e,GQ (qi h) (i / 10) (by omega)]
   simp [hc]
  ·rename_i hc
   have hd:=(h c (by simp)).resolve_left hc
   have e:(10*nth r i+dv c) / 10=nth r i:=by omega
   have e2:(10*nth r i+dv c)%10=dv c:=by omega
   rw [e,e2,GQ (qi h) i hi]
   simp
theorem vQ:∀(r:aa) (k:Int),0<=k->0<=idx r k/\idx r k<10 ^ cnt r
 | [],k,_=>by simp [idx,cnt]
 | c::r,k,hk=>by
  have:=vQ r (k / 10) (by omega)
  simp only [idx,cnt]
  split
  ·rw [ie];omega
  ·exact this
theorem HT:∀{r:aa} {k:Int},0<=k->k<10 ^ r.length->ag r k=true->nth r (idx r k)=k
 | [],k,h0,h1,_=>by simp at h1;simp [nth];omega
 | c::r,k,h0,h1,ha=>by
  simp only [ag,az,gB,bY] at ha
  rw [aB,ie] at h1
  have ih:=HT (r:=r) (k:=k / 10) (by omega) (by omega) ha.1
  simp only [nth,idx]
  split
  ·have:=vQ r (k / 10) (by omega)
   have e:(10*idx r (k / 10)+k%10) / 10=idx r (k / 10):=by omega
   have e2:(10*idx r (k / 10)+k%10)%10=k%10:=by omega
   rw [e,e2,ih];omega
  ·rename_i hc
   rw [ih]
   have:=ha.2.resolve_left hc
   omega
theorem zo:∀{r:aa},okR r->∀i j,0<=i->i<j->j<10 ^ cnt r->nth r i<nth r j
 | [],_,i,j,h0,h1,h2=>by simp [cnt] at h2;omega
 | c::r,h,i,j,h0,h1,h2=>by
  simp only [nth,cnt] at h2 ⊢
  split
  ·rename_i hc
   rw [ae hc,ie] at h2
   by_cases hq:i / 10=j / 10
   ·rw [hq];omega
   ·have:=zo (qi h) (i / 10) (j / 10) (by omega) (by omega) (by omega)
    omega
  ·rename_i hc
   rw [ab hc] at h2
   have:=zo (qi h) i j h0 h1 h2
   omega
theorem Ew:∀(r:aa),∀k,iV r.reverse (dg r.length k)=ag r k
 | [],k=>rfl
 | c::r,k=>by
  simp only [List.reverse_cons,aB,dg,ag]
  rw [tL (by rw [tq,wI]),Ew r]
  have e1:decide (((c.toNat:Nat):Int)=48+k%10)=decide (dv c=k%10):=rt.2 (by unfold dv;omega)
  have e2:(c==88)=decide (c=88):=by by_cases h:c=88<;>simp [h]
  simp only [iV,xI,e1,e2]
theorem Cx (m:aa) (k:Int):hasM m k=(decide (0<=k)&&(decide (k<10 ^ m.length)&&ag m.reverse k)):=by
 have:=Ew m.reverse k
 rw [vD,tq] at this
 unfold hasM
 rw [this]
theorem wB:∀(m:aa),cnt m=m.count 88
 | []=>rfl
 | c::m=>by
  simp only [cnt,wB m,List.count_cons]
  by_cases h:c=88<;>simp [h]
theorem rB (m:aa):cnt m.reverse=cnt m:=by rw [wB,wB,List.count_reverse]
theorem Gv:∀(m:aa),cnt m<=m.length
 | []=>by simp [cnt]
 | c::m=>by
  have:=Gv m
  simp only [cnt,aB]
  split<;>omega
def fd (x y:Int):Int:=(if y=88 then x else y) - 48
def fval (x:Int) (l:List Int):Int:=l.foldl (λn y=>10*n+fd x y) 0
theorem zi (x:Int):∀(l:List Int) (n:Int),l.foldl (λn y=>10*n+fd x y) n=n*10 ^ l.length+fval x l
 | [],n=>by simp [fval]
 | y::l,n=>by
  have e:=zi x l (10*n+fd x y)
  have e2:=zi x l (10*0+fd x y)
  simp only [fval,tP,aB,ie] at e e2 ⊢
  rw [e,e2,Int.add_mul,Int.add_mul]
  have:10*n*10 ^ l.length=n*(10*10 ^ l.length):=by rw [xZ 10 n,Int.mul_assoc]
  omega
theorem wi (s:aa) (x:Int) (h18:s.length<=18) (hs:∀c∈s,0<=fd x ((c.toNat:Nat):Int)/\fd x ((c.toNat:Nat):Int)<10):lq 20000000 s x=some (fval x (nums s)):=by
 have hs':∀y∈nums s,0<=fd x y/\fd x y<10:=by
  intro y hy
  obtain ⟨c,hc,rfl⟩:=dQ.1 hy
  exact hs c hc
 have hl:(nums s).length=s.length:=Kj s
 have:=fe (step:=gy 20000000)
  (λst=>st.1=x/\st.2.2.1=((s.length:Nat):Int)/\st.2.2.2.2=nums s/\(0<=st.2.2.2.1/\st.2.2.2.1<=s.length)/\0<=st.2.1/\st.2.1<10 ^ st.2.2.2.1.toNat) (λst=>s.length - st.2.2.2.1.toNat)
  (λst=>((nums s).drop st.2.2.2.1.toNat).foldl (λn y=>10*n+fd x y) st.2.1) ?_ 20000000 (x,0,((s.length:Nat):Int),0,nums s) ⟨rfl,rfl,rfl,⟨by simp,by simp⟩,by simp,by simp⟩ (by simp;omega)
 ·show (ob (aw (gy 20000000) 20000000 (x,0,((List.length (nums s):Nat):Int),0,nums s)) λy30=>some y30)=_
  rw [hl,this]
  rfl
 rintro ⟨x',n,len,i,l⟩ ⟨q1,q2,q3,⟨h0,hi⟩,n0,n1⟩
 simp only at q1 q2 q3 h0 hi n0 n1 ⊢
 subst q1 q2 q3
 obtain ⟨j,rfl⟩:∃j:Nat,i=j:=⟨i.toNat,by omega⟩
 simp only [bF] at n1 ⊢
 rcases aG j s.length with hlt | hge
 ·obtain ⟨y,hy⟩:∃c,(nums s)[j]?=some c:=⟨(nums s)[j]'(by omega),bm (by omega)⟩
  obtain ⟨d0,d1⟩:=hs' y (fm hy)
  have hb:(decide ((j:Int)<((s.length:Nat):Int)))=true:=by simp;omega
  have hw:IntKind.wrap .i64 ((j:Int)+1)=((j+1:Nat):Int):=by rw [wrap_i64 _ (by omega) (by omega)];omega
  have hb1:=BD (j+1) (by omega)
  rw [ie] at hb1
  have w1:IntKind.wrap .i64 (10*n)=10*n:=wrap_i64 _ (by omega) (by omega)
  have w2:∀z:Int,0<=z->z<10->IntKind.wrap .i64 (10*n+IntKind.wrap .i64 (IntKind.wrap .u8 z))=10*n+z:=λz z0 z1=>by
   rw [fN z (by omega) (by omega),wrap_i64 z (by omega) (by omega),wrap_i64 _ (by omega) (by omega)]
  rw [fi hy,tP]
  simp only [gy,hb,aj,cT (show j<(nums s).length by omega),ob,hy,hw,w1]
  have next:0<=10*n+fd x' y/\10*n+fd x' y<10 ^ (j+1):=by rw [ie];omega
  by_cases h88:y=88
  ·have e1:(y==88)=true:=by simpa using h88
   have hd:fd x' y=x' - 48:=by simp [fd,h88]
   rw [hd] at d0 d1 next ⊢
   refine .inl ⟨(x',10*n+(x' - 48),((s.length:Nat):Int),((j+1:Nat):Int),nums s),by simp only [e1,aj,w2 _ d0 d1],⟨rfl,rfl,rfl,⟨by simp only;omega,by simp only;omega⟩,next.1,by simpa only [bF] using next.2⟩,by simp only [bF];omega,by simp only [bF]⟩
  ·have e1:(y==88)=false:=by simpa using h88
   have hd:fd x' y=y - 48:=by simp [fd,h88]
   rw [hd] at d0 d1 next ⊢
   refine .inl ⟨(x',10*n+(y - 48),((s.length:Nat):Int),((j+1:Nat):Int),nums s),by simp only [e1,af,w2 _ d0 d1],⟨rfl,rfl,rfl,⟨by simp only;omega,by simp only;omega⟩,next.1,by simpa only [bF] using next.2⟩,by simp only [bF];omega,by simp only [bF]⟩
 ·have hb:(decide ((j:Int)<((s.length:Nat):Int)))=false:=by simp;omega
  refine .inr ?_
  simp only [gy,hb,af]
  rw [kB (by omega)];rfl
theorem uP (x:Int) (l:List Int) (y:Int):fval x (l++[y])=10*fval x l+fd x y:=by simp [fval,DY]
theorem Bd (r:aa) (c:UInt8):nums ((c::r).reverse)=nums r.reverse++[((c.toNat:Nat):Int)]:=by simp [nums]
theorem Co (x:Int) (c:UInt8):fd x ((c.toNat:Nat):Int)=if c=88 then x - 48 else dv c:=by
 unfold fd dv
 by_cases h:c=88
 ·simp [h]
 ·have:¬((c.toNat:Nat):Int)=88:=λe=>h (ip.1 (by simpa using (by omega:c.toNat=88)))
  rw [ab this,ab h]
theorem yb:∀(r:aa),fval 48 (nums r.reverse)=nth r 0
 | []=>rfl
 | c::r=>by
  rw [Bd,uP,yb r,Co]
  simp only [nth]
  split<;>simp
theorem sd:∀(r:aa),fval 57 (nums r.reverse)=nth r (10 ^ cnt r - 1)
 | []=>rfl
 | c::r=>by
  have hp:=sG (cnt r)
  rw [Bd,uP,sd r,Co]
  simp only [nth,cnt]
  split
  ·rw [ie]
   have e1:(10*(10:Int) ^ cnt r - 1) / 10=10 ^ cnt r - 1:=by omega
   have e2:(10*(10:Int) ^ cnt r - 1)%10=9:=by omega
   rw [e1,e2];omega
  ·rfl
theorem Pz {m:aa} (hok:∀c∈m,okB c=true) {x:Int} (hx:48<=x/\x<58):∀c∈m,0<=fd x ((c.toNat:Nat):Int)/\fd x ((c.toNat:Nat):Int)<10:=by
 intro c hc
 rw [Co]
 have:=yq hok c (List.mem_reverse.2 hc)
 split
 ·omega
 ·rename_i h;exact this.resolve_left h
theorem KZ {m:aa} (hm:chk m=0):oL 20000000 m=some (nth m.reverse 0,0):=by
 obtain ⟨h18,_,hok⟩:=mL hm
 have e0:((0:Int) != 0)=false:=by simp
 have:=yb m.reverse
 rw [vD] at this
 simp only [oL,lc 20000000 m (by omega),hm,ob,e0,af,wi m 48 h18 (Pz hok (by omega)),this]
theorem Cj {m:aa} (hm:chk m=0):lk 20000000 m=some (nth m.reverse (10 ^ cnt m - 1),0):=by
 obtain ⟨h18,_,hok⟩:=mL hm
 have e0:((0:Int) != 0)=false:=by simp
 have:=sd m.reverse
 rw [vD,rB] at this
 simp only [lk,lc 20000000 m (by omega),hm,ob,e0,af,wi m 57 h18 (Pz hok (by omega)),this]
theorem Kn {m:aa} {l:List Int} (z:List Int) (h18:m.length<=18) (hl:l.length=m.length) (hr:∀y∈l,48<=y/\y<58):fK 20000000 m (over z 0 l)=some (fval 0 l):=by
 have ht:List.take m.length (over z 0 l)=l:=by
  unfold over
  rw [nH,dR,sX (by omega),iI (by omega)]
 have hn:nums (gY l)=l:=xD l λy hy=>by have:=hr y hy;omega
 have hb:(gY l).length=m.length:=by simp [gY,hl]
 simp only [fK,dG h18,ob,de,show Nat.ble m.length 18=true from dq h18,aj,fY,ht]
 rw [wi (gY l) 0 (by omega) ?_,hn]
 intro c hc
 have hmem:((c.toNat:Nat):Int)∈l:=by rw [<-hn];exact dQ.2 ⟨c,hc,rfl⟩
 have:=hr _ hmem
 unfold fd
 rw [ab (by omega)];omega
theorem D7 {m:aa} (hm:chk m=0) {i:Int} (h0:0<=i):hasM m (nth m.reverse i)=true:=by
 obtain ⟨h18,_,hok⟩:=mL hm
 have hr:=pl (yq hok) i h0
 rw [tq] at hr
 rw [Cx,GQ (yq hok) i h0,ar hr.1,ar hr.2]
 rfl
def vl:List Int->Int
 | []=>0
 | y::l=>(y - 48)*10 ^ l.length+vl l
def digl (l:List Int):Prop:=∀y∈l,48<=y/\y<58
theorem dj {y:Int} {l:List Int} (h:digl (y::l)):digl l:=λx hx=>h x (gt _ hx)
theorem uh:∀{l:List Int},digl l->0<=vl l/\vl l<10 ^ l.length
 | [],_=>by simp [vl]
 | y::l,h=>by
  have ih:=uh (dj h)
  have hy:=h y (by simp)
  have hp:=sG l.length
  simp only [vl,aB,ie]
  have a1:0<=(y - 48)*10 ^ l.length:=Int.mul_nonneg (by omega) (by omega)
  have a2:(y - 48)*10 ^ l.length<=9*10 ^ l.length:=L0 (by omega) (by omega)
  omega
theorem M8 {y z:Int} {a b:List Int} (hl:a.length=b.length) (ha:digl a) (hb:digl b) (h:y<z):vl (y::a)<vl (z::b):=by
 have h1:=uh ha
 have h2:=uh hb
 have hp:=sG a.length
 simp only [vl]
 rw [<-hl] at h2 ⊢
 have a2:(y - 48+1)*10 ^ a.length<=(z - 48)*10 ^ a.length:=L0 (by omega) (by omega)
 rw [Int.add_mul] at a2
 omega
theorem yQ:∀{l:List Int},digl l->fval 0 l=vl l
 | [],_=>rfl
 | y::l,h=>by
  have hy:=h y (by simp)
  have e:fval 0 (y::l)=l.foldl (λn y=>10*n+fd 0 y) (10*0+fd 0 y):=rfl
  have e2:fd 0 y=y - 48:=by unfold fd;rw [ab (by omega)]
  rw [e,zi,yQ (dj h),e2]
  simp only [vl,Int.mul_zero,Int.zero_add]
theorem Hk {l:List Int} {y:Int} (h:digl (l++[y])):vl (l++[y])=10*vl l+(y - 48):=by
 have hy:=h y (by simp)
 have hl:digl l:=λx hx=>h x (by simp [hx])
 rw [<-yQ h,<-yQ hl,uP]
 unfold fd;rw [ab (by omega)]
theorem JU:∀(L:Nat) (k:Int),0<=k->k<10 ^ L->vl (dg L k)=k
 | 0,k,h0,h1=>by simp at h1;simp [dg,vl];omega
 | L+1,k,h0,h1=>by
  rw [ie] at h1
  have:=JU L (k / 10) (by omega) (by omega)
  have hd:=r7 (L+1) k
  simp only [dg] at hd ⊢
  rw [Hk hd,this];omega
theorem Rw {l:List Int} (h:digl l):dg l.length (vl l)=l:=by
 have go:∀(r:List Int),digl r.reverse->dg r.length (vl r.reverse)=r.reverse:=by
  intro r
  induction r with
  | nil=>intro _;rfl
  | cons y r ih=>
   intro h
   simp only [List.reverse_cons,aB] at h ⊢
   have hy:=h y (by simp)
   rw [Hk h]
   simp only [dg]
   have e1:(10*vl r.reverse+(y - 48)) / 10=vl r.reverse:=by omega
   have e2:48+(10*vl r.reverse+(y - 48))%10=y:=by omega
   rw [e1,e2,ih λx hx=>h x (la.2 (.inl hx))]
 have:=go l.reverse (by rw [vD];exact h)
 rwa [vD,tq] at this
def fst (up:Bool):Int:=cond up 48 57
def lst (up:Bool):Int:=cond up 57 48
def stp (up:Bool) (y:Int):Int:=cond up (y+1) (y - 1)
def fil (up:Bool) (m:aa):List Int:=m.map λc=>cond (decide (c=88)) (fst up) ((c.toNat:Nat):Int)
def nx (up:Bool):aa->List Int->Option (List Int)
 | c::m,y::l=>
  if c=88 then
   match nx up m l with
   | some r=>some (y::r)
   | none=>if y=lst up then none else some (stp up y::fil up m)
  else if ((c.toNat:Nat):Int)=y then (nx up m l).map λr=>y::r
  else if decide (((c.toNat:Nat):Int)>y)=up then some (((c.toNat:Nat):Int)::fil up m) else none
 | _,_=>some []
def okM (m:aa):Prop:=∀c∈m,okB c=true
theorem qg {c:UInt8} {m:aa} (h:okM (c::m)):okM m:=λx hx=>h x (gt _ hx)
theorem E9 {c:UInt8} (h:okB c=true) (h88:¬c=88):48<=((c.toNat:Nat):Int)/\((c.toNat:Nat):Int)<58:=by
 simp only [okB,gB,bD,az,bY] at h
 have:¬c.toNat=88:=λe=>h88 (ip.1 (by simpa using e))
 omega
theorem zH (up:Bool) (m:aa):(fil up m).length=m.length:=by simp [fil]
theorem Hp (up:Bool) {m:aa} (h:okM m):digl (fil up m):=by
 intro y hy
 obtain ⟨c,hc,rfl⟩:=dQ.1 hy
 by_cases h88:c=88
 ·simp only [ar h88,aj]
  cases up<;>simp [fst]
 ·simp only [au h88,af]
  exact E9 (h c hc) h88
theorem vi (up:Bool):∀(m:aa),iV m (fil up m)=true
 | []=>rfl
 | c::m=>by
  have:=vi up m
  simp only [fil,fS,iV] at this ⊢
  rw [this]
  by_cases h88:c=88
  ·simp [h88]
  ·simp [h88]
def eM (up:Bool) (a b:Int):Prop:=match up with | true=>a<=b | false=>b<=a
theorem yU (up:Bool):∀{m:aa} {e:List Int},okM m->m.length=e.length->digl e->iV m e=true->eM up (vl (fil up m)) (vl e)
 | [],[],_,_,_,_=>by cases up<;>simp [fil,vl,eM]
 | c::m,y::e,hm,hl,he,ha=>by
  simp only [aB,uV] at hl
  simp only [iV,az,gB,bD,bY] at ha
  have ih:=yU up (qg hm) hl (dj he) ha.2
  have hy:=he y (by simp)
  have hfl:=zH up m
  have h1:=Hp up (qg hm)
  have same:∀z:Int,vl (z::fil up m)=(z - 48)*10 ^ m.length+vl (fil up m):=λz=>by rw [vl,hfl]
  have hcons:fil up (c::m)=(cond (decide (c=88)) (fst up) ((c.toNat:Nat):Int))::fil up m:=rfl
  rw [hcons]
  by_cases h88:c=88
  ·simp only [ar h88,aj]
   by_cases hyf:y=fst up
   ·rw [<-hyf,same,vl,<-hl]
    cases up<;>simp only [eM] at ih ⊢<;>omega
   ·cases up
    ·exact Int.le_of_lt (M8 (by rw [hfl,hl]) (dj he) h1 (by simp [fst] at hyf ⊢;omega))
    ·exact Int.le_of_lt (M8 (by rw [hfl,hl]) h1 (dj he) (by simp [fst] at hyf ⊢;omega))
  ·simp only [au h88,af]
   rw [ha.1.resolve_left h88,same,vl,<-hl]
   cases up<;>simp only [eM] at ih ⊢<;>omega
 | [],_::_,_,h,_,_=>by simp at h
 | _::_,[],_,h,_,_=>by simp at h
theorem N0 (up:Bool):∀{m:aa} {l:List Int},okM m->m.length=l.length->digl l->
  match nx up m l with
  | some r=>r.length=m.length/\digl r/\iV m r=true/\eM up (vl l) (vl r)/\∀e,e.length=m.length->digl e->iV m e=true->eM up (vl l) (vl e)->eM up (vl r) (vl e)
  | none=>∀e,e.length=m.length->digl e->iV m e=true->¬eM up (vl l) (vl e)
 | [],[],_,_,_=>by
  simp only [nx]
  refine ⟨rfl,by intro y hy;simp at hy,rfl,by cases up<;>simp [eM],?_⟩
  intro e h1 _ _ _
  simp only [aY] at h1
  rw [wX h1]
  cases up<;>simp [eM]
 | c::m,y::l,hm,hl,hd=>by
  simp only [aB,uV] at hl
  have ih:=N0 up (qg hm) hl (dj hd)
  have hy:=hd y (by simp)
  have hdl:=dj hd
  have hfl:=zH up m
  have hfd:=Hp up (qg hm)
  have hlt:∀{z w:Int} {a b:List Int},a.length=m.length->b.length=m.length->digl a->digl b->z<w->vl (z::a)<vl (w::b):=λh1 h2 h3 h4 h5=>M8 (by rw [h1,h2]) h3 h4 h5
  have hsame:∀(z:Int) {a b:List Int},a.length=m.length->b.length=m.length->(eM up (vl (z::a)) (vl (z::b))↔eM up (vl a) (vl b)):=λz a b h1 h2=>by
   simp only [vl,h1,h2]
   cases up<;>simp only [eM]<;>omega
  have beh:∀{z w:Int} {a b:List Int},a.length=m.length->b.length=m.length->digl a->digl b->z≠w->(eM up (vl (z::a)) (vl (w::b))↔eM up z w):=λ{z w a b} h1 h2 h3 h4 h5=>by
   rcases Int.lt_trichotomy z w with h | h | h
   ·have:=hlt h1 h2 h3 h4 h
    cases up<;>simp only [eM]<;>omega
   ·exact absurd h h5
   ·have:=hlt h2 h1 h4 h3 h
    cases up<;>simp only [eM]<;>omega
  have cases_e:∀e:List Int,e.length=(c::m).length->∃w a,e=w::a/\a.length=m.length:=λe h=>by
   match e,h with
   | w::a,h=>exact ⟨w,a,rfl,by simpa using h⟩
  by_cases h88:c=88
  ·cases hn:nx up m l with
   | some r=>
    rw [hn] at ih
    obtain ⟨i1,i2,i3,i4,i5⟩:=ih
    simp only [nx,ae h88,hn]
    refine ⟨by simp [i1],λz hz=>?_,by simp [iV,h88,i3],(hsame y hl.symm i1).2 i4,λe e1 e2 e3 e4=>?_⟩
    ·rcases cU.1 hz with rfl | hz
     ·exact hy
     ·exact i2 z hz
    ·obtain ⟨w,a,rfl,ha⟩:=cases_e e e1
     simp only [iV,h88,rr,D5,mJ] at e3
     by_cases hw:y=w
     ·subst hw
      exact (hsame y i1 ha).2 (i5 a ha (dj e2) e3 ((hsame y hl.symm ha).1 e4))
     ·exact (beh i1 ha i2 (dj e2) hw).2 ((beh hl.symm ha hdl (dj e2) hw).1 e4)
   | none=>
    rw [hn] at ih
    by_cases hlast:y=lst up
    ·simp only [nx,ae h88,hn,ae hlast]
     intro e e1 e2 e3 e4
     obtain ⟨w,a,rfl,ha⟩:=cases_e e e1
     simp only [iV,h88,rr,D5,mJ] at e3
     have hw9:=e2 w (by simp)
     by_cases hw:y=w
     ·subst hw
      exact ih a ha (dj e2) e3 ((hsame y hl.symm ha).1 e4)
     ·have:=(beh hl.symm ha hdl (dj e2) hw).1 e4
      cases up<;>simp only [eM,lst,aj,af] at this hlast<;>omega
    ·simp only [nx,ae h88,hn,ab hlast]
     have hs:48<=stp up y/\stp up y<58/\y≠stp up y/\eM up y (stp up y)/\∀w,w≠y->eM up y w->eM up (stp up y) w:=by
      cases up<;>simp only [eM,lst,stp,aj,af] at hlast ⊢<;>exact ⟨by omega,by omega,by omega,by omega,λw h1 h2=>by omega⟩
     obtain ⟨s1,s2,s3,s4,s5⟩:=hs
     refine ⟨by simp [hfl],λz hz=>?_,by simp [iV,h88,vi],(beh hl.symm hfl hdl hfd s3).2 s4,λe e1 e2 e3 e4=>?_⟩
     ·rcases cU.1 hz with rfl | hz
      ·exact ⟨s1,s2⟩
      ·exact hfd z hz
     ·obtain ⟨w,a,rfl,ha⟩:=cases_e e e1
      simp only [iV,h88,rr,D5,mJ] at e3
      by_cases hw:y=w
      ·subst hw
       exact absurd ((hsame y hl.symm ha).1 e4) (ih a ha (dj e2) e3)
      ·have h9:=s5 w (λh=>hw h.symm) ((beh hl.symm ha hdl (dj e2) hw).1 e4)
       by_cases hw2:stp up y=w
       ·rw [hw2]
        exact (hsame w hfl ha).2 (yU up (qg hm) ha.symm (dj e2) e3)
       ·exact (beh hfl ha hfd (dj e2) hw2).2 h9
  ·have hcr:=E9 (hm c (by simp)) h88
   have hag:∀w a,iV (c::m) (w::a)=true->w=((c.toNat:Nat):Int)/\iV m a=true:=λw a h=>by
    simp only [iV,az,gB,bD,bY] at h
    exact ⟨(h.1.resolve_left h88).symm,h.2⟩
   by_cases hcy:((c.toNat:Nat):Int)=y
   ·cases hn:nx up m l with
    | some r=>
     rw [hn] at ih
     obtain ⟨i1,i2,i3,i4,i5⟩:=ih
     simp only [nx,ab h88,ae hcy,hn,ew]
     refine ⟨by simp [i1],λz hz=>?_,by simp [iV,hcy,i3],(hsame y hl.symm i1).2 i4,λe e1 e2 e3 e4=>?_⟩
     ·rcases cU.1 hz with rfl | hz
      ·exact hy
      ·exact i2 z hz
     ·obtain ⟨w,a,rfl,ha⟩:=cases_e e e1
      obtain ⟨rfl,e3'⟩:=hag w a e3
      rw [hcy] at e4 ⊢
      exact (hsame y i1 ha).2 (i5 a ha (dj e2) e3' ((hsame y hl.symm ha).1 e4))
    | none=>
     rw [hn] at ih
     simp only [nx,ab h88,ae hcy,hn,il]
     intro e e1 e2 e3 e4
     obtain ⟨w,a,rfl,ha⟩:=cases_e e e1
     obtain ⟨rfl,e3'⟩:=hag w a e3
     rw [hcy] at e4
     exact ih a ha (dj e2) e3' ((hsame y hl.symm ha).1 e4)
   ·have hdir:decide (((c.toNat:Nat):Int)>y)=up↔eM up y ((c.toNat:Nat):Int):=by
     cases up
     ·simp only [qT,eM];omega
     ·simp only [bY,eM];omega
    by_cases hup:decide (((c.toNat:Nat):Int)>y)=up
    ·simp only [nx,ab h88,ab hcy,ae hup]
     refine ⟨by simp [hfl],λz hz=>?_,by simp [iV,vi],(beh hl.symm hfl hdl hfd (λh=>hcy h.symm)).2 (hdir.1 hup),λe e1 e2 e3 e4=>?_⟩
     ·rcases cU.1 hz with rfl | hz
      ·exact hcr
      ·exact hfd z hz
     ·obtain ⟨w,a,rfl,ha⟩:=cases_e e e1
      obtain ⟨rfl,e3'⟩:=hag w a e3
      exact (hsame _ hfl ha).2 (yU up (qg hm) ha.symm (dj e2) e3')
    ·simp only [nx,ab h88,ab hcy,ab hup]
     intro e e1 e2 e3 e4
     obtain ⟨w,a,rfl,ha⟩:=cases_e e e1
     obtain ⟨rfl,e3'⟩:=hag w a e3
     exact hup (hdir.2 ((beh hl.symm ha hdl (dj e2) (λh=>hcy h.symm)).1 e4))
 | [],_::_,_,h,_=>by simp at h
 | _::_,[],_,h,_=>by simp at h
def ap:aa->List Int->Nat
 | c::m,y::l=>if c=88\/((c.toNat:Nat):Int)=y then ap m l+1 else 0
 | _,_=>0
theorem Qe:∀(m:aa) (l:List Int),ap m l<=m.length
 | [],_=>by simp [ap]
 | c::m,[]=>by simp [ap]
 | c::m,y::l=>by
  have:=Qe m l
  simp only [ap,aB]
  split<;>omega
theorem GB:∀(m:aa) (l:List Int),iV (m.take (ap m l)) (l.take (ap m l))=true
 | [],_=>by simp [ap,iV]
 | c::m,[]=>by simp [ap,iV]
 | c::m,y::l=>by
  have:=GB m l
  simp only [ap]
  split
  ·rename_i h
   simp only [oH,iV,this,xI,gB,bD,bY]
   exact h
  ·rfl
theorem Hd:∀{m:aa} {l:List Int} {c:UInt8} {y:Int},m[ap m l]?=some c->l[ap m l]?=some y->¬c=88/\¬((c.toNat:Nat):Int)=y
 | [],_,c,y,h,_=>by simp at h
 | x::m,[],c,y,_,h=>by simp at h
 | x::m,z::l,c,y,h1,h2=>by
  by_cases h:x=88\/((x.toNat:Nat):Int)=z
  ·simp only [ap,ae h,EK] at h1 h2
   exact Hd h1 h2
  ·simp only [ap,ab h,kw,aq] at h1 h2
   subst h1 h2
   exact ⟨λe=>h (.inl e),λe=>h (.inr e)⟩
def bkn (up:Bool):aa->List Int->aa->Option (List Int)
 | c::m,y::d,m'=>
  match bkn up m d m' with
  | some r=>some (y::r)
  | none=>if c=88/\y≠lst up then some (stp up y::fil up (m++m')) else none
 | _,_,_=>none
theorem Bs (up:Bool):∀{m m':aa} {d d':List Int},m.length=d.length->iV m d=true->
  nx up (m++m') (d++d')=match nx up m' d' with | some r=>some (d++r) | none=>bkn up m d m'
 | [],m',[],d',_,_=>by
  simp only [dR]
  cases nx up m' d'<;>rfl
 | c::m,m',y::d,d',hl,ha=>by
  simp only [aB,uV] at hl
  simp only [iV,az,gB,bD,bY] at ha
  have ih:=Bs up (m':=m') (d':=d') hl ha.2
  simp only [fj,nx,ih,bkn]
  by_cases h88:c=88
  ·simp only [ae h88]
   cases nx up m' d' with
   | some r=>rfl
   | none=>
    cases bkn up m d m' with
    | some r=>rfl
    | none=>
     by_cases hy:y=lst up
     ·simp [hy]
     ·simp [hy,h88]
  ·simp only [ab h88,ae (ha.1.resolve_left h88)]
   cases nx up m' d' with
   | some r=>rfl
   | none=>
    cases bkn up m d m' with
    | some r=>rfl
    | none=>simp [h88]
 | [],_,_::_,_,h,_=>by simp at h
 | _::_,_,[],_,h,_=>by simp at h
theorem Ef (up:Bool) (c:UInt8) (y:Int):∀{m m':aa} {d:List Int},m.length=d.length->
  bkn up (m++[c]) (d++[y]) m'=if c=88/\y≠lst up then some (d++stp up y::fil up m') else bkn up m d (c::m')
 | [],m',[],_=>by simp [bkn]
 | x::m,m',z::d,hl=>by
  simp only [aB,uV] at hl
  have ih:=Ef up c y (m':=m') hl
  simp only [fj,bkn,ih]
  by_cases h:c=88/\y≠lst up
  ·simp only [ae h]
  ·simp only [ab h,iB,fj,dR]
 | [],_,_::_,h=>by simp at h
 | _::_,_,[],h=>by simp at h
def bki (up:Bool) (m:aa) (l:List Int):Nat->Option Nat
 | 0=>none
 | j+1=>if m[j]?=some 88/\l[j]?≠some (lst up) then some j else bki up m l j
theorem Lq (up:Bool) (m:aa) (l:List Int):∀{j a:Nat},bki up m l j=some a->a<j
 | 0,a,h=>by simp [bki] at h
 | j+1,a,h=>by
  simp only [bki] at h
  split at h
  ·simp only [aq] at h;omega
  ·have:=Lq up m l h;omega
theorem D9 (up:Bool) (m:aa) (l:List Int) (hl:m.length=l.length):∀j,j<=m.length->
  bkn up (m.take j) (l.take j) (m.drop j)=(bki up m l j).map λa=>l.take a++stp up (l.getD a 0)::fil up (m.drop (a+1))
 | 0,_=>by simp [bkn,bki]
 | j+1,h=>by
  obtain ⟨c,hc⟩:∃c,m[j]?=some c:=⟨m[j]'(by omega),bm (by omega)⟩
  obtain ⟨y,hy⟩:∃c,l[j]?=some c:=⟨l[j]'(by omega),bm (by omega)⟩
  have ih:=D9 up m l hl j (by omega)
  rw [fi hc] at ih
  rw [oB,oB,hc,hy]
  simp only [Option.toList_some]
  rw [Ef up c y (by simp;omega),ih]
  have hg:l.getD j 0=y:=by rw [DS,hy];rfl
  simp only [bki,hc,hy,ne_eq,aq]
  by_cases hh:c=88/\¬y=lst up
  ·rw [ae hh,ae hh,ew,hg]
  ·rw [ab hh,ab hh]
section
variable {m:List UInt8} {l z:List Int}
theorem lM (hl:m.length=l.length) (h18:m.length<=18) (k f g:Int) (up:Bool):
  aw (fg 20000000) 20000000 (m,k,up,f,g,0,over z 0 l,over z 0 l)=some (m,k,up,f,g,((ap m l:Nat):Int),over z 0 l,over z 0 l):=by
 have:=fe (step:=fg 20000000) (λx=>x.1=m/\(0<=x.2.2.2.2.2.1/\x.2.2.2.2.2.1<=m.length)/\x.2.2.2.2.2.2.1=over z 0 l) (λx=>m.length - x.2.2.2.2.2.1.toNat)
  (λx=>(x.1,x.2.1,x.2.2.1,x.2.2.2.1,x.2.2.2.2.1,x.2.2.2.2.2.1+((ap (m.drop x.2.2.2.2.2.1.toNat) (l.drop x.2.2.2.2.2.1.toNat):Nat):Int),x.2.2.2.2.2.2.1,x.2.2.2.2.2.2.2)) ?_ 20000000 (m,k,up,f,g,0,over z 0 l,over z 0 l) ⟨rfl,⟨by simp,by simp⟩,rfl⟩ (by simp;omega)
 ·simpa using this
 rintro ⟨m',k,up,f,g,i,d,o⟩ ⟨q1,⟨h0,hi⟩,q2⟩
 simp only at q1 h0 hi q2 ⊢
 subst q1 q2
 obtain ⟨j,rfl⟩:∃j:Nat,i=j:=⟨i.toNat,by omega⟩
 simp only [bF]
 rcases aG j m'.length with hlt | hge
 ·obtain ⟨c,hc⟩:∃c,m'[j]?=some c:=⟨m'[j],bm hlt⟩
  obtain ⟨y,hy⟩:∃c,l[j]?=some c:=⟨l[j]'(by omega),bm (by omega)⟩
  have hg:(over z 0 l)[j]?=some y:=by rw [uk (by omega)];exact hy
  have hb:(decide ((j:Int)<((List.length m':Nat):Int)))=true:=by simp;omega
  have hw:IntKind.wrap .i64 ((j:Int)+1)=((j+1:Nat):Int):=by rw [wrap_i64 _ (by omega) (by omega)];omega
  rw [fi hc,fi hy]
  simp only [fg,hb,aj,iw hc,ob,zV,hw,cT (show j<18 by omega),hg,ap]
  by_cases h88:c=88
  ·refine .inl ⟨(m',k,up,f,g,((j+1:Nat):Int),over z 0 l,o),by simp only [ar h88,aj],⟨rfl,⟨by simp only;omega,by simp only;omega⟩,rfl⟩,by simp only [bF];omega,?_⟩
   simp only [bF,ae (show c=88\/((c.toNat:Nat):Int)=y from .inl h88)]
   congr 6;omega
  ·simp only [au h88,af]
   by_cases hcy:((c.toNat:Nat):Int)=y
   ·have e:(((c.toNat:Nat):Int)==y)=true:=by simpa using hcy
    refine .inl ⟨(m',k,up,f,g,((j+1:Nat):Int),over z 0 l,o),by simp only [e,aj],⟨rfl,⟨by simp only;omega,by simp only;omega⟩,rfl⟩,by simp only [bF];omega,?_⟩
    simp only [bF,ae (show c=88\/((c.toNat:Nat):Int)=y from .inr hcy)]
    congr 6;omega
   ·have e:(((c.toNat:Nat):Int)==y)=false:=by simpa using hcy
    refine .inr ?_
    simp only [e,af,ab (show ¬(c=88\/((c.toNat:Nat):Int)=y) from λh=>h.elim h88 hcy),Int.ofNat_zero,Int.add_zero,Int.natCast_zero]
 ·have hb:(decide ((j:Int)<((List.length m':Nat):Int)))=false:=by simp;omega
  refine .inr ?_
  simp only [fg,hb,af]
  rw [kB hge]
  simp [ap]
theorem HS (hl:m.length=l.length) (h18:m.length<=18) (f:Int) (up:Bool) (o:List Int) (i:Nat) (hi:i<=m.length):
  aw (cn 20000000) 20000000 (m,up,f,lst up,(i:Int),over z 0 l,o) =
   some (match bki up m l i with | none=>.inl (0,16) | some a=>.inr (m,up,f,((a:Nat):Int),o)):=by
 have:=fe (step:=cn 20000000) (λx=>x.1=m/\x.2.2.2.1=lst up/\(0<=x.2.2.2.2.1/\x.2.2.2.2.1<=m.length)/\x.2.2.2.2.2.1=over z 0 l) (λx=>x.2.2.2.2.1.toNat)
  (λx=>match bki up m l x.2.2.2.2.1.toNat with | none=>.inl (0,16) | some a=>.inr (x.1,x.2.1,x.2.2.1,((a:Nat):Int),x.2.2.2.2.2.2)) ?_ 20000000 (m,up,f,lst up,(i:Int),over z 0 l,o) ⟨rfl,rfl,⟨by simp only;omega,by simp only;omega⟩,rfl⟩ (by simp;omega)
 ·simpa using this
 rintro ⟨m',up',f,g,i,d,o⟩ ⟨q1,q3,⟨h0,hi⟩,q2⟩
 simp only at q1 q3 h0 hi q2 ⊢
 subst q1 q2 q3
 obtain ⟨j,rfl⟩:∃j:Nat,i=j:=⟨i.toNat,by omega⟩
 simp only [bF]
 rcases j with _ | j
 ·refine .inr ?_
  have w:IntKind.wrap .i64 (((0:Nat):Int) - 1)=-1:=wrap_i64 _ (by omega) (by omega)
  simp only [cn,w,show decide ((-1:Int)<0)=true from rfl,aj,bki]
 ·have w:IntKind.wrap .i64 (((j+1:Nat):Int) - 1)=(j:Int):=by rw [wrap_i64 _ (by omega) (by omega)];omega
  have e0:decide ((j:Int)<0)=false:=by simp
  obtain ⟨c,hc⟩:∃c,m'[j]?=some c:=⟨m'[j]'(by omega),bm (by omega)⟩
  obtain ⟨y,hy⟩:∃c,l[j]?=some c:=⟨l[j]'(by omega),bm (by omega)⟩
  have hg:(over z 0 l)[j]?=some y:=by rw [uk (by omega)];exact hy
  simp only [cn,w,e0,af,iw hc,ob,zV,cT (show j<18 by omega),hg,bki,hc,hy,aq,ne_eq]
  by_cases h88:c=88
  ·by_cases hy9:y=lst up
   ·have e:(y != lst up)=false:=by simpa using hy9
    refine .inl ⟨(m',up',f,lst up,(j:Int),over z 0 l,o),by simp only [ar h88,aj,e,af],⟨rfl,rfl,⟨by simp only;omega,by simp only;omega⟩,rfl⟩,by simp only [bF];omega,?_⟩
    simp only [bF,ab (show ¬(c=88/\¬y=lst up) from λh=>h.2 hy9)]
   ·have e:(y != lst up)=true:=by simpa using hy9
    refine .inr ?_
    simp only [ar h88,aj,e,ae (show c=88/\¬y=lst up from ⟨h88,hy9⟩)]
  ·refine .inl ⟨(m',up',f,lst up,(j:Int),over z 0 l,o),by simp only [au h88,af],⟨rfl,rfl,⟨by simp only;omega,by simp only;omega⟩,rfl⟩,by simp only [bF];omega,?_⟩
   simp only [bF,ab (show ¬(c=88/\¬y=lst up) from λh=>h88 h.1)]
theorem Bz (h18:m.length<=18) (up:Bool) (d:List Int) (hd:d.length=18) (i:Nat) (hi:i<=m.length):
  aw (bn 20000000) 20000000 (m,fst up,(i:Int),d)=some (m,over d i (fil up (m.drop i))):=by
 have:=fe (step:=bn 20000000) (λx=>x.1=m/\x.2.1=fst up/\(0<=x.2.2.1/\x.2.2.1<=m.length)/\x.2.2.2.length=18) (λx=>m.length - x.2.2.1.toNat)
  (λx=>(m,over x.2.2.2 x.2.2.1.toNat (fil up (m.drop x.2.2.1.toNat)))) ?_ 20000000 (m,fst up,(i:Int),d) ⟨rfl,rfl,⟨by simp only;omega,by simp only;omega⟩,hd⟩ (by simp;omega)
 ·simpa using this
 rintro ⟨m',f,i,d⟩ ⟨q1,q3,⟨h0,hi⟩,hd⟩
 simp only at q1 q3 h0 hi hd ⊢
 subst q1 q3
 obtain ⟨j,rfl⟩:∃j:Nat,i=j:=⟨i.toNat,by omega⟩
 simp only [bF]
 rcases aG j m'.length with hlt | hge
 ·obtain ⟨c,hc⟩:∃c,m'[j]?=some c:=⟨m'[j],bm hlt⟩
  have hj:j<18:=by omega
  have hb:(decide ((j:Int)<((List.length m':Nat):Int)))=true:=by simp;omega
  have hw:IntKind.wrap .i64 ((j:Int)+1)=((j+1:Nat):Int):=by rw [wrap_i64 _ (by omega) (by omega)];omega
  have e2:Nat.blt j 18=true:=dq hj
  have hcons:∀c:UInt8,fil up (c::m'.drop (j+1))=(cond (decide (c=88)) (fst up) ((c.toNat:Nat):Int))::fil up (m'.drop (j+1)):=λ_=>rfl
  rw [fi hc,hcons]
  simp only [bn,hb,aj,iw hc,ob,zV,cT hj,e2,hw]
  by_cases h88:c=88
  ·refine .inl ⟨(m',fst up,((j+1:Nat):Int),(d.set j ((c.toNat:Nat):Int)).set j (fst up)),by simp only [ar h88,aj],⟨rfl,rfl,⟨by simp only;omega,by simp only;omega⟩,by simpa using hd⟩,by simp only [bF];omega,?_⟩
   simp only [bF,ar h88,aj]
   rw [List.set_set,zr _ _ _ _ (by omega)]
  ·refine .inl ⟨(m',fst up,((j+1:Nat):Int),d.set j ((c.toNat:Nat):Int)),by simp only [au h88,af],⟨rfl,rfl,⟨by simp only;omega,by simp only;omega⟩,by simpa using hd⟩,by simp only [bF];omega,?_⟩
   simp only [bF,au h88,af]
   rw [zr _ _ _ _ (by omega)]
 ·have hb:(decide ((j:Int)<((List.length m':Nat):Int)))=false:=by simp;omega
  refine .inr ?_
  simp only [bn,hb,af]
  rw [kB hge]
  simp [fil,Do]
theorem AW (z l F:List Int) (i:Nat) (h:i+F.length=l.length):over (over z 0 l) i F=over z 0 (l.take i++F):=by
 unfold over
 simp only [nH,dR,de,aN,cE,qY (show i<=l.length by omega),h]
 rw [sX (by omega),List.drop_append_of_le_length (by omega),List.drop_of_length_le (aW l.length)]
 simp
end
theorem Hi {m:aa} (hm:chk m=0) (up:Bool) (k:Int) (h0:0<=k) (h1:k<10 ^ m.length):
  dh 20000000 m k up=some (match nx up m (dg m.length k) with | some r=>(vl r,0) | none=>(0,16)):=by
 obtain ⟨h18,_,hok⟩:=mL hm
 have hp:=BD m.length h18
 have hlen:=wI m.length k
 have hrng:=r7 m.length k
 have hv:=JU m.length k h0 h1
 have hn:=N0 up hok hlen.symm hrng
 have hsplit:=Ky m k h18 h0 (by omega)
 generalize dg m.length k=l at hlen hrng hv hn hsplit ⊢
 have hout:(over [0,0,0,0,0,0,0,0,0,0,0,0,0,0,0,0,0,0] 0 l).length=18:=by rw [KR _ _ _ (by simp;omega)];rfl
 have fin:∀r:List Int,nx up m l=some r->fK 20000000 m (over [0,0,0,0,0,0,0,0,0,0,0,0,0,0,0,0,0,0] 0 r)=some (vl r):=by
  intro r hr
  rw [hr] at hn
  obtain ⟨i1,i2,_⟩:=hn
  rw [Kn _ h18 i1 i2,yQ i2]
 have hap:=Qe m l
 have hagr:=GB m l
 have happ:=Bs up (m:=m.take (ap m l)) (m':=m.drop (ap m l)) (d:=l.take (ap m l)) (d':=l.drop (ap m l)) (by simp;omega) hagr
 rw [vJ,vJ] at happ
 have hz0:kO 20000000 m k=some (over [0,0,0,0,0,0,0,0,0,0,0,0,0,0,0,0,0,0] 0 l):=hsplit
 generalize hzz:([0,0,0,0,0,0,0,0,0,0,0,0,0,0,0,0,0,0]:List Int)=z at hout fin hz0
 rcases aG (ap m l) m.length with hlt | hge
 ·obtain ⟨c,hc⟩:∃c,m[ap m l]?=some c:=⟨m[ap m l],bm hlt⟩
  obtain ⟨y,hy⟩:∃c,l[ap m l]?=some c:=⟨l[ap m l]'(by omega),bm (by omega)⟩
  obtain ⟨h88,hcy⟩:=Hd hc hy
  have hg:(over z 0 l)[ap m l]?=some y:=by rw [uk (by omega)];exact hy
  have eL:(((ap m l:Nat):Int)==((List.length m:Nat):Int))=false:=by simp;omega
  have hj:ap m l<18:=by omega
  have hfc:fil up (m.drop (ap m l))=((c.toNat:Nat):Int)::fil up (m.drop (ap m l+1)):=by
   rw [fi hc];simp [fil,h88]
  have hbk:=D9 up m l hlen.symm (ap m l) hap
  have hnx:nx up (m.drop (ap m l)) (l.drop (ap m l))=if decide (((c.toNat:Nat):Int)>y)=up then some (fil up (m.drop (ap m l))) else none:=by
   rw [hfc,fi hc,fi hy]
   simp only [nx,ab h88,ab hcy]
  rw [hnx] at happ
  by_cases hup:decide (((c.toNat:Nat):Int)>y)=up
  ·rw [ae hup] at happ
   simp only at happ
   have f2:=fin _ happ
   rw [happ]
   simp only []
   rw [<-AW z l _ _ (by rw [zH,cQ];omega)] at f2
   have l2:=Bz h18 up _ hout (ap m l) hap
   cases up
   ·have l0:=lM (z:=z) hlen.symm h18 k 57 48 false
    have l2':aw (bn 20000000) 20000000 (m,57,((ap m l:Nat):Int),over z 0 l)=_:=l2
    simp only [dh,ja,aj,hz0,ob,l0,eL,af,iw hc,cT hj,hg,hup,rr,dI,l2',f2]
   ·have l0:=lM (z:=z) hlen.symm h18 k 48 57 true
    have l2':aw (bn 20000000) 20000000 (m,48,((ap m l:Nat):Int),over z 0 l)=_:=l2
    simp only [dh,dI,aj,hz0,ob,l0,eL,af,iw hc,cT hj,hg,hup,rr,l2',f2]
  ·rw [ab hup] at happ
   simp only [hbk] at happ
   have hne:(!(decide (((c.toNat:Nat):Int)>y)==up))=true:=by
    cases up<;>cases hh:decide (((c.toNat:Nat):Int)>y)<;>simp_all
   have l1:=HS (z:=z) hlen.symm h18 (fst up) up (over z 0 l) (ap m l) hap
   cases hb:bki up m l (ap m l) with
   | none=>
    rw [hb] at happ l1
    simp only [il] at happ
    rw [happ]
    simp only [] at l1 ⊢
    cases up
    ·have l0:=lM (z:=z) hlen.symm h18 k 57 48 false
     have l1':aw (cn 20000000) 20000000 (m,false,57,48,((ap m l:Nat):Int),over z 0 l,over z 0 l)=_:=l1
     simp only [dh,ja,aj,hz0,ob,l0,eL,af,iw hc,cT hj,hg,hne,l1']
    ·have l0:=lM (z:=z) hlen.symm h18 k 48 57 true
     have l1':aw (cn 20000000) 20000000 (m,true,48,57,((ap m l:Nat):Int),over z 0 l,over z 0 l)=_:=l1
     simp only [dh,dI,aj,hz0,ob,l0,eL,af,iw hc,cT hj,hg,hne,l1']
   | some a=>
    have ha:=Lq up m l hb
    obtain ⟨w,hw⟩:∃c,l[a]?=some c:=⟨l[a]'(by omega),bm (by omega)⟩
    have hga:(over z 0 l)[a]?=some w:=by rw [uk (by omega)];exact hw
    have hgd:l.getD a 0=w:=by rw [DS,hw];rfl
    have hwr:=hrng w (fm hw)
    have haj:a<18:=by omega
    have e2:Nat.blt a 18=true:=dq haj
    have w1:IntKind.wrap .i64 ((a:Int)+1)=((a+1:Nat):Int):=by rw [wrap_i64 _ (by omega) (by omega)];omega
    rw [hb] at happ l1
    simp only [ew,hgd] at happ
    have f2:=fin _ happ
    rw [happ]
    simp only [] at l1 ⊢
    rw [<-AW z l _ _ (by rw [aB,zH,cQ];omega),<-zr _ _ _ _ (by omega)] at f2
    have l2:=Bz h18 up ((over z 0 l).set a (stp up w)) (by simpa using hout) (a+1) (by omega)
    cases up
    ·have l0:=lM (z:=z) hlen.symm h18 k 57 48 false
     have l1':aw (cn 20000000) 20000000 (m,false,57,48,((ap m l:Nat):Int),over z 0 l,over z 0 l)=some (.inr (m,false,57,((a:Nat):Int),over z 0 l)):=l1
     have l2':aw (bn 20000000) 20000000 (m,57,((a+1:Nat):Int),(over z 0 l).set a (w - 1))=_:=l2
     have w2:IntKind.wrap .u8 (w - 1)=w - 1:=fN _ (by omega) (by omega)
     simp only [dh,ja,aj,hz0,ob,l0,eL,af,iw hc,cT hj,hg,hne,l1',cT haj,hga,e2,w1,w2,l2',f2]
    ·have l0:=lM (z:=z) hlen.symm h18 k 48 57 true
     have l1':aw (cn 20000000) 20000000 (m,true,48,57,((ap m l:Nat):Int),over z 0 l,over z 0 l)=some (.inr (m,true,48,((a:Nat):Int),over z 0 l)):=l1
     have l2':aw (bn 20000000) 20000000 (m,48,((a+1:Nat):Int),(over z 0 l).set a (w+1))=_:=l2
     have w2:IntKind.wrap .u8 (w+1)=w+1:=fN _ (by omega) (by omega)
     simp only [dh,dI,aj,hz0,ob,l0,eL,af,iw hc,cT hj,hg,hne,l1',cT haj,hga,e2,w1,w2,l2',f2]
 ·have e:ap m l=m.length:=by omega
  rw [e,Gc,<-hlen,Gc,o8] at happ
  simp only [nx,nW] at happ
  have eL:(((ap m l:Nat):Int)==((List.length m:Nat):Int))=true:=by rw [e];simp
  rw [happ]
  simp only [hv]
  cases up
  ·have l0:=lM (z:=z) hlen.symm h18 k 57 48 false
   simp only [dh,ja,aj,hz0,ob,l0,eL]
  ·have l0:=lM (z:=z) hlen.symm h18 k 48 57 true
   simp only [dh,dI,af,hz0,ob,l0,eL,aj]
def near (up:Bool) (m:aa) (k:Int):Option Int->Prop
 | some R=>hasM m R=true/\eM up k R/\∀e,hasM m e=true->eM up k e->eM up R e
 | none=>∀e,hasM m e=true->¬eM up k e
def res (o:Option Int):Int×Int:=match o with | some r=>(r,0) | none=>(0,16)
theorem nA {m:aa} {e:Int} (h:hasM m e=true):(dg m.length e).length=m.length/\digl (dg m.length e)/\iV m (dg m.length e)=true/\vl (dg m.length e)=e/\0<=e/\e<10 ^ m.length:=by
 unfold hasM at h
 simp only [az,bY] at h
 exact ⟨wI _ _,r7 _ _,h.2.2,JU _ _ h.1 h.2.1,h.1,h.2.1⟩
theorem Nr {m:aa} {r:List Int} (h1:r.length=m.length) (h2:digl r) (h3:iV m r=true):hasM m (vl r)=true:=by
 have hr:=uh h2
 have hd:=Rw h2
 rw [h1] at hr hd
 unfold hasM
 rw [hd,h3,ar hr.1,ar hr.2];rfl
theorem vL {m:aa} (hm:chk m=0) (up:Bool) (k:Int) (h0:0<=k) (h1:k<10 ^ m.length):∃o,dh 20000000 m k up=some (res o)/\near up m k o:=by
 obtain ⟨h18,_,hok⟩:=mL hm
 have hn:=N0 up hok (wI m.length k).symm (r7 m.length k)
 have hv:=JU m.length k h0 h1
 refine ⟨(nx up m (dg m.length k)).map vl,?_,?_⟩
 ·rw [Hi hm up k h0 h1]
  cases nx up m (dg m.length k)<;>rfl
 ·cases hx:nx up m (dg m.length k) with
  | none=>
   rw [hx] at hn
   intro e he ha
   obtain ⟨e1,e2,e3,e4,_⟩:=nA he
   exact hn _ e1 e2 e3 (by rw [hv,e4];exact ha)
  | some r=>
   rw [hx] at hn
   obtain ⟨i1,i2,i3,i4,i5⟩:=hn
   refine ⟨Nr i1 i2 i3,by rw [hv] at i4;exact i4,λe he ha=>?_⟩
   obtain ⟨e1,e2,e3,e4,_⟩:=nA he
   have:=i5 _ e1 e2 e3 (by rw [hv,e4];exact ha)
   rwa [e4] at this
theorem EY {m:aa} {e:Int} (h:hasM m e=true):0<=idx m.reverse e/\idx m.reverse e<10 ^ cnt m/\nth m.reverse (idx m.reverse e)=e:=by
 rw [Cx] at h
 simp only [az,bY] at h
 obtain ⟨k0,k1,k2⟩:=h
 have:=vQ m.reverse e k0
 rw [rB] at this
 exact ⟨this.1,this.2,HT k0 (by rw [tq];exact k1) k2⟩
section
variable {m:List UInt8} (hm:chk m=0)
include hm
theorem H7 {i j:Int} (h0:0<=i) (h1:i<=j) (h2:j<10 ^ cnt m):nth m.reverse i<=nth m.reverse j:=by
 obtain ⟨h18,_,hok⟩:=mL hm
 rcases Int.lt_or_eq_of_le h1 with h | rfl
 ·exact Int.le_of_lt (zo (yq hok) i j h0 h (by rw [rB];exact h2))
 ·exact sD _
theorem BM (k:Int):lD 20000000 m k=some (decide (0<=k/\k<10 ^ m.length)):=by
 obtain ⟨h18,_,hok⟩:=mL hm
 simp only [lD,KB m.length h18,ob]
 by_cases h0:0<=k
 ·have d0:decide (k>=0)=true:=by simpa using h0
  simp only [d0,aj,h0,jb,nd]
 ·have d0:decide (k>=0)=false:=by simpa using h0
  simp only [d0,af,h0,vc,mT]
theorem Gl (k:Int):∃o,qs 20000000 m k=some (res o)/\near true m k o:=by
 obtain ⟨h18,_,hok⟩:=mL hm
 have e0:((0:Int) != 0)=false:=by simp
 simp only [qs,lc 20000000 m (by omega),hm,lU,e0,af,BM hm]
 by_cases h0:k<0
 ·refine ⟨some (nth m.reverse 0),by simp only [ar h0,aj,KZ hm,lU,res],D7 hm (by omega),?_,λe he ha=>?_⟩
  ·have:=(pl (yq hok) 0 (by omega)).1
   simp only [eM];omega
  ·obtain ⟨i0,i1,i2⟩:=EY he
   have:=H7 hm (sD 0) i0 i1
   simp only [eM];omega
 ·by_cases h1:k<10 ^ m.length
  ·obtain ⟨o,h2,h3⟩:=vL hm true k (by omega) h1
   exact ⟨o,by simp only [au h0,af,ar (show 0<=k/\k<10 ^ m.length from ⟨by omega,h1⟩),dI,h2,lU],h3⟩
  ·refine ⟨none,by simp only [au h0,af,au (show ¬(0<=k/\k<10 ^ m.length) from λh=>h1 h.2),ja,aj,res],λe he ha=>?_⟩
   obtain ⟨_,_,_,_,_,i⟩:=nA he
   simp only [eM] at ha;omega
theorem H4 (k:Int):∃o,qv 20000000 m k=some (res o)/\near false m k o:=by
 obtain ⟨h18,_,hok⟩:=mL hm
 have e0:((0:Int) != 0)=false:=by simp
 simp only [qv,lc 20000000 m (by omega),hm,lU,e0,af,BM hm]
 by_cases h0:k<0
 ·refine ⟨none,by simp only [ar h0,aj,res],λe he ha=>?_⟩
  obtain ⟨_,_,_,_,i,_⟩:=nA he
  simp only [eM] at ha;omega
 ·by_cases h1:k<10 ^ m.length
  ·obtain ⟨o,h2,h3⟩:=vL hm false k (by omega) h1
   exact ⟨o,by simp only [au h0,af,ar (show 0<=k/\k<10 ^ m.length from ⟨by omega,h1⟩),dI,h2,lU],h3⟩
  ·have hp0:=sG (cnt m)
   refine ⟨some (nth m.reverse (10 ^ cnt m - 1)),by simp only [au h0,af,au (show ¬(0<=k/\k<10 ^ m.length) from λh=>h1 h.2),ja,aj,Cj hm,lU,res],D7 hm (by omega),?_,λe he ha=>?_⟩
   ·have:=(pl (yq hok) (10 ^ cnt m - 1) (by omega)).2
    rw [tq] at this
    simp only [eM];omega
   ·obtain ⟨i0,i1,i2⟩:=EY he
    have:=H7 hm i0 (show idx m.reverse e<=10 ^ cnt m - 1 by omega) (by omega)
    simp only [eM];omega
end
end Go.Sh.Mk
namespace Go.Sh
open Go.Abs
def fitN (s:aa) (g:Nat):List Nat:=(List.range' 1 g).filter (agr s)
def sQ (l:List Nat):List Int:=l.map λk:Nat=>(k:Int)
theorem AM (l:List Nat):(sQ l).length=l.length:=by simp [sQ]
theorem Bj (c:UInt8) {j:Nat} (hj:j<10):(IntKind.wrap .i64 (IntKind.wrap .u8 (((c.toNat:Nat):Int) - 48))==((j:Nat):Int))=(c==UInt8.ofNat (48+j)):=by
 have hc:=c.toNat_lt
 have hu:=y8 (((c.toNat:Nat):Int) - 48)
 rw [wrap_i64 _ (by omega) (by omega),F7,xM,bD,bD]
 have hn:(UInt8.ofNat (48+j)).toNat=48+j:=by simp;omega
 constructor
 ·intro h
  apply ip.1
  omega
 ·rintro rfl
  omega
theorem GF (n:Nat) (a b:UInt8) {k:Nat} (h2:k<=31):km n [a,b] (k:Int)=some (agr [a,b] k):=by
 have e1:IntKind.wrap .i64 (Int.tdiv (k:Int) 10)=((k / 10:Nat):Int):=by
  rw [show Int.tdiv (k:Int) 10=((k / 10:Nat):Int) from rfl,wrap_i64 _ (by omega) (by omega)]
 have e2:Int.tmod (k:Int) 10=((k%10:Nat):Int):=rfl
 have s0:sx [a,b] 0=some a:=rfl
 have s1:sx [a,b] 1=some b:=rfl
 have x88:(88:Int)=((88:Nat):Int):=rfl
 unfold km
 simp only [s0,s1,ob,e1,e2]
 rw [Bj a (show k / 10<10 by omega),Bj b (show k%10<10 by omega),x88,tG (by omega),tG (by omega)]
 show _=some ((a==UInt8.ofNat 88||a==UInt8.ofNat (48+k / 10))&&(b==UInt8.ofNat 88||b==UInt8.ofNat (48+k%10)))
 generalize (a==UInt8.ofNat 88)=p1
 generalize (b==UInt8.ofNat 88)=p2
 generalize (a==UInt8.ofNat (48+k / 10))=p3
 generalize (b==UInt8.ofNat (48+k%10))=p4
 cases p1<;>cases p2<;>cases p3<;>cases p4<;>rfl
theorem room {k:Nat} (h:k<=60000000):Nat.ble (k+1) eh=true:=dq (by unfold eh;omega)
theorem DA {X Y:Type} {step:X->Option (X⊕Y)} {f:Nat->List Int->X} {y:List Int->Y} {p:Nat->Bool} {g:Nat} (hg:g<=1000)
  (h:∀i out,i<g->out.length<=1000->step (f i out)=some (.inl (f (i+1) (if p (i+1) then out++[((i+1:Nat):Int)] else out))))
  (he:∀out,step (f g out)=some (.inr (y out))) {N:Nat} (hN:g<N):aw step N (f 0 [])=some (y (sQ ((List.range' 1 g).filter p))):=by
 have go:∀(r i:Nat) (out:List Int),i+r=g->out.length<=i->∀N,r<N->aw step N (f i out)=some (y (out++sQ ((List.range' (i+1) r).filter p))):=by
  intro r
  induction r with
  | zero=>
   intro i out hi ho N hN
   obtain ⟨N,rfl⟩:∃q,N=q+1:=⟨N - 1,by omega⟩
   obtain rfl:i=g:=by omega
   rw [aw,he]
   simp [sQ]
  | succ r ih=>
   intro i out hi ho N hN
   obtain ⟨N,rfl⟩:∃q,N=q+1:=⟨N - 1,by omega⟩
   rw [aw,h i out (by omega) (by omega)]
   show aw step N _=_
   by_cases hp:p (i+1)=true
   ·rw [ae hp,ih (i+1) _ (by omega) (by simp;omega) N (by omega),uN,LA hp]
    simp [sQ]
   ·rw [ab hp,ih (i+1) _ (by omega) (by omega) N (by omega),uN,LU hp]
 have:=go g 0 [] (by omega) (by simp) N hN
 simpa using this
theorem IZ (n:Nat) (hn:100<n) (a b:UInt8) {g:Nat} (hg:g<=31):eO n [a,b] (g:Int)=some (sQ (fitN [a,b] g)):=by
 unfold eO
 have:=DA (step:=fq n) (f:=λi out=>([a,b],(g:Int),(i:Int),out)) (y:=λl=>l) (p:=agr [a,b]) (g:=g) (by omega)
  (λi out hi ho=>by
   have w1:IntKind.wrap .i64 ((i:Int)+1)=((i+1:Nat):Int):=by rw [wrap_i64 _ (by omega) (by omega)];omega
   unfold fq
   simp only [w1]
   rw [ar (show (i:Int)<(g:Int) by omega),GF n a b (by omega),room (by omega)]
   by_cases hp:agr [a,b] (i+1)=true
   ·rw [ae hp];simp only [ob,hp,aj]
   ·rw [ab hp]
    rw [ET] at hp
    simp only [ob,hp,aj,af])
  (λout=>by
   unfold fq
   simp only [au (show ¬(g:Int)<(g:Int) by omega),af])
  (N:=n) (by omega)
 have h0:aw (fq n) n ([a,b],(g:Int),0,([]:List Int))=_:=this
 rw [h0]
 rfl
def monI (m:aa):List Int:=if m=[] then [0] else if 0<sea m then [sea m] else sQ (fitN m 12)
def dayI (d:aa):List Int:=if d=[] then [0] else sQ (fitN d 31)
theorem ft {l:aa} (h:l≠[]):(l==([]:aa))=false:=aM.2 h
theorem len2 {s:aa} (h:s.length=2):∃a b,s=[a,b]:=by
 match s,h with
 | [a,b],_=>exact ⟨a,b,rfl⟩
theorem QH (n:Nat) (hn:100<n) (g l:Bool) (dg:aa) (x q:Int) (m d:aa) (k0 k1 k2:Int) (hm:m=[]\/m.length=2) (hd:d=[]\/d.length=2):
  oQ n g l dg x q m d k0 k1 k2=some (g,l,dg,x,q,m,d,k0,k1,k2,monI m,dayI d):=by
 have hml:m.length<=18:=by rcases hm with h | h;(rw [h];simp);omega
 have hD:d≠[]->eO n d 31=some (dayI d):=λh=>by
  obtain ⟨a,b,rfl⟩:=len2 (hd.resolve_left h)
  rw [show (31:Int)=((31:Nat):Int) from rfl,IZ n hn a b (by omega)]
  unfold dayI
  rw [ab h]
 have hD0:d=[]->dayI d=[0]:=λh=>by unfold dayI;rw [ae h]
 have hM:m≠[]->¬0<sea m->eO n m 12=some (monI m):=λh hs=>by
  obtain ⟨a,b,rfl⟩:=len2 (hm.resolve_left h)
  rw [show (12:Int)=((12:Nat):Int) from rfl,IZ n hn a b (by omega)]
  unfold monI
  rw [ab h,ab hs]
 unfold oQ
 rw [se n g l dg x q m d k0 k1 k2 hml]
 simp only [ob]
 by_cases hs:0<sea m
 ·have h0:m≠[]:=by rintro rfl;exact absurd hs (by decide)
  have hm':monI m=[sea m]:=by unfold monI;rw [ab h0,ae hs]
  rw [ar hs]
  by_cases h:d=[]
  ·rw [h,<-h,hD0 h,hm',h];rfl
  ·rw [ft h,hD h,hm'];rfl
 ·rw [au hs]
  by_cases h0:m=[]
  ·have hm':monI m=[0]:=by unfold monI;rw [ae h0]
   by_cases h:d=[]
   ·rw [hD0 h,hm',h,h0];rfl
   ·rw [ft h,hD h,hm',h0];rfl
  ·rw [ft h0,hM h0 hs]
   by_cases h:d=[]
   ·rw [hD0 h,h];rfl
   ·rw [ft h,hD h];rfl
theorem Fl (n:Nat) (hn:100<n) (g l:Bool) (dg:aa) (x q:Int) (m d:aa) (k0 k1 k2:Int):i6 n g l dg x q m d k0 k1 k2=some (monI m):=by
 unfold i6
 by_cases h0:m=[]
 ·unfold monI
  rw [ae h0,h0];rfl
 ·rw [ft h0,kI n hn]
  simp only [ob,af]
  unfold monI
  rw [ab h0]
  by_cases hs:0<sea m
  ·rw [ae hs,ar (show sea m>0 from hs)];rfl
  ·rw [ab hs,au (show ¬sea m>0 from hs)]
   have:=DA (step:=dE n) (f:=λi out=>(((i+1:Nat):Int),g,l,dg,x,q,m,d,k0,k1,k2,out)) (y:=λl=>l) (p:=agr m) (g:=12) (by omega)
    (λi out hi ho=>by
     have w1:IntKind.wrap .i64 (((i+1:Nat):Int)+1)=((i+1+1:Nat):Int):=by rw [wrap_i64 _ (by omega) (by omega)];omega
     unfold dE
     simp only [d4,d8,w1]
     rw [ar (show ((i+1:Nat):Int)<=12 by omega),tk n m (i+1) (by omega),room (by omega)]
     by_cases hp:agr m (i+1)=true
     ·rw [ae hp,ae hp];rfl
     ·rw [ab hp,ab hp];rfl)
    (λout=>by
     unfold dE
     simp only [d4,d8,au (show ¬((12+1:Nat):Int)<=12 by omega),af])
    (N:=n) (by omega)
   have h1:aw (dE n) n (1,g,l,dg,x,q,m,d,k0,k1,k2,([]:List Int))=_:=this
   rw [h1]
   rfl
def rA (y:Int):Bool:=decide (y%4=0)&&(decide (y%100≠0)||decide (y%400=0))
def lenI (y m:Int):Int:=if m=4\/m=6\/m=9\/m=11 then 30 else if m=2 then (if rA y then 29 else 28) else 31
theorem It (y:Int) {b:Int} (hb:0<b):(Int.tmod y b==0)=decide (y%b=0):=by
 rw [xM,bD,decide_eq_true_iff]
 have h:=Gb (a:=y) (b:=b)
 have h1:=GA y (show b≠0 by omega)
 have h2:=I8 y hb
 by_cases hc:0<=y\/b∣y
 ·rw [ae hc] at h;omega
 ·rw [ab hc] at h
  have hd:¬b∣y:=λe=>hc (.inr e)
  have:y%b≠0:=λe=>hd (IK e)
  omega
theorem yF (n:Nat) (y m:Int):dW n y m=some (lenI y m):=by
 have e100:(Int.tmod y 100 != 0)=decide (y%100≠0):=by
  rw [bne,It y (by omega)]
  by_cases h:y%100=0<;>simp [h]
 unfold dW
 rw [It y (by omega),It y (by omega),e100]
 have body:(cond (m==2) (cond (decide (y%4=0)) (cond (decide (y%100≠0)) (some (29:Int)) (cond (decide (y%400=0)) (some 29) (some 28))) (some 28)) (some 31))=some (if m=2 then (if rA y=true then 29 else 28) else 31):=by
  rw [gR]
  by_cases h2:m=2
  ·rw [ae h2,ae h2]
   unfold rA
   cases decide (y%4=0)<;>cases decide (y%100≠0)<;>cases decide (y%400=0)<;>rfl
  ·rw [ab h2,ab h2]
 rw [body]
 unfold lenI
 by_cases h4:m=4
 ·subst h4;rfl
 ·by_cases h6:m=6
  ·subst h6;rfl
  ·by_cases h9:m=9
   ·subst h9;rfl
   ·by_cases h11:m=11
    ·subst h11;rfl
    ·rw [aM.2 h4,aM.2 h6,aM.2 h9,aM.2 h11,ab (show ¬(m=4\/m=6\/m=9\/m=11) by omega)]
     rfl
theorem vV (n:Nat) {y:Int} (h:-20000000000000000<=y/\y<=20000000000000000):eV n y=some (1+(y - 1) / 4 - (y - 1) / 100+(y - 1) / 400):=by
 unfold eV
 rw [wrap_i64 (y - 1) (by omega) (by omega),wQ n (by omega) (by omega) (by omega) (by omega),wQ n (by omega) (by omega) (by omega) (by omega),wQ n (by omega) (by omega) (by omega) (by omega)]
 show some _=some _
 have h4:-5000000000000001<=(y - 1) / 4/\(y - 1) / 4<=5000000000000001:=by omega
 have h100:-5000000000000001<=(y - 1) / 100/\(y - 1) / 100<=5000000000000001:=by omega
 have h400:-5000000000000001<=(y - 1) / 400/\(y - 1) / 400<=5000000000000001:=by omega
 generalize (y - 1) / 4=a at *
 generalize (y - 1) / 100=b at *
 generalize (y - 1) / 400=c at *
 simp only []
 rw [wrap_i64 (1*a) (by omega) (by omega),wrap_i64 (-1*b) (by omega) (by omega),wrap_i64 (1*c) (by omega) (by omega),wrap_i64 (1+1*a) (by omega) (by omega),wrap_i64 (1+1*a+-1*b) (by omega) (by omega),wrap_i64 _ (by omega) (by omega)]
 congr 1
 omega
theorem Jz (y:Int):(1+y / 4 - y / 100+y / 400>1+(y - 1) / 4 - (y - 1) / 100+(y - 1) / 400)↔rA y=true:=by
 unfold rA
 simp only [az,gB,bY]
 omega
theorem Md (n:Nat) {y:Int} (h:dJ y):jN n y=some (rA y,0):=by
 unfold jN
 have h':=h
 unfold dJ at h'
 rw [fI,ae h,wrap_i64 (y+1) (by omega) (by omega),vV n (by omega),vV n (by omega),show y+1 - 1=y by omega]
 have hl:=Jz y
 show some (decide (1+y / 4 - y / 100+y / 400>1+(y - 1) / 4 - (y - 1) / 100+(y - 1) / 400),(0:Int))=_
 by_cases hb:rA y=true
 ·rw [hb,ar (hl.2 hb)]
 ·rw [ET] at hb
  rw [hb,au (λe=>by rw [hl.1 e] at hb;cases hb)]
theorem vw (n:Nat) {y:Int} (h:dJ y) {m:Nat} (h1:1<=m) (h2:m<=12):dZ n y (m:Int)=some (lenI y (m:Int)):=by
 unfold dZ
 rw [Md n h]
 show cond (rA y&&((m:Int)==2)) _ _=_
 have hix:IntKind.wrap .i64 ((m:Int) - 1)=((m - 1:Nat):Int):=by rw [wrap_i64 _ (by omega) (by omega)];omega
 rw [hix,cT (show m - 1<12 by omega)]
 have hm:m=1\/m=2\/m=3\/m=4\/m=5\/m=6\/m=7\/m=8\/m=9\/m=10\/m=11\/m=12:=by omega
 rcases hm with rfl | rfl | rfl | rfl | rfl | rfl | rfl | rfl | rfl | rfl | rfl | rfl<;>unfold lenI<;>cases rA y<;>rfl
theorem Js (n:Nat) {y:Int} (h:dJ y) {m:Nat} (h1:1<=m) (h2:m<=12):n9 n y (m:Int)=some (lenI y (m:Int),0):=by
 unfold n9
 rw [Dc n h h1 h2,vw n h h1 h2]
 rfl
theorem iR (y m:Int):28<=lenI y m/\lenI y m<=31:=by
 unfold lenI
 split
 ·omega
 ·split
  ·split<;>omega
  ·omega
def tW (d:aa) (y m:Int):Int:=if d=[] then 0 else lenI y m
def tJ (d:aa) (y mo:Int):List (Int×Int×Int):=((dayI d).filter λk=>decide (k<=tW d y mo)).map λk=>(y,mo,k)
def tZ (m d:aa) (y:Int):List (Int×Int×Int):=(monI m).flatMap (tJ d y)
theorem Hc {X Y A:Type} {step:X->Option (X⊕Y)} {f:Nat->List A->X} {y:List A->Y} {p:Nat->Bool} {e:Nat->A} {g:Nat} (out0:List A)
  (h:∀i out,i<g->out.length<=out0.length+i->step (f i out)=some (.inl (f (i+1) (if p (i+1) then out++[e (i+1)] else out))))
  (he:∀out,step (f g out)=some (.inr (y out))) {N:Nat} (hN:g<N):aw step N (f 0 out0)=some (y (out0++((List.range' 1 g).filter p).map e)):=by
 have go:∀(r i:Nat) (out:List A),i+r=g->out.length<=out0.length+i->∀N,r<N->aw step N (f i out)=some (y (out++((List.range' (i+1) r).filter p).map e)):=by
  intro r
  induction r with
  | zero=>
   intro i out hi ho N hN
   obtain ⟨N,rfl⟩:∃q,N=q+1:=⟨N - 1,by omega⟩
   obtain rfl:i=g:=by omega
   rw [aw,he]
   simp
  | succ r ih=>
   intro i out hi ho N hN
   obtain ⟨N,rfl⟩:∃q,N=q+1:=⟨N - 1,by omega⟩
   rw [aw,h i out (by omega) (by omega)]
   show aw step N _=_
   by_cases hp:p (i+1)=true
   ·rw [ae hp,ih (i+1) _ (by omega) (by simp;omega) N (by omega),uN,LA hp]
    simp
   ·rw [ab hp,ih (i+1) _ (by omega) (by omega) N (by omega),uN,LU hp]
 exact go g 0 out0 (by omega) (by omega) N hN
theorem Jd {X Y A B:Type} {step:X->Option (X⊕Y)} {f:Nat->List A->X} {y:List A->Y} {F:B->List A} {L:List B} {c:Nat} (hc:∀b∈L,(F b).length<=c)
  (h:∀i b out,L[i]?=some b->out.length<=c*i->step (f i out)=some (.inl (f (i+1) (out++F b))))
  (he:∀out,step (f L.length out)=some (.inr (y out))) {N:Nat} (hN:L.length<N):aw step N (f 0 [])=some (y (L.flatMap F)):=by
 have go:∀(r i:Nat) (out:List A),i+r=L.length->out.length<=c*i->∀N,r<N->aw step N (f i out)=some (y (out++(L.drop i).flatMap F)):=by
  intro r
  induction r with
  | zero=>
   intro i out hi ho N hN
   obtain ⟨N,rfl⟩:∃q,N=q+1:=⟨N - 1,by omega⟩
   obtain rfl:i=L.length:=by omega
   rw [aw,he]
   simp
  | succ r ih=>
   intro i out hi ho N hN
   obtain ⟨N,rfl⟩:∃q,N=q+1:=⟨N - 1,by omega⟩
   have hb:L[i]?=some L[i]:=bm (by omega)
   rw [aw,h i L[i] out hb ho]
   show aw step N _=_
   have hm:=hc L[i] (G6 _)
   rw [ih (i+1) _ (by omega) (by rw [aN,Nat.mul_add];omega) N (by omega),wJ (show i<L.length by omega),oa,iB]
 have:=go L.length 0 [] (by omega) (by simp) N hN
 simpa using this
theorem Nn (d:aa) (L:Nat) (h:L<=31):(sQ (fitN d 31)).filter (λk=>decide (k<=(L:Int)))=sQ ((List.range' 1 L).filter (agr d)):=by
 have hs:List.range' 1 31=List.range' 1 L++List.range' (1+L) (31 - L):=by
  have:=List.range'_append_1 (s:=1) (m:=L) (n:=31 - L)
  rw [this,show L+(31 - L)=31 by omega]
 unfold fitN sQ
 rw [hs,Ii,BX,Ii]
 have e1:(List.map (λk:Nat=>(k:Int)) (List.filter (agr d) (List.range' 1 L))).filter (λk=>decide (k<=(L:Int)))=List.map (λk:Nat=>(k:Int)) (List.filter (agr d) (List.range' 1 L)):=by
  rw [List.filter_eq_self]
  intro k hk
  obtain ⟨j,hj,rfl⟩:=dQ.1 hk
  have:=rh.1 (kM.1 hj).1
  exact ar (by omega)
 have e2:(List.map (λk:Nat=>(k:Int)) (List.filter (agr d) (List.range' (1+L) (31 - L)))).filter (λk=>decide (k<=(L:Int)))=[]:=by
  rw [List.filter_eq_nil_iff]
  intro k hk
  obtain ⟨j,hj,rfl⟩:=dQ.1 hk
  have:=rh.1 (kM.1 hj).1
  simp only [bY]
  omega
 rw [e1,e2,nW]
theorem Ee (s:aa) (g:Nat):(fitN s g).length<=g:=by
 have:=zW (agr s) (List.range' 1 g)
 rw [List.length_range'] at this
 exact this
theorem DC (d:aa):(dayI d).length<=31:=by
 unfold dayI
 split
 ·simp
 ·rw [AM];exact Ee d 31
theorem EF (m:aa):(monI m).length<=12:=by
 unfold monI
 split
 ·simp
 ·split
  ·simp
  ·rw [AM];exact Ee m 12
theorem Fy (d:aa) (y mo:Int):(tJ d y mo).length<=31:=by
 unfold tJ
 rw [th]
 exact pB (zW _ _) (DC d)
theorem Gu (y mo:Int):tJ [] y mo=[(y,mo,0)]:=rfl
theorem Fh {d:aa} (h:d≠[]) (y mo:Int):tJ d y mo=((List.range' 1 (lenI y mo).toNat).filter (agr d)).map λk:Nat=>(y,mo,(k:Int)):=by
 have hr:=iR y mo
 unfold tJ dayI tW
 rw [ab h,ab h]
 have:=Nn d (lenI y mo).toNat (by omega)
 rw [show (((lenI y mo).toNat:Nat):Int)=lenI y mo by omega] at this
 rw [this,sQ,ri]
 rfl
theorem fS9 (n:Nat) (hn:100<n) (g l:Bool) (dg:aa) (x q:Int) (m d:aa) (k0 k1 k2 y:Int):
  jX n g l dg x q m d k0 k1 k2 y=some (tZ m d y):=by
 have hml:=EF m
 unfold jX
 rw [Fl n hn]
 have:=Jd (step:=ei n) (f:=λi out=>(y,(i:Int),g,l,dg,x,q,m,d,k0,k1,k2,monI m,out)) (y:=λo=>o) (F:=tJ d y) (L:=monI m) (c:=31) (λb _=>Fy d y b)
  (λi mo out hi ho=>by
   have hil:i<(monI m).length:=(mX.1 hi).1
   have w1:IntKind.wrap .i64 ((i:Int)+1)=((i+1:Nat):Int):=by rw [wrap_i64 _ (by omega) (by omega)];omega
   unfold ei
   simp only [d4,d8,w1]
   rw [ar (show (i:Int)<(((monI m).length:Nat):Int) by omega),cT hil]
   by_cases hd:d=[]
   ·subst hd
    rw [Gu]
    simp only [ob,hi,aj,room (show out.length<=60000000 by omega)]
    rfl
   ·rw [ft hd]
    have hr:=iR y mo
    have hin:=Hc (step:=ej n) (f:=λj o=>(y,(i:Int),((j+1:Nat):Int),g,l,dg,x,q,m,d,k0,k1,k2,monI m,o)) (y:=λo=>(y,(i:Int),g,l,dg,x,q,m,d,k0,k1,k2,monI m,o)) (p:=agr d) (e:=λk=>(y,mo,(k:Int))) (g:=(lenI y mo).toNat) out
     (λj o hj ho'=>by
      have w2:IntKind.wrap .i64 (((j+1:Nat):Int)+1)=((j+1+1:Nat):Int):=by rw [wrap_i64 _ (by omega) (by omega)];omega
      unfold ej
      simp only [d4,d8,w2,cT hil,ob,hi,yF]
      rw [ar (show ((j+1:Nat):Int)<=lenI y mo by omega),tk n d (j+1) (by omega),room (show o.length<=60000000 by omega)]
      by_cases hp:agr d (j+1)=true
      ·rw [ae hp,ae hp];rfl
      ·rw [ab hp,ab hp];rfl)
     (λo=>by
      unfold ej
      simp only [d4,d8,cT hil,ob,hi,yF]
      rw [au (show ¬(((lenI y mo).toNat+1:Nat):Int)<=lenI y mo by omega)]
      rfl)
     (N:=n) (by omega)
    have hin':aw (ej n) n (y,(i:Int),1,g,l,dg,x,q,m,d,k0,k1,k2,monI m,out)=_:=hin
    simp only [aj,af]
    rw [hin',Fh hd]
    simp only [ob,d4,d8,w1])
  (λout=>by
   unfold ei
   simp only [d4,d8]
   rw [au (show ¬(((monI m).length:Nat):Int)<(((monI m).length:Nat):Int) by omega)]
   rfl)
  (N:=n) (by omega)
 have h0:aw (ei n) n (y,0,g,l,dg,x,q,m,d,k0,k1,k2,monI m,([]:List (Int×Int×Int)))=_:=this
 simp only [ob]
 rw [h0]
 rfl
theorem OH {a b c e:UInt8} (ha:bp a=true\/a=88) (hb:bp b=true\/b=88) (hc:bp c=true\/c=88) (he:bp e=true\/e=88) (w:Nat):
  mtk [a,b,c,e] 4 w=Mk.ag [e,c,b,a] (w:Int):=by
 have one:∀(z:UInt8) (v:Nat),(decide (z=88)||decide (z.toNat=48+v%10))=(decide (z=88)||decide (Mk.dv z=(v:Int)%10)):=by
  intro z v
  have:(z.toNat=48+v%10)↔(Mk.dv z=(v:Int)%10):=by unfold Mk.dv;omega
  rw [rt.2 this]
 have cast:∀v:Nat,(v:Int) / 10=((v / 10:Nat):Int):=λv=>by omega
 show ((decide (e=88)||decide (e.toNat=48+w%10))&&((decide (c=88)||decide (c.toNat=48+w / 10%10))&&((decide (b=88)||decide (b.toNat=48+w / 10 / 10%10))&&((decide (a=88)||decide (a.toNat=48+w / 10 / 10 / 10%10))&&true))))
  = ((((true&&(decide (a=88)||decide (Mk.dv a=(w:Int) / 10 / 10 / 10%10)))&&(decide (b=88)||decide (Mk.dv b=(w:Int) / 10 / 10%10)))&&(decide (c=88)||decide (Mk.dv c=(w:Int) / 10%10)))&&(decide (e=88)||decide (Mk.dv e=(w:Int)%10)))
 rw [one e w,one c (w / 10),one b (w / 10 / 10),one a (w / 10 / 10 / 10),cast w,cast (w / 10),cast (w / 10 / 10)]
 generalize (decide (e=88)||decide (Mk.dv e=(w:Int)%10))=p1
 generalize (decide (c=88)||decide (Mk.dv c=((w / 10:Nat):Int)%10))=p2
 generalize (decide (b=88)||decide (Mk.dv b=((w / 10 / 10:Nat):Int)%10))=p3
 generalize (decide (a=88)||decide (Mk.dv a=((w / 10 / 10 / 10:Nat):Int)%10))=p4
 cases p1<;>cases p2<;>cases p3<;>cases p4<;>rfl
theorem MN {c:UInt8} (h:bp c=true\/c=88):Mk.okB c=true:=by
 rcases h with h | h
 ·have h:=(dl c).1 h
  unfold Mk.okB
  simp only [gB,az,bY]
  right
  first | omega | (obtain ⟨h1,h2⟩:=h;constructor<;>omega)
 ·subst h;decide
theorem Jy {d:aa} (hl:d.length=4) (h:∀c∈d,bp c=true\/c=88):Mk.chk d=0:=by
 unfold Mk.chk
 have:d.all Mk.okB=true:=cL.2 λc hc=>MN (h c hc)
 rw [ab (by omega),ae this,ab (by rintro rfl;simp at hl)]
theorem Dy {d:aa} (hl:d.length=4) (h:∀c∈d,bp c=true\/c=88) (w:Nat):Mk.hasM d (w:Int)=true↔mtk d 4 w=true/\w / 10 ^ 4=0:=by
 obtain ⟨a,b,c,e,rfl⟩:∃a b c e,d=[a,b,c,e]:=by
  match d,hl with
  | [a,b,c,e],_=>exact ⟨a,b,c,e,rfl⟩
 rw [Mk.Cx,OH (h a (by simp)) (h b (by simp)) (h c (by simp)) (h e (by simp)) w]
 simp only [az,bY]
 show 0<=(w:Int)/\(w:Int)<10 ^ 4/\Mk.ag [e,c,b,a] (w:Int)=true↔Mk.ag [e,c,b,a] (w:Int)=true/\w / 10 ^ 4=0
 have e4:(10:Int) ^ 4=10000:=by decide
 have e4':(10:Nat) ^ 4=10000:=by decide
 rw [e4,e4']
 constructor
 ·rintro ⟨_,h2,h3⟩;exact ⟨h3,by omega⟩
 ·rintro ⟨h3,h2⟩;exact ⟨by omega,by omega,h3⟩
theorem EN {g l:Bool} {d:aa} {x q:Int} (hok:okY g l d x q) (hX:hasX d=true) (v:Int):inP g d x q v↔(Mk.hasM d (wOf g v)=true/\(g=true->1<=wOf g v)):=by
 obtain ⟨rfl,rfl,rfl,hl,hd⟩:=pD hok hX
 unfold inP
 rw [E6 hX]
 have hr:∀k:Int,Mk.hasM d k=true->0<=k/\k<10000:=λk hk=>by
  have:=(Mk.nA hk).2.2.2.2
  rw [hl] at this
  have e4:(10:Int) ^ 4=10000:=by decide
  omega
 constructor
 ·rintro ⟨h1,h2,h3,h4,h5⟩
  have:=(Dy hl hd (wOf g v).toNat).2 h5
  rw [show (((wOf g v).toNat:Nat):Int)=wOf g v by omega] at this
  refine ⟨this,λhg=>?_⟩
  have h0:¬wOf g v=0:=λe=>h4 ⟨hX,hg,e⟩
  omega
 ·rintro ⟨h1,h2⟩
  have hr':=hr _ h1
  have hm:=(Dy hl hd (wOf g v).toNat).1 (by rw [show (((wOf g v).toNat:Nat):Int)=wOf g v by omega];exact h1)
  have hv:v=wOf g v\/v=- wOf g v:=by
   unfold wOf;split
   ·right;omega
   ·left;rfl
  refine ⟨by omega,by omega,hr'.1,?_,hm⟩
  rintro ⟨_,hg,e⟩
  have:=h2 hg
  omega
theorem CP {g l:Bool} {d:aa} {x:Int} (hok:okY g l d x 0) (hX:hasX d=false) (v:Int):inP g d x 0 v↔v=(if g then -((val d x.toNat:Nat):Int) else ((val d x.toNat:Nat):Int)):=by
 obtain ⟨k,q,rfl,hq,hN⟩:=qM hok hX
 have hs:=hN.small
 have hv:dval 0 d*10 ^ k=val d k:=rfl
 rw [hv] at hs
 unfold E16 at hs
 unfold inP
 rw [LE hX]
 have hu:CD d (k:Int).toNat (0:Int).toNat=1:=rfl
 rw [hu,bF,rJ,rJ,hX]
 unfold wOf
 cases g with
 | true=>
  simp only [aO]
  constructor
  ·rintro ⟨h1,h2,h3,_,h5⟩;omega
  ·rintro rfl;refine ⟨by omega,by omega,by omega,by simp,by omega⟩
 | false=>
  simp only [bV,aD]
  constructor
  ·rintro ⟨h1,h2,h3,_,h5⟩;omega
  ·rintro rfl;refine ⟨by omega,by omega,by omega,by simp,by omega⟩
def Cd (up:Bool) (Y:Int->Prop) (v w:Int) (found:Bool):Prop:=
 (found=true->Y w/\Mk.eM up v w/\∀e,Y e->Mk.eM up v e->Mk.eM up w e)/\(found=false->∀e,Y e->¬Mk.eM up v e)
theorem eI (a b:Int):Mk.eM true a b↔a<=b:=Iff.rfl
theorem gT (a b:Int):Mk.eM false a b↔b<=a:=Iff.rfl
theorem L2 (o:Option Int):(Mk.res o).2=0/\(∃r,o=some r/\(Mk.res o).1=r)\/(Mk.res o).2=16/\o=none/\(Mk.res o).1=0:=by
 cases o with
 | none=>exact .inr ⟨rfl,rfl,rfl⟩
 | some r=>exact .inl ⟨rfl,r,rfl,rfl⟩
theorem tD {m:aa} (hm:Mk.chk m=0) (v least:Int) (h0:0<=least):∃w f,fb 20000000 m v true least=some (w,f)/\Cd true (λe=>Mk.hasM m e=true/\least<=e) v w f/\(0<=w/\w<1000000000000000000):=by
 obtain ⟨o,h1,h2⟩:=Mk.Gl hm (cond (decide (least>v)) least v)
 unfold fb
 rw [h1]
 simp only [ob,aj]
 have hc:(cond (decide (least>v)) least v)=max v least:=by
  by_cases h:least>v
  ·rw [ar h];show least=_;omega
  ·rw [au h];show v=_;omega
 rw [hc] at h2
 rcases L2 o with ⟨e1,r,rfl,e2⟩ | ⟨e1,rfl,e2⟩
 ·refine ⟨_,_,rfl,?_,?_⟩
  ·rw [e1,e2]
   obtain ⟨a1,a2,a3⟩:=h2
   rw [eI] at a2
   refine ⟨λ_=>⟨⟨a1,by omega⟩,?_,λe he hv=>?_⟩,λh=>by cases h⟩
   ·rw [eI];omega
   ·rw [eI] at hv
    exact a3 e he.1 (by rw [eI];have:=he.2;omega)
  ·have:=(Mk.nA h2.1).2.2.2.2
   have hl:=Mk.mL hm
   have hp:(10:Int) ^ m.length<=10 ^ 18:=by
    have:=jS (show 0<10 by decide) hl.1
    exact_mod_cast this
   have e18:(10:Int) ^ 18=1000000000000000000:=by decide
   rw [e2]
   omega
 ·refine ⟨_,_,rfl,?_,by rw [e2];omega⟩
  rw [e1]
  refine ⟨(λh=>by cases h),λ_ e he hv=>?_⟩
  rw [eI] at hv
  exact h2 e he.1 (by rw [eI];have:=he.2;omega)
theorem tO {m:aa} (hm:Mk.chk m=0) (v least:Int) (h0:0<=least):∃w f,fb 20000000 m v false least=some (w,f)/\Cd false (λe=>Mk.hasM m e=true/\least<=e) v w f/\(0<=w/\w<1000000000000000000):=by
 obtain ⟨o,h1,h2⟩:=Mk.H4 hm v
 unfold fb
 rw [h1]
 simp only [ob,af]
 rcases L2 o with ⟨e1,r,rfl,e2⟩ | ⟨e1,rfl,e2⟩
 ·rw [e1,e2]
  obtain ⟨a1,a2,a3⟩:=h2
  rw [gT] at a2
  have hb:=(Mk.nA a1).2.2.2.2
  have hl:=Mk.mL hm
  have hp:(10:Int) ^ m.length<=10 ^ 18:=by
   have:=jS (show 0<10 by decide) hl.1
   exact_mod_cast this
  have e18:(10:Int) ^ 18=1000000000000000000:=by decide
  refine ⟨_,_,rfl,?_,by omega⟩
  by_cases hle:r>=least
  ·rw [ar hle]
   refine ⟨λ_=>⟨⟨a1,by omega⟩,by rw [gT];omega,λe he hv=>a3 e he.1 hv⟩,λh=>by cases h⟩
  ·rw [au hle]
   refine ⟨(λh=>by cases h),λ_ e he hv=>?_⟩
   have:=a3 e he.1 hv
   rw [gT] at this
   have:=he.2
   omega
 ·rw [e1,e2]
  refine ⟨_,_,rfl,?_,by omega⟩
  refine ⟨(λh=>by cases h),λ_ e he hv=>h2 e he.1 hv⟩
theorem Jm {g l:Bool} {dg:aa} {x:Int} (hok:okY g l dg x 0) (m d:aa) (k0 k1 k2:Int) (v:Int) (hv:-9223372036854775808<=v/\v<9223372036854775808) (up:Bool) (ms ds:List Int):
  ∃w f,cg 20000000 g l dg x 0 m d k0 k1 k2 v up ms ds=some (w,f)/\Cd up (inP g dg x 0) v w f:=by
 have hsm:=ir hok
 unfold cg
 rw [rQ]
 simp only [ob]
 cases hX:hasX dg with
 | false=>
  have hin:=CP hok hX
  rw [yE 20000000 g l dg x 0 (by omega) (by omega),ae ⟨hok,hX⟩]
  simp only [ja,aj]
  generalize (if g then -((val dg x.toNat:Nat):Int) else ((val dg x.toNat:Nat):Int))=w at *
  cases up with
  | true=>
   by_cases h:w>=v
   ·refine ⟨w,true,?_,?_⟩
    ·simp only [ar h,aj]
    ·refine ⟨λ_=>⟨(hin w).2 rfl,h,λe he _=>?_⟩,λh=>by cases h⟩
     rw [(hin e).1 he];exact sD _
   ·refine ⟨w,false,?_,?_⟩
    ·simp only [au h,aj,af,dI]
    ·refine ⟨(λh=>by cases h),λ_ e he ha=>?_⟩
     rw [(hin e).1 he,eI] at ha;omega
  | false=>
   by_cases h:w<=v
   ·refine ⟨w,true,?_,?_⟩
    ·simp only [ar h,aj,af,ja]
    ·refine ⟨λ_=>⟨(hin w).2 rfl,h,λe he _=>?_⟩,λh=>by cases h⟩
     rw [(hin e).1 he];exact sD _
   ·refine ⟨w,false,?_,?_⟩
    ·simp only [au h,aj,af,ja]
    ·refine ⟨(λh=>by cases h),λ_ e he ha=>?_⟩
     rw [(hin e).1 he,gT] at ha;omega
 | true=>
  have hin:=EN hok hX
  obtain ⟨rfl,rfl,_,hl,hd⟩:=pD hok hX
  have hm:=Jy hl hd
  simp only [dI,af]
  cases g with
  | false=>
   simp only [ja,aj]
   have same:∀w f,Cd up (λe=>Mk.hasM dg e=true/\0<=e) v w f->Cd up (inP false dg 0 0) v w f:=λw f h=>by
    have hiff:∀e,(Mk.hasM dg e=true/\0<=e)↔inP false dg 0 0 e:=λe=>by
     rw [hin e]
     constructor
     ·rintro ⟨h1,_⟩;exact ⟨h1,λh=>by cases h⟩
     ·rintro ⟨h1,_⟩;exact ⟨h1,(Mk.nA h1).2.2.2.2.1⟩
    refine ⟨λhf=>?_,λhf e he=>h.2 hf e ((hiff e).2 he)⟩
    obtain ⟨b1,b2,b3⟩:=h.1 hf
    exact ⟨(hiff w).1 b1,b2,λe he=>b3 e ((hiff e).2 he)⟩
   cases up with
   | true=>
    obtain ⟨w,f,h1,h2,_⟩:=tD hm v 0 (by omega)
    exact ⟨w,f,by rw [h1],same w f h2⟩
   | false=>
    obtain ⟨w,f,h1,h2,_⟩:=tO hm v 0 (by omega)
    exact ⟨w,f,by rw [h1],same w f h2⟩
  | true=>
   simp only [dI,af]
   have hc:IntKind.wrap .i64 (0 - (cond (decide (((-9223372036854775807):Int)>v)) (-9223372036854775807) v))=min (-v) 9223372036854775807:=by
    by_cases h:((-9223372036854775807):Int)>v
    ·rw [ar h,aj,wrap_i64 _ (by omega) (by omega)];omega
    ·rw [au h,af,wrap_i64 _ (by omega) (by omega)];omega
   rw [hc]
   have hb:∀e,Mk.hasM dg e=true->0<=e/\e<10000:=λe he=>by
    have:=(Mk.nA he).2.2.2.2
    rw [hl] at this
    have e4:(10:Int) ^ 4=10000:=by decide
    omega
   have hiff:∀e,inP true dg 0 0 e↔(Mk.hasM dg (-e)=true/\1<=-e):=λe=>by
    rw [hin e]
    exact ⟨λh=>⟨h.1,h.2 rfl⟩,λh=>⟨h.1,λ_=>h.2⟩⟩
   have hw:∀w:Int,0<=w/\w<1000000000000000000->IntKind.wrap .i64 (0 - w)=-w:=λw h=>by rw [wrap_i64 _ (by omega) (by omega)];omega
   cases up with
   | true=>
    obtain ⟨w,f,h1,h2,h3⟩:=tO hm (min (-v) 9223372036854775807) 1 (by omega)
    refine ⟨-w,f,by rw [dI,h1];simp only [hw w h3],?_,?_⟩
    ·intro hf
     obtain ⟨b1,b2,b3⟩:=h2.1 hf
     rw [gT] at b2
     refine ⟨(hiff _).2 (by rw [Int.neg_neg];exact b1),by rw [eI];omega,λe he ha=>?_⟩
     rw [eI] at ha
     have hh:=(hiff e).1 he
     have:=b3 (-e) hh (by rw [gT];have:=hb _ hh.1;omega)
     rw [gT] at this
     rw [eI];omega
    ·intro hf e he ha
     rw [eI] at ha
     have hh:=(hiff e).1 he
     exact h2.2 hf (-e) hh (by rw [gT];have:=hb _ hh.1;omega)
   | false=>
    obtain ⟨w,f,h1,h2,h3⟩:=tD hm (min (-v) 9223372036854775807) 1 (by omega)
    refine ⟨-w,f,by rw [ja,h1];simp only [hw w h3],?_,?_⟩
    ·intro hf
     obtain ⟨b1,b2,b3⟩:=h2.1 hf
     rw [eI] at b2
     have hbw:=hb _ b1.1
     refine ⟨(hiff _).2 (by rw [Int.neg_neg];exact b1),by rw [gT];omega,λe he ha=>?_⟩
     rw [gT] at ha
     have hh:=(hiff e).1 he
     have:=b3 (-e) hh (by rw [eI];omega)
     rw [eI] at this
     rw [gT];omega
    ·intro hf e he ha
     rw [gT] at ha
     have hh:=(hiff e).1 he
     exact h2.2 hf (-e) hh (by rw [eI];omega)
theorem rW {X Y A:Type} {step:X->Option (X⊕Y)} {f:Nat->X} {L:List A} {G:A->Option Y} {e:Y}
  (h:∀i a,L[i]?=some a->step (f i)=some ((G a).elim (.inl (f (i+1))) Sum.inr)) (he:step (f L.length)=some (.inr e)) {N:Nat} (hN:L.length<N):
  aw step N (f 0)=some ((L.findSome? G).getD e):=by
 have go:∀(r i:Nat),i+r=L.length->∀N,r<N->aw step N (f i)=some (((L.drop i).findSome? G).getD e):=by
  intro r
  induction r with
  | zero=>
   intro i hi N hN
   obtain ⟨N,rfl⟩:∃q,N=q+1:=⟨N - 1,by omega⟩
   obtain rfl:i=L.length:=by omega
   rw [aw,he]
   simp
  | succ r ih=>
   intro i hi N hN
   obtain ⟨N,rfl⟩:∃q,N=q+1:=⟨N - 1,by omega⟩
   have hb:L[i]?=some L[i]:=bm (by omega)
   rw [aw,h i L[i] hb,wJ (show i<L.length by omega),A4]
   cases hG:G L[i] with
   | some y=>rfl
   | none=>exact ih (i+1) (by omega) N (by omega)
 have:=go L.length 0 (by omega) N hN
 simpa using this
def ahd (up:Bool) (a b:Int):Bool:=cond up (decide (a<b)) (decide (a>b))
theorem E7 (n:Nat) (a b:Int) (up:Bool):cD n a b up=some (ahd up a b):=by
 unfold cD ahd
 cases up
 ·rfl
 ·simp only [aj,dI,af]
  cases decide (a<b)<;>rfl
def yH (up same:Bool) (d:aa) (cd most k:Int):Bool:=decide (k<=most)&&!(same&&(!(d==([]:aa))&&ahd up k cd))
def H3 (up:Bool) (m:aa) (cy cm y mo:Int):Bool:=(y==cy)&&(!(m==([]:aa))&&ahd up mo cm)
def Fj (m:aa) (cy cm y mo:Int):Bool:=(y==cy)&&((m==([]:aa))||(mo==cm))
def CK (up:Bool) (m d:aa) (cy cm cd y:Int) (ds:List Int) (mo:Int):Option (Int×Int×Int):=
 if H3 up m cy cm y mo then none else (ds.find? (yH up (Fj m cy cm y mo) d cd (tW d y mo))).map λk=>(y,mo,k)
def C4 (up:Bool) (m d:aa) (cy cm cd:Int) (ms ds:List Int) (y:Int):Option (Int×Int×Int):=ms.findSome? (CK up m d cy cm cd y ds)
def Hs (d:aa) (ms:List Int):Prop:=ms.length<=31/\(d≠[]->∀mo∈ms,1<=mo/\mo<=12)
theorem GI (n:Nat) (g l:Bool) (dg:aa) (x q:Int) (m d:aa) (k0 k1 k2:Int) {y:Int} (hy:dJ y) {mo:Int} (hmo:d≠[]->1<=mo/\mo<=12) (ms ds:List Int):
  eF n g l dg x q m d k0 k1 k2 y mo ms ds=some (tW d y mo):=by
 unfold eF tW
 by_cases hd:d=[]
 ·subst hd;rfl
 ·rw [ft hd,ab hd]
  have:=hmo hd
  obtain ⟨k,rfl⟩:∃k:Nat,mo=(k:Int):=⟨mo.toNat,by omega⟩
  rw [af,Js n hy (by omega) (by omega)]
  rfl
theorem NZ {A B Y:Type} (L:List A) (p:A->Bool) (F:A->B) (J:B->Y) (e:Y):(L.findSome? λa=>if p a then some (J (F a)) else none).getD e=((L.find? p).map F).elim e J:=by
 induction L with
 | nil=>rfl
 | cons a L ih=>
  rw [List.find?_cons,A4]
  cases h:p a
  ·simpa using ih
  ·simp
theorem Ot {A B Y:Type} (L:List A) (G:A->Option B) (J:B->Y) (e:Y):(L.findSome? λa=>(G a).map J).getD e=(L.findSome? G).elim e J:=by
 induction L with
 | nil=>rfl
 | cons a L ih=>
  rw [A4,A4]
  cases h:G a
  ·simpa using ih
  ·simp
theorem K5 (n:Nat) (s y mo:Int) (same:Bool) (most lm im:Int) (ms ds:List Int) (g l:Bool) (dg:aa) (x q:Int) (m d:aa) (k0 k1 k2 cy cm cd:Int) (up:Bool) (ry rm rd:Int) (i:Nat) (k:Int) (hi:ds[i]?=some k) (h31:i<1000):
  bE n (s,y,mo,same,most,lm,im,((ds.length:Nat):Int),(i:Int),ms,ds,g,l,dg,x,q,m,d,k0,k1,k2,cy,cm,cd,up,ry,rm,rd)=some ((if yH up same d cd most k then some (.inl (true,y,mo,k)) else none).elim (.inl (s,y,mo,same,most,lm,im,((ds.length:Nat):Int),((i+1:Nat):Int),ms,ds,g,l,dg,x,q,m,d,k0,k1,k2,cy,cm,cd,up,ry,rm,rd)) Sum.inr):=by
 have hil:i<ds.length:=(mX.1 hi).1
 have w1:IntKind.wrap .i64 ((i:Int)+1)=((i+1:Nat):Int):=by rw [wrap_i64 _ (by omega) (by omega)];omega
 unfold bE gU yH
 simp only [d4,d8,d16,cT hil,hi,ob,w1,E7]
 rw [ar (show (i:Int)<((ds.length:Nat):Int) by omega)]
 simp only [aj]
 cases decide (k<=most)<;>cases same<;>cases (d==([]:aa))<;>cases ahd up k cd<;>simp only [dI,ja,aj,af,w1]<;>rfl
theorem Mp (n:Nat) (s y mo:Int) (same:Bool) (most lm im:Int) (ms ds:List Int) (g l:Bool) (dg:aa) (x q:Int) (m d:aa) (k0 k1 k2 cy cm cd:Int) (up:Bool) (ry rm rd:Int):
  bE n (s,y,mo,same,most,lm,im,((ds.length:Nat):Int),((ds.length:Nat):Int),ms,ds,g,l,dg,x,q,m,d,k0,k1,k2,cy,cm,cd,up,ry,rm,rd)=some (.inr (.inr (s,y,lm,im,ms,ds,g,l,dg,x,q,m,d,k0,k1,k2,cy,cm,cd,up,ry,rm,rd))):=by
 unfold bE
 simp only [d4,d8,d16]
 rw [au (show ¬((ds.length:Nat):Int)<((ds.length:Nat):Int) by omega)]
 rfl
theorem Mo (n:Nat) (hn:1000<n) (s y mo:Int) (same:Bool) (most lm im:Int) (ms ds:List Int) (g l:Bool) (dg:aa) (x q:Int) (m d:aa) (k0 k1 k2 cy cm cd:Int) (up:Bool) (ry rm rd:Int) (hd:ds.length<=31):
  aw (bE n) n (s,y,mo,same,most,lm,im,((ds.length:Nat):Int),0,ms,ds,g,l,dg,x,q,m,d,k0,k1,k2,cy,cm,cd,up,ry,rm,rd)=some (((ds.find? (yH up same d cd most)).map (λk=>(y,mo,k))).elim (.inr (s,y,lm,im,ms,ds,g,l,dg,x,q,m,d,k0,k1,k2,cy,cm,cd,up,ry,rm,rd)) (λz=>.inl (true,z))):=by
 have:=rW (step:=bE n) (f:=λi=>(s,y,mo,same,most,lm,im,((ds.length:Nat):Int),(i:Int),ms,ds,g,l,dg,x,q,m,d,k0,k1,k2,cy,cm,cd,up,ry,rm,rd)) (L:=ds) (G:=λk=>if yH up same d cd most k then some (.inl (true,y,mo,k)) else none) (e:=.inr (s,y,lm,im,ms,ds,g,l,dg,x,q,m,d,k0,k1,k2,cy,cm,cd,up,ry,rm,rd))
  (λi k hi=>by
   have hil:i<ds.length:=(mX.1 hi).1
   exact K5 n s y mo same most lm im ms ds g l dg x q m d k0 k1 k2 cy cm cd up ry rm rd i k hi (by omega))
  (Mp n s y mo same most lm im ms ds g l dg x q m d k0 k1 k2 cy cm cd up ry rm rd) (N:=n) (by omega)
 exact this.trans (dP some (NZ ds (yH up same d cd most) (λk=>(y,mo,k)) (λz=>Sum.inl (true,z)) _))
theorem Kx (n:Nat) (hn:1000<n) (s y:Int) (hy:dJ y) (ms ds:List Int) (g l:Bool) (dg:aa) (x q:Int) (m d:aa) (k0 k1 k2 cy cm cd:Int) (up:Bool) (ry rm rd:Int) (hm:Hs d ms) (hd:ds.length<=31) (i:Nat) (mo:Int) (hi:ms[i]?=some mo):
  cf n (s,y,((ms.length:Nat):Int),(i:Int),ms,ds,g,l,dg,x,q,m,d,k0,k1,k2,cy,cm,cd,up,ry,rm,rd)=some (((CK up m d cy cm cd y ds mo).map (λz=>(.inl (true,z):(Bool×Int×Int×Int)⊕_))).elim (.inl (s,y,((ms.length:Nat):Int),((i+1:Nat):Int),ms,ds,g,l,dg,x,q,m,d,k0,k1,k2,cy,cm,cd,up,ry,rm,rd)) Sum.inr):=by
 have hil:i<ms.length:=(mX.1 hi).1
 have h31:=hm.1
 have w1:IntKind.wrap .i64 ((i:Int)+1)=((i+1:Nat):Int):=by rw [wrap_i64 _ (by omega) (by omega)];omega
 have hmo:d≠[]->1<=mo/\mo<=12:=λh=>hm.2 h mo (fm hi)
 have j20:∀a b:Int,eH n s y mo (y==cy) a b ms ds g l dg x q m d k0 k1 k2 cy cm cd up ry rm rd=some (s,y,mo,(y==cy),a,b,H3 up m cy cm y mo,ms,ds,g,l,dg,x,q,m,d,k0,k1,k2,cy,cm,cd,up,ry,rm,rd):=by
  intro a b
  unfold eH H3
  simp only [E7,ob]
  cases (y==cy)<;>cases (m==([]:aa))<;>rfl
 have j23:∀a b c:Int,eN n s y mo (y==cy) a b c ms ds g l dg x q m d k0 k1 k2 cy cm cd up ry rm rd=some (s,y,mo,Fj m cy cm y mo,a,b,c,ms,ds,g,l,dg,x,q,m,d,k0,k1,k2,cy,cm,cd,up,ry,rm,rd):=by
  intro a b c
  unfold eN Fj
  cases (y==cy)<;>cases (m==([]:aa))<;>rfl
 unfold cf gM CK
 simp only [d4,d8,d16,cT hil,hi,ob,j20]
 rw [ar (show (i:Int)<((ms.length:Nat):Int) by omega)]
 simp only [aj]
 cases hs:H3 up m cy cm y mo with
 | true=>simp only [aj,aO,il,w1];rfl
 | false=>
  simp only [af,bV,aD,GI n g l dg x q m d k0 k1 k2 hy hmo,j23,Mo n hn s y mo (Fj m cy cm y mo) (tW d y mo) _ _ ms ds g l dg x q m d k0 k1 k2 cy cm cd up ry rm rd hd]
  cases ds.find? (yH up (Fj m cy cm y mo) d cd (tW d y mo)) with
  | some k=>rfl
  | none=>simp only [il,Option.elim_none,w1]
theorem MO (n:Nat) (hn:1000<n) (s y:Int) (hy:dJ y) (ms ds:List Int) (g l:Bool) (dg:aa) (x q:Int) (m d:aa) (k0 k1 k2 cy cm cd:Int) (up:Bool) (ry rm rd:Int) (hm:Hs d ms) (hd:ds.length<=31):
  aw (cf n) n (s,y,((ms.length:Nat):Int),0,ms,ds,g,l,dg,x,q,m,d,k0,k1,k2,cy,cm,cd,up,ry,rm,rd)=some ((C4 up m d cy cm cd ms ds y).elim (.inr (s,y,ms,ds,g,l,dg,x,q,m,d,k0,k1,k2,cy,cm,cd,up,ry,rm,rd)) (λz=>.inl (true,z))):=by
 have h31:=hm.1
 have:=rW (step:=cf n) (f:=λi=>(s,y,((ms.length:Nat):Int),(i:Int),ms,ds,g,l,dg,x,q,m,d,k0,k1,k2,cy,cm,cd,up,ry,rm,rd)) (L:=ms) (G:=λmo=>(CK up m d cy cm cd y ds mo).map (λz=>(.inl (true,z):(Bool×Int×Int×Int)⊕_))) (e:=.inr (s,y,ms,ds,g,l,dg,x,q,m,d,k0,k1,k2,cy,cm,cd,up,ry,rm,rd))
  (λi mo hi=>Kx n hn s y hy ms ds g l dg x q m d k0 k1 k2 cy cm cd up ry rm rd hm hd i mo hi)
  (by
   unfold cf
   simp only [d4,d8,d16]
   rw [au (show ¬((ms.length:Nat):Int)<((ms.length:Nat):Int) by omega)]
   rfl)
  (N:=n) (by omega)
 exact this.trans (dP some (Ot ms (CK up m d cy cm cd y ds) (λz=>Sum.inl (true,z)) _))
theorem K0 (n:Nat) (hn:1000<n) (s y:Int) (hy:dJ y) (ms ds:List Int) (g l:Bool) (dg:aa) (x q:Int) (m d:aa) (k0 k1 k2 cy cm cd:Int) (up:Bool) (ry rm rd:Int) (hm:Hs d ms) (hd:ds.length<=31):
  cP n (s,y,true,ms,ds,g,l,dg,x,q,m,d,k0,k1,k2,cy,cm,cd,up,ry,rm,rd)=(C4 up m d cy cm cd ms ds y).elim (ob (cg n g l dg x q m d k0 k1 k2 (IntKind.wrap .i64 (y+s)) up ms ds) λr=>some (.inl (s,r.1,r.2,ms,ds,g,l,dg,x,q,m,d,k0,k1,k2,cy,cm,cd,up,ry,rm,rd))) (λz=>some (.inr (.inl (true,z)))):=by
 unfold cP
 simp only [d4,d8,d16,aj,ob,MO n hn s y hy ms ds g l dg x q m d k0 k1 k2 cy cm cd up ry rm rd hm hd]
 cases C4 up m d cy cm cd ms ds y<;>rfl
def E5 (up:Bool) (Y:Int->Prop) (F:Int->Option (Int×Int×Int)) (v:Int):Option (Int×Int×Int)->Prop
 | some z=>∃e,Y e/\Mk.eM up v e/\F e=some z/\∀e',Y e'->Mk.eM up v e'->¬Mk.eM up e e'->F e'=none
 | none=>∀e,Y e->Mk.eM up v e->F e=none
theorem Fx {X:Type} {step:X->Option (X⊕((Bool×Int×Int×Int)⊕(Int×Int×Int)))} {st:Int->Bool->X} {F:Int->Option (Int×Int×Int)} {Y:Int->Prop} {up:Bool} {s lo hi:Int} {E:Int×Int×Int} {fy:Int->Option (Int×Bool)}
  (hs:s=if up then 1 else -1) (hY:∀e,Y e->lo<=e/\e<=hi) (h0:-10000000000000000<=lo) (h1:hi<=10000000000000000)
  (hstep:∀y,Y y->step (st y true)=(F y).elim (ob (fy (IntKind.wrap .i64 (y+s))) λr=>some (.inl (st r.1 r.2))) (λz=>some (.inr (.inl (true,z)))))
  (hend:∀y,step (st y false)=some (.inr (.inr E)))
  (hfy:∀v,-9223372036854775808<=v/\v<9223372036854775808->∃w f,fy v=some (w,f)/\Cd up Y v w f):
  ∀(r:Nat) (v y:Int) (f:Bool),Cd up Y v y f->(f=true->(if up then hi - y else y - lo)<(r:Int))->∀N,r<N->
   ∃o,aw step N (st y f)=some (o.elim (.inr E) (λz=>.inl (true,z)))/\E5 up Y F v o:=by
 intro r
 induction r with
 | zero=>
  intro v y f hn hr N hN
  obtain ⟨N,rfl⟩:∃q,N=q+1:=⟨N - 1,by omega⟩
  cases f with
  | true=>
   obtain ⟨a1,_,_⟩:=hn.1 rfl
   have:=hY y a1
   have:=hr rfl
   cases up<;>simp at this<;>omega
  | false=>
   refine ⟨none,by rw [aw,hend];rfl,λe he ha=>absurd ha (hn.2 rfl e he)⟩
 | succ r ih=>
  intro v y f hn hr N hN
  obtain ⟨N,rfl⟩:∃q,N=q+1:=⟨N - 1,by omega⟩
  cases f with
  | false=>
   refine ⟨none,by rw [aw,hend];rfl,λe he ha=>absurd ha (hn.2 rfl e he)⟩
  | true=>
   obtain ⟨a1,a2,a3⟩:=hn.1 rfl
   have hb:=hY y a1
   cases hF:F y with
   | some z=>
    refine ⟨some z,?_,y,a1,a2,hF,λe' h1 h2 h3=>absurd (a3 e' h1 h2) h3⟩
    rw [aw,hstep y a1,hF];rfl
   | none=>
    have hw:IntKind.wrap .i64 (y+s)=y+s:=by
     have:-1<=s/\s<=1:=by rw [hs];cases up<;>simp
     exact wrap_i64 _ (by omega) (by omega)
    obtain ⟨w,f',e1,e2⟩:=hfy (y+s) (by
     have:-1<=s/\s<=1:=by rw [hs];cases up<;>simp
     omega)
    have hstep':step (st y true)=some (.inl (st w f')):=by
     rw [hstep y a1,hF,hw]
     show ob (fy (y+s)) _=_
     rw [e1];rfl
    obtain ⟨o,i1,i2⟩:=ih (y+s) w f' e2 (λhf=>by
     obtain ⟨b1,b2,_⟩:=e2.1 hf
     have:=hr rfl
     cases up
     ·rw [gT] at b2
      simp only [bV,aD] at hs this ⊢
      omega
     ·rw [eI] at b2
      simp only [aO] at hs this ⊢
      omega) N (by omega)
    refine ⟨o,by rw [aw,hstep'];exact i1,?_⟩
    have split:∀e',Y e'->Mk.eM up v e'->e'=y\/Mk.eM up (y+s) e':=λe' h1 h2=>by
     have h3:=a3 e' h1 h2
     cases up
     ·rw [gT] at h3 ⊢
      simp only [bV,aD] at hs
      omega
     ·rw [eI] at h3 ⊢
      simp only [aO] at hs
      omega
    cases o with
    | none=>
     intro e he ha
     rcases split e he ha with rfl | h
     ·exact hF
     ·exact i2 e he h
    | some z=>
     obtain ⟨e,c1,c2,c3,c4⟩:=i2
     refine ⟨e,c1,?_,c3,λe' h1 h2 h3=>?_⟩
     ·cases up
      ·rw [gT] at c2 a2 ⊢
       simp only [bV,aD] at hs
       omega
      ·rw [eI] at c2 a2 ⊢
       simp only [aO] at hs
       omega
     ·rcases split e' h1 h2 with rfl | h
      ·exact hF
      ·exact c4 e' h1 h h3
theorem yd {g l:Bool} {dg:aa} {x:Int} (hok:okY g l dg x 0):∃lo hi:Int,(∀e,inP g dg x 0 e->lo<=e/\e<=hi)/\hi - lo<=10000/\-10000000000000000<=lo/\hi<=10000000000000000:=by
 cases hX:hasX dg with
 | false=>
  have hin:=CP hok hX
  by_cases hv:-10000000000000000<=(if g then -((val dg x.toNat:Nat):Int) else ((val dg x.toNat:Nat):Int))/\(if g then -((val dg x.toNat:Nat):Int) else ((val dg x.toNat:Nat):Int))<=10000000000000000
  ·refine ⟨_,_,λe he=>?_,?_,hv.1,hv.2⟩
   ·rw [(hin e).1 he];exact ⟨sD _,sD _⟩
   ·omega
  ·refine ⟨0,0,λe he=>?_,by omega,by omega,by omega⟩
   exfalso
   have:=(hin e).1 he
   unfold inP at he
   exact hv ⟨by rw [<-this];exact he.1,by rw [<-this];exact he.2.1⟩
 | true=>
  have hin:=EN hok hX
  obtain ⟨_,_,_,hl,hd⟩:=pD hok hX
  refine ⟨if g then -9999 else 0,if g then 0 else 9999,λe he=>?_,by cases g<;>simp,by cases g<;>simp,by cases g<;>simp⟩
  have h:=((hin e).1 he).1
  have:=(Mk.nA h).2.2.2.2
  rw [hl] at this
  have e4:(10:Int) ^ 4=10000:=by decide
  unfold wOf at this
  cases g
  ·simp at this ⊢;omega
  ·simp at this ⊢;omega
theorem z6 {g:Bool} {dg:aa} {x q e:Int} (h:inP g dg x q e):dJ e:=⟨h.1,h.2.1⟩
theorem Fn {g l:Bool} {dg:aa} {x:Int} (hok:okY g l dg x 0) (m d:aa) (k0 k1 k2:Int) (cy cm cd:Int) (hcy:-9223372036854775808<=cy/\cy<9223372036854775808) (ms ds:List Int) (hm:Hs d ms) (hd:ds.length<=31):
  ∃o,iu 20000000 g l dg x 0 m d k0 k1 k2 cy cm cd true ms ds=some (o.elim (0,0,0,false) λz=>(z.1,z.2.1,z.2.2,true))/\E5 true (inP g dg x 0) (C4 true m d cy cm cd ms ds) cy o:=by
 obtain ⟨lo,hi,hb,hw,hb0,hb1⟩:=yd hok
 obtain ⟨w,f,e1,e2⟩:=Jm hok m d k0 k1 k2 cy hcy true ms ds
 obtain ⟨o,i1,i2⟩:=Fx (step:=cP 20000000) (st:=λy f=>(1,y,f,ms,ds,g,l,dg,x,0,m,d,k0,k1,k2,cy,cm,cd,true,0,0,0)) (F:=C4 true m d cy cm cd ms ds) (Y:=inP g dg x 0) (up:=true) (s:=1) (lo:=lo) (hi:=hi) (E:=(0,0,0)) (fy:=λv=>cg 20000000 g l dg x 0 m d k0 k1 k2 v true ms ds)
  rfl hb hb0 hb1
  (λy hy=>K0 20000000 (by omega) 1 y (z6 hy) ms ds g l dg x 0 m d k0 k1 k2 cy cm cd true 0 0 0 hm hd)
  (λy=>rfl)
  (λv hv=>Jm hok m d k0 k1 k2 v hv true ms ds)
  10002 cy w f e2 (λhf=>by have:=hb w (e2.1 hf).1;simp;omega) 20000000 (by omega)
 refine ⟨o,?_,i2⟩
 unfold iu iz
 simp only [dI,af,ob,d4,d8,d16,e1]
 have i1':aw (cP 20000000) 20000000 (1,w,f,ms,ds,g,l,dg,x,0,m,d,k0,k1,k2,cy,cm,cd,true,0,0,0)=_:=i1
 rw [i1']
 cases o<;>rfl
theorem DW (m d:aa) (cm cd:Int) {cy e:Int} (h:e≠cy) (ms ds:List Int):C4 true m d cy cm cd ms ds e=none↔(ms.flatMap λmo=>(ds.filter λk=>decide (k<=tW d e mo)).map λk=>(e,mo,k))=[]:=by
 have hne:(e==cy)=false:=aM.2 h
 unfold C4
 rw [Ly,List.flatMap_eq_nil_iff]
 have:∀mo,CK true m d cy cm cd e ds mo=none↔((ds.filter λk=>decide (k<=tW d e mo)).map λk=>(e,mo,k))=[]:=by
  intro mo
  unfold CK H3 Fj
  rw [hne]
  simp only [E8,bV,aD,Option.map_eq_none_iff,List.find?_eq_none,List.map_eq_nil_iff,List.filter_eq_nil_iff]
  constructor
  ·intro h1 k hk
   have:=h1 k hk
   unfold yH at this
   simpa using this
  ·intro h1 k hk
   have:=h1 k hk
   unfold yH
   simpa using this
 exact ⟨λh1 mo hmo=>(this mo).1 (h1 mo hmo),λh1 mo hmo=>(this mo).2 (h1 mo hmo)⟩
def hasF (g:Bool) (dg:aa) (x:Int) (m d:aa):Prop:=∃e,inP g dg x 0 e/\tZ m d e≠[]
open Classical in
noncomputable def chkF (g l:Bool) (dg:aa) (x q:Int) (m d:aa) (k0 k1 k2:Int):Int:=
 if chkD g l dg x q m d k0 k1 k2=0/\d≠[]/\¬hasF g dg x m d then 8 else chkD g l dg x q m d k0 k1 k2
theorem nM {g l:Bool} {dg:aa} {x q:Int} {m d:aa} {k0 k1 k2:Int} (h:chkD g l dg x q m d k0 k1 k2=0):okY g l dg x q/\(m=[]\/m.length=2)/\(d=[]\/d.length=2)/\(0<q->m=[])/\(d≠[]->m≠[]/\sea m=0):=by
 obtain ⟨c1,c2,c3,c4⟩:=At h
 unfold yrD at c1
 by_cases hok:okY g l dg x q
 ·rw [ae hok] at c1
  refine ⟨hok,?_,?_,λhq=>?_,λhd=>?_⟩
  ·rcases c2 with h | h | h
   ·exact .inl h
   ·exact .inr (B7 h).1
   ·exact .inr (mF (by omega) h).1
  ·rcases c3 with h | ⟨_,_,h⟩
   ·exact .inl h
   ·exact .inr (mF (by omega) h).1
  ·unfold yrB at c1
   simp only [az,kx] at c1
   have:=c1.1
   rw [ar hq,mJ] at this
   by_cases hm:m=[]
   ·exact hm
   ·rw [ft hm] at this;cases this
  ·rcases c3 with h | ⟨h1,h2,_⟩
   ·exact absurd h hd
   ·exact ⟨h1,h2⟩
 ·rw [ab hok] at c1;cases c1
theorem Kt {g l:Bool} {dg:aa} {x q:Int} (h:okY g l dg x q):0<=q:=(ir h).2.2.1
theorem Hz {m d:aa} (h:d≠[]->m≠[]/\sea m=0):Hs d (monI m):=by
 refine ⟨pB (EF m) (by omega),λhd mo hmo=>?_⟩
 obtain ⟨h1,h2⟩:=h hd
 unfold monI at hmo
 rw [ab h1,ab (by omega)] at hmo
 obtain ⟨k,hk,rfl⟩:=dQ.1 hmo
 have:=rh.1 (kM.1 hk).1
 omega
theorem uA {g l:Bool} {dg:aa} {x q:Int} {m d:aa} {k0 k1 k2:Int} (hml:m.length<=18) (hdl:dg.length<=100) (h0:0<=k0) (h1:0<=k1) (h2:0<=k2):
  bu 20000000 g l dg x q m d k0 k1 k2=some (chkF g l dg x q m d k0 k1 k2):=by
 unfold bu chkF
 rw [ze 20000000 (by omega) g l dg x q m d k0 k1 k2 hml hdl h0 h1 h2]
 simp only [ob]
 by_cases hc:chkD g l dg x q m d k0 k1 k2=0
 ·obtain ⟨hok,hm2,hd2,hq,hdm⟩:=nM hc
  rw [hc]
  simp only [fp,af]
  by_cases hd:d=[]
  ·subst hd
   rw [ab (by simp)];rfl
  ·rw [ft hd,af]
   have hq0:q=0:=by
    have:=Kt hok
    by_cases h:0<q
    ·exact absurd (hq h) (hdm hd).1
    ·omega
   subst hq0
   have e:=QH 20000000 (by omega) g l dg x 0 m d k0 k1 k2 hm2 hd2
   have hmo:=Hz hdm
   obtain ⟨o,o1,o2⟩:=Fn hok m d k0 k1 k2 (-9223372036854775808) 0 0 (by omega) (monI m) (dayI d) hmo (DC d)
   have hne:∀e,inP g dg x 0 e->e≠-9223372036854775808:=λe he=>by have:=z6 he;unfold dJ at this;omega
   have key:(∃z,o=some z)↔hasF g dg x m d:=by
    constructor
    ·rintro ⟨z,rfl⟩
     obtain ⟨e,c1,_,c3,_⟩:=o2
     refine ⟨e,c1,λhn=>?_⟩
     have:=(DW m d 0 0 (hne e c1) (monI m) (dayI d)).2 hn
     rw [this] at c3;cases c3
    ·rintro ⟨e,c1,c2⟩
     cases o with
     | some z=>exact ⟨z,rfl⟩
     | none=>
      have:=o2 e c1 (by rw [eI];have:=z6 c1;unfold dJ at this;omega)
      exact absurd ((DW m d 0 0 (hne e c1) (monI m) (dayI d)).1 this) c2
   rw [e]
   by_cases hF:hasF g dg x m d
   ·obtain ⟨z,rfl⟩:=key.2 hF
    rw [ab (λh=>h.2.2 hF)]
    all_goals
     simp only [d4,d8,o1]
     rfl
   ·have ho:o=none:=by
     cases o with
     | none=>rfl
     | some z=>exact absurd (key.1 ⟨z,rfl⟩) hF
    subst ho
    rw [ae ⟨rfl,hd,hF⟩]
    all_goals
     simp only [d4,d8,o1]
     rfl
 ·rw [ab (λh=>hc h.1)]
  have:(chkD g l dg x q m d k0 k1 k2 != 0)=true:=by simp [hc]
  rw [this];rfl
theorem KU {g l:Bool} {dg:aa} {x:Int} (hok:okY g l dg x 0) (m d:aa) (k0 k1 k2:Int):
  ∃r,ke 20000000 g l dg x 0 m d k0 k1 k2=some r/\(r=1/\hasF g dg x m d\/r=0/\¬hasF g dg x m d):=by
 have hsm:=ir hok
 obtain ⟨lo,hi,hb,hw,hb0,hb1⟩:=yd hok
 obtain ⟨s1,s2,s3⟩:=BZ hok
 have hsp:=KS 19999700 g l dg x 0 (by omega) hok
 unfold ke
 rw [show (20000000:Nat)=19999700+300 from rfl,hsp]
 simp only [ob]
 generalize (sgn g (mN g dg x 0)).1=a at *
 generalize (sgn g (mN g dg x 0)).2=b at *
 have ha:=hb a s1
 have hb':=hb b s2
 have hY:=λy=>PH 19999700 hok y
 have step:∀i y,((List.range (b - a+1).toNat).map (λj:Nat=>a+(j:Int)))[i]?=some y->i<(b - a+1).toNat/\y=a+(i:Int):=by
  intro i y h
  rw [nq] at h
  cases hr:(List.range (b - a+1).toNat)[i]? with
  | none=>rw [hr] at h;cases h
  | some j=>
   rw [hr] at h
   have hi:=mX.1 hr
   obtain ⟨h1,h2⟩:=hi
   rw [List.getElem_range] at h2
   rw [List.length_range] at h1
   subst h2
   exact ⟨h1,(ba h).symm⟩
 have hlen:((List.range (b - a+1).toNat).map (λj:Nat=>a+(j:Int))).length=(b - a+1).toNat:=by simp
 have:=rW (step:=fC (19999700+300)) (f:=λi=>(b,a+(i:Int),g,l,dg,x,0,m,d,k0,k1,k2)) (L:=(List.range (b - a+1).toNat).map (λj:Nat=>a+(j:Int))) (G:=λy=>if inP g dg x 0 y/\tZ m d y≠[] then some (.inl 1) else none) (e:=.inr ())
  (λi y h=>by
   obtain ⟨hi,rfl⟩:=step i y h
   have w1:IntKind.wrap .i64 (a+(i:Int)+1)=a+((i+1:Nat):Int):=by rw [wrap_i64 _ (by omega) (by omega)];omega
   unfold fC
   simp only [d4,d8,w1]
   rw [ar (show a+(i:Int)<=b by omega),hY,fS9 (19999700+300) (by omega)]
   by_cases hin:inP g dg x 0 (a+(i:Int))
   ·rw [ae hin]
    by_cases hyr:tZ m d (a+(i:Int))=[]
    ·rw [ab (λh=>h.2 hyr),hyr];rfl
    ·rw [ae ⟨hin,hyr⟩]
     have hp:0<(tZ m d (a+(i:Int))).length:=List.length_pos_iff.2 hyr
     have hd:decide ((((tZ m d (a+(i:Int))).length:Nat):Int)>0)=true:=ar (by omega)
     simp only [aj,ob,hd]
     rfl
   ·rw [ab hin,ab (λh=>hin h.1)];rfl)
  (by
   unfold fC
   simp only [d4,d8]
   rw [hlen,au (show ¬a+(((b - a+1).toNat:Nat):Int)<=b by omega)]
   rfl)
  (N:=19999700+300) (by rw [hlen];omega)
 rw [show a+((0:Nat):Int)=a by omega] at this
 rw [this]
 cases hfs:(List.findSome? (λy=>if inP g dg x 0 y/\tZ m d y≠[] then some (Sum.inl (1:Int)) else none) ((List.range (b - a+1).toNat).map (λj:Nat=>a+(j:Int))):Option (Int⊕Unit)) with
 | none=>
  refine ⟨0,rfl,.inr ⟨rfl,?_⟩⟩
  rintro ⟨e,he1,he2⟩
  rw [Ly] at hfs
  have hs:=s3 e he1
  have:=hfs e (dQ.2 ⟨(e - a).toNat,jg.2 (by omega),by omega⟩)
  rw [ae ⟨he1,he2⟩] at this
  cases this
 | some z=>
  obtain ⟨y,hy1,hy2⟩:=List.exists_of_findSome?_eq_some hfs
  by_cases hh:inP g dg x 0 y/\tZ m d y≠[]
  ·rw [ae hh] at hy2
   obtain rfl:=ba hy2
   exact ⟨1,rfl,.inl ⟨rfl,y,hh.1,hh.2⟩⟩
  ·rw [ab hh] at hy2;cases hy2
theorem wH {g l:Bool} {dg:aa} {x q:Int} {m d:aa} {k0 k1 k2:Int} (hdl:dg.length<=100) (h0:0<=k0) (h1:0<=k1) (h2:0<=k2):
  cb 20000000 g l dg x q m d k0 k1 k2=some (chkF g l dg x q m d k0 k1 k2):=by
 unfold cb chkF
 rw [C0 20000000 (by omega) g l dg x q m d k0 k1 k2 hdl h0 h1 h2]
 simp only [ob]
 by_cases hc:chkD g l dg x q m d k0 k1 k2=0
 ·obtain ⟨hok,hm2,hd2,hq,hdm⟩:=nM hc
  rw [hc]
  by_cases hd:d=[]
  ·subst hd
   rw [ab (by simp)];rfl
  ·have hq0:q=0:=by
    have:=Kt hok
    by_cases h:0<q
    ·exact absurd (hq h) (hdm hd).1
    ·omega
   subst hq0
   obtain ⟨r,r1,r2⟩:=KU hok m d k0 k1 k2
   rw [ft hd,r1]
   rcases r2 with ⟨rfl,hF⟩ | ⟨rfl,hF⟩
   ·rw [ab (λh=>h.2.2 hF)];rfl
   ·rw [ae ⟨rfl,hd,hF⟩];rfl
 ·rw [ab (λh=>hc h.1)]
  have:(chkD g l dg x q m d k0 k1 k2==0)=false:=aM.2 hc
  rw [this];rfl
theorem oq {g l:Bool} {dg:aa} {x q:Int} {m d:aa} {k0 k1 k2:Int} (h:chkF g l dg x q m d k0 k1 k2=0):chkD g l dg x q m d k0 k1 k2=0:=by
 unfold chkF at h
 split at h
 ·cases h
 ·exact h
theorem bne0 {e:Int} (h:e≠0):(e != 0)=true:=by simp [h]
theorem Dq {m d:aa} {y:Int} {z:Int×Int×Int}:z∈tZ m d y↔z.1=y/\z.2.1∈monI m/\z.2.2∈dayI d/\z.2.2<=tW d y z.2.1:=by
 unfold tZ tJ
 simp only [List.mem_flatMap,dQ,kM,bY]
 constructor
 ·rintro ⟨mo,h1,k,⟨h2,h3⟩,rfl⟩;exact ⟨rfl,h1,h2,h3⟩
 ·rintro ⟨h0,h1,h2,h3⟩
  exact ⟨z.2.1,h1,z.2.2,⟨h2,h3⟩,by rw [<-h0]⟩
theorem Ns (y:Int) (i:Nat):(minL i:Int)<=lenI y (i:Int):=by
 unfold minL lenI
 repeat' split
 all_goals omega
theorem Ko {g l:Bool} {dg:aa} {x:Int} (hok:okY g l dg x 0) {m d:aa} (hm:m≠[]) (hs:sea m=0) (hd:d≠[]) (hf:fitD m d=true):hasF g dg x m d:=by
 obtain ⟨s1,_,_⟩:=BZ hok
 refine ⟨_,s1,?_⟩
 unfold fitD at hf
 simp only [qG,az] at hf
 obtain ⟨i,hi,ha,k,hk,hka⟩:=hf
 have hi':=rh.1 hi
 have hk':=rh.1 hk
 have h31:minL i<=31:=by
  unfold minL
  repeat' split
  all_goals omega
 have hz:((sgn g (mN g dg x 0)).1,(i:Int),(k:Int))∈tZ m d (sgn g (mN g dg x 0)).1:=by
  rw [Dq]
  refine ⟨rfl,?_,?_,?_⟩
  ·unfold monI
   rw [ab hm,ab (by omega)]
   exact dQ.2 ⟨i,kM.2 ⟨hi,ha⟩,rfl⟩
  ·unfold dayI
   rw [ab hd]
   exact dQ.2 ⟨k,kM.2 ⟨rh.2 (by omega),hka⟩,rfl⟩
  ·unfold tW
   rw [ab hd]
   have:=Ns (sgn g (mN g dg x 0)).1 i
   show (k:Int)<=lenI (sgn g (mN g dg x 0)).1 (i:Int)
   omega
 intro e
 rw [e] at hz
 cases hz
theorem DO {g l:Bool} {dg:aa} {x q:Int} {m d:aa} {k0 k1 k2:Int} (hc:chkD g l dg x q m d k0 k1 k2=0) (hf:d=[]\/fitD m d=true):chkF g l dg x q m d k0 k1 k2=0:=by
 obtain ⟨hok,hm2,hd2,hq,hdm⟩:=nM hc
 unfold chkF
 rw [ab,hc]
 rintro ⟨_,hd,hn⟩
 obtain ⟨h1,h2⟩:=hdm hd
 have hq0:q=0:=by
  have:=Kt hok
  by_cases h:0<q
  ·exact absurd (hq h) h1
  ·omega
 subst hq0
 exact hn (Ko hok h1 h2 hd (hf.resolve_left hd))
def plN (P:Nat×Nat×Nat) (i:Nat):Nat:=if i=0 then P.1 else if i=1 then P.2.1 else P.2.2
theorem yi {g l:Bool} {dg:aa} {x q:Int} {m d:aa} {k0 k1 k2:Int} (hk:allM k0 k1 k2 (bi m d)=0):chkF g l dg x q m d k0 k1 k2=0\/chkF g l dg x q m d k0 k1 k2=6\/chkF g l dg x q m d k0 k1 k2=7\/chkF g l dg x q m d k0 k1 k2=8:=by
 unfold chkF
 split
 ·exact .inr (.inr (.inr rfl))
 ·exact IA hk
noncomputable def chkR (r:DR):Nat:=(chkF r.1 r.2.1 r.2.2.1 (r.2.2.2.1:Int) (r.2.2.2.2.1:Int) r.2.2.2.2.2.1 r.2.2.2.2.2.2.1 (r.2.2.2.2.2.2.2.1.1:Int) (r.2.2.2.2.2.2.2.1.2.1:Int) (r.2.2.2.2.2.2.2.1.2.2:Int)).toNat
noncomputable def jU (S:aa) (a:Nat):(Nat×Nat×Nat)⊕DR:=
 match tS S a with
 | .inl k=>.inl (k,5,k)
 | .inr r=>if chkR r=0 then .inr r else .inl (plN r.2.2.2.2.2.2.2.2.1 (chkR r - 6),chkR r,r.2.2.2.2.2.2.2.2.2)
def OJ (S:aa):(Nat×Nat×Nat)⊕DR->(Int×Int×aa×Int)⊕(Bool×Bool×aa×Int×Int×aa×aa×Int×Int×Int×Int×aa×Int)
 | .inl (k,E,p)=>.inl ((k:Int),(E:Int),S,(p:Int))
 | .inr (g,l,dg,x,s,m,d,M,P,e)=>.inr (g,l,dg,(x:Int),(s:Int),m,d,(M.1:Int),(M.2.1:Int),(M.2.2:Int),(P.1:Int),S,(e:Int))
theorem HQ (S:aa) (a:Nat) (h:a<=S.length) (hS:S.length<100000):iS 20000000 S (a:Int)=some (OJ S (jU S a)):=by
 have hr:jm 20000000 S (a:Int)=_:=Mh 19999700 S a h hS (by omega)
 unfold iS jU
 rw [hr]
 cases hd:tS S a with
 | inl k=>rfl
 | inr r=>
  obtain ⟨g,l,dg,x,s,mm,d,M,P,e⟩:=r
  have hok:=DK h hd
  have hM:=hok.all
  have h2:=hok.m2
  have h17:=hok.dg17
  simp only [ob,OR,d4,d8]
  rw [uA (g:=g) (l:=l) (x:=(x:Int)) (q:=(s:Int)) (d:=d) (show mm.length<=18 by omega) (show dg.length<=100 by omega) (show (0:Int)<=(M.1:Int) by omega) (show (0:Int)<=(M.2.1:Int) by omega) (show (0:Int)<=(M.2.2:Int) by omega)]
  simp only [ob]
  have hcs:=yi (g:=g) (l:=l) (dg:=dg) (x:=(x:Int)) (q:=(s:Int)) (m:=mm) (d:=d) (k0:=(M.1:Int)) (k1:=(M.2.1:Int)) (k2:=(M.2.2:Int)) (vM hM)
  unfold chkR
  simp only []
  rcases hcs with hc | hc | hc | hc<;>rw [hc]<;>rfl
def dayY (y:Int):Int:=365*y+(1+(y - 1) / 4 - (y - 1) / 100+(y - 1) / 400)
def cumM (y:Int):Nat->Int
 | 0=>0
 | k+1=>cumM y k+lenI y ((k+1:Nat):Int)
def dayM (y:Int) (m:Nat):Int:=if m<=12 then dayY y+cumM y (m - 1) else dayY (y+1)+cumM (y+1) (m - 13)
theorem wP (y:Int):dayY (y+1)=dayY y+365+(if rA y then 1 else 0):=by
 unfold dayY rA
 simp only [az,gB,bY]
 split<;>omega
theorem EG (n:Int):dayY (400*n)=146097*n:=by
 unfold dayY
 omega
theorem jK {y:Int} (h:-20000000000000000<=y/\y<=20000000000000000):-8000000000000000000<=dayY y/\dayY y<=8000000000000000000:=by
 unfold dayY
 omega
theorem RE (y:Int):cumM y 12=365+(if rA y then 1 else 0):=by
 have e:∀k:Nat,cumM y (k+1)=cumM y k+lenI y ((k+1:Nat):Int):=λ_=>rfl
 have z:cumM y 0=0:=rfl
 rw [e 11,e 10,e 9,e 8,e 7,e 6,e 5,e 4,e 3,e 2,e 1,e 0,z]
 unfold lenI
 cases rA y<;>rfl
theorem pM (y:Int):∀k:Nat,0<=cumM y k/\cumM y k<=31*(k:Int)
 | 0=>by simp [cumM]
 | k+1=>by
  have h1:=pM y k
  have h2:=iR y ((k+1:Nat):Int)
  show 0<=cumM y k+lenI y ((k+1:Nat):Int)/\cumM y k+lenI y ((k+1:Nat):Int)<=_
  omega
theorem nZ {y:Int} (h:dJ y) {m:Nat} (h2:m<=24):-8100000000000000000<=dayM y m/\dayM y m<=8100000000000000000:=by
 unfold dJ at h
 unfold dayM
 split
 ·have:=pM y (m - 1)
  have:=jK (y:=y) (by omega)
  omega
 ·have:=pM (y+1) (m - 13)
  have:=jK (y:=y+1) (by omega)
  omega
theorem NB (y:Int):dayM y 13=dayY (y+1):=by
 unfold dayM
 rw [ab (by omega)]
 simp [cumM]
theorem vE (y:Int) {m:Nat} (h1:1<=m) (h2:m<=12):dayM y (m+1)=dayM y m+lenI y (m:Int):=by
 obtain ⟨k,rfl⟩:∃k,m=k+1:=⟨m - 1,by omega⟩
 have e:dayM y (k+1)=dayY y+cumM y k:=by unfold dayM;rw [ae (by omega)];rfl
 rw [e]
 by_cases h:k+1=12
 ·obtain rfl:k=11:=by omega
  rw [NB,wP]
  have:=RE y
  have e:cumM y 12=cumM y 11+lenI y ((11+1:Nat):Int):=rfl
  omega
 ·have:dayM y (k+1+1)=dayY y+cumM y (k+1):=by unfold dayM;rw [ae (by omega)];rfl
  rw [this]
  show dayY y+(cumM y k+lenI y ((k+1:Nat):Int))=_
  omega
theorem si (y:Int) {m:Nat} (h1:1<=m) (h2:m<=12):dayM y (m+12)=dayM (y+1) m:=by
 unfold dayM
 rw [ab (by omega),ae h2]
 congr 2
theorem qN (n:Nat) {y:Int} (h:-10000000000000001<=y/\y<=10000000000000001):kY n y=some (dayY y):=by
 have hr:=jK (y:=y) (by omega)
 unfold kY
 rw [vV n (by omega),wrap_i64 (365*y) (by omega) (by omega)]
 show some (IntKind.wrap .i64 (dayY y))=_
 rw [wrap_i64 _ (by omega) (by omega)]
theorem qE (n:Nat) {y:Int} (h:dJ y):kR n y=some (dayY y,0):=by
 unfold kR
 have h':=h
 unfold dJ at h'
 rw [fI,ae h,qN n (by omega)]
 rfl
theorem AD (n:Nat) {y:Int} (h:dJ y):rN n y=some (dayY (y+1) - 1,0):=by
 unfold rN
 have h':=h
 unfold dJ at h'
 have hr:=jK (y:=y+1) (by omega)
 rw [fI,ae h,wrap_i64 (y+1) (by omega) (by omega),qN n (by omega)]
 show some (IntKind.wrap .i64 (dayY (y+1) - 1),(0:Int))=_
 rw [wrap_i64 _ (by omega) (by omega)]
theorem Cc (n:Nat) {y:Int} (h:dJ y) {m:Nat} (hm:m<=11):∀(r j:Nat),j+r=m->∀N,r<N->aw (bB n) N (y,dayY y+cumM y j,(m:Int),(j:Int))=some (dayY y+cumM y m):=by
 have h':=h
 unfold dJ at h'
 have hr:=jK (y:=y) (by omega)
 intro r
 induction r with
 | zero=>
  intro j hj N hN
  obtain ⟨N,rfl⟩:∃k,N=k+1:=⟨N - 1,by omega⟩
  obtain rfl:j=m:=by omega
  have:bB n (y,dayY y+cumM y j,(j:Int),(j:Int))=some (.inr (dayY y+cumM y j)):=by
   unfold bB
   rw [bP,ab (show ¬((j:Int)<(j:Int)) by omega)]
  rw [aw,this]
 | succ r ih=>
  intro j hj N hN
  obtain ⟨N,rfl⟩:∃k,N=k+1:=⟨N - 1,by omega⟩
  have w:IntKind.wrap .i64 ((j:Int)+1)=((j+1:Nat):Int):=by rw [wrap_i64 _ (by omega) (by omega)];omega
  have hc:=pM y j
  have hl:=iR y ((j+1:Nat):Int)
  have:bB n (y,dayY y+cumM y j,(m:Int),(j:Int))=some (.inl (y,dayY y+cumM y (j+1),(m:Int),((j+1:Nat):Int))):=by
   unfold bB
   rw [bP,ae (show ((j:Int)<(m:Int)) by omega)]
   simp only [w,vw n h (show 1<=j+1 by omega) (show j+1<=12 by omega),ob]
   rw [wrap_i64 (dayY y+cumM y j+lenI y ((j+1:Nat):Int)) (by omega) (by omega),Int.add_assoc]
   rfl
  rw [aw,this]
  exact ih (j+1) (by omega) N (by omega)
theorem sL (n:Nat) (hn:100<n) {y:Int} (h:dJ y) {m:Nat} (h1:1<=m) (h2:m<=12):eW n y (m:Int)=some (dayM y m,0):=by
 unfold eW
 have w:IntKind.wrap .i64 ((m:Int) - 1)=((m - 1:Nat):Int):=by rw [wrap_i64 _ (by omega) (by omega)];omega
 rw [Dc n h h1 h2,qE n h,w]
 have:=Cc n h (m:=m - 1) (by omega) (m - 1) 0 (by omega) n (by omega)
 rw [show dayY y+cumM y 0=dayY y by simp [cumM]] at this
 show ob (aw (bB n) n (y,dayY y,((m - 1:Nat):Int),((0:Nat):Int))) _=_
 rw [this]
 unfold dayM
 rw [ae h2];rfl
theorem CE (n:Nat) (hn:100<n) {y:Int} (h:dJ y) {m:Nat} (h1:1<=m) (h2:m<=12):gx n y (m:Int)=some (dayM y (m+1) - 1,0):=by
 unfold gx
 have hr:=nZ h (m:=m) (by omega)
 have hl:=iR y (m:Int)
 rw [sL n hn h h1 h2,vw n h h1 h2,vE y h1 h2]
 show some (IntKind.wrap .i64 (IntKind.wrap .i64 (dayM y m+lenI y (m:Int)) - 1),(0:Int))=_
 rw [wrap_i64 (dayM y m+lenI y (m:Int)) (by omega) (by omega),wrap_i64 _ (by omega) (by omega)]
theorem Fg (n:Nat) (hn:100<n) {y:Int} (h:dJ y) {j m c:Nat} (hj:j<21) (e:mU[j]?=some ((m:Int),(c:Int))) (h1:1<=m) (h2:m<=12) (h3:1<=c) (h4:c<=6) (hy:12<m+c - 1->y≠10000000000000000):
  gL n y ((21+j:Nat):Int)=some (0,dayM y m,0,dayM y (m+c) - 1,0):=by
 have hM:eS n ((21+j:Nat):Int)=some ((m:Int),(c:Int),0):=by
  unfold eS du
  rw [bP,bP,ab (by omega),ab (by omega)]
  have:IntKind.wrap .i64 (((21+j:Nat):Int) - 21)=(j:Int):=by rw [wrap_i64 _ (by omega) (by omega)];omega
  rw [this,cT hj]
  show ob (mU[j]?) _=_
  rw [e]
  rfl
 unfold gL
 rw [hM]
 simp only [ob,fp,af]
 rw [sL n hn h h1 h2]
 simp only [ob,fp,af]
 rw [madd n h h1 h2 h3 h4]
 have h':=h
 unfold dJ at h'
 by_cases hb:12<m+c - 1
 ·rw [ae hb,ab (hy hb)]
  have hc1:dJ (y+1):=by unfold dJ;have:=hy hb;omega
  simp only [ob,fp,af]
  rw [CE n hn hc1 (m:=m+c - 1 - 12) (by omega) (by omega)]
  have:=si y (m:=m+c - 1 - 12+1) (by omega) (by omega)
  rw [show m+c - 1 - 12+1+12=m+c by omega] at this
  rw [this]
 ·rw [ab hb]
  simp only [ob,fp,af]
  rw [CE n hn h (m:=m+c - 1) (by omega) (by omega),show m+c - 1+1=m+c by omega]
theorem xq (n:Nat) {y:Int} (hy:-10000000000000002<=y/\y<=10000000000000002):∀(r:Nat) (z:Int),z+(r:Int)=y->-10000000000000402<=z->∀N,r<N->aw (cJ n) N (y,dayY z,z)=some (dayY y):=by
 intro r
 induction r with
 | zero=>
  intro z hz hz2 N hN
  obtain ⟨N,rfl⟩:∃k,N=k+1:=⟨N - 1,by omega⟩
  obtain rfl:z=y:=by omega
  have:cJ n (z,dayY z,z)=some (.inr (dayY z)):=by
   unfold cJ
   rw [bP,ab (show ¬(z<z) by omega)]
  rw [aw,this]
 | succ r ih=>
  intro z hz hz2 N hN
  obtain ⟨N,rfl⟩:∃k,N=k+1:=⟨N - 1,by omega⟩
  have hr:=jK (y:=z) (by omega)
  have hst:=wP z
  have:cJ n (y,dayY z,z)=some (.inl (y,dayY (z+1),z+1)):=by
   unfold cJ
   rw [bP,ae (show z<y by omega),yF]
   have hl:lenI z 2=if rA z then 29 else 28:=rfl
   simp only [ob,hl]
   rw [wrap_i64 (dayY z+365) (by omega) (by omega),wrap_i64 (dayY z+365+1) (by omega) (by omega),wrap_i64 (z+1) (by omega) (by omega),hst]
   cases rA z
   ·simp
   ·rfl
  rw [aw,this]
  exact ih (z+1) (by omega) (by omega) N (by omega)
theorem qw (n:Nat) (hn:1000<n) {y:Int} (hy:-10000000000000002<=y/\y<=10000000000000002):bX n y=some (dayY y):=by
 have hd:=Int.mul_tdiv_add_tmod y 400
 have ht:Int.tmod y 400=if 0<=y then y%400 else -((-y)%400):=by
  by_cases h:0<=y
  ·rw [ae h,Gp h]
  ·rw [ab h,<-Gp (show 0<=-y by omega),Int.neg_tmod,Int.neg_neg]
 unfold bX
 by_cases hm:Int.tmod y 400<0
 ·rw [ar hm]
  have hq:Int.tdiv y 400 - 1=y / 400:=by
   rw [ht] at hm hd
   split at hm
   ·omega
   ·rw [ab (by assumption)] at hd
    omega
  rw [wrap_i64 (Int.tdiv y 400) (by omega) (by omega),hq,wrap_i64 (y / 400) (by omega) (by omega),wrap_i64 (y / 400*146097) (by omega) (by omega),wrap_i64 (y / 400*400) (by omega) (by omega)]
  have:=xq n hy (y - y / 400*400).toNat (y / 400*400) (by omega) (by omega) n (by omega)
  rw [show dayY (y / 400*400)=y / 400*146097 by rw [xZ,EG,xZ]] at this
  simp only [aj,this,ob]
 ·rw [au hm]
  have hq:Int.tdiv y 400=y / 400:=by
   rw [ht] at hm hd
   split at hm
   ·rw [ae (by assumption)] at hd
    omega
   ·rw [ab (by assumption)] at hd
    omega
  rw [hq,wrap_i64 (y / 400) (by omega) (by omega),wrap_i64 (y / 400*146097) (by omega) (by omega),wrap_i64 (y / 400*400) (by omega) (by omega)]
  have:=xq n hy (y - y / 400*400).toNat (y / 400*400) (by omega) (by omega) n (by omega)
  rw [show dayY (y / 400*400)=y / 400*146097 by rw [xZ,EG,xZ]] at this
  simp only [af,this,ob]
theorem wS {step:Int×Int×Int×Int->Option ((Int×Int×Int×Int)⊕Int)} (n:Nat)
  (hs:step=λx=>(cond (decide (x.2.2.2<x.2.1)) (ob (dW n x.1 x.2.2.2) λr=>(some (.inl (x.1,x.2.1,(IntKind.wrap .i64 (x.2.2.1+r)),(IntKind.wrap .i64 (x.2.2.2+1)))))) (some (.inr x.2.2.1))))
  {y:Int} (hy:-10000000000000002<=y/\y<=10000000000000002) {m:Nat} (h1:1<=m) (h2:m<=12) {N:Nat} (hN:20<N):aw step N (y,(m:Int),dayY y,1)=some (dayM y m):=by
 have hr:=jK (y:=y) (by omega)
 have go:∀(r j:Nat),j+1+r=m->∀N,r<N->aw step N (y,(m:Int),dayY y+cumM y j,((j+1:Nat):Int))=some (dayY y+cumM y (m - 1)):=by
  intro r
  induction r with
  | zero=>
   intro j hj N hN
   obtain ⟨N,rfl⟩:∃k,N=k+1:=⟨N - 1,by omega⟩
   obtain rfl:j+1=m:=by omega
   have:step (y,((j+1:Nat):Int),dayY y+cumM y j,((j+1:Nat):Int))=some (.inr (dayY y+cumM y j)):=by
    rw [hs]
    simp only []
    rw [au (show ¬(((j+1:Nat):Int)<((j+1:Nat):Int)) by omega)]
    rfl
   rw [aw,this]
   rfl
  | succ r ih=>
   intro j hj N hN
   obtain ⟨N,rfl⟩:∃k,N=k+1:=⟨N - 1,by omega⟩
   have w:IntKind.wrap .i64 (((j+1:Nat):Int)+1)=((j+1+1:Nat):Int):=by rw [wrap_i64 _ (by omega) (by omega)];omega
   have hc:=pM y j
   have hl:=iR y ((j+1:Nat):Int)
   have:step (y,(m:Int),dayY y+cumM y j,((j+1:Nat):Int))=some (.inl (y,(m:Int),dayY y+cumM y (j+1),((j+1+1:Nat):Int))):=by
    rw [hs]
    simp only []
    rw [ar (show (((j+1:Nat):Int)<(m:Int)) by omega),yF]
    simp only [aj,ob,w]
    rw [wrap_i64 (dayY y+cumM y j+lenI y ((j+1:Nat):Int)) (by omega) (by omega),Int.add_assoc]
    rfl
   rw [aw,this]
   exact ih (j+1) (by omega) N (by omega)
 have:=go (m - 1) 0 (by omega) N (by omega)
 rw [show dayY y+cumM y 0=dayY y by simp [cumM]] at this
 have e:dayM y m=dayY y+cumM y (m - 1):=by unfold dayM;rw [ae h2]
 rw [e]
 exact this
theorem pA (n:Nat) (hn:1000<n) {y:Int} (hy:-10000000000000001<=y/\y<=10000000000000001) {m:Nat} (h1:1<=m) (h2:m<=24):aP n y (m:Int)=some (dayM y m):=by
 unfold aP
 by_cases h:12<m
 ·rw [ar (show (m:Int)>12 by omega),wrap_i64 (y+1) (by omega) (by omega),wrap_i64 ((m:Int) - 12) (by omega) (by omega),show (m:Int) - 12=((m - 12:Nat):Int) by omega]
  unfold jC
  rw [au (show ¬((m - 12:Nat):Int)>12 by omega),qw n hn (by omega)]
  simp only [aj,af,ob]
  have:=wS (step:=io n) n rfl (y:=y+1) (by omega) (m:=m - 12) (by omega) (by omega) (N:=n) (by omega)
  rw [this,<-si y (by omega) (by omega),show m - 12+12=m by omega]
 ·rw [au (show ¬(m:Int)>12 by omega),qw n hn (by omega)]
  simp only [af,ob]
  have:=wS (step:=jD n) n rfl (y:=y) (by omega) (m:=m) (by omega) (by omega) (N:=n) (by omega)
  rw [this]
def twoV (s:aa):Nat:=match s with
 | [a,b]=>10*(a.toNat - 48)+(b.toNat - 48)
 | _=>0
def yOf (g:Bool) (dg:aa) (x:Int):Int:=if g then -((val dg x.toNat:Nat):Int) else ((val dg x.toNat:Nat):Int)
def spF (m:aa):Nat:=((mU.getD (sea m - 21).toNat (0,0)).1).toNat
def spC (m:aa):Nat:=((mU.getD (sea m - 21).toNat (0,0)).2).toNat
def ng (g:Bool) (dg:aa) (x:Int) (m d:aa):Int×Int:=
 if m=[] then (dayY (yOf g dg x),dayY (yOf g dg x+1) - 1)
 else if 0<sea m then (dayM (yOf g dg x) (spF m),dayM (yOf g dg x) (spF m+spC m) - 1)
 else if d=[] then (dayM (yOf g dg x) (twoV m),dayM (yOf g dg x) (twoV m+1) - 1)
 else (dayM (yOf g dg x) (twoV m)+(twoV d:Int) - 1,dayM (yOf g dg x) (twoV m)+(twoV d:Int) - 1)
def exD (dg m d:aa) (q:Int):Bool:=!(hasX dg||(hasX m||hasX d))&&(q==0)
theorem LQ {s:aa} (h:hasX s=false) {c:UInt8} (hc:c∈s):c≠88:=by
 rintro rfl
 unfold hasX at h
 rw [rP] at h
 exact h 88 hc (by decide)
theorem Hw {s:aa} (h:hasX s=false) {k:Nat} (hk:k<100) (ha:agr s k=true):twoV s=k/\s=two k:=by
 unfold agr at ha
 split at ha
 ·rename_i a b
  have ha1:a≠88:=LQ h (by simp)
  have hb1:b≠88:=LQ h (by simp)
  simp only [az,gB,bD] at ha
  obtain ⟨h1,h2⟩:=ha
  have h1:=h1.resolve_left ha1
  have h2:=h2.resolve_left hb1
  subst h1 h2
  refine ⟨?_,rfl⟩
  unfold twoV
  have n1:(UInt8.ofNat (48+k / 10)).toNat=48+k / 10:=by simp;omega
  have n2:(UInt8.ofNat (48+k%10)).toNat=48+k%10:=by simp;omega
  simp only [n1,n2]
  omega
 ·cases ha
theorem xN {s:aa} (h:hasX s=false) {g:Nat} (hg:g<100) (ha:dH s g=true):1<=twoV s/\twoV s<=g/\s=two (twoV s):=by
 unfold dH at ha
 obtain ⟨i,hi,ha⟩:=qG.1 ha
 have:=jg.1 hi
 obtain ⟨e1,e2⟩:=Hw h (by omega) ha
 rw [e1]
 exact ⟨by omega,by omega,e2⟩
theorem IP {s:aa} (h:hasX s=false) {g:Nat} (hg:g<100) {k:Int} (hk:k∈sQ (fitN s g)):k=(twoV s:Int):=by
 obtain ⟨i,hi,rfl⟩:=dQ.1 hk
 obtain ⟨h1,h2⟩:=kM.1 hi
 have:=rh.1 h1
 rw [(Hw h (by omega) h2).1]
theorem EH {k:Nat} (hk:k<100):Lib.atoi (two k)=some (k:Int):=by
 have n1:(UInt8.ofNat (48+k / 10)).toNat=48+k / 10:=by simp;omega
 have n2:(UInt8.ofNat (48+k%10)).toNat=48+k%10:=by simp;omega
 unfold two
 rw [Du (by omega) (by omega),n1,n2]
 congr 2
 omega
theorem xB (n:Nat) {k:Nat} (hk:k<100):aX n (two k)=some (k:Int):=by
 have n1:(UInt8.ofNat (48+k / 10)).toNat=48+k / 10:=by simp;omega
 have n2:(UInt8.ofNat (48+k%10)).toNat=48+k%10:=by simp;omega
 have s0:sx (two k) 0=some (UInt8.ofNat (48+k / 10)):=rfl
 have s1:sx (two k) 1=some (UInt8.ofNat (48+k%10)):=rfl
 unfold aX
 rw [s0,s1]
 simp only [ob,n1,n2]
 rw [fN (((48+k / 10:Nat):Int) - 48) (by omega) (by omega),fN (((48+k%10:Nat):Int) - 48) (by omega) (by omega),
  wrap_i64 (((48+k / 10:Nat):Int) - 48) (by omega) (by omega),wrap_i64 (((48+k%10:Nat):Int) - 48) (by omega) (by omega),
  wrap_i64 (10*(((48+k / 10:Nat):Int) - 48)) (by omega) (by omega),wrap_i64 _ (by omega) (by omega)]
 congr 1
 omega
structure Exact (g l:Bool) (dg:aa) (x:Int) (m d:aa):Prop where
 ok:okY g l dg x 0
 num:hasX dg=false
 cal:dJ (yOf g dg x)
 mon:m=[]\/(∃j,j<21/\m=two (21+j)/\(j=3\/j=7\/j=9->yOf g dg x≠10000000000000000))\/(sea m=0/\1<=twoV m/\twoV m<=12/\m=two (twoV m))
 day:d=[]\/(m≠[]/\sea m=0/\1<=twoV d/\twoV d<=31/\d=two (twoV d)/\(twoV d:Int)<=lenI (yOf g dg x) (twoV m:Int))
theorem ug {g l:Bool} {dg:aa} {x q:Int} {m d:aa} {k0 k1 k2:Int} (hc:chkF g l dg x q m d k0 k1 k2=0) (he:exD dg m d q=true):q=0/\Exact g l dg x m d:=by
 unfold exD at he
 simp only [az,kx,qO,bD] at he
 obtain ⟨⟨hX,hXm,hXd⟩,rfl⟩:=he
 refine ⟨rfl,?_⟩
 have hD:=oq hc
 obtain ⟨hok,hm2,hd2,hq,hdm⟩:=nM hD
 obtain ⟨c1,c2,c3,c4⟩:=At hD
 have hin:=CP hok hX
 obtain ⟨s1,_,_⟩:=BZ hok
 have hy:inP g dg x 0 (yOf g dg x):=by
  have:=(hin _).1 s1
  have e:yOf g dg x=(sgn g (mN g dg x 0)).1:=by rw [this];rfl
  rw [e]
  exact s1
 have hcal:=z6 hy
 refine ⟨hok,hX,hcal,?_,?_⟩
 ·by_cases hm:m=[]
  ·exact .inl hm
  ·right
   rcases n7 m with h0 | ⟨j,hj,e⟩
   ·right
    rcases c2 with h | h | h
    ·exact absurd h hm
    ·omega
    ·obtain ⟨a1,a2,a3⟩:=xN hXm (by omega) h
     exact ⟨h0,a1,a2,a3⟩
   ·left
    refine ⟨j,hj,e,λhw=>?_⟩
    unfold yrD at c1
    rw [ae hok] at c1
    unfold yrB at c1
    simp only [az,kx] at c1
    have hwt:wint (sea m)=true:=by
     rw [e,ka hj]
     rcases hw with rfl | rfl | rfl<;>rfl
    have hl:=c1.2
    rw [hwt,mJ] at hl
    unfold pX at hl
    rw [hX] at hl
    intro hyE
    unfold yOf at hyE
    cases g with
    | true=>
     simp only [aO] at hyE
     omega
    | false=>
     simp only [bV,aD] at hyE
     have:val dg x.toNat=E16:=by unfold E16;omega
     rw [ar this] at hl
     cases hl
 ·by_cases hd:d=[]
  ·exact .inl hd
  ·right
   obtain ⟨hm,hs⟩:=hdm hd
   rcases c3 with h | ⟨_,_,h⟩
   ·exact absurd h hd
   ·obtain ⟨a1,a2,a3⟩:=xN hXd (by omega) h
    refine ⟨hm,hs,a1,a2,a3,?_⟩
    have hF:hasF g dg x m d:=by
     unfold chkF at hc
     split at hc
     ·cases hc
     ·rename_i hn
      by_cases h:hasF g dg x m d
      ·exact h
      ·exact absurd ⟨hD,hd,h⟩ hn
    obtain ⟨e,he,hne⟩:=hF
    obtain ⟨z,L,hz⟩:=List.exists_cons_of_ne_nil hne
    have hz:z∈tZ m d e:=by rw [hz];exact oG
    obtain ⟨z1,z2,z3,z4⟩:=Dq.1 hz
    have hey:e=yOf g dg x:=(hin e).1 he
    unfold monI at z2
    rw [ab hm,ab (by omega)] at z2
    unfold dayI at z3
    rw [ab hd] at z3
    unfold tW at z4
    rw [ab hd,IP hXd (by omega) z3,IP hXm (by omega) z2,hey] at z4
    exact z4
theorem CJ {j:Nat} (hj:j<21):∃f c:Nat,mU[j]?=some ((f:Int),(c:Int))/\1<=f/\f<=12/\1<=c/\c<=6/\(12<f+c - 1↔j=3\/j=7\/j=9)/\spF (two (21+j))=f/\spC (two (21+j))=c:=by
 obtain ⟨f,c,e,h1,h2,h3,h4,h5⟩:=EO hj
 have hs:(sea (two (21+j)) - 21).toNat=j:=by rw [ka hj];omega
 have hg:mU.getD j (0,0)=((f:Int),(c:Int)):=by rw [DS,e];rfl
 refine ⟨f,c,e,h1,h2,h3,h4,h5,?_,?_⟩
 ·unfold spF;rw [hs,hg];rfl
 ·unfold spC;rw [hs,hg];rfl
theorem Bq (n:Nat) {j:Nat} (hj:j<21):gk n ((21+j:Nat):Int)=mU[j]?:=by
 have:j=0\/j=1\/j=2\/j=3\/j=4\/j=5\/j=6\/j=7\/j=8\/j=9\/j=10\/j=11\/j=12\/j=13\/j=14\/j=15\/j=16\/j=17\/j=18\/j=19\/j=20:=by omega
 rcases this with rfl | rfl | rfl | rfl | rfl | rfl | rfl | rfl | rfl | rfl | rfl | rfl | rfl | rfl | rfl | rfl | rfl | rfl | rfl | rfl | rfl<;>rfl
theorem Eh (n:Nat) (g l:Bool) (dg:aa) (x q:Int) (m d:aa) (k0 k1 k2:Int) (hm:m.length<=1000) (hd:dg.length<=1000) (h:d.length<=1000):lH n g l dg x q m d k0 k1 k2=some (exD dg m d q):=by
 unfold lH exD
 rw [AY n g l dg x q m d k0 k1 k2 hm hd h]
 simp only [ob]
 cases (hasX dg||(hasX m||hasX d))<;>rfl
theorem Ln {Y:Type} (a b:Y):∀s:aa,((s.findSome? λc=>if c=88 then some a else none).getD b)=if hasX s then a else b
 | []=>rfl
 | c::s=>by
  have ih:=Ln a b s
  unfold hasX at ih ⊢
  rw [A4,HX]
  by_cases hc:c=88
  ·subst hc;rfl
  ·rw [ab hc]
   have e:(c==88)=false:=aM.2 hc
   rw [e,tK]
   exact ih
theorem xd (n:Nat) (s:aa) (g l:Bool) (dg:aa) (x q:Int) (m d:aa) (k0 k1 k2:Int) (hs:s.length<=100000) {N:Nat} (hN:s.length<N):
  aw (dM n) N (s,0,g,l,dg,x,q,m,d,k0,k1,k2)=some (if hasX s then .inl 0 else .inr (g,l,dg,x,q,m,d,k0,k1,k2)):=by
 have:=rW (step:=dM n) (f:=λi=>(s,(i:Int),g,l,dg,x,q,m,d,k0,k1,k2)) (L:=s) (G:=λc=>if c=88 then some (.inl 0) else none) (e:=.inr (g,l,dg,x,q,m,d,k0,k1,k2))
  (λi c hi=>by
   have hil:=(mX.1 hi).1
   have w1:IntKind.wrap .i64 ((i:Int)+1)=((i+1:Nat):Int):=by rw [wrap_i64 _ (by omega) (by omega)];omega
   unfold dM
   simp only [d4,d8,w1]
   rw [ar (show (i:Int)<((s.length:Nat):Int) by omega),iw hi]
   simp only [aj,ob]
   by_cases hc:c=88
   ·subst hc
    rw [ae rfl];rfl
   ·rw [ab hc]
    have:(((c.toNat:Nat):Int)==88)=false:=by
     rw [aM]
     intro h
     apply hc
     apply ip.1
     have:c.toNat=88:=by omega
     rw [this];rfl
    rw [this];rfl)
  (by
   unfold dM
   simp only [d4,d8]
   rw [au (show ¬((s.length:Nat):Int)<((s.length:Nat):Int) by omega)];rfl)
  hN
 rw [show ((0:Nat):Int)=0 from rfl] at this
 rw [this]
 rw [Ln]
theorem An (n:Nat) (g l:Bool) (dg:aa) (x q:Int) (m d:aa) (k0 k1 k2:Int) (hm:m.length<=1000) (hd:dg.length<=1000) (h:d.length<=1000) (hn:4000<n):bh n g l dg x q m d k0 k1 k2=some (if exD dg m d q then 1 else 0):=by
 unfold bh
 rw [bM (by omega)]
 simp only [ob]
 rw [bM (by rw [aN];omega)]
 simp only []
 rw [xd n _ _ _ _ _ _ _ _ _ _ _ (by simp only [aN];omega) (by simp only [aN];omega)]
 rw [ux,ux]
 unfold exD
 cases hasX dg<;>cases hasX m<;>cases hasX d<;>(try rfl)
 simp only [Hy,bV,aD,ob,d4,ja,mJ]
 by_cases hq:q=0
 ·subst hq;rfl
 ·have e1:(q != 0)=true:=by simp [hq]
  have e2:(q==0)=false:=aM.2 hq
  rw [e1,e2];rfl
theorem NE (n:Nat) (hn:100<n) {y:Int} (h:dJ y) {m k:Nat} (h1:1<=m) (h2:m<=12) (k1:1<=k) (k2:(k:Int)<=lenI y (m:Int)):qr n y (m:Int) (k:Int)=some (dayM y m+(k:Int) - 1,0):=by
 have hr:=nZ h (m:=m) (by omega)
 have hl:=iR y (m:Int)
 unfold qr pE
 rw [Js n h h1 h2]
 simp only [ob,fp,af]
 rw [au (show ¬(k:Int)<1 by omega),au (show ¬(k:Int)>lenI y (m:Int) by omega),sL n hn h h1 h2]
 simp only [ob,fp,af]
 rw [wrap_i64 (dayM y m+(k:Int)) (by omega) (by omega),wrap_i64 _ (by omega) (by omega)]
section
variable {g l:Bool} {dg:List UInt8} {x:Int} {m d:List UInt8} {k0 k1 k2:Int}
theorem Da (n:Nat) (hn:100<n) (hml:m.length<=18) (E:Exact g l dg x m d) (v1 v2:Int) (h1:m≠[]->v1=if 0<sea m then sea m else (twoV m:Int)) (h2:d≠[]->v2=(twoV d:Int)):
  (ob (iP n) λy4625=>(ob (aZ n g l dg x 0 m d k0 k1 k2) λr4626=>(cond (r4626==0) (ob (fW n (yOf g dg x) ([v1,v2]:List (Int))) λy4633=>(some (y4633.1,y4633.2.1,y4633.2.2.1,y4633.2.2.2,(0:Int)))) (cond (r4626==1) (ob (fQ n (yOf g dg x) ([v1,v2]:List (Int))) λy4644=>(some (y4644.1,y4644.2.1,y4644.2.2.1,y4644.2.2.2,0))) (cond (r4626==2) (ob (fJ n (yOf g dg x) ([v1,v2]:List (Int))) λy4659=>(some (y4659.1,y4659.2.1,y4659.2.2.1,y4659.2.2.2,0))) (cond (r4626==3) (ob (fO n (yOf g dg x) ([v1,v2]:List (Int))) λy4675=>(some (y4675.1,y4675.2.1,y4675.2.2.1,y4675.2.2.2,0))) none)))))) =
   some (0,(ng g dg x m d).1,0,(ng g dg x m d).2,0):=by
 have hu:iP n=some ():=rfl
 have i0:ix ([v1,v2]:List Int).length 0=some 0:=rfl
 have i1:ix ([v1,v2]:List Int).length 1=some 1:=rfl
 have g0:([v1,v2]:List Int)[0]?=some v1:=rfl
 have g1:([v1,v2]:List Int)[1]?=some v2:=rfl
 rw [hu,Hb n g l dg x 0 m d k0 k1 k2 hml]
 unfold ng
 by_cases hd:d=[]
 ·rw [ae hd]
  by_cases hm:m=[]
  ·have hs:sea m=0:=by rw [hm];decide
   rw [ab (show ¬0<sea m by omega),ae hm,ae hm]
   unfold fQ
   rw [qE n E.cal,AD n E.cal]
   rfl
  ·rw [ab hm]
   by_cases hs:0<sea m
   ·rw [ae hs,ae hs]
    rcases E.mon with h | ⟨j,hj,e,hw⟩ | ⟨h,_⟩
    ·exact absurd h hm
    ·obtain ⟨f,c,e1,a1,a2,a3,a4,a5,a6,a7⟩:=CJ hj
     have hv:v1=((21+j:Nat):Int):=by rw [h1 hm,ae hs,e,ka hj]
     unfold fW
     rw [i0]
     simp only [ob,g0]
     rw [hv,Fg n hn E.cal hj e1 a1 a2 a3 a4 (λh=>hw (a5.1 h)),e,a6,a7]
     rfl
    ·omega
   ·rw [ab hs,ab hs,ab hm,ae hd]
    rcases E.mon with h | ⟨j,hj,e,hw⟩ | ⟨_,a1,a2,_⟩
    ·exact absurd h hm
    ·rw [e,ka hj] at hs;omega
    ·have hv:v1=(twoV m:Int):=by rw [h1 hm,ab hs]
     unfold fJ
     rw [i0]
     simp only [ob,g0]
     rw [hv,sL n hn E.cal a1 a2,CE n hn E.cal a1 a2]
     rfl
 ·rw [ab hd]
  rcases E.day with h | ⟨hm,hs,b1,b2,b3,b4⟩
  ·exact absurd h hd
  ·rw [ab hm,ab (show ¬0<sea m by omega),ab hd]
   rcases E.mon with h | ⟨j,hj,e,hw⟩ | ⟨_,a1,a2,_⟩
   ·exact absurd h hm
   ·rw [e,ka hj] at hs;omega
   ·have hv1:v1=(twoV m:Int):=by rw [h1 hm,ab (by omega)]
    have hv2:=h2 hd
    unfold fO
    rw [i0,i1]
    simp only [ob,g0,g1]
    rw [hv1,hv2,NE n hn E.cal a1 a2 b1 b4]
    rfl
theorem JT (E:Exact g l dg x m d) (hm:m≠[]):Lib.atoi m=some (if 0<sea m then sea m else (twoV m:Int)):=by
 rcases E.mon with h | ⟨j,hj,e,_⟩ | ⟨h0,a1,a2,a3⟩
 ·exact absurd h hm
 ·rw [e,ka hj,ae (by omega)]
  exact wG hj
 ·rw [ab (by omega)]
  have:=EH (k:=twoV m) (by omega)
  rw [<-a3] at this
  exact this
theorem K9 (E:Exact g l dg x m d) (hd:d≠[]):Lib.atoi d=some (twoV d:Int):=by
 rcases E.day with h | ⟨_,_,a1,a2,a3,_⟩
 ·exact absurd h hd
 ·have:=EH (k:=twoV d) (by omega)
  rw [<-a3] at this
  exact this
theorem yD:Lib.atoi []=none:=by kernel_rfl
theorem B9 {q:Int} (hml:m.length<=18) (hdl:dg.length<=100) (hd:d.length<=18) (h0:0<=k0) (h1:0<=k1) (h2:0<=k2):
  fH 20000000 g l dg x q m d k0 k1 k2=some (if chkF g l dg x q m d k0 k1 k2=0 then (if exD dg m d q=true then (0,(ng g dg x m d).1,0,(ng g dg x m d).2,0) else (0,0,0,0,1)) else (0,0,0,0,chkF g l dg x q m d k0 k1 k2)):=by
 have lm:Nat.ble m.length 18=true:=dq hml
 have ld:Nat.ble d.length 18=true:=dq hd
 unfold fH
 rw [uA hml hdl h0 h1 h2]
 simp only [ob]
 by_cases hc:chkF g l dg x q m d k0 k1 k2=0
 ·rw [ae hc,hc,Eh 20000000 g l dg x q m d k0 k1 k2 (by omega) (by omega) (by omega)]
  simp only [ob,fp,af]
  by_cases he:exD dg m d q=true
  ·rw [ae he,he]
   obtain ⟨rfl,E⟩:=ug hc he
   have hv:ef 20000000 g l dg x 0=some (yOf g dg x,0):=by
    rw [yE 20000000 g l dg x 0 (by omega) hdl,ae ⟨E.ok,E.num⟩]
    rfl
   rw [hv,lm,ld]
   simp only [dI,af,aj,ob]
   by_cases hm:m=[]
   ·have hd0:d=[]:=by
     rcases E.day with h | ⟨h,_⟩
     ·exact h
     ·exact absurd hm h
    have:=Da (k0:=k0) (k1:=k1) (k2:=k2) 20000000 (by omega) hml E 0 0 (λh=>absurd hm h) (λh=>absurd hd0 h)
    have ea:Lib.atoi m=none:=by rw [hm];exact yD
    have eb:Lib.atoi d=none:=by rw [hd0];exact yD
    rw [ea,eb]
    simp only [opt]
    exact this
   ·have ea:=JT E hm
    by_cases hd0:d=[]
    ·have:=Da (k0:=k0) (k1:=k1) (k2:=k2) 20000000 (by omega) hml E (if 0<sea m then sea m else (twoV m:Int)) 0 (λ_=>rfl) (λh=>absurd hd0 h)
     have eb:Lib.atoi d=none:=by rw [hd0];exact yD
     rw [ea,eb]
     simp only [opt]
     exact this
    ·have:=Da (k0:=k0) (k1:=k1) (k2:=k2) 20000000 (by omega) hml E (if 0<sea m then sea m else (twoV m:Int)) (twoV d:Int) (λ_=>rfl) (λ_=>rfl)
     rw [ea,K9 E hd0]
     simp only [opt]
     exact this
  ·rw [ab he]
   rw [ET] at he
   rw [he];rfl
 ·rw [ab hc,bne0 hc];rfl
theorem tv (E:Exact g l dg x m d) (hdl:dg.length<=100):aT 20000000 g l dg x 0 m d k0 k1 k2=some (ng g dg x m d):=by
 obtain ⟨k,q,rfl,hq,hN⟩:=qM E.ok E.num
 have hk:k<=17:=by have:=hN.wide;omega
 have hs:=hN.small
 have hmag:am 20000000 dg (k:Int)=some (((val dg k:Nat):Int),1):=by
  rw [iQ 20000000 dg k hN.dig hdl (by omega) (by omega),ae hN.small]
  rfl
 have hv:dval 0 dg*10 ^ k=val dg k:=rfl
 rw [hv] at hs
 unfold E16 at hs
 have hy:yOf g dg (k:Int)=if g then -((val dg k:Nat):Int) else ((val dg k:Nat):Int):=by unfold yOf;rw [bF]
 have hcal:=E.cal
 unfold dJ at hcal
 have key:∀y:Int,y=yOf g dg (k:Int)->
   (ob (aK 20000000 g l dg (k:Int) 0 m d k0 k1 k2) λr5010=>(cond (m==([]:aa)) (ob (bX 20000000 y) λr5011=>(ob (bX 20000000 (IntKind.wrap .i64 (y+1))) λr5012=>(some (r5011,(IntKind.wrap .i64 (r5012 - 1)))))) (cond (decide (r5010>0)) (ob (gk 20000000 r5010) λr5013=>(ob (aP 20000000 y r5013.1) λr5014=>(ob (aP 20000000 y (IntKind.wrap .i64 (r5013.1+r5013.2))) λr5015=>(some (r5014,(IntKind.wrap .i64 (r5015 - 1))))))) (cond (d==([]:aa)) (ob (aX 20000000 m) λr5016=>(ob (aP 20000000 y r5016) λr5017=>(ob (aX 20000000 m) λr5018=>(ob (aP 20000000 y (IntKind.wrap .i64 (r5018+1))) λr5019=>(some (r5017,(IntKind.wrap .i64 (r5019 - 1)))))))) (ob (aX 20000000 m) λr5020=>(ob (aP 20000000 y r5020) λr5021=>(ob (aX 20000000 d) λr5022=>(some ((IntKind.wrap .i64 ((IntKind.wrap .i64 (r5021+r5022)) - 1)),(IntKind.wrap .i64 ((IntKind.wrap .i64 (r5021+r5022)) - 1)))))))))) )=some (ng g dg (k:Int) m d):=by
  intro y hyy
  subst hyy
  have hcal':=E.cal
  have rY:=jK (y:=yOf g dg (k:Int)+1) (by omega)
  rw [kI 20000000 (by omega)]
  simp only [ob]
  unfold ng
  by_cases hm:m=[]
  ·have e:(m==([]:aa))=true:=by rw [hm];rfl
   rw [ae hm,e,qw 20000000 (by omega) (by omega),wrap_i64 (yOf g dg (k:Int)+1) (by omega) (by omega),qw 20000000 (by omega) (by omega)]
   simp only [aj,ob]
   rw [wrap_i64 _ (by omega) (by omega)]
  ·rw [ab hm,ft hm]
   simp only [af]
   by_cases hs:0<sea m
   ·rw [ae hs,ar (show sea m>0 from hs)]
    rcases E.mon with h | ⟨j,hj,e,_⟩ | ⟨h,_⟩
    ·exact absurd h hm
    ·obtain ⟨f,c,e1,a1,a2,a3,a4,a5,a6,a7⟩:=CJ hj
     have hsm:sea m=((21+j:Nat):Int):=by rw [e,ka hj]
     have rM:=nZ hcal' (m:=f+c) (by omega)
     rw [hsm,Bq 20000000 hj,e1]
     simp only [aj,ob]
     rw [pA 20000000 (by omega) (by omega) a1 (by omega)]
     simp only [ob]
     rw [wrap_i64 ((f:Int)+(c:Int)) (by omega) (by omega),show (f:Int)+(c:Int)=((f+c:Nat):Int) by omega,pA 20000000 (by omega) (by omega) (by omega) (by omega)]
     simp only [ob]
     rw [wrap_i64 _ (by omega) (by omega),e,a6,a7]
    ·omega
   ·rw [ab hs,au (show ¬sea m>0 from hs)]
    simp only [af]
    rcases E.mon with h | ⟨j,hj,e,_⟩ | ⟨_,a1,a2,a3⟩
    ·exact absurd h hm
    ·rw [e,ka hj] at hs;omega
    ·have hn:=xB 20000000 (k:=twoV m) (by omega)
     rw [<-a3] at hn
     have rM:=nZ hcal' (m:=twoV m) (by omega)
     have rM2:=nZ hcal' (m:=twoV m+1) (by omega)
     by_cases hd:d=[]
     ·have e:(d==([]:aa))=true:=by rw [hd];rfl
      rw [ae hd,e,hn]
      simp only [aj,ob]
      rw [pA 20000000 (by omega) (by omega) a1 (by omega)]
      simp only [ob]
      rw [wrap_i64 ((twoV m:Int)+1) (by omega) (by omega),show (twoV m:Int)+1=((twoV m+1:Nat):Int) by omega,pA 20000000 (by omega) (by omega) (by omega) (by omega)]
      simp only [ob]
      rw [wrap_i64 _ (by omega) (by omega)]
     ·rw [ab hd,ft hd]
      rcases E.day with h | ⟨_,_,b1,b2,b3,b4⟩
      ·exact absurd h hd
      ·have hn2:=xB 20000000 (k:=twoV d) (by omega)
       rw [<-b3] at hn2
       rw [hn]
       simp only [af,ob]
       rw [pA 20000000 (by omega) (by omega) a1 (by omega),hn2]
       simp only [ob]
       rw [wrap_i64 (dayM (yOf g dg (k:Int)) (twoV m)+(twoV d:Int)) (by omega) (by omega),wrap_i64 _ (by omega) (by omega)]
 unfold aT
 rw [hmag]
 simp only [ob]
 cases g with
 | true=>
  have w:IntKind.wrap .i64 (0 - ((val dg k:Nat):Int))=yOf true dg (k:Int):=by
   rw [wrap_i64 _ (by omega) (by omega),hy]
   simp
  rw [w]
  simp only [aj]
  exact key _ rfl
 | false=>
  have w:((val dg k:Nat):Int)=yOf false dg (k:Int):=by rw [hy];rfl
  rw [w]
  simp only [af]
  exact key _ rfl
end
end Go.Sh
