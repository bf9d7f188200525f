/- Plain proofs, kept as far as they are needed here (printed by prune.py).
   Conditions: none. -/
import Derived.Test.YtplhepcdmkbioaaGreatDoorLawBza
set_option linter.unusedVariables false
set_option linter.unusedSimpArgs false
set_option maxRecDepth 100000
namespace Go.Sh
open Go.Abs
def bE (A B:Nat) (w:List UInt8):List UInt8:=mt A++w++mt B
def jp (g l:Bool) (dg:List UInt8) (x q:Int) (m d:List UInt8) (k0 k1 k2:Nat):List UInt8:=
 bE (plA (ba m d) k0 k1 k2).1 (plB (ba m d) k0 k1 k2).1 (fb g l dg x q)
  ++ ((if m=[] then [] else 45::bE (plA (ba m d) k0 k1 k2).2.1 (plB (ba m d) k0 k1 k2).2.1 m)
  ++ (if d=[] then [] else 45::bE (plA (ba m d) k0 k1 k2).2.2 (plB (ba m d) k0 k1 k2).2.2 d))
structure OkD (g l:Bool) (dg:List UInt8) (x q:Nat) (m d:List UInt8) (k0 k1 k2:Nat):Prop where
 yr:okY g l dg (x:Int) (q:Int)
 x16:x<=16
 q17:q<=17
 dg17:dg.length<=17
 noM:0<q->m=[]
 mon:m=[]\/(m.length=2/\∀c∈m,isDX c=true)
 day:d=[]\/(m≠[]/\d.length=2/\∀c∈d,isDX c=true)
 m0:k0<4
 m1:k1<4
 m2:k2<4
 z1:ba m d<2->k1=0
 z2:ba m d<3->k2=0
theorem uW {g l:Bool} {dg:List UInt8} {x q:Int} {m d:List UInt8} {k0 k1 k2:Int} (p0:0<=k0) (p1:0<=k1) (p2:0<=k2) (h:chkD g l dg x q m d k0 k1 k2=0):
  ∃x' q' a b c:Nat,x=(x':Int)/\q=(q':Int)/\k0=(a:Int)/\k1=(b:Int)/\k2=(c:Int)/\OkD g l dg x' q' m d a b c:=by
 obtain ⟨hy,hm,hd,hk⟩:=Cj h
 unfold yrD at hy
 by_cases hok:okY g l dg x q
 rotate_left
 ·rw [if_neg hok] at hy;cases hy
 rw [if_pos hok] at hy
 obtain ⟨s1,s2,s3,s4,s5,s6⟩:=fJ hok
 have hk':¬(3<k0\/3<k1\/3<k2\/(ba m d<2/\k1≠0)\/(ba m d<3/\k2≠0)):=by
  intro z
  unfold allM at hk
  rw [if_pos z] at hk
  exact absurd hk (by decide)
 refine ⟨x.toNat,q.toNat,k0.toNat,k1.toNat,k2.toNat,by omega,by omega,by omega,by omega,by omega,?_⟩
 rw [<-Int.toNat_of_nonneg s1,<-Int.toNat_of_nonneg s3] at hok
 refine ⟨hok,by omega,by omega,s6,?_,?_,?_,by omega,by omega,by omega,by omega,by omega⟩
 ·intro hq
  unfold yrB at hy
  have hq':decide (0<q)=true:=by simp;omega
  rw [hq'] at hy
  by_cases hm0:m=[]
  ·exact hm0
  ·have:(m==[])=false:=beq_eq_false_iff_ne.2 hm0
   rw [this] at hy
   simp at hy
 ·rcases hm with hm | hm | hm
  ·exact .inl hm
  ·exact .inr (uK hm)
  ·exact .inr (iJ (by omega) hm)
 ·rcases hd with hd | ⟨hd,_,h31⟩
  ·exact .inl hd
  ·have:=iJ (show 31<=31 by omega) h31
   exact .inr ⟨hd,this.1,this.2⟩
theorem Ad (n k i:Nat) (hi:i<k) (hk:k<=3) (A B:List Nat) (a b:Nat) (ha:A[i]?=some a) (hb:B[i]?=some b) (a4:a<4) (b4:b<4) (ws:List (List UInt8)) (hl:ws.length=k) (w:List UInt8) (w0 w1 w2:List UInt8) (hw:[w0,w1,w2][i]?=some w) (hwl:w.length<=1000):
  au n (k,(k:Int),(i:Int),A.map cI,B.map cI,ws,[w0,w1,w2])=some (.inl (k,(k:Int),((i+1:Nat):Int),A.map cI,B.map cI,ws.set i (bE a b w),[w0,w1,w2])):=by
 have w2':IntKind.wrap .i64 ((i:Int)+1)=((i+1:Nat):Int):=by rw [wrap_i64 _ (by omega) (by omega)];omega
 have hA:(A.map cI)[i]?=some (a:Int):=by rw [List.getElem?_map,ha];rfl
 have hB:(B.map cI)[i]?=some (b:Int):=by rw [List.getElem?_map,hb];rfl
 have hmt:∀z:Nat,z<4->(mt z).length<=1:=λz hz=>by
  unfold mt
  split
  ·simp
  ·split
   ·simp
   ·split<;>simp
 unfold au
 rw [aX,if_pos (show (i:Int)<(k:Int) by omega)]
 simp only [di hi,di (show i<3 by omega),ob,hw,d4,hA,hB,(tk n a a4).1,(tk n b b4).1]
 have c1:=hmt a a4
 have c2:=hmt b b4
 have q1:cat (mt a) w=some (mt a++w):=df (by omega)
 have q2:cat (mt a++w) (mt b)=some (mt a++w++mt b):=df (by rw [List.length_append];omega)
 rw [q1]
 simp only [ob]
 rw [q2]
 simp only [ob]
 have hi':i<ws.length:=by omega
 obtain ⟨v,hv⟩:∃v,ws[i]?=some v:=⟨ws[i],List.getElem?_eq_getElem hi'⟩
 rw [di hi']
 simp only [ob,hv,w2']
 rfl
theorem tW (n k:Nat) (A B:List Int) (ws V:List (List UInt8)):au n (k,(k:Int),(k:Int),A,B,ws,V)=some (.inr ws):=by
 unfold au
 rw [aX,if_neg (show ¬((k:Int)<(k:Int)) by omega)]
theorem ir (a b:Nat) (w:List UInt8):(bE a b w).length<=w.length+2:=by
 have hmt:∀z:Nat,(mt z).length<=1:=λz=>by
  unfold mt
  split
  ·simp
  ·split
   ·simp
   ·split<;>simp
 have:=hmt a
 have:=hmt b
 unfold bE
 simp only [List.length_append]
 omega
theorem zC:ba [] []=1:=rfl
theorem vH {m:List UInt8} (h:m≠[]):ba m []=2:=by unfold ba;rw [beq_eq_false_iff_ne.2 h];rfl
theorem uQ {m d:List UInt8} (h:m≠[]) (h2:d≠[]):ba m d=3:=by unfold ba;rw [beq_eq_false_iff_ne.2 h,beq_eq_false_iff_ne.2 h2];rfl
theorem js {d:List UInt8} (h:d.length=2):d≠[]:=by rintro rfl;simp at h
theorem D0 (n:Nat) (g l:Bool) (dg:List UInt8) (x q:Nat) (m d:List UInt8) (k0 k1 k2:Nat) (hm:m.length<=18) (hd:dg.length<=100):
  dA (n+300) g l dg (x:Int) (q:Int) m d (k0:Int) (k1:Int) (k2:Int)=some (if chkD g l dg (x:Int) (q:Int) m d (k0:Int) (k1:Int) (k2:Int)=0 then (jp g l dg (x:Int) (q:Int) m d k0 k1 k2,0) else ([],chkD g l dg (x:Int) (q:Int) m d (k0:Int) (k1:Int) (k2:Int))):=by
 unfold dA
 rw [rQ (n+300) (by omega) g l dg _ _ m d _ _ _ hm hd (by omega) (by omega) (by omega)]
 show cond (chkD g l dg (x:Int) (q:Int) m d (k0:Int) (k1:Int) (k2:Int) != 0) _ _=_
 rw [n6]
 by_cases h0:chkD g l dg (x:Int) (q:Int) m d (k0:Int) (k1:Int) (k2:Int)=0
 rotate_left
 ·rw [if_neg h0,if_neg h0]
 rw [if_pos h0,if_pos h0]
 obtain ⟨x',q',a,b,c,e1,e2,e3,e4,e5,hok⟩:=uW (by omega) (by omega) (by omega) h0
 obtain rfl:x=x':=by omega
 obtain rfl:q=q':=by omega
 obtain rfl:k0=a:=by omega
 obtain rfl:k1=b:=by omega
 obtain rfl:k2=c:=by omega
 have hc:=jG m d
 have hpl:=(FZ n (ba m d) k0 k1 k2 hc hok.m0 hok.m1 hok.m2 hok.z1 hok.z2).1
 obtain ⟨l0,l1,l2,l3',l4,l5⟩:=Ea (k:=ba m d) hok.m0 hok.m1 hok.m2
 rw [mh (n+300) (by omega)]
 simp only [ob]
 rw [hpl,qR (n+300) g l dg _ _ (by omega) hd,if_pos hok.yr]
 simp only [ob,bne_self_eq_false,cond_false,zN hok.yr,cond_true]
 have hcnd:(decide ((0:Int)<=((ba m d:Nat):Int))&&(decide (((ba m d:Nat):Int)<=((ba m d:Nat):Int))&&decide (((ba m d:Nat):Int)<=(67108864:Int))))=true:=by
  rw [decide_eq_true (by omega),decide_eq_true (by omega),decide_eq_true (by omega)];rfl
 rw [hcnd,bY (show ba m d<=3 by omega)]
 simp only [ob,cond_true,Int.toNat_natCast]
 have hyl:=pD hok.yr
 have q1:Nat.ble 1 140737488355328=true:=rfl
 have q2:Nat.ble 2 140737488355328=true:=rfl
 have q3:Nat.ble 3 140737488355328=true:=rfl
 unfold jp
 generalize fb g l dg (x:Int) (q:Int)=Y at hyl
 generalize hpA:plA (ba m d) k0 k1 k2=PA at *
 generalize hpB:plB (ba m d) k0 k1 k2=PB at *
 obtain ⟨A0,A1,A2⟩:=PA
 obtain ⟨B0,B1,B2⟩:=PB
 simp only at l0 l1 l2 l3' l4 l5
 have st:=λ(k i:Nat) (hi:i<k) (hk:k<=3) (a b:Nat) (ha:[A0,A1,A2][i]?=some a) (hb:[B0,B1,B2][i]?=some b) (a4:a<4) (b4:b<4) (ws:List (List UInt8)) (hl:ws.length=k) (w:List UInt8) (w0 w1 w2:List UInt8) (hw:[w0,w1,w2][i]?=some w) (hwl:w.length<=1000)=>Ad (n+300) k i hi hk [A0,A1,A2] [B0,B1,B2] a b ha hb a4 b4 ws hl w w0 w1 w2 hw hwl
 have big:∀L:List UInt8,L.length<=1000->Nat.ble L.length 140737488355328=true:=λL h=>Nat.ble_eq_true_of_le (by omega)
 by_cases hm0:m=[]
 ·have hd0:d=[]:=hok.day.resolve_right (λz=>z.1 hm0)
  subst hm0 hd0
  show ob (ah (au (n+300)) (n+299+1) (1,((1:Nat):Int),((0:Nat):Int),[A0,A1,A2].map cI,[B0,B1,B2].map cI,[[]],[Y,[],[]])) _=_
  rw [ah,st 1 0 (by omega) (by omega) A0 B0 rfl rfl l0 l3' [[]] rfl Y Y [] [] rfl (by omega)]
  show ob (ah (au (n+300)) (n+298+1) (1,((1:Nat):Int),((1:Nat):Int),[A0,A1,A2].map cI,[B0,B1,B2].map cI,[bE A0 B0 Y],[Y,[],[]])) _=_
  rw [ah,tW]
  simp only [ob]
  have e:Lib.join [bE A0 B0 Y] [45]=bE A0 B0 Y:=Lib.join_one _ _
  have hw:=ir A0 B0 Y
  rw [e,big _ (by omega)]
  simp [q1]
 ·have hml:m.length=2:=(hok.mon.resolve_left hm0).1
  by_cases hd0:d=[]
  ·subst hd0
   rw [vH hm0] at hpA hpB ⊢
   show ob (ah (au (n+300)) (n+299+1) (2,((2:Nat):Int),((0:Nat):Int),[A0,A1,A2].map cI,[B0,B1,B2].map cI,[[],[]],[Y,m,[]])) _=_
   rw [ah,st 2 0 (by omega) (by omega) A0 B0 rfl rfl l0 l3' [[],[]] rfl Y Y m [] rfl (by omega)]
   show ob (ah (au (n+300)) (n+298+1) (2,((2:Nat):Int),((1:Nat):Int),[A0,A1,A2].map cI,[B0,B1,B2].map cI,[bE A0 B0 Y,[]],[Y,m,[]])) _=_
   rw [ah,st 2 1 (by omega) (by omega) A1 B1 rfl rfl l1 l4 [bE A0 B0 Y,[]] rfl m Y m [] rfl (by omega)]
   show ob (ah (au (n+300)) (n+297+1) (2,((2:Nat):Int),((2:Nat):Int),[A0,A1,A2].map cI,[B0,B1,B2].map cI,[bE A0 B0 Y,bE A1 B1 m],[Y,m,[]])) _=_
   rw [ah,tW]
   simp only [ob]
   have e:Lib.join [bE A0 B0 Y,bE A1 B1 m] [45]=bE A0 B0 Y++(45::bE A1 B1 m):=by rw [Lib.join_cons];simp [Lib.joinTail]
   have hw:=ir A0 B0 Y
   have hw1:=ir A1 B1 m
   rw [e,big _ (by simp only [List.length_append,List.length_cons];omega)]
   rw [if_neg hm0]
   simp [q2]
  ·have hdl:d.length=2:=(hok.day.resolve_left hd0).2.1
   rw [uQ hm0 hd0] at hpA hpB ⊢
   show ob (ah (au (n+300)) (n+299+1) (3,((3:Nat):Int),((0:Nat):Int),[A0,A1,A2].map cI,[B0,B1,B2].map cI,[[],[],[]],[Y,m,d])) _=_
   rw [ah,st 3 0 (by omega) (by omega) A0 B0 rfl rfl l0 l3' [[],[],[]] rfl Y Y m d rfl (by omega)]
   show ob (ah (au (n+300)) (n+298+1) (3,((3:Nat):Int),((1:Nat):Int),[A0,A1,A2].map cI,[B0,B1,B2].map cI,[bE A0 B0 Y,[],[]],[Y,m,d])) _=_
   rw [ah,st 3 1 (by omega) (by omega) A1 B1 rfl rfl l1 l4 [bE A0 B0 Y,[],[]] rfl m Y m d rfl (by omega)]
   show ob (ah (au (n+300)) (n+297+1) (3,((3:Nat):Int),((2:Nat):Int),[A0,A1,A2].map cI,[B0,B1,B2].map cI,[bE A0 B0 Y,bE A1 B1 m,[]],[Y,m,d])) _=_
   rw [ah,st 3 2 (by omega) (by omega) A2 B2 rfl rfl l2 l5 [bE A0 B0 Y,bE A1 B1 m,[]] rfl d Y m d rfl (by omega)]
   show ob (ah (au (n+300)) (n+296+1) (3,((3:Nat):Int),((3:Nat):Int),[A0,A1,A2].map cI,[B0,B1,B2].map cI,[bE A0 B0 Y,bE A1 B1 m,bE A2 B2 d],[Y,m,d])) _=_
   rw [ah,tW]
   simp only [ob]
   have e:Lib.join [bE A0 B0 Y,bE A1 B1 m,bE A2 B2 d] [45]=bE A0 B0 Y++(45::bE A1 B1 m++(45::bE A2 B2 d)):=by rw [Lib.join_cons];simp [Lib.joinTail]
   have hw:=ir A0 B0 Y
   have hw1:=ir A1 B1 m
   have hw2:=ir A2 B2 d
   rw [e,big _ (by simp only [List.length_append,List.length_cons];omega)]
   rw [if_neg hm0,if_neg hd0]
   simp [q3]
theorem wA (n:Nat) {g l:Bool} {dg:List UInt8} {x q:Nat} {m d:List UInt8} {k0 k1 k2:Nat} (hok:OkD g l dg x q m d k0 k1 k2):
  dG (n+300) g l dg (x:Int) (q:Int) m d (k0:Int) (k1:Int) (k2:Int)=some (jp g l dg (x:Int) (q:Int) m d k0 k1 k2):=by
 have hc:=jG m d
 have hpl:=(FZ n (ba m d) k0 k1 k2 hc hok.m0 hok.m1 hok.m2 hok.z1 hok.z2).2
 obtain ⟨l0,l1,l2,l3',l4,l5⟩:=Ea (k:=ba m d) hok.m0 hok.m1 hok.m2
 have hyl:=pD hok.yr
 have hx:=hok.x16
 have hq:=hok.q17
 have hdg:=hok.dg17
 unfold dG
 rw [ef (n+300)]
 simp only [ob]
 rw [hpl,BA (n+300) g l dg x q (by omega) (by omega) (by omega)]
 unfold jp
 generalize fb g l dg (x:Int) (q:Int)=Y at hyl ⊢
 generalize hpA:plA (ba m d) k0 k1 k2=PA at *
 generalize hpB:plB (ba m d) k0 k1 k2=PB at *
 obtain ⟨A0,A1,A2⟩:=PA
 obtain ⟨B0,B1,B2⟩:=PB
 simp only at l0 l1 l2 l3' l4 l5
 have hmt:∀z:Nat,(mt z).length<=1:=λz=>by
  unfold mt
  split
  ·simp
  ·split
   ·simp
   ·split<;>simp
 have hA0:=hmt A0
 have hA1:=hmt A1
 have hA2:=hmt A2
 have hB0:=hmt B0
 have hB1:=hmt B1
 have hB2:=hmt B2
 have hml:m.length<=2:=by
  rcases hok.mon with h | h
  ·rw [h];simp
  ·omega
 have hdl:d.length<=2:=by
  rcases hok.day with h | h
  ·rw [h];simp
  ·omega
 have i0:∀a b c:Nat,(l3 (a,b,c))[0]?=some (a:Int):=λ_ _ _=>rfl
 have i1:∀a b c:Nat,(l3 (a,b,c))[1]?=some (b:Int):=λ_ _ _=>rfl
 have i2:∀a b c:Nat,(l3 (a,b,c))[2]?=some (c:Int):=λ_ _ _=>rfl
 have cc:∀a b:List UInt8,a.length+b.length<=1000000->cat a b=some (a++b):=λa b h=>df h
 simp only [ob,i0,i1,i2,(tk (n+300) A0 l0).2,(tk (n+300) A1 l1).2,(tk (n+300) A2 l2).2,(tk (n+300) B0 l3').2,(tk (n+300) B1 l4).2,(tk (n+300) B2 l5).2]
 rw [cc (mt A0) Y (by omega)]
 simp only [ob]
 rw [cc _ (mt B0) (by simp only [List.length_append];omega)]
 simp only [ob]
 have k1':decide (((ba m d:Nat):Int)>1)=decide (1<ba m d):=by rw [decide_eq_decide];omega
 have k2':decide (((ba m d:Nat):Int)>2)=decide (2<ba m d):=by rw [decide_eq_decide];omega
 rw [k1',k2']
 by_cases hm0:m=[]
 ·have hd0:d=[]:=hok.day.resolve_right (λz=>z.1 hm0)
  subst hm0 hd0
  rw [zC]
  simp [bE]
 ·by_cases hd0:d=[]
  ·subst hd0
   rw [vH hm0,if_neg hm0]
   simp only [show decide (1<2)=true from rfl,show decide (2<2)=false from rfl,cond_true,cond_false]
   rw [cc [45] (mt A1) (by simp;omega)]
   simp only [ob]
   rw [cc _ m (by simp only [List.length_append,List.length_cons,List.length_nil];omega)]
   simp only [ob]
   rw [cc _ (mt B1) (by simp only [List.length_append,List.length_cons,List.length_nil];omega)]
   simp only [ob]
   rw [cc _ _ (by simp only [List.length_append,List.length_cons,List.length_nil];omega)]
   simp [bE]
  ·rw [uQ hm0 hd0,if_neg hm0,if_neg hd0]
   simp only [show decide (1<3)=true from rfl,show decide (2<3)=true from rfl,cond_true,cond_false]
   rw [cc [45] (mt A1) (by simp;omega)]
   simp only [ob]
   rw [cc _ m (by simp only [List.length_append,List.length_cons,List.length_nil];omega)]
   simp only [ob]
   rw [cc _ (mt B1) (by simp only [List.length_append,List.length_cons,List.length_nil];omega)]
   simp only [ob]
   rw [cc _ _ (by simp only [List.length_append,List.length_cons,List.length_nil];omega)]
   simp only [ob]
   rw [cc [45] (mt A2) (by simp;omega)]
   simp only [ob]
   rw [cc _ d (by simp only [List.length_append,List.length_cons,List.length_nil];omega)]
   simp only [ob]
   rw [cc _ (mt B2) (by simp only [List.length_append,List.length_cons,List.length_nil];omega)]
   simp only [ob]
   rw [cc _ _ (by simp only [List.length_append,List.length_cons,List.length_nil];omega)]
   simp [bE]
def isMk (c:UInt8):Bool:=decide (0<mkOf c)
theorem ld {S u v:List UInt8} {a:Nat} (h:S.drop a=u++v):S.drop (a+u.length)=v:=by
 rw [<-List.drop_drop,h,List.drop_left']
 rfl
theorem Cv {A:Nat} (hA:A<4) {r:List UInt8} (hr:ct isMk r):mkS (mt A++r)=A/\mkN (mt A++r)=(mt A).length:=by
 have h0:mkS r=0:=by
  cases r with
  | nil=>rfl
  | cons c r=>
   have:=hr c rfl
   unfold isMk at this
   have:=of_decide_eq_false this
   show mkOf c=0
   omega
 have h:A=0\/A=1\/A=2\/A=3:=by omega
 rcases h with rfl | rfl | rfl | rfl
 ·refine ⟨h0,?_⟩
  show mkN r=0
  unfold mkN
  rw [if_pos h0]
 ·exact ⟨rfl,rfl⟩
 ·exact ⟨rfl,rfl⟩
 ·exact ⟨rfl,rfl⟩
theorem cf {p:UInt8->Bool} {c:UInt8} {r:List UInt8} (h:p c=false):ct p (c::r):=λc' hc=>by
 simp only [List.head?_cons,Option.some.injEq] at hc
 rw [<-hc];exact h
theorem xv {p:UInt8->Bool} (B:Nat) {r:List UInt8} (h1:p 63=false) (h2:p 126=false) (h3:p 37=false) (hr:ct p r):ct p (mt B++r):=by
 unfold mt
 split
 ·exact cf h1
 ·split
  ·exact cf h2
  ·split
   ·exact cf h3
   ·exact hr
theorem C6 {c:UInt8} (h:isDX c=true):isMk c=false:=by
 have:=jH (λc=>!(isDX c)||!(isMk c)) (by decide +kernel) c
 rw [h] at this
 simpa using this
theorem n8 {p q:UInt8->Bool} {w r:List UInt8} (h0:w≠[]) (h:∀c∈w,p c=true) (hpq:∀c,p c=true->q c=false):ct q (w++r):=by
 cases w with
 | nil=>exact absurd rfl h0
 | cons c w=>exact cf (hpq c (h c List.mem_cons_self))
theorem CH {g l:Bool} {d:List UInt8} {x s:Int} (h:okY g l d x s):∀c∈d,isDX c=true:=by
 intro c hc
 unfold okY at h
 have:az c=true\/c=88:=by
  split at h
  ·exact .inl (h.1.1 c hc)
  ·exact h.2.1 c hc
 unfold isDX
 rcases this with h1 | h1
 ·rw [h1];rfl
 ·rw [h1];decide
theorem wF {g l:Bool} {d:List UInt8} {x s:Nat} (h:okY g l d (x:Int) (s:Int)) (r:List UInt8):ct isMk (fb g l d (x:Int) (s:Int)++r):=by
 have hl:d≠[]:=by
  have:=(fJ h).2.2.2.2.1
  rintro rfl
  simp at this
 rw [gH]
 cases l with
 | true=>exact cf (by decide)
 | false=>
  cases g with
  | true=>exact cf (by decide)
  | false=>
   simp only [Bool.false_eq_true,if_false,List.nil_append,List.append_assoc]
   exact n8 hl (CH h) (λc=>C6)
theorem ma {S:List UInt8} {p A B:Nat} {w R:List UInt8} (h:S.drop p=bE A B w++R) (hA:A<4) (hB:B<4) (hw:ct isMk (w++(mt B++R))) (hR:ct isMk R):
  mkS (S.drop p)=A/\S.drop (mkE S p)=w++(mt B++R)/\mkS (S.drop (mkE S p+w.length))=B/\S.drop (mkE S (mkE S p+w.length))=R/\mkE S (mkE S p+w.length)=p+(bE A B w).length:=by
 have h':S.drop p=mt A++(w++(mt B++R)):=by rw [h];unfold bE;simp
 obtain ⟨e1,e2⟩:=Cv hA hw
 obtain ⟨e3,e4⟩:=Cv hB hR
 have hE:mkE S p=p+(mt A).length:=by unfold mkE;rw [h',e2]
 have h1:S.drop (mkE S p)=w++(mt B++R):=by rw [hE];exact ld h'
 have h2:S.drop (mkE S p+w.length)=mt B++R:=ld h1
 have hE2:mkE S (mkE S p+w.length)=mkE S p+w.length+(mt B).length:=by
  show mkE S p+w.length+mkN (S.drop (mkE S p+w.length))=_
  rw [h2,e4]
 refine ⟨by rw [h',e1],h1,by rw [h2,e3],by rw [hE2];exact ld h2,?_⟩
 rw [hE2,hE]
 unfold bE
 simp only [List.length_append]
 omega
theorem rO {m r:List UInt8} (hl:m.length=2) (h:∀c∈m,isDX c=true):twoN (m++r)=2/\(m++r).take 2=m:=by
 match m,hl with
 | [a,b],_=>
  have ha:=h a (by simp)
  have hb:=h b (by simp)
  refine ⟨?_,rfl⟩
  unfold twoN
  show aN isDX 2 (a::b::r)=2
  simp [aN,ha,hb]
theorem CV {k a b c:Nat} (h1:k<2->b=0) (h2:k<3->c=0) (hk:1<=k):(k<2->(plA k a b c).2.1=0/\(plB k a b c).2.1=0)/\(k<3->(plA k a b c).2.2=0/\(plB k a b c).2.2=0):=by
 unfold plA plB
 constructor
 ·intro h
  have:k=1:=by omega
  subst this
  have:=h1 h
  split
  ·simp
  ·simp [this]
 ·intro h
  have:=h2 h
  split
  ·split
   ·simp
   ·have:k=2:=by omega
    simp [this]
  ·simp [this]
theorem wi {g l:Bool} {dg:List UInt8} {x q:Nat} {m d:List UInt8} {k0 k1 k2:Nat} (hok:OkD g l dg x q m d k0 k1 k2) {S:List UInt8} {a:Nat} {post:List UInt8} (h:S.drop a=jp g l dg (x:Int) (q:Int) m d k0 k1 k2++post)
  (hp1:ct isYC post) (hp2:ct isMk post) (hp3:ct (λc=>c==45) post):
  ∃P,lZ S a=.inr (g,l,dg,x,q,m,d,(k0,k1,k2),P,a+(jp g l dg (x:Int) (q:Int) m d k0 k1 k2).length):=by
 have hc:=jG m d
 have hps:=Gc (ba m d) k0 k1 k2 hc hok.m0 hok.m1 hok.m2 hok.z1 hok.z2
 obtain ⟨l0,l1,l2,l3',l4,l5⟩:=Ea (k:=ba m d) hok.m0 hok.m1 hok.m2
 obtain ⟨hz1,hz2⟩:=CV (a:=k0) hok.z1 hok.z2 hc.1
 unfold jp at h ⊢
 generalize hpA:plA (ba m d) k0 k1 k2=PA at *
 generalize hpB:plB (ba m d) k0 k1 k2=PB at *
 obtain ⟨A0,A1,A2⟩:=PA
 obtain ⟨B0,B1,B2⟩:=PB
 simp only at l0 l1 l2 l3' l4 l5 hz1 hz2 h
 clear hpA hpB
 have h45:isMk 45=false:=by decide
 have y45:isYC 45=false:=by decide
 have t45:∀r:List UInt8,ct (λc=>c==45) r->dh 45 r=0:=λr hr=>by
  cases r with
  | nil=>rfl
  | cons c r=>
   have:=hr c rfl
   exact jx (λe=>by rw [e] at this;exact absurd this (by decide)) r
 have hyx:=yK hok.yr
 have hyh:=wF hok.yr
 generalize hY:fb g l dg (x:Int) (q:Int)=Y at *
 have hRs:∀R:List UInt8,S.drop a=bE A0 B0 Y++R->ct isYC R->ct isMk R->
   mkS (S.drop a)=A0/\kD (S.drop (mkE S a))=.inr (g,l,dg,x,q,Y.length)/\mkS (S.drop (mkE S a+Y.length))=B0/\S.drop (mkE S (mkE S a+Y.length))=R/\mkE S (mkE S a+Y.length)=a+(bE A0 B0 Y).length:=by
  intro R hR h1 h2
  obtain ⟨w1,w2,w3,w4,w5⟩:=ma hR l0 l3' (hyh _) h2
  refine ⟨w1,?_,w3,w4,w5⟩
  rw [w2]
  exact hyx _ (xv B0 (by decide) (by decide) (by decide) h1)
 unfold lZ
 by_cases hm0:m=[]
 ·have hd0:d=[]:=hok.day.resolve_right (λz=>z.1 hm0)
  subst hm0 hd0
  simp only [if_true,List.append_nil] at h ⊢
  obtain ⟨w1,w2,w3,w4,w5⟩:=hRs post h hp1 hp2
  rw [w2]
  simp only []
  rw [w4,if_pos (.inr (t45 post hp3)),w1,w3,w5]
  obtain ⟨e1,e2⟩:=hz1 (by rw [zC];omega)
  obtain ⟨e3,e4⟩:=hz2 (by rw [zC];omega)
  rw [e1,e2,e3,e4] at hps
  rw [hps]
  exact ⟨_,rfl⟩
 ·have hq0:¬0<q:=λz=>hm0 (hok.noM z)
  obtain ⟨hml,hmx⟩:=hok.mon.resolve_left hm0
  rw [if_neg hm0] at h ⊢
  have hmk:∀r,ct isMk (m++r):=λr=>n8 hm0 hmx (λc=>C6)
  by_cases hd0:d=[]
  ·subst hd0
   rw [if_pos rfl,List.append_nil] at h ⊢
   have h':S.drop a=bE A0 B0 Y++(45::(bE A1 B1 m++post)):=by rw [h];simp
   obtain ⟨w1,w2,w3,w4,w5⟩:=hRs _ h' (cf y45) (cf h45)
   rw [w2]
   simp only []
   rw [w4,iP,if_neg (λz=>z.elim hq0 (by omega)),w1,w3]
   unfold rd2
   have h2:S.drop (mkE S (mkE S a+Y.length)+1)=bE A1 B1 m++post:=ld (u:=[45]) w4
   obtain ⟨v1,v2,v3,v4,v5⟩:=ma h2 l1 l4 (hmk _) hp2
   obtain ⟨u1,u2⟩:=rO (r:=mt B1++post) hml hmx
   rw [<-v2] at u1 u2
   rw [hml] at v3 v4 v5
   rw [u1,if_neg (by omega),v4,t45 post hp3,if_pos rfl,u2,v1,v3,v5,w5]
   obtain ⟨e3,e4⟩:=hz2 (by rw [vH hm0];omega)
   rw [e3,e4] at hps
   simp only []
   rw [hps]
   have:a+(bE A0 B0 Y).length+1+(bE A1 B1 m).length=a+(bE A0 B0 Y++45::bE A1 B1 m).length:=by simp only [List.length_append,List.length_cons];omega
   rw [this]
   exact ⟨_,rfl⟩
  ·obtain ⟨_,hdl,hdx⟩:=hok.day.resolve_left hd0
   rw [if_neg hd0] at h ⊢
   have hdk:∀r,ct isMk (d++r):=λr=>n8 hd0 hdx (λc=>C6)
   have h':S.drop a=bE A0 B0 Y++(45::(bE A1 B1 m++(45::(bE A2 B2 d++post)))):=by rw [h];simp
   obtain ⟨w1,w2,w3,w4,w5⟩:=hRs _ h' (cf y45) (cf h45)
   rw [w2]
   simp only []
   rw [w4,iP,if_neg (λz=>z.elim hq0 (by omega)),w1,w3]
   unfold rd2
   have h2:S.drop (mkE S (mkE S a+Y.length)+1)=bE A1 B1 m++(45::(bE A2 B2 d++post)):=ld (u:=[45]) w4
   obtain ⟨v1,v2,v3,v4,v5⟩:=ma h2 l1 l4 (hmk _) (cf h45)
   obtain ⟨u1,u2⟩:=rO (r:=mt B1++(45::(bE A2 B2 d++post))) hml hmx
   rw [<-v2] at u1 u2
   rw [hml] at v3 v4 v5
   rw [u1,if_neg (by omega),v4,iP,if_neg (by omega),u2,v1,v3]
   unfold rd3
   have h3:S.drop (mkE S (mkE S (mkE S (mkE S a+Y.length)+1)+2)+1)=bE A2 B2 d++post:=ld (u:=[45]) v4
   obtain ⟨x1,x2,x3,x4,x5⟩:=ma h3 l2 l5 (hdk _) hp2
   obtain ⟨s1,s2⟩:=rO (r:=mt B2++post) hdl hdx
   rw [<-x2] at s1 s2
   rw [hdl] at x3 x4 x5
   rw [s1,if_neg (by omega),s2,x1,x3,x5,v5,w5,hps]
   have:a+(bE A0 B0 Y).length+1+(bE A1 B1 m).length+1+(bE A2 B2 d).length=a+(bE A0 B0 Y++(45::bE A1 B1 m++45::bE A2 B2 d)).length:=by simp only [List.length_append,List.length_cons];omega
   rw [this]
   exact ⟨_,rfl⟩
theorem yV {g l:Bool} {dg:List UInt8} {x q:Nat} {m d:List UInt8} {k0 k1 k2:Nat} (hok:OkD g l dg x q m d k0 k1 k2):(jp g l dg (x:Int) (q:Int) m d k0 k1 k2).length<=37:=by
 have hy:=pD hok.yr
 have h0:=ir (plA (ba m d) k0 k1 k2).1 (plB (ba m d) k0 k1 k2).1 (fb g l dg (x:Int) (q:Int))
 have h1:=ir (plA (ba m d) k0 k1 k2).2.1 (plB (ba m d) k0 k1 k2).2.1 m
 have h2:=ir (plA (ba m d) k0 k1 k2).2.2 (plB (ba m d) k0 k1 k2).2.2 d
 have hml:m.length<=2:=by
  rcases hok.mon with h | h
  ·rw [h];simp
  ·omega
 have hdl:d.length<=2:=by
  rcases hok.day with h | h
  ·rw [h];simp
  ·omega
 unfold jp
 simp only [List.length_append]
 have a1:(if m=[] then [] else 45::bE (plA (ba m d) k0 k1 k2).2.1 (plB (ba m d) k0 k1 k2).2.1 m).length<=5:=by
  split
  ·simp
  ·simp only [List.length_cons];omega
 have a2:(if d=[] then [] else 45::bE (plA (ba m d) k0 k1 k2).2.2 (plB (ba m d) k0 k1 k2).2.2 d).length<=5:=by
  split
  ·simp
  ·simp only [List.length_cons];omega
 omega
theorem DH {A B:Nat×Nat×Nat} (h0:A.1<4) (h1:A.2.1<4) (h2:A.2.2<4) (g0:B.1<4) (g1:B.2.1<4) (g2:B.2.2<4):(spM A B).1<4/\(spM A B).2.1<4/\(spM A B).2.2<4:=by
 have ol:∀x y:Nat,x<4->y<4->x ||| y<4:=λx y hx hy=>(or4 hx hy).2
 exact ⟨ol _ _ (ol _ _ (ol _ _ h0 g0) g1) g2,ol _ _ (ol _ _ h1 g1) g2,ol _ _ h2 g2⟩
structure RdOK (S:List UInt8) (a:Nat) (dg m d:List UInt8) (M:Nat×Nat×Nat) (e:Nat):Prop where
 dg17:dg.length<=17
 m2:m.length<=2
 d2:d.length<=2
 all:inM (ba m d) M
 le:a<=e
 end_:e<=S.length
theorem md {S:List UInt8} {a:Nat} (h:a<=S.length) {g l:Bool} {dg:List UInt8} {x s:Nat} {m d:List UInt8} {M P:Nat×Nat×Nat} {e:Nat} (hr:lZ S a=.inr (g,l,dg,x,s,m,d,M,P,e)):RdOK S a dg m d M e:=by
 have z4:∀p,mkS (S.drop p)<4:=λp=>yj _
 have z0:0<4:=by omega
 have b0:=gj h
 have g0:a<=mkE S a:=Nat.le_add_right _ _
 have gE:∀p,p<=mkE S p:=λp=>Nat.le_add_right _ _
 unfold lZ at hr
 cases hy:kD (S.drop (mkE S a)) with
 | inl k=>rw [hy] at hr;cases hr
 | inr y=>
  obtain ⟨g',l',dg',x',s',k⟩:=y
  obtain ⟨_,bk,_,_,hdg⟩:=mw hy
  have bk:mkE S a+k<=S.length:=by
   rw [List.length_drop] at bk
   omega
  have b1:=gj bk
  rw [hy] at hr
  simp only [] at hr
  by_cases hc:0<s'\/dh 45 (S.drop (mkE S (mkE S a+k)))=0
  ·rw [if_pos hc] at hr
   cases hr
   have:=DH (A:=(mkS (S.drop a),0,0)) (B:=(mkS (S.drop (mkE S a+k)),0,0)) (z4 _) z0 z0 (z4 _) z0 z0
   refine ⟨hdg,by simp,by simp,⟨this.1,this.2.1,this.2.2,λ_=>by simp [spM],λ_=>by simp [spM]⟩,?_,b1⟩
   have:=gE (mkE S a+k)
   omega
  ·rw [if_neg hc] at hr
   have bt1:=lh (λz=>hc (.inr z))
   have bc:=gj bt1
   unfold rd2 at hr
   by_cases h2:twoN (S.drop (mkE S (mkE S (mkE S a+k)+1)))<2
   ·rw [if_pos h2] at hr;cases hr
   ·rw [if_neg h2] at hr
    have b2:=o5 h2
    have b3:=gj b2
    have hml:(List.take 2 (S.drop (mkE S (mkE S (mkE S a+k)+1)))).length=2:=by rw [List.length_take,List.length_drop];omega
    have g1:=gE (mkE S a+k)
    have g2:=gE (mkE S (mkE S a+k)+1)
    have g3:=gE (mkE S (mkE S (mkE S a+k)+1)+2)
    by_cases ht2:dh 45 (S.drop (mkE S (mkE S (mkE S (mkE S a+k)+1)+2)))=0
    ·rw [if_pos ht2] at hr
     cases hr
     have:=DH (A:=(mkS (S.drop a),mkS (S.drop (mkE S (mkE S a+k)+1)),0)) (B:=(mkS (S.drop (mkE S a+k)),mkS (S.drop (mkE S (mkE S (mkE S a+k)+1)+2)),0)) (z4 _) (z4 _) z0 (z4 _) (z4 _) z0
     refine ⟨hdg,by omega,by simp,⟨this.1,this.2.1,this.2.2,λz=>?_,λ_=>by simp [spM]⟩,by omega,b3⟩
     rw [vH (js hml)] at z
     omega
    ·rw [if_neg ht2] at hr
     have bt2:=lh ht2
     have bc2:=gj bt2
     unfold rd3 at hr
     by_cases h3:twoN (S.drop (mkE S (mkE S (mkE S (mkE S (mkE S a+k)+1)+2)+1)))<2
     ·rw [if_pos h3] at hr;cases hr
     ·rw [if_neg h3] at hr
      have b4:=o5 h3
      have b5:=gj b4
      have hdl:(List.take 2 (S.drop (mkE S (mkE S (mkE S (mkE S (mkE S a+k)+1)+2)+1)))).length=2:=by rw [List.length_take,List.length_drop];omega
      cases hr
      have g4:=gE (mkE S (mkE S (mkE S (mkE S a+k)+1)+2)+1)
      have g5:=gE (mkE S (mkE S (mkE S (mkE S (mkE S a+k)+1)+2)+1)+2)
      have:=DH (A:=(mkS (S.drop a),mkS (S.drop (mkE S (mkE S a+k)+1)),mkS (S.drop (mkE S (mkE S (mkE S (mkE S a+k)+1)+2)+1)))) (B:=(mkS (S.drop (mkE S a+k)),mkS (S.drop (mkE S (mkE S (mkE S a+k)+1)+2)),mkS (S.drop (mkE S (mkE S (mkE S (mkE S (mkE S a+k)+1)+2)+1)+2)))) (z4 _) (z4 _) (z4 _) (z4 _) (z4 _) (z4 _)
      refine ⟨hdg,by omega,by omega,⟨this.1,this.2.1,this.2.2,λz=>?_,λz=>?_⟩,by omega,b5⟩
      ·rw [uQ (js hml) (js hdl)] at z
       omega
      ·rw [uQ (js hml) (js hdl)] at z
       omega
theorem zH {g l:Bool} {dg:List UInt8} {x q:Int} {m d:List UInt8} {k0 k1 k2:Int} (hk:allM k0 k1 k2 (ba m d)=0):chkD g l dg x q m d k0 k1 k2=0\/chkD g l dg x q m d k0 k1 k2=6\/chkD g l dg x q m d k0 k1 k2=7\/chkD g l dg x q m d k0 k1 k2=8:=by
 unfold chkD
 rw [hk]
 generalize yrD g l dg x q m=b1
 generalize (!(m==[])&&(!(decide (0<sea m))&&!(cG m 12)))=b2
 generalize (!(d==[])&&((m==[])||(decide (0<sea m)||!(cG d 31))))=b3
 cases b1<;>cases b2<;>cases b3<;>simp
theorem m7 {p:UInt8->Bool}:ct p []:=λc hc=>by cases hc
def monT (j:Nat):List UInt8:=if j=0 then [] else if j<=12 then two j else if j<=33 then two (j+8) else ([[48,88],[49,88],[88,50],[88,88],[88,48],[88,57]]:List (List UInt8)).getD (j - 34) []
def Gr (m:List UInt8):Nat:=if m=[48,50] then 28 else if m=[48,52]\/m=[48,54]\/m=[48,57]\/m=[49,49]\/m=[88,57] then 30 else 31
def dayT (j:Nat) (m:List UInt8):List UInt8:=if j=0 then [] else if j<=31 then two (min j (Gr m)) else if m=[48,50]/\j=35 then [50,88] else ([[48,88],[49,88],[50,88],[51,88],[88,48],[88,49],[88,88],[88,56]]:List (List UInt8)).getD (j - 32) []
theorem r40 {p:Nat->Bool} (h:(List.range 40).all p=true) {a:Nat} (ha:a<40):p a=true:=(List.all_eq_true.1 h) a (List.mem_range.2 ha)
noncomputable def CK (m:Nat) (a0:Int) (a1:Bool) (a2 a3 a4 a6 a7 a8 a9:Int) (j:Nat):Bool:=dl (m+300) a0 a1 a2 a3 a4 (j:Int) a6 a7 a8 a9==some (monT j)
theorem zy (m:Nat) (a0:Int) (a1:Bool) (a2 a3 a4 a6 a7 a8 a9:Int):((List.range 40).all λj=>CK m a0 a1 a2 a3 a4 a6 a7 a8 a9 j)=true:=by kernel_rfl
theorem DM (a:Nat) (h:a<256):IntKind.wrap .i64 (Int.tmod (a:Int) 40)=((a%40:Nat):Int):=by
 have:Int.tmod (a:Int) 40=((a%40:Nat):Int):=rfl
 rw [this,wrap_i64 _ (by omega) (by omega)]
theorem CB (j:Nat) (h:j<40):IntKind.wrap .i64 (Int.tmod (j:Int) 40)=((j:Nat):Int):=by
 rw [DM j (by omega)]
 have:j%40=j:=by omega
 rw [this]
theorem wV (m:Nat) (a0:Int) (a1:Bool) (a2 a3 a4:Int) (a5:Nat) (a6 a7 a8 a9:Int) (h:a5<256):dl (m+300) a0 a1 a2 a3 a4 (a5:Int) a6 a7 a8 a9=some (monT (a5%40)):=by
 have hj:a5%40<40:=by omega
 have h1:=r40 (zy m a0 a1 a2 a3 a4 a6 a7 a8 a9) hj
 unfold CK at h1
 have h1:=beq_iff_eq.1 h1
 unfold dl at h1 ⊢
 rw [CB _ hj] at h1
 rw [DM _ h]
 exact h1
theorem DJ {j:Nat} (h:j<40):monT j=[]\/0<sea (monT j)\/(sea (monT j)=0/\cG (monT j) 12=true):=by
 have:((List.range 40).all λj=>decide (monT j=[])||(decide (0<sea (monT j))||(decide (sea (monT j)=0)&&cG (monT j) 12)))=true:=by decide +kernel
 have:=r40 this h
 simpa using this
theorem yu {j:Nat} (h:j<40) (hs:sea (monT j)=0) (h0:monT j≠[]):monT j∈((List.range 12).map λi=>two (i+1))++[[48,88],[49,88],[88,50],[88,88],[88,48],[88,57]]:=by
 have:((List.range 40).all λj=>!decide (sea (monT j)=0)||(decide (monT j=[])||decide (monT j∈((List.range 12).map λi=>two (i+1))++[[48,88],[49,88],[88,50],[88,88],[88,48],[88,57]])))=true:=by decide +kernel
 have:=r40 this h
 rw [decide_eq_true hs,decide_eq_false h0] at this
 simpa using this
noncomputable def CE (m:Nat) (a0:Int) (a1:Bool) (a2 a3 a4 a5 a7 a8 a9:Int) (mo:List UInt8) (j:Nat):Bool:=ed (m+300) a0 a1 a2 a3 a4 a5 (j:Int) a7 a8 a9 mo==some (dayT j mo)
theorem yf (m:Nat) (a0:Int) (a1:Bool) (a2 a3 a4 a5 a7 a8 a9:Int):((((List.range 12).map λi=>two (i+1))++[[48,88],[49,88],[88,50],[88,88],[88,48],[88,57]]).all λmo=>(List.range 40).all λj=>CE m a0 a1 a2 a3 a4 a5 a7 a8 a9 mo j)=true:=by kernel_rfl
theorem Bs (m:Nat) (a0:Int) (a1:Bool) (a2 a3 a4 a5:Int) (a6:Nat) (a7 a8 a9:Int) (mo:List UInt8) (hm:mo∈((List.range 12).map λi=>two (i+1))++[[48,88],[49,88],[88,50],[88,88],[88,48],[88,57]]) (h:a6<256):ed (m+300) a0 a1 a2 a3 a4 a5 (a6:Int) a7 a8 a9 mo=some (dayT (a6%40) mo):=by
 have hj:a6%40<40:=by omega
 have h1:=r40 ((List.all_eq_true.1 (yf m a0 a1 a2 a3 a4 a5 a7 a8 a9)) mo hm) hj
 unfold CE at h1
 have h1:=beq_iff_eq.1 h1
 unfold ed at h1 ⊢
 rw [CB _ hj] at h1
 rw [DM _ h]
 exact h1
theorem Em {j:Nat} (h:j<40) {mo:List UInt8} (hm:mo∈((List.range 12).map λi=>two (i+1))++[[48,88],[49,88],[88,50],[88,88],[88,48],[88,57]]):dayT j mo=[]\/cG (dayT j mo) 31=true:=by
 have:((((List.range 12).map λi=>two (i+1))++[[48,88],[49,88],[88,50],[88,88],[88,48],[88,57]]).all λmo=>(List.range 40).all λj=>decide (dayT j mo=[])||cG (dayT j mo) 31)=true:=by decide +kernel
 have:=r40 ((List.all_eq_true.1 this) mo hm) h
 simpa using this
def mksT (k a b c:Nat):Nat×Nat×Nat:=(a%4,if 1<k then b%4 else 0,if 2<k then c%4 else 0)
theorem C2 (k a b c:Nat):allM ((mksT k a b c).1:Int) ((mksT k a b c).2.1:Int) ((mksT k a b c).2.2:Int) k=0:=by
 apply nc
 refine ⟨by simp only [mksT];omega,?_,?_,?_,?_⟩
 ·simp only [mksT];split<;>omega
 ·simp only [mksT];split<;>omega
 ·intro h;simp only [mksT];rw [if_neg (by omega)]
 ·intro h;simp only [mksT];rw [if_neg (by omega)]
theorem Al {g l:Bool} {d:List UInt8} {x s:Int} (h:okY g l d x s) (h5:d.length<=5) (h11:x<=11):lz g d x=false:=by
 unfold lz
 cases hX:hasX d with
 | true=>rfl
 | false=>
  obtain ⟨k,q,rfl,rfl,hN⟩:=my h hX
  have h1:=kN d 0 0 hN.dig (by decide)
  rw [Nat.add_zero] at h1
  have h2:dval 0 d<10 ^ 5:=Nat.lt_of_lt_of_le h1 (Nat.pow_le_pow_right (by omega) h5)
  have h3:10 ^ k<=10 ^ 11:=Nat.pow_le_pow_right (by omega) (by omega)
  have h4:val d k≠E16:=by
   unfold val E16
   have:dval 0 d*10 ^ k<=99999*10 ^ 11:=Nat.mul_le_mul (by omega) h3
   omega
  rw [Int.toNat_natCast,decide_eq_false h4]
  simp
theorem E8 {g l:Bool} {dg:List UInt8} {x q:Int} {m d:List UInt8} {k0 k1 k2:Int} (h:okY g l dg x q) (hl:lz g dg x=false) (hq:0<q->m=[]) (hm:m=[]\/0<sea m\/(sea m=0/\cG m 12=true)) (hd:d=[]\/(m≠[]/\sea m=0/\cG d 31=true)) (hk:allM k0 k1 k2 (ba m d)=0):chkD g l dg x q m d k0 k1 k2=0:=by
 have hy:yrD g l dg x q m=true:=by
  unfold yrD yrB
  rw [if_pos h,hl]
  by_cases h0:0<q
  ·rw [hq h0];simp
  ·simp [h0]
 unfold chkD
 rw [hy,hk]
 have c1:(!(m==[])&&(!(decide (0<sea m))&&!(cG m 12)))=false:=by
  rcases hm with h | h | ⟨_,h⟩
  ·rw [h];rfl
  ·rw [decide_eq_true h];simp
  ·rw [h];simp
 have c2:(!(d==[])&&((m==[])||(decide (0<sea m)||!(cG d 31))))=false:=by
  rcases hd with h | ⟨h1,h2,h3⟩
  ·rw [h];rfl
  ·rw [beq_eq_false_iff_ne.2 h1,h2,h3];simp
 rw [c1,c2]
 rfl
def minL (mo:Nat):Nat:=if mo=2 then 28 else if mo=4\/mo=6\/mo=9\/mo=11 then 30 else 31
def fitD (mo d:List UInt8):Bool:=(List.range' 1 12).any λi=>agr mo i&&(List.range' 1 (minL i)).any (agr d)
theorem Db:((((List.range 12).map λi=>two (i+1))++[[48,88],[49,88],[88,50],[88,88],[88,48],[88,57]]).all λmo=>(List.range 40).all λj=>(dayT j mo==[])||fitD mo (dayT j mo))=true:=by decide +kernel
theorem AY {j:Nat} (h:j<40) {mo:List UInt8} (hm:mo∈((List.range 12).map λi=>two (i+1))++[[48,88],[49,88],[88,50],[88,88],[88,48],[88,57]]):dayT j mo=[]\/fitD mo (dayT j mo)=true:=by
 have:=r40 ((List.all_eq_true.1 Db) mo hm) h
 simp only [Bool.or_eq_true,beq_iff_eq] at this
 exact this
theorem B5 (n:Nat) (g l:Bool) (dg:List UInt8) (x q:Int) (m d:List UInt8) (k0 k1 k2:Int) (hm:m.length<=18) (hd:dg.length<=100) (h0:0<=k0) (h1:0<=k1) (h2:0<=k2):
  dA (n+300) g l dg x q m d k0 k1 k2=some (if chkD g l dg x q m d k0 k1 k2=0 then (jp g l dg x q m d k0.toNat k1.toNat k2.toNat,0) else ([],chkD g l dg x q m d k0 k1 k2)):=by
 by_cases hc:chkD g l dg x q m d k0 k1 k2=0
 ·obtain ⟨x',q',a,b,c,e1,e2,e3,e4,e5,hok⟩:=uW h0 h1 h2 hc
  subst e1 e2 e3 e4 e5
  exact D0 n g l dg x' q' m d a b c hm hd
 ·rw [if_neg hc]
  unfold dA
  rw [rQ (n+300) (by omega) g l dg _ _ m d _ _ _ hm hd h0 h1 h2]
  show cond (chkD g l dg x q m d k0 k1 k2 != 0) _ _=_
  rw [n6,if_neg hc]
theorem xl (n:Nat) {g l:Bool} {dg:List UInt8} {x q:Int} {m d:List UInt8} {k0 k1 k2:Int} (h0:0<=k0) (h1:0<=k1) (h2:0<=k2) (hc:chkD g l dg x q m d k0 k1 k2=0):
  dG (n+300) g l dg x q m d k0 k1 k2=some (jp g l dg x q m d k0.toNat k1.toNat k2.toNat):=by
 obtain ⟨x',q',a,b,c,e1,e2,e3,e4,e5,hok⟩:=uW h0 h1 h2 hc
 subst e1 e2 e3 e4 e5
 exact wA n hok
theorem nN (a b:List UInt8):hasX (a++b)=(hasX a||hasX b):=by unfold hasX;rw [List.any_append]
theorem zd (n:Nat) (g l:Bool) (dg:List UInt8) (x q:Int) (m d:List UInt8) (k0 k1 k2:Int) (hm:m.length<=1000) (hd:dg.length<=1000) (h:d.length<=1000):
  fH n g l dg x q m d k0 k1 k2=some (hasX dg||(hasX m||hasX d)):=by
 unfold fH
 rw [df (by omega)]
 simp only [ob]
 rw [df (by simp only [List.length_append];omega)]
 simp only [ob]
 rw [tv,nN,nN,Bool.or_assoc]
def rY (d:List UInt8) (k q:Nat):Nat×Nat:=if 0<q then (val d k / 10 ^ (d.length+k - q)*10 ^ (d.length+k - q),min (val d k / 10 ^ (d.length+k - q)*10 ^ (d.length+k - q)+10 ^ (d.length+k - q) - 1) E16) else (val d k,val d k)
def sgn (g:Bool) (p:Nat×Nat):Int×Int:=if g then (-(p.2:Int),-(p.1:Int)) else ((p.1:Int),(p.2:Int))
theorem sM (n:Nat) (g l:Bool) (d:List UInt8) (k q:Nat) (hn:200<n) (hd:d.length<=100) (hN:Num d k q):
  aq n g l d (k:Int) (q:Int)=some (sgn g (rY d k q)):=by
 have hw:=hN.wide
 have hs:=hN.small
 have hq:=hN.sig
 unfold aq
 rw [jL n g l d k q (by omega) (by omega),mC hN.dig,fW n d k hN.dig hd (by omega) (by omega),if_pos hs]
 have hv:dval 0 d*10 ^ k=val d k:=rfl
 rw [hv] at hs ⊢
 unfold E16 at hs
 have z01:((if false=true then (1:Int) else 0)==1)=false:=rfl
 simp only [ob,z01,cond_false]
 by_cases h0:0<q
 ·have e0:decide ((q:Int)>0)=true:=decide_eq_true (by omega)
  have w0:IntKind.wrap .i64 (IntKind.wrap .i64 (((d.length:Nat):Int)+(k:Int)) - (q:Int))=((d.length+k - q:Nat):Int):=by
   rw [wrap_i64 (((d.length:Nat):Int)+(k:Int)) (by omega) (by omega),wrap_i64 _ (by omega) (by omega)]
   omega
  have hu2:10 ^ (d.length+k - q)<=10 ^ 16:=Nat.pow_le_pow_right (by decide) (by omega)
  have h16:(10:Nat) ^ 16=10000000000000000:=by decide
  have one:dval 0 [49]=1:=by decide
  have hone:dval 0 [49]*10 ^ (d.length+k - q)<=E16:=by rw [one];unfold E16;omega
  rw [e0,w0,fW n [49] (d.length+k - q) (by decide) (by decide) (by omega) (by simp;omega),if_pos hone,one,Nat.one_mul]
  simp only [cond_true]
  have hu:1<=10 ^ (d.length+k - q):=Nat.one_le_pow _ _ (by decide)
  unfold sgn rY
  rw [if_pos h0]
  clear hone
  generalize 10 ^ (d.length+k - q)=u at *
  generalize val d k=v at *
  have d2:(((u:Nat):Int)==0)=false:=beq_eq_false_iff_ne.2 (by omega)
  have hdiv:Int.tdiv ((v:Nat):Int) ((u:Nat):Int)=((v / u:Nat):Int):=rfl
  have hle:v / u*u<=v:=Nat.div_mul_le_self v u
  have hle2:v / u<=v:=Nat.div_le_self v u
  have w1:IntKind.wrap .i64 ((v / u:Nat):Int)=((v / u:Nat):Int):=by
   generalize v / u=t at *
   exact wrap_i64 _ (by omega) (by omega)
  have w2:IntKind.wrap .i64 (((v / u:Nat):Int)*((u:Nat):Int))=((v / u*u:Nat):Int):=by
   rw [<-Int.natCast_mul];exact wrap_i64 _ (by omega) (by omega)
  rw [d2,cond_false,hdiv,w1,w2]
  generalize v / u*u=lo at *
  have w3:IntKind.wrap .i64 (IntKind.wrap .i64 (((lo:Nat):Int)+((u:Nat):Int)) - 1)=((lo+u - 1:Nat):Int):=by
   rw [wrap_i64 (((lo:Nat):Int)+((u:Nat):Int)) (by omega) (by omega),wrap_i64 _ (by omega) (by omega)]
   omega
  rw [w3]
  have hmin:(cond (decide ((10000000000000000:Int)<((lo+u - 1:Nat):Int))) (10000000000000000:Int) ((lo+u - 1:Nat):Int))=((min (lo+u - 1) E16:Nat):Int):=by
   unfold E16
   by_cases hm:(10000000000000000:Int)<((lo+u - 1:Nat):Int)
   ·rw [decide_eq_true hm,cond_true];omega
   ·rw [decide_eq_false hm,cond_false];omega
  rw [hmin]
  have hmE:min (lo+u - 1) E16<=10000000000000000:=Nat.min_le_right _ _
  generalize min (lo+u - 1) E16=hi at *
  cases g with
  | true=>
   simp only [cond_true,if_true]
   rw [wrap_i64 _ (by omega) (by omega),wrap_i64 _ (by omega) (by omega),Int.zero_sub,Int.zero_sub]
  | false=>simp
 ·have e0:decide ((q:Int)>0)=false:=decide_eq_false (by omega)
  rw [e0,cond_false]
  unfold sgn rY
  rw [if_neg h0]
  cases g with
  | true=>
   simp only [cond_true,if_true]
   rw [wrap_i64 _ (by omega) (by omega),Int.zero_sub]
  | false=>simp
def cv (z:UInt8) (d:List UInt8):List UInt8:=d.map λc=>if c=88 then z else c
theorem eF (z:UInt8) (d:List UInt8):(cv z d).length=d.length:=by simp [cv]
theorem kQ {z:UInt8} (hz:az z=true) {d:List UInt8} (h:∀c∈d,az c=true\/c=88):∀c∈cv z d,az c=true:=by
 intro c hc
 obtain ⟨b,hb,rfl⟩:=List.mem_map.1 hc
 by_cases hx:b=88
 ·rw [if_pos hx];exact hz
 ·rw [if_neg hx]
  exact (h b hb).resolve_right hx
theorem o7 {z:UInt8} {d:List UInt8} {i:Nat} {c:UInt8} (h:d[i]?=some c):(cv z d)[i]?=some (if c=88 then z else c):=by
 simp [cv,h]
def mG (d:List UInt8):Nat:=10 ^ (d.reverse.takeWhile (λc=>c != 88)).length
def gn (g:Bool) (d:List UInt8):Nat×Nat:=(if g=true/\dval 0 (cv 48 d)=0 then mG d else dval 0 (cv 48 d),dval 0 (cv 57 d))
theorem C1 (m:Nat):aq (m+300) true false [48,48,48,88] 0 0=some (sgn true (gn true [48,48,48,88])):=by kernel_rfl
theorem C4 (m:Nat):aq (m+300) true false [48,48,88,48] 0 0=some (sgn true (gn true [48,48,88,48])):=by kernel_rfl
theorem Dj (m:Nat):aq (m+300) true false [48,48,88,88] 0 0=some (sgn true (gn true [48,48,88,88])):=by kernel_rfl
theorem De (m:Nat):aq (m+300) true false [48,88,48,48] 0 0=some (sgn true (gn true [48,88,48,48])):=by kernel_rfl
theorem DT (m:Nat):aq (m+300) true false [48,88,48,88] 0 0=some (sgn true (gn true [48,88,48,88])):=by kernel_rfl
theorem D3 (m:Nat):aq (m+300) true false [48,88,88,48] 0 0=some (sgn true (gn true [48,88,88,48])):=by kernel_rfl
theorem CU (m:Nat):aq (m+300) true false [48,88,88,88] 0 0=some (sgn true (gn true [48,88,88,88])):=by kernel_rfl
theorem DU (m:Nat):aq (m+300) true false [88,48,48,48] 0 0=some (sgn true (gn true [88,48,48,48])):=by kernel_rfl
theorem Da (m:Nat):aq (m+300) true false [88,48,48,88] 0 0=some (sgn true (gn true [88,48,48,88])):=by kernel_rfl
theorem DW (m:Nat):aq (m+300) true false [88,48,88,48] 0 0=some (sgn true (gn true [88,48,88,48])):=by kernel_rfl
theorem Cc (m:Nat):aq (m+300) true false [88,48,88,88] 0 0=some (sgn true (gn true [88,48,88,88])):=by kernel_rfl
theorem BN (m:Nat):aq (m+300) true false [88,88,48,48] 0 0=some (sgn true (gn true [88,88,48,48])):=by kernel_rfl
theorem Ao (m:Nat):aq (m+300) true false [88,88,48,88] 0 0=some (sgn true (gn true [88,88,48,88])):=by kernel_rfl
theorem Bx (m:Nat):aq (m+300) true false [88,88,88,48] 0 0=some (sgn true (gn true [88,88,88,48])):=by kernel_rfl
theorem B4 (m:Nat):aq (m+300) true false [88,88,88,88] 0 0=some (sgn true (gn true [88,88,88,88])):=by kernel_rfl
theorem tD {d:List UInt8} (hl:d.length=4) (h:∀c∈d,az c=true\/c=88) (hz:dval 0 (cv 48 d)=0):∀c∈d,c=48\/c=88:=by
 match d,hl with
 | [a,b,c,e],_=>
  have hd:=kQ (z:=48) (by decide) h
  have h2:dval 0 (cv 48 [a,b,c,e])=((((0*10+((if a=88 then (48:UInt8) else a).toNat - 48))*10+((if b=88 then (48:UInt8) else b).toNat - 48))*10+((if c=88 then (48:UInt8) else c).toNat - 48))*10+((if e=88 then (48:UInt8) else e).toNat - 48)):=by
   simp only [cv,List.map_cons,List.map_nil,jJ,kl,nI]
  rw [h2] at hz
  have key:∀x:UInt8,az (if x=88 then (48:UInt8) else x)=true->(if x=88 then (48:UInt8) else x).toNat - 48=0->x=48\/x=88:=by
   intro x hx h0
   by_cases hx8:x=88
   ·exact .inr hx8
   ·rw [if_neg hx8] at hx h0
    have:=(aQ x).1 hx
    exact .inl (UInt8.toNat_inj.1 (by show x.toNat=48;omega))
  simp only [cv,List.map_cons,List.map_nil,List.mem_cons,List.not_mem_nil,or_false,forall_eq_or_imp,forall_eq] at hd ⊢
  exact ⟨key a hd.1 (by omega),key b hd.2.1 (by omega),key c hd.2.2.1 (by omega),key e hd.2.2.2 (by omega)⟩
theorem qp {d:List UInt8} (hl:d.length=4) (h:∀c∈d,c=48\/c=88) (hX:hasX d=true) (P:List UInt8->Prop) (h0:P [48,48,48,88]) (h1:P [48,48,88,48]) (h2:P [48,48,88,88]) (h3:P [48,88,48,48]) (h4:P [48,88,48,88]) (h5:P [48,88,88,48]) (h6:P [48,88,88,88]) (h7:P [88,48,48,48]) (h8:P [88,48,48,88]) (h9:P [88,48,88,48]) (h10:P [88,48,88,88]) (h11:P [88,88,48,48]) (h12:P [88,88,48,88]) (h13:P [88,88,88,48]) (h14:P [88,88,88,88]):P d:=by
 match d,hl with
 | [a,b,c,e],_=>
  simp only [List.mem_cons,List.not_mem_nil,or_false,forall_eq_or_imp,forall_eq] at h
  obtain ⟨ha,hb,hc,he⟩:=h
  rcases ha with rfl | rfl<;>rcases hb with rfl | rfl<;>rcases hc with rfl | rfl<;>rcases he with rfl | rfl
  ·exact absurd hX (by decide)
  ·exact h0
  ·exact h1
  ·exact h2
  ·exact h3
  ·exact h4
  ·exact h5
  ·exact h6
  ·exact h7
  ·exact h8
  ·exact h9
  ·exact h10
  ·exact h11
  ·exact h12
  ·exact h13
  ·exact h14
theorem uf (n:Nat) (g l:Bool) (d:List UInt8) (x s:Int) (hl:d.length=4) (hn:4<n):ah (dp n) n ([],[],0,g,l,d,x,s)=some (cv 48 d,cv 57 d,g,l,d,x,s):=by
 refine dt (step:=dp n) (λq=>∃i:Nat,i<=4/\q=((cv 48 d).take i,(cv 57 d).take i,(i:Int),g,l,d,x,s)) (λq=>4 - q.2.2.1.toNat) (λ_=>(cv 48 d,cv 57 d,g,l,d,x,s)) ?_ n _ ⟨0,by omega,by simp⟩ (by simp;omega)
 rintro q ⟨i,hi,rfl⟩
 rcases Nat.lt_or_ge i 4 with hlt | hge
 ·obtain ⟨c,hc⟩:∃c,d[i]?=some c:=⟨d[i],List.getElem?_eq_getElem (by omega)⟩
  have hf1:=DC (o7 (z:=48) hc)
  have hf2:=DC (o7 (z:=57) hc)
  have d1:decide ((i:Int)<4)=true:=decide_eq_true (by omega)
  have w1:IntKind.wrap .i64 ((i:Int)+1)=((i+1:Nat):Int):=by rw [wrap_i64 _ (by omega) (by omega)];omega
  refine .inl ⟨((cv 48 d).take (i+1),(cv 57 d).take (i+1),((i+1:Nat):Int),g,l,d,x,s),?_,⟨i+1,by omega,rfl⟩,by simp only [Int.toNat_natCast];omega,rfl⟩
  simp only [dp,d1,cond_true,w1,bY (show i+1<=d.length by omega),bY (show i<=i+1 by omega),ob,cut1 hc]
  have ht:∀z:UInt8,((cv z d).take i).length<=4:=λz=>by rw [List.length_take];omega
  rw [hf1,hf2]
  by_cases hx:c=88
  ·have e:(([c]:List UInt8)==[88])=true:=by rw [hx];rfl
   rw [e,cond_true,if_pos hx,if_pos hx,df (by have:=ht 48;simp;omega),df (by have:=ht 57;simp;omega)]
  ·have e:(([c]:List UInt8)==[88])=false:=by
    rw [beq_eq_false_iff_ne];intro e;exact hx (by simpa using e)
   rw [e,cond_false,if_neg hx,if_neg hx,df (by have:=ht 48;simp;omega),df (by have:=ht 57;simp;omega)]
 ·have:i=4:=by omega
  subst this
  refine .inr ?_
  rw [List.take_of_length_le (by rw [eF];omega),List.take_of_length_le (by rw [eF];omega)]
  rfl
theorem wG {d:List UInt8} (h:d=[48,48,48,48]):dval 0 d=0:=by rw [h];decide
theorem rW (m:Nat) (g:Bool) (d:List UInt8) (h:okY g false d 0 0) (hX:hasX d=true):aq (m+300) g false d 0 0=some (sgn g (gn g d)):=by
 obtain ⟨_,_,_,hl,hd⟩:=kY h hX
 by_cases hz:g=true/\dval 0 (cv 48 d)=0
 ·obtain ⟨rfl,hz⟩:=hz
  exact qp hl (tD hl hd hz) hX (λd=>aq (m+300) true false d 0 0=some (sgn true (gn true d))) (C1 m) (C4 m) (Dj m) (De m) (DT m) (D3 m) (CU m) (DU m) (Da m) (DW m) (Cc m) (BN m) (Ao m) (Bx m) (B4 m)
 ·have hs:gn g d=(dval 0 (cv 48 d),dval 0 (cv 57 d)):=by unfold gn;rw [if_neg hz]
  have d48:=kQ (z:=48) (by decide) hd
  have d57:=kQ (z:=57) (by decide) hd
  have h1:=kN (cv 48 d) 0 0 d48 (by simp)
  have h2:=kN (cv 57 d) 0 0 d57 (by simp)
  rw [eF,hl] at h1 h2
  have h4:(10:Nat) ^ (4+0)=10000:=by decide
  have m1:ab (m+300) (cv 48 d) 0=some (((dval 0 (cv 48 d):Nat):Int),1):=by
   have:=fW (m+300) (cv 48 d) 0 d48 (by rw [eF];omega) (by omega) (by rw [eF];omega)
   rw [if_pos (by unfold E16;simp only [Nat.pow_zero,Nat.mul_one];omega)] at this
   simpa using this
  have m2:ab (m+300) (cv 57 d) 0=some (((dval 0 (cv 57 d):Nat):Int),1):=by
   have:=fW (m+300) (cv 57 d) 0 d57 (by rw [eF];omega) (by omega) (by rw [eF];omega)
   rw [if_pos (by unfold E16;simp only [Nat.pow_zero,Nat.mul_one];omega)] at this
   simpa using this
  have z11:((if true=true then (1:Int) else 0)==1)=true:=rfl
  have z0:decide ((0:Int)>0)=false:=rfl
  unfold aq
  rw [jL _ g false d 0 0 (by omega) (by omega),hX,uf _ g false d 0 0 hl (by omega),hs]
  simp only [ob,if_true,BEq.rfl,cond_true]
  cases g with
  | true=>
   have e:(cv 48 d==([48,48,48,48]:List UInt8))=false:=by
    rw [beq_eq_false_iff_ne]
    intro e
    exact hz ⟨rfl,wG e⟩
   simp only [cond_true,e,cond_false,m1,m2,z0,sgn,if_true]
   generalize dval 0 (cv 48 d)=a at *
   generalize dval 0 (cv 57 d)=b at *
   rw [wrap_i64 _ (by omega) (by omega),wrap_i64 _ (by omega) (by omega),Int.zero_sub,Int.zero_sub]
  | false=>simp only [cond_false,m1,m2,z0,sgn,Bool.false_eq_true,if_false]
def jc (g:Bool) (d:List UInt8) (x s:Int):Nat×Nat:=if hasX d then gn g d else rY d x.toNat s.toNat
theorem AO (m:Nat) (g l:Bool) (d:List UInt8) (x s:Int) (hd:d.length<=100) (h:okY g l d x s):aq (m+300) g l d x s=some (sgn g (jc g d x s)):=by
 unfold jc
 cases hX:hasX d with
 | true=>
  obtain ⟨rfl,rfl,rfl,hl,hdd⟩:=kY h hX
  exact rW m g d h hX
 | false=>
  obtain ⟨k,q,rfl,rfl,hN⟩:=my h hX
  exact sM _ g l d k q (by omega) hd hN
theorem D7 {d:List UInt8} {k q:Nat} (h:Num d k q):(rY d k q).1<=val d k/\val d k<=(rY d k q).2/\(rY d k q).2<=E16:=by
 have hs:=h.small
 have hv:dval 0 d*10 ^ k=val d k:=rfl
 rw [hv] at hs
 unfold rY
 split
 ·have hu:1<=10 ^ (d.length+k - q):=Nat.one_le_pow _ _ (by decide)
  generalize 10 ^ (d.length+k - q)=u at hu ⊢
  generalize val d k=v at hs ⊢
  have h1:=Nat.div_mul_le_self v u
  have h2:v<v / u*u+u:=by
   have h:=Nat.div_add_mod v u
   have:=Nat.mod_lt v hu
   rw [Nat.mul_comm] at h
   omega
  refine ⟨h1,?_,Nat.min_le_right _ _⟩
  rw [Nat.le_min]
  omega
 ·exact ⟨Nat.le_refl _,Nat.le_refl _,hs⟩
def mtk (d:List UInt8):Nat->Nat->Bool
 | 0,_=>true
 | k+1,w=>(decide (d.getD k 0=88)||decide ((d.getD k 0).toNat=48+w%10))&&mtk d k (w / 10)
theorem qZ (d:List UInt8) (k w:Nat):mtk d (k+1) w=((decide (d.getD k 0=88)||decide ((d.getD k 0).toNat=48+w%10))&&mtk d k (w / 10)):=rfl
theorem rM {d:List UInt8} {k:Nat} {c:UInt8} (h:d[k]?=some c):d.getD k 0=c:=by
 rw [List.getD_eq_getElem?_getD,h];rfl
theorem zI (n:Nat) (g l:Bool) (d:List UInt8) (x s:Int) (hl:d.length=4):∀(k w:Nat),k<=4->w<100000000000000000->∀q,k<q->
  ah (aL n) q ((w:Int),(k:Int) - 1,g,l,d,x,s)=some (if mtk d k w=true then .inr ((w / 10 ^ k:Nat):Int) else .inl 0)
 | 0,w,hk,hw,q,hq=>by
  obtain ⟨q,rfl⟩:∃p,q=p+1:=⟨q - 1,by omega⟩
  have d1:decide (((0:Nat):Int) - 1>=0)=false:=rfl
  have hm0:mtk d 0 w=true:=rfl
  simp only [ah,aL,d1,cond_false]
  rw [if_pos hm0]
  simp
 | k+1,w,hk,hw,q,hq=>by
  obtain ⟨q,rfl⟩:∃p,q=p+1:=⟨q - 1,by omega⟩
  have ih:=zI n g l d x s hl k (w / 10) (by omega) (by omega) q (by omega)
  obtain ⟨c,hc⟩:∃c,d[k]?=some c:=⟨d[k],List.getElem?_eq_getElem (by omega)⟩
  have e0:((k+1:Nat):Int) - 1=(k:Int):=by omega
  have d1:decide ((k:Int)>=0)=true:=decide_eq_true (by omega)
  have em:Int.tmod (w:Int) 10=((w%10:Nat):Int):=rfl
  have eq':Int.tdiv (w:Int) 10=((w / 10:Nat):Int):=rfl
  have w1:IntKind.wrap .i64 (48+((w%10:Nat):Int))=((48+w%10:Nat):Int):=by rw [wrap_i64 _ (by omega) (by omega)];omega
  have w2:IntKind.wrap .u8 ((48+w%10:Nat):Int)=((48+w%10:Nat):Int):=dN _ (by omega) (by omega)
  have w3:IntKind.wrap .i64 ((w / 10:Nat):Int)=((w / 10:Nat):Int):=wrap_i64 _ (by omega) (by omega)
  have w4:IntKind.wrap .i64 ((k:Int) - 1)=(k:Int) - 1:=wrap_i64 _ (by omega) (by omega)
  have hdiv:w / 10 ^ (k+1)=w / 10 / 10 ^ k:=by rw [Nat.pow_succ,Nat.mul_comm,Nat.div_div_eq_div_mul]
  rw [qZ,rM hc,hdiv,e0]
  simp only [ah,aL,d1,cond_true,cn hc,ob,em,eq',w1,w2,w3,w4]
  by_cases hx:c=88
  ·have e1:(((c.toNat:Nat):Int) != 88)=false:=by rw [hx];rfl
   rw [e1,decide_eq_true hx]
   simp only [cond_false,Bool.true_or,Bool.true_and]
   exact ih
  ·have e1:(((c.toNat:Nat):Int) != 88)=true:=by
    simp only [bne,Bool.not_eq_true',beq_eq_false_iff_ne]
    intro e
    exact hx (UInt8.toNat_inj.1 (by show c.toNat=88;omega))
   rw [e1,decide_eq_false hx]
   simp only [cond_true,Bool.false_or]
   by_cases hm:c.toNat=48+w%10
   ·have e2:(((c.toNat:Nat):Int) != ((48+w%10:Nat):Int))=false:=by rw [hm];simp
    rw [e2,decide_eq_true hm]
    simp only [cond_false,Bool.true_and]
    exact ih
   ·have e2:(((c.toNat:Nat):Int) != ((48+w%10:Nat):Int))=true:=by
     simp only [bne,Bool.not_eq_true',beq_eq_false_iff_ne]
     omega
    rw [e2,decide_eq_false hm]
    simp only [cond_true,Bool.false_and]
    rfl
def uA (d:List UInt8) (k q:Nat):Nat:=if 0<q then 10 ^ (d.length+k - q) else 1
def memP (d:List UInt8) (x s:Int) (w:Nat):Prop:=if hasX d=true then mtk d 4 w=true/\w / 10 ^ 4=0 else val d x.toNat / uA d x.toNat s.toNat=w / uA d x.toNat s.toNat
instance (d:List UInt8) (x s:Int) (w:Nat):Decidable (memP d x s w):=by unfold memP;infer_instance
def wOf (g:Bool) (v:Int):Int:=if g then -v else v
def inP (g:Bool) (d:List UInt8) (x s v:Int):Prop:=-10000000000000000<=v/\v<=10000000000000000/\0<=wOf g v/\¬(hasX d=true/\g=true/\wOf g v=0)/\memP d x s (wOf g v).toNat
instance (g:Bool) (d:List UInt8) (x s v:Int):Decidable (inP g d x s v):=by unfold inP;infer_instance
noncomputable def inT (n:Nat) (a0 a1:Bool) (a2:List UInt8) (a3 a4 W:Int):Option Int:=
 (ob (ak n a0 a1 a2 a3 a4) λr221=>(cond (r221==1) (ob (ah (aL n) n (W,3,a0,a1,a2,a3,a4)) λy222=>(Sum.casesOn (motive:=λ_=>Option _) y222 (λa223=>(some a223)) (λb224=>(cond (decide (b224>0)) (some 0) (some 1))))) (ob (ab n a2 a3) λr225=>(cond (decide (a4>0)) (ob (ab n [49] (IntKind.wrap .i64 ((IntKind.wrap .i64 (((List.length a2:Nat):Int)+a3)) - a4))) λr226=>(cond (r226.1==0) none (cond (r226.1==0) none (cond ((IntKind.wrap .i64 (Int.tdiv r225.1 r226.1))==(IntKind.wrap .i64 (Int.tdiv W r226.1))) (some 1) (some 0))))) (cond ((IntKind.wrap .i64 (Int.tdiv r225.1 1))==(IntKind.wrap .i64 (Int.tdiv W 1))) (some 1) (some 0))))))
theorem xj (a b:Nat):(((a:Nat):Int)==((b:Nat):Int))=decide (a=b):=by
 by_cases h:a=b
 ·subst h;simp
 ·rw [decide_eq_false h,beq_eq_false_iff_ne];omega
theorem vr {d:List UInt8} {x s:Int} {w:Nat} (hX:hasX d=true):memP d x s w↔mtk d 4 w=true/\w / 10 ^ 4=0:=by unfold memP;rw [if_pos hX]
theorem Cu {d:List UInt8} {x s:Int} {w:Nat} (hX:hasX d=false):memP d x s w↔val d x.toNat / uA d x.toNat s.toNat=w / uA d x.toNat s.toNat:=by unfold memP;rw [if_neg (by rw [hX];simp)]
theorem in_T (m:Nat) {g l:Bool} {d:List UInt8} {x s:Int} (hok:okY g l d x s) (w:Nat) (hw:w<=10000000000000000):inT (m+300) g l d x s (w:Int)=some (if memP d x s w then 1 else 0):=by
 have hsm:=fJ hok
 have hM:=jL (m+300) g l d x s (by omega) (by omega)
 unfold inT
 cases hX:hasX d with
 | true=>
  obtain ⟨rfl,rfl,rfl,hl,_⟩:=kY hok hX
  have hlp:=zI (m+300) g false d 0 0 hl 4 w (by omega) (by omega) (m+300) (by omega)
  have hlp':ah (aL (m+300)) (m+300) ((w:Int),3,g,false,d,0,0)=_:=hlp
  have z11:((1:Int)==1)=true:=rfl
  have hMt:ak (m+300) g false d 0 0=some 1:=by rw [hM,hX];rfl
  rw [hMt]
  simp only [ob,z11,cond_true,hlp']
  by_cases h1:mtk d 4 w=true
  ·rw [if_pos h1]
   by_cases h2:w / 10 ^ 4=0
   ·have e:decide (((w / 10 ^ 4:Nat):Int)>0)=false:=decide_eq_false (by rw [h2];decide)
    rw [if_pos ((vr hX).2 ⟨h1,h2⟩)]
    simp only [e,cond_false]
   ·have e:decide (((w / 10 ^ 4:Nat):Int)>0)=true:=decide_eq_true (by
     generalize w / 10 ^ 4=t at h2 ⊢
     omega)
    rw [if_neg (λq=>h2 ((vr hX).1 q).2)]
    simp only [e,cond_true]
  ·rw [if_neg h1,if_neg (λq=>h1 ((vr hX).1 q).1)]
 | false=>
  obtain ⟨k,q,rfl,rfl,hN⟩:=my hok hX
  have hw':=hN.wide
  have hs:=hN.small
  have hq:=hN.sig
  have hv:dval 0 d*10 ^ k=val d k:=rfl
  have hm:=fW (m+300) d k hN.dig (by omega) (by omega) (by omega)
  rw [if_pos hs,hv] at hm
  rw [hv] at hs
  unfold E16 at hs
  have z01:((0:Int)==1)=false:=rfl
  have hMt:ak (m+300) g l d k q=some 0:=by rw [hM,hX];rfl
  have hmp:=Cu (x:=(k:Int)) (s:=(q:Int)) (w:=w) hX
  rw [Int.toNat_natCast,Int.toNat_natCast] at hmp
  unfold uA at hmp
  rw [hMt]
  simp only [ob,z01,cond_false,hm]
  by_cases h0:0<q
  ·have e0:decide ((q:Int)>0)=true:=decide_eq_true (by omega)
   have w0:IntKind.wrap .i64 (IntKind.wrap .i64 (((d.length:Nat):Int)+(k:Int)) - (q:Int))=((d.length+k - q:Nat):Int):=by
    rw [wrap_i64 (((d.length:Nat):Int)+(k:Int)) (by omega) (by omega),wrap_i64 _ (by omega) (by omega)]
    omega
   have hu2:10 ^ (d.length+k - q)<=10 ^ 16:=Nat.pow_le_pow_right (by decide) (by omega)
   have h16:(10:Nat) ^ 16=10000000000000000:=by decide
   have one:dval 0 [49]=1:=by decide
   have hone:dval 0 [49]*10 ^ (d.length+k - q)<=E16:=by rw [one];unfold E16;omega
   have hm1:=fW (m+300) [49] (d.length+k - q) (by decide) (by decide) (by omega) (by simp;omega)
   rw [if_pos hone,one,Nat.one_mul] at hm1
   have hu:1<=10 ^ (d.length+k - q):=Nat.one_le_pow _ _ (by decide)
   rw [e0,w0,hm1]
   rw [if_pos h0] at hmp
   clear hone hm1
   generalize 10 ^ (d.length+k - q)=u at hu hu2 hmp ⊢
   generalize val d k=v at hs hmp ⊢
   have d2:(((u:Nat):Int)==0)=false:=beq_eq_false_iff_ne.2 (by omega)
   have hdiv:Int.tdiv ((v:Nat):Int) ((u:Nat):Int)=((v / u:Nat):Int):=rfl
   have hdiw:Int.tdiv ((w:Nat):Int) ((u:Nat):Int)=((w / u:Nat):Int):=rfl
   have l1:v / u<=v:=Nat.div_le_self v u
   have l2:w / u<=w:=Nat.div_le_self w u
   simp only [cond_true,d2,cond_false,hdiv,hdiw]
   generalize v / u=a at l1 hmp ⊢
   generalize w / u=b at l2 hmp ⊢
   rw [wrap_i64 _ (by omega) (by omega),wrap_i64 _ (by omega) (by omega),xj]
   by_cases hab:a=b
   ·rw [decide_eq_true hab,if_pos (hmp.2 hab)];rfl
   ·rw [decide_eq_false hab,if_neg (λq=>hab (hmp.1 q))];rfl
  ·have e0:decide ((q:Int)>0)=false:=decide_eq_false (by omega)
   have t1:∀a:Nat,Int.tdiv ((a:Nat):Int) 1=((a:Nat):Int):=λa=>by
    have:Int.tdiv ((a:Nat):Int) 1=((a / 1:Nat):Int):=rfl
    rw [this,Nat.div_one]
   rw [if_neg h0,Nat.div_one,Nat.div_one] at hmp
   rw [e0]
   simp only [cond_false,t1]
   rw [wrap_i64 _ (by omega) (by omega),wrap_i64 _ (by omega) (by omega),xj]
   by_cases hab:val d k=w
   ·rw [decide_eq_true hab,if_pos (hmp.2 hab)];rfl
   ·rw [decide_eq_false hab,if_neg (λq=>hab (hmp.1 q))];rfl
theorem E1 (m:Nat) {g l:Bool} {d:List UInt8} {x s:Int} (hok:okY g l d x s) (v:Int):iz (m+300) g l d x s v=some (if inP g d x s v then 1 else 0):=by
 have hsm:=fJ hok
 have hT:=λw hw=>in_T m hok w hw
 have hM:=jL (m+300) g l d x s (by omega) (by omega)
 unfold inT at hT
 unfold iz
 by_cases h1:v < -10000000000000000
 ·rw [decide_eq_true h1,if_neg (λq=>by have:=q.1;omega)];rfl
 ·rw [decide_eq_false h1,cond_false]
  by_cases h2:v>10000000000000000
  ·rw [decide_eq_true h2,if_neg (λq=>by have:=q.2.1;omega)];rfl
  ·rw [decide_eq_false h2,cond_false]
   cases g with
   | true=>
    have w0:IntKind.wrap .i64 (0 - v)=-v:=by rw [wrap_i64 _ (by omega) (by omega)];omega
    simp only [cond_true,w0]
    by_cases h3:-v<0
    ·rw [decide_eq_true h3,if_neg (λq=>by have:=q.2.2.1;unfold wOf at this;simp only [if_true] at this;omega)];rfl
    ·rw [decide_eq_false h3,cond_false]
     obtain ⟨w,hw⟩:∃w:Nat,-v=(w:Int):=⟨(-v).toNat,by omega⟩
     have hT:=hT w (by omega)
     have hwo:wOf true v=(w:Int):=by unfold wOf;simpa using hw
     have hin:¬(hasX d=true/\w=0)->(inP true d x s v↔memP d x s w):=by
      intro hz
      unfold inP
      rw [hwo,Int.toNat_natCast]
      constructor
      ·exact λq=>q.2.2.2.2
      ·exact λq=>⟨by omega,by omega,by omega,λq=>hz ⟨q.1,by omega⟩,q⟩
     rw [hw]
     cases hX:hasX d with
     | true=>
      have hMt:ak (m+300) true l d x s=some 1:=by rw [hM,hX];rfl
      rw [hMt]
      have z11:((1:Int)==1)=true:=rfl
      simp only [ob,z11,cond_true]
      by_cases hz:w=0
      ·have e:(((w:Nat):Int)==0)=true:=beq_iff_eq.2 (by omega)
       rw [e,if_neg (λq=>q.2.2.2.1 ⟨hX,rfl,by rw [hwo];omega⟩)];rfl
      ·have e:(((w:Nat):Int)==0)=false:=beq_eq_false_iff_ne.2 (by omega)
       rw [hMt] at hT
       simp only [ob,z11,cond_true] at hT
       rw [e,cond_false,hT]
       have:=hin (λq=>hz q.2)
       by_cases hp:memP d x s w
       ·rw [if_pos hp,if_pos (this.2 hp)]
       ·rw [if_neg hp,if_neg (λq=>hp (this.1 q))]
     | false=>
      have hMt:ak (m+300) true l d x s=some 0:=by rw [hM,hX];rfl
      have z01:((0:Int)==1)=false:=rfl
      rw [hMt] at hT ⊢
      simp only [ob,z01,cond_false] at hT ⊢
      rw [hT]
      have:=hin (λq=>by rw [hX] at q;cases q.1)
      by_cases hp:memP d x s w
      ·rw [if_pos hp,if_pos (this.2 hp)]
      ·rw [if_neg hp,if_neg (λq=>hp (this.1 q))]
   | false=>
    simp only [cond_false]
    by_cases h3:v<0
    ·rw [decide_eq_true h3,if_neg (λq=>by have:=q.2.2.1;unfold wOf at this;simp only [Bool.false_eq_true,if_false] at this;omega)];rfl
    ·rw [decide_eq_false h3,cond_false]
     obtain ⟨w,rfl⟩:∃w:Nat,v=(w:Int):=⟨v.toNat,by omega⟩
     have hT:=hT w (by omega)
     have hwo:wOf false (w:Int)=(w:Int):=rfl
     have hin:inP false d x s (w:Int)↔memP d x s w:=by
      unfold inP
      rw [hwo,Int.toNat_natCast]
      constructor
      ·exact λq=>q.2.2.2.2
      ·exact λq=>⟨by omega,by omega,by omega,λq=>(by cases q.2.1),q⟩
     cases hX:hasX d with
     | true=>
      have hMt:ak (m+300) false l d x s=some 1:=by rw [hM,hX];rfl
      rw [hMt] at hT ⊢
      have z11:((1:Int)==1)=true:=rfl
      simp only [ob,z11,cond_true] at hT ⊢
      rw [hT]
      by_cases hp:memP d x s w
      ·rw [if_pos hp,if_pos (hin.2 hp)]
      ·rw [if_neg hp,if_neg (λq=>hp (hin.1 q))]
     | false=>
      have hMt:ak (m+300) false l d x s=some 0:=by rw [hM,hX];rfl
      rw [hMt] at hT ⊢
      have z01:((0:Int)==1)=false:=rfl
      simp only [ob,z01,cond_false] at hT ⊢
      rw [hT]
      by_cases hp:memP d x s w
      ·rw [if_pos hp,if_pos (hin.2 hp)]
      ·rw [if_neg hp,if_neg (λq=>hp (hin.1 q))]
def loK (d:List UInt8) (k:Nat):Nat:=dval 0 ((cv 48 d).take k)
def hiK (d:List UInt8) (k:Nat):Nat:=dval 0 ((cv 57 d).take k)
theorem oV (z:UInt8) {d:List UInt8} {k:Nat} {c:UInt8} (h:d[k]?=some c):dval 0 ((cv z d).take (k+1))=dval 0 ((cv z d).take k)*10+((if c=88 then z else c).toNat - 48):=by
 rw [DC (o7 h),vZ]
theorem tB (d:List UInt8) (hl:d.length=4) (hd:∀c∈d,az c=true\/c=88):∀(k w:Nat),k<=4->w<10 ^ k->mtk d k w=true->loK d k<=w/\w<=hiK d k
 | 0,w,hk,hw,hm=>by
  simp at hw
  subst hw
  simp [loK,hiK,kl]
 | k+1,w,hk,hw,hm=>by
  obtain ⟨c,hc⟩:∃c,d[k]?=some c:=⟨d[k],List.getElem?_eq_getElem (by omega)⟩
  rw [qZ,rM hc,Bool.and_eq_true,Bool.or_eq_true,decide_eq_true_eq,decide_eq_true_eq] at hm
  have hp:(10:Nat) ^ (k+1)=10 ^ k*10:=Nat.pow_succ 10 k
  have ih:=tB d hl hd k (w / 10) (by omega) (by omega) hm.2
  have h1:=oV 48 hc
  have h2:=oV 57 hc
  unfold loK hiK at ih ⊢
  rw [h1,h2]
  by_cases hx:c=88
  ·rw [if_pos hx,if_pos hx]
   have e1:(48:UInt8).toNat - 48=0:=rfl
   have e2:(57:UInt8).toNat - 48=9:=rfl
   rw [e1,e2]
   omega
  ·rw [if_neg hx,if_neg hx]
   have:=hm.1.resolve_left hx
   omega
theorem rG (z:UInt8) (hz:az z=true) (d:List UInt8) (hl:d.length=4) (hd:∀c∈d,az c=true\/c=88):∀k,k<=4->mtk d k (dval 0 ((cv z d).take k))=true
 | 0,_=>rfl
 | k+1,hk=>by
  obtain ⟨c,hc⟩:∃c,d[k]?=some c:=⟨d[k],List.getElem?_eq_getElem (by omega)⟩
  have ih:=rG z hz d hl hd k (by omega)
  have hdg:az (if c=88 then z else c)=true:=by
   by_cases hx:c=88
   ·rw [if_pos hx];exact hz
   ·rw [if_neg hx];exact (hd c (List.mem_of_getElem? hc)).resolve_right hx
  have hr:=(aQ _).1 hdg
  rw [qZ,rM hc,oV z hc]
  generalize hb:(if c=88 then z else c)=b at hr ⊢
  generalize dval 0 ((cv z d).take k)=a at ih ⊢
  have e1:(a*10+(b.toNat - 48)) / 10=a:=by omega
  have e2:(a*10+(b.toNat - 48))%10=b.toNat - 48:=by omega
  rw [e1,e2,ih,Bool.and_true]
  by_cases hx:c=88
  ·rw [decide_eq_true hx];rfl
  ·rw [if_neg hx] at hb
   rw [hb,decide_eq_true (show b.toNat=48+(b.toNat - 48) by omega),Bool.or_true]
def qJ:List (List UInt8):=[[48,48,48,88],[48,48,88,48],[48,48,88,88],[48,88,48,48],[48,88,48,88],[48,88,88,48],[48,88,88,88],[88,48,48,48],[88,48,48,88],[88,48,88,48],[88,48,88,88],[88,88,48,48],[88,88,48,88],[88,88,88,48],[88,88,88,88]]
theorem F9:qJ.all (λd=>mtk d 4 (mG d)&&decide (1<=mG d)&&decide (mG d<=1000)&&(List.range 1000).all (λw=>decide (w=0)||!mtk d 4 w||decide (mG d<=w)))=true:=by decide +kernel
theorem tn {d:List UInt8} (hd:d∈qJ):mtk d 4 (mG d)=true/\1<=mG d/\mG d<=1000/\∀w,1<=w->mtk d 4 w=true->mG d<=w:=by
 have h:=List.all_eq_true.1 F9 d hd
 simp only [Bool.and_eq_true,decide_eq_true_eq,List.all_eq_true,List.mem_range,Bool.or_eq_true,Bool.not_eq_true'] at h
 obtain ⟨⟨⟨h1,h2⟩,h3⟩,h4⟩:=h
 refine ⟨h1,h2,h3,λw hw hm=>?_⟩
 rcases Nat.lt_or_ge w 1000 with hlt | hge
 ·rcases h4 w hlt with (h | h) | h
  ·omega
  ·rw [hm] at h;cases h
  ·exact h
 ·omega
theorem sQ {d:List UInt8} (hl:d.length=4) (hd:∀c∈d,az c=true\/c=88) (hX:hasX d=true) (hz:dval 0 (cv 48 d)=0):d∈qJ:=
 qp hl (tD hl hd hz) hX (λd=>d∈qJ) (by decide) (by decide) (by decide) (by decide) (by decide) (by decide) (by decide) (by decide) (by decide) (by decide) (by decide) (by decide) (by decide) (by decide) (by decide)
theorem DL {d:List UInt8} (hl:d.length=4):loK d 4=dval 0 (cv 48 d):=by
 unfold loK;rw [List.take_of_length_le (by rw [eF];omega)]
theorem Eh {d:List UInt8} (hl:d.length=4):hiK d 4=dval 0 (cv 57 d):=by
 unfold hiK;rw [List.take_of_length_le (by rw [eF];omega)]
theorem AJ {g:Bool} {d:List UInt8} (hl:d.length=4) (hd:∀c∈d,az c=true\/c=88) (hX:hasX d=true):
  (gn g d).1<10000/\(gn g d).2<10000/\mtk d 4 (gn g d).1=true/\mtk d 4 (gn g d).2=true/\1<=(gn g d).2/\(g=true->1<=(gn g d).1)/\∀w,w<10000->mtk d 4 w=true->(g=true->1<=w)->(gn g d).1<=w/\w<=(gn g d).2:=by
 have h4:(10:Nat) ^ 4=10000:=by decide
 have d48:=kQ (z:=48) (by decide) hd
 have d57:=kQ (z:=57) (by decide) hd
 have b1:=kN (cv 48 d) 0 0 d48 (by simp)
 have b2:=kN (cv 57 d) 0 0 d57 (by simp)
 rw [eF,hl,Nat.add_zero,h4] at b1 b2
 have m1:=rG 48 (by decide) d hl hd 4 (by omega)
 have m2:=rG 57 (by decide) d hl hd 4 (by omega)
 rw [List.take_of_length_le (by rw [eF];omega)] at m1 m2
 have hr:∀w,w<10000->mtk d 4 w=true->dval 0 (cv 48 d)<=w/\w<=dval 0 (cv 57 d):=λw hw hm=>by
  have:=tB d hl hd 4 w (by omega) (by omega) hm
  rw [DL hl,Eh hl] at this
  exact this
 have hhi:1<=dval 0 (cv 57 d):=by
  rcases Nat.eq_zero_or_pos (dval 0 (cv 57 d)) with h0 | h0
  ·exfalso
   have hz:dval 0 (cv 48 d)=0:=by
    have:=(hr _ b1 m1).2
    omega
   have h15:=sQ hl hd hX hz
   have hlow:=tn h15
   have:=(hr _ (by omega) hlow.1).2
   omega
  ·exact h0
 unfold gn
 by_cases hz:g=true/\dval 0 (cv 48 d)=0
 ·rw [if_pos hz]
  have hlow:=tn (sQ hl hd hX hz.2)
  refine ⟨by simp only;omega,b2,hlow.1,m2,hhi,λ_=>hlow.2.1,λw hw hm hg=>⟨hlow.2.2.2 w (hg hz.1) hm,(hr w hw hm).2⟩⟩
 ·rw [if_neg hz]
  refine ⟨b1,b2,m1,m2,hhi,λhg=>?_,λw hw hm hg=>hr w hw hm⟩
  simp only
  rcases Nat.eq_zero_or_pos (dval 0 (cv 48 d)) with h0 | h0
  ·exact absurd ⟨hg,h0⟩ hz
  ·exact h0
theorem Bn {g l:Bool} {d:List UInt8} {x s:Int} (hok:okY g l d x s):(jc g d x s).1<=10000000000000000/\(jc g d x s).2<=10000000000000000/\memP d x s (jc g d x s).1/\memP d x s (jc g d x s).2/\(hasX d=true->1<=(jc g d x s).2/\(g=true->1<=(jc g d x s).1))/\
  ∀w,w<=10000000000000000->memP d x s w->(hasX d=true->g=true->1<=w)->(jc g d x s).1<=w/\w<=(jc g d x s).2:=by
 unfold jc memP
 cases hX:hasX d with
 | true=>
  obtain ⟨rfl,rfl,rfl,hl,hd⟩:=kY hok hX
  obtain ⟨p1,p2,p3,p4,p5,p6,p7⟩:=AJ (g:=g) hl hd hX
  have h4:(10:Nat) ^ 4=10000:=by decide
  simp only [if_true,h4]
  refine ⟨by omega,by omega,⟨p3,Nat.div_eq_of_lt p1⟩,⟨p4,Nat.div_eq_of_lt p2⟩,λ_=>⟨p5,p6⟩,λw hw hm hg=>p7 w (by omega) hm.1 (hg trivial)⟩
 | false=>
  obtain ⟨k,q,rfl,rfl,hN⟩:=my hok hX
  have hs:=hN.small
  have hv:dval 0 d*10 ^ k=val d k:=rfl
  rw [hv] at hs
  obtain ⟨s1,s2,s3⟩:=D7 hN
  unfold E16 at s3
  simp only [Bool.false_eq_true,if_false,Int.toNat_natCast]
  unfold uA
  unfold rY at s1 s2 s3 ⊢
  by_cases h0:0<q
  ·rw [if_pos h0] at s1 s2 s3 ⊢
   rw [if_pos h0]
   have hu:1<=10 ^ (d.length+k - q):=Nat.one_le_pow _ _ (by decide)
   generalize 10 ^ (d.length+k - q)=u at *
   generalize val d k=v at *
   simp only at s1 s2 s3 ⊢
   have hmul:v / u*u / u=v / u:=Nat.mul_div_cancel _ hu
   have hlt:∀w,v / u*u<=w->w<v / u*u+u->w / u=v / u:=by
    intro w h1 h2
    apply Nat.div_eq_of_lt_le
    ·exact h1
    ·rw [Nat.succ_mul];exact h2
   have hback:∀w,v / u=w / u->v / u*u<=w/\w<v / u*u+u:=by
    intro w h
    rw [h]
    have h1:=Nat.div_mul_le_self w u
    have h2:=Nat.div_add_mod w u
    have h3:=Nat.mod_lt w hu
    rw [Nat.mul_comm] at h2
    omega
   have hmin:min (v / u*u+u - 1) E16<=v / u*u+u - 1:=Nat.min_le_left _ _
   have hself:=hback v rfl
   refine ⟨by omega,s3,hmul.symm,(hlt _ (by omega) (by omega)).symm,λq=>(by cases q),λw hw hm _=>?_⟩
   obtain ⟨c1,c2⟩:=hback w hm
   refine ⟨c1,?_⟩
   rw [Nat.le_min]
   unfold E16
   omega
  ·rw [if_neg h0] at s1 s2 s3 ⊢
   rw [if_neg h0]
   simp only [Nat.div_one] at s1 s2 s3 ⊢
   refine ⟨s3,s3,trivial,trivial,λq=>(by cases q),λw hw hm _=>by omega⟩
theorem zJ {g l:Bool} {d:List UInt8} {x s:Int} (hok:okY g l d x s):inP g d x s (sgn g (jc g d x s)).1/\inP g d x s (sgn g (jc g d x s)).2/\∀v,inP g d x s v->(sgn g (jc g d x s)).1<=v/\v<=(sgn g (jc g d x s)).2:=by
 obtain ⟨p1,p2,p3,p4,p5,p6⟩:=Bn hok
 generalize jc g d x s=sp at *
 obtain ⟨lo,hi⟩:=sp
 simp only at p1 p2 p3 p4 p5 p6
 cases g with
 | true=>
  have hw:∀a:Nat,wOf true (-(a:Int))=(a:Int):=λa=>by unfold wOf;simp
  have mk:∀a:Nat,a<=10000000000000000->memP d x s a->(hasX d=true->1<=a)->inP true d x s (-(a:Int)):=by
   intro a h1 h2 h3
   refine ⟨by omega,by omega,by rw [hw];omega,λq=>?_,by rw [hw,Int.toNat_natCast];exact h2⟩
   have:=h3 q.1
   have h4:=q.2.2
   rw [hw] at h4
   omega
  simp only [sgn,if_true]
  refine ⟨mk hi p2 p4 (λh=>(p5 h).1),mk lo p1 p3 (λh=>(p5 h).2 rfl),λv hv=>?_⟩
  obtain ⟨v1,v2,v3,v4,v5⟩:=hv
  have hwv:wOf true v=-v:=rfl
  rw [hwv] at v3 v4 v5
  have:=p6 (-v).toNat (by omega) v5 (λhx _=>by
   have:¬-v=0:=λe=>v4 ⟨hx,rfl,e⟩
   omega)
  omega
 | false=>
  have hw:∀a:Int,wOf false a=a:=λa=>rfl
  have mk:∀a:Nat,a<=10000000000000000->memP d x s a->inP false d x s (a:Int):=by
   intro a h1 h2
   exact ⟨by omega,by omega,by rw [hw];omega,λq=>(by cases q.2.1),by rw [hw,Int.toNat_natCast];exact h2⟩
  simp only [sgn,Bool.false_eq_true,if_false]
  refine ⟨mk lo p1 p3,mk hi p2 p4,λv hv=>?_⟩
  obtain ⟨v1,v2,v3,v4,v5⟩:=hv
  rw [hw] at v3 v5
  have:=p6 v.toNat (by omega) v5 (λ_ q=>by cases q)
  omega
end Go.Sh
namespace Go.Sh.Mk
open Go.Abs
def okB (c:UInt8):Bool:=c.toNat==88||(decide (48<=c.toNat)&&decide (c.toNat<=57))
def chk (s:List UInt8):Int:=if 18<s.length then 3 else if s.all okB then (if s=[] then 5 else 0) else 5
theorem nM (n:Nat) (s0 s:List UInt8) (hn:s.length+1<n):
  ah (eg n) n (s0,s,0)=some (if s.all okB then .inr s0 else .inl 5):=by
 have:=dt (step:=eg n) (λx=>x.1=s0/\x.2.1=s/\x.2.2<=s.length) (λx=>s.length - x.2.2)
  (λx=>if (s.drop x.2.2).all okB then .inr s0 else .inl 5) ?_ n (s0,s,0) ⟨rfl,rfl,Nat.zero_le _⟩ (by simp;omega)
 ·simpa using this
 rintro ⟨a,b,i⟩ ⟨rfl,rfl,hi⟩
 simp only at hi ⊢
 rcases Nat.lt_or_ge i b.length with hlt | hge
 ·obtain ⟨c,hc⟩:∃c,b[i]?=some c:=⟨b[i],List.getElem?_eq_getElem hlt⟩
  have hb:Nat.blt i b.length=true:=Nat.ble_eq_true_of_le hlt
  rw [aY hc,List.all_cons]
  simp only [eg,hb,cond_true]
  by_cases h128:c.toNat<128
  ·rw [uh hc h128]
   by_cases h88:c.toNat=88
   ·refine .inl ⟨(a,b,i+1),by simp [h88],⟨rfl,rfl,by simp only;omega⟩,by simp only;omega,?_⟩
    simp [okB,h88]
   ·by_cases h48:c.toNat<48
    ·refine .inr ?_
     have e1:(((c.toNat:Nat):Int) != 88)=true:=by simp;omega
     have e2:(decide (((c.toNat:Nat):Int)<48))=true:=by simp;omega
     have e3:okB c=false:=by simp [okB];omega
     simp [e1,e2,e3]
    ·by_cases h57:57<c.toNat
     ·refine .inr ?_
      have e1:(((c.toNat:Nat):Int) != 88)=true:=by simp;omega
      have e2:(decide (((c.toNat:Nat):Int)<48))=false:=by simp;omega
      have e4:(decide (((c.toNat:Nat):Int)>57))=true:=by simp;omega
      have e3:okB c=false:=by simp [okB];omega
      simp [e1,e2,e3,e4]
     ·have e1:(((c.toNat:Nat):Int) != 88)=true:=by simp;omega
      have e2:(decide (((c.toNat:Nat):Int)<48))=false:=by simp;omega
      have e4:(decide (((c.toNat:Nat):Int)>57))=false:=by simp;omega
      have e3:okB c=true:=by simp [okB];omega
      refine .inl ⟨(a,b,i+1),by simp only [e1,e2,e4,cond_true,cond_false],⟨rfl,rfl,by simp only;omega⟩,by simp only;omega,?_⟩
      simp [e3]
  ·obtain ⟨h1,h2⟩:=v8 hc (by omega)
   refine .inr ?_
   have e1:((((dec b i).1:Nat):Int) != 88)=true:=by simp;omega
   have e2:(decide ((((dec b i).1:Nat):Int)<48))=false:=by simp;omega
   have e4:(decide ((((dec b i).1:Nat):Int)>57))=true:=by simp;omega
   have e3:okB c=false:=by simp [okB];omega
   simp [e1,e2,e3,e4]
 ·have hb:Nat.blt i b.length=false:=by
   cases h:Nat.blt i b.length with
   | false=>rfl
   | true=>have:i<b.length:=Nat.le_of_ble_eq_true h;omega
  refine .inr ?_
  simp only [eg,hb,cond_false]
  rw [List.drop_eq_nil_of_le hge]
  rfl
theorem gW (n:Nat) (s:List UInt8) (hn:30<=n):fQ n s=some (chk s):=by
 unfold fQ chk
 by_cases h:18<s.length
 ·have:(decide (((List.length s:Nat):Int)>18))=true:=by simp;omega
  simp [this,h]
 ·have e:(decide (((List.length s:Nat):Int)>18))=false:=by simp;omega
  simp only [e,cond_false,h,if_false]
  rw [nM n s s (by omega)]
  by_cases ha:s.all okB=true
  ·simp only [ha,if_true,ob]
   by_cases hs:s=[]
   ·simp [hs]
   ·have:(s==([]:List UInt8))=false:=by simpa using hs
    simp [this,hs]
  ·simp [ha,ob]
theorem iU {s:List UInt8} (h:chk s=0):s.length<=18/\s≠[]/\∀c∈s,okB c=true:=by
 unfold chk at h
 split at h
 ·simp at h
 ·split at h
  ·rename_i ha
   split at h
   ·simp at h
   ·rename_i hs
    exact ⟨by omega,hs,by simpa using ha⟩
  ·simp at h
def nums (l:List UInt8):List Int:=l.map λb=>((b.toNat:Nat):Int)
def over (d:List Int) (i:Nat) (l:List Int):List Int:=d.take i++(l++d.drop (i+l.length))
theorem rc (d:List Int) (i:Nat) (x:Int) (l:List Int) (h:i<d.length):over (d.set i x) (i+1) l=over d i (x::l):=by
 unfold over
 rw [show (d.set i x).take (i+1)=d.take i++[x] from by
  rw [List.take_succ_eq_append_getElem (by simpa using h)]
  simp [List.take_set_of_le]]
 rw [List.drop_set_of_lt (by omega)]
 simp [Nat.add_assoc,Nat.add_comm 1]
theorem vB (d:List Int) (i:Nat):over d i []=d:=by simp [over]
theorem BL (d:List Int) (i:Nat) (l:List Int) (h:i+l.length<=d.length):(over d i l).length=d.length:=by
 unfold over;simp;omega
theorem Ah {x y:UInt8}:(((x.toNat:Nat):Int)==((y.toNat:Nat):Int))=decide (x=y):=by
 by_cases h:x=y
 ·simp [h]
 ·have:x.toNat≠y.toNat:=λe=>h (UInt8.toNat_inj.1 e)
  simp [h];omega
theorem qW {x:UInt8}:(((x.toNat:Nat):Int)==88)=decide (x=88):=by
 have:=Ah (x:=x) (y:=88)
 simpa using this
def dg:Nat->Int->List Int
 | 0,_=>[]
 | L+1,k=>dg L (k / 10)++[48+k%10]
theorem pI:∀(L:Nat) (k:Int),(dg L k).length=L
 | 0,_=>rfl
 | L+1,k=>by simp [dg,pI L]
theorem me:∀(L:Nat) (k:Int),∀x∈dg L k,48<=x/\x<58
 | 0,_,x,h=>by simp [dg] at h
 | L+1,k,x,h=>by
  simp only [dg,List.mem_append,List.mem_singleton] at h
  rcases h with h | rfl
  ·exact me L _ x h
  ·omega
def eX:List UInt8->List Int->Bool
 | c::m,d::l=>(c==88||decide (((c.toNat:Nat):Int)=d))&&eX m l
 | _,_=>true
theorem nE:∀{a c:List UInt8} {b d:List Int},a.length=b.length->eX (a++c) (b++d)=(eX a b&&eX c d)
 | [],c,[],d,_=>by simp [eX]
 | x::a,c,y::b,d,h=>by
  simp only [List.length_cons,Nat.add_right_cancel_iff] at h
  simp only [List.cons_append,eX,nE h,Bool.and_assoc]
def hasM (m:List UInt8) (k:Int):Bool:=decide (0<=k)&&(decide (k<10 ^ m.length)&&eX m (dg m.length k))
theorem A6 (L:Nat) (h:L<=18):ka 20000000 ((L:Nat):Int)=some (10 ^ L):=by
 have hk:allN (λi=>match ka 20000000 ((i:Nat):Int) with | some r=>decide (r=10 ^ i) | none=>false) 19=true:=by kernel_rfl
 have:=ut hk L (by omega)
 split at this
 ·rename_i r hr
  rw [hr];simpa using this
 ·cases this
theorem sF (L:Nat) (h:L<=18):(10:Int) ^ L<=1000000000000000000:=by
 have hk:allN (λi=>decide ((10:Int) ^ i<=1000000000000000000)) 19=true:=by kernel_rfl
 simpa using ut hk L (by omega)
theorem FO {k:Int} (h:0<=k):Int.tmod k 10=k%10:=Int.tmod_eq_emod_of_nonneg h
theorem FU {k:Int} (h:0<=k):Int.tdiv k 10=k / 10:=Int.tdiv_eq_ediv_of_nonneg h
theorem wO (k:Int) (i:Nat) (d:List Int) (h0:0<=k) (h1:k<9223372036854775808) (hi:i<=18) (hd:d.length=18):
  ah (ei 20000000) 20000000 (k,(i:Int) - 1,d)=some (over d 0 (dg i k)):=by
 have:=dt (step:=ei 20000000) (λx=>(0<=x.1/\x.1<9223372036854775808)/\(-1<=x.2.1/\x.2.1<=17)/\x.2.2.length=18) (λx=>(x.2.1+1).toNat)
  (λx=>over x.2.2 0 (dg (x.2.1+1).toNat x.1)) ?_ 20000000 (k,(i:Int) - 1,d) ⟨⟨h0,h1⟩,⟨by simp only;omega,by simp only;omega⟩,hd⟩ (by simp only;omega)
 ·simpa using this
 rintro ⟨k,i,d⟩ ⟨⟨h0,h1⟩,⟨h2,h3⟩,hd⟩
 simp only at h0 h1 h2 h3 hd ⊢
 by_cases hi:0<=i
 ·obtain ⟨j,rfl⟩:∃j:Nat,i=j:=⟨i.toNat,by omega⟩
  have hj:j<18:=by omega
  have e1:decide ((j:Int)>=0)=true:=by simp
  have e2:Nat.blt j 18=true:=Nat.ble_eq_true_of_le hj
  have w1:IntKind.wrap .i64 ((j:Int) - 1)=(j:Int) - 1:=wrap_i64 _ (by omega) (by omega)
  have w2:IntKind.wrap .i64 (Int.tdiv k 10)=k / 10:=by rw [FU h0];exact wrap_i64 _ (by omega) (by omega)
  have w3:IntKind.wrap .u8 (IntKind.wrap .i64 (48+Int.tmod k 10))=48+k%10:=by rw [FO h0,wrap_i64 _ (by omega) (by omega),dN _ (by omega) (by omega)]
  refine .inl ⟨(k / 10,(j:Int) - 1,d.set j (48+k%10)),by simp only [ei,e1,cond_true,di hj,ob,e2,w1,w2,w3],⟨⟨by simp only;omega,by simp only;omega⟩,⟨by simp only;omega,by simp only;omega⟩,by simpa using hd⟩,by simp only;omega,?_⟩
  have s1:((j:Int) - 1+1).toNat=j:=by omega
  have s2:((j:Int)+1).toNat=j+1:=by omega
  simp only [s1,s2,over,List.take_zero,List.nil_append,pI,Nat.zero_add,dg,List.append_assoc]
  congr 1
  rw [List.drop_set,if_neg (by omega),Nat.sub_self,List.drop_eq_getElem_cons (by omega)]
  simp only [List.set_cons_zero,List.length_append,pI,List.length_cons,List.length_nil,List.cons_append,List.nil_append,Nat.zero_add]
 ·have e1:decide (i>=0)=false:=by simp;omega
  have s:(i+1).toNat=0:=by omega
  refine .inr ?_
  simp only [ei,e1,cond_false,s,dg,vB]
theorem Bz (m:List UInt8) (k:Int) (hm:m.length<=18) (h0:0<=k) (h1:k<9223372036854775808):
  gI 20000000 m k=some (over [0,0,0,0,0,0,0,0,0,0,0,0,0,0,0,0,0,0] 0 (dg m.length k)):=by
 have w:IntKind.wrap .i64 (((List.length m:Nat):Int) - 1)=(m.length:Int) - 1:=wrap_i64 _ (by omega) (by omega)
 simp only [gI,w,wO k m.length [0,0,0,0,0,0,0,0,0,0,0,0,0,0,0,0,0,0] h0 h1 hm (by rfl),ob]
theorem od {d l:List Int} {i:Nat} (h:i<l.length):(over d 0 l)[i]?=l[i]?:=by
 unfold over
 simp only [List.take_zero,List.nil_append]
 rw [List.getElem?_append_left h]
theorem qa:∀(l:List Int),(∀x∈l,0<=x/\x<256)->nums (dR l)=l
 | [],_=>rfl
 | x::l,h=>by
  have ih:=qa l λy hy=>h y (List.mem_cons_of_mem _ hy)
  obtain ⟨h0,h1⟩:=h x (by simp)
  have e:(((UInt8.ofNat x.toNat).toNat:Nat):Int)=x:=by
   rw [UInt8.toNat_ofNat',Nat.mod_eq_of_lt (by omega)];omega
  simp only [nums,dR,List.map_map] at ih ⊢
  simp only [List.map_cons,Function.comp,e]
  rw [show List.map ((λb:UInt8=>((b.toNat:Nat):Int)) ∘ λn:Int=>UInt8.ofNat n.toNat) l=l from ih]
theorem A9 (l:List UInt8):(nums l).length=l.length:=by simp [nums]
def cnt:List UInt8->Nat
 | []=>0
 | c::r=>if c=88 then cnt r+1 else cnt r
def dv (c:UInt8):Int:=((c.toNat:Nat):Int) - 48
def nth:List UInt8->Int->Int
 | [],_=>0
 | c::r,i=>if c=88 then 10*nth r (i / 10)+i%10 else 10*nth r i+dv c
def ag:List UInt8->Int->Bool
 | [],_=>true
 | c::r,k=>ag r (k / 10)&&(decide (c=88)||decide (dv c=k%10))
def idx:List UInt8->Int->Int
 | [],_=>0
 | c::r,k=>if c=88 then 10*idx r (k / 10)+k%10 else idx r (k / 10)
def okR (r:List UInt8):Prop:=∀c∈r,c=88\/(0<=dv c/\dv c<10)
theorem qk {m:List UInt8} (h:∀c∈m,okB c=true):okR m.reverse:=by
 intro c hc
 have:=h c (List.mem_reverse.1 hc)
 simp only [okB,Bool.or_eq_true,beq_iff_eq,Bool.and_eq_true,decide_eq_true_eq] at this
 rcases this with h | h
 ·exact .inl (UInt8.toNat_inj.1 (by simpa using h))
 ·exact .inr (by unfold dv;omega)
theorem lf {c:UInt8} {r:List UInt8} (h:okR (c::r)):okR r:=λx hx=>h x (List.mem_cons_of_mem _ hx)
theorem ep (n:Nat):(10:Int) ^ (n+1)=10*10 ^ n:=by rw [Int.pow_succ,Int.mul_comm]
theorem mu (n:Nat):(0:Int)<10 ^ n:=Int.pow_pos (by omega)
theorem kI:∀{r:List UInt8},okR r->∀i,0<=i->0<=nth r i/\nth r i<10 ^ r.length
 | [],_,i,_=>by simp [nth]
 | c::r,h,i,hi=>by
  simp only [nth,List.length_cons,ep]
  split
  ·have:=kI (lf h) (i / 10) (by omega)
   omega
  ·rename_i hc
   have:=kI (lf h) i hi
   have:=(h c (by simp)).resolve_left hc
   omega
theorem ze:∀{r:List UInt8},okR r->∀i,0<=i->ag r (nth r i)=true
 | [],_,_,_=>rfl
 | c::r,h,i,hi=>by
  simp only [nth,ag]
  split
  ·rename_i hc
   have e:(10*nth r (i / 10)+i%10) / 10=nth r (i / 10):=by omega
   rw [e,ze (lf h) (i / 10) (by omega)]
   simp [hc]
  ·rename_i hc
   have hd:=(h c (by simp)).resolve_left hc
   have e:(10*nth r i+dv c) / 10=nth r i:=by omega
   have e2:(10*nth r i+dv c)%10=dv c:=by omega
   rw [e,e2,ze (lf h) i hi]
   simp
theorem oC:∀(r:List UInt8) (k:Int),0<=k->0<=idx r k/\idx r k<10 ^ cnt r
 | [],k,_=>by simp [idx,cnt]
 | c::r,k,hk=>by
  have:=oC r (k / 10) (by omega)
  simp only [idx,cnt]
  split
  ·rw [ep];omega
  ·exact this
theorem zK:∀{r:List UInt8} {k:Int},0<=k->k<10 ^ r.length->ag r k=true->nth r (idx r k)=k
 | [],k,h0,h1,_=>by simp at h1;simp [nth];omega
 | c::r,k,h0,h1,ha=>by
  simp only [ag,Bool.and_eq_true,Bool.or_eq_true,decide_eq_true_eq] at ha
  rw [List.length_cons,ep] at h1
  have ih:=zK (r:=r) (k:=k / 10) (by omega) (by omega) ha.1
  simp only [nth,idx]
  split
  ·have:=oC r (k / 10) (by omega)
   have e:(10*idx r (k / 10)+k%10) / 10=idx r (k / 10):=by omega
   have e2:(10*idx r (k / 10)+k%10)%10=k%10:=by omega
   rw [e,e2,ih];omega
  ·rename_i hc
   rw [ih]
   have:=ha.2.resolve_left hc
   omega
theorem rX:∀{r:List UInt8},okR r->∀i j,0<=i->i<j->j<10 ^ cnt r->nth r i<nth r j
 | [],_,i,j,h0,h1,h2=>by simp [cnt] at h2;omega
 | c::r,h,i,j,h0,h1,h2=>by
  simp only [nth,cnt] at h2 ⊢
  split
  ·rename_i hc
   rw [if_pos hc,ep] at h2
   by_cases hq:i / 10=j / 10
   ·rw [hq];omega
   ·have:=rX (lf h) (i / 10) (j / 10) (by omega) (by omega) (by omega)
    omega
  ·rename_i hc
   rw [if_neg hc] at h2
   have:=rX (lf h) i j h0 h1 h2
   omega
theorem u0:∀(r:List UInt8),∀k,eX r.reverse (dg r.length k)=ag r k
 | [],k=>rfl
 | c::r,k=>by
  simp only [List.reverse_cons,List.length_cons,dg,ag]
  rw [nE (by rw [List.length_reverse,pI]),u0 r]
  have e1:decide (((c.toNat:Nat):Int)=48+k%10)=decide (dv c=k%10):=decide_eq_decide.2 (by unfold dv;omega)
  have e2:(c==88)=decide (c=88):=by by_cases h:c=88<;>simp [h]
  simp only [eX,Bool.and_true,e1,e2]
theorem tU (m:List UInt8) (k:Int):hasM m k=(decide (0<=k)&&(decide (k<10 ^ m.length)&&ag m.reverse k)):=by
 have:=u0 m.reverse k
 rw [List.reverse_reverse,List.length_reverse] at this
 unfold hasM
 rw [this]
theorem pu:∀(m:List UInt8),cnt m=m.count 88
 | []=>rfl
 | c::m=>by
  simp only [cnt,pu m,List.count_cons]
  by_cases h:c=88<;>simp [h]
theorem lS (m:List UInt8):cnt m.reverse=cnt m:=by rw [pu,pu,List.count_reverse]
theorem yw:∀(m:List UInt8),cnt m<=m.length
 | []=>by simp [cnt]
 | c::m=>by
  have:=yw m
  simp only [cnt,List.length_cons]
  split<;>omega
def fd (x y:Int):Int:=(if y=88 then x else y) - 48
def fval (x:Int) (l:List Int):Int:=l.foldl (λn y=>10*n+fd x y) 0
theorem rU (x:Int):∀(l:List Int) (n:Int),l.foldl (λn y=>10*n+fd x y) n=n*10 ^ l.length+fval x l
 | [],n=>by simp [fval]
 | y::l,n=>by
  have e:=rU x l (10*n+fd x y)
  have e2:=rU x l (10*0+fd x y)
  simp only [fval,List.foldl_cons,List.length_cons,ep] at e e2 ⊢
  rw [e,e2,Int.add_mul,Int.add_mul]
  have:10*n*10 ^ l.length=n*(10*10 ^ l.length):=by rw [Int.mul_comm 10 n,Int.mul_assoc]
  omega
theorem pz (s:List UInt8) (x:Int) (h18:s.length<=18) (hs:∀c∈s,0<=fd x ((c.toNat:Nat):Int)/\fd x ((c.toNat:Nat):Int)<10):hZ 20000000 s x=some (fval x (nums s)):=by
 have hs':∀y∈nums s,0<=fd x y/\fd x y<10:=by
  intro y hy
  obtain ⟨c,hc,rfl⟩:=List.mem_map.1 hy
  exact hs c hc
 have hl:(nums s).length=s.length:=A9 s
 have:=dt (step:=dH 20000000)
  (λst=>st.1=x/\st.2.2.1=((s.length:Nat):Int)/\st.2.2.2.2=nums s/\(0<=st.2.2.2.1/\st.2.2.2.1<=s.length)/\0<=st.2.1/\st.2.1<10 ^ st.2.2.2.1.toNat) (λst=>s.length - st.2.2.2.1.toNat)
  (λst=>((nums s).drop st.2.2.2.1.toNat).foldl (λn y=>10*n+fd x y) st.2.1) ?_ 20000000 (x,0,((s.length:Nat):Int),0,nums s) ⟨rfl,rfl,rfl,⟨by simp,by simp⟩,by simp,by simp⟩ (by simp;omega)
 ·show (ob (ah (dH 20000000) 20000000 (x,0,((List.length (nums s):Nat):Int),0,nums s)) λy30=>some y30)=_
  rw [hl,this]
  rfl
 rintro ⟨x',n,len,i,l⟩ ⟨q1,q2,q3,⟨h0,hi⟩,n0,n1⟩
 simp only at q1 q2 q3 h0 hi n0 n1 ⊢
 subst q1 q2 q3
 obtain ⟨j,rfl⟩:∃j:Nat,i=j:=⟨i.toNat,by omega⟩
 simp only [Int.toNat_natCast] at n1 ⊢
 rcases Nat.lt_or_ge j s.length with hlt | hge
 ·obtain ⟨y,hy⟩:∃c,(nums s)[j]?=some c:=⟨(nums s)[j]'(by omega),List.getElem?_eq_getElem (by omega)⟩
  obtain ⟨d0,d1⟩:=hs' y (List.mem_of_getElem? hy)
  have hb:(decide ((j:Int)<((s.length:Nat):Int)))=true:=by simp;omega
  have hw:IntKind.wrap .i64 ((j:Int)+1)=((j+1:Nat):Int):=by rw [wrap_i64 _ (by omega) (by omega)];omega
  have hb1:=sF (j+1) (by omega)
  rw [ep] at hb1
  have w1:IntKind.wrap .i64 (10*n)=10*n:=wrap_i64 _ (by omega) (by omega)
  have w2:∀z:Int,0<=z->z<10->IntKind.wrap .i64 (10*n+IntKind.wrap .i64 (IntKind.wrap .u8 z))=10*n+z:=λz z0 z1=>by
   rw [dN z (by omega) (by omega),wrap_i64 z (by omega) (by omega),wrap_i64 _ (by omega) (by omega)]
  rw [aY hy,List.foldl_cons]
  simp only [dH,hb,cond_true,di (show j<(nums s).length by omega),ob,hy,hw,w1]
  have next:0<=10*n+fd x' y/\10*n+fd x' y<10 ^ (j+1):=by rw [ep];omega
  by_cases h88:y=88
  ·have e1:(y==88)=true:=by simpa using h88
   have hd:fd x' y=x' - 48:=by simp [fd,h88]
   rw [hd] at d0 d1 next ⊢
   refine .inl ⟨(x',10*n+(x' - 48),((s.length:Nat):Int),((j+1:Nat):Int),nums s),by simp only [e1,cond_true,w2 _ d0 d1],⟨rfl,rfl,rfl,⟨by simp only;omega,by simp only;omega⟩,next.1,by simpa only [Int.toNat_natCast] using next.2⟩,by simp only [Int.toNat_natCast];omega,by simp only [Int.toNat_natCast]⟩
  ·have e1:(y==88)=false:=by simpa using h88
   have hd:fd x' y=y - 48:=by simp [fd,h88]
   rw [hd] at d0 d1 next ⊢
   refine .inl ⟨(x',10*n+(y - 48),((s.length:Nat):Int),((j+1:Nat):Int),nums s),by simp only [e1,cond_false,w2 _ d0 d1],⟨rfl,rfl,rfl,⟨by simp only;omega,by simp only;omega⟩,next.1,by simpa only [Int.toNat_natCast] using next.2⟩,by simp only [Int.toNat_natCast];omega,by simp only [Int.toNat_natCast]⟩
 ·have hb:(decide ((j:Int)<((s.length:Nat):Int)))=false:=by simp;omega
  refine .inr ?_
  simp only [dH,hb,cond_false]
  rw [List.drop_eq_nil_of_le (by omega)];rfl
theorem o6 (x:Int) (l:List Int) (y:Int):fval x (l++[y])=10*fval x l+fd x y:=by simp [fval,List.foldl_append]
theorem sv (r:List UInt8) (c:UInt8):nums ((c::r).reverse)=nums r.reverse++[((c.toNat:Nat):Int)]:=by simp [nums]
theorem tV (x:Int) (c:UInt8):fd x ((c.toNat:Nat):Int)=if c=88 then x - 48 else dv c:=by
 unfold fd dv
 by_cases h:c=88
 ·simp [h]
 ·have:¬((c.toNat:Nat):Int)=88:=λe=>h (UInt8.toNat_inj.1 (by simpa using (by omega:c.toNat=88)))
  rw [if_neg this,if_neg h]
theorem qt:∀(r:List UInt8),fval 48 (nums r.reverse)=nth r 0
 | []=>rfl
 | c::r=>by
  rw [sv,o6,qt r,tV]
  simp only [nth]
  split<;>simp
theorem mH:∀(r:List UInt8),fval 57 (nums r.reverse)=nth r (10 ^ cnt r - 1)
 | []=>rfl
 | c::r=>by
  have hp:=mu (cnt r)
  rw [sv,o6,mH r,tV]
  simp only [nth,cnt]
  split
  ·rw [ep]
   have e1:(10*(10:Int) ^ cnt r - 1) / 10=10 ^ cnt r - 1:=by omega
   have e2:(10*(10:Int) ^ cnt r - 1)%10=9:=by omega
   rw [e1,e2];omega
  ·rfl
theorem Fz {m:List UInt8} (hok:∀c∈m,okB c=true) {x:Int} (hx:48<=x/\x<58):∀c∈m,0<=fd x ((c.toNat:Nat):Int)/\fd x ((c.toNat:Nat):Int)<10:=by
 intro c hc
 rw [tV]
 have:=qk hok c (List.mem_reverse.2 hc)
 split
 ·omega
 ·rename_i h;exact this.resolve_left h
theorem AH {m:List UInt8} (hm:chk m=0):ki 20000000 m=some (nth m.reverse 0,0):=by
 obtain ⟨h18,_,hok⟩:=iU hm
 have e0:((0:Int) != 0)=false:=by simp
 have:=qt m.reverse
 rw [List.reverse_reverse] at this
 simp only [ki,gW 20000000 m (by omega),hm,ob,e0,cond_false,pz m 48 h18 (Fz hok (by omega)),this]
theorem uG {m:List UInt8} (hm:chk m=0):gZ 20000000 m=some (nth m.reverse (10 ^ cnt m - 1),0):=by
 obtain ⟨h18,_,hok⟩:=iU hm
 have e0:((0:Int) != 0)=false:=by simp
 have:=mH m.reverse
 rw [List.reverse_reverse,lS] at this
 simp only [gZ,gW 20000000 m (by omega),hm,ob,e0,cond_false,pz m 57 h18 (Fz hok (by omega)),this]
theorem Bq {m:List UInt8} {l:List Int} (z:List Int) (h18:m.length<=18) (hl:l.length=m.length) (hr:∀y∈l,48<=y/\y<58):dC 20000000 m (over z 0 l)=some (fval 0 l):=by
 have ht:List.take m.length (over z 0 l)=l:=by
  unfold over
  rw [List.take_zero,List.nil_append,List.take_append_of_le_length (by omega),List.take_of_length_le (by omega)]
 have hn:nums (dR l)=l:=qa l λy hy=>by have:=hr y hy;omega
 have hb:(dR l).length=m.length:=by simp [dR,hl]
 simp only [dC,bY h18,ob,Nat.zero_add,show Nat.ble m.length 18=true from Nat.ble_eq_true_of_le h18,cond_true,List.drop_zero,ht]
 rw [pz (dR l) 0 (by omega) ?_,hn]
 intro c hc
 have hmem:((c.toNat:Nat):Int)∈l:=by rw [<-hn];exact List.mem_map.2 ⟨c,hc,rfl⟩
 have:=hr _ hmem
 unfold fd
 rw [if_neg (by omega)];omega
theorem wa {m:List UInt8} (hm:chk m=0) {i:Int} (h0:0<=i):hasM m (nth m.reverse i)=true:=by
 obtain ⟨h18,_,hok⟩:=iU hm
 have hr:=kI (qk hok) i h0
 rw [List.length_reverse] at hr
 rw [tU,ze (qk hok) i h0,decide_eq_true hr.1,decide_eq_true hr.2]
 rfl
def vl:List Int->Int
 | []=>0
 | y::l=>(y - 48)*10 ^ l.length+vl l
def digl (l:List Int):Prop:=∀y∈l,48<=y/\y<58
theorem bN {y:Int} {l:List Int} (h:digl (y::l)):digl l:=λx hx=>h x (List.mem_cons_of_mem _ hx)
theorem oa:∀{l:List Int},digl l->0<=vl l/\vl l<10 ^ l.length
 | [],_=>by simp [vl]
 | y::l,h=>by
  have ih:=oa (bN h)
  have hy:=h y (by simp)
  have hp:=mu l.length
  simp only [vl,List.length_cons,ep]
  have a1:0<=(y - 48)*10 ^ l.length:=Int.mul_nonneg (by omega) (by omega)
  have a2:(y - 48)*10 ^ l.length<=9*10 ^ l.length:=Int.mul_le_mul_of_nonneg_right (by omega) (by omega)
  omega
theorem C9 {y z:Int} {a b:List Int} (hl:a.length=b.length) (ha:digl a) (hb:digl b) (h:y<z):vl (y::a)<vl (z::b):=by
 have h1:=oa ha
 have h2:=oa hb
 have hp:=mu a.length
 simp only [vl]
 rw [<-hl] at h2 ⊢
 have a2:(y - 48+1)*10 ^ a.length<=(z - 48)*10 ^ a.length:=Int.mul_le_mul_of_nonneg_right (by omega) (by omega)
 rw [Int.add_mul] at a2
 omega
theorem sc:∀{l:List Int},digl l->fval 0 l=vl l
 | [],_=>rfl
 | y::l,h=>by
  have hy:=h y (by simp)
  have e:fval 0 (y::l)=l.foldl (λn y=>10*n+fd 0 y) (10*0+fd 0 y):=rfl
  have e2:fd 0 y=y - 48:=by unfold fd;rw [if_neg (by omega)]
  rw [e,rU,sc (bN h),e2]
  simp only [vl,Int.mul_zero,Int.zero_add]
theorem xW {l:List Int} {y:Int} (h:digl (l++[y])):vl (l++[y])=10*vl l+(y - 48):=by
 have hy:=h y (by simp)
 have hl:digl l:=λx hx=>h x (by simp [hx])
 rw [<-sc h,<-sc hl,o6]
 unfold fd;rw [if_neg (by omega)]
theorem A8:∀(L:Nat) (k:Int),0<=k->k<10 ^ L->vl (dg L k)=k
 | 0,k,h0,h1=>by simp at h1;simp [dg,vl];omega
 | L+1,k,h0,h1=>by
  rw [ep] at h1
  have:=A8 L (k / 10) (by omega) (by omega)
  have hd:=me (L+1) k
  simp only [dg] at hd ⊢
  rw [xW hd,this];omega
theorem Gn {l:List Int} (h:digl l):dg l.length (vl l)=l:=by
 have go:∀(r:List Int),digl r.reverse->dg r.length (vl r.reverse)=r.reverse:=by
  intro r
  induction r with
  | nil=>intro _;rfl
  | cons y r ih=>
   intro h
   simp only [List.reverse_cons,List.length_cons] at h ⊢
   have hy:=h y (by simp)
   rw [xW h]
   simp only [dg]
   have e1:(10*vl r.reverse+(y - 48)) / 10=vl r.reverse:=by omega
   have e2:48+(10*vl r.reverse+(y - 48))%10=y:=by omega
   rw [e1,e2,ih λx hx=>h x (List.mem_append.2 (.inl hx))]
 have:=go l.reverse (by rw [List.reverse_reverse];exact h)
 rwa [List.reverse_reverse,List.length_reverse] at this
def fst (up:Bool):Int:=cond up 48 57
def lst (up:Bool):Int:=cond up 57 48
def stp (up:Bool) (y:Int):Int:=cond up (y+1) (y - 1)
def fil (up:Bool) (m:List UInt8):List Int:=m.map λc=>cond (decide (c=88)) (fst up) ((c.toNat:Nat):Int)
def nx (up:Bool):List UInt8->List Int->Option (List Int)
 | c::m,y::l=>
  if c=88 then
   match nx up m l with
   | some r=>some (y::r)
   | none=>if y=lst up then none else some (stp up y::fil up m)
  else if ((c.toNat:Nat):Int)=y then (nx up m l).map λr=>y::r
  else if decide (((c.toNat:Nat):Int)>y)=up then some (((c.toNat:Nat):Int)::fil up m) else none
 | _,_=>some []
def okM (m:List UInt8):Prop:=∀c∈m,okB c=true
theorem lk {c:UInt8} {m:List UInt8} (h:okM (c::m)):okM m:=λx hx=>h x (List.mem_cons_of_mem _ hx)
theorem vp {c:UInt8} (h:okB c=true) (h88:¬c=88):48<=((c.toNat:Nat):Int)/\((c.toNat:Nat):Int)<58:=by
 simp only [okB,Bool.or_eq_true,beq_iff_eq,Bool.and_eq_true,decide_eq_true_eq] at h
 have:¬c.toNat=88:=λe=>h88 (UInt8.toNat_inj.1 (by simpa using e))
 omega
theorem rP (up:Bool) (m:List UInt8):(fil up m).length=m.length:=by simp [fil]
theorem zA (up:Bool) {m:List UInt8} (h:okM m):digl (fil up m):=by
 intro y hy
 obtain ⟨c,hc,rfl⟩:=List.mem_map.1 hy
 by_cases h88:c=88
 ·simp only [decide_eq_true h88,cond_true]
  cases up<;>simp [fst]
 ·simp only [decide_eq_false h88,cond_false]
  exact vp (h c hc) h88
theorem py (up:Bool):∀(m:List UInt8),eX m (fil up m)=true
 | []=>rfl
 | c::m=>by
  have:=py up m
  simp only [fil,List.map_cons,eX] at this ⊢
  rw [this]
  by_cases h88:c=88
  ·simp [h88]
  ·simp [h88]
def cP (up:Bool) (a b:Int):Prop:=match up with | true=>a<=b | false=>b<=a
theorem qK (up:Bool):∀{m:List UInt8} {e:List Int},okM m->m.length=e.length->digl e->eX m e=true->cP up (vl (fil up m)) (vl e)
 | [],[],_,_,_,_=>by cases up<;>simp [fil,vl,cP]
 | c::m,y::e,hm,hl,he,ha=>by
  simp only [List.length_cons,Nat.add_right_cancel_iff] at hl
  simp only [eX,Bool.and_eq_true,Bool.or_eq_true,beq_iff_eq,decide_eq_true_eq] at ha
  have ih:=qK up (lk hm) hl (bN he) ha.2
  have hy:=he y (by simp)
  have hfl:=rP up m
  have h1:=zA up (lk hm)
  have same:∀z:Int,vl (z::fil up m)=(z - 48)*10 ^ m.length+vl (fil up m):=λz=>by rw [vl,hfl]
  have hcons:fil up (c::m)=(cond (decide (c=88)) (fst up) ((c.toNat:Nat):Int))::fil up m:=rfl
  rw [hcons]
  by_cases h88:c=88
  ·simp only [decide_eq_true h88,cond_true]
   by_cases hyf:y=fst up
   ·rw [<-hyf,same,vl,<-hl]
    cases up<;>simp only [cP] at ih ⊢<;>omega
   ·cases up
    ·exact Int.le_of_lt (C9 (by rw [hfl,hl]) (bN he) h1 (by simp [fst] at hyf ⊢;omega))
    ·exact Int.le_of_lt (C9 (by rw [hfl,hl]) h1 (bN he) (by simp [fst] at hyf ⊢;omega))
  ·simp only [decide_eq_false h88,cond_false]
   rw [ha.1.resolve_left h88,same,vl,<-hl]
   cases up<;>simp only [cP] at ih ⊢<;>omega
 | [],_::_,_,h,_,_=>by simp at h
 | _::_,[],_,h,_,_=>by simp at h
theorem D5 (up:Bool):∀{m:List UInt8} {l:List Int},okM m->m.length=l.length->digl l->
  match nx up m l with
  | some r=>r.length=m.length/\digl r/\eX m r=true/\cP up (vl l) (vl r)/\∀e,e.length=m.length->digl e->eX m e=true->cP up (vl l) (vl e)->cP up (vl r) (vl e)
  | none=>∀e,e.length=m.length->digl e->eX m e=true->¬cP up (vl l) (vl e)
 | [],[],_,_,_=>by
  simp only [nx]
  refine ⟨rfl,by intro y hy;simp at hy,rfl,by cases up<;>simp [cP],?_⟩
  intro e h1 _ _ _
  simp only [List.length_nil] at h1
  rw [List.eq_nil_of_length_eq_zero h1]
  cases up<;>simp [cP]
 | c::m,y::l,hm,hl,hd=>by
  simp only [List.length_cons,Nat.add_right_cancel_iff] at hl
  have ih:=D5 up (lk hm) hl (bN hd)
  have hy:=hd y (by simp)
  have hdl:=bN hd
  have hfl:=rP up m
  have hfd:=zA up (lk hm)
  have hlt:∀{z w:Int} {a b:List Int},a.length=m.length->b.length=m.length->digl a->digl b->z<w->vl (z::a)<vl (w::b):=λh1 h2 h3 h4 h5=>C9 (by rw [h1,h2]) h3 h4 h5
  have hsame:∀(z:Int) {a b:List Int},a.length=m.length->b.length=m.length->(cP up (vl (z::a)) (vl (z::b))↔cP up (vl a) (vl b)):=λz a b h1 h2=>by
   simp only [vl,h1,h2]
   cases up<;>simp only [cP]<;>omega
  have beh:∀{z w:Int} {a b:List Int},a.length=m.length->b.length=m.length->digl a->digl b->z≠w->(cP up (vl (z::a)) (vl (w::b))↔cP up z w):=λ{z w a b} h1 h2 h3 h4 h5=>by
   rcases Int.lt_trichotomy z w with h | h | h
   ·have:=hlt h1 h2 h3 h4 h
    cases up<;>simp only [cP]<;>omega
   ·exact absurd h h5
   ·have:=hlt h2 h1 h4 h3 h
    cases up<;>simp only [cP]<;>omega
  have cases_e:∀e:List Int,e.length=(c::m).length->∃w a,e=w::a/\a.length=m.length:=λe h=>by
   match e,h with
   | w::a,h=>exact ⟨w,a,rfl,by simpa using h⟩
  by_cases h88:c=88
  ·cases hn:nx up m l with
   | some r=>
    rw [hn] at ih
    obtain ⟨i1,i2,i3,i4,i5⟩:=ih
    simp only [nx,if_pos h88,hn]
    refine ⟨by simp [i1],λz hz=>?_,by simp [eX,h88,i3],(hsame y hl.symm i1).2 i4,λe e1 e2 e3 e4=>?_⟩
    ·rcases List.mem_cons.1 hz with rfl | hz
     ·exact hy
     ·exact i2 z hz
    ·obtain ⟨w,a,rfl,ha⟩:=cases_e e e1
     simp only [eX,h88,beq_self_eq_true,Bool.true_or,Bool.true_and] at e3
     by_cases hw:y=w
     ·subst hw
      exact (hsame y i1 ha).2 (i5 a ha (bN e2) e3 ((hsame y hl.symm ha).1 e4))
     ·exact (beh i1 ha i2 (bN e2) hw).2 ((beh hl.symm ha hdl (bN e2) hw).1 e4)
   | none=>
    rw [hn] at ih
    by_cases hlast:y=lst up
    ·simp only [nx,if_pos h88,hn,if_pos hlast]
     intro e e1 e2 e3 e4
     obtain ⟨w,a,rfl,ha⟩:=cases_e e e1
     simp only [eX,h88,beq_self_eq_true,Bool.true_or,Bool.true_and] at e3
     have hw9:=e2 w (by simp)
     by_cases hw:y=w
     ·subst hw
      exact ih a ha (bN e2) e3 ((hsame y hl.symm ha).1 e4)
     ·have:=(beh hl.symm ha hdl (bN e2) hw).1 e4
      cases up<;>simp only [cP,lst,cond_true,cond_false] at this hlast<;>omega
    ·simp only [nx,if_pos h88,hn,if_neg hlast]
     have hs:48<=stp up y/\stp up y<58/\y≠stp up y/\cP up y (stp up y)/\∀w,w≠y->cP up y w->cP up (stp up y) w:=by
      cases up<;>simp only [cP,lst,stp,cond_true,cond_false] at hlast ⊢<;>exact ⟨by omega,by omega,by omega,by omega,λw h1 h2=>by omega⟩
     obtain ⟨s1,s2,s3,s4,s5⟩:=hs
     refine ⟨by simp [hfl],λz hz=>?_,by simp [eX,h88,py],(beh hl.symm hfl hdl hfd s3).2 s4,λe e1 e2 e3 e4=>?_⟩
     ·rcases List.mem_cons.1 hz with rfl | hz
      ·exact ⟨s1,s2⟩
      ·exact hfd z hz
     ·obtain ⟨w,a,rfl,ha⟩:=cases_e e e1
      simp only [eX,h88,beq_self_eq_true,Bool.true_or,Bool.true_and] at e3
      by_cases hw:y=w
      ·subst hw
       exact absurd ((hsame y hl.symm ha).1 e4) (ih a ha (bN e2) e3)
      ·have h9:=s5 w (λh=>hw h.symm) ((beh hl.symm ha hdl (bN e2) hw).1 e4)
       by_cases hw2:stp up y=w
       ·rw [hw2]
        exact (hsame w hfl ha).2 (qK up (lk hm) ha.symm (bN e2) e3)
       ·exact (beh hfl ha hfd (bN e2) hw2).2 h9
  ·have hcr:=vp (hm c (by simp)) h88
   have hag:∀w a,eX (c::m) (w::a)=true->w=((c.toNat:Nat):Int)/\eX m a=true:=λw a h=>by
    simp only [eX,Bool.and_eq_true,Bool.or_eq_true,beq_iff_eq,decide_eq_true_eq] at h
    exact ⟨(h.1.resolve_left h88).symm,h.2⟩
   by_cases hcy:((c.toNat:Nat):Int)=y
   ·cases hn:nx up m l with
    | some r=>
     rw [hn] at ih
     obtain ⟨i1,i2,i3,i4,i5⟩:=ih
     simp only [nx,if_neg h88,if_pos hcy,hn,Option.map_some]
     refine ⟨by simp [i1],λz hz=>?_,by simp [eX,hcy,i3],(hsame y hl.symm i1).2 i4,λe e1 e2 e3 e4=>?_⟩
     ·rcases List.mem_cons.1 hz with rfl | hz
      ·exact hy
      ·exact i2 z hz
     ·obtain ⟨w,a,rfl,ha⟩:=cases_e e e1
      obtain ⟨rfl,e3'⟩:=hag w a e3
      rw [hcy] at e4 ⊢
      exact (hsame y i1 ha).2 (i5 a ha (bN e2) e3' ((hsame y hl.symm ha).1 e4))
    | none=>
     rw [hn] at ih
     simp only [nx,if_neg h88,if_pos hcy,hn,Option.map_none]
     intro e e1 e2 e3 e4
     obtain ⟨w,a,rfl,ha⟩:=cases_e e e1
     obtain ⟨rfl,e3'⟩:=hag w a e3
     rw [hcy] at e4
     exact ih a ha (bN e2) e3' ((hsame y hl.symm ha).1 e4)
   ·have hdir:decide (((c.toNat:Nat):Int)>y)=up↔cP up y ((c.toNat:Nat):Int):=by
     cases up
     ·simp only [decide_eq_false_iff_not,cP];omega
     ·simp only [decide_eq_true_eq,cP];omega
    by_cases hup:decide (((c.toNat:Nat):Int)>y)=up
    ·simp only [nx,if_neg h88,if_neg hcy,if_pos hup]
     refine ⟨by simp [hfl],λz hz=>?_,by simp [eX,py],(beh hl.symm hfl hdl hfd (λh=>hcy h.symm)).2 (hdir.1 hup),λe e1 e2 e3 e4=>?_⟩
     ·rcases List.mem_cons.1 hz with rfl | hz
      ·exact hcr
      ·exact hfd z hz
     ·obtain ⟨w,a,rfl,ha⟩:=cases_e e e1
      obtain ⟨rfl,e3'⟩:=hag w a e3
      exact (hsame _ hfl ha).2 (qK up (lk hm) ha.symm (bN e2) e3')
    ·simp only [nx,if_neg h88,if_neg hcy,if_neg hup]
     intro e e1 e2 e3 e4
     obtain ⟨w,a,rfl,ha⟩:=cases_e e e1
     obtain ⟨rfl,e3'⟩:=hag w a e3
     exact hup (hdir.2 ((beh hl.symm ha hdl (bN e2) (λh=>hcy h.symm)).1 e4))
 | [],_::_,_,h,_=>by simp at h
 | _::_,[],_,h,_=>by simp at h
def ap:List UInt8->List Int->Nat
 | c::m,y::l=>if c=88\/((c.toNat:Nat):Int)=y then ap m l+1 else 0
 | _,_=>0
theorem FY:∀(m:List UInt8) (l:List Int),ap m l<=m.length
 | [],_=>by simp [ap]
 | c::m,[]=>by simp [ap]
 | c::m,y::l=>by
  have:=FY m l
  simp only [ap,List.length_cons]
  split<;>omega
theorem xK:∀(m:List UInt8) (l:List Int),eX (m.take (ap m l)) (l.take (ap m l))=true
 | [],_=>by simp [ap,eX]
 | c::m,[]=>by simp [ap,eX]
 | c::m,y::l=>by
  have:=xK m l
  simp only [ap]
  split
  ·rename_i h
   simp only [List.take_succ_cons,eX,this,Bool.and_true,Bool.or_eq_true,beq_iff_eq,decide_eq_true_eq]
   exact h
  ·rfl
theorem xG:∀{m:List UInt8} {l:List Int} {c:UInt8} {y:Int},m[ap m l]?=some c->l[ap m l]?=some y->¬c=88/\¬((c.toNat:Nat):Int)=y
 | [],_,c,y,h,_=>by simp at h
 | x::m,[],c,y,_,h=>by simp at h
 | x::m,z::l,c,y,h1,h2=>by
  by_cases h:x=88\/((x.toNat:Nat):Int)=z
  ·simp only [ap,if_pos h,List.getElem?_cons_succ] at h1 h2
   exact xG h1 h2
  ·simp only [ap,if_neg h,List.getElem?_cons_zero,Option.some.injEq] at h1 h2
   subst h1 h2
   exact ⟨λe=>h (.inl e),λe=>h (.inr e)⟩
def bkn (up:Bool):List UInt8->List Int->List UInt8->Option (List Int)
 | c::m,y::d,m'=>
  match bkn up m d m' with
  | some r=>some (y::r)
  | none=>if c=88/\y≠lst up then some (stp up y::fil up (m++m')) else none
 | _,_,_=>none
theorem s8 (up:Bool):∀{m m':List UInt8} {d d':List Int},m.length=d.length->eX m d=true->
  nx up (m++m') (d++d')=match nx up m' d' with | some r=>some (d++r) | none=>bkn up m d m'
 | [],m',[],d',_,_=>by
  simp only [List.nil_append]
  cases nx up m' d'<;>rfl
 | c::m,m',y::d,d',hl,ha=>by
  simp only [List.length_cons,Nat.add_right_cancel_iff] at hl
  simp only [eX,Bool.and_eq_true,Bool.or_eq_true,beq_iff_eq,decide_eq_true_eq] at ha
  have ih:=s8 up (m':=m') (d':=d') hl ha.2
  simp only [List.cons_append,nx,ih,bkn]
  by_cases h88:c=88
  ·simp only [if_pos h88]
   cases nx up m' d' with
   | some r=>rfl
   | none=>
    cases bkn up m d m' with
    | some r=>rfl
    | none=>
     by_cases hy:y=lst up
     ·simp [hy]
     ·simp [hy,h88]
  ·simp only [if_neg h88,if_pos (ha.1.resolve_left h88)]
   cases nx up m' d' with
   | some r=>rfl
   | none=>
    cases bkn up m d m' with
    | some r=>rfl
    | none=>simp [h88]
 | [],_,_::_,_,h,_=>by simp at h
 | _::_,_,[],_,h,_=>by simp at h
theorem vC (up:Bool) (c:UInt8) (y:Int):∀{m m':List UInt8} {d:List Int},m.length=d.length->
  bkn up (m++[c]) (d++[y]) m'=if c=88/\y≠lst up then some (d++stp up y::fil up m') else bkn up m d (c::m')
 | [],m',[],_=>by simp [bkn]
 | x::m,m',z::d,hl=>by
  simp only [List.length_cons,Nat.add_right_cancel_iff] at hl
  have ih:=vC up c y (m':=m') hl
  simp only [List.cons_append,bkn,ih]
  by_cases h:c=88/\y≠lst up
  ·simp only [if_pos h]
  ·simp only [if_neg h,List.append_assoc,List.cons_append,List.nil_append]
 | [],_,_::_,h=>by simp at h
 | _::_,_,[],h=>by simp at h
def bki (up:Bool) (m:List UInt8) (l:List Int):Nat->Option Nat
 | 0=>none
 | j+1=>if m[j]?=some 88/\l[j]?≠some (lst up) then some j else bki up m l j
theorem Ck (up:Bool) (m:List UInt8) (l:List Int):∀{j a:Nat},bki up m l j=some a->a<j
 | 0,a,h=>by simp [bki] at h
 | j+1,a,h=>by
  simp only [bki] at h
  split at h
  ·simp only [Option.some.injEq] at h;omega
  ·have:=Ck up m l h;omega
theorem vJ (up:Bool) (m:List UInt8) (l:List Int) (hl:m.length=l.length):∀j,j<=m.length->
  bkn up (m.take j) (l.take j) (m.drop j)=(bki up m l j).map λa=>l.take a++stp up (l.getD a 0)::fil up (m.drop (a+1))
 | 0,_=>by simp [bkn,bki]
 | j+1,h=>by
  obtain ⟨c,hc⟩:∃c,m[j]?=some c:=⟨m[j]'(by omega),List.getElem?_eq_getElem (by omega)⟩
  obtain ⟨y,hy⟩:∃c,l[j]?=some c:=⟨l[j]'(by omega),List.getElem?_eq_getElem (by omega)⟩
  have ih:=vJ up m l hl j (by omega)
  rw [aY hc] at ih
  rw [List.take_add_one,List.take_add_one,hc,hy]
  simp only [Option.toList_some]
  rw [vC up c y (by simp;omega),ih]
  have hg:l.getD j 0=y:=by rw [List.getD_eq_getElem?_getD,hy];rfl
  simp only [bki,hc,hy,ne_eq,Option.some.injEq]
  by_cases hh:c=88/\¬y=lst up
  ·rw [if_pos hh,if_pos hh,Option.map_some,hg]
  ·rw [if_neg hh,if_neg hh]
section
variable {m:List UInt8} {l z:List Int}
theorem ib (hl:m.length=l.length) (h18:m.length<=18) (k f g:Int) (up:Bool):
  ah (cY 20000000) 20000000 (m,k,up,f,g,0,over z 0 l,over z 0 l)=some (m,k,up,f,g,((ap m l:Nat):Int),over z 0 l,over z 0 l):=by
 have:=dt (step:=cY 20000000) (λx=>x.1=m/\(0<=x.2.2.2.2.2.1/\x.2.2.2.2.2.1<=m.length)/\x.2.2.2.2.2.2.1=over z 0 l) (λx=>m.length - x.2.2.2.2.2.1.toNat)
  (λx=>(x.1,x.2.1,x.2.2.1,x.2.2.2.1,x.2.2.2.2.1,x.2.2.2.2.2.1+((ap (m.drop x.2.2.2.2.2.1.toNat) (l.drop x.2.2.2.2.2.1.toNat):Nat):Int),x.2.2.2.2.2.2.1,x.2.2.2.2.2.2.2)) ?_ 20000000 (m,k,up,f,g,0,over z 0 l,over z 0 l) ⟨rfl,⟨by simp,by simp⟩,rfl⟩ (by simp;omega)
 ·simpa using this
 rintro ⟨m',k,up,f,g,i,d,o⟩ ⟨q1,⟨h0,hi⟩,q2⟩
 simp only at q1 h0 hi q2 ⊢
 subst q1 q2
 obtain ⟨j,rfl⟩:∃j:Nat,i=j:=⟨i.toNat,by omega⟩
 simp only [Int.toNat_natCast]
 rcases Nat.lt_or_ge j m'.length with hlt | hge
 ·obtain ⟨c,hc⟩:∃c,m'[j]?=some c:=⟨m'[j],List.getElem?_eq_getElem hlt⟩
  obtain ⟨y,hy⟩:∃c,l[j]?=some c:=⟨l[j]'(by omega),List.getElem?_eq_getElem (by omega)⟩
  have hg:(over z 0 l)[j]?=some y:=by rw [od (by omega)];exact hy
  have hb:(decide ((j:Int)<((List.length m':Nat):Int)))=true:=by simp;omega
  have hw:IntKind.wrap .i64 ((j:Int)+1)=((j+1:Nat):Int):=by rw [wrap_i64 _ (by omega) (by omega)];omega
  rw [aY hc,aY hy]
  simp only [cY,hb,cond_true,cn hc,ob,qW,hw,di (show j<18 by omega),hg,ap]
  by_cases h88:c=88
  ·refine .inl ⟨(m',k,up,f,g,((j+1:Nat):Int),over z 0 l,o),by simp only [decide_eq_true h88,cond_true],⟨rfl,⟨by simp only;omega,by simp only;omega⟩,rfl⟩,by simp only [Int.toNat_natCast];omega,?_⟩
   simp only [Int.toNat_natCast,if_pos (show c=88\/((c.toNat:Nat):Int)=y from .inl h88)]
   congr 6;omega
  ·simp only [decide_eq_false h88,cond_false]
   by_cases hcy:((c.toNat:Nat):Int)=y
   ·have e:(((c.toNat:Nat):Int)==y)=true:=by simpa using hcy
    refine .inl ⟨(m',k,up,f,g,((j+1:Nat):Int),over z 0 l,o),by simp only [e,cond_true],⟨rfl,⟨by simp only;omega,by simp only;omega⟩,rfl⟩,by simp only [Int.toNat_natCast];omega,?_⟩
    simp only [Int.toNat_natCast,if_pos (show c=88\/((c.toNat:Nat):Int)=y from .inr hcy)]
    congr 6;omega
   ·have e:(((c.toNat:Nat):Int)==y)=false:=by simpa using hcy
    refine .inr ?_
    simp only [e,cond_false,if_neg (show ¬(c=88\/((c.toNat:Nat):Int)=y) from λh=>h.elim h88 hcy),Int.ofNat_zero,Int.add_zero,Int.natCast_zero]
 ·have hb:(decide ((j:Int)<((List.length m':Nat):Int)))=false:=by simp;omega
  refine .inr ?_
  simp only [cY,hb,cond_false]
  rw [List.drop_eq_nil_of_le hge]
  simp [ap]
theorem zq (hl:m.length=l.length) (h18:m.length<=18) (f:Int) (up:Bool) (o:List Int) (i:Nat) (hi:i<=m.length):
  ah (bi 20000000) 20000000 (m,up,f,lst up,(i:Int),over z 0 l,o) =
   some (match bki up m l i with | none=>.inl (0,16) | some a=>.inr (m,up,f,((a:Nat):Int),o)):=by
 have:=dt (step:=bi 20000000) (λx=>x.1=m/\x.2.2.2.1=lst up/\(0<=x.2.2.2.2.1/\x.2.2.2.2.1<=m.length)/\x.2.2.2.2.2.1=over z 0 l) (λx=>x.2.2.2.2.1.toNat)
  (λx=>match bki up m l x.2.2.2.2.1.toNat with | none=>.inl (0,16) | some a=>.inr (x.1,x.2.1,x.2.2.1,((a:Nat):Int),x.2.2.2.2.2.2)) ?_ 20000000 (m,up,f,lst up,(i:Int),over z 0 l,o) ⟨rfl,rfl,⟨by simp only;omega,by simp only;omega⟩,rfl⟩ (by simp;omega)
 ·simpa using this
 rintro ⟨m',up',f,g,i,d,o⟩ ⟨q1,q3,⟨h0,hi⟩,q2⟩
 simp only at q1 q3 h0 hi q2 ⊢
 subst q1 q2 q3
 obtain ⟨j,rfl⟩:∃j:Nat,i=j:=⟨i.toNat,by omega⟩
 simp only [Int.toNat_natCast]
 rcases j with _ | j
 ·refine .inr ?_
  have w:IntKind.wrap .i64 (((0:Nat):Int) - 1)=-1:=wrap_i64 _ (by omega) (by omega)
  simp only [bi,w,show decide ((-1:Int)<0)=true from rfl,cond_true,bki]
 ·have w:IntKind.wrap .i64 (((j+1:Nat):Int) - 1)=(j:Int):=by rw [wrap_i64 _ (by omega) (by omega)];omega
  have e0:decide ((j:Int)<0)=false:=by simp
  obtain ⟨c,hc⟩:∃c,m'[j]?=some c:=⟨m'[j]'(by omega),List.getElem?_eq_getElem (by omega)⟩
  obtain ⟨y,hy⟩:∃c,l[j]?=some c:=⟨l[j]'(by omega),List.getElem?_eq_getElem (by omega)⟩
  have hg:(over z 0 l)[j]?=some y:=by rw [od (by omega)];exact hy
  simp only [bi,w,e0,cond_false,cn hc,ob,qW,di (show j<18 by omega),hg,bki,hc,hy,Option.some.injEq,ne_eq]
  by_cases h88:c=88
  ·by_cases hy9:y=lst up
   ·have e:(y != lst up)=false:=by simpa using hy9
    refine .inl ⟨(m',up',f,lst up,(j:Int),over z 0 l,o),by simp only [decide_eq_true h88,cond_true,e,cond_false],⟨rfl,rfl,⟨by simp only;omega,by simp only;omega⟩,rfl⟩,by simp only [Int.toNat_natCast];omega,?_⟩
    simp only [Int.toNat_natCast,if_neg (show ¬(c=88/\¬y=lst up) from λh=>h.2 hy9)]
   ·have e:(y != lst up)=true:=by simpa using hy9
    refine .inr ?_
    simp only [decide_eq_true h88,cond_true,e,if_pos (show c=88/\¬y=lst up from ⟨h88,hy9⟩)]
  ·refine .inl ⟨(m',up',f,lst up,(j:Int),over z 0 l,o),by simp only [decide_eq_false h88,cond_false],⟨rfl,rfl,⟨by simp only;omega,by simp only;omega⟩,rfl⟩,by simp only [Int.toNat_natCast];omega,?_⟩
   simp only [Int.toNat_natCast,if_neg (show ¬(c=88/\¬y=lst up) from λh=>h88 h.1)]
theorem sE (h18:m.length<=18) (up:Bool) (d:List Int) (hd:d.length=18) (i:Nat) (hi:i<=m.length):
  ah (aE 20000000) 20000000 (m,fst up,(i:Int),d)=some (m,over d i (fil up (m.drop i))):=by
 have:=dt (step:=aE 20000000) (λx=>x.1=m/\x.2.1=fst up/\(0<=x.2.2.1/\x.2.2.1<=m.length)/\x.2.2.2.length=18) (λx=>m.length - x.2.2.1.toNat)
  (λx=>(m,over x.2.2.2 x.2.2.1.toNat (fil up (m.drop x.2.2.1.toNat)))) ?_ 20000000 (m,fst up,(i:Int),d) ⟨rfl,rfl,⟨by simp only;omega,by simp only;omega⟩,hd⟩ (by simp;omega)
 ·simpa using this
 rintro ⟨m',f,i,d⟩ ⟨q1,q3,⟨h0,hi⟩,hd⟩
 simp only at q1 q3 h0 hi hd ⊢
 subst q1 q3
 obtain ⟨j,rfl⟩:∃j:Nat,i=j:=⟨i.toNat,by omega⟩
 simp only [Int.toNat_natCast]
 rcases Nat.lt_or_ge j m'.length with hlt | hge
 ·obtain ⟨c,hc⟩:∃c,m'[j]?=some c:=⟨m'[j],List.getElem?_eq_getElem hlt⟩
  have hj:j<18:=by omega
  have hb:(decide ((j:Int)<((List.length m':Nat):Int)))=true:=by simp;omega
  have hw:IntKind.wrap .i64 ((j:Int)+1)=((j+1:Nat):Int):=by rw [wrap_i64 _ (by omega) (by omega)];omega
  have e2:Nat.blt j 18=true:=Nat.ble_eq_true_of_le hj
  have hcons:∀c:UInt8,fil up (c::m'.drop (j+1))=(cond (decide (c=88)) (fst up) ((c.toNat:Nat):Int))::fil up (m'.drop (j+1)):=λ_=>rfl
  rw [aY hc,hcons]
  simp only [aE,hb,cond_true,cn hc,ob,qW,di hj,e2,hw]
  by_cases h88:c=88
  ·refine .inl ⟨(m',fst up,((j+1:Nat):Int),(d.set j ((c.toNat:Nat):Int)).set j (fst up)),by simp only [decide_eq_true h88,cond_true],⟨rfl,rfl,⟨by simp only;omega,by simp only;omega⟩,by simpa using hd⟩,by simp only [Int.toNat_natCast];omega,?_⟩
   simp only [Int.toNat_natCast,decide_eq_true h88,cond_true]
   rw [List.set_set,rc _ _ _ _ (by omega)]
  ·refine .inl ⟨(m',fst up,((j+1:Nat):Int),d.set j ((c.toNat:Nat):Int)),by simp only [decide_eq_false h88,cond_false],⟨rfl,rfl,⟨by simp only;omega,by simp only;omega⟩,by simpa using hd⟩,by simp only [Int.toNat_natCast];omega,?_⟩
   simp only [Int.toNat_natCast,decide_eq_false h88,cond_false]
   rw [rc _ _ _ _ (by omega)]
 ·have hb:(decide ((j:Int)<((List.length m':Nat):Int)))=false:=by simp;omega
  refine .inr ?_
  simp only [aE,hb,cond_false]
  rw [List.drop_eq_nil_of_le hge]
  simp [fil,vB]
theorem so (z l F:List Int) (i:Nat) (h:i+F.length=l.length):over (over z 0 l) i F=over z 0 (l.take i++F):=by
 unfold over
 simp only [List.take_zero,List.nil_append,Nat.zero_add,List.length_append,List.length_take,Nat.min_eq_left (show i<=l.length by omega),h]
 rw [List.take_append_of_le_length (by omega),List.drop_append_of_le_length (by omega),List.drop_of_length_le (Nat.le_refl l.length)]
 simp
end
theorem xP {m:List UInt8} (hm:chk m=0) (up:Bool) (k:Int) (h0:0<=k) (h1:k<10 ^ m.length):
  bO 20000000 m k up=some (match nx up m (dg m.length k) with | some r=>(vl r,0) | none=>(0,16)):=by
 obtain ⟨h18,_,hok⟩:=iU hm
 have hp:=sF m.length h18
 have hlen:=pI m.length k
 have hrng:=me m.length k
 have hv:=A8 m.length k h0 h1
 have hn:=D5 up hok hlen.symm hrng
 have hsplit:=Bz m k h18 h0 (by omega)
 generalize dg m.length k=l at hlen hrng hv hn hsplit ⊢
 have hout:(over [0,0,0,0,0,0,0,0,0,0,0,0,0,0,0,0,0,0] 0 l).length=18:=by rw [BL _ _ _ (by simp;omega)];rfl
 have fin:∀r:List Int,nx up m l=some r->dC 20000000 m (over [0,0,0,0,0,0,0,0,0,0,0,0,0,0,0,0,0,0] 0 r)=some (vl r):=by
  intro r hr
  rw [hr] at hn
  obtain ⟨i1,i2,_⟩:=hn
  rw [Bq _ h18 i1 i2,sc i2]
 have hap:=FY m l
 have hagr:=xK m l
 have happ:=s8 up (m:=m.take (ap m l)) (m':=m.drop (ap m l)) (d:=l.take (ap m l)) (d':=l.drop (ap m l)) (by simp;omega) hagr
 rw [List.take_append_drop,List.take_append_drop] at happ
 have hz0:gI 20000000 m k=some (over [0,0,0,0,0,0,0,0,0,0,0,0,0,0,0,0,0,0] 0 l):=hsplit
 generalize hzz:([0,0,0,0,0,0,0,0,0,0,0,0,0,0,0,0,0,0]:List Int)=z at hout fin hz0
 rcases Nat.lt_or_ge (ap m l) m.length with hlt | hge
 ·obtain ⟨c,hc⟩:∃c,m[ap m l]?=some c:=⟨m[ap m l],List.getElem?_eq_getElem hlt⟩
  obtain ⟨y,hy⟩:∃c,l[ap m l]?=some c:=⟨l[ap m l]'(by omega),List.getElem?_eq_getElem (by omega)⟩
  obtain ⟨h88,hcy⟩:=xG hc hy
  have hg:(over z 0 l)[ap m l]?=some y:=by rw [od (by omega)];exact hy
  have eL:(((ap m l:Nat):Int)==((List.length m:Nat):Int))=false:=by simp;omega
  have hj:ap m l<18:=by omega
  have hfc:fil up (m.drop (ap m l))=((c.toNat:Nat):Int)::fil up (m.drop (ap m l+1)):=by
   rw [aY hc];simp [fil,h88]
  have hbk:=vJ up m l hlen.symm (ap m l) hap
  have hnx:nx up (m.drop (ap m l)) (l.drop (ap m l))=if decide (((c.toNat:Nat):Int)>y)=up then some (fil up (m.drop (ap m l))) else none:=by
   rw [hfc,aY hc,aY hy]
   simp only [nx,if_neg h88,if_neg hcy]
  rw [hnx] at happ
  by_cases hup:decide (((c.toNat:Nat):Int)>y)=up
  ·rw [if_pos hup] at happ
   simp only at happ
   have f2:=fin _ happ
   rw [happ]
   simp only []
   rw [<-so z l _ _ (by rw [rP,List.length_drop];omega)] at f2
   have l2:=sE h18 up _ hout (ap m l) hap
   cases up
   ·have l0:=ib (z:=z) hlen.symm h18 k 57 48 false
    have l2':ah (aE 20000000) 20000000 (m,57,((ap m l:Nat):Int),over z 0 l)=_:=l2
    simp only [bO,Bool.not_false,cond_true,hz0,ob,l0,eL,cond_false,cn hc,di hj,hg,hup,beq_self_eq_true,Bool.not_true,l2',f2]
   ·have l0:=ib (z:=z) hlen.symm h18 k 48 57 true
    have l2':ah (aE 20000000) 20000000 (m,48,((ap m l:Nat):Int),over z 0 l)=_:=l2
    simp only [bO,Bool.not_true,cond_true,hz0,ob,l0,eL,cond_false,cn hc,di hj,hg,hup,beq_self_eq_true,l2',f2]
  ·rw [if_neg hup] at happ
   simp only [hbk] at happ
   have hne:(!(decide (((c.toNat:Nat):Int)>y)==up))=true:=by
    cases up<;>cases hh:decide (((c.toNat:Nat):Int)>y)<;>simp_all
   have l1:=zq (z:=z) hlen.symm h18 (fst up) up (over z 0 l) (ap m l) hap
   cases hb:bki up m l (ap m l) with
   | none=>
    rw [hb] at happ l1
    simp only [Option.map_none] at happ
    rw [happ]
    simp only [] at l1 ⊢
    cases up
    ·have l0:=ib (z:=z) hlen.symm h18 k 57 48 false
     have l1':ah (bi 20000000) 20000000 (m,false,57,48,((ap m l:Nat):Int),over z 0 l,over z 0 l)=_:=l1
     simp only [bO,Bool.not_false,cond_true,hz0,ob,l0,eL,cond_false,cn hc,di hj,hg,hne,l1']
    ·have l0:=ib (z:=z) hlen.symm h18 k 48 57 true
     have l1':ah (bi 20000000) 20000000 (m,true,48,57,((ap m l:Nat):Int),over z 0 l,over z 0 l)=_:=l1
     simp only [bO,Bool.not_true,cond_true,hz0,ob,l0,eL,cond_false,cn hc,di hj,hg,hne,l1']
   | some a=>
    have ha:=Ck up m l hb
    obtain ⟨w,hw⟩:∃c,l[a]?=some c:=⟨l[a]'(by omega),List.getElem?_eq_getElem (by omega)⟩
    have hga:(over z 0 l)[a]?=some w:=by rw [od (by omega)];exact hw
    have hgd:l.getD a 0=w:=by rw [List.getD_eq_getElem?_getD,hw];rfl
    have hwr:=hrng w (List.mem_of_getElem? hw)
    have haj:a<18:=by omega
    have e2:Nat.blt a 18=true:=Nat.ble_eq_true_of_le haj
    have w1:IntKind.wrap .i64 ((a:Int)+1)=((a+1:Nat):Int):=by rw [wrap_i64 _ (by omega) (by omega)];omega
    rw [hb] at happ l1
    simp only [Option.map_some,hgd] at happ
    have f2:=fin _ happ
    rw [happ]
    simp only [] at l1 ⊢
    rw [<-so z l _ _ (by rw [List.length_cons,rP,List.length_drop];omega),<-rc _ _ _ _ (by omega)] at f2
    have l2:=sE h18 up ((over z 0 l).set a (stp up w)) (by simpa using hout) (a+1) (by omega)
    cases up
    ·have l0:=ib (z:=z) hlen.symm h18 k 57 48 false
     have l1':ah (bi 20000000) 20000000 (m,false,57,48,((ap m l:Nat):Int),over z 0 l,over z 0 l)=some (.inr (m,false,57,((a:Nat):Int),over z 0 l)):=l1
     have l2':ah (aE 20000000) 20000000 (m,57,((a+1:Nat):Int),(over z 0 l).set a (w - 1))=_:=l2
     have w2:IntKind.wrap .u8 (w - 1)=w - 1:=dN _ (by omega) (by omega)
     simp only [bO,Bool.not_false,cond_true,hz0,ob,l0,eL,cond_false,cn hc,di hj,hg,hne,l1',di haj,hga,e2,w1,w2,l2',f2]
    ·have l0:=ib (z:=z) hlen.symm h18 k 48 57 true
     have l1':ah (bi 20000000) 20000000 (m,true,48,57,((ap m l:Nat):Int),over z 0 l,over z 0 l)=some (.inr (m,true,48,((a:Nat):Int),over z 0 l)):=l1
     have l2':ah (aE 20000000) 20000000 (m,48,((a+1:Nat):Int),(over z 0 l).set a (w+1))=_:=l2
     have w2:IntKind.wrap .u8 (w+1)=w+1:=dN _ (by omega) (by omega)
     simp only [bO,Bool.not_true,cond_true,hz0,ob,l0,eL,cond_false,cn hc,di hj,hg,hne,l1',di haj,hga,e2,w1,w2,l2',f2]
 ·have e:ap m l=m.length:=by omega
  rw [e,List.drop_length,<-hlen,List.drop_length,List.take_length] at happ
  simp only [nx,List.append_nil] at happ
  have eL:(((ap m l:Nat):Int)==((List.length m:Nat):Int))=true:=by rw [e];simp
  rw [happ]
  simp only [hv]
  cases up
  ·have l0:=ib (z:=z) hlen.symm h18 k 57 48 false
   simp only [bO,Bool.not_false,cond_true,hz0,ob,l0,eL]
  ·have l0:=ib (z:=z) hlen.symm h18 k 48 57 true
   simp only [bO,Bool.not_true,cond_false,hz0,ob,l0,eL,cond_true]
def near (up:Bool) (m:List UInt8) (k:Int):Option Int->Prop
 | some R=>hasM m R=true/\cP up k R/\∀e,hasM m e=true->cP up k e->cP up R e
 | none=>∀e,hasM m e=true->¬cP up k e
def res (o:Option Int):Int×Int:=match o with | some r=>(r,0) | none=>(0,16)
theorem jo {m:List UInt8} {e:Int} (h:hasM m e=true):(dg m.length e).length=m.length/\digl (dg m.length e)/\eX m (dg m.length e)=true/\vl (dg m.length e)=e/\0<=e/\e<10 ^ m.length:=by
 unfold hasM at h
 simp only [Bool.and_eq_true,decide_eq_true_eq] at h
 exact ⟨pI _ _,me _ _,h.2.2,A8 _ _ h.1 h.2.1,h.1,h.2.1⟩
theorem C8 {m:List UInt8} {r:List Int} (h1:r.length=m.length) (h2:digl r) (h3:eX m r=true):hasM m (vl r)=true:=by
 have hr:=oa h2
 have hd:=Gn h2
 rw [h1] at hr hd
 unfold hasM
 rw [hd,h3,decide_eq_true hr.1,decide_eq_true hr.2];rfl
theorem ox {m:List UInt8} (hm:chk m=0) (up:Bool) (k:Int) (h0:0<=k) (h1:k<10 ^ m.length):∃o,bO 20000000 m k up=some (res o)/\near up m k o:=by
 obtain ⟨h18,_,hok⟩:=iU hm
 have hn:=D5 up hok (pI m.length k).symm (me m.length k)
 have hv:=A8 m.length k h0 h1
 refine ⟨(nx up m (dg m.length k)).map vl,?_,?_⟩
 ·rw [xP hm up k h0 h1]
  cases nx up m (dg m.length k)<;>rfl
 ·cases hx:nx up m (dg m.length k) with
  | none=>
   rw [hx] at hn
   intro e he ha
   obtain ⟨e1,e2,e3,e4,_⟩:=jo he
   exact hn _ e1 e2 e3 (by rw [hv,e4];exact ha)
  | some r=>
   rw [hx] at hn
   obtain ⟨i1,i2,i3,i4,i5⟩:=hn
   refine ⟨C8 i1 i2 i3,by rw [hv] at i4;exact i4,λe he ha=>?_⟩
   obtain ⟨e1,e2,e3,e4,_⟩:=jo he
   have:=i5 _ e1 e2 e3 (by rw [hv,e4];exact ha)
   rwa [e4] at this
theorem vG {m:List UInt8} {e:Int} (h:hasM m e=true):0<=idx m.reverse e/\idx m.reverse e<10 ^ cnt m/\nth m.reverse (idx m.reverse e)=e:=by
 rw [tU] at h
 simp only [Bool.and_eq_true,decide_eq_true_eq] at h
 obtain ⟨k0,k1,k2⟩:=h
 have:=oC m.reverse e k0
 rw [lS] at this
 exact ⟨this.1,this.2,zK k0 (by rw [List.length_reverse];exact k1) k2⟩
section
variable {m:List UInt8} (hm:chk m=0)
include hm
theorem yU {i j:Int} (h0:0<=i) (h1:i<=j) (h2:j<10 ^ cnt m):nth m.reverse i<=nth m.reverse j:=by
 obtain ⟨h18,_,hok⟩:=iU hm
 rcases Int.lt_or_eq_of_le h1 with h | rfl
 ·exact Int.le_of_lt (rX (qk hok) i j h0 h (by rw [lS];exact h2))
 ·exact Int.le_refl _
theorem tP (k:Int):g9 20000000 m k=some (decide (0<=k/\k<10 ^ m.length)):=by
 obtain ⟨h18,_,hok⟩:=iU hm
 simp only [g9,A6 m.length h18,ob]
 by_cases h0:0<=k
 ·have d0:decide (k>=0)=true:=by simpa using h0
  simp only [d0,cond_true,h0,true_and,decide_true]
 ·have d0:decide (k>=0)=false:=by simpa using h0
  simp only [d0,cond_false,h0,false_and,decide_false]
theorem yb (k:Int):∃o,ly 20000000 m k=some (res o)/\near true m k o:=by
 obtain ⟨h18,_,hok⟩:=iU hm
 have e0:((0:Int) != 0)=false:=by simp
 simp only [ly,gW 20000000 m (by omega),hm,iq,e0,cond_false,tP hm]
 by_cases h0:k<0
 ·refine ⟨some (nth m.reverse 0),by simp only [decide_eq_true h0,cond_true,AH hm,iq,res],wa hm (by omega),?_,λe he ha=>?_⟩
  ·have:=(kI (qk hok) 0 (by omega)).1
   simp only [cP];omega
  ·obtain ⟨i0,i1,i2⟩:=vG he
   have:=yU hm (Int.le_refl 0) i0 i1
   simp only [cP];omega
 ·by_cases h1:k<10 ^ m.length
  ·obtain ⟨o,h2,h3⟩:=ox hm true k (by omega) h1
   exact ⟨o,by simp only [decide_eq_false h0,cond_false,decide_eq_true (show 0<=k/\k<10 ^ m.length from ⟨by omega,h1⟩),Bool.not_true,h2,iq],h3⟩
  ·refine ⟨none,by simp only [decide_eq_false h0,cond_false,decide_eq_false (show ¬(0<=k/\k<10 ^ m.length) from λh=>h1 h.2),Bool.not_false,cond_true,res],λe he ha=>?_⟩
   obtain ⟨_,_,_,_,_,i⟩:=jo he
   simp only [cP] at ha;omega
theorem zQ (k:Int):∃o,li 20000000 m k=some (res o)/\near false m k o:=by
 obtain ⟨h18,_,hok⟩:=iU hm
 have e0:((0:Int) != 0)=false:=by simp
 simp only [li,gW 20000000 m (by omega),hm,iq,e0,cond_false,tP hm]
 by_cases h0:k<0
 ·refine ⟨none,by simp only [decide_eq_true h0,cond_true,res],λe he ha=>?_⟩
  obtain ⟨_,_,_,_,i,_⟩:=jo he
  simp only [cP] at ha;omega
 ·by_cases h1:k<10 ^ m.length
  ·obtain ⟨o,h2,h3⟩:=ox hm false k (by omega) h1
   exact ⟨o,by simp only [decide_eq_false h0,cond_false,decide_eq_true (show 0<=k/\k<10 ^ m.length from ⟨by omega,h1⟩),Bool.not_true,h2,iq],h3⟩
  ·have hp0:=mu (cnt m)
   refine ⟨some (nth m.reverse (10 ^ cnt m - 1)),by simp only [decide_eq_false h0,cond_false,decide_eq_false (show ¬(0<=k/\k<10 ^ m.length) from λh=>h1 h.2),Bool.not_false,cond_true,uG hm,iq,res],wa hm (by omega),?_,λe he ha=>?_⟩
   ·have:=(kI (qk hok) (10 ^ cnt m - 1) (by omega)).2
    rw [List.length_reverse] at this
    simp only [cP];omega
   ·obtain ⟨i0,i1,i2⟩:=vG he
    have:=yU hm i0 (show idx m.reverse e<=10 ^ cnt m - 1 by omega) (by omega)
    simp only [cP];omega
end
end Go.Sh.Mk
namespace Go.Sh
open Go.Abs
def fitN (s:List UInt8) (g:Nat):List Nat:=(List.range' 1 g).filter (agr s)
def mZ (l:List Nat):List Int:=l.map λk:Nat=>(k:Int)
theorem tO (l:List Nat):(mZ l).length=l.length:=by simp [mZ]
theorem sP (c:UInt8) {j:Nat} (hj:j<10):(IntKind.wrap .i64 (IntKind.wrap .u8 (((c.toNat:Nat):Int) - 48))==((j:Nat):Int))=(c==UInt8.ofNat (48+j)):=by
 have hc:=c.toNat_lt
 have hu:=se (((c.toNat:Nat):Int) - 48)
 rw [wrap_i64 _ (by omega) (by omega),wv,Bool.eq_iff_iff,beq_iff_eq,beq_iff_eq]
 have hn:(UInt8.ofNat (48+j)).toNat=48+j:=by simp;omega
 constructor
 ·intro h
  apply UInt8.toNat_inj.1
  omega
 ·rintro rfl
  omega
theorem xf (n:Nat) (a b:UInt8) {k:Nat} (h2:k<=31):ga n [a,b] (k:Int)=some (agr [a,b] k):=by
 have e1:IntKind.wrap .i64 (Int.tdiv (k:Int) 10)=((k / 10:Nat):Int):=by
  rw [show Int.tdiv (k:Int) 10=((k / 10:Nat):Int) from rfl,wrap_i64 _ (by omega) (by omega)]
 have e2:Int.tmod (k:Int) 10=((k%10:Nat):Int):=rfl
 have s0:sx [a,b] 0=some a:=rfl
 have s1:sx [a,b] 1=some b:=rfl
 have x88:(88:Int)=((88:Nat):Int):=rfl
 unfold ga
 simp only [s0,s1,ob,e1,e2]
 rw [sP a (show k / 10<10 by omega),sP b (show k%10<10 by omega),x88,np (by omega),np (by omega)]
 show _=some ((a==UInt8.ofNat 88||a==UInt8.ofNat (48+k / 10))&&(b==UInt8.ofNat 88||b==UInt8.ofNat (48+k%10)))
 generalize (a==UInt8.ofNat 88)=p1
 generalize (b==UInt8.ofNat 88)=p2
 generalize (a==UInt8.ofNat (48+k / 10))=p3
 generalize (b==UInt8.ofNat (48+k%10))=p4
 cases p1<;>cases p2<;>cases p3<;>cases p4<;>rfl
theorem room {k:Nat} (h:k<=60000000):Nat.ble (k+1) gS=true:=Nat.ble_eq_true_of_le (by unfold gS;omega)
theorem vg {X Y:Type} {step:X->Option (X⊕Y)} {f:Nat->List Int->X} {y:List Int->Y} {p:Nat->Bool} {g:Nat} (hg:g<=1000)
  (h:∀i out,i<g->out.length<=1000->step (f i out)=some (.inl (f (i+1) (if p (i+1) then out++[((i+1:Nat):Int)] else out))))
  (he:∀out,step (f g out)=some (.inr (y out))) {N:Nat} (hN:g<N):ah step N (f 0 [])=some (y (mZ ((List.range' 1 g).filter p))):=by
 have go:∀(r i:Nat) (out:List Int),i+r=g->out.length<=i->∀N,r<N->ah step N (f i out)=some (y (out++mZ ((List.range' (i+1) r).filter p))):=by
  intro r
  induction r with
  | zero=>
   intro i out hi ho N hN
   obtain ⟨N,rfl⟩:∃q,N=q+1:=⟨N - 1,by omega⟩
   obtain rfl:i=g:=by omega
   rw [ah,he]
   simp [mZ]
  | succ r ih=>
   intro i out hi ho N hN
   obtain ⟨N,rfl⟩:∃q,N=q+1:=⟨N - 1,by omega⟩
   rw [ah,h i out (by omega) (by omega)]
   show ah step N _=_
   by_cases hp:p (i+1)=true
   ·rw [if_pos hp,ih (i+1) _ (by omega) (by simp;omega) N (by omega),List.range'_succ,List.filter_cons_of_pos hp]
    simp [mZ]
   ·rw [if_neg hp,ih (i+1) _ (by omega) (by omega) N (by omega),List.range'_succ,List.filter_cons_of_neg hp]
 have:=go g 0 [] (by omega) (by simp) N hN
 simpa using this
theorem yk (n:Nat) (hn:100<n) (a b:UInt8) {g:Nat} (hg:g<=31):cQ n [a,b] (g:Int)=some (mZ (fitN [a,b] g)):=by
 unfold cQ
 have:=vg (step:=dk n) (f:=λi out=>([a,b],(g:Int),(i:Int),out)) (y:=λl=>l) (p:=agr [a,b]) (g:=g) (by omega)
  (λi out hi ho=>by
   have w1:IntKind.wrap .i64 ((i:Int)+1)=((i+1:Nat):Int):=by rw [wrap_i64 _ (by omega) (by omega)];omega
   unfold dk
   simp only [w1]
   rw [decide_eq_true (show (i:Int)<(g:Int) by omega),xf n a b (by omega),room (by omega)]
   by_cases hp:agr [a,b] (i+1)=true
   ·rw [if_pos hp];simp only [ob,hp,cond_true]
   ·rw [if_neg hp]
    rw [Bool.not_eq_true] at hp
    simp only [ob,hp,cond_true,cond_false])
  (λout=>by
   unfold dk
   simp only [decide_eq_false (show ¬(g:Int)<(g:Int) by omega),cond_false])
  (N:=n) (by omega)
 have h0:ah (dk n) n ([a,b],(g:Int),0,([]:List Int))=_:=this
 rw [h0]
 rfl
def monI (m:List UInt8):List Int:=if m=[] then [0] else if 0<sea m then [sea m] else mZ (fitN m 12)
def dayI (d:List UInt8):List Int:=if d=[] then [0] else mZ (fitN d 31)
theorem ek {l:List UInt8} (h:l≠[]):(l==([]:List UInt8))=false:=beq_eq_false_iff_ne.2 h
theorem len2 {s:List UInt8} (h:s.length=2):∃a b,s=[a,b]:=by
 match s,h with
 | [a,b],_=>exact ⟨a,b,rfl⟩
theorem Gp (n:Nat) (hn:100<n) (g l:Bool) (dg:List UInt8) (x q:Int) (m d:List UInt8) (k0 k1 k2:Int) (hm:m=[]\/m.length=2) (hd:d=[]\/d.length=2):
  kn n g l dg x q m d k0 k1 k2=some (g,l,dg,x,q,m,d,k0,k1,k2,monI m,dayI d):=by
 have hml:m.length<=18:=by rcases hm with h | h;(rw [h];simp);omega
 have hD:d≠[]->cQ n d 31=some (dayI d):=λh=>by
  obtain ⟨a,b,rfl⟩:=len2 (hd.resolve_left h)
  rw [show (31:Int)=((31:Nat):Int) from rfl,yk n hn a b (by omega)]
  unfold dayI
  rw [if_neg h]
 have hD0:d=[]->dayI d=[0]:=λh=>by unfold dayI;rw [if_pos h]
 have hM:m≠[]->¬0<sea m->cQ n m 12=some (monI m):=λh hs=>by
  obtain ⟨a,b,rfl⟩:=len2 (hm.resolve_left h)
  rw [show (12:Int)=((12:Nat):Int) from rfl,yk n hn a b (by omega)]
  unfold monI
  rw [if_neg h,if_neg hs]
 unfold kn
 rw [px n g l dg x q m d k0 k1 k2 hml]
 simp only [ob]
 by_cases hs:0<sea m
 ·have h0:m≠[]:=by rintro rfl;exact absurd hs (by decide)
  have hm':monI m=[sea m]:=by unfold monI;rw [if_neg h0,if_pos hs]
  rw [decide_eq_true hs]
  by_cases h:d=[]
  ·rw [h,<-h,hD0 h,hm',h];rfl
  ·rw [ek h,hD h,hm'];rfl
 ·rw [decide_eq_false hs]
  by_cases h0:m=[]
  ·have hm':monI m=[0]:=by unfold monI;rw [if_pos h0]
   by_cases h:d=[]
   ·rw [hD0 h,hm',h,h0];rfl
   ·rw [ek h,hD h,hm',h0];rfl
  ·rw [ek h0,hM h0 hs]
   by_cases h:d=[]
   ·rw [hD0 h,h];rfl
   ·rw [ek h,hD h];rfl
theorem wN (n:Nat) (hn:100<n) (g l:Bool) (dg:List UInt8) (x q:Int) (m d:List UInt8) (k0 k1 k2:Int):eY n g l dg x q m d k0 k1 k2=some (monI m):=by
 unfold eY
 by_cases h0:m=[]
 ·unfold monI
  rw [if_pos h0,h0];rfl
 ·rw [ek h0,lu n hn]
  simp only [ob,cond_false]
  unfold monI
  rw [if_neg h0]
  by_cases hs:0<sea m
  ·rw [if_pos hs,decide_eq_true (show sea m>0 from hs)];rfl
  ·rw [if_neg hs,decide_eq_false (show ¬sea m>0 from hs)]
   have:=vg (step:=bX n) (f:=λi out=>(((i+1:Nat):Int),g,l,dg,x,q,m,d,k0,k1,k2,out)) (y:=λl=>l) (p:=agr m) (g:=12) (by omega)
    (λi out hi ho=>by
     have w1:IntKind.wrap .i64 (((i+1:Nat):Int)+1)=((i+1+1:Nat):Int):=by rw [wrap_i64 _ (by omega) (by omega)];omega
     unfold bX
     simp only [d4,d8,w1]
     rw [decide_eq_true (show ((i+1:Nat):Int)<=12 by omega),ng n m (i+1) (by omega),room (by omega)]
     by_cases hp:agr m (i+1)=true
     ·rw [if_pos hp,if_pos hp];rfl
     ·rw [if_neg hp,if_neg hp];rfl)
    (λout=>by
     unfold bX
     simp only [d4,d8,decide_eq_false (show ¬((12+1:Nat):Int)<=12 by omega),cond_false])
    (N:=n) (by omega)
   have h1:ah (bX n) n (1,g,l,dg,x,q,m,d,k0,k1,k2,([]:List Int))=_:=this
   rw [h1]
   rfl
def rR (y:Int):Bool:=decide (y%4=0)&&(decide (y%100≠0)||decide (y%400=0))
def lenI (y m:Int):Int:=if m=4\/m=6\/m=9\/m=11 then 30 else if m=2 then (if rR y then 29 else 28) else 31
theorem yg (y:Int) {b:Int} (hb:0<b):(Int.tmod y b==0)=decide (y%b=0):=by
 rw [Bool.eq_iff_iff,beq_iff_eq,decide_eq_true_iff]
 have h:=Int.tmod_eq_emod (a:=y) (b:=b)
 have h1:=Int.emod_nonneg y (show b≠0 by omega)
 have h2:=Int.emod_lt_of_pos y hb
 by_cases hc:0<=y\/b∣y
 ·rw [if_pos hc] at h;omega
 ·rw [if_neg hc] at h
  have hd:¬b∣y:=λe=>hc (.inr e)
  have:y%b≠0:=λe=>hd (Int.dvd_of_emod_eq_zero e)
  omega
theorem z6 (n:Nat) (y m:Int):gU n y m=some (lenI y m):=by
 have e100:(Int.tmod y 100 != 0)=decide (y%100≠0):=by
  rw [bne,yg y (by omega)]
  by_cases h:y%100=0<;>simp [h]
 unfold gU
 rw [yg y (by omega),yg y (by omega),e100]
 have body:(cond (m==2) (cond (decide (y%4=0)) (cond (decide (y%100≠0)) (some (29:Int)) (cond (decide (y%400=0)) (some 29) (some 28))) (some 28)) (some 31))=some (if m=2 then (if rR y=true then 29 else 28) else 31):=by
  rw [eW]
  by_cases h2:m=2
  ·rw [if_pos h2,if_pos h2]
   unfold rR
   cases decide (y%4=0)<;>cases decide (y%100≠0)<;>cases decide (y%400=0)<;>rfl
  ·rw [if_neg h2,if_neg h2]
 rw [body]
 unfold lenI
 by_cases h4:m=4
 ·subst h4;rfl
 ·by_cases h6:m=6
  ·subst h6;rfl
  ·by_cases h9:m=9
   ·subst h9;rfl
   ·by_cases h11:m=11
    ·subst h11;rfl
    ·rw [beq_eq_false_iff_ne.2 h4,beq_eq_false_iff_ne.2 h6,beq_eq_false_iff_ne.2 h9,beq_eq_false_iff_ne.2 h11,if_neg (show ¬(m=4\/m=6\/m=9\/m=11) by omega)]
     rfl
theorem tL (n:Nat) {y:Int} (h:-20000000000000000<=y/\y<=20000000000000000):cU n y=some (1+(y - 1) / 4 - (y - 1) / 100+(y - 1) / 400):=by
 unfold cU
 rw [wrap_i64 (y - 1) (by omega) (by omega),pm n (by omega) (by omega) (by omega) (by omega),pm n (by omega) (by omega) (by omega) (by omega),pm n (by omega) (by omega) (by omega) (by omega)]
 show some _=some _
 have h4:-5000000000000001<=(y - 1) / 4/\(y - 1) / 4<=5000000000000001:=by omega
 have h100:-5000000000000001<=(y - 1) / 100/\(y - 1) / 100<=5000000000000001:=by omega
 have h400:-5000000000000001<=(y - 1) / 400/\(y - 1) / 400<=5000000000000001:=by omega
 generalize (y - 1) / 4=a at *
 generalize (y - 1) / 100=b at *
 generalize (y - 1) / 400=c at *
 simp only []
 rw [wrap_i64 (1*a) (by omega) (by omega),wrap_i64 (-1*b) (by omega) (by omega),wrap_i64 (1*c) (by omega) (by omega),wrap_i64 (1+1*a) (by omega) (by omega),wrap_i64 (1+1*a+-1*b) (by omega) (by omega),wrap_i64 _ (by omega) (by omega)]
 congr 1
 omega
theorem BM (y:Int):(1+y / 4 - y / 100+y / 400>1+(y - 1) / 4 - (y - 1) / 100+(y - 1) / 400)↔rR y=true:=by
 unfold rR
 simp only [Bool.and_eq_true,Bool.or_eq_true,decide_eq_true_eq]
 omega
theorem Ds (n:Nat) {y:Int} (h:dQ y):fS n y=some (rR y,0):=by
 unfold fS
 have h':=h
 unfold dQ at h'
 rw [fh,if_pos h,wrap_i64 (y+1) (by omega) (by omega),tL n (by omega),tL n (by omega),show y+1 - 1=y by omega]
 have hl:=BM y
 show some (decide (1+y / 4 - y / 100+y / 400>1+(y - 1) / 4 - (y - 1) / 100+(y - 1) / 400),(0:Int))=_
 by_cases hb:rR y=true
 ·rw [hb,decide_eq_true (hl.2 hb)]
 ·rw [Bool.not_eq_true] at hb
  rw [hb,decide_eq_false (λe=>by rw [hl.1 e] at hb;cases hb)]
theorem zW (n:Nat) {y:Int} (h:dQ y) {m:Nat} (h1:1<=m) (h2:m<=12):cq n y (m:Int)=some (lenI y (m:Int)):=by
 unfold cq
 rw [Ds n h]
 show cond (rR y&&((m:Int)==2)) _ _=_
 have hix:IntKind.wrap .i64 ((m:Int) - 1)=((m - 1:Nat):Int):=by rw [wrap_i64 _ (by omega) (by omega)];omega
 rw [hix,di (show m - 1<12 by omega)]
 have hm:m=1\/m=2\/m=3\/m=4\/m=5\/m=6\/m=7\/m=8\/m=9\/m=10\/m=11\/m=12:=by omega
 rcases hm with rfl | rfl | rfl | rfl | rfl | rfl | rfl | rfl | rfl | rfl | rfl | rfl<;>unfold lenI<;>cases rR y<;>rfl
theorem D4 (n:Nat) {y:Int} (h:dQ y) {m:Nat} (h1:1<=m) (h2:m<=12):jF n y (m:Int)=some (lenI y (m:Int),0):=by
 unfold jF
 rw [xE n h h1 h2,zW n h h1 h2]
 rfl
theorem qe (y m:Int):28<=lenI y m/\lenI y m<=31:=by
 unfold lenI
 split
 ·omega
 ·split
  ·split<;>omega
  ·omega
def oF (d:List UInt8) (y m:Int):Int:=if d=[] then 0 else lenI y m
def nl (d:List UInt8) (y mo:Int):List (Int×Int×Int):=((dayI d).filter λk=>decide (k<=oF d y mo)).map λk=>(y,mo,k)
def oS (m d:List UInt8) (y:Int):List (Int×Int×Int):=(monI m).flatMap (nl d y)
theorem zZ {X Y A:Type} {step:X->Option (X⊕Y)} {f:Nat->List A->X} {y:List A->Y} {p:Nat->Bool} {e:Nat->A} {g:Nat} (out0:List A)
  (h:∀i out,i<g->out.length<=out0.length+i->step (f i out)=some (.inl (f (i+1) (if p (i+1) then out++[e (i+1)] else out))))
  (he:∀out,step (f g out)=some (.inr (y out))) {N:Nat} (hN:g<N):ah step N (f 0 out0)=some (y (out0++((List.range' 1 g).filter p).map e)):=by
 have go:∀(r i:Nat) (out:List A),i+r=g->out.length<=out0.length+i->∀N,r<N->ah step N (f i out)=some (y (out++((List.range' (i+1) r).filter p).map e)):=by
  intro r
  induction r with
  | zero=>
   intro i out hi ho N hN
   obtain ⟨N,rfl⟩:∃q,N=q+1:=⟨N - 1,by omega⟩
   obtain rfl:i=g:=by omega
   rw [ah,he]
   simp
  | succ r ih=>
   intro i out hi ho N hN
   obtain ⟨N,rfl⟩:∃q,N=q+1:=⟨N - 1,by omega⟩
   rw [ah,h i out (by omega) (by omega)]
   show ah step N _=_
   by_cases hp:p (i+1)=true
   ·rw [if_pos hp,ih (i+1) _ (by omega) (by simp;omega) N (by omega),List.range'_succ,List.filter_cons_of_pos hp]
    simp
   ·rw [if_neg hp,ih (i+1) _ (by omega) (by omega) N (by omega),List.range'_succ,List.filter_cons_of_neg hp]
 exact go g 0 out0 (by omega) (by omega) N hN
theorem xJ {X Y A B:Type} {step:X->Option (X⊕Y)} {f:Nat->List A->X} {y:List A->Y} {F:B->List A} {L:List B} {c:Nat} (hc:∀b∈L,(F b).length<=c)
  (h:∀i b out,L[i]?=some b->out.length<=c*i->step (f i out)=some (.inl (f (i+1) (out++F b))))
  (he:∀out,step (f L.length out)=some (.inr (y out))) {N:Nat} (hN:L.length<N):ah step N (f 0 [])=some (y (L.flatMap F)):=by
 have go:∀(r i:Nat) (out:List A),i+r=L.length->out.length<=c*i->∀N,r<N->ah step N (f i out)=some (y (out++(L.drop i).flatMap F)):=by
  intro r
  induction r with
  | zero=>
   intro i out hi ho N hN
   obtain ⟨N,rfl⟩:∃q,N=q+1:=⟨N - 1,by omega⟩
   obtain rfl:i=L.length:=by omega
   rw [ah,he]
   simp
  | succ r ih=>
   intro i out hi ho N hN
   obtain ⟨N,rfl⟩:∃q,N=q+1:=⟨N - 1,by omega⟩
   have hb:L[i]?=some L[i]:=List.getElem?_eq_getElem (by omega)
   rw [ah,h i L[i] out hb ho]
   show ah step N _=_
   have hm:=hc L[i] (List.getElem_mem _)
   rw [ih (i+1) _ (by omega) (by rw [List.length_append,Nat.mul_add];omega) N (by omega),List.drop_eq_getElem_cons (show i<L.length by omega),List.flatMap_cons,List.append_assoc]
 have:=go L.length 0 [] (by omega) (by simp) N hN
 simpa using this
theorem Dy (d:List UInt8) (L:Nat) (h:L<=31):(mZ (fitN d 31)).filter (λk=>decide (k<=(L:Int)))=mZ ((List.range' 1 L).filter (agr d)):=by
 have hs:List.range' 1 31=List.range' 1 L++List.range' (1+L) (31 - L):=by
  have:=List.range'_append_1 (s:=1) (m:=L) (n:=31 - L)
  rw [this,show L+(31 - L)=31 by omega]
 unfold fitN mZ
 rw [hs,List.filter_append,List.map_append,List.filter_append]
 have e1:(List.map (λk:Nat=>(k:Int)) (List.filter (agr d) (List.range' 1 L))).filter (λk=>decide (k<=(L:Int)))=List.map (λk:Nat=>(k:Int)) (List.filter (agr d) (List.range' 1 L)):=by
  rw [List.filter_eq_self]
  intro k hk
  obtain ⟨j,hj,rfl⟩:=List.mem_map.1 hk
  have:=List.mem_range'_1.1 (List.mem_filter.1 hj).1
  exact decide_eq_true (by omega)
 have e2:(List.map (λk:Nat=>(k:Int)) (List.filter (agr d) (List.range' (1+L) (31 - L)))).filter (λk=>decide (k<=(L:Int)))=[]:=by
  rw [List.filter_eq_nil_iff]
  intro k hk
  obtain ⟨j,hj,rfl⟩:=List.mem_map.1 hk
  have:=List.mem_range'_1.1 (List.mem_filter.1 hj).1
  simp only [decide_eq_true_eq]
  omega
 rw [e1,e2,List.append_nil]
theorem vF (s:List UInt8) (g:Nat):(fitN s g).length<=g:=by
 have:=List.length_filter_le (agr s) (List.range' 1 g)
 rw [List.length_range'] at this
 exact this
theorem uZ (d:List UInt8):(dayI d).length<=31:=by
 unfold dayI
 split
 ·simp
 ·rw [tO];exact vF d 31
theorem vd (m:List UInt8):(monI m).length<=12:=by
 unfold monI
 split
 ·simp
 ·split
  ·simp
  ·rw [tO];exact vF m 12
theorem wZ (d:List UInt8) (y mo:Int):(nl d y mo).length<=31:=by
 unfold nl
 rw [List.length_map]
 exact Nat.le_trans (List.length_filter_le _ _) (uZ d)
theorem zn (y mo:Int):nl [] y mo=[(y,mo,0)]:=rfl
theorem wy {d:List UInt8} (h:d≠[]) (y mo:Int):nl d y mo=((List.range' 1 (lenI y mo).toNat).filter (agr d)).map λk:Nat=>(y,mo,(k:Int)):=by
 have hr:=qe y mo
 unfold nl dayI oF
 rw [if_neg h,if_neg h]
 have:=Dy d (lenI y mo).toNat (by omega)
 rw [show (((lenI y mo).toNat:Nat):Int)=lenI y mo by omega] at this
 rw [this,mZ,List.map_map]
 rfl
theorem xe (n:Nat) (hn:100<n) (g l:Bool) (dg:List UInt8) (x q:Int) (m d:List UInt8) (k0 k1 k2 y:Int):
  gm n g l dg x q m d k0 k1 k2 y=some (oS m d y):=by
 have hml:=vd m
 unfold gm
 rw [wN n hn]
 have:=xJ (step:=cF n) (f:=λi out=>(y,(i:Int),g,l,dg,x,q,m,d,k0,k1,k2,monI m,out)) (y:=λo=>o) (F:=nl d y) (L:=monI m) (c:=31) (λb _=>wZ d y b)
  (λi mo out hi ho=>by
   have hil:i<(monI m).length:=(List.getElem?_eq_some_iff.1 hi).1
   have w1:IntKind.wrap .i64 ((i:Int)+1)=((i+1:Nat):Int):=by rw [wrap_i64 _ (by omega) (by omega)];omega
   unfold cF
   simp only [d4,d8,w1]
   rw [decide_eq_true (show (i:Int)<(((monI m).length:Nat):Int) by omega),di hil]
   by_cases hd:d=[]
   ·subst hd
    rw [zn]
    simp only [ob,hi,cond_true,room (show out.length<=60000000 by omega)]
    rfl
   ·rw [ek hd]
    have hr:=qe y mo
    have hin:=zZ (step:=cH n) (f:=λj o=>(y,(i:Int),((j+1:Nat):Int),g,l,dg,x,q,m,d,k0,k1,k2,monI m,o)) (y:=λo=>(y,(i:Int),g,l,dg,x,q,m,d,k0,k1,k2,monI m,o)) (p:=agr d) (e:=λk=>(y,mo,(k:Int))) (g:=(lenI y mo).toNat) out
     (λj o hj ho'=>by
      have w2:IntKind.wrap .i64 (((j+1:Nat):Int)+1)=((j+1+1:Nat):Int):=by rw [wrap_i64 _ (by omega) (by omega)];omega
      unfold cH
      simp only [d4,d8,w2,di hil,ob,hi,z6]
      rw [decide_eq_true (show ((j+1:Nat):Int)<=lenI y mo by omega),ng n d (j+1) (by omega),room (show o.length<=60000000 by omega)]
      by_cases hp:agr d (j+1)=true
      ·rw [if_pos hp,if_pos hp];rfl
      ·rw [if_neg hp,if_neg hp];rfl)
     (λo=>by
      unfold cH
      simp only [d4,d8,di hil,ob,hi,z6]
      rw [decide_eq_false (show ¬(((lenI y mo).toNat+1:Nat):Int)<=lenI y mo by omega)]
      rfl)
     (N:=n) (by omega)
    have hin':ah (cH n) n (y,(i:Int),1,g,l,dg,x,q,m,d,k0,k1,k2,monI m,out)=_:=hin
    simp only [cond_true,cond_false]
    rw [hin',wy hd]
    simp only [ob,d4,d8,w1])
  (λout=>by
   unfold cF
   simp only [d4,d8]
   rw [decide_eq_false (show ¬(((monI m).length:Nat):Int)<(((monI m).length:Nat):Int) by omega)]
   rfl)
  (N:=n) (by omega)
 have h0:ah (cF n) n (y,0,g,l,dg,x,q,m,d,k0,k1,k2,monI m,([]:List (Int×Int×Int)))=_:=this
 simp only [ob]
 rw [h0]
 rfl
theorem FC {a b c e:UInt8} (ha:az a=true\/a=88) (hb:az b=true\/b=88) (hc:az c=true\/c=88) (he:az e=true\/e=88) (w:Nat):
  mtk [a,b,c,e] 4 w=Mk.ag [e,c,b,a] (w:Int):=by
 have one:∀(z:UInt8) (v:Nat),(decide (z=88)||decide (z.toNat=48+v%10))=(decide (z=88)||decide (Mk.dv z=(v:Int)%10)):=by
  intro z v
  have:(z.toNat=48+v%10)↔(Mk.dv z=(v:Int)%10):=by unfold Mk.dv;omega
  rw [decide_eq_decide.2 this]
 have cast:∀v:Nat,(v:Int) / 10=((v / 10:Nat):Int):=λv=>by omega
 show ((decide (e=88)||decide (e.toNat=48+w%10))&&((decide (c=88)||decide (c.toNat=48+w / 10%10))&&((decide (b=88)||decide (b.toNat=48+w / 10 / 10%10))&&((decide (a=88)||decide (a.toNat=48+w / 10 / 10 / 10%10))&&true))))
  = ((((true&&(decide (a=88)||decide (Mk.dv a=(w:Int) / 10 / 10 / 10%10)))&&(decide (b=88)||decide (Mk.dv b=(w:Int) / 10 / 10%10)))&&(decide (c=88)||decide (Mk.dv c=(w:Int) / 10%10)))&&(decide (e=88)||decide (Mk.dv e=(w:Int)%10)))
 rw [one e w,one c (w / 10),one b (w / 10 / 10),one a (w / 10 / 10 / 10),cast w,cast (w / 10),cast (w / 10 / 10)]
 generalize (decide (e=88)||decide (Mk.dv e=(w:Int)%10))=p1
 generalize (decide (c=88)||decide (Mk.dv c=((w / 10:Nat):Int)%10))=p2
 generalize (decide (b=88)||decide (Mk.dv b=((w / 10 / 10:Nat):Int)%10))=p3
 generalize (decide (a=88)||decide (Mk.dv a=((w / 10 / 10 / 10:Nat):Int)%10))=p4
 cases p1<;>cases p2<;>cases p3<;>cases p4<;>rfl
theorem DD {c:UInt8} (h:az c=true\/c=88):Mk.okB c=true:=by
 rcases h with h | h
 ·have h:=(aQ c).1 h
  unfold Mk.okB
  simp only [Bool.or_eq_true,Bool.and_eq_true,decide_eq_true_eq]
  right
  first | omega | (obtain ⟨h1,h2⟩:=h;constructor<;>omega)
 ·subst h;decide
theorem Cd {d:List UInt8} (hl:d.length=4) (h:∀c∈d,az c=true\/c=88):Mk.chk d=0:=by
 unfold Mk.chk
 have:d.all Mk.okB=true:=List.all_eq_true.2 λc hc=>DD (h c hc)
 rw [if_neg (by omega),if_pos this,if_neg (by rintro rfl;simp at hl)]
theorem vQ {d:List UInt8} (hl:d.length=4) (h:∀c∈d,az c=true\/c=88) (w:Nat):Mk.hasM d (w:Int)=true↔mtk d 4 w=true/\w / 10 ^ 4=0:=by
 obtain ⟨a,b,c,e,rfl⟩:∃a b c e,d=[a,b,c,e]:=by
  match d,hl with
  | [a,b,c,e],_=>exact ⟨a,b,c,e,rfl⟩
 rw [Mk.tU,FC (h a (by simp)) (h b (by simp)) (h c (by simp)) (h e (by simp)) w]
 simp only [Bool.and_eq_true,decide_eq_true_eq]
 show 0<=(w:Int)/\(w:Int)<10 ^ 4/\Mk.ag [e,c,b,a] (w:Int)=true↔Mk.ag [e,c,b,a] (w:Int)=true/\w / 10 ^ 4=0
 have e4:(10:Int) ^ 4=10000:=by decide
 have e4':(10:Nat) ^ 4=10000:=by decide
 rw [e4,e4']
 constructor
 ·rintro ⟨_,h2,h3⟩;exact ⟨h3,by omega⟩
 ·rintro ⟨h3,h2⟩;exact ⟨by omega,by omega,h3⟩
theorem vR {g l:Bool} {d:List UInt8} {x q:Int} (hok:okY g l d x q) (hX:hasX d=true) (v:Int):inP g d x q v↔(Mk.hasM d (wOf g v)=true/\(g=true->1<=wOf g v)):=by
 obtain ⟨rfl,rfl,rfl,hl,hd⟩:=kY hok hX
 unfold inP
 rw [vr hX]
 have hr:∀k:Int,Mk.hasM d k=true->0<=k/\k<10000:=λk hk=>by
  have:=(Mk.jo hk).2.2.2.2
  rw [hl] at this
  have e4:(10:Int) ^ 4=10000:=by decide
  omega
 constructor
 ·rintro ⟨h1,h2,h3,h4,h5⟩
  have:=(vQ hl hd (wOf g v).toNat).2 h5
  rw [show (((wOf g v).toNat:Nat):Int)=wOf g v by omega] at this
  refine ⟨this,λhg=>?_⟩
  have h0:¬wOf g v=0:=λe=>h4 ⟨hX,hg,e⟩
  omega
 ·rintro ⟨h1,h2⟩
  have hr':=hr _ h1
  have hm:=(vQ hl hd (wOf g v).toNat).1 (by rw [show (((wOf g v).toNat:Nat):Int)=wOf g v by omega];exact h1)
  have hv:v=wOf g v\/v=- wOf g v:=by
   unfold wOf;split
   ·right;omega
   ·left;rfl
  refine ⟨by omega,by omega,hr'.1,?_,hm⟩
  rintro ⟨_,hg,e⟩
  have:=h2 hg
  omega
theorem yE {g l:Bool} {d:List UInt8} {x:Int} (hok:okY g l d x 0) (hX:hasX d=false) (v:Int):inP g d x 0 v↔v=(if g then -((val d x.toNat:Nat):Int) else ((val d x.toNat:Nat):Int)):=by
 obtain ⟨k,q,rfl,hq,hN⟩:=my hok hX
 have hs:=hN.small
 have hv:dval 0 d*10 ^ k=val d k:=rfl
 rw [hv] at hs
 unfold E16 at hs
 unfold inP
 rw [Cu hX]
 have hu:uA d (k:Int).toNat (0:Int).toNat=1:=rfl
 rw [hu,Int.toNat_natCast,Nat.div_one,Nat.div_one,hX]
 unfold wOf
 cases g with
 | true=>
  simp only [if_true]
  constructor
  ·rintro ⟨h1,h2,h3,_,h5⟩;omega
  ·rintro rfl;refine ⟨by omega,by omega,by omega,by simp,by omega⟩
 | false=>
  simp only [Bool.false_eq_true,if_false]
  constructor
  ·rintro ⟨h1,h2,h3,_,h5⟩;omega
  ·rintro rfl;refine ⟨by omega,by omega,by omega,by simp,by omega⟩
def uj (up:Bool) (Y:Int->Prop) (v w:Int) (found:Bool):Prop:=
 (found=true->Y w/\Mk.cP up v w/\∀e,Y e->Mk.cP up v e->Mk.cP up w e)/\(found=false->∀e,Y e->¬Mk.cP up v e)
theorem cT (a b:Int):Mk.cP true a b↔a<=b:=Iff.rfl
theorem dV (a b:Int):Mk.cP false a b↔b<=a:=Iff.rfl
theorem Ct (o:Option Int):(Mk.res o).2=0/\(∃r,o=some r/\(Mk.res o).1=r)\/(Mk.res o).2=16/\o=none/\(Mk.res o).1=0:=by
 cases o with
 | none=>exact .inr ⟨rfl,rfl,rfl⟩
 | some r=>exact .inl ⟨rfl,r,rfl,rfl⟩
theorem nB {m:List UInt8} (hm:Mk.chk m=0) (v least:Int) (h0:0<=least):∃w f,dc 20000000 m v true least=some (w,f)/\uj true (λe=>Mk.hasM m e=true/\least<=e) v w f/\(0<=w/\w<1000000000000000000):=by
 obtain ⟨o,h1,h2⟩:=Mk.yb hm (cond (decide (least>v)) least v)
 unfold dc
 rw [h1]
 simp only [ob,cond_true]
 have hc:(cond (decide (least>v)) least v)=max v least:=by
  by_cases h:least>v
  ·rw [decide_eq_true h];show least=_;omega
  ·rw [decide_eq_false h];show v=_;omega
 rw [hc] at h2
 rcases Ct o with ⟨e1,r,rfl,e2⟩ | ⟨e1,rfl,e2⟩
 ·refine ⟨_,_,rfl,?_,?_⟩
  ·rw [e1,e2]
   obtain ⟨a1,a2,a3⟩:=h2
   rw [cT] at a2
   refine ⟨λ_=>⟨⟨a1,by omega⟩,?_,λe he hv=>?_⟩,λh=>by cases h⟩
   ·rw [cT];omega
   ·rw [cT] at hv
    exact a3 e he.1 (by rw [cT];have:=he.2;omega)
  ·have:=(Mk.jo h2.1).2.2.2.2
   have hl:=Mk.iU hm
   have hp:(10:Int) ^ m.length<=10 ^ 18:=by
    have:=Nat.pow_le_pow_right (show 0<10 by decide) hl.1
    exact_mod_cast this
   have e18:(10:Int) ^ 18=1000000000000000000:=by decide
   rw [e2]
   omega
 ·refine ⟨_,_,rfl,?_,by rw [e2];omega⟩
  rw [e1]
  refine ⟨(λh=>by cases h),λ_ e he hv=>?_⟩
  rw [cT] at hv
  exact h2 e he.1 (by rw [cT];have:=he.2;omega)
theorem nG {m:List UInt8} (hm:Mk.chk m=0) (v least:Int) (h0:0<=least):∃w f,dc 20000000 m v false least=some (w,f)/\uj false (λe=>Mk.hasM m e=true/\least<=e) v w f/\(0<=w/\w<1000000000000000000):=by
 obtain ⟨o,h1,h2⟩:=Mk.zQ hm v
 unfold dc
 rw [h1]
 simp only [ob,cond_false]
 rcases Ct o with ⟨e1,r,rfl,e2⟩ | ⟨e1,rfl,e2⟩
 ·rw [e1,e2]
  obtain ⟨a1,a2,a3⟩:=h2
  rw [dV] at a2
  have hb:=(Mk.jo a1).2.2.2.2
  have hl:=Mk.iU hm
  have hp:(10:Int) ^ m.length<=10 ^ 18:=by
   have:=Nat.pow_le_pow_right (show 0<10 by decide) hl.1
   exact_mod_cast this
  have e18:(10:Int) ^ 18=1000000000000000000:=by decide
  refine ⟨_,_,rfl,?_,by omega⟩
  by_cases hle:r>=least
  ·rw [decide_eq_true hle]
   refine ⟨λ_=>⟨⟨a1,by omega⟩,by rw [dV];omega,λe he hv=>a3 e he.1 hv⟩,λh=>by cases h⟩
  ·rw [decide_eq_false hle]
   refine ⟨(λh=>by cases h),λ_ e he hv=>?_⟩
   have:=a3 e he.1 hv
   rw [dV] at this
   have:=he.2
   omega
 ·rw [e1,e2]
  refine ⟨_,_,rfl,?_,by omega⟩
  refine ⟨(λh=>by cases h),λ_ e he hv=>h2 e he.1 hv⟩
theorem za {g l:Bool} {dg:List UInt8} {x:Int} (hok:okY g l dg x 0) (m d:List UInt8) (k0 k1 k2:Int) (v:Int) (hv:-9223372036854775808<=v/\v<9223372036854775808) (up:Bool) (ms ds:List Int):
  ∃w f,aZ 20000000 g l dg x 0 m d k0 k1 k2 v up ms ds=some (w,f)/\uj up (inP g dg x 0) v w f:=by
 have hsm:=fJ hok
 unfold aZ
 rw [mK]
 simp only [ob]
 cases hX:hasX dg with
 | false=>
  have hin:=yE hok hX
  rw [vV 20000000 g l dg x 0 (by omega) (by omega),if_pos ⟨hok,hX⟩]
  simp only [Bool.not_false,cond_true]
  generalize (if g then -((val dg x.toNat:Nat):Int) else ((val dg x.toNat:Nat):Int))=w at *
  cases up with
  | true=>
   by_cases h:w>=v
   ·refine ⟨w,true,?_,?_⟩
    ·simp only [decide_eq_true h,cond_true]
    ·refine ⟨λ_=>⟨(hin w).2 rfl,h,λe he _=>?_⟩,λh=>by cases h⟩
     rw [(hin e).1 he];exact Int.le_refl _
   ·refine ⟨w,false,?_,?_⟩
    ·simp only [decide_eq_false h,cond_true,cond_false,Bool.not_true]
    ·refine ⟨(λh=>by cases h),λ_ e he ha=>?_⟩
     rw [(hin e).1 he,cT] at ha;omega
  | false=>
   by_cases h:w<=v
   ·refine ⟨w,true,?_,?_⟩
    ·simp only [decide_eq_true h,cond_true,cond_false,Bool.not_false]
    ·refine ⟨λ_=>⟨(hin w).2 rfl,h,λe he _=>?_⟩,λh=>by cases h⟩
     rw [(hin e).1 he];exact Int.le_refl _
   ·refine ⟨w,false,?_,?_⟩
    ·simp only [decide_eq_false h,cond_true,cond_false,Bool.not_false]
    ·refine ⟨(λh=>by cases h),λ_ e he ha=>?_⟩
     rw [(hin e).1 he,dV] at ha;omega
 | true=>
  have hin:=vR hok hX
  obtain ⟨rfl,rfl,_,hl,hd⟩:=kY hok hX
  have hm:=Cd hl hd
  simp only [Bool.not_true,cond_false]
  cases g with
  | false=>
   simp only [Bool.not_false,cond_true]
   have same:∀w f,uj up (λe=>Mk.hasM dg e=true/\0<=e) v w f->uj up (inP false dg 0 0) v w f:=λw f h=>by
    have hiff:∀e,(Mk.hasM dg e=true/\0<=e)↔inP false dg 0 0 e:=λe=>by
     rw [hin e]
     constructor
     ·rintro ⟨h1,_⟩;exact ⟨h1,λh=>by cases h⟩
     ·rintro ⟨h1,_⟩;exact ⟨h1,(Mk.jo h1).2.2.2.2.1⟩
    refine ⟨λhf=>?_,λhf e he=>h.2 hf e ((hiff e).2 he)⟩
    obtain ⟨b1,b2,b3⟩:=h.1 hf
    exact ⟨(hiff w).1 b1,b2,λe he=>b3 e ((hiff e).2 he)⟩
   cases up with
   | true=>
    obtain ⟨w,f,h1,h2,_⟩:=nB hm v 0 (by omega)
    exact ⟨w,f,by rw [h1],same w f h2⟩
   | false=>
    obtain ⟨w,f,h1,h2,_⟩:=nG hm v 0 (by omega)
    exact ⟨w,f,by rw [h1],same w f h2⟩
  | true=>
   simp only [Bool.not_true,cond_false]
   have hc:IntKind.wrap .i64 (0 - (cond (decide (((-9223372036854775807):Int)>v)) (-9223372036854775807) v))=min (-v) 9223372036854775807:=by
    by_cases h:((-9223372036854775807):Int)>v
    ·rw [decide_eq_true h,cond_true,wrap_i64 _ (by omega) (by omega)];omega
    ·rw [decide_eq_false h,cond_false,wrap_i64 _ (by omega) (by omega)];omega
   rw [hc]
   have hb:∀e,Mk.hasM dg e=true->0<=e/\e<10000:=λe he=>by
    have:=(Mk.jo he).2.2.2.2
    rw [hl] at this
    have e4:(10:Int) ^ 4=10000:=by decide
    omega
   have hiff:∀e,inP true dg 0 0 e↔(Mk.hasM dg (-e)=true/\1<=-e):=λe=>by
    rw [hin e]
    exact ⟨λh=>⟨h.1,h.2 rfl⟩,λh=>⟨h.1,λ_=>h.2⟩⟩
   have hw:∀w:Int,0<=w/\w<1000000000000000000->IntKind.wrap .i64 (0 - w)=-w:=λw h=>by rw [wrap_i64 _ (by omega) (by omega)];omega
   cases up with
   | true=>
    obtain ⟨w,f,h1,h2,h3⟩:=nG hm (min (-v) 9223372036854775807) 1 (by omega)
    refine ⟨-w,f,by rw [Bool.not_true,h1];simp only [hw w h3],?_,?_⟩
    ·intro hf
     obtain ⟨b1,b2,b3⟩:=h2.1 hf
     rw [dV] at b2
     refine ⟨(hiff _).2 (by rw [Int.neg_neg];exact b1),by rw [cT];omega,λe he ha=>?_⟩
     rw [cT] at ha
     have hh:=(hiff e).1 he
     have:=b3 (-e) hh (by rw [dV];have:=hb _ hh.1;omega)
     rw [dV] at this
     rw [cT];omega
    ·intro hf e he ha
     rw [cT] at ha
     have hh:=(hiff e).1 he
     exact h2.2 hf (-e) hh (by rw [dV];have:=hb _ hh.1;omega)
   | false=>
    obtain ⟨w,f,h1,h2,h3⟩:=nB hm (min (-v) 9223372036854775807) 1 (by omega)
    refine ⟨-w,f,by rw [Bool.not_false,h1];simp only [hw w h3],?_,?_⟩
    ·intro hf
     obtain ⟨b1,b2,b3⟩:=h2.1 hf
     rw [cT] at b2
     have hbw:=hb _ b1.1
     refine ⟨(hiff _).2 (by rw [Int.neg_neg];exact b1),by rw [dV];omega,λe he ha=>?_⟩
     rw [dV] at ha
     have hh:=(hiff e).1 he
     have:=b3 (-e) hh (by rw [cT];omega)
     rw [cT] at this
     rw [dV];omega
    ·intro hf e he ha
     rw [dV] at ha
     have hh:=(hiff e).1 he
     exact h2.2 hf (-e) hh (by rw [cT];omega)
theorem mz {X Y A:Type} {step:X->Option (X⊕Y)} {f:Nat->X} {L:List A} {G:A->Option Y} {e:Y}
  (h:∀i a,L[i]?=some a->step (f i)=some ((G a).elim (.inl (f (i+1))) Sum.inr)) (he:step (f L.length)=some (.inr e)) {N:Nat} (hN:L.length<N):
  ah step N (f 0)=some ((L.findSome? G).getD e):=by
 have go:∀(r i:Nat),i+r=L.length->∀N,r<N->ah step N (f i)=some (((L.drop i).findSome? G).getD e):=by
  intro r
  induction r with
  | zero=>
   intro i hi N hN
   obtain ⟨N,rfl⟩:∃q,N=q+1:=⟨N - 1,by omega⟩
   obtain rfl:i=L.length:=by omega
   rw [ah,he]
   simp
  | succ r ih=>
   intro i hi N hN
   obtain ⟨N,rfl⟩:∃q,N=q+1:=⟨N - 1,by omega⟩
   have hb:L[i]?=some L[i]:=List.getElem?_eq_getElem (by omega)
   rw [ah,h i L[i] hb,List.drop_eq_getElem_cons (show i<L.length by omega),List.findSome?_cons]
   cases hG:G L[i] with
   | some y=>rfl
   | none=>exact ih (i+1) (by omega) N (by omega)
 have:=go L.length 0 (by omega) N hN
 simpa using this
def ahd (up:Bool) (a b:Int):Bool:=cond up (decide (a<b)) (decide (a>b))
theorem vK (n:Nat) (a b:Int) (up:Bool):bz n a b up=some (ahd up a b):=by
 unfold bz ahd
 cases up
 ·rfl
 ·simp only [cond_true,Bool.not_true,cond_false]
  cases decide (a<b)<;>rfl
def qY (up same:Bool) (d:List UInt8) (cd most k:Int):Bool:=decide (k<=most)&&!(same&&(!(d==([]:List UInt8))&&ahd up k cd))
def zG (up:Bool) (m:List UInt8) (cy cm y mo:Int):Bool:=(y==cy)&&(!(m==([]:List UInt8))&&ahd up mo cm)
def wW (m:List UInt8) (cy cm y mo:Int):Bool:=(y==cy)&&((m==([]:List UInt8))||(mo==cm))
def uz (up:Bool) (m d:List UInt8) (cy cm cd y:Int) (ds:List Int) (mo:Int):Option (Int×Int×Int):=
 if zG up m cy cm y mo then none else (ds.find? (qY up (wW m cy cm y mo) d cd (oF d y mo))).map λk=>(y,mo,k)
def uv (up:Bool) (m d:List UInt8) (cy cm cd:Int) (ms ds:List Int) (y:Int):Option (Int×Int×Int):=ms.findSome? (uz up m d cy cm cd y ds)
def zu (d:List UInt8) (ms:List Int):Prop:=ms.length<=31/\(d≠[]->∀mo∈ms,1<=mo/\mo<=12)
theorem xn (n:Nat) (g l:Bool) (dg:List UInt8) (x q:Int) (m d:List UInt8) (k0 k1 k2:Int) {y:Int} (hy:dQ y) {mo:Int} (hmo:d≠[]->1<=mo/\mo<=12) (ms ds:List Int):
  cM n g l dg x q m d k0 k1 k2 y mo ms ds=some (oF d y mo):=by
 unfold cM oF
 by_cases hd:d=[]
 ·subst hd;rfl
 ·rw [ek hd,if_neg hd]
  have:=hmo hd
  obtain ⟨k,rfl⟩:∃k:Nat,mo=(k:Int):=⟨mo.toNat,by omega⟩
  rw [cond_false,D4 n hy (by omega) (by omega)]
  rfl
theorem Dr {A B Y:Type} (L:List A) (p:A->Bool) (F:A->B) (J:B->Y) (e:Y):(L.findSome? λa=>if p a then some (J (F a)) else none).getD e=((L.find? p).map F).elim e J:=by
 induction L with
 | nil=>rfl
 | cons a L ih=>
  rw [List.find?_cons,List.findSome?_cons]
  cases h:p a
  ·simpa using ih
  ·simp
theorem Fu {A B Y:Type} (L:List A) (G:A->Option B) (J:B->Y) (e:Y):(L.findSome? λa=>(G a).map J).getD e=(L.findSome? G).elim e J:=by
 induction L with
 | nil=>rfl
 | cons a L ih=>
  rw [List.findSome?_cons,List.findSome?_cons]
  cases h:G a
  ·simpa using ih
  ·simp
theorem Ag (n:Nat) (s y mo:Int) (same:Bool) (most lm im:Int) (ms ds:List Int) (g l:Bool) (dg:List UInt8) (x q:Int) (m d:List UInt8) (k0 k1 k2 cy cm cd:Int) (up:Bool) (ry rm rd:Int) (i:Nat) (k:Int) (hi:ds[i]?=some k) (h31:i<1000):
  aI n (s,y,mo,same,most,lm,im,((ds.length:Nat):Int),(i:Int),ms,ds,g,l,dg,x,q,m,d,k0,k1,k2,cy,cm,cd,up,ry,rm,rd)=some ((if qY up same d cd most k then some (.inl (true,y,mo,k)) else none).elim (.inl (s,y,mo,same,most,lm,im,((ds.length:Nat):Int),((i+1:Nat):Int),ms,ds,g,l,dg,x,q,m,d,k0,k1,k2,cy,cm,cd,up,ry,rm,rd)) Sum.inr):=by
 have hil:i<ds.length:=(List.getElem?_eq_some_iff.1 hi).1
 have w1:IntKind.wrap .i64 ((i:Int)+1)=((i+1:Nat):Int):=by rw [wrap_i64 _ (by omega) (by omega)];omega
 unfold aI dS qY
 simp only [d4,d8,d16,di hil,hi,ob,w1,vK]
 rw [decide_eq_true (show (i:Int)<((ds.length:Nat):Int) by omega)]
 simp only [cond_true]
 cases decide (k<=most)<;>cases same<;>cases (d==([]:List UInt8))<;>cases ahd up k cd<;>simp only [Bool.not_true,Bool.not_false,cond_true,cond_false,w1]<;>rfl
theorem DG (n:Nat) (s y mo:Int) (same:Bool) (most lm im:Int) (ms ds:List Int) (g l:Bool) (dg:List UInt8) (x q:Int) (m d:List UInt8) (k0 k1 k2 cy cm cd:Int) (up:Bool) (ry rm rd:Int):
  aI n (s,y,mo,same,most,lm,im,((ds.length:Nat):Int),((ds.length:Nat):Int),ms,ds,g,l,dg,x,q,m,d,k0,k1,k2,cy,cm,cd,up,ry,rm,rd)=some (.inr (.inr (s,y,lm,im,ms,ds,g,l,dg,x,q,m,d,k0,k1,k2,cy,cm,cd,up,ry,rm,rd))):=by
 unfold aI
 simp only [d4,d8,d16]
 rw [decide_eq_false (show ¬((ds.length:Nat):Int)<((ds.length:Nat):Int) by omega)]
 rfl
theorem DP (n:Nat) (hn:1000<n) (s y mo:Int) (same:Bool) (most lm im:Int) (ms ds:List Int) (g l:Bool) (dg:List UInt8) (x q:Int) (m d:List UInt8) (k0 k1 k2 cy cm cd:Int) (up:Bool) (ry rm rd:Int) (hd:ds.length<=31):
  ah (aI n) n (s,y,mo,same,most,lm,im,((ds.length:Nat):Int),0,ms,ds,g,l,dg,x,q,m,d,k0,k1,k2,cy,cm,cd,up,ry,rm,rd)=some (((ds.find? (qY up same d cd most)).map (λk=>(y,mo,k))).elim (.inr (s,y,lm,im,ms,ds,g,l,dg,x,q,m,d,k0,k1,k2,cy,cm,cd,up,ry,rm,rd)) (λz=>.inl (true,z))):=by
 have:=mz (step:=aI n) (f:=λi=>(s,y,mo,same,most,lm,im,((ds.length:Nat):Int),(i:Int),ms,ds,g,l,dg,x,q,m,d,k0,k1,k2,cy,cm,cd,up,ry,rm,rd)) (L:=ds) (G:=λk=>if qY up same d cd most k then some (.inl (true,y,mo,k)) else none) (e:=.inr (s,y,lm,im,ms,ds,g,l,dg,x,q,m,d,k0,k1,k2,cy,cm,cd,up,ry,rm,rd))
  (λi k hi=>by
   have hil:i<ds.length:=(List.getElem?_eq_some_iff.1 hi).1
   exact Ag n s y mo same most lm im ms ds g l dg x q m d k0 k1 k2 cy cm cd up ry rm rd i k hi (by omega))
  (DG n s y mo same most lm im ms ds g l dg x q m d k0 k1 k2 cy cm cd up ry rm rd) (N:=n) (by omega)
 exact this.trans (congrArg some (Dr ds (qY up same d cd most) (λk=>(y,mo,k)) (λz=>Sum.inl (true,z)) _))
theorem AZ (n:Nat) (hn:1000<n) (s y:Int) (hy:dQ y) (ms ds:List Int) (g l:Bool) (dg:List UInt8) (x q:Int) (m d:List UInt8) (k0 k1 k2 cy cm cd:Int) (up:Bool) (ry rm rd:Int) (hm:zu d ms) (hd:ds.length<=31) (i:Nat) (mo:Int) (hi:ms[i]?=some mo):
  aW n (s,y,((ms.length:Nat):Int),(i:Int),ms,ds,g,l,dg,x,q,m,d,k0,k1,k2,cy,cm,cd,up,ry,rm,rd)=some (((uz up m d cy cm cd y ds mo).map (λz=>(.inl (true,z):(Bool×Int×Int×Int)⊕_))).elim (.inl (s,y,((ms.length:Nat):Int),((i+1:Nat):Int),ms,ds,g,l,dg,x,q,m,d,k0,k1,k2,cy,cm,cd,up,ry,rm,rd)) Sum.inr):=by
 have hil:i<ms.length:=(List.getElem?_eq_some_iff.1 hi).1
 have h31:=hm.1
 have w1:IntKind.wrap .i64 ((i:Int)+1)=((i+1:Nat):Int):=by rw [wrap_i64 _ (by omega) (by omega)];omega
 have hmo:d≠[]->1<=mo/\mo<=12:=λh=>hm.2 h mo (List.mem_of_getElem? hi)
 have j20:∀a b:Int,cN n s y mo (y==cy) a b ms ds g l dg x q m d k0 k1 k2 cy cm cd up ry rm rd=some (s,y,mo,(y==cy),a,b,zG up m cy cm y mo,ms,ds,g,l,dg,x,q,m,d,k0,k1,k2,cy,cm,cd,up,ry,rm,rd):=by
  intro a b
  unfold cN zG
  simp only [vK,ob]
  cases (y==cy)<;>cases (m==([]:List UInt8))<;>rfl
 have j23:∀a b c:Int,cO n s y mo (y==cy) a b c ms ds g l dg x q m d k0 k1 k2 cy cm cd up ry rm rd=some (s,y,mo,wW m cy cm y mo,a,b,c,ms,ds,g,l,dg,x,q,m,d,k0,k1,k2,cy,cm,cd,up,ry,rm,rd):=by
  intro a b c
  unfold cO wW
  cases (y==cy)<;>cases (m==([]:List UInt8))<;>rfl
 unfold aW dX uz
 simp only [d4,d8,d16,di hil,hi,ob,j20]
 rw [decide_eq_true (show (i:Int)<((ms.length:Nat):Int) by omega)]
 simp only [cond_true]
 cases hs:zG up m cy cm y mo with
 | true=>simp only [cond_true,if_true,Option.map_none,w1];rfl
 | false=>
  simp only [cond_false,Bool.false_eq_true,if_false,xn n g l dg x q m d k0 k1 k2 hy hmo,j23,DP n hn s y mo (wW m cy cm y mo) (oF d y mo) _ _ ms ds g l dg x q m d k0 k1 k2 cy cm cd up ry rm rd hd]
  cases ds.find? (qY up (wW m cy cm y mo) d cd (oF d y mo)) with
  | some k=>rfl
  | none=>simp only [Option.map_none,Option.elim_none,w1]
theorem C0 (n:Nat) (hn:1000<n) (s y:Int) (hy:dQ y) (ms ds:List Int) (g l:Bool) (dg:List UInt8) (x q:Int) (m d:List UInt8) (k0 k1 k2 cy cm cd:Int) (up:Bool) (ry rm rd:Int) (hm:zu d ms) (hd:ds.length<=31):
  ah (aW n) n (s,y,((ms.length:Nat):Int),0,ms,ds,g,l,dg,x,q,m,d,k0,k1,k2,cy,cm,cd,up,ry,rm,rd)=some ((uv up m d cy cm cd ms ds y).elim (.inr (s,y,ms,ds,g,l,dg,x,q,m,d,k0,k1,k2,cy,cm,cd,up,ry,rm,rd)) (λz=>.inl (true,z))):=by
 have h31:=hm.1
 have:=mz (step:=aW n) (f:=λi=>(s,y,((ms.length:Nat):Int),(i:Int),ms,ds,g,l,dg,x,q,m,d,k0,k1,k2,cy,cm,cd,up,ry,rm,rd)) (L:=ms) (G:=λmo=>(uz up m d cy cm cd y ds mo).map (λz=>(.inl (true,z):(Bool×Int×Int×Int)⊕_))) (e:=.inr (s,y,ms,ds,g,l,dg,x,q,m,d,k0,k1,k2,cy,cm,cd,up,ry,rm,rd))
  (λi mo hi=>AZ n hn s y hy ms ds g l dg x q m d k0 k1 k2 cy cm cd up ry rm rd hm hd i mo hi)
  (by
   unfold aW
   simp only [d4,d8,d16]
   rw [decide_eq_false (show ¬((ms.length:Nat):Int)<((ms.length:Nat):Int) by omega)]
   rfl)
  (N:=n) (by omega)
 exact this.trans (congrArg some (Fu ms (uz up m d cy cm cd y ds) (λz=>Sum.inl (true,z)) _))
theorem Cb (n:Nat) (hn:1000<n) (s y:Int) (hy:dQ y) (ms ds:List Int) (g l:Bool) (dg:List UInt8) (x q:Int) (m d:List UInt8) (k0 k1 k2 cy cm cd:Int) (up:Bool) (ry rm rd:Int) (hm:zu d ms) (hd:ds.length<=31):
  bB n (s,y,true,ms,ds,g,l,dg,x,q,m,d,k0,k1,k2,cy,cm,cd,up,ry,rm,rd)=(uv up m d cy cm cd ms ds y).elim (ob (aZ n g l dg x q m d k0 k1 k2 (IntKind.wrap .i64 (y+s)) up ms ds) λr=>some (.inl (s,r.1,r.2,ms,ds,g,l,dg,x,q,m,d,k0,k1,k2,cy,cm,cd,up,ry,rm,rd))) (λz=>some (.inr (.inl (true,z)))):=by
 unfold bB
 simp only [d4,d8,d16,cond_true,ob,C0 n hn s y hy ms ds g l dg x q m d k0 k1 k2 cy cm cd up ry rm rd hm hd]
 cases uv up m d cy cm cd ms ds y<;>rfl
def vE (up:Bool) (Y:Int->Prop) (F:Int->Option (Int×Int×Int)) (v:Int):Option (Int×Int×Int)->Prop
 | some z=>∃e,Y e/\Mk.cP up v e/\F e=some z/\∀e',Y e'->Mk.cP up v e'->¬Mk.cP up e e'->F e'=none
 | none=>∀e,Y e->Mk.cP up v e->F e=none
theorem wI {X:Type} {step:X->Option (X⊕((Bool×Int×Int×Int)⊕(Int×Int×Int)))} {st:Int->Bool->X} {F:Int->Option (Int×Int×Int)} {Y:Int->Prop} {up:Bool} {s lo hi:Int} {E:Int×Int×Int} {fy:Int->Option (Int×Bool)}
  (hs:s=if up then 1 else -1) (hY:∀e,Y e->lo<=e/\e<=hi) (h0:-10000000000000000<=lo) (h1:hi<=10000000000000000)
  (hstep:∀y,Y y->step (st y true)=(F y).elim (ob (fy (IntKind.wrap .i64 (y+s))) λr=>some (.inl (st r.1 r.2))) (λz=>some (.inr (.inl (true,z)))))
  (hend:∀y,step (st y false)=some (.inr (.inr E)))
  (hfy:∀v,-9223372036854775808<=v/\v<9223372036854775808->∃w f,fy v=some (w,f)/\uj up Y v w f):
  ∀(r:Nat) (v y:Int) (f:Bool),uj up Y v y f->(f=true->(if up then hi - y else y - lo)<(r:Int))->∀N,r<N->
   ∃o,ah step N (st y f)=some (o.elim (.inr E) (λz=>.inl (true,z)))/\vE up Y F v o:=by
 intro r
 induction r with
 | zero=>
  intro v y f hn hr N hN
  obtain ⟨N,rfl⟩:∃q,N=q+1:=⟨N - 1,by omega⟩
  cases f with
  | true=>
   obtain ⟨a1,_,_⟩:=hn.1 rfl
   have:=hY y a1
   have:=hr rfl
   cases up<;>simp at this<;>omega
  | false=>
   refine ⟨none,by rw [ah,hend];rfl,λe he ha=>absurd ha (hn.2 rfl e he)⟩
 | succ r ih=>
  intro v y f hn hr N hN
  obtain ⟨N,rfl⟩:∃q,N=q+1:=⟨N - 1,by omega⟩
  cases f with
  | false=>
   refine ⟨none,by rw [ah,hend];rfl,λe he ha=>absurd ha (hn.2 rfl e he)⟩
  | true=>
   obtain ⟨a1,a2,a3⟩:=hn.1 rfl
   have hb:=hY y a1
   cases hF:F y with
   | some z=>
    refine ⟨some z,?_,y,a1,a2,hF,λe' h1 h2 h3=>absurd (a3 e' h1 h2) h3⟩
    rw [ah,hstep y a1,hF];rfl
   | none=>
    have hw:IntKind.wrap .i64 (y+s)=y+s:=by
     have:-1<=s/\s<=1:=by rw [hs];cases up<;>simp
     exact wrap_i64 _ (by omega) (by omega)
    obtain ⟨w,f',e1,e2⟩:=hfy (y+s) (by
     have:-1<=s/\s<=1:=by rw [hs];cases up<;>simp
     omega)
    have hstep':step (st y true)=some (.inl (st w f')):=by
     rw [hstep y a1,hF,hw]
     show ob (fy (y+s)) _=_
     rw [e1];rfl
    obtain ⟨o,i1,i2⟩:=ih (y+s) w f' e2 (λhf=>by
     obtain ⟨b1,b2,_⟩:=e2.1 hf
     have:=hr rfl
     cases up
     ·rw [dV] at b2
      simp only [Bool.false_eq_true,if_false] at hs this ⊢
      omega
     ·rw [cT] at b2
      simp only [if_true] at hs this ⊢
      omega) N (by omega)
    refine ⟨o,by rw [ah,hstep'];exact i1,?_⟩
    have split:∀e',Y e'->Mk.cP up v e'->e'=y\/Mk.cP up (y+s) e':=λe' h1 h2=>by
     have h3:=a3 e' h1 h2
     cases up
     ·rw [dV] at h3 ⊢
      simp only [Bool.false_eq_true,if_false] at hs
      omega
     ·rw [cT] at h3 ⊢
      simp only [if_true] at hs
      omega
    cases o with
    | none=>
     intro e he ha
     rcases split e he ha with rfl | h
     ·exact hF
     ·exact i2 e he h
    | some z=>
     obtain ⟨e,c1,c2,c3,c4⟩:=i2
     refine ⟨e,c1,?_,c3,λe' h1 h2 h3=>?_⟩
     ·cases up
      ·rw [dV] at c2 a2 ⊢
       simp only [Bool.false_eq_true,if_false] at hs
       omega
      ·rw [cT] at c2 a2 ⊢
       simp only [if_true] at hs
       omega
     ·rcases split e' h1 h2 with rfl | h
      ·exact hF
      ·exact c4 e' h1 h h3
theorem pY {g l:Bool} {dg:List UInt8} {x:Int} (hok:okY g l dg x 0):∃lo hi:Int,(∀e,inP g dg x 0 e->lo<=e/\e<=hi)/\hi - lo<=10000/\-10000000000000000<=lo/\hi<=10000000000000000:=by
 cases hX:hasX dg with
 | false=>
  have hin:=yE hok hX
  by_cases hv:-10000000000000000<=(if g then -((val dg x.toNat:Nat):Int) else ((val dg x.toNat:Nat):Int))/\(if g then -((val dg x.toNat:Nat):Int) else ((val dg x.toNat:Nat):Int))<=10000000000000000
  ·refine ⟨_,_,λe he=>?_,?_,hv.1,hv.2⟩
   ·rw [(hin e).1 he];exact ⟨Int.le_refl _,Int.le_refl _⟩
   ·omega
  ·refine ⟨0,0,λe he=>?_,by omega,by omega,by omega⟩
   exfalso
   have:=(hin e).1 he
   unfold inP at he
   exact hv ⟨by rw [<-this];exact he.1,by rw [<-this];exact he.2.1⟩
 | true=>
  have hin:=vR hok hX
  obtain ⟨_,_,_,hl,hd⟩:=kY hok hX
  refine ⟨if g then -9999 else 0,if g then 0 else 9999,λe he=>?_,by cases g<;>simp,by cases g<;>simp,by cases g<;>simp⟩
  have h:=((hin e).1 he).1
  have:=(Mk.jo h).2.2.2.2
  rw [hl] at this
  have e4:(10:Int) ^ 4=10000:=by decide
  unfold wOf at this
  cases g
  ·simp at this ⊢;omega
  ·simp at this ⊢;omega
theorem uc {g:Bool} {dg:List UInt8} {x q e:Int} (h:inP g dg x q e):dQ e:=⟨h.1,h.2.1⟩
theorem wn {g l:Bool} {dg:List UInt8} {x:Int} (hok:okY g l dg x 0) (m d:List UInt8) (k0 k1 k2:Int) (cy cm cd:Int) (hcy:-9223372036854775808<=cy/\cy<9223372036854775808) (ms ds:List Int) (hm:zu d ms) (hd:ds.length<=31):
  ∃o,ew 20000000 g l dg x 0 m d k0 k1 k2 cy cm cd true ms ds=some (o.elim (0,0,0,false) λz=>(z.1,z.2.1,z.2.2,true))/\vE true (inP g dg x 0) (uv true m d cy cm cd ms ds) cy o:=by
 obtain ⟨lo,hi,hb,hw,hb0,hb1⟩:=pY hok
 obtain ⟨w,f,e1,e2⟩:=za hok m d k0 k1 k2 cy hcy true ms ds
 obtain ⟨o,i1,i2⟩:=wI (step:=bB 20000000) (st:=λy f=>(1,y,f,ms,ds,g,l,dg,x,0,m,d,k0,k1,k2,cy,cm,cd,true,0,0,0)) (F:=uv true m d cy cm cd ms ds) (Y:=inP g dg x 0) (up:=true) (s:=1) (lo:=lo) (hi:=hi) (E:=(0,0,0)) (fy:=λv=>aZ 20000000 g l dg x 0 m d k0 k1 k2 v true ms ds)
  rfl hb hb0 hb1
  (λy hy=>Cb 20000000 (by omega) 1 y (uc hy) ms ds g l dg x 0 m d k0 k1 k2 cy cm cd true 0 0 0 hm hd)
  (λy=>rfl)
  (λv hv=>za hok m d k0 k1 k2 v hv true ms ds)
  10002 cy w f e2 (λhf=>by have:=hb w (e2.1 hf).1;simp;omega) 20000000 (by omega)
 refine ⟨o,?_,i2⟩
 unfold ew eO
 simp only [Bool.not_true,cond_false,ob,d4,d8,d16,e1]
 have i1':ah (bB 20000000) 20000000 (1,w,f,ms,ds,g,l,dg,x,0,m,d,k0,k1,k2,cy,cm,cd,true,0,0,0)=_:=i1
 rw [i1']
 cases o<;>rfl
theorem vo (m d:List UInt8) (cm cd:Int) {cy e:Int} (h:e≠cy) (ms ds:List Int):uv true m d cy cm cd ms ds e=none↔(ms.flatMap λmo=>(ds.filter λk=>decide (k<=oF d e mo)).map λk=>(e,mo,k))=[]:=by
 have hne:(e==cy)=false:=beq_eq_false_iff_ne.2 h
 unfold uv
 rw [List.findSome?_eq_none_iff,List.flatMap_eq_nil_iff]
 have:∀mo,uz true m d cy cm cd e ds mo=none↔((ds.filter λk=>decide (k<=oF d e mo)).map λk=>(e,mo,k))=[]:=by
  intro mo
  unfold uz zG wW
  rw [hne]
  simp only [Bool.false_and,Bool.false_eq_true,if_false,Option.map_eq_none_iff,List.find?_eq_none,List.map_eq_nil_iff,List.filter_eq_nil_iff]
  constructor
  ·intro h1 k hk
   have:=h1 k hk
   unfold qY at this
   simpa using this
  ·intro h1 k hk
   have:=h1 k hk
   unfold qY
   simpa using this
 exact ⟨λh1 mo hmo=>(this mo).1 (h1 mo hmo),λh1 mo hmo=>(this mo).2 (h1 mo hmo)⟩
def hasF (g:Bool) (dg:List UInt8) (x:Int) (m d:List UInt8):Prop:=∃e,inP g dg x 0 e/\oS m d e≠[]
open Classical in
noncomputable def chkF (g l:Bool) (dg:List UInt8) (x q:Int) (m d:List UInt8) (k0 k1 k2:Int):Int:=
 if chkD g l dg x q m d k0 k1 k2=0/\d≠[]/\¬hasF g dg x m d then 8 else chkD g l dg x q m d k0 k1 k2
theorem pj {g l:Bool} {dg:List UInt8} {x q:Int} {m d:List UInt8} {k0 k1 k2:Int} (h:chkD g l dg x q m d k0 k1 k2=0):okY g l dg x q/\(m=[]\/m.length=2)/\(d=[]\/d.length=2)/\(0<q->m=[])/\(d≠[]->m≠[]/\sea m=0):=by
 obtain ⟨c1,c2,c3,c4⟩:=Cj h
 unfold yrD at c1
 by_cases hok:okY g l dg x q
 ·rw [if_pos hok] at c1
  refine ⟨hok,?_,?_,λhq=>?_,λhd=>?_⟩
  ·rcases c2 with h | h | h
   ·exact .inl h
   ·exact .inr (uK h).1
   ·exact .inr (iJ (by omega) h).1
  ·rcases c3 with h | ⟨_,_,h⟩
   ·exact .inl h
   ·exact .inr (iJ (by omega) h).1
  ·unfold yrB at c1
   simp only [Bool.and_eq_true,Bool.not_eq_true'] at c1
   have:=c1.1
   rw [decide_eq_true hq,Bool.true_and] at this
   by_cases hm:m=[]
   ·exact hm
   ·rw [ek hm] at this;cases this
  ·rcases c3 with h | ⟨h1,h2,_⟩
   ·exact absurd h hd
   ·exact ⟨h1,h2⟩
 ·rw [if_neg hok] at c1;cases c1
theorem Au {g l:Bool} {dg:List UInt8} {x q:Int} (h:okY g l dg x q):0<=q:=(fJ h).2.2.1
theorem zS {m d:List UInt8} (h:d≠[]->m≠[]/\sea m=0):zu d (monI m):=by
 refine ⟨Nat.le_trans (vd m) (by omega),λhd mo hmo=>?_⟩
 obtain ⟨h1,h2⟩:=h hd
 unfold monI at hmo
 rw [if_neg h1,if_neg (by omega)] at hmo
 obtain ⟨k,hk,rfl⟩:=List.mem_map.1 hmo
 have:=List.mem_range'_1.1 (List.mem_filter.1 hk).1
 omega
theorem vi {g l:Bool} {dg:List UInt8} {x q:Int} {m d:List UInt8} {k0 k1 k2:Int} (hml:m.length<=18) (hdl:dg.length<=100) (h0:0<=k0) (h1:0<=k1) (h2:0<=k2):
  ej 20000000 g l dg x q m d k0 k1 k2=some (chkF g l dg x q m d k0 k1 k2):=by
 unfold ej chkF
 rw [rQ 20000000 (by omega) g l dg x q m d k0 k1 k2 hml hdl h0 h1 h2]
 simp only [ob]
 by_cases hc:chkD g l dg x q m d k0 k1 k2=0
 ·obtain ⟨hok,hm2,hd2,hq,hdm⟩:=pj hc
  rw [hc]
  simp only [bne_self_eq_false,cond_false]
  by_cases hd:d=[]
  ·subst hd
   rw [if_neg (by simp)];rfl
  ·rw [ek hd,cond_false]
   have hq0:q=0:=by
    have:=Au hok
    by_cases h:0<q
    ·exact absurd (hq h) (hdm hd).1
    ·omega
   subst hq0
   have e:=Gp 20000000 (by omega) g l dg x 0 m d k0 k1 k2 hm2 hd2
   have hmo:=zS hdm
   obtain ⟨o,o1,o2⟩:=wn hok m d k0 k1 k2 (-9223372036854775808) 0 0 (by omega) (monI m) (dayI d) hmo (uZ d)
   have hne:∀e,inP g dg x 0 e->e≠-9223372036854775808:=λe he=>by have:=uc he;unfold dQ at this;omega
   have key:(∃z,o=some z)↔hasF g dg x m d:=by
    constructor
    ·rintro ⟨z,rfl⟩
     obtain ⟨e,c1,_,c3,_⟩:=o2
     refine ⟨e,c1,λhn=>?_⟩
     have:=(vo m d 0 0 (hne e c1) (monI m) (dayI d)).2 hn
     rw [this] at c3;cases c3
    ·rintro ⟨e,c1,c2⟩
     cases o with
     | some z=>exact ⟨z,rfl⟩
     | none=>
      have:=o2 e c1 (by rw [cT];have:=uc c1;unfold dQ at this;omega)
      exact absurd ((vo m d 0 0 (hne e c1) (monI m) (dayI d)).1 this) c2
   rw [e]
   by_cases hF:hasF g dg x m d
   ·obtain ⟨z,rfl⟩:=key.2 hF
    rw [if_neg (λh=>h.2.2 hF)]
    all_goals
     simp only [d4,d8,o1]
     rfl
   ·have ho:o=none:=by
     cases o with
     | none=>rfl
     | some z=>exact absurd (key.1 ⟨z,rfl⟩) hF
    subst ho
    rw [if_pos ⟨rfl,hd,hF⟩]
    all_goals
     simp only [d4,d8,o1]
     rfl
 ·rw [if_neg (λh=>hc h.1)]
  have:(chkD g l dg x q m d k0 k1 k2 != 0)=true:=by simp [hc]
  rw [this];rfl
theorem AW {g l:Bool} {dg:List UInt8} {x:Int} (hok:okY g l dg x 0) (m d:List UInt8) (k0 k1 k2:Int):
  ∃r,gk 20000000 g l dg x 0 m d k0 k1 k2=some r/\(r=1/\hasF g dg x m d\/r=0/\¬hasF g dg x m d):=by
 have hsm:=fJ hok
 obtain ⟨lo,hi,hb,hw,hb0,hb1⟩:=pY hok
 obtain ⟨s1,s2,s3⟩:=zJ hok
 have hsp:=AO 19999700 g l dg x 0 (by omega) hok
 unfold gk
 rw [show (20000000:Nat)=19999700+300 from rfl,hsp]
 simp only [ob]
 generalize (sgn g (jc g dg x 0)).1=a at *
 generalize (sgn g (jc g dg x 0)).2=b at *
 have ha:=hb a s1
 have hb':=hb b s2
 have hY:=λy=>E1 19999700 hok y
 have step:∀i y,((List.range (b - a+1).toNat).map (λj:Nat=>a+(j:Int)))[i]?=some y->i<(b - a+1).toNat/\y=a+(i:Int):=by
  intro i y h
  rw [List.getElem?_map] at h
  cases hr:(List.range (b - a+1).toNat)[i]? with
  | none=>rw [hr] at h;cases h
  | some j=>
   rw [hr] at h
   have hi:=List.getElem?_eq_some_iff.1 hr
   obtain ⟨h1,h2⟩:=hi
   rw [List.getElem_range] at h2
   rw [List.length_range] at h1
   subst h2
   exact ⟨h1,(Option.some.inj h).symm⟩
 have hlen:((List.range (b - a+1).toNat).map (λj:Nat=>a+(j:Int))).length=(b - a+1).toNat:=by simp
 have:=mz (step:=dm (19999700+300)) (f:=λi=>(b,a+(i:Int),g,l,dg,x,0,m,d,k0,k1,k2)) (L:=(List.range (b - a+1).toNat).map (λj:Nat=>a+(j:Int))) (G:=λy=>if inP g dg x 0 y/\oS m d y≠[] then some (.inl 1) else none) (e:=.inr ())
  (λi y h=>by
   obtain ⟨hi,rfl⟩:=step i y h
   have w1:IntKind.wrap .i64 (a+(i:Int)+1)=a+((i+1:Nat):Int):=by rw [wrap_i64 _ (by omega) (by omega)];omega
   unfold dm
   simp only [d4,d8,w1]
   rw [decide_eq_true (show a+(i:Int)<=b by omega),hY,xe (19999700+300) (by omega)]
   by_cases hin:inP g dg x 0 (a+(i:Int))
   ·rw [if_pos hin]
    by_cases hyr:oS m d (a+(i:Int))=[]
    ·rw [if_neg (λh=>h.2 hyr),hyr];rfl
    ·rw [if_pos ⟨hin,hyr⟩]
     have hp:0<(oS m d (a+(i:Int))).length:=List.length_pos_iff.2 hyr
     have hd:decide ((((oS m d (a+(i:Int))).length:Nat):Int)>0)=true:=decide_eq_true (by omega)
     simp only [cond_true,ob,hd]
     rfl
   ·rw [if_neg hin,if_neg (λh=>hin h.1)];rfl)
  (by
   unfold dm
   simp only [d4,d8]
   rw [hlen,decide_eq_false (show ¬a+(((b - a+1).toNat:Nat):Int)<=b by omega)]
   rfl)
  (N:=19999700+300) (by rw [hlen];omega)
 rw [show a+((0:Nat):Int)=a by omega] at this
 rw [this]
 cases hfs:(List.findSome? (λy=>if inP g dg x 0 y/\oS m d y≠[] then some (Sum.inl (1:Int)) else none) ((List.range (b - a+1).toNat).map (λj:Nat=>a+(j:Int))):Option (Int⊕Unit)) with
 | none=>
  refine ⟨0,rfl,.inr ⟨rfl,?_⟩⟩
  rintro ⟨e,he1,he2⟩
  rw [List.findSome?_eq_none_iff] at hfs
  have hs:=s3 e he1
  have:=hfs e (List.mem_map.2 ⟨(e - a).toNat,List.mem_range.2 (by omega),by omega⟩)
  rw [if_pos ⟨he1,he2⟩] at this
  cases this
 | some z=>
  obtain ⟨y,hy1,hy2⟩:=List.exists_of_findSome?_eq_some hfs
  by_cases hh:inP g dg x 0 y/\oS m d y≠[]
  ·rw [if_pos hh] at hy2
   obtain rfl:=Option.some.inj hy2
   exact ⟨1,rfl,.inl ⟨rfl,y,hh.1,hh.2⟩⟩
  ·rw [if_neg hh] at hy2;cases hy2
theorem ul {g l:Bool} {dg:List UInt8} {x q:Int} {m d:List UInt8} {k0 k1 k2:Int} (hdl:dg.length<=100) (h0:0<=k0) (h1:0<=k1) (h2:0<=k2):
  d7 20000000 g l dg x q m d k0 k1 k2=some (chkF g l dg x q m d k0 k1 k2):=by
 unfold d7 chkF
 rw [tX 20000000 (by omega) g l dg x q m d k0 k1 k2 hdl h0 h1 h2]
 simp only [ob]
 by_cases hc:chkD g l dg x q m d k0 k1 k2=0
 ·obtain ⟨hok,hm2,hd2,hq,hdm⟩:=pj hc
  rw [hc]
  by_cases hd:d=[]
  ·subst hd
   rw [if_neg (by simp)];rfl
  ·have hq0:q=0:=by
    have:=Au hok
    by_cases h:0<q
    ·exact absurd (hq h) (hdm hd).1
    ·omega
   subst hq0
   obtain ⟨r,r1,r2⟩:=AW hok m d k0 k1 k2
   rw [ek hd,r1]
   rcases r2 with ⟨rfl,hF⟩ | ⟨rfl,hF⟩
   ·rw [if_neg (λh=>h.2.2 hF)];rfl
   ·rw [if_pos ⟨rfl,hd,hF⟩];rfl
 ·rw [if_neg (λh=>hc h.1)]
  have:(chkD g l dg x q m d k0 k1 k2==0)=false:=beq_eq_false_iff_ne.2 hc
  rw [this];rfl
theorem pp {g l:Bool} {dg:List UInt8} {x q:Int} {m d:List UInt8} {k0 k1 k2:Int} (h:chkF g l dg x q m d k0 k1 k2=0):chkD g l dg x q m d k0 k1 k2=0:=by
 unfold chkF at h
 split at h
 ·cases h
 ·exact h
theorem bne0 {e:Int} (h:e≠0):(e != 0)=true:=by simp [h]
theorem Ac {m d:List UInt8} {y:Int} {z:Int×Int×Int}:z∈oS m d y↔z.1=y/\z.2.1∈monI m/\z.2.2∈dayI d/\z.2.2<=oF d y z.2.1:=by
 unfold oS nl
 simp only [List.mem_flatMap,List.mem_map,List.mem_filter,decide_eq_true_eq]
 constructor
 ·rintro ⟨mo,h1,k,⟨h2,h3⟩,rfl⟩;exact ⟨rfl,h1,h2,h3⟩
 ·rintro ⟨h0,h1,h2,h3⟩
  exact ⟨z.2.1,h1,z.2.2,⟨h2,h3⟩,by rw [<-h0]⟩
theorem DO (y:Int) (i:Nat):(minL i:Int)<=lenI y (i:Int):=by
 unfold minL lenI
 repeat' split
 all_goals omega
theorem Ca {g l:Bool} {dg:List UInt8} {x:Int} (hok:okY g l dg x 0) {m d:List UInt8} (hm:m≠[]) (hs:sea m=0) (hd:d≠[]) (hf:fitD m d=true):hasF g dg x m d:=by
 obtain ⟨s1,_,_⟩:=zJ hok
 refine ⟨_,s1,?_⟩
 unfold fitD at hf
 simp only [List.any_eq_true,Bool.and_eq_true] at hf
 obtain ⟨i,hi,ha,k,hk,hka⟩:=hf
 have hi':=List.mem_range'_1.1 hi
 have hk':=List.mem_range'_1.1 hk
 have h31:minL i<=31:=by
  unfold minL
  repeat' split
  all_goals omega
 have hz:((sgn g (jc g dg x 0)).1,(i:Int),(k:Int))∈oS m d (sgn g (jc g dg x 0)).1:=by
  rw [Ac]
  refine ⟨rfl,?_,?_,?_⟩
  ·unfold monI
   rw [if_neg hm,if_neg (by omega)]
   exact List.mem_map.2 ⟨i,List.mem_filter.2 ⟨hi,ha⟩,rfl⟩
  ·unfold dayI
   rw [if_neg hd]
   exact List.mem_map.2 ⟨k,List.mem_filter.2 ⟨List.mem_range'_1.2 (by omega),hka⟩,rfl⟩
  ·unfold oF
   rw [if_neg hd]
   have:=DO (sgn g (jc g dg x 0)).1 i
   show (k:Int)<=lenI (sgn g (jc g dg x 0)).1 (i:Int)
   omega
 intro e
 rw [e] at hz
 cases hz
theorem Bv {g l:Bool} {dg:List UInt8} {x q:Int} {m d:List UInt8} {k0 k1 k2:Int} (hc:chkD g l dg x q m d k0 k1 k2=0) (hf:d=[]\/fitD m d=true):chkF g l dg x q m d k0 k1 k2=0:=by
 obtain ⟨hok,hm2,hd2,hq,hdm⟩:=pj hc
 unfold chkF
 rw [if_neg,hc]
 rintro ⟨_,hd,hn⟩
 obtain ⟨h1,h2⟩:=hdm hd
 have hq0:q=0:=by
  have:=Au hok
  by_cases h:0<q
  ·exact absurd (hq h) h1
  ·omega
 subst hq0
 exact hn (Ca hok h1 h2 hd (hf.resolve_left hd))
def plN (P:Nat×Nat×Nat) (i:Nat):Nat:=if i=0 then P.1 else if i=1 then P.2.1 else P.2.2
theorem mX {g l:Bool} {dg:List UInt8} {x q:Int} {m d:List UInt8} {k0 k1 k2:Int} (hk:allM k0 k1 k2 (ba m d)=0):chkF g l dg x q m d k0 k1 k2=0\/chkF g l dg x q m d k0 k1 k2=6\/chkF g l dg x q m d k0 k1 k2=7\/chkF g l dg x q m d k0 k1 k2=8:=by
 unfold chkF
 split
 ·exact .inr (.inr (.inr rfl))
 ·exact zH hk
noncomputable def chkR (r:DR):Nat:=(chkF r.1 r.2.1 r.2.2.1 (r.2.2.2.1:Int) (r.2.2.2.2.1:Int) r.2.2.2.2.2.1 r.2.2.2.2.2.2.1 (r.2.2.2.2.2.2.2.1.1:Int) (r.2.2.2.2.2.2.2.1.2.1:Int) (r.2.2.2.2.2.2.2.1.2.2:Int)).toNat
noncomputable def iW (S:List UInt8) (a:Nat):(Nat×Nat×Nat)⊕DR:=
 match lZ S a with
 | .inl k=>.inl (k,5,k)
 | .inr r=>if chkR r=0 then .inr r else .inl (plN r.2.2.2.2.2.2.2.2.1 (chkR r - 6),chkR r,r.2.2.2.2.2.2.2.2.2)
def Fn (S:List UInt8):(Nat×Nat×Nat)⊕DR->(Int×Int×List UInt8×Int)⊕(Bool×Bool×List UInt8×Int×Int×List UInt8×List UInt8×Int×Int×Int×Int×List UInt8×Int)
 | .inl (k,E,p)=>.inl ((k:Int),(E:Int),S,(p:Int))
 | .inr (g,l,dg,x,s,m,d,M,P,e)=>.inr (g,l,dg,(x:Int),(s:Int),m,d,(M.1:Int),(M.2.1:Int),(M.2.2:Int),(P.1:Int),S,(e:Int))
theorem C3 (S:List UInt8) (a:Nat) (h:a<=S.length) (hS:S.length<100000):iv 20000000 S (a:Int)=some (Fn S (iW S a)):=by
 have hr:fC 20000000 S (a:Int)=_:=Dg 19999700 S a h hS (by omega)
 unfold iv iW
 rw [hr]
 cases hd:lZ S a with
 | inl k=>rfl
 | inr r=>
  obtain ⟨g,l,dg,x,s,mm,d,M,P,e⟩:=r
  have hok:=md h hd
  have hM:=hok.all
  have h2:=hok.m2
  have h17:=hok.dg17
  simp only [ob,EE,d4,d8]
  rw [vi (g:=g) (l:=l) (x:=(x:Int)) (q:=(s:Int)) (d:=d) (show mm.length<=18 by omega) (show dg.length<=100 by omega) (show (0:Int)<=(M.1:Int) by omega) (show (0:Int)<=(M.2.1:Int) by omega) (show (0:Int)<=(M.2.2:Int) by omega)]
  simp only [ob]
  have hcs:=mX (g:=g) (l:=l) (dg:=dg) (x:=(x:Int)) (q:=(s:Int)) (m:=mm) (d:=d) (k0:=(M.1:Int)) (k1:=(M.2.1:Int)) (k2:=(M.2.2:Int)) (nc hM)
  unfold chkR
  simp only []
  rcases hcs with hc | hc | hc | hc<;>rw [hc]<;>rfl
abbrev BoT:=Int×Bool×Bool×List UInt8×Int×Int×List UInt8×List UInt8×Int×Int×Int
def exD (dg m d:List UInt8) (q:Int):Bool:=!(hasX dg||(hasX m||hasX d))&&(q==0)
theorem vh (n:Nat) (g l:Bool) (dg:List UInt8) (x q:Int) (m d:List UInt8) (k0 k1 k2:Int) (hm:m.length<=1000) (hd:dg.length<=1000) (h:d.length<=1000):fZ n g l dg x q m d k0 k1 k2=some (exD dg m d q):=by
 unfold fZ exD
 rw [zd n g l dg x q m d k0 k1 k2 hm hd h]
 simp only [ob]
 cases (hasX dg||(hasX m||hasX d))<;>rfl
theorem Cz {Y:Type} (a b:Y):∀s:List UInt8,((s.findSome? λc=>if c=88 then some a else none).getD b)=if hasX s then a else b
 | []=>rfl
 | c::s=>by
  have ih:=Cz a b s
  unfold hasX at ih ⊢
  rw [List.findSome?_cons,List.any_cons]
  by_cases hc:c=88
  ·subst hc;rfl
  ·rw [if_neg hc]
   have e:(c==88)=false:=beq_eq_false_iff_ne.2 hc
   rw [e,Bool.false_or]
   exact ih
theorem pO (n:Nat) (s:List UInt8) (g l:Bool) (dg:List UInt8) (x q:Int) (m d:List UInt8) (k0 k1 k2:Int) (hs:s.length<=100000) {N:Nat} (hN:s.length<N):
  ah (cj n) N (s,0,g,l,dg,x,q,m,d,k0,k1,k2)=some (if hasX s then .inl 0 else .inr (g,l,dg,x,q,m,d,k0,k1,k2)):=by
 have:=mz (step:=cj n) (f:=λi=>(s,(i:Int),g,l,dg,x,q,m,d,k0,k1,k2)) (L:=s) (G:=λc=>if c=88 then some (.inl 0) else none) (e:=.inr (g,l,dg,x,q,m,d,k0,k1,k2))
  (λi c hi=>by
   have hil:=(List.getElem?_eq_some_iff.1 hi).1
   have w1:IntKind.wrap .i64 ((i:Int)+1)=((i+1:Nat):Int):=by rw [wrap_i64 _ (by omega) (by omega)];omega
   unfold cj
   simp only [d4,d8,w1]
   rw [decide_eq_true (show (i:Int)<((s.length:Nat):Int) by omega),cn hi]
   simp only [cond_true,ob]
   by_cases hc:c=88
   ·subst hc
    rw [if_pos rfl];rfl
   ·rw [if_neg hc]
    have:(((c.toNat:Nat):Int)==88)=false:=by
     rw [beq_eq_false_iff_ne]
     intro h
     apply hc
     apply UInt8.toNat_inj.1
     have:c.toNat=88:=by omega
     rw [this];rfl
    rw [this];rfl)
  (by
   unfold cj
   simp only [d4,d8]
   rw [decide_eq_false (show ¬((s.length:Nat):Int)<((s.length:Nat):Int) by omega)];rfl)
  hN
 rw [show ((0:Nat):Int)=0 from rfl] at this
 rw [this]
 rw [Cz]
theorem yC (n:Nat) (g l:Bool) (dg:List UInt8) (x q:Int) (m d:List UInt8) (k0 k1 k2:Int) (hm:m.length<=1000) (hd:dg.length<=1000) (h:d.length<=1000) (hn:4000<n):cJ n g l dg x q m d k0 k1 k2=some (if exD dg m d q then 1 else 0):=by
 unfold cJ
 rw [df (by omega)]
 simp only [ob]
 rw [df (by rw [List.length_append];omega)]
 simp only []
 rw [pO n _ _ _ _ _ _ _ _ _ _ _ (by simp only [List.length_append];omega) (by simp only [List.length_append];omega)]
 rw [nN,nN]
 unfold exD
 cases hasX dg<;>cases hasX m<;>cases hasX d<;>(try rfl)
 simp only [Bool.or_false,Bool.false_eq_true,if_false,ob,d4,Bool.not_false,Bool.true_and]
 by_cases hq:q=0
 ·subst hq;rfl
 ·have e1:(q != 0)=true:=by simp [hq]
  have e2:(q==0)=false:=beq_eq_false_iff_ne.2 hq
  rw [e1,e2];rfl
theorem GJ {g l:Bool} {d:List UInt8} {x s:Int} (h:okY g l d x s):okY g l d x 0:=by
 unfold okY at h ⊢
 cases l with
 | true=>
  rw [if_pos rfl] at h ⊢
  unfold okL at h ⊢
  refine ⟨h.1,Int.le_refl _,?_⟩
  omega
 | false=>
  rw [if_neg (by simp)] at h ⊢
  unfold okS at h ⊢
  obtain ⟨h1,h2,h3,h4,h5,h6,h7⟩:=h
  exact ⟨h1,h2,h3,h4,Int.le_refl _,by omega,λh=>absurd h.1 (by omega)⟩
theorem Do (m a0 a2 a3 a4 a5 a6 a7 a8 a9:Nat) (g:Bool) (h2:a2<65536) (h3:a3<256) (h4:a4<256) (h5:a5<256) (h6:a6<256):
  ∃g' l dg x q mo d,ay (m+300) (a0:Int) g (a2:Int) (a3:Int) (a4:Int) (a5:Int) (a6:Int) (a7:Int) (a8:Int) (a9:Int)=some (g',l,dg,x,q,mo,d,((mksT (ba mo d) a7 a8 a9).1:Int),((mksT (ba mo d) a7 a8 a9).2.1:Int),((mksT (ba mo d) a7 a8 a9).2.2:Int))/\
   okY g' l dg x q/\lz g' dg x=false/\(a0%6≠3->hasX dg=false)/\dg.length<=5/\(q≠0->mo=[]/\d=[])/\(q=0->mo=monT (a5%40))/\
   (d=[]\/(mo∈((List.range 12).map λi=>two (i+1))++[[48,88],[49,88],[88,50],[88,88],[88,48],[88,57]]/\mo≠[]/\sea mo=0/\d=dayT (a6%40) mo)):=by
 obtain ⟨g',l,dg,x,q,e,hY,hd5,hx11,hnX⟩:=Du m a0 a2 a3 a4 g h2 h3 h4
 have hL:=Al hY hd5 hx11
 have t7:Int.tmod (a7:Int) 4=((a7%4:Nat):Int):=rfl
 have t8:Int.tmod (a8:Int) 4=((a8%4:Nat):Int):=rfl
 have t9:Int.tmod (a9:Int) 4=((a9%4:Nat):Int):=rfl
 obtain ⟨s1,s2,s3,s4,s5,s6⟩:=fJ hY
 have tail:∀(mo d:List UInt8) (o:Option (Bool×Bool×List UInt8×Int×Int×List UInt8×List UInt8×Int×Int×Int)),
   (ob (ae (m+300) g' l dg x q mo d 0 0 0) λr=>(cond (decide ((0:Int)<r)) (ob (ae (m+300) g' l dg x q mo d (Int.tmod (a7:Int) 4) 0 0) λr=>(cond (decide ((1:Int)<r)) (ob (ae (m+300) g' l dg x q mo d (Int.tmod (a7:Int) 4) (Int.tmod (a8:Int) 4) 0) λr=>(cond (decide ((2:Int)<r)) (ob (ae (m+300) g' l dg x q mo d (Int.tmod (a7:Int) 4) (Int.tmod (a8:Int) 4) (Int.tmod (a9:Int) 4)) λr=>(cond (decide ((3:Int)<r)) none (some (g',l,dg,x,q,mo,d,(Int.tmod (a7:Int) 4),(Int.tmod (a8:Int) 4),(Int.tmod (a9:Int) 4))))) (some (g',l,dg,x,q,mo,d,(Int.tmod (a7:Int) 4),(Int.tmod (a8:Int) 4),0)))) (some (g',l,dg,x,q,mo,d,(Int.tmod (a7:Int) 4),0,0)))) (some (g',l,dg,x,q,mo,d,0,0,0))))=some (g',l,dg,x,q,mo,d,((mksT (ba mo d) a7 a8 a9).1:Int),((mksT (ba mo d) a7 a8 a9).2.1:Int),((mksT (ba mo d) a7 a8 a9).2.2:Int)):=by
  intro mo d _
  have hc:=jG mo d
  have:ba mo d=1\/ba mo d=2\/ba mo d=3:=by omega
  rw [ef,ef,ef,ef]
  rcases this with h | h | h<;>rw [h]<;>rfl
 unfold ay
 rw [e]
 simp only [ob,d4]
 rw [eW]
 by_cases hq:q=0
 ·rw [if_pos hq]
  rw [wV m _ _ _ _ _ a5 _ _ _ _ h5]
  have hml:=yu (show a5%40<40 by omega)
  show ∃g'_1 l_1 dg_1 x_1 q_1 mo_1 d,cond (!(monT (a5%40)==[])) _ _=_/\_
  by_cases hm0:monT (a5%40)=[]
  ·refine ⟨g',l,dg,x,q,[],[],?_,hY,hL,hnX,hd5,λh=>absurd hq h,λ_=>hm0.symm,.inl rfl⟩
   rw [hm0]
   exact tail [] [] none
  ·rw [beq_eq_false_iff_ne.2 hm0]
   show ∃g'_1 l_1 dg_1 x_1 q_1 mo_1 d,ob (aC (m+300) g' l dg x q (monT (a5%40)) [] 0 0 0) _=_/\_
   rw [lu (m+300) (by omega)]
   show ∃g'_1 l_1 dg_1 x_1 q_1 mo_1 d,cond (sea (monT (a5%40))==0) _ _=_/\_
   rw [eW]
   by_cases hs:sea (monT (a5%40))=0
   ·rw [if_pos hs]
    have hin:=hml hs hm0
    rw [Bs m _ _ _ _ _ _ a6 _ _ _ (monT (a5%40)) hin h6]
    exact ⟨g',l,dg,x,q,monT (a5%40),dayT (a6%40) (monT (a5%40)),tail _ _ none,hY,hL,hnX,hd5,λh=>absurd hq h,λ_=>rfl,.inr ⟨hin,hm0,hs,rfl⟩⟩
   ·rw [if_neg hs]
    exact ⟨g',l,dg,x,q,monT (a5%40),[],tail _ [] none,hY,hL,hnX,hd5,λh=>absurd hq h,λ_=>rfl,.inl rfl⟩
 ·rw [if_neg hq]
  exact ⟨g',l,dg,x,q,[],[],tail [] [] none,hY,hL,hnX,hd5,λ_=>⟨rfl,rfl⟩,λh=>absurd h hq,.inl rfl⟩
theorem xa:((List.range 34).all λj=>!hasX (monT j))=true:=by decide +kernel
theorem wK:(((List.range 12).map λi=>two (i+1)).all λmo=>(List.range 32).all λj=>!hasX (dayT j mo))=true:=by decide +kernel
theorem Di:((((List.range 12).map λi=>two (i+1))++[[48,88],[49,88],[88,50],[88,88],[88,48],[88,57]]).all λmo=>hasX mo||decide (mo∈(List.range 12).map λi=>two (i+1)))=true:=by decide +kernel
theorem Dp (m a0 a2 a3 a4 a5 a6 a7 a8 a9:Nat) (g:Bool) (h2:a2<65536) (h3:a3<256) (h4:a4<256) (h5:a5<256) (h6:a6<256) (hf:a0%6≠3) (hm:a5%40<=33) (hd:a6%40<=31):
  ∃g' l dg x q mo d k0 k1 k2,ay (m+300) (a0:Int) g (a2:Int) (a3:Int) (a4:Int) (a5:Int) (a6:Int) (a7:Int) (a8:Int) (a9:Int)=some (g',l,dg,x,q,mo,d,((k0:Nat):Int),((k1:Nat):Int),((k2:Nat):Int))/\
   0<=q/\chkF g' l dg x 0 mo d (k0:Int) (k1:Int) (k2:Int)=0/\exD dg mo d 0=true/\mo.length<=18/\d.length<=18/\dg.length<=100:=by
 obtain ⟨g',l,dg,x,q,mo,d,e,hY,hL,hnX,hd5,hq1,hq0,hday⟩:=Do m a0 a2 a3 a4 a5 a6 a7 a8 a9 g h2 h3 h4 h5 h6
 have hX:=hnX hf
 have hmoX:hasX mo=false:=by
  by_cases h:q=0
  ·rw [hq0 h]
   have:=(List.all_eq_true.1 xa) (a5%40) (List.mem_range.2 (by omega))
   simpa using this
  ·rw [(hq1 h).1];rfl
 have hmo3:mo=[]\/0<sea mo\/(sea mo=0/\cG mo 12=true):=by
  by_cases h:q=0
  ·rw [hq0 h];exact DJ (by omega)
  ·exact .inl (hq1 h).1
 have hdd:d=[]\/(mo≠[]/\sea mo=0/\cG d 31=true/\fitD mo d=true/\hasX d=false):=by
  rcases hday with h | ⟨hin,hm0,hs,hde⟩
  ·exact .inl h
  ·have a1:=Em (show a6%40<40 by omega) hin
   have a2:=AY (show a6%40<40 by omega) hin
   rw [<-hde] at a1 a2
   by_cases h0:d=[]
   ·exact .inl h0
   ·right
    refine ⟨hm0,hs,a1.resolve_left h0,a2.resolve_left h0,?_⟩
    have b1:=(List.all_eq_true.1 Di) mo hin
    rw [hmoX,Bool.false_or,decide_eq_true_eq] at b1
    have b2:=(List.all_eq_true.1 ((List.all_eq_true.1 wK) mo b1)) (a6%40) (List.mem_range.2 (by omega))
    rw [hde]
    simpa using b2
 have hc:chkD g' l dg x 0 mo d ((mksT (ba mo d) a7 a8 a9).1:Int) ((mksT (ba mo d) a7 a8 a9).2.1:Int) ((mksT (ba mo d) a7 a8 a9).2.2:Int)=0:=
  E8 (GJ hY) hL (λh=>absurd h (by omega)) hmo3 (by
   rcases hdd with h | ⟨h1,h2,h3,_⟩
   ·exact .inl h
   ·exact .inr ⟨h1,h2,h3⟩) (C2 _ _ _ _)
 refine ⟨g',l,dg,x,q,mo,d,_,_,_,e,Au hY,Bv hc ?_,?_,?_,?_,by omega⟩
 ·rcases hdd with h | ⟨_,_,_,h,_⟩
  ·exact .inl h
  ·exact .inr h
 ·unfold exD
  have:hasX d=false:=by
   rcases hdd with h | ⟨_,_,_,_,h⟩
   ·rw [h];rfl
   ·exact h
  rw [hX,hmoX,this];rfl
 ·rcases hmo3 with h | h | ⟨_,h⟩
  ·rw [h];simp
  ·have:=(uK h).1;omega
  ·have:=(iJ (by omega) h).1;omega
 ·rcases hdd with h | ⟨_,_,h,_⟩
  ·rw [h];simp
  ·have:=(iJ (by omega) h).1;omega
theorem A7 (m a0 a2 a3 a4 a5 a6 a7 a8 a9:Nat) (g:Bool) (h0:a0<256) (h2:a2<65536) (h3:a3<256) (h4:a4<256) (h5:a5<256) (h6:a6<256):
  ∃g' l dg x mo d k0 k1 k2,fE (m+300) (a0:Int) g (a2:Int) (a3:Int) (a4:Int) (a5:Int) (a6:Int) (a7:Int) (a8:Int) (a9:Int)=some (g',l,dg,x,0,mo,d,((k0:Nat):Int),((k1:Nat):Int),((k2:Nat):Int))/\
   chkF g' l dg x 0 mo d (k0:Int) (k1:Int) (k2:Int)=0/\exD dg mo d 0=true/\mo.length<=18/\d.length<=18/\dg.length<=100:=by
 have t5:Int.tmod (a5:Int) 40=((a5%40:Nat):Int):=rfl
 have t6:Int.tmod (a6:Int) 40=((a6%40:Nat):Int):=rfl
 have t0:Int.tmod (a0:Int) 6=((a0%6:Nat):Int):=rfl
 have td:Int.tdiv ((a6%40:Nat):Int) 2=((a6%40 / 2:Nat):Int):=rfl
 have fin:∀(b0 b5 b6:Nat),b5<256->b6<256->b0%6≠3->b5%40<=33->b6%40<=31->
   ∃g' l dg x mo d k0 k1 k2,(ob (ay (m+300) (b0:Int) g (a2:Int) (a3:Int) (a4:Int) (b5:Int) (b6:Int) (a7:Int) (a8:Int) (a9:Int)) λr4606=>(cond (decide ((d4 r4606).1>0)) (some (r4606.1,r4606.2.1,r4606.2.2.1,r4606.2.2.2.1,(0:Int),(d4 r4606).2.1,(d4 r4606).2.2.1,(d4 r4606).2.2.2.1,(d8 r4606).1,(d8 r4606).2)) (some (r4606.1,r4606.2.1,r4606.2.2.1,r4606.2.2.2.1,(d4 r4606).1,(d4 r4606).2.1,(d4 r4606).2.2.1,(d4 r4606).2.2.2.1,(d8 r4606).1,(d8 r4606).2))))=some (g',l,dg,x,0,mo,d,((k0:Nat):Int),((k1:Nat):Int),((k2:Nat):Int))/\
   chkF g' l dg x 0 mo d (k0:Int) (k1:Int) (k2:Int)=0/\exD dg mo d 0=true/\mo.length<=18/\d.length<=18/\dg.length<=100:=by
  intro b0 b5 b6 c5 c6 c0 cm cd
  obtain ⟨g',l,dg,x,q,mo,d,k0,k1,k2,e,hq,r1,r2,r3,r4,r5⟩:=Dp m b0 a2 a3 a4 b5 b6 a7 a8 a9 g h2 h3 h4 c5 c6 c0 cm cd
  refine ⟨g',l,dg,x,mo,d,k0,k1,k2,?_,r1,r2,r3,r4,r5⟩
  rw [e]
  simp only [ob,d4,d8]
  by_cases h:q>0
  ·rw [decide_eq_true h];rfl
  ·obtain rfl:q=0:=by omega
   rw [decide_eq_false h];rfl
 have w5:33<a5%40->IntKind.wrap .u8 (((a5%40:Nat):Int) - 33)=((a5%40 - 33:Nat):Int):=λh=>by rw [dN _ (by omega) (by omega)];omega
 have w6:IntKind.wrap .u8 ((a6%40 / 2:Nat):Int)=((a6%40 / 2:Nat):Int):=dN _ (by omega) (by omega)
 unfold fE
 rw [t0,t5,t6,td,w6]
 have four:∀b0:Nat,b0%6≠3->∀K:Nat->Nat->Option (Bool×Bool×List UInt8×Int×Int×List UInt8×List UInt8×Int×Int×Int),
   (∀b5 b6:Nat,b5<256->b6<256->b5%40<=33->b6%40<=31->∃g' l dg x mo d k0 k1 k2,K b5 b6=some (g',l,dg,x,0,mo,d,((k0:Nat):Int),((k1:Nat):Int),((k2:Nat):Int))/\chkF g' l dg x 0 mo d (k0:Int) (k1:Int) (k2:Int)=0/\exD dg mo d 0=true/\mo.length<=18/\d.length<=18/\dg.length<=100)->
   ∃g' l dg x mo d k0 k1 k2,(cond (decide (((a5%40:Nat):Int)>33)) (cond (decide (((a6%40:Nat):Int)>31)) (K (a5%40 - 33) (a6%40 / 2)) (K (a5%40 - 33) a6)) (cond (decide (((a6%40:Nat):Int)>31)) (K a5 (a6%40 / 2)) (K a5 a6)))=some (g',l,dg,x,0,mo,d,((k0:Nat):Int),((k1:Nat):Int),((k2:Nat):Int))/\chkF g' l dg x 0 mo d (k0:Int) (k1:Int) (k2:Int)=0/\exD dg mo d 0=true/\mo.length<=18/\d.length<=18/\dg.length<=100:=by
  intro b0 hb0 K hK
  by_cases h5':33<a5%40
  ·rw [decide_eq_true (show ((a5%40:Nat):Int)>33 by omega)]
   by_cases h6':31<a6%40
   ·rw [decide_eq_true (show ((a6%40:Nat):Int)>31 by omega)]
    exact hK _ _ (by omega) (by omega) (by omega) (by omega)
   ·rw [decide_eq_false (show ¬((a6%40:Nat):Int)>31 by omega)]
    exact hK _ _ (by omega) (by omega) (by omega) (by omega)
  ·rw [decide_eq_false (show ¬((a5%40:Nat):Int)>33 by omega)]
   by_cases h6':31<a6%40
   ·rw [decide_eq_true (show ((a6%40:Nat):Int)>31 by omega)]
    exact hK _ _ (by omega) (by omega) (by omega) (by omega)
   ·rw [decide_eq_false (show ¬((a6%40:Nat):Int)>31 by omega)]
    exact hK _ _ (by omega) (by omega) (by omega) (by omega)
 have w5':∀{A:Type} (F:Int->Int->Option A) (b6:Nat),(cond (decide (((a5%40:Nat):Int)>33)) (F (IntKind.wrap .u8 (((a5%40:Nat):Int) - 33)) (b6:Int)) (F (a5:Int) (b6:Int)))=(cond (decide (((a5%40:Nat):Int)>33)) (F ((a5%40 - 33:Nat):Int) (b6:Int)) (F (a5:Int) (b6:Int))):=by
  intro A F b6
  by_cases h:33<a5%40
  ·rw [w5 h]
  ·rw [decide_eq_false (show ¬((a5%40:Nat):Int)>33 by omega)];rfl
 have w5c:33<a5%40\/¬33<a5%40:=by omega
 by_cases c3:a0%6=3
 ·rw [show (((a0%6:Nat):Int)==3)=true by rw [c3];rfl]
  simp only [cond_true]
  rcases w5c with h | h
  ·rw [w5 h];exact four 0 (by omega) (λb5 b6=>_) (λb5 b6 c5 c6 cm cd=>fin 0 b5 b6 c5 c6 (by omega) cm cd)
  ·have hx:=four 0 (by omega) (λb5 b6=>_) (λb5 b6 c5 c6 cm cd=>fin 0 b5 b6 c5 c6 (by omega) cm cd)
   rw [decide_eq_false (show ¬((a5%40:Nat):Int)>33 by omega)] at hx ⊢
   exact hx
 ·rw [show (((a0%6:Nat):Int)==3)=false from beq_eq_false_iff_ne.2 (by omega)]
  simp only [cond_false]
  by_cases c4:a0%6=4
  ·rw [show (((a0%6:Nat):Int)==4)=true by rw [c4];rfl]
   simp only [cond_true]
   rcases w5c with h | h
   ·rw [w5 h];exact four 0 (by omega) (λb5 b6=>_) (λb5 b6 c5 c6 cm cd=>fin 0 b5 b6 c5 c6 (by omega) cm cd)
   ·have hx:=four 0 (by omega) (λb5 b6=>_) (λb5 b6 c5 c6 cm cd=>fin 0 b5 b6 c5 c6 (by omega) cm cd)
    rw [decide_eq_false (show ¬((a5%40:Nat):Int)>33 by omega)] at hx ⊢
    exact hx
  ·rw [show (((a0%6:Nat):Int)==4)=false from beq_eq_false_iff_ne.2 (by omega)]
   simp only [cond_false]
   rcases w5c with h | h
   ·rw [w5 h];exact four a0 c3 (λb5 b6=>_) (λb5 b6 c5 c6 cm cd=>fin a0 b5 b6 c5 c6 c3 cm cd)
   ·have hx:=four a0 c3 (λb5 b6=>_) (λb5 b6 c5 c6 cm cd=>fin a0 b5 b6 c5 c6 c3 cm cd)
    rw [decide_eq_false (show ¬((a5%40:Nat):Int)>33 by omega)] at hx ⊢
    exact hx
theorem An:fK 20000000=some true:=by kernel_rfl
def Aq (g l:Bool) (dg:List UInt8) (x q:Int) (m d:List UInt8) (k0 k1 k2:Int):Bool:=
 (((g==false)&&((l==false)&&((dg==([]:List UInt8))&&((x==0)&&((q==0)&&true)))))&&((m==([]:List UInt8))&&((d==([]:List UInt8))&&(((k0==0)&&((k1==0)&&((k2==0)&&true)))&&true))))
noncomputable def chkB (K:Int) (g l:Bool) (dg:List UInt8) (x q:Int) (m d:List UInt8) (k0 k1 k2:Int):Int:=
 if K=1 then (if chkF g l dg x q m d k0 k1 k2=0 then (if exD dg m d q=true then 0 else 11) else chkF g l dg x q m d k0 k1 k2) else if K=2\/K=3 then (if Aq g l dg x q m d k0 k1 k2=true then 0 else 5) else 18
section
variable {K:Int} {g l:Bool} {dg:List UInt8} {x q:Int} {m d:List UInt8} {k0 k1 k2:Int} (hml:m.length<=18) (hdl:dg.length<=100) (hd18:d.length<=18) (h0:0<=k0) (h1:0<=k1) (h2:0<=k2)
include hml hdl hd18 h0 h1 h2
theorem rN:du 20000000 K g l dg x q m d k0 k1 k2=some (chkB K g l dg x q m d k0 k1 k2):=by
 unfold du chkB
 rw [vi hml hdl h0 h1 h2,vh 20000000 g l dg x q m d k0 k1 k2 (by omega) (by omega) (by omega)]
 simp only [ob]
 by_cases k1':K=1
 ·subst k1'
  rw [if_pos rfl]
  simp only [BEq.rfl,cond_true]
  by_cases hc:chkF g l dg x q m d k0 k1 k2=0
  ·rw [if_pos hc,hc]
   by_cases he:exD dg m d q=true
   ·rw [if_pos he,he];rfl
   ·rw [if_neg he]
    rw [Bool.not_eq_true] at he
    rw [he];rfl
  ·rw [if_neg hc,bne0 hc];rfl
 ·rw [if_neg k1',beq_eq_false_iff_ne.2 k1']
  simp only [cond_false]
  have hn:(!(((g==false)&&((l==false)&&((dg==([]:List UInt8))&&((x==0)&&((q==0)&&true)))))&&((m==([]:List UInt8))&&((d==([]:List UInt8))&&(((k0==0)&&((k1==0)&&((k2==0)&&true)))&&true)))))=!(Aq g l dg x q m d k0 k1 k2):=rfl
  rw [hn]
  by_cases k2':K=2
  ·subst k2'
   rw [if_pos (.inl rfl)]
   cases Aq g l dg x q m d k0 k1 k2<;>rfl
  ·rw [beq_eq_false_iff_ne.2 k2']
   by_cases k3':K=3
   ·subst k3'
    rw [if_pos (.inr rfl)]
    cases Aq g l dg x q m d k0 k1 k2<;>rfl
   ·rw [beq_eq_false_iff_ne.2 k3',if_neg (by omega)];rfl
theorem Dz:km 20000000 K g l dg x q m d k0 k1 k2=some (if chkB K g l dg x q m d k0 k1 k2=0 then (if K=2 then [46,46] else if K=3 then [] else jp g l dg x q m d k0.toNat k1.toNat k2.toNat,0) else ([],chkB K g l dg x q m d k0 k1 k2)):=by
 unfold km
 rw [rN hml hdl hd18 h0 h1 h2]
 simp only [ob]
 by_cases hc:chkB K g l dg x q m d k0 k1 k2=0
 ·rw [if_pos hc,hc]
  simp only [bne_self_eq_false,cond_false]
  by_cases k2':K=2
  ·subst k2';rfl
  ·rw [beq_eq_false_iff_ne.2 k2',if_neg k2']
   by_cases k3':K=3
   ·subst k3';rfl
   ·rw [beq_eq_false_iff_ne.2 k3',if_neg k3']
    have k1':K=1:=by
     unfold chkB at hc
     by_cases h:K=1
     ·exact h
     ·rw [if_neg h,if_neg (by omega)] at hc;cases hc
    have hF:chkF g l dg x q m d k0 k1 k2=0:=by
     unfold chkB at hc
     rw [if_pos k1'] at hc
     by_cases h:chkF g l dg x q m d k0 k1 k2=0
     ·exact h
     ·rw [if_neg h] at hc;exact absurd hc h
    have ht:dA 20000000 g l dg x q m d k0 k1 k2=_:=B5 19999700 g l dg x q m d k0 k1 k2 hml hdl h0 h1 h2
    rw [ht,if_pos (pp hF)]
    rfl
 ·rw [if_neg hc,bne0 hc];rfl
theorem xd (hc:chkB K g l dg x q m d k0 k1 k2=0):eP 20000000 K g l dg x q m d k0 k1 k2=some (if K=2 then [46,46] else if K=3 then [] else jp g l dg x q m d k0.toNat k1.toNat k2.toNat):=by
 have _u:=And.intro hml (And.intro hdl hd18)
 unfold eP
 by_cases k2':K=2
 ·subst k2';rfl
 ·rw [beq_eq_false_iff_ne.2 k2',if_neg k2']
  by_cases k3':K=3
  ·subst k3';rfl
  ·rw [beq_eq_false_iff_ne.2 k3',if_neg k3']
   have k1':K=1:=by
    unfold chkB at hc
    by_cases h:K=1
    ·exact h
    ·rw [if_neg h,if_neg (by omega)] at hc;cases hc
   have hF:chkF g l dg x q m d k0 k1 k2=0:=by
    unfold chkB at hc
    rw [if_pos k1'] at hc
    by_cases h:chkF g l dg x q m d k0 k1 k2=0
    ·exact h
    ·rw [if_neg h] at hc;exact absurd hc h
   have ht:dG 20000000 g l dg x q m d k0 k1 k2=_:=xl 19999700 h0 h1 h2 (pp hF)
   rw [ht]
   rfl
theorem B9 (hc:chkB K g l dg x q m d k0 k1 k2=0) (hk:K=1):chkF g l dg x q m d k0 k1 k2=0/\exD dg m d q=true:=by
 have _u:=And.intro hml (And.intro hdl (And.intro hd18 (And.intro h0 (And.intro h1 h2))))
 unfold chkB at hc
 rw [if_pos hk] at hc
 by_cases h:chkF g l dg x q m d k0 k1 k2=0
 ·rw [if_pos h] at hc
  by_cases he:exD dg m d q=true
  ·exact ⟨h,he⟩
  ·rw [if_neg he] at hc;cases hc
 ·rw [if_neg h] at hc;exact absurd hc h
end
theorem B_of (m a0 a1 a3 a4 a5 a6 a7 a8 a9 a10:Nat) (g:Bool) (h1:a1<256) (h3:a3<65536) (h4:a4<256) (h5:a5<256) (h6:a6<256) (h7:a7<256):
  ∃K g' l dg x mo d k0 k1 k2,f8 (m+300) (a0:Int) (a1:Int) g (a3:Int) (a4:Int) (a5:Int) (a6:Int) (a7:Int) (a8:Int) (a9:Int) (a10:Int)=some (K,g',l,dg,x,0,mo,d,((k0:Nat):Int),((k1:Nat):Int),((k2:Nat):Int))/\
   chkB K g' l dg x 0 mo d (k0:Int) (k1:Int) (k2:Int)=0/\mo.length<=18/\d.length<=18/\dg.length<=100/\(K=1\/((K=2\/K=3)/\g'=false/\l=false/\dg=[]/\x=0/\mo=[]/\d=[]/\k0=0/\k1=0/\k2=0)):=by
 have t0:Int.tmod (a0:Int) 6=((a0%6:Nat):Int):=rfl
 unfold f8
 rw [t0]
 by_cases c0:a0%6=0
 ·rw [c0]
  exact ⟨2,false,false,[],0,[],[],0,0,0,rfl,rfl,by simp,by simp,by simp,.inr ⟨.inl rfl,rfl,rfl,rfl,rfl,rfl,rfl,rfl,rfl,rfl⟩⟩
 ·rw [show (((a0%6:Nat):Int)==0)=false from beq_eq_false_iff_ne.2 (by omega)]
  by_cases c1:a0%6=1
  ·rw [c1]
   exact ⟨3,false,false,[],0,[],[],0,0,0,rfl,rfl,by simp,by simp,by simp,.inr ⟨.inr rfl,rfl,rfl,rfl,rfl,rfl,rfl,rfl,rfl,rfl⟩⟩
  ·rw [show (((a0%6:Nat):Int)==1)=false from beq_eq_false_iff_ne.2 (by omega)]
   obtain ⟨g',l,dg,x,mo,d,k0,k1,k2,e,hc,he,hml,hd18,hdl⟩:=A7 m a1 a3 a4 a5 a6 a7 a8 a9 a10 g h1 h3 h4 h5 h6 h7
   refine ⟨1,g',l,dg,x,mo,d,k0,k1,k2,?_,?_,hml,hd18,hdl,.inl rfl⟩
   ·simp only [cond_false]
    rw [e];rfl
   ·unfold chkB
    rw [if_pos rfl,if_pos hc,if_pos he]
def jb (K:Int):BoT:=(K,false,false,[],0,0,[],[],0,0,0)
def FR (r:DR):BoT:=(1,r.1,r.2.1,r.2.2.1,(r.2.2.2.1:Int),(r.2.2.2.2.1:Int),r.2.2.2.2.2.1,r.2.2.2.2.2.2.1,(r.2.2.2.2.2.2.2.1.1:Int),(r.2.2.2.2.2.2.2.1.2.1:Int),(r.2.2.2.2.2.2.2.1.2.2:Int))
def exR (r:DR):Bool:=exD r.2.2.1 r.2.2.2.2.2.1 r.2.2.2.2.2.2.1 (r.2.2.2.2.1:Int)
def plR (r:DR):Nat:=r.2.2.2.2.2.2.2.2.1.1
def enR (r:DR):Nat:=r.2.2.2.2.2.2.2.2.2
noncomputable def io (S:List UInt8) (a:Nat):(Nat×Nat×Nat)⊕(BoT×Nat×Nat):=
 if (S.drop a).take 2=[46,46] then .inr (jb 2,a,a+2)
 else if (S.drop a).head?=none\/(S.drop a).head?=some 47 then .inr (jb 3,a,a)
 else match iW S a with
  | .inl f=>.inl f
  | .inr r=>if exR r=true then .inr (FR r,plR r,enR r) else .inl (plR r,11,enR r)
def DF (S:List UInt8):(Nat×Nat×Nat)⊕(BoT×Nat×Nat)->(Int×Bool×Bool×List UInt8×Int×Int×List UInt8×List UInt8×Int×Int×Int×Int×List UInt8×Int)⊕(Int×Int×List UInt8×Int)
 | .inl (k,E,p)=>.inr ((k:Int),(E:Int),S,(p:Int))
 | .inr ((K,g,l,dg,x,q,m,d,k0,k1,k2),at_,p)=>.inl (K,g,l,dg,x,q,m,d,k0,k1,k2,(at_:Int),S,(p:Int))
theorem nh {l:List UInt8} {b:UInt8} (h:l.take 2=[b,b]):∃r,l=b::b::r:=by
 match l,h with
 | a::c::r,h=>simp at h;exact ⟨r,by rw [h.1,h.2]⟩
theorem yL {l:List UInt8} (h:l.head?=none):l=[]:=by
 cases l with
 | nil=>rfl
 | cons a l=>cases h
theorem rg {S:List UInt8} {a:Nat} (h:a<=S.length) {r:DR} (hr:iW S a=.inr r):lZ S a=.inr r/\chkR r=0:=by
 unfold iW at hr
 cases hd:lZ S a with
 | inl k=>rw [hd] at hr;cases hr
 | inr r'=>
  rw [hd] at hr
  simp only [] at hr
  by_cases hc:chkR r'=0
  ·rw [if_pos hc] at hr
   obtain rfl:=Sum.inr.inj hr
   exact ⟨rfl,hc⟩
  ·rw [if_neg hc] at hr;cases hr
theorem nW (c:UInt8) (k:Nat) (hk:k<256):(((c.toNat:Nat):Int)==(k:Int))=decide (c=UInt8.ofNat k):=by
 rw [Bool.eq_iff_iff,beq_iff_eq,decide_eq_true_iff]
 constructor
 ·intro h
  apply UInt8.toNat_inj.1
  have:c.toNat=k:=by omega
  rw [this];simp;omega
 ·rintro rfl
  simp;omega
theorem DN (S:List UInt8) (a:Nat) (h:a<=S.length) (hS:S.length<100000):kr 20000000 S (a:Int)=some (DF S (io S a)):=by
 have hf:=C3 S a h hS
 unfold kr io
 rw [to,rz 20000000 [46,46] S a h (by omega),show ([46,46]:List UInt8).length=2 from rfl]
 simp only [ob]
 by_cases h2:(S.drop a).take 2=[46,46]
 ·rw [if_pos h2,if_pos h2];rfl
 ·rw [if_neg h2,if_neg h2]
  simp only [cond_false]
  rw [mg 20000000 S a h]
  cases hd:S.drop a with
  | nil=>rw [if_pos (.inl rfl)];rfl
  | cons c r=>
   simp only [peek,ob,Bool.not_true,cond_false]
   have e47:(((c.toNat:Nat):Int)==47)=decide (c=47):=nW c 47 (by omega)
   rw [e47]
   by_cases hc:c=47
   ·have hor:(c::r).head?=none\/(c::r).head?=some (47:UInt8):=.inr (by rw [hc];rfl)
    rw [decide_eq_true hc,if_pos hor];rfl
   ·have hor:¬((c::r).head?=none\/(c::r).head?=some (47:UInt8)):=by
     rintro (h | h)
     ·cases h
     ·exact hc (Option.some.inj h)
    rw [decide_eq_false hc,if_neg hor,hf]
    simp only [cond_false]
    cases hr:iW S a with
    | inl f=>rfl
    | inr r=>
     obtain ⟨hrd,_⟩:=rg h hr
     obtain ⟨g,l,dg,x,s,mm,dd,M,P,e⟩:=r
     have hok:=md h hrd
     have hm2:=hok.m2
     have h17:=hok.dg17
     have hd2:=hok.d2
     simp only [Fn,d4,d8]
     rw [vh 20000000 g l dg (x:Int) (s:Int) mm dd _ _ _ (by omega) (by omega) (by omega)]
     have he:exR (g,l,dg,x,s,mm,dd,M,P,e)=exD dg mm dd (s:Int):=rfl
     rw [he]
     by_cases hx:exD dg mm dd (s:Int)=true
     ·rw [if_pos hx,hx];rfl
     ·rw [if_neg hx]
      rw [Bool.not_eq_true] at hx
      rw [hx]
      simp only [ob,Bool.not_false,cond_true]
      rw [n7]
      rfl
def xL (S:List UInt8) (A:Int):(Nat×Nat×Nat)⊕DR->Bool×Bool×List UInt8×Int×Int×List UInt8×List UInt8×Int×Int×Int×Int×List UInt8×Int×Int
 | .inl (k,E,p)=>(false,false,[],0,0,[],[],0,0,0,A,S,(k:Int),(E:Int))
 | .inr (g,l,dg,x,s,m,d,M,P,e)=>(g,l,dg,(x:Int),(s:Int),m,d,(M.1:Int),(M.2.1:Int),(M.2.2:Int),(P.1:Int),S,(e:Int),0)
theorem wu (S:List UInt8) (a:Nat) (h:a<=S.length) (hS:S.length<100000):∃A,cX 20000000 S (a:Int)=some (xL S A (iW S a)):=by
 obtain ⟨Q,hQ,hr⟩:=ud 19999700 S a h hS (by omega)
 rw [show 19999700+300=20000000 from rfl] at hr
 obtain ⟨q0,q1,q2,rfl⟩:∃q0 q1 q2,Q=[q0,q1,q2]:=by
  match Q,hQ with
  | [q0,q1,q2],_=>exact ⟨q0,q1,q2,rfl⟩
 unfold cX iW
 rw [hr]
 cases hd:lZ S a with
 | inl k=>exact ⟨q0,rfl⟩
 | inr r=>
  obtain ⟨g,l,dg,x,s,mm,d,M,P,e⟩:=r
  have hok:=md h hd
  have hM:=hok.all
  have h17:=hok.dg17
  simp only [ob,ER,d4,d8,bne_self_eq_false,cond_false]
  rw [ul (g:=g) (l:=l) (x:=(x:Int)) (q:=(s:Int)) (m:=mm) (d:=d) (show dg.length<=100 by omega) (show (0:Int)<=(M.1:Int) by omega) (show (0:Int)<=(M.2.1:Int) by omega) (show (0:Int)<=(M.2.2:Int) by omega)]
  have hcs:=mX (g:=g) (l:=l) (dg:=dg) (x:=(x:Int)) (q:=(s:Int)) (m:=mm) (d:=d) (k0:=(M.1:Int)) (k1:=(M.2.1:Int)) (k2:=(M.2.2:Int)) (nc hM)
  unfold chkR
  simp only []
  refine ⟨(P.1:Int),?_⟩
  rcases hcs with hc | hc | hc | hc<;>rw [hc]<;>rfl
def pJ (S:List UInt8) (A:Int):(Nat×Nat×Nat)⊕(BoT×Nat×Nat)->Int×Bool×Bool×List UInt8×Int×Int×List UInt8×List UInt8×Int×Int×Int×Int×List UInt8×Int×Int
 | .inl (k,E,p)=>(0,false,false,[],0,0,[],[],0,0,0,A,S,(k:Int),(E:Int))
 | .inr ((K,g,l,dg,x,q,m,d,k0,k1,k2),at_,p)=>(K,g,l,dg,x,q,m,d,k0,k1,k2,(at_:Int),S,(p:Int),0)
theorem tt {S:List UInt8} {a:Nat} (h:a<=S.length) {k E p:Nat} (hr:iW S a=.inl (k,E,p)):E≠0:=by
 unfold iW at hr
 cases hd:lZ S a with
 | inl k'=>rw [hd] at hr;simp only [] at hr;have:=Sum.inl.inj hr;simp at this;omega
 | inr r'=>
  rw [hd] at hr
  simp only [] at hr
  by_cases hc:chkR r'=0
  ·rw [if_pos hc] at hr;cases hr
  ·rw [if_neg hc] at hr
   have:=Sum.inl.inj hr
   simp at this
   omega
theorem wJ (S:List UInt8) (a:Nat) (h:a<=S.length) (hS:S.length<100000) (h2:¬(S.drop a).take 2=[46,46]):
  ∃A,(cond (decide ((a:Int)>=((List.length S:Nat):Int))) (some (3,false,false,[],0,0,[],[],0,0,0,(a:Int),S,(a:Int),0)) (ob (sx S (a:Int)) λc5245=>(cond (((c5245.toNat:Nat):Int)==47) (some (3,false,false,[],0,0,[],[],0,0,0,(a:Int),S,(a:Int),0)) (ob (cX 20000000 S (a:Int)) λr5253=>(cond ((d4 (d8 r5253)).2==0) (ob (cJ 20000000 r5253.1 r5253.2.1 r5253.2.2.1 r5253.2.2.2.1 (d4 r5253).1 (d4 r5253).2.1 (d4 r5253).2.2.1 (d4 r5253).2.2.2.1 (d8 r5253).1 (d8 r5253).2.1) λr5254=>(cond (r5254==0) (some (0,false,false,[],0,0,[],[],0,0,0,(d8 r5253).2.2.1,(d8 r5253).2.2.2.1,(d8 r5253).2.2.1,11)) (cond ((d4 (d8 r5253)).2 != 0) (some (0,false,false,[],0,0,[],[],0,0,0,(d8 r5253).2.2.1,(d8 r5253).2.2.2.1,(d4 (d8 r5253)).1,(d4 (d8 r5253)).2)) (some (1,r5253.1,r5253.2.1,r5253.2.2.1,r5253.2.2.2.1,(d4 r5253).1,(d4 r5253).2.1,(d4 r5253).2.2.1,(d4 r5253).2.2.2.1,(d8 r5253).1,(d8 r5253).2.1,(d8 r5253).2.2.1,(d8 r5253).2.2.2.1,(d4 (d8 r5253)).1,(d4 (d8 r5253)).2))))) (cond ((d4 (d8 r5253)).2 != 0) (some (0,false,false,[],0,0,[],[],0,0,0,(d8 r5253).2.2.1,(d8 r5253).2.2.2.1,(d4 (d8 r5253)).1,(d4 (d8 r5253)).2)) (some (1,r5253.1,r5253.2.1,r5253.2.2.1,r5253.2.2.2.1,(d4 r5253).1,(d4 r5253).2.1,(d4 r5253).2.2.1,(d4 r5253).2.2.2.1,(d8 r5253).1,(d8 r5253).2.1,(d8 r5253).2.2.1,(d8 r5253).2.2.2.1,(d4 (d8 r5253)).1,(d4 (d8 r5253)).2))))))))=some (pJ S A (io S a)):=by
 unfold io
 rw [if_neg h2]
 rcases Nat.lt_or_ge a S.length with hlt | hge
 ·obtain ⟨c,hc⟩:∃c,S[a]?=some c:=⟨S[a],List.getElem?_eq_getElem hlt⟩
  have hd:=aY hc
  rw [decide_eq_false (show ¬(a:Int)>=((S.length:Nat):Int) by omega),cn hc,hd,List.head?_cons]
  simp only [cond_false,ob]
  have e47:(((c.toNat:Nat):Int)==47)=decide (c=47):=nW c 47 (by omega)
  rw [e47]
  by_cases h47:c=47
  ·have hor:some c=none\/some c=some (47:UInt8):=.inr (by rw [h47])
   rw [decide_eq_true h47,if_pos hor]
   exact ⟨0,rfl⟩
  ·have hor:¬(some c=none\/some c=some (47:UInt8)):=by
    rintro (h | h)
    ·cases h
    ·exact h47 (Option.some.inj h)
   rw [decide_eq_false h47,if_neg hor]
   obtain ⟨A,hA⟩:=wu S a h hS
   rw [hA]
   simp only [cond_false]
   cases hr:iW S a with
   | inl f=>
    obtain ⟨k,E,p⟩:=f
    have hE:=tt h hr
    have hE':((E:Nat):Int)≠0:=by omega
    simp only [xL,d4,d8]
    rw [beq_eq_false_iff_ne.2 hE',bne0 hE']
    exact ⟨A,rfl⟩
   | inr r=>
    obtain ⟨hrd,_⟩:=rg h hr
    obtain ⟨g,l,dg,x,s,mm,dd,M,P,e⟩:=r
    have hok:=md h hrd
    have hm2:=hok.m2
    have h17:=hok.dg17
    have hd2:=hok.d2
    simp only [xL,d4,d8,BEq.rfl,cond_true]
    rw [yC 20000000 g l dg (x:Int) (s:Int) mm dd _ _ _ (by omega) (by omega) (by omega) (by omega)]
    have he:exR (g,l,dg,x,s,mm,dd,M,P,e)=exD dg mm dd (s:Int):=rfl
    rw [he]
    by_cases hx:exD dg mm dd (s:Int)=true
    ·rw [if_pos hx,if_pos hx];exact ⟨0,rfl⟩
    ·rw [if_neg hx,if_neg hx];exact ⟨(P.1:Int),rfl⟩
 ·rw [decide_eq_true (show (a:Int)>=((S.length:Nat):Int) by omega),List.drop_eq_nil_of_le hge,if_pos (.inl rfl)]
  exact ⟨0,rfl⟩
theorem wj (S:List UInt8) (a:Nat) (h:a<=S.length) (hS:S.length<100000):∃A,eM 20000000 S (a:Int)=some (pJ S A (io S a)):=by
 have w1:IntKind.wrap .i64 ((a:Int)+1)=((a+1:Nat):Int):=by rw [wrap_i64 _ (by omega) (by omega)];omega
 have w2:IntKind.wrap .i64 ((a:Int)+2)=((a+2:Nat):Int):=by rw [wrap_i64 _ (by omega) (by omega)];omega
 by_cases h2:(S.drop a).take 2=[46,46]
 ·obtain ⟨r,hr⟩:=nh h2
  have hlen:S.length=a+2+r.length:=by
   have:=congrArg List.length hr
   rw [List.length_drop] at this
   simp at this
   omega
  have g0:S[a]?=some 46:=by
   have:=congrArg (λl=>l[0]?) hr
   simpa using this
  have g1:S[a+1]?=some 46:=by
   have:=congrArg (λl=>l[1]?) hr
   simpa using this
  refine ⟨0,?_⟩
  unfold eM io
  rw [if_pos h2,w1,decide_eq_true (show ((a+1:Nat):Int)<((S.length:Nat):Int) by omega),cn g0,cn g1,w2]
  rfl
 ·obtain ⟨A,hA⟩:=wJ S a h hS h2
  refine ⟨A,?_⟩
  unfold eM
  rw [w1]
  by_cases hlt:a+1<S.length
  ·obtain ⟨c,hc⟩:∃c,S[a]?=some c:=⟨S[a],List.getElem?_eq_getElem (by omega)⟩
   obtain ⟨c',hc'⟩:∃c',S[a+1]?=some c':=⟨S[a+1],List.getElem?_eq_getElem hlt⟩
   rw [decide_eq_true (show ((a+1:Nat):Int)<((S.length:Nat):Int) by omega)]
   have s0:=cn hc
   have s1:=cn hc'
   have e46:(((c.toNat:Nat):Int)==46)=decide (c=46):=nW c 46 (by omega)
   have e46':(((c'.toNat:Nat):Int)==46)=decide (c'=46):=nW c' 46 (by omega)
   simp only [cond_true]
   rw [hA]
   rw [s0,s1]
   simp only [ob,e46,e46']
   by_cases h46:c=46
   ·rw [decide_eq_true h46]
    have hn:c'≠46:=by
     rintro rfl
     apply h2
     rw [aY hc,aY hc',h46]
     rfl
    rw [decide_eq_false hn]
    rfl
   ·rw [decide_eq_false h46]
    rfl
  ·rw [decide_eq_false (show ¬((a+1:Nat):Int)<((S.length:Nat):Int) by omega)]
   simp only [cond_false]
   rw [hA]
def isDS (c:UInt8):Bool:=c==46||c==47
theorem Gy {c:UInt8} (h:isDX c=true):isDS c=false:=by
 cases hc:isDS c with
 | false=>rfl
 | true=>
  unfold isDS at hc
  simp only [Bool.or_eq_true,beq_iff_eq] at hc
  rcases hc with rfl | rfl<;>exact absurd h (by decide)
theorem Aw {g l:Bool} {d:List UInt8} {x s:Nat} (h:okY g l d (x:Int) (s:Int)) (r:List UInt8):ct isDS (fb g l d (x:Int) (s:Int)++r):=by
 have hl:d≠[]:=by
  have:=(fJ h).2.2.2.2.1
  rintro rfl
  simp at this
 rw [gH]
 cases l with
 | true=>exact cf (by decide)
 | false=>
  cases g with
  | true=>exact cf (by decide)
  | false=>
   simp only [Bool.false_eq_true,if_false,List.nil_append,List.append_assoc]
   exact n8 hl (CH h) (λc=>Gy)
theorem DX {g l:Bool} {dg:List UInt8} {x q:Nat} {m d:List UInt8} {k0 k1 k2:Nat} (hok:OkD g l dg x q m d k0 k1 k2):ct isDS (jp g l dg (x:Int) (q:Int) m d k0 k1 k2):=by
 unfold jp bE
 rw [List.append_assoc,List.append_assoc]
 exact xv _ (by decide) (by decide) (by decide) (Aw hok.yr _)
theorem yB:∃k,lZ [] 0=.inl k:=⟨_,rfl⟩
theorem ww {g l:Bool} {dg:List UInt8} {x:Nat} {m d:List UInt8} {k0 k1 k2:Nat} (hok:OkD g l dg x 0 m d k0 k1 k2) (hc:chkF g l dg (x:Int) 0 m d (k0:Int) (k1:Int) (k2:Int)=0) (he:exD dg m d 0=true):
  ∃P,io (jp g l dg (x:Int) 0 m d k0 k1 k2) 0=.inr ((1,g,l,dg,(x:Int),0,m,d,(k0:Int),(k1:Int),(k2:Int)),P,(jp g l dg (x:Int) 0 m d k0 k1 k2).length):=by
 have hds:=DX hok
 obtain ⟨P,hr⟩:=wi hok (S:=jp g l dg (x:Int) ((0:Nat):Int) m d k0 k1 k2) (a:=0) (post:=[]) (by simp) m7 m7 m7
 rw [show ((0:Nat):Int)=0 from rfl] at hr hds
 generalize jp g l dg (x:Int) 0 m d k0 k1 k2=T at *
 unfold io
 rw [List.drop_zero]
 have h1:¬T.take 2=[46,46]:=by
  intro h
  obtain ⟨r,rfl⟩:=nh h
  exact absurd (hds 46 rfl) (by decide)
 have h2:¬(T.head?=none\/T.head?=some 47):=by
  rintro (h | h)
  ·have:=yL h
   subst this
   obtain ⟨k,hk⟩:=yB
   rw [hk] at hr;cases hr
  ·exact absurd (hds 47 h) (by decide)
 rw [if_neg h1,if_neg h2]
 have hf:iW T 0=.inr (g,l,dg,x,0,m,d,(k0,k1,k2),P,0+T.length):=by
  unfold iW
  rw [hr]
  have hk:chkR (g,l,dg,x,0,m,d,(k0,k1,k2),P,0+T.length)=0:=by
   unfold chkR
   simp only []
   rw [show ((0:Nat):Int)=0 from rfl,hc]
   rfl
  simp only []
  rw [if_pos hk]
 rw [hf]
 have hx:exR (g,l,dg,x,0,m,d,(k0,k1,k2),P,0+T.length)=true:=he
 simp only []
 rw [if_pos hx]
 refine ⟨P.1,?_⟩
 rw [show enR (g,l,dg,x,0,m,d,(k0,k1,k2),P,0+T.length)=T.length from Nat.zero_add _]
 rfl
noncomputable def chkT (b:BoT):Int:=chkB b.1 b.2.1 b.2.2.1 b.2.2.2.1 b.2.2.2.2.1 b.2.2.2.2.2.1 b.2.2.2.2.2.2.1 b.2.2.2.2.2.2.2.1 b.2.2.2.2.2.2.2.2.1 b.2.2.2.2.2.2.2.2.2.1 b.2.2.2.2.2.2.2.2.2.2
theorem Ak {S:List UInt8} {a:Nat} (h:a<=S.length) {b:BoT} {at_ p:Nat} (hr:io S a=.inr (b,at_,p)):chkT b=0/\p<=S.length/\b.2.2.2.1.length<=100/\b.2.2.2.2.2.2.1.length<=18/\b.2.2.2.2.2.2.2.1.length<=18/\0<=b.2.2.2.2.2.2.2.2.1/\0<=b.2.2.2.2.2.2.2.2.2.1/\0<=b.2.2.2.2.2.2.2.2.2.2:=by
 unfold io at hr
 by_cases h1:(S.drop a).take 2=[46,46]
 ·rw [if_pos h1] at hr
  obtain ⟨rfl,rfl,rfl⟩:jb 2=b/\a=at_/\a+2=p:=by simpa using hr
  obtain ⟨r,hr'⟩:=nh h1
  have:=congrArg List.length hr'
  rw [List.length_drop] at this
  simp at this
  refine ⟨?_,by omega,by simp [jb],by simp [jb],by simp [jb],by simp [jb],by simp [jb],by simp [jb]⟩
  unfold chkT chkB jb
  rfl
 ·rw [if_neg h1] at hr
  by_cases h2:(S.drop a).head?=none\/(S.drop a).head?=some 47
  ·rw [if_pos h2] at hr
   obtain ⟨rfl,rfl,rfl⟩:jb 3=b/\a=at_/\a=p:=by simpa using hr
   refine ⟨?_,h,by simp [jb],by simp [jb],by simp [jb],by simp [jb],by simp [jb],by simp [jb]⟩
   unfold chkT chkB jb
   rfl
  ·rw [if_neg h2] at hr
   cases hf:iW S a with
   | inl f=>rw [hf] at hr;cases hr
   | inr r=>
    rw [hf] at hr
    simp only [] at hr
    by_cases hx:exR r=true
    ·rw [if_pos hx] at hr
     obtain ⟨rfl,rfl,rfl⟩:FR r=b/\plR r=at_/\enR r=p:=by simpa using hr
     obtain ⟨hrd,hc⟩:=rg h hf
     obtain ⟨g,l,dg,x,s,mm,dd,M,P,e⟩:=r
     have hok:=md h hrd
     have h17:=hok.dg17
     have hm2:=hok.m2
     have hd2:=hok.d2
     have hcs:=mX (g:=g) (l:=l) (dg:=dg) (x:=(x:Int)) (q:=(s:Int)) (m:=mm) (d:=dd) (k0:=(M.1:Int)) (k1:=(M.2.1:Int)) (k2:=(M.2.2:Int)) (nc hok.all)
     have hF:chkF g l dg (x:Int) (s:Int) mm dd (M.1:Int) (M.2.1:Int) (M.2.2:Int)=0:=by
      unfold chkR at hc
      simp only [] at hc
      omega
     refine ⟨?_,hok.end_,?_,?_,?_,?_,?_,?_⟩
     ·show chkB 1 g l dg (x:Int) (s:Int) mm dd (M.1:Int) (M.2.1:Int) (M.2.2:Int)=0
      unfold chkB
      rw [if_pos rfl,if_pos hF]
      exact if_pos hx
     ·show dg.length<=100;omega
     ·show mm.length<=18;omega
     ·show dd.length<=18;omega
     ·show (0:Int)<=(M.1:Int);omega
     ·show (0:Int)<=(M.2.1:Int);omega
     ·show (0:Int)<=(M.2.2:Int);omega
    ·rw [if_neg hx] at hr;cases hr
theorem sS {S:List UInt8} {a:Nat} (h:a<=S.length) {k E p:Nat} (hr:io S a=.inl (k,E,p)):E≠0:=by
 unfold io at hr
 by_cases h1:(S.drop a).take 2=[46,46]
 ·rw [if_pos h1] at hr;cases hr
 ·rw [if_neg h1] at hr
  by_cases h2:(S.drop a).head?=none\/(S.drop a).head?=some 47
  ·rw [if_pos h2] at hr;cases hr
  ·rw [if_neg h2] at hr
   cases hf:iW S a with
   | inl f=>
    rw [hf] at hr
    simp only [] at hr
    obtain ⟨k',E',p'⟩:=f
    have:=tt h hf
    have e:=Sum.inl.inj hr
    simp at e
    omega
   | inr r=>
    rw [hf] at hr
    simp only [] at hr
    by_cases hx:exR r=true
    ·rw [if_pos hx] at hr;cases hr
    ·rw [if_neg hx] at hr
     have e:=Sum.inl.inj hr
     simp at e
     omega
noncomputable def nv (S:List UInt8):BoT×Int×Int:=
 match io S 0 with
 | .inl (k,E,_)=>(jb 0,(k:Int),(E:Int))
 | .inr (b,_,p)=>if p<S.length then (jb 0,(p:Int),5) else (b,0,0)
def Bt (r:BoT×Int×Int):Int×Bool×Bool×List UInt8×Int×Int×List UInt8×List UInt8×Int×Int×Int×Int×Int:=
 (r.1.1,r.1.2.1,r.1.2.2.1,r.1.2.2.2.1,r.1.2.2.2.2.1,r.1.2.2.2.2.2.1,r.1.2.2.2.2.2.2.1,r.1.2.2.2.2.2.2.2.1,r.1.2.2.2.2.2.2.2.2.1,r.1.2.2.2.2.2.2.2.2.2.1,r.1.2.2.2.2.2.2.2.2.2.2,r.2.1,r.2.2)
theorem A3 (S:List UInt8) (hS:S.length<100000):fV 20000000 S=some (Bt (nv S)):=by
 have hr:=DN S 0 (by omega) hS
 rw [show ((0:Nat):Int)=0 from rfl] at hr
 unfold fV dj jk nv
 rw [hr]
 cases hb:io S 0 with
 | inl f=>
  obtain ⟨k,E,p⟩:=f
  have hE:=sS (by omega) hb
  have hE':((E:Nat):Int)≠0:=by omega
  simp only [DF,ob,d4,d8]
  rw [bne0 hE']
  rfl
 | inr r=>
  obtain ⟨⟨K,g,l,dg,x,q,m,d,k0,k1,k2⟩,at_,p⟩:=r
  simp only [DF,ob,d4,d8]
  by_cases hp:p<S.length
  ·rw [decide_eq_true (show ((p:Nat):Int)<((S.length:Nat):Int) by omega),if_pos hp]
   rfl
  ·rw [decide_eq_false (show ¬((p:Nat):Int)<((S.length:Nat):Int) by omega),if_neg hp]
   rfl
theorem xp (K:Int) (g l:Bool) (dg:List UInt8) (x q:Int) (m d:List UInt8) (k0 k1 k2:Int) (L:List (List UInt8)) {i:Nat} {w:List UInt8} (hi:i<2) (hw:L[i]?=some w) (hwl:w.length<100000)
  (hown:i=1->nv w=((K,g,l,dg,x,q,m,d,k0,k1,k2),0,0)):
  aB 20000000 ((i:Int),K,g,l,dg,x,q,m,d,k0,k1,k2,L)=some (.inl (((i+1:Nat):Int),K,g,l,dg,x,q,m,d,k0,k1,k2,L)):=by
 have hl:=(List.getElem?_eq_some_iff.1 hw).1
 have w1:IntKind.wrap .i64 ((i:Int)+1)=((i+1:Nat):Int):=by rw [wrap_i64 _ (by omega) (by omega)];omega
 obtain ⟨A,hA⟩:=wj w 0 (by omega) hwl
 rw [show ((0:Nat):Int)=0 from rfl] at hA
 have hP:=A3 w hwl
 unfold aB
 simp only [d4,d8,d16,d32]
 rw [decide_eq_true (show (i:Int)<2 by omega)]
 simp only [cond_true,di hl,ob,hw,hP,hA]
 unfold nv at hown ⊢
 cases hb:io w 0 with
 | inl f=>
  obtain ⟨k,E,p⟩:=f
  have hE:=sS (by omega) hb
  have hE':((E:Nat):Int)≠0:=by omega
  have hi0:i=0:=by
   by_cases h:i=1
   ·have:=hown h
    rw [hb] at this
    have e:=congrArg (λr=>r.2.2) this
    exact absurd e hE'
   ·omega
  have n1:((i:Int)==1)=false:=beq_eq_false_iff_ne.2 (by omega)
  simp only [Bt,pJ,jb,d4,d8,d16,d32]
  unfold bu
  rw [beq_eq_false_iff_ne.2 hE']
  simp only [cond_false,d4,d8,d16,d32]
  unfold bp bZ
  rw [beq_eq_false_iff_ne.2 hE']
  simp only [cond_false,ob,d4,d8,d16,d32]
  unfold bq
  rw [bne0 hE']
  simp only [cond_true,d4,d8,d16,d32]
  unfold br
  simp only [BEq.rfl,Bool.and_self,Bool.not_true,cond_false,bne_self_eq_false,n1,d4,d8,d16,d32]
  unfold aR
  rw [beq_eq_false_iff_ne.2 hE']
  simp only [cond_false,d4,d8,d16,d32,w1]
 | inr r=>
  obtain ⟨b,at_,p⟩:=r
  obtain ⟨r1,r2,r3,r4,r5,r6,r7,r8⟩:=Ak (by omega) hb
  obtain ⟨K',g',l',dg',x',q',m',d',p0,p1,p2⟩:=b
  by_cases hp:p<w.length
  ·have hi0:i=0:=by
    by_cases h:i=1
    ·have:=hown h
     rw [hb] at this
     simp only [if_pos hp] at this
     have e:=congrArg (λr=>r.2.2) this
     exact absurd (show (5:Int)=0 from e) (by decide)
    ·omega
   have n1:((i:Int)==1)=false:=beq_eq_false_iff_ne.2 (by omega)
   have hlt:decide (((p:Nat):Int)<((w.length:Nat):Int))=true:=decide_eq_true (by omega)
   simp only [if_pos hp,Bt,pJ,jb,d4,d8,d16,d32]
   unfold bu
   simp only [BEq.rfl,cond_true,di hl,ob,hw,hlt,d4,d8,d16,d32]
   unfold bp
   simp only [cond_true,d4,d8,d16,d32]
   unfold bq
   rw [show ((5:Int) != 0)=true from rfl]
   simp only [cond_true,d4,d8,d16,d32]
   unfold br
   simp only [BEq.rfl,Bool.and_self,Bool.not_true,cond_false,bne_self_eq_false,n1,d4,d8,d16,d32]
   unfold aR
   rw [show ((5:Int)==0)=false from rfl]
   simp only [cond_false,d4,d8,d16,d32,w1]
  ·have hlt:decide (((p:Nat):Int)<((w.length:Nat):Int))=false:=decide_eq_false (by omega)
   simp only [if_neg hp,Bt,pJ,jb,d4,d8,d16,d32]
   unfold bu
   simp only [BEq.rfl,cond_true,di hl,ob,hw,hlt,d4,d8,d16,d32]
   unfold bp bZ
   simp only [BEq.rfl,cond_true,cond_false,ob,d4,d8,d16,d32]
   unfold bq
   simp only [bne_self_eq_false,cond_false,d4,d8,d16,d32]
   unfold br
   have hchk:du 20000000 K' g' l' dg' x' q' m' d' p0 p1 p2=some 0:=by
    rw [rN r4 r3 r5 r6 r7 r8]
    exact congrArg some r1
   by_cases h:i=1
   ·have:=hown h
    rw [hb] at this
    simp only [if_neg hp] at this
    have e:=congrArg (λr=>r.1) this
    simp only [Prod.mk.injEq] at e
    obtain ⟨rfl,rfl,rfl,rfl,rfl,rfl,rfl,rfl,rfl,rfl,rfl⟩:=e
    have n1:((i:Int)==1)=true:=by rw [h];rfl
    simp only [BEq.rfl,Bool.and_self,Bool.not_true,cond_false,cond_true,bne_self_eq_false,n1,d4,d8,d16,d32]
    unfold aR
    simp only [BEq.rfl,cond_true,hchk,ob,bne_self_eq_false,cond_false,d4,d8,d16,d32,w1]
   ·have n1:((i:Int)==1)=false:=beq_eq_false_iff_ne.2 (by omega)
    simp only [BEq.rfl,Bool.and_self,Bool.not_true,cond_false,cond_true,bne_self_eq_false,n1,d4,d8,d16,d32]
    unfold aR
    simp only [BEq.rfl,cond_true,hchk,ob,bne_self_eq_false,cond_false,d4,d8,d16,d32,w1]
theorem pV (S:List UInt8) (a0 a1 a3 a4 a5 a6 a7 a8 a9 a10:Nat) (g:Bool) (h1:a1<256) (h3:a3<65536) (h4:a4<256) (h5:a5<256) (h6:a6<256) (h7:a7<256):
  cb 20000000 S (a0:Int) (a1:Int) g (a3:Int) (a4:Int) (a5:Int) (a6:Int) (a7:Int) (a8:Int) (a9:Int) (a10:Int)=some true:=by
 unfold cb
 rw [An,aX]
 by_cases hl:((S.length:Nat):Int)>60
 ·rw [if_pos hl];rfl
 rw [if_neg hl]
 obtain ⟨K,g',l,dg,x,mo,d,k0,k1,k2,e,hc,hml,hd18,hdl,hK⟩:=B_of 19999700 a0 a1 a3 a4 a5 a6 a7 a8 a9 a10 g h1 h3 h4 h5 h6 h7
 rw [show 19999700+300=20000000 from rfl] at e
 have n0:∀k:Nat,(0:Int)<=(k:Int):=λk=>by omega
 rw [e]
 simp only [ob,d4,d8]
 rw [Dz hml hdl hd18 (n0 _) (n0 _) (n0 _),if_pos hc]
 simp only [ob]
 have own:∃T:List UInt8,(if K=2 then [46,46] else if K=3 then [] else jp g' l dg x 0 mo d ((k0:Nat):Int).toNat ((k1:Nat):Int).toNat ((k2:Nat):Int).toNat)=T/\T.length<100000/\nv T=((K,g',l,dg,x,0,mo,d,(k0:Int),(k1:Int),(k2:Int)),0,0):=by
  rcases hK with rfl | ⟨h23,rfl,rfl,rfl,rfl,rfl,rfl,rfl,rfl,rfl⟩
  ·obtain ⟨f1,g1⟩:=B9 hml hdl hd18 (n0 _) (n0 _) (n0 _) hc rfl
   obtain ⟨x',q',a,b,c,e1,e2,e3,e4,e5,hok⟩:=uW (n0 k0) (n0 k1) (n0 k2) (pp f1)
   have e3:k0=a:=by omega
   have e4:k1=b:=by omega
   have e5:k2=c:=by omega
   have hq:q'=0:=by omega
   subst e1 e3 e4 e5 hq
   obtain ⟨P,hr⟩:=ww hok f1 g1
   have hlen:=yV hok
   rw [show ((0:Nat):Int)=0 from rfl] at hlen
   refine ⟨jp g' l dg (x':Int) 0 mo d k0 k1 k2,?_,by omega,?_⟩
   ·rw [if_neg (by decide),if_neg (by decide),Int.toNat_natCast,Int.toNat_natCast,Int.toNat_natCast]
   ·unfold nv
    rw [hr]
    simp only []
    rw [if_neg (by omega)]
  ·rcases h23 with rfl | rfl
   ·refine ⟨[46,46],rfl,by decide,?_⟩
    unfold nv io
    rfl
   ·refine ⟨[],rfl,by decide,?_⟩
    unfold nv io
    rfl
 obtain ⟨T,hT,hTl,hTp⟩:=own
 have hTx:eP 20000000 K g' l dg x 0 mo d (k0:Int) (k1:Int) (k2:Int)=some T:=by
  rw [xd hml hdl hd18 (n0 _) (n0 _) (n0 _) hc,hT]
 rw [hT]
 have j6:co 20000000 S T 0 K g' l dg x 0 mo d (k0:Int) (k1:Int) (k2:Int)=some (S,T,false,K,g',l,dg,x,0,mo,d,(k0:Int),(k1:Int),(k2:Int)):=by
  unfold co
  rw [hTx,rN hml hdl hd18 (n0 _) (n0 _) (n0 _),hc]
  simp only [bne_self_eq_false,cond_false,ob,BEq.rfl,Bool.not_true]
 rw [j6]
 simp only [cond_false,d4,d8]
 have s0:=xp K g' l dg x 0 mo d (k0:Int) (k1:Int) (k2:Int) [S,T] (i:=0) (w:=S) (by omega) rfl (by omega) (λh=>by cases h)
 have s1:=xp K g' l dg x 0 mo d (k0:Int) (k1:Int) (k2:Int) [S,T] (i:=1) (w:=T) (by omega) rfl hTl (λ_=>hTp)
 have s2:aB 20000000 (((1+1:Nat):Int),K,g',l,dg,x,0,mo,d,(k0:Int),(k1:Int),(k2:Int),[S,T])=some (.inr (.inr ())):=rfl
 show ob (ah (aB 20000000) (19999999+1) (((0:Nat):Int),K,g',l,dg,x,0,mo,d,(k0:Int),(k1:Int),(k2:Int),[S,T])) _=_
 rw [ah,s0]
 show ob (ah (aB 20000000) (19999998+1) (((1:Nat):Int),K,g',l,dg,x,0,mo,d,(k0:Int),(k1:Int),(k2:Int),[S,T])) _=_
 rw [ah,s1]
 show ob (ah (aB 20000000) (19999997+1) _) _=_
 rw [ah,s2]
 rfl
end Go.Sh
