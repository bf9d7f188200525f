
/- Plain proofs, kept as far as they are needed here (printed by prune.py).
   Conditions: none. -/
import Derived.Test.YtaogbalpingjhaaGreatDoorLawSzb
set_option linter.unusedVariables false
set_option linter.unusedSimpArgs false
set_option maxRecDepth 100000
namespace Go.Sh
open Go.Abs
def mx (a b:Int):Int:=if a>b then a else b
def lvR (S:aa) (p:Nat) (r:DR):Int:=lvT ((S.drop p).take (enR r - p)) (tdR r)
theorem HU (u:aa) (b X:Bool) (c:Int):0<=lvl u b X c/\lvl u b X c<=2:=by
 unfold lvl
 repeat' split
 all_goals omega
theorem HF (S:aa) (p:Nat) (r:DR):0<=lvR S p r/\lvR S p r<=2:=HU _ _ _ _
theorem bcT {x:TD} (h:smT x) (K:Int):ap10 (fR 20000000 K) x=some (pt K x):=sP h.1 h.2.1 h.2.2.1 h.2.2.2.1 h.2.2.2.2.1 h.2.2.2.2.2
theorem y4 (n:Nat) (a:Int) (S:aa) (p:Int) (I:List TI) (K:Int) (D:TD) (KF:Int) (DF:TD) (KT:Int) (DT:TD) (e l:Bool) (lv:Int):
  cc n a S p I K D KF DF KT DT e l lv=some (K,D,KF,DF,KT,DT,e,l,mx a lv):=by
 unfold cc mx;rw [bM]
theorem G5 (I:List TI) (K:Int) (D:TD) (KF:Int) (DF:TD) (KT:Int) (DT:TD) (e l:Bool) (lv:Int) {S:aa} {p:Nat} (h:p<=S.length) (g:S.length<100000):
  cD 20000000 I K D KF DF KT DT e l lv S (p:Int)=some (match di S p with
   | .inl f=>.inl ((f.1:Int),(f.2.1:Int),K,D,KF,DF,KT,DT,e,l,lv,S,(f.2.2:Int))
   | .inr r=>.inr (tdR r,((plR r:Nat):Int),K,D,KF,DF,KT,DT,e,l,mx (lvR S p r) lv,S,((enR r:Nat):Int))):=by
 unfold cD;rw [qA _ _ _ h,A8 S p h g];cases a:di S p with
 | inl f=>rfl
 | inr r=>
  obtain ⟨k,i,j,d⟩:=kb h a;obtain ⟨_,_,_,_,_,_,_,_,_,b⟩:=LX h a;rw [zo];simp only [obs,sm,ob];rw [show (d4 (d8 ((tdR r).1,(tdR r).2.1,(tdR r).2.2.1,(tdR r).2.2.2.1,(tdR r).2.2.2.2.1,(tdR r).2.2.2.2.2.1,(tdR r).2.2.2.2.2.2.1,(tdR r).2.2.2.2.2.2.2.1,(tdR r).2.2.2.2.2.2.2.2.1,(tdR r).2.2.2.2.2.2.2.2.2,((plR r:Nat):Int),S,((enR r:Nat):Int))))=((enR r:Nat):Int) from rfl,qA _ _ _ d];simp only [];have c:w64 (len (S.drop p) - len (S.drop (enR r)))=((enR r - p:Nat):Int):=by
   show IntKind.wrap .i64 (((S.drop p).length:Int) - ((S.drop (enR r)).length:Int))=_;rw [cZ,cZ,wrap_i64 _ (by omega) (by omega)];omega
  rw [c,eD (by rw [cZ];omega)];simp only [cH];rw [show jJ 20000000 ((S.drop p).take (enR r - p)) (iF ((tdR r).1,(tdR r).2.1,(tdR r).2.2.1,(tdR r).2.2.2.1,(tdR r).2.2.2.2.1,(tdR r).2.2.2.2.2.1,(tdR r).2.2.2.2.2.2.1,(tdR r).2.2.2.2.2.2.2.1,(tdR r).2.2.2.2.2.2.2.2.1,(tdR r).2.2.2.2.2.2.2.2.2,((plR r:Nat):Int),S,((enR r:Nat):Int)))=_ from b];simp only [y4,u9,u8,u7,u6,u5,u4,u3,u2];rfl
theorem C5 {x:TD} (h:smT x) (hc:cF x=0) (a K:Int) (D:TD) (KF:Int) (DF:TD) (KT:Int) (DT:TD) (e l:Bool) (lv:Int) (S:aa) (p:Int) (I:List TI):
  cf 20000000 x a K D KF DF KT DT e l lv S p I=some (if exT x=true then .inr (1,x) else .inl (a,11)):=by
 unfold cf;rw [bcT h,CL,ae hc];cases exT x<;>rfl
noncomputable def toP (S:aa) (p:Nat) (KF:Int) (DF:TD) (lv:Int):(Nat×Nat)⊕(Int×TD×Int×Nat):=
 if KF=1/\p=S.length then .inr (3,d0,mx 1 lv,p)
 else if KF=1/\dts (S.drop p)=true then .inr (2,d0,mx 1 lv,p+2)
 else match di S p with
  | .inl f=>.inl (f.1,f.2.1)
  | .inr r=>if exT (tdR r)=true then (if enR r<S.length\/nS KF DF 1 (tdR r)=0 then .inr (1,tdR r,mx (lvR S p r) (if KF=1 then lv else mx 1 lv),enR r) else .inl (plR r,11)) else .inl (plR r,11)
def RL (S:aa) (D:TD) (KF:Int) (DF:TD) (e l:Bool):(Nat×Nat)⊕(Int×TD×Int×Nat)->(Int×TD×Int×TD×Int×TD×Bool×Bool×Int×aa×Int)⊕(Int×Int×Int×TD×Int×TD×Int×TD×Bool×Bool×Int×aa×Int)->Prop
 | .inl f,y=>∃z,y=.inr ((f.1:Int),(f.2:Int),z)
 | .inr (KT,DT,lv,p),y=>y=.inl (2,D,KF,DF,KT,DT,e,l,lv,S,(p:Int))
theorem Dx {S:aa} {p:Nat} (h:p<=S.length):(peek (S.drop p)).2=decide (p<S.length):=by
 by_cases hp:p<S.length
 ·rw [aw hp,eS (bG hp)];rfl
 ·rw [ay hp,kP (by omega)];rfl
theorem Pl (I:List TI) (K:Int) {DF:TD} (U:smT DF) (KF:Int) (lv:Int) {S:aa} {p:Nat} (h:p<=S.length) (hS:S.length<100000):
  ∃y,ej 20000000 I K d0 KF DF 0 d0 false false lv S (p:Int)=some y/\RL S d0 KF DF false false (toP S p KF DF lv) y:=by
 have q:∀(n:Int) (t:n=if KF=1 then lv else mx 1 lv) (Y:¬(KF=1/\p=S.length)) (o:¬(KF=1/\dts (S.drop p)=true)),∃y,(obs (cD 20000000 I 2 d0 KF DF 0 d0 false false n S (p:Int)) (u13 λW M B E P A O N V D F L J=>(some (.inr (W,M,B,E,P,A,O,N,V,D,F,L,J)))) (u13 λT v k g d c u w e i j b a=>(obs (cf 20000000 T v k g d c u w e i j b a I) (u2 λC z=>(some (.inr (C,z,k,g,d,c,u,w,e,i,j,b,a)))) (u2 λm l=>(ob (aS 20000000 b a) (u2 λ_ R=>(cond (!R) (ob (ap10 (ap10 (gn 20000000 d) c m) l) λx=>(cond (x != 0) (ob (aF 20000000 v 11 b a) (u2 λG H=>(some (.inr (G,H,k,g,d,c,m,l,e,i,j,b,a))))) (some (.inl (k,g,d,c,m,l,e,i,j,b,a))))) (some (.inl (k,g,d,c,m,l,e,i,j,b,a))))))))))=some y/\RL S d0 KF DF false false (toP S p KF DF lv) y:=by
  intro n t Y o;unfold toP;rw [G5 I 2 d0 KF DF 0 d0 false false n h hS,ab Y,ab o];cases hr:di S p with
  | inl f=>exact ⟨_,rfl,_,rfl⟩
  | inr r=>
   obtain ⟨X,c1,l1,Z⟩:=kb h hr;simp only [obs,sm,ob,u13,u12,u11,u10,u9,u8,u7,u6,u5,u4,u3,u2];rw [C5 X c1];cases hx:exT (tdR r)
   ·exact ⟨_,rfl,_,rfl⟩
   ·simp only [aI,nB _ _ _ Z,Dx Z];by_cases Q:enR r<S.length
    ·rw [aw Q,ae (.inl Q)];exact ⟨_,rfl,by rw [<-t];rfl⟩
    ·rw [ay Q];simp only [jb,aj];rw [iO9 U X];simp only [];by_cases hp:nS KF DF 1 (tdR r)=0
     ·rw [ae (.inr hp),show (nS KF DF 1 (tdR r) != 0)=false from by simp [hp]];exact ⟨_,rfl,by rw [<-t];rfl⟩
     ·rw [ab (by rintro (h | h)<;>contradiction),show (nS KF DF 1 (tdR r) != 0)=true from by simp [hp]];exact ⟨_,rfl,_,rfl⟩
 unfold ej;by_cases s:KF=1
 ·rw [show (KF==1)=true from by simp [s],aj,nB _ _ _ h];simp only [ob,u2,Dx h,y4];by_cases hp:p<S.length
  ·rw [aw hp];simp only [dc,af];rw [kZ _ _ _ _ h (by omega)];cases o:dts (S.drop p)
   ·rw [ab (show ¬(S.drop p).take [(46:UInt8),46].length=[46,46] from λh=>by unfold dts at o;rw [show (S.drop p).take 2=[46,46] from h] at o;cases o)];exact q lv (by rw [ae s]) (by omega) (by rw [o];simp)
   ·rw [ae (show (S.drop p).take [(46:UInt8),46].length=[46,46] from eq_of_beq o)];refine ⟨_,rfl,?_⟩;unfold toP;rw [ab (by omega),ae ⟨s,o⟩];rfl
  ·rw [ay hp];refine ⟨_,rfl,?_⟩;unfold toP;rw [ae ⟨s,by omega⟩];rfl
 ·rw [show (KF==1)=false from by simp [s],af,y4];simp only [ob,u9,u8,u7,u6,u5,u4,u3,u2];exact q (mx 1 lv) (by rw [ab s]) (by simp [s]) (by simp [s])
noncomputable def toX (S:aa) (p:Nat) (KF:Int) (DF:TD) (lv:Int):(Nat×Nat)⊕(Int×TD×Int):=match toP S p KF DF lv with
 | .inl f=>.inl f
 | .inr (KT,DT,L,q)=>if q<S.length then .inl (q,5) else .inr (KT,DT,L)
noncomputable def gY (S:aa):(Nat×Nat)⊕(Int×TD×Int×TD×Int×TD×Int)⊕(Int×Bool×Bool×List TI):=
 if S.head?=some 91\/S.head?=some 123 then (match AT S with | .inl f=>.inl f | .inr q=>.inr (.inr q))
 else if S.head?=some 47 then (match toX S 1 3 d0 0 with | .inl f=>.inl f | .inr (KT,DT,L)=>.inr (.inl (2,d0,3,d0,KT,DT,L)))
 else if dts S=true then (if (S.drop 2).head?=some 47 then (match toX S 3 2 d0 0 with | .inl f=>.inl f | .inr (KT,DT,L)=>.inr (.inl (2,d0,2,d0,KT,DT,L))) else .inl (2,5))
 else match di S 0 with
  | .inl f=>.inl (f.1,f.2.1)
  | .inr r=>if (S.drop (enR r)).head?=some 47 then (if exT (tdR r)=true then (match toX S (enR r+1) 1 (tdR r) (lvR S 0 r) with | .inl f=>.inl f | .inr (KT,DT,L)=>.inr (.inl (2,d0,1,tdR r,KT,DT,L))) else .inl (plR r,11))
   else if enR r<S.length then .inl (enR r,5) else .inr (.inl (1,tdR r,0,d0,0,d0,lvR S 0 r))
def Ly:(Nat×Nat)⊕(Int×TD×Int×TD×Int×TD×Int)⊕(Int×Bool×Bool×List TI)->(Int×TD×Int×TD×Int×TD×Bool×Bool×Int×Int×Int×List TI)⊕(Int×TD×Int×TD×Int×TD×Nat×Nat×Bool×Bool×Int×Int×Int×List TI)
 | .inl f=>.inl (0,d0,0,d0,0,d0,false,false,0,(f.1:Int),(f.2:Int),[])
 | .inr (.inl (K,D,KF,DF,KT,DT,L))=>.inl (K,D,KF,DF,KT,DT,false,false,L,0,0,[])
 | .inr (.inr (K,e,l,I))=>.inr (K,d0,0,d0,0,d0,I.length,I.length,e,l,2,0,0,I)
theorem qh {S:aa} {p:Nat} (h:p<=S.length) {f:Nat×Nat×Nat} (a:di S p=.inl f):f.2.1≠0:=uH (k:=f.1) (E:=f.2.1) (p:=f.2.2) h a
theorem Rz {S:aa} {p:Nat} (h:p<=S.length) {KF:Int} {DF:TD} {lv:Int} {KT:Int} {DT:TD} {L:Int} {q:Nat} (a:toP S p KF DF lv=.inr (KT,DT,L,q)):q<=S.length/\smT DT:=by
 unfold toP at a;split at a
 ·cases a;exact ⟨h,l8⟩
 ·split at a
  ·rename_i e;cases a;exact ⟨nZ e.2,l8⟩
  ·cases b:di S p with
   | inl f=>rw [b] at a;cases a
   | inr r=>
    obtain ⟨d,_,_,c⟩:=kb h b;rw [b] at a;simp only [] at a;split at a
    ·split at a
     ·cases a;exact ⟨c,d⟩
     ·cases a
    ·cases a
theorem xI {S:aa} {p:Nat} (h:p<=S.length) {KF:Int} {DF:TD} {lv:Int} {f:Nat×Nat} (a:toP S p KF DF lv=.inl f):f.2≠0:=by
 unfold toP at a;split at a
 ·cases a
 ·split at a
  ·cases a
  ·cases b:di S p with
   | inl g=>rw [b] at a;cases a;exact qh h b
   | inr r=>
    rw [b] at a;simp only [] at a;split at a
    ·split at a
     ·cases a
     ·cases a;simp
    ·cases a;simp
theorem Ar (l:aa) (c:UInt8) (hc:c≠0):((peek l).1==((c.toNat:Nat):Int))=decide (l.head?=some c):=by
 have:=RY l c hc;cases l with
 | nil=>exact this
 | cons a r=>exact this
theorem Dw {S:aa} {p:Nat} (h:p<=S.length) (a:S.length<100000) (c:UInt8):aA 20000000 [c] S (p:Int)=some (decide ((S.drop p).head?=some c),S,((if (S.drop p).head?=some c then p+1 else p:Nat):Int)):=by
 rw [kZ _ _ _ _ h (by omega)];simp only [tk1];by_cases hc:(S.drop p).head?=some c
 ·rw [ae hc,ae hc,aw hc];rfl
 ·rw [ab hc,ab hc,ay hc]
theorem HB {S:aa} {p:Nat} (h:p<=S.length) (b:S.length<100000):aA 20000000 [46,46] S (p:Int)=some (dts (S.drop p),S,((if dts (S.drop p)=true then p+2 else p:Nat):Int)):=by
 rw [kZ _ _ _ _ h (by omega)];cases a:dts (S.drop p)
 ·rw [ab (show ¬(S.drop p).take [(46:UInt8),46].length=[46,46] from λh=>by unfold dts at a;rw [show (S.drop p).take 2=[46,46] from h] at a;cases a)];rfl
 ·rw [ae (show (S.drop p).take [(46:UInt8),46].length=[46,46] from eq_of_beq a)];rfl
theorem F9 {S:aa} {p:Nat} (h:p<=S.length) (c:S.length<100000):bD 20000000 [47] S (p:Int)=some (if (S.drop p).head?=some 47 then .inl (S,((p+1:Nat):Int)) else .inr ((p:Int),5,S,(p:Int))):=by
 rw [ym _ _ _ _ h (by omega) (by simp) (by simp)];simp only [tk1];by_cases hc:(S.drop p).head?=some 47
 ·rw [ae hc,ae hc];rfl
 ·rw [ab hc,ab hc];have:lcp (S.drop p) [47]=0:=by
   cases b:S.drop p with
   | nil=>rfl
   | cons a r=>
    rw [b] at hc;simp only [lcp];rw [show (a==47)=false from by rw [br];rintro rfl;exact hc rfl];rfl
  rw [this];rfl
def Qm (S:aa):(Nat×Nat)⊕(Int×TD×Int×TD×Int×TD×Int×Nat)⊕(Int×Bool×Bool×List TI×Nat)->((Int×Int×Int×TD×Int×TD×Int×TD×Bool×Bool×Int×aa×Int)⊕(Int×TD×Int×TD×Int×TD×Nat×Nat×Bool×Bool×Int×aa×Int×List TI)⊕(Int×TD×Int×TD×Int×TD×Bool×Bool×Int×aa×Int)⊕(Int×TD×Int×TD×Int×TD×Bool×Bool×Int×aa×Int×List TI))->Prop
 | .inl f,y=>∃z,y=.inl ((f.1:Int),(f.2:Int),z)
 | .inr (.inl (K,D,KF,DF,KT,DT,L,p)),y=>y=.inr (.inr (.inl (K,D,KF,DF,KT,DT,false,false,L,S,(p:Int))))\/y=.inr (.inr (.inr (K,D,KF,DF,KT,DT,false,false,L,S,(p:Int),[])))
 | .inr (.inr (K,e,l,I,p)),y=>y=.inr (.inl (K,d0,0,d0,0,d0,I.length,I.length,e,l,2,S,(p:Int),I))
noncomputable def yi (S:aa):(Nat×Nat)⊕(Int×TD×Int×TD×Int×TD×Int×Nat)⊕(Int×Bool×Bool×List TI×Nat):=
 if S.head?=some 91\/S.head?=some 123 then (match qG S 0 with | .inl f=>.inl (f.1,f.2.1) | .inr q=>.inr (.inr q))
 else if S.head?=some 47 then (match toP S 1 3 d0 0 with | .inl f=>.inl f | .inr (KT,DT,L,q)=>.inr (.inl (2,d0,3,d0,KT,DT,L,q)))
 else if dts S=true then (if (S.drop 2).head?=some 47 then (match toP S 3 2 d0 0 with | .inl f=>.inl f | .inr (KT,DT,L,q)=>.inr (.inl (2,d0,2,d0,KT,DT,L,q))) else .inl (2,5))
 else match di S 0 with
  | .inl f=>.inl (f.1,f.2.1)
  | .inr r=>if (S.drop (enR r)).head?=some 47 then (if exT (tdR r)=true then (match toP S (enR r+1) 1 (tdR r) (lvR S 0 r) with | .inl f=>.inl f | .inr (KT,DT,L,q)=>.inr (.inl (2,d0,1,tdR r,KT,DT,L,q))) else .inl (plR r,11))
   else .inr (.inl (1,tdR r,0,d0,0,d0,lvR S 0 r,enR r))
theorem mx0 {a:Int} (h:0<=a):mx a 0=a:=by unfold mx;split<;>omega
theorem OD {S:aa} (g:S.length<100000):∃y,gj 20000000 [] 0 d0 0 d0 0 d0 false false 0 S 0=some y/\Qm S (yi S) y:=by
 have z0:(0:Int)=((0:Nat):Int):=rfl;have T:=nB 20000000 S 0 (gf _);rw [cH,show ((0:Nat):Int)=0 from rfl] at T;have Q:=Pz (S:=S) (a:=0) (gf _) g;rw [show ((0:Nat):Int)=0 from rfl] at Q;have P:=Dw (S:=S) (p:=0) (gf _) g 47;rw [cH,show ((0:Nat):Int)=0 from rfl] at P;have R:=HB (S:=S) (p:=0) (gf _) g;rw [cH,show ((0:Nat):Int)=0 from rfl] at R;have N:=G5 [] 0 d0 0 d0 0 d0 false false 0 (S:=S) (p:=0) (gf _) g;rw [show ((0:Nat):Int)=0 from rfl] at N;have D:((peek S).1==91)=decide (S.head?=some 91):=Ar S 91 (by decide);have l:((peek S).1==123)=decide (S.head?=some 123):=Ar S 123 (by decide);have set:(S.head?=some 91\/S.head?=some 123)->∃y,(obs (ln 20000000 S 0) (u4 λU V Y v4=>(some (.inl (U,V,0,d0,0,d0,0,d0,false,false,0,Y,v4)))) (u13 λv5 v6 v7 v8 W v C J s E o k m=>(ob (eG 20000000 2 o k m v5 v6 v7 v8 W v C J s E 0) (u11 λx A K F M B u w I t G=>(some (.inr (.inl (x,A,K,F,M,B,u,w,I,t,G,o,k,m))))))))=some y/\Qm S (yi S) y:=by
  intro h;rw [Q];unfold yi;rw [ae h];cases qG S 0 with
  | inl f=>exact ⟨_,rfl,_,rfl⟩
  | inr q=>exact ⟨_,rfl,rfl⟩
 unfold gj;rw [T];simp only [ob,u2,D,l];by_cases i:S.head?=some 91
 ·rw [aw i,aj];exact set (.inl i)
 rw [ay i,af];by_cases d:S.head?=some 123
 ·rw [aw d,aj];exact set (.inr d)
 rw [ay d,af,P];clear set;unfold yi;rw [ab (show ¬(S.head?=some 91\/S.head?=some 123) from λh=>h.elim i d)];simp only [u3,u2];by_cases e:S.head?=some 47
 ·simp only [aw e,ae e,aj];have H:1<=S.length:=by
   have:=gW (S:=S) (p:=0) (c:=47) (by rw [cH];exact e);omega
  obtain ⟨y,n,b⟩:=Pl [] 0 l8 3 0 (S:=S) (p:=1) H g;rw [show (((0+1:Nat)):Int)=((1:Nat):Int) from rfl,n];cases j:toP S 1 3 d0 0 with
  | inl f=>
   rw [j] at b;obtain ⟨z,rfl⟩:=b;exact ⟨_,rfl,_,rfl⟩
  | inr q=>
   rw [j] at b;obtain ⟨KT,DT,L,q⟩:=q;subst b;exact ⟨_,rfl,.inl rfl⟩
 ·simp only [ay e,ab e,af];rw [show (((0:Nat)):Int)=0 from rfl,R];simp only [];cases hd:dts S
  ·rw [ab (by simp),ab (by simp),af,show (((0:Nat)):Int)=0 from rfl,N];cases hr:di S 0 with
   | inl f=>exact ⟨_,rfl,_,rfl⟩
   | inr r=>
    obtain ⟨O,Z,l1,X⟩:=kb (gf _) hr;simp only [obs,sm,ob,u13,u12,u11,u10,u9,u8,u7,u6,u5,u4,u3,u2];rw [Dw X g,mx0 (HF S 0 r).1];simp only [];by_cases hs:(S.drop (enR r)).head?=some 47
    ·simp only [aw hs,ae hs,dc,af];rw [C5 O Z];cases hx:exT (tdR r)
     ·exact ⟨_,rfl,_,rfl⟩
     ·obtain ⟨y,n,b⟩:=Pl [] 0 O 1 (lvR S 0 r) (S:=S) (p:=enR r+1) (gW hs) g;simp only [aI];rw [n];cases j:toP S (enR r+1) 1 (tdR r) (lvR S 0 r) with
      | inl f=>
       rw [j] at b;obtain ⟨z,rfl⟩:=b;exact ⟨_,rfl,_,rfl⟩
      | inr q=>
       rw [j] at b;obtain ⟨KT,DT,L,q⟩:=q;subst b;exact ⟨_,rfl,.inl rfl⟩
    ·simp only [ay hs,ab hs];exact ⟨_,rfl,.inr rfl⟩
  ·rw [ae rfl,ae rfl,aj];have H:2<=S.length:=by
    have:=nZ (S:=S) (p:=0) (by rw [cH];exact hd);omega
   rw [show (((0+2:Nat)):Int)=((2:Nat):Int) from rfl,F9 H g];by_cases hs:(S.drop 2).head?=some 47
   ·simp only [ae hs];obtain ⟨y,n,b⟩:=Pl [] 0 l8 2 0 (S:=S) (p:=3) (gW hs) g;rw [show (((2+1:Nat)):Int)=((3:Nat):Int) from rfl];simp only [obs,sm,ob,u2,n];cases j:toP S 3 2 d0 0 with
    | inl f=>
     rw [j] at b;obtain ⟨z,rfl⟩:=b;exact ⟨_,rfl,_,rfl⟩
    | inr q=>
     rw [j] at b;obtain ⟨KT,DT,L,q⟩:=q;subst b;exact ⟨_,rfl,.inl rfl⟩
   ·simp only [ab hs];exact ⟨_,rfl,_,rfl⟩
theorem Gy {S:aa} {f:Nat×Nat} (a:yi S=.inl f):f.2≠0:=by
 unfold yi at a;split at a
 ·cases b:qG S 0 with
  | inl g=>rw [b] at a;cases a;exact Am (gf _) b
  | inr q=>rw [b] at a;cases a
 ·split at a
  ·rename_i h;cases b:toP S 1 3 d0 0 with
   | inl g=>
    rw [b] at a;cases a;exact xI (gW (S:=S) (p:=0) (by rw [cH];exact h)) b
   | inr q=>rw [b] at a;cases a
  ·split at a
   ·split at a
    ·rename_i h;cases b:toP S 3 2 d0 0 with
     | inl g=>rw [b] at a;cases a;exact xI (gW h) b
     | inr q=>rw [b] at a;cases a
    ·cases a;simp
   ·cases b:di S 0 with
    | inl g=>rw [b] at a;cases a;exact qh (gf _) b
    | inr r=>
     rw [b] at a;simp only [] at a;split at a
     ·rename_i h;split at a
      ·cases c:toP S (enR r+1) 1 (tdR r) (lvR S 0 r) with
       | inl g=>rw [c] at a;cases a;exact xI (gW h) c
       | inr q=>rw [c] at a;cases a
      ·cases a;simp
     ·cases a
theorem Bz (S:aa):gY S=match yi S with
  | .inl f=>.inl f
  | .inr (.inl (K,D,KF,DF,KT,DT,L,q))=>if q<S.length then .inl (q,5) else .inr (.inl (K,D,KF,DF,KT,DT,L))
  | .inr (.inr (K,e,l,I,q))=>if q<S.length then .inl (q,5) else .inr (.inr (K,e,l,I)):=by
 unfold gY yi AT toX;split
 ·cases qG S 0 with
  | inl f=>rfl
  | inr q=>
   obtain ⟨_,_,_,_,p⟩:=q;by_cases hp:p<S.length<;>simp [hp]
 ·split
  ·cases toP S 1 3 d0 0 with
   | inl f=>rfl
   | inr q=>
    obtain ⟨_,_,_,p⟩:=q;by_cases hp:p<S.length<;>simp [hp]
  ·split
   ·split
    ·cases toP S 3 2 d0 0 with
     | inl f=>rfl
     | inr q=>
      obtain ⟨_,_,_,p⟩:=q;by_cases hp:p<S.length<;>simp [hp]
    ·rfl
   ·cases di S 0 with
    | inl f=>rfl
    | inr r=>
     simp only [];split
     ·split
      ·cases toP S (enR r+1) 1 (tdR r) (lvR S 0 r) with
       | inl f=>rfl
       | inr q=>
        obtain ⟨_,_,_,p⟩:=q;by_cases hp:p<S.length<;>simp [hp]
      ·rfl
     ·rfl
theorem LF {S:aa} (g:S.length<=16384):ge 20000000 S=some (Ly (gY S)):=by
 obtain ⟨y,c,a⟩:=OD (S:=S) (by omega);unfold ge dp;rw [show decide (len S>16384)=false from ay (by show ¬(16384:Int)<((S.length:Nat):Int);omega),af,c,Bz];cases b:yi S with
 | inl f=>
  have d:=Gy b;rw [b] at a;obtain ⟨z,rfl⟩:=a;simp only [obs,sm,ob,u13,u12,u11,u10,u9,u8,u7,u6,u5,u4,u3,u2];rw [show (((f.2:Nat):Int) != 0)=true from by simp;omega];rfl
 | inr q=>
  rw [b] at a;cases q with
  | inl q=>
   obtain ⟨K,D,KF,DF,KT,DT,L,p⟩:=q;simp only [];rcases a with rfl | rfl
   ·simp only [obs,sm,ob,u13,u12,u11,u10,u9,u8,u7,u6,u5,u4,u3,u2];by_cases hp:p<S.length
    ·rw [ae hp,aw (show (p:Int)<((S.length:Nat):Int) by omega)];rfl
    ·rw [ab hp,ay (show ¬(p:Int)<((S.length:Nat):Int) by omega)];rfl
   ·simp only [obs,sm,ob,u14,u13,u12,u11,u10,u9,u8,u7,u6,u5,u4,u3,u2];by_cases hp:p<S.length
    ·rw [ae hp,aw (show (p:Int)<((S.length:Nat):Int) by omega)];rfl
    ·rw [ab hp,ay (show ¬(p:Int)<((S.length:Nat):Int) by omega)];rfl
  | inr q=>
   obtain ⟨K,e,l,I,p⟩:=q;subst a;simp only [obs,sm,ob,u16,u15,u14,u13,u12,u11,u10,u9,u8,u7,u6,u5,u4,u3,u2];by_cases hp:p<S.length
   ·rw [ae hp,aw (show (p:Int)<((S.length:Nat):Int) by omega)];rfl
   ·rw [ab hp,ay (show ¬(p:Int)<((S.length:Nat):Int) by omega)];rfl
def lvX (x:TD):Int:=lvT (ft x) x
theorem Ij {x:TD} (hs:smT x) (hc:cF x=0):∃r,di (ft x) 0=.inr r/\tdR r=x/\enR r=(ft x).length/\lvR (ft x) 0 r=lvX x:=by
 obtain ⟨r,d,c,b⟩:=wx hs hc (S:=ft x) (a:=0) (post:=[]) (by simp) oU;rw [cb] at b;refine ⟨r,d,c,b,?_⟩;unfold lvR lvX;rw [c,b,pP,cH,me]
def iO (K:Int) (x:TD):aa:=if K=2 then [46,46] else if K=3 then [] else ft x
def okB (K:Int) (x:TD):Prop:=(K=1/\cF x=0/\exT x=true)\/((K=2\/K=3)/\x=d0)
theorem M6 {K:Int} {x:TD} (h:pt K x=0):okB K x:=by
 by_cases c:K=1
 ·subst c;obtain ⟨a,b⟩:=BG h;exact .inl ⟨rfl,a,b⟩
 ·unfold pt chkB at h;rw [ab c] at h;split at h
  ·rename_i e;split at h
   ·rename_i d;exact .inr ⟨e,lC.1 d⟩
   ·cases h
  ·cases h
theorem rG {KF KT:Int} {x y:TD} (h:nS KF x KT y=0):okB KF x/\okB KT y/\(KF=1\/KT=1):=by
 unfold nS IZ at h;by_cases a:pt KF x=0
 ·rw [ab (λz=>z a)] at h;by_cases b:pt KT y=0
  ·rw [ab (λz=>z b)] at h;split at h
   ·cases h
   ·rename_i c;exact ⟨M6 a,M6 b,by omega⟩
  ·rw [ae b] at h;exact absurd h b
 ·rw [ae a] at h;exact absurd h a
inductive RightP:Int->TD->Int->TD->Int->TD->Bool->Bool->List TI->Prop where
 | single {x:TD} (hs:smT x) (hc:cF x=0):RightP 1 x 0 d0 0 d0 false false []
 | interval {KF:Int} {x:TD} {KT:Int} {y:TD} (hx:smT x) (hy:smT y) (hp:nS KF x KT y=0):RightP 2 d0 KF x KT y false false []
 | set {K:Int} {e l:Bool} {I:List TI} (P:SetP K d0 0 d0 0 d0 e l I) (hs:∀t∈I,smI t):RightP K d0 0 d0 0 d0 e l I
theorem GR {k:Int} {D:TD} {KF:Int} {DF:TD} {KT:Int} {DT:TD} {e l:Bool} {I:List TI} (hs:smE D DF DT I) (h:(gv k D KF DF KT DT e l I).2=0):RightP k D KF DF KT DT e l I:=by
 by_cases j:k=3\/k=4
 ·have P:=ut j h;obtain ⟨rfl,rfl,rfl,rfl,rfl⟩:D=d0/\KF=0/\DF=d0/\KT=0/\DT=d0:=⟨P.d,P.kf,P.df,P.kt,P.dt⟩;exact .set P hs.2.2.2
 ·unfold gv at h;split at h
  ·simp at h
  ·split at h
   ·simp at h
   ·rename_i p a;unfold unuB at a;generalize z1:eqD D d0=o at a;generalize z2:eqD DF d0=q at a;generalize g:eqD DT d0=n at a;by_cases k1:k=1
    ·subst k1;rw [ae rfl] at h;simp at a;obtain ⟨⟨⟨a1,a2⟩,b,c⟩,m,i,f⟩:=a;subst a1 b m i f;rw [lC.1 (z2.trans a2),lC.1 (g.trans c)];exact .single hs.1 h
    ·have k2:k=2:=by omega
     subst k2;rw [ab (by omega),ae rfl] at h;simp at a;obtain ⟨a1,a2,b,c⟩:=a;subst a2 b c;rw [lC.1 (z1.trans a1)];exact .interval hs.2.1 hs.2.2.1 h
def nI (k:Int) (D:TD) (KF:Int) (DF:TD) (KT:Int) (DT:TD) (e l:Bool) (I:List TI):aa:=
 if k=1 then ft D else if k=2 then iO KF DF++47::iO KT DT else qW k e l I
def lvE (k:Int) (D:TD) (KF:Int) (DF:TD) (KT:Int) (DT:TD):Int:=
 if k=1 then lvX D else if k=2 then mx (if KT=1 then lvX DT else 1) (if KF=1 then lvX DF else 1) else 2
def exOf (k:Int) (D:TD) (KF:Int) (DF:TD) (KT:Int) (DT:TD) (e l:Bool) (I:List TI) (L:Int):(Nat×Nat)⊕(Int×TD×Int×TD×Int×TD×Int)⊕(Int×Bool×Bool×List TI):=
 if k=1\/k=2 then .inr (.inl (k,D,KF,DF,KT,DT,L)) else .inr (.inr (k,e,l,I))
theorem wa {x:TD} (hs:smT x) (hc:cF x=0) (r:aa) (c:UInt8) (a:brk c=true):(ft x++r).head?≠some c:=λh=>by
 have:=lH hs hc r c h;rw [a] at this;cases this
theorem KL {x:TD} (hs:smT x) (hc:cF x=0):ft x≠[]:=by
 obtain ⟨g,l,dg,e,q,m,d,a,b,c,rfl,ok⟩:=iv hs hc;obtain ⟨f,_,_⟩:=vg ok.yr;intro h;have h:pW g l dg (e:Int) (q:Int) m d a b c=[]:=h;unfold pW bO at h;have:=ck List.length h;simp only [bv,cA] at this;exact f (rl (by omega))
theorem yD {KF:Int} {DF:TD} {KT:Int} {DT:TD} (hx:smT DF) (hy:smT DT) (hp:nS KF DF KT DT=0) {S:aa} {p:Nat} (m:p<=S.length) (h:S.drop p=iO KT DT) (lv:Int):
  toX S p KF DF lv=.inr (KT,DT,mx (if KT=1 then lvX DT else 1) (if KF=1 then lv else mx 1 lv)):=by
 obtain ⟨s,k,b1⟩:=rG hp;have b:=ck List.length h;rw [cZ] at b;unfold toX toP;rcases k with ⟨rfl,hc,j⟩ | ⟨n,rfl⟩
 ·have f:iO 1 DT=ft DT:=by unfold iO;rw [ab (by omega),ab (by omega)]
  rw [f] at h b;have q:¬(KF=1/\p=S.length):=by
   rintro ⟨_,e⟩;exact KL hy hc (rl (by omega))
  have d:¬(KF=1/\dts (S.drop p)=true):=by
   rintro ⟨_,e⟩;rw [h] at e;have:=lH hy hc [];rw [kx] at this;rw [mV this] at e;cases e
  obtain ⟨r,i,g,o⟩:=wx hy hc (S:=S) (a:=p) (post:=[]) (by rw [h,kx]) oU;rw [ab q,ab d,i];simp only [];rw [g,ae j,ae (.inr hp)];simp only [aI];rw [ab (by omega)];have:lvR S p r=lvX DT:=by
   unfold lvR lvX;rw [g,o,h];rw [show p+(ft DT).length - p=(ft DT).length by omega,me]
  rw [this]
 ·have l:KF=1:=by omega
  subst l;rcases n with rfl | rfl
  ·have f:S.drop p=[46,46]:=h;have d:dts (S.drop p)=true:=by rw [f];rfl
   have t:=nZ d;have c:(iO 2 d0).length=2:=rfl;rw [ab (by omega),ae ⟨rfl,d⟩];simp only [];rw [ab (by omega)];rfl
  ·have c:(iO 3 d0).length=0:=rfl;rw [ae ⟨rfl,by omega⟩];simp only [];rw [ab (by omega)];rfl
theorem zA {x:TD} (hs:smT x) (hc:cF x=0):gY (ft x)=.inr (.inl (1,x,0,d0,0,d0,lvX x)):=by
 obtain ⟨r,d,e,f,r4⟩:=Ij hs hc;have a:=lH hs hc [];rw [kx] at a;have b:=λc a=>wa hs hc [] c a;rw [kx] at b;generalize ft x=T at *;unfold gY;rw [ab (by rintro (h | h);exact b 91 (by decide) h;exact b 123 (by decide) h),ab (b 47 (by decide)),mV a,ab (by simp),d];simp only [];rw [f,zM,ab (by simp),ab (by omega),e,r4]
theorem Gw {DF:TD} (hx:smT DF) (hc:cF DF=0) (m:exT DF=true) {KT:Int} {DT:TD} (hy:smT DT) (hp:nS 1 DF KT DT=0):gY (ft DF++47::iO KT DT)=.inr (.inl (2,d0,1,DF,KT,DT,mx (if KT=1 then lvX DT else 1) (lvX DF))):=by
 have d:=lH hx hc (47::iO KT DT);have e:=λc d=>wa hx hc (47::iO KT DT) c d;generalize f:ft DF++47::iO KT DT=S at *;obtain ⟨r,l,k,g⟩:=wx hx hc (S:=S) (a:=0) (post:=47::iO KT DT) (by rw [cH,f]) (nY (by decide));rw [cb] at g;have b:S.drop (enR r)=47::iO KT DT:=by rw [g,<-f,List.drop_left]
 have n:S.drop (enR r+1)=iO KT DT:=by rw [<-iV,b];rfl
 have o:lvR S 0 r=lvX DF:=by
  unfold lvR lvX;rw [k,g,pP,cH,<-f,Bh]
 have i:enR r+1<=S.length:=by
  have:=ck List.length b;rw [cZ,aG] at this;omega
 have j:=yD hx hy hp i n (lvX DF);rw [ae rfl] at j;unfold gY;rw [ab (by rintro (h | h);exact e 91 (by decide) h;exact e 123 (by decide) h),ab (e 47 (by decide)),mV d,ab (by simp),l];simp only [];rw [b,pH,ae rfl,k,ae m,o,j]
theorem Fp {DT:TD} (hy:smT DT) (hp:nS 2 d0 1 DT=0):gY (46::46::47::ft DT)=.inr (.inl (2,d0,2,d0,1,DT,mx (lvX DT) 1)):=by
 have a:=yD l8 hy hp (S:=46::46::47::ft DT) (p:=3) (by simp only [aG];omega) (by simp only [lE,cH];unfold iO;rw [ab (by omega),ab (by omega)]) 0;rw [ae rfl,ab (by omega)] at a;generalize ft DT=T at *;unfold gY;rw [ab (by simp),ab (by simp)];have b:dts (46::46::47::T)=true:=rfl;rw [ae b,ae (by rfl),a];rfl
theorem J5 {DT:TD} (hy:smT DT) (hp:nS 3 d0 1 DT=0):gY (47::ft DT)=.inr (.inl (2,d0,3,d0,1,DT,mx (lvX DT) 1)):=by
 have a:=yD l8 hy hp (S:=47::ft DT) (p:=1) (by simp only [aG];omega) (by simp only [lE,cH];unfold iO;rw [ab (by omega),ab (by omega)]) 0;rw [ae rfl,ab (by omega)] at a;generalize ft DT=T at *;unfold gY;rw [ab (by simp),ae (by rfl),a];rfl
theorem B6 {k:Int} {D:TD} {KF:Int} {DF:TD} {KT:Int} {DT:TD} {e l:Bool} {I:List TI} (h:RightP k D KF DF KT DT e l I):gY (nI k D KF DF KT DT e l I)=exOf k D KF DF KT DT e l I (lvE k D KF DF KT DT):=by
 cases h with
 | single hs hc=>
  unfold nI exOf lvE;rw [ae (by omega),ae (by omega),ae (by omega),zA hs hc]
 | interval hx hy hp=>
  obtain ⟨g,p,b1⟩:=rG hp;unfold nI exOf lvE;rw [ab (by omega),ae (by omega),ae (by omega),ab (by omega),ae (by omega)];rcases g with ⟨rfl,hc,i⟩ | ⟨f,rfl⟩
  ·have a:iO 1 DF=ft DF:=by unfold iO;rw [ab (by omega),ab (by omega)]
   rw [a,Gw hx hc i hy hp,ae (show (1:Int)=1 from rfl)]
  ·have n:KT=1:=by omega
   subst n;have a:iO 1 DT=ft DT:=by unfold iO;rw [ab (by omega),ab (by omega)]
   rw [a,ae (show (1:Int)=1 from rfl),ab (by omega)];rcases f with rfl | rfl
   ·have o:iO 2 d0=[46,46]:=by unfold iO;rw [ae rfl]
    rw [o];exact Fp hy hp
   ·have m:iO 3 d0=[]:=by unfold iO;rw [ab (by omega),ae rfl]
    rw [m];exact J5 hy hp
 | set P hs=>
  have ok:=λt a=>(M8 P hs t a).1;have f:=P.kind;have c:¬(k=1\/k=2):=by omega
  have d:nI k d0 0 d0 0 d0 e l I=qW k e l I:=by
   unfold nI;rw [ab (by omega),ab (by omega)]
  have b:∀L,exOf k d0 0 d0 0 d0 e l I L=.inr (.inr (k,e,l,I)):=λL=>by
   unfold exOf;rw [ab c]
  rw [d,b];have j:(qW k e l I).head?=some 91\/(qW k e l I).head?=some 123:=by
   unfold qW;rw [pH];split
   ·exact .inr rfl
   ·exact .inl rfl
  have hp:=FM f P.one P.most ok P.set;generalize qW k e l I=T at *;unfold gY;rw [ae j,hp]
theorem AV {K:Int} {x:TD} (hs:smT x) (h:okB K x):(iO K x).length<=37:=by
 rcases h with ⟨rfl,hc,c⟩ | ⟨b,rfl⟩
 ·have a:iO 1 x=ft x:=by unfold iO;rw [ab (by omega),ab (by omega)]
  rw [a];exact mC hs hc
 ·rcases b with rfl | rfl<;>decide
theorem few {k:Int} {D:TD} {KF:Int} {DF:TD} {KT:Int} {DT:TD} {e l:Bool} {I:List TI} (h:RightP k D KF DF KT DT e l I) (a:k=1\/k=2):e=false/\l=false/\I=[]:=by
 cases h with
 | single hs hc=>exact ⟨rfl,rfl,rfl⟩
 | interval hx hy hp=>exact ⟨rfl,rfl,rfl⟩
 | set P hs=>have:=P.kind;omega
theorem sets {k:Int} {D:TD} {KF:Int} {DF:TD} {KT:Int} {DT:TD} {e l:Bool} {I:List TI} (h:RightP k D KF DF KT DT e l I) (a:¬(k=1\/k=2)):D=d0/\KF=0/\DF=d0/\KT=0/\DT=d0/\(k=3\/k=4):=by
 cases h with
 | single hs hc=>omega
 | interval hx hy hp=>omega
 | set P hs=>exact ⟨rfl,rfl,rfl,rfl,rfl,P.kind⟩
theorem OH {K:Int} {x:TD} (h:okB K x):pt K x=0:=by
 rcases h with ⟨rfl,hc,b⟩ | ⟨a,rfl⟩
 ·exact xz hc b
 ·rcases a with rfl | rfl<;>kernel_rfl
theorem CX {K:Int} {x:TD} (hs:smT x) (h:okB K x):ap10 (gV 20000000 K) x=some (iO K x,0):=by
 have b:chkB K x.1 x.2.1 x.2.2.1 x.2.2.2.1 x.2.2.2.2.1 x.2.2.2.2.2.1 x.2.2.2.2.2.2.1 x.2.2.2.2.2.2.2.1 x.2.2.2.2.2.2.2.2.1 x.2.2.2.2.2.2.2.2.2=0:=OH h;have:=OJ (K:=K) (g:=x.1) (l:=x.2.1) (x:=x.2.2.2.1) (q:=x.2.2.2.2.1) hs.1 hs.2.1 hs.2.2.1 hs.2.2.2.1 hs.2.2.2.2.1 hs.2.2.2.2.2;rw [ae b] at this;refine this.trans ?_;unfold iO ft;by_cases a:K=2
 ·simp only [a,aI]
 ·simp only [a,aC]
theorem BN {KF:Int} {x:TD} {KT:Int} {y:TD} (hx:smT x) (hy:smT y) (hp:nS KF x KT y=0) (K:Int) (D:TD) (e l:Bool) (I:List TI):
  fJ 20000000 K D KF x KT y e l I=some (iO KF x++47::iO KT y,0):=by
 obtain ⟨a,b,_⟩:=rG hp;have c:=AV hx a;have d:=AV hy b;unfold fJ;rw [CX hx a,CX hy b];simp only [ob,u2];rw [dE (by simp only [aG,cA];omega)];simp only [];rw [dE (by simp only [bv,aG,cA];omega)];simp only [eJ,dL,da]
theorem LU {k:Int} {D:TD} {KF:Int} {DF:TD} {KT:Int} {DT:TD} {e l:Bool} {I:List TI} (h:RightP k D KF DF KT DT e l I):(gv k D KF DF KT DT e l I).2=0:=by
 cases h with
 | single hs hc=>rw [(ze hs hc).first]
 | interval hx hy hp=>rw [(vR hx hy hp).first]
 | set P hs=>exact P.set
theorem S8 {k:Int} {D:TD} {KF:Int} {DF:TD} {KT:Int} {DT:TD} {e l:Bool} {I:List TI} (h:RightP k D KF DF KT DT e l I):smE D DF DT I:=by
 cases h with
 | single hs hc=>exact ⟨hs,l8,l8,λt a=>by cases a⟩
 | interval hx hy hp=>exact ⟨l8,hx,hy,λt a=>by cases a⟩
 | set P hs=>exact ⟨l8,l8,l8,hs⟩
theorem G7 {k:Int} {D:TD} {KF:Int} {DF:TD} {KT:Int} {DT:TD} {e l:Bool} {I:List TI} (hs:smE D DF DT I):
  bN 20000000 k D KF DF KT DT e l I=some (if (gv k D KF DF KT DT e l I).2=0 then (nI k D KF DF KT DT e l I,0) else ([],(gv k D KF DF KT DT e l I).2)):=by
 unfold bN;rw [E8 hs];by_cases a:(gv k D KF DF KT DT e l I).2=0
 ·rw [ae a,a];have P:=GR hs a;simp only [ob,eF,af,iM];cases P with
  | single hx hc=>
   rw [show ((1:Int)==1)=true from rfl,aj];unfold gJ nI;rw [ae rfl,dfT hx hc];simp only [ob,u2]
  | interval hx hy hp=>
   rw [show ((2:Int)==1)=false from rfl,af,show ((2:Int)==2)=true from rfl,aj,BN hx hy hp];unfold nI;rw [ab (by omega),ae rfl]
  | set P hi=>
   have b:=P.kind;have c:=PK (K:=k) (KF:=0) (KT:=0) (e:=e) (l:=l) hs;rw [ae (show Ft k from b),ae a] at c;rw [c];unfold nI;rw [ab (by rcases b with rfl | rfl<;>omega),ab (by rcases b with rfl | rfl<;>omega)];generalize qW k e l I=w;rcases b with rfl | rfl<;>rfl
 ·rw [ab a];simp only [ob];rw [show ((gv k D KF DF KT DT e l I).2 != 0)=true from bne_iff_ne.2 a,aj]
theorem pY {k:Int} {D:TD} {KF:Int} {DF:TD} {KT:Int} {DT:TD} {e l:Bool} {I:List TI} (h:RightP k D KF DF KT DT e l I):
  bN 20000000 k D KF DF KT DT e l I=some (nI k D KF DF KT DT e l I,0):=by
 rw [G7 (S8 h),ae (LU h)]
theorem Ff (n:Nat) (K:Int) (D:TD) (KF:Int) (DF:TD) (KT:Int) (DT:TD) (c d:Nat) (e l:Bool) (L:List TI):iN n K D KF DF KT DT c d e l L=fJ n K D KF DF KT DT e l L:=rfl
theorem JP (n:Nat) (K:Int) (D:TD) (KF:Int) (DF:TD) (KT:Int) (DT:TD) (c d:Nat) (e l:Bool) (L:List TI):il n K D KF DF KT DT c d e l L=gJ n K D KF DF KT DT e l L:=rfl
theorem Kw (n:Nat) (K:Int) (D:TD) (KF:Int) (DF:TD) (KT:Int) (DT:TD) (c:Nat) (e l:Bool) (L:List TI):ek n K D KF DF KT DT L.length c e l L=bN n K D KF DF KT DT e l L:=by
 unfold ek bN;rw [JS];simp only [Ff,JP,Qa]
noncomputable def canX:(Nat×Nat)⊕(Int×TD×Int×TD×Int×TD×Int)⊕(Int×Bool×Bool×List TI)->aa×Int×Int
 | .inl f=>([],(f.1:Int),(f.2:Int))
 | .inr (.inl (K,D,KF,DF,KT,DT,_))=>(nI K D KF DF KT DT false false [],0,0)
 | .inr (.inr (K,e,l,I))=>(nI K d0 0 d0 0 d0 e l I,0,0)
def NC:(Nat×Nat)⊕(Int×TD×Int×TD×Int×TD×Int)⊕(Int×Bool×Bool×List TI)->Prop
 | .inl f=>f.2≠0
 | .inr (.inl (K,D,KF,DF,KT,DT,L))=>RightP K D KF DF KT DT false false []/\(K=1\/K=2)
 | .inr (.inr (K,e,l,I))=>RightP K d0 0 d0 0 d0 e l I/\Ft K
theorem oC {S:aa} (b:S.length<=16384) (h:NC (gY S)):aX 20000000 S=some (canX (gY S)):=by
 unfold aX;rw [LF b];generalize gY S=y at h;rcases y with f | ⟨K,D,KF,DF,KT,DT,L⟩ | ⟨K,e,l,I⟩
 ·have h:f.2≠0:=h;simp only [Ly,obs,sm,ob,u12,u11,u10,u9,u8,u7,u6,u5,u4,u3,u2];rw [show (((f.2:Nat):Int) != 0)=true from bne_iff_ne.2 (by omega),aj];rfl
 ·have a:=pY h.1;simp only [Ly,obs,sm,ob,u12,u11,u10,u9,u8,u7,u6,u5,u4,u3,u2,eF,af,a,ob];rfl
 ·have a:=pY h.1;simp only [Ly,obs,sm,ob,u14,u13,u12,u11,u10,u9,u8,u7,u6,u5,u4,u3,u2,eF,af,Kw,a,ob];rfl
theorem Jr {k:Int} {D:TD} {KF:Int} {DF:TD} {KT:Int} {DT:TD} {e l:Bool} {I:List TI} (h:RightP k D KF DF KT DT e l I) (c:(nI k D KF DF KT DT e l I).length<=16384):
  aX 20000000 (nI k D KF DF KT DT e l I)=some (nI k D KF DF KT DT e l I,0,0):=by
 have hp:=B6 h;by_cases a:k=1\/k=2
 ·obtain ⟨rfl,rfl,rfl⟩:=few h a;have b:gY (nI k D KF DF KT DT false false [])=.inr (.inl (k,D,KF,DF,KT,DT,lvE k D KF DF KT DT)):=hp.trans (ae a);rw [oC c (by rw [b];exact ⟨h,a⟩),b];rfl
 ·obtain ⟨rfl,rfl,rfl,rfl,rfl,d⟩:=sets h a;have b:gY (nI k d0 0 d0 0 d0 e l I)=.inr (.inr (k,e,l,I)):=hp.trans (ab a);rw [oC c (by rw [b];exact ⟨h,d⟩),b];rfl
theorem M1:pt 2 d0=0/\pt 3 d0=0:=⟨by kernel_rfl,by kernel_rfl⟩
theorem ui {S:aa} {p:Nat} (hp:p<=S.length) {KF:Int} {DF:TD} {lv:Int} (h:KF=1->cF DF=0/\exT DF=true) {KT:Int} {DT:TD} {L:Int} (d:toX S p KF DF lv=.inr (KT,DT,L)):smT DT/\nS KF DF KT DT=0:=by
 unfold toX at d;cases c:toP S p KF DF lv with
 | inl f=>rw [c] at d;cases d
 | inr q=>
  obtain ⟨i,j,l,q⟩:=q;rw [c] at d;simp only [] at d;split at d
  ·cases d
  ·rename_i k;have d:=rF d;simp only [bf] at d;obtain ⟨rfl,rfl,rfl⟩:=d;refine ⟨(Rz hp c).2,?_⟩;unfold toP at c;split at c
   ·rename_i hc;have c:=rF c;simp only [bf] at c;obtain ⟨rfl,rfl,_,_⟩:=c;obtain ⟨rfl,_⟩:=hc;obtain ⟨a,b⟩:=h rfl;rw [H3 (xz a b) M1.2];simp
   ·split at c
    ·rename_i hc;have c:=rF c;simp only [bf] at c;obtain ⟨rfl,rfl,_,_⟩:=c;obtain ⟨rfl,_⟩:=hc;obtain ⟨a,b⟩:=h rfl;rw [H3 (xz a b) M1.1];simp
    ·cases g:di S p with
     | inl f=>rw [g] at c;cases c
     | inr r=>
      rw [g] at c;simp only [] at c;split at c
      ·split at c
       ·rename_i e;have c:=rF c;simp only [bf] at c;obtain ⟨rfl,rfl,_,rfl⟩:=c;rcases e with e | e
        ·exact absurd e k
        ·exact e
       ·cases c
      ·cases c
theorem Bn {S:aa} {p:Nat} (h:p<=S.length) {KF:Int} {DF:TD} {lv:Int} {f:Nat×Nat} (a:toX S p KF DF lv=.inl f):f.2≠0:=by
 unfold toX at a;cases b:toP S p KF DF lv with
 | inl g=>rw [b] at a;cases a;exact xI h b
 | inr q=>
  rw [b] at a;simp only [] at a;split at a
  ·cases a;simp
  ·cases a
theorem Bl (S:aa):NC (gY S):=by
 unfold gY;split
 ·unfold AT;cases c:qG S 0 with
  | inl f=>exact Am (gf _) c
  | inr q=>
   obtain ⟨K,e,l,I,p⟩:=q;by_cases hp:p<S.length
   ·simp only [ae hp];show (5:Nat)≠0;omega
   ·simp only [ab hp];have ok:=Lo (gf _) c;exact ⟨.set (ut ok.kind (show (gv K d0 0 d0 0 d0 e l I).2=0 from ok.ok)) ok.sm,ok.kind⟩
 ·split
  ·rename_i h;have hp:1<=S.length:=gW (S:=S) (p:=0) (by rw [cH];exact h);cases c:toX S 1 3 d0 0 with
   | inl f=>exact Bn hp c
   | inr q=>
    obtain ⟨KT,DT,L⟩:=q;obtain ⟨a,b⟩:=ui hp (λh=>by omega) c;exact ⟨.interval l8 a b,.inr rfl⟩
  ·split
   ·split
    ·rename_i h;have hp:3<=S.length:=gW h;cases c:toX S 3 2 d0 0 with
     | inl f=>exact Bn hp c
     | inr q=>
      obtain ⟨KT,DT,L⟩:=q;obtain ⟨a,b⟩:=ui hp (λh=>by omega) c;exact ⟨.interval l8 a b,.inr rfl⟩
    ·show (5:Nat)≠0;omega
   ·cases c:di S 0 with
    | inl f=>exact qh (gf _) c
    | inr r=>
     obtain ⟨i,d,_,_⟩:=kb (gf _) c;simp only [];split
     ·rename_i h;have hp:enR r+1<=S.length:=gW h;split
      ·rename_i hx;cases g:toX S (enR r+1) 1 (tdR r) (lvR S 0 r) with
       | inl f=>exact Bn hp g
       | inr q=>
        obtain ⟨KT,DT,L⟩:=q;obtain ⟨a,b⟩:=ui hp (λ_=>⟨d,hx⟩) g;exact ⟨.interval i a b,.inr rfl⟩
      ·show (11:Nat)≠0;omega
     ·split
      ·show (5:Nat)≠0;omega
      ·exact ⟨.single i d,.inl rfl⟩
theorem NU {S:aa} (a:S.length<=16384):aX 20000000 S=some (canX (gY S)):=oC a (Bl S)
theorem J7 {S T:aa} {a b:aa×Int×Int} (c:aX 20000000 S=some a) (d:aX 20000000 T=some b):
  ir 20000000 S T=some (cond (a.2.2==0) (cond (b.2.2==0) (a.1==b.1) false) false):=by
 unfold ir;rw [c,d];simp only [ob,u3,u2];cases a.2.2==0<;>cases b.2.2==0<;>rfl
theorem dcoT (x:TD):ap10 (aH 20000000) x=some ((coT x:Nat):Int):=nD 20000000 (by omega) _ _ _ _ _ _ _ _ _ _
theorem F5 {g l:Bool} {dg:aa} {x q:Int} {m d:aa} {a b c f e i:Int} (h:chkD g l dg x q m d a b c=0) (k:allM f e i (bp m d)=0):chkD g l dg x q m d f e i=0:=by
 unfold chkD at h ⊢;generalize yrD g l dg x q m=b1 at *;generalize (!(m==[])&&(!(decide (0<sea m))&&!(eI m 12)))=b2 at *;generalize (!(d==[])&&((m==[])||(decide (0<sea m)||!(eI d 31))))=j at *;cases b1<;>cases b2<;>cases j<;>simp_all
theorem Gq {g l:Bool} {dg:aa} {x q:Int} {m d:aa} {a b c f e j:Int} (h:chkF g l dg x q m d a b c=0) (n:allM f e j (bp m d)=0):chkF g l dg x q m d f e j=0:=by
 have i:=lQ h;have k:=F5 i n;unfold chkF at h ⊢;rw [i] at h;rw [k];split at h
 ·cases h
 ·rename_i o;rw [ab o]
theorem or4' {a b:Nat} (c:a<4) (d:b<4):a ||| b<4:=Nat.or_lt_two_pow (n:=2) c d
theorem Oe {A B:Nat×Nat×Nat} {m d:aa} (h:MkD A B m d) (c:m=[]->d=[]):inM (bp m d) (spM A B):=by
 obtain ⟨a0,a1,a2,b0,b1,b2,zm,zd⟩:=h;refine ⟨or4' (or4' (or4' a0 b0) b1) b2,or4' (or4' a1 b1) b2,or4' a2 b2,λe=>?_,λe=>?_⟩
 ·by_cases a:m=[]
  ·obtain ⟨j,g⟩:=zm a;obtain ⟨_,f⟩:=zd (c a);show A.2.1 ||| B.2.1 ||| B.2.2=0;rw [j,g,f];rfl
  ·by_cases b:d=[]
   ·subst b;rw [xb a] at e;omega
   ·rw [vu a b] at e;omega
 ·by_cases b:d=[]
  ·obtain ⟨i,f⟩:=zd b;show A.2.2 ||| B.2.2=0;rw [i,f];rfl
  ·by_cases a:m=[]
   ·exact absurd (c a) b
   ·rw [vu a b] at e;omega
def qx (x:TD) (M:Nat×Nat×Nat):TD:=(x.1,x.2.1,x.2.2.1,x.2.2.2.1,x.2.2.2.2.1,x.2.2.2.2.2.1,x.2.2.2.2.2.2.1,(M.1:Int),(M.2.1:Int),(M.2.2:Int))
def rawT (x:TD) (A B:Nat×Nat×Nat):aa:=rawD A B x.1 x.2.1 x.2.2.1 x.2.2.2.1 x.2.2.2.2.1 x.2.2.2.2.2.1 x.2.2.2.2.2.2.1
theorem qk {x:TD} (hs:smT x) (hc:cF x=0) {M:Nat×Nat×Nat} (h:inM (coT x) M):smT (qx x M)/\cF (qx x M)=0:=
 ⟨⟨hs.1,hs.2.1,hs.2.2.1,D2 _,D2 _,D2 _⟩,Gq hc (qu h)⟩
theorem KW {x:TD} (hs:smT x) (hc:cF x=0) {A B:Nat×Nat×Nat} (j:MkD A B x.2.2.2.2.2.1 x.2.2.2.2.2.2.1) {S:aa} {p:Nat} {post:aa} (h:S.drop p=rawT x A B++post) (hp:endT post):
  ∃r,di S p=.inr r/\tdR r=qx x (spM A B)/\enR r=p+(rawT x A B).length/\smT (qx x (spM A B))/\cF (qx x (spM A B))=0:=by
 obtain ⟨g,l,dg,e,q,m,d,a,b,c,rfl,ok⟩:=iv hs hc;obtain ⟨o,s,n⟩:=vi hp;obtain ⟨P,_,k⟩:=xo ok.sh j h o s n;have f:inM (bp m d) (spM A B):=Oe j λt=>ok.day.resolve_right (λz=>z.1 t);obtain ⟨u,i⟩:=qk hs hc f;refine ⟨(g,l,dg,e,q,m,d,spM A B,P,p+(rawD A B g l dg (e:Int) (q:Int) m d).length),?_,rfl,rfl,u,i⟩;unfold di;rw [k];have:chkR (g,l,dg,e,q,m,d,spM A B,P,p+(rawD A B g l dg (e:Int) (q:Int) m d).length)=0:=by
  show (cF (qx (g,l,dg,(e:Int),(q:Int),m,d,(a:Int),(b:Int),(c:Int)) (spM A B))).toNat=0;rw [i];rfl
 simp only [this,aI]
theorem Kt {x:TD} (hs:smT x) (hc:cF x=0) (A B:Nat×Nat×Nat) (r:aa):bY brk (rawT x A B++r):=by
 obtain ⟨g,l,dg,e,q,m,d,a,b,c,rfl,ok⟩:=iv hs hc;show bY brk (rawD A B g l dg (e:Int) (q:Int) m d++r);unfold rawD bO;rw [eJ,eJ,eJ];exact BE _ (by decide) (by decide) (by decide) (zB ok.yr _)
theorem Js {x:TD} (hs:smT x) (hc:cF x=0) {A B:Nat×Nat×Nat} (j:MkD A B x.2.2.2.2.2.1 x.2.2.2.2.2.2.1):∃L,gY (rawT x A B)=.inr (.inl (1,qx x (spM A B),0,d0,0,d0,L)):=by
 obtain ⟨r,e,f,d,_,_⟩:=KW hs hc j (S:=rawT x A B) (p:=0) (post:=[]) (by simp) oU;have a:=Kt hs hc A B [];rw [kx] at a;rw [cb] at d;generalize rawT x A B=T at *;have b:∀c,brk c=true->T.head?≠some c:=λc g i=>by have:=a c i;rw [g] at this;cases this
 refine ⟨lvR T 0 r,?_⟩;unfold gY;rw [ab (by rintro (h | h);exact b 91 (by decide) h;exact b 123 (by decide) h),ab (b 47 (by decide)),mV a,ab (by simp),e];simp only [];rw [d,zM,ab (by simp),ab (by omega),f]
theorem C0 {x:TD} (hs:smT x) (hc:cF x=0) {A B:Nat×Nat×Nat} (f:MkD A B x.2.2.2.2.2.1 x.2.2.2.2.2.2.1):(rawT x A B).length<=1000:=by
 obtain ⟨g,l,dg,e,q,m,d,a,b,c,rfl,ok⟩:=iv hs hc;obtain ⟨u,k,h,_⟩:=Ed ok.sh f;exact h.len
theorem OZ {x:TD} (hs:smT x) (hc:cF x=0) {A B:Nat×Nat×Nat} (a:MkD A B x.2.2.2.2.2.1 x.2.2.2.2.2.2.1):aX 20000000 (rawT x A B)=some (ft (qx x (spM A B)),0,0):=by
 obtain ⟨L,h⟩:=Js hs hc a;have:=C0 hs hc a;rw [NU (by omega),h];rfl
theorem B7 {X Y:Type} {step:X->Option (X⊕Y)} {x:X} {y:Y} {N:Nat} (h:step x=some (.inr y)):au step (N+1) x=some y:=by rw [au,h]
theorem rU {X Y:Type} {step:X->Option (X⊕Y)} {x a:X} {N:Nat} (h:step x=some (.inl a)):au step (N+1) x=au step N a:=by rw [au,h]
theorem rP {k:Nat} (h:k<4):(mt k).length<=1:=by
 rcases (by omega:k=0\/k=1\/k=2\/k=3) with rfl | rfl | rfl | rfl<;>simp [mt]
theorem run1 {X Y:Type} {step:X->Option (X⊕Y)} {b a:X} {y:Y} {N:Nat} (e:4<N) (c:step b=some (.inl a)) (d:step a=some (.inr y)):au step N b=some y:=by
 obtain ⟨N,rfl⟩:∃j,N=j+4:=⟨N - 4,by omega⟩;rw [rU c,B7 d]
theorem run2 {X Y:Type} {step:X->Option (X⊕Y)} {b a c:X} {y:Y} {N:Nat} (g:4<N) (d:step b=some (.inl a)) (e:step a=some (.inl c)) (f:step c=some (.inr y)):au step N b=some y:=by
 obtain ⟨N,rfl⟩:∃j,N=j+4:=⟨N - 4,by omega⟩;rw [rU d,rU e,B7 f]
theorem run3 {X Y:Type} {step:X->Option (X⊕Y)} {c b d a:X} {y:Y} {N:Nat} (i:4<N) (e:step c=some (.inl b)) (g:step b=some (.inl d)) (h:step d=some (.inl a)) (f:step a=some (.inr y)):au step N c=some y:=by
 obtain ⟨N,rfl⟩:∃j,N=j+4:=⟨N - 4,by omega⟩;rw [rU e,rU g,rU h,B7 f]
theorem MO:jo 20000000=some true:=by kernel_rfl
theorem yN {k i:Nat} {z:Int} {acc:aa} {x:TD} {al bl A B:List Int} {ws:List (aa)} {ai a:Nat} {b:aa} (hi:i<k) (s:i<3)
  (m:al[i]?=some (ai:Int)) (p:bl[i]?=some (a:Int)) (H:A.length=3) (E:B.length=3) (r:ws[i]?=some b) (K:ws.length=3) (I:acc.length<=500) (G:b.length<=100):
  bH 20000000 ((k:Int),z,acc,(i:Int),al,bl,x,ws,A,B)=some (.inl ((k:Int),z,(if 0<i then acc++[45] else acc)++(mt (ai%4)++b++mt (a%4)),((i+1:Nat):Int),al,bl,x,ws,A.set i ((ai%4:Nat):Int),B.set i ((a%4:Nat):Int))):=by
 have o:ai%4<4:=by omega
 have t:a%4<4:=by omega
 have u:Int.tmod (ai:Int) 4=((ai%4:Nat):Int):=rfl;have j:Int.tmod (a:Int) 4=((a%4:Nat):Int):=rfl;have q:iY 20000000 ((ai%4:Nat):Int)=some (mt (ai%4),0):=EV 20000000 _ o;have h:iY 20000000 ((a%4:Nat):Int)=some (mt (a%4),0):=EV 20000000 _ t;have g:(A.set i ((ai%4:Nat):Int))[i]?=some ((ai%4:Nat):Int):=by rw [List.getElem?_set_self (by omega)]
 have w:(B.set i ((a%4:Nat):Int))[i]?=some ((a%4:Nat):Int):=by rw [List.getElem?_set_self (by omega)]
 have F:=rP o;have J:=rP t;have y:cat acc ([45]:aa)=some (acc++[45]):=dE (by simp only [aG,cA];omega);have l:cat (mt (ai%4)) b=some (mt (ai%4)++b):=dE (by omega);have c3:cat (mt (ai%4)++b) (mt (a%4))=some (mt (ai%4)++b++mt (a%4)):=dE (by simp only [bv];omega);have v:∀C:aa,C.length<=501->cat C (mt (ai%4)++b++mt (a%4))=some (C++(mt (ai%4)++b++mt (a%4))):=λC L=>dE (by simp only [bv];omega);have hx:ix 3 (i:Int)=some i:=eY s;have e:ix ws.length (i:Int)=some i:=eY (by omega);have c:w64 ((i:Int)+1)=((i+1:Nat):Int):=yo (by omega);have d:Nat.blt i 3=true:=co s;have D:(acc++[45]).length<=501:=by simp only [bv,aG,cA];omega
 have f:acc.length<=501:=by omega
 unfold bH;simp only [u10,u9,u8,u7,u6,u5,u4,u3,u2];rw [aw (show (i:Int)<(k:Int) by omega),aj];by_cases n:0<i
 ·rw [aw (show (i:Int)>0 by omega),ae n];simp only [ob,hx,e,m,p,u,j,g,w,q,h,r,d,aj,y,l,c3,v _ D,c,u2];rfl
 ·rw [ay (show ¬(i:Int)>0 by omega),ab n];simp only [ob,hx,e,m,p,u,j,g,w,q,h,r,d,aj,af,l,c3,v _ f,c,u2];rfl
theorem Qy {x:TD} (hs:smT x) (hc:cF x=0) {A B:Nat×Nat×Nat} (f:MkD A B x.2.2.2.2.2.1 x.2.2.2.2.2.2.1):
  ∃p,fH 20000000 (rawT x A B)=some p/\iF p=qx x (spM A B)/\(d8 p).2.2.1=0/\(d8 p).2.2.2=0:=by
 have r:=C0 hs hc f;have i:=KA 19999700 (rawT x A B) (by omega) (by omega);rw [show 19999700+300=20000000 from rfl] at i;refine ⟨_,i,?_⟩;obtain ⟨g,l,dg,e,q,m,d,a,b,c,rfl,ok⟩:=iv hs hc;obtain ⟨P,_,j⟩:=xo ok.sh f (S:=rawD A B g l dg (e:Int) (q:Int) m d) (a:=0) (post:=[]) (by simp) (vi oU).1 (vi oU).2.1 (vi oU).2.2;have h:inM (bp m d) (spM A B):=Oe f λn=>ok.day.resolve_right (λz=>z.1 n);obtain ⟨o,k⟩:=qk hs hc h;have c3:=lQ k;have c3:chkD g l dg (e:Int) (q:Int) m d ((spM A B).1:Int) ((spM A B).2.1:Int) ((spM A B).2.2:Int)=0:=c3;have hp:AY (rawT (g,l,dg,(e:Int),(q:Int),m,d,(a:Int),(b:Int),(c:Int)) A B)=(g,l,dg,(e:Int),(q:Int),m,d,((spM A B).1:Int),((spM A B).2.1:Int),((spM A B).2.2:Int),0,0):=by
  show AY (rawD A B g l dg (e:Int) (q:Int) m d)=_;unfold AY;rw [j];unfold JL;simp only [];rw [ab (by omega),ae c3]
 rw [hp];exact ⟨rfl,rfl,rfl⟩
theorem BK {a0 a2 M O S T a7 a8 a9:Int} (g:Bool) (h:wfD a0 a2 M O S T a7 a8 a9) (o t w n u v:Nat):fO 20000000 a0 g a2 M O S T a7 a8 a9 [(o:Int),(t:Int),(w:Int)] [(n:Int),(u:Int),(v:Int)]=some true:=by
 have h0:wfD a0 a2 M O S T 0 0 0:=⟨h.1,h.2.1,h.2.2.1,h.2.2.2.1,h.2.2.2.2.1,h.2.2.2.2.2.1,⟨by omega,by omega⟩,⟨by omega,by omega⟩,⟨by omega,by omega⟩⟩;obtain ⟨x,hx,hs,hc⟩:=DofI g h0;have N:=dcoT x;obtain ⟨y,l,dg,e,q,m,d,a,b,c,r,ok⟩:=iv hs hc;have hk:coT x=bp m d:=by rw [r];rfl
 have f1:x.1=y:=by rw [r]
 have f2:x.2.1=l:=by rw [r]
 have Z:x.2.2.1=dg:=by rw [r]
 have U:x.2.2.2.1=(e:Int):=by rw [r]
 have W:(d4 x).1=(q:Int):=by rw [r]
 have f6:(d4 x).2.1=m:=by rw [r]
 have f7:(d4 x).2.2.1=d:=by rw [r]
 have hy:bu 20000000 x.1 x.2.1 x.2.2.1 x.2.2.2.1 (d4 x).1=some 0:=by
  rw [f1,f2,Z,U,W,sU 20000000 y l dg _ _ (by omega) (by have:=ok.dg17;omega),ae ok.yr]
 have V:pE x.2.2.1 x.2.2.2.1 (d4 x).1=true:=by rw [Z,U,W];exact Av ok.yr
 have L:eh x.1 x.2.1 x.2.2.1 x.2.2.2.1 (d4 x).1=eh y l dg (e:Int) (q:Int):=by rw [f1,f2,Z,U,W]
 have yl:=qT ok.yr;have hm:=ok.mon;have K:=ok.day;have ml:m.length<=100:=by rcases hm with h | h;rw [h];simp;omega
 have dl:d.length<=100:=by rcases K with h | h;rw [h];simp;omega
 have R:=mP m d;have H:∃A B:Nat×Nat×Nat,MkD A B m d/\inM (bp m d) A/\inM (bp m d) B/\au (bH 20000000) 20000000 (((bp m d:Nat):Int),0,[],0,[(o:Int),(t:Int),(w:Int)],[(n:Int),(u:Int),(v:Int)],x,[eh y l dg (e:Int) (q:Int),m,d],[0,0,0],[0,0,0])=some (.inr (((bp m d:Nat):Int),0,rawD A B y l dg (e:Int) (q:Int) m d,x,l3 A,l3 B)):=by
  have C:∀(k j:Nat) (acc:aa) (X Y:List Int),k=j->bH 20000000 ((k:Int),0,acc,(j:Int),[(o:Int),(t:Int),(w:Int)],[(n:Int),(u:Int),(v:Int)],x,[eh y l dg (e:Int) (q:Int),m,d],X,Y)=some (.inr (.inr ((k:Int),0,acc,x,X,Y))):=by
   intro k j acc X Y hkj;unfold bH;simp only [u10,u9,u8,u7,u6,u5,u4,u3,u2];rw [ay (by omega)];rfl
  unfold rawD bO;generalize eh y l dg (e:Int) (q:Int)=Y at *;have r0:=rP (k:=o%4) (by omega);have r1:=rP (k:=t%4) (by omega);have t0:=rP (k:=n%4) (by omega);have t1:=rP (k:=u%4) (by omega);have s0:=yN (k:=bp m d) (i:=0) (z:=0) (acc:=[]) (x:=x) (al:=[(o:Int),(t:Int),(w:Int)]) (bl:=[(n:Int),(u:Int),(v:Int)]) (A:=[0,0,0]) (B:=[0,0,0]) (ws:=[Y,m,d]) (by omega) (by omega) rfl rfl rfl rfl rfl rfl (by simp) (show Y.length<=100 by omega);rw [ab (yZ 0)] at s0;rcases (by omega:bp m d=1\/bp m d=2\/bp m d=3) with p | p | p
  ·have f:m=[]:=by
    apply Nl;intro h;by_cases h2:d=[]
    ·rw [h2,xb h] at p;omega
    ·rw [vu h h2] at p;omega
   have s:d=[]:=K.resolve_right (λz=>z.1 f);refine ⟨(o%4,0,0),(n%4,0,0),⟨by show o%4<4;omega,by show 0<4;omega,by show 0<4;omega,by show n%4<4;omega,by show 0<4;omega,by show 0<4;omega,λ_=>⟨rfl,rfl⟩,λ_=>⟨rfl,rfl⟩⟩,⟨by show o%4<4;omega,by show 0<4;omega,by show 0<4;omega,λ_=>rfl,λ_=>rfl⟩,⟨by show n%4<4;omega,by show 0<4;omega,by show 0<4;omega,λ_=>rfl,λ_=>rfl⟩,?_⟩;rw [show (0:Int)=((0:Nat):Int) from rfl] at s0 ⊢;refine (run1 (by omega) s0 (C _ _ _ _ _ p)).trans ?_;rw [ae f,ae s];simp [l3]
  ·have s:d=[]:=by
    apply Nl;intro h;have f:=(K.resolve_left h).1;rw [vu f h] at p;omega
   have f:m≠[]:=by
    rintro rfl;subst s;rw [Ef] at p;omega
   refine ⟨(o%4,t%4,0),(n%4,u%4,0),⟨by show o%4<4;omega,by show t%4<4;omega,by show 0<4;omega,by show n%4<4;omega,by show u%4<4;omega,by show 0<4;omega,λh=>absurd h f,λ_=>⟨rfl,rfl⟩⟩,⟨by show o%4<4;omega,by show t%4<4;omega,by show 0<4;omega,λh=>by omega,λ_=>rfl⟩,⟨by show n%4<4;omega,by show u%4<4;omega,by show 0<4;omega,λh=>by omega,λ_=>rfl⟩,?_⟩;have D:=yN (k:=bp m d) (i:=1) (z:=0) (acc:=[]++(mt (o%4)++Y++mt (n%4))) (x:=x) (al:=[(o:Int),(t:Int),(w:Int)]) (bl:=[(n:Int),(u:Int),(v:Int)]) (A:=[0,0,0].set 0 ((o%4:Nat):Int)) (B:=[0,0,0].set 0 ((n%4:Nat):Int)) (ws:=[Y,m,d]) (by omega) (by omega) rfl rfl rfl rfl rfl rfl (by simp only [bv,cA];omega) ml;rw [ae (show 0<1 by omega)] at D;rw [show (0:Int)=((0:Nat):Int) from rfl] at s0 D ⊢;refine (run2 (by omega) s0 D (C _ _ _ _ _ p)).trans ?_;rw [ab f,ae s];simp [l3]
  ·have s:d≠[]:=by
    rintro rfl;by_cases f:m=[]
    ·subst f;rw [Ef] at p;omega
    ·rw [xb f] at p;omega
   have f:=(K.resolve_left s).1;refine ⟨(o%4,t%4,w%4),(n%4,u%4,v%4),⟨by show o%4<4;omega,by show t%4<4;omega,by show w%4<4;omega,by show n%4<4;omega,by show u%4<4;omega,by show v%4<4;omega,λh=>absurd h f,λh=>absurd h s⟩,⟨by show o%4<4;omega,by show t%4<4;omega,by show w%4<4;omega,λh=>by omega,λh=>by omega⟩,⟨by show n%4<4;omega,by show u%4<4;omega,by show v%4<4;omega,λh=>by omega,λh=>by omega⟩,?_⟩;have D:=yN (k:=bp m d) (i:=1) (z:=0) (acc:=[]++(mt (o%4)++Y++mt (n%4))) (x:=x) (al:=[(o:Int),(t:Int),(w:Int)]) (bl:=[(n:Int),(u:Int),(v:Int)]) (A:=[0,0,0].set 0 ((o%4:Nat):Int)) (B:=[0,0,0].set 0 ((n%4:Nat):Int)) (ws:=[Y,m,d]) (by omega) (by omega) rfl rfl rfl rfl rfl rfl (by simp only [bv,cA];omega) ml;rw [ae (show 0<1 by omega)] at D;have F:=yN (k:=bp m d) (i:=2) (z:=0) (acc:=([]++(mt (o%4)++Y++mt (n%4)))++[45]++(mt (t%4)++m++mt (u%4))) (x:=x) (al:=[(o:Int),(t:Int),(w:Int)]) (bl:=[(n:Int),(u:Int),(v:Int)]) (A:=([0,0,0].set 0 ((o%4:Nat):Int)).set 1 ((t%4:Nat):Int)) (B:=([0,0,0].set 0 ((n%4:Nat):Int)).set 1 ((u%4:Nat):Int)) (ws:=[Y,m,d]) (by omega) (by omega) rfl rfl rfl rfl rfl rfl (by simp only [bv,cA,aG];omega) dl;rw [ae (show 0<2 by omega)] at F;rw [show (0:Int)=((0:Nat):Int) from rfl] at s0 D F ⊢;refine (run3 (by omega) s0 D F (C _ _ _ _ _ p)).trans ?_;rw [ab f,ab s];simp [l3]
 obtain ⟨A,B,mk,iA,iB,I⟩:=H;have Q:=ri 20000000 (by omega) (bp m d) A B R iA iB;have G:MkD A B x.2.2.2.2.2.1 x.2.2.2.2.2.2.1:=by rw [r];exact mk
 have J:rawD A B y l dg (e:Int) (q:Int) m d=rawT x A B:=by rw [r];rfl
 rw [J] at I;obtain ⟨pd,e1,e2,e3,e4⟩:=Qy hs hc G;have e5:=OZ hs hc G;have hin:inM (coT x) (spM A B):=by rw [hk];exact Oe mk (λh=>ok.day.resolve_right (λz=>z.1 h))
 obtain ⟨F,c2⟩:=qk hs hc hin;have P:=RightP.single F c2;have e6:=pY P;have E:nI 1 (qx x (spM A B)) 0 d0 0 d0 false false []=ft (qx x (spM A B)):=by unfold nI;rw [ae rfl]
 rw [E] at e6;have e7:=J7 e5 (Jr P (by rw [E];have:=mC F c2;omega));rw [E] at e7;have hw:(x.1,x.2.1,x.2.2.1,x.2.2.2.1,(d4 x).1,(d4 x).2.1,(d4 x).2.2.1,List.getD (l3 (spM A B)) 0 0,List.getD (l3 (spM A B)) 1 0,List.getD (l3 (spM A B)) 2 0)=qx x (spM A B):=rfl;have hq:eqD (qx x (spM A B)) (qx x (spM A B))=true:=lC.2 rfl;unfold fO;rw [hx];simp only [ob,N,hy,eF,af,V,aj,L,hk];rw [show (d4 x).2.1=m from f6,show (d4 x).2.2.1=d from f7];rw [I];simp only [obs,sm,ob,u6,u5,u4,u3,u2,Q,e1,e5,e2,e3,e4,pR,aj];rw [hw];simp only [ob,u3,u2,e6,e7,hq,MO,pR,aj]
theorem FB {a0 a2 c f j k d i e:Int} (g:Bool) (h:wfD a0 a2 c f j k d i e) {A B:List Int} (r:A.length=3) (l:B.length=3) (a:∀x∈A,0<=x) (b:∀x∈B,0<=x):fO 20000000 a0 g a2 c f j k d i e A B=some true:=by
 match A,B,r,l with
 | [q,n,v],[p,o,t],_,_=>
  obtain ⟨s,rfl⟩:=wq (a q (by simp));obtain ⟨m,rfl⟩:=wq (a n (by simp));obtain ⟨u,rfl⟩:=wq (a v (by simp));obtain ⟨k0,rfl⟩:=wq (b p (by simp));obtain ⟨k1,rfl⟩:=wq (b o (by simp));obtain ⟨k2,rfl⟩:=wq (b t (by simp));exact BK g h s m u k0 k1 k2
theorem Aq {n:Int} (h:(Lit.int .u8 n).wf=true):natI n 256:=⟨(Go.bounds_u8 h).1,by have:=(Go.bounds_u8 h).2;omega⟩
theorem RX {n:Int} (h:(Lit.int .u16 n).wf=true):natI n 65536:=⟨(Go.bounds_u16 h).1,by have:=(Go.bounds_u16 h).2;omega⟩
end Go.Sh
