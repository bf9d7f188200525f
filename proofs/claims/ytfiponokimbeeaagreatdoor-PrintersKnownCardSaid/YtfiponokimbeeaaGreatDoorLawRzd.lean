
/- Plain proofs, kept as far as they are needed here (printed by prune.py).
   Conditions: none. -/
import Derived.Test.YtfiponokimbeeaaGreatDoorLawRzc
set_option linter.unusedVariables false
set_option linter.unusedSimpArgs false
set_option maxRecDepth 100000
namespace Go.Sh
open Go.Abs
theorem nX {S:aa} {p:Nat} (h:p<=S.length) {f:Nat×Nat×Nat} (a:dk S p=.inl f):f.2.1≠0:=qB (k:=f.1) (E:=f.2.1) (p:=f.2.2) h a
theorem Ve {S:aa} {p:Nat} (h:p<=S.length) {KF:Int} {DF:TD} {lv:Int} {KT:Int} {DT:TD} {L:Int} {q:Nat} (a:toP S p KF DF lv=.inr (KT,DT,L,q)):q<=S.length/\smT DT:=by
 unfold toP at a;split at a
 ·cases a;exact ⟨h,n8⟩
 ·split at a
  ·rename_i d;cases a;exact ⟨mP d.2,n8⟩
  ·cases b:dk S p with
   | inl f=>rw [b] at a;cases a
   | inr r=>
    obtain ⟨c,_,_,e⟩:=je h b;rw [b] at a;simp only [] at a;split at a
    ·split at a
     ·cases a;exact ⟨e,c⟩
     ·cases a
    ·cases a
theorem A9 {S:aa} {p:Nat} (h:p<=S.length) {KF:Int} {DF:TD} {lv:Int} {f:Nat×Nat} (a:toP S p KF DF lv=.inl f):f.2≠0:=by
 unfold toP at a;split at a
 ·cases a
 ·split at a
  ·cases a
  ·cases b:dk S p with
   | inl g=>rw [b] at a;cases a;exact nX h b
   | inr r=>
    rw [b] at a;simp only [] at a;split at a
    ·split at a
     ·cases a
     ·cases a;simp
    ·cases a;simp
theorem Dx (l:aa) (c:UInt8) (hc:c≠0):((peek l).1==((c.toNat:Nat):Int))=decide (l.head?=some c):=by
 have:=xA l c hc;cases l with
 | nil=>exact this
 | cons a r=>exact this
theorem GK {S:aa} {p:Nat} (h:p<=S.length) (a:S.length<100000) (c:UInt8):aB 20000000 [c] S (p:Int)=some (decide ((S.drop p).head?=some c),S,((if (S.drop p).head?=some c then p+1 else p:Nat):Int)):=by
 rw [m6 _ _ _ _ h (by omega)];simp only [tk1];by_cases hc:(S.drop p).head?=some c
 ·rw [ae hc,ae hc,am hc];rfl
 ·rw [ab hc,ab hc,aq hc]
theorem Kt {S:aa} {p:Nat} (h:p<=S.length) (b:S.length<100000):aB 20000000 [46,46] S (p:Int)=some (dts (S.drop p),S,((if dts (S.drop p)=true then p+2 else p:Nat):Int)):=by
 rw [m6 _ _ _ _ h (by omega)];cases a:dts (S.drop p)
 ·rw [ab (show ¬(S.drop p).take [(46:UInt8),46].length=[46,46] from λh=>by unfold dts at a;rw [show (S.drop p).take 2=[46,46] from h] at a;cases a)];rfl
 ·rw [ae (show (S.drop p).take [(46:UInt8),46].length=[46,46] from eq_of_beq a)];rfl
theorem Ii {S:aa} {p:Nat} (h:p<=S.length) (c:S.length<100000):ca 20000000 [47] S (p:Int)=some (if (S.drop p).head?=some 47 then .inl (S,((p+1:Nat):Int)) else .inr ((p:Int),5,S,(p:Int))):=by
 rw [Bo _ _ _ _ h (by omega) (by simp) (by simp)];simp only [tk1];by_cases hc:(S.drop p).head?=some 47
 ·rw [ae hc,ae hc];rfl
 ·rw [ab hc,ab hc];have:lcp (S.drop p) [47]=0:=by
   cases b:S.drop p with
   | nil=>rfl
   | cons a r=>
    rw [b] at hc;simp only [lcp];rw [show (a==47)=false from by rw [aM];rintro rfl;exact hc rfl];rfl
  rw [this];rfl
def Wv (S:aa):(Nat×Nat)⊕(Int×TD×Int×TD×Int×TD×Int×Nat)⊕(Int×Bool×Bool×List TI×Nat)->((Int×Int×Int×TD×Int×TD×Int×TD×Bool×Bool×Int×aa×Int)⊕(Int×TD×Int×TD×Int×TD×Nat×Nat×Bool×Bool×Int×aa×Int×List TI)⊕(Int×TD×Int×TD×Int×TD×Bool×Bool×Int×aa×Int)⊕(Int×TD×Int×TD×Int×TD×Bool×Bool×Int×aa×Int×List TI))->Prop
 | .inl f,y=>∃z,y=.inl ((f.1:Int),(f.2:Int),z)
 | .inr (.inl (K,D,KF,DF,KT,DT,L,p)),y=>y=.inr (.inr (.inl (K,D,KF,DF,KT,DT,false,false,L,S,(p:Int))))\/y=.inr (.inr (.inr (K,D,KF,DF,KT,DT,false,false,L,S,(p:Int),[])))
 | .inr (.inr (K,e,l,I,p)),y=>y=.inr (.inl (K,d0,0,d0,0,d0,I.length,I.length,e,l,2,S,(p:Int),I))
noncomputable def Ab (S:aa):(Nat×Nat)⊕(Int×TD×Int×TD×Int×TD×Int×Nat)⊕(Int×Bool×Bool×List TI×Nat):=
 if S.head?=some 91\/S.head?=some 123 then (match rZ S 0 with | .inl f=>.inl (f.1,f.2.1) | .inr q=>.inr (.inr q))
 else if S.head?=some 47 then (match toP S 1 3 d0 0 with | .inl f=>.inl f | .inr (KT,DT,L,q)=>.inr (.inl (2,d0,3,d0,KT,DT,L,q)))
 else if dts S=true then (if (S.drop 2).head?=some 47 then (match toP S 3 2 d0 0 with | .inl f=>.inl f | .inr (KT,DT,L,q)=>.inr (.inl (2,d0,2,d0,KT,DT,L,q))) else .inl (2,5))
 else match dk S 0 with
  | .inl f=>.inl (f.1,f.2.1)
  | .inr r=>if (S.drop (enR r)).head?=some 47 then (if exT (tdR r)=true then (match toP S (enR r+1) 1 (tdR r) (lvR S 0 r) with | .inl f=>.inl f | .inr (KT,DT,L,q)=>.inr (.inl (2,d0,1,tdR r,KT,DT,L,q))) else .inl (plR r,11))
   else .inr (.inl (1,tdR r,0,d0,0,d0,lvR S 0 r,enR r))
theorem mx0 {a:Int} (h:0<=a):mx a 0=a:=by unfold mx;split<;>omega
theorem S7 {S:aa} (g:S.length<100000):∃y,il 20000000 [] 0 d0 0 d0 0 d0 false false 0 S 0=some y/\Wv S (Ab S) y:=by
 have z0:(0:Int)=((0:Nat):Int):=rfl;have R:=pg 20000000 S 0 (f7 _);rw [cM,show ((0:Nat):Int)=0 from rfl] at R;have N:=R2 (S:=S) (a:=0) (f7 _) g;rw [show ((0:Nat):Int)=0 from rfl] at N;have T:=GK (S:=S) (p:=0) (f7 _) g 47;rw [cM,show ((0:Nat):Int)=0 from rfl] at T;have P:=Kt (S:=S) (p:=0) (f7 _) g;rw [cM,show ((0:Nat):Int)=0 from rfl] at P;have Q:=NP [] 0 d0 0 d0 0 d0 false false 0 (S:=S) (p:=0) (f7 _) g;rw [show ((0:Nat):Int)=0 from rfl] at Q;have C:((peek S).1==91)=decide (S.head?=some 91):=Dx S 91 (by decide);have k:((peek S).1==123)=decide (S.head?=some 123):=Dx S 123 (by decide);have set:(S.head?=some 91\/S.head?=some 123)->∃y,(obs (np 20000000 S 0) (u4 λZ v2 V U=>(some (.inl (Z,v2,0,d0,0,d0,0,d0,false,false,0,V,U)))) (u13 λv5 X v7 v8 v9 F B E K s o m l=>(ob (fV 20000000 2 o m l v5 X v7 v8 v9 F B E K s 0) (u11 λu J x H v I w t D A M=>(some (.inr (.inl (u,J,x,H,v,I,w,t,D,A,M,o,m,l))))))))=some y/\Wv S (Ab S) y:=by
  intro h;rw [N];unfold Ab;rw [ae h];cases rZ S 0 with
  | inl f=>exact ⟨_,rfl,_,rfl⟩
  | inr q=>exact ⟨_,rfl,rfl⟩
 unfold il;rw [R];simp only [ob,u2,C,k];by_cases i:S.head?=some 91
 ·rw [am i,ah];exact set (.inl i)
 rw [aq i,af];by_cases d:S.head?=some 123
 ·rw [am d,ah];exact set (.inr d)
 rw [aq d,af,T];clear set;unfold Ab;rw [ab (show ¬(S.head?=some 91\/S.head?=some 123) from λh=>h.elim i d)];simp only [u3,u2];by_cases e:S.head?=some 47
 ·simp only [am e,ae e,ah];have G:1<=S.length:=by
   have:=fY (S:=S) (p:=0) (c:=47) (by rw [cM];exact e);omega
  obtain ⟨y,n,b⟩:=TL [] 0 n8 3 0 (S:=S) (p:=1) G g;rw [show (((0+1:Nat)):Int)=((1:Nat):Int) from rfl,n];cases j:toP S 1 3 d0 0 with
  | inl f=>
   rw [j] at b;obtain ⟨z,rfl⟩:=b;exact ⟨_,rfl,_,rfl⟩
  | inr q=>
   rw [j] at b;obtain ⟨KT,DT,L,q⟩:=q;subst b;exact ⟨_,rfl,.inl rfl⟩
 ·simp only [aq e,ab e,af];rw [show (((0:Nat)):Int)=0 from rfl,P];simp only [];cases hd:dts S
  ·rw [ab (by simp),ab (by simp),af,show (((0:Nat)):Int)=0 from rfl,Q];cases hr:dk S 0 with
   | inl f=>exact ⟨_,rfl,_,rfl⟩
   | inr r=>
    obtain ⟨O,Y,l1,W⟩:=je (f7 _) hr;simp only [obs,sm,ob,u13,u12,u11,u10,u9,u8,u7,u6,u5,u4,u3,u2];rw [GK W g,mx0 (MM S 0 r).1];simp only [];by_cases hs:(S.drop (enR r)).head?=some 47
    ·simp only [am hs,ae hs,co,af];rw [Gv O Y];cases hx:exT (tdR r)
     ·exact ⟨_,rfl,_,rfl⟩
     ·obtain ⟨y,n,b⟩:=TL [] 0 O 1 (lvR S 0 r) (S:=S) (p:=enR r+1) (fY hs) g;simp only [aJ];rw [n];cases j:toP S (enR r+1) 1 (tdR r) (lvR S 0 r) with
      | inl f=>
       rw [j] at b;obtain ⟨z,rfl⟩:=b;exact ⟨_,rfl,_,rfl⟩
      | inr q=>
       rw [j] at b;obtain ⟨KT,DT,L,q⟩:=q;subst b;exact ⟨_,rfl,.inl rfl⟩
    ·simp only [aq hs,ab hs];exact ⟨_,rfl,.inr rfl⟩
  ·rw [ae rfl,ae rfl,ah];have G:2<=S.length:=by
    have:=mP (S:=S) (p:=0) (by rw [cM];exact hd);omega
   rw [show (((0+2:Nat)):Int)=((2:Nat):Int) from rfl,Ii G g];by_cases hs:(S.drop 2).head?=some 47
   ·simp only [ae hs];obtain ⟨y,n,b⟩:=TL [] 0 n8 2 0 (S:=S) (p:=3) (fY hs) g;rw [show (((2+1:Nat)):Int)=((3:Nat):Int) from rfl];simp only [obs,sm,ob,u2,n];cases j:toP S 3 2 d0 0 with
    | inl f=>
     rw [j] at b;obtain ⟨z,rfl⟩:=b;exact ⟨_,rfl,_,rfl⟩
    | inr q=>
     rw [j] at b;obtain ⟨KT,DT,L,q⟩:=q;subst b;exact ⟨_,rfl,.inl rfl⟩
   ·simp only [ab hs];exact ⟨_,rfl,_,rfl⟩
theorem NZ {S:aa} {f:Nat×Nat} (a:Ab S=.inl f):f.2≠0:=by
 unfold Ab at a;split at a
 ·cases b:rZ S 0 with
  | inl g=>rw [b] at a;cases a;exact w9 (f7 _) b
  | inr q=>rw [b] at a;cases a
 ·split at a
  ·rename_i h;cases b:toP S 1 3 d0 0 with
   | inl g=>
    rw [b] at a;cases a;exact A9 (fY (S:=S) (p:=0) (by rw [cM];exact h)) b
   | inr q=>rw [b] at a;cases a
  ·split at a
   ·split at a
    ·rename_i h;cases b:toP S 3 2 d0 0 with
     | inl g=>rw [b] at a;cases a;exact A9 (fY h) b
     | inr q=>rw [b] at a;cases a
    ·cases a;simp
   ·cases b:dk S 0 with
    | inl g=>rw [b] at a;cases a;exact nX (f7 _) b
    | inr r=>
     rw [b] at a;simp only [] at a;split at a
     ·rename_i h;split at a
      ·cases c:toP S (enR r+1) 1 (tdR r) (lvR S 0 r) with
       | inl g=>rw [c] at a;cases a;exact A9 (fY h) c
       | inr q=>rw [c] at a;cases a
      ·cases a;simp
     ·cases a
theorem Ek (S:aa):nT S=match Ab S with
  | .inl f=>.inl f
  | .inr (.inl (K,D,KF,DF,KT,DT,L,q))=>if q<S.length then .inl (q,5) else .inr (.inl (K,D,KF,DF,KT,DT,L))
  | .inr (.inr (K,e,l,I,q))=>if q<S.length then .inl (q,5) else .inr (.inr (K,e,l,I)):=by
 unfold nT Ab DJ toX;split
 ·cases rZ S 0 with
  | inl f=>rfl
  | inr q=>
   obtain ⟨_,_,_,_,p⟩:=q;by_cases hp:p<S.length<;>simp [hp]
 ·split
  ·cases toP S 1 3 d0 0 with
   | inl f=>rfl
   | inr q=>
    obtain ⟨_,_,_,p⟩:=q;by_cases hp:p<S.length<;>simp [hp]
  ·split
   ·split
    ·cases toP S 3 2 d0 0 with
     | inl f=>rfl
     | inr q=>
      obtain ⟨_,_,_,p⟩:=q;by_cases hp:p<S.length<;>simp [hp]
    ·rfl
   ·cases dk S 0 with
    | inl f=>rfl
    | inr r=>
     simp only [];split
     ·split
      ·cases toP S (enR r+1) 1 (tdR r) (lvR S 0 r) with
       | inl f=>rfl
       | inr q=>
        obtain ⟨_,_,_,p⟩:=q;by_cases hp:p<S.length<;>simp [hp]
      ·rfl
     ·rfl
theorem Qf {S:aa} (g:S.length<=16384):na 20000000 S=some (OB (nT S)):=by
 obtain ⟨y,c,a⟩:=S7 (S:=S) (by omega);unfold na ei;rw [show decide (len S>16384)=false from aq (by show ¬(16384:Int)<((S.length:Nat):Int);omega),af,c,Ek];cases b:Ab S with
 | inl f=>
  have d:=NZ b;rw [b] at a;obtain ⟨z,rfl⟩:=a;simp only [obs,sm,ob,u13,u12,u11,u10,u9,u8,u7,u6,u5,u4,u3,u2];rw [show (((f.2:Nat):Int) != 0)=true from by simp;omega];rfl
 | inr q=>
  rw [b] at a;cases q with
  | inl q=>
   obtain ⟨K,D,KF,DF,KT,DT,L,p⟩:=q;simp only [];rcases a with rfl | rfl
   ·simp only [obs,sm,ob,u13,u12,u11,u10,u9,u8,u7,u6,u5,u4,u3,u2];by_cases hp:p<S.length
    ·rw [ae hp,am (show (p:Int)<((S.length:Nat):Int) by omega)];rfl
    ·rw [ab hp,aq (show ¬(p:Int)<((S.length:Nat):Int) by omega)];rfl
   ·simp only [obs,sm,ob,u14,u13,u12,u11,u10,u9,u8,u7,u6,u5,u4,u3,u2];by_cases hp:p<S.length
    ·rw [ae hp,am (show (p:Int)<((S.length:Nat):Int) by omega)];rfl
    ·rw [ab hp,aq (show ¬(p:Int)<((S.length:Nat):Int) by omega)];rfl
  | inr q=>
   obtain ⟨K,e,l,I,p⟩:=q;subst a;simp only [obs,sm,ob,u16,u15,u14,u13,u12,u11,u10,u9,u8,u7,u6,u5,u4,u3,u2];by_cases hp:p<S.length
   ·rw [ae hp,am (show (p:Int)<((S.length:Nat):Int) by omega)];rfl
   ·rw [ab hp,aq (show ¬(p:Int)<((S.length:Nat):Int) by omega)];rfl
theorem JI (a b:Int):mx a b=mx b a:=by unfold mx;split<;>split<;>omega
theorem RU (a b:Int):(cond (decide (a>b)) a b)=mx a b:=by unfold mx;rw [bz]
theorem cut2 {S:aa} {p:Nat} (h:p+1<S.length):((List.drop p (List.take (p+2) S))==([46,46]:aa))=dts (S.drop p):=by
 unfold dts;rw [m7]
theorem C4 {S:aa} {p:Nat} (h:¬p+1<S.length):dts (S.drop p)=false:=by
 cases a:dts (S.drop p)
 ·rfl
 ·have:=mP a;omega
def Wa (KF:Int) (DF:TD):(Nat×Nat)⊕(Int×TD×Int)->(Int×TD×Int×TD×Int×TD×Bool×Bool×Int×Int×Int)⊕(Int×TD×Int×TD×Int×TD×Bool×Bool×Int×Int×Int×List TI)
 | .inl f=>.inr (0,d0,0,d0,0,d0,false,false,0,(f.1:Int),(f.2:Int),[])
 | .inr (KT,DT,L)=>.inl (2,d0,KF,DF,KT,DT,false,false,L,0,0)
theorem Ym {S:aa} {p:Nat} (h:p<=S.length) (hS:S.length<100000) {KF:Int} {DF:TD} (hDF:smT DF) (lv b:Int) (g:b=if KF=1 then lv else mx 1 lv) (J:List TI):
  mV 20000000 S (p:Int) 0 d0 KF DF 0 d0 false false b J=some (Wa KF DF (toX S p KF DF lv)):=by
 have i:(¬(KF=1/\p=S.length))->(¬(KF=1/\dts (S.drop p)=true))->(ob (eQ 20000000 S (p:Int)) λa=>(cond ((d4 (d8 a)).2 != 0) (ob (bm 20000000 (d4 (d8 a)).1 (d4 (d8 a)).2) (u12 λR v38 C I F v42 v43 v44 o l E v48=>(some (.inr (R,v38,C,I,F,v42,v43,v44,o,l,E,v48))))) (ob (ap10 (aO 20000000) (iF a)) λv49=>(cond (v49==0) (ob (bm 20000000 (d8 a).2.2.1 11) (u12 λv50 Q k v53 u v v56 V v58 M X v61=>(some (.inr (v50,Q,k,v53,u,v,v56,V,v58,M,X,v61))))) (cond (decide ((d4 (d8 a)).1<(len S))) (ob (bm 20000000 (d4 (d8 a)).1 5) (u12 λK B U w W D L s Y T v72 q=>(some (.inr (K,B,U,w,W,D,L,s,Y,T,v72,q))))) (ob (ap10 (ap10 (eG 20000000 KF) DF 1) (iF a)) λv74=>(cond (v74 != 0) (ob (bm 20000000 (d8 a).2.2.1 11) (u12 λy O Z j n v80 t G v83 N m v86=>(some (.inr (y,O,Z,j,n,v80,t,G,v83,N,m,v86))))) (ob (bx (List.length S) (p:Int)) λx=>(ob (eJ 20000000 (List.drop x (List.take (List.length S) S))) λz=>(some (.inl (2,d0,KF,DF,1,(iF a),false,false,(mx z b),0,0)))))))))))) =
   some (Wa KF DF (toX S p KF DF lv)):=by
  intro e d;obtain ⟨A,hA⟩:=rD S p h hS;rw [hA];unfold toX toP;rw [ab e,ab d];cases P:dk S p with
  | inl f=>
   have hE:=nX h P;rw [zO];simp only [ob];show cond (((f.2.1:Nat):Int) != 0) _ _=_;rw [show (((f.2.1:Nat):Int) != 0)=true from by simp;omega];rfl
  | inr r=>
   obtain ⟨s1,c1,l1,l2⟩:=je h P;obtain ⟨_,_,_,_,_,_,_,_,_,_,hv⟩:=fS9 h P;rw [uM];simp only [ob];show cond ((0:Int) != 0) _ (ob (ap10 (aO 20000000) (tdR r)) _)=_;rw [reT s1];simp only [dJ,af,ob];cases hx:exT (tdR r)
   ·rfl
   ·simp only [aJ,show ((1:Int)==0)=false from rfl,af];show cond (decide (((enR r:Nat):Int)<len S)) _ (ob (ap10 (ap10 (eG 20000000 KF) DF 1) (tdR r)) _)=_;by_cases he:enR r<S.length
    ·rw [am (show ((enR r:Nat):Int)<len S by show ((enR r:Nat):Int)<((S.length:Nat):Int);omega),ae (.inl he)];simp only [ae he];rfl
    ·rw [aq (show ¬((enR r:Nat):Int)<len S by show ¬((enR r:Nat):Int)<((S.length:Nat):Int);omega),af,NT hDF s1];simp only [ob];by_cases hp:qm KF DF 1 (tdR r)=0
     ·rw [ae (.inr hp),show (qm KF DF 1 (tdR r) != 0)=false from by simp [hp],af,dY h];simp only [ab he,nQ];have e1:(S.drop p).take (enR r - p)=S.drop p:=by
       rw [i7];rw [bR];omega
      rw [e1] at hv;rw [hv];simp only [<-g];unfold lvR;rw [e1];rfl
     ·rw [ab (by rintro (h | h)<;>contradiction),show (qm KF DF 1 (tdR r) != 0)=true from by simp [hp]];rfl
 unfold mV;have hj3:kn 20000000 S (p:Int) b (KF==1) J d0 KF DF 0 d0 false false ([]:List TI)=some (S,(p:Int),b,KF==1,decide (KF=1/\p=S.length),J,d0,KF,DF,0,d0,false,false,[]):=by
  unfold kn;by_cases c:KF=1
  ·rw [show (KF==1)=true from by simp [c],ah,show (((p:Nat):Int)==len S)=decide (p=S.length) from natB p S.length];simp [c]
  ·rw [show (KF==1)=false from by simp [c],af,aq (λh=>c h.1)]
 rw [hj3];simp only [ob,u14,u13,u12,u11,u10,u9,u8,u7,u6,u5,u4,u3,u2,RU];by_cases e:KF=1/\p=S.length
 ·rw [am e,ah];unfold toX toP;rw [ae e];simp only [];rw [ab (by omega),g,ae e.1,JI];rfl
 ·rw [aq e,af];have H:kr 20000000 S (p:Int) b (KF==1) J d0 KF DF 0 d0 false false ([]:List TI)=some (S,(p:Int),b,decide (KF=1/\dts (S.drop p)=true),J,d0,KF,DF,0,d0,false,false,[]):=by
   unfold kr;by_cases c:KF=1
   ·rw [show (KF==1)=true from by simp [c],ah,show w64 (((p:Nat):Int)+1)=((p+1:Nat):Int) from rf_w 1 (by omega),show w64 (((p:Nat):Int)+2)=((p+2:Nat):Int) from rf_w 2 (by omega)];by_cases hp:p+1<S.length
    ·rw [am (show ((p+1:Nat):Int)<len S by show ((p+1:Nat):Int)<((S.length:Nat):Int);omega),ah,dY (by omega)];simp only [ob];rw [dY (by omega)];simp only [cut2 hp];rw [c];cases dts (S.drop p)<;>simp
    ·rw [aq (show ¬((p+1:Nat):Int)<len S by show ¬((p+1:Nat):Int)<((S.length:Nat):Int);omega),af,C4 hp];simp
   ·rw [show (KF==1)=false from by simp [c],af,aq (λh=>c h.1)]
  rw [H];simp only [u13,u12,u11,u10,u9,u8,u7,u6,u5,u4,u3,u2];by_cases d:KF=1/\dts (S.drop p)=true
  ·have hl:=mP d.2;rw [am d,ah,show w64 (((p:Nat):Int)+2)=((p+2:Nat):Int) from rf_w 2 (by omega)];unfold toX toP;rw [ab e,ae d];simp only [];by_cases hp:p+2<S.length
   ·rw [am (show ((p+2:Nat):Int)<len S by show ((p+2:Nat):Int)<((S.length:Nat):Int);omega),ae hp];rfl
   ·rw [aq (show ¬((p+2:Nat):Int)<len S by show ¬((p+2:Nat):Int)<((S.length:Nat):Int);omega),ab hp,g,ae d.1,JI];rfl
  ·rw [aq d,af];exact i e d
def VX:(Nat×Nat)⊕(Int×TD×Int×TD×Int×TD×Int)⊕(Int×Bool×Bool×List TI)->Int×TD×Int×TD×Int×TD×Bool×Bool×Int×Int×Int×List TI
 | .inl f=>(0,d0,0,d0,0,d0,false,false,0,(f.1:Int),(f.2:Int),[])
 | .inr (.inl (K,D,KF,DF,KT,DT,L))=>(K,D,KF,DF,KT,DT,false,false,L,0,0,[])
 | .inr (.inr (K,e,l,I))=>(K,d0,0,d0,0,d0,e,l,2,0,0,I)
theorem LY {S:aa} {p:Nat} (h:p+1<=S.length) (d:S.length<100000) {KF:Int} {DF:TD} (b:smT DF) (lv a:Int) (c:a=if KF=1 then lv else mx 1 lv) (I J:List TI):
  gL 20000000 S a (p:Int) KF DF I J=some (match toX S (p+1) KF DF lv with
   | .inl f=>(0,(f.1:Int),(f.2:Int),0,d0,0,d0,0,d0,false,false,[])
   | .inr (KT,DT,L)=>(L,0,0,2,d0,KF,DF,KT,DT,false,false,J)):=by
 unfold gL;rw [show w64 (((p:Nat):Int)+1)=((p+1:Nat):Int) from rf_w 1 (by omega),Ym h d b lv a c J];cases toX S (p+1) KF DF lv with
 | inl f=>rfl
 | inr q=>rfl
theorem Jp {S:aa} {p:Nat} (lv KF:Int) (DF:TD) (I J:List TI):dV 20000000 S lv (p:Int) KF DF I J=some (S,lv,(p:Int),!decide ((S.drop p).head?=some 47),KF,DF,I,J):=by
 unfold dV;by_cases hp:p<S.length
 ·have a:=be hp;rw [aq (show ¬((p:Nat):Int)>=len S by show ¬((p:Nat):Int)>=((S.length:Nat):Int);omega),af,dL a,bU a];simp only [ob,qZ,au];rw [show (((S[p].toNat:Nat):Int) != 47)=!decide (S[p]=47) from ch _ (kM S[p] 47 (by decide))]
 ·rw [am (show ((p:Nat):Int)>=len S by show ((p:Nat):Int)>=((S.length:Nat):Int);omega),jm (by omega)];rfl
theorem I6 {S:aa} (G:S.length<=16384):kq 20000000 S=some (VX (nT S)):=by
 unfold kq;rw [show decide (len S>16384)=false from aq (by show ¬(16384:Int)<((S.length:Nat):Int);omega),af];have u:iD 20000000 S ([]:List TI)=some (S,decide (S.head?=some 91\/S.head?=some 123),[]):=by
  unfold iD;cases S with
  | nil=>rfl
  | cons c r=>
   rw [show ((c::r)==([]:aa))=false from rfl];simp only [ij,ah,ob,show sx (c::r) (0:Int)=some c from rfl,qZ,au];rw [show (((c.toNat:Nat):Int)==91)=decide (c=91) from kM c 91 (by decide),show (((c.toNat:Nat):Int)==123)=decide (c=123) from kM c 123 (by decide)];by_cases h:c=91
   ·simp [h]
   ·simp [h]
 rw [u];simp only [ob,u3,u2];unfold nT;by_cases g:S.head?=some 91\/S.head?=some 123
 ·rw [am g,ae g,ah];have m:=Ua (S:=S) (a:=0) (by omega) (by omega);rw [show ((0:Nat):Int)=0 from rfl] at m;rw [m];unfold DJ;cases h:rZ S 0 with
  | inl f=>
   have C:=w9 (by omega) h;simp only [J3,u12,u11,u10,u9,u8,u7,u6,u5,u4,u3,u2];rw [show (((f.2.1:Nat):Int) != 0)=true from by simp;omega];rfl
  | inr q=>
   obtain ⟨K,e,l,I,p⟩:=q;simp only [J3,u12,u11,u10,u9,u8,u7,u6,u5,u4,u3,u2,dJ,af];show cond (decide ((p:Int)<len S)) _ _=_;by_cases hp:p<S.length
   ·rw [am (show (p:Int)<len S by show (p:Int)<((S.length:Nat):Int);omega)];simp only [ae hp];rfl
   ·rw [aq (show ¬(p:Int)<len S by show ¬(p:Int)<((S.length:Nat):Int);omega)];simp only [ab hp];rfl
 rw [aq g,ab g,af];have t:gK 20000000 S ([]:List TI) ([]:List TI)=some (S,dts S,[],[]):=by
  unfold gK;by_cases h:1<S.length
  ·have v:bx S.length (2:Int)=some 2:=dY (i:=2) (by omega);rw [show decide (len S>1)=true from am (by show (1:Int)<((S.length:Nat):Int);omega),ah,v];rfl
  ·rw [show decide (len S>1)=false from aq (by show ¬(1:Int)<((S.length:Nat):Int);omega),af];have:=C4 (S:=S) (p:=0) (by omega);rw [cM] at this;rw [this]
 rw [t];simp only [u4,u3,u2];unfold jJ;have s:gQ 20000000 S ([]:List TI) ([]:List TI)=some (S,decide (S.head?=some 47),[],[]):=by
  unfold gQ;cases S with
  | nil=>rfl
  | cons c r=>
   rw [show ((c::r)==([]:aa))=false from rfl];simp only [ij,ah,ob,show sx (c::r) (0:Int)=some c from rfl,qZ,au];rw [show (((c.toNat:Nat):Int)==47)=decide (c=47) from kM c 47 (by decide)]
 rw [s];cases F:dts S
 ·simp only [af,ob,u4,u3,u2,br,aA];unfold jH;by_cases j:S.head?=some 47
  ·have E:1<=S.length:=by
    have:=fY (S:=S) (p:=0) (c:=47) (by rw [cM];exact j);omega
   have b:=Jp (S:=S) (p:=0) 1 3 d0 [] [];rw [cM,am j,show ((0:Nat):Int)=0 from rfl] at b;have d:=LY (S:=S) (p:=0) E (by omega) n8 (KF:=3) 0 1 rfl [] [];rw [show ((0:Nat):Int)=0 from rfl] at d;rw [am j,ae j];simp only [ah,obs,sm,ob,u7,u6,u5,u4,u3,u2,b,co,af,u8,d];rw [show (0+1)=1 from rfl];cases toX S 1 3 d0 0 with
   | inl f=>rfl
   | inr q=>rfl
  ·rw [aq j,ab j];obtain ⟨A,z⟩:=rD S 0 (by omega) (by omega);rw [show ((0:Nat):Int)=0 from rfl] at z;rw [z];cases m:dk S 0 with
   | inl f=>
    have C:=nX (f7 _) m;rw [zO];simp only [af,ob];rw [show ((d4 (d8 ((false,false,([]:aa),(0:Int),(0:Int),([]:aa),([]:aa),(0:Int),(0:Int),(0:Int),A,S,(f.1:Int),(f.2.1:Int))))).2 != 0)=true from by show (((f.2.1:Nat):Int) != 0)=true;simp;omega];rfl
   | inr r=>
    obtain ⟨x,H,J,D⟩:=je (f7 _) m;obtain ⟨_,_,_,_,_,_,_,_,_,_,y⟩:=fS9 (f7 _) m;rw [cM,sY] at y;have hv':eJ 20000000 (S.take (enR r))=some (lvR S 0 r):=by
     unfold lvR;rw [cM,sY];exact y
    rw [uM];simp only [af,ob];show obs (obs (cond ((0:Int) != 0) _ (ob (bx S.length ((enR r:Nat):Int)) _)) _ _) _ _=_;rw [dY D];simp only [dJ,af,ob,cM,hv'];rw [show ((d4 (d8 ((tdR r).1,(tdR r).2.1,(tdR r).2.2.1,(tdR r).2.2.2.1,(tdR r).2.2.2.2.1,(tdR r).2.2.2.2.2.1,(tdR r).2.2.2.2.2.2.1,(tdR r).2.2.2.2.2.2.2.1,(tdR r).2.2.2.2.2.2.2.2.1,(tdR r).2.2.2.2.2.2.2.2.2,((plR r:Nat):Int),S,((enR r:Nat):Int),(0:Int)))).1==len S)=decide (enR r=S.length) from natB _ _];by_cases w:enR r=S.length
    ·have n:(S.drop (enR r)).head?=none:=by rw [w,vt];rfl
     rw [am w,n];simp only [reduceCtorEq,aA];rw [ab (by omega)];rfl
    ·have o:enR r<S.length:=by omega
     have B:=be o;rw [aq w,af];unfold jK;show obs (obs (ob (ob (sx S ((enR r:Nat):Int)) _) _) _ _) _ _=_;rw [dL B];have n:(S.drop (enR r)).head?=some S[enR r]:=by rw [bU B];rfl
     simp only [ob];rw [show (((S[enR r].toNat:Nat):Int)==47)=decide (S[enR r]=47) from kM _ 47 (by decide),show ap10 (aO 20000000) (iF ((tdR r).1,(tdR r).2.1,(tdR r).2.2.1,(tdR r).2.2.2.1,(tdR r).2.2.2.2.1,(tdR r).2.2.2.2.2.1,(tdR r).2.2.2.2.2.2.1,(tdR r).2.2.2.2.2.2.2.1,(tdR r).2.2.2.2.2.2.2.2.1,(tdR r).2.2.2.2.2.2.2.2.2,((plR r:Nat):Int),S,((enR r:Nat):Int),(0:Int)))=some (if exT (tdR r) then 1 else 0) from reT x];have b:=Jp (S:=S) (p:=enR r) (lvR S 0 r) 1 (tdR r) [] [];by_cases k:S[enR r]=47
     ·rw [n,am k,ae (show some S[enR r]=some 47 by rw [k])];rw [n,am (by rw [k])] at b;simp only [ah];cases hx:exT (tdR r)
      ·rfl
      ·have d:=LY (S:=S) (p:=enR r) (by omega) (by omega) x (KF:=1) (lvR S 0 r) (lvR S 0 r) rfl [] [];simp only [aJ,show ((1:Int)==0)=false from rfl,u10,u9,u8,u7,u6,u5,u4,u3,u2,af,obs,sm,ob];rw [show dV 20000000 S (lvR S 0 r) ((enR r:Nat):Int) 1 (tdR r) [] []=_ from b];simp only [co,af];rw [d];cases toX S (enR r+1) 1 (tdR r) (lvR S 0 r) with
       | inl f=>rfl
       | inr q=>rfl
     ·rw [n,aq k,ab (show ¬some S[enR r]=some 47 by simpa using k),ae o];rw [n,aq (by simpa using k)] at b;simp only [af,u10,u9,u8,u7,u6,u5,u4,u3,u2,obs,sm,ob];rw [show dV 20000000 S (lvR S 0 r) ((enR r:Nat):Int) 1 (tdR r) [] []=_ from b];rfl
 ·have v:S.head?≠some 47:=by
   obtain ⟨r,rfl⟩:=sG.1 F;simp
  rw [ab v,ae rfl];have b:=Jp (S:=S) (p:=2) 1 2 d0 [] [];rw [show ((2:Nat):Int)=2 from rfl] at b;simp only [ah,obs,sm,ob,u7,u6,u5,u4,u3,u2,b,u8];by_cases hs:(S.drop 2).head?=some 47
  ·have d:=LY (S:=S) (p:=2) (fY hs) (by omega) n8 (KF:=2) 0 1 rfl [] [];rw [show ((2:Nat):Int)=2 from rfl] at d;rw [am hs,ae hs];simp only [co,af,d];rw [show (2+1)=3 from rfl];cases toX S 3 2 d0 0 with
   | inl f=>rfl
   | inr q=>rfl
  ·rw [aq hs,ab hs];rfl
def yO (K:Int) (x:TD):aa:=if K=2 then [46,46] else if K=3 then [] else vB x
def okB (K:Int) (x:TD):Prop:=(K=1/\cF x=0/\exT x=true)\/((K=2\/K=3)/\x=d0)
theorem Q3 {K:Int} {x:TD} (h:rW K x=0):okB K x:=by
 by_cases c:K=1
 ·subst c;obtain ⟨a,b⟩:=FK h;exact .inl ⟨rfl,a,b⟩
 ·unfold rW chkB at h;rw [ab c] at h;split at h
  ·rename_i e;split at h
   ·rename_i d;exact .inr ⟨e,nN.1 d⟩
   ·cases h
  ·cases h
theorem zp {KF KT:Int} {x y:TD} (h:qm KF x KT y=0):okB KF x/\okB KT y/\(KF=1\/KT=1):=by
 unfold qm Es at h;by_cases a:rW KF x=0
 ·rw [ab (λz=>z a)] at h;by_cases b:rW KT y=0
  ·rw [ab (λz=>z b)] at h;split at h
   ·cases h
   ·rename_i c;exact ⟨Q3 a,Q3 b,by omega⟩
  ·rw [ae b] at h;exact absurd h b
 ·rw [ae a] at h;exact absurd h a
inductive RightP:Int->TD->Int->TD->Int->TD->Bool->Bool->List TI->Prop where
 | single {x:TD} (hs:smT x) (hc:cF x=0):RightP 1 x 0 d0 0 d0 false false []
 | interval {KF:Int} {x:TD} {KT:Int} {y:TD} (hx:smT x) (hy:smT y) (hp:qm KF x KT y=0):RightP 2 d0 KF x KT y false false []
 | set {K:Int} {e l:Bool} {I:List TI} (P:SetP K d0 0 d0 0 d0 e l I) (hs:∀t∈I,smI t):RightP K d0 0 d0 0 d0 e l I
theorem LI {k:Int} {D:TD} {KF:Int} {DF:TD} {KT:Int} {DT:TD} {e l:Bool} {I:List TI} (hs:smE D DF DT I) (h:(gH k D KF DF KT DT e l I).2=0):RightP k D KF DF KT DT e l I:=by
 by_cases i:k=3\/k=4
 ·have P:=xu i h;obtain ⟨rfl,rfl,rfl,rfl,rfl⟩:D=d0/\KF=0/\DF=d0/\KT=0/\DT=d0:=⟨P.d,P.kf,P.df,P.kt,P.dt⟩;exact .set P hs.2.2.2
 ·unfold gH at h;split at h
  ·simp at h
  ·split at h
   ·simp at h
   ·rename_i n a;unfold unuB at a;generalize z1:eqD D d0=p at a;generalize z2:eqD DF d0=q at a;generalize f:eqD DT d0=o at a;by_cases k1:k=1
    ·subst k1;rw [ae rfl] at h;simp at a;obtain ⟨⟨⟨a1,a2⟩,c,b⟩,j,m,g⟩:=a;subst a1 c j m g;rw [nN.1 (z2.trans a2),nN.1 (f.trans b)];exact .single hs.1 h
    ·have k2:k=2:=by omega
     subst k2;rw [ab (by omega),ae rfl] at h;simp at a;obtain ⟨a1,a2,c,b⟩:=a;subst a2 c b;rw [nN.1 (z1.trans a1)];exact .interval hs.2.1 hs.2.2.1 h
def ur (k:Int) (D:TD) (KF:Int) (DF:TD) (KT:Int) (DT:TD) (e l:Bool) (I:List TI):aa:=
 if k=1 then vB D else if k=2 then yO KF DF++47::yO KT DT else Bf k e l I
theorem CG {K:Int} {x:TD} (hs:smT x) (h:okB K x):ap10 (gV 20000000 K) x=some (yO K x):=by
 rcases h with ⟨rfl,hc,c⟩ | ⟨b,rfl⟩
 ·have a:chkB 1 x.1 x.2.1 x.2.2.1 x.2.2.2.1 x.2.2.2.2.1 x.2.2.2.2.2.1 x.2.2.2.2.2.2.1 x.2.2.2.2.2.2.2.1 x.2.2.2.2.2.2.2.2.1 x.2.2.2.2.2.2.2.2.2=0:=by
   unfold chkB;rw [ae rfl];have hc':chkF x.1 x.2.1 x.2.2.1 x.2.2.2.1 x.2.2.2.2.1 x.2.2.2.2.2.1 x.2.2.2.2.2.2.1 x.2.2.2.2.2.2.2.1 x.2.2.2.2.2.2.2.2.1 x.2.2.2.2.2.2.2.2.2=0:=hc;have he':exD x.2.2.1 x.2.2.2.2.2.1 x.2.2.2.2.2.2.1 x.2.2.2.2.1=true:=c;rw [hc',he'];rfl
  exact I0 hs.1 hs.2.1 hs.2.2.1 hs.2.2.2.1 hs.2.2.2.2.1 hs.2.2.2.2.2 a
 ·rcases b with rfl | rfl<;>rfl
theorem tV {K:Int} {x:TD} (hs:smT x) (h:okB K x):(yO K x).length<=37:=by
 rcases h with ⟨rfl,hc,c⟩ | ⟨b,rfl⟩
 ·have a:yO 1 x=vB x:=by unfold yO;rw [ab (by omega),ab (by omega)]
  rw [a];exact nv hs hc
 ·rcases b with rfl | rfl<;>decide
theorem RI {K:Int} {x:TD} (h:okB K x):rW K x=0:=by
 rcases h with ⟨rfl,hc,b⟩ | ⟨a,rfl⟩
 ·exact BA hc b
 ·rcases a with rfl | rfl<;>kernel_rfl
theorem Hu {K:Int} {x:TD} (hs:smT x) (h:okB K x):ap10 (jk 20000000 K) x=some (yO K x,0):=by
 have b:chkB K x.1 x.2.1 x.2.2.1 x.2.2.2.1 x.2.2.2.2.1 x.2.2.2.2.2.1 x.2.2.2.2.2.2.1 x.2.2.2.2.2.2.2.1 x.2.2.2.2.2.2.2.2.1 x.2.2.2.2.2.2.2.2.2=0:=RI h;have:=Ue (K:=K) (g:=x.1) (l:=x.2.1) (x:=x.2.2.2.1) (q:=x.2.2.2.2.1) hs.1 hs.2.1 hs.2.2.1 hs.2.2.2.1 hs.2.2.2.2.1 hs.2.2.2.2.2;rw [ae b] at this;refine this.trans ?_;unfold yO vB;by_cases a:K=2
 ·simp only [a,aJ]
 ·simp only [a,aA]
theorem FQ {KF:Int} {x:TD} {KT:Int} {y:TD} (hx:smT x) (hy:smT y) (hp:qm KF x KT y=0) (K:Int) (D:TD) (e l:Bool) (I:List TI):
  gZ 20000000 K D KF x KT y e l I=some (yO KF x++47::yO KT y,0):=by
 obtain ⟨b,a,_⟩:=zp hp;have c:=tV hx b;have d:=tV hy a;unfold gZ;rw [Hu hx b,Hu hy a];simp only [ob,u2];rw [cb (by simp only [aC,ba];omega)];simp only [];rw [cb (by simp only [aL,aC,ba];omega)];simp only [iQ,eI,eK]
theorem OX {k:Int} {D:TD} {KF:Int} {DF:TD} {KT:Int} {DT:TD} {e l:Bool} {I:List TI} (h:RightP k D KF DF KT DT e l I):(gH k D KF DF KT DT e l I).2=0:=by
 cases h with
 | single hs hc=>rw [(Cf hs hc).first]
 | interval hx hy hp=>rw [(yJ hx hy hp).first]
 | set P hs=>exact P.set
theorem X0 {k:Int} {D:TD} {KF:Int} {DF:TD} {KT:Int} {DT:TD} {e l:Bool} {I:List TI} (h:RightP k D KF DF KT DT e l I):smE D DF DT I:=by
 cases h with
 | single hs hc=>exact ⟨hs,n8,n8,λt a=>by cases a⟩
 | interval hx hy hp=>exact ⟨n8,hx,hy,λt a=>by cases a⟩
 | set P hs=>exact ⟨n8,n8,n8,hs⟩
theorem NY {k:Int} {D:TD} {KF:Int} {DF:TD} {KT:Int} {DT:TD} {e l:Bool} {I:List TI} (hs:smE D DF DT I):
  fK 20000000 k D KF DF KT DT e l I=some (if (gH k D KF DF KT DT e l I).2=0 then (ur k D KF DF KT DT e l I,0) else ([],(gH k D KF DF KT DT e l I).2)):=by
 unfold fK;rw [Ie hs];by_cases a:(gH k D KF DF KT DT e l I).2=0
 ·rw [ae a,a];have P:=LI hs a;simp only [ob,dJ,af,ko];cases P with
  | single hx hc=>
   rw [show ((1:Int)==1)=true from rfl,ah];unfold jf ur;rw [ae rfl,dfT hx hc];simp only [ob,u2]
  | interval hx hy hp=>
   rw [show ((2:Int)==1)=false from rfl,af,show ((2:Int)==2)=true from rfl,ah,FQ hx hy hp];unfold ur;rw [ab (by omega),ae rfl]
  | set P hi=>
   have b:=P.kind;have c:=SE (K:=k) (KF:=0) (KT:=0) (e:=e) (l:=l) hs;rw [ae (show Ix k from b),ae a] at c;rw [c];unfold ur;rw [ab (by rcases b with rfl | rfl<;>omega),ab (by rcases b with rfl | rfl<;>omega)];generalize Bf k e l I=w;rcases b with rfl | rfl<;>rfl
 ·rw [ab a];simp only [ob];rw [show ((gH k D KF DF KT DT e l I).2 != 0)=true from bne_iff_ne.2 a,ah]
theorem xW {k:Int} {D:TD} {KF:Int} {DF:TD} {KT:Int} {DT:TD} {e l:Bool} {I:List TI} (h:RightP k D KF DF KT DT e l I):
  fK 20000000 k D KF DF KT DT e l I=some (ur k D KF DF KT DT e l I,0):=by
 rw [NY (X0 h),ae (OX h)]
theorem Cj {k:Int} {D:TD} {KF:Int} {DF:TD} {KT:Int} {DT:TD} {e l:Bool} {I:List TI} (h:RightP k D KF DF KT DT e l I):fE 20000000 k D KF DF KT DT e l I=some (ur k D KF DF KT DT e l I):=by
 cases h with
 | single hs hc=>
  unfold fE ur;rw [ae rfl,rfT hs hc];rfl
 | interval hx hy hp=>
  obtain ⟨a,b,_⟩:=zp hp;have f:=tV hx a;have i:=tV hy b;unfold fE ur;rw [ab (by omega),ae rfl,CG hx a,CG hy b];simp only [show ((2:Int)==1)=false from rfl,show ((2:Int)==2)=true from rfl,ah,af,ob];rw [cb (by simp only [aC,ba];omega)];simp only [];rw [cb (by simp only [aL,aC,ba];omega)];simp only [iQ,eI,eK]
 | set P hs=>
  have d:=P.kind;have g:=P.most;have ok:=λt c=>(Qu P hs t c).1;unfold fE ur;rw [ab (by omega),ab (by omega),show (k==1)=false from by simp;omega,show (k==2)=false from by simp;omega];simp only [af,MR d ok (by omega),ob]
theorem I5 (n:Nat) (K:Int) (D:TD) (KF:Int) (DF:TD) (KT:Int) (DT:TD) (c d:Nat) (e l:Bool) (L:List TI):ky n K D KF DF KT DT c d e l L=gZ n K D KF DF KT DT e l L:=rfl
theorem LV (n:Nat) (K:Int) (D:TD) (KF:Int) (DF:TD) (KT:Int) (DT:TD) (c d:Nat) (e l:Bool) (L:List TI):jL n K D KF DF KT DT c d e l L=jf n K D KF DF KT DT e l L:=rfl
theorem Ol (n:Nat) (K:Int) (D:TD) (KF:Int) (DF:TD) (KT:Int) (DT:TD) (c:Nat) (e l:Bool) (L:List TI):jD n K D KF DF KT DT L.length c e l L=fK n K D KF DF KT DT e l L:=by
 unfold jD fK;rw [Kw];simp only [I5,LV,VI]
noncomputable def canX:(Nat×Nat)⊕(Int×TD×Int×TD×Int×TD×Int)⊕(Int×Bool×Bool×List TI)->aa×Int×Int
 | .inl f=>([],(f.1:Int),(f.2:Int))
 | .inr (.inl (K,D,KF,DF,KT,DT,_))=>(ur K D KF DF KT DT false false [],0,0)
 | .inr (.inr (K,e,l,I))=>(ur K d0 0 d0 0 d0 e l I,0,0)
def QN:(Nat×Nat)⊕(Int×TD×Int×TD×Int×TD×Int)⊕(Int×Bool×Bool×List TI)->Prop
 | .inl f=>f.2≠0
 | .inr (.inl (K,D,KF,DF,KT,DT,L))=>RightP K D KF DF KT DT false false []/\(K=1\/K=2)
 | .inr (.inr (K,e,l,I))=>RightP K d0 0 d0 0 d0 e l I/\Ix K
theorem C2 {S:aa} (b:S.length<=16384) (h:QN (nT S)):bH 20000000 S=some (canX (nT S)):=by
 unfold bH;rw [Qf b];generalize nT S=y at h;rcases y with f | ⟨K,D,KF,DF,KT,DT,L⟩ | ⟨K,e,l,I⟩
 ·have h:f.2≠0:=h;simp only [OB,obs,sm,ob,u12,u11,u10,u9,u8,u7,u6,u5,u4,u3,u2];rw [show (((f.2:Nat):Int) != 0)=true from bne_iff_ne.2 (by omega),ah];rfl
 ·have a:=xW h.1;simp only [OB,obs,sm,ob,u12,u11,u10,u9,u8,u7,u6,u5,u4,u3,u2,dJ,af,a,ob];rfl
 ·have a:=xW h.1;simp only [OB,obs,sm,ob,u14,u13,u12,u11,u10,u9,u8,u7,u6,u5,u4,u3,u2,dJ,af,Ol,a,ob];rfl
theorem Pi:mJ 20000000=some true:=by kernel_rfl
theorem Q7:rW 2 d0=0/\rW 3 d0=0:=⟨by kernel_rfl,by kernel_rfl⟩
theorem xh {S:aa} {p:Nat} (hp:p<=S.length) {KF:Int} {DF:TD} {lv:Int} (g:KF=1->cF DF=0/\exT DF=true) {KT:Int} {DT:TD} {L:Int} (d:toX S p KF DF lv=.inr (KT,DT,L)):smT DT/\qm KF DF KT DT=0:=by
 unfold toX at d;cases c:toP S p KF DF lv with
 | inl f=>rw [c] at d;cases d
 | inr q=>
  obtain ⟨j,k,l,q⟩:=q;rw [c] at d;simp only [] at d;split at d
  ·cases d
  ·rename_i i;have d:=uP d;simp only [bC] at d;obtain ⟨rfl,rfl,rfl⟩:=d;refine ⟨(Ve hp c).2,?_⟩;unfold toP at c;split at c
   ·rename_i hc;have c:=uP c;simp only [bC] at c;obtain ⟨rfl,rfl,_,_⟩:=c;obtain ⟨rfl,_⟩:=hc;obtain ⟨a,b⟩:=g rfl;rw [M5 (BA a b) Q7.2];simp
   ·split at c
    ·rename_i hc;have c:=uP c;simp only [bC] at c;obtain ⟨rfl,rfl,_,_⟩:=c;obtain ⟨rfl,_⟩:=hc;obtain ⟨a,b⟩:=g rfl;rw [M5 (BA a b) Q7.1];simp
    ·cases h:dk S p with
     | inl f=>rw [h] at c;cases c
     | inr r=>
      rw [h] at c;simp only [] at c;split at c
      ·split at c
       ·rename_i e;have c:=uP c;simp only [bC] at c;obtain ⟨rfl,rfl,_,rfl⟩:=c;rcases e with e | e
        ·exact absurd e i
        ·exact e
       ·cases c
      ·cases c
theorem EI {S:aa} {p:Nat} (h:p<=S.length) {KF:Int} {DF:TD} {lv:Int} {f:Nat×Nat} (a:toX S p KF DF lv=.inl f):f.2≠0:=by
 unfold toX at a;cases b:toP S p KF DF lv with
 | inl g=>rw [b] at a;cases a;exact A9 h b
 | inr q=>
  rw [b] at a;simp only [] at a;split at a
  ·cases a;simp
  ·cases a
theorem Fq (S:aa):QN (nT S):=by
 unfold nT;split
 ·unfold DJ;cases c:rZ S 0 with
  | inl f=>exact w9 (f7 _) c
  | inr q=>
   obtain ⟨K,e,l,I,p⟩:=q;by_cases hp:p<S.length
   ·simp only [ae hp];show (5:Nat)≠0;omega
   ·simp only [ab hp];have ok:=Om (f7 _) c;exact ⟨.set (xu ok.kind (show (gH K d0 0 d0 0 d0 e l I).2=0 from ok.ok)) ok.sm,ok.kind⟩
 ·split
  ·rename_i h;have hp:1<=S.length:=fY (S:=S) (p:=0) (by rw [cM];exact h);cases c:toX S 1 3 d0 0 with
   | inl f=>exact EI hp c
   | inr q=>
    obtain ⟨KT,DT,L⟩:=q;obtain ⟨a,b⟩:=xh hp (λh=>by omega) c;exact ⟨.interval n8 a b,.inr rfl⟩
  ·split
   ·split
    ·rename_i h;have hp:3<=S.length:=fY h;cases c:toX S 3 2 d0 0 with
     | inl f=>exact EI hp c
     | inr q=>
      obtain ⟨KT,DT,L⟩:=q;obtain ⟨a,b⟩:=xh hp (λh=>by omega) c;exact ⟨.interval n8 a b,.inr rfl⟩
    ·show (5:Nat)≠0;omega
   ·cases c:dk S 0 with
    | inl f=>exact nX (f7 _) c
    | inr r=>
     obtain ⟨g,d,_,_⟩:=je (f7 _) c;simp only [];split
     ·rename_i h;have hp:enR r+1<=S.length:=fY h;split
      ·rename_i hx;cases i:toX S (enR r+1) 1 (tdR r) (lvR S 0 r) with
       | inl f=>exact EI hp i
       | inr q=>
        obtain ⟨KT,DT,L⟩:=q;obtain ⟨a,b⟩:=xh hp (λ_=>⟨d,hx⟩) i;exact ⟨.interval g a b,.inr rfl⟩
      ·show (11:Nat)≠0;omega
     ·split
      ·show (5:Nat)≠0;omega
      ·exact ⟨.single g d,.inl rfl⟩
theorem K0 {S:aa} (a:S.length<=16384):bH 20000000 S=some (canX (nT S)):=C2 a (Fq S)
theorem IW {g l:Bool} {dg:aa} {x q:Int} {m d:aa} {a b c e f i:Int} (h:chkD g l dg x q m d a b c=0) (k:allM e f i (dB m d)=0):chkD g l dg x q m d e f i=0:=by
 unfold chkD at h ⊢;generalize yrD g l dg x q m=b1 at *;generalize (!(m==[])&&(!(decide (0<sea m))&&!(gI m 12)))=b2 at *;generalize (!(d==[])&&((m==[])||(decide (0<sea m)||!(gI d 31))))=j at *;cases b1<;>cases b2<;>cases j<;>simp_all
theorem IN {g l:Bool} {dg:aa} {x q:Int} {m d:aa} {a b c f i j:Int} (h:chkF g l dg x q m d a b c=0) (o:allM f i j (dB m d)=0):chkF g l dg x q m d f i j=0:=by
 have e:=mE h;have k:=IW e o;unfold chkF at h ⊢;rw [e] at h;rw [k];split at h
 ·cases h
 ·rename_i n;rw [ab n]
theorem or4' {a b:Nat} (c:a<4) (d:b<4):a ||| b<4:=Nat.or_lt_two_pow (n:=2) c d
theorem Xp {A B:Nat×Nat×Nat} {m d:aa} (h:MkD A B m d) (c:m=[]->d=[]):inM (dB m d) (spM A B):=by
 obtain ⟨a0,a1,a2,b0,b1,b2,zm,zd⟩:=h;refine ⟨or4' (or4' (or4' a0 b0) b1) b2,or4' (or4' a1 b1) b2,or4' a2 b2,λe=>?_,λe=>?_⟩
 ·by_cases a:m=[]
  ·obtain ⟨j,g⟩:=zm a;obtain ⟨_,f⟩:=zd (c a);show A.2.1 ||| B.2.1 ||| B.2.2=0;rw [j,g,f];rfl
  ·by_cases b:d=[]
   ·subst b;rw [G4 a] at e;omega
   ·rw [zg a b] at e;omega
 ·by_cases b:d=[]
  ·obtain ⟨i,f⟩:=zd b;show A.2.2 ||| B.2.2=0;rw [i,f];rfl
  ·by_cases a:m=[]
   ·exact absurd (c a) b
   ·rw [zg a b] at e;omega
def tf (x:TD) (M:Nat×Nat×Nat):TD:=(x.1,x.2.1,x.2.2.1,x.2.2.2.1,x.2.2.2.2.1,x.2.2.2.2.2.1,x.2.2.2.2.2.2.1,(M.1:Int),(M.2.1:Int),(M.2.2:Int))
def rawT (x:TD) (A B:Nat×Nat×Nat):aa:=rawD A B x.1 x.2.1 x.2.2.1 x.2.2.2.1 x.2.2.2.2.1 x.2.2.2.2.2.1 x.2.2.2.2.2.2.1
theorem xb {x:TD} (hs:smT x) (hc:cF x=0) {M:Nat×Nat×Nat} (h:inM (coT x) M):smT (tf x M)/\cF (tf x M)=0:=
 ⟨⟨hs.1,hs.2.1,hs.2.2.1,F8 _,F8 _,F8 _⟩,IN hc (uF h)⟩
theorem GB {x:TD} (hs:smT x) (hc:cF x=0) {A B:Nat×Nat×Nat} (j:MkD A B x.2.2.2.2.2.1 x.2.2.2.2.2.2.1) {S:aa} {p:Nat} {post:aa} (h:S.drop p=rawT x A B++post) (hp:endT post):
  ∃r,dk S p=.inr r/\tdR r=tf x (spM A B)/\enR r=p+(rawT x A B).length/\smT (tf x (spM A B))/\cF (tf x (spM A B))=0:=by
 obtain ⟨g,l,dg,e,q,m,d,a,b,c,rfl,ok⟩:=qC hs hc;obtain ⟨o,u,n⟩:=RS hp;obtain ⟨P,_,s⟩:=HB ok.sh j h o u n;have f:inM (dB m d) (spM A B):=Xp j λt=>ok.day.resolve_right (λz=>z.1 t);obtain ⟨k,i⟩:=xb hs hc f;refine ⟨(g,l,dg,e,q,m,d,spM A B,P,p+(rawD A B g l dg (e:Int) (q:Int) m d).length),?_,rfl,rfl,k,i⟩;unfold dk;rw [s];have:chkR (g,l,dg,e,q,m,d,spM A B,P,p+(rawD A B g l dg (e:Int) (q:Int) m d).length)=0:=by
  show (cF (tf (g,l,dg,(e:Int),(q:Int),m,d,(a:Int),(b:Int),(c:Int)) (spM A B))).toNat=0;rw [i];rfl
 simp only [this,aJ]
theorem OQ {x:TD} (hs:smT x) (hc:cF x=0) (A B:Nat×Nat×Nat) (r:aa):dG brk (rawT x A B++r):=by
 obtain ⟨g,l,dg,e,q,m,d,a,b,c,rfl,ok⟩:=qC hs hc;show dG brk (rawD A B g l dg (e:Int) (q:Int) m d++r);unfold rawD cw;rw [iQ,iQ,iQ];exact Jy _ (by decide) (by decide) (by decide) (K7 ok.yr _)
theorem CL {x:TD} (hs:smT x) (hc:cF x=0) {A B:Nat×Nat×Nat} (f:MkD A B x.2.2.2.2.2.1 x.2.2.2.2.2.2.1):∃L,nT (rawT x A B)=.inr (.inl (1,tf x (spM A B),0,d0,0,d0,L)):=by
 obtain ⟨r,g,j,d,_,_⟩:=GB hs hc f (S:=rawT x A B) (p:=0) (post:=[]) (by simp) Oj;have a:=OQ hs hc A B [];rw [nP] at a;rw [dq] at d;generalize rawT x A B=T at *;have b:∀c,brk c=true->T.head?≠some c:=λc e i=>by have:=a c i;rw [e] at this;cases this
 refine ⟨lvR T 0 r,?_⟩;unfold nT;rw [ab (by rintro (h | h);exact b 91 (by decide) h;exact b 123 (by decide) h),ab (b 47 (by decide)),IU a,ab (by simp),g];simp only [];rw [d,vt,ab (by simp),ab (by omega),j]
theorem Gq {x:TD} (hs:smT x) (hc:cF x=0) {A B:Nat×Nat×Nat} (h:MkD A B x.2.2.2.2.2.1 x.2.2.2.2.2.2.1):(rawT x A B).length<=1000:=by
 obtain ⟨g,l,dg,e,q,m,d,a,b,c,rfl,ok⟩:=qC hs hc;obtain ⟨u,k,f,_⟩:=Gt ok.sh h;exact f.len
theorem R1 {x:TD} (hs:smT x) (hc:cF x=0) {A B:Nat×Nat×Nat} (a:MkD A B x.2.2.2.2.2.1 x.2.2.2.2.2.2.1):bH 20000000 (rawT x A B)=some (vB (tf x (spM A B)),0,0):=by
 obtain ⟨L,h⟩:=CL hs hc a;have:=Gq hs hc a;rw [K0 (by omega),h];rfl
theorem uv {k:Nat} (h:k<4):(mt k).length<=1:=by
 rcases (by omega:k=0\/k=1\/k=2\/k=3) with rfl | rfl | rfl | rfl<;>simp [mt]
def dayP:TD:=(false,false,[50,48,48,52],0,0,[48,54],[49,49],0,0,0)
theorem uN:smT dayP:=⟨by decide,by decide,by decide,by decide,by decide,by decide⟩
theorem xN:cF dayP=0:=by
 have h:=fcT uN;have a:ap10 (bq 20000000) dayP=some 0:=by kernel_rfl
 rw [a] at h;exact (aZ h).symm
theorem mt_q {j:Nat} (h:j<4):([[],[63],[126],[37]]:List (aa))[j]?=some (mt j):=by
 rcases (by omega:j=0\/j=1\/j=2\/j=3) with rfl | rfl | rfl | rfl<;>rfl
theorem OU:ar (bQ 20000000) 20000000 (0,([[],[63],[126],[37]]:List (aa)))=some (.inr ()):=by
 refine ED (m:=4096) (f:=λi=>((i:Int),([[],[63],[126],[37]]:List (aa)))) ?_ ?_ (by omega)
 ·intro i hi;have o:∀k:Nat,Int.tmod (k:Int) 4=((k%4:Nat):Int):=λk=>rfl;have a:∀k:Nat,w64 (Int.tdiv (i:Int) (k:Int))=((i / k:Nat):Int):=λk=>by
   have h:=Bd i k;show IntKind.wrap .i64 ((i / k:Nat):Int)=_;generalize i / k=z at h ⊢;rw [wrap_i64 _ (by omega) (by omega)]
  have d4':w64 (Int.tdiv (i:Int) 4)=((i / 4:Nat):Int):=a 4;have d16':w64 (Int.tdiv (i:Int) 16)=((i / 16:Nat):Int):=a 16;have d64':w64 (Int.tdiv (i:Int) 64)=((i / 64:Nat):Int):=a 64;have d256':w64 (Int.tdiv (i:Int) 256)=((i / 256:Nat):Int):=a 256;have d1024':w64 (Int.tdiv (i:Int) 1024)=((i / 1024:Nat):Int):=a 1024;have mk:MkD (i%4,i / 16%4,i / 256%4) (i / 4%4,i / 64%4,i / 1024) dayP.2.2.2.2.2.1 dayP.2.2.2.2.2.2.1:=
   ⟨by show i%4<4;omega,by show i / 16%4<4;omega,by show i / 256%4<4;omega,by show i / 4%4<4;omega,by show i / 64%4<4;omega,by show i / 1024<4;omega,(λh=>by cases h),(λh=>by cases h)⟩
  have u:rawT dayP (i%4,i / 16%4,i / 256%4) (i / 4%4,i / 64%4,i / 1024)=mt (i%4)++[50,48,48,52]++mt (i / 4%4)++[45]++mt (i / 16%4)++[48,54]++mt (i / 64%4)++[45]++mt (i / 256%4)++[49,49]++mt (i / 1024):=by
   have hy:gk dayP.1 dayP.2.1 dayP.2.2.1 dayP.2.2.2.1 dayP.2.2.2.2.1=[50,48,48,52]:=by kernel_rfl
   unfold rawT rawD cw;rw [hy,ab (by decide),ab (by decide)];show _++(45::(mt (i / 16%4)++[48,54]++mt (i / 64%4))++45::(mt (i / 256%4)++[49,49]++mt (i / 1024)))=_;simp
  obtain ⟨L,hp⟩:=CL uN xN mk;have hc:=R1 uN xN mk;have e:=Gq uN xN mk;have d:=I6 (S:=rawT dayP (i%4,i / 16%4,i / 256%4) (i / 4%4,i / 64%4,i / 1024)) (by omega);rw [hp] at d;have b:inM (coT dayP) (spM (i%4,i / 16%4,i / 256%4) (i / 4%4,i / 64%4,i / 1024)):=Xp mk (λh=>by cases h);obtain ⟨l,s⟩:=xb uN xN b;have g:=Cj (RightP.single l s);have c:ur 1 (tf dayP (spM (i%4,i / 16%4,i / 256%4) (i / 4%4,i / 64%4,i / 1024))) 0 d0 0 d0 false false []=vB (tf dayP (spM (i%4,i / 16%4,i / 256%4) (i / 4%4,i / 64%4,i / 1024))):=by unfold ur;rw [ae rfl]
  rw [c] at g;rw [u] at d hc;have B:=uv (k:=i%4) (by omega);have A:=uv (k:=i / 4%4) (by omega);have x:=uv (k:=i / 16%4) (by omega);have y:=uv (k:=i / 64%4) (by omega);have C:=uv (k:=i / 256%4) (by omega);have w:=uv (k:=i / 1024) (by omega);have g0:=mt_q (j:=i%4) (by omega);have p:=mt_q (j:=i / 4%4) (by omega);have v:=mt_q (j:=i / 16%4) (by omega);have q:=mt_q (j:=i / 64%4) (by omega);have r:=mt_q (j:=i / 256%4) (by omega);have t:=mt_q (j:=i / 1024) (by omega);unfold bQ;simp only [u2,d4',d16',d64',d256',d1024',o];generalize n:([[],[63],[126],[37]]:List (aa))=E at *;have e:E.length=4:=by rw [<-n];rfl
  rw [am (show (i:Int)<4096 by omega),e,dl (show i%4<4 by omega),dl (show i / 4%4<4 by omega),dl (show i / 16%4<4 by omega),dl (show i / 64%4<4 by omega),dl (show i / 256%4<4 by omega),dl (show i / 1024<4 by omega)];simp only [ah,ob,g0,p,v,q,r,t]
  repeat (first | rw [cb (by simp only [aL,aC,ba];omega)] | simp only [])
  simp only [d,hc,VX,u12,u11,u10,u9,u8,u7,u6,u5,u4,u3,u2,g,dJ,af,sP,co];rw [pH (by omega)]
 ·unfold bQ;simp only [u2];rfl
def tj:TI:=mkI (tf dayP (1,1,0)) false d0
def rawP:aa:=[50,48,48,52,45,48,54,63,45,49,49]
def yE:Nat->aa
 | 0=>[]
 | n+1=>44::(rawP++yE n)
theorem MW:rawT dayP (0,0,0) (0,1,0)=rawP:=by kernel_rfl
theorem mkP:MkD (0,0,0) (0,1,0) dayP.2.2.2.2.2.1 dayP.2.2.2.2.2.2.1:=⟨by decide,by decide,by decide,by decide,by decide,by decide,(λh=>by cases h),(λh=>by cases h)⟩
theorem ND {S post:aa} {p:Nat} (h:S.drop p=rawP++post) (hp:endT post) (c:dts post=false):∃a,nW S 93 p=.inr (tj,a,p+11):=by
 obtain ⟨r,d,f,b,_,_⟩:=GB uN xN mkP (S:=S) (p:=p) (post:=post) (by rw [MW];exact h) hp;rw [MW] at b;have b:enR r=p+11:=b;have e:S.drop (enR r)=post:=by
  rw [b,<-iR,h];rfl
 refine ⟨plR r,?_⟩;unfold nW;rw [d];simp only [];rw [e,c,ab (by simp),f,b];rfl
theorem JG:∀(n p:Nat) {S post:aa} (P:List Nat) (J:List TI),S.drop p=rawP++(yE n++93::post)->∃c,ly S 93 (n+1) p P J=.inr (p+11+12*n,c,J++List.replicate (n+1) tj)/\S.drop (p+11+12*n)=93::post
 | 0,p,S,post,P,J,h=>by
  have h:S.drop p=rawP++93::post:=h
  obtain ⟨a,f⟩:=ND h (CB (by decide)) (by
   cases e:dts (93::post)
   ·rfl
   ·obtain ⟨r,d⟩:=sG.1 e;cases d)
  have b:S.drop (p+11)=93::post:=by rw [<-iR,h];rfl
  refine ⟨P++[a],?_,b⟩;rw [ly,f];simp only [];rw [b,ab (by simp)];rfl
 | n+1,p,S,post,P,J,h=>by
  have h:S.drop p=rawP++(44::(rawP++(yE n++93::post))):=by
   rw [h];simp [yE]
  obtain ⟨a,f⟩:=ND h (CB (by decide)) (by
   cases e:dts (44::(rawP++(yE n++93::post)))
   ·rfl
   ·obtain ⟨r,d⟩:=sG.1 e;cases d)
  have b:S.drop (p+11)=44::(rawP++(yE n++93::post)):=by rw [<-iR,h];rfl
  have g:S.drop (p+12)=rawP++(yE n++93::post):=by rw [show p+12=p+11+1 from rfl,<-iR,b];rfl
  obtain ⟨c,i,j⟩:=JG n (p+12) (P++[a]) (J++[tj]) g;refine ⟨c,?_,by rw [<-j];congr 1;omega⟩;rw [ly,f];simp only [];rw [b,qZ,ae rfl,show p+11+1=p+12 from rfl,i];rw [iQ,show [tj]++List.replicate (n+1) tj=List.replicate (n+1+1) tj from rfl,show p+12+11+12*n=p+11+12*(n+1) by omega]
theorem OK:smT (tf dayP (1,1,0)):=⟨by decide,by decide,by decide,by decide,by decide,by decide⟩
theorem Pe:itI tj false=0:=by
 have h:=zW (x:=tf dayP (1,1,0)) (y:=d0) false OK n8 3;have a:fH 20000000 (tf dayP (1,1,0)) false d0 3=some 0:=by kernel_rfl
 rw [a,ae (.inl rfl)] at h;exact (aZ h).symm
theorem J0:(setE 3 false false (List.replicate 256 tj)).2=0:=by
 have b:eqD d0 d0=true:=nN.2 rfl;have c:unuB 3 d0 0 d0 0 d0 false false (List.replicate 256 tj).length=false:=by unfold unuB;rw [b];rfl
 unfold setE gH;rw [ab (by omega),c,ab (by simp),ab (by omega),ab (by omega),ab (by simp),ab (by simp)];unfold vp;rw [yW λi t a=>?_];have:=List.eq_of_mem_replicate (fZ a);subst this;unfold errI;rw [show ((3:Int)==4)=false from rfl,Pe];simp
def Io:aa:=91::(rawP++yE 255)
theorem WN:ar (dQ 20000000) 20000000 ([91,50,48,48,52,45,48,54,63,45,49,49],1)=some Io:=by kernel_rfl
theorem xK:Io.length=3072:=by kernel_rfl
theorem FX:nT (Io++[93])=.inr (.inr (3,false,false,List.replicate 256 tj)):=by
 generalize a:Io++[93]=T;have e:T.drop 1=rawP++(yE 255++93::[]):=by rw [<-a];unfold Io;simp
 have c:T.head?=some 91:=by rw [<-a];rfl
 have j:T.length=3073:=by rw [<-a,aL,xK];rfl
 have g:dts (T.drop 1)=false:=by
  rw [e];cases b:dts (rawP++(yE 255++93::[]))
  ·rfl
  ·obtain ⟨r,f⟩:=sG.1 b;cases f
 obtain ⟨i,h,d⟩:=JG 255 1 (S:=T) (post:=[]) [] [] e;unfold nT;rw [ae (.inl c)];unfold DJ rZ;rw [cM,c,ae rfl];unfold wT;rw [show 0+1=1 from rfl,g];simp only [br,aA];rw [show ly T (endC 3) 256 1 [] []=_ from h];simp only [];unfold endL;have b:dts (T.drop (1+11+12*255))=false:=by rw [d];rfl
 rw [b];simp only [br,aA];rw [d,qZ,ae (by rfl)];rw [show ([]:List TI)++List.replicate (255+1) tj=List.replicate 256 tj from rfl,J0,ae rfl];simp only [];rw [ab (by omega)]
theorem JK:(Bf 3 false false (List.replicate 256 tj)).length=3329:=by kernel_rfl
theorem RL (M W:aa) (a:M.length=3072) (e:W.length=3329) (b:ar (dQ 20000000) 20000000 ([91,50,48,48,52,45,48,54,63,45,49,49],1)=some M)
  (hc:bH 20000000 (M++[93])=some (W,0,0)):dE 20000000=some true:=by
 have d:=OU;have f:w64 (w64 (len M+1)+256)=3329:=by
  have:len M=((3072:Nat):Int):=ch _ a;rw [this];rfl
 have c:len W=3329:=ch _ e;unfold dE;generalize ar (bQ 20000000) 20000000 (0,([[],[63],[126],[37]]:List (aa)))=Y at *;subst d;rw [b];clear b;simp only [obs,sm,ob];rw [cb (by rw [a];simp)];simp only [hc,ob,u3,u2,sP,ah,f,c,Pi]
theorem vC:dE 20000000=some true:=by
 refine RL Io (Bf 3 false false (List.replicate 256 tj)) xK JK WN ?_;rw [K0 (by rw [aL,xK];simp),FX];rfl
end Go.Sh
