
/- Plain proofs, kept as far as they are needed here (printed by prune.py).
   Conditions: none. -/
import Derived.Test.YtfiponokimbeeaaGreatDoorLawRzc
set_option linter.unusedVariables false
set_option linter.unusedSimpArgs false
set_option maxRecDepth 100000
namespace Go.Sh
open Go.Abs
theorem vS {S:aa} {p:Nat} (h:p<=S.length) {f:Nat×Nat×Nat} (a:dX S p=.inl f):f.2.1≠0:=uG (k:=f.1) (E:=f.2.1) (p:=f.2.2) h a
theorem Du {S:aa} {p:Nat} (h:p<=S.length) {KF:Int} {DF:TD} {lv:Int} {f:Nat×Nat} (a:toP S p KF DF lv=.inl f):f.2≠0:=by
 unfold toP at a;split at a
 ·cases a
 ·split at a
  ·cases a
  ·cases b:dX S p with
   | inl g=>rw [b] at a;cases a;exact vS h b
   | inr r=>
    rw [b] at a;simp only [] at a;split at a
    ·split at a
     ·cases a
     ·cases a;simp
    ·cases a;simp
theorem BE (l:aa) (c:UInt8) (hc:c≠0):((peek l).1==((c.toNat:Nat):Int))=decide (l.head?=some c):=by
 have:=S8 l c hc;cases l with
 | nil=>exact this
 | cons a r=>exact this
theorem FQ {S:aa} {p:Nat} (h:p<=S.length) (a:S.length<100000) (c:UInt8):aC 20000000 [c] S (p:Int)=some (decide ((S.drop p).head?=some c),S,((if (S.drop p).head?=some c then p+1 else p:Nat):Int)):=by
 rw [lq _ _ _ _ h (by omega)];simp only [tk1];by_cases hc:(S.drop p).head?=some c
 ·rw [ae hc,ae hc,am hc];rfl
 ·rw [ab hc,ab hc,aq hc]
theorem Is {S:aa} {p:Nat} (h:p<=S.length) (b:S.length<100000):aC 20000000 [46,46] S (p:Int)=some (dts (S.drop p),S,((if dts (S.drop p)=true then p+2 else p:Nat):Int)):=by
 rw [lq _ _ _ _ h (by omega)];cases a:dts (S.drop p)
 ·rw [ab (show ¬(S.drop p).take [(46:UInt8),46].length=[46,46] from λh=>by unfold dts at a;rw [show (S.drop p).take 2=[46,46] from h] at a;cases a)];rfl
 ·rw [ae (show (S.drop p).take [(46:UInt8),46].length=[46,46] from eq_of_beq a)];rfl
theorem GK {S:aa} {p:Nat} (h:p<=S.length) (c:S.length<100000):bN 20000000 [47] S (p:Int)=some (if (S.drop p).head?=some 47 then .inl (S,((p+1:Nat):Int)) else .inr ((p:Int),5,S,(p:Int))):=by
 rw [yU _ _ _ _ h (by omega) (by simp) (by simp)];simp only [tk1];by_cases hc:(S.drop p).head?=some 47
 ·rw [ae hc,ae hc];rfl
 ·rw [ab hc,ab hc];have:lcp (S.drop p) [47]=0:=by
   cases b:S.drop p with
   | nil=>rfl
   | cons a r=>
    rw [b] at hc;simp only [lcp];rw [show (a==47)=false from by rw [aL];rintro rfl;exact hc rfl];rfl
  rw [this];rfl
def Sj (S:aa):(Nat×Nat)⊕(Int×TD×Int×TD×Int×TD×Int×Nat)⊕(Int×Bool×Bool×List TI×Nat)->((Int×Int×Int×TD×Int×TD×Int×TD×Bool×Bool×Int×aa×Int)⊕(Int×TD×Int×TD×Int×TD×Nat×Nat×Bool×Bool×Int×aa×Int×List TI)⊕(Int×TD×Int×TD×Int×TD×Bool×Bool×Int×aa×Int)⊕(Int×TD×Int×TD×Int×TD×Bool×Bool×Int×aa×Int×List TI))->Prop
 | .inl f,y=>∃z,y=.inl ((f.1:Int),(f.2:Int),z)
 | .inr (.inl (K,D,KF,DF,KT,DT,L,p)),y=>y=.inr (.inr (.inl (K,D,KF,DF,KT,DT,false,false,L,S,(p:Int))))\/y=.inr (.inr (.inr (K,D,KF,DF,KT,DT,false,false,L,S,(p:Int),[])))
 | .inr (.inr (K,e,l,I,p)),y=>y=.inr (.inl (K,d0,0,d0,0,d0,I.length,I.length,e,l,2,S,(p:Int),I))
noncomputable def yv (S:aa):(Nat×Nat)⊕(Int×TD×Int×TD×Int×TD×Int×Nat)⊕(Int×Bool×Bool×List TI×Nat):=
 if S.head?=some 91\/S.head?=some 123 then (match uZ S 0 with | .inl f=>.inl (f.1,f.2.1) | .inr q=>.inr (.inr q))
 else if S.head?=some 47 then (match toP S 1 3 d0 0 with | .inl f=>.inl f | .inr (KT,DT,L,q)=>.inr (.inl (2,d0,3,d0,KT,DT,L,q)))
 else if dts S=true then (if (S.drop 2).head?=some 47 then (match toP S 3 2 d0 0 with | .inl f=>.inl f | .inr (KT,DT,L,q)=>.inr (.inl (2,d0,2,d0,KT,DT,L,q))) else .inl (2,5))
 else match dX S 0 with
  | .inl f=>.inl (f.1,f.2.1)
  | .inr r=>if (S.drop (enR r)).head?=some 47 then (if exT (tdR r)=true then (match toP S (enR r+1) 1 (tdR r) (lvR S 0 r) with | .inl f=>.inl f | .inr (KT,DT,L,q)=>.inr (.inl (2,d0,1,tdR r,KT,DT,L,q))) else .inl (plR r,11))
   else .inr (.inl (1,tdR r,0,d0,0,d0,lvR S 0 r,enR r))
theorem mx0 {a:Int} (h:0<=a):mx a 0=a:=by unfold mx;split<;>omega
theorem OS {S:aa} (i:S.length<100000):∃y,gk 20000000 [] 0 d0 0 d0 0 d0 false false 0 S 0=some y/\Sj S (yv S) y:=by
 have z0:(0:Int)=((0:Nat):Int):=rfl;have R:=nM 20000000 S 0 (je _);rw [cg,show ((0:Nat):Int)=0 from rfl] at R;have T:=PW (S:=S) (a:=0) (je _) i;rw [show ((0:Nat):Int)=0 from rfl] at T;have P:=FQ (S:=S) (p:=0) (je _) i 47;rw [cg,show ((0:Nat):Int)=0 from rfl] at P;have O:=Is (S:=S) (p:=0) (je _) i;rw [cg,show ((0:Nat):Int)=0 from rfl] at O;have N:=Ky [] 0 d0 0 d0 0 d0 false false 0 (S:=S) (p:=0) (je _) i;rw [show ((0:Nat):Int)=0 from rfl] at N;have G:((peek S).1==91)=decide (S.head?=some 91):=BE S 91 (by decide);have l:((peek S).1==123)=decide (S.head?=some 123):=BE S 123 (by decide);have set:(S.head?=some 91\/S.head?=some 123)->∃y,(obs (lL 20000000 S 0) (u4 λU Y v3 v4=>(some (.inl (U,Y,0,d0,0,d0,0,d0,false,false,0,v3,v4)))) (u13 λX V v7 v8 v9 J x v E A o m k=>(ob (eX 20000000 2 o m k X V v7 v8 v9 J x v E A 0) (u11 λH D F C w B I K M u s=>(some (.inr (.inl (H,D,F,C,w,B,I,K,M,u,s,o,m,k))))))))=some y/\Sj S (yv S) y:=by
  intro h;rw [T];unfold yv;rw [ae h];cases uZ S 0 with
  | inl f=>exact ⟨_,rfl,_,rfl⟩
  | inr q=>exact ⟨_,rfl,rfl⟩
 unfold gk;rw [R];simp only [ob,u2,G,l];by_cases g:S.head?=some 91
 ·rw [am g,aj];exact set (.inl g)
 rw [aq g,af];by_cases b:S.head?=some 123
 ·rw [am b,aj];exact set (.inr b)
 rw [aq b,af,P];clear set;unfold yv;rw [ab (show ¬(S.head?=some 91\/S.head?=some 123) from λh=>h.elim g b)];simp only [u3,u2];by_cases e:S.head?=some 47
 ·simp only [am e,ae e,aj];have t:1<=S.length:=by
   have:=me (S:=S) (p:=0) (c:=47) (by rw [cg];exact e);omega
  obtain ⟨y,n,d⟩:=Qk [] 0 nP 3 0 (S:=S) (p:=1) t i;rw [show (((0+1:Nat)):Int)=((1:Nat):Int) from rfl,n];cases j:toP S 1 3 d0 0 with
  | inl f=>
   rw [j] at d;obtain ⟨z,rfl⟩:=d;exact ⟨_,rfl,_,rfl⟩
  | inr q=>
   rw [j] at d;obtain ⟨KT,DT,L,q⟩:=q;subst d;exact ⟨_,rfl,.inl rfl⟩
 ·simp only [aq e,ab e,af];rw [show (((0:Nat)):Int)=0 from rfl,O];simp only [];cases hd:dts S
  ·rw [ab (by simp),ab (by simp),af,show (((0:Nat)):Int)=0 from rfl,N];cases W:dX S 0 with
   | inl f=>exact ⟨_,rfl,_,rfl⟩
   | inr r=>
    obtain ⟨Q,c1,l1,Z⟩:=lJ (je _) W;simp only [obs,sm,ob,u13,u12,u11,u10,u9,u8,u7,u6,u5,u4,u3,u2];rw [FQ Z i,mx0 (HE S 0 r).1];simp only [];by_cases hs:(S.drop (enR r)).head?=some 47
    ·simp only [am hs,ae hs,cN,af];rw [FM Q c1];cases hx:exT (tdR r)
     ·exact ⟨_,rfl,_,rfl⟩
     ·obtain ⟨y,n,d⟩:=Qk [] 0 Q 1 (lvR S 0 r) (S:=S) (p:=enR r+1) (me hs) i;simp only [aI];rw [n];cases j:toP S (enR r+1) 1 (tdR r) (lvR S 0 r) with
      | inl f=>
       rw [j] at d;obtain ⟨z,rfl⟩:=d;exact ⟨_,rfl,_,rfl⟩
      | inr q=>
       rw [j] at d;obtain ⟨KT,DT,L,q⟩:=q;subst d;exact ⟨_,rfl,.inl rfl⟩
    ·simp only [aq hs,ab hs];exact ⟨_,rfl,.inr rfl⟩
  ·rw [ae rfl,ae rfl,aj];have t:2<=S.length:=by
    have:=sa (S:=S) (p:=0) (by rw [cg];exact hd);omega
   rw [show (((0+2:Nat)):Int)=((2:Nat):Int) from rfl,GK t i];by_cases hs:(S.drop 2).head?=some 47
   ·simp only [ae hs];obtain ⟨y,n,d⟩:=Qk [] 0 nP 2 0 (S:=S) (p:=3) (me hs) i;rw [show (((2+1:Nat)):Int)=((3:Nat):Int) from rfl];simp only [obs,sm,ob,u2,n];cases j:toP S 3 2 d0 0 with
    | inl f=>
     rw [j] at d;obtain ⟨z,rfl⟩:=d;exact ⟨_,rfl,_,rfl⟩
    | inr q=>
     rw [j] at d;obtain ⟨KT,DT,L,q⟩:=q;subst d;exact ⟨_,rfl,.inl rfl⟩
   ·simp only [ab hs];exact ⟨_,rfl,_,rfl⟩
theorem I2 {S:aa} {f:Nat×Nat} (a:yv S=.inl f):f.2≠0:=by
 unfold yv at a;split at a
 ·cases b:uZ S 0 with
  | inl g=>rw [b] at a;cases a;exact JR (je _) b
  | inr q=>rw [b] at a;cases a
 ·split at a
  ·rename_i h;cases b:toP S 1 3 d0 0 with
   | inl g=>
    rw [b] at a;cases a;exact Du (me (S:=S) (p:=0) (by rw [cg];exact h)) b
   | inr q=>rw [b] at a;cases a
  ·split at a
   ·split at a
    ·rename_i h;cases b:toP S 3 2 d0 0 with
     | inl g=>rw [b] at a;cases a;exact Du (me h) b
     | inr q=>rw [b] at a;cases a
    ·cases a;simp
   ·cases b:dX S 0 with
    | inl g=>rw [b] at a;cases a;exact vS (je _) b
    | inr r=>
     rw [b] at a;simp only [] at a;split at a
     ·rename_i h;split at a
      ·cases c:toP S (enR r+1) 1 (tdR r) (lvR S 0 r) with
       | inl g=>rw [c] at a;cases a;exact Du (me h) c
       | inr q=>rw [c] at a;cases a
      ·cases a;simp
     ·cases a
theorem Dz (S:aa):jN S=match yv S with
  | .inl f=>.inl f
  | .inr (.inl (K,D,KF,DF,KT,DT,L,q))=>if q<S.length then .inl (q,5) else .inr (.inl (K,D,KF,DF,KT,DT,L))
  | .inr (.inr (K,e,l,I,q))=>if q<S.length then .inl (q,5) else .inr (.inr (K,e,l,I)):=by
 unfold jN yv Ej toX;split
 ·cases uZ S 0 with
  | inl f=>rfl
  | inr q=>
   obtain ⟨_,_,_,_,p⟩:=q;by_cases hp:p<S.length<;>simp [hp]
 ·split
  ·cases toP S 1 3 d0 0 with
   | inl f=>rfl
   | inr q=>
    obtain ⟨_,_,_,p⟩:=q;by_cases hp:p<S.length<;>simp [hp]
  ·split
   ·split
    ·cases toP S 3 2 d0 0 with
     | inl f=>rfl
     | inr q=>
      obtain ⟨_,_,_,p⟩:=q;by_cases hp:p<S.length<;>simp [hp]
    ·rfl
   ·cases dX S 0 with
    | inl f=>rfl
    | inr r=>
     simp only [];split
     ·split
      ·cases toP S (enR r+1) 1 (tdR r) (lvR S 0 r) with
       | inl f=>rfl
       | inr q=>
        obtain ⟨_,_,_,p⟩:=q;by_cases hp:p<S.length<;>simp [hp]
      ·rfl
     ·rfl
theorem FX {S:aa} (d:S.length<=16384):fw 20000000 S=some (O4 (jN S)):=by
 obtain ⟨y,c,a⟩:=OS (S:=S) (by omega);unfold fw dA;rw [show decide (len S>16384)=false from aq (by show ¬(16384:Int)<((S.length:Nat):Int);omega),af,c,Dz];cases b:yv S with
 | inl f=>
  have g:=I2 b;rw [b] at a;obtain ⟨z,rfl⟩:=a;simp only [obs,sm,ob,u13,u12,u11,u10,u9,u8,u7,u6,u5,u4,u3,u2];rw [show (((f.2:Nat):Int) != 0)=true from by simp;omega];rfl
 | inr q=>
  rw [b] at a;cases q with
  | inl q=>
   obtain ⟨K,D,KF,DF,KT,DT,L,p⟩:=q;simp only [];rcases a with rfl | rfl
   ·simp only [obs,sm,ob,u13,u12,u11,u10,u9,u8,u7,u6,u5,u4,u3,u2];by_cases hp:p<S.length
    ·rw [ae hp,am (show (p:Int)<((S.length:Nat):Int) by omega)];rfl
    ·rw [ab hp,aq (show ¬(p:Int)<((S.length:Nat):Int) by omega)];rfl
   ·simp only [obs,sm,ob,u14,u13,u12,u11,u10,u9,u8,u7,u6,u5,u4,u3,u2];by_cases hp:p<S.length
    ·rw [ae hp,am (show (p:Int)<((S.length:Nat):Int) by omega)];rfl
    ·rw [ab hp,aq (show ¬(p:Int)<((S.length:Nat):Int) by omega)];rfl
  | inr q=>
   obtain ⟨K,e,l,I,p⟩:=q;subst a;simp only [obs,sm,ob,u16,u15,u14,u13,u12,u11,u10,u9,u8,u7,u6,u5,u4,u3,u2];by_cases hp:p<S.length
   ·rw [ae hp,am (show (p:Int)<((S.length:Nat):Int) by omega)];rfl
   ·rw [ab hp,aq (show ¬(p:Int)<((S.length:Nat):Int) by omega)];rfl
def lvX (x:TD):Int:=lvT (bU x) x
theorem Hk {x:TD} (hs:smT x) (hc:cF x=0):∃r,dX (bU x) 0=.inr r/\tdR r=x/\enR r=(bU x).length/\lvR (bU x) 0 r=lvX x:=by
 obtain ⟨r,d,c,b⟩:=tt hs hc (S:=bU x) (a:=0) (post:=[]) (by simp) zE;rw [cj] at b;refine ⟨r,d,c,b,?_⟩;unfold lvR lvX;rw [c,b,qF,cg,mf]
def iE (K:Int) (x:TD):aa:=if K=2 then [46,46] else if K=3 then [] else bU x
def okB (K:Int) (x:TD):Prop:=(K=1/\cF x=0/\exT x=true)\/((K=2\/K=3)/\x=d0)
theorem OF {K:Int} {x:TD} (h:sc K x=0):okB K x:=by
 by_cases c:K=1
 ·subst c;obtain ⟨a,b⟩:=CX h;exact .inl ⟨rfl,a,b⟩
 ·unfold sc chkB at h;rw [ab c] at h;split at h
  ·rename_i d;split at h
   ·rename_i e;exact .inr ⟨d,kZ.1 e⟩
   ·cases h
  ·cases h
theorem qe {KF KT:Int} {x y:TD} (h:nS KF x KT y=0):okB KF x/\okB KT y/\(KF=1\/KT=1):=by
 unfold nS H7 at h;by_cases b:sc KF x=0
 ·rw [ab (λz=>z b)] at h;by_cases a:sc KT y=0
  ·rw [ab (λz=>z a)] at h;split at h
   ·cases h
   ·rename_i c;exact ⟨OF b,OF a,by omega⟩
  ·rw [ae a] at h;exact absurd h a
 ·rw [ae b] at h;exact absurd h b
inductive RightP:Int->TD->Int->TD->Int->TD->Bool->Bool->List TI->Prop where
 | single {x:TD} (hs:smT x) (hc:cF x=0):RightP 1 x 0 d0 0 d0 false false []
 | interval {KF:Int} {x:TD} {KT:Int} {y:TD} (hx:smT x) (hy:smT y) (hp:nS KF x KT y=0):RightP 2 d0 KF x KT y false false []
 | set {K:Int} {e l:Bool} {I:List TI} (P:SetP K d0 0 d0 0 d0 e l I) (hs:∀t∈I,smI t):RightP K d0 0 d0 0 d0 e l I
theorem BQ {k:Int} {D:TD} {KF:Int} {DF:TD} {KT:Int} {DT:TD} {e l:Bool} {I:List TI} (hs:smE D DF DT I) (h:(fa k D KF DF KT DT e l I).2=0):RightP k D KF DF KT DT e l I:=by
 by_cases j:k=3\/k=4
 ·have P:=Az j h;obtain ⟨rfl,rfl,rfl,rfl,rfl⟩:D=d0/\KF=0/\DF=d0/\KT=0/\DT=d0:=⟨P.d,P.kf,P.df,P.kt,P.dt⟩;exact .set P hs.2.2.2
 ·unfold fa at h;split at h
  ·simp at h
  ·split at h
   ·simp at h
   ·rename_i q a;unfold unuB at a;generalize z1:eqD D d0=o at a;generalize z2:eqD DF d0=n at a;generalize i:eqD DT d0=p at a;by_cases k1:k=1
    ·subst k1;rw [ae rfl] at h;simp at a;obtain ⟨⟨⟨a1,a2⟩,c,b⟩,g,m,f⟩:=a;subst a1 c g m f;rw [kZ.1 (z2.trans a2),kZ.1 (i.trans b)];exact .single hs.1 h
    ·have k2:k=2:=by omega
     subst k2;rw [ab (by omega),ae rfl] at h;simp at a;obtain ⟨a1,a2,c,b⟩:=a;subst a2 c b;rw [kZ.1 (z1.trans a1)];exact .interval hs.2.1 hs.2.2.1 h
def oI (k:Int) (D:TD) (KF:Int) (DF:TD) (KT:Int) (DT:TD) (e l:Bool) (I:List TI):aa:=
 if k=1 then bU D else if k=2 then iE KF DF++47::iE KT DT else qZ k e l I
def lvE (k:Int) (D:TD) (KF:Int) (DF:TD) (KT:Int) (DT:TD):Int:=
 if k=1 then lvX D else if k=2 then mx (if KT=1 then lvX DT else 1) (if KF=1 then lvX DF else 1) else 2
def exOf (k:Int) (D:TD) (KF:Int) (DF:TD) (KT:Int) (DT:TD) (e l:Bool) (I:List TI) (L:Int):(Nat×Nat)⊕(Int×TD×Int×TD×Int×TD×Int)⊕(Int×Bool×Bool×List TI):=
 if k=1\/k=2 then .inr (.inl (k,D,KF,DF,KT,DT,L)) else .inr (.inr (k,e,l,I))
theorem su {x:TD} (hs:smT x) (hc:cF x=0) (r:aa) (c:UInt8) (a:brk c=true):(bU x++r).head?≠some c:=λh=>by
 have:=jG hs hc r c h;rw [a] at this;cases this
theorem zW {x:TD} (hs:smT x) (hc:cF x=0):bU x≠[]:=by
 obtain ⟨g,l,dg,e,q,m,d,a,b,c,rfl,ok⟩:=ny hs hc;obtain ⟨f,_,_⟩:=qP ok.yr;intro h;have h:qM g l dg (e:Int) (q:Int) m d a b c=[]:=h;unfold qM cc at h;have:=bO List.length h;simp only [bE,dm] at this;exact f (pq (by omega))
theorem yA {KF:Int} {DF:TD} {KT:Int} {DT:TD} (hx:smT DF) (hy:smT DT) (hp:nS KF DF KT DT=0) {S:aa} {p:Nat} (i:p<=S.length) (h:S.drop p=iE KT DT) (lv:Int):
  toX S p KF DF lv=.inr (KT,DT,mx (if KT=1 then lvX DT else 1) (if KF=1 then lv else mx 1 lv)):=by
 obtain ⟨t,o,b1⟩:=qe hp;have b:=bO List.length h;rw [cu] at b;unfold toX toP;rcases o with ⟨rfl,hc,q⟩ | ⟨l,rfl⟩
 ·have f:iE 1 DT=bU DT:=by unfold iE;rw [ab (by omega),ab (by omega)]
  rw [f] at h b;have k:¬(KF=1/\p=S.length):=by
   rintro ⟨_,e⟩;exact zW hy hc (pq (by omega))
  have d:¬(KF=1/\dts (S.drop p)=true):=by
   rintro ⟨_,e⟩;rw [h] at e;have:=jG hy hc [];rw [jP] at this;rw [lP this] at e;cases e
  obtain ⟨r,j,g,n⟩:=tt hy hc (S:=S) (a:=p) (post:=[]) (by rw [h,jP]) zE;rw [ab k,ab d,j];simp only [];rw [g,ae q,ae (.inr hp)];simp only [aI];rw [ab (by omega)];have:lvR S p r=lvX DT:=by
   unfold lvR lvX;rw [g,n,h];rw [show p+(bU DT).length - p=(bU DT).length by omega,mf]
  rw [this]
 ·have m:KF=1:=by omega
  subst m;rcases l with rfl | rfl
  ·have f:S.drop p=[46,46]:=h;have d:dts (S.drop p)=true:=by rw [f];rfl
   have s:=sa d;have c:(iE 2 d0).length=2:=rfl;rw [ab (by omega),ae ⟨rfl,d⟩];simp only [];rw [ab (by omega)];rfl
  ·have c:(iE 3 d0).length=0:=rfl;rw [ae ⟨rfl,by omega⟩];simp only [];rw [ab (by omega)];rfl
theorem Aa {x:TD} (hs:smT x) (hc:cF x=0):jN (bU x)=.inr (.inl (1,x,0,d0,0,d0,lvX x)):=by
 obtain ⟨r,e,d,f,r4⟩:=Hk hs hc;have a:=jG hs hc [];rw [jP] at a;have b:=λc a=>su hs hc [] c a;rw [jP] at b;generalize bU x=T at *;unfold jN;rw [ab (by rintro (h | h);exact b 91 (by decide) h;exact b 123 (by decide) h),ab (b 47 (by decide)),lP a,ab (by simp),e];simp only [];rw [f,wI,ab (by simp),ab (by omega),d,r4]
theorem xy {DF:TD} (hx:smT DF) (hc:cF DF=0) (o:exT DF=true) {KT:Int} {DT:TD} (hy:smT DT) (hp:nS 1 DF KT DT=0):jN (bU DF++47::iE KT DT)=.inr (.inl (2,d0,1,DF,KT,DT,mx (if KT=1 then lvX DT else 1) (lvX DF))):=by
 have d:=jG hx hc (47::iE KT DT);have g:=λc d=>su hx hc (47::iE KT DT) c d;generalize e:bU DF++47::iE KT DT=S at *;obtain ⟨r,n,j,b⟩:=tt hx hc (S:=S) (a:=0) (post:=47::iE KT DT) (by rw [cg,e]) (nr (by decide));rw [cj] at b;have f:S.drop (enR r)=47::iE KT DT:=by rw [b,<-e,List.drop_left]
 have l:S.drop (enR r+1)=iE KT DT:=by rw [<-gV,f];rfl
 have m:lvR S 0 r=lvX DF:=by
  unfold lvR lvX;rw [j,b,qF,cg,<-e,yj]
 have i:enR r+1<=S.length:=by
  have:=bO List.length f;rw [cu,aJ] at this;omega
 have k:=yA hx hy hp i l (lvX DF);rw [ae rfl] at k;unfold jN;rw [ab (by rintro (h | h);exact g 91 (by decide) h;exact g 123 (by decide) h),ab (g 47 (by decide)),lP d,ab (by simp),n];simp only [];rw [f,oK,ae rfl,j,ae o,m,k]
theorem GN {DT:TD} (hy:smT DT) (hp:nS 2 d0 1 DT=0):jN (46::46::47::bU DT)=.inr (.inl (2,d0,2,d0,1,DT,mx (lvX DT) 1)):=by
 have a:=yA nP hy hp (S:=46::46::47::bU DT) (p:=3) (by simp only [aJ];omega) (by simp only [mq,cg];unfold iE;rw [ab (by omega),ab (by omega)]) 0;rw [ae rfl,ab (by omega)] at a;generalize bU DT=T at *;unfold jN;rw [ab (by simp),ab (by simp)];have b:dts (46::46::47::T)=true:=rfl;rw [ae b,ae (by rfl),a];rfl
theorem Hi {DT:TD} (hy:smT DT) (hp:nS 3 d0 1 DT=0):jN (47::bU DT)=.inr (.inl (2,d0,3,d0,1,DT,mx (lvX DT) 1)):=by
 have a:=yA nP hy hp (S:=47::bU DT) (p:=1) (by simp only [aJ];omega) (by simp only [mq,cg];unfold iE;rw [ab (by omega),ab (by omega)]) 0;rw [ae rfl,ab (by omega)] at a;generalize bU DT=T at *;unfold jN;rw [ab (by simp),ae (by rfl),a];rfl
theorem CZ {k:Int} {D:TD} {KF:Int} {DF:TD} {KT:Int} {DT:TD} {e l:Bool} {I:List TI} (h:RightP k D KF DF KT DT e l I):jN (oI k D KF DF KT DT e l I)=exOf k D KF DF KT DT e l I (lvE k D KF DF KT DT):=by
 cases h with
 | single hs hc=>
  unfold oI exOf lvE;rw [ae (by omega),ae (by omega),ae (by omega),Aa hs hc]
 | interval hx hy hp=>
  obtain ⟨j,p,b1⟩:=qe hp;unfold oI exOf lvE;rw [ab (by omega),ae (by omega),ae (by omega),ab (by omega),ae (by omega)];rcases j with ⟨rfl,hc,i⟩ | ⟨c,rfl⟩
  ·have a:iE 1 DF=bU DF:=by unfold iE;rw [ab (by omega),ab (by omega)]
   rw [a,xy hx hc i hy hp,ae (show (1:Int)=1 from rfl)]
  ·have o:KT=1:=by omega
   subst o;have a:iE 1 DT=bU DT:=by unfold iE;rw [ab (by omega),ab (by omega)]
   rw [a,ae (show (1:Int)=1 from rfl),ab (by omega)];rcases c with rfl | rfl
   ·have g:iE 2 d0=[46,46]:=by unfold iE;rw [ae rfl]
    rw [g];exact GN hy hp
   ·have n:iE 3 d0=[]:=by unfold iE;rw [ab (by omega),ae rfl]
    rw [n];exact Hi hy hp
 | set P hs=>
  have ok:=λt a=>(HI P hs t a).1;have c:=P.kind;have d:¬(k=1\/k=2):=by omega
  have f:oI k d0 0 d0 0 d0 e l I=qZ k e l I:=by
   unfold oI;rw [ab (by omega),ab (by omega)]
  have b:∀L,exOf k d0 0 d0 0 d0 e l I L=.inr (.inr (k,e,l,I)):=λL=>by
   unfold exOf;rw [ab d]
  rw [f,b];have m:(qZ k e l I).head?=some 91\/(qZ k e l I).head?=some 123:=by
   unfold qZ;rw [oK];split
   ·exact .inr rfl
   ·exact .inl rfl
  have hp:=Gk c P.one P.most ok P.set;generalize qZ k e l I=T at *;unfold jN;rw [ae m,hp]
theorem rR {K:Int} {x:TD} (hs:smT x) (h:okB K x):(iE K x).length<=37:=by
 rcases h with ⟨rfl,hc,c⟩ | ⟨a,rfl⟩
 ·have b:iE 1 x=bU x:=by unfold iE;rw [ab (by omega),ab (by omega)]
  rw [b];exact kL hs hc
 ·rcases a with rfl | rfl<;>decide
theorem xw {k:Int} {D:TD} {KF:Int} {DF:TD} {KT:Int} {DT:TD} {e l:Bool} {I:List TI} (h:RightP k D KF DF KT DT e l I) (d:I.length<=5):(oI k D KF DF KT DT e l I).length<=16384:=by
 cases h with
 | single hs hc=>
  have:=kL hs hc;unfold oI;rw [ae rfl];omega
 | interval hx hy hp=>
  obtain ⟨c,b,_⟩:=qe hp;have g:=rR hx c;have i:=rR hy b;unfold oI;rw [ab (by omega),ae rfl,bE,aJ];omega
 | set P hs=>
  have f:=P.kind;unfold oI;rw [ab (by omega),ab (by omega)];have:=BF (I:=I) λt a=>(HI P hs t a).1;unfold qZ;cases e<;>cases l<;>simp<;>omega
theorem QG {K:Int} {x:TD} (h:okB K x):sc K x=0:=by
 rcases h with ⟨rfl,hc,a⟩ | ⟨b,rfl⟩
 ·exact zR hc a
 ·rcases b with rfl | rfl<;>kernel_rfl
theorem E3 {K:Int} {x:TD} (hs:smT x) (h:okB K x):ap10 (ic 20000000 K) x=some (iE K x,0):=by
 have b:chkB K x.1 x.2.1 x.2.2.1 x.2.2.2.1 x.2.2.2.2.1 x.2.2.2.2.2.1 x.2.2.2.2.2.2.1 x.2.2.2.2.2.2.2.1 x.2.2.2.2.2.2.2.2.1 x.2.2.2.2.2.2.2.2.2=0:=QG h;have:=QJ (K:=K) (g:=x.1) (l:=x.2.1) (x:=x.2.2.2.1) (q:=x.2.2.2.2.1) hs.1 hs.2.1 hs.2.2.1 hs.2.2.2.1 hs.2.2.2.2.1 hs.2.2.2.2.2;rw [ae b] at this;refine this.trans ?_;unfold iE bU;by_cases a:K=2
 ·simp only [a,aI]
 ·simp only [a,aE]
theorem C2 {KF:Int} {x:TD} {KT:Int} {y:TD} (hx:smT x) (hy:smT y) (hp:nS KF x KT y=0) (K:Int) (D:TD) (e l:Bool) (I:List TI):
  ij 20000000 K D KF x KT y e l I=some (iE KF x++47::iE KT y,0):=by
 obtain ⟨a,b,_⟩:=qe hp;have d:=rR hx a;have c:=rR hy b;unfold ij;rw [E3 hx a,E3 hy b];simp only [ob,u2];rw [dR (by simp only [aJ,dm];omega)];simp only [];rw [dR (by simp only [bE,aJ,dm];omega)];simp only [fN,dQ,dn]
theorem Nz {k:Int} {D:TD} {KF:Int} {DF:TD} {KT:Int} {DT:TD} {e l:Bool} {I:List TI} (h:RightP k D KF DF KT DT e l I):(fa k D KF DF KT DT e l I).2=0:=by
 cases h with
 | single hs hc=>rw [(BA hs hc).first]
 | interval hx hy hp=>rw [(wS hx hy hp).first]
 | set P hs=>exact P.set
theorem UN {k:Int} {D:TD} {KF:Int} {DF:TD} {KT:Int} {DT:TD} {e l:Bool} {I:List TI} (h:RightP k D KF DF KT DT e l I):smE D DF DT I:=by
 cases h with
 | single hs hc=>exact ⟨hs,nP,nP,λt a=>by cases a⟩
 | interval hx hy hp=>exact ⟨nP,hx,hy,λt a=>by cases a⟩
 | set P hs=>exact ⟨nP,nP,nP,hs⟩
theorem IY {k:Int} {D:TD} {KF:Int} {DF:TD} {KT:Int} {DT:TD} {e l:Bool} {I:List TI} (hs:smE D DF DT I):
  dL 20000000 k D KF DF KT DT e l I=some (if (fa k D KF DF KT DT e l I).2=0 then (oI k D KF DF KT DT e l I,0) else ([],(fa k D KF DF KT DT e l I).2)):=by
 unfold dL;rw [yR hs];by_cases a:(fa k D KF DF KT DT e l I).2=0
 ·rw [ae a,a];have P:=BQ hs a;simp only [ob,fD,af,iY];cases P with
  | single hx hc=>
   rw [show ((1:Int)==1)=true from rfl,aj];unfold jy oI;rw [ae rfl,dfT hx hc];simp only [ob,u2]
  | interval hx hy hp=>
   rw [show ((2:Int)==1)=false from rfl,af,show ((2:Int)==2)=true from rfl,aj,C2 hx hy hp];unfold oI;rw [ab (by omega),ae rfl]
  | set P hi=>
   have b:=P.kind;have c:=PI (K:=k) (KF:=0) (KT:=0) (e:=e) (l:=l) hs;rw [ae (show AH k from b),ae a] at c;rw [c];unfold oI;rw [ab (by rcases b with rfl | rfl<;>omega),ab (by rcases b with rfl | rfl<;>omega)];generalize qZ k e l I=w;rcases b with rfl | rfl<;>rfl
 ·rw [ab a];simp only [ob];rw [show ((fa k D KF DF KT DT e l I).2 != 0)=true from bne_iff_ne.2 a,aj]
theorem vp {k:Int} {D:TD} {KF:Int} {DF:TD} {KT:Int} {DT:TD} {e l:Bool} {I:List TI} (h:RightP k D KF DF KT DT e l I):
  dL 20000000 k D KF DF KT DT e l I=some (oI k D KF DF KT DT e l I,0):=by
 rw [IY (UN h),ae (Nz h)]
theorem US (D:TD) (KF:Int) (DF:TD) (KT:Int) (DT:TD):lvE 1 D KF DF KT DT=lvX D:=by unfold lvE;rw [ae rfl]
def ofX:(Nat×Nat)⊕(Int×TD×Int×TD×Int×TD×Int)⊕(Int×Bool×Bool×List TI)->Int×Int×Int
 | .inl f=>(0,(f.1:Int),(f.2:Int))
 | .inr (.inl (K,D,KF,DF,KT,DT,L))=>(L,0,0)
 | .inr (.inr (K,e,l,I))=>(2,0,0)
theorem J6 {S:aa} (a:S.length<=16384):lF 20000000 S=some (ofX (jN S)):=by
 unfold lF;rw [FX a];generalize jN S=y;rcases y with f | ⟨K,D,KF,DF,KT,DT,L⟩ | ⟨K,e,l,I⟩<;>rfl
theorem L0 {k:Int} {D:TD} {KF:Int} {DF:TD} {KT:Int} {DT:TD} {e l:Bool} {I:List TI} (h:RightP k D KF DF KT DT e l I):ofX (jN (oI k D KF DF KT DT e l I))=(lvE k D KF DF KT DT,0,0):=by
 rw [CZ h];unfold exOf;by_cases a:k=1\/k=2
 ·rw [ae a];rfl
 ·rw [ab a];show ((2:Int),(0:Int),(0:Int))=_;unfold lvE;rw [ab (by omega),ab (by omega)]
theorem OR {k:Int} (a:AH k) (D:TD) (KF:Int) (DF:TD) (KT:Int) (DT:TD):lvE k D KF DF KT DT=2:=by
 have a:k=3\/k=4:=a;unfold lvE;rw [ab (by omega),ab (by omega)]
theorem DV {k:Int} {D:TD} {KF:Int} {DF:TD} {KT:Int} {DT:TD} {e l:Bool} {I:List TI} (h:RightP k D KF DF KT DT e l I) (a:¬AH k):(oI k D KF DF KT DT e l I).length<=16384:=by
 cases h with
 | single hs hc=>exact xw (.single hs hc) (by simp)
 | interval hx hy hp=>exact xw (.interval hx hy hp) (by simp)
 | set P hs=>exact absurd P.kind a
theorem Le {k:Int} {D:TD} {KF:Int} {DF:TD} {KT:Int} {DT:TD} {e l:Bool} {I:List TI} (hs:smE D DF DT I):
  mw 20000000 k D KF DF KT DT e l I=some (if (fa k D KF DF KT DT e l I).2=0 then (lvE k D KF DF KT DT,0) else (0,(fa k D KF DF KT DT e l I).2)):=by
 unfold mw;rw [yR hs];by_cases a:(fa k D KF DF KT DT e l I).2=0
 ·rw [ae a,a];have P:=BQ hs a;simp only [ob,fD,af];by_cases b:AH k
  ·rw [OR b];rcases b with rfl | rfl<;>rfl
  ·have f:(k==3)=false:=aL.2 λh=>b (.inl h);have c:(k==4)=false:=aL.2 λh=>b (.inr h);have d:=DV P b;rw [f,c,af,af,vp P];simp only [u2];rw [J6 d,L0 P]
 ·rw [ab a];simp only [ob];rw [show ((fa k D KF DF KT DT e l I).2 != 0)=true from bne_iff_ne.2 a,aj]
theorem Ar (x:TD):(fa 1 x 0 d0 0 d0 false false []).2=cF x:=by
 unfold fa unuB;rw [ab (by omega)];have h:eqD d0 d0=true:=kZ.2 rfl;simp [h]
theorem AI {x:TD} (hs:smT x):gC 20000000 x=some (if cF x=0 then (lvX x,0) else (0,cF x)):=by
 unfold gC;rw [Le (D:=x) (DF:=d0) (DT:=d0) (I:=[]) ⟨hs,nP,nP,λt a=>by cases a⟩,Ar,US];split<;>rfl
theorem MS:dM 20000000=some true:=by kernel_rfl
theorem K3 {S:aa} {p:Nat} (hp:p<=S.length) {r:DR} (v:dX S p=.inr r):∃c,(S.drop p).head?=some c/\plR r=p+(if isMk c then 1 else 0):=by
 obtain ⟨J,G,K,L⟩:=lJ hp v;obtain ⟨A,B,u,k,mk,I,s,O,M,_,_⟩:=K7 hp v;obtain ⟨g,l,dg,e,q,m,d,a,b,c,hx,ok⟩:=ny J G;have yr:fj r.1 r.2.1 r.2.2.1 (r.2.2.2.1:Int) (r.2.2.2.2.1:Int)=fj g l dg (e:Int) (q:Int):=by
  unfold tdR at hx;simp only [bz] at hx;obtain ⟨i,j,F,D,E,_⟩:=hx;rw [i,j,F,D,E]
 obtain ⟨o,x,_⟩:=qP ok.yr;rw [I];have f:∃c w,rawD A B r.1 r.2.1 r.2.2.1 (r.2.2.2.1:Int) (r.2.2.2.2.1:Int) r.2.2.2.2.2.1 r.2.2.2.2.2.2.1=c::w/\(mt A.1).length=if isMk c then 1 else 0:=by
  unfold rawD cc;rw [yr];have N:=mk.a0;generalize fj g l dg (e:Int) (q:Int)=Y at o x;rcases (by omega:A.1=0\/A.1=1\/A.1=2\/A.1=3) with h | h | h | h<;>rw [h]
  ·cases Y with
   | nil=>exact absurd rfl o
   | cons c w=>
    refine ⟨c,_,rfl,?_⟩;rw [(x c ks).2];rfl
  ·exact ⟨63,_,rfl,rfl⟩
  ·exact ⟨126,_,rfl,rfl⟩
  ·exact ⟨37,_,rfl,rfl⟩
 obtain ⟨c,w,i,j⟩:=f;rw [i] at s;refine ⟨c,?_,by rw [j]⟩;have:=bO List.head? s;cases C:S.drop p with
 | nil=>rw [C,List.take_nil] at this;cases this
 | cons z t=>
  rw [C] at this;have y:enR r - p≠0:=λh=>by rw [h,jU] at this;cases this
  obtain ⟨n,H⟩:∃n,enR r - p=n+1:=⟨enR r - p - 1,by omega⟩;rw [H,kn] at this;exact this
theorem Kp (x:TD):iE 1 x=bU x:=by unfold iE;rw [ab (by omega),ab (by omega)]
theorem PS {x y:TD} (hy:smT y) (hc:cF y=0) (l:exT y=true) (hp:nS 1 x 1 y≠0) {S:aa} {p:Nat} (d:p<=S.length) (h:S.drop p=bU y) (lv:Int):
  ∃c,(bU y).head?=some c/\toX S p 1 x lv=.inl (p+(if isMk c then 1 else 0),11):=by
 have b:=bO List.length h;rw [cu] at b;have k:¬((1:Int)=1/\p=S.length):=by
  rintro ⟨_,e⟩;exact zW hy hc (pq (by omega))
 have m:¬((1:Int)=1/\dts (S.drop p)=true):=by
  rintro ⟨_,e⟩;rw [h] at e;have:=jG hy hc [];rw [jP] at this;rw [lP this] at e;cases e
 obtain ⟨r,f,i,n⟩:=tt hy hc (S:=S) (a:=p) (post:=[]) (by rw [h,jP]) zE;obtain ⟨c,g,j⟩:=K3 d f;rw [h] at g;refine ⟨c,g,?_⟩;unfold toX toP;rw [ab k,ab m,f];simp only [];rw [i,ae l,ab (by rintro (h | h);omega;exact hp h),j]
theorem JK {x y:TD} (hx:smT x) (f:cF x=0) (ex:exT x=true) (hy:smT y) (hc:cF y=0) (p:exT y=true) (hp:nS 1 x 1 y≠0):
  ∃c,(bU y).head?=some c/\jN (bU x++47::bU y)=.inl ((bU x).length+1+(if isMk c then 1 else 0),11):=by
 have d:=jG hx f (47::bU y);have g:=λc d=>su hx f (47::bU y) c d;generalize j:bU x++47::bU y=S at *;obtain ⟨r,n,l,b⟩:=tt hx f (S:=S) (a:=0) (post:=47::bU y) (by rw [cg,j]) (nr (by decide));rw [cj] at b;have e:S.drop (enR r)=47::bU y:=by rw [b,<-j,List.drop_left]
 have k:S.drop (enR r+1)=bU y:=by rw [<-gV,e];rfl
 have i:enR r+1<=S.length:=by
  have:=bO List.length e;rw [cu,aJ] at this;omega
 obtain ⟨c,o,m⟩:=PS hy hc p hp i k (lvR S 0 r);refine ⟨c,o,?_⟩;unfold jN;rw [ab (by rintro (h | h);exact g 91 (by decide) h;exact g 123 (by decide) h),ab (g 47 (by decide)),lP d,ab (by simp),n];simp only [];rw [e,oK,ae rfl,l,ae ex,m,b]
theorem Ly (c:UInt8):kG 20000000 ((c.toNat:Nat):Int)=some (((mkOf c:Nat):Int),isMk c):=(zh 19999700 c).1
theorem wN {a0 a2 J L M K m O D b0 b2 v o n E s p A:Int} (g q:Bool) (h:wfD a0 a2 J L M K m O D) (Q:wfD b0 b2 v o n E s p A):
  fQ 20000000 a0 g a2 J L M K m O D b0 q b2 v o n E s p A=some true:=by
 obtain ⟨x,hx,d,e,ex,_⟩:=ExI g h;obtain ⟨y,hy,b,f,k,_⟩:=ExI q Q;have u:=fdT d;rw [ae e,ae ex] at u;have d2:=fdT b;rw [ae f,ae k] at d2;have U:=dfT d e;have W:=dfT b f;have Z:=kL d e;have l2:=kL b f;have o1:=AI d;rw [ae e] at o1;have t:=AI b;rw [ae f] at t;have R:(bU x++47::bU y).length<=16384:=by simp only [bE,aJ];omega
 have hp:=FX R;have j:=Qc (zR e ex) (zR f k);rw [ab (by omega),ab (by omega)] at j;obtain ⟨r,B,i⟩:=yq (dyT x).1 (dyT y).2;have I:cat (bU x) ([47]:aa)=some (bU x++[47]):=dR (by simp only [aJ,dm];omega);have N:cat (bU x++[47]) (bU y)=some (bU x++47::bU y):=by
  rw [dR (by simp only [bE,aJ,dm];omega)];simp
 have S:(len (bU y)==0)=false:=by
  rw [aL];intro h;have h:(((bU y).length:Nat):Int)=0:=h;exact zW b f (pq (by omega))
 unfold fQ;rw [hx,hy];simp only [ob,U,W,u,d2,u5,u4,u3,u2,S,I,N,hp,MS];rw [show (w64 (w64 (w64 ((0:Int)+0)+0)+0) != 0)=false from rfl,af,af];by_cases hc:(dyT x).1>(dyT y).2
 ·rw [ae hc] at j;obtain ⟨c,a,l⟩:=JK d e ex b f k (by omega);have hs:sx (bU y) 0=some c:=by
   cases F:bU y with
   | nil=>rw [F] at a;cases a
   | cons z w=>rw [F] at a;cases a;rfl
  rw [l];simp only [O4,obs,sm,ob,u12,u11,u10,u9,u8,u7,u6,u5,u4,u3,u2,B,i,am hc,aj,hs,Ly];have H:w64 (len (bU x)+1)=(((bU x).length+1:Nat):Int):=qK (by omega);have Y:w64 (w64 (len (bU x)+1)+1)=(((bU x).length+1+1:Nat):Int):=by rw [H];exact qK (by omega)
  cases isMk c
  ·simp only [af,H,bj,aE,bZ,om,aj];rfl
  ·simp only [aj,Y,aI,om];rfl
 ·rw [ab hc] at j;have C:=xy d e ex b j;rw [Kp,ae rfl] at C;have P:=RightP.interval d b j;have G:=vp P;have V:oI 2 d0 1 x 1 y false false []=bU x++47::bU y:=by
   unfold oI;rw [ab (by omega),ae rfl,Kp,Kp]
  rw [V] at G;rw [C];have X:∀z:TD,eqD z z=true:=λz=>kZ.2 rfl;have T:(mx (lvX y) (lvX x)==(bif decide (lvX y>lvX x) then lvX y else lvX x))=true:=by
   unfold mx;rw [bC];exact om _
  simp only [O4,obs,sm,ob,u12,u11,u10,u9,u8,u7,u6,u5,u4,u3,u2,B,i,aq hc,af,G,o1,t,X,I,N,om,aj,T];rfl
theorem qg {n:Int} (h:(Lit.int .u8 n).wf=true):natI n 256:=⟨(Go.bounds_u8 h).1,by have:=(Go.bounds_u8 h).2;omega⟩
theorem Ov {n:Int} (h:(Lit.int .u16 n).wf=true):natI n 65536:=⟨(Go.bounds_u16 h).1,by have:=(Go.bounds_u16 h).2;omega⟩
end Go.Sh
