
/- Plain proofs, kept as far as they are needed here (printed by prune.py).
   Conditions: none. -/
import Derived.Test.YtfiponokimbeeaaGreatDoorLawRzc
set_option linter.unusedVariables false
set_option linter.unusedSimpArgs false
set_option maxRecDepth 100000
namespace Go.Sh
open Go.Abs
theorem wz {S:aa} {p:Nat} (h:p<=S.length) {f:Nat×Nat×Nat} (a:eT S p=.inl f):f.2.1≠0:=wu (k:=f.1) (E:=f.2.1) (p:=f.2.2) h a
theorem DL {S:aa} {p:Nat} (h:p<=S.length) {KF:Int} {DF:TD} {lv:Int} {f:Nat×Nat} (a:toP S p KF DF lv=.inl f):f.2≠0:=by
 unfold toP at a;split at a
 ·cases a
 ·split at a
  ·cases a
  ·cases b:eT S p with
   | inl g=>rw [b] at a;cases a;exact wz h b
   | inr r=>
    rw [b] at a;simp only [] at a;split at a
    ·split at a
     ·cases a
     ·cases a;simp
    ·cases a;simp
theorem CZ (l:aa) (c:UInt8) (hc:c≠0):((peek l).1==((c.toNat:Nat):Int))=decide (l.head?=some c):=by
 have:=TP l c hc;cases l with
 | nil=>exact this
 | cons a r=>exact this
theorem FI {S:aa} {p:Nat} (h:p<=S.length) (a:S.length<100000) (c:UInt8):aA 20000000 [c] S (p:Int)=some (decide ((S.drop p).head?=some c),S,((if (S.drop p).head?=some c then p+1 else p:Nat):Int)):=by
 rw [l7 _ _ _ _ h (by omega)];simp only [tk1];by_cases hc:(S.drop p).head?=some c
 ·rw [ae hc,ae hc,au hc];rfl
 ·rw [ab hc,ab hc,av hc]
theorem Jn {S:aa} {p:Nat} (h:p<=S.length) (b:S.length<100000):aA 20000000 [46,46] S (p:Int)=some (dts (S.drop p),S,((if dts (S.drop p)=true then p+2 else p:Nat):Int)):=by
 rw [l7 _ _ _ _ h (by omega)];cases a:dts (S.drop p)
 ·rw [ab (show ¬(S.drop p).take [(46:UInt8),46].length=[46,46] from λh=>by unfold dts at a;rw [show (S.drop p).take 2=[46,46] from h] at a;cases a)];rfl
 ·rw [ae (show (S.drop p).take [(46:UInt8),46].length=[46,46] from eq_of_beq a)];rfl
theorem Hr {S:aa} {p:Nat} (h:p<=S.length) (c:S.length<100000):bM 20000000 [47] S (p:Int)=some (if (S.drop p).head?=some 47 then .inl (S,((p+1:Nat):Int)) else .inr ((p:Int),5,S,(p:Int))):=by
 rw [zW _ _ _ _ h (by omega) (by simp) (by simp)];simp only [tk1];by_cases hc:(S.drop p).head?=some 47
 ·rw [ae hc,ae hc];rfl
 ·rw [ab hc,ab hc];have:lcp (S.drop p) [47]=0:=by
   cases b:S.drop p with
   | nil=>rfl
   | cons a r=>
    rw [b] at hc;simp only [lcp];rw [show (a==47)=false from by rw [aW];rintro rfl;exact hc rfl];rfl
  rw [this];rfl
def Rm (S:aa):(Nat×Nat)⊕(Int×TD×Int×TD×Int×TD×Int×Nat)⊕(Int×Bool×Bool×List TI×Nat)->((Int×Int×Int×TD×Int×TD×Int×TD×Bool×Bool×Int×aa×Int)⊕(Int×TD×Int×TD×Int×TD×Nat×Nat×Bool×Bool×Int×aa×Int×List TI)⊕(Int×TD×Int×TD×Int×TD×Bool×Bool×Int×aa×Int)⊕(Int×TD×Int×TD×Int×TD×Bool×Bool×Int×aa×Int×List TI))->Prop
 | .inl f,y=>∃z,y=.inl ((f.1:Int),(f.2:Int),z)
 | .inr (.inl (K,D,KF,DF,KT,DT,L,p)),y=>y=.inr (.inr (.inl (K,D,KF,DF,KT,DT,false,false,L,S,(p:Int))))\/y=.inr (.inr (.inr (K,D,KF,DF,KT,DT,false,false,L,S,(p:Int),[])))
 | .inr (.inr (K,e,l,I,p)),y=>y=.inr (.inl (K,d0,0,d0,0,d0,I.length,I.length,e,l,2,S,(p:Int),I))
noncomputable def zR (S:aa):(Nat×Nat)⊕(Int×TD×Int×TD×Int×TD×Int×Nat)⊕(Int×Bool×Bool×List TI×Nat):=
 if S.head?=some 91\/S.head?=some 123 then (match vE S 0 with | .inl f=>.inl (f.1,f.2.1) | .inr q=>.inr (.inr q))
 else if S.head?=some 47 then (match toP S 1 3 d0 0 with | .inl f=>.inl f | .inr (KT,DT,L,q)=>.inr (.inl (2,d0,3,d0,KT,DT,L,q)))
 else if dts S=true then (if (S.drop 2).head?=some 47 then (match toP S 3 2 d0 0 with | .inl f=>.inl f | .inr (KT,DT,L,q)=>.inr (.inl (2,d0,2,d0,KT,DT,L,q))) else .inl (2,5))
 else match eT S 0 with
  | .inl f=>.inl (f.1,f.2.1)
  | .inr r=>if (S.drop (enR r)).head?=some 47 then (if exT (tdR r)=true then (match toP S (enR r+1) 1 (tdR r) (lvR S 0 r) with | .inl f=>.inl f | .inr (KT,DT,L,q)=>.inr (.inl (2,d0,1,tdR r,KT,DT,L,q))) else .inl (plR r,11))
   else .inr (.inl (1,tdR r,0,d0,0,d0,lvR S 0 r,enR r))
theorem mx0 {a:Int} (h:0<=a):mx a 0=a:=by unfold mx;split<;>omega
theorem QX {S:aa} (i:S.length<100000):∃y,gu 20000000 [] 0 d0 0 d0 0 d0 false false 0 S 0=some y/\Rm S (zR S) y:=by
 have z0:(0:Int)=((0:Nat):Int):=rfl;have O:=oG 20000000 S 0 (jh _);rw [ch,show ((0:Nat):Int)=0 from rfl] at O;have N:=Qe (S:=S) (a:=0) (jh _) i;rw [show ((0:Nat):Int)=0 from rfl] at N;have Q:=FI (S:=S) (p:=0) (jh _) i 47;rw [ch,show ((0:Nat):Int)=0 from rfl] at Q;have T:=Jn (S:=S) (p:=0) (jh _) i;rw [ch,show ((0:Nat):Int)=0 from rfl] at T;have R:=JB [] 0 d0 0 d0 0 d0 false false 0 (S:=S) (p:=0) (jh _) i;rw [show ((0:Nat):Int)=0 from rfl] at R;have M:((peek S).1==91)=decide (S.head?=some 91):=CZ S 91 (by decide);have n:((peek S).1==123)=decide (S.head?=some 123):=CZ S 123 (by decide);have set:(S.head?=some 91\/S.head?=some 123)->∃y,(obs (mj 20000000 S 0) (u4 λv1 Y Z v4=>(some (.inl (v1,Y,0,d0,0,d0,0,d0,false,false,0,Z,v4)))) (u13 λX v6 U W v9 x K w v I m o l=>(ob (fg 20000000 2 m o l X v6 U W v9 x K w v I 0) (u11 λC B s G u F J H A E t=>(some (.inr (.inl (C,B,s,G,u,F,J,H,A,E,t,m,o,l))))))))=some y/\Rm S (zR S) y:=by
  intro h;rw [N];unfold zR;rw [ae h];cases vE S 0 with
  | inl f=>exact ⟨_,rfl,_,rfl⟩
  | inr q=>exact ⟨_,rfl,rfl⟩
 unfold gu;rw [O];simp only [ob,u2,M,n];by_cases g:S.head?=some 91
 ·rw [au g,aj];exact set (.inl g)
 rw [av g,ah];by_cases d:S.head?=some 123
 ·rw [au d,aj];exact set (.inr d)
 rw [av d,ah,Q];clear set;unfold zR;rw [ab (show ¬(S.head?=some 91\/S.head?=some 123) from λh=>h.elim g d)];simp only [u3,u2];by_cases e:S.head?=some 47
 ·simp only [au e,ae e,aj];have D:1<=S.length:=by
   have:=mK (S:=S) (p:=0) (c:=47) (by rw [ch];exact e);omega
  obtain ⟨y,k,b⟩:=Ph [] 0 ot 3 0 (S:=S) (p:=1) D i;rw [show (((0+1:Nat)):Int)=((1:Nat):Int) from rfl,k];cases j:toP S 1 3 d0 0 with
  | inl f=>
   rw [j] at b;obtain ⟨z,rfl⟩:=b;exact ⟨_,rfl,_,rfl⟩
  | inr q=>
   rw [j] at b;obtain ⟨KT,DT,L,q⟩:=q;subst b;exact ⟨_,rfl,.inl rfl⟩
 ·simp only [av e,ab e,ah];rw [show (((0:Nat)):Int)=0 from rfl,T];simp only [];cases hd:dts S
  ·rw [ab (by simp),ab (by simp),ah,show (((0:Nat)):Int)=0 from rfl,R];cases V:eT S 0 with
   | inl f=>exact ⟨_,rfl,_,rfl⟩
   | inr r=>
    obtain ⟨P,c1,l1,l2⟩:=ny (jh _) V;simp only [obs,sm,ob,u13,u12,u11,u10,u9,u8,u7,u6,u5,u4,u3,u2];rw [FI l2 i,mx0 (Iy S 0 r).1];simp only [];by_cases hs:(S.drop (enR r)).head?=some 47
    ·simp only [au hs,ae hs,cX,ah];rw [FQ P c1];cases hx:exT (tdR r)
     ·exact ⟨_,rfl,_,rfl⟩
     ·obtain ⟨y,k,b⟩:=Ph [] 0 P 1 (lvR S 0 r) (S:=S) (p:=enR r+1) (mK hs) i;simp only [aK];rw [k];cases j:toP S (enR r+1) 1 (tdR r) (lvR S 0 r) with
      | inl f=>
       rw [j] at b;obtain ⟨z,rfl⟩:=b;exact ⟨_,rfl,_,rfl⟩
      | inr q=>
       rw [j] at b;obtain ⟨KT,DT,L,q⟩:=q;subst b;exact ⟨_,rfl,.inl rfl⟩
    ·simp only [av hs,ab hs];exact ⟨_,rfl,.inr rfl⟩
  ·rw [ae rfl,ae rfl,aj];have D:2<=S.length:=by
    have:=sV (S:=S) (p:=0) (by rw [ch];exact hd);omega
   rw [show (((0+2:Nat)):Int)=((2:Nat):Int) from rfl,Hr D i];by_cases hs:(S.drop 2).head?=some 47
   ·simp only [ae hs];obtain ⟨y,k,b⟩:=Ph [] 0 ot 2 0 (S:=S) (p:=3) (mK hs) i;rw [show (((2+1:Nat)):Int)=((3:Nat):Int) from rfl];simp only [obs,sm,ob,u2,k];cases j:toP S 3 2 d0 0 with
    | inl f=>
     rw [j] at b;obtain ⟨z,rfl⟩:=b;exact ⟨_,rfl,_,rfl⟩
    | inr q=>
     rw [j] at b;obtain ⟨KT,DT,L,q⟩:=q;subst b;exact ⟨_,rfl,.inl rfl⟩
   ·simp only [ab hs];exact ⟨_,rfl,_,rfl⟩
theorem IV {S:aa} {f:Nat×Nat} (a:zR S=.inl f):f.2≠0:=by
 unfold zR at a;split at a
 ·cases b:vE S 0 with
  | inl g=>rw [b] at a;cases a;exact K3 (jh _) b
  | inr q=>rw [b] at a;cases a
 ·split at a
  ·rename_i h;cases b:toP S 1 3 d0 0 with
   | inl g=>
    rw [b] at a;cases a;exact DL (mK (S:=S) (p:=0) (by rw [ch];exact h)) b
   | inr q=>rw [b] at a;cases a
  ·split at a
   ·split at a
    ·rename_i h;cases b:toP S 3 2 d0 0 with
     | inl g=>rw [b] at a;cases a;exact DL (mK h) b
     | inr q=>rw [b] at a;cases a
    ·cases a;simp
   ·cases b:eT S 0 with
    | inl g=>rw [b] at a;cases a;exact wz (jh _) b
    | inr r=>
     rw [b] at a;simp only [] at a;split at a
     ·rename_i h;split at a
      ·cases c:toP S (enR r+1) 1 (tdR r) (lvR S 0 r) with
       | inl g=>rw [c] at a;cases a;exact DL (mK h) c
       | inr q=>rw [c] at a;cases a
      ·cases a;simp
     ·cases a
theorem DI (S:aa):lB S=match zR S with
  | .inl f=>.inl f
  | .inr (.inl (K,D,KF,DF,KT,DT,L,q))=>if q<S.length then .inl (q,5) else .inr (.inl (K,D,KF,DF,KT,DT,L))
  | .inr (.inr (K,e,l,I,q))=>if q<S.length then .inl (q,5) else .inr (.inr (K,e,l,I)):=by
 unfold lB zR Gp toX;split
 ·cases vE S 0 with
  | inl f=>rfl
  | inr q=>
   obtain ⟨_,_,_,_,p⟩:=q;by_cases hp:p<S.length<;>simp [hp]
 ·split
  ·cases toP S 1 3 d0 0 with
   | inl f=>rfl
   | inr q=>
    obtain ⟨_,_,_,p⟩:=q;by_cases hp:p<S.length<;>simp [hp]
  ·split
   ·split
    ·cases toP S 3 2 d0 0 with
     | inl f=>rfl
     | inr q=>
      obtain ⟨_,_,_,p⟩:=q;by_cases hp:p<S.length<;>simp [hp]
    ·rfl
   ·cases eT S 0 with
    | inl f=>rfl
    | inr r=>
     simp only [];split
     ·split
      ·cases toP S (enR r+1) 1 (tdR r) (lvR S 0 r) with
       | inl f=>rfl
       | inr q=>
        obtain ⟨_,_,_,p⟩:=q;by_cases hp:p<S.length<;>simp [hp]
      ·rfl
     ·rfl
theorem Ob {S:aa} (d:S.length<=16384):mb 20000000 S=some (VV (lB S)):=by
 obtain ⟨y,c,a⟩:=QX (S:=S) (by omega);unfold mb dO;rw [show decide (len S>16384)=false from av (by show ¬(16384:Int)<((S.length:Nat):Int);omega),ah,c,DI];cases b:zR S with
 | inl f=>
  have g:=IV b;rw [b] at a;obtain ⟨z,rfl⟩:=a;simp only [obs,sm,ob,u13,u12,u11,u10,u9,u8,u7,u6,u5,u4,u3,u2];rw [show (((f.2:Nat):Int) != 0)=true from by simp;omega];rfl
 | inr q=>
  rw [b] at a;cases q with
  | inl q=>
   obtain ⟨K,D,KF,DF,KT,DT,L,p⟩:=q;simp only [];rcases a with rfl | rfl
   ·simp only [obs,sm,ob,u13,u12,u11,u10,u9,u8,u7,u6,u5,u4,u3,u2];by_cases hp:p<S.length
    ·rw [ae hp,au (show (p:Int)<((S.length:Nat):Int) by omega)];rfl
    ·rw [ab hp,av (show ¬(p:Int)<((S.length:Nat):Int) by omega)];rfl
   ·simp only [obs,sm,ob,u14,u13,u12,u11,u10,u9,u8,u7,u6,u5,u4,u3,u2];by_cases hp:p<S.length
    ·rw [ae hp,au (show (p:Int)<((S.length:Nat):Int) by omega)];rfl
    ·rw [ab hp,av (show ¬(p:Int)<((S.length:Nat):Int) by omega)];rfl
  | inr q=>
   obtain ⟨K,e,l,I,p⟩:=q;subst a;simp only [obs,sm,ob,u16,u15,u14,u13,u12,u11,u10,u9,u8,u7,u6,u5,u4,u3,u2];by_cases hp:p<S.length
   ·rw [ae hp,au (show (p:Int)<((S.length:Nat):Int) by omega)];rfl
   ·rw [ab hp,av (show ¬(p:Int)<((S.length:Nat):Int) by omega)];rfl
def lvX (x:TD):Int:=lvT (gg x) x
theorem Jb {x:TD} (hs:smT x) (hc:cF x=0):∃r,eT (gg x) 0=.inr r/\tdR r=x/\enR r=(gg x).length/\lvR (gg x) 0 r=lvX x:=by
 obtain ⟨r,d,c,b⟩:=yi hs hc (S:=gg x) (a:=0) (post:=[]) (by simp) E6;rw [cP] at b;refine ⟨r,d,c,b,?_⟩;unfold lvR lvX;rw [c,b,rZ,ch,nM]
def jk (K:Int) (x:TD):aa:=if K=2 then [46,46] else if K=3 then [] else gg x
def okB (K:Int) (x:TD):Prop:=(K=1/\cF x=0/\exT x=true)\/((K=2\/K=3)/\x=d0)
theorem OB {K:Int} {x:TD} (h:uJ K x=0):okB K x:=by
 by_cases c:K=1
 ·subst c;obtain ⟨a,b⟩:=Es h;exact .inl ⟨rfl,a,b⟩
 ·unfold uJ chkB at h;rw [ab c] at h;split at h
  ·rename_i d;split at h
   ·rename_i e;exact .inr ⟨d,mA.1 e⟩
   ·cases h
  ·cases h
theorem nU {KF KT:Int} {x y:TD} (h:so KF x KT y=0):okB KF x/\okB KT y/\(KF=1\/KT=1):=by
 unfold so NY at h;by_cases b:uJ KF x=0
 ·rw [ab (λz=>z b)] at h;by_cases a:uJ KT y=0
  ·rw [ab (λz=>z a)] at h;split at h
   ·cases h
   ·rename_i c;exact ⟨OB b,OB a,by omega⟩
  ·rw [ae a] at h;exact absurd h a
 ·rw [ae b] at h;exact absurd h b
inductive RightP:Int->TD->Int->TD->Int->TD->Bool->Bool->List TI->Prop where
 | single {x:TD} (hs:smT x) (hc:cF x=0):RightP 1 x 0 d0 0 d0 false false []
 | interval {KF:Int} {x:TD} {KT:Int} {y:TD} (hx:smT x) (hy:smT y) (hp:so KF x KT y=0):RightP 2 d0 KF x KT y false false []
 | set {K:Int} {e l:Bool} {I:List TI} (P:SetP K d0 0 d0 0 d0 e l I) (hs:∀t∈I,smI t):RightP K d0 0 d0 0 d0 e l I
theorem wl {k:Int} {D:TD} {KF:Int} {DF:TD} {KT:Int} {DT:TD} {e l:Bool} {I:List TI} (hs:smE D DF DT I) (h:(ee k D KF DF KT DT e l I).2=0):RightP k D KF DF KT DT e l I:=by
 by_cases j:k=3\/k=4
 ·have P:=BS j h;obtain ⟨rfl,rfl,rfl,rfl,rfl⟩:D=d0/\KF=0/\DF=d0/\KT=0/\DT=d0:=⟨P.d,P.kf,P.df,P.kt,P.dt⟩;exact .set P hs.2.2.2
 ·unfold ee at h;split at h
  ·simp at h
  ·split at h
   ·simp at h
   ·rename_i n a;unfold unuB at a;generalize z1:eqD D d0=o at a;generalize z2:eqD DF d0=q at a;generalize i:eqD DT d0=p at a;by_cases k1:k=1
    ·subst k1;rw [ae rfl] at h;simp at a;obtain ⟨⟨⟨a1,a2⟩,c,b⟩,g,f,m⟩:=a;subst a1 c g f m;rw [mA.1 (z2.trans a2),mA.1 (i.trans b)];exact .single hs.1 h
    ·have k2:k=2:=by omega
     subst k2;rw [ab (by omega),ae rfl] at h;simp at a;obtain ⟨a1,a2,c,b⟩:=a;subst a2 c b;rw [mA.1 (z1.trans a1)];exact .interval hs.2.1 hs.2.2.1 h
def rC (k:Int) (D:TD) (KF:Int) (DF:TD) (KT:Int) (DT:TD) (e l:Bool) (I:List TI):aa:=
 if k=1 then gg D else if k=2 then jk KF DF++47::jk KT DT else sE k e l I
def lvE (k:Int) (D:TD) (KF:Int) (DF:TD) (KT:Int) (DT:TD):Int:=
 if k=1 then lvX D else if k=2 then mx (if KT=1 then lvX DT else 1) (if KF=1 then lvX DF else 1) else 2
def exOf (k:Int) (D:TD) (KF:Int) (DF:TD) (KT:Int) (DT:TD) (e l:Bool) (I:List TI) (L:Int):(Nat×Nat)⊕(Int×TD×Int×TD×Int×TD×Int)⊕(Int×Bool×Bool×List TI):=
 if k=1\/k=2 then .inr (.inl (k,D,KF,DF,KT,DT,L)) else .inr (.inr (k,e,l,I))
theorem yR {x:TD} (hs:smT x) (hc:cF x=0) (r:aa) (c:UInt8) (a:brk c=true):(gg x++r).head?≠some c:=λh=>by
 have:=mu hs hc r c h;rw [a] at this;cases this
theorem Nr {x:TD} (hs:smT x) (hc:cF x=0):gg x≠[]:=by
 obtain ⟨g,l,dg,e,q,m,d,a,b,c,rfl,ok⟩:=nO hs hc;obtain ⟨f,_,_⟩:=xu ok.yr;intro h;have h:r7 g l dg (e:Int) (q:Int) m d a b c=[]:=h;unfold r7 ck at h;have:=ci List.length h;simp only [bH,dP] at this;exact f (sQ (by omega))
theorem Ai {KF:Int} {DF:TD} {KT:Int} {DT:TD} (hx:smT DF) (hy:smT DT) (hp:so KF DF KT DT=0) {S:aa} {p:Nat} (q:p<=S.length) (h:S.drop p=jk KT DT) (lv:Int):
  toX S p KF DF lv=.inr (KT,DT,mx (if KT=1 then lvX DT else 1) (if KF=1 then lv else mx 1 lv)):=by
 obtain ⟨t,l,b1⟩:=nU hp;have b:=ci List.length h;rw [cY] at b;unfold toX toP;rcases l with ⟨rfl,hc,i⟩ | ⟨o,rfl⟩
 ·have f:jk 1 DT=gg DT:=by unfold jk;rw [ab (by omega),ab (by omega)]
  rw [f] at h b;have k:¬(KF=1/\p=S.length):=by
   rintro ⟨_,e⟩;exact Nr hy hc (sQ (by omega))
  have d:¬(KF=1/\dts (S.drop p)=true):=by
   rintro ⟨_,e⟩;rw [h] at e;have:=mu hy hc [];rw [lL] at this;rw [qV this] at e;cases e
  obtain ⟨r,j,g,m⟩:=yi hy hc (S:=S) (a:=p) (post:=[]) (by rw [h,lL]) E6;rw [ab k,ab d,j];simp only [];rw [g,ae i,ae (.inr hp)];simp only [aK];rw [ab (by omega)];have:lvR S p r=lvX DT:=by
   unfold lvR lvX;rw [g,m,h];rw [show p+(gg DT).length - p=(gg DT).length by omega,nM]
  rw [this]
 ·have n:KF=1:=by omega
  subst n;rcases o with rfl | rfl
  ·have f:S.drop p=[46,46]:=h;have d:dts (S.drop p)=true:=by rw [f];rfl
   have s:=sV d;have c:(jk 2 d0).length=2:=rfl;rw [ab (by omega),ae ⟨rfl,d⟩];simp only [];rw [ab (by omega)];rfl
  ·have c:(jk 3 d0).length=0:=rfl;rw [ae ⟨rfl,by omega⟩];simp only [];rw [ab (by omega)];rfl
theorem AN {x:TD} (hs:smT x) (hc:cF x=0):lB (gg x)=.inr (.inl (1,x,0,d0,0,d0,lvX x)):=by
 obtain ⟨r,e,d,f,r4⟩:=Jb hs hc;have b:=mu hs hc [];rw [lL] at b;have a:=λc b=>yR hs hc [] c b;rw [lL] at a;generalize gg x=T at *;unfold lB;rw [ab (by rintro (h | h);exact a 91 (by decide) h;exact a 123 (by decide) h),ab (a 47 (by decide)),qV b,ab (by simp),e];simp only [];rw [f,rI,ab (by simp),ab (by omega),d,r4]
theorem G7 {DF:TD} (hx:smT DF) (hc:cF DF=0) (n:exT DF=true) {KT:Int} {DT:TD} (hy:smT DT) (hp:so 1 DF KT DT=0):lB (gg DF++47::jk KT DT)=.inr (.inl (2,d0,1,DF,KT,DT,mx (if KT=1 then lvX DT else 1) (lvX DF))):=by
 have i:=mu hx hc (47::jk KT DT);have d:=λc i=>yR hx hc (47::jk KT DT) c i;generalize e:gg DF++47::jk KT DT=S at *;obtain ⟨r,o,j,g⟩:=yi hx hc (S:=S) (a:=0) (post:=47::jk KT DT) (by rw [ch,e]) (qa (by decide));rw [cP] at g;have b:S.drop (enR r)=47::jk KT DT:=by rw [g,<-e,List.drop_left]
 have m:S.drop (enR r+1)=jk KT DT:=by rw [<-iL,b];rfl
 have l:lvR S 0 r=lvX DF:=by
  unfold lvR lvX;rw [j,g,rZ,ch,<-e,zI]
 have f:enR r+1<=S.length:=by
  have:=ci List.length b;rw [cY,aM] at this;omega
 have k:=Ai hx hy hp f m (lvX DF);rw [ae rfl] at k;unfold lB;rw [ab (by rintro (h | h);exact d 91 (by decide) h;exact d 123 (by decide) h),ab (d 47 (by decide)),qV i,ab (by simp),o];simp only [];rw [b,rE,ae rfl,j,ae n,l,k]
theorem Ha {DT:TD} (hy:smT DT) (hp:so 2 d0 1 DT=0):lB (46::46::47::gg DT)=.inr (.inl (2,d0,2,d0,1,DT,mx (lvX DT) 1)):=by
 have a:=Ai ot hy hp (S:=46::46::47::gg DT) (p:=3) (by simp only [aM];omega) (by simp only [mU,ch];unfold jk;rw [ab (by omega),ab (by omega)]) 0;rw [ae rfl,ab (by omega)] at a;generalize gg DT=T at *;unfold lB;rw [ab (by simp),ab (by simp)];have b:dts (46::46::47::T)=true:=rfl;rw [ae b,ae (by rfl),a];rfl
theorem JW {DT:TD} (hy:smT DT) (hp:so 3 d0 1 DT=0):lB (47::gg DT)=.inr (.inl (2,d0,3,d0,1,DT,mx (lvX DT) 1)):=by
 have a:=Ai ot hy hp (S:=47::gg DT) (p:=1) (by simp only [aM];omega) (by simp only [mU,ch];unfold jk;rw [ab (by omega),ab (by omega)]) 0;rw [ae rfl,ab (by omega)] at a;generalize gg DT=T at *;unfold lB;rw [ab (by simp),ae (by rfl),a];rfl
theorem Dh {k:Int} {D:TD} {KF:Int} {DF:TD} {KT:Int} {DT:TD} {e l:Bool} {I:List TI} (h:RightP k D KF DF KT DT e l I):lB (rC k D KF DF KT DT e l I)=exOf k D KF DF KT DT e l I (lvE k D KF DF KT DT):=by
 cases h with
 | single hs hc=>
  unfold rC exOf lvE;rw [ae (by omega),ae (by omega),ae (by omega),AN hs hc]
 | interval hx hy hp=>
  obtain ⟨j,p,b1⟩:=nU hp;unfold rC exOf lvE;rw [ab (by omega),ae (by omega),ae (by omega),ab (by omega),ae (by omega)];rcases j with ⟨rfl,hc,i⟩ | ⟨f,rfl⟩
  ·have b:jk 1 DF=gg DF:=by unfold jk;rw [ab (by omega),ab (by omega)]
   rw [b,G7 hx hc i hy hp,ae (show (1:Int)=1 from rfl)]
  ·have o:KT=1:=by omega
   subst o;have b:jk 1 DT=gg DT:=by unfold jk;rw [ab (by omega),ab (by omega)]
   rw [b,ae (show (1:Int)=1 from rfl),ab (by omega)];rcases f with rfl | rfl
   ·have m:jk 2 d0=[46,46]:=by unfold jk;rw [ae rfl]
    rw [m];exact Ha hy hp
   ·have n:jk 3 d0=[]:=by unfold jk;rw [ab (by omega),ae rfl]
    rw [n];exact JW hy hp
 | set P hs=>
  have ok:=λt b=>(EE P hs t b).1;have f:=P.kind;have c:¬(k=1\/k=2):=by omega
  have d:rC k d0 0 d0 0 d0 e l I=sE k e l I:=by
   unfold rC;rw [ab (by omega),ab (by omega)]
  have a:∀L,exOf k d0 0 d0 0 d0 e l I L=.inr (.inr (k,e,l,I)):=λL=>by
   unfold exOf;rw [ab c]
  rw [d,a];have g:(sE k e l I).head?=some 91\/(sE k e l I).head?=some 123:=by
   unfold sE;rw [rE];split
   ·exact .inr rfl
   ·exact .inl rfl
  have hp:=G8 f P.one P.most ok P.set;generalize sE k e l I=T at *;unfold lB;rw [ae g,hp]
theorem ta {K:Int} {x:TD} (hs:smT x) (h:okB K x):(jk K x).length<=37:=by
 rcases h with ⟨rfl,hc,c⟩ | ⟨b,rfl⟩
 ·have a:jk 1 x=gg x:=by unfold jk;rw [ab (by omega),ab (by omega)]
  rw [a];exact om hs hc
 ·rcases b with rfl | rfl<;>decide
def okDs (L:List TD):Prop:=∀x∈L,smT x/\cF x=0
theorem Q2 {k:Int} {D:TD} {KF:Int} {DF:TD} {KT:Int} {DT:TD} {e l:Bool} {I:List TI} (h:RightP k D KF DF KT DT e l I):okDs (datE k D KF DF KT DT I):=by
 intro x hx;cases h with
 | single hs hc=>
  unfold datE at hx;rw [ae rfl] at hx;rw [mn.1 hx];exact ⟨hs,hc⟩
 | interval j n hp=>
  obtain ⟨p,r,_⟩:=nU hp;have g:KF=1->cF DF=0:=λh=>by
   rcases p with ⟨_,hc,_⟩ | ⟨d,_⟩
   ·exact hc
   ·omega
  have m:KT=1->cF DT=0:=λh=>by
   rcases r with ⟨_,hc,_⟩ | ⟨d,_⟩
   ·exact hc
   ·omega
  unfold datE at hx;rw [ab (by omega),ae rfl] at hx;split at hx
  ·rename_i i;split at hx
   ·rename_i f;rcases cf.1 hx with rfl | hx
    ·exact ⟨j,g i⟩
    ·rw [mn.1 hx];exact ⟨n,m f⟩
   ·rw [mn.1 hx];exact ⟨j,g i⟩
  ·split at hx
   ·rename_i f;rw [mn.1 hx];exact ⟨n,m f⟩
   ·cases hx
 | set P hs=>
  have d:=P.kind;unfold datE at hx;rw [ab (by omega),ab (by omega),ae d] at hx;obtain ⟨t,q,c⟩:=Di.1 hx;have ok:=(EE P hs t q).1;unfold datI at c;split at c
  ·rename_i o;rcases cf.1 c with rfl | c
   ·exact ⟨ok.sm.1,ok.a⟩
   ·rw [mn.1 c];exact ⟨ok.sm.2,ok.b o⟩
  ·rw [mn.1 c];exact ⟨ok.sm.1,ok.a⟩
theorem CE:∀I:List TI,(I.flatMap datI).length<=2*I.length
 | []=>by simp
 | t::I=>by
  have:=EA t;have:=CE I;rw [na,bH,aM];omega
theorem xQ {k:Int} {D:TD} {KF:Int} {DF:TD} {KT:Int} {DT:TD} {e l:Bool} {I:List TI} (h:RightP k D KF DF KT DT e l I) (d:I.length<=5):(rC k D KF DF KT DT e l I).length<=16384:=by
 cases h with
 | single hs hc=>
  have:=om hs hc;unfold rC;rw [ae rfl];omega
 | interval hx hy hp=>
  obtain ⟨a,b,_⟩:=nU hp;have f:=ta hx a;have g:=ta hy b;unfold rC;rw [ab (by omega),ae rfl,bH,aM];omega
 | set P hs=>
  have i:=P.kind;unfold rC;rw [ab (by omega),ab (by omega)];have:=BK (I:=I) λt c=>(EE P hs t c).1;unfold sE;cases e<;>cases l<;>simp<;>omega
theorem O6 {K:Int} {x:TD} (h:okB K x):uJ K x=0:=by
 rcases h with ⟨rfl,hc,a⟩ | ⟨b,rfl⟩
 ·exact NN hc a
 ·rcases b with rfl | rfl<;>kernel_rfl
theorem EM {K:Int} {x:TD} (hs:smT x) (h:okB K x):ap10 (kh 20000000 K) x=some (jk K x,0):=by
 have b:chkB K x.1 x.2.1 x.2.2.1 x.2.2.2.1 x.2.2.2.2.1 x.2.2.2.2.2.1 x.2.2.2.2.2.2.1 x.2.2.2.2.2.2.2.1 x.2.2.2.2.2.2.2.2.1 x.2.2.2.2.2.2.2.2.2=0:=O6 h;have:=OX (K:=K) (g:=x.1) (l:=x.2.1) (x:=x.2.2.2.1) (q:=x.2.2.2.2.1) hs.1 hs.2.1 hs.2.2.1 hs.2.2.2.1 hs.2.2.2.2.1 hs.2.2.2.2.2;rw [ae b] at this;refine this.trans ?_;unfold jk gg;by_cases a:K=2
 ·simp only [a,aK]
 ·simp only [a,aC]
theorem Eq {KF:Int} {x:TD} {KT:Int} {y:TD} (hx:smT x) (hy:smT y) (hp:so KF x KT y=0) (K:Int) (D:TD) (e l:Bool) (I:List TI):
  iC 20000000 K D KF x KT y e l I=some (jk KF x++47::jk KT y,0):=by
 obtain ⟨a,b,_⟩:=nU hp;have d:=ta hx a;have c:=ta hy b;unfold iC;rw [EM hx a,EM hy b];simp only [ob,u2];rw [gj (by simp only [aM,dP];omega)];simp only [];rw [gj (by simp only [bH,aM,dP];omega)];simp only [fi,ep,dD]
theorem M6 {k:Int} {D:TD} {KF:Int} {DF:TD} {KT:Int} {DT:TD} {e l:Bool} {I:List TI} (h:RightP k D KF DF KT DT e l I):(ee k D KF DF KT DT e l I).2=0:=by
 cases h with
 | single hs hc=>rw [(Bh hs hc).first]
 | interval hx hy hp=>rw [(xA hx hy hp).first]
 | set P hs=>exact P.set
theorem V0 {k:Int} {D:TD} {KF:Int} {DF:TD} {KT:Int} {DT:TD} {e l:Bool} {I:List TI} (h:RightP k D KF DF KT DT e l I):smE D DF DT I:=by
 cases h with
 | single hs hc=>exact ⟨hs,ot,ot,λt a=>by cases a⟩
 | interval hx hy hp=>exact ⟨ot,hx,hy,λt a=>by cases a⟩
 | set P hs=>exact ⟨ot,ot,ot,hs⟩
theorem I5 {k:Int} {D:TD} {KF:Int} {DF:TD} {KT:Int} {DT:TD} {e l:Bool} {I:List TI} (hs:smE D DF DT I):
  io 20000000 k D KF DF KT DT e l I=some (if (ee k D KF DF KT DT e l I).2=0 then (rC k D KF DF KT DT e l I,0) else ([],(ee k D KF DF KT DT e l I).2)):=by
 unfold io;rw [vc hs];by_cases a:(ee k D KF DF KT DT e l I).2=0
 ·rw [ae a,a];have P:=wl hs a;simp only [ob,fj,ah,ln];cases P with
  | single hx hc=>
   rw [show ((1:Int)==1)=true from rfl,aj];unfold jD rC;rw [ae rfl,dfT hx hc];simp only [ob,u2]
  | interval hx hy hp=>
   rw [show ((2:Int)==1)=false from rfl,ah,show ((2:Int)==2)=true from rfl,aj,Eq hx hy hp];unfold rC;rw [ab (by omega),ae rfl]
  | set P hi=>
   have b:=P.kind;have c:=O2 (K:=k) (KF:=0) (KT:=0) (e:=e) (l:=l) hs;rw [ae (show AO k from b),ae a] at c;rw [c];unfold rC;rw [ab (by rcases b with rfl | rfl<;>omega),ab (by rcases b with rfl | rfl<;>omega)];generalize sE k e l I=w;rcases b with rfl | rfl<;>rfl
 ·rw [ab a];simp only [ob];rw [show ((ee k D KF DF KT DT e l I).2 != 0)=true from bne_iff_ne.2 a,aj]
theorem Et {k:Int} {D:TD} {KF:Int} {DF:TD} {KT:Int} {DT:TD} {e l:Bool} {I:List TI} (h:RightP k D KF DF KT DT e l I):
  io 20000000 k D KF DF KT DT e l I=some (rC k D KF DF KT DT e l I,0):=by
 rw [I5 (V0 h),ae (M6 h)]
def ofX:(Nat×Nat)⊕(Int×TD×Int×TD×Int×TD×Int)⊕(Int×Bool×Bool×List TI)->Int×Int×Int
 | .inl f=>(0,(f.1:Int),(f.2:Int))
 | .inr (.inl (K,D,KF,DF,KT,DT,L))=>(L,0,0)
 | .inr (.inr (K,e,l,I))=>(2,0,0)
theorem J2 {S:aa} (a:S.length<=16384):gp 20000000 S=some (ofX (lB S)):=by
 unfold gp;rw [Ob a];generalize lB S=y;rcases y with f | ⟨K,D,KF,DF,KT,DT,L⟩ | ⟨K,e,l,I⟩<;>rfl
theorem Oa {k:Int} {D:TD} {KF:Int} {DF:TD} {KT:Int} {DT:TD} {e l:Bool} {I:List TI} (h:RightP k D KF DF KT DT e l I):ofX (lB (rC k D KF DF KT DT e l I))=(lvE k D KF DF KT DT,0,0):=by
 rw [Dh h];unfold exOf;by_cases a:k=1\/k=2
 ·rw [ae a];rfl
 ·rw [ab a];show ((2:Int),(0:Int),(0:Int))=_;unfold lvE;rw [ab (by omega),ab (by omega)]
theorem IW {k:Int} (a:AO k) (D:TD) (KF:Int) (DF:TD) (KT:Int) (DT:TD):lvE k D KF DF KT DT=2:=by
 have a:k=3\/k=4:=a;unfold lvE;rw [ab (by omega),ab (by omega)]
theorem Dl {k:Int} {D:TD} {KF:Int} {DF:TD} {KT:Int} {DT:TD} {e l:Bool} {I:List TI} (h:RightP k D KF DF KT DT e l I) (a:¬AO k):(rC k D KF DF KT DT e l I).length<=16384:=by
 cases h with
 | single hs hc=>exact xQ (.single hs hc) (by simp)
 | interval hx hy hp=>exact xQ (.interval hx hy hp) (by simp)
 | set P hs=>exact absurd P.kind a
theorem MP {k:Int} {D:TD} {KF:Int} {DF:TD} {KT:Int} {DT:TD} {e l:Bool} {I:List TI} (hs:smE D DF DT I):
  gk 20000000 k D KF DF KT DT e l I=some (if (ee k D KF DF KT DT e l I).2=0 then (lvE k D KF DF KT DT,0) else (0,(ee k D KF DF KT DT e l I).2)):=by
 unfold gk;rw [vc hs];by_cases a:(ee k D KF DF KT DT e l I).2=0
 ·rw [ae a,a];have P:=wl hs a;simp only [ob,fj,ah];by_cases b:AO k
  ·rw [IW b];rcases b with rfl | rfl<;>rfl
  ·have f:(k==3)=false:=aW.2 λh=>b (.inl h);have d:(k==4)=false:=aW.2 λh=>b (.inr h);have c:=Dl P b;rw [f,d,ah,ah,Et P];simp only [u2];rw [J2 c,Oa P]
 ·rw [ab a];simp only [ob];rw [show ((ee k D KF DF KT DT e l I).2 != 0)=true from bne_iff_ne.2 a,aj]
theorem LG:gQ 20000000=some true:=by kernel_rfl
theorem xy {X Y:Type} {step:X->Option (X⊕Y)} {x:X} {y:Y} {N:Nat} (h:step x=some (.inr y)):aq step (N+1) x=some y:=by rw [aq,h]
theorem wa {X Y:Type} {step:X->Option (X⊕Y)} {x a:X} {N:Nat} (h:step x=some (.inl a)):aq step (N+1) x=aq step N a:=by rw [aq,h]
def orL (L:List (Nat×Bool)) (a:Nat):Nat:=L.foldl (λa p=>if p.2 then a ||| p.1 else a) a
theorem or64 {a b:Nat} (c:a<2 ^ 62) (d:b<2 ^ 62):bits .or .i64 (a:Int) (b:Int)=((a ||| b:Nat):Int):=by
 show IntKind.wrap .i64 ((BitVec.ofInt 64 (a:Int) ||| BitVec.ofInt 64 (b:Int)).toNat:Int)=_;rw [tj,tj,BitVec.toNat_or,EV,EV,o6 (show a<2 ^ 64 by omega),o6 (show b<2 ^ 64 by omega)];have:=Av (n:=62) c d;exact wrap_i64 _ (by omega) (by omega)
theorem OE:∀(L:List (Nat×Bool)) (a:Nat),a<2 ^ 62->(∀p∈L,p.1<2 ^ 62)->orL L a<2 ^ 62
 | [],a,h,_=>h
 | p::L,a,h,b=>by
  show orL L (if p.2 then a ||| p.1 else a)<2 ^ 62;refine OE L _ ?_ (λq c=>b q (eO _ c));split
  ·exact Av h (b p km)
  ·exact h
def inL (L:List (Nat×Bool)):List (Int×Bool):=L.map λp=>((p.1:Int),p.2)
theorem Jr (L:List (Nat×Bool)) (j:L.length<1000) (g:∀p∈L,p.1<2 ^ 62):∀(r i a:Nat),a<2 ^ 62->i+r=L.length->∀N,r<N->
  aq (dB 20000000) N (len (inL L),(i:Int),inL L,(a:Int))=some ((orL (L.drop i) a:Nat):Int):=by
 intro r;have c:len (inL L)=((L.length:Nat):Int):=by show (((inL L).length:Nat):Int)=_;unfold inL;rw [yx]
 induction r with
 | zero=>
  intro i a e hi N h;obtain ⟨N,rfl⟩:∃k,N=k+1:=⟨N - 1,by omega⟩;obtain rfl:i=L.length:=by omega
  rw [rI];refine xy ?_;unfold dB;simp only [u4,u3,u2];rw [c,av (by omega)];rfl
 | succ r ih=>
  intro i a e hi N h;obtain ⟨N,rfl⟩:∃k,N=k+1:=⟨N - 1,by omega⟩;have b:i<L.length:=by omega
  have f:(inL L)[i]?=some ((L[i].1:Int),L[i].2):=by unfold inL;rw [lG,bn b];rfl
  have d:=g _ (EN b);rw [pR b];generalize L[i]=p at f d ⊢;have st:dB 20000000 (len (inL L),(i:Int),inL L,(a:Int))=some (.inl (len (inL L),((i+1:Nat):Int),inL L,(((if p.2 then a ||| p.1 else a):Nat):Int))):=by
   unfold dB;simp only [u4,u3,u2];rw [c,au (by omega),aj,eu (by unfold inL;rw [yx];exact b)];simp only [ob,f];rw [qP (by omega),or64 e d];cases p.2<;>rfl
  rw [wa st];have:=ih (i+1) (if p.2 then a ||| p.1 else a) (by split;exact Av e d;exact e) (by omega) N (by omega);exact this
theorem Tz (L:List (Nat×Bool)) (b:L.length<1000) (d:∀p∈L,p.1<2 ^ 62) {a:Nat} (c:a<2 ^ 62):aG 20000000 (inL L) (a:Int)=some ((orL L a:Nat):Int):=by
 have:=Jr L b d L.length 0 a c (by omega) 20000000 (by omega);rw [ch] at this;unfold aG;rw [show ((0:Nat):Int)=0 from rfl] at this;rw [this];rfl
theorem Da:∀(L:List (Nat×Bool)) (a:Nat),orL L a=a ||| orL L 0
 | [],a=>by show a=a ||| 0;simp
 | p::L,a=>by
  show orL L (if p.2 then a ||| p.1 else a)=a ||| orL L (if p.2 then 0 ||| p.1 else 0);rw [Da L (if p.2 then a ||| p.1 else a),Da L (if p.2 then 0 ||| p.1 else 0)];cases p.2<;>simp [xn]
def apI (k:Nat) (a b c:Int):Bool:=(decide (1<k)&&b != a)||(decide (2<k)&&c != a)
def apT (x:TD):Bool:=apI (coT x) (d4 x).2.2.2.1 (d8 x).1 (d8 x).2
def mkB (x:TD):Bool:=!((d4 x).2.2.2.1==0&&((d8 x).1==0&&((d8 x).2==0&&true)))
def fxL (x:TD):List (Nat×Bool):=[(1,mkB x),(2,apT x),(4,mkX x),(8,x.1||x.2.1),(16,decide (0<x.2.2.2.1)||decide (0<(d4 x).1)),(32,decide (0<seT x)&&decide (seT x<25)),(64,decide (0<seT x)&&decide (25<=seT x))]
def fxN (x:TD):Nat:=orL (fxL x) 0
theorem Vv (x:TD):fxN x<2 ^ 62:=OE _ 0 (by decide) (by
 intro p hp;unfold fxL at hp;simp only [cf,nD,o7] at hp;rcases hp with rfl | rfl | rfl | rfl | rfl | rfl | rfl<;>simp)
theorem O5 (x:TD) {a:Nat} (b:a<2 ^ 62):aG 20000000 (inL (fxL x)) (a:Int)=some ((a ||| fxN x:Nat):Int):=by
 rw [Tz (fxL x) (by show 7<1000;omega) ?_ b,Da];rfl;intro p hp;unfold fxL at hp;simp only [cf,nD,o7] at hp;rcases hp with rfl | rfl | rfl | rfl | rfl | rfl | rfl<;>simp
theorem PK {N:Nat} (n:3<N) {k:Nat} (m:1<=k/\k<=3) (code:Int) (e:Bool) (a d:Nat) (g f c:Int) (x:TD) (L:List TD):
  aq (bW 20000000) N (code,e,(k:Int),false,1,a,d,g,f,c,x,L)=some (code,e,apI k (d4 x).2.2.2.1 (d8 x).1 (d8 x).2,a,d,g,f,c,x,L):=by
 obtain ⟨N,rfl⟩:∃j,N=j+3:=⟨N - 3,by omega⟩;have fin:∀(b:Bool) (j:Nat),k<=j->bW 20000000 (code,e,(k:Int),b,(j:Int),a,d,g,f,c,x,L)=some (.inr (code,e,b,a,d,g,f,c,x,L)):=λb j h=>by
  unfold bW;simp only [u12,u11,u10,u9,u8,u7,u6,u5,u4,u3,u2];rw [av (by omega)];rfl
 have i:1<k->bW 20000000 (code,e,(k:Int),false,1,a,d,g,f,c,x,L)=some (.inl (code,e,(k:Int),(d8 x).1 != (d4 x).2.2.2.1,2,a,d,g,f,c,x,L)):=λh=>by
  unfold bW;simp only [u12,u11,u10,u9,u8,u7,u6,u5,u4,u3,u2];rw [au (by omega)];rfl
 have l:2<k->∀b,bW 20000000 (code,e,(k:Int),b,2,a,d,g,f,c,x,L)=some (.inl (code,e,(k:Int),b||(d8 x).2 != (d4 x).2.2.2.1,3,a,d,g,f,c,x,L)):=λh b=>by
  unfold bW;simp only [u12,u11,u10,u9,u8,u7,u6,u5,u4,u3,u2];rw [au (by omega)];cases b<;>rfl
 unfold apI;rcases (by omega:k=1\/k=2\/k=3) with rfl | rfl | rfl
 ·rw [show (1:Int)=((1:Nat):Int) from rfl] at *;exact xy (fin false 1 (by omega))
 ·rw [wa (i (by omega))];rw [show (2:Int)=((2:Nat):Int) from rfl];rw [xy (fin _ 2 (by omega))];simp
 ·rw [wa (i (by omega)),wa (l (by omega) _)];rw [show (3:Int)=((3:Nat):Int) from rfl];rw [xy (fin _ 3 (by omega))];simp
theorem SQ (x:TD):1<=coT x/\coT x<=3:=ql _ _
theorem dsT {x:TD} (h:smT x):ap10 (bh 20000000) x=some (seT x,decide (0<seT x)):=ow 20000000 _ _ _ _ _ _ _ _ _ _ h.1
theorem dcoT (x:TD):ap10 (aV 20000000) x=some ((coT x:Nat):Int):=oS 20000000 (by omega) _ _ _ _ _ _ _ _ _ _
theorem U3 {x:TD} (hs:smT x) (hc:cF x=0):0<=x.2.2.2.1/\x.2.2.2.1<=16/\0<=(d4 x).1/\(d4 x).1<=17:=by
 obtain ⟨g,l,dg,e,q,m,d,a,b,c,rfl,ok⟩:=nO hs hc;have h:=ok.x16;have f:=ok.q17;show 0<=(e:Int)/\(e:Int)<=16/\0<=(q:Int)/\(q:Int)<=17;omega
theorem Iu {L:List TD} (f:okDs L) (p:L.length<=1000000) (c:Nat) (i:Nat) {x:TD} (e:L[i]?=some x) {a:Nat} (h:a<2 ^ 62):
  bw 20000000 (L.length,c,((L.length:Nat):Int),(i:Int),(a:Int),L)=some (.inl (L.length,c,((L.length:Nat):Int),((i+1:Nat):Int),((a ||| fxN x:Nat):Int),L)):=by
 obtain ⟨b,rfl⟩:=rP.1 e;obtain ⟨hs,hc⟩:=f _ (EN b);obtain ⟨o,m,n,q⟩:=U3 hs hc;unfold bw;simp only [u6,u5,u4,u3,u2];rw [au (by omega),aj,eu b];simp only [ob,e];generalize L[i]=x at *;have d:aG 20000000 [(1,!((d4 x).2.2.2.1==0&&((d8 x).1==0&&((d8 x).2==0&&true)))),(2,apI (coT x) (d4 x).2.2.2.1 (d8 x).1 (d8 x).2),(4,hasX x.2.2.1||(hasX x.2.2.2.2.2.1||hasX x.2.2.2.2.2.2.1)),(8,x.1||x.2.1),(16,decide (0<x.2.2.2.1)||decide (0<(d4 x).1)),(32,decide (0<seT x)&&decide (seT x<25)),(64,decide (0<seT x)&&decide (seT x>=25))] (a:Int)=some ((a ||| fxN x:Nat):Int):=O5 x h;rw [dsT hs];simp only [u2];rw [dcoT];simp only [PK (show 3<20000000 by omega) (SQ x),u10,u9,u8,u7,u6,u5,u4,u3,u2];rw [fmT hs];simp only [];have j:decide (w64 (x.2.2.2.1+(d4 x).1)>0)=(decide (0<x.2.2.2.1)||decide (0<(d4 x).1)):=by
  rw [show w64 (x.2.2.2.1+(d4 x).1)=x.2.2.2.1+(d4 x).1 from wrap_i64 _ (by omega) (by omega),<-Bool.decide_or];exact nI.2 (by omega)
 rw [j,qP (by omega)];generalize x.1=g at *;generalize x.2.1=l at *;generalize decide (0<seT x)=k at *;cases g<;>cases l<;>cases k<;>simp only [aj,ah,qo,wQ,Bool.or_true,ur,Bool.or_self,FT] at d ⊢<;>rw [d]
def orD (L:List TD) (a:Nat):Nat:=L.foldl (λa x=>a ||| fxN x) a
theorem Hl {L:List TD} (e:okDs L) (f:L.length<=1000000) (c:Nat):∀(r i a:Nat),a<2 ^ 62->i+r=L.length->∀N,r<N->
  aq (bw 20000000) N (L.length,c,((L.length:Nat):Int),(i:Int),(a:Int),L)=some ((orD (L.drop i) a:Nat):Int):=by
 intro r
 induction r with
 | zero=>
  intro i a d hi N g;obtain ⟨N,rfl⟩:∃k,N=k+1:=⟨N - 1,by omega⟩;obtain rfl:i=L.length:=by omega
  rw [rI];refine xy ?_;unfold bw;simp only [u6,u5,u4,u3,u2];rw [av (by omega)];rfl
 | succ r ih=>
  intro i a d hi N g;obtain ⟨N,rfl⟩:∃k,N=k+1:=⟨N - 1,by omega⟩;have b:i<L.length:=by omega
  rw [wa (Iu e f c i (bn b) d),pR b];exact ih (i+1) _ (Av d (Vv _)) (by omega) N (by omega)
def topL (k KF KT:Int):List (Nat×Bool):=[(128,k==2&&(KF != 1||KT != 1)),(256,k==3||k==4)]
def fxE (k:Int) (D:TD) (KF:Int) (DF:TD) (KT:Int) (DT:TD) (I:List TI):Nat:=orD (datE k D KF DF KT DT I) (orL (topL k KF KT) 0)
theorem Vi (u s:Bool):aG 20000000 [(128,u),(256,s)] 0=some ((orL [(128,u),(256,s)] 0:Nat):Int):=
 Tz [(128,u),(256,s)] (by show 2<1000;omega) (by intro p hp;simp only [cf,nD,o7] at hp;rcases hp with rfl | rfl<;>simp) (a:=0) (by decide)
theorem Pi (u s:Bool):orL [(128,u),(256,s)] 0<2 ^ 62:=by cases u<;>cases s<;>decide
theorem UV {k:Int} {D:TD} {KF:Int} {DF:TD} {KT:Int} {DT:TD} {e l:Bool} {I:List TI} (h:RightP k D KF DF KT DT e l I):I.length<=256:=by
 cases h with
 | single=>simp
 | interval=>simp
 | set P=>exact P.most
theorem OV {k:Int} {D:TD} {KF:Int} {DF:TD} {KT:Int} {DT:TD} {e l:Bool} {I:List TI} (h:RightP k D KF DF KT DT e l I):(datE k D KF DF KT DT I).length<=1000000:=by
 have b:=UV h;have a:=CE I;unfold datE
 repeat' split
 all_goals first | omega | simp
theorem Eu {k:Int} {D:TD} {KF:Int} {DF:TD} {KT:Int} {DT:TD} {e l:Bool} {I:List TI} (hs:smE D DF DT I):
  cO 20000000 k D KF DF KT DT e l I=some (if (ee k D KF DF KT DT e l I).2=0 then (((fxE k D KF DF KT DT I:Nat):Int),0) else (0,(ee k D KF DF KT DT e l I).2)):=by
 unfold cO;rw [vc hs];by_cases a:(ee k D KF DF KT DT e l I).2=0
 ·rw [ae a,a];have P:=wl hs a;have c:=N6 (I:=I) (by have:=UV P;omega) k D KF DF KT DT e l;have b:=λ(u s:Bool)=>Hl (Q2 P) (OV P) (datE k D KF DF KT DT I).length (datE k D KF DF KT DT I).length 0 _ (Pi u s) (by omega) 20000000 (by have:=OV P;omega);rw [c];unfold fxE topL;generalize datE k D KF DF KT DT I=L at *;simp only [ch,show ((0:Nat):Int)=0 from rfl] at b;simp only [ob,fj,ah,Vi,u3,u2,b];generalize (k==2)=f;generalize (k==3)=d;generalize (k==4)=g;generalize (KF != 1)=z1;generalize (KT != 1)=z2;cases f<;>cases d<;>cases z1<;>rfl
 ·rw [ab a];simp only [ob];rw [show ((ee k D KF DF KT DT e l I).2 != 0)=true from bne_iff_ne.2 a,aj]
def dayV:TD:=(true,true,[49,50,51,52,53,54,55,56,57,48,49,50,51,52,53,54],0,0,[49,50],[51,49],3,3,2)
def BD:TI:=mkI dayV true dayV
theorem L2:dn 20000000 [37,89,45,49,50,51,52,53,54,55,56,57,48,49,50,51,52,53,54,45,37,49,50,45,126,51,49]=some (1,dayV,0,d0,0,d0,false,false,[]):=by kernel_rfl
theorem Q9:aq (cK 20000000) 20000000 (0,dayV,false,d0,3,d0,0,d0,0,d0,false,false,([]:List TI))=some (3,d0,0,d0,0,d0,false,false,List.replicate 256 BD):=by kernel_rfl
theorem U4:aq (cM 20000000) 20000000 (0,([[50,48,48,52],[50,48,48,52,63],[63,50,48,48,52,45,48,54],[50,48,49,88],[45,50,48,48,52],[49,57,53,48,83,50],[50,48,48,52,45,50,52],[50,48,48,52,45,50,53],[50,48,48,52,47,46,46],[91,50,48,48,52,93],[89,49,69,53],[50,88,48,52],[50,48,48,52,45,48,54,45,48,49,47,50,48,48,53]]:List (aa)),([0,1,3,4,8,16,32,64,128,256,24,4,0]:List (Int)),([0,1,2,1,1,2,1,2,1,2,2,2,0]:List (Int)))=some (.inr ()):=by kernel_rfl
theorem Aq:smT dayV:=⟨by decide,by decide,by decide,by decide,by decide,by decide⟩
theorem MF:smI BD:=⟨Aq,Aq⟩
theorem MH:itI BD false=0:=by
 have h:=y7 (x:=dayV) (y:=dayV) true Aq Aq 3;have a:eY 20000000 dayV true dayV 3=some 0:=by kernel_rfl
 rw [a,ae (.inl rfl)] at h;exact (ba h).symm
theorem Jf:(ee 3 d0 0 d0 0 d0 false false (List.replicate 256 BD)).2=0:=by
 have c:eqD d0 d0=true:=mA.2 rfl;have b:unuB 3 d0 0 d0 0 d0 false false (List.replicate 256 BD).length=false:=by unfold unuB;rw [c];rfl
 unfold ee;rw [ab (by omega),b,ab (by simp),ab (by omega),ab (by omega),ab (by simp),ab (by simp)];unfold vu;rw [ym λi t a=>?_];have:=On (f7 a);subst this;unfold errI;rw [show ((3:Int)==4)=false from rfl,MH];simp
theorem Pe:fxN dayV=11:=by kernel_rfl
theorem IP (y:TD):∀(n a:Nat),orD (List.replicate n y) a=if n=0 then a else a ||| fxN y
 | 0,a=>rfl
 | n+1,a=>by
  rw [ab (by omega)];show orD (List.replicate n y) (a ||| fxN y)=_;rw [IP y n];split
  ·rfl
  ·rw [xn,Nat.or_self]
theorem Oj:∀n,(List.replicate n BD).flatMap datI=List.replicate (2*n) dayV
 | 0=>rfl
 | n+1=>by
  rw [nA,na,Oj n,show 2*(n+1)=2*n+1+1 by omega,nA,nA];rfl
theorem fx_V:fxE 3 d0 0 d0 0 d0 (List.replicate 256 BD)=267:=by
 unfold fxE datE;rw [ab (by omega),ab (by omega),ae (.inl rfl),Oj,IP,ab (show ¬2*256=0 by omega),Pe];decide
theorem I7 {A B:Type} (a:A) (f:A->Option B):ob (some a) f=f a:=rfl
theorem SR {A B C:Type} (a:B) (f:A->Option C) (g:B->Option C):obs (some (.inr a)) f g=g a:=rfl
theorem Qz (R:List TI) (a:aq (cM 20000000) 20000000 (0,([[50,48,48,52],[50,48,48,52,63],[63,50,48,48,52,45,48,54],[50,48,49,88],[45,50,48,48,52],[49,57,53,48,83,50],[50,48,48,52,45,50,52],[50,48,48,52,45,50,53],[50,48,48,52,47,46,46],[91,50,48,48,52,93],[89,49,69,53],[50,88,48,52],[50,48,48,52,45,48,54,45,48,49,47,50,48,48,53]]:List (aa)),([0,1,3,4,8,16,32,64,128,256,24,4,0]:List (Int)),([0,1,2,1,1,2,1,2,1,2,2,2,0]:List (Int)))=some (.inr ())) (c:dn 20000000 [37,89,45,49,50,51,52,53,54,55,56,57,48,49,50,51,52,53,54,45,37,49,50,45,126,51,49]=some (1,dayV,0,d0,0,d0,false,false,[])) (d:aq (cK 20000000) 20000000 (0,dayV,false,d0,3,d0,0,d0,0,d0,false,false,([]:List TI))=some (3,d0,0,d0,0,d0,false,false,R))
  (b:gk 20000000 3 d0 0 d0 0 d0 false false R=some (2,0)) (e:cO 20000000 3 d0 0 d0 0 d0 false false R=some (267,0)) (f:gQ 20000000=some true):dF 20000000=some true:=by
 unfold dF;generalize aq (cM 20000000) 20000000=A at *;generalize dn 20000000=B at *;generalize aq (cK 20000000) 20000000=C at *;generalize gk 20000000=F at *;generalize cO 20000000=G at *;generalize gQ 20000000=V at *;generalize dayV=X at *;rw [a,c,SR,I7];simp only [u9,u8,u7,u6,u5,u4,u3,u2];rw [d,I7];simp only [u9,u8,u7,u6,u5,u4,u3,u2];rw [b,I7];simp only [u2];rw [e,I7];simp only [u2,um,aj];rw [f,I7]
theorem xM:dF 20000000=some true:=by
 have hs:smE d0 d0 d0 (List.replicate 256 BD):=⟨ot,ot,ot,λt c=>by rw [On c];exact MF⟩;have a:=MP (k:=3) (D:=d0) (KF:=0) (DF:=d0) (KT:=0) (DT:=d0) (e:=false) (l:=false) hs;have b:=Eu (k:=3) (D:=d0) (KF:=0) (DF:=d0) (KT:=0) (DT:=d0) (e:=false) (l:=false) hs;rw [ae Jf] at a b;rw [fx_V] at b;rw [IW (.inl rfl)] at a;exact Qz _ U4 L2 Q9 a b LG
end Go.Sh
