
/- Plain proofs, kept as far as they are needed here (printed by prune.py).
   Conditions: none. -/
import Derived.Test.YthemneooekobkabGreatDoorLawQzc
set_option linter.unusedVariables false
set_option linter.unusedSimpArgs false
set_option maxRecDepth 100000
namespace Go.Sh
open Go.Abs
theorem Rj:sD 2 d0=0/\sD 3 d0=0:=⟨by kernel_rfl,by kernel_rfl⟩
theorem wH {S:aa} {p:Nat} (hp:p<=S.length) {KF:Int} {DF:TD} {lv:Int} (g:KF=1->cF DF=0/\exT DF=true) {KT:Int} {DT:TD} {L:Int} (d:toX S p KF DF lv=.inr (KT,DT,L)):smT DT/\ot KF DF KT DT=0:=by
 unfold toX at d;cases c:toP S p KF DF lv with
 | inl f=>rw [c] at d;cases d
 | inr q=>
  obtain ⟨j,i,l,q⟩:=q;rw [c] at d;simp only [] at d;split at d
  ·cases d
  ·rename_i k;have d:=ll d;simp only [aY] at d;obtain ⟨rfl,rfl,rfl⟩:=d;refine ⟨(Uo hp c).2,?_⟩;unfold toP at c;split at c
   ·rename_i hc;have c:=ll c;simp only [aY] at c;obtain ⟨rfl,rfl,_,_⟩:=c;obtain ⟨rfl,_⟩:=hc;obtain ⟨a,b⟩:=g rfl;rw [Jy (BH a b) Rj.2];simp
   ·split at c
    ·rename_i hc;have c:=ll c;simp only [aY] at c;obtain ⟨rfl,rfl,_,_⟩:=c;obtain ⟨rfl,_⟩:=hc;obtain ⟨a,b⟩:=g rfl;rw [Jy (BH a b) Rj.1];simp
    ·cases h:ct S p with
     | inl f=>rw [h] at c;cases c
     | inr r=>
      rw [h] at c;simp only [] at c;split at c
      ·split at c
       ·rename_i e;have c:=ll c;simp only [aY] at c;obtain ⟨rfl,rfl,_,rfl⟩:=c;rcases e with e | e
        ·exact absurd e k
        ·exact e
       ·cases c
      ·cases c
theorem F5 {S:aa} {p:Nat} (h:p<=S.length) {KF:Int} {DF:TD} {lv:Int} {f:Nat×Nat} (a:toX S p KF DF lv=.inl f):f.2≠0:=by
 unfold toX at a;cases b:toP S p KF DF lv with
 | inl g=>rw [b] at a;cases a;exact A8 h b
 | inr q=>
  rw [b] at a;simp only [] at a;split at a
  ·cases a;simp
  ·cases a
theorem xX (S:aa):Q7 (iu S):=by
 unfold iu;split
 ·unfold yC;cases c:pq S 0 with
  | inl f=>exact wy (fU _) c
  | inr q=>
   obtain ⟨K,e,l,I,p⟩:=q;by_cases hp:p<S.length
   ·simp only [ae hp];show (5:Nat)≠0;omega
   ·simp only [ab hp];have ok:=PU (fU _) c;exact ⟨.set (xu ok.kind (show (ia K d0 0 d0 0 d0 e l I).2=0 from ok.ok)) ok.sm,ok.kind⟩
 ·split
  ·rename_i h;have hp:1<=S.length:=dV (S:=S) (p:=0) (by rw [cf];exact h);cases c:toX S 1 3 d0 0 with
   | inl f=>exact F5 hp c
   | inr q=>
    obtain ⟨KT,DT,L⟩:=q;obtain ⟨a,b⟩:=wH hp (λh=>by omega) c;exact ⟨.interval nS a b,.inr rfl⟩
  ·split
   ·split
    ·rename_i h;have hp:3<=S.length:=dV h;cases c:toX S 3 2 d0 0 with
     | inl f=>exact F5 hp c
     | inr q=>
      obtain ⟨KT,DT,L⟩:=q;obtain ⟨a,b⟩:=wH hp (λh=>by omega) c;exact ⟨.interval nS a b,.inr rfl⟩
    ·show (5:Nat)≠0;omega
   ·cases c:ct S 0 with
    | inl f=>exact oi (fU _) c
    | inr r=>
     obtain ⟨g,i,_,_⟩:=iQ (fU _) c;simp only [];split
     ·rename_i h;have hp:enR r+1<=S.length:=dV h;split
      ·rename_i hx;cases d:toX S (enR r+1) 1 (tdR r) (lvR S 0 r) with
       | inl f=>exact F5 hp d
       | inr q=>
        obtain ⟨KT,DT,L⟩:=q;obtain ⟨a,b⟩:=wH hp (λ_=>⟨i,hx⟩) d;exact ⟨.interval g a b,.inr rfl⟩
      ·show (11:Nat)≠0;omega
     ·split
      ·show (5:Nat)≠0;omega
      ·exact ⟨.single g i,.inl rfl⟩
theorem TV {S:aa} (a:S.length<=16384):bg 20000000 S=some (canX (iu S)):=rE a (xX S)
theorem GX {S:aa} {a:Nat} (h:a<=S.length) {r:DR} (e:ct S a=.inr r):a<enR r:=by
 obtain ⟨A,B,u,k,_,_,_,_,c,_,_⟩:=xJ h e;rcases aG a (enR r) with b | b
 ·exact b
 ·have d:=c.eq;rw [Nat.sub_eq_zero_of_le b,lX] at d;exact absurd (List.append_eq_nil_iff.1 d.symm).1 c.ne
theorem Me {S:aa} {g:UInt8} {p:Nat} (h:p<=S.length) {t:TI} {a e:Nat} (b:lM S g p=.inr (t,a,e)):p<e:=by
 unfold lM at b;cases d:ct S p with
 | inl f=>rw [d] at b;cases b
 | inr r=>
  have m:=GX h d;rw [d] at b;simp only [] at b;split at b
  ·rename_i j;have i:=kZ j.1;cases c:ct S (enR r+2) with
   | inl f=>rw [c] at b;cases b
   | inr k=>
    have l:=GX (by omega) c;rw [c] at b;have b:=ll b;simp only [aY] at b;omega
  ·have b:=ll b;simp only [aY] at b;omega
theorem zY {S:aa} {i:UInt8}:∀(r p:Nat) (P:List Nat) (I:List TI),p<=S.length->∀{b:Nat} {g:List Nat} {c:List TI},kO S i r p P I=.inr (b,g,c)->
  2*c.length+p<=2*I.length+b+1/\b<=S.length
 | 0,p,P,I,_,b,g,c,e=>by cases e
 | r+1,p,P,I,h,b,g,c,e=>by
  rw [kO] at e;cases d:lM S i p with
  | inl f=>rw [d] at e;cases e
  | inr q=>
   obtain ⟨t,a,l⟩:=q;have o:=Me h d;obtain ⟨_,_,m⟩:=ut h d;rw [d] at e;simp only [] at e;split at e
   ·rename_i j;obtain ⟨k,n⟩:=zY r (l+1) (P++[a]) (I++[t]) (dV j) e;rw [aU,Br] at k;exact ⟨by omega,n⟩
   ·have e:=ll e;simp only [aY] at e;obtain ⟨rfl,_,rfl⟩:=e;rw [aU,Br];exact ⟨by omega,m⟩
theorem KJ {S:aa} {K:Int} {e l:Bool} {I:List TI} {p:Nat} (a:pq S 0=.inr (K,e,l,I,p)):2*I.length<=S.length+1:=by
 have b:∀g:Int,1<=S.length->ur S 0 g=.inr (K,e,l,I,p)->2*I.length<=S.length+1:=by
  intro g k a;unfold ur at a;have hp:(if dts (S.drop (0+1)) then 0+3 else 0+1:Nat)<=S.length:=by
   split
   ·rename_i h;have:=kZ h;omega
   ·exact k
  have i:1<=(if dts (S.drop (0+1)) then 0+3 else 0+1:Nat):=by split<;>omega
  cases c:kO S (endC g) 256 (if dts (S.drop (0+1)) then 0+3 else 0+1) [] [] with
  | inl f=>rw [c] at a;cases a
  | inr q=>
   obtain ⟨d,P,J⟩:=q;obtain ⟨j,n⟩:=zY 256 _ [] [] hp c;rw [c] at a;simp only [] at a;unfold endL at a;generalize (if dts (S.drop d) then d+2 else d:Nat)=m at a;split at a
   ·split at a
    ·have a:=ll a;simp only [aY] at a;obtain ⟨_,_,_,rfl,_⟩:=a;rw [aX] at j;omega
    ·cases a
   ·cases a
 unfold pq at a;split at a
 ·rename_i c;exact b 3 (dV c) a
 ·split at a
  ·rename_i c;exact b 4 (dV c) a
  ·cases a
def Xd (y:(Nat×Nat)⊕(Int×TD×Int×TD×Int×TD×Int)⊕(Int×Bool×Bool×List TI)):Prop:=match y with
 | .inl f=>True
 | .inr (.inl (K,D,KF,DF,KT,DT,L))=>lvE K D KF DF KT DT<=L
 | .inr (.inr (K,e,l,I))=>I.length<=150
theorem O0 {a b:Int}:a<=mx a b/\b<=mx a b:=by unfold mx;split<;>omega
theorem xU {S:aa} {p:Nat} (hp:p<=S.length) {KF:Int} {DF:TD} {lv:Int} {KT:Int} {DT:TD} {L:Int} (d:toX S p KF DF lv=.inr (KT,DT,L)):(if KT=1 then lvX DT else 1)<=L/\(KF=1->lv<=L)/\(KF≠1->1<=L):=by
 unfold toX at d;cases c:toP S p KF DF lv with
 | inl f=>rw [c] at d;cases d
 | inr q=>
  obtain ⟨j,i,m,q⟩:=q;rw [c] at d;simp only [] at d;split at d
  ·cases d
  ·have d:=ll d;simp only [aY] at d;obtain ⟨rfl,rfl,rfl⟩:=d;unfold toP at c;split at c
   ·rename_i hc;have c:=ll c;simp only [aY] at c;obtain ⟨rfl,rfl,rfl,_⟩:=c;have:=O0 (a:=1) (b:=lv);rw [ab (by omega)];exact ⟨this.1,λ_=>this.2,λ_=>this.1⟩
   ·split at c
    ·rename_i hc;have c:=ll c;simp only [aY] at c;obtain ⟨rfl,rfl,rfl,_⟩:=c;have:=O0 (a:=1) (b:=lv);rw [ab (by omega)];exact ⟨this.1,λ_=>this.2,λ_=>this.1⟩
    ·cases e:ct S p with
     | inl f=>rw [e] at c;cases c
     | inr r=>
      have k:=GV hp e;rw [e] at c;simp only [] at c;split at c
      ·split at c
       ·have c:=ll c;simp only [aY] at c;obtain ⟨rfl,rfl,rfl,rfl⟩:=c;have g:=O0 (a:=lvR S p r) (b:=if KF=1 then lv else mx 1 lv);have l:=O0 (a:=1) (b:=lv);rw [ae rfl];refine ⟨by omega,λh=>?_,λh=>?_⟩
        ·rw [ae h] at g ⊢;exact g.2
        ·rw [ab h] at g ⊢;omega
       ·cases c
      ·cases c
theorem Ye (D:TD) (KF:Int) (DF:TD) (KT:Int) (DT:TD):lvE 1 D KF DF KT DT=lvX D:=by unfold lvE;rw [ae rfl]
theorem Sj (D:TD) (KF:Int) (DF:TD) (KT:Int) (DT:TD):lvE 2 D KF DF KT DT=mx (if KT=1 then lvX DT else 1) (if KF=1 then lvX DF else 1):=by unfold lvE;rw [ab (by omega),ae rfl]
theorem FX {S:aa} (j:S.length<=300):Xd (iu S):=by
 unfold iu;split
 ·unfold yC;cases d:pq S 0 with
  | inl f=>trivial
  | inr q=>
   obtain ⟨K,e,l,I,p⟩:=q;by_cases hp:p<S.length
   ·simp only [ae hp];trivial
   ·simp only [ab hp];have:=KJ d;show I.length<=150;omega
 ·split
  ·rename_i h;have hp:1<=S.length:=dV (S:=S) (p:=0) (by rw [cf];exact h);cases d:toX S 1 3 d0 0 with
   | inl f=>trivial
   | inr q=>
    obtain ⟨KT,DT,L⟩:=q;obtain ⟨a,b,c⟩:=xU hp d;show lvE 2 d0 3 d0 KT DT<=L;rw [Sj];have:=c (by omega);generalize (if KT=1 then lvX DT else 1)=z at a ⊢;unfold mx;rw [ab (show ¬(3:Int)=1 by omega)];split<;>omega
  ·split
   ·split
    ·rename_i h;have hp:3<=S.length:=dV h;cases d:toX S 3 2 d0 0 with
     | inl f=>trivial
     | inr q=>
      obtain ⟨KT,DT,L⟩:=q;obtain ⟨a,b,c⟩:=xU hp d;show lvE 2 d0 2 d0 KT DT<=L;rw [Sj];have:=c (by omega);generalize (if KT=1 then lvX DT else 1)=z at a ⊢;unfold mx;rw [ab (show ¬(2:Int)=1 by omega)];split<;>omega
    ·trivial
   ·cases d:ct S 0 with
    | inl f=>trivial
    | inr r=>
     have g:=GV (fU _) d;simp only [];split
     ·rename_i h;have hp:enR r+1<=S.length:=dV h;split
      ·cases i:toX S (enR r+1) 1 (tdR r) (lvR S 0 r) with
       | inl f=>trivial
       | inr q=>
        obtain ⟨KT,DT,L⟩:=q;obtain ⟨a,b,c⟩:=xU hp i;show lvE 2 d0 1 (tdR r) KT DT<=L;rw [Sj];have:=b rfl;rw [ae (show (1:Int)=1 from rfl)];generalize (if KT=1 then lvX DT else 1)=z at a ⊢;generalize lvX (tdR r)=z2 at g ⊢;unfold mx;split<;>omega
      ·trivial
     ·split
      ·trivial
      ·show lvE 1 (tdR r) 0 d0 0 d0<=lvR S 0 r;rw [Ye];exact g
theorem D6 {k:Int} {D:TD} {KF:Int} {DF:TD} {KT:Int} {DT:TD} {e l:Bool} {I:List TI} (h:RightP k D KF DF KT DT e l I) (c:I.length<=150):(kH k D KF DF KT DT e l I).length<=16384:=by
 cases h with
 | single hs hc=>exact uQ (.single hs hc) (by simp)
 | interval hx hy hp=>exact uQ (.interval hx hy hp) (by simp)
 | set P hs=>
  have b:=P.kind;unfold kH;rw [ab (by omega),ab (by omega)];have:=rj (I:=I) λt a=>(C5 P hs t a).1;unfold qE;cases e<;>cases l<;>simp<;>omega
theorem A4 {S T:aa} {a b:aa×Int×Int} (d:bg 20000000 S=some a) (c:bg 20000000 T=some b):
  cM 20000000 S T=some (cond (a.2.2==0) (cond (b.2.2==0) (a.1==b.1) false) false):=by
 unfold cM;rw [d,c];simp only [ob,u3,u2];cases a.2.2==0<;>cases b.2.2==0<;>rfl
theorem sE (S:aa):dG 20000000 S=some true:=by
 unfold dG;rw [PS];by_cases g:300<S.length
 ·rw [show decide (len S>300)=true from am (by show (300:Int)<((S.length:Nat):Int);omega)];rfl
 rw [show decide (len S>300)=false from aq (by show ¬(300:Int)<((S.length:Nat):Int);omega),af];have n:=I7 (S:=S) (by omega);have hc:=TV (S:=S) (by omega);have h:=xX S;have d:=FX (S:=S) (by omega);have c:=A4 hc hc;generalize hy:iu S=y at *;rw [n,hc];rcases y with f | ⟨K,D,KF,DF,KT,DT,L⟩ | ⟨K,e,l,I⟩
 ·have h:f.2≠0:=h;have m:(((f.2:Nat):Int) != 0)=true:=bne_iff_ne.2 (by omega);have k:(((f.2:Nat):Int)==0)=false:=aL.2 (by omega);have c:cM 20000000 S S=some false:=c.trans (by
   show some (cond (((f.2:Nat):Int)==0) _ _)=_;rw [k];rfl)
  simp only [Qx,canX,ob,u12,u11,u10,u9,u8,u7,u6,u5,u4,u3,u2,dA,af,m,ah,c,rF,ij]
 ·obtain ⟨P,i⟩:=h;have d:lvE K D KF DF KT DT<=L:=d;have g:(kH K D KF DF KT DT false false []).length<=16384:=uQ P (by simp);have hp:=Bm g;rw [tf P] at hp;have a:=DI P g;have b:=A4 hc a;have j:=vH P;simp only [canX] at c b;simp only [Qx,canX,ob,u12,u11,u10,u9,u8,u7,u6,u5,u4,u3,u2,dA,af,hp,a,j];unfold exOf;rw [ae i];generalize kH K D KF DF KT DT false false []=w at *;generalize lvE K D KF DF KT DT=v at *;simp only [IG,obs,sm,ob,u12,u11,u10,u9,u8,u7,u6,u5,u4,u3,u2,rF,ah,c,b];simp [d]
 ·obtain ⟨P,i⟩:=h;have d:I.length<=150:=d;have g:(kH K d0 0 d0 0 d0 e l I).length<=16384:=D6 P d;have hp:=Bm g;rw [tf P] at hp;have a:=DI P g;have b:=A4 hc a;have j:=vH P;simp only [canX] at c b;simp only [Qx,canX,ob,u12,u11,u10,u9,u8,u7,u6,u5,u4,u3,u2,dA,af,hp,a,j];unfold exOf;rw [ab (by rcases i with rfl | rfl<;>omega)];generalize kH K d0 0 d0 0 d0 e l I=w at *;simp only [IG,obs,sm,ob,u14,u13,u12,u11,u10,u9,u8,u7,u6,u5,u4,u3,u2,rF,ah,c,b];simp
end Go.Sh
