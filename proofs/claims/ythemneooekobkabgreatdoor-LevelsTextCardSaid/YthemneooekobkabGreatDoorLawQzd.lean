
/- Plain proofs, kept as far as they are needed here (printed by prune.py).
   Conditions: none. -/
import Derived.Test.YthemneooekobkabGreatDoorLawQzc
set_option linter.unusedVariables false
set_option linter.unusedSimpArgs false
set_option maxRecDepth 100000
namespace Go.Sh
open Go.Abs
theorem Rm:sG 2 d0=0/\sG 3 d0=0:=⟨by kernel_rfl,by kernel_rfl⟩
theorem yu {S:aa} {p:Nat} (hp:p<=S.length) {KF:Int} {DF:TD} {lv:Int} (g:KF=1->cF DF=0/\exT DF=true) {KT:Int} {DT:TD} {L:Int} (d:toX S p KF DF lv=.inr (KT,DT,L)):smT DT/\ot KF DF KT DT=0:=by
 unfold toX at d;cases c:toP S p KF DF lv with
 | inl f=>rw [c] at d;cases d
 | inr q=>
  obtain ⟨k,i,l,q⟩:=q;rw [c] at d;simp only [] at d;split at d
  ·cases d
  ·rename_i j;have d:=lc d;simp only [ba] at d;obtain ⟨rfl,rfl,rfl⟩:=d;refine ⟨(UD hp c).2,?_⟩;unfold toP at c;split at c
   ·rename_i hc;have c:=lc c;simp only [ba] at c;obtain ⟨rfl,rfl,_,_⟩:=c;obtain ⟨rfl,_⟩:=hc;obtain ⟨a,b⟩:=g rfl;rw [KZ (AH a b) Rm.2];simp
   ·split at c
    ·rename_i hc;have c:=lc c;simp only [ba] at c;obtain ⟨rfl,rfl,_,_⟩:=c;obtain ⟨rfl,_⟩:=hc;obtain ⟨a,b⟩:=g rfl;rw [KZ (AH a b) Rm.1];simp
    ·cases h:cv S p with
     | inl f=>rw [h] at c;cases c
     | inr r=>
      rw [h] at c;simp only [] at c;split at c
      ·split at c
       ·rename_i e;have c:=lc c;simp only [ba] at c;obtain ⟨rfl,rfl,_,rfl⟩:=c;rcases e with e | e
        ·exact absurd e j
        ·exact e
       ·cases c
      ·cases c
theorem FX {S:aa} {p:Nat} (h:p<=S.length) {KF:Int} {DF:TD} {lv:Int} {f:Nat×Nat} (a:toX S p KF DF lv=.inl f):f.2≠0:=by
 unfold toX at a;cases b:toP S p KF DF lv with
 | inl g=>rw [b] at a;cases a;exact BB h b
 | inr q=>
  rw [b] at a;simp only [] at a;split at a
  ·cases a;simp
  ·cases a
theorem FA (S:aa):U5 (ij S):=by
 unfold ij;split
 ·unfold yk;cases c:pp S 0 with
  | inl f=>exact xu (ft _) c
  | inr q=>
   obtain ⟨K,e,l,I,p⟩:=q;by_cases hp:p<S.length
   ·simp only [ae hp];show (5:Nat)≠0;omega
   ·simp only [ab hp];have ok:=Qf (ft _) c;exact ⟨.set (wA ok.kind (show (fR K d0 0 d0 0 d0 e l I).2=0 from ok.ok)) ok.sm,ok.kind⟩
 ·split
  ·rename_i h;have hp:1<=S.length:=dW (S:=S) (p:=0) (by rw [bV];exact h);cases c:toX S 1 3 d0 0 with
   | inl f=>exact FX hp c
   | inr q=>
    obtain ⟨KT,DT,L⟩:=q;obtain ⟨a,b⟩:=yu hp (λh=>by omega) c;exact ⟨.interval nR a b,.inr rfl⟩
  ·split
   ·split
    ·rename_i h;have hp:3<=S.length:=dW h;cases c:toX S 3 2 d0 0 with
     | inl f=>exact FX hp c
     | inr q=>
      obtain ⟨KT,DT,L⟩:=q;obtain ⟨a,b⟩:=yu hp (λh=>by omega) c;exact ⟨.interval nR a b,.inr rfl⟩
    ·show (5:Nat)≠0;omega
   ·cases c:cv S 0 with
    | inl f=>exact n7 (ft _) c
    | inr r=>
     obtain ⟨g,d,_,_⟩:=ip (ft _) c;simp only [];split
     ·rename_i h;have hp:enR r+1<=S.length:=dW h;split
      ·rename_i hx;cases i:toX S (enR r+1) 1 (tdR r) (lvR S 0 r) with
       | inl f=>exact FX hp i
       | inr q=>
        obtain ⟨KT,DT,L⟩:=q;obtain ⟨a,b⟩:=yu hp (λ_=>⟨d,hx⟩) i;exact ⟨.interval g a b,.inr rfl⟩
      ·show (11:Nat)≠0;omega
     ·split
      ·show (5:Nat)≠0;omega
      ·exact ⟨.single g d,.inl rfl⟩
theorem GO {S:aa} {a:Nat} (h:a<=S.length) {r:DR} (e:cv S a=.inr r):a<enR r:=by
 obtain ⟨A,B,u,k,_,_,_,_,c,_,_⟩:=uO h e;rcases aH a (enR r) with b | b
 ·exact b
 ·have d:=c.eq;rw [Nat.sub_eq_zero_of_le b,lT] at d;exact absurd (List.append_eq_nil_iff.1 d.symm).1 c.ne
theorem MD {S:aa} {j:UInt8} {p:Nat} (h:p<=S.length) {t:TI} {a e:Nat} (b:lL S j p=.inr (t,a,e)):p<e:=by
 unfold lL at b;cases c:cv S p with
 | inl f=>rw [c] at b;cases b
 | inr r=>
  have l:=GO h c;rw [c] at b;simp only [] at b;split at b
  ·rename_i g;have i:=lw g.1;cases d:cv S (enR r+2) with
   | inl f=>rw [d] at b;cases b
   | inr m=>
    have k:=GO (by omega) d;rw [d] at b;have b:=lc b;simp only [ba] at b;omega
  ·have b:=lc b;simp only [ba] at b;omega
theorem zE {S:aa} {i:UInt8}:∀(r p:Nat) (P:List Nat) (I:List TI),p<=S.length->∀{b:Nat} {g:List Nat} {d:List TI},kI S i r p P I=.inr (b,g,d)->
  2*d.length+p<=2*I.length+b+1/\b<=S.length
 | 0,p,P,I,_,b,g,d,e=>by cases e
 | r+1,p,P,I,h,b,g,d,e=>by
  rw [kI] at e;cases c:lL S i p with
  | inl f=>rw [c] at e;cases e
  | inr q=>
   obtain ⟨t,a,n⟩:=q;have o:=MD h c;obtain ⟨_,_,j⟩:=uo h c;rw [c] at e;simp only [] at e;split at e
   ·rename_i l;obtain ⟨m,k⟩:=zE r (n+1) (P++[a]) (I++[t]) (dW l) e;rw [bg,Bi] at m;exact ⟨by omega,k⟩
   ·have e:=lc e;simp only [ba] at e;obtain ⟨rfl,_,rfl⟩:=e;rw [bg,Bi];exact ⟨by omega,j⟩
theorem NN {S:aa} {K:Int} {e l:Bool} {I:List TI} {p:Nat} (a:pp S 0=.inr (K,e,l,I,p)):2*I.length<=S.length+1:=by
 have b:∀g:Int,1<=S.length->tP S 0 g=.inr (K,e,l,I,p)->2*I.length<=S.length+1:=by
  intro g i a;unfold tP at a;have hp:(if dts (S.drop (0+1)) then 0+3 else 0+1:Nat)<=S.length:=by
   split
   ·rename_i h;have:=lw h;omega
   ·exact i
  have j:1<=(if dts (S.drop (0+1)) then 0+3 else 0+1:Nat):=by split<;>omega
  cases c:kI S (endC g) 256 (if dts (S.drop (0+1)) then 0+3 else 0+1) [] [] with
  | inl f=>rw [c] at a;cases a
  | inr q=>
   obtain ⟨d,P,J⟩:=q;obtain ⟨k,n⟩:=zE 256 _ [] [] hp c;rw [c] at a;simp only [] at a;unfold endL at a;generalize (if dts (S.drop d) then d+2 else d:Nat)=m at a;split at a
   ·split at a
    ·have a:=lc a;simp only [ba] at a;obtain ⟨_,_,_,rfl,_⟩:=a;rw [bz] at k;omega
    ·cases a
   ·cases a
 unfold pp at a;split at a
 ·rename_i c;exact b 3 (dW c) a
 ·split at a
  ·rename_i c;exact b 4 (dW c) a
  ·cases a
def W0 (y:(Nat×Nat)⊕(Int×TD×Int×TD×Int×TD×Int)⊕(Int×Bool×Bool×List TI)):Prop:=match y with
 | .inl f=>True
 | .inr (.inl (K,D,KF,DF,KT,DT,L))=>lvE K D KF DF KT DT<=L
 | .inr (.inr (K,e,l,I))=>I.length<=150
theorem Qx {a b:Int}:a<=mx a b/\b<=mx a b:=by unfold mx;split<;>omega
theorem ya {S:aa} {p:Nat} (hp:p<=S.length) {KF:Int} {DF:TD} {lv:Int} {KT:Int} {DT:TD} {L:Int} (d:toX S p KF DF lv=.inr (KT,DT,L)):(if KT=1 then lvX DT else 1)<=L/\(KF=1->lv<=L)/\(KF≠1->1<=L):=by
 unfold toX at d;cases c:toP S p KF DF lv with
 | inl f=>rw [c] at d;cases d
 | inr q=>
  obtain ⟨j,i,m,q⟩:=q;rw [c] at d;simp only [] at d;split at d
  ·cases d
  ·have d:=lc d;simp only [ba] at d;obtain ⟨rfl,rfl,rfl⟩:=d;unfold toP at c;split at c
   ·rename_i hc;have c:=lc c;simp only [ba] at c;obtain ⟨rfl,rfl,rfl,_⟩:=c;have:=Qx (a:=1) (b:=lv);rw [ab (by omega)];exact ⟨this.1,λ_=>this.2,λ_=>this.1⟩
   ·split at c
    ·rename_i hc;have c:=lc c;simp only [ba] at c;obtain ⟨rfl,rfl,rfl,_⟩:=c;have:=Qx (a:=1) (b:=lv);rw [ab (by omega)];exact ⟨this.1,λ_=>this.2,λ_=>this.1⟩
    ·cases g:cv S p with
     | inl f=>rw [g] at c;cases c
     | inr r=>
      have k:=Ix hp g;rw [g] at c;simp only [] at c;split at c
      ·split at c
       ·have c:=lc c;simp only [ba] at c;obtain ⟨rfl,rfl,rfl,rfl⟩:=c;have e:=Qx (a:=lvR S p r) (b:=if KF=1 then lv else mx 1 lv);have l:=Qx (a:=1) (b:=lv);rw [ae rfl];refine ⟨by omega,λh=>?_,λh=>?_⟩
        ·rw [ae h] at e ⊢;exact e.2
        ·rw [ab h] at e ⊢;omega
       ·cases c
      ·cases c
theorem Yw (D:TD) (KF:Int) (DF:TD) (KT:Int) (DT:TD):lvE 1 D KF DF KT DT=lvX D:=by unfold lvE;rw [ae rfl]
theorem Tq (D:TD) (KF:Int) (DF:TD) (KT:Int) (DT:TD):lvE 2 D KF DF KT DT=mx (if KT=1 then lvX DT else 1) (if KF=1 then lvX DF else 1):=by unfold lvE;rw [ab (by omega),ae rfl]
theorem fS9 {S:aa} (j:S.length<=300):W0 (ij S):=by
 unfold ij;split
 ·unfold yk;cases d:pp S 0 with
  | inl f=>trivial
  | inr q=>
   obtain ⟨K,e,l,I,p⟩:=q;by_cases hp:p<S.length
   ·simp only [ae hp];trivial
   ·simp only [ab hp];have:=NN d;show I.length<=150;omega
 ·split
  ·rename_i h;have hp:1<=S.length:=dW (S:=S) (p:=0) (by rw [bV];exact h);cases d:toX S 1 3 d0 0 with
   | inl f=>trivial
   | inr q=>
    obtain ⟨KT,DT,L⟩:=q;obtain ⟨a,b,c⟩:=ya hp d;show lvE 2 d0 3 d0 KT DT<=L;rw [Tq];have:=c (by omega);generalize (if KT=1 then lvX DT else 1)=z at a ⊢;unfold mx;rw [ab (show ¬(3:Int)=1 by omega)];split<;>omega
  ·split
   ·split
    ·rename_i h;have hp:3<=S.length:=dW h;cases d:toX S 3 2 d0 0 with
     | inl f=>trivial
     | inr q=>
      obtain ⟨KT,DT,L⟩:=q;obtain ⟨a,b,c⟩:=ya hp d;show lvE 2 d0 2 d0 KT DT<=L;rw [Tq];have:=c (by omega);generalize (if KT=1 then lvX DT else 1)=z at a ⊢;unfold mx;rw [ab (show ¬(2:Int)=1 by omega)];split<;>omega
    ·trivial
   ·cases d:cv S 0 with
    | inl f=>trivial
    | inr r=>
     have g:=Ix (ft _) d;simp only [];split
     ·rename_i h;have hp:enR r+1<=S.length:=dW h;split
      ·cases i:toX S (enR r+1) 1 (tdR r) (lvR S 0 r) with
       | inl f=>trivial
       | inr q=>
        obtain ⟨KT,DT,L⟩:=q;obtain ⟨a,b,c⟩:=ya hp i;show lvE 2 d0 1 (tdR r) KT DT<=L;rw [Tq];have:=b rfl;rw [ae (show (1:Int)=1 from rfl)];generalize (if KT=1 then lvX DT else 1)=z at a ⊢;generalize lvX (tdR r)=z2 at g ⊢;unfold mx;split<;>omega
      ·trivial
     ·split
      ·trivial
      ·show lvE 1 (tdR r) 0 d0 0 d0<=lvR S 0 r;rw [Yw];exact g
def ofX:(Nat×Nat)⊕(Int×TD×Int×TD×Int×TD×Int)⊕(Int×Bool×Bool×List TI)->Int×Int×Int
 | .inl f=>(0,(f.1:Int),(f.2:Int))
 | .inr (.inl (K,D,KF,DF,KT,DT,L))=>(L,0,0)
 | .inr (.inr (K,e,l,I))=>(2,0,0)
theorem xg {S:aa} (a:S.length<=16384):gm 20000000 S=some (ofX (ij S)):=by
 unfold gm;rw [Pq a];generalize ij S=y;rcases y with f | ⟨K,D,KF,DF,KT,DT,L⟩ | ⟨K,e,l,I⟩<;>rfl
theorem KN {S:aa} (d:S.length<=16384) (n:Int):lB 20000000 S n=some (cond ((ofX (ij S)).2.2==0) (decide ((ofX (ij S)).1<=n)) false):=by
 unfold lB;rw [xg d];generalize ofX (ij S)=y;obtain ⟨a,b,c⟩:=y;simp only [ob,u3,u2];cases c==0<;>rfl
theorem P4 {k:Int} {D:TD} {KF:Int} {DF:TD} {KT:Int} {DT:TD} {e l:Bool} {I:List TI} (h:RightP k D KF DF KT DT e l I):ofX (ij (sJ k D KF DF KT DT e l I))=(lvE k D KF DF KT DT,0,0):=by
 rw [Gs h];unfold exOf;by_cases a:k=1\/k=2
 ·rw [ae a];rfl
 ·rw [ab a];show ((2:Int),(0:Int),(0:Int))=_;unfold lvE;rw [ab (by omega),ab (by omega)]
theorem F8 {k:Int} (a:yR k) (D:TD) (KF:Int) (DF:TD) (KT:Int) (DT:TD):lvE k D KF DF KT DT=2:=by
 have a:k=3\/k=4:=a;unfold lvE;rw [ab (by omega),ab (by omega)]
theorem FH {k:Int} {D:TD} {KF:Int} {DF:TD} {KT:Int} {DT:TD} {e l:Bool} {I:List TI} (h:RightP k D KF DF KT DT e l I) (a:¬yR k):(sJ k D KF DF KT DT e l I).length<=16384:=by
 cases h with
 | single hs hc=>exact zD (.single hs hc) (by simp)
 | interval hx hy hp=>exact zD (.interval hx hy hp) (by simp)
 | set P hs=>exact absurd P.kind a
theorem Pj {k:Int} {D:TD} {KF:Int} {DF:TD} {KT:Int} {DT:TD} {e l:Bool} {I:List TI} (hs:smE D DF DT I):
  ju 20000000 k D KF DF KT DT e l I=some (if (fR k D KF DF KT DT e l I).2=0 then (lvE k D KF DF KT DT,0) else (0,(fR k D KF DF KT DT e l I).2)):=by
 unfold ju;rw [BM hs];by_cases b:(fR k D KF DF KT DT e l I).2=0
 ·rw [ae b,b];have P:=Cj hs b;simp only [ob,dF,af];by_cases a:yR k
  ·rw [F8 a];rcases a with rfl | rfl<;>rfl
  ·have c:(k==3)=false:=aK.2 λh=>a (.inl h);have d:(k==4)=false:=aK.2 λh=>a (.inr h);have f:=FH P a;rw [c,d,af,af,EM P];simp only [u2];rw [xg f,P4 P]
 ·rw [ab b];simp only [ob];rw [show ((fR k D KF DF KT DT e l I).2 != 0)=true from ye.2 b,ah]
theorem ze {k:Int} {D:TD} {KF:Int} {DF:TD} {KT:Int} {DT:TD} {e l:Bool} {I:List TI} (h:RightP k D KF DF KT DT e l I):
  ju 20000000 k D KF DF KT DT e l I=some (lvE k D KF DF KT DT,0):=by
 rw [Pj (Wg h),ae (IB h)]
theorem OF {L:List TD} (h:okDs L) (j:L.length<=1000000):∀(r i:Nat) (w:Int),i+r=L.length->∀N,r<N->
  ar (bO 20000000) N (w,(i:Int),L)=some (mxL w (L.drop i)):=by
 intro r
 induction r with
 | zero=>
  intro i w hi N g;obtain ⟨N,rfl⟩:∃k,N=k+1:=⟨N - 1,by omega⟩;obtain rfl:i=L.length:=by omega
  have:bO 20000000 (w,((L.length:Nat):Int),L)=some (.inr w):=by
   unfold bO;simp only [u3,u2];rw [aq (show ¬((L.length:Nat):Int)<len L by show ¬((L.length:Nat):Int)<((L.length:Nat):Int);omega)];rfl
  rw [ar,this,sT];rfl
 | succ r ih=>
  intro i w hi N g;obtain ⟨N,rfl⟩:∃k,N=k+1:=⟨N - 1,by omega⟩;have a:i<L.length:=by omega
  have e:L[i]?=some L[i]:=bf a;obtain ⟨c,b⟩:=h _ (Ig a);have d:L.drop i=L[i]::L.drop (i+1):=qE a;generalize L[i]=x at e c b d;have:bO 20000000 (w,(i:Int),L)=some (.inl (mx (lvX x) w,((i+1:Nat):Int),L)):=by
   unfold bO;simp only [u3,u2];rw [am (show (i:Int)<len L by show (i:Int)<((L.length:Nat):Int);omega),dZ a];have f:ap10 (fV 20000000) x=some (ga x):=rfT c b;simp only [ah,ob,e,f,(TY c b).2];rw [rc (by omega),MS]
  rw [ar,this];simp only [];rw [ih (i+1) _ (by omega) N (by omega),d];simp only [mxL,List.foldl]
theorem wR {k:Int} {D:TD} {KF:Int} {DF:TD} {KT:Int} {DT:TD} {e l:Bool} {I:List TI} (h:RightP k D KF DF KT DT e l I) (r:I.length<=300):
  iY 20000000 k D KF DF KT DT e l I=some (lvE k D KF DF KT DT):=by
 have o:=FW (I:=I) (by omega) k D KF DF KT DT e l;have a:=TW h;have q:=xX I;have g:=Sr h;unfold iY;by_cases b:yR k
 ·rw [F8 b];rcases b with rfl | rfl<;>rfl
 ·have m:(k==3)=false:=aK.2 λh=>b (.inl h);have n:(k==4)=false:=aK.2 λh=>b (.inr h);have p:(datE k D KF DF KT DT I).length<=1000000:=by
   have i:k=1\/k=2:=by
    cases h with
    | single=>exact .inl rfl
    | interval=>exact .inr rfl
    | set P=>exact absurd P.kind b
   obtain ⟨_,_,rfl⟩:=few h i;have:=JG k D KF DF KT DT (I:=[]) (by simp);omega
  rw [m,n,af,af,o];have j:=λ(w:Int)=>OF g p (datE k D KF DF KT DT I).length 0 w (by omega) 20000000 (by omega);generalize datE k D KF DF KT DT I=d at *;generalize lvE k D KF DF KT DT=v at *;simp only [bV,show ((0:Nat):Int)=0 from rfl] at j;simp only [ob,j];cases h with
  | single hs hc=>
   have a:mxL 0 d=v:=by rw [<-a];rfl
   rw [show ((1:Int)==2)=false from rfl,af,a]
  | interval hx hy hp=>
   rw [show ((2:Int)==2)=true from rfl,ah];by_cases c:KF=1
   ·by_cases f:KT=1
    ·have a:mxL 0 d=v:=by rw [<-a];unfold Ew;rw [ab (by omega),ab (by omega)]
     rw [a];simp [c,f]
    ·have a:mxL 1 d=v:=by rw [<-a];unfold Ew;rw [ab (by omega),ae ⟨rfl,.inr f⟩]
     rw [a,show (KT != 1)=true from ye.2 f];simp [c]
   ·have a:mxL 1 d=v:=by rw [<-a];unfold Ew;rw [ab (by omega),ae ⟨rfl,.inl c⟩]
    rw [a,show (KF != 1)=true from ye.2 c];simp
  | set P=>exact absurd P.kind b
theorem PR:eZ 20000000=some true:=by kernel_rfl
theorem Az (S:aa) (n:Int):gq 20000000 S n=some true:=by
 unfold gq;rw [PR];by_cases p:300<S.length
 ·rw [show decide (len S>300)=true from am (by show (300:Int)<((S.length:Nat):Int);omega)];rfl
 rw [show decide (len S>300)=false from aq (by show ¬(300:Int)<((S.length:Nat):Int);omega),af];have m:=Jx (S:=S) (by omega);have k:=xg (S:=S) (by omega);have i:=KN (S:=S) (by omega) n;have c:=FA S;have a:=fS9 (S:=S) (by omega);generalize hy:ij S=y at *;rw [m,k,i];rcases y with f | ⟨K,D,KF,DF,KT,DT,L⟩ | ⟨K,e,l,I⟩
 ·have c:f.2≠0:=c;have j:(((f.2:Nat):Int) != 0)=true:=ye.2 (by omega);have o:(((f.2:Nat):Int)==0)=false:=aK.2 (by omega);simp only [Px,ofX,ob,u12,u11,u10,u9,u8,u7,u6,u5,u4,u3,u2,dF,af,j,o,ah,rh,ci]
 ·obtain ⟨P,h⟩:=c;have a:lvE K D KF DF KT DT<=L:=a;have b:=ze P;have d:=wR P (by simp);generalize lvE K D KF DF KT DT=v at *;simp only [Px,ofX,ob,u12,u11,u10,u9,u8,u7,u6,u5,u4,u3,u2,dF,af,rh,ah,ci,b,d];simp [a];by_cases g:L<=n<;>simp [g]
 ·obtain ⟨P,h⟩:=c;have a:I.length<=150:=a;have b:=ze P;have d:=wR P (by omega);rw [F8 h] at b d;simp only [Px,ofX,ob,u12,u11,u10,u9,u8,u7,u6,u5,u4,u3,u2,dF,af,rh,ah,ci,b,d];simp;by_cases g:2<=n<;>simp [g]
end Go.Sh
