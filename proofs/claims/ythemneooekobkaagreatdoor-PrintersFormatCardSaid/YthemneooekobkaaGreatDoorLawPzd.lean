
/- Plain proofs, kept as far as they are needed here (printed by prune.py).
   Conditions: none. -/
import Derived.Test.YthemneooekobkaaGreatDoorLawPzc
set_option linter.unusedVariables false
set_option linter.unusedSimpArgs false
set_option maxRecDepth 100000
namespace Go.Sh
open Go.Abs
theorem DD {K:Int} {x:TD} (hs:smT x) (h:okB K x):ap10 (il 20000000 K) x=some (kl K x):=by
 rcases h with ⟨rfl,hc,b⟩ | ⟨c,rfl⟩
 ·have a:chkB 1 x.1 x.2.1 x.2.2.1 x.2.2.2.1 x.2.2.2.2.1 x.2.2.2.2.2.1 x.2.2.2.2.2.2.1 x.2.2.2.2.2.2.2.1 x.2.2.2.2.2.2.2.2.1 x.2.2.2.2.2.2.2.2.2=0:=by
   unfold chkB;rw [ae rfl];have hc':chkF x.1 x.2.1 x.2.2.1 x.2.2.2.1 x.2.2.2.2.1 x.2.2.2.2.2.1 x.2.2.2.2.2.2.1 x.2.2.2.2.2.2.2.1 x.2.2.2.2.2.2.2.2.1 x.2.2.2.2.2.2.2.2.2=0:=hc;have he':exD x.2.2.1 x.2.2.2.2.2.1 x.2.2.2.2.2.2.1 x.2.2.2.2.1=true:=b;rw [hc',he'];rfl
  exact Kp hs.1 hs.2.1 hs.2.2.1 hs.2.2.2.1 hs.2.2.2.2.1 hs.2.2.2.2.2 a
 ·rcases c with rfl | rfl<;>rfl
theorem pW {K:Int} {x:TD} (hs:smT x) (h:okB K x):(kl K x).length<=37:=by
 rcases h with ⟨rfl,hc,c⟩ | ⟨b,rfl⟩
 ·have a:kl 1 x=ig x:=by unfold kl;rw [ab (by omega),ab (by omega)]
  rw [a];exact mP hs hc
 ·rcases b with rfl | rfl<;>decide
theorem PQ {k:Int} {D:TD} {KF:Int} {DF:TD} {KT:Int} {DT:TD} {e l:Bool} {I:List TI} (h:RightE k D KF DF KT DT e l I):RightP k D KF DF KT DT e l I:=DO h.sm (by rw [h.first])
theorem JF {k:Int} {D:TD} {KF:Int} {DF:TD} {KT:Int} {DT:TD} {e l:Bool} {I:List TI} (h:RightP k D KF DF KT DT e l I) (d:I.length<=5):(lO k D KF DF KT DT e l I).length<=16384:=by
 cases h with
 | single hs hc=>
  have:=mP hs hc;unfold lO;rw [ae rfl];omega
 | interval hx hy hp=>
  obtain ⟨c,b,_⟩:=qc hp;have g:=pW hx c;have i:=pW hy b;unfold lO;rw [ab (by omega),ae rfl,aO,aC];omega
 | set P hs=>
  have f:=P.kind;unfold lO;rw [ab (by omega),ab (by omega)];have:=uu (I:=I) λt a=>(I5 P hs t a).1;unfold sa;cases e<;>cases l<;>simp<;>omega
theorem few {k:Int} {D:TD} {KF:Int} {DF:TD} {KT:Int} {DT:TD} {e l:Bool} {I:List TI} (h:RightP k D KF DF KT DT e l I) (a:k=1\/k=2):e=false/\l=false/\I=[]:=by
 cases h with
 | single hs hc=>exact ⟨rfl,rfl,rfl⟩
 | interval hx hy hp=>exact ⟨rfl,rfl,rfl⟩
 | set P hs=>have:=P.kind;omega
theorem sets {k:Int} {D:TD} {KF:Int} {DF:TD} {KT:Int} {DT:TD} {e l:Bool} {I:List TI} (h:RightP k D KF DF KT DT e l I) (a:¬(k=1\/k=2)):D=d0/\KF=0/\DF=d0/\KT=0/\DT=d0/\(k=3\/k=4):=by
 cases h with
 | single hs hc=>omega
 | interval hx hy hp=>omega
 | set P hs=>exact ⟨rfl,rfl,rfl,rfl,rfl,P.kind⟩
theorem Vp {K:Int} {x:TD} (h:okB K x):sw K x=0:=by
 rcases h with ⟨rfl,hc,a⟩ | ⟨b,rfl⟩
 ·exact H9 hc a
 ·rcases b with rfl | rfl<;>kernel_rfl
theorem HN {K:Int} {x:TD} (hs:smT x) (h:okB K x):ap10 (ju 20000000 K) x=some (kl K x,0):=by
 have b:chkB K x.1 x.2.1 x.2.2.1 x.2.2.2.1 x.2.2.2.2.1 x.2.2.2.2.2.1 x.2.2.2.2.2.2.1 x.2.2.2.2.2.2.2.1 x.2.2.2.2.2.2.2.2.1 x.2.2.2.2.2.2.2.2.2=0:=Vp h;have:=Vi (K:=K) (g:=x.1) (l:=x.2.1) (x:=x.2.2.2.1) (q:=x.2.2.2.2.1) hs.1 hs.2.1 hs.2.2.1 hs.2.2.2.1 hs.2.2.2.2.1 hs.2.2.2.2.2;rw [ae b] at this;refine this.trans ?_;unfold kl ig;by_cases a:K=2
 ·simp only [a,aM]
 ·simp only [a,aE]
theorem FC {KF:Int} {x:TD} {KT:Int} {y:TD} (hx:smT x) (hy:smT y) (hp:nP KF x KT y=0) (K:Int) (D:TD) (e l:Bool) (I:List TI):
  ir 20000000 K D KF x KT y e l I=some (kl KF x++47::kl KT y,0):=by
 obtain ⟨b,a,_⟩:=qc hp;have c:=pW hx b;have d:=pW hy a;unfold ir;rw [HN hx b,HN hy a];simp only [ob,u2];rw [bQ (by simp only [aC,bh];omega)];simp only [];rw [bQ (by simp only [aO,aC,bh];omega)];simp only [fQ,eK,dS]
theorem P4 {k:Int} {D:TD} {KF:Int} {DF:TD} {KT:Int} {DT:TD} {e l:Bool} {I:List TI} (h:RightP k D KF DF KT DT e l I):(jb k D KF DF KT DT e l I).2=0:=by
 cases h with
 | single hs hc=>rw [(rI hs hc).first]
 | interval hx hy hp=>rw [(pB hx hy hp).first]
 | set P hs=>exact P.set
theorem YT {k:Int} {D:TD} {KF:Int} {DF:TD} {KT:Int} {DT:TD} {e l:Bool} {I:List TI} (h:RightP k D KF DF KT DT e l I):smE D DF DT I:=by
 cases h with
 | single hs hc=>exact ⟨hs,oK,oK,λt a=>by cases a⟩
 | interval hx hy hp=>exact ⟨oK,hx,hy,λt a=>by cases a⟩
 | set P hs=>exact ⟨oK,oK,oK,hs⟩
theorem Oj {k:Int} {D:TD} {KF:Int} {DF:TD} {KT:Int} {DT:TD} {e l:Bool} {I:List TI} (hs:smE D DF DT I):
  eT 20000000 k D KF DF KT DT e l I=some (if (jb k D KF DF KT DT e l I).2=0 then (lO k D KF DF KT DT e l I,0) else ([],(jb k D KF DF KT DT e l I).2)):=by
 unfold eT;rw [Ia hs];by_cases a:(jb k D KF DF KT DT e l I).2=0
 ·rw [ae a,a];have P:=DO hs a;simp only [ob,fC,af,kv];cases P with
  | single hx hc=>
   rw [show ((1:Int)==1)=true from rfl,ah];unfold jp lO;rw [ae rfl,dfT hx hc];simp only [ob,u2]
  | interval hx hy hp=>
   rw [show ((2:Int)==1)=false from rfl,af,show ((2:Int)==2)=true from rfl,ah,FC hx hy hp];unfold lO;rw [ab (by omega),ae rfl]
  | set P hi=>
   have b:=P.kind;have c:=Ud (K:=k) (KF:=0) (KT:=0) (e:=e) (l:=l) hs;rw [ae (show FQ k from b),ae a] at c;rw [c];unfold lO;rw [ab (by rcases b with rfl | rfl<;>omega),ab (by rcases b with rfl | rfl<;>omega)];generalize sa k e l I=w;rcases b with rfl | rfl<;>rfl
 ·rw [ab a];simp only [ob];rw [show ((jb k D KF DF KT DT e l I).2 != 0)=true from bne_iff_ne.2 a,ah]
theorem ua {k:Int} {D:TD} {KF:Int} {DF:TD} {KT:Int} {DT:TD} {e l:Bool} {I:List TI} (h:RightP k D KF DF KT DT e l I):
  eT 20000000 k D KF DF KT DT e l I=some (lO k D KF DF KT DT e l I,0):=by
 rw [Oj (YT h),ae (P4 h)]
theorem Dj {k:Int} {D:TD} {KF:Int} {DF:TD} {KT:Int} {DT:TD} {e l:Bool} {I:List TI} (h:RightP k D KF DF KT DT e l I):eC 20000000 k D KF DF KT DT e l I=some (lO k D KF DF KT DT e l I):=by
 cases h with
 | single hs hc=>
  unfold eC lO;rw [ae rfl,rfT hs hc];rfl
 | interval hx hy hp=>
  obtain ⟨b,a,_⟩:=qc hp;have f:=pW hx b;have i:=pW hy a;unfold eC lO;rw [ab (by omega),ae rfl,DD hx b,DD hy a];simp only [show ((2:Int)==1)=false from rfl,show ((2:Int)==2)=true from rfl,ah,af,ob];rw [bQ (by simp only [aC,bh];omega)];simp only [];rw [bQ (by simp only [aO,aC,bh];omega)];simp only [fQ,eK,dS]
 | set P hs=>
  have c:=P.kind;have g:=P.most;have ok:=λt d=>(I5 P hs t d).1;unfold eC lO;rw [ab (by omega),ab (by omega),show (k==1)=false from by simp;omega,show (k==2)=false from by simp;omega];simp only [af,LY c ok (by omega),ob]
theorem Kq (n:Nat) (K:Int) (D:TD) (KF:Int) (DF:TD) (KT:Int) (DT:TD) (c d:Nat) (e l:Bool) (L:List TI):kI n K D KF DF KT DT c d e l L=ir n K D KF DF KT DT e l L:=rfl
theorem ME (n:Nat) (K:Int) (D:TD) (KF:Int) (DF:TD) (KT:Int) (DT:TD) (c d:Nat) (e l:Bool) (L:List TI):jX n K D KF DF KT DT c d e l L=jp n K D KF DF KT DT e l L:=rfl
theorem RE (n:Nat) (K:Int) (D:TD) (KF:Int) (DF:TD) (KT:Int) (DT:TD) (c:Nat) (e l:Bool) (L:List TI):jP n K D KF DF KT DT L.length c e l L=eT n K D KF DF KT DT e l L:=by
 unfold jP eT;rw [Nq];simp only [Kq,ME,V9]
noncomputable def canX:(Nat×Nat)⊕(Int×TD×Int×TD×Int×TD×Int)⊕(Int×Bool×Bool×List TI)->aa×Int×Int
 | .inl f=>([],(f.1:Int),(f.2:Int))
 | .inr (.inl (K,D,KF,DF,KT,DT,_))=>(lO K D KF DF KT DT false false [],0,0)
 | .inr (.inr (K,e,l,I))=>(lO K d0 0 d0 0 d0 e l I,0,0)
def V1:(Nat×Nat)⊕(Int×TD×Int×TD×Int×TD×Int)⊕(Int×Bool×Bool×List TI)->Prop
 | .inl f=>f.2≠0
 | .inr (.inl (K,D,KF,DF,KT,DT,L))=>RightP K D KF DF KT DT false false []/\(K=1\/K=2)
 | .inr (.inr (K,e,l,I))=>RightP K d0 0 d0 0 d0 e l I/\FQ K
theorem wi {S:aa} (b:S.length<=16384) (h:V1 (lQ S)):cw 20000000 S=some (canX (lQ S)):=by
 unfold cw;rw [IG b];generalize lQ S=y at h;rcases y with f | ⟨K,D,KF,DF,KT,DT,L⟩ | ⟨K,e,l,I⟩
 ·have h:f.2≠0:=h;simp only [J7,obs,sm,ob,u12,u11,u10,u9,u8,u7,u6,u5,u4,u3,u2];rw [show (((f.2:Nat):Int) != 0)=true from bne_iff_ne.2 (by omega),ah];rfl
 ·have a:=ua h.1;simp only [J7,obs,sm,ob,u12,u11,u10,u9,u8,u7,u6,u5,u4,u3,u2,fC,af,a,ob];rfl
 ·have a:=ua h.1;simp only [J7,obs,sm,ob,u14,u13,u12,u11,u10,u9,u8,u7,u6,u5,u4,u3,u2,fC,af,RE,a,ob];rfl
theorem Ry:ku 20000000=some true:=by kernel_rfl
theorem Pq {k:Int} {D:TD} {KF:Int} {DF:TD} {KT:Int} {DT:TD} {e l:Bool} {I:List TI} (h:RightP k D KF DF KT DT e l I) (c:(lO k D KF DF KT DT e l I).length<=16384):
  cw 20000000 (lO k D KF DF KT DT e l I)=some (lO k D KF DF KT DT e l I,0,0):=by
 have hp:=xx h;by_cases a:k=1\/k=2
 ·obtain ⟨rfl,rfl,rfl⟩:=few h a;have b:lQ (lO k D KF DF KT DT false false [])=.inr (.inl (k,D,KF,DF,KT,DT,lvE k D KF DF KT DT)):=hp.trans (ae a);rw [wi c (by rw [b];exact ⟨h,a⟩),b];rfl
 ·obtain ⟨rfl,rfl,rfl,rfl,rfl,d⟩:=sets h a;have b:lQ (lO k d0 0 d0 0 d0 e l I)=.inr (.inr (k,e,l,I)):=hp.trans (ab a);rw [wi c (by rw [b];exact ⟨h,d⟩),b];rfl
theorem vE {K f d B:Int} (p:natI K 256) (n:natI f 256) (j:natI d 256) (o:natI B 256) {L:List TR} (i:∀r∈L,wfR r):
  gI 20000000 K f d B L=some true:=by
 obtain ⟨k,D,KF,DF,KT,DT,e,l,I,q,c⟩:=E_of p n j o i;have P:=PQ c;have g:(lO k D KF DF KT DT e l I).length<=16384:=JF P c.len;have s:=c.len;have hp:=IG g;rw [xx P] at hp;have hc:=Pq P g;have h:=ua P;have m:=Dj P;have hs:=FB k D KF DF KT DT e l (I:=I) (by omega);have b:=EX k D KF DF KT DT I.length e l (I:=I) (by omega);unfold gI;rw [q];simp only [ob,u9,u8,u7,u6,u5,u4,u3,u2,h,hp,hc,m,Ry];by_cases a:k=1\/k=2
 ·obtain ⟨rfl,rfl,rfl⟩:=few P a;unfold exOf;rw [ae a];generalize lO k D KF DF KT DT false false []=w;generalize lvE k D KF DF KT DT=v;simp only [J7,obs,sm,ob,u12,u11,u10,u9,u8,u7,u6,u5,u4,u3,u2,hs];simp
 ·obtain ⟨rfl,rfl,rfl,rfl,rfl,t⟩:=sets P a;unfold exOf;rw [ab a];generalize lO k d0 0 d0 0 d0 e l I=w;simp only [J7,obs,sm,ob,u14,u13,u12,u11,u10,u9,u8,u7,u6,u5,u4,u3,u2,b];simp
theorem pN {n:Int} (h:(Lit.int .u8 n).wf=true):natI n 256:=⟨(Go.bounds_u8 h).1,by have:=(Go.bounds_u8 h).2;omega⟩
theorem SA {n:Int} (h:(Lit.int .u16 n).wf=true):natI n 65536:=⟨(Go.bounds_u16 h).1,by have:=(Go.bounds_u16 h).2;omega⟩
theorem W0 {y:den [.i .u8,.bo,.i .u16,.i .u8,.i .u8,.i .u8,.i .u8,.i .u8,.i .u8,.i .u8,.i .u8,.i .u8,.bo,.i .u16,.i .u8,.i .u8,.i .u8,.i .u8,.i .u8,.i .u8,.i .u8]}
  (h:ug [.i .u8,.bo,.i .u16,.i .u8,.i .u8,.i .u8,.i .u8,.i .u8,.i .u8,.i .u8,.i .u8,.i .u8,.bo,.i .u16,.i .u8,.i .u8,.i .u8,.i .u8,.i .u8,.i .u8,.i .u8] y):wfR y:=by
 obtain ⟨k,_,m,o,a,e,b,j,c,p,_,k0,_,k2,k3,k4,n,d,g,f,l⟩:=h;exact ⟨⟨pN k,SA m,pN o,pN a,pN e,pN b,pN j,pN c,pN p⟩,⟨pN k0,SA k2,pN k3,pN k4,pN n,pN d,pN g,pN f,pN l⟩⟩
end Go.Sh
