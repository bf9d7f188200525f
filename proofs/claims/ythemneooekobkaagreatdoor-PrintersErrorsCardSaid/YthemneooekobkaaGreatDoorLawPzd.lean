
/- Plain proofs, kept as far as they are needed here (printed by prune.py).
   Conditions: none. -/
import Derived.Test.YthemneooekobkaaGreatDoorLawPzc
set_option linter.unusedVariables false
set_option linter.unusedSimpArgs false
set_option maxRecDepth 100000
namespace Go.Sh
open Go.Abs
theorem Ab {K:Int} {x:TD} (hs:smT x) (h:okB K x):ap10 (fH 20000000 K) x=some (wt K x):=by
 rcases h with ⟨rfl,hc,c⟩ | ⟨b,rfl⟩
 ·have a:chkB 1 x.1 x.2.1 x.2.2.1 x.2.2.2.1 x.2.2.2.2.1 x.2.2.2.2.2.1 x.2.2.2.2.2.2.1 x.2.2.2.2.2.2.2.1 x.2.2.2.2.2.2.2.2.1 x.2.2.2.2.2.2.2.2.2=0:=by
   unfold chkB;rw [ad rfl];have hc':chkF x.1 x.2.1 x.2.2.1 x.2.2.2.1 x.2.2.2.2.1 x.2.2.2.2.2.1 x.2.2.2.2.2.2.1 x.2.2.2.2.2.2.2.1 x.2.2.2.2.2.2.2.2.1 x.2.2.2.2.2.2.2.2.2=0:=hc;have he':exD x.2.2.1 x.2.2.2.2.2.1 x.2.2.2.2.2.2.1 x.2.2.2.2.1=true:=c;rw [hc',he'];rfl
  exact F9 hs.1 hs.2.1 hs.2.2.1 hs.2.2.2.1 hs.2.2.2.2.1 hs.2.2.2.2.2 a
 ·rcases b with rfl | rfl<;>rfl
theorem rW {K:Int} {x:TD} (hs:smT x) (h:okB K x):(wt K x).length<=37:=by
 rcases h with ⟨rfl,hc,c⟩ | ⟨a,rfl⟩
 ·have b:wt 1 x=wo x:=by unfold wt;rw [ab (by omega),ab (by omega)]
  rw [b];exact mj hs hc
 ·rcases a with rfl | rfl<;>decide
theorem L2 {k:Int} {D:TD} {KF:Int} {DF:TD} {KT:Int} {DT:TD} {e l:Bool} {I:List TI} (h:RightE k D KF DF KT DT e l I):RightP k D KF DF KT DT e l I:=ux h.sm (by rw [h.first])
theorem Pe {K:Int} {x:TD} (h:okB K x):pQ K x=0:=by
 rcases h with ⟨rfl,hc,b⟩ | ⟨a,rfl⟩
 ·exact EA hc b
 ·rcases a with rfl | rfl<;>kernel_rfl
theorem Fa {K:Int} {x:TD} (hs:smT x) (h:okB K x):ap10 (ie 20000000 K) x=some (wt K x,0):=by
 have b:chkB K x.1 x.2.1 x.2.2.1 x.2.2.2.1 x.2.2.2.2.1 x.2.2.2.2.2.1 x.2.2.2.2.2.2.1 x.2.2.2.2.2.2.2.1 x.2.2.2.2.2.2.2.2.1 x.2.2.2.2.2.2.2.2.2=0:=Pe h;have:=NR (K:=K) (g:=x.1) (l:=x.2.1) (x:=x.2.2.2.1) (q:=x.2.2.2.2.1) hs.1 hs.2.1 hs.2.2.1 hs.2.2.2.1 hs.2.2.2.2.1 hs.2.2.2.2.2;rw [ad b] at this;refine this.trans ?_;unfold wt wo;by_cases a:K=2
 ·simp only [a,aY]
 ·simp only [a,aG]
theorem CW {KF:Int} {x:TD} {KT:Int} {y:TD} (hx:smT x) (hy:smT y) (hp:pS KF x KT y=0) (K:Int) (D:TD) (e l:Bool) (I:List TI):
  iu 20000000 K D KF x KT y e l I=some (wt KF x++47::wt KT y,0):=by
 obtain ⟨a,b,_⟩:=xb hp;have d:=rW hx a;have c:=rW hy b;unfold iu;rw [Fa hx a,Fa hy b];simp only [ob,u2];rw [bN (by simp only [aS,bg];omega)];simp only [];rw [bN (by simp only [bB,aS,bg];omega)];simp only [uj,ki,ij]
theorem HV {k:Int} {D:TD} {KF:Int} {DF:TD} {KT:Int} {DT:TD} {e l:Bool} {I:List TI} (hs:smE D DF DT I):
  cb 20000000 k D KF DF KT DT e l I=some (if (fR k D KF DF KT DT e l I).2=0 then (yX k D KF DF KT DT e l I,0) else ([],(fR k D KF DF KT DT e l I).2)):=by
 unfold cb;rw [DZ hs];by_cases a:(fR k D KF DF KT DT e l I).2=0
 ·rw [ad a,a];have P:=ux hs a;simp only [ob,eH,ae,jd];cases P with
  | single hx hc=>
   rw [show ((1:Int)==1)=true from rfl,aj];unfold jS yX;rw [ad rfl,dfT hx hc];simp only [ob,u2]
  | interval hx hy hp=>
   rw [show ((2:Int)==1)=false from rfl,ae,show ((2:Int)==2)=true from rfl,aj,CW hx hy hp];unfold yX;rw [ab (by omega),ad rfl]
  | set P hi=>
   have b:=P.kind;have c:=Py (K:=k) (KF:=0) (KT:=0) (e:=e) (l:=l) hs;rw [ad (show G7 k from b),ad a] at c;rw [c];unfold yX;rw [ab (by rcases b with rfl | rfl<;>omega),ab (by rcases b with rfl | rfl<;>omega)];generalize Cc k e l I=w;rcases b with rfl | rfl<;>rfl
 ·rw [ab a];simp only [ob];rw [show ((fR k D KF DF KT DT e l I).2 != 0)=true from bne_iff_ne.2 a,aj]
theorem zV {k:Int} {D:TD} {KF:Int} {DF:TD} {KT:Int} {DT:TD} {e l:Bool} {I:List TI} (h:RightP k D KF DF KT DT e l I):aI 20000000 k D KF DF KT DT e l I=some (yX k D KF DF KT DT e l I):=by
 cases h with
 | single hs hc=>
  unfold aI yX;rw [ad rfl,rfT hs hc];rfl
 | interval hx hy hp=>
  obtain ⟨a,b,_⟩:=xb hp;have i:=rW hx a;have f:=rW hy b;unfold aI yX;rw [ab (by omega),ad rfl,Ab hx a,Ab hy b];simp only [show ((2:Int)==1)=false from rfl,show ((2:Int)==2)=true from rfl,aj,ae,ob];rw [bN (by simp only [aS,bg];omega)];simp only [];rw [bN (by simp only [bB,aS,bg];omega)];simp only [uj,ki,ij]
 | set P hs=>
  have d:=P.kind;have g:=P.most;have ok:=λt c=>(MD P hs t c).1;unfold aI yX;rw [ab (by omega),ab (by omega),show (k==1)=false from by simp;omega,show (k==2)=false from by simp;omega];simp only [ae,Il d ok (by omega),ob]
theorem JW:aK 20000000=some true:=by kernel_rfl
theorem QB {A B:Type} (a:A) (f:A->Option B):ob (some a) f=f a:=rfl
theorem sH {k:Int} {D:TD} {KF:Int} {DF:TD} {KT:Int} {DT:TD} {e l:Bool} {I:List TI} (hs:smE D DF DT I):
  (ob (cb 20000000 k D KF DF KT DT e l I) (u2 λc d=>(ob (ci 20000000 k D KF DF KT DT e l I) λa=>(cond (d==a) (cond (a != 0) (cond (c==([]:aa)) (some true) (cond (a==0) (ob (aI 20000000 k D KF DF KT DT e l I) λg=>(cond (c==g) (some true) (some false))) (some false))) (cond (a==0) (ob (aI 20000000 k D KF DF KT DT e l I) λf=>(cond (c==f) (some true) (some false))) (some false))) (some false)))))=some true:=by
 rw [HV hs,Bi hs];by_cases b:(fR k D KF DF KT DT e l I).2=0
 ·have P:=ux hs b;rw [ad b,b,zV P];generalize yX k D KF DF KT DT e l I=w;simp [ob,u2]
 ·rw [ab b];generalize (fR k D KF DF KT DT e l I).2=z at b;have h:(z != 0)=true:=bne_iff_ne.2 b;simp [ob,u2,h]
theorem KB {I:List TI} (h:∀t∈I,smI t):∀t∈I++[mkI d0 false d0],smI t:=λt b=>by
 rcases kA.1 b with a | a
 ·exact h t a
 ·rw [uB.1 a];exact ⟨wk,wk⟩
theorem sK {K h g B:Int} (n:natI K 256) (j:natI h 256) (p:natI g 256) (m:natI B 256) (X Y:Int) {L:List TR} (i:∀r∈L,wfR r):
  fj 20000000 K h g B X Y L=some true:=by
 obtain ⟨k,D,KF,DF,KT,DT,e,l,I,o,f⟩:=E_of n j p m i;have P:=L2 f;have q:=f.len;obtain ⟨a,c,b,d⟩:=f.sm;unfold fj;rw [o,JW];simp only [QB,u9,u8,u7,u6,u5,u4,u3];simp only [u2];cases (Int.tmod Y 6)==0
 case true=>exact sH ⟨a,c,b,d⟩
 simp only [ae];cases (Int.tmod Y 6)==1
 case true=>exact sH (D:=(D.1,D.2.1,D.2.2.1,D.2.2.2.1,(d4 D).1,[49,51],(d4 D).2.2.1,(d4 D).2.2.2.1,(d8 D).1,(d8 D).2)) ⟨⟨by simp,a.2.1,a.2.2⟩,c,b,d⟩
 simp only [ae];cases (Int.tmod Y 6)==2
 case true=>exact sH ⟨a,c,b,d⟩
 simp only [ae];cases (Int.tmod Y 6)==3
 case true=>exact sH ⟨a,c,b,d⟩
 simp only [ae];cases (Int.tmod Y 6)==4
 case true=>exact sH ⟨a,c,b,d⟩
 simp only [ae];rw [show Nat.ble (I.length+1) dE=true from cU (by unfold dE;omega),aj];exact sH ⟨a,c,b,KB d⟩
theorem m6 {n:Int} (h:(Lit.int .u8 n).wf=true):natI n 256:=⟨(Go.bounds_u8 h).1,by have:=(Go.bounds_u8 h).2;omega⟩
theorem MW {n:Int} (h:(Lit.int .u16 n).wf=true):natI n 65536:=⟨(Go.bounds_u16 h).1,by have:=(Go.bounds_u16 h).2;omega⟩
theorem QK {y:den [.i .u8,.bo,.i .u16,.i .u8,.i .u8,.i .u8,.i .u8,.i .u8,.i .u8,.i .u8,.i .u8,.i .u8,.bo,.i .u16,.i .u8,.i .u8,.i .u8,.i .u8,.i .u8,.i .u8,.i .u8]}
  (h:qw [.i .u8,.bo,.i .u16,.i .u8,.i .u8,.i .u8,.i .u8,.i .u8,.i .u8,.i .u8,.i .u8,.i .u8,.bo,.i .u16,.i .u8,.i .u8,.i .u8,.i .u8,.i .u8,.i .u8,.i .u8] y):wfR y:=by
 obtain ⟨e,_,a,b,o,g,l,n,m,j,_,k0,_,k2,k3,d,c,k,p,f,q⟩:=h;exact ⟨⟨m6 e,MW a,m6 b,m6 o,m6 g,m6 l,m6 n,m6 m,m6 j⟩,⟨m6 k0,MW k2,m6 k3,m6 d,m6 c,m6 k,m6 p,m6 f,m6 q⟩⟩
end Go.Sh
