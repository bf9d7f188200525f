
/- Plain proofs, kept as far as they are needed here (printed by prune.py).
   Conditions: none. -/
import Derived.Test.YthemneooekobkaaGreatDoorLawPzc
set_option linter.unusedVariables false
set_option linter.unusedSimpArgs false
set_option maxRecDepth 100000
namespace Go.Sh
open Go.Abs
theorem Qf:aT 20000000=some true:=by kernel_rfl
theorem Dl (S:aa):
  (∃r,dU S 0=.inr r/\enR r=S.length/\iF (qC S)=tdR r/\(d8 (qC S)).2.2.2=0)\/(∃E:Nat,1<=E/\(d8 (qC S)).2.2.2=(E:Int)):=by
 unfold qC dU;cases f:oe S 0 with
 | inl k=>exact .inr ⟨5,by omega,rfl⟩
 | inr r=>
  have a:=uB (ie _) f;have b:=a.end_;obtain ⟨g,l,dg,x,s,m,d,M,P,e⟩:=r;have b:e<=S.length:=b;simp only [BY];by_cases c:e<S.length
  ·rw [ae c];exact .inr ⟨5,by omega,rfl⟩
  ·rw [ab c];by_cases hc:chkR (g,l,dg,x,s,m,d,M,P,e)=0
   ·rw [ae hc,ae hc];exact .inl ⟨_,rfl,by show e=_;omega,rfl,rfl⟩
   ·rw [ab hc];exact .inr ⟨chkR (g,l,dg,x,s,m,d,M,P,e),Nat.pos_of_ne_zero hc,by rw [ab hc];rfl⟩
theorem LO {S:aa} {r:DR} (a:dU S 0=.inr r) (e:enR r=S.length):
  jL 20000000 S (tdR r)=some (lvT S (tdR r))/\kP 20000000 S=some (lvT S (tdR r))/\lvX (tdR r)<=lvT S (tdR r)/\smT (tdR r)/\cF (tdR r)=0:=by
 obtain ⟨_,_,_,_,_,_,_,_,_,d,c⟩:=GK (ie _) a;obtain ⟨f,g,_,_⟩:=lV (ie _) a;have b:=QG (ie _) a;unfold lvR at b;rw [e,rN,cO,mP] at d c b;exact ⟨d,c,b,f,g⟩
theorem Dq {S:aa} (f:S.length<100000):gZ 20000000 S=some (if (d8 (qC S)).2.2.2=0 then (lvT S (iF (qC S)),0) else (0,(d8 (qC S)).2.2.2)):=by
 unfold gZ;rw [P3 S f];rcases Dl S with ⟨r,e,a,c,r4⟩ | ⟨E,g,b⟩
 ·obtain ⟨d,_⟩:=LO e a;simp only [ob,r4,c];rw [d];rfl
 ·simp only [ob];rw [b,ab (by omega),show (((E:Nat):Int) != 0)=true from by simp;omega];rfl
theorem Ni {S:aa} {r:DR} (c:dU S 0=.inr r) (a:enR r=S.length):iF (qC S)=tdR r/\(d8 (qC S)).2.2.2=0:=by
 obtain ⟨f,b⟩:=A6 (ie _) c;obtain ⟨g,l,dg,x,s,m,d,M,P,e⟩:=r;have a:e=S.length:=a;unfold qC;rw [f];simp only [BY];rw [ab (by omega),ae b];exact ⟨rfl,rfl⟩
theorem JV {x:TD} (hs:smT x) (hc:cF x=0):gZ 20000000 (gI x)=some (lvX x,0):=by
 obtain ⟨r,d,e,b,_⟩:=Et hs hc;obtain ⟨c,a⟩:=Ni d b;have f:=oa hs hc;rw [Dq (by omega),a,ae rfl,c,e];rfl
theorem Dw {K:Int} {x:TD} (hs:smT x) (h:okB K x):ap10 (g9 20000000 K) x=some (lx K x):=by
 rcases h with ⟨rfl,hc,b⟩ | ⟨a,rfl⟩
 ·have c:chkB 1 x.1 x.2.1 x.2.2.1 x.2.2.2.1 x.2.2.2.2.1 x.2.2.2.2.2.1 x.2.2.2.2.2.2.1 x.2.2.2.2.2.2.2.1 x.2.2.2.2.2.2.2.2.1 x.2.2.2.2.2.2.2.2.2=0:=by
   unfold chkB;rw [ae rfl];have hc':chkF x.1 x.2.1 x.2.2.1 x.2.2.2.1 x.2.2.2.2.1 x.2.2.2.2.2.1 x.2.2.2.2.2.2.1 x.2.2.2.2.2.2.2.1 x.2.2.2.2.2.2.2.2.1 x.2.2.2.2.2.2.2.2.2=0:=hc;have he':exD x.2.2.1 x.2.2.2.2.2.1 x.2.2.2.2.2.2.1 x.2.2.2.2.1=true:=b;rw [hc',he'];rfl
  exact JM hs.1 hs.2.1 hs.2.2.1 hs.2.2.2.1 hs.2.2.2.2.1 hs.2.2.2.2.2 c
 ·rcases a with rfl | rfl<;>rfl
theorem ud {K:Int} {x:TD} (hs:smT x) (h:okB K x):(lx K x).length<=37:=by
 rcases h with ⟨rfl,hc,c⟩ | ⟨b,rfl⟩
 ·have a:lx 1 x=gI x:=by unfold lx;rw [ab (by omega),ab (by omega)]
  rw [a];exact oa hs hc
 ·rcases b with rfl | rfl<;>decide
theorem KB {k:Int} {D:TD} {KF:Int} {DF:TD} {KT:Int} {DT:TD} {e l:Bool} {I:List TI} (h:RightP k D KF DF KT DT e l I):ig 20000000 k D KF DF KT DT e l I=some (um k D KF DF KT DT e l I):=by
 cases h with
 | single hs hc=>
  unfold ig um;rw [ae rfl,rfT hs hc];rfl
 | interval hx hy hp=>
  obtain ⟨a,b,_⟩:=nq hp;have i:=ud hx a;have g:=ud hy b;unfold ig um;rw [ab (by omega),ae rfl,Dw hx a,Dw hy b];simp only [show ((2:Int)==1)=false from rfl,show ((2:Int)==2)=true from rfl,ah,af,ob];rw [dV (by simp only [aV,cG];omega)];simp only [];rw [dV (by simp only [bv,aV,cG];omega)];simp only [fE,eK,dW]
 | set P hs=>
  have d:=P.kind;have f:=P.most;have ok:=λt c=>(G6 P hs t c).1;unfold ig um;rw [ab (by omega),ab (by omega),show (k==1)=false from by simp;omega,show (k==2)=false from by simp;omega];simp only [af,MP d ok (by omega),ob]
def okDs (L:List TD):Prop:=∀x∈L,smT x/\cF x=0
theorem UM {k:Int} {D:TD} {KF:Int} {DF:TD} {KT:Int} {DT:TD} {e l:Bool} {I:List TI} (h:RightP k D KF DF KT DT e l I):okDs (datE k D KF DF KT DT I):=by
 intro x hx;cases h with
 | single hs hc=>
  unfold datE at hx;rw [ae rfl] at hx;rw [lG.1 hx];exact ⟨hs,hc⟩
 | interval i n hp=>
  obtain ⟨q,r,_⟩:=nq hp;have g:KF=1->cF DF=0:=λh=>by
   rcases q with ⟨_,hc,_⟩ | ⟨d,_⟩
   ·exact hc
   ·omega
  have j:KT=1->cF DT=0:=λh=>by
   rcases r with ⟨_,hc,_⟩ | ⟨d,_⟩
   ·exact hc
   ·omega
  unfold datE at hx;rw [ab (by omega),ae rfl] at hx;split at hx
  ·rename_i m;split at hx
   ·rename_i f;rcases cq.1 hx with rfl | hx
    ·exact ⟨i,g m⟩
    ·rw [lG.1 hx];exact ⟨n,j f⟩
   ·rw [lG.1 hx];exact ⟨i,g m⟩
  ·split at hx
   ·rename_i f;rw [lG.1 hx];exact ⟨n,j f⟩
   ·cases hx
 | set P hs=>
  have d:=P.kind;unfold datE at hx;rw [ab (by omega),ab (by omega),ae d] at hx;obtain ⟨t,o,c⟩:=Gz.1 hx;have ok:=(G6 P hs t o).1;unfold datI at c;split at c
  ·rename_i p;rcases cq.1 c with rfl | c
   ·exact ⟨ok.sm.1,ok.a⟩
   ·rw [lG.1 c];exact ⟨ok.sm.2,ok.b p⟩
  ·rw [lG.1 c];exact ⟨ok.sm.1,ok.a⟩
def mxL (w:Int) (L:List TD):Int:=L.foldl (λw x=>mx (lvX x) w) w
theorem Ql {L:List TD} (g:okDs L) (l:L.length<=1000000) (v:Int):∀(r i:Nat) (w:Int),i+r=L.length->∀N,r<N->
  av (ax 20000000) N (v,w,(i:Int),L)=some (.inr (v,mxL w (L.drop i))):=by
 intro r
 induction r with
 | zero=>
  intro i w hi N j;obtain ⟨N,rfl⟩:∃k,N=k+1:=⟨N - 1,by omega⟩;obtain rfl:i=L.length:=by omega
  have:ax 20000000 (v,w,((L.length:Nat):Int),L)=some (.inr (.inr (v,w))):=by
   unfold ax;simp only [u4,u3,u2];rw [ar (show ¬((L.length:Nat):Int)<len L by show ¬((L.length:Nat):Int)<((L.length:Nat):Int);omega)];rfl
  rw [av,this,ue];rfl
 | succ r ih=>
  intro i w hi N j;obtain ⟨N,rfl⟩:∃k,N=k+1:=⟨N - 1,by omega⟩;have a:i<L.length:=by omega
  have d:L[i]?=some L[i]:=aW a;obtain ⟨b,c⟩:=g _ (List.getElem_mem a);have e:L.drop i=L[i]::L.drop (i+1):=pE a;generalize L[i]=x at d b c e;have:ax 20000000 (v,w,(i:Int),L)=some (.inl (v,mx (lvX x) w,((i+1:Nat):Int),L)):=by
   unfold ax;simp only [u4,u3,u2];rw [aq (show (i:Int)<len L by show (i:Int)<((L.length:Nat):Int);omega),dD a];have f:ap10 (bV 20000000) x=some (gI x):=rfT b c;simp only [ah,ob,d,f,JV b c];rw [nW (by omega)];simp only [u2,hJ,af];generalize lvX x=X;unfold mx;by_cases h:X>w
   ·rw [ae h,aq h,ah]
   ·rw [ab h,ar h,af]
  rw [av,this];simp only [];rw [ih (i+1) _ (by omega) N (by omega),e];simp only [mxL,List.foldl]
theorem NB {L:List TD} (b:okDs L) (a:L.length<=1000000) (v w:Int):av (ax 20000000) 20000000 (v,w,0,L)=some (.inr (v,mxL w L)):=
 Ql b a v L.length 0 w (by omega) 20000000 (by omega)
theorem FT:∀{L:List TD},mxL 2 L=2
 | []=>rfl
 | x::L=>by
  have:=rJ x;show mxL (mx (lvX x) 2) L=2;rw [show mx (lvX x) 2=2 from by unfold mx;rw [ab (by omega)]];exact FT
def Em (k KF KT:Int):Int:=if k>2 then 2 else if k=2/\(KF≠1\/KT≠1) then 1 else 0
theorem SN {k:Int} {D:TD} {KF:Int} {DF:TD} {KT:Int} {DT:TD} {e l:Bool} {I:List TI} (h:RightP k D KF DF KT DT e l I):mxL (Em k KF KT) (datE k D KF DF KT DT I)=lvE k D KF DF KT DT:=by
 cases h with
 | single hs hc=>
  have:=rJ D;unfold Em datE lvE;rw [ab (by omega),ab (by omega),ae rfl,ae rfl];have:mxL 0 [D]=mx (lvX D) 0:=by simp only [mxL,List.foldl]
  rw [this];unfold mx;split<;>omega
 | interval m p hp=>
  obtain ⟨_,_,n⟩:=nq hp;have o:=rJ DF;have j:=rJ DT;have i:datE 2 d0 KF DF KT DT []=if KF=1 then (if KT=1 then [DF,DT] else [DF]) else if KT=1 then [DT] else []:=by
   unfold datE;rw [ab (by omega),ae rfl]
  have f:lvE 2 d0 KF DF KT DT=mx (if KT=1 then lvX DT else 1) (if KF=1 then lvX DF else 1):=by
   unfold lvE;rw [ab (by omega),ae rfl]
  have g:Em 2 KF KT=if KF≠1\/KT≠1 then 1 else 0:=by
   unfold Em;rw [ab (by omega)];simp
  rw [i,f,g];generalize d:lvX DF=X at *;generalize c:lvX DT=Y at *;by_cases b:KF=1
  ·by_cases a:KT=1
   ·rw [ab (by omega),ae b,ae a,ae a,ae b];have:mxL 0 [DF,DT]=mx Y (mx X 0):=by rw [<-d,<-c];simp only [mxL,List.foldl]
    rw [this];have:mx X 0=X:=by unfold mx;split<;>omega
    rw [this]
   ·rw [ae (by omega),ae b,ab a,ab a,ae b];have:mxL 1 [DF]=mx X 1:=by rw [<-d];simp only [mxL,List.foldl]
    rw [this];unfold mx;split<;>split<;>omega
  ·have a:KT=1:=by omega
   rw [ae (by omega),ab b,ae a,ae a,ab b];have:mxL 1 [DT]=mx Y 1:=by rw [<-c];simp only [mxL,List.foldl]
   rw [this]
 | set P hs=>
  have q:=P.kind;unfold Em lvE;rw [ae (by omega),FT,ab (by omega),ab (by omega)]
theorem Qo {k:Int} {D:TD} {KF:Int} {DF:TD} {KT:Int} {DT:TD} {e l:Bool} {I:List TI} (h:RightE k D KF DF KT DT e l I):RightP k D KF DF KT DT e l I:=Ox h.sm (by rw [h.first])
theorem D7:∀I:List TI,(I.flatMap datI).length<=2*I.length
 | []=>by simp
 | t::I=>by
  have:=G7 t;have:=D7 I;rw [om,bv,aV];omega
theorem MU (k:Int) (D:TD) (KF:Int) (DF:TD) (KT:Int) (DT:TD) {I:List TI} (h:I.length<=5):(datE k D KF DF KT DT I).length<=10:=by
 have:=D7 I;unfold datE;split
 ·simp
 ·split
  ·split
   ·split<;>simp
   ·split<;>simp
  ·split
   ·omega
   ·simp
theorem JL {k:Int} {D:TD} {KF:Int} {DF:TD} {KT:Int} {DT:TD} {e l:Bool} {I:List TI} (h:RightP k D KF DF KT DT e l I) (g:I.length<=5):(um k D KF DF KT DT e l I).length<=16384:=by
 cases h with
 | single hs hc=>
  have:=oa hs hc;unfold um;rw [ae rfl];omega
 | interval hx hy hp=>
  obtain ⟨b,c,_⟩:=nq hp;have f:=ud hx b;have d:=ud hy c;unfold um;rw [ab (by omega),ae rfl,bv,aV];omega
 | set P hs=>
  have i:=P.kind;unfold um;rw [ab (by omega),ab (by omega)];have:=yO (I:=I) λt a=>(G6 P hs t a).1;unfold vv;cases e<;>cases l<;>simp<;>omega
theorem few {k:Int} {D:TD} {KF:Int} {DF:TD} {KT:Int} {DT:TD} {e l:Bool} {I:List TI} (h:RightP k D KF DF KT DT e l I) (a:k=1\/k=2):e=false/\l=false/\I=[]:=by
 cases h with
 | single hs hc=>exact ⟨rfl,rfl,rfl⟩
 | interval hx hy hp=>exact ⟨rfl,rfl,rfl⟩
 | set P hs=>have:=P.kind;omega
theorem sets {k:Int} {D:TD} {KF:Int} {DF:TD} {KT:Int} {DT:TD} {e l:Bool} {I:List TI} (h:RightP k D KF DF KT DT e l I) (a:¬(k=1\/k=2)):D=d0/\KF=0/\DF=d0/\KT=0/\DT=d0/\(k=3\/k=4):=by
 cases h with
 | single hs hc=>omega
 | interval hx hy hp=>omega
 | set P hs=>exact ⟨rfl,rfl,rfl,rfl,rfl,P.kind⟩
theorem ze {K i o B:Int} (t:natI K 256) (y:natI i 256) (p:natI o 256) (u:natI B 256) {L:List TR} (A:∀r∈L,wfR r):
  jb 20000000 K i o B L=some true:=by
 obtain ⟨k,D,KF,DF,KT,DT,e,l,I,z,g⟩:=E_of t y p u A;have P:=Qo g;have n:=g.len;have C:=g.kind;have x:(um k D KF DF KT DT e l I).length<=16384:=JL P n;have hp:=Q8 x;rw [Fq P] at hp;have s:=FQ (I:=I) (by omega) k D KF DF KT DT e l;have a:=SN P;have q:=MU k D KF DF KT DT n;have j:=λ(v w:Int)=>NB (UM P) (by omega) v w;have hs:=EJ k D KF DF KT DT e l (I:=I) (by omega);have f:=Eu k D KF DF KT DT I.length e l (I:=I) (by omega);unfold jb;rw [z];simp only [ob,u9,u8,u7,u6,u5,u4,u3,u2,KB P,hp,s,Qf];generalize datE k D KF DF KT DT I=c at *;generalize lvE k D KF DF KT DT=v at *;unfold exOf;by_cases b:k=1\/k=2
 ·obtain ⟨rfl,rfl,rfl⟩:=few P b;rw [ae b];simp only [Uw,obs,sm,ob,u12,u11,u10,u9,u8,u7,u6,u5,u4,u3,u2,hJ,af,hs,j];rw [show ((1:Int)==0)=false from rfl,af,ar (show ¬k>2 by omega),af];rcases b with rfl | rfl
  ·rw [show ((1:Int)==2)=false from rfl,af];have a:mxL 0 c=v:=by rw [<-a];rfl
   rw [a];simp
  ·rw [show ((2:Int)==2)=true from rfl,ah];by_cases d:KF=1
   ·by_cases h:KT=1
    ·have a:mxL 0 c=v:=by rw [<-a];unfold Em;rw [ab (by omega),ab (by omega)]
     rw [a];simp [d,h]
    ·have a:mxL 1 c=v:=by rw [<-a];unfold Em;rw [ab (by omega),ae ⟨rfl,.inr h⟩]
     rw [a,show (KT != 1)=true from bne_iff_ne.2 h];simp [d]
   ·have a:mxL 1 c=v:=by rw [<-a];unfold Em;rw [ab (by omega),ae ⟨rfl,.inl d⟩]
    rw [a,show (KF != 1)=true from bne_iff_ne.2 d];simp
 ·obtain ⟨rfl,rfl,rfl,rfl,rfl,m⟩:=sets P b;rw [ab b];have a:mxL 2 c=2:=FT;simp only [Uw,obs,sm,ob,u14,u13,u12,u11,u10,u9,u8,u7,u6,u5,u4,u3,u2,hJ,af,f,j];rw [show ((1:Int)==0)=false from rfl,af,aq (show k>2 by omega),ah];rw [show (k==2)=false from by simp;omega];rw [af,a];simp
theorem pL {n:Int} (h:(Lit.int .u8 n).wf=true):natI n 256:=⟨(Go.bounds_u8 h).1,by have:=(Go.bounds_u8 h).2;omega⟩
theorem RA {n:Int} (h:(Lit.int .u16 n).wf=true):natI n 65536:=⟨(Go.bounds_u16 h).1,by have:=(Go.bounds_u16 h).2;omega⟩
theorem Xb {y:den [.i .u8,.bo,.i .u16,.i .u8,.i .u8,.i .u8,.i .u8,.i .u8,.i .u8,.i .u8,.i .u8,.i .u8,.bo,.i .u16,.i .u8,.i .u8,.i .u8,.i .u8,.i .u8,.i .u8,.i .u8]}
  (h:tg [.i .u8,.bo,.i .u16,.i .u8,.i .u8,.i .u8,.i .u8,.i .u8,.i .u8,.i .u8,.i .u8,.i .u8,.bo,.i .u16,.i .u8,.i .u8,.i .u8,.i .u8,.i .u8,.i .u8,.i .u8] y):wfR y:=by
 obtain ⟨a,_,k,m,n,l,p,e,d,b,_,k0,_,k2,k3,k4,o,j,c,g,f⟩:=h;exact ⟨⟨pL a,RA k,pL m,pL n,pL l,pL p,pL e,pL d,pL b⟩,⟨pL k0,RA k2,pL k3,pL k4,pL o,pL j,pL c,pL g,pL f⟩⟩
end Go.Sh
