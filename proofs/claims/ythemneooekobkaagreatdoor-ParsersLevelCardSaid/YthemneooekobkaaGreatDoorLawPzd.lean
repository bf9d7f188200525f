
/- Plain proofs, kept as far as they are needed here (printed by prune.py).
   Conditions: none. -/
import Derived.Test.YthemneooekobkaaGreatDoorLawPzc
set_option linter.unusedVariables false
set_option linter.unusedSimpArgs false
set_option maxRecDepth 100000
namespace Go.Sh
open Go.Abs
theorem KE:iR 20000000=some true:=by kernel_rfl
theorem Ll {S:aa} {a:Nat} (h:a<=S.length) {r:DR} (c:di S a=.inr r):cH brk (S.drop a):=by
 obtain ⟨j,o,_,_⟩:=jt h c;obtain ⟨A,B,u,k,mk,_,t,_⟩:=ux h c;obtain ⟨v,w,p,n,q,m',d',k0,k1,k2,b,ok⟩:=o5 j o;obtain ⟨g,l,dg,x,s,m,d,M,P,e⟩:=r;unfold tdR at b;simp only [bw] at b;obtain ⟨rfl,rfl,rfl,i,f,rfl,rfl,_⟩:=b;have i:x=n:=by omega
 have f:s=q:=by omega
 subst i f;rw [<-oi (enR (g,l,dg,x,s,m,d,M,P,e) - a) (S.drop a),t];unfold rawD fe;rw [iN,iN,iN];exact Ik _ (by decide) (by decide) (by decide) (Hw ok.sh.yr _)
theorem BP {S:aa} {r:DR} (e:di S 0=.inr r) (d:enR r=S.length):AD S=.inr (.inl (1,tdR r,0,d0,0,d0,lvT S (tdR r))):=by
 have b:=Ll (fB _) e;rw [cP] at b;have a:∀c:UInt8,brk c=true->S.head?≠some c:=λc hc h=>by rw [b c h] at hc;cases hc
 unfold AD;rw [ab (by rintro (h | h);exact a 91 (by decide) h;exact a 123 (by decide) h),ab (a 47 (by decide)),FD b,ab (by simp),e];simp only [];have f:lvR S 0 r=lvT S (tdR r):=by unfold lvR;rw [d,nA,cP,kN]
 rw [d,uC,ab (by simp),ab (by omega),f]
theorem sD (S:aa):
  (∃r,di S 0=.inr r/\enR r=S.length/\iF (og S)=tdR r/\(d8 (og S)).2.2.2=0)\/(∃E:Nat,1<=E/\(d8 (og S)).2.2.2=(E:Int)):=by
 unfold og di;cases f:kK S 0 with
 | inl k=>exact .inr ⟨5,by omega,rfl⟩
 | inr r=>
  have a:=mV (fB _) f;have b:=a.end_;obtain ⟨g,l,dg,x,s,m,d,M,P,e⟩:=r;have b:e<=S.length:=b;simp only [yU];by_cases c:e<S.length
  ·rw [ae c];exact .inr ⟨5,by omega,rfl⟩
  ·rw [ab c];by_cases hc:chkR (g,l,dg,x,s,m,d,M,P,e)=0
   ·rw [ae hc,ae hc];exact .inl ⟨_,rfl,by show e=_;omega,rfl,rfl⟩
   ·rw [ab hc];exact .inr ⟨chkR (g,l,dg,x,s,m,d,M,P,e),Nat.pos_of_ne_zero hc,by rw [ab hc];rfl⟩
theorem zk {S:aa} {r:DR} (a:di S 0=.inr r) (f:enR r=S.length):
  gK 20000000 S (tdR r)=some (lvT S (tdR r))/\ba 20000000 S=some (lvT S (tdR r))/\lvX (tdR r)<=lvT S (tdR r)/\smT (tdR r)/\cF (tdR r)=0:=by
 obtain ⟨_,_,_,_,_,_,_,_,_,d,c⟩:=ux (fB _) a;obtain ⟨e,g,_,_⟩:=jt (fB _) a;have b:=MP (fB _) a;unfold lvR at b;rw [f,nA,cP,kN] at d c b;exact ⟨d,c,b,e,g⟩
theorem Az {S:aa} (b:S.length<100000):iz 20000000 S=some (if (d8 (og S)).2.2.2=0 then (lvT S (iF (og S)),0) else (0,(d8 (og S)).2.2.2)):=by
 unfold iz;rw [K3 S b];rcases sD S with ⟨r,d,c,e,r4⟩ | ⟨E,g,a⟩
 ·obtain ⟨f,_⟩:=zk d c;simp only [ob,r4,e];rw [f];rfl
 ·simp only [ob];rw [a,ab (by omega),show (((E:Nat):Int) != 0)=true from by simp;omega];rfl
theorem Ko {L:List (aa)} {i:Nat} {S:aa} (hi:L[i]?=some S) (m:i<2) (n:S.length<=1000):bK 20000000 ((i:Int),L)=some (.inl (((i+1:Nat):Int),L)):=by
 have a:i<L.length:=(qf.1 hi).1;unfold bK;simp only [u2];rw [am (show (i:Int)<2 by omega),fg a];simp only [aj,ob,hi,Bt S (by omega)];rw [Az (by omega),ud (by omega)];rcases sD S with ⟨r,f,e,j,r4⟩ | ⟨E,q,h⟩
 ·obtain ⟨p,b,o,c,d⟩:=zk f e;have g:=MQ (S:=S) (by omega);rw [BP f e] at g;have k:ap10 (aZ 20000000) (tdR r)=some (ov (tdR r)):=rfT c d;have l:=(OT c d).2;simp only [r4,j,aJ];simp only [g,k,l,b,Ro,obs,sm,ob,u12,u11,u10,u9,u8,u7,u6,u5,u4,u3,u2,gO,si,aj,af];rw [ar (by omega),af]
 ·have b1:((E:Int) != 0)=true:=by simp;omega
  have b2:((E:Int)==0)=false:=by simp;omega
  rw [h,ab (by omega)];simp only [b1,b2,u2,gO,aj,af]
theorem ua {a0 a2 n f b e j m k:Int} (g:Bool) (h:wfD a0 a2 n f b e j m k) (S:aa):ej 20000000 a0 g a2 n f b e j m k S=some true:=by
 unfold ej;rw [KE];by_cases q:60<S.length
 ·rw [show decide (len S>60)=true from am (by show (60:Int)<((S.length:Nat):Int);omega)];rfl
 ·rw [show decide (len S>60)=false from ar (by show ¬(60:Int)<((S.length:Nat):Int);omega),af];obtain ⟨x,p,c,d⟩:=DofI g h;have a:ap10 (aZ 20000000) x=some (ov x):=rfT c d;have l:=G4 c d;rw [p];simp only [ob,a];have o:aw (bK 20000000) 20000000 (0,[ov x,S])=some (.inr ()):=by
   refine J2 (step:=bK 20000000) (st:=λi=>((i:Int),[ov x,S])) (L:=[ov x,S]) ?_ ?_ (by simp)
   ·intro i t a;have hi:i<2:=(qf.1 a).1;refine Ko a hi ?_;rcases (by omega:i=0\/i=1) with rfl | rfl
    ·cases a;omega
    ·cases a;omega
   ·rfl
  rw [o];rfl
theorem AA {n:Int} (h:(Lit.int .u8 n).wf=true):natI n 256:=⟨(Go.bounds_u8 h).1,by have:=(Go.bounds_u8 h).2;omega⟩
theorem Q7 {n:Int} (h:(Lit.int .u16 n).wf=true):natI n 65536:=⟨(Go.bounds_u16 h).1,by have:=(Go.bounds_u16 h).2;omega⟩
end Go.Sh
