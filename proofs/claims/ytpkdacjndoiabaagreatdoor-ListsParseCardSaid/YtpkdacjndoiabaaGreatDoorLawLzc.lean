/- Plain proofs, kept as far as they are needed here (printed by prune.py).
   Conditions: none. -/
import Derived.Test.YtpkdacjndoiabaaGreatDoorLawLzb
set_option linter.unusedVariables false
set_option linter.unusedSimpArgs false
set_option maxRecDepth 100000
namespace Go.Sh
open Go.Abs
theorem Qh {dg m d:aa} (h:exD dg m d 0=true):exD dg m [] 0=true/\exD dg [] [] 0=true:=by
 unfold exD at h ⊢
 simp only [az,jU,qE] at h
 obtain ⟨⟨h1,h2,h3⟩,_⟩:=h
 rw [h1,h2]
 exact ⟨rfl,rfl⟩
def Bk (g l:Bool) (dg:aa) (x q:Int) (m d:aa) (k0 k1 k2:Int):Bool:=
 (((g==false)&&((l==false)&&((dg==([]:aa))&&((x==0)&&((q==0)&&true)))))&&((m==([]:aa))&&((d==([]:aa))&&(((k0==0)&&((k1==0)&&((k2==0)&&true)))&&true))))
noncomputable def chkB (K:Int) (g l:Bool) (dg:aa) (x q:Int) (m d:aa) (k0 k1 k2:Int):Int:=
 if K=1 then (if chkF g l dg x q m d k0 k1 k2=0 then (if exD dg m d q=true then 0 else 11) else chkF g l dg x q m d k0 k1 k2) else if K=2\/K=3 then (if Bk g l dg x q m d k0 k1 k2=true then 0 else 5) else 18
def HE (e1 e2 K1 K2 lo hi:Int):Int:=if e1≠0 then e1 else if e2≠0 then e2 else if K1≠1/\K2≠1 then 11 else if K1≠1\/K2≠1 then 0 else if lo>hi then 11 else 0
section
variable {K:Int} {g l:Bool} {dg:List UInt8} {x q:Int} {m d:List UInt8} {k0 k1 k2:Int} (hml:m.length<=18) (hdl:dg.length<=100) (hd18:d.length<=18) (h0:0<=k0) (h1:0<=k1) (h2:0<=k2)
include hml hdl hd18 h0 h1 h2
theorem CW:k8 20000000 K g l dg x q m d k0 k1 k2=some (chkB K g l dg x q m d k0 k1 k2):=by
 unfold k8 chkB
 rw [tW hml hdl h0 h1 h2,D7 20000000 g l dg x q m d k0 k1 k2 (by omega) (by omega) (by omega)]
 simp only [ob]
 by_cases k1':K=1
 ·subst k1'
  rw [ae rfl]
  simp only [tD,aj]
  by_cases hc:chkF g l dg x q m d k0 k1 k2=0
  ·rw [ae hc,hc]
   by_cases he:exD dg m d q=true
   ·rw [ae he,he];rfl
   ·rw [ab he]
    rw [CJ] at he
    rw [he];rfl
  ·rw [ab hc,bne0 hc];rfl
 ·rw [ab k1',aL.2 k1']
  simp only [af]
  have hn:(!(((g==false)&&((l==false)&&((dg==([]:aa))&&((x==0)&&((q==0)&&true)))))&&((m==([]:aa))&&((d==([]:aa))&&(((k0==0)&&((k1==0)&&((k2==0)&&true)))&&true)))))=!(Bk g l dg x q m d k0 k1 k2):=rfl
  rw [hn]
  by_cases k2':K=2
  ·subst k2'
   rw [ae (.inl rfl)]
   cases Bk g l dg x q m d k0 k1 k2<;>rfl
  ·rw [aL.2 k2']
   by_cases k3':K=3
   ·subst k3'
    rw [ae (.inr rfl)]
    cases Bk g l dg x q m d k0 k1 k2<;>rfl
   ·rw [aL.2 k3',ab (by omega)];rfl
theorem wb:ew 20000000 K g l dg x q m d k0 k1 k2=some (chkB K g l dg x q m d k0 k1 k2):=by
 unfold ew chkB
 rw [rq hdl h0 h1 h2,Am 20000000 g l dg x q m d k0 k1 k2 (by omega) (by omega) (by omega) (by omega)]
 simp only [ob]
 by_cases k1':K=1
 ·subst k1'
  rw [ae rfl]
  simp only [tD,aj]
  by_cases hc:chkF g l dg x q m d k0 k1 k2=0
  ·rw [ae hc,hc]
   by_cases he:exD dg m d q=true
   ·rw [ae he,ae he];rfl
   ·rw [ab he,ab he];rfl
  ·rw [ab hc,aL.2 hc];rfl
 ·rw [ab k1',aL.2 k1']
  simp only [af]
  have hn:(!(((g==false)&&((l==false)&&((dg==([]:aa))&&((x==0)&&((q==0)&&true)))))&&((m==([]:aa))&&((d==([]:aa))&&(((k0==0)&&((k1==0)&&((k2==0)&&true)))&&true)))))=!(Bk g l dg x q m d k0 k1 k2):=rfl
  rw [hn]
  by_cases k2':K=2
  ·subst k2'
   rw [ae (.inl rfl)]
   cases Bk g l dg x q m d k0 k1 k2<;>rfl
  ·rw [aL.2 k2']
   by_cases k3':K=3
   ·subst k3'
    rw [ae (.inr rfl)]
    cases Bk g l dg x q m d k0 k1 k2<;>rfl
   ·rw [aL.2 k3',ab (by omega)];rfl
theorem ue (hc:chkB K g l dg x q m d k0 k1 k2=0) (hk:K=1):chkF g l dg x q m d k0 k1 k2=0/\exD dg m d q=true:=by
 have _u:=And.intro hml (And.intro hdl (And.intro hd18 (And.intro h0 (And.intro h1 h2))))
 unfold chkB at hc
 rw [ae hk] at hc
 by_cases h:chkF g l dg x q m d k0 k1 k2=0
 ·rw [ae h] at hc
  by_cases he:exD dg m d q=true
  ·exact ⟨h,he⟩
  ·rw [ab he] at hc;cases hc
 ·rw [ab h] at hc;exact absurd hc h
end
theorem QK (n:Nat) (a b:Int):iS n a b=some (if a<b then -1 else if a>b then 1 else 0):=by
 unfold iS jT
 simp only [ob,eF,af]
 by_cases h:a<b
 ·rw [ar h,ae h];rfl
 ·rw [au h,ab h]
  by_cases h2:a>b
  ·rw [ar h2,ae h2];rfl
  ·rw [au h2,ab h2];rfl
theorem DD (a b:Int):∃r,jE 20000000 0 a 0 b=some r/\decide (r>0)=decide (a>b):=by
 have e8:lH 20000000 0 0=some 0:=rfl
 have o1:nW 20000000 [0,-1]=some (-1):=by kernel_rfl
 have o2:nW 20000000 [0,1]=some 1:=by kernel_rfl
 have o3:nW 20000000 [0,0]=some 0:=by kernel_rfl
 unfold jE
 rw [e8,QK]
 simp only [ob]
 by_cases h:a<b
 ·rw [ae h,o1]
  exact ⟨_,rfl,by rw [au (show ¬a>b by omega)];rfl⟩
 ·rw [ab h]
  by_cases h2:a>b
  ·rw [ae h2,o2]
   exact ⟨_,rfl,by rw [ar h2];rfl⟩
  ·rw [ab h2,o3]
   exact ⟨_,rfl,by rw [au h2];rfl⟩
theorem bne1 {K:Int} (h:K≠1):(K != 1)=true:=by simp [h]
section
variable {K:Int} {g l:Bool} {dg:List UInt8} {x q:Int} {m d:List UInt8} {k0 k1 k2:Int} {K':Int} {g' l':Bool} {dg':List UInt8} {x' q':Int} {m' d':List UInt8} {p0 p1 p2:Int} (hml:m.length<=18) (hdl:dg.length<=100) (hd18:d.length<=18) (h0:0<=k0) (h1:0<=k1) (h2:0<=k2) (hml':m'.length<=18) (hdl':dg'.length<=100) (hd18':d'.length<=18) (h0':0<=p0) (h1':0<=p1) (h2':0<=p2)
include hml hdl hd18 h0 h1 h2 hml' hdl' hd18' h0' h1' h2'
theorem Lq:kP 20000000 K g l dg x q m d k0 k1 k2 K' g' l' dg' x' q' m' d' p0 p1 p2=some (HE (chkB K g l dg x q m d k0 k1 k2) (chkB K' g' l' dg' x' q' m' d' p0 p1 p2) K K' (oi g dg x m d).1 (oi g' dg' x' m' d').2):=by
 unfold kP HE
 rw [CW hml hdl hd18 h0 h1 h2,CW hml' hdl' hd18' h0' h1' h2']
 simp only [ob]
 by_cases c1:chkB K g l dg x q m d k0 k1 k2=0
 ·rw [ab (by omega),c1]
  by_cases c2:chkB K' g' l' dg' x' q' m' d' p0 p1 p2=0
  ·rw [ab (by omega),c2]
   simp only [eF,af]
   by_cases e1:K=1
   ·rw [show (K != 1)=false by rw [e1];rfl]
    simp only [af]
    by_cases e2:K'=1
    ·rw [show (K' != 1)=false by rw [e2];rfl,ab (by omega),ab (by omega)]
     simp only [af]
     obtain ⟨f1,g1⟩:=ue hml hdl hd18 h0 h1 h2 c1 e1
     obtain ⟨f2,g2⟩:=ue hml' hdl' hd18' h0' h1' h2' c2 e2
     rw [BT hml hdl hd18 h0 h1 h2,BT hml' hdl' hd18' h0' h1' h2',ae f1,ae g1,ae f2,ae g2]
     simp only [ob]
     obtain ⟨r,r1,r2⟩:=DD (oi g dg x m d).1 (oi g' dg' x' m' d').2
     rw [r1]
     simp only [r2]
     by_cases h:(oi g dg x m d).1>(oi g' dg' x' m' d').2
     ·rw [ar h,ae h];rfl
     ·rw [au h,ab h];rfl
    ·rw [bne1 e2,ab (by omega),ae (by omega)];rfl
   ·rw [bne1 e1]
    by_cases e2:K'=1
    ·rw [show (K' != 1)=false by rw [e2];rfl,ab (by omega),ae (by omega)];rfl
    ·rw [bne1 e2,ae (by omega)];rfl
  ·rw [ae c2,bne0 c2];rfl
 ·rw [ae c1,bne0 c1];rfl
theorem Jd:iM 20000000 K g l dg x q m d k0 k1 k2 K' g' l' dg' x' q' m' d' p0 p1 p2=some (HE (chkB K g l dg x q m d k0 k1 k2) (chkB K' g' l' dg' x' q' m' d' p0 p1 p2) K K' (oi g dg x m d).1 (oi g' dg' x' m' d').2):=by
 unfold iM HE
 rw [wb hml hdl hd18 h0 h1 h2,wb hml' hdl' hd18' h0' h1' h2']
 simp only [ob]
 by_cases c1:chkB K g l dg x q m d k0 k1 k2=0
 ·rw [ab (by omega),c1]
  by_cases c2:chkB K' g' l' dg' x' q' m' d' p0 p1 p2=0
  ·rw [ab (by omega),c2]
   simp only [eF,af]
   by_cases e1:K=1
   ·rw [show (K != 1)=false by rw [e1];rfl,show (K==1)=true by rw [e1];rfl]
    simp only [af,aj]
    by_cases e2:K'=1
    ·rw [show (K'==1)=true by rw [e2];rfl,ab (by omega),ab (by omega)]
     simp only [aj]
     obtain ⟨f1,g1⟩:=ue hml hdl hd18 h0 h1 h2 c1 e1
     obtain ⟨f2,g2⟩:=ue hml' hdl' hd18' h0' h1' h2' c2 e2
     obtain ⟨rfl,E1⟩:=ub f1 g1
     obtain ⟨rfl,E2⟩:=ub f2 g2
     rw [tk E1 hdl,tk E2 hdl']
     simp only [ob]
     by_cases h:(oi g dg x m d).1>(oi g' dg' x' m' d').2
     ·rw [ar h,ae h];rfl
     ·rw [au h,ab h];rfl
    ·rw [aL.2 e2,ab (by omega),ae (by omega)];rfl
   ·rw [bne1 e1,aL.2 e1]
    by_cases e2:K'=1
    ·rw [show (K' != 1)=false by rw [e2];rfl,ab (by omega),ae (by omega)];rfl
    ·rw [bne1 e2,ae (by omega)];rfl
  ·rw [ae c2,bne0 c2];rfl
 ·rw [ae c1,bne0 c1];rfl
end
def plR (r:DR):Nat:=r.2.2.2.2.2.2.2.2.1.1
def enR (r:DR):Nat:=r.2.2.2.2.2.2.2.2.2
theorem EE {l:aa} {b:UInt8} (h:l.take 2=[b,b]):∃r,l=b::b::r:=by
 match l,h with
 | a::c::r,h=>simp at h;exact ⟨r,by rw [h.1,h.2]⟩
theorem IX {S:aa} {a:Nat} (h:a<=S.length) {r:DR} (hr:g9 S a=.inr r):rh S a=.inr r/\chkR r=0:=by
 unfold g9 at hr
 cases hd:rh S a with
 | inl k=>rw [hd] at hr;cases hr
 | inr r'=>
  rw [hd] at hr
  simp only [] at hr
  by_cases hc:chkR r'=0
  ·rw [ae hc] at hr
   obtain rfl:=Sum.inr.inj hr
   exact ⟨rfl,hc⟩
  ·rw [ab hc] at hr;cases hr
def KI (S:aa) (A:Int):(Nat×Nat×Nat)⊕DR->Bool×Bool×aa×Int×Int×aa×aa×Int×Int×Int×Int×aa×Int×Int
 | .inl (k,E,p)=>(false,false,[],0,0,[],[],0,0,0,A,S,(k:Int),(E:Int))
 | .inr (g,l,dg,x,s,m,d,M,P,e)=>(g,l,dg,(x:Int),(s:Int),m,d,(M.1:Int),(M.2.1:Int),(M.2.2:Int),(P.1:Int),S,(e:Int),0)
theorem w9 (S:aa) (a:Nat) (h:a<=S.length) (hS:S.length<100000):∃A,iK 20000000 S (a:Int)=some (KI S A (g9 S a)):=by
 obtain ⟨Q,hQ,hr⟩:=Bn 19999700 S a h hS (by omega)
 rw [show 19999700+300=20000000 from rfl] at hr
 obtain ⟨q0,q1,q2,rfl⟩:∃q0 q1 q2,Q=[q0,q1,q2]:=by
  match Q,hQ with
  | [q0,q1,q2],_=>exact ⟨q0,q1,q2,rfl⟩
 unfold iK g9
 rw [hr]
 cases hd:rh S a with
 | inl k=>exact ⟨q0,rfl⟩
 | inr r=>
  obtain ⟨g,l,dg,x,s,mm,d,M,P,e⟩:=r
  have hok:=yj h hd
  have hM:=hok.all
  have h17:=hok.dg17
  simp only [ob,Nd,d4,d8,eF,af]
  rw [rq (g:=g) (l:=l) (x:=(x:Int)) (q:=(s:Int)) (m:=mm) (d:=d) (show dg.length<=100 by omega) (show (0:Int)<=(M.1:Int) by omega) (show (0:Int)<=(M.2.1:Int) by omega) (show (0:Int)<=(M.2.2:Int) by omega)]
  have hcs:=to (g:=g) (l:=l) (dg:=dg) (x:=(x:Int)) (q:=(s:Int)) (m:=mm) (d:=d) (k0:=(M.1:Int)) (k1:=(M.2.1:Int)) (k2:=(M.2.2:Int)) (vU hM)
  unfold chkR
  simp only []
  refine ⟨(P.1:Int),?_⟩
  rcases hcs with hc | hc | hc | hc<;>rw [hc]<;>rfl
theorem rV {S:aa} {a:Nat} (h:a<=S.length) {k E p:Nat} (hr:g9 S a=.inl (k,E,p)):E≠0:=by
 unfold g9 at hr
 cases hd:rh S a with
 | inl k'=>rw [hd] at hr;simp only [] at hr;have:=Sum.inl.inj hr;simp at this;omega
 | inr r'=>
  rw [hd] at hr
  simp only [] at hr
  by_cases hc:chkR r'=0
  ·rw [ae hc] at hr;cases hr
  ·rw [ab hc] at hr
   have:=Sum.inl.inj hr
   simp at this
   omega
def smT (x:TD):Prop:=x.2.2.2.2.2.1.length<=18/\x.2.2.1.length<=100/\x.2.2.2.2.2.2.1.length<=18/\0<=x.2.2.2.2.2.2.2.1/\0<=x.2.2.2.2.2.2.2.2.1/\0<=x.2.2.2.2.2.2.2.2.2
noncomputable def cF (x:TD):Int:=chkF x.1 x.2.1 x.2.2.1 x.2.2.2.1 x.2.2.2.2.1 x.2.2.2.2.2.1 x.2.2.2.2.2.2.1 x.2.2.2.2.2.2.2.1 x.2.2.2.2.2.2.2.2.1 x.2.2.2.2.2.2.2.2.2
def exT (x:TD):Bool:=exD x.2.2.1 x.2.2.2.2.2.1 x.2.2.2.2.2.2.1 x.2.2.2.2.1
def dyT (x:TD):Int×Int:=oi x.1 x.2.2.1 x.2.2.2.1 x.2.2.2.2.2.1 x.2.2.2.2.2.2.1
def seT (x:TD):Int:=sea x.2.2.2.2.2.1
def coT (x:TD):Nat:=da x.2.2.2.2.2.1 x.2.2.2.2.2.2.1
noncomputable def plT (x:TD):Bool:=decide (cF x=0)&&(exT x&&!decide (0<seT x))
theorem zO:smT d0:=by unfold smT;simp
theorem fcT {x:TD} (h:smT x):ap10 (bp 20000000) x=some (cF x):=tW h.1 h.2.1 h.2.2.2.1 h.2.2.2.2.1 h.2.2.2.2.2
theorem rcT {x:TD} (h:smT x):ap10 (bG 20000000) x=some (cF x):=rq h.2.1 h.2.2.2.1 h.2.2.2.2.1 h.2.2.2.2.2
theorem reT {x:TD} (h:smT x):ap10 (bf 20000000) x=some (if exT x then 1 else 0):=by
 obtain ⟨a,b,c,_⟩:=h
 exact Am 20000000 _ _ _ _ _ _ _ _ _ _ (by omega) (by omega) (by omega) (by omega)
theorem rsT (x:TD):ap10 (aR 20000000) x=some (seT x):=nO 20000000 (by omega) _ _ _ _ _ _ _ _ _ _
theorem rcoT (x:TD):ap10 (aC 20000000) x=some ((coT x:Nat):Int):=nz 20000000 _ _ _ _ _ _ _ _ _ _
theorem fpT {x:TD} (h:smT x):ap10 (be 20000000) x=some (if x.2.2.2.2.2.2.1=[] then (if 0<seT x then 0 else if x.2.2.2.2.2.1=[] then 1 else 2) else 3):=Hd 20000000 _ _ _ _ _ _ _ _ _ _ h.1
theorem fmT {x:TD} (h:smT x):ap10 (fC 20000000) x=some (hasX x.2.2.1||(hasX x.2.2.2.2.2.1||hasX x.2.2.2.2.2.2.1)):=by
 obtain ⟨a,b,c,_⟩:=h
 exact AR 20000000 _ _ _ _ _ _ _ _ _ _ (by omega) (by omega) (by omega)
theorem fdT {x:TD} (h:smT x):ap10 (fS 20000000) x=some (if cF x=0 then (if exT x=true then (0,(dyT x).1,0,(dyT x).2,0) else (0,0,0,0,1)) else (0,0,0,0,cF x)):=BT h.1 h.2.1 h.2.2.1 h.2.2.2.1 h.2.2.2.2.1 h.2.2.2.2.2
theorem N0 {x:TD} (hc:cF x=0) (he:exT x=true):x.2.2.2.2.1=0/\Exact x.1 x.2.1 x.2.2.1 x.2.2.2.1 x.2.2.2.2.2.1 x.2.2.2.2.2.2.1:=ub hc he
theorem rdT {x:TD} (h:smT x) (hc:cF x=0) (he:exT x=true):ap10 (bg 20000000) x=some (dyT x):=by
 obtain ⟨h0,E⟩:=N0 hc he
 have:=tk (k0:=x.2.2.2.2.2.2.2.1) (k1:=x.2.2.2.2.2.2.2.2.1) (k2:=x.2.2.2.2.2.2.2.2.2) E h.2.1
 rw [<-h0] at this
 exact this
theorem uB {x:TD} (hc:cF x=0):(x.2.2.2.2.2.1=[]\/x.2.2.2.2.2.1.length=2)/\(x.2.2.2.2.2.2.1=[]\/x.2.2.2.2.2.2.1.length=2)/\(x.2.2.2.2.2.2.1≠[]->x.2.2.2.2.2.1≠[]/\seT x=0):=by
 obtain ⟨_,a,b,_,c⟩:=rJ (pH hc)
 exact ⟨a,b,c⟩
theorem oh {x y:TD}:eqD x y=true↔x=y:=by
 obtain ⟨a1,a2,a3,a4,a5,a6,a7,a8,a9,a10⟩:=x
 obtain ⟨b1,b2,b3,b4,b5,b6,b7,b8,b9,b10⟩:=y
 simp [and_assoc]
theorem C9 {x:TD} (h:smT x):mW 20000000 x=some (exT x):=by
 unfold mW
 rw [fmT h]
 simp only [ob,exT,exD]
 cases (hasX x.2.2.1||(hasX x.2.2.2.2.2.1||hasX x.2.2.2.2.2.2.1))<;>rfl
theorem yO {x:TD} (h:smT x):kQ 20000000 x=some (plT x):=by
 unfold kQ plT
 rw [fcT h,C9 h,fpT h]
 simp only [ob]
 by_cases hc:cF x=0
 ·rw [hc]
  cases he:exT x
  ·rfl
  ·show some ((if _ then _ else _) != (0:Int))=some (true&&(true&&!decide (0<seT x)))
   obtain ⟨_,_,h3⟩:=uB hc
   by_cases hd:x.2.2.2.2.2.2.1=[]
   ·rw [ae hd]
    by_cases hs:0<seT x
    ·rw [ae hs,ar hs];rfl
    ·rw [ab hs,au hs]
     by_cases hm:x.2.2.2.2.2.1=[]
     ·rw [ae hm];rfl
     ·rw [ab hm];rfl
   ·rw [ab hd,(h3 hd).2];rfl
 ·rw [au hc,show (cF x==0)=false from by simp [hc]];rfl
theorem qZ {x:TD} (h:smT x):ba 20000000 x=some (if plT x then 1 else 0):=by
 unfold ba plT
 rw [rcT h,reT h,rsT x]
 simp only [ob]
 by_cases hc:cF x=0
 ·rw [hc]
  cases he:exT x
  ·rfl
  ·by_cases hs:0<seT x
   ·have h2:decide (seT x>0)=true:=ar hs
    rw [ar hs];rfl
   ·have h2:decide (seT x>0)=false:=au hs
    rw [au hs];rfl
 ·rw [au hc,show (cF x != 0)=true from by simp [hc]];rfl
theorem vL {x:TD}:plT x=true↔cF x=0/\exT x=true/\¬0<seT x:=by
 unfold plT
 simp [and_assoc]
noncomputable def ordB (x y:TD):Bool:=(plT x&&plT y)&&(decide (coT x=coT y)&&decide ((dyT x).1<=(dyT y).1))
theorem xJ {x:TD} (hc:cF x=0) (hs:¬0<seT x):(if x.2.2.2.2.2.2.1=[] then (if 0<seT x then (0:Int) else if x.2.2.2.2.2.1=[] then 1 else 2) else 3)=((coT x:Nat):Int):=by
 obtain ⟨_,_,h3⟩:=uB hc
 unfold coT da
 by_cases hd:x.2.2.2.2.2.2.1=[]
 ·rw [ae hd,ab hs]
  by_cases hm:x.2.2.2.2.2.1=[]
  ·simp [hm,hd]
  ·simp [hm,hd]
 ·have hm:=(h3 hd).1
  simp [hd,hm]
theorem EQ {x y:TD} (hx:smT x) (hy:smT y):mi 20000000 x y=some (ordB x y):=by
 unfold mi ordB
 rw [yO hx,yO hy]
 cases px:plT x
 ·rfl
 cases py:plT y
 ·rfl
 obtain ⟨c1,e1,s1⟩:=vL.1 px
 obtain ⟨c2,e2,s2⟩:=vL.1 py
 rw [fpT hx,fpT hy,fdT hx,fdT hy,xJ c1 s1,xJ c2 s2,ae c1,ae c2,ae e1,ae e2]
 simp only [ob,u5,u4,u3,u2,dq,af,GB,m4]
 by_cases hcc:coT x=coT y
 ·rw [hcc,ar rfl]
  obtain ⟨r,q1,q2⟩:=DD (dyT x).1 (dyT y).1
  simp only [eF,af,q1,m4]
  refine dp some ?_
  have:decide (r<=0)=!decide (r>0):=by
   by_cases hr:r<=0
   ·rw [ar hr,au (by omega)];rfl
   ·rw [au hr,ar (by omega)];rfl
  rw [this,q2]
  by_cases hd:(dyT x).1<=(dyT y).1
  ·rw [ar hd,au (by omega)];rfl
  ·rw [au hd,ar (by omega)];rfl
 ·have:(((coT x:Nat):Int) != ((coT y:Nat):Int))=true:=by simp;omega
  rw [this,au hcc];rfl
noncomputable def itE (x:TD) (r:Bool) (y:TD) (all:Bool):Int:=
 if cF x≠0 then cF x else if r=true/\cF y≠0 then cF y else if r=false/\eqD y d0=false then 5 else if r=true/\ordB x y=false then 10 else if all=true/\exT x=false then 10 else 0
theorem z7 {x y:TD} (r:Bool) (hx:smT x) (hy:smT y) (K:Int) (hc:cF x=0) (hcy:¬(r=true/\cF y≠0)):dR 20000000 5 10 10 x r y K=some (itE x r y (K==4)):=by
 unfold dR pU pt pP itE
 rw [EQ hx hy,C9 hx,ab (by simpa using hc),ab hcy]
 cases r
 ·generalize eqD y d0=z
  cases z
  ·rfl
  ·cases (K==4)
   ·rfl
   ·cases exT x<;>rfl
 ·simp only [ob,dq,af,aj,reduceCtorEq,vh,aE,ja]
  cases ordB x y
  ·rfl
  ·simp only [dq,af,Bool.true_eq_false,aE]
   cases (K==4)
   ·rfl
   ·cases exT x<;>rfl
theorem B6 {x y:TD} (r:Bool) (hx:smT x) (hy:smT y) (K:Int):fw 20000000 x r y K=some (if K=3\/K=4 then itE x r y (K==4) else 18):=by
 have main:(ob (ap10 (bp 20000000) x) λv0=>(cond (v0 != 0) (some v0) (cond r (ob (ap10 (bp 20000000) y) λv1=>(cond (v1 != 0) (some v1) (ob (dR 20000000 5 10 10 x r y K) λv2=>(some v2)))) (ob (dR 20000000 5 10 10 x r y K) λv3=>(some v3)))))=some (itE x r y (K==4)):=by
  rw [fcT hx]
  simp only [ob]
  by_cases hc:cF x=0
  ·rw [show (cF x != 0)=false from by simp [hc],af]
   cases r
   ·rw [z7 false hx hy K hc (by simp)];rfl
   ·rw [aj,fcT hy]
    simp only
    by_cases hcy:cF y=0
    ·rw [show (cF y != 0)=false from by simp [hcy],af,z7 true hx hy K hc (by simp [hcy])]
    ·rw [show (cF y != 0)=true from by simp [hcy],aj]
     unfold itE
     rw [ab (by simpa using hc),ae ⟨rfl,hcy⟩]
  ·rw [show (cF x != 0)=true from by simp [hc],aj]
   unfold itE
   rw [ae hc]
 unfold fw
 by_cases h3:K=3
 ·subst h3;exact main.trans (by rfl)
 ·rw [show (K != 3)=true from by simp [h3],aj]
  by_cases h4:K=4
  ·subst h4;exact main.trans (by rfl)
  ·rw [show (K != 4)=true from by simp [h4],aj,ab (by omega)]
theorem NO {x y:TD} {r all:Bool} (h:cF x≠0):itE x r y all=cF x:=ae h
theorem KM {x y:TD} {all:Bool} (hc:cF x=0) (h:cF y≠0):itE x true y all=cF y:=by
 unfold itE;rw [ab (λh=>h hc),ae ⟨rfl,h⟩]
theorem Lg {x y:TD} {all:Bool} (hc:cF x=0):itE x false y all=if eqD y d0=false then 5 else if all=true/\exT x=false then 10 else 0:=by
 have h1:(false=true/\cF y≠0)↔False:=by simp
 have h2:(false=true/\ordB x y=false)↔False:=by simp
 have h3:(false=false/\eqD y d0=false)↔eqD y d0=false:=by simp
 unfold itE;rw [ab (λh=>h hc)];simp only [h1,h2,aE,ja]
theorem Nh {x y:TD} {all:Bool} (hc:cF x=0) (hy:cF y=0):itE x true y all=if ordB x y=false then 10 else if all=true/\exT x=false then 10 else 0:=by
 have h2:(true=true/\ordB x y=false)↔ordB x y=false:=by simp
 have h3:(true=false/\eqD y d0=false)↔False:=by simp
 unfold itE;rw [ab (λh=>h hc),ab (λh=>h.2 hy)];simp only [h3,aE,ja]
theorem NI (a b:Bool):(IntKind.wrap .i64 ((if a then (1:Int) else 0)*(if b then (1:Int) else 0))==0)=!(a&&b):=by cases a<;>cases b<;>rfl
theorem EU {x y:TD} (r all:Bool) (hx:smT x) (hy:smT y):iD 20000000 x r y all=some (itE x r y all):=by
 have last:cond all (ob (ap10 (bf 20000000) x) λv11=>(cond (v11==0) (some 10) (some 0))) (some 0)=some (if all=true/\exT x=false then (10:Int) else 0):=by
  rw [reT hx]
  cases all
  ·rfl
  ·cases exT x<;>rfl
 unfold iD
 simp only [last]
 simp only [rcT hx,rcT hy,qZ hx,qZ hy,rcoT,ob,NI]
 by_cases hc:cF x=0
 ·rw [show (cF x != 0)=false from by simp [hc],af]
  cases r
  ·simp only [af,i6,aj]
   rw [Lg hc]
   generalize eqD y d0=z
   cases z<;>rfl
  ·simp only [aj,dq,af]
   by_cases hcy:cF y=0
   ·rw [show (cF y != 0)=false from by simp [hcy],af]
    rw [Nh hc hcy]
    unfold ordB
    cases px:plT x
    ·simp
    cases py:plT y
    ·simp
    obtain ⟨c1,e1,s1⟩:=vL.1 px
    obtain ⟨c2,e2,s2⟩:=vL.1 py
    rw [rdT hx c1 e1,rdT hy c2 e2]
    simp only [u2,GB,dq,af,m4,ja]
    by_cases hcc:coT x=coT y
    ·rw [hcc,ar rfl]
     simp only [eF,af,m4]
     by_cases hd:(dyT x).1<=(dyT y).1
     ·rw [show decide ((dyT x).1>(dyT y).1)=false from au (by omega),ar hd]
      simp
     ·rw [show decide ((dyT x).1>(dyT y).1)=true from ar (by omega),au hd]
      simp
    ·have:(((coT x:Nat):Int) != ((coT y:Nat):Int))=true:=by simp;omega
     rw [this,au hcc]
     simp
   ·rw [show (cF y != 0)=true from by simp [hcy],aj]
    rw [KM hc hcy]
 ·rw [show (cF x != 0)=true from by simp [hc],aj]
  rw [NO hc]
def mA {A:Type} (f:Nat->A->Int):Nat->List A->Option (Nat×Int)
 | _,[]=>none
 | i,t::r=>if f i t≠0 then some (i,f i t) else mA f (i+1) r
theorem tv {A X Y:Type} {step:X->Option (X⊕Y)} {st:Nat->X} {L:List A} {f:Nat->A->Int} {yes:Nat->Int->Y} {no:Y}
  (h1:∀i t,L[i]?=some t->step (st i)=some (if f i t≠0 then .inr (yes i (f i t)) else .inl (st (i+1)))) (h2:step (st L.length)=some (.inr no)):
  ∀(r i:Nat),i+r=L.length->∀N,r<N->am step N (st i)=some (match mA f i (L.drop i) with | some p=>yes p.1 p.2 | none=>no):=by
 intro r
 induction r with
 | zero=>
  intro i hi N hN
  obtain ⟨N,rfl⟩:∃k,N=k+1:=⟨N - 1,by omega⟩
  rw [am,show i=L.length by omega,h2,In]
  rfl
 | succ r ih=>
  intro i hi N hN
  obtain ⟨N,rfl⟩:∃k,N=k+1:=⟨N - 1,by omega⟩
  have hil:i<L.length:=by omega
  have he:L[i]?=some L[i]:=bi hil
  rw [am,h1 i _ he,uN hil,mA]
  by_cases hf:f i L[i]≠0
  ·rw [ae hf,ae hf]
  ·rw [ab hf,ab hf]
   exact ih (i+1) (by omega) N (by omega)
abbrev rT (t:TI):Bool:=(d8 t).2.2.1
abbrev iT (t:TI):TD:=(d8 t).2.2.2
def smI (t:TI):Prop:=smT (iF t)/\smT (iT t)
noncomputable def itI (t:TI) (all:Bool):Int:=itE (iF t) (rT t) (iT t) all
noncomputable def endB (t:TI):Bool:=!rT t&&plT (iF t)
noncomputable def errI (K:Int) (e l:Bool) (n i:Nat) (t:TI):Int:=
 if itI t (K==4)≠0 then itI t (K==4) else if (e&&decide (i=0))&&!endB t||((l&&decide (i+1=n))&&!endB t||(e&&(l&&decide (n=1)))) then 10 else 0
noncomputable def tK (K:Int) (e l:Bool) (L:List TI):Int×Int:=match mA (errI K e l L.length) 0 L with
 | some p=>((p.1:Int),p.2)
 | none=>(0,0)
theorem sV {i:Nat} (h:i<9223372036854775807):w64 ((i:Int)+1)=((i+1:Nat):Int):=by
 show IntKind.wrap .i64 _=_
 rw [wrap_i64 _ (by omega) (by omega)];omega
theorem Gu {i:Nat} (h0:0<i) (h:i<9223372036854775807):w64 ((i:Int) - 1)=((i - 1:Nat):Int):=by
 show IntKind.wrap .i64 _=_
 rw [wrap_i64 _ (by omega) (by omega)];omega
theorem natB (a b:Nat):(((a:Nat):Int)==((b:Nat):Int))=decide (a=b):=by
 by_cases h:a=b
 ·subst h;simp
 ·rw [au h];simp;omega
theorem Fs (a:Nat):(((a:Nat):Int)==0)=decide (a=0):=natB a 0
theorem OE {x y:TD} (r:Bool) (hx:smT x):mS 20000000 x r y=some (!r&&plT x):=by
 unfold mS
 rw [yO hx]
 cases r<;>rfl
theorem Hg {K:Int} (hK:K=3\/K=4) {e l:Bool} {L:List TI} {i:Nat} {t:TI} (hi:L[i]?=some t) (hs:smI t) (hn:L.length<=1000000) (D:TD) (KF:Int) (DF:TD) (KT:Int) (DT:TD):
  fZ 20000000 (itI t (K==4)) 10 10 10 (iF t) (rT t) (iT t) K D KF DF KT DT e l (i:Int) (w64 (len L - 1)) L=some (errI K e l L.length i t):=by
 have hil:i<L.length:=(n8.1 hi).1
 have hlast:w64 (len L - 1)=((L.length - 1:Nat):Int):=Gu (by omega) (by omega)
 have hIt:fw 20000000 (iF t) (rT t) (iT t) K=some (itI t (K==4)):=by
  rw [B6 _ hs.1 hs.2,ae hK];rfl
 unfold fZ oe oI n9 oF errI
 rw [hIt,hlast]
 simp only [OE (rT t) hs.1,ob,Fs,natB]
 have e1:decide (i=L.length - 1)=decide (i+1=L.length):=by congr 1;exact propext (by omega)
 have e2:decide (L.length - 1=0)=decide (L.length=1):=by congr 1;exact propext (by omega)
 rw [e1,e2]
 show cond (itI t (K==4) != 0) _ _=_
 by_cases h0:itI t (K==4)=0
 ·rw [ab (λh=>h h0),show (itI t (K==4) != 0)=false from by simp [h0],af]
  show _=some (if ((e&&decide (i=0))&&!endB t||((l&&decide (i+1=L.length))&&!endB t||(e&&(l&&decide (L.length=1)))))=true then 10 else 0)
  unfold endB
  generalize (!rT t&&plT (iF t))=z
  generalize decide (i=0)=a
  generalize decide (i+1=L.length)=b
  generalize decide (L.length=1)=c
  cases e<;>cases l<;>cases z<;>cases a<;>cases b<;>cases c<;>rfl
 ·rw [ae h0,show (itI t (K==4) != 0)=true from by simp [h0],aj]
theorem JH {K:Int} (hK:K=3\/K=4) {e l:Bool} {L:List TI} (hs:∀t∈L,smI t) (hn:L.length<=1000000) (D:TD) (KF:Int) (DF:TD) (KT:Int) (DT:TD):
  kH 20000000 K D KF DF KT DT e l L=some (tK K e l L):=by
 have:=tv (step:=eU 20000000) (st:=λi=>(len L,(i:Int),L,K,D,KF,DF,KT,DT,e,l,w64 (len L - 1))) (L:=L) (f:=errI K e l L.length) (yes:=λi q=>.inl ((i:Int),q)) (no:=.inr ())
  (λi t hi=>by
   have hil:i<L.length:=(n8.1 hi).1
   have hst:=hs t (gU hi)
   have hIt:fw 20000000 (iF t) (rT t) (iT t) K=some (itI t (K==4)):=by
    rw [B6 _ hst.1 hst.2,ae hK];rfl
   unfold eU
   simp only [u12,u11,u10,u9,u8,u7,u6,u5,u4,u3,u2]
   rw [ar (show (i:Int)<len L by unfold len;omega),dF hil]
   simp only [aj,ob,hi]
   rw [show fw 20000000 (iF t) (d8 t).2.2.1 (d8 t).2.2.2 K=some (itI t (K==4)) from hIt]
   simp only
   rw [show fZ 20000000 (itI t (K==4)) 10 10 10 (iF t) (d8 t).2.2.1 (d8 t).2.2.2 K D KF DF KT DT e l (i:Int) (w64 (len L - 1)) L=some (errI K e l L.length i t) from Hg hK hi hst hn D KF DF KT DT]
   simp only
   rw [sV (by omega)]
   by_cases h0:errI K e l L.length i t=0
   ·rw [ab (λh=>h h0),show (errI K e l L.length i t != 0)=false from by simp [h0]];rfl
   ·rw [ae h0,show (errI K e l L.length i t != 0)=true from by simp [h0]];rfl)
  (by
   unfold eU
   simp only [u12,u11,u10,u9,u8,u7,u6,u5,u4,u3,u2]
   rw [au (show ¬((L.length:Nat):Int)<len L by unfold len;omega)]
   rfl)
  L.length 0 (by omega) 20000000 (by omega)
 unfold kH tK
 rw [gF] at this
 show obs (am (eU 20000000) 20000000 (len L,((0:Nat):Int),L,K,D,KF,DF,KT,DT,e,l,w64 (len L - 1))) _ _=_
 rw [this]
 cases mA (errI K e l L.length) 0 L<;>rfl
noncomputable def M9 (K:Int) (x:TD):Int:=chkB K x.1 x.2.1 x.2.2.1 x.2.2.2.1 x.2.2.2.2.1 x.2.2.2.2.2.1 x.2.2.2.2.2.2.1 x.2.2.2.2.2.2.2.1 x.2.2.2.2.2.2.2.2.1 x.2.2.2.2.2.2.2.2.2
noncomputable def Ml (K:Int) (x:TD) (K':Int) (y:TD):Int:=HE (M9 K x) (M9 K' y) K K' (dyT x).1 (dyT y).2
theorem K4 {x y:TD} (hx:smT x) (hy:smT y) (K K':Int):ap10 (ap10 (kP 20000000 K) x K') y=some (Ml K x K' y):=
 Lq hx.1 hx.2.1 hx.2.2.1 hx.2.2.2.1 hx.2.2.2.2.1 hx.2.2.2.2.2 hy.1 hy.2.1 hy.2.2.1 hy.2.2.2.1 hy.2.2.2.2.1 hy.2.2.2.2.2
theorem Mb {x y:TD} (hx:smT x) (hy:smT y) (K K':Int):ap10 (ap10 (iM 20000000 K) x K') y=some (Ml K x K' y):=
 Jd hx.1 hx.2.1 hx.2.2.1 hx.2.2.2.1 hx.2.2.2.2.1 hx.2.2.2.2.2 hy.1 hy.2.1 hy.2.2.1 hy.2.2.2.1 hy.2.2.2.2.1 hy.2.2.2.2.2
def unuB (K:Int) (D:TD) (KF:Int) (DF:TD) (KT:Int) (DT:TD) (e l:Bool) (n:Nat):Bool:=
 !(K==1||eqD D d0)||(!(K==2||((KF==0)&&((eqD DF d0)&&true))&&((KT==0)&&((eqD DT d0)&&true)))||!(K==3||(K==4||(decide (n=0)&&(!e&&!l)))))
theorem FZ (n:Nat) (K:Int) (D:TD) (KF:Int) (DF:TD) (KT:Int) (DT:TD) (e l:Bool) (L:List TI):
  lg n K D KF DF KT DT e l L=some (unuB K D KF DF KT DT e l L.length):=by
 unfold lg unuB
 rw [show (len L==0)=decide (L.length=0) from Fs _]
 generalize eqD D d0=z0
 generalize ((KF==0)&&((eqD DF d0)&&true))=z1
 generalize ((KT==0)&&((eqD DT d0)&&true))=z2
 generalize decide (L.length=0)=z3
 generalize (K==1)=k1
 generalize (K==2)=k2
 generalize (K==3)=k3
 generalize (K==4)=k4
 revert z0 z1 z2 z3 k1 k2 k3 k4 e l
 decide +kernel
noncomputable def jm (K:Int) (D:TD) (KF:Int) (DF:TD) (KT:Int) (DT:TD) (e l:Bool) (L:List TI):Int×Int:=
 if K<1\/4<K then (0,18) else if unuB K D KF DF KT DT e l L.length=true then (0,5) else if K=1 then (0,cF D) else if K=2 then (0,Ml KF DF KT DT) else if L.length=0 then (0,17) else if 256<L.length then (0,3) else tK K e l L
def smE (D DF DT:TD) (L:List TI):Prop:=smT D/\smT DF/\smT DT/\∀t∈L,smI t
theorem D2 {K:Int} {D:TD} {KF:Int} {DF:TD} {KT:Int} {DT:TD} {e l:Bool} {L:List TI} (h:smE D DF DT L):
  kJ 20000000 K D KF DF KT DT e l L=some (jm K D KF DF KT DT e l L):=by
 obtain ⟨hD,hF,hT,hL⟩:=h
 unfold kJ jm
 by_cases h1:K<1
 ·rw [ar h1,ae (.inl h1)];rfl
 by_cases h4:4<K
 ·rw [au h1,show decide (K>4)=true from ar h4,ae (.inr h4)];rfl
 rw [au h1,show decide (K>4)=false from au h4,ab (by omega),FZ]
 simp only [af,ob]
 cases unuB K D KF DF KT DT e l L.length
 ·simp only [af,bP,aE]
  by_cases k1:K=1
  ·rw [ae k1,show (K==1)=true from by simp [k1],fcT hD];rfl
  by_cases k2:K=2
  ·rw [ab k1,ae k2,show (K==1)=false from by simp [k1],show (K==2)=true from by simp [k2],K4 hF hT];rfl
  rw [ab k1,ab k2,show (K==1)=false from by simp [k1],show (K==2)=false from by simp [k2]]
  simp only [af]
  rw [show (len L==0)=decide (L.length=0) from Fs _]
  by_cases l0:L.length=0
  ·rw [ar l0,ae l0];rfl
  rw [au l0,ab l0]
  by_cases l1:256<L.length
  ·rw [show decide (len L>256)=true from ar (by show (256:Int)<((L.length:Nat):Int);omega),ae l1];rfl
  rw [show decide (len L>256)=false from au (by show ¬(256:Int)<((L.length:Nat):Int);omega),ab l1,JH (by omega) hL (by omega)]
  rfl
 ·rfl
theorem Mr (n:Nat) (i:Int) (L:List TI) (K:Int) (D:TD) (KF:Int) (DF:TD) (KT:Int) (DT:TD) (e l:Bool) (x:TD) (r:Bool) (y:TD):
  gm n i L K D KF DF KT DT e l x r y=some (i,e&&(i==0),l&&(i==w64 (len L - 1)),L,K,D,KF,DF,KT,DT,e,l,x,r,y):=by
 unfold gm
 cases e<;>cases l<;>rfl
theorem LK (i:Int) (a b:Bool) (L:List TI) (K:Int) (D:TD) (KF:Int) (DF:TD) (KT:Int) (DT:TD) (e l:Bool) (x:TD) (r:Bool) (y:TD) (hx:smT x):
  gg 20000000 i a b L K D KF DF KT DT e l x r y=some (i,(a&&b)||((a||b)&&(r||!plT x)),L,K,D,KF,DF,KT,DT,e,l):=by
 unfold gg
 rw [qZ hx]
 cases a<;>cases b<;>cases r<;>cases plT x<;>rfl
theorem Fg {K:Int} (hK:K=3\/K=4) {e l:Bool} {L:List TI} (hs:∀t∈L,smI t) (hn:L.length<=1000000) (D:TD) (KF:Int) (DF:TD) (KT:Int) (DT:TD):
  am (dL 20000000) 20000000 (0,L,K,D,KF,DF,KT,DT,e,l)=some (match mA (errI K e l L.length) 0 L with | some p=>.inl ((p.1:Int),p.2) | none=>.inr ()):=by
 have:=tv (step:=dL 20000000) (st:=λi=>((i:Int),L,K,D,KF,DF,KT,DT,e,l)) (L:=L) (f:=errI K e l L.length) (yes:=λi q=>.inl ((i:Int),q)) (no:=.inr ())
  (λi t hi=>by
   have hil:i<L.length:=(n8.1 hi).1
   have hst:=hs t (gU hi)
   have hIt:iD 20000000 (iF t) (d8 t).2.2.1 (d8 t).2.2.2 (K==4)=some (itI t (K==4)):=EU _ _ hst.1 hst.2
   have hlast:w64 (len L - 1)=((L.length - 1:Nat):Int):=Gu (by omega) (by omega)
   unfold dL
   simp only [u15,u14,u13,u12,u11,u10,u9,u8,u7,u6,u5,u4,u3,u2]
   rw [ar (show (i:Int)<len L by unfold len;omega),dF hil]
   simp only [aj,ob,hi,hIt]
   by_cases h0:itI t (K==4)=0
   ·rw [show (itI t (K==4) != 0)=false from by simp [h0],af]
    simp only [Mr,hlast,Fs,natB,u15,u14,u13,u12,u11,u10,u9,u8,u7,u6,u5,u4,u3,u2]
    rw [LK _ _ _ _ _ _ _ _ _ _ _ _ _ _ _ hst.1]
    simp only [u11,u10,u9,u8,u7,u6,u5,u4,u3,u2]
    have e1:decide (i=L.length - 1)=decide (i+1=L.length):=by congr 1;exact propext (by omega)
    have e3:(decide (i=0)&&decide (i+1=L.length))=(decide (L.length=1)&&decide (i=0)):=by
     by_cases hi0:i=0
     ·subst hi0
      rw [ar rfl,m4,wY]
      congr 1;exact propext (by omega)
     ·rw [au hi0,C2];rfl
    have e4:decide (L.length=1)=true->decide (i=0)=true:=λh=>ar (by have:=of_decide_eq_true h;omega)
    have hE:errI K e l L.length i t=if ((e&&decide (i=0))&&(l&&decide (i+1=L.length)))||(((e&&decide (i=0))||(l&&decide (i+1=L.length)))&&(rT t||!plT (iF t))) then 10 else 0:=by
     unfold errI endB
     rw [h0,ab (λh=>h rfl)]
     congr 1
     revert e3 e4
     generalize rT t=r
     generalize plT (iF t)=z
     generalize decide (i=0)=a
     generalize decide (i+1=L.length)=b
     generalize decide (L.length=1)=c
     cases e<;>cases l<;>cases z<;>cases r<;>cases a<;>cases b<;>cases c<;>simp
    rw [e1,sV (by omega),hE]
    generalize (((e&&decide (i=0))&&(l&&decide (i+1=L.length)))||(((e&&decide (i=0))||(l&&decide (i+1=L.length)))&&(rT t||!plT (iF t))))=z
    cases z<;>rfl
   ·have:errI K e l L.length i t=itI t (K==4):=ae h0
    rw [show (itI t (K==4) != 0)=true from by simp [h0],aj,this,ae h0])
  (by
   unfold dL
   simp only [u15,u14,u13,u12,u11,u10,u9,u8,u7,u6,u5,u4,u3,u2]
   rw [au (show ¬((L.length:Nat):Int)<len L by unfold len;omega)]
   rfl)
  L.length 0 (by omega) 20000000 (by omega)
 rw [gF] at this
 exact this
theorem BA {K:Int} {D:TD} {KF:Int} {DF:TD} {KT:Int} {DT:TD} {e l:Bool} {L:List TI} (h:smE D DF DT L):
  fB 20000000 K D KF DF KT DT e l L=some (jm K D KF DF KT DT e l L):=by
 obtain ⟨hD,hF,hT,hL⟩:=h
 have j3:gZ 20000000 L K D KF DF KT DT e l=some (K==3||K==4,L,K,D,KF,DF,KT,DT,e,l):=by
  unfold gZ
  cases (K==3)<;>rfl
 have j4:gS 20000000 (K==3||K==4) L K D KF DF KT DT e l=some (K==3||K==4,!(K==1)&&(!(K==2)&&!(K==3||K==4)),L,K,D,KF,DF,KT,DT,e,l):=by
  unfold gS
  rw [show (K != 1)=!(K==1) from rfl,show (K != 2)=!(K==2) from rfl]
  cases (K==1)<;>cases (K==2)<;>rfl
 have j7:gW 20000000 (K==3||K==4) L K D KF DF KT DT e l=some (unuB K D KF DF KT DT e l L.length,L,K,D,KF,DF,KT,DT,e,l):=by
  unfold gW unuB
  have hpos:decide (len L>0)=!decide (L.length=0):=by
   by_cases hl:L.length=0
   ·rw [ar hl,au (by unfold len;omega)];rfl
   ·rw [au hl,ar (by unfold len;omega)];rfl
  rw [show (K != 1)=!(K==1) from rfl,show (K != 2)=!(K==2) from rfl,hpos]
  generalize eqD D d0=z0
  generalize ((KF==0)&&((eqD DF d0)&&true))=z1
  generalize ((KT==0)&&((eqD DT d0)&&true))=z2
  generalize decide (L.length=0)=z3
  generalize (K==1)=k1
  generalize (K==2)=k2
  generalize (K==3)=k3
  generalize (K==4)=k4
  cases z0<;>cases z1<;>cases z2<;>cases z3<;>cases k1<;>cases k2<;>cases k3<;>cases k4<;>cases e<;>cases l<;>rfl
 unfold fB jm
 rw [j3]
 simp only [ob,u11,u10,u9,u8,u7,u6,u5,u4,u3,u2,j4]
 by_cases hk:K<1\/4<K
 ·rw [ae hk,show (K==1)=false from by simp;omega,show (K==2)=false from by simp;omega,show (K==3)=false from by simp;omega,show (K==4)=false from by simp;omega]
  rfl
 have hc4:(!(K==1)&&(!(K==2)&&!(K==3||K==4)))=false:=by
  rcases (by omega:K=1\/K=2\/K=3\/K=4) with rfl | rfl | rfl | rfl<;>rfl
 rw [ab hk,hc4]
 simp only [af,j7]
 cases unuB K D KF DF KT DT e l L.length
 ·simp only [af,bP,aE]
  by_cases k1:K=1
  ·rw [ae k1,show (K==1)=true from by simp [k1],rcT hD];rfl
  by_cases k2:K=2
  ·rw [ab k1,ae k2,show (K==1)=false from by simp [k1],show (K==2)=true from by simp [k2],Mb hF hT];rfl
  rw [ab k1,ab k2,show (K==1)=false from by simp [k1],show (K==2)=false from by simp [k2]]
  simp only [af]
  rw [show (len L==0)=decide (L.length=0) from Fs _]
  by_cases l0:L.length=0
  ·rw [ar l0,ae l0];rfl
  rw [au l0,ab l0]
  by_cases l1:256<L.length
  ·rw [show decide (len L>256)=true from ar (by show (256:Int)<((L.length:Nat):Int);omega),ae l1];rfl
  rw [show decide (len L>256)=false from au (by show ¬(256:Int)<((L.length:Nat):Int);omega),ab l1,af,af,Fg (by omega) hL (by omega)]
  unfold tK
  cases mA (errI K e l L.length) 0 L<;>rfl
 ·rfl
theorem J9 {K:Int} {D:TD} {KF:Int} {DF:TD} {KT:Int} {DT:TD} {e l:Bool} {L:List TI} (h:smE D DF DT L):
  fX 20000000 K D KF DF KT DT e l L=some (jm K D KF DF KT DT e l L).2:=by
 unfold fX;rw [D2 h];rfl
abbrev TR:=oB
def natI (x:Int) (b:Nat):Prop:=0<=x/\x<(b:Int)
def wfD (a0 a2 a3 a4 a5 a6 a7 a8 a9:Int):Prop:=natI a0 256/\natI a2 65536/\natI a3 256/\natI a4 256/\natI a5 256/\natI a6 256/\natI a7 256/\natI a8 256/\natI a9 256
theorem Fm {p:TD} {all:Bool} (hp:plT p=true):itE p false d0 all=0:=by
 obtain ⟨hc,he,_⟩:=vL.1 hp
 rw [Lg hc,he]
 have:eqD d0 d0=true:=oh.2 rfl
 rw [this];simp
def wfR (r:TR):Prop:=wfD r.1 r.2.2.1 r.2.2.2.1 (d4 r).1 (d4 r).2.1 (d4 r).2.2.1 (d4 r).2.2.2.1 (d8 r).1 (d8 r).2.1/\
 wfD (d8 r).2.2.2.1 (d4 (d8 r)).2.1 (d4 (d8 r)).2.2.1 (d4 (d8 r)).2.2.2.1 (d16 r).1 (d16 r).2.1 (d16 r).2.2.1 (d16 r).2.2.2.1 (d4 (d16 r))
theorem xq {A:Type} {f:Nat->A->Int}:∀{L:List A} {k:Nat},(∀i t,L[i]?=some t->f (k+i) t=0)->mA f k L=none
 | [],_,_=>rfl
 | t::r,k,h=>by
  have h0:=h 0 t rfl
  rw [cu] at h0
  rw [mA,ab (λh=>h h0)]
  exact xq λi u hu=>by rw [gv,oE 1 i];exact h (i+1) u hu
structure RightE (k:Int) (D:TD) (KF:Int) (DF:TD) (KT:Int) (DT:TD) (e l:Bool) (I:List TI):Prop where
 sm:smE D DF DT I
 first:jm k D KF DF KT DT e l I=(0,0)
 len:I.length<=5
 kind:1<=k/\k<=4
 its:∀t∈I,itI t (k==4)=0
theorem Fo {k:Int} (hk:k=3\/k=4) {e l:Bool} {I:List TI} (h1:1<=I.length) (h5:I.length<=5) (hs:∀t∈I,smI t/\itI t (k==4)=0) (he:e=true->∃t,I[0]?=some t/\endB t=true)
  (hl:l=true->∃t,I[I.length - 1]?=some t/\endB t=true) (hel:e=true->l=true->I.length≠1):RightE k d0 0 d0 0 d0 e l I:=by
 refine ⟨⟨zO,zO,zO,λt ht=>(hs t ht).1⟩,?_,h5,by omega,λt ht=>(hs t ht).2⟩
 have hu:unuB k d0 0 d0 0 d0 e l I.length=false:=by
  have hz:eqD d0 d0=true:=oh.2 rfl
  unfold unuB
  rw [hz]
  rcases hk with rfl | rfl<;>rfl
 unfold jm
 rw [ab (by omega),ab (by rw [hu];simp),ab (by omega),ab (by omega),ab (by omega),ab (by omega)]
 unfold tK
 rw [xq λi t ht=>?_]
 rw [cT]
 have hil:i<I.length:=(n8.1 ht).1
 unfold errI
 rw [(hs t (gU ht)).2,ab (λh=>h rfl),ab]
 intro h
 simp only [gK,az,bV,jU] at h
 rcases h with ⟨⟨a,b⟩,c⟩ | ⟨⟨a,b⟩,c⟩ | ⟨a,b,c⟩
 ·obtain ⟨u,u1,u2⟩:=he a
  subst b
  rw [ht] at u1;cases u1
  rw [u2] at c;cases c
 ·obtain ⟨u,u1,u2⟩:=hl a
  rw [show I.length - 1=i by omega,ht] at u1;cases u1
  rw [u2] at c;cases c
 ·exact hel a b c
theorem xf {p:TD} {all:Bool} (hs:smT p) (hp:plT p=true):smI (mkI p false d0)/\itI (mkI p false d0) all=0/\endB (mkI p false d0)=true:=
 ⟨⟨hs,zO⟩,Fm hp,by unfold endB;show (!false&&plT p)=true;rw [hp];rfl⟩
theorem QF {L:List TR} (hL:∀r∈L,wfR r) {n:Nat} (h1:1<=n) (hn:n<=L.length) (h5:n<=5) {k:Int} (hk:k=3\/k=4) (e l:Bool) {I:List TI} (hI:I.length=n) (hit:∀t∈I,smI t/\itI t (k==4)=0)
  {p q:TD} (sp:smT p) (pp:plT p=true) (sq:smT q) (pq:plT q=true):
  RightE k d0 0 d0 0 d0 e (!(decide (n=1)&&e)&&l) (if l=true then (if e=true then I.set 0 (mkI p false d0) else I).set (n - 1) (mkI q false d0) else if e=true then I.set 0 (mkI p false d0) else I):=by
 obtain ⟨p1,p2,p3⟩:=xf (all:=(k==4)) sp pp
 obtain ⟨q1,q2,q3⟩:=xf (all:=(k==4)) sq pq
 have hA:∀t∈(if e=true then I.set 0 (mkI p false d0) else I),smI t/\itI t (k==4)=0:=by
  intro t ht
  split at ht
  ·rcases FW ht with h | h
   ·exact hit t h
   ·rw [h];exact ⟨p1,p2⟩
  ·exact hit t ht
 have hlA:(if e=true then I.set 0 (mkI p false d0) else I).length=n:=by split<;>simp [hI]
 have hA0:e=true->(if e=true then I.set 0 (mkI p false d0) else I)[0]?=some (mkI p false d0):=by
  intro h
  rw [ae h,Iq (by omega)]
 generalize hgA:(if e=true then I.set 0 (mkI p false d0) else I)=A at hA hlA hA0
 have hlB:(if l=true then A.set (n - 1) (mkI q false d0) else A).length=n:=by split<;>simp [hlA]
 have hB:∀t∈(if l=true then A.set (n - 1) (mkI q false d0) else A),smI t/\itI t (k==4)=0:=by
  intro t ht
  split at ht
  ·rcases FW ht with h | h
   ·exact hA t h
   ·rw [h];exact ⟨q1,q2⟩
  ·exact hA t ht
 refine Fo hk (by omega) (by omega) hB (λhe=>?_) (λhl=>?_) (λhe hl=>?_)
 ·by_cases hl:l=true
  ·rw [ae hl]
   by_cases hn1:n=1
   ·subst hn1
    exact ⟨mkI q false d0,by rw [Iq (by omega)],q3⟩
   ·exact ⟨mkI p false d0,by rw [List.getElem?_set_ne (by omega)];exact hA0 he,p3⟩
  ·rw [ab hl]
   exact ⟨_,hA0 he,p3⟩
 ·simp only [az] at hl
  rw [ae hl.2,Bv,hlA]
  exact ⟨mkI q false d0,by rw [Iq (by omega)],q3⟩
 ·rw [he] at hl
  simp only [wY,az,jU,qP] at hl
  rw [hlB]
  exact hl.1
noncomputable instance decTI:DecidableEq TI:=λa b=>Classical.propDecidable (a=b)
theorem Cm {t u:TI}:((eqD (iF t) (iF u))&&(((d8 t).2.2.1==(d8 u).2.2.1)&&((eqD (d8 t).2.2.2 (d8 u).2.2.2)&&true)))=decide (t=u):=by
 rw [tC,decide_eq_true_iff]
 have hs:∀a b c:Bool,(a&&(b&&(c&&true)))=true↔a=true/\b=true/\c=true:=by decide
 rw [hs,oh,oh,bA]
 obtain ⟨a1,a2,a3,a4,a5,a6,a7,a8,a9,a10,b,c⟩:=t
 obtain ⟨e1,e2,e3,e4,e5,e6,e7,e8,e9,e10,f,g⟩:=u
 simp only [bS,and_assoc]
noncomputable def difI (J:List TI) (i:Nat) (t:TI):Int:=if J[i]?=some t then 0 else 1
theorem Fh {J:List TI}:∀(I:List TI) (i:Nat),i+I.length=J.length->(mA (difI J) i I=none↔I=J.drop i)
 | [],i,h=>by
  rw [mA,iZ (by simp at h;omega)]
  simp
 | t::r,i,h=>by
  have hi:i<J.length:=by simp at h;omega
  have hj:J[i]?=some J[i]:=bi hi
  rw [mA,uN hi]
  unfold difI
  by_cases he:J[i]?=some t
  ·rw [ae he,ab (by simp)]
   have:=Fh (J:=J) r (i+1) (by simp at h;omega)
   unfold difI at this
   rw [this]
   rw [hj] at he
   simp only [aq] at he
   simp [he]
  ·rw [ab he,ae (by simp)]
   rw [hj] at he
   simp only [aq] at he
   simp only [Hk]
   constructor
   ·intro h;cases h
   ·rintro ⟨h,_⟩;exact absurd h.symm he
theorem IW (I J:List TI) (h:I.length=J.length) {A:Type} (a b:A):(match mA (difI J) 0 I with | some _=>a | none=>b)=if I=J then b else a:=by
 have:=Fh (J:=J) I 0 (by omega)
 rw [gF] at this
 cases hs:mA (difI J) 0 I with
 | none=>rw [ae (this.1 hs)]
 | some p=>rw [ab (λh=>by rw [this.2 h] at hs;cases hs)]
theorem zk {I J:List TI} (h:I.length=J.length) (hn:I.length<=1000000) (k:Int) (D:TD) (KF:Int) (DF:TD) (KT:Int) (DT:TD) (e l:Bool) (k':Int) (D':TD) (KF':Int) (DF':TD) (KT':Int) (DT':TD) (e' l':Bool):
  am (bI 20000000) 20000000 (0,I,J,k,D,KF,DF,KT,DT,e,l,k',D',KF',DF',KT',DT',e',l')=some (if I=J then .inr () else .inl 0):=by
 have e2:(match mA (difI J) 0 I with | some p=>(.inl 0:Int⊕Unit) | none=>.inr ())=if I=J then .inr () else .inl 0:=IW I J h _ _
 rw [<-e2]
 have:=tv (step:=bI 20000000) (st:=λi=>((i:Int),I,J,k,D,KF,DF,KT,DT,e,l,k',D',KF',DF',KT',DT',e',l')) (L:=I) (f:=difI J) (yes:=λ_ _=>.inl (0:Int)) (no:=.inr ()) ?_ ?_ I.length 0 (by omega) 20000000 (by omega)
 ·rw [gF] at this
  exact this
 ·intro i t ht
  have hi:i<I.length:=(n8.1 ht).1
  have hj:J[i]?=some (J[i]'(by omega)):=bi (by omega)
  generalize J[i]'(by omega)=u at hj
  unfold bI
  simp only [u19,u18,u17,u16,u15,u14,u13,u12,u11,u10,u9,u8,u7,u6,u5,u4,u3,u2]
  rw [ar (show (i:Int)<len I by show (i:Int)<((I.length:Nat):Int);omega),dF hi,dF (show i<J.length by omega)]
  simp only [aj,ob,ht,hj,Cm]
  rw [sV (by omega)]
  unfold difI
  rw [hj]
  by_cases he:t=u
  ·rw [ar he,ab (by simp [he])]
   rfl
  ·rw [au he,ae (by simp only [aq];rw [ab (λh=>he h.symm)];simp)]
   rfl
 ·unfold bI
  simp only [u19,u18,u17,u16,u15,u14,u13,u12,u11,u10,u9,u8,u7,u6,u5,u4,u3,u2]
  rw [au (show ¬((I.length:Nat):Int)<len I by show ¬((I.length:Nat):Int)<((I.length:Nat):Int);omega)]
  rfl
theorem yJ (n:Nat) (t S R:aa) (at_:Int) (ht:t.length<4611686018427387904) (hn:t.length<n):
  am (dE n) n (t,0,R,S,at_)=some (((lcp R t:Nat):Int),S,at_):=by
 have:=eZ (step:=dE n)
  (λx=>∃j:Nat,j<=t.length/\x=(t,(j:Int),R,S,at_)) (λx=>t.length - x.2.1.toNat)
  (λx=>(((x.2.1.toNat+lcp (R.drop x.2.1.toNat) (t.drop x.2.1.toNat):Nat):Int),S,at_)) ?_ n (t,0,R,S,at_) ⟨0,by omega,rfl⟩ (by simp;omega)
 ·simpa using this
 rintro x ⟨j,hj,rfl⟩
 simp only [bQ,dE,MA]
 by_cases hlt:j<t.length/\j<R.length
 ·obtain ⟨h1,h2⟩:=hlt
  obtain ⟨c,hc⟩:∃c,t[j]?=some c:=⟨t[j],bi h1⟩
  obtain ⟨d,hd⟩:∃d,R[j]?=some d:=⟨R[j],bi h2⟩
  have hw:IntKind.wrap .i64 ((j:Int)+1)=((j+1:Nat):Int):=by rw [wrap_i64 _ (by omega) (by omega)];omega
  have hb:(decide ((j:Int)<((min t.length R.length:Nat):Int)))=true:=by simp only [bV];omega
  have hb2:(decide ((j:Int)<((min R.length t.length:Nat):Int)))=true:=by simp only [bV];omega
  simp only [hb,hb2,aj,ek hc,ek hd,ob,m7,bZ hc,bZ hd,lcp]
  cases hcd:d==c with
  | true=>
   refine .inl ⟨_,rfl,⟨j+1,by omega,by rw [hw]⟩,?_,?_⟩
   ·simp only [hw,bQ];omega
   ·simp only [hw,bQ,bS,vI,aO]
    omega
  | false=>exact .inr (by simp)
 ·have hb:(decide ((j:Int)<((min t.length R.length:Nat):Int)))=false:=by simp only [qP];omega
  have hb2:(decide ((j:Int)<((min R.length t.length:Nat):Int)))=false:=by simp only [qP];omega
  refine .inr ?_
  have hz:lcp (R.drop j) (t.drop j)=0:=by
   by_cases h1:j<t.length
   ·rw [iZ (show R.length<=j by omega)];rfl
   ·rw [iZ (show t.length<=j by omega)];cases R.drop j<;>rfl
  simp only [hb,hb2,hz,af,cu]
theorem CQ (n:Nat) (t S:aa) (at_:Nat) (h:at_<=S.length) (hS:S.length<4611686018427387904) (ht:t.length<4611686018427387904) (hn:t.length<n):
  cU n t S (at_:Int)=some (if (S.drop at_).take t.length=t then .inl (S,((at_+t.length:Nat):Int)) else .inr (((at_+lcp (S.drop at_) t:Nat):Int),5,S,(at_:Int))):=by
 have hk:=uG (S.drop at_) t
 rw [ch] at hk
 simp only [cU,qA n t S at_ h hS,ob]
 by_cases hp:(S.drop at_).take t.length=t
 ·simp [hp]
 ·have hw:IntKind.wrap .i64 ((at_:Int)+((lcp (S.drop at_) t:Nat):Int))=((at_+lcp (S.drop at_) t:Nat):Int):=by rw [wrap_i64 _ (by omega) (by omega)];omega
  simp only [hp,aE,af,yy n S at_ h,yJ n t S (S.drop at_) (at_:Int) ht hn,AT,hw,ug]
  simp
def tdR (r:DR):TD:=(r.1,r.2.1,r.2.2.1,(r.2.2.2.1:Int),(r.2.2.2.2.1:Int),r.2.2.2.2.2.1,r.2.2.2.2.2.2.1,(r.2.2.2.2.2.2.2.1.1:Int),(r.2.2.2.2.2.2.2.1.2.1:Int),(r.2.2.2.2.2.2.2.1.2.2:Int))
theorem qe {S:aa} {a:Nat} (h:a<=S.length) {r:DR} (hr:g9 S a=.inr r):smT (tdR r)/\cF (tdR r)=0/\a<=enR r/\enR r<=S.length:=by
 obtain ⟨h1,h2⟩:=IX h hr
 obtain ⟨g,l,dg,x,s,m,d,M,P,e⟩:=r
 have ok:=yj h h1
 have:=ok.dg17
 have:=ok.m2
 have:=ok.d2
 refine ⟨⟨by show m.length<=18;omega,by show dg.length<=100;omega,by show d.length<=18;omega,by show (0:Int)<=(M.1:Int);omega,by show (0:Int)<=(M.2.1:Int);omega,by show (0:Int)<=(M.2.2:Int);omega⟩,?_,ok.le,ok.end_⟩
 have hc:=to (g:=g) (l:=l) (dg:=dg) (x:=(x:Int)) (q:=(s:Int)) (m:=m) (d:=d) (k0:=(M.1:Int)) (k1:=(M.2.1:Int)) (k2:=(M.2.2:Int)) (vU ok.all)
 unfold chkR at h2
 simp only [] at h2
 show chkF g l dg (x:Int) (s:Int) m d (M.1:Int) (M.2.1:Int) (M.2.2:Int)=0
 omega
def dts (l:aa):Bool:=l.take 2==[46,46]
theorem wz {l:aa}:dts l=true↔∃r,l=46::46::r:=by
 unfold dts
 rw [bA]
 constructor
 ·exact EE
 ·rintro ⟨r,rfl⟩;rfl
theorem o8 {S:aa} {p:Nat} (h:dts (S.drop p)=true):p+2<=S.length:=by
 obtain ⟨r,hr⟩:=wz.1 h
 have:=dp List.length hr
 simp at this
 omega
noncomputable def mH (S:aa) (en:UInt8) (p:Nat):(Nat×Nat×Nat)⊕(TI×Nat×Nat):=
 match g9 S p with
 | .inl f=>.inl f
 | .inr r=>if dts (S.drop (enR r))=true/\(S.drop (enR r+2)).head?≠some en then
   match g9 S (enR r+2) with
   | .inl f=>.inl f
   | .inr r2=>.inr (mkI (tdR r) true (tdR r2),plR r,enR r2)
  else .inr (mkI (tdR r) false d0,plR r,enR r)
theorem uY {S:aa} {en:UInt8} {p:Nat} (h:p<=S.length) {t:TI} {a p':Nat} (hr:mH S en p=.inr (t,a,p')):smI t/\p<=p'/\p'<=S.length:=by
 unfold mH at hr
 cases h1:g9 S p with
 | inl f=>rw [h1] at hr;cases hr
 | inr r=>
  obtain ⟨s1,_,l1,l2⟩:=qe h h1
  rw [h1] at hr
  simp only [] at hr
  split at hr
  ·rename_i hd
   have:=o8 hd.1
   cases h2:g9 S (enR r+2) with
   | inl f=>rw [h2] at hr;cases hr
   | inr r2=>
    obtain ⟨s2,_,l3,l4⟩:=qe (by omega) h2
    rw [h2] at hr
    cases hr
    exact ⟨⟨s1,s2⟩,by omega,l4⟩
  ·cases hr
   exact ⟨⟨s1,zO⟩,l1,l2⟩
noncomputable def lA (S:aa) (en:UInt8):Nat->Nat->List Nat->List TI->(Nat×Nat×Nat)⊕(Nat×List Nat×List TI)
 | 0,p,_,_=>.inl (p,3,p)
 | r+1,p,P,I=>match mH S en p with
  | .inl f=>.inl f
  | .inr (t,a,p')=>if (S.drop p').head?=some 44 then lA S en r (p'+1) (P++[a]) (I++[t]) else .inr (p',P++[a],I++[t])
theorem mR {S:aa} {p:Nat} {c:UInt8} (h:(S.drop p).head?=some c):p+1<=S.length:=by
 cases hd:S.drop p with
 | nil=>rw [hd] at h;cases h
 | cons a r=>
  have:=dp List.length hd
  simp at this
  omega
theorem rW {S:aa} {en:UInt8}:∀(r p:Nat) (P:List Nat) (I:List TI),p<=S.length->P.length=I.length->(∀t∈I,smI t)->∀{p':Nat} {P':List Nat} {I':List TI},lA S en r p P I=.inr (p',P',I')->
  p'<=S.length/\P'.length=I'.length/\I.length<I'.length/\I'.length<=I.length+r/\(∀t∈I',smI t)
 | 0,p,P,I,_,_,_,p',P',I',e=>by cases e
 | r+1,p,P,I,h,hl,hs,p',P',I',e=>by
  rw [lA] at e
  cases h1:mH S en p with
  | inl f=>rw [h1] at e;cases e
  | inr q=>
   obtain ⟨t,a,p1⟩:=q
   obtain ⟨s1,l1,l2⟩:=uY h h1
   rw [h1] at e
   simp only [] at e
   have hs':∀u∈I++[t],smI u:=λu hu=>by
    rcases nA.1 hu with h | h
    ·exact hs u h
    ·rw [Bq.1 h];exact s1
   split at e
   ·rename_i hh
    obtain ⟨q1,q2,q3,q4,q5⟩:=rW r (p1+1) (P++[a]) (I++[t]) (mR hh) (by simp [hl]) hs' e
    rw [aN,List.length_singleton] at q3 q4
    exact ⟨q1,q2,by omega,by omega,q5⟩
   ·cases e
    exact ⟨l2,by simp [hl],by simp,by simp,hs'⟩
theorem dts3 (S:aa) (p:Nat) (c:UInt8):((S.drop p).take [46,46,c].length==[46,46,c])=(dts (S.drop p)&&decide ((S.drop (p+2)).head?=some c)):=by
 rw [<-kr]
 generalize S.drop p=l
 unfold dts
 match l with
 | []=>rfl
 | [a]=>simp
 | [a,b]=>simp
 | a::b::d::r=>
  rw [tC]
  simp [and_assoc]
def endC (K:Int):UInt8:=if K=4 then 125 else 93
theorem u0 {K:Int} (hK:K=3\/K=4) (n:Nat):dT n K=some ([if K=4 then 123 else 91],[endC K]):=by
 rcases hK with rfl | rfl<;>rfl
theorem O6 (c:UInt8) {S:aa} {p:Nat} (h:p<=S.length) (x1 x4:Int) (x5:Bool) (x6:List Int) (x7:TD) (x8 x9:List TI):
  kU 20000000 [c] x1 S (p:Int) x4 x5 x6 x7 x8 x9=some ([c],x1,dts (S.drop p)&&!decide ((S.drop (p+2)).head?=some c),S,(p:Int),x4,x5,x6,x7,x8,x9):=by
 unfold kU
 rw [GT _ _ _ _ h]
 have hc:cat [46,46] [c]=some [46,46,c]:=rfl
 simp only [ob,hc,GT _ _ _ _ h,dts3]
 show cond (dts (S.drop p)) _ _=_
 cases hd:dts (S.drop p)
 ·rfl
 ·cases decide ((S.drop (p+2)).head?=some c)<;>rfl
theorem tk1 (l:aa) (c:UInt8):l.take [c].length=[c]↔l.head?=some c:=by
 cases l<;>simp
theorem Gm (S:aa) (r:DR):Pe S (.inr r)=.inr ((tdR r).1,(tdR r).2.1,(tdR r).2.2.1,(tdR r).2.2.2.1,(tdR r).2.2.2.2.1,(tdR r).2.2.2.2.2.1,(tdR r).2.2.2.2.2.2.1,(tdR r).2.2.2.2.2.2.2.1,(tdR r).2.2.2.2.2.2.2.2.1,(tdR r).2.2.2.2.2.2.2.2.2,((plR r:Nat):Int),S,((enR r:Nat):Int)):=rfl
theorem M8 (b:Bool) (c:UInt8) {S:aa} {p:Nat} (h:p<=S.length) (hS:S.length<100000) (hb:b=true->dts (S.drop p)=true) (x1 x5:Int) (x6:Bool) (x7:List Int) (x8:TD) (x9 x10:List TI):
  kX 20000000 [c] x1 b S (p:Int) x5 x6 x7 x8 x9 x10=some (if b=true then (match g9 S (p+2) with
   | .inl f=>.inl ((f.1:Int),(f.2.1:Int),S,(f.2.2:Int))
   | .inr r=>.inr ([c],x1,S,((enR r:Nat):Int),x5,x6,x7,x8,true,tdR r,x9,x10)) else .inr ([c],x1,S,(p:Int),x5,x6,x7,x8,false,d0,x9,x10)):=by
 unfold kX
 cases b
 ·rfl
 ·have hd:=hb rfl
  have hl:=o8 hd
  have ht:(S.drop p).take [(46:UInt8),46].length=[46,46]:=by
   obtain ⟨r,hr⟩:=wz.1 hd
   rw [hr];rfl
  rw [aj,CQ _ _ _ _ h (by omega) (by simp) (by simp),ae ht,ae rfl]
  show obs (iU 20000000 S ((p+2:Nat):Int)) _ _=_
  rw [G2 S (p+2) hl hS]
  cases g9 S (p+2) with
  | inl f=>rfl
  | inr r=>rfl
theorem pQ {α:Type} {I:List α} (h:I.length<=256):Nat.ble (I.length+1) gi=true:=dA (by unfold gi;omega)
abbrev gH (P:List Nat):List Int:=P.map λk:Nat=>(k:Int)
theorem Ls (c:UInt8) {S:aa} {p:Nat} (h:p<=S.length) (hS:S.length<100000) (K:Int) (e:Bool) {P:List Nat} (J:List TI) {I:List TI} (hI:I.length<256) (hP:P.length=I.length):
  eM 20000000 ([c],S,(p:Int),K,e,gH P,J,I)=some (match mH S c p with
   | .inl f=>.inr (.inl ((f.1:Int),(f.2.1:Int),S,(f.2.2:Int)))
   | .inr (t,a,p')=>if (S.drop p').head?=some 44 then .inl ([c],S,((p'+1:Nat):Int),K,e,gH (P++[a]),J,I++[t])
    else .inr (.inr ([c],S,((if dts (S.drop p') then p'+2 else p':Nat):Int),0,d0,0,d0,0,d0,false,false,K,d0,0,d0,0,d0,e,dts (S.drop p'),gH (P++[a]),J,I++[t]))):=by
 have fin:∀(t:TI) (a p':Nat),p'<=S.length->(ob (aI 20000000 [44] S (p':Int)) (u3 λv35 v36 v37=>(cond v35 (some (.inl ([c],v36,v37,K,e,(gH P++([(a:Int)]:List (Int))),J,(I++([t]:List TI))))) (ob (aI 20000000 [46,46] v36 v37) (u3 λv38 v39 v40=>(cond v38 (some (.inr (.inr ([c],v39,v40,0,d0,0,d0,0,d0,false,false,K,d0,0,d0,0,d0,e,true,(gH P++([(a:Int)]:List (Int))),J,(I++([t]:List TI)))))) (some (.inr (.inr ([c],v39,v40,0,d0,0,d0,0,d0,false,false,K,d0,0,d0,0,d0,e,false,(gH P++([(a:Int)]:List (Int))),J,(I++([t]:List TI))))))))))):Option ((aa×aa×Int×Int×Bool×List (Int)×List TI×List TI)⊕((Int×Int×aa×Int)⊕(aa×aa×Int×Int×TD×Int×TD×Int×TD×Bool×Bool×Int×TD×Int×TD×Int×TD×Bool×Bool×List (Int)×List TI×List TI)))) =
   some (if (S.drop p').head?=some 44 then .inl ([c],S,((p'+1:Nat):Int),K,e,gH (P++[a]),J,I++[t])
    else .inr (.inr ([c],S,((if dts (S.drop p') then p'+2 else p':Nat):Int),0,d0,0,d0,0,d0,false,false,K,d0,0,d0,0,d0,e,dts (S.drop p'),gH (P++[a]),J,I++[t]))):=by
  intro t a p' hp'
  have hn:gH (P++[a])=gH P++[(a:Int)]:=by simp [gH]
  rw [qA _ _ _ _ hp' (by omega),hn]
  simp only [ob,u3,u2,tk1]
  by_cases hc:(S.drop p').head?=some 44
  ·rw [ae hc,ae hc];rfl
  ·rw [ab hc,ab hc]
   simp only [af]
   rw [qA _ _ _ _ hp' (by omega)]
   cases hd:dts (S.drop p')
   ·rw [ab (show ¬(S.drop p').take [(46:UInt8),46].length=[46,46] from λh=>by unfold dts at hd;rw [show (S.drop p').take 2=[46,46] from h] at hd;cases hd)]
    rfl
   ·rw [ae (show (S.drop p').take [(46:UInt8),46].length=[46,46] from eq_of_beq hd)]
    rfl
 unfold eM
 simp only [u8,u7,u6,u5,u4,u3,u2]
 rw [show (len I==256)=false from by show (((I.length:Nat):Int)==256)=false;simp;omega,af,G2 S p h hS]
 unfold mH
 cases h1:g9 S p with
 | inl f=>rfl
 | inr r=>
  obtain ⟨s1,_,l1,l2⟩:=qe h h1
  rw [Gm]
  simp only [obs,sm,ob]
  rw [show (d4 (d8 ((tdR r).1,(tdR r).2.1,(tdR r).2.2.1,(tdR r).2.2.2.1,(tdR r).2.2.2.2.1,(tdR r).2.2.2.2.2.1,(tdR r).2.2.2.2.2.2.1,(tdR r).2.2.2.2.2.2.2.1,(tdR r).2.2.2.2.2.2.2.2.1,(tdR r).2.2.2.2.2.2.2.2.2,((plR r:Nat):Int),S,((enR r:Nat):Int))))=((enR r:Nat):Int) from rfl,O6 c l2]
  simp only [u11,u10,u9,u8,u7,u6,u5,u4,u3,u2]
  rw [M8 _ c l2 hS (λh=>by simp at h;exact h.1)]
  have hb:(dts (S.drop (enR r))&&!decide ((S.drop (enR r+2)).head?=some c))=true↔(dts (S.drop (enR r))=true/\(S.drop (enR r+2)).head?≠some c):=by simp
  by_cases hd:dts (S.drop (enR r))=true/\(S.drop (enR r+2)).head?≠some c
  ·rw [ae (hb.2 hd),ae hd]
   cases h2:g9 S (enR r+2) with
   | inl f=>rfl
   | inr r2=>
    obtain ⟨s2,_,l3,l4⟩:=qe (o8 hd.1) h2
    simp only [u12,u11,u10,u9,u8,u7,u6,u5,u4,u3,u2]
    rw [pQ (by omega),pQ (by simp;omega)]
    exact fin (mkI (tdR r) true (tdR r2)) (plR r) (enR r2) l4
  ·rw [ab (λh=>hd (hb.1 h)),ab hd]
   simp only [u12,u11,u10,u9,u8,u7,u6,u5,u4,u3,u2]
   rw [pQ (by omega),pQ (by simp;omega)]
   exact fin (mkI (tdR r) false d0) (plR r) (enR r) l2
theorem Lu (c:UInt8) (S:aa) (p K:Int) (e:Bool) (P:List Int) (J:List TI) {I:List TI} (hI:I.length=256):
  eM 20000000 ([c],S,p,K,e,P,J,I)=some (.inr (.inl (p,3,S,p))):=by
 unfold eM
 simp only [u8,u7,u6,u5,u4,u3,u2]
 rw [show (len I==256)=true from by show (((I.length:Nat):Int)==256)=true;rw [hI];rfl]
 rfl
def Pt (S:aa) (c:UInt8) (K:Int) (e:Bool) (J:List TI):(Nat×Nat×Nat)⊕(Nat×List Nat×List TI)->(Int×Int×aa×Int)⊕(aa×aa×Int×Int×TD×Int×TD×Int×TD×Bool×Bool×Int×TD×Int×TD×Int×TD×Bool×Bool×List (Int)×List TI×List TI)
 | .inl f=>.inl ((f.1:Int),(f.2.1:Int),S,(f.2.2:Int))
 | .inr (p,P,I)=>.inr ([c],S,((if dts (S.drop p) then p+2 else p:Nat):Int),0,d0,0,d0,0,d0,false,false,K,d0,0,d0,0,d0,e,dts (S.drop p),gH P,J,I)
theorem MU (c:UInt8) {S:aa} (hS:S.length<100000) (K:Int) (e:Bool) (J:List TI):∀(r p:Nat) (P:List Nat) (I:List TI),I.length+r=256->p<=S.length->P.length=I.length->∀N,r<N->
  am (eM 20000000) N ([c],S,(p:Int),K,e,gH P,J,I)=some (Pt S c K e J (lA S c r p P I)):=by
 intro r
 induction r with
 | zero=>
  intro p P I hr hp hl N hN
  obtain ⟨N,rfl⟩:∃k,N=k+1:=⟨N - 1,by omega⟩
  rw [am,Lu c S _ K e _ J (by omega)]
  rfl
 | succ r ih=>
  intro p P I hr hp hl N hN
  obtain ⟨N,rfl⟩:∃k,N=k+1:=⟨N - 1,by omega⟩
  rw [am,Ls c hp hS K e J (by omega) hl,lA]
  cases h1:mH S c p with
  | inl f=>rfl
  | inr q=>
   obtain ⟨t,a,p'⟩:=q
   obtain ⟨_,l1,l2⟩:=uY hp h1
   simp only []
   by_cases hc:(S.drop p').head?=some 44
   ·rw [ae hc,ae hc]
    exact ih (p'+1) (P++[a]) (I++[t]) (by simp;omega) (mR hc) (by simp [hl]) N (by omega)
   ·rw [ab hc,ab hc]
    rfl
theorem nB {X X' Y Y':Type} {s:X->Option (X⊕Y)} {s':X'->Option (X'⊕Y')} (f:X->X') (g:Y->Y') (h:∀x,s' (f x)=(s x).map (Sum.map f g)):∀(n:Nat) (x:X),am s' n (f x)=(am s n x).map g
 | 0,_=>rfl
 | n+1,x=>by
  rw [am,am,h]
  cases s x with
  | none=>rfl
  | some z=>
   cases z with
   | inl y=>exact nB f g h n y
   | inr y=>rfl
theorem Lk (n:Nat) (K:Int) (D:TD) (KF:Int) (DF:TD) (KT:Int) (DT:TD) (c:Nat) (e l:Bool) (L:List TI):md n K D KF DF KT DT L.length c e l L=kH n K D KF DF KT DT e l L:=by
 unfold md kH
 have:=nB (s:=eU n) (s':=jv n) (u12 λx0 x1 x2 x3 x4 x5 x6 x7 x8 x9 x10 x11=>(x2.length,c,x0,x1,x2,x3,x4,x5,x6,x7,x8,x2.length,c,x9,x10,x11)) id (by
  rintro ⟨x0,x1,x2,x3,x4,x5,x6,x7,x8,x9,x10,x11⟩
  unfold eU jv
  simp only [u16,u15,u14,u13,u12,u11,u10,u9,u8,u7,u6,u5,u4,u3,u2]
  cases decide (x1<x0)
  ·rfl
  ·simp only [aj]
   cases ix x2.length x1 with
   | none=>rfl
   | some i=>
    simp only [ob]
    cases x2[i]? with
    | none=>rfl
    | some t=>
     simp only [ob]
     cases fw n (iF t) (d8 t).2.2.1 (d8 t).2.2.2 x3 with
     | none=>rfl
     | some v=>
      simp only [ob]
      rw [show lI n v 10 10 10 (iF t) (d8 t).2.2.1 (d8 t).2.2.2 x3 x4 x5 x6 x7 x8 x2.length c x9 x10 x1 x11 x2=fZ n v 10 10 10 (iF t) (d8 t).2.2.1 (d8 t).2.2.2 x3 x4 x5 x6 x7 x8 x9 x10 x1 x11 x2 from rfl]
      cases fZ n v 10 10 10 (iF t) (d8 t).2.2.1 (d8 t).2.2.2 x3 x4 x5 x6 x7 x8 x9 x10 x1 x11 x2 with
      | none=>rfl
      | some z=>
       simp only [ob]
       cases (z != 0)<;>rfl) n (len L,0,L,K,D,KF,DF,KT,DT,e,l,w64 (len L - 1))
 simp only [u12,u11,u10,u9,u8,u7,u6,u5,u4,u3,u2] at this
 rw [show (L.length,c,((L.length:Nat):Int),(0:Int),L,K,D,KF,DF,KT,DT,L.length,c,e,l,w64 (((L.length:Nat):Int) - 1))=(L.length,c,len L,0,L,K,D,KF,DF,KT,DT,L.length,c,e,l,w64 (len L - 1)) from rfl,this]
 rw [Bs]
 rfl
theorem Gw (n:Nat) (K:Int) (D:TD) (KF:Int) (DF:TD) (KT:Int) (DT:TD) (c:Nat) (e l:Bool) (L:List TI):fK n K D KF DF KT DT L.length c e l L=kJ n K D KF DF KT DT e l L:=by
 unfold fK kJ
 rw [Lk,show nq n K D KF DF KT DT L.length c e l L=lg n K D KF DF KT DT e l L from rfl]
theorem xj {K:Int} {D:TD} {KF:Int} {DF:TD} {KT:Int} {DT:TD} {e l:Bool} {L:List TI} (h:smE D DF DT L) (c:Nat):
  fK 20000000 K D KF DF KT DT L.length c e l L=some (jm K D KF DF KT DT e l L):=(Gw _ _ _ _ _ _ _ _ _ _ _).trans (D2 h)
theorem Ee {K:Int} {D:TD} {KF:Int} {DF:TD} {KT:Int} {DT:TD} {e l:Bool} {L:List TI} (h:smE D DF DT L) (c:Nat):
  eP 20000000 K D KF DF KT DT L.length c e l L=some (jm K D KF DF KT DT e l L).2:=by
 unfold eP;rw [xj h];rfl
noncomputable def setE (K:Int) (e l:Bool) (I:List TI):Int×Int:=jm K d0 0 d0 0 d0 e l I
noncomputable def endL (S:aa) (K:Int) (e:Bool) (p:Nat) (P:List Nat) (I:List TI):(Nat×Nat×Nat)⊕(Int×Bool×Bool×List TI×Nat):=
 if (S.drop (if dts (S.drop p) then p+2 else p)).head?=some (endC K) then
  if (setE K e (dts (S.drop p)) I).2=0 then .inr (K,e,dts (S.drop p),I,(if dts (S.drop p) then p+2 else p)+1)
  else .inl (P.getD (setE K e (dts (S.drop p)) I).1.toNat 0,10,(if dts (S.drop p) then p+2 else p)+1)
 else .inl ((if dts (S.drop p) then p+2 else p),5,(if dts (S.drop p) then p+2 else p))
noncomputable def tS (S:aa) (a:Nat) (K:Int):(Nat×Nat×Nat)⊕(Int×Bool×Bool×List TI×Nat):=
 match lA S (endC K) 256 (if dts (S.drop (a+1)) then a+3 else a+1) [] [] with
 | .inl f=>.inl f
 | .inr (p,P,I)=>endL S K (dts (S.drop (a+1))) p P I
noncomputable def tq (S:aa) (a:Nat):(Nat×Nat×Nat)⊕(Int×Bool×Bool×List TI×Nat):=
 if (S.drop a).head?=some 91 then tS S a 3 else if (S.drop a).head?=some 123 then tS S a 4 else .inl (a,5,a)
theorem Fc {K:Int} (hK:K=3\/K=4) {e l:Bool} {I:List TI} (h1:1<=I.length):∃i:Nat,(setE K e l I).1=(i:Int)/\i<I.length:=by
 have hi:∃i:Nat,(tK K e l I).1=(i:Int)/\i<I.length:=by
  unfold tK
  have:∀(J:List TI) (k:Nat) (p:Nat×Int),mA (errI K e l I.length) k J=some p->p.1<k+J.length:=by
   intro J
   induction J with
   | nil=>intro k p h;cases h
   | cons t r ih=>
    intro k p h
    rw [mA] at h
    split at h
    ·cases h;simp
    ·have:=ih (k+1) p h
     simp;omega
  cases hs:mA (errI K e l I.length) 0 I with
  | none=>exact ⟨0,rfl,by omega⟩
  | some p=>exact ⟨p.1,rfl,by have:=this I 0 p hs;omega⟩
 unfold setE jm
 rw [ab (by omega)]
 split
 ·exact ⟨0,rfl,by omega⟩
 ·rw [ab (by omega),ab (by omega),ab (by omega)]
  split
  ·exact ⟨0,rfl,by omega⟩
  ·exact hi
theorem BC {I:List TI} (h:∀t∈I,smI t):smE d0 d0 d0 I:=⟨zO,zO,zO,h⟩
theorem Qw (n:Nat) (I:List TI):bu n I=some (I.length,I.length):=by
 unfold bu
 rw [gp (aV _)]
 show ob (bx I.length ((I.length:Nat):Int)) _=_
 rw [gp (aV _)]
 rfl
def Hi (S:aa):(Nat×Nat×Nat)⊕(Int×Bool×Bool×List TI×Nat)->(Int×Int×aa×Int)⊕(Int×TD×Int×TD×Int×TD×Nat×Nat×Bool×Bool×aa×Int×List TI)
 | .inl f=>.inl ((f.1:Int),(f.2.1:Int),S,(f.2.2:Int))
 | .inr (K,e,l,I,p)=>.inr (K,d0,0,d0,0,d0,I.length,I.length,e,l,S,(p:Int),I)
theorem ON {S:aa} (hS:S.length<100000) {K:Int} (hK:K=3\/K=4) (e:Bool) {p:Nat} (hp:p<=S.length) {P:List Nat} {I:List TI} (hP:P.length=I.length) (h1:1<=I.length) (hs:∀t∈I,smI t):
  (obs (cU 20000000 [endC K] S ((if dts (S.drop p) then p+2 else p:Nat):Int)) (u2 λv33 v34=>(ob (bu 20000000 I) (u2 λv35 v36=>(ob (fK 20000000 K d0 0 d0 0 d0 v35 v36 e (dts (S.drop p)) I) (u2 λv37 v38=>(cond (v38 != 0) (ob (ix (List.length (gH P)) v37) λv39=>(ob ((gH P)[v39]?) λv40=>(ob (aY 20000000 v40 10 v33 v34) (u2 λv41 v42=>(some (.inl (v41,v42,v33,v34))))))) (some (.inr (K,d0,0,d0,0,d0,v35,v36,e,(dts (S.drop p)),v33,v34,I))))))))) (u4 λv43 v44 v45 v46=>(some (.inl (v43,v44,v45,v46))))) =
   some (Hi S (endL S K e p P I)):=by
 have hq:(if dts (S.drop p) then p+2 else p:Nat)<=S.length:=by
  split
  ·rename_i h;exact o8 h
  ·exact hp
 unfold endL
 generalize (if dts (S.drop p) then p+2 else p:Nat)=q at *
 generalize dts (S.drop p)=l
 rw [CQ _ _ _ _ hq (by omega) (by simp) (by simp)]
 simp only [tk1]
 by_cases hc:(S.drop q).head?=some (endC K)
 ·rw [ae hc,ae hc]
  simp only [obs,sm,ob,u2,Qw,xj (BC hs)]
  obtain ⟨i,e1,e2⟩:=Fc hK (e:=e) (l:=l) h1
  show cond ((setE K e l I).2 != 0) (ob (ix (gH P).length (setE K e l I).1) _) _=_
  by_cases h0:(setE K e l I).2=0
  ·rw [ae h0,show ((setE K e l I).2 != 0)=false from by simp [h0]]
   rfl
  ·have hi:i<(gH P).length:=by simp [gH];omega
   rw [ab h0,show ((setE K e l I).2 != 0)=true from by simp [h0],e1,dF hi]
   have hg:(gH P)[i]?=some ((P.getD i 0:Nat):Int):=by
    have hi':i<P.length:=by omega
    simp [gH,bi hi']
   simp only [aj,ob,hg]
   rfl
 ·rw [ab hc,ab hc]
  have:lcp (S.drop q) [endC K]=0:=by
   cases hd:S.drop q with
   | nil=>rfl
   | cons a r=>
    rw [hd] at hc
    simp only [lcp]
    rw [show (a==endC K)=false from by rw [aL];rintro rfl;exact hc rfl]
    rfl
  rw [this]
  rfl
theorem Ly {S:aa} {a:Nat} (h:a<=S.length) (hS:S.length<100000):qr 20000000 S (a:Int)=some (Hi S (tq S a)):=by
 have main:∀(K:Int) (hK:K=3\/K=4) (ha:a+1<=S.length),(ob (ml 20000000 (K==4) S ((a+1:Nat):Int) ([]:List TI) ([]:List TI)) (u5 λv7 v8 v9 v10 v11=>(ob (dT 20000000 v9) (u2 λ_ v12=>(ob (aI 20000000 [46,46] v7 v8) (u3 λv13 v14 v15=>(obs (am (eM 20000000) 20000000 (v12,v14,v15,v9,v13,([]:List (Int)),v10,v11)) (u4 λv16 v17 v18 v19=>(some (.inl (v16,v17,v18,v19)))) (u22 λv20 v21 v22 _ _ _ _ _ _ _ _ v23 v24 v25 v26 v27 v28 v29 v30 v31 _ v32=>(obs (cU 20000000 v20 v21 v22) (u2 λv33 v34=>(ob (bu 20000000 v32) (u2 λv35 v36=>(ob (fK 20000000 v23 v24 v25 v26 v27 v28 v35 v36 v29 v30 v32) (u2 λv37 v38=>(cond (v38 != 0) (ob (ix (List.length v31) v37) λv39=>(ob (v31[v39]?) λv40=>(ob (aY 20000000 v40 10 v33 v34) (u2 λv41 v42=>(some (.inl (v41,v42,v33,v34))))))) (some (.inr (v23,v24,v25,v26,v27,v28,v35,v36,v29,v30,v33,v34,v32))))))))) (u4 λv43 v44 v45 v46=>(some (.inl (v43,v44,v45,v46))))))))))))) =
   some (Hi S (tS S a K)):=by
  intro K hK ha
  have hj:ml 20000000 (K==4) S ((a+1:Nat):Int) ([]:List TI) ([]:List TI)=some (S,((a+1:Nat):Int),K,[],[]):=by
   rcases hK with rfl | rfl<;>rfl
  have ht:aI 20000000 [46,46] S ((a+1:Nat):Int)=some (dts (S.drop (a+1)),S,((if dts (S.drop (a+1)) then a+3 else a+1:Nat):Int)):=by
   rw [qA _ _ _ _ ha (by omega)]
   cases hd:dts (S.drop (a+1))
   ·rw [ab (show ¬(S.drop (a+1)).take [(46:UInt8),46].length=[46,46] from λh=>by unfold dts at hd;rw [show (S.drop (a+1)).take 2=[46,46] from h] at hd;cases hd)]
    rfl
   ·rw [ae (show (S.drop (a+1)).take [(46:UInt8),46].length=[46,46] from eq_of_beq hd)]
    rfl
  have hp:(if dts (S.drop (a+1)) then a+3 else a+1:Nat)<=S.length:=by
   split
   ·rename_i h;have:=o8 h;omega
   ·exact ha
  have hl:=MU (endC K) hS K (dts (S.drop (a+1))) [] 256 (if dts (S.drop (a+1)) then a+3 else a+1) [] [] (by simp) hp rfl 20000000 (by omega)
  simp only [hj,u0 hK,ht,ob,u5,u4,u3,u2]
  rw [show am (eM 20000000) 20000000 ([endC K],S,((if dts (S.drop (a+1)) then a+3 else a+1:Nat):Int),K,dts (S.drop (a+1)),([]:List Int),([]:List TI),([]:List TI))=_ from hl]
  unfold tS
  cases hr:lA S (endC K) 256 (if dts (S.drop (a+1)) then a+3 else a+1) [] [] with
  | inl f=>rfl
  | inr q=>
   obtain ⟨p,P,I⟩:=q
   obtain ⟨q1,q2,q3,q4,q5⟩:=rW 256 _ [] [] hp rfl (λt ht=>by cases ht) hr
   have q3':1<=I.length:=by rw [bh] at q3;omega
   exact ON hS hK (dts (S.drop (a+1))) q1 q2 q3' q5
 unfold qr tq
 rw [yd _ _ _ _ h (by omega)]
 cases hd:S.drop a with
 | nil=>rfl
 | cons c r=>
  have ha:a+1<=S.length:=by
   have:=dp List.length hd
   simp at this;omega
  simp only [xx,aq]
  by_cases h1:c=91
  ·subst h1
   rw [ae rfl]
   exact main 3 (.inl rfl) ha
  ·by_cases h2:c=123
   ·subst h2
    rw [ae rfl]
    exact main 4 (.inr rfl) ha
   ·rw [ab h1,ab h2]
    have:hasB [91,123] c=false:=by
     unfold hasB
     simp only [Fe,List.any_nil,Gh,qE,aL]
     exact ⟨λh=>h1 h.symm,λh=>h2 h.symm⟩
    rw [this]
    rfl
def rat (l:aa):Nat:=match l with | c::_=>c.toNat | []=>0
theorem GE (n:Nat) (S:aa) (p:Nat):cQ n S (p:Int)=some ((rat (S.drop p):Nat):Int):=by
 unfold cQ
 rw [ar (show (p:Int)>=0 by omega),aj]
 by_cases h:p<S.length
 ·have hc:=bi h
  rw [ar (show (p:Int)<len S by show (p:Int)<((S.length:Nat):Int);omega),aj,ek hc,bZ hc]
  rfl
 ·rw [au (show ¬(p:Int)<len S by show ¬(p:Int)<((S.length:Nat):Int);omega),af,iZ (by omega)]
  rfl
theorem xG (l:aa) (c:UInt8) (hc:c≠0):(((rat l:Nat):Int)==((c.toNat:Nat):Int))=decide (l.head?=some c):=by
 cases l with
 | nil=>
  rw [au (by simp)]
  rw [aL]
  intro h
  have h0:c.toNat=0:=by
   have:((0:Nat):Int)=((c.toNat:Nat):Int):=h
   omega
  exact hc (gu.1 (by rw [h0];rfl))
 | cons a r=>
  show (((a.toNat:Nat):Int)==((c.toNat:Nat):Int))=_
  rw [m7]
  rw [tC];simp
theorem rf_w {p:Nat} (k:Nat) (h:p+k<9223372036854775807):w64 ((p:Int)+(k:Int))=((p+k:Nat):Int):=by
 show IntKind.wrap .i64 _=_
 rw [wrap_i64 _ (by omega) (by omega)];omega
theorem Ce (n:Nat) {S:aa} {p:Nat} (hS:p<1000000):ee n S (p:Int)=some (if dts (S.drop p) then 1 else 0):=by
 unfold ee
 have hw:w64 ((p:Int)+1)=((p+1:Nat):Int):=rf_w 1 (by omega)
 have e:∀q,(((rat (S.drop q):Nat):Int)==46)=decide ((S.drop q).head?=some 46):=λq=>xG (S.drop q) 46 (by decide)
 have hd:∀b,b=(dts (S.drop p))->(some (if b then (1:Int) else 0))=some (if dts (S.drop p) then 1 else 0):=λb h=>by rw [h]
 simp only [GE,ob,hw,e]
 rw [<-kr]
 unfold dts
 match S.drop p with
 | []=>rfl
 | [a]=>
  by_cases h:a=46
  ·subst h;rfl
  ·simp [h]
 | a::b::r=>
  by_cases h:a=46
  ·by_cases h2:b=46
   ·subst h h2;rfl
   ·subst h;simp [h2]
  ·simp [h]
theorem EI (S:aa) (A:Int) (r:DR):KI S A (.inr r)=((tdR r).1,(tdR r).2.1,(tdR r).2.2.1,(tdR r).2.2.2.1,(tdR r).2.2.2.2.1,(tdR r).2.2.2.2.2.1,(tdR r).2.2.2.2.2.2.1,(tdR r).2.2.2.2.2.2.2.1,(tdR r).2.2.2.2.2.2.2.2.1,(tdR r).2.2.2.2.2.2.2.2.2,((plR r:Nat):Int),S,((enR r:Nat):Int),0):=rfl
theorem Nk (c:UInt8) (hc:c≠0) {S:aa} {p:Nat} (hp:p<1000000) (T:aa) (x2 x5 x6:Int) (x7:Bool) (x8:List Int) (x9:TD) (x10 x11:List TI):
  fe 20000000 S ((c.toNat:Nat):Int) x2 T (p:Int) x5 x6 x7 x8 x9 x10 x11=some (S,((c.toNat:Nat):Int),x2,dts (S.drop p)&&!decide ((S.drop (p+2)).head?=some c),T,(p:Int),x5,x6,x7,x8,x9,x10,x11):=by
 unfold fe
 have hw:w64 ((p:Int)+2)=((p+2:Nat):Int):=rf_w 2 (by omega)
 simp only [Ce 20000000 hp,ob,hw,GE]
 rw [show (((rat (S.drop (p+2)):Nat):Int) != ((c.toNat:Nat):Int))=!decide ((S.drop (p+2)).head?=some c) from dp _ (xG _ _ hc)]
 cases dts (S.drop p)<;>rfl
theorem OL (b:Bool) (c:Int) {S:aa} {p:Nat} (h:p<=S.length) (hS:S.length<100000) (hb:b=true->dts (S.drop p)=true) (x2 x7:Int) (x8:Bool) (x9:List Int) (x10:TD) (x11 x12:List TI):
  gY 20000000 S c x2 b S (p:Int) 0 x7 x8 x9 x10 x11 x12=some (if b=true then (match g9 S (p+2) with
   | .inl f=>.inl (S,(f.1:Int),(f.2.1:Int),[])
   | .inr r=>.inr (S,c,x2,S,((enR r:Nat):Int),0,x7,x8,x9,x10,true,tdR r,x11,x12)) else .inr (S,c,x2,S,(p:Int),0,x7,x8,x9,x10,false,d0,x11,x12)):=by
 unfold gY
 cases b
 ·rfl
 ·have hd:=hb rfl
  have hl:=o8 hd
  have hw:w64 ((p:Int)+2)=((p+2:Nat):Int):=rf_w 2 (by omega)
  obtain ⟨A,hA⟩:=w9 S (p+2) hl hS
  rw [aj,ae rfl,hw,hA]
  cases h2:g9 S (p+2) with
  | inl f=>
   obtain ⟨k,E,q⟩:=f
   have hE:=rV hl h2
   show cond (((E:Nat):Int) != 0) _ _=_
   rw [show (((E:Nat):Int) != 0)=true from by simp;omega]
   rfl
  | inr r=>rfl
theorem Mw (c:UInt8) (hc:c≠0) {S:aa} {p:Nat} (h:p<=S.length) (hS:S.length<100000) (K:Int) (e:Bool) {P:List Nat} (J:List TI) {I:List TI} (hI:I.length<256) (hP:P.length=I.length):
  cb 20000000 (S,((c.toNat:Nat):Int),S,(p:Int),0,K,e,gH P,J,I)=some (match mH S c p with
   | .inl f=>.inr (.inl (0,d0,0,d0,0,d0,false,false,S,(f.1:Int),(f.2.1:Int),[]))
   | .inr (t,a,p')=>if (S.drop p').head?=some 44 then .inl (S,((c.toNat:Nat):Int),S,((p'+1:Nat):Int),0,K,e,gH (P++[a]),J,I++[t])
    else .inr (.inr (S,((c.toNat:Nat):Int),0,d0,0,d0,0,d0,false,false,[],0,0,S,(p':Int),0,K,d0,0,d0,0,d0,e,false,gH (P++[a]),J,I++[t]))):=by
 have fin:∀(t:TI) (a p':Nat),p'<=S.length->(ob (cQ 20000000 S (p':Int)) λv35=>(cond (v35 != 44) (some (.inr (.inr (S,((c.toNat:Nat):Int),0,d0,0,d0,0,d0,false,false,[],0,0,S,(p':Int),0,K,d0,0,d0,0,d0,e,false,(gH P++([(a:Int)]:List (Int))),J,(I++([t]:List TI)))))) (some (.inl (S,((c.toNat:Nat):Int),S,(w64 ((p':Int)+1)),0,K,e,(gH P++([(a:Int)]:List (Int))),J,(I++([t]:List TI))))):Option ((aa×Int×aa×Int×Int×Int×Bool×List (Int)×List TI×List TI)⊕((Int×TD×Int×TD×Int×TD×Bool×Bool×aa×Int×Int×List TI)⊕(aa×Int×Int×TD×Int×TD×Int×TD×Bool×Bool×aa×Int×Int×aa×Int×Int×Int×TD×Int×TD×Int×TD×Bool×Bool×List (Int)×List TI×List TI))))) =
   some (if (S.drop p').head?=some 44 then .inl (S,((c.toNat:Nat):Int),S,((p'+1:Nat):Int),0,K,e,gH (P++[a]),J,I++[t])
    else .inr (.inr (S,((c.toNat:Nat):Int),0,d0,0,d0,0,d0,false,false,[],0,0,S,(p':Int),0,K,d0,0,d0,0,d0,e,false,gH (P++[a]),J,I++[t]))):=by
  intro t a p' hp'
  have hn:gH (P++[a])=gH P++[(a:Int)]:=by simp [gH]
  have hw:w64 ((p':Int)+1)=((p'+1:Nat):Int):=rf_w 1 (by omega)
  rw [GE,hn,hw]
  simp only [ob]
  rw [show (((rat (S.drop p'):Nat):Int) != 44)=!decide ((S.drop p').head?=some 44) from dp _ (xG _ 44 (by decide))]
  by_cases hc:(S.drop p').head?=some 44
  ·rw [ae hc,ar hc];rfl
  ·rw [ab hc,au hc];rfl
 unfold cb
 simp only [u10,u9,u8,u7,u6,u5,u4,u3,u2]
 obtain ⟨A,hA⟩:=w9 S p h hS
 rw [show (len I==256)=false from by show (((I.length:Nat):Int)==256)=false;simp;omega,af,hA]
 unfold mH
 cases h1:g9 S p with
 | inl f=>
  obtain ⟨k,E,q⟩:=f
  have hE:=rV h h1
  show cond (((E:Nat):Int) != 0) _ _=_
  rw [show (((E:Nat):Int) != 0)=true from by simp;omega]
  rfl
 | inr r=>
  obtain ⟨s1,_,l1,l2⟩:=qe h h1
  rw [EI]
  show ob (fe 20000000 S ((c.toNat:Nat):Int) ((plR r:Nat):Int) S ((enR r:Nat):Int) 0 K e (gH P) (tdR r) J I) _=_
  rw [Nk c hc (by omega)]
  simp only [ob,u13,u12,u11,u10,u9,u8,u7,u6,u5,u4,u3,u2]
  rw [OL _ _ l2 hS (λh=>by simp at h;exact h.1)]
  have hb:(dts (S.drop (enR r))&&!decide ((S.drop (enR r+2)).head?=some c))=true↔(dts (S.drop (enR r))=true/\(S.drop (enR r+2)).head?≠some c):=by simp
  by_cases hd:dts (S.drop (enR r))=true/\(S.drop (enR r+2)).head?≠some c
  ·rw [ae (hb.2 hd),ae hd]
   cases h2:g9 S (enR r+2) with
   | inl f=>rfl
   | inr r2=>
    obtain ⟨s2,_,l3,l4⟩:=qe (o8 hd.1) h2
    simp only [obs,sm,ob,u14,u13,u12,u11,u10,u9,u8,u7,u6,u5,u4,u3,u2]
    rw [pQ (by omega),pQ (by simp;omega)]
    exact fin (mkI (tdR r) true (tdR r2)) (plR r) (enR r2) l4
  ·rw [ab (λh=>hd (hb.1 h)),ab hd]
   simp only [obs,sm,ob,u14,u13,u12,u11,u10,u9,u8,u7,u6,u5,u4,u3,u2]
   rw [pQ (by omega),pQ (by simp;omega)]
   exact fin (mkI (tdR r) false d0) (plR r) (enR r) l2
theorem Mt (c p:Int) (S:aa) (K:Int) (e:Bool) (P:List Int) (J:List TI) {I:List TI} (hI:I.length=256):
  cb 20000000 (S,c,S,p,0,K,e,P,J,I)=some (.inr (.inl (0,d0,0,d0,0,d0,false,false,S,p,3,[]))):=by
 unfold cb
 simp only [u10,u9,u8,u7,u6,u5,u4,u3,u2]
 rw [show (len I==256)=true from by show (((I.length:Nat):Int)==256)=true;rw [hI];rfl]
 rfl
def rfLo (S:aa) (c:UInt8) (K:Int) (e:Bool) (J:List TI):(Nat×Nat×Nat)⊕(Nat×List Nat×List TI)->(Int×TD×Int×TD×Int×TD×Bool×Bool×aa×Int×Int×List TI)⊕(aa×Int×Int×TD×Int×TD×Int×TD×Bool×Bool×aa×Int×Int×aa×Int×Int×Int×TD×Int×TD×Int×TD×Bool×Bool×List (Int)×List TI×List TI)
 | .inl f=>.inl (0,d0,0,d0,0,d0,false,false,S,(f.1:Int),(f.2.1:Int),[])
 | .inr (p,P,I)=>.inr (S,((c.toNat:Nat):Int),0,d0,0,d0,0,d0,false,false,[],0,0,S,(p:Int),0,K,d0,0,d0,0,d0,e,false,gH P,J,I)
theorem Md (c:UInt8) (hc:c≠0) {S:aa} (hS:S.length<100000) (K:Int) (e:Bool) (J:List TI):∀(r p:Nat) (P:List Nat) (I:List TI),I.length+r=256->p<=S.length->P.length=I.length->∀N,r<N->
  am (cb 20000000) N (S,((c.toNat:Nat):Int),S,(p:Int),0,K,e,gH P,J,I)=some (rfLo S c K e J (lA S c r p P I)):=by
 intro r
 induction r with
 | zero=>
  intro p P I hr hp hl N hN
  obtain ⟨N,rfl⟩:∃k,N=k+1:=⟨N - 1,by omega⟩
  rw [am,Mt _ _ S K e _ J (by omega)]
  rfl
 | succ r ih=>
  intro p P I hr hp hl N hN
  obtain ⟨N,rfl⟩:∃k,N=k+1:=⟨N - 1,by omega⟩
  rw [am,Mw c hc hp hS K e J (by omega) hl,lA]
  cases h1:mH S c p with
  | inl f=>rfl
  | inr q=>
   obtain ⟨t,a,p'⟩:=q
   obtain ⟨_,l1,l2⟩:=uY hp h1
   simp only []
   by_cases hc:(S.drop p').head?=some 44
   ·rw [ae hc,ae hc]
    exact ih (p'+1) (P++[a]) (I++[t]) (by simp;omega) (mR hc) (by simp [hl]) N (by omega)
   ·rw [ab hc,ab hc]
    rfl
def Et (S:aa):(Nat×Nat×Nat)⊕(Int×Bool×Bool×List TI×Nat)->Int×TD×Int×TD×Int×TD×Bool×Bool×aa×Int×Int×List TI
 | .inl f=>(0,d0,0,d0,0,d0,false,false,S,(f.1:Int),(f.2.1:Int),[])
 | .inr (K,e,l,I,p)=>(K,d0,0,d0,0,d0,e,l,S,(p:Int),0,I)
theorem Pd (n:Nat) (S:aa) (c:Int) (b:Bool) (p:Nat) (hp:p<1000000) (x3:Int) (x4:TD) (x5:Int) (x6:TD) (x7:Int) (x8:TD) (x9 x10:Bool) (x11:aa) (x12 x13:Int) (x14:aa) (x16 x17:Int) (x18:TD) (x19:Int) (x20:TD) (x21:Int) (x22:TD) (x23:Bool) (x25:List Int) (x26 x27:List TI):
  fi n S c b x3 x4 x5 x6 x7 x8 x9 x10 x11 x12 x13 x14 (p:Int) x16 x17 x18 x19 x20 x21 x22 x23 false x25 x26 x27=some (S,c,x3,x4,x5,x6,x7,x8,x9,x10,x11,x12,x13,x14,((if b then p+2 else p:Nat):Int),x16,x17,x18,x19,x20,x21,x22,x23,b,x25,x26,x27):=by
 unfold fi
 cases b
 ·rfl
 ·rw [aj,show w64 ((p:Int)+2)=((p+2:Nat):Int) from rf_w 2 (by omega)]
  rfl
theorem Od {S:aa} (hS:S.length<100000) {K:Int} (hK:K=3\/K=4) (e:Bool) {p:Nat} (hp:p<=S.length) {P:List Nat} {I:List TI} (hP:P.length=I.length) (h1:1<=I.length) (hs:∀t∈I,smI t):
  (ob (cQ 20000000 S ((if dts (S.drop p) then p+2 else p:Nat):Int)) λv72=>(cond (v72 != (((endC K).toNat:Nat):Int)) (ob (dk 20000000 S ((if dts (S.drop p) then p+2 else p:Nat):Int) 0 ((if dts (S.drop p) then p+2 else p:Nat):Int) 5) (u3 λv73 v74 v75=>(some (0,d0,0,d0,0,d0,false,false,v73,v74,v75,([]:List TI))))) (ob (fB 20000000 K d0 0 d0 0 d0 e (dts (S.drop p)) I) (u2 λv76 v77=>(cond (v77 != 0) (ob (ix (List.length (gH P)) v76) λv78=>(ob ((gH P)[v78]?) λv79=>(ob (dk 20000000 S (w64 (((if dts (S.drop p) then p+2 else p:Nat):Int)+1)) 0 v79 10) (u3 λv80 v81 v82=>(some (0,d0,0,d0,0,d0,false,false,v80,v81,v82,([]:List TI))))))) (some (K,d0,0,d0,0,d0,e,(dts (S.drop p)),S,(w64 (((if dts (S.drop p) then p+2 else p:Nat):Int)+1)),0,I))))))) =
   some (Et S (endL S K e p P I)):=by
 have hq:(if dts (S.drop p) then p+2 else p:Nat)<=S.length:=by
  split
  ·rename_i h;exact o8 h
  ·exact hp
 unfold endL
 generalize (if dts (S.drop p) then p+2 else p:Nat)=q at *
 generalize dts (S.drop p)=l
 have hw:w64 ((q:Int)+1)=((q+1:Nat):Int):=rf_w 1 (by omega)
 rw [GE,hw]
 simp only [ob]
 rw [show (((rat (S.drop q):Nat):Int) != (((endC K).toNat:Nat):Int))=!decide ((S.drop q).head?=some (endC K)) from dp _ (xG _ _ (by unfold endC;split<;>decide))]
 by_cases hc:(S.drop q).head?=some (endC K)
 ·rw [ae hc,ar hc]
  simp only [dq,af,BA (BC hs),u2]
  obtain ⟨i,e1,e2⟩:=Fc hK (e:=e) (l:=l) h1
  show cond ((setE K e l I).2 != 0) (ob (ix (gH P).length (setE K e l I).1) _) _=_
  by_cases h0:(setE K e l I).2=0
  ·rw [ae h0,show ((setE K e l I).2 != 0)=false from by simp [h0]]
   rfl
  ·have hi:i<(gH P).length:=by simp [gH];omega
   rw [ab h0,show ((setE K e l I).2 != 0)=true from by simp [h0],e1,dF hi]
   have hg:(gH P)[i]?=some ((P.getD i 0:Nat):Int):=by
    have hi':i<P.length:=by omega
    simp [gH,bi hi']
   simp only [aj,ob,hg]
   rfl
 ·rw [ab hc,au hc]
  rfl
theorem Lc {S:aa} {a:Nat} (h:a<=S.length) (hS:S.length<100000):iL 20000000 S (a:Int)=some (Et S (tq S a)):=by
 have main:∀(K:Int) (hK:K=3\/K=4) (ha:a+1<=S.length),(ob (ee 20000000 S ((a+1:Nat):Int)) λv8=>(ob (fg 20000000 S (((endC K).toNat:Nat):Int) (v8==1) S ((a+1:Nat):Int) K ([]:List TI) ([]:List TI)) (u8 λv9 v10 v11 v12 v13 v14 v15 v16=>(obs (am (cb 20000000) 20000000 (v9,v10,v11,v12,0,v13,v14,([]:List (Int)),v15,v16)) (u12 λv17 v18 v19 v20 v21 v22 v23 v24 v25 v26 v27 v28=>(some (v17,v18,v19,v20,v21,v22,v23,v24,v25,v26,v27,v28))) (u27 λv29 v30 v31 v32 v33 v34 v35 v36 v37 v38 v39 v40 v41 v42 v43 v44 v45 v46 v47 v48 v49 v50 v51 v52 v53 v54 v55=>(ob (ee 20000000 v29 v43) λv56=>(ob (fi 20000000 v29 v30 (v56==1) v31 v32 v33 v34 v35 v36 v37 v38 v39 v40 v41 v42 v43 v44 v45 v46 v47 v48 v49 v50 v51 v52 v53 v54 v55) (u27 λv57 v58 _ _ _ _ _ _ _ _ _ _ _ v59 v60 v61 v62 v63 v64 v65 v66 v67 v68 v69 v70 _ v71=>(ob (cQ 20000000 v57 v60) λv72=>(cond (v72 != v58) (ob (dk 20000000 v59 v60 v61 v60 5) (u3 λv73 v74 v75=>(some (0,d0,0,d0,0,d0,false,false,v73,v74,v75,([]:List TI))))) (ob (fB 20000000 v62 v63 v64 v65 v66 v67 v68 v69 v71) (u2 λv76 v77=>(cond (v77 != 0) (ob (ix (List.length v70) v76) λv78=>(ob (v70[v78]?) λv79=>(ob (dk 20000000 v59 (w64 (v60+1)) v61 v79 10) (u3 λv80 v81 v82=>(some (0,d0,0,d0,0,d0,false,false,v80,v81,v82,([]:List TI))))))) (some (v62,v63,v64,v65,v66,v67,v68,v69,v59,(w64 (v60+1)),v61,v71))))))))))))))) =
   some (Et S (tS S a K)):=by
  intro K hK ha
  have one:∀b:Bool,((if b then (1:Int) else 0)==1)=b:=by decide
  have hj:fg 20000000 S (((endC K).toNat:Nat):Int) (dts (S.drop (a+1))) S ((a+1:Nat):Int) K ([]:List TI) ([]:List TI)=some (S,(((endC K).toNat:Nat):Int),S,((if dts (S.drop (a+1)) then a+3 else a+1:Nat):Int),K,dts (S.drop (a+1)),[],[]):=by
   unfold fg
   cases dts (S.drop (a+1))
   ·rfl
   ·rw [aj,show w64 (((a+1:Nat):Int)+2)=((a+1+2:Nat):Int) from rf_w 2 (by omega)]
    rfl
  have hp:(if dts (S.drop (a+1)) then a+3 else a+1:Nat)<=S.length:=by
   split
   ·rename_i h;have:=o8 h;omega
   ·exact ha
  have hl:=Md (endC K) (by unfold endC;split<;>decide) hS K (dts (S.drop (a+1))) [] 256 (if dts (S.drop (a+1)) then a+3 else a+1) [] [] (by simp) hp rfl 20000000 (by omega)
  simp only [Ce 20000000 (show a+1<1000000 by omega),one,hj,ob,u8,u7,u6,u5,u4,u3,u2]
  rw [show am (cb 20000000) 20000000 (S,(((endC K).toNat:Nat):Int),S,((if dts (S.drop (a+1)) then a+3 else a+1:Nat):Int),0,K,dts (S.drop (a+1)),([]:List Int),([]:List TI),([]:List TI))=_ from hl]
  unfold tS
  cases hr:lA S (endC K) 256 (if dts (S.drop (a+1)) then a+3 else a+1) [] [] with
  | inl f=>rfl
  | inr q=>
   obtain ⟨p,P,I⟩:=q
   obtain ⟨q1,q2,q3,q4,q5⟩:=rW 256 _ [] [] hp rfl (λt ht=>by cases ht) hr
   have q3':1<=I.length:=by rw [bh] at q3;omega
   simp only [rfLo,obs,sm,ob,u27,u26,u25,u24,u23,u22,u21,u20,u19,u18,u17,u16,u15,u14,u13,u12,u11,u10,u9,u8,u7,u6,u5,u4,u3,u2,Ce 20000000 (show p<1000000 by omega),one,Pd _ _ _ _ p (show p<1000000 by omega)]
   exact Od hS hK (dts (S.drop (a+1))) q1 q2 q3' q5
 have hw:w64 ((a:Int)+1)=((a+1:Nat):Int):=rf_w 1 (by omega)
 unfold iL tq
 rw [GE,hw]
 simp only [ob]
 unfold jS
 rw [show (((rat (S.drop a):Nat):Int)==91)=decide ((S.drop a).head?=some 91) from xG _ 91 (by decide),show (((rat (S.drop a):Nat):Int)==123)=decide ((S.drop a).head?=some 123) from xG _ 123 (by decide)]
 by_cases h1:(S.drop a).head?=some 91
 ·rw [ae h1,ar h1]
  exact main 3 (.inl rfl) (mR h1)
 ·rw [ab h1,au h1]
  by_cases h2:(S.drop a).head?=some 123
  ·rw [ae h2,ar h2]
   exact main 4 (.inr rfl) (mR h2)
  ·rw [ab h2,au h2]
   rfl
theorem EV {S:aa} {en:UInt8} {p:Nat} (h:p<=S.length) {f:Nat×Nat×Nat} (hr:mH S en p=.inl f):f.2.1≠0:=by
 unfold mH at hr
 cases h1:g9 S p with
 | inl g=>rw [h1] at hr;cases hr;exact rV (k:=f.1) (E:=f.2.1) (p:=f.2.2) h h1
 | inr r=>
  rw [h1] at hr
  simp only [] at hr
  split at hr
  ·rename_i hd
   cases h2:g9 S (enR r+2) with
   | inl g=>rw [h2] at hr;cases hr;exact rV (k:=f.1) (E:=f.2.1) (p:=f.2.2) (o8 hd.1) h2
   | inr r2=>rw [h2] at hr;cases hr
  ·cases hr
theorem xh {S:aa} {en:UInt8}:∀(r p:Nat) (P:List Nat) (I:List TI),p<=S.length->∀{f:Nat×Nat×Nat},lA S en r p P I=.inl f->f.2.1≠0
 | 0,p,P,I,_,f,e=>by cases e;simp
 | r+1,p,P,I,h,f,e=>by
  rw [lA] at e
  cases h1:mH S en p with
  | inl g=>rw [h1] at e;cases e;exact EV h h1
  | inr q=>
   obtain ⟨t,a,p1⟩:=q
   rw [h1] at e
   simp only [] at e
   split at e
   ·rename_i hh
    exact xh r (p1+1) _ _ (mR hh) e
   ·cases e
structure SetOK (S:aa) (K:Int) (e l:Bool) (I:List TI) (p:Nat):Prop where
 kind:K=3\/K=4
 sm:∀t∈I,smI t
 ok:(setE K e l I).2=0
 one:1<=I.length
 most:I.length<=256
 le:p<=S.length
theorem C7 {S:aa} {a:Nat} (h:a<=S.length) {K:Int} {e l:Bool} {I:List TI} {p:Nat} (hr:tq S a=.inr (K,e,l,I,p)):SetOK S K e l I p:=by
 have main:∀K':Int,K'=3\/K'=4->a+1<=S.length->tS S a K'=.inr (K,e,l,I,p)->SetOK S K e l I p:=by
  intro K' hK ha hr
  unfold tS at hr
  have hp:(if dts (S.drop (a+1)) then a+3 else a+1:Nat)<=S.length:=by
   split
   ·rename_i h;have:=o8 h;omega
   ·exact ha
  cases h1:lA S (endC K') 256 (if dts (S.drop (a+1)) then a+3 else a+1) [] [] with
  | inl f=>rw [h1] at hr;cases hr
  | inr q=>
   obtain ⟨p',P,J⟩:=q
   obtain ⟨q1,q2,q3,q4,q5⟩:=rW 256 _ [] [] hp rfl (λt ht=>by cases ht) h1
   rw [h1] at hr
   simp only [] at hr
   unfold endL at hr
   generalize (if dts (S.drop p') then p'+2 else p':Nat)=q' at hr
   split at hr
   ·rename_i hc
    split at hr
    ·rename_i h0
     cases hr
     rw [bh] at q3 q4
     exact ⟨hK,q5,h0,by omega,by omega,mR hc⟩
    ·cases hr
   ·cases hr
 unfold tq at hr
 split at hr
 ·rename_i h1;exact main 3 (.inl rfl) (mR h1) hr
 ·split at hr
  ·rename_i h1;exact main 4 (.inr rfl) (mR h1) hr
  ·cases hr
theorem zP {S:aa} {a:Nat} (h:a<=S.length) {f:Nat×Nat×Nat} (hr:tq S a=.inl f):f.2.1≠0:=by
 have main:∀K':Int,a+1<=S.length->tS S a K'=.inl f->f.2.1≠0:=by
  intro K' ha hr
  unfold tS at hr
  have hp:(if dts (S.drop (a+1)) then a+3 else a+1:Nat)<=S.length:=by
   split
   ·rename_i h;have:=o8 h;omega
   ·exact ha
  cases h1:lA S (endC K') 256 (if dts (S.drop (a+1)) then a+3 else a+1) [] [] with
  | inl g=>rw [h1] at hr;cases hr;exact xh 256 _ _ _ hp h1
  | inr q=>
   obtain ⟨p',P,J⟩:=q
   rw [h1] at hr
   simp only [] at hr
   unfold endL at hr
   generalize (if dts (S.drop p') then p'+2 else p':Nat)=q' at hr
   split at hr
   ·split at hr
    ·cases hr
    ·cases hr;simp
   ·cases hr;simp
 unfold tq at hr
 split at hr
 ·rename_i h1;exact main 3 (mR h1) hr
 ·split at hr
  ·rename_i h1;exact main 4 (mR h1) hr
  ·cases hr;simp
noncomputable def AO (S:aa):(Nat×Nat)⊕(Int×Bool×Bool×List TI):=match tq S 0 with
 | .inl f=>.inl (f.1,f.2.1)
 | .inr (K,e,l,I,p)=>if p<S.length then .inl (p,5) else .inr (K,e,l,I)
def JC:(Nat×Nat)⊕(Int×Bool×Bool×List TI)->(Int×TD×Int×TD×Int×TD×Bool×Bool×Int×Int×List TI)⊕(Int×TD×Int×TD×Int×TD×Nat×Nat×Bool×Bool×Int×Int×List TI)
 | .inl f=>.inl (0,d0,0,d0,0,d0,false,false,(f.1:Int),(f.2:Int),[])
 | .inr (K,e,l,I)=>.inr (K,d0,0,d0,0,d0,I.length,I.length,e,l,0,0,I)
theorem CM {S:aa} (hS:S.length<100000):cR 20000000 S=some (JC (AO S)):=by
 have hr:=Ly (S:=S) (a:=0) (by omega) hS
 unfold cR fN oT AO
 rw [show (0:Int)=((0:Nat):Int) from rfl,hr]
 cases h:tq S 0 with
 | inl f=>
  have hE:=zP (by omega) h
  simp only [Hi,obs,sm,ob,u13,u12,u11,u10,u9,u8,u7,u6,u5,u4,u3,u2]
  rw [show (((f.2.1:Nat):Int) != ((0:Nat):Int))=true from by simp;omega]
  rfl
 | inr q=>
  obtain ⟨K,e,l,I,p⟩:=q
  have ok:=C7 (by omega) h
  simp only [Hi,obs,sm,ob,u13,u12,u11,u10,u9,u8,u7,u6,u5,u4,u3,u2]
  by_cases hp:p<S.length
  ·rw [ae hp,ar (show (p:Int)<((S.length:Nat):Int) by omega)]
   rfl
  ·rw [ab hp,au (show ¬(p:Int)<((S.length:Nat):Int) by omega)]
   rfl
def brk (c:UInt8):Bool:=c==33||c==44||c==46||c==47||c==91||c==93||c==123||c==125
theorem Mg:∀c,(!brk c||(!isYC c&&(!isMk c&&(!(c==45)&&!isDX c))))=true:=mC (λc=>!brk c||(!isYC c&&(!isMk c&&(!(c==45)&&!isDX c)))) (by decide +kernel)
theorem CA {c:UInt8} (h:brk c=true):isYC c=false/\isMk c=false/\(c==45)=false/\isDX c=false:=by
 have:=Mg c
 rw [h] at this
 simpa [az] using this
theorem Oj {c:UInt8} (h:isDX c=true):brk c=false:=by
 cases hb:brk c
 ·rfl
 ·rw [(CA hb).2.2.2] at h;cases h
def endT (l:aa):Prop:=∀c,l.head?=some c->brk c=true
theorem KZ {l:aa} (h:endT l):cL isYC l/\cL isMk l/\cL (λc=>c==45) l:=⟨λc hc=>(CA (h c hc)).1,λc hc=>(CA (h c hc)).2.1,λc hc=>(CA (h c hc)).2.2.1⟩
theorem rP {c:UInt8} {l:aa} (h:brk c=true):endT (c::l):=λa ha=>by
 simp only [xx,aq] at ha
 rw [<-ha];exact h
theorem FU {g l:Bool} {d:aa} {x s:Nat} (h:okY g l d (x:Int) (s:Int)) (r:aa):cL brk (iJ g l d (x:Int) (s:Int)++r):=by
 have hl:d≠[]:=by
  have:=(jV h).2.2.2.2.1
  rintro rfl
  simp at this
 rw [kD]
 cases l with
 | true=>exact dH (by decide)
 | false=>
  cases g with
  | true=>exact dH (by decide)
  | false=>
   simp only [bP,aE,d9,iY]
   exact uq hl (KP h) (λc=>Oj)
def qX (x:TD):aa:=rj x.1 x.2.1 x.2.2.1 x.2.2.2.1 x.2.2.2.2.1 x.2.2.2.2.2.1 x.2.2.2.2.2.2.1 x.2.2.2.2.2.2.2.1.toNat x.2.2.2.2.2.2.2.2.1.toNat x.2.2.2.2.2.2.2.2.2.toNat
theorem uX {x:TD} (hs:smT x) (hc:cF x=0):∃(g l:Bool) (dg:aa) (e q:Nat) (m d:aa) (a b c:Nat),x=(g,l,dg,(e:Int),(q:Int),m,d,(a:Int),(b:Int),(c:Int))/\OkD g l dg e q m d a b c:=by
 have h:=pH hc
 obtain ⟨g,l,dg,e,q,m,d,k0,k1,k2⟩:=x
 obtain ⟨e',q',a,b,c,h1,h2,h3,h4,h5,h6⟩:=Dz hs.2.2.2.1 hs.2.2.2.2.1 hs.2.2.2.2.2 h
 simp only at h1 h2 h3 h4 h5
 subst h1 h2 h3 h4 h5
 exact ⟨_,_,_,_,_,_,_,_,_,_,rfl,h6⟩
theorem dfT {x:TD} (hs:smT x) (hc:cF x=0):ap10 (eT 20000000) x=some (qX x,0):=by
 have:=IL 19999700 x.1 x.2.1 x.2.2.1 x.2.2.2.1 x.2.2.2.2.1 x.2.2.2.2.2.1 x.2.2.2.2.2.2.1 x.2.2.2.2.2.2.2.1 x.2.2.2.2.2.2.2.2.1 x.2.2.2.2.2.2.2.2.2 hs.1 hs.2.1 hs.2.2.2.1 hs.2.2.2.2.1 hs.2.2.2.2.2
 rw [ae (pH hc)] at this
 exact this
theorem rfT {x:TD} (hs:smT x) (hc:cF x=0):ap10 (d7 20000000) x=some (qX x):=
 Gy 19999700 hs.2.2.2.1 hs.2.2.2.2.1 hs.2.2.2.2.2 (pH hc)
theorem nT {x:TD} (hs:smT x) (hc:cF x=0):(qX x).length<=37:=by
 obtain ⟨g,l,dg,e,q,m,d,a,b,c,rfl,ok⟩:=uX hs hc
 exact FH ok
theorem wn {x:TD} (hs:smT x) (hc:cF x=0) (r:aa):cL brk (qX x++r):=by
 obtain ⟨g,l,dg,e,q,m,d,a,b,c,rfl,ok⟩:=uX hs hc
 show cL brk (rj g l dg (e:Int) (q:Int) m d a b c++r)
 unfold rj cv
 rw [iY,iY,iY]
 exact HM _ (by decide) (by decide) (by decide) (FU ok.yr _)
theorem Eb {l:aa} (h:cL brk l):dts l=false:=by
 cases hd:dts l
 ·rfl
 ·obtain ⟨r,rfl⟩:=wz.1 hd
  exact absurd (h 46 rfl) (by decide)
theorem GK {x:TD} (hs:smT x) (hc:cF x=0) {S:aa} {a:Nat} {post:aa} (h:S.drop a=qX x++post) (hp:endT post):∃r,g9 S a=.inr r/\tdR r=x/\enR r=a+(qX x).length:=by
 obtain ⟨g,l,dg,e,q,m,d,k0,k1,k2,rfl,ok⟩:=uX hs hc
 obtain ⟨p1,p2,p3⟩:=KZ hp
 obtain ⟨P,hr⟩:=Es ok (S:=S) (a:=a) (post:=post) h p1 p2 p3
 refine ⟨(g,l,dg,e,q,m,d,(k0,k1,k2),P,a+(rj g l dg (e:Int) (q:Int) m d k0 k1 k2).length),?_,rfl,rfl⟩
 unfold g9
 rw [hr]
 have hk:chkR (g,l,dg,e,q,m,d,(k0,k1,k2),P,a+(rj g l dg (e:Int) (q:Int) m d k0 k1 k2).length)=0:=by
  unfold chkR
  simp only []
  have:chkF g l dg (e:Int) (q:Int) m d (k0:Int) (k1:Int) (k2:Int)=0:=hc
  rw [this];rfl
 simp only []
 rw [ae hk]
structure OkI (t:TI):Prop where
 sm:smI t
 a:cF (iF t)=0
 b:rT t=true->cF (iT t)=0
 n:rT t=false->iT t=d0
def cM (t:TI):aa:=if rT t then qX (iF t)++([46,46]++qX (iT t)) else qX (iF t)
theorem uW {t:TI} (h:OkI t):(cM t).length<=76:=by
 have h1:=nT h.sm.1 h.a
 unfold cM
 split
 ·rename_i hr
  have h2:=nT h.sm.2 (h.b hr)
  simp only [aN,aD,bh]
  omega
 ·omega
theorem GN {t:TI} (h:OkI t) (r:aa):cL brk (cM t++r):=by
 unfold cM
 split
 ·rw [iY];exact wn h.sm.1 h.a _
 ·exact wn h.sm.1 h.a _
theorem wB {t:TI} (ok:OkI t) {en:UInt8} (hen:brk en=true) {S:aa} {p:Nat} {post:aa} (h:S.drop p=cM t++post) (hp:endT post) (hq:dts post=true->(post.drop 2).head?=some en):
  ∃a,mH S en p=.inr (t,a,p+(cM t).length):=by
 unfold cM at h ⊢
 unfold mH
 cases hr:rT t with
 | true=>
  rw [hr,ae rfl,iY,iY] at h
  obtain ⟨r,r1,r2,r3⟩:=GK ok.sm.1 ok.a h (rP (by decide))
  have e1:S.drop (enR r)=[46,46]++(qX (iT t)++post):=by rw [r3];exact gh h
  have e2:S.drop (enR r+2)=qX (iT t)++post:=gh (u:=[46,46]) e1
  have hd:dts (S.drop (enR r))=true:=by rw [e1];rfl
  have hn:(S.drop (enR r+2)).head?≠some en:=by
   rw [e2]
   intro hh
   have:=wn ok.sm.2 (ok.b hr) post en hh
   rw [hen] at this;cases this
  obtain ⟨r',s1,s2,s3⟩:=GK ok.sm.2 (ok.b hr) e2 hp
  refine ⟨plR r,?_⟩
  rw [r1]
  simp only []
  rw [ae ⟨hd,hn⟩,s1]
  simp only [aO]
  rw [r2,s2,s3,r3]
  have:mkI (iF t) true (iT t)=t:=by rw [<-hr]
  rw [this]
  have:p+(qX (iF t)).length+2+(qX (iT t)).length=p+(qX (iF t)++([46,46]++qX (iT t))).length:=by simp only [aN,aD,bh];omega
  rw [this]
 | false=>
  rw [hr] at h
  simp only [bP,aE] at h
  obtain ⟨r,r1,r2,r3⟩:=GK ok.sm.1 ok.a h hp
  have e1:S.drop (enR r)=post:=by rw [r3];exact gh h
  refine ⟨plR r,?_⟩
  rw [r1]
  simp only []
  rw [ab,r2,r3]
  ·have:mkI (iF t) false d0=t:=by rw [<-hr,<-ok.n hr]
   rw [this]
   simp only [bP,aE]
  ·rintro ⟨h1,h2⟩
   rw [e1] at h1
   rw [<-kr,e1] at h2
   exact h2 (hq h1)
def ko (I:List TI):aa:=(I.map λt=>44::cM t).flatten
theorem wm {en:UInt8} (hen:brk en=true) (hen44:en≠44) {post:aa} (hp:endT post) (h44:post.head?≠some 44) (hq:dts post=true->(post.drop 2).head?=some en):∀(I:List TI) (t:TI) (r p:Nat) {S:aa} (P:List Nat) (J:List TI),OkI t->(∀u∈I,OkI u)->I.length<r->S.drop p=cM t++(ko I++post)->
  ∃P',lA S en r p P J=.inr (p+(cM t++ko I).length,P',J++t::I)
 | [],t,r+1,p,S,P,J,ok,_,hl,h=>by
  obtain ⟨a,ha⟩:=wB ok hen (post:=post) (by simpa [ko] using h) hp hq
  refine ⟨P++[a],?_⟩
  rw [lA,ha]
  simp only []
  have e1:S.drop (p+(cM t).length)=post:=gh (by simpa [ko] using h)
  rw [e1,ab h44]
  simp [ko]
 | u::I,t,r+1,p,S,P,J,ok,oks,hl,h=>by
  have e0:ko (u::I)++post=44::(cM u++(ko I++post)):=by simp [ko]
  rw [e0] at h
  obtain ⟨a,ha⟩:=wB ok hen (post:=44::(cM u++(ko I++post))) h (rP (by decide)) (λhd=>by
   obtain ⟨r,hr⟩:=wz.1 hd
   cases hr)
  have e1:S.drop (p+(cM t).length)=44::(cM u++(ko I++post)):=gh h
  have e2:S.drop (p+(cM t).length+1)=cM u++(ko I++post):=gh (u:=[44]) e1
  obtain ⟨P',hP⟩:=wm hen hen44 hp h44 hq I u r (p+(cM t).length+1) (P++[a]) (J++[t]) (oks u oQ) (λv hv=>oks v (gz _ hv)) (by simp at hl;omega) e2
  refine ⟨P',?_⟩
  rw [lA,ha]
  simp only []
  rw [e1,xx,ae rfl,hP]
  have:p+(cM t).length+1+(cM u++ko I).length=p+(cM t++ko (u::I)).length:=by simp [ko];omega
  rw [this]
  simp
def tQ (K:Int) (e l:Bool) (I:List TI):aa:=
 (if K=4 then 123 else 91)::((if e then [46,46] else [])++(Lib.join (I.map cM) [44]++((if l then [46,46] else [])++[endC K])))
theorem AL (t:TI) (I:List TI):Lib.join ((t::I).map cM) [44]=cM t++ko I:=by
 rw [fO,Lib.join_cons]
 unfold Lib.joinTail ko
 rw [rz]
 rfl
theorem Ew {K:Int} (hK:K=3\/K=4) {e l:Bool} {I:List TI} (h1:1<=I.length) (h2:I.length<=256) (ok:∀t∈I,OkI t) (hE:(setE K e l I).2=0) {S:aa} {a:Nat} {post:aa} (h:S.drop a=tQ K e l I++post):
  tq S a=.inr (K,e,l,I,a+(tQ K e l I).length):=by
 obtain ⟨t,J,rfl⟩:∃t J,I=t::J:=by
  cases I with
  | nil=>simp at h1
  | cons t J=>exact ⟨t,J,rfl⟩
 have hen:brk (endC K)=true:=by unfold endC;split<;>decide
 have hen4:endC K≠44:=by unfold endC;split<;>decide
 have hen6:endC K≠46:=by unfold endC;split<;>decide
 unfold tQ at h ⊢
 rw [AL] at h ⊢
 have ea:S.drop (a+1)=(if e then [46,46] else [])++((cM t++ko J)++((if l then [46,46] else [])++(endC K::post))):=by
  have:=gh (u:=[if K=4 then 123 else 91]) (v:=((if e then [46,46] else [])++((cM t++ko J)++((if l then [46,46] else [])++[endC K])))++post) (by rw [h];rfl)
  rw [show a+1=a+[if K=4 then (123:UInt8) else 91].length from rfl,this]
  simp only [iY,List.singleton_append]
 have he:dts (S.drop (a+1))=e:=by
  rw [ea]
  cases e
  ·simp only [bP,aE,d9]
   rw [iY]
   exact Eb (GN (ok t oQ) _)
  ·rfl
 have eb:S.drop (if e then a+3 else a+1)=cM t++(ko J++((if l then [46,46] else [])++(endC K::post))):=by
  rw [<-iY]
  cases e
  ·simpa using ea
  ·have:=gh (u:=[46,46]) ea
   simpa using this
 have hq:endT ((if l then [46,46] else [])++(endC K::post)):=by
  cases l
  ·exact rP hen
  ·exact rP (by decide)
 have h44:((if l then [46,46] else [])++(endC K::post)).head?≠some 44:=by
  cases l
  ·simp [hen4]
  ·simp
 have hdq:dts ((if l then [46,46] else [])++(endC K::post))=l:=by
  cases l
  ·cases hd:dts ((if false then [46,46] else [])++(endC K::post))
   ·rfl
   ·obtain ⟨r,hr⟩:=wz.1 hd
    simp at hr
    exact absurd hr.1 hen6
  ·rfl
 obtain ⟨P,hP⟩:=wm hen hen4 hq h44 (λhd=>by rw [hdq] at hd;subst hd;rfl) J t 256 (if e then a+3 else a+1) [] [] (ok t oQ) (λu hu=>ok u (gz _ hu)) (by simp at h2;omega) eb
 have ec:S.drop ((if e then a+3 else a+1)+(cM t++ko J).length)=(if l then [46,46] else [])++(endC K::post):=by
  apply gh
  rw [eb,iY]
 have main:tS S a K=.inr (K,e,l,t::J,a+(((if K=4 then 123 else 91)::((if e then [46,46] else [])++((cM t++ko J)++((if l then [46,46] else [])++[endC K]))):aa).length)):=by
  unfold tS
  rw [he,hP]
  simp only [d9]
  unfold endL
  rw [ec,hdq]
  generalize hX:(if e then a+3 else a+1)+(cM t++ko J).length=X at ec ⊢
  have ed:S.drop (if l then X+2 else X)=endC K::post:=by
   cases l
   ·simpa using ec
   ·have:=gh (u:=[46,46]) ec
    simpa using this
  rw [ed,xx,ae rfl,ae hE]
  have:(if l then X+2 else X)+1=a+(((if K=4 then 123 else 91)::((if e then [46,46] else [])++((cM t++ko J)++((if l then [46,46] else [])++[endC K]))):aa).length):=by
   rw [<-hX]
   cases e<;>cases l<;>simp<;>omega
  rw [this]
 unfold tq
 have hh:(S.drop a).head?=some (if K=4 then 123 else 91):=by rw [h];rfl
 rw [hh]
 rcases hK with rfl | rfl
 ·rw [ae (show some (if (3:Int)=4 then (123:UInt8) else 91)=some 91 from rfl)];exact main
 ·rw [ab (show ¬some (if (4:Int)=4 then (123:UInt8) else 91)=some 91 by decide),ae (show some (if (4:Int)=4 then (123:UInt8) else 91)=some 123 from rfl)];exact main
theorem wu {x y:TD} {r all:Bool} (h:itE x r y all=0):cF x=0/\(r=true->cF y=0)/\(r=false->y=d0)/\itE x r y false=0:=by
 by_cases hc:cF x=0
 ·refine ⟨hc,?_⟩
  cases r
  ·rw [Lg hc] at h ⊢
   have hy:eqD y d0=true:=by
    cases hz:eqD y d0
    ·rw [hz] at h;simp at h
    ·rfl
   exact ⟨λh=>(by cases h),λ_=>oh.1 hy,by rw [hy];simp⟩
  ·by_cases hy:cF y=0
   ·rw [Nh hc hy] at h ⊢
    have ho:ordB x y=true:=by
     cases hz:ordB x y
     ·rw [hz] at h;simp at h
     ·rfl
    exact ⟨λ_=>hy,λh=>(by cases h),by rw [ho];simp⟩
   ·rw [KM hc hy] at h;exact absurd h hy
 ·rw [NO hc] at h;exact absurd h hc
theorem Pb {t:TI} {all:Bool} (hs:smI t) (h:itI t all=0):OkI t:=by
 obtain ⟨a,b,c,_⟩:=wu h
 exact ⟨hs,a,b,c⟩
theorem BS {x y:TD} (r:Bool) (hx:smT x) (hy:smT y):f6 20000000 x r y=some (if itE x r y false=0 then (cM (mkI x r y),0) else ([],itE x r y false)):=by
 unfold f6
 rw [B6 r hx hy,ae (.inl rfl),show ((3:Int)==4)=false from rfl]
 simp only [ob]
 by_cases h:itE x r y false=0
 ·obtain ⟨a,b,c,_⟩:=wu h
  rw [ae h,h,dfT hx a]
  simp only [eF,af,u2]
  cases r
  ·rfl
  ·have l1:=nT hx a
   have l2:=nT hy (b rfl)
   simp only [aj,dfT hy (b rfl)]
   rw [ct (by simp only [aD,bh];omega)]
   simp only []
   rw [ct (by simp only [aN,aD,bh];omega)]
   rfl
 ·rw [ab h,show (itE x r y false != 0)=true from by simp [h]]
  rfl
theorem HA {t:TI} (ok:OkI t):cj 20000000 (iF t) (rT t) (iT t)=some (cM t):=by
 unfold cj cM
 rw [rfT ok.sm.1 ok.a]
 cases hr:rT t
 ·rfl
 ·have l1:=nT ok.sm.1 ok.a
  have l2:=nT ok.sm.2 (ok.b hr)
  simp only [aj,ob,rfT ok.sm.2 (ok.b hr)]
  rw [ct (by simp only [aD,bh];omega)]
  simp only []
  rw [ct (by simp only [aN,aD,bh];omega)]
  simp only [aO,iY]
theorem AJ:∀{I:List TI},(∀t∈I,OkI t)->(ko I).length<=77*I.length
 | [],_=>by simp [ko]
 | t::I,h=>by
  have h1:=uW (h t oQ)
  have h2:=AJ (I:=I) λu hu=>h u (gz _ hu)
  have:ko (t::I)=(44::cM t)++ko I:=by simp [ko]
  rw [this]
  simp only [aN,aD]
  omega
theorem sG {I:List TI} (h:∀t∈I,OkI t):(Lib.join (I.map cM) [44]).length<=77*I.length:=by
 cases I with
 | nil=>simp [Lib.join_nil]
 | cons t I=>
  have h1:=uW (h t oQ)
  have h2:=AJ (I:=I) λu hu=>h u (gz _ hu)
  rw [AL]
  simp only [aN,aD]
  omega
theorem GC {I:List TI} {i:Nat} {t:TI} (h:I[i]?=some t) (w:aa) (hw:w=cM t):((I.take i).map cM++List.replicate (I.length - i) []).set i w=(I.take (i+1)).map cM++List.replicate (I.length - (i+1)) []:=by
 have hi:i<I.length:=(n8.1 h).1
 obtain ⟨k,hk⟩:∃k,I.length - i=k+1:=⟨I.length - i - 1,by omega⟩
 have hl:((I.take i).map cM).length=i:=by simp;omega
 rw [hk,rl,show I.length - (i+1)=k by omega,og,h,hw]
 rw [List.set_append_right _ _ (by omega),hl,yc]
 simp
theorem Hj {I:List TI} (hs:∀t∈I,OkI t/\itI t false=0) (hn:I.length<=1000) (K:Int) (D:TD) (KF:Int) (DF:TD) (KT:Int) (DT:TD) (e l:Bool):∀(r i:Nat),i+r=I.length->∀N,r<N->
  am (cf 20000000) N (len I,(i:Int),I,K,D,KF,DF,KT,DT,e,l,(I.take i).map cM++List.replicate (I.length - i) [])=some (I,K,D,KF,DF,KT,DT,e,l,I.map cM):=by
 intro r
 induction r with
 | zero=>
  intro i hi N hN
  obtain ⟨N,rfl⟩:∃k,N=k+1:=⟨N - 1,by omega⟩
  obtain rfl:i=I.length:=by omega
  have:cf 20000000 (len I,((I.length:Nat):Int),I,K,D,KF,DF,KT,DT,e,l,(I.take I.length).map cM++List.replicate (I.length - I.length) [])=some (.inr (I,K,D,KF,DF,KT,DT,e,l,I.map cM)):=by
   unfold cf
   simp only [u12,u11,u10,u9,u8,u7,u6,u5,u4,u3,u2]
   rw [au (show ¬((I.length:Nat):Int)<len I by show ¬((I.length:Nat):Int)<((I.length:Nat):Int);omega),yc,ot]
   simp
  rw [am,this]
 | succ r ih=>
  intro i hi N hN
  obtain ⟨N,rfl⟩:∃k,N=k+1:=⟨N - 1,by omega⟩
  have hil:i<I.length:=by omega
  have hg:I[i]?=some I[i]:=bi hil
  obtain ⟨ok,h0⟩:=hs _ (FJ hil)
  generalize I[i]=t at hg ok h0
  have hl:((I.take i).map cM++List.replicate (I.length - i) ([]:aa)).length=I.length:=by simp;omega
  have:cf 20000000 (len I,(i:Int),I,K,D,KF,DF,KT,DT,e,l,(I.take i).map cM++List.replicate (I.length - i) [])=some (.inl (len I,((i+1:Nat):Int),I,K,D,KF,DF,KT,DT,e,l,(I.take (i+1)).map cM++List.replicate (I.length - (i+1)) [])):=by
   unfold cf
   simp only [u12,u11,u10,u9,u8,u7,u6,u5,u4,u3,u2]
   rw [ar (show (i:Int)<len I by show (i:Int)<((I.length:Nat):Int);omega),dF hil]
   simp only [aj,ob,hg]
   rw [show f6 20000000 (iF t) (d8 t).2.2.1 (d8 t).2.2.2=some (cM t,0) from (BS (rT t) ok.sm.1 ok.sm.2).trans (by rw [ae (show itE (iF t) (rT t) (iT t) false=0 from h0)])]
   simp only [hl]
   rw [dF hil]
   simp only []
   obtain ⟨w,hw⟩:∃w,((I.take i).map cM++List.replicate (I.length - i) ([]:aa))[i]?=some w:=⟨_,bi (by omega)⟩
   rw [hw]
   simp only [u2]
   rw [GC hg _ rfl,sV (by omega)]
  rw [am,this]
  exact ih (i+1) (by omega) N (by omega)
structure SetP (K:Int) (D:TD) (KF:Int) (DF:TD) (KT:Int) (DT:TD) (e l:Bool) (I:List TI):Prop where
 kind:K=3\/K=4
 d:D=d0
 kf:KF=0
 df:DF=d0
 kt:KT=0
 dt:DT=d0
 one:1<=I.length
 most:I.length<=256
 its:∀t∈I,itI t (K==4)=0
 set:(setE K e l I).2=0
theorem xa {A:Type} {f:Nat->A->Int}:∀{L:List A} {k:Nat},mA f k L=none->∀t∈L,∃i,f i t=0
 | u::L,k,h,t,ht=>by
  rw [mA] at h
  split at h
  ·cases h
  ·rename_i hf
   rcases dh.1 ht with rfl | ht
   ·exact ⟨k,F5.1 hf⟩
   ·exact xa h t ht
theorem CK {A:Type} {f:Nat->A->Int}:∀{L:List A} {k:Nat} {p:Nat×Int},mA f k L=some p->p.2≠0
 | u::L,k,p,h=>by
  rw [mA] at h
  split at h
  ·rename_i hf;cases h;exact hf
  ·exact CK h
theorem Pa {K:Int} {e l:Bool} {n i:Nat} {t:TI} (h:errI K e l n i t=0):itI t (K==4)=0:=by
 unfold errI at h
 split at h
 ·rename_i h1;exact absurd h h1
 ·rename_i h1;exact F5.1 h1
theorem AY {K:Int} (hK:K=3\/K=4) {D:TD} {KF:Int} {DF:TD} {KT:Int} {DT:TD} {e l:Bool} {I:List TI} (h:(jm K D KF DF KT DT e l I).2=0):SetP K D KF DF KT DT e l I:=by
 have h0:=h
 unfold jm at h
 rw [ab (by omega)] at h
 split at h
 ·simp at h
 ·rename_i hu
  rw [ab (by omega),ab (by omega)] at h
  split at h
  ·simp at h
  ·split at h
   ·simp at h
   ·unfold tK at h
    have hD:D=d0/\KF=0/\DF=d0/\KT=0/\DT=d0:=by
     unfold unuB at hu
     have k1:(K==1)=false:=by rcases hK with rfl | rfl<;>rfl
     have k2:(K==2)=false:=by rcases hK with rfl | rfl<;>rfl
     have k3:(K==3||(K==4||(decide (I.length=0)&&(!e&&!l))))=true:=by rcases hK with rfl | rfl<;>rfl
     rw [k1,k2,k3] at hu
     generalize h1:eqD D d0=z1 at hu
     generalize h2:eqD DF d0=z2 at hu
     generalize h3:eqD DT d0=z3 at hu
     simp only [vk,dq,Gh,wY,gK,jU,not_or,Bool.not_eq_false,az,bA] at hu
     obtain ⟨a,⟨b,c⟩,d,e⟩:=hu
     exact ⟨oh.1 (h1.trans a),b,oh.1 (h2.trans c),d,oh.1 (h3.trans e)⟩
    obtain ⟨rfl,rfl,rfl,rfl,rfl⟩:=hD
    cases hs:mA (errI K e l I.length) 0 I with
    | some p=>rw [hs] at h;exact absurd h (CK hs)
    | none=>
     refine ⟨hK,rfl,rfl,rfl,rfl,rfl,by omega,by omega,λt ht=>?_,h0⟩
     obtain ⟨i,hi⟩:=xa hs t ht
     exact Pa hi
theorem Ks {K:Int} {D:TD} {KF:Int} {DF:TD} {KT:Int} {DT:TD} {e l:Bool} {I:List TI} (p:SetP K D KF DF KT DT e l I) (hs:∀t∈I,smI t):∀t∈I,OkI t/\itI t false=0:=
 λt ht=>⟨Pb (hs t ht) (p.its t ht),(wu (p.its t ht)).2.2.2⟩
def E7 (K:Int):Prop:=K=3\/K=4
instance (K:Int):Decidable (E7 K):=inferInstanceAs (Decidable (K=3\/K=4))
theorem Li {K:Int} {D:TD} {KF:Int} {DF:TD} {KT:Int} {DT:TD} {e l:Bool} {I:List TI} (h:smE D DF DT I):
  mv 20000000 K D KF DF KT DT e l I=some (if E7 K then (if (jm K D KF DF KT DT e l I).2=0 then (tQ K e l I,0) else ([],(jm K D KF DF KT DT e l I).2)) else ([],18)):=by
 have main:∀hK:E7 K,(ob (fX 20000000 K D KF DF KT DT e l I) λv18=>(cond (v18 != 0) (some ([],v18)) (cond (decide ((0:Int)<=(len I))&&(decide ((len I)<=(len I))&&decide ((len I)<=(67108864:Int)))) (ob (am (cf 20000000) 20000000 ((len I),0,I,K,D,KF,DF,KT,DT,e,l,(List.replicate (Int.toNat (len I)) ([]:aa)))) (u10 λ_ v19 _ _ _ _ _ v20 v21 v22=>(ob (dT 20000000 v19) (u2 λv23 v24=>(cond v20 (ob (cat v23 ([46,46]:aa)) λv25=>(cond v21 (ob (cat ([46,46]:aa) v24) λv26=>(cond (Nat.ble (List.length v22) 140737488355328&&Nat.ble (List.length (Lib.join v22 ([44]:aa))) 140737488355328) (ob (cat v25 (Lib.join v22 ([44]:aa))) λv27=>(ob (cat v27 v26) λv28=>(some (v28,0)))) none)) (cond (Nat.ble (List.length v22) 140737488355328&&Nat.ble (List.length (Lib.join v22 ([44]:aa))) 140737488355328) (ob (cat v25 (Lib.join v22 ([44]:aa))) λv29=>(ob (cat v29 v24) λv30=>(some (v30,0)))) none))) (cond v21 (ob (cat ([46,46]:aa) v24) λv31=>(cond (Nat.ble (List.length v22) 140737488355328&&Nat.ble (List.length (Lib.join v22 ([44]:aa))) 140737488355328) (ob (cat v23 (Lib.join v22 ([44]:aa))) λv32=>(ob (cat v32 v31) λv33=>(some (v33,0)))) none)) (cond (Nat.ble (List.length v22) 140737488355328&&Nat.ble (List.length (Lib.join v22 ([44]:aa))) 140737488355328) (ob (cat v23 (Lib.join v22 ([44]:aa))) λv34=>(ob (cat v34 v24) λv35=>(some (v35,0)))) none))))))) none))) =
   some (if (jm K D KF DF KT DT e l I).2=0 then (tQ K e l I,(0:Int)) else ([],(jm K D KF DF KT DT e l I).2)):=by
  intro hK
  rw [J9 h]
  simp only [ob]
  by_cases h0:(jm K D KF DF KT DT e l I).2=0
  ·have P:=AY hK h0
   have hm:=P.most
   have oks:=Ks P h.2.2.2
   have hj:=sG λt ht=>(oks t ht).1
   rw [ae h0,h0]
   have hloop:=Hj oks (by omega) K D KF DF KT DT e l I.length 0 (by omega) 20000000 (by omega)
   simp only [eF,af]
   have c3:(decide ((0:Int)<=(len I))&&(decide ((len I)<=(len I))&&decide ((len I)<=(67108864:Int))))=true:=by
    have:len I=((I.length:Nat):Int):=rfl
    rw [this]
    simp only [az,bV]
    omega
   rw [c3,aj,show (List.replicate (Int.toNat (len I)) ([]:aa))=(I.take 0).map cM++List.replicate (I.length - 0) [] from by simp]
   rw [show am (cf 20000000) 20000000 (len I,(0:Int),I,K,D,KF,DF,KT,DT,e,l,(I.take 0).map cM++List.replicate (I.length - 0) [])=_ from hloop]
   have hb:(Nat.ble (List.length (I.map cM)) 140737488355328&&Nat.ble (List.length (Lib.join (I.map cM) ([44]:aa))) 140737488355328)=true:=by
    simp only [az]
    exact ⟨dA (by simp;omega),dA (by omega)⟩
   simp only [u10,u9,u8,u7,u6,u5,u4,u3,u2,u0 hK,hb,aj]
   unfold tQ
   generalize hb1:(if K=4 then (123:UInt8) else 91)=b1
   generalize endC K=b2
   generalize Lib.join (I.map cM) [44]=w at hj
   cases e<;>cases l<;>simp only [aj,af]
   ·rw [ct (by simp only [aD,bh];omega)]
    simp only []
    rw [ct (by simp only [aN,aD,bh];omega)]
    simp
   ·rw [ct (by simp only [aD,bh];omega)]
    simp only []
    rw [ct (by simp only [aD,bh];omega)]
    simp only []
    rw [ct (by simp only [aN,aD,bh];omega)]
    simp
   ·rw [ct (by simp only [aD,bh];omega)]
    simp only []
    rw [ct (by simp only [aN,aD,bh];omega)]
    simp only []
    rw [ct (by simp only [aN,aD,bh];omega)]
    simp
   ·rw [ct (by simp only [aD,bh];omega)]
    simp only []
    rw [ct (by simp only [aD,bh];omega)]
    simp only []
    rw [ct (by simp only [aN,aD,bh];omega)]
    simp only []
    rw [ct (by simp only [aN,aD,bh];omega)]
    simp
  ·rw [ab h0,show ((jm K D KF DF KT DT e l I).2 != 0)=true from by simp [h0]]
   rfl
 unfold mv
 by_cases h3:K=3
 ·rw [show (K != 3)=false from by simp [h3],ae (.inl h3)]
  exact main (.inl h3)
 ·rw [show (K != 3)=true from by simp [h3],aj]
  by_cases h4:K=4
  ·rw [show (K != 4)=false from by simp [h4],ae (.inr h4)]
   exact main (.inr h4)
  ·rw [show (K != 4)=true from by simp [h4],ab (by rintro (h | h)<;>contradiction)]
   rfl
theorem Hw (ws:List (aa)) (w:aa) (h:ws≠[]):Lib.join (ws++[w]) [44]=Lib.join ws [44]++[44]++w:=by
 cases ws with
 | nil=>exact absurd rfl h
 | cons a r=>
  rw [fI,Lib.join_cons,Lib.join_cons]
  unfold Lib.joinTail
  simp
theorem Ev {I:List TI} (hs:∀t∈I,OkI t) (hn:I.length<=1000) (pre:aa) (hp:pre.length<=10) (K:Int) (D:TD) (KF:Int) (DF:TD) (KT:Int) (DT:TD) (e l:Bool):∀(r i:Nat),i+r=I.length->∀N,r<N->
  am (aM 20000000) N (pre++Lib.join ((I.take i).map cM) [44],(i:Int),I,K,D,KF,DF,KT,DT,e,l)=some (pre++Lib.join (I.map cM) [44],I,K,D,KF,DF,KT,DT,e,l):=by
 intro r
 induction r with
 | zero=>
  intro i hi N hN
  obtain ⟨N,rfl⟩:∃k,N=k+1:=⟨N - 1,by omega⟩
  obtain rfl:i=I.length:=by omega
  have:∀s,aM 20000000 (s,((I.length:Nat):Int),I,K,D,KF,DF,KT,DT,e,l)=some (.inr (s,I,K,D,KF,DF,KT,DT,e,l)):=by
   intro s
   unfold aM
   simp only [u11,u10,u9,u8,u7,u6,u5,u4,u3,u2]
   rw [au (show ¬((I.length:Nat):Int)<len I by show ¬((I.length:Nat):Int)<((I.length:Nat):Int);omega)]
   rfl
  rw [am,this,ot]
 | succ r ih=>
  intro i hi N hN
  obtain ⟨N,rfl⟩:∃k,N=k+1:=⟨N - 1,by omega⟩
  have hil:i<I.length:=by omega
  have hg:I[i]?=some I[i]:=bi hil
  have ok:=hs _ (FJ hil)
  generalize I[i]=t at hg ok
  have hl:=sG (I:=I.take i) λu hu=>hs u (List.mem_of_mem_take hu)
  have hl2:(I.take i).length<=1000:=by rw [cK];omega
  have ht:=uW ok
  have htk:(I.take (i+1)).map cM=(I.take i).map cM++[cM t]:=by rw [og,hg];simp
  have:aM 20000000 (pre++Lib.join ((I.take i).map cM) [44],(i:Int),I,K,D,KF,DF,KT,DT,e,l)=some (.inl (pre++Lib.join ((I.take (i+1)).map cM) [44],((i+1:Nat):Int),I,K,D,KF,DF,KT,DT,e,l)):=by
   unfold aM
   simp only [u11,u10,u9,u8,u7,u6,u5,u4,u3,u2]
   rw [ar (show (i:Int)<len I by show (i:Int)<((I.length:Nat):Int);omega),dF hil]
   have hit:cj 20000000 (iF t) (d8 t).2.2.1 (d8 t).2.2.2=some (cM t):=HA ok
   simp only [aj,ob,hg,hit]
   rw [htk]
   by_cases h0:i=0
   ·subst h0
    rw [au (show ¬((0:Nat):Int)>0 by omega),af,ct (by simp only [aN];omega),sV (by omega)]
    simp [Lib.join_nil,Lib.join_one]
   ·have hne:(I.take i).map cM≠[]:=by
     intro h
     have:=dp List.length h
     rw [tw,cK,bh] at this
     omega
    rw [ar (show (i:Int)>0 by omega),aj,ct (by simp only [aN,aD,bh];omega)]
    simp only []
    rw [ct (by simp only [aN,aD,bh];omega),sV (by omega),Hw _ _ hne]
    simp
  rw [am,this]
  exact ih (i+1) (by omega) N (by omega)
theorem HG {K:Int} (hK:E7 K) {I:List TI} (hs:∀t∈I,OkI t) (hn:I.length<=1000) (D:TD) (KF:Int) (DF:TD) (KT:Int) (DT:TD) (e l:Bool):kb 20000000 K D KF DF KT DT e l I=some (tQ K e l I):=by
 have hj:=sG hs
 have hl:=λ(pre:aa) (hp:pre.length<=10)=>Ev hs hn pre hp K D KF DF KT DT e l I.length 0 (by omega) 20000000 (by omega)
 have e0:Lib.join ((I.take 0).map cM) [44]=[]:=rfl
 rw [e0] at hl
 simp only [oZ] at hl
 unfold kb tQ
 have l1:=hl [123,46,46] (by simp)
 have l2:=hl [123] (by simp)
 have l3:=hl [91,46,46] (by simp)
 have l4:=hl [91] (by simp)
 rw [show ((0:Nat):Int)=0 from rfl] at l1 l2 l3 l4
 rw [l1,l2,l3,l4]
 generalize Lib.join (I.map cM) [44]=w at hj
 have c1:∀p q:aa,p.length<=10->q.length<=10->cat (p++w) q=some (p++w++q):=λp q hp hq=>ct (by simp only [aN];omega)
 have c2:∀p q r:aa,p.length<=10->q.length<=10->r.length<=10->cat (p++w++q) r=some (p++w++q++r):=λp q r hp hq hr=>ct (by simp only [aN];omega)
 rcases hK with rfl | rfl
 ·rw [show ((3:Int)==4)=false from rfl]
  cases e<;>cases l<;>simp only [aj,af,ob,u10,u9,u8,u7,u6,u5,u4,u3,u2]
  ·simp only [show ((3:Int)==4)=false from rfl,show ((4:Int)==4)=true from rfl,aj,af]
   rw [c1 _ _ (by simp) (by simp)]
   simp [endC]
  ·rw [c1 _ _ (by simp) (by simp)]
   simp only [show ((3:Int)==4)=false from rfl,show ((4:Int)==4)=true from rfl,aj,af]
   rw [c2 _ _ _ (by simp) (by simp) (by simp)]
   simp [endC]
  ·simp only [show ((3:Int)==4)=false from rfl,show ((4:Int)==4)=true from rfl,aj,af]
   rw [c1 _ _ (by simp) (by simp)]
   simp [endC]
  ·rw [c1 _ _ (by simp) (by simp)]
   simp only [show ((3:Int)==4)=false from rfl,show ((4:Int)==4)=true from rfl,aj,af]
   rw [c2 _ _ _ (by simp) (by simp) (by simp)]
   simp [endC]
 ·rw [show ((4:Int)==4)=true from rfl]
  cases e<;>cases l<;>simp only [aj,af,ob,u10,u9,u8,u7,u6,u5,u4,u3,u2]
  ·simp only [show ((3:Int)==4)=false from rfl,show ((4:Int)==4)=true from rfl,aj,af]
   rw [c1 _ _ (by simp) (by simp)]
   simp [endC]
  ·rw [c1 _ _ (by simp) (by simp)]
   simp only [show ((3:Int)==4)=false from rfl,show ((4:Int)==4)=true from rfl,aj,af]
   rw [c2 _ _ _ (by simp) (by simp) (by simp)]
   simp [endC]
  ·simp only [show ((3:Int)==4)=false from rfl,show ((4:Int)==4)=true from rfl,aj,af]
   rw [c1 _ _ (by simp) (by simp)]
   simp [endC]
  ·rw [c1 _ _ (by simp) (by simp)]
   simp only [show ((3:Int)==4)=false from rfl,show ((4:Int)==4)=true from rfl,aj,af]
   rw [c2 _ _ _ (by simp) (by simp) (by simp)]
   simp [endC]
theorem Lt (n:Nat) (K:Int) (D:TD) (KF:Int) (DF:TD) (KT:Int) (DT:TD) (c:Nat) (e l:Bool) (L:List TI):eP n K D KF DF KT DT L.length c e l L=fX n K D KF DF KT DT e l L:=by
 unfold eP fX
 rw [Gw]
theorem B4 (n N:Nat) (i K:Int) (D:TD) (KF:Int) (DF:TD) (KT:Int) (DT:TD) (c:Nat) (e l:Bool) (L:List TI) (ws:List (aa)):
  am (fh n) N (L.length,c,len L,i,L,K,D,KF,DF,KT,DT,L.length,c,e,l,ws)=(am (cf n) N (len L,i,L,K,D,KF,DF,KT,DT,e,l,ws)).map (u10 λx2 x3 x4 x5 x6 x7 x8 x9 x10 x11=>(x2,x3,x4,x5,x6,x7,x8,x2.length,c,x9,x10,x11)):=
 nB (s:=cf n) (s':=fh n) (u12 λx0 x1 x2 x3 x4 x5 x6 x7 x8 x9 x10 x11=>(x2.length,c,x0,x1,x2,x3,x4,x5,x6,x7,x8,x2.length,c,x9,x10,x11)) _ (by
  rintro ⟨x0,x1,x2,x3,x4,x5,x6,x7,x8,x9,x10,x11⟩
  unfold cf fh
  simp only [u16,u15,u14,u13,u12,u11,u10,u9,u8,u7,u6,u5,u4,u3,u2]
  cases decide (x1<x0)
  ·rfl
  ·simp only [aj]
   cases ix x2.length x1 with
   | none=>rfl
   | some i=>
    simp only [ob]
    cases x2[i]? with
    | none=>rfl
    | some t=>
     simp only [ob]
     cases f6 n (iF t) (d8 t).2.2.1 (d8 t).2.2.2 with
     | none=>rfl
     | some v=>
      simp only [ob]
      cases ix x11.length x1 with
      | none=>rfl
      | some j=>
       simp only [ob]
       cases x11[j]?<;>rfl) N (len L,i,L,K,D,KF,DF,KT,DT,e,l,ws)
theorem Nq (n:Nat) (K:Int) (D:TD) (KF:Int) (DF:TD) (KT:Int) (DT:TD) (c:Nat) (e l:Bool) (L:List TI):na n K D KF DF KT DT L.length c e l L=mv n K D KF DF KT DT e l L:=by
 unfold na mv
 rw [Lt,show am (fh n) n (L.length,c,((L.length:Nat):Int),0,L,K,D,KF,DF,KT,DT,L.length,c,e,l,List.replicate (Int.toNat ((L.length:Nat):Int)) [])=_ from B4 n n 0 K D KF DF KT DT c e l L _]
 rw [show List.replicate (Int.toNat ((L.length:Nat):Int)) ([]:aa)=List.replicate (Int.toNat (len L)) [] from rfl]
 cases am (cf n) n (len L,0,L,K,D,KF,DF,KT,DT,e,l,List.replicate (Int.toNat (len L)) []) with
 | none=>rfl
 | some y=>rfl
theorem Al (n N:Nat) (s:aa) (K:Int) (D:TD) (KF:Int) (DF:TD) (KT:Int) (DT:TD) (c:Nat) (e l:Bool) (L:List TI):
  am (bT n) N (s,0,L,K,D,KF,DF,KT,DT,L.length,c,e,l)=(am (aM n) N (s,0,L,K,D,KF,DF,KT,DT,e,l)).map (u10 λx0 x2 x3 x4 x5 x6 x7 x8 x9 x10=>(x0,x2,x3,x4,x5,x6,x7,x8,x2.length,c,x9,x10)):=
 nB (s:=aM n) (s':=bT n) (u11 λx0 x1 x2 x3 x4 x5 x6 x7 x8 x9 x10=>(x0,x1,x2,x3,x4,x5,x6,x7,x8,x2.length,c,x9,x10)) _ (by
  rintro ⟨x0,x1,x2,x3,x4,x5,x6,x7,x8,x9,x10⟩
  unfold aM bT
  simp only [u13,u12,u11,u10,u9,u8,u7,u6,u5,u4,u3,u2]
  rw [show decide (x1<((x2.length:Nat):Int))=decide (x1<len x2) from rfl]
  cases decide (x1<len x2)
  ·rfl
  ·simp only [aj]
   have main:∀o:Option (aa),(ob o λv0=>(ob (ix x2.length x1) λv1=>(ob (x2[v1]?) λv2=>(ob (cj n (iF v2) (d8 v2).2.2.1 (d8 v2).2.2.2) λv3=>(ob (cat v0 v3) λv4=>(some (.inl (v4,(w64 (x1+1)),x2,x3,x4,x5,x6,x7,x8,x2.length,c,x9,x10)))))))) =
     Option.map (Sum.map (u11 λx0 x1 (x2:List TI) x3 x4 x5 x6 x7 x8 x9 x10=>(x0,x1,x2,x3,x4,x5,x6,x7,x8,x2.length,c,x9,x10)) (u10 λx0 (x2:List TI) x3 x4 x5 x6 x7 x8 x9 x10=>(x0,x2,x3,x4,x5,x6,x7,x8,x2.length,c,x9,x10))) ((ob o λv0=>(ob (ix x2.length x1) λv1=>(ob (x2[v1]?) λv2=>(ob (cj n (iF v2) (d8 v2).2.2.1 (d8 v2).2.2.2) λv3=>(ob (cat v0 v3) λv4=>(some (.inl (v4,(w64 (x1+1)),x2,x3,x4,x5,x6,x7,x8,x9,x10)))))))):Option ((aa×Int×List TI×Int×TD×Int×TD×Int×TD×Bool×Bool)⊕(aa×List TI×Int×TD×Int×TD×Int×TD×Bool×Bool))):=by
    intro o
    cases o with
    | none=>rfl
    | some v0=>
     simp only [ob]
     cases ix x2.length x1 with
     | none=>rfl
     | some i=>
      simp only [ob]
      cases x2[i]? with
      | none=>rfl
      | some t=>
       simp only [ob]
       cases cj n (iF t) (d8 t).2.2.1 (d8 t).2.2.2 with
       | none=>rfl
       | some v=>
        simp only [ob]
        cases cat v0 v<;>rfl
   cases decide (x1>0)
   ·exact main (some x0)
   ·exact main (cat x0 [44])) N (s,0,L,K,D,KF,DF,KT,DT,e,l)
theorem Mo (n:Nat) (K:Int) (D:TD) (KF:Int) (DF:TD) (KT:Int) (DT:TD) (c:Nat) (e l:Bool) (L:List TI):gB n K D KF DF KT DT L.length c e l L=kb n K D KF DF KT DT e l L:=by
 unfold gB kb
 simp only [Al]
 cases K==4<;>cases e<;>simp only [aj,af]
 ·cases am (aM n) n ([91],0,L,K,D,KF,DF,KT,DT,false,l)<;>rfl
 ·cases am (aM n) n ([91,46,46],0,L,K,D,KF,DF,KT,DT,true,l)<;>rfl
 ·cases am (aM n) n ([123],0,L,K,D,KF,DF,KT,DT,false,l)<;>rfl
 ·cases am (aM n) n ([123,46,46],0,L,K,D,KF,DF,KT,DT,true,l)<;>rfl
theorem IB:eC 20000000=some true:=by kernel_rfl
theorem sz (K:Int) (D:TD) (KF:Int) (DF:TD) (KT:Int) (DT:TD) (e l:Bool) {I:List TI} (hn:I.length<=1000000):di 20000000 K D KF DF KT DT e l K D KF DF KT DT e l I I=some 1:=by
 unfold di
 rw [zk rfl hn,ae rfl]
 have hD:∀x:TD,eqD x x=true:=λx=>oh.2 rfl
 simp only [hD,pM,eF,af,GB,dq,obs,sm,ob]
theorem L7 (n:Nat) (K:Int) (D:TD) (KF:Int) (DF:TD) (KT:Int) (DT:TD) (c:Nat) (e l:Bool) (K':Int) (D':TD) (KF':Int) (DF':TD) (KT':Int) (DT':TD) (e' l':Bool) (I J:List TI):
  ep n K D KF DF KT DT I.length c e l K' D' KF' DF' KT' DT' e' l' I J=di n K D KF DF KT DT e l K' D' KF' DF' KT' DT' e' l' I J:=by
 unfold ep di
 have:=nB (s:=bI n) (s':=fJ n) (u19 λx0 x1 x2 x3 x4 x5 x6 x7 x8 x9 x10 x11 x12 x13 x14 x15 x16 x17 x18=>(x0,x1,x2,x3,x4,x5,x6,x7,x8,x1.length,c,x9,x10,x11,x12,x13,x14,x15,x16,x17,x18)) id (by
  rintro ⟨x0,x1,x2,x3,x4,x5,x6,x7,x8,x9,x10,x11,x12,x13,x14,x15,x16,x17,x18⟩
  unfold bI fJ
  simp only [u21,u20,u19,u18,u17,u16,u15,u14,u13,u12,u11,u10,u9,u8,u7,u6,u5,u4,u3,u2,Cm]
  rw [show decide (x0<((x1.length:Nat):Int))=decide (x0<len x1) from rfl]
  cases decide (x0<len x1)
  ·rfl
  ·simp only [aj]
   cases ix x1.length x0 with
   | none=>rfl
   | some i=>
    simp only [ob]
    cases x1[i]? with
    | none=>rfl
    | some t=>
     simp only [ob]
     cases ix x2.length x0 with
     | none=>rfl
     | some j=>
      simp only [ob]
      cases x2[j]? with
      | none=>rfl
      | some u=>
       simp only [ob]
       cases decide (t=u)<;>rfl) n (0,I,J,K,D,KF,DF,KT,DT,e,l,K',D',KF',DF',KT',DT',e',l')
 simp only [u19,u18,u17,u16,u15,u14,u13,u12,u11,u10,u9,u8,u7,u6,u5,u4,u3,u2,Bs,id] at this
 rw [this]
theorem zG (K:Int) (D:TD) (KF:Int) (DF:TD) (KT:Int) (DT:TD) (c:Nat) (e l:Bool) {I:List TI} (hn:I.length<=1000000):ep 20000000 K D KF DF KT DT I.length c e l K D KF DF KT DT e l I I=some 1:=
 (L7 _ _ _ _ _ _ _ _ _ _ _ _ _ _ _ _ _ _ _ _).trans (sz K D KF DF KT DT e l hn)
theorem E5 {K:Int} (hK:E7 K) {e l:Bool} {I:List TI} (h1:1<=I.length) (h2:I.length<=256) (ok:∀t∈I,OkI t) (hE:(setE K e l I).2=0):AO (tQ K e l I)=.inr (K,e,l,I):=by
 unfold AO
 rw [Ew hK h1 h2 ok hE (post:=[]) (by rw [gF,oZ])]
 simp only []
 rw [ab (by omega)]
theorem FG {K:Int} {e l:Bool} {I:List TI} (h2:I.length<=256) (ok:∀t∈I,OkI t):(tQ K e l I).length<=19720:=by
 have:=sG ok
 unfold tQ
 cases e<;>cases l<;>simp<;>omega
theorem MC (n:Nat) (K:Int) (D:TD) (KF:Int) (DF:TD) (KT:Int) (DT:TD) (c:Nat) (e l:Bool) (K':Int) (D':TD) (KF':Int) (DF':TD) (KT':Int) (DT':TD) (c':Nat) (e' l':Bool) (I J:List TI):
  fG n K D KF DF KT DT I.length c e l K' D' KF' DF' KT' DT' J.length c' e' l' I J=di n K D KF DF KT DT e l K' D' KF' DF' KT' DT' e' l' I J:=by
 unfold fG di
 have:=nB (s:=bI n) (s':=fH n) (u19 λx0 x1 x2 x3 x4 x5 x6 x7 x8 x9 x10 x11 x12 x13 x14 x15 x16 x17 x18=>(x0,x1,x2,x3,x4,x5,x6,x7,x8,x1.length,c,x9,x10,x11,x12,x13,x14,x15,x16,x2.length,c',x17,x18)) id (by
  rintro ⟨x0,x1,x2,x3,x4,x5,x6,x7,x8,x9,x10,x11,x12,x13,x14,x15,x16,x17,x18⟩
  unfold bI fH
  simp only [u23,u22,u21,u20,u19,u18,u17,u16,u15,u14,u13,u12,u11,u10,u9,u8,u7,u6,u5,u4,u3,u2,Cm]
  rw [show decide (x0<((x1.length:Nat):Int))=decide (x0<len x1) from rfl]
  cases decide (x0<len x1)
  ·rfl
  ·simp only [aj]
   cases ix x1.length x0 with
   | none=>rfl
   | some i=>
    simp only [ob]
    cases x1[i]? with
    | none=>rfl
    | some t=>
     simp only [ob]
     cases ix x2.length x0 with
     | none=>rfl
     | some j=>
      simp only [ob]
      cases x2[j]? with
      | none=>rfl
      | some u=>
       simp only [ob]
       cases decide (t=u)<;>rfl) n (0,I,J,K,D,KF,DF,KT,DT,e,l,K',D',KF',DF',KT',DT',e',l')
 simp only [u19,u18,u17,u16,u15,u14,u13,u12,u11,u10,u9,u8,u7,u6,u5,u4,u3,u2,Bs,id] at this
 rw [this]
theorem Ai (K:Int) (D:TD) (KF:Int) (DF:TD) (KT:Int) (DT:TD) (c c':Nat) (e l:Bool) {I:List TI} (hn:I.length<=1000000):fG 20000000 K D KF DF KT DT I.length c e l K D KF DF KT DT I.length c' e l I I=some 1:=
 (MC _ _ _ _ _ _ _ _ _ _ _ _ _ _ _ _ _ _ _ _ _).trans (sz K D KF DF KT DT e l hn)
theorem SetOK.its {S:aa} {K:Int} {e l:Bool} {I:List TI} {p:Nat} (h:SetOK S K e l I p):(∀t∈I,OkI t)/\(jm K d0 0 d0 0 d0 e l I).2=0:=by
 have P:=AY h.kind (show (jm K d0 0 d0 0 d0 e l I).2=0 from h.ok)
 exact ⟨λt ht=>(Ks P h.sm t ht).1,h.ok⟩
theorem xX (S:aa):dZ 20000000 S=some true:=by
 unfold dZ
 rw [IB]
 by_cases hl:200<S.length
 ·rw [show decide (len S>200)=true from ar (by show (200:Int)<((S.length:Nat):Int);omega)]
  rfl
 rw [show decide (len S>200)=false from au (by show ¬(200:Int)<((S.length:Nat):Int);omega),af]
 unfold gq
 have hp:=CM (S:=S) (by omega)
 have hr:=Lc (S:=S) (a:=0) (by omega) (by omega)
 rw [show ((0:Nat):Int)=0 from rfl] at hr
 rw [hp]
 unfold AO
 cases h:tq S 0 with
 | inl f=>
  have hE:=zP (by omega) h
  have e1:(((f.2.1:Nat):Int)==0)=false:=by simp;omega
  have e2:(((f.2.1:Nat):Int) != 0)=true:=by simp;omega
  rw [h] at hr
  simp only [JC,obs,sm,ob,hr,Et,u24,u23,u22,u21,u20,u19,u18,u17,u16,u15,u14,u13,u12,u11,u10,u9,u8,u7,u6,u5,u4,u3,u2]
  simp only [eo,ej,dU,dP,dS,e1,e2,aj,af,ob,u24,u23,u22,u21,u20,u19,u18,u17,u16,u15,u14,u13,u12,u11,u10,u9,u8,u7,u6,u5,u4,u3,u2,sz 0 d0 0 d0 0 d0 false false (I:=[]) (by simp),eF,show ((1:Int)==0)=false from rfl]
 | inr q=>
  obtain ⟨K,e,l,I,p⟩:=q
  have ok:=C7 (by omega) h
  rw [h] at hr
  by_cases hp:p<S.length
  ·have e3:decide ((p:Int)<len S)=true:=ar (by show (p:Int)<((S.length:Nat):Int);omega)
   simp only [ae hp,JC,obs,sm,ob,hr,Et,u24,u23,u22,u21,u20,u19,u18,u17,u16,u15,u14,u13,u12,u11,u10,u9,u8,u7,u6,u5,u4,u3,u2]
   simp only [eo,ej,dU,dP,dS,e3,pM,aj,af,ob,u24,u23,u22,u21,u20,u19,u18,u17,u16,u15,u14,u13,u12,u11,u10,u9,u8,u7,u6,u5,u4,u3,u2,sz 0 d0 0 d0 0 d0 false false (I:=[]) (by simp),eF,show ((1:Int)==0)=false from rfl,show ((5:Int) != 0)=true from rfl]
   rfl
  ·have e3:decide ((p:Int)<len S)=false:=au (by show ¬(p:Int)<((S.length:Nat):Int);omega)
   obtain ⟨oks,hf⟩:=ok.its
   have hm:=ok.most
   have hsm:=BC ok.sm
   have htl:=FG (K:=K) (e:=e) (l:=l) hm oks
   have hpt:cR 20000000 (tQ K e l I)=some (.inr (K,d0,0,d0,0,d0,I.length,I.length,e,l,0,0,I)):=by
    rw [CM (by omega),E5 ok.kind ok.one hm oks ok.ok];rfl
   simp only [ab hp,JC,obs,sm,ob,hr,Et,u26,u25,u24,u23,u22,u21,u20,u19,u18,u17,u16,u15,u14,u13,u12,u11,u10,u9,u8,u7,u6,u5,u4,u3,u2]
   simp only [fW,fY,fq,ft,fp,e3,pM,aj,af,ob,u26,u25,u24,u23,u22,u21,u20,u19,u18,u17,u16,u15,u14,u13,u12,u11,u10,u9,u8,u7,u6,u5,u4,u3,u2,zG K d0 0 d0 0 d0 I.length e l (I:=I) (by omega),eF,show ((1:Int)==0)=false from rfl]
   rw [Nq,Li hsm,ae (show E7 K from ok.kind),ae hf]
   simp only [ob,u2]
   unfold fv
   rw [hpt]
   simp only [obs,sm,ob,u26,u25,u24,u23,u22,u21,u20,u19,u18,u17,u16,u15,u14,u13,u12,u11,u10,u9,u8,u7,u6,u5,u4,u3,u2]
   rw [Ee hsm,Mo,HG ok.kind oks (by omega),Ai K d0 0 d0 0 d0 I.length I.length e l (I:=I) (by omega),hf]
   simp
end Go.Sh
