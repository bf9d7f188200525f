
/- Plain proofs, kept as far as they are needed here (printed by prune.py).
   Conditions: none. -/
import Derived.Test.YtfiponokimbeeaaGreatDoorLawRzb
set_option linter.unusedVariables false
set_option linter.unusedSimpArgs false
set_option maxRecDepth 100000
namespace Go.Sh
open Go.Abs
def ME (g l:Bool) (dg:aa) (x q:Int) (m d:aa) (k0 k1 k2:Int):Bool:=
 (((g==false)&&((l==false)&&((dg==([]:aa))&&((x==0)&&((q==0)&&true)))))&&((m==([]:aa))&&((d==([]:aa))&&(((k0==0)&&((k1==0)&&((k2==0)&&true)))&&true))))
noncomputable def chkB (K:Int) (g l:Bool) (dg:aa) (x q:Int) (m d:aa) (k0 k1 k2:Int):Int:=
 if K=1 then (if chkF g l dg x q m d k0 k1 k2=0 then (if exD dg m d q=true then 0 else 11) else chkF g l dg x q m d k0 k1 k2) else if K=2\/K=3 then (if ME g l dg x q m d k0 k1 k2=true then 0 else 5) else 18
def NY (a c b d lo hi:Int):Int:=if a≠0 then a else if c≠0 then c else if b≠1/\d≠1 then 11 else if b≠1\/d≠1 then 0 else if lo>hi then 11 else 0
section
variable {K:Int} {g l:Bool} {dg:List UInt8} {x q:Int} {m d:List UInt8} {k0 k1 k2:Int} (hml:m.length<=18) (hdl:dg.length<=100) (hd18:d.length<=18) (h0:0<=k0) (h1:0<=k1) (h2:0<=k2)
include hml hdl hd18 h0 h1 h2
theorem uV:gm 20000000 K g l dg x q m d k0 k1 k2=some (chkB K g l dg x q m d k0 k1 k2):=by
 unfold gm chkB;rw [uW hml hdl h0 h1 h2,Gz 20000000 g l dg x q m d k0 k1 k2 (by omega) (by omega) (by omega)];simp only [ob];by_cases a:K=1
 ·subst a;rw [ae rfl];simp only [yp,aj];by_cases hc:chkF g l dg x q m d k0 k1 k2=0
  ·rw [ae hc,hc];by_cases b:exD dg m d q=true
   ·rw [ae b,b];rfl
   ·rw [ab b];rw [fS9] at b;rw [b];rfl
  ·rw [ab hc,bne0 hc];rfl
 ·rw [ab a,aW.2 a];simp only [ah];have f:(!(((g==false)&&((l==false)&&((dg==([]:aa))&&((x==0)&&((q==0)&&true)))))&&((m==([]:aa))&&((d==([]:aa))&&(((k0==0)&&((k1==0)&&((k2==0)&&true)))&&true)))))=!(ME g l dg x q m d k0 k1 k2):=rfl;rw [f];by_cases e:K=2
  ·subst e;rw [ae (.inl rfl)];cases ME g l dg x q m d k0 k1 k2<;>rfl
  ·rw [aW.2 e];by_cases c:K=3
   ·subst c;rw [ae (.inr rfl)];cases ME g l dg x q m d k0 k1 k2<;>rfl
   ·rw [aW.2 c,ab (by omega)];rfl
theorem OX:kh 20000000 K g l dg x q m d k0 k1 k2=some (if chkB K g l dg x q m d k0 k1 k2=0 then (if K=2 then [46,46] else if K=3 then [] else r7 g l dg x q m d k0.toNat k1.toNat k2.toNat,0) else ([],chkB K g l dg x q m d k0 k1 k2)):=by
 unfold kh;rw [uV hml hdl hd18 h0 h1 h2];simp only [ob];by_cases hc:chkB K g l dg x q m d k0 k1 k2=0
 ·rw [ae hc,hc];simp only [fj,ah];by_cases a:K=2
  ·subst a;rfl
  ·rw [aW.2 a,ab a];by_cases b:K=3
   ·subst b;rfl
   ·rw [aW.2 b,ab b];have k1':K=1:=by
     unfold chkB at hc;by_cases h:K=1
     ·exact h
     ·rw [ab h,ab (by omega)] at hc;cases hc
    have e:chkF g l dg x q m d k0 k1 k2=0:=by
     unfold chkB at hc;rw [ae k1'] at hc;by_cases h:chkF g l dg x q m d k0 k1 k2=0
     ·exact h
     ·rw [ab h] at hc;exact absurd hc h
    have c:cN 20000000 g l dg x q m d k0 k1 k2=_:=EH 19999700 g l dg x q m d k0 k1 k2 hml hdl h0 h1 h2;rw [c,ae (qA e)];rfl
 ·rw [ab hc,bne0 hc];rfl
theorem E3 (hc:chkB K g l dg x q m d k0 k1 k2=0) (b:K=1):chkF g l dg x q m d k0 k1 k2=0/\exD dg m d q=true:=by
 have c:=And.intro hml (And.intro hdl (And.intro hd18 (And.intro h0 (And.intro h1 h2))));unfold chkB at hc;rw [ae b] at hc;by_cases h:chkF g l dg x q m d k0 k1 k2=0
 ·rw [ae h] at hc;by_cases a:exD dg m d q=true
  ·exact ⟨h,a⟩
  ·rw [ab a] at hc;cases hc
 ·rw [ab h] at hc;exact absurd hc h
end
theorem VI (n:Nat) (a b:Int):iz n a b=some (if a<b then -1 else if a>b then 1 else 0):=by
 unfold iz jF;simp only [ob,fj,ah];by_cases h:a<b
 ·rw [au h,ae h];rfl
 ·rw [av h,ab h];by_cases c:a>b
  ·rw [au c,ae c];rfl
  ·rw [av c,ab c];rfl
theorem F5 (a b:Int):∃r,js 20000000 0 a 0 b=some r/\decide (r>0)=decide (a>b):=by
 have e:lq 20000000 0 0=some 0:=rfl;have o1:nZ 20000000 [0,-1]=some (-1):=by kernel_rfl
 have f:nZ 20000000 [0,1]=some 1:=by kernel_rfl
 have d:nZ 20000000 [0,0]=some 0:=by kernel_rfl
 unfold js;rw [e,VI];simp only [ob];by_cases h:a<b
 ·rw [ae h,o1];exact ⟨_,rfl,by rw [av (show ¬a>b by omega)];rfl⟩
 ·rw [ab h];by_cases c:a>b
  ·rw [ae c,f];exact ⟨_,rfl,by rw [au c];rfl⟩
  ·rw [ab c,d];exact ⟨_,rfl,by rw [av c];rfl⟩
theorem bne1 {K:Int} (h:K≠1):(K != 1)=true:=by simp [h]
section
variable {K:Int} {g l:Bool} {dg:List UInt8} {x q:Int} {m d:List UInt8} {k0 k1 k2:Int} {K':Int} {g' l':Bool} {dg':List UInt8} {x' q':Int} {m' d':List UInt8} {p0 p1 p2:Int} (hml:m.length<=18) (hdl:dg.length<=100) (hd18:d.length<=18) (h0:0<=k0) (h1:0<=k1) (h2:0<=k2) (hml':m'.length<=18) (hdl':dg'.length<=100) (hd18':d'.length<=18) (h0':0<=p0) (h1':0<=p1) (h2':0<=p2)
include hml hdl hd18 h0 h1 h2 hml' hdl' hd18' h0' h1' h2'
theorem QP:gK 20000000 K g l dg x q m d k0 k1 k2 K' g' l' dg' x' q' m' d' p0 p1 p2=some (NY (chkB K g l dg x q m d k0 k1 k2) (chkB K' g' l' dg' x' q' m' d' p0 p1 p2) K K' (uF g dg x m d).1 (uF g' dg' x' m' d').2):=by
 unfold gK NY;rw [uV hml hdl hd18 h0 h1 h2,uV hml' hdl' hd18' h0' h1' h2'];simp only [ob];by_cases c:chkB K g l dg x q m d k0 k1 k2=0
 ·rw [ab (by omega),c];by_cases b:chkB K' g' l' dg' x' q' m' d' p0 p1 p2=0
  ·rw [ab (by omega),b];simp only [fj,ah];by_cases e:K=1
   ·rw [show (K != 1)=false by rw [e];rfl];simp only [ah];by_cases a:K'=1
    ·rw [show (K' != 1)=false by rw [a];rfl,ab (by omega),ab (by omega)];simp only [ah];obtain ⟨n,i⟩:=E3 hml hdl hd18 h0 h1 h2 c e;obtain ⟨j,o⟩:=E3 hml' hdl' hd18' h0' h1' h2' b a;rw [Ez hml hdl hd18 h0 h1 h2,Ez hml' hdl' hd18' h0' h1' h2',ae n,ae i,ae j,ae o];simp only [ob];obtain ⟨r,k,f⟩:=F5 (uF g dg x m d).1 (uF g' dg' x' m' d').2;rw [k];simp only [f];by_cases h:(uF g dg x m d).1>(uF g' dg' x' m' d').2
     ·rw [au h,ae h];rfl
     ·rw [av h,ab h];rfl
    ·rw [bne1 a,ab (by omega),ae (by omega)];rfl
   ·rw [bne1 e];by_cases a:K'=1
    ·rw [show (K' != 1)=false by rw [a];rfl,ab (by omega),ae (by omega)];rfl
    ·rw [bne1 a,ae (by omega)];rfl
  ·rw [ae b,bne0 b];rfl
 ·rw [ae c,bne0 c];rfl
end
def plR (r:DR):Nat:=r.2.2.2.2.2.2.2.2.1.1
def enR (r:DR):Nat:=r.2.2.2.2.2.2.2.2.2
theorem GY {l:aa} {b:UInt8} (h:l.take 2=[b,b]):∃r,l=b::b::r:=by
 match l,h with
 | a::c::r,h=>simp at h;exact ⟨r,by rw [h.1,h.2]⟩
theorem ER {S:aa} {a:Nat} (h:a<=S.length) {r:DR} (b:eT S a=.inr r):qM S a=.inr r/\chkR r=0:=by
 unfold eT at b;cases c:qM S a with
 | inl k=>rw [c] at b;cases b
 | inr d=>
  rw [c] at b;simp only [] at b;by_cases hc:chkR d=0
  ·rw [ae hc] at b;obtain rfl:=Sum.inr.inj b;exact ⟨rfl,hc⟩
  ·rw [ab hc] at b;cases b
theorem qQ (c:UInt8) (k:Nat) (a:k<256):(((c.toNat:Nat):Int)==(k:Int))=decide (c=UInt8.ofNat k):=by
 rw [xh,bQ,decide_eq_true_iff];constructor
 ·intro h;apply gZ.1;have:c.toNat=k:=by omega
  rw [this];simp;omega
 ·rintro rfl;simp;omega
theorem wu {S:aa} {a:Nat} (h:a<=S.length) {k E p:Nat} (b:eT S a=.inl (k,E,p)):E≠0:=by
 unfold eT at b;cases c:qM S a with
 | inl k'=>rw [c] at b;simp only [] at b;have:=Sum.inl.inj b;simp at this;omega
 | inr d=>
  rw [c] at b;simp only [] at b;by_cases hc:chkR d=0
  ·rw [ae hc] at b;cases b
  ·rw [ab hc] at b;have:=Sum.inl.inj b;simp at this;omega
def smT (x:TD):Prop:=x.2.2.2.2.2.1.length<=18/\x.2.2.1.length<=100/\x.2.2.2.2.2.2.1.length<=18/\0<=x.2.2.2.2.2.2.2.1/\0<=x.2.2.2.2.2.2.2.2.1/\0<=x.2.2.2.2.2.2.2.2.2
noncomputable def cF (x:TD):Int:=chkF x.1 x.2.1 x.2.2.1 x.2.2.2.1 x.2.2.2.2.1 x.2.2.2.2.2.1 x.2.2.2.2.2.2.1 x.2.2.2.2.2.2.2.1 x.2.2.2.2.2.2.2.2.1 x.2.2.2.2.2.2.2.2.2
def exT (x:TD):Bool:=exD x.2.2.1 x.2.2.2.2.2.1 x.2.2.2.2.2.2.1 x.2.2.2.2.1
def dyT (x:TD):Int×Int:=uF x.1 x.2.2.1 x.2.2.2.1 x.2.2.2.2.2.1 x.2.2.2.2.2.2.1
def seT (x:TD):Int:=sea x.2.2.2.2.2.1
def coT (x:TD):Nat:=ei x.2.2.2.2.2.1 x.2.2.2.2.2.2.1
noncomputable def plT (x:TD):Bool:=decide (cF x=0)&&(exT x&&!decide (0<seT x))
theorem ot:smT d0:=by unfold smT;simp
theorem fcT {x:TD} (h:smT x):ap10 (bj 20000000) x=some (cF x):=uW h.1 h.2.1 h.2.2.2.1 h.2.2.2.2.1 h.2.2.2.2.2
theorem reT {x:TD} (h:smT x):ap10 (aU 20000000) x=some (if exT x then 1 else 0):=by
 obtain ⟨a,b,c,_⟩:=h;exact H8 20000000 _ _ _ _ _ _ _ _ _ _ (by omega) (by omega) (by omega) (by omega)
theorem rsT (x:TD):ap10 (aL 20000000) x=some (seT x):=Hm 20000000 (by omega) _ _ _ _ _ _ _ _ _ _
theorem fpT {x:TD} (h:smT x):ap10 (aY 20000000) x=some (if x.2.2.2.2.2.2.1=[] then (if 0<seT x then 0 else if x.2.2.2.2.2.1=[] then 1 else 2) else 3):=HO 20000000 _ _ _ _ _ _ _ _ _ _ h.1
theorem fmT {x:TD} (h:smT x):ap10 (dC 20000000) x=some (hasX x.2.2.1||(hasX x.2.2.2.2.2.1||hasX x.2.2.2.2.2.2.1)):=by
 obtain ⟨a,b,c,_⟩:=h;exact BB 20000000 _ _ _ _ _ _ _ _ _ _ (by omega) (by omega) (by omega)
theorem fdT {x:TD} (h:smT x):ap10 (fK 20000000) x=some (if cF x=0 then (if exT x=true then (0,(dyT x).1,0,(dyT x).2,0) else (0,0,0,0,1)) else (0,0,0,0,cF x)):=Ez h.1 h.2.1 h.2.2.1 h.2.2.2.1 h.2.2.2.2.1 h.2.2.2.2.2
theorem vz {x:TD} (hc:cF x=0):(x.2.2.2.2.2.1=[]\/x.2.2.2.2.2.1.length=2)/\(x.2.2.2.2.2.2.1=[]\/x.2.2.2.2.2.2.1.length=2)/\(x.2.2.2.2.2.2.1≠[]->x.2.2.2.2.2.1≠[]/\seT x=0):=by
 obtain ⟨_,a,b,_,c⟩:=vH (qA hc);exact ⟨a,b,c⟩
theorem mA {x y:TD}:eqD x y=true↔x=y:=by
 obtain ⟨a1,a2,m,k,h,e,o,i,n,b⟩:=x;obtain ⟨b1,b2,g,d,l,p,f,j,c,a⟩:=y;simp [and_assoc]
theorem FX {x:TD} (h:smT x):m7 20000000 x=some (exT x):=by
 unfold m7;rw [fmT h];simp only [ob,exT,exD];cases (hasX x.2.2.1||(hasX x.2.2.2.2.2.1||hasX x.2.2.2.2.2.2.1))<;>rfl
theorem Ak {x:TD} (h:smT x):ks 20000000 x=some (plT x):=by
 unfold ks plT;rw [fcT h,FX h,fpT h];simp only [ob];by_cases hc:cF x=0
 ·rw [hc];cases d:exT x
  ·rfl
  ·show some ((if _ then _ else _) != (0:Int))=some (true&&(true&&!decide (0<seT x)));obtain ⟨_,_,c⟩:=vz hc;by_cases a:x.2.2.2.2.2.2.1=[]
   ·rw [ae a];by_cases hs:0<seT x
    ·rw [ae hs,au hs];rfl
    ·rw [ab hs,av hs];by_cases b:x.2.2.2.2.2.1=[]
     ·rw [ae b];rfl
     ·rw [ab b];rfl
   ·rw [ab a,(c a).2];rfl
 ·rw [av hc,show (cF x==0)=false from by simp [hc]];rfl
theorem IR {x:TD}:plT x=true↔cF x=0/\exT x=true/\¬0<seT x:=by
 unfold plT;simp [and_assoc]
noncomputable def ordB (x y:TD):Bool:=(plT x&&plT y)&&(decide (coT x=coT y)&&decide ((dyT x).1<=(dyT y).1))
theorem yM {x:TD} (hc:cF x=0) (hs:¬0<seT x):(if x.2.2.2.2.2.2.1=[] then (if 0<seT x then (0:Int) else if x.2.2.2.2.2.1=[] then 1 else 2) else 3)=((coT x:Nat):Int):=by
 obtain ⟨_,_,c⟩:=vz hc;unfold coT ei;by_cases a:x.2.2.2.2.2.2.1=[]
 ·rw [ae a,ab hs];by_cases b:x.2.2.2.2.2.1=[]
  ·simp [b,a]
  ·simp [b,a]
 ·have b:=(c a).1;simp [a,b]
theorem GI {x y:TD} (hx:smT x) (hy:smT y):lZ 20000000 x y=some (ordB x y):=by
 unfold lZ ordB;rw [Ak hx,Ak hy];cases i:plT x
 ·rfl
 cases m:plT y
 ·rfl
 obtain ⟨e,f,g⟩:=IR.1 i;obtain ⟨c,h,l⟩:=IR.1 m;rw [fpT hx,fpT hy,fdT hx,fdT hy,yM e g,yM c l,ae e,ae c,ae f,ae h];simp only [ob,u5,u4,u3,u2,cX,ah,Bool.and_self,qo];by_cases a:coT x=coT y
 ·rw [a,au rfl];obtain ⟨r,j,k⟩:=F5 (dyT x).1 (dyT y).1;simp only [fj,ah,j,qo];refine ci some ?_;have:decide (r<=0)=!decide (r>0):=by
   by_cases b:r<=0
   ·rw [au b,av (by omega)];rfl
   ·rw [av b,au (by omega)];rfl
  rw [this,k];by_cases d:(dyT x).1<=(dyT y).1
  ·rw [au d,av (by omega)];rfl
  ·rw [av d,au (by omega)];rfl
 ·have:(((coT x:Nat):Int) != ((coT y:Nat):Int))=true:=by simp;omega
  rw [this,av a];rfl
noncomputable def itE (x:TD) (r:Bool) (y:TD) (all:Bool):Int:=
 if cF x≠0 then cF x else if r=true/\cF y≠0 then cF y else if r=false/\eqD y d0=false then 5 else if r=true/\ordB x y=false then 10 else if all=true/\exT x=false then 10 else 0
theorem CQ {x y:TD} (r:Bool) (hx:smT x) (hy:smT y) (K:Int) (hc:cF x=0) (a:¬(r=true/\cF y≠0)):dQ 20000000 5 10 10 x r y K=some (itE x r y (K==4)):=by
 unfold dQ qs qu qi itE;rw [GI hx hy,FX hx,ab (by simpa using hc),ab a];cases r
 ·generalize eqD y d0=z;cases z
  ·rfl
  ·cases (K==4)
   ·rfl
   ·cases exT x<;>rfl
 ·simp only [ob,cX,ah,aj,reduceCtorEq,false_and,aC,mN];cases ordB x y
  ·rfl
  ·simp only [cX,ah,Bool.true_eq_false,aC];cases (K==4)
   ·rfl
   ·cases exT x<;>rfl
theorem y7 {x y:TD} (r:Bool) (hx:smT x) (hy:smT y) (K:Int):eY 20000000 x r y K=some (if K=3\/K=4 then itE x r y (K==4) else 18):=by
 have b:(ob (ap10 (bj 20000000) x) λc=>(cond (c != 0) (some c) (cond r (ob (ap10 (bj 20000000) y) λd=>(cond (d != 0) (some d) (ob (dQ 20000000 5 10 10 x r y K) λg=>(some g)))) (ob (dQ 20000000 5 10 10 x r y K) λh=>(some h)))))=some (itE x r y (K==4)):=by
  rw [fcT hx];simp only [ob];by_cases hc:cF x=0
  ·rw [show (cF x != 0)=false from by simp [hc],ah];cases r
   ·rw [CQ false hx hy K hc (by simp)];rfl
   ·rw [aj,fcT hy];simp only;by_cases a:cF y=0
    ·rw [show (cF y != 0)=false from by simp [a],ah,CQ true hx hy K hc (by simp [a])]
    ·rw [show (cF y != 0)=true from by simp [a],aj];unfold itE;rw [ab (by simpa using hc),ae ⟨rfl,a⟩]
  ·rw [show (cF x != 0)=true from by simp [hc],aj];unfold itE;rw [ae hc]
 unfold eY;by_cases f:K=3
 ·subst f;exact b.trans (by rfl)
 ·rw [show (K != 3)=true from by simp [f],aj];by_cases e:K=4
  ·subst e;exact b.trans (by rfl)
  ·rw [show (K != 4)=true from by simp [e],aj,ab (by omega)]
theorem VL {x y:TD} {r all:Bool} (h:cF x≠0):itE x r y all=cF x:=ae h
theorem SV {x y:TD} {all:Bool} (hc:cF x=0) (h:cF y≠0):itE x true y all=cF y:=by
 unfold itE;rw [ab (λh=>h hc),ae ⟨rfl,h⟩]
theorem V6 {x y:TD} {all:Bool} (hc:cF x=0):itE x false y all=if eqD y d0=false then 5 else if all=true/\exT x=false then 10 else 0:=by
 have b:(false=true/\cF y≠0)↔False:=by simp
 have a:(false=true/\ordB x y=false)↔False:=by simp
 have c:(false=false/\eqD y d0=false)↔eqD y d0=false:=by simp
 unfold itE;rw [ab (λh=>h hc)];simp only [b,a,aC,mN]
theorem Vq {x y:TD} {all:Bool} (hc:cF x=0) (hy:cF y=0):itE x true y all=if ordB x y=false then 10 else if all=true/\exT x=false then 10 else 0:=by
 have b:(true=true/\ordB x y=false)↔ordB x y=false:=by simp
 have a:(true=false/\eqD y d0=false)↔False:=by simp
 unfold itE;rw [ab (λh=>h hc),ab (λh=>h.2 hy)];simp only [a,aC,mN]
def sc {A:Type} (f:Nat->A->Int):Nat->List A->Option (Nat×Int)
 | _,[]=>none
 | i,t::r=>if f i t≠0 then some (i,f i t) else sc f (i+1) r
theorem Hi {A X Y:Type} {step:X->Option (X⊕Y)} {st:Nat->X} {L:List A} {f:Nat->A->Int} {yes:Nat->Int->Y} {no:Y}
  (d:∀i t,L[i]?=some t->step (st i)=some (if f i t≠0 then .inr (yes i (f i t)) else .inl (st (i+1)))) (e:step (st L.length)=some (.inr no)):
  ∀(r i:Nat),i+r=L.length->∀N,r<N->aq step N (st i)=some (match sc f i (L.drop i) with | some p=>yes p.1 p.2 | none=>no):=by
 intro r
 induction r with
 | zero=>
  intro i hi N g;obtain ⟨N,rfl⟩:∃k,N=k+1:=⟨N - 1,by omega⟩;rw [aq,show i=L.length by omega,e,rI];rfl
 | succ r ih=>
  intro i hi N g;obtain ⟨N,rfl⟩:∃k,N=k+1:=⟨N - 1,by omega⟩;have a:i<L.length:=by omega
  have c:L[i]?=some L[i]:=bn a;rw [aq,d i _ c,pR a,sc];by_cases b:f i L[i]≠0
  ·rw [ae b,ae b]
  ·rw [ab b,ab b];exact ih (i+1) (by omega) N (by omega)
abbrev rT (t:TI):Bool:=(d8 t).2.2.1
abbrev iT (t:TI):TD:=(d8 t).2.2.2
def smI (t:TI):Prop:=smT (iF t)/\smT (iT t)
noncomputable def itI (t:TI) (all:Bool):Int:=itE (iF t) (rT t) (iT t) all
noncomputable def endB (t:TI):Bool:=!rT t&&plT (iF t)
noncomputable def errI (K:Int) (e l:Bool) (n i:Nat) (t:TI):Int:=
 if itI t (K==4)≠0 then itI t (K==4) else if (e&&decide (i=0))&&!endB t||((l&&decide (i+1=n))&&!endB t||(e&&(l&&decide (n=1)))) then 10 else 0
noncomputable def vu (K:Int) (e l:Bool) (L:List TI):Int×Int:=match sc (errI K e l L.length) 0 L with
 | some p=>((p.1:Int),p.2)
 | none=>(0,0)
theorem qP {i:Nat} (h:i<9223372036854775807):w64 ((i:Int)+1)=((i+1:Nat):Int):=by
 show IntKind.wrap .i64 _=_;rw [wrap_i64 _ (by omega) (by omega)];omega
theorem J1 {i:Nat} (a:0<i) (h:i<9223372036854775807):w64 ((i:Int) - 1)=((i - 1:Nat):Int):=by
 show IntKind.wrap .i64 _=_;rw [wrap_i64 _ (by omega) (by omega)];omega
theorem natB (a b:Nat):(((a:Nat):Int)==((b:Nat):Int))=decide (a=b):=by
 by_cases h:a=b
 ·subst h;simp
 ·rw [av h];simp;omega
theorem Pl (a:Nat):(((a:Nat):Int)==0)=decide (a=0):=natB a 0
theorem Ti {x y:TD} (r:Bool) (hx:smT x):mH 20000000 x r y=some (!r&&plT x):=by
 unfold mH;rw [Ak hx];cases r<;>rfl
theorem JF {K:Int} (n:K=3\/K=4) {e l:Bool} {L:List TI} {i:Nat} {t:TI} (hi:L[i]?=some t) (hs:smI t) (o:L.length<=1000000) (D:TD) (KF:Int) (DF:TD) (KT:Int) (DT:TD):
  fJ 20000000 (itI t (K==4)) 10 10 10 (iF t) (rT t) (iT t) K D KF DF KT DT e l (i:Int) (w64 (len L - 1)) L=some (errI K e l L.length i t):=by
 have m:i<L.length:=(rP.1 hi).1;have d:w64 (len L - 1)=((L.length - 1:Nat):Int):=J1 (by omega) (by omega);have g:eY 20000000 (iF t) (rT t) (iT t) K=some (itI t (K==4)):=by
  rw [y7 _ hs.1 hs.2,ae n];rfl
 unfold fJ oJ pi o8 oW errI;rw [g,d];simp only [Ti (rT t) hs.1,ob,Pl,natB];have j:decide (i=L.length - 1)=decide (i+1=L.length):=by congr 1;exact propext (by omega)
 have k:decide (L.length - 1=0)=decide (L.length=1):=by congr 1;exact propext (by omega)
 rw [j,k];show cond (itI t (K==4) != 0) _ _=_;by_cases f:itI t (K==4)=0
 ·rw [ab (λh=>h f),show (itI t (K==4) != 0)=false from by simp [f],ah];show _=some (if ((e&&decide (i=0))&&!endB t||((l&&decide (i+1=L.length))&&!endB t||(e&&(l&&decide (L.length=1)))))=true then 10 else 0);unfold endB;generalize (!rT t&&plT (iF t))=z;generalize decide (i=0)=a;generalize decide (i+1=L.length)=b;generalize decide (L.length=1)=c;cases e<;>cases l<;>cases z<;>cases a<;>cases b<;>cases c<;>rfl
 ·rw [ae f,show (itI t (K==4) != 0)=true from by simp [f],aj]
theorem Na {K:Int} (g:K=3\/K=4) {e l:Bool} {L:List TI} (hs:∀t∈L,smI t) (j:L.length<=1000000) (D:TD) (KF:Int) (DF:TD) (KT:Int) (DT:TD):
  kg 20000000 K D KF DF KT DT e l L=some (vu K e l L):=by
 have:=Hi (step:=eU 20000000) (st:=λi=>(len L,(i:Int),L,K,D,KF,DF,KT,DT,e,l,w64 (len L - 1))) (L:=L) (f:=errI K e l L.length) (yes:=λi q=>.inl ((i:Int),q)) (no:=.inr ())
  (λi t hi=>by
   have d:i<L.length:=(rP.1 hi).1;have a:=hs t (f7 hi);have c:eY 20000000 (iF t) (rT t) (iT t) K=some (itI t (K==4)):=by
    rw [y7 _ a.1 a.2,ae g];rfl
   unfold eU;simp only [u12,u11,u10,u9,u8,u7,u6,u5,u4,u3,u2];rw [au (show (i:Int)<len L by unfold len;omega),eu d];simp only [aj,ob,hi];rw [show eY 20000000 (iF t) (d8 t).2.2.1 (d8 t).2.2.2 K=some (itI t (K==4)) from c];simp only;rw [show fJ 20000000 (itI t (K==4)) 10 10 10 (iF t) (d8 t).2.2.1 (d8 t).2.2.2 K D KF DF KT DT e l (i:Int) (w64 (len L - 1)) L=some (errI K e l L.length i t) from JF g hi a j D KF DF KT DT];simp only;rw [qP (by omega)];by_cases b:errI K e l L.length i t=0
   ·rw [ab (λh=>h b),show (errI K e l L.length i t != 0)=false from by simp [b]];rfl
   ·rw [ae b,show (errI K e l L.length i t != 0)=true from by simp [b]];rfl)
  (by
   unfold eU;simp only [u12,u11,u10,u9,u8,u7,u6,u5,u4,u3,u2];rw [av (show ¬((L.length:Nat):Int)<len L by unfold len;omega)];rfl)
  L.length 0 (by omega) 20000000 (by omega)
 unfold kg vu;rw [ch] at this;show obs (aq (eU 20000000) 20000000 (len L,((0:Nat):Int),L,K,D,KF,DF,KT,DT,e,l,w64 (len L - 1))) _ _=_;rw [this];cases sc (errI K e l L.length) 0 L<;>rfl
noncomputable def uJ (K:Int) (x:TD):Int:=chkB K x.1 x.2.1 x.2.2.1 x.2.2.2.1 x.2.2.2.2.1 x.2.2.2.2.2.1 x.2.2.2.2.2.2.1 x.2.2.2.2.2.2.2.1 x.2.2.2.2.2.2.2.2.1 x.2.2.2.2.2.2.2.2.2
noncomputable def so (K:Int) (x:TD) (a:Int) (y:TD):Int:=NY (uJ K x) (uJ a y) K a (dyT x).1 (dyT y).2
theorem Ij {x y:TD} (hx:smT x) (hy:smT y) (K a:Int):ap10 (ap10 (gK 20000000 K) x a) y=some (so K x a y):=
 QP hx.1 hx.2.1 hx.2.2.1 hx.2.2.2.1 hx.2.2.2.2.1 hx.2.2.2.2.2 hy.1 hy.2.1 hy.2.2.1 hy.2.2.2.1 hy.2.2.2.2.1 hy.2.2.2.2.2
def unuB (K:Int) (D:TD) (KF:Int) (DF:TD) (KT:Int) (DT:TD) (e l:Bool) (n:Nat):Bool:=
 !(K==1||eqD D d0)||(!(K==2||((KF==0)&&((eqD DF d0)&&true))&&((KT==0)&&((eqD DT d0)&&true)))||!(K==3||(K==4||(decide (n=0)&&(!e&&!l)))))
theorem KP (n:Nat) (K:Int) (D:TD) (KF:Int) (DF:TD) (KT:Int) (DT:TD) (e l:Bool) (L:List TI):
  kW n K D KF DF KT DT e l L=some (unuB K D KF DF KT DT e l L.length):=by
 unfold kW unuB;rw [show (len L==0)=decide (L.length=0) from Pl _];generalize eqD D d0=a;generalize ((KF==0)&&((eqD DF d0)&&true))=z1;generalize ((KT==0)&&((eqD DT d0)&&true))=z2;generalize decide (L.length=0)=c;generalize (K==1)=k1;generalize (K==2)=k2;generalize (K==3)=b;generalize (K==4)=k4;revert a z1 z2 c k1 k2 b k4 e l;decide +kernel
noncomputable def ee (K:Int) (D:TD) (KF:Int) (DF:TD) (KT:Int) (DT:TD) (e l:Bool) (L:List TI):Int×Int:=
 if K<1\/4<K then (0,18) else if unuB K D KF DF KT DT e l L.length=true then (0,5) else if K=1 then (0,cF D) else if K=2 then (0,so KF DF KT DT) else if L.length=0 then (0,17) else if 256<L.length then (0,3) else vu K e l L
def smE (D DF DT:TD) (L:List TI):Prop:=smT D/\smT DF/\smT DT/\∀t∈L,smI t
theorem Gq {K:Int} {D:TD} {KF:Int} {DF:TD} {KT:Int} {DT:TD} {e l:Bool} {L:List TI} (h:smE D DF DT L):
  kz 20000000 K D KF DF KT DT e l L=some (ee K D KF DF KT DT e l L):=by
 obtain ⟨g,i,j,f⟩:=h;unfold kz ee;by_cases b:K<1
 ·rw [au b,ae (.inl b)];rfl
 by_cases c:4<K
 ·rw [av b,show decide (K>4)=true from au c,ae (.inr c)];rfl
 rw [av b,show decide (K>4)=false from av c,ab (by omega),KP];simp only [ah,ob];cases unuB K D KF DF KT DT e l L.length
 ·simp only [ah,bA,aC];by_cases k1:K=1
  ·rw [ae k1,show (K==1)=true from by simp [k1],fcT g];rfl
  by_cases k2:K=2
  ·rw [ab k1,ae k2,show (K==1)=false from by simp [k1],show (K==2)=true from by simp [k2],Ij i j];rfl
  rw [ab k1,ab k2,show (K==1)=false from by simp [k1],show (K==2)=false from by simp [k2]];simp only [ah];rw [show (len L==0)=decide (L.length=0) from Pl _];by_cases a:L.length=0
  ·rw [au a,ae a];rfl
  rw [av a,ab a];by_cases d:256<L.length
  ·rw [show decide (len L>256)=true from au (by show (256:Int)<((L.length:Nat):Int);omega),ae d];rfl
  rw [show decide (len L>256)=false from av (by show ¬(256:Int)<((L.length:Nat):Int);omega),ab d,Na (by omega) f (by omega)];rfl
 ·rfl
theorem vc {K:Int} {D:TD} {KF:Int} {DF:TD} {KT:Int} {DT:TD} {e l:Bool} {L:List TI} (h:smE D DF DT L):
  gv 20000000 K D KF DF KT DT e l L=some (ee K D KF DF KT DT e l L).2:=by
 unfold gv;rw [Gq h];rfl
abbrev TR:=oC
theorem ym {A:Type} {f:Nat->A->Int}:∀{L:List A} {k:Nat},(∀i t,L[i]?=some t->f (k+i) t=0)->sc f k L=none
 | [],_,_=>rfl
 | t::r,k,h=>by
  have a:=h 0 t rfl;rw [cn] at a;rw [sc,ab (λh=>h a)];exact ym λi u b=>by rw [fY,oN 1 i];exact h (i+1) u b
structure RightE (k:Int) (D:TD) (KF:Int) (DF:TD) (KT:Int) (DT:TD) (e l:Bool) (I:List TI):Prop where
 sm:smE D DF DT I
 first:ee k D KF DF KT DT e l I=(0,0)
 len:I.length<=5
 kind:1<=k/\k<=4
 its:∀t∈I,itI t (k==4)=0
theorem Bh {x:TD} (hs:smT x) (hc:cF x=0):RightE 1 x 0 d0 0 d0 false false []:=by
 refine ⟨⟨hs,ot,ot,λt a=>by cases a⟩,?_,by simp,by omega,by simp⟩;have c:eqD d0 d0=true:=mA.2 rfl;have b:unuB 1 x 0 d0 0 d0 false false ([]:List TI).length=false:=by unfold unuB;rw [c];rfl
 unfold ee;rw [ab (by omega),ab (by rw [b];simp),ae rfl,hc]
theorem xA {KF KT:Int} {x y:TD} (hx:smT x) (hy:smT y) (h:so KF x KT y=0):RightE 2 d0 KF x KT y false false []:=by
 refine ⟨⟨ot,hx,hy,λt a=>by cases a⟩,?_,by simp,by omega,by simp⟩;have c:eqD d0 d0=true:=mA.2 rfl;have b:unuB 2 d0 KF x KT y false false ([]:List TI).length=false:=by unfold unuB;rw [c];rfl
 unfold ee;rw [ab (by omega),ab (by rw [b];simp),ab (by omega),ae rfl,h]
theorem C9 (x:TD):uJ 1 x=if cF x=0 then if exT x=true then 0 else 11 else cF x:=by
 unfold uJ chkB;rw [ae rfl];rfl
theorem Es {x:TD} (h:uJ 1 x=0):cF x=0/\exT x=true:=by
 rw [C9] at h;by_cases hc:cF x=0
 ·rw [ae hc] at h;by_cases a:exT x=true
  ·exact ⟨hc,a⟩
  ·rw [ab a] at h;cases h
 ·rw [ab hc] at h;exact absurd h hc
theorem NN {x:TD} (hc:cF x=0) (a:exT x=true):uJ 1 x=0:=by
 rw [C9,ae hc,ae a]
noncomputable instance decTI:DecidableEq TI:=λa b=>Classical.propDecidable (a=b)
theorem G4 {A B X Y:Type} {step:X->Option (X⊕Y)} {st:Nat->List B->X} {fin:List B->Y} {L:List A} {f:A->List B} {c:Nat} (e:∀t,(f t).length<=2)
  (d:∀i t acc,L[i]?=some t->acc.length<=c+2*i->step (st i acc)=some (.inl (st (i+1) (acc++f t)))) (g:∀acc,step (st L.length acc)=some (.inr (fin acc))):
  ∀(r i:Nat) (acc:List B),i+r=L.length->acc.length<=c+2*i->∀N,r<N->aq step N (st i acc)=some (fin (acc++(L.drop i).flatMap f)):=by
 intro r
 induction r with
 | zero=>
  intro i acc hi b N h;obtain ⟨N,rfl⟩:∃k,N=k+1:=⟨N - 1,by omega⟩;rw [aq,show i=L.length by omega,g,rI];simp
 | succ r ih=>
  intro i acc hi b N h;obtain ⟨N,rfl⟩:∃k,N=k+1:=⟨N - 1,by omega⟩;have a:i<L.length:=by omega
  rw [aq,d i _ acc (bn a) b,pR a,na,<-fi];refine ih (i+1) _ (by omega) ?_ N (by omega);have:=e L[i];rw [bH];omega
def datI (t:TI):List TD:=if rT t=true then [iF t,iT t] else [iF t]
theorem EA (t:TI):(datI t).length<=2:=by unfold datI;split<;>simp
def datE (k:Int) (D:TD) (KF:Int) (DF:TD) (KT:Int) (DT:TD) (I:List TI):List TD:=
 if k=1 then [D] else if k=2 then (if KF=1 then (if KT=1 then [DF,DT] else [DF]) else if KT=1 then [DT] else []) else if k=3\/k=4 then I.flatMap datI else []
theorem R2 {B:Type} {acc:List B} (h:acc.length<=3000000):Nat.ble (acc.length+1) dR=true:=cr (by unfold dR;omega)
theorem zG {I:List TI} (b:I.length<=1000000):aq (fE 20000000) 20000000 (len I,0,I,([]:List TD))=some (I.flatMap datI):=by
 have:=G4 (step:=fE 20000000) (st:=λi acc=>(len I,(i:Int),I,acc)) (fin:=λacc=>acc) (L:=I) (f:=datI) (c:=0) EA ?_ ?_ I.length 0 [] (by omega) (by simp) 20000000 (by omega)
 ·rw [ch,dD] at this;exact this
 ·intro i t acc a d;have hi:i<I.length:=(rP.1 a).1;unfold fE;simp only [u4,u3,u2];rw [au (show (i:Int)<len I by show (i:Int)<((I.length:Nat):Int);omega),eu hi];simp only [aj,ob,a,R2 (acc:=acc) (by omega),R2 (acc:=acc++[iF t]) (by simp;omega)];rw [qP (by omega)];unfold datI;show cond (rT t) _ _=_;cases rT t
  ·rfl
  ·show (some (Sum.inl (len I,((i+1:Nat):Int),I,(acc++[iF t])++[iT t])):Option ((Int×Int×List TI×List TD)⊕List TD))=_;rw [fi];rfl
 ·intro acc;unfold fE;simp only [u4,u3,u2];rw [av (show ¬((I.length:Nat):Int)<len I by show ¬((I.length:Nat):Int)<((I.length:Nat):Int);omega)];rfl
theorem Vw (L:List TD):aD 20000000 L=some (L.length,L.length):=by
 unfold aD;rw [fQ (aP _)];show ob (bx L.length ((L.length:Nat):Int)) _=_;rw [fQ (aP _)];rfl
theorem N6 {I:List TI} (d:I.length<=1000000) (k:Int) (D:TD) (KF:Int) (DF:TD) (KT:Int) (DT:TD) (e l:Bool):
  gF 20000000 k D KF DF KT DT e l I=some ((datE k D KF DF KT DT I).length,(datE k D KF DF KT DT I).length,datE k D KF DF KT DT I):=by
 unfold gF datE;rw [zG d];simp only [Vw,ob,u2];by_cases k1:k=1
 ·rw [ae k1,show (k==1)=true from by simp [k1]];rfl
 by_cases k2:k=2
 ·rw [ab k1,ae k2,show (k==1)=false from by simp [k1],show (k==2)=true from by simp [k2]];by_cases b:KF=1
  ·rw [ae b,show (KF==1)=true from by simp [b]];by_cases a:KT=1
   ·rw [ae a,show (KT==1)=true from by simp [a]];rfl
   ·rw [ab a,show (KT==1)=false from by simp [a]];rfl
  ·rw [ab b,show (KF==1)=false from by simp [b]];by_cases a:KT=1
   ·rw [ae a,show (KT==1)=true from by simp [a]];rfl
   ·rw [ab a,show (KT==1)=false from by simp [a]];rfl
 rw [ab k1,ab k2,show (k==1)=false from by simp [k1],show (k==2)=false from by simp [k2]];by_cases c:k=3
 ·rw [ae (.inl c),show (k==3)=true from by simp [c]];rfl
 by_cases k4:k=4
 ·rw [ae (.inr k4),show (k==3)=false from by simp [c],show (k==4)=true from by simp [k4]];rfl
 rw [ab (by omega),show (k==3)=false from by simp [c],show (k==4)=false from by simp [k4]];rfl
theorem yZ (n:Nat) (t S R:aa) (a:Int) (q:t.length<4611686018427387904) (p:t.length<n):
  aq (dE n) n (t,0,R,S,a)=some (((lcp R t:Nat):Int),S,a):=by
 have:=gO (step:=dE n)
  (λx=>∃j:Nat,j<=t.length/\x=(t,(j:Int),R,S,a)) (λx=>t.length - x.2.1.toNat)
  (λx=>(((x.2.1.toNat+lcp (R.drop x.2.1.toNat) (t.drop x.2.1.toNat):Nat):Int),S,a)) ?_ n (t,0,R,S,a) ⟨0,by omega,rfl⟩ (by simp;omega)
 ·simpa using this
 rintro x ⟨j,o,rfl⟩;simp only [cV,dE,PL];by_cases g:j<t.length/\j<R.length
 ·obtain ⟨h,m⟩:=g;obtain ⟨c,hc⟩:∃c,t[j]?=some c:=⟨t[j],bn h⟩;obtain ⟨d,i⟩:∃d,R[j]?=some d:=⟨R[j],bn m⟩;have f:IntKind.wrap .i64 ((j:Int)+1)=((j+1:Nat):Int):=by rw [wrap_i64 _ (by omega) (by omega)];omega
  have e:(decide ((j:Int)<((min t.length R.length:Nat):Int)))=true:=by simp only [dl];omega
  have b:(decide ((j:Int)<((min R.length t.length:Nat):Int)))=true:=by simp only [dl];omega
  simp only [e,b,aj,ew hc,ew i,ob,od,bY hc,bY i,lcp];cases l:d==c with
  | true=>
   refine .inl ⟨_,rfl,⟨j+1,by omega,by rw [f]⟩,?_,?_⟩
   ·simp only [f,cV];omega
   ·simp only [f,cV,bE,vJ,aK];omega
  | false=>exact .inr (by simp)
 ·have e:(decide ((j:Int)<((min t.length R.length:Nat):Int)))=false:=by simp only [vX];omega
  have b:(decide ((j:Int)<((min R.length t.length:Nat):Int)))=false:=by simp only [vX];omega
  refine .inr ?_;have k:lcp (R.drop j) (t.drop j)=0:=by
   by_cases h:j<t.length
   ·rw [iP (show R.length<=j by omega)];rfl
   ·rw [iP (show t.length<=j by omega)];cases R.drop j<;>rfl
  simp only [e,b,k,ah,cn]
theorem zW (n:Nat) (t S:aa) (a:Nat) (h:a<=S.length) (b:S.length<4611686018427387904) (d:t.length<4611686018427387904) (c:t.length<n):
  bM n t S (a:Int)=some (if (S.drop a).take t.length=t then .inl (S,((a+t.length:Nat):Int)) else .inr (((a+lcp (S.drop a) t:Nat):Int),5,S,(a:Int))):=by
 have f:=vY (S.drop a) t;rw [cY] at f;simp only [bM,l7 n t S a h b,ob];by_cases hp:(S.drop a).take t.length=t
 ·simp [hp]
 ·have e:IntKind.wrap .i64 ((a:Int)+((lcp (S.drop a) t:Nat):Int))=((a+lcp (S.drop a) t:Nat):Int):=by rw [wrap_i64 _ (by omega) (by omega)];omega
  simp only [hp,aC,ah,sJ n S a h,yZ n t S (S.drop a) (a:Int) d c,AS,e,uK];simp
def tdR (r:DR):TD:=(r.1,r.2.1,r.2.2.1,(r.2.2.2.1:Int),(r.2.2.2.2.1:Int),r.2.2.2.2.2.1,r.2.2.2.2.2.2.1,(r.2.2.2.2.2.2.2.1.1:Int),(r.2.2.2.2.2.2.2.1.2.1:Int),(r.2.2.2.2.2.2.2.1.2.2:Int))
theorem ny {S:aa} {a:Nat} (h:a<=S.length) {r:DR} (c:eT S a=.inr r):smT (tdR r)/\cF (tdR r)=0/\a<=enR r/\enR r<=S.length:=by
 obtain ⟨f,b⟩:=ER h c;obtain ⟨g,l,dg,x,s,m,d,M,P,e⟩:=r;have ok:=EI h f;have:=ok.dg17;have:=ok.m2;have:=ok.d2;refine ⟨⟨by show m.length<=18;omega,by show dg.length<=100;omega,by show d.length<=18;omega,by show (0:Int)<=(M.1:Int);omega,by show (0:Int)<=(M.2.1:Int);omega,by show (0:Int)<=(M.2.2:Int);omega⟩,?_,ok.le,ok.end_⟩;have hc:=yS (g:=g) (l:=l) (dg:=dg) (x:=(x:Int)) (q:=(s:Int)) (m:=m) (d:=d) (k0:=(M.1:Int)) (k1:=(M.2.1:Int)) (k2:=(M.2.2:Int)) (Aw ok.all);unfold chkR at b;simp only [] at b;show chkF g l dg (x:Int) (s:Int) m d (M.1:Int) (M.2.1:Int) (M.2.2:Int)=0;omega
def dts (l:aa):Bool:=l.take 2==[46,46]
theorem vv {l:aa}:dts l=true↔∃r,l=46::46::r:=by
 unfold dts;rw [bQ];constructor
 ·exact GY
 ·rintro ⟨r,rfl⟩;rfl
theorem sV {S:aa} {p:Nat} (h:dts (S.drop p)=true):p+2<=S.length:=by
 obtain ⟨r,a⟩:=vv.1 h;have:=ci List.length a;simp at this;omega
noncomputable def pK (S:aa) (b:UInt8) (p:Nat):(Nat×Nat×Nat)⊕(TI×Nat×Nat):=
 match eT S p with
 | .inl f=>.inl f
 | .inr r=>if dts (S.drop (enR r))=true/\(S.drop (enR r+2)).head?≠some b then
   match eT S (enR r+2) with
   | .inl f=>.inl f
   | .inr a=>.inr (mkI (tdR r) true (tdR a),plR r,enR a)
  else .inr (mkI (tdR r) false d0,plR r,enR r)
theorem AY {S:aa} {j:UInt8} {p:Nat} (h:p<=S.length) {t:TI} {a d:Nat} (b:pK S j p=.inr (t,a,d)):smI t/\p<=d/\d<=S.length:=by
 unfold pK at b;cases c:eT S p with
 | inl f=>rw [c] at b;cases b
 | inr r=>
  obtain ⟨g,_,m,n⟩:=ny h c;rw [c] at b;simp only [] at b;split at b
  ·rename_i k;have:=sV k.1;cases e:eT S (enR r+2) with
   | inl f=>rw [e] at b;cases b
   | inr o=>
    obtain ⟨l,_,l3,i⟩:=ny (by omega) e;rw [e] at b;cases b;exact ⟨⟨g,l⟩,by omega,i⟩
  ·cases b;exact ⟨⟨g,ot⟩,m,n⟩
noncomputable def nR (S:aa) (c:UInt8):Nat->Nat->List Nat->List TI->(Nat×Nat×Nat)⊕(Nat×List Nat×List TI)
 | 0,p,_,_=>.inl (p,3,p)
 | r+1,p,P,I=>match pK S c p with
  | .inl f=>.inl f
  | .inr (t,a,b)=>if (S.drop b).head?=some 44 then nR S c r (b+1) (P++[a]) (I++[t]) else .inr (b,P++[a],I++[t])
theorem mK {S:aa} {p:Nat} {c:UInt8} (h:(S.drop p).head?=some c):p+1<=S.length:=by
 cases b:S.drop p with
 | nil=>rw [b] at h;cases h
 | cons a r=>
  have:=ci List.length b;simp at this;omega
theorem Bd {S:aa} {j:UInt8}:∀(r p:Nat) (P:List Nat) (I:List TI),p<=S.length->P.length=I.length->(∀t∈I,smI t)->∀{c:Nat} {d:List Nat} {b:List TI},nR S j r p P I=.inr (c,d,b)->
  c<=S.length/\d.length=b.length/\I.length<b.length/\b.length<=I.length+r/\(∀t∈b,smI t)
 | 0,p,P,I,_,_,_,c,d,b,e=>by cases e
 | r+1,p,P,I,h,i,hs,c,d,b,e=>by
  rw [nR] at e;cases g:pK S j p with
  | inl f=>rw [g] at e;cases e
  | inr q=>
   obtain ⟨t,a,v⟩:=q;obtain ⟨n,z,y⟩:=AY h g;rw [g] at e;simp only [] at e;have hs':∀u∈I++[t],smI u:=λu s=>by
    rcases mX.1 s with h | h
    ·exact hs u h
    ·rw [mn.1 h];exact n
   split at e
   ·rename_i k;obtain ⟨w,x,l,o,m⟩:=Bd r (v+1) (P++[a]) (I++[t]) (mK k) (by simp [i]) hs' e;rw [bH,List.length_singleton] at l o;exact ⟨w,x,by omega,by omega,m⟩
   ·cases e;exact ⟨y,by simp [i],by simp,by simp,hs'⟩
theorem dts3 (S:aa) (p:Nat) (c:UInt8):((S.drop p).take [46,46,c].length==[46,46,c])=(dts (S.drop p)&&decide ((S.drop (p+2)).head?=some c)):=by
 rw [<-iL];generalize S.drop p=l;unfold dts
 match l with
 | []=>rfl
 | [a]=>simp
 | [a,b]=>simp
 | a::b::d::r=>
  rw [xh];simp [and_assoc]
def endC (K:Int):UInt8:=if K=4 then 125 else 93
theorem wO {K:Int} (a:K=3\/K=4) (n:Nat):fP n K=some ([if K=4 then 123 else 91],[endC K]):=by
 rcases a with rfl | rfl<;>rfl
theorem TO (c:UInt8) {S:aa} {p:Nat} (h:p<=S.length) (b f:Int) (a:Bool) (e:List Int) (i:TD) (g d:List TI):
  kB 20000000 [c] b S (p:Int) f a e i g d=some ([c],b,dts (S.drop p)&&!decide ((S.drop (p+2)).head?=some c),S,(p:Int),f,a,e,i,g,d):=by
 unfold kB;rw [IY _ _ _ _ h];have hc:cat [46,46] [c]=some [46,46,c]:=rfl;simp only [ob,hc,IY _ _ _ _ h,dts3];show cond (dts (S.drop p)) _ _=_;cases j:dts (S.drop p)
 ·rfl
 ·cases decide ((S.drop (p+2)).head?=some c)<;>rfl
theorem tk1 (l:aa) (c:UInt8):l.take [c].length=[c]↔l.head?=some c:=by
 cases l<;>simp
theorem CH (S:aa) (r:DR):Rn S (.inr r)=.inr ((tdR r).1,(tdR r).2.1,(tdR r).2.2.1,(tdR r).2.2.2.1,(tdR r).2.2.2.2.1,(tdR r).2.2.2.2.2.1,(tdR r).2.2.2.2.2.2.1,(tdR r).2.2.2.2.2.2.2.1,(tdR r).2.2.2.2.2.2.2.2.1,(tdR r).2.2.2.2.2.2.2.2.2,((plR r:Nat):Int),S,((enR r:Nat):Int)):=rfl
theorem Tt (b:Bool) (c:UInt8) {S:aa} {p:Nat} (h:p<=S.length) (o:S.length<100000) (s:b=true->dts (S.drop p)=true) (d e:Int) (i:Bool) (k:List Int) (j:TD) (g a:List TI):
  kD 20000000 [c] d b S (p:Int) e i k j g a=some (if b=true then (match eT S (p+2) with
   | .inl f=>.inl ((f.1:Int),(f.2.1:Int),S,(f.2.2:Int))
   | .inr r=>.inr ([c],d,S,((enR r:Nat):Int),e,i,k,j,true,tdR r,g,a)) else .inr ([c],d,S,(p:Int),e,i,k,j,false,d0,g,a)):=by
 unfold kD;cases b
 ·rfl
 ·have l:=s rfl;have m:=sV l;have q:(S.drop p).take [(46:UInt8),46].length=[46,46]:=by
   obtain ⟨r,n⟩:=vv.1 l;rw [n];rfl
  rw [aj,zW _ _ _ _ h (by omega) (by simp) (by simp),ae q,ae rfl];show obs (gy 20000000 S ((p+2:Nat):Int)) _ _=_;rw [DW S (p+2) m o];cases eT S (p+2) with
  | inl f=>rfl
  | inr r=>rfl
theorem Ab {α:Type} {I:List α} (h:I.length<=256):Nat.ble (I.length+1) dR=true:=cr (by unfold dR;omega)
abbrev nV (P:List Nat):List Int:=P.map λk:Nat=>(k:Int)
theorem QJ (c:UInt8) {S:aa} {p:Nat} (h:p<=S.length) (u:S.length<100000) (K:Int) (e:Bool) {P:List Nat} (J:List TI) {I:List TI} (A:I.length<256) (z:P.length=I.length):
  eJ 20000000 ([c],S,(p:Int),K,e,nV P,J,I)=some (match pK S c p with
   | .inl f=>.inr (.inl ((f.1:Int),(f.2.1:Int),S,(f.2.2:Int)))
   | .inr (t,a,b)=>if (S.drop b).head?=some 44 then .inl ([c],S,((b+1:Nat):Int),K,e,nV (P++[a]),J,I++[t])
    else .inr (.inr ([c],S,((if dts (S.drop b) then b+2 else b:Nat):Int),0,d0,0,d0,0,d0,false,false,K,d0,0,d0,0,d0,e,dts (S.drop b),nV (P++[a]),J,I++[t]))):=by
 have fin:∀(t:TI) (a b:Nat),b<=S.length->(ob (aA 20000000 [44] S (b:Int)) (u3 λo k j=>(cond o (some (.inl ([c],k,j,K,e,(nV P++([(a:Int)]:List (Int))),J,(I++([t]:List TI))))) (ob (aA 20000000 [46,46] k j) (u3 λm g l=>(cond m (some (.inr (.inr ([c],g,l,0,d0,0,d0,0,d0,false,false,K,d0,0,d0,0,d0,e,true,(nV P++([(a:Int)]:List (Int))),J,(I++([t]:List TI)))))) (some (.inr (.inr ([c],g,l,0,d0,0,d0,0,d0,false,false,K,d0,0,d0,0,d0,e,false,(nV P++([(a:Int)]:List (Int))),J,(I++([t]:List TI))))))))))):Option ((aa×aa×Int×Int×Bool×List (Int)×List TI×List TI)⊕((Int×Int×aa×Int)⊕(aa×aa×Int×Int×TD×Int×TD×Int×TD×Bool×Bool×Int×TD×Int×TD×Int×TD×Bool×Bool×List (Int)×List TI×List TI)))) =
   some (if (S.drop b).head?=some 44 then .inl ([c],S,((b+1:Nat):Int),K,e,nV (P++[a]),J,I++[t])
    else .inr (.inr ([c],S,((if dts (S.drop b) then b+2 else b:Nat):Int),0,d0,0,d0,0,d0,false,false,K,d0,0,d0,0,d0,e,dts (S.drop b),nV (P++[a]),J,I++[t]))):=by
  intro t a b i;have x:nV (P++[a])=nV P++[(a:Int)]:=by simp [nV]
  rw [l7 _ _ _ _ i (by omega),x];simp only [ob,u3,u2,tk1];by_cases hc:(S.drop b).head?=some 44
  ·rw [ae hc,ae hc];rfl
  ·rw [ab hc,ab hc];simp only [ah];rw [l7 _ _ _ _ i (by omega)];cases d:dts (S.drop b)
   ·rw [ab (show ¬(S.drop b).take [(46:UInt8),46].length=[46,46] from λh=>by unfold dts at d;rw [show (S.drop b).take 2=[46,46] from h] at d;cases d)];rfl
   ·rw [ae (show (S.drop b).take [(46:UInt8),46].length=[46,46] from eq_of_beq d)];rfl
 unfold eJ;simp only [u8,u7,u6,u5,u4,u3,u2];rw [show (len I==256)=false from by show (((I.length:Nat):Int)==256)=false;simp;omega,ah,DW S p h u];unfold pK;cases w:eT S p with
 | inl f=>rfl
 | inr r=>
  obtain ⟨D,_,C,n⟩:=ny h w;rw [CH];simp only [obs,sm,ob];rw [show (d4 (d8 ((tdR r).1,(tdR r).2.1,(tdR r).2.2.1,(tdR r).2.2.2.1,(tdR r).2.2.2.2.1,(tdR r).2.2.2.2.2.1,(tdR r).2.2.2.2.2.2.1,(tdR r).2.2.2.2.2.2.2.1,(tdR r).2.2.2.2.2.2.2.2.1,(tdR r).2.2.2.2.2.2.2.2.2,((plR r:Nat):Int),S,((enR r:Nat):Int))))=((enR r:Nat):Int) from rfl,TO c n];simp only [u11,u10,u9,u8,u7,u6,u5,u4,u3,u2];rw [Tt _ c n u (λh=>by simp at h;exact h.1)];have s:(dts (S.drop (enR r))&&!decide ((S.drop (enR r+2)).head?=some c))=true↔(dts (S.drop (enR r))=true/\(S.drop (enR r+2)).head?≠some c):=by simp
  by_cases d:dts (S.drop (enR r))=true/\(S.drop (enR r+2)).head?≠some c
  ·rw [ae (s.2 d),ae d];cases v:eT S (enR r+2) with
   | inl f=>rfl
   | inr q=>
    obtain ⟨B,_,l3,y⟩:=ny (sV d.1) v;simp only [u12,u11,u10,u9,u8,u7,u6,u5,u4,u3,u2];rw [Ab (by omega),Ab (by simp;omega)];exact fin (mkI (tdR r) true (tdR q)) (plR r) (enR q) y
  ·rw [ab (λh=>d (s.1 h)),ab d];simp only [u12,u11,u10,u9,u8,u7,u6,u5,u4,u3,u2];rw [Ab (by omega),Ab (by simp;omega)];exact fin (mkI (tdR r) false d0) (plR r) (enR r) n
theorem PY (c:UInt8) (S:aa) (p K:Int) (e:Bool) (P:List Int) (J:List TI) {I:List TI} (a:I.length=256):
  eJ 20000000 ([c],S,p,K,e,P,J,I)=some (.inr (.inl (p,3,S,p))):=by
 unfold eJ;simp only [u8,u7,u6,u5,u4,u3,u2];rw [show (len I==256)=true from by show (((I.length:Nat):Int)==256)=true;rw [a];rfl];rfl
def Vj (S:aa) (c:UInt8) (K:Int) (e:Bool) (J:List TI):(Nat×Nat×Nat)⊕(Nat×List Nat×List TI)->(Int×Int×aa×Int)⊕(aa×aa×Int×Int×TD×Int×TD×Int×TD×Bool×Bool×Int×TD×Int×TD×Int×TD×Bool×Bool×List (Int)×List TI×List TI)
 | .inl f=>.inl ((f.1:Int),(f.2.1:Int),S,(f.2.2:Int))
 | .inr (p,P,I)=>.inr ([c],S,((if dts (S.drop p) then p+2 else p:Nat):Int),0,d0,0,d0,0,d0,false,false,K,d0,0,d0,0,d0,e,dts (S.drop p),nV P,J,I)
theorem QY (c:UInt8) {S:aa} (g:S.length<100000) (K:Int) (e:Bool) (J:List TI):∀(r p:Nat) (P:List Nat) (I:List TI),I.length+r=256->p<=S.length->P.length=I.length->∀N,r<N->
  aq (eJ 20000000) N ([c],S,(p:Int),K,e,nV P,J,I)=some (Vj S c K e J (nR S c r p P I)):=by
 intro r
 induction r with
 | zero=>
  intro p P I h hp b N j;obtain ⟨N,rfl⟩:∃k,N=k+1:=⟨N - 1,by omega⟩;rw [aq,PY c S _ K e _ J (by omega)];rfl
 | succ r ih=>
  intro p P I h hp b N j;obtain ⟨N,rfl⟩:∃k,N=k+1:=⟨N - 1,by omega⟩;rw [aq,QJ c hp g K e J (by omega) b,nR];cases i:pK S c p with
  | inl f=>rfl
  | inr q=>
   obtain ⟨t,a,d⟩:=q;obtain ⟨_,l,m⟩:=AY hp i;simp only [];by_cases hc:(S.drop d).head?=some 44
   ·rw [ae hc,ae hc];exact ih (d+1) (P++[a]) (I++[t]) (by simp;omega) (mK hc) (by simp [b]) N (by omega)
   ·rw [ab hc,ab hc];rfl
theorem CW {X a Y b:Type} {s:X->Option (X⊕Y)} {s':a->Option (a⊕b)} (f:X->a) (g:Y->b) (h:∀x,s' (f x)=(s x).map (Sum.map f g)):∀(n:Nat) (x:X),aq s' n (f x)=(aq s n x).map g
 | 0,_=>rfl
 | n+1,x=>by
  rw [aq,aq,h];cases s x with
  | none=>rfl
  | some z=>
   cases z with
   | inl y=>exact CW f g h n y
   | inr y=>rfl
theorem QC (n:Nat) (K:Int) (D:TD) (KF:Int) (DF:TD) (KT:Int) (DT:TD) (c:Nat) (e l:Bool) (L:List TI):lU n K D KF DF KT DT L.length c e l L=kg n K D KF DF KT DT e l L:=by
 unfold lU kg;have:=CW (s:=eU n) (s':=jf n) (u12 λq f d g m h k p o j a b=>(d.length,c,q,f,d,g,m,h,k,p,o,d.length,c,j,a,b)) id (by
  rintro ⟨q,f,d,g,m,h,k,p,o,j,a,b⟩;unfold eU jf;simp only [u16,u15,u14,u13,u12,u11,u10,u9,u8,u7,u6,u5,u4,u3,u2];cases decide (f<q)
  ·rfl
  ·simp only [aj];cases ix d.length f with
   | none=>rfl
   | some i=>
    simp only [ob];cases d[i]? with
    | none=>rfl
    | some t=>
     simp only [ob];cases eY n (iF t) (d8 t).2.2.1 (d8 t).2.2.2 g with
     | none=>rfl
     | some v=>
      simp only [ob];rw [show ll n v 10 10 10 (iF t) (d8 t).2.2.1 (d8 t).2.2.2 g m h k p o d.length c j a f b d=fJ n v 10 10 10 (iF t) (d8 t).2.2.1 (d8 t).2.2.2 g m h k p o j a f b d from rfl];cases fJ n v 10 10 10 (iF t) (d8 t).2.2.1 (d8 t).2.2.2 g m h k p o j a f b d with
      | none=>rfl
      | some z=>
       simp only [ob];cases (z != 0)<;>rfl) n (len L,0,L,K,D,KF,DF,KT,DT,e,l,w64 (len L - 1))
 simp only [u12,u11,u10,u9,u8,u7,u6,u5,u4,u3,u2] at this;rw [show (L.length,c,((L.length:Nat):Int),(0:Int),L,K,D,KF,DF,KT,DT,L.length,c,e,l,w64 (((L.length:Nat):Int) - 1))=(L.length,c,len L,0,L,K,D,KF,DF,KT,DT,L.length,c,e,l,w64 (len L - 1)) from rfl,this];rw [Option.map_id];rfl
theorem PS (n:Nat) (K:Int) (D:TD) (KF:Int) (DF:TD) (KT:Int) (DT:TD) (c:Nat) (e l:Bool) (L:List TI):gH n K D KF DF KT DT L.length c e l L=kz n K D KF DF KT DT e l L:=by
 unfold gH kz;rw [QC,show nK n K D KF DF KT DT L.length c e l L=kW n K D KF DF KT DT e l L from rfl]
theorem Hq {K:Int} {D:TD} {KF:Int} {DF:TD} {KT:Int} {DT:TD} {e l:Bool} {L:List TI} (h:smE D DF DT L) (c:Nat):
  gH 20000000 K D KF DF KT DT L.length c e l L=some (ee K D KF DF KT DT e l L):=(PS _ _ _ _ _ _ _ _ _ _ _).trans (Gq h)
noncomputable def setE (K:Int) (e l:Bool) (I:List TI):Int×Int:=ee K d0 0 d0 0 d0 e l I
noncomputable def endL (S:aa) (K:Int) (e:Bool) (p:Nat) (P:List Nat) (I:List TI):(Nat×Nat×Nat)⊕(Int×Bool×Bool×List TI×Nat):=
 if (S.drop (if dts (S.drop p) then p+2 else p)).head?=some (endC K) then
  if (setE K e (dts (S.drop p)) I).2=0 then .inr (K,e,dts (S.drop p),I,(if dts (S.drop p) then p+2 else p)+1)
  else .inl (P.getD (setE K e (dts (S.drop p)) I).1.toNat 0,10,(if dts (S.drop p) then p+2 else p)+1)
 else .inl ((if dts (S.drop p) then p+2 else p),5,(if dts (S.drop p) then p+2 else p))
noncomputable def AZ (S:aa) (a:Nat) (K:Int):(Nat×Nat×Nat)⊕(Int×Bool×Bool×List TI×Nat):=
 match nR S (endC K) 256 (if dts (S.drop (a+1)) then a+3 else a+1) [] [] with
 | .inl f=>.inl f
 | .inr (p,P,I)=>endL S K (dts (S.drop (a+1))) p P I
noncomputable def vE (S:aa) (a:Nat):(Nat×Nat×Nat)⊕(Int×Bool×Bool×List TI×Nat):=
 if (S.drop a).head?=some 91 then AZ S a 3 else if (S.drop a).head?=some 123 then AZ S a 4 else .inl (a,5,a)
theorem O4 {K:Int} (a:K=3\/K=4) {e l:Bool} {I:List TI} (b:1<=I.length):∃i:Nat,(setE K e l I).1=(i:Int)/\i<I.length:=by
 have hi:∃i:Nat,(vu K e l I).1=(i:Int)/\i<I.length:=by
  unfold vu;have:∀(J:List TI) (k:Nat) (p:Nat×Int),sc (errI K e l I.length) k J=some p->p.1<k+J.length:=by
   intro J
   induction J with
   | nil=>intro k p h;cases h
   | cons t r ih=>
    intro k p h;rw [sc] at h;split at h
    ·cases h;simp
    ·have:=ih (k+1) p h;simp;omega
  cases hs:sc (errI K e l I.length) 0 I with
  | none=>exact ⟨0,rfl,by omega⟩
  | some p=>exact ⟨p.1,rfl,by have:=this I 0 p hs;omega⟩
 unfold setE ee;rw [ab (by omega)];split
 ·exact ⟨0,rfl,by omega⟩
 ·rw [ab (by omega),ab (by omega),ab (by omega)];split
  ·exact ⟨0,rfl,by omega⟩
  ·exact hi
theorem PU {I:List TI} (h:∀t∈I,smI t):smE d0 d0 d0 I:=⟨ot,ot,ot,h⟩
theorem VK (n:Nat) (I:List TI):bv n I=some (I.length,I.length):=by
 unfold bv;rw [fQ (aP _)];show ob (bx I.length ((I.length:Nat):Int)) _=_;rw [fQ (aP _)];rfl
def O9 (S:aa):(Nat×Nat×Nat)⊕(Int×Bool×Bool×List TI×Nat)->(Int×Int×aa×Int)⊕(Int×TD×Int×TD×Int×TD×Nat×Nat×Bool×Bool×aa×Int×List TI)
 | .inl f=>.inl ((f.1:Int),(f.2.1:Int),S,(f.2.2:Int))
 | .inr (K,e,l,I,p)=>.inr (K,d0,0,d0,0,d0,I.length,I.length,e,l,S,(p:Int),I)
theorem Uz {S:aa} (G:S.length<100000) {K:Int} (B:K=3\/K=4) (e:Bool) {p:Nat} (hp:p<=S.length) {P:List Nat} {I:List TI} (F:P.length=I.length) (z:1<=I.length) (hs:∀t∈I,smI t):
  (obs (bM 20000000 [endC K] S ((if dts (S.drop p) then p+2 else p:Nat):Int)) (u2 λc b=>(ob (bv 20000000 I) (u2 λd f=>(ob (gH 20000000 K d0 0 d0 0 d0 d f e (dts (S.drop p)) I) (u2 λs k=>(cond (k != 0) (ob (ix (List.length (nV P)) s) λm=>(ob ((nV P)[m]?) λx=>(ob (aJ 20000000 x 10 c b) (u2 λv j=>(some (.inl (v,j,c,b))))))) (some (.inr (K,d0,0,d0,0,d0,d,f,e,(dts (S.drop p)),c,b,I))))))))) (u4 λw n u o=>(some (.inl (w,n,u,o))))) =
   some (O9 S (endL S K e p P I)):=by
 have A:(if dts (S.drop p) then p+2 else p:Nat)<=S.length:=by
  split
  ·rename_i h;exact sV h
  ·exact hp
 unfold endL;generalize (if dts (S.drop p) then p+2 else p:Nat)=q at *;generalize dts (S.drop p)=l;rw [zW _ _ _ _ A (by omega) (by simp) (by simp)];simp only [tk1];by_cases hc:(S.drop q).head?=some (endC K)
 ·rw [ae hc,ae hc];simp only [obs,sm,ob,u2,VK,Hq (PU hs)];obtain ⟨i,y,E⟩:=O4 B (e:=e) (l:=l) z;show cond ((setE K e l I).2 != 0) (ob (ix (nV P).length (setE K e l I).1) _) _=_;by_cases g:(setE K e l I).2=0
  ·rw [ae g,show ((setE K e l I).2 != 0)=false from by simp [g]];rfl
  ·have hi:i<(nV P).length:=by simp [nV];omega
   rw [ab g,show ((setE K e l I).2 != 0)=true from by simp [g],y,eu hi];have D:(nV P)[i]?=some ((P.getD i 0:Nat):Int):=by
    have hi':i<P.length:=by omega
    simp [nV,bn hi']
   simp only [aj,ob,D];rfl
 ·rw [ab hc,ab hc];have:lcp (S.drop q) [endC K]=0:=by
   cases C:S.drop q with
   | nil=>rfl
   | cons a r=>
    rw [C] at hc;simp only [lcp];rw [show (a==endC K)=false from by rw [aW];rintro rfl;exact hc rfl];rfl
  rw [this];rfl
theorem Qe {S:aa} {a:Nat} (h:a<=S.length) (hS:S.length<100000):mj 20000000 S (a:Int)=some (O9 S (vE S a)):=by
 have b:∀(K:Int) (z:K=3\/K=4) (j:a+1<=S.length),(ob (l9 20000000 (K==4) S ((a+1:Nat):Int) ([]:List TI) ([]:List TI)) (u5 λv7 v8 v9 M v11=>(ob (fP 20000000 v9) (u2 λ_ J=>(ob (aA 20000000 [46,46] v7 v8) (u3 λD v14 O=>(obs (aq (eJ 20000000) 20000000 (J,v14,O,v9,D,([]:List (Int)),M,v11)) (u4 λv16 F X W=>(some (.inl (v16,F,X,W)))) (u22 λB Z C _ _ _ _ _ _ _ _ u y v l o k w x m _ e=>(obs (bM 20000000 B Z C) (u2 λg d=>(ob (bv 20000000 e) (u2 λn s=>(ob (gH 20000000 u y v l o k n s w x e) (u2 λR E=>(cond (E != 0) (ob (ix (List.length m) R) λG=>(ob (m[G]?) λv40=>(ob (aJ 20000000 v40 10 g d) (u2 λU A=>(some (.inl (U,A,g,d))))))) (some (.inr (u,y,v,l,o,k,n,s,w,x,g,d,e))))))))) (u4 λY H T N=>(some (.inl (Y,H,T,N))))))))))))) =
   some (O9 S (AZ S a K)):=by
  intro K z j;have hj:l9 20000000 (K==4) S ((a+1:Nat):Int) ([]:List TI) ([]:List TI)=some (S,((a+1:Nat):Int),K,[],[]):=by
   rcases z with rfl | rfl<;>rfl
  have V:aA 20000000 [46,46] S ((a+1:Nat):Int)=some (dts (S.drop (a+1)),S,((if dts (S.drop (a+1)) then a+3 else a+1:Nat):Int)):=by
   rw [l7 _ _ _ _ j (by omega)];cases i:dts (S.drop (a+1))
   ·rw [ab (show ¬(S.drop (a+1)).take [(46:UInt8),46].length=[46,46] from λh=>by unfold dts at i;rw [show (S.drop (a+1)).take 2=[46,46] from h] at i;cases i)];rfl
   ·rw [ae (show (S.drop (a+1)).take [(46:UInt8),46].length=[46,46] from eq_of_beq i)];rfl
  have hp:(if dts (S.drop (a+1)) then a+3 else a+1:Nat)<=S.length:=by
   split
   ·rename_i h;have:=sV h;omega
   ·exact j
  have hl:=QY (endC K) hS K (dts (S.drop (a+1))) [] 256 (if dts (S.drop (a+1)) then a+3 else a+1) [] [] (by simp) hp rfl 20000000 (by omega);simp only [hj,wO z,V,ob,u5,u4,u3,u2];rw [show aq (eJ 20000000) 20000000 ([endC K],S,((if dts (S.drop (a+1)) then a+3 else a+1:Nat):Int),K,dts (S.drop (a+1)),([]:List Int),([]:List TI),([]:List TI))=_ from hl];unfold AZ;cases hr:nR S (endC K) 256 (if dts (S.drop (a+1)) then a+3 else a+1) [] [] with
  | inl f=>rfl
  | inr q=>
   obtain ⟨p,P,I⟩:=q;obtain ⟨q1,q2,q3,q4,q5⟩:=Bd 256 _ [] [] hp rfl (λt V=>by cases V) hr;have q3':1<=I.length:=by rw [dP] at q3;omega
   exact Uz hS z (dts (S.drop (a+1))) q1 q2 q3' q5
 unfold mj vE;rw [yU _ _ _ _ h (by omega)];cases i:S.drop a with
 | nil=>rfl
 | cons c r=>
  have j:a+1<=S.length:=by
   have:=ci List.length i;simp at this;omega
  simp only [rE,ak];by_cases Q:c=91
  ·subst Q;rw [ae rfl];exact b 3 (.inl rfl) j
  ·by_cases L:c=123
   ·subst L;rw [ae rfl];exact b 4 (.inr rfl) j
   ·rw [ab Q,ab L];have:hasB [91,123] c=false:=by
     unfold hasB;simp only [qm,List.any_nil,ur,n8,aW];exact ⟨λh=>Q h.symm,λh=>L h.symm⟩
    rw [this];rfl
def rat (l:aa):Nat:=match l with | c::_=>c.toNat | []=>0
theorem TP (l:aa) (c:UInt8) (hc:c≠0):(((rat l:Nat):Int)==((c.toNat:Nat):Int))=decide (l.head?=some c):=by
 cases l with
 | nil=>
  rw [av (by simp)];rw [aW];intro h;have b:c.toNat=0:=by
   have:((0:Nat):Int)=((c.toNat:Nat):Int):=h;omega
  exact hc (gZ.1 (by rw [b];rfl))
 | cons a r=>
  show (((a.toNat:Nat):Int)==((c.toNat:Nat):Int))=_;rw [od];rw [xh];simp
theorem HJ {S:aa} {d:UInt8} {p:Nat} (h:p<=S.length) {f:Nat×Nat×Nat} (a:pK S d p=.inl f):f.2.1≠0:=by
 unfold pK at a;cases b:eT S p with
 | inl g=>rw [b] at a;cases a;exact wu (k:=f.1) (E:=f.2.1) (p:=f.2.2) h b
 | inr r=>
  rw [b] at a;simp only [] at a;split at a
  ·rename_i e;cases c:eT S (enR r+2) with
   | inl g=>rw [c] at a;cases a;exact wu (k:=f.1) (E:=f.2.1) (p:=f.2.2) (sV e.1) c
   | inr i=>rw [c] at a;cases a
  ·cases a
theorem yu {S:aa} {c:UInt8}:∀(r p:Nat) (P:List Nat) (I:List TI),p<=S.length->∀{f:Nat×Nat×Nat},nR S c r p P I=.inl f->f.2.1≠0
 | 0,p,P,I,_,f,e=>by cases e;simp
 | r+1,p,P,I,h,f,e=>by
  rw [nR] at e;cases b:pK S c p with
  | inl g=>rw [b] at e;cases e;exact HJ h b
  | inr q=>
   obtain ⟨t,a,i⟩:=q;rw [b] at e;simp only [] at e;split at e
   ·rename_i d;exact yu r (i+1) _ _ (mK d) e
   ·cases e
theorem K3 {S:aa} {a:Nat} (h:a<=S.length) {f:Nat×Nat×Nat} (b:vE S a=.inl f):f.2.1≠0:=by
 have c:∀e:Int,a+1<=S.length->AZ S a e=.inl f->f.2.1≠0:=by
  intro e j b;unfold AZ at b;have hp:(if dts (S.drop (a+1)) then a+3 else a+1:Nat)<=S.length:=by
   split
   ·rename_i h;have:=sV h;omega
   ·exact j
  cases d:nR S (endC e) 256 (if dts (S.drop (a+1)) then a+3 else a+1) [] [] with
  | inl g=>rw [d] at b;cases b;exact yu 256 _ _ _ hp d
  | inr q=>
   obtain ⟨i,P,J⟩:=q;rw [d] at b;simp only [] at b;unfold endL at b;generalize (if dts (S.drop i) then i+2 else i:Nat)=k at b;split at b
   ·split at b
    ·cases b
    ·cases b;simp
   ·cases b;simp
 unfold vE at b;split at b
 ·rename_i d;exact c 3 (mK d) b
 ·split at b
  ·rename_i d;exact c 4 (mK d) b
  ·cases b;simp
noncomputable def Gp (S:aa):(Nat×Nat)⊕(Int×Bool×Bool×List TI):=match vE S 0 with
 | .inl f=>.inl (f.1,f.2.1)
 | .inr (K,e,l,I,p)=>if p<S.length then .inl (p,5) else .inr (K,e,l,I)
def brk (c:UInt8):Bool:=c==33||c==44||c==46||c==47||c==91||c==93||c==123||c==125
theorem QR:∀c,(!brk c||(!isYC c&&(!isMk c&&(!(c==45)&&!isDX c))))=true:=gN (λc=>!brk c||(!isYC c&&(!isMk c&&(!(c==45)&&!isDX c)))) (by decide +kernel)
theorem Ft {c:UInt8} (h:brk c=true):isYC c=false/\isMk c=false/\(c==45)=false/\isDX c=false:=by
 have:=QR c;rw [h] at this;simpa [az] using this
theorem UX {c:UInt8} (h:isDX c=true):brk c=false:=by
 cases a:brk c
 ·rfl
 ·rw [(Ft a).2.2.2] at h;cases h
def endT (l:aa):Prop:=∀c,l.head?=some c->brk c=true
theorem Ql {l:aa} (h:endT l):cG isYC l/\cG isMk l/\cG (λc=>c==45) l:=⟨λc hc=>(Ft (h c hc)).1,λc hc=>(Ft (h c hc)).2.1,λc hc=>(Ft (h c hc)).2.2.1⟩
theorem E6:endT []:=λc h=>by cases h
theorem qa {c:UInt8} {l:aa} (h:brk c=true):endT (c::l):=λa b=>by
 simp only [rE,ak] at b;rw [<-b];exact h
theorem If {g l:Bool} {d:aa} {x s:Nat} (h:okY g l d (x:Int) (s:Int)) (r:aa):cG brk (gh g l d (x:Int) (s:Int)++r):=by
 have a:d≠[]:=by
  have:=(ma h).2.2.2.2.1;rintro rfl;simp at this
 rw [kx];cases l with
 | true=>exact dN (by decide)
 | false=>
  cases g with
  | true=>exact dN (by decide)
  | false=>
   simp only [bA,aC,dD,fi];exact uQ a (IN h) (λc=>UX)
def gg (x:TD):aa:=r7 x.1 x.2.1 x.2.2.1 x.2.2.2.1 x.2.2.2.2.1 x.2.2.2.2.2.1 x.2.2.2.2.2.2.1 x.2.2.2.2.2.2.2.1.toNat x.2.2.2.2.2.2.2.2.1.toNat x.2.2.2.2.2.2.2.2.2.toNat
theorem nO {x:TD} (hs:smT x) (hc:cF x=0):∃(g l:Bool) (dg:aa) (e q:Nat) (m d:aa) (a b c:Nat),x=(g,l,dg,(e:Int),(q:Int),m,d,(a:Int),(b:Int),(c:Int))/\OkD g l dg e q m d a b c:=by
 have h:=qA hc;obtain ⟨g,l,dg,e,q,m,d,k0,k1,k2⟩:=x;obtain ⟨r,p,a,b,c,f,k,n,j,i,o⟩:=KH hs.2.2.2.1 hs.2.2.2.2.1 hs.2.2.2.2.2 h;simp only at f k n j i;subst f k n j i;exact ⟨_,_,_,_,_,_,_,_,_,_,rfl,o⟩
theorem dfT {x:TD} (hs:smT x) (hc:cF x=0):ap10 (cN 20000000) x=some (gg x,0):=by
 have:=EH 19999700 x.1 x.2.1 x.2.2.1 x.2.2.2.1 x.2.2.2.2.1 x.2.2.2.2.2.1 x.2.2.2.2.2.2.1 x.2.2.2.2.2.2.2.1 x.2.2.2.2.2.2.2.2.1 x.2.2.2.2.2.2.2.2.2 hs.1 hs.2.1 hs.2.2.2.1 hs.2.2.2.2.1 hs.2.2.2.2.2;rw [ae (qA hc)] at this;exact this
theorem om {x:TD} (hs:smT x) (hc:cF x=0):(gg x).length<=37:=by
 obtain ⟨g,l,dg,e,q,m,d,a,b,c,rfl,ok⟩:=nO hs hc;exact KU ok
theorem mu {x:TD} (hs:smT x) (hc:cF x=0) (r:aa):cG brk (gg x++r):=by
 obtain ⟨g,l,dg,e,q,m,d,a,b,c,rfl,ok⟩:=nO hs hc;show cG brk (r7 g l dg (e:Int) (q:Int) m d a b c++r);unfold r7 ck;rw [fi,fi,fi];exact JP _ (by decide) (by decide) (by decide) (If ok.yr _)
theorem qV {l:aa} (h:cG brk l):dts l=false:=by
 cases a:dts l
 ·rfl
 ·obtain ⟨r,rfl⟩:=vv.1 a;exact absurd (h 46 rfl) (by decide)
theorem yi {x:TD} (hs:smT x) (hc:cF x=0) {S:aa} {a:Nat} {post:aa} (h:S.drop a=gg x++post) (hp:endT post):∃r,eT S a=.inr r/\tdR r=x/\enR r=a+(gg x).length:=by
 obtain ⟨g,l,dg,e,q,m,d,k0,k1,k2,rfl,ok⟩:=nO hs hc;obtain ⟨i,f,b⟩:=Ql hp;obtain ⟨P,c⟩:=G0 ok (S:=S) (a:=a) (post:=post) h i f b;refine ⟨(g,l,dg,e,q,m,d,(k0,k1,k2),P,a+(r7 g l dg (e:Int) (q:Int) m d k0 k1 k2).length),?_,rfl,rfl⟩;unfold eT;rw [c];have j:chkR (g,l,dg,e,q,m,d,(k0,k1,k2),P,a+(r7 g l dg (e:Int) (q:Int) m d k0 k1 k2).length)=0:=by
  unfold chkR;simp only [];have:chkF g l dg (e:Int) (q:Int) m d (k0:Int) (k1:Int) (k2:Int)=0:=hc;rw [this];rfl
 simp only [];rw [ae j]
structure OkI (t:TI):Prop where
 sm:smI t
 a:cF (iF t)=0
 b:rT t=true->cF (iT t)=0
 n:rT t=false->iT t=d0
def dY (t:TI):aa:=if rT t then gg (iF t)++([46,46]++gg (iT t)) else gg (iF t)
theorem AU {t:TI} (h:OkI t):(dY t).length<=76:=by
 have e:=om h.sm.1 h.a;unfold dY;split
 ·rename_i c;have d:=om h.sm.2 (h.b c);simp only [bH,aM,dP];omega
 ·omega
theorem JX {t:TI} (h:OkI t) (r:aa):cG brk (dY t++r):=by
 unfold dY;split
 ·rw [fi];exact mu h.sm.1 h.a _
 ·exact mu h.sm.1 h.a _
theorem ww {t:TI} (ok:OkI t) {e:UInt8} (i:brk e=true) {S:aa} {p:Nat} {post:aa} (h:S.drop p=dY t++post) (hp:endT post) (y:dts post=true->(post.drop 2).head?=some e):
  ∃a,pK S e p=.inr (t,a,p+(dY t).length):=by
 unfold dY at h ⊢;unfold pK;cases c:rT t with
 | true=>
  rw [c,ae rfl,fi,fi] at h;obtain ⟨r,j,g,f⟩:=yi ok.sm.1 ok.a h (qa (by decide));have d:S.drop (enR r)=[46,46]++(gg (iT t)++post):=by rw [f];exact fS h
  have k:S.drop (enR r+2)=gg (iT t)++post:=fS (u:=[46,46]) d;have w:dts (S.drop (enR r))=true:=by rw [d];rfl
  have s:(S.drop (enR r+2)).head?≠some e:=by
   rw [k];intro o;have:=mu ok.sm.2 (ok.b c) post e o;rw [i] at this;cases this
  obtain ⟨z,q,v,x⟩:=yi ok.sm.2 (ok.b c) k hp;refine ⟨plR r,?_⟩;rw [j];simp only [];rw [ae ⟨w,s⟩,q];simp only [aK];rw [g,v,x,f];have:mkI (iF t) true (iT t)=t:=by rw [<-c]
  rw [this];have:p+(gg (iF t)).length+2+(gg (iT t)).length=p+(gg (iF t)++([46,46]++gg (iT t))).length:=by simp only [bH,aM,dP];omega
  rw [this]
 | false=>
  rw [c] at h;simp only [bA,aC] at h;obtain ⟨r,j,g,f⟩:=yi ok.sm.1 ok.a h hp;have d:S.drop (enR r)=post:=by rw [f];exact fS h
  refine ⟨plR r,?_⟩;rw [j];simp only [];rw [ab,g,f]
  ·have:mkI (iF t) false d0=t:=by rw [<-c,<-ok.n c]
   rw [this];simp only [bA,aC]
  ·rintro ⟨l,m⟩;rw [d] at l;rw [<-iL,d] at m;exact m (y l)
def jR (I:List TI):aa:=(I.map λt=>44::dY t).flatten
theorem vq {f:UInt8} (b:brk f=true) (c:f≠44) {post:aa} (hp:endT post) (d:post.head?≠some 44) (k:dts post=true->(post.drop 2).head?=some f):∀(I:List TI) (t:TI) (r p:Nat) {S:aa} (P:List Nat) (J:List TI),OkI t->(∀u∈I,OkI u)->I.length<r->S.drop p=dY t++(jR I++post)->
  ∃i,nR S f r p P J=.inr (p+(dY t++jR I).length,i,J++t::I)
 | [],t,r+1,p,S,P,J,ok,_,j,h=>by
  obtain ⟨a,g⟩:=ww ok b (post:=post) (by simpa [jR] using h) hp k;refine ⟨P++[a],?_⟩;rw [nR,g];simp only [];have e:S.drop (p+(dY t).length)=post:=fS (by simpa [jR] using h);rw [e,ab d];simp [jR]
 | u::I,t,r+1,p,S,P,J,ok,oks,j,h=>by
  have o:jR (u::I)++post=44::(dY u++(jR I++post)):=by simp [jR]
  rw [o] at h
  obtain ⟨a,g⟩:=ww ok b (post:=44::(dY u++(jR I++post))) h (qa (by decide)) (λq=>by
   obtain ⟨r,l⟩:=vv.1 q;cases l)
  have e:S.drop (p+(dY t).length)=44::(dY u++(jR I++post)):=fS h;have m:S.drop (p+(dY t).length+1)=dY u++(jR I++post):=fS (u:=[44]) e;obtain ⟨i,n⟩:=vq b c hp d k I u r (p+(dY t).length+1) (P++[a]) (J++[t]) (oks u km) (λv s=>oks v (eO _ s)) (by simp at j;omega) m;refine ⟨i,?_⟩;rw [nR,g];simp only [];rw [e,rE,ae rfl,n];have:p+(dY t).length+1+(dY u++jR I).length=p+(dY t++jR (u::I)).length:=by simp [jR];omega
  rw [this];simp
def sE (K:Int) (e l:Bool) (I:List TI):aa:=
 (if K=4 then 123 else 91)::((if e then [46,46] else [])++(Lib.join (I.map dY) [44]++((if l then [46,46] else [])++[endC K])))
theorem Ba (t:TI) (I:List TI):Lib.join ((t::I).map dY) [44]=dY t++jR I:=by
 rw [fk,Lib.join_cons];unfold Lib.joinTail jR;rw [tP];rfl
theorem G9 {K:Int} (B:K=3\/K=4) {e l:Bool} {I:List TI} (w:1<=I.length) (q:I.length<=256) (ok:∀t∈I,OkI t) (D:(setE K e l I).2=0) {S:aa} {a:Nat} {post:aa} (h:S.drop a=sE K e l I++post):
  vE S a=.inr (K,e,l,I,a+(sE K e l I).length):=by
 obtain ⟨t,J,rfl⟩:∃t J,I=t::J:=by
  cases I with
  | nil=>simp at w
  | cons t J=>exact ⟨t,J,rfl⟩
 have g:brk (endC K)=true:=by unfold endC;split<;>decide
 have b:endC K≠44:=by unfold endC;split<;>decide
 have f:endC K≠46:=by unfold endC;split<;>decide
 unfold sE at h ⊢;rw [Ba] at h ⊢;have k:S.drop (a+1)=(if e then [46,46] else [])++((dY t++jR J)++((if l then [46,46] else [])++(endC K::post))):=by
  have:=fS (u:=[if K=4 then 123 else 91]) (v:=((if e then [46,46] else [])++((dY t++jR J)++((if l then [46,46] else [])++[endC K])))++post) (by rw [h];rfl);rw [show a+1=a+[if K=4 then (123:UInt8) else 91].length from rfl,this];simp only [fi,DJ]
 have C:dts (S.drop (a+1))=e:=by
  rw [k];cases e
  ·simp only [bA,aC,dD];rw [fi];exact qV (JX (ok t km) _)
  ·rfl
 have o:S.drop (if e then a+3 else a+1)=dY t++(jR J++((if l then [46,46] else [])++(endC K::post))):=by
  rw [<-fi];cases e
  ·simpa using k
  ·have:=fS (u:=[46,46]) k;simpa using this
 have z:endT ((if l then [46,46] else [])++(endC K::post)):=by
  cases l
  ·exact qa g
  ·exact qa (by decide)
 have m:((if l then [46,46] else [])++(endC K::post)).head?≠some 44:=by
  cases l
  ·simp [b]
  ·simp
 have d:dts ((if l then [46,46] else [])++(endC K::post))=l:=by
  cases l
  ·cases j:dts ((if false then [46,46] else [])++(endC K::post))
   ·rfl
   ·obtain ⟨r,n⟩:=vv.1 j;simp at n;exact absurd n.1 f
  ·rfl
 obtain ⟨P,p⟩:=vq g b z m (λj=>by rw [d] at j;subst j;rfl) J t 256 (if e then a+3 else a+1) [] [] (ok t km) (λu x=>ok u (eO _ x)) (by simp at q;omega) o;have i:S.drop ((if e then a+3 else a+1)+(dY t++jR J).length)=(if l then [46,46] else [])++(endC K::post):=by
  apply fS;rw [o,fi]
 have c:AZ S a K=.inr (K,e,l,t::J,a+(((if K=4 then 123 else 91)::((if e then [46,46] else [])++((dY t++jR J)++((if l then [46,46] else [])++[endC K]))):aa).length)):=by
  unfold AZ;rw [C,p];simp only [dD];unfold endL;rw [i,d];generalize y:(if e then a+3 else a+1)+(dY t++jR J).length=X at i ⊢;have s:S.drop (if l then X+2 else X)=endC K::post:=by
   cases l
   ·simpa using i
   ·have:=fS (u:=[46,46]) i;simpa using this
  rw [s,rE,ae rfl,ae D];have:(if l then X+2 else X)+1=a+(((if K=4 then 123 else 91)::((if e then [46,46] else [])++((dY t++jR J)++((if l then [46,46] else [])++[endC K]))):aa).length):=by
   rw [<-y];cases e<;>cases l<;>simp<;>omega
  rw [this]
 unfold vE;have A:(S.drop a).head?=some (if K=4 then 123 else 91):=by rw [h];rfl
 rw [A];rcases B with rfl | rfl
 ·rw [ae (show some (if (3:Int)=4 then (123:UInt8) else 91)=some 91 from rfl)];exact c
 ·rw [ab (show ¬some (if (4:Int)=4 then (123:UInt8) else 91)=some 91 by decide),ae (show some (if (4:Int)=4 then (123:UInt8) else 91)=some 123 from rfl)];exact c
theorem xq {x y:TD} {r all:Bool} (h:itE x r y all=0):cF x=0/\(r=true->cF y=0)/\(r=false->y=d0)/\itE x r y false=0:=by
 by_cases hc:cF x=0
 ·refine ⟨hc,?_⟩;cases r
  ·rw [V6 hc] at h ⊢;have hy:eqD y d0=true:=by
    cases a:eqD y d0
    ·rw [a] at h;simp at h
    ·rfl
   exact ⟨λh=>(by cases h),λ_=>mA.1 hy,by rw [hy];simp⟩
  ·by_cases hy:cF y=0
   ·rw [Vq hc hy] at h ⊢;have b:ordB x y=true:=by
     cases a:ordB x y
     ·rw [a] at h;simp at h
     ·rfl
    exact ⟨λ_=>hy,λh=>(by cases h),by rw [b];simp⟩
   ·rw [SV hc hy] at h;exact absurd h hy
 ·rw [VL hc] at h;exact absurd h hc
theorem RY {t:TI} {all:Bool} (hs:smI t) (h:itI t all=0):OkI t:=by
 obtain ⟨a,b,c,_⟩:=xq h;exact ⟨hs,a,b,c⟩
theorem DX {x y:TD} (r:Bool) (hx:smT x) (hy:smT y):iV 20000000 x r y=some (if itE x r y false=0 then (dY (mkI x r y),0) else ([],itE x r y false)):=by
 unfold iV;rw [y7 r hx hy,ae (.inl rfl),show ((3:Int)==4)=false from rfl];simp only [ob];by_cases h:itE x r y false=0
 ·obtain ⟨a,b,c,_⟩:=xq h;rw [ae h,h,dfT hx a];simp only [fj,ah,u2];cases r
  ·rfl
  ·have e:=om hx a;have d:=om hy (b rfl);simp only [aj,dfT hy (b rfl)];rw [gj (by simp only [aM,dP];omega)];simp only [];rw [gj (by simp only [bH,aM,dP];omega)];rfl
 ·rw [ab h,show (itE x r y false != 0)=true from by simp [h]];rfl
theorem AW:∀{I:List TI},(∀t∈I,OkI t)->(jR I).length<=77*I.length
 | [],_=>by simp [jR]
 | t::I,h=>by
  have c:=AU (h t km);have b:=AW (I:=I) λu a=>h u (eO _ a);have:jR (t::I)=(44::dY t)++jR I:=by simp [jR]
  rw [this];simp only [bH,aM];omega
theorem BK {I:List TI} (h:∀t∈I,OkI t):(Lib.join (I.map dY) [44]).length<=77*I.length:=by
 cases I with
 | nil=>simp [Lib.join_nil]
 | cons t I=>
  have c:=AU (h t km);have b:=AW (I:=I) λu a=>h u (eO _ a);rw [Ba];simp only [bH,aM];omega
theorem IA {I:List TI} {i:Nat} {t:TI} (h:I[i]?=some t) (w:aa) (b:w=dY t):((I.take i).map dY++List.replicate (I.length - i) []).set i w=(I.take (i+1)).map dY++List.replicate (I.length - (i+1)) []:=by
 have hi:i<I.length:=(rP.1 h).1;obtain ⟨k,c⟩:∃k,I.length - i=k+1:=⟨I.length - i - 1,by omega⟩;have a:((I.take i).map dY).length=i:=by simp;omega
 rw [c,nA,show I.length - (i+1)=k by omega,wj,h,b];rw [List.set_append_right _ _ (by omega),a,AG];simp
theorem IF {I:List TI} (hs:∀t∈I,OkI t/\itI t false=0) (h:I.length<=1000) (K:Int) (D:TD) (KF:Int) (DF:TD) (KT:Int) (DT:TD) (e l:Bool):∀(r i:Nat),i+r=I.length->∀N,r<N->
  aq (dT 20000000) N (len I,(i:Int),I,K,D,KF,DF,KT,DT,e,l,(I.take i).map dY++List.replicate (I.length - i) [])=some (I,K,D,KF,DF,KT,DT,e,l,I.map dY):=by
 intro r
 induction r with
 | zero=>
  intro i hi N g;obtain ⟨N,rfl⟩:∃k,N=k+1:=⟨N - 1,by omega⟩;obtain rfl:i=I.length:=by omega
  have:dT 20000000 (len I,((I.length:Nat):Int),I,K,D,KF,DF,KT,DT,e,l,(I.take I.length).map dY++List.replicate (I.length - I.length) [])=some (.inr (I,K,D,KF,DF,KT,DT,e,l,I.map dY)):=by
   unfold dT;simp only [u12,u11,u10,u9,u8,u7,u6,u5,u4,u3,u2];rw [av (show ¬((I.length:Nat):Int)<len I by show ¬((I.length:Nat):Int)<((I.length:Nat):Int);omega),AG,nM];simp
  rw [aq,this]
 | succ r ih=>
  intro i hi N g;obtain ⟨N,rfl⟩:∃k,N=k+1:=⟨N - 1,by omega⟩;have a:i<I.length:=by omega
  have b:I[i]?=some I[i]:=bn a;obtain ⟨ok,c⟩:=hs _ (EN a);generalize I[i]=t at b ok c;have d:((I.take i).map dY++List.replicate (I.length - i) ([]:aa)).length=I.length:=by simp;omega
  have:dT 20000000 (len I,(i:Int),I,K,D,KF,DF,KT,DT,e,l,(I.take i).map dY++List.replicate (I.length - i) [])=some (.inl (len I,((i+1:Nat):Int),I,K,D,KF,DF,KT,DT,e,l,(I.take (i+1)).map dY++List.replicate (I.length - (i+1)) [])):=by
   unfold dT;simp only [u12,u11,u10,u9,u8,u7,u6,u5,u4,u3,u2];rw [au (show (i:Int)<len I by show (i:Int)<((I.length:Nat):Int);omega),eu a];simp only [aj,ob,b];rw [show iV 20000000 (iF t) (d8 t).2.2.1 (d8 t).2.2.2=some (dY t,0) from (DX (rT t) ok.sm.1 ok.sm.2).trans (by rw [ae (show itE (iF t) (rT t) (iT t) false=0 from c)])];simp only [d];rw [eu a];simp only [];obtain ⟨w,f⟩:∃w,((I.take i).map dY++List.replicate (I.length - i) ([]:aa))[i]?=some w:=⟨_,bn (by omega)⟩;rw [f];simp only [u2];rw [IA b _ rfl,qP (by omega)]
  rw [aq,this];exact ih (i+1) (by omega) N (by omega)
structure SetP (K:Int) (D:TD) (KF:Int) (DF:TD) (KT:Int) (DT:TD) (e l:Bool) (I:List TI):Prop where
 kind:K=3\/K=4
 d:D=d0
 kf:KF=0
 df:DF=d0
 kt:KT=0
 dt:DT=d0
 one:1<=I.length
 most:I.length<=256
 its:∀t∈I,itI t (K==4)=0
 set:(setE K e l I).2=0
theorem yj {A:Type} {f:Nat->A->Int}:∀{L:List A} {k:Nat},sc f k L=none->∀t∈L,∃i,f i t=0
 | u::L,k,h,t,a=>by
  rw [sc] at h;split at h
  ·cases h
  ·rename_i b;rcases cf.1 a with rfl | a
   ·exact ⟨k,ID.1 b⟩
   ·exact yj h t a
theorem Fb {A:Type} {f:Nat->A->Int}:∀{L:List A} {k:Nat} {p:Nat×Int},sc f k L=some p->p.2≠0
 | u::L,k,p,h=>by
  rw [sc] at h;split at h
  ·rename_i a;cases h;exact a
  ·exact Fb h
theorem Ur {K:Int} {e l:Bool} {n i:Nat} {t:TI} (h:errI K e l n i t=0):itI t (K==4)=0:=by
 unfold errI at h;split at h
 ·rename_i a;exact absurd h a
 ·rename_i a;exact ID.1 a
theorem BS {K:Int} (g:K=3\/K=4) {D:TD} {KF:Int} {DF:TD} {KT:Int} {DT:TD} {e l:Bool} {I:List TI} (h:(ee K D KF DF KT DT e l I).2=0):SetP K D KF DF KT DT e l I:=by
 have j:=h;unfold ee at h;rw [ab (by omega)] at h;split at h
 ·simp at h
 ·rename_i f;rw [ab (by omega),ab (by omega)] at h;split at h
  ·simp at h
  ·split at h
   ·simp at h
   ·unfold vu at h;have n:D=d0/\KF=0/\DF=d0/\KT=0/\DT=d0:=by
     unfold unuB at f;have k1:(K==1)=false:=by rcases g with rfl | rfl<;>rfl
     have k2:(K==2)=false:=by rcases g with rfl | rfl<;>rfl
     have m:(K==3||(K==4||(decide (I.length=0)&&(!e&&!l))))=true:=by rcases g with rfl | rfl<;>rfl
     rw [k1,k2,m] at f;generalize k:eqD D d0=z1 at f;generalize q:eqD DF d0=z2 at f;generalize r:eqD DT d0=s at f;simp only [pP,cX,ur,E7,gM,kP,not_or,Bool.not_eq_false,az,bQ] at f;obtain ⟨a,⟨b,c⟩,d,e⟩:=f;exact ⟨mA.1 (k.trans a),b,mA.1 (q.trans c),d,mA.1 (r.trans e)⟩
    obtain ⟨rfl,rfl,rfl,rfl,rfl⟩:=n;cases hs:sc (errI K e l I.length) 0 I with
    | some p=>rw [hs] at h;exact absurd h (Fb hs)
    | none=>
     refine ⟨g,rfl,rfl,rfl,rfl,rfl,by omega,by omega,λt o=>?_,j⟩;obtain ⟨i,hi⟩:=yj hs t o;exact Ur hi
theorem EE {K:Int} {D:TD} {KF:Int} {DF:TD} {KT:Int} {DT:TD} {e l:Bool} {I:List TI} (p:SetP K D KF DF KT DT e l I) (hs:∀t∈I,smI t):∀t∈I,OkI t/\itI t false=0:=
 λt a=>⟨RY (hs t a) (p.its t a),(xq (p.its t a)).2.2.2⟩
def AO (K:Int):Prop:=K=3\/K=4
instance (K:Int):Decidable (AO K):=inferInstanceAs (Decidable (K=3\/K=4))
theorem O2 {K:Int} {D:TD} {KF:Int} {DF:TD} {KT:Int} {DT:TD} {e l:Bool} {I:List TI} (h:smE D DF DT I):
  ov 20000000 K D KF DF KT DT e l I=some (if AO K then (if (ee K D KF DF KT DT e l I).2=0 then (sE K e l I,0) else ([],(ee K D KF DF KT DT e l I).2)) else ([],18)):=by
 have c:∀z:AO K,(ob (gv 20000000 K D KF DF KT DT e l I) λg=>(cond (g != 0) (some ([],g)) (cond (decide ((0:Int)<=(len I))&&(decide ((len I)<=(len I))&&decide ((len I)<=(67108864:Int)))) (ob (aq (dT 20000000) 20000000 ((len I),0,I,K,D,KF,DF,KT,DT,e,l,(List.replicate (Int.toNat (len I)) ([]:aa)))) (u10 λ_ v _ _ _ _ _ o i a=>(ob (fP 20000000 v) (u2 λd b=>(cond o (ob (cat d ([46,46]:aa)) λj=>(cond i (ob (cat ([46,46]:aa) b) λr=>(cond (Nat.ble (List.length a) 140737488355328&&Nat.ble (List.length (Lib.join a ([44]:aa))) 140737488355328) (ob (cat j (Lib.join a ([44]:aa))) λy=>(ob (cat y r) λp=>(some (p,0)))) none)) (cond (Nat.ble (List.length a) 140737488355328&&Nat.ble (List.length (Lib.join a ([44]:aa))) 140737488355328) (ob (cat j (Lib.join a ([44]:aa))) λB=>(ob (cat B b) λC=>(some (C,0)))) none))) (cond i (ob (cat ([46,46]:aa) b) λu=>(cond (Nat.ble (List.length a) 140737488355328&&Nat.ble (List.length (Lib.join a ([44]:aa))) 140737488355328) (ob (cat d (Lib.join a ([44]:aa))) λs=>(ob (cat s u) λA=>(some (A,0)))) none)) (cond (Nat.ble (List.length a) 140737488355328&&Nat.ble (List.length (Lib.join a ([44]:aa))) 140737488355328) (ob (cat d (Lib.join a ([44]:aa))) λq=>(ob (cat q b) λx=>(some (x,0)))) none))))))) none))) =
   some (if (ee K D KF DF KT DT e l I).2=0 then (sE K e l I,(0:Int)) else ([],(ee K D KF DF KT DT e l I).2)):=by
  intro z;rw [vc h];simp only [ob];by_cases k:(ee K D KF DF KT DT e l I).2=0
  ·have P:=BS z k;have L:=P.most;have oks:=EE P h.2.2.2;have E:=BK λt F=>(oks t F).1;rw [ae k,k];have f:=IF oks (by omega) K D KF DF KT DT e l I.length 0 (by omega) 20000000 (by omega);simp only [fj,ah];have J:(decide ((0:Int)<=(len I))&&(decide ((len I)<=(len I))&&decide ((len I)<=(67108864:Int))))=true:=by
    have:len I=((I.length:Nat):Int):=rfl;rw [this];simp only [az,dl];omega
   rw [J,aj,show (List.replicate (Int.toNat (len I)) ([]:aa))=(I.take 0).map dY++List.replicate (I.length - 0) [] from by simp];rw [show aq (dT 20000000) 20000000 (len I,(0:Int),I,K,D,KF,DF,KT,DT,e,l,(I.take 0).map dY++List.replicate (I.length - 0) [])=_ from f];have G:(Nat.ble (List.length (I.map dY)) 140737488355328&&Nat.ble (List.length (Lib.join (I.map dY) ([44]:aa))) 140737488355328)=true:=by
    simp only [az];exact ⟨cr (by simp;omega),cr (by omega)⟩
   simp only [u10,u9,u8,u7,u6,u5,u4,u3,u2,wO z,G,aj];unfold sE;generalize H:(if K=4 then (123:UInt8) else 91)=b1;generalize endC K=b2;generalize Lib.join (I.map dY) [44]=w at E;cases e<;>cases l<;>simp only [aj,ah]
   ·rw [gj (by simp only [aM,dP];omega)];simp only [];rw [gj (by simp only [bH,aM,dP];omega)];simp
   ·rw [gj (by simp only [aM,dP];omega)];simp only [];rw [gj (by simp only [aM,dP];omega)];simp only [];rw [gj (by simp only [bH,aM,dP];omega)];simp
   ·rw [gj (by simp only [aM,dP];omega)];simp only [];rw [gj (by simp only [bH,aM,dP];omega)];simp only [];rw [gj (by simp only [bH,aM,dP];omega)];simp
   ·rw [gj (by simp only [aM,dP];omega)];simp only [];rw [gj (by simp only [aM,dP];omega)];simp only [];rw [gj (by simp only [bH,aM,dP];omega)];simp only [];rw [gj (by simp only [bH,aM,dP];omega)];simp
  ·rw [ab k,show ((ee K D KF DF KT DT e l I).2 != 0)=true from by simp [k]];rfl
 unfold ov;by_cases m:K=3
 ·rw [show (K != 3)=false from by simp [m],ae (.inl m)];exact c (.inl m)
 ·rw [show (K != 3)=true from by simp [m],aj];by_cases n:K=4
  ·rw [show (K != 4)=false from by simp [n],ae (.inr n)];exact c (.inr n)
  ·rw [show (K != 4)=true from by simp [n],ab (by rintro (h | h)<;>contradiction)];rfl
theorem G8 {K:Int} (a:AO K) {e l:Bool} {I:List TI} (d:1<=I.length) (b:I.length<=256) (ok:∀t∈I,OkI t) (c:(setE K e l I).2=0):Gp (sE K e l I)=.inr (K,e,l,I):=by
 unfold Gp;rw [G9 a d b ok c (post:=[]) (by rw [ch,lL])];simp only [];rw [ab (by omega)]
theorem Vl {c:UInt8} (h:mkOf c≠0):mt (mkOf c)=[c]:=by
 unfold mkOf at h ⊢;by_cases d:c=63
 ·subst d;rfl
 ·rw [ab d] at h ⊢;by_cases a:c=126
  ·subst a;rfl
  ·rw [ab a] at h ⊢;by_cases b:c=37
   ·subst b;rfl
   ·rw [ab b] at h;exact absurd rfl h
theorem Pv (l:aa):l=mt (mkS l)++l.drop (mkN l):=by
 cases l with
 | nil=>rfl
 | cons c r=>
  unfold mkN;show c::r=mt (mkOf c)++_;by_cases h:mkOf c=0
  ·rw [ae (show mkS (c::r)=0 from h),h];rfl
  ·rw [ab (show ¬mkS (c::r)=0 from h),Vl h];rfl
theorem FG (S:aa) (p:Nat):S.drop p=mt (mkS (S.drop p))++S.drop (mkE S p):=by
 have:=Pv (S.drop p);rw [iL] at this;exact this
theorem JC (S:aa) (p:Nat):mkE S p=p+(mt (mkS (S.drop p))).length:=by
 unfold mkE mkN;have a:=Cc (S.drop p);generalize mkS (S.drop p)=k at *;rcases (by omega:k=0\/k=1\/k=2\/k=3) with rfl | rfl | rfl | rfl<;>rfl
theorem By {S:aa} {p:Nat} (h:¬twoN (S.drop p)<2):S.drop p=(S.drop p).take 2++S.drop (p+2)/\((S.drop p).take 2).length=2/\∀c∈(S.drop p).take 2,isDX c=true:=by
 have b:=uA h;have a:twoN (S.drop p)=2:=by
  have:twoN (S.drop p)<=2:=by
   unfold twoN;have:∀(k:Nat) (l:aa),bq isDX k l<=k:=by
    intro k
    induction k with
    | zero=>intro l;cases l<;>simp [bq]
    | succ k ih=>
     intro l;cases l with
     | nil=>simp [bq]
     | cons c r=>
      simp only [bq];split
      ·have:=ih r;omega
      ·omega
   exact this 2 _
  omega
 refine ⟨by rw [<-iL];exact (tW 2 _).symm,by simp;omega,?_⟩;have:=xP (p:=isDX) 2 (S.drop p);rw [show bq isDX 2 (S.drop p)=2 from a] at this;exact this
theorem yo {S:aa} {p:Nat} (h:¬eK 45 (S.drop p)=0):S.drop p=45::S.drop (p+1):=by
 cases a:S.drop p with
 | nil=>rw [a] at h;exact absurd rfl h
 | cons c r=>
  rw [a,jn] at h;by_cases hc:c=45
  ·subst hc;rw [<-iL,a];rfl
  ·rw [ab hc] at h;exact absurd rfl h
theorem uc {S:aa} {p k:Nat} {w:aa} (h:S.drop (mkE S p)=w++S.drop (mkE S p+k)):S.drop p=ck (mkS (S.drop p)) (mkS (S.drop (mkE S p+k))) w++S.drop (mkE S (mkE S p+k)):=by
 unfold ck;rw [fi,fi,<-FG,<-h,<-FG]
theorem IB {S:aa} {a:Nat} {g l:Bool} {dg:aa} {x s:Nat} {m d:aa} {M P:Nat×Nat×Nat} {e:Nat} (b:qM S a=.inr (g,l,dg,x,s,m,d,M,P,e)):
  ∃A B,MkD A B m d/\M=spM A B/\P.1=a+(mt A.1).length/\S.drop a=rawD A B g l dg (x:Int) (s:Int) m d++S.drop e:=by
 unfold qM at b;cases hy:o5 (S.drop (mkE S a)) with
 | inl k=>rw [hy] at b;cases b
 | inr y=>
  obtain ⟨D,G,t,N,s',k⟩:=y;obtain ⟨E,Q,_⟩:=qt hy;have C:S.drop (mkE S a)=gh D G t (N:Int) (s':Int)++S.drop (mkE S a+k):=by
   rw [<-E,<-iL];exact (tW k _).symm
  have w0:=uc C;have c:=λp=>Cc (S.drop p);rw [hy] at b;simp only [] at b;by_cases u:0<s'\/eK 45 (S.drop (mkE S (mkE S a+k)))=0
  ·rw [ae u] at b;simp only [nB,bE] at b;obtain ⟨rfl,rfl,rfl,rfl,rfl,rfl,rfl,rfl,rfl,rfl⟩:=b;refine ⟨(mkS (S.drop a),0,0),(mkS (S.drop (mkE S a+k)),0,0),⟨c _,by simp,by simp,c _,by simp,by simp,λ_=>⟨rfl,rfl⟩,λ_=>⟨rfl,rfl⟩⟩,rfl,JC S a,?_⟩;unfold rawD;simpa using w0
  ·rw [ab u] at b;have v:=yo (λh=>u (.inr h));unfold rd2 at b;simp only [] at b;generalize K:mkE S (mkE S a+k)=i at *;by_cases q:twoN (S.drop (mkE S (i+1)))<2
   ·rw [ae q] at b;cases b
   rw [ab q] at b;obtain ⟨F,w,O⟩:=By q;have z:=uc F;have f:(S.drop (mkE S (i+1))).take 2≠[]:=λh=>by rw [h] at w;simp at w
   by_cases r:eK 45 (S.drop (mkE S (mkE S (i+1)+2)))=0
   ·rw [ae r] at b;simp only [nB,bE] at b;obtain ⟨rfl,rfl,rfl,rfl,rfl,rfl,rfl,rfl,rfl,rfl⟩:=b;refine ⟨(mkS (S.drop a),mkS (S.drop (i+1)),0),(mkS (S.drop (mkE S a+k)),mkS (S.drop (mkE S (i+1)+2)),0),⟨c _,c _,by simp,c _,c _,by simp,λh=>absurd h f,λ_=>⟨rfl,rfl⟩⟩,rfl,JC S a,?_⟩;unfold rawD;rw [ab f,ae rfl,lL,fi,ep,<-z,<-v];exact w0
   ·rw [ab r] at b;have I:=yo r;unfold rd3 at b;generalize L:mkE S (mkE S (i+1)+2)=n at *;by_cases o:twoN (S.drop (mkE S (n+1)))<2
    ·rw [ae o] at b;cases b
    rw [ab o] at b;obtain ⟨J,u2,u3⟩:=By o;have H:=uc J;have j:(S.drop (mkE S (n+1))).take 2≠[]:=λh=>by rw [h] at u2;simp at u2
    simp only [nB,bE] at b;obtain ⟨rfl,rfl,rfl,rfl,rfl,rfl,rfl,rfl,rfl,rfl⟩:=b;refine ⟨(mkS (S.drop a),mkS (S.drop (i+1)),mkS (S.drop (n+1))),(mkS (S.drop (mkE S a+k)),mkS (S.drop (mkE S (i+1)+2)),mkS (S.drop (mkE S (n+1)+2))),⟨c _,c _,c _,c _,c _,c _,λh=>absurd h f,λh=>absurd h j⟩,rfl,JC S a,?_⟩;unfold rawD;rw [ab f,ab j,fi,fi,ep,ep,<-H,<-I,<-z,<-v];exact w0
def okC (c:UInt8):Bool:=isDX c||(isMk c||(c==45||(c==89||(c==69||c==83))))
def isLv (c:UInt8):Bool:=c==69||(c==83||isMk c)
theorem PQ:∀c:UInt8,(!okC c||decide (c.toNat<128))=true:=gN (λc=>!okC c||decide (c.toNat<128)) (by decide +kernel)
theorem Q8 {c:UInt8} (h:okC c=true):c.toNat<128:=by
 have:=PQ c;rw [h] at this;simpa using this
def dgC (c:UInt8):UInt8:=if bp c then 100 else c
theorem SK:∀c:UInt8,(!decide (c.toNat<128)||(decide (0<=ou (c.toNat:Int))&&(Lib.encodeRune (ou (c.toNat:Int))==[dgC c])))=true:=
 gN (λc=>!decide (c.toNat<128)||(decide (0<=ou (c.toNat:Int))&&(Lib.encodeRune (ou (c.toNat:Int))==[dgC c]))) (by decide +kernel)
theorem GZ:∀{l:aa},(∀c∈l,c.toNat<128)->yH l=l.map dgC:=by
 have a:∀(n:Nat) (l:aa),l.length=n->(∀c∈l,c.toNat<128)->Lib.mapGoD ou n l=l.map dgC:=by
  intro n
  induction n with
  | zero=>intro l b _;rw [sQ b];rfl
  | succ n ih=>
   intro l b h;cases l with
   | nil=>simp at b
   | cons c r=>
    have e:Lib.decodeL (c::r)=(c.toNat,1):=zB (l:=c::r) (i:=0) rfl (h c km);rw [Lib.mapGoD,ab (by simp),e];have:=SK c;rw [au (h c km)] at this;simp only [cX,pP,az,dl,bQ] at this;rw [ae this.1,this.2];rw [show (c::r).drop 1=r from rfl,ih r (by simpa using b) (λd e=>h d (eO _ e))];rfl
 intro l h;exact a l.length l rfl h
theorem vK (s a:aa):Lib.containsAny s a=s.any (a.contains ·):=by
 induction s with
 | nil=>rfl
 | cons b l ih=>
  unfold Lib.containsAny at ih ⊢;have c:=Lib.indexAny_ge a l;rw [Lib.indexAny,qm];cases d:a.contains b
  ·rw [ab (by simp),pP,<-ih];by_cases h:Lib.indexAny l a=-1
   ·rw [ae (by simp [h]),h]
   ·rw [ab (by simp [h])];congr 1;exact propext (by omega)
  ·simp
def uE (u:aa):aa:=match u with | c::r=>if c=45 then r else c::r | []=>[]
def iY:List (aa):=[[100,100,100,88],[100,100,88,88],[100,100,100,100,45,88,88],[100,100,100,100,45,100,100,45,88,88],[100,100,100,100,45,88,88,45,88,88]]
def simB (v:aa):Bool:=iY.contains (v.map dgC)
theorem ND (n:Nat) (u:aa):ia n u=some (uE u):=by
 unfold ia fm eH uE;cases u with
 | nil=>rfl
 | cons c r=>
  have a:bx (c::r).length (1:Int)=some 1:=fQ (i:=1) (by simp);rw [au (show (((c::r).length:Nat):Int)>=1 by rw [aM];omega),aj,a];simp only [ob,mz,lw,ch];by_cases hc:c=45
  ·subst hc;rw [ae rfl];simp
  ·rw [ab hc,show (([c]:aa)==[45])=false from by simp [hc]];rfl
theorem V9 (n:Nat) (u:aa):cv n u=some (decide (u.head?=some 89)):=by
 unfold cv eD;cases u with
 | nil=>rfl
 | cons c r=>
  have a:bx (c::r).length (1:Int)=some 1:=fQ (i:=1) (by simp);rw [au (show (((c::r).length:Nat):Int)>=1 by rw [aM];omega),aj,a];simp only [ob,mz,lw,ch,rE,ak];rw [show (([c]:aa)==[89])=decide (c=89) from by rw [xh];simp]
theorem xJ (v:aa):cU 20000000 v iY=some (iY.contains v):=by
 have d:∀(r i:Nat),i+r=5->∀N,r<N->aq (be 20000000) N (v,5,(i:Int),iY)=some (if (iY.drop i).contains v then .inl ((i+(iY.drop i).idxOf v:Nat):Int) else .inr ()):=by
  intro r
  induction r with
  | zero=>
   intro i hi N g;obtain ⟨N,rfl⟩:∃k,N=k+1:=⟨N - 1,by omega⟩;obtain rfl:i=5:=by omega
   rw [aq];rfl
  | succ r ih=>
   intro i hi N g;obtain ⟨N,rfl⟩:∃k,N=k+1:=⟨N - 1,by omega⟩;have a:i<iY.length:=by show i<5;omega
   have f:=bn a;have:be 20000000 (v,5,(i:Int),iY)=some (if v=iY[i] then .inr (.inl (i:Int)) else .inl (v,5,((i+1:Nat):Int),iY)):=by
    unfold be;simp only [];rw [au (show (i:Int)<5 by omega),aj,eu a];simp only [ob,f];rw [show IntKind.wrap .i64 ((i:Int)+1)=((i+1:Nat):Int) from qP (by omega),mf];split<;>rfl
   rw [aq,this,pR a];by_cases b:v=iY[i]
   ·rw [ae b];simp only [];rw [<-b];simp
   ·rw [ab b];simp only [];rw [ih (i+1) (by omega) N (by omega)];have c:(iY[i]==v)=false:=by simp;exact λh=>b h.symm
    have e:(v==iY[i])=false:=by simp;exact b
    rw [List.contains_cons,e,pP,List.idxOf_cons,c];simp only [ah];rw [show i+1+List.idxOf v (List.drop (i+1) iY)=i+(List.idxOf v (List.drop (i+1) iY)+1) by omega]
 have:=d 5 0 rfl 20000000 (by omega);unfold cU ef;rw [show aq (be 20000000) 20000000 (v,(((List.length iY):Nat):Int),0,iY)=_ from this];rw [ch];cases h:iY.contains v
 ·rfl
 ·simp only [aK,ob];rw [au (by omega)]
def lvl (u:aa) (b X:Bool) (code:Int):Int:=
 if u.any isLv then 2 else if 24<code then 2 else if (X&&!simB (uE u))=true then 2
 else if b=true\/X=true\/0<code\/u.head?=some 45\/u.head?=some 89 then 1 else 0
structure Body (T u:aa) (k:Nat):Prop where
 eq:T=u++mt k
 k4:k<4
 last:∃v z,u=v++[z]/\isMk z=false
 asc:∀c∈T,c.toNat<128
 len:T.length<=1000
theorem Body.ne {T u:aa} {k:Nat} (h:Body T u k):u≠[]:=by
 obtain ⟨v,z,rfl,_⟩:=h.last;simp
theorem Body.ascu {T u:aa} {k:Nat} (h:Body T u k):∀c∈u,c.toNat<128:=λc hc=>h.asc c (by rw [h.eq];exact List.mem_append_left _ hc)
theorem Body.lenu {T u:aa} {k:Nat} (h:Body T u k):u.length<=1000:=by
 have:=h.len;rw [h.eq,bH] at this;omega
theorem Og (c:UInt8):([63,126,37]:aa).contains c=isMk c:=by
 have:=gN (λc=>([63,126,37]:aa).contains c==isMk c) (by decide +kernel) c;simpa using this
theorem Vh {k:Nat} (h:k<4):∀c∈mt k,isMk c=true/\c≠69/\c≠83/\c≠88:=by
 rcases (by omega:k=0\/k=1\/k=2\/k=3) with rfl | rfl | rfl | rfl<;>simp [mt,isMk,mkOf]
theorem Ig {p:UInt8->Bool}:∀{l:aa},(∀c∈l,p c=true)->l.dropWhile p=[]
 | [],_=>rfl
 | c::l,h=>by rw [List.dropWhile_cons,h c km];exact Ig λd a=>h d (eO _ a)
theorem vR {T u:aa} {k:Nat} (h:Body T u k):Lib.trimRightS T [63,126,37]=u:=by
 obtain ⟨v,z,rfl,b⟩:=h.last;unfold Lib.trimRightS;rw [h.eq,List.reverse_append,List.reverse_append];have:List.dropWhile (λx=>([63,126,37]:aa).contains x) ((mt k).reverse++([z].reverse++v.reverse))=[z].reverse++v.reverse:=by
  rw [List.dropWhile_append];have a:List.dropWhile (λx=>([63,126,37]:aa).contains x) (mt k).reverse=[]:=by
   refine Ig λc hc=>?_;rw [Og];exact (Vh h.k4 c (Dt.1 hc)).1
  rw [a];simp only [List.isEmpty_nil,aK,List.reverse_singleton,DJ];rw [List.dropWhile_cons,Og,b];simp
 rw [this];simp
theorem U7 (c:UInt8):([63,126,37,69,83]:aa).contains c=isLv c:=by
 have:=gN (λc=>([63,126,37,69,83]:aa).contains c==isLv c) (by decide +kernel) c;simpa using this
theorem Nh (u:aa):(u==uE u)=!decide (u.head?=some 45):=by
 unfold uE;cases u with
 | nil=>rfl
 | cons c r=>
  simp only [rE,ak];by_cases hc:c=45
  ·subst hc;rw [ae rfl,au rfl];simp only [cX,aW,ne_eq];intro h;have:=ci List.length h;simp at this
  ·rw [ab hc,av hc];simp
theorem JM (u:aa):(uE u).length<=u.length:=by
 unfold uE;split
 ·split<;>simp
 ·simp
theorem JH {u:aa}:∀c∈uE u,c∈u:=by
 unfold uE;split
 ·split
  ·intro c hc;exact eO _ hc
  ·intro c hc;exact hc
 ·intro c hc;exact hc
theorem Eg {T u:aa} {k:Nat} (h:Body T u k):(u==T)=decide (k=0):=by
 rw [h.eq];rcases (by have:=h.k4;omega:k=0\/k=1\/k=2\/k=3) with rfl | rfl | rfl | rfl
 ·simp [mt]
 all_goals
  rw [show decide _=false from rfl,aW];intro e;have:=ci List.length e;simp [mt] at this
theorem VT {T u:aa} {k:Nat} (h:Body T u k) {x:TD} (hs:smT x):kv 20000000 T x=some (lvl u (decide (k≠0)) (hasX x.2.2.1||(hasX x.2.2.2.2.2.1||hasX x.2.2.2.2.2.2.1)) (seT x)):=by
 have g:ap10 (bh 20000000) x=some (seT x,decide (0<seT x)):=ow 20000000 _ _ _ _ _ _ _ _ _ _ hs.1;have n:=h.len;have j:=h.lenu;have f:=JM u;have l:wy T [63,126,37]=true:=by
  unfold wy;rw [cr (by omega)];rfl
 have i:Ac (uE u)=true:=cr (by omega);have m:wU u [63,126,37,69,83]=true:=by
  unfold wU;rw [cr (show u.length<=4294967280 by omega)];have:JD u=true:=co.2 λc hc=>cr (h.ascu c hc);rw [this];rfl
 unfold kv;rw [g,fmT hs];simp only [ob,u2,l,aj,vR h,ND,i,m,GZ (λc hc=>h.ascu c (JH c hc)),vK,U7,V9];rw [show ([[100,100,100,88],[100,100,88,88],[100,100,100,100,45,88,88],[100,100,100,100,45,100,100,45,88,88],[100,100,100,100,45,88,88,45,88,88]]:List (aa))=iY from rfl,xJ];simp only [Nh,Eg h,Bool.not_not];unfold lvl simB;rw [show (List.any u λx=>isLv x)=u.any isLv from rfl];generalize (hasX x.2.2.1||(hasX x.2.2.2.2.2.1||hasX x.2.2.2.2.2.2.1))=X;generalize iY.contains ((uE u).map dgC)=F;cases u.any isLv
 ·simp only [ah,bA,aC];by_cases b:24<seT x
  ·rw [ae b,au (show 0<seT x by omega),au (show seT x>=25 by omega)];rfl
  ·rw [ab b,av (show ¬seT x>=25 by omega)];have a:(cond (decide (u.head?=some 45)) (some (1:Int)) (cond (decide (u.head?=some 89)) (some 1) (cond (!decide (k=0)) (some 1) (cond (decide (0<seT x)) (some 1) (cond X (some 1) (some 0))))))=some (if decide (k≠0)=true\/X=true\/0<seT x\/u.head?=some 45\/u.head?=some 89 then 1 else 0):=by
    by_cases a1:u.head?=some 45
    ·rw [au a1,ae (by simp [a1])];rfl
    rw [av a1];by_cases a2:u.head?=some 89
    ·rw [au a2,ae (by simp [a2])];rfl
    rw [av a2];by_cases e:k=0
    ·rw [au e];by_cases d:0<seT x
     ·rw [au d,ae (by simp [d])];rfl
     rw [av d];cases X
     ·rw [ab (by simp [a1,a2,e,d])];rfl
     ·rw [ae (by simp)];rfl
    ·rw [av e,ae (by simp [e])];rfl
   cases X
   ·simp only [ah,wQ,bA,aC];simp only [ah,bA] at a;rw [<-a];cases decide (0<seT x)<;>rfl
   ·cases F
    ·cases decide (0<seT x)<;>rfl
    ·simp only [aj,cX,ah,xT,bA,aC];simp only [aj] at a;rw [<-a];cases decide (0<seT x)<;>rfl
 ·rfl
def BN:aa->Int->Int->Option (Int×Int)
 | [],x,m=>some (x,m)
 | c::r,x,m=>if c=69\/c=83\/(isMk c=true/\r≠[]) then none else BN r (if c=88 then 1 else x) (if isMk c=true then 1 else m)
theorem V5 (c:UInt8):dr 20000000 ((c.toNat:Nat):Int)=some ((mkOf c:Nat):Int):=(C5 19999700 c).2
theorem MY (c:UInt8):decide (((mkOf c:Nat):Int)>0)=isMk c:=by
 unfold isMk;by_cases h:0<mkOf c
 ·rw [au h,au (by omega)]
 ·rw [av h,av (by omega)]
theorem JA {T:aa} (v:T.length<=1000) (x:TD):∀(r i:Nat) (a m:Int),i+r=T.length->∀N,r<N->
  aq (cE 20000000) N (T,a,m,(i:Int),x)=some (match BN (T.drop i) a m with | some p=>.inr (T,p.1,p.2,x) | none=>.inl 2):=by
 intro r
 induction r with
 | zero=>
  intro i a m hi N t;obtain ⟨N,rfl⟩:∃k,N=k+1:=⟨N - 1,by omega⟩;obtain rfl:i=T.length:=by omega
  have:cE 20000000 (T,a,m,((T.length:Nat):Int),x)=some (.inr (.inr (T,a,m,x))):=by
   unfold cE;simp only [u5,u4,u3,u2];rw [av (show ¬((T.length:Nat):Int)<len T by show ¬((T.length:Nat):Int)<((T.length:Nat):Int);omega)];rfl
  rw [aq,this,rI];rfl
 | succ r ih=>
  intro i a m hi N t;obtain ⟨N,rfl⟩:∃k,N=k+1:=⟨N - 1,by omega⟩;have d:i<T.length:=by omega
  have q:T[i]?=some T[i]:=bn d;rw [aq,pR d,BN];generalize T[i]=c at q ⊢;have n:T.drop (i+1)≠[]↔i+1<T.length:=by
   rw [ne_eq,List.drop_eq_nil_iff];omega
  have g:(((c.toNat:Nat):Int)==69)=decide (c=69):=qQ c 69 (by decide);have j:(((c.toNat:Nat):Int)==83)=decide (c=83):=qQ c 83 (by decide);have l:(((c.toNat:Nat):Int)==88)=decide (c=88):=qQ c 88 (by decide);have s:w64 (len T - 1)=((T.length - 1:Nat):Int):=J1 (by omega) (by omega);have:cE 20000000 (T,a,m,(i:Int),x)=some (if c=69\/c=83\/(isMk c=true/\T.drop (i+1)≠[]) then .inr (.inl 2) else .inl (T,(if c=88 then 1 else a),(if isMk c=true then 1 else m),((i+1:Nat):Int),x)):=by
   unfold cE;simp only [u5,u4,u3,u2];rw [au (show (i:Int)<len T by show (i:Int)<((T.length:Nat):Int);omega)];simp only [aj,ob,ew q,g,j,l,V5,MY,s];rw [qP (by omega)];by_cases e:c=69
   ·rw [au e,ae (.inl e)];rfl
   rw [av e];by_cases f:c=83
   ·rw [au f,ae (.inr (.inl f))];rfl
   rw [av f];simp only [ah];cases u:isMk c
   ·rw [ab (by simp [e,f])];simp only [ah,bA,aC];by_cases b:c=88
    ·rw [au b,ae b];rfl
    ·rw [av b,ab b];rfl
   ·simp only [aj,aK];by_cases o:i+1<T.length
    ·rw [au (show (i:Int)<((T.length - 1:Nat):Int) by omega),ae (.inr (.inr ⟨trivial,n.2 o⟩))];rfl
    ·rw [av (show ¬(i:Int)<((T.length - 1:Nat):Int) by omega),ab (by
      rintro (h | h | ⟨_,h⟩)
      ·exact e h
      ·exact f h
      ·exact o (n.1 h))]
     by_cases b:c=88
     ·rw [au b,ae b];rfl
     ·rw [av b,ab b];rfl
  rw [this];by_cases hc:c=69\/c=83\/(isMk c=true/\T.drop (i+1)≠[])
  ·rw [ae hc,ae hc]
  ·rw [ab hc,ab hc];exact ih (i+1) _ _ (by omega) N (by omega)
theorem BQ:∀(v:aa) (w:aa) (a:Int),w≠[]->BN (v++w) a 0=if v.any isLv then none else BN w (if v.any (·==88) then 1 else a) 0
 | [],w,a,_=>by simp
 | c::v,w,a,d=>by
  rw [ep,BN,qm,qm];have e:v++w≠[]:=by
   intro h;exact d (List.append_eq_nil_iff.1 h).2
  by_cases hc:isLv c=true
  ·have:c=69\/c=83\/(isMk c=true/\v++w≠[]):=by
    unfold isLv at hc;simp only [gM,bQ] at hc;rcases hc with h | h | h
    ·exact .inl h
    ·exact .inr (.inl h)
    ·exact .inr (.inr ⟨h,e⟩)
   rw [ae this,hc];simp
  ·have hc':isLv c=false:=by simpa using hc
   have f:c≠69/\c≠83/\isMk c=false:=by
    unfold isLv at hc';simp only [n8,aW] at hc';exact hc'
   rw [ab (by rintro (h | h | ⟨h,_⟩)<;>simp_all),f.2.2,hc'];simp only [bA,aC,pP];rw [BQ v w _ d];by_cases b:c=88
   ·subst b;simp
   ·rw [ab b,show (c==88)=false from by simp [b],pP]
theorem UA {T u:aa} {k:Nat} (h:Body T u k):BN T 0 0=if u.any isLv then none else some (if u.any (·==88) then 1 else 0,if k=0 then 0 else 1):=by
 obtain ⟨v,z,rfl,d⟩:=h.last;rw [h.eq,fi,BQ v _ 0 (by simp)];rw [rM,rM];cases v.any isLv
 ·simp only [bA,aC,pP,qm,List.any_nil,ur,DJ];rw [BN,d];by_cases b:z=69
  ·subst b;simp [isLv]
  by_cases a:z=83
  ·subst a;simp [isLv]
  have e:isLv z=false:=by unfold isLv;rw [d];simp [b,a]
  rw [ab (by simp [b,a]),e];simp only [bA,aC];have hx:(if z=88 then (1:Int) else if (v.any λx=>x==88)=true then 1 else 0)=if ((v.any λx=>x==88)||z==88)=true then 1 else 0:=by
   by_cases c:z=88
   ·subst c;simp
   ·rw [ab c,show (z==88)=false from by simp [c],ur]
  rw [hx];rcases (by have:=h.k4;omega:k=0\/k=1\/k=2\/k=3) with rfl | rfl | rfl | rfl<;>rfl
 ·simp
theorem vn (f:aa) (u:∀c∈f,c=100\/c=88\/c=45) (v:f.length<=1000) (t:aa):aQ 20000000 t f=some (if t.map dgC=f then 1 else 0):=by
 unfold aQ;rw [show (len t != len f)=!decide (t.length=f.length) from ci _ (natB _ _)];by_cases l:t.length=f.length
 case neg=>
  rw [av l,ab (λh=>l (by rw [<-h];simp))];rfl
 rw [au l];have loop:∀(r i:Nat),i+r=t.length->∀N,r<N->aq (dm 20000000) N (t,f,(i:Int))=some (if (t.drop i).map dgC=f.drop i then .inr () else .inl 0):=by
  intro r
  induction r with
  | zero=>
   intro i hi N w;obtain ⟨N,rfl⟩:∃k,N=k+1:=⟨N - 1,by omega⟩;obtain rfl:i=t.length:=by omega
   have:dm 20000000 (t,f,((t.length:Nat):Int))=some (.inr (.inr ())):=by
    unfold dm;simp only [u3,u2];rw [av (show ¬((t.length:Nat):Int)<len t by show ¬((t.length:Nat):Int)<((t.length:Nat):Int);omega)];rfl
   rw [aq,this,rI,l,rI];rfl
  | succ r ih=>
   intro i hi N w;obtain ⟨N,rfl⟩:∃k,N=k+1:=⟨N - 1,by omega⟩;have j:i<t.length:=by omega
   have b:i<f.length:=by omega
   have o:t[i]?=some t[i]:=bn j;have s:f[i]?=some f[i]:=bn b;have p:=u _ (EN b);rw [aq,pR j,pR b,fk];generalize t[i]=c at o ⊢;generalize f[i]=d at s p ⊢;have a:(dgC c=d)↔(c=d\/(d=100/\bp c=true)):=by
    unfold dgC;by_cases h:bp c=true
    ·rw [ae h];constructor
     ·intro e;exact .inr ⟨e.symm,h⟩
     ·rintro (e | ⟨e,_⟩)
      ·subst e;rcases p with rfl | rfl | rfl
       ·rfl
       ·exact absurd h (by decide)
       ·exact absurd h (by decide)
      ·exact e.symm
    ·rw [ab h];constructor
     ·intro e;exact .inl e
     ·rintro (e | ⟨_,e⟩)
      ·exact e
      ·exact absurd e h
   have g:bp c=(decide (48<=c.toNat)&&decide (c.toNat<=57)):=by
    have:=gN (λc=>bp c==(decide (48<=c.toNat)&&decide (c.toNat<=57))) (by decide +kernel) c;simpa using this
   have:dm 20000000 (t,f,(i:Int))=some (if dgC c=d then .inl (t,f,((i+1:Nat):Int)) else .inr (.inl 0)):=by
    unfold dm;simp only [u3,u2];rw [au (show (i:Int)<len t by show (i:Int)<((t.length:Nat):Int);omega)];simp only [aj,ob,ew o,ew s];rw [qP (by omega),show (((c.toNat:Nat):Int) != ((d.toNat:Nat):Int))=!(c==d) from ci _ (od c d),show (((d.toNat:Nat):Int)==100)=decide (d=100) from qQ d 100 (by decide)];by_cases e:c=d
    ·rw [ae (a.2 (.inl e)),show (c==d)=true from by simp [e]];rfl
    ·rw [show (c==d)=false from by simp [e]];by_cases m:d=100
     ·rw [au m];simp only [iv,aj];by_cases n:48<=c.toNat
      ·rw [au (show ((c.toNat:Nat):Int)>=48 by omega)];by_cases q:c.toNat<=57
       ·rw [au (show ((c.toNat:Nat):Int)<=57 by omega),ae (a.2 (.inr ⟨m,by rw [g];simp [n,q]⟩))];rfl
       ·rw [av (show ¬((c.toNat:Nat):Int)<=57 by omega),ab (λh=>by
         rcases a.1 h with h | ⟨_,h⟩
         ·exact e h
         ·rw [g] at h;simp [q] at h)];rfl
      ·rw [av (show ¬((c.toNat:Nat):Int)>=48 by omega),ab (λh=>by
        rcases a.1 h with h | ⟨_,h⟩
        ·exact e h
        ·rw [g] at h;simp [n] at h)];rfl
     ·rw [av m,ab (λh=>by
       rcases a.1 h with h | ⟨h,_⟩
       ·exact e h
       ·exact m h)];rfl
   rw [this];by_cases e:dgC c=d
   ·rw [ae e];simp only [];rw [ih (i+1) (by omega) N (by omega),e];simp
   ·rw [ab e,ab (λh=>e (List.cons.inj h).1)]
 have:=loop t.length 0 (by omega) 20000000 (by omega);rw [show ((0:Nat):Int)=0 from rfl,ch,ch] at this;rw [this];split<;>rfl
theorem JO (t:aa):(w64 ((w64 ((w64 ((w64 ((if t.map dgC=[100,100,100,88] then (1:Int) else 0)+(if t.map dgC=[100,100,88,88] then (1:Int) else 0)))+(if t.map dgC=[100,100,100,100,45,88,88] then (1:Int) else 0)))+(if t.map dgC=[100,100,100,100,45,100,100,45,88,88] then (1:Int) else 0)))+(if t.map dgC=[100,100,100,100,45,88,88,45,88,88] then (1:Int) else 0))==0)=!simB t:=by
 unfold simB iY;simp only [List.contains_cons,List.contains_nil,ur];have e:∀f:aa,(t.map dgC=f)=((t.map dgC==f)=true):=λf=>by simp
 simp only [e];generalize (t.map dgC==[100,100,100,88])=z1;generalize (t.map dgC==[100,100,88,88])=z2;generalize (t.map dgC==[100,100,100,100,45,88,88])=b;generalize (t.map dgC==[100,100,100,100,45,100,100,45,88,88])=a;generalize (t.map dgC==[100,100,100,100,45,88,88,45,88,88])=c;cases z1<;>cases z2<;>cases b<;>cases a<;>cases c<;>rfl
theorem SE (t:aa):aQ 20000000 t [100,100,100,88]=some (if t.map dgC=[100,100,100,88] then 1 else 0):=vn _ (by decide) (by decide) t
theorem UU (t:aa):aQ 20000000 t [100,100,88,88]=some (if t.map dgC=[100,100,88,88] then 1 else 0):=vn _ (by decide) (by decide) t
theorem Tq (t:aa):aQ 20000000 t [100,100,100,100,45,88,88]=some (if t.map dgC=[100,100,100,100,45,88,88] then 1 else 0):=vn _ (by decide) (by decide) t
theorem TW (t:aa):aQ 20000000 t [100,100,100,100,45,100,100,45,88,88]=some (if t.map dgC=[100,100,100,100,45,100,100,45,88,88] then 1 else 0):=vn _ (by decide) (by decide) t
theorem TX (t:aa):aQ 20000000 t [100,100,100,100,45,88,88,45,88,88]=some (if t.map dgC=[100,100,100,100,45,88,88,45,88,88] then 1 else 0):=vn _ (by decide) (by decide) t
theorem QU {T u:aa} {k:Nat} (h:Body T u k) {g l:Bool} {dg:aa} {e q:Nat} {m d:aa} {M P:Nat×Nat×Nat} {p:Nat} (F:qM T 0=.inr (g,l,dg,e,q,m,d,M,P,p)):
  ge 20000000 T=some (lvl u (decide (k≠0)) (u.any (·==88)) (sea m)):=by
 have H:=h.len;obtain ⟨Q,_,D⟩:=Ee 19999700 T 0 (by omega) (by omega) (by omega);rw [show 19999700+300=20000000 from rfl,F,show ((0:Nat):Int)=0 from rfl] at D;have s:=JA H (g,l,dg,(e:Int),(q:Int),m,d,(M.1:Int),(M.2.1:Int),(M.2.2:Int)) T.length 0 0 0 (by omega) 20000000 (by omega);rw [show ((0:Nat):Int)=0 from rfl,ch,UA h] at s;unfold ge;rw [D];simp only [ob,S9];rw [show aq (cE 20000000) 20000000 (T,0,0,0,iF (g,l,dg,(e:Int),(q:Int),m,d,(M.1:Int),(M.2.1:Int),(M.2.2:Int),Q,T,(p:Int),(0:Int)))=_ from s];have y:∃c r,u=c::r:=by
  cases f:u with
  | nil=>exact absurd f h.ne
  | cons c r=>exact ⟨c,r,rfl⟩
 have w:ap10 (aL 20000000) (iF (g,l,dg,(e:Int),(q:Int),m,d,(M.1:Int),(M.2.1:Int),(M.2.2:Int),Q,T,(p:Int),(0:Int)))=some (sea m):=rsT _;unfold lvl;cases u.any isLv
 case true=>rfl
 simp only [bA,aC,obs,sm,ob,u4,u3,u2];rw [w];simp only [ob];by_cases b:24<sea m
 ·rw [ae b,show decide (sea m>24)=true from au b];rfl
 rw [ab b,show decide (sea m>24)=false from av b,ah];have G:=h.k4;have o:=ci List.length h.eq;rw [bH] at o;have j:bx (List.length T) (w64 ((len T) - (if k=0 then (0:Int) else 1)))=some u.length:=by
  have:w64 ((len T) - (if k=0 then (0:Int) else 1))=((u.length:Nat):Int):=by
   have J:len T=((T.length:Nat):Int):=rfl;rw [J,o];show IntKind.wrap .i64 _=_;rw [wrap_i64 _ (by split<;>omega) (by split<;>omega)];rcases (by omega:k=0\/k=1\/k=2\/k=3) with rfl | rfl | rfl | rfl<;>simp [mt]
  rw [this,fQ (by omega)]
 have A:List.take u.length T=u:=by rw [h.eq,zI]
 rw [j];simp only [ch,A];obtain ⟨c,r,f⟩:=y;have z:sx u (0:Int)=some c:=by rw [f];rfl
 have v:sx T (0:Int)=some c:=by rw [h.eq,f];rfl
 have t:uE u=if c=45 then r else u:=by rw [f];rfl
 have I:u.head?=some c:=by rw [f];rfl
 have b1:bx u.length (1:Int)=some 1:=fQ (i:=1) (by rw [f];simp);have B:List.drop 1 (List.take u.length u)=r:=by rw [nM,f];rfl
 rw [z,v,b1];simp only [B,ob,SE,UU,Tq,TW,TX,JO];rw [show (((c.toNat:Nat):Int)==45)=decide (c=45) from qQ c 45 (by decide),show (((c.toNat:Nat):Int)==89)=decide (c=89) from qQ c 89 (by decide),I];have a:(cond ((if (u.any λx=>x==88)=true then (1:Int) else 0)==1) (some (1:Int)) (cond ((if k=0 then (0:Int) else 1)==1) (some 1) (cond (decide (sea m>0)) (some 1) (cond (decide (c=45)) (some 1) (cond (decide (c=89)) (some 1) (some 0)))))) =
   some (if decide (k≠0)=true\/(u.any λx=>x==88)=true\/0<sea m\/some c=some 45\/some c=some 89 then 1 else 0):=by
  cases (u.any λx=>x==88)
  ·by_cases a1:k=0
   ·by_cases a2:0<sea m
    ·simp [a1,a2]
    ·by_cases C:c=45
     ·simp [a1,a2,C]
     ·by_cases E:c=89
      ·simp [a1,a2,E]
      ·simp [a1,a2,C,E]
   ·simp [a1]
  ·simp
 by_cases hc:c=45
 ·rw [au hc,aj];rw [t,ae hc];rw [au hc] at a;cases n:(u.any λx=>x==88)
  ·rw [n] at a;simp only [wQ,bA,aC,show ((0:Int)==1)=false from rfl,ah] at a ⊢;exact a
  ·rw [n] at a;cases K:simB r
   ·simp
   ·simp only [aK,show ((1:Int)==1)=true from rfl,aj,ah,cX,xT,bA,aC] at a ⊢;exact a
 ·rw [av hc,ah];rw [t,ab hc];rw [av hc] at a;cases n:(u.any λx=>x==88)
  ·rw [n] at a;simp only [wQ,bA,aC,show ((0:Int)==1)=false from rfl,ah] at a ⊢;exact a
  ·rw [n] at a;cases K:simB u
   ·simp
   ·simp only [aK,show ((1:Int)==1)=true from rfl,aj,ah,cX,xT,bA,aC] at a ⊢;exact a
theorem pM {k:Nat} (h:k<4):(mt k).all okC=true:=by
 rcases (by omega:k=0\/k=1\/k=2\/k=3) with rfl | rfl | rfl | rfl<;>decide
theorem x_mk {k:Nat} (h:k<4):(mt k).any (·==88)=false:=by
 rcases (by omega:k=0\/k=1\/k=2\/k=3) with rfl | rfl | rfl | rfl<;>decide
theorem RN:((List.range 100).all λk=>(Lib.decDigits k).all λc=>okC c&&(!isMk c&&!(c==88)))=true:=by decide +kernel
theorem Bn {k:Nat} (h:k<100) {letter:UInt8} (a:letter=69\/letter=83):(fh letter k).all (λc=>okC c&&(!isMk c&&!(c==88)))=true:=by
 unfold fh;split
 ·rw [lA,(co.1 RN) k (kj.2 h)];rcases a with rfl | rfl<;>decide
 ·rfl
theorem Jj {c:UInt8} (h:isDX c=true):okC c=true:=by unfold okC;rw [h];rfl
theorem xu {g l:Bool} {dg:aa} {x q:Nat} (h:okY g l dg (x:Int) (q:Int)):gh g l dg (x:Int) (q:Int)≠[]/\(∀c∈gh g l dg (x:Int) (q:Int),okC c=true/\isMk c=false)/\(gh g l dg (x:Int) (q:Int)).any (·==88)=hasX dg:=by
 obtain ⟨k,o,n,m,e,p⟩:=ma h;have hx:x<100:=by omega
 have j:q<100:=by omega
 have b:=Bn hx (letter:=69) (.inl rfl);have a:=Bn j (letter:=83) (.inr rfl);have d:=IN h;have f:dg≠[]:=by
  rintro rfl;simp at e
 rw [kx];refine ⟨by cases l<;>cases g<;>simp [f],λc hc=>?_,?_⟩
 ·simp only [mX,or_assoc] at hc;rcases hc with hc | hc | hc | hc | hc
  ·cases l
   ·cases hc
   ·rw [mn.1 hc];decide
  ·cases g
   ·cases hc
   ·rw [mn.1 hc];decide
  ·exact ⟨Jj (d c hc),GH (d c hc)⟩
  ·have:=(co.1 b) c hc;simp only [az,kP] at this;exact ⟨this.1,this.2.1⟩
  ·have:=(co.1 a) c hc;simp only [az,kP] at this;exact ⟨this.1,this.2.1⟩
 ·have no:∀w:aa,w.all (λc=>okC c&&(!isMk c&&!(c==88)))=true->w.any (·==88)=false:=by
   intro w i;rw [s9];intro c hc;have:=(co.1 i) c hc;simp only [az,kP] at this;rw [this.2.2];simp
  simp only [rM,no _ b,no _ a,ur];unfold hasX;cases l<;>cases g<;>simp
theorem Db {w:aa} (h:w≠[]) (b:∀c∈w,isMk c=false) (v:aa):∃a z,v++w=a++[z]/\isMk z=false:=
 ⟨v++w.dropLast,w.getLast h,by rw [fi,List.dropLast_concat_getLast],b _ (List.getLast_mem h)⟩
theorem NT {A B:Nat×Nat×Nat} {g l:Bool} {dg:aa} {x q:Nat} {m d:aa} (hs:ShD g l dg x q m d) (hk:MkD A B m d):
  ∃u k,Body (rawD A B g l dg (x:Int) (q:Int) m d) u k/\u.any (·==88)=(hasX dg||(hasX m||hasX d))/\(u.any isLv=false->A=(0,0,0)/\(m≠[]->B.1=0)/\(d≠[]->B.2.1=0))/\k=(if m=[] then B.1 else if d=[] then B.2.1 else B.2.2):=by
 obtain ⟨K,E,v⟩:=xu hs.yr;have yl:=xj hs.yr;obtain ⟨i,p,D⟩:=A;obtain ⟨n,r,H⟩:=B;obtain ⟨a0,a1,a2,b0,b1,b2,zm,zd⟩:=hk;simp only at a0 a1 a2 b0 b1 b2 zm zd;unfold rawD ck;simp only;generalize gh g l dg (x:Int) (q:Int)=Y at *;have b:∀w:aa,w.all okC=true->∀c∈w,c.toNat<128:=λw Z c hc=>Q8 ((co.1 Z) c hc);have C:Y.all okC=true:=co.2 λc hc=>(E c hc).1;have f:∀k,k<4->(mt k).length<=1:=λk h=>by
  rcases (by omega:k=0\/k=1\/k=2\/k=3) with rfl | rfl | rfl | rfl<;>simp [mt]
 have O:=f i a0;have W:=f p a1;have Q:=f D a2;have I:=f n b0;have U:=f r b1;have X:=f H b2;have a:∀k,k<4->(mt k).any isLv=false->k=0:=λk h=>by
  rcases (by omega:k=0\/k=1\/k=2\/k=3) with rfl | rfl | rfl | rfl<;>decide
 have o:∀w:aa,w.any (λx=>x==88)=hasX w:=λw=>rfl;by_cases j:m=[]
 ·have e:d=[]:=hs.day.resolve_right (λz=>z.1 j);subst j e;obtain ⟨rfl,rfl⟩:=zm rfl;obtain ⟨rfl,rfl⟩:=zd rfl;simp only [aK,lL];refine ⟨mt i++Y,n,⟨rfl,b0,Db K (λc hc=>(E c hc).2) _,b _ (by rw [B6,B6,pM a0,C,pM b0];rfl),by simp only [bH];omega⟩,?_,?_,rfl⟩
  ·rw [rM,x_mk a0,v];simp [hasX]
  ·intro h;rw [rM,n8] at h;exact ⟨by rw [a _ a0 h.1],λh=>absurd rfl h,λh=>absurd rfl h⟩
 ·obtain ⟨S,mx⟩:=hs.mon.resolve_left j;have G:m.all okC=true:=co.2 λc hc=>Jj (mx c hc);rw [ab j,ab j];by_cases e:d=[]
  ·subst e;obtain ⟨rfl,rfl⟩:=zd rfl;simp only [aK,lL];refine ⟨mt i++Y++mt n++(45::(mt p++m)),r,⟨by simp,b1,?_,b _ ?_,by simp only [bH,aM];omega⟩,?_,?_,rfl⟩
   ·have:=Db j (λc hc=>GH (mx c hc)) (mt i++Y++mt n++(45::mt p));simpa using this
   ·simp only [B6,lA,pM a0,C,pM b0,pM a1,G,pM b1,show okC 45=true from by decide];rfl
   ·simp only [rM,qm,x_mk a0,x_mk b0,x_mk a1,v];simp only [o];simp [hasX]
   ·intro h;simp only [rM,qm,n8] at h;obtain ⟨⟨⟨y,L⟩,t⟩,P,s,M⟩:=h;exact ⟨by rw [a _ a0 y,a _ a1 s],λ_=>a _ b0 t,λh=>absurd rfl h⟩
  ·obtain ⟨_,N,F⟩:=hs.day.resolve_left e;have V:d.all okC=true:=co.2 λc hc=>Jj (F c hc);rw [ab e,ab e];refine ⟨mt i++Y++mt n++(45::(mt p++m++mt r))++(45::(mt D++d)),H,⟨by simp,b2,?_,b _ ?_,by simp only [bH,aM];omega⟩,?_,?_,rfl⟩
   ·have:=Db e (λc hc=>GH (F c hc)) (mt i++Y++mt n++(45::(mt p++m++mt r))++(45::mt D));simpa using this
   ·simp only [B6,lA,pM a0,C,pM b0,pM a1,G,pM b1,pM a2,V,pM b2,show okC 45=true from by decide];rfl
   ·simp only [rM,qm,x_mk a0,x_mk b0,x_mk a1,x_mk b1,x_mk a2,v];simp only [o];simp [Bool.or_assoc]
   ·intro h;simp only [rM,qm,n8] at h;obtain ⟨⟨⟨⟨y,L⟩,t⟩,P,⟨s,M⟩,J⟩,h8,R,T⟩:=h;exact ⟨by rw [a _ a0 y,a _ a1 s,a _ a2 R],λ_=>a _ b0 t,λ_=>a _ b1 J⟩
def mkX (x:TD):Bool:=hasX x.2.2.1||(hasX x.2.2.2.2.2.1||hasX x.2.2.2.2.2.2.1)
def lvT (T:aa) (x:TD):Int:=lvl (Lib.trimRightS T [63,126,37]) (!(Lib.trimRightS T [63,126,37]==T)) (mkX x) (seT x)
theorem V2 {T u:aa} {k:Nat} (h:Body T u k) {x:TD} (hs:smT x):kv 20000000 T x=some (lvT T x):=by
 rw [VT h hs];unfold lvT mkX;rw [vR h,Eg h];simp
theorem QV {S:aa} {a:Nat} (h:a<=S.length) {r:DR} (j:eT S a=.inr r):∃A B u k,MkD A B (tdR r).2.2.2.2.2.1 (tdR r).2.2.2.2.2.2.1/\plR r=a+(mt A.1).length/\
  (S.drop a).take (enR r - a)=rawD A B r.1 r.2.1 r.2.2.1 (r.2.2.2.1:Int) (r.2.2.2.2.1:Int) r.2.2.2.2.2.1 r.2.2.2.2.2.2.1/\r.2.2.2.2.2.2.2.1=spM A B/\Body ((S.drop a).take (enR r - a)) u k/\
  kv 20000000 ((S.drop a).take (enR r - a)) (tdR r)=some (lvT ((S.drop a).take (enR r - a)) (tdR r))/\ge 20000000 ((S.drop a).take (enR r - a))=some (lvT ((S.drop a).take (enR r - a)) (tdR r)):=by
 obtain ⟨o,C,z,D⟩:=ny h j;obtain ⟨w,_⟩:=ER h j;obtain ⟨H,I,v,G,t,m',d',k0,k1,k2,i,ok⟩:=nO o C;obtain ⟨g,l,dg,x,s,m,d,M,P,e⟩:=r;have ok:ShD g l dg x s m d:=by
  unfold tdR at i;simp only [bE] at i;obtain ⟨rfl,rfl,rfl,hx,n,rfl,rfl,_⟩:=i;have hx:x=G:=by omega
  have n:s=t:=by omega
  subst hx n;exact ok.sh
 obtain ⟨A,B,mk,E,q,p⟩:=IB w;have F:(rawD A B g l dg (x:Int) (s:Int) m d).length=e - a:=by
  have:=ci List.length p;simp only [bH,cY] at this;have:a<=e:=z;have:e<=S.length:=D;omega
 have c:(S.drop a).take (e - a)=rawD A B g l dg (x:Int) (s:Int) m d:=by rw [p,<-F,zI]
 obtain ⟨u,k,b,y,_⟩:=NT ok mk;refine ⟨A,B,u,k,mk,q,c,E,by rw [show enR (g,l,dg,x,s,m,d,M,P,e)=e from rfl,c];exact b,?_,?_⟩
 ·rw [show enR (g,l,dg,x,s,m,d,M,P,e)=e from rfl,c];exact V2 b o
 ·rw [show enR (g,l,dg,x,s,m,d,M,P,e)=e from rfl,c];obtain ⟨J,_,f⟩:=E9 ok mk (S:=rawD A B g l dg (x:Int) (s:Int) m d) (a:=0) (post:=[]) (by simp) tR tR tR;rw [QU b f,y];unfold lvT mkX;rw [vR b,Eg b];simp only [decide_not];rfl
def mx (a b:Int):Int:=if a>b then a else b
def lvR (S:aa) (p:Nat) (r:DR):Int:=lvT ((S.drop p).take (enR r - p)) (tdR r)
theorem Ks (u:aa) (b X:Bool) (c:Int):0<=lvl u b X c/\lvl u b X c<=2:=by
 unfold lvl
 repeat' split
 all_goals omega
theorem Iy (S:aa) (p:Nat) (r:DR):0<=lvR S p r/\lvR S p r<=2:=Ks _ _ _ _
theorem bcT {x:TD} (h:smT x) (K:Int):ap10 (gm 20000000 K) x=some (uJ K x):=uV h.1 h.2.1 h.2.2.1 h.2.2.2.1 h.2.2.2.2.1 h.2.2.2.2.2
theorem zC (n:Nat) (a:Int) (S:aa) (p:Int) (I:List TI) (K:Int) (D:TD) (KF:Int) (DF:TD) (KT:Int) (DT:TD) (e l:Bool) (lv:Int):
  cA n a S p I K D KF DF KT DT e l lv=some (K,D,KF,DF,KT,DT,e,l,mx a lv):=by
 unfold cA mx;rw [bL]
theorem JB (I:List TI) (K:Int) (D:TD) (KF:Int) (DF:TD) (KT:Int) (DT:TD) (e l:Bool) (lv:Int) {S:aa} {p:Nat} (h:p<=S.length) (b:S.length<100000):
  db 20000000 I K D KF DF KT DT e l lv S (p:Int)=some (match eT S p with
   | .inl f=>.inl ((f.1:Int),(f.2.1:Int),K,D,KF,DF,KT,DT,e,l,lv,S,(f.2.2:Int))
   | .inr r=>.inr (tdR r,((plR r:Nat):Int),K,D,KF,DF,KT,DT,e,l,mx (lvR S p r) lv,S,((enR r:Nat):Int))):=by
 unfold db;rw [sJ _ _ _ h,DW S p h b];cases a:eT S p with
 | inl f=>rfl
 | inr r=>
  obtain ⟨i,k,j,g⟩:=ny h a;obtain ⟨_,_,_,_,_,_,_,_,_,d,_⟩:=QV h a;rw [CH];simp only [obs,sm,ob];rw [show (d4 (d8 ((tdR r).1,(tdR r).2.1,(tdR r).2.2.1,(tdR r).2.2.2.1,(tdR r).2.2.2.2.1,(tdR r).2.2.2.2.2.1,(tdR r).2.2.2.2.2.2.1,(tdR r).2.2.2.2.2.2.2.1,(tdR r).2.2.2.2.2.2.2.2.1,(tdR r).2.2.2.2.2.2.2.2.2,((plR r:Nat):Int),S,((enR r:Nat):Int))))=((enR r:Nat):Int) from rfl,sJ _ _ _ g];simp only [];have c:w64 (len (S.drop p) - len (S.drop (enR r)))=((enR r - p:Nat):Int):=by
   show IntKind.wrap .i64 (((S.drop p).length:Int) - ((S.drop (enR r)).length:Int))=_;rw [cY,cY,wrap_i64 _ (by omega) (by omega)];omega
  rw [c,fQ (by rw [cY];omega)];simp only [ch];rw [show kv 20000000 ((S.drop p).take (enR r - p)) (iF ((tdR r).1,(tdR r).2.1,(tdR r).2.2.1,(tdR r).2.2.2.1,(tdR r).2.2.2.2.1,(tdR r).2.2.2.2.2.1,(tdR r).2.2.2.2.2.2.1,(tdR r).2.2.2.2.2.2.2.1,(tdR r).2.2.2.2.2.2.2.2.1,(tdR r).2.2.2.2.2.2.2.2.2,((plR r:Nat):Int),S,((enR r:Nat):Int)))=_ from d];simp only [zC,u9,u8,u7,u6,u5,u4,u3,u2];rfl
theorem FQ {x:TD} (h:smT x) (hc:cF x=0) (a K:Int) (D:TD) (KF:Int) (DF:TD) (KT:Int) (DT:TD) (e l:Bool) (lv:Int) (S:aa) (p:Int) (I:List TI):
  ct 20000000 x a K D KF DF KT DT e l lv S p I=some (if exT x=true then .inr (1,x) else .inl (a,11)):=by
 unfold ct;rw [bcT h,C9,ae hc];cases exT x<;>rfl
noncomputable def toP (S:aa) (p:Nat) (KF:Int) (DF:TD) (lv:Int):(Nat×Nat)⊕(Int×TD×Int×Nat):=
 if KF=1/\p=S.length then .inr (3,d0,mx 1 lv,p)
 else if KF=1/\dts (S.drop p)=true then .inr (2,d0,mx 1 lv,p+2)
 else match eT S p with
  | .inl f=>.inl (f.1,f.2.1)
  | .inr r=>if exT (tdR r)=true then (if enR r<S.length\/so KF DF 1 (tdR r)=0 then .inr (1,tdR r,mx (lvR S p r) (if KF=1 then lv else mx 1 lv),enR r) else .inl (plR r,11)) else .inl (plR r,11)
def UW (S:aa) (D:TD) (KF:Int) (DF:TD) (e l:Bool):(Nat×Nat)⊕(Int×TD×Int×Nat)->(Int×TD×Int×TD×Int×TD×Bool×Bool×Int×aa×Int)⊕(Int×Int×Int×TD×Int×TD×Int×TD×Bool×Bool×Int×aa×Int)->Prop
 | .inl f,y=>∃z,y=.inr ((f.1:Int),(f.2:Int),z)
 | .inr (KT,DT,lv,p),y=>y=.inl (2,D,KF,DF,KT,DT,e,l,lv,S,(p:Int))
theorem Gx {S:aa} {p:Nat} (h:p<=S.length):(peek (S.drop p)).2=decide (p<S.length):=by
 by_cases hp:p<S.length
 ·rw [au hp,bY (bn hp)];rfl
 ·rw [av hp,iP (by omega)];rfl
theorem Ph (I:List TI) (K:Int) {DF:TD} (G:smT DF) (KF:Int) (lv:Int) {S:aa} {p:Nat} (h:p<=S.length) (hS:S.length<100000):
  ∃y,eX 20000000 I K d0 KF DF 0 d0 false false lv S (p:Int)=some y/\UW S d0 KF DF false false (toP S p KF DF lv) y:=by
 have q:∀(n:Int) (t:n=if KF=1 then lv else mx 1 lv) (X:¬(KF=1/\p=S.length)) (o:¬(KF=1/\dts (S.drop p)=true)),∃y,(obs (db 20000000 I 2 d0 KF DF 0 d0 false false n S (p:Int)) (u13 λz M W N D J x O P F E Q B=>(some (.inr (z,M,W,N,D,J,x,O,P,F,E,Q,B)))) (u13 λH w i e c d v u k g j b a=>(obs (ct 20000000 H w i e c d v u k g j b a I) (u2 λV A=>(some (.inr (V,A,i,e,c,d,v,u,k,g,j,b,a)))) (u2 λl m=>(ob (aZ 20000000 b a) (u2 λ_ C=>(cond (!C) (ob (ap10 (ap10 (gK 20000000 c) d l) m) λL=>(cond (L != 0) (ob (aJ 20000000 w 11 b a) (u2 λT R=>(some (.inr (T,R,i,e,c,d,l,m,k,g,j,b,a))))) (some (.inl (i,e,c,d,l,m,k,g,j,b,a))))) (some (.inl (i,e,c,d,l,m,k,g,j,b,a))))))))))=some y/\UW S d0 KF DF false false (toP S p KF DF lv) y:=by
  intro n t X o;unfold toP;rw [JB I 2 d0 KF DF 0 d0 false false n h hS,ab X,ab o];cases hr:eT S p with
  | inl f=>exact ⟨_,rfl,_,rfl⟩
  | inr r=>
   obtain ⟨Z,c1,l1,Y⟩:=ny h hr;simp only [obs,sm,ob,u13,u12,u11,u10,u9,u8,u7,u6,u5,u4,u3,u2];rw [FQ Z c1];cases hx:exT (tdR r)
   ·exact ⟨_,rfl,_,rfl⟩
   ·simp only [aK,oG _ _ _ Y,Gx Y];by_cases U:enR r<S.length
    ·rw [au U,ae (.inl U)];exact ⟨_,rfl,by rw [<-t];rfl⟩
    ·rw [av U];simp only [iv,aj];rw [Ij G Z];simp only [];by_cases hp:so KF DF 1 (tdR r)=0
     ·rw [ae (.inr hp),show (so KF DF 1 (tdR r) != 0)=false from by simp [hp]];exact ⟨_,rfl,by rw [<-t];rfl⟩
     ·rw [ab (by rintro (h | h)<;>contradiction),show (so KF DF 1 (tdR r) != 0)=true from by simp [hp]];exact ⟨_,rfl,_,rfl⟩
 unfold eX;by_cases s:KF=1
 ·rw [show (KF==1)=true from by simp [s],aj,oG _ _ _ h];simp only [ob,u2,Gx h,zC];by_cases hp:p<S.length
  ·rw [au hp];simp only [cX,ah];rw [l7 _ _ _ _ h (by omega)];cases o:dts (S.drop p)
   ·rw [ab (show ¬(S.drop p).take [(46:UInt8),46].length=[46,46] from λh=>by unfold dts at o;rw [show (S.drop p).take 2=[46,46] from h] at o;cases o)];exact q lv (by rw [ae s]) (by omega) (by rw [o];simp)
   ·rw [ae (show (S.drop p).take [(46:UInt8),46].length=[46,46] from eq_of_beq o)];refine ⟨_,rfl,?_⟩;unfold toP;rw [ab (by omega),ae ⟨s,o⟩];rfl
  ·rw [av hp];refine ⟨_,rfl,?_⟩;unfold toP;rw [ae ⟨s,by omega⟩];rfl
 ·rw [show (KF==1)=false from by simp [s],ah,zC];simp only [ob,u9,u8,u7,u6,u5,u4,u3,u2];exact q (mx 1 lv) (by rw [ab s]) (by simp [s]) (by simp [s])
noncomputable def toX (S:aa) (p:Nat) (KF:Int) (DF:TD) (lv:Int):(Nat×Nat)⊕(Int×TD×Int):=match toP S p KF DF lv with
 | .inl f=>.inl f
 | .inr (KT,DT,L,q)=>if q<S.length then .inl (q,5) else .inr (KT,DT,L)
noncomputable def lB (S:aa):(Nat×Nat)⊕(Int×TD×Int×TD×Int×TD×Int)⊕(Int×Bool×Bool×List TI):=
 if S.head?=some 91\/S.head?=some 123 then (match Gp S with | .inl f=>.inl f | .inr q=>.inr (.inr q))
 else if S.head?=some 47 then (match toX S 1 3 d0 0 with | .inl f=>.inl f | .inr (KT,DT,L)=>.inr (.inl (2,d0,3,d0,KT,DT,L)))
 else if dts S=true then (if (S.drop 2).head?=some 47 then (match toX S 3 2 d0 0 with | .inl f=>.inl f | .inr (KT,DT,L)=>.inr (.inl (2,d0,2,d0,KT,DT,L))) else .inl (2,5))
 else match eT S 0 with
  | .inl f=>.inl (f.1,f.2.1)
  | .inr r=>if (S.drop (enR r)).head?=some 47 then (if exT (tdR r)=true then (match toX S (enR r+1) 1 (tdR r) (lvR S 0 r) with | .inl f=>.inl f | .inr (KT,DT,L)=>.inr (.inl (2,d0,1,tdR r,KT,DT,L))) else .inl (plR r,11))
   else if enR r<S.length then .inl (enR r,5) else .inr (.inl (1,tdR r,0,d0,0,d0,lvR S 0 r))
def VV:(Nat×Nat)⊕(Int×TD×Int×TD×Int×TD×Int)⊕(Int×Bool×Bool×List TI)->(Int×TD×Int×TD×Int×TD×Bool×Bool×Int×Int×Int×List TI)⊕(Int×TD×Int×TD×Int×TD×Nat×Nat×Bool×Bool×Int×Int×Int×List TI)
 | .inl f=>.inl (0,d0,0,d0,0,d0,false,false,0,(f.1:Int),(f.2:Int),[])
 | .inr (.inl (K,D,KF,DF,KT,DT,L))=>.inl (K,D,KF,DF,KT,DT,false,false,L,0,0,[])
 | .inr (.inr (K,e,l,I))=>.inr (K,d0,0,d0,0,d0,I.length,I.length,e,l,2,0,0,I)
end Go.Sh
