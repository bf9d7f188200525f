
/- Plain proofs, kept as far as they are needed here (printed by prune.py).
   Conditions: none. -/
import Derived.Test.YthemneooekobkabGreatDoorLawQzb
set_option linter.unusedVariables false
set_option linter.unusedSimpArgs false
set_option maxRecDepth 100000
namespace Go.Sh
open Go.Abs
def Gk (g l:Bool) (dg:aa) (x q:Int) (m d:aa) (k0 k1 k2:Int):Bool:=
 (((g==false)&&((l==false)&&((dg==([]:aa))&&((x==0)&&((q==0)&&true)))))&&((m==([]:aa))&&((d==([]:aa))&&(((k0==0)&&((k1==0)&&((k2==0)&&true)))&&true))))
noncomputable def chkB (K:Int) (g l:Bool) (dg:aa) (x q:Int) (m d:aa) (k0 k1 k2:Int):Int:=
 if K=1 then (if chkF g l dg x q m d k0 k1 k2=0 then (if exD dg m d q=true then 0 else 11) else chkF g l dg x q m d k0 k1 k2) else if K=2\/K=3 then (if Gk g l dg x q m d k0 k1 k2=true then 0 else 5) else 18
def Jb (a d c b lo hi:Int):Int:=if a≠0 then a else if d≠0 then d else if c≠1/\b≠1 then 11 else if c≠1\/b≠1 then 0 else if lo>hi then 11 else 0
section
variable {K:Int} {g l:Bool} {dg:List UInt8} {x q:Int} {m d:List UInt8} {k0 k1 k2:Int} (hml:m.length<=18) (hdl:dg.length<=100) (hd18:d.length<=18) (h0:0<=k0) (h1:0<=k1) (h2:0<=k2)
include hml hdl hd18 h0 h1 h2
theorem wu:gZ 20000000 K g l dg x q m d k0 k1 k2=some (chkB K g l dg x q m d k0 k1 k2):=by
 unfold gZ chkB;rw [wC hml hdl h0 h1 h2,GX 20000000 g l dg x q m d k0 k1 k2 (by omega) (by omega) (by omega)];simp only [ob];by_cases a:K=1
 ·subst a;rw [ae rfl];simp only [uG,ah];by_cases hc:chkF g l dg x q m d k0 k1 k2=0
  ·rw [ae hc,hc];by_cases c:exD dg m d q=true
   ·rw [ae c,c];rfl
   ·rw [ab c];rw [GV] at c;rw [c];rfl
  ·rw [ab hc,bne0 hc];rfl
 ·rw [ab a,aK.2 a];simp only [af];have f:(!(((g==false)&&((l==false)&&((dg==([]:aa))&&((x==0)&&((q==0)&&true)))))&&((m==([]:aa))&&((d==([]:aa))&&(((k0==0)&&((k1==0)&&((k2==0)&&true)))&&true)))))=!(Gk g l dg x q m d k0 k1 k2):=rfl;rw [f];by_cases e:K=2
  ·subst e;rw [ae (.inl rfl)];cases Gk g l dg x q m d k0 k1 k2<;>rfl
  ·rw [aK.2 e];by_cases b:K=3
   ·subst b;rw [ae (.inr rfl)];cases Gk g l dg x q m d k0 k1 k2<;>rfl
   ·rw [aK.2 b,ab (by omega)];rfl
theorem xL:eY 20000000 K g l dg x q m d k0 k1 k2=some (chkB K g l dg x q m d k0 k1 k2):=by
 unfold eY chkB;rw [wX hdl h0 h1 h2,Dj 20000000 g l dg x q m d k0 k1 k2 (by omega) (by omega) (by omega) (by omega)];simp only [ob];by_cases a:K=1
 ·subst a;rw [ae rfl];simp only [uG,ah];by_cases hc:chkF g l dg x q m d k0 k1 k2=0
  ·rw [ae hc,hc];by_cases e:exD dg m d q=true
   ·rw [ae e,ae e];rfl
   ·rw [ab e,ab e];rfl
  ·rw [ab hc,aK.2 hc];rfl
 ·rw [ab a,aK.2 a];simp only [af];have f:(!(((g==false)&&((l==false)&&((dg==([]:aa))&&((x==0)&&((q==0)&&true)))))&&((m==([]:aa))&&((d==([]:aa))&&(((k0==0)&&((k1==0)&&((k2==0)&&true)))&&true)))))=!(Gk g l dg x q m d k0 k1 k2):=rfl;rw [f];by_cases c:K=2
  ·subst c;rw [ae (.inl rfl)];cases Gk g l dg x q m d k0 k1 k2<;>rfl
  ·rw [aK.2 c];by_cases b:K=3
   ·subst b;rw [ae (.inr rfl)];cases Gk g l dg x q m d k0 k1 k2<;>rfl
   ·rw [aK.2 b,ab (by omega)];rfl
theorem Sv:lC 20000000 K g l dg x q m d k0 k1 k2=some (if chkB K g l dg x q m d k0 k1 k2=0 then (if K=2 then [46,46] else if K=3 then [] else qL g l dg x q m d k0.toNat k1.toNat k2.toNat,0) else ([],chkB K g l dg x q m d k0 k1 k2)):=by
 unfold lC;rw [wu hml hdl hd18 h0 h1 h2];simp only [ob];by_cases hc:chkB K g l dg x q m d k0 k1 k2=0
 ·rw [ae hc,hc];simp only [eC,af];by_cases a:K=2
  ·subst a;rfl
  ·rw [aK.2 a,ab a];by_cases b:K=3
   ·subst b;rfl
   ·rw [aK.2 b,ab b];have k1':K=1:=by
     unfold chkB at hc;by_cases h:K=1
     ·exact h
     ·rw [ab h,ab (by omega)] at hc;cases hc
    have e:chkF g l dg x q m d k0 k1 k2=0:=by
     unfold chkB at hc;rw [ae k1'] at hc;by_cases h:chkF g l dg x q m d k0 k1 k2=0
     ·exact h
     ·rw [ab h] at hc;exact absurd hc h
    have c:dh 20000000 g l dg x q m d k0 k1 k2=_:=Ia 19999700 g l dg x q m d k0 k1 k2 hml hdl h0 h1 h2;rw [c,ae (pB e)];rfl
 ·rw [ab hc,bne0 hc];rfl
theorem vV (hc:chkB K g l dg x q m d k0 k1 k2=0) (b:K=1):chkF g l dg x q m d k0 k1 k2=0/\exD dg m d q=true:=by
 have c:=And.intro hml (And.intro hdl (And.intro hd18 (And.intro h0 (And.intro h1 h2))));unfold chkB at hc;rw [ae b] at hc;by_cases h:chkF g l dg x q m d k0 k1 k2=0
 ·rw [ae h] at hc;by_cases a:exD dg m d q=true
  ·exact ⟨h,a⟩
  ·rw [ab a] at hc;cases hc
 ·rw [ab h] at hc;exact absurd hc h
end
theorem XJ (n:Nat) (a b:Int):jA n a b=some (if a<b then -1 else if a>b then 1 else 0):=by
 unfold jA kN;simp only [ob,eC,af];by_cases h:a<b
 ·rw [am h,ae h];rfl
 ·rw [ar h,ab h];by_cases c:a>b
  ·rw [am c,ae c];rfl
  ·rw [ar c,ab c];rfl
theorem HN (a b:Int):∃r,kr 20000000 0 a 0 b=some r/\decide (r>0)=decide (a>b):=by
 have f:mH 20000000 0 0=some 0:=rfl;have o1:oZ 20000000 [0,-1]=some (-1):=by kernel_rfl
 have e:oZ 20000000 [0,1]=some 1:=by kernel_rfl
 have d:oZ 20000000 [0,0]=some 0:=by kernel_rfl
 unfold kr;rw [f,XJ];simp only [ob];by_cases h:a<b
 ·rw [ae h,o1];exact ⟨_,rfl,by rw [ar (show ¬a>b by omega)];rfl⟩
 ·rw [ab h];by_cases c:a>b
  ·rw [ae c,e];exact ⟨_,rfl,by rw [am c];rfl⟩
  ·rw [ab c,d];exact ⟨_,rfl,by rw [ar c];rfl⟩
theorem bne1 {K:Int} (h:K≠1):(K != 1)=true:=by simp [h]
section
variable {K:Int} {g l:Bool} {dg:List UInt8} {x q:Int} {m d:List UInt8} {k0 k1 k2:Int} {K':Int} {g' l':Bool} {dg':List UInt8} {x' q':Int} {m' d':List UInt8} {p0 p1 p2:Int} (hml:m.length<=18) (hdl:dg.length<=100) (hd18:d.length<=18) (h0:0<=k0) (h1:0<=k1) (h2:0<=k2) (hml':m'.length<=18) (hdl':dg'.length<=100) (hd18':d'.length<=18) (h0':0<=p0) (h1':0<=p1) (h2':0<=p2)
include hml hdl hd18 h0 h1 h2 hml' hdl' hd18' h0' h1' h2'
theorem Ul:ip 20000000 K g l dg x q m d k0 k1 k2 K' g' l' dg' x' q' m' d' p0 p1 p2=some (Jb (chkB K g l dg x q m d k0 k1 k2) (chkB K' g' l' dg' x' q' m' d' p0 p1 p2) K K' (pP g dg x m d).1 (pP g' dg' x' m' d').2):=by
 unfold ip Jb;rw [wu hml hdl hd18 h0 h1 h2,wu hml' hdl' hd18' h0' h1' h2'];simp only [ob];by_cases c:chkB K g l dg x q m d k0 k1 k2=0
 ·rw [ab (by omega),c];by_cases b:chkB K' g' l' dg' x' q' m' d' p0 p1 p2=0
  ·rw [ab (by omega),b];simp only [eC,af];by_cases e:K=1
   ·rw [show (K != 1)=false by rw [e];rfl];simp only [af];by_cases a:K'=1
    ·rw [show (K' != 1)=false by rw [a];rfl,ab (by omega),ab (by omega)];simp only [af];obtain ⟨o,i⟩:=vV hml hdl hd18 h0 h1 h2 c e;obtain ⟨n,k⟩:=vV hml' hdl' hd18' h0' h1' h2' b a;rw [FR hml hdl hd18 h0 h1 h2,FR hml' hdl' hd18' h0' h1' h2',ae o,ae i,ae n,ae k];simp only [ob];obtain ⟨r,j,f⟩:=HN (pP g dg x m d).1 (pP g' dg' x' m' d').2;rw [j];simp only [f];by_cases h:(pP g dg x m d).1>(pP g' dg' x' m' d').2
     ·rw [am h,ae h];rfl
     ·rw [ar h,ab h];rfl
    ·rw [bne1 a,ab (by omega),ae (by omega)];rfl
   ·rw [bne1 e];by_cases a:K'=1
    ·rw [show (K' != 1)=false by rw [a];rfl,ab (by omega),ae (by omega)];rfl
    ·rw [bne1 a,ae (by omega)];rfl
  ·rw [ae b,bne0 b];rfl
 ·rw [ae c,bne0 c];rfl
theorem Px:gV 20000000 K g l dg x q m d k0 k1 k2 K' g' l' dg' x' q' m' d' p0 p1 p2=some (Jb (chkB K g l dg x q m d k0 k1 k2) (chkB K' g' l' dg' x' q' m' d' p0 p1 p2) K K' (pP g dg x m d).1 (pP g' dg' x' m' d').2):=by
 unfold gV Jb;rw [xL hml hdl hd18 h0 h1 h2,xL hml' hdl' hd18' h0' h1' h2'];simp only [ob];by_cases c:chkB K g l dg x q m d k0 k1 k2=0
 ·rw [ab (by omega),c];by_cases e:chkB K' g' l' dg' x' q' m' d' p0 p1 p2=0
  ·rw [ab (by omega),e];simp only [eC,af];by_cases b:K=1
   ·rw [show (K != 1)=false by rw [b];rfl,show (K==1)=true by rw [b];rfl];simp only [af,ah];by_cases a:K'=1
    ·rw [show (K'==1)=true by rw [a];rfl,ab (by omega),ab (by omega)];simp only [ah];obtain ⟨o,f⟩:=vV hml hdl hd18 h0 h1 h2 c b;obtain ⟨n,j⟩:=vV hml' hdl' hd18' h0' h1' h2' e a;obtain ⟨rfl,k⟩:=vY o f;obtain ⟨rfl,i⟩:=vY n j;rw [vp k hdl,vp i hdl'];simp only [ob];by_cases h:(pP g dg x m d).1>(pP g' dg' x' m' d').2
     ·rw [am h,ae h];rfl
     ·rw [ar h,ab h];rfl
    ·rw [aK.2 a,ab (by omega),ae (by omega)];rfl
   ·rw [bne1 b,aK.2 b];by_cases a:K'=1
    ·rw [show (K' != 1)=false by rw [a];rfl,ab (by omega),ae (by omega)];rfl
    ·rw [bne1 a,ae (by omega)];rfl
  ·rw [ae e,bne0 e];rfl
 ·rw [ae c,bne0 c];rfl
end
def plR (r:DR):Nat:=r.2.2.2.2.2.2.2.2.1.1
def enR (r:DR):Nat:=r.2.2.2.2.2.2.2.2.2
theorem IZ {l:aa} {b:UInt8} (h:l.take 2=[b,b]):∃r,l=b::b::r:=by
 match l,h with
 | a::c::r,h=>simp at h;exact ⟨r,by rw [h.1,h.2]⟩
theorem GO {S:aa} {a:Nat} (h:a<=S.length) {r:DR} (b:fC S a=.inr r):rD S a=.inr r/\chkR r=0:=by
 unfold fC at b;cases c:rD S a with
 | inl k=>rw [c] at b;cases b
 | inr d=>
  rw [c] at b;simp only [] at b;by_cases hc:chkR d=0
  ·rw [ae hc] at b;obtain rfl:=Sum.inr.inj b;exact ⟨rfl,hc⟩
  ·rw [ab hc] at b;cases b
theorem sw (c:UInt8) (k:Nat) (a:k<256):(((c.toNat:Nat):Int)==(k:Int))=decide (c=UInt8.ofNat k):=by
 rw [uy,bu,decide_eq_true_iff];constructor
 ·intro h;apply gG.1;have:c.toNat=k:=by omega
  rw [this];simp;omega
 ·rintro rfl;simp;omega
theorem ym {S:aa} {a:Nat} (h:a<=S.length) {k E p:Nat} (b:fC S a=.inl (k,E,p)):E≠0:=by
 unfold fC at b;cases c:rD S a with
 | inl k'=>rw [c] at b;simp only [] at b;have:=Sum.inl.inj b;simp at this;omega
 | inr d=>
  rw [c] at b;simp only [] at b;by_cases hc:chkR d=0
  ·rw [ae hc] at b;cases b
  ·rw [ab hc] at b;have:=Sum.inl.inj b;simp at this;omega
def smT (x:TD):Prop:=x.2.2.2.2.2.1.length<=18/\x.2.2.1.length<=100/\x.2.2.2.2.2.2.1.length<=18/\0<=x.2.2.2.2.2.2.2.1/\0<=x.2.2.2.2.2.2.2.2.1/\0<=x.2.2.2.2.2.2.2.2.2
noncomputable def cF (x:TD):Int:=chkF x.1 x.2.1 x.2.2.1 x.2.2.2.1 x.2.2.2.2.1 x.2.2.2.2.2.1 x.2.2.2.2.2.2.1 x.2.2.2.2.2.2.2.1 x.2.2.2.2.2.2.2.2.1 x.2.2.2.2.2.2.2.2.2
def exT (x:TD):Bool:=exD x.2.2.1 x.2.2.2.2.2.1 x.2.2.2.2.2.2.1 x.2.2.2.2.1
def dyT (x:TD):Int×Int:=pP x.1 x.2.2.1 x.2.2.2.1 x.2.2.2.2.2.1 x.2.2.2.2.2.2.1
def seT (x:TD):Int:=sea x.2.2.2.2.2.1
def coT (x:TD):Nat:=co x.2.2.2.2.2.1 x.2.2.2.2.2.2.1
noncomputable def plT (x:TD):Bool:=decide (cF x=0)&&(exT x&&!decide (0<seT x))
theorem oG:smT d0:=by unfold smT;simp
theorem fcT {x:TD} (h:smT x):ap10 (bD 20000000) x=some (cF x):=wC h.1 h.2.1 h.2.2.2.1 h.2.2.2.2.1 h.2.2.2.2.2
theorem rcT {x:TD} (h:smT x):ap10 (bK 20000000) x=some (cF x):=wX h.2.1 h.2.2.2.1 h.2.2.2.2.1 h.2.2.2.2.2
theorem reT {x:TD} (h:smT x):ap10 (aU 20000000) x=some (if exT x then 1 else 0):=by
 obtain ⟨a,b,c,_⟩:=h;exact Dj 20000000 _ _ _ _ _ _ _ _ _ _ (by omega) (by omega) (by omega) (by omega)
theorem rsT (x:TD):ap10 (aN 20000000) x=some (seT x):=nE 20000000 (by omega) _ _ _ _ _ _ _ _ _ _
theorem rcoT (x:TD):ap10 (aq 20000000) x=some ((coT x:Nat):Int):=gF 20000000 _ _ _ _ _ _ _ _ _ _
theorem fpT {x:TD} (h:smT x):ap10 (bp 20000000) x=some (if x.2.2.2.2.2.2.1=[] then (if 0<seT x then 0 else if x.2.2.2.2.2.1=[] then 1 else 2) else 3):=Oj 20000000 _ _ _ _ _ _ _ _ _ _ h.1
theorem fmT {x:TD} (h:smT x):ap10 (dV 20000000) x=some (hasX x.2.2.1||(hasX x.2.2.2.2.2.1||hasX x.2.2.2.2.2.2.1)):=by
 obtain ⟨a,b,c,_⟩:=h;exact D6 20000000 _ _ _ _ _ _ _ _ _ _ (by omega) (by omega) (by omega)
theorem fdT {x:TD} (h:smT x):ap10 (gB 20000000) x=some (if cF x=0 then (if exT x=true then (0,(dyT x).1,0,(dyT x).2,0) else (0,0,0,0,1)) else (0,0,0,0,cF x)):=FR h.1 h.2.1 h.2.2.1 h.2.2.2.1 h.2.2.2.2.1 h.2.2.2.2.2
theorem V3 {x:TD} (hc:cF x=0) (a:exT x=true):x.2.2.2.2.1=0/\Exact x.1 x.2.1 x.2.2.1 x.2.2.2.1 x.2.2.2.2.2.1 x.2.2.2.2.2.2.1:=vY hc a
theorem rdT {x:TD} (h:smT x) (hc:cF x=0) (a:exT x=true):ap10 (bq 20000000) x=some (dyT x):=by
 obtain ⟨b,E⟩:=V3 hc a;have:=vp (k0:=x.2.2.2.2.2.2.2.1) (k1:=x.2.2.2.2.2.2.2.2.1) (k2:=x.2.2.2.2.2.2.2.2.2) E h.2.1;rw [<-b] at this;exact this
theorem wT {x:TD} (hc:cF x=0):(x.2.2.2.2.2.1=[]\/x.2.2.2.2.2.1.length=2)/\(x.2.2.2.2.2.2.1=[]\/x.2.2.2.2.2.2.1.length=2)/\(x.2.2.2.2.2.2.1≠[]->x.2.2.2.2.2.1≠[]/\seT x=0):=by
 obtain ⟨_,a,b,_,c⟩:=pm (pB hc);exact ⟨a,b,c⟩
theorem od {x y:TD}:eqD x y=true↔x=y:=by
 obtain ⟨a1,a2,i,k,l,c,f,d,o,a⟩:=x;obtain ⟨b1,b2,h,n,p,j,e,m,g,b⟩:=y;simp [and_assoc]
theorem H8 {x:TD} (h:smT x):n6 20000000 x=some (exT x):=by
 unfold n6;rw [fmT h];simp only [ob,exT,exD];cases (hasX x.2.2.1||(hasX x.2.2.2.2.2.1||hasX x.2.2.2.2.2.2.1))<;>rfl
theorem Bd {x:TD} (h:smT x):lK 20000000 x=some (plT x):=by
 unfold lK plT;rw [fcT h,H8 h,fpT h];simp only [ob];by_cases hc:cF x=0
 ·rw [hc];cases d:exT x
  ·rfl
  ·show some ((if _ then _ else _) != (0:Int))=some (true&&(true&&!decide (0<seT x)));obtain ⟨_,_,c⟩:=wT hc;by_cases a:x.2.2.2.2.2.2.1=[]
   ·rw [ae a];by_cases hs:0<seT x
    ·rw [ae hs,am hs];rfl
    ·rw [ab hs,ar hs];by_cases b:x.2.2.2.2.2.1=[]
     ·rw [ae b];rfl
     ·rw [ab b];rfl
   ·rw [ab a,(c a).2];rfl
 ·rw [ar hc,show (cF x==0)=false from by simp [hc]];rfl
theorem tH {x:TD} (h:smT x):bm 20000000 x=some (if plT x then 1 else 0):=by
 unfold bm plT;rw [rcT h,reT h,rsT x];simp only [ob];by_cases hc:cF x=0
 ·rw [hc];cases b:exT x
  ·rfl
  ·by_cases hs:0<seT x
   ·have a:decide (seT x>0)=true:=am hs;rw [am hs];rfl
   ·have a:decide (seT x>0)=false:=ar hs;rw [ar hs];rfl
 ·rw [ar hc,show (cF x != 0)=true from by simp [hc]];rfl
theorem AP {x:TD}:plT x=true↔cF x=0/\exT x=true/\¬0<seT x:=by
 unfold plT;simp [and_assoc]
noncomputable def ordB (x y:TD):Bool:=(plT x&&plT y)&&(decide (coT x=coT y)&&decide ((dyT x).1<=(dyT y).1))
theorem zi {x:TD} (hc:cF x=0) (hs:¬0<seT x):(if x.2.2.2.2.2.2.1=[] then (if 0<seT x then (0:Int) else if x.2.2.2.2.2.1=[] then 1 else 2) else 3)=((coT x:Nat):Int):=by
 obtain ⟨_,_,c⟩:=wT hc;unfold coT co;by_cases a:x.2.2.2.2.2.2.1=[]
 ·rw [ae a,ab hs];by_cases b:x.2.2.2.2.2.1=[]
  ·simp [b,a]
  ·simp [b,a]
 ·have b:=(c a).1;simp [a,b]
theorem Ja {x y:TD} (hx:smT x) (hy:smT y):nr 20000000 x y=some (ordB x y):=by
 unfold nr ordB;rw [Bd hx,Bd hy];cases h:plT x
 ·rfl
 cases k:plT y
 ·rfl
 obtain ⟨d,l,f⟩:=AP.1 h;obtain ⟨e,i,j⟩:=AP.1 k;rw [fpT hx,fpT hy,fdT hx,fdT hy,zi d f,zi e j,ae d,ae e,ae l,ae i];simp only [ob,u5,u4,u3,u2,cZ,af,Bool.and_self,mN];by_cases a:coT x=coT y
 ·rw [a,am rfl];obtain ⟨r,m,g⟩:=HN (dyT x).1 (dyT y).1;simp only [eC,af,m,mN];refine cK some ?_;have:decide (r<=0)=!decide (r>0):=by
   by_cases b:r<=0
   ·rw [am b,ar (by omega)];rfl
   ·rw [ar b,am (by omega)];rfl
  rw [this,g];by_cases c:(dyT x).1<=(dyT y).1
  ·rw [am c,ar (by omega)];rfl
  ·rw [ar c,am (by omega)];rfl
 ·have:(((coT x:Nat):Int) != ((coT y:Nat):Int))=true:=by simp;omega
  rw [this,ar a];rfl
noncomputable def itE (x:TD) (r:Bool) (y:TD) (all:Bool):Int:=
 if cF x≠0 then cF x else if r=true/\cF y≠0 then cF y else if r=false/\eqD y d0=false then 5 else if r=true/\ordB x y=false then 10 else if all=true/\exT x=false then 10 else 0
theorem Dz {x y:TD} (r:Bool) (hx:smT x) (hy:smT y) (K:Int) (hc:cF x=0) (a:¬(r=true/\cF y≠0)):eH 20000000 5 10 10 x r y K=some (itE x r y (K==4)):=by
 unfold eH rn qU rq itE;rw [Ja hx hy,H8 hx,ab (by simpa using hc),ab a];cases r
 ·generalize eqD y d0=z;cases z
  ·rfl
  ·cases (K==4)
   ·rfl
   ·cases exT x<;>rfl
 ·simp only [ob,cZ,af,ah,reduceCtorEq,xw,aC,jG];cases ordB x y
  ·rfl
  ·simp only [cZ,af,Bool.true_eq_false,aC];cases (K==4)
   ·rfl
   ·cases exT x<;>rfl
theorem Gp {x y:TD} (r:Bool) (hx:smT x) (hy:smT y) (K:Int):fY 20000000 x r y K=some (if K=3\/K=4 then itE x r y (K==4) else 18):=by
 have b:(ob (ap10 (bD 20000000) x) λe=>(cond (e != 0) (some e) (cond r (ob (ap10 (bD 20000000) y) λc=>(cond (c != 0) (some c) (ob (eH 20000000 5 10 10 x r y K) λg=>(some g)))) (ob (eH 20000000 5 10 10 x r y K) λh=>(some h)))))=some (itE x r y (K==4)):=by
  rw [fcT hx];simp only [ob];by_cases hc:cF x=0
  ·rw [show (cF x != 0)=false from by simp [hc],af];cases r
   ·rw [Dz false hx hy K hc (by simp)];rfl
   ·rw [ah,fcT hy];simp only;by_cases a:cF y=0
    ·rw [show (cF y != 0)=false from by simp [a],af,Dz true hx hy K hc (by simp [a])]
    ·rw [show (cF y != 0)=true from by simp [a],ah];unfold itE;rw [ab (by simpa using hc),ae ⟨rfl,a⟩]
  ·rw [show (cF x != 0)=true from by simp [hc],ah];unfold itE;rw [ae hc]
 unfold fY;by_cases f:K=3
 ·subst f;exact b.trans (by rfl)
 ·rw [show (K != 3)=true from by simp [f],ah];by_cases d:K=4
  ·subst d;exact b.trans (by rfl)
  ·rw [show (K != 4)=true from by simp [d],ah,ab (by omega)]
theorem VT {x y:TD} {r all:Bool} (h:cF x≠0):itE x r y all=cF x:=ae h
theorem Rb {x y:TD} {all:Bool} (hc:cF x=0) (h:cF y≠0):itE x true y all=cF y:=by
 unfold itE;rw [ab (λh=>h hc),ae ⟨rfl,h⟩]
theorem Wq {x y:TD} {all:Bool} (hc:cF x=0):itE x false y all=if eqD y d0=false then 5 else if all=true/\exT x=false then 10 else 0:=by
 have b:(false=true/\cF y≠0)↔False:=by simp
 have a:(false=true/\ordB x y=false)↔False:=by simp
 have c:(false=false/\eqD y d0=false)↔eqD y d0=false:=by simp
 unfold itE;rw [ab (λh=>h hc)];simp only [b,a,aC,jG]
theorem Xb {x y:TD} {all:Bool} (hc:cF x=0) (hy:cF y=0):itE x true y all=if ordB x y=false then 10 else if all=true/\exT x=false then 10 else 0:=by
 have b:(true=true/\ordB x y=false)↔ordB x y=false:=by simp
 have a:(true=false/\eqD y d0=false)↔False:=by simp
 unfold itE;rw [ab (λh=>h hc),ab (λh=>h.2 hy)];simp only [a,aC,jG]
theorem WQ (a b:Bool):(IntKind.wrap .i64 ((if a then (1:Int) else 0)*(if b then (1:Int) else 0))==0)=!(a&&b):=by cases a<;>cases b<;>rfl
theorem JK {x y:TD} (r all:Bool) (hx:smT x) (hy:smT y):jt 20000000 x r y all=some (itE x r y all):=by
 have last:cond all (ob (ap10 (aU 20000000) x) λc=>(cond (c==0) (some 10) (some 0))) (some 0)=some (if all=true/\exT x=false then (10:Int) else 0):=by
  rw [reT hx];cases all
  ·rfl
  ·cases exT x<;>rfl
 unfold jt;simp only [last];simp only [rcT hx,rcT hy,tH hx,tH hy,rcoT,ob,WQ];by_cases hc:cF x=0
 ·rw [show (cF x != 0)=false from by simp [hc],af];cases r
  ·simp only [af,i7,ah];rw [Wq hc];generalize eqD y d0=z;cases z<;>rfl
  ·simp only [ah,cZ,af];by_cases a:cF y=0
   ·rw [show (cF y != 0)=false from by simp [a],af];rw [Xb hc a];unfold ordB;cases e:plT x
    ·simp
    cases i:plT y
    ·simp
    obtain ⟨g,j,k⟩:=AP.1 e;obtain ⟨f,h,l⟩:=AP.1 i;rw [rdT hx g j,rdT hy f h];simp only [u2,Bool.and_self,cZ,af,mN,jG];by_cases b:coT x=coT y
    ·rw [b,am rfl];simp only [eC,af,mN];by_cases d:(dyT x).1<=(dyT y).1
     ·rw [show decide ((dyT x).1>(dyT y).1)=false from ar (by omega),am d];simp
     ·rw [show decide ((dyT x).1>(dyT y).1)=true from am (by omega),ar d];simp
    ·have:(((coT x:Nat):Int) != ((coT y:Nat):Int))=true:=by simp;omega
     rw [this,ar b];simp
   ·rw [show (cF y != 0)=true from by simp [a],ah];rw [Rb hc a]
 ·rw [show (cF x != 0)=true from by simp [hc],ah];rw [VT hc]
def tu {A:Type} (f:Nat->A->Int):Nat->List A->Option (Nat×Int)
 | _,[]=>none
 | i,t::r=>if f i t≠0 then some (i,f i t) else tu f (i+1) r
theorem zk {A X Y:Type} {step:X->Option (X⊕Y)} {st:Nat->X} {L:List A} {f:Nat->A->Int} {yes:Nat->Int->Y} {no:Y}
  (e:∀i t,L[i]?=some t->step (st i)=some (if f i t≠0 then .inr (yes i (f i t)) else .inl (st (i+1)))) (c:step (st L.length)=some (.inr no)):
  ∀(r i:Nat),i+r=L.length->∀N,r<N->au step N (st i)=some (match tu f i (L.drop i) with | some p=>yes p.1 p.2 | none=>no):=by
 intro r
 induction r with
 | zero=>
  intro i hi N g;obtain ⟨N,rfl⟩:∃k,N=k+1:=⟨N - 1,by omega⟩;rw [au,show i=L.length by omega,c,sV];rfl
 | succ r ih=>
  intro i hi N g;obtain ⟨N,rfl⟩:∃k,N=k+1:=⟨N - 1,by omega⟩;have a:i<L.length:=by omega
  have d:L[i]?=some L[i]:=bh a;rw [au,e i _ d,pG a,tu];by_cases b:f i L[i]≠0
  ·rw [ae b,ae b]
  ·rw [ab b,ab b];exact ih (i+1) (by omega) N (by omega)
abbrev rT (t:TI):Bool:=(d8 t).2.2.1
abbrev iT (t:TI):TD:=(d8 t).2.2.2
def smI (t:TI):Prop:=smT (iF t)/\smT (iT t)
noncomputable def itI (t:TI) (all:Bool):Int:=itE (iF t) (rT t) (iT t) all
noncomputable def endB (t:TI):Bool:=!rT t&&plT (iF t)
noncomputable def errI (K:Int) (e l:Bool) (n i:Nat) (t:TI):Int:=
 if itI t (K==4)≠0 then itI t (K==4) else if (e&&decide (i=0))&&!endB t||((l&&decide (i+1=n))&&!endB t||(e&&(l&&decide (n=1)))) then 10 else 0
noncomputable def xE (K:Int) (e l:Bool) (L:List TI):Int×Int:=match tu (errI K e l L.length) 0 L with
 | some p=>((p.1:Int),p.2)
 | none=>(0,0)
theorem qx {i:Nat} (h:i<9223372036854775807):w64 ((i:Int)+1)=((i+1:Nat):Int):=by
 show IntKind.wrap .i64 _=_;rw [wrap_i64 _ (by omega) (by omega)];omega
theorem Fj {i:Nat} (a:0<i) (h:i<9223372036854775807):w64 ((i:Int) - 1)=((i - 1:Nat):Int):=by
 show IntKind.wrap .i64 _=_;rw [wrap_i64 _ (by omega) (by omega)];omega
theorem natB (a b:Nat):(((a:Nat):Int)==((b:Nat):Int))=decide (a=b):=by
 by_cases h:a=b
 ·subst h;simp
 ·rw [ar h];simp;omega
theorem NL (a:Nat):(((a:Nat):Int)==0)=decide (a=0):=natB a 0
theorem Vx {x y:TD} (r:Bool) (hx:smT x):oa 20000000 x r y=some (!r&&plT x):=by
 unfold oa;rw [Bd hx];cases r<;>rfl
theorem LG {K:Int} (j:K=3\/K=4) {e l:Bool} {L:List TI} {i:Nat} {t:TI} (hi:L[i]?=some t) (hs:smI t) (o:L.length<=1000000) (D:TD) (KF:Int) (DF:TD) (KT:Int) (DT:TD):
  gm 20000000 (itI t (K==4)) 10 10 10 (iF t) (rT t) (iT t) K D KF DF KT DT e l (i:Int) (w64 (len L - 1)) L=some (errI K e l L.length i t):=by
 have m:i<L.length:=(oV.1 hi).1;have d:w64 (len L - 1)=((L.length - 1:Nat):Int):=Fj (by omega) (by omega);have g:fY 20000000 (iF t) (rT t) (iT t) K=some (itI t (K==4)):=by
  rw [Gp _ hs.1 hs.2,ae j];rfl
 unfold gm qg pX qm qt errI;rw [g,d];simp only [Vx (rT t) hs.1,ob,NL,natB];have n:decide (i=L.length - 1)=decide (i+1=L.length):=by congr 1;exact propext (by omega)
 have k:decide (L.length - 1=0)=decide (L.length=1):=by congr 1;exact propext (by omega)
 rw [n,k];show cond (itI t (K==4) != 0) _ _=_;by_cases f:itI t (K==4)=0
 ·rw [ab (λh=>h f),show (itI t (K==4) != 0)=false from by simp [f],af];show _=some (if ((e&&decide (i=0))&&!endB t||((l&&decide (i+1=L.length))&&!endB t||(e&&(l&&decide (L.length=1)))))=true then 10 else 0);unfold endB;generalize (!rT t&&plT (iF t))=z;generalize decide (i=0)=a;generalize decide (i+1=L.length)=b;generalize decide (L.length=1)=c;cases e<;>cases l<;>cases z<;>cases a<;>cases b<;>cases c<;>rfl
 ·rw [ae f,show (itI t (K==4) != 0)=true from by simp [f],ah]
theorem OE {K:Int} (g:K=3\/K=4) {e l:Bool} {L:List TI} (hs:∀t∈L,smI t) (j:L.length<=1000000) (D:TD) (KF:Int) (DF:TD) (KT:Int) (DT:TD):
  lG 20000000 K D KF DF KT DT e l L=some (xE K e l L):=by
 have:=zk (step:=fD 20000000) (st:=λi=>(len L,(i:Int),L,K,D,KF,DF,KT,DT,e,l,w64 (len L - 1))) (L:=L) (f:=errI K e l L.length) (yes:=λi q=>.inl ((i:Int),q)) (no:=.inr ())
  (λi t hi=>by
   have d:i<L.length:=(oV.1 hi).1;have a:=hs t (fS hi);have c:fY 20000000 (iF t) (rT t) (iT t) K=some (itI t (K==4)):=by
    rw [Gp _ a.1 a.2,ae g];rfl
   unfold fD;simp only [u12,u11,u10,u9,u8,u7,u6,u5,u4,u3,u2];rw [am (show (i:Int)<len L by unfold len;omega),dY d];simp only [ah,ob,hi];rw [show fY 20000000 (iF t) (d8 t).2.2.1 (d8 t).2.2.2 K=some (itI t (K==4)) from c];simp only;rw [show gm 20000000 (itI t (K==4)) 10 10 10 (iF t) (d8 t).2.2.1 (d8 t).2.2.2 K D KF DF KT DT e l (i:Int) (w64 (len L - 1)) L=some (errI K e l L.length i t) from LG g hi a j D KF DF KT DT];simp only;rw [qx (by omega)];by_cases b:errI K e l L.length i t=0
   ·rw [ab (λh=>h b),show (errI K e l L.length i t != 0)=false from by simp [b]];rfl
   ·rw [ae b,show (errI K e l L.length i t != 0)=true from by simp [b]];rfl)
  (by
   unfold fD;simp only [u12,u11,u10,u9,u8,u7,u6,u5,u4,u3,u2];rw [ar (show ¬((L.length:Nat):Int)<len L by unfold len;omega)];rfl)
  L.length 0 (by omega) 20000000 (by omega)
 unfold lG xE;rw [cw] at this;show obs (au (fD 20000000) 20000000 (len L,((0:Nat):Int),L,K,D,KF,DF,KT,DT,e,l,w64 (len L - 1))) _ _=_;rw [this];cases tu (errI K e l L.length) 0 L<;>rfl
noncomputable def vO (K:Int) (x:TD):Int:=chkB K x.1 x.2.1 x.2.2.1 x.2.2.2.1 x.2.2.2.2.1 x.2.2.2.2.2.1 x.2.2.2.2.2.2.1 x.2.2.2.2.2.2.2.1 x.2.2.2.2.2.2.2.2.1 x.2.2.2.2.2.2.2.2.2
noncomputable def sC (K:Int) (x:TD) (a:Int) (y:TD):Int:=Jb (vO K x) (vO a y) K a (dyT x).1 (dyT y).2
theorem KP {x y:TD} (hx:smT x) (hy:smT y) (K a:Int):ap10 (ap10 (ip 20000000 K) x a) y=some (sC K x a y):=
 Ul hx.1 hx.2.1 hx.2.2.1 hx.2.2.2.1 hx.2.2.2.2.1 hx.2.2.2.2.2 hy.1 hy.2.1 hy.2.2.1 hy.2.2.2.1 hy.2.2.2.2.1 hy.2.2.2.2.2
theorem Uz {x y:TD} (hx:smT x) (hy:smT y) (K a:Int):ap10 (ap10 (gV 20000000 K) x a) y=some (sC K x a y):=
 Px hx.1 hx.2.1 hx.2.2.1 hx.2.2.2.1 hx.2.2.2.2.1 hx.2.2.2.2.2 hy.1 hy.2.1 hy.2.2.1 hy.2.2.2.1 hy.2.2.2.2.1 hy.2.2.2.2.2
def unuB (K:Int) (D:TD) (KF:Int) (DF:TD) (KT:Int) (DT:TD) (e l:Bool) (n:Nat):Bool:=
 !(K==1||eqD D d0)||(!(K==2||((KF==0)&&((eqD DF d0)&&true))&&((KT==0)&&((eqD DT d0)&&true)))||!(K==3||(K==4||(decide (n=0)&&(!e&&!l)))))
theorem LV (n:Nat) (K:Int) (D:TD) (KF:Int) (DF:TD) (KT:Int) (DT:TD) (e l:Bool) (L:List TI):
  mg n K D KF DF KT DT e l L=some (unuB K D KF DF KT DT e l L.length):=by
 unfold mg unuB;rw [show (len L==0)=decide (L.length=0) from NL _];generalize eqD D d0=a;generalize ((KF==0)&&((eqD DF d0)&&true))=z1;generalize ((KT==0)&&((eqD DT d0)&&true))=z2;generalize decide (L.length=0)=c;generalize (K==1)=k1;generalize (K==2)=k2;generalize (K==3)=b;generalize (K==4)=k4;revert a z1 z2 c k1 k2 b k4 e l;decide +kernel
noncomputable def dU (K:Int) (D:TD) (KF:Int) (DF:TD) (KT:Int) (DT:TD) (e l:Bool) (L:List TI):Int×Int:=
 if K<1\/4<K then (0,18) else if unuB K D KF DF KT DT e l L.length=true then (0,5) else if K=1 then (0,cF D) else if K=2 then (0,sC KF DF KT DT) else if L.length=0 then (0,17) else if 256<L.length then (0,3) else xE K e l L
def smE (D DF DT:TD) (L:List TI):Prop:=smT D/\smT DF/\smT DT/\∀t∈L,smI t
theorem Ix {K:Int} {D:TD} {KF:Int} {DF:TD} {KT:Int} {DT:TD} {e l:Bool} {L:List TI} (h:smE D DF DT L):
  lP 20000000 K D KF DF KT DT e l L=some (dU K D KF DF KT DT e l L):=by
 obtain ⟨g,i,j,f⟩:=h;unfold lP dU;by_cases b:K<1
 ·rw [am b,ae (.inl b)];rfl
 by_cases c:4<K
 ·rw [ar b,show decide (K>4)=true from am c,ae (.inr c)];rfl
 rw [ar b,show decide (K>4)=false from ar c,ab (by omega),LV];simp only [af,ob];cases unuB K D KF DF KT DT e l L.length
 ·simp only [af,bw,aC];by_cases k1:K=1
  ·rw [ae k1,show (K==1)=true from by simp [k1],fcT g];rfl
  by_cases k2:K=2
  ·rw [ab k1,ae k2,show (K==1)=false from by simp [k1],show (K==2)=true from by simp [k2],KP i j];rfl
  rw [ab k1,ab k2,show (K==1)=false from by simp [k1],show (K==2)=false from by simp [k2]];simp only [af];rw [show (len L==0)=decide (L.length=0) from NL _];by_cases a:L.length=0
  ·rw [am a,ae a];rfl
  rw [ar a,ab a];by_cases d:256<L.length
  ·rw [show decide (len L>256)=true from am (by show (256:Int)<((L.length:Nat):Int);omega),ae d];rfl
  rw [show decide (len L>256)=false from ar (by show ¬(256:Int)<((L.length:Nat):Int);omega),ab d,OE (by omega) f (by omega)];rfl
 ·rfl
theorem Tv (n:Nat) (i:Int) (L:List TI) (K:Int) (D:TD) (KF:Int) (DF:TD) (KT:Int) (DT:TD) (e l:Bool) (x:TD) (r:Bool) (y:TD):
  gL n i L K D KF DF KT DT e l x r y=some (i,e&&(i==0),l&&(i==w64 (len L - 1)),L,K,D,KF,DF,KT,DT,e,l,x,r,y):=by
 unfold gL;cases e<;>cases l<;>rfl
theorem Tc (i:Int) (a b:Bool) (L:List TI) (K:Int) (D:TD) (KF:Int) (DF:TD) (KT:Int) (DT:TD) (e l:Bool) (x:TD) (r:Bool) (y:TD) (hx:smT x):
  gM 20000000 i a b L K D KF DF KT DT e l x r y=some (i,(a&&b)||((a||b)&&(r||!plT x)),L,K,D,KF,DF,KT,DT,e,l):=by
 unfold gM;rw [tH hx];cases a<;>cases b<;>cases r<;>cases plT x<;>rfl
theorem N2 {K:Int} (w:K=3\/K=4) {e l:Bool} {L:List TI} (hs:∀t∈L,smI t) (x:L.length<=1000000) (D:TD) (KF:Int) (DF:TD) (KT:Int) (DT:TD):
  au (ek 20000000) 20000000 (0,L,K,D,KF,DF,KT,DT,e,l)=some (match tu (errI K e l L.length) 0 L with | some p=>.inl ((p.1:Int),p.2) | none=>.inr ()):=by
 have:=zk (step:=ek 20000000) (st:=λi=>((i:Int),L,K,D,KF,DF,KT,DT,e,l)) (L:=L) (f:=errI K e l L.length) (yes:=λi q=>.inl ((i:Int),q)) (no:=.inr ())
  (λi t hi=>by
   have n:i<L.length:=(oV.1 hi).1;have d:=hs t (fS hi);have m:jt 20000000 (iF t) (d8 t).2.2.1 (d8 t).2.2.2 (K==4)=some (itI t (K==4)):=JK _ _ d.1 d.2;have g:w64 (len L - 1)=((L.length - 1:Nat):Int):=Fj (by omega) (by omega);unfold ek;simp only [u15,u14,u13,u12,u11,u10,u9,u8,u7,u6,u5,u4,u3,u2];rw [am (show (i:Int)<len L by unfold len;omega),dY n];simp only [ah,ob,hi,m];by_cases k:itI t (K==4)=0
   ·rw [show (itI t (K==4) != 0)=false from by simp [k],af];simp only [Tv,g,NL,natB,u15,u14,u13,u12,u11,u10,u9,u8,u7,u6,u5,u4,u3,u2];rw [Tc _ _ _ _ _ _ _ _ _ _ _ _ _ _ _ d.1];simp only [u11,u10,u9,u8,u7,u6,u5,u4,u3,u2];have v:decide (i=L.length - 1)=decide (i+1=L.length):=by congr 1;exact propext (by omega)
    have u:(decide (i=0)&&decide (i+1=L.length))=(decide (L.length=1)&&decide (i=0)):=by
     by_cases j:i=0
     ·subst j;rw [am rfl,mN,EF];congr 1;exact propext (by omega)
     ·rw [ar j,xq];rfl
    have s:decide (L.length=1)=true->decide (i=0)=true:=λh=>am (by have:=By h;omega);have o:errI K e l L.length i t=if ((e&&decide (i=0))&&(l&&decide (i+1=L.length)))||(((e&&decide (i=0))||(l&&decide (i+1=L.length)))&&(rT t||!plT (iF t))) then 10 else 0:=by
     unfold errI endB;rw [k,ab (λh=>h rfl)];congr 1;revert u s;generalize rT t=r;generalize plT (iF t)=z;generalize decide (i=0)=a;generalize decide (i+1=L.length)=b;generalize decide (L.length=1)=c;cases e<;>cases l<;>cases z<;>cases r<;>cases a<;>cases b<;>cases c<;>simp
    rw [v,qx (by omega),o];generalize (((e&&decide (i=0))&&(l&&decide (i+1=L.length)))||(((e&&decide (i=0))||(l&&decide (i+1=L.length)))&&(rT t||!plT (iF t))))=z;cases z<;>rfl
   ·have:errI K e l L.length i t=itI t (K==4):=ae k;rw [show (itI t (K==4) != 0)=true from by simp [k],ah,this,ae k])
  (by
   unfold ek;simp only [u15,u14,u13,u12,u11,u10,u9,u8,u7,u6,u5,u4,u3,u2];rw [ar (show ¬((L.length:Nat):Int)<len L by unfold len;omega)];rfl)
  L.length 0 (by omega) 20000000 (by omega)
 rw [cw] at this;exact this
theorem E6 {K:Int} {D:TD} {KF:Int} {DF:TD} {KT:Int} {DT:TD} {e l:Bool} {L:List TI} (h:smE D DF DT L):
  iI 20000000 K D KF DF KT DT e l L=some (dU K D KF DF KT DT e l L):=by
 obtain ⟨k,n,p,i⟩:=h;have j3:iz 20000000 L K D KF DF KT DT e l=some (K==3||K==4,L,K,D,KF,DF,KT,DT,e,l):=by
  unfold iz;cases (K==3)<;>rfl
 have j4:ij 20000000 (K==3||K==4) L K D KF DF KT DT e l=some (K==3||K==4,!(K==1)&&(!(K==2)&&!(K==3||K==4)),L,K,D,KF,DF,KT,DT,e,l):=by
  unfold ij;rw [show (K != 1)=!(K==1) from rfl,show (K != 2)=!(K==2) from rfl];cases (K==1)<;>cases (K==2)<;>rfl
 have j7:iw 20000000 (K==3||K==4) L K D KF DF KT DT e l=some (unuB K D KF DF KT DT e l L.length,L,K,D,KF,DF,KT,DT,e,l):=by
  unfold iw unuB;have a:decide (len L>0)=!decide (L.length=0):=by
   by_cases d:L.length=0
   ·rw [am d,ar (by unfold len;omega)];rfl
   ·rw [ar d,am (by unfold len;omega)];rfl
  rw [show (K != 1)=!(K==1) from rfl,show (K != 2)=!(K==2) from rfl,a];generalize eqD D d0=j;generalize ((KF==0)&&((eqD DF d0)&&true))=z1;generalize ((KT==0)&&((eqD DT d0)&&true))=z2;generalize decide (L.length=0)=m;generalize (K==1)=k1;generalize (K==2)=k2;generalize (K==3)=o;generalize (K==4)=k4;cases j<;>cases z1<;>cases z2<;>cases m<;>cases k1<;>cases k2<;>cases o<;>cases k4<;>cases e<;>cases l<;>rfl
 unfold iI dU;rw [j3];simp only [ob,u11,u10,u9,u8,u7,u6,u5,u4,u3,u2,j4];by_cases g:K<1\/4<K
 ·rw [ae g,show (K==1)=false from by simp;omega,show (K==2)=false from by simp;omega,show (K==3)=false from by simp;omega,show (K==4)=false from by simp;omega];rfl
 have c:(!(K==1)&&(!(K==2)&&!(K==3||K==4)))=false:=by
  rcases (by omega:K=1\/K=2\/K=3\/K=4) with rfl | rfl | rfl | rfl<;>rfl
 rw [ab g,c];simp only [af,j7];cases unuB K D KF DF KT DT e l L.length
 ·simp only [af,bw,aC];by_cases k1:K=1
  ·rw [ae k1,show (K==1)=true from by simp [k1],rcT k];rfl
  by_cases k2:K=2
  ·rw [ab k1,ae k2,show (K==1)=false from by simp [k1],show (K==2)=true from by simp [k2],Uz n p];rfl
  rw [ab k1,ab k2,show (K==1)=false from by simp [k1],show (K==2)=false from by simp [k2]];simp only [af];rw [show (len L==0)=decide (L.length=0) from NL _];by_cases b:L.length=0
  ·rw [am b,ae b];rfl
  rw [ar b,ab b];by_cases f:256<L.length
  ·rw [show decide (len L>256)=true from am (by show (256:Int)<((L.length:Nat):Int);omega),ae f];rfl
  rw [show decide (len L>256)=false from ar (by show ¬(256:Int)<((L.length:Nat):Int);omega),ab f,af,af,N2 (by omega) i (by omega)];unfold xE;cases tu (errI K e l L.length) 0 L<;>rfl
 ·rfl
theorem ww {K:Int} {D:TD} {KF:Int} {DF:TD} {KT:Int} {DT:TD} {e l:Bool} {L:List TI} (h:smE D DF DT L):
  iv 20000000 K D KF DF KT DT e l L=some (dU K D KF DF KT DT e l L).2:=by
 unfold iv;rw [Ix h];rfl
theorem GM {K:Int} {D:TD} {KF:Int} {DF:TD} {KT:Int} {DT:TD} {e l:Bool} {L:List TI} (h:smE D DF DT L):
  fb 20000000 K D KF DF KT DT e l L=some (dU K D KF DF KT DT e l L).2:=by
 unfold fb;rw [E6 h];rfl
def natI (x:Int) (b:Nat):Prop:=0<=x/\x<(b:Int)
def wfD (a0 a2 d g f a b c e:Int):Prop:=natI a0 256/\natI a2 65536/\natI d 256/\natI g 256/\natI f 256/\natI a 256/\natI b 256/\natI c 256/\natI e 256
theorem natI.nat {x:Int} {b:Nat} (h:natI x b):∃n:Nat,x=(n:Int)/\n<b:=⟨x.toNat,by have:=h.1;omega,by have:=h.1;have:=h.2;omega⟩
theorem DofI {a0 a2 b k i f j a c:Int} (g:Bool) (h:wfD a0 a2 b k i f j a c):∃x:TD,gO 20000000 a0 g a2 b k i f j a c=some x/\smT x/\cF x=0:=by
 obtain ⟨K,I,F,D,p,t,J,H,E⟩:=h;obtain ⟨a0,rfl,b0⟩:=K.nat;obtain ⟨a2,rfl,b2⟩:=I.nat;obtain ⟨b,rfl,C⟩:=F.nat;obtain ⟨k,rfl,s⟩:=D.nat;obtain ⟨i,rfl,u⟩:=p.nat;obtain ⟨f,rfl,y⟩:=t.nat;obtain ⟨j,rfl,v⟩:=J.nat;obtain ⟨a,rfl,z⟩:=H.nat;obtain ⟨c,rfl,B⟩:=E.nat;obtain ⟨L,l,dg,x,q,w,d,k0,k1,k2,e,hc,G,r⟩:=UV 19999700 a0 a2 b k i f j a c g b2 C s u y v z B;obtain ⟨o,m,n,_⟩:=pm hc;obtain ⟨_,_,_,_,_,A⟩:=iY o;refine ⟨_,e,⟨?_,by show dg.length<=100;omega,?_,by simp,by simp,by simp⟩,P6 hc r⟩
 ·rcases m with h | h
  ·rw [h];simp
  ·show w.length<=18;omega
 ·rcases n with h | h
  ·rw [h];simp
  ·show d.length<=18;omega
structure RightE (k:Int) (D:TD) (KF:Int) (DF:TD) (KT:Int) (DT:TD) (e l:Bool) (I:List TI):Prop where
 sm:smE D DF DT I
 first:dU k D KF DF KT DT e l I=(0,0)
 len:I.length<=5
 kind:1<=k/\k<=4
 its:∀t∈I,itI t (k==4)=0
theorem EG {x:TD} (hs:smT x) (hc:cF x=0):RightE 1 x 0 d0 0 d0 false false []:=by
 refine ⟨⟨hs,oG,oG,λt a=>by cases a⟩,?_,by simp,by omega,by simp⟩;have c:eqD d0 d0=true:=od.2 rfl;have b:unuB 1 x 0 d0 0 d0 false false ([]:List TI).length=false:=by unfold unuB;rw [c];rfl
 unfold dU;rw [ab (by omega),ab (by rw [b];simp),ae rfl,hc]
theorem zb {KF KT:Int} {x y:TD} (hx:smT x) (hy:smT y) (h:sC KF x KT y=0):RightE 2 d0 KF x KT y false false []:=by
 refine ⟨⟨oG,hx,hy,λt a=>by cases a⟩,?_,by simp,by omega,by simp⟩;have c:eqD d0 d0=true:=od.2 rfl;have b:unuB 2 d0 KF x KT y false false ([]:List TI).length=false:=by unfold unuB;rw [c];rfl
 unfold dU;rw [ab (by omega),ab (by rw [b];simp),ab (by omega),ae rfl,h]
theorem FC (x:TD):vO 1 x=if cF x=0 then if exT x=true then 0 else 11 else cF x:=by
 unfold vO chkB;rw [ae rfl];rfl
theorem F8 {x:TD} (h:vO 1 x=0):cF x=0/\exT x=true:=by
 rw [FC] at h;by_cases hc:cF x=0
 ·rw [ae hc] at h;by_cases a:exT x=true
  ·exact ⟨hc,a⟩
  ·rw [ab a] at h;cases h
 ·rw [ab hc] at h;exact absurd h hc
theorem Pz {x:TD} (hc:cF x=0) (a:exT x=true):vO 1 x=0:=by
 rw [FC,ae hc,ae a]
noncomputable instance decTI:DecidableEq TI:=λa b=>Classical.propDecidable (a=b)
theorem I8 {A B X Y:Type} {step:X->Option (X⊕Y)} {st:Nat->List B->X} {fin:List B->Y} {L:List A} {f:A->List B} {c:Nat} (d:∀t,(f t).length<=2)
  (g:∀i t acc,L[i]?=some t->acc.length<=c+2*i->step (st i acc)=some (.inl (st (i+1) (acc++f t)))) (e:∀acc,step (st L.length acc)=some (.inr (fin acc))):
  ∀(r i:Nat) (acc:List B),i+r=L.length->acc.length<=c+2*i->∀N,r<N->au step N (st i acc)=some (fin (acc++(L.drop i).flatMap f)):=by
 intro r
 induction r with
 | zero=>
  intro i acc hi b N h;obtain ⟨N,rfl⟩:∃k,N=k+1:=⟨N - 1,by omega⟩;rw [au,show i=L.length by omega,e,sV];simp
 | succ r ih=>
  intro i acc hi b N h;obtain ⟨N,rfl⟩:∃k,N=k+1:=⟨N - 1,by omega⟩;have a:i<L.length:=by omega
  rw [au,g i _ acc (bh a) b,pG a,ou,<-fK];refine ih (i+1) _ (by omega) ?_ N (by omega);have:=d L[i];rw [aR];omega
def datI (t:TI):List TD:=if rT t=true then [iF t,iT t] else [iF t]
theorem IT (t:TI):(datI t).length<=2:=by unfold datI;split<;>simp
def datE (k:Int) (D:TD) (KF:Int) (DF:TD) (KT:Int) (DT:TD) (I:List TI):List TD:=
 if k=1 then [D] else if k=2 then (if KF=1 then (if KT=1 then [DF,DT] else [DF]) else if KT=1 then [DT] else []) else if k=3\/k=4 then I.flatMap datI else []
theorem Wx {B:Type} {acc:List B} (h:acc.length<=3000000):Nat.ble (acc.length+1) eV=true:=cT (by unfold eV;omega)
theorem BF {I:List TI} (b:I.length<=1000000):au (gu 20000000) 20000000 (len I,0,I,([]:List TD))=some (I.flatMap datI):=by
 have:=I8 (step:=gu 20000000) (st:=λi acc=>(len I,(i:Int),I,acc)) (fin:=λacc=>acc) (L:=I) (f:=datI) (c:=0) IT ?_ ?_ I.length 0 [] (by omega) (by simp) 20000000 (by omega)
 ·rw [cw,dJ] at this;exact this
 ·intro i t acc a d;have hi:i<I.length:=(oV.1 a).1;unfold gu;simp only [u4,u3,u2];rw [am (show (i:Int)<len I by show (i:Int)<((I.length:Nat):Int);omega),dY hi];simp only [ah,ob,a,Wx (acc:=acc) (by omega),Wx (acc:=acc++[iF t]) (by simp;omega)];rw [qx (by omega)];unfold datI;show cond (rT t) _ _=_;cases rT t
  ·rfl
  ·show (some (Sum.inl (len I,((i+1:Nat):Int),I,(acc++[iF t])++[iT t])):Option ((Int×Int×List TI×List TD)⊕List TD))=_;rw [fK];rfl
 ·intro acc;unfold gu;simp only [u4,u3,u2];rw [ar (show ¬((I.length:Nat):Int)<len I by show ¬((I.length:Nat):Int)<((I.length:Nat):Int);omega)];rfl
theorem YJ (L:List TD):aG 20000000 L=some (L.length,L.length):=by
 unfold aG;rw [cM (aV _)];show ob (bx L.length ((L.length:Nat):Int)) _=_;rw [cM (aV _)];rfl
theorem OW {I:List TI} (d:I.length<=1000000) (k:Int) (D:TD) (KF:Int) (DF:TD) (KT:Int) (DT:TD) (e l:Bool):
  ii 20000000 k D KF DF KT DT e l I=some ((datE k D KF DF KT DT I).length,(datE k D KF DF KT DT I).length,datE k D KF DF KT DT I):=by
 unfold ii datE;rw [BF d];simp only [YJ,ob,u2];by_cases k1:k=1
 ·rw [ae k1,show (k==1)=true from by simp [k1]];rfl
 by_cases k2:k=2
 ·rw [ab k1,ae k2,show (k==1)=false from by simp [k1],show (k==2)=true from by simp [k2]];by_cases b:KF=1
  ·rw [ae b,show (KF==1)=true from by simp [b]];by_cases a:KT=1
   ·rw [ae a,show (KT==1)=true from by simp [a]];rfl
   ·rw [ab a,show (KT==1)=false from by simp [a]];rfl
  ·rw [ab b,show (KF==1)=false from by simp [b]];by_cases a:KT=1
   ·rw [ae a,show (KT==1)=true from by simp [a]];rfl
   ·rw [ab a,show (KT==1)=false from by simp [a]];rfl
 rw [ab k1,ab k2,show (k==1)=false from by simp [k1],show (k==2)=false from by simp [k2]];by_cases c:k=3
 ·rw [ae (.inl c),show (k==3)=true from by simp [c]];rfl
 by_cases k4:k=4
 ·rw [ae (.inr k4),show (k==3)=false from by simp [c],show (k==4)=true from by simp [k4]];rfl
 rw [ab (by omega),show (k==3)=false from by simp [c],show (k==4)=false from by simp [k4]];rfl
theorem Bl (n:Nat) (t S R:aa) (a:Int) (o:t.length<4611686018427387904) (p:t.length<n):
  au (dX n) n (t,0,R,S,a)=some (((lcp R t:Nat):Int),S,a):=by
 have:=fP (step:=dX n)
  (λx=>∃j:Nat,j<=t.length/\x=(t,(j:Int),R,S,a)) (λx=>t.length - x.2.1.toNat)
  (λx=>(((x.2.1.toNat+lcp (R.drop x.2.1.toNat) (t.drop x.2.1.toNat):Nat):Int),S,a)) ?_ n (t,0,R,S,a) ⟨0,by omega,rfl⟩ (by simp;omega)
 ·simpa using this
 rintro x ⟨j,q,rfl⟩;simp only [bR,dX,RU];by_cases g:j<t.length/\j<R.length
 ·obtain ⟨i,k⟩:=g;obtain ⟨c,hc⟩:∃c,t[j]?=some c:=⟨t[j],bh i⟩;obtain ⟨d,h⟩:∃d,R[j]?=some d:=⟨R[j],bh k⟩;have e:IntKind.wrap .i64 ((j:Int)+1)=((j+1:Nat):Int):=by rw [wrap_i64 _ (by omega) (by omega)];omega
  have f:(decide ((j:Int)<((min t.length R.length:Nat):Int)))=true:=by simp only [cn];omega
  have b:(decide ((j:Int)<((min R.length t.length:Nat):Int)))=true:=by simp only [cn];omega
  simp only [f,b,ah,eG hc,eG h,ob,n7,cA hc,cA h,lcp];cases m:d==c with
  | true=>
   refine .inl ⟨_,rfl,⟨j+1,by omega,by rw [e]⟩,?_,?_⟩
   ·simp only [e,bR];omega
   ·simp only [e,bR,bV,xd,aO];omega
  | false=>exact .inr (by simp)
 ·have f:(decide ((j:Int)<((min t.length R.length:Nat):Int)))=false:=by simp only [vo];omega
  have b:(decide ((j:Int)<((min R.length t.length:Nat):Int)))=false:=by simp only [vo];omega
  refine .inr ?_;have l:lcp (R.drop j) (t.drop j)=0:=by
   by_cases i:j<t.length
   ·rw [jE (show R.length<=j by omega)];rfl
   ·rw [jE (show t.length<=j by omega)];cases R.drop j<;>rfl
  simp only [f,b,l,af,cP]
theorem AM (n:Nat) (t S:aa) (a:Nat) (h:a<=S.length) (e:S.length<4611686018427387904) (c:t.length<4611686018427387904) (d:t.length<n):
  bZ n t S (a:Int)=some (if (S.drop a).take t.length=t then .inl (S,((a+t.length:Nat):Int)) else .inr (((a+lcp (S.drop a) t:Nat):Int),5,S,(a:Int))):=by
 have f:=yD (S.drop a) t;rw [bP] at f;simp only [bZ,nA n t S a h e,ob];by_cases hp:(S.drop a).take t.length=t
 ·simp [hp]
 ·have b:IntKind.wrap .i64 ((a:Int)+((lcp (S.drop a) t:Nat):Int))=((a+lcp (S.drop a) t:Nat):Int):=by rw [wrap_i64 _ (by omega) (by omega)];omega
  simp only [hp,aC,af,uK n S a h,Bl n t S (S.drop a) (a:Int) c d,DW,b,wh];simp
def tdR (r:DR):TD:=(r.1,r.2.1,r.2.2.1,(r.2.2.2.1:Int),(r.2.2.2.2.1:Int),r.2.2.2.2.2.1,r.2.2.2.2.2.2.1,(r.2.2.2.2.2.2.2.1.1:Int),(r.2.2.2.2.2.2.2.1.2.1:Int),(r.2.2.2.2.2.2.2.1.2.2:Int))
theorem ow {S:aa} {a:Nat} (h:a<=S.length) {r:DR} (c:fC S a=.inr r):smT (tdR r)/\cF (tdR r)=0/\a<=enR r/\enR r<=S.length:=by
 obtain ⟨f,b⟩:=GO h c;obtain ⟨g,l,dg,x,s,m,d,M,P,e⟩:=r;have ok:=HQ h f;have:=ok.dg17;have:=ok.m2;have:=ok.d2;refine ⟨⟨by show m.length<=18;omega,by show dg.length<=100;omega,by show d.length<=18;omega,by show (0:Int)<=(M.1:Int);omega,by show (0:Int)<=(M.2.1:Int);omega,by show (0:Int)<=(M.2.2:Int);omega⟩,?_,ok.le,ok.end_⟩;have hc:=zr (g:=g) (l:=l) (dg:=dg) (x:=(x:Int)) (q:=(s:Int)) (m:=m) (d:=d) (k0:=(M.1:Int)) (k1:=(M.2.1:Int)) (k2:=(M.2.2:Int)) (ye ok.all);unfold chkR at b;simp only [] at b;show chkF g l dg (x:Int) (s:Int) m d (M.1:Int) (M.2.1:Int) (M.2.2:Int)=0;omega
def dts (l:aa):Bool:=l.take 2==[46,46]
theorem yx {l:aa}:dts l=true↔∃r,l=46::46::r:=by
 unfold dts;rw [bu];constructor
 ·exact IZ
 ·rintro ⟨r,rfl⟩;rfl
theorem tU {S:aa} {p:Nat} (h:dts (S.drop p)=true):p+2<=S.length:=by
 obtain ⟨r,a⟩:=yx.1 h;have:=cK List.length a;simp at this;omega
noncomputable def qH (S:aa) (b:UInt8) (p:Nat):(Nat×Nat×Nat)⊕(TI×Nat×Nat):=
 match fC S p with
 | .inl f=>.inl f
 | .inr r=>if dts (S.drop (enR r))=true/\(S.drop (enR r+2)).head?≠some b then
   match fC S (enR r+2) with
   | .inl f=>.inl f
   | .inr a=>.inr (mkI (tdR r) true (tdR a),plR r,enR a)
  else .inr (mkI (tdR r) false d0,plR r,enR r)
theorem D4 {S:aa} {i:UInt8} {p:Nat} (h:p<=S.length) {t:TI} {a e:Nat} (b:qH S i p=.inr (t,a,e)):smI t/\p<=e/\e<=S.length:=by
 unfold qH at b;cases d:fC S p with
 | inl f=>rw [d] at b;cases b
 | inr r=>
  obtain ⟨g,_,n,j⟩:=ow h d;rw [d] at b;simp only [] at b;split at b
  ·rename_i k;have:=tU k.1;cases c:fC S (enR r+2) with
   | inl f=>rw [c] at b;cases b
   | inr o=>
    obtain ⟨l,_,l3,m⟩:=ow (by omega) c;rw [c] at b;cases b;exact ⟨⟨g,l⟩,by omega,m⟩
  ·cases b;exact ⟨⟨g,oG⟩,n,j⟩
noncomputable def o8 (S:aa) (c:UInt8):Nat->Nat->List Nat->List TI->(Nat×Nat×Nat)⊕(Nat×List Nat×List TI)
 | 0,p,_,_=>.inl (p,3,p)
 | r+1,p,P,I=>match qH S c p with
  | .inl f=>.inl f
  | .inr (t,a,b)=>if (S.drop b).head?=some 44 then o8 S c r (b+1) (P++[a]) (I++[t]) else .inr (b,P++[a],I++[t])
theorem nW {S:aa} {p:Nat} {c:UInt8} (h:(S.drop p).head?=some c):p+1<=S.length:=by
 cases b:S.drop p with
 | nil=>rw [b] at h;cases h
 | cons a r=>
  have:=cK List.length b;simp at this;omega
theorem DC {S:aa} {i:UInt8}:∀(r p:Nat) (P:List Nat) (I:List TI),p<=S.length->P.length=I.length->(∀t∈I,smI t)->∀{d:Nat} {c:List Nat} {b:List TI},o8 S i r p P I=.inr (d,c,b)->
  d<=S.length/\c.length=b.length/\I.length<b.length/\b.length<=I.length+r/\(∀t∈b,smI t)
 | 0,p,P,I,_,_,_,d,c,b,e=>by cases e
 | r+1,p,P,I,h,j,hs,d,c,b,e=>by
  rw [o8] at e;cases g:qH S i p with
  | inl f=>rw [g] at e;cases e
  | inr q=>
   obtain ⟨t,a,v⟩:=q;obtain ⟨n,z,l⟩:=D4 h g;rw [g] at e;simp only [] at e;have hs':∀u∈I++[t],smI u:=λu o=>by
    rcases mJ.1 o with h | h
    ·exact hs u h
    ·rw [nX.1 h];exact n
   split at e
   ·rename_i x;obtain ⟨y,m,k,w,s⟩:=DC r (v+1) (P++[a]) (I++[t]) (nW x) (by simp [j]) hs' e;rw [aR,List.length_singleton] at k w;exact ⟨y,m,by omega,by omega,s⟩
   ·cases e;exact ⟨l,by simp [j],by simp,by simp,hs'⟩
theorem dts3 (S:aa) (p:Nat) (c:UInt8):((S.drop p).take [46,46,c].length==[46,46,c])=(dts (S.drop p)&&decide ((S.drop (p+2)).head?=some c)):=by
 rw [<-jg];generalize S.drop p=l;unfold dts
 match l with
 | []=>rfl
 | [a]=>simp
 | [a,b]=>simp
 | a::b::d::r=>
  rw [uy];simp [and_assoc]
def endC (K:Int):UInt8:=if K=4 then 125 else 93
theorem yG {K:Int} (a:K=3\/K=4) (n:Nat):gC n K=some ([if K=4 then 123 else 91],[endC K]):=by
 rcases a with rfl | rfl<;>rfl
theorem Wm (c:UInt8) {S:aa} {p:Nat} (h:p<=S.length) (b g:Int) (i:Bool) (d:List Int) (a:TD) (f e:List TI):
  lX 20000000 [c] b S (p:Int) g i d a f e=some ([c],b,dts (S.drop p)&&!decide ((S.drop (p+2)).head?=some c),S,(p:Int),g,i,d,a,f,e):=by
 unfold lX;rw [NY _ _ _ _ h];have hc:cat [46,46] [c]=some [46,46,c]:=rfl;simp only [ob,hc,NY _ _ _ _ h,dts3];show cond (dts (S.drop p)) _ _=_;cases j:dts (S.drop p)
 ·rfl
 ·cases decide ((S.drop (p+2)).head?=some c)<;>rfl
theorem tk1 (l:aa) (c:UInt8):l.take [c].length=[c]↔l.head?=some c:=by
 cases l<;>simp
theorem C6 (S:aa) (r:DR):Vh S (.inr r)=.inr ((tdR r).1,(tdR r).2.1,(tdR r).2.2.1,(tdR r).2.2.2.1,(tdR r).2.2.2.2.1,(tdR r).2.2.2.2.2.1,(tdR r).2.2.2.2.2.2.1,(tdR r).2.2.2.2.2.2.2.1,(tdR r).2.2.2.2.2.2.2.2.1,(tdR r).2.2.2.2.2.2.2.2.2,((plR r:Nat):Int),S,((enR r:Nat):Int)):=rfl
theorem U7 (b:Bool) (c:UInt8) {S:aa} {p:Nat} (h:p<=S.length) (s:S.length<100000) (q:b=true->dts (S.drop p)=true) (e k:Int) (g:Bool) (d:List Int) (j:TD) (i a:List TI):
  lV 20000000 [c] e b S (p:Int) k g d j i a=some (if b=true then (match fC S (p+2) with
   | .inl f=>.inl ((f.1:Int),(f.2.1:Int),S,(f.2.2:Int))
   | .inr r=>.inr ([c],e,S,((enR r:Nat):Int),k,g,d,j,true,tdR r,i,a)) else .inr ([c],e,S,(p:Int),k,g,d,j,false,d0,i,a)):=by
 unfold lV;cases b
 ·rfl
 ·have l:=q rfl;have o:=tU l;have n:(S.drop p).take [(46:UInt8),46].length=[46,46]:=by
   obtain ⟨r,m⟩:=yx.1 l;rw [m];rfl
  rw [ah,AM _ _ _ _ h (by omega) (by simp) (by simp),ae n,ae rfl];show obs (iG 20000000 S ((p+2:Nat):Int)) _ _=_;rw [F5 S (p+2) o s];cases fC S (p+2) with
  | inl f=>rfl
  | inr r=>rfl
theorem BA {α:Type} {I:List α} (h:I.length<=256):Nat.ble (I.length+1) eV=true:=cT (by unfold eV;omega)
abbrev pD (P:List Nat):List Int:=P.map λk:Nat=>(k:Int)
theorem S8 (c:UInt8) {S:aa} {p:Nat} (h:p<=S.length) (s:S.length<100000) (K:Int) (e:Bool) {P:List Nat} (J:List TI) {I:List TI} (B:I.length<256) (z:P.length=I.length):
  fh 20000000 ([c],S,(p:Int),K,e,pD P,J,I)=some (match qH S c p with
   | .inl f=>.inr (.inl ((f.1:Int),(f.2.1:Int),S,(f.2.2:Int)))
   | .inr (t,a,b)=>if (S.drop b).head?=some 44 then .inl ([c],S,((b+1:Nat):Int),K,e,pD (P++[a]),J,I++[t])
    else .inr (.inr ([c],S,((if dts (S.drop b) then b+2 else b:Nat):Int),0,d0,0,d0,0,d0,false,false,K,d0,0,d0,0,d0,e,dts (S.drop b),pD (P++[a]),J,I++[t]))):=by
 have fin:∀(t:TI) (a b:Nat),b<=S.length->(ob (aB 20000000 [44] S (b:Int)) (u3 λn g k=>(cond n (some (.inl ([c],g,k,K,e,(pD P++([(a:Int)]:List (Int))),J,(I++([t]:List TI))))) (ob (aB 20000000 [46,46] g k) (u3 λo i l=>(cond o (some (.inr (.inr ([c],i,l,0,d0,0,d0,0,d0,false,false,K,d0,0,d0,0,d0,e,true,(pD P++([(a:Int)]:List (Int))),J,(I++([t]:List TI)))))) (some (.inr (.inr ([c],i,l,0,d0,0,d0,0,d0,false,false,K,d0,0,d0,0,d0,e,false,(pD P++([(a:Int)]:List (Int))),J,(I++([t]:List TI))))))))))):Option ((aa×aa×Int×Int×Bool×List (Int)×List TI×List TI)⊕((Int×Int×aa×Int)⊕(aa×aa×Int×Int×TD×Int×TD×Int×TD×Bool×Bool×Int×TD×Int×TD×Int×TD×Bool×Bool×List (Int)×List TI×List TI)))) =
   some (if (S.drop b).head?=some 44 then .inl ([c],S,((b+1:Nat):Int),K,e,pD (P++[a]),J,I++[t])
    else .inr (.inr ([c],S,((if dts (S.drop b) then b+2 else b:Nat):Int),0,d0,0,d0,0,d0,false,false,K,d0,0,d0,0,d0,e,dts (S.drop b),pD (P++[a]),J,I++[t]))):=by
  intro t a b j;have w:pD (P++[a])=pD P++[(a:Int)]:=by simp [pD]
  rw [nA _ _ _ _ j (by omega),w];simp only [ob,u3,u2,tk1];by_cases hc:(S.drop b).head?=some 44
  ·rw [ae hc,ae hc];rfl
  ·rw [ab hc,ab hc];simp only [af];rw [nA _ _ _ _ j (by omega)];cases d:dts (S.drop b)
   ·rw [ab (show ¬(S.drop b).take [(46:UInt8),46].length=[46,46] from λh=>by unfold dts at d;rw [show (S.drop b).take 2=[46,46] from h] at d;cases d)];rfl
   ·rw [ae (show (S.drop b).take [(46:UInt8),46].length=[46,46] from eq_of_beq d)];rfl
 unfold fh;simp only [u8,u7,u6,u5,u4,u3,u2];rw [show (len I==256)=false from by show (((I.length:Nat):Int)==256)=false;simp;omega,af,F5 S p h s];unfold qH;cases y:fC S p with
 | inl f=>rfl
 | inr r=>
  obtain ⟨A,_,D,m⟩:=ow h y;rw [C6];simp only [obs,sm,ob];rw [show (d4 (d8 ((tdR r).1,(tdR r).2.1,(tdR r).2.2.1,(tdR r).2.2.2.1,(tdR r).2.2.2.2.1,(tdR r).2.2.2.2.2.1,(tdR r).2.2.2.2.2.2.1,(tdR r).2.2.2.2.2.2.2.1,(tdR r).2.2.2.2.2.2.2.2.1,(tdR r).2.2.2.2.2.2.2.2.2,((plR r:Nat):Int),S,((enR r:Nat):Int))))=((enR r:Nat):Int) from rfl,Wm c m];simp only [u11,u10,u9,u8,u7,u6,u5,u4,u3,u2];rw [U7 _ c m s (λh=>by simp at h;exact h.1)];have q:(dts (S.drop (enR r))&&!decide ((S.drop (enR r+2)).head?=some c))=true↔(dts (S.drop (enR r))=true/\(S.drop (enR r+2)).head?≠some c):=by simp
  by_cases d:dts (S.drop (enR r))=true/\(S.drop (enR r+2)).head?≠some c
  ·rw [ae (q.2 d),ae d];cases x:fC S (enR r+2) with
   | inl f=>rfl
   | inr u=>
    obtain ⟨C,_,l3,v⟩:=ow (tU d.1) x;simp only [u12,u11,u10,u9,u8,u7,u6,u5,u4,u3,u2];rw [BA (by omega),BA (by simp;omega)];exact fin (mkI (tdR r) true (tdR u)) (plR r) (enR u) v
  ·rw [ab (λh=>d (q.1 h)),ab d];simp only [u12,u11,u10,u9,u8,u7,u6,u5,u4,u3,u2];rw [BA (by omega),BA (by simp;omega)];exact fin (mkI (tdR r) false d0) (plR r) (enR r) m
theorem TO (c:UInt8) (S:aa) (p K:Int) (e:Bool) (P:List Int) (J:List TI) {I:List TI} (a:I.length=256):
  fh 20000000 ([c],S,p,K,e,P,J,I)=some (.inr (.inl (p,3,S,p))):=by
 unfold fh;simp only [u8,u7,u6,u5,u4,u3,u2];rw [show (len I==256)=true from by show (((I.length:Nat):Int)==256)=true;rw [a];rfl];rfl
def YU (S:aa) (c:UInt8) (K:Int) (e:Bool) (J:List TI):(Nat×Nat×Nat)⊕(Nat×List Nat×List TI)->(Int×Int×aa×Int)⊕(aa×aa×Int×Int×TD×Int×TD×Int×TD×Bool×Bool×Int×TD×Int×TD×Int×TD×Bool×Bool×List (Int)×List TI×List TI)
 | .inl f=>.inl ((f.1:Int),(f.2.1:Int),S,(f.2.2:Int))
 | .inr (p,P,I)=>.inr ([c],S,((if dts (S.drop p) then p+2 else p:Nat):Int),0,d0,0,d0,0,d0,false,false,K,d0,0,d0,0,d0,e,dts (S.drop p),pD P,J,I)
theorem Ut (c:UInt8) {S:aa} (h:S.length<100000) (K:Int) (e:Bool) (J:List TI):∀(r p:Nat) (P:List Nat) (I:List TI),I.length+r=256->p<=S.length->P.length=I.length->∀N,r<N->
  au (fh 20000000) N ([c],S,(p:Int),K,e,pD P,J,I)=some (YU S c K e J (o8 S c r p P I)):=by
 intro r
 induction r with
 | zero=>
  intro p P I g hp b N j;obtain ⟨N,rfl⟩:∃k,N=k+1:=⟨N - 1,by omega⟩;rw [au,TO c S _ K e _ J (by omega)];rfl
 | succ r ih=>
  intro p P I g hp b N j;obtain ⟨N,rfl⟩:∃k,N=k+1:=⟨N - 1,by omega⟩;rw [au,S8 c hp h K e J (by omega) b,o8];cases i:qH S c p with
  | inl f=>rfl
  | inr q=>
   obtain ⟨t,a,d⟩:=q;obtain ⟨_,m,l⟩:=D4 hp i;simp only [];by_cases hc:(S.drop d).head?=some 44
   ·rw [ae hc,ae hc];exact ih (d+1) (P++[a]) (I++[t]) (by simp;omega) (nW hc) (by simp [b]) N (by omega)
   ·rw [ab hc,ab hc];rfl
theorem EN {X a Y b:Type} {s:X->Option (X⊕Y)} {s':a->Option (a⊕b)} (f:X->a) (g:Y->b) (h:∀x,s' (f x)=(s x).map (Sum.map f g)):∀(n:Nat) (x:X),au s' n (f x)=(au s n x).map g
 | 0,_=>rfl
 | n+1,x=>by
  rw [au,au,h];cases s x with
  | none=>rfl
  | some z=>
   cases z with
   | inl y=>exact EN f g h n y
   | inr y=>rfl
theorem Uo (n:Nat) (K:Int) (D:TD) (KF:Int) (DF:TD) (KT:Int) (DT:TD) (c:Nat) (e l:Bool) (L:List TI):np n K D KF DF KT DT L.length c e l L=lG n K D KF DF KT DT e l L:=by
 unfold np lG;have:=EN (s:=fD n) (s':=jY n) (u12 λq f d g o p j h m k a b=>(d.length,c,q,f,d,g,o,p,j,h,m,d.length,c,k,a,b)) id (by
  rintro ⟨q,f,d,g,o,p,j,h,m,k,a,b⟩;unfold fD jY;simp only [u16,u15,u14,u13,u12,u11,u10,u9,u8,u7,u6,u5,u4,u3,u2];cases decide (f<q)
  ·rfl
  ·simp only [ah];cases ix d.length f with
   | none=>rfl
   | some i=>
    simp only [ob];cases d[i]? with
    | none=>rfl
    | some t=>
     simp only [ob];cases fY n (iF t) (d8 t).2.2.1 (d8 t).2.2.2 g with
     | none=>rfl
     | some v=>
      simp only [ob];rw [show mF n v 10 10 10 (iF t) (d8 t).2.2.1 (d8 t).2.2.2 g o p j h m d.length c k a f b d=gm n v 10 10 10 (iF t) (d8 t).2.2.1 (d8 t).2.2.2 g o p j h m k a f b d from rfl];cases gm n v 10 10 10 (iF t) (d8 t).2.2.1 (d8 t).2.2.2 g o p j h m k a f b d with
      | none=>rfl
      | some z=>
       simp only [ob];cases (z != 0)<;>rfl) n (len L,0,L,K,D,KF,DF,KT,DT,e,l,w64 (len L - 1))
 simp only [u12,u11,u10,u9,u8,u7,u6,u5,u4,u3,u2] at this;rw [show (L.length,c,((L.length:Nat):Int),(0:Int),L,K,D,KF,DF,KT,DT,L.length,c,e,l,w64 (((L.length:Nat):Int) - 1))=(L.length,c,len L,0,L,K,D,KF,DF,KT,DT,L.length,c,e,l,w64 (len L - 1)) from rfl,this];rw [Option.map_id];rfl
theorem RY (n:Nat) (K:Int) (D:TD) (KF:Int) (DF:TD) (KT:Int) (DT:TD) (c:Nat) (e l:Bool) (L:List TI):iq n K D KF DF KT DT L.length c e l L=lP n K D KF DF KT DT e l L:=by
 unfold iq lP;rw [Uo,show oM n K D KF DF KT DT L.length c e l L=mg n K D KF DF KT DT e l L from rfl]
theorem JH {K:Int} {D:TD} {KF:Int} {DF:TD} {KT:Int} {DT:TD} {e l:Bool} {L:List TI} (h:smE D DF DT L) (c:Nat):
  iq 20000000 K D KF DF KT DT L.length c e l L=some (dU K D KF DF KT DT e l L):=(RY _ _ _ _ _ _ _ _ _ _ _).trans (Ix h)
noncomputable def setE (K:Int) (e l:Bool) (I:List TI):Int×Int:=dU K d0 0 d0 0 d0 e l I
noncomputable def endL (S:aa) (K:Int) (e:Bool) (p:Nat) (P:List Nat) (I:List TI):(Nat×Nat×Nat)⊕(Int×Bool×Bool×List TI×Nat):=
 if (S.drop (if dts (S.drop p) then p+2 else p)).head?=some (endC K) then
  if (setE K e (dts (S.drop p)) I).2=0 then .inr (K,e,dts (S.drop p),I,(if dts (S.drop p) then p+2 else p)+1)
  else .inl (P.getD (setE K e (dts (S.drop p)) I).1.toNat 0,10,(if dts (S.drop p) then p+2 else p)+1)
 else .inl ((if dts (S.drop p) then p+2 else p),5,(if dts (S.drop p) then p+2 else p))
noncomputable def CJ (S:aa) (a:Nat) (K:Int):(Nat×Nat×Nat)⊕(Int×Bool×Bool×List TI×Nat):=
 match o8 S (endC K) 256 (if dts (S.drop (a+1)) then a+3 else a+1) [] [] with
 | .inl f=>.inl f
 | .inr (p,P,I)=>endL S K (dts (S.drop (a+1))) p P I
noncomputable def wY (S:aa) (a:Nat):(Nat×Nat×Nat)⊕(Int×Bool×Bool×List TI×Nat):=
 if (S.drop a).head?=some 91 then CJ S a 3 else if (S.drop a).head?=some 123 then CJ S a 4 else .inl (a,5,a)
theorem UD {K:Int} (b:K=3\/K=4) {e l:Bool} {I:List TI} (a:1<=I.length):∃i:Nat,(setE K e l I).1=(i:Int)/\i<I.length:=by
 have hi:∃i:Nat,(xE K e l I).1=(i:Int)/\i<I.length:=by
  unfold xE;have:∀(J:List TI) (k:Nat) (p:Nat×Int),tu (errI K e l I.length) k J=some p->p.1<k+J.length:=by
   intro J
   induction J with
   | nil=>intro k p h;cases h
   | cons t r ih=>
    intro k p h;rw [tu] at h;split at h
    ·cases h;simp
    ·have:=ih (k+1) p h;simp;omega
  cases hs:tu (errI K e l I.length) 0 I with
  | none=>exact ⟨0,rfl,by omega⟩
  | some p=>exact ⟨p.1,rfl,by have:=this I 0 p hs;omega⟩
 unfold setE dU;rw [ab (by omega)];split
 ·exact ⟨0,rfl,by omega⟩
 ·rw [ab (by omega),ab (by omega),ab (by omega)];split
  ·exact ⟨0,rfl,by omega⟩
  ·exact hi
theorem R1 {I:List TI} (h:∀t∈I,smI t):smE d0 d0 d0 I:=⟨oG,oG,oG,h⟩
theorem Y2 (n:Nat) (I:List TI):bM n I=some (I.length,I.length):=by
 unfold bM;rw [cM (aV _)];show ob (bx I.length ((I.length:Nat):Int)) _=_;rw [cM (aV _)];rfl
def To (S:aa):(Nat×Nat×Nat)⊕(Int×Bool×Bool×List TI×Nat)->(Int×Int×aa×Int)⊕(Int×TD×Int×TD×Int×TD×Nat×Nat×Bool×Bool×aa×Int×List TI)
 | .inl f=>.inl ((f.1:Int),(f.2.1:Int),S,(f.2.2:Int))
 | .inr (K,e,l,I,p)=>.inr (K,d0,0,d0,0,d0,I.length,I.length,e,l,S,(p:Int),I)
theorem VJ {S:aa} (G:S.length<100000) {K:Int} (B:K=3\/K=4) (e:Bool) {p:Nat} (hp:p<=S.length) {P:List Nat} {I:List TI} (E:P.length=I.length) (D:1<=I.length) (hs:∀t∈I,smI t):
  (obs (bZ 20000000 [endC K] S ((if dts (S.drop p) then p+2 else p:Nat):Int)) (u2 λc b=>(ob (bM 20000000 I) (u2 λd f=>(ob (iq 20000000 K d0 0 d0 0 d0 d f e (dts (S.drop p)) I) (u2 λu n=>(cond (n != 0) (ob (ix (List.length (pD P)) u) λj=>(ob ((pD P)[j]?) λw=>(ob (aQ 20000000 w 10 c b) (u2 λo v=>(some (.inl (o,v,c,b))))))) (some (.inr (K,d0,0,d0,0,d0,d,f,e,(dts (S.drop p)),c,b,I))))))))) (u4 λs x m k=>(some (.inl (s,x,m,k))))) =
   some (To S (endL S K e p P I)):=by
 have C:(if dts (S.drop p) then p+2 else p:Nat)<=S.length:=by
  split
  ·rename_i h;exact tU h
  ·exact hp
 unfold endL;generalize (if dts (S.drop p) then p+2 else p:Nat)=q at *;generalize dts (S.drop p)=l;rw [AM _ _ _ _ C (by omega) (by simp) (by simp)];simp only [tk1];by_cases hc:(S.drop q).head?=some (endC K)
 ·rw [ae hc,ae hc];simp only [obs,sm,ob,u2,Y2,JH (R1 hs)];obtain ⟨i,z,F⟩:=UD B (e:=e) (l:=l) D;show cond ((setE K e l I).2 != 0) (ob (ix (pD P).length (setE K e l I).1) _) _=_;by_cases g:(setE K e l I).2=0
  ·rw [ae g,show ((setE K e l I).2 != 0)=false from by simp [g]];rfl
  ·have hi:i<(pD P).length:=by simp [pD];omega
   rw [ab g,show ((setE K e l I).2 != 0)=true from by simp [g],z,dY hi];have A:(pD P)[i]?=some ((P.getD i 0:Nat):Int):=by
    have hi':i<P.length:=by omega
    simp [pD,bh hi']
   simp only [ah,ob,A];rfl
 ·rw [ab hc,ab hc];have:lcp (S.drop q) [endC K]=0:=by
   cases y:S.drop q with
   | nil=>rfl
   | cons a r=>
    rw [y] at hc;simp only [lcp];rw [show (a==endC K)=false from by rw [aK];rintro rfl;exact hc rfl];rfl
  rw [this];rfl
theorem SO {S:aa} {a:Nat} (h:a<=S.length) (hS:S.length<100000):nD 20000000 S (a:Int)=some (To S (wY S a)):=by
 have b:∀(K:Int) (z:K=3\/K=4) (j:a+1<=S.length),(ob (ng 20000000 (K==4) S ((a+1:Nat):Int) ([]:List TI) ([]:List TI)) (u5 λv7 v8 v9 v10 v11=>(ob (gC 20000000 v9) (u2 λ_ A=>(ob (aB 20000000 [46,46] v7 v8) (u3 λH U L=>(obs (au (fh 20000000) 20000000 (A,U,L,v9,H,([]:List (Int)),v10,v11)) (u4 λC B W N=>(some (.inl (C,B,W,N)))) (u22 λJ R O _ _ _ _ _ _ _ _ w m o x s v y n u _ g=>(obs (bZ 20000000 J R O) (u2 λe d=>(ob (bM 20000000 g) (u2 λk l=>(ob (iq 20000000 w m o x s v k l y n g) (u2 λT G=>(cond (G != 0) (ob (ix (List.length u) T) λD=>(ob (u[D]?) λY=>(ob (aQ 20000000 Y 10 e d) (u2 λM V=>(some (.inl (M,V,e,d))))))) (some (.inr (w,m,o,x,s,v,k,l,y,n,e,d,g))))))))) (u4 λQ v44 F E=>(some (.inl (Q,v44,F,E))))))))))))) =
   some (To S (CJ S a K)):=by
  intro K z j;have hj:ng 20000000 (K==4) S ((a+1:Nat):Int) ([]:List TI) ([]:List TI)=some (S,((a+1:Nat):Int),K,[],[]):=by
   rcases z with rfl | rfl<;>rfl
  have X:aB 20000000 [46,46] S ((a+1:Nat):Int)=some (dts (S.drop (a+1)),S,((if dts (S.drop (a+1)) then a+3 else a+1:Nat):Int)):=by
   rw [nA _ _ _ _ j (by omega)];cases i:dts (S.drop (a+1))
   ·rw [ab (show ¬(S.drop (a+1)).take [(46:UInt8),46].length=[46,46] from λh=>by unfold dts at i;rw [show (S.drop (a+1)).take 2=[46,46] from h] at i;cases i)];rfl
   ·rw [ae (show (S.drop (a+1)).take [(46:UInt8),46].length=[46,46] from eq_of_beq i)];rfl
  have hp:(if dts (S.drop (a+1)) then a+3 else a+1:Nat)<=S.length:=by
   split
   ·rename_i h;have:=tU h;omega
   ·exact j
  have hl:=Ut (endC K) hS K (dts (S.drop (a+1))) [] 256 (if dts (S.drop (a+1)) then a+3 else a+1) [] [] (by simp) hp rfl 20000000 (by omega);simp only [hj,yG z,X,ob,u5,u4,u3,u2];rw [show au (fh 20000000) 20000000 ([endC K],S,((if dts (S.drop (a+1)) then a+3 else a+1:Nat):Int),K,dts (S.drop (a+1)),([]:List Int),([]:List TI),([]:List TI))=_ from hl];unfold CJ;cases hr:o8 S (endC K) 256 (if dts (S.drop (a+1)) then a+3 else a+1) [] [] with
  | inl f=>rfl
  | inr q=>
   obtain ⟨p,P,I⟩:=q;obtain ⟨q1,q2,q3,q4,q5⟩:=DC 256 _ [] [] hp rfl (λt X=>by cases X) hr;have q3':1<=I.length:=by rw [bH] at q3;omega
   exact VJ hS z (dts (S.drop (a+1))) q1 q2 q3' q5
 unfold nD wY;rw [Cc _ _ _ _ h (by omega)];cases i:S.drop a with
 | nil=>rfl
 | cons c r=>
  have j:a+1<=S.length:=by
   have:=cK List.length i;simp at this;omega
  simp only [sT,av];by_cases h1:c=91
  ·subst h1;rw [ae rfl];exact b 3 (.inl rfl) j
  ·by_cases Z:c=123
   ·subst Z;rw [ae rfl];exact b 4 (.inr rfl) j
   ·rw [ab h1,ab Z];have:hasB [91,123] c=false:=by
     unfold hasB;simp only [qY,List.any_nil,vI,pi,aK];exact ⟨λh=>h1 h.symm,λh=>Z h.symm⟩
    rw [this];rfl
def rat (l:aa):Nat:=match l with | c::_=>c.toNat | []=>0
theorem WY (l:aa) (c:UInt8) (hc:c≠0):(((rat l:Nat):Int)==((c.toNat:Nat):Int))=decide (l.head?=some c):=by
 cases l with
 | nil=>
  rw [ar (by simp)];rw [aK];intro h;have b:c.toNat=0:=by
   have:((0:Nat):Int)=((c.toNat:Nat):Int):=h;omega
  exact hc (gG.1 (by rw [b];rfl))
 | cons a r=>
  show (((a.toNat:Nat):Int)==((c.toNat:Nat):Int))=_;rw [n7];rw [uy];simp
theorem JI {S:aa} {d:UInt8} {p:Nat} (h:p<=S.length) {f:Nat×Nat×Nat} (a:qH S d p=.inl f):f.2.1≠0:=by
 unfold qH at a;cases c:fC S p with
 | inl g=>rw [c] at a;cases a;exact ym (k:=f.1) (E:=f.2.1) (p:=f.2.2) h c
 | inr r=>
  rw [c] at a;simp only [] at a;split at a
  ·rename_i e;cases b:fC S (enR r+2) with
   | inl g=>rw [b] at a;cases a;exact ym (k:=f.1) (E:=f.2.1) (p:=f.2.2) (tU e.1) b
   | inr i=>rw [b] at a;cases a
  ·cases a
theorem Ab {S:aa} {c:UInt8}:∀(r p:Nat) (P:List Nat) (I:List TI),p<=S.length->∀{f:Nat×Nat×Nat},o8 S c r p P I=.inl f->f.2.1≠0
 | 0,p,P,I,_,f,e=>by cases e;simp
 | r+1,p,P,I,h,f,e=>by
  rw [o8] at e;cases b:qH S c p with
  | inl g=>rw [b] at e;cases e;exact JI h b
  | inr q=>
   obtain ⟨t,a,i⟩:=q;rw [b] at e;simp only [] at e;split at e
   ·rename_i d;exact Ab r (i+1) _ _ (nW d) e
   ·cases e
theorem Kx {S:aa} {a:Nat} (h:a<=S.length) {f:Nat×Nat×Nat} (b:wY S a=.inl f):f.2.1≠0:=by
 have c:∀e:Int,a+1<=S.length->CJ S a e=.inl f->f.2.1≠0:=by
  intro e j b;unfold CJ at b;have hp:(if dts (S.drop (a+1)) then a+3 else a+1:Nat)<=S.length:=by
   split
   ·rename_i h;have:=tU h;omega
   ·exact j
  cases d:o8 S (endC e) 256 (if dts (S.drop (a+1)) then a+3 else a+1) [] [] with
  | inl g=>rw [d] at b;cases b;exact Ab 256 _ _ _ hp d
  | inr q=>
   obtain ⟨i,P,J⟩:=q;rw [d] at b;simp only [] at b;unfold endL at b;generalize (if dts (S.drop i) then i+2 else i:Nat)=k at b;split at b
   ·split at b
    ·cases b
    ·cases b;simp
   ·cases b;simp
 unfold wY at b;split at b
 ·rename_i d;exact c 3 (nW d) b
 ·split at b
  ·rename_i d;exact c 4 (nW d) b
  ·cases b;simp
noncomputable def H7 (S:aa):(Nat×Nat)⊕(Int×Bool×Bool×List TI):=match wY S 0 with
 | .inl f=>.inl (f.1,f.2.1)
 | .inr (K,e,l,I,p)=>if p<S.length then .inl (p,5) else .inr (K,e,l,I)
def brk (c:UInt8):Bool:=c==33||c==44||c==46||c==47||c==91||c==93||c==123||c==125
theorem S5:∀c,(!brk c||(!isYC c&&(!isMk c&&(!(c==45)&&!isDX c))))=true:=iL (λc=>!brk c||(!isYC c&&(!isMk c&&(!(c==45)&&!isDX c)))) (by decide +kernel)
theorem IG {c:UInt8} (h:brk c=true):isYC c=false/\isMk c=false/\(c==45)=false/\isDX c=false:=by
 have:=S5 c;rw [h] at this;simpa [aA] using this
theorem U4 {c:UInt8} (h:isDX c=true):brk c=false:=by
 cases a:brk c
 ·rfl
 ·rw [(IG a).2.2.2] at h;cases h
def endT (l:aa):Prop:=∀c,l.head?=some c->brk c=true
theorem Up {l:aa} (h:endT l):da isYC l/\da isMk l/\da (λc=>c==45) l:=⟨λc hc=>(IG (h c hc)).1,λc hc=>(IG (h c hc)).2.1,λc hc=>(IG (h c hc)).2.2.1⟩
theorem Hv:endT []:=λc h=>by cases h
theorem rk {c:UInt8} {l:aa} (h:brk c=true):endT (c::l):=λa b=>by
 simp only [sT,av] at b;rw [<-b];exact h
theorem N6 {g l:Bool} {d:aa} {x s:Nat} (h:okY g l d (x:Int) (s:Int)) (r:aa):da brk (gH g l d (x:Int) (s:Int)++r):=by
 have a:d≠[]:=by
  have:=(iY h).2.2.2.2.1;rintro rfl;simp at this
 rw [ki];cases l with
 | true=>exact eF (by decide)
 | false=>
  cases g with
  | true=>exact eF (by decide)
  | false=>
   simp only [bw,aC,dJ,fK];exact wb a (KB h) (λc=>U4)
def fU (x:TD):aa:=qL x.1 x.2.1 x.2.2.1 x.2.2.2.1 x.2.2.2.2.1 x.2.2.2.2.2.1 x.2.2.2.2.2.2.1 x.2.2.2.2.2.2.2.1.toNat x.2.2.2.2.2.2.2.2.1.toNat x.2.2.2.2.2.2.2.2.2.toNat
theorem oU {x:TD} (hs:smT x) (hc:cF x=0):∃(g l:Bool) (dg:aa) (e q:Nat) (m d:aa) (a b c:Nat),x=(g,l,dg,(e:Int),(q:Int),m,d,(a:Int),(b:Int),(c:Int))/\OkD g l dg e q m d a b c:=by
 have h:=pB hc;obtain ⟨g,l,dg,e,q,m,d,k0,k1,k2⟩:=x;obtain ⟨r,p,a,b,c,f,j,n,k,i,o⟩:=C4 hs.2.2.2.1 hs.2.2.2.2.1 hs.2.2.2.2.2 h;simp only at f j n k i;subst f j n k i;exact ⟨_,_,_,_,_,_,_,_,_,_,rfl,o⟩
theorem dfT {x:TD} (hs:smT x) (hc:cF x=0):ap10 (dh 20000000) x=some (fU x,0):=by
 have:=Ia 19999700 x.1 x.2.1 x.2.2.1 x.2.2.2.1 x.2.2.2.2.1 x.2.2.2.2.2.1 x.2.2.2.2.2.2.1 x.2.2.2.2.2.2.2.1 x.2.2.2.2.2.2.2.2.1 x.2.2.2.2.2.2.2.2.2 hs.1 hs.2.1 hs.2.2.2.1 hs.2.2.2.2.1 hs.2.2.2.2.2;rw [ae (pB hc)] at this;exact this
theorem rfT {x:TD} (hs:smT x) (hc:cF x=0):ap10 (dH 20000000) x=some (fU x):=
 NZ 19999700 hs.2.2.2.1 hs.2.2.2.2.1 hs.2.2.2.2.2 (pB hc)
theorem o7 {x:TD} (hs:smT x) (hc:cF x=0):(fU x).length<=37:=by
 obtain ⟨g,l,dg,e,q,m,d,a,b,c,rfl,ok⟩:=oU hs hc;exact Nh ok
theorem nM {x:TD} (hs:smT x) (hc:cF x=0) (r:aa):da brk (fU x++r):=by
 obtain ⟨g,l,dg,e,q,m,d,a,b,c,rfl,ok⟩:=oU hs hc;show da brk (qL g l dg (e:Int) (q:Int) m d a b c++r);unfold qL cD;rw [fK,fK,fK];exact ML _ (by decide) (by decide) (by decide) (N6 ok.yr _)
theorem sg {l:aa} (h:da brk l):dts l=false:=by
 cases a:dts l
 ·rfl
 ·obtain ⟨r,rfl⟩:=yx.1 a;exact absurd (h 46 rfl) (by decide)
theorem zU {x:TD} (hs:smT x) (hc:cF x=0) {S:aa} {a:Nat} {post:aa} (h:S.drop a=fU x++post) (hp:endT post):∃r,fC S a=.inr r/\tdR r=x/\enR r=a+(fU x).length:=by
 obtain ⟨g,l,dg,e,q,m,d,k0,k1,k2,rfl,ok⟩:=oU hs hc;obtain ⟨i,f,c⟩:=Up hp;obtain ⟨P,b⟩:=JD ok (S:=S) (a:=a) (post:=post) h i f c;refine ⟨(g,l,dg,e,q,m,d,(k0,k1,k2),P,a+(qL g l dg (e:Int) (q:Int) m d k0 k1 k2).length),?_,rfl,rfl⟩;unfold fC;rw [b];have j:chkR (g,l,dg,e,q,m,d,(k0,k1,k2),P,a+(qL g l dg (e:Int) (q:Int) m d k0 k1 k2).length)=0:=by
  unfold chkR;simp only [];have:chkF g l dg (e:Int) (q:Int) m d (k0:Int) (k1:Int) (k2:Int)=0:=hc;rw [this];rfl
 simp only [];rw [ae j]
structure OkI (t:TI):Prop where
 sm:smI t
 a:cF (iF t)=0
 b:rT t=true->cF (iT t)=0
 n:rT t=false->iT t=d0
def eQ (t:TI):aa:=if rT t then fU (iF t)++([46,46]++fU (iT t)) else fU (iF t)
theorem Ew {t:TI} (h:OkI t):(eQ t).length<=76:=by
 have e:=o7 h.sm.1 h.a;unfold eQ;split
 ·rename_i c;have d:=o7 h.sm.2 (h.b c);simp only [aR,aE,bH];omega
 ·omega
theorem Ou {t:TI} (h:OkI t) (r:aa):da brk (eQ t++r):=by
 unfold eQ;split
 ·rw [fK];exact nM h.sm.1 h.a _
 ·exact nM h.sm.1 h.a _
theorem xy {t:TI} (ok:OkI t) {d:UInt8} (j:brk d=true) {S:aa} {p:Nat} {post:aa} (h:S.drop p=eQ t++post) (hp:endT post) (s:dts post=true->(post.drop 2).head?=some d):
  ∃a,qH S d p=.inr (t,a,p+(eQ t).length):=by
 unfold eQ at h ⊢;unfold qH;cases c:rT t with
 | true=>
  rw [c,ae rfl,fK,fK] at h;obtain ⟨r,i,g,e⟩:=zU ok.sm.1 ok.a h (rk (by decide));have f:S.drop (enR r)=[46,46]++(fU (iT t)++post):=by rw [e];exact gJ h
  have l:S.drop (enR r+2)=fU (iT t)++post:=gJ (u:=[46,46]) f;have q:dts (S.drop (enR r))=true:=by rw [f];rfl
  have v:(S.drop (enR r+2)).head?≠some d:=by
   rw [l];intro y;have:=nM ok.sm.2 (ok.b c) post d y;rw [j] at this;cases this
  obtain ⟨z,o,w,x⟩:=zU ok.sm.2 (ok.b c) l hp;refine ⟨plR r,?_⟩;rw [i];simp only [];rw [ae ⟨q,v⟩,o];simp only [aO];rw [g,w,x,e];have:mkI (iF t) true (iT t)=t:=by rw [<-c]
  rw [this];have:p+(fU (iF t)).length+2+(fU (iT t)).length=p+(fU (iF t)++([46,46]++fU (iT t))).length:=by simp only [aR,aE,bH];omega
  rw [this]
 | false=>
  rw [c] at h;simp only [bw,aC] at h;obtain ⟨r,i,g,e⟩:=zU ok.sm.1 ok.a h hp;have f:S.drop (enR r)=post:=by rw [e];exact gJ h
  refine ⟨plR r,?_⟩;rw [i];simp only [];rw [ab,g,e]
  ·have:mkI (iF t) false d0=t:=by rw [<-c,<-ok.n c]
   rw [this];simp only [bw,aC]
  ·rintro ⟨m,k⟩;rw [f] at m;rw [<-jg,f] at k;exact k (s m)
def lg (I:List TI):aa:=(I.map λt=>44::eQ t).flatten
theorem xC {e:UInt8} (c:brk e=true) (b:e≠44) {post:aa} (hp:endT post) (d:post.head?≠some 44) (j:dts post=true->(post.drop 2).head?=some e):∀(I:List TI) (t:TI) (r p:Nat) {S:aa} (P:List Nat) (J:List TI),OkI t->(∀u∈I,OkI u)->I.length<r->S.drop p=eQ t++(lg I++post)->
  ∃i,o8 S e r p P J=.inr (p+(eQ t++lg I).length,i,J++t::I)
 | [],t,r+1,p,S,P,J,ok,_,k,h=>by
  obtain ⟨a,g⟩:=xy ok c (post:=post) (by simpa [lg] using h) hp j;refine ⟨P++[a],?_⟩;rw [o8,g];simp only [];have f:S.drop (p+(eQ t).length)=post:=gJ (by simpa [lg] using h);rw [f,ab d];simp [lg]
 | u::I,t,r+1,p,S,P,J,ok,oks,k,h=>by
  have s:lg (u::I)++post=44::(eQ u++(lg I++post)):=by simp [lg]
  rw [s] at h
  obtain ⟨a,g⟩:=xy ok c (post:=44::(eQ u++(lg I++post))) h (rk (by decide)) (λn=>by
   obtain ⟨r,l⟩:=yx.1 n;cases l)
  have f:S.drop (p+(eQ t).length)=44::(eQ u++(lg I++post)):=gJ h;have q:S.drop (p+(eQ t).length+1)=eQ u++(lg I++post):=gJ (u:=[44]) f;obtain ⟨i,o⟩:=xC c b hp d j I u r (p+(eQ t).length+1) (P++[a]) (J++[t]) (oks u lL) (λv m=>oks v (fi _ m)) (by simp at k;omega) q;refine ⟨i,?_⟩;rw [o8,g];simp only [];rw [f,sT,ae rfl,o];have:p+(eQ t).length+1+(eQ u++lg I).length=p+(eQ t++lg (u::I)).length:=by simp [lg];omega
  rw [this];simp
def tn (K:Int) (e l:Bool) (I:List TI):aa:=
 (if K=4 then 123 else 91)::((if e then [46,46] else [])++(Lib.join (I.map eQ) [44]++((if l then [46,46] else [])++[endC K])))
theorem CU (t:TI) (I:List TI):Lib.join ((t::I).map eQ) [44]=eQ t++lg I:=by
 rw [fV,Lib.join_cons];unfold Lib.joinTail lg;rw [tO];rfl
theorem JS {K:Int} (A:K=3\/K=4) {e l:Bool} {I:List TI} (D:1<=I.length) (C:I.length<=256) (ok:∀t∈I,OkI t) (q:(setE K e l I).2=0) {S:aa} {a:Nat} {post:aa} (h:S.drop a=tn K e l I++post):
  wY S a=.inr (K,e,l,I,a+(tn K e l I).length):=by
 obtain ⟨t,J,rfl⟩:∃t J,I=t::J:=by
  cases I with
  | nil=>simp at D
  | cons t J=>exact ⟨t,J,rfl⟩
 have g:brk (endC K)=true:=by unfold endC;split<;>decide
 have b:endC K≠44:=by unfold endC;split<;>decide
 have d:endC K≠46:=by unfold endC;split<;>decide
 unfold tn at h ⊢;rw [CU] at h ⊢;have m:S.drop (a+1)=(if e then [46,46] else [])++((eQ t++lg J)++((if l then [46,46] else [])++(endC K::post))):=by
  have:=gJ (u:=[if K=4 then 123 else 91]) (v:=((if e then [46,46] else [])++((eQ t++lg J)++((if l then [46,46] else [])++[endC K])))++post) (by rw [h];rfl);rw [show a+1=a+[if K=4 then (123:UInt8) else 91].length from rfl,this];simp only [fK,EX]
 have s:dts (S.drop (a+1))=e:=by
  rw [m];cases e
  ·simp only [bw,aC,dJ];rw [fK];exact sg (Ou (ok t lL) _)
  ·rfl
 have o:S.drop (if e then a+3 else a+1)=eQ t++(lg J++((if l then [46,46] else [])++(endC K::post))):=by
  rw [<-fK];cases e
  ·simpa using m
  ·have:=gJ (u:=[46,46]) m;simpa using this
 have B:endT ((if l then [46,46] else [])++(endC K::post)):=by
  cases l
  ·exact rk g
  ·exact rk (by decide)
 have k:((if l then [46,46] else [])++(endC K::post)).head?≠some 44:=by
  cases l
  ·simp [b]
  ·simp
 have f:dts ((if l then [46,46] else [])++(endC K::post))=l:=by
  cases l
  ·cases i:dts ((if false then [46,46] else [])++(endC K::post))
   ·rfl
   ·obtain ⟨r,n⟩:=yx.1 i;simp at n;exact absurd n.1 d
  ·rfl
 obtain ⟨P,p⟩:=xC g b B k (λi=>by rw [f] at i;subst i;rfl) J t 256 (if e then a+3 else a+1) [] [] (ok t lL) (λu z=>ok u (fi _ z)) (by simp at C;omega) o;have j:S.drop ((if e then a+3 else a+1)+(eQ t++lg J).length)=(if l then [46,46] else [])++(endC K::post):=by
  apply gJ;rw [o,fK]
 have c:CJ S a K=.inr (K,e,l,t::J,a+(((if K=4 then 123 else 91)::((if e then [46,46] else [])++((eQ t++lg J)++((if l then [46,46] else [])++[endC K]))):aa).length)):=by
  unfold CJ;rw [s,p];simp only [dJ];unfold endL;rw [j,f];generalize x:(if e then a+3 else a+1)+(eQ t++lg J).length=X at j ⊢;have y:S.drop (if l then X+2 else X)=endC K::post:=by
   cases l
   ·simpa using j
   ·have:=gJ (u:=[46,46]) j;simpa using this
  rw [y,sT,ae rfl,ae q];have:(if l then X+2 else X)+1=a+(((if K=4 then 123 else 91)::((if e then [46,46] else [])++((eQ t++lg J)++((if l then [46,46] else [])++[endC K]))):aa).length):=by
   rw [<-x];cases e<;>cases l<;>simp<;>omega
  rw [this]
 unfold wY;have w:(S.drop a).head?=some (if K=4 then 123 else 91):=by rw [h];rfl
 rw [w];rcases A with rfl | rfl
 ·rw [ae (show some (if (3:Int)=4 then (123:UInt8) else 91)=some 91 from rfl)];exact c
 ·rw [ab (show ¬some (if (4:Int)=4 then (123:UInt8) else 91)=some 91 by decide),ae (show some (if (4:Int)=4 then (123:UInt8) else 91)=some 123 from rfl)];exact c
theorem wJ {x y:TD} {r all:Bool} (h:itE x r y all=0):cF x=0/\(r=true->cF y=0)/\(r=false->y=d0)/\itE x r y false=0:=by
 by_cases hc:cF x=0
 ·refine ⟨hc,?_⟩;cases r
  ·rw [Wq hc] at h ⊢;have hy:eqD y d0=true:=by
    cases a:eqD y d0
    ·rw [a] at h;simp at h
    ·rfl
   exact ⟨λh=>(by cases h),λ_=>od.1 hy,by rw [hy];simp⟩
  ·by_cases hy:cF y=0
   ·rw [Xb hc hy] at h ⊢;have b:ordB x y=true:=by
     cases a:ordB x y
     ·rw [a] at h;simp at h
     ·rfl
    exact ⟨λ_=>hy,λh=>(by cases h),by rw [b];simp⟩
   ·rw [Rb hc hy] at h;exact absurd h hy
 ·rw [VT hc] at h;exact absurd h hc
theorem V7 {t:TI} {all:Bool} (hs:smI t) (h:itI t all=0):OkI t:=by
 obtain ⟨a,b,c,_⟩:=wJ h;exact ⟨hs,a,b,c⟩
theorem Gh {x y:TD} (r:Bool) (hx:smT x) (hy:smT y):jO 20000000 x r y=some (if itE x r y false=0 then (eQ (mkI x r y),0) else ([],itE x r y false)):=by
 unfold jO;rw [Gp r hx hy,ae (.inl rfl),show ((3:Int)==4)=false from rfl];simp only [ob];by_cases h:itE x r y false=0
 ·obtain ⟨a,b,c,_⟩:=wJ h;rw [ae h,h,dfT hx a];simp only [eC,af,u2];cases r
  ·rfl
  ·have e:=o7 hx a;have d:=o7 hy (b rfl);simp only [ah,dfT hy (b rfl)];rw [cJ (by simp only [aE,bH];omega)];simp only [];rw [cJ (by simp only [aR,aE,bH];omega)];rfl
 ·rw [ab h,show (itE x r y false != 0)=true from by simp [h]];rfl
theorem D3:∀{I:List TI},(∀t∈I,OkI t)->(lg I).length<=77*I.length
 | [],_=>by simp [lg]
 | t::I,h=>by
  have c:=Ew (h t lL);have b:=D3 (I:=I) λu a=>h u (fi _ a);have:lg (t::I)=(44::eQ t)++lg I:=by simp [lg]
  rw [this];simp only [aR,aE];omega
theorem D8 {I:List TI} (h:∀t∈I,OkI t):(Lib.join (I.map eQ) [44]).length<=77*I.length:=by
 cases I with
 | nil=>simp [Lib.join_nil]
 | cons t I=>
  have b:=Ew (h t lL);have c:=D3 (I:=I) λu a=>h u (fi _ a);rw [CU];simp only [aR,aE];omega
theorem Oc {I:List TI} {i:Nat} {t:TI} (h:I[i]?=some t) (w:aa) (a:w=eQ t):((I.take i).map eQ++List.replicate (I.length - i) []).set i w=(I.take (i+1)).map eQ++List.replicate (I.length - (i+1)) []:=by
 have hi:i<I.length:=(oV.1 h).1;obtain ⟨k,c⟩:∃k,I.length - i=k+1:=⟨I.length - i - 1,by omega⟩;have b:((I.take i).map eQ).length=i:=by simp;omega
 rw [c,tC,show I.length - (i+1)=k by omega,rt,h,a];rw [List.set_append_right _ _ (by omega),b,B9];simp
theorem ME {I:List TI} (hs:∀t∈I,OkI t/\itI t false=0) (h:I.length<=1000) (K:Int) (D:TD) (KF:Int) (DF:TD) (KT:Int) (DT:TD) (e l:Bool):∀(r i:Nat),i+r=I.length->∀N,r<N->
  au (eI 20000000) N (len I,(i:Int),I,K,D,KF,DF,KT,DT,e,l,(I.take i).map eQ++List.replicate (I.length - i) [])=some (I,K,D,KF,DF,KT,DT,e,l,I.map eQ):=by
 intro r
 induction r with
 | zero=>
  intro i hi N g;obtain ⟨N,rfl⟩:∃k,N=k+1:=⟨N - 1,by omega⟩;obtain rfl:i=I.length:=by omega
  have:eI 20000000 (len I,((I.length:Nat):Int),I,K,D,KF,DF,KT,DT,e,l,(I.take I.length).map eQ++List.replicate (I.length - I.length) [])=some (.inr (I,K,D,KF,DF,KT,DT,e,l,I.map eQ)):=by
   unfold eI;simp only [u12,u11,u10,u9,u8,u7,u6,u5,u4,u3,u2];rw [ar (show ¬((I.length:Nat):Int)<len I by show ¬((I.length:Nat):Int)<((I.length:Nat):Int);omega),B9,mE];simp
  rw [au,this]
 | succ r ih=>
  intro i hi N g;obtain ⟨N,rfl⟩:∃k,N=k+1:=⟨N - 1,by omega⟩;have a:i<I.length:=by omega
  have b:I[i]?=some I[i]:=bh a;obtain ⟨ok,c⟩:=hs _ (Em a);generalize I[i]=t at b ok c;have f:((I.take i).map eQ++List.replicate (I.length - i) ([]:aa)).length=I.length:=by simp;omega
  have:eI 20000000 (len I,(i:Int),I,K,D,KF,DF,KT,DT,e,l,(I.take i).map eQ++List.replicate (I.length - i) [])=some (.inl (len I,((i+1:Nat):Int),I,K,D,KF,DF,KT,DT,e,l,(I.take (i+1)).map eQ++List.replicate (I.length - (i+1)) [])):=by
   unfold eI;simp only [u12,u11,u10,u9,u8,u7,u6,u5,u4,u3,u2];rw [am (show (i:Int)<len I by show (i:Int)<((I.length:Nat):Int);omega),dY a];simp only [ah,ob,b];rw [show jO 20000000 (iF t) (d8 t).2.2.1 (d8 t).2.2.2=some (eQ t,0) from (Gh (rT t) ok.sm.1 ok.sm.2).trans (by rw [ae (show itE (iF t) (rT t) (iT t) false=0 from c)])];simp only [f];rw [dY a];simp only [];obtain ⟨w,d⟩:∃w,((I.take i).map eQ++List.replicate (I.length - i) ([]:aa))[i]?=some w:=⟨_,bh (by omega)⟩;rw [d];simp only [u2];rw [Oc b _ rfl,qx (by omega)]
  rw [au,this];exact ih (i+1) (by omega) N (by omega)
structure SetP (K:Int) (D:TD) (KF:Int) (DF:TD) (KT:Int) (DT:TD) (e l:Bool) (I:List TI):Prop where
 kind:K=3\/K=4
 d:D=d0
 kf:KF=0
 df:DF=d0
 kt:KT=0
 dt:DT=d0
 one:1<=I.length
 most:I.length<=256
 its:∀t∈I,itI t (K==4)=0
 set:(setE K e l I).2=0
theorem zC {A:Type} {f:Nat->A->Int}:∀{L:List A} {k:Nat},tu f k L=none->∀t∈L,∃i,f i t=0
 | u::L,k,h,t,a=>by
  rw [tu] at h;split at h
  ·cases h
  ·rename_i b;rcases cf.1 a with rfl | a
   ·exact ⟨k,M8.1 b⟩
   ·exact zC h t a
theorem HI {A:Type} {f:Nat->A->Int}:∀{L:List A} {k:Nat} {p:Nat×Int},tu f k L=some p->p.2≠0
 | u::L,k,p,h=>by
  rw [tu] at h;split at h
  ·rename_i a;cases h;exact a
  ·exact HI h
theorem WM {K:Int} {e l:Bool} {n i:Nat} {t:TI} (h:errI K e l n i t=0):itI t (K==4)=0:=by
 unfold errI at h;split at h
 ·rename_i a;exact absurd h a
 ·rename_i a;exact M8.1 a
theorem DD {K:Int} (g:K=3\/K=4) {D:TD} {KF:Int} {DF:TD} {KT:Int} {DT:TD} {e l:Bool} {I:List TI} (h:(dU K D KF DF KT DT e l I).2=0):SetP K D KF DF KT DT e l I:=by
 have q:=h;unfold dU at h;rw [ab (by omega)] at h;split at h
 ·simp at h
 ·rename_i f;rw [ab (by omega),ab (by omega)] at h;split at h
  ·simp at h
  ·split at h
   ·simp at h
   ·unfold xE at h;have o:D=d0/\KF=0/\DF=d0/\KT=0/\DT=d0:=by
     unfold unuB at f;have k1:(K==1)=false:=by rcases g with rfl | rfl<;>rfl
     have k2:(K==2)=false:=by rcases g with rfl | rfl<;>rfl
     have r:(K==3||(K==4||(decide (I.length=0)&&(!e&&!l))))=true:=by rcases g with rfl | rfl<;>rfl
     rw [k1,k2,r] at f;generalize m:eqD D d0=z1 at f;generalize n:eqD DF d0=z2 at f;generalize k:eqD DT d0=s at f;simp only [oP,cZ,vI,EF,g9,kQ,not_or,Bool.not_eq_false,aA,bu] at f;obtain ⟨a,⟨b,c⟩,d,e⟩:=f;exact ⟨od.1 (m.trans a),b,od.1 (n.trans c),d,od.1 (k.trans e)⟩
    obtain ⟨rfl,rfl,rfl,rfl,rfl⟩:=o;cases hs:tu (errI K e l I.length) 0 I with
    | some p=>rw [hs] at h;exact absurd h (HI hs)
    | none=>
     refine ⟨g,rfl,rfl,rfl,rfl,rfl,by omega,by omega,λt j=>?_,q⟩;obtain ⟨i,hi⟩:=zC hs t j;exact WM hi
theorem IE {K:Int} {D:TD} {KF:Int} {DF:TD} {KT:Int} {DT:TD} {e l:Bool} {I:List TI} (p:SetP K D KF DF KT DT e l I) (hs:∀t∈I,smI t):∀t∈I,OkI t/\itI t false=0:=
 λt a=>⟨V7 (hs t a) (p.its t a),(wJ (p.its t a)).2.2.2⟩
def CN (K:Int):Prop:=K=3\/K=4
instance (K:Int):Decidable (CN K):=inferInstanceAs (Decidable (K=3\/K=4))
theorem SA {K:Int} {D:TD} {KF:Int} {DF:TD} {KT:Int} {DT:TD} {e l:Bool} {I:List TI} (h:smE D DF DT I):
  pC 20000000 K D KF DF KT DT e l I=some (if CN K then (if (dU K D KF DF KT DT e l I).2=0 then (tn K e l I,0) else ([],(dU K D KF DF KT DT e l I).2)) else ([],18)):=by
 have c:∀z:CN K,(ob (iv 20000000 K D KF DF KT DT e l I) λj=>(cond (j != 0) (some ([],j)) (cond (decide ((0:Int)<=(len I))&&(decide ((len I)<=(len I))&&decide ((len I)<=(67108864:Int)))) (ob (au (eI 20000000) 20000000 ((len I),0,I,K,D,KF,DF,KT,DT,e,l,(List.replicate (Int.toNat (len I)) ([]:aa)))) (u10 λ_ s _ _ _ _ _ r i a=>(ob (gC 20000000 s) (u2 λf b=>(cond r (ob (cat f ([46,46]:aa)) λg=>(cond i (ob (cat ([46,46]:aa) b) λA=>(cond (Nat.ble (List.length a) 140737488355328&&Nat.ble (List.length (Lib.join a ([44]:aa))) 140737488355328) (ob (cat g (Lib.join a ([44]:aa))) λu=>(ob (cat u A) λx=>(some (x,0)))) none)) (cond (Nat.ble (List.length a) 140737488355328&&Nat.ble (List.length (Lib.join a ([44]:aa))) 140737488355328) (ob (cat g (Lib.join a ([44]:aa))) λB=>(ob (cat B b) λq=>(some (q,0)))) none))) (cond i (ob (cat ([46,46]:aa) b) λv=>(cond (Nat.ble (List.length a) 140737488355328&&Nat.ble (List.length (Lib.join a ([44]:aa))) 140737488355328) (ob (cat f (Lib.join a ([44]:aa))) λy=>(ob (cat y v) λp=>(some (p,0)))) none)) (cond (Nat.ble (List.length a) 140737488355328&&Nat.ble (List.length (Lib.join a ([44]:aa))) 140737488355328) (ob (cat f (Lib.join a ([44]:aa))) λC=>(ob (cat C b) λo=>(some (o,0)))) none))))))) none))) =
   some (if (dU K D KF DF KT DT e l I).2=0 then (tn K e l I,(0:Int)) else ([],(dU K D KF DF KT DT e l I).2)):=by
  intro z;rw [ww h];simp only [ob];by_cases k:(dU K D KF DF KT DT e l I).2=0
  ·have P:=DD z k;have L:=P.most;have oks:=IE P h.2.2.2;have F:=D8 λt J=>(oks t J).1;rw [ae k,k];have d:=ME oks (by omega) K D KF DF KT DT e l I.length 0 (by omega) 20000000 (by omega);simp only [eC,af];have H:(decide ((0:Int)<=(len I))&&(decide ((len I)<=(len I))&&decide ((len I)<=(67108864:Int))))=true:=by
    have:len I=((I.length:Nat):Int):=rfl;rw [this];simp only [aA,cn];omega
   rw [H,ah,show (List.replicate (Int.toNat (len I)) ([]:aa))=(I.take 0).map eQ++List.replicate (I.length - 0) [] from by simp];rw [show au (eI 20000000) 20000000 (len I,(0:Int),I,K,D,KF,DF,KT,DT,e,l,(I.take 0).map eQ++List.replicate (I.length - 0) [])=_ from d];have G:(Nat.ble (List.length (I.map eQ)) 140737488355328&&Nat.ble (List.length (Lib.join (I.map eQ) ([44]:aa))) 140737488355328)=true:=by
    simp only [aA];exact ⟨cT (by simp;omega),cT (by omega)⟩
   simp only [u10,u9,u8,u7,u6,u5,u4,u3,u2,yG z,G,ah];unfold tn;generalize E:(if K=4 then (123:UInt8) else 91)=b1;generalize endC K=b2;generalize Lib.join (I.map eQ) [44]=w at F;cases e<;>cases l<;>simp only [ah,af]
   ·rw [cJ (by simp only [aE,bH];omega)];simp only [];rw [cJ (by simp only [aR,aE,bH];omega)];simp
   ·rw [cJ (by simp only [aE,bH];omega)];simp only [];rw [cJ (by simp only [aE,bH];omega)];simp only [];rw [cJ (by simp only [aR,aE,bH];omega)];simp
   ·rw [cJ (by simp only [aE,bH];omega)];simp only [];rw [cJ (by simp only [aR,aE,bH];omega)];simp only [];rw [cJ (by simp only [aR,aE,bH];omega)];simp
   ·rw [cJ (by simp only [aE,bH];omega)];simp only [];rw [cJ (by simp only [aE,bH];omega)];simp only [];rw [cJ (by simp only [aR,aE,bH];omega)];simp only [];rw [cJ (by simp only [aR,aE,bH];omega)];simp
  ·rw [ab k,show ((dU K D KF DF KT DT e l I).2 != 0)=true from by simp [k]];rfl
 unfold pC;by_cases n:K=3
 ·rw [show (K != 3)=false from by simp [n],ae (.inl n)];exact c (.inl n)
 ·rw [show (K != 3)=true from by simp [n],ah];by_cases m:K=4
  ·rw [show (K != 4)=false from by simp [m],ae (.inr m)];exact c (.inr m)
  ·rw [show (K != 4)=true from by simp [m],ab (by rintro (h | h)<;>contradiction)];rfl
theorem Jf {K:Int} (a:CN K) {e l:Bool} {I:List TI} (c:1<=I.length) (b:I.length<=256) (ok:∀t∈I,OkI t) (d:(setE K e l I).2=0):H7 (tn K e l I)=.inr (K,e,l,I):=by
 unfold H7;rw [JS a c b ok d (post:=[]) (by rw [cw,ln])];simp only [];rw [ab (by omega)]
theorem Yj {c:UInt8} (h:mkOf c≠0):mt (mkOf c)=[c]:=by
 unfold mkOf at h ⊢;by_cases b:c=63
 ·subst b;rfl
 ·rw [ab b] at h ⊢;by_cases a:c=126
  ·subst a;rfl
  ·rw [ab a] at h ⊢;by_cases d:c=37
   ·subst d;rfl
   ·rw [ab d] at h;exact absurd rfl h
theorem Ux (l:aa):l=mt (mkS l)++l.drop (mkN l):=by
 cases l with
 | nil=>rfl
 | cons c r=>
  unfold mkN;show c::r=mt (mkOf c)++_;by_cases h:mkOf c=0
  ·rw [ae (show mkS (c::r)=0 from h),h];rfl
  ·rw [ab (show ¬mkS (c::r)=0 from h),Yj h];rfl
theorem HW (S:aa) (p:Nat):S.drop p=mt (mkS (S.drop p))++S.drop (mkE S p):=by
 have:=Ux (S.drop p);rw [jg] at this;exact this
theorem Lt (S:aa) (p:Nat):mkE S p=p+(mt (mkS (S.drop p))).length:=by
 unfold mkE mkN;have a:=Ed (S.drop p);generalize mkS (S.drop p)=k at *;rcases (by omega:k=0\/k=1\/k=2\/k=3) with rfl | rfl | rfl | rfl<;>rfl
theorem Da {S:aa} {p:Nat} (h:¬twoN (S.drop p)<2):S.drop p=(S.drop p).take 2++S.drop (p+2)/\((S.drop p).take 2).length=2/\∀c∈(S.drop p).take 2,isDX c=true:=by
 have b:=vu h;have a:twoN (S.drop p)=2:=by
  have:twoN (S.drop p)<=2:=by
   unfold twoN;have:∀(k:Nat) (l:aa),bI isDX k l<=k:=by
    intro k
    induction k with
    | zero=>intro l;cases l<;>simp [bI]
    | succ k ih=>
     intro l;cases l with
     | nil=>simp [bI]
     | cons c r=>
      simp only [bI];split
      ·have:=ih r;omega
      ·omega
   exact this 2 _
  omega
 refine ⟨by rw [<-jg];exact (tD 2 _).symm,by simp;omega,?_⟩;have:=An (p:=isDX) 2 (S.drop p);rw [show bI isDX 2 (S.drop p)=2 from a] at this;exact this
theorem Ah {S:aa} {p:Nat} (h:¬fq 45 (S.drop p)=0):S.drop p=45::S.drop (p+1):=by
 cases a:S.drop p with
 | nil=>rw [a] at h;exact absurd rfl h
 | cons c r=>
  rw [a,kn] at h;by_cases hc:c=45
  ·subst hc;rw [<-jg,a];rfl
  ·rw [ab hc] at h;exact absurd rfl h
theorem uS {S:aa} {p k:Nat} {w:aa} (h:S.drop (mkE S p)=w++S.drop (mkE S p+k)):S.drop p=cD (mkS (S.drop p)) (mkS (S.drop (mkE S p+k))) w++S.drop (mkE S (mkE S p+k)):=by
 unfold cD;rw [fK,fK,<-HW,<-h,<-HW]
theorem Lj {S:aa} {a:Nat} {g l:Bool} {dg:aa} {x s:Nat} {m d:aa} {M P:Nat×Nat×Nat} {e:Nat} (b:rD S a=.inr (g,l,dg,x,s,m,d,M,P,e)):
  ∃A B,MkD A B m d/\M=spM A B/\P.1=a+(mt A.1).length/\S.drop a=rawD A B g l dg (x:Int) (s:Int) m d++S.drop e:=by
 unfold rD at b;cases hy:pU (S.drop (mkE S a)) with
 | inl k=>rw [hy] at b;cases b
 | inr y=>
  obtain ⟨F,K,q,N,s',k⟩:=y;obtain ⟨E,Q,_⟩:=rh hy;have C:S.drop (mkE S a)=gH F K q (N:Int) (s':Int)++S.drop (mkE S a+k):=by
   rw [<-E,<-jg];exact (tD k _).symm
  have w0:=uS C;have c:=λp=>Ed (S.drop p);rw [hy] at b;simp only [] at b;by_cases u:0<s'\/fq 45 (S.drop (mkE S (mkE S a+k)))=0
  ·rw [ae u] at b;simp only [oz,bV] at b;obtain ⟨rfl,rfl,rfl,rfl,rfl,rfl,rfl,rfl,rfl,rfl⟩:=b;refine ⟨(mkS (S.drop a),0,0),(mkS (S.drop (mkE S a+k)),0,0),⟨c _,by simp,by simp,c _,by simp,by simp,λ_=>⟨rfl,rfl⟩,λ_=>⟨rfl,rfl⟩⟩,rfl,Lt S a,?_⟩;unfold rawD;simpa using w0
  ·rw [ab u] at b;have z:=Ah (λh=>u (.inr h));unfold rd2 at b;simp only [] at b;generalize L:mkE S (mkE S a+k)=i at *;by_cases t:twoN (S.drop (mkE S (i+1)))<2
   ·rw [ae t] at b;cases b
   rw [ab t] at b;obtain ⟨H,w,O⟩:=Da t;have v:=uS H;have f:(S.drop (mkE S (i+1))).take 2≠[]:=λh=>by rw [h] at w;simp at w
   by_cases r:fq 45 (S.drop (mkE S (mkE S (i+1)+2)))=0
   ·rw [ae r] at b;simp only [oz,bV] at b;obtain ⟨rfl,rfl,rfl,rfl,rfl,rfl,rfl,rfl,rfl,rfl⟩:=b;refine ⟨(mkS (S.drop a),mkS (S.drop (i+1)),0),(mkS (S.drop (mkE S a+k)),mkS (S.drop (mkE S (i+1)+2)),0),⟨c _,c _,by simp,c _,c _,by simp,λh=>absurd h f,λ_=>⟨rfl,rfl⟩⟩,rfl,Lt S a,?_⟩;unfold rawD;rw [ab f,ae rfl,ln,fK,eW,<-v,<-z];exact w0
   ·rw [ab r] at b;have J:=Ah r;unfold rd3 at b;generalize D:mkE S (mkE S (i+1)+2)=n at *;by_cases o:twoN (S.drop (mkE S (n+1)))<2
    ·rw [ae o] at b;cases b
    rw [ab o] at b;obtain ⟨G,u2,u3⟩:=Da o;have I:=uS G;have j:(S.drop (mkE S (n+1))).take 2≠[]:=λh=>by rw [h] at u2;simp at u2
    simp only [oz,bV] at b;obtain ⟨rfl,rfl,rfl,rfl,rfl,rfl,rfl,rfl,rfl,rfl⟩:=b;refine ⟨(mkS (S.drop a),mkS (S.drop (i+1)),mkS (S.drop (n+1))),(mkS (S.drop (mkE S a+k)),mkS (S.drop (mkE S (i+1)+2)),mkS (S.drop (mkE S (n+1)+2))),⟨c _,c _,c _,c _,c _,c _,λh=>absurd h f,λh=>absurd h j⟩,rfl,Lt S a,?_⟩;unfold rawD;rw [ab f,ab j,fK,fK,eW,eW,<-I,<-J,<-v,<-z];exact w0
def okC (c:UInt8):Bool:=isDX c||(isMk c||(c==45||(c==89||(c==69||c==83))))
def isLv (c:UInt8):Bool:=c==69||(c==83||isMk c)
theorem Us:∀c:UInt8,(!okC c||decide (c.toNat<128))=true:=iL (λc=>!okC c||decide (c.toNat<128)) (by decide +kernel)
theorem WF {c:UInt8} (h:okC c=true):c.toNat<128:=by
 have:=Us c;rw [h] at this;simpa using this
def dgC (c:UInt8):UInt8:=if bf c then 100 else c
theorem VW:∀c:UInt8,(!decide (c.toNat<128)||(decide (0<=pw (c.toNat:Int))&&(Lib.encodeRune (pw (c.toNat:Int))==[dgC c])))=true:=
 iL (λc=>!decide (c.toNat<128)||(decide (0<=pw (c.toNat:Int))&&(Lib.encodeRune (pw (c.toNat:Int))==[dgC c]))) (by decide +kernel)
theorem Jc:∀{l:aa},(∀c∈l,c.toNat<128)->zE l=l.map dgC:=by
 have a:∀(n:Nat) (l:aa),l.length=n->(∀c∈l,c.toNat<128)->Lib.mapGoD pw n l=l.map dgC:=by
  intro n
  induction n with
  | zero=>intro l b _;rw [ur b];rfl
  | succ n ih=>
   intro l b h;cases l with
   | nil=>simp at b
   | cons c r=>
    have e:Lib.decodeL (c::r)=(c.toNat,1):=AG (l:=c::r) (i:=0) rfl (h c lL);rw [Lib.mapGoD,ab (by simp),e];have:=VW c;rw [am (h c lL)] at this;simp only [cZ,oP,aA,cn,bu] at this;rw [ae this.1,this.2];rw [show (c::r).drop 1=r from rfl,ih r (by simpa using b) (λd e=>h d (fi _ e))];rfl
 intro l h;exact a l.length l rfl h
theorem wH (s a:aa):Lib.containsAny s a=s.any (a.contains ·):=by
 induction s with
 | nil=>rfl
 | cons b l ih=>
  unfold Lib.containsAny at ih ⊢;have d:=Lib.indexAny_ge a l;rw [Lib.indexAny,qY];cases c:a.contains b
  ·rw [ab (by simp),oP,<-ih];by_cases h:Lib.indexAny l a=-1
   ·rw [ae (by simp [h]),h]
   ·rw [ab (by simp [h])];congr 1;exact propext (by omega)
  ·simp
def vT (u:aa):aa:=match u with | c::r=>if c=45 then r else c::r | []=>[]
def jR:List (aa):=[[100,100,100,88],[100,100,88,88],[100,100,100,100,45,88,88],[100,100,100,100,45,100,100,45,88,88],[100,100,100,100,45,88,88,45,88,88]]
def simB (v:aa):Bool:=jR.contains (v.map dgC)
theorem O3 (n:Nat) (u:aa):jb n u=some (vT u):=by
 unfold jb fX fm vT;cases u with
 | nil=>rfl
 | cons c r=>
  have a:bx (c::r).length (1:Int)=some 1:=cM (i:=1) (by simp);rw [am (show (((c::r).length:Nat):Int)>=1 by rw [aE];omega),ah,a];simp only [ob,mK,mM,cw];by_cases hc:c=45
  ·subst hc;rw [ae rfl];simp
  ·rw [ab hc,show (([c]:aa)==[45])=false from by simp [hc]];rfl
theorem YZ (n:Nat) (u:aa):cU n u=some (decide (u.head?=some 89)):=by
 unfold cU ft;cases u with
 | nil=>rfl
 | cons c r=>
  have a:bx (c::r).length (1:Int)=some 1:=cM (i:=1) (by simp);rw [am (show (((c::r).length:Nat):Int)>=1 by rw [aE];omega),ah,a];simp only [ob,mK,mM,cw,sT,av];rw [show (([c]:aa)==[89])=decide (c=89) from by rw [uy];simp]
theorem yX (v:aa):dm 20000000 v jR=some (jR.contains v):=by
 have c:∀(r i:Nat),i+r=5->∀N,r<N->au (br 20000000) N (v,5,(i:Int),jR)=some (if (jR.drop i).contains v then .inl ((i+(jR.drop i).idxOf v:Nat):Int) else .inr ()):=by
  intro r
  induction r with
  | zero=>
   intro i hi N g;obtain ⟨N,rfl⟩:∃k,N=k+1:=⟨N - 1,by omega⟩;obtain rfl:i=5:=by omega
   rw [au];rfl
  | succ r ih=>
   intro i hi N g;obtain ⟨N,rfl⟩:∃k,N=k+1:=⟨N - 1,by omega⟩;have a:i<jR.length:=by show i<5;omega
   have d:=bh a;have:br 20000000 (v,5,(i:Int),jR)=some (if v=jR[i] then .inr (.inl (i:Int)) else .inl (v,5,((i+1:Nat):Int),jR)):=by
    unfold br;simp only [];rw [am (show (i:Int)<5 by omega),ah,dY a];simp only [ob,d];rw [show IntKind.wrap .i64 ((i:Int)+1)=((i+1:Nat):Int) from qx (by omega),ja];split<;>rfl
   rw [au,this,pG a];by_cases b:v=jR[i]
   ·rw [ae b];simp only [];rw [<-b];simp
   ·rw [ab b];simp only [];rw [ih (i+1) (by omega) N (by omega)];have f:(jR[i]==v)=false:=by simp;exact λh=>b h.symm
    have e:(v==jR[i])=false:=by simp;exact b
    rw [List.contains_cons,e,oP,List.idxOf_cons,f];simp only [af];rw [show i+1+List.idxOf v (List.drop (i+1) jR)=i+(List.idxOf v (List.drop (i+1) jR)+1) by omega]
 have:=c 5 0 rfl 20000000 (by omega);unfold dm e7;rw [show au (br 20000000) 20000000 (v,(((List.length jR):Nat):Int),0,jR)=_ from this];rw [cw];cases h:jR.contains v
 ·rfl
 ·simp only [aO,ob];rw [am (by omega)]
def lvl (u:aa) (b X:Bool) (code:Int):Int:=
 if u.any isLv then 2 else if 24<code then 2 else if (X&&!simB (vT u))=true then 2
 else if b=true\/X=true\/0<code\/u.head?=some 45\/u.head?=some 89 then 1 else 0
structure Body (T u:aa) (k:Nat):Prop where
 eq:T=u++mt k
 k4:k<4
 last:∃v z,u=v++[z]/\isMk z=false
 asc:∀c∈T,c.toNat<128
 len:T.length<=1000
theorem Body.ne {T u:aa} {k:Nat} (h:Body T u k):u≠[]:=by
 obtain ⟨v,z,rfl,_⟩:=h.last;simp
theorem Body.ascu {T u:aa} {k:Nat} (h:Body T u k):∀c∈u,c.toNat<128:=λc hc=>h.asc c (by rw [h.eq];exact List.mem_append_left _ hc)
theorem Body.lenu {T u:aa} {k:Nat} (h:Body T u k):u.length<=1000:=by
 have:=h.len;rw [h.eq,aR] at this;omega
theorem Q7 (c:UInt8):([63,126,37]:aa).contains c=isMk c:=by
 have:=iL (λc=>([63,126,37]:aa).contains c==isMk c) (by decide +kernel) c;simpa using this
theorem XL {k:Nat} (h:k<4):∀c∈mt k,isMk c=true/\c≠69/\c≠83/\c≠88:=by
 rcases (by omega:k=0\/k=1\/k=2\/k=3) with rfl | rfl | rfl | rfl<;>simp [mt,isMk,mkOf]
theorem MO {p:UInt8->Bool}:∀{l:aa},(∀c∈l,p c=true)->l.dropWhile p=[]
 | [],_=>rfl
 | c::l,h=>by rw [List.dropWhile_cons,h c lL];exact MO λd a=>h d (fi _ a)
theorem yQ {T u:aa} {k:Nat} (h:Body T u k):Lib.trimRightS T [63,126,37]=u:=by
 obtain ⟨v,z,rfl,a⟩:=h.last;unfold Lib.trimRightS;rw [h.eq,List.reverse_append,List.reverse_append];have:List.dropWhile (λx=>([63,126,37]:aa).contains x) ((mt k).reverse++([z].reverse++v.reverse))=[z].reverse++v.reverse:=by
  rw [List.dropWhile_append];have b:List.dropWhile (λx=>([63,126,37]:aa).contains x) (mt k).reverse=[]:=by
   refine MO λc hc=>?_;rw [Q7];exact (XL h.k4 c (FN.1 hc)).1
  rw [b];simp only [List.isEmpty_nil,aO,List.reverse_singleton,EX];rw [List.dropWhile_cons,Q7,a];simp
 rw [this];simp
theorem Xw (c:UInt8):([63,126,37,69,83]:aa).contains c=isLv c:=by
 have:=iL (λc=>([63,126,37,69,83]:aa).contains c==isLv c) (by decide +kernel) c;simpa using this
theorem O9 (u:aa):(u==vT u)=!decide (u.head?=some 45):=by
 unfold vT;cases u with
 | nil=>rfl
 | cons c r=>
  simp only [sT,av];by_cases hc:c=45
  ·subst hc;rw [ae rfl,am rfl];simp only [cZ,aK,ne_eq];intro h;have:=cK List.length h;simp at this
  ·rw [ab hc,ar hc];simp
theorem Kr (u:aa):(vT u).length<=u.length:=by
 unfold vT;split
 ·split<;>simp
 ·simp
theorem Md {u:aa}:∀c∈vT u,c∈u:=by
 unfold vT;split
 ·split
  ·intro c hc;exact fi _ hc
  ·intro c hc;exact hc
 ·intro c hc;exact hc
theorem FW {T u:aa} {k:Nat} (h:Body T u k):(u==T)=decide (k=0):=by
 rw [h.eq];rcases (by have:=h.k4;omega:k=0\/k=1\/k=2\/k=3) with rfl | rfl | rfl | rfl
 ·simp [mt]
 all_goals
  rw [show decide _=false from rfl,aK];intro e;have:=cK List.length e;simp [mt] at this
theorem Ya {T u:aa} {k:Nat} (h:Body T u k) {x:TD} (hs:smT x):kx 20000000 T x=some (lvl u (decide (k≠0)) (hasX x.2.2.1||(hasX x.2.2.2.2.2.1||hasX x.2.2.2.2.2.2.1)) (seT x)):=by
 have m:ap10 (bz 20000000) x=some (seT x,decide (0<seT x)):=pF 20000000 _ _ _ _ _ _ _ _ _ _ hs.1;have n:=h.len;have f:=h.lenu;have l:=Kr u;have i:wQ T [63,126,37]=true:=by
  unfold wQ;rw [cT (by omega)];rfl
 have g:BQ (vT u)=true:=cT (by omega);have j:xg u [63,126,37,69,83]=true:=by
  unfold xg;rw [cT (show u.length<=4294967280 by omega)];have:MJ u=true:=cv.2 λc hc=>cT (h.ascu c hc);rw [this];rfl
 unfold kx;rw [m,fmT hs];simp only [ob,u2,i,ah,yQ h,O3,g,j,Jc (λc hc=>h.ascu c (Md c hc)),wH,Xw,YZ];rw [show ([[100,100,100,88],[100,100,88,88],[100,100,100,100,45,88,88],[100,100,100,100,45,100,100,45,88,88],[100,100,100,100,45,88,88,45,88,88]]:List (aa))=jR from rfl,yX];simp only [O9,FW h,Bool.not_not];unfold lvl simB;rw [show (List.any u λx=>isLv x)=u.any isLv from rfl];generalize (hasX x.2.2.1||(hasX x.2.2.2.2.2.1||hasX x.2.2.2.2.2.2.1))=X;generalize jR.contains ((vT u).map dgC)=F;cases u.any isLv
 ·simp only [af,bw,aC];by_cases b:24<seT x
  ·rw [ae b,am (show 0<seT x by omega),am (show seT x>=25 by omega)];rfl
  ·rw [ab b,ar (show ¬seT x>=25 by omega)];have a:(cond (decide (u.head?=some 45)) (some (1:Int)) (cond (decide (u.head?=some 89)) (some 1) (cond (!decide (k=0)) (some 1) (cond (decide (0<seT x)) (some 1) (cond X (some 1) (some 0))))))=some (if decide (k≠0)=true\/X=true\/0<seT x\/u.head?=some 45\/u.head?=some 89 then 1 else 0):=by
    by_cases a1:u.head?=some 45
    ·rw [am a1,ae (by simp [a1])];rfl
    rw [ar a1];by_cases a2:u.head?=some 89
    ·rw [am a2,ae (by simp [a2])];rfl
    rw [ar a2];by_cases d:k=0
    ·rw [am d];by_cases e:0<seT x
     ·rw [am e,ae (by simp [e])];rfl
     rw [ar e];cases X
     ·rw [ab (by simp [a1,a2,d,e])];rfl
     ·rw [ae (by simp)];rfl
    ·rw [ar d,ae (by simp [d])];rfl
   cases X
   ·simp only [af,vJ,bw,aC];simp only [af,bw] at a;rw [<-a];cases decide (0<seT x)<;>rfl
   ·cases F
    ·cases decide (0<seT x)<;>rfl
    ·simp only [ah,cZ,af,xq,bw,aC];simp only [ah] at a;rw [<-a];cases decide (0<seT x)<;>rfl
 ·rfl
def Dc:aa->Int->Int->Option (Int×Int)
 | [],x,m=>some (x,m)
 | c::r,x,m=>if c=69\/c=83\/(isMk c=true/\r≠[]) then none else Dc r (if c=88 then 1 else x) (if isMk c=true then 1 else m)
theorem Yh (c:UInt8):dM 20000000 ((c.toNat:Nat):Int)=some ((mkOf c:Nat):Int):=(FZ 19999700 c).2
theorem P3 (c:UInt8):decide (((mkOf c:Nat):Int)>0)=isMk c:=by
 unfold isMk;by_cases h:0<mkOf c
 ·rw [am h,am (by omega)]
 ·rw [ar h,ar (by omega)]
theorem NG {T:aa} (v:T.length<=1000) (x:TD):∀(r i:Nat) (a m:Int),i+r=T.length->∀N,r<N->
  au (db 20000000) N (T,a,m,(i:Int),x)=some (match Dc (T.drop i) a m with | some p=>.inr (T,p.1,p.2,x) | none=>.inl 2):=by
 intro r
 induction r with
 | zero=>
  intro i a m hi N t;obtain ⟨N,rfl⟩:∃k,N=k+1:=⟨N - 1,by omega⟩;obtain rfl:i=T.length:=by omega
  have:db 20000000 (T,a,m,((T.length:Nat):Int),x)=some (.inr (.inr (T,a,m,x))):=by
   unfold db;simp only [u5,u4,u3,u2];rw [ar (show ¬((T.length:Nat):Int)<len T by show ¬((T.length:Nat):Int)<((T.length:Nat):Int);omega)];rfl
  rw [au,this,sV];rfl
 | succ r ih=>
  intro i a m hi N t;obtain ⟨N,rfl⟩:∃k,N=k+1:=⟨N - 1,by omega⟩;have f:i<T.length:=by omega
  have q:T[i]?=some T[i]:=bh f;rw [au,pG f,Dc];generalize T[i]=c at q ⊢;have n:T.drop (i+1)≠[]↔i+1<T.length:=by
   rw [ne_eq,List.drop_eq_nil_iff];omega
  have l:(((c.toNat:Nat):Int)==69)=decide (c=69):=sw c 69 (by decide);have g:(((c.toNat:Nat):Int)==83)=decide (c=83):=sw c 83 (by decide);have j:(((c.toNat:Nat):Int)==88)=decide (c=88):=sw c 88 (by decide);have s:w64 (len T - 1)=((T.length - 1:Nat):Int):=Fj (by omega) (by omega);have:db 20000000 (T,a,m,(i:Int),x)=some (if c=69\/c=83\/(isMk c=true/\T.drop (i+1)≠[]) then .inr (.inl 2) else .inl (T,(if c=88 then 1 else a),(if isMk c=true then 1 else m),((i+1:Nat):Int),x)):=by
   unfold db;simp only [u5,u4,u3,u2];rw [am (show (i:Int)<len T by show (i:Int)<((T.length:Nat):Int);omega)];simp only [ah,ob,eG q,l,g,j,Yh,P3,s];rw [qx (by omega)];by_cases d:c=69
   ·rw [am d,ae (.inl d)];rfl
   rw [ar d];by_cases e:c=83
   ·rw [am e,ae (.inr (.inl e))];rfl
   rw [ar e];simp only [af];cases u:isMk c
   ·rw [ab (by simp [d,e])];simp only [af,bw,aC];by_cases b:c=88
    ·rw [am b,ae b];rfl
    ·rw [ar b,ab b];rfl
   ·simp only [ah,aO];by_cases o:i+1<T.length
    ·rw [am (show (i:Int)<((T.length - 1:Nat):Int) by omega),ae (.inr (.inr ⟨trivial,n.2 o⟩))];rfl
    ·rw [ar (show ¬(i:Int)<((T.length - 1:Nat):Int) by omega),ab (by
      rintro (h | h | ⟨_,h⟩)
      ·exact d h
      ·exact e h
      ·exact o (n.1 h))]
     by_cases b:c=88
     ·rw [am b,ae b];rfl
     ·rw [ar b,ab b];rfl
  rw [this];by_cases hc:c=69\/c=83\/(isMk c=true/\T.drop (i+1)≠[])
  ·rw [ae hc,ae hc]
  ·rw [ab hc,ab hc];exact ih (i+1) _ _ (by omega) N (by omega)
theorem C9:∀(v:aa) (w:aa) (a:Int),w≠[]->Dc (v++w) a 0=if v.any isLv then none else Dc w (if v.any (·==88) then 1 else a) 0
 | [],w,a,_=>by simp
 | c::v,w,a,d=>by
  rw [eW,Dc,qY,qY];have e:v++w≠[]:=by
   intro h;exact d (List.append_eq_nil_iff.1 h).2
  by_cases hc:isLv c=true
  ·have:c=69\/c=83\/(isMk c=true/\v++w≠[]):=by
    unfold isLv at hc;simp only [g9,bu] at hc;rcases hc with h | h | h
    ·exact .inl h
    ·exact .inr (.inl h)
    ·exact .inr (.inr ⟨h,e⟩)
   rw [ae this,hc];simp
  ·have hc':isLv c=false:=by simpa using hc
   have f:c≠69/\c≠83/\isMk c=false:=by
    unfold isLv at hc';simp only [pi,aK] at hc';exact hc'
   rw [ab (by rintro (h | h | ⟨h,_⟩)<;>simp_all),f.2.2,hc'];simp only [bw,aC,oP];rw [C9 v w _ d];by_cases b:c=88
   ·subst b;simp
   ·rw [ab b,show (c==88)=false from by simp [b],oP]
theorem U5 {T u:aa} {k:Nat} (h:Body T u k):Dc T 0 0=if u.any isLv then none else some (if u.any (·==88) then 1 else 0,if k=0 then 0 else 1):=by
 obtain ⟨v,z,rfl,d⟩:=h.last;rw [h.eq,fK,C9 v _ 0 (by simp)];rw [sX,sX];cases v.any isLv
 ·simp only [bw,aC,oP,qY,List.any_nil,vI,EX];rw [Dc,d];by_cases b:z=69
  ·subst b;simp [isLv]
  by_cases a:z=83
  ·subst a;simp [isLv]
  have e:isLv z=false:=by unfold isLv;rw [d];simp [b,a]
  rw [ab (by simp [b,a]),e];simp only [bw,aC];have hx:(if z=88 then (1:Int) else if (v.any λx=>x==88)=true then 1 else 0)=if ((v.any λx=>x==88)||z==88)=true then 1 else 0:=by
   by_cases c:z=88
   ·subst c;simp
   ·rw [ab c,show (z==88)=false from by simp [c],vI]
  rw [hx];rcases (by have:=h.k4;omega:k=0\/k=1\/k=2\/k=3) with rfl | rfl | rfl | rfl<;>rfl
 ·simp
theorem wS (f:aa) (v:∀c∈f,c=100\/c=88\/c=45) (u:f.length<=1000) (t:aa):aX 20000000 t f=some (if t.map dgC=f then 1 else 0):=by
 unfold aX;rw [show (len t != len f)=!decide (t.length=f.length) from cK _ (natB _ _)];by_cases l:t.length=f.length
 case neg=>
  rw [ar l,ab (λh=>l (by rw [<-h];simp))];rfl
 rw [am l];have loop:∀(r i:Nat),i+r=t.length->∀N,r<N->au (dL 20000000) N (t,f,(i:Int))=some (if (t.drop i).map dgC=f.drop i then .inr () else .inl 0):=by
  intro r
  induction r with
  | zero=>
   intro i hi N w;obtain ⟨N,rfl⟩:∃k,N=k+1:=⟨N - 1,by omega⟩;obtain rfl:i=t.length:=by omega
   have:dL 20000000 (t,f,((t.length:Nat):Int))=some (.inr (.inr ())):=by
    unfold dL;simp only [u3,u2];rw [ar (show ¬((t.length:Nat):Int)<len t by show ¬((t.length:Nat):Int)<((t.length:Nat):Int);omega)];rfl
   rw [au,this,sV,l,sV];rfl
  | succ r ih=>
   intro i hi N w;obtain ⟨N,rfl⟩:∃k,N=k+1:=⟨N - 1,by omega⟩;have j:i<t.length:=by omega
   have g:i<f.length:=by omega
   have n:t[i]?=some t[i]:=bh j;have s:f[i]?=some f[i]:=bh g;have o:=v _ (Em g);rw [au,pG j,pG g,fV];generalize t[i]=c at n ⊢;generalize f[i]=d at s o ⊢;have a:(dgC c=d)↔(c=d\/(d=100/\bf c=true)):=by
    unfold dgC;by_cases h:bf c=true
    ·rw [ae h];constructor
     ·intro e;exact .inr ⟨e.symm,h⟩
     ·rintro (e | ⟨e,_⟩)
      ·subst e;rcases o with rfl | rfl | rfl
       ·rfl
       ·exact absurd h (by decide)
       ·exact absurd h (by decide)
      ·exact e.symm
    ·rw [ab h];constructor
     ·intro e;exact .inl e
     ·rintro (e | ⟨_,e⟩)
      ·exact e
      ·exact absurd e h
   have b:bf c=(decide (48<=c.toNat)&&decide (c.toNat<=57)):=by
    have:=iL (λc=>bf c==(decide (48<=c.toNat)&&decide (c.toNat<=57))) (by decide +kernel) c;simpa using this
   have:dL 20000000 (t,f,(i:Int))=some (if dgC c=d then .inl (t,f,((i+1:Nat):Int)) else .inr (.inl 0)):=by
    unfold dL;simp only [u3,u2];rw [am (show (i:Int)<len t by show (i:Int)<((t.length:Nat):Int);omega)];simp only [ah,ob,eG n,eG s];rw [qx (by omega),show (((c.toNat:Nat):Int) != ((d.toNat:Nat):Int))=!(c==d) from cK _ (n7 c d),show (((d.toNat:Nat):Int)==100)=decide (d=100) from sw d 100 (by decide)];by_cases e:c=d
    ·rw [ae (a.2 (.inl e)),show (c==d)=true from by simp [e]];rfl
    ·rw [show (c==d)=false from by simp [e]];by_cases m:d=100
     ·rw [am m];simp only [i7,ah];by_cases q:48<=c.toNat
      ·rw [am (show ((c.toNat:Nat):Int)>=48 by omega)];by_cases p:c.toNat<=57
       ·rw [am (show ((c.toNat:Nat):Int)<=57 by omega),ae (a.2 (.inr ⟨m,by rw [b];simp [q,p]⟩))];rfl
       ·rw [ar (show ¬((c.toNat:Nat):Int)<=57 by omega),ab (λh=>by
         rcases a.1 h with h | ⟨_,h⟩
         ·exact e h
         ·rw [b] at h;simp [p] at h)];rfl
      ·rw [ar (show ¬((c.toNat:Nat):Int)>=48 by omega),ab (λh=>by
        rcases a.1 h with h | ⟨_,h⟩
        ·exact e h
        ·rw [b] at h;simp [q] at h)];rfl
     ·rw [ar m,ab (λh=>by
       rcases a.1 h with h | ⟨h,_⟩
       ·exact e h
       ·exact m h)];rfl
   rw [this];by_cases e:dgC c=d
   ·rw [ae e];simp only [];rw [ih (i+1) (by omega) N (by omega),e];simp
   ·rw [ab e,ab (λh=>e (List.cons.inj h).1)]
 have:=loop t.length 0 (by omega) 20000000 (by omega);rw [show ((0:Nat):Int)=0 from rfl,cw,cw] at this;rw [this];split<;>rfl
theorem NK (t:aa):(w64 ((w64 ((w64 ((w64 ((if t.map dgC=[100,100,100,88] then (1:Int) else 0)+(if t.map dgC=[100,100,88,88] then (1:Int) else 0)))+(if t.map dgC=[100,100,100,100,45,88,88] then (1:Int) else 0)))+(if t.map dgC=[100,100,100,100,45,100,100,45,88,88] then (1:Int) else 0)))+(if t.map dgC=[100,100,100,100,45,88,88,45,88,88] then (1:Int) else 0))==0)=!simB t:=by
 unfold simB jR;simp only [List.contains_cons,List.contains_nil,vI];have e:∀f:aa,(t.map dgC=f)=((t.map dgC==f)=true):=λf=>by simp
 simp only [e];generalize (t.map dgC==[100,100,100,88])=z1;generalize (t.map dgC==[100,100,88,88])=z2;generalize (t.map dgC==[100,100,100,100,45,88,88])=c;generalize (t.map dgC==[100,100,100,100,45,100,100,45,88,88])=a;generalize (t.map dgC==[100,100,100,100,45,88,88,45,88,88])=b;cases z1<;>cases z2<;>cases c<;>cases a<;>cases b<;>rfl
theorem U2 (t:aa):aX 20000000 t [100,100,100,88]=some (if t.map dgC=[100,100,100,88] then 1 else 0):=wS _ (by decide) (by decide) t
theorem Wz (t:aa):aX 20000000 t [100,100,88,88]=some (if t.map dgC=[100,100,88,88] then 1 else 0):=wS _ (by decide) (by decide) t
theorem Vo (t:aa):aX 20000000 t [100,100,100,100,45,88,88]=some (if t.map dgC=[100,100,100,100,45,88,88] then 1 else 0):=wS _ (by decide) (by decide) t
theorem Xg (t:aa):aX 20000000 t [100,100,100,100,45,100,100,45,88,88]=some (if t.map dgC=[100,100,100,100,45,100,100,45,88,88] then 1 else 0):=wS _ (by decide) (by decide) t
theorem V8 (t:aa):aX 20000000 t [100,100,100,100,45,88,88,45,88,88]=some (if t.map dgC=[100,100,100,100,45,88,88,45,88,88] then 1 else 0):=wS _ (by decide) (by decide) t
theorem UK {T u:aa} {k:Nat} (h:Body T u k) {g l:Bool} {dg:aa} {e q:Nat} {m d:aa} {M P:Nat×Nat×Nat} {p:Nat} (F:rD T 0=.inr (g,l,dg,e,q,m,d,M,P,p)):
  dI 20000000 T=some (lvl u (decide (k≠0)) (u.any (·==88)) (sea m)):=by
 have K:=h.len;obtain ⟨Q,_,D⟩:=Gg 19999700 T 0 (by omega) (by omega) (by omega);rw [show 19999700+300=20000000 from rfl,F,show ((0:Nat):Int)=0 from rfl] at D;have n:=NG K (g,l,dg,(e:Int),(q:Int),m,d,(M.1:Int),(M.2.1:Int),(M.2.2:Int)) T.length 0 0 0 (by omega) 20000000 (by omega);rw [show ((0:Nat):Int)=0 from rfl,cw,U5 h] at n;unfold dI;rw [D];simp only [ob,Xa];rw [show au (db 20000000) 20000000 (T,0,0,0,iF (g,l,dg,(e:Int),(q:Int),m,d,(M.1:Int),(M.2.1:Int),(M.2.2:Int),Q,T,(p:Int),(0:Int)))=_ from n];have z:∃c r,u=c::r:=by
  cases f:u with
  | nil=>exact absurd f h.ne
  | cons c r=>exact ⟨c,r,rfl⟩
 have y:ap10 (aN 20000000) (iF (g,l,dg,(e:Int),(q:Int),m,d,(M.1:Int),(M.2.1:Int),(M.2.2:Int),Q,T,(p:Int),(0:Int)))=some (sea m):=rsT _;unfold lvl;cases u.any isLv
 case true=>rfl
 simp only [bw,aC,obs,sm,ob,u4,u3,u2];rw [y];simp only [ob];by_cases b:24<sea m
 ·rw [ae b,show decide (sea m>24)=true from am b];rfl
 rw [ab b,show decide (sea m>24)=false from ar b,af];have J:=h.k4;have o:=cK List.length h.eq;rw [aR] at o;have t:bx (List.length T) (w64 ((len T) - (if k=0 then (0:Int) else 1)))=some u.length:=by
  have:w64 ((len T) - (if k=0 then (0:Int) else 1))=((u.length:Nat):Int):=by
   have I:len T=((T.length:Nat):Int):=rfl;rw [I,o];show IntKind.wrap .i64 _=_;rw [wrap_i64 _ (by split<;>omega) (by split<;>omega)];rcases (by omega:k=0\/k=1\/k=2\/k=3) with rfl | rfl | rfl | rfl<;>simp [mt]
  rw [this,cM (by omega)]
 have A:List.take u.length T=u:=by rw [h.eq,BC]
 rw [t];simp only [cw,A];obtain ⟨c,r,f⟩:=z;have B:sx u (0:Int)=some c:=by rw [f];rfl
 have w:sx T (0:Int)=some c:=by rw [h.eq,f];rfl
 have j:vT u=if c=45 then r else u:=by rw [f];rfl
 have H:u.head?=some c:=by rw [f];rfl
 have b1:bx u.length (1:Int)=some 1:=cM (i:=1) (by rw [f];simp);have v:List.drop 1 (List.take u.length u)=r:=by rw [mE,f];rfl
 rw [B,w,b1];simp only [v,ob,U2,Wz,Vo,Xg,V8,NK];rw [show (((c.toNat:Nat):Int)==45)=decide (c=45) from sw c 45 (by decide),show (((c.toNat:Nat):Int)==89)=decide (c=89) from sw c 89 (by decide),H];have a:(cond ((if (u.any λx=>x==88)=true then (1:Int) else 0)==1) (some (1:Int)) (cond ((if k=0 then (0:Int) else 1)==1) (some 1) (cond (decide (sea m>0)) (some 1) (cond (decide (c=45)) (some 1) (cond (decide (c=89)) (some 1) (some 0)))))) =
   some (if decide (k≠0)=true\/(u.any λx=>x==88)=true\/0<sea m\/some c=some 45\/some c=some 89 then 1 else 0):=by
  cases (u.any λx=>x==88)
  ·by_cases a1:k=0
   ·by_cases a2:0<sea m
    ·simp [a1,a2]
    ·by_cases C:c=45
     ·simp [a1,a2,C]
     ·by_cases E:c=89
      ·simp [a1,a2,E]
      ·simp [a1,a2,C,E]
   ·simp [a1]
  ·simp
 by_cases hc:c=45
 ·rw [am hc,ah];rw [j,ae hc];rw [am hc] at a;cases s:(u.any λx=>x==88)
  ·rw [s] at a;simp only [vJ,bw,aC,show ((0:Int)==1)=false from rfl,af] at a ⊢;exact a
  ·rw [s] at a;cases G:simB r
   ·simp
   ·simp only [aO,show ((1:Int)==1)=true from rfl,ah,af,cZ,xq,bw,aC] at a ⊢;exact a
 ·rw [ar hc,af];rw [j,ab hc];rw [ar hc] at a;cases s:(u.any λx=>x==88)
  ·rw [s] at a;simp only [vJ,bw,aC,show ((0:Int)==1)=false from rfl,af] at a ⊢;exact a
  ·rw [s] at a;cases G:simB u
   ·simp
   ·simp only [aO,show ((1:Int)==1)=true from rfl,ah,af,cZ,xq,bw,aC] at a ⊢;exact a
theorem qA {k:Nat} (h:k<4):(mt k).all okC=true:=by
 rcases (by omega:k=0\/k=1\/k=2\/k=3) with rfl | rfl | rfl | rfl<;>decide
theorem x_mk {k:Nat} (h:k<4):(mt k).any (·==88)=false:=by
 rcases (by omega:k=0\/k=1\/k=2\/k=3) with rfl | rfl | rfl | rfl<;>decide
theorem Vj:((List.range 100).all λk=>(Lib.decDigits k).all λc=>okC c&&(!isMk c&&!(c==88)))=true:=by decide +kernel
theorem Eg {k:Nat} (h:k<100) {letter:UInt8} (a:letter=69\/letter=83):(ef letter k).all (λc=>okC c&&(!isMk c&&!(c==88)))=true:=by
 unfold ef;split
 ·rw [mO,(cv.1 Vj) k (la.2 h)];rcases a with rfl | rfl<;>decide
 ·rfl
theorem Oo {c:UInt8} (h:isDX c=true):okC c=true:=by unfold okC;rw [h];rfl
theorem yS {g l:Bool} {dg:aa} {x q:Nat} (h:okY g l dg (x:Int) (q:Int)):gH g l dg (x:Int) (q:Int)≠[]/\(∀c∈gH g l dg (x:Int) (q:Int),okC c=true/\isMk c=false)/\(gH g l dg (x:Int) (q:Int)).any (·==88)=hasX dg:=by
 obtain ⟨k,p,o,n,j,m⟩:=iY h;have hx:x<100:=by omega
 have f:q<100:=by omega
 have b:=Eg hx (letter:=69) (.inl rfl);have d:=Eg f (letter:=83) (.inr rfl);have a:=KB h;have i:dg≠[]:=by
  rintro rfl;simp at j
 rw [ki];refine ⟨by cases l<;>cases g<;>simp [i],λc hc=>?_,?_⟩
 ·simp only [mJ,or_assoc] at hc;rcases hc with hc | hc | hc | hc | hc
  ·cases l
   ·cases hc
   ·rw [nX.1 hc];decide
  ·cases g
   ·cases hc
   ·rw [nX.1 hc];decide
  ·exact ⟨Oo (a c hc),JU (a c hc)⟩
  ·have:=(cv.1 b) c hc;simp only [aA,kQ] at this;exact ⟨this.1,this.2.1⟩
  ·have:=(cv.1 d) c hc;simp only [aA,kQ] at this;exact ⟨this.1,this.2.1⟩
 ·have no:∀w:aa,w.all (λc=>okC c&&(!isMk c&&!(c==88)))=true->w.any (·==88)=false:=by
   intro w e;rw [sP];intro c hc;have:=(cv.1 e) c hc;simp only [aA,kQ] at this;rw [this.2.2];simp
  simp only [sX,no _ b,no _ d,vI];unfold hasX;cases l<;>cases g<;>simp
theorem Gy {w:aa} (h:w≠[]) (b:∀c∈w,isMk c=false) (v:aa):∃a z,v++w=a++[z]/\isMk z=false:=
 ⟨v++w.dropLast,w.getLast h,by rw [fK,List.dropLast_concat_getLast],b _ (List.getLast_mem h)⟩
theorem O0 {A B:Nat×Nat×Nat} {g l:Bool} {dg:aa} {x q:Nat} {m d:aa} (hs:ShD g l dg x q m d) (W:MkD A B m d):
  ∃u k,Body (rawD A B g l dg (x:Int) (q:Int) m d) u k/\u.any (·==88)=(hasX dg||(hasX m||hasX d))/\(u.any isLv=false->A=(0,0,0)/\(m≠[]->B.1=0)/\(d≠[]->B.2.1=0))/\k=(if m=[] then B.1 else if d=[] then B.2.1 else B.2.2):=by
 obtain ⟨J,G,y⟩:=yS hs.yr;have yl:=ua hs.yr;obtain ⟨n,p,C⟩:=A;obtain ⟨j,r,F⟩:=B;obtain ⟨a0,a1,a2,b0,b1,b2,zm,zd⟩:=W;simp only at a0 a1 a2 b0 b1 b2 zm zd;unfold rawD cD;simp only;generalize gH g l dg (x:Int) (q:Int)=Y at *;have b:∀w:aa,w.all okC=true->∀c∈w,c.toNat<128:=λw I c hc=>WF ((cv.1 I) c hc);have v:Y.all okC=true:=cv.2 λc hc=>(G c hc).1;have f:∀k,k<4->(mt k).length<=1:=λk h=>by
  rcases (by omega:k=0\/k=1\/k=2\/k=3) with rfl | rfl | rfl | rfl<;>simp [mt]
 have S:=f n a0;have Q:=f p a1;have L:=f C a2;have T:=f j b0;have N:=f r b1;have O:=f F b2;have a:∀k,k<4->(mt k).any isLv=false->k=0:=λk h=>by
  rcases (by omega:k=0\/k=1\/k=2\/k=3) with rfl | rfl | rfl | rfl<;>decide
 have o:∀w:aa,w.any (λx=>x==88)=hasX w:=λw=>rfl;by_cases i:m=[]
 ·have e:d=[]:=hs.day.resolve_right (λz=>z.1 i);subst i e;obtain ⟨rfl,rfl⟩:=zm rfl;obtain ⟨rfl,rfl⟩:=zd rfl;simp only [aO,ln];refine ⟨mt n++Y,j,⟨rfl,b0,Gy J (λc hc=>(G c hc).2) _,b _ (by rw [D1,D1,qA a0,v,qA b0];rfl),by simp only [aR];omega⟩,?_,?_,rfl⟩
  ·rw [sX,x_mk a0,y];simp [hasX]
  ·intro h;rw [sX,pi] at h;exact ⟨by rw [a _ a0 h.1],λh=>absurd rfl h,λh=>absurd rfl h⟩
 ·obtain ⟨M,mx⟩:=hs.mon.resolve_left i;have E:m.all okC=true:=cv.2 λc hc=>Oo (mx c hc);rw [ab i,ab i];by_cases e:d=[]
  ·subst e;obtain ⟨rfl,rfl⟩:=zd rfl;simp only [aO,ln];refine ⟨mt n++Y++mt j++(45::(mt p++m)),r,⟨by simp,b1,?_,b _ ?_,by simp only [aR,aE];omega⟩,?_,?_,rfl⟩
   ·have:=Gy i (λc hc=>JU (mx c hc)) (mt n++Y++mt j++(45::mt p));simpa using this
   ·simp only [D1,mO,qA a0,v,qA b0,qA a1,E,qA b1,show okC 45=true from by decide];rfl
   ·simp only [sX,qY,x_mk a0,x_mk b0,x_mk a1,y];simp only [o];simp [hasX]
   ·intro h;simp only [sX,qY,pi] at h;obtain ⟨⟨⟨t,X⟩,D⟩,P,s,K⟩:=h;exact ⟨by rw [a _ a0 t,a _ a1 s],λ_=>a _ b0 D,λh=>absurd rfl h⟩
  ·obtain ⟨_,V,H⟩:=hs.day.resolve_left e;have Z:d.all okC=true:=cv.2 λc hc=>Oo (H c hc);rw [ab e,ab e];refine ⟨mt n++Y++mt j++(45::(mt p++m++mt r))++(45::(mt C++d)),F,⟨by simp,b2,?_,b _ ?_,by simp only [aR,aE];omega⟩,?_,?_,rfl⟩
   ·have:=Gy e (λc hc=>JU (H c hc)) (mt n++Y++mt j++(45::(mt p++m++mt r))++(45::mt C));simpa using this
   ·simp only [D1,mO,qA a0,v,qA b0,qA a1,E,qA b1,qA a2,Z,qA b2,show okC 45=true from by decide];rfl
   ·simp only [sX,qY,x_mk a0,x_mk b0,x_mk a1,x_mk b1,x_mk a2,y];simp only [o];simp [Bool.or_assoc]
   ·intro h;simp only [sX,qY,pi] at h;obtain ⟨⟨⟨⟨t,X⟩,D⟩,P,⟨s,K⟩,h7⟩,h8,R,U⟩:=h;exact ⟨by rw [a _ a0 t,a _ a1 s,a _ a2 R],λ_=>a _ b0 D,λ_=>a _ b1 h7⟩
def mkX (x:TD):Bool:=hasX x.2.2.1||(hasX x.2.2.2.2.2.1||hasX x.2.2.2.2.2.2.1)
def lvT (T:aa) (x:TD):Int:=lvl (Lib.trimRightS T [63,126,37]) (!(Lib.trimRightS T [63,126,37]==T)) (mkX x) (seT x)
theorem YG {T u:aa} {k:Nat} (h:Body T u k) {x:TD} (hs:smT x):kx 20000000 T x=some (lvT T x):=by
 rw [Ya h hs];unfold lvT mkX;rw [yQ h,FW h];simp
theorem MF {S:aa} {a:Nat} (h:a<=S.length) {r:DR} (j:fC S a=.inr r):∃A B u k,MkD A B (tdR r).2.2.2.2.2.1 (tdR r).2.2.2.2.2.2.1/\plR r=a+(mt A.1).length/\
  (S.drop a).take (enR r - a)=rawD A B r.1 r.2.1 r.2.2.1 (r.2.2.2.1:Int) (r.2.2.2.2.1:Int) r.2.2.2.2.2.1 r.2.2.2.2.2.2.1/\r.2.2.2.2.2.2.2.1=spM A B/\Body ((S.drop a).take (enR r - a)) u k/\
  kx 20000000 ((S.drop a).take (enR r - a)) (tdR r)=some (lvT ((S.drop a).take (enR r - a)) (tdR r))/\dI 20000000 ((S.drop a).take (enR r - a))=some (lvT ((S.drop a).take (enR r - a)) (tdR r)):=by
 obtain ⟨n,F,C,q⟩:=ow h j;obtain ⟨G,_⟩:=GO h j;obtain ⟨H,J,t,E,z,m',d',k0,k1,k2,f,ok⟩:=oU n F;obtain ⟨g,l,dg,x,s,m,d,M,P,e⟩:=r;have ok:ShD g l dg x s m d:=by
  unfold tdR at f;simp only [bV] at f;obtain ⟨rfl,rfl,rfl,hx,o,rfl,rfl,_⟩:=f;have hx:x=E:=by omega
  have o:s=z:=by omega
  subst hx o;exact ok.sh
 obtain ⟨A,B,mk,D,v,p⟩:=Lj G;have w:(rawD A B g l dg (x:Int) (s:Int) m d).length=e - a:=by
  have:=cK List.length p;simp only [aR,bP] at this;have:a<=e:=C;have:e<=S.length:=q;omega
 have c:(S.drop a).take (e - a)=rawD A B g l dg (x:Int) (s:Int) m d:=by rw [p,<-w,BC]
 obtain ⟨u,k,b,y,_⟩:=O0 ok mk;refine ⟨A,B,u,k,mk,v,c,D,by rw [show enR (g,l,dg,x,s,m,d,M,P,e)=e from rfl,c];exact b,?_,?_⟩
 ·rw [show enR (g,l,dg,x,s,m,d,M,P,e)=e from rfl,c];exact YG b n
 ·rw [show enR (g,l,dg,x,s,m,d,M,P,e)=e from rfl,c];obtain ⟨I,_,i⟩:=Hz ok mk (S:=rawD A B g l dg (x:Int) (s:Int) m d) (a:=0) (post:=[]) (by simp) vd vd vd;rw [UK b i,y];unfold lvT mkX;rw [yQ b,FW b];simp only [decide_not];rfl
def mx (a b:Int):Int:=if a>b then a else b
def lvR (S:aa) (p:Nat) (r:DR):Int:=lvT ((S.drop p).take (enR r - p)) (tdR r)
theorem KU (u:aa) (b X:Bool) (c:Int):0<=lvl u b X c/\lvl u b X c<=2:=by
 unfold lvl
 repeat' split
 all_goals omega
theorem NQ (S:aa) (p:Nat) (r:DR):0<=lvR S p r/\lvR S p r<=2:=KU _ _ _ _
theorem bcT {x:TD} (h:smT x) (K:Int):ap10 (gZ 20000000 K) x=some (vO K x):=wu h.1 h.2.1 h.2.2.1 h.2.2.2.1 h.2.2.2.2.1 h.2.2.2.2.2
theorem Bi (n:Nat) (a:Int) (S:aa) (p:Int) (I:List TI) (K:Int) (D:TD) (KF:Int) (DF:TD) (KT:Int) (DT:TD) (e l:Bool) (lv:Int):
  cS n a S p I K D KF DF KT DT e l lv=some (K,D,KF,DF,KT,DT,e,l,mx a lv):=by
 unfold cS mx;rw [bG]
theorem LO (I:List TI) (K:Int) (D:TD) (KF:Int) (DF:TD) (KT:Int) (DT:TD) (e l:Bool) (lv:Int) {S:aa} {p:Nat} (h:p<=S.length) (g:S.length<100000):
  dw 20000000 I K D KF DF KT DT e l lv S (p:Int)=some (match fC S p with
   | .inl f=>.inl ((f.1:Int),(f.2.1:Int),K,D,KF,DF,KT,DT,e,l,lv,S,(f.2.2:Int))
   | .inr r=>.inr (tdR r,((plR r:Nat):Int),K,D,KF,DF,KT,DT,e,l,mx (lvR S p r) lv,S,((enR r:Nat):Int))):=by
 unfold dw;rw [uK _ _ _ h,F5 S p h g];cases a:fC S p with
 | inl f=>rfl
 | inr r=>
  obtain ⟨i,j,k,c⟩:=ow h a;obtain ⟨_,_,_,_,_,_,_,_,_,d,_⟩:=MF h a;rw [C6];simp only [obs,sm,ob];rw [show (d4 (d8 ((tdR r).1,(tdR r).2.1,(tdR r).2.2.1,(tdR r).2.2.2.1,(tdR r).2.2.2.2.1,(tdR r).2.2.2.2.2.1,(tdR r).2.2.2.2.2.2.1,(tdR r).2.2.2.2.2.2.2.1,(tdR r).2.2.2.2.2.2.2.2.1,(tdR r).2.2.2.2.2.2.2.2.2,((plR r:Nat):Int),S,((enR r:Nat):Int))))=((enR r:Nat):Int) from rfl,uK _ _ _ c];simp only [];have b:w64 (len (S.drop p) - len (S.drop (enR r)))=((enR r - p:Nat):Int):=by
   show IntKind.wrap .i64 (((S.drop p).length:Int) - ((S.drop (enR r)).length:Int))=_;rw [bP,bP,wrap_i64 _ (by omega) (by omega)];omega
  rw [b,cM (by rw [bP];omega)];simp only [cw];rw [show kx 20000000 ((S.drop p).take (enR r - p)) (iF ((tdR r).1,(tdR r).2.1,(tdR r).2.2.1,(tdR r).2.2.2.1,(tdR r).2.2.2.2.1,(tdR r).2.2.2.2.2.1,(tdR r).2.2.2.2.2.2.1,(tdR r).2.2.2.2.2.2.2.1,(tdR r).2.2.2.2.2.2.2.2.1,(tdR r).2.2.2.2.2.2.2.2.2,((plR r:Nat):Int),S,((enR r:Nat):Int)))=_ from d];simp only [Bi,u9,u8,u7,u6,u5,u4,u3,u2];rfl
theorem HB {x:TD} (h:smT x) (hc:cF x=0) (a K:Int) (D:TD) (KF:Int) (DF:TD) (KT:Int) (DT:TD) (e l:Bool) (lv:Int) (S:aa) (p:Int) (I:List TI):
  cX 20000000 x a K D KF DF KT DT e l lv S p I=some (if exT x=true then .inr (1,x) else .inl (a,11)):=by
 unfold cX;rw [bcT h,FC,ae hc];cases exT x<;>rfl
noncomputable def toP (S:aa) (p:Nat) (KF:Int) (DF:TD) (lv:Int):(Nat×Nat)⊕(Int×TD×Int×Nat):=
 if KF=1/\p=S.length then .inr (3,d0,mx 1 lv,p)
 else if KF=1/\dts (S.drop p)=true then .inr (2,d0,mx 1 lv,p+2)
 else match fC S p with
  | .inl f=>.inl (f.1,f.2.1)
  | .inr r=>if exT (tdR r)=true then (if enR r<S.length\/sC KF DF 1 (tdR r)=0 then .inr (1,tdR r,mx (lvR S p r) (if KF=1 then lv else mx 1 lv),enR r) else .inl (plR r,11)) else .inl (plR r,11)
def Xz (S:aa) (D:TD) (KF:Int) (DF:TD) (e l:Bool):(Nat×Nat)⊕(Int×TD×Int×Nat)->(Int×TD×Int×TD×Int×TD×Bool×Bool×Int×aa×Int)⊕(Int×Int×Int×TD×Int×TD×Int×TD×Bool×Bool×Int×aa×Int)->Prop
 | .inl f,y=>∃z,y=.inr ((f.1:Int),(f.2:Int),z)
 | .inr (KT,DT,lv,p),y=>y=.inl (2,D,KF,DF,KT,DT,e,l,lv,S,(p:Int))
theorem IK {S:aa} {p:Nat} (h:p<=S.length):(peek (S.drop p)).2=decide (p<S.length):=by
 by_cases hp:p<S.length
 ·rw [am hp,cA (bh hp)];rfl
 ·rw [ar hp,jE (by omega)];rfl
theorem Um (I:List TI) (K:Int) {DF:TD} (U:smT DF) (KF:Int) (lv:Int) {S:aa} {p:Nat} (h:p<=S.length) (hS:S.length<100000):
  ∃y,fH 20000000 I K d0 KF DF 0 d0 false false lv S (p:Int)=some y/\Xz S d0 KF DF false false (toP S p KF DF lv) y:=by
 have q:∀(o:Int) (t:o=if KF=1 then lv else mx 1 lv) (Z:¬(KF=1/\p=S.length)) (l:¬(KF=1/\dts (S.drop p)=true)),∃y,(obs (dw 20000000 I 2 d0 KF DF 0 d0 false false o S (p:Int)) (u13 λH O z C Q F L R B J N A W=>(some (.inr (H,O,z,C,Q,F,L,R,B,J,N,A,W)))) (u13 λx u j g c d v w i k e a b=>(obs (cX 20000000 x u j g c d v w i k e a b I) (u2 λT D=>(some (.inr (T,D,j,g,c,d,v,w,i,k,e,a,b)))) (u2 λn m=>(ob (bn 20000000 a b) (u2 λ_ V=>(cond (!V) (ob (ap10 (ap10 (ip 20000000 c) d n) m) λM=>(cond (M != 0) (ob (aQ 20000000 u 11 a b) (u2 λP E=>(some (.inr (P,E,j,g,c,d,n,m,i,k,e,a,b))))) (some (.inl (j,g,c,d,n,m,i,k,e,a,b))))) (some (.inl (j,g,c,d,n,m,i,k,e,a,b))))))))))=some y/\Xz S d0 KF DF false false (toP S p KF DF lv) y:=by
  intro o t Z l;unfold toP;rw [LO I 2 d0 KF DF 0 d0 false false o h hS,ab Z,ab l];cases hr:fC S p with
  | inl f=>exact ⟨_,rfl,_,rfl⟩
  | inr r=>
   obtain ⟨Y,c1,l1,X⟩:=ow h hr;simp only [obs,sm,ob,u13,u12,u11,u10,u9,u8,u7,u6,u5,u4,u3,u2];rw [HB Y c1];cases hx:exT (tdR r)
   ·exact ⟨_,rfl,_,rfl⟩
   ·simp only [aO,pO _ _ _ X,IK X];by_cases G:enR r<S.length
    ·rw [am G,ae (.inl G)];exact ⟨_,rfl,by rw [<-t];rfl⟩
    ·rw [ar G];simp only [i7,ah];rw [KP U Y];simp only [];by_cases hp:sC KF DF 1 (tdR r)=0
     ·rw [ae (.inr hp),show (sC KF DF 1 (tdR r) != 0)=false from by simp [hp]];exact ⟨_,rfl,by rw [<-t];rfl⟩
     ·rw [ab (by rintro (h | h)<;>contradiction),show (sC KF DF 1 (tdR r) != 0)=true from by simp [hp]];exact ⟨_,rfl,_,rfl⟩
 unfold fH;by_cases s:KF=1
 ·rw [show (KF==1)=true from by simp [s],ah,pO _ _ _ h];simp only [ob,u2,IK h,Bi];by_cases hp:p<S.length
  ·rw [am hp];simp only [cZ,af];rw [nA _ _ _ _ h (by omega)];cases l:dts (S.drop p)
   ·rw [ab (show ¬(S.drop p).take [(46:UInt8),46].length=[46,46] from λh=>by unfold dts at l;rw [show (S.drop p).take 2=[46,46] from h] at l;cases l)];exact q lv (by rw [ae s]) (by omega) (by rw [l];simp)
   ·rw [ae (show (S.drop p).take [(46:UInt8),46].length=[46,46] from eq_of_beq l)];refine ⟨_,rfl,?_⟩;unfold toP;rw [ab (by omega),ae ⟨s,l⟩];rfl
  ·rw [ar hp];refine ⟨_,rfl,?_⟩;unfold toP;rw [ae ⟨s,by omega⟩];rfl
 ·rw [show (KF==1)=false from by simp [s],af,Bi];simp only [ob,u9,u8,u7,u6,u5,u4,u3,u2];exact q (mx 1 lv) (by rw [ab s]) (by simp [s]) (by simp [s])
noncomputable def toX (S:aa) (p:Nat) (KF:Int) (DF:TD) (lv:Int):(Nat×Nat)⊕(Int×TD×Int):=match toP S p KF DF lv with
 | .inl f=>.inl f
 | .inr (KT,DT,L,q)=>if q<S.length then .inl (q,5) else .inr (KT,DT,L)
noncomputable def mR (S:aa):(Nat×Nat)⊕(Int×TD×Int×TD×Int×TD×Int)⊕(Int×Bool×Bool×List TI):=
 if S.head?=some 91\/S.head?=some 123 then (match H7 S with | .inl f=>.inl f | .inr q=>.inr (.inr q))
 else if S.head?=some 47 then (match toX S 1 3 d0 0 with | .inl f=>.inl f | .inr (KT,DT,L)=>.inr (.inl (2,d0,3,d0,KT,DT,L)))
 else if dts S=true then (if (S.drop 2).head?=some 47 then (match toX S 3 2 d0 0 with | .inl f=>.inl f | .inr (KT,DT,L)=>.inr (.inl (2,d0,2,d0,KT,DT,L))) else .inl (2,5))
 else match fC S 0 with
  | .inl f=>.inl (f.1,f.2.1)
  | .inr r=>if (S.drop (enR r)).head?=some 47 then (if exT (tdR r)=true then (match toX S (enR r+1) 1 (tdR r) (lvR S 0 r) with | .inl f=>.inl f | .inr (KT,DT,L)=>.inr (.inl (2,d0,1,tdR r,KT,DT,L))) else .inl (plR r,11))
   else if enR r<S.length then .inl (enR r,5) else .inr (.inl (1,tdR r,0,d0,0,d0,lvR S 0 r))
def Y0:(Nat×Nat)⊕(Int×TD×Int×TD×Int×TD×Int)⊕(Int×Bool×Bool×List TI)->(Int×TD×Int×TD×Int×TD×Bool×Bool×Int×Int×Int×List TI)⊕(Int×TD×Int×TD×Int×TD×Nat×Nat×Bool×Bool×Int×Int×Int×List TI)
 | .inl f=>.inl (0,d0,0,d0,0,d0,false,false,0,(f.1:Int),(f.2:Int),[])
 | .inr (.inl (K,D,KF,DF,KT,DT,L))=>.inl (K,D,KF,DF,KT,DT,false,false,L,0,0,[])
 | .inr (.inr (K,e,l,I))=>.inr (K,d0,0,d0,0,d0,I.length,I.length,e,l,2,0,0,I)
theorem xo {S:aa} {p:Nat} (h:p<=S.length) {f:Nat×Nat×Nat} (a:fC S p=.inl f):f.2.1≠0:=ym (k:=f.1) (E:=f.2.1) (p:=f.2.2) h a
theorem Fg {S:aa} {p:Nat} (h:p<=S.length) {KF:Int} {DF:TD} {lv:Int} {f:Nat×Nat} (a:toP S p KF DF lv=.inl f):f.2≠0:=by
 unfold toP at a;split at a
 ·cases a
 ·split at a
  ·cases a
  ·cases b:fC S p with
   | inl g=>rw [b] at a;cases a;exact xo h b
   | inr r=>
    rw [b] at a;simp only [] at a;split at a
    ·split at a
     ·cases a
     ·cases a;simp
    ·cases a;simp
theorem EP (l:aa) (c:UInt8) (hc:c≠0):((peek l).1==((c.toNat:Nat):Int))=decide (l.head?=some c):=by
 have:=WY l c hc;cases l with
 | nil=>exact this
 | cons a r=>exact this
theorem Hy {S:aa} {p:Nat} (h:p<=S.length) (a:S.length<100000) (c:UInt8):aB 20000000 [c] S (p:Int)=some (decide ((S.drop p).head?=some c),S,((if (S.drop p).head?=some c then p+1 else p:Nat):Int)):=by
 rw [nA _ _ _ _ h (by omega)];simp only [tk1];by_cases hc:(S.drop p).head?=some c
 ·rw [ae hc,ae hc,am hc];rfl
 ·rw [ab hc,ab hc,ar hc]
theorem LS {S:aa} {p:Nat} (h:p<=S.length) (b:S.length<100000):aB 20000000 [46,46] S (p:Int)=some (dts (S.drop p),S,((if dts (S.drop p)=true then p+2 else p:Nat):Int)):=by
 rw [nA _ _ _ _ h (by omega)];cases a:dts (S.drop p)
 ·rw [ab (show ¬(S.drop p).take [(46:UInt8),46].length=[46,46] from λh=>by unfold dts at a;rw [show (S.drop p).take 2=[46,46] from h] at a;cases a)];rfl
 ·rw [ae (show (S.drop p).take [(46:UInt8),46].length=[46,46] from eq_of_beq a)];rfl
theorem I9 {S:aa} {p:Nat} (h:p<=S.length) (c:S.length<100000):bZ 20000000 [47] S (p:Int)=some (if (S.drop p).head?=some 47 then .inl (S,((p+1:Nat):Int)) else .inr ((p:Int),5,S,(p:Int))):=by
 rw [AM _ _ _ _ h (by omega) (by simp) (by simp)];simp only [tk1];by_cases hc:(S.drop p).head?=some 47
 ·rw [ae hc,ae hc];rfl
 ·rw [ab hc,ab hc];have:lcp (S.drop p) [47]=0:=by
   cases b:S.drop p with
   | nil=>rfl
   | cons a r=>
    rw [b] at hc;simp only [lcp];rw [show (a==47)=false from by rw [aK];rintro rfl;exact hc rfl];rfl
  rw [this];rfl
def Xl (S:aa):(Nat×Nat)⊕(Int×TD×Int×TD×Int×TD×Int×Nat)⊕(Int×Bool×Bool×List TI×Nat)->((Int×Int×Int×TD×Int×TD×Int×TD×Bool×Bool×Int×aa×Int)⊕(Int×TD×Int×TD×Int×TD×Nat×Nat×Bool×Bool×Int×aa×Int×List TI)⊕(Int×TD×Int×TD×Int×TD×Bool×Bool×Int×aa×Int)⊕(Int×TD×Int×TD×Int×TD×Bool×Bool×Int×aa×Int×List TI))->Prop
 | .inl f,y=>∃z,y=.inl ((f.1:Int),(f.2:Int),z)
 | .inr (.inl (K,D,KF,DF,KT,DT,L,p)),y=>y=.inr (.inr (.inl (K,D,KF,DF,KT,DT,false,false,L,S,(p:Int))))\/y=.inr (.inr (.inr (K,D,KF,DF,KT,DT,false,false,L,S,(p:Int),[])))
 | .inr (.inr (K,e,l,I,p)),y=>y=.inr (.inl (K,d0,0,d0,0,d0,I.length,I.length,e,l,2,S,(p:Int),I))
noncomputable def Bv (S:aa):(Nat×Nat)⊕(Int×TD×Int×TD×Int×TD×Int×Nat)⊕(Int×Bool×Bool×List TI×Nat):=
 if S.head?=some 91\/S.head?=some 123 then (match wY S 0 with | .inl f=>.inl (f.1,f.2.1) | .inr q=>.inr (.inr q))
 else if S.head?=some 47 then (match toP S 1 3 d0 0 with | .inl f=>.inl f | .inr (KT,DT,L,q)=>.inr (.inl (2,d0,3,d0,KT,DT,L,q)))
 else if dts S=true then (if (S.drop 2).head?=some 47 then (match toP S 3 2 d0 0 with | .inl f=>.inl f | .inr (KT,DT,L,q)=>.inr (.inl (2,d0,2,d0,KT,DT,L,q))) else .inl (2,5))
 else match fC S 0 with
  | .inl f=>.inl (f.1,f.2.1)
  | .inr r=>if (S.drop (enR r)).head?=some 47 then (if exT (tdR r)=true then (match toP S (enR r+1) 1 (tdR r) (lvR S 0 r) with | .inl f=>.inl f | .inr (KT,DT,L,q)=>.inr (.inl (2,d0,1,tdR r,KT,DT,L,q))) else .inl (plR r,11))
   else .inr (.inl (1,tdR r,0,d0,0,d0,lvR S 0 r,enR r))
theorem mx0 {a:Int} (h:0<=a):mx a 0=a:=by unfold mx;split<;>omega
theorem Tm {S:aa} (g:S.length<100000):∃y,iH 20000000 [] 0 d0 0 d0 0 d0 false false 0 S 0=some y/\Xl S (Bv S) y:=by
 have z0:(0:Int)=((0:Nat):Int):=rfl;have Q:=pO 20000000 S 0 (jI _);rw [cw,show ((0:Nat):Int)=0 from rfl] at Q;have T:=SO (S:=S) (a:=0) (jI _) g;rw [show ((0:Nat):Int)=0 from rfl] at T;have R:=Hy (S:=S) (p:=0) (jI _) g 47;rw [cw,show ((0:Nat):Int)=0 from rfl] at R;have O:=LS (S:=S) (p:=0) (jI _) g;rw [cw,show ((0:Nat):Int)=0 from rfl] at O;have N:=LO [] 0 d0 0 d0 0 d0 false false 0 (S:=S) (p:=0) (jI _) g;rw [show ((0:Nat):Int)=0 from rfl] at N;have s:((peek S).1==91)=decide (S.head?=some 91):=EP S 91 (by decide);have m:((peek S).1==123)=decide (S.head?=some 123):=EP S 123 (by decide);have set:(S.head?=some 91\/S.head?=some 123)->∃y,(obs (nD 20000000 S 0) (u4 λZ v2 v3 Y=>(some (.inl (Z,v2,0,d0,0,d0,0,d0,false,false,0,v3,Y)))) (u13 λv5 W v7 v8 v9 K M t w H n k l=>(ob (fR 20000000 2 n k l v5 W v7 v8 v9 K M t w H 0) (u11 λI A x F C G u v J B E=>(some (.inr (.inl (I,A,x,F,C,G,u,v,J,B,E,n,k,l))))))))=some y/\Xl S (Bv S) y:=by
  intro h;rw [T];unfold Bv;rw [ae h];cases wY S 0 with
  | inl f=>exact ⟨_,rfl,_,rfl⟩
  | inr q=>exact ⟨_,rfl,rfl⟩
 unfold iH;rw [Q];simp only [ob,u2,s,m];by_cases i:S.head?=some 91
 ·rw [am i,ah];exact set (.inl i)
 rw [ar i,af];by_cases b:S.head?=some 123
 ·rw [am b,ah];exact set (.inr b)
 rw [ar b,af,R];clear set;unfold Bv;rw [ab (show ¬(S.head?=some 91\/S.head?=some 123) from λh=>h.elim i b)];simp only [u3,u2];by_cases e:S.head?=some 47
 ·simp only [am e,ae e,ah];have D:1<=S.length:=by
   have:=nW (S:=S) (p:=0) (c:=47) (by rw [cw];exact e);omega
  obtain ⟨y,o,d⟩:=Um [] 0 oG 3 0 (S:=S) (p:=1) D g;rw [show (((0+1:Nat)):Int)=((1:Nat):Int) from rfl,o];cases j:toP S 1 3 d0 0 with
  | inl f=>
   rw [j] at d;obtain ⟨z,rfl⟩:=d;exact ⟨_,rfl,_,rfl⟩
  | inr q=>
   rw [j] at d;obtain ⟨KT,DT,L,q⟩:=q;subst d;exact ⟨_,rfl,.inl rfl⟩
 ·simp only [ar e,ab e,af];rw [show (((0:Nat)):Int)=0 from rfl,O];simp only [];cases V:dts S
  ·rw [ab (by simp),ab (by simp),af,show (((0:Nat)):Int)=0 from rfl,N];cases X:fC S 0 with
   | inl f=>exact ⟨_,rfl,_,rfl⟩
   | inr r=>
    obtain ⟨P,c1,l1,U⟩:=ow (jI _) X;simp only [obs,sm,ob,u13,u12,u11,u10,u9,u8,u7,u6,u5,u4,u3,u2];rw [Hy U g,mx0 (NQ S 0 r).1];simp only [];by_cases hs:(S.drop (enR r)).head?=some 47
    ·simp only [am hs,ae hs,cZ,af];rw [HB P c1];cases hx:exT (tdR r)
     ·exact ⟨_,rfl,_,rfl⟩
     ·obtain ⟨y,o,d⟩:=Um [] 0 P 1 (lvR S 0 r) (S:=S) (p:=enR r+1) (nW hs) g;simp only [aO];rw [o];cases j:toP S (enR r+1) 1 (tdR r) (lvR S 0 r) with
      | inl f=>
       rw [j] at d;obtain ⟨z,rfl⟩:=d;exact ⟨_,rfl,_,rfl⟩
      | inr q=>
       rw [j] at d;obtain ⟨KT,DT,L,q⟩:=q;subst d;exact ⟨_,rfl,.inl rfl⟩
    ·simp only [ar hs,ab hs];exact ⟨_,rfl,.inr rfl⟩
  ·rw [ae rfl,ae rfl,ah];have D:2<=S.length:=by
    have:=tU (S:=S) (p:=0) (by rw [cw];exact V);omega
   rw [show (((0+2:Nat)):Int)=((2:Nat):Int) from rfl,I9 D g];by_cases hs:(S.drop 2).head?=some 47
   ·simp only [ae hs];obtain ⟨y,o,d⟩:=Um [] 0 oG 2 0 (S:=S) (p:=3) (nW hs) g;rw [show (((2+1:Nat)):Int)=((3:Nat):Int) from rfl];simp only [obs,sm,ob,u2,o];cases j:toP S 3 2 d0 0 with
    | inl f=>
     rw [j] at d;obtain ⟨z,rfl⟩:=d;exact ⟨_,rfl,_,rfl⟩
    | inr q=>
     rw [j] at d;obtain ⟨KT,DT,L,q⟩:=q;subst d;exact ⟨_,rfl,.inl rfl⟩
   ·simp only [ab hs];exact ⟨_,rfl,_,rfl⟩
theorem Nj {S:aa} {f:Nat×Nat} (a:Bv S=.inl f):f.2≠0:=by
 unfold Bv at a;split at a
 ·cases b:wY S 0 with
  | inl g=>rw [b] at a;cases a;exact Kx (jI _) b
  | inr q=>rw [b] at a;cases a
 ·split at a
  ·rename_i h;cases b:toP S 1 3 d0 0 with
   | inl g=>
    rw [b] at a;cases a;exact Fg (nW (S:=S) (p:=0) (by rw [cw];exact h)) b
   | inr q=>rw [b] at a;cases a
  ·split at a
   ·split at a
    ·rename_i h;cases b:toP S 3 2 d0 0 with
     | inl g=>rw [b] at a;cases a;exact Fg (nW h) b
     | inr q=>rw [b] at a;cases a
    ·cases a;simp
   ·cases b:fC S 0 with
    | inl g=>rw [b] at a;cases a;exact xo (jI _) b
    | inr r=>
     rw [b] at a;simp only [] at a;split at a
     ·rename_i h;split at a
      ·cases c:toP S (enR r+1) 1 (tdR r) (lvR S 0 r) with
       | inl g=>rw [c] at a;cases a;exact Fg (nW h) c
       | inr q=>rw [c] at a;cases a
      ·cases a;simp
     ·cases a
theorem GH (S:aa):mR S=match Bv S with
  | .inl f=>.inl f
  | .inr (.inl (K,D,KF,DF,KT,DT,L,q))=>if q<S.length then .inl (q,5) else .inr (.inl (K,D,KF,DF,KT,DT,L))
  | .inr (.inr (K,e,l,I,q))=>if q<S.length then .inl (q,5) else .inr (.inr (K,e,l,I)):=by
 unfold mR Bv H7 toX;split
 ·cases wY S 0 with
  | inl f=>rfl
  | inr q=>
   obtain ⟨_,_,_,_,p⟩:=q;by_cases hp:p<S.length<;>simp [hp]
 ·split
  ·cases toP S 1 3 d0 0 with
   | inl f=>rfl
   | inr q=>
    obtain ⟨_,_,_,p⟩:=q;by_cases hp:p<S.length<;>simp [hp]
  ·split
   ·split
    ·cases toP S 3 2 d0 0 with
     | inl f=>rfl
     | inr q=>
      obtain ⟨_,_,_,p⟩:=q;by_cases hp:p<S.length<;>simp [hp]
    ·rfl
   ·cases fC S 0 with
    | inl f=>rfl
    | inr r=>
     simp only [];split
     ·split
      ·cases toP S (enR r+1) 1 (tdR r) (lvR S 0 r) with
       | inl f=>rfl
       | inr q=>
        obtain ⟨_,_,_,p⟩:=q;by_cases hp:p<S.length<;>simp [hp]
      ·rfl
     ·rfl
theorem P4 {S:aa} (g:S.length<=16384):nj 20000000 S=some (Y0 (mR S)):=by
 obtain ⟨y,c,a⟩:=Tm (S:=S) (by omega);unfold nj ei;rw [show decide (len S>16384)=false from ar (by show ¬(16384:Int)<((S.length:Nat):Int);omega),af,c,GH];cases b:Bv S with
 | inl f=>
  have d:=Nj b;rw [b] at a;obtain ⟨z,rfl⟩:=a;simp only [obs,sm,ob,u13,u12,u11,u10,u9,u8,u7,u6,u5,u4,u3,u2];rw [show (((f.2:Nat):Int) != 0)=true from by simp;omega];rfl
 | inr q=>
  rw [b] at a;cases q with
  | inl q=>
   obtain ⟨K,D,KF,DF,KT,DT,L,p⟩:=q;simp only [];rcases a with rfl | rfl
   ·simp only [obs,sm,ob,u13,u12,u11,u10,u9,u8,u7,u6,u5,u4,u3,u2];by_cases hp:p<S.length
    ·rw [ae hp,am (show (p:Int)<((S.length:Nat):Int) by omega)];rfl
    ·rw [ab hp,ar (show ¬(p:Int)<((S.length:Nat):Int) by omega)];rfl
   ·simp only [obs,sm,ob,u14,u13,u12,u11,u10,u9,u8,u7,u6,u5,u4,u3,u2];by_cases hp:p<S.length
    ·rw [ae hp,am (show (p:Int)<((S.length:Nat):Int) by omega)];rfl
    ·rw [ab hp,ar (show ¬(p:Int)<((S.length:Nat):Int) by omega)];rfl
  | inr q=>
   obtain ⟨K,e,l,I,p⟩:=q;subst a;simp only [obs,sm,ob,u16,u15,u14,u13,u12,u11,u10,u9,u8,u7,u6,u5,u4,u3,u2];by_cases hp:p<S.length
   ·rw [ae hp,am (show (p:Int)<((S.length:Nat):Int) by omega)];rfl
   ·rw [ab hp,ar (show ¬(p:Int)<((S.length:Nat):Int) by omega)];rfl
def lvX (x:TD):Int:=lvT (fU x) x
theorem Ej {x:TD} (hs:smT x) (hc:cF x=0):∃r,fC (fU x) 0=.inr r/\tdR r=x/\enR r=(fU x).length/\lvR (fU x) 0 r=lvX x:=by
 obtain ⟨r,d,c,b⟩:=zU hs hc (S:=fU x) (a:=0) (post:=[]) (by simp) Hv;rw [dk] at b;refine ⟨r,d,c,b,?_⟩;unfold lvR lvX;rw [c,b,qT,cw,mE]
theorem MX {x:TD} (hs:smT x) (hc:cF x=0):kx 20000000 (fU x) x=some (lvX x)/\dI 20000000 (fU x)=some (lvX x):=by
 obtain ⟨r,e,c,d,_⟩:=Ej hs hc;obtain ⟨_,_,_,_,_,_,_,_,_,b,a⟩:=MF (jI _) e;rw [c,d,qT,cw,mE] at b a;exact ⟨b,a⟩
def kl (K:Int) (x:TD):aa:=if K=2 then [46,46] else if K=3 then [] else fU x
def okB (K:Int) (x:TD):Prop:=(K=1/\cF x=0/\exT x=true)\/((K=2\/K=3)/\x=d0)
theorem RH {K:Int} {x:TD} (h:vO K x=0):okB K x:=by
 by_cases c:K=1
 ·subst c;obtain ⟨a,b⟩:=F8 h;exact .inl ⟨rfl,a,b⟩
 ·unfold vO chkB at h;rw [ab c] at h;split at h
  ·rename_i d;split at h
   ·rename_i e;exact .inr ⟨d,od.1 e⟩
   ·cases h
  ·cases h
theorem pg {KF KT:Int} {x y:TD} (h:sC KF x KT y=0):okB KF x/\okB KT y/\(KF=1\/KT=1):=by
 unfold sC Jb at h;by_cases b:vO KF x=0
 ·rw [ab (λz=>z b)] at h;by_cases a:vO KT y=0
  ·rw [ab (λz=>z a)] at h;split at h
   ·cases h
   ·rename_i c;exact ⟨RH b,RH a,by omega⟩
  ·rw [ae a] at h;exact absurd h a
 ·rw [ae b] at h;exact absurd h b
inductive RightP:Int->TD->Int->TD->Int->TD->Bool->Bool->List TI->Prop where
 | single {x:TD} (hs:smT x) (hc:cF x=0):RightP 1 x 0 d0 0 d0 false false []
 | interval {KF:Int} {x:TD} {KT:Int} {y:TD} (hx:smT x) (hy:smT y) (hp:sC KF x KT y=0):RightP 2 d0 KF x KT y false false []
 | set {K:Int} {e l:Bool} {I:List TI} (P:SetP K d0 0 d0 0 d0 e l I) (hs:∀t∈I,smI t):RightP K d0 0 d0 0 d0 e l I
theorem yM {k:Int} {D:TD} {KF:Int} {DF:TD} {KT:Int} {DT:TD} {e l:Bool} {I:List TI} (hs:smE D DF DT I) (h:(dU k D KF DF KT DT e l I).2=0):RightP k D KF DF KT DT e l I:=by
 by_cases m:k=3\/k=4
 ·have P:=DD m h;obtain ⟨rfl,rfl,rfl,rfl,rfl⟩:D=d0/\KF=0/\DF=d0/\KT=0/\DT=d0:=⟨P.d,P.kf,P.df,P.kt,P.dt⟩;exact .set P hs.2.2.2
 ·unfold dU at h;split at h
  ·simp at h
  ·split at h
   ·simp at h
   ·rename_i p a;unfold unuB at a;generalize z1:eqD D d0=o at a;generalize z2:eqD DF d0=n at a;generalize j:eqD DT d0=q at a;by_cases k1:k=1
    ·subst k1;rw [ae rfl] at h;simp at a;obtain ⟨⟨⟨a1,a2⟩,b,c⟩,i,f,g⟩:=a;subst a1 b i f g;rw [od.1 (z2.trans a2),od.1 (j.trans c)];exact .single hs.1 h
    ·have k2:k=2:=by omega
     subst k2;rw [ab (by omega),ae rfl] at h;simp at a;obtain ⟨a1,a2,b,c⟩:=a;subst a2 b c;rw [od.1 (z1.trans a1)];exact .interval hs.2.1 hs.2.2.1 h
def sG (k:Int) (D:TD) (KF:Int) (DF:TD) (KT:Int) (DT:TD) (e l:Bool) (I:List TI):aa:=
 if k=1 then fU D else if k=2 then kl KF DF++47::kl KT DT else tn k e l I
def lvE (k:Int) (D:TD) (KF:Int) (DF:TD) (KT:Int) (DT:TD):Int:=
 if k=1 then lvX D else if k=2 then mx (if KT=1 then lvX DT else 1) (if KF=1 then lvX DF else 1) else 2
def exOf (k:Int) (D:TD) (KF:Int) (DF:TD) (KT:Int) (DT:TD) (e l:Bool) (I:List TI) (L:Int):(Nat×Nat)⊕(Int×TD×Int×TD×Int×TD×Int)⊕(Int×Bool×Bool×List TI):=
 if k=1\/k=2 then .inr (.inl (k,D,KF,DF,KT,DT,L)) else .inr (.inr (k,e,l,I))
theorem zY {x:TD} (hs:smT x) (hc:cF x=0) (r:aa) (c:UInt8) (a:brk c=true):(fU x++r).head?≠some c:=λh=>by
 have:=nM hs hc r c h;rw [a] at this;cases this
theorem Qb {x:TD} (hs:smT x) (hc:cF x=0):fU x≠[]:=by
 obtain ⟨g,l,dg,e,q,m,d,a,b,c,rfl,ok⟩:=oU hs hc;obtain ⟨f,_,_⟩:=yS ok.yr;intro h;have h:qL g l dg (e:Int) (q:Int) m d a b c=[]:=h;unfold qL cD at h;have:=cK List.length h;simp only [aR,bH] at this;exact f (ur (by omega))
theorem Bo {KF:Int} {DF:TD} {KT:Int} {DT:TD} (hx:smT DF) (hy:smT DT) (hp:sC KF DF KT DT=0) {S:aa} {p:Nat} (l:p<=S.length) (h:S.drop p=kl KT DT) (lv:Int):
  toX S p KF DF lv=.inr (KT,DT,mx (if KT=1 then lvX DT else 1) (if KF=1 then lv else mx 1 lv)):=by
 obtain ⟨t,m,b1⟩:=pg hp;have b:=cK List.length h;rw [bP] at b;unfold toX toP;rcases m with ⟨rfl,hc,n⟩ | ⟨q,rfl⟩
 ·have f:kl 1 DT=fU DT:=by unfold kl;rw [ab (by omega),ab (by omega)]
  rw [f] at h b;have k:¬(KF=1/\p=S.length):=by
   rintro ⟨_,e⟩;exact Qb hy hc (ur (by omega))
  have d:¬(KF=1/\dts (S.drop p)=true):=by
   rintro ⟨_,e⟩;rw [h] at e;have:=nM hy hc [];rw [ln] at this;rw [sg this] at e;cases e
  obtain ⟨r,j,g,i⟩:=zU hy hc (S:=S) (a:=p) (post:=[]) (by rw [h,ln]) Hv;rw [ab k,ab d,j];simp only [];rw [g,ae n,ae (.inr hp)];simp only [aO];rw [ab (by omega)];have:lvR S p r=lvX DT:=by
   unfold lvR lvX;rw [g,i,h];rw [show p+(fU DT).length - p=(fU DT).length by omega,mE]
  rw [this]
 ·have o:KF=1:=by omega
  subst o;rcases q with rfl | rfl
  ·have f:S.drop p=[46,46]:=h;have d:dts (S.drop p)=true:=by rw [f];rfl
   have s:=tU d;have c:(kl 2 d0).length=2:=rfl;rw [ab (by omega),ae ⟨rfl,d⟩];simp only [];rw [ab (by omega)];rfl
  ·have c:(kl 3 d0).length=0:=rfl;rw [ae ⟨rfl,by omega⟩];simp only [];rw [ab (by omega)];rfl
theorem Eq {x:TD} (hs:smT x) (hc:cF x=0):mR (fU x)=.inr (.inl (1,x,0,d0,0,d0,lvX x)):=by
 obtain ⟨r,f,d,e,r4⟩:=Ej hs hc;have a:=nM hs hc [];rw [ln] at a;have b:=λc a=>zY hs hc [] c a;rw [ln] at b;generalize fU x=T at *;unfold mR;rw [ab (by rintro (h | h);exact b 91 (by decide) h;exact b 123 (by decide) h),ab (b 47 (by decide)),sg a,ab (by simp),f];simp only [];rw [e,sV,ab (by simp),ab (by omega),d,r4]
theorem JE {DF:TD} (hx:smT DF) (hc:cF DF=0) (o:exT DF=true) {KT:Int} {DT:TD} (hy:smT DT) (hp:sC 1 DF KT DT=0):mR (fU DF++47::kl KT DT)=.inr (.inl (2,d0,1,DF,KT,DT,mx (if KT=1 then lvX DT else 1) (lvX DF))):=by
 have f:=nM hx hc (47::kl KT DT);have b:=λc f=>zY hx hc (47::kl KT DT) c f;generalize i:fU DF++47::kl KT DT=S at *;obtain ⟨r,l,j,d⟩:=zU hx hc (S:=S) (a:=0) (post:=47::kl KT DT) (by rw [cw,i]) (rk (by decide));rw [dk] at d;have e:S.drop (enR r)=47::kl KT DT:=by rw [d,<-i,List.drop_left]
 have n:S.drop (enR r+1)=kl KT DT:=by rw [<-jg,e];rfl
 have m:lvR S 0 r=lvX DF:=by
  unfold lvR lvX;rw [j,d,qT,cw,<-i,BC]
 have g:enR r+1<=S.length:=by
  have:=cK List.length e;rw [bP,aE] at this;omega
 have k:=Bo hx hy hp g n (lvX DF);rw [ae rfl] at k;unfold mR;rw [ab (by rintro (h | h);exact b 91 (by decide) h;exact b 123 (by decide) h),ab (b 47 (by decide)),sg f,ab (by simp),l];simp only [];rw [e,sT,ae rfl,j,ae o,m,k]
theorem JL {DT:TD} (hy:smT DT) (hp:sC 2 d0 1 DT=0):mR (46::46::47::fU DT)=.inr (.inl (2,d0,2,d0,1,DT,mx (lvX DT) 1)):=by
 have a:=Bo oG hy hp (S:=46::46::47::fU DT) (p:=3) (by simp only [aE];omega) (by simp only [nJ,cw];unfold kl;rw [ab (by omega),ab (by omega)]) 0;rw [ae rfl,ab (by omega)] at a;generalize fU DT=T at *;unfold mR;rw [ab (by simp),ab (by simp)];have b:dts (46::46::47::T)=true:=rfl;rw [ae b,ae (by rfl),a];rfl
theorem J7 {DT:TD} (hy:smT DT) (hp:sC 3 d0 1 DT=0):mR (47::fU DT)=.inr (.inl (2,d0,3,d0,1,DT,mx (lvX DT) 1)):=by
 have a:=Bo oG hy hp (S:=47::fU DT) (p:=1) (by simp only [aE];omega) (by simp only [nJ,cw];unfold kl;rw [ab (by omega),ab (by omega)]) 0;rw [ae rfl,ab (by omega)] at a;generalize fU DT=T at *;unfold mR;rw [ab (by simp),ae (by rfl),a];rfl
theorem GK {k:Int} {D:TD} {KF:Int} {DF:TD} {KT:Int} {DT:TD} {e l:Bool} {I:List TI} (h:RightP k D KF DF KT DT e l I):mR (sG k D KF DF KT DT e l I)=exOf k D KF DF KT DT e l I (lvE k D KF DF KT DT):=by
 cases h with
 | single hs hc=>
  unfold sG exOf lvE;rw [ae (by omega),ae (by omega),ae (by omega),Eq hs hc]
 | interval hx hy hp=>
  obtain ⟨i,p,b1⟩:=pg hp;unfold sG exOf lvE;rw [ab (by omega),ae (by omega),ae (by omega),ab (by omega),ae (by omega)];rcases i with ⟨rfl,hc,j⟩ | ⟨f,rfl⟩
  ·have a:kl 1 DF=fU DF:=by unfold kl;rw [ab (by omega),ab (by omega)]
   rw [a,JE hx hc j hy hp,ae (show (1:Int)=1 from rfl)]
  ·have o:KT=1:=by omega
   subst o;have a:kl 1 DT=fU DT:=by unfold kl;rw [ab (by omega),ab (by omega)]
   rw [a,ae (show (1:Int)=1 from rfl),ab (by omega)];rcases f with rfl | rfl
   ·have g:kl 2 d0=[46,46]:=by unfold kl;rw [ae rfl]
    rw [g];exact JL hy hp
   ·have m:kl 3 d0=[]:=by unfold kl;rw [ab (by omega),ae rfl]
    rw [m];exact J7 hy hp
 | set P hs=>
  have ok:=λt a=>(IE P hs t a).1;have f:=P.kind;have c:¬(k=1\/k=2):=by omega
  have d:sG k d0 0 d0 0 d0 e l I=tn k e l I:=by
   unfold sG;rw [ab (by omega),ab (by omega)]
  have b:∀L,exOf k d0 0 d0 0 d0 e l I L=.inr (.inr (k,e,l,I)):=λL=>by
   unfold exOf;rw [ab c]
  rw [d,b];have n:(tn k e l I).head?=some 91\/(tn k e l I).head?=some 123:=by
   unfold tn;rw [sT];split
   ·exact .inr rfl
   ·exact .inl rfl
  have hp:=Jf f P.one P.most ok P.set;generalize tn k e l I=T at *;unfold mR;rw [ae n,hp]
theorem tW {K:Int} {x:TD} (hs:smT x) (h:okB K x):(kl K x).length<=37:=by
 rcases h with ⟨rfl,hc,c⟩ | ⟨b,rfl⟩
 ·have a:kl 1 x=fU x:=by unfold kl;rw [ab (by omega),ab (by omega)]
  rw [a];exact o7 hs hc
 ·rcases b with rfl | rfl<;>decide
def okDs (L:List TD):Prop:=∀x∈L,smT x/\cF x=0
theorem SH {k:Int} {D:TD} {KF:Int} {DF:TD} {KT:Int} {DT:TD} {e l:Bool} {I:List TI} (h:RightP k D KF DF KT DT e l I):okDs (datE k D KF DF KT DT I):=by
 intro x hx;cases h with
 | single hs hc=>
  unfold datE at hx;rw [ae rfl] at hx;rw [nX.1 hx];exact ⟨hs,hc⟩
 | interval j n hp=>
  obtain ⟨q,r,_⟩:=pg hp;have i:KF=1->cF DF=0:=λh=>by
   rcases q with ⟨_,hc,_⟩ | ⟨f,_⟩
   ·exact hc
   ·omega
  have m:KT=1->cF DT=0:=λh=>by
   rcases r with ⟨_,hc,_⟩ | ⟨f,_⟩
   ·exact hc
   ·omega
  unfold datE at hx;rw [ab (by omega),ae rfl] at hx;split at hx
  ·rename_i g;split at hx
   ·rename_i d;rcases cf.1 hx with rfl | hx
    ·exact ⟨j,i g⟩
    ·rw [nX.1 hx];exact ⟨n,m d⟩
   ·rw [nX.1 hx];exact ⟨j,i g⟩
  ·split at hx
   ·rename_i d;rw [nX.1 hx];exact ⟨n,m d⟩
   ·cases hx
 | set P hs=>
  have f:=P.kind;unfold datE at hx;rw [ab (by omega),ab (by omega),ae f] at hx;obtain ⟨t,p,c⟩:=FB.1 hx;have ok:=(IE P hs t p).1;unfold datI at c;split at c
  ·rename_i o;rcases cf.1 c with rfl | c
   ·exact ⟨ok.sm.1,ok.a⟩
   ·rw [nX.1 c];exact ⟨ok.sm.2,ok.b o⟩
  ·rw [nX.1 c];exact ⟨ok.sm.1,ok.a⟩
theorem C2:∀I:List TI,(I.flatMap datI).length<=2*I.length
 | []=>by simp
 | t::I=>by
  have:=IT t;have:=C2 I;rw [ou,aR,aE];omega
theorem zS {k:Int} {D:TD} {KF:Int} {DF:TD} {KT:Int} {DT:TD} {e l:Bool} {I:List TI} (h:RightP k D KF DF KT DT e l I) (d:I.length<=5):(sG k D KF DF KT DT e l I).length<=16384:=by
 cases h with
 | single hs hc=>
  have:=o7 hs hc;unfold sG;rw [ae rfl];omega
 | interval hx hy hp=>
  obtain ⟨b,c,_⟩:=pg hp;have g:=tW hx b;have f:=tW hy c;unfold sG;rw [ab (by omega),ae rfl,aR,aE];omega
 | set P hs=>
  have i:=P.kind;unfold sG;rw [ab (by omega),ab (by omega)];have:=D8 (I:=I) λt a=>(IE P hs t a).1;unfold tn;cases e<;>cases l<;>simp<;>omega
theorem SE {K:Int} {x:TD} (h:okB K x):vO K x=0:=by
 rcases h with ⟨rfl,hc,a⟩ | ⟨b,rfl⟩
 ·exact Pz hc a
 ·rcases b with rfl | rfl<;>kernel_rfl
theorem IU {K:Int} {x:TD} (hs:smT x) (h:okB K x):ap10 (lC 20000000 K) x=some (kl K x,0):=by
 have b:chkB K x.1 x.2.1 x.2.2.1 x.2.2.2.1 x.2.2.2.2.1 x.2.2.2.2.2.1 x.2.2.2.2.2.2.1 x.2.2.2.2.2.2.2.1 x.2.2.2.2.2.2.2.2.1 x.2.2.2.2.2.2.2.2.2=0:=SE h;have:=Sv (K:=K) (g:=x.1) (l:=x.2.1) (x:=x.2.2.2.1) (q:=x.2.2.2.2.1) hs.1 hs.2.1 hs.2.2.1 hs.2.2.2.1 hs.2.2.2.2.1 hs.2.2.2.2.2;rw [ae b] at this;refine this.trans ?_;unfold kl fU;by_cases a:K=2
 ·simp only [a,aO]
 ·simp only [a,aC]
theorem Fp {KF:Int} {x:TD} {KT:Int} {y:TD} (hx:smT x) (hy:smT y) (hp:sC KF x KT y=0) (K:Int) (D:TD) (e l:Bool) (I:List TI):
  jD 20000000 K D KF x KT y e l I=some (kl KF x++47::kl KT y,0):=by
 obtain ⟨a,b,_⟩:=pg hp;have d:=tW hx a;have c:=tW hy b;unfold jD;rw [IU hx a,IU hy b];simp only [ob,u2];rw [cJ (by simp only [aE,bH];omega)];simp only [];rw [cJ (by simp only [aR,aE,bH];omega)];simp only [fK,eW,dJ]
theorem Qi {k:Int} {D:TD} {KF:Int} {DF:TD} {KT:Int} {DT:TD} {e l:Bool} {I:List TI} (h:RightP k D KF DF KT DT e l I):(dU k D KF DF KT DT e l I).2=0:=by
 cases h with
 | single hs hc=>rw [(EG hs hc).first]
 | interval hx hy hp=>rw [(zb hx hy hp).first]
 | set P hs=>exact P.set
theorem XU {k:Int} {D:TD} {KF:Int} {DF:TD} {KT:Int} {DT:TD} {e l:Bool} {I:List TI} (h:RightP k D KF DF KT DT e l I):smE D DF DT I:=by
 cases h with
 | single hs hc=>exact ⟨hs,oG,oG,λt a=>by cases a⟩
 | interval hx hy hp=>exact ⟨oG,hx,hy,λt a=>by cases a⟩
 | set P hs=>exact ⟨oG,oG,oG,hs⟩
theorem Kt {k:Int} {D:TD} {KF:Int} {DF:TD} {KT:Int} {DT:TD} {e l:Bool} {I:List TI} (hs:smE D DF DT I):
  jl 20000000 k D KF DF KT DT e l I=some (if (dU k D KF DF KT DT e l I).2=0 then (sG k D KF DF KT DT e l I,0) else ([],(dU k D KF DF KT DT e l I).2)):=by
 unfold jl;rw [ww hs];by_cases a:(dU k D KF DF KT DT e l I).2=0
 ·rw [ae a,a];have P:=yM hs a;simp only [ob,eC,af,mL];cases P with
  | single hx hc=>
   rw [show ((1:Int)==1)=true from rfl,ah];unfold kD sG;rw [ae rfl,dfT hx hc];simp only [ob,u2]
  | interval hx hy hp=>
   rw [show ((2:Int)==1)=false from rfl,af,show ((2:Int)==2)=true from rfl,ah,Fp hx hy hp];unfold sG;rw [ab (by omega),ae rfl]
  | set P hi=>
   have b:=P.kind;have c:=SA (K:=k) (KF:=0) (KT:=0) (e:=e) (l:=l) hs;rw [ae (show CN k from b),ae a] at c;rw [c];unfold sG;rw [ab (by rcases b with rfl | rfl<;>omega),ab (by rcases b with rfl | rfl<;>omega)];generalize tn k e l I=w;rcases b with rfl | rfl<;>rfl
 ·rw [ab a];simp only [ob];rw [show ((dU k D KF DF KT DT e l I).2 != 0)=true from Ap.2 a,ah]
theorem GG {k:Int} {D:TD} {KF:Int} {DF:TD} {KT:Int} {DT:TD} {e l:Bool} {I:List TI} (h:RightP k D KF DF KT DT e l I):
  jl 20000000 k D KF DF KT DT e l I=some (sG k D KF DF KT DT e l I,0):=by
 rw [Kt (XU h),ae (Qi h)]
end Go.Sh
