
/- Plain proofs, kept as far as they are needed here (printed by prune.py).
   Conditions: none. -/
import Derived.Test.YthemneooekobkaaGreatDoorLawPzb
set_option linter.unusedVariables false
set_option linter.unusedSimpArgs false
set_option maxRecDepth 100000
namespace Go.Sh
open Go.Abs
def KV (g l:Bool) (dg:aa) (x q:Int) (m d:aa) (k0 k1 k2:Int):Bool:=
 (((g==false)&&((l==false)&&((dg==([]:aa))&&((x==0)&&((q==0)&&true)))))&&((m==([]:aa))&&((d==([]:aa))&&(((k0==0)&&((k1==0)&&((k2==0)&&true)))&&true))))
noncomputable def chkB (K:Int) (g l:Bool) (dg:aa) (x q:Int) (m d:aa) (k0 k1 k2:Int):Int:=
 if K=1 then (if chkF g l dg x q m d k0 k1 k2=0 then (if exD dg m d q=true then 0 else 11) else chkF g l dg x q m d k0 k1 k2) else if K=2\/K=3 then (if KV g l dg x q m d k0 k1 k2=true then 0 else 5) else 18
def Ox (d b a c lo hi:Int):Int:=if d≠0 then d else if b≠0 then b else if a≠1/\c≠1 then 11 else if a≠1\/c≠1 then 0 else if lo>hi then 11 else 0
section
variable {K:Int} {g l:Bool} {dg:List UInt8} {x q:Int} {m d:List UInt8} {k0 k1 k2:Int} (hml:m.length<=18) (hdl:dg.length<=100) (hd18:d.length<=18) (h0:0<=k0) (h1:0<=k1) (h2:0<=k2)
include hml hdl hd18 h0 h1 h2
theorem yz:ic 20000000 K g l dg x q m d k0 k1 k2=some (chkB K g l dg x q m d k0 k1 k2):=by
 unfold ic chkB;rw [tu hml hdl h0 h1 h2,DW 20000000 g l dg x q m d k0 k1 k2 (by omega) (by omega) (by omega)];simp only [ob];by_cases a:K=1
 ·subst a;rw [ae rfl];simp only [uw,aj];by_cases hc:chkF g l dg x q m d k0 k1 k2=0
  ·rw [ae hc,hc];by_cases c:exD dg m d q=true
   ·rw [ae c,c];rfl
   ·rw [ab c];rw [C6] at c;rw [c];rfl
  ·rw [ab hc,bne0 hc];rfl
 ·rw [ab a,aM.2 a];simp only [af];have f:(!(((g==false)&&((l==false)&&((dg==([]:aa))&&((x==0)&&((q==0)&&true)))))&&((m==([]:aa))&&((d==([]:aa))&&(((k0==0)&&((k1==0)&&((k2==0)&&true)))&&true)))))=!(KV g l dg x q m d k0 k1 k2):=rfl;rw [f];by_cases b:K=2
  ·subst b;rw [ae (.inl rfl)];cases KV g l dg x q m d k0 k1 k2<;>rfl
  ·rw [aM.2 b];by_cases e:K=3
   ·subst e;rw [ae (.inr rfl)];cases KV g l dg x q m d k0 k1 k2<;>rfl
   ·rw [aM.2 e,ab (by omega)];rfl
theorem EB (hc:chkB K g l dg x q m d k0 k1 k2=0) (b:K=1):chkF g l dg x q m d k0 k1 k2=0/\exD dg m d q=true:=by
 have c:=And.intro hml (And.intro hdl (And.intro hd18 (And.intro h0 (And.intro h1 h2))));unfold chkB at hc;rw [ae b] at hc;by_cases h:chkF g l dg x q m d k0 k1 k2=0
 ·rw [ae h] at hc;by_cases a:exD dg m d q=true
  ·exact ⟨h,a⟩
  ·rw [ab a] at hc;cases hc
 ·rw [ab h] at hc;exact absurd hc h
end
theorem TO (n:Nat) (a b:Int):iu n a b=some (if a<b then -1 else if a>b then 1 else 0):=by
 unfold iu jn;simp only [ob,gO,af];by_cases h:a<b
 ·rw [am h,ae h];rfl
 ·rw [ar h,ab h];by_cases c:a>b
  ·rw [am c,ae c];rfl
  ·rw [ar c,ab c];rfl
theorem Dt (a b:Int):∃r,je 20000000 0 a 0 b=some r/\decide (r>0)=decide (a>b):=by
 have f:kM 20000000 0 0=some 0:=rfl;have o1:mO 20000000 [0,-1]=some (-1):=by kernel_rfl
 have d:mO 20000000 [0,1]=some 1:=by kernel_rfl
 have e:mO 20000000 [0,0]=some 0:=by kernel_rfl
 unfold je;rw [f,TO];simp only [ob];by_cases h:a<b
 ·rw [ae h,o1];exact ⟨_,rfl,by rw [ar (show ¬a>b by omega)];rfl⟩
 ·rw [ab h];by_cases c:a>b
  ·rw [ae c,d];exact ⟨_,rfl,by rw [am c];rfl⟩
  ·rw [ab c,e];exact ⟨_,rfl,by rw [ar c];rfl⟩
theorem bne1 {K:Int} (h:K≠1):(K != 1)=true:=by simp [h]
section
variable {K:Int} {g l:Bool} {dg:List UInt8} {x q:Int} {m d:List UInt8} {k0 k1 k2:Int} {K':Int} {g' l':Bool} {dg':List UInt8} {x' q':Int} {m' d':List UInt8} {p0 p1 p2:Int} (hml:m.length<=18) (hdl:dg.length<=100) (hd18:d.length<=18) (h0:0<=k0) (h1:0<=k1) (h2:0<=k2) (hml':m'.length<=18) (hdl':dg'.length<=100) (hd18':d'.length<=18) (h0':0<=p0) (h1':0<=p1) (h2':0<=p2)
include hml hdl hd18 h0 h1 h2 hml' hdl' hd18' h0' h1' h2'
theorem Oi:f9 20000000 K g l dg x q m d k0 k1 k2 K' g' l' dg' x' q' m' d' p0 p1 p2=some (Ox (chkB K g l dg x q m d k0 k1 k2) (chkB K' g' l' dg' x' q' m' d' p0 p1 p2) K K' (sP g dg x m d).1 (sP g' dg' x' m' d').2):=by
 unfold f9 Ox;rw [yz hml hdl hd18 h0 h1 h2,yz hml' hdl' hd18' h0' h1' h2'];simp only [ob];by_cases b:chkB K g l dg x q m d k0 k1 k2=0
 ·rw [ab (by omega),b];by_cases c:chkB K' g' l' dg' x' q' m' d' p0 p1 p2=0
  ·rw [ab (by omega),c];simp only [gO,af];by_cases e:K=1
   ·rw [show (K != 1)=false by rw [e];rfl];simp only [af];by_cases a:K'=1
    ·rw [show (K' != 1)=false by rw [a];rfl,ab (by omega),ab (by omega)];simp only [af];obtain ⟨j,o⟩:=EB hml hdl hd18 h0 h1 h2 b e;obtain ⟨f,i⟩:=EB hml' hdl' hd18' h0' h1' h2' c a;rw [BE hml hdl hd18 h0 h1 h2,BE hml' hdl' hd18' h0' h1' h2',ae j,ae o,ae f,ae i];simp only [ob];obtain ⟨r,n,k⟩:=Dt (sP g dg x m d).1 (sP g' dg' x' m' d').2;rw [n];simp only [k];by_cases h:(sP g dg x m d).1>(sP g' dg' x' m' d').2
     ·rw [am h,ae h];rfl
     ·rw [ar h,ab h];rfl
    ·rw [bne1 a,ab (by omega),ae (by omega)];rfl
   ·rw [bne1 e];by_cases a:K'=1
    ·rw [show (K' != 1)=false by rw [a];rfl,ab (by omega),ae (by omega)];rfl
    ·rw [bne1 a,ae (by omega)];rfl
  ·rw [ae c,bne0 c];rfl
 ·rw [ae b,bne0 b];rfl
end
def plR (r:DR):Nat:=r.2.2.2.2.2.2.2.2.1.1
def enR (r:DR):Nat:=r.2.2.2.2.2.2.2.2.2
theorem Gu {l:aa} {b:UInt8} (h:l.take 2=[b,b]):∃r,l=b::b::r:=by
 match l,h with
 | a::c::r,h=>simp at h;exact ⟨r,by rw [h.1,h.2]⟩
theorem E0 {S:aa} {a:Nat} (h:a<=S.length) {r:DR} (b:di S a=.inr r):kK S a=.inr r/\chkR r=0:=by
 unfold di at b;cases c:kK S a with
 | inl k=>rw [c] at b;cases b
 | inr d=>
  rw [c] at b;simp only [] at b;by_cases hc:chkR d=0
  ·rw [ae hc] at b;obtain rfl:=Sum.inr.inj b;exact ⟨rfl,hc⟩
  ·rw [ab hc] at b;cases b
theorem pA (c:UInt8) (k:Nat) (a:k<256):(((c.toNat:Nat):Int)==(k:Int))=decide (c=UInt8.ofNat k):=by
 rw [qI,bg,decide_eq_true_iff];constructor
 ·intro h;apply fF.1;have:c.toNat=k:=by omega
  rw [this];simp;omega
 ·rintro rfl;simp;omega
theorem tZ {S:aa} {a:Nat} (h:a<=S.length) {k E p:Nat} (b:di S a=.inl (k,E,p)):E≠0:=by
 unfold di at b;cases c:kK S a with
 | inl k'=>rw [c] at b;simp only [] at b;have:=Sum.inl.inj b;simp at this;omega
 | inr d=>
  rw [c] at b;simp only [] at b;by_cases hc:chkR d=0
  ·rw [ae hc] at b;cases b
  ·rw [ab hc] at b;have:=Sum.inl.inj b;simp at this;omega
def smT (x:TD):Prop:=x.2.2.2.2.2.1.length<=18/\x.2.2.1.length<=100/\x.2.2.2.2.2.2.1.length<=18/\0<=x.2.2.2.2.2.2.2.1/\0<=x.2.2.2.2.2.2.2.2.1/\0<=x.2.2.2.2.2.2.2.2.2
noncomputable def cF (x:TD):Int:=chkF x.1 x.2.1 x.2.2.1 x.2.2.2.1 x.2.2.2.2.1 x.2.2.2.2.2.1 x.2.2.2.2.2.2.1 x.2.2.2.2.2.2.2.1 x.2.2.2.2.2.2.2.2.1 x.2.2.2.2.2.2.2.2.2
def exT (x:TD):Bool:=exD x.2.2.1 x.2.2.2.2.2.1 x.2.2.2.2.2.2.1 x.2.2.2.2.1
def dyT (x:TD):Int×Int:=sP x.1 x.2.2.1 x.2.2.2.1 x.2.2.2.2.2.1 x.2.2.2.2.2.2.1
def seT (x:TD):Int:=sea x.2.2.2.2.2.1
def coT (x:TD):Nat:=cg x.2.2.2.2.2.1 x.2.2.2.2.2.2.1
noncomputable def plT (x:TD):Bool:=decide (cF x=0)&&(exT x&&!decide (0<seT x))
theorem Fz:smT d0:=by unfold smT;simp
theorem fcT {x:TD} (h:smT x):ap10 (bp 20000000) x=some (cF x):=tu h.1 h.2.1 h.2.2.2.1 h.2.2.2.2.1 h.2.2.2.2.2
theorem reT {x:TD} (h:smT x):ap10 (kJ 20000000) x=some (if exT x then 1 else 0):=by
 obtain ⟨a,b,c,_⟩:=h;exact Jr 20000000 _ _ _ _ _ _ _ _ _ _ (by omega) (by omega) (by omega) (by omega)
theorem rsT (x:TD):ap10 (aN 20000000) x=some (seT x):=mU 20000000 (by omega) _ _ _ _ _ _ _ _ _ _
theorem fpT {x:TD} (h:smT x):ap10 (aW 20000000) x=some (if x.2.2.2.2.2.2.1=[] then (if 0<seT x then 0 else if x.2.2.2.2.2.1=[] then 1 else 2) else 3):=H9 20000000 _ _ _ _ _ _ _ _ _ _ h.1
theorem fmT {x:TD} (h:smT x):ap10 (dT 20000000) x=some (hasX x.2.2.1||(hasX x.2.2.2.2.2.1||hasX x.2.2.2.2.2.2.1)):=by
 obtain ⟨a,b,c,_⟩:=h;exact zx 20000000 _ _ _ _ _ _ _ _ _ _ (by omega) (by omega) (by omega)
theorem fdT {x:TD} (h:smT x):ap10 (fJ 20000000) x=some (if cF x=0 then (if exT x=true then (0,(dyT x).1,0,(dyT x).2,0) else (0,0,0,0,1)) else (0,0,0,0,cF x)):=BE h.1 h.2.1 h.2.2.1 h.2.2.2.1 h.2.2.2.2.1 h.2.2.2.2.2
theorem tY {x:TD} (hc:cF x=0):(x.2.2.2.2.2.1=[]\/x.2.2.2.2.2.1.length=2)/\(x.2.2.2.2.2.2.1=[]\/x.2.2.2.2.2.2.1.length=2)/\(x.2.2.2.2.2.2.1≠[]->x.2.2.2.2.2.1≠[]/\seT x=0):=by
 obtain ⟨_,a,b,_,c⟩:=mT (qK hc);exact ⟨a,b,c⟩
theorem EE {x:TD} (h:smT x):lz 20000000 x=some (exT x):=by
 unfold lz;rw [fmT h];simp only [ob,exT,exD];cases (hasX x.2.2.1||(hasX x.2.2.2.2.2.1||hasX x.2.2.2.2.2.2.1))<;>rfl
theorem xQ {x:TD} (h:smT x):jY 20000000 x=some (plT x):=by
 unfold jY plT;rw [fcT h,EE h,fpT h];simp only [ob];by_cases hc:cF x=0
 ·rw [hc];cases e:exT x
  ·rfl
  ·show some ((if _ then _ else _) != (0:Int))=some (true&&(true&&!decide (0<seT x)));obtain ⟨_,_,d⟩:=tY hc;by_cases b:x.2.2.2.2.2.2.1=[]
   ·rw [ae b];by_cases a:0<seT x
    ·rw [ae a,am a];rfl
    ·rw [ab a,ar a];by_cases c:x.2.2.2.2.2.1=[]
     ·rw [ae c];rfl
     ·rw [ab c];rfl
   ·rw [ab b,(d b).2];rfl
 ·rw [ar hc,show (cF x==0)=false from by simp [hc]];rfl
theorem GX {x:TD}:plT x=true↔cF x=0/\exT x=true/\¬0<seT x:=by
 unfold plT;simp [and_assoc]
noncomputable def ordB (x y:TD):Bool:=(plT x&&plT y)&&(decide (coT x=coT y)&&decide ((dyT x).1<=(dyT y).1))
theorem wB {x:TD} (hc:cF x=0) (d:¬0<seT x):(if x.2.2.2.2.2.2.1=[] then (if 0<seT x then (0:Int) else if x.2.2.2.2.2.1=[] then 1 else 2) else 3)=((coT x:Nat):Int):=by
 obtain ⟨_,_,c⟩:=tY hc;unfold coT cg;by_cases a:x.2.2.2.2.2.2.1=[]
 ·rw [ae a,ab d];by_cases b:x.2.2.2.2.2.1=[]
  ·simp [b,a]
  ·simp [b,a]
 ·have b:=(c a).1;simp [a,b]
theorem FR {x y:TD} (c:smT x) (b:smT y):k7 20000000 x y=some (ordB x y):=by
 unfold k7 ordB;rw [xQ c,xQ b];cases k:plT x
 ·rfl
 cases m:plT y
 ·rfl
 obtain ⟨e,o,h⟩:=GX.1 k;obtain ⟨f,i,n⟩:=GX.1 m;rw [fpT c,fpT b,fdT c,fdT b,wB e h,wB f n,ae e,ae f,ae o,ae i];simp only [ob,u5,u4,u3,u2,cV,af,Bool.and_self,nS];by_cases a:coT x=coT y
 ·rw [a,am rfl];obtain ⟨r,j,l⟩:=Dt (dyT x).1 (dyT y).1;simp only [gO,af,j,nS];refine cK some ?_;have:decide (r<=0)=!decide (r>0):=by
   by_cases g:r<=0
   ·rw [am g,ar (by omega)];rfl
   ·rw [ar g,am (by omega)];rfl
  rw [this,l];by_cases d:(dyT x).1<=(dyT y).1
  ·rw [am d,ar (by omega)];rfl
  ·rw [ar d,am (by omega)];rfl
 ·have:(((coT x:Nat):Int) != ((coT y:Nat):Int))=true:=by simp;omega
  rw [this,ar a];rfl
noncomputable def itE (x:TD) (r:Bool) (y:TD) (all:Bool):Int:=
 if cF x≠0 then cF x else if r=true/\cF y≠0 then cF y else if r=false/\eqD y d0=false then 5 else if r=true/\ordB x y=false then 10 else if all=true/\exT x=false then 10 else 0
theorem Ax {x y:TD} (r:Bool) (b:smT x) (c:smT y) (K:Int) (hc:cF x=0) (a:¬(r=true/\cF y≠0)):dI 20000000 5 10 10 x r y K=some (itE x r y (K==4)):=by
 unfold dI oP o6 oL itE;rw [FR b c,EE b,ab (by simpa using hc),ab a];cases r
 ·generalize eqD y d0=z;cases z
  ·rfl
  ·cases (K==4)
   ·rfl
   ·cases exT x<;>rfl
 ·simp only [ob,cV,af,aj,reduceCtorEq,vw,aE,ke];cases ordB x y
  ·rfl
  ·simp only [cV,af,Bool.true_eq_false,aE];cases (K==4)
   ·rfl
   ·cases exT x<;>rfl
theorem Ie {x y:TD} (r:Bool) (d:smT x) (c:smT y) (K:Int):fR 20000000 x r y K=some (if K=3\/K=4 then itE x r y (K==4) else 18):=by
 have b:(ob (ap10 (bp 20000000) x) λg=>(cond (g != 0) (some g) (cond r (ob (ap10 (bp 20000000) y) λh=>(cond (h != 0) (some h) (ob (dI 20000000 5 10 10 x r y K) λj=>(some j)))) (ob (dI 20000000 5 10 10 x r y K) λi=>(some i)))))=some (itE x r y (K==4)):=by
  rw [fcT d];simp only [ob];by_cases hc:cF x=0
  ·rw [show (cF x != 0)=false from by simp [hc],af];cases r
   ·rw [Ax false d c K hc (by simp)];rfl
   ·rw [aj,fcT c];simp only;by_cases a:cF y=0
    ·rw [show (cF y != 0)=false from by simp [a],af,Ax true d c K hc (by simp [a])]
    ·rw [show (cF y != 0)=true from by simp [a],aj];unfold itE;rw [ab (by simpa using hc),ae ⟨rfl,a⟩]
  ·rw [show (cF x != 0)=true from by simp [hc],aj];unfold itE;rw [ae hc]
 unfold fR;by_cases f:K=3
 ·subst f;exact b.trans (by rfl)
 ·rw [show (K != 3)=true from by simp [f],aj];by_cases e:K=4
  ·subst e;exact b.trans (by rfl)
  ·rw [show (K != 4)=true from by simp [e],aj,ab (by omega)]
def yj {A:Type} (f:Nat->A->Int):Nat->List A->Option (Nat×Int)
 | _,[]=>none
 | i,t::r=>if f i t≠0 then some (i,f i t) else yj f (i+1) r
theorem xf {A X Y:Type} {step:X->Option (X⊕Y)} {st:Nat->X} {L:List A} {f:Nat->A->Int} {yes:Nat->Int->Y} {no:Y}
  (e:∀i t,L[i]?=some t->step (st i)=some (if f i t≠0 then .inr (yes i (f i t)) else .inl (st (i+1)))) (d:step (st L.length)=some (.inr no)):
  ∀(r i:Nat),i+r=L.length->∀N,r<N->aw step N (st i)=some (match yj f i (L.drop i) with | some p=>yes p.1 p.2 | none=>no):=by
 intro r
 induction r with
 | zero=>
  intro i hi N g;obtain ⟨N,rfl⟩:∃k,N=k+1:=⟨N - 1,by omega⟩;rw [aw,show i=L.length by omega,d,uC];rfl
 | succ r ih=>
  intro i hi N g;obtain ⟨N,rfl⟩:∃k,N=k+1:=⟨N - 1,by omega⟩;have a:i<L.length:=by omega
  have c:L[i]?=some L[i]:=bj a;rw [aw,e i _ c,qb a,yj];by_cases b:f i L[i]≠0
  ·rw [ae b,ae b]
  ·rw [ab b,ab b];exact ih (i+1) (by omega) N (by omega)
abbrev rT (t:TI):Bool:=(d8 t).2.2.1
abbrev iT (t:TI):TD:=(d8 t).2.2.2
def smI (t:TI):Prop:=smT (iF t)/\smT (iT t)
noncomputable def itI (t:TI) (all:Bool):Int:=itE (iF t) (rT t) (iT t) all
noncomputable def endB (t:TI):Bool:=!rT t&&plT (iF t)
noncomputable def errI (K:Int) (e l:Bool) (n i:Nat) (t:TI):Int:=
 if itI t (K==4)≠0 then itI t (K==4) else if (e&&decide (i=0))&&!endB t||((l&&decide (i+1=n))&&!endB t||(e&&(l&&decide (n=1)))) then 10 else 0
noncomputable def zN (K:Int) (e l:Bool) (L:List TI):Int×Int:=match yj (errI K e l L.length) 0 L with
 | some p=>((p.1:Int),p.2)
 | none=>(0,0)
theorem ud {i:Nat} (h:i<9223372036854775807):w64 ((i:Int)+1)=((i+1:Nat):Int):=by
 show IntKind.wrap .i64 _=_;rw [wrap_i64 _ (by omega) (by omega)];omega
theorem IU {i:Nat} (a:0<i) (h:i<9223372036854775807):w64 ((i:Int) - 1)=((i - 1:Nat):Int):=by
 show IntKind.wrap .i64 _=_;rw [wrap_i64 _ (by omega) (by omega)];omega
theorem natB (a b:Nat):(((a:Nat):Int)==((b:Nat):Int))=decide (a=b):=by
 by_cases h:a=b
 ·subst h;simp
 ·rw [ar h];simp;omega
theorem Oe (a:Nat):(((a:Nat):Int)==0)=decide (a=0):=natB a 0
theorem QL {x y:TD} (r:Bool) (a:smT x):lI 20000000 x r y=some (!r&&plT x):=by
 unfold lI;rw [xQ a];cases r<;>rfl
theorem JI {K:Int} (p:K=3\/K=4) {e l:Bool} {L:List TI} {i:Nat} {t:TI} (hi:L[i]?=some t) (j:smI t) (u:L.length<=1000000) (D:TD) (q:Int) (r:TD) (n:Int) (s:TD):
  gG 20000000 (itI t (K==4)) 10 10 10 (iF t) (rT t) (iT t) K D q r n s e l (i:Int) (w64 (len L - 1)) L=some (errI K e l L.length i t):=by
 have m:i<L.length:=(qf.1 hi).1;have d:w64 (len L - 1)=((L.length - 1:Nat):Int):=IU (by omega) (by omega);have g:fR 20000000 (iF t) (rT t) (iT t) K=some (itI t (K==4)):=by
  rw [Ie _ j.1 j.2,ae p];rfl
 unfold gG qS rz rn rj errI;rw [g,d];simp only [QL (rT t) j.1,ob,Oe,natB];have k:decide (i=L.length - 1)=decide (i+1=L.length):=by congr 1;exact propext (by omega)
 have o:decide (L.length - 1=0)=decide (L.length=1):=by congr 1;exact propext (by omega)
 rw [k,o];show cond (itI t (K==4) != 0) _ _=_;by_cases f:itI t (K==4)=0
 ·rw [ab (λh=>h f),show (itI t (K==4) != 0)=false from by simp [f],af];show _=some (if ((e&&decide (i=0))&&!endB t||((l&&decide (i+1=L.length))&&!endB t||(e&&(l&&decide (L.length=1)))))=true then 10 else 0);unfold endB;generalize (!rT t&&plT (iF t))=z;generalize decide (i=0)=a;generalize decide (i+1=L.length)=b;generalize decide (L.length=1)=c;cases e<;>cases l<;>cases z<;>cases a<;>cases b<;>cases c<;>rfl
 ·rw [ae f,show (itI t (K==4) != 0)=true from by simp [f],aj]
theorem LH {K:Int} (n:K=3\/K=4) {e l:Bool} {L:List TI} (p:∀t∈L,smI t) (o:L.length<=1000000) (D:TD) (c:Int) (d:TD) (b:Int) (g:TD):
  lP 20000000 K D c d b g e l L=some (zN K e l L):=by
 have:=xf (step:=fH 20000000) (st:=λi=>(len L,(i:Int),L,K,D,c,d,b,g,e,l,w64 (len L - 1))) (L:=L) (f:=errI K e l L.length) (yes:=λi q=>.inl ((i:Int),q)) (no:=.inr ())
  (λi t hi=>by
   have k:i<L.length:=(qf.1 hi).1;have a:=p t (fD hi);have m:fR 20000000 (iF t) (rT t) (iT t) K=some (itI t (K==4)):=by
    rw [Ie _ a.1 a.2,ae n];rfl
   unfold fH;simp only [u12,u11,u10,u9,u8,u7,u6,u5,u4,u3,u2];rw [am (show (i:Int)<len L by unfold len;omega),fg k];simp only [aj,ob,hi];rw [show fR 20000000 (iF t) (d8 t).2.2.1 (d8 t).2.2.2 K=some (itI t (K==4)) from m];simp only;rw [show gG 20000000 (itI t (K==4)) 10 10 10 (iF t) (d8 t).2.2.1 (d8 t).2.2.2 K D c d b g e l (i:Int) (w64 (len L - 1)) L=some (errI K e l L.length i t) from JI n hi a o D c d b g];simp only;rw [ud (by omega)];by_cases j:errI K e l L.length i t=0
   ·rw [ab (λh=>h j),show (errI K e l L.length i t != 0)=false from by simp [j]];rfl
   ·rw [ae j,show (errI K e l L.length i t != 0)=true from by simp [j]];rfl)
  (by
   unfold fH;simp only [u12,u11,u10,u9,u8,u7,u6,u5,u4,u3,u2];rw [ar (show ¬((L.length:Nat):Int)<len L by unfold len;omega)];rfl)
  L.length 0 (by omega) 20000000 (by omega)
 unfold lP zN;rw [cP] at this;show obs (aw (fH 20000000) 20000000 (len L,((0:Nat):Int),L,K,D,c,d,b,g,e,l,w64 (len L - 1))) _ _=_;rw [this];cases yj (errI K e l L.length) 0 L<;>rfl
noncomputable def IR (K:Int) (x:TD):Int:=chkB K x.1 x.2.1 x.2.2.1 x.2.2.2.1 x.2.2.2.2.1 x.2.2.2.2.2.1 x.2.2.2.2.2.2.1 x.2.2.2.2.2.2.2.1 x.2.2.2.2.2.2.2.2.1 x.2.2.2.2.2.2.2.2.2
noncomputable def FN (K:Int) (x:TD) (a:Int) (y:TD):Int:=Ox (IR K x) (IR a y) K a (dyT x).1 (dyT y).2
theorem JO {x y:TD} (a:smT x) (b:smT y) (K c:Int):ap10 (ap10 (f9 20000000 K) x c) y=some (FN K x c y):=
 Oi a.1 a.2.1 a.2.2.1 a.2.2.2.1 a.2.2.2.2.1 a.2.2.2.2.2 b.1 b.2.1 b.2.2.1 b.2.2.2.1 b.2.2.2.2.1 b.2.2.2.2.2
def unuB (K:Int) (D:TD) (b:Int) (c:TD) (a:Int) (d:TD) (e l:Bool) (n:Nat):Bool:=
 !(K==1||eqD D d0)||(!(K==2||((b==0)&&((eqD c d0)&&true))&&((a==0)&&((eqD d d0)&&true)))||!(K==3||(K==4||(decide (n=0)&&(!e&&!l)))))
theorem IZ (n:Nat) (K:Int) (D:TD) (b:Int) (c:TD) (a:Int) (d:TD) (e l:Bool) (L:List TI):
  lX n K D b c a d e l L=some (unuB K D b c a d e l L.length):=by
 unfold lX unuB;rw [show (len L==0)=decide (L.length=0) from Oe _];generalize eqD D d0=h;generalize ((b==0)&&((eqD c d0)&&true))=z1;generalize ((a==0)&&((eqD d d0)&&true))=z2;generalize decide (L.length=0)=g;generalize (K==1)=k1;generalize (K==2)=k2;generalize (K==3)=f;generalize (K==4)=k4;revert h z1 z2 g k1 k2 f k4 e l;decide +kernel
noncomputable def zl (K:Int) (D:TD) (b:Int) (c:TD) (a:Int) (d:TD) (e l:Bool) (L:List TI):Int×Int:=
 if K<1\/4<K then (0,18) else if unuB K D b c a d e l L.length=true then (0,5) else if K=1 then (0,cF D) else if K=2 then (0,FN b c a d) else if L.length=0 then (0,17) else if 256<L.length then (0,3) else zN K e l L
def smE (D a b:TD) (L:List TI):Prop:=smT D/\smT a/\smT b/\∀t∈L,smI t
theorem MO {K:Int} {D:TD} {i:Int} {a:TD} {g:Int} {d:TD} {e l:Bool} {L:List TI} (h:smE D a d L):
  mY 20000000 K D i a g d e l L=some (zl K D i a g d e l L):=by
 obtain ⟨n,m,o,k⟩:=h;unfold mY zl;by_cases b:K<1
 ·rw [am b,ae (.inl b)];rfl
 by_cases f:4<K
 ·rw [ar b,show decide (K>4)=true from am f,ae (.inr f)];rfl
 rw [ar b,show decide (K>4)=false from ar f,ab (by omega),IZ];simp only [af,ob];cases unuB K D i a g d e l L.length
 ·simp only [af,bq,aE];by_cases k1:K=1
  ·rw [ae k1,show (K==1)=true from by simp [k1],fcT n];rfl
  by_cases k2:K=2
  ·rw [ab k1,ae k2,show (K==1)=false from by simp [k1],show (K==2)=true from by simp [k2],JO m o];rfl
  rw [ab k1,ab k2,show (K==1)=false from by simp [k1],show (K==2)=false from by simp [k2]];simp only [af];rw [show (len L==0)=decide (L.length=0) from Oe _];by_cases c:L.length=0
  ·rw [am c,ae c];rfl
  rw [ar c,ab c];by_cases j:256<L.length
  ·rw [show decide (len L>256)=true from am (by show (256:Int)<((L.length:Nat):Int);omega),ae j];rfl
  rw [show decide (len L>256)=false from ar (by show ¬(256:Int)<((L.length:Nat):Int);omega),ab j,LH (by omega) k (by omega)];rfl
 ·rfl
abbrev TR:=nJ
def natI (x:Int) (b:Nat):Prop:=0<=x/\x<(b:Int)
def wfD (a0 a2 f b g a c e d:Int):Prop:=natI a0 256/\natI a2 65536/\natI f 256/\natI b 256/\natI g 256/\natI a 256/\natI c 256/\natI e 256/\natI d 256
theorem natI.nat {x:Int} {b:Nat} (h:natI x b):∃n:Nat,x=(n:Int)/\n<b:=⟨x.toNat,by have:=h.1;omega,by have:=h.1;have:=h.2;omega⟩
theorem DofI {a0 a2 c f k j a i b:Int} (g:Bool) (h:wfD a0 a2 c f k j a i b):∃x:TD,fP 20000000 a0 g a2 c f k j a i b=some x/\smT x/\cF x=0:=by
 obtain ⟨F,B,w,s,p,u,E,o,C⟩:=h;obtain ⟨a0,rfl,b0⟩:=F.nat;obtain ⟨a2,rfl,b2⟩:=B.nat;obtain ⟨c,rfl,K⟩:=w.nat;obtain ⟨f,rfl,r⟩:=s.nat;obtain ⟨k,rfl,z⟩:=p.nat;obtain ⟨j,rfl,v⟩:=u.nat;obtain ⟨a,rfl,I⟩:=E.nat;obtain ⟨i,rfl,A⟩:=o.nat;obtain ⟨b,rfl,y⟩:=C.nat;obtain ⟨L,l,dg,x,q,G,d,k0,k1,k2,e,hc,D,t⟩:=Qh 19999700 a0 a2 c f k j a i b g b2 K r z v I A y;obtain ⟨J,m,n,_⟩:=mT hc;obtain ⟨_,_,_,_,_,H⟩:=ir J;refine ⟨_,e,⟨?_,by show dg.length<=100;omega,?_,by simp,by simp,by simp⟩,KU hc t⟩
 ·rcases m with h | h
  ·rw [h];simp
  ·show G.length<=18;omega
 ·rcases n with h | h
  ·rw [h];simp
  ·show d.length<=18;omega
theorem PI (x:TD):IR 1 x=if cF x=0 then if exT x=true then 0 else 11 else cF x:=by
 unfold IR chkB;rw [ae rfl];rfl
noncomputable instance decTI:DecidableEq TI:=λa b=>Classical.propDecidable (a=b)
theorem J2 {A X Y:Type} {step:X->Option (X⊕Y)} {st:Nat->X} {L:List A} {no:Y} (b:∀i t,L[i]?=some t->step (st i)=some (.inl (st (i+1)))) (a:step (st L.length)=some (.inr no)) {N:Nat} (c:L.length<N):
  aw step N (st 0)=some no:=by
 have:=xf (step:=step) (st:=st) (L:=L) (f:=λ_ _=>0) (yes:=λ_ _=>no) (no:=no) (λi t d=>by rw [b i t d];rfl) a L.length 0 (by omega) N c;rw [this];cases yj (λ_ _=>0) 0 (List.drop 0 L)<;>rfl
theorem yS (n:Nat) (t S R:aa) (a:Int) (q:t.length<4611686018427387904) (p:t.length<n):
  aw (dp n) n (t,0,R,S,a)=some (((lcp R t:Nat):Int),S,a):=by
 have:=eO (step:=dp n)
  (λx=>∃j:Nat,j<=t.length/\x=(t,(j:Int),R,S,a)) (λx=>t.length - x.2.1.toNat)
  (λx=>(((x.2.1.toNat+lcp (R.drop x.2.1.toNat) (t.drop x.2.1.toNat):Nat):Int),S,a)) ?_ n (t,0,R,S,a) ⟨0,by omega,rfl⟩ (by simp;omega)
 ·simpa using this
 rintro x ⟨j,o,rfl⟩;simp only [bI,dp,OG];by_cases e:j<t.length/\j<R.length
 ·obtain ⟨i,l⟩:=e;obtain ⟨c,hc⟩:∃c,t[j]?=some c:=⟨t[j],bj i⟩;obtain ⟨d,h⟩:∃d,R[j]?=some d:=⟨R[j],bj l⟩;have g:IntKind.wrap .i64 ((j:Int)+1)=((j+1:Nat):Int):=by rw [wrap_i64 _ (by omega) (by omega)];omega
  have f:(decide ((j:Int)<((min t.length R.length:Nat):Int)))=true:=by simp only [bZ];omega
  have b:(decide ((j:Int)<((min R.length t.length:Nat):Int)))=true:=by simp only [bZ];omega
  simp only [f,b,aj,dF hc,dF h,ob,lH,bT hc,bT h,lcp];cases k:d==c with
  | true=>
   refine .inl ⟨_,rfl,⟨j+1,by omega,by rw [g]⟩,?_,?_⟩
   ·simp only [g,bI];omega
   ·simp only [g,bI,bw,vt,aJ];omega
  | false=>exact .inr (by simp)
 ·have f:(decide ((j:Int)<((min t.length R.length:Nat):Int)))=false:=by simp only [rH];omega
  have b:(decide ((j:Int)<((min R.length t.length:Nat):Int)))=false:=by simp only [rH];omega
  refine .inr ?_;have m:lcp (R.drop j) (t.drop j)=0:=by
   by_cases i:j<t.length
   ·rw [iD (show R.length<=j by omega)];rfl
   ·rw [iD (show t.length<=j by omega)];cases R.drop j<;>rfl
  simp only [f,b,m,af,cf]
theorem xW (n:Nat) (t S:aa) (a:Nat) (h:a<=S.length) (c:S.length<4611686018427387904) (d:t.length<4611686018427387904) (e:t.length<n):
  bO n t S (a:Int)=some (if (S.drop a).take t.length=t then .inl (S,((a+t.length:Nat):Int)) else .inr (((a+lcp (S.drop a) t:Nat):Int),5,S,(a:Int))):=by
 have f:=uS (S.drop a) t;rw [cZ] at f;simp only [bO,li n t S a h c,ob];by_cases b:(S.drop a).take t.length=t
 ·simp [b]
 ·have g:IntKind.wrap .i64 ((a:Int)+((lcp (S.drop a) t:Nat):Int))=((a+lcp (S.drop a) t:Nat):Int):=by rw [wrap_i64 _ (by omega) (by omega)];omega
  simp only [b,aE,af,rx n S a h,yS n t S (S.drop a) (a:Int) d e,zw,g,tw];simp
def tdR (r:DR):TD:=(r.1,r.2.1,r.2.2.1,(r.2.2.2.1:Int),(r.2.2.2.2.1:Int),r.2.2.2.2.2.1,r.2.2.2.2.2.2.1,(r.2.2.2.2.2.2.2.1.1:Int),(r.2.2.2.2.2.2.2.1.2.1:Int),(r.2.2.2.2.2.2.2.1.2.2:Int))
theorem jt {S:aa} {a:Nat} (h:a<=S.length) {r:DR} (c:di S a=.inr r):smT (tdR r)/\cF (tdR r)=0/\a<=enR r/\enR r<=S.length:=by
 obtain ⟨f,b⟩:=E0 h c;obtain ⟨g,l,dg,x,s,m,d,M,P,e⟩:=r;have ok:=mV h f;have:=ok.dg17;have:=ok.m2;have:=ok.d2;refine ⟨⟨by show m.length<=18;omega,by show dg.length<=100;omega,by show d.length<=18;omega,by show (0:Int)<=(M.1:Int);omega,by show (0:Int)<=(M.2.1:Int);omega,by show (0:Int)<=(M.2.2:Int);omega⟩,?_,ok.le,ok.end_⟩;have hc:=wv (g:=g) (l:=l) (dg:=dg) (x:=(x:Int)) (q:=(s:Int)) (m:=m) (d:=d) (k0:=(M.1:Int)) (k1:=(M.2.1:Int)) (k2:=(M.2.2:Int)) (nu ok.all);unfold chkR at b;simp only [] at b;show chkF g l dg (x:Int) (s:Int) m d (M.1:Int) (M.2.1:Int) (M.2.2:Int)=0;omega
def dts (l:aa):Bool:=l.take 2==[46,46]
theorem BA {l:aa}:dts l=true↔∃r,l=46::46::r:=by
 unfold dts;rw [bg];constructor
 ·exact Gu
 ·rintro ⟨r,rfl⟩;rfl
theorem sE {S:aa} {p:Nat} (h:dts (S.drop p)=true):p+2<=S.length:=by
 obtain ⟨r,a⟩:=BA.1 h;have:=cK List.length a;simp at this;omega
noncomputable def pY (S:aa) (b:UInt8) (p:Nat):(Nat×Nat×Nat)⊕(TI×Nat×Nat):=
 match di S p with
 | .inl f=>.inl f
 | .inr r=>if dts (S.drop (enR r))=true/\(S.drop (enR r+2)).head?≠some b then
   match di S (enR r+2) with
   | .inl f=>.inl f
   | .inr a=>.inr (mkI (tdR r) true (tdR a),plR r,enR a)
  else .inr (mkI (tdR r) false d0,plR r,enR r)
theorem A5 {S:aa} {k:UInt8} {p:Nat} (h:p<=S.length) {t:TI} {a d:Nat} (b:pY S k p=.inr (t,a,d)):smI t/\p<=d/\d<=S.length:=by
 unfold pY at b;cases e:di S p with
 | inl f=>rw [e] at b;cases b
 | inr r=>
  obtain ⟨g,_,i,l⟩:=jt h e;rw [e] at b;simp only [] at b;split at b
  ·rename_i j;have:=sE j.1;cases c:di S (enR r+2) with
   | inl f=>rw [c] at b;cases b
   | inr o=>
    obtain ⟨m,_,l3,n⟩:=jt (by omega) c;rw [c] at b;cases b;exact ⟨⟨g,m⟩,by omega,n⟩
  ·cases b;exact ⟨⟨g,Fz⟩,i,l⟩
noncomputable def pR (S:aa) (c:UInt8):Nat->Nat->List Nat->List TI->(Nat×Nat×Nat)⊕(Nat×List Nat×List TI)
 | 0,p,_,_=>.inl (p,3,p)
 | r+1,p,P,I=>match pY S c p with
  | .inl f=>.inl f
  | .inr (t,a,b)=>if (S.drop b).head?=some 44 then pR S c r (b+1) (P++[a]) (I++[t]) else .inr (b,P++[a],I++[t])
theorem lO {S:aa} {p:Nat} {c:UInt8} (h:(S.drop p).head?=some c):p+1<=S.length:=by
 cases b:S.drop p with
 | nil=>rw [b] at h;cases h
 | cons a r=>
  have:=cK List.length b;simp at this;omega
theorem zU {S:aa} {i:UInt8}:∀(r p:Nat) (P:List Nat) (I:List TI),p<=S.length->P.length=I.length->(∀t∈I,smI t)->∀{d:Nat} {c:List Nat} {b:List TI},pR S i r p P I=.inr (d,c,b)->
  d<=S.length/\c.length=b.length/\I.length<b.length/\b.length<=I.length+r/\(∀t∈b,smI t)
 | 0,p,P,I,_,_,_,d,c,b,e=>by cases e
 | r+1,p,P,I,h,j,z,d,c,b,e=>by
  rw [pR] at e;cases g:pY S i p with
  | inl f=>rw [g] at e;cases e
  | inr q=>
   obtain ⟨t,a,m⟩:=q;obtain ⟨l,A,v⟩:=A5 h g;rw [g] at e;simp only [] at e;have hs':∀u∈I++[t],smI u:=λu y=>by
    rcases kL.1 y with h | h
    ·exact z u h
    ·rw [uZ.1 h];exact l
   split at e
   ·rename_i n;obtain ⟨o,w,k,s,x⟩:=zU r (m+1) (P++[a]) (I++[t]) (lO n) (by simp [j]) hs' e;rw [bV,List.length_singleton] at k s;exact ⟨o,w,by omega,by omega,x⟩
   ·cases e;exact ⟨v,by simp [j],by simp,by simp,hs'⟩
theorem dts3 (S:aa) (p:Nat) (c:UInt8):((S.drop p).take [46,46,c].length==[46,46,c])=(dts (S.drop p)&&decide ((S.drop (p+2)).head?=some c)):=by
 rw [<-iL];generalize S.drop p=l;unfold dts
 match l with
 | []=>rfl
 | [a]=>simp
 | [a,b]=>simp
 | a::b::d::r=>
  rw [qI];simp [and_assoc]
def endC (K:Int):UInt8:=if K=4 then 125 else 93
theorem CU {K:Int} (a:K=3\/K=4) (n:Nat):kn n K=some ([if K=4 then 123 else 91],[endC K]):=by
 rcases a with rfl | rfl<;>rfl
theorem Sz (c:UInt8) {S:aa} {p:Nat} (h:p<=S.length) (g e:Int) (a:Bool) (f:List Int) (i:TD) (d b:List TI):
  kr 20000000 [c] g S (p:Int) e a f i d b=some ([c],g,dts (S.drop p)&&!decide ((S.drop (p+2)).head?=some c),S,(p:Int),e,a,f,i,d,b):=by
 unfold kr;rw [Jm _ _ _ _ h];have hc:cat [46,46] [c]=some [46,46,c]:=rfl;simp only [ob,hc,Jm _ _ _ _ h,dts3];show cond (dts (S.drop p)) _ _=_;cases j:dts (S.drop p)
 ·rfl
 ·cases decide ((S.drop (p+2)).head?=some c)<;>rfl
theorem tk1 (l:aa) (c:UInt8):l.take [c].length=[c]↔l.head?=some c:=by
 cases l<;>simp
theorem zT (S:aa) (r:DR):PL S (.inr r)=.inr ((tdR r).1,(tdR r).2.1,(tdR r).2.2.1,(tdR r).2.2.2.1,(tdR r).2.2.2.2.1,(tdR r).2.2.2.2.2.1,(tdR r).2.2.2.2.2.2.1,(tdR r).2.2.2.2.2.2.2.1,(tdR r).2.2.2.2.2.2.2.2.1,(tdR r).2.2.2.2.2.2.2.2.2,((plR r:Nat):Int),S,((enR r:Nat):Int)):=rfl
theorem Sr (b:Bool) (c:UInt8) {S:aa} {p:Nat} (h:p<=S.length) (n:S.length<100000) (q:b=true->dts (S.drop p)=true) (e d:Int) (j:Bool) (k:List Int) (i:TD) (g a:List TI):
  kh 20000000 [c] e b S (p:Int) d j k i g a=some (if b=true then (match di S (p+2) with
   | .inl f=>.inl ((f.1:Int),(f.2.1:Int),S,(f.2.2:Int))
   | .inr r=>.inr ([c],e,S,((enR r:Nat):Int),d,j,k,i,true,tdR r,g,a)) else .inr ([c],e,S,(p:Int),d,j,k,i,false,d0,g,a)):=by
 unfold kh;cases b
 ·rfl
 ·have l:=q rfl;have s:=sE l;have o:(S.drop p).take [(46:UInt8),46].length=[46,46]:=by
   obtain ⟨r,m⟩:=BA.1 l;rw [m];rfl
  rw [aj,xW _ _ _ _ h (by omega) (by simp) (by simp),ae o,ae rfl];show obs (fa 20000000 S ((p+2:Nat):Int)) _ _=_;rw [yc S (p+2) s n];cases di S (p+2) with
  | inl f=>rfl
  | inr r=>rfl
theorem xE {α:Type} {I:List α} (h:I.length<=256):Nat.ble (I.length+1) gU=true:=dn (by unfold gU;omega)
abbrev mw (P:List Nat):List Int:=P.map λk:Nat=>(k:Int)
theorem PG (c:UInt8) {S:aa} {p:Nat} (h:p<=S.length) (u:S.length<100000) (K:Int) (e:Bool) {P:List Nat} (J:List TI) {I:List TI} (D:I.length<256) (B:P.length=I.length):
  eF 20000000 ([c],S,(p:Int),K,e,mw P,J,I)=some (match pY S c p with
   | .inl f=>.inr (.inl ((f.1:Int),(f.2.1:Int),S,(f.2.2:Int)))
   | .inr (t,a,b)=>if (S.drop b).head?=some 44 then .inl ([c],S,((b+1:Nat):Int),K,e,mw (P++[a]),J,I++[t])
    else .inr (.inr ([c],S,((if dts (S.drop b) then b+2 else b:Nat):Int),0,d0,0,d0,0,d0,false,false,K,d0,0,d0,0,d0,e,dts (S.drop b),mw (P++[a]),J,I++[t]))):=by
 have l:∀(t:TI) (a b:Nat),b<=S.length->(ob (aB 20000000 [44] S (b:Int)) (u3 λn k g=>(cond n (some (.inl ([c],k,g,K,e,(mw P++([(a:Int)]:List (Int))),J,(I++([t]:List TI))))) (ob (aB 20000000 [46,46] k g) (u3 λq j m=>(cond q (some (.inr (.inr ([c],j,m,0,d0,0,d0,0,d0,false,false,K,d0,0,d0,0,d0,e,true,(mw P++([(a:Int)]:List (Int))),J,(I++([t]:List TI)))))) (some (.inr (.inr ([c],j,m,0,d0,0,d0,0,d0,false,false,K,d0,0,d0,0,d0,e,false,(mw P++([(a:Int)]:List (Int))),J,(I++([t]:List TI))))))))))):Option ((aa×aa×Int×Int×Bool×List (Int)×List TI×List TI)⊕((Int×Int×aa×Int)⊕(aa×aa×Int×Int×TD×Int×TD×Int×TD×Bool×Bool×Int×TD×Int×TD×Int×TD×Bool×Bool×List (Int)×List TI×List TI)))) =
   some (if (S.drop b).head?=some 44 then .inl ([c],S,((b+1:Nat):Int),K,e,mw (P++[a]),J,I++[t])
    else .inr (.inr ([c],S,((if dts (S.drop b) then b+2 else b:Nat):Int),0,d0,0,d0,0,d0,false,false,K,d0,0,d0,0,d0,e,dts (S.drop b),mw (P++[a]),J,I++[t]))):=by
  intro t a b i;have x:mw (P++[a])=mw P++[(a:Int)]:=by simp [mw]
  rw [li _ _ _ _ i (by omega),x];simp only [ob,u3,u2,tk1];by_cases hc:(S.drop b).head?=some 44
  ·rw [ae hc,ae hc];rfl
  ·rw [ab hc,ab hc];simp only [af];rw [li _ _ _ _ i (by omega)];cases d:dts (S.drop b)
   ·rw [ab (show ¬(S.drop b).take [(46:UInt8),46].length=[46,46] from λh=>by unfold dts at d;rw [show (S.drop b).take 2=[46,46] from h] at d;cases d)];rfl
   ·rw [ae (show (S.drop b).take [(46:UInt8),46].length=[46,46] from eq_of_beq d)];rfl
 unfold eF;simp only [u8,u7,u6,u5,u4,u3,u2];rw [show (len I==256)=false from by show (((I.length:Nat):Int)==256)=false;simp;omega,af,yc S p h u];unfold pY;cases w:di S p with
 | inl f=>rfl
 | inr r=>
  obtain ⟨C,_,A,o⟩:=jt h w;rw [zT];simp only [obs,sm,ob];rw [show (d4 (d8 ((tdR r).1,(tdR r).2.1,(tdR r).2.2.1,(tdR r).2.2.2.1,(tdR r).2.2.2.2.1,(tdR r).2.2.2.2.2.1,(tdR r).2.2.2.2.2.2.1,(tdR r).2.2.2.2.2.2.2.1,(tdR r).2.2.2.2.2.2.2.2.1,(tdR r).2.2.2.2.2.2.2.2.2,((plR r:Nat):Int),S,((enR r:Nat):Int))))=((enR r:Nat):Int) from rfl,Sz c o];simp only [u11,u10,u9,u8,u7,u6,u5,u4,u3,u2];rw [Sr _ c o u (λh=>by simp at h;exact h.1)];have s:(dts (S.drop (enR r))&&!decide ((S.drop (enR r+2)).head?=some c))=true↔(dts (S.drop (enR r))=true/\(S.drop (enR r+2)).head?≠some c):=by simp
  by_cases d:dts (S.drop (enR r))=true/\(S.drop (enR r+2)).head?≠some c
  ·rw [ae (s.2 d),ae d];cases y:di S (enR r+2) with
   | inl f=>rfl
   | inr v=>
    obtain ⟨E,_,l3,z⟩:=jt (sE d.1) y;simp only [u12,u11,u10,u9,u8,u7,u6,u5,u4,u3,u2];rw [xE (by omega),xE (by simp;omega)];exact l (mkI (tdR r) true (tdR v)) (plR r) (enR v) z
  ·rw [ab (λh=>d (s.1 h)),ab d];simp only [u12,u11,u10,u9,u8,u7,u6,u5,u4,u3,u2];rw [xE (by omega),xE (by simp;omega)];exact l (mkI (tdR r) false d0) (plR r) (enR r) o
theorem PN (c:UInt8) (S:aa) (p K:Int) (e:Bool) (P:List Int) (J:List TI) {I:List TI} (a:I.length=256):
  eF 20000000 ([c],S,p,K,e,P,J,I)=some (.inr (.inl (p,3,S,p))):=by
 unfold eF;simp only [u8,u7,u6,u5,u4,u3,u2];rw [show (len I==256)=true from by show (((I.length:Nat):Int)==256)=true;rw [a];rfl];rfl
def TV (S:aa) (c:UInt8) (K:Int) (e:Bool) (J:List TI):(Nat×Nat×Nat)⊕(Nat×List Nat×List TI)->(Int×Int×aa×Int)⊕(aa×aa×Int×Int×TD×Int×TD×Int×TD×Bool×Bool×Int×TD×Int×TD×Int×TD×Bool×Bool×List (Int)×List TI×List TI)
 | .inl f=>.inl ((f.1:Int),(f.2.1:Int),S,(f.2.2:Int))
 | .inr (p,P,I)=>.inr ([c],S,((if dts (S.drop p) then p+2 else p:Nat):Int),0,d0,0,d0,0,d0,false,false,K,d0,0,d0,0,d0,e,dts (S.drop p),mw P,J,I)
theorem PT (c:UInt8) {S:aa} (i:S.length<100000) (K:Int) (e:Bool) (J:List TI):∀(r p:Nat) (P:List Nat) (I:List TI),I.length+r=256->p<=S.length->P.length=I.length->∀N,r<N->
  aw (eF 20000000) N ([c],S,(p:Int),K,e,mw P,J,I)=some (TV S c K e J (pR S c r p P I)):=by
 intro r
 induction r with
 | zero=>
  intro p P I h b d N l;obtain ⟨N,rfl⟩:∃k,N=k+1:=⟨N - 1,by omega⟩;rw [aw,PN c S _ K e _ J (by omega)];rfl
 | succ r ih=>
  intro p P I h b d N l;obtain ⟨N,rfl⟩:∃k,N=k+1:=⟨N - 1,by omega⟩;rw [aw,PG c b i K e J (by omega) d,pR];cases j:pY S c p with
  | inl f=>rfl
  | inr q=>
   obtain ⟨t,a,g⟩:=q;obtain ⟨_,m,n⟩:=A5 b j;simp only [];by_cases hc:(S.drop g).head?=some 44
   ·rw [ae hc,ae hc];exact ih (g+1) (P++[a]) (I++[t]) (by simp;omega) (lO hc) (by simp [d]) N (by omega)
   ·rw [ab hc,ab hc];rfl
theorem AG {X a Y b:Type} {s:X->Option (X⊕Y)} {s':a->Option (a⊕b)} (f:X->a) (g:Y->b) (h:∀x,s' (f x)=(s x).map (Sum.map f g)):∀(n:Nat) (x:X),aw s' n (f x)=(aw s n x).map g
 | 0,_=>rfl
 | n+1,x=>by
  rw [aw,aw,h];cases s x with
  | none=>rfl
  | some z=>
   cases z with
   | inl y=>exact AG f g h n y
   | inr y=>rfl
theorem Ou (n:Nat) (K:Int) (D:TD) (o:Int) (p:TD) (j:Int) (m:TD) (c:Nat) (e l:Bool) (L:List TI):kX n K D o p j m L.length c e l L=lP n K D o p j m e l L:=by
 unfold kX lP;have:=AG (s:=fH n) (s':=iZ n) (u12 λx f d g q h r w u k a b=>(d.length,c,x,f,d,g,q,h,r,w,u,d.length,c,k,a,b)) id (by
  rintro ⟨x,f,d,g,q,h,r,w,u,k,a,b⟩;unfold fH iZ;simp only [u16,u15,u14,u13,u12,u11,u10,u9,u8,u7,u6,u5,u4,u3,u2];cases decide (f<x)
  ·rfl
  ·simp only [aj];cases ix d.length f with
   | none=>rfl
   | some i=>
    simp only [ob];cases d[i]? with
    | none=>rfl
    | some t=>
     simp only [ob];cases fR n (iF t) (d8 t).2.2.1 (d8 t).2.2.2 g with
     | none=>rfl
     | some v=>
      simp only [ob];rw [show kP n v 10 10 10 (iF t) (d8 t).2.2.1 (d8 t).2.2.2 g q h r w u d.length c k a f b d=gG n v 10 10 10 (iF t) (d8 t).2.2.1 (d8 t).2.2.2 g q h r w u k a f b d from rfl];cases gG n v 10 10 10 (iF t) (d8 t).2.2.1 (d8 t).2.2.2 g q h r w u k a f b d with
      | none=>rfl
      | some z=>
       simp only [ob];cases (z != 0)<;>rfl) n (len L,0,L,K,D,o,p,j,m,e,l,w64 (len L - 1))
 simp only [u12,u11,u10,u9,u8,u7,u6,u5,u4,u3,u2] at this;rw [show (L.length,c,((L.length:Nat):Int),(0:Int),L,K,D,o,p,j,m,L.length,c,e,l,w64 (((L.length:Nat):Int) - 1))=(L.length,c,len L,0,L,K,D,o,p,j,m,L.length,c,e,l,w64 (len L - 1)) from rfl,this];rw [Option.map_id];rfl
theorem N2 (n:Nat) (K:Int) (D:TD) (b:Int) (d:TD) (a:Int) (f:TD) (c:Nat) (e l:Bool) (L:List TI):ga n K D b d a f L.length c e l L=mY n K D b d a f e l L:=by
 unfold ga mY;rw [Ou,show mh n K D b d a f L.length c e l L=lX n K D b d a f e l L from rfl]
theorem FY {K:Int} {D:TD} {f:Int} {a:TD} {d:Int} {b:TD} {e l:Bool} {L:List TI} (h:smE D a b L) (c:Nat):
  ga 20000000 K D f a d b L.length c e l L=some (zl K D f a d b e l L):=(N2 _ _ _ _ _ _ _ _ _ _ _).trans (MO h)
noncomputable def setE (K:Int) (e l:Bool) (I:List TI):Int×Int:=zl K d0 0 d0 0 d0 e l I
noncomputable def endL (S:aa) (K:Int) (e:Bool) (p:Nat) (P:List Nat) (I:List TI):(Nat×Nat×Nat)⊕(Int×Bool×Bool×List TI×Nat):=
 if (S.drop (if dts (S.drop p) then p+2 else p)).head?=some (endC K) then
  if (setE K e (dts (S.drop p)) I).2=0 then .inr (K,e,dts (S.drop p),I,(if dts (S.drop p) then p+2 else p)+1)
  else .inl (P.getD (setE K e (dts (S.drop p)) I).1.toNat 0,10,(if dts (S.drop p) then p+2 else p)+1)
 else .inl ((if dts (S.drop p) then p+2 else p),5,(if dts (S.drop p) then p+2 else p))
noncomputable def F3 (S:aa) (a:Nat) (K:Int):(Nat×Nat×Nat)⊕(Int×Bool×Bool×List TI×Nat):=
 match pR S (endC K) 256 (if dts (S.drop (a+1)) then a+3 else a+1) [] [] with
 | .inl f=>.inl f
 | .inr (p,P,I)=>endL S K (dts (S.drop (a+1))) p P I
noncomputable def xm (S:aa) (a:Nat):(Nat×Nat×Nat)⊕(Int×Bool×Bool×List TI×Nat):=
 if (S.drop a).head?=some 91 then F3 S a 3 else if (S.drop a).head?=some 123 then F3 S a 4 else .inl (a,5,a)
theorem OM {K:Int} (b:K=3\/K=4) {e l:Bool} {I:List TI} (c:1<=I.length):∃i:Nat,(setE K e l I).1=(i:Int)/\i<I.length:=by
 have hi:∃i:Nat,(zN K e l I).1=(i:Int)/\i<I.length:=by
  unfold zN;have:∀(J:List TI) (k:Nat) (p:Nat×Int),yj (errI K e l I.length) k J=some p->p.1<k+J.length:=by
   intro J
   induction J with
   | nil=>intro k p h;cases h
   | cons t r ih=>
    intro k p h;rw [yj] at h;split at h
    ·cases h;simp
    ·have:=ih (k+1) p h;simp;omega
  cases a:yj (errI K e l I.length) 0 I with
  | none=>exact ⟨0,rfl,by omega⟩
  | some p=>exact ⟨p.1,rfl,by have:=this I 0 p a;omega⟩
 unfold setE zl;rw [ab (by omega)];split
 ·exact ⟨0,rfl,by omega⟩
 ·rw [ab (by omega),ab (by omega),ab (by omega)];split
  ·exact ⟨0,rfl,by omega⟩
  ·exact hi
theorem NQ {I:List TI} (h:∀t∈I,smI t):smE d0 d0 d0 I:=⟨Fz,Fz,Fz,h⟩
theorem TC (n:Nat) (I:List TI):bu n I=some (I.length,I.length):=by
 unfold bu;rw [ct (aU _)];show ob (bx I.length ((I.length:Nat):Int)) _=_;rw [ct (aU _)];rfl
def NU (S:aa):(Nat×Nat×Nat)⊕(Int×Bool×Bool×List TI×Nat)->(Int×Int×aa×Int)⊕(Int×TD×Int×TD×Int×TD×Nat×Nat×Bool×Bool×aa×Int×List TI)
 | .inl f=>.inl ((f.1:Int),(f.2.1:Int),S,(f.2.2:Int))
 | .inr (K,e,l,I,p)=>.inr (K,d0,0,d0,0,d0,I.length,I.length,e,l,S,(p:Int),I)
theorem Q1 {S:aa} (J:S.length<100000) {K:Int} (B:K=3\/K=4) (e:Bool) {p:Nat} (F:p<=S.length) {P:List Nat} {I:List TI} (G:P.length=I.length) (y:1<=I.length) (D:∀t∈I,smI t):
  (obs (bO 20000000 [endC K] S ((if dts (S.drop p) then p+2 else p:Nat):Int)) (u2 λc b=>(ob (bu 20000000 I) (u2 λf d=>(ob (ga 20000000 K d0 0 d0 0 d0 f d e (dts (S.drop p)) I) (u2 λj w=>(cond (w != 0) (ob (ix (List.length (mw P)) j) λn=>(ob ((mw P)[n]?) λu=>(ob (aK 20000000 u 10 c b) (u2 λk o=>(some (.inl (k,o,c,b))))))) (some (.inr (K,d0,0,d0,0,d0,f,d,e,(dts (S.drop p)),c,b,I))))))))) (u4 λm v s x=>(some (.inl (m,v,s,x))))) =
   some (NU S (endL S K e p P I)):=by
 have z:(if dts (S.drop p) then p+2 else p:Nat)<=S.length:=by
  split
  ·rename_i h;exact sE h
  ·exact F
 unfold endL;generalize (if dts (S.drop p) then p+2 else p:Nat)=q at *;generalize dts (S.drop p)=l;rw [xW _ _ _ _ z (by omega) (by simp) (by simp)];simp only [tk1];by_cases hc:(S.drop q).head?=some (endC K)
 ·rw [ae hc,ae hc];simp only [obs,sm,ob,u2,TC,FY (NQ D)];obtain ⟨i,C,H⟩:=OM B (e:=e) (l:=l) y;show cond ((setE K e l I).2 != 0) (ob (ix (mw P).length (setE K e l I).1) _) _=_;by_cases g:(setE K e l I).2=0
  ·rw [ae g,show ((setE K e l I).2 != 0)=false from by simp [g]];rfl
  ·have hi:i<(mw P).length:=by simp [mw];omega
   rw [ab g,show ((setE K e l I).2 != 0)=true from by simp [g],C,fg hi];have E:(mw P)[i]?=some ((P.getD i 0:Nat):Int):=by
    have hi':i<P.length:=by omega
    simp [mw,bj hi']
   simp only [aj,ob,E];rfl
 ·rw [ab hc,ab hc];have:lcp (S.drop q) [endC K]=0:=by
   cases A:S.drop q with
   | nil=>rfl
   | cons a r=>
    rw [A] at hc;simp only [lcp];rw [show (a==endC K)=false from by rw [aM];rintro rfl;exact hc rfl];rfl
  rw [this];rfl
theorem Of {S:aa} {a:Nat} (h:a<=S.length) (hS:S.length<100000):ll 20000000 S (a:Int)=some (NU S (xm S a)):=by
 have b:∀(K:Int) (z:K=3\/K=4) (i:a+1<=S.length),(ob (lc 20000000 (K==4) S ((a+1:Nat):Int) ([]:List TI) ([]:List TI)) (u5 λv7 v8 v9 W v11=>(ob (kn 20000000 v9) (u2 λ_ Z=>(ob (aB 20000000 [46,46] v7 v8) (u3 λU F T=>(obs (aw (eF 20000000) 20000000 (Z,F,T,v9,U,([]:List (Int)),W,v11)) (u4 λG V v18 v19=>(some (.inl (G,V,v18,v19)))) (u22 λN E L _ _ _ _ _ _ _ _ s w y l u k v m x _ d=>(obs (bO 20000000 N E L) (u2 λg e=>(ob (bu 20000000 d) (u2 λo n=>(ob (ga 20000000 s w y l u k o n v m d) (u2 λA Y=>(cond (Y != 0) (ob (ix (List.length x) A) λD=>(ob (x[D]?) λR=>(ob (aK 20000000 R 10 g e) (u2 λB J=>(some (.inl (B,J,g,e))))))) (some (.inr (s,w,y,l,u,k,o,n,v,m,g,e,d))))))))) (u4 λC X M Q=>(some (.inl (C,X,M,Q))))))))))))) =
   some (NU S (F3 S a K)):=by
  intro K z i;have hj:lc 20000000 (K==4) S ((a+1:Nat):Int) ([]:List TI) ([]:List TI)=some (S,((a+1:Nat):Int),K,[],[]):=by
   rcases z with rfl | rfl<;>rfl
  have ht:aB 20000000 [46,46] S ((a+1:Nat):Int)=some (dts (S.drop (a+1)),S,((if dts (S.drop (a+1)) then a+3 else a+1:Nat):Int)):=by
   rw [li _ _ _ _ i (by omega)];cases j:dts (S.drop (a+1))
   ·rw [ab (show ¬(S.drop (a+1)).take [(46:UInt8),46].length=[46,46] from λh=>by unfold dts at j;rw [show (S.drop (a+1)).take 2=[46,46] from h] at j;cases j)];rfl
   ·rw [ae (show (S.drop (a+1)).take [(46:UInt8),46].length=[46,46] from eq_of_beq j)];rfl
  have hp:(if dts (S.drop (a+1)) then a+3 else a+1:Nat)<=S.length:=by
   split
   ·rename_i h;have:=sE h;omega
   ·exact i
  have hl:=PT (endC K) hS K (dts (S.drop (a+1))) [] 256 (if dts (S.drop (a+1)) then a+3 else a+1) [] [] (by simp) hp rfl 20000000 (by omega);simp only [hj,CU z,ht,ob,u5,u4,u3,u2];rw [show aw (eF 20000000) 20000000 ([endC K],S,((if dts (S.drop (a+1)) then a+3 else a+1:Nat):Int),K,dts (S.drop (a+1)),([]:List Int),([]:List TI),([]:List TI))=_ from hl];unfold F3;cases hr:pR S (endC K) 256 (if dts (S.drop (a+1)) then a+3 else a+1) [] [] with
  | inl f=>rfl
  | inr q=>
   obtain ⟨p,P,I⟩:=q;obtain ⟨q1,q2,q3,q4,q5⟩:=zU 256 _ [] [] hp rfl (λt ht=>by cases ht) hr;have q3':1<=I.length:=by rw [dR] at q3;omega
   exact Q1 hS z (dts (S.drop (a+1))) q1 q2 q3' q5
 unfold ll xm;rw [yA _ _ _ _ h (by omega)];cases j:S.drop a with
 | nil=>rfl
 | cons c r=>
  have i:a+1<=S.length:=by
   have:=cK List.length j;simp at this;omega
  simp only [zY,aq];by_cases H:c=91
  ·subst H;rw [ae rfl];exact b 3 (.inl rfl) i
  ·by_cases O:c=123
   ·subst O;rw [ae rfl];exact b 4 (.inr rfl) i
   ·rw [ab H,ab O];have:hasB [91,123] c=false:=by
     unfold hasB;simp only [oh,List.any_nil,wh,mB,aM];exact ⟨λh=>H h.symm,λh=>O h.symm⟩
    rw [this];rfl
def rat (l:aa):Nat:=match l with | c::_=>c.toNat | []=>0
theorem Qx (l:aa) (c:UInt8) (hc:c≠0):(((rat l:Nat):Int)==((c.toNat:Nat):Int))=decide (l.head?=some c):=by
 cases l with
 | nil=>
  rw [ar (by simp)];rw [aM];intro h;have b:c.toNat=0:=by
   have:((0:Nat):Int)=((c.toNat:Nat):Int):=h;omega
  exact hc (fF.1 (by rw [b];rfl))
 | cons a r=>
  show (((a.toNat:Nat):Int)==((c.toNat:Nat):Int))=_;rw [lH];rw [qI];simp
theorem Gs {S:aa} {e:UInt8} {p:Nat} (h:p<=S.length) {f:Nat×Nat×Nat} (a:pY S e p=.inl f):f.2.1≠0:=by
 unfold pY at a;cases c:di S p with
 | inl g=>rw [c] at a;cases a;exact tZ (k:=f.1) (E:=f.2.1) (p:=f.2.2) h c
 | inr r=>
  rw [c] at a;simp only [] at a;split at a
  ·rename_i d;cases b:di S (enR r+2) with
   | inl g=>rw [b] at a;cases a;exact tZ (k:=f.1) (E:=f.2.1) (p:=f.2.2) (sE d.1) b
   | inr i=>rw [b] at a;cases a
  ·cases a
theorem wY {S:aa} {c:UInt8}:∀(r p:Nat) (P:List Nat) (I:List TI),p<=S.length->∀{f:Nat×Nat×Nat},pR S c r p P I=.inl f->f.2.1≠0
 | 0,p,P,I,_,f,e=>by cases e;simp
 | r+1,p,P,I,h,f,e=>by
  rw [pR] at e;cases b:pY S c p with
  | inl g=>rw [b] at e;cases e;exact Gs h b
  | inr q=>
   obtain ⟨t,a,d⟩:=q;rw [b] at e;simp only [] at e;split at e
   ·rename_i i;exact wY r (d+1) _ _ (lO i) e
   ·cases e
theorem HM {S:aa} {a:Nat} (h:a<=S.length) {f:Nat×Nat×Nat} (b:xm S a=.inl f):f.2.1≠0:=by
 have c:∀i:Int,a+1<=S.length->F3 S a i=.inl f->f.2.1≠0:=by
  intro i k b;unfold F3 at b;have j:(if dts (S.drop (a+1)) then a+3 else a+1:Nat)<=S.length:=by
   split
   ·rename_i h;have:=sE h;omega
   ·exact k
  cases d:pR S (endC i) 256 (if dts (S.drop (a+1)) then a+3 else a+1) [] [] with
  | inl g=>rw [d] at b;cases b;exact wY 256 _ _ _ j d
  | inr q=>
   obtain ⟨e,P,J⟩:=q;rw [d] at b;simp only [] at b;unfold endL at b;generalize (if dts (S.drop e) then e+2 else e:Nat)=l at b;split at b
   ·split at b
    ·cases b
    ·cases b;simp
   ·cases b;simp
 unfold xm at b;split at b
 ·rename_i d;exact c 3 (lO d) b
 ·split at b
  ·rename_i d;exact c 4 (lO d) b
  ·cases b;simp
noncomputable def NB (S:aa):(Nat×Nat)⊕(Int×Bool×Bool×List TI):=match xm S 0 with
 | .inl f=>.inl (f.1,f.2.1)
 | .inr (K,e,l,I,p)=>if p<S.length then .inl (p,5) else .inr (K,e,l,I)
def brk (c:UInt8):Bool:=c==33||c==44||c==46||c==47||c==91||c==93||c==123||c==125
theorem OU:∀c,(!brk c||(!isYC c&&(!isMk c&&(!(c==45)&&!isDX c))))=true:=gu (λc=>!brk c||(!isYC c&&(!isMk c&&(!(c==45)&&!isDX c)))) (by decide +kernel)
theorem Es {c:UInt8} (h:brk c=true):isYC c=false/\isMk c=false/\(c==45)=false/\isDX c=false:=by
 have:=OU c;rw [h] at this;simpa [aA] using this
theorem Qi {c:UInt8} (h:isDX c=true):brk c=false:=by
 cases a:brk c
 ·rfl
 ·rw [(Es a).2.2.2] at h;cases h
def endT (l:aa):Prop:=∀c,l.head?=some c->brk c=true
theorem Py {l:aa} (h:endT l):cH isYC l/\cH isMk l/\cH (λc=>c==45) l:=⟨λc hc=>(Es (h c hc)).1,λc hc=>(Es (h c hc)).2.1,λc hc=>(Es (h c hc)).2.2.1⟩
theorem Ls:endT []:=λc h=>by cases h
theorem Hw {g l:Bool} {d:aa} {x s:Nat} (h:okY g l d (x:Int) (s:Int)) (r:aa):cH brk (jH g l d (x:Int) (s:Int)++r):=by
 have a:d≠[]:=by
  have:=(ir h).2.2.2.2.1;rintro rfl;simp at this
 rw [jb];cases l with
 | true=>exact dt (by decide)
 | false=>
  cases g with
  | true=>exact dt (by decide)
  | false=>
   simp only [bq,aE,ek,iN];exact tG a (JM h) (λc=>Qi)
def ov (x:TD):aa:=wa x.1 x.2.1 x.2.2.1 x.2.2.2.1 x.2.2.2.2.1 x.2.2.2.2.2.1 x.2.2.2.2.2.2.1 x.2.2.2.2.2.2.2.1.toNat x.2.2.2.2.2.2.2.2.1.toNat x.2.2.2.2.2.2.2.2.2.toNat
theorem o5 {x:TD} (f:smT x) (hc:cF x=0):∃(g l:Bool) (dg:aa) (e q:Nat) (m d:aa) (a b c:Nat),x=(g,l,dg,(e:Int),(q:Int),m,d,(a:Int),(b:Int),(c:Int))/\OkD g l dg e q m d a b c:=by
 have h:=qK hc;obtain ⟨g,l,dg,e,q,m,d,k0,k1,k2⟩:=x;obtain ⟨r,s,a,b,c,o,j,k,i,n,p⟩:=JC f.2.2.2.1 f.2.2.2.2.1 f.2.2.2.2.2 h;simp only at o j k i n;subst o j k i n;exact ⟨_,_,_,_,_,_,_,_,_,_,rfl,p⟩
theorem rfT {x:TD} (a:smT x) (hc:cF x=0):ap10 (aZ 20000000) x=some (ov x):=
 G5 19999700 a.2.2.2.1 a.2.2.2.2.1 a.2.2.2.2.2 (qK hc)
theorem G4 {x:TD} (f:smT x) (hc:cF x=0):(ov x).length<=37:=by
 obtain ⟨g,l,dg,e,q,m,d,a,b,c,rfl,ok⟩:=o5 f hc;exact Io ok
theorem FD {l:aa} (h:cH brk l):dts l=false:=by
 cases a:dts l
 ·rfl
 ·obtain ⟨r,rfl⟩:=BA.1 a;exact absurd (h 46 rfl) (by decide)
theorem Qp {x:TD} (i:smT x) (hc:cF x=0) {S:aa} {a:Nat} {post:aa} (h:S.drop a=ov x++post) (f:endT post):∃r,di S a=.inr r/\tdR r=x/\enR r=a+(ov x).length:=by
 obtain ⟨g,l,dg,e,q,m,d,k0,k1,k2,rfl,ok⟩:=o5 i hc;obtain ⟨b,n,k⟩:=Py f;obtain ⟨P,c⟩:=Gm ok (S:=S) (a:=a) (post:=post) h b n k;refine ⟨(g,l,dg,e,q,m,d,(k0,k1,k2),P,a+(wa g l dg (e:Int) (q:Int) m d k0 k1 k2).length),?_,rfl,rfl⟩;unfold di;rw [c];have j:chkR (g,l,dg,e,q,m,d,(k0,k1,k2),P,a+(wa g l dg (e:Int) (q:Int) m d k0 k1 k2).length)=0:=by
  unfold chkR;simp only [];have:chkF g l dg (e:Int) (q:Int) m d (k0:Int) (k1:Int) (k2:Int)=0:=hc;rw [this];rfl
 simp only [];rw [ae j]
def S0 (K:Int):Prop:=K=3\/K=4
instance (K:Int):Decidable (S0 K):=inferInstanceAs (Decidable (K=3\/K=4))
theorem Tm {c:UInt8} (h:mkOf c≠0):mt (mkOf c)=[c]:=by
 unfold mkOf at h ⊢;by_cases d:c=63
 ·subst d;rfl
 ·rw [ab d] at h ⊢;by_cases b:c=126
  ·subst b;rfl
  ·rw [ab b] at h ⊢;by_cases a:c=37
   ·subst a;rfl
   ·rw [ab a] at h;exact absurd rfl h
theorem Pz (l:aa):l=mt (mkS l)++l.drop (mkN l):=by
 cases l with
 | nil=>rfl
 | cons c r=>
  unfold mkN;show c::r=mt (mkOf c)++_;by_cases h:mkOf c=0
  ·rw [ae (show mkS (c::r)=0 from h),h];rfl
  ·rw [ab (show ¬mkS (c::r)=0 from h),Tm h];rfl
theorem EO (S:aa) (p:Nat):S.drop p=mt (mkS (S.drop p))++S.drop (mkE S p):=by
 have:=Pz (S.drop p);rw [iL] at this;exact this
theorem JF (S:aa) (p:Nat):mkE S p=p+(mt (mkS (S.drop p))).length:=by
 unfold mkE mkN;have a:=AY (S.drop p);generalize mkS (S.drop p)=k at *;rcases (by omega:k=0\/k=1\/k=2\/k=3) with rfl | rfl | rfl | rfl<;>rfl
theorem Av {S:aa} {p:Nat} (h:¬twoN (S.drop p)<2):S.drop p=(S.drop p).take 2++S.drop (p+2)/\((S.drop p).take 2).length=2/\∀c∈(S.drop p).take 2,isDX c=true:=by
 have b:=sH h;have a:twoN (S.drop p)=2:=by
  have:twoN (S.drop p)<=2:=by
   unfold twoN;have:∀(k:Nat) (l:aa),br isDX k l<=k:=by
    intro k
    induction k with
    | zero=>intro l;cases l<;>simp [br]
    | succ k ih=>
     intro l;cases l with
     | nil=>simp [br]
     | cons c r=>
      simp only [br];split
      ·have:=ih r;omega
      ·omega
   exact this 2 _
  omega
 refine ⟨by rw [<-iL];exact (oi 2 _).symm,by simp;omega,?_⟩;have:=wq (p:=isDX) 2 (S.drop p);rw [show br isDX 2 (S.drop p)=2 from a] at this;exact this
theorem wo {S:aa} {p:Nat} (h:¬ec 45 (S.drop p)=0):S.drop p=45::S.drop (p+1):=by
 cases a:S.drop p with
 | nil=>rw [a] at h;exact absurd rfl h
 | cons c r=>
  rw [a,ji] at h;by_cases hc:c=45
  ·subst hc;rw [<-iL,a];rfl
  ·rw [ab hc] at h;exact absurd rfl h
theorem r7 {S:aa} {p k:Nat} {w:aa} (h:S.drop (mkE S p)=w++S.drop (mkE S p+k)):S.drop p=fe (mkS (S.drop p)) (mkS (S.drop (mkE S p+k))) w++S.drop (mkE S (mkE S p+k)):=by
 unfold fe;rw [iN,iN,<-EO,<-h,<-EO]
theorem Hm {S:aa} {a:Nat} {g l:Bool} {dg:aa} {x s:Nat} {m d:aa} {M P:Nat×Nat×Nat} {e:Nat} (b:kK S a=.inr (g,l,dg,x,s,m,d,M,P,e)):
  ∃A B,MkD A B m d/\M=spM A B/\P.1=a+(mt A.1).length/\S.drop a=rawD A B g l dg (x:Int) (s:Int) m d++S.drop e:=by
 unfold kK at b;cases u:m6 (S.drop (mkE S a)) with
 | inl k=>rw [u] at b;cases b
 | inr y=>
  obtain ⟨O,J,o,L,s',k⟩:=y;obtain ⟨K,R,_⟩:=oa u;have N:S.drop (mkE S a)=jH O J o (L:Int) (s':Int)++S.drop (mkE S a+k):=by
   rw [<-K,<-iL];exact (oi k _).symm
  have w0:=r7 N;have c:=λp=>AY (S.drop p);rw [u] at b;simp only [] at b;by_cases v:0<s'\/ec 45 (S.drop (mkE S (mkE S a+k)))=0
  ·rw [ae v] at b;simp only [md,bw] at b;obtain ⟨rfl,rfl,rfl,rfl,rfl,rfl,rfl,rfl,rfl,rfl⟩:=b;refine ⟨(mkS (S.drop a),0,0),(mkS (S.drop (mkE S a+k)),0,0),⟨c _,by simp,by simp,c _,by simp,by simp,λ_=>⟨rfl,rfl⟩,λ_=>⟨rfl,rfl⟩⟩,rfl,JF S a,?_⟩;unfold rawD;simpa using w0
  ·rw [ab v] at b;have w:=wo (λh=>v (.inr h));unfold rd2 at b;simp only [] at b;generalize I:mkE S (mkE S a+k)=i at *;by_cases t:twoN (S.drop (mkE S (i+1)))<2
   ·rw [ae t] at b;cases b
   rw [ab t] at b;obtain ⟨D,C,Q⟩:=Av t;have z:=r7 D;have f:(S.drop (mkE S (i+1))).take 2≠[]:=λh=>by rw [h] at C;simp at C
   by_cases r:ec 45 (S.drop (mkE S (mkE S (i+1)+2)))=0
   ·rw [ae r] at b;simp only [md,bw] at b;obtain ⟨rfl,rfl,rfl,rfl,rfl,rfl,rfl,rfl,rfl,rfl⟩:=b;refine ⟨(mkS (S.drop a),mkS (S.drop (i+1)),0),(mkS (S.drop (mkE S a+k)),mkS (S.drop (mkE S (i+1)+2)),0),⟨c _,c _,by simp,c _,c _,by simp,λh=>absurd h f,λ_=>⟨rfl,rfl⟩⟩,rfl,JF S a,?_⟩;unfold rawD;rw [ab f,ae rfl,mj,iN,dY,<-z,<-w];exact w0
   ·rw [ab r] at b;have F:=wo r;unfold rd3 at b;generalize E:mkE S (mkE S (i+1)+2)=n at *;by_cases q:twoN (S.drop (mkE S (n+1)))<2
    ·rw [ae q] at b;cases b
    rw [ab q] at b;obtain ⟨G,u2,u3⟩:=Av q;have H:=r7 G;have j:(S.drop (mkE S (n+1))).take 2≠[]:=λh=>by rw [h] at u2;simp at u2
    simp only [md,bw] at b;obtain ⟨rfl,rfl,rfl,rfl,rfl,rfl,rfl,rfl,rfl,rfl⟩:=b;refine ⟨(mkS (S.drop a),mkS (S.drop (i+1)),mkS (S.drop (n+1))),(mkS (S.drop (mkE S a+k)),mkS (S.drop (mkE S (i+1)+2)),mkS (S.drop (mkE S (n+1)+2))),⟨c _,c _,c _,c _,c _,c _,λh=>absurd h f,λh=>absurd h j⟩,rfl,JF S a,?_⟩;unfold rawD;rw [ab f,ab j,iN,iN,dY,dY,<-H,<-F,<-z,<-w];exact w0
def okC (c:UInt8):Bool:=isDX c||(isMk c||(c==45||(c==89||(c==69||c==83))))
def isLv (c:UInt8):Bool:=c==69||(c==83||isMk c)
theorem P3:∀c:UInt8,(!okC c||decide (c.toNat<128))=true:=gu (λc=>!okC c||decide (c.toNat<128)) (by decide +kernel)
theorem RX {c:UInt8} (h:okC c=true):c.toNat<128:=by
 have:=P3 c;rw [h] at this;simpa using this
def dgC (c:UInt8):UInt8:=if aT c then 100 else c
theorem QU:∀c:UInt8,(!decide (c.toNat<128)||(decide (0<=mI (c.toNat:Int))&&(Lib.encodeRune (mI (c.toNat:Int))==[dgC c])))=true:=
 gu (λc=>!decide (c.toNat<128)||(decide (0<=mI (c.toNat:Int))&&(Lib.encodeRune (mI (c.toNat:Int))==[dgC c]))) (by decide +kernel)
theorem Gp:∀{l:aa},(∀c∈l,c.toNat<128)->wn l=l.map dgC:=by
 have a:∀(n:Nat) (l:aa),l.length=n->(∀c∈l,c.toNat<128)->Lib.mapGoD mI n l=l.map dgC:=by
  intro n
  induction n with
  | zero=>intro l b _;rw [uI b];rfl
  | succ n ih=>
   intro l b h;cases l with
   | nil=>simp at b
   | cons c r=>
    have e:Lib.decodeL (c::r)=(c.toNat,1):=yk (l:=c::r) (i:=0) rfl (h c qD);rw [Lib.mapGoD,ab (by simp),e];have:=QU c;rw [am (h c qD)] at this;simp only [cV,nP,aA,bZ,bg] at this;rw [ae this.1,this.2];rw [show (c::r).drop 1=r from rfl,ih r (by simpa using b) (λd e=>h d (gk _ e))];rfl
 intro l h;exact a l.length l rfl h
theorem vk (s a:aa):Lib.containsAny s a=s.any (a.contains ·):=by
 induction s with
 | nil=>rfl
 | cons b l ih=>
  unfold Lib.containsAny at ih ⊢;have d:=Lib.indexAny_ge a l;rw [Lib.indexAny,oh];cases c:a.contains b
  ·rw [ab (by simp),nP,<-ih];by_cases h:Lib.indexAny l a=-1
   ·rw [ae (by simp [h]),h]
   ·rw [ab (by simp [h])];congr 1;exact propext (by omega)
  ·simp
def sU (u:aa):aa:=match u with | c::r=>if c=45 then r else c::r | []=>[]
def iG:List (aa):=[[100,100,100,88],[100,100,88,88],[100,100,100,100,45,88,88],[100,100,100,100,45,100,100,45,88,88],[100,100,100,100,45,88,88,45,88,88]]
def simB (v:aa):Bool:=iG.contains (v.map dgC)
theorem MB (n:Nat) (u:aa):gR n u=some (sU u):=by
 unfold gR eW ei sU;cases u with
 | nil=>rfl
 | cons c r=>
  have a:bx (c::r).length (1:Int)=some 1:=ct (i:=1) (by simp);rw [am (show (((c::r).length:Nat):Int)>=1 by rw [bf];omega),aj,a];simp only [ob,mg,l8,cP];by_cases hc:c=45
  ·subst hc;rw [ae rfl];simp
  ·rw [ab hc,show (([c]:aa)==[45])=false from by simp [hc]];rfl
theorem Tz (n:Nat) (u:aa):ck n u=some (decide (u.head?=some 89)):=by
 unfold ck ee;cases u with
 | nil=>rfl
 | cons c r=>
  have a:bx (c::r).length (1:Int)=some 1:=ct (i:=1) (by simp);rw [am (show (((c::r).length:Nat):Int)>=1 by rw [bf];omega),aj,a];simp only [ob,mg,l8,cP,zY,aq];rw [show (([c]:aa)==[89])=decide (c=89) from by rw [qI];simp]
theorem vV (v:aa):cD 20000000 v iG=some (iG.contains v):=by
 have e:∀(r i:Nat),i+r=5->∀N,r<N->aw (be 20000000) N (v,5,(i:Int),iG)=some (if (iG.drop i).contains v then .inl ((i+(iG.drop i).idxOf v:Nat):Int) else .inr ()):=by
  intro r
  induction r with
  | zero=>
   intro i hi N f;obtain ⟨N,rfl⟩:∃k,N=k+1:=⟨N - 1,by omega⟩;obtain rfl:i=5:=by omega
   rw [aw];rfl
  | succ r ih=>
   intro i hi N f;obtain ⟨N,rfl⟩:∃k,N=k+1:=⟨N - 1,by omega⟩;have a:i<iG.length:=by show i<5;omega
   have c:=bj a;have:be 20000000 (v,5,(i:Int),iG)=some (if v=iG[i] then .inr (.inl (i:Int)) else .inl (v,5,((i+1:Nat):Int),iG)):=by
    unfold be;simp only [];rw [am (show (i:Int)<5 by omega),aj,fg a];simp only [ob,c];rw [show IntKind.wrap .i64 ((i:Int)+1)=((i+1:Nat):Int) from ud (by omega),gP];split<;>rfl
   rw [aw,this,qb a];by_cases b:v=iG[i]
   ·rw [ae b];simp only [];rw [<-b];simp
   ·rw [ab b];simp only [];rw [ih (i+1) (by omega) N (by omega)];have g:(iG[i]==v)=false:=by simp;exact λh=>b h.symm
    have d:(v==iG[i])=false:=by simp;exact b
    rw [List.contains_cons,d,nP,List.idxOf_cons,g];simp only [af];rw [show i+1+List.idxOf v (List.drop (i+1) iG)=i+(List.idxOf v (List.drop (i+1) iG)+1) by omega]
 have:=e 5 0 rfl 20000000 (by omega);unfold cD dU;rw [show aw (be 20000000) 20000000 (v,(((List.length iG):Nat):Int),0,iG)=_ from this];rw [cP];cases h:iG.contains v
 ·rfl
 ·simp only [aJ,ob];rw [am (by omega)]
def lvl (u:aa) (b X:Bool) (code:Int):Int:=
 if u.any isLv then 2 else if 24<code then 2 else if (X&&!simB (sU u))=true then 2
 else if b=true\/X=true\/0<code\/u.head?=some 45\/u.head?=some 89 then 1 else 0
structure Body (T u:aa) (k:Nat):Prop where
 eq:T=u++mt k
 k4:k<4
 last:∃v z,u=v++[z]/\isMk z=false
 asc:∀c∈T,c.toNat<128
 len:T.length<=1000
theorem Body.ne {T u:aa} {k:Nat} (h:Body T u k):u≠[]:=by
 obtain ⟨v,z,rfl,_⟩:=h.last;simp
theorem Body.ascu {T u:aa} {k:Nat} (h:Body T u k):∀c∈u,c.toNat<128:=λc hc=>h.asc c (by rw [h.eq];exact List.mem_append_left _ hc)
theorem Body.lenu {T u:aa} {k:Nat} (h:Body T u k):u.length<=1000:=by
 have:=h.len;rw [h.eq,bV] at this;omega
theorem Nn (c:UInt8):([63,126,37]:aa).contains c=isMk c:=by
 have:=gu (λc=>([63,126,37]:aa).contains c==isMk c) (by decide +kernel) c;simpa using this
theorem S3 {k:Nat} (h:k<4):∀c∈mt k,isMk c=true/\c≠69/\c≠83/\c≠88:=by
 rcases (by omega:k=0\/k=1\/k=2\/k=3) with rfl | rfl | rfl | rfl<;>simp [mt,isMk,mkOf]
theorem HG {p:UInt8->Bool}:∀{l:aa},(∀c∈l,p c=true)->l.dropWhile p=[]
 | [],_=>rfl
 | c::l,h=>by rw [List.dropWhile_cons,h c qD];exact HG λd a=>h d (gk _ a)
theorem my {T u:aa} {k:Nat} (h:Body T u k):Lib.trimRightS T [63,126,37]=u:=by
 obtain ⟨v,z,rfl,b⟩:=h.last;unfold Lib.trimRightS;rw [h.eq,List.reverse_append,List.reverse_append];have:List.dropWhile (λx=>([63,126,37]:aa).contains x) ((mt k).reverse++([z].reverse++v.reverse))=[z].reverse++v.reverse:=by
  rw [List.dropWhile_append];have a:List.dropWhile (λx=>([63,126,37]:aa).contains x) (mt k).reverse=[]:=by
   refine HG λc hc=>?_;rw [Nn];exact (S3 h.k4 c (BU.1 hc)).1
  rw [a];simp only [List.isEmpty_nil,aJ,List.reverse_singleton,List.singleton_append];rw [List.dropWhile_cons,Nn,b];simp
 rw [this];simp
theorem Qo (c:UInt8):([63,126,37,69,83]:aa).contains c=isLv c:=by
 have:=gu (λc=>([63,126,37,69,83]:aa).contains c==isLv c) (by decide +kernel) c;simpa using this
theorem LD (u:aa):(u==sU u)=!decide (u.head?=some 45):=by
 unfold sU;cases u with
 | nil=>rfl
 | cons c r=>
  simp only [zY,aq];by_cases hc:c=45
  ·subst hc;rw [ae rfl,am rfl];simp only [cV,aM,ne_eq];intro h;have:=cK List.length h;simp at this
  ·rw [ab hc,ar hc];simp
theorem Ji (u:aa):(sU u).length<=u.length:=by
 unfold sU;split
 ·split<;>simp
 ·simp
theorem GR {u:aa}:∀c∈sU u,c∈u:=by
 unfold sU;split
 ·split
  ·intro c hc;exact gk _ hc
  ·intro c hc;exact hc
 ·intro c hc;exact hc
theorem Cm {T u:aa} {k:Nat} (h:Body T u k):(u==T)=decide (k=0):=by
 rw [h.eq];rcases (by have:=h.k4;omega:k=0\/k=1\/k=2\/k=3) with rfl | rfl | rfl | rfl
 ·simp [mt]
 all_goals
  rw [show decide _=false from rfl,aM];intro e;have:=cK List.length e;simp [mt] at this
theorem Tt {T u:aa} {k:Nat} (h:Body T u k) {x:TD} (f:smT x):gK 20000000 T x=some (lvl u (decide (k≠0)) (hasX x.2.2.1||(hasX x.2.2.2.2.2.1||hasX x.2.2.2.2.2.2.1)) (seT x)):=by
 have m:ap10 (bD 20000000) x=some (seT x,decide (0<seT x)):=oK 20000000 _ _ _ _ _ _ _ _ _ _ f.1;have n:=h.len;have l:=h.lenu;have j:=Ji u;have g:vL T [63,126,37]=true:=by
  unfold vL;rw [dn (by omega)];rfl
 have i:yH (sU u)=true:=dn (by omega);have c3:uq u [63,126,37,69,83]=true:=by
  unfold uq;rw [dn (show u.length<=4294967280 by omega)];have:JH u=true:=bS.2 λc hc=>dn (h.ascu c hc);rw [this];rfl
 unfold gK;rw [m,fmT f];simp only [ob,u2,g,aj,my h,MB,i,c3,Gp (λc hc=>h.ascu c (GR c hc)),vk,Qo,Tz];rw [show ([[100,100,100,88],[100,100,88,88],[100,100,100,100,45,88,88],[100,100,100,100,45,100,100,45,88,88],[100,100,100,100,45,88,88,45,88,88]]:List (aa))=iG from rfl,vV];simp only [LD,Cm h,Bool.not_not];unfold lvl simB;rw [show (List.any u λx=>isLv x)=u.any isLv from rfl];generalize (hasX x.2.2.1||(hasX x.2.2.2.2.2.1||hasX x.2.2.2.2.2.2.1))=X;generalize iG.contains ((sU u).map dgC)=F;cases u.any isLv
 ·simp only [af,bq,aE];by_cases b:24<seT x
  ·rw [ae b,am (show 0<seT x by omega),am (show seT x>=25 by omega)];rfl
  ·rw [ab b,ar (show ¬seT x>=25 by omega)];have a:(cond (decide (u.head?=some 45)) (some (1:Int)) (cond (decide (u.head?=some 89)) (some 1) (cond (!decide (k=0)) (some 1) (cond (decide (0<seT x)) (some 1) (cond X (some 1) (some 0))))))=some (if decide (k≠0)=true\/X=true\/0<seT x\/u.head?=some 45\/u.head?=some 89 then 1 else 0):=by
    by_cases a1:u.head?=some 45
    ·rw [am a1,ae (by simp [a1])];rfl
    rw [ar a1];by_cases a2:u.head?=some 89
    ·rw [am a2,ae (by simp [a2])];rfl
    rw [ar a2];by_cases e:k=0
    ·rw [am e];by_cases d:0<seT x
     ·rw [am d,ae (by simp [d])];rfl
     rw [ar d];cases X
     ·rw [ab (by simp [a1,a2,e,d])];rfl
     ·rw [ae (by simp)];rfl
    ·rw [ar e,ae (by simp [e])];rfl
   cases X
   ·simp only [af,vR,bq,aE];simp only [af,bq] at a;rw [<-a];cases decide (0<seT x)<;>rfl
   ·cases F
    ·cases decide (0<seT x)<;>rfl
    ·simp only [aj,cV,af,xg,bq,aE];simp only [aj] at a;rw [<-a];cases decide (0<seT x)<;>rfl
 ·rfl
def Bd:aa->Int->Int->Option (Int×Int)
 | [],x,m=>some (x,m)
 | c::r,x,m=>if c=69\/c=83\/(isMk c=true/\r≠[]) then none else Bd r (if c=88 then 1 else x) (if isMk c=true then 1 else m)
theorem Ta (c:UInt8):dc 20000000 ((c.toNat:Nat):Int)=some ((mkOf c:Nat):Int):=(CE 19999700 c).2
theorem Le (c:UInt8):decide (((mkOf c:Nat):Int)>0)=isMk c:=by
 unfold isMk;by_cases h:0<mkOf c
 ·rw [am h,am (by omega)]
 ·rw [ar h,ar (by omega)]
theorem IT {T:aa} (v:T.length<=1000) (x:TD):∀(r i:Nat) (a m:Int),i+r=T.length->∀N,r<N->
  aw (cr 20000000) N (T,a,m,(i:Int),x)=some (match Bd (T.drop i) a m with | some p=>.inr (T,p.1,p.2,x) | none=>.inl 2):=by
 intro r
 induction r with
 | zero=>
  intro i a m hi N t;obtain ⟨N,rfl⟩:∃k,N=k+1:=⟨N - 1,by omega⟩;obtain rfl:i=T.length:=by omega
  have:cr 20000000 (T,a,m,((T.length:Nat):Int),x)=some (.inr (.inr (T,a,m,x))):=by
   unfold cr;simp only [u5,u4,u3,u2];rw [ar (show ¬((T.length:Nat):Int)<len T by show ¬((T.length:Nat):Int)<((T.length:Nat):Int);omega)];rfl
  rw [aw,this,uC];rfl
 | succ r ih=>
  intro i a m hi N t;obtain ⟨N,rfl⟩:∃k,N=k+1:=⟨N - 1,by omega⟩;have d:i<T.length:=by omega
  have o:T[i]?=some T[i]:=bj d;rw [aw,qb d,Bd];generalize T[i]=c at o ⊢;have q:T.drop (i+1)≠[]↔i+1<T.length:=by
   rw [ne_eq,List.drop_eq_nil_iff];omega
  have j:(((c.toNat:Nat):Int)==69)=decide (c=69):=pA c 69 (by decide);have l:(((c.toNat:Nat):Int)==83)=decide (c=83):=pA c 83 (by decide);have g:(((c.toNat:Nat):Int)==88)=decide (c=88):=pA c 88 (by decide);have s:w64 (len T - 1)=((T.length - 1:Nat):Int):=IU (by omega) (by omega);have:cr 20000000 (T,a,m,(i:Int),x)=some (if c=69\/c=83\/(isMk c=true/\T.drop (i+1)≠[]) then .inr (.inl 2) else .inl (T,(if c=88 then 1 else a),(if isMk c=true then 1 else m),((i+1:Nat):Int),x)):=by
   unfold cr;simp only [u5,u4,u3,u2];rw [am (show (i:Int)<len T by show (i:Int)<((T.length:Nat):Int);omega)];simp only [aj,ob,dF o,j,l,g,Ta,Le,s];rw [ud (by omega)];by_cases f:c=69
   ·rw [am f,ae (.inl f)];rfl
   rw [ar f];by_cases e:c=83
   ·rw [am e,ae (.inr (.inl e))];rfl
   rw [ar e];simp only [af];cases u:isMk c
   ·rw [ab (by simp [f,e])];simp only [af,bq,aE];by_cases b:c=88
    ·rw [am b,ae b];rfl
    ·rw [ar b,ab b];rfl
   ·simp only [aj,aJ];by_cases n:i+1<T.length
    ·rw [am (show (i:Int)<((T.length - 1:Nat):Int) by omega),ae (.inr (.inr ⟨trivial,q.2 n⟩))];rfl
    ·rw [ar (show ¬(i:Int)<((T.length - 1:Nat):Int) by omega),ab (by
      rintro (h | h | ⟨_,h⟩)
      ·exact f h
      ·exact e h
      ·exact n (q.1 h))]
     by_cases b:c=88
     ·rw [am b,ae b];rfl
     ·rw [ar b,ab b];rfl
  rw [this];by_cases hc:c=69\/c=83\/(isMk c=true/\T.drop (i+1)≠[])
  ·rw [ae hc,ae hc]
  ·rw [ab hc,ab hc];exact ih (i+1) _ _ (by omega) N (by omega)
theorem A6:∀(v:aa) (w:aa) (a:Int),w≠[]->Bd (v++w) a 0=if v.any isLv then none else Bd w (if v.any (·==88) then 1 else a) 0
 | [],w,a,_=>by simp
 | c::v,w,a,d=>by
  rw [dY,Bd,oh,oh];have e:v++w≠[]:=by
   intro h;exact d (List.append_eq_nil_iff.1 h).2
  by_cases hc:isLv c=true
  ·have:c=69\/c=83\/(isMk c=true/\v++w≠[]):=by
    unfold isLv at hc;simp only [gv,bg] at hc;rcases hc with h | h | h
    ·exact .inl h
    ·exact .inr (.inl h)
    ·exact .inr (.inr ⟨h,e⟩)
   rw [ae this,hc];simp
  ·have hc':isLv c=false:=by simpa using hc
   have f:c≠69/\c≠83/\isMk c=false:=by
    unfold isLv at hc';simp only [mB,aM] at hc';exact hc'
   rw [ab (by rintro (h | h | ⟨h,_⟩)<;>simp_all),f.2.2,hc'];simp only [bq,aE,nP];rw [A6 v w _ d];by_cases b:c=88
   ·subst b;simp
   ·rw [ab b,show (c==88)=false from by simp [b],nP]
theorem Rk {T u:aa} {k:Nat} (h:Body T u k):Bd T 0 0=if u.any isLv then none else some (if u.any (·==88) then 1 else 0,if k=0 then 0 else 1):=by
 obtain ⟨v,z,rfl,d⟩:=h.last;rw [h.eq,iN,A6 v _ 0 (by simp)];rw [pP,pP];cases v.any isLv
 ·simp only [bq,aE,nP,oh,List.any_nil,wh,List.singleton_append];rw [Bd,d];by_cases a:z=69
  ·subst a;simp [isLv]
  by_cases b:z=83
  ·subst b;simp [isLv]
  have f:isLv z=false:=by unfold isLv;rw [d];simp [a,b]
  rw [ab (by simp [a,b]),f];simp only [bq,aE];have e:(if z=88 then (1:Int) else if (v.any λx=>x==88)=true then 1 else 0)=if ((v.any λx=>x==88)||z==88)=true then 1 else 0:=by
   by_cases c:z=88
   ·subst c;simp
   ·rw [ab c,show (z==88)=false from by simp [c],wh]
  rw [e];rcases (by have:=h.k4;omega:k=0\/k=1\/k=2\/k=3) with rfl | rfl | rfl | rfl<;>rfl
 ·simp
theorem uW (f:aa) (u:∀c∈f,c=100\/c=88\/c=45) (v:f.length<=1000) (t:aa):aQ 20000000 t f=some (if t.map dgC=f then 1 else 0):=by
 unfold aQ;rw [show (len t != len f)=!decide (t.length=f.length) from cK _ (natB _ _)];by_cases m:t.length=f.length
 case neg=>
  rw [ar m,ab (λh=>m (by rw [<-h];simp))];rfl
 rw [am m];have loop:∀(r i:Nat),i+r=t.length->∀N,r<N->aw (de 20000000) N (t,f,(i:Int))=some (if (t.drop i).map dgC=f.drop i then .inr () else .inl 0):=by
  intro r
  induction r with
  | zero=>
   intro i hi N w;obtain ⟨N,rfl⟩:∃k,N=k+1:=⟨N - 1,by omega⟩;obtain rfl:i=t.length:=by omega
   have:de 20000000 (t,f,((t.length:Nat):Int))=some (.inr (.inr ())):=by
    unfold de;simp only [u3,u2];rw [ar (show ¬((t.length:Nat):Int)<len t by show ¬((t.length:Nat):Int)<((t.length:Nat):Int);omega)];rfl
   rw [aw,this,uC,m,uC];rfl
  | succ r ih=>
   intro i hi N w;obtain ⟨N,rfl⟩:∃k,N=k+1:=⟨N - 1,by omega⟩;have j:i<t.length:=by omega
   have g:i<f.length:=by omega
   have s:t[i]?=some t[i]:=bj j;have n:f[i]?=some f[i]:=bj g;have q:=u _ (List.getElem_mem g);rw [aw,qb j,qb g,fC];generalize t[i]=c at s ⊢;generalize f[i]=d at n q ⊢;have a:(dgC c=d)↔(c=d\/(d=100/\aT c=true)):=by
    unfold dgC;by_cases h:aT c=true
    ·rw [ae h];constructor
     ·intro e;exact .inr ⟨e.symm,h⟩
     ·rintro (e | ⟨e,_⟩)
      ·subst e;rcases q with rfl | rfl | rfl
       ·rfl
       ·exact absurd h (by decide)
       ·exact absurd h (by decide)
      ·exact e.symm
    ·rw [ab h];constructor
     ·intro e;exact .inl e
     ·rintro (e | ⟨_,e⟩)
      ·exact e
      ·exact absurd e h
   have b:aT c=(decide (48<=c.toNat)&&decide (c.toNat<=57)):=by
    have:=gu (λc=>aT c==(decide (48<=c.toNat)&&decide (c.toNat<=57))) (by decide +kernel) c;simpa using this
   have:de 20000000 (t,f,(i:Int))=some (if dgC c=d then .inl (t,f,((i+1:Nat):Int)) else .inr (.inl 0)):=by
    unfold de;simp only [u3,u2];rw [am (show (i:Int)<len t by show (i:Int)<((t.length:Nat):Int);omega)];simp only [aj,ob,dF s,dF n];rw [ud (by omega),show (((c.toNat:Nat):Int) != ((d.toNat:Nat):Int))=!(c==d) from cK _ (lH c d),show (((d.toNat:Nat):Int)==100)=decide (d=100) from pA d 100 (by decide)];by_cases e:c=d
    ·rw [ae (a.2 (.inl e)),show (c==d)=true from by simp [e]];rfl
    ·rw [show (c==d)=false from by simp [e]];by_cases l:d=100
     ·rw [am l];simp only [ie,aj];by_cases p:48<=c.toNat
      ·rw [am (show ((c.toNat:Nat):Int)>=48 by omega)];by_cases o:c.toNat<=57
       ·rw [am (show ((c.toNat:Nat):Int)<=57 by omega),ae (a.2 (.inr ⟨l,by rw [b];simp [p,o]⟩))];rfl
       ·rw [ar (show ¬((c.toNat:Nat):Int)<=57 by omega),ab (λh=>by
         rcases a.1 h with h | ⟨_,h⟩
         ·exact e h
         ·rw [b] at h;simp [o] at h)];rfl
      ·rw [ar (show ¬((c.toNat:Nat):Int)>=48 by omega),ab (λh=>by
        rcases a.1 h with h | ⟨_,h⟩
        ·exact e h
        ·rw [b] at h;simp [p] at h)];rfl
     ·rw [ar l,ab (λh=>by
       rcases a.1 h with h | ⟨h,_⟩
       ·exact e h
       ·exact l h)];rfl
   rw [this];by_cases e:dgC c=d
   ·rw [ae e];simp only [];rw [ih (i+1) (by omega) N (by omega),e];simp
   ·rw [ab e,ab (λh=>e (List.cons.inj h).1)]
 have:=loop t.length 0 (by omega) 20000000 (by omega);rw [show ((0:Nat):Int)=0 from rfl,cP,cP] at this;rw [this];split<;>rfl
theorem HK (t:aa):(w64 ((w64 ((w64 ((w64 ((if t.map dgC=[100,100,100,88] then (1:Int) else 0)+(if t.map dgC=[100,100,88,88] then (1:Int) else 0)))+(if t.map dgC=[100,100,100,100,45,88,88] then (1:Int) else 0)))+(if t.map dgC=[100,100,100,100,45,100,100,45,88,88] then (1:Int) else 0)))+(if t.map dgC=[100,100,100,100,45,88,88,45,88,88] then (1:Int) else 0))==0)=!simB t:=by
 unfold simB iG;simp only [List.contains_cons,List.contains_nil,wh];have e:∀f:aa,(t.map dgC=f)=((t.map dgC==f)=true):=λf=>by simp
 simp only [e];generalize (t.map dgC==[100,100,100,88])=z1;generalize (t.map dgC==[100,100,88,88])=z2;generalize (t.map dgC==[100,100,100,100,45,88,88])=b;generalize (t.map dgC==[100,100,100,100,45,100,100,45,88,88])=c;generalize (t.map dgC==[100,100,100,100,45,88,88,45,88,88])=a;cases z1<;>cases z2<;>cases b<;>cases c<;>cases a<;>rfl
theorem RL (t:aa):aQ 20000000 t [100,100,100,88]=some (if t.map dgC=[100,100,100,88] then 1 else 0):=uW _ (by decide) (by decide) t
theorem RA (t:aa):aQ 20000000 t [100,100,88,88]=some (if t.map dgC=[100,100,88,88] then 1 else 0):=uW _ (by decide) (by decide) t
theorem QR (t:aa):aQ 20000000 t [100,100,100,100,45,88,88]=some (if t.map dgC=[100,100,100,100,45,88,88] then 1 else 0):=uW _ (by decide) (by decide) t
theorem QK (t:aa):aQ 20000000 t [100,100,100,100,45,100,100,45,88,88]=some (if t.map dgC=[100,100,100,100,45,100,100,45,88,88] then 1 else 0):=uW _ (by decide) (by decide) t
theorem Ss (t:aa):aQ 20000000 t [100,100,100,100,45,88,88,45,88,88]=some (if t.map dgC=[100,100,100,100,45,88,88,45,88,88] then 1 else 0):=uW _ (by decide) (by decide) t
theorem OW {T u:aa} {k:Nat} (h:Body T u k) {g l:Bool} {dg:aa} {e q:Nat} {m d:aa} {M P:Nat×Nat×Nat} {p:Nat} (G:kK T 0=.inr (g,l,dg,e,q,m,d,M,P,p)):
  ba 20000000 T=some (lvl u (decide (k≠0)) (u.any (·==88)) (sea m)):=by
 have K:=h.len;obtain ⟨Q,_,D⟩:=uc 19999700 T 0 (by omega) (by omega) (by omega);rw [show 19999700+300=20000000 from rfl,G,show ((0:Nat):Int)=0 from rfl] at D;have s:=IT K (g,l,dg,(e:Int),(q:Int),m,d,(M.1:Int),(M.2.1:Int),(M.2.2:Int)) T.length 0 0 0 (by omega) 20000000 (by omega);rw [show ((0:Nat):Int)=0 from rfl,cP,Rk h] at s;unfold ba;rw [D];simp only [ob,LO];rw [show aw (cr 20000000) 20000000 (T,0,0,0,iF (g,l,dg,(e:Int),(q:Int),m,d,(M.1:Int),(M.2.1:Int),(M.2.2:Int),Q,T,(p:Int),(0:Int)))=_ from s];have y:∃c r,u=c::r:=by
  cases f:u with
  | nil=>exact absurd f h.ne
  | cons c r=>exact ⟨c,r,rfl⟩
 have B:ap10 (aN 20000000) (iF (g,l,dg,(e:Int),(q:Int),m,d,(M.1:Int),(M.2.1:Int),(M.2.2:Int),Q,T,(p:Int),(0:Int)))=some (sea m):=rsT _;unfold lvl;cases u.any isLv
 case true=>rfl
 simp only [bq,aE,obs,sm,ob,u4,u3,u2];rw [B];simp only [ob];by_cases b:24<sea m
 ·rw [ae b,show decide (sea m>24)=true from am b];rfl
 rw [ab b,show decide (sea m>24)=false from ar b,af];have F:=h.k4;have j:=cK List.length h.eq;rw [bV] at j;have n:bx (List.length T) (w64 ((len T) - (if k=0 then (0:Int) else 1)))=some u.length:=by
  have:w64 ((len T) - (if k=0 then (0:Int) else 1))=((u.length:Nat):Int):=by
   have H:len T=((T.length:Nat):Int):=rfl;rw [H,j];show IntKind.wrap .i64 _=_;rw [wrap_i64 _ (by split<;>omega) (by split<;>omega)];rcases (by omega:k=0\/k=1\/k=2\/k=3) with rfl | rfl | rfl | rfl<;>simp [mt]
  rw [this,ct (by omega)]
 have A:List.take u.length T=u:=by rw [h.eq,BX]
 rw [n];simp only [cP,A];obtain ⟨c,r,f⟩:=y;have v:sx u (0:Int)=some c:=by rw [f];rfl
 have z:sx T (0:Int)=some c:=by rw [h.eq,f];rfl
 have o:sU u=if c=45 then r else u:=by rw [f];rfl
 have J:u.head?=some c:=by rw [f];rfl
 have b1:bx u.length (1:Int)=some 1:=ct (i:=1) (by rw [f];simp);have w:List.drop 1 (List.take u.length u)=r:=by rw [kN,f];rfl
 rw [v,z,b1];simp only [w,ob,RL,RA,QR,QK,Ss,HK];rw [show (((c.toNat:Nat):Int)==45)=decide (c=45) from pA c 45 (by decide),show (((c.toNat:Nat):Int)==89)=decide (c=89) from pA c 89 (by decide),J];have a:(cond ((if (u.any λx=>x==88)=true then (1:Int) else 0)==1) (some (1:Int)) (cond ((if k=0 then (0:Int) else 1)==1) (some 1) (cond (decide (sea m>0)) (some 1) (cond (decide (c=45)) (some 1) (cond (decide (c=89)) (some 1) (some 0)))))) =
   some (if decide (k≠0)=true\/(u.any λx=>x==88)=true\/0<sea m\/some c=some 45\/some c=some 89 then 1 else 0):=by
  cases (u.any λx=>x==88)
  ·by_cases a1:k=0
   ·by_cases a2:0<sea m
    ·simp [a1,a2]
    ·by_cases C:c=45
     ·simp [a1,a2,C]
     ·by_cases E:c=89
      ·simp [a1,a2,E]
      ·simp [a1,a2,C,E]
   ·simp [a1]
  ·simp
 by_cases hc:c=45
 ·rw [am hc,aj];rw [o,ae hc];rw [am hc] at a;cases t:(u.any λx=>x==88)
  ·rw [t] at a;simp only [vR,bq,aE,show ((0:Int)==1)=false from rfl,af] at a ⊢;exact a
  ·rw [t] at a;cases I:simB r
   ·simp
   ·simp only [aJ,show ((1:Int)==1)=true from rfl,aj,af,cV,xg,bq,aE] at a ⊢;exact a
 ·rw [ar hc,af];rw [o,ab hc];rw [ar hc] at a;cases t:(u.any λx=>x==88)
  ·rw [t] at a;simp only [vR,bq,aE,show ((0:Int)==1)=false from rfl,af] at a ⊢;exact a
  ·rw [t] at a;cases I:simB u
   ·simp
   ·simp only [aJ,show ((1:Int)==1)=true from rfl,aj,af,cV,xg,bq,aE] at a ⊢;exact a
theorem nQ {k:Nat} (h:k<4):(mt k).all okC=true:=by
 rcases (by omega:k=0\/k=1\/k=2\/k=3) with rfl | rfl | rfl | rfl<;>decide
theorem x_mk {k:Nat} (h:k<4):(mt k).any (·==88)=false:=by
 rcases (by omega:k=0\/k=1\/k=2\/k=3) with rfl | rfl | rfl | rfl<;>decide
theorem QC:((List.range 100).all λk=>(Lib.decDigits k).all λc=>okC c&&(!isMk c&&!(c==88)))=true:=by decide +kernel
theorem Ag {k:Nat} (h:k<100) {letter:UInt8} (a:letter=69\/letter=83):(dD letter k).all (λc=>okC c&&(!isMk c&&!(c==88)))=true:=by
 unfold dD;split
 ·rw [kR,(bS.1 QC) k (jy.2 h)];rcases a with rfl | rfl<;>decide
 ·rfl
theorem JR {c:UInt8} (h:isDX c=true):okC c=true:=by unfold okC;rw [h];rfl
theorem CL {g l:Bool} {dg:aa} {x q:Nat} (h:okY g l dg (x:Int) (q:Int)):jH g l dg (x:Int) (q:Int)≠[]/\(∀c∈jH g l dg (x:Int) (q:Int),okC c=true/\isMk c=false)/\(jH g l dg (x:Int) (q:Int)).any (·==88)=hasX dg:=by
 obtain ⟨n,m,p,o,f,r⟩:=ir h;have j:x<100:=by omega
 have i:q<100:=by omega
 have b:=Ag j (letter:=69) (.inl rfl);have d:=Ag i (letter:=83) (.inr rfl);have a:=JM h;have e:dg≠[]:=by
  rintro rfl;simp at f
 rw [jb];refine ⟨by cases l<;>cases g<;>simp [e],λc hc=>?_,?_⟩
 ·simp only [kL,or_assoc] at hc;rcases hc with hc | hc | hc | hc | hc
  ·cases l
   ·cases hc
   ·rw [uZ.1 hc];decide
  ·cases g
   ·cases hc
   ·rw [uZ.1 hc];decide
  ·exact ⟨JR (a c hc),FP (a c hc)⟩
  ·have:=(bS.1 b) c hc;simp only [aA,jL] at this;exact ⟨this.1,this.2.1⟩
  ·have:=(bS.1 d) c hc;simp only [aA,jL] at this;exact ⟨this.1,this.2.1⟩
 ·have no:∀w:aa,w.all (λc=>okC c&&(!isMk c&&!(c==88)))=true->w.any (·==88)=false:=by
   intro w k;rw [pZ];intro c hc;have:=(bS.1 k) c hc;simp only [aA,jL] at this;rw [this.2.2];simp
  simp only [pP,no _ b,no _ d,wh];unfold hasX;cases l<;>cases g<;>simp
theorem C3 {w:aa} (h:w≠[]) (b:∀c∈w,isMk c=false) (v:aa):∃a z,v++w=a++[z]/\isMk z=false:=
 ⟨v++w.dropLast,w.getLast h,by rw [iN,List.dropLast_concat_getLast],b _ (List.getLast_mem h)⟩
theorem Et {A B:Nat×Nat×Nat} {g l:Bool} {dg:aa} {x q:Nat} {m d:aa} (r:ShD g l dg x q m d) (V:MkD A B m d):
  ∃u k,Body (rawD A B g l dg (x:Int) (q:Int) m d) u k/\u.any (·==88)=(hasX dg||(hasX m||hasX d))/\(u.any isLv=false->A=(0,0,0)/\(m≠[]->B.1=0)/\(d≠[]->B.2.1=0))/\k=(if m=[] then B.1 else if d=[] then B.2.1 else B.2.2):=by
 obtain ⟨U,I,D⟩:=CL r.yr;have yl:=uv r.yr;obtain ⟨i,p,E⟩:=A;obtain ⟨n,s,F⟩:=B;obtain ⟨a0,a1,a2,b0,b1,b2,zm,zd⟩:=V;simp only at a0 a1 a2 b0 b1 b2 zm zd;unfold rawD fe;simp only;generalize jH g l dg (x:Int) (q:Int)=Y at *;have b:∀w:aa,w.all okC=true->∀c∈w,c.toNat<128:=λw K c hc=>RX ((bS.1 K) c hc);have t:Y.all okC=true:=bS.2 λc hc=>(I c hc).1;have j:∀k,k<4->(mt k).length<=1:=λk h=>by
  rcases (by omega:k=0\/k=1\/k=2\/k=3) with rfl | rfl | rfl | rfl<;>simp [mt]
 have J:=j i a0;have la1:=j p a1;have R:=j E a2;have Q:=j n b0;have lb1:=j s b1;have P:=j F b2;have a:∀k,k<4->(mt k).any isLv=false->k=0:=λk h=>by
  rcases (by omega:k=0\/k=1\/k=2\/k=3) with rfl | rfl | rfl | rfl<;>decide
 have o:∀w:aa,w.any (λx=>x==88)=hasX w:=λw=>rfl;by_cases f:m=[]
 ·have e:d=[]:=r.day.resolve_right (λz=>z.1 f);subst f e;obtain ⟨rfl,rfl⟩:=zm rfl;obtain ⟨rfl,rfl⟩:=zd rfl;simp only [aJ,mj];refine ⟨mt i++Y,n,⟨rfl,b0,C3 U (λc hc=>(I c hc).2) _,b _ (by rw [AE,AE,nQ a0,t,nQ b0];rfl),by simp only [bV];omega⟩,?_,?_,rfl⟩
  ·rw [pP,x_mk a0,D];simp [hasX]
  ·intro h;rw [pP,mB] at h;exact ⟨by rw [a _ a0 h.1],λh=>absurd rfl h,λh=>absurd rfl h⟩
 ·obtain ⟨L,mx⟩:=r.mon.resolve_left f;have H:m.all okC=true:=bS.2 λc hc=>JR (mx c hc);rw [ab f,ab f];by_cases e:d=[]
  ·subst e;obtain ⟨rfl,rfl⟩:=zd rfl;simp only [aJ,mj];refine ⟨mt i++Y++mt n++(45::(mt p++m)),s,⟨by simp,b1,?_,b _ ?_,by simp only [bV,bf];omega⟩,?_,?_,rfl⟩
   ·have:=C3 f (λc hc=>FP (mx c hc)) (mt i++Y++mt n++(45::mt p));simpa using this
   ·simp only [AE,kR,nQ a0,t,nQ b0,nQ a1,H,nQ b1,show okC 45=true from by decide];rfl
   ·simp only [pP,oh,x_mk a0,x_mk b0,x_mk a1,D];simp only [o];simp [hasX]
   ·intro h;simp only [pP,oh,mB] at h;obtain ⟨⟨⟨y,S⟩,C⟩,M,v,O⟩:=h;exact ⟨by rw [a _ a0 y,a _ a1 v],λ_=>a _ b0 C,λh=>absurd rfl h⟩
  ·obtain ⟨_,Z,G⟩:=r.day.resolve_left e;have X:d.all okC=true:=bS.2 λc hc=>JR (G c hc);rw [ab e,ab e];refine ⟨mt i++Y++mt n++(45::(mt p++m++mt s))++(45::(mt E++d)),F,⟨by simp,b2,?_,b _ ?_,by simp only [bV,bf];omega⟩,?_,?_,rfl⟩
   ·have:=C3 e (λc hc=>FP (G c hc)) (mt i++Y++mt n++(45::(mt p++m++mt s))++(45::mt E));simpa using this
   ·simp only [AE,kR,nQ a0,t,nQ b0,nQ a1,H,nQ b1,nQ a2,X,nQ b2,show okC 45=true from by decide];rfl
   ·simp only [pP,oh,x_mk a0,x_mk b0,x_mk a1,x_mk b1,x_mk a2,D];simp only [o];simp [Bool.or_assoc]
   ·intro h;simp only [pP,oh,mB] at h;obtain ⟨⟨⟨⟨y,S⟩,C⟩,M,⟨v,O⟩,W⟩,h8,T,N⟩:=h;exact ⟨by rw [a _ a0 y,a _ a1 v,a _ a2 T],λ_=>a _ b0 C,λ_=>a _ b1 W⟩
def mkX (x:TD):Bool:=hasX x.2.2.1||(hasX x.2.2.2.2.2.1||hasX x.2.2.2.2.2.2.1)
def lvT (T:aa) (x:TD):Int:=lvl (Lib.trimRightS T [63,126,37]) (!(Lib.trimRightS T [63,126,37]==T)) (mkX x) (seT x)
theorem S5 {T u:aa} {k:Nat} (h:Body T u k) {x:TD} (a:smT x):gK 20000000 T x=some (lvT T x):=by
 rw [Tt h a];unfold lvT mkX;rw [my h,Cm h];simp
theorem ux {S:aa} {a:Nat} (h:a<=S.length) {r:DR} (j:di S a=.inr r):∃A B u k,MkD A B (tdR r).2.2.2.2.2.1 (tdR r).2.2.2.2.2.2.1/\plR r=a+(mt A.1).length/\
  (S.drop a).take (enR r - a)=rawD A B r.1 r.2.1 r.2.2.1 (r.2.2.2.1:Int) (r.2.2.2.2.1:Int) r.2.2.2.2.2.1 r.2.2.2.2.2.2.1/\r.2.2.2.2.2.2.2.1=spM A B/\Body ((S.drop a).take (enR r - a)) u k/\
  gK 20000000 ((S.drop a).take (enR r - a)) (tdR r)=some (lvT ((S.drop a).take (enR r - a)) (tdR r))/\ba 20000000 ((S.drop a).take (enR r - a))=some (lvT ((S.drop a).take (enR r - a)) (tdR r)):=by
 obtain ⟨o,E,t,H⟩:=jt h j;obtain ⟨z,_⟩:=E0 h j;obtain ⟨K,J,y,D,C,m',d',k0,k1,k2,i,ok⟩:=o5 o E;obtain ⟨g,l,dg,x,s,m,d,M,P,e⟩:=r;have ok:ShD g l dg x s m d:=by
  unfold tdR at i;simp only [bw] at i;obtain ⟨rfl,rfl,rfl,q,n,rfl,rfl,_⟩:=i;have q:x=D:=by omega
  have n:s=C:=by omega
  subst q n;exact ok.sh
 obtain ⟨A,B,mk,F,w,p⟩:=Hm z;have v:(rawD A B g l dg (x:Int) (s:Int) m d).length=e - a:=by
  have:=cK List.length p;simp only [bV,cZ] at this;have:a<=e:=t;have:e<=S.length:=H;omega
 have c:(S.drop a).take (e - a)=rawD A B g l dg (x:Int) (s:Int) m d:=by rw [p,<-v,BX]
 obtain ⟨u,k,b,G,_⟩:=Et ok mk;refine ⟨A,B,u,k,mk,w,c,F,by rw [show enR (g,l,dg,x,s,m,d,M,P,e)=e from rfl,c];exact b,?_,?_⟩
 ·rw [show enR (g,l,dg,x,s,m,d,M,P,e)=e from rfl,c];exact S5 b o
 ·rw [show enR (g,l,dg,x,s,m,d,M,P,e)=e from rfl,c];obtain ⟨I,_,f⟩:=EH ok mk (S:=rawD A B g l dg (x:Int) (s:Int) m d) (a:=0) (post:=[]) (by simp) rS rS rS;rw [OW b f,G];unfold lvT mkX;rw [my b,Cm b];simp only [decide_not];rfl
def mx (a b:Int):Int:=if a>b then a else b
def lvR (S:aa) (p:Nat) (r:DR):Int:=lvT ((S.drop p).take (enR r - p)) (tdR r)
theorem zK (u:aa) (b X:Bool) (c:Int):0<=lvl u b X c/\lvl u b X c<=2:=by
 unfold lvl
 repeat' split
 all_goals omega
theorem HJ (S:aa) (p:Nat) (r:DR):0<=lvR S p r/\lvR S p r<=2:=zK _ _ _ _
theorem bcT {x:TD} (h:smT x) (K:Int):ap10 (ic 20000000 K) x=some (IR K x):=yz h.1 h.2.1 h.2.2.1 h.2.2.2.1 h.2.2.2.2.1 h.2.2.2.2.2
theorem yn (n:Nat) (a:Int) (S:aa) (p:Int) (I:List TI) (K:Int) (D:TD) (c:Int) (d:TD) (b:Int) (f:TD) (e l:Bool) (lv:Int):
  cn n a S p I K D c d b f e l lv=some (K,D,c,d,b,f,e,l,mx a lv):=by
 unfold cn mx;rw [bG]
theorem JE (I:List TI) (K:Int) (D:TD) (c:Int) (d:TD) (a:Int) (b:TD) (e l:Bool) (lv:Int) {S:aa} {p:Nat} (h:p<=S.length) (i:S.length<100000):
  cO 20000000 I K D c d a b e l lv S (p:Int)=some (match di S p with
   | .inl f=>.inl ((f.1:Int),(f.2.1:Int),K,D,c,d,a,b,e,l,lv,S,(f.2.2:Int))
   | .inr r=>.inr (tdR r,((plR r:Nat):Int),K,D,c,d,a,b,e,l,mx (lvR S p r) lv,S,((enR r:Nat):Int))):=by
 unfold cO;rw [rx _ _ _ h,yc S p h i];cases g:di S p with
 | inl f=>rfl
 | inr r=>
  obtain ⟨o,q,n,j⟩:=jt h g;obtain ⟨_,_,_,_,_,_,_,_,_,m,_⟩:=ux h g;rw [zT];simp only [obs,sm,ob];rw [show (d4 (d8 ((tdR r).1,(tdR r).2.1,(tdR r).2.2.1,(tdR r).2.2.2.1,(tdR r).2.2.2.2.1,(tdR r).2.2.2.2.2.1,(tdR r).2.2.2.2.2.2.1,(tdR r).2.2.2.2.2.2.2.1,(tdR r).2.2.2.2.2.2.2.2.1,(tdR r).2.2.2.2.2.2.2.2.2,((plR r:Nat):Int),S,((enR r:Nat):Int))))=((enR r:Nat):Int) from rfl,rx _ _ _ j];simp only [];have k:w64 (len (S.drop p) - len (S.drop (enR r)))=((enR r - p:Nat):Int):=by
   show IntKind.wrap .i64 (((S.drop p).length:Int) - ((S.drop (enR r)).length:Int))=_;rw [cZ,cZ,wrap_i64 _ (by omega) (by omega)];omega
  rw [k,ct (by rw [cZ];omega)];simp only [cP];rw [show gK 20000000 ((S.drop p).take (enR r - p)) (iF ((tdR r).1,(tdR r).2.1,(tdR r).2.2.1,(tdR r).2.2.2.1,(tdR r).2.2.2.2.1,(tdR r).2.2.2.2.2.1,(tdR r).2.2.2.2.2.2.1,(tdR r).2.2.2.2.2.2.2.1,(tdR r).2.2.2.2.2.2.2.2.1,(tdR r).2.2.2.2.2.2.2.2.2,((plR r:Nat):Int),S,((enR r:Nat):Int)))=_ from m];simp only [yn,u9,u8,u7,u6,u5,u4,u3,u2];rfl
theorem Ep {x:TD} (h:smT x) (hc:cF x=0) (a K:Int) (D:TD) (c:Int) (d:TD) (b:Int) (f:TD) (e l:Bool) (lv:Int) (S:aa) (p:Int) (I:List TI):
  ch 20000000 x a K D c d b f e l lv S p I=some (if exT x=true then .inr (1,x) else .inl (a,11)):=by
 unfold ch;rw [bcT h,PI,ae hc];cases exT x<;>rfl
noncomputable def toP (S:aa) (p:Nat) (a:Int) (b:TD) (lv:Int):(Nat×Nat)⊕(Int×TD×Int×Nat):=
 if a=1/\p=S.length then .inr (3,d0,mx 1 lv,p)
 else if a=1/\dts (S.drop p)=true then .inr (2,d0,mx 1 lv,p+2)
 else match di S p with
  | .inl f=>.inl (f.1,f.2.1)
  | .inr r=>if exT (tdR r)=true then (if enR r<S.length\/FN a b 1 (tdR r)=0 then .inr (1,tdR r,mx (lvR S p r) (if a=1 then lv else mx 1 lv),enR r) else .inl (plR r,11)) else .inl (plR r,11)
def Rj (S:aa) (D:TD) (b:Int) (c:TD) (e l:Bool):(Nat×Nat)⊕(Int×TD×Int×Nat)->(Int×TD×Int×TD×Int×TD×Bool×Bool×Int×aa×Int)⊕(Int×Int×Int×TD×Int×TD×Int×TD×Bool×Bool×Int×aa×Int)->Prop
 | .inl f,y=>∃z,y=.inr ((f.1:Int),(f.2:Int),z)
 | .inr (a,d,lv,p),y=>y=.inl (2,D,b,c,a,d,e,l,lv,S,(p:Int))
theorem DU {S:aa} {p:Nat} (h:p<=S.length):(peek (S.drop p)).2=decide (p<S.length):=by
 by_cases a:p<S.length
 ·rw [am a,bT (bj a)];rfl
 ·rw [ar a,iD (by omega)];rfl
theorem Ov (I:List TI) (K:Int) {j:TD} (F:smT j) (a:Int) (lv:Int) {S:aa} {p:Nat} (h:p<=S.length) (hS:S.length<100000):
  ∃y,eK 20000000 I K d0 a j 0 d0 false false lv S (p:Int)=some y/\Rj S d0 a j false false (toP S p a j lv) y:=by
 have t:∀(s:Int) (v:s=if a=1 then lv else mx 1 lv) (hn:¬(a=1/\p=S.length)) (q:¬(a=1/\dts (S.drop p)=true)),∃y,(obs (cO 20000000 I 2 d0 a j 0 d0 false false s S (p:Int)) (u13 λN M T W G P D Q H U R Y X=>(some (.inr (N,M,T,W,G,P,D,Q,H,U,R,Y,X)))) (u13 λL z g m d e x A i l k c b=>(obs (ch 20000000 L z g m d e x A i l k c b I) (u2 λZ V=>(some (.inr (Z,V,g,m,d,e,x,A,i,l,k,c,b)))) (u2 λo n=>(ob (aX 20000000 c b) (u2 λ_ E=>(cond (!E) (ob (ap10 (ap10 (f9 20000000 d) e o) n) λC=>(cond (C != 0) (ob (aK 20000000 z 11 c b) (u2 λO J=>(some (.inr (O,J,g,m,d,e,o,n,i,l,k,c,b))))) (some (.inl (g,m,d,e,o,n,i,l,k,c,b))))) (some (.inl (g,m,d,e,o,n,i,l,k,c,b))))))))))=some y/\Rj S d0 a j false false (toP S p a j lv) y:=by
  intro s v hn q;unfold toP;rw [JE I 2 d0 a j 0 d0 false false s h hS,ab hn,ab q];cases hr:di S p with
  | inl f=>exact ⟨_,rfl,_,rfl⟩
  | inr r=>
   obtain ⟨s1,c1,l1,l2⟩:=jt h hr;simp only [obs,sm,ob,u13,u12,u11,u10,u9,u8,u7,u6,u5,u4,u3,u2];rw [Ep s1 c1];cases hx:exT (tdR r)
   ·exact ⟨_,rfl,_,rfl⟩
   ·simp only [aJ,np _ _ _ l2,DU l2];by_cases B:enR r<S.length
    ·rw [am B,ae (.inl B)];exact ⟨_,rfl,by rw [<-v];rfl⟩
    ·rw [ar B];simp only [ie,aj];rw [JO F s1];simp only [];by_cases w:FN a j 1 (tdR r)=0
     ·rw [ae (.inr w),show (FN a j 1 (tdR r) != 0)=false from by simp [w]];exact ⟨_,rfl,by rw [<-v];rfl⟩
     ·rw [ab (by rintro (h | h)<;>contradiction),show (FN a j 1 (tdR r) != 0)=true from by simp [w]];exact ⟨_,rfl,_,rfl⟩
 unfold eK;by_cases u:a=1
 ·rw [show (a==1)=true from by simp [u],aj,np _ _ _ h];simp only [ob,u2,DU h,yn];by_cases w:p<S.length
  ·rw [am w];simp only [cV,af];rw [li _ _ _ _ h (by omega)];cases q:dts (S.drop p)
   ·rw [ab (show ¬(S.drop p).take [(46:UInt8),46].length=[46,46] from λh=>by unfold dts at q;rw [show (S.drop p).take 2=[46,46] from h] at q;cases q)];exact t lv (by rw [ae u]) (by omega) (by rw [q];simp)
   ·rw [ae (show (S.drop p).take [(46:UInt8),46].length=[46,46] from eq_of_beq q)];refine ⟨_,rfl,?_⟩;unfold toP;rw [ab (by omega),ae ⟨u,q⟩];rfl
  ·rw [ar w];refine ⟨_,rfl,?_⟩;unfold toP;rw [ae ⟨u,by omega⟩];rfl
 ·rw [show (a==1)=false from by simp [u],af,yn];simp only [ob,u9,u8,u7,u6,u5,u4,u3,u2];exact t (mx 1 lv) (by rw [ab u]) (by simp [u]) (by simp [u])
noncomputable def toX (S:aa) (p:Nat) (b:Int) (c:TD) (lv:Int):(Nat×Nat)⊕(Int×TD×Int):=match toP S p b c lv with
 | .inl f=>.inl f
 | .inr (a,d,L,q)=>if q<S.length then .inl (q,5) else .inr (a,d,L)
noncomputable def AD (S:aa):(Nat×Nat)⊕(Int×TD×Int×TD×Int×TD×Int)⊕(Int×Bool×Bool×List TI):=
 if S.head?=some 91\/S.head?=some 123 then (match NB S with | .inl f=>.inl f | .inr q=>.inr (.inr q))
 else if S.head?=some 47 then (match toX S 1 3 d0 0 with | .inl f=>.inl f | .inr (KT,DT,L)=>.inr (.inl (2,d0,3,d0,KT,DT,L)))
 else if dts S=true then (if (S.drop 2).head?=some 47 then (match toX S 3 2 d0 0 with | .inl f=>.inl f | .inr (KT,DT,L)=>.inr (.inl (2,d0,2,d0,KT,DT,L))) else .inl (2,5))
 else match di S 0 with
  | .inl f=>.inl (f.1,f.2.1)
  | .inr r=>if (S.drop (enR r)).head?=some 47 then (if exT (tdR r)=true then (match toX S (enR r+1) 1 (tdR r) (lvR S 0 r) with | .inl f=>.inl f | .inr (KT,DT,L)=>.inr (.inl (2,d0,1,tdR r,KT,DT,L))) else .inl (plR r,11))
   else if enR r<S.length then .inl (enR r,5) else .inr (.inl (1,tdR r,0,d0,0,d0,lvR S 0 r))
def Ro:(Nat×Nat)⊕(Int×TD×Int×TD×Int×TD×Int)⊕(Int×Bool×Bool×List TI)->(Int×TD×Int×TD×Int×TD×Bool×Bool×Int×Int×Int×List TI)⊕(Int×TD×Int×TD×Int×TD×Nat×Nat×Bool×Bool×Int×Int×Int×List TI)
 | .inl f=>.inl (0,d0,0,d0,0,d0,false,false,0,(f.1:Int),(f.2:Int),[])
 | .inr (.inl (K,D,b,c,a,d,L))=>.inl (K,D,b,c,a,d,false,false,L,0,0,[])
 | .inr (.inr (K,e,l,I))=>.inr (K,d0,0,d0,0,d0,I.length,I.length,e,l,2,0,0,I)
theorem va {S:aa} {p:Nat} (h:p<=S.length) {f:Nat×Nat×Nat} (a:di S p=.inl f):f.2.1≠0:=tZ (k:=f.1) (E:=f.2.1) (p:=f.2.2) h a
theorem BI {S:aa} {p:Nat} (h:p<=S.length) {c:Int} {d:TD} {lv:Int} {f:Nat×Nat} (a:toP S p c d lv=.inl f):f.2≠0:=by
 unfold toP at a;split at a
 ·cases a
 ·split at a
  ·cases a
  ·cases b:di S p with
   | inl g=>rw [b] at a;cases a;exact va h b
   | inr r=>
    rw [b] at a;simp only [] at a;split at a
    ·split at a
     ·cases a
     ·cases a;simp
    ·cases a;simp
theorem zO (l:aa) (c:UInt8) (hc:c≠0):((peek l).1==((c.toNat:Nat):Int))=decide (l.head?=some c):=by
 have:=Qx l c hc;cases l with
 | nil=>exact this
 | cons a r=>exact this
theorem EI {S:aa} {p:Nat} (h:p<=S.length) (a:S.length<100000) (c:UInt8):aB 20000000 [c] S (p:Int)=some (decide ((S.drop p).head?=some c),S,((if (S.drop p).head?=some c then p+1 else p:Nat):Int)):=by
 rw [li _ _ _ _ h (by omega)];simp only [tk1];by_cases hc:(S.drop p).head?=some c
 ·rw [ae hc,ae hc,am hc];rfl
 ·rw [ab hc,ab hc,ar hc]
theorem GE {S:aa} {p:Nat} (h:p<=S.length) (b:S.length<100000):aB 20000000 [46,46] S (p:Int)=some (dts (S.drop p),S,((if dts (S.drop p)=true then p+2 else p:Nat):Int)):=by
 rw [li _ _ _ _ h (by omega)];cases a:dts (S.drop p)
 ·rw [ab (show ¬(S.drop p).take [(46:UInt8),46].length=[46,46] from λh=>by unfold dts at a;rw [show (S.drop p).take 2=[46,46] from h] at a;cases a)];rfl
 ·rw [ae (show (S.drop p).take [(46:UInt8),46].length=[46,46] from eq_of_beq a)];rfl
theorem fS9 {S:aa} {p:Nat} (h:p<=S.length) (c:S.length<100000):bO 20000000 [47] S (p:Int)=some (if (S.drop p).head?=some 47 then .inl (S,((p+1:Nat):Int)) else .inr ((p:Int),5,S,(p:Int))):=by
 rw [xW _ _ _ _ h (by omega) (by simp) (by simp)];simp only [tk1];by_cases hc:(S.drop p).head?=some 47
 ·rw [ae hc,ae hc];rfl
 ·rw [ab hc,ab hc];have:lcp (S.drop p) [47]=0:=by
   cases b:S.drop p with
   | nil=>rfl
   | cons a r=>
    rw [b] at hc;simp only [lcp];rw [show (a==47)=false from by rw [aM];rintro rfl;exact hc rfl];rfl
  rw [this];rfl
def QS (S:aa):(Nat×Nat)⊕(Int×TD×Int×TD×Int×TD×Int×Nat)⊕(Int×Bool×Bool×List TI×Nat)->((Int×Int×Int×TD×Int×TD×Int×TD×Bool×Bool×Int×aa×Int)⊕(Int×TD×Int×TD×Int×TD×Nat×Nat×Bool×Bool×Int×aa×Int×List TI)⊕(Int×TD×Int×TD×Int×TD×Bool×Bool×Int×aa×Int)⊕(Int×TD×Int×TD×Int×TD×Bool×Bool×Int×aa×Int×List TI))->Prop
 | .inl f,y=>∃z,y=.inl ((f.1:Int),(f.2:Int),z)
 | .inr (.inl (K,D,b,c,a,d,L,p)),y=>y=.inr (.inr (.inl (K,D,b,c,a,d,false,false,L,S,(p:Int))))\/y=.inr (.inr (.inr (K,D,b,c,a,d,false,false,L,S,(p:Int),[])))
 | .inr (.inr (K,e,l,I,p)),y=>y=.inr (.inl (K,d0,0,d0,0,d0,I.length,I.length,e,l,2,S,(p:Int),I))
noncomputable def yM (S:aa):(Nat×Nat)⊕(Int×TD×Int×TD×Int×TD×Int×Nat)⊕(Int×Bool×Bool×List TI×Nat):=
 if S.head?=some 91\/S.head?=some 123 then (match xm S 0 with | .inl f=>.inl (f.1,f.2.1) | .inr q=>.inr (.inr q))
 else if S.head?=some 47 then (match toP S 1 3 d0 0 with | .inl f=>.inl f | .inr (KT,DT,L,q)=>.inr (.inl (2,d0,3,d0,KT,DT,L,q)))
 else if dts S=true then (if (S.drop 2).head?=some 47 then (match toP S 3 2 d0 0 with | .inl f=>.inl f | .inr (KT,DT,L,q)=>.inr (.inl (2,d0,2,d0,KT,DT,L,q))) else .inl (2,5))
 else match di S 0 with
  | .inl f=>.inl (f.1,f.2.1)
  | .inr r=>if (S.drop (enR r)).head?=some 47 then (if exT (tdR r)=true then (match toP S (enR r+1) 1 (tdR r) (lvR S 0 r) with | .inl f=>.inl f | .inr (KT,DT,L,q)=>.inr (.inl (2,d0,1,tdR r,KT,DT,L,q))) else .inl (plR r,11))
   else .inr (.inl (1,tdR r,0,d0,0,d0,lvR S 0 r,enR r))
theorem mx0 {a:Int} (h:0<=a):mx a 0=a:=by unfold mx;split<;>omega
theorem Pq {S:aa} (i:S.length<100000):∃y,gm 20000000 [] 0 d0 0 d0 0 d0 false false 0 S 0=some y/\QS S (yM S) y:=by
 have z0:(0:Int)=((0:Nat):Int):=rfl;have T:=np 20000000 S 0 (fB _);rw [cP,show ((0:Nat):Int)=0 from rfl] at T;have P:=Of (S:=S) (a:=0) (fB _) i;rw [show ((0:Nat):Int)=0 from rfl] at P;have O:=EI (S:=S) (p:=0) (fB _) i 47;rw [cP,show ((0:Nat):Int)=0 from rfl] at O;have Q:=GE (S:=S) (p:=0) (fB _) i;rw [cP,show ((0:Nat):Int)=0 from rfl] at Q;have U:=JE [] 0 d0 0 d0 0 d0 false false 0 (S:=S) (p:=0) (fB _) i;rw [show ((0:Nat):Int)=0 from rfl] at U;have G:((peek S).1==91)=decide (S.head?=some 91):=zO S 91 (by decide);have s:((peek S).1==123)=decide (S.head?=some 123):=zO S 123 (by decide);have set:(S.head?=some 91\/S.head?=some 123)->∃y,(obs (ll 20000000 S 0) (u4 λv1 v2 Z v4=>(some (.inl (v1,v2,0,d0,0,d0,0,d0,false,false,0,Z,v4)))) (u13 λX v6 v7 v8 v9 E J H D u m l n=>(ob (eV 20000000 2 m l n X v6 v7 v8 v9 E J H D u 0) (u11 λK I B t A w F M v C N=>(some (.inr (.inl (K,I,B,t,A,w,F,M,v,C,N,m,l,n))))))))=some y/\QS S (yM S) y:=by
  intro h;rw [P];unfold yM;rw [ae h];cases xm S 0 with
  | inl f=>exact ⟨_,rfl,_,rfl⟩
  | inr q=>exact ⟨_,rfl,rfl⟩
 unfold gm;rw [T];simp only [ob,u2,G,s];by_cases g:S.head?=some 91
 ·rw [am g,aj];exact set (.inl g)
 rw [ar g,af];by_cases b:S.head?=some 123
 ·rw [am b,aj];exact set (.inr b)
 rw [ar b,af,O];clear set;unfold yM;rw [ab (show ¬(S.head?=some 91\/S.head?=some 123) from λh=>h.elim g b)];simp only [u3,u2];by_cases e:S.head?=some 47
 ·simp only [am e,ae e,aj];have x:1<=S.length:=by
   have:=lO (S:=S) (p:=0) (c:=47) (by rw [cP];exact e);omega
  obtain ⟨y,o,d⟩:=Ov [] 0 Fz 3 0 (S:=S) (p:=1) x i;rw [show (((0+1:Nat)):Int)=((1:Nat):Int) from rfl,o];cases k:toP S 1 3 d0 0 with
  | inl f=>
   rw [k] at d;obtain ⟨z,rfl⟩:=d;exact ⟨_,rfl,_,rfl⟩
  | inr q=>
   rw [k] at d;obtain ⟨R,W,L,q⟩:=q;subst d;exact ⟨_,rfl,.inl rfl⟩
 ·simp only [ar e,ab e,af];rw [show (((0:Nat)):Int)=0 from rfl,Q];simp only [];cases hd:dts S
  ·rw [ab (by simp),ab (by simp),af,show (((0:Nat)):Int)=0 from rfl,U];cases Y:di S 0 with
   | inl f=>exact ⟨_,rfl,_,rfl⟩
   | inr r=>
    obtain ⟨V,c1,l1,l2⟩:=jt (fB _) Y;simp only [obs,sm,ob,u13,u12,u11,u10,u9,u8,u7,u6,u5,u4,u3,u2];rw [EI l2 i,mx0 (HJ S 0 r).1];simp only [];by_cases j:(S.drop (enR r)).head?=some 47
    ·simp only [am j,ae j,cV,af];rw [Ep V c1];cases hx:exT (tdR r)
     ·exact ⟨_,rfl,_,rfl⟩
     ·obtain ⟨y,o,d⟩:=Ov [] 0 V 1 (lvR S 0 r) (S:=S) (p:=enR r+1) (lO j) i;simp only [aJ];rw [o];cases k:toP S (enR r+1) 1 (tdR r) (lvR S 0 r) with
      | inl f=>
       rw [k] at d;obtain ⟨z,rfl⟩:=d;exact ⟨_,rfl,_,rfl⟩
      | inr q=>
       rw [k] at d;obtain ⟨R,W,L,q⟩:=q;subst d;exact ⟨_,rfl,.inl rfl⟩
    ·simp only [ar j,ab j];exact ⟨_,rfl,.inr rfl⟩
  ·rw [ae rfl,ae rfl,aj];have x:2<=S.length:=by
    have:=sE (S:=S) (p:=0) (by rw [cP];exact hd);omega
   rw [show (((0+2:Nat)):Int)=((2:Nat):Int) from rfl,fS9 x i];by_cases j:(S.drop 2).head?=some 47
   ·simp only [ae j];obtain ⟨y,o,d⟩:=Ov [] 0 Fz 2 0 (S:=S) (p:=3) (lO j) i;rw [show (((2+1:Nat)):Int)=((3:Nat):Int) from rfl];simp only [obs,sm,ob,u2,o];cases k:toP S 3 2 d0 0 with
    | inl f=>
     rw [k] at d;obtain ⟨z,rfl⟩:=d;exact ⟨_,rfl,_,rfl⟩
    | inr q=>
     rw [k] at d;obtain ⟨R,W,L,q⟩:=q;subst d;exact ⟨_,rfl,.inl rfl⟩
   ·simp only [ab j];exact ⟨_,rfl,_,rfl⟩
theorem J3 {S:aa} {f:Nat×Nat} (a:yM S=.inl f):f.2≠0:=by
 unfold yM at a;split at a
 ·cases b:xm S 0 with
  | inl g=>rw [b] at a;cases a;exact HM (fB _) b
  | inr q=>rw [b] at a;cases a
 ·split at a
  ·rename_i h;cases b:toP S 1 3 d0 0 with
   | inl g=>
    rw [b] at a;cases a;exact BI (lO (S:=S) (p:=0) (by rw [cP];exact h)) b
   | inr q=>rw [b] at a;cases a
  ·split at a
   ·split at a
    ·rename_i h;cases b:toP S 3 2 d0 0 with
     | inl g=>rw [b] at a;cases a;exact BI (lO h) b
     | inr q=>rw [b] at a;cases a
    ·cases a;simp
   ·cases b:di S 0 with
    | inl g=>rw [b] at a;cases a;exact va (fB _) b
    | inr r=>
     rw [b] at a;simp only [] at a;split at a
     ·rename_i h;split at a
      ·cases c:toP S (enR r+1) 1 (tdR r) (lvR S 0 r) with
       | inl g=>rw [c] at a;cases a;exact BI (lO h) c
       | inr q=>rw [c] at a;cases a
      ·cases a;simp
     ·cases a
theorem BO (S:aa):AD S=match yM S with
  | .inl f=>.inl f
  | .inr (.inl (K,D,c,d,b,g,L,q))=>if q<S.length then .inl (q,5) else .inr (.inl (K,D,c,d,b,g,L))
  | .inr (.inr (K,e,l,I,q))=>if q<S.length then .inl (q,5) else .inr (.inr (K,e,l,I)):=by
 unfold AD yM NB toX;split
 ·cases xm S 0 with
  | inl f=>rfl
  | inr q=>
   obtain ⟨_,_,_,_,p⟩:=q;by_cases a:p<S.length<;>simp [a]
 ·split
  ·cases toP S 1 3 d0 0 with
   | inl f=>rfl
   | inr q=>
    obtain ⟨_,_,_,p⟩:=q;by_cases a:p<S.length<;>simp [a]
  ·split
   ·split
    ·cases toP S 3 2 d0 0 with
     | inl f=>rfl
     | inr q=>
      obtain ⟨_,_,_,p⟩:=q;by_cases a:p<S.length<;>simp [a]
    ·rfl
   ·cases di S 0 with
    | inl f=>rfl
    | inr r=>
     simp only [];split
     ·split
      ·cases toP S (enR r+1) 1 (tdR r) (lvR S 0 r) with
       | inl f=>rfl
       | inr q=>
        obtain ⟨_,_,_,p⟩:=q;by_cases a:p<S.length<;>simp [a]
      ·rfl
     ·rfl
theorem MQ {S:aa} (i:S.length<=16384):dG 20000000 S=some (Ro (AD S)):=by
 obtain ⟨y,d,b⟩:=Pq (S:=S) (by omega);unfold dG dC;rw [show decide (len S>16384)=false from ar (by show ¬(16384:Int)<((S.length:Nat):Int);omega),af,d,BO];cases c:yM S with
 | inl f=>
  have h:=J3 c;rw [c] at b;obtain ⟨z,rfl⟩:=b;simp only [obs,sm,ob,u13,u12,u11,u10,u9,u8,u7,u6,u5,u4,u3,u2];rw [show (((f.2:Nat):Int) != 0)=true from by simp;omega];rfl
 | inr q=>
  rw [c] at b;cases q with
  | inl q=>
   obtain ⟨K,D,j,k,g,m,L,p⟩:=q;simp only [];rcases b with rfl | rfl
   ·simp only [obs,sm,ob,u13,u12,u11,u10,u9,u8,u7,u6,u5,u4,u3,u2];by_cases a:p<S.length
    ·rw [ae a,am (show (p:Int)<((S.length:Nat):Int) by omega)];rfl
    ·rw [ab a,ar (show ¬(p:Int)<((S.length:Nat):Int) by omega)];rfl
   ·simp only [obs,sm,ob,u14,u13,u12,u11,u10,u9,u8,u7,u6,u5,u4,u3,u2];by_cases a:p<S.length
    ·rw [ae a,am (show (p:Int)<((S.length:Nat):Int) by omega)];rfl
    ·rw [ab a,ar (show ¬(p:Int)<((S.length:Nat):Int) by omega)];rfl
  | inr q=>
   obtain ⟨K,e,l,I,p⟩:=q;subst b;simp only [obs,sm,ob,u16,u15,u14,u13,u12,u11,u10,u9,u8,u7,u6,u5,u4,u3,u2];by_cases a:p<S.length
   ·rw [ae a,am (show (p:Int)<((S.length:Nat):Int) by omega)];rfl
   ·rw [ab a,ar (show ¬(p:Int)<((S.length:Nat):Int) by omega)];rfl
def lvX (x:TD):Int:=lvT (ov x) x
theorem Ib {x:TD} (e:smT x) (hc:cF x=0):∃r,di (ov x) 0=.inr r/\tdR r=x/\enR r=(ov x).length/\lvR (ov x) 0 r=lvX x:=by
 obtain ⟨r,d,c,b⟩:=Qp e hc (S:=ov x) (a:=0) (post:=[]) (by simp) Ls;rw [cL] at b;refine ⟨r,d,c,b,?_⟩;unfold lvR lvX;rw [c,b,nA,cP,kN]
theorem OT {x:TD} (f:smT x) (hc:cF x=0):gK 20000000 (ov x) x=some (lvX x)/\ba 20000000 (ov x)=some (lvX x):=by
 obtain ⟨r,d,c,e,_⟩:=Ib f hc;obtain ⟨_,_,_,_,_,_,_,_,_,b,a⟩:=ux (fB _) d;rw [c,e,nA,cP,kN] at b a;exact ⟨b,a⟩
theorem IV (x:TD):0<=lvX x/\lvX x<=2:=zK _ _ _ _
theorem MP {S:aa} {a:Nat} (h:a<=S.length) {r:DR} (J:di S a=.inr r):lvX (tdR r)<=lvR S a r:=by
 obtain ⟨U,X,_,_⟩:=jt h J;obtain ⟨A,B,u,k,mk,_,E,v,I,_,_⟩:=ux h J;obtain ⟨g',l',L,W,R,m',d',k0,k1,k2,Y,ok⟩:=o5 U X;unfold lvR;generalize O:(S.drop a).take (enR r - a)=T at *;obtain ⟨g,l,dg,x,s,m,d,M,P,e⟩:=r;obtain ⟨t,n,p⟩:=M;have F:=Y;unfold tdR at F;simp only [bw] at F;obtain ⟨rfl,rfl,rfl,H,C,rfl,rfl,G,y,D⟩:=F;simp only at v E mk H C G y D;have H:x=W:=by omega
 have C:s=R:=by omega
 have G:t=k0:=by omega
 have y:n=k1:=by omega
 have D:p=k2:=by omega
 subst H C G y D;obtain ⟨Z,k',o,_,Q,V⟩:=Et ok.sh mk;rw [<-E] at o;have N:u=Z:=by rw [<-my I,<-my o]
 subst N;cases K:u.any isLv with
 | true=>
  have:lvT T (tdR (g,l,dg,x,s,m,d,(t,n,p),P,e))=2:=by
   unfold lvT lvl;rw [my I,K];rfl
  rw [this];exact (IV _).2
 | false=>
  obtain ⟨w,c,b⟩:=Q K;have:ov (tdR (g,l,dg,x,s,m,d,(t,n,p),P,e))=T:=by
   rw [E];show rawD (plA (cg m d) t n p) (plB (cg m d) t n p) g l dg (x:Int) (s:Int) m d=_;obtain ⟨B0,B1,B2⟩:=B;subst w;simp only at c b v;have q:=mk.zm;have f:=mk.zd;simp only at q f;simp only [spM,bw,Nat.zero_or] at v;obtain ⟨rfl,rfl,rfl⟩:=v;by_cases j:m=[]
   ·have i:d=[]:=ok.day.resolve_right (λz=>z.1 j);obtain ⟨_,rfl⟩:=q j;obtain ⟨_,rfl⟩:=f i;subst j i;rw [E1];simp [plA,plB,Ij]
   ·have c:=c j;subst c;by_cases i:d=[]
    ·obtain ⟨_,rfl⟩:=f i;subst i;rw [DO j];simp [plA,plB,Ij]
    ·have b:=b i;subst b;rw [Fb j i];simp [plA,plB,Ij]
  unfold lvX;rw [this];exact ui _
def okB (K:Int) (x:TD):Prop:=(K=1/\cF x=0/\exT x=true)\/((K=2\/K=3)/\x=d0)
end Go.Sh
