
/- Plain proofs, kept as far as they are needed here (printed by prune.py).
   Conditions: none. -/
import Derived.Test.YthemneooekobkabGreatDoorLawQzb
set_option linter.unusedVariables false
set_option linter.unusedSimpArgs false
set_option maxRecDepth 100000
namespace Go.Sh
open Go.Abs
def E4 (g l:Bool) (dg:aa) (x q:Int) (m d:aa) (k0 k1 k2:Int):Bool:=
 (((g==false)&&((l==false)&&((dg==([]:aa))&&((x==0)&&((q==0)&&true)))))&&((m==([]:aa))&&((d==([]:aa))&&(((k0==0)&&((k1==0)&&((k2==0)&&true)))&&true))))
noncomputable def chkB (K:Int) (g l:Bool) (dg:aa) (x q:Int) (m d:aa) (k0 k1 k2:Int):Int:=
 if K=1 then (if chkF g l dg x q m d k0 k1 k2=0 then (if exD dg m d q=true then 0 else 11) else chkF g l dg x q m d k0 k1 k2) else if K=2\/K=3 then (if E4 g l dg x q m d k0 k1 k2=true then 0 else 5) else 18
def EW (d b a c lo hi:Int):Int:=if d≠0 then d else if b≠0 then b else if a≠1/\c≠1 then 11 else if a≠1\/c≠1 then 0 else if lo>hi then 11 else 0
section
variable {K:Int} {g l:Bool} {dg:List UInt8} {x q:Int} {m d:List UInt8} {k0 k1 k2:Int} (hml:m.length<=18) (hdl:dg.length<=100) (hd18:d.length<=18) (h0:0<=k0) (h1:0<=k1) (h2:0<=k2)
include hml hdl hd18 h0 h1 h2
theorem vS:iv 20000000 K g l dg x q m d k0 k1 k2=some (chkB K g l dg x q m d k0 k1 k2):=by
 unfold iv chkB;rw [wb hml hdl h0 h1 h2,Gs 20000000 g l dg x q m d k0 k1 k2 (by omega) (by omega) (by omega)];simp only [ob];by_cases a:K=1
 ·subst a;rw [ae rfl];simp only [rF,ah];by_cases hc:chkF g l dg x q m d k0 k1 k2=0
  ·rw [ae hc,hc];by_cases c:exD dg m d q=true
   ·rw [ae c,c];rfl
   ·rw [ab c];rw [GQ] at c;rw [c];rfl
  ·rw [ab hc,bne0 hc];rfl
 ·rw [ab a,aL.2 a];simp only [af];have f:(!(((g==false)&&((l==false)&&((dg==([]:aa))&&((x==0)&&((q==0)&&true)))))&&((m==([]:aa))&&((d==([]:aa))&&(((k0==0)&&((k1==0)&&((k2==0)&&true)))&&true)))))=!(E4 g l dg x q m d k0 k1 k2):=rfl;rw [f];by_cases b:K=2
  ·subst b;rw [ae (.inl rfl)];cases E4 g l dg x q m d k0 k1 k2<;>rfl
  ·rw [aL.2 b];by_cases e:K=3
   ·subst e;rw [ae (.inr rfl)];cases E4 g l dg x q m d k0 k1 k2<;>rfl
   ·rw [aL.2 e,ab (by omega)];rfl
theorem ym:fb 20000000 K g l dg x q m d k0 k1 k2=some (chkB K g l dg x q m d k0 k1 k2):=by
 unfold fb chkB;rw [tJ hdl h0 h1 h2,Dj 20000000 g l dg x q m d k0 k1 k2 (by omega) (by omega) (by omega) (by omega)];simp only [ob];by_cases a:K=1
 ·subst a;rw [ae rfl];simp only [rF,ah];by_cases hc:chkF g l dg x q m d k0 k1 k2=0
  ·rw [ae hc,hc];by_cases e:exD dg m d q=true
   ·rw [ae e,ae e];rfl
   ·rw [ab e,ab e];rfl
  ·rw [ab hc,aL.2 hc];rfl
 ·rw [ab a,aL.2 a];simp only [af];have f:(!(((g==false)&&((l==false)&&((dg==([]:aa))&&((x==0)&&((q==0)&&true)))))&&((m==([]:aa))&&((d==([]:aa))&&(((k0==0)&&((k1==0)&&((k2==0)&&true)))&&true)))))=!(E4 g l dg x q m d k0 k1 k2):=rfl;rw [f];by_cases b:K=2
  ·subst b;rw [ae (.inl rfl)];cases E4 g l dg x q m d k0 k1 k2<;>rfl
  ·rw [aL.2 b];by_cases c:K=3
   ·subst c;rw [ae (.inr rfl)];cases E4 g l dg x q m d k0 k1 k2<;>rfl
   ·rw [aL.2 c,ab (by omega)];rfl
theorem Ul:jt 20000000 K g l dg x q m d k0 k1 k2=some (if chkB K g l dg x q m d k0 k1 k2=0 then (if K=2 then [46,46] else if K=3 then [] else qi g l dg x q m d k0.toNat k1.toNat k2.toNat,0) else ([],chkB K g l dg x q m d k0 k1 k2)):=by
 unfold jt;rw [vS hml hdl hd18 h0 h1 h2];simp only [ob];by_cases hc:chkB K g l dg x q m d k0 k1 k2=0
 ·rw [ae hc,hc];simp only [dA,af];by_cases a:K=2
  ·subst a;rfl
  ·rw [aL.2 a,ab a];by_cases b:K=3
   ·subst b;rfl
   ·rw [aL.2 b,ab b];have k1':K=1:=by
     unfold chkB at hc;by_cases h:K=1
     ·exact h
     ·rw [ab h,ab (by omega)] at hc;cases hc
    have c:chkF g l dg x q m d k0 k1 k2=0:=by
     unfold chkB at hc;rw [ae k1'] at hc;by_cases h:chkF g l dg x q m d k0 k1 k2=0
     ·exact h
     ·rw [ab h] at hc;exact absurd hc h
    have e:cK 20000000 g l dg x q m d k0 k1 k2=_:=G5 19999700 g l dg x q m d k0 k1 k2 hml hdl h0 h1 h2;rw [e,ae (nK c)];rfl
 ·rw [ab hc,bne0 hc];rfl
theorem Ju (hc:chkB K g l dg x q m d k0 k1 k2=0):ic 20000000 K g l dg x q m d k0 k1 k2=some (if K=2 then [46,46] else if K=3 then [] else qi g l dg x q m d k0.toNat k1.toNat k2.toNat):=by
 have f:=And.intro hml (And.intro hdl hd18);unfold ic;by_cases a:K=2
 ·subst a;rfl
 ·rw [aL.2 a,ab a];by_cases b:K=3
  ·subst b;rfl
  ·rw [aL.2 b,ab b];have k1':K=1:=by
    unfold chkB at hc;by_cases h:K=1
    ·exact h
    ·rw [ab h,ab (by omega)] at hc;cases hc
   have e:chkF g l dg x q m d k0 k1 k2=0:=by
    unfold chkB at hc;rw [ae k1'] at hc;by_cases h:chkF g l dg x q m d k0 k1 k2=0
    ·exact h
    ·rw [ab h] at hc;exact absurd hc h
   have c:cH 20000000 g l dg x q m d k0 k1 k2=_:=Eh 19999700 h0 h1 h2 (nK e);rw [c];rfl
theorem wj (hc:chkB K g l dg x q m d k0 k1 k2=0) (b:K=1):chkF g l dg x q m d k0 k1 k2=0/\exD dg m d q=true:=by
 have c:=And.intro hml (And.intro hdl (And.intro hd18 (And.intro h0 (And.intro h1 h2))));unfold chkB at hc;rw [ae b] at hc;by_cases h:chkF g l dg x q m d k0 k1 k2=0
 ·rw [ae h] at hc;by_cases a:exD dg m d q=true
  ·exact ⟨h,a⟩
  ·rw [ab a] at hc;cases hc
 ·rw [ab h] at hc;exact absurd hc h
end
theorem X6 (n:Nat) (a b:Int):jF n a b=some (if a<b then -1 else if a>b then 1 else 0):=by
 unfold jF kW;simp only [ob,dA,af];by_cases h:a<b
 ·rw [am h,ae h];rfl
 ·rw [aq h,ab h];by_cases c:a>b
  ·rw [am c,ae c];rfl
  ·rw [aq c,ab c];rfl
theorem Gv (a b:Int):∃r,kS 20000000 0 a 0 b=some r/\decide (r>0)=decide (a>b):=by
 have d:mY 20000000 0 0=some 0:=rfl;have o1:pg 20000000 [0,-1]=some (-1):=by kernel_rfl
 have f:pg 20000000 [0,1]=some 1:=by kernel_rfl
 have e:pg 20000000 [0,0]=some 0:=by kernel_rfl
 unfold kS;rw [d,X6];simp only [ob];by_cases h:a<b
 ·rw [ae h,o1];exact ⟨_,rfl,by rw [aq (show ¬a>b by omega)];rfl⟩
 ·rw [ab h];by_cases c:a>b
  ·rw [ae c,f];exact ⟨_,rfl,by rw [am c];rfl⟩
  ·rw [ab c,e];exact ⟨_,rfl,by rw [aq c];rfl⟩
theorem bne1 {K:Int} (h:K≠1):(K != 1)=true:=by simp [h]
section
variable {K:Int} {g l:Bool} {dg:List UInt8} {x q:Int} {m d:List UInt8} {k0 k1 k2:Int} {K':Int} {g' l':Bool} {dg':List UInt8} {x' q':Int} {m' d':List UInt8} {p0 p1 p2:Int} (hml:m.length<=18) (hdl:dg.length<=100) (hd18:d.length<=18) (h0:0<=k0) (h1:0<=k1) (h2:0<=k2) (hml':m'.length<=18) (hdl':dg'.length<=100) (hd18':d'.length<=18) (h0':0<=p0) (h1':0<=p1) (h2':0<=p2)
include hml hdl hd18 h0 h1 h2 hml' hdl' hd18' h0' h1' h2'
theorem TS:iU 20000000 K g l dg x q m d k0 k1 k2 K' g' l' dg' x' q' m' d' p0 p1 p2=some (EW (chkB K g l dg x q m d k0 k1 k2) (chkB K' g' l' dg' x' q' m' d' p0 p1 p2) K K' (pO g dg x m d).1 (pO g' dg' x' m' d').2):=by
 unfold iU EW;rw [vS hml hdl hd18 h0 h1 h2,vS hml' hdl' hd18' h0' h1' h2'];simp only [ob];by_cases c:chkB K g l dg x q m d k0 k1 k2=0
 ·rw [ab (by omega),c];by_cases b:chkB K' g' l' dg' x' q' m' d' p0 p1 p2=0
  ·rw [ab (by omega),b];simp only [dA,af];by_cases e:K=1
   ·rw [show (K != 1)=false by rw [e];rfl];simp only [af];by_cases a:K'=1
    ·rw [show (K' != 1)=false by rw [a];rfl,ab (by omega),ab (by omega)];simp only [af];obtain ⟨k,o⟩:=wj hml hdl hd18 h0 h1 h2 c e;obtain ⟨f,n⟩:=wj hml' hdl' hd18' h0' h1' h2' b a;rw [Gg hml hdl hd18 h0 h1 h2,Gg hml' hdl' hd18' h0' h1' h2',ae k,ae o,ae f,ae n];simp only [ob];obtain ⟨r,i,j⟩:=Gv (pO g dg x m d).1 (pO g' dg' x' m' d').2;rw [i];simp only [j];by_cases h:(pO g dg x m d).1>(pO g' dg' x' m' d').2
     ·rw [am h,ae h];rfl
     ·rw [aq h,ab h];rfl
    ·rw [bne1 a,ab (by omega),ae (by omega)];rfl
   ·rw [bne1 e];by_cases a:K'=1
    ·rw [show (K' != 1)=false by rw [a];rfl,ab (by omega),ae (by omega)];rfl
    ·rw [bne1 a,ae (by omega)];rfl
  ·rw [ae b,bne0 b];rfl
 ·rw [ae c,bne0 c];rfl
theorem OQ:eS 20000000 K g l dg x q m d k0 k1 k2 K' g' l' dg' x' q' m' d' p0 p1 p2=some (EW (chkB K g l dg x q m d k0 k1 k2) (chkB K' g' l' dg' x' q' m' d' p0 p1 p2) K K' (pO g dg x m d).1 (pO g' dg' x' m' d').2):=by
 unfold eS EW;rw [ym hml hdl hd18 h0 h1 h2,ym hml' hdl' hd18' h0' h1' h2'];simp only [ob];by_cases e:chkB K g l dg x q m d k0 k1 k2=0
 ·rw [ab (by omega),e];by_cases c:chkB K' g' l' dg' x' q' m' d' p0 p1 p2=0
  ·rw [ab (by omega),c];simp only [dA,af];by_cases b:K=1
   ·rw [show (K != 1)=false by rw [b];rfl,show (K==1)=true by rw [b];rfl];simp only [af,ah];by_cases a:K'=1
    ·rw [show (K'==1)=true by rw [a];rfl,ab (by omega),ab (by omega)];simp only [ah];obtain ⟨k,o⟩:=wj hml hdl hd18 h0 h1 h2 e b;obtain ⟨i,n⟩:=wj hml' hdl' hd18' h0' h1' h2' c a;obtain ⟨rfl,j⟩:=wn k o;obtain ⟨rfl,f⟩:=wn i n;rw [uR j hdl,uR f hdl'];simp only [ob];by_cases h:(pO g dg x m d).1>(pO g' dg' x' m' d').2
     ·rw [am h,ae h];rfl
     ·rw [aq h,ab h];rfl
    ·rw [aL.2 a,ab (by omega),ae (by omega)];rfl
   ·rw [bne1 b,aL.2 b];by_cases a:K'=1
    ·rw [show (K' != 1)=false by rw [a];rfl,ab (by omega),ae (by omega)];rfl
    ·rw [bne1 a,ae (by omega)];rfl
  ·rw [ae c,bne0 c];rfl
 ·rw [ae e,bne0 e];rfl
end
def plR (r:DR):Nat:=r.2.2.2.2.2.2.2.2.1.1
def enR (r:DR):Nat:=r.2.2.2.2.2.2.2.2.2
theorem IC {l:aa} {b:UInt8} (h:l.take 2=[b,b]):∃r,l=b::b::r:=by
 match l,h with
 | a::c::r,h=>simp at h;exact ⟨r,by rw [h.1,h.2]⟩
theorem Gm {S:aa} {a:Nat} (h:a<=S.length) {r:DR} (b:ct S a=.inr r):qH S a=.inr r/\chkR r=0:=by
 unfold ct at b;cases c:qH S a with
 | inl k=>rw [c] at b;cases b
 | inr d=>
  rw [c] at b;simp only [] at b;by_cases hc:chkR d=0
  ·rw [ae hc] at b;obtain rfl:=ll b;exact ⟨rfl,hc⟩
  ·rw [ab hc] at b;cases b
theorem lA (c:UInt8) (k:Nat) (a:k<256):(((c.toNat:Nat):Int)==(k:Int))=decide (c=UInt8.ofNat k):=by
 rw [tN,bG,decide_eq_true_iff];constructor
 ·intro h;apply gy.1;have:c.toNat=k:=by omega
  rw [this];simp;omega
 ·rintro rfl;simp;omega
def J5 (S:aa) (A:Int):(Nat×Nat×Nat)⊕DR->Bool×Bool×aa×Int×Int×aa×aa×Int×Int×Int×Int×aa×Int×Int
 | .inl (k,E,p)=>(false,false,[],0,0,[],[],0,0,0,A,S,(k:Int),(E:Int))
 | .inr (g,l,dg,x,s,m,d,M,P,e)=>(g,l,dg,(x:Int),(s:Int),m,d,(M.1:Int),(M.2.1:Int),(M.2.2:Int),(P.1:Int),S,(e:Int),0)
theorem sg (S:aa) (a:Nat) (h:a<=S.length) (w:S.length<100000):∃A,eM 20000000 S (a:Int)=some (J5 S A (ct S a)):=by
 obtain ⟨Q,p,o⟩:=xe 19999700 S a h w (by omega);rw [show 19999700+300=20000000 from rfl] at o;obtain ⟨b,f,i,rfl⟩:∃b f i,Q=[b,f,i]:=by
  match Q,p with
  | [b,f,i],_=>exact ⟨b,f,i,rfl⟩
 unfold eM ct;rw [o];cases u:qH S a with
 | inl k=>exact ⟨b,rfl⟩
 | inr r=>
  obtain ⟨g,l,dg,x,s,n,d,M,P,e⟩:=r;have c:=AQ h u;have v:=c.all;have t:=c.dg17;simp only [ob,To,d4,d8,dA,af];rw [tJ (g:=g) (l:=l) (x:=(x:Int)) (q:=(s:Int)) (m:=n) (d:=d) (show dg.length<=100 by omega) (show (0:Int)<=(M.1:Int) by omega) (show (0:Int)<=(M.2.1:Int) by omega) (show (0:Int)<=(M.2.2:Int) by omega)];have j:=uF (g:=g) (l:=l) (dg:=dg) (x:=(x:Int)) (q:=(s:Int)) (m:=n) (d:=d) (k0:=(M.1:Int)) (k1:=(M.2.1:Int)) (k2:=(M.2.2:Int)) (xo v);unfold chkR;simp only [];refine ⟨(P.1:Int),?_⟩;rcases j with hc | hc | hc | hc<;>rw [hc]<;>rfl
theorem qS {S:aa} {a:Nat} (h:a<=S.length) {k E p:Nat} (b:ct S a=.inl (k,E,p)):E≠0:=by
 unfold ct at b;cases c:qH S a with
 | inl k'=>rw [c] at b;simp only [] at b;have:=Sum.inl.inj b;simp at this;omega
 | inr d=>
  rw [c] at b;simp only [] at b;by_cases hc:chkR d=0
  ·rw [ae hc] at b;cases b
  ·rw [ab hc] at b;have:=Sum.inl.inj b;simp at this;omega
def smT (x:TD):Prop:=x.2.2.2.2.2.1.length<=18/\x.2.2.1.length<=100/\x.2.2.2.2.2.2.1.length<=18/\0<=x.2.2.2.2.2.2.2.1/\0<=x.2.2.2.2.2.2.2.2.1/\0<=x.2.2.2.2.2.2.2.2.2
noncomputable def cF (x:TD):Int:=chkF x.1 x.2.1 x.2.2.1 x.2.2.2.1 x.2.2.2.2.1 x.2.2.2.2.2.1 x.2.2.2.2.2.2.1 x.2.2.2.2.2.2.2.1 x.2.2.2.2.2.2.2.2.1 x.2.2.2.2.2.2.2.2.2
def exT (x:TD):Bool:=exD x.2.2.1 x.2.2.2.2.2.1 x.2.2.2.2.2.2.1 x.2.2.2.2.1
def dyT (x:TD):Int×Int:=pO x.1 x.2.2.1 x.2.2.2.1 x.2.2.2.2.2.1 x.2.2.2.2.2.2.1
def seT (x:TD):Int:=sea x.2.2.2.2.2.1
def coT (x:TD):Nat:=dj x.2.2.2.2.2.1 x.2.2.2.2.2.2.1
noncomputable def plT (x:TD):Bool:=decide (cF x=0)&&(exT x&&!decide (0<seT x))
theorem nS:smT d0:=by unfold smT;simp
theorem fcT {x:TD} (h:smT x):ap10 (bB 20000000) x=some (cF x):=wb h.1 h.2.1 h.2.2.2.1 h.2.2.2.2.1 h.2.2.2.2.2
theorem rcT {x:TD} (h:smT x):ap10 (bQ 20000000) x=some (cF x):=tJ h.2.1 h.2.2.2.1 h.2.2.2.2.1 h.2.2.2.2.2
theorem reT {x:TD} (h:smT x):ap10 (aN 20000000) x=some (if exT x then 1 else 0):=by
 obtain ⟨a,b,c,_⟩:=h;exact Dj 20000000 _ _ _ _ _ _ _ _ _ _ (by omega) (by omega) (by omega) (by omega)
theorem rsT (x:TD):ap10 (aP 20000000) x=some (seT x):=oU 20000000 (by omega) _ _ _ _ _ _ _ _ _ _
theorem rcoT (x:TD):ap10 (aF 20000000) x=some ((coT x:Nat):Int):=oK 20000000 _ _ _ _ _ _ _ _ _ _
theorem fpT {x:TD} (h:smT x):ap10 (bh 20000000) x=some (if x.2.2.2.2.2.2.1=[] then (if 0<seT x then 0 else if x.2.2.2.2.2.1=[] then 1 else 2) else 3):=KO 20000000 _ _ _ _ _ _ _ _ _ _ h.1
theorem fmT {x:TD} (h:smT x):ap10 (eZ 20000000) x=some (hasX x.2.2.1||(hasX x.2.2.2.2.2.1||hasX x.2.2.2.2.2.2.1)):=by
 obtain ⟨a,b,c,_⟩:=h;exact Di 20000000 _ _ _ _ _ _ _ _ _ _ (by omega) (by omega) (by omega)
theorem fdT {x:TD} (h:smT x):ap10 (gF 20000000) x=some (if cF x=0 then (if exT x=true then (0,(dyT x).1,0,(dyT x).2,0) else (0,0,0,0,1)) else (0,0,0,0,cF x)):=Gg h.1 h.2.1 h.2.2.1 h.2.2.2.1 h.2.2.2.2.1 h.2.2.2.2.2
theorem VB {x:TD} (hc:cF x=0) (a:exT x=true):x.2.2.2.2.1=0/\Exact x.1 x.2.1 x.2.2.1 x.2.2.2.1 x.2.2.2.2.2.1 x.2.2.2.2.2.2.1:=wn hc a
theorem rdT {x:TD} (h:smT x) (hc:cF x=0) (a:exT x=true):ap10 (bp 20000000) x=some (dyT x):=by
 obtain ⟨b,E⟩:=VB hc a;have:=uR (k0:=x.2.2.2.2.2.2.2.1) (k1:=x.2.2.2.2.2.2.2.2.1) (k2:=x.2.2.2.2.2.2.2.2.2) E h.2.1;rw [<-b] at this;exact this
theorem xa {x:TD} (hc:cF x=0):(x.2.2.2.2.2.1=[]\/x.2.2.2.2.2.1.length=2)/\(x.2.2.2.2.2.2.1=[]\/x.2.2.2.2.2.2.1.length=2)/\(x.2.2.2.2.2.2.1≠[]->x.2.2.2.2.2.1≠[]/\seT x=0):=by
 obtain ⟨_,a,b,_,c⟩:=tK (nK hc);exact ⟨a,b,c⟩
theorem oI {x y:TD}:eqD x y=true↔x=y:=by
 obtain ⟨a1,a2,i,l,f,j,k,o,h,b⟩:=x;obtain ⟨b1,b2,g,m,e,n,c,p,d,a⟩:=y;simp [and_assoc]
theorem Gt {x:TD} (h:smT x):nT 20000000 x=some (exT x):=by
 unfold nT;rw [fmT h];simp only [ob,exT,exD];cases (hasX x.2.2.1||(hasX x.2.2.2.2.2.1||hasX x.2.2.2.2.2.2.1))<;>rfl
theorem BX {x:TD} (h:smT x):lW 20000000 x=some (plT x):=by
 unfold lW plT;rw [fcT h,Gt h,fpT h];simp only [ob];by_cases hc:cF x=0
 ·rw [hc];cases d:exT x
  ·rfl
  ·show some ((if _ then _ else _) != (0:Int))=some (true&&(true&&!decide (0<seT x)));obtain ⟨_,_,c⟩:=xa hc;by_cases a:x.2.2.2.2.2.2.1=[]
   ·rw [ae a];by_cases hs:0<seT x
    ·rw [ae hs,am hs];rfl
    ·rw [ab hs,aq hs];by_cases b:x.2.2.2.2.2.1=[]
     ·rw [ae b];rfl
     ·rw [ab b];rfl
   ·rw [ab a,(c a).2];rfl
 ·rw [aq hc,show (cF x==0)=false from by simp [hc]];rfl
theorem tq {x:TD} (h:smT x):bj 20000000 x=some (if plT x then 1 else 0):=by
 unfold bj plT;rw [rcT h,reT h,rsT x];simp only [ob];by_cases hc:cF x=0
 ·rw [hc];cases b:exT x
  ·rfl
  ·by_cases hs:0<seT x
   ·have a:decide (seT x>0)=true:=am hs;rw [am hs];rfl
   ·have a:decide (seT x>0)=false:=aq hs;rw [aq hs];rfl
 ·rw [aq hc,show (cF x != 0)=true from by simp [hc]];rfl
theorem BP {x:TD}:plT x=true↔cF x=0/\exT x=true/\¬0<seT x:=by
 unfold plT;simp [and_assoc]
noncomputable def ordB (x y:TD):Bool:=(plT x&&plT y)&&(decide (coT x=coT y)&&decide ((dyT x).1<=(dyT y).1))
theorem zq {x:TD} (hc:cF x=0) (hs:¬0<seT x):(if x.2.2.2.2.2.2.1=[] then (if 0<seT x then (0:Int) else if x.2.2.2.2.2.1=[] then 1 else 2) else 3)=((coT x:Nat):Int):=by
 obtain ⟨_,_,c⟩:=xa hc;unfold coT dj;by_cases a:x.2.2.2.2.2.2.1=[]
 ·rw [ae a,ab hs];by_cases b:x.2.2.2.2.2.1=[]
  ·simp [b,a]
  ·simp [b,a]
 ·have b:=(c a).1;simp [a,b]
theorem IM {x y:TD} (hx:smT x) (hy:smT y):nr 20000000 x y=some (ordB x y):=by
 unfold nr ordB;rw [BX hx,BX hy];cases i:plT x
 ·rfl
 cases g:plT y
 ·rfl
 obtain ⟨c,j,h⟩:=BP.1 i;obtain ⟨b,f,m⟩:=BP.1 g;rw [fpT hx,fpT hy,fdT hx,fdT hy,zq c h,zq b m,ae c,ae b,ae j,ae f];simp only [ob,u5,u4,u3,u2,cv,af,Bool.and_self,nW];by_cases a:coT x=coT y
 ·rw [a,am rfl];obtain ⟨r,k,l⟩:=Gv (dyT x).1 (dyT y).1;simp only [dA,af,k,nW];refine bY some ?_;have:decide (r<=0)=!decide (r>0):=by
   by_cases d:r<=0
   ·rw [am d,aq (by omega)];rfl
   ·rw [aq d,am (by omega)];rfl
  rw [this,l];by_cases e:(dyT x).1<=(dyT y).1
  ·rw [am e,aq (by omega)];rfl
  ·rw [aq e,am (by omega)];rfl
 ·have:(((coT x:Nat):Int) != ((coT y:Nat):Int))=true:=by simp;omega
  rw [this,aq a];rfl
noncomputable def itE (x:TD) (r:Bool) (y:TD) (all:Bool):Int:=
 if cF x≠0 then cF x else if r=true/\cF y≠0 then cF y else if r=false/\eqD y d0=false then 5 else if r=true/\ordB x y=false then 10 else if all=true/\exT x=false then 10 else 0
theorem Cd {x y:TD} (r:Bool) (hx:smT x) (hy:smT y) (K:Int) (hc:cF x=0) (a:¬(r=true/\cF y≠0)):eI 20000000 5 10 10 x r y K=some (itE x r y (K==4)):=by
 unfold eI rt rJ qM itE;rw [IM hx hy,Gt hx,ab (by simpa using hc),ab a];cases r
 ·generalize eqD y d0=z;cases z
  ·rfl
  ·cases (K==4)
   ·rfl
   ·cases exT x<;>rfl
 ·simp only [ob,cv,af,ah,reduceCtorEq,yg,aB,jT];cases ordB x y
  ·rfl
  ·simp only [cv,af,Bool.true_eq_false,aB];cases (K==4)
   ·rfl
   ·cases exT x<;>rfl
theorem E5 {x y:TD} (r:Bool) (hx:smT x) (hy:smT y) (K:Int):gf 20000000 x r y K=some (if K=3\/K=4 then itE x r y (K==4) else 18):=by
 have b:(ob (ap10 (bB 20000000) x) λd=>(cond (d != 0) (some d) (cond r (ob (ap10 (bB 20000000) y) λc=>(cond (c != 0) (some c) (ob (eI 20000000 5 10 10 x r y K) λg=>(some g)))) (ob (eI 20000000 5 10 10 x r y K) λh=>(some h)))))=some (itE x r y (K==4)):=by
  rw [fcT hx];simp only [ob];by_cases hc:cF x=0
  ·rw [show (cF x != 0)=false from by simp [hc],af];cases r
   ·rw [Cd false hx hy K hc (by simp)];rfl
   ·rw [ah,fcT hy];simp only;by_cases a:cF y=0
    ·rw [show (cF y != 0)=false from by simp [a],af,Cd true hx hy K hc (by simp [a])]
    ·rw [show (cF y != 0)=true from by simp [a],ah];unfold itE;rw [ab (by simpa using hc),ae ⟨rfl,a⟩]
  ·rw [show (cF x != 0)=true from by simp [hc],ah];unfold itE;rw [ae hc]
 unfold gf;by_cases e:K=3
 ·subst e;exact b.trans (by rfl)
 ·rw [show (K != 3)=true from by simp [e],ah];by_cases f:K=4
  ·subst f;exact b.trans (by rfl)
  ·rw [show (K != 4)=true from by simp [f],ah,ab (by omega)]
theorem WS {x y:TD} {r all:Bool} (h:cF x≠0):itE x r y all=cF x:=ae h
theorem Ri {x y:TD} {all:Bool} (hc:cF x=0) (h:cF y≠0):itE x true y all=cF y:=by
 unfold itE;rw [ab (λh=>h hc),ae ⟨rfl,h⟩]
theorem Wl {x y:TD} {all:Bool} (hc:cF x=0):itE x false y all=if eqD y d0=false then 5 else if all=true/\exT x=false then 10 else 0:=by
 have b:(false=true/\cF y≠0)↔False:=by simp
 have a:(false=true/\ordB x y=false)↔False:=by simp
 have c:(false=false/\eqD y d0=false)↔eqD y d0=false:=by simp
 unfold itE;rw [ab (λh=>h hc)];simp only [b,a,aB,jT]
theorem UM {x y:TD} {all:Bool} (hc:cF x=0) (hy:cF y=0):itE x true y all=if ordB x y=false then 10 else if all=true/\exT x=false then 10 else 0:=by
 have b:(true=true/\ordB x y=false)↔ordB x y=false:=by simp
 have a:(true=false/\eqD y d0=false)↔False:=by simp
 unfold itE;rw [ab (λh=>h hc),ab (λh=>h.2 hy)];simp only [a,aB,jT]
theorem Ut (a b:Bool):(IntKind.wrap .i64 ((if a then (1:Int) else 0)*(if b then (1:Int) else 0))==0)=!(a&&b):=by cases a<;>cases b<;>rfl
theorem Jl {x y:TD} (r all:Bool) (hx:smT x) (hy:smT y):jx 20000000 x r y all=some (itE x r y all):=by
 have last:cond all (ob (ap10 (aN 20000000) x) λc=>(cond (c==0) (some 10) (some 0))) (some 0)=some (if all=true/\exT x=false then (10:Int) else 0):=by
  rw [reT hx];cases all
  ·rfl
  ·cases exT x<;>rfl
 unfold jx;simp only [last];simp only [rcT hx,rcT hy,tq hx,tq hy,rcoT,ob,Ut];by_cases hc:cF x=0
 ·rw [show (cF x != 0)=false from by simp [hc],af];cases r
  ·simp only [af,ij,ah];rw [Wl hc];generalize eqD y d0=z;cases z<;>rfl
  ·simp only [ah,cv,af];by_cases a:cF y=0
   ·rw [show (cF y != 0)=false from by simp [a],af];rw [UM hc a];unfold ordB;cases i:plT x
    ·simp
    cases g:plT y
    ·simp
    obtain ⟨j,h,k⟩:=BP.1 i;obtain ⟨e,f,l⟩:=BP.1 g;rw [rdT hx j h,rdT hy e f];simp only [u2,Bool.and_self,cv,af,nW,jT];by_cases b:coT x=coT y
    ·rw [b,am rfl];simp only [dA,af,nW];by_cases d:(dyT x).1<=(dyT y).1
     ·rw [show decide ((dyT x).1>(dyT y).1)=false from aq (by omega),am d];simp
     ·rw [show decide ((dyT x).1>(dyT y).1)=true from am (by omega),aq d];simp
    ·have:(((coT x:Nat):Int) != ((coT y:Nat):Int))=true:=by simp;omega
     rw [this,aq b];simp
   ·rw [show (cF y != 0)=true from by simp [a],ah];rw [Ri hc a]
 ·rw [show (cF x != 0)=true from by simp [hc],ah];rw [WS hc]
def sV {A:Type} (f:Nat->A->Int):Nat->List A->Option (Nat×Int)
 | _,[]=>none
 | i,t::r=>if f i t≠0 then some (i,f i t) else sV f (i+1) r
theorem zf {A X Y:Type} {step:X->Option (X⊕Y)} {st:Nat->X} {L:List A} {f:Nat->A->Int} {yes:Nat->Int->Y} {no:Y}
  (g:∀i t,L[i]?=some t->step (st i)=some (if f i t≠0 then .inr (yes i (f i t)) else .inl (st (i+1)))) (d:step (st L.length)=some (.inr no)):
  ∀(r i:Nat),i+r=L.length->∀N,r<N->ar step N (st i)=some (match sV f i (L.drop i) with | some p=>yes p.1 p.2 | none=>no):=by
 intro r
 induction r with
 | zero=>
  intro i hi N e;obtain ⟨N,rfl⟩:∃k,N=k+1:=⟨N - 1,by omega⟩;rw [ar,show i=L.length by omega,d,vB];rfl
 | succ r ih=>
  intro i hi N e;obtain ⟨N,rfl⟩:∃k,N=k+1:=⟨N - 1,by omega⟩;have a:i<L.length:=by omega
  have c:L[i]?=some L[i]:=be a;rw [ar,g i _ c,sJ a,sV];by_cases b:f i L[i]≠0
  ·rw [ae b,ae b]
  ·rw [ab b,ab b];exact ih (i+1) (by omega) N (by omega)
abbrev rT (t:TI):Bool:=(d8 t).2.2.1
abbrev iT (t:TI):TD:=(d8 t).2.2.2
def smI (t:TI):Prop:=smT (iF t)/\smT (iT t)
noncomputable def itI (t:TI) (all:Bool):Int:=itE (iF t) (rT t) (iT t) all
noncomputable def endB (t:TI):Bool:=!rT t&&plT (iF t)
noncomputable def errI (K:Int) (e l:Bool) (n i:Nat) (t:TI):Int:=
 if itI t (K==4)≠0 then itI t (K==4) else if (e&&decide (i=0))&&!endB t||((l&&decide (i+1=n))&&!endB t||(e&&(l&&decide (n=1)))) then 10 else 0
noncomputable def yD (K:Int) (e l:Bool) (L:List TI):Int×Int:=match sV (errI K e l L.length) 0 L with
 | some p=>((p.1:Int),p.2)
 | none=>(0,0)
theorem ru {i:Nat} (h:i<9223372036854775807):w64 ((i:Int)+1)=((i+1:Nat):Int):=by
 show IntKind.wrap .i64 _=_;rw [wrap_i64 _ (by omega) (by omega)];omega
theorem Fa {i:Nat} (a:0<i) (h:i<9223372036854775807):w64 ((i:Int) - 1)=((i - 1:Nat):Int):=by
 show IntKind.wrap .i64 _=_;rw [wrap_i64 _ (by omega) (by omega)];omega
theorem natB (a b:Nat):(((a:Nat):Int)==((b:Nat):Int))=decide (a=b):=by
 by_cases h:a=b
 ·subst h;simp
 ·rw [aq h];simp;omega
theorem Kp (a:Nat):(((a:Nat):Int)==0)=decide (a=0):=natB a 0
theorem VO {x y:TD} (r:Bool) (hx:smT x):om 20000000 x r y=some (!r&&plT x):=by
 unfold om;rw [BX hx];cases r<;>rfl
theorem MQ {K:Int} (m:K=3\/K=4) {e l:Bool} {L:List TI} {i:Nat} {t:TI} (hi:L[i]?=some t) (hs:smI t) (o:L.length<=1000000) (D:TD) (KF:Int) (DF:TD) (KT:Int) (DT:TD):
  gL 20000000 (itI t (K==4)) 10 10 10 (iF t) (rT t) (iT t) K D KF DF KT DT e l (i:Int) (w64 (len L - 1)) L=some (errI K e l L.length i t):=by
 have n:i<L.length:=(re.1 hi).1;have d:w64 (len L - 1)=((L.length - 1:Nat):Int):=Fa (by omega) (by omega);have g:gf 20000000 (iF t) (rT t) (iT t) K=some (itI t (K==4)):=by
  rw [E5 _ hs.1 hs.2,ae m];rfl
 unfold gL qf qb qs pW errI;rw [g,d];simp only [VO (rT t) hs.1,ob,Kp,natB];have k:decide (i=L.length - 1)=decide (i+1=L.length):=by congr 1;exact propext (by omega)
 have j:decide (L.length - 1=0)=decide (L.length=1):=by congr 1;exact propext (by omega)
 rw [k,j];show cond (itI t (K==4) != 0) _ _=_;by_cases f:itI t (K==4)=0
 ·rw [ab (λh=>h f),show (itI t (K==4) != 0)=false from by simp [f],af];show _=some (if ((e&&decide (i=0))&&!endB t||((l&&decide (i+1=L.length))&&!endB t||(e&&(l&&decide (L.length=1)))))=true then 10 else 0);unfold endB;generalize (!rT t&&plT (iF t))=z;generalize decide (i=0)=a;generalize decide (i+1=L.length)=b;generalize decide (L.length=1)=c;cases e<;>cases l<;>cases z<;>cases a<;>cases b<;>cases c<;>rfl
 ·rw [ae f,show (itI t (K==4) != 0)=true from by simp [f],ah]
theorem PN {K:Int} (g:K=3\/K=4) {e l:Bool} {L:List TI} (hs:∀t∈L,smI t) (j:L.length<=1000000) (D:TD) (KF:Int) (DF:TD) (KT:Int) (DT:TD):
  mf 20000000 K D KF DF KT DT e l L=some (yD K e l L):=by
 have:=zf (step:=fF 20000000) (st:=λi=>(len L,(i:Int),L,K,D,KF,DF,KT,DT,e,l,w64 (len L - 1))) (L:=L) (f:=errI K e l L.length) (yes:=λi q=>.inl ((i:Int),q)) (no:=.inr ())
  (λi t hi=>by
   have c:i<L.length:=(re.1 hi).1;have a:=hs t (gB hi);have d:gf 20000000 (iF t) (rT t) (iT t) K=some (itI t (K==4)):=by
    rw [E5 _ a.1 a.2,ae g];rfl
   unfold fF;simp only [u12,u11,u10,u9,u8,u7,u6,u5,u4,u3,u2];rw [am (show (i:Int)<len L by unfold len;omega),eG c];simp only [ah,ob,hi];rw [show gf 20000000 (iF t) (d8 t).2.2.1 (d8 t).2.2.2 K=some (itI t (K==4)) from d];simp only;rw [show gL 20000000 (itI t (K==4)) 10 10 10 (iF t) (d8 t).2.2.1 (d8 t).2.2.2 K D KF DF KT DT e l (i:Int) (w64 (len L - 1)) L=some (errI K e l L.length i t) from MQ g hi a j D KF DF KT DT];simp only;rw [ru (by omega)];by_cases b:errI K e l L.length i t=0
   ·rw [ab (λh=>h b),show (errI K e l L.length i t != 0)=false from by simp [b]];rfl
   ·rw [ae b,show (errI K e l L.length i t != 0)=true from by simp [b]];rfl)
  (by
   unfold fF;simp only [u12,u11,u10,u9,u8,u7,u6,u5,u4,u3,u2];rw [aq (show ¬((L.length:Nat):Int)<len L by unfold len;omega)];rfl)
  L.length 0 (by omega) 20000000 (by omega)
 unfold mf yD;rw [cf] at this;show obs (ar (fF 20000000) 20000000 (len L,((0:Nat):Int),L,K,D,KF,DF,KT,DT,e,l,w64 (len L - 1))) _ _=_;rw [this];cases sV (errI K e l L.length) 0 L<;>rfl
noncomputable def sD (K:Int) (x:TD):Int:=chkB K x.1 x.2.1 x.2.2.1 x.2.2.2.1 x.2.2.2.2.1 x.2.2.2.2.2.1 x.2.2.2.2.2.2.1 x.2.2.2.2.2.2.2.1 x.2.2.2.2.2.2.2.2.1 x.2.2.2.2.2.2.2.2.2
noncomputable def ot (K:Int) (x:TD) (a:Int) (y:TD):Int:=EW (sD K x) (sD a y) K a (dyT x).1 (dyT y).2
theorem L2 {x y:TD} (hx:smT x) (hy:smT y) (K a:Int):ap10 (ap10 (iU 20000000 K) x a) y=some (ot K x a y):=
 TS hx.1 hx.2.1 hx.2.2.1 hx.2.2.2.1 hx.2.2.2.2.1 hx.2.2.2.2.2 hy.1 hy.2.1 hy.2.2.1 hy.2.2.2.1 hy.2.2.2.2.1 hy.2.2.2.2.2
theorem KR {x y:TD} (hx:smT x) (hy:smT y) (K a:Int):ap10 (ap10 (eS 20000000 K) x a) y=some (ot K x a y):=
 OQ hx.1 hx.2.1 hx.2.2.1 hx.2.2.2.1 hx.2.2.2.2.1 hx.2.2.2.2.2 hy.1 hy.2.1 hy.2.2.1 hy.2.2.2.1 hy.2.2.2.2.1 hy.2.2.2.2.2
def unuB (K:Int) (D:TD) (KF:Int) (DF:TD) (KT:Int) (DT:TD) (e l:Bool) (n:Nat):Bool:=
 !(K==1||eqD D d0)||(!(K==2||((KF==0)&&((eqD DF d0)&&true))&&((KT==0)&&((eqD DT d0)&&true)))||!(K==3||(K==4||(decide (n=0)&&(!e&&!l)))))
theorem Og (n:Nat) (K:Int) (D:TD) (KF:Int) (DF:TD) (KT:Int) (DT:TD) (e l:Bool) (L:List TI):
  mC n K D KF DF KT DT e l L=some (unuB K D KF DF KT DT e l L.length):=by
 unfold mC unuB;rw [show (len L==0)=decide (L.length=0) from Kp _];generalize eqD D d0=b;generalize ((KF==0)&&((eqD DF d0)&&true))=z1;generalize ((KT==0)&&((eqD DT d0)&&true))=z2;generalize decide (L.length=0)=c;generalize (K==1)=k1;generalize (K==2)=k2;generalize (K==3)=a;generalize (K==4)=k4;revert b z1 z2 c k1 k2 a k4 e l;decide +kernel
noncomputable def ia (K:Int) (D:TD) (KF:Int) (DF:TD) (KT:Int) (DT:TD) (e l:Bool) (L:List TI):Int×Int:=
 if K<1\/4<K then (0,18) else if unuB K D KF DF KT DT e l L.length=true then (0,5) else if K=1 then (0,cF D) else if K=2 then (0,ot KF DF KT DT) else if L.length=0 then (0,17) else if 256<L.length then (0,3) else yD K e l L
def smE (D DF DT:TD) (L:List TI):Prop:=smT D/\smT DF/\smT DT/\∀t∈L,smI t
theorem GT {K:Int} {D:TD} {KF:Int} {DF:TD} {KT:Int} {DT:TD} {e l:Bool} {L:List TI} (h:smE D DF DT L):
  mb 20000000 K D KF DF KT DT e l L=some (ia K D KF DF KT DT e l L):=by
 obtain ⟨j,f,g,i⟩:=h;unfold mb ia;by_cases a:K<1
 ·rw [am a,ae (.inl a)];rfl
 by_cases c:4<K
 ·rw [aq a,show decide (K>4)=true from am c,ae (.inr c)];rfl
 rw [aq a,show decide (K>4)=false from aq c,ab (by omega),Og];simp only [af,ob];cases unuB K D KF DF KT DT e l L.length
 ·simp only [af,br,aB];by_cases k1:K=1
  ·rw [ae k1,show (K==1)=true from by simp [k1],fcT j];rfl
  by_cases k2:K=2
  ·rw [ab k1,ae k2,show (K==1)=false from by simp [k1],show (K==2)=true from by simp [k2],L2 f g];rfl
  rw [ab k1,ab k2,show (K==1)=false from by simp [k1],show (K==2)=false from by simp [k2]];simp only [af];rw [show (len L==0)=decide (L.length=0) from Kp _];by_cases b:L.length=0
  ·rw [am b,ae b];rfl
  rw [aq b,ab b];by_cases d:256<L.length
  ·rw [show decide (len L>256)=true from am (by show (256:Int)<((L.length:Nat):Int);omega),ae d];rfl
  rw [show decide (len L>256)=false from aq (by show ¬(256:Int)<((L.length:Nat):Int);omega),ab d,PN (by omega) i (by omega)];rfl
 ·rfl
theorem S1 (n:Nat) (i:Int) (L:List TI) (K:Int) (D:TD) (KF:Int) (DF:TD) (KT:Int) (DT:TD) (e l:Bool) (x:TD) (r:Bool) (y:TD):
  gQ n i L K D KF DF KT DT e l x r y=some (i,e&&(i==0),l&&(i==w64 (len L - 1)),L,K,D,KF,DF,KT,DT,e,l,x,r,y):=by
 unfold gQ;cases e<;>cases l<;>rfl
theorem TL (i:Int) (a b:Bool) (L:List TI) (K:Int) (D:TD) (KF:Int) (DF:TD) (KT:Int) (DT:TD) (e l:Bool) (x:TD) (r:Bool) (y:TD) (hx:smT x):
  gW 20000000 i a b L K D KF DF KT DT e l x r y=some (i,(a&&b)||((a||b)&&(r||!plT x)),L,K,D,KF,DF,KT,DT,e,l):=by
 unfold gW;rw [tq hx];cases a<;>cases b<;>cases r<;>cases plT x<;>rfl
theorem Lo {K:Int} (w:K=3\/K=4) {e l:Bool} {L:List TI} (hs:∀t∈L,smI t) (x:L.length<=1000000) (D:TD) (KF:Int) (DF:TD) (KT:Int) (DT:TD):
  ar (eF 20000000) 20000000 (0,L,K,D,KF,DF,KT,DT,e,l)=some (match sV (errI K e l L.length) 0 L with | some p=>.inl ((p.1:Int),p.2) | none=>.inr ()):=by
 have:=zf (step:=eF 20000000) (st:=λi=>((i:Int),L,K,D,KF,DF,KT,DT,e,l)) (L:=L) (f:=errI K e l L.length) (yes:=λi q=>.inl ((i:Int),q)) (no:=.inr ())
  (λi t hi=>by
   have m:i<L.length:=(re.1 hi).1;have d:=hs t (gB hi);have n:jx 20000000 (iF t) (d8 t).2.2.1 (d8 t).2.2.2 (K==4)=some (itI t (K==4)):=Jl _ _ d.1 d.2;have g:w64 (len L - 1)=((L.length - 1:Nat):Int):=Fa (by omega) (by omega);unfold eF;simp only [u15,u14,u13,u12,u11,u10,u9,u8,u7,u6,u5,u4,u3,u2];rw [am (show (i:Int)<len L by unfold len;omega),eG m];simp only [ah,ob,hi,n];by_cases k:itI t (K==4)=0
   ·rw [show (itI t (K==4) != 0)=false from by simp [k],af];simp only [S1,g,Kp,natB,u15,u14,u13,u12,u11,u10,u9,u8,u7,u6,u5,u4,u3,u2];rw [TL _ _ _ _ _ _ _ _ _ _ _ _ _ _ _ d.1];simp only [u11,u10,u9,u8,u7,u6,u5,u4,u3,u2];have s:decide (i=L.length - 1)=decide (i+1=L.length):=by congr 1;exact propext (by omega)
    have o:(decide (i=0)&&decide (i+1=L.length))=(decide (L.length=1)&&decide (i=0)):=by
     by_cases j:i=0
     ·subst j;rw [am rfl,nW,D1];congr 1;exact propext (by omega)
     ·rw [aq j,yH];rfl
    have v:decide (L.length=1)=true->decide (i=0)=true:=λh=>am (by have:=of_decide_eq_true h;omega);have u:errI K e l L.length i t=if ((e&&decide (i=0))&&(l&&decide (i+1=L.length)))||(((e&&decide (i=0))||(l&&decide (i+1=L.length)))&&(rT t||!plT (iF t))) then 10 else 0:=by
     unfold errI endB;rw [k,ab (λh=>h rfl)];congr 1;revert o v;generalize rT t=r;generalize plT (iF t)=z;generalize decide (i=0)=a;generalize decide (i+1=L.length)=b;generalize decide (L.length=1)=c;cases e<;>cases l<;>cases z<;>cases r<;>cases a<;>cases b<;>cases c<;>simp
    rw [s,ru (by omega),u];generalize (((e&&decide (i=0))&&(l&&decide (i+1=L.length)))||(((e&&decide (i=0))||(l&&decide (i+1=L.length)))&&(rT t||!plT (iF t))))=z;cases z<;>rfl
   ·have:errI K e l L.length i t=itI t (K==4):=ae k;rw [show (itI t (K==4) != 0)=true from by simp [k],ah,this,ae k])
  (by
   unfold eF;simp only [u15,u14,u13,u12,u11,u10,u9,u8,u7,u6,u5,u4,u3,u2];rw [aq (show ¬((L.length:Nat):Int)<len L by unfold len;omega)];rfl)
  L.length 0 (by omega) 20000000 (by omega)
 rw [cf] at this;exact this
theorem FB {K:Int} {D:TD} {KF:Int} {DF:TD} {KT:Int} {DT:TD} {e l:Bool} {L:List TI} (h:smE D DF DT L):
  gg 20000000 K D KF DF KT DT e l L=some (ia K D KF DF KT DT e l L):=by
 obtain ⟨p,i,k,o⟩:=h;have j3:iw 20000000 L K D KF DF KT DT e l=some (K==3||K==4,L,K,D,KF,DF,KT,DT,e,l):=by
  unfold iw;cases (K==3)<;>rfl
 have j4:iS 20000000 (K==3||K==4) L K D KF DF KT DT e l=some (K==3||K==4,!(K==1)&&(!(K==2)&&!(K==3||K==4)),L,K,D,KF,DF,KT,DT,e,l):=by
  unfold iS;rw [show (K != 1)=!(K==1) from rfl,show (K != 2)=!(K==2) from rfl];cases (K==1)<;>cases (K==2)<;>rfl
 have j7:iE 20000000 (K==3||K==4) L K D KF DF KT DT e l=some (unuB K D KF DF KT DT e l L.length,L,K,D,KF,DF,KT,DT,e,l):=by
  unfold iE unuB;have a:decide (len L>0)=!decide (L.length=0):=by
   by_cases g:L.length=0
   ·rw [am g,aq (by unfold len;omega)];rfl
   ·rw [aq g,am (by unfold len;omega)];rfl
  rw [show (K != 1)=!(K==1) from rfl,show (K != 2)=!(K==2) from rfl,a];generalize eqD D d0=n;generalize ((KF==0)&&((eqD DF d0)&&true))=z1;generalize ((KT==0)&&((eqD DT d0)&&true))=z2;generalize decide (L.length=0)=m;generalize (K==1)=k1;generalize (K==2)=k2;generalize (K==3)=j;generalize (K==4)=k4;cases n<;>cases z1<;>cases z2<;>cases m<;>cases k1<;>cases k2<;>cases j<;>cases k4<;>cases e<;>cases l<;>rfl
 unfold gg ia;rw [j3];simp only [ob,u11,u10,u9,u8,u7,u6,u5,u4,u3,u2,j4];by_cases d:K<1\/4<K
 ·rw [ae d,show (K==1)=false from by simp;omega,show (K==2)=false from by simp;omega,show (K==3)=false from by simp;omega,show (K==4)=false from by simp;omega];rfl
 have c:(!(K==1)&&(!(K==2)&&!(K==3||K==4)))=false:=by
  rcases (by omega:K=1\/K=2\/K=3\/K=4) with rfl | rfl | rfl | rfl<;>rfl
 rw [ab d,c];simp only [af,j7];cases unuB K D KF DF KT DT e l L.length
 ·simp only [af,br,aB];by_cases k1:K=1
  ·rw [ae k1,show (K==1)=true from by simp [k1],rcT p];rfl
  by_cases k2:K=2
  ·rw [ab k1,ae k2,show (K==1)=false from by simp [k1],show (K==2)=true from by simp [k2],KR i k];rfl
  rw [ab k1,ab k2,show (K==1)=false from by simp [k1],show (K==2)=false from by simp [k2]];simp only [af];rw [show (len L==0)=decide (L.length=0) from Kp _];by_cases b:L.length=0
  ·rw [am b,ae b];rfl
  rw [aq b,ab b];by_cases f:256<L.length
  ·rw [show decide (len L>256)=true from am (by show (256:Int)<((L.length:Nat):Int);omega),ae f];rfl
  rw [show decide (len L>256)=false from aq (by show ¬(256:Int)<((L.length:Nat):Int);omega),ab f,af,af,Lo (by omega) o (by omega)];unfold yD;cases sV (errI K e l L.length) 0 L<;>rfl
 ·rfl
theorem Hz {K:Int} {D:TD} {KF:Int} {DF:TD} {KT:Int} {DT:TD} {e l:Bool} {L:List TI} (h:smE D DF DT L):
  iM 20000000 K D KF DF KT DT e l L=some (ia K D KF DF KT DT e l L).2:=by
 unfold iM;rw [GT h];rfl
structure RightE (k:Int) (D:TD) (KF:Int) (DF:TD) (KT:Int) (DT:TD) (e l:Bool) (I:List TI):Prop where
 sm:smE D DF DT I
 first:ia k D KF DF KT DT e l I=(0,0)
 len:I.length<=5
 kind:1<=k/\k<=4
 its:∀t∈I,itI t (k==4)=0
theorem Ec {x:TD} (hs:smT x) (hc:cF x=0):RightE 1 x 0 d0 0 d0 false false []:=by
 refine ⟨⟨hs,nS,nS,λt a=>by cases a⟩,?_,by simp,by omega,by simp⟩;have b:eqD d0 d0=true:=oI.2 rfl;have c:unuB 1 x 0 d0 0 d0 false false ([]:List TI).length=false:=by unfold unuB;rw [b];rfl
 unfold ia;rw [ab (by omega),ab (by rw [c];simp),ae rfl,hc]
theorem yT {KF KT:Int} {x y:TD} (hx:smT x) (hy:smT y) (h:ot KF x KT y=0):RightE 2 d0 KF x KT y false false []:=by
 refine ⟨⟨nS,hx,hy,λt a=>by cases a⟩,?_,by simp,by omega,by simp⟩;have b:eqD d0 d0=true:=oI.2 rfl;have c:unuB 2 d0 KF x KT y false false ([]:List TI).length=false:=by unfold unuB;rw [b];rfl
 unfold ia;rw [ab (by omega),ab (by rw [c];simp),ab (by omega),ae rfl,h]
theorem E6 (x:TD):sD 1 x=if cF x=0 then if exT x=true then 0 else 11 else cF x:=by
 unfold sD chkB;rw [ae rfl];rfl
theorem Fj {x:TD} (h:sD 1 x=0):cF x=0/\exT x=true:=by
 rw [E6] at h;by_cases hc:cF x=0
 ·rw [ae hc] at h;by_cases a:exT x=true
  ·exact ⟨hc,a⟩
  ·rw [ab a] at h;cases h
 ·rw [ab hc] at h;exact absurd h hc
theorem BH {x:TD} (hc:cF x=0) (a:exT x=true):sD 1 x=0:=by
 rw [E6,ae hc,ae a]
theorem Jy {KF KT:Int} {x y:TD} (b:sD KF x=0) (a:sD KT y=0):ot KF x KT y=if KF≠1/\KT≠1 then 11 else if KF≠1\/KT≠1 then 0 else if (dyT x).1>(dyT y).2 then 11 else 0:=by
 unfold ot EW;rw [b,a,ab (λh=>h rfl),ab (λh=>h rfl)]
noncomputable instance decTI:DecidableEq TI:=λa b=>Classical.propDecidable (a=b)
theorem Bn (n:Nat) (t S R:aa) (a:Int) (p:t.length<4611686018427387904) (q:t.length<n):
  ar (ee n) n (t,0,R,S,a)=some (((lcp R t:Nat):Int),S,a):=by
 have:=fO (step:=ee n)
  (λx=>∃j:Nat,j<=t.length/\x=(t,(j:Int),R,S,a)) (λx=>t.length - x.2.1.toNat)
  (λx=>(((x.2.1.toNat+lcp (R.drop x.2.1.toNat) (t.drop x.2.1.toNat):Nat):Int),S,a)) ?_ n (t,0,R,S,a) ⟨0,by omega,rfl⟩ (by simp;omega)
 ·simpa using this
 rintro x ⟨j,o,rfl⟩;simp only [cb,ee,RQ];by_cases g:j<t.length/\j<R.length
 ·obtain ⟨h,m⟩:=g;obtain ⟨c,hc⟩:∃c,t[j]?=some c:=⟨t[j],be h⟩;obtain ⟨d,i⟩:∃d,R[j]?=some d:=⟨R[j],be m⟩;have e:IntKind.wrap .i64 ((j:Int)+1)=((j+1:Nat):Int):=by rw [wrap_i64 _ (by omega) (by omega)];omega
  have f:(decide ((j:Int)<((min t.length R.length:Nat):Int)))=true:=by simp only [ck];omega
  have b:(decide ((j:Int)<((min R.length t.length:Nat):Int)))=true:=by simp only [ck];omega
  simp only [f,b,ah,dI hc,dI i,ob,oa,bS hc,bS i,lcp];cases k:d==c with
  | true=>
   refine .inl ⟨_,rfl,⟨j+1,by omega,by rw [e]⟩,?_,?_⟩
   ·simp only [e,cb];omega
   ·simp only [e,cb,aY,wB,aJ];omega
  | false=>exact .inr (by simp)
 ·have f:(decide ((j:Int)<((min t.length R.length:Nat):Int)))=false:=by simp only [uU];omega
  have b:(decide ((j:Int)<((min R.length t.length:Nat):Int)))=false:=by simp only [uU];omega
  refine .inr ?_;have l:lcp (R.drop j) (t.drop j)=0:=by
   by_cases h:j<t.length
   ·rw [jr (show R.length<=j by omega)];rfl
   ·rw [jr (show t.length<=j by omega)];cases R.drop j<;>rfl
  simp only [f,b,l,af,cS]
theorem Ah (n:Nat) (t S:aa) (a:Nat) (h:a<=S.length) (f:S.length<4611686018427387904) (b:t.length<4611686018427387904) (e:t.length<n):
  bX n t S (a:Int)=some (if (S.drop a).take t.length=t then .inl (S,((a+t.length:Nat):Int)) else .inr (((a+lcp (S.drop a) t:Nat):Int),5,S,(a:Int))):=by
 have c:=wS (S.drop a) t;rw [bL] at c;simp only [bX,ng n t S a h f,ob];by_cases hp:(S.drop a).take t.length=t
 ·simp [hp]
 ·have d:IntKind.wrap .i64 ((a:Int)+((lcp (S.drop a) t:Nat):Int))=((a+lcp (S.drop a) t:Nat):Int):=by rw [wrap_i64 _ (by omega) (by omega)];omega
  simp only [hp,aB,af,uf n S a h,Bn n t S (S.drop a) (a:Int) b e,CL,d,wa];simp
def tdR (r:DR):TD:=(r.1,r.2.1,r.2.2.1,(r.2.2.2.1:Int),(r.2.2.2.2.1:Int),r.2.2.2.2.2.1,r.2.2.2.2.2.2.1,(r.2.2.2.2.2.2.2.1.1:Int),(r.2.2.2.2.2.2.2.1.2.1:Int),(r.2.2.2.2.2.2.2.1.2.2:Int))
theorem iQ {S:aa} {a:Nat} (h:a<=S.length) {r:DR} (c:ct S a=.inr r):smT (tdR r)/\cF (tdR r)=0/\a<=enR r/\enR r<=S.length:=by
 obtain ⟨f,b⟩:=Gm h c;obtain ⟨g,l,dg,x,s,m,d,M,P,e⟩:=r;have ok:=AQ h f;have:=ok.dg17;have:=ok.m2;have:=ok.d2;refine ⟨⟨by show m.length<=18;omega,by show dg.length<=100;omega,by show d.length<=18;omega,by show (0:Int)<=(M.1:Int);omega,by show (0:Int)<=(M.2.1:Int);omega,by show (0:Int)<=(M.2.2:Int);omega⟩,?_,ok.le,ok.end_⟩;have hc:=uF (g:=g) (l:=l) (dg:=dg) (x:=(x:Int)) (q:=(s:Int)) (m:=m) (d:=d) (k0:=(M.1:Int)) (k1:=(M.2.1:Int)) (k2:=(M.2.2:Int)) (xo ok.all);unfold chkR at b;simp only [] at b;show chkF g l dg (x:Int) (s:Int) m d (M.1:Int) (M.2.1:Int) (M.2.2:Int)=0;omega
def dts (l:aa):Bool:=l.take 2==[46,46]
theorem vp {l:aa}:dts l=true↔∃r,l=46::46::r:=by
 unfold dts;rw [bG];constructor
 ·exact IC
 ·rintro ⟨r,rfl⟩;rfl
theorem kZ {S:aa} {p:Nat} (h:dts (S.drop p)=true):p+2<=S.length:=by
 obtain ⟨r,a⟩:=vp.1 h;have:=bY List.length a;simp at this;omega
noncomputable def lM (S:aa) (b:UInt8) (p:Nat):(Nat×Nat×Nat)⊕(TI×Nat×Nat):=
 match ct S p with
 | .inl f=>.inl f
 | .inr r=>if dts (S.drop (enR r))=true/\(S.drop (enR r+2)).head?≠some b then
   match ct S (enR r+2) with
   | .inl f=>.inl f
   | .inr a=>.inr (mkI (tdR r) true (tdR a),plR r,enR a)
  else .inr (mkI (tdR r) false d0,plR r,enR r)
theorem ut {S:aa} {j:UInt8} {p:Nat} (h:p<=S.length) {t:TI} {a c:Nat} (b:lM S j p=.inr (t,a,c)):smI t/\p<=c/\c<=S.length:=by
 unfold lM at b;cases e:ct S p with
 | inl f=>rw [e] at b;cases b
 | inr r=>
  obtain ⟨g,_,k,l⟩:=iQ h e;rw [e] at b;simp only [] at b;split at b
  ·rename_i m;have:=kZ m.1;cases d:ct S (enR r+2) with
   | inl f=>rw [d] at b;cases b
   | inr o=>
    obtain ⟨n,_,l3,i⟩:=iQ (by omega) d;rw [d] at b;cases b;exact ⟨⟨g,n⟩,by omega,i⟩
  ·cases b;exact ⟨⟨g,nS⟩,k,l⟩
noncomputable def kO (S:aa) (c:UInt8):Nat->Nat->List Nat->List TI->(Nat×Nat×Nat)⊕(Nat×List Nat×List TI)
 | 0,p,_,_=>.inl (p,3,p)
 | r+1,p,P,I=>match lM S c p with
  | .inl f=>.inl f
  | .inr (t,a,b)=>if (S.drop b).head?=some 44 then kO S c r (b+1) (P++[a]) (I++[t]) else .inr (b,P++[a],I++[t])
theorem dV {S:aa} {p:Nat} {c:UInt8} (h:(S.drop p).head?=some c):p+1<=S.length:=by
 cases b:S.drop p with
 | nil=>rw [b] at h;cases h
 | cons a r=>
  have:=bY List.length b;simp at this;omega
theorem ue {S:aa} {i:UInt8}:∀(r p:Nat) (P:List Nat) (I:List TI),p<=S.length->P.length=I.length->(∀t∈I,smI t)->∀{d:Nat} {c:List Nat} {b:List TI},kO S i r p P I=.inr (d,c,b)->
  d<=S.length/\c.length=b.length/\I.length<b.length/\b.length<=I.length+r/\(∀t∈b,smI t)
 | 0,p,P,I,_,_,_,d,c,b,e=>by cases e
 | r+1,p,P,I,h,j,hs,d,c,b,e=>by
  rw [kO] at e;cases g:lM S i p with
  | inl f=>rw [g] at e;cases e
  | inr q=>
   obtain ⟨t,a,o⟩:=q;obtain ⟨l,z,w⟩:=ut h g;rw [g] at e;simp only [] at e;have hs':∀u∈I++[t],smI u:=λu s=>by
    rcases oq.1 s with h | h
    ·exact hs u h
    ·rw [wM.1 h];exact l
   split at e
   ·rename_i k;obtain ⟨m,x,n,v,y⟩:=ue r (o+1) (P++[a]) (I++[t]) (dV k) (by simp [j]) hs' e;rw [aU,Br] at n v;exact ⟨m,x,by omega,by omega,y⟩
   ·cases e;exact ⟨w,by simp [j],by simp,by simp,hs'⟩
theorem dts3 (S:aa) (p:Nat) (c:UInt8):((S.drop p).take [46,46,c].length==[46,46,c])=(dts (S.drop p)&&decide ((S.drop (p+2)).head?=some c)):=by
 rw [<-jp];generalize S.drop p=l;unfold dts
 match l with
 | []=>rfl
 | [a]=>simp
 | [a,b]=>simp
 | a::b::d::r=>
  rw [tN];simp [and_assoc]
def endC (K:Int):UInt8:=if K=4 then 125 else 93
theorem yL {K:Int} (a:K=3\/K=4) (n:Nat):eK n K=some ([if K=4 then 123 else 91],[endC K]):=by
 rcases a with rfl | rfl<;>rfl
theorem WO (c:UInt8) {S:aa} {p:Nat} (h:p<=S.length) (g b:Int) (d:Bool) (i:List Int) (f:TD) (e a:List TI):
  mi 20000000 [c] g S (p:Int) b d i f e a=some ([c],g,dts (S.drop p)&&!decide ((S.drop (p+2)).head?=some c),S,(p:Int),b,d,i,f,e,a):=by
 unfold mi;rw [KQ _ _ _ _ h];have hc:cat [46,46] [c]=some [46,46,c]:=rfl;simp only [ob,hc,KQ _ _ _ _ h,dts3];show cond (dts (S.drop p)) _ _=_;cases j:dts (S.drop p)
 ·rfl
 ·cases decide ((S.drop (p+2)).head?=some c)<;>rfl
theorem tk1 (l:aa) (c:UInt8):l.take [c].length=[c]↔l.head?=some c:=by
 cases l<;>simp
theorem Dk (S:aa) (r:DR):UZ S (.inr r)=.inr ((tdR r).1,(tdR r).2.1,(tdR r).2.2.1,(tdR r).2.2.2.1,(tdR r).2.2.2.2.1,(tdR r).2.2.2.2.2.1,(tdR r).2.2.2.2.2.2.1,(tdR r).2.2.2.2.2.2.2.1,(tdR r).2.2.2.2.2.2.2.2.1,(tdR r).2.2.2.2.2.2.2.2.2,((plR r:Nat):Int),S,((enR r:Nat):Int)):=rfl
theorem Wh (b:Bool) (c:UInt8) {S:aa} {p:Nat} (h:p<=S.length) (s:S.length<100000) (n:b=true->dts (S.drop p)=true) (d g:Int) (k:Bool) (i:List Int) (j:TD) (e a:List TI):
  mq 20000000 [c] d b S (p:Int) g k i j e a=some (if b=true then (match ct S (p+2) with
   | .inl f=>.inl ((f.1:Int),(f.2.1:Int),S,(f.2.2:Int))
   | .inr r=>.inr ([c],d,S,((enR r:Nat):Int),g,k,i,j,true,tdR r,e,a)) else .inr ([c],d,S,(p:Int),g,k,i,j,false,d0,e,a)):=by
 unfold mq;cases b
 ·rfl
 ·have l:=n rfl;have q:=kZ l;have m:(S.drop p).take [(46:UInt8),46].length=[46,46]:=by
   obtain ⟨r,o⟩:=vp.1 l;rw [o];rfl
  rw [ah,Ah _ _ _ _ h (by omega) (by simp) (by simp),ae m,ae rfl];show obs (iK 20000000 S ((p+2:Nat):Int)) _ _=_;rw [Fe S (p+2) q s];cases ct S (p+2) with
  | inl f=>rfl
  | inr r=>rfl
theorem qN {α:Type} {I:List α} (h:I.length<=256):Nat.ble (I.length+1) gP=true:=di (by unfold gP;omega)
abbrev io (P:List Nat):List Int:=P.map λk:Nat=>(k:Int)
theorem RI (c:UInt8) {S:aa} {p:Nat} (h:p<=S.length) (u:S.length<100000) (K:Int) (e:Bool) {P:List Nat} (J:List TI) {I:List TI} (A:I.length<256) (D:P.length=I.length):
  fq 20000000 ([c],S,(p:Int),K,e,io P,J,I)=some (match lM S c p with
   | .inl f=>.inr (.inl ((f.1:Int),(f.2.1:Int),S,(f.2.2:Int)))
   | .inr (t,a,b)=>if (S.drop b).head?=some 44 then .inl ([c],S,((b+1:Nat):Int),K,e,io (P++[a]),J,I++[t])
    else .inr (.inr ([c],S,((if dts (S.drop b) then b+2 else b:Nat):Int),0,d0,0,d0,0,d0,false,false,K,d0,0,d0,0,d0,e,dts (S.drop b),io (P++[a]),J,I++[t]))):=by
 have l:∀(t:TI) (a b:Nat),b<=S.length->(ob (aC 20000000 [44] S (b:Int)) (u3 λn j k=>(cond n (some (.inl ([c],j,k,K,e,(io P++([(a:Int)]:List (Int))),J,(I++([t]:List TI))))) (ob (aC 20000000 [46,46] j k) (u3 λq i g=>(cond q (some (.inr (.inr ([c],i,g,0,d0,0,d0,0,d0,false,false,K,d0,0,d0,0,d0,e,true,(io P++([(a:Int)]:List (Int))),J,(I++([t]:List TI)))))) (some (.inr (.inr ([c],i,g,0,d0,0,d0,0,d0,false,false,K,d0,0,d0,0,d0,e,false,(io P++([(a:Int)]:List (Int))),J,(I++([t]:List TI))))))))))):Option ((aa×aa×Int×Int×Bool×List (Int)×List TI×List TI)⊕((Int×Int×aa×Int)⊕(aa×aa×Int×Int×TD×Int×TD×Int×TD×Bool×Bool×Int×TD×Int×TD×Int×TD×Bool×Bool×List (Int)×List TI×List TI)))) =
   some (if (S.drop b).head?=some 44 then .inl ([c],S,((b+1:Nat):Int),K,e,io (P++[a]),J,I++[t])
    else .inr (.inr ([c],S,((if dts (S.drop b) then b+2 else b:Nat):Int),0,d0,0,d0,0,d0,false,false,K,d0,0,d0,0,d0,e,dts (S.drop b),io (P++[a]),J,I++[t]))):=by
  intro t a b m;have z:io (P++[a])=io P++[(a:Int)]:=by simp [io]
  rw [ng _ _ _ _ m (by omega),z];simp only [ob,u3,u2,tk1];by_cases hc:(S.drop b).head?=some 44
  ·rw [ae hc,ae hc];rfl
  ·rw [ab hc,ab hc];simp only [af];rw [ng _ _ _ _ m (by omega)];cases d:dts (S.drop b)
   ·rw [ab (show ¬(S.drop b).take [(46:UInt8),46].length=[46,46] from λh=>by unfold dts at d;rw [show (S.drop b).take 2=[46,46] from h] at d;cases d)];rfl
   ·rw [ae (show (S.drop b).take [(46:UInt8),46].length=[46,46] from eq_of_beq d)];rfl
 unfold fq;simp only [u8,u7,u6,u5,u4,u3,u2];rw [show (len I==256)=false from by show (((I.length:Nat):Int)==256)=false;simp;omega,af,Fe S p h u];unfold lM;cases x:ct S p with
 | inl f=>rfl
 | inr r=>
  obtain ⟨B,_,C,o⟩:=iQ h x;rw [Dk];simp only [obs,sm,ob];rw [show (d4 (d8 ((tdR r).1,(tdR r).2.1,(tdR r).2.2.1,(tdR r).2.2.2.1,(tdR r).2.2.2.2.1,(tdR r).2.2.2.2.2.1,(tdR r).2.2.2.2.2.2.1,(tdR r).2.2.2.2.2.2.2.1,(tdR r).2.2.2.2.2.2.2.2.1,(tdR r).2.2.2.2.2.2.2.2.2,((plR r:Nat):Int),S,((enR r:Nat):Int))))=((enR r:Nat):Int) from rfl,WO c o];simp only [u11,u10,u9,u8,u7,u6,u5,u4,u3,u2];rw [Wh _ c o u (λh=>by simp at h;exact h.1)];have s:(dts (S.drop (enR r))&&!decide ((S.drop (enR r+2)).head?=some c))=true↔(dts (S.drop (enR r))=true/\(S.drop (enR r+2)).head?≠some c):=by simp
  by_cases d:dts (S.drop (enR r))=true/\(S.drop (enR r+2)).head?≠some c
  ·rw [ae (s.2 d),ae d];cases y:ct S (enR r+2) with
   | inl f=>rfl
   | inr v=>
    obtain ⟨E,_,l3,w⟩:=iQ (kZ d.1) y;simp only [u12,u11,u10,u9,u8,u7,u6,u5,u4,u3,u2];rw [qN (by omega),qN (by simp;omega)];exact l (mkI (tdR r) true (tdR v)) (plR r) (enR v) w
  ·rw [ab (λh=>d (s.1 h)),ab d];simp only [u12,u11,u10,u9,u8,u7,u6,u5,u4,u3,u2];rw [qN (by omega),qN (by simp;omega)];exact l (mkI (tdR r) false d0) (plR r) (enR r) o
theorem R1 (c:UInt8) (S:aa) (p K:Int) (e:Bool) (P:List Int) (J:List TI) {I:List TI} (a:I.length=256):
  fq 20000000 ([c],S,p,K,e,P,J,I)=some (.inr (.inl (p,3,S,p))):=by
 unfold fq;simp only [u8,u7,u6,u5,u4,u3,u2];rw [show (len I==256)=true from by show (((I.length:Nat):Int)==256)=true;rw [a];rfl];rfl
def Xw (S:aa) (c:UInt8) (K:Int) (e:Bool) (J:List TI):(Nat×Nat×Nat)⊕(Nat×List Nat×List TI)->(Int×Int×aa×Int)⊕(aa×aa×Int×Int×TD×Int×TD×Int×TD×Bool×Bool×Int×TD×Int×TD×Int×TD×Bool×Bool×List (Int)×List TI×List TI)
 | .inl f=>.inl ((f.1:Int),(f.2.1:Int),S,(f.2.2:Int))
 | .inr (p,P,I)=>.inr ([c],S,((if dts (S.drop p) then p+2 else p:Nat):Int),0,d0,0,d0,0,d0,false,false,K,d0,0,d0,0,d0,e,dts (S.drop p),io P,J,I)
theorem Sr (c:UInt8) {S:aa} (j:S.length<100000) (K:Int) (e:Bool) (J:List TI):∀(r p:Nat) (P:List Nat) (I:List TI),I.length+r=256->p<=S.length->P.length=I.length->∀N,r<N->
  ar (fq 20000000) N ([c],S,(p:Int),K,e,io P,J,I)=some (Xw S c K e J (kO S c r p P I)):=by
 intro r
 induction r with
 | zero=>
  intro p P I i hp b N g;obtain ⟨N,rfl⟩:∃k,N=k+1:=⟨N - 1,by omega⟩;rw [ar,R1 c S _ K e _ J (by omega)];rfl
 | succ r ih=>
  intro p P I i hp b N g;obtain ⟨N,rfl⟩:∃k,N=k+1:=⟨N - 1,by omega⟩;rw [ar,RI c hp j K e J (by omega) b,kO];cases h:lM S c p with
  | inl f=>rfl
  | inr q=>
   obtain ⟨t,a,d⟩:=q;obtain ⟨_,l,m⟩:=ut hp h;simp only [];by_cases hc:(S.drop d).head?=some 44
   ·rw [ae hc,ae hc];exact ih (d+1) (P++[a]) (I++[t]) (by simp;omega) (dV hc) (by simp [b]) N (by omega)
   ·rw [ab hc,ab hc];rfl
theorem yJ {X a Y b:Type} {s:X->Option (X⊕Y)} {s':a->Option (a⊕b)} (f:X->a) (g:Y->b) (h:∀x,s' (f x)=(s x).map (Sum.map f g)):∀(n:Nat) (x:X),ar s' n (f x)=(ar s n x).map g
 | 0,_=>rfl
 | n+1,x=>by
  rw [ar,ar,h];cases s x with
  | none=>rfl
  | some z=>
   cases z with
   | inl y=>exact yJ f g h n y
   | inr y=>rfl
theorem TT (n:Nat) (K:Int) (D:TD) (KF:Int) (DF:TD) (KT:Int) (DT:TD) (c:Nat) (e l:Bool) (L:List TI):nE n K D KF DF KT DT L.length c e l L=mf n K D KF DF KT DT e l L:=by
 unfold nE mf;have:=yJ (s:=fF n) (s':=kx n) (u12 λq f d g j k p m o h b a=>(d.length,c,q,f,d,g,j,k,p,m,o,d.length,c,h,b,a)) id (by
  rintro ⟨q,f,d,g,j,k,p,m,o,h,b,a⟩;unfold fF kx;simp only [u16,u15,u14,u13,u12,u11,u10,u9,u8,u7,u6,u5,u4,u3,u2];cases decide (f<q)
  ·rfl
  ·simp only [ah];cases ix d.length f with
   | none=>rfl
   | some i=>
    simp only [ob];cases d[i]? with
    | none=>rfl
    | some t=>
     simp only [ob];cases gf n (iF t) (d8 t).2.2.1 (d8 t).2.2.2 g with
     | none=>rfl
     | some v=>
      simp only [ob];rw [show mX n v 10 10 10 (iF t) (d8 t).2.2.1 (d8 t).2.2.2 g j k p m o d.length c h b f a d=gL n v 10 10 10 (iF t) (d8 t).2.2.1 (d8 t).2.2.2 g j k p m o h b f a d from rfl];cases gL n v 10 10 10 (iF t) (d8 t).2.2.1 (d8 t).2.2.2 g j k p m o h b f a d with
      | none=>rfl
      | some z=>
       simp only [ob];cases (z != 0)<;>rfl) n (len L,0,L,K,D,KF,DF,KT,DT,e,l,w64 (len L - 1))
 simp only [u12,u11,u10,u9,u8,u7,u6,u5,u4,u3,u2] at this;rw [show (L.length,c,((L.length:Nat):Int),(0:Int),L,K,D,KF,DF,KT,DT,L.length,c,e,l,w64 (((L.length:Nat):Int) - 1))=(L.length,c,len L,0,L,K,D,KF,DF,KT,DT,L.length,c,e,l,w64 (len L - 1)) from rfl,this];rw [Option.map_id];rfl
theorem LV (n:Nat) (K:Int) (D:TD) (KF:Int) (DF:TD) (KT:Int) (DT:TD) (c:Nat) (e l:Bool) (L:List TI):gp n K D KF DF KT DT L.length c e l L=mb n K D KF DF KT DT e l L:=by
 unfold gp mb;rw [TT,show oH n K D KF DF KT DT L.length c e l L=mC n K D KF DF KT DT e l L from rfl]
theorem Jd {K:Int} {D:TD} {KF:Int} {DF:TD} {KT:Int} {DT:TD} {e l:Bool} {L:List TI} (h:smE D DF DT L) (c:Nat):
  gp 20000000 K D KF DF KT DT L.length c e l L=some (ia K D KF DF KT DT e l L):=(LV _ _ _ _ _ _ _ _ _ _ _).trans (GT h)
noncomputable def setE (K:Int) (e l:Bool) (I:List TI):Int×Int:=ia K d0 0 d0 0 d0 e l I
noncomputable def endL (S:aa) (K:Int) (e:Bool) (p:Nat) (P:List Nat) (I:List TI):(Nat×Nat×Nat)⊕(Int×Bool×Bool×List TI×Nat):=
 if (S.drop (if dts (S.drop p) then p+2 else p)).head?=some (endC K) then
  if (setE K e (dts (S.drop p)) I).2=0 then .inr (K,e,dts (S.drop p),I,(if dts (S.drop p) then p+2 else p)+1)
  else .inl (P.getD (setE K e (dts (S.drop p)) I).1.toNat 0,10,(if dts (S.drop p) then p+2 else p)+1)
 else .inl ((if dts (S.drop p) then p+2 else p),5,(if dts (S.drop p) then p+2 else p))
noncomputable def ur (S:aa) (a:Nat) (K:Int):(Nat×Nat×Nat)⊕(Int×Bool×Bool×List TI×Nat):=
 match kO S (endC K) 256 (if dts (S.drop (a+1)) then a+3 else a+1) [] [] with
 | .inl f=>.inl f
 | .inr (p,P,I)=>endL S K (dts (S.drop (a+1))) p P I
noncomputable def pq (S:aa) (a:Nat):(Nat×Nat×Nat)⊕(Int×Bool×Bool×List TI×Nat):=
 if (S.drop a).head?=some 91 then ur S a 3 else if (S.drop a).head?=some 123 then ur S a 4 else .inl (a,5,a)
theorem Lj {K:Int} (a:K=3\/K=4) {e l:Bool} {I:List TI} (b:1<=I.length):∃i:Nat,(setE K e l I).1=(i:Int)/\i<I.length:=by
 have hi:∃i:Nat,(yD K e l I).1=(i:Int)/\i<I.length:=by
  unfold yD;have:∀(J:List TI) (k:Nat) (p:Nat×Int),sV (errI K e l I.length) k J=some p->p.1<k+J.length:=by
   intro J
   induction J with
   | nil=>intro k p h;cases h
   | cons t r ih=>
    intro k p h;rw [sV] at h;split at h
    ·cases h;simp
    ·have:=ih (k+1) p h;simp;omega
  cases hs:sV (errI K e l I.length) 0 I with
  | none=>exact ⟨0,rfl,by omega⟩
  | some p=>exact ⟨p.1,rfl,by have:=this I 0 p hs;omega⟩
 unfold setE ia;rw [ab (by omega)];split
 ·exact ⟨0,rfl,by omega⟩
 ·rw [ab (by omega),ab (by omega),ab (by omega)];split
  ·exact ⟨0,rfl,by omega⟩
  ·exact hi
theorem Np {I:List TI} (h:∀t∈I,smI t):smE d0 d0 d0 I:=⟨nS,nS,nS,h⟩
theorem Yg (n:Nat) (I:List TI):bH n I=some (I.length,I.length):=by
 unfold bH;rw [ef (aW _)];show ob (bx I.length ((I.length:Nat):Int)) _=_;rw [ef (aW _)];rfl
def Um (S:aa):(Nat×Nat×Nat)⊕(Int×Bool×Bool×List TI×Nat)->(Int×Int×aa×Int)⊕(Int×TD×Int×TD×Int×TD×Nat×Nat×Bool×Bool×aa×Int×List TI)
 | .inl f=>.inl ((f.1:Int),(f.2.1:Int),S,(f.2.2:Int))
 | .inr (K,e,l,I,p)=>.inr (K,d0,0,d0,0,d0,I.length,I.length,e,l,S,(p:Int),I)
theorem Vu {S:aa} (F:S.length<100000) {K:Int} (A:K=3\/K=4) (e:Bool) {p:Nat} (hp:p<=S.length) {P:List Nat} {I:List TI} (G:P.length=I.length) (B:1<=I.length) (hs:∀t∈I,smI t):
  (obs (bX 20000000 [endC K] S ((if dts (S.drop p) then p+2 else p:Nat):Int)) (u2 λb c=>(ob (bH 20000000 I) (u2 λf d=>(ob (gp 20000000 K d0 0 d0 0 d0 f d e (dts (S.drop p)) I) (u2 λs v=>(cond (v != 0) (ob (ix (List.length (io P)) s) λm=>(ob ((io P)[m]?) λj=>(ob (aO 20000000 j 10 b c) (u2 λn o=>(some (.inl (n,o,b,c))))))) (some (.inr (K,d0,0,d0,0,d0,f,d,e,(dts (S.drop p)),b,c,I))))))))) (u4 λk x u w=>(some (.inl (k,x,u,w))))) =
   some (Um S (endL S K e p P I)):=by
 have D:(if dts (S.drop p) then p+2 else p:Nat)<=S.length:=by
  split
  ·rename_i h;exact kZ h
  ·exact hp
 unfold endL;generalize (if dts (S.drop p) then p+2 else p:Nat)=q at *;generalize dts (S.drop p)=l;rw [Ah _ _ _ _ D (by omega) (by simp) (by simp)];simp only [tk1];by_cases hc:(S.drop q).head?=some (endC K)
 ·rw [ae hc,ae hc];simp only [obs,sm,ob,u2,Yg,Jd (Np hs)];obtain ⟨i,y,E⟩:=Lj A (e:=e) (l:=l) B;show cond ((setE K e l I).2 != 0) (ob (ix (io P).length (setE K e l I).1) _) _=_;by_cases g:(setE K e l I).2=0
  ·rw [ae g,show ((setE K e l I).2 != 0)=false from by simp [g]];rfl
  ·have hi:i<(io P).length:=by simp [io];omega
   rw [ab g,show ((setE K e l I).2 != 0)=true from by simp [g],y,eG hi];have z:(io P)[i]?=some ((P.getD i 0:Nat):Int):=by
    have hi':i<P.length:=by omega
    simp [io,be hi']
   simp only [ah,ob,z];rfl
 ·rw [ab hc,ab hc];have:lcp (S.drop q) [endC K]=0:=by
   cases C:S.drop q with
   | nil=>rfl
   | cons a r=>
    rw [C] at hc;simp only [lcp];rw [show (a==endC K)=false from by rw [aL];rintro rfl;exact hc rfl];rfl
  rw [this];rfl
theorem Rq {S:aa} {a:Nat} (h:a<=S.length) (hS:S.length<100000):nJ 20000000 S (a:Int)=some (Um S (pq S a)):=by
 have b:∀(K:Int) (z:K=3\/K=4) (i:a+1<=S.length),(ob (nz 20000000 (K==4) S ((a+1:Nat):Int) ([]:List TI) ([]:List TI)) (u5 λv7 v8 v9 O H=>(ob (eK 20000000 v9) (u2 λ_ v12=>(ob (aC 20000000 [46,46] v7 v8) (u3 λF M N=>(obs (ar (fq 20000000) 20000000 (v12,M,N,v9,F,([]:List (Int)),O,H)) (u4 λU G B D=>(some (.inl (U,G,B,D)))) (u22 λQ v21 v22 _ _ _ _ _ _ _ _ v o k n l u y x w _ e=>(obs (bX 20000000 Q v21 v22) (u2 λd g=>(ob (bH 20000000 e) (u2 λs m=>(ob (gp 20000000 v o k n l u s m y x e) (u2 λT X=>(cond (X != 0) (ob (ix (List.length w) T) λJ=>(ob (w[J]?) λC=>(ob (aO 20000000 C 10 d g) (u2 λL R=>(some (.inl (L,R,d,g))))))) (some (.inr (v,o,k,n,l,u,s,m,y,x,d,g,e))))))))) (u4 λE Z W Y=>(some (.inl (E,Z,W,Y))))))))))))) =
   some (Um S (ur S a K)):=by
  intro K z i;have hj:nz 20000000 (K==4) S ((a+1:Nat):Int) ([]:List TI) ([]:List TI)=some (S,((a+1:Nat):Int),K,[],[]):=by
   rcases z with rfl | rfl<;>rfl
  have A:aC 20000000 [46,46] S ((a+1:Nat):Int)=some (dts (S.drop (a+1)),S,((if dts (S.drop (a+1)) then a+3 else a+1:Nat):Int)):=by
   rw [ng _ _ _ _ i (by omega)];cases j:dts (S.drop (a+1))
   ·rw [ab (show ¬(S.drop (a+1)).take [(46:UInt8),46].length=[46,46] from λh=>by unfold dts at j;rw [show (S.drop (a+1)).take 2=[46,46] from h] at j;cases j)];rfl
   ·rw [ae (show (S.drop (a+1)).take [(46:UInt8),46].length=[46,46] from eq_of_beq j)];rfl
  have hp:(if dts (S.drop (a+1)) then a+3 else a+1:Nat)<=S.length:=by
   split
   ·rename_i h;have:=kZ h;omega
   ·exact i
  have hl:=Sr (endC K) hS K (dts (S.drop (a+1))) [] 256 (if dts (S.drop (a+1)) then a+3 else a+1) [] [] (by simp) hp rfl 20000000 (by omega);simp only [hj,yL z,A,ob,u5,u4,u3,u2];rw [show ar (fq 20000000) 20000000 ([endC K],S,((if dts (S.drop (a+1)) then a+3 else a+1:Nat):Int),K,dts (S.drop (a+1)),([]:List Int),([]:List TI),([]:List TI))=_ from hl];unfold ur;cases hr:kO S (endC K) 256 (if dts (S.drop (a+1)) then a+3 else a+1) [] [] with
  | inl f=>rfl
  | inr q=>
   obtain ⟨p,P,I⟩:=q;obtain ⟨q1,q2,q3,q4,q5⟩:=ue 256 _ [] [] hp rfl (λt A=>by cases A) hr;have q3':1<=I.length:=by rw [aX] at q3;omega
   exact Vu hS z (dts (S.drop (a+1))) q1 q2 q3' q5
 unfold nJ pq;rw [BL _ _ _ _ h (by omega)];cases j:S.drop a with
 | nil=>rfl
 | cons c r=>
  have i:a+1<=S.length:=by
   have:=bY List.length j;simp at this;omega
  simp only [pp,au];by_cases V:c=91
  ·subst V;rw [ae rfl];exact b 3 (.inl rfl) i
  ·by_cases h2:c=123
   ·subst h2;rw [ae rfl];exact b 4 (.inr rfl) i
   ·rw [ab V,ab h2];have:hasB [91,123] c=false:=by
     unfold hasB;simp only [qZ,List.any_nil,yd,pw,aL];exact ⟨λh=>V h.symm,λh=>h2 h.symm⟩
    rw [this];rfl
def rat (l:aa):Nat:=match l with | c::_=>c.toNat | []=>0
theorem Kr (n:Nat) (S:aa) (p:Nat):dp n S (p:Int)=some ((rat (S.drop p):Nat):Int):=by
 unfold dp;rw [am (show (p:Int)>=0 by omega),ah];by_cases h:p<S.length
 ·have hc:=be h;rw [am (show (p:Int)<len S by show (p:Int)<((S.length:Nat):Int);omega),ah,dI hc,bS hc];rfl
 ·rw [aq (show ¬(p:Int)<len S by show ¬(p:Int)<((S.length:Nat):Int);omega),af,jr (by omega)];rfl
theorem ye (l:aa) (c:UInt8) (hc:c≠0):(((rat l:Nat):Int)==((c.toNat:Nat):Int))=decide (l.head?=some c):=by
 cases l with
 | nil=>
  rw [aq (by simp)];rw [aL];intro h;have b:c.toNat=0:=by
   have:((0:Nat):Int)=((c.toNat:Nat):Int):=h;omega
  exact hc (gy.1 (by rw [b];rfl))
 | cons a r=>
  show (((a.toNat:Nat):Int)==((c.toNat:Nat):Int))=_;rw [oa];rw [tN];simp
theorem rf_w {p:Nat} (k:Nat) (h:p+k<9223372036854775807):w64 ((p:Int)+(k:Int))=((p+k:Nat):Int):=by
 show IntKind.wrap .i64 _=_;rw [wrap_i64 _ (by omega) (by omega)];omega
theorem F3 (n:Nat) {S:aa} {p:Nat} (f:p<1000000):eO n S (p:Int)=some (if dts (S.drop p) then 1 else 0):=by
 unfold eO;have d:w64 ((p:Int)+1)=((p+1:Nat):Int):=rf_w 1 (by omega);have e:∀q,(((rat (S.drop q):Nat):Int)==46)=decide ((S.drop q).head?=some 46):=λq=>ye (S.drop q) 46 (by decide);have g:∀b,b=(dts (S.drop p))->(some (if b then (1:Int) else 0))=some (if dts (S.drop p) then 1 else 0):=λb h=>by rw [h]
 simp only [Kr,ob,d,e];rw [<-jp];unfold dts
 match S.drop p with
 | []=>rfl
 | [a]=>
  by_cases h:a=46
  ·subst h;rfl
  ·simp [h]
 | a::b::r=>
  by_cases h:a=46
  ·by_cases c:b=46
   ·subst h c;rfl
   ·subst h;simp [c]
  ·simp [h]
theorem uP (S:aa) (A:Int) (r:DR):J5 S A (.inr r)=((tdR r).1,(tdR r).2.1,(tdR r).2.2.1,(tdR r).2.2.2.1,(tdR r).2.2.2.2.1,(tdR r).2.2.2.2.2.1,(tdR r).2.2.2.2.2.2.1,(tdR r).2.2.2.2.2.2.2.1,(tdR r).2.2.2.2.2.2.2.2.1,(tdR r).2.2.2.2.2.2.2.2.2,((plR r:Nat):Int),S,((enR r:Nat):Int),0):=rfl
theorem zR (S:aa) (A:Int) (f:Nat×Nat×Nat):J5 S A (.inl f)=(false,false,[],0,0,[],[],0,0,0,A,S,(f.1:Int),(f.2.1:Int)):=rfl
theorem U5 (c:UInt8) (hc:c≠0) {S:aa} {p:Nat} (hp:p<1000000) (T:aa) (e f i:Int) (g:Bool) (h:List Int) (d:TD) (b a:List TI):
  fQ 20000000 S ((c.toNat:Nat):Int) e T (p:Int) f i g h d b a=some (S,((c.toNat:Nat):Int),e,dts (S.drop p)&&!decide ((S.drop (p+2)).head?=some c),T,(p:Int),f,i,g,h,d,b,a):=by
 unfold fQ;have j:w64 ((p:Int)+2)=((p+2:Nat):Int):=rf_w 2 (by omega);simp only [F3 20000000 hp,ob,j,Kr];rw [show (((rat (S.drop (p+2)):Nat):Int) != ((c.toNat:Nat):Int))=!decide ((S.drop (p+2)).head?=some c) from bY _ (ye _ _ hc)];cases dts (S.drop p)<;>rfl
theorem U8 (b:Bool) (c:Int) {S:aa} {p:Nat} (h:p<=S.length) (v:S.length<100000) (o:b=true->dts (S.drop p)=true) (i j:Int) (l:Bool) (g:List Int) (e:TD) (d a:List TI):
  iR 20000000 S c i b S (p:Int) 0 j l g e d a=some (if b=true then (match ct S (p+2) with
   | .inl f=>.inl (S,(f.1:Int),(f.2.1:Int),[])
   | .inr r=>.inr (S,c,i,S,((enR r:Nat):Int),0,j,l,g,e,true,tdR r,d,a)) else .inr (S,c,i,S,(p:Int),0,j,l,g,e,false,d0,d,a)):=by
 unfold iR;cases b
 ·rfl
 ·have u:=o rfl;have m:=kZ u;have n:w64 ((p:Int)+2)=((p+2:Nat):Int):=rf_w 2 (by omega);obtain ⟨A,s⟩:=sg S (p+2) m v;rw [ah,ae rfl,n,s];cases t:ct S (p+2) with
  | inl f=>
   obtain ⟨k,E,q⟩:=f;have w:=qS m t;show cond (((E:Nat):Int) != 0) _ _=_;rw [show (((E:Nat):Int) != 0)=true from by simp;omega];rfl
  | inr r=>rfl
theorem Uh (c:UInt8) (hc:c≠0) {S:aa} {p:Nat} (h:p<=S.length) (l:S.length<100000) (K:Int) (e:Bool) {P:List Nat} (J:List TI) {I:List TI} (z:I.length<256) (F:P.length=I.length):
  co 20000000 (S,((c.toNat:Nat):Int),S,(p:Int),0,K,e,io P,J,I)=some (match lM S c p with
   | .inl f=>.inr (.inl (0,d0,0,d0,0,d0,false,false,S,(f.1:Int),(f.2.1:Int),[]))
   | .inr (t,a,b)=>if (S.drop b).head?=some 44 then .inl (S,((c.toNat:Nat):Int),S,((b+1:Nat):Int),0,K,e,io (P++[a]),J,I++[t])
    else .inr (.inr (S,((c.toNat:Nat):Int),0,d0,0,d0,0,d0,false,false,[],0,0,S,(b:Int),0,K,d0,0,d0,0,d0,e,false,io (P++[a]),J,I++[t]))):=by
 have g:∀(t:TI) (a b:Nat),b<=S.length->(ob (dp 20000000 S (b:Int)) λi=>(cond (i != 44) (some (.inr (.inr (S,((c.toNat:Nat):Int),0,d0,0,d0,0,d0,false,false,[],0,0,S,(b:Int),0,K,d0,0,d0,0,d0,e,false,(io P++([(a:Int)]:List (Int))),J,(I++([t]:List TI)))))) (some (.inl (S,((c.toNat:Nat):Int),S,(w64 ((b:Int)+1)),0,K,e,(io P++([(a:Int)]:List (Int))),J,(I++([t]:List TI))))):Option ((aa×Int×aa×Int×Int×Int×Bool×List (Int)×List TI×List TI)⊕((Int×TD×Int×TD×Int×TD×Bool×Bool×aa×Int×Int×List TI)⊕(aa×Int×Int×TD×Int×TD×Int×TD×Bool×Bool×aa×Int×Int×aa×Int×Int×Int×TD×Int×TD×Int×TD×Bool×Bool×List (Int)×List TI×List TI))))) =
   some (if (S.drop b).head?=some 44 then .inl (S,((c.toNat:Nat):Int),S,((b+1:Nat):Int),0,K,e,io (P++[a]),J,I++[t])
    else .inr (.inr (S,((c.toNat:Nat):Int),0,d0,0,d0,0,d0,false,false,[],0,0,S,(b:Int),0,K,d0,0,d0,0,d0,e,false,io (P++[a]),J,I++[t]))):=by
  intro t a b x;have y:io (P++[a])=io P++[(a:Int)]:=by simp [io]
  have v:w64 ((b:Int)+1)=((b+1:Nat):Int):=rf_w 1 (by omega);rw [Kr,y,v];simp only [ob];rw [show (((rat (S.drop b):Nat):Int) != 44)=!decide ((S.drop b).head?=some 44) from bY _ (ye _ 44 (by decide))];by_cases hc:(S.drop b).head?=some 44
  ·rw [ae hc,am hc];rfl
  ·rw [ab hc,aq hc];rfl
 unfold co;simp only [u10,u9,u8,u7,u6,u5,u4,u3,u2];obtain ⟨A,s⟩:=sg S p h l;rw [show (len I==256)=false from by show (((I.length:Nat):Int)==256)=false;simp;omega,af,s];unfold lM;cases m:ct S p with
 | inl f=>
  obtain ⟨k,E,q⟩:=f;have C:=qS h m;show cond (((E:Nat):Int) != 0) _ _=_;rw [show (((E:Nat):Int) != 0)=true from by simp;omega];rfl
 | inr r=>
  obtain ⟨B,_,D,n⟩:=iQ h m;rw [uP];show ob (fQ 20000000 S ((c.toNat:Nat):Int) ((plR r:Nat):Int) S ((enR r:Nat):Int) 0 K e (io P) (tdR r) J I) _=_;rw [U5 c hc (by omega)];simp only [ob,u13,u12,u11,u10,u9,u8,u7,u6,u5,u4,u3,u2];rw [U8 _ _ n l (λh=>by simp at h;exact h.1)];have j:(dts (S.drop (enR r))&&!decide ((S.drop (enR r+2)).head?=some c))=true↔(dts (S.drop (enR r))=true/\(S.drop (enR r+2)).head?≠some c):=by simp
  by_cases d:dts (S.drop (enR r))=true/\(S.drop (enR r+2)).head?≠some c
  ·rw [ae (j.2 d),ae d];cases w:ct S (enR r+2) with
   | inl f=>rfl
   | inr o=>
    obtain ⟨G,_,l3,u⟩:=iQ (kZ d.1) w;simp only [obs,sm,ob,u14,u13,u12,u11,u10,u9,u8,u7,u6,u5,u4,u3,u2];rw [qN (by omega),qN (by simp;omega)];exact g (mkI (tdR r) true (tdR o)) (plR r) (enR o) u
  ·rw [ab (λh=>d (j.1 h)),ab d];simp only [obs,sm,ob,u14,u13,u12,u11,u10,u9,u8,u7,u6,u5,u4,u3,u2];rw [qN (by omega),qN (by simp;omega)];exact g (mkI (tdR r) false d0) (plR r) (enR r) n
theorem Tq (c p:Int) (S:aa) (K:Int) (e:Bool) (P:List Int) (J:List TI) {I:List TI} (a:I.length=256):
  co 20000000 (S,c,S,p,0,K,e,P,J,I)=some (.inr (.inl (0,d0,0,d0,0,d0,false,false,S,p,3,[]))):=by
 unfold co;simp only [u10,u9,u8,u7,u6,u5,u4,u3,u2];rw [show (len I==256)=true from by show (((I.length:Nat):Int)==256)=true;rw [a];rfl];rfl
def rfLo (S:aa) (c:UInt8) (K:Int) (e:Bool) (J:List TI):(Nat×Nat×Nat)⊕(Nat×List Nat×List TI)->(Int×TD×Int×TD×Int×TD×Bool×Bool×aa×Int×Int×List TI)⊕(aa×Int×Int×TD×Int×TD×Int×TD×Bool×Bool×aa×Int×Int×aa×Int×Int×Int×TD×Int×TD×Int×TD×Bool×Bool×List (Int)×List TI×List TI)
 | .inl f=>.inl (0,d0,0,d0,0,d0,false,false,S,(f.1:Int),(f.2.1:Int),[])
 | .inr (p,P,I)=>.inr (S,((c.toNat:Nat):Int),0,d0,0,d0,0,d0,false,false,[],0,0,S,(p:Int),0,K,d0,0,d0,0,d0,e,false,io P,J,I)
theorem R9 (c:UInt8) (hc:c≠0) {S:aa} (j:S.length<100000) (K:Int) (e:Bool) (J:List TI):∀(r p:Nat) (P:List Nat) (I:List TI),I.length+r=256->p<=S.length->P.length=I.length->∀N,r<N->
  ar (co 20000000) N (S,((c.toNat:Nat):Int),S,(p:Int),0,K,e,io P,J,I)=some (rfLo S c K e J (kO S c r p P I)):=by
 intro r
 induction r with
 | zero=>
  intro p P I i hp b N g;obtain ⟨N,rfl⟩:∃k,N=k+1:=⟨N - 1,by omega⟩;rw [ar,Tq _ _ S K e _ J (by omega)];rfl
 | succ r ih=>
  intro p P I i hp b N g;obtain ⟨N,rfl⟩:∃k,N=k+1:=⟨N - 1,by omega⟩;rw [ar,Uh c hc hp j K e J (by omega) b,kO];cases h:lM S c p with
  | inl f=>rfl
  | inr q=>
   obtain ⟨t,a,d⟩:=q;obtain ⟨_,l,m⟩:=ut hp h;simp only [];by_cases hc:(S.drop d).head?=some 44
   ·rw [ae hc,ae hc];exact ih (d+1) (P++[a]) (I++[t]) (by simp;omega) (dV hc) (by simp [b]) N (by omega)
   ·rw [ab hc,ab hc];rfl
def Ly (S:aa):(Nat×Nat×Nat)⊕(Int×Bool×Bool×List TI×Nat)->Int×TD×Int×TD×Int×TD×Bool×Bool×aa×Int×Int×List TI
 | .inl f=>(0,d0,0,d0,0,d0,false,false,S,(f.1:Int),(f.2.1:Int),[])
 | .inr (K,e,l,I,p)=>(K,d0,0,d0,0,d0,e,l,S,(p:Int),0,I)
theorem V3 (n:Nat) (S:aa) (c:Int) (b:Bool) (p:Nat) (hp:p<1000000) (u:Int) (t:TD) (x:Int) (w:TD) (z:Int) (v:TD) (y q:Bool) (h:aa) (a j:Int) (m:aa) (x16 d:Int) (f:TD) (k:Int) (l:TD) (r:Int) (s:TD) (o:Bool) (i:List Int) (e g:List TI):
  fP n S c b u t x w z v y q h a j m (p:Int) x16 d f k l r s o false i e g=some (S,c,u,t,x,w,z,v,y,q,h,a,j,m,((if b then p+2 else p:Nat):Int),x16,d,f,k,l,r,s,o,b,i,e,g):=by
 unfold fP;cases b
 ·rfl
 ·rw [ah,show w64 ((p:Int)+2)=((p+2:Nat):Int) from rf_w 2 (by omega)];rfl
theorem WC {S:aa} (z:S.length<100000) {K:Int} (v:K=3\/K=4) (e:Bool) {p:Nat} (hp:p<=S.length) {P:List Nat} {I:List TI} (A:P.length=I.length) (w:1<=I.length) (hs:∀t∈I,smI t):
  (ob (dp 20000000 S ((if dts (S.drop p) then p+2 else p:Nat):Int)) λb=>(cond (b != (((endC K).toNat:Nat):Int)) (ob (dM 20000000 S ((if dts (S.drop p) then p+2 else p:Nat):Int) 0 ((if dts (S.drop p) then p+2 else p:Nat):Int) 5) (u3 λo m c=>(some (0,d0,0,d0,0,d0,false,false,o,m,c,([]:List TI))))) (ob (gg 20000000 K d0 0 d0 0 d0 e (dts (S.drop p)) I) (u2 λd g=>(cond (g != 0) (ob (ix (List.length (io P)) d) λn=>(ob ((io P)[n]?) λj=>(ob (dM 20000000 S (w64 (((if dts (S.drop p) then p+2 else p:Nat):Int)+1)) 0 j 10) (u3 λr f k=>(some (0,d0,0,d0,0,d0,false,false,r,f,k,([]:List TI))))))) (some (K,d0,0,d0,0,d0,e,(dts (S.drop p)),S,(w64 (((if dts (S.drop p) then p+2 else p:Nat):Int)+1)),0,I))))))) =
   some (Ly S (endL S K e p P I)):=by
 have B:(if dts (S.drop p) then p+2 else p:Nat)<=S.length:=by
  split
  ·rename_i h;exact kZ h
  ·exact hp
 unfold endL;generalize (if dts (S.drop p) then p+2 else p:Nat)=q at *;generalize dts (S.drop p)=l;have x:w64 ((q:Int)+1)=((q+1:Nat):Int):=rf_w 1 (by omega);rw [Kr,x];simp only [ob];rw [show (((rat (S.drop q):Nat):Int) != (((endC K).toNat:Nat):Int))=!decide ((S.drop q).head?=some (endC K)) from bY _ (ye _ _ (by unfold endC;split<;>decide))];by_cases hc:(S.drop q).head?=some (endC K)
 ·rw [ae hc,am hc];simp only [cv,af,FB (Np hs),u2];obtain ⟨i,s,y⟩:=Lj v (e:=e) (l:=l) w;show cond ((setE K e l I).2 != 0) (ob (ix (io P).length (setE K e l I).1) _) _=_;by_cases a:(setE K e l I).2=0
  ·rw [ae a,show ((setE K e l I).2 != 0)=false from by simp [a]];rfl
  ·have hi:i<(io P).length:=by simp [io];omega
   rw [ab a,show ((setE K e l I).2 != 0)=true from by simp [a],s,eG hi];have u:(io P)[i]?=some ((P.getD i 0:Nat):Int):=by
    have hi':i<P.length:=by omega
    simp [io,be hi']
   simp only [ah,ob,u];rfl
 ·rw [ab hc,aq hc];rfl
theorem Tt {S:aa} {a:Nat} (h:a<=S.length) (hS:S.length<100000):lD 20000000 S (a:Int)=some (Ly S (pq S a)):=by
 have d:∀(K:Int) (hK:K=3\/K=4) (ha:a+1<=S.length),(ob (eO 20000000 S ((a+1:Nat):Int)) λv8=>(ob (fR 20000000 S (((endC K).toNat:Nat):Int) (v8==1) S ((a+1:Nat):Int) K ([]:List TI) ([]:List TI)) (u8 λv9 X v11 H v13 W v15 Z=>(obs (ar (co 20000000) 20000000 (v9,X,v11,H,0,v13,W,([]:List (Int)),v15,Z)) (u12 λv17 v18 T Y v21 L v23 v24 v25 A v27 v28=>(some (v17,v18,T,Y,v21,L,v23,v24,v25,A,v27,v28))) (u27 λo v30 v31 v32 z v34 D v36 v37 v38 v39 O V B x v44 v45 G v47 v48 v49 v50 U Q J v54 v55=>(ob (eO 20000000 o x) λM=>(ob (fP 20000000 o v30 (M==1) v31 v32 z v34 D v36 v37 v38 v39 O V B x v44 v45 G v47 v48 v49 v50 U Q J v54 v55) (u27 λv57 v58 _ _ _ _ _ _ _ _ _ _ _ e c g j v i m l u y n w _ r=>(ob (dp 20000000 v57 c) λv72=>(cond (v72 != v58) (ob (dM 20000000 e c g c 5) (u3 λN F R=>(some (0,d0,0,d0,0,d0,false,false,N,F,R,([]:List TI))))) (ob (gg 20000000 j v i m l u y n r) (u2 λv76 C=>(cond (C != 0) (ob (ix (List.length w) v76) λv78=>(ob (w[v78]?) λE=>(ob (dM 20000000 e (w64 (c+1)) g E 10) (u3 λv80 v81 v82=>(some (0,d0,0,d0,0,d0,false,false,v80,v81,v82,([]:List TI))))))) (some (j,v,i,m,l,u,y,n,e,(w64 (c+1)),g,r))))))))))))))) =
   some (Ly S (ur S a K)):=by
  intro K hK ha;have one:∀b:Bool,((if b then (1:Int) else 0)==1)=b:=by decide
  have hj:fR 20000000 S (((endC K).toNat:Nat):Int) (dts (S.drop (a+1))) S ((a+1:Nat):Int) K ([]:List TI) ([]:List TI)=some (S,(((endC K).toNat:Nat):Int),S,((if dts (S.drop (a+1)) then a+3 else a+1:Nat):Int),K,dts (S.drop (a+1)),[],[]):=by
   unfold fR;cases dts (S.drop (a+1))
   ·rfl
   ·rw [ah,show w64 (((a+1:Nat):Int)+2)=((a+1+2:Nat):Int) from rf_w 2 (by omega)];rfl
  have hp:(if dts (S.drop (a+1)) then a+3 else a+1:Nat)<=S.length:=by
   split
   ·rename_i h;have:=kZ h;omega
   ·exact ha
  have hl:=R9 (endC K) (by unfold endC;split<;>decide) hS K (dts (S.drop (a+1))) [] 256 (if dts (S.drop (a+1)) then a+3 else a+1) [] [] (by simp) hp rfl 20000000 (by omega);simp only [F3 20000000 (show a+1<1000000 by omega),one,hj,ob,u8,u7,u6,u5,u4,u3,u2];rw [show ar (co 20000000) 20000000 (S,(((endC K).toNat:Nat):Int),S,((if dts (S.drop (a+1)) then a+3 else a+1:Nat):Int),0,K,dts (S.drop (a+1)),([]:List Int),([]:List TI),([]:List TI))=_ from hl];unfold ur;cases hr:kO S (endC K) 256 (if dts (S.drop (a+1)) then a+3 else a+1) [] [] with
  | inl f=>rfl
  | inr q=>
   obtain ⟨p,P,I⟩:=q;obtain ⟨q1,q2,q3,q4,q5⟩:=ue 256 _ [] [] hp rfl (λt ht=>by cases ht) hr;have q3':1<=I.length:=by rw [aX] at q3;omega
   simp only [rfLo,obs,sm,ob,u27,u26,u25,u24,u23,u22,u21,u20,u19,u18,u17,u16,u15,u14,u13,u12,u11,u10,u9,u8,u7,u6,u5,u4,u3,u2,F3 20000000 (show p<1000000 by omega),one,V3 _ _ _ _ p (show p<1000000 by omega)];exact WC hS hK (dts (S.drop (a+1))) q1 q2 q3' q5
 have hw:w64 ((a:Int)+1)=((a+1:Nat):Int):=rf_w 1 (by omega);unfold lD pq;rw [Kr,hw];simp only [ob];unfold ln;rw [show (((rat (S.drop a):Nat):Int)==91)=decide ((S.drop a).head?=some 91) from ye _ 91 (by decide),show (((rat (S.drop a):Nat):Int)==123)=decide ((S.drop a).head?=some 123) from ye _ 123 (by decide)];by_cases k:(S.drop a).head?=some 91
 ·rw [ae k,am k];exact d 3 (.inl rfl) (dV k)
 ·rw [ab k,aq k];by_cases s:(S.drop a).head?=some 123
  ·rw [ae s,am s];exact d 4 (.inr rfl) (dV s)
  ·rw [ab s,aq s];rfl
theorem IX {S:aa} {d:UInt8} {p:Nat} (h:p<=S.length) {f:Nat×Nat×Nat} (a:lM S d p=.inl f):f.2.1≠0:=by
 unfold lM at a;cases c:ct S p with
 | inl g=>rw [c] at a;cases a;exact qS (k:=f.1) (E:=f.2.1) (p:=f.2.2) h c
 | inr r=>
  rw [c] at a;simp only [] at a;split at a
  ·rename_i e;cases b:ct S (enR r+2) with
   | inl g=>rw [b] at a;cases a;exact qS (k:=f.1) (E:=f.2.1) (p:=f.2.2) (kZ e.1) b
   | inr i=>rw [b] at a;cases a
  ·cases a
theorem zS {S:aa} {c:UInt8}:∀(r p:Nat) (P:List Nat) (I:List TI),p<=S.length->∀{f:Nat×Nat×Nat},kO S c r p P I=.inl f->f.2.1≠0
 | 0,p,P,I,_,f,e=>by cases e;simp
 | r+1,p,P,I,h,f,e=>by
  rw [kO] at e;cases b:lM S c p with
  | inl g=>rw [b] at e;cases e;exact IX h b
  | inr q=>
   obtain ⟨t,a,i⟩:=q;rw [b] at e;simp only [] at e;split at e
   ·rename_i d;exact zS r (i+1) _ _ (dV d) e
   ·cases e
structure SetOK (S:aa) (K:Int) (e l:Bool) (I:List TI) (p:Nat):Prop where
 kind:K=3\/K=4
 sm:∀t∈I,smI t
 ok:(setE K e l I).2=0
 one:1<=I.length
 most:I.length<=256
 le:p<=S.length
theorem PU {S:aa} {a:Nat} (h:a<=S.length) {K:Int} {e l:Bool} {I:List TI} {p:Nat} (b:pq S a=.inr (K,e,l,I,p)):SetOK S K e l I p:=by
 have c:∀g:Int,g=3\/g=4->a+1<=S.length->ur S a g=.inr (K,e,l,I,p)->SetOK S K e l I p:=by
  intro g n o b;unfold ur at b;have hp:(if dts (S.drop (a+1)) then a+3 else a+1:Nat)<=S.length:=by
   split
   ·rename_i h;have:=kZ h;omega
   ·exact o
  cases d:kO S (endC g) 256 (if dts (S.drop (a+1)) then a+3 else a+1) [] [] with
  | inl f=>rw [d] at b;cases b
  | inr q=>
   obtain ⟨i,P,J⟩:=q;obtain ⟨u,w,m,r,j⟩:=ue 256 _ [] [] hp rfl (λt k=>by cases k) d;rw [d] at b;simp only [] at b;unfold endL at b;generalize (if dts (S.drop i) then i+2 else i:Nat)=v at b;split at b
   ·rename_i hc;split at b
    ·rename_i s;cases b;rw [aX] at m r;exact ⟨n,j,s,by omega,by omega,dV hc⟩
    ·cases b
   ·cases b
 unfold pq at b;split at b
 ·rename_i d;exact c 3 (.inl rfl) (dV d) b
 ·split at b
  ·rename_i d;exact c 4 (.inr rfl) (dV d) b
  ·cases b
theorem wy {S:aa} {a:Nat} (h:a<=S.length) {f:Nat×Nat×Nat} (b:pq S a=.inl f):f.2.1≠0:=by
 have c:∀i:Int,a+1<=S.length->ur S a i=.inl f->f.2.1≠0:=by
  intro i j b;unfold ur at b;have hp:(if dts (S.drop (a+1)) then a+3 else a+1:Nat)<=S.length:=by
   split
   ·rename_i h;have:=kZ h;omega
   ·exact j
  cases d:kO S (endC i) 256 (if dts (S.drop (a+1)) then a+3 else a+1) [] [] with
  | inl g=>rw [d] at b;cases b;exact zS 256 _ _ _ hp d
  | inr q=>
   obtain ⟨e,P,J⟩:=q;rw [d] at b;simp only [] at b;unfold endL at b;generalize (if dts (S.drop e) then e+2 else e:Nat)=k at b;split at b
   ·split at b
    ·cases b
    ·cases b;simp
   ·cases b;simp
 unfold pq at b;split at b
 ·rename_i d;exact c 3 (dV d) b
 ·split at b
  ·rename_i d;exact c 4 (dV d) b
  ·cases b;simp
noncomputable def yC (S:aa):(Nat×Nat)⊕(Int×Bool×Bool×List TI):=match pq S 0 with
 | .inl f=>.inl (f.1,f.2.1)
 | .inr (K,e,l,I,p)=>if p<S.length then .inl (p,5) else .inr (K,e,l,I)
def brk (c:UInt8):Bool:=c==33||c==44||c==46||c==47||c==91||c==93||c==123||c==125
theorem SJ:∀c,(!brk c||(!isYC c&&(!isMk c&&(!(c==45)&&!isDX c))))=true:=iW (λc=>!brk c||(!isYC c&&(!isMk c&&(!(c==45)&&!isDX c)))) (by decide +kernel)
theorem HQ {c:UInt8} (h:brk c=true):isYC c=false/\isMk c=false/\(c==45)=false/\isDX c=false:=by
 have:=SJ c;rw [h] at this;simpa [aA] using this
theorem Vo {c:UInt8} (h:isDX c=true):brk c=false:=by
 cases a:brk c
 ·rfl
 ·rw [(HQ a).2.2.2] at h;cases h
def endT (l:aa):Prop:=∀c,l.head?=some c->brk c=true
theorem S3 {l:aa} (h:endT l):cY isYC l/\cY isMk l/\cY (λc=>c==45) l:=⟨λc hc=>(HQ (h c hc)).1,λc hc=>(HQ (h c hc)).2.1,λc hc=>(HQ (h c hc)).2.2.1⟩
theorem HZ:endT []:=λc h=>by cases h
theorem rH {c:UInt8} {l:aa} (h:brk c=true):endT (c::l):=λa b=>by
 simp only [pp,au] at b;rw [<-b];exact h
theorem JF {g l:Bool} {d:aa} {x s:Nat} (h:okY g l d (x:Int) (s:Int)) (r:aa):cY brk (gM g l d (x:Int) (s:Int)++r):=by
 have a:d≠[]:=by
  have:=(kz h).2.2.2.2.1;rintro rfl;simp at this
 rw [kE];cases l with
 | true=>exact eu (by decide)
 | false=>
  cases g with
  | true=>exact eu (by decide)
  | false=>
   simp only [br,aB,dW,fV];exact wc a (NA h) (λc=>Vo)
def gN (x:TD):aa:=qi x.1 x.2.1 x.2.2.1 x.2.2.2.1 x.2.2.2.2.1 x.2.2.2.2.2.1 x.2.2.2.2.2.2.1 x.2.2.2.2.2.2.2.1.toNat x.2.2.2.2.2.2.2.2.1.toNat x.2.2.2.2.2.2.2.2.2.toNat
theorem oV {x:TD} (hs:smT x) (hc:cF x=0):∃(g l:Bool) (dg:aa) (e q:Nat) (m d:aa) (a b c:Nat),x=(g,l,dg,(e:Int),(q:Int),m,d,(a:Int),(b:Int),(c:Int))/\OkD g l dg e q m d a b c:=by
 have h:=nK hc;obtain ⟨g,l,dg,e,q,m,d,k0,k1,k2⟩:=x;obtain ⟨r,p,a,b,c,k,i,j,n,f,o⟩:=HI hs.2.2.2.1 hs.2.2.2.2.1 hs.2.2.2.2.2 h;simp only at k i j n f;subst k i j n f;exact ⟨_,_,_,_,_,_,_,_,_,_,rfl,o⟩
theorem dfT {x:TD} (hs:smT x) (hc:cF x=0):ap10 (cK 20000000) x=some (gN x,0):=by
 have:=G5 19999700 x.1 x.2.1 x.2.2.1 x.2.2.2.1 x.2.2.2.2.1 x.2.2.2.2.2.1 x.2.2.2.2.2.2.1 x.2.2.2.2.2.2.2.1 x.2.2.2.2.2.2.2.2.1 x.2.2.2.2.2.2.2.2.2 hs.1 hs.2.1 hs.2.2.2.1 hs.2.2.2.2.1 hs.2.2.2.2.2;rw [ae (nK hc)] at this;exact this
theorem rfT {x:TD} (hs:smT x) (hc:cF x=0):ap10 (cH 20000000) x=some (gN x):=
 Eh 19999700 hs.2.2.2.1 hs.2.2.2.2.1 hs.2.2.2.2.2 (nK hc)
theorem mV {x:TD} (hs:smT x) (hc:cF x=0):(gN x).length<=37:=by
 obtain ⟨g,l,dg,e,q,m,d,a,b,c,rfl,ok⟩:=oV hs hc;exact N8 ok
theorem oh {x:TD} (hs:smT x) (hc:cF x=0) (r:aa):cY brk (gN x++r):=by
 obtain ⟨g,l,dg,e,q,m,d,a,b,c,rfl,ok⟩:=oV hs hc;show cY brk (qi g l dg (e:Int) (q:Int) m d a b c++r);unfold qi cw;rw [fV,fV,fV];exact JG _ (by decide) (by decide) (by decide) (JF ok.yr _)
theorem rZ {l:aa} (h:cY brk l):dts l=false:=by
 cases a:dts l
 ·rfl
 ·obtain ⟨r,rfl⟩:=vp.1 a;exact absurd (h 46 rfl) (by decide)
theorem zi {x:TD} (hs:smT x) (hc:cF x=0) {S:aa} {a:Nat} {post:aa} (h:S.drop a=gN x++post) (hp:endT post):∃r,ct S a=.inr r/\tdR r=x/\enR r=a+(gN x).length:=by
 obtain ⟨g,l,dg,e,q,m,d,k0,k1,k2,rfl,ok⟩:=oV hs hc;obtain ⟨f,c,j⟩:=S3 hp;obtain ⟨P,i⟩:=Jf ok (S:=S) (a:=a) (post:=post) h f c j;refine ⟨(g,l,dg,e,q,m,d,(k0,k1,k2),P,a+(qi g l dg (e:Int) (q:Int) m d k0 k1 k2).length),?_,rfl,rfl⟩;unfold ct;rw [i];have b:chkR (g,l,dg,e,q,m,d,(k0,k1,k2),P,a+(qi g l dg (e:Int) (q:Int) m d k0 k1 k2).length)=0:=by
  unfold chkR;simp only [];have:chkF g l dg (e:Int) (q:Int) m d (k0:Int) (k1:Int) (k2:Int)=0:=hc;rw [this];rfl
 simp only [];rw [ae b]
structure OkI (t:TI):Prop where
 sm:smI t
 a:cF (iF t)=0
 b:rT t=true->cF (iT t)=0
 n:rT t=false->iT t=d0
def dc (t:TI):aa:=if rT t then gN (iF t)++([46,46]++gN (iT t)) else gN (iF t)
theorem xb {t:TI} (h:OkI t):(dc t).length<=76:=by
 have e:=mV h.sm.1 h.a;unfold dc;split
 ·rename_i c;have d:=mV h.sm.2 (h.b c);simp only [aU,az,aX];omega
 ·omega
theorem J2 {t:TI} (h:OkI t) (r:aa):cY brk (dc t++r):=by
 unfold dc;split
 ·rw [fV];exact oh h.sm.1 h.a _
 ·exact oh h.sm.1 h.a _
theorem wE {t:TI} (ok:OkI t) {f:UInt8} (j:brk f=true) {S:aa} {p:Nat} {post:aa} (h:S.drop p=dc t++post) (hp:endT post) (s:dts post=true->(post.drop 2).head?=some f):
  ∃a,lM S f p=.inr (t,a,p+(dc t).length):=by
 unfold dc at h ⊢;unfold lM;cases c:rT t with
 | true=>
  rw [c,ae rfl,fV,fV] at h;obtain ⟨r,g,i,e⟩:=zi ok.sm.1 ok.a h (rH (by decide));have d:S.drop (enR r)=[46,46]++(gN (iT t)++post):=by rw [e];exact gR h
  have k:S.drop (enR r+2)=gN (iT t)++post:=gR (u:=[46,46]) d;have v:dts (S.drop (enR r))=true:=by rw [d];rfl
  have x:(S.drop (enR r+2)).head?≠some f:=by
   rw [k];intro o;have:=oh ok.sm.2 (ok.b c) post f o;rw [j] at this;cases this
  obtain ⟨z,q,y,w⟩:=zi ok.sm.2 (ok.b c) k hp;refine ⟨plR r,?_⟩;rw [g];simp only [];rw [ae ⟨v,x⟩,q];simp only [aJ];rw [i,y,w,e];have:mkI (iF t) true (iT t)=t:=by rw [<-c]
  rw [this];have:p+(gN (iF t)).length+2+(gN (iT t)).length=p+(gN (iF t)++([46,46]++gN (iT t))).length:=by simp only [aU,az,aX];omega
  rw [this]
 | false=>
  rw [c] at h;simp only [br,aB] at h;obtain ⟨r,g,i,e⟩:=zi ok.sm.1 ok.a h hp;have d:S.drop (enR r)=post:=by rw [e];exact gR h
  refine ⟨plR r,?_⟩;rw [g];simp only [];rw [ab,i,e]
  ·have:mkI (iF t) false d0=t:=by rw [<-c,<-ok.n c]
   rw [this];simp only [br,aB]
  ·rintro ⟨m,l⟩;rw [d] at m;rw [<-jp,d] at l;exact l (s m)
def lH (I:List TI):aa:=(I.map λt=>44::dc t).flatten
theorem yK {f:UInt8} (c:brk f=true) (b:f≠44) {post:aa} (hp:endT post) (d:post.head?≠some 44) (k:dts post=true->(post.drop 2).head?=some f):∀(I:List TI) (t:TI) (r p:Nat) {S:aa} (P:List Nat) (J:List TI),OkI t->(∀u∈I,OkI u)->I.length<r->S.drop p=dc t++(lH I++post)->
  ∃g,kO S f r p P J=.inr (p+(dc t++lH I).length,g,J++t::I)
 | [],t,r+1,p,S,P,J,ok,_,j,h=>by
  obtain ⟨a,i⟩:=wE ok c (post:=post) (by simpa [lH] using h) hp k;refine ⟨P++[a],?_⟩;rw [kO,i];simp only [];have e:S.drop (p+(dc t).length)=post:=gR (by simpa [lH] using h);rw [e,ab d];simp [lH]
 | u::I,t,r+1,p,S,P,J,ok,oks,j,h=>by
  have m:lH (u::I)++post=44::(dc u++(lH I++post)):=by simp [lH]
  rw [m] at h
  obtain ⟨a,i⟩:=wE ok c (post:=44::(dc u++(lH I++post))) h (rH (by decide)) (λs=>by
   obtain ⟨r,q⟩:=vp.1 s;cases q)
  have e:S.drop (p+(dc t).length)=44::(dc u++(lH I++post)):=gR h;have l:S.drop (p+(dc t).length+1)=dc u++(lH I++post):=gR (u:=[44]) e;obtain ⟨g,o⟩:=yK c b hp d k I u r (p+(dc t).length+1) (P++[a]) (J++[t]) (oks u mW) (λv n=>oks v (fN _ n)) (by simp at j;omega) l;refine ⟨g,?_⟩;rw [kO,i];simp only [];rw [e,pp,ae rfl,o];have:p+(dc t).length+1+(dc u++lH I).length=p+(dc t++lH (u::I)).length:=by simp [lH];omega
  rw [this];simp
def qE (K:Int) (e l:Bool) (I:List TI):aa:=
 (if K=4 then 123 else 91)::((if e then [46,46] else [])++(Lib.join (I.map dc) [44]++((if l then [46,46] else [])++[endC K])))
theorem C0 (t:TI) (I:List TI):Lib.join ((t::I).map dc) [44]=dc t++lH I:=by
 rw [ga,Lib.join_cons];unfold Lib.joinTail lH;rw [tz];rfl
theorem I2 {K:Int} (w:K=3\/K=4) {e l:Bool} {I:List TI} (z:1<=I.length) (C:I.length<=256) (ok:∀t∈I,OkI t) (s:(setE K e l I).2=0) {S:aa} {a:Nat} {post:aa} (h:S.drop a=qE K e l I++post):
  pq S a=.inr (K,e,l,I,a+(qE K e l I).length):=by
 obtain ⟨t,J,rfl⟩:∃t J,I=t::J:=by
  cases I with
  | nil=>simp at z
  | cons t J=>exact ⟨t,J,rfl⟩
 have d:brk (endC K)=true:=by unfold endC;split<;>decide
 have c:endC K≠44:=by unfold endC;split<;>decide
 have f:endC K≠46:=by unfold endC;split<;>decide
 unfold qE at h ⊢;rw [C0] at h ⊢;have m:S.drop (a+1)=(if e then [46,46] else [])++((dc t++lH J)++((if l then [46,46] else [])++(endC K::post))):=by
  have:=gR (u:=[if K=4 then 123 else 91]) (v:=((if e then [46,46] else [])++((dc t++lH J)++((if l then [46,46] else [])++[endC K])))++post) (by rw [h];rfl);rw [show a+1=a+[if K=4 then (123:UInt8) else 91].length from rfl,this];simp only [fV,FA]
 have p:dts (S.drop (a+1))=e:=by
  rw [m];cases e
  ·simp only [br,aB,dW];rw [fV];exact rZ (J2 (ok t mW) _)
  ·rfl
 have n:S.drop (if e then a+3 else a+1)=dc t++(lH J++((if l then [46,46] else [])++(endC K::post))):=by
  rw [<-fV];cases e
  ·simpa using m
  ·have:=gR (u:=[46,46]) m;simpa using this
 have D:endT ((if l then [46,46] else [])++(endC K::post)):=by
  cases l
  ·exact rH d
  ·exact rH (by decide)
 have k:((if l then [46,46] else [])++(endC K::post)).head?≠some 44:=by
  cases l
  ·simp [c]
  ·simp
 have g:dts ((if l then [46,46] else [])++(endC K::post))=l:=by
  cases l
  ·cases i:dts ((if false then [46,46] else [])++(endC K::post))
   ·rfl
   ·obtain ⟨r,o⟩:=vp.1 i;simp at o;exact absurd o.1 f
  ·rfl
 obtain ⟨P,y⟩:=yK d c D k (λi=>by rw [g] at i;subst i;rfl) J t 256 (if e then a+3 else a+1) [] [] (ok t mW) (λu q=>ok u (fN _ q)) (by simp at C;omega) n;have j:S.drop ((if e then a+3 else a+1)+(dc t++lH J).length)=(if l then [46,46] else [])++(endC K::post):=by
  apply gR;rw [n,fV]
 have b:ur S a K=.inr (K,e,l,t::J,a+(((if K=4 then 123 else 91)::((if e then [46,46] else [])++((dc t++lH J)++((if l then [46,46] else [])++[endC K]))):aa).length)):=by
  unfold ur;rw [p,y];simp only [dW];unfold endL;rw [j,g];generalize B:(if e then a+3 else a+1)+(dc t++lH J).length=X at j ⊢;have x:S.drop (if l then X+2 else X)=endC K::post:=by
   cases l
   ·simpa using j
   ·have:=gR (u:=[46,46]) j;simpa using this
  rw [x,pp,ae rfl,ae s];have:(if l then X+2 else X)+1=a+(((if K=4 then 123 else 91)::((if e then [46,46] else [])++((dc t++lH J)++((if l then [46,46] else [])++[endC K]))):aa).length):=by
   rw [<-B];cases e<;>cases l<;>simp<;>omega
  rw [this]
 unfold pq;have A:(S.drop a).head?=some (if K=4 then 123 else 91):=by rw [h];rfl
 rw [A];rcases w with rfl | rfl
 ·rw [ae (show some (if (3:Int)=4 then (123:UInt8) else 91)=some 91 from rfl)];exact b
 ·rw [ab (show ¬some (if (4:Int)=4 then (123:UInt8) else 91)=some 91 by decide),ae (show some (if (4:Int)=4 then (123:UInt8) else 91)=some 123 from rfl)];exact b
theorem wJ {x y:TD} {r all:Bool} (h:itE x r y all=0):cF x=0/\(r=true->cF y=0)/\(r=false->y=d0)/\itE x r y false=0:=by
 by_cases hc:cF x=0
 ·refine ⟨hc,?_⟩;cases r
  ·rw [Wl hc] at h ⊢;have hy:eqD y d0=true:=by
    cases a:eqD y d0
    ·rw [a] at h;simp at h
    ·rfl
   exact ⟨λh=>(by cases h),λ_=>oI.1 hy,by rw [hy];simp⟩
  ·by_cases hy:cF y=0
   ·rw [UM hc hy] at h ⊢;have b:ordB x y=true:=by
     cases a:ordB x y
     ·rw [a] at h;simp at h
     ·rfl
    exact ⟨λ_=>hy,λh=>(by cases h),by rw [b];simp⟩
   ·rw [Ri hc hy] at h;exact absurd h hy
 ·rw [WS hc] at h;exact absurd h hc
theorem VT {t:TI} {all:Bool} (hs:smI t) (h:itI t all=0):OkI t:=by
 obtain ⟨a,b,c,_⟩:=wJ h;exact ⟨hs,a,b,c⟩
theorem Fq {x y:TD} (r:Bool) (hx:smT x) (hy:smT y):gC 20000000 x r y=some (if itE x r y false=0 then (dc (mkI x r y),0) else ([],itE x r y false)):=by
 unfold gC;rw [E5 r hx hy,ae (.inl rfl),show ((3:Int)==4)=false from rfl];simp only [ob];by_cases h:itE x r y false=0
 ·obtain ⟨a,b,c,_⟩:=wJ h;rw [ae h,h,dfT hx a];simp only [dA,af,u2];cases r
  ·rfl
  ·have d:=mV hx a;have e:=mV hy (b rfl);simp only [ah,dfT hy (b rfl)];rw [ci (by simp only [az,aX];omega)];simp only [];rw [ci (by simp only [aU,az,aX];omega)];rfl
 ·rw [ab h,show (itE x r y false != 0)=true from by simp [h]];rfl
theorem Nj {t:TI} (ok:OkI t):hZ 20000000 (iF t) (rT t) (iT t)=some (dc t):=by
 unfold hZ dc;rw [rfT ok.sm.1 ok.a];cases c:rT t
 ·rfl
 ·have d:=mV ok.sm.1 ok.a;have e:=mV ok.sm.2 (ok.b c);simp only [ah,ob,rfT ok.sm.2 (ok.b c)];rw [ci (by simp only [az,aX];omega)];simp only [];rw [ci (by simp only [aU,az,aX];omega)];simp only [aJ,fV]
theorem DW:∀{I:List TI},(∀t∈I,OkI t)->(lH I).length<=77*I.length
 | [],_=>by simp [lH]
 | t::I,h=>by
  have c:=xb (h t mW);have b:=DW (I:=I) λu a=>h u (fN _ a);have:lH (t::I)=(44::dc t)++lH I:=by simp [lH]
  rw [this];simp only [aU,az];omega
theorem rj {I:List TI} (h:∀t∈I,OkI t):(Lib.join (I.map dc) [44]).length<=77*I.length:=by
 cases I with
 | nil=>simp [Lib.join_nil]
 | cons t I=>
  have c:=xb (h t mW);have b:=DW (I:=I) λu a=>h u (fN _ a);rw [C0];simp only [aU,az];omega
theorem Ks {I:List TI} {i:Nat} {t:TI} (h:I[i]?=some t) (w:aa) (b:w=dc t):((I.take i).map dc++List.replicate (I.length - i) []).set i w=(I.take (i+1)).map dc++List.replicate (I.length - (i+1)) []:=by
 have hi:i<I.length:=(re.1 h).1;obtain ⟨k,c⟩:∃k,I.length - i=k+1:=⟨I.length - i - 1,by omega⟩;have a:((I.take i).map dc).length=i:=by simp;omega
 rw [c,sY,show I.length - (i+1)=k by omega,pN,h,b];rw [List.set_append_right _ _ (by omega),a,BD];simp
theorem MW {I:List TI} (hs:∀t∈I,OkI t/\itI t false=0) (h:I.length<=1000) (K:Int) (D:TD) (KF:Int) (DF:TD) (KT:Int) (DT:TD) (e l:Bool):∀(r i:Nat),i+r=I.length->∀N,r<N->
  ar (cn 20000000) N (len I,(i:Int),I,K,D,KF,DF,KT,DT,e,l,(I.take i).map dc++List.replicate (I.length - i) [])=some (I,K,D,KF,DF,KT,DT,e,l,I.map dc):=by
 intro r
 induction r with
 | zero=>
  intro i hi N f;obtain ⟨N,rfl⟩:∃k,N=k+1:=⟨N - 1,by omega⟩;obtain rfl:i=I.length:=by omega
  have:cn 20000000 (len I,((I.length:Nat):Int),I,K,D,KF,DF,KT,DT,e,l,(I.take I.length).map dc++List.replicate (I.length - I.length) [])=some (.inr (I,K,D,KF,DF,KT,DT,e,l,I.map dc)):=by
   unfold cn;simp only [u12,u11,u10,u9,u8,u7,u6,u5,u4,u3,u2];rw [aq (show ¬((I.length:Nat):Int)<len I by show ¬((I.length:Nat):Int)<((I.length:Nat):Int);omega),BD,md];simp
  rw [ar,this]
 | succ r ih=>
  intro i hi N f;obtain ⟨N,rfl⟩:∃k,N=k+1:=⟨N - 1,by omega⟩;have a:i<I.length:=by omega
  have b:I[i]?=some I[i]:=be a;obtain ⟨ok,c⟩:=hs _ (Ha a);generalize I[i]=t at b ok c;have g:((I.take i).map dc++List.replicate (I.length - i) ([]:aa)).length=I.length:=by simp;omega
  have:cn 20000000 (len I,(i:Int),I,K,D,KF,DF,KT,DT,e,l,(I.take i).map dc++List.replicate (I.length - i) [])=some (.inl (len I,((i+1:Nat):Int),I,K,D,KF,DF,KT,DT,e,l,(I.take (i+1)).map dc++List.replicate (I.length - (i+1)) [])):=by
   unfold cn;simp only [u12,u11,u10,u9,u8,u7,u6,u5,u4,u3,u2];rw [am (show (i:Int)<len I by show (i:Int)<((I.length:Nat):Int);omega),eG a];simp only [ah,ob,b];rw [show gC 20000000 (iF t) (d8 t).2.2.1 (d8 t).2.2.2=some (dc t,0) from (Fq (rT t) ok.sm.1 ok.sm.2).trans (by rw [ae (show itE (iF t) (rT t) (iT t) false=0 from c)])];simp only [g];rw [eG a];simp only [];obtain ⟨w,d⟩:∃w,((I.take i).map dc++List.replicate (I.length - i) ([]:aa))[i]?=some w:=⟨_,be (by omega)⟩;rw [d];simp only [u2];rw [Ks b _ rfl,ru (by omega)]
  rw [ar,this];exact ih (i+1) (by omega) N (by omega)
structure SetP (K:Int) (D:TD) (KF:Int) (DF:TD) (KT:Int) (DT:TD) (e l:Bool) (I:List TI):Prop where
 kind:K=3\/K=4
 d:D=d0
 kf:KF=0
 df:DF=d0
 kt:KT=0
 dt:DT=d0
 one:1<=I.length
 most:I.length<=256
 its:∀t∈I,itI t (K==4)=0
 set:(setE K e l I).2=0
theorem zH {A:Type} {f:Nat->A->Int}:∀{L:List A} {k:Nat},sV f k L=none->∀t∈L,∃i,f i t=0
 | u::L,k,h,t,a=>by
  rw [sV] at h;split at h
  ·cases h
  ·rename_i b;rcases dr.1 a with rfl | a
   ·exact ⟨k,Ns.1 b⟩
   ·exact zH h t a
theorem Hi {A:Type} {f:Nat->A->Int}:∀{L:List A} {k:Nat} {p:Nat×Int},sV f k L=some p->p.2≠0
 | u::L,k,p,h=>by
  rw [sV] at h;split at h
  ·rename_i a;cases h;exact a
  ·exact Hi h
theorem VZ {K:Int} {e l:Bool} {n i:Nat} {t:TI} (h:errI K e l n i t=0):itI t (K==4)=0:=by
 unfold errI at h;split at h
 ·rename_i a;exact absurd h a
 ·rename_i a;exact Ns.1 a
theorem xu {K:Int} (g:K=3\/K=4) {D:TD} {KF:Int} {DF:TD} {KT:Int} {DT:TD} {e l:Bool} {I:List TI} (h:(ia K D KF DF KT DT e l I).2=0):SetP K D KF DF KT DT e l I:=by
 have r:=h;unfold ia at h;rw [ab (by omega)] at h;split at h
 ·simp at h
 ·rename_i f;rw [ab (by omega),ab (by omega)] at h;split at h
  ·simp at h
  ·split at h
   ·simp at h
   ·unfold yD at h;have m:D=d0/\KF=0/\DF=d0/\KT=0/\DT=d0:=by
     unfold unuB at f;have k1:(K==1)=false:=by rcases g with rfl | rfl<;>rfl
     have k2:(K==2)=false:=by rcases g with rfl | rfl<;>rfl
     have k:(K==3||(K==4||(decide (I.length=0)&&(!e&&!l))))=true:=by rcases g with rfl | rfl<;>rfl
     rw [k1,k2,k] at f;generalize q:eqD D d0=z1 at f;generalize n:eqD DF d0=z2 at f;generalize o:eqD DT d0=s at f;simp only [pG,cv,yd,D1,iY,ly,not_or,Bool.not_eq_false,aA,bG] at f;obtain ⟨a,⟨b,c⟩,d,e⟩:=f;exact ⟨oI.1 (q.trans a),b,oI.1 (n.trans c),d,oI.1 (o.trans e)⟩
    obtain ⟨rfl,rfl,rfl,rfl,rfl⟩:=m;cases hs:sV (errI K e l I.length) 0 I with
    | some p=>rw [hs] at h;exact absurd h (Hi hs)
    | none=>
     refine ⟨g,rfl,rfl,rfl,rfl,rfl,by omega,by omega,λt j=>?_,r⟩;obtain ⟨i,hi⟩:=zH hs t j;exact VZ hi
theorem C5 {K:Int} {D:TD} {KF:Int} {DF:TD} {KT:Int} {DT:TD} {e l:Bool} {I:List TI} (p:SetP K D KF DF KT DT e l I) (hs:∀t∈I,smI t):∀t∈I,OkI t/\itI t false=0:=
 λt a=>⟨VT (hs t a) (p.its t a),(wJ (p.its t a)).2.2.2⟩
def Fb (K:Int):Prop:=K=3\/K=4
instance (K:Int):Decidable (Fb K):=inferInstanceAs (Decidable (K=3\/K=4))
theorem SD {K:Int} {D:TD} {KF:Int} {DF:TD} {KT:Int} {DT:TD} {e l:Bool} {I:List TI} (h:smE D DF DT I):
  lR 20000000 K D KF DF KT DT e l I=some (if Fb K then (if (ia K D KF DF KT DT e l I).2=0 then (qE K e l I,0) else ([],(ia K D KF DF KT DT e l I).2)) else ([],18)):=by
 have c:∀q:Fb K,(ob (iM 20000000 K D KF DF KT DT e l I) λg=>(cond (g != 0) (some ([],g)) (cond (decide ((0:Int)<=(len I))&&(decide ((len I)<=(len I))&&decide ((len I)<=(67108864:Int)))) (ob (ar (cn 20000000) 20000000 ((len I),0,I,K,D,KF,DF,KT,DT,e,l,(List.replicate (Int.toNat (len I)) ([]:aa)))) (u10 λ_ o _ _ _ _ _ s k a=>(ob (eK 20000000 o) (u2 λf b=>(cond s (ob (cat f ([46,46]:aa)) λi=>(cond k (ob (cat ([46,46]:aa) b) λu=>(cond (Nat.ble (List.length a) 140737488355328&&Nat.ble (List.length (Lib.join a ([44]:aa))) 140737488355328) (ob (cat i (Lib.join a ([44]:aa))) λr=>(ob (cat r u) λx=>(some (x,0)))) none)) (cond (Nat.ble (List.length a) 140737488355328&&Nat.ble (List.length (Lib.join a ([44]:aa))) 140737488355328) (ob (cat i (Lib.join a ([44]:aa))) λC=>(ob (cat C b) λB=>(some (B,0)))) none))) (cond k (ob (cat ([46,46]:aa) b) λA=>(cond (Nat.ble (List.length a) 140737488355328&&Nat.ble (List.length (Lib.join a ([44]:aa))) 140737488355328) (ob (cat f (Lib.join a ([44]:aa))) λy=>(ob (cat y A) λp=>(some (p,0)))) none)) (cond (Nat.ble (List.length a) 140737488355328&&Nat.ble (List.length (Lib.join a ([44]:aa))) 140737488355328) (ob (cat f (Lib.join a ([44]:aa))) λz=>(ob (cat z b) λv=>(some (v,0)))) none))))))) none))) =
   some (if (ia K D KF DF KT DT e l I).2=0 then (qE K e l I,(0:Int)) else ([],(ia K D KF DF KT DT e l I).2)):=by
  intro q;rw [Hz h];simp only [ob];by_cases j:(ia K D KF DF KT DT e l I).2=0
  ·have P:=xu q j;have J:=P.most;have oks:=C5 P h.2.2.2;have H:=rj λt E=>(oks t E).1;rw [ae j,j];have d:=MW oks (by omega) K D KF DF KT DT e l I.length 0 (by omega) 20000000 (by omega);simp only [dA,af];have c3:(decide ((0:Int)<=(len I))&&(decide ((len I)<=(len I))&&decide ((len I)<=(67108864:Int))))=true:=by
    have:len I=((I.length:Nat):Int):=rfl;rw [this];simp only [aA,ck];omega
   rw [c3,ah,show (List.replicate (Int.toNat (len I)) ([]:aa))=(I.take 0).map dc++List.replicate (I.length - 0) [] from by simp];rw [show ar (cn 20000000) 20000000 (len I,(0:Int),I,K,D,KF,DF,KT,DT,e,l,(I.take 0).map dc++List.replicate (I.length - 0) [])=_ from d];have G:(Nat.ble (List.length (I.map dc)) 140737488355328&&Nat.ble (List.length (Lib.join (I.map dc) ([44]:aa))) 140737488355328)=true:=by
    simp only [aA];exact ⟨di (by simp;omega),di (by omega)⟩
   simp only [u10,u9,u8,u7,u6,u5,u4,u3,u2,yL q,G,ah];unfold qE;generalize F:(if K=4 then (123:UInt8) else 91)=b1;generalize endC K=b2;generalize Lib.join (I.map dc) [44]=w at H;cases e<;>cases l<;>simp only [ah,af]
   ·rw [ci (by simp only [az,aX];omega)];simp only [];rw [ci (by simp only [aU,az,aX];omega)];simp
   ·rw [ci (by simp only [az,aX];omega)];simp only [];rw [ci (by simp only [az,aX];omega)];simp only [];rw [ci (by simp only [aU,az,aX];omega)];simp
   ·rw [ci (by simp only [az,aX];omega)];simp only [];rw [ci (by simp only [aU,az,aX];omega)];simp only [];rw [ci (by simp only [aU,az,aX];omega)];simp
   ·rw [ci (by simp only [az,aX];omega)];simp only [];rw [ci (by simp only [az,aX];omega)];simp only [];rw [ci (by simp only [aU,az,aX];omega)];simp only [];rw [ci (by simp only [aU,az,aX];omega)];simp
  ·rw [ab j,show ((ia K D KF DF KT DT e l I).2 != 0)=true from by simp [j]];rfl
 unfold lR;by_cases m:K=3
 ·rw [show (K != 3)=false from by simp [m],ae (.inl m)];exact c (.inl m)
 ·rw [show (K != 3)=true from by simp [m],ah];by_cases n:K=4
  ·rw [show (K != 4)=false from by simp [n],ae (.inr n)];exact c (.inr n)
  ·rw [show (K != 4)=true from by simp [n],ab (by rintro (h | h)<;>contradiction)];rfl
theorem LL (ws:List (aa)) (w:aa) (h:ws≠[]):Lib.join (ws++[w]) [44]=Lib.join ws [44]++[44]++w:=by
 cases ws with
 | nil=>exact absurd rfl h
 | cons a r=>
  rw [eU,Lib.join_cons,Lib.join_cons];unfold Lib.joinTail;simp
theorem Je {I:List TI} (hs:∀t∈I,OkI t) (o:I.length<=1000) (pre:aa) (hp:pre.length<=10) (K:Int) (D:TD) (KF:Int) (DF:TD) (KT:Int) (DT:TD) (e l:Bool):∀(r i:Nat),i+r=I.length->∀N,r<N->
  ar (bU 20000000) N (pre++Lib.join ((I.take i).map dc) [44],(i:Int),I,K,D,KF,DF,KT,DT,e,l)=some (pre++Lib.join (I.map dc) [44],I,K,D,KF,DF,KT,DT,e,l):=by
 intro r
 induction r with
 | zero=>
  intro i hi N j;obtain ⟨N,rfl⟩:∃k,N=k+1:=⟨N - 1,by omega⟩;obtain rfl:i=I.length:=by omega
  have:∀s,bU 20000000 (s,((I.length:Nat):Int),I,K,D,KF,DF,KT,DT,e,l)=some (.inr (s,I,K,D,KF,DF,KT,DT,e,l)):=by
   intro s;unfold bU;simp only [u11,u10,u9,u8,u7,u6,u5,u4,u3,u2];rw [aq (show ¬((I.length:Nat):Int)<len I by show ¬((I.length:Nat):Int)<((I.length:Nat):Int);omega)];rfl
  rw [ar,this,md]
 | succ r ih=>
  intro i hi N j;obtain ⟨N,rfl⟩:∃k,N=k+1:=⟨N - 1,by omega⟩;have a:i<I.length:=by omega
  have d:I[i]?=some I[i]:=be a;have ok:=hs _ (Ha a);generalize I[i]=t at d ok;have p:=rj (I:=I.take i) λu f=>hs u (List.mem_of_mem_take f);have g:(I.take i).length<=1000:=by rw [db];omega
  have n:=xb ok;have b:(I.take (i+1)).map dc=(I.take i).map dc++[dc t]:=by rw [pN,d];simp
  have:bU 20000000 (pre++Lib.join ((I.take i).map dc) [44],(i:Int),I,K,D,KF,DF,KT,DT,e,l)=some (.inl (pre++Lib.join ((I.take (i+1)).map dc) [44],((i+1:Nat):Int),I,K,D,KF,DF,KT,DT,e,l)):=by
   unfold bU;simp only [u11,u10,u9,u8,u7,u6,u5,u4,u3,u2];rw [am (show (i:Int)<len I by show (i:Int)<((I.length:Nat):Int);omega),eG a];have hit:hZ 20000000 (iF t) (d8 t).2.2.1 (d8 t).2.2.2=some (dc t):=Nj ok;simp only [ah,ob,d,hit];rw [b];by_cases m:i=0
   ·subst m;rw [aq (show ¬((0:Nat):Int)>0 by omega),af,ci (by simp only [aU];omega),ru (by omega)];simp [Lib.join_nil,Lib.join_one]
   ·have c:(I.take i).map dc≠[]:=by
     intro h;have:=bY List.length h;rw [u0,db,aX] at this;omega
    rw [am (show (i:Int)>0 by omega),ah,ci (by simp only [aU,az,aX];omega)];simp only [];rw [ci (by simp only [aU,az,aX];omega),ru (by omega),LL _ _ c];simp
  rw [ar,this];exact ih (i+1) (by omega) N (by omega)
theorem Md {K:Int} (j:Fb K) {I:List TI} (hs:∀t∈I,OkI t) (k:I.length<=1000) (D:TD) (KF:Int) (DF:TD) (KT:Int) (DT:TD) (e l:Bool):lq 20000000 K D KF DF KT DT e l I=some (qE K e l I):=by
 have h:=rj hs;have b:=λ(pre:aa) (hp:pre.length<=10)=>Je hs k pre hp K D KF DF KT DT e l I.length 0 (by omega) 20000000 (by omega);have i:Lib.join ((I.take 0).map dc) [44]=[]:=rfl;rw [i] at b;simp only [lw] at b;unfold lq qE;have f:=b [123,46,46] (by simp);have g:=b [123] (by simp);have l3:=b [91,46,46] (by simp);have d:=b [91] (by simp);rw [show ((0:Nat):Int)=0 from rfl] at f g l3 d;rw [f,g,l3,d];generalize Lib.join (I.map dc) [44]=w at h;have a:∀p q:aa,p.length<=10->q.length<=10->cat (p++w) q=some (p++w++q):=λp q hp m=>ci (by simp only [aU];omega);have c:∀p q r:aa,p.length<=10->q.length<=10->r.length<=10->cat (p++w++q) r=some (p++w++q++r):=λp q r hp m n=>ci (by simp only [aU];omega);rcases j with rfl | rfl
 ·rw [show ((3:Int)==4)=false from rfl];cases e<;>cases l<;>simp only [ah,af,ob,u10,u9,u8,u7,u6,u5,u4,u3,u2]
  ·simp only [show ((3:Int)==4)=false from rfl,show ((4:Int)==4)=true from rfl,ah,af];rw [a _ _ (by simp) (by simp)];simp [endC]
  ·rw [a _ _ (by simp) (by simp)];simp only [show ((3:Int)==4)=false from rfl,show ((4:Int)==4)=true from rfl,ah,af];rw [c _ _ _ (by simp) (by simp) (by simp)];simp [endC]
  ·simp only [show ((3:Int)==4)=false from rfl,show ((4:Int)==4)=true from rfl,ah,af];rw [a _ _ (by simp) (by simp)];simp [endC]
  ·rw [a _ _ (by simp) (by simp)];simp only [show ((3:Int)==4)=false from rfl,show ((4:Int)==4)=true from rfl,ah,af];rw [c _ _ _ (by simp) (by simp) (by simp)];simp [endC]
 ·rw [show ((4:Int)==4)=true from rfl];cases e<;>cases l<;>simp only [ah,af,ob,u10,u9,u8,u7,u6,u5,u4,u3,u2]
  ·simp only [show ((3:Int)==4)=false from rfl,show ((4:Int)==4)=true from rfl,ah,af];rw [a _ _ (by simp) (by simp)];simp [endC]
  ·rw [a _ _ (by simp) (by simp)];simp only [show ((3:Int)==4)=false from rfl,show ((4:Int)==4)=true from rfl,ah,af];rw [c _ _ _ (by simp) (by simp) (by simp)];simp [endC]
  ·simp only [show ((3:Int)==4)=false from rfl,show ((4:Int)==4)=true from rfl,ah,af];rw [a _ _ (by simp) (by simp)];simp [endC]
  ·rw [a _ _ (by simp) (by simp)];simp only [show ((3:Int)==4)=false from rfl,show ((4:Int)==4)=true from rfl,ah,af];rw [c _ _ _ (by simp) (by simp) (by simp)];simp [endC]
theorem Ni (n:Nat) (K:Int) (D:TD) (KF:Int) (DF:TD) (KT:Int) (DT:TD) (c:Nat) (e l:Bool) (L:List TI):jK n K D KF DF KT DT L.length c e l L=iM n K D KF DF KT DT e l L:=by
 unfold jK iM;rw [LV]
theorem Fh (n N:Nat) (i K:Int) (D:TD) (KF:Int) (DF:TD) (KT:Int) (DT:TD) (c:Nat) (e l:Bool) (L:List TI) (ws:List (aa)):
  ar (fX n) N (L.length,c,len L,i,L,K,D,KF,DF,KT,DT,L.length,c,e,l,ws)=(ar (cn n) N (len L,i,L,K,D,KF,DF,KT,DT,e,l,ws)).map (u10 λb o h k q m p g d a=>(b,o,h,k,q,m,p,b.length,c,g,d,a)):=
 yJ (s:=cn n) (s':=fX n) (u12 λr f b o h k q m p g d a=>(b.length,c,r,f,b,o,h,k,q,m,p,b.length,c,g,d,a)) _ (by
  rintro ⟨r,f,b,o,h,k,q,m,p,g,d,a⟩;unfold cn fX;simp only [u16,u15,u14,u13,u12,u11,u10,u9,u8,u7,u6,u5,u4,u3,u2];cases decide (f<r)
  ·rfl
  ·simp only [ah];cases ix b.length f with
   | none=>rfl
   | some i=>
    simp only [ob];cases b[i]? with
    | none=>rfl
    | some t=>
     simp only [ob];cases gC n (iF t) (d8 t).2.2.1 (d8 t).2.2.2 with
     | none=>rfl
     | some v=>
      simp only [ob];cases ix a.length f with
      | none=>rfl
      | some j=>
       simp only [ob];cases a[j]?<;>rfl) N (len L,i,L,K,D,KF,DF,KT,DT,e,l,ws)
theorem UX (n:Nat) (K:Int) (D:TD) (KF:Int) (DF:TD) (KT:Int) (DT:TD) (c:Nat) (e l:Bool) (L:List TI):mT n K D KF DF KT DT L.length c e l L=lR n K D KF DF KT DT e l L:=by
 unfold mT lR;rw [Ni,show ar (fX n) n (L.length,c,((L.length:Nat):Int),0,L,K,D,KF,DF,KT,DT,L.length,c,e,l,List.replicate (Int.toNat ((L.length:Nat):Int)) [])=_ from Fh n n 0 K D KF DF KT DT c e l L _];rw [show List.replicate (Int.toNat ((L.length:Nat):Int)) ([]:aa)=List.replicate (Int.toNat (len L)) [] from rfl];cases ar (cn n) n (len L,0,L,K,D,KF,DF,KT,DT,e,l,List.replicate (Int.toNat (len L)) []) with
 | none=>rfl
 | some y=>rfl
theorem Jv {K:Int} (b:Fb K) {e l:Bool} {I:List TI} (d:1<=I.length) (c:I.length<=256) (ok:∀t∈I,OkI t) (a:(setE K e l I).2=0):yC (qE K e l I)=.inr (K,e,l,I):=by
 unfold yC;rw [I2 b d c ok a (post:=[]) (by rw [cf,lw])];simp only [];rw [ab (by omega)]
theorem Xy {c:UInt8} (h:mkOf c≠0):mt (mkOf c)=[c]:=by
 unfold mkOf at h ⊢;by_cases d:c=63
 ·subst d;rfl
 ·rw [ab d] at h ⊢;by_cases a:c=126
  ·subst a;rfl
  ·rw [ab a] at h ⊢;by_cases b:c=37
   ·subst b;rfl
   ·rw [ab b] at h;exact absurd rfl h
theorem Sl (l:aa):l=mt (mkS l)++l.drop (mkN l):=by
 cases l with
 | nil=>rfl
 | cons c r=>
  unfold mkN;show c::r=mt (mkOf c)++_;by_cases h:mkOf c=0
  ·rw [ae (show mkS (c::r)=0 from h),h];rfl
  ·rw [ab (show ¬mkS (c::r)=0 from h),Xy h];rfl
theorem He (S:aa) (p:Nat):S.drop p=mt (mkS (S.drop p))++S.drop (mkE S p):=by
 have:=Sl (S.drop p);rw [jp] at this;exact this
theorem JV (S:aa) (p:Nat):mkE S p=p+(mt (mkS (S.drop p))).length:=by
 unfold mkE mkN;have a:=C3 (S.drop p);generalize mkS (S.drop p)=k at *;rcases (by omega:k=0\/k=1\/k=2\/k=3) with rfl | rfl | rfl | rfl<;>rfl
theorem CP {S:aa} {p:Nat} (h:¬twoN (S.drop p)<2):S.drop p=(S.drop p).take 2++S.drop (p+2)/\((S.drop p).take 2).length=2/\∀c∈(S.drop p).take 2,isDX c=true:=by
 have b:=vA h;have a:twoN (S.drop p)=2:=by
  have:twoN (S.drop p)<=2:=by
   unfold twoN;have:∀(k:Nat) (l:aa),bE isDX k l<=k:=by
    intro k
    induction k with
    | zero=>intro l;cases l<;>simp [bE]
    | succ k ih=>
     intro l;cases l with
     | nil=>simp [bE]
     | cons c r=>
      simp only [bE];split
      ·have:=ih r;omega
      ·omega
   exact this 2 _
  omega
 refine ⟨by rw [<-jp];exact (uE 2 _).symm,by simp;omega,?_⟩;have:=zl (p:=isDX) 2 (S.drop p);rw [show bE isDX 2 (S.drop p)=2 from a] at this;exact this
theorem zN {S:aa} {p:Nat} (h:¬fw 45 (S.drop p)=0):S.drop p=45::S.drop (p+1):=by
 cases a:S.drop p with
 | nil=>rw [a] at h;exact absurd rfl h
 | cons c r=>
  rw [a,kN] at h;by_cases hc:c=45
  ·subst hc;rw [<-jp,a];rfl
  ·rw [ab hc] at h;exact absurd rfl h
theorem uW {S:aa} {p k:Nat} {w:aa} (h:S.drop (mkE S p)=w++S.drop (mkE S p+k)):S.drop p=cw (mkS (S.drop p)) (mkS (S.drop (mkE S p+k))) w++S.drop (mkE S (mkE S p+k)):=by
 unfold cw;rw [fV,fV,<-He,<-h,<-He]
theorem LA {S:aa} {a:Nat} {g l:Bool} {dg:aa} {x s:Nat} {m d:aa} {M P:Nat×Nat×Nat} {e:Nat} (b:qH S a=.inr (g,l,dg,x,s,m,d,M,P,e)):
  ∃A B,MkD A B m d/\M=spM A B/\P.1=a+(mt A.1).length/\S.drop a=rawD A B g l dg (x:Int) (s:Int) m d++S.drop e:=by
 unfold qH at b;cases hy:pT (S.drop (mkE S a)) with
 | inl k=>rw [hy] at b;cases b
 | inr y=>
  obtain ⟨G,E,t,I,s',k⟩:=y;obtain ⟨K,O,_⟩:=qK hy;have F:S.drop (mkE S a)=gM G E t (I:Int) (s':Int)++S.drop (mkE S a+k):=by
   rw [<-K,<-jp];exact (uE k _).symm
  have w0:=uW F;have c:=λp=>C3 (S.drop p);rw [hy] at b;simp only [] at b;by_cases r:0<s'\/fw 45 (S.drop (mkE S (mkE S a+k)))=0
  ·rw [ae r] at b;simp only [oO,aY] at b;obtain ⟨rfl,rfl,rfl,rfl,rfl,rfl,rfl,rfl,rfl,rfl⟩:=b;refine ⟨(mkS (S.drop a),0,0),(mkS (S.drop (mkE S a+k)),0,0),⟨c _,by simp,by simp,c _,by simp,by simp,λ_=>⟨rfl,rfl⟩,λ_=>⟨rfl,rfl⟩⟩,rfl,JV S a,?_⟩;unfold rawD;simpa using w0
  ·rw [ab r] at b;have z:=zN (λh=>r (.inr h));unfold rd2 at b;simp only [] at b;generalize D:mkE S (mkE S a+k)=i at *;by_cases u:twoN (S.drop (mkE S (i+1)))<2
   ·rw [ae u] at b;cases b
   rw [ab u] at b;obtain ⟨N,v,Q⟩:=CP u;have w:=uW N;have f:(S.drop (mkE S (i+1))).take 2≠[]:=λh=>by rw [h] at v;simp at v
   by_cases o:fw 45 (S.drop (mkE S (mkE S (i+1)+2)))=0
   ·rw [ae o] at b;simp only [oO,aY] at b;obtain ⟨rfl,rfl,rfl,rfl,rfl,rfl,rfl,rfl,rfl,rfl⟩:=b;refine ⟨(mkS (S.drop a),mkS (S.drop (i+1)),0),(mkS (S.drop (mkE S a+k)),mkS (S.drop (mkE S (i+1)+2)),0),⟨c _,c _,by simp,c _,c _,by simp,λh=>absurd h f,λ_=>⟨rfl,rfl⟩⟩,rfl,JV S a,?_⟩;unfold rawD;rw [ab f,ae rfl,lw,fV,eU,<-w,<-z];exact w0
   ·rw [ab o] at b;have L:=zN o;unfold rd3 at b;generalize C:mkE S (mkE S (i+1)+2)=n at *;by_cases q:twoN (S.drop (mkE S (n+1)))<2
    ·rw [ae q] at b;cases b
    rw [ab q] at b;obtain ⟨H,u2,u3⟩:=CP q;have J:=uW H;have j:(S.drop (mkE S (n+1))).take 2≠[]:=λh=>by rw [h] at u2;simp at u2
    simp only [oO,aY] at b;obtain ⟨rfl,rfl,rfl,rfl,rfl,rfl,rfl,rfl,rfl,rfl⟩:=b;refine ⟨(mkS (S.drop a),mkS (S.drop (i+1)),mkS (S.drop (n+1))),(mkS (S.drop (mkE S a+k)),mkS (S.drop (mkE S (i+1)+2)),mkS (S.drop (mkE S (n+1)+2))),⟨c _,c _,c _,c _,c _,c _,λh=>absurd h f,λh=>absurd h j⟩,rfl,JV S a,?_⟩;unfold rawD;rw [ab f,ab j,fV,fV,eU,eU,<-J,<-L,<-w,<-z];exact w0
def okC (c:UInt8):Bool:=isDX c||(isMk c||(c==45||(c==89||(c==69||c==83))))
def isLv (c:UInt8):Bool:=c==69||(c==83||isMk c)
theorem SY:∀c:UInt8,(!okC c||decide (c.toNat<128))=true:=iW (λc=>!okC c||decide (c.toNat<128)) (by decide +kernel)
theorem Vh {c:UInt8} (h:okC c=true):c.toNat<128:=by
 have:=SY c;rw [h] at this;simpa using this
def dgC (c:UInt8):UInt8:=if bw c then 100 else c
theorem Wv:∀c:UInt8,(!decide (c.toNat<128)||(decide (0<=pm (c.toNat:Int))&&(Lib.encodeRune (pm (c.toNat:Int))==[dgC c])))=true:=
 iW (λc=>!decide (c.toNat<128)||(decide (0<=pm (c.toNat:Int))&&(Lib.encodeRune (pm (c.toNat:Int))==[dgC c]))) (by decide +kernel)
theorem Ji:∀{l:aa},(∀c∈l,c.toNat<128)->zb l=l.map dgC:=by
 have a:∀(n:Nat) (l:aa),l.length=n->(∀c∈l,c.toNat<128)->Lib.mapGoD pm n l=l.map dgC:=by
  intro n
  induction n with
  | zero=>intro l b _;rw [tL b];rfl
  | succ n ih=>
   intro l b h;cases l with
   | nil=>simp at b
   | cons c r=>
    have e:Lib.decodeL (c::r)=(c.toNat,1):=B7 (l:=c::r) (i:=0) rfl (h c mW);rw [Lib.mapGoD,ab (by simp),e];have:=Wv c;rw [am (h c mW)] at this;simp only [cv,pG,aA,ck,bG] at this;rw [ae this.1,this.2];rw [show (c::r).drop 1=r from rfl,ih r (by simpa using b) (λd e=>h d (fN _ e))];rfl
 intro l h;exact a l.length l rfl h
theorem xO (s a:aa):Lib.containsAny s a=s.any (a.contains ·):=by
 induction s with
 | nil=>rfl
 | cons b l ih=>
  unfold Lib.containsAny at ih ⊢;have d:=Lib.indexAny_ge a l;rw [Lib.indexAny,qZ];cases c:a.contains b
  ·rw [ab (by simp),pG,<-ih];by_cases h:Lib.indexAny l a=-1
   ·rw [ae (by simp [h]),h]
   ·rw [ab (by simp [h])];congr 1;exact propext (by omega)
  ·simp
def vN (u:aa):aa:=match u with | c::r=>if c=45 then r else c::r | []=>[]
def ka:List (aa):=[[100,100,100,88],[100,100,88,88],[100,100,100,100,45,88,88],[100,100,100,100,45,100,100,45,88,88],[100,100,100,100,45,88,88,45,88,88]]
def simB (v:aa):Bool:=ka.contains (v.map dgC)
theorem Oo (n:Nat) (u:aa):jn n u=some (vN u):=by
 unfold jn ge fB vN;cases u with
 | nil=>rfl
 | cons c r=>
  have a:bx (c::r).length (1:Int)=some 1:=ef (i:=1) (by simp);rw [am (show (((c::r).length:Nat):Int)>=1 by rw [az];omega),ah,a];simp only [ob,n6,lX,cf];by_cases hc:c=45
  ·subst hc;rw [ae rfl];simp
  ·rw [ab hc,show (([c]:aa)==[45])=false from by simp [hc]];rfl
theorem Yv (n:Nat) (u:aa):cO n u=some (decide (u.head?=some 89)):=by
 unfold cO fj;cases u with
 | nil=>rfl
 | cons c r=>
  have a:bx (c::r).length (1:Int)=some 1:=ef (i:=1) (by simp);rw [am (show (((c::r).length:Nat):Int)>=1 by rw [az];omega),ah,a];simp only [ob,n6,lX,cf,pp,au];rw [show (([c]:aa)==[89])=decide (c=89) from by rw [tN];simp]
theorem yR (v:aa):dn 20000000 v ka=some (ka.contains v):=by
 have f:∀(r i:Nat),i+r=5->∀N,r<N->ar (bq 20000000) N (v,5,(i:Int),ka)=some (if (ka.drop i).contains v then .inl ((i+(ka.drop i).idxOf v:Nat):Int) else .inr ()):=by
  intro r
  induction r with
  | zero=>
   intro i hi N e;obtain ⟨N,rfl⟩:∃k,N=k+1:=⟨N - 1,by omega⟩;obtain rfl:i=5:=by omega
   rw [ar];rfl
  | succ r ih=>
   intro i hi N e;obtain ⟨N,rfl⟩:∃k,N=k+1:=⟨N - 1,by omega⟩;have a:i<ka.length:=by show i<5;omega
   have g:=be a;have:bq 20000000 (v,5,(i:Int),ka)=some (if v=ka[i] then .inr (.inl (i:Int)) else .inl (v,5,((i+1:Nat):Int),ka)):=by
    unfold bq;simp only [];rw [am (show (i:Int)<5 by omega),ah,eG a];simp only [ob,g];rw [show IntKind.wrap .i64 ((i:Int)+1)=((i+1:Nat):Int) from ru (by omega),kv];split<;>rfl
   rw [ar,this,sJ a];by_cases b:v=ka[i]
   ·rw [ae b];simp only [];rw [<-b];simp
   ·rw [ab b];simp only [];rw [ih (i+1) (by omega) N (by omega)];have d:(ka[i]==v)=false:=by simp;exact λh=>b h.symm
    have c:(v==ka[i])=false:=by simp;exact b
    rw [List.contains_cons,c,pG,List.idxOf_cons,d];simp only [af];rw [show i+1+List.idxOf v (List.drop (i+1) ka)=i+(List.idxOf v (List.drop (i+1) ka)+1) by omega]
 have:=f 5 0 rfl 20000000 (by omega);unfold dn e7;rw [show ar (bq 20000000) 20000000 (v,(((List.length ka):Nat):Int),0,ka)=_ from this];rw [cf];cases h:ka.contains v
 ·rfl
 ·simp only [aJ,ob];rw [am (by omega)]
def lvl (u:aa) (b X:Bool) (code:Int):Int:=
 if u.any isLv then 2 else if 24<code then 2 else if (X&&!simB (vN u))=true then 2
 else if b=true\/X=true\/0<code\/u.head?=some 45\/u.head?=some 89 then 1 else 0
structure Body (T u:aa) (k:Nat):Prop where
 eq:T=u++mt k
 k4:k<4
 last:∃v z,u=v++[z]/\isMk z=false
 asc:∀c∈T,c.toNat<128
 len:T.length<=1000
theorem Body.ne {T u:aa} {k:Nat} (h:Body T u k):u≠[]:=by
 obtain ⟨v,z,rfl,_⟩:=h.last;simp
theorem Body.ascu {T u:aa} {k:Nat} (h:Body T u k):∀c∈u,c.toNat<128:=λc hc=>h.asc c (by rw [h.eq];exact List.mem_append_left _ hc)
theorem Body.lenu {T u:aa} {k:Nat} (h:Body T u k):u.length<=1000:=by
 have:=h.len;rw [h.eq,aU] at this;omega
theorem QY (c:UInt8):([63,126,37]:aa).contains c=isMk c:=by
 have:=iW (λc=>([63,126,37]:aa).contains c==isMk c) (by decide +kernel) c;simpa using this
theorem Xi {k:Nat} (h:k<4):∀c∈mt k,isMk c=true/\c≠69/\c≠83/\c≠88:=by
 rcases (by omega:k=0\/k=1\/k=2\/k=3) with rfl | rfl | rfl | rfl<;>simp [mt,isMk,mkOf]
theorem Nc {p:UInt8->Bool}:∀{l:aa},(∀c∈l,p c=true)->l.dropWhile p=[]
 | [],_=>rfl
 | c::l,h=>by rw [List.dropWhile_cons,h c mW];exact Nc λd a=>h d (fN _ a)
theorem pa {T u:aa} {k:Nat} (h:Body T u k):Lib.trimRightS T [63,126,37]=u:=by
 obtain ⟨v,z,rfl,a⟩:=h.last;unfold Lib.trimRightS;rw [h.eq,List.reverse_append,List.reverse_append];have:List.dropWhile (λx=>([63,126,37]:aa).contains x) ((mt k).reverse++([z].reverse++v.reverse))=[z].reverse++v.reverse:=by
  rw [List.dropWhile_append];have b:List.dropWhile (λx=>([63,126,37]:aa).contains x) (mt k).reverse=[]:=by
   refine Nc λc hc=>?_;rw [QY];exact (Xi h.k4 c (FZ.1 hc)).1
  rw [b];simp only [List.isEmpty_nil,aJ,List.reverse_singleton,FA];rw [List.dropWhile_cons,QY,a];simp
 rw [this];simp
theorem WB (c:UInt8):([63,126,37,69,83]:aa).contains c=isLv c:=by
 have:=iW (λc=>([63,126,37,69,83]:aa).contains c==isLv c) (by decide +kernel) c;simpa using this
theorem QB (u:aa):(u==vN u)=!decide (u.head?=some 45):=by
 unfold vN;cases u with
 | nil=>rfl
 | cons c r=>
  simp only [pp,au];by_cases hc:c=45
  ·subst hc;rw [ae rfl,am rfl];simp only [cv,aL,ne_eq];intro h;have:=bY List.length h;simp at this
  ·rw [ab hc,aq hc];simp
theorem ND (u:aa):(vN u).length<=u.length:=by
 unfold vN;split
 ·split<;>simp
 ·simp
theorem KL {u:aa}:∀c∈vN u,c∈u:=by
 unfold vN;split
 ·split
  ·intro c hc;exact fN _ hc
  ·intro c hc;exact hc
 ·intro c hc;exact hc
theorem Gj {T u:aa} {k:Nat} (h:Body T u k):(u==T)=decide (k=0):=by
 rw [h.eq];rcases (by have:=h.k4;omega:k=0\/k=1\/k=2\/k=3) with rfl | rfl | rfl | rfl
 ·simp [mt]
 all_goals
  rw [show decide _=false from rfl,aL];intro e;have:=bY List.length e;simp [mt] at this
theorem X2 {T u:aa} {k:Nat} (h:Body T u k) {x:TD} (hs:smT x):l6 20000000 T x=some (lvl u (decide (k≠0)) (hasX x.2.2.1||(hasX x.2.2.2.2.2.1||hasX x.2.2.2.2.2.2.1)) (seT x)):=by
 have j:ap10 (bP 20000000) x=some (seT x,decide (0<seT x)):=qW 20000000 _ _ _ _ _ _ _ _ _ _ hs.1;have m:=h.len;have g:=h.lenu;have l:=ND u;have i:xl T [63,126,37]=true:=by
  unfold xl;rw [di (by omega)];rfl
 have f:AT (vN u)=true:=di (by omega);have c3:xi u [63,126,37,69,83]=true:=by
  unfold xi;rw [di (show u.length<=4294967280 by omega)];have:MF u=true:=cN.2 λc hc=>di (h.ascu c hc);rw [this];rfl
 unfold l6;rw [j,fmT hs];simp only [ob,u2,i,ah,pa h,Oo,f,c3,Ji (λc hc=>h.ascu c (KL c hc)),xO,WB,Yv];rw [show ([[100,100,100,88],[100,100,88,88],[100,100,100,100,45,88,88],[100,100,100,100,45,100,100,45,88,88],[100,100,100,100,45,88,88,45,88,88]]:List (aa))=ka from rfl,yR];simp only [QB,Gj h,Bool.not_not];unfold lvl simB;rw [show (List.any u λx=>isLv x)=u.any isLv from rfl];generalize (hasX x.2.2.1||(hasX x.2.2.2.2.2.1||hasX x.2.2.2.2.2.2.1))=X;generalize ka.contains ((vN u).map dgC)=F;cases u.any isLv
 ·simp only [af,br,aB];by_cases b:24<seT x
  ·rw [ae b,am (show 0<seT x by omega),am (show seT x>=25 by omega)];rfl
  ·rw [ab b,aq (show ¬seT x>=25 by omega)];have a:(cond (decide (u.head?=some 45)) (some (1:Int)) (cond (decide (u.head?=some 89)) (some 1) (cond (!decide (k=0)) (some 1) (cond (decide (0<seT x)) (some 1) (cond X (some 1) (some 0))))))=some (if decide (k≠0)=true\/X=true\/0<seT x\/u.head?=some 45\/u.head?=some 89 then 1 else 0):=by
    by_cases a1:u.head?=some 45
    ·rw [am a1,ae (by simp [a1])];rfl
    rw [aq a1];by_cases a2:u.head?=some 89
    ·rw [am a2,ae (by simp [a2])];rfl
    rw [aq a2];by_cases d:k=0
    ·rw [am d];by_cases e:0<seT x
     ·rw [am e,ae (by simp [e])];rfl
     rw [aq e];cases X
     ·rw [ab (by simp [a1,a2,d,e])];rfl
     ·rw [ae (by simp)];rfl
    ·rw [aq d,ae (by simp [d])];rfl
   cases X
   ·simp only [af,xT,br,aB];simp only [af,br] at a;rw [<-a];cases decide (0<seT x)<;>rfl
   ·cases F
    ·cases decide (0<seT x)<;>rfl
    ·simp only [ah,cv,af,yH,br,aB];simp only [ah] at a;rw [<-a];cases decide (0<seT x)<;>rfl
 ·rfl
def C6:aa->Int->Int->Option (Int×Int)
 | [],x,m=>some (x,m)
 | c::r,x,m=>if c=69\/c=83\/(isMk c=true/\r≠[]) then none else C6 r (if c=88 then 1 else x) (if isMk c=true then 1 else m)
theorem Xj (c:UInt8):dL 20000000 ((c.toNat:Nat):Int)=some ((mkOf c:Nat):Int):=(FL 19999700 c).2
theorem O5 (c:UInt8):decide (((mkOf c:Nat):Int)>0)=isMk c:=by
 unfold isMk;by_cases h:0<mkOf c
 ·rw [am h,am (by omega)]
 ·rw [aq h,aq (by omega)]
theorem L6 {T:aa} (u:T.length<=1000) (x:TD):∀(r i:Nat) (a m:Int),i+r=T.length->∀N,r<N->
  ar (cX 20000000) N (T,a,m,(i:Int),x)=some (match C6 (T.drop i) a m with | some p=>.inr (T,p.1,p.2,x) | none=>.inl 2):=by
 intro r
 induction r with
 | zero=>
  intro i a m hi N t;obtain ⟨N,rfl⟩:∃k,N=k+1:=⟨N - 1,by omega⟩;obtain rfl:i=T.length:=by omega
  have:cX 20000000 (T,a,m,((T.length:Nat):Int),x)=some (.inr (.inr (T,a,m,x))):=by
   unfold cX;simp only [u5,u4,u3,u2];rw [aq (show ¬((T.length:Nat):Int)<len T by show ¬((T.length:Nat):Int)<((T.length:Nat):Int);omega)];rfl
  rw [ar,this,vB];rfl
 | succ r ih=>
  intro i a m hi N t;obtain ⟨N,rfl⟩:∃k,N=k+1:=⟨N - 1,by omega⟩;have d:i<T.length:=by omega
  have q:T[i]?=some T[i]:=be d;rw [ar,sJ d,C6];generalize T[i]=c at q ⊢;have n:T.drop (i+1)≠[]↔i+1<T.length:=by
   rw [ne_eq,List.drop_eq_nil_iff];omega
  have l:(((c.toNat:Nat):Int)==69)=decide (c=69):=lA c 69 (by decide);have g:(((c.toNat:Nat):Int)==83)=decide (c=83):=lA c 83 (by decide);have j:(((c.toNat:Nat):Int)==88)=decide (c=88):=lA c 88 (by decide);have s:w64 (len T - 1)=((T.length - 1:Nat):Int):=Fa (by omega) (by omega);have:cX 20000000 (T,a,m,(i:Int),x)=some (if c=69\/c=83\/(isMk c=true/\T.drop (i+1)≠[]) then .inr (.inl 2) else .inl (T,(if c=88 then 1 else a),(if isMk c=true then 1 else m),((i+1:Nat):Int),x)):=by
   unfold cX;simp only [u5,u4,u3,u2];rw [am (show (i:Int)<len T by show (i:Int)<((T.length:Nat):Int);omega)];simp only [ah,ob,dI q,l,g,j,Xj,O5,s];rw [ru (by omega)];by_cases e:c=69
   ·rw [am e,ae (.inl e)];rfl
   rw [aq e];by_cases f:c=83
   ·rw [am f,ae (.inr (.inl f))];rfl
   rw [aq f];simp only [af];cases v:isMk c
   ·rw [ab (by simp [e,f])];simp only [af,br,aB];by_cases b:c=88
    ·rw [am b,ae b];rfl
    ·rw [aq b,ab b];rfl
   ·simp only [ah,aJ];by_cases o:i+1<T.length
    ·rw [am (show (i:Int)<((T.length - 1:Nat):Int) by omega),ae (.inr (.inr ⟨trivial,n.2 o⟩))];rfl
    ·rw [aq (show ¬(i:Int)<((T.length - 1:Nat):Int) by omega),ab (by
      rintro (h | h | ⟨_,h⟩)
      ·exact e h
      ·exact f h
      ·exact o (n.1 h))]
     by_cases b:c=88
     ·rw [am b,ae b];rfl
     ·rw [aq b,ab b];rfl
  rw [this];by_cases hc:c=69\/c=83\/(isMk c=true/\T.drop (i+1)≠[])
  ·rw [ae hc,ae hc]
  ·rw [ab hc,ab hc];exact ih (i+1) _ _ (by omega) N (by omega)
theorem C4:∀(v:aa) (w:aa) (a:Int),w≠[]->C6 (v++w) a 0=if v.any isLv then none else C6 w (if v.any (·==88) then 1 else a) 0
 | [],w,a,_=>by simp
 | c::v,w,a,d=>by
  rw [eU,C6,qZ,qZ];have f:v++w≠[]:=by
   intro h;exact d (List.append_eq_nil_iff.1 h).2
  by_cases hc:isLv c=true
  ·have:c=69\/c=83\/(isMk c=true/\v++w≠[]):=by
    unfold isLv at hc;simp only [iY,bG] at hc;rcases hc with h | h | h
    ·exact .inl h
    ·exact .inr (.inl h)
    ·exact .inr (.inr ⟨h,f⟩)
   rw [ae this,hc];simp
  ·have hc':isLv c=false:=by simpa using hc
   have e:c≠69/\c≠83/\isMk c=false:=by
    unfold isLv at hc';simp only [pw,aL] at hc';exact hc'
   rw [ab (by rintro (h | h | ⟨h,_⟩)<;>simp_all),e.2.2,hc'];simp only [br,aB,pG];rw [C4 v w _ d];by_cases b:c=88
   ·subst b;simp
   ·rw [ab b,show (c==88)=false from by simp [b],pG]
theorem Xa {T u:aa} {k:Nat} (h:Body T u k):C6 T 0 0=if u.any isLv then none else some (if u.any (·==88) then 1 else 0,if k=0 then 0 else 1):=by
 obtain ⟨v,z,rfl,d⟩:=h.last;rw [h.eq,fV,C4 v _ 0 (by simp)];rw [sU,sU];cases v.any isLv
 ·simp only [br,aB,pG,qZ,List.any_nil,yd,FA];rw [C6,d];by_cases b:z=69
  ·subst b;simp [isLv]
  by_cases a:z=83
  ·subst a;simp [isLv]
  have e:isLv z=false:=by unfold isLv;rw [d];simp [b,a]
  rw [ab (by simp [b,a]),e];simp only [br,aB];have hx:(if z=88 then (1:Int) else if (v.any λx=>x==88)=true then 1 else 0)=if ((v.any λx=>x==88)||z==88)=true then 1 else 0:=by
   by_cases c:z=88
   ·subst c;simp
   ·rw [ab c,show (z==88)=false from by simp [c],yd]
  rw [hx];rcases (by have:=h.k4;omega:k=0\/k=1\/k=2\/k=3) with rfl | rfl | rfl | rfl<;>rfl
 ·simp
theorem wP (f:aa) (u:∀c∈f,c=100\/c=88\/c=45) (v:f.length<=1000) (t:aa):aT 20000000 t f=some (if t.map dgC=f then 1 else 0):=by
 unfold aT;rw [show (len t != len f)=!decide (t.length=f.length) from bY _ (natB _ _)];by_cases m:t.length=f.length
 case neg=>
  rw [aq m,ab (λh=>m (by rw [<-h];simp))];rfl
 rw [am m];have loop:∀(r i:Nat),i+r=t.length->∀N,r<N->ar (dP 20000000) N (t,f,(i:Int))=some (if (t.drop i).map dgC=f.drop i then .inr () else .inl 0):=by
  intro r
  induction r with
  | zero=>
   intro i hi N w;obtain ⟨N,rfl⟩:∃k,N=k+1:=⟨N - 1,by omega⟩;obtain rfl:i=t.length:=by omega
   have:dP 20000000 (t,f,((t.length:Nat):Int))=some (.inr (.inr ())):=by
    unfold dP;simp only [u3,u2];rw [aq (show ¬((t.length:Nat):Int)<len t by show ¬((t.length:Nat):Int)<((t.length:Nat):Int);omega)];rfl
   rw [ar,this,vB,m,vB];rfl
  | succ r ih=>
   intro i hi N w;obtain ⟨N,rfl⟩:∃k,N=k+1:=⟨N - 1,by omega⟩;have j:i<t.length:=by omega
   have g:i<f.length:=by omega
   have s:t[i]?=some t[i]:=be j;have q:f[i]?=some f[i]:=be g;have o:=u _ (Ha g);rw [ar,sJ j,sJ g,ga];generalize t[i]=c at s ⊢;generalize f[i]=d at q o ⊢;have a:(dgC c=d)↔(c=d\/(d=100/\bw c=true)):=by
    unfold dgC;by_cases h:bw c=true
    ·rw [ae h];constructor
     ·intro e;exact .inr ⟨e.symm,h⟩
     ·rintro (e | ⟨e,_⟩)
      ·subst e;rcases o with rfl | rfl | rfl
       ·rfl
       ·exact absurd h (by decide)
       ·exact absurd h (by decide)
      ·exact e.symm
    ·rw [ab h];constructor
     ·intro e;exact .inl e
     ·rintro (e | ⟨_,e⟩)
      ·exact e
      ·exact absurd e h
   have b:bw c=(decide (48<=c.toNat)&&decide (c.toNat<=57)):=by
    have:=iW (λc=>bw c==(decide (48<=c.toNat)&&decide (c.toNat<=57))) (by decide +kernel) c;simpa using this
   have:dP 20000000 (t,f,(i:Int))=some (if dgC c=d then .inl (t,f,((i+1:Nat):Int)) else .inr (.inl 0)):=by
    unfold dP;simp only [u3,u2];rw [am (show (i:Int)<len t by show (i:Int)<((t.length:Nat):Int);omega)];simp only [ah,ob,dI s,dI q];rw [ru (by omega),show (((c.toNat:Nat):Int) != ((d.toNat:Nat):Int))=!(c==d) from bY _ (oa c d),show (((d.toNat:Nat):Int)==100)=decide (d=100) from lA d 100 (by decide)];by_cases e:c=d
    ·rw [ae (a.2 (.inl e)),show (c==d)=true from by simp [e]];rfl
    ·rw [show (c==d)=false from by simp [e]];by_cases l:d=100
     ·rw [am l];simp only [ij,ah];by_cases n:48<=c.toNat
      ·rw [am (show ((c.toNat:Nat):Int)>=48 by omega)];by_cases p:c.toNat<=57
       ·rw [am (show ((c.toNat:Nat):Int)<=57 by omega),ae (a.2 (.inr ⟨l,by rw [b];simp [n,p]⟩))];rfl
       ·rw [aq (show ¬((c.toNat:Nat):Int)<=57 by omega),ab (λh=>by
         rcases a.1 h with h | ⟨_,h⟩
         ·exact e h
         ·rw [b] at h;simp [p] at h)];rfl
      ·rw [aq (show ¬((c.toNat:Nat):Int)>=48 by omega),ab (λh=>by
        rcases a.1 h with h | ⟨_,h⟩
        ·exact e h
        ·rw [b] at h;simp [n] at h)];rfl
     ·rw [aq l,ab (λh=>by
       rcases a.1 h with h | ⟨h,_⟩
       ·exact e h
       ·exact l h)];rfl
   rw [this];by_cases e:dgC c=d
   ·rw [ae e];simp only [];rw [ih (i+1) (by omega) N (by omega),e];simp
   ·rw [ab e,ab (λh=>e (List.cons.inj h).1)]
 have:=loop t.length 0 (by omega) 20000000 (by omega);rw [show ((0:Nat):Int)=0 from rfl,cf,cf] at this;rw [this];split<;>rfl
theorem N7 (t:aa):(w64 ((w64 ((w64 ((w64 ((if t.map dgC=[100,100,100,88] then (1:Int) else 0)+(if t.map dgC=[100,100,88,88] then (1:Int) else 0)))+(if t.map dgC=[100,100,100,100,45,88,88] then (1:Int) else 0)))+(if t.map dgC=[100,100,100,100,45,100,100,45,88,88] then (1:Int) else 0)))+(if t.map dgC=[100,100,100,100,45,88,88,45,88,88] then (1:Int) else 0))==0)=!simB t:=by
 unfold simB ka;simp only [List.contains_cons,List.contains_nil,yd];have e:∀f:aa,(t.map dgC=f)=((t.map dgC==f)=true):=λf=>by simp
 simp only [e];generalize (t.map dgC==[100,100,100,88])=z1;generalize (t.map dgC==[100,100,88,88])=z2;generalize (t.map dgC==[100,100,100,100,45,88,88])=b;generalize (t.map dgC==[100,100,100,100,45,100,100,45,88,88])=a;generalize (t.map dgC==[100,100,100,100,45,88,88,45,88,88])=c;cases z1<;>cases z2<;>cases b<;>cases a<;>cases c<;>rfl
theorem U7 (t:aa):aT 20000000 t [100,100,100,88]=some (if t.map dgC=[100,100,100,88] then 1 else 0):=wP _ (by decide) (by decide) t
theorem WU (t:aa):aT 20000000 t [100,100,88,88]=some (if t.map dgC=[100,100,88,88] then 1 else 0):=wP _ (by decide) (by decide) t
theorem V9 (t:aa):aT 20000000 t [100,100,100,100,45,88,88]=some (if t.map dgC=[100,100,100,100,45,88,88] then 1 else 0):=wP _ (by decide) (by decide) t
theorem Vm (t:aa):aT 20000000 t [100,100,100,100,45,100,100,45,88,88]=some (if t.map dgC=[100,100,100,100,45,100,100,45,88,88] then 1 else 0):=wP _ (by decide) (by decide) t
theorem WL (t:aa):aT 20000000 t [100,100,100,100,45,88,88,45,88,88]=some (if t.map dgC=[100,100,100,100,45,88,88,45,88,88] then 1 else 0):=wP _ (by decide) (by decide) t
theorem Sm {T u:aa} {k:Nat} (h:Body T u k) {g l:Bool} {dg:aa} {e q:Nat} {m d:aa} {M P:Nat×Nat×Nat} {p:Nat} (K:qH T 0=.inr (g,l,dg,e,q,m,d,M,P,p)):
  eV 20000000 T=some (lvl u (decide (k≠0)) (u.any (·==88)) (sea m)):=by
 have H:=h.len;obtain ⟨Q,_,E⟩:=xe 19999700 T 0 (by omega) (by omega) (by omega);rw [show 19999700+300=20000000 from rfl,K,show ((0:Nat):Int)=0 from rfl] at E;have j:=L6 H (g,l,dg,(e:Int),(q:Int),m,d,(M.1:Int),(M.2.1:Int),(M.2.2:Int)) T.length 0 0 0 (by omega) 20000000 (by omega);rw [show ((0:Nat):Int)=0 from rfl,cf,Xa h] at j;unfold eV;rw [E];simp only [ob,To];rw [show ar (cX 20000000) 20000000 (T,0,0,0,iF (g,l,dg,(e:Int),(q:Int),m,d,(M.1:Int),(M.2.1:Int),(M.2.2:Int),Q,T,(p:Int),(0:Int)))=_ from j];have A:∃c r,u=c::r:=by
  cases f:u with
  | nil=>exact absurd f h.ne
  | cons c r=>exact ⟨c,r,rfl⟩
 have w:ap10 (aP 20000000) (iF (g,l,dg,(e:Int),(q:Int),m,d,(M.1:Int),(M.2.1:Int),(M.2.2:Int),Q,T,(p:Int),(0:Int)))=some (sea m):=rsT _;unfold lvl;cases u.any isLv
 case true=>rfl
 simp only [br,aB,obs,sm,ob,u4,u3,u2];rw [w];simp only [ob];by_cases b:24<sea m
 ·rw [ae b,show decide (sea m>24)=true from am b];rfl
 rw [ab b,show decide (sea m>24)=false from aq b,af];have I:=h.k4;have o:=bY List.length h.eq;rw [aU] at o;have s:bx (List.length T) (w64 ((len T) - (if k=0 then (0:Int) else 1)))=some u.length:=by
  have:w64 ((len T) - (if k=0 then (0:Int) else 1))=((u.length:Nat):Int):=by
   have F:len T=((T.length:Nat):Int):=rfl;rw [F,o];show IntKind.wrap .i64 _=_;rw [wrap_i64 _ (by split<;>omega) (by split<;>omega)];rcases (by omega:k=0\/k=1\/k=2\/k=3) with rfl | rfl | rfl | rfl<;>simp [mt]
  rw [this,ef (by omega)]
 have y:List.take u.length T=u:=by rw [h.eq,Bz]
 rw [s];simp only [cf,y];obtain ⟨c,r,f⟩:=A;have B:sx u (0:Int)=some c:=by rw [f];rfl
 have z:sx T (0:Int)=some c:=by rw [h.eq,f];rfl
 have n:vN u=if c=45 then r else u:=by rw [f];rfl
 have J:u.head?=some c:=by rw [f];rfl
 have b1:bx u.length (1:Int)=some 1:=ef (i:=1) (by rw [f];simp);have v:List.drop 1 (List.take u.length u)=r:=by rw [md,f];rfl
 rw [B,z,b1];simp only [v,ob,U7,WU,V9,Vm,WL,N7];rw [show (((c.toNat:Nat):Int)==45)=decide (c=45) from lA c 45 (by decide),show (((c.toNat:Nat):Int)==89)=decide (c=89) from lA c 89 (by decide),J];have a:(cond ((if (u.any λx=>x==88)=true then (1:Int) else 0)==1) (some (1:Int)) (cond ((if k=0 then (0:Int) else 1)==1) (some 1) (cond (decide (sea m>0)) (some 1) (cond (decide (c=45)) (some 1) (cond (decide (c=89)) (some 1) (some 0)))))) =
   some (if decide (k≠0)=true\/(u.any λx=>x==88)=true\/0<sea m\/some c=some 45\/some c=some 89 then 1 else 0):=by
  cases (u.any λx=>x==88)
  ·by_cases a1:k=0
   ·by_cases a2:0<sea m
    ·simp [a1,a2]
    ·by_cases D:c=45
     ·simp [a1,a2,D]
     ·by_cases C:c=89
      ·simp [a1,a2,C]
      ·simp [a1,a2,D,C]
   ·simp [a1]
  ·simp
 by_cases hc:c=45
 ·rw [am hc,ah];rw [n,ae hc];rw [am hc] at a;cases t:(u.any λx=>x==88)
  ·rw [t] at a;simp only [xT,br,aB,show ((0:Int)==1)=false from rfl,af] at a ⊢;exact a
  ·rw [t] at a;cases G:simB r
   ·simp
   ·simp only [aJ,show ((1:Int)==1)=true from rfl,ah,af,cv,yH,br,aB] at a ⊢;exact a
 ·rw [aq hc,af];rw [n,ab hc];rw [aq hc] at a;cases t:(u.any λx=>x==88)
  ·rw [t] at a;simp only [xT,br,aB,show ((0:Int)==1)=false from rfl,af] at a ⊢;exact a
  ·rw [t] at a;cases G:simB u
   ·simp
   ·simp only [aJ,show ((1:Int)==1)=true from rfl,ah,af,cv,yH,br,aB] at a ⊢;exact a
theorem qB {k:Nat} (h:k<4):(mt k).all okC=true:=by
 rcases (by omega:k=0\/k=1\/k=2\/k=3) with rfl | rfl | rfl | rfl<;>decide
theorem x_mk {k:Nat} (h:k<4):(mt k).any (·==88)=false:=by
 rcases (by omega:k=0\/k=1\/k=2\/k=3) with rfl | rfl | rfl | rfl<;>decide
theorem WE:((List.range 100).all λk=>(Lib.decDigits k).all λc=>okC c&&(!isMk c&&!(c==88)))=true:=by decide +kernel
theorem DU {k:Nat} (h:k<100) {letter:UInt8} (a:letter=69\/letter=83):(eo letter k).all (λc=>okC c&&(!isMk c&&!(c==88)))=true:=by
 unfold eo;split
 ·rw [m6,(cN.1 WE) k (lp.2 h)];rcases a with rfl | rfl<;>decide
 ·rfl
theorem N3 {c:UInt8} (h:isDX c=true):okC c=true:=by unfold okC;rw [h];rfl
theorem xB {g l:Bool} {dg:aa} {x q:Nat} (h:okY g l dg (x:Int) (q:Int)):gM g l dg (x:Int) (q:Int)≠[]/\(∀c∈gM g l dg (x:Int) (q:Int),okC c=true/\isMk c=false)/\(gM g l dg (x:Int) (q:Int)).any (·==88)=hasX dg:=by
 obtain ⟨k,p,o,n,i,m⟩:=kz h;have hx:x<100:=by omega
 have j:q<100:=by omega
 have b:=DU hx (letter:=69) (.inl rfl);have a:=DU j (letter:=83) (.inr rfl);have d:=NA h;have f:dg≠[]:=by
  rintro rfl;simp at i
 rw [kE];refine ⟨by cases l<;>cases g<;>simp [f],λc hc=>?_,?_⟩
 ·simp only [oq,or_assoc] at hc;rcases hc with hc | hc | hc | hc | hc
  ·cases l
   ·cases hc
   ·rw [wM.1 hc];decide
  ·cases g
   ·cases hc
   ·rw [wM.1 hc];decide
  ·exact ⟨N3 (d c hc),IL (d c hc)⟩
  ·have:=(cN.1 b) c hc;simp only [aA,ly] at this;exact ⟨this.1,this.2.1⟩
  ·have:=(cN.1 a) c hc;simp only [aA,ly] at this;exact ⟨this.1,this.2.1⟩
 ·have no:∀w:aa,w.all (λc=>okC c&&(!isMk c&&!(c==88)))=true->w.any (·==88)=false:=by
   intro w e;rw [sN];intro c hc;have:=(cN.1 e) c hc;simp only [aA,ly] at this;rw [this.2.2];simp
  simp only [sU,no _ b,no _ a,yd];unfold hasX;cases l<;>cases g<;>simp
theorem Gh {w:aa} (h:w≠[]) (a:∀c∈w,isMk c=false) (v:aa):∃b z,v++w=b++[z]/\isMk z=false:=
 ⟨v++w.dropLast,w.getLast h,by rw [fV,List.dropLast_concat_getLast],a _ (List.getLast_mem h)⟩
theorem HH {A B:Nat×Nat×Nat} {g l:Bool} {dg:aa} {x q:Nat} {m d:aa} (hs:ShD g l dg x q m d) (S:MkD A B m d):
  ∃u k,Body (rawD A B g l dg (x:Int) (q:Int) m d) u k/\u.any (·==88)=(hasX dg||(hasX m||hasX d))/\(u.any isLv=false->A=(0,0,0)/\(m≠[]->B.1=0)/\(d≠[]->B.2.1=0))/\k=(if m=[] then B.1 else if d=[] then B.2.1 else B.2.2):=by
 obtain ⟨W,E,s⟩:=xB hs.yr;have yl:=t8 hs.yr;obtain ⟨i,o,C⟩:=A;obtain ⟨f,r,H⟩:=B;obtain ⟨a0,a1,a2,b0,b1,b2,zm,zd⟩:=S;simp only at a0 a1 a2 b0 b1 b2 zm zd;unfold rawD cw;simp only;generalize gM g l dg (x:Int) (q:Int)=Y at *;have b:∀w:aa,w.all okC=true->∀c∈w,c.toNat<128:=λw R c hc=>Vh ((cN.1 R) c hc);have y:Y.all okC=true:=cN.2 λc hc=>(E c hc).1;have n:∀k,k<4->(mt k).length<=1:=λk h=>by
  rcases (by omega:k=0\/k=1\/k=2\/k=3) with rfl | rfl | rfl | rfl<;>simp [mt]
 have O:=n i a0;have Q:=n o a1;have I:=n C a2;have T:=n f b0;have Z:=n r b1;have U:=n H b2;have a:∀k,k<4->(mt k).any isLv=false->k=0:=λk h=>by
  rcases (by omega:k=0\/k=1\/k=2\/k=3) with rfl | rfl | rfl | rfl<;>decide
 have p:∀w:aa,w.any (λx=>x==88)=hasX w:=λw=>rfl;by_cases j:m=[]
 ·have e:d=[]:=hs.day.resolve_right (λz=>z.1 j);subst j e;obtain ⟨rfl,rfl⟩:=zm rfl;obtain ⟨rfl,rfl⟩:=zd rfl;simp only [aJ,lw];refine ⟨mt i++Y,f,⟨rfl,b0,Gh W (λc hc=>(E c hc).2) _,b _ (by rw [CZ,CZ,qB a0,y,qB b0];rfl),by simp only [aU];omega⟩,?_,?_,rfl⟩
  ·rw [sU,x_mk a0,s];simp [hasX]
  ·intro h;rw [sU,pw] at h;exact ⟨by rw [a _ a0 h.1],λh=>absurd rfl h,λh=>absurd rfl h⟩
 ·obtain ⟨L,mx⟩:=hs.mon.resolve_left j;have F:m.all okC=true:=cN.2 λc hc=>N3 (mx c hc);rw [ab j,ab j];by_cases e:d=[]
  ·subst e;obtain ⟨rfl,rfl⟩:=zd rfl;simp only [aJ,lw];refine ⟨mt i++Y++mt f++(45::(mt o++m)),r,⟨by simp,b1,?_,b _ ?_,by simp only [aU,az];omega⟩,?_,?_,rfl⟩
   ·have:=Gh j (λc hc=>IL (mx c hc)) (mt i++Y++mt f++(45::mt o));simpa using this
   ·simp only [CZ,m6,qB a0,y,qB b0,qB a1,F,qB b1,show okC 45=true from by decide];rfl
   ·simp only [sU,qZ,x_mk a0,x_mk b0,x_mk a1,s];simp only [p];simp [hasX]
   ·intro h;simp only [sU,qZ,pw] at h;obtain ⟨⟨⟨D,V⟩,t⟩,X,v,M⟩:=h;exact ⟨by rw [a _ a0 D,a _ a1 v],λ_=>a _ b0 t,λh=>absurd rfl h⟩
  ·obtain ⟨_,dl2,G⟩:=hs.day.resolve_left e;have J:d.all okC=true:=cN.2 λc hc=>N3 (G c hc);rw [ab e,ab e];refine ⟨mt i++Y++mt f++(45::(mt o++m++mt r))++(45::(mt C++d)),H,⟨by simp,b2,?_,b _ ?_,by simp only [aU,az];omega⟩,?_,?_,rfl⟩
   ·have:=Gh e (λc hc=>IL (G c hc)) (mt i++Y++mt f++(45::(mt o++m++mt r))++(45::mt C));simpa using this
   ·simp only [CZ,m6,qB a0,y,qB b0,qB a1,F,qB b1,qB a2,J,qB b2,show okC 45=true from by decide];rfl
   ·simp only [sU,qZ,x_mk a0,x_mk b0,x_mk a1,x_mk b1,x_mk a2,s];simp only [p];simp [Bool.or_assoc]
   ·intro h;simp only [sU,qZ,pw] at h;obtain ⟨⟨⟨⟨D,V⟩,t⟩,X,⟨v,M⟩,N⟩,h8,K,P⟩:=h;exact ⟨by rw [a _ a0 D,a _ a1 v,a _ a2 K],λ_=>a _ b0 t,λ_=>a _ b1 N⟩
def mkX (x:TD):Bool:=hasX x.2.2.1||(hasX x.2.2.2.2.2.1||hasX x.2.2.2.2.2.2.1)
def lvT (T:aa) (x:TD):Int:=lvl (Lib.trimRightS T [63,126,37]) (!(Lib.trimRightS T [63,126,37]==T)) (mkX x) (seT x)
theorem XU {T u:aa} {k:Nat} (h:Body T u k) {x:TD} (hs:smT x):l6 20000000 T x=some (lvT T x):=by
 rw [X2 h hs];unfold lvT mkX;rw [pa h,Gj h];simp
theorem xJ {S:aa} {a:Nat} (h:a<=S.length) {r:DR} (o:ct S a=.inr r):∃A B u k,MkD A B (tdR r).2.2.2.2.2.1 (tdR r).2.2.2.2.2.2.1/\plR r=a+(mt A.1).length/\
  (S.drop a).take (enR r - a)=rawD A B r.1 r.2.1 r.2.2.1 (r.2.2.2.1:Int) (r.2.2.2.2.1:Int) r.2.2.2.2.2.1 r.2.2.2.2.2.2.1/\r.2.2.2.2.2.2.2.1=spM A B/\Body ((S.drop a).take (enR r - a)) u k/\
  l6 20000000 ((S.drop a).take (enR r - a)) (tdR r)=some (lvT ((S.drop a).take (enR r - a)) (tdR r))/\eV 20000000 ((S.drop a).take (enR r - a))=some (lvT ((S.drop a).take (enR r - a)) (tdR r)):=by
 obtain ⟨j,E,v,C⟩:=iQ h o;obtain ⟨D,_⟩:=Gm h o;obtain ⟨I,H,y,G,t,m',d',k0,k1,k2,f,ok⟩:=oV j E;obtain ⟨g,l,dg,x,s,m,d,M,P,e⟩:=r;have ok:ShD g l dg x s m d:=by
  unfold tdR at f;simp only [aY] at f;obtain ⟨rfl,rfl,rfl,hx,p,rfl,rfl,_⟩:=f;have hx:x=G:=by omega
  have p:s=t:=by omega
  subst hx p;exact ok.sh
 obtain ⟨A,B,mk,w,z,n⟩:=LA D;have q:(rawD A B g l dg (x:Int) (s:Int) m d).length=e - a:=by
  have:=bY List.length n;simp only [aU,bL] at this;have:a<=e:=v;have:e<=S.length:=C;omega
 have c:(S.drop a).take (e - a)=rawD A B g l dg (x:Int) (s:Int) m d:=by rw [n,<-q,Bz]
 obtain ⟨u,k,b,F,_⟩:=HH ok mk;refine ⟨A,B,u,k,mk,z,c,w,by rw [show enR (g,l,dg,x,s,m,d,M,P,e)=e from rfl,c];exact b,?_,?_⟩
 ·rw [show enR (g,l,dg,x,s,m,d,M,P,e)=e from rfl,c];exact XU b j
 ·rw [show enR (g,l,dg,x,s,m,d,M,P,e)=e from rfl,c];obtain ⟨J,_,i⟩:=Hq ok mk (S:=rawD A B g l dg (x:Int) (s:Int) m d) (a:=0) (post:=[]) (by simp) vd vd vd;rw [Sm b i,F];unfold lvT mkX;rw [pa b,Gj b];simp only [decide_not];rfl
def mx (a b:Int):Int:=if a>b then a else b
def lvR (S:aa) (p:Nat) (r:DR):Int:=lvT ((S.drop p).take (enR r - p)) (tdR r)
theorem D3 (u:aa) (b X:Bool) (c:Int):0<=lvl u b X c/\lvl u b X c<=2:=by
 unfold lvl
 repeat' split
 all_goals omega
theorem Ko (S:aa) (p:Nat) (r:DR):0<=lvR S p r/\lvR S p r<=2:=D3 _ _ _ _
theorem bcT {x:TD} (h:smT x) (K:Int):ap10 (iv 20000000 K) x=some (sD K x):=vS h.1 h.2.1 h.2.2.1 h.2.2.2.1 h.2.2.2.2.1 h.2.2.2.2.2
theorem BZ (n:Nat) (a:Int) (S:aa) (p:Int) (I:List TI) (K:Int) (D:TD) (KF:Int) (DF:TD) (KT:Int) (DT:TD) (e l:Bool) (lv:Int):
  cQ n a S p I K D KF DF KT DT e l lv=some (K,D,KF,DF,KT,DT,e,l,mx a lv):=by
 unfold cQ mx;rw [bA]
theorem Of (I:List TI) (K:Int) (D:TD) (KF:Int) (DF:TD) (KT:Int) (DT:TD) (e l:Bool) (lv:Int) {S:aa} {p:Nat} (h:p<=S.length) (g:S.length<100000):
  du 20000000 I K D KF DF KT DT e l lv S (p:Int)=some (match ct S p with
   | .inl f=>.inl ((f.1:Int),(f.2.1:Int),K,D,KF,DF,KT,DT,e,l,lv,S,(f.2.2:Int))
   | .inr r=>.inr (tdR r,((plR r:Nat):Int),K,D,KF,DF,KT,DT,e,l,mx (lvR S p r) lv,S,((enR r:Nat):Int))):=by
 unfold du;rw [uf _ _ _ h,Fe S p h g];cases a:ct S p with
 | inl f=>rfl
 | inr r=>
  obtain ⟨i,j,k,d⟩:=iQ h a;obtain ⟨_,_,_,_,_,_,_,_,_,c,_⟩:=xJ h a;rw [Dk];simp only [obs,sm,ob];rw [show (d4 (d8 ((tdR r).1,(tdR r).2.1,(tdR r).2.2.1,(tdR r).2.2.2.1,(tdR r).2.2.2.2.1,(tdR r).2.2.2.2.2.1,(tdR r).2.2.2.2.2.2.1,(tdR r).2.2.2.2.2.2.2.1,(tdR r).2.2.2.2.2.2.2.2.1,(tdR r).2.2.2.2.2.2.2.2.2,((plR r:Nat):Int),S,((enR r:Nat):Int))))=((enR r:Nat):Int) from rfl,uf _ _ _ d];simp only [];have b:w64 (len (S.drop p) - len (S.drop (enR r)))=((enR r - p:Nat):Int):=by
   show IntKind.wrap .i64 (((S.drop p).length:Int) - ((S.drop (enR r)).length:Int))=_;rw [bL,bL,wrap_i64 _ (by omega) (by omega)];omega
  rw [b,ef (by rw [bL];omega)];simp only [cf];rw [show l6 20000000 ((S.drop p).take (enR r - p)) (iF ((tdR r).1,(tdR r).2.1,(tdR r).2.2.1,(tdR r).2.2.2.1,(tdR r).2.2.2.2.1,(tdR r).2.2.2.2.2.1,(tdR r).2.2.2.2.2.2.1,(tdR r).2.2.2.2.2.2.2.1,(tdR r).2.2.2.2.2.2.2.2.1,(tdR r).2.2.2.2.2.2.2.2.2,((plR r:Nat):Int),S,((enR r:Nat):Int)))=_ from c];simp only [BZ,u9,u8,u7,u6,u5,u4,u3,u2];rfl
theorem GU {x:TD} (h:smT x) (hc:cF x=0) (a K:Int) (D:TD) (KF:Int) (DF:TD) (KT:Int) (DT:TD) (e l:Bool) (lv:Int) (S:aa) (p:Int) (I:List TI):
  cR 20000000 x a K D KF DF KT DT e l lv S p I=some (if exT x=true then .inr (1,x) else .inl (a,11)):=by
 unfold cR;rw [bcT h,E6,ae hc];cases exT x<;>rfl
noncomputable def toP (S:aa) (p:Nat) (KF:Int) (DF:TD) (lv:Int):(Nat×Nat)⊕(Int×TD×Int×Nat):=
 if KF=1/\p=S.length then .inr (3,d0,mx 1 lv,p)
 else if KF=1/\dts (S.drop p)=true then .inr (2,d0,mx 1 lv,p+2)
 else match ct S p with
  | .inl f=>.inl (f.1,f.2.1)
  | .inr r=>if exT (tdR r)=true then (if enR r<S.length\/ot KF DF 1 (tdR r)=0 then .inr (1,tdR r,mx (lvR S p r) (if KF=1 then lv else mx 1 lv),enR r) else .inl (plR r,11)) else .inl (plR r,11)
def UB (S:aa) (D:TD) (KF:Int) (DF:TD) (e l:Bool):(Nat×Nat)⊕(Int×TD×Int×Nat)->(Int×TD×Int×TD×Int×TD×Bool×Bool×Int×aa×Int)⊕(Int×Int×Int×TD×Int×TD×Int×TD×Bool×Bool×Int×aa×Int)->Prop
 | .inl f,y=>∃z,y=.inr ((f.1:Int),(f.2:Int),z)
 | .inr (KT,DT,lv,p),y=>y=.inl (2,D,KF,DF,KT,DT,e,l,lv,S,(p:Int))
theorem Gn {S:aa} {p:Nat} (h:p<=S.length):(peek (S.drop p)).2=decide (p<S.length):=by
 by_cases hp:p<S.length
 ·rw [am hp,bS (be hp)];rfl
 ·rw [aq hp,jr (by omega)];rfl
theorem RB (I:List TI) (K:Int) {DF:TD} (H:smT DF) (KF:Int) (lv:Int) {S:aa} {p:Nat} (h:p<=S.length) (hS:S.length<100000):
  ∃y,fK 20000000 I K d0 KF DF 0 d0 false false lv S (p:Int)=some y/\UB S d0 KF DF false false (toP S p KF DF lv) y:=by
 have q:∀(o:Int) (t:o=if KF=1 then lv else mx 1 lv) (Z:¬(KF=1/\p=S.length)) (n:¬(KF=1/\dts (S.drop p)=true)),∃y,(obs (du 20000000 I 2 d0 KF DF 0 d0 false false o S (p:Int)) (u13 λU N F C E D M V R Q O B P=>(some (.inr (U,N,F,C,E,D,M,V,R,Q,O,B,P)))) (u13 λG v g j d c u w e k i b a=>(obs (cR 20000000 G v g j d c u w e k i b a I) (u2 λx L=>(some (.inr (x,L,g,j,d,c,u,w,e,k,i,b,a)))) (u2 λl m=>(ob (bi 20000000 b a) (u2 λ_ A=>(cond (!A) (ob (ap10 (ap10 (iU 20000000 d) c l) m) λT=>(cond (T != 0) (ob (aO 20000000 v 11 b a) (u2 λW J=>(some (.inr (W,J,g,j,d,c,l,m,e,k,i,b,a))))) (some (.inl (g,j,d,c,l,m,e,k,i,b,a))))) (some (.inl (g,j,d,c,l,m,e,k,i,b,a))))))))))=some y/\UB S d0 KF DF false false (toP S p KF DF lv) y:=by
  intro o t Z n;unfold toP;rw [Of I 2 d0 KF DF 0 d0 false false o h hS,ab Z,ab n];cases hr:ct S p with
  | inl f=>exact ⟨_,rfl,_,rfl⟩
  | inr r=>
   obtain ⟨X,c1,l1,Y⟩:=iQ h hr;simp only [obs,sm,ob,u13,u12,u11,u10,u9,u8,u7,u6,u5,u4,u3,u2];rw [GU X c1];cases hx:exT (tdR r)
   ·exact ⟨_,rfl,_,rfl⟩
   ·simp only [aJ,pV _ _ _ Y,Gn Y];by_cases z:enR r<S.length
    ·rw [am z,ae (.inl z)];exact ⟨_,rfl,by rw [<-t];rfl⟩
    ·rw [aq z];simp only [ij,ah];rw [L2 H X];simp only [];by_cases hp:ot KF DF 1 (tdR r)=0
     ·rw [ae (.inr hp),show (ot KF DF 1 (tdR r) != 0)=false from by simp [hp]];exact ⟨_,rfl,by rw [<-t];rfl⟩
     ·rw [ab (by rintro (h | h)<;>contradiction),show (ot KF DF 1 (tdR r) != 0)=true from by simp [hp]];exact ⟨_,rfl,_,rfl⟩
 unfold fK;by_cases s:KF=1
 ·rw [show (KF==1)=true from by simp [s],ah,pV _ _ _ h];simp only [ob,u2,Gn h,BZ];by_cases hp:p<S.length
  ·rw [am hp];simp only [cv,af];rw [ng _ _ _ _ h (by omega)];cases n:dts (S.drop p)
   ·rw [ab (show ¬(S.drop p).take [(46:UInt8),46].length=[46,46] from λh=>by unfold dts at n;rw [show (S.drop p).take 2=[46,46] from h] at n;cases n)];exact q lv (by rw [ae s]) (by omega) (by rw [n];simp)
   ·rw [ae (show (S.drop p).take [(46:UInt8),46].length=[46,46] from eq_of_beq n)];refine ⟨_,rfl,?_⟩;unfold toP;rw [ab (by omega),ae ⟨s,n⟩];rfl
  ·rw [aq hp];refine ⟨_,rfl,?_⟩;unfold toP;rw [ae ⟨s,by omega⟩];rfl
 ·rw [show (KF==1)=false from by simp [s],af,BZ];simp only [ob,u9,u8,u7,u6,u5,u4,u3,u2];exact q (mx 1 lv) (by rw [ab s]) (by simp [s]) (by simp [s])
noncomputable def toX (S:aa) (p:Nat) (KF:Int) (DF:TD) (lv:Int):(Nat×Nat)⊕(Int×TD×Int):=match toP S p KF DF lv with
 | .inl f=>.inl f
 | .inr (KT,DT,L,q)=>if q<S.length then .inl (q,5) else .inr (KT,DT,L)
noncomputable def iu (S:aa):(Nat×Nat)⊕(Int×TD×Int×TD×Int×TD×Int)⊕(Int×Bool×Bool×List TI):=
 if S.head?=some 91\/S.head?=some 123 then (match yC S with | .inl f=>.inl f | .inr q=>.inr (.inr q))
 else if S.head?=some 47 then (match toX S 1 3 d0 0 with | .inl f=>.inl f | .inr (KT,DT,L)=>.inr (.inl (2,d0,3,d0,KT,DT,L)))
 else if dts S=true then (if (S.drop 2).head?=some 47 then (match toX S 3 2 d0 0 with | .inl f=>.inl f | .inr (KT,DT,L)=>.inr (.inl (2,d0,2,d0,KT,DT,L))) else .inl (2,5))
 else match ct S 0 with
  | .inl f=>.inl (f.1,f.2.1)
  | .inr r=>if (S.drop (enR r)).head?=some 47 then (if exT (tdR r)=true then (match toX S (enR r+1) 1 (tdR r) (lvR S 0 r) with | .inl f=>.inl f | .inr (KT,DT,L)=>.inr (.inl (2,d0,1,tdR r,KT,DT,L))) else .inl (plR r,11))
   else if enR r<S.length then .inl (enR r,5) else .inr (.inl (1,tdR r,0,d0,0,d0,lvR S 0 r))
def IG:(Nat×Nat)⊕(Int×TD×Int×TD×Int×TD×Int)⊕(Int×Bool×Bool×List TI)->(Int×TD×Int×TD×Int×TD×Bool×Bool×Int×Int×Int×List TI)⊕(Int×TD×Int×TD×Int×TD×Nat×Nat×Bool×Bool×Int×Int×Int×List TI)
 | .inl f=>.inl (0,d0,0,d0,0,d0,false,false,0,(f.1:Int),(f.2:Int),[])
 | .inr (.inl (K,D,KF,DF,KT,DT,L))=>.inl (K,D,KF,DF,KT,DT,false,false,L,0,0,[])
 | .inr (.inr (K,e,l,I))=>.inr (K,d0,0,d0,0,d0,I.length,I.length,e,l,2,0,0,I)
theorem oi {S:aa} {p:Nat} (h:p<=S.length) {f:Nat×Nat×Nat} (a:ct S p=.inl f):f.2.1≠0:=qS (k:=f.1) (E:=f.2.1) (p:=f.2.2) h a
theorem Uo {S:aa} {p:Nat} (h:p<=S.length) {KF:Int} {DF:TD} {lv:Int} {KT:Int} {DT:TD} {L:Int} {q:Nat} (a:toP S p KF DF lv=.inr (KT,DT,L,q)):q<=S.length/\smT DT:=by
 unfold toP at a;split at a
 ·cases a;exact ⟨h,nS⟩
 ·split at a
  ·rename_i e;cases a;exact ⟨kZ e.2,nS⟩
  ·cases b:ct S p with
   | inl f=>rw [b] at a;cases a
   | inr r=>
    obtain ⟨c,_,_,d⟩:=iQ h b;rw [b] at a;simp only [] at a;split at a
    ·split at a
     ·cases a;exact ⟨d,c⟩
     ·cases a
    ·cases a
theorem A8 {S:aa} {p:Nat} (h:p<=S.length) {KF:Int} {DF:TD} {lv:Int} {f:Nat×Nat} (a:toP S p KF DF lv=.inl f):f.2≠0:=by
 unfold toP at a;split at a
 ·cases a
 ·split at a
  ·cases a
  ·cases b:ct S p with
   | inl g=>rw [b] at a;cases a;exact oi h b
   | inr r=>
    rw [b] at a;simp only [] at a;split at a
    ·split at a
     ·cases a
     ·cases a;simp
    ·cases a;simp
theorem DY (l:aa) (c:UInt8) (hc:c≠0):((peek l).1==((c.toNat:Nat):Int))=decide (l.head?=some c):=by
 have:=ye l c hc;cases l with
 | nil=>exact this
 | cons a r=>exact this
theorem HV {S:aa} {p:Nat} (h:p<=S.length) (a:S.length<100000) (c:UInt8):aC 20000000 [c] S (p:Int)=some (decide ((S.drop p).head?=some c),S,((if (S.drop p).head?=some c then p+1 else p:Nat):Int)):=by
 rw [ng _ _ _ _ h (by omega)];simp only [tk1];by_cases hc:(S.drop p).head?=some c
 ·rw [ae hc,ae hc,am hc];rfl
 ·rw [ab hc,ab hc,aq hc]
theorem Nl {S:aa} {p:Nat} (h:p<=S.length) (b:S.length<100000):aC 20000000 [46,46] S (p:Int)=some (dts (S.drop p),S,((if dts (S.drop p)=true then p+2 else p:Nat):Int)):=by
 rw [ng _ _ _ _ h (by omega)];cases a:dts (S.drop p)
 ·rw [ab (show ¬(S.drop p).take [(46:UInt8),46].length=[46,46] from λh=>by unfold dts at a;rw [show (S.drop p).take 2=[46,46] from h] at a;cases a)];rfl
 ·rw [ae (show (S.drop p).take [(46:UInt8),46].length=[46,46] from eq_of_beq a)];rfl
theorem II {S:aa} {p:Nat} (h:p<=S.length) (c:S.length<100000):bX 20000000 [47] S (p:Int)=some (if (S.drop p).head?=some 47 then .inl (S,((p+1:Nat):Int)) else .inr ((p:Int),5,S,(p:Int))):=by
 rw [Ah _ _ _ _ h (by omega) (by simp) (by simp)];simp only [tk1];by_cases hc:(S.drop p).head?=some 47
 ·rw [ae hc,ae hc];rfl
 ·rw [ab hc,ab hc];have:lcp (S.drop p) [47]=0:=by
   cases b:S.drop p with
   | nil=>rfl
   | cons a r=>
    rw [b] at hc;simp only [lcp];rw [show (a==47)=false from by rw [aL];rintro rfl;exact hc rfl];rfl
  rw [this];rfl
def V8 (S:aa):(Nat×Nat)⊕(Int×TD×Int×TD×Int×TD×Int×Nat)⊕(Int×Bool×Bool×List TI×Nat)->((Int×Int×Int×TD×Int×TD×Int×TD×Bool×Bool×Int×aa×Int)⊕(Int×TD×Int×TD×Int×TD×Nat×Nat×Bool×Bool×Int×aa×Int×List TI)⊕(Int×TD×Int×TD×Int×TD×Bool×Bool×Int×aa×Int)⊕(Int×TD×Int×TD×Int×TD×Bool×Bool×Int×aa×Int×List TI))->Prop
 | .inl f,y=>∃z,y=.inl ((f.1:Int),(f.2:Int),z)
 | .inr (.inl (K,D,KF,DF,KT,DT,L,p)),y=>y=.inr (.inr (.inl (K,D,KF,DF,KT,DT,false,false,L,S,(p:Int))))\/y=.inr (.inr (.inr (K,D,KF,DF,KT,DT,false,false,L,S,(p:Int),[])))
 | .inr (.inr (K,e,l,I,p)),y=>y=.inr (.inl (K,d0,0,d0,0,d0,I.length,I.length,e,l,2,S,(p:Int),I))
noncomputable def BA (S:aa):(Nat×Nat)⊕(Int×TD×Int×TD×Int×TD×Int×Nat)⊕(Int×Bool×Bool×List TI×Nat):=
 if S.head?=some 91\/S.head?=some 123 then (match pq S 0 with | .inl f=>.inl (f.1,f.2.1) | .inr q=>.inr (.inr q))
 else if S.head?=some 47 then (match toP S 1 3 d0 0 with | .inl f=>.inl f | .inr (KT,DT,L,q)=>.inr (.inl (2,d0,3,d0,KT,DT,L,q)))
 else if dts S=true then (if (S.drop 2).head?=some 47 then (match toP S 3 2 d0 0 with | .inl f=>.inl f | .inr (KT,DT,L,q)=>.inr (.inl (2,d0,2,d0,KT,DT,L,q))) else .inl (2,5))
 else match ct S 0 with
  | .inl f=>.inl (f.1,f.2.1)
  | .inr r=>if (S.drop (enR r)).head?=some 47 then (if exT (tdR r)=true then (match toP S (enR r+1) 1 (tdR r) (lvR S 0 r) with | .inl f=>.inl f | .inr (KT,DT,L,q)=>.inr (.inl (2,d0,1,tdR r,KT,DT,L,q))) else .inl (plR r,11))
   else .inr (.inl (1,tdR r,0,d0,0,d0,lvR S 0 r,enR r))
theorem mx0 {a:Int} (h:0<=a):mx a 0=a:=by unfold mx;split<;>omega
theorem SH {S:aa} (g:S.length<100000):∃y,iN 20000000 [] 0 d0 0 d0 0 d0 false false 0 S 0=some y/\V8 S (BA S) y:=by
 have z0:(0:Int)=((0:Nat):Int):=rfl;have P:=pV 20000000 S 0 (fU _);rw [cf,show ((0:Nat):Int)=0 from rfl] at P;have Q:=Rq (S:=S) (a:=0) (fU _) g;rw [show ((0:Nat):Int)=0 from rfl] at Q;have R:=HV (S:=S) (p:=0) (fU _) g 47;rw [cf,show ((0:Nat):Int)=0 from rfl] at R;have T:=Nl (S:=S) (p:=0) (fU _) g;rw [cf,show ((0:Nat):Int)=0 from rfl] at T;have N:=Of [] 0 d0 0 d0 0 d0 false false 0 (S:=S) (p:=0) (fU _) g;rw [show ((0:Nat):Int)=0 from rfl] at N;have M:((peek S).1==91)=decide (S.head?=some 91):=DY S 91 (by decide);have n:((peek S).1==123)=decide (S.head?=some 123):=DY S 123 (by decide);have set:(S.head?=some 91\/S.head?=some 123)->∃y,(obs (nJ 20000000 S 0) (u4 λv1 Z X U=>(some (.inl (v1,Z,0,d0,0,d0,0,d0,false,false,0,X,U)))) (u13 λW V Y v8 v9 B w I v A m o l=>(ob (f9 20000000 2 m o l W V Y v8 v9 B w I v A 0) (u11 λs u D K J H F x E C G=>(some (.inr (.inl (s,u,D,K,J,H,F,x,E,C,G,m,o,l))))))))=some y/\V8 S (BA S) y:=by
  intro h;rw [Q];unfold BA;rw [ae h];cases pq S 0 with
  | inl f=>exact ⟨_,rfl,_,rfl⟩
  | inr q=>exact ⟨_,rfl,rfl⟩
 unfold iN;rw [P];simp only [ob,u2,M,n];by_cases i:S.head?=some 91
 ·rw [am i,ah];exact set (.inl i)
 rw [aq i,af];by_cases d:S.head?=some 123
 ·rw [am d,ah];exact set (.inr d)
 rw [aq d,af,R];clear set;unfold BA;rw [ab (show ¬(S.head?=some 91\/S.head?=some 123) from λh=>h.elim i d)];simp only [u3,u2];by_cases e:S.head?=some 47
 ·simp only [am e,ae e,ah];have t:1<=S.length:=by
   have:=dV (S:=S) (p:=0) (c:=47) (by rw [cf];exact e);omega
  obtain ⟨y,k,b⟩:=RB [] 0 nS 3 0 (S:=S) (p:=1) t g;rw [show (((0+1:Nat)):Int)=((1:Nat):Int) from rfl,k];cases j:toP S 1 3 d0 0 with
  | inl f=>
   rw [j] at b;obtain ⟨z,rfl⟩:=b;exact ⟨_,rfl,_,rfl⟩
  | inr q=>
   rw [j] at b;obtain ⟨KT,DT,L,q⟩:=q;subst b;exact ⟨_,rfl,.inl rfl⟩
 ·simp only [aq e,ab e,af];rw [show (((0:Nat)):Int)=0 from rfl,T];simp only [];cases hd:dts S
  ·rw [ab (by simp),ab (by simp),af,show (((0:Nat)):Int)=0 from rfl,N];cases hr:ct S 0 with
   | inl f=>exact ⟨_,rfl,_,rfl⟩
   | inr r=>
    obtain ⟨O,c1,l1,l2⟩:=iQ (fU _) hr;simp only [obs,sm,ob,u13,u12,u11,u10,u9,u8,u7,u6,u5,u4,u3,u2];rw [HV l2 g,mx0 (Ko S 0 r).1];simp only [];by_cases hs:(S.drop (enR r)).head?=some 47
    ·simp only [am hs,ae hs,cv,af];rw [GU O c1];cases hx:exT (tdR r)
     ·exact ⟨_,rfl,_,rfl⟩
     ·obtain ⟨y,k,b⟩:=RB [] 0 O 1 (lvR S 0 r) (S:=S) (p:=enR r+1) (dV hs) g;simp only [aJ];rw [k];cases j:toP S (enR r+1) 1 (tdR r) (lvR S 0 r) with
      | inl f=>
       rw [j] at b;obtain ⟨z,rfl⟩:=b;exact ⟨_,rfl,_,rfl⟩
      | inr q=>
       rw [j] at b;obtain ⟨KT,DT,L,q⟩:=q;subst b;exact ⟨_,rfl,.inl rfl⟩
    ·simp only [aq hs,ab hs];exact ⟨_,rfl,.inr rfl⟩
  ·rw [ae rfl,ae rfl,ah];have t:2<=S.length:=by
    have:=kZ (S:=S) (p:=0) (by rw [cf];exact hd);omega
   rw [show (((0+2:Nat)):Int)=((2:Nat):Int) from rfl,II t g];by_cases hs:(S.drop 2).head?=some 47
   ·simp only [ae hs];obtain ⟨y,k,b⟩:=RB [] 0 nS 2 0 (S:=S) (p:=3) (dV hs) g;rw [show (((2+1:Nat)):Int)=((3:Nat):Int) from rfl];simp only [obs,sm,ob,u2,k];cases j:toP S 3 2 d0 0 with
    | inl f=>
     rw [j] at b;obtain ⟨z,rfl⟩:=b;exact ⟨_,rfl,_,rfl⟩
    | inr q=>
     rw [j] at b;obtain ⟨KT,DT,L,q⟩:=q;subst b;exact ⟨_,rfl,.inl rfl⟩
   ·simp only [ab hs];exact ⟨_,rfl,_,rfl⟩
theorem Ls {S:aa} {f:Nat×Nat} (a:BA S=.inl f):f.2≠0:=by
 unfold BA at a;split at a
 ·cases b:pq S 0 with
  | inl g=>rw [b] at a;cases a;exact wy (fU _) b
  | inr q=>rw [b] at a;cases a
 ·split at a
  ·rename_i h;cases b:toP S 1 3 d0 0 with
   | inl g=>
    rw [b] at a;cases a;exact A8 (dV (S:=S) (p:=0) (by rw [cf];exact h)) b
   | inr q=>rw [b] at a;cases a
  ·split at a
   ·split at a
    ·rename_i h;cases b:toP S 3 2 d0 0 with
     | inl g=>rw [b] at a;cases a;exact A8 (dV h) b
     | inr q=>rw [b] at a;cases a
    ·cases a;simp
   ·cases b:ct S 0 with
    | inl g=>rw [b] at a;cases a;exact oi (fU _) b
    | inr r=>
     rw [b] at a;simp only [] at a;split at a
     ·rename_i h;split at a
      ·cases c:toP S (enR r+1) 1 (tdR r) (lvR S 0 r) with
       | inl g=>rw [c] at a;cases a;exact A8 (dV h) c
       | inr q=>rw [c] at a;cases a
      ·cases a;simp
     ·cases a
theorem Fo (S:aa):iu S=match BA S with
  | .inl f=>.inl f
  | .inr (.inl (K,D,KF,DF,KT,DT,L,q))=>if q<S.length then .inl (q,5) else .inr (.inl (K,D,KF,DF,KT,DT,L))
  | .inr (.inr (K,e,l,I,q))=>if q<S.length then .inl (q,5) else .inr (.inr (K,e,l,I)):=by
 unfold iu BA yC toX;split
 ·cases pq S 0 with
  | inl f=>rfl
  | inr q=>
   obtain ⟨_,_,_,_,p⟩:=q;by_cases hp:p<S.length<;>simp [hp]
 ·split
  ·cases toP S 1 3 d0 0 with
   | inl f=>rfl
   | inr q=>
    obtain ⟨_,_,_,p⟩:=q;by_cases hp:p<S.length<;>simp [hp]
  ·split
   ·split
    ·cases toP S 3 2 d0 0 with
     | inl f=>rfl
     | inr q=>
      obtain ⟨_,_,_,p⟩:=q;by_cases hp:p<S.length<;>simp [hp]
    ·rfl
   ·cases ct S 0 with
    | inl f=>rfl
    | inr r=>
     simp only [];split
     ·split
      ·cases toP S (enR r+1) 1 (tdR r) (lvR S 0 r) with
       | inl f=>rfl
       | inr q=>
        obtain ⟨_,_,_,p⟩:=q;by_cases hp:p<S.length<;>simp [hp]
      ·rfl
     ·rfl
theorem Bm {S:aa} (g:S.length<=16384):lF 20000000 S=some (IG (iu S)):=by
 obtain ⟨y,c,a⟩:=SH (S:=S) (by omega);unfold lF eC;rw [show decide (len S>16384)=false from aq (by show ¬(16384:Int)<((S.length:Nat):Int);omega),af,c,Fo];cases b:BA S with
 | inl f=>
  have d:=Ls b;rw [b] at a;obtain ⟨z,rfl⟩:=a;simp only [obs,sm,ob,u13,u12,u11,u10,u9,u8,u7,u6,u5,u4,u3,u2];rw [show (((f.2:Nat):Int) != 0)=true from by simp;omega];rfl
 | inr q=>
  rw [b] at a;cases q with
  | inl q=>
   obtain ⟨K,D,KF,DF,KT,DT,L,p⟩:=q;simp only [];rcases a with rfl | rfl
   ·simp only [obs,sm,ob,u13,u12,u11,u10,u9,u8,u7,u6,u5,u4,u3,u2];by_cases hp:p<S.length
    ·rw [ae hp,am (show (p:Int)<((S.length:Nat):Int) by omega)];rfl
    ·rw [ab hp,aq (show ¬(p:Int)<((S.length:Nat):Int) by omega)];rfl
   ·simp only [obs,sm,ob,u14,u13,u12,u11,u10,u9,u8,u7,u6,u5,u4,u3,u2];by_cases hp:p<S.length
    ·rw [ae hp,am (show (p:Int)<((S.length:Nat):Int) by omega)];rfl
    ·rw [ab hp,aq (show ¬(p:Int)<((S.length:Nat):Int) by omega)];rfl
  | inr q=>
   obtain ⟨K,e,l,I,p⟩:=q;subst a;simp only [obs,sm,ob,u16,u15,u14,u13,u12,u11,u10,u9,u8,u7,u6,u5,u4,u3,u2];by_cases hp:p<S.length
   ·rw [ae hp,am (show (p:Int)<((S.length:Nat):Int) by omega)];rfl
   ·rw [ab hp,aq (show ¬(p:Int)<((S.length:Nat):Int) by omega)];rfl
theorem LI (a b:Int):mx a b=mx b a:=by unfold mx;split<;>split<;>omega
theorem Rr (a b:Int):(cond (decide (a>b)) a b)=mx a b:=by unfold mx;rw [bA]
theorem cut2 {S:aa} {p:Nat} (h:p+1<S.length):((List.drop p (List.take (p+2) S))==([46,46]:aa))=dts (S.drop p):=by
 unfold dts;rw [nu]
theorem Eo {S:aa} {p:Nat} (h:¬p+1<S.length):dts (S.drop p)=false:=by
 cases a:dts (S.drop p)
 ·rfl
 ·have:=kZ a;omega
def Vg (KF:Int) (DF:TD):(Nat×Nat)⊕(Int×TD×Int)->(Int×TD×Int×TD×Int×TD×Bool×Bool×Int×Int×Int)⊕(Int×TD×Int×TD×Int×TD×Bool×Bool×Int×Int×Int×List TI)
 | .inl f=>.inr (0,d0,0,d0,0,d0,false,false,0,(f.1:Int),(f.2:Int),[])
 | .inr (KT,DT,L)=>.inl (2,d0,KF,DF,KT,DT,false,false,L,0,0)
theorem XV {S:aa} {p:Nat} (h:p<=S.length) (hS:S.length<100000) {KF:Int} {DF:TD} (V:smT DF) (lv b:Int) (g:b=if KF=1 then lv else mx 1 lv) (J:List TI):
  nq 20000000 S (p:Int) 0 d0 KF DF 0 d0 false false b J=some (Vg KF DF (toX S p KF DF lv)):=by
 have i:(¬(KF=1/\p=S.length))->(¬(KF=1/\dts (S.drop p)=true))->(ob (eM 20000000 S (p:Int)) λa=>(cond ((d4 (d8 a)).2 != 0) (ob (bn 20000000 (d4 (d8 a)).1 (d4 (d8 a)).2) (u12 λQ v38 F t E N C v44 Z v46 I m=>(some (.inr (Q,v38,F,t,E,N,C,v44,Z,v46,I,m))))) (ob (ap10 (aN 20000000) (iF a)) λX=>(cond (X==0) (ob (bn 20000000 (d8 a).2.2.1 11) (u12 λk D x v53 v54 W v56 w v58 o T L=>(some (.inr (k,D,x,v53,v54,W,v56,w,v58,o,T,L))))) (cond (decide ((d4 (d8 a)).1<(len S))) (ob (bn 20000000 (d4 (d8 a)).1 5) (u12 λM q u v v66 s R G z U j v73=>(some (.inr (M,q,u,v,v66,s,R,G,z,U,j,v73))))) (ob (ap10 (ap10 (eS 20000000 KF) DF 1) (iF a)) λv74=>(cond (v74 != 0) (ob (bn 20000000 (d8 a).2.2.1 11) (u12 λy B O v78 v79 Y H v82 v83 v84 v85 K=>(some (.inr (y,B,O,v78,v79,Y,H,v82,v83,v84,v85,K))))) (ob (bx (List.length S) (p:Int)) λl=>(ob (eV 20000000 (List.drop l (List.take (List.length S) S))) λv88=>(some (.inl (2,d0,KF,DF,1,(iF a),false,false,(mx v88 b),0,0)))))))))))) =
   some (Vg KF DF (toX S p KF DF lv)):=by
  intro d e;obtain ⟨A,hA⟩:=sg S p h hS;rw [hA];unfold toX toP;rw [ab d,ab e];cases hr:ct S p with
  | inl f=>
   have hE:=oi h hr;rw [zR];simp only [ob];show cond (((f.2.1:Nat):Int) != 0) _ _=_;rw [show (((f.2.1:Nat):Int) != 0)=true from by simp;omega];rfl
  | inr r=>
   obtain ⟨s1,c1,l1,l2⟩:=iQ h hr;obtain ⟨_,_,_,_,_,_,_,_,_,_,hv⟩:=xJ h hr;rw [uP];simp only [ob];show cond ((0:Int) != 0) _ (ob (ap10 (aN 20000000) (tdR r)) _)=_;rw [reT s1];simp only [dA,af,ob];cases hx:exT (tdR r)
   ·rfl
   ·simp only [aJ,show ((1:Int)==0)=false from rfl,af];show cond (decide (((enR r:Nat):Int)<len S)) _ (ob (ap10 (ap10 (eS 20000000 KF) DF 1) (tdR r)) _)=_;by_cases n:enR r<S.length
    ·rw [am (show ((enR r:Nat):Int)<len S by show ((enR r:Nat):Int)<((S.length:Nat):Int);omega),ae (.inl n)];simp only [ae n];rfl
    ·rw [aq (show ¬((enR r:Nat):Int)<len S by show ¬((enR r:Nat):Int)<((S.length:Nat):Int);omega),af,KR V s1];simp only [ob];by_cases hp:ot KF DF 1 (tdR r)=0
     ·rw [ae (.inr hp),show (ot KF DF 1 (tdR r) != 0)=false from by simp [hp],af,ef h];simp only [ab n,md];have e1:(S.drop p).take (enR r - p)=S.drop p:=by
       rw [ji];rw [bL];omega
      rw [e1] at hv;rw [hv];simp only [<-g];unfold lvR;rw [e1];rfl
     ·rw [ab (by rintro (h | h)<;>contradiction),show (ot KF DF 1 (tdR r) != 0)=true from by simp [hp]];rfl
 unfold nq;have P:ks 20000000 S (p:Int) b (KF==1) J d0 KF DF 0 d0 false false ([]:List TI)=some (S,(p:Int),b,KF==1,decide (KF=1/\p=S.length),J,d0,KF,DF,0,d0,false,false,[]):=by
  unfold ks;by_cases c:KF=1
  ·rw [show (KF==1)=true from by simp [c],ah,show (((p:Nat):Int)==len S)=decide (p=S.length) from natB p S.length];simp [c]
  ·rw [show (KF==1)=false from by simp [c],af,aq (λh=>c h.1)]
 rw [P];simp only [ob,u14,u13,u12,u11,u10,u9,u8,u7,u6,u5,u4,u3,u2,Rr];by_cases d:KF=1/\p=S.length
 ·rw [am d,ah];unfold toX toP;rw [ae d];simp only [];rw [ab (by omega),g,ae d.1,LI];rfl
 ·rw [aq d,af];have hj7:kl 20000000 S (p:Int) b (KF==1) J d0 KF DF 0 d0 false false ([]:List TI)=some (S,(p:Int),b,decide (KF=1/\dts (S.drop p)=true),J,d0,KF,DF,0,d0,false,false,[]):=by
   unfold kl;by_cases c:KF=1
   ·rw [show (KF==1)=true from by simp [c],ah,show w64 (((p:Nat):Int)+1)=((p+1:Nat):Int) from rf_w 1 (by omega),show w64 (((p:Nat):Int)+2)=((p+2:Nat):Int) from rf_w 2 (by omega)];by_cases hp:p+1<S.length
    ·rw [am (show ((p+1:Nat):Int)<len S by show ((p+1:Nat):Int)<((S.length:Nat):Int);omega),ah,ef (by omega)];simp only [ob];rw [ef (by omega)];simp only [cut2 hp];rw [c];cases dts (S.drop p)<;>simp
    ·rw [aq (show ¬((p+1:Nat):Int)<len S by show ¬((p+1:Nat):Int)<((S.length:Nat):Int);omega),af,Eo hp];simp
   ·rw [show (KF==1)=false from by simp [c],af,aq (λh=>c h.1)]
  rw [hj7];simp only [u13,u12,u11,u10,u9,u8,u7,u6,u5,u4,u3,u2];by_cases e:KF=1/\dts (S.drop p)=true
  ·have hl:=kZ e.2;rw [am e,ah,show w64 (((p:Nat):Int)+2)=((p+2:Nat):Int) from rf_w 2 (by omega)];unfold toX toP;rw [ab d,ae e];simp only [];by_cases hp:p+2<S.length
   ·rw [am (show ((p+2:Nat):Int)<len S by show ((p+2:Nat):Int)<((S.length:Nat):Int);omega),ae hp];rfl
   ·rw [aq (show ¬((p+2:Nat):Int)<len S by show ¬((p+2:Nat):Int)<((S.length:Nat):Int);omega),ab hp,g,ae e.1,LI];rfl
  ·rw [aq e,af];exact i d e
def Qx:(Nat×Nat)⊕(Int×TD×Int×TD×Int×TD×Int)⊕(Int×Bool×Bool×List TI)->Int×TD×Int×TD×Int×TD×Bool×Bool×Int×Int×Int×List TI
 | .inl f=>(0,d0,0,d0,0,d0,false,false,0,(f.1:Int),(f.2:Int),[])
 | .inr (.inl (K,D,KF,DF,KT,DT,L))=>(K,D,KF,DF,KT,DT,false,false,L,0,0,[])
 | .inr (.inr (K,e,l,I))=>(K,d0,0,d0,0,d0,e,l,2,0,0,I)
theorem MK {S:aa} {p:Nat} (h:p+1<=S.length) (d:S.length<100000) {KF:Int} {DF:TD} (c:smT DF) (lv a:Int) (b:a=if KF=1 then lv else mx 1 lv) (I J:List TI):
  gV 20000000 S a (p:Int) KF DF I J=some (match toX S (p+1) KF DF lv with
   | .inl f=>(0,(f.1:Int),(f.2:Int),0,d0,0,d0,0,d0,false,false,[])
   | .inr (KT,DT,L)=>(L,0,0,2,d0,KF,DF,KT,DT,false,false,J)):=by
 unfold gV;rw [show w64 (((p:Nat):Int)+1)=((p+1:Nat):Int) from rf_w 1 (by omega),XV h d c lv a b J];cases toX S (p+1) KF DF lv with
 | inl f=>rfl
 | inr q=>rfl
theorem M4 {S:aa} {p:Nat} (lv KF:Int) (DF:TD) (I J:List TI):dT 20000000 S lv (p:Int) KF DF I J=some (S,lv,(p:Int),!decide ((S.drop p).head?=some 47),KF,DF,I,J):=by
 unfold dT;by_cases hp:p<S.length
 ·have a:=be hp;rw [aq (show ¬((p:Nat):Int)>=len S by show ¬((p:Nat):Int)>=((S.length:Nat):Int);omega),af,dI a,bS a];simp only [ob,pp,au];rw [show (((S[p].toNat:Nat):Int) != 47)=!decide (S[p]=47) from bY _ (lA S[p] 47 (by decide))]
 ·rw [am (show ((p:Nat):Int)>=len S by show ((p:Nat):Int)>=((S.length:Nat):Int);omega),jr (by omega)];rfl
theorem I7 {S:aa} (H:S.length<=16384):kr 20000000 S=some (Qx (iu S)):=by
 unfold kr;rw [show decide (len S>16384)=false from aq (by show ¬(16384:Int)<((S.length:Nat):Int);omega),af];have v:iJ 20000000 S ([]:List TI)=some (S,decide (S.head?=some 91\/S.head?=some 123),[]):=by
  unfold iJ;cases S with
  | nil=>rfl
  | cons c r=>
   rw [show ((c::r)==([]:aa))=false from rfl];simp only [ij,ah,ob,show sx (c::r) (0:Int)=some c from rfl,pp,au];rw [show (((c.toNat:Nat):Int)==91)=decide (c=91) from lA c 91 (by decide),show (((c.toNat:Nat):Int)==123)=decide (c=123) from lA c 123 (by decide)];by_cases h:c=91
   ·simp [h]
   ·simp [h]
 rw [v];simp only [ob,u3,u2];unfold iu;by_cases g:S.head?=some 91\/S.head?=some 123
 ·rw [am g,ae g,ah];have n:=Tt (S:=S) (a:=0) (by omega) (by omega);rw [show ((0:Nat):Int)=0 from rfl] at n;rw [n];unfold yC;cases h:pq S 0 with
  | inl f=>
   have D:=wy (by omega) h;simp only [Ly,u12,u11,u10,u9,u8,u7,u6,u5,u4,u3,u2];rw [show (((f.2.1:Nat):Int) != 0)=true from by simp;omega];rfl
  | inr q=>
   obtain ⟨K,e,l,I,p⟩:=q;simp only [Ly,u12,u11,u10,u9,u8,u7,u6,u5,u4,u3,u2,dA,af];show cond (decide ((p:Int)<len S)) _ _=_;by_cases hp:p<S.length
   ·rw [am (show (p:Int)<len S by show (p:Int)<((S.length:Nat):Int);omega)];simp only [ae hp];rfl
   ·rw [aq (show ¬(p:Int)<len S by show ¬(p:Int)<((S.length:Nat):Int);omega)];simp only [ab hp];rfl
 rw [aq g,ab g,af];have s:gS 20000000 S ([]:List TI) ([]:List TI)=some (S,dts S,[],[]):=by
  unfold gS;by_cases h:1<S.length
  ·have w:bx S.length (2:Int)=some 2:=ef (i:=2) (by omega);rw [show decide (len S>1)=true from am (by show (1:Int)<((S.length:Nat):Int);omega),ah,w];rfl
  ·rw [show decide (len S>1)=false from aq (by show ¬(1:Int)<((S.length:Nat):Int);omega),af];have:=Eo (S:=S) (p:=0) (by omega);rw [cf] at this;rw [this]
 rw [s];simp only [u4,u3,u2];unfold jP;have t:gX 20000000 S ([]:List TI) ([]:List TI)=some (S,decide (S.head?=some 47),[],[]):=by
  unfold gX;cases S with
  | nil=>rfl
  | cons c r=>
   rw [show ((c::r)==([]:aa))=false from rfl];simp only [ij,ah,ob,show sx (c::r) (0:Int)=some c from rfl,pp,au];rw [show (((c.toNat:Nat):Int)==47)=decide (c=47) from lA c 47 (by decide)]
 rw [t];cases F:dts S
 ·simp only [af,ob,u4,u3,u2,br,aB];unfold jS;by_cases j:S.head?=some 47
  ·have C:1<=S.length:=by
    have:=dV (S:=S) (p:=0) (c:=47) (by rw [cf];exact j);omega
   have b:=M4 (S:=S) (p:=0) 1 3 d0 [] [];rw [cf,am j,show ((0:Nat):Int)=0 from rfl] at b;have d:=MK (S:=S) (p:=0) C (by omega) nS (KF:=3) 0 1 rfl [] [];rw [show ((0:Nat):Int)=0 from rfl] at d;rw [am j,ae j];simp only [ah,obs,sm,ob,u7,u6,u5,u4,u3,u2,b,cv,af,u8,d];rw [show (0+1)=1 from rfl];cases toX S 1 3 d0 0 with
   | inl f=>rfl
   | inr q=>rfl
  ·rw [aq j,ab j];obtain ⟨A,z⟩:=sg S 0 (by omega) (by omega);rw [show ((0:Nat):Int)=0 from rfl] at z;rw [z];cases n:ct S 0 with
   | inl f=>
    have D:=oi (fU _) n;rw [zR];simp only [af,ob];rw [show ((d4 (d8 ((false,false,([]:aa),(0:Int),(0:Int),([]:aa),([]:aa),(0:Int),(0:Int),(0:Int),A,S,(f.1:Int),(f.2.1:Int))))).2 != 0)=true from by show (((f.2.1:Nat):Int) != 0)=true;simp;omega];rfl
   | inr r=>
    obtain ⟨y,J,G,E⟩:=iQ (fU _) n;obtain ⟨_,_,_,_,_,_,_,_,_,_,B⟩:=xJ (fU _) n;rw [cf,qm] at B;have hv':eV 20000000 (S.take (enR r))=some (lvR S 0 r):=by
     unfold lvR;rw [cf,qm];exact B
    rw [uP];simp only [af,ob];show obs (obs (cond ((0:Int) != 0) _ (ob (bx S.length ((enR r:Nat):Int)) _)) _ _) _ _=_;rw [ef E];simp only [dA,af,ob,cf,hv'];rw [show ((d4 (d8 ((tdR r).1,(tdR r).2.1,(tdR r).2.2.1,(tdR r).2.2.2.1,(tdR r).2.2.2.2.1,(tdR r).2.2.2.2.2.1,(tdR r).2.2.2.2.2.2.1,(tdR r).2.2.2.2.2.2.2.1,(tdR r).2.2.2.2.2.2.2.2.1,(tdR r).2.2.2.2.2.2.2.2.2,((plR r:Nat):Int),S,((enR r:Nat):Int),(0:Int)))).1==len S)=decide (enR r=S.length) from natB _ _];by_cases u:enR r=S.length
    ·have m:(S.drop (enR r)).head?=none:=by rw [u,vB];rfl
     rw [am u,m];simp only [reduceCtorEq,aB];rw [ab (by omega)];rfl
    ·have o:enR r<S.length:=by omega
     have x:=be o;rw [aq u,af];unfold jO;show obs (obs (ob (ob (sx S ((enR r:Nat):Int)) _) _) _ _) _ _=_;rw [dI x];have m:(S.drop (enR r)).head?=some S[enR r]:=by rw [bS x];rfl
     simp only [ob];rw [show (((S[enR r].toNat:Nat):Int)==47)=decide (S[enR r]=47) from lA _ 47 (by decide),show ap10 (aN 20000000) (iF ((tdR r).1,(tdR r).2.1,(tdR r).2.2.1,(tdR r).2.2.2.1,(tdR r).2.2.2.2.1,(tdR r).2.2.2.2.2.1,(tdR r).2.2.2.2.2.2.1,(tdR r).2.2.2.2.2.2.2.1,(tdR r).2.2.2.2.2.2.2.2.1,(tdR r).2.2.2.2.2.2.2.2.2,((plR r:Nat):Int),S,((enR r:Nat):Int),(0:Int)))=some (if exT (tdR r) then 1 else 0) from reT y];have b:=M4 (S:=S) (p:=enR r) (lvR S 0 r) 1 (tdR r) [] [];by_cases k:S[enR r]=47
     ·rw [m,am k,ae (show some S[enR r]=some 47 by rw [k])];rw [m,am (by rw [k])] at b;simp only [ah];cases hx:exT (tdR r)
      ·rfl
      ·have d:=MK (S:=S) (p:=enR r) (by omega) (by omega) y (KF:=1) (lvR S 0 r) (lvR S 0 r) rfl [] [];simp only [aJ,show ((1:Int)==0)=false from rfl,u10,u9,u8,u7,u6,u5,u4,u3,u2,af,obs,sm,ob];rw [show dT 20000000 S (lvR S 0 r) ((enR r:Nat):Int) 1 (tdR r) [] []=_ from b];simp only [cv,af];rw [d];cases toX S (enR r+1) 1 (tdR r) (lvR S 0 r) with
       | inl f=>rfl
       | inr q=>rfl
     ·rw [m,aq k,ab (show ¬some S[enR r]=some 47 by simpa using k),ae o];rw [m,aq (by simpa using k)] at b;simp only [af,u10,u9,u8,u7,u6,u5,u4,u3,u2,obs,sm,ob];rw [show dT 20000000 S (lvR S 0 r) ((enR r:Nat):Int) 1 (tdR r) [] []=_ from b];rfl
 ·have w:S.head?≠some 47:=by
   obtain ⟨r,rfl⟩:=vp.1 F;simp
  rw [ab w,ae rfl];have b:=M4 (S:=S) (p:=2) 1 2 d0 [] [];rw [show ((2:Nat):Int)=2 from rfl] at b;simp only [ah,obs,sm,ob,u7,u6,u5,u4,u3,u2,b,u8];by_cases hs:(S.drop 2).head?=some 47
  ·have d:=MK (S:=S) (p:=2) (dV hs) (by omega) nS (KF:=2) 0 1 rfl [] [];rw [show ((2:Nat):Int)=2 from rfl] at d;rw [am hs,ae hs];simp only [cv,af,d];rw [show (2+1)=3 from rfl];cases toX S 3 2 d0 0 with
   | inl f=>rfl
   | inr q=>rfl
  ·rw [aq hs,ab hs];rfl
def lvX (x:TD):Int:=lvT (gN x) x
theorem LF {x:TD} (hs:smT x) (hc:cF x=0):∃r,ct (gN x) 0=.inr r/\tdR r=x/\enR r=(gN x).length/\lvR (gN x) 0 r=lvX x:=by
 obtain ⟨r,d,c,b⟩:=zi hs hc (S:=gN x) (a:=0) (post:=[]) (by simp) HZ;rw [de] at b;refine ⟨r,d,c,b,?_⟩;unfold lvR lvX;rw [c,b,qm,cf,md]
theorem L0 (x:TD):0<=lvX x/\lvX x<=2:=D3 _ _ _ _
theorem GV {S:aa} {a:Nat} (h:a<=S.length) {r:DR} (J:ct S a=.inr r):lvX (tdR r)<=lvR S a r:=by
 obtain ⟨N,W,_,_⟩:=iQ h J;obtain ⟨A,B,u,k,mk,_,y,v,I,_,_⟩:=xJ h J;obtain ⟨g',Z,R,Y,K,m',d',k0,k1,k2,O,ok⟩:=oV N W;unfold lvR;generalize U:(S.drop a).take (enR r - a)=T at *;obtain ⟨g,l,dg,x,s,m,d,M,P,e⟩:=r;obtain ⟨q,p,o⟩:=M;have w:=O;unfold tdR at w;simp only [aY] at w;obtain ⟨rfl,rfl,rfl,hx,G,rfl,rfl,C,D,F⟩:=w;simp only at v y mk hx G C D F;have hx:x=Y:=by omega
 have G:s=K:=by omega
 have C:q=k0:=by omega
 have D:p=k1:=by omega
 have F:o=k2:=by omega
 subst hx G C D F;obtain ⟨V,k',n,_,Q,X⟩:=HH ok.sh mk;rw [<-y] at n;have L:u=V:=by rw [<-pa I,<-pa n]
 subst L;cases H:u.any isLv with
 | true=>
  have:lvT T (tdR (g,l,dg,x,s,m,d,(q,p,o),P,e))=2:=by
   unfold lvT lvl;rw [pa I,H];rfl
  rw [this];exact (L0 _).2
 | false=>
  obtain ⟨E,c,b⟩:=Q H;have:gN (tdR (g,l,dg,x,s,m,d,(q,p,o),P,e))=T:=by
   rw [y];show rawD (plA (dj m d) q p o) (plB (dj m d) q p o) g l dg (x:Int) (s:Int) m d=_;obtain ⟨B0,B1,B2⟩:=B;subst E;simp only at c b v;have t:=mk.zm;have f:=mk.zd;simp only at t f;simp only [spM,aY,Nat.zero_or] at v;obtain ⟨rfl,rfl,rfl⟩:=v;by_cases j:m=[]
   ·have i:d=[]:=ok.day.resolve_right (λz=>z.1 j);obtain ⟨_,rfl⟩:=t j;obtain ⟨_,rfl⟩:=f i;subst j i;rw [HD];simp [plA,plB,Kx]
   ·have c:=c j;subst c;by_cases i:d=[]
    ·obtain ⟨_,rfl⟩:=f i;subst i;rw [Ea j];simp [plA,plB,Kx]
    ·have b:=b i;subst b;rw [DN j i];simp [plA,plB,Kx]
  unfold lvX;rw [this];exact xf _
def jZ (K:Int) (x:TD):aa:=if K=2 then [46,46] else if K=3 then [] else gN x
def okB (K:Int) (x:TD):Prop:=(K=1/\cF x=0/\exT x=true)\/((K=2\/K=3)/\x=d0)
theorem QT {K:Int} {x:TD} (h:sD K x=0):okB K x:=by
 by_cases c:K=1
 ·subst c;obtain ⟨a,b⟩:=Fj h;exact .inl ⟨rfl,a,b⟩
 ·unfold sD chkB at h;rw [ab c] at h;split at h
  ·rename_i d;split at h
   ·rename_i e;exact .inr ⟨d,oI.1 e⟩
   ·cases h
  ·cases h
theorem pF {KF KT:Int} {x y:TD} (h:ot KF x KT y=0):okB KF x/\okB KT y/\(KF=1\/KT=1):=by
 unfold ot EW at h;by_cases b:sD KF x=0
 ·rw [ab (λz=>z b)] at h;by_cases a:sD KT y=0
  ·rw [ab (λz=>z a)] at h;split at h
   ·cases h
   ·rename_i c;exact ⟨QT b,QT a,by omega⟩
  ·rw [ae a] at h;exact absurd h a
 ·rw [ae b] at h;exact absurd h b
inductive RightP:Int->TD->Int->TD->Int->TD->Bool->Bool->List TI->Prop where
 | single {x:TD} (hs:smT x) (hc:cF x=0):RightP 1 x 0 d0 0 d0 false false []
 | interval {KF:Int} {x:TD} {KT:Int} {y:TD} (hx:smT x) (hy:smT y) (hp:ot KF x KT y=0):RightP 2 d0 KF x KT y false false []
 | set {K:Int} {e l:Bool} {I:List TI} (P:SetP K d0 0 d0 0 d0 e l I) (hs:∀t∈I,smI t):RightP K d0 0 d0 0 d0 e l I
theorem Ku {k:Int} {D:TD} {KF:Int} {DF:TD} {KT:Int} {DT:TD} {e l:Bool} {I:List TI} (hs:smE D DF DT I) (h:(ia k D KF DF KT DT e l I).2=0):RightP k D KF DF KT DT e l I:=by
 by_cases f:k=3\/k=4
 ·have P:=xu f h;obtain ⟨rfl,rfl,rfl,rfl,rfl⟩:D=d0/\KF=0/\DF=d0/\KT=0/\DT=d0:=⟨P.d,P.kf,P.df,P.kt,P.dt⟩;exact .set P hs.2.2.2
 ·unfold ia at h;split at h
  ·simp at h
  ·split at h
   ·simp at h
   ·rename_i p a;unfold unuB at a;generalize z1:eqD D d0=q at a;generalize z2:eqD DF d0=n at a;generalize i:eqD DT d0=o at a;by_cases k1:k=1
    ·subst k1;rw [ae rfl] at h;simp at a;obtain ⟨⟨⟨a1,a2⟩,b,c⟩,g,j,m⟩:=a;subst a1 b g j m;rw [oI.1 (z2.trans a2),oI.1 (i.trans c)];exact .single hs.1 h
    ·have k2:k=2:=by omega
     subst k2;rw [ab (by omega),ae rfl] at h;simp at a;obtain ⟨a1,a2,b,c⟩:=a;subst a2 b c;rw [oI.1 (z1.trans a1)];exact .interval hs.2.1 hs.2.2.1 h
def kH (k:Int) (D:TD) (KF:Int) (DF:TD) (KT:Int) (DT:TD) (e l:Bool) (I:List TI):aa:=
 if k=1 then gN D else if k=2 then jZ KF DF++47::jZ KT DT else qE k e l I
def lvE (k:Int) (D:TD) (KF:Int) (DF:TD) (KT:Int) (DT:TD):Int:=
 if k=1 then lvX D else if k=2 then mx (if KT=1 then lvX DT else 1) (if KF=1 then lvX DF else 1) else 2
def exOf (k:Int) (D:TD) (KF:Int) (DF:TD) (KT:Int) (DT:TD) (e l:Bool) (I:List TI) (L:Int):(Nat×Nat)⊕(Int×TD×Int×TD×Int×TD×Int)⊕(Int×Bool×Bool×List TI):=
 if k=1\/k=2 then .inr (.inl (k,D,KF,DF,KT,DT,L)) else .inr (.inr (k,e,l,I))
theorem za {x:TD} (hs:smT x) (hc:cF x=0) (r:aa) (c:UInt8) (a:brk c=true):(gN x++r).head?≠some c:=λh=>by
 have:=oh hs hc r c h;rw [a] at this;cases this
theorem Qr {x:TD} (hs:smT x) (hc:cF x=0):gN x≠[]:=by
 obtain ⟨g,l,dg,e,q,m,d,a,b,c,rfl,ok⟩:=oV hs hc;obtain ⟨f,_,_⟩:=xB ok.yr;intro h;have h:qi g l dg (e:Int) (q:Int) m d a b c=[]:=h;unfold qi cw at h;have:=bY List.length h;simp only [aU,aX] at this;exact f (tL (by omega))
theorem Bl {KF:Int} {DF:TD} {KT:Int} {DT:TD} (hx:smT DF) (hy:smT DT) (hp:ot KF DF KT DT=0) {S:aa} {p:Nat} (q:p<=S.length) (h:S.drop p=jZ KT DT) (lv:Int):
  toX S p KF DF lv=.inr (KT,DT,mx (if KT=1 then lvX DT else 1) (if KF=1 then lv else mx 1 lv)):=by
 obtain ⟨t,i,b1⟩:=pF hp;have b:=bY List.length h;rw [bL] at b;unfold toX toP;rcases i with ⟨rfl,hc,k⟩ | ⟨n,rfl⟩
 ·have f:jZ 1 DT=gN DT:=by unfold jZ;rw [ab (by omega),ab (by omega)]
  rw [f] at h b;have o:¬(KF=1/\p=S.length):=by
   rintro ⟨_,e⟩;exact Qr hy hc (tL (by omega))
  have d:¬(KF=1/\dts (S.drop p)=true):=by
   rintro ⟨_,e⟩;rw [h] at e;have:=oh hy hc [];rw [lw] at this;rw [rZ this] at e;cases e
  obtain ⟨r,m,g,l⟩:=zi hy hc (S:=S) (a:=p) (post:=[]) (by rw [h,lw]) HZ;rw [ab o,ab d,m];simp only [];rw [g,ae k,ae (.inr hp)];simp only [aJ];rw [ab (by omega)];have:lvR S p r=lvX DT:=by
   unfold lvR lvX;rw [g,l,h];rw [show p+(gN DT).length - p=(gN DT).length by omega,md]
  rw [this]
 ·have j:KF=1:=by omega
  subst j;rcases n with rfl | rfl
  ·have f:S.drop p=[46,46]:=h;have d:dts (S.drop p)=true:=by rw [f];rfl
   have s:=kZ d;have c:(jZ 2 d0).length=2:=rfl;rw [ab (by omega),ae ⟨rfl,d⟩];simp only [];rw [ab (by omega)];rfl
  ·have c:(jZ 3 d0).length=0:=rfl;rw [ae ⟨rfl,by omega⟩];simp only [];rw [ab (by omega)];rfl
theorem CG {x:TD} (hs:smT x) (hc:cF x=0):iu (gN x)=.inr (.inl (1,x,0,d0,0,d0,lvX x)):=by
 obtain ⟨r,d,f,e,r4⟩:=LF hs hc;have b:=oh hs hc [];rw [lw] at b;have a:=λc b=>za hs hc [] c b;rw [lw] at a;generalize gN x=T at *;unfold iu;rw [ab (by rintro (h | h);exact a 91 (by decide) h;exact a 123 (by decide) h),ab (a 47 (by decide)),rZ b,ab (by simp),d];simp only [];rw [e,vB,ab (by simp),ab (by omega),f,r4]
theorem Jh {DF:TD} (hx:smT DF) (hc:cF DF=0) (n:exT DF=true) {KT:Int} {DT:TD} (hy:smT DT) (hp:ot 1 DF KT DT=0):iu (gN DF++47::jZ KT DT)=.inr (.inl (2,d0,1,DF,KT,DT,mx (if KT=1 then lvX DT else 1) (lvX DF))):=by
 have f:=oh hx hc (47::jZ KT DT);have b:=λc f=>za hx hc (47::jZ KT DT) c f;generalize i:gN DF++47::jZ KT DT=S at *;obtain ⟨r,m,k,e⟩:=zi hx hc (S:=S) (a:=0) (post:=47::jZ KT DT) (by rw [cf,i]) (rH (by decide));rw [de] at e;have d:S.drop (enR r)=47::jZ KT DT:=by rw [e,<-i,List.drop_left]
 have l:S.drop (enR r+1)=jZ KT DT:=by rw [<-jp,d];rfl
 have o:lvR S 0 r=lvX DF:=by
  unfold lvR lvX;rw [k,e,qm,cf,<-i,Bz]
 have g:enR r+1<=S.length:=by
  have:=bY List.length d;rw [bL,az] at this;omega
 have j:=Bl hx hy hp g l (lvX DF);rw [ae rfl] at j;unfold iu;rw [ab (by rintro (h | h);exact b 91 (by decide) h;exact b 123 (by decide) h),ab (b 47 (by decide)),rZ f,ab (by simp),m];simp only [];rw [d,pp,ae rfl,k,ae n,o,j]
theorem Jt {DT:TD} (hy:smT DT) (hp:ot 2 d0 1 DT=0):iu (46::46::47::gN DT)=.inr (.inl (2,d0,2,d0,1,DT,mx (lvX DT) 1)):=by
 have a:=Bl nS hy hp (S:=46::46::47::gN DT) (p:=3) (by simp only [az];omega) (by simp only [nO,cf];unfold jZ;rw [ab (by omega),ab (by omega)]) 0;rw [ae rfl,ab (by omega)] at a;generalize gN DT=T at *;unfold iu;rw [ab (by simp),ab (by simp)];have b:dts (46::46::47::T)=true:=rfl;rw [ae b,ae (by rfl),a];rfl
theorem MD {DT:TD} (hy:smT DT) (hp:ot 3 d0 1 DT=0):iu (47::gN DT)=.inr (.inl (2,d0,3,d0,1,DT,mx (lvX DT) 1)):=by
 have a:=Bl nS hy hp (S:=47::gN DT) (p:=1) (by simp only [az];omega) (by simp only [nO,cf];unfold jZ;rw [ab (by omega),ab (by omega)]) 0;rw [ae rfl,ab (by omega)] at a;generalize gN DT=T at *;unfold iu;rw [ab (by simp),ae (by rfl),a];rfl
theorem tf {k:Int} {D:TD} {KF:Int} {DF:TD} {KT:Int} {DT:TD} {e l:Bool} {I:List TI} (h:RightP k D KF DF KT DT e l I):iu (kH k D KF DF KT DT e l I)=exOf k D KF DF KT DT e l I (lvE k D KF DF KT DT):=by
 cases h with
 | single hs hc=>
  unfold kH exOf lvE;rw [ae (by omega),ae (by omega),ae (by omega),CG hs hc]
 | interval hx hy hp=>
  obtain ⟨o,p,b1⟩:=pF hp;unfold kH exOf lvE;rw [ab (by omega),ae (by omega),ae (by omega),ab (by omega),ae (by omega)];rcases o with ⟨rfl,hc,i⟩ | ⟨d,rfl⟩
  ·have a:jZ 1 DF=gN DF:=by unfold jZ;rw [ab (by omega),ab (by omega)]
   rw [a,Jh hx hc i hy hp,ae (show (1:Int)=1 from rfl)]
  ·have j:KT=1:=by omega
   subst j;have a:jZ 1 DT=gN DT:=by unfold jZ;rw [ab (by omega),ab (by omega)]
   rw [a,ae (show (1:Int)=1 from rfl),ab (by omega)];rcases d with rfl | rfl
   ·have m:jZ 2 d0=[46,46]:=by unfold jZ;rw [ae rfl]
    rw [m];exact Jt hy hp
   ·have n:jZ 3 d0=[]:=by unfold jZ;rw [ab (by omega),ae rfl]
    rw [n];exact MD hy hp
 | set P hs=>
  have ok:=λt a=>(C5 P hs t a).1;have d:=P.kind;have c:¬(k=1\/k=2):=by omega
  have f:kH k d0 0 d0 0 d0 e l I=qE k e l I:=by
   unfold kH;rw [ab (by omega),ab (by omega)]
  have b:∀L,exOf k d0 0 d0 0 d0 e l I L=.inr (.inr (k,e,l,I)):=λL=>by
   unfold exOf;rw [ab c]
  rw [f,b];have g:(qE k e l I).head?=some 91\/(qE k e l I).head?=some 123:=by
   unfold qE;rw [pp];split
   ·exact .inr rfl
   ·exact .inl rfl
  have hp:=Jv d P.one P.most ok P.set;generalize qE k e l I=T at *;unfold iu;rw [ae g,hp]
theorem CB {K:Int} {x:TD} (hs:smT x) (h:okB K x):ap10 (ic 20000000 K) x=some (jZ K x):=by
 rcases h with ⟨rfl,hc,c⟩ | ⟨a,rfl⟩
 ·have b:chkB 1 x.1 x.2.1 x.2.2.1 x.2.2.2.1 x.2.2.2.2.1 x.2.2.2.2.2.1 x.2.2.2.2.2.2.1 x.2.2.2.2.2.2.2.1 x.2.2.2.2.2.2.2.2.1 x.2.2.2.2.2.2.2.2.2=0:=by
   unfold chkB;rw [ae rfl];have hc':chkF x.1 x.2.1 x.2.2.1 x.2.2.2.1 x.2.2.2.2.1 x.2.2.2.2.2.1 x.2.2.2.2.2.2.1 x.2.2.2.2.2.2.2.1 x.2.2.2.2.2.2.2.2.1 x.2.2.2.2.2.2.2.2.2=0:=hc;have he':exD x.2.2.1 x.2.2.2.2.2.1 x.2.2.2.2.2.2.1 x.2.2.2.2.1=true:=c;rw [hc',he'];rfl
  exact Ju hs.1 hs.2.1 hs.2.2.1 hs.2.2.2.1 hs.2.2.2.2.1 hs.2.2.2.2.2 b
 ·rcases a with rfl | rfl<;>rfl
theorem pi {K:Int} {x:TD} (hs:smT x) (h:okB K x):(jZ K x).length<=37:=by
 rcases h with ⟨rfl,hc,c⟩ | ⟨b,rfl⟩
 ·have a:jZ 1 x=gN x:=by unfold jZ;rw [ab (by omega),ab (by omega)]
  rw [a];exact mV hs hc
 ·rcases b with rfl | rfl<;>decide
theorem uQ {k:Int} {D:TD} {KF:Int} {DF:TD} {KT:Int} {DT:TD} {e l:Bool} {I:List TI} (h:RightP k D KF DF KT DT e l I) (f:I.length<=5):(kH k D KF DF KT DT e l I).length<=16384:=by
 cases h with
 | single hs hc=>
  have:=mV hs hc;unfold kH;rw [ae rfl];omega
 | interval hx hy hp=>
  obtain ⟨c,a,_⟩:=pF hp;have i:=pi hx c;have g:=pi hy a;unfold kH;rw [ab (by omega),ae rfl,aU,az];omega
 | set P hs=>
  have d:=P.kind;unfold kH;rw [ab (by omega),ab (by omega)];have:=rj (I:=I) λt b=>(C5 P hs t b).1;unfold qE;cases e<;>cases l<;>simp<;>omega
theorem few {k:Int} {D:TD} {KF:Int} {DF:TD} {KT:Int} {DT:TD} {e l:Bool} {I:List TI} (h:RightP k D KF DF KT DT e l I) (a:k=1\/k=2):e=false/\l=false/\I=[]:=by
 cases h with
 | single hs hc=>exact ⟨rfl,rfl,rfl⟩
 | interval hx hy hp=>exact ⟨rfl,rfl,rfl⟩
 | set P hs=>have:=P.kind;omega
theorem sets {k:Int} {D:TD} {KF:Int} {DF:TD} {KT:Int} {DT:TD} {e l:Bool} {I:List TI} (h:RightP k D KF DF KT DT e l I) (a:¬(k=1\/k=2)):D=d0/\KF=0/\DF=d0/\KT=0/\DT=d0/\(k=3\/k=4):=by
 cases h with
 | single hs hc=>omega
 | interval hx hy hp=>omega
 | set P hs=>exact ⟨rfl,rfl,rfl,rfl,rfl,P.kind⟩
theorem SC {K:Int} {x:TD} (h:okB K x):sD K x=0:=by
 rcases h with ⟨rfl,hc,b⟩ | ⟨a,rfl⟩
 ·exact BH hc b
 ·rcases a with rfl | rfl<;>kernel_rfl
theorem Hl {K:Int} {x:TD} (hs:smT x) (h:okB K x):ap10 (jt 20000000 K) x=some (jZ K x,0):=by
 have b:chkB K x.1 x.2.1 x.2.2.1 x.2.2.2.1 x.2.2.2.2.1 x.2.2.2.2.2.1 x.2.2.2.2.2.2.1 x.2.2.2.2.2.2.2.1 x.2.2.2.2.2.2.2.2.1 x.2.2.2.2.2.2.2.2.2=0:=SC h;have:=Ul (K:=K) (g:=x.1) (l:=x.2.1) (x:=x.2.2.2.1) (q:=x.2.2.2.2.1) hs.1 hs.2.1 hs.2.2.1 hs.2.2.2.1 hs.2.2.2.2.1 hs.2.2.2.2.2;rw [ae b] at this;refine this.trans ?_;unfold jZ gN;by_cases a:K=2
 ·simp only [a,aJ]
 ·simp only [a,aB]
theorem F6 {KF:Int} {x:TD} {KT:Int} {y:TD} (hx:smT x) (hy:smT y) (hp:ot KF x KT y=0) (K:Int) (D:TD) (e l:Bool) (I:List TI):
  ie 20000000 K D KF x KT y e l I=some (jZ KF x++47::jZ KT y,0):=by
 obtain ⟨b,a,_⟩:=pF hp;have d:=pi hx b;have c:=pi hy a;unfold ie;rw [Hl hx b,Hl hy a];simp only [ob,u2];rw [ci (by simp only [az,aX];omega)];simp only [];rw [ci (by simp only [aU,az,aX];omega)];simp only [fV,eU,dW]
theorem QD {k:Int} {D:TD} {KF:Int} {DF:TD} {KT:Int} {DT:TD} {e l:Bool} {I:List TI} (h:RightP k D KF DF KT DT e l I):(ia k D KF DF KT DT e l I).2=0:=by
 cases h with
 | single hs hc=>rw [(Ec hs hc).first]
 | interval hx hy hp=>rw [(yT hx hy hp).first]
 | set P hs=>exact P.set
theorem XT {k:Int} {D:TD} {KF:Int} {DF:TD} {KT:Int} {DT:TD} {e l:Bool} {I:List TI} (h:RightP k D KF DF KT DT e l I):smE D DF DT I:=by
 cases h with
 | single hs hc=>exact ⟨hs,nS,nS,λt a=>by cases a⟩
 | interval hx hy hp=>exact ⟨nS,hx,hy,λt a=>by cases a⟩
 | set P hs=>exact ⟨nS,nS,nS,hs⟩
theorem NQ {k:Int} {D:TD} {KF:Int} {DF:TD} {KT:Int} {DT:TD} {e l:Bool} {I:List TI} (hs:smE D DF DT I):
  fY 20000000 k D KF DF KT DT e l I=some (if (ia k D KF DF KT DT e l I).2=0 then (kH k D KF DF KT DT e l I,0) else ([],(ia k D KF DF KT DT e l I).2)):=by
 unfold fY;rw [Hz hs];by_cases a:(ia k D KF DF KT DT e l I).2=0
 ·rw [ae a,a];have P:=Ku hs a;simp only [ob,dA,af,kq];cases P with
  | single hx hc=>
   rw [show ((1:Int)==1)=true from rfl,ah];unfold jk kH;rw [ae rfl,dfT hx hc];simp only [ob,u2]
  | interval hx hy hp=>
   rw [show ((2:Int)==1)=false from rfl,af,show ((2:Int)==2)=true from rfl,ah,F6 hx hy hp];unfold kH;rw [ab (by omega),ae rfl]
  | set P hi=>
   have b:=P.kind;have c:=SD (K:=k) (KF:=0) (KT:=0) (e:=e) (l:=l) hs;rw [ae (show Fb k from b),ae a] at c;rw [c];unfold kH;rw [ab (by rcases b with rfl | rfl<;>omega),ab (by rcases b with rfl | rfl<;>omega)];generalize qE k e l I=w;rcases b with rfl | rfl<;>rfl
 ·rw [ab a];simp only [ob];rw [show ((ia k D KF DF KT DT e l I).2 != 0)=true from bne_iff_ne.2 a,ah]
theorem wO {k:Int} {D:TD} {KF:Int} {DF:TD} {KT:Int} {DT:TD} {e l:Bool} {I:List TI} (h:RightP k D KF DF KT DT e l I):
  fY 20000000 k D KF DF KT DT e l I=some (kH k D KF DF KT DT e l I,0):=by
 rw [NQ (XT h),ae (QD h)]
theorem vH {k:Int} {D:TD} {KF:Int} {DF:TD} {KT:Int} {DT:TD} {e l:Bool} {I:List TI} (h:RightP k D KF DF KT DT e l I):ep 20000000 k D KF DF KT DT e l I=some (kH k D KF DF KT DT e l I):=by
 cases h with
 | single hs hc=>
  unfold ep kH;rw [ae rfl,rfT hs hc];rfl
 | interval hx hy hp=>
  obtain ⟨b,a,_⟩:=pF hp;have i:=pi hx b;have f:=pi hy a;unfold ep kH;rw [ab (by omega),ae rfl,CB hx b,CB hy a];simp only [show ((2:Int)==1)=false from rfl,show ((2:Int)==2)=true from rfl,ah,af,ob];rw [ci (by simp only [az,aX];omega)];simp only [];rw [ci (by simp only [aU,az,aX];omega)];simp only [fV,eU,dW]
 | set P hs=>
  have d:=P.kind;have g:=P.most;have ok:=λt c=>(C5 P hs t c).1;unfold ep kH;rw [ab (by omega),ab (by omega),show (k==1)=false from by simp;omega,show (k==2)=false from by simp;omega];simp only [af,Md d ok (by omega),ob]
theorem IP (n:Nat) (K:Int) (D:TD) (KF:Int) (DF:TD) (KT:Int) (DT:TD) (c d:Nat) (e l:Bool) (L:List TI):kF n K D KF DF KT DT c d e l L=ie n K D KF DF KT DT e l L:=rfl
theorem NX (n:Nat) (K:Int) (D:TD) (KF:Int) (DF:TD) (KT:Int) (DT:TD) (c d:Nat) (e l:Bool) (L:List TI):jR n K D KF DF KT DT c d e l L=jk n K D KF DF KT DT e l L:=rfl
theorem OI (n:Nat) (K:Int) (D:TD) (KF:Int) (DF:TD) (KT:Int) (DT:TD) (c:Nat) (e l:Bool) (L:List TI):jM n K D KF DF KT DT L.length c e l L=fY n K D KF DF KT DT e l L:=by
 unfold jM fY;rw [Ni];simp only [IP,NX,UX]
noncomputable def canX:(Nat×Nat)⊕(Int×TD×Int×TD×Int×TD×Int)⊕(Int×Bool×Bool×List TI)->aa×Int×Int
 | .inl f=>([],(f.1:Int),(f.2:Int))
 | .inr (.inl (K,D,KF,DF,KT,DT,_))=>(kH K D KF DF KT DT false false [],0,0)
 | .inr (.inr (K,e,l,I))=>(kH K d0 0 d0 0 d0 e l I,0,0)
def Q7:(Nat×Nat)⊕(Int×TD×Int×TD×Int×TD×Int)⊕(Int×Bool×Bool×List TI)->Prop
 | .inl f=>f.2≠0
 | .inr (.inl (K,D,KF,DF,KT,DT,L))=>RightP K D KF DF KT DT false false []/\(K=1\/K=2)
 | .inr (.inr (K,e,l,I))=>RightP K d0 0 d0 0 d0 e l I/\Fb K
theorem rE {S:aa} (b:S.length<=16384) (h:Q7 (iu S)):bg 20000000 S=some (canX (iu S)):=by
 unfold bg;rw [Bm b];generalize iu S=y at h;rcases y with f | ⟨K,D,KF,DF,KT,DT,L⟩ | ⟨K,e,l,I⟩
 ·have h:f.2≠0:=h;simp only [IG,obs,sm,ob,u12,u11,u10,u9,u8,u7,u6,u5,u4,u3,u2];rw [show (((f.2:Nat):Int) != 0)=true from bne_iff_ne.2 (by omega),ah];rfl
 ·have a:=wO h.1;simp only [IG,obs,sm,ob,u12,u11,u10,u9,u8,u7,u6,u5,u4,u3,u2,dA,af,a,ob];rfl
 ·have a:=wO h.1;simp only [IG,obs,sm,ob,u14,u13,u12,u11,u10,u9,u8,u7,u6,u5,u4,u3,u2,dA,af,OI,a,ob];rfl
theorem PS:gi 20000000=some true:=by kernel_rfl
theorem DI {k:Int} {D:TD} {KF:Int} {DF:TD} {KT:Int} {DT:TD} {e l:Bool} {I:List TI} (h:RightP k D KF DF KT DT e l I) (c:(kH k D KF DF KT DT e l I).length<=16384):
  bg 20000000 (kH k D KF DF KT DT e l I)=some (kH k D KF DF KT DT e l I,0,0):=by
 have hp:=tf h;by_cases a:k=1\/k=2
 ·obtain ⟨rfl,rfl,rfl⟩:=few h a;have b:iu (kH k D KF DF KT DT false false [])=.inr (.inl (k,D,KF,DF,KT,DT,lvE k D KF DF KT DT)):=hp.trans (ae a);rw [rE c (by rw [b];exact ⟨h,a⟩),b];rfl
 ·obtain ⟨rfl,rfl,rfl,rfl,rfl,d⟩:=sets h a;have b:iu (kH k d0 0 d0 0 d0 e l I)=.inr (.inr (k,e,l,I)):=hp.trans (ab a);rw [rE c (by rw [b];exact ⟨h,d⟩),b];rfl
end Go.Sh
