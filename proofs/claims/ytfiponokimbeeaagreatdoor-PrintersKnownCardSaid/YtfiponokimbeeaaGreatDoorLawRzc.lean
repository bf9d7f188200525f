
/- Plain proofs, kept as far as they are needed here (printed by prune.py).
   Conditions: none. -/
import Derived.Test.YtfiponokimbeeaaGreatDoorLawRzb
set_option linter.unusedVariables false
set_option linter.unusedSimpArgs false
set_option maxRecDepth 100000
namespace Go.Sh
open Go.Abs
def E8 (g l:Bool) (dg:aa) (x q:Int) (m d:aa) (k0 k1 k2:Int):Bool:=
 (((g==false)&&((l==false)&&((dg==([]:aa))&&((x==0)&&((q==0)&&true)))))&&((m==([]:aa))&&((d==([]:aa))&&(((k0==0)&&((k1==0)&&((k2==0)&&true)))&&true))))
noncomputable def chkB (K:Int) (g l:Bool) (dg:aa) (x q:Int) (m d:aa) (k0 k1 k2:Int):Int:=
 if K=1 then (if chkF g l dg x q m d k0 k1 k2=0 then (if exD dg m d q=true then 0 else 11) else chkF g l dg x q m d k0 k1 k2) else if K=2\/K=3 then (if E8 g l dg x q m d k0 k1 k2=true then 0 else 5) else 18
def Es (d a b c lo hi:Int):Int:=if d≠0 then d else if a≠0 then a else if b≠1/\c≠1 then 11 else if b≠1\/c≠1 then 0 else if lo>hi then 11 else 0
section
variable {K:Int} {g l:Bool} {dg:List UInt8} {x q:Int} {m d:List UInt8} {k0 k1 k2:Int} (hml:m.length<=18) (hdl:dg.length<=100) (hd18:d.length<=18) (h0:0<=k0) (h1:0<=k1) (h2:0<=k2)
include hml hdl hd18 h0 h1 h2
theorem vK:ig 20000000 K g l dg x q m d k0 k1 k2=some (chkB K g l dg x q m d k0 k1 k2):=by
 unfold ig chkB;rw [vJ hml hdl h0 h1 h2,GR 20000000 g l dg x q m d k0 k1 k2 (by omega) (by omega) (by omega)];simp only [ob];by_cases a:K=1
 ·subst a;rw [ae rfl];simp only [vb,ah];by_cases hc:chkF g l dg x q m d k0 k1 k2=0
  ·rw [ae hc,hc];by_cases e:exD dg m d q=true
   ·rw [ae e,e];rfl
   ·rw [ab e];rw [Gz] at e;rw [e];rfl
  ·rw [ab hc,bne0 hc];rfl
 ·rw [ab a,aM.2 a];simp only [af];have f:(!(((g==false)&&((l==false)&&((dg==([]:aa))&&((x==0)&&((q==0)&&true)))))&&((m==([]:aa))&&((d==([]:aa))&&(((k0==0)&&((k1==0)&&((k2==0)&&true)))&&true)))))=!(E8 g l dg x q m d k0 k1 k2):=rfl;rw [f];by_cases c:K=2
  ·subst c;rw [ae (.inl rfl)];cases E8 g l dg x q m d k0 k1 k2<;>rfl
  ·rw [aM.2 c];by_cases b:K=3
   ·subst b;rw [ae (.inr rfl)];cases E8 g l dg x q m d k0 k1 k2<;>rfl
   ·rw [aM.2 b,ab (by omega)];rfl
theorem wL:eW 20000000 K g l dg x q m d k0 k1 k2=some (chkB K g l dg x q m d k0 k1 k2):=by
 unfold eW chkB;rw [s8 hdl h0 h1 h2,BQ 20000000 g l dg x q m d k0 k1 k2 (by omega) (by omega) (by omega) (by omega)];simp only [ob];by_cases a:K=1
 ·subst a;rw [ae rfl];simp only [vb,ah];by_cases hc:chkF g l dg x q m d k0 k1 k2=0
  ·rw [ae hc,hc];by_cases e:exD dg m d q=true
   ·rw [ae e,ae e];rfl
   ·rw [ab e,ab e];rfl
  ·rw [ab hc,aM.2 hc];rfl
 ·rw [ab a,aM.2 a];simp only [af];have f:(!(((g==false)&&((l==false)&&((dg==([]:aa))&&((x==0)&&((q==0)&&true)))))&&((m==([]:aa))&&((d==([]:aa))&&(((k0==0)&&((k1==0)&&((k2==0)&&true)))&&true)))))=!(E8 g l dg x q m d k0 k1 k2):=rfl;rw [f];by_cases c:K=2
  ·subst c;rw [ae (.inl rfl)];cases E8 g l dg x q m d k0 k1 k2<;>rfl
  ·rw [aM.2 c];by_cases b:K=3
   ·subst b;rw [ae (.inr rfl)];cases E8 g l dg x q m d k0 k1 k2<;>rfl
   ·rw [aM.2 b,ab (by omega)];rfl
theorem Ue:jk 20000000 K g l dg x q m d k0 k1 k2=some (if chkB K g l dg x q m d k0 k1 k2=0 then (if K=2 then [46,46] else if K=3 then [] else wj g l dg x q m d k0.toNat k1.toNat k2.toNat,0) else ([],chkB K g l dg x q m d k0 k1 k2)):=by
 unfold jk;rw [vK hml hdl hd18 h0 h1 h2];simp only [ob];by_cases hc:chkB K g l dg x q m d k0 k1 k2=0
 ·rw [ae hc,hc];simp only [dJ,af];by_cases a:K=2
  ·subst a;rfl
  ·rw [aM.2 a,ab a];by_cases b:K=3
   ·subst b;rfl
   ·rw [aM.2 b,ab b];have k1':K=1:=by
     unfold chkB at hc;by_cases h:K=1
     ·exact h
     ·rw [ab h,ab (by omega)] at hc;cases hc
    have e:chkF g l dg x q m d k0 k1 k2=0:=by
     unfold chkB at hc;rw [ae k1'] at hc;by_cases h:chkF g l dg x q m d k0 k1 k2=0
     ·exact h
     ·rw [ab h] at hc;exact absurd hc h
    have c:cK 20000000 g l dg x q m d k0 k1 k2=_:=GZ 19999700 g l dg x q m d k0 k1 k2 hml hdl h0 h1 h2;rw [c,ae (mE e)];rfl
 ·rw [ab hc,bne0 hc];rfl
theorem I0 (hc:chkB K g l dg x q m d k0 k1 k2=0):gV 20000000 K g l dg x q m d k0 k1 k2=some (if K=2 then [46,46] else if K=3 then [] else wj g l dg x q m d k0.toNat k1.toNat k2.toNat):=by
 have f:=And.intro hml (And.intro hdl hd18);unfold gV;by_cases b:K=2
 ·subst b;rfl
 ·rw [aM.2 b,ab b];by_cases a:K=3
  ·subst a;rfl
  ·rw [aM.2 a,ab a];have k1':K=1:=by
    unfold chkB at hc;by_cases h:K=1
    ·exact h
    ·rw [ab h,ab (by omega)] at hc;cases hc
   have e:chkF g l dg x q m d k0 k1 k2=0:=by
    unfold chkB at hc;rw [ae k1'] at hc;by_cases h:chkF g l dg x q m d k0 k1 k2=0
    ·exact h
    ·rw [ab h] at hc;exact absurd hc h
   have c:cE 20000000 g l dg x q m d k0 k1 k2=_:=CN 19999700 h0 h1 h2 (mE e);rw [c];rfl
theorem wa (hc:chkB K g l dg x q m d k0 k1 k2=0) (b:K=1):chkF g l dg x q m d k0 k1 k2=0/\exD dg m d q=true:=by
 have c:=And.intro hml (And.intro hdl (And.intro hd18 (And.intro h0 (And.intro h1 h2))));unfold chkB at hc;rw [ae b] at hc;by_cases h:chkF g l dg x q m d k0 k1 k2=0
 ·rw [ae h] at hc;by_cases a:exD dg m d q=true
  ·exact ⟨h,a⟩
  ·rw [ab a] at hc;cases hc
 ·rw [ab h] at hc;exact absurd hc h
end
theorem Yb (n:Nat) (a b:Int):jw n a b=some (if a<b then -1 else if a>b then 1 else 0):=by
 unfold jw lj;simp only [ob,dJ,af];by_cases h:a<b
 ·rw [am h,ae h];rfl
 ·rw [aq h,ab h];by_cases c:a>b
  ·rw [am c,ae c];rfl
  ·rw [aq c,ab c];rfl
theorem F4 (a b:Int):∃r,kG 20000000 0 a 0 b=some r/\decide (r>0)=decide (a>b):=by
 have e:mI 20000000 0 0=some 0:=rfl;have o1:oL 20000000 [0,-1]=some (-1):=by kernel_rfl
 have f:oL 20000000 [0,1]=some 1:=by kernel_rfl
 have d:oL 20000000 [0,0]=some 0:=by kernel_rfl
 unfold kG;rw [e,Yb];simp only [ob];by_cases h:a<b
 ·rw [ae h,o1];exact ⟨_,rfl,by rw [aq (show ¬a>b by omega)];rfl⟩
 ·rw [ab h];by_cases c:a>b
  ·rw [ae c,f];exact ⟨_,rfl,by rw [am c];rfl⟩
  ·rw [ab c,d];exact ⟨_,rfl,by rw [aq c];rfl⟩
theorem bne1 {K:Int} (h:K≠1):(K != 1)=true:=by simp [h]
section
variable {K:Int} {g l:Bool} {dg:List UInt8} {x q:Int} {m d:List UInt8} {k0 k1 k2:Int} {K':Int} {g' l':Bool} {dg':List UInt8} {x' q':Int} {m' d':List UInt8} {p0 p1 p2:Int} (hml:m.length<=18) (hdl:dg.length<=100) (hd18:d.length<=18) (h0:0<=k0) (h1:0<=k1) (h2:0<=k2) (hml':m'.length<=18) (hdl':dg'.length<=100) (hd18':d'.length<=18) (h0':0<=p0) (h1':0<=p1) (h2':0<=p2)
include hml hdl hd18 h0 h1 h2 hml' hdl' hd18' h0' h1' h2'
theorem RQ:iy 20000000 K g l dg x q m d k0 k1 k2 K' g' l' dg' x' q' m' d' p0 p1 p2=some (Es (chkB K g l dg x q m d k0 k1 k2) (chkB K' g' l' dg' x' q' m' d' p0 p1 p2) K K' (pW g dg x m d).1 (pW g' dg' x' m' d').2):=by
 unfold iy Es;rw [vK hml hdl hd18 h0 h1 h2,vK hml' hdl' hd18' h0' h1' h2'];simp only [ob];by_cases b:chkB K g l dg x q m d k0 k1 k2=0
 ·rw [ab (by omega),b];by_cases c:chkB K' g' l' dg' x' q' m' d' p0 p1 p2=0
  ·rw [ab (by omega),c];simp only [dJ,af];by_cases e:K=1
   ·rw [show (K != 1)=false by rw [e];rfl];simp only [af];by_cases a:K'=1
    ·rw [show (K' != 1)=false by rw [a];rfl,ab (by omega),ab (by omega)];simp only [af];obtain ⟨n,k⟩:=wa hml hdl hd18 h0 h1 h2 b e;obtain ⟨f,i⟩:=wa hml' hdl' hd18' h0' h1' h2' c a;rw [EW hml hdl hd18 h0 h1 h2,EW hml' hdl' hd18' h0' h1' h2',ae n,ae k,ae f,ae i];simp only [ob];obtain ⟨r,j,o⟩:=F4 (pW g dg x m d).1 (pW g' dg' x' m' d').2;rw [j];simp only [o];by_cases h:(pW g dg x m d).1>(pW g' dg' x' m' d').2
     ·rw [am h,ae h];rfl
     ·rw [aq h,ab h];rfl
    ·rw [bne1 a,ab (by omega),ae (by omega)];rfl
   ·rw [bne1 e];by_cases a:K'=1
    ·rw [show (K' != 1)=false by rw [a];rfl,ab (by omega),ae (by omega)];rfl
    ·rw [bne1 a,ae (by omega)];rfl
  ·rw [ae c,bne0 c];rfl
 ·rw [ae b,bne0 b];rfl
theorem Ph:eG 20000000 K g l dg x q m d k0 k1 k2 K' g' l' dg' x' q' m' d' p0 p1 p2=some (Es (chkB K g l dg x q m d k0 k1 k2) (chkB K' g' l' dg' x' q' m' d' p0 p1 p2) K K' (pW g dg x m d).1 (pW g' dg' x' m' d').2):=by
 unfold eG Es;rw [wL hml hdl hd18 h0 h1 h2,wL hml' hdl' hd18' h0' h1' h2'];simp only [ob];by_cases c:chkB K g l dg x q m d k0 k1 k2=0
 ·rw [ab (by omega),c];by_cases e:chkB K' g' l' dg' x' q' m' d' p0 p1 p2=0
  ·rw [ab (by omega),e];simp only [dJ,af];by_cases b:K=1
   ·rw [show (K != 1)=false by rw [b];rfl,show (K==1)=true by rw [b];rfl];simp only [af,ah];by_cases a:K'=1
    ·rw [show (K'==1)=true by rw [a];rfl,ab (by omega),ab (by omega)];simp only [ah];obtain ⟨o,n⟩:=wa hml hdl hd18 h0 h1 h2 c b;obtain ⟨f,i⟩:=wa hml' hdl' hd18' h0' h1' h2' e a;obtain ⟨rfl,k⟩:=vZ o n;obtain ⟨rfl,j⟩:=vZ f i;rw [uI k hdl,uI j hdl'];simp only [ob];by_cases h:(pW g dg x m d).1>(pW g' dg' x' m' d').2
     ·rw [am h,ae h];rfl
     ·rw [aq h,ab h];rfl
    ·rw [aM.2 a,ab (by omega),ae (by omega)];rfl
   ·rw [bne1 b,aM.2 b];by_cases a:K'=1
    ·rw [show (K' != 1)=false by rw [a];rfl,ab (by omega),ae (by omega)];rfl
    ·rw [bne1 a,ae (by omega)];rfl
  ·rw [ae e,bne0 e];rfl
 ·rw [ae c,bne0 c];rfl
end
def plR (r:DR):Nat:=r.2.2.2.2.2.2.2.2.1.1
def enR (r:DR):Nat:=r.2.2.2.2.2.2.2.2.2
theorem II {l:aa} {b:UInt8} (h:l.take 2=[b,b]):∃r,l=b::b::r:=by
 match l,h with
 | a::c::r,h=>simp at h;exact ⟨r,by rw [h.1,h.2]⟩
theorem GI {S:aa} {a:Nat} (h:a<=S.length) {r:DR} (b:dk S a=.inr r):qp S a=.inr r/\chkR r=0:=by
 unfold dk at b;cases c:qp S a with
 | inl k=>rw [c] at b;cases b
 | inr d=>
  rw [c] at b;simp only [] at b;by_cases hc:chkR d=0
  ·rw [ae hc] at b;obtain rfl:=uP b;exact ⟨rfl,hc⟩
  ·rw [ab hc] at b;cases b
theorem kM (c:UInt8) (k:Nat) (a:k<256):(((c.toNat:Nat):Int)==(k:Int))=decide (c=UInt8.ofNat k):=by
 rw [tN,bI,decide_eq_true_iff];constructor
 ·intro h;apply gv.1;have:c.toNat=k:=by omega
  rw [this];simp;omega
 ·rintro rfl;simp;omega
def Jr (S:aa) (A:Int):(Nat×Nat×Nat)⊕DR->Bool×Bool×aa×Int×Int×aa×aa×Int×Int×Int×Int×aa×Int×Int
 | .inl (k,E,p)=>(false,false,[],0,0,[],[],0,0,0,A,S,(k:Int),(E:Int))
 | .inr (g,l,dg,x,s,m,d,M,P,e)=>(g,l,dg,(x:Int),(s:Int),m,d,(M.1:Int),(M.2.1:Int),(M.2.2:Int),(P.1:Int),S,(e:Int),0)
theorem rD (S:aa) (a:Nat) (h:a<=S.length) (t:S.length<100000):∃A,eQ 20000000 S (a:Int)=some (Jr S A (dk S a)):=by
 obtain ⟨Q,w,o⟩:=wi 19999700 S a h t (by omega);rw [show 19999700+300=20000000 from rfl] at o;obtain ⟨b,i,f,rfl⟩:∃b i f,Q=[b,i,f]:=by
  match Q,w with
  | [b,i,f],_=>exact ⟨b,i,f,rfl⟩
 unfold eQ dk;rw [o];cases u:qp S a with
 | inl k=>exact ⟨b,rfl⟩
 | inr r=>
  obtain ⟨g,l,dg,x,s,n,d,M,P,e⟩:=r;have c:=By h u;have p:=c.all;have v:=c.dg17;simp only [ob,RE,d4,d8,dJ,af];rw [s8 (g:=g) (l:=l) (x:=(x:Int)) (q:=(s:Int)) (m:=n) (d:=d) (show dg.length<=100 by omega) (show (0:Int)<=(M.1:Int) by omega) (show (0:Int)<=(M.2.1:Int) by omega) (show (0:Int)<=(M.2.2:Int) by omega)];have j:=um (g:=g) (l:=l) (dg:=dg) (x:=(x:Int)) (q:=(s:Int)) (m:=n) (d:=d) (k0:=(M.1:Int)) (k1:=(M.2.1:Int)) (k2:=(M.2.2:Int)) (uF p);unfold chkR;simp only [];refine ⟨(P.1:Int),?_⟩;rcases j with hc | hc | hc | hc<;>rw [hc]<;>rfl
theorem qB {S:aa} {a:Nat} (h:a<=S.length) {k E p:Nat} (b:dk S a=.inl (k,E,p)):E≠0:=by
 unfold dk at b;cases c:qp S a with
 | inl k'=>rw [c] at b;simp only [] at b;have:=Sum.inl.inj b;simp at this;omega
 | inr d=>
  rw [c] at b;simp only [] at b;by_cases hc:chkR d=0
  ·rw [ae hc] at b;cases b
  ·rw [ab hc] at b;have:=Sum.inl.inj b;simp at this;omega
def smT (x:TD):Prop:=x.2.2.2.2.2.1.length<=18/\x.2.2.1.length<=100/\x.2.2.2.2.2.2.1.length<=18/\0<=x.2.2.2.2.2.2.2.1/\0<=x.2.2.2.2.2.2.2.2.1/\0<=x.2.2.2.2.2.2.2.2.2
noncomputable def cF (x:TD):Int:=chkF x.1 x.2.1 x.2.2.1 x.2.2.2.1 x.2.2.2.2.1 x.2.2.2.2.2.1 x.2.2.2.2.2.2.1 x.2.2.2.2.2.2.2.1 x.2.2.2.2.2.2.2.2.1 x.2.2.2.2.2.2.2.2.2
def exT (x:TD):Bool:=exD x.2.2.1 x.2.2.2.2.2.1 x.2.2.2.2.2.2.1 x.2.2.2.2.1
def dyT (x:TD):Int×Int:=pW x.1 x.2.2.1 x.2.2.2.1 x.2.2.2.2.2.1 x.2.2.2.2.2.2.1
def seT (x:TD):Int:=sea x.2.2.2.2.2.1
def coT (x:TD):Nat:=dB x.2.2.2.2.2.1 x.2.2.2.2.2.2.1
noncomputable def plT (x:TD):Bool:=decide (cF x=0)&&(exT x&&!decide (0<seT x))
theorem n8:smT d0:=by unfold smT;simp
theorem fcT {x:TD} (h:smT x):ap10 (bq 20000000) x=some (cF x):=vJ h.1 h.2.1 h.2.2.2.1 h.2.2.2.2.1 h.2.2.2.2.2
theorem rcT {x:TD} (h:smT x):ap10 (bP 20000000) x=some (cF x):=s8 h.2.1 h.2.2.2.1 h.2.2.2.2.1 h.2.2.2.2.2
theorem reT {x:TD} (h:smT x):ap10 (aO 20000000) x=some (if exT x then 1 else 0):=by
 obtain ⟨a,b,c,_⟩:=h;exact BQ 20000000 _ _ _ _ _ _ _ _ _ _ (by omega) (by omega) (by omega) (by omega)
theorem rsT (x:TD):ap10 (aQ 20000000) x=some (seT x):=oN 20000000 (by omega) _ _ _ _ _ _ _ _ _ _
theorem rcoT (x:TD):ap10 (aF 20000000) x=some ((coT x:Nat):Int):=ox 20000000 _ _ _ _ _ _ _ _ _ _
theorem fpT {x:TD} (h:smT x):ap10 (bh 20000000) x=some (if x.2.2.2.2.2.2.1=[] then (if 0<seT x then 0 else if x.2.2.2.2.2.1=[] then 1 else 2) else 3):=Jj 20000000 _ _ _ _ _ _ _ _ _ _ h.1
theorem fmT {x:TD} (h:smT x):ap10 (eV 20000000) x=some (hasX x.2.2.1||(hasX x.2.2.2.2.2.1||hasX x.2.2.2.2.2.2.1)):=by
 obtain ⟨a,b,c,_⟩:=h;exact Ea 20000000 _ _ _ _ _ _ _ _ _ _ (by omega) (by omega) (by omega)
theorem fdT {x:TD} (h:smT x):ap10 (gm 20000000) x=some (if cF x=0 then (if exT x=true then (0,(dyT x).1,0,(dyT x).2,0) else (0,0,0,0,1)) else (0,0,0,0,cF x)):=EW h.1 h.2.1 h.2.2.1 h.2.2.2.1 h.2.2.2.2.1 h.2.2.2.2.2
theorem WA {x:TD} (hc:cF x=0) (a:exT x=true):x.2.2.2.2.1=0/\Exact x.1 x.2.1 x.2.2.1 x.2.2.2.1 x.2.2.2.2.2.1 x.2.2.2.2.2.2.1:=vZ hc a
theorem rdT {x:TD} (h:smT x) (hc:cF x=0) (b:exT x=true):ap10 (bj 20000000) x=some (dyT x):=by
 obtain ⟨a,E⟩:=WA hc b;have:=uI (k0:=x.2.2.2.2.2.2.2.1) (k1:=x.2.2.2.2.2.2.2.2.1) (k2:=x.2.2.2.2.2.2.2.2.2) E h.2.1;rw [<-a] at this;exact this
theorem wE {x:TD} (hc:cF x=0):(x.2.2.2.2.2.1=[]\/x.2.2.2.2.2.1.length=2)/\(x.2.2.2.2.2.2.1=[]\/x.2.2.2.2.2.2.1.length=2)/\(x.2.2.2.2.2.2.1≠[]->x.2.2.2.2.2.1≠[]/\seT x=0):=by
 obtain ⟨_,a,b,_,c⟩:=ue (mE hc);exact ⟨a,b,c⟩
theorem nN {x y:TD}:eqD x y=true↔x=y:=by
 obtain ⟨a1,a2,k,d,l,n,e,j,o,a⟩:=x;obtain ⟨b1,b2,p,g,h,i,f,c,m,b⟩:=y;simp [and_assoc]
theorem GM {x:TD} (h:smT x):nO 20000000 x=some (exT x):=by
 unfold nO;rw [fmT h];simp only [ob,exT,exD];cases (hasX x.2.2.1||(hasX x.2.2.2.2.2.1||hasX x.2.2.2.2.2.2.1))<;>rfl
theorem Aj {x:TD} (h:smT x):lO 20000000 x=some (plT x):=by
 unfold lO plT;rw [fcT h,GM h,fpT h];simp only [ob];by_cases hc:cF x=0
 ·rw [hc];cases d:exT x
  ·rfl
  ·show some ((if _ then _ else _) != (0:Int))=some (true&&(true&&!decide (0<seT x)));obtain ⟨_,_,c⟩:=wE hc;by_cases a:x.2.2.2.2.2.2.1=[]
   ·rw [ae a];by_cases hs:0<seT x
    ·rw [ae hs,am hs];rfl
    ·rw [ab hs,aq hs];by_cases b:x.2.2.2.2.2.1=[]
     ·rw [ae b];rfl
     ·rw [ab b];rfl
   ·rw [ab a,(c a).2];rfl
 ·rw [aq hc,show (cF x==0)=false from by simp [hc]];rfl
theorem sU {x:TD} (h:smT x):bg 20000000 x=some (if plT x then 1 else 0):=by
 unfold bg plT;rw [rcT h,reT h,rsT x];simp only [ob];by_cases hc:cF x=0
 ·rw [hc];cases b:exT x
  ·rfl
  ·by_cases hs:0<seT x
   ·have a:decide (seT x>0)=true:=am hs;rw [am hs];rfl
   ·have a:decide (seT x>0)=false:=aq hs;rw [aq hs];rfl
 ·rw [aq hc,show (cF x != 0)=true from by simp [hc]];rfl
theorem zU {x:TD}:plT x=true↔cF x=0/\exT x=true/\¬0<seT x:=by
 unfold plT;simp [and_assoc]
noncomputable def ordB (x y:TD):Bool:=(plT x&&plT y)&&(decide (coT x=coT y)&&decide ((dyT x).1<=(dyT y).1))
theorem zB {x:TD} (hc:cF x=0) (hs:¬0<seT x):(if x.2.2.2.2.2.2.1=[] then (if 0<seT x then (0:Int) else if x.2.2.2.2.2.1=[] then 1 else 2) else 3)=((coT x:Nat):Int):=by
 obtain ⟨_,_,c⟩:=wE hc;unfold coT dB;by_cases a:x.2.2.2.2.2.2.1=[]
 ·rw [ae a,ab hs];by_cases b:x.2.2.2.2.2.1=[]
  ·simp [b,a]
  ·simp [b,a]
 ·have b:=(c a).1;simp [a,b]
theorem Il {x y:TD} (hx:smT x) (hy:smT y):ng 20000000 x y=some (ordB x y):=by
 unfold ng ordB;rw [Aj hx,Aj hy];cases m:plT x
 ·rfl
 cases l:plT y
 ·rfl
 obtain ⟨b,k,h⟩:=zU.1 m;obtain ⟨d,i,f⟩:=zU.1 l;rw [fpT hx,fpT hy,fdT hx,fdT hy,zB b h,zB d f,ae b,ae d,ae k,ae i];simp only [ob,u5,u4,u3,u2,co,af,Bool.and_self,nI];by_cases a:coT x=coT y
 ·rw [a,am rfl];obtain ⟨r,j,g⟩:=F4 (dyT x).1 (dyT y).1;simp only [dJ,af,j,nI];refine ch some ?_;have:decide (r<=0)=!decide (r>0):=by
   by_cases c:r<=0
   ·rw [am c,aq (by omega)];rfl
   ·rw [aq c,am (by omega)];rfl
  rw [this,g];by_cases e:(dyT x).1<=(dyT y).1
  ·rw [am e,aq (by omega)];rfl
  ·rw [aq e,am (by omega)];rfl
 ·have:(((coT x:Nat):Int) != ((coT y:Nat):Int))=true:=by simp;omega
  rw [this,aq a];rfl
noncomputable def itE (x:TD) (r:Bool) (y:TD) (all:Bool):Int:=
 if cF x≠0 then cF x else if r=true/\cF y≠0 then cF y else if r=false/\eqD y d0=false then 5 else if r=true/\ordB x y=false then 10 else if all=true/\exT x=false then 10 else 0
theorem Dh {x y:TD} (r:Bool) (hx:smT x) (hy:smT y) (K:Int) (hc:cF x=0) (a:¬(r=true/\cF y≠0)):ew 20000000 5 10 10 x r y K=some (itE x r y (K==4)):=by
 unfold ew rk re qJ itE;rw [Il hx hy,GM hx,ab (by simpa using hc),ab a];cases r
 ·generalize eqD y d0=z;cases z
  ·rfl
  ·cases (K==4)
   ·rfl
   ·cases exT x<;>rfl
 ·simp only [ob,co,af,ah,reduceCtorEq,wQ,aA,jI];cases ordB x y
  ·rfl
  ·simp only [co,af,Bool.true_eq_false,aA];cases (K==4)
   ·rfl
   ·cases exT x<;>rfl
theorem zW {x y:TD} (r:Bool) (hx:smT x) (hy:smT y) (K:Int):fH 20000000 x r y K=some (if K=3\/K=4 then itE x r y (K==4) else 18):=by
 have b:(ob (ap10 (bq 20000000) x) λe=>(cond (e != 0) (some e) (cond r (ob (ap10 (bq 20000000) y) λd=>(cond (d != 0) (some d) (ob (ew 20000000 5 10 10 x r y K) λg=>(some g)))) (ob (ew 20000000 5 10 10 x r y K) λh=>(some h)))))=some (itE x r y (K==4)):=by
  rw [fcT hx];simp only [ob];by_cases hc:cF x=0
  ·rw [show (cF x != 0)=false from by simp [hc],af];cases r
   ·rw [Dh false hx hy K hc (by simp)];rfl
   ·rw [ah,fcT hy];simp only;by_cases a:cF y=0
    ·rw [show (cF y != 0)=false from by simp [a],af,Dh true hx hy K hc (by simp [a])]
    ·rw [show (cF y != 0)=true from by simp [a],ah];unfold itE;rw [ab (by simpa using hc),ae ⟨rfl,a⟩]
  ·rw [show (cF x != 0)=true from by simp [hc],ah];unfold itE;rw [ae hc]
 unfold fH;by_cases c:K=3
 ·subst c;exact b.trans (by rfl)
 ·rw [show (K != 3)=true from by simp [c],ah];by_cases f:K=4
  ·subst f;exact b.trans (by rfl)
  ·rw [show (K != 4)=true from by simp [f],ah,ab (by omega)]
theorem WH {x y:TD} {r all:Bool} (h:cF x≠0):itE x r y all=cF x:=ae h
theorem QW {x y:TD} {all:Bool} (hc:cF x=0) (h:cF y≠0):itE x true y all=cF y:=by
 unfold itE;rw [ab (λh=>h hc),ae ⟨rfl,h⟩]
theorem V8 {x y:TD} {all:Bool} (hc:cF x=0):itE x false y all=if eqD y d0=false then 5 else if all=true/\exT x=false then 10 else 0:=by
 have a:(false=true/\cF y≠0)↔False:=by simp
 have b:(false=true/\ordB x y=false)↔False:=by simp
 have c:(false=false/\eqD y d0=false)↔eqD y d0=false:=by simp
 unfold itE;rw [ab (λh=>h hc)];simp only [a,b,aA,jI]
theorem Xj {x y:TD} {all:Bool} (hc:cF x=0) (hy:cF y=0):itE x true y all=if ordB x y=false then 10 else if all=true/\exT x=false then 10 else 0:=by
 have b:(true=true/\ordB x y=false)↔ordB x y=false:=by simp
 have a:(true=false/\eqD y d0=false)↔False:=by simp
 unfold itE;rw [ab (λh=>h hc),ab (λh=>h.2 hy)];simp only [a,aA,jI]
theorem Vm (a b:Bool):(IntKind.wrap .i64 ((if a then (1:Int) else 0)*(if b then (1:Int) else 0))==0)=!(a&&b):=by cases a<;>cases b<;>rfl
theorem IL {x y:TD} (r all:Bool) (hx:smT x) (hy:smT y):jq 20000000 x r y all=some (itE x r y all):=by
 have last:cond all (ob (ap10 (aO 20000000) x) λc=>(cond (c==0) (some 10) (some 0))) (some 0)=some (if all=true/\exT x=false then (10:Int) else 0):=by
  rw [reT hx];cases all
  ·rfl
  ·cases exT x<;>rfl
 unfold jq;simp only [last];simp only [rcT hx,rcT hy,sU hx,sU hy,rcoT,ob,Vm];by_cases hc:cF x=0
 ·rw [show (cF x != 0)=false from by simp [hc],af];cases r
  ·simp only [af,ij,ah];rw [V8 hc];generalize eqD y d0=z;cases z<;>rfl
  ·simp only [ah,co,af];by_cases a:cF y=0
   ·rw [show (cF y != 0)=false from by simp [a],af];rw [Xj hc a];unfold ordB;cases j:plT x
    ·simp
    cases i:plT y
    ·simp
    obtain ⟨e,h,l⟩:=zU.1 j;obtain ⟨f,g,k⟩:=zU.1 i;rw [rdT hx e h,rdT hy f g];simp only [u2,Bool.and_self,co,af,nI,jI];by_cases b:coT x=coT y
    ·rw [b,am rfl];simp only [dJ,af,nI];by_cases d:(dyT x).1<=(dyT y).1
     ·rw [show decide ((dyT x).1>(dyT y).1)=false from aq (by omega),am d];simp
     ·rw [show decide ((dyT x).1>(dyT y).1)=true from am (by omega),aq d];simp
    ·have:(((coT x:Nat):Int) != ((coT y:Nat):Int))=true:=by simp;omega
     rw [this,aq b];simp
   ·rw [show (cF y != 0)=true from by simp [a],ah];rw [QW hc a]
 ·rw [show (cF x != 0)=true from by simp [hc],ah];rw [WH hc]
def ra {A:Type} (f:Nat->A->Int):Nat->List A->Option (Nat×Int)
 | _,[]=>none
 | i,t::r=>if f i t≠0 then some (i,f i t) else ra f (i+1) r
theorem zA {A X Y:Type} {step:X->Option (X⊕Y)} {st:Nat->X} {L:List A} {f:Nat->A->Int} {yes:Nat->Int->Y} {no:Y}
  (d:∀i t,L[i]?=some t->step (st i)=some (if f i t≠0 then .inr (yes i (f i t)) else .inl (st (i+1)))) (g:step (st L.length)=some (.inr no)):
  ∀(r i:Nat),i+r=L.length->∀N,r<N->ar step N (st i)=some (match ra f i (L.drop i) with | some p=>yes p.1 p.2 | none=>no):=by
 intro r
 induction r with
 | zero=>
  intro i hi N c;obtain ⟨N,rfl⟩:∃k,N=k+1:=⟨N - 1,by omega⟩;rw [ar,show i=L.length by omega,g,vt];rfl
 | succ r ih=>
  intro i hi N c;obtain ⟨N,rfl⟩:∃k,N=k+1:=⟨N - 1,by omega⟩;have a:i<L.length:=by omega
  have e:L[i]?=some L[i]:=be a;rw [ar,d i _ e,sj a,ra];by_cases b:f i L[i]≠0
  ·rw [ae b,ae b]
  ·rw [ab b,ab b];exact ih (i+1) (by omega) N (by omega)
abbrev rT (t:TI):Bool:=(d8 t).2.2.1
abbrev iT (t:TI):TD:=(d8 t).2.2.2
def smI (t:TI):Prop:=smT (iF t)/\smT (iT t)
noncomputable def itI (t:TI) (all:Bool):Int:=itE (iF t) (rT t) (iT t) all
noncomputable def endB (t:TI):Bool:=!rT t&&plT (iF t)
noncomputable def errI (K:Int) (e l:Bool) (n i:Nat) (t:TI):Int:=
 if itI t (K==4)≠0 then itI t (K==4) else if (e&&decide (i=0))&&!endB t||((l&&decide (i+1=n))&&!endB t||(e&&(l&&decide (n=1)))) then 10 else 0
noncomputable def vp (K:Int) (e l:Bool) (L:List TI):Int×Int:=match ra (errI K e l L.length) 0 L with
 | some p=>((p.1:Int),p.2)
 | none=>(0,0)
theorem pH {i:Nat} (h:i<9223372036854775807):w64 ((i:Int)+1)=((i+1:Nat):Int):=by
 show IntKind.wrap .i64 _=_;rw [wrap_i64 _ (by omega) (by omega)];omega
theorem FL {i:Nat} (a:0<i) (h:i<9223372036854775807):w64 ((i:Int) - 1)=((i - 1:Nat):Int):=by
 show IntKind.wrap .i64 _=_;rw [wrap_i64 _ (by omega) (by omega)];omega
theorem natB (a b:Nat):(((a:Nat):Int)==((b:Nat):Int))=decide (a=b):=by
 by_cases h:a=b
 ·subst h;simp
 ·rw [aq h];simp;omega
theorem Lc (a:Nat):(((a:Nat):Int)==0)=decide (a=0):=natB a 0
theorem VU {x y:TD} (r:Bool) (hx:smT x):nS 20000000 x r y=some (!r&&plT x):=by
 unfold nS;rw [Aj hx];cases r<;>rfl
theorem Nc {K:Int} (k:K=3\/K=4) {e l:Bool} {L:List TI} {i:Nat} {t:TI} (hi:L[i]?=some t) (hs:smI t) (o:L.length<=1000000) (D:TD) (KF:Int) (DF:TD) (KT:Int) (DT:TD):
  gD 20000000 (itI t (K==4)) 10 10 10 (iF t) (rT t) (iT t) K D KF DF KT DT e l (i:Int) (w64 (len L - 1)) L=some (errI K e l L.length i t):=by
 have j:i<L.length:=(qR.1 hi).1;have d:w64 (len L - 1)=((L.length - 1:Nat):Int):=FL (by omega) (by omega);have g:fH 20000000 (iF t) (rT t) (iT t) K=some (itI t (K==4)):=by
  rw [zW _ hs.1 hs.2,ae k];rfl
 unfold gD pD qa pO pP errI;rw [g,d];simp only [VU (rT t) hs.1,ob,Lc,natB];have n:decide (i=L.length - 1)=decide (i+1=L.length):=by congr 1;exact propext (by omega)
 have m:decide (L.length - 1=0)=decide (L.length=1):=by congr 1;exact propext (by omega)
 rw [n,m];show cond (itI t (K==4) != 0) _ _=_;by_cases f:itI t (K==4)=0
 ·rw [ab (λh=>h f),show (itI t (K==4) != 0)=false from by simp [f],af];show _=some (if ((e&&decide (i=0))&&!endB t||((l&&decide (i+1=L.length))&&!endB t||(e&&(l&&decide (L.length=1)))))=true then 10 else 0);unfold endB;generalize (!rT t&&plT (iF t))=z;generalize decide (i=0)=a;generalize decide (i+1=L.length)=b;generalize decide (L.length=1)=c;cases e<;>cases l<;>cases z<;>cases a<;>cases b<;>cases c<;>rfl
 ·rw [ae f,show (itI t (K==4) != 0)=true from by simp [f],ah]
theorem Ob {K:Int} (g:K=3\/K=4) {e l:Bool} {L:List TI} (hs:∀t∈L,smI t) (j:L.length<=1000000) (D:TD) (KF:Int) (DF:TD) (KT:Int) (DT:TD):
  lP 20000000 K D KF DF KT DT e l L=some (vp K e l L):=by
 have:=zA (step:=fw 20000000) (st:=λi=>(len L,(i:Int),L,K,D,KF,DF,KT,DT,e,l,w64 (len L - 1))) (L:=L) (f:=errI K e l L.length) (yes:=λi q=>.inl ((i:Int),q)) (no:=.inr ())
  (λi t hi=>by
   have c:i<L.length:=(qR.1 hi).1;have a:=hs t (fZ hi);have d:fH 20000000 (iF t) (rT t) (iT t) K=some (itI t (K==4)):=by
    rw [zW _ a.1 a.2,ae g];rfl
   unfold fw;simp only [u12,u11,u10,u9,u8,u7,u6,u5,u4,u3,u2];rw [am (show (i:Int)<len L by unfold len;omega),dl c];simp only [ah,ob,hi];rw [show fH 20000000 (iF t) (d8 t).2.2.1 (d8 t).2.2.2 K=some (itI t (K==4)) from d];simp only;rw [show gD 20000000 (itI t (K==4)) 10 10 10 (iF t) (d8 t).2.2.1 (d8 t).2.2.2 K D KF DF KT DT e l (i:Int) (w64 (len L - 1)) L=some (errI K e l L.length i t) from Nc g hi a j D KF DF KT DT];simp only;rw [pH (by omega)];by_cases b:errI K e l L.length i t=0
   ·rw [ab (λh=>h b),show (errI K e l L.length i t != 0)=false from by simp [b]];rfl
   ·rw [ae b,show (errI K e l L.length i t != 0)=true from by simp [b]];rfl)
  (by
   unfold fw;simp only [u12,u11,u10,u9,u8,u7,u6,u5,u4,u3,u2];rw [aq (show ¬((L.length:Nat):Int)<len L by unfold len;omega)];rfl)
  L.length 0 (by omega) 20000000 (by omega)
 unfold lP vp;rw [cM] at this;show obs (ar (fw 20000000) 20000000 (len L,((0:Nat):Int),L,K,D,KF,DF,KT,DT,e,l,w64 (len L - 1))) _ _=_;rw [this];cases ra (errI K e l L.length) 0 L<;>rfl
noncomputable def rW (K:Int) (x:TD):Int:=chkB K x.1 x.2.1 x.2.2.1 x.2.2.2.1 x.2.2.2.2.1 x.2.2.2.2.2.1 x.2.2.2.2.2.2.1 x.2.2.2.2.2.2.2.1 x.2.2.2.2.2.2.2.2.1 x.2.2.2.2.2.2.2.2.2
noncomputable def qm (K:Int) (x:TD) (a:Int) (y:TD):Int:=Es (rW K x) (rW a y) K a (dyT x).1 (dyT y).2
theorem KR {x y:TD} (hx:smT x) (hy:smT y) (K a:Int):ap10 (ap10 (iy 20000000 K) x a) y=some (qm K x a y):=
 RQ hx.1 hx.2.1 hx.2.2.1 hx.2.2.2.1 hx.2.2.2.2.1 hx.2.2.2.2.2 hy.1 hy.2.1 hy.2.2.1 hy.2.2.2.1 hy.2.2.2.2.1 hy.2.2.2.2.2
theorem NT {x y:TD} (hx:smT x) (hy:smT y) (K a:Int):ap10 (ap10 (eG 20000000 K) x a) y=some (qm K x a y):=
 Ph hx.1 hx.2.1 hx.2.2.1 hx.2.2.2.1 hx.2.2.2.2.1 hx.2.2.2.2.2 hy.1 hy.2.1 hy.2.2.1 hy.2.2.2.1 hy.2.2.2.2.1 hy.2.2.2.2.2
def unuB (K:Int) (D:TD) (KF:Int) (DF:TD) (KT:Int) (DT:TD) (e l:Bool) (n:Nat):Bool:=
 !(K==1||eqD D d0)||(!(K==2||((KF==0)&&((eqD DF d0)&&true))&&((KT==0)&&((eqD DT d0)&&true)))||!(K==3||(K==4||(decide (n=0)&&(!e&&!l)))))
theorem KO (n:Nat) (K:Int) (D:TD) (KF:Int) (DF:TD) (KT:Int) (DT:TD) (e l:Bool) (L:List TI):
  my n K D KF DF KT DT e l L=some (unuB K D KF DF KT DT e l L.length):=by
 unfold my unuB;rw [show (len L==0)=decide (L.length=0) from Lc _];generalize eqD D d0=b;generalize ((KF==0)&&((eqD DF d0)&&true))=z1;generalize ((KT==0)&&((eqD DT d0)&&true))=z2;generalize decide (L.length=0)=c;generalize (K==1)=k1;generalize (K==2)=k2;generalize (K==3)=a;generalize (K==4)=k4;revert b z1 z2 c k1 k2 a k4 e l;decide +kernel
noncomputable def gH (K:Int) (D:TD) (KF:Int) (DF:TD) (KT:Int) (DT:TD) (e l:Bool) (L:List TI):Int×Int:=
 if K<1\/4<K then (0,18) else if unuB K D KF DF KT DT e l L.length=true then (0,5) else if K=1 then (0,cF D) else if K=2 then (0,qm KF DF KT DT) else if L.length=0 then (0,17) else if 256<L.length then (0,3) else vp K e l L
def smE (D DF DT:TD) (L:List TI):Prop:=smT D/\smT DF/\smT DT/\∀t∈L,smI t
theorem HC {K:Int} {D:TD} {KF:Int} {DF:TD} {KT:Int} {DT:TD} {e l:Bool} {L:List TI} (h:smE D DF DT L):
  lE 20000000 K D KF DF KT DT e l L=some (gH K D KF DF KT DT e l L):=by
 obtain ⟨j,i,f,g⟩:=h;unfold lE gH;by_cases a:K<1
 ·rw [am a,ae (.inl a)];rfl
 by_cases c:4<K
 ·rw [aq a,show decide (K>4)=true from am c,ae (.inr c)];rfl
 rw [aq a,show decide (K>4)=false from aq c,ab (by omega),KO];simp only [af,ob];cases unuB K D KF DF KT DT e l L.length
 ·simp only [af,br,aA];by_cases k1:K=1
  ·rw [ae k1,show (K==1)=true from by simp [k1],fcT j];rfl
  by_cases k2:K=2
  ·rw [ab k1,ae k2,show (K==1)=false from by simp [k1],show (K==2)=true from by simp [k2],KR i f];rfl
  rw [ab k1,ab k2,show (K==1)=false from by simp [k1],show (K==2)=false from by simp [k2]];simp only [af];rw [show (len L==0)=decide (L.length=0) from Lc _];by_cases b:L.length=0
  ·rw [am b,ae b];rfl
  rw [aq b,ab b];by_cases d:256<L.length
  ·rw [show decide (len L>256)=true from am (by show (256:Int)<((L.length:Nat):Int);omega),ae d];rfl
  rw [show decide (len L>256)=false from aq (by show ¬(256:Int)<((L.length:Nat):Int);omega),ab d,Ob (by omega) g (by omega)];rfl
 ·rfl
theorem Re (n:Nat) (i:Int) (L:List TI) (K:Int) (D:TD) (KF:Int) (DF:TD) (KT:Int) (DT:TD) (e l:Bool) (x:TD) (r:Bool) (y:TD):
  gR n i L K D KF DF KT DT e l x r y=some (i,e&&(i==0),l&&(i==w64 (len L - 1)),L,K,D,KF,DF,KT,DT,e,l,x,r,y):=by
 unfold gR;cases e<;>cases l<;>rfl
theorem Tf (i:Int) (a b:Bool) (L:List TI) (K:Int) (D:TD) (KF:Int) (DF:TD) (KT:Int) (DT:TD) (e l:Bool) (x:TD) (r:Bool) (y:TD) (hx:smT x):
  gP 20000000 i a b L K D KF DF KT DT e l x r y=some (i,(a&&b)||((a||b)&&(r||!plT x)),L,K,D,KF,DF,KT,DT,e,l):=by
 unfold gP;rw [sU hx];cases a<;>cases b<;>cases r<;>cases plT x<;>rfl
theorem L0 {K:Int} (w:K=3\/K=4) {e l:Bool} {L:List TI} (hs:∀t∈L,smI t) (x:L.length<=1000000) (D:TD) (KF:Int) (DF:TD) (KT:Int) (DT:TD):
  ar (ep 20000000) 20000000 (0,L,K,D,KF,DF,KT,DT,e,l)=some (match ra (errI K e l L.length) 0 L with | some p=>.inl ((p.1:Int),p.2) | none=>.inr ()):=by
 have:=zA (step:=ep 20000000) (st:=λi=>((i:Int),L,K,D,KF,DF,KT,DT,e,l)) (L:=L) (f:=errI K e l L.length) (yes:=λi q=>.inl ((i:Int),q)) (no:=.inr ())
  (λi t hi=>by
   have m:i<L.length:=(qR.1 hi).1;have g:=hs t (fZ hi);have n:jq 20000000 (iF t) (d8 t).2.2.1 (d8 t).2.2.2 (K==4)=some (itI t (K==4)):=IL _ _ g.1 g.2;have d:w64 (len L - 1)=((L.length - 1:Nat):Int):=FL (by omega) (by omega);unfold ep;simp only [u15,u14,u13,u12,u11,u10,u9,u8,u7,u6,u5,u4,u3,u2];rw [am (show (i:Int)<len L by unfold len;omega),dl m];simp only [ah,ob,hi,n];by_cases j:itI t (K==4)=0
   ·rw [show (itI t (K==4) != 0)=false from by simp [j],af];simp only [Re,d,Lc,natB,u15,u14,u13,u12,u11,u10,u9,u8,u7,u6,u5,u4,u3,u2];rw [Tf _ _ _ _ _ _ _ _ _ _ _ _ _ _ _ g.1];simp only [u11,u10,u9,u8,u7,u6,u5,u4,u3,u2];have v:decide (i=L.length - 1)=decide (i+1=L.length):=by congr 1;exact propext (by omega)
    have s:(decide (i=0)&&decide (i+1=L.length))=(decide (L.length=1)&&decide (i=0)):=by
     by_cases k:i=0
     ·subst k;rw [am rfl,nI,D7];congr 1;exact propext (by omega)
     ·rw [aq k,wg];rfl
    have o:decide (L.length=1)=true->decide (i=0)=true:=λh=>am (by have:=of_decide_eq_true h;omega);have u:errI K e l L.length i t=if ((e&&decide (i=0))&&(l&&decide (i+1=L.length)))||(((e&&decide (i=0))||(l&&decide (i+1=L.length)))&&(rT t||!plT (iF t))) then 10 else 0:=by
     unfold errI endB;rw [j,ab (λh=>h rfl)];congr 1;revert s o;generalize rT t=r;generalize plT (iF t)=z;generalize decide (i=0)=a;generalize decide (i+1=L.length)=b;generalize decide (L.length=1)=c;cases e<;>cases l<;>cases z<;>cases r<;>cases a<;>cases b<;>cases c<;>simp
    rw [v,pH (by omega),u];generalize (((e&&decide (i=0))&&(l&&decide (i+1=L.length)))||(((e&&decide (i=0))||(l&&decide (i+1=L.length)))&&(rT t||!plT (iF t))))=z;cases z<;>rfl
   ·have:errI K e l L.length i t=itI t (K==4):=ae j;rw [show (itI t (K==4) != 0)=true from by simp [j],ah,this,ae j])
  (by
   unfold ep;simp only [u15,u14,u13,u12,u11,u10,u9,u8,u7,u6,u5,u4,u3,u2];rw [aq (show ¬((L.length:Nat):Int)<len L by unfold len;omega)];rfl)
  L.length 0 (by omega) 20000000 (by omega)
 rw [cM] at this;exact this
theorem EJ {K:Int} {D:TD} {KF:Int} {DF:TD} {KT:Int} {DT:TD} {e l:Bool} {L:List TI} (h:smE D DF DT L):
  ga 20000000 K D KF DF KT DT e l L=some (gH K D KF DF KT DT e l L):=by
 obtain ⟨p,o,i,j⟩:=h;have j3:iu 20000000 L K D KF DF KT DT e l=some (K==3||K==4,L,K,D,KF,DF,KT,DT,e,l):=by
  unfold iu;cases (K==3)<;>rfl
 have j4:iC 20000000 (K==3||K==4) L K D KF DF KT DT e l=some (K==3||K==4,!(K==1)&&(!(K==2)&&!(K==3||K==4)),L,K,D,KF,DF,KT,DT,e,l):=by
  unfold iC;rw [show (K != 1)=!(K==1) from rfl,show (K != 2)=!(K==2) from rfl];cases (K==1)<;>cases (K==2)<;>rfl
 have j7:iw 20000000 (K==3||K==4) L K D KF DF KT DT e l=some (unuB K D KF DF KT DT e l L.length,L,K,D,KF,DF,KT,DT,e,l):=by
  unfold iw unuB;have a:decide (len L>0)=!decide (L.length=0):=by
   by_cases d:L.length=0
   ·rw [am d,aq (by unfold len;omega)];rfl
   ·rw [aq d,am (by unfold len;omega)];rfl
  rw [show (K != 1)=!(K==1) from rfl,show (K != 2)=!(K==2) from rfl,a];generalize eqD D d0=m;generalize ((KF==0)&&((eqD DF d0)&&true))=z1;generalize ((KT==0)&&((eqD DT d0)&&true))=z2;generalize decide (L.length=0)=k;generalize (K==1)=k1;generalize (K==2)=k2;generalize (K==3)=n;generalize (K==4)=k4;cases m<;>cases z1<;>cases z2<;>cases k<;>cases k1<;>cases k2<;>cases n<;>cases k4<;>cases e<;>cases l<;>rfl
 unfold ga gH;rw [j3];simp only [ob,u11,u10,u9,u8,u7,u6,u5,u4,u3,u2,j4];by_cases f:K<1\/4<K
 ·rw [ae f,show (K==1)=false from by simp;omega,show (K==2)=false from by simp;omega,show (K==3)=false from by simp;omega,show (K==4)=false from by simp;omega];rfl
 have c:(!(K==1)&&(!(K==2)&&!(K==3||K==4)))=false:=by
  rcases (by omega:K=1\/K=2\/K=3\/K=4) with rfl | rfl | rfl | rfl<;>rfl
 rw [ab f,c];simp only [af,j7];cases unuB K D KF DF KT DT e l L.length
 ·simp only [af,br,aA];by_cases k1:K=1
  ·rw [ae k1,show (K==1)=true from by simp [k1],rcT p];rfl
  by_cases k2:K=2
  ·rw [ab k1,ae k2,show (K==1)=false from by simp [k1],show (K==2)=true from by simp [k2],NT o i];rfl
  rw [ab k1,ab k2,show (K==1)=false from by simp [k1],show (K==2)=false from by simp [k2]];simp only [af];rw [show (len L==0)=decide (L.length=0) from Lc _];by_cases b:L.length=0
  ·rw [am b,ae b];rfl
  rw [aq b,ab b];by_cases g:256<L.length
  ·rw [show decide (len L>256)=true from am (by show (256:Int)<((L.length:Nat):Int);omega),ae g];rfl
  rw [show decide (len L>256)=false from aq (by show ¬(256:Int)<((L.length:Nat):Int);omega),ab g,af,af,L0 (by omega) j (by omega)];unfold vp;cases ra (errI K e l L.length) 0 L<;>rfl
 ·rfl
theorem Ie {K:Int} {D:TD} {KF:Int} {DF:TD} {KT:Int} {DT:TD} {e l:Bool} {L:List TI} (h:smE D DF DT L):
  iK 20000000 K D KF DF KT DT e l L=some (gH K D KF DF KT DT e l L).2:=by
 unfold iK;rw [HC h];rfl
abbrev TR:=pE
theorem yW {A:Type} {f:Nat->A->Int}:∀{L:List A} {k:Nat},(∀i t,L[i]?=some t->f (k+i) t=0)->ra f k L=none
 | [],_,_=>rfl
 | t::r,k,h=>by
  have a:=h 0 t rfl;rw [cN] at a;rw [ra,ab (λh=>h a)];exact yW λi u b=>by rw [gY,pi 1 i];exact h (i+1) u b
structure RightE (k:Int) (D:TD) (KF:Int) (DF:TD) (KT:Int) (DT:TD) (e l:Bool) (I:List TI):Prop where
 sm:smE D DF DT I
 first:gH k D KF DF KT DT e l I=(0,0)
 len:I.length<=5
 kind:1<=k/\k<=4
 its:∀t∈I,itI t (k==4)=0
theorem Cf {x:TD} (hs:smT x) (hc:cF x=0):RightE 1 x 0 d0 0 d0 false false []:=by
 refine ⟨⟨hs,n8,n8,λt a=>by cases a⟩,?_,by simp,by omega,by simp⟩;have b:eqD d0 d0=true:=nN.2 rfl;have c:unuB 1 x 0 d0 0 d0 false false ([]:List TI).length=false:=by unfold unuB;rw [b];rfl
 unfold gH;rw [ab (by omega),ab (by rw [c];simp),ae rfl,hc]
theorem yJ {KF KT:Int} {x y:TD} (hx:smT x) (hy:smT y) (h:qm KF x KT y=0):RightE 2 d0 KF x KT y false false []:=by
 refine ⟨⟨n8,hx,hy,λt a=>by cases a⟩,?_,by simp,by omega,by simp⟩;have b:eqD d0 d0=true:=nN.2 rfl;have c:unuB 2 d0 KF x KT y false false ([]:List TI).length=false:=by unfold unuB;rw [b];rfl
 unfold gH;rw [ab (by omega),ab (by rw [c];simp),ab (by omega),ae rfl,h]
theorem Ej (x:TD):rW 1 x=if cF x=0 then if exT x=true then 0 else 11 else cF x:=by
 unfold rW chkB;rw [ae rfl];rfl
theorem FK {x:TD} (h:rW 1 x=0):cF x=0/\exT x=true:=by
 rw [Ej] at h;by_cases hc:cF x=0
 ·rw [ae hc] at h;by_cases a:exT x=true
  ·exact ⟨hc,a⟩
  ·rw [ab a] at h;cases h
 ·rw [ab hc] at h;exact absurd h hc
theorem BA {x:TD} (hc:cF x=0) (a:exT x=true):rW 1 x=0:=by
 rw [Ej,ae hc,ae a]
theorem M5 {KF KT:Int} {x y:TD} (a:rW KF x=0) (b:rW KT y=0):qm KF x KT y=if KF≠1/\KT≠1 then 11 else if KF≠1\/KT≠1 then 0 else if (dyT x).1>(dyT y).2 then 11 else 0:=by
 unfold qm Es;rw [a,b,ab (λh=>h rfl),ab (λh=>h rfl)]
noncomputable instance decTI:DecidableEq TI:=λa b=>Classical.propDecidable (a=b)
theorem Aq (n:Nat) (t S R:aa) (a:Int) (o:t.length<4611686018427387904) (q:t.length<n):
  ar (ec n) n (t,0,R,S,a)=some (((lcp R t:Nat):Int),S,a):=by
 have:=fJ (step:=ec n)
  (λx=>∃j:Nat,j<=t.length/\x=(t,(j:Int),R,S,a)) (λx=>t.length - x.2.1.toNat)
  (λx=>(((x.2.1.toNat+lcp (R.drop x.2.1.toNat) (t.drop x.2.1.toNat):Nat):Int),S,a)) ?_ n (t,0,R,S,a) ⟨0,by omega,rfl⟩ (by simp;omega)
 ·simpa using this
 rintro x ⟨j,p,rfl⟩;simp only [cf,ec,R9];by_cases e:j<t.length/\j<R.length
 ·obtain ⟨h,m⟩:=e;obtain ⟨c,hc⟩:∃c,t[j]?=some c:=⟨t[j],be h⟩;obtain ⟨d,i⟩:∃d,R[j]?=some d:=⟨R[j],be m⟩;have g:IntKind.wrap .i64 ((j:Int)+1)=((j+1:Nat):Int):=by rw [wrap_i64 _ (by omega) (by omega)];omega
  have f:(decide ((j:Int)<((min t.length R.length:Nat):Int)))=true:=by simp only [cj];omega
  have b:(decide ((j:Int)<((min R.length t.length:Nat):Int)))=true:=by simp only [cj];omega
  simp only [f,b,ah,dL hc,dL i,ob,nE,bU hc,bU i,lcp];cases k:d==c with
  | true=>
   refine .inl ⟨_,rfl,⟨j+1,by omega,by rw [g]⟩,?_,?_⟩
   ·simp only [g,cf];omega
   ·simp only [g,cf,bC,xl,aJ];omega
  | false=>exact .inr (by simp)
 ·have f:(decide ((j:Int)<((min t.length R.length:Nat):Int)))=false:=by simp only [uK];omega
  have b:(decide ((j:Int)<((min R.length t.length:Nat):Int)))=false:=by simp only [uK];omega
  refine .inr ?_;have l:lcp (R.drop j) (t.drop j)=0:=by
   by_cases h:j<t.length
   ·rw [jm (show R.length<=j by omega)];rfl
   ·rw [jm (show t.length<=j by omega)];cases R.drop j<;>rfl
  simp only [f,b,l,af,cN]
theorem Bo (n:Nat) (t S:aa) (a:Nat) (h:a<=S.length) (d:S.length<4611686018427387904) (b:t.length<4611686018427387904) (e:t.length<n):
  ca n t S (a:Int)=some (if (S.drop a).take t.length=t then .inl (S,((a+t.length:Nat):Int)) else .inr (((a+lcp (S.drop a) t:Nat):Int),5,S,(a:Int))):=by
 have c:=wN (S.drop a) t;rw [bR] at c;simp only [ca,m6 n t S a h d,ob];by_cases hp:(S.drop a).take t.length=t
 ·simp [hp]
 ·have f:IntKind.wrap .i64 ((a:Int)+((lcp (S.drop a) t:Nat):Int))=((a+lcp (S.drop a) t:Nat):Int):=by rw [wrap_i64 _ (by omega) (by omega)];omega
  simp only [hp,aA,af,ud n S a h,Aq n t S (S.drop a) (a:Int) b e,D9,f,vM];simp
def tdR (r:DR):TD:=(r.1,r.2.1,r.2.2.1,(r.2.2.2.1:Int),(r.2.2.2.2.1:Int),r.2.2.2.2.2.1,r.2.2.2.2.2.2.1,(r.2.2.2.2.2.2.2.1.1:Int),(r.2.2.2.2.2.2.2.1.2.1:Int),(r.2.2.2.2.2.2.2.1.2.2:Int))
theorem je {S:aa} {a:Nat} (h:a<=S.length) {r:DR} (f:dk S a=.inr r):smT (tdR r)/\cF (tdR r)=0/\a<=enR r/\enR r<=S.length:=by
 obtain ⟨c,b⟩:=GI h f;obtain ⟨g,l,dg,x,s,m,d,M,P,e⟩:=r;have ok:=By h c;have:=ok.dg17;have:=ok.m2;have:=ok.d2;refine ⟨⟨by show m.length<=18;omega,by show dg.length<=100;omega,by show d.length<=18;omega,by show (0:Int)<=(M.1:Int);omega,by show (0:Int)<=(M.2.1:Int);omega,by show (0:Int)<=(M.2.2:Int);omega⟩,?_,ok.le,ok.end_⟩;have hc:=um (g:=g) (l:=l) (dg:=dg) (x:=(x:Int)) (q:=(s:Int)) (m:=m) (d:=d) (k0:=(M.1:Int)) (k1:=(M.2.1:Int)) (k2:=(M.2.2:Int)) (uF ok.all);unfold chkR at b;simp only [] at b;show chkF g l dg (x:Int) (s:Int) m d (M.1:Int) (M.2.1:Int) (M.2.2:Int)=0;omega
def dts (l:aa):Bool:=l.take 2==[46,46]
theorem sG {l:aa}:dts l=true↔∃r,l=46::46::r:=by
 unfold dts;rw [bI];constructor
 ·exact II
 ·rintro ⟨r,rfl⟩;rfl
theorem mP {S:aa} {p:Nat} (h:dts (S.drop p)=true):p+2<=S.length:=by
 obtain ⟨r,a⟩:=sG.1 h;have:=ch List.length a;simp at this;omega
noncomputable def nW (S:aa) (b:UInt8) (p:Nat):(Nat×Nat×Nat)⊕(TI×Nat×Nat):=
 match dk S p with
 | .inl f=>.inl f
 | .inr r=>if dts (S.drop (enR r))=true/\(S.drop (enR r+2)).head?≠some b then
   match dk S (enR r+2) with
   | .inl f=>.inl f
   | .inr a=>.inr (mkI (tdR r) true (tdR a),plR r,enR a)
  else .inr (mkI (tdR r) false d0,plR r,enR r)
theorem wS {S:aa} {j:UInt8} {p:Nat} (h:p<=S.length) {t:TI} {a d:Nat} (b:nW S j p=.inr (t,a,d)):smI t/\p<=d/\d<=S.length:=by
 unfold nW at b;cases c:dk S p with
 | inl f=>rw [c] at b;cases b
 | inr r=>
  obtain ⟨g,_,k,m⟩:=je h c;rw [c] at b;simp only [] at b;split at b
  ·rename_i l;have:=mP l.1;cases e:dk S (enR r+2) with
   | inl f=>rw [e] at b;cases b
   | inr o=>
    obtain ⟨i,_,l3,n⟩:=je (by omega) e;rw [e] at b;cases b;exact ⟨⟨g,i⟩,by omega,n⟩
  ·cases b;exact ⟨⟨g,n8⟩,k,m⟩
noncomputable def ly (S:aa) (c:UInt8):Nat->Nat->List Nat->List TI->(Nat×Nat×Nat)⊕(Nat×List Nat×List TI)
 | 0,p,_,_=>.inl (p,3,p)
 | r+1,p,P,I=>match nW S c p with
  | .inl f=>.inl f
  | .inr (t,a,b)=>if (S.drop b).head?=some 44 then ly S c r (b+1) (P++[a]) (I++[t]) else .inr (b,P++[a],I++[t])
theorem fY {S:aa} {p:Nat} {c:UInt8} (h:(S.drop p).head?=some c):p+1<=S.length:=by
 cases b:S.drop p with
 | nil=>rw [b] at h;cases h
 | cons a r=>
  have:=ch List.length b;simp at this;omega
theorem tG {S:aa} {i:UInt8}:∀(r p:Nat) (P:List Nat) (I:List TI),p<=S.length->P.length=I.length->(∀t∈I,smI t)->∀{d:Nat} {c:List Nat} {b:List TI},ly S i r p P I=.inr (d,c,b)->
  d<=S.length/\c.length=b.length/\I.length<b.length/\b.length<=I.length+r/\(∀t∈b,smI t)
 | 0,p,P,I,_,_,_,d,c,b,e=>by cases e
 | r+1,p,P,I,h,j,hs,d,c,b,e=>by
  rw [ly] at e;cases g:nW S i p with
  | inl f=>rw [g] at e;cases e
  | inr q=>
   obtain ⟨t,a,m⟩:=q;obtain ⟨n,z,y⟩:=wS h g;rw [g] at e;simp only [] at e;have hs':∀u∈I++[t],smI u:=λu v=>by
    rcases n7.1 v with h | h
    ·exact hs u h
    ·rw [yC.1 h];exact n
   split at e
   ·rename_i k;obtain ⟨w,l,o,x,s⟩:=tG r (m+1) (P++[a]) (I++[t]) (fY k) (by simp [j]) hs' e;rw [aL,List.length_singleton] at o x;exact ⟨w,l,by omega,by omega,s⟩
   ·cases e;exact ⟨y,by simp [j],by simp,by simp,hs'⟩
theorem dts3 (S:aa) (p:Nat) (c:UInt8):((S.drop p).take [46,46,c].length==[46,46,c])=(dts (S.drop p)&&decide ((S.drop (p+2)).head?=some c)):=by
 rw [<-iR];generalize S.drop p=l;unfold dts
 match l with
 | []=>rfl
 | [a]=>simp
 | [a,b]=>simp
 | a::b::d::r=>
  rw [tN];simp [and_assoc]
def endC (K:Int):UInt8:=if K=4 then 125 else 93
theorem xc {K:Int} (a:K=3\/K=4) (n:Nat):eF n K=some ([if K=4 then 123 else 91],[endC K]):=by
 rcases a with rfl | rfl<;>rfl
theorem VG (c:UInt8) {S:aa} {p:Nat} (h:p<=S.length) (g d:Int) (i:Bool) (f:List Int) (b:TD) (a e:List TI):
  l8 20000000 [c] g S (p:Int) d i f b a e=some ([c],g,dts (S.drop p)&&!decide ((S.drop (p+2)).head?=some c),S,(p:Int),d,i,f,b,a,e):=by
 unfold l8;rw [JV _ _ _ _ h];have hc:cat [46,46] [c]=some [46,46,c]:=rfl;simp only [ob,hc,JV _ _ _ _ h,dts3];show cond (dts (S.drop p)) _ _=_;cases j:dts (S.drop p)
 ·rfl
 ·cases decide ((S.drop (p+2)).head?=some c)<;>rfl
theorem tk1 (l:aa) (c:UInt8):l.take [c].length=[c]↔l.head?=some c:=by
 cases l<;>simp
theorem D3 (S:aa) (r:DR):Xm S (.inr r)=.inr ((tdR r).1,(tdR r).2.1,(tdR r).2.2.1,(tdR r).2.2.2.1,(tdR r).2.2.2.2.1,(tdR r).2.2.2.2.2.1,(tdR r).2.2.2.2.2.2.1,(tdR r).2.2.2.2.2.2.2.1,(tdR r).2.2.2.2.2.2.2.2.1,(tdR r).2.2.2.2.2.2.2.2.2,((plR r:Nat):Int),S,((enR r:Nat):Int)):=rfl
theorem VL (b:Bool) (c:UInt8) {S:aa} {p:Nat} (h:p<=S.length) (s:S.length<100000) (n:b=true->dts (S.drop p)=true) (j k:Int) (i:Bool) (e:List Int) (d:TD) (g a:List TI):
  lX 20000000 [c] j b S (p:Int) k i e d g a=some (if b=true then (match dk S (p+2) with
   | .inl f=>.inl ((f.1:Int),(f.2.1:Int),S,(f.2.2:Int))
   | .inr r=>.inr ([c],j,S,((enR r:Nat):Int),k,i,e,d,true,tdR r,g,a)) else .inr ([c],j,S,(p:Int),k,i,e,d,false,d0,g,a)):=by
 unfold lX;cases b
 ·rfl
 ·have l:=n rfl;have q:=mP l;have m:(S.drop p).take [(46:UInt8),46].length=[46,46]:=by
   obtain ⟨r,o⟩:=sG.1 l;rw [o];rfl
  rw [ah,Bo _ _ _ _ h (by omega) (by simp) (by simp),ae m,ae rfl];show obs (iG 20000000 S ((p+2:Nat):Int)) _ _=_;rw [FW S (p+2) q s];cases dk S (p+2) with
  | inl f=>rfl
  | inr r=>rfl
theorem qX {α:Type} {I:List α} (h:I.length<=256):Nat.ble (I.length+1) gN=true:=cZ (by unfold gN;omega)
abbrev ic (P:List Nat):List Int:=P.map λk:Nat=>(k:Int)
theorem TY (c:UInt8) {S:aa} {p:Nat} (h:p<=S.length) (s:S.length<100000) (K:Int) (e:Bool) {P:List Nat} (J:List TI) {I:List TI} (D:I.length<256) (C:P.length=I.length):
  fi 20000000 ([c],S,(p:Int),K,e,ic P,J,I)=some (match nW S c p with
   | .inl f=>.inr (.inl ((f.1:Int),(f.2.1:Int),S,(f.2.2:Int)))
   | .inr (t,a,b)=>if (S.drop b).head?=some 44 then .inl ([c],S,((b+1:Nat):Int),K,e,ic (P++[a]),J,I++[t])
    else .inr (.inr ([c],S,((if dts (S.drop b) then b+2 else b:Nat):Int),0,d0,0,d0,0,d0,false,false,K,d0,0,d0,0,d0,e,dts (S.drop b),ic (P++[a]),J,I++[t]))):=by
 have k:∀(t:TI) (a b:Nat),b<=S.length->(ob (aB 20000000 [44] S (b:Int)) (u3 λn m l=>(cond n (some (.inl ([c],m,l,K,e,(ic P++([(a:Int)]:List (Int))),J,(I++([t]:List TI))))) (ob (aB 20000000 [46,46] m l) (u3 λq g i=>(cond q (some (.inr (.inr ([c],g,i,0,d0,0,d0,0,d0,false,false,K,d0,0,d0,0,d0,e,true,(ic P++([(a:Int)]:List (Int))),J,(I++([t]:List TI)))))) (some (.inr (.inr ([c],g,i,0,d0,0,d0,0,d0,false,false,K,d0,0,d0,0,d0,e,false,(ic P++([(a:Int)]:List (Int))),J,(I++([t]:List TI))))))))))):Option ((aa×aa×Int×Int×Bool×List (Int)×List TI×List TI)⊕((Int×Int×aa×Int)⊕(aa×aa×Int×Int×TD×Int×TD×Int×TD×Bool×Bool×Int×TD×Int×TD×Int×TD×Bool×Bool×List (Int)×List TI×List TI)))) =
   some (if (S.drop b).head?=some 44 then .inl ([c],S,((b+1:Nat):Int),K,e,ic (P++[a]),J,I++[t])
    else .inr (.inr ([c],S,((if dts (S.drop b) then b+2 else b:Nat):Int),0,d0,0,d0,0,d0,false,false,K,d0,0,d0,0,d0,e,dts (S.drop b),ic (P++[a]),J,I++[t]))):=by
  intro t a b j;have z:ic (P++[a])=ic P++[(a:Int)]:=by simp [ic]
  rw [m6 _ _ _ _ j (by omega),z];simp only [ob,u3,u2,tk1];by_cases hc:(S.drop b).head?=some 44
  ·rw [ae hc,ae hc];rfl
  ·rw [ab hc,ab hc];simp only [af];rw [m6 _ _ _ _ j (by omega)];cases d:dts (S.drop b)
   ·rw [ab (show ¬(S.drop b).take [(46:UInt8),46].length=[46,46] from λh=>by unfold dts at d;rw [show (S.drop b).take 2=[46,46] from h] at d;cases d)];rfl
   ·rw [ae (show (S.drop b).take [(46:UInt8),46].length=[46,46] from eq_of_beq d)];rfl
 unfold fi;simp only [u8,u7,u6,u5,u4,u3,u2];rw [show (len I==256)=false from by show (((I.length:Nat):Int)==256)=false;simp;omega,af,FW S p h s];unfold nW;cases w:dk S p with
 | inl f=>rfl
 | inr r=>
  obtain ⟨B,_,E,o⟩:=je h w;rw [D3];simp only [obs,sm,ob];rw [show (d4 (d8 ((tdR r).1,(tdR r).2.1,(tdR r).2.2.1,(tdR r).2.2.2.1,(tdR r).2.2.2.2.1,(tdR r).2.2.2.2.2.1,(tdR r).2.2.2.2.2.2.1,(tdR r).2.2.2.2.2.2.2.1,(tdR r).2.2.2.2.2.2.2.2.1,(tdR r).2.2.2.2.2.2.2.2.2,((plR r:Nat):Int),S,((enR r:Nat):Int))))=((enR r:Nat):Int) from rfl,VG c o];simp only [u11,u10,u9,u8,u7,u6,u5,u4,u3,u2];rw [VL _ c o s (λh=>by simp at h;exact h.1)];have u:(dts (S.drop (enR r))&&!decide ((S.drop (enR r+2)).head?=some c))=true↔(dts (S.drop (enR r))=true/\(S.drop (enR r+2)).head?≠some c):=by simp
  by_cases d:dts (S.drop (enR r))=true/\(S.drop (enR r+2)).head?≠some c
  ·rw [ae (u.2 d),ae d];cases y:dk S (enR r+2) with
   | inl f=>rfl
   | inr v=>
    obtain ⟨A,_,l3,x⟩:=je (mP d.1) y;simp only [u12,u11,u10,u9,u8,u7,u6,u5,u4,u3,u2];rw [qX (by omega),qX (by simp;omega)];exact k (mkI (tdR r) true (tdR v)) (plR r) (enR v) x
  ·rw [ab (λh=>d (u.1 h)),ab d];simp only [u12,u11,u10,u9,u8,u7,u6,u5,u4,u3,u2];rw [qX (by omega),qX (by simp;omega)];exact k (mkI (tdR r) false d0) (plR r) (enR r) o
theorem S9 (c:UInt8) (S:aa) (p K:Int) (e:Bool) (P:List Int) (J:List TI) {I:List TI} (a:I.length=256):
  fi 20000000 ([c],S,p,K,e,P,J,I)=some (.inr (.inl (p,3,S,p))):=by
 unfold fi;simp only [u8,u7,u6,u5,u4,u3,u2];rw [show (len I==256)=true from by show (((I.length:Nat):Int)==256)=true;rw [a];rfl];rfl
def XQ (S:aa) (c:UInt8) (K:Int) (e:Bool) (J:List TI):(Nat×Nat×Nat)⊕(Nat×List Nat×List TI)->(Int×Int×aa×Int)⊕(aa×aa×Int×Int×TD×Int×TD×Int×TD×Bool×Bool×Int×TD×Int×TD×Int×TD×Bool×Bool×List (Int)×List TI×List TI)
 | .inl f=>.inl ((f.1:Int),(f.2.1:Int),S,(f.2.2:Int))
 | .inr (p,P,I)=>.inr ([c],S,((if dts (S.drop p) then p+2 else p:Nat):Int),0,d0,0,d0,0,d0,false,false,K,d0,0,d0,0,d0,e,dts (S.drop p),ic P,J,I)
theorem Rh (c:UInt8) {S:aa} (j:S.length<100000) (K:Int) (e:Bool) (J:List TI):∀(r p:Nat) (P:List Nat) (I:List TI),I.length+r=256->p<=S.length->P.length=I.length->∀N,r<N->
  ar (fi 20000000) N ([c],S,(p:Int),K,e,ic P,J,I)=some (XQ S c K e J (ly S c r p P I)):=by
 intro r
 induction r with
 | zero=>
  intro p P I i hp b N g;obtain ⟨N,rfl⟩:∃k,N=k+1:=⟨N - 1,by omega⟩;rw [ar,S9 c S _ K e _ J (by omega)];rfl
 | succ r ih=>
  intro p P I i hp b N g;obtain ⟨N,rfl⟩:∃k,N=k+1:=⟨N - 1,by omega⟩;rw [ar,TY c hp j K e J (by omega) b,ly];cases h:nW S c p with
  | inl f=>rfl
  | inr q=>
   obtain ⟨t,a,d⟩:=q;obtain ⟨_,m,l⟩:=wS hp h;simp only [];by_cases hc:(S.drop d).head?=some 44
   ·rw [ae hc,ae hc];exact ih (d+1) (P++[a]) (I++[t]) (by simp;omega) (fY hc) (by simp [b]) N (by omega)
   ·rw [ab hc,ab hc];rfl
theorem wn {X a Y b:Type} {s:X->Option (X⊕Y)} {s':a->Option (a⊕b)} (f:X->a) (g:Y->b) (h:∀x,s' (f x)=(s x).map (Sum.map f g)):∀(n:Nat) (x:X),ar s' n (f x)=(ar s n x).map g
 | 0,_=>rfl
 | n+1,x=>by
  rw [ar,ar,h];cases s x with
  | none=>rfl
  | some z=>
   cases z with
   | inl y=>exact wn f g h n y
   | inr y=>rfl
theorem S1 (n:Nat) (K:Int) (D:TD) (KF:Int) (DF:TD) (KT:Int) (DT:TD) (c:Nat) (e l:Bool) (L:List TI):mS n K D KF DF KT DT L.length c e l L=lP n K D KF DF KT DT e l L:=by
 unfold mS lP;have:=wn (s:=fw n) (s':=km n) (u12 λq f d g k p o j h m a b=>(d.length,c,q,f,d,g,k,p,o,j,h,d.length,c,m,a,b)) id (by
  rintro ⟨q,f,d,g,k,p,o,j,h,m,a,b⟩;unfold fw km;simp only [u16,u15,u14,u13,u12,u11,u10,u9,u8,u7,u6,u5,u4,u3,u2];cases decide (f<q)
  ·rfl
  ·simp only [ah];cases ix d.length f with
   | none=>rfl
   | some i=>
    simp only [ob];cases d[i]? with
    | none=>rfl
    | some t=>
     simp only [ob];cases fH n (iF t) (d8 t).2.2.1 (d8 t).2.2.2 g with
     | none=>rfl
     | some v=>
      simp only [ob];rw [show mG n v 10 10 10 (iF t) (d8 t).2.2.1 (d8 t).2.2.2 g k p o j h d.length c m a f b d=gD n v 10 10 10 (iF t) (d8 t).2.2.1 (d8 t).2.2.2 g k p o j h m a f b d from rfl];cases gD n v 10 10 10 (iF t) (d8 t).2.2.1 (d8 t).2.2.2 g k p o j h m a f b d with
      | none=>rfl
      | some z=>
       simp only [ob];cases (z != 0)<;>rfl) n (len L,0,L,K,D,KF,DF,KT,DT,e,l,w64 (len L - 1))
 simp only [u12,u11,u10,u9,u8,u7,u6,u5,u4,u3,u2] at this;rw [show (L.length,c,((L.length:Nat):Int),(0:Int),L,K,D,KF,DF,KT,DT,L.length,c,e,l,w64 (((L.length:Nat):Int) - 1))=(L.length,c,len L,0,L,K,D,KF,DF,KT,DT,L.length,c,e,l,w64 (len L - 1)) from rfl,this];rw [Option.map_id];rfl
theorem Mc (n:Nat) (K:Int) (D:TD) (KF:Int) (DF:TD) (KT:Int) (DT:TD) (c:Nat) (e l:Bool) (L:List TI):gf n K D KF DF KT DT L.length c e l L=lE n K D KF DF KT DT e l L:=by
 unfold gf lE;rw [S1,show ou n K D KF DF KT DT L.length c e l L=my n K D KF DF KT DT e l L from rfl]
theorem Iz {K:Int} {D:TD} {KF:Int} {DF:TD} {KT:Int} {DT:TD} {e l:Bool} {L:List TI} (h:smE D DF DT L) (c:Nat):
  gf 20000000 K D KF DF KT DT L.length c e l L=some (gH K D KF DF KT DT e l L):=(Mc _ _ _ _ _ _ _ _ _ _ _).trans (HC h)
noncomputable def setE (K:Int) (e l:Bool) (I:List TI):Int×Int:=gH K d0 0 d0 0 d0 e l I
noncomputable def endL (S:aa) (K:Int) (e:Bool) (p:Nat) (P:List Nat) (I:List TI):(Nat×Nat×Nat)⊕(Int×Bool×Bool×List TI×Nat):=
 if (S.drop (if dts (S.drop p) then p+2 else p)).head?=some (endC K) then
  if (setE K e (dts (S.drop p)) I).2=0 then .inr (K,e,dts (S.drop p),I,(if dts (S.drop p) then p+2 else p)+1)
  else .inl (P.getD (setE K e (dts (S.drop p)) I).1.toNat 0,10,(if dts (S.drop p) then p+2 else p)+1)
 else .inl ((if dts (S.drop p) then p+2 else p),5,(if dts (S.drop p) then p+2 else p))
noncomputable def wT (S:aa) (a:Nat) (K:Int):(Nat×Nat×Nat)⊕(Int×Bool×Bool×List TI×Nat):=
 match ly S (endC K) 256 (if dts (S.drop (a+1)) then a+3 else a+1) [] [] with
 | .inl f=>.inl f
 | .inr (p,P,I)=>endL S K (dts (S.drop (a+1))) p P I
noncomputable def rZ (S:aa) (a:Nat):(Nat×Nat×Nat)⊕(Int×Bool×Bool×List TI×Nat):=
 if (S.drop a).head?=some 91 then wT S a 3 else if (S.drop a).head?=some 123 then wT S a 4 else .inl (a,5,a)
theorem Nu {K:Int} (b:K=3\/K=4) {e l:Bool} {I:List TI} (a:1<=I.length):∃i:Nat,(setE K e l I).1=(i:Int)/\i<I.length:=by
 have hi:∃i:Nat,(vp K e l I).1=(i:Int)/\i<I.length:=by
  unfold vp;have:∀(J:List TI) (k:Nat) (p:Nat×Int),ra (errI K e l I.length) k J=some p->p.1<k+J.length:=by
   intro J
   induction J with
   | nil=>intro k p h;cases h
   | cons t r ih=>
    intro k p h;rw [ra] at h;split at h
    ·cases h;simp
    ·have:=ih (k+1) p h;simp;omega
  cases hs:ra (errI K e l I.length) 0 I with
  | none=>exact ⟨0,rfl,by omega⟩
  | some p=>exact ⟨p.1,rfl,by have:=this I 0 p hs;omega⟩
 unfold setE gH;rw [ab (by omega)];split
 ·exact ⟨0,rfl,by omega⟩
 ·rw [ab (by omega),ab (by omega),ab (by omega)];split
  ·exact ⟨0,rfl,by omega⟩
  ·exact hi
theorem J1 {I:List TI} (h:∀t∈I,smI t):smE d0 d0 d0 I:=⟨n8,n8,n8,h⟩
theorem XT (n:Nat) (I:List TI):bG n I=some (I.length,I.length):=by
 unfold bG;rw [dY (aY _)];show ob (bx I.length ((I.length:Nat):Int)) _=_;rw [dY (aY _)];rfl
def Rb (S:aa):(Nat×Nat×Nat)⊕(Int×Bool×Bool×List TI×Nat)->(Int×Int×aa×Int)⊕(Int×TD×Int×TD×Int×TD×Nat×Nat×Bool×Bool×aa×Int×List TI)
 | .inl f=>.inl ((f.1:Int),(f.2.1:Int),S,(f.2.2:Int))
 | .inr (K,e,l,I,p)=>.inr (K,d0,0,d0,0,d0,I.length,I.length,e,l,S,(p:Int),I)
theorem UP {S:aa} (F:S.length<100000) {K:Int} (C:K=3\/K=4) (e:Bool) {p:Nat} (hp:p<=S.length) {P:List Nat} {I:List TI} (E:P.length=I.length) (y:1<=I.length) (hs:∀t∈I,smI t):
  (obs (ca 20000000 [endC K] S ((if dts (S.drop p) then p+2 else p:Nat):Int)) (u2 λb c=>(ob (bG 20000000 I) (u2 λd f=>(ob (gf 20000000 K d0 0 d0 0 d0 d f e (dts (S.drop p)) I) (u2 λs u=>(cond (u != 0) (ob (ix (List.length (ic P)) s) λm=>(ob ((ic P)[m]?) λn=>(ob (aP 20000000 n 10 b c) (u2 λo w=>(some (.inl (o,w,b,c))))))) (some (.inr (K,d0,0,d0,0,d0,d,f,e,(dts (S.drop p)),b,c,I))))))))) (u4 λv x k j=>(some (.inl (v,x,k,j))))) =
   some (Rb S (endL S K e p P I)):=by
 have z:(if dts (S.drop p) then p+2 else p:Nat)<=S.length:=by
  split
  ·rename_i h;exact mP h
  ·exact hp
 unfold endL;generalize (if dts (S.drop p) then p+2 else p:Nat)=q at *;generalize dts (S.drop p)=l;rw [Bo _ _ _ _ z (by omega) (by simp) (by simp)];simp only [tk1];by_cases hc:(S.drop q).head?=some (endC K)
 ·rw [ae hc,ae hc];simp only [obs,sm,ob,u2,XT,Iz (J1 hs)];obtain ⟨i,B,G⟩:=Nu C (e:=e) (l:=l) y;show cond ((setE K e l I).2 != 0) (ob (ix (ic P).length (setE K e l I).1) _) _=_;by_cases g:(setE K e l I).2=0
  ·rw [ae g,show ((setE K e l I).2 != 0)=false from by simp [g]];rfl
  ·have hi:i<(ic P).length:=by simp [ic];omega
   rw [ab g,show ((setE K e l I).2 != 0)=true from by simp [g],B,dl hi];have D:(ic P)[i]?=some ((P.getD i 0:Nat):Int):=by
    have hi':i<P.length:=by omega
    simp [ic,be hi']
   simp only [ah,ob,D];rfl
 ·rw [ab hc,ab hc];have:lcp (S.drop q) [endC K]=0:=by
   cases A:S.drop q with
   | nil=>rfl
   | cons a r=>
    rw [A] at hc;simp only [lcp];rw [show (a==endC K)=false from by rw [aM];rintro rfl;exact hc rfl];rfl
  rw [this];rfl
theorem R2 {S:aa} {a:Nat} (h:a<=S.length) (hS:S.length<100000):np 20000000 S (a:Int)=some (Rb S (rZ S a)):=by
 have b:∀(K:Int) (z:K=3\/K=4) (j:a+1<=S.length),(ob (m8 20000000 (K==4) S ((a+1:Nat):Int) ([]:List TI) ([]:List TI)) (u5 λv7 v8 v9 T N=>(ob (eF 20000000 v9) (u2 λ_ O=>(ob (aB 20000000 [46,46] v7 v8) (u3 λv13 E Z=>(obs (ar (fi 20000000) 20000000 (O,E,Z,v9,v13,([]:List (Int)),T,N)) (u4 λR Q F v19=>(some (.inl (R,Q,F,v19)))) (u22 λH v21 G _ _ _ _ _ _ _ _ w n m u o y l s v _ d=>(obs (ca 20000000 H v21 G) (u2 λe g=>(ob (bG 20000000 d) (u2 λk x=>(ob (gf 20000000 w n m u o y k x l s d) (u2 λV W=>(cond (W != 0) (ob (ix (List.length v) V) λJ=>(ob (v[J]?) λL=>(ob (aP 20000000 L 10 e g) (u2 λM Y=>(some (.inl (M,Y,e,g))))))) (some (.inr (w,n,m,u,o,y,k,x,l,s,e,g,d))))))))) (u4 λX v44 D A=>(some (.inl (X,v44,D,A))))))))))))) =
   some (Rb S (wT S a K)):=by
  intro K z j;have hj:m8 20000000 (K==4) S ((a+1:Nat):Int) ([]:List TI) ([]:List TI)=some (S,((a+1:Nat):Int),K,[],[]):=by
   rcases z with rfl | rfl<;>rfl
  have C:aB 20000000 [46,46] S ((a+1:Nat):Int)=some (dts (S.drop (a+1)),S,((if dts (S.drop (a+1)) then a+3 else a+1:Nat):Int)):=by
   rw [m6 _ _ _ _ j (by omega)];cases i:dts (S.drop (a+1))
   ·rw [ab (show ¬(S.drop (a+1)).take [(46:UInt8),46].length=[46,46] from λh=>by unfold dts at i;rw [show (S.drop (a+1)).take 2=[46,46] from h] at i;cases i)];rfl
   ·rw [ae (show (S.drop (a+1)).take [(46:UInt8),46].length=[46,46] from eq_of_beq i)];rfl
  have hp:(if dts (S.drop (a+1)) then a+3 else a+1:Nat)<=S.length:=by
   split
   ·rename_i h;have:=mP h;omega
   ·exact j
  have hl:=Rh (endC K) hS K (dts (S.drop (a+1))) [] 256 (if dts (S.drop (a+1)) then a+3 else a+1) [] [] (by simp) hp rfl 20000000 (by omega);simp only [hj,xc z,C,ob,u5,u4,u3,u2];rw [show ar (fi 20000000) 20000000 ([endC K],S,((if dts (S.drop (a+1)) then a+3 else a+1:Nat):Int),K,dts (S.drop (a+1)),([]:List Int),([]:List TI),([]:List TI))=_ from hl];unfold wT;cases hr:ly S (endC K) 256 (if dts (S.drop (a+1)) then a+3 else a+1) [] [] with
  | inl f=>rfl
  | inr q=>
   obtain ⟨p,P,I⟩:=q;obtain ⟨q1,q2,q3,q4,q5⟩:=tG 256 _ [] [] hp rfl (λt C=>by cases C) hr;have q3':1<=I.length:=by rw [ba] at q3;omega
   exact UP hS z (dts (S.drop (a+1))) q1 q2 q3' q5
 unfold np rZ;rw [AU _ _ _ _ h (by omega)];cases i:S.drop a with
 | nil=>rfl
 | cons c r=>
  have j:a+1<=S.length:=by
   have:=ch List.length i;simp at this;omega
  simp only [qZ,au];by_cases B:c=91
  ·subst B;rw [ae rfl];exact b 3 (.inl rfl) j
  ·by_cases U:c=123
   ·subst U;rw [ae rfl];exact b 4 (.inr rfl) j
   ·rw [ab B,ab U];have:hasB [91,123] c=false:=by
     unfold hasB;simp only [qE,List.any_nil,wV,oV,aM];exact ⟨λh=>B h.symm,λh=>U h.symm⟩
    rw [this];rfl
def rat (l:aa):Nat:=match l with | c::_=>c.toNat | []=>0
theorem LS (n:Nat) (S:aa) (p:Nat):di n S (p:Int)=some ((rat (S.drop p):Nat):Int):=by
 unfold di;rw [am (show (p:Int)>=0 by omega),ah];by_cases h:p<S.length
 ·have hc:=be h;rw [am (show (p:Int)<len S by show (p:Int)<((S.length:Nat):Int);omega),ah,dL hc,bU hc];rfl
 ·rw [aq (show ¬(p:Int)<len S by show ¬(p:Int)<((S.length:Nat):Int);omega),af,jm (by omega)];rfl
theorem xA (l:aa) (c:UInt8) (hc:c≠0):(((rat l:Nat):Int)==((c.toNat:Nat):Int))=decide (l.head?=some c):=by
 cases l with
 | nil=>
  rw [aq (by simp)];rw [aM];intro h;have b:c.toNat=0:=by
   have:((0:Nat):Int)=((c.toNat:Nat):Int):=h;omega
  exact hc (gv.1 (by rw [b];rfl))
 | cons a r=>
  show (((a.toNat:Nat):Int)==((c.toNat:Nat):Int))=_;rw [nE];rw [tN];simp
theorem rf_w {p:Nat} (k:Nat) (h:p+k<9223372036854775807):w64 ((p:Int)+(k:Int))=((p+k:Nat):Int):=by
 show IntKind.wrap .i64 _=_;rw [wrap_i64 _ (by omega) (by omega)];omega
theorem Eu (n:Nat) {S:aa} {p:Nat} (g:p<1000000):eM n S (p:Int)=some (if dts (S.drop p) then 1 else 0):=by
 unfold eM;have d:w64 ((p:Int)+1)=((p+1:Nat):Int):=rf_w 1 (by omega);have e:∀q,(((rat (S.drop q):Nat):Int)==46)=decide ((S.drop q).head?=some 46):=λq=>xA (S.drop q) 46 (by decide);have f:∀b,b=(dts (S.drop p))->(some (if b then (1:Int) else 0))=some (if dts (S.drop p) then 1 else 0):=λb h=>by rw [h]
 simp only [LS,ob,d,e];rw [<-iR];unfold dts
 match S.drop p with
 | []=>rfl
 | [a]=>
  by_cases h:a=46
  ·subst h;rfl
  ·simp [h]
 | a::b::r=>
  by_cases h:a=46
  ·by_cases c:b=46
   ·subst h c;rfl
   ·subst h;simp [c]
  ·simp [h]
theorem uM (S:aa) (A:Int) (r:DR):Jr S A (.inr r)=((tdR r).1,(tdR r).2.1,(tdR r).2.2.1,(tdR r).2.2.2.1,(tdR r).2.2.2.2.1,(tdR r).2.2.2.2.2.1,(tdR r).2.2.2.2.2.2.1,(tdR r).2.2.2.2.2.2.2.1,(tdR r).2.2.2.2.2.2.2.2.1,(tdR r).2.2.2.2.2.2.2.2.2,((plR r:Nat):Int),S,((enR r:Nat):Int),0):=rfl
theorem zO (S:aa) (A:Int) (f:Nat×Nat×Nat):Jr S A (.inl f)=(false,false,[],0,0,[],[],0,0,0,A,S,(f.1:Int),(f.2.1:Int)):=rfl
theorem Vj (c:UInt8) (hc:c≠0) {S:aa} {p:Nat} (hp:p<1000000) (T:aa) (f i h:Int) (e:Bool) (d:List Int) (g:TD) (a b:List TI):
  fO 20000000 S ((c.toNat:Nat):Int) f T (p:Int) i h e d g a b=some (S,((c.toNat:Nat):Int),f,dts (S.drop p)&&!decide ((S.drop (p+2)).head?=some c),T,(p:Int),i,h,e,d,g,a,b):=by
 unfold fO;have j:w64 ((p:Int)+2)=((p+2:Nat):Int):=rf_w 2 (by omega);simp only [Eu 20000000 hp,ob,j,LS];rw [show (((rat (S.drop (p+2)):Nat):Int) != ((c.toNat:Nat):Int))=!decide ((S.drop (p+2)).head?=some c) from ch _ (xA _ _ hc)];cases dts (S.drop p)<;>rfl
theorem WG (b:Bool) (c:Int) {S:aa} {p:Nat} (h:p<=S.length) (s:S.length<100000) (o:b=true->dts (S.drop p)=true) (j i:Int) (g:Bool) (l:List Int) (a:TD) (e d:List TI):
  iL 20000000 S c j b S (p:Int) 0 i g l a e d=some (if b=true then (match dk S (p+2) with
   | .inl f=>.inl (S,(f.1:Int),(f.2.1:Int),[])
   | .inr r=>.inr (S,c,j,S,((enR r:Nat):Int),0,i,g,l,a,true,tdR r,e,d)) else .inr (S,c,j,S,(p:Int),0,i,g,l,a,false,d0,e,d)):=by
 unfold iL;cases b
 ·rfl
 ·have t:=o rfl;have m:=mP t;have u:w64 ((p:Int)+2)=((p+2:Nat):Int):=rf_w 2 (by omega);obtain ⟨A,n⟩:=rD S (p+2) m s;rw [ah,ae rfl,u,n];cases v:dk S (p+2) with
  | inl f=>
   obtain ⟨k,E,q⟩:=f;have w:=qB m v;show cond (((E:Nat):Int) != 0) _ _=_;rw [show (((E:Nat):Int) != 0)=true from by simp;omega];rfl
  | inr r=>rfl
theorem TW (c:UInt8) (hc:c≠0) {S:aa} {p:Nat} (h:p<=S.length) (l:S.length<100000) (K:Int) (e:Bool) {P:List Nat} (J:List TI) {I:List TI} (F:I.length<256) (D:P.length=I.length):
  ct 20000000 (S,((c.toNat:Nat):Int),S,(p:Int),0,K,e,ic P,J,I)=some (match nW S c p with
   | .inl f=>.inr (.inl (0,d0,0,d0,0,d0,false,false,S,(f.1:Int),(f.2.1:Int),[]))
   | .inr (t,a,b)=>if (S.drop b).head?=some 44 then .inl (S,((c.toNat:Nat):Int),S,((b+1:Nat):Int),0,K,e,ic (P++[a]),J,I++[t])
    else .inr (.inr (S,((c.toNat:Nat):Int),0,d0,0,d0,0,d0,false,false,[],0,0,S,(b:Int),0,K,d0,0,d0,0,d0,e,false,ic (P++[a]),J,I++[t]))):=by
 have d:∀(t:TI) (a b:Nat),b<=S.length->(ob (di 20000000 S (b:Int)) λi=>(cond (i != 44) (some (.inr (.inr (S,((c.toNat:Nat):Int),0,d0,0,d0,0,d0,false,false,[],0,0,S,(b:Int),0,K,d0,0,d0,0,d0,e,false,(ic P++([(a:Int)]:List (Int))),J,(I++([t]:List TI)))))) (some (.inl (S,((c.toNat:Nat):Int),S,(w64 ((b:Int)+1)),0,K,e,(ic P++([(a:Int)]:List (Int))),J,(I++([t]:List TI))))):Option ((aa×Int×aa×Int×Int×Int×Bool×List (Int)×List TI×List TI)⊕((Int×TD×Int×TD×Int×TD×Bool×Bool×aa×Int×Int×List TI)⊕(aa×Int×Int×TD×Int×TD×Int×TD×Bool×Bool×aa×Int×Int×aa×Int×Int×Int×TD×Int×TD×Int×TD×Bool×Bool×List (Int)×List TI×List TI))))) =
   some (if (S.drop b).head?=some 44 then .inl (S,((c.toNat:Nat):Int),S,((b+1:Nat):Int),0,K,e,ic (P++[a]),J,I++[t])
    else .inr (.inr (S,((c.toNat:Nat):Int),0,d0,0,d0,0,d0,false,false,[],0,0,S,(b:Int),0,K,d0,0,d0,0,d0,e,false,ic (P++[a]),J,I++[t]))):=by
  intro t a b u;have y:ic (P++[a])=ic P++[(a:Int)]:=by simp [ic]
  have v:w64 ((b:Int)+1)=((b+1:Nat):Int):=rf_w 1 (by omega);rw [LS,y,v];simp only [ob];rw [show (((rat (S.drop b):Nat):Int) != 44)=!decide ((S.drop b).head?=some 44) from ch _ (xA _ 44 (by decide))];by_cases hc:(S.drop b).head?=some 44
  ·rw [ae hc,am hc];rfl
  ·rw [ab hc,aq hc];rfl
 unfold ct;simp only [u10,u9,u8,u7,u6,u5,u4,u3,u2];obtain ⟨A,x⟩:=rD S p h l;rw [show (len I==256)=false from by show (((I.length:Nat):Int)==256)=false;simp;omega,af,x];unfold nW;cases j:dk S p with
 | inl f=>
  obtain ⟨k,E,q⟩:=f;have C:=qB h j;show cond (((E:Nat):Int) != 0) _ _=_;rw [show (((E:Nat):Int) != 0)=true from by simp;omega];rfl
 | inr r=>
  obtain ⟨B,_,G,m⟩:=je h j;rw [uM];show ob (fO 20000000 S ((c.toNat:Nat):Int) ((plR r:Nat):Int) S ((enR r:Nat):Int) 0 K e (ic P) (tdR r) J I) _=_;rw [Vj c hc (by omega)];simp only [ob,u13,u12,u11,u10,u9,u8,u7,u6,u5,u4,u3,u2];rw [WG _ _ m l (λh=>by simp at h;exact h.1)];have n:(dts (S.drop (enR r))&&!decide ((S.drop (enR r+2)).head?=some c))=true↔(dts (S.drop (enR r))=true/\(S.drop (enR r+2)).head?≠some c):=by simp
  by_cases g:dts (S.drop (enR r))=true/\(S.drop (enR r+2)).head?≠some c
  ·rw [ae (n.2 g),ae g];cases w:dk S (enR r+2) with
   | inl f=>rfl
   | inr o=>
    obtain ⟨z,_,l3,s⟩:=je (mP g.1) w;simp only [obs,sm,ob,u14,u13,u12,u11,u10,u9,u8,u7,u6,u5,u4,u3,u2];rw [qX (by omega),qX (by simp;omega)];exact d (mkI (tdR r) true (tdR o)) (plR r) (enR o) s
  ·rw [ab (λh=>g (n.1 h)),ab g];simp only [obs,sm,ob,u14,u13,u12,u11,u10,u9,u8,u7,u6,u5,u4,u3,u2];rw [qX (by omega),qX (by simp;omega)];exact d (mkI (tdR r) false d0) (plR r) (enR r) m
theorem Ti (c p:Int) (S:aa) (K:Int) (e:Bool) (P:List Int) (J:List TI) {I:List TI} (a:I.length=256):
  ct 20000000 (S,c,S,p,0,K,e,P,J,I)=some (.inr (.inl (0,d0,0,d0,0,d0,false,false,S,p,3,[]))):=by
 unfold ct;simp only [u10,u9,u8,u7,u6,u5,u4,u3,u2];rw [show (len I==256)=true from by show (((I.length:Nat):Int)==256)=true;rw [a];rfl];rfl
def rfLo (S:aa) (c:UInt8) (K:Int) (e:Bool) (J:List TI):(Nat×Nat×Nat)⊕(Nat×List Nat×List TI)->(Int×TD×Int×TD×Int×TD×Bool×Bool×aa×Int×Int×List TI)⊕(aa×Int×Int×TD×Int×TD×Int×TD×Bool×Bool×aa×Int×Int×aa×Int×Int×Int×TD×Int×TD×Int×TD×Bool×Bool×List (Int)×List TI×List TI)
 | .inl f=>.inl (0,d0,0,d0,0,d0,false,false,S,(f.1:Int),(f.2.1:Int),[])
 | .inr (p,P,I)=>.inr (S,((c.toNat:Nat):Int),0,d0,0,d0,0,d0,false,false,[],0,0,S,(p:Int),0,K,d0,0,d0,0,d0,e,false,ic P,J,I)
theorem SJ (c:UInt8) (hc:c≠0) {S:aa} (j:S.length<100000) (K:Int) (e:Bool) (J:List TI):∀(r p:Nat) (P:List Nat) (I:List TI),I.length+r=256->p<=S.length->P.length=I.length->∀N,r<N->
  ar (ct 20000000) N (S,((c.toNat:Nat):Int),S,(p:Int),0,K,e,ic P,J,I)=some (rfLo S c K e J (ly S c r p P I)):=by
 intro r
 induction r with
 | zero=>
  intro p P I i hp b N g;obtain ⟨N,rfl⟩:∃k,N=k+1:=⟨N - 1,by omega⟩;rw [ar,Ti _ _ S K e _ J (by omega)];rfl
 | succ r ih=>
  intro p P I i hp b N g;obtain ⟨N,rfl⟩:∃k,N=k+1:=⟨N - 1,by omega⟩;rw [ar,TW c hc hp j K e J (by omega) b,ly];cases h:nW S c p with
  | inl f=>rfl
  | inr q=>
   obtain ⟨t,a,d⟩:=q;obtain ⟨_,m,l⟩:=wS hp h;simp only [];by_cases hc:(S.drop d).head?=some 44
   ·rw [ae hc,ae hc];exact ih (d+1) (P++[a]) (I++[t]) (by simp;omega) (fY hc) (by simp [b]) N (by omega)
   ·rw [ab hc,ab hc];rfl
def J3 (S:aa):(Nat×Nat×Nat)⊕(Int×Bool×Bool×List TI×Nat)->Int×TD×Int×TD×Int×TD×Bool×Bool×aa×Int×Int×List TI
 | .inl f=>(0,d0,0,d0,0,d0,false,false,S,(f.1:Int),(f.2.1:Int),[])
 | .inr (K,e,l,I,p)=>(K,d0,0,d0,0,d0,e,l,S,(p:Int),0,I)
theorem VO (n:Nat) (S:aa) (c:Int) (b:Bool) (p:Nat) (hp:p<1000000) (z:Int) (x:TD) (v:Int) (u:TD) (w:Int) (t:TD) (y j:Bool) (g:aa) (l s:Int) (r:aa) (x16 d:Int) (o:TD) (k:Int) (i:TD) (f:Int) (e:TD) (h:Bool) (m:List Int) (a q:List TI):
  fP n S c b z x v u w t y j g l s r (p:Int) x16 d o k i f e h false m a q=some (S,c,z,x,v,u,w,t,y,j,g,l,s,r,((if b then p+2 else p:Nat):Int),x16,d,o,k,i,f,e,h,b,m,a,q):=by
 unfold fP;cases b
 ·rfl
 ·rw [ah,show w64 ((p:Int)+2)=((p+2:Nat):Int) from rf_w 2 (by omega)];rfl
theorem UZ {S:aa} (A:S.length<100000) {K:Int} (w:K=3\/K=4) (e:Bool) {p:Nat} (hp:p<=S.length) {P:List Nat} {I:List TI} (z:P.length=I.length) (s:1<=I.length) (hs:∀t∈I,smI t):
  (ob (di 20000000 S ((if dts (S.drop p) then p+2 else p:Nat):Int)) λn=>(cond (n != (((endC K).toNat:Nat):Int)) (ob (dP 20000000 S ((if dts (S.drop p) then p+2 else p:Nat):Int) 0 ((if dts (S.drop p) then p+2 else p:Nat):Int) 5) (u3 λf r g=>(some (0,d0,0,d0,0,d0,false,false,f,r,g,([]:List TI))))) (ob (ga 20000000 K d0 0 d0 0 d0 e (dts (S.drop p)) I) (u2 λk m=>(cond (m != 0) (ob (ix (List.length (ic P)) k) λb=>(ob ((ic P)[b]?) λc=>(ob (dP 20000000 S (w64 (((if dts (S.drop p) then p+2 else p:Nat):Int)+1)) 0 c 10) (u3 λo d j=>(some (0,d0,0,d0,0,d0,false,false,o,d,j,([]:List TI))))))) (some (K,d0,0,d0,0,d0,e,(dts (S.drop p)),S,(w64 (((if dts (S.drop p) then p+2 else p:Nat):Int)+1)),0,I))))))) =
   some (J3 S (endL S K e p P I)):=by
 have y:(if dts (S.drop p) then p+2 else p:Nat)<=S.length:=by
  split
  ·rename_i h;exact mP h
  ·exact hp
 unfold endL;generalize (if dts (S.drop p) then p+2 else p:Nat)=q at *;generalize dts (S.drop p)=l;have u:w64 ((q:Int)+1)=((q+1:Nat):Int):=rf_w 1 (by omega);rw [LS,u];simp only [ob];rw [show (((rat (S.drop q):Nat):Int) != (((endC K).toNat:Nat):Int))=!decide ((S.drop q).head?=some (endC K)) from ch _ (xA _ _ (by unfold endC;split<;>decide))];by_cases hc:(S.drop q).head?=some (endC K)
 ·rw [ae hc,am hc];simp only [co,af,EJ (J1 hs),u2];obtain ⟨i,v,B⟩:=Nu w (e:=e) (l:=l) s;show cond ((setE K e l I).2 != 0) (ob (ix (ic P).length (setE K e l I).1) _) _=_;by_cases a:(setE K e l I).2=0
  ·rw [ae a,show ((setE K e l I).2 != 0)=false from by simp [a]];rfl
  ·have hi:i<(ic P).length:=by simp [ic];omega
   rw [ab a,show ((setE K e l I).2 != 0)=true from by simp [a],v,dl hi];have x:(ic P)[i]?=some ((P.getD i 0:Nat):Int):=by
    have hi':i<P.length:=by omega
    simp [ic,be hi']
   simp only [ah,ob,x];rfl
 ·rw [ab hc,aq hc];rfl
theorem Ua {S:aa} {a:Nat} (h:a<=S.length) (hS:S.length<100000):kS 20000000 S (a:Int)=some (J3 S (rZ S a)):=by
 have d:∀(K:Int) (hK:K=3\/K=4) (ha:a+1<=S.length),(ob (eM 20000000 S ((a+1:Nat):Int)) λv8=>(ob (fM 20000000 S (((endC K).toNat:Nat):Int) (v8==1) S ((a+1:Nat):Int) K ([]:List TI) ([]:List TI)) (u8 λv9 v10 v11 v12 v13 C v15 J=>(obs (ar (ct 20000000) 20000000 (v9,v10,v11,v12,0,v13,C,([]:List (Int)),v15,J)) (u12 λv17 v18 v19 v20 v21 Y v23 E v25 v26 F v28=>(some (v17,v18,v19,v20,v21,Y,v23,E,v25,v26,F,v28))) (u27 λr G L v32 v33 v34 W v36 v37 v38 v39 v40 H v42 w O A T Z v48 N v50 v51 v52 v53 v54 X=>(ob (eM 20000000 r w) λQ=>(ob (fP 20000000 r G (Q==1) L v32 v33 v34 W v36 v37 v38 v39 v40 H v42 w O A T Z v48 N v50 v51 v52 v53 v54 X) (u27 λM v58 _ _ _ _ _ _ _ _ _ _ _ e c g x s m i v k y j n _ u=>(ob (di 20000000 M c) λv72=>(cond (v72 != v58) (ob (dP 20000000 e c g c 5) (u3 λB v74 D=>(some (0,d0,0,d0,0,d0,false,false,B,v74,D,([]:List TI))))) (ob (ga 20000000 x s m i v k y j u) (u2 λv76 v77=>(cond (v77 != 0) (ob (ix (List.length n) v76) λz=>(ob (n[z]?) λU=>(ob (dP 20000000 e (w64 (c+1)) g U 10) (u3 λR V v82=>(some (0,d0,0,d0,0,d0,false,false,R,V,v82,([]:List TI))))))) (some (x,s,m,i,v,k,y,j,e,(w64 (c+1)),g,u))))))))))))))) =
   some (J3 S (wT S a K)):=by
  intro K hK ha;have one:∀b:Bool,((if b then (1:Int) else 0)==1)=b:=by decide
  have hj:fM 20000000 S (((endC K).toNat:Nat):Int) (dts (S.drop (a+1))) S ((a+1:Nat):Int) K ([]:List TI) ([]:List TI)=some (S,(((endC K).toNat:Nat):Int),S,((if dts (S.drop (a+1)) then a+3 else a+1:Nat):Int),K,dts (S.drop (a+1)),[],[]):=by
   unfold fM;cases dts (S.drop (a+1))
   ·rfl
   ·rw [ah,show w64 (((a+1:Nat):Int)+2)=((a+1+2:Nat):Int) from rf_w 2 (by omega)];rfl
  have hp:(if dts (S.drop (a+1)) then a+3 else a+1:Nat)<=S.length:=by
   split
   ·rename_i h;have:=mP h;omega
   ·exact ha
  have hl:=SJ (endC K) (by unfold endC;split<;>decide) hS K (dts (S.drop (a+1))) [] 256 (if dts (S.drop (a+1)) then a+3 else a+1) [] [] (by simp) hp rfl 20000000 (by omega);simp only [Eu 20000000 (show a+1<1000000 by omega),one,hj,ob,u8,u7,u6,u5,u4,u3,u2];rw [show ar (ct 20000000) 20000000 (S,(((endC K).toNat:Nat):Int),S,((if dts (S.drop (a+1)) then a+3 else a+1:Nat):Int),0,K,dts (S.drop (a+1)),([]:List Int),([]:List TI),([]:List TI))=_ from hl];unfold wT;cases hr:ly S (endC K) 256 (if dts (S.drop (a+1)) then a+3 else a+1) [] [] with
  | inl f=>rfl
  | inr q=>
   obtain ⟨p,P,I⟩:=q;obtain ⟨q1,q2,q3,q4,q5⟩:=tG 256 _ [] [] hp rfl (λt ht=>by cases ht) hr;have q3':1<=I.length:=by rw [ba] at q3;omega
   simp only [rfLo,obs,sm,ob,u27,u26,u25,u24,u23,u22,u21,u20,u19,u18,u17,u16,u15,u14,u13,u12,u11,u10,u9,u8,u7,u6,u5,u4,u3,u2,Eu 20000000 (show p<1000000 by omega),one,VO _ _ _ _ p (show p<1000000 by omega)];exact UZ hS hK (dts (S.drop (a+1))) q1 q2 q3' q5
 have hw:w64 ((a:Int)+1)=((a+1:Nat):Int):=rf_w 1 (by omega);unfold kS rZ;rw [LS,hw];simp only [ob];unfold kV;rw [show (((rat (S.drop a):Nat):Int)==91)=decide ((S.drop a).head?=some 91) from xA _ 91 (by decide),show (((rat (S.drop a):Nat):Int)==123)=decide ((S.drop a).head?=some 123) from xA _ 123 (by decide)];by_cases o:(S.drop a).head?=some 91
 ·rw [ae o,am o];exact d 3 (.inl rfl) (fY o)
 ·rw [ab o,aq o];by_cases l:(S.drop a).head?=some 123
  ·rw [ae l,am l];exact d 4 (.inr rfl) (fY l)
  ·rw [ab l,aq l];rfl
theorem IV {S:aa} {d:UInt8} {p:Nat} (h:p<=S.length) {f:Nat×Nat×Nat} (a:nW S d p=.inl f):f.2.1≠0:=by
 unfold nW at a;cases b:dk S p with
 | inl g=>rw [b] at a;cases a;exact qB (k:=f.1) (E:=f.2.1) (p:=f.2.2) h b
 | inr r=>
  rw [b] at a;simp only [] at a;split at a
  ·rename_i e;cases c:dk S (enR r+2) with
   | inl g=>rw [c] at a;cases a;exact qB (k:=f.1) (E:=f.2.1) (p:=f.2.2) (mP e.1) c
   | inr i=>rw [c] at a;cases a
  ·cases a
theorem zM {S:aa} {c:UInt8}:∀(r p:Nat) (P:List Nat) (I:List TI),p<=S.length->∀{f:Nat×Nat×Nat},ly S c r p P I=.inl f->f.2.1≠0
 | 0,p,P,I,_,f,e=>by cases e;simp
 | r+1,p,P,I,h,f,e=>by
  rw [ly] at e;cases b:nW S c p with
  | inl g=>rw [b] at e;cases e;exact IV h b
  | inr q=>
   obtain ⟨t,a,d⟩:=q;rw [b] at e;simp only [] at e;split at e
   ·rename_i i;exact zM r (d+1) _ _ (fY i) e
   ·cases e
structure SetOK (S:aa) (K:Int) (e l:Bool) (I:List TI) (p:Nat):Prop where
 kind:K=3\/K=4
 sm:∀t∈I,smI t
 ok:(setE K e l I).2=0
 one:1<=I.length
 most:I.length<=256
 le:p<=S.length
theorem Om {S:aa} {a:Nat} (h:a<=S.length) {K:Int} {e l:Bool} {I:List TI} {p:Nat} (b:rZ S a=.inr (K,e,l,I,p)):SetOK S K e l I p:=by
 have c:∀g:Int,g=3\/g=4->a+1<=S.length->wT S a g=.inr (K,e,l,I,p)->SetOK S K e l I p:=by
  intro g k s b;unfold wT at b;have hp:(if dts (S.drop (a+1)) then a+3 else a+1:Nat)<=S.length:=by
   split
   ·rename_i h;have:=mP h;omega
   ·exact s
  cases d:ly S (endC g) 256 (if dts (S.drop (a+1)) then a+3 else a+1) [] [] with
  | inl f=>rw [d] at b;cases b
  | inr q=>
   obtain ⟨i,P,J⟩:=q;obtain ⟨v,u,n,r,o⟩:=tG 256 _ [] [] hp rfl (λt j=>by cases j) d;rw [d] at b;simp only [] at b;unfold endL at b;generalize (if dts (S.drop i) then i+2 else i:Nat)=w at b;split at b
   ·rename_i hc;split at b
    ·rename_i m;cases b;rw [ba] at n r;exact ⟨k,o,m,by omega,by omega,fY hc⟩
    ·cases b
   ·cases b
 unfold rZ at b;split at b
 ·rename_i d;exact c 3 (.inl rfl) (fY d) b
 ·split at b
  ·rename_i d;exact c 4 (.inr rfl) (fY d) b
  ·cases b
theorem w9 {S:aa} {a:Nat} (h:a<=S.length) {f:Nat×Nat×Nat} (b:rZ S a=.inl f):f.2.1≠0:=by
 have c:∀e:Int,a+1<=S.length->wT S a e=.inl f->f.2.1≠0:=by
  intro e j b;unfold wT at b;have hp:(if dts (S.drop (a+1)) then a+3 else a+1:Nat)<=S.length:=by
   split
   ·rename_i h;have:=mP h;omega
   ·exact j
  cases d:ly S (endC e) 256 (if dts (S.drop (a+1)) then a+3 else a+1) [] [] with
  | inl g=>rw [d] at b;cases b;exact zM 256 _ _ _ hp d
  | inr q=>
   obtain ⟨i,P,J⟩:=q;rw [d] at b;simp only [] at b;unfold endL at b;generalize (if dts (S.drop i) then i+2 else i:Nat)=k at b;split at b
   ·split at b
    ·cases b
    ·cases b;simp
   ·cases b;simp
 unfold rZ at b;split at b
 ·rename_i d;exact c 3 (fY d) b
 ·split at b
  ·rename_i d;exact c 4 (fY d) b
  ·cases b;simp
noncomputable def DJ (S:aa):(Nat×Nat)⊕(Int×Bool×Bool×List TI):=match rZ S 0 with
 | .inl f=>.inl (f.1,f.2.1)
 | .inr (K,e,l,I,p)=>if p<S.length then .inl (p,5) else .inr (K,e,l,I)
def brk (c:UInt8):Bool:=c==33||c==44||c==46||c==47||c==91||c==93||c==123||c==125
theorem TV:∀c,(!brk c||(!isYC c&&(!isMk c&&(!(c==45)&&!isDX c))))=true:=iS (λc=>!brk c||(!isYC c&&(!isMk c&&(!(c==45)&&!isDX c)))) (by decide +kernel)
theorem HN {c:UInt8} (h:brk c=true):isYC c=false/\isMk c=false/\(c==45)=false/\isDX c=false:=by
 have:=TV c;rw [h] at this;simpa [az] using this
theorem UB {c:UInt8} (h:isDX c=true):brk c=false:=by
 cases a:brk c
 ·rfl
 ·rw [(HN a).2.2.2] at h;cases h
def endT (l:aa):Prop:=∀c,l.head?=some c->brk c=true
theorem RS {l:aa} (h:endT l):dG isYC l/\dG isMk l/\dG (λc=>c==45) l:=⟨λc hc=>(HN (h c hc)).1,λc hc=>(HN (h c hc)).2.1,λc hc=>(HN (h c hc)).2.2.1⟩
theorem Oj:endT []:=λc h=>by cases h
theorem CB {c:UInt8} {l:aa} (h:brk c=true):endT (c::l):=λa b=>by
 simp only [qZ,au] at b;rw [<-b];exact h
theorem K7 {g l:Bool} {d:aa} {x s:Nat} (h:okY g l d (x:Int) (s:Int)) (r:aa):dG brk (gk g l d (x:Int) (s:Int)++r):=by
 have a:d≠[]:=by
  have:=(kb h).2.2.2.2.1;rintro rfl;simp at this
 rw [kw];cases l with
 | true=>exact ej (by decide)
 | false=>
  cases g with
  | true=>exact ej (by decide)
  | false=>
   simp only [br,aA,eK,iQ];exact vG a (JY h) (λc=>UB)
def vB (x:TD):aa:=wj x.1 x.2.1 x.2.2.1 x.2.2.2.1 x.2.2.2.2.1 x.2.2.2.2.2.1 x.2.2.2.2.2.2.1 x.2.2.2.2.2.2.2.1.toNat x.2.2.2.2.2.2.2.2.1.toNat x.2.2.2.2.2.2.2.2.2.toNat
theorem qC {x:TD} (hs:smT x) (hc:cF x=0):∃(g l:Bool) (dg:aa) (e q:Nat) (m d:aa) (a b c:Nat),x=(g,l,dg,(e:Int),(q:Int),m,d,(a:Int),(b:Int),(c:Int))/\OkD g l dg e q m d a b c:=by
 have h:=mE hc;obtain ⟨g,l,dg,e,q,m,d,k0,k1,k2⟩:=x;obtain ⟨p,r,a,b,c,i,k,f,n,j,o⟩:=Gi hs.2.2.2.1 hs.2.2.2.2.1 hs.2.2.2.2.2 h;simp only at i k f n j;subst i k f n j;exact ⟨_,_,_,_,_,_,_,_,_,_,rfl,o⟩
theorem dfT {x:TD} (hs:smT x) (hc:cF x=0):ap10 (cK 20000000) x=some (vB x,0):=by
 have:=GZ 19999700 x.1 x.2.1 x.2.2.1 x.2.2.2.1 x.2.2.2.2.1 x.2.2.2.2.2.1 x.2.2.2.2.2.2.1 x.2.2.2.2.2.2.2.1 x.2.2.2.2.2.2.2.2.1 x.2.2.2.2.2.2.2.2.2 hs.1 hs.2.1 hs.2.2.2.1 hs.2.2.2.2.1 hs.2.2.2.2.2;rw [ae (mE hc)] at this;exact this
theorem rfT {x:TD} (hs:smT x) (hc:cF x=0):ap10 (cE 20000000) x=some (vB x):=
 CN 19999700 hs.2.2.2.1 hs.2.2.2.2.1 hs.2.2.2.2.2 (mE hc)
theorem nv {x:TD} (hs:smT x) (hc:cF x=0):(vB x).length<=37:=by
 obtain ⟨g,l,dg,e,q,m,d,a,b,c,rfl,ok⟩:=qC hs hc;exact MU ok
theorem IU {l:aa} (h:dG brk l):dts l=false:=by
 cases a:dts l
 ·rfl
 ·obtain ⟨r,rfl⟩:=sG.1 a;exact absurd (h 46 rfl) (by decide)
structure OkI (t:TI):Prop where
 sm:smI t
 a:cF (iF t)=0
 b:rT t=true->cF (iT t)=0
 n:rT t=false->iT t=d0
def ib (t:TI):aa:=if rT t then vB (iF t)++([46,46]++vB (iT t)) else vB (iF t)
theorem yn {t:TI} (h:OkI t):(ib t).length<=76:=by
 have d:=nv h.sm.1 h.a;unfold ib;split
 ·rename_i c;have e:=nv h.sm.2 (h.b c);simp only [aL,aC,ba];omega
 ·omega
def EL (I:List TI):aa:=(I.map λt=>44::ib t).flatten
def Bf (K:Int) (e l:Bool) (I:List TI):aa:=
 (if K=4 then 123 else 91)::((if e then [46,46] else [])++(Lib.join (I.map ib) [44]++((if l then [46,46] else [])++[endC K])))
theorem Na (t:TI) (I:List TI):Lib.join ((t::I).map ib) [44]=ib t++EL I:=by
 rw [fX,Lib.join_cons];unfold Lib.joinTail EL;rw [sJ];rfl
theorem xI {x y:TD} {r all:Bool} (h:itE x r y all=0):cF x=0/\(r=true->cF y=0)/\(r=false->y=d0)/\itE x r y false=0:=by
 by_cases hc:cF x=0
 ·refine ⟨hc,?_⟩;cases r
  ·rw [V8 hc] at h ⊢;have hy:eqD y d0=true:=by
    cases a:eqD y d0
    ·rw [a] at h;simp at h
    ·rfl
   exact ⟨λh=>(by cases h),λ_=>nN.1 hy,by rw [hy];simp⟩
  ·by_cases hy:cF y=0
   ·rw [Xj hc hy] at h ⊢;have b:ordB x y=true:=by
     cases a:ordB x y
     ·rw [a] at h;simp at h
     ·rfl
    exact ⟨λ_=>hy,λh=>(by cases h),by rw [b];simp⟩
   ·rw [QW hc hy] at h;exact absurd h hy
 ·rw [WH hc] at h;exact absurd h hc
theorem Xo {t:TI} {all:Bool} (hs:smI t) (h:itI t all=0):OkI t:=by
 obtain ⟨a,b,c,_⟩:=xI h;exact ⟨hs,a,b,c⟩
theorem FU {x y:TD} (r:Bool) (hx:smT x) (hy:smT y):gC 20000000 x r y=some (if itE x r y false=0 then (ib (mkI x r y),0) else ([],itE x r y false)):=by
 unfold gC;rw [zW r hx hy,ae (.inl rfl),show ((3:Int)==4)=false from rfl];simp only [ob];by_cases h:itE x r y false=0
 ·obtain ⟨a,b,c,_⟩:=xI h;rw [ae h,h,dfT hx a];simp only [dJ,af,u2];cases r
  ·rfl
  ·have e:=nv hx a;have d:=nv hy (b rfl);simp only [ah,dfT hy (b rfl)];rw [cb (by simp only [aC,ba];omega)];simp only [];rw [cb (by simp only [aL,aC,ba];omega)];rfl
 ·rw [ab h,show (itE x r y false != 0)=true from by simp [h]];rfl
theorem JS {t:TI} (ok:OkI t):g9 20000000 (iF t) (rT t) (iT t)=some (ib t):=by
 unfold g9 ib;rw [rfT ok.sm.1 ok.a];cases c:rT t
 ·rfl
 ·have e:=nv ok.sm.1 ok.a;have d:=nv ok.sm.2 (ok.b c);simp only [ah,ob,rfT ok.sm.2 (ok.b c)];rw [cb (by simp only [aC,ba];omega)];simp only [];rw [cb (by simp only [aL,aC,ba];omega)];simp only [aJ,iQ]
theorem Cm:∀{I:List TI},(∀t∈I,OkI t)->(EL I).length<=77*I.length
 | [],_=>by simp [EL]
 | t::I,h=>by
  have b:=yn (h t pC);have c:=Cm (I:=I) λu a=>h u (gy _ a);have:EL (t::I)=(44::ib t)++EL I:=by simp [EL]
  rw [this];simp only [aL,aC];omega
theorem yk {I:List TI} (h:∀t∈I,OkI t):(Lib.join (I.map ib) [44]).length<=77*I.length:=by
 cases I with
 | nil=>simp [Lib.join_nil]
 | cons t I=>
  have b:=yn (h t pC);have c:=Cm (I:=I) λu a=>h u (gy _ a);rw [Na];simp only [aL,aC];omega
theorem Ly {I:List TI} {i:Nat} {t:TI} (h:I[i]?=some t) (w:aa) (c:w=ib t):((I.take i).map ib++List.replicate (I.length - i) []).set i w=(I.take (i+1)).map ib++List.replicate (I.length - (i+1)) []:=by
 have hi:i<I.length:=(qR.1 h).1;obtain ⟨k,b⟩:∃k,I.length - i=k+1:=⟨I.length - i - 1,by omega⟩;have a:((I.take i).map ib).length=i:=by simp;omega
 rw [b,sC,show I.length - (i+1)=k by omega,qc,h,c];rw [List.set_append_right _ _ (by omega),a,Bh];simp
theorem J8 {I:List TI} (hs:∀t∈I,OkI t/\itI t false=0) (h:I.length<=1000) (K:Int) (D:TD) (KF:Int) (DF:TD) (KT:Int) (DT:TD) (e l:Bool):∀(r i:Nat),i+r=I.length->∀N,r<N->
  ar (cn 20000000) N (len I,(i:Int),I,K,D,KF,DF,KT,DT,e,l,(I.take i).map ib++List.replicate (I.length - i) [])=some (I,K,D,KF,DF,KT,DT,e,l,I.map ib):=by
 intro r
 induction r with
 | zero=>
  intro i hi N d;obtain ⟨N,rfl⟩:∃k,N=k+1:=⟨N - 1,by omega⟩;obtain rfl:i=I.length:=by omega
  have:cn 20000000 (len I,((I.length:Nat):Int),I,K,D,KF,DF,KT,DT,e,l,(I.take I.length).map ib++List.replicate (I.length - I.length) [])=some (.inr (I,K,D,KF,DF,KT,DT,e,l,I.map ib)):=by
   unfold cn;simp only [u12,u11,u10,u9,u8,u7,u6,u5,u4,u3,u2];rw [aq (show ¬((I.length:Nat):Int)<len I by show ¬((I.length:Nat):Int)<((I.length:Nat):Int);omega),Bh,nQ];simp
  rw [ar,this]
 | succ r ih=>
  intro i hi N d;obtain ⟨N,rfl⟩:∃k,N=k+1:=⟨N - 1,by omega⟩;have a:i<I.length:=by omega
  have b:I[i]?=some I[i]:=be a;obtain ⟨ok,c⟩:=hs _ (Hq a);generalize I[i]=t at b ok c;have f:((I.take i).map ib++List.replicate (I.length - i) ([]:aa)).length=I.length:=by simp;omega
  have:cn 20000000 (len I,(i:Int),I,K,D,KF,DF,KT,DT,e,l,(I.take i).map ib++List.replicate (I.length - i) [])=some (.inl (len I,((i+1:Nat):Int),I,K,D,KF,DF,KT,DT,e,l,(I.take (i+1)).map ib++List.replicate (I.length - (i+1)) [])):=by
   unfold cn;simp only [u12,u11,u10,u9,u8,u7,u6,u5,u4,u3,u2];rw [am (show (i:Int)<len I by show (i:Int)<((I.length:Nat):Int);omega),dl a];simp only [ah,ob,b];rw [show gC 20000000 (iF t) (d8 t).2.2.1 (d8 t).2.2.2=some (ib t,0) from (FU (rT t) ok.sm.1 ok.sm.2).trans (by rw [ae (show itE (iF t) (rT t) (iT t) false=0 from c)])];simp only [f];rw [dl a];simp only [];obtain ⟨w,g⟩:∃w,((I.take i).map ib++List.replicate (I.length - i) ([]:aa))[i]?=some w:=⟨_,be (by omega)⟩;rw [g];simp only [u2];rw [Ly b _ rfl,pH (by omega)]
  rw [ar,this];exact ih (i+1) (by omega) N (by omega)
structure SetP (K:Int) (D:TD) (KF:Int) (DF:TD) (KT:Int) (DT:TD) (e l:Bool) (I:List TI):Prop where
 kind:K=3\/K=4
 d:D=d0
 kf:KF=0
 df:DF=d0
 kt:KT=0
 dt:DT=d0
 one:1<=I.length
 most:I.length<=256
 its:∀t∈I,itI t (K==4)=0
 set:(setE K e l I).2=0
theorem y4 {A:Type} {f:Nat->A->Int}:∀{L:List A} {k:Nat},ra f k L=none->∀t∈L,∃i,f i t=0
 | u::L,k,h,t,a=>by
  rw [ra] at h;split at h
  ·cases h
  ·rename_i b;rcases dr.1 a with rfl | a
   ·exact ⟨k,NW.1 b⟩
   ·exact y4 h t a
theorem F6 {A:Type} {f:Nat->A->Int}:∀{L:List A} {k:Nat} {p:Nat×Int},ra f k L=some p->p.2≠0
 | u::L,k,p,h=>by
  rw [ra] at h;split at h
  ·rename_i a;cases h;exact a
  ·exact F6 h
theorem WC {K:Int} {e l:Bool} {n i:Nat} {t:TI} (h:errI K e l n i t=0):itI t (K==4)=0:=by
 unfold errI at h;split at h
 ·rename_i a;exact absurd h a
 ·rename_i a;exact NW.1 a
theorem xu {K:Int} (g:K=3\/K=4) {D:TD} {KF:Int} {DF:TD} {KT:Int} {DT:TD} {e l:Bool} {I:List TI} (h:(gH K D KF DF KT DT e l I).2=0):SetP K D KF DF KT DT e l I:=by
 have n:=h;unfold gH at h;rw [ab (by omega)] at h;split at h
 ·simp at h
 ·rename_i f;rw [ab (by omega),ab (by omega)] at h;split at h
  ·simp at h
  ·split at h
   ·simp at h
   ·unfold vp at h;have q:D=d0/\KF=0/\DF=d0/\KT=0/\DT=d0:=by
     unfold unuB at f;have k1:(K==1)=false:=by rcases g with rfl | rfl<;>rfl
     have k2:(K==2)=false:=by rcases g with rfl | rfl<;>rfl
     have o:(K==3||(K==4||(decide (I.length=0)&&(!e&&!l))))=true:=by rcases g with rfl | rfl<;>rfl
     rw [k1,k2,o] at f;generalize m:eqD D d0=z1 at f;generalize r:eqD DF d0=z2 at f;generalize j:eqD DT d0=s at f;simp only [o8,co,wV,D7,iO,kW,not_or,Bool.not_eq_false,az,bI] at f;obtain ⟨a,⟨b,c⟩,d,e⟩:=f;exact ⟨nN.1 (m.trans a),b,nN.1 (r.trans c),d,nN.1 (j.trans e)⟩
    obtain ⟨rfl,rfl,rfl,rfl,rfl⟩:=q;cases hs:ra (errI K e l I.length) 0 I with
    | some p=>rw [hs] at h;exact absurd h (F6 hs)
    | none=>
     refine ⟨g,rfl,rfl,rfl,rfl,rfl,by omega,by omega,λt k=>?_,n⟩;obtain ⟨i,hi⟩:=y4 hs t k;exact WC hi
theorem Qu {K:Int} {D:TD} {KF:Int} {DF:TD} {KT:Int} {DT:TD} {e l:Bool} {I:List TI} (p:SetP K D KF DF KT DT e l I) (hs:∀t∈I,smI t):∀t∈I,OkI t/\itI t false=0:=
 λt a=>⟨Xo (hs t a) (p.its t a),(xI (p.its t a)).2.2.2⟩
def Ix (K:Int):Prop:=K=3\/K=4
instance (K:Int):Decidable (Ix K):=inferInstanceAs (Decidable (K=3\/K=4))
theorem SE {K:Int} {D:TD} {KF:Int} {DF:TD} {KT:Int} {DT:TD} {e l:Bool} {I:List TI} (h:smE D DF DT I):
  lJ 20000000 K D KF DF KT DT e l I=some (if Ix K then (if (gH K D KF DF KT DT e l I).2=0 then (Bf K e l I,0) else ([],(gH K D KF DF KT DT e l I).2)) else ([],18)):=by
 have c:∀A:Ix K,(ob (iK 20000000 K D KF DF KT DT e l I) λi=>(cond (i != 0) (some ([],i)) (cond (decide ((0:Int)<=(len I))&&(decide ((len I)<=(len I))&&decide ((len I)<=(67108864:Int)))) (ob (ar (cn 20000000) 20000000 ((len I),0,I,K,D,KF,DF,KT,DT,e,l,(List.replicate (Int.toNat (len I)) ([]:aa)))) (u10 λ_ B _ _ _ _ _ r j a=>(ob (eF 20000000 B) (u2 λf b=>(cond r (ob (cat f ([46,46]:aa)) λg=>(cond j (ob (cat ([46,46]:aa) b) λv=>(cond (Nat.ble (List.length a) 140737488355328&&Nat.ble (List.length (Lib.join a ([44]:aa))) 140737488355328) (ob (cat g (Lib.join a ([44]:aa))) λs=>(ob (cat s v) λC=>(some (C,0)))) none)) (cond (Nat.ble (List.length a) 140737488355328&&Nat.ble (List.length (Lib.join a ([44]:aa))) 140737488355328) (ob (cat g (Lib.join a ([44]:aa))) λp=>(ob (cat p b) λu=>(some (u,0)))) none))) (cond j (ob (cat ([46,46]:aa) b) λz=>(cond (Nat.ble (List.length a) 140737488355328&&Nat.ble (List.length (Lib.join a ([44]:aa))) 140737488355328) (ob (cat f (Lib.join a ([44]:aa))) λq=>(ob (cat q z) λx=>(some (x,0)))) none)) (cond (Nat.ble (List.length a) 140737488355328&&Nat.ble (List.length (Lib.join a ([44]:aa))) 140737488355328) (ob (cat f (Lib.join a ([44]:aa))) λy=>(ob (cat y b) λo=>(some (o,0)))) none))))))) none))) =
   some (if (gH K D KF DF KT DT e l I).2=0 then (Bf K e l I,(0:Int)) else ([],(gH K D KF DF KT DT e l I).2)):=by
  intro A;rw [Ie h];simp only [ob];by_cases k:(gH K D KF DF KT DT e l I).2=0
  ·have P:=xu A k;have L:=P.most;have oks:=Qu P h.2.2.2;have F:=yk λt E=>(oks t E).1;rw [ae k,k];have d:=J8 oks (by omega) K D KF DF KT DT e l I.length 0 (by omega) 20000000 (by omega);simp only [dJ,af];have J:(decide ((0:Int)<=(len I))&&(decide ((len I)<=(len I))&&decide ((len I)<=(67108864:Int))))=true:=by
    have:len I=((I.length:Nat):Int):=rfl;rw [this];simp only [az,cj];omega
   rw [J,ah,show (List.replicate (Int.toNat (len I)) ([]:aa))=(I.take 0).map ib++List.replicate (I.length - 0) [] from by simp];rw [show ar (cn 20000000) 20000000 (len I,(0:Int),I,K,D,KF,DF,KT,DT,e,l,(I.take 0).map ib++List.replicate (I.length - 0) [])=_ from d];have H:(Nat.ble (List.length (I.map ib)) 140737488355328&&Nat.ble (List.length (Lib.join (I.map ib) ([44]:aa))) 140737488355328)=true:=by
    simp only [az];exact ⟨cZ (by simp;omega),cZ (by omega)⟩
   simp only [u10,u9,u8,u7,u6,u5,u4,u3,u2,xc A,H,ah];unfold Bf;generalize G:(if K=4 then (123:UInt8) else 91)=b1;generalize endC K=b2;generalize Lib.join (I.map ib) [44]=w at F;cases e<;>cases l<;>simp only [ah,af]
   ·rw [cb (by simp only [aC,ba];omega)];simp only [];rw [cb (by simp only [aL,aC,ba];omega)];simp
   ·rw [cb (by simp only [aC,ba];omega)];simp only [];rw [cb (by simp only [aC,ba];omega)];simp only [];rw [cb (by simp only [aL,aC,ba];omega)];simp
   ·rw [cb (by simp only [aC,ba];omega)];simp only [];rw [cb (by simp only [aL,aC,ba];omega)];simp only [];rw [cb (by simp only [aL,aC,ba];omega)];simp
   ·rw [cb (by simp only [aC,ba];omega)];simp only [];rw [cb (by simp only [aC,ba];omega)];simp only [];rw [cb (by simp only [aL,aC,ba];omega)];simp only [];rw [cb (by simp only [aL,aC,ba];omega)];simp
  ·rw [ab k,show ((gH K D KF DF KT DT e l I).2 != 0)=true from by simp [k]];rfl
 unfold lJ;by_cases m:K=3
 ·rw [show (K != 3)=false from by simp [m],ae (.inl m)];exact c (.inl m)
 ·rw [show (K != 3)=true from by simp [m],ah];by_cases n:K=4
  ·rw [show (K != 4)=false from by simp [n],ae (.inr n)];exact c (.inr n)
  ·rw [show (K != 4)=true from by simp [n],ab (by rintro (h | h)<;>contradiction)];rfl
theorem Ld (ws:List (aa)) (w:aa) (h:ws≠[]):Lib.join (ws++[w]) [44]=Lib.join ws [44]++[44]++w:=by
 cases ws with
 | nil=>exact absurd rfl h
 | cons a r=>
  rw [eI,Lib.join_cons,Lib.join_cons];unfold Lib.joinTail;simp
theorem I3 {I:List TI} (hs:∀t∈I,OkI t) (p:I.length<=1000) (pre:aa) (hp:pre.length<=10) (K:Int) (D:TD) (KF:Int) (DF:TD) (KT:Int) (DT:TD) (e l:Bool):∀(r i:Nat),i+r=I.length->∀N,r<N->
  ar (bS 20000000) N (pre++Lib.join ((I.take i).map ib) [44],(i:Int),I,K,D,KF,DF,KT,DT,e,l)=some (pre++Lib.join (I.map ib) [44],I,K,D,KF,DF,KT,DT,e,l):=by
 intro r
 induction r with
 | zero=>
  intro i hi N f;obtain ⟨N,rfl⟩:∃k,N=k+1:=⟨N - 1,by omega⟩;obtain rfl:i=I.length:=by omega
  have:∀s,bS 20000000 (s,((I.length:Nat):Int),I,K,D,KF,DF,KT,DT,e,l)=some (.inr (s,I,K,D,KF,DF,KT,DT,e,l)):=by
   intro s;unfold bS;simp only [u11,u10,u9,u8,u7,u6,u5,u4,u3,u2];rw [aq (show ¬((I.length:Nat):Int)<len I by show ¬((I.length:Nat):Int)<((I.length:Nat):Int);omega)];rfl
  rw [ar,this,nQ]
 | succ r ih=>
  intro i hi N f;obtain ⟨N,rfl⟩:∃k,N=k+1:=⟨N - 1,by omega⟩;have a:i<I.length:=by omega
  have b:I[i]?=some I[i]:=be a;have ok:=hs _ (Hq a);generalize I[i]=t at b ok;have o:=yk (I:=I.take i) λu j=>hs u (List.mem_of_mem_take j);have m:(I.take i).length<=1000:=by rw [da];omega
  have n:=yn ok;have c:(I.take (i+1)).map ib=(I.take i).map ib++[ib t]:=by rw [qc,b];simp
  have:bS 20000000 (pre++Lib.join ((I.take i).map ib) [44],(i:Int),I,K,D,KF,DF,KT,DT,e,l)=some (.inl (pre++Lib.join ((I.take (i+1)).map ib) [44],((i+1:Nat):Int),I,K,D,KF,DF,KT,DT,e,l)):=by
   unfold bS;simp only [u11,u10,u9,u8,u7,u6,u5,u4,u3,u2];rw [am (show (i:Int)<len I by show (i:Int)<((I.length:Nat):Int);omega),dl a];have hit:g9 20000000 (iF t) (d8 t).2.2.1 (d8 t).2.2.2=some (ib t):=JS ok;simp only [ah,ob,b,hit];rw [c];by_cases g:i=0
   ·subst g;rw [aq (show ¬((0:Nat):Int)>0 by omega),af,cb (by simp only [aL];omega),pH (by omega)];simp [Lib.join_nil,Lib.join_one]
   ·have d:(I.take i).map ib≠[]:=by
     intro h;have:=ch List.length h;rw [uV,da,ba] at this;omega
    rw [am (show (i:Int)>0 by omega),ah,cb (by simp only [aL,aC,ba];omega)];simp only [];rw [cb (by simp only [aL,aC,ba];omega),pH (by omega),Ld _ _ d];simp
  rw [ar,this];exact ih (i+1) (by omega) N (by omega)
theorem MR {K:Int} (h:Ix K) {I:List TI} (hs:∀t∈I,OkI t) (m:I.length<=1000) (D:TD) (KF:Int) (DF:TD) (KT:Int) (DT:TD) (e l:Bool):kP 20000000 K D KF DF KT DT e l I=some (Bf K e l I):=by
 have k:=yk hs;have b:=λ(pre:aa) (hp:pre.length<=10)=>I3 hs m pre hp K D KF DF KT DT e l I.length 0 (by omega) 20000000 (by omega);have j:Lib.join ((I.take 0).map ib) [44]=[]:=rfl;rw [j] at b;simp only [nP] at b;unfold kP Bf;have f:=b [123,46,46] (by simp);have d:=b [123] (by simp);have l3:=b [91,46,46] (by simp);have g:=b [91] (by simp);rw [show ((0:Nat):Int)=0 from rfl] at f d l3 g;rw [f,d,l3,g];generalize Lib.join (I.map ib) [44]=w at k;have a:∀p q:aa,p.length<=10->q.length<=10->cat (p++w) q=some (p++w++q):=λp q hp i=>cb (by simp only [aL];omega);have c:∀p q r:aa,p.length<=10->q.length<=10->r.length<=10->cat (p++w++q) r=some (p++w++q++r):=λp q r hp i n=>cb (by simp only [aL];omega);rcases h with rfl | rfl
 ·rw [show ((3:Int)==4)=false from rfl];cases e<;>cases l<;>simp only [ah,af,ob,u10,u9,u8,u7,u6,u5,u4,u3,u2]
  ·simp only [show ((3:Int)==4)=false from rfl,show ((4:Int)==4)=true from rfl,ah,af];rw [a _ _ (by simp) (by simp)];simp [endC]
  ·rw [a _ _ (by simp) (by simp)];simp only [show ((3:Int)==4)=false from rfl,show ((4:Int)==4)=true from rfl,ah,af];rw [c _ _ _ (by simp) (by simp) (by simp)];simp [endC]
  ·simp only [show ((3:Int)==4)=false from rfl,show ((4:Int)==4)=true from rfl,ah,af];rw [a _ _ (by simp) (by simp)];simp [endC]
  ·rw [a _ _ (by simp) (by simp)];simp only [show ((3:Int)==4)=false from rfl,show ((4:Int)==4)=true from rfl,ah,af];rw [c _ _ _ (by simp) (by simp) (by simp)];simp [endC]
 ·rw [show ((4:Int)==4)=true from rfl];cases e<;>cases l<;>simp only [ah,af,ob,u10,u9,u8,u7,u6,u5,u4,u3,u2]
  ·simp only [show ((3:Int)==4)=false from rfl,show ((4:Int)==4)=true from rfl,ah,af];rw [a _ _ (by simp) (by simp)];simp [endC]
  ·rw [a _ _ (by simp) (by simp)];simp only [show ((3:Int)==4)=false from rfl,show ((4:Int)==4)=true from rfl,ah,af];rw [c _ _ _ (by simp) (by simp) (by simp)];simp [endC]
  ·simp only [show ((3:Int)==4)=false from rfl,show ((4:Int)==4)=true from rfl,ah,af];rw [a _ _ (by simp) (by simp)];simp [endC]
  ·rw [a _ _ (by simp) (by simp)];simp only [show ((3:Int)==4)=false from rfl,show ((4:Int)==4)=true from rfl,ah,af];rw [c _ _ _ (by simp) (by simp) (by simp)];simp [endC]
theorem Kw (n:Nat) (K:Int) (D:TD) (KF:Int) (DF:TD) (KT:Int) (DT:TD) (c:Nat) (e l:Bool) (L:List TI):jx n K D KF DF KT DT L.length c e l L=iK n K D KF DF KT DT e l L:=by
 unfold jx iK;rw [Mc]
theorem Ey (n N:Nat) (i K:Int) (D:TD) (KF:Int) (DF:TD) (KT:Int) (DT:TD) (c:Nat) (e l:Bool) (L:List TI) (ws:List (aa)):
  ar (fR n) N (L.length,c,len L,i,L,K,D,KF,DF,KT,DT,L.length,c,e,l,ws)=(ar (cn n) N (len L,i,L,K,D,KF,DF,KT,DT,e,l,ws)).map (u10 λb q k p o h g m d a=>(b,q,k,p,o,h,g,b.length,c,m,d,a)):=
 wn (s:=cn n) (s':=fR n) (u12 λr f b q k p o h g m d a=>(b.length,c,r,f,b,q,k,p,o,h,g,b.length,c,m,d,a)) _ (by
  rintro ⟨r,f,b,q,k,p,o,h,g,m,d,a⟩;unfold cn fR;simp only [u16,u15,u14,u13,u12,u11,u10,u9,u8,u7,u6,u5,u4,u3,u2];cases decide (f<r)
  ·rfl
  ·simp only [ah];cases ix b.length f with
   | none=>rfl
   | some i=>
    simp only [ob];cases b[i]? with
    | none=>rfl
    | some t=>
     simp only [ob];cases gC n (iF t) (d8 t).2.2.1 (d8 t).2.2.2 with
     | none=>rfl
     | some v=>
      simp only [ob];cases ix a.length f with
      | none=>rfl
      | some j=>
       simp only [ob];cases a[j]?<;>rfl) N (len L,i,L,K,D,KF,DF,KT,DT,e,l,ws)
theorem VI (n:Nat) (K:Int) (D:TD) (KF:Int) (DF:TD) (KT:Int) (DT:TD) (c:Nat) (e l:Bool) (L:List TI):mc n K D KF DF KT DT L.length c e l L=lJ n K D KF DF KT DT e l L:=by
 unfold mc lJ;rw [Kw,show ar (fR n) n (L.length,c,((L.length:Nat):Int),0,L,K,D,KF,DF,KT,DT,L.length,c,e,l,List.replicate (Int.toNat ((L.length:Nat):Int)) [])=_ from Ey n n 0 K D KF DF KT DT c e l L _];rw [show List.replicate (Int.toNat ((L.length:Nat):Int)) ([]:aa)=List.replicate (Int.toNat (len L)) [] from rfl];cases ar (cn n) n (len L,0,L,K,D,KF,DF,KT,DT,e,l,List.replicate (Int.toNat (len L)) []) with
 | none=>rfl
 | some y=>rfl
theorem Xy {c:UInt8} (h:mkOf c≠0):mt (mkOf c)=[c]:=by
 unfold mkOf at h ⊢;by_cases b:c=63
 ·subst b;rfl
 ·rw [ab b] at h ⊢;by_cases d:c=126
  ·subst d;rfl
  ·rw [ab d] at h ⊢;by_cases a:c=37
   ·subst a;rfl
   ·rw [ab a] at h;exact absurd rfl h
theorem RF (l:aa):l=mt (mkS l)++l.drop (mkN l):=by
 cases l with
 | nil=>rfl
 | cons c r=>
  unfold mkN;show c::r=mt (mkOf c)++_;by_cases h:mkOf c=0
  ·rw [ae (show mkS (c::r)=0 from h),h];rfl
  ·rw [ab (show ¬mkS (c::r)=0 from h),Xy h];rfl
theorem HT (S:aa) (p:Nat):S.drop p=mt (mkS (S.drop p))++S.drop (mkE S p):=by
 have:=RF (S.drop p);rw [iR] at this;exact this
theorem NJ (S:aa) (p:Nat):mkE S p=p+(mt (mkS (S.drop p))).length:=by
 unfold mkE mkN;have a:=DZ (S.drop p);generalize mkS (S.drop p)=k at *;rcases (by omega:k=0\/k=1\/k=2\/k=3) with rfl | rfl | rfl | rfl<;>rfl
theorem B8 {S:aa} {p:Nat} (h:¬twoN (S.drop p)<2):S.drop p=(S.drop p).take 2++S.drop (p+2)/\((S.drop p).take 2).length=2/\∀c∈(S.drop p).take 2,isDX c=true:=by
 have b:=vd h;have a:twoN (S.drop p)=2:=by
  have:twoN (S.drop p)<=2:=by
   unfold twoN;have:∀(k:Nat) (l:aa),bD isDX k l<=k:=by
    intro k
    induction k with
    | zero=>intro l;cases l<;>simp [bD]
    | succ k ih=>
     intro l;cases l with
     | nil=>simp [bD]
     | cons c r=>
      simp only [bD];split
      ·have:=ih r;omega
      ·omega
   exact this 2 _
  omega
 refine ⟨by rw [<-iR];exact (uo 2 _).symm,by simp;omega,?_⟩;have:=zq (p:=isDX) 2 (S.drop p);rw [show bD isDX 2 (S.drop p)=2 from a] at this;exact this
theorem yS {S:aa} {p:Nat} (h:¬ft 45 (S.drop p)=0):S.drop p=45::S.drop (p+1):=by
 cases a:S.drop p with
 | nil=>rw [a] at h;exact absurd rfl h
 | cons c r=>
  rw [a,kE] at h;by_cases hc:c=45
  ·subst hc;rw [<-iR,a];rfl
  ·rw [ab hc] at h;exact absurd rfl h
theorem uG {S:aa} {p k:Nat} {w:aa} (h:S.drop (mkE S p)=w++S.drop (mkE S p+k)):S.drop p=cw (mkS (S.drop p)) (mkS (S.drop (mkE S p+k))) w++S.drop (mkE S (mkE S p+k)):=by
 unfold cw;rw [iQ,iQ,<-HT,<-h,<-HT]
theorem JC {S:aa} {a:Nat} {g l:Bool} {dg:aa} {x s:Nat} {m d:aa} {M P:Nat×Nat×Nat} {e:Nat} (b:qp S a=.inr (g,l,dg,x,s,m,d,M,P,e)):
  ∃A B,MkD A B m d/\M=spM A B/\P.1=a+(mt A.1).length/\S.drop a=rawD A B g l dg (x:Int) (s:Int) m d++S.drop e:=by
 unfold qp at b;cases hy:pS (S.drop (mkE S a)) with
 | inl k=>rw [hy] at b;cases b
 | inr y=>
  obtain ⟨J,E,u,D,s',k⟩:=y;obtain ⟨G,O,_⟩:=qT hy;have F:S.drop (mkE S a)=gk J E u (D:Int) (s':Int)++S.drop (mkE S a+k):=by
   rw [<-G,<-iR];exact (uo k _).symm
  have w0:=uG F;have c:=λp=>DZ (S.drop p);rw [hy] at b;simp only [] at b;by_cases t:0<s'\/ft 45 (S.drop (mkE S (mkE S a+k)))=0
  ·rw [ae t] at b;simp only [om,bC] at b;obtain ⟨rfl,rfl,rfl,rfl,rfl,rfl,rfl,rfl,rfl,rfl⟩:=b;refine ⟨(mkS (S.drop a),0,0),(mkS (S.drop (mkE S a+k)),0,0),⟨c _,by simp,by simp,c _,by simp,by simp,λ_=>⟨rfl,rfl⟩,λ_=>⟨rfl,rfl⟩⟩,rfl,NJ S a,?_⟩;unfold rawD;simpa using w0
  ·rw [ab t] at b;have v:=yS (λh=>t (.inr h));unfold rd2 at b;simp only [] at b;generalize N:mkE S (mkE S a+k)=i at *;by_cases q:twoN (S.drop (mkE S (i+1)))<2
   ·rw [ae q] at b;cases b
   rw [ab q] at b;obtain ⟨C,w,Q⟩:=B8 q;have z:=uG C;have f:(S.drop (mkE S (i+1))).take 2≠[]:=λh=>by rw [h] at w;simp at w
   by_cases r:ft 45 (S.drop (mkE S (mkE S (i+1)+2)))=0
   ·rw [ae r] at b;simp only [om,bC] at b;obtain ⟨rfl,rfl,rfl,rfl,rfl,rfl,rfl,rfl,rfl,rfl⟩:=b;refine ⟨(mkS (S.drop a),mkS (S.drop (i+1)),0),(mkS (S.drop (mkE S a+k)),mkS (S.drop (mkE S (i+1)+2)),0),⟨c _,c _,by simp,c _,c _,by simp,λh=>absurd h f,λ_=>⟨rfl,rfl⟩⟩,rfl,NJ S a,?_⟩;unfold rawD;rw [ab f,ae rfl,nP,iQ,eI,<-z,<-v];exact w0
   ·rw [ab r] at b;have K:=yS r;unfold rd3 at b;generalize I:mkE S (mkE S (i+1)+2)=n at *;by_cases o:twoN (S.drop (mkE S (n+1)))<2
    ·rw [ae o] at b;cases b
    rw [ab o] at b;obtain ⟨H,u2,u3⟩:=B8 o;have L:=uG H;have j:(S.drop (mkE S (n+1))).take 2≠[]:=λh=>by rw [h] at u2;simp at u2
    simp only [om,bC] at b;obtain ⟨rfl,rfl,rfl,rfl,rfl,rfl,rfl,rfl,rfl,rfl⟩:=b;refine ⟨(mkS (S.drop a),mkS (S.drop (i+1)),mkS (S.drop (n+1))),(mkS (S.drop (mkE S a+k)),mkS (S.drop (mkE S (i+1)+2)),mkS (S.drop (mkE S (n+1)+2))),⟨c _,c _,c _,c _,c _,c _,λh=>absurd h f,λh=>absurd h j⟩,rfl,NJ S a,?_⟩;unfold rawD;rw [ab f,ab j,iQ,iQ,eI,eI,<-L,<-K,<-z,<-v];exact w0
def okC (c:UInt8):Bool:=isDX c||(isMk c||(c==45||(c==89||(c==69||c==83))))
def isLv (c:UInt8):Bool:=c==69||(c==83||isMk c)
theorem Ri:∀c:UInt8,(!okC c||decide (c.toNat<128))=true:=iS (λc=>!okC c||decide (c.toNat<128)) (by decide +kernel)
theorem Ut {c:UInt8} (h:okC c=true):c.toNat<128:=by
 have:=Ri c;rw [h] at this;simpa using this
def dgC (c:UInt8):UInt8:=if bv c then 100 else c
theorem UI:∀c:UInt8,(!decide (c.toNat<128)||(decide (0<=o6 (c.toNat:Int))&&(Lib.encodeRune (o6 (c.toNat:Int))==[dgC c])))=true:=
 iS (λc=>!decide (c.toNat<128)||(decide (0<=o6 (c.toNat:Int))&&(Lib.encodeRune (o6 (c.toNat:Int))==[dgC c]))) (by decide +kernel)
theorem Ig:∀{l:aa},(∀c∈l,c.toNat<128)->zu l=l.map dgC:=by
 have a:∀(n:Nat) (l:aa),l.length=n->(∀c∈l,c.toNat<128)->Lib.mapGoD o6 n l=l.map dgC:=by
  intro n
  induction n with
  | zero=>intro l b _;rw [wG b];rfl
  | succ n ih=>
   intro l b h;cases l with
   | nil=>simp at b
   | cons c r=>
    have e:Lib.decodeL (c::r)=(c.toNat,1):=BD (l:=c::r) (i:=0) rfl (h c pC);rw [Lib.mapGoD,ab (by simp),e];have:=UI c;rw [am (h c pC)] at this;simp only [co,o8,az,cj,bI] at this;rw [ae this.1,this.2];rw [show (c::r).drop 1=r from rfl,ih r (by simpa using b) (λd e=>h d (gy _ e))];rfl
 intro l h;exact a l.length l rfl h
theorem xy (s a:aa):Lib.containsAny s a=s.any (a.contains ·):=by
 induction s with
 | nil=>rfl
 | cons b l ih=>
  unfold Lib.containsAny at ih ⊢;have d:=Lib.indexAny_ge a l;rw [Lib.indexAny,qE];cases c:a.contains b
  ·rw [ab (by simp),o8,<-ih];by_cases h:Lib.indexAny l a=-1
   ·rw [ae (by simp [h]),h]
   ·rw [ab (by simp [h])];congr 1;exact propext (by omega)
  ·simp
def vz (u:aa):aa:=match u with | c::r=>if c=45 then r else c::r | []=>[]
def jS:List (aa):=[[100,100,100,88],[100,100,88,88],[100,100,100,100,45,88,88],[100,100,100,100,45,100,100,45,88,88],[100,100,100,100,45,88,88,45,88,88]]
def simB (v:aa):Bool:=jS.contains (v.map dgC)
theorem PH (n:Nat) (u:aa):jg n u=some (vz u):=by
 unfold jg fW fc vz;cases u with
 | nil=>rfl
 | cons c r=>
  have a:bx (c::r).length (1:Int)=some 1:=dY (i:=1) (by simp);rw [am (show (((c::r).length:Nat):Int)>=1 by rw [aC];omega),ah,a];simp only [ob,nF,mH,cM];by_cases hc:c=45
  ·subst hc;rw [ae rfl];simp
  ·rw [ab hc,show (([c]:aa)==[45])=false from by simp [hc]];rfl
theorem X3 (n:Nat) (u:aa):cO n u=some (decide (u.head?=some 89)):=by
 unfold cO fj;cases u with
 | nil=>rfl
 | cons c r=>
  have a:bx (c::r).length (1:Int)=some 1:=dY (i:=1) (by simp);rw [am (show (((c::r).length:Nat):Int)>=1 by rw [aC];omega),ah,a];simp only [ob,nF,mH,cM,qZ,au];rw [show (([c]:aa)==[89])=decide (c=89) from by rw [tN];simp]
theorem yN (v:aa):dj 20000000 v jS=some (jS.contains v):=by
 have f:∀(r i:Nat),i+r=5->∀N,r<N->ar (bn 20000000) N (v,5,(i:Int),jS)=some (if (jS.drop i).contains v then .inl ((i+(jS.drop i).idxOf v:Nat):Int) else .inr ()):=by
  intro r
  induction r with
  | zero=>
   intro i hi N c;obtain ⟨N,rfl⟩:∃k,N=k+1:=⟨N - 1,by omega⟩;obtain rfl:i=5:=by omega
   rw [ar];rfl
  | succ r ih=>
   intro i hi N c;obtain ⟨N,rfl⟩:∃k,N=k+1:=⟨N - 1,by omega⟩;have a:i<jS.length:=by show i<5;omega
   have d:=be a;have:bn 20000000 (v,5,(i:Int),jS)=some (if v=jS[i] then .inr (.inl (i:Int)) else .inl (v,5,((i+1:Nat):Int),jS)):=by
    unfold bn;simp only [];rw [am (show (i:Int)<5 by omega),ah,dl a];simp only [ob,d];rw [show IntKind.wrap .i64 ((i:Int)+1)=((i+1:Nat):Int) from pH (by omega),kl];split<;>rfl
   rw [ar,this,sj a];by_cases b:v=jS[i]
   ·rw [ae b];simp only [];rw [<-b];simp
   ·rw [ab b];simp only [];rw [ih (i+1) (by omega) N (by omega)];have g:(jS[i]==v)=false:=by simp;exact λh=>b h.symm
    have e:(v==jS[i])=false:=by simp;exact b
    rw [List.contains_cons,e,o8,List.idxOf_cons,g];simp only [af];rw [show i+1+List.idxOf v (List.drop (i+1) jS)=i+(List.idxOf v (List.drop (i+1) jS)+1) by omega]
 have:=f 5 0 rfl 20000000 (by omega);unfold dj e7;rw [show ar (bn 20000000) 20000000 (v,(((List.length jS):Nat):Int),0,jS)=_ from this];rw [cM];cases h:jS.contains v
 ·rfl
 ·simp only [aJ,ob];rw [am (by omega)]
def lvl (u:aa) (b X:Bool) (code:Int):Int:=
 if u.any isLv then 2 else if 24<code then 2 else if (X&&!simB (vz u))=true then 2
 else if b=true\/X=true\/0<code\/u.head?=some 45\/u.head?=some 89 then 1 else 0
structure Body (T u:aa) (k:Nat):Prop where
 eq:T=u++mt k
 k4:k<4
 last:∃v z,u=v++[z]/\isMk z=false
 asc:∀c∈T,c.toNat<128
 len:T.length<=1000
theorem Body.ne {T u:aa} {k:Nat} (h:Body T u k):u≠[]:=by
 obtain ⟨v,z,rfl,_⟩:=h.last;simp
theorem Body.ascu {T u:aa} {k:Nat} (h:Body T u k):∀c∈u,c.toNat<128:=λc hc=>h.asc c (by rw [h.eq];exact List.mem_append_left _ hc)
theorem Body.lenu {T u:aa} {k:Nat} (h:Body T u k):u.length<=1000:=by
 have:=h.len;rw [h.eq,aL] at this;omega
theorem Qz (c:UInt8):([63,126,37]:aa).contains c=isMk c:=by
 have:=iS (λc=>([63,126,37]:aa).contains c==isMk c) (by decide +kernel) c;simpa using this
theorem XW {k:Nat} (h:k<4):∀c∈mt k,isMk c=true/\c≠69/\c≠83/\c≠88:=by
 rcases (by omega:k=0\/k=1\/k=2\/k=3) with rfl | rfl | rfl | rfl<;>simp [mt,isMk,mkOf]
theorem Kz {p:UInt8->Bool}:∀{l:aa},(∀c∈l,p c=true)->l.dropWhile p=[]
 | [],_=>rfl
 | c::l,h=>by rw [List.dropWhile_cons,h c pC];exact Kz λd a=>h d (gy _ a)
theorem wP {T u:aa} {k:Nat} (h:Body T u k):Lib.trimRightS T [63,126,37]=u:=by
 obtain ⟨v,z,rfl,b⟩:=h.last;unfold Lib.trimRightS;rw [h.eq,List.reverse_append,List.reverse_append];have:List.dropWhile (λx=>([63,126,37]:aa).contains x) ((mt k).reverse++([z].reverse++v.reverse))=[z].reverse++v.reverse:=by
  rw [List.dropWhile_append];have a:List.dropWhile (λx=>([63,126,37]:aa).contains x) (mt k).reverse=[]:=by
   refine Kz λc hc=>?_;rw [Qz];exact (XW h.k4 c (Fh.1 hc)).1
  rw [a];simp only [List.isEmpty_nil,aJ,List.reverse_singleton,List.singleton_append];rw [List.dropWhile_cons,Qz,b];simp
 rw [this];simp
theorem U7 (c:UInt8):([63,126,37,69,83]:aa).contains c=isLv c:=by
 have:=iS (λc=>([63,126,37,69,83]:aa).contains c==isLv c) (by decide +kernel) c;simpa using this
theorem PY (u:aa):(u==vz u)=!decide (u.head?=some 45):=by
 unfold vz;cases u with
 | nil=>rfl
 | cons c r=>
  simp only [qZ,au];by_cases hc:c=45
  ·subst hc;rw [ae rfl,am rfl];simp only [co,aM,ne_eq];intro h;have:=ch List.length h;simp at this
  ·rw [ab hc,aq hc];simp
theorem M1 (u:aa):(vz u).length<=u.length:=by
 unfold vz;split
 ·split<;>simp
 ·simp
theorem Le {u:aa}:∀c∈vz u,c∈u:=by
 unfold vz;split
 ·split
  ·intro c hc;exact gy _ hc
  ·intro c hc;exact hc
 ·intro c hc;exact hc
theorem Fo {T u:aa} {k:Nat} (h:Body T u k):(u==T)=decide (k=0):=by
 rw [h.eq];rcases (by have:=h.k4;omega:k=0\/k=1\/k=2\/k=3) with rfl | rfl | rfl | rfl
 ·simp [mt]
 all_goals
  rw [show decide _=false from rfl,aM];intro e;have:=ch List.length e;simp [mt] at this
theorem Yn {T u:aa} {k:Nat} (h:Body T u k) {x:TD} (hs:smT x):lD 20000000 T x=some (lvl u (decide (k≠0)) (hasX x.2.2.1||(hasX x.2.2.2.2.2.1||hasX x.2.2.2.2.2.2.1)) (seT x)):=by
 have j:ap10 (bN 20000000) x=some (seT x,decide (0<seT x)):=qz 20000000 _ _ _ _ _ _ _ _ _ _ hs.1;have n:=h.len;have m:=h.lenu;have f:=M1 u;have g:wm T [63,126,37]=true:=by
  unfold wm;rw [cZ (by omega)];rfl
 have i:AB (vz u)=true:=cZ (by omega);have l:wF u [63,126,37,69,83]=true:=by
  unfold wF;rw [cZ (show u.length<=4294967280 by omega)];have:JW u=true:=cL.2 λc hc=>cZ (h.ascu c hc);rw [this];rfl
 unfold lD;rw [j,fmT hs];simp only [ob,u2,g,ah,wP h,PH,i,l,Ig (λc hc=>h.ascu c (Le c hc)),xy,U7,X3];rw [show ([[100,100,100,88],[100,100,88,88],[100,100,100,100,45,88,88],[100,100,100,100,45,100,100,45,88,88],[100,100,100,100,45,88,88,45,88,88]]:List (aa))=jS from rfl,yN];simp only [PY,Fo h,Bool.not_not];unfold lvl simB;rw [show (List.any u λx=>isLv x)=u.any isLv from rfl];generalize (hasX x.2.2.1||(hasX x.2.2.2.2.2.1||hasX x.2.2.2.2.2.2.1))=X;generalize jS.contains ((vz u).map dgC)=F;cases u.any isLv
 ·simp only [af,br,aA];by_cases b:24<seT x
  ·rw [ae b,am (show 0<seT x by omega),am (show seT x>=25 by omega)];rfl
  ·rw [ab b,aq (show ¬seT x>=25 by omega)];have a:(cond (decide (u.head?=some 45)) (some (1:Int)) (cond (decide (u.head?=some 89)) (some 1) (cond (!decide (k=0)) (some 1) (cond (decide (0<seT x)) (some 1) (cond X (some 1) (some 0))))))=some (if decide (k≠0)=true\/X=true\/0<seT x\/u.head?=some 45\/u.head?=some 89 then 1 else 0):=by
    by_cases a1:u.head?=some 45
    ·rw [am a1,ae (by simp [a1])];rfl
    rw [aq a1];by_cases a2:u.head?=some 89
    ·rw [am a2,ae (by simp [a2])];rfl
    rw [aq a2];by_cases e:k=0
    ·rw [am e];by_cases d:0<seT x
     ·rw [am d,ae (by simp [d])];rfl
     rw [aq d];cases X
     ·rw [ab (by simp [a1,a2,e,d])];rfl
     ·rw [ae (by simp)];rfl
    ·rw [aq e,ae (by simp [e])];rfl
   cases X
   ·simp only [af,xF,br,aA];simp only [af,br] at a;rw [<-a];cases decide (0<seT x)<;>rfl
   ·cases F
    ·cases decide (0<seT x)<;>rfl
    ·simp only [ah,co,af,wg,br,aA];simp only [ah] at a;rw [<-a];cases decide (0<seT x)<;>rfl
 ·rfl
def B7:aa->Int->Int->Option (Int×Int)
 | [],x,m=>some (x,m)
 | c::r,x,m=>if c=69\/c=83\/(isMk c=true/\r≠[]) then none else B7 r (if c=88 then 1 else x) (if isMk c=true then 1 else m)
theorem X4 (c:UInt8):dO 20000000 ((c.toNat:Nat):Int)=some ((mkOf c:Nat):Int):=(ET 19999700 c).2
theorem Qk (c:UInt8):decide (((mkOf c:Nat):Int)>0)=isMk c:=by
 unfold isMk;by_cases h:0<mkOf c
 ·rw [am h,am (by omega)]
 ·rw [aq h,aq (by omega)]
theorem K9 {T:aa} (u:T.length<=1000) (x:TD):∀(r i:Nat) (a m:Int),i+r=T.length->∀N,r<N->
  ar (cU 20000000) N (T,a,m,(i:Int),x)=some (match B7 (T.drop i) a m with | some p=>.inr (T,p.1,p.2,x) | none=>.inl 2):=by
 intro r
 induction r with
 | zero=>
  intro i a m hi N s;obtain ⟨N,rfl⟩:∃k,N=k+1:=⟨N - 1,by omega⟩;obtain rfl:i=T.length:=by omega
  have:cU 20000000 (T,a,m,((T.length:Nat):Int),x)=some (.inr (.inr (T,a,m,x))):=by
   unfold cU;simp only [u5,u4,u3,u2];rw [aq (show ¬((T.length:Nat):Int)<len T by show ¬((T.length:Nat):Int)<((T.length:Nat):Int);omega)];rfl
  rw [ar,this,vt];rfl
 | succ r ih=>
  intro i a m hi N s;obtain ⟨N,rfl⟩:∃k,N=k+1:=⟨N - 1,by omega⟩;have d:i<T.length:=by omega
  have o:T[i]?=some T[i]:=be d;rw [ar,sj d,B7];generalize T[i]=c at o ⊢;have n:T.drop (i+1)≠[]↔i+1<T.length:=by
   rw [ne_eq,List.drop_eq_nil_iff];omega
  have l:(((c.toNat:Nat):Int)==69)=decide (c=69):=kM c 69 (by decide);have j:(((c.toNat:Nat):Int)==83)=decide (c=83):=kM c 83 (by decide);have g:(((c.toNat:Nat):Int)==88)=decide (c=88):=kM c 88 (by decide);have t:w64 (len T - 1)=((T.length - 1:Nat):Int):=FL (by omega) (by omega);have:cU 20000000 (T,a,m,(i:Int),x)=some (if c=69\/c=83\/(isMk c=true/\T.drop (i+1)≠[]) then .inr (.inl 2) else .inl (T,(if c=88 then 1 else a),(if isMk c=true then 1 else m),((i+1:Nat):Int),x)):=by
   unfold cU;simp only [u5,u4,u3,u2];rw [am (show (i:Int)<len T by show (i:Int)<((T.length:Nat):Int);omega)];simp only [ah,ob,dL o,l,j,g,X4,Qk,t];rw [pH (by omega)];by_cases e:c=69
   ·rw [am e,ae (.inl e)];rfl
   rw [aq e];by_cases f:c=83
   ·rw [am f,ae (.inr (.inl f))];rfl
   rw [aq f];simp only [af];cases v:isMk c
   ·rw [ab (by simp [e,f])];simp only [af,br,aA];by_cases b:c=88
    ·rw [am b,ae b];rfl
    ·rw [aq b,ab b];rfl
   ·simp only [ah,aJ];by_cases q:i+1<T.length
    ·rw [am (show (i:Int)<((T.length - 1:Nat):Int) by omega),ae (.inr (.inr ⟨trivial,n.2 q⟩))];rfl
    ·rw [aq (show ¬(i:Int)<((T.length - 1:Nat):Int) by omega),ab (by
      rintro (h | h | ⟨_,h⟩)
      ·exact e h
      ·exact f h
      ·exact q (n.1 h))]
     by_cases b:c=88
     ·rw [am b,ae b];rfl
     ·rw [aq b,ab b];rfl
  rw [this];by_cases hc:c=69\/c=83\/(isMk c=true/\T.drop (i+1)≠[])
  ·rw [ae hc,ae hc]
  ·rw [ab hc,ab hc];exact ih (i+1) _ _ (by omega) N (by omega)
theorem DC:∀(v:aa) (w:aa) (a:Int),w≠[]->B7 (v++w) a 0=if v.any isLv then none else B7 w (if v.any (·==88) then 1 else a) 0
 | [],w,a,_=>by simp
 | c::v,w,a,d=>by
  rw [eI,B7,qE,qE];have f:v++w≠[]:=by
   intro h;exact d (List.append_eq_nil_iff.1 h).2
  by_cases hc:isLv c=true
  ·have:c=69\/c=83\/(isMk c=true/\v++w≠[]):=by
    unfold isLv at hc;simp only [iO,bI] at hc;rcases hc with h | h | h
    ·exact .inl h
    ·exact .inr (.inl h)
    ·exact .inr (.inr ⟨h,f⟩)
   rw [ae this,hc];simp
  ·have hc':isLv c=false:=by simpa using hc
   have e:c≠69/\c≠83/\isMk c=false:=by
    unfold isLv at hc';simp only [oV,aM] at hc';exact hc'
   rw [ab (by rintro (h | h | ⟨h,_⟩)<;>simp_all),e.2.2,hc'];simp only [br,aA,o8];rw [DC v w _ d];by_cases b:c=88
   ·subst b;simp
   ·rw [ab b,show (c==88)=false from by simp [b],o8]
theorem Wu {T u:aa} {k:Nat} (h:Body T u k):B7 T 0 0=if u.any isLv then none else some (if u.any (·==88) then 1 else 0,if k=0 then 0 else 1):=by
 obtain ⟨v,z,rfl,d⟩:=h.last;rw [h.eq,iQ,DC v _ 0 (by simp)];rw [sy,sy];cases v.any isLv
 ·simp only [br,aA,o8,qE,List.any_nil,wV,List.singleton_append];rw [B7,d];by_cases a:z=69
  ·subst a;simp [isLv]
  by_cases b:z=83
  ·subst b;simp [isLv]
  have e:isLv z=false:=by unfold isLv;rw [d];simp [a,b]
  rw [ab (by simp [a,b]),e];simp only [br,aA];have hx:(if z=88 then (1:Int) else if (v.any λx=>x==88)=true then 1 else 0)=if ((v.any λx=>x==88)||z==88)=true then 1 else 0:=by
   by_cases c:z=88
   ·subst c;simp
   ·rw [ab c,show (z==88)=false from by simp [c],wV]
  rw [hx];rcases (by have:=h.k4;omega:k=0\/k=1\/k=2\/k=3) with rfl | rfl | rfl | rfl<;>rfl
 ·simp
theorem xX (f:aa) (v:∀c∈f,c=100\/c=88\/c=45) (w:f.length<=1000) (t:aa):aT 20000000 t f=some (if t.map dgC=f then 1 else 0):=by
 unfold aT;rw [show (len t != len f)=!decide (t.length=f.length) from ch _ (natB _ _)];by_cases m:t.length=f.length
 case neg=>
  rw [aq m,ab (λh=>m (by rw [<-h];simp))];rfl
 rw [am m];have loop:∀(r i:Nat),i+r=t.length->∀N,r<N->ar (dH 20000000) N (t,f,(i:Int))=some (if (t.drop i).map dgC=f.drop i then .inr () else .inl 0):=by
  intro r
  induction r with
  | zero=>
   intro i hi N u;obtain ⟨N,rfl⟩:∃k,N=k+1:=⟨N - 1,by omega⟩;obtain rfl:i=t.length:=by omega
   have:dH 20000000 (t,f,((t.length:Nat):Int))=some (.inr (.inr ())):=by
    unfold dH;simp only [u3,u2];rw [aq (show ¬((t.length:Nat):Int)<len t by show ¬((t.length:Nat):Int)<((t.length:Nat):Int);omega)];rfl
   rw [ar,this,vt,m,vt];rfl
  | succ r ih=>
   intro i hi N u;obtain ⟨N,rfl⟩:∃k,N=k+1:=⟨N - 1,by omega⟩;have j:i<t.length:=by omega
   have g:i<f.length:=by omega
   have s:t[i]?=some t[i]:=be j;have o:f[i]?=some f[i]:=be g;have p:=v _ (Hq g);rw [ar,sj j,sj g,fX];generalize t[i]=c at s ⊢;generalize f[i]=d at o p ⊢;have a:(dgC c=d)↔(c=d\/(d=100/\bv c=true)):=by
    unfold dgC;by_cases h:bv c=true
    ·rw [ae h];constructor
     ·intro e;exact .inr ⟨e.symm,h⟩
     ·rintro (e | ⟨e,_⟩)
      ·subst e;rcases p with rfl | rfl | rfl
       ·rfl
       ·exact absurd h (by decide)
       ·exact absurd h (by decide)
      ·exact e.symm
    ·rw [ab h];constructor
     ·intro e;exact .inl e
     ·rintro (e | ⟨_,e⟩)
      ·exact e
      ·exact absurd e h
   have b:bv c=(decide (48<=c.toNat)&&decide (c.toNat<=57)):=by
    have:=iS (λc=>bv c==(decide (48<=c.toNat)&&decide (c.toNat<=57))) (by decide +kernel) c;simpa using this
   have:dH 20000000 (t,f,(i:Int))=some (if dgC c=d then .inl (t,f,((i+1:Nat):Int)) else .inr (.inl 0)):=by
    unfold dH;simp only [u3,u2];rw [am (show (i:Int)<len t by show (i:Int)<((t.length:Nat):Int);omega)];simp only [ah,ob,dL s,dL o];rw [pH (by omega),show (((c.toNat:Nat):Int) != ((d.toNat:Nat):Int))=!(c==d) from ch _ (nE c d),show (((d.toNat:Nat):Int)==100)=decide (d=100) from kM d 100 (by decide)];by_cases e:c=d
    ·rw [ae (a.2 (.inl e)),show (c==d)=true from by simp [e]];rfl
    ·rw [show (c==d)=false from by simp [e]];by_cases l:d=100
     ·rw [am l];simp only [ij,ah];by_cases q:48<=c.toNat
      ·rw [am (show ((c.toNat:Nat):Int)>=48 by omega)];by_cases n:c.toNat<=57
       ·rw [am (show ((c.toNat:Nat):Int)<=57 by omega),ae (a.2 (.inr ⟨l,by rw [b];simp [q,n]⟩))];rfl
       ·rw [aq (show ¬((c.toNat:Nat):Int)<=57 by omega),ab (λh=>by
         rcases a.1 h with h | ⟨_,h⟩
         ·exact e h
         ·rw [b] at h;simp [n] at h)];rfl
      ·rw [aq (show ¬((c.toNat:Nat):Int)>=48 by omega),ab (λh=>by
        rcases a.1 h with h | ⟨_,h⟩
        ·exact e h
        ·rw [b] at h;simp [q] at h)];rfl
     ·rw [aq l,ab (λh=>by
       rcases a.1 h with h | ⟨h,_⟩
       ·exact e h
       ·exact l h)];rfl
   rw [this];by_cases e:dgC c=d
   ·rw [ae e];simp only [];rw [ih (i+1) (by omega) N (by omega),e];simp
   ·rw [ab e,ab (λh=>e (List.cons.inj h).1)]
 have:=loop t.length 0 (by omega) 20000000 (by omega);rw [show ((0:Nat):Int)=0 from rfl,cM,cM] at this;rw [this];split<;>rfl
theorem Jw (t:aa):(w64 ((w64 ((w64 ((w64 ((if t.map dgC=[100,100,100,88] then (1:Int) else 0)+(if t.map dgC=[100,100,88,88] then (1:Int) else 0)))+(if t.map dgC=[100,100,100,100,45,88,88] then (1:Int) else 0)))+(if t.map dgC=[100,100,100,100,45,100,100,45,88,88] then (1:Int) else 0)))+(if t.map dgC=[100,100,100,100,45,88,88,45,88,88] then (1:Int) else 0))==0)=!simB t:=by
 unfold simB jS;simp only [List.contains_cons,List.contains_nil,wV];have e:∀f:aa,(t.map dgC=f)=((t.map dgC==f)=true):=λf=>by simp
 simp only [e];generalize (t.map dgC==[100,100,100,88])=z1;generalize (t.map dgC==[100,100,88,88])=z2;generalize (t.map dgC==[100,100,100,100,45,88,88])=b;generalize (t.map dgC==[100,100,100,100,45,100,100,45,88,88])=a;generalize (t.map dgC==[100,100,100,100,45,88,88,45,88,88])=c;cases z1<;>cases z2<;>cases b<;>cases a<;>cases c<;>rfl
theorem Vt (t:aa):aT 20000000 t [100,100,100,88]=some (if t.map dgC=[100,100,100,88] then 1 else 0):=xX _ (by decide) (by decide) t
theorem VB (t:aa):aT 20000000 t [100,100,88,88]=some (if t.map dgC=[100,100,88,88] then 1 else 0):=xX _ (by decide) (by decide) t
theorem U2 (t:aa):aT 20000000 t [100,100,100,100,45,88,88]=some (if t.map dgC=[100,100,100,100,45,88,88] then 1 else 0):=xX _ (by decide) (by decide) t
theorem WY (t:aa):aT 20000000 t [100,100,100,100,45,100,100,45,88,88]=some (if t.map dgC=[100,100,100,100,45,100,100,45,88,88] then 1 else 0):=xX _ (by decide) (by decide) t
theorem Vq (t:aa):aT 20000000 t [100,100,100,100,45,88,88,45,88,88]=some (if t.map dgC=[100,100,100,100,45,88,88,45,88,88] then 1 else 0):=xX _ (by decide) (by decide) t
theorem Sj {T u:aa} {k:Nat} (h:Body T u k) {g l:Bool} {dg:aa} {e q:Nat} {m d:aa} {M P:Nat×Nat×Nat} {p:Nat} (F:qp T 0=.inr (g,l,dg,e,q,m,d,M,P,p)):
  eJ 20000000 T=some (lvl u (decide (k≠0)) (u.any (·==88)) (sea m)):=by
 have H:=h.len;obtain ⟨Q,_,C⟩:=wi 19999700 T 0 (by omega) (by omega) (by omega);rw [show 19999700+300=20000000 from rfl,F,show ((0:Nat):Int)=0 from rfl] at C;have n:=K9 H (g,l,dg,(e:Int),(q:Int),m,d,(M.1:Int),(M.2.1:Int),(M.2.2:Int)) T.length 0 0 0 (by omega) 20000000 (by omega);rw [show ((0:Nat):Int)=0 from rfl,cM,Wu h] at n;unfold eJ;rw [C];simp only [ob,RE];rw [show ar (cU 20000000) 20000000 (T,0,0,0,iF (g,l,dg,(e:Int),(q:Int),m,d,(M.1:Int),(M.2.1:Int),(M.2.2:Int),Q,T,(p:Int),(0:Int)))=_ from n];have y:∃c r,u=c::r:=by
  cases f:u with
  | nil=>exact absurd f h.ne
  | cons c r=>exact ⟨c,r,rfl⟩
 have B:ap10 (aQ 20000000) (iF (g,l,dg,(e:Int),(q:Int),m,d,(M.1:Int),(M.2.1:Int),(M.2.2:Int),Q,T,(p:Int),(0:Int)))=some (sea m):=rsT _;unfold lvl;cases u.any isLv
 case true=>rfl
 simp only [br,aA,obs,sm,ob,u4,u3,u2];rw [B];simp only [ob];by_cases b:24<sea m
 ·rw [ae b,show decide (sea m>24)=true from am b];rfl
 rw [ab b,show decide (sea m>24)=false from aq b,af];have J:=h.k4;have j:=ch List.length h.eq;rw [aL] at j;have s:bx (List.length T) (w64 ((len T) - (if k=0 then (0:Int) else 1)))=some u.length:=by
  have:w64 ((len T) - (if k=0 then (0:Int) else 1))=((u.length:Nat):Int):=by
   have G:len T=((T.length:Nat):Int):=rfl;rw [G,j];show IntKind.wrap .i64 _=_;rw [wrap_i64 _ (by split<;>omega) (by split<;>omega)];rcases (by omega:k=0\/k=1\/k=2\/k=3) with rfl | rfl | rfl | rfl<;>simp [mt]
  rw [this,dY (by omega)]
 have w:List.take u.length T=u:=by rw [h.eq,FZ]
 rw [s];simp only [cM,w];obtain ⟨c,r,f⟩:=y;have z:sx u (0:Int)=some c:=by rw [f];rfl
 have A:sx T (0:Int)=some c:=by rw [h.eq,f];rfl
 have t:vz u=if c=45 then r else u:=by rw [f];rfl
 have I:u.head?=some c:=by rw [f];rfl
 have b1:bx u.length (1:Int)=some 1:=dY (i:=1) (by rw [f];simp);have v:List.drop 1 (List.take u.length u)=r:=by rw [nQ,f];rfl
 rw [z,A,b1];simp only [v,ob,Vt,VB,U2,WY,Vq,Jw];rw [show (((c.toNat:Nat):Int)==45)=decide (c=45) from kM c 45 (by decide),show (((c.toNat:Nat):Int)==89)=decide (c=89) from kM c 89 (by decide),I];have a:(cond ((if (u.any λx=>x==88)=true then (1:Int) else 0)==1) (some (1:Int)) (cond ((if k=0 then (0:Int) else 1)==1) (some 1) (cond (decide (sea m>0)) (some 1) (cond (decide (c=45)) (some 1) (cond (decide (c=89)) (some 1) (some 0)))))) =
   some (if decide (k≠0)=true\/(u.any λx=>x==88)=true\/0<sea m\/some c=some 45\/some c=some 89 then 1 else 0):=by
  cases (u.any λx=>x==88)
  ·by_cases a1:k=0
   ·by_cases a2:0<sea m
    ·simp [a1,a2]
    ·by_cases E:c=45
     ·simp [a1,a2,E]
     ·by_cases D:c=89
      ·simp [a1,a2,D]
      ·simp [a1,a2,E,D]
   ·simp [a1]
  ·simp
 by_cases hc:c=45
 ·rw [am hc,ah];rw [t,ae hc];rw [am hc] at a;cases o:(u.any λx=>x==88)
  ·rw [o] at a;simp only [xF,br,aA,show ((0:Int)==1)=false from rfl,af] at a ⊢;exact a
  ·rw [o] at a;cases K:simB r
   ·simp
   ·simp only [aJ,show ((1:Int)==1)=true from rfl,ah,af,co,wg,br,aA] at a ⊢;exact a
 ·rw [aq hc,af];rw [t,ab hc];rw [aq hc] at a;cases o:(u.any λx=>x==88)
  ·rw [o] at a;simp only [xF,br,aA,show ((0:Int)==1)=false from rfl,af] at a ⊢;exact a
  ·rw [o] at a;cases K:simB u
   ·simp
   ·simp only [aJ,show ((1:Int)==1)=true from rfl,ah,af,co,wg,br,aA] at a ⊢;exact a
theorem qe {k:Nat} (h:k<4):(mt k).all okC=true:=by
 rcases (by omega:k=0\/k=1\/k=2\/k=3) with rfl | rfl | rfl | rfl<;>decide
theorem x_mk {k:Nat} (h:k<4):(mt k).any (·==88)=false:=by
 rcases (by omega:k=0\/k=1\/k=2\/k=3) with rfl | rfl | rfl | rfl<;>decide
theorem U1:((List.range 100).all λk=>(Lib.decDigits k).all λc=>okC c&&(!isMk c&&!(c==88)))=true:=by decide +kernel
theorem D5 {k:Nat} (h:k<100) {letter:UInt8} (a:letter=69\/letter=83):(ee letter k).all (λc=>okC c&&(!isMk c&&!(c==88)))=true:=by
 unfold ee;split
 ·rw [mK,(cL.1 U1) k (kR.2 h)];rcases a with rfl | rfl<;>decide
 ·rfl
theorem LA {c:UInt8} (h:isDX c=true):okC c=true:=by unfold okC;rw [h];rfl
theorem FA {g l:Bool} {dg:aa} {x q:Nat} (h:okY g l dg (x:Int) (q:Int)):gk g l dg (x:Int) (q:Int)≠[]/\(∀c∈gk g l dg (x:Int) (q:Int),okC c=true/\isMk c=false)/\(gk g l dg (x:Int) (q:Int)).any (·==88)=hasX dg:=by
 obtain ⟨n,k,o,m,f,p⟩:=kb h;have hx:x<100:=by omega
 have e:q<100:=by omega
 have b:=D5 hx (letter:=69) (.inl rfl);have d:=D5 e (letter:=83) (.inr rfl);have a:=JY h;have i:dg≠[]:=by
  rintro rfl;simp at f
 rw [kw];refine ⟨by cases l<;>cases g<;>simp [i],λc hc=>?_,?_⟩
 ·simp only [n7,or_assoc] at hc;rcases hc with hc | hc | hc | hc | hc
  ·cases l
   ·cases hc
   ·rw [yC.1 hc];decide
  ·cases g
   ·cases hc
   ·rw [yC.1 hc];decide
  ·exact ⟨LA (a c hc),IR (a c hc)⟩
  ·have:=(cL.1 b) c hc;simp only [az,kW] at this;exact ⟨this.1,this.2.1⟩
  ·have:=(cL.1 d) c hc;simp only [az,kW] at this;exact ⟨this.1,this.2.1⟩
 ·have no:∀w:aa,w.all (λc=>okC c&&(!isMk c&&!(c==88)))=true->w.any (·==88)=false:=by
   intro w j;rw [sc];intro c hc;have:=(cL.1 j) c hc;simp only [az,kW] at this;rw [this.2.2];simp
  simp only [sy,no _ b,no _ d,wV];unfold hasX;cases l<;>cases g<;>simp
theorem FM {w:aa} (h:w≠[]) (b:∀c∈w,isMk c=false) (v:aa):∃a z,v++w=a++[z]/\isMk z=false:=
 ⟨v++w.dropLast,w.getLast h,by rw [iQ,List.dropLast_concat_getLast],b _ (List.getLast_mem h)⟩
theorem Gt {A B:Nat×Nat×Nat} {g l:Bool} {dg:aa} {x q:Nat} {m d:aa} (hs:ShD g l dg x q m d) (L:MkD A B m d):
  ∃u k,Body (rawD A B g l dg (x:Int) (q:Int) m d) u k/\u.any (·==88)=(hasX dg||(hasX m||hasX d))/\(u.any isLv=false->A=(0,0,0)/\(m≠[]->B.1=0)/\(d≠[]->B.2.1=0))/\k=(if m=[] then B.1 else if d=[] then B.2.1 else B.2.2):=by
 obtain ⟨U,F,D⟩:=FA hs.yr;have yl:=uf hs.yr;obtain ⟨j,o,y⟩:=A;obtain ⟨i,r,H⟩:=B;obtain ⟨a0,a1,a2,b0,b1,b2,zm,zd⟩:=L;simp only at a0 a1 a2 b0 b1 b2 zm zd;unfold rawD cw;simp only;generalize gk g l dg (x:Int) (q:Int)=Y at *;have b:∀w:aa,w.all okC=true->∀c∈w,c.toNat<128:=λw P c hc=>Ut ((cL.1 P) c hc);have v:Y.all okC=true:=cL.2 λc hc=>(F c hc).1;have f:∀k,k<4->(mt k).length<=1:=λk h=>by
  rcases (by omega:k=0\/k=1\/k=2\/k=3) with rfl | rfl | rfl | rfl<;>simp [mt]
 have la0:=f j a0;have J:=f o a1;have Q:=f y a2;have M:=f i b0;have V:=f r b1;have R:=f H b2;have a:∀k,k<4->(mt k).any isLv=false->k=0:=λk h=>by
  rcases (by omega:k=0\/k=1\/k=2\/k=3) with rfl | rfl | rfl | rfl<;>decide
 have p:∀w:aa,w.any (λx=>x==88)=hasX w:=λw=>rfl;by_cases n:m=[]
 ·have e:d=[]:=hs.day.resolve_right (λz=>z.1 n);subst n e;obtain ⟨rfl,rfl⟩:=zm rfl;obtain ⟨rfl,rfl⟩:=zd rfl;simp only [aJ,nP];refine ⟨mt j++Y,i,⟨rfl,b0,FM U (λc hc=>(F c hc).2) _,b _ (by rw [CX,CX,qe a0,v,qe b0];rfl),by simp only [aL];omega⟩,?_,?_,rfl⟩
  ·rw [sy,x_mk a0,D];simp [hasX]
  ·intro h;rw [sy,oV] at h;exact ⟨by rw [a _ a0 h.1],λh=>absurd rfl h,λh=>absurd rfl h⟩
 ·obtain ⟨N,mx⟩:=hs.mon.resolve_left n;have E:m.all okC=true:=cL.2 λc hc=>LA (mx c hc);rw [ab n,ab n];by_cases e:d=[]
  ·subst e;obtain ⟨rfl,rfl⟩:=zd rfl;simp only [aJ,nP];refine ⟨mt j++Y++mt i++(45::(mt o++m)),r,⟨by simp,b1,?_,b _ ?_,by simp only [aL,aC];omega⟩,?_,?_,rfl⟩
   ·have:=FM n (λc hc=>IR (mx c hc)) (mt j++Y++mt i++(45::mt o));simpa using this
   ·simp only [CX,mK,qe a0,v,qe b0,qe a1,E,qe b1,show okC 45=true from by decide];rfl
   ·simp only [sy,qE,x_mk a0,x_mk b0,x_mk a1,D];simp only [p];simp [hasX]
   ·intro h;simp only [sy,qE,oV] at h;obtain ⟨⟨⟨s,S⟩,C⟩,X,t,T⟩:=h;exact ⟨by rw [a _ a0 s,a _ a1 t],λ_=>a _ b0 C,λh=>absurd rfl h⟩
  ·obtain ⟨_,W,G⟩:=hs.day.resolve_left e;have Z:d.all okC=true:=cL.2 λc hc=>LA (G c hc);rw [ab e,ab e];refine ⟨mt j++Y++mt i++(45::(mt o++m++mt r))++(45::(mt y++d)),H,⟨by simp,b2,?_,b _ ?_,by simp only [aL,aC];omega⟩,?_,?_,rfl⟩
   ·have:=FM e (λc hc=>IR (G c hc)) (mt j++Y++mt i++(45::(mt o++m++mt r))++(45::mt y));simpa using this
   ·simp only [CX,mK,qe a0,v,qe b0,qe a1,E,qe b1,qe a2,Z,qe b2,show okC 45=true from by decide];rfl
   ·simp only [sy,qE,x_mk a0,x_mk b0,x_mk a1,x_mk b1,x_mk a2,D];simp only [p];simp [Bool.or_assoc]
   ·intro h;simp only [sy,qE,oV] at h;obtain ⟨⟨⟨⟨s,S⟩,C⟩,X,⟨t,T⟩,K⟩,h8,O,I⟩:=h;exact ⟨by rw [a _ a0 s,a _ a1 t,a _ a2 O],λ_=>a _ b0 C,λ_=>a _ b1 K⟩
def mkX (x:TD):Bool:=hasX x.2.2.1||(hasX x.2.2.2.2.2.1||hasX x.2.2.2.2.2.2.1)
def lvT (T:aa) (x:TD):Int:=lvl (Lib.trimRightS T [63,126,37]) (!(Lib.trimRightS T [63,126,37]==T)) (mkX x) (seT x)
theorem XB {T u:aa} {k:Nat} (h:Body T u k) {x:TD} (hs:smT x):lD 20000000 T x=some (lvT T x):=by
 rw [Yn h hs];unfold lvT mkX;rw [wP h,Fo h];simp
theorem fS9 {S:aa} {a:Nat} (h:a<=S.length) {r:DR} (p:dk S a=.inr r):∃A B u k,MkD A B (tdR r).2.2.2.2.2.1 (tdR r).2.2.2.2.2.2.1/\plR r=a+(mt A.1).length/\
  (S.drop a).take (enR r - a)=rawD A B r.1 r.2.1 r.2.2.1 (r.2.2.2.1:Int) (r.2.2.2.2.1:Int) r.2.2.2.2.2.1 r.2.2.2.2.2.2.1/\r.2.2.2.2.2.2.2.1=spM A B/\Body ((S.drop a).take (enR r - a)) u k/\
  lD 20000000 ((S.drop a).take (enR r - a)) (tdR r)=some (lvT ((S.drop a).take (enR r - a)) (tdR r))/\eJ 20000000 ((S.drop a).take (enR r - a))=some (lvT ((S.drop a).take (enR r - a)) (tdR r)):=by
 obtain ⟨n,C,G,y⟩:=je h p;obtain ⟨q,_⟩:=GI h p;obtain ⟨J,I,F,v,w,m',d',k0,k1,k2,f,ok⟩:=qC n C;obtain ⟨g,l,dg,x,s,m,d,M,P,e⟩:=r;have ok:ShD g l dg x s m d:=by
  unfold tdR at f;simp only [bC] at f;obtain ⟨rfl,rfl,rfl,hx,j,rfl,rfl,_⟩:=f;have hx:x=v:=by omega
  have j:s=w:=by omega
  subst hx j;exact ok.sh
 obtain ⟨A,B,mk,z,t,o⟩:=JC q;have E:(rawD A B g l dg (x:Int) (s:Int) m d).length=e - a:=by
  have:=ch List.length o;simp only [aL,bR] at this;have:a<=e:=G;have:e<=S.length:=y;omega
 have c:(S.drop a).take (e - a)=rawD A B g l dg (x:Int) (s:Int) m d:=by rw [o,<-E,FZ]
 obtain ⟨u,k,b,D,_⟩:=Gt ok mk;refine ⟨A,B,u,k,mk,t,c,z,by rw [show enR (g,l,dg,x,s,m,d,M,P,e)=e from rfl,c];exact b,?_,?_⟩
 ·rw [show enR (g,l,dg,x,s,m,d,M,P,e)=e from rfl,c];exact XB b n
 ·rw [show enR (g,l,dg,x,s,m,d,M,P,e)=e from rfl,c];obtain ⟨H,_,i⟩:=HB ok mk (S:=rawD A B g l dg (x:Int) (s:Int) m d) (a:=0) (post:=[]) (by simp) uq uq uq;rw [Sj b i,D];unfold lvT mkX;rw [wP b,Fo b];simp only [decide_not];rfl
def mx (a b:Int):Int:=if a>b then a else b
def lvR (S:aa) (p:Nat) (r:DR):Int:=lvT ((S.drop p).take (enR r - p)) (tdR r)
theorem KX (u:aa) (b X:Bool) (c:Int):0<=lvl u b X c/\lvl u b X c<=2:=by
 unfold lvl
 repeat' split
 all_goals omega
theorem MM (S:aa) (p:Nat) (r:DR):0<=lvR S p r/\lvR S p r<=2:=KX _ _ _ _
theorem bcT {x:TD} (h:smT x) (K:Int):ap10 (ig 20000000 K) x=some (rW K x):=vK h.1 h.2.1 h.2.2.1 h.2.2.2.1 h.2.2.2.2.1 h.2.2.2.2.2
theorem zY (n:Nat) (a:Int) (S:aa) (p:Int) (I:List TI) (K:Int) (D:TD) (KF:Int) (DF:TD) (KT:Int) (DT:TD) (e l:Bool) (lv:Int):
  cT n a S p I K D KF DF KT DT e l lv=some (K,D,KF,DF,KT,DT,e,l,mx a lv):=by
 unfold cT mx;rw [bz]
theorem NP (I:List TI) (K:Int) (D:TD) (KF:Int) (DF:TD) (KT:Int) (DT:TD) (e l:Bool) (lv:Int) {S:aa} {p:Nat} (h:p<=S.length) (b:S.length<100000):
  dn 20000000 I K D KF DF KT DT e l lv S (p:Int)=some (match dk S p with
   | .inl f=>.inl ((f.1:Int),(f.2.1:Int),K,D,KF,DF,KT,DT,e,l,lv,S,(f.2.2:Int))
   | .inr r=>.inr (tdR r,((plR r:Nat):Int),K,D,KF,DF,KT,DT,e,l,mx (lvR S p r) lv,S,((enR r:Nat):Int))):=by
 unfold dn;rw [ud _ _ _ h,FW S p h b];cases a:dk S p with
 | inl f=>rfl
 | inr r=>
  obtain ⟨j,i,k,g⟩:=je h a;obtain ⟨_,_,_,_,_,_,_,_,_,c,_⟩:=fS9 h a;rw [D3];simp only [obs,sm,ob];rw [show (d4 (d8 ((tdR r).1,(tdR r).2.1,(tdR r).2.2.1,(tdR r).2.2.2.1,(tdR r).2.2.2.2.1,(tdR r).2.2.2.2.2.1,(tdR r).2.2.2.2.2.2.1,(tdR r).2.2.2.2.2.2.2.1,(tdR r).2.2.2.2.2.2.2.2.1,(tdR r).2.2.2.2.2.2.2.2.2,((plR r:Nat):Int),S,((enR r:Nat):Int))))=((enR r:Nat):Int) from rfl,ud _ _ _ g];simp only [];have d:w64 (len (S.drop p) - len (S.drop (enR r)))=((enR r - p:Nat):Int):=by
   show IntKind.wrap .i64 (((S.drop p).length:Int) - ((S.drop (enR r)).length:Int))=_;rw [bR,bR,wrap_i64 _ (by omega) (by omega)];omega
  rw [d,dY (by rw [bR];omega)];simp only [cM];rw [show lD 20000000 ((S.drop p).take (enR r - p)) (iF ((tdR r).1,(tdR r).2.1,(tdR r).2.2.1,(tdR r).2.2.2.1,(tdR r).2.2.2.2.1,(tdR r).2.2.2.2.2.1,(tdR r).2.2.2.2.2.2.1,(tdR r).2.2.2.2.2.2.2.1,(tdR r).2.2.2.2.2.2.2.2.1,(tdR r).2.2.2.2.2.2.2.2.2,((plR r:Nat):Int),S,((enR r:Nat):Int)))=_ from c];simp only [zY,u9,u8,u7,u6,u5,u4,u3,u2];rfl
theorem Gv {x:TD} (h:smT x) (hc:cF x=0) (a K:Int) (D:TD) (KF:Int) (DF:TD) (KT:Int) (DT:TD) (e l:Bool) (lv:Int) (S:aa) (p:Int) (I:List TI):
  cS 20000000 x a K D KF DF KT DT e l lv S p I=some (if exT x=true then .inr (1,x) else .inl (a,11)):=by
 unfold cS;rw [bcT h,Ej,ae hc];cases exT x<;>rfl
noncomputable def toP (S:aa) (p:Nat) (KF:Int) (DF:TD) (lv:Int):(Nat×Nat)⊕(Int×TD×Int×Nat):=
 if KF=1/\p=S.length then .inr (3,d0,mx 1 lv,p)
 else if KF=1/\dts (S.drop p)=true then .inr (2,d0,mx 1 lv,p+2)
 else match dk S p with
  | .inl f=>.inl (f.1,f.2.1)
  | .inr r=>if exT (tdR r)=true then (if enR r<S.length\/qm KF DF 1 (tdR r)=0 then .inr (1,tdR r,mx (lvR S p r) (if KF=1 then lv else mx 1 lv),enR r) else .inl (plR r,11)) else .inl (plR r,11)
def Ux (S:aa) (D:TD) (KF:Int) (DF:TD) (e l:Bool):(Nat×Nat)⊕(Int×TD×Int×Nat)->(Int×TD×Int×TD×Int×TD×Bool×Bool×Int×aa×Int)⊕(Int×Int×Int×TD×Int×TD×Int×TD×Bool×Bool×Int×aa×Int)->Prop
 | .inl f,y=>∃z,y=.inr ((f.1:Int),(f.2:Int),z)
 | .inr (KT,DT,lv,p),y=>y=.inl (2,D,KF,DF,KT,DT,e,l,lv,S,(p:Int))
theorem F9 {S:aa} {p:Nat} (h:p<=S.length):(peek (S.drop p)).2=decide (p<S.length):=by
 by_cases hp:p<S.length
 ·rw [am hp,bU (be hp)];rfl
 ·rw [aq hp,jm (by omega)];rfl
theorem TL (I:List TI) (K:Int) {DF:TD} (P:smT DF) (KF:Int) (lv:Int) {S:aa} {p:Nat} (h:p<=S.length) (hS:S.length<100000):
  ∃y,fG 20000000 I K d0 KF DF 0 d0 false false lv S (p:Int)=some y/\Ux S d0 KF DF false false (toP S p KF DF lv) y:=by
 have s:∀(n:Int) (t:n=if KF=1 then lv else mx 1 lv) (Z:¬(KF=1/\p=S.length)) (m:¬(KF=1/\dts (S.drop p)=true)),∃y,(obs (dn 20000000 I 2 d0 KF DF 0 d0 false false n S (p:Int)) (u13 λF R G D L H W B J O E M N=>(some (.inr (F,R,G,D,L,H,W,B,J,O,E,M,N)))) (u13 λz w g i c d u v j k e a b=>(obs (cS 20000000 z w g i c d u v j k e a b I) (u2 λU Q=>(some (.inr (U,Q,g,i,c,d,u,v,j,k,e,a,b)))) (u2 λo l=>(ob (bi 20000000 a b) (u2 λ_ x=>(cond (!x) (ob (ap10 (ap10 (iy 20000000 c) d o) l) λT=>(cond (T != 0) (ob (aP 20000000 w 11 a b) (u2 λA C=>(some (.inr (A,C,g,i,c,d,o,l,j,k,e,a,b))))) (some (.inl (g,i,c,d,o,l,j,k,e,a,b))))) (some (.inl (g,i,c,d,o,l,j,k,e,a,b))))))))))=some y/\Ux S d0 KF DF false false (toP S p KF DF lv) y:=by
  intro n t Z m;unfold toP;rw [NP I 2 d0 KF DF 0 d0 false false n h hS,ab Z,ab m];cases hr:dk S p with
  | inl f=>exact ⟨_,rfl,_,rfl⟩
  | inr r=>
   obtain ⟨X,c1,l1,Y⟩:=je h hr;simp only [obs,sm,ob,u13,u12,u11,u10,u9,u8,u7,u6,u5,u4,u3,u2];rw [Gv X c1];cases hx:exT (tdR r)
   ·exact ⟨_,rfl,_,rfl⟩
   ·simp only [aJ,pg _ _ _ Y,F9 Y];by_cases V:enR r<S.length
    ·rw [am V,ae (.inl V)];exact ⟨_,rfl,by rw [<-t];rfl⟩
    ·rw [aq V];simp only [ij,ah];rw [KR P X];simp only [];by_cases hp:qm KF DF 1 (tdR r)=0
     ·rw [ae (.inr hp),show (qm KF DF 1 (tdR r) != 0)=false from by simp [hp]];exact ⟨_,rfl,by rw [<-t];rfl⟩
     ·rw [ab (by rintro (h | h)<;>contradiction),show (qm KF DF 1 (tdR r) != 0)=true from by simp [hp]];exact ⟨_,rfl,_,rfl⟩
 unfold fG;by_cases q:KF=1
 ·rw [show (KF==1)=true from by simp [q],ah,pg _ _ _ h];simp only [ob,u2,F9 h,zY];by_cases hp:p<S.length
  ·rw [am hp];simp only [co,af];rw [m6 _ _ _ _ h (by omega)];cases m:dts (S.drop p)
   ·rw [ab (show ¬(S.drop p).take [(46:UInt8),46].length=[46,46] from λh=>by unfold dts at m;rw [show (S.drop p).take 2=[46,46] from h] at m;cases m)];exact s lv (by rw [ae q]) (by omega) (by rw [m];simp)
   ·rw [ae (show (S.drop p).take [(46:UInt8),46].length=[46,46] from eq_of_beq m)];refine ⟨_,rfl,?_⟩;unfold toP;rw [ab (by omega),ae ⟨q,m⟩];rfl
  ·rw [aq hp];refine ⟨_,rfl,?_⟩;unfold toP;rw [ae ⟨q,by omega⟩];rfl
 ·rw [show (KF==1)=false from by simp [q],af,zY];simp only [ob,u9,u8,u7,u6,u5,u4,u3,u2];exact s (mx 1 lv) (by rw [ab q]) (by simp [q]) (by simp [q])
noncomputable def toX (S:aa) (p:Nat) (KF:Int) (DF:TD) (lv:Int):(Nat×Nat)⊕(Int×TD×Int):=match toP S p KF DF lv with
 | .inl f=>.inl f
 | .inr (KT,DT,L,q)=>if q<S.length then .inl (q,5) else .inr (KT,DT,L)
noncomputable def nT (S:aa):(Nat×Nat)⊕(Int×TD×Int×TD×Int×TD×Int)⊕(Int×Bool×Bool×List TI):=
 if S.head?=some 91\/S.head?=some 123 then (match DJ S with | .inl f=>.inl f | .inr q=>.inr (.inr q))
 else if S.head?=some 47 then (match toX S 1 3 d0 0 with | .inl f=>.inl f | .inr (KT,DT,L)=>.inr (.inl (2,d0,3,d0,KT,DT,L)))
 else if dts S=true then (if (S.drop 2).head?=some 47 then (match toX S 3 2 d0 0 with | .inl f=>.inl f | .inr (KT,DT,L)=>.inr (.inl (2,d0,2,d0,KT,DT,L))) else .inl (2,5))
 else match dk S 0 with
  | .inl f=>.inl (f.1,f.2.1)
  | .inr r=>if (S.drop (enR r)).head?=some 47 then (if exT (tdR r)=true then (match toX S (enR r+1) 1 (tdR r) (lvR S 0 r) with | .inl f=>.inl f | .inr (KT,DT,L)=>.inr (.inl (2,d0,1,tdR r,KT,DT,L))) else .inl (plR r,11))
   else if enR r<S.length then .inl (enR r,5) else .inr (.inl (1,tdR r,0,d0,0,d0,lvR S 0 r))
def OB:(Nat×Nat)⊕(Int×TD×Int×TD×Int×TD×Int)⊕(Int×Bool×Bool×List TI)->(Int×TD×Int×TD×Int×TD×Bool×Bool×Int×Int×Int×List TI)⊕(Int×TD×Int×TD×Int×TD×Nat×Nat×Bool×Bool×Int×Int×Int×List TI)
 | .inl f=>.inl (0,d0,0,d0,0,d0,false,false,0,(f.1:Int),(f.2:Int),[])
 | .inr (.inl (K,D,KF,DF,KT,DT,L))=>.inl (K,D,KF,DF,KT,DT,false,false,L,0,0,[])
 | .inr (.inr (K,e,l,I))=>.inr (K,d0,0,d0,0,d0,I.length,I.length,e,l,2,0,0,I)
end Go.Sh
