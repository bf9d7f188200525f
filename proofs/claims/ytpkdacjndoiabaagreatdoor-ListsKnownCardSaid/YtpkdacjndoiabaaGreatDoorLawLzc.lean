/- Plain proofs, kept as far as they are needed here (printed by prune.py).
   Conditions: none. -/
import Derived.Test.YtpkdacjndoiabaaGreatDoorLawLzb
set_option linter.unusedVariables false
set_option linter.unusedSimpArgs false
set_option maxRecDepth 100000
namespace Go.Sh
open Go.Abs
theorem Vh {dg m d:aa} (h:exD dg m d 0=true):exD dg m [] 0=true/\exD dg [] [] 0=true:=by
 unfold exD at h ⊢
 simp only [az,kl,rE] at h
 obtain ⟨⟨h1,h2,h3⟩,_⟩:=h
 rw [h1,h2]
 exact ⟨rfl,rfl⟩
def D4 (g l:Bool) (dg:aa) (x q:Int) (m d:aa) (k0 k1 k2:Int):Bool:=
 (((g==false)&&((l==false)&&((dg==([]:aa))&&((x==0)&&((q==0)&&true)))))&&((m==([]:aa))&&((d==([]:aa))&&(((k0==0)&&((k1==0)&&((k2==0)&&true)))&&true))))
noncomputable def chkB (K:Int) (g l:Bool) (dg:aa) (x q:Int) (m d:aa) (k0 k1 k2:Int):Int:=
 if K=1 then (if chkF g l dg x q m d k0 k1 k2=0 then (if exD dg m d q=true then 0 else 11) else chkF g l dg x q m d k0 k1 k2) else if K=2\/K=3 then (if D4 g l dg x q m d k0 k1 k2=true then 0 else 5) else 18
def H6 (e1 e2 K1 K2 lo hi:Int):Int:=if e1≠0 then e1 else if e2≠0 then e2 else if K1≠1/\K2≠1 then 11 else if K1≠1\/K2≠1 then 0 else if lo>hi then 11 else 0
section
variable {K:Int} {g l:Bool} {dg:List UInt8} {x q:Int} {m d:List UInt8} {k0 k1 k2:Int} (hml:m.length<=18) (hdl:dg.length<=100) (hd18:d.length<=18) (h0:0<=k0) (h1:0<=k1) (h2:0<=k2)
include hml hdl hd18 h0 h1 h2
theorem EN:lQ 20000000 K g l dg x q m d k0 k1 k2=some (chkB K g l dg x q m d k0 k1 k2):=by
 unfold lQ chkB
 rw [uY hml hdl h0 h1 h2,GH 20000000 g l dg x q m d k0 k1 k2 (by omega) (by omega) (by omega)]
 simp only [ob]
 by_cases k1':K=1
 ·subst k1'
  rw [ae rfl]
  simp only [uQ,aj]
  by_cases hc:chkF g l dg x q m d k0 k1 k2=0
  ·rw [ae hc,hc]
   by_cases he:exD dg m d q=true
   ·rw [ae he,he];rfl
   ·rw [ab he]
    rw [FQ] at he
    rw [he];rfl
  ·rw [ab hc,bne0 hc];rfl
 ·rw [ab k1',aN.2 k1']
  simp only [af]
  have hn:(!(((g==false)&&((l==false)&&((dg==([]:aa))&&((x==0)&&((q==0)&&true)))))&&((m==([]:aa))&&((d==([]:aa))&&(((k0==0)&&((k1==0)&&((k2==0)&&true)))&&true)))))=!(D4 g l dg x q m d k0 k1 k2):=rfl
  rw [hn]
  by_cases k2':K=2
  ·subst k2'
   rw [ae (.inl rfl)]
   cases D4 g l dg x q m d k0 k1 k2<;>rfl
  ·rw [aN.2 k2']
   by_cases k3':K=3
   ·subst k3'
    rw [ae (.inr rfl)]
    cases D4 g l dg x q m d k0 k1 k2<;>rfl
   ·rw [aN.2 k3',ab (by omega)];rfl
theorem wC:eI 20000000 K g l dg x q m d k0 k1 k2=some (chkB K g l dg x q m d k0 k1 k2):=by
 unfold eI chkB
 rw [sw hdl h0 h1 h2,BZ 20000000 g l dg x q m d k0 k1 k2 (by omega) (by omega) (by omega) (by omega)]
 simp only [ob]
 by_cases k1':K=1
 ·subst k1'
  rw [ae rfl]
  simp only [uQ,aj]
  by_cases hc:chkF g l dg x q m d k0 k1 k2=0
  ·rw [ae hc,hc]
   by_cases he:exD dg m d q=true
   ·rw [ae he,ae he];rfl
   ·rw [ab he,ab he];rfl
  ·rw [ab hc,aN.2 hc];rfl
 ·rw [ab k1',aN.2 k1']
  simp only [af]
  have hn:(!(((g==false)&&((l==false)&&((dg==([]:aa))&&((x==0)&&((q==0)&&true)))))&&((m==([]:aa))&&((d==([]:aa))&&(((k0==0)&&((k1==0)&&((k2==0)&&true)))&&true)))))=!(D4 g l dg x q m d k0 k1 k2):=rfl
  rw [hn]
  by_cases k2':K=2
  ·subst k2'
   rw [ae (.inl rfl)]
   cases D4 g l dg x q m d k0 k1 k2<;>rfl
  ·rw [aN.2 k2']
   by_cases k3':K=3
   ·subst k3'
    rw [ae (.inr rfl)]
    cases D4 g l dg x q m d k0 k1 k2<;>rfl
   ·rw [aN.2 k3',ab (by omega)];rfl
theorem vw (hc:chkB K g l dg x q m d k0 k1 k2=0) (hk:K=1):chkF g l dg x q m d k0 k1 k2=0/\exD dg m d q=true:=by
 have _u:=And.intro hml (And.intro hdl (And.intro hd18 (And.intro h0 (And.intro h1 h2))))
 unfold chkB at hc
 rw [ae hk] at hc
 by_cases h:chkF g l dg x q m d k0 k1 k2=0
 ·rw [ae h] at hc
  by_cases he:exD dg m d q=true
  ·exact ⟨h,he⟩
  ·rw [ab he] at hc;cases hc
 ·rw [ab h] at hc;exact absurd hc h
end
theorem UX (n:Nat) (a b:Int):jk n a b=some (if a<b then -1 else if a>b then 1 else 0):=by
 unfold jk kh
 simp only [ob,eM,af]
 by_cases h:a<b
 ·rw [ar h,ae h];rfl
 ·rw [au h,ab h]
  by_cases h2:a>b
  ·rw [ar h2,ae h2];rfl
  ·rw [au h2,ab h2];rfl
theorem FH (a b:Int):∃r,jW 20000000 0 a 0 b=some r/\decide (r>0)=decide (a>b):=by
 have e8:l8 20000000 0 0=some 0:=rfl
 have o1:oz 20000000 [0,-1]=some (-1):=by kernel_rfl
 have o2:oz 20000000 [0,1]=some 1:=by kernel_rfl
 have o3:oz 20000000 [0,0]=some 0:=by kernel_rfl
 unfold jW
 rw [e8,UX]
 simp only [ob]
 by_cases h:a<b
 ·rw [ae h,o1]
  exact ⟨_,rfl,by rw [au (show ¬a>b by omega)];rfl⟩
 ·rw [ab h]
  by_cases h2:a>b
  ·rw [ae h2,o2]
   exact ⟨_,rfl,by rw [ar h2];rfl⟩
  ·rw [ab h2,o3]
   exact ⟨_,rfl,by rw [au h2];rfl⟩
theorem bne1 {K:Int} (h:K≠1):(K != 1)=true:=by simp [h]
section
variable {K:Int} {g l:Bool} {dg:List UInt8} {x q:Int} {m d:List UInt8} {k0 k1 k2:Int} {K':Int} {g' l':Bool} {dg':List UInt8} {x' q':Int} {m' d':List UInt8} {p0 p1 p2:Int} (hml:m.length<=18) (hdl:dg.length<=100) (hd18:d.length<=18) (h0:0<=k0) (h1:0<=k1) (h2:0<=k2) (hml':m'.length<=18) (hdl':dg'.length<=100) (hd18':d'.length<=18) (h0':0<=p0) (h1':0<=p1) (h2':0<=p2)
include hml hdl hd18 h0 h1 h2 hml' hdl' hd18' h0' h1' h2'
theorem QM:lj 20000000 K g l dg x q m d k0 k1 k2 K' g' l' dg' x' q' m' d' p0 p1 p2=some (H6 (chkB K g l dg x q m d k0 k1 k2) (chkB K' g' l' dg' x' q' m' d' p0 p1 p2) K K' (pD g dg x m d).1 (pD g' dg' x' m' d').2):=by
 unfold lj H6
 rw [EN hml hdl hd18 h0 h1 h2,EN hml' hdl' hd18' h0' h1' h2']
 simp only [ob]
 by_cases c1:chkB K g l dg x q m d k0 k1 k2=0
 ·rw [ab (by omega),c1]
  by_cases c2:chkB K' g' l' dg' x' q' m' d' p0 p1 p2=0
  ·rw [ab (by omega),c2]
   simp only [eM,af]
   by_cases e1:K=1
   ·rw [show (K != 1)=false by rw [e1];rfl]
    simp only [af]
    by_cases e2:K'=1
    ·rw [show (K' != 1)=false by rw [e2];rfl,ab (by omega),ab (by omega)]
     simp only [af]
     obtain ⟨f1,g1⟩:=vw hml hdl hd18 h0 h1 h2 c1 e1
     obtain ⟨f2,g2⟩:=vw hml' hdl' hd18' h0' h1' h2' c2 e2
     rw [Dl hml hdl hd18 h0 h1 h2,Dl hml' hdl' hd18' h0' h1' h2',ae f1,ae g1,ae f2,ae g2]
     simp only [ob]
     obtain ⟨r,r1,r2⟩:=FH (pD g dg x m d).1 (pD g' dg' x' m' d').2
     rw [r1]
     simp only [r2]
     by_cases h:(pD g dg x m d).1>(pD g' dg' x' m' d').2
     ·rw [ar h,ae h];rfl
     ·rw [au h,ab h];rfl
    ·rw [bne1 e2,ab (by omega),ae (by omega)];rfl
   ·rw [bne1 e1]
    by_cases e2:K'=1
    ·rw [show (K' != 1)=false by rw [e2];rfl,ab (by omega),ae (by omega)];rfl
    ·rw [bne1 e2,ae (by omega)];rfl
  ·rw [ae c2,bne0 c2];rfl
 ·rw [ae c1,bne0 c1];rfl
theorem M6:i7 20000000 K g l dg x q m d k0 k1 k2 K' g' l' dg' x' q' m' d' p0 p1 p2=some (H6 (chkB K g l dg x q m d k0 k1 k2) (chkB K' g' l' dg' x' q' m' d' p0 p1 p2) K K' (pD g dg x m d).1 (pD g' dg' x' m' d').2):=by
 unfold i7 H6
 rw [wC hml hdl hd18 h0 h1 h2,wC hml' hdl' hd18' h0' h1' h2']
 simp only [ob]
 by_cases c1:chkB K g l dg x q m d k0 k1 k2=0
 ·rw [ab (by omega),c1]
  by_cases c2:chkB K' g' l' dg' x' q' m' d' p0 p1 p2=0
  ·rw [ab (by omega),c2]
   simp only [eM,af]
   by_cases e1:K=1
   ·rw [show (K != 1)=false by rw [e1];rfl,show (K==1)=true by rw [e1];rfl]
    simp only [af,aj]
    by_cases e2:K'=1
    ·rw [show (K'==1)=true by rw [e2];rfl,ab (by omega),ab (by omega)]
     simp only [aj]
     obtain ⟨f1,g1⟩:=vw hml hdl hd18 h0 h1 h2 c1 e1
     obtain ⟨f2,g2⟩:=vw hml' hdl' hd18' h0' h1' h2' c2 e2
     obtain ⟨rfl,E1⟩:=ve f1 g1
     obtain ⟨rfl,E2⟩:=ve f2 g2
     rw [uf E1 hdl,uf E2 hdl']
     simp only [ob]
     by_cases h:(pD g dg x m d).1>(pD g' dg' x' m' d').2
     ·rw [ar h,ae h];rfl
     ·rw [au h,ab h];rfl
    ·rw [aN.2 e2,ab (by omega),ae (by omega)];rfl
   ·rw [bne1 e1,aN.2 e1]
    by_cases e2:K'=1
    ·rw [show (K' != 1)=false by rw [e2];rfl,ab (by omega),ae (by omega)];rfl
    ·rw [bne1 e2,ae (by omega)];rfl
  ·rw [ae c2,bne0 c2];rfl
 ·rw [ae c1,bne0 c1];rfl
end
def plR (r:DR):Nat:=r.2.2.2.2.2.2.2.2.1.1
def enR (r:DR):Nat:=r.2.2.2.2.2.2.2.2.2
theorem Hl {l:aa} {b:UInt8} (h:l.take 2=[b,b]):∃r,l=b::b::r:=by
 match l,h with
 | a::c::r,h=>simp at h;exact ⟨r,by rw [h.1,h.2]⟩
theorem N4 {S:aa} {a:Nat} (h:a<=S.length) {r:DR} (hr:iq S a=.inr r):so S a=.inr r/\chkR r=0:=by
 unfold iq at hr
 cases hd:so S a with
 | inl k=>rw [hd] at hr;cases hr
 | inr r'=>
  rw [hd] at hr
  simp only [] at hr
  by_cases hc:chkR r'=0
  ·rw [ae hc] at hr
   obtain rfl:=zt hr
   exact ⟨rfl,hc⟩
  ·rw [ab hc] at hr;cases hr
def OS (S:aa) (A:Int):(Nat×Nat×Nat)⊕DR->Bool×Bool×aa×Int×Int×aa×aa×Int×Int×Int×Int×aa×Int×Int
 | .inl (k,E,p)=>(false,false,[],0,0,[],[],0,0,0,A,S,(k:Int),(E:Int))
 | .inr (g,l,dg,x,s,m,d,M,P,e)=>(g,l,dg,(x:Int),(s:Int),m,d,(M.1:Int),(M.2.1:Int),(M.2.2:Int),(P.1:Int),S,(e:Int),0)
theorem yv (S:aa) (a:Nat) (h:a<=S.length) (hS:S.length<100000):∃A,iS 20000000 S (a:Int)=some (OS S A (iq S a)):=by
 obtain ⟨Q,hQ,hr⟩:=C4 19999700 S a h hS (by omega)
 rw [show 19999700+300=20000000 from rfl] at hr
 obtain ⟨q0,q1,q2,rfl⟩:∃q0 q1 q2,Q=[q0,q1,q2]:=by
  match Q,hQ with
  | [q0,q1,q2],_=>exact ⟨q0,q1,q2,rfl⟩
 unfold iS iq
 rw [hr]
 cases hd:so S a with
 | inl k=>exact ⟨q0,rfl⟩
 | inr r=>
  obtain ⟨g,l,dg,x,s,mm,d,M,P,e⟩:=r
  have hok:=An h hd
  have hM:=hok.all
  have h17:=hok.dg17
  simp only [ob,RE,d4,d8,eM,af]
  rw [sw (g:=g) (l:=l) (x:=(x:Int)) (q:=(s:Int)) (m:=mm) (d:=d) (show dg.length<=100 by omega) (show (0:Int)<=(M.1:Int) by omega) (show (0:Int)<=(M.2.1:Int) by omega) (show (0:Int)<=(M.2.2:Int) by omega)]
  have hcs:=uA (g:=g) (l:=l) (dg:=dg) (x:=(x:Int)) (q:=(s:Int)) (m:=mm) (d:=d) (k0:=(M.1:Int)) (k1:=(M.2.1:Int)) (k2:=(M.2.2:Int)) (xg hM)
  unfold chkR
  simp only []
  refine ⟨(P.1:Int),?_⟩
  rcases hcs with hc | hc | hc | hc<;>rw [hc]<;>rfl
theorem sW {S:aa} {a:Nat} (h:a<=S.length) {k E p:Nat} (hr:iq S a=.inl (k,E,p)):E≠0:=by
 unfold iq at hr
 cases hd:so S a with
 | inl k'=>rw [hd] at hr;simp only [] at hr;have:=Sum.inl.inj hr;simp at this;omega
 | inr r'=>
  rw [hd] at hr
  simp only [] at hr
  by_cases hc:chkR r'=0
  ·rw [ae hc] at hr;cases hr
  ·rw [ab hc] at hr
   have:=Sum.inl.inj hr
   simp at this
   omega
def smT (x:TD):Prop:=x.2.2.2.2.2.1.length<=18/\x.2.2.1.length<=100/\x.2.2.2.2.2.2.1.length<=18/\0<=x.2.2.2.2.2.2.2.1/\0<=x.2.2.2.2.2.2.2.2.1/\0<=x.2.2.2.2.2.2.2.2.2
noncomputable def cF (x:TD):Int:=chkF x.1 x.2.1 x.2.2.1 x.2.2.2.1 x.2.2.2.2.1 x.2.2.2.2.2.1 x.2.2.2.2.2.2.1 x.2.2.2.2.2.2.2.1 x.2.2.2.2.2.2.2.2.1 x.2.2.2.2.2.2.2.2.2
def exT (x:TD):Bool:=exD x.2.2.1 x.2.2.2.2.2.1 x.2.2.2.2.2.2.1 x.2.2.2.2.1
def dyT (x:TD):Int×Int:=pD x.1 x.2.2.1 x.2.2.2.1 x.2.2.2.2.2.1 x.2.2.2.2.2.2.1
def seT (x:TD):Int:=sea x.2.2.2.2.2.1
def coT (x:TD):Nat:=da x.2.2.2.2.2.1 x.2.2.2.2.2.2.1
noncomputable def plT (x:TD):Bool:=decide (cF x=0)&&(exT x&&!decide (0<seT x))
theorem CG:smT d0:=by unfold smT;simp
theorem fcT {x:TD} (h:smT x):ap10 (bu 20000000) x=some (cF x):=uY h.1 h.2.1 h.2.2.2.1 h.2.2.2.2.1 h.2.2.2.2.2
theorem rcT {x:TD} (h:smT x):ap10 (bJ 20000000) x=some (cF x):=sw h.2.1 h.2.2.2.1 h.2.2.2.2.1 h.2.2.2.2.2
theorem reT {x:TD} (h:smT x):ap10 (be 20000000) x=some (if exT x then 1 else 0):=by
 obtain ⟨a,b,c,_⟩:=h
 exact BZ 20000000 _ _ _ _ _ _ _ _ _ _ (by omega) (by omega) (by omega) (by omega)
theorem rsT (x:TD):ap10 (aT 20000000) x=some (seT x):=oa 20000000 (by omega) _ _ _ _ _ _ _ _ _ _
theorem rcoT (x:TD):ap10 (aC 20000000) x=some ((coT x:Nat):Int):=nP 20000000 _ _ _ _ _ _ _ _ _ _
theorem fpT {x:TD} (h:smT x):ap10 (bf 20000000) x=some (if x.2.2.2.2.2.2.1=[] then (if 0<seT x then 0 else if x.2.2.2.2.2.1=[] then 1 else 2) else 3):=JI 20000000 _ _ _ _ _ _ _ _ _ _ h.1
theorem fmT {x:TD} (h:smT x):ap10 (fN 20000000) x=some (hasX x.2.2.1||(hasX x.2.2.2.2.2.1||hasX x.2.2.2.2.2.2.1)):=by
 obtain ⟨a,b,c,_⟩:=h
 exact CZ 20000000 _ _ _ _ _ _ _ _ _ _ (by omega) (by omega) (by omega)
theorem fdT {x:TD} (h:smT x):ap10 (fY 20000000) x=some (if cF x=0 then (if exT x=true then (0,(dyT x).1,0,(dyT x).2,0) else (0,0,0,0,1)) else (0,0,0,0,cF x)):=Dl h.1 h.2.1 h.2.2.1 h.2.2.2.1 h.2.2.2.2.1 h.2.2.2.2.2
theorem RR {x:TD} (hc:cF x=0) (he:exT x=true):x.2.2.2.2.1=0/\Exact x.1 x.2.1 x.2.2.1 x.2.2.2.1 x.2.2.2.2.2.1 x.2.2.2.2.2.2.1:=ve hc he
theorem rdT {x:TD} (h:smT x) (hc:cF x=0) (he:exT x=true):ap10 (bm 20000000) x=some (dyT x):=by
 obtain ⟨h0,E⟩:=RR hc he
 have:=uf (k0:=x.2.2.2.2.2.2.2.1) (k1:=x.2.2.2.2.2.2.2.2.1) (k2:=x.2.2.2.2.2.2.2.2.2) E h.2.1
 rw [<-h0] at this
 exact this
theorem wM {x:TD} (hc:cF x=0):(x.2.2.2.2.2.1=[]\/x.2.2.2.2.2.1.length=2)/\(x.2.2.2.2.2.2.1=[]\/x.2.2.2.2.2.2.1.length=2)/\(x.2.2.2.2.2.2.1≠[]->x.2.2.2.2.2.1≠[]/\seT x=0):=by
 obtain ⟨_,a,b,_,c⟩:=th (qk hc)
 exact ⟨a,b,c⟩
theorem m8 {x y:TD}:eqD x y=true↔x=y:=by
 obtain ⟨a1,a2,a3,a4,a5,a6,a7,a8,a9,a10⟩:=x
 obtain ⟨b1,b2,b3,b4,b5,b6,b7,b8,b9,b10⟩:=y
 simp [and_assoc]
theorem Ft {x:TD} (h:smT x):mV 20000000 x=some (exT x):=by
 unfold mV
 rw [fmT h]
 simp only [ob,exT,exD]
 cases (hasX x.2.2.1||(hasX x.2.2.2.2.2.1||hasX x.2.2.2.2.2.2.1))<;>rfl
theorem yX {x:TD} (h:smT x):kZ 20000000 x=some (plT x):=by
 unfold kZ plT
 rw [fcT h,Ft h,fpT h]
 simp only [ob]
 by_cases hc:cF x=0
 ·rw [hc]
  cases he:exT x
  ·rfl
  ·show some ((if _ then _ else _) != (0:Int))=some (true&&(true&&!decide (0<seT x)))
   obtain ⟨_,_,h3⟩:=wM hc
   by_cases hd:x.2.2.2.2.2.2.1=[]
   ·rw [ae hd]
    by_cases hs:0<seT x
    ·rw [ae hs,ar hs];rfl
    ·rw [ab hs,au hs]
     by_cases hm:x.2.2.2.2.2.1=[]
     ·rw [ae hm];rfl
     ·rw [ab hm];rfl
   ·rw [ab hd,(h3 hd).2];rfl
 ·rw [au hc,show (cF x==0)=false from by simp [hc]];rfl
theorem sc {x:TD} (h:smT x):bh 20000000 x=some (if plT x then 1 else 0):=by
 unfold bh plT
 rw [rcT h,reT h,rsT x]
 simp only [ob]
 by_cases hc:cF x=0
 ·rw [hc]
  cases he:exT x
  ·rfl
  ·by_cases hs:0<seT x
   ·have h2:decide (seT x>0)=true:=ar hs
    rw [ar hs];rfl
   ·have h2:decide (seT x>0)=false:=au hs
    rw [au hs];rfl
 ·rw [au hc,show (cF x != 0)=true from by simp [hc]];rfl
theorem wh {x:TD}:plT x=true↔cF x=0/\exT x=true/\¬0<seT x:=by
 unfold plT
 simp [and_assoc]
noncomputable def ordB (x y:TD):Bool:=(plT x&&plT y)&&(decide (coT x=coT y)&&decide ((dyT x).1<=(dyT y).1))
theorem yQ {x:TD} (hc:cF x=0) (hs:¬0<seT x):(if x.2.2.2.2.2.2.1=[] then (if 0<seT x then (0:Int) else if x.2.2.2.2.2.1=[] then 1 else 2) else 3)=((coT x:Nat):Int):=by
 obtain ⟨_,_,h3⟩:=wM hc
 unfold coT da
 by_cases hd:x.2.2.2.2.2.2.1=[]
 ·rw [ae hd,ab hs]
  by_cases hm:x.2.2.2.2.2.1=[]
  ·simp [hm,hd]
  ·simp [hm,hd]
 ·have hm:=(h3 hd).1
  simp [hd,hm]
theorem Hk {x y:TD} (hx:smT x) (hy:smT y):mQ 20000000 x y=some (ordB x y):=by
 unfold mQ ordB
 rw [yX hx,yX hy]
 cases px:plT x
 ·rfl
 cases py:plT y
 ·rfl
 obtain ⟨c1,e1,s1⟩:=wh.1 px
 obtain ⟨c2,e2,s2⟩:=wh.1 py
 rw [fpT hx,fpT hy,fdT hx,fdT hy,yQ c1 s1,yQ c2 s2,ae c1,ae c2,ae e1,ae e2]
 simp only [ob,u5,u4,u3,u2,dn,af,JZ,mU]
 by_cases hcc:coT x=coT y
 ·rw [hcc,ar rfl]
  obtain ⟨r,q1,q2⟩:=FH (dyT x).1 (dyT y).1
  simp only [eM,af,q1,mU]
  refine dm some ?_
  have:decide (r<=0)=!decide (r>0):=by
   by_cases hr:r<=0
   ·rw [ar hr,au (by omega)];rfl
   ·rw [au hr,ar (by omega)];rfl
  rw [this,q2]
  by_cases hd:(dyT x).1<=(dyT y).1
  ·rw [ar hd,au (by omega)];rfl
  ·rw [au hd,ar (by omega)];rfl
 ·have:(((coT x:Nat):Int) != ((coT y:Nat):Int))=true:=by simp;omega
  rw [this,au hcc];rfl
noncomputable def itE (x:TD) (r:Bool) (y:TD) (all:Bool):Int:=
 if cF x≠0 then cF x else if r=true/\cF y≠0 then cF y else if r=false/\eqD y d0=false then 5 else if r=true/\ordB x y=false then 10 else if all=true/\exT x=false then 10 else 0
theorem Br {x y:TD} (r:Bool) (hx:smT x) (hy:smT y) (K:Int) (hc:cF x=0) (hcy:¬(r=true/\cF y≠0)):dW 20000000 5 10 10 x r y K=some (itE x r y (K==4)):=by
 unfold dW qx pY qo itE
 rw [Hk hx hy,Ft hx,ab (by simpa using hc),ab hcy]
 cases r
 ·generalize eqD y d0=z
  cases z
  ·rfl
  ·cases (K==4)
   ·rfl
   ·cases exT x<;>rfl
 ·simp only [ob,dn,af,aj,reduceCtorEq,xJ,aE,js]
  cases ordB x y
  ·rfl
  ·simp only [dn,af,Bool.true_eq_false,aE]
   cases (K==4)
   ·rfl
   ·cases exT x<;>rfl
theorem DV {x y:TD} (r:Bool) (hx:smT x) (hy:smT y) (K:Int):fJ 20000000 x r y K=some (if K=3\/K=4 then itE x r y (K==4) else 18):=by
 have main:(ob (ap10 (bu 20000000) x) λv0=>(cond (v0 != 0) (some v0) (cond r (ob (ap10 (bu 20000000) y) λv1=>(cond (v1 != 0) (some v1) (ob (dW 20000000 5 10 10 x r y K) λv2=>(some v2)))) (ob (dW 20000000 5 10 10 x r y K) λv3=>(some v3)))))=some (itE x r y (K==4)):=by
  rw [fcT hx]
  simp only [ob]
  by_cases hc:cF x=0
  ·rw [show (cF x != 0)=false from by simp [hc],af]
   cases r
   ·rw [Br false hx hy K hc (by simp)];rfl
   ·rw [aj,fcT hy]
    simp only
    by_cases hcy:cF y=0
    ·rw [show (cF y != 0)=false from by simp [hcy],af,Br true hx hy K hc (by simp [hcy])]
    ·rw [show (cF y != 0)=true from by simp [hcy],aj]
     unfold itE
     rw [ab (by simpa using hc),ae ⟨rfl,hcy⟩]
  ·rw [show (cF x != 0)=true from by simp [hc],aj]
   unfold itE
   rw [ae hc]
 unfold fJ
 by_cases h3:K=3
 ·subst h3;exact main.trans (by rfl)
 ·rw [show (K != 3)=true from by simp [h3],aj]
  by_cases h4:K=4
  ·subst h4;exact main.trans (by rfl)
  ·rw [show (K != 4)=true from by simp [h4],aj,ab (by omega)]
theorem Ug {x y:TD} {r all:Bool} (h:cF x≠0):itE x r y all=cF x:=ae h
theorem Oi {x y:TD} {all:Bool} (hc:cF x=0) (h:cF y≠0):itE x true y all=cF y:=by
 unfold itE;rw [ab (λh=>h hc),ae ⟨rfl,h⟩]
theorem QL {x y:TD} {all:Bool} (hc:cF x=0):itE x false y all=if eqD y d0=false then 5 else if all=true/\exT x=false then 10 else 0:=by
 have h1:(false=true/\cF y≠0)↔False:=by simp
 have h2:(false=true/\ordB x y=false)↔False:=by simp
 have h3:(false=false/\eqD y d0=false)↔eqD y d0=false:=by simp
 unfold itE;rw [ab (λh=>h hc)];simp only [h1,h2,aE,js]
theorem TB {x y:TD} {all:Bool} (hc:cF x=0) (hy:cF y=0):itE x true y all=if ordB x y=false then 10 else if all=true/\exT x=false then 10 else 0:=by
 have h2:(true=true/\ordB x y=false)↔ordB x y=false:=by simp
 have h3:(true=false/\eqD y d0=false)↔False:=by simp
 unfold itE;rw [ab (λh=>h hc),ab (λh=>h.2 hy)];simp only [h3,aE,js]
theorem Ub (a b:Bool):(IntKind.wrap .i64 ((if a then (1:Int) else 0)*(if b then (1:Int) else 0))==0)=!(a&&b):=by cases a<;>cases b<;>rfl
theorem Hq {x y:TD} (r all:Bool) (hx:smT x) (hy:smT y):iW 20000000 x r y all=some (itE x r y all):=by
 have last:cond all (ob (ap10 (be 20000000) x) λv11=>(cond (v11==0) (some 10) (some 0))) (some 0)=some (if all=true/\exT x=false then (10:Int) else 0):=by
  rw [reT hx]
  cases all
  ·rfl
  ·cases exT x<;>rfl
 unfold iW
 simp only [last]
 simp only [rcT hx,rcT hy,sc hx,sc hy,rcoT,ob,Ub]
 by_cases hc:cF x=0
 ·rw [show (cF x != 0)=false from by simp [hc],af]
  cases r
  ·simp only [af,jq,aj]
   rw [QL hc]
   generalize eqD y d0=z
   cases z<;>rfl
  ·simp only [aj,dn,af]
   by_cases hcy:cF y=0
   ·rw [show (cF y != 0)=false from by simp [hcy],af]
    rw [TB hc hcy]
    unfold ordB
    cases px:plT x
    ·simp
    cases py:plT y
    ·simp
    obtain ⟨c1,e1,s1⟩:=wh.1 px
    obtain ⟨c2,e2,s2⟩:=wh.1 py
    rw [rdT hx c1 e1,rdT hy c2 e2]
    simp only [u2,JZ,dn,af,mU,js]
    by_cases hcc:coT x=coT y
    ·rw [hcc,ar rfl]
     simp only [eM,af,mU]
     by_cases hd:(dyT x).1<=(dyT y).1
     ·rw [show decide ((dyT x).1>(dyT y).1)=false from au (by omega),ar hd]
      simp
     ·rw [show decide ((dyT x).1>(dyT y).1)=true from ar (by omega),au hd]
      simp
    ·have:(((coT x:Nat):Int) != ((coT y:Nat):Int))=true:=by simp;omega
     rw [this,au hcc]
     simp
   ·rw [show (cF y != 0)=true from by simp [hcy],aj]
    rw [Oi hc hcy]
 ·rw [show (cF x != 0)=true from by simp [hc],aj]
  rw [Ug hc]
def mI {A:Type} (f:Nat->A->Int):Nat->List A->Option (Nat×Int)
 | _,[]=>none
 | i,t::r=>if f i t≠0 then some (i,f i t) else mI f (i+1) r
theorem ug {A X Y:Type} {step:X->Option (X⊕Y)} {st:Nat->X} {L:List A} {f:Nat->A->Int} {yes:Nat->Int->Y} {no:Y}
  (h1:∀i t,L[i]?=some t->step (st i)=some (if f i t≠0 then .inr (yes i (f i t)) else .inl (st (i+1)))) (h2:step (st L.length)=some (.inr no)):
  ∀(r i:Nat),i+r=L.length->∀N,r<N->am step N (st i)=some (match mI f i (L.drop i) with | some p=>yes p.1 p.2 | none=>no):=by
 intro r
 induction r with
 | zero=>
  intro i hi N hN
  obtain ⟨N,rfl⟩:∃k,N=k+1:=⟨N - 1,by omega⟩
  rw [am,show i=L.length by omega,h2,IC]
  rfl
 | succ r ih=>
  intro i hi N hN
  obtain ⟨N,rfl⟩:∃k,N=k+1:=⟨N - 1,by omega⟩
  have hil:i<L.length:=by omega
  have he:L[i]?=some L[i]:=bp hil
  rw [am,h1 i _ he,wU hil,mI]
  by_cases hf:f i L[i]≠0
  ·rw [ae hf,ae hf]
  ·rw [ab hf,ab hf]
   exact ih (i+1) (by omega) N (by omega)
abbrev rT (t:TI):Bool:=(d8 t).2.2.1
abbrev iT (t:TI):TD:=(d8 t).2.2.2
def smI (t:TI):Prop:=smT (iF t)/\smT (iT t)
noncomputable def itI (t:TI) (all:Bool):Int:=itE (iF t) (rT t) (iT t) all
noncomputable def endB (t:TI):Bool:=!rT t&&plT (iF t)
noncomputable def errI (K:Int) (e l:Bool) (n i:Nat) (t:TI):Int:=
 if itI t (K==4)≠0 then itI t (K==4) else if (e&&decide (i=0))&&!endB t||((l&&decide (i+1=n))&&!endB t||(e&&(l&&decide (n=1)))) then 10 else 0
noncomputable def rB (K:Int) (e l:Bool) (L:List TI):Int×Int:=match mI (errI K e l L.length) 0 L with
 | some p=>((p.1:Int),p.2)
 | none=>(0,0)
theorem sE {i:Nat} (h:i<9223372036854775807):w64 ((i:Int)+1)=((i+1:Nat):Int):=by
 show IntKind.wrap .i64 _=_
 rw [wrap_i64 _ (by omega) (by omega)];omega
theorem IM {i:Nat} (h0:0<i) (h:i<9223372036854775807):w64 ((i:Int) - 1)=((i - 1:Nat):Int):=by
 show IntKind.wrap .i64 _=_
 rw [wrap_i64 _ (by omega) (by omega)];omega
theorem natB (a b:Nat):(((a:Nat):Int)==((b:Nat):Int))=decide (a=b):=by
 by_cases h:a=b
 ·subst h;simp
 ·rw [au h];simp;omega
theorem HN (a:Nat):(((a:Nat):Int)==0)=decide (a=0):=natB a 0
theorem Ro {x y:TD} (r:Bool) (hx:smT x):nr 20000000 x r y=some (!r&&plT x):=by
 unfold nr
 rw [yX hx]
 cases r<;>rfl
theorem Ld {K:Int} (hK:K=3\/K=4) {e l:Bool} {L:List TI} {i:Nat} {t:TI} (hi:L[i]?=some t) (hs:smI t) (hn:L.length<=1000000) (D:TD) (KF:Int) (DF:TD) (KT:Int) (DT:TD):
  gi 20000000 (itI t (K==4)) 10 10 10 (iF t) (rT t) (iT t) K D KF DF KT DT e l (i:Int) (w64 (len L - 1)) L=some (errI K e l L.length i t):=by
 have hil:i<L.length:=(od.1 hi).1
 have hlast:w64 (len L - 1)=((L.length - 1:Nat):Int):=IM (by omega) (by omega)
 have hIt:fJ 20000000 (iF t) (rT t) (iT t) K=some (itI t (K==4)):=by
  rw [DV _ hs.1 hs.2,ae hK];rfl
 unfold gi oL pt o6 pA errI
 rw [hIt,hlast]
 simp only [Ro (rT t) hs.1,ob,HN,natB]
 have e1:decide (i=L.length - 1)=decide (i+1=L.length):=by congr 1;exact propext (by omega)
 have e2:decide (L.length - 1=0)=decide (L.length=1):=by congr 1;exact propext (by omega)
 rw [e1,e2]
 show cond (itI t (K==4) != 0) _ _=_
 by_cases h0:itI t (K==4)=0
 ·rw [ab (λh=>h h0),show (itI t (K==4) != 0)=false from by simp [h0],af]
  show _=some (if ((e&&decide (i=0))&&!endB t||((l&&decide (i+1=L.length))&&!endB t||(e&&(l&&decide (L.length=1)))))=true then 10 else 0)
  unfold endB
  generalize (!rT t&&plT (iF t))=z
  generalize decide (i=0)=a
  generalize decide (i+1=L.length)=b
  generalize decide (L.length=1)=c
  cases e<;>cases l<;>cases z<;>cases a<;>cases b<;>cases c<;>rfl
 ·rw [ae h0,show (itI t (K==4) != 0)=true from by simp [h0],aj]
theorem Nx {K:Int} (hK:K=3\/K=4) {e l:Bool} {L:List TI} (hs:∀t∈L,smI t) (hn:L.length<=1000000) (D:TD) (KF:Int) (DF:TD) (KT:Int) (DT:TD):
  lc 20000000 K D KF DF KT DT e l L=some (rB K e l L):=by
 have:=ug (step:=eZ 20000000) (st:=λi=>(len L,(i:Int),L,K,D,KF,DF,KT,DT,e,l,w64 (len L - 1))) (L:=L) (f:=errI K e l L.length) (yes:=λi q=>.inl ((i:Int),q)) (no:=.inr ())
  (λi t hi=>by
   have hil:i<L.length:=(od.1 hi).1
   have hst:=hs t (gQ hi)
   have hIt:fJ 20000000 (iF t) (rT t) (iT t) K=some (itI t (K==4)):=by
    rw [DV _ hst.1 hst.2,ae hK];rfl
   unfold eZ
   simp only [u12,u11,u10,u9,u8,u7,u6,u5,u4,u3,u2]
   rw [ar (show (i:Int)<len L by unfold len;omega),dp hil]
   simp only [aj,ob,hi]
   rw [show fJ 20000000 (iF t) (d8 t).2.2.1 (d8 t).2.2.2 K=some (itI t (K==4)) from hIt]
   simp only
   rw [show gi 20000000 (itI t (K==4)) 10 10 10 (iF t) (d8 t).2.2.1 (d8 t).2.2.2 K D KF DF KT DT e l (i:Int) (w64 (len L - 1)) L=some (errI K e l L.length i t) from Ld hK hi hst hn D KF DF KT DT]
   simp only
   rw [sE (by omega)]
   by_cases h0:errI K e l L.length i t=0
   ·rw [ab (λh=>h h0),show (errI K e l L.length i t != 0)=false from by simp [h0]];rfl
   ·rw [ae h0,show (errI K e l L.length i t != 0)=true from by simp [h0]];rfl)
  (by
   unfold eZ
   simp only [u12,u11,u10,u9,u8,u7,u6,u5,u4,u3,u2]
   rw [au (show ¬((L.length:Nat):Int)<len L by unfold len;omega)]
   rfl)
  L.length 0 (by omega) 20000000 (by omega)
 unfold lc rB
 rw [gy] at this
 show obs (am (eZ 20000000) 20000000 (len L,((0:Nat):Int),L,K,D,KF,DF,KT,DT,e,l,w64 (len L - 1))) _ _=_
 rw [this]
 cases mI (errI K e l L.length) 0 L<;>rfl
noncomputable def Tz (K:Int) (x:TD):Int:=chkB K x.1 x.2.1 x.2.2.1 x.2.2.2.1 x.2.2.2.2.1 x.2.2.2.2.2.1 x.2.2.2.2.2.2.1 x.2.2.2.2.2.2.2.1 x.2.2.2.2.2.2.2.2.1 x.2.2.2.2.2.2.2.2.2
noncomputable def O6 (K:Int) (x:TD) (K':Int) (y:TD):Int:=H6 (Tz K x) (Tz K' y) K K' (dyT x).1 (dyT y).2
theorem Qo {x y:TD} (hx:smT x) (hy:smT y) (K K':Int):ap10 (ap10 (lj 20000000 K) x K') y=some (O6 K x K' y):=
 QM hx.1 hx.2.1 hx.2.2.1 hx.2.2.2.1 hx.2.2.2.2.1 hx.2.2.2.2.2 hy.1 hy.2.1 hy.2.2.1 hy.2.2.2.1 hy.2.2.2.2.1 hy.2.2.2.2.2
theorem P5 {x y:TD} (hx:smT x) (hy:smT y) (K K':Int):ap10 (ap10 (i7 20000000 K) x K') y=some (O6 K x K' y):=
 M6 hx.1 hx.2.1 hx.2.2.1 hx.2.2.2.1 hx.2.2.2.2.1 hx.2.2.2.2.2 hy.1 hy.2.1 hy.2.2.1 hy.2.2.2.1 hy.2.2.2.2.1 hy.2.2.2.2.2
def unuB (K:Int) (D:TD) (KF:Int) (DF:TD) (KT:Int) (DT:TD) (e l:Bool) (n:Nat):Bool:=
 !(K==1||eqD D d0)||(!(K==2||((KF==0)&&((eqD DF d0)&&true))&&((KT==0)&&((eqD DT d0)&&true)))||!(K==3||(K==4||(decide (n=0)&&(!e&&!l)))))
theorem Iq (n:Nat) (K:Int) (D:TD) (KF:Int) (DF:TD) (KT:Int) (DT:TD) (e l:Bool) (L:List TI):
  lH n K D KF DF KT DT e l L=some (unuB K D KF DF KT DT e l L.length):=by
 unfold lH unuB
 rw [show (len L==0)=decide (L.length=0) from HN _]
 generalize eqD D d0=z0
 generalize ((KF==0)&&((eqD DF d0)&&true))=z1
 generalize ((KT==0)&&((eqD DT d0)&&true))=z2
 generalize decide (L.length=0)=z3
 generalize (K==1)=k1
 generalize (K==2)=k2
 generalize (K==3)=k3
 generalize (K==4)=k4
 revert z0 z1 z2 z3 k1 k2 k3 k4 e l
 decide +kernel
noncomputable def iK (K:Int) (D:TD) (KF:Int) (DF:TD) (KT:Int) (DT:TD) (e l:Bool) (L:List TI):Int×Int:=
 if K<1\/4<K then (0,18) else if unuB K D KF DF KT DT e l L.length=true then (0,5) else if K=1 then (0,cF D) else if K=2 then (0,O6 KF DF KT DT) else if L.length=0 then (0,17) else if 256<L.length then (0,3) else rB K e l L
def smE (D DF DT:TD) (L:List TI):Prop:=smT D/\smT DF/\smT DT/\∀t∈L,smI t
theorem Gn {K:Int} {D:TD} {KF:Int} {DF:TD} {KT:Int} {DT:TD} {e l:Bool} {L:List TI} (h:smE D DF DT L):
  lh 20000000 K D KF DF KT DT e l L=some (iK K D KF DF KT DT e l L):=by
 obtain ⟨hD,hF,hT,hL⟩:=h
 unfold lh iK
 by_cases h1:K<1
 ·rw [ar h1,ae (.inl h1)];rfl
 by_cases h4:4<K
 ·rw [au h1,show decide (K>4)=true from ar h4,ae (.inr h4)];rfl
 rw [au h1,show decide (K>4)=false from au h4,ab (by omega),Iq]
 simp only [af,ob]
 cases unuB K D KF DF KT DT e l L.length
 ·simp only [af,bP,aE]
  by_cases k1:K=1
  ·rw [ae k1,show (K==1)=true from by simp [k1],fcT hD];rfl
  by_cases k2:K=2
  ·rw [ab k1,ae k2,show (K==1)=false from by simp [k1],show (K==2)=true from by simp [k2],Qo hF hT];rfl
  rw [ab k1,ab k2,show (K==1)=false from by simp [k1],show (K==2)=false from by simp [k2]]
  simp only [af]
  rw [show (len L==0)=decide (L.length=0) from HN _]
  by_cases l0:L.length=0
  ·rw [ar l0,ae l0];rfl
  rw [au l0,ab l0]
  by_cases l1:256<L.length
  ·rw [show decide (len L>256)=true from ar (by show (256:Int)<((L.length:Nat):Int);omega),ae l1];rfl
  rw [show decide (len L>256)=false from au (by show ¬(256:Int)<((L.length:Nat):Int);omega),ab l1,Nx (by omega) hL (by omega)]
  rfl
 ·rfl
theorem PC (n:Nat) (i:Int) (L:List TI) (K:Int) (D:TD) (KF:Int) (DF:TD) (KT:Int) (DT:TD) (e l:Bool) (x:TD) (r:Bool) (y:TD):
  gF n i L K D KF DF KT DT e l x r y=some (i,e&&(i==0),l&&(i==w64 (len L - 1)),L,K,D,KF,DF,KT,DT,e,l,x,r,y):=by
 unfold gF
 cases e<;>cases l<;>rfl
theorem Qh (i:Int) (a b:Bool) (L:List TI) (K:Int) (D:TD) (KF:Int) (DF:TD) (KT:Int) (DT:TD) (e l:Bool) (x:TD) (r:Bool) (y:TD) (hx:smT x):
  gB 20000000 i a b L K D KF DF KT DT e l x r y=some (i,(a&&b)||((a||b)&&(r||!plT x)),L,K,D,KF,DF,KT,DT,e,l):=by
 unfold gB
 rw [sc hx]
 cases a<;>cases b<;>cases r<;>cases plT x<;>rfl
theorem Lu {K:Int} (hK:K=3\/K=4) {e l:Bool} {L:List TI} (hs:∀t∈L,smI t) (hn:L.length<=1000000) (D:TD) (KF:Int) (DF:TD) (KT:Int) (DT:TD):
  am (dN 20000000) 20000000 (0,L,K,D,KF,DF,KT,DT,e,l)=some (match mI (errI K e l L.length) 0 L with | some p=>.inl ((p.1:Int),p.2) | none=>.inr ()):=by
 have:=ug (step:=dN 20000000) (st:=λi=>((i:Int),L,K,D,KF,DF,KT,DT,e,l)) (L:=L) (f:=errI K e l L.length) (yes:=λi q=>.inl ((i:Int),q)) (no:=.inr ())
  (λi t hi=>by
   have hil:i<L.length:=(od.1 hi).1
   have hst:=hs t (gQ hi)
   have hIt:iW 20000000 (iF t) (d8 t).2.2.1 (d8 t).2.2.2 (K==4)=some (itI t (K==4)):=Hq _ _ hst.1 hst.2
   have hlast:w64 (len L - 1)=((L.length - 1:Nat):Int):=IM (by omega) (by omega)
   unfold dN
   simp only [u15,u14,u13,u12,u11,u10,u9,u8,u7,u6,u5,u4,u3,u2]
   rw [ar (show (i:Int)<len L by unfold len;omega),dp hil]
   simp only [aj,ob,hi,hIt]
   by_cases h0:itI t (K==4)=0
   ·rw [show (itI t (K==4) != 0)=false from by simp [h0],af]
    simp only [PC,hlast,HN,natB,u15,u14,u13,u12,u11,u10,u9,u8,u7,u6,u5,u4,u3,u2]
    rw [Qh _ _ _ _ _ _ _ _ _ _ _ _ _ _ _ hst.1]
    simp only [u11,u10,u9,u8,u7,u6,u5,u4,u3,u2]
    have e1:decide (i=L.length - 1)=decide (i+1=L.length):=by congr 1;exact propext (by omega)
    have e3:(decide (i=0)&&decide (i+1=L.length))=(decide (L.length=1)&&decide (i=0)):=by
     by_cases hi0:i=0
     ·subst hi0
      rw [ar rfl,mU,yi]
      congr 1;exact propext (by omega)
     ·rw [au hi0,Fq];rfl
    have e4:decide (L.length=1)=true->decide (i=0)=true:=λh=>ar (by have:=of_decide_eq_true h;omega)
    have hE:errI K e l L.length i t=if ((e&&decide (i=0))&&(l&&decide (i+1=L.length)))||(((e&&decide (i=0))||(l&&decide (i+1=L.length)))&&(rT t||!plT (iF t))) then 10 else 0:=by
     unfold errI endB
     rw [h0,ab (λh=>h rfl)]
     congr 1
     revert e3 e4
     generalize rT t=r
     generalize plT (iF t)=z
     generalize decide (i=0)=a
     generalize decide (i+1=L.length)=b
     generalize decide (L.length=1)=c
     cases e<;>cases l<;>cases z<;>cases r<;>cases a<;>cases b<;>cases c<;>simp
    rw [e1,sE (by omega),hE]
    generalize (((e&&decide (i=0))&&(l&&decide (i+1=L.length)))||(((e&&decide (i=0))||(l&&decide (i+1=L.length)))&&(rT t||!plT (iF t))))=z
    cases z<;>rfl
   ·have:errI K e l L.length i t=itI t (K==4):=ae h0
    rw [show (itI t (K==4) != 0)=true from by simp [h0],aj,this,ae h0])
  (by
   unfold dN
   simp only [u15,u14,u13,u12,u11,u10,u9,u8,u7,u6,u5,u4,u3,u2]
   rw [au (show ¬((L.length:Nat):Int)<len L by unfold len;omega)]
   rfl)
  L.length 0 (by omega) 20000000 (by omega)
 rw [gy] at this
 exact this
theorem DC {K:Int} {D:TD} {KF:Int} {DF:TD} {KT:Int} {DT:TD} {e l:Bool} {L:List TI} (h:smE D DF DT L):
  fL 20000000 K D KF DF KT DT e l L=some (iK K D KF DF KT DT e l L):=by
 obtain ⟨hD,hF,hT,hL⟩:=h
 have j3:ip 20000000 L K D KF DF KT DT e l=some (K==3||K==4,L,K,D,KF,DF,KT,DT,e,l):=by
  unfold ip
  cases (K==3)<;>rfl
 have j4:hZ 20000000 (K==3||K==4) L K D KF DF KT DT e l=some (K==3||K==4,!(K==1)&&(!(K==2)&&!(K==3||K==4)),L,K,D,KF,DF,KT,DT,e,l):=by
  unfold hZ
  rw [show (K != 1)=!(K==1) from rfl,show (K != 2)=!(K==2) from rfl]
  cases (K==1)<;>cases (K==2)<;>rfl
 have j7:hO 20000000 (K==3||K==4) L K D KF DF KT DT e l=some (unuB K D KF DF KT DT e l L.length,L,K,D,KF,DF,KT,DT,e,l):=by
  unfold hO unuB
  have hpos:decide (len L>0)=!decide (L.length=0):=by
   by_cases hl:L.length=0
   ·rw [ar hl,au (by unfold len;omega)];rfl
   ·rw [au hl,ar (by unfold len;omega)];rfl
  rw [show (K != 1)=!(K==1) from rfl,show (K != 2)=!(K==2) from rfl,hpos]
  generalize eqD D d0=z0
  generalize ((KF==0)&&((eqD DF d0)&&true))=z1
  generalize ((KT==0)&&((eqD DT d0)&&true))=z2
  generalize decide (L.length=0)=z3
  generalize (K==1)=k1
  generalize (K==2)=k2
  generalize (K==3)=k3
  generalize (K==4)=k4
  cases z0<;>cases z1<;>cases z2<;>cases z3<;>cases k1<;>cases k2<;>cases k3<;>cases k4<;>cases e<;>cases l<;>rfl
 unfold fL iK
 rw [j3]
 simp only [ob,u11,u10,u9,u8,u7,u6,u5,u4,u3,u2,j4]
 by_cases hk:K<1\/4<K
 ·rw [ae hk,show (K==1)=false from by simp;omega,show (K==2)=false from by simp;omega,show (K==3)=false from by simp;omega,show (K==4)=false from by simp;omega]
  rfl
 have hc4:(!(K==1)&&(!(K==2)&&!(K==3||K==4)))=false:=by
  rcases (by omega:K=1\/K=2\/K=3\/K=4) with rfl | rfl | rfl | rfl<;>rfl
 rw [ab hk,hc4]
 simp only [af,j7]
 cases unuB K D KF DF KT DT e l L.length
 ·simp only [af,bP,aE]
  by_cases k1:K=1
  ·rw [ae k1,show (K==1)=true from by simp [k1],rcT hD];rfl
  by_cases k2:K=2
  ·rw [ab k1,ae k2,show (K==1)=false from by simp [k1],show (K==2)=true from by simp [k2],P5 hF hT];rfl
  rw [ab k1,ab k2,show (K==1)=false from by simp [k1],show (K==2)=false from by simp [k2]]
  simp only [af]
  rw [show (len L==0)=decide (L.length=0) from HN _]
  by_cases l0:L.length=0
  ·rw [ar l0,ae l0];rfl
  rw [au l0,ab l0]
  by_cases l1:256<L.length
  ·rw [show decide (len L>256)=true from ar (by show (256:Int)<((L.length:Nat):Int);omega),ae l1];rfl
  rw [show decide (len L>256)=false from au (by show ¬(256:Int)<((L.length:Nat):Int);omega),ab l1,af,af,Lu (by omega) hL (by omega)]
  unfold rB
  cases mI (errI K e l L.length) 0 L<;>rfl
 ·rfl
theorem Nl {K:Int} {D:TD} {KF:Int} {DF:TD} {KT:Int} {DT:TD} {e l:Bool} {L:List TI} (h:smE D DF DT L):
  gp 20000000 K D KF DF KT DT e l L=some (iK K D KF DF KT DT e l L).2:=by
 unfold gp;rw [Gn h];rfl
abbrev TR:=oP
def natI (x:Int) (b:Nat):Prop:=0<=x/\x<(b:Int)
def wfD (a0 a2 a3 a4 a5 a6 a7 a8 a9:Int):Prop:=natI a0 256/\natI a2 65536/\natI a3 256/\natI a4 256/\natI a5 256/\natI a6 256/\natI a7 256/\natI a8 256/\natI a9 256
theorem Lc {p:TD} {all:Bool} (hp:plT p=true):itE p false d0 all=0:=by
 obtain ⟨hc,he,_⟩:=wh.1 hp
 rw [QL hc,he]
 have:eqD d0 d0=true:=m8.2 rfl
 rw [this];simp
def wfR (r:TR):Prop:=wfD r.1 r.2.2.1 r.2.2.2.1 (d4 r).1 (d4 r).2.1 (d4 r).2.2.1 (d4 r).2.2.2.1 (d8 r).1 (d8 r).2.1/\
 wfD (d8 r).2.2.2.1 (d4 (d8 r)).2.1 (d4 (d8 r)).2.2.1 (d4 (d8 r)).2.2.2.1 (d16 r).1 (d16 r).2.1 (d16 r).2.2.1 (d16 r).2.2.2.1 (d4 (d16 r))
theorem uB {A:Type} {f:Nat->A->Int}:∀{L:List A} {k:Nat},(∀i t,L[i]?=some t->f (k+i) t=0)->mI f k L=none
 | [],_,_=>rfl
 | t::r,k,h=>by
  have h0:=h 0 t rfl
  rw [cD] at h0
  rw [mI,ab (λh=>h h0)]
  exact uB λi u hu=>by rw [gO,oS 1 i];exact h (i+1) u hu
structure RightE (k:Int) (D:TD) (KF:Int) (DF:TD) (KT:Int) (DT:TD) (e l:Bool) (I:List TI):Prop where
 sm:smE D DF DT I
 first:iK k D KF DF KT DT e l I=(0,0)
 len:I.length<=5
 kind:1<=k/\k<=4
 its:∀t∈I,itI t (k==4)=0
theorem JE {k:Int} (hk:k=3\/k=4) {e l:Bool} {I:List TI} (h1:1<=I.length) (h5:I.length<=5) (hs:∀t∈I,smI t/\itI t (k==4)=0) (he:e=true->∃t,I[0]?=some t/\endB t=true)
  (hl:l=true->∃t,I[I.length - 1]?=some t/\endB t=true) (hel:e=true->l=true->I.length≠1):RightE k d0 0 d0 0 d0 e l I:=by
 refine ⟨⟨CG,CG,CG,λt ht=>(hs t ht).1⟩,?_,h5,by omega,λt ht=>(hs t ht).2⟩
 have hu:unuB k d0 0 d0 0 d0 e l I.length=false:=by
  have hz:eqD d0 d0=true:=m8.2 rfl
  unfold unuB
  rw [hz]
  rcases hk with rfl | rfl<;>rfl
 unfold iK
 rw [ab (by omega),ab (by rw [hu];simp),ab (by omega),ab (by omega),ab (by omega),ab (by omega)]
 unfold rB
 rw [uB λi t ht=>?_]
 rw [cY]
 have hil:i<I.length:=(od.1 ht).1
 unfold errI
 rw [(hs t (gQ ht)).2,ab (λh=>h rfl),ab]
 intro h
 simp only [gX,az,cb,kl] at h
 rcases h with ⟨⟨a,b⟩,c⟩ | ⟨⟨a,b⟩,c⟩ | ⟨a,b,c⟩
 ·obtain ⟨u,u1,u2⟩:=he a
  subst b
  rw [ht] at u1;cases u1
  rw [u2] at c;cases c
 ·obtain ⟨u,u1,u2⟩:=hl a
  rw [show I.length - 1=i by omega,ht] at u1;cases u1
  rw [u2] at c;cases c
 ·exact hel a b c
theorem xW {p:TD} {all:Bool} (hs:smT p) (hp:plT p=true):smI (mkI p false d0)/\itI (mkI p false d0) all=0/\endB (mkI p false d0)=true:=
 ⟨⟨hs,CG⟩,Lc hp,by unfold endB;show (!false&&plT p)=true;rw [hp];rfl⟩
theorem VV {L:List TR} (hL:∀r∈L,wfR r) {n:Nat} (h1:1<=n) (hn:n<=L.length) (h5:n<=5) {k:Int} (hk:k=3\/k=4) (e l:Bool) {I:List TI} (hI:I.length=n) (hit:∀t∈I,smI t/\itI t (k==4)=0)
  {p q:TD} (sp:smT p) (pp:plT p=true) (sq:smT q) (pq:plT q=true):
  RightE k d0 0 d0 0 d0 e (!(decide (n=1)&&e)&&l) (if l=true then (if e=true then I.set 0 (mkI p false d0) else I).set (n - 1) (mkI q false d0) else if e=true then I.set 0 (mkI p false d0) else I):=by
 obtain ⟨p1,p2,p3⟩:=xW (all:=(k==4)) sp pp
 obtain ⟨q1,q2,q3⟩:=xW (all:=(k==4)) sq pq
 have hA:∀t∈(if e=true then I.set 0 (mkI p false d0) else I),smI t/\itI t (k==4)=0:=by
  intro t ht
  split at ht
  ·rcases JF ht with h | h
   ·exact hit t h
   ·rw [h];exact ⟨p1,p2⟩
  ·exact hit t ht
 have hlA:(if e=true then I.set 0 (mkI p false d0) else I).length=n:=by split<;>simp [hI]
 have hA0:e=true->(if e=true then I.set 0 (mkI p false d0) else I)[0]?=some (mkI p false d0):=by
  intro h
  rw [ae h,Jd (by omega)]
 generalize hgA:(if e=true then I.set 0 (mkI p false d0) else I)=A at hA hlA hA0
 have hlB:(if l=true then A.set (n - 1) (mkI q false d0) else A).length=n:=by split<;>simp [hlA]
 have hB:∀t∈(if l=true then A.set (n - 1) (mkI q false d0) else A),smI t/\itI t (k==4)=0:=by
  intro t ht
  split at ht
  ·rcases JF ht with h | h
   ·exact hA t h
   ·rw [h];exact ⟨q1,q2⟩
  ·exact hA t ht
 refine JE hk (by omega) (by omega) hB (λhe=>?_) (λhl=>?_) (λhe hl=>?_)
 ·by_cases hl:l=true
  ·rw [ae hl]
   by_cases hn1:n=1
   ·subst hn1
    exact ⟨mkI q false d0,by rw [Jd (by omega)],q3⟩
   ·exact ⟨mkI p false d0,by rw [List.getElem?_set_ne (by omega)];exact hA0 he,p3⟩
  ·rw [ab hl]
   exact ⟨_,hA0 he,p3⟩
 ·simp only [az] at hl
  rw [ae hl.2,Ei,hlA]
  exact ⟨mkI q false d0,by rw [Jd (by omega)],q3⟩
 ·rw [he] at hl
  simp only [yi,az,kl,rZ] at hl
  rw [hlB]
  exact hl.1
noncomputable instance decTI:DecidableEq TI:=λa b=>Classical.propDecidable (a=b)
theorem D2 {t u:TI}:((eqD (iF t) (iF u))&&(((d8 t).2.2.1==(d8 u).2.2.1)&&((eqD (d8 t).2.2.2 (d8 u).2.2.2)&&true)))=decide (t=u):=by
 rw [uO,decide_eq_true_iff]
 have hs:∀a b c:Bool,(a&&(b&&(c&&true)))=true↔a=true/\b=true/\c=true:=by decide
 rw [hs,m8,m8,bB]
 obtain ⟨a1,a2,a3,a4,a5,a6,a7,a8,a9,a10,b,c⟩:=t
 obtain ⟨e1,e2,e3,e4,e5,e6,e7,e8,e9,e10,f,g⟩:=u
 simp only [bO,and_assoc]
noncomputable def difI (J:List TI) (i:Nat) (t:TI):Int:=if J[i]?=some t then 0 else 1
theorem Ky {J:List TI}:∀(I:List TI) (i:Nat),i+I.length=J.length->(mI (difI J) i I=none↔I=J.drop i)
 | [],i,h=>by
  rw [mI,jo (by simp at h;omega)]
  simp
 | t::r,i,h=>by
  have hi:i<J.length:=by simp at h;omega
  have hj:J[i]?=some J[i]:=bp hi
  rw [mI,wU hi]
  unfold difI
  by_cases he:J[i]?=some t
  ·rw [ae he,ab (by simp)]
   have:=Ky (J:=J) r (i+1) (by simp at h;omega)
   unfold difI at this
   rw [this]
   rw [hj] at he
   simp only [aq] at he
   simp [he]
  ·rw [ab he,ae (by simp)]
   rw [hj] at he
   simp only [aq] at he
   simp only [KU]
   constructor
   ·intro h;cases h
   ·rintro ⟨h,_⟩;exact absurd h.symm he
theorem LX (I J:List TI) (h:I.length=J.length) {A:Type} (a b:A):(match mI (difI J) 0 I with | some _=>a | none=>b)=if I=J then b else a:=by
 have:=Ky (J:=J) I 0 (by omega)
 rw [gy] at this
 cases hs:mI (difI J) 0 I with
 | none=>rw [ae (this.1 hs)]
 | some p=>rw [ab (λh=>by rw [this.2 h] at hs;cases hs)]
theorem AQ {I J:List TI} (h:I.length=J.length) (hn:I.length<=1000000) (k:Int) (D:TD) (KF:Int) (DF:TD) (KT:Int) (DT:TD) (e l:Bool) (k':Int) (D':TD) (KF':Int) (DF':TD) (KT':Int) (DT':TD) (e' l':Bool):
  am (bM 20000000) 20000000 (0,I,J,k,D,KF,DF,KT,DT,e,l,k',D',KF',DF',KT',DT',e',l')=some (if I=J then .inr () else .inl 0):=by
 have e2:(match mI (difI J) 0 I with | some p=>(.inl 0:Int⊕Unit) | none=>.inr ())=if I=J then .inr () else .inl 0:=LX I J h _ _
 rw [<-e2]
 have:=ug (step:=bM 20000000) (st:=λi=>((i:Int),I,J,k,D,KF,DF,KT,DT,e,l,k',D',KF',DF',KT',DT',e',l')) (L:=I) (f:=difI J) (yes:=λ_ _=>.inl (0:Int)) (no:=.inr ()) ?_ ?_ I.length 0 (by omega) 20000000 (by omega)
 ·rw [gy] at this
  exact this
 ·intro i t ht
  have hi:i<I.length:=(od.1 ht).1
  have hj:J[i]?=some (J[i]'(by omega)):=bp (by omega)
  generalize J[i]'(by omega)=u at hj
  unfold bM
  simp only [u19,u18,u17,u16,u15,u14,u13,u12,u11,u10,u9,u8,u7,u6,u5,u4,u3,u2]
  rw [ar (show (i:Int)<len I by show (i:Int)<((I.length:Nat):Int);omega),dp hi,dp (show i<J.length by omega)]
  simp only [aj,ob,ht,hj,D2]
  rw [sE (by omega)]
  unfold difI
  rw [hj]
  by_cases he:t=u
  ·rw [ar he,ab (by simp [he])]
   rfl
  ·rw [au he,ae (by simp only [aq];rw [ab (λh=>he h.symm)];simp)]
   rfl
 ·unfold bM
  simp only [u19,u18,u17,u16,u15,u14,u13,u12,u11,u10,u9,u8,u7,u6,u5,u4,u3,u2]
  rw [au (show ¬((I.length:Nat):Int)<len I by show ¬((I.length:Nat):Int)<((I.length:Nat):Int);omega)]
  rfl
theorem Ak (n:Nat) (t S R:aa) (at_:Int) (ht:t.length<4611686018427387904) (hn:t.length<n):
  am (dI n) n (t,0,R,S,at_)=some (((lcp R t:Nat):Int),S,at_):=by
 have:=fq (step:=dI n)
  (λx=>∃j:Nat,j<=t.length/\x=(t,(j:Int),R,S,at_)) (λx=>t.length - x.2.1.toNat)
  (λx=>(((x.2.1.toNat+lcp (R.drop x.2.1.toNat) (t.drop x.2.1.toNat):Nat):Int),S,at_)) ?_ n (t,0,R,S,at_) ⟨0,by omega,rfl⟩ (by simp;omega)
 ·simpa using this
 rintro x ⟨j,hj,rfl⟩
 simp only [bV,dI,QR]
 by_cases hlt:j<t.length/\j<R.length
 ·obtain ⟨h1,h2⟩:=hlt
  obtain ⟨c,hc⟩:∃c,t[j]?=some c:=⟨t[j],bp h1⟩
  obtain ⟨d,hd⟩:∃d,R[j]?=some d:=⟨R[j],bp h2⟩
  have hw:IntKind.wrap .i64 ((j:Int)+1)=((j+1:Nat):Int):=by rw [wrap_i64 _ (by omega) (by omega)];omega
  have hb:(decide ((j:Int)<((min t.length R.length:Nat):Int)))=true:=by simp only [cb];omega
  have hb2:(decide ((j:Int)<((min R.length t.length:Nat):Int)))=true:=by simp only [cb];omega
  simp only [hb,hb2,aj,eF hc,eF hd,ob,nJ,ci hc,ci hd,lcp]
  cases hcd:d==c with
  | true=>
   refine .inl ⟨_,rfl,⟨j+1,by omega,by rw [hw]⟩,?_,?_⟩
   ·simp only [hw,bV];omega
   ·simp only [hw,bV,bO,xq,aQ]
    omega
  | false=>exact .inr (by simp)
 ·have hb:(decide ((j:Int)<((min t.length R.length:Nat):Int)))=false:=by simp only [rZ];omega
  have hb2:(decide ((j:Int)<((min R.length t.length:Nat):Int)))=false:=by simp only [rZ];omega
  refine .inr ?_
  have hz:lcp (R.drop j) (t.drop j)=0:=by
   by_cases h1:j<t.length
   ·rw [jo (show R.length<=j by omega)];rfl
   ·rw [jo (show t.length<=j by omega)];cases R.drop j<;>rfl
  simp only [hb,hb2,hz,af,cD]
theorem ER (n:Nat) (t S:aa) (at_:Nat) (h:at_<=S.length) (hS:S.length<4611686018427387904) (ht:t.length<4611686018427387904) (hn:t.length<n):
  cX n t S (at_:Int)=some (if (S.drop at_).take t.length=t then .inl (S,((at_+t.length:Nat):Int)) else .inr (((at_+lcp (S.drop at_) t:Nat):Int),5,S,(at_:Int))):=by
 have hk:=wi (S.drop at_) t
 rw [co] at hk
 simp only [cX,rn n t S at_ h hS,ob]
 by_cases hp:(S.drop at_).take t.length=t
 ·simp [hp]
 ·have hw:IntKind.wrap .i64 ((at_:Int)+((lcp (S.drop at_) t:Nat):Int))=((at_+lcp (S.drop at_) t:Nat):Int):=by rw [wrap_i64 _ (by omega) (by omega)];omega
  simp only [hp,aE,af,y9 n S at_ h,Ak n t S (S.drop at_) (at_:Int) ht hn,CW,hw,vh]
  simp
def tdR (r:DR):TD:=(r.1,r.2.1,r.2.2.1,(r.2.2.2.1:Int),(r.2.2.2.2.1:Int),r.2.2.2.2.2.1,r.2.2.2.2.2.2.1,(r.2.2.2.2.2.2.2.1.1:Int),(r.2.2.2.2.2.2.2.1.2.1:Int),(r.2.2.2.2.2.2.2.1.2.2:Int))
theorem re {S:aa} {a:Nat} (h:a<=S.length) {r:DR} (hr:iq S a=.inr r):smT (tdR r)/\cF (tdR r)=0/\a<=enR r/\enR r<=S.length:=by
 obtain ⟨h1,h2⟩:=N4 h hr
 obtain ⟨g,l,dg,x,s,m,d,M,P,e⟩:=r
 have ok:=An h h1
 have:=ok.dg17
 have:=ok.m2
 have:=ok.d2
 refine ⟨⟨by show m.length<=18;omega,by show dg.length<=100;omega,by show d.length<=18;omega,by show (0:Int)<=(M.1:Int);omega,by show (0:Int)<=(M.2.1:Int);omega,by show (0:Int)<=(M.2.2:Int);omega⟩,?_,ok.le,ok.end_⟩
 have hc:=uA (g:=g) (l:=l) (dg:=dg) (x:=(x:Int)) (q:=(s:Int)) (m:=m) (d:=d) (k0:=(M.1:Int)) (k1:=(M.2.1:Int)) (k2:=(M.2.2:Int)) (xg ok.all)
 unfold chkR at h2
 simp only [] at h2
 show chkF g l dg (x:Int) (s:Int) m d (M.1:Int) (M.2.1:Int) (M.2.2:Int)=0
 omega
def dts (l:aa):Bool:=l.take 2==[46,46]
theorem tW {l:aa}:dts l=true↔∃r,l=46::46::r:=by
 unfold dts
 rw [bB]
 constructor
 ·exact Hl
 ·rintro ⟨r,rfl⟩;rfl
theorem pR {S:aa} {p:Nat} (h:dts (S.drop p)=true):p+2<=S.length:=by
 obtain ⟨r,hr⟩:=tW.1 h
 have:=dm List.length hr
 simp at this
 omega
noncomputable def nz (S:aa) (en:UInt8) (p:Nat):(Nat×Nat×Nat)⊕(TI×Nat×Nat):=
 match iq S p with
 | .inl f=>.inl f
 | .inr r=>if dts (S.drop (enR r))=true/\(S.drop (enR r+2)).head?≠some en then
   match iq S (enR r+2) with
   | .inl f=>.inl f
   | .inr r2=>.inr (mkI (tdR r) true (tdR r2),plR r,enR r2)
  else .inr (mkI (tdR r) false d0,plR r,enR r)
theorem vP {S:aa} {en:UInt8} {p:Nat} (h:p<=S.length) {t:TI} {a p':Nat} (hr:nz S en p=.inr (t,a,p')):smI t/\p<=p'/\p'<=S.length:=by
 unfold nz at hr
 cases h1:iq S p with
 | inl f=>rw [h1] at hr;cases hr
 | inr r=>
  obtain ⟨s1,_,l1,l2⟩:=re h h1
  rw [h1] at hr
  simp only [] at hr
  split at hr
  ·rename_i hd
   have:=pR hd.1
   cases h2:iq S (enR r+2) with
   | inl f=>rw [h2] at hr;cases hr
   | inr r2=>
    obtain ⟨s2,_,l3,l4⟩:=re (by omega) h2
    rw [h2] at hr
    cases hr
    exact ⟨⟨s1,s2⟩,by omega,l4⟩
  ·cases hr
   exact ⟨⟨s1,CG⟩,l1,l2⟩
noncomputable def ka (S:aa) (en:UInt8):Nat->Nat->List Nat->List TI->(Nat×Nat×Nat)⊕(Nat×List Nat×List TI)
 | 0,p,_,_=>.inl (p,3,p)
 | r+1,p,P,I=>match nz S en p with
  | .inl f=>.inl f
  | .inr (t,a,p')=>if (S.drop p').head?=some 44 then ka S en r (p'+1) (P++[a]) (I++[t]) else .inr (p',P++[a],I++[t])
theorem mX {S:aa} {p:Nat} {c:UInt8} (h:(S.drop p).head?=some c):p+1<=S.length:=by
 cases hd:S.drop p with
 | nil=>rw [hd] at h;cases h
 | cons a r=>
  have:=dm List.length hd
  simp at this
  omega
theorem tJ {S:aa} {en:UInt8}:∀(r p:Nat) (P:List Nat) (I:List TI),p<=S.length->P.length=I.length->(∀t∈I,smI t)->∀{p':Nat} {P':List Nat} {I':List TI},ka S en r p P I=.inr (p',P',I')->
  p'<=S.length/\P'.length=I'.length/\I.length<I'.length/\I'.length<=I.length+r/\(∀t∈I',smI t)
 | 0,p,P,I,_,_,_,p',P',I',e=>by cases e
 | r+1,p,P,I,h,hl,hs,p',P',I',e=>by
  rw [ka] at e
  cases h1:nz S en p with
  | inl f=>rw [h1] at e;cases e
  | inr q=>
   obtain ⟨t,a,p1⟩:=q
   obtain ⟨s1,l1,l2⟩:=vP h h1
   rw [h1] at e
   simp only [] at e
   have hs':∀u∈I++[t],smI u:=λu hu=>by
    rcases nU.1 hu with h | h
    ·exact hs u h
    ·rw [D6.1 h];exact s1
   split at e
   ·rename_i hh
    obtain ⟨q1,q2,q3,q4,q5⟩:=tJ r (p1+1) (P++[a]) (I++[t]) (mX hh) (by simp [hl]) hs' e
    rw [aM,List.length_singleton] at q3 q4
    exact ⟨q1,q2,by omega,by omega,q5⟩
   ·cases e
    exact ⟨l2,by simp [hl],by simp,by simp,hs'⟩
theorem dts3 (S:aa) (p:Nat) (c:UInt8):((S.drop p).take [46,46,c].length==[46,46,c])=(dts (S.drop p)&&decide ((S.drop (p+2)).head?=some c)):=by
 rw [<-kR]
 generalize S.drop p=l
 unfold dts
 match l with
 | []=>rfl
 | [a]=>simp
 | [a,b]=>simp
 | a::b::d::r=>
  rw [uO]
  simp [and_assoc]
def endC (K:Int):UInt8:=if K=4 then 125 else 93
theorem wA {K:Int} (hK:K=3\/K=4) (n:Nat):dU n K=some ([if K=4 then 123 else 91],[endC K]):=by
 rcases hK with rfl | rfl<;>rfl
theorem Tv (c:UInt8) {S:aa} {p:Nat} (h:p<=S.length) (x1 x4:Int) (x5:Bool) (x6:List Int) (x7:TD) (x8 x9:List TI):
  lr 20000000 [c] x1 S (p:Int) x4 x5 x6 x7 x8 x9=some ([c],x1,dts (S.drop p)&&!decide ((S.drop (p+2)).head?=some c),S,(p:Int),x4,x5,x6,x7,x8,x9):=by
 unfold lr
 rw [IP _ _ _ _ h]
 have hc:cat [46,46] [c]=some [46,46,c]:=rfl
 simp only [ob,hc,IP _ _ _ _ h,dts3]
 show cond (dts (S.drop p)) _ _=_
 cases hd:dts (S.drop p)
 ·rfl
 ·cases decide ((S.drop (p+2)).head?=some c)<;>rfl
theorem tk1 (l:aa) (c:UInt8):l.take [c].length=[c]↔l.head?=some c:=by
 cases l<;>simp
theorem HW (S:aa) (r:DR):RF S (.inr r)=.inr ((tdR r).1,(tdR r).2.1,(tdR r).2.2.1,(tdR r).2.2.2.1,(tdR r).2.2.2.2.1,(tdR r).2.2.2.2.2.1,(tdR r).2.2.2.2.2.2.1,(tdR r).2.2.2.2.2.2.2.1,(tdR r).2.2.2.2.2.2.2.2.1,(tdR r).2.2.2.2.2.2.2.2.2,((plR r:Nat):Int),S,((enR r:Nat):Int)):=rfl
theorem R1 (b:Bool) (c:UInt8) {S:aa} {p:Nat} (h:p<=S.length) (hS:S.length<100000) (hb:b=true->dts (S.drop p)=true) (x1 x5:Int) (x6:Bool) (x7:List Int) (x8:TD) (x9 x10:List TI):
  lw 20000000 [c] x1 b S (p:Int) x5 x6 x7 x8 x9 x10=some (if b=true then (match iq S (p+2) with
   | .inl f=>.inl ((f.1:Int),(f.2.1:Int),S,(f.2.2:Int))
   | .inr r=>.inr ([c],x1,S,((enR r:Nat):Int),x5,x6,x7,x8,true,tdR r,x9,x10)) else .inr ([c],x1,S,(p:Int),x5,x6,x7,x8,false,d0,x9,x10)):=by
 unfold lw
 cases b
 ·rfl
 ·have hd:=hb rfl
  have hl:=pR hd
  have ht:(S.drop p).take [(46:UInt8),46].length=[46,46]:=by
   obtain ⟨r,hr⟩:=tW.1 hd
   rw [hr];rfl
  rw [aj,ER _ _ _ _ h (by omega) (by simp) (by simp),ae ht,ae rfl]
  show obs (jl 20000000 S ((p+2:Nat):Int)) _ _=_
  rw [IQ S (p+2) hl hS]
  cases iq S (p+2) with
  | inl f=>rfl
  | inr r=>rfl
theorem qE {α:Type} {I:List α} (h:I.length<=256):Nat.ble (I.length+1) gD=true:=dG (by unfold gD;omega)
abbrev gV (P:List Nat):List Int:=P.map λk:Nat=>(k:Int)
theorem Rm (c:UInt8) {S:aa} {p:Nat} (h:p<=S.length) (hS:S.length<100000) (K:Int) (e:Bool) {P:List Nat} (J:List TI) {I:List TI} (hI:I.length<256) (hP:P.length=I.length):
  eW 20000000 ([c],S,(p:Int),K,e,gV P,J,I)=some (match nz S c p with
   | .inl f=>.inr (.inl ((f.1:Int),(f.2.1:Int),S,(f.2.2:Int)))
   | .inr (t,a,p')=>if (S.drop p').head?=some 44 then .inl ([c],S,((p'+1:Nat):Int),K,e,gV (P++[a]),J,I++[t])
    else .inr (.inr ([c],S,((if dts (S.drop p') then p'+2 else p':Nat):Int),0,d0,0,d0,0,d0,false,false,K,d0,0,d0,0,d0,e,dts (S.drop p'),gV (P++[a]),J,I++[t]))):=by
 have fin:∀(t:TI) (a p':Nat),p'<=S.length->(ob (aK 20000000 [44] S (p':Int)) (u3 λv35 v36 v37=>(cond v35 (some (.inl ([c],v36,v37,K,e,(gV P++([(a:Int)]:List (Int))),J,(I++([t]:List TI))))) (ob (aK 20000000 [46,46] v36 v37) (u3 λv38 v39 v40=>(cond v38 (some (.inr (.inr ([c],v39,v40,0,d0,0,d0,0,d0,false,false,K,d0,0,d0,0,d0,e,true,(gV P++([(a:Int)]:List (Int))),J,(I++([t]:List TI)))))) (some (.inr (.inr ([c],v39,v40,0,d0,0,d0,0,d0,false,false,K,d0,0,d0,0,d0,e,false,(gV P++([(a:Int)]:List (Int))),J,(I++([t]:List TI))))))))))):Option ((aa×aa×Int×Int×Bool×List (Int)×List TI×List TI)⊕((Int×Int×aa×Int)⊕(aa×aa×Int×Int×TD×Int×TD×Int×TD×Bool×Bool×Int×TD×Int×TD×Int×TD×Bool×Bool×List (Int)×List TI×List TI)))) =
   some (if (S.drop p').head?=some 44 then .inl ([c],S,((p'+1:Nat):Int),K,e,gV (P++[a]),J,I++[t])
    else .inr (.inr ([c],S,((if dts (S.drop p') then p'+2 else p':Nat):Int),0,d0,0,d0,0,d0,false,false,K,d0,0,d0,0,d0,e,dts (S.drop p'),gV (P++[a]),J,I++[t]))):=by
  intro t a p' hp'
  have hn:gV (P++[a])=gV P++[(a:Int)]:=by simp [gV]
  rw [rn _ _ _ _ hp' (by omega),hn]
  simp only [ob,u3,u2,tk1]
  by_cases hc:(S.drop p').head?=some 44
  ·rw [ae hc,ae hc];rfl
  ·rw [ab hc,ab hc]
   simp only [af]
   rw [rn _ _ _ _ hp' (by omega)]
   cases hd:dts (S.drop p')
   ·rw [ab (show ¬(S.drop p').take [(46:UInt8),46].length=[46,46] from λh=>by unfold dts at hd;rw [show (S.drop p').take 2=[46,46] from h] at hd;cases hd)]
    rfl
   ·rw [ae (show (S.drop p').take [(46:UInt8),46].length=[46,46] from eq_of_beq hd)]
    rfl
 unfold eW
 simp only [u8,u7,u6,u5,u4,u3,u2]
 rw [show (len I==256)=false from by show (((I.length:Nat):Int)==256)=false;simp;omega,af,IQ S p h hS]
 unfold nz
 cases h1:iq S p with
 | inl f=>rfl
 | inr r=>
  obtain ⟨s1,_,l1,l2⟩:=re h h1
  rw [HW]
  simp only [obs,sm,ob]
  rw [show (d4 (d8 ((tdR r).1,(tdR r).2.1,(tdR r).2.2.1,(tdR r).2.2.2.1,(tdR r).2.2.2.2.1,(tdR r).2.2.2.2.2.1,(tdR r).2.2.2.2.2.2.1,(tdR r).2.2.2.2.2.2.2.1,(tdR r).2.2.2.2.2.2.2.2.1,(tdR r).2.2.2.2.2.2.2.2.2,((plR r:Nat):Int),S,((enR r:Nat):Int))))=((enR r:Nat):Int) from rfl,Tv c l2]
  simp only [u11,u10,u9,u8,u7,u6,u5,u4,u3,u2]
  rw [R1 _ c l2 hS (λh=>by simp at h;exact h.1)]
  have hb:(dts (S.drop (enR r))&&!decide ((S.drop (enR r+2)).head?=some c))=true↔(dts (S.drop (enR r))=true/\(S.drop (enR r+2)).head?≠some c):=by simp
  by_cases hd:dts (S.drop (enR r))=true/\(S.drop (enR r+2)).head?≠some c
  ·rw [ae (hb.2 hd),ae hd]
   cases h2:iq S (enR r+2) with
   | inl f=>rfl
   | inr r2=>
    obtain ⟨s2,_,l3,l4⟩:=re (pR hd.1) h2
    simp only [u12,u11,u10,u9,u8,u7,u6,u5,u4,u3,u2]
    rw [qE (by omega),qE (by simp;omega)]
    exact fin (mkI (tdR r) true (tdR r2)) (plR r) (enR r2) l4
  ·rw [ab (λh=>hd (hb.1 h)),ab hd]
   simp only [u12,u11,u10,u9,u8,u7,u6,u5,u4,u3,u2]
   rw [qE (by omega),qE (by simp;omega)]
   exact fin (mkI (tdR r) false d0) (plR r) (enR r) l2
theorem QH (c:UInt8) (S:aa) (p K:Int) (e:Bool) (P:List Int) (J:List TI) {I:List TI} (hI:I.length=256):
  eW 20000000 ([c],S,p,K,e,P,J,I)=some (.inr (.inl (p,3,S,p))):=by
 unfold eW
 simp only [u8,u7,u6,u5,u4,u3,u2]
 rw [show (len I==256)=true from by show (((I.length:Nat):Int)==256)=true;rw [hI];rfl]
 rfl
def Va (S:aa) (c:UInt8) (K:Int) (e:Bool) (J:List TI):(Nat×Nat×Nat)⊕(Nat×List Nat×List TI)->(Int×Int×aa×Int)⊕(aa×aa×Int×Int×TD×Int×TD×Int×TD×Bool×Bool×Int×TD×Int×TD×Int×TD×Bool×Bool×List (Int)×List TI×List TI)
 | .inl f=>.inl ((f.1:Int),(f.2.1:Int),S,(f.2.2:Int))
 | .inr (p,P,I)=>.inr ([c],S,((if dts (S.drop p) then p+2 else p:Nat):Int),0,d0,0,d0,0,d0,false,false,K,d0,0,d0,0,d0,e,dts (S.drop p),gV P,J,I)
theorem QZ (c:UInt8) {S:aa} (hS:S.length<100000) (K:Int) (e:Bool) (J:List TI):∀(r p:Nat) (P:List Nat) (I:List TI),I.length+r=256->p<=S.length->P.length=I.length->∀N,r<N->
  am (eW 20000000) N ([c],S,(p:Int),K,e,gV P,J,I)=some (Va S c K e J (ka S c r p P I)):=by
 intro r
 induction r with
 | zero=>
  intro p P I hr hp hl N hN
  obtain ⟨N,rfl⟩:∃k,N=k+1:=⟨N - 1,by omega⟩
  rw [am,QH c S _ K e _ J (by omega)]
  rfl
 | succ r ih=>
  intro p P I hr hp hl N hN
  obtain ⟨N,rfl⟩:∃k,N=k+1:=⟨N - 1,by omega⟩
  rw [am,Rm c hp hS K e J (by omega) hl,ka]
  cases h1:nz S c p with
  | inl f=>rfl
  | inr q=>
   obtain ⟨t,a,p'⟩:=q
   obtain ⟨_,l1,l2⟩:=vP hp h1
   simp only []
   by_cases hc:(S.drop p').head?=some 44
   ·rw [ae hc,ae hc]
    exact ih (p'+1) (P++[a]) (I++[t]) (by simp;omega) (mX hc) (by simp [hl]) N (by omega)
   ·rw [ab hc,ab hc]
    rfl
theorem n9 {X X' Y Y':Type} {s:X->Option (X⊕Y)} {s':X'->Option (X'⊕Y')} (f:X->X') (g:Y->Y') (h:∀x,s' (f x)=(s x).map (Sum.map f g)):∀(n:Nat) (x:X),am s' n (f x)=(am s n x).map g
 | 0,_=>rfl
 | n+1,x=>by
  rw [am,am,h]
  cases s x with
  | none=>rfl
  | some z=>
   cases z with
   | inl y=>exact n9 f g h n y
   | inr y=>rfl
theorem Rh (n:Nat) (K:Int) (D:TD) (KF:Int) (DF:TD) (KT:Int) (DT:TD) (c:Nat) (e l:Bool) (L:List TI):mN n K D KF DF KT DT L.length c e l L=lc n K D KF DF KT DT e l L:=by
 unfold mN lc
 have:=n9 (s:=eZ n) (s':=jG n) (u12 λx0 x1 x2 x3 x4 x5 x6 x7 x8 x9 x10 x11=>(x2.length,c,x0,x1,x2,x3,x4,x5,x6,x7,x8,x2.length,c,x9,x10,x11)) id (by
  rintro ⟨x0,x1,x2,x3,x4,x5,x6,x7,x8,x9,x10,x11⟩
  unfold eZ jG
  simp only [u16,u15,u14,u13,u12,u11,u10,u9,u8,u7,u6,u5,u4,u3,u2]
  cases decide (x1<x0)
  ·rfl
  ·simp only [aj]
   cases ix x2.length x1 with
   | none=>rfl
   | some i=>
    simp only [ob]
    cases x2[i]? with
    | none=>rfl
    | some t=>
     simp only [ob]
     cases fJ n (iF t) (d8 t).2.2.1 (d8 t).2.2.2 x3 with
     | none=>rfl
     | some v=>
      simp only [ob]
      rw [show l7 n v 10 10 10 (iF t) (d8 t).2.2.1 (d8 t).2.2.2 x3 x4 x5 x6 x7 x8 x2.length c x9 x10 x1 x11 x2=gi n v 10 10 10 (iF t) (d8 t).2.2.1 (d8 t).2.2.2 x3 x4 x5 x6 x7 x8 x9 x10 x1 x11 x2 from rfl]
      cases gi n v 10 10 10 (iF t) (d8 t).2.2.1 (d8 t).2.2.2 x3 x4 x5 x6 x7 x8 x9 x10 x1 x11 x2 with
      | none=>rfl
      | some z=>
       simp only [ob]
       cases (z != 0)<;>rfl) n (len L,0,L,K,D,KF,DF,KT,DT,e,l,w64 (len L - 1))
 simp only [u12,u11,u10,u9,u8,u7,u6,u5,u4,u3,u2] at this
 rw [show (L.length,c,((L.length:Nat):Int),(0:Int),L,K,D,KF,DF,KT,DT,L.length,c,e,l,w64 (((L.length:Nat):Int) - 1))=(L.length,c,len L,0,L,K,D,KF,DF,KT,DT,L.length,c,e,l,w64 (len L - 1)) from rfl,this]
 rw [D9]
 rfl
theorem J6 (n:Nat) (K:Int) (D:TD) (KF:Int) (DF:TD) (KT:Int) (DT:TD) (c:Nat) (e l:Bool) (L:List TI):fW n K D KF DF KT DT L.length c e l L=lh n K D KF DF KT DT e l L:=by
 unfold fW lh
 rw [Rh,show nT n K D KF DF KT DT L.length c e l L=lH n K D KF DF KT DT e l L from rfl]
theorem xY {K:Int} {D:TD} {KF:Int} {DF:TD} {KT:Int} {DT:TD} {e l:Bool} {L:List TI} (h:smE D DF DT L) (c:Nat):
  fW 20000000 K D KF DF KT DT L.length c e l L=some (iK K D KF DF KT DT e l L):=(J6 _ _ _ _ _ _ _ _ _ _ _).trans (Gn h)
theorem HE {K:Int} {D:TD} {KF:Int} {DF:TD} {KT:Int} {DT:TD} {e l:Bool} {L:List TI} (h:smE D DF DT L) (c:Nat):
  eP 20000000 K D KF DF KT DT L.length c e l L=some (iK K D KF DF KT DT e l L).2:=by
 unfold eP;rw [xY h];rfl
noncomputable def setE (K:Int) (e l:Bool) (I:List TI):Int×Int:=iK K d0 0 d0 0 d0 e l I
noncomputable def endL (S:aa) (K:Int) (e:Bool) (p:Nat) (P:List Nat) (I:List TI):(Nat×Nat×Nat)⊕(Int×Bool×Bool×List TI×Nat):=
 if (S.drop (if dts (S.drop p) then p+2 else p)).head?=some (endC K) then
  if (setE K e (dts (S.drop p)) I).2=0 then .inr (K,e,dts (S.drop p),I,(if dts (S.drop p) then p+2 else p)+1)
  else .inl (P.getD (setE K e (dts (S.drop p)) I).1.toNat 0,10,(if dts (S.drop p) then p+2 else p)+1)
 else .inl ((if dts (S.drop p) then p+2 else p),5,(if dts (S.drop p) then p+2 else p))
noncomputable def uj (S:aa) (a:Nat) (K:Int):(Nat×Nat×Nat)⊕(Int×Bool×Bool×List TI×Nat):=
 match ka S (endC K) 256 (if dts (S.drop (a+1)) then a+3 else a+1) [] [] with
 | .inl f=>.inl f
 | .inr (p,P,I)=>endL S K (dts (S.drop (a+1))) p P I
noncomputable def su (S:aa) (a:Nat):(Nat×Nat×Nat)⊕(Int×Bool×Bool×List TI×Nat):=
 if (S.drop a).head?=some 91 then uj S a 3 else if (S.drop a).head?=some 123 then uj S a 4 else .inl (a,5,a)
theorem Je {K:Int} (hK:K=3\/K=4) {e l:Bool} {I:List TI} (h1:1<=I.length):∃i:Nat,(setE K e l I).1=(i:Int)/\i<I.length:=by
 have hi:∃i:Nat,(rB K e l I).1=(i:Int)/\i<I.length:=by
  unfold rB
  have:∀(J:List TI) (k:Nat) (p:Nat×Int),mI (errI K e l I.length) k J=some p->p.1<k+J.length:=by
   intro J
   induction J with
   | nil=>intro k p h;cases h
   | cons t r ih=>
    intro k p h
    rw [mI] at h
    split at h
    ·cases h;simp
    ·have:=ih (k+1) p h
     simp;omega
  cases hs:mI (errI K e l I.length) 0 I with
  | none=>exact ⟨0,rfl,by omega⟩
  | some p=>exact ⟨p.1,rfl,by have:=this I 0 p hs;omega⟩
 unfold setE iK
 rw [ab (by omega)]
 split
 ·exact ⟨0,rfl,by omega⟩
 ·rw [ab (by omega),ab (by omega),ab (by omega)]
  split
  ·exact ⟨0,rfl,by omega⟩
  ·exact hi
theorem DJ {I:List TI} (h:∀t∈I,smI t):smE d0 d0 d0 I:=⟨CG,CG,CG,h⟩
theorem Vl (n:Nat) (I:List TI):bz n I=some (I.length,I.length):=by
 unfold bz
 rw [gG (aV _)]
 show ob (bx I.length ((I.length:Nat):Int)) _=_
 rw [gG (aV _)]
 rfl
def II (S:aa):(Nat×Nat×Nat)⊕(Int×Bool×Bool×List TI×Nat)->(Int×Int×aa×Int)⊕(Int×TD×Int×TD×Int×TD×Nat×Nat×Bool×Bool×aa×Int×List TI)
 | .inl f=>.inl ((f.1:Int),(f.2.1:Int),S,(f.2.2:Int))
 | .inr (K,e,l,I,p)=>.inr (K,d0,0,d0,0,d0,I.length,I.length,e,l,S,(p:Int),I)
theorem Rw {S:aa} (hS:S.length<100000) {K:Int} (hK:K=3\/K=4) (e:Bool) {p:Nat} (hp:p<=S.length) {P:List Nat} {I:List TI} (hP:P.length=I.length) (h1:1<=I.length) (hs:∀t∈I,smI t):
  (obs (cX 20000000 [endC K] S ((if dts (S.drop p) then p+2 else p:Nat):Int)) (u2 λv33 v34=>(ob (bz 20000000 I) (u2 λv35 v36=>(ob (fW 20000000 K d0 0 d0 0 d0 v35 v36 e (dts (S.drop p)) I) (u2 λv37 v38=>(cond (v38 != 0) (ob (ix (List.length (gV P)) v37) λv39=>(ob ((gV P)[v39]?) λv40=>(ob (ba 20000000 v40 10 v33 v34) (u2 λv41 v42=>(some (.inl (v41,v42,v33,v34))))))) (some (.inr (K,d0,0,d0,0,d0,v35,v36,e,(dts (S.drop p)),v33,v34,I))))))))) (u4 λv43 v44 v45 v46=>(some (.inl (v43,v44,v45,v46))))) =
   some (II S (endL S K e p P I)):=by
 have hq:(if dts (S.drop p) then p+2 else p:Nat)<=S.length:=by
  split
  ·rename_i h;exact pR h
  ·exact hp
 unfold endL
 generalize (if dts (S.drop p) then p+2 else p:Nat)=q at *
 generalize dts (S.drop p)=l
 rw [ER _ _ _ _ hq (by omega) (by simp) (by simp)]
 simp only [tk1]
 by_cases hc:(S.drop q).head?=some (endC K)
 ·rw [ae hc,ae hc]
  simp only [obs,sm,ob,u2,Vl,xY (DJ hs)]
  obtain ⟨i,e1,e2⟩:=Je hK (e:=e) (l:=l) h1
  show cond ((setE K e l I).2 != 0) (ob (ix (gV P).length (setE K e l I).1) _) _=_
  by_cases h0:(setE K e l I).2=0
  ·rw [ae h0,show ((setE K e l I).2 != 0)=false from by simp [h0]]
   rfl
  ·have hi:i<(gV P).length:=by simp [gV];omega
   rw [ab h0,show ((setE K e l I).2 != 0)=true from by simp [h0],e1,dp hi]
   have hg:(gV P)[i]?=some ((P.getD i 0:Nat):Int):=by
    have hi':i<P.length:=by omega
    simp [gV,bp hi']
   simp only [aj,ob,hg]
   rfl
 ·rw [ab hc,ab hc]
  have:lcp (S.drop q) [endC K]=0:=by
   cases hd:S.drop q with
   | nil=>rfl
   | cons a r=>
    rw [hd] at hc
    simp only [lcp]
    rw [show (a==endC K)=false from by rw [aN];rintro rfl;exact hc rfl]
    rfl
  rw [this]
  rfl
theorem O1 {S:aa} {a:Nat} (h:a<=S.length) (hS:S.length<100000):rc 20000000 S (a:Int)=some (II S (su S a)):=by
 have main:∀(K:Int) (hK:K=3\/K=4) (ha:a+1<=S.length),(ob (mB 20000000 (K==4) S ((a+1:Nat):Int) ([]:List TI) ([]:List TI)) (u5 λv7 v8 v9 v10 v11=>(ob (dU 20000000 v9) (u2 λ_ v12=>(ob (aK 20000000 [46,46] v7 v8) (u3 λv13 v14 v15=>(obs (am (eW 20000000) 20000000 (v12,v14,v15,v9,v13,([]:List (Int)),v10,v11)) (u4 λv16 v17 v18 v19=>(some (.inl (v16,v17,v18,v19)))) (u22 λv20 v21 v22 _ _ _ _ _ _ _ _ v23 v24 v25 v26 v27 v28 v29 v30 v31 _ v32=>(obs (cX 20000000 v20 v21 v22) (u2 λv33 v34=>(ob (bz 20000000 v32) (u2 λv35 v36=>(ob (fW 20000000 v23 v24 v25 v26 v27 v28 v35 v36 v29 v30 v32) (u2 λv37 v38=>(cond (v38 != 0) (ob (ix (List.length v31) v37) λv39=>(ob (v31[v39]?) λv40=>(ob (ba 20000000 v40 10 v33 v34) (u2 λv41 v42=>(some (.inl (v41,v42,v33,v34))))))) (some (.inr (v23,v24,v25,v26,v27,v28,v35,v36,v29,v30,v33,v34,v32))))))))) (u4 λv43 v44 v45 v46=>(some (.inl (v43,v44,v45,v46))))))))))))) =
   some (II S (uj S a K)):=by
  intro K hK ha
  have hj:mB 20000000 (K==4) S ((a+1:Nat):Int) ([]:List TI) ([]:List TI)=some (S,((a+1:Nat):Int),K,[],[]):=by
   rcases hK with rfl | rfl<;>rfl
  have ht:aK 20000000 [46,46] S ((a+1:Nat):Int)=some (dts (S.drop (a+1)),S,((if dts (S.drop (a+1)) then a+3 else a+1:Nat):Int)):=by
   rw [rn _ _ _ _ ha (by omega)]
   cases hd:dts (S.drop (a+1))
   ·rw [ab (show ¬(S.drop (a+1)).take [(46:UInt8),46].length=[46,46] from λh=>by unfold dts at hd;rw [show (S.drop (a+1)).take 2=[46,46] from h] at hd;cases hd)]
    rfl
   ·rw [ae (show (S.drop (a+1)).take [(46:UInt8),46].length=[46,46] from eq_of_beq hd)]
    rfl
  have hp:(if dts (S.drop (a+1)) then a+3 else a+1:Nat)<=S.length:=by
   split
   ·rename_i h;have:=pR h;omega
   ·exact ha
  have hl:=QZ (endC K) hS K (dts (S.drop (a+1))) [] 256 (if dts (S.drop (a+1)) then a+3 else a+1) [] [] (by simp) hp rfl 20000000 (by omega)
  simp only [hj,wA hK,ht,ob,u5,u4,u3,u2]
  rw [show am (eW 20000000) 20000000 ([endC K],S,((if dts (S.drop (a+1)) then a+3 else a+1:Nat):Int),K,dts (S.drop (a+1)),([]:List Int),([]:List TI),([]:List TI))=_ from hl]
  unfold uj
  cases hr:ka S (endC K) 256 (if dts (S.drop (a+1)) then a+3 else a+1) [] [] with
  | inl f=>rfl
  | inr q=>
   obtain ⟨p,P,I⟩:=q
   obtain ⟨q1,q2,q3,q4,q5⟩:=tJ 256 _ [] [] hp rfl (λt ht=>by cases ht) hr
   have q3':1<=I.length:=by rw [bj] at q3;omega
   exact Rw hS hK (dts (S.drop (a+1))) q1 q2 q3' q5
 unfold rc su
 rw [zL _ _ _ _ h (by omega)]
 cases hd:S.drop a with
 | nil=>rfl
 | cons c r=>
  have ha:a+1<=S.length:=by
   have:=dm List.length hd
   simp at this;omega
  simp only [qg,aq]
  by_cases h1:c=91
  ·subst h1
   rw [ae rfl]
   exact main 3 (.inl rfl) ha
  ·by_cases h2:c=123
   ·subst h2
    rw [ae rfl]
    exact main 4 (.inr rfl) ha
   ·rw [ab h1,ab h2]
    have:hasB [91,123] c=false:=by
     unfold hasB
     simp only [Jp,List.any_nil,HT,rE,aN]
     exact ⟨λh=>h1 h.symm,λh=>h2 h.symm⟩
    rw [this]
    rfl
def rat (l:aa):Nat:=match l with | c::_=>c.toNat | []=>0
theorem Lm (n:Nat) (S:aa) (p:Nat):cT n S (p:Int)=some ((rat (S.drop p):Nat):Int):=by
 unfold cT
 rw [ar (show (p:Int)>=0 by omega),aj]
 by_cases h:p<S.length
 ·have hc:=bp h
  rw [ar (show (p:Int)<len S by show (p:Int)<((S.length:Nat):Int);omega),aj,eF hc,ci hc]
  rfl
 ·rw [au (show ¬(p:Int)<len S by show ¬(p:Int)<((S.length:Nat):Int);omega),af,jo (by omega)]
  rfl
theorem yy (l:aa) (c:UInt8) (hc:c≠0):(((rat l:Nat):Int)==((c.toNat:Nat):Int))=decide (l.head?=some c):=by
 cases l with
 | nil=>
  rw [au (by simp)]
  rw [aN]
  intro h
  have h0:c.toNat=0:=by
   have:((0:Nat):Int)=((c.toNat:Nat):Int):=h
   omega
  exact hc (gH.1 (by rw [h0];rfl))
 | cons a r=>
  show (((a.toNat:Nat):Int)==((c.toNat:Nat):Int))=_
  rw [nJ]
  rw [uO];simp
theorem rf_w {p:Nat} (k:Nat) (h:p+k<9223372036854775807):w64 ((p:Int)+(k:Int))=((p+k:Nat):Int):=by
 show IntKind.wrap .i64 _=_
 rw [wrap_i64 _ (by omega) (by omega)];omega
theorem D5 (n:Nat) {S:aa} {p:Nat} (hS:p<1000000):d6 n S (p:Int)=some (if dts (S.drop p) then 1 else 0):=by
 unfold d6
 have hw:w64 ((p:Int)+1)=((p+1:Nat):Int):=rf_w 1 (by omega)
 have e:∀q,(((rat (S.drop q):Nat):Int)==46)=decide ((S.drop q).head?=some 46):=λq=>yy (S.drop q) 46 (by decide)
 have hd:∀b,b=(dts (S.drop p))->(some (if b then (1:Int) else 0))=some (if dts (S.drop p) then 1 else 0):=λb h=>by rw [h]
 simp only [Lm,ob,hw,e]
 rw [<-kR]
 unfold dts
 match S.drop p with
 | []=>rfl
 | [a]=>
  by_cases h:a=46
  ·subst h;rfl
  ·simp [h]
 | a::b::r=>
  by_cases h:a=46
  ·by_cases h2:b=46
   ·subst h h2;rfl
   ·subst h;simp [h2]
  ·simp [h]
theorem Hf (S:aa) (A:Int) (r:DR):OS S A (.inr r)=((tdR r).1,(tdR r).2.1,(tdR r).2.2.1,(tdR r).2.2.2.1,(tdR r).2.2.2.2.1,(tdR r).2.2.2.2.2.1,(tdR r).2.2.2.2.2.2.1,(tdR r).2.2.2.2.2.2.2.1,(tdR r).2.2.2.2.2.2.2.2.1,(tdR r).2.2.2.2.2.2.2.2.2,((plR r:Nat):Int),S,((enR r:Nat):Int),0):=rfl
theorem RX (c:UInt8) (hc:c≠0) {S:aa} {p:Nat} (hp:p<1000000) (T:aa) (x2 x5 x6:Int) (x7:Bool) (x8:List Int) (x9:TD) (x10 x11:List TI):
  fk 20000000 S ((c.toNat:Nat):Int) x2 T (p:Int) x5 x6 x7 x8 x9 x10 x11=some (S,((c.toNat:Nat):Int),x2,dts (S.drop p)&&!decide ((S.drop (p+2)).head?=some c),T,(p:Int),x5,x6,x7,x8,x9,x10,x11):=by
 unfold fk
 have hw:w64 ((p:Int)+2)=((p+2:Nat):Int):=rf_w 2 (by omega)
 simp only [D5 20000000 hp,ob,hw,Lm]
 rw [show (((rat (S.drop (p+2)):Nat):Int) != ((c.toNat:Nat):Int))=!decide ((S.drop (p+2)).head?=some c) from dm _ (yy _ _ hc)]
 cases dts (S.drop p)<;>rfl
theorem TP (b:Bool) (c:Int) {S:aa} {p:Nat} (h:p<=S.length) (hS:S.length<100000) (hb:b=true->dts (S.drop p)=true) (x2 x7:Int) (x8:Bool) (x9:List Int) (x10:TD) (x11 x12:List TI):
  g9 20000000 S c x2 b S (p:Int) 0 x7 x8 x9 x10 x11 x12=some (if b=true then (match iq S (p+2) with
   | .inl f=>.inl (S,(f.1:Int),(f.2.1:Int),[])
   | .inr r=>.inr (S,c,x2,S,((enR r:Nat):Int),0,x7,x8,x9,x10,true,tdR r,x11,x12)) else .inr (S,c,x2,S,(p:Int),0,x7,x8,x9,x10,false,d0,x11,x12)):=by
 unfold g9
 cases b
 ·rfl
 ·have hd:=hb rfl
  have hl:=pR hd
  have hw:w64 ((p:Int)+2)=((p+2:Nat):Int):=rf_w 2 (by omega)
  obtain ⟨A,hA⟩:=yv S (p+2) hl hS
  rw [aj,ae rfl,hw,hA]
  cases h2:iq S (p+2) with
  | inl f=>
   obtain ⟨k,E,q⟩:=f
   have hE:=sW hl h2
   show cond (((E:Nat):Int) != 0) _ _=_
   rw [show (((E:Nat):Int) != 0)=true from by simp;omega]
   rfl
  | inr r=>rfl
theorem PS (c:UInt8) (hc:c≠0) {S:aa} {p:Nat} (h:p<=S.length) (hS:S.length<100000) (K:Int) (e:Bool) {P:List Nat} (J:List TI) {I:List TI} (hI:I.length<256) (hP:P.length=I.length):
  ck 20000000 (S,((c.toNat:Nat):Int),S,(p:Int),0,K,e,gV P,J,I)=some (match nz S c p with
   | .inl f=>.inr (.inl (0,d0,0,d0,0,d0,false,false,S,(f.1:Int),(f.2.1:Int),[]))
   | .inr (t,a,p')=>if (S.drop p').head?=some 44 then .inl (S,((c.toNat:Nat):Int),S,((p'+1:Nat):Int),0,K,e,gV (P++[a]),J,I++[t])
    else .inr (.inr (S,((c.toNat:Nat):Int),0,d0,0,d0,0,d0,false,false,[],0,0,S,(p':Int),0,K,d0,0,d0,0,d0,e,false,gV (P++[a]),J,I++[t]))):=by
 have fin:∀(t:TI) (a p':Nat),p'<=S.length->(ob (cT 20000000 S (p':Int)) λv35=>(cond (v35 != 44) (some (.inr (.inr (S,((c.toNat:Nat):Int),0,d0,0,d0,0,d0,false,false,[],0,0,S,(p':Int),0,K,d0,0,d0,0,d0,e,false,(gV P++([(a:Int)]:List (Int))),J,(I++([t]:List TI)))))) (some (.inl (S,((c.toNat:Nat):Int),S,(w64 ((p':Int)+1)),0,K,e,(gV P++([(a:Int)]:List (Int))),J,(I++([t]:List TI))))):Option ((aa×Int×aa×Int×Int×Int×Bool×List (Int)×List TI×List TI)⊕((Int×TD×Int×TD×Int×TD×Bool×Bool×aa×Int×Int×List TI)⊕(aa×Int×Int×TD×Int×TD×Int×TD×Bool×Bool×aa×Int×Int×aa×Int×Int×Int×TD×Int×TD×Int×TD×Bool×Bool×List (Int)×List TI×List TI))))) =
   some (if (S.drop p').head?=some 44 then .inl (S,((c.toNat:Nat):Int),S,((p'+1:Nat):Int),0,K,e,gV (P++[a]),J,I++[t])
    else .inr (.inr (S,((c.toNat:Nat):Int),0,d0,0,d0,0,d0,false,false,[],0,0,S,(p':Int),0,K,d0,0,d0,0,d0,e,false,gV (P++[a]),J,I++[t]))):=by
  intro t a p' hp'
  have hn:gV (P++[a])=gV P++[(a:Int)]:=by simp [gV]
  have hw:w64 ((p':Int)+1)=((p'+1:Nat):Int):=rf_w 1 (by omega)
  rw [Lm,hn,hw]
  simp only [ob]
  rw [show (((rat (S.drop p'):Nat):Int) != 44)=!decide ((S.drop p').head?=some 44) from dm _ (yy _ 44 (by decide))]
  by_cases hc:(S.drop p').head?=some 44
  ·rw [ae hc,ar hc];rfl
  ·rw [ab hc,au hc];rfl
 unfold ck
 simp only [u10,u9,u8,u7,u6,u5,u4,u3,u2]
 obtain ⟨A,hA⟩:=yv S p h hS
 rw [show (len I==256)=false from by show (((I.length:Nat):Int)==256)=false;simp;omega,af,hA]
 unfold nz
 cases h1:iq S p with
 | inl f=>
  obtain ⟨k,E,q⟩:=f
  have hE:=sW h h1
  show cond (((E:Nat):Int) != 0) _ _=_
  rw [show (((E:Nat):Int) != 0)=true from by simp;omega]
  rfl
 | inr r=>
  obtain ⟨s1,_,l1,l2⟩:=re h h1
  rw [Hf]
  show ob (fk 20000000 S ((c.toNat:Nat):Int) ((plR r:Nat):Int) S ((enR r:Nat):Int) 0 K e (gV P) (tdR r) J I) _=_
  rw [RX c hc (by omega)]
  simp only [ob,u13,u12,u11,u10,u9,u8,u7,u6,u5,u4,u3,u2]
  rw [TP _ _ l2 hS (λh=>by simp at h;exact h.1)]
  have hb:(dts (S.drop (enR r))&&!decide ((S.drop (enR r+2)).head?=some c))=true↔(dts (S.drop (enR r))=true/\(S.drop (enR r+2)).head?≠some c):=by simp
  by_cases hd:dts (S.drop (enR r))=true/\(S.drop (enR r+2)).head?≠some c
  ·rw [ae (hb.2 hd),ae hd]
   cases h2:iq S (enR r+2) with
   | inl f=>rfl
   | inr r2=>
    obtain ⟨s2,_,l3,l4⟩:=re (pR hd.1) h2
    simp only [obs,sm,ob,u14,u13,u12,u11,u10,u9,u8,u7,u6,u5,u4,u3,u2]
    rw [qE (by omega),qE (by simp;omega)]
    exact fin (mkI (tdR r) true (tdR r2)) (plR r) (enR r2) l4
  ·rw [ab (λh=>hd (hb.1 h)),ab hd]
   simp only [obs,sm,ob,u14,u13,u12,u11,u10,u9,u8,u7,u6,u5,u4,u3,u2]
   rw [qE (by omega),qE (by simp;omega)]
   exact fin (mkI (tdR r) false d0) (plR r) (enR r) l2
theorem O9 (c p:Int) (S:aa) (K:Int) (e:Bool) (P:List Int) (J:List TI) {I:List TI} (hI:I.length=256):
  ck 20000000 (S,c,S,p,0,K,e,P,J,I)=some (.inr (.inl (0,d0,0,d0,0,d0,false,false,S,p,3,[]))):=by
 unfold ck
 simp only [u10,u9,u8,u7,u6,u5,u4,u3,u2]
 rw [show (len I==256)=true from by show (((I.length:Nat):Int)==256)=true;rw [hI];rfl]
 rfl
def rfLo (S:aa) (c:UInt8) (K:Int) (e:Bool) (J:List TI):(Nat×Nat×Nat)⊕(Nat×List Nat×List TI)->(Int×TD×Int×TD×Int×TD×Bool×Bool×aa×Int×Int×List TI)⊕(aa×Int×Int×TD×Int×TD×Int×TD×Bool×Bool×aa×Int×Int×aa×Int×Int×Int×TD×Int×TD×Int×TD×Bool×Bool×List (Int)×List TI×List TI)
 | .inl f=>.inl (0,d0,0,d0,0,d0,false,false,S,(f.1:Int),(f.2.1:Int),[])
 | .inr (p,P,I)=>.inr (S,((c.toNat:Nat):Int),0,d0,0,d0,0,d0,false,false,[],0,0,S,(p:Int),0,K,d0,0,d0,0,d0,e,false,gV P,J,I)
theorem Q0 (c:UInt8) (hc:c≠0) {S:aa} (hS:S.length<100000) (K:Int) (e:Bool) (J:List TI):∀(r p:Nat) (P:List Nat) (I:List TI),I.length+r=256->p<=S.length->P.length=I.length->∀N,r<N->
  am (ck 20000000) N (S,((c.toNat:Nat):Int),S,(p:Int),0,K,e,gV P,J,I)=some (rfLo S c K e J (ka S c r p P I)):=by
 intro r
 induction r with
 | zero=>
  intro p P I hr hp hl N hN
  obtain ⟨N,rfl⟩:∃k,N=k+1:=⟨N - 1,by omega⟩
  rw [am,O9 _ _ S K e _ J (by omega)]
  rfl
 | succ r ih=>
  intro p P I hr hp hl N hN
  obtain ⟨N,rfl⟩:∃k,N=k+1:=⟨N - 1,by omega⟩
  rw [am,PS c hc hp hS K e J (by omega) hl,ka]
  cases h1:nz S c p with
  | inl f=>rfl
  | inr q=>
   obtain ⟨t,a,p'⟩:=q
   obtain ⟨_,l1,l2⟩:=vP hp h1
   simp only []
   by_cases hc:(S.drop p').head?=some 44
   ·rw [ae hc,ae hc]
    exact ih (p'+1) (P++[a]) (I++[t]) (by simp;omega) (mX hc) (by simp [hl]) N (by omega)
   ·rw [ab hc,ab hc]
    rfl
def GR (S:aa):(Nat×Nat×Nat)⊕(Int×Bool×Bool×List TI×Nat)->Int×TD×Int×TD×Int×TD×Bool×Bool×aa×Int×Int×List TI
 | .inl f=>(0,d0,0,d0,0,d0,false,false,S,(f.1:Int),(f.2.1:Int),[])
 | .inr (K,e,l,I,p)=>(K,d0,0,d0,0,d0,e,l,S,(p:Int),0,I)
theorem UI (n:Nat) (S:aa) (c:Int) (b:Bool) (p:Nat) (hp:p<1000000) (x3:Int) (x4:TD) (x5:Int) (x6:TD) (x7:Int) (x8:TD) (x9 x10:Bool) (x11:aa) (x12 x13:Int) (x14:aa) (x16 x17:Int) (x18:TD) (x19:Int) (x20:TD) (x21:Int) (x22:TD) (x23:Bool) (x25:List Int) (x26 x27:List TI):
  fm n S c b x3 x4 x5 x6 x7 x8 x9 x10 x11 x12 x13 x14 (p:Int) x16 x17 x18 x19 x20 x21 x22 x23 false x25 x26 x27=some (S,c,x3,x4,x5,x6,x7,x8,x9,x10,x11,x12,x13,x14,((if b then p+2 else p:Nat):Int),x16,x17,x18,x19,x20,x21,x22,x23,b,x25,x26,x27):=by
 unfold fm
 cases b
 ·rfl
 ·rw [aj,show w64 ((p:Int)+2)=((p+2:Nat):Int) from rf_w 2 (by omega)]
  rfl
theorem Ut {S:aa} (hS:S.length<100000) {K:Int} (hK:K=3\/K=4) (e:Bool) {p:Nat} (hp:p<=S.length) {P:List Nat} {I:List TI} (hP:P.length=I.length) (h1:1<=I.length) (hs:∀t∈I,smI t):
  (ob (cT 20000000 S ((if dts (S.drop p) then p+2 else p:Nat):Int)) λv72=>(cond (v72 != (((endC K).toNat:Nat):Int)) (ob (dw 20000000 S ((if dts (S.drop p) then p+2 else p:Nat):Int) 0 ((if dts (S.drop p) then p+2 else p:Nat):Int) 5) (u3 λv73 v74 v75=>(some (0,d0,0,d0,0,d0,false,false,v73,v74,v75,([]:List TI))))) (ob (fL 20000000 K d0 0 d0 0 d0 e (dts (S.drop p)) I) (u2 λv76 v77=>(cond (v77 != 0) (ob (ix (List.length (gV P)) v76) λv78=>(ob ((gV P)[v78]?) λv79=>(ob (dw 20000000 S (w64 (((if dts (S.drop p) then p+2 else p:Nat):Int)+1)) 0 v79 10) (u3 λv80 v81 v82=>(some (0,d0,0,d0,0,d0,false,false,v80,v81,v82,([]:List TI))))))) (some (K,d0,0,d0,0,d0,e,(dts (S.drop p)),S,(w64 (((if dts (S.drop p) then p+2 else p:Nat):Int)+1)),0,I))))))) =
   some (GR S (endL S K e p P I)):=by
 have hq:(if dts (S.drop p) then p+2 else p:Nat)<=S.length:=by
  split
  ·rename_i h;exact pR h
  ·exact hp
 unfold endL
 generalize (if dts (S.drop p) then p+2 else p:Nat)=q at *
 generalize dts (S.drop p)=l
 have hw:w64 ((q:Int)+1)=((q+1:Nat):Int):=rf_w 1 (by omega)
 rw [Lm,hw]
 simp only [ob]
 rw [show (((rat (S.drop q):Nat):Int) != (((endC K).toNat:Nat):Int))=!decide ((S.drop q).head?=some (endC K)) from dm _ (yy _ _ (by unfold endC;split<;>decide))]
 by_cases hc:(S.drop q).head?=some (endC K)
 ·rw [ae hc,ar hc]
  simp only [dn,af,DC (DJ hs),u2]
  obtain ⟨i,e1,e2⟩:=Je hK (e:=e) (l:=l) h1
  show cond ((setE K e l I).2 != 0) (ob (ix (gV P).length (setE K e l I).1) _) _=_
  by_cases h0:(setE K e l I).2=0
  ·rw [ae h0,show ((setE K e l I).2 != 0)=false from by simp [h0]]
   rfl
  ·have hi:i<(gV P).length:=by simp [gV];omega
   rw [ab h0,show ((setE K e l I).2 != 0)=true from by simp [h0],e1,dp hi]
   have hg:(gV P)[i]?=some ((P.getD i 0:Nat):Int):=by
    have hi':i<P.length:=by omega
    simp [gV,bp hi']
   simp only [aj,ob,hg]
   rfl
 ·rw [ab hc,au hc]
  rfl
theorem QK {S:aa} {a:Nat} (h:a<=S.length) (hS:S.length<100000):iR 20000000 S (a:Int)=some (GR S (su S a)):=by
 have main:∀(K:Int) (hK:K=3\/K=4) (ha:a+1<=S.length),(ob (d6 20000000 S ((a+1:Nat):Int)) λv8=>(ob (fp 20000000 S (((endC K).toNat:Nat):Int) (v8==1) S ((a+1:Nat):Int) K ([]:List TI) ([]:List TI)) (u8 λv9 v10 v11 v12 v13 v14 v15 v16=>(obs (am (ck 20000000) 20000000 (v9,v10,v11,v12,0,v13,v14,([]:List (Int)),v15,v16)) (u12 λv17 v18 v19 v20 v21 v22 v23 v24 v25 v26 v27 v28=>(some (v17,v18,v19,v20,v21,v22,v23,v24,v25,v26,v27,v28))) (u27 λv29 v30 v31 v32 v33 v34 v35 v36 v37 v38 v39 v40 v41 v42 v43 v44 v45 v46 v47 v48 v49 v50 v51 v52 v53 v54 v55=>(ob (d6 20000000 v29 v43) λv56=>(ob (fm 20000000 v29 v30 (v56==1) v31 v32 v33 v34 v35 v36 v37 v38 v39 v40 v41 v42 v43 v44 v45 v46 v47 v48 v49 v50 v51 v52 v53 v54 v55) (u27 λv57 v58 _ _ _ _ _ _ _ _ _ _ _ v59 v60 v61 v62 v63 v64 v65 v66 v67 v68 v69 v70 _ v71=>(ob (cT 20000000 v57 v60) λv72=>(cond (v72 != v58) (ob (dw 20000000 v59 v60 v61 v60 5) (u3 λv73 v74 v75=>(some (0,d0,0,d0,0,d0,false,false,v73,v74,v75,([]:List TI))))) (ob (fL 20000000 v62 v63 v64 v65 v66 v67 v68 v69 v71) (u2 λv76 v77=>(cond (v77 != 0) (ob (ix (List.length v70) v76) λv78=>(ob (v70[v78]?) λv79=>(ob (dw 20000000 v59 (w64 (v60+1)) v61 v79 10) (u3 λv80 v81 v82=>(some (0,d0,0,d0,0,d0,false,false,v80,v81,v82,([]:List TI))))))) (some (v62,v63,v64,v65,v66,v67,v68,v69,v59,(w64 (v60+1)),v61,v71))))))))))))))) =
   some (GR S (uj S a K)):=by
  intro K hK ha
  have one:∀b:Bool,((if b then (1:Int) else 0)==1)=b:=by decide
  have hj:fp 20000000 S (((endC K).toNat:Nat):Int) (dts (S.drop (a+1))) S ((a+1:Nat):Int) K ([]:List TI) ([]:List TI)=some (S,(((endC K).toNat:Nat):Int),S,((if dts (S.drop (a+1)) then a+3 else a+1:Nat):Int),K,dts (S.drop (a+1)),[],[]):=by
   unfold fp
   cases dts (S.drop (a+1))
   ·rfl
   ·rw [aj,show w64 (((a+1:Nat):Int)+2)=((a+1+2:Nat):Int) from rf_w 2 (by omega)]
    rfl
  have hp:(if dts (S.drop (a+1)) then a+3 else a+1:Nat)<=S.length:=by
   split
   ·rename_i h;have:=pR h;omega
   ·exact ha
  have hl:=Q0 (endC K) (by unfold endC;split<;>decide) hS K (dts (S.drop (a+1))) [] 256 (if dts (S.drop (a+1)) then a+3 else a+1) [] [] (by simp) hp rfl 20000000 (by omega)
  simp only [D5 20000000 (show a+1<1000000 by omega),one,hj,ob,u8,u7,u6,u5,u4,u3,u2]
  rw [show am (ck 20000000) 20000000 (S,(((endC K).toNat:Nat):Int),S,((if dts (S.drop (a+1)) then a+3 else a+1:Nat):Int),0,K,dts (S.drop (a+1)),([]:List Int),([]:List TI),([]:List TI))=_ from hl]
  unfold uj
  cases hr:ka S (endC K) 256 (if dts (S.drop (a+1)) then a+3 else a+1) [] [] with
  | inl f=>rfl
  | inr q=>
   obtain ⟨p,P,I⟩:=q
   obtain ⟨q1,q2,q3,q4,q5⟩:=tJ 256 _ [] [] hp rfl (λt ht=>by cases ht) hr
   have q3':1<=I.length:=by rw [bj] at q3;omega
   simp only [rfLo,obs,sm,ob,u27,u26,u25,u24,u23,u22,u21,u20,u19,u18,u17,u16,u15,u14,u13,u12,u11,u10,u9,u8,u7,u6,u5,u4,u3,u2,D5 20000000 (show p<1000000 by omega),one,UI _ _ _ _ p (show p<1000000 by omega)]
   exact Ut hS hK (dts (S.drop (a+1))) q1 q2 q3' q5
 have hw:w64 ((a:Int)+1)=((a+1:Nat):Int):=rf_w 1 (by omega)
 unfold iR su
 rw [Lm,hw]
 simp only [ob]
 unfold kz
 rw [show (((rat (S.drop a):Nat):Int)==91)=decide ((S.drop a).head?=some 91) from yy _ 91 (by decide),show (((rat (S.drop a):Nat):Int)==123)=decide ((S.drop a).head?=some 123) from yy _ 123 (by decide)]
 by_cases h1:(S.drop a).head?=some 91
 ·rw [ae h1,ar h1]
  exact main 3 (.inl rfl) (mX h1)
 ·rw [ab h1,au h1]
  by_cases h2:(S.drop a).head?=some 123
  ·rw [ae h2,ar h2]
   exact main 4 (.inr rfl) (mX h2)
  ·rw [ab h2,au h2]
   rfl
theorem HA {S:aa} {en:UInt8} {p:Nat} (h:p<=S.length) {f:Nat×Nat×Nat} (hr:nz S en p=.inl f):f.2.1≠0:=by
 unfold nz at hr
 cases h1:iq S p with
 | inl g=>rw [h1] at hr;cases hr;exact sW (k:=f.1) (E:=f.2.1) (p:=f.2.2) h h1
 | inr r=>
  rw [h1] at hr
  simp only [] at hr
  split at hr
  ·rename_i hd
   cases h2:iq S (enR r+2) with
   | inl g=>rw [h2] at hr;cases hr;exact sW (k:=f.1) (E:=f.2.1) (p:=f.2.2) (pR hd.1) h2
   | inr r2=>rw [h2] at hr;cases hr
  ·cases hr
theorem yN {S:aa} {en:UInt8}:∀(r p:Nat) (P:List Nat) (I:List TI),p<=S.length->∀{f:Nat×Nat×Nat},ka S en r p P I=.inl f->f.2.1≠0
 | 0,p,P,I,_,f,e=>by cases e;simp
 | r+1,p,P,I,h,f,e=>by
  rw [ka] at e
  cases h1:nz S en p with
  | inl g=>rw [h1] at e;cases e;exact HA h h1
  | inr q=>
   obtain ⟨t,a,p1⟩:=q
   rw [h1] at e
   simp only [] at e
   split at e
   ·rename_i hh
    exact yN r (p1+1) _ _ (mX hh) e
   ·cases e
structure SetOK (S:aa) (K:Int) (e l:Bool) (I:List TI) (p:Nat):Prop where
 kind:K=3\/K=4
 sm:∀t∈I,smI t
 ok:(setE K e l I).2=0
 one:1<=I.length
 most:I.length<=256
 le:p<=S.length
theorem zj {S:aa} {a:Nat} (h:a<=S.length) {K:Int} {e l:Bool} {I:List TI} {p:Nat} (hr:su S a=.inr (K,e,l,I,p)):SetOK S K e l I p:=by
 have main:∀K':Int,K'=3\/K'=4->a+1<=S.length->uj S a K'=.inr (K,e,l,I,p)->SetOK S K e l I p:=by
  intro K' hK ha hr
  unfold uj at hr
  have hp:(if dts (S.drop (a+1)) then a+3 else a+1:Nat)<=S.length:=by
   split
   ·rename_i h;have:=pR h;omega
   ·exact ha
  cases h1:ka S (endC K') 256 (if dts (S.drop (a+1)) then a+3 else a+1) [] [] with
  | inl f=>rw [h1] at hr;cases hr
  | inr q=>
   obtain ⟨p',P,J⟩:=q
   obtain ⟨q1,q2,q3,q4,q5⟩:=tJ 256 _ [] [] hp rfl (λt ht=>by cases ht) h1
   rw [h1] at hr
   simp only [] at hr
   unfold endL at hr
   generalize (if dts (S.drop p') then p'+2 else p':Nat)=q' at hr
   split at hr
   ·rename_i hc
    split at hr
    ·rename_i h0
     cases hr
     rw [bj] at q3 q4
     exact ⟨hK,q5,h0,by omega,by omega,mX hc⟩
    ·cases hr
   ·cases hr
 unfold su at hr
 split at hr
 ·rename_i h1;exact main 3 (.inl rfl) (mX h1) hr
 ·split at hr
  ·rename_i h1;exact main 4 (.inr rfl) (mX h1) hr
  ·cases hr
theorem CN {S:aa} {a:Nat} (h:a<=S.length) {f:Nat×Nat×Nat} (hr:su S a=.inl f):f.2.1≠0:=by
 have main:∀K':Int,a+1<=S.length->uj S a K'=.inl f->f.2.1≠0:=by
  intro K' ha hr
  unfold uj at hr
  have hp:(if dts (S.drop (a+1)) then a+3 else a+1:Nat)<=S.length:=by
   split
   ·rename_i h;have:=pR h;omega
   ·exact ha
  cases h1:ka S (endC K') 256 (if dts (S.drop (a+1)) then a+3 else a+1) [] [] with
  | inl g=>rw [h1] at hr;cases hr;exact yN 256 _ _ _ hp h1
  | inr q=>
   obtain ⟨p',P,J⟩:=q
   rw [h1] at hr
   simp only [] at hr
   unfold endL at hr
   generalize (if dts (S.drop p') then p'+2 else p':Nat)=q' at hr
   split at hr
   ·split at hr
    ·cases hr
    ·cases hr;simp
   ·cases hr;simp
 unfold su at hr
 split at hr
 ·rename_i h1;exact main 3 (mX h1) hr
 ·split at hr
  ·rename_i h1;exact main 4 (mX h1) hr
  ·cases hr;simp
noncomputable def uL (S:aa):(Nat×Nat)⊕(Int×Bool×Bool×List TI):=match su S 0 with
 | .inl f=>.inl (f.1,f.2.1)
 | .inr (K,e,l,I,p)=>if p<S.length then .inl (p,5) else .inr (K,e,l,I)
def IW:(Nat×Nat)⊕(Int×Bool×Bool×List TI)->(Int×TD×Int×TD×Int×TD×Bool×Bool×Int×Int×List TI)⊕(Int×TD×Int×TD×Int×TD×Nat×Nat×Bool×Bool×Int×Int×List TI)
 | .inl f=>.inl (0,d0,0,d0,0,d0,false,false,(f.1:Int),(f.2:Int),[])
 | .inr (K,e,l,I)=>.inr (K,d0,0,d0,0,d0,I.length,I.length,e,l,0,0,I)
theorem sZ {S:aa} (hS:S.length<100000):aO 20000000 S=some (IW (uL S)):=by
 have hr:=O1 (S:=S) (a:=0) (by omega) hS
 unfold aO f8 pH uL
 rw [show (0:Int)=((0:Nat):Int) from rfl,hr]
 cases h:su S 0 with
 | inl f=>
  have hE:=CN (by omega) h
  simp only [II,obs,sm,ob,u13,u12,u11,u10,u9,u8,u7,u6,u5,u4,u3,u2]
  rw [show (((f.2.1:Nat):Int) != ((0:Nat):Int))=true from by simp;omega]
  rfl
 | inr q=>
  obtain ⟨K,e,l,I,p⟩:=q
  have ok:=zj (by omega) h
  simp only [II,obs,sm,ob,u13,u12,u11,u10,u9,u8,u7,u6,u5,u4,u3,u2]
  by_cases hp:p<S.length
  ·rw [ae hp,ar (show (p:Int)<((S.length:Nat):Int) by omega)]
   rfl
  ·rw [ab hp,au (show ¬(p:Int)<((S.length:Nat):Int) by omega)]
   rfl
def brk (c:UInt8):Bool:=c==33||c==44||c==46||c==47||c==91||c==93||c==123||c==125
theorem P9:∀c,(!brk c||(!isYC c&&(!isMk c&&(!(c==45)&&!isDX c))))=true:=np (λc=>!brk c||(!isYC c&&(!isMk c&&(!(c==45)&&!isDX c)))) (by decide +kernel)
theorem Fo {c:UInt8} (h:brk c=true):isYC c=false/\isMk c=false/\(c==45)=false/\isDX c=false:=by
 have:=P9 c
 rw [h] at this
 simpa [az] using this
theorem RH {c:UInt8} (h:isDX c=true):brk c=false:=by
 cases hb:brk c
 ·rfl
 ·rw [(Fo hb).2.2.2] at h;cases h
def endT (l:aa):Prop:=∀c,l.head?=some c->brk c=true
theorem Q3 {l:aa} (h:endT l):cN isYC l/\cN isMk l/\cN (λc=>c==45) l:=⟨λc hc=>(Fo (h c hc)).1,λc hc=>(Fo (h c hc)).2.1,λc hc=>(Fo (h c hc)).2.2.1⟩
theorem qD {c:UInt8} {l:aa} (h:brk c=true):endT (c::l):=λa ha=>by
 simp only [qg,aq] at ha
 rw [<-ha];exact h
theorem Kx {g l:Bool} {d:aa} {x s:Nat} (h:okY g l d (x:Int) (s:Int)) (r:aa):cN brk (iO g l d (x:Int) (s:Int)++r):=by
 have hl:d≠[]:=by
  have:=(ki h).2.2.2.2.1
  rintro rfl
  simp at this
 rw [k9]
 cases l with
 | true=>exact dO (by decide)
 | false=>
  cases g with
  | true=>exact dO (by decide)
  | false=>
   simp only [bP,aE,dQ,jr]
   exact vi hl (Oo h) (λc=>RH)
def r6 (x:TD):aa:=sD x.1 x.2.1 x.2.2.1 x.2.2.2.1 x.2.2.2.2.1 x.2.2.2.2.2.1 x.2.2.2.2.2.2.1 x.2.2.2.2.2.2.2.1.toNat x.2.2.2.2.2.2.2.2.1.toNat x.2.2.2.2.2.2.2.2.2.toNat
theorem wY {x:TD} (hs:smT x) (hc:cF x=0):∃(g l:Bool) (dg:aa) (e q:Nat) (m d:aa) (a b c:Nat),x=(g,l,dg,(e:Int),(q:Int),m,d,(a:Int),(b:Int),(c:Int))/\OkD g l dg e q m d a b c:=by
 have h:=qk hc
 obtain ⟨g,l,dg,e,q,m,d,k0,k1,k2⟩:=x
 obtain ⟨e',q',a,b,c,h1,h2,h3,h4,h5,h6⟩:=Gp hs.2.2.2.1 hs.2.2.2.2.1 hs.2.2.2.2.2 h
 simp only at h1 h2 h3 h4 h5
 subst h1 h2 h3 h4 h5
 exact ⟨_,_,_,_,_,_,_,_,_,_,rfl,h6⟩
theorem dfT {x:TD} (hs:smT x) (hc:cF x=0):ap10 (fb 20000000) x=some (r6 x,0):=by
 have:=MI 19999700 x.1 x.2.1 x.2.2.1 x.2.2.2.1 x.2.2.2.2.1 x.2.2.2.2.2.1 x.2.2.2.2.2.2.1 x.2.2.2.2.2.2.2.1 x.2.2.2.2.2.2.2.2.1 x.2.2.2.2.2.2.2.2.2 hs.1 hs.2.1 hs.2.2.2.1 hs.2.2.2.2.1 hs.2.2.2.2.2
 rw [ae (qk hc)] at this
 exact this
theorem rfT {x:TD} (hs:smT x) (hc:cF x=0):ap10 (ee 20000000) x=some (r6 x):=
 K8 19999700 hs.2.2.2.1 hs.2.2.2.2.1 hs.2.2.2.2.2 (qk hc)
theorem oe {x:TD} (hs:smT x) (hc:cF x=0):(r6 x).length<=37:=by
 obtain ⟨g,l,dg,e,q,m,d,a,b,c,rfl,ok⟩:=wY hs hc
 exact JR ok
theorem xL {x:TD} (hs:smT x) (hc:cF x=0) (r:aa):cN brk (r6 x++r):=by
 obtain ⟨g,l,dg,e,q,m,d,a,b,c,rfl,ok⟩:=wY hs hc
 show cN brk (sD g l dg (e:Int) (q:Int) m d a b c++r)
 unfold sD cE
 rw [jr,jr,jr]
 exact I3 _ (by decide) (by decide) (by decide) (Kx ok.yr _)
theorem G8 {l:aa} (h:cN brk l):dts l=false:=by
 cases hd:dts l
 ·rfl
 ·obtain ⟨r,rfl⟩:=tW.1 hd
  exact absurd (h 46 rfl) (by decide)
theorem Kp {x:TD} (hs:smT x) (hc:cF x=0) {S:aa} {a:Nat} {post:aa} (h:S.drop a=r6 x++post) (hp:endT post):∃r,iq S a=.inr r/\tdR r=x/\enR r=a+(r6 x).length:=by
 obtain ⟨g,l,dg,e,q,m,d,k0,k1,k2,rfl,ok⟩:=wY hs hc
 obtain ⟨p1,p2,p3⟩:=Q3 hp
 obtain ⟨P,hr⟩:=Hz ok (S:=S) (a:=a) (post:=post) h p1 p2 p3
 refine ⟨(g,l,dg,e,q,m,d,(k0,k1,k2),P,a+(sD g l dg (e:Int) (q:Int) m d k0 k1 k2).length),?_,rfl,rfl⟩
 unfold iq
 rw [hr]
 have hk:chkR (g,l,dg,e,q,m,d,(k0,k1,k2),P,a+(sD g l dg (e:Int) (q:Int) m d k0 k1 k2).length)=0:=by
  unfold chkR
  simp only []
  have:chkF g l dg (e:Int) (q:Int) m d (k0:Int) (k1:Int) (k2:Int)=0:=hc
  rw [this];rfl
 simp only []
 rw [ae hk]
structure OkI (t:TI):Prop where
 sm:smI t
 a:cF (iF t)=0
 b:rT t=true->cF (iT t)=0
 n:rT t=false->iT t=d0
def bN (t:TI):aa:=if rT t then r6 (iF t)++([46,46]++r6 (iT t)) else r6 (iF t)
theorem vV {t:TI} (h:OkI t):(bN t).length<=76:=by
 have h1:=oe h.sm.1 h.a
 unfold bN
 split
 ·rename_i hr
  have h2:=oe h.sm.2 (h.b hr)
  simp only [aM,aD,bj]
  omega
 ·omega
theorem Ly {t:TI} (h:OkI t) (r:aa):cN brk (bN t++r):=by
 unfold bN
 split
 ·rw [jr];exact xL h.sm.1 h.a _
 ·exact xL h.sm.1 h.a _
theorem sg {t:TI} (ok:OkI t) {en:UInt8} (hen:brk en=true) {S:aa} {p:Nat} {post:aa} (h:S.drop p=bN t++post) (hp:endT post) (hq:dts post=true->(post.drop 2).head?=some en):
  ∃a,nz S en p=.inr (t,a,p+(bN t).length):=by
 unfold bN at h ⊢
 unfold nz
 cases hr:rT t with
 | true=>
  rw [hr,ae rfl,jr,jr] at h
  obtain ⟨r,r1,r2,r3⟩:=Kp ok.sm.1 ok.a h (qD (by decide))
  have e1:S.drop (enR r)=[46,46]++(r6 (iT t)++post):=by rw [r3];exact fB h
  have e2:S.drop (enR r+2)=r6 (iT t)++post:=fB (u:=[46,46]) e1
  have hd:dts (S.drop (enR r))=true:=by rw [e1];rfl
  have hn:(S.drop (enR r+2)).head?≠some en:=by
   rw [e2]
   intro hh
   have:=xL ok.sm.2 (ok.b hr) post en hh
   rw [hen] at this;cases this
  obtain ⟨r',s1,s2,s3⟩:=Kp ok.sm.2 (ok.b hr) e2 hp
  refine ⟨plR r,?_⟩
  rw [r1]
  simp only []
  rw [ae ⟨hd,hn⟩,s1]
  simp only [aQ]
  rw [r2,s2,s3,r3]
  have:mkI (iF t) true (iT t)=t:=by rw [<-hr]
  rw [this]
  have:p+(r6 (iF t)).length+2+(r6 (iT t)).length=p+(r6 (iF t)++([46,46]++r6 (iT t))).length:=by simp only [aM,aD,bj];omega
  rw [this]
 | false=>
  rw [hr] at h
  simp only [bP,aE] at h
  obtain ⟨r,r1,r2,r3⟩:=Kp ok.sm.1 ok.a h hp
  have e1:S.drop (enR r)=post:=by rw [r3];exact fB h
  refine ⟨plR r,?_⟩
  rw [r1]
  simp only []
  rw [ab,r2,r3]
  ·have:mkI (iF t) false d0=t:=by rw [<-hr,<-ok.n hr]
   rw [this]
   simp only [bP,aE]
  ·rintro ⟨h1,h2⟩
   rw [e1] at h1
   rw [<-kR,e1] at h2
   exact h2 (hq h1)
def kx (I:List TI):aa:=(I.map λt=>44::bN t).flatten
theorem xC {en:UInt8} (hen:brk en=true) (hen44:en≠44) {post:aa} (hp:endT post) (h44:post.head?≠some 44) (hq:dts post=true->(post.drop 2).head?=some en):∀(I:List TI) (t:TI) (r p:Nat) {S:aa} (P:List Nat) (J:List TI),OkI t->(∀u∈I,OkI u)->I.length<r->S.drop p=bN t++(kx I++post)->
  ∃P',ka S en r p P J=.inr (p+(bN t++kx I).length,P',J++t::I)
 | [],t,r+1,p,S,P,J,ok,_,hl,h=>by
  obtain ⟨a,ha⟩:=sg ok hen (post:=post) (by simpa [kx] using h) hp hq
  refine ⟨P++[a],?_⟩
  rw [ka,ha]
  simp only []
  have e1:S.drop (p+(bN t).length)=post:=fB (by simpa [kx] using h)
  rw [e1,ab h44]
  simp [kx]
 | u::I,t,r+1,p,S,P,J,ok,oks,hl,h=>by
  have e0:kx (u::I)++post=44::(bN u++(kx I++post)):=by simp [kx]
  rw [e0] at h
  obtain ⟨a,ha⟩:=sg ok hen (post:=44::(bN u++(kx I++post))) h (qD (by decide)) (λhd=>by
   obtain ⟨r,hr⟩:=tW.1 hd
   cases hr)
  have e1:S.drop (p+(bN t).length)=44::(bN u++(kx I++post)):=fB h
  have e2:S.drop (p+(bN t).length+1)=bN u++(kx I++post):=fB (u:=[44]) e1
  obtain ⟨P',hP⟩:=xC hen hen44 hp h44 hq I u r (p+(bN t).length+1) (P++[a]) (J++[t]) (oks u nV) (λv hv=>oks v (gq _ hv)) (by simp at hl;omega) e2
  refine ⟨P',?_⟩
  rw [ka,ha]
  simp only []
  rw [e1,qg,ae rfl,hP]
  have:p+(bN t).length+1+(bN u++kx I).length=p+(bN t++kx (u::I)).length:=by simp [kx];omega
  rw [this]
  simp
def sR (K:Int) (e l:Bool) (I:List TI):aa:=
 (if K=4 then 123 else 91)::((if e then [46,46] else [])++(Lib.join (I.map bN) [44]++((if l then [46,46] else [])++[endC K])))
theorem wm (t:TI) (I:List TI):Lib.join ((t::I).map bN) [44]=bN t++kx I:=by
 rw [fE,Lib.join_cons]
 unfold Lib.joinTail kx
 rw [rW]
 rfl
theorem HC {K:Int} (hK:K=3\/K=4) {e l:Bool} {I:List TI} (h1:1<=I.length) (h2:I.length<=256) (ok:∀t∈I,OkI t) (hE:(setE K e l I).2=0) {S:aa} {a:Nat} {post:aa} (h:S.drop a=sR K e l I++post):
  su S a=.inr (K,e,l,I,a+(sR K e l I).length):=by
 obtain ⟨t,J,rfl⟩:∃t J,I=t::J:=by
  cases I with
  | nil=>simp at h1
  | cons t J=>exact ⟨t,J,rfl⟩
 have hen:brk (endC K)=true:=by unfold endC;split<;>decide
 have hen4:endC K≠44:=by unfold endC;split<;>decide
 have hen6:endC K≠46:=by unfold endC;split<;>decide
 unfold sR at h ⊢
 rw [wm] at h ⊢
 have ea:S.drop (a+1)=(if e then [46,46] else [])++((bN t++kx J)++((if l then [46,46] else [])++(endC K::post))):=by
  have:=fB (u:=[if K=4 then 123 else 91]) (v:=((if e then [46,46] else [])++((bN t++kx J)++((if l then [46,46] else [])++[endC K])))++post) (by rw [h];rfl)
  rw [show a+1=a+[if K=4 then (123:UInt8) else 91].length from rfl,this]
  simp only [jr,List.singleton_append]
 have he:dts (S.drop (a+1))=e:=by
  rw [ea]
  cases e
  ·simp only [bP,aE,dQ]
   rw [jr]
   exact G8 (Ly (ok t nV) _)
  ·rfl
 have eb:S.drop (if e then a+3 else a+1)=bN t++(kx J++((if l then [46,46] else [])++(endC K::post))):=by
  rw [<-jr]
  cases e
  ·simpa using ea
  ·have:=fB (u:=[46,46]) ea
   simpa using this
 have hq:endT ((if l then [46,46] else [])++(endC K::post)):=by
  cases l
  ·exact qD hen
  ·exact qD (by decide)
 have h44:((if l then [46,46] else [])++(endC K::post)).head?≠some 44:=by
  cases l
  ·simp [hen4]
  ·simp
 have hdq:dts ((if l then [46,46] else [])++(endC K::post))=l:=by
  cases l
  ·cases hd:dts ((if false then [46,46] else [])++(endC K::post))
   ·rfl
   ·obtain ⟨r,hr⟩:=tW.1 hd
    simp at hr
    exact absurd hr.1 hen6
  ·rfl
 obtain ⟨P,hP⟩:=xC hen hen4 hq h44 (λhd=>by rw [hdq] at hd;subst hd;rfl) J t 256 (if e then a+3 else a+1) [] [] (ok t nV) (λu hu=>ok u (gq _ hu)) (by simp at h2;omega) eb
 have ec:S.drop ((if e then a+3 else a+1)+(bN t++kx J).length)=(if l then [46,46] else [])++(endC K::post):=by
  apply fB
  rw [eb,jr]
 have main:uj S a K=.inr (K,e,l,t::J,a+(((if K=4 then 123 else 91)::((if e then [46,46] else [])++((bN t++kx J)++((if l then [46,46] else [])++[endC K]))):aa).length)):=by
  unfold uj
  rw [he,hP]
  simp only [dQ]
  unfold endL
  rw [ec,hdq]
  generalize hX:(if e then a+3 else a+1)+(bN t++kx J).length=X at ec ⊢
  have ed:S.drop (if l then X+2 else X)=endC K::post:=by
   cases l
   ·simpa using ec
   ·have:=fB (u:=[46,46]) ec
    simpa using this
  rw [ed,qg,ae rfl,ae hE]
  have:(if l then X+2 else X)+1=a+(((if K=4 then 123 else 91)::((if e then [46,46] else [])++((bN t++kx J)++((if l then [46,46] else [])++[endC K]))):aa).length):=by
   rw [<-hX]
   cases e<;>cases l<;>simp<;>omega
  rw [this]
 unfold su
 have hh:(S.drop a).head?=some (if K=4 then 123 else 91):=by rw [h];rfl
 rw [hh]
 rcases hK with rfl | rfl
 ·rw [ae (show some (if (3:Int)=4 then (123:UInt8) else 91)=some 91 from rfl)];exact main
 ·rw [ab (show ¬some (if (4:Int)=4 then (123:UInt8) else 91)=some 91 by decide),ae (show some (if (4:Int)=4 then (123:UInt8) else 91)=some 123 from rfl)];exact main
theorem vE {x y:TD} {r all:Bool} (h:itE x r y all=0):cF x=0/\(r=true->cF y=0)/\(r=false->y=d0)/\itE x r y false=0:=by
 by_cases hc:cF x=0
 ·refine ⟨hc,?_⟩
  cases r
  ·rw [QL hc] at h ⊢
   have hy:eqD y d0=true:=by
    cases hz:eqD y d0
    ·rw [hz] at h;simp at h
    ·rfl
   exact ⟨λh=>(by cases h),λ_=>m8.1 hy,by rw [hy];simp⟩
  ·by_cases hy:cF y=0
   ·rw [TB hc hy] at h ⊢
    have ho:ordB x y=true:=by
     cases hz:ordB x y
     ·rw [hz] at h;simp at h
     ·rfl
    exact ⟨λ_=>hy,λh=>(by cases h),by rw [ho];simp⟩
   ·rw [Oi hc hy] at h;exact absurd h hy
 ·rw [Ug hc] at h;exact absurd h hc
theorem UN {t:TI} {all:Bool} (hs:smI t) (h:itI t all=0):OkI t:=by
 obtain ⟨a,b,c,_⟩:=vE h
 exact ⟨hs,a,b,c⟩
theorem DI {x y:TD} (r:Bool) (hx:smT x) (hy:smT y):ga 20000000 x r y=some (if itE x r y false=0 then (bN (mkI x r y),0) else ([],itE x r y false)):=by
 unfold ga
 rw [DV r hx hy,ae (.inl rfl),show ((3:Int)==4)=false from rfl]
 simp only [ob]
 by_cases h:itE x r y false=0
 ·obtain ⟨a,b,c,_⟩:=vE h
  rw [ae h,h,dfT hx a]
  simp only [eM,af,u2]
  cases r
  ·rfl
  ·have l1:=oe hx a
   have l2:=oe hy (b rfl)
   simp only [aj,dfT hy (b rfl)]
   rw [bZ (by simp only [aD,bj];omega)]
   simp only []
   rw [bZ (by simp only [aM,aD,bj];omega)]
   rfl
 ·rw [ab h,show (itE x r y false != 0)=true from by simp [h]]
  rfl
theorem I7 {t:TI} (ok:OkI t):ct 20000000 (iF t) (rT t) (iT t)=some (bN t):=by
 unfold ct bN
 rw [rfT ok.sm.1 ok.a]
 cases hr:rT t
 ·rfl
 ·have l1:=oe ok.sm.1 ok.a
  have l2:=oe ok.sm.2 (ok.b hr)
  simp only [aj,ob,rfT ok.sm.2 (ok.b hr)]
  rw [bZ (by simp only [aD,bj];omega)]
  simp only []
  rw [bZ (by simp only [aM,aD,bj];omega)]
  simp only [aQ,jr]
theorem CS:∀{I:List TI},(∀t∈I,OkI t)->(kx I).length<=77*I.length
 | [],_=>by simp [kx]
 | t::I,h=>by
  have h1:=vV (h t nV)
  have h2:=CS (I:=I) λu hu=>h u (gq _ hu)
  have:kx (t::I)=(44::bN t)++kx I:=by simp [kx]
  rw [this]
  simp only [aM,aD]
  omega
theorem tn {I:List TI} (h:∀t∈I,OkI t):(Lib.join (I.map bN) [44]).length<=77*I.length:=by
 cases I with
 | nil=>simp [Lib.join_nil]
 | cons t I=>
  have h1:=vV (h t nV)
  have h2:=CS (I:=I) λu hu=>h u (gq _ hu)
  rw [wm]
  simp only [aM,aD]
  omega
theorem IH {I:List TI} {i:Nat} {t:TI} (h:I[i]?=some t) (w:aa) (hw:w=bN t):((I.take i).map bN++List.replicate (I.length - i) []).set i w=(I.take (i+1)).map bN++List.replicate (I.length - (i+1)) []:=by
 have hi:i<I.length:=(od.1 h).1
 obtain ⟨k,hk⟩:∃k,I.length - i=k+1:=⟨I.length - i - 1,by omega⟩
 have hl:((I.take i).map bN).length=i:=by simp;omega
 rw [hk,rQ,show I.length - (i+1)=k by omega,oO,h,hw]
 rw [List.set_append_right _ _ (by omega),hl,zw]
 simp
theorem IG {I:List TI} (hs:∀t∈I,OkI t/\itI t false=0) (hn:I.length<=1000) (K:Int) (D:TD) (KF:Int) (DF:TD) (KT:Int) (DT:TD) (e l:Bool):∀(r i:Nat),i+r=I.length->∀N,r<N->
  am (ch 20000000) N (len I,(i:Int),I,K,D,KF,DF,KT,DT,e,l,(I.take i).map bN++List.replicate (I.length - i) [])=some (I,K,D,KF,DF,KT,DT,e,l,I.map bN):=by
 intro r
 induction r with
 | zero=>
  intro i hi N hN
  obtain ⟨N,rfl⟩:∃k,N=k+1:=⟨N - 1,by omega⟩
  obtain rfl:i=I.length:=by omega
  have:ch 20000000 (len I,((I.length:Nat):Int),I,K,D,KF,DF,KT,DT,e,l,(I.take I.length).map bN++List.replicate (I.length - I.length) [])=some (.inr (I,K,D,KF,DF,KT,DT,e,l,I.map bN)):=by
   unfold ch
   simp only [u12,u11,u10,u9,u8,u7,u6,u5,u4,u3,u2]
   rw [au (show ¬((I.length:Nat):Int)<len I by show ¬((I.length:Nat):Int)<((I.length:Nat):Int);omega),zw,oU]
   simp
  rw [am,this]
 | succ r ih=>
  intro i hi N hN
  obtain ⟨N,rfl⟩:∃k,N=k+1:=⟨N - 1,by omega⟩
  have hil:i<I.length:=by omega
  have hg:I[i]?=some I[i]:=bp hil
  obtain ⟨ok,h0⟩:=hs _ (Ef hil)
  generalize I[i]=t at hg ok h0
  have hl:((I.take i).map bN++List.replicate (I.length - i) ([]:aa)).length=I.length:=by simp;omega
  have:ch 20000000 (len I,(i:Int),I,K,D,KF,DF,KT,DT,e,l,(I.take i).map bN++List.replicate (I.length - i) [])=some (.inl (len I,((i+1:Nat):Int),I,K,D,KF,DF,KT,DT,e,l,(I.take (i+1)).map bN++List.replicate (I.length - (i+1)) [])):=by
   unfold ch
   simp only [u12,u11,u10,u9,u8,u7,u6,u5,u4,u3,u2]
   rw [ar (show (i:Int)<len I by show (i:Int)<((I.length:Nat):Int);omega),dp hil]
   simp only [aj,ob,hg]
   rw [show ga 20000000 (iF t) (d8 t).2.2.1 (d8 t).2.2.2=some (bN t,0) from (DI (rT t) ok.sm.1 ok.sm.2).trans (by rw [ae (show itE (iF t) (rT t) (iT t) false=0 from h0)])]
   simp only [hl]
   rw [dp hil]
   simp only []
   obtain ⟨w,hw⟩:∃w,((I.take i).map bN++List.replicate (I.length - i) ([]:aa))[i]?=some w:=⟨_,bp (by omega)⟩
   rw [hw]
   simp only [u2]
   rw [IH hg _ rfl,sE (by omega)]
  rw [am,this]
  exact ih (i+1) (by omega) N (by omega)
structure SetP (K:Int) (D:TD) (KF:Int) (DF:TD) (KT:Int) (DT:TD) (e l:Bool) (I:List TI):Prop where
 kind:K=3\/K=4
 d:D=d0
 kf:KF=0
 df:DF=d0
 kt:KT=0
 dt:DT=d0
 one:1<=I.length
 most:I.length<=256
 its:∀t∈I,itI t (K==4)=0
 set:(setE K e l I).2=0
theorem yn {A:Type} {f:Nat->A->Int}:∀{L:List A} {k:Nat},mI f k L=none->∀t∈L,∃i,f i t=0
 | u::L,k,h,t,ht=>by
  rw [mI] at h
  split at h
  ·cases h
  ·rename_i hf
   rcases dl.1 ht with rfl | ht
   ·exact ⟨k,Ks.1 hf⟩
   ·exact yn h t ht
theorem GF {A:Type} {f:Nat->A->Int}:∀{L:List A} {k:Nat} {p:Nat×Int},mI f k L=some p->p.2≠0
 | u::L,k,p,h=>by
  rw [mI] at h
  split at h
  ·rename_i hf;cases h;exact hf
  ·exact GF h
theorem R2 {K:Int} {e l:Bool} {n i:Nat} {t:TI} (h:errI K e l n i t=0):itI t (K==4)=0:=by
 unfold errI at h
 split at h
 ·rename_i h1;exact absurd h h1
 ·rename_i h1;exact Ks.1 h1
theorem vB {K:Int} (hK:K=3\/K=4) {D:TD} {KF:Int} {DF:TD} {KT:Int} {DT:TD} {e l:Bool} {I:List TI} (h:(iK K D KF DF KT DT e l I).2=0):SetP K D KF DF KT DT e l I:=by
 have h0:=h
 unfold iK at h
 rw [ab (by omega)] at h
 split at h
 ·simp at h
 ·rename_i hu
  rw [ab (by omega),ab (by omega)] at h
  split at h
  ·simp at h
  ·split at h
   ·simp at h
   ·unfold rB at h
    have hD:D=d0/\KF=0/\DF=d0/\KT=0/\DT=d0:=by
     unfold unuB at hu
     have k1:(K==1)=false:=by rcases hK with rfl | rfl<;>rfl
     have k2:(K==2)=false:=by rcases hK with rfl | rfl<;>rfl
     have k3:(K==3||(K==4||(decide (I.length=0)&&(!e&&!l))))=true:=by rcases hK with rfl | rfl<;>rfl
     rw [k1,k2,k3] at hu
     generalize h1:eqD D d0=z1 at hu
     generalize h2:eqD DF d0=z2 at hu
     generalize h3:eqD DT d0=z3 at hu
     simp only [xH,dn,HT,yi,gX,kl,not_or,Bool.not_eq_false,az,bB] at hu
     obtain ⟨a,⟨b,c⟩,d,e⟩:=hu
     exact ⟨m8.1 (h1.trans a),b,m8.1 (h2.trans c),d,m8.1 (h3.trans e)⟩
    obtain ⟨rfl,rfl,rfl,rfl,rfl⟩:=hD
    cases hs:mI (errI K e l I.length) 0 I with
    | some p=>rw [hs] at h;exact absurd h (GF hs)
    | none=>
     refine ⟨hK,rfl,rfl,rfl,rfl,rfl,by omega,by omega,λt ht=>?_,h0⟩
     obtain ⟨i,hi⟩:=yn hs t ht
     exact R2 hi
theorem JG {K:Int} {D:TD} {KF:Int} {DF:TD} {KT:Int} {DT:TD} {e l:Bool} {I:List TI} (p:SetP K D KF DF KT DT e l I) (hs:∀t∈I,smI t):∀t∈I,OkI t/\itI t false=0:=
 λt ht=>⟨UN (hs t ht) (p.its t ht),(vE (p.its t ht)).2.2.2⟩
def HG (K:Int):Prop:=K=3\/K=4
instance (K:Int):Decidable (HG K):=inferInstanceAs (Decidable (K=3\/K=4))
theorem O5 {K:Int} {D:TD} {KF:Int} {DF:TD} {KT:Int} {DT:TD} {e l:Bool} {I:List TI} (h:smE D DF DT I):
  mR 20000000 K D KF DF KT DT e l I=some (if HG K then (if (iK K D KF DF KT DT e l I).2=0 then (sR K e l I,0) else ([],(iK K D KF DF KT DT e l I).2)) else ([],18)):=by
 have main:∀hK:HG K,(ob (gp 20000000 K D KF DF KT DT e l I) λv18=>(cond (v18 != 0) (some ([],v18)) (cond (decide ((0:Int)<=(len I))&&(decide ((len I)<=(len I))&&decide ((len I)<=(67108864:Int)))) (ob (am (ch 20000000) 20000000 ((len I),0,I,K,D,KF,DF,KT,DT,e,l,(List.replicate (Int.toNat (len I)) ([]:aa)))) (u10 λ_ v19 _ _ _ _ _ v20 v21 v22=>(ob (dU 20000000 v19) (u2 λv23 v24=>(cond v20 (ob (cat v23 ([46,46]:aa)) λv25=>(cond v21 (ob (cat ([46,46]:aa) v24) λv26=>(cond (Nat.ble (List.length v22) 140737488355328&&Nat.ble (List.length (Lib.join v22 ([44]:aa))) 140737488355328) (ob (cat v25 (Lib.join v22 ([44]:aa))) λv27=>(ob (cat v27 v26) λv28=>(some (v28,0)))) none)) (cond (Nat.ble (List.length v22) 140737488355328&&Nat.ble (List.length (Lib.join v22 ([44]:aa))) 140737488355328) (ob (cat v25 (Lib.join v22 ([44]:aa))) λv29=>(ob (cat v29 v24) λv30=>(some (v30,0)))) none))) (cond v21 (ob (cat ([46,46]:aa) v24) λv31=>(cond (Nat.ble (List.length v22) 140737488355328&&Nat.ble (List.length (Lib.join v22 ([44]:aa))) 140737488355328) (ob (cat v23 (Lib.join v22 ([44]:aa))) λv32=>(ob (cat v32 v31) λv33=>(some (v33,0)))) none)) (cond (Nat.ble (List.length v22) 140737488355328&&Nat.ble (List.length (Lib.join v22 ([44]:aa))) 140737488355328) (ob (cat v23 (Lib.join v22 ([44]:aa))) λv34=>(ob (cat v34 v24) λv35=>(some (v35,0)))) none))))))) none))) =
   some (if (iK K D KF DF KT DT e l I).2=0 then (sR K e l I,(0:Int)) else ([],(iK K D KF DF KT DT e l I).2)):=by
  intro hK
  rw [Nl h]
  simp only [ob]
  by_cases h0:(iK K D KF DF KT DT e l I).2=0
  ·have P:=vB hK h0
   have hm:=P.most
   have oks:=JG P h.2.2.2
   have hj:=tn λt ht=>(oks t ht).1
   rw [ae h0,h0]
   have hloop:=IG oks (by omega) K D KF DF KT DT e l I.length 0 (by omega) 20000000 (by omega)
   simp only [eM,af]
   have c3:(decide ((0:Int)<=(len I))&&(decide ((len I)<=(len I))&&decide ((len I)<=(67108864:Int))))=true:=by
    have:len I=((I.length:Nat):Int):=rfl
    rw [this]
    simp only [az,cb]
    omega
   rw [c3,aj,show (List.replicate (Int.toNat (len I)) ([]:aa))=(I.take 0).map bN++List.replicate (I.length - 0) [] from by simp]
   rw [show am (ch 20000000) 20000000 (len I,(0:Int),I,K,D,KF,DF,KT,DT,e,l,(I.take 0).map bN++List.replicate (I.length - 0) [])=_ from hloop]
   have hb:(Nat.ble (List.length (I.map bN)) 140737488355328&&Nat.ble (List.length (Lib.join (I.map bN) ([44]:aa))) 140737488355328)=true:=by
    simp only [az]
    exact ⟨dG (by simp;omega),dG (by omega)⟩
   simp only [u10,u9,u8,u7,u6,u5,u4,u3,u2,wA hK,hb,aj]
   unfold sR
   generalize hb1:(if K=4 then (123:UInt8) else 91)=b1
   generalize endC K=b2
   generalize Lib.join (I.map bN) [44]=w at hj
   cases e<;>cases l<;>simp only [aj,af]
   ·rw [bZ (by simp only [aD,bj];omega)]
    simp only []
    rw [bZ (by simp only [aM,aD,bj];omega)]
    simp
   ·rw [bZ (by simp only [aD,bj];omega)]
    simp only []
    rw [bZ (by simp only [aD,bj];omega)]
    simp only []
    rw [bZ (by simp only [aM,aD,bj];omega)]
    simp
   ·rw [bZ (by simp only [aD,bj];omega)]
    simp only []
    rw [bZ (by simp only [aM,aD,bj];omega)]
    simp only []
    rw [bZ (by simp only [aM,aD,bj];omega)]
    simp
   ·rw [bZ (by simp only [aD,bj];omega)]
    simp only []
    rw [bZ (by simp only [aD,bj];omega)]
    simp only []
    rw [bZ (by simp only [aM,aD,bj];omega)]
    simp only []
    rw [bZ (by simp only [aM,aD,bj];omega)]
    simp
  ·rw [ab h0,show ((iK K D KF DF KT DT e l I).2 != 0)=true from by simp [h0]]
   rfl
 unfold mR
 by_cases h3:K=3
 ·rw [show (K != 3)=false from by simp [h3],ae (.inl h3)]
  exact main (.inl h3)
 ·rw [show (K != 3)=true from by simp [h3],aj]
  by_cases h4:K=4
  ·rw [show (K != 4)=false from by simp [h4],ae (.inr h4)]
   exact main (.inr h4)
  ·rw [show (K != 4)=true from by simp [h4],ab (by rintro (h | h)<;>contradiction)]
   rfl
theorem KG (ws:List (aa)) (w:aa) (h:ws≠[]):Lib.join (ws++[w]) [44]=Lib.join ws [44]++[44]++w:=by
 cases ws with
 | nil=>exact absurd rfl h
 | cons a r=>
  rw [fP,Lib.join_cons,Lib.join_cons]
  unfold Lib.joinTail
  simp
theorem G4 {I:List TI} (hs:∀t∈I,OkI t) (hn:I.length<=1000) (pre:aa) (hp:pre.length<=10) (K:Int) (D:TD) (KF:Int) (DF:TD) (KT:Int) (DT:TD) (e l:Bool):∀(r i:Nat),i+r=I.length->∀N,r<N->
  am (aP 20000000) N (pre++Lib.join ((I.take i).map bN) [44],(i:Int),I,K,D,KF,DF,KT,DT,e,l)=some (pre++Lib.join (I.map bN) [44],I,K,D,KF,DF,KT,DT,e,l):=by
 intro r
 induction r with
 | zero=>
  intro i hi N hN
  obtain ⟨N,rfl⟩:∃k,N=k+1:=⟨N - 1,by omega⟩
  obtain rfl:i=I.length:=by omega
  have:∀s,aP 20000000 (s,((I.length:Nat):Int),I,K,D,KF,DF,KT,DT,e,l)=some (.inr (s,I,K,D,KF,DF,KT,DT,e,l)):=by
   intro s
   unfold aP
   simp only [u11,u10,u9,u8,u7,u6,u5,u4,u3,u2]
   rw [au (show ¬((I.length:Nat):Int)<len I by show ¬((I.length:Nat):Int)<((I.length:Nat):Int);omega)]
   rfl
  rw [am,this,oU]
 | succ r ih=>
  intro i hi N hN
  obtain ⟨N,rfl⟩:∃k,N=k+1:=⟨N - 1,by omega⟩
  have hil:i<I.length:=by omega
  have hg:I[i]?=some I[i]:=bp hil
  have ok:=hs _ (Ef hil)
  generalize I[i]=t at hg ok
  have hl:=tn (I:=I.take i) λu hu=>hs u (List.mem_of_mem_take hu)
  have hl2:(I.take i).length<=1000:=by rw [cO];omega
  have ht:=vV ok
  have htk:(I.take (i+1)).map bN=(I.take i).map bN++[bN t]:=by rw [oO,hg];simp
  have:aP 20000000 (pre++Lib.join ((I.take i).map bN) [44],(i:Int),I,K,D,KF,DF,KT,DT,e,l)=some (.inl (pre++Lib.join ((I.take (i+1)).map bN) [44],((i+1:Nat):Int),I,K,D,KF,DF,KT,DT,e,l)):=by
   unfold aP
   simp only [u11,u10,u9,u8,u7,u6,u5,u4,u3,u2]
   rw [ar (show (i:Int)<len I by show (i:Int)<((I.length:Nat):Int);omega),dp hil]
   have hit:ct 20000000 (iF t) (d8 t).2.2.1 (d8 t).2.2.2=some (bN t):=I7 ok
   simp only [aj,ob,hg,hit]
   rw [htk]
   by_cases h0:i=0
   ·subst h0
    rw [au (show ¬((0:Nat):Int)>0 by omega),af,bZ (by simp only [aM];omega),sE (by omega)]
    simp [Lib.join_nil,Lib.join_one]
   ·have hne:(I.take i).map bN≠[]:=by
     intro h
     have:=dm List.length h
     rw [uz,cO,bj] at this
     omega
    rw [ar (show (i:Int)>0 by omega),aj,bZ (by simp only [aM,aD,bj];omega)]
    simp only []
    rw [bZ (by simp only [aM,aD,bj];omega),sE (by omega),KG _ _ hne]
    simp
  rw [am,this]
  exact ih (i+1) (by omega) N (by omega)
theorem Lo {K:Int} (hK:HG K) {I:List TI} (hs:∀t∈I,OkI t) (hn:I.length<=1000) (D:TD) (KF:Int) (DF:TD) (KT:Int) (DT:TD) (e l:Bool):kJ 20000000 K D KF DF KT DT e l I=some (sR K e l I):=by
 have hj:=tn hs
 have hl:=λ(pre:aa) (hp:pre.length<=10)=>G4 hs hn pre hp K D KF DF KT DT e l I.length 0 (by omega) 20000000 (by omega)
 have e0:Lib.join ((I.take 0).map bN) [44]=[]:=rfl
 rw [e0] at hl
 simp only [pM] at hl
 unfold kJ sR
 have l1:=hl [123,46,46] (by simp)
 have l2:=hl [123] (by simp)
 have l3:=hl [91,46,46] (by simp)
 have l4:=hl [91] (by simp)
 rw [show ((0:Nat):Int)=0 from rfl] at l1 l2 l3 l4
 rw [l1,l2,l3,l4]
 generalize Lib.join (I.map bN) [44]=w at hj
 have c1:∀p q:aa,p.length<=10->q.length<=10->cat (p++w) q=some (p++w++q):=λp q hp hq=>bZ (by simp only [aM];omega)
 have c2:∀p q r:aa,p.length<=10->q.length<=10->r.length<=10->cat (p++w++q) r=some (p++w++q++r):=λp q r hp hq hr=>bZ (by simp only [aM];omega)
 rcases hK with rfl | rfl
 ·rw [show ((3:Int)==4)=false from rfl]
  cases e<;>cases l<;>simp only [aj,af,ob,u10,u9,u8,u7,u6,u5,u4,u3,u2]
  ·simp only [show ((3:Int)==4)=false from rfl,show ((4:Int)==4)=true from rfl,aj,af]
   rw [c1 _ _ (by simp) (by simp)]
   simp [endC]
  ·rw [c1 _ _ (by simp) (by simp)]
   simp only [show ((3:Int)==4)=false from rfl,show ((4:Int)==4)=true from rfl,aj,af]
   rw [c2 _ _ _ (by simp) (by simp) (by simp)]
   simp [endC]
  ·simp only [show ((3:Int)==4)=false from rfl,show ((4:Int)==4)=true from rfl,aj,af]
   rw [c1 _ _ (by simp) (by simp)]
   simp [endC]
  ·rw [c1 _ _ (by simp) (by simp)]
   simp only [show ((3:Int)==4)=false from rfl,show ((4:Int)==4)=true from rfl,aj,af]
   rw [c2 _ _ _ (by simp) (by simp) (by simp)]
   simp [endC]
 ·rw [show ((4:Int)==4)=true from rfl]
  cases e<;>cases l<;>simp only [aj,af,ob,u10,u9,u8,u7,u6,u5,u4,u3,u2]
  ·simp only [show ((3:Int)==4)=false from rfl,show ((4:Int)==4)=true from rfl,aj,af]
   rw [c1 _ _ (by simp) (by simp)]
   simp [endC]
  ·rw [c1 _ _ (by simp) (by simp)]
   simp only [show ((3:Int)==4)=false from rfl,show ((4:Int)==4)=true from rfl,aj,af]
   rw [c2 _ _ _ (by simp) (by simp) (by simp)]
   simp [endC]
  ·simp only [show ((3:Int)==4)=false from rfl,show ((4:Int)==4)=true from rfl,aj,af]
   rw [c1 _ _ (by simp) (by simp)]
   simp [endC]
  ·rw [c1 _ _ (by simp) (by simp)]
   simp only [show ((3:Int)==4)=false from rfl,show ((4:Int)==4)=true from rfl,aj,af]
   rw [c2 _ _ _ (by simp) (by simp) (by simp)]
   simp [endC]
theorem PP (n:Nat) (K:Int) (D:TD) (KF:Int) (DF:TD) (KT:Int) (DT:TD) (c:Nat) (e l:Bool) (L:List TI):eP n K D KF DF KT DT L.length c e l L=gp n K D KF DF KT DT e l L:=by
 unfold eP gp
 rw [J6]
theorem Eb (n N:Nat) (i K:Int) (D:TD) (KF:Int) (DF:TD) (KT:Int) (DT:TD) (c:Nat) (e l:Bool) (L:List TI) (ws:List (aa)):
  am (fA n) N (L.length,c,len L,i,L,K,D,KF,DF,KT,DT,L.length,c,e,l,ws)=(am (ch n) N (len L,i,L,K,D,KF,DF,KT,DT,e,l,ws)).map (u10 λx2 x3 x4 x5 x6 x7 x8 x9 x10 x11=>(x2,x3,x4,x5,x6,x7,x8,x2.length,c,x9,x10,x11)):=
 n9 (s:=ch n) (s':=fA n) (u12 λx0 x1 x2 x3 x4 x5 x6 x7 x8 x9 x10 x11=>(x2.length,c,x0,x1,x2,x3,x4,x5,x6,x7,x8,x2.length,c,x9,x10,x11)) _ (by
  rintro ⟨x0,x1,x2,x3,x4,x5,x6,x7,x8,x9,x10,x11⟩
  unfold ch fA
  simp only [u16,u15,u14,u13,u12,u11,u10,u9,u8,u7,u6,u5,u4,u3,u2]
  cases decide (x1<x0)
  ·rfl
  ·simp only [aj]
   cases ix x2.length x1 with
   | none=>rfl
   | some i=>
    simp only [ob]
    cases x2[i]? with
    | none=>rfl
    | some t=>
     simp only [ob]
     cases ga n (iF t) (d8 t).2.2.1 (d8 t).2.2.2 with
     | none=>rfl
     | some v=>
      simp only [ob]
      cases ix x11.length x1 with
      | none=>rfl
      | some j=>
       simp only [ob]
       cases x11[j]?<;>rfl) N (len L,i,L,K,D,KF,DF,KT,DT,e,l,ws)
theorem S5 (n:Nat) (K:Int) (D:TD) (KF:Int) (DF:TD) (KT:Int) (DT:TD) (c:Nat) (e l:Bool) (L:List TI):nL n K D KF DF KT DT L.length c e l L=mR n K D KF DF KT DT e l L:=by
 unfold nL mR
 rw [PP,show am (fA n) n (L.length,c,((L.length:Nat):Int),0,L,K,D,KF,DF,KT,DT,L.length,c,e,l,List.replicate (Int.toNat ((L.length:Nat):Int)) [])=_ from Eb n n 0 K D KF DF KT DT c e l L _]
 rw [show List.replicate (Int.toNat ((L.length:Nat):Int)) ([]:aa)=List.replicate (Int.toNat (len L)) [] from rfl]
 cases am (ch n) n (len L,0,L,K,D,KF,DF,KT,DT,e,l,List.replicate (Int.toNat (len L)) []) with
 | none=>rfl
 | some y=>rfl
theorem BA (n N:Nat) (s:aa) (K:Int) (D:TD) (KF:Int) (DF:TD) (KT:Int) (DT:TD) (c:Nat) (e l:Bool) (L:List TI):
  am (bY n) N (s,0,L,K,D,KF,DF,KT,DT,L.length,c,e,l)=(am (aP n) N (s,0,L,K,D,KF,DF,KT,DT,e,l)).map (u10 λx0 x2 x3 x4 x5 x6 x7 x8 x9 x10=>(x0,x2,x3,x4,x5,x6,x7,x8,x2.length,c,x9,x10)):=
 n9 (s:=aP n) (s':=bY n) (u11 λx0 x1 x2 x3 x4 x5 x6 x7 x8 x9 x10=>(x0,x1,x2,x3,x4,x5,x6,x7,x8,x2.length,c,x9,x10)) _ (by
  rintro ⟨x0,x1,x2,x3,x4,x5,x6,x7,x8,x9,x10⟩
  unfold aP bY
  simp only [u13,u12,u11,u10,u9,u8,u7,u6,u5,u4,u3,u2]
  rw [show decide (x1<((x2.length:Nat):Int))=decide (x1<len x2) from rfl]
  cases decide (x1<len x2)
  ·rfl
  ·simp only [aj]
   have main:∀o:Option (aa),(ob o λv0=>(ob (ix x2.length x1) λv1=>(ob (x2[v1]?) λv2=>(ob (ct n (iF v2) (d8 v2).2.2.1 (d8 v2).2.2.2) λv3=>(ob (cat v0 v3) λv4=>(some (.inl (v4,(w64 (x1+1)),x2,x3,x4,x5,x6,x7,x8,x2.length,c,x9,x10)))))))) =
     Option.map (Sum.map (u11 λx0 x1 (x2:List TI) x3 x4 x5 x6 x7 x8 x9 x10=>(x0,x1,x2,x3,x4,x5,x6,x7,x8,x2.length,c,x9,x10)) (u10 λx0 (x2:List TI) x3 x4 x5 x6 x7 x8 x9 x10=>(x0,x2,x3,x4,x5,x6,x7,x8,x2.length,c,x9,x10))) ((ob o λv0=>(ob (ix x2.length x1) λv1=>(ob (x2[v1]?) λv2=>(ob (ct n (iF v2) (d8 v2).2.2.1 (d8 v2).2.2.2) λv3=>(ob (cat v0 v3) λv4=>(some (.inl (v4,(w64 (x1+1)),x2,x3,x4,x5,x6,x7,x8,x9,x10)))))))):Option ((aa×Int×List TI×Int×TD×Int×TD×Int×TD×Bool×Bool)⊕(aa×List TI×Int×TD×Int×TD×Int×TD×Bool×Bool))):=by
    intro o
    cases o with
    | none=>rfl
    | some v0=>
     simp only [ob]
     cases ix x2.length x1 with
     | none=>rfl
     | some i=>
      simp only [ob]
      cases x2[i]? with
      | none=>rfl
      | some t=>
       simp only [ob]
       cases ct n (iF t) (d8 t).2.2.1 (d8 t).2.2.2 with
       | none=>rfl
       | some v=>
        simp only [ob]
        cases cat v0 v<;>rfl
   cases decide (x1>0)
   ·exact main (some x0)
   ·exact main (cat x0 [44])) N (s,0,L,K,D,KF,DF,KT,DT,e,l)
theorem Pg (n:Nat) (K:Int) (D:TD) (KF:Int) (DF:TD) (KT:Int) (DT:TD) (c:Nat) (e l:Bool) (L:List TI):gR n K D KF DF KT DT L.length c e l L=kJ n K D KF DF KT DT e l L:=by
 unfold gR kJ
 simp only [BA]
 cases K==4<;>cases e<;>simp only [aj,af]
 ·cases am (aP n) n ([91],0,L,K,D,KF,DF,KT,DT,false,l)<;>rfl
 ·cases am (aP n) n ([91,46,46],0,L,K,D,KF,DF,KT,DT,true,l)<;>rfl
 ·cases am (aP n) n ([123],0,L,K,D,KF,DF,KT,DT,false,l)<;>rfl
 ·cases am (aP n) n ([123,46,46],0,L,K,D,KF,DF,KT,DT,true,l)<;>rfl
theorem F8:bi 20000000=some true:=by kernel_rfl
theorem sN (K:Int) (D:TD) (KF:Int) (DF:TD) (KT:Int) (DT:TD) (e l:Bool) {I:List TI} (hn:I.length<=1000000):du 20000000 K D KF DF KT DT e l K D KF DF KT DT e l I I=some 1:=by
 unfold du
 rw [AQ rfl hn,ae rfl]
 have hD:∀x:TD,eqD x x=true:=λx=>m8.2 rfl
 simp only [hD,qw,eM,af,JZ,dn,obs,sm,ob]
theorem Pm (n:Nat) (K:Int) (D:TD) (KF:Int) (DF:TD) (KT:Int) (DT:TD) (c:Nat) (e l:Bool) (K':Int) (D':TD) (KF':Int) (DF':TD) (KT':Int) (DT':TD) (e' l':Bool) (I J:List TI):
  eD n K D KF DF KT DT I.length c e l K' D' KF' DF' KT' DT' e' l' I J=du n K D KF DF KT DT e l K' D' KF' DF' KT' DT' e' l' I J:=by
 unfold eD du
 have:=n9 (s:=bM n) (s':=fS n) (u19 λx0 x1 x2 x3 x4 x5 x6 x7 x8 x9 x10 x11 x12 x13 x14 x15 x16 x17 x18=>(x0,x1,x2,x3,x4,x5,x6,x7,x8,x1.length,c,x9,x10,x11,x12,x13,x14,x15,x16,x17,x18)) id (by
  rintro ⟨x0,x1,x2,x3,x4,x5,x6,x7,x8,x9,x10,x11,x12,x13,x14,x15,x16,x17,x18⟩
  unfold bM fS
  simp only [u21,u20,u19,u18,u17,u16,u15,u14,u13,u12,u11,u10,u9,u8,u7,u6,u5,u4,u3,u2,D2]
  rw [show decide (x0<((x1.length:Nat):Int))=decide (x0<len x1) from rfl]
  cases decide (x0<len x1)
  ·rfl
  ·simp only [aj]
   cases ix x1.length x0 with
   | none=>rfl
   | some i=>
    simp only [ob]
    cases x1[i]? with
    | none=>rfl
    | some t=>
     simp only [ob]
     cases ix x2.length x0 with
     | none=>rfl
     | some j=>
      simp only [ob]
      cases x2[j]? with
      | none=>rfl
      | some u=>
       simp only [ob]
       cases decide (t=u)<;>rfl) n (0,I,J,K,D,KF,DF,KT,DT,e,l,K',D',KF',DF',KT',DT',e',l')
 simp only [u19,u18,u17,u16,u15,u14,u13,u12,u11,u10,u9,u8,u7,u6,u5,u4,u3,u2,D9,id] at this
 rw [this]
theorem BX (K:Int) (D:TD) (KF:Int) (DF:TD) (KT:Int) (DT:TD) (c:Nat) (e l:Bool) {I:List TI} (hn:I.length<=1000000):eD 20000000 K D KF DF KT DT I.length c e l K D KF DF KT DT e l I I=some 1:=
 (Pm _ _ _ _ _ _ _ _ _ _ _ _ _ _ _ _ _ _ _ _).trans (sN K D KF DF KT DT e l hn)
theorem xZ {K:Int} (hK:HG K) {e l:Bool} {I:List TI} (h1:1<=I.length) (h2:I.length<=256) (ok:∀t∈I,OkI t) (hE:(setE K e l I).2=0):uL (sR K e l I)=.inr (K,e,l,I):=by
 unfold uL
 rw [HC hK h1 h2 ok hE (post:=[]) (by rw [gy,pM])]
 simp only []
 rw [ab (by omega)]
theorem CJ {K:Int} {e l:Bool} {I:List TI} (h2:I.length<=256) (ok:∀t∈I,OkI t):(sR K e l I).length<=19720:=by
 have:=tn ok
 unfold sR
 cases e<;>cases l<;>simp<;>omega
theorem Q5 (n:Nat) (K:Int) (D:TD) (KF:Int) (DF:TD) (KT:Int) (DT:TD) (c:Nat) (e l:Bool) (K':Int) (D':TD) (KF':Int) (DF':TD) (KT':Int) (DT':TD) (c':Nat) (e' l':Bool) (I J:List TI):
  fO n K D KF DF KT DT I.length c e l K' D' KF' DF' KT' DT' J.length c' e' l' I J=du n K D KF DF KT DT e l K' D' KF' DF' KT' DT' e' l' I J:=by
 unfold fO du
 have:=n9 (s:=bM n) (s':=fR n) (u19 λx0 x1 x2 x3 x4 x5 x6 x7 x8 x9 x10 x11 x12 x13 x14 x15 x16 x17 x18=>(x0,x1,x2,x3,x4,x5,x6,x7,x8,x1.length,c,x9,x10,x11,x12,x13,x14,x15,x16,x2.length,c',x17,x18)) id (by
  rintro ⟨x0,x1,x2,x3,x4,x5,x6,x7,x8,x9,x10,x11,x12,x13,x14,x15,x16,x17,x18⟩
  unfold bM fR
  simp only [u23,u22,u21,u20,u19,u18,u17,u16,u15,u14,u13,u12,u11,u10,u9,u8,u7,u6,u5,u4,u3,u2,D2]
  rw [show decide (x0<((x1.length:Nat):Int))=decide (x0<len x1) from rfl]
  cases decide (x0<len x1)
  ·rfl
  ·simp only [aj]
   cases ix x1.length x0 with
   | none=>rfl
   | some i=>
    simp only [ob]
    cases x1[i]? with
    | none=>rfl
    | some t=>
     simp only [ob]
     cases ix x2.length x0 with
     | none=>rfl
     | some j=>
      simp only [ob]
      cases x2[j]? with
      | none=>rfl
      | some u=>
       simp only [ob]
       cases decide (t=u)<;>rfl) n (0,I,J,K,D,KF,DF,KT,DT,e,l,K',D',KF',DF',KT',DT',e',l')
 simp only [u19,u18,u17,u16,u15,u14,u13,u12,u11,u10,u9,u8,u7,u6,u5,u4,u3,u2,D9,id] at this
 rw [this]
theorem Bo (K:Int) (D:TD) (KF:Int) (DF:TD) (KT:Int) (DT:TD) (c c':Nat) (e l:Bool) {I:List TI} (hn:I.length<=1000000):fO 20000000 K D KF DF KT DT I.length c e l K D KF DF KT DT I.length c' e l I I=some 1:=
 (Q5 _ _ _ _ _ _ _ _ _ _ _ _ _ _ _ _ _ _ _ _ _).trans (sN K D KF DF KT DT e l hn)
theorem SetOK.its {S:aa} {K:Int} {e l:Bool} {I:List TI} {p:Nat} (h:SetOK S K e l I p):(∀t∈I,OkI t)/\(iK K d0 0 d0 0 d0 e l I).2=0:=by
 have P:=vB h.kind (show (iK K d0 0 d0 0 d0 e l I).2=0 from h.ok)
 exact ⟨λt ht=>(JG P h.sm t ht).1,h.ok⟩
theorem Ar (S:aa):eg 20000000 S=some true:=by
 unfold eg
 rw [F8]
 by_cases hl:200<S.length
 ·rw [show decide (len S>200)=true from ar (by show (200:Int)<((S.length:Nat):Int);omega)]
  rfl
 rw [show decide (len S>200)=false from au (by show ¬(200:Int)<((S.length:Nat):Int);omega),af]
 unfold gK
 have hp:=sZ (S:=S) (by omega)
 have hr:=QK (S:=S) (a:=0) (by omega) (by omega)
 rw [show ((0:Nat):Int)=0 from rfl] at hr
 rw [hp]
 unfold uL
 cases h:su S 0 with
 | inl f=>
  have hE:=CN (by omega) h
  have e1:(((f.2.1:Nat):Int)==0)=false:=by simp;omega
  have e2:(((f.2.1:Nat):Int) != 0)=true:=by simp;omega
  rw [h] at hr
  simp only [IW,obs,sm,ob,hr,GR,u24,u23,u22,u21,u20,u19,u18,u17,u16,u15,u14,u13,u12,u11,u10,u9,u8,u7,u6,u5,u4,u3,u2]
  simp only [eG,eq,dY,dT,dZ,e1,e2,aj,af,ob,u24,u23,u22,u21,u20,u19,u18,u17,u16,u15,u14,u13,u12,u11,u10,u9,u8,u7,u6,u5,u4,u3,u2,sN 0 d0 0 d0 0 d0 false false (I:=[]) (by simp),eM,show ((1:Int)==0)=false from rfl]
 | inr q=>
  obtain ⟨K,e,l,I,p⟩:=q
  have ok:=zj (by omega) h
  rw [h] at hr
  by_cases hp:p<S.length
  ·have e3:decide ((p:Int)<len S)=true:=ar (by show (p:Int)<((S.length:Nat):Int);omega)
   simp only [ae hp,IW,obs,sm,ob,hr,GR,u24,u23,u22,u21,u20,u19,u18,u17,u16,u15,u14,u13,u12,u11,u10,u9,u8,u7,u6,u5,u4,u3,u2]
   simp only [eG,eq,dY,dT,dZ,e3,qw,aj,af,ob,u24,u23,u22,u21,u20,u19,u18,u17,u16,u15,u14,u13,u12,u11,u10,u9,u8,u7,u6,u5,u4,u3,u2,sN 0 d0 0 d0 0 d0 false false (I:=[]) (by simp),eM,show ((1:Int)==0)=false from rfl,show ((5:Int) != 0)=true from rfl]
   rfl
  ·have e3:decide ((p:Int)<len S)=false:=au (by show ¬(p:Int)<((S.length:Nat):Int);omega)
   obtain ⟨oks,hf⟩:=ok.its
   have hm:=ok.most
   have hsm:=DJ ok.sm
   have htl:=CJ (K:=K) (e:=e) (l:=l) hm oks
   have hpt:aO 20000000 (sR K e l I)=some (.inr (K,d0,0,d0,0,d0,I.length,I.length,e,l,0,0,I)):=by
    rw [sZ (by omega),xZ ok.kind ok.one hm oks ok.ok];rfl
   simp only [ab hp,IW,obs,sm,ob,hr,GR,u26,u25,u24,u23,u22,u21,u20,u19,u18,u17,u16,u15,u14,u13,u12,u11,u10,u9,u8,u7,u6,u5,u4,u3,u2]
   simp only [gk,gj,fD,fF,fH,e3,qw,aj,af,ob,u26,u25,u24,u23,u22,u21,u20,u19,u18,u17,u16,u15,u14,u13,u12,u11,u10,u9,u8,u7,u6,u5,u4,u3,u2,BX K d0 0 d0 0 d0 I.length e l (I:=I) (by omega),eM,show ((1:Int)==0)=false from rfl]
   rw [S5,O5 hsm,ae (show HG K from ok.kind),ae hf]
   simp only [ob,u2]
   unfold fG
   rw [hpt]
   simp only [obs,sm,ob,u26,u25,u24,u23,u22,u21,u20,u19,u18,u17,u16,u15,u14,u13,u12,u11,u10,u9,u8,u7,u6,u5,u4,u3,u2]
   rw [HE hsm,Pg,Lo ok.kind oks (by omega),Bo K d0 0 d0 0 d0 I.length I.length e l (I:=I) (by omega),hf]
   simp
theorem Gj {S:aa} (hS:S.length<100000) {K:Int} {e l:Bool} {I:List TI} (h:aO 20000000 S=some (.inr (K,d0,0,d0,0,d0,I.length,I.length,e,l,0,0,I))):∃p,SetOK S K e l I p:=by
 rw [sZ hS] at h
 simp only [aq] at h
 cases hp:uL S with
 | inl f=>rw [hp] at h;cases h
 | inr q=>
  obtain ⟨K',e',l',I'⟩:=q
  rw [hp] at h
  have h:=zt h
  simp only [bO] at h
  obtain ⟨rfl,_,_,_,_,_,_,_,rfl,rfl,_,_,rfl⟩:=h
  unfold uL at hp
  cases hr:su S 0 with
  | inl f=>rw [hr] at hp;cases hp
  | inr q=>
   obtain ⟨a,b,c,d,p⟩:=q
   rw [hr] at hp
   simp only [] at hp
   split at hp
   ·cases hp
   ·have hp:=zt hp
    simp only [bO] at hp
    obtain ⟨rfl,rfl,rfl,rfl⟩:=hp
    exact ⟨p,zj (by omega) hr⟩
def ir:TI:=mkI (false,false,[50,48,48,52],0,0,[],[],0,0,0) false d0
theorem Rk:∃p,SetOK [91,50,48,48,52,93] 3 false false [ir] p:=Gj (by simp) (by kernel_rfl)
theorem Q1:∃p,SetOK [91,50,48,48,52,46,46,93] 3 false true [ir] p:=Gj (by simp) (by kernel_rfl)
theorem zy:OkI ir/\itI ir false=0/\endB ir=true:=by
 obtain ⟨p,h⟩:=Rk
 obtain ⟨q,g⟩:=Q1
 have P:=vB h.kind (show (iK 3 d0 0 d0 0 d0 false false [ir]).2=0 from h.ok)
 have h1:=JG P h.sm ir (by simp)
 refine ⟨h1.1,h1.2,?_⟩
 have hg:(setE 3 false true [ir]).2=0:=g.ok
 have hz:eqD d0 d0=true:=m8.2 rfl
 have hu:unuB 3 d0 0 d0 0 d0 false true [ir].length=false:=by unfold unuB;rw [hz];rfl
 unfold setE iK at hg
 rw [ab (by omega),hu,ab (by simp),ab (by omega),ab (by omega),ab (by simp),ab (by simp)] at hg
 unfold rB at hg
 rw [show [ir].length=1 from rfl] at hg
 simp only [mI] at hg
 have e0:errI 3 false true 1 0 ir=0:=by
  by_cases h0:errI 3 false true 1 0 ir=0
  ·exact h0
  ·rw [ae h0] at hg;exact absurd hg h0
 unfold errI at e0
 rw [show ((3:Int)==4)=false from rfl,h1.2] at e0
 cases hb:endB ir
 ·rw [hb] at e0;simp at e0
 ·rfl
theorem NL {n:Nat} (h1:1<=n) (h2:n<=256) (l:Bool):(setE 3 false l (List.replicate n ir)).2=0:=by
 obtain ⟨_,h0,hb⟩:=zy
 have hz:eqD d0 d0=true:=m8.2 rfl
 have hu:unuB 3 d0 0 d0 0 d0 false l (List.replicate n ir).length=false:=by unfold unuB;rw [hz];rfl
 unfold setE iK
 rw [ab (by omega),hu,ab (by simp),ab (by omega),ab (by omega),ab (by simp;omega),ab (by simp;omega)]
 unfold rB
 rw [uB λi t ht=>?_]
 have:=JC (gQ ht)
 subst this
 unfold errI
 rw [show ((3:Int)==4)=false from rfl,h0,hb]
 simp
theorem vJ {en:UInt8} (hen:brk en=true):∀(I:List TI) (p:Nat) {S post:aa} (P:List Nat) (J:List TI),(∀u∈I,OkI u)->S.drop p=(I.map λt=>bN t++[44]).flatten++post->ka S en I.length p P J=.inl (p+(I.map λt=>bN t++[44]).flatten.length,3,p+(I.map λt=>bN t++[44]).flatten.length)
 | [],p,S,post,P,J,_,h=>by rw [bj,ka];simp
 | t::I,p,S,post,P,J,ok,h=>by
  have e0:((t::I).map λt=>bN t++[44]).flatten++post=bN t++(44::((I.map λt=>bN t++[44]).flatten++post)):=by simp
  rw [e0] at h
  obtain ⟨a,ha⟩:=sg (ok t nV) hen h (qD (by decide)) (λhd=>by
   obtain ⟨r,hr⟩:=tW.1 hd
   cases hr)
  have e1:=fB h
  have e2:S.drop (p+(bN t).length+1)=(I.map λt=>bN t++[44]).flatten++post:=fB (u:=[44]) e1
  rw [aD,ka,ha]
  simp only []
  rw [e1,qg,ae rfl,vJ hen I _ _ _ (λu hu=>ok u (gq _ hu)) e2]
  have:p+(bN t).length+1+(I.map λt=>bN t++[44]).flatten.length=p+((t::I).map λt=>bN t++[44]).flatten.length:=by simp;omega
  rw [this]
def uS:aa:=91::(bN ir++kx (List.replicate 255 ir))
theorem MH:am (eC 20000000) 20000000 ([91,50,48,48,52],1)=some uS:=by kernel_rfl
theorem AY:uS.length=1280:=by kernel_rfl
theorem OX:bN ir=[50,48,48,52]:=by kernel_rfl
theorem O3 (l:Bool):uS++((if l then [46,46] else [])++[93])=sR 3 false l (List.replicate 256 ir):=by
 unfold uS sR
 rw [show List.replicate 256 ir=ir::List.replicate 255 ir from rfl,wm]
 simp [endC]
theorem H7 (l:Bool):aO 20000000 (uS++((if l then [46,46] else [])++[93]))=some (.inr (3,d0,0,d0,0,d0,256,256,false,l,0,0,List.replicate 256 ir)):=by
 have ok:∀t∈List.replicate 256 ir,OkI t:=λt ht=>by rw [JC ht];exact zy.1
 have hl:=CJ (K:=3) (e:=false) (l:=l) (I:=List.replicate 256 ir) (by simp) ok
 rw [O3,sZ (by omega),xZ (.inl rfl) (by simp) (by simp) ok (NL (by omega) (by omega) l)]
 simp only [IW,AB]
theorem Pj:uS++[44,120]=91::(((List.replicate 256 ir).map λt=>bN t++[44]).flatten++[120]):=by kernel_rfl
theorem P6:((List.replicate 256 ir).map λt=>bN t++[44]).flatten.length=1280:=by kernel_rfl
theorem Pe:aO 20000000 (uS++[44,120])=some (.inl (0,d0,0,d0,0,d0,false,false,1281,3,[])):=by
 have ok:∀t∈List.replicate 256 ir,OkI t:=λt ht=>by rw [JC ht];exact zy.1
 have hS:(uS++[44,120]).length<100000:=by rw [aM,AY];simp
 rw [sZ hS]
 generalize hT:uS++[44,120]=T at hS
 rw [Pj] at hT
 have e1:T.drop 1=((List.replicate 256 ir).map λt=>bN t++[44]).flatten++[120]:=by rw [<-hT];rfl
 have e3:dts (T.drop 1)=false:=by
  rw [e1]
  rw [show List.replicate 256 ir=ir::List.replicate 255 ir from rfl]
  simp only [fE,Jk,OX]
  rfl
 have e2:=vJ (en:=endC 3) (by decide) (List.replicate 256 ir) 1 (S:=T) (post:=[120]) [] [] ok e1
 rw [AB,P6] at e2
 unfold uL su
 rw [gy,<-hT,qg,ae rfl,hT]
 unfold uj
 rw [show 0+1=1 from rfl,e3]
 simp only [bP,aE]
 rw [e2]
 rfl
theorem Ac {i:Nat} (h:i<6):∃v:aa,([[],[46],[46,46],[46,46,46],[46,46,46,46],[44]]:List (aa))[i]?=some v/\v.length<=4:=by
 have:((List.range 6).all λi=>match ([[],[46],[46,46],[46,46,46],[46,46,46,46],[44]]:List (aa))[i]? with | some v=>decide (v.length<=4) | none=>false)=true:=by decide
 have:=(dF.1 this) i (kq.2 h)
 split at this
 ·rename_i v hv
  exact ⟨v,hv,by simpa using this⟩
 ·cases this
theorem Nn:am (aH 20000000) 20000000 (0,([[],[46],[46,46],[46,46,46],[46,46,46,46],[44]]:List (aa)))=some (.inr ()):=by
 refine Dj (m:=216) (f:=λi=>((i:Int),([[],[46],[46,46],[46,46,46],[46,46,46,46],[44]]:List (aa)))) ?_ ?_ (by omega)
 ·intro i hi
  have t1:Int.tmod (i:Int) 6=((i%6:Nat):Int):=rfl
  have t2:Int.tmod (w64 (Int.tdiv (i:Int) 6)) 6=((i / 6%6:Nat):Int):=by
   have:w64 (Int.tdiv (i:Int) 6)=((i / 6:Nat):Int):=by
    show IntKind.wrap .i64 ((i / 6:Nat):Int)=_
    rw [wrap_i64 _ (by omega) (by omega)]
   rw [this];rfl
  have t3:w64 (Int.tdiv (i:Int) 36)=((i / 36:Nat):Int):=by
   show IntKind.wrap .i64 ((i / 36:Nat):Int)=_
   rw [wrap_i64 _ (by omega) (by omega)]
  obtain ⟨v1,g1,l1⟩:=Ac (i:=i%6) (by omega)
  obtain ⟨v2,g2,l2⟩:=Ac (i:=i / 6%6) (by omega)
  obtain ⟨v3,g3,l3⟩:=Ac (i:=i / 36) (by omega)
  unfold aH
  simp only [u2,t1,t2,t3]
  generalize hE:([[],[46],[46,46],[46,46,46],[46,46,46,46],[44]]:List (aa))=E at *
  have hl:E.length=6:=by rw [<-hE];rfl
  rw [ar (show (i:Int)<216 by omega),hl,dp (show i%6<6 by omega),dp (show i / 6%6<6 by omega),dp (show i / 36<6 by omega)]
  simp only [aj,ob,g1,g2,g3]
  repeat (first | rw [bZ (by simp only [aM,aD,bj];omega)] | simp only [Ar,dn,af])
  rw [sE (by omega)]
 ·unfold aH
  simp only [u2]
  rfl
theorem QA (M:aa) (hM:M.length=1280) (h0:am (eC 20000000) 20000000 ([91,50,48,48,52],1)=some M)
  (c1:aO 20000000 (M++[93])=some (.inr (3,d0,0,d0,0,d0,256,256,false,false,0,0,List.replicate 256 ir)))
  (c2:aO 20000000 (M++[46,46,93])=some (.inr (3,d0,0,d0,0,d0,256,256,false,true,0,0,List.replicate 256 ir)))
  (c3:aO 20000000 (M++[44,120])=some (.inl (0,d0,0,d0,0,d0,false,false,1281,3,[]))):dj 20000000=some true:=by
 have hk:=Nn
 have hw:w64 (len M+1)=1281:=by
  have:len M=((1280:Nat):Int):=dm _ hM
  rw [this]
  show IntKind.wrap .i64 _=_
  rw [wrap_i64 _ (by omega) (by omega)];rfl
 unfold dj
 generalize am (aH 20000000) 20000000 (0,([[],[46],[46,46],[46,46,46],[46,46,46,46],[44]]:List (aa)))=Y at *
 subst hk
 rw [h0]
 clear h0
 generalize aO 20000000=F at *
 generalize List.replicate 256 ir=R at *
 simp only [ob]
 rw [bZ (by rw [hM];simp)]
 simp only [c1,obs,sm,ob,u13,u12,u11,u10,u9,u8,u7,u6,u5,u4,u3,u2]
 rw [bZ (by rw [hM];simp)]
 simp only [c3,obs,sm,ob,u13,u12,u11,u10,u9,u8,u7,u6,u5,u4,u3,u2]
 rw [bZ (by rw [hM];simp)]
 simp only [c2,obs,sm,ob,u13,u12,u11,u10,u9,u8,u7,u6,u5,u4,u3,u2,hw,F8]
 rfl
theorem NT:aO 20000000 (uS++[93])=some (.inr (3,d0,0,d0,0,d0,256,256,false,false,0,0,List.replicate 256 ir)):=by
 have:=H7 false
 rw [ab (by simp),dQ] at this
 exact this
theorem NJ:aO 20000000 (uS++[46,46,93])=some (.inr (3,d0,0,d0,0,d0,256,256,false,true,0,0,List.replicate 256 ir)):=by
 have:=H7 true
 rw [ae rfl] at this
 exact this
theorem zX:dj 20000000=some true:=QA uS AY MH NT NJ Pe
end Go.Sh
