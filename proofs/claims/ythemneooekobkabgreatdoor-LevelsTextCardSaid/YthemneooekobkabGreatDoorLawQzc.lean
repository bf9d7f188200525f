
/- Plain proofs, kept as far as they are needed here (printed by prune.py).
   Conditions: none. -/
import Derived.Test.YthemneooekobkabGreatDoorLawQzb
set_option linter.unusedVariables false
set_option linter.unusedSimpArgs false
set_option maxRecDepth 100000
namespace Go.Sh
open Go.Abs
def Gh (g l:Bool) (dg:aa) (x q:Int) (m d:aa) (k0 k1 k2:Int):Bool:=
 (((g==false)&&((l==false)&&((dg==([]:aa))&&((x==0)&&((q==0)&&true)))))&&((m==([]:aa))&&((d==([]:aa))&&(((k0==0)&&((k1==0)&&((k2==0)&&true)))&&true))))
noncomputable def chkB (K:Int) (g l:Bool) (dg:aa) (x q:Int) (m d:aa) (k0 k1 k2:Int):Int:=
 if K=1 then (if chkF g l dg x q m d k0 k1 k2=0 then (if exD dg m d q=true then 0 else 11) else chkF g l dg x q m d k0 k1 k2) else if K=2\/K=3 then (if Gh g l dg x q m d k0 k1 k2=true then 0 else 5) else 18
def EW (a c b d lo hi:Int):Int:=if a≠0 then a else if c≠0 then c else if b≠1/\d≠1 then 11 else if b≠1\/d≠1 then 0 else if lo>hi then 11 else 0
section
variable {K:Int} {g l:Bool} {dg:List UInt8} {x q:Int} {m d:List UInt8} {k0 k1 k2:Int} (hml:m.length<=18) (hdl:dg.length<=100) (hd18:d.length<=18) (h0:0<=k0) (h1:0<=k1) (h2:0<=k2)
include hml hdl hd18 h0 h1 h2
theorem wo:ig 20000000 K g l dg x q m d k0 k1 k2=some (chkB K g l dg x q m d k0 k1 k2):=by
 unfold ig chkB;rw [wu hml hdl h0 h1 h2,GN 20000000 g l dg x q m d k0 k1 k2 (by omega) (by omega) (by omega)];simp only [ob];by_cases a:K=1
 ·subst a;rw [ae rfl];simp only [rh,ah];by_cases hc:chkF g l dg x q m d k0 k1 k2=0
  ·rw [ae hc,hc];by_cases e:exD dg m d q=true
   ·rw [ae e,e];rfl
   ·rw [ab e];rw [HC] at e;rw [e];rfl
  ·rw [ab hc,bne0 hc];rfl
 ·rw [ab a,aK.2 a];simp only [af];have f:(!(((g==false)&&((l==false)&&((dg==([]:aa))&&((x==0)&&((q==0)&&true)))))&&((m==([]:aa))&&((d==([]:aa))&&(((k0==0)&&((k1==0)&&((k2==0)&&true)))&&true)))))=!(Gh g l dg x q m d k0 k1 k2):=rfl;rw [f];by_cases c:K=2
  ·subst c;rw [ae (.inl rfl)];cases Gh g l dg x q m d k0 k1 k2<;>rfl
  ·rw [aK.2 c];by_cases b:K=3
   ·subst b;rw [ae (.inr rfl)];cases Gh g l dg x q m d k0 k1 k2<;>rfl
   ·rw [aK.2 b,ab (by omega)];rfl
theorem xL:e7 20000000 K g l dg x q m d k0 k1 k2=some (chkB K g l dg x q m d k0 k1 k2):=by
 unfold e7 chkB;rw [ta hdl h0 h1 h2,Eb 20000000 g l dg x q m d k0 k1 k2 (by omega) (by omega) (by omega) (by omega)];simp only [ob];by_cases a:K=1
 ·subst a;rw [ae rfl];simp only [rh,ah];by_cases hc:chkF g l dg x q m d k0 k1 k2=0
  ·rw [ae hc,hc];by_cases e:exD dg m d q=true
   ·rw [ae e,ae e];rfl
   ·rw [ab e,ab e];rfl
  ·rw [ab hc,aK.2 hc];rfl
 ·rw [ab a,aK.2 a];simp only [af];have f:(!(((g==false)&&((l==false)&&((dg==([]:aa))&&((x==0)&&((q==0)&&true)))))&&((m==([]:aa))&&((d==([]:aa))&&(((k0==0)&&((k1==0)&&((k2==0)&&true)))&&true)))))=!(Gh g l dg x q m d k0 k1 k2):=rfl;rw [f];by_cases c:K=2
  ·subst c;rw [ae (.inl rfl)];cases Gh g l dg x q m d k0 k1 k2<;>rfl
  ·rw [aK.2 c];by_cases b:K=3
   ·subst b;rw [ae (.inr rfl)];cases Gh g l dg x q m d k0 k1 k2<;>rfl
   ·rw [aK.2 b,ab (by omega)];rfl
theorem Tj:me 20000000 K g l dg x q m d k0 k1 k2=some (if chkB K g l dg x q m d k0 k1 k2=0 then (if K=2 then [46,46] else if K=3 then [] else qI g l dg x q m d k0.toNat k1.toNat k2.toNat,0) else ([],chkB K g l dg x q m d k0 k1 k2)):=by
 unfold me;rw [wo hml hdl hd18 h0 h1 h2];simp only [ob];by_cases hc:chkB K g l dg x q m d k0 k1 k2=0
 ·rw [ae hc,hc];simp only [dF,af];by_cases b:K=2
  ·subst b;rfl
  ·rw [aK.2 b,ab b];by_cases a:K=3
   ·subst a;rfl
   ·rw [aK.2 a,ab a];have k1':K=1:=by
     unfold chkB at hc;by_cases h:K=1
     ·exact h
     ·rw [ab h,ab (by omega)] at hc;cases hc
    have c:chkF g l dg x q m d k0 k1 k2=0:=by
     unfold chkB at hc;rw [ae k1'] at hc;by_cases h:chkF g l dg x q m d k0 k1 k2=0
     ·exact h
     ·rw [ab h] at hc;exact absurd hc h
    have e:db 20000000 g l dg x q m d k0 k1 k2=_:=HW 19999700 g l dg x q m d k0 k1 k2 hml hdl h0 h1 h2;rw [e,ae (oZ c)];rfl
 ·rw [ab hc,bne0 hc];rfl
theorem vV (hc:chkB K g l dg x q m d k0 k1 k2=0) (b:K=1):chkF g l dg x q m d k0 k1 k2=0/\exD dg m d q=true:=by
 have c:=And.intro hml (And.intro hdl (And.intro hd18 (And.intro h0 (And.intro h1 h2))));unfold chkB at hc;rw [ae b] at hc;by_cases h:chkF g l dg x q m d k0 k1 k2=0
 ·rw [ae h] at hc;by_cases a:exD dg m d q=true
  ·exact ⟨h,a⟩
  ·rw [ab a] at hc;cases hc
 ·rw [ab h] at hc;exact absurd hc h
end
theorem XK (n:Nat) (a b:Int):jF n a b=some (if a<b then -1 else if a>b then 1 else 0):=by
 unfold jF lk;simp only [ob,dF,af];by_cases h:a<b
 ·rw [am h,ae h];rfl
 ·rw [aq h,ab h];by_cases c:a>b
  ·rw [am c,ae c];rfl
  ·rw [aq c,ab c];rfl
theorem HI (a b:Int):∃r,kO 20000000 0 a 0 b=some r/\decide (r>0)=decide (a>b):=by
 have f:mT 20000000 0 0=some 0:=rfl;have o1:pB 20000000 [0,-1]=some (-1):=by kernel_rfl
 have d:pB 20000000 [0,1]=some 1:=by kernel_rfl
 have e:pB 20000000 [0,0]=some 0:=by kernel_rfl
 unfold kO;rw [f,XK];simp only [ob];by_cases h:a<b
 ·rw [ae h,o1];exact ⟨_,rfl,by rw [aq (show ¬a>b by omega)];rfl⟩
 ·rw [ab h];by_cases c:a>b
  ·rw [ae c,d];exact ⟨_,rfl,by rw [am c];rfl⟩
  ·rw [ab c,e];exact ⟨_,rfl,by rw [aq c];rfl⟩
theorem bne1 {K:Int} (h:K≠1):(K != 1)=true:=by simp [h]
section
variable {K:Int} {g l:Bool} {dg:List UInt8} {x q:Int} {m d:List UInt8} {k0 k1 k2:Int} {K':Int} {g' l':Bool} {dg':List UInt8} {x' q':Int} {m' d':List UInt8} {p0 p1 p2:Int} (hml:m.length<=18) (hdl:dg.length<=100) (hd18:d.length<=18) (h0:0<=k0) (h1:0<=k1) (h2:0<=k2) (hml':m'.length<=18) (hdl':dg'.length<=100) (hd18':d'.length<=18) (h0':0<=p0) (h1':0<=p1) (h2':0<=p2)
include hml hdl hd18 h0 h1 h2 hml' hdl' hd18' h0' h1' h2'
theorem RQ:iN 20000000 K g l dg x q m d k0 k1 k2 K' g' l' dg' x' q' m' d' p0 p1 p2=some (EW (chkB K g l dg x q m d k0 k1 k2) (chkB K' g' l' dg' x' q' m' d' p0 p1 p2) K K' (qp g dg x m d).1 (qp g' dg' x' m' d').2):=by
 unfold iN EW;rw [wo hml hdl hd18 h0 h1 h2,wo hml' hdl' hd18' h0' h1' h2'];simp only [ob];by_cases b:chkB K g l dg x q m d k0 k1 k2=0
 ·rw [ab (by omega),b];by_cases c:chkB K' g' l' dg' x' q' m' d' p0 p1 p2=0
  ·rw [ab (by omega),c];simp only [dF,af];by_cases e:K=1
   ·rw [show (K != 1)=false by rw [e];rfl];simp only [af];by_cases a:K'=1
    ·rw [show (K' != 1)=false by rw [a];rfl,ab (by omega),ab (by omega)];simp only [af];obtain ⟨f,o⟩:=vV hml hdl hd18 h0 h1 h2 b e;obtain ⟨i,j⟩:=vV hml' hdl' hd18' h0' h1' h2' c a;rw [EK hml hdl hd18 h0 h1 h2,EK hml' hdl' hd18' h0' h1' h2',ae f,ae o,ae i,ae j];simp only [ob];obtain ⟨r,n,k⟩:=HI (qp g dg x m d).1 (qp g' dg' x' m' d').2;rw [n];simp only [k];by_cases h:(qp g dg x m d).1>(qp g' dg' x' m' d').2
     ·rw [am h,ae h];rfl
     ·rw [aq h,ab h];rfl
    ·rw [bne1 a,ab (by omega),ae (by omega)];rfl
   ·rw [bne1 e];by_cases a:K'=1
    ·rw [show (K' != 1)=false by rw [a];rfl,ab (by omega),ae (by omega)];rfl
    ·rw [bne1 a,ae (by omega)];rfl
  ·rw [ae c,bne0 c];rfl
 ·rw [ae b,bne0 b];rfl
theorem Ou:eT 20000000 K g l dg x q m d k0 k1 k2 K' g' l' dg' x' q' m' d' p0 p1 p2=some (EW (chkB K g l dg x q m d k0 k1 k2) (chkB K' g' l' dg' x' q' m' d' p0 p1 p2) K K' (qp g dg x m d).1 (qp g' dg' x' m' d').2):=by
 unfold eT EW;rw [xL hml hdl hd18 h0 h1 h2,xL hml' hdl' hd18' h0' h1' h2'];simp only [ob];by_cases c:chkB K g l dg x q m d k0 k1 k2=0
 ·rw [ab (by omega),c];by_cases e:chkB K' g' l' dg' x' q' m' d' p0 p1 p2=0
  ·rw [ab (by omega),e];simp only [dF,af];by_cases b:K=1
   ·rw [show (K != 1)=false by rw [b];rfl,show (K==1)=true by rw [b];rfl];simp only [af,ah];by_cases a:K'=1
    ·rw [show (K'==1)=true by rw [a];rfl,ab (by omega),ab (by omega)];simp only [ah];obtain ⟨f,o⟩:=vV hml hdl hd18 h0 h1 h2 c b;obtain ⟨i,n⟩:=vV hml' hdl' hd18' h0' h1' h2' e a;obtain ⟨rfl,j⟩:=vU f o;obtain ⟨rfl,k⟩:=vU i n;rw [vb j hdl,vb k hdl'];simp only [ob];by_cases h:(qp g dg x m d).1>(qp g' dg' x' m' d').2
     ·rw [am h,ae h];rfl
     ·rw [aq h,ab h];rfl
    ·rw [aK.2 a,ab (by omega),ae (by omega)];rfl
   ·rw [bne1 b,aK.2 b];by_cases a:K'=1
    ·rw [show (K' != 1)=false by rw [a];rfl,ab (by omega),ae (by omega)];rfl
    ·rw [bne1 a,ae (by omega)];rfl
  ·rw [ae e,bne0 e];rfl
 ·rw [ae c,bne0 c];rfl
end
def plR (r:DR):Nat:=r.2.2.2.2.2.2.2.2.1.1
def enR (r:DR):Nat:=r.2.2.2.2.2.2.2.2.2
theorem Jk {l:aa} {b:UInt8} (h:l.take 2=[b,b]):∃r,l=b::b::r:=by
 match l,h with
 | a::c::r,h=>simp at h;exact ⟨r,by rw [h.1,h.2]⟩
theorem GH {S:aa} {a:Nat} (h:a<=S.length) {r:DR} (b:cv S a=.inr r):qL S a=.inr r/\chkR r=0:=by
 unfold cv at b;cases c:qL S a with
 | inl k=>rw [c] at b;cases b
 | inr d=>
  rw [c] at b;simp only [] at b;by_cases hc:chkR d=0
  ·rw [ae hc] at b;obtain rfl:=lc b;exact ⟨rfl,hc⟩
  ·rw [ab hc] at b;cases b
theorem kP (c:UInt8) (k:Nat) (a:k<256):(((c.toNat:Nat):Int)==(k:Int))=decide (c=UInt8.ofNat k):=by
 rw [us,bI,decide_eq_true_iff];constructor
 ·intro h;apply gJ.1;have:c.toNat=k:=by omega
  rw [this];simp;omega
 ·rintro rfl;simp;omega
def M8 (S:aa) (A:Int):(Nat×Nat×Nat)⊕DR->Bool×Bool×aa×Int×Int×aa×aa×Int×Int×Int×Int×aa×Int×Int
 | .inl (k,E,p)=>(false,false,[],0,0,[],[],0,0,0,A,S,(k:Int),(E:Int))
 | .inr (g,l,dg,x,s,m,d,M,P,e)=>(g,l,dg,(x:Int),(s:Int),m,d,(M.1:Int),(M.2.1:Int),(M.2.2:Int),(P.1:Int),S,(e:Int),0)
theorem sD (S:aa) (a:Nat) (h:a<=S.length) (p:S.length<100000):∃A,eN 20000000 S (a:Int)=some (M8 S A (cv S a)):=by
 obtain ⟨Q,v,o⟩:=xB 19999700 S a h p (by omega);rw [show 19999700+300=20000000 from rfl] at o;obtain ⟨c,f,i,rfl⟩:∃c f i,Q=[c,f,i]:=by
  match Q,v with
  | [c,f,i],_=>exact ⟨c,f,i,rfl⟩
 unfold eN cv;rw [o];cases t:qL S a with
 | inl k=>exact ⟨c,rfl⟩
 | inr r=>
  obtain ⟨g,l,dg,x,s,n,d,M,P,e⟩:=r;have b:=AD h t;have u:=b.all;have w:=b.dg17;simp only [ob,TM,d4,d8,dF,af];rw [ta (g:=g) (l:=l) (x:=(x:Int)) (q:=(s:Int)) (m:=n) (d:=d) (show dg.length<=100 by omega) (show (0:Int)<=(M.1:Int) by omega) (show (0:Int)<=(M.2.1:Int) by omega) (show (0:Int)<=(M.2.2:Int) by omega)];have j:=vo (g:=g) (l:=l) (dg:=dg) (x:=(x:Int)) (q:=(s:Int)) (m:=n) (d:=d) (k0:=(M.1:Int)) (k1:=(M.2.1:Int)) (k2:=(M.2.2:Int)) (xj u);unfold chkR;simp only [];refine ⟨(P.1:Int),?_⟩;rcases j with hc | hc | hc | hc<;>rw [hc]<;>rfl
theorem re {S:aa} {a:Nat} (h:a<=S.length) {k E p:Nat} (b:cv S a=.inl (k,E,p)):E≠0:=by
 unfold cv at b;cases c:qL S a with
 | inl k'=>rw [c] at b;simp only [] at b;have:=Sum.inl.inj b;simp at this;omega
 | inr d=>
  rw [c] at b;simp only [] at b;by_cases hc:chkR d=0
  ·rw [ae hc] at b;cases b
  ·rw [ab hc] at b;have:=Sum.inl.inj b;simp at this;omega
def smT (x:TD):Prop:=x.2.2.2.2.2.1.length<=18/\x.2.2.1.length<=100/\x.2.2.2.2.2.2.1.length<=18/\0<=x.2.2.2.2.2.2.2.1/\0<=x.2.2.2.2.2.2.2.2.1/\0<=x.2.2.2.2.2.2.2.2.2
noncomputable def cF (x:TD):Int:=chkF x.1 x.2.1 x.2.2.1 x.2.2.2.1 x.2.2.2.2.1 x.2.2.2.2.2.1 x.2.2.2.2.2.2.1 x.2.2.2.2.2.2.2.1 x.2.2.2.2.2.2.2.2.1 x.2.2.2.2.2.2.2.2.2
def exT (x:TD):Bool:=exD x.2.2.1 x.2.2.2.2.2.1 x.2.2.2.2.2.2.1 x.2.2.2.2.1
def dyT (x:TD):Int×Int:=qp x.1 x.2.2.1 x.2.2.2.1 x.2.2.2.2.2.1 x.2.2.2.2.2.2.1
def seT (x:TD):Int:=sea x.2.2.2.2.2.1
def coT (x:TD):Nat:=dj x.2.2.2.2.2.1 x.2.2.2.2.2.2.1
noncomputable def plT (x:TD):Bool:=decide (cF x=0)&&(exT x&&!decide (0<seT x))
theorem nR:smT d0:=by unfold smT;simp
theorem fcT {x:TD} (h:smT x):ap10 (bG 20000000) x=some (cF x):=wu h.1 h.2.1 h.2.2.2.1 h.2.2.2.2.1 h.2.2.2.2.2
theorem rcT {x:TD} (h:smT x):ap10 (bS 20000000) x=some (cF x):=ta h.2.1 h.2.2.2.1 h.2.2.2.2.1 h.2.2.2.2.2
theorem reT {x:TD} (h:smT x):ap10 (aP 20000000) x=some (if exT x then 1 else 0):=by
 obtain ⟨a,b,c,_⟩:=h;exact Eb 20000000 _ _ _ _ _ _ _ _ _ _ (by omega) (by omega) (by omega) (by omega)
theorem rsT (x:TD):ap10 (aR 20000000) x=some (seT x):=pF 20000000 (by omega) _ _ _ _ _ _ _ _ _ _
theorem rcoT (x:TD):ap10 (aG 20000000) x=some ((coT x:Nat):Int):=oU 20000000 _ _ _ _ _ _ _ _ _ _
theorem fpT {x:TD} (h:smT x):ap10 (bj 20000000) x=some (if x.2.2.2.2.2.2.1=[] then (if 0<seT x then 0 else if x.2.2.2.2.2.1=[] then 1 else 2) else 3):=Nv 20000000 _ _ _ _ _ _ _ _ _ _ h.1
theorem fmT {x:TD} (h:smT x):ap10 (dV 20000000) x=some (hasX x.2.2.1||(hasX x.2.2.2.2.2.1||hasX x.2.2.2.2.2.2.1)):=by
 obtain ⟨a,b,c,_⟩:=h;exact DK 20000000 _ _ _ _ _ _ _ _ _ _ (by omega) (by omega) (by omega)
theorem fdT {x:TD} (h:smT x):ap10 (gG 20000000) x=some (if cF x=0 then (if exT x=true then (0,(dyT x).1,0,(dyT x).2,0) else (0,0,0,0,1)) else (0,0,0,0,cF x)):=EK h.1 h.2.1 h.2.2.1 h.2.2.2.1 h.2.2.2.2.1 h.2.2.2.2.2
theorem VC {x:TD} (hc:cF x=0) (a:exT x=true):x.2.2.2.2.1=0/\Exact x.1 x.2.1 x.2.2.1 x.2.2.2.1 x.2.2.2.2.2.1 x.2.2.2.2.2.2.1:=vU hc a
theorem rdT {x:TD} (h:smT x) (hc:cF x=0) (b:exT x=true):ap10 (bq 20000000) x=some (dyT x):=by
 obtain ⟨a,E⟩:=VC hc b;have:=vb (k0:=x.2.2.2.2.2.2.2.1) (k1:=x.2.2.2.2.2.2.2.2.1) (k2:=x.2.2.2.2.2.2.2.2.2) E h.2.1;rw [<-a] at this;exact this
theorem xd {x:TD} (hc:cF x=0):(x.2.2.2.2.2.1=[]\/x.2.2.2.2.2.1.length=2)/\(x.2.2.2.2.2.2.1=[]\/x.2.2.2.2.2.2.1.length=2)/\(x.2.2.2.2.2.2.1≠[]->x.2.2.2.2.2.1≠[]/\seT x=0):=by
 obtain ⟨_,a,b,_,c⟩:=tY (oZ hc);exact ⟨a,b,c⟩
theorem oV {x y:TD}:eqD x y=true↔x=y:=by
 obtain ⟨a1,a2,n,c,h,m,k,e,i,b⟩:=x;obtain ⟨b1,b2,o,d,p,l,g,f,j,a⟩:=y;simp [and_assoc]
theorem GI {x:TD} (h:smT x):nV 20000000 x=some (exT x):=by
 unfold nV;rw [fmT h];simp only [ob,exT,exD];cases (hasX x.2.2.1||(hasX x.2.2.2.2.2.1||hasX x.2.2.2.2.2.2.1))<;>rfl
theorem BZ {x:TD} (h:smT x):lW 20000000 x=some (plT x):=by
 unfold lW plT;rw [fcT h,GI h,fpT h];simp only [ob];by_cases hc:cF x=0
 ·rw [hc];cases d:exT x
  ·rfl
  ·show some ((if _ then _ else _) != (0:Int))=some (true&&(true&&!decide (0<seT x)));obtain ⟨_,_,c⟩:=xd hc;by_cases a:x.2.2.2.2.2.2.1=[]
   ·rw [ae a];by_cases hs:0<seT x
    ·rw [ae hs,am hs];rfl
    ·rw [ab hs,aq hs];by_cases b:x.2.2.2.2.2.1=[]
     ·rw [ae b];rfl
     ·rw [ab b];rfl
   ·rw [ab a,(c a).2];rfl
 ·rw [aq hc,show (cF x==0)=false from by simp [hc]];rfl
theorem tH {x:TD} (h:smT x):bn 20000000 x=some (if plT x then 1 else 0):=by
 unfold bn plT;rw [rcT h,reT h,rsT x];simp only [ob];by_cases hc:cF x=0
 ·rw [hc];cases b:exT x
  ·rfl
  ·by_cases hs:0<seT x
   ·have a:decide (seT x>0)=true:=am hs;rw [am hs];rfl
   ·have a:decide (seT x>0)=false:=aq hs;rw [aq hs];rfl
 ·rw [aq hc,show (cF x != 0)=true from by simp [hc]];rfl
theorem Ax {x:TD}:plT x=true↔cF x=0/\exT x=true/\¬0<seT x:=by
 unfold plT;simp [and_assoc]
noncomputable def ordB (x y:TD):Bool:=(plT x&&plT y)&&(decide (coT x=coT y)&&decide ((dyT x).1<=(dyT y).1))
theorem zt {x:TD} (hc:cF x=0) (hs:¬0<seT x):(if x.2.2.2.2.2.2.1=[] then (if 0<seT x then (0:Int) else if x.2.2.2.2.2.1=[] then 1 else 2) else 3)=((coT x:Nat):Int):=by
 obtain ⟨_,_,c⟩:=xd hc;unfold coT dj;by_cases a:x.2.2.2.2.2.2.1=[]
 ·rw [ae a,ab hs];by_cases b:x.2.2.2.2.2.1=[]
  ·simp [b,a]
  ·simp [b,a]
 ·have b:=(c a).1;simp [a,b]
theorem JB {x y:TD} (hx:smT x) (hy:smT y):ng 20000000 x y=some (ordB x y):=by
 unfold ng ordB;rw [BZ hx,BZ hy];cases i:plT x
 ·rfl
 cases h:plT y
 ·rfl
 obtain ⟨b,f,g⟩:=Ax.1 i;obtain ⟨d,m,k⟩:=Ax.1 h;rw [fpT hx,fpT hy,fdT hx,fdT hy,zt b g,zt d k,ae b,ae d,ae f,ae m];simp only [ob,u5,u4,u3,u2,ci,af,Bool.and_self,om];by_cases a:coT x=coT y
 ·rw [a,am rfl];obtain ⟨r,j,l⟩:=HI (dyT x).1 (dyT y).1;simp only [dF,af,j,om];refine cj some ?_;have:decide (r<=0)=!decide (r>0):=by
   by_cases c:r<=0
   ·rw [am c,aq (by omega)];rfl
   ·rw [aq c,am (by omega)];rfl
  rw [this,l];by_cases e:(dyT x).1<=(dyT y).1
  ·rw [am e,aq (by omega)];rfl
  ·rw [aq e,am (by omega)];rfl
 ·have:(((coT x:Nat):Int) != ((coT y:Nat):Int))=true:=by simp;omega
  rw [this,aq a];rfl
noncomputable def itE (x:TD) (r:Bool) (y:TD) (all:Bool):Int:=
 if cF x≠0 then cF x else if r=true/\cF y≠0 then cF y else if r=false/\eqD y d0=false then 5 else if r=true/\ordB x y=false then 10 else if all=true/\exT x=false then 10 else 0
theorem CC {x y:TD} (r:Bool) (hx:smT x) (hy:smT y) (K:Int) (hc:cF x=0) (a:¬(r=true/\cF y≠0)):eH 20000000 5 10 10 x r y K=some (itE x r y (K==4)):=by
 unfold eH qN rI rN itE;rw [JB hx hy,GI hx,ab (by simpa using hc),ab a];cases r
 ·generalize eqD y d0=z;cases z
  ·rfl
  ·cases (K==4)
   ·rfl
   ·cases exT x<;>rfl
 ·simp only [ob,ci,af,ah,reduceCtorEq,xO,aB,jN];cases ordB x y
  ·rfl
  ·simp only [ci,af,Bool.true_eq_false,aB];cases (K==4)
   ·rfl
   ·cases exT x<;>rfl
theorem EH {x y:TD} (r:Bool) (hx:smT x) (hy:smT y) (K:Int):gg 20000000 x r y K=some (if K=3\/K=4 then itE x r y (K==4) else 18):=by
 have b:(ob (ap10 (bG 20000000) x) λc=>(cond (c != 0) (some c) (cond r (ob (ap10 (bG 20000000) y) λf=>(cond (f != 0) (some f) (ob (eH 20000000 5 10 10 x r y K) λh=>(some h)))) (ob (eH 20000000 5 10 10 x r y K) λg=>(some g)))))=some (itE x r y (K==4)):=by
  rw [fcT hx];simp only [ob];by_cases hc:cF x=0
  ·rw [show (cF x != 0)=false from by simp [hc],af];cases r
   ·rw [CC false hx hy K hc (by simp)];rfl
   ·rw [ah,fcT hy];simp only;by_cases a:cF y=0
    ·rw [show (cF y != 0)=false from by simp [a],af,CC true hx hy K hc (by simp [a])]
    ·rw [show (cF y != 0)=true from by simp [a],ah];unfold itE;rw [ab (by simpa using hc),ae ⟨rfl,a⟩]
  ·rw [show (cF x != 0)=true from by simp [hc],ah];unfold itE;rw [ae hc]
 unfold gg;by_cases d:K=3
 ·subst d;exact b.trans (by rfl)
 ·rw [show (K != 3)=true from by simp [d],ah];by_cases e:K=4
  ·subst e;exact b.trans (by rfl)
  ·rw [show (K != 4)=true from by simp [e],ah,ab (by omega)]
theorem WL {x y:TD} {r all:Bool} (h:cF x≠0):itE x r y all=cF x:=ae h
theorem Q0 {x y:TD} {all:Bool} (hc:cF x=0) (h:cF y≠0):itE x true y all=cF y:=by
 unfold itE;rw [ab (λh=>h hc),ae ⟨rfl,h⟩]
theorem Ws {x y:TD} {all:Bool} (hc:cF x=0):itE x false y all=if eqD y d0=false then 5 else if all=true/\exT x=false then 10 else 0:=by
 have b:(false=true/\cF y≠0)↔False:=by simp
 have a:(false=true/\ordB x y=false)↔False:=by simp
 have c:(false=false/\eqD y d0=false)↔eqD y d0=false:=by simp
 unfold itE;rw [ab (λh=>h hc)];simp only [b,a,aB,jN]
theorem Ut {x y:TD} {all:Bool} (hc:cF x=0) (hy:cF y=0):itE x true y all=if ordB x y=false then 10 else if all=true/\exT x=false then 10 else 0:=by
 have b:(true=true/\ordB x y=false)↔ordB x y=false:=by simp
 have a:(true=false/\eqD y d0=false)↔False:=by simp
 unfold itE;rw [ab (λh=>h hc),ab (λh=>h.2 hy)];simp only [a,aB,jN]
theorem We (a b:Bool):(IntKind.wrap .i64 ((if a then (1:Int) else 0)*(if b then (1:Int) else 0))==0)=!(a&&b):=by cases a<;>cases b<;>rfl
theorem IW {x y:TD} (r all:Bool) (hx:smT x) (hy:smT y):jl 20000000 x r y all=some (itE x r y all):=by
 have last:cond all (ob (ap10 (aP 20000000) x) λc=>(cond (c==0) (some 10) (some 0))) (some 0)=some (if all=true/\exT x=false then (10:Int) else 0):=by
  rw [reT hx];cases all
  ·rfl
  ·cases exT x<;>rfl
 unfold jl;simp only [last];simp only [rcT hx,rcT hy,tH hx,tH hy,rcoT,ob,We];by_cases hc:cF x=0
 ·rw [show (cF x != 0)=false from by simp [hc],af];cases r
  ·simp only [af,il,ah];rw [Ws hc];generalize eqD y d0=z;cases z<;>rfl
  ·simp only [ah,ci,af];by_cases a:cF y=0
   ·rw [show (cF y != 0)=false from by simp [a],af];rw [Ut hc a];unfold ordB;cases i:plT x
    ·simp
    cases g:plT y
    ·simp
    obtain ⟨e,f,k⟩:=Ax.1 i;obtain ⟨h,j,l⟩:=Ax.1 g;rw [rdT hx e f,rdT hy h j];simp only [u2,Bool.and_self,ci,af,om,jN];by_cases b:coT x=coT y
    ·rw [b,am rfl];simp only [dF,af,om];by_cases d:(dyT x).1<=(dyT y).1
     ·rw [show decide ((dyT x).1>(dyT y).1)=false from aq (by omega),am d];simp
     ·rw [show decide ((dyT x).1>(dyT y).1)=true from am (by omega),aq d];simp
    ·have:(((coT x:Nat):Int) != ((coT y:Nat):Int))=true:=by simp;omega
     rw [this,aq b];simp
   ·rw [show (cF y != 0)=true from by simp [a],ah];rw [Q0 hc a]
 ·rw [show (cF x != 0)=true from by simp [hc],ah];rw [WL hc]
def sZ {A:Type} (f:Nat->A->Int):Nat->List A->Option (Nat×Int)
 | _,[]=>none
 | i,t::r=>if f i t≠0 then some (i,f i t) else sZ f (i+1) r
theorem zI {A X Y:Type} {step:X->Option (X⊕Y)} {st:Nat->X} {L:List A} {f:Nat->A->Int} {yes:Nat->Int->Y} {no:Y}
  (c:∀i t,L[i]?=some t->step (st i)=some (if f i t≠0 then .inr (yes i (f i t)) else .inl (st (i+1)))) (d:step (st L.length)=some (.inr no)):
  ∀(r i:Nat),i+r=L.length->∀N,r<N->ar step N (st i)=some (match sZ f i (L.drop i) with | some p=>yes p.1 p.2 | none=>no):=by
 intro r
 induction r with
 | zero=>
  intro i hi N e;obtain ⟨N,rfl⟩:∃k,N=k+1:=⟨N - 1,by omega⟩;rw [ar,show i=L.length by omega,d,sT];rfl
 | succ r ih=>
  intro i hi N e;obtain ⟨N,rfl⟩:∃k,N=k+1:=⟨N - 1,by omega⟩;have a:i<L.length:=by omega
  have g:L[i]?=some L[i]:=bf a;rw [ar,c i _ g,qE a,sZ];by_cases b:f i L[i]≠0
  ·rw [ae b,ae b]
  ·rw [ab b,ab b];exact ih (i+1) (by omega) N (by omega)
abbrev rT (t:TI):Bool:=(d8 t).2.2.1
abbrev iT (t:TI):TD:=(d8 t).2.2.2
def smI (t:TI):Prop:=smT (iF t)/\smT (iT t)
noncomputable def itI (t:TI) (all:Bool):Int:=itE (iF t) (rT t) (iT t) all
noncomputable def endB (t:TI):Bool:=!rT t&&plT (iF t)
noncomputable def errI (K:Int) (e l:Bool) (n i:Nat) (t:TI):Int:=
 if itI t (K==4)≠0 then itI t (K==4) else if (e&&decide (i=0))&&!endB t||((l&&decide (i+1=n))&&!endB t||(e&&(l&&decide (n=1)))) then 10 else 0
noncomputable def xA (K:Int) (e l:Bool) (L:List TI):Int×Int:=match sZ (errI K e l L.length) 0 L with
 | some p=>((p.1:Int),p.2)
 | none=>(0,0)
theorem rc {i:Nat} (h:i<9223372036854775807):w64 ((i:Int)+1)=((i+1:Nat):Int):=by
 show IntKind.wrap .i64 _=_;rw [wrap_i64 _ (by omega) (by omega)];omega
theorem Fg {i:Nat} (a:0<i) (h:i<9223372036854775807):w64 ((i:Int) - 1)=((i - 1:Nat):Int):=by
 show IntKind.wrap .i64 _=_;rw [wrap_i64 _ (by omega) (by omega)];omega
theorem natB (a b:Nat):(((a:Nat):Int)==((b:Nat):Int))=decide (a=b):=by
 by_cases h:a=b
 ·subst h;simp
 ·rw [aq h];simp;omega
theorem LQ (a:Nat):(((a:Nat):Int)==0)=decide (a=0):=natB a 0
theorem UB {x y:TD} (r:Bool) (hx:smT x):nY 20000000 x r y=some (!r&&plT x):=by
 unfold nY;rw [BZ hx];cases r<;>rfl
theorem MO {K:Int} (m:K=3\/K=4) {e l:Bool} {L:List TI} {i:Nat} {t:TI} (hi:L[i]?=some t) (hs:smI t) (o:L.length<=1000000) (D:TD) (KF:Int) (DF:TD) (KT:Int) (DT:TD):
  gF 20000000 (itI t (K==4)) 10 10 10 (iF t) (rT t) (iT t) K D KF DF KT DT e l (i:Int) (w64 (len L - 1)) L=some (errI K e l L.length i t):=by
 have k:i<L.length:=(qH.1 hi).1;have d:w64 (len L - 1)=((L.length - 1:Nat):Int):=Fg (by omega) (by omega);have g:gg 20000000 (iF t) (rT t) (iT t) K=some (itI t (K==4)):=by
  rw [EH _ hs.1 hs.2,ae m];rfl
 unfold gF pZ qm qj qk errI;rw [g,d];simp only [UB (rT t) hs.1,ob,LQ,natB];have j:decide (i=L.length - 1)=decide (i+1=L.length):=by congr 1;exact propext (by omega)
 have n:decide (L.length - 1=0)=decide (L.length=1):=by congr 1;exact propext (by omega)
 rw [j,n];show cond (itI t (K==4) != 0) _ _=_;by_cases f:itI t (K==4)=0
 ·rw [ab (λh=>h f),show (itI t (K==4) != 0)=false from by simp [f],af];show _=some (if ((e&&decide (i=0))&&!endB t||((l&&decide (i+1=L.length))&&!endB t||(e&&(l&&decide (L.length=1)))))=true then 10 else 0);unfold endB;generalize (!rT t&&plT (iF t))=z;generalize decide (i=0)=a;generalize decide (i+1=L.length)=b;generalize decide (L.length=1)=c;cases e<;>cases l<;>cases z<;>cases a<;>cases b<;>cases c<;>rfl
 ·rw [ae f,show (itI t (K==4) != 0)=true from by simp [f],ah]
theorem Qr {K:Int} (g:K=3\/K=4) {e l:Bool} {L:List TI} (hs:∀t∈L,smI t) (j:L.length<=1000000) (D:TD) (KF:Int) (DF:TD) (KT:Int) (DT:TD):
  mb 20000000 K D KF DF KT DT e l L=some (xA K e l L):=by
 have:=zI (step:=fH 20000000) (st:=λi=>(len L,(i:Int),L,K,D,KF,DF,KT,DT,e,l,w64 (len L - 1))) (L:=L) (f:=errI K e l L.length) (yes:=λi q=>.inl ((i:Int),q)) (no:=.inr ())
  (λi t hi=>by
   have d:i<L.length:=(qH.1 hi).1;have a:=hs t (gM hi);have c:gg 20000000 (iF t) (rT t) (iT t) K=some (itI t (K==4)):=by
    rw [EH _ a.1 a.2,ae g];rfl
   unfold fH;simp only [u12,u11,u10,u9,u8,u7,u6,u5,u4,u3,u2];rw [am (show (i:Int)<len L by unfold len;omega),dZ d];simp only [ah,ob,hi];rw [show gg 20000000 (iF t) (d8 t).2.2.1 (d8 t).2.2.2 K=some (itI t (K==4)) from c];simp only;rw [show gF 20000000 (itI t (K==4)) 10 10 10 (iF t) (d8 t).2.2.1 (d8 t).2.2.2 K D KF DF KT DT e l (i:Int) (w64 (len L - 1)) L=some (errI K e l L.length i t) from MO g hi a j D KF DF KT DT];simp only;rw [rc (by omega)];by_cases b:errI K e l L.length i t=0
   ·rw [ab (λh=>h b),show (errI K e l L.length i t != 0)=false from by simp [b]];rfl
   ·rw [ae b,show (errI K e l L.length i t != 0)=true from by simp [b]];rfl)
  (by
   unfold fH;simp only [u12,u11,u10,u9,u8,u7,u6,u5,u4,u3,u2];rw [aq (show ¬((L.length:Nat):Int)<len L by unfold len;omega)];rfl)
  L.length 0 (by omega) 20000000 (by omega)
 unfold mb xA;rw [bV] at this;show obs (ar (fH 20000000) 20000000 (len L,((0:Nat):Int),L,K,D,KF,DF,KT,DT,e,l,w64 (len L - 1))) _ _=_;rw [this];cases sZ (errI K e l L.length) 0 L<;>rfl
noncomputable def sG (K:Int) (x:TD):Int:=chkB K x.1 x.2.1 x.2.2.1 x.2.2.2.1 x.2.2.2.2.1 x.2.2.2.2.2.1 x.2.2.2.2.2.2.1 x.2.2.2.2.2.2.2.1 x.2.2.2.2.2.2.2.2.1 x.2.2.2.2.2.2.2.2.2
noncomputable def ot (K:Int) (x:TD) (a:Int) (y:TD):Int:=EW (sG K x) (sG a y) K a (dyT x).1 (dyT y).2
theorem M9 {x y:TD} (hx:smT x) (hy:smT y) (K a:Int):ap10 (ap10 (iN 20000000 K) x a) y=some (ot K x a y):=
 RQ hx.1 hx.2.1 hx.2.2.1 hx.2.2.2.1 hx.2.2.2.2.1 hx.2.2.2.2.2 hy.1 hy.2.1 hy.2.2.1 hy.2.2.2.1 hy.2.2.2.2.1 hy.2.2.2.2.2
theorem Nk {x y:TD} (hx:smT x) (hy:smT y) (K a:Int):ap10 (ap10 (eT 20000000 K) x a) y=some (ot K x a y):=
 Ou hx.1 hx.2.1 hx.2.2.1 hx.2.2.2.1 hx.2.2.2.2.1 hx.2.2.2.2.2 hy.1 hy.2.1 hy.2.2.1 hy.2.2.2.1 hy.2.2.2.2.1 hy.2.2.2.2.2
def unuB (K:Int) (D:TD) (KF:Int) (DF:TD) (KT:Int) (DT:TD) (e l:Bool) (n:Nat):Bool:=
 !(K==1||eqD D d0)||(!(K==2||((KF==0)&&((eqD DF d0)&&true))&&((KT==0)&&((eqD DT d0)&&true)))||!(K==3||(K==4||(decide (n=0)&&(!e&&!l)))))
theorem MN (n:Nat) (K:Int) (D:TD) (KF:Int) (DF:TD) (KT:Int) (DT:TD) (e l:Bool) (L:List TI):
  mB n K D KF DF KT DT e l L=some (unuB K D KF DF KT DT e l L.length):=by
 unfold mB unuB;rw [show (len L==0)=decide (L.length=0) from LQ _];generalize eqD D d0=a;generalize ((KF==0)&&((eqD DF d0)&&true))=z1;generalize ((KT==0)&&((eqD DT d0)&&true))=z2;generalize decide (L.length=0)=c;generalize (K==1)=k1;generalize (K==2)=k2;generalize (K==3)=b;generalize (K==4)=k4;revert a z1 z2 c k1 k2 b k4 e l;decide +kernel
noncomputable def fR (K:Int) (D:TD) (KF:Int) (DF:TD) (KT:Int) (DT:TD) (e l:Bool) (L:List TI):Int×Int:=
 if K<1\/4<K then (0,18) else if unuB K D KF DF KT DT e l L.length=true then (0,5) else if K=1 then (0,cF D) else if K=2 then (0,ot KF DF KT DT) else if L.length=0 then (0,17) else if 256<L.length then (0,3) else xA K e l L
def smE (D DF DT:TD) (L:List TI):Prop:=smT D/\smT DF/\smT DT/\∀t∈L,smI t
theorem G7 {K:Int} {D:TD} {KF:Int} {DF:TD} {KT:Int} {DT:TD} {e l:Bool} {L:List TI} (h:smE D DF DT L):
  l9 20000000 K D KF DF KT DT e l L=some (fR K D KF DF KT DT e l L):=by
 obtain ⟨i,g,f,j⟩:=h;unfold l9 fR;by_cases a:K<1
 ·rw [am a,ae (.inl a)];rfl
 by_cases c:4<K
 ·rw [aq a,show decide (K>4)=true from am c,ae (.inr c)];rfl
 rw [aq a,show decide (K>4)=false from aq c,ab (by omega),MN];simp only [af,ob];cases unuB K D KF DF KT DT e l L.length
 ·simp only [af,bv,aB];by_cases k1:K=1
  ·rw [ae k1,show (K==1)=true from by simp [k1],fcT i];rfl
  by_cases k2:K=2
  ·rw [ab k1,ae k2,show (K==1)=false from by simp [k1],show (K==2)=true from by simp [k2],M9 g f];rfl
  rw [ab k1,ab k2,show (K==1)=false from by simp [k1],show (K==2)=false from by simp [k2]];simp only [af];rw [show (len L==0)=decide (L.length=0) from LQ _];by_cases b:L.length=0
  ·rw [am b,ae b];rfl
  rw [aq b,ab b];by_cases d:256<L.length
  ·rw [show decide (len L>256)=true from am (by show (256:Int)<((L.length:Nat):Int);omega),ae d];rfl
  rw [show decide (len L>256)=false from aq (by show ¬(256:Int)<((L.length:Nat):Int);omega),ab d,Qr (by omega) j (by omega)];rfl
 ·rfl
theorem RJ (n:Nat) (i:Int) (L:List TI) (K:Int) (D:TD) (KF:Int) (DF:TD) (KT:Int) (DT:TD) (e l:Bool) (x:TD) (r:Bool) (y:TD):
  gS n i L K D KF DF KT DT e l x r y=some (i,e&&(i==0),l&&(i==w64 (len L - 1)),L,K,D,KF,DF,KT,DT,e,l,x,r,y):=by
 unfold gS;cases e<;>cases l<;>rfl
theorem Ti (i:Int) (a b:Bool) (L:List TI) (K:Int) (D:TD) (KF:Int) (DF:TD) (KT:Int) (DT:TD) (e l:Bool) (x:TD) (r:Bool) (y:TD) (hx:smT x):
  gX 20000000 i a b L K D KF DF KT DT e l x r y=some (i,(a&&b)||((a||b)&&(r||!plT x)),L,K,D,KF,DF,KT,DT,e,l):=by
 unfold gX;rw [tH hx];cases a<;>cases b<;>cases r<;>cases plT x<;>rfl
theorem Of {K:Int} (w:K=3\/K=4) {e l:Bool} {L:List TI} (hs:∀t∈L,smI t) (x:L.length<=1000000) (D:TD) (KF:Int) (DF:TD) (KT:Int) (DT:TD):
  ar (eC 20000000) 20000000 (0,L,K,D,KF,DF,KT,DT,e,l)=some (match sZ (errI K e l L.length) 0 L with | some p=>.inl ((p.1:Int),p.2) | none=>.inr ()):=by
 have:=zI (step:=eC 20000000) (st:=λi=>((i:Int),L,K,D,KF,DF,KT,DT,e,l)) (L:=L) (f:=errI K e l L.length) (yes:=λi q=>.inl ((i:Int),q)) (no:=.inr ())
  (λi t hi=>by
   have n:i<L.length:=(qH.1 hi).1;have d:=hs t (gM hi);have m:jl 20000000 (iF t) (d8 t).2.2.1 (d8 t).2.2.2 (K==4)=some (itI t (K==4)):=IW _ _ d.1 d.2;have g:w64 (len L - 1)=((L.length - 1:Nat):Int):=Fg (by omega) (by omega);unfold eC;simp only [u15,u14,u13,u12,u11,u10,u9,u8,u7,u6,u5,u4,u3,u2];rw [am (show (i:Int)<len L by unfold len;omega),dZ n];simp only [ah,ob,hi,m];by_cases k:itI t (K==4)=0
   ·rw [show (itI t (K==4) != 0)=false from by simp [k],af];simp only [RJ,g,LQ,natB,u15,u14,u13,u12,u11,u10,u9,u8,u7,u6,u5,u4,u3,u2];rw [Ti _ _ _ _ _ _ _ _ _ _ _ _ _ _ _ d.1];simp only [u11,u10,u9,u8,u7,u6,u5,u4,u3,u2];have s:decide (i=L.length - 1)=decide (i+1=L.length):=by congr 1;exact propext (by omega)
    have o:(decide (i=0)&&decide (i+1=L.length))=(decide (L.length=1)&&decide (i=0)):=by
     by_cases j:i=0
     ·subst j;rw [am rfl,om,CW];congr 1;exact propext (by omega)
     ·rw [aq j,yo];rfl
    have u:decide (L.length=1)=true->decide (i=0)=true:=λh=>am (by have:=of_decide_eq_true h;omega);have v:errI K e l L.length i t=if ((e&&decide (i=0))&&(l&&decide (i+1=L.length)))||(((e&&decide (i=0))||(l&&decide (i+1=L.length)))&&(rT t||!plT (iF t))) then 10 else 0:=by
     unfold errI endB;rw [k,ab (λh=>h rfl)];congr 1;revert o u;generalize rT t=r;generalize plT (iF t)=z;generalize decide (i=0)=a;generalize decide (i+1=L.length)=b;generalize decide (L.length=1)=c;cases e<;>cases l<;>cases z<;>cases r<;>cases a<;>cases b<;>cases c<;>simp
    rw [s,rc (by omega),v];generalize (((e&&decide (i=0))&&(l&&decide (i+1=L.length)))||(((e&&decide (i=0))||(l&&decide (i+1=L.length)))&&(rT t||!plT (iF t))))=z;cases z<;>rfl
   ·have:errI K e l L.length i t=itI t (K==4):=ae k;rw [show (itI t (K==4) != 0)=true from by simp [k],ah,this,ae k])
  (by
   unfold eC;simp only [u15,u14,u13,u12,u11,u10,u9,u8,u7,u6,u5,u4,u3,u2];rw [aq (show ¬((L.length:Nat):Int)<len L by unfold len;omega)];rfl)
  L.length 0 (by omega) 20000000 (by omega)
 rw [bV] at this;exact this
theorem EV {K:Int} {D:TD} {KF:Int} {DF:TD} {KT:Int} {DT:TD} {e l:Bool} {L:List TI} (h:smE D DF DT L):
  gi 20000000 K D KF DF KT DT e l L=some (fR K D KF DF KT DT e l L):=by
 obtain ⟨m,k,i,o⟩:=h;have j3:iw 20000000 L K D KF DF KT DT e l=some (K==3||K==4,L,K,D,KF,DF,KT,DT,e,l):=by
  unfold iw;cases (K==3)<;>rfl
 have j4:iO 20000000 (K==3||K==4) L K D KF DF KT DT e l=some (K==3||K==4,!(K==1)&&(!(K==2)&&!(K==3||K==4)),L,K,D,KF,DF,KT,DT,e,l):=by
  unfold iO;rw [show (K != 1)=!(K==1) from rfl,show (K != 2)=!(K==2) from rfl];cases (K==1)<;>cases (K==2)<;>rfl
 have j7:iC 20000000 (K==3||K==4) L K D KF DF KT DT e l=some (unuB K D KF DF KT DT e l L.length,L,K,D,KF,DF,KT,DT,e,l):=by
  unfold iC unuB;have a:decide (len L>0)=!decide (L.length=0):=by
   by_cases g:L.length=0
   ·rw [am g,aq (by unfold len;omega)];rfl
   ·rw [aq g,am (by unfold len;omega)];rfl
  rw [show (K != 1)=!(K==1) from rfl,show (K != 2)=!(K==2) from rfl,a];generalize eqD D d0=j;generalize ((KF==0)&&((eqD DF d0)&&true))=z1;generalize ((KT==0)&&((eqD DT d0)&&true))=z2;generalize decide (L.length=0)=p;generalize (K==1)=k1;generalize (K==2)=k2;generalize (K==3)=n;generalize (K==4)=k4;cases j<;>cases z1<;>cases z2<;>cases p<;>cases k1<;>cases k2<;>cases n<;>cases k4<;>cases e<;>cases l<;>rfl
 unfold gi fR;rw [j3];simp only [ob,u11,u10,u9,u8,u7,u6,u5,u4,u3,u2,j4];by_cases d:K<1\/4<K
 ·rw [ae d,show (K==1)=false from by simp;omega,show (K==2)=false from by simp;omega,show (K==3)=false from by simp;omega,show (K==4)=false from by simp;omega];rfl
 have c:(!(K==1)&&(!(K==2)&&!(K==3||K==4)))=false:=by
  rcases (by omega:K=1\/K=2\/K=3\/K=4) with rfl | rfl | rfl | rfl<;>rfl
 rw [ab d,c];simp only [af,j7];cases unuB K D KF DF KT DT e l L.length
 ·simp only [af,bv,aB];by_cases k1:K=1
  ·rw [ae k1,show (K==1)=true from by simp [k1],rcT m];rfl
  by_cases k2:K=2
  ·rw [ab k1,ae k2,show (K==1)=false from by simp [k1],show (K==2)=true from by simp [k2],Nk k i];rfl
  rw [ab k1,ab k2,show (K==1)=false from by simp [k1],show (K==2)=false from by simp [k2]];simp only [af];rw [show (len L==0)=decide (L.length=0) from LQ _];by_cases b:L.length=0
  ·rw [am b,ae b];rfl
  rw [aq b,ab b];by_cases f:256<L.length
  ·rw [show decide (len L>256)=true from am (by show (256:Int)<((L.length:Nat):Int);omega),ae f];rfl
  rw [show decide (len L>256)=false from aq (by show ¬(256:Int)<((L.length:Nat):Int);omega),ab f,af,af,Of (by omega) o (by omega)];unfold xA;cases sZ (errI K e l L.length) 0 L<;>rfl
 ·rfl
theorem BM {K:Int} {D:TD} {KF:Int} {DF:TD} {KT:Int} {DT:TD} {e l:Bool} {L:List TI} (h:smE D DF DT L):
  iz 20000000 K D KF DF KT DT e l L=some (fR K D KF DF KT DT e l L).2:=by
 unfold iz;rw [G7 h];rfl
structure RightE (k:Int) (D:TD) (KF:Int) (DF:TD) (KT:Int) (DT:TD) (e l:Bool) (I:List TI):Prop where
 sm:smE D DF DT I
 first:fR k D KF DF KT DT e l I=(0,0)
 len:I.length<=5
 kind:1<=k/\k<=4
 its:∀t∈I,itI t (k==4)=0
theorem CG {x:TD} (hs:smT x) (hc:cF x=0):RightE 1 x 0 d0 0 d0 false false []:=by
 refine ⟨⟨hs,nR,nR,λt b=>by cases b⟩,?_,by simp,by omega,by simp⟩;have a:eqD d0 d0=true:=oV.2 rfl;have c:unuB 1 x 0 d0 0 d0 false false ([]:List TI).length=false:=by unfold unuB;rw [a];rfl
 unfold fR;rw [ab (by omega),ab (by rw [c];simp),ae rfl,hc]
theorem yU {KF KT:Int} {x y:TD} (hx:smT x) (hy:smT y) (h:ot KF x KT y=0):RightE 2 d0 KF x KT y false false []:=by
 refine ⟨⟨nR,hx,hy,λt b=>by cases b⟩,?_,by simp,by omega,by simp⟩;have a:eqD d0 d0=true:=oV.2 rfl;have c:unuB 2 d0 KF x KT y false false ([]:List TI).length=false:=by unfold unuB;rw [a];rfl
 unfold fR;rw [ab (by omega),ab (by rw [c];simp),ab (by omega),ae rfl,h]
theorem Gn (x:TD):sG 1 x=if cF x=0 then if exT x=true then 0 else 11 else cF x:=by
 unfold sG chkB;rw [ae rfl];rfl
theorem Gj {x:TD} (h:sG 1 x=0):cF x=0/\exT x=true:=by
 rw [Gn] at h;by_cases hc:cF x=0
 ·rw [ae hc] at h;by_cases a:exT x=true
  ·exact ⟨hc,a⟩
  ·rw [ab a] at h;cases h
 ·rw [ab hc] at h;exact absurd h hc
theorem AH {x:TD} (hc:cF x=0) (a:exT x=true):sG 1 x=0:=by
 rw [Gn,ae hc,ae a]
theorem KZ {KF KT:Int} {x y:TD} (b:sG KF x=0) (a:sG KT y=0):ot KF x KT y=if KF≠1/\KT≠1 then 11 else if KF≠1\/KT≠1 then 0 else if (dyT x).1>(dyT y).2 then 11 else 0:=by
 unfold ot EW;rw [b,a,ab (λh=>h rfl),ab (λh=>h rfl)]
noncomputable instance decTI:DecidableEq TI:=λa b=>Classical.propDecidable (a=b)
theorem Jb {A B X Y:Type} {step:X->Option (X⊕Y)} {st:Nat->List B->X} {fin:List B->Y} {L:List A} {f:A->List B} {c:Nat} (h:∀t,(f t).length<=2)
  (d:∀i t acc,L[i]?=some t->acc.length<=c+2*i->step (st i acc)=some (.inl (st (i+1) (acc++f t)))) (e:∀acc,step (st L.length acc)=some (.inr (fin acc))):
  ∀(r i:Nat) (acc:List B),i+r=L.length->acc.length<=c+2*i->∀N,r<N->ar step N (st i acc)=some (fin (acc++(L.drop i).flatMap f)):=by
 intro r
 induction r with
 | zero=>
  intro i acc hi b N g;obtain ⟨N,rfl⟩:∃k,N=k+1:=⟨N - 1,by omega⟩;rw [ar,show i=L.length by omega,e,sT];simp
 | succ r ih=>
  intro i acc hi b N g;obtain ⟨N,rfl⟩:∃k,N=k+1:=⟨N - 1,by omega⟩;have a:i<L.length:=by omega
  rw [ar,d i _ acc (bf a) b,qE a,oC,<-fN];refine ih (i+1) _ (by omega) ?_ N (by omega);have:=h L[i];rw [bg];omega
def datI (t:TI):List TD:=if rT t=true then [iF t,iT t] else [iF t]
theorem G4 (t:TI):(datI t).length<=2:=by unfold datI;split<;>simp
def datE (k:Int) (D:TD) (KF:Int) (DF:TD) (KT:Int) (DT:TD) (I:List TI):List TD:=
 if k=1 then [D] else if k=2 then (if KF=1 then (if KT=1 then [DF,DT] else [DF]) else if KT=1 then [DT] else []) else if k=3\/k=4 then I.flatMap datI else []
theorem Uy {B:Type} {acc:List B} (h:acc.length<=3000000):Nat.ble (acc.length+1) dE=true:=cT (by unfold dE;omega)
theorem y7 {I:List TI} (h:I.length<=1000000) {k:Int} (D:TD) (KF:Int) (DF:TD) (KT:Int) (DT:TD) (e l:Bool) (g:k=3\/k=4):
  ar (ax 20000000) 20000000 (0,I,k,D,KF,DF,KT,DT,e,l,([]:List TD))=some (I.flatMap datI):=by
 have:=Jb (step:=ax 20000000) (st:=λi acc=>((i:Int),I,k,D,KF,DF,KT,DT,e,l,acc)) (fin:=λacc=>acc) (L:=I) (f:=datI) (c:=0) G4 ?_ ?_ I.length 0 [] (by omega) (by simp) 20000000 (by omega)
 ·rw [bV,dX] at this;exact this
 ·intro i t acc d j;have hi:i<I.length:=(qH.1 d).1;unfold ax;simp only [u11,u10,u9,u8,u7,u6,u5,u4,u3,u2];rw [am (show (i:Int)<len I by show (i:Int)<((I.length:Nat):Int);omega),dZ hi];simp only [ah,ob,d,Uy (acc:=acc) (by omega),Uy (acc:=acc++[iF t]) (by simp;omega)];rw [rc (by omega)];have a:(cond (rT t) (some (.inl (((i+1:Nat):Int),I,k,D,KF,DF,KT,DT,e,l,(acc++[iF t])++[iT t]))) (some (.inl (((i+1:Nat):Int),I,k,D,KF,DF,KT,DT,e,l,acc++[iF t]))):Option ((Int×List TI×Int×TD×Int×TD×Int×TD×Bool×Bool×List TD)⊕(List TD)))=some (.inl (((i+1:Nat):Int),I,k,D,KF,DF,KT,DT,e,l,acc++datI t)):=by
   unfold datI;cases rT t
   ·rfl
   ·rw [ah,fN];rfl
  by_cases b:k=3
  ·rw [show (k==3)=true from by simp [b]];exact a
  ·rw [show (k==3)=false from by simp [b],show (k==4)=true from by simp;omega];exact a
 ·intro acc;unfold ax;simp only [u11,u10,u9,u8,u7,u6,u5,u4,u3,u2];rw [aq (show ¬((I.length:Nat):Int)<len I by show ¬((I.length:Nat):Int)<((I.length:Nat):Int);omega)];rfl
theorem oW {I:List TI} {k:Int} (D:TD) (KF:Int) (DF:TD) (KT:Int) (DT:TD) (e l:Bool) (a:k≠3) (b:k≠4) (acc:List TD):
  ar (ax 20000000) 20000000 (0,I,k,D,KF,DF,KT,DT,e,l,acc)=some acc:=by
 have:ax 20000000 (0,I,k,D,KF,DF,KT,DT,e,l,acc)=some (.inr acc):=by
  unfold ax;simp only [u11,u10,u9,u8,u7,u6,u5,u4,u3,u2];rw [show (k==3)=false from by simp [a],show (k==4)=false from by simp [b]];cases decide ((0:Int)<len I)<;>rfl
 rw [show 20000000=19999999+1 from rfl,ar,this]
theorem FW {I:List TI} (d:I.length<=1000000) (k:Int) (D:TD) (KF:Int) (DF:TD) (KT:Int) (DT:TD) (e l:Bool):fa 20000000 k D KF DF KT DT e l I=some (datE k D KF DF KT DT I):=by
 unfold fa datE;by_cases k1:k=1
 ·rw [ae k1,show (k==1)=true from by simp [k1],show (k==2)=false from by simp [k1]];simp only [ah,af,ob,oW D KF DF KT DT e l (by omega:k≠3) (by omega:k≠4)]
 by_cases k2:k=2
 ·rw [ab k1,ae k2,show (k==1)=false from by simp [k1],show (k==2)=true from by simp [k2]];simp only [ah,af,ob,oW D KF DF KT DT e l (by omega:k≠3) (by omega:k≠4)];by_cases c:KF=1
  ·rw [ae c,show (KF==1)=true from by simp [c]];by_cases a:KT=1
   ·rw [ae a,show (KT==1)=true from by simp [a]];rfl
   ·rw [ab a,show (KT==1)=false from by simp [a]];rfl
  ·rw [ab c,show (KF==1)=false from by simp [c]];by_cases a:KT=1
   ·rw [ae a,show (KT==1)=true from by simp [a]];rfl
   ·rw [ab a,show (KT==1)=false from by simp [a]];rfl
 rw [ab k1,ab k2,show (k==1)=false from by simp [k1],show (k==2)=false from by simp [k2]];simp only [af];by_cases b:k=3\/k=4
 ·rw [ae b,y7 d D KF DF KT DT e l b];rfl
 ·rw [ab b,oW D KF DF KT DT e l (by omega) (by omega)];rfl
theorem B7 (n:Nat) (t S R:aa) (a:Int) (q:t.length<4611686018427387904) (p:t.length<n):
  ar (ei n) n (t,0,R,S,a)=some (((lcp R t:Nat):Int),S,a):=by
 have:=fO (step:=ei n)
  (λx=>∃j:Nat,j<=t.length/\x=(t,(j:Int),R,S,a)) (λx=>t.length - x.2.1.toNat)
  (λx=>(((x.2.1.toNat+lcp (R.drop x.2.1.toNat) (t.drop x.2.1.toNat):Nat):Int),S,a)) ?_ n (t,0,R,S,a) ⟨0,by omega,rfl⟩ (by simp;omega)
 ·simpa using this
 rintro x ⟨j,o,rfl⟩;simp only [cg,ei,Tu];by_cases g:j<t.length/\j<R.length
 ·obtain ⟨h,l⟩:=g;obtain ⟨c,hc⟩:∃c,t[j]?=some c:=⟨t[j],bf h⟩;obtain ⟨d,i⟩:∃d,R[j]?=some d:=⟨R[j],bf l⟩;have e:IntKind.wrap .i64 ((j:Int)+1)=((j+1:Nat):Int):=by rw [wrap_i64 _ (by omega) (by omega)];omega
  have f:(decide ((j:Int)<((min t.length R.length:Nat):Int)))=true:=by simp only [cn];omega
  have b:(decide ((j:Int)<((min R.length t.length:Nat):Int)))=true:=by simp only [cn];omega
  simp only [f,b,ah,dI hc,dI i,ob,nP,bX hc,bX i,lcp];cases k:d==c with
  | true=>
   refine .inl ⟨_,rfl,⟨j+1,by omega,by rw [e]⟩,?_,?_⟩
   ·simp only [e,cg];omega
   ·simp only [e,cg,ba,yL,aL];omega
  | false=>exact .inr (by simp)
 ·have f:(decide ((j:Int)<((min t.length R.length:Nat):Int)))=false:=by simp only [uT];omega
  have b:(decide ((j:Int)<((min R.length t.length:Nat):Int)))=false:=by simp only [uT];omega
  refine .inr ?_;have m:lcp (R.drop j) (t.drop j)=0:=by
   by_cases h:j<t.length
   ·rw [js (show R.length<=j by omega)];rfl
   ·rw [js (show t.length<=j by omega)];cases R.drop j<;>rfl
  simp only [f,b,m,af,cP]
theorem AO (n:Nat) (t S:aa) (a:Nat) (h:a<=S.length) (b:S.length<4611686018427387904) (f:t.length<4611686018427387904) (e:t.length<n):
  bZ n t S (a:Int)=some (if (S.drop a).take t.length=t then .inl (S,((a+t.length:Nat):Int)) else .inr (((a+lcp (S.drop a) t:Nat):Int),5,S,(a:Int))):=by
 have c:=wZ (S.drop a) t;rw [bN] at c;simp only [bZ,nF n t S a h b,ob];by_cases hp:(S.drop a).take t.length=t
 ·simp [hp]
 ·have d:IntKind.wrap .i64 ((a:Int)+((lcp (S.drop a) t:Nat):Int))=((a+lcp (S.drop a) t:Nat):Int):=by rw [wrap_i64 _ (by omega) (by omega)];omega
  simp only [hp,aB,af,tW n S a h,B7 n t S (S.drop a) (a:Int) f e,Ea,d,wa];simp
def tdR (r:DR):TD:=(r.1,r.2.1,r.2.2.1,(r.2.2.2.1:Int),(r.2.2.2.2.1:Int),r.2.2.2.2.2.1,r.2.2.2.2.2.2.1,(r.2.2.2.2.2.2.2.1.1:Int),(r.2.2.2.2.2.2.2.1.2.1:Int),(r.2.2.2.2.2.2.2.1.2.2:Int))
theorem ip {S:aa} {a:Nat} (h:a<=S.length) {r:DR} (c:cv S a=.inr r):smT (tdR r)/\cF (tdR r)=0/\a<=enR r/\enR r<=S.length:=by
 obtain ⟨f,b⟩:=GH h c;obtain ⟨g,l,dg,x,s,m,d,M,P,e⟩:=r;have ok:=AD h f;have:=ok.dg17;have:=ok.m2;have:=ok.d2;refine ⟨⟨by show m.length<=18;omega,by show dg.length<=100;omega,by show d.length<=18;omega,by show (0:Int)<=(M.1:Int);omega,by show (0:Int)<=(M.2.1:Int);omega,by show (0:Int)<=(M.2.2:Int);omega⟩,?_,ok.le,ok.end_⟩;have hc:=vo (g:=g) (l:=l) (dg:=dg) (x:=(x:Int)) (q:=(s:Int)) (m:=m) (d:=d) (k0:=(M.1:Int)) (k1:=(M.2.1:Int)) (k2:=(M.2.2:Int)) (xj ok.all);unfold chkR at b;simp only [] at b;show chkF g l dg (x:Int) (s:Int) m d (M.1:Int) (M.2.1:Int) (M.2.2:Int)=0;omega
def dts (l:aa):Bool:=l.take 2==[46,46]
theorem uM {l:aa}:dts l=true↔∃r,l=46::46::r:=by
 unfold dts;rw [bI];constructor
 ·exact Jk
 ·rintro ⟨r,rfl⟩;rfl
theorem lw {S:aa} {p:Nat} (h:dts (S.drop p)=true):p+2<=S.length:=by
 obtain ⟨r,a⟩:=uM.1 h;have:=cj List.length a;simp at this;omega
noncomputable def lL (S:aa) (b:UInt8) (p:Nat):(Nat×Nat×Nat)⊕(TI×Nat×Nat):=
 match cv S p with
 | .inl f=>.inl f
 | .inr r=>if dts (S.drop (enR r))=true/\(S.drop (enR r+2)).head?≠some b then
   match cv S (enR r+2) with
   | .inl f=>.inl f
   | .inr a=>.inr (mkI (tdR r) true (tdR a),plR r,enR a)
  else .inr (mkI (tdR r) false d0,plR r,enR r)
theorem uo {S:aa} {n:UInt8} {p:Nat} (h:p<=S.length) {t:TI} {a c:Nat} (b:lL S n p=.inr (t,a,c)):smI t/\p<=c/\c<=S.length:=by
 unfold lL at b;cases d:cv S p with
 | inl f=>rw [d] at b;cases b
 | inr r=>
  obtain ⟨g,_,k,i⟩:=ip h d;rw [d] at b;simp only [] at b;split at b
  ·rename_i m;have:=lw m.1;cases e:cv S (enR r+2) with
   | inl f=>rw [e] at b;cases b
   | inr o=>
    obtain ⟨l,_,l3,j⟩:=ip (by omega) e;rw [e] at b;cases b;exact ⟨⟨g,l⟩,by omega,j⟩
  ·cases b;exact ⟨⟨g,nR⟩,k,i⟩
noncomputable def kI (S:aa) (c:UInt8):Nat->Nat->List Nat->List TI->(Nat×Nat×Nat)⊕(Nat×List Nat×List TI)
 | 0,p,_,_=>.inl (p,3,p)
 | r+1,p,P,I=>match lL S c p with
  | .inl f=>.inl f
  | .inr (t,a,b)=>if (S.drop b).head?=some 44 then kI S c r (b+1) (P++[a]) (I++[t]) else .inr (b,P++[a],I++[t])
theorem dW {S:aa} {p:Nat} {c:UInt8} (h:(S.drop p).head?=some c):p+1<=S.length:=by
 cases b:S.drop p with
 | nil=>rw [b] at h;cases h
 | cons a r=>
  have:=cj List.length b;simp at this;omega
theorem uG {S:aa} {j:UInt8}:∀(r p:Nat) (P:List Nat) (I:List TI),p<=S.length->P.length=I.length->(∀t∈I,smI t)->∀{c:Nat} {d:List Nat} {b:List TI},kI S j r p P I=.inr (c,d,b)->
  c<=S.length/\d.length=b.length/\I.length<b.length/\b.length<=I.length+r/\(∀t∈b,smI t)
 | 0,p,P,I,_,_,_,c,d,b,e=>by cases e
 | r+1,p,P,I,h,i,hs,c,d,b,e=>by
  rw [kI] at e;cases g:lL S j p with
  | inl f=>rw [g] at e;cases e
  | inr q=>
   obtain ⟨t,a,y⟩:=q;obtain ⟨o,z,k⟩:=uo h g;rw [g] at e;simp only [] at e;have hs':∀u∈I++[t],smI u:=λu s=>by
    rcases nO.1 s with h | h
    ·exact hs u h
    ·rw [n9.1 h];exact o
   split at e
   ·rename_i w;obtain ⟨x,m,v,l,n⟩:=uG r (y+1) (P++[a]) (I++[t]) (dW w) (by simp [i]) hs' e;rw [bg,Bi] at v l;exact ⟨x,m,by omega,by omega,n⟩
   ·cases e;exact ⟨k,by simp [i],by simp,by simp,hs'⟩
theorem dts3 (S:aa) (p:Nat) (c:UInt8):((S.drop p).take [46,46,c].length==[46,46,c])=(dts (S.drop p)&&decide ((S.drop (p+2)).head?=some c)):=by
 rw [<-jw];generalize S.drop p=l;unfold dts
 match l with
 | []=>rfl
 | [a]=>simp
 | [a,b]=>simp
 | a::b::d::r=>
  rw [us];simp [and_assoc]
def endC (K:Int):UInt8:=if K=4 then 125 else 93
theorem yK {K:Int} (a:K=3\/K=4) (n:Nat):gI n K=some ([if K=4 then 123 else 91],[endC K]):=by
 rcases a with rfl | rfl<;>rfl
theorem UX (c:UInt8) {S:aa} {p:Nat} (h:p<=S.length) (d i:Int) (e:Bool) (f:List Int) (b:TD) (a g:List TI):
  mh 20000000 [c] d S (p:Int) i e f b a g=some ([c],d,dts (S.drop p)&&!decide ((S.drop (p+2)).head?=some c),S,(p:Int),i,e,f,b,a,g):=by
 unfold mh;rw [NT _ _ _ _ h];have hc:cat [46,46] [c]=some [46,46,c]:=rfl;simp only [ob,hc,NT _ _ _ _ h,dts3];show cond (dts (S.drop p)) _ _=_;cases j:dts (S.drop p)
 ·rfl
 ·cases decide ((S.drop (p+2)).head?=some c)<;>rfl
theorem tk1 (l:aa) (c:UInt8):l.take [c].length=[c]↔l.head?=some c:=by
 cases l<;>simp
theorem C7 (S:aa) (r:DR):VA S (.inr r)=.inr ((tdR r).1,(tdR r).2.1,(tdR r).2.2.1,(tdR r).2.2.2.1,(tdR r).2.2.2.2.1,(tdR r).2.2.2.2.2.1,(tdR r).2.2.2.2.2.2.1,(tdR r).2.2.2.2.2.2.2.1,(tdR r).2.2.2.2.2.2.2.2.1,(tdR r).2.2.2.2.2.2.2.2.2,((plR r:Nat):Int),S,((enR r:Nat):Int)):=rfl
theorem Vw (b:Bool) (c:UInt8) {S:aa} {p:Nat} (h:p<=S.length) (m:S.length<100000) (n:b=true->dts (S.drop p)=true) (g i:Int) (j:Bool) (e:List Int) (d:TD) (k a:List TI):
  mf 20000000 [c] g b S (p:Int) i j e d k a=some (if b=true then (match cv S (p+2) with
   | .inl f=>.inl ((f.1:Int),(f.2.1:Int),S,(f.2.2:Int))
   | .inr r=>.inr ([c],g,S,((enR r:Nat):Int),i,j,e,d,true,tdR r,k,a)) else .inr ([c],g,S,(p:Int),i,j,e,d,false,d0,k,a)):=by
 unfold mf;cases b
 ·rfl
 ·have l:=n rfl;have q:=lw l;have s:(S.drop p).take [(46:UInt8),46].length=[46,46]:=by
   obtain ⟨r,o⟩:=uM.1 l;rw [o];rfl
  rw [ah,AO _ _ _ _ h (by omega) (by simp) (by simp),ae s,ae rfl];show obs (iL 20000000 S ((p+2:Nat):Int)) _ _=_;rw [Gm S (p+2) q m];cases cv S (p+2) with
  | inl f=>rfl
  | inr r=>rfl
theorem qT {α:Type} {I:List α} (h:I.length<=256):Nat.ble (I.length+1) dE=true:=cT (by unfold dE;omega)
abbrev ic (P:List Nat):List Int:=P.map λk:Nat=>(k:Int)
theorem SA (c:UInt8) {S:aa} {p:Nat} (h:p<=S.length) (q:S.length<100000) (K:Int) (e:Bool) {P:List Nat} (J:List TI) {I:List TI} (D:I.length<256) (B:P.length=I.length):
  fA 20000000 ([c],S,(p:Int),K,e,ic P,J,I)=some (match lL S c p with
   | .inl f=>.inr (.inl ((f.1:Int),(f.2.1:Int),S,(f.2.2:Int)))
   | .inr (t,a,b)=>if (S.drop b).head?=some 44 then .inl ([c],S,((b+1:Nat):Int),K,e,ic (P++[a]),J,I++[t])
    else .inr (.inr ([c],S,((if dts (S.drop b) then b+2 else b:Nat):Int),0,d0,0,d0,0,d0,false,false,K,d0,0,d0,0,d0,e,dts (S.drop b),ic (P++[a]),J,I++[t]))):=by
 have fin:∀(t:TI) (a b:Nat),b<=S.length->(ob (aC 20000000 [44] S (b:Int)) (u3 λm i j=>(cond m (some (.inl ([c],i,j,K,e,(ic P++([(a:Int)]:List (Int))),J,(I++([t]:List TI))))) (ob (aC 20000000 [46,46] i j) (u3 λn l g=>(cond n (some (.inr (.inr ([c],l,g,0,d0,0,d0,0,d0,false,false,K,d0,0,d0,0,d0,e,true,(ic P++([(a:Int)]:List (Int))),J,(I++([t]:List TI)))))) (some (.inr (.inr ([c],l,g,0,d0,0,d0,0,d0,false,false,K,d0,0,d0,0,d0,e,false,(ic P++([(a:Int)]:List (Int))),J,(I++([t]:List TI))))))))))):Option ((aa×aa×Int×Int×Bool×List (Int)×List TI×List TI)⊕((Int×Int×aa×Int)⊕(aa×aa×Int×Int×TD×Int×TD×Int×TD×Bool×Bool×Int×TD×Int×TD×Int×TD×Bool×Bool×List (Int)×List TI×List TI)))) =
   some (if (S.drop b).head?=some 44 then .inl ([c],S,((b+1:Nat):Int),K,e,ic (P++[a]),J,I++[t])
    else .inr (.inr ([c],S,((if dts (S.drop b) then b+2 else b:Nat):Int),0,d0,0,d0,0,d0,false,false,K,d0,0,d0,0,d0,e,dts (S.drop b),ic (P++[a]),J,I++[t]))):=by
  intro t a b k;have y:ic (P++[a])=ic P++[(a:Int)]:=by simp [ic]
  rw [nF _ _ _ _ k (by omega),y];simp only [ob,u3,u2,tk1];by_cases hc:(S.drop b).head?=some 44
  ·rw [ae hc,ae hc];rfl
  ·rw [ab hc,ab hc];simp only [af];rw [nF _ _ _ _ k (by omega)];cases d:dts (S.drop b)
   ·rw [ab (show ¬(S.drop b).take [(46:UInt8),46].length=[46,46] from λh=>by unfold dts at d;rw [show (S.drop b).take 2=[46,46] from h] at d;cases d)];rfl
   ·rw [ae (show (S.drop b).take [(46:UInt8),46].length=[46,46] from eq_of_beq d)];rfl
 unfold fA;simp only [u8,u7,u6,u5,u4,u3,u2];rw [show (len I==256)=false from by show (((I.length:Nat):Int)==256)=false;simp;omega,af,Gm S p h q];unfold lL;cases w:cv S p with
 | inl f=>rfl
 | inr r=>
  obtain ⟨z,_,A,o⟩:=ip h w;rw [C7];simp only [obs,sm,ob];rw [show (d4 (d8 ((tdR r).1,(tdR r).2.1,(tdR r).2.2.1,(tdR r).2.2.2.1,(tdR r).2.2.2.2.1,(tdR r).2.2.2.2.2.1,(tdR r).2.2.2.2.2.2.1,(tdR r).2.2.2.2.2.2.2.1,(tdR r).2.2.2.2.2.2.2.2.1,(tdR r).2.2.2.2.2.2.2.2.2,((plR r:Nat):Int),S,((enR r:Nat):Int))))=((enR r:Nat):Int) from rfl,UX c o];simp only [u11,u10,u9,u8,u7,u6,u5,u4,u3,u2];rw [Vw _ c o q (λh=>by simp at h;exact h.1)];have s:(dts (S.drop (enR r))&&!decide ((S.drop (enR r+2)).head?=some c))=true↔(dts (S.drop (enR r))=true/\(S.drop (enR r+2)).head?≠some c):=by simp
  by_cases d:dts (S.drop (enR r))=true/\(S.drop (enR r+2)).head?≠some c
  ·rw [ae (s.2 d),ae d];cases x:cv S (enR r+2) with
   | inl f=>rfl
   | inr u=>
    obtain ⟨C,_,l3,v⟩:=ip (lw d.1) x;simp only [u12,u11,u10,u9,u8,u7,u6,u5,u4,u3,u2];rw [qT (by omega),qT (by simp;omega)];exact fin (mkI (tdR r) true (tdR u)) (plR r) (enR u) v
  ·rw [ab (λh=>d (s.1 h)),ab d];simp only [u12,u11,u10,u9,u8,u7,u6,u5,u4,u3,u2];rw [qT (by omega),qT (by simp;omega)];exact fin (mkI (tdR r) false d0) (plR r) (enR r) o
theorem Sj (c:UInt8) (S:aa) (p K:Int) (e:Bool) (P:List Int) (J:List TI) {I:List TI} (a:I.length=256):
  fA 20000000 ([c],S,p,K,e,P,J,I)=some (.inr (.inl (p,3,S,p))):=by
 unfold fA;simp only [u8,u7,u6,u5,u4,u3,u2];rw [show (len I==256)=true from by show (((I.length:Nat):Int)==256)=true;rw [a];rfl];rfl
def Yb (S:aa) (c:UInt8) (K:Int) (e:Bool) (J:List TI):(Nat×Nat×Nat)⊕(Nat×List Nat×List TI)->(Int×Int×aa×Int)⊕(aa×aa×Int×Int×TD×Int×TD×Int×TD×Bool×Bool×Int×TD×Int×TD×Int×TD×Bool×Bool×List (Int)×List TI×List TI)
 | .inl f=>.inl ((f.1:Int),(f.2.1:Int),S,(f.2.2:Int))
 | .inr (p,P,I)=>.inr ([c],S,((if dts (S.drop p) then p+2 else p:Nat):Int),0,d0,0,d0,0,d0,false,false,K,d0,0,d0,0,d0,e,dts (S.drop p),ic P,J,I)
theorem RA (c:UInt8) {S:aa} (h:S.length<100000) (K:Int) (e:Bool) (J:List TI):∀(r p:Nat) (P:List Nat) (I:List TI),I.length+r=256->p<=S.length->P.length=I.length->∀N,r<N->
  ar (fA 20000000) N ([c],S,(p:Int),K,e,ic P,J,I)=some (Yb S c K e J (kI S c r p P I)):=by
 intro r
 induction r with
 | zero=>
  intro p P I j hp b N i;obtain ⟨N,rfl⟩:∃k,N=k+1:=⟨N - 1,by omega⟩;rw [ar,Sj c S _ K e _ J (by omega)];rfl
 | succ r ih=>
  intro p P I j hp b N i;obtain ⟨N,rfl⟩:∃k,N=k+1:=⟨N - 1,by omega⟩;rw [ar,SA c hp h K e J (by omega) b,kI];cases g:lL S c p with
  | inl f=>rfl
  | inr q=>
   obtain ⟨t,a,d⟩:=q;obtain ⟨_,m,l⟩:=uo hp g;simp only [];by_cases hc:(S.drop d).head?=some 44
   ·rw [ae hc,ae hc];exact ih (d+1) (P++[a]) (I++[t]) (by simp;omega) (dW hc) (by simp [b]) N (by omega)
   ·rw [ab hc,ab hc];rfl
theorem DG {X a Y b:Type} {s:X->Option (X⊕Y)} {s':a->Option (a⊕b)} (f:X->a) (g:Y->b) (h:∀x,s' (f x)=(s x).map (Sum.map f g)):∀(n:Nat) (x:X),ar s' n (f x)=(ar s n x).map g
 | 0,_=>rfl
 | n+1,x=>by
  rw [ar,ar,h];cases s x with
  | none=>rfl
  | some z=>
   cases z with
   | inl y=>exact DG f g h n y
   | inr y=>rfl
theorem Ss (n:Nat) (K:Int) (D:TD) (KF:Int) (DF:TD) (KT:Int) (DT:TD) (c:Nat) (e l:Bool) (L:List TI):nB n K D KF DF KT DT L.length c e l L=mb n K D KF DF KT DT e l L:=by
 unfold nB mb;have:=DG (s:=fH n) (s':=ko n) (u12 λq f d g p k m j h o b a=>(d.length,c,q,f,d,g,p,k,m,j,h,d.length,c,o,b,a)) id (by
  rintro ⟨q,f,d,g,p,k,m,j,h,o,b,a⟩;unfold fH ko;simp only [u16,u15,u14,u13,u12,u11,u10,u9,u8,u7,u6,u5,u4,u3,u2];cases decide (f<q)
  ·rfl
  ·simp only [ah];cases ix d.length f with
   | none=>rfl
   | some i=>
    simp only [ob];cases d[i]? with
    | none=>rfl
    | some t=>
     simp only [ob];cases gg n (iF t) (d8 t).2.2.1 (d8 t).2.2.2 g with
     | none=>rfl
     | some v=>
      simp only [ob];rw [show mW n v 10 10 10 (iF t) (d8 t).2.2.1 (d8 t).2.2.2 g p k m j h d.length c o b f a d=gF n v 10 10 10 (iF t) (d8 t).2.2.1 (d8 t).2.2.2 g p k m j h o b f a d from rfl];cases gF n v 10 10 10 (iF t) (d8 t).2.2.1 (d8 t).2.2.2 g p k m j h o b f a d with
      | none=>rfl
      | some z=>
       simp only [ob];cases (z != 0)<;>rfl) n (len L,0,L,K,D,KF,DF,KT,DT,e,l,w64 (len L - 1))
 simp only [u12,u11,u10,u9,u8,u7,u6,u5,u4,u3,u2] at this;rw [show (L.length,c,((L.length:Nat):Int),(0:Int),L,K,D,KF,DF,KT,DT,L.length,c,e,l,w64 (((L.length:Nat):Int) - 1))=(L.length,c,len L,0,L,K,D,KF,DF,KT,DT,L.length,c,e,l,w64 (len L - 1)) from rfl,this];rw [Option.map_id];rfl
theorem SX (n:Nat) (K:Int) (D:TD) (KF:Int) (DF:TD) (KT:Int) (DT:TD) (c:Nat) (e l:Bool) (L:List TI):iQ n K D KF DF KT DT L.length c e l L=l9 n K D KF DF KT DT e l L:=by
 unfold iQ l9;rw [Ss,show oO n K D KF DF KT DT L.length c e l L=mB n K D KF DF KT DT e l L from rfl]
theorem Jc {K:Int} {D:TD} {KF:Int} {DF:TD} {KT:Int} {DT:TD} {e l:Bool} {L:List TI} (h:smE D DF DT L) (c:Nat):
  iQ 20000000 K D KF DF KT DT L.length c e l L=some (fR K D KF DF KT DT e l L):=(SX _ _ _ _ _ _ _ _ _ _ _).trans (G7 h)
noncomputable def setE (K:Int) (e l:Bool) (I:List TI):Int×Int:=fR K d0 0 d0 0 d0 e l I
noncomputable def endL (S:aa) (K:Int) (e:Bool) (p:Nat) (P:List Nat) (I:List TI):(Nat×Nat×Nat)⊕(Int×Bool×Bool×List TI×Nat):=
 if (S.drop (if dts (S.drop p) then p+2 else p)).head?=some (endC K) then
  if (setE K e (dts (S.drop p)) I).2=0 then .inr (K,e,dts (S.drop p),I,(if dts (S.drop p) then p+2 else p)+1)
  else .inl (P.getD (setE K e (dts (S.drop p)) I).1.toNat 0,10,(if dts (S.drop p) then p+2 else p)+1)
 else .inl ((if dts (S.drop p) then p+2 else p),5,(if dts (S.drop p) then p+2 else p))
noncomputable def tP (S:aa) (a:Nat) (K:Int):(Nat×Nat×Nat)⊕(Int×Bool×Bool×List TI×Nat):=
 match kI S (endC K) 256 (if dts (S.drop (a+1)) then a+3 else a+1) [] [] with
 | .inl f=>.inl f
 | .inr (p,P,I)=>endL S K (dts (S.drop (a+1))) p P I
noncomputable def pp (S:aa) (a:Nat):(Nat×Nat×Nat)⊕(Int×Bool×Bool×List TI×Nat):=
 if (S.drop a).head?=some 91 then tP S a 3 else if (S.drop a).head?=some 123 then tP S a 4 else .inl (a,5,a)
theorem K8 {K:Int} (a:K=3\/K=4) {e l:Bool} {I:List TI} (b:1<=I.length):∃i:Nat,(setE K e l I).1=(i:Int)/\i<I.length:=by
 have hi:∃i:Nat,(xA K e l I).1=(i:Int)/\i<I.length:=by
  unfold xA;have:∀(J:List TI) (k:Nat) (p:Nat×Int),sZ (errI K e l I.length) k J=some p->p.1<k+J.length:=by
   intro J
   induction J with
   | nil=>intro k p h;cases h
   | cons t r ih=>
    intro k p h;rw [sZ] at h;split at h
    ·cases h;simp
    ·have:=ih (k+1) p h;simp;omega
  cases hs:sZ (errI K e l I.length) 0 I with
  | none=>exact ⟨0,rfl,by omega⟩
  | some p=>exact ⟨p.1,rfl,by have:=this I 0 p hs;omega⟩
 unfold setE fR;rw [ab (by omega)];split
 ·exact ⟨0,rfl,by omega⟩
 ·rw [ab (by omega),ab (by omega),ab (by omega)];split
  ·exact ⟨0,rfl,by omega⟩
  ·exact hi
theorem KO {I:List TI} (h:∀t∈I,smI t):smE d0 d0 d0 I:=⟨nR,nR,nR,h⟩
theorem YB (n:Nat) (I:List TI):bL n I=some (I.length,I.length):=by
 unfold bL;rw [ef (aY _)];show ob (bx I.length ((I.length:Nat):Int)) _=_;rw [ef (aY _)];rfl
def TP (S:aa):(Nat×Nat×Nat)⊕(Int×Bool×Bool×List TI×Nat)->(Int×Int×aa×Int)⊕(Int×TD×Int×TD×Int×TD×Nat×Nat×Bool×Bool×aa×Int×List TI)
 | .inl f=>.inl ((f.1:Int),(f.2.1:Int),S,(f.2.2:Int))
 | .inr (K,e,l,I,p)=>.inr (K,d0,0,d0,0,d0,I.length,I.length,e,l,S,(p:Int),I)
theorem Vm {S:aa} (G:S.length<100000) {K:Int} (D:K=3\/K=4) (e:Bool) {p:Nat} (hp:p<=S.length) {P:List Nat} {I:List TI} (E:P.length=I.length) (z:1<=I.length) (hs:∀t∈I,smI t):
  (obs (bZ 20000000 [endC K] S ((if dts (S.drop p) then p+2 else p:Nat):Int)) (u2 λc b=>(ob (bL 20000000 I) (u2 λf d=>(ob (iQ 20000000 K d0 0 d0 0 d0 f d e (dts (S.drop p)) I) (u2 λo s=>(cond (s != 0) (ob (ix (List.length (ic P)) o) λx=>(ob ((ic P)[x]?) λm=>(ob (aQ 20000000 m 10 c b) (u2 λk v=>(some (.inl (k,v,c,b))))))) (some (.inr (K,d0,0,d0,0,d0,f,d,e,(dts (S.drop p)),c,b,I))))))))) (u4 λu n w j=>(some (.inl (u,n,w,j))))) =
   some (TP S (endL S K e p P I)):=by
 have y:(if dts (S.drop p) then p+2 else p:Nat)<=S.length:=by
  split
  ·rename_i h;exact lw h
  ·exact hp
 unfold endL;generalize (if dts (S.drop p) then p+2 else p:Nat)=q at *;generalize dts (S.drop p)=l;rw [AO _ _ _ _ y (by omega) (by simp) (by simp)];simp only [tk1];by_cases hc:(S.drop q).head?=some (endC K)
 ·rw [ae hc,ae hc];simp only [obs,sm,ob,u2,YB,Jc (KO hs)];obtain ⟨i,A,F⟩:=K8 D (e:=e) (l:=l) z;show cond ((setE K e l I).2 != 0) (ob (ix (ic P).length (setE K e l I).1) _) _=_;by_cases g:(setE K e l I).2=0
  ·rw [ae g,show ((setE K e l I).2 != 0)=false from by simp [g]];rfl
  ·have hi:i<(ic P).length:=by simp [ic];omega
   rw [ab g,show ((setE K e l I).2 != 0)=true from by simp [g],A,dZ hi];have C:(ic P)[i]?=some ((P.getD i 0:Nat):Int):=by
    have hi':i<P.length:=by omega
    simp [ic,bf hi']
   simp only [ah,ob,C];rfl
 ·rw [ab hc,ab hc];have:lcp (S.drop q) [endC K]=0:=by
   cases B:S.drop q with
   | nil=>rfl
   | cons a r=>
    rw [B] at hc;simp only [lcp];rw [show (a==endC K)=false from by rw [aK];rintro rfl;exact hc rfl];rfl
  rw [this];rfl
theorem R1 {S:aa} {a:Nat} (h:a<=S.length) (hS:S.length<100000):nI 20000000 S (a:Int)=some (TP S (pp S a)):=by
 have b:∀(K:Int) (z:K=3\/K=4) (j:a+1<=S.length),(ob (nh 20000000 (K==4) S ((a+1:Nat):Int) ([]:List TI) ([]:List TI)) (u5 λv7 v8 v9 X L=>(ob (gI 20000000 v9) (u2 λ_ C=>(ob (aC 20000000 [46,46] v7 v8) (u3 λG F O=>(obs (ar (fA 20000000) 20000000 (C,F,O,v9,G,([]:List (Int)),X,L)) (u4 λJ Q Y v19=>(some (.inl (J,Q,Y,v19)))) (u22 λH v21 Z _ _ _ _ _ _ _ _ l o w x k s v y n _ g=>(obs (bZ 20000000 H v21 Z) (u2 λe d=>(ob (bL 20000000 g) (u2 λu m=>(ob (iQ 20000000 l o w x k s u m v y g) (u2 λN T=>(cond (T != 0) (ob (ix (List.length n) N) λv39=>(ob (n[v39]?) λD=>(ob (aQ 20000000 D 10 e d) (u2 λB V=>(some (.inl (B,V,e,d))))))) (some (.inr (l,o,w,x,k,s,u,m,v,y,e,d,g))))))))) (u4 λU E W A=>(some (.inl (U,E,W,A))))))))))))) =
   some (TP S (tP S a K)):=by
  intro K z j;have hj:nh 20000000 (K==4) S ((a+1:Nat):Int) ([]:List TI) ([]:List TI)=some (S,((a+1:Nat):Int),K,[],[]):=by
   rcases z with rfl | rfl<;>rfl
  have R:aC 20000000 [46,46] S ((a+1:Nat):Int)=some (dts (S.drop (a+1)),S,((if dts (S.drop (a+1)) then a+3 else a+1:Nat):Int)):=by
   rw [nF _ _ _ _ j (by omega)];cases i:dts (S.drop (a+1))
   ·rw [ab (show ¬(S.drop (a+1)).take [(46:UInt8),46].length=[46,46] from λh=>by unfold dts at i;rw [show (S.drop (a+1)).take 2=[46,46] from h] at i;cases i)];rfl
   ·rw [ae (show (S.drop (a+1)).take [(46:UInt8),46].length=[46,46] from eq_of_beq i)];rfl
  have hp:(if dts (S.drop (a+1)) then a+3 else a+1:Nat)<=S.length:=by
   split
   ·rename_i h;have:=lw h;omega
   ·exact j
  have hl:=RA (endC K) hS K (dts (S.drop (a+1))) [] 256 (if dts (S.drop (a+1)) then a+3 else a+1) [] [] (by simp) hp rfl 20000000 (by omega);simp only [hj,yK z,R,ob,u5,u4,u3,u2];rw [show ar (fA 20000000) 20000000 ([endC K],S,((if dts (S.drop (a+1)) then a+3 else a+1:Nat):Int),K,dts (S.drop (a+1)),([]:List Int),([]:List TI),([]:List TI))=_ from hl];unfold tP;cases hr:kI S (endC K) 256 (if dts (S.drop (a+1)) then a+3 else a+1) [] [] with
  | inl f=>rfl
  | inr q=>
   obtain ⟨p,P,I⟩:=q;obtain ⟨q1,q2,q3,q4,q5⟩:=uG 256 _ [] [] hp rfl (λt R=>by cases R) hr;have q3':1<=I.length:=by rw [bz] at q3;omega
   exact Vm hS z (dts (S.drop (a+1))) q1 q2 q3' q5
 unfold nI pp;rw [B5 _ _ _ _ h (by omega)];cases i:S.drop a with
 | nil=>rfl
 | cons c r=>
  have j:a+1<=S.length:=by
   have:=cj List.length i;simp at this;omega
  simp only [o5,au];by_cases M:c=91
  ·subst M;rw [ae rfl];exact b 3 (.inl rfl) j
  ·by_cases h2:c=123
   ·subst h2;rw [ae rfl];exact b 4 (.inr rfl) j
   ·rw [ab M,ab h2];have:hasB [91,123] c=false:=by
     unfold hasB;simp only [ri,List.any_nil,xc,pM,aK];exact ⟨λh=>M h.symm,λh=>h2 h.symm⟩
    rw [this];rfl
def rat (l:aa):Nat:=match l with | c::_=>c.toNat | []=>0
theorem Ob (n:Nat) (S:aa) (p:Nat):di n S (p:Int)=some ((rat (S.drop p):Nat):Int):=by
 unfold di;rw [am (show (p:Int)>=0 by omega),ah];by_cases h:p<S.length
 ·have hc:=bf h;rw [am (show (p:Int)<len S by show (p:Int)<((S.length:Nat):Int);omega),ah,dI hc,bX hc];rfl
 ·rw [aq (show ¬(p:Int)<len S by show ¬(p:Int)<((S.length:Nat):Int);omega),af,js (by omega)];rfl
theorem wY (l:aa) (c:UInt8) (hc:c≠0):(((rat l:Nat):Int)==((c.toNat:Nat):Int))=decide (l.head?=some c):=by
 cases l with
 | nil=>
  rw [aq (by simp)];rw [aK];intro h;have b:c.toNat=0:=by
   have:((0:Nat):Int)=((c.toNat:Nat):Int):=h;omega
  exact hc (gJ.1 (by rw [b];rfl))
 | cons a r=>
  show (((a.toNat:Nat):Int)==((c.toNat:Nat):Int))=_;rw [nP];rw [us];simp
theorem rf_w {p:Nat} (k:Nat) (h:p+k<9223372036854775807):w64 ((p:Int)+(k:Int))=((p+k:Nat):Int):=by
 show IntKind.wrap .i64 _=_;rw [wrap_i64 _ (by omega) (by omega)];omega
theorem ET (n:Nat) {S:aa} {p:Nat} (g:p<1000000):eP n S (p:Int)=some (if dts (S.drop p) then 1 else 0):=by
 unfold eP;have d:w64 ((p:Int)+1)=((p+1:Nat):Int):=rf_w 1 (by omega);have e:∀q,(((rat (S.drop q):Nat):Int)==46)=decide ((S.drop q).head?=some 46):=λq=>wY (S.drop q) 46 (by decide);have f:∀b,b=(dts (S.drop p))->(some (if b then (1:Int) else 0))=some (if dts (S.drop p) then 1 else 0):=λb h=>by rw [h]
 simp only [Ob,ob,d,e];rw [<-jw];unfold dts
 match S.drop p with
 | []=>rfl
 | [a]=>
  by_cases h:a=46
  ·subst h;rfl
  ·simp [h]
 | a::b::r=>
  by_cases h:a=46
  ·by_cases c:b=46
   ·subst h c;rfl
   ·subst h;simp [c]
  ·simp [h]
theorem vp (S:aa) (A:Int) (r:DR):M8 S A (.inr r)=((tdR r).1,(tdR r).2.1,(tdR r).2.2.1,(tdR r).2.2.2.1,(tdR r).2.2.2.2.1,(tdR r).2.2.2.2.2.1,(tdR r).2.2.2.2.2.2.1,(tdR r).2.2.2.2.2.2.2.1,(tdR r).2.2.2.2.2.2.2.2.1,(tdR r).2.2.2.2.2.2.2.2.2,((plR r:Nat):Int),S,((enR r:Nat):Int),0):=rfl
theorem Af (S:aa) (A:Int) (f:Nat×Nat×Nat):M8 S A (.inl f)=(false,false,[],0,0,[],[],0,0,0,A,S,(f.1:Int),(f.2.1:Int)):=rfl
theorem WQ (c:UInt8) (hc:c≠0) {S:aa} {p:Nat} (hp:p<1000000) (T:aa) (f g h:Int) (e:Bool) (d:List Int) (i:TD) (b a:List TI):
  fS 20000000 S ((c.toNat:Nat):Int) f T (p:Int) g h e d i b a=some (S,((c.toNat:Nat):Int),f,dts (S.drop p)&&!decide ((S.drop (p+2)).head?=some c),T,(p:Int),g,h,e,d,i,b,a):=by
 unfold fS;have j:w64 ((p:Int)+2)=((p+2:Nat):Int):=rf_w 2 (by omega);simp only [ET 20000000 hp,ob,j,Ob];rw [show (((rat (S.drop (p+2)):Nat):Int) != ((c.toNat:Nat):Int))=!decide ((S.drop (p+2)).head?=some c) from cj _ (wY _ _ hc)];cases dts (S.drop p)<;>rfl
theorem VI (b:Bool) (c:Int) {S:aa} {p:Nat} (h:p<=S.length) (o:S.length<100000) (v:b=true->dts (S.drop p)=true) (j i:Int) (g:Bool) (l:List Int) (e:TD) (d a:List TI):
  iK 20000000 S c j b S (p:Int) 0 i g l e d a=some (if b=true then (match cv S (p+2) with
   | .inl f=>.inl (S,(f.1:Int),(f.2.1:Int),[])
   | .inr r=>.inr (S,c,j,S,((enR r:Nat):Int),0,i,g,l,e,true,tdR r,d,a)) else .inr (S,c,j,S,(p:Int),0,i,g,l,e,false,d0,d,a)):=by
 unfold iK;cases b
 ·rfl
 ·have s:=v rfl;have m:=lw s;have t:w64 ((p:Int)+2)=((p+2:Nat):Int):=rf_w 2 (by omega);obtain ⟨A,n⟩:=sD S (p+2) m o;rw [ah,ae rfl,t,n];cases u:cv S (p+2) with
  | inl f=>
   obtain ⟨k,E,q⟩:=f;have w:=re m u;show cond (((E:Nat):Int) != 0) _ _=_;rw [show (((E:Nat):Int) != 0)=true from by simp;omega];rfl
  | inr r=>rfl
theorem Uk (c:UInt8) (hc:c≠0) {S:aa} {p:Nat} (h:p<=S.length) (l:S.length<100000) (K:Int) (e:Bool) {P:List Nat} (J:List TI) {I:List TI} (F:I.length<256) (B:P.length=I.length):
  ct 20000000 (S,((c.toNat:Nat):Int),S,(p:Int),0,K,e,ic P,J,I)=some (match lL S c p with
   | .inl f=>.inr (.inl (0,d0,0,d0,0,d0,false,false,S,(f.1:Int),(f.2.1:Int),[]))
   | .inr (t,a,b)=>if (S.drop b).head?=some 44 then .inl (S,((c.toNat:Nat):Int),S,((b+1:Nat):Int),0,K,e,ic (P++[a]),J,I++[t])
    else .inr (.inr (S,((c.toNat:Nat):Int),0,d0,0,d0,0,d0,false,false,[],0,0,S,(b:Int),0,K,d0,0,d0,0,d0,e,false,ic (P++[a]),J,I++[t]))):=by
 have fin:∀(t:TI) (a b:Nat),b<=S.length->(ob (di 20000000 S (b:Int)) λg=>(cond (g != 44) (some (.inr (.inr (S,((c.toNat:Nat):Int),0,d0,0,d0,0,d0,false,false,[],0,0,S,(b:Int),0,K,d0,0,d0,0,d0,e,false,(ic P++([(a:Int)]:List (Int))),J,(I++([t]:List TI)))))) (some (.inl (S,((c.toNat:Nat):Int),S,(w64 ((b:Int)+1)),0,K,e,(ic P++([(a:Int)]:List (Int))),J,(I++([t]:List TI))))):Option ((aa×Int×aa×Int×Int×Int×Bool×List (Int)×List TI×List TI)⊕((Int×TD×Int×TD×Int×TD×Bool×Bool×aa×Int×Int×List TI)⊕(aa×Int×Int×TD×Int×TD×Int×TD×Bool×Bool×aa×Int×Int×aa×Int×Int×Int×TD×Int×TD×Int×TD×Bool×Bool×List (Int)×List TI×List TI))))) =
   some (if (S.drop b).head?=some 44 then .inl (S,((c.toNat:Nat):Int),S,((b+1:Nat):Int),0,K,e,ic (P++[a]),J,I++[t])
    else .inr (.inr (S,((c.toNat:Nat):Int),0,d0,0,d0,0,d0,false,false,[],0,0,S,(b:Int),0,K,d0,0,d0,0,d0,e,false,ic (P++[a]),J,I++[t]))):=by
  intro t a b v;have x:ic (P++[a])=ic P++[(a:Int)]:=by simp [ic]
  have s:w64 ((b:Int)+1)=((b+1:Nat):Int):=rf_w 1 (by omega);rw [Ob,x,s];simp only [ob];rw [show (((rat (S.drop b):Nat):Int) != 44)=!decide ((S.drop b).head?=some 44) from cj _ (wY _ 44 (by decide))];by_cases hc:(S.drop b).head?=some 44
  ·rw [ae hc,am hc];rfl
  ·rw [ab hc,aq hc];rfl
 unfold ct;simp only [u10,u9,u8,u7,u6,u5,u4,u3,u2];obtain ⟨A,u⟩:=sD S p h l;rw [show (len I==256)=false from by show (((I.length:Nat):Int)==256)=false;simp;omega,af,u];unfold lL;cases i:cv S p with
 | inl f=>
  obtain ⟨k,E,q⟩:=f;have D:=re h i;show cond (((E:Nat):Int) != 0) _ _=_;rw [show (((E:Nat):Int) != 0)=true from by simp;omega];rfl
 | inr r=>
  obtain ⟨y,_,z,j⟩:=ip h i;rw [vp];show ob (fS 20000000 S ((c.toNat:Nat):Int) ((plR r:Nat):Int) S ((enR r:Nat):Int) 0 K e (ic P) (tdR r) J I) _=_;rw [WQ c hc (by omega)];simp only [ob,u13,u12,u11,u10,u9,u8,u7,u6,u5,u4,u3,u2];rw [VI _ _ j l (λh=>by simp at h;exact h.1)];have m:(dts (S.drop (enR r))&&!decide ((S.drop (enR r+2)).head?=some c))=true↔(dts (S.drop (enR r))=true/\(S.drop (enR r+2)).head?≠some c):=by simp
  by_cases d:dts (S.drop (enR r))=true/\(S.drop (enR r+2)).head?≠some c
  ·rw [ae (m.2 d),ae d];cases w:cv S (enR r+2) with
   | inl f=>rfl
   | inr n=>
    obtain ⟨C,_,l3,o⟩:=ip (lw d.1) w;simp only [obs,sm,ob,u14,u13,u12,u11,u10,u9,u8,u7,u6,u5,u4,u3,u2];rw [qT (by omega),qT (by simp;omega)];exact fin (mkI (tdR r) true (tdR n)) (plR r) (enR n) o
  ·rw [ab (λh=>d (m.1 h)),ab d];simp only [obs,sm,ob,u14,u13,u12,u11,u10,u9,u8,u7,u6,u5,u4,u3,u2];rw [qT (by omega),qT (by simp;omega)];exact fin (mkI (tdR r) false d0) (plR r) (enR r) j
theorem RL (c p:Int) (S:aa) (K:Int) (e:Bool) (P:List Int) (J:List TI) {I:List TI} (a:I.length=256):
  ct 20000000 (S,c,S,p,0,K,e,P,J,I)=some (.inr (.inl (0,d0,0,d0,0,d0,false,false,S,p,3,[]))):=by
 unfold ct;simp only [u10,u9,u8,u7,u6,u5,u4,u3,u2];rw [show (len I==256)=true from by show (((I.length:Nat):Int)==256)=true;rw [a];rfl];rfl
def rfLo (S:aa) (c:UInt8) (K:Int) (e:Bool) (J:List TI):(Nat×Nat×Nat)⊕(Nat×List Nat×List TI)->(Int×TD×Int×TD×Int×TD×Bool×Bool×aa×Int×Int×List TI)⊕(aa×Int×Int×TD×Int×TD×Int×TD×Bool×Bool×aa×Int×Int×aa×Int×Int×Int×TD×Int×TD×Int×TD×Bool×Bool×List (Int)×List TI×List TI)
 | .inl f=>.inl (0,d0,0,d0,0,d0,false,false,S,(f.1:Int),(f.2.1:Int),[])
 | .inr (p,P,I)=>.inr (S,((c.toNat:Nat):Int),0,d0,0,d0,0,d0,false,false,[],0,0,S,(p:Int),0,K,d0,0,d0,0,d0,e,false,ic P,J,I)
theorem S5 (c:UInt8) (hc:c≠0) {S:aa} (h:S.length<100000) (K:Int) (e:Bool) (J:List TI):∀(r p:Nat) (P:List Nat) (I:List TI),I.length+r=256->p<=S.length->P.length=I.length->∀N,r<N->
  ar (ct 20000000) N (S,((c.toNat:Nat):Int),S,(p:Int),0,K,e,ic P,J,I)=some (rfLo S c K e J (kI S c r p P I)):=by
 intro r
 induction r with
 | zero=>
  intro p P I j hp b N i;obtain ⟨N,rfl⟩:∃k,N=k+1:=⟨N - 1,by omega⟩;rw [ar,RL _ _ S K e _ J (by omega)];rfl
 | succ r ih=>
  intro p P I j hp b N i;obtain ⟨N,rfl⟩:∃k,N=k+1:=⟨N - 1,by omega⟩;rw [ar,Uk c hc hp h K e J (by omega) b,kI];cases g:lL S c p with
  | inl f=>rfl
  | inr q=>
   obtain ⟨t,a,d⟩:=q;obtain ⟨_,m,l⟩:=uo hp g;simp only [];by_cases hc:(S.drop d).head?=some 44
   ·rw [ae hc,ae hc];exact ih (d+1) (P++[a]) (I++[t]) (by simp;omega) (dW hc) (by simp [b]) N (by omega)
   ·rw [ab hc,ab hc];rfl
def N3 (S:aa):(Nat×Nat×Nat)⊕(Int×Bool×Bool×List TI×Nat)->Int×TD×Int×TD×Int×TD×Bool×Bool×aa×Int×Int×List TI
 | .inl f=>(0,d0,0,d0,0,d0,false,false,S,(f.1:Int),(f.2.1:Int),[])
 | .inr (K,e,l,I,p)=>(K,d0,0,d0,0,d0,e,l,S,(p:Int),0,I)
theorem Wm (n:Nat) (S:aa) (c:Int) (b:Bool) (p:Nat) (hp:p<1000000) (w:Int) (y:TD) (z:Int) (x:TD) (v:Int) (t:TD) (u g:Bool) (i:aa) (d e:Int) (a:aa) (x16 k:Int) (l:TD) (o:Int) (r:TD) (m:Int) (f:TD) (j:Bool) (q:List Int) (h s:List TI):
  fQ n S c b w y z x v t u g i d e a (p:Int) x16 k l o r m f j false q h s=some (S,c,w,y,z,x,v,t,u,g,i,d,e,a,((if b then p+2 else p:Nat):Int),x16,k,l,o,r,m,f,j,b,q,h,s):=by
 unfold fQ;cases b
 ·rfl
 ·rw [ah,show w64 ((p:Int)+2)=((p+2:Nat):Int) from rf_w 2 (by omega)];rfl
theorem WG {S:aa} (B:S.length<100000) {K:Int} (x:K=3\/K=4) (e:Bool) {p:Nat} (hp:p<=S.length) {P:List Nat} {I:List TI} (z:P.length=I.length) (s:1<=I.length) (hs:∀t∈I,smI t):
  (ob (di 20000000 S ((if dts (S.drop p) then p+2 else p:Nat):Int)) λr=>(cond (r != (((endC K).toNat:Nat):Int)) (ob (dP 20000000 S ((if dts (S.drop p) then p+2 else p:Nat):Int) 0 ((if dts (S.drop p) then p+2 else p:Nat):Int) 5) (u3 λo g j=>(some (0,d0,0,d0,0,d0,false,false,o,g,j,([]:List TI))))) (ob (gi 20000000 K d0 0 d0 0 d0 e (dts (S.drop p)) I) (u2 λd f=>(cond (f != 0) (ob (ix (List.length (ic P)) d) λm=>(ob ((ic P)[m]?) λk=>(ob (dP 20000000 S (w64 (((if dts (S.drop p) then p+2 else p:Nat):Int)+1)) 0 k 10) (u3 λn b c=>(some (0,d0,0,d0,0,d0,false,false,n,b,c,([]:List TI))))))) (some (K,d0,0,d0,0,d0,e,(dts (S.drop p)),S,(w64 (((if dts (S.drop p) then p+2 else p:Nat):Int)+1)),0,I))))))) =
   some (N3 S (endL S K e p P I)):=by
 have y:(if dts (S.drop p) then p+2 else p:Nat)<=S.length:=by
  split
  ·rename_i h;exact lw h
  ·exact hp
 unfold endL;generalize (if dts (S.drop p) then p+2 else p:Nat)=q at *;generalize dts (S.drop p)=l;have v:w64 ((q:Int)+1)=((q+1:Nat):Int):=rf_w 1 (by omega);rw [Ob,v];simp only [ob];rw [show (((rat (S.drop q):Nat):Int) != (((endC K).toNat:Nat):Int))=!decide ((S.drop q).head?=some (endC K)) from cj _ (wY _ _ (by unfold endC;split<;>decide))];by_cases hc:(S.drop q).head?=some (endC K)
 ·rw [ae hc,am hc];simp only [ci,af,EV (KO hs),u2];obtain ⟨i,u,A⟩:=K8 x (e:=e) (l:=l) s;show cond ((setE K e l I).2 != 0) (ob (ix (ic P).length (setE K e l I).1) _) _=_;by_cases a:(setE K e l I).2=0
  ·rw [ae a,show ((setE K e l I).2 != 0)=false from by simp [a]];rfl
  ·have hi:i<(ic P).length:=by simp [ic];omega
   rw [ab a,show ((setE K e l I).2 != 0)=true from by simp [a],u,dZ hi];have w:(ic P)[i]?=some ((P.getD i 0:Nat):Int):=by
    have hi':i<P.length:=by omega
    simp [ic,bf hi']
   simp only [ah,ob,w];rfl
 ·rw [ab hc,aq hc];rfl
theorem SQ {S:aa} {a:Nat} (h:a<=S.length) (hS:S.length<100000):lA 20000000 S (a:Int)=some (N3 S (pp S a)):=by
 have d:∀(K:Int) (hK:K=3\/K=4) (ha:a+1<=S.length),(ob (eP 20000000 S ((a+1:Nat):Int)) λv8=>(ob (fU 20000000 S (((endC K).toNat:Nat):Int) (v8==1) S ((a+1:Nat):Int) K ([]:List TI) ([]:List TI)) (u8 λv9 v10 T v12 v13 N X R=>(obs (ar (ct 20000000) 20000000 (v9,v10,T,v12,0,v13,N,([]:List (Int)),X,R)) (u12 λv17 v18 H Q J v22 v23 V v25 v26 v27 Y=>(some (v17,v18,H,Q,J,v22,v23,V,v25,v26,v27,Y))) (u27 λw v30 v31 v32 W v34 v35 v36 U Z v39 v40 v41 D u v44 v45 L A E v49 v50 v51 v52 v53 v54 M=>(ob (eP 20000000 w u) λv56=>(ob (fQ 20000000 w v30 (v56==1) v31 v32 W v34 v35 v36 U Z v39 v40 v41 D u v44 v45 L A E v49 v50 v51 v52 v53 v54 M) (u27 λv57 v58 _ _ _ _ _ _ _ _ _ _ _ e c g y j l o m v k x r _ i=>(ob (di 20000000 v57 c) λv72=>(cond (v72 != v58) (ob (dP 20000000 e c g c 5) (u3 λG v74 C=>(some (0,d0,0,d0,0,d0,false,false,G,v74,C,([]:List TI))))) (ob (gi 20000000 y j l o m v k x i) (u2 λO B=>(cond (B != 0) (ob (ix (List.length r) O) λv78=>(ob (r[v78]?) λv79=>(ob (dP 20000000 e (w64 (c+1)) g v79 10) (u3 λF v81 z=>(some (0,d0,0,d0,0,d0,false,false,F,v81,z,([]:List TI))))))) (some (y,j,l,o,m,v,k,x,e,(w64 (c+1)),g,i))))))))))))))) =
   some (N3 S (tP S a K)):=by
  intro K hK ha;have one:∀b:Bool,((if b then (1:Int) else 0)==1)=b:=by decide
  have hj:fU 20000000 S (((endC K).toNat:Nat):Int) (dts (S.drop (a+1))) S ((a+1:Nat):Int) K ([]:List TI) ([]:List TI)=some (S,(((endC K).toNat:Nat):Int),S,((if dts (S.drop (a+1)) then a+3 else a+1:Nat):Int),K,dts (S.drop (a+1)),[],[]):=by
   unfold fU;cases dts (S.drop (a+1))
   ·rfl
   ·rw [ah,show w64 (((a+1:Nat):Int)+2)=((a+1+2:Nat):Int) from rf_w 2 (by omega)];rfl
  have hp:(if dts (S.drop (a+1)) then a+3 else a+1:Nat)<=S.length:=by
   split
   ·rename_i h;have:=lw h;omega
   ·exact ha
  have hl:=S5 (endC K) (by unfold endC;split<;>decide) hS K (dts (S.drop (a+1))) [] 256 (if dts (S.drop (a+1)) then a+3 else a+1) [] [] (by simp) hp rfl 20000000 (by omega);simp only [ET 20000000 (show a+1<1000000 by omega),one,hj,ob,u8,u7,u6,u5,u4,u3,u2];rw [show ar (ct 20000000) 20000000 (S,(((endC K).toNat:Nat):Int),S,((if dts (S.drop (a+1)) then a+3 else a+1:Nat):Int),0,K,dts (S.drop (a+1)),([]:List Int),([]:List TI),([]:List TI))=_ from hl];unfold tP;cases hr:kI S (endC K) 256 (if dts (S.drop (a+1)) then a+3 else a+1) [] [] with
  | inl f=>rfl
  | inr q=>
   obtain ⟨p,P,I⟩:=q;obtain ⟨q1,q2,q3,q4,q5⟩:=uG 256 _ [] [] hp rfl (λt ht=>by cases ht) hr;have q3':1<=I.length:=by rw [bz] at q3;omega
   simp only [rfLo,obs,sm,ob,u27,u26,u25,u24,u23,u22,u21,u20,u19,u18,u17,u16,u15,u14,u13,u12,u11,u10,u9,u8,u7,u6,u5,u4,u3,u2,ET 20000000 (show p<1000000 by omega),one,Wm _ _ _ _ p (show p<1000000 by omega)];exact WG hS hK (dts (S.drop (a+1))) q1 q2 q3' q5
 have hw:w64 ((a:Int)+1)=((a+1:Nat):Int):=rf_w 1 (by omega);unfold lA pp;rw [Ob,hw];simp only [ob];unfold lu;rw [show (((rat (S.drop a):Nat):Int)==91)=decide ((S.drop a).head?=some 91) from wY _ 91 (by decide),show (((rat (S.drop a):Nat):Int)==123)=decide ((S.drop a).head?=some 123) from wY _ 123 (by decide)];by_cases s:(S.drop a).head?=some 91
 ·rw [ae s,am s];exact d 3 (.inl rfl) (dW s)
 ·rw [ab s,aq s];by_cases n:(S.drop a).head?=some 123
  ·rw [ae n,am n];exact d 4 (.inr rfl) (dW n)
  ·rw [ab n,aq n];rfl
theorem IM {S:aa} {e:UInt8} {p:Nat} (h:p<=S.length) {f:Nat×Nat×Nat} (a:lL S e p=.inl f):f.2.1≠0:=by
 unfold lL at a;cases b:cv S p with
 | inl g=>rw [b] at a;cases a;exact re (k:=f.1) (E:=f.2.1) (p:=f.2.2) h b
 | inr r=>
  rw [b] at a;simp only [] at a;split at a
  ·rename_i d;cases c:cv S (enR r+2) with
   | inl g=>rw [c] at a;cases a;exact re (k:=f.1) (E:=f.2.1) (p:=f.2.2) (lw d.1) c
   | inr i=>rw [c] at a;cases a
  ·cases a
theorem zU {S:aa} {c:UInt8}:∀(r p:Nat) (P:List Nat) (I:List TI),p<=S.length->∀{f:Nat×Nat×Nat},kI S c r p P I=.inl f->f.2.1≠0
 | 0,p,P,I,_,f,e=>by cases e;simp
 | r+1,p,P,I,h,f,e=>by
  rw [kI] at e;cases b:lL S c p with
  | inl g=>rw [b] at e;cases e;exact IM h b
  | inr q=>
   obtain ⟨t,a,i⟩:=q;rw [b] at e;simp only [] at e;split at e
   ·rename_i d;exact zU r (i+1) _ _ (dW d) e
   ·cases e
structure SetOK (S:aa) (K:Int) (e l:Bool) (I:List TI) (p:Nat):Prop where
 kind:K=3\/K=4
 sm:∀t∈I,smI t
 ok:(setE K e l I).2=0
 one:1<=I.length
 most:I.length<=256
 le:p<=S.length
theorem Qf {S:aa} {a:Nat} (h:a<=S.length) {K:Int} {e l:Bool} {I:List TI} {p:Nat} (b:pp S a=.inr (K,e,l,I,p)):SetOK S K e l I p:=by
 have c:∀g:Int,g=3\/g=4->a+1<=S.length->tP S a g=.inr (K,e,l,I,p)->SetOK S K e l I p:=by
  intro g o m b;unfold tP at b;have hp:(if dts (S.drop (a+1)) then a+3 else a+1:Nat)<=S.length:=by
   split
   ·rename_i h;have:=lw h;omega
   ·exact m
  cases d:kI S (endC g) 256 (if dts (S.drop (a+1)) then a+3 else a+1) [] [] with
  | inl f=>rw [d] at b;cases b
  | inr q=>
   obtain ⟨i,P,J⟩:=q;obtain ⟨v,w,n,j,k⟩:=uG 256 _ [] [] hp rfl (λt s=>by cases s) d;rw [d] at b;simp only [] at b;unfold endL at b;generalize (if dts (S.drop i) then i+2 else i:Nat)=u at b;split at b
   ·rename_i hc;split at b
    ·rename_i r;cases b;rw [bz] at n j;exact ⟨o,k,r,by omega,by omega,dW hc⟩
    ·cases b
   ·cases b
 unfold pp at b;split at b
 ·rename_i d;exact c 3 (.inl rfl) (dW d) b
 ·split at b
  ·rename_i d;exact c 4 (.inr rfl) (dW d) b
  ·cases b
theorem xu {S:aa} {a:Nat} (h:a<=S.length) {f:Nat×Nat×Nat} (b:pp S a=.inl f):f.2.1≠0:=by
 have c:∀i:Int,a+1<=S.length->tP S a i=.inl f->f.2.1≠0:=by
  intro i j b;unfold tP at b;have hp:(if dts (S.drop (a+1)) then a+3 else a+1:Nat)<=S.length:=by
   split
   ·rename_i h;have:=lw h;omega
   ·exact j
  cases d:kI S (endC i) 256 (if dts (S.drop (a+1)) then a+3 else a+1) [] [] with
  | inl g=>rw [d] at b;cases b;exact zU 256 _ _ _ hp d
  | inr q=>
   obtain ⟨e,P,J⟩:=q;rw [d] at b;simp only [] at b;unfold endL at b;generalize (if dts (S.drop e) then e+2 else e:Nat)=k at b;split at b
   ·split at b
    ·cases b
    ·cases b;simp
   ·cases b;simp
 unfold pp at b;split at b
 ·rename_i d;exact c 3 (dW d) b
 ·split at b
  ·rename_i d;exact c 4 (dW d) b
  ·cases b;simp
noncomputable def yk (S:aa):(Nat×Nat)⊕(Int×Bool×Bool×List TI):=match pp S 0 with
 | .inl f=>.inl (f.1,f.2.1)
 | .inr (K,e,l,I,p)=>if p<S.length then .inl (p,5) else .inr (K,e,l,I)
def brk (c:UInt8):Bool:=c==33||c==44||c==46||c==47||c==91||c==93||c==123||c==125
theorem Su:∀c,(!brk c||(!isYC c&&(!isMk c&&(!(c==45)&&!isDX c))))=true:=iW (λc=>!brk c||(!isYC c&&(!isMk c&&(!(c==45)&&!isDX c)))) (by decide +kernel)
theorem Hf {c:UInt8} (h:brk c=true):isYC c=false/\isMk c=false/\(c==45)=false/\isDX c=false:=by
 have:=Su c;rw [h] at this;simpa [aA] using this
theorem VH {c:UInt8} (h:isDX c=true):brk c=false:=by
 cases a:brk c
 ·rfl
 ·rw [(Hf a).2.2.2] at h;cases h
def endT (l:aa):Prop:=∀c,l.head?=some c->brk c=true
theorem Rt {l:aa} (h:endT l):cV isYC l/\cV isMk l/\cV (λc=>c==45) l:=⟨λc hc=>(Hf (h c hc)).1,λc hc=>(Hf (h c hc)).2.1,λc hc=>(Hf (h c hc)).2.2.1⟩
theorem Hg:endT []:=λc h=>by cases h
theorem rj {c:UInt8} {l:aa} (h:brk c=true):endT (c::l):=λa b=>by
 simp only [o5,au] at b;rw [<-b];exact h
theorem NR {g l:Bool} {d:aa} {x s:Nat} (h:okY g l d (x:Int) (s:Int)) (r:aa):cV brk (gN g l d (x:Int) (s:Int)++r):=by
 have a:d≠[]:=by
  have:=(kg h).2.2.2.2.1;rintro rfl;simp at this
 rw [kC];cases l with
 | true=>exact eG (by decide)
 | false=>
  cases g with
  | true=>exact eG (by decide)
  | false=>
   simp only [bv,aB,dX,fN];exact vT a (NX h) (λc=>VH)
def ga (x:TD):aa:=qI x.1 x.2.1 x.2.2.1 x.2.2.2.1 x.2.2.2.2.1 x.2.2.2.2.2.1 x.2.2.2.2.2.2.1 x.2.2.2.2.2.2.2.1.toNat x.2.2.2.2.2.2.2.2.1.toNat x.2.2.2.2.2.2.2.2.2.toNat
theorem pC {x:TD} (hs:smT x) (hc:cF x=0):∃(g l:Bool) (dg:aa) (e q:Nat) (m d:aa) (a b c:Nat),x=(g,l,dg,(e:Int),(q:Int),m,d,(a:Int),(b:Int),(c:Int))/\OkD g l dg e q m d a b c:=by
 have h:=oZ hc;obtain ⟨g,l,dg,e,q,m,d,k0,k1,k2⟩:=x;obtain ⟨p,r,a,b,c,i,k,f,j,n,o⟩:=Hr hs.2.2.2.1 hs.2.2.2.2.1 hs.2.2.2.2.2 h;simp only at i k f j n;subst i k f j n;exact ⟨_,_,_,_,_,_,_,_,_,_,rfl,o⟩
theorem dfT {x:TD} (hs:smT x) (hc:cF x=0):ap10 (db 20000000) x=some (ga x,0):=by
 have:=HW 19999700 x.1 x.2.1 x.2.2.1 x.2.2.2.1 x.2.2.2.2.1 x.2.2.2.2.2.1 x.2.2.2.2.2.2.1 x.2.2.2.2.2.2.2.1 x.2.2.2.2.2.2.2.2.1 x.2.2.2.2.2.2.2.2.2 hs.1 hs.2.1 hs.2.2.2.1 hs.2.2.2.2.1 hs.2.2.2.2.2;rw [ae (oZ hc)] at this;exact this
theorem rfT {x:TD} (hs:smT x) (hc:cF x=0):ap10 (fV 20000000) x=some (ga x):=
 Lj 19999700 hs.2.2.2.1 hs.2.2.2.2.1 hs.2.2.2.2.2 (oZ hc)
theorem pE {x:TD} (hs:smT x) (hc:cF x=0):(ga x).length<=37:=by
 obtain ⟨g,l,dg,e,q,m,d,a,b,c,rfl,ok⟩:=pC hs hc;exact Lp ok
theorem oa {x:TD} (hs:smT x) (hc:cF x=0) (r:aa):cV brk (ga x++r):=by
 obtain ⟨g,l,dg,e,q,m,d,a,b,c,rfl,ok⟩:=pC hs hc;show cV brk (qI g l dg (e:Int) (q:Int) m d a b c++r);unfold qI cA;rw [fN,fN,fN];exact K9 _ (by decide) (by decide) (by decide) (NR ok.yr _)
theorem so {l:aa} (h:cV brk l):dts l=false:=by
 cases a:dts l
 ·rfl
 ·obtain ⟨r,rfl⟩:=uM.1 a;exact absurd (h 46 rfl) (by decide)
theorem zP {x:TD} (hs:smT x) (hc:cF x=0) {S:aa} {a:Nat} {post:aa} (h:S.drop a=ga x++post) (hp:endT post):∃r,cv S a=.inr r/\tdR r=x/\enR r=a+(ga x).length:=by
 obtain ⟨g,l,dg,e,q,m,d,k0,k1,k2,rfl,ok⟩:=pC hs hc;obtain ⟨i,c,f⟩:=Rt hp;obtain ⟨P,j⟩:=I4 ok (S:=S) (a:=a) (post:=post) h i c f;refine ⟨(g,l,dg,e,q,m,d,(k0,k1,k2),P,a+(qI g l dg (e:Int) (q:Int) m d k0 k1 k2).length),?_,rfl,rfl⟩;unfold cv;rw [j];have b:chkR (g,l,dg,e,q,m,d,(k0,k1,k2),P,a+(qI g l dg (e:Int) (q:Int) m d k0 k1 k2).length)=0:=by
  unfold chkR;simp only [];have:chkF g l dg (e:Int) (q:Int) m d (k0:Int) (k1:Int) (k2:Int)=0:=hc;rw [this];rfl
 simp only [];rw [ae b]
structure OkI (t:TI):Prop where
 sm:smI t
 a:cF (iF t)=0
 b:rT t=true->cF (iT t)=0
 n:rT t=false->iT t=d0
def eU (t:TI):aa:=if rT t then ga (iF t)++([46,46]++ga (iT t)) else ga (iF t)
theorem D9 {t:TI} (h:OkI t):(eU t).length<=76:=by
 have e:=pE h.sm.1 h.a;unfold eU;split
 ·rename_i c;have d:=pE h.sm.2 (h.b c);simp only [bg,aE,bz];omega
 ·omega
theorem Ly {t:TI} (h:OkI t) (r:aa):cV brk (eU t++r):=by
 unfold eU;split
 ·rw [fN];exact oa h.sm.1 h.a _
 ·exact oa h.sm.1 h.a _
theorem xq {t:TI} (ok:OkI t) {f:UInt8} (j:brk f=true) {S:aa} {p:Nat} {post:aa} (h:S.drop p=eU t++post) (hp:endT post) (w:dts post=true->(post.drop 2).head?=some f):
  ∃a,lL S f p=.inr (t,a,p+(eU t).length):=by
 unfold eU at h ⊢;unfold lL;cases c:rT t with
 | true=>
  rw [c,ae rfl,fN,fN] at h;obtain ⟨r,i,g,e⟩:=zP ok.sm.1 ok.a h (rj (by decide));have d:S.drop (enR r)=[46,46]++(ga (iT t)++post):=by rw [e];exact gV h
  have k:S.drop (enR r+2)=ga (iT t)++post:=gV (u:=[46,46]) d;have s:dts (S.drop (enR r))=true:=by rw [d];rfl
  have x:(S.drop (enR r+2)).head?≠some f:=by
   rw [k];intro v;have:=oa ok.sm.2 (ok.b c) post f v;rw [j] at this;cases this
  obtain ⟨z,o,q,y⟩:=zP ok.sm.2 (ok.b c) k hp;refine ⟨plR r,?_⟩;rw [i];simp only [];rw [ae ⟨s,x⟩,o];simp only [aL];rw [g,q,y,e];have:mkI (iF t) true (iT t)=t:=by rw [<-c]
  rw [this];have:p+(ga (iF t)).length+2+(ga (iT t)).length=p+(ga (iF t)++([46,46]++ga (iT t))).length:=by simp only [bg,aE,bz];omega
  rw [this]
 | false=>
  rw [c] at h;simp only [bv,aB] at h;obtain ⟨r,i,g,e⟩:=zP ok.sm.1 ok.a h hp;have d:S.drop (enR r)=post:=by rw [e];exact gV h
  refine ⟨plR r,?_⟩;rw [i];simp only [];rw [ab,g,e]
  ·have:mkI (iF t) false d0=t:=by rw [<-c,<-ok.n c]
   rw [this];simp only [bv,aB]
  ·rintro ⟨l,m⟩;rw [d] at l;rw [<-jw,d] at m;exact m (w l)
def lF (I:List TI):aa:=(I.map λt=>44::eU t).flatten
theorem wN {f:UInt8} (c:brk f=true) (b:f≠44) {post:aa} (hp:endT post) (d:post.head?≠some 44) (j:dts post=true->(post.drop 2).head?=some f):∀(I:List TI) (t:TI) (r p:Nat) {S:aa} (P:List Nat) (J:List TI),OkI t->(∀u∈I,OkI u)->I.length<r->S.drop p=eU t++(lF I++post)->
  ∃i,kI S f r p P J=.inr (p+(eU t++lF I).length,i,J++t::I)
 | [],t,r+1,p,S,P,J,ok,_,k,h=>by
  obtain ⟨a,g⟩:=xq ok c (post:=post) (by simpa [lF] using h) hp j;refine ⟨P++[a],?_⟩;rw [kI,g];simp only [];have e:S.drop (p+(eU t).length)=post:=gV (by simpa [lF] using h);rw [e,ab d];simp [lF]
 | u::I,t,r+1,p,S,P,J,ok,oks,k,h=>by
  have m:lF (u::I)++post=44::(eU u++(lF I++post)):=by simp [lF]
  rw [m] at h
  obtain ⟨a,g⟩:=xq ok c (post:=44::(eU u++(lF I++post))) h (rj (by decide)) (λq=>by
   obtain ⟨r,n⟩:=uM.1 q;cases n)
  have e:S.drop (p+(eU t).length)=44::(eU u++(lF I++post)):=gV h;have s:S.drop (p+(eU t).length+1)=eU u++(lF I++post):=gV (u:=[44]) e;obtain ⟨i,o⟩:=wN c b hp d j I u r (p+(eU t).length+1) (P++[a]) (J++[t]) (oks u mV) (λv l=>oks v (fY _ l)) (by simp at k;omega) s;refine ⟨i,?_⟩;rw [kI,g];simp only [];rw [e,o5,ae rfl,o];have:p+(eU t).length+1+(eU u++lF I).length=p+(eU t++lF (u::I)).length:=by simp [lF];omega
  rw [this];simp
def s8 (K:Int) (e l:Bool) (I:List TI):aa:=
 (if K=4 then 123 else 91)::((if e then [46,46] else [])++(Lib.join (I.map eU) [44]++((if l then [46,46] else [])++[endC K])))
theorem DY (t:TI) (I:List TI):Lib.join ((t::I).map eU) [44]=eU t++lF I:=by
 rw [gf,Lib.join_cons];unfold Lib.joinTail lF;rw [tn];rfl
theorem IQ {K:Int} (C:K=3\/K=4) {e l:Bool} {I:List TI} (w:1<=I.length) (D:I.length<=256) (ok:∀t∈I,OkI t) (A:(setE K e l I).2=0) {S:aa} {a:Nat} {post:aa} (h:S.drop a=s8 K e l I++post):
  pp S a=.inr (K,e,l,I,a+(s8 K e l I).length):=by
 obtain ⟨t,J,rfl⟩:∃t J,I=t::J:=by
  cases I with
  | nil=>simp at w
  | cons t J=>exact ⟨t,J,rfl⟩
 have d:brk (endC K)=true:=by unfold endC;split<;>decide
 have b:endC K≠44:=by unfold endC;split<;>decide
 have f:endC K≠46:=by unfold endC;split<;>decide
 unfold s8 at h ⊢;rw [DY] at h ⊢;have m:S.drop (a+1)=(if e then [46,46] else [])++((eU t++lF J)++((if l then [46,46] else [])++(endC K::post))):=by
  have:=gV (u:=[if K=4 then 123 else 91]) (v:=((if e then [46,46] else [])++((eU t++lF J)++((if l then [46,46] else [])++[endC K])))++post) (by rw [h];rfl);rw [show a+1=a+[if K=4 then (123:UInt8) else 91].length from rfl,this];simp only [fN,FC]
 have q:dts (S.drop (a+1))=e:=by
  rw [m];cases e
  ·simp only [bv,aB,dX];rw [fN];exact so (Ly (ok t mV) _)
  ·rfl
 have o:S.drop (if e then a+3 else a+1)=eU t++(lF J++((if l then [46,46] else [])++(endC K::post))):=by
  rw [<-fN];cases e
  ·simpa using m
  ·have:=gV (u:=[46,46]) m;simpa using this
 have p:endT ((if l then [46,46] else [])++(endC K::post)):=by
  cases l
  ·exact rj d
  ·exact rj (by decide)
 have k:((if l then [46,46] else [])++(endC K::post)).head?≠some 44:=by
  cases l
  ·simp [b]
  ·simp
 have g:dts ((if l then [46,46] else [])++(endC K::post))=l:=by
  cases l
  ·cases i:dts ((if false then [46,46] else [])++(endC K::post))
   ·rfl
   ·obtain ⟨r,n⟩:=uM.1 i;simp at n;exact absurd n.1 f
  ·rfl
 obtain ⟨P,y⟩:=wN d b p k (λi=>by rw [g] at i;subst i;rfl) J t 256 (if e then a+3 else a+1) [] [] (ok t mV) (λu x=>ok u (fY _ x)) (by simp at D;omega) o;have j:S.drop ((if e then a+3 else a+1)+(eU t++lF J).length)=(if l then [46,46] else [])++(endC K::post):=by
  apply gV;rw [o,fN]
 have c:tP S a K=.inr (K,e,l,t::J,a+(((if K=4 then 123 else 91)::((if e then [46,46] else [])++((eU t++lF J)++((if l then [46,46] else [])++[endC K]))):aa).length)):=by
  unfold tP;rw [q,y];simp only [dX];unfold endL;rw [j,g];generalize B:(if e then a+3 else a+1)+(eU t++lF J).length=X at j ⊢;have s:S.drop (if l then X+2 else X)=endC K::post:=by
   cases l
   ·simpa using j
   ·have:=gV (u:=[46,46]) j;simpa using this
  rw [s,o5,ae rfl,ae A];have:(if l then X+2 else X)+1=a+(((if K=4 then 123 else 91)::((if e then [46,46] else [])++((eU t++lF J)++((if l then [46,46] else [])++[endC K]))):aa).length):=by
   rw [<-B];cases e<;>cases l<;>simp<;>omega
  rw [this]
 unfold pp;have z:(S.drop a).head?=some (if K=4 then 123 else 91):=by rw [h];rfl
 rw [z];rcases C with rfl | rfl
 ·rw [ae (show some (if (3:Int)=4 then (123:UInt8) else 91)=some 91 from rfl)];exact c
 ·rw [ab (show ¬some (if (4:Int)=4 then (123:UInt8) else 91)=some 91 by decide),ae (show some (if (4:Int)=4 then (123:UInt8) else 91)=some 123 from rfl)];exact c
theorem wS {x y:TD} {r all:Bool} (h:itE x r y all=0):cF x=0/\(r=true->cF y=0)/\(r=false->y=d0)/\itE x r y false=0:=by
 by_cases hc:cF x=0
 ·refine ⟨hc,?_⟩;cases r
  ·rw [Ws hc] at h ⊢;have hy:eqD y d0=true:=by
    cases a:eqD y d0
    ·rw [a] at h;simp at h
    ·rfl
   exact ⟨λh=>(by cases h),λ_=>oV.1 hy,by rw [hy];simp⟩
  ·by_cases hy:cF y=0
   ·rw [Ut hc hy] at h ⊢;have b:ordB x y=true:=by
     cases a:ordB x y
     ·rw [a] at h;simp at h
     ·rfl
    exact ⟨λ_=>hy,λh=>(by cases h),by rw [b];simp⟩
   ·rw [Q0 hc hy] at h;exact absurd h hy
 ·rw [WL hc] at h;exact absurd h hc
theorem UF {t:TI} {all:Bool} (hs:smI t) (h:itI t all=0):OkI t:=by
 obtain ⟨a,b,c,_⟩:=wS h;exact ⟨hs,a,b,c⟩
theorem Gl {x y:TD} (r:Bool) (hx:smT x) (hy:smT y):jY 20000000 x r y=some (if itE x r y false=0 then (eU (mkI x r y),0) else ([],itE x r y false)):=by
 unfold jY;rw [EH r hx hy,ae (.inl rfl),show ((3:Int)==4)=false from rfl];simp only [ob];by_cases h:itE x r y false=0
 ·obtain ⟨a,b,c,_⟩:=wS h;rw [ae h,h,dfT hx a];simp only [dF,af,u2];cases r
  ·rfl
  ·have e:=pE hx a;have d:=pE hy (b rfl);simp only [ah,dfT hy (b rfl)];rw [du (by simp only [aE,bz];omega)];simp only [];rw [du (by simp only [bg,aE,bz];omega)];rfl
 ·rw [ab h,show (itE x r y false != 0)=true from by simp [h]];rfl
theorem DX:∀{I:List TI},(∀t∈I,OkI t)->(lF I).length<=77*I.length
 | [],_=>by simp [lF]
 | t::I,h=>by
  have c:=D9 (h t mV);have b:=DX (I:=I) λu a=>h u (fY _ a);have:lF (t::I)=(44::eU t)++lF I:=by simp [lF]
  rw [this];simp only [bg,aE];omega
theorem CE {I:List TI} (h:∀t∈I,OkI t):(Lib.join (I.map eU) [44]).length<=77*I.length:=by
 cases I with
 | nil=>simp [Lib.join_nil]
 | cons t I=>
  have c:=D9 (h t mV);have b:=DX (I:=I) λu a=>h u (fY _ a);rw [DY];simp only [bg,aE];omega
theorem KR {I:List TI} {i:Nat} {t:TI} (h:I[i]?=some t) (w:aa) (a:w=eU t):((I.take i).map eU++List.replicate (I.length - i) []).set i w=(I.take (i+1)).map eU++List.replicate (I.length - (i+1)) []:=by
 have hi:i<I.length:=(qH.1 h).1;obtain ⟨k,b⟩:∃k,I.length - i=k+1:=⟨I.length - i - 1,by omega⟩;have c:((I.take i).map eU).length=i:=by simp;omega
 rw [b,tz,show I.length - (i+1)=k by omega,rC,h,a];rw [List.set_append_right _ _ (by omega),c,B6];simp
theorem NW {I:List TI} (hs:∀t∈I,OkI t/\itI t false=0) (h:I.length<=1000) (K:Int) (D:TD) (KF:Int) (DF:TD) (KT:Int) (DT:TD) (e l:Bool):∀(r i:Nat),i+r=I.length->∀N,r<N->
  ar (eI 20000000) N (len I,(i:Int),I,K,D,KF,DF,KT,DT,e,l,(I.take i).map eU++List.replicate (I.length - i) [])=some (I,K,D,KF,DF,KT,DT,e,l,I.map eU):=by
 intro r
 induction r with
 | zero=>
  intro i hi N f;obtain ⟨N,rfl⟩:∃k,N=k+1:=⟨N - 1,by omega⟩;obtain rfl:i=I.length:=by omega
  have:eI 20000000 (len I,((I.length:Nat):Int),I,K,D,KF,DF,KT,DT,e,l,(I.take I.length).map eU++List.replicate (I.length - I.length) [])=some (.inr (I,K,D,KF,DF,KT,DT,e,l,I.map eU)):=by
   unfold eI;simp only [u12,u11,u10,u9,u8,u7,u6,u5,u4,u3,u2];rw [aq (show ¬((I.length:Nat):Int)<len I by show ¬((I.length:Nat):Int)<((I.length:Nat):Int);omega),B6,ma];simp
  rw [ar,this]
 | succ r ih=>
  intro i hi N f;obtain ⟨N,rfl⟩:∃k,N=k+1:=⟨N - 1,by omega⟩;have a:i<I.length:=by omega
  have b:I[i]?=some I[i]:=bf a;obtain ⟨ok,c⟩:=hs _ (Ig a);generalize I[i]=t at b ok c;have g:((I.take i).map eU++List.replicate (I.length - i) ([]:aa)).length=I.length:=by simp;omega
  have:eI 20000000 (len I,(i:Int),I,K,D,KF,DF,KT,DT,e,l,(I.take i).map eU++List.replicate (I.length - i) [])=some (.inl (len I,((i+1:Nat):Int),I,K,D,KF,DF,KT,DT,e,l,(I.take (i+1)).map eU++List.replicate (I.length - (i+1)) [])):=by
   unfold eI;simp only [u12,u11,u10,u9,u8,u7,u6,u5,u4,u3,u2];rw [am (show (i:Int)<len I by show (i:Int)<((I.length:Nat):Int);omega),dZ a];simp only [ah,ob,b];rw [show jY 20000000 (iF t) (d8 t).2.2.1 (d8 t).2.2.2=some (eU t,0) from (Gl (rT t) ok.sm.1 ok.sm.2).trans (by rw [ae (show itE (iF t) (rT t) (iT t) false=0 from c)])];simp only [g];rw [dZ a];simp only [];obtain ⟨w,d⟩:∃w,((I.take i).map eU++List.replicate (I.length - i) ([]:aa))[i]?=some w:=⟨_,bf (by omega)⟩;rw [d];simp only [u2];rw [KR b _ rfl,rc (by omega)]
  rw [ar,this];exact ih (i+1) (by omega) N (by omega)
structure SetP (K:Int) (D:TD) (KF:Int) (DF:TD) (KT:Int) (DT:TD) (e l:Bool) (I:List TI):Prop where
 kind:K=3\/K=4
 d:D=d0
 kf:KF=0
 df:DF=d0
 kt:KT=0
 dt:DT=d0
 one:1<=I.length
 most:I.length<=256
 its:∀t∈I,itI t (K==4)=0
 set:(setE K e l I).2=0
theorem zX {A:Type} {f:Nat->A->Int}:∀{L:List A} {k:Nat},sZ f k L=none->∀t∈L,∃i,f i t=0
 | u::L,k,h,t,a=>by
  rw [sZ] at h;split at h
  ·cases h
  ·rename_i b;rcases cL.1 a with rfl | a
   ·exact ⟨k,Nh.1 b⟩
   ·exact zX h t a
theorem HA {A:Type} {f:Nat->A->Int}:∀{L:List A} {k:Nat} {p:Nat×Int},sZ f k L=some p->p.2≠0
 | u::L,k,p,h=>by
  rw [sZ] at h;split at h
  ·rename_i a;cases h;exact a
  ·exact HA h
theorem Vy {K:Int} {e l:Bool} {n i:Nat} {t:TI} (h:errI K e l n i t=0):itI t (K==4)=0:=by
 unfold errI at h;split at h
 ·rename_i a;exact absurd h a
 ·rename_i a;exact Nh.1 a
theorem wA {K:Int} (g:K=3\/K=4) {D:TD} {KF:Int} {DF:TD} {KT:Int} {DT:TD} {e l:Bool} {I:List TI} (h:(fR K D KF DF KT DT e l I).2=0):SetP K D KF DF KT DT e l I:=by
 have o:=h;unfold fR at h;rw [ab (by omega)] at h;split at h
 ·simp at h
 ·rename_i f;rw [ab (by omega),ab (by omega)] at h;split at h
  ·simp at h
  ·split at h
   ·simp at h
   ·unfold xA at h;have n:D=d0/\KF=0/\DF=d0/\KT=0/\DT=d0:=by
     unfold unuB at f;have k1:(K==1)=false:=by rcases g with rfl | rfl<;>rfl
     have k2:(K==2)=false:=by rcases g with rfl | rfl<;>rfl
     have q:(K==3||(K==4||(decide (I.length=0)&&(!e&&!l))))=true:=by rcases g with rfl | rfl<;>rfl
     rw [k1,k2,q] at f;generalize k:eqD D d0=z1 at f;generalize m:eqD DF d0=z2 at f;generalize j:eqD DT d0=s at f;simp only [pf,ci,xc,CW,iV,lz,not_or,Bool.not_eq_false,aA,bI] at f;obtain ⟨a,⟨b,c⟩,d,e⟩:=f;exact ⟨oV.1 (k.trans a),b,oV.1 (m.trans c),d,oV.1 (j.trans e)⟩
    obtain ⟨rfl,rfl,rfl,rfl,rfl⟩:=n;cases hs:sZ (errI K e l I.length) 0 I with
    | some p=>rw [hs] at h;exact absurd h (HA hs)
    | none=>
     refine ⟨g,rfl,rfl,rfl,rfl,rfl,by omega,by omega,λt r=>?_,o⟩;obtain ⟨i,hi⟩:=zX hs t r;exact Vy hi
theorem It {K:Int} {D:TD} {KF:Int} {DF:TD} {KT:Int} {DT:TD} {e l:Bool} {I:List TI} (p:SetP K D KF DF KT DT e l I) (hs:∀t∈I,smI t):∀t∈I,OkI t/\itI t false=0:=
 λt a=>⟨UF (hs t a) (p.its t a),(wS (p.its t a)).2.2.2⟩
def yR (K:Int):Prop:=K=3\/K=4
instance (K:Int):Decidable (yR K):=inferInstanceAs (Decidable (K=3\/K=4))
theorem SN {K:Int} {D:TD} {KF:Int} {DF:TD} {KT:Int} {DT:TD} {e l:Bool} {I:List TI} (h:smE D DF DT I):
  pt 20000000 K D KF DF KT DT e l I=some (if yR K then (if (fR K D KF DF KT DT e l I).2=0 then (s8 K e l I,0) else ([],(fR K D KF DF KT DT e l I).2)) else ([],18)):=by
 have c:∀A:yR K,(ob (iz 20000000 K D KF DF KT DT e l I) λj=>(cond (j != 0) (some ([],j)) (cond (decide ((0:Int)<=(len I))&&(decide ((len I)<=(len I))&&decide ((len I)<=(67108864:Int)))) (ob (ar (eI 20000000) 20000000 ((len I),0,I,K,D,KF,DF,KT,DT,e,l,(List.replicate (Int.toNat (len I)) ([]:aa)))) (u10 λ_ z _ _ _ _ _ p k a=>(ob (gI 20000000 z) (u2 λd b=>(cond p (ob (cat d ([46,46]:aa)) λg=>(cond k (ob (cat ([46,46]:aa) b) λB=>(cond (Nat.ble (List.length a) 140737488355328&&Nat.ble (List.length (Lib.join a ([44]:aa))) 140737488355328) (ob (cat g (Lib.join a ([44]:aa))) λo=>(ob (cat o B) λu=>(some (u,0)))) none)) (cond (Nat.ble (List.length a) 140737488355328&&Nat.ble (List.length (Lib.join a ([44]:aa))) 140737488355328) (ob (cat g (Lib.join a ([44]:aa))) λy=>(ob (cat y b) λC=>(some (C,0)))) none))) (cond k (ob (cat ([46,46]:aa) b) λr=>(cond (Nat.ble (List.length a) 140737488355328&&Nat.ble (List.length (Lib.join a ([44]:aa))) 140737488355328) (ob (cat d (Lib.join a ([44]:aa))) λx=>(ob (cat x r) λs=>(some (s,0)))) none)) (cond (Nat.ble (List.length a) 140737488355328&&Nat.ble (List.length (Lib.join a ([44]:aa))) 140737488355328) (ob (cat d (Lib.join a ([44]:aa))) λq=>(ob (cat q b) λv=>(some (v,0)))) none))))))) none))) =
   some (if (fR K D KF DF KT DT e l I).2=0 then (s8 K e l I,(0:Int)) else ([],(fR K D KF DF KT DT e l I).2)):=by
  intro A;rw [BM h];simp only [ob];by_cases i:(fR K D KF DF KT DT e l I).2=0
  ·have P:=wA A i;have L:=P.most;have oks:=It P h.2.2.2;have H:=CE λt F=>(oks t F).1;rw [ae i,i];have f:=NW oks (by omega) K D KF DF KT DT e l I.length 0 (by omega) 20000000 (by omega);simp only [dF,af];have E:(decide ((0:Int)<=(len I))&&(decide ((len I)<=(len I))&&decide ((len I)<=(67108864:Int))))=true:=by
    have:len I=((I.length:Nat):Int):=rfl;rw [this];simp only [aA,cn];omega
   rw [E,ah,show (List.replicate (Int.toNat (len I)) ([]:aa))=(I.take 0).map eU++List.replicate (I.length - 0) [] from by simp];rw [show ar (eI 20000000) 20000000 (len I,(0:Int),I,K,D,KF,DF,KT,DT,e,l,(I.take 0).map eU++List.replicate (I.length - 0) [])=_ from f];have G:(Nat.ble (List.length (I.map eU)) 140737488355328&&Nat.ble (List.length (Lib.join (I.map eU) ([44]:aa))) 140737488355328)=true:=by
    simp only [aA];exact ⟨cT (by simp;omega),cT (by omega)⟩
   simp only [u10,u9,u8,u7,u6,u5,u4,u3,u2,yK A,G,ah];unfold s8;generalize J:(if K=4 then (123:UInt8) else 91)=b1;generalize endC K=b2;generalize Lib.join (I.map eU) [44]=w at H;cases e<;>cases l<;>simp only [ah,af]
   ·rw [du (by simp only [aE,bz];omega)];simp only [];rw [du (by simp only [bg,aE,bz];omega)];simp
   ·rw [du (by simp only [aE,bz];omega)];simp only [];rw [du (by simp only [aE,bz];omega)];simp only [];rw [du (by simp only [bg,aE,bz];omega)];simp
   ·rw [du (by simp only [aE,bz];omega)];simp only [];rw [du (by simp only [bg,aE,bz];omega)];simp only [];rw [du (by simp only [bg,aE,bz];omega)];simp
   ·rw [du (by simp only [aE,bz];omega)];simp only [];rw [du (by simp only [aE,bz];omega)];simp only [];rw [du (by simp only [bg,aE,bz];omega)];simp only [];rw [du (by simp only [bg,aE,bz];omega)];simp
  ·rw [ab i,show ((fR K D KF DF KT DT e l I).2 != 0)=true from by simp [i]];rfl
 unfold pt;by_cases m:K=3
 ·rw [show (K != 3)=false from by simp [m],ae (.inl m)];exact c (.inl m)
 ·rw [show (K != 3)=true from by simp [m],ah];by_cases n:K=4
  ·rw [show (K != 4)=false from by simp [n],ae (.inr n)];exact c (.inr n)
  ·rw [show (K != 4)=true from by simp [n],ab (by rintro (h | h)<;>contradiction)];rfl
theorem Jy {K:Int} (a:yR K) {e l:Bool} {I:List TI} (d:1<=I.length) (b:I.length<=256) (ok:∀t∈I,OkI t) (c:(setE K e l I).2=0):yk (s8 K e l I)=.inr (K,e,l,I):=by
 unfold yk;rw [IQ a d b ok c (post:=[]) (by rw [bV,lO])];simp only [];rw [ab (by omega)]
theorem Yd {c:UInt8} (h:mkOf c≠0):mt (mkOf c)=[c]:=by
 unfold mkOf at h ⊢;by_cases d:c=63
 ·subst d;rfl
 ·rw [ab d] at h ⊢;by_cases a:c=126
  ·subst a;rfl
  ·rw [ab a] at h ⊢;by_cases b:c=37
   ·subst b;rfl
   ·rw [ab b] at h;exact absurd rfl h
theorem SI (l:aa):l=mt (mkS l)++l.drop (mkN l):=by
 cases l with
 | nil=>rfl
 | cons c r=>
  unfold mkN;show c::r=mt (mkOf c)++_;by_cases h:mkOf c=0
  ·rw [ae (show mkS (c::r)=0 from h),h];rfl
  ·rw [ab (show ¬mkS (c::r)=0 from h),Yd h];rfl
theorem H3 (S:aa) (p:Nat):S.drop p=mt (mkS (S.drop p))++S.drop (mkE S p):=by
 have:=SI (S.drop p);rw [jw] at this;exact this
theorem LY (S:aa) (p:Nat):mkE S p=p+(mt (mkS (S.drop p))).length:=by
 unfold mkE mkN;have a:=CQ (S.drop p);generalize mkS (S.drop p)=k at *;rcases (by omega:k=0\/k=1\/k=2\/k=3) with rfl | rfl | rfl | rfl<;>rfl
theorem Dw {S:aa} {p:Nat} (h:¬twoN (S.drop p)<2):S.drop p=(S.drop p).take 2++S.drop (p+2)/\((S.drop p).take 2).length=2/\∀c∈(S.drop p).take 2,isDX c=true:=by
 have b:=vv h;have a:twoN (S.drop p)=2:=by
  have:twoN (S.drop p)<=2:=by
   unfold twoN;have:∀(k:Nat) (l:aa),bH isDX k l<=k:=by
    intro k
    induction k with
    | zero=>intro l;cases l<;>simp [bH]
    | succ k ih=>
     intro l;cases l with
     | nil=>simp [bH]
     | cons c r=>
      simp only [bH];split
      ·have:=ih r;omega
      ·omega
   exact this 2 _
  omega
 refine ⟨by rw [<-jw];exact (ve 2 _).symm,by simp;omega,?_⟩;have:=zM (p:=isDX) 2 (S.drop p);rw [show bH isDX 2 (S.drop p)=2 from a] at this;exact this
theorem zW {S:aa} {p:Nat} (h:¬fD 45 (S.drop p)=0):S.drop p=45::S.drop (p+1):=by
 cases a:S.drop p with
 | nil=>rw [a] at h;exact absurd rfl h
 | cons c r=>
  rw [a,kK] at h;by_cases hc:c=45
  ·subst hc;rw [<-jw,a];rfl
  ·rw [ab hc] at h;exact absurd rfl h
theorem uL {S:aa} {p k:Nat} {w:aa} (h:S.drop (mkE S p)=w++S.drop (mkE S p+k)):S.drop p=cA (mkS (S.drop p)) (mkS (S.drop (mkE S p+k))) w++S.drop (mkE S (mkE S p+k)):=by
 unfold cA;rw [fN,fN,<-H3,<-h,<-H3]
theorem Kr {S:aa} {a:Nat} {g l:Bool} {dg:aa} {x s:Nat} {m d:aa} {M P:Nat×Nat×Nat} {e:Nat} (b:qL S a=.inr (g,l,dg,x,s,m,d,M,P,e)):
  ∃A B,MkD A B m d/\M=spM A B/\P.1=a+(mt A.1).length/\S.drop a=rawD A B g l dg (x:Int) (s:Int) m d++S.drop e:=by
 unfold qL at b;cases hy:pX (S.drop (mkE S a)) with
 | inl k=>rw [hy] at b;cases b
 | inr y=>
  obtain ⟨C,E,u,N,s',k⟩:=y;obtain ⟨G,Q,_⟩:=qR hy;have H:S.drop (mkE S a)=gN C E u (N:Int) (s':Int)++S.drop (mkE S a+k):=by
   rw [<-G,<-jw];exact (ve k _).symm
  have w0:=uL H;have c:=λp=>CQ (S.drop p);rw [hy] at b;simp only [] at b;by_cases q:0<s'\/fD 45 (S.drop (mkE S (mkE S a+k)))=0
  ·rw [ae q] at b;simp only [oG,ba] at b;obtain ⟨rfl,rfl,rfl,rfl,rfl,rfl,rfl,rfl,rfl,rfl⟩:=b;refine ⟨(mkS (S.drop a),0,0),(mkS (S.drop (mkE S a+k)),0,0),⟨c _,by simp,by simp,c _,by simp,by simp,λ_=>⟨rfl,rfl⟩,λ_=>⟨rfl,rfl⟩⟩,rfl,LY S a,?_⟩;unfold rawD;simpa using w0
  ·rw [ab q] at b;have z:=zW (λh=>q (.inr h));unfold rd2 at b;simp only [] at b;generalize L:mkE S (mkE S a+k)=i at *;by_cases r:twoN (S.drop (mkE S (i+1)))<2
   ·rw [ae r] at b;cases b
   rw [ab r] at b;obtain ⟨K,w,O⟩:=Dw r;have v:=uL K;have f:(S.drop (mkE S (i+1))).take 2≠[]:=λh=>by rw [h] at w;simp at w
   by_cases o:fD 45 (S.drop (mkE S (mkE S (i+1)+2)))=0
   ·rw [ae o] at b;simp only [oG,ba] at b;obtain ⟨rfl,rfl,rfl,rfl,rfl,rfl,rfl,rfl,rfl,rfl⟩:=b;refine ⟨(mkS (S.drop a),mkS (S.drop (i+1)),0),(mkS (S.drop (mkE S a+k)),mkS (S.drop (mkE S (i+1)+2)),0),⟨c _,c _,by simp,c _,c _,by simp,λh=>absurd h f,λ_=>⟨rfl,rfl⟩⟩,rfl,LY S a,?_⟩;unfold rawD;rw [ab f,ae rfl,lO,fN,fg,<-v,<-z];exact w0
   ·rw [ab o] at b;have F:=zW o;unfold rd3 at b;generalize I:mkE S (mkE S (i+1)+2)=n at *;by_cases t:twoN (S.drop (mkE S (n+1)))<2
    ·rw [ae t] at b;cases b
    rw [ab t] at b;obtain ⟨J,u2,u3⟩:=Dw t;have D:=uL J;have j:(S.drop (mkE S (n+1))).take 2≠[]:=λh=>by rw [h] at u2;simp at u2
    simp only [oG,ba] at b;obtain ⟨rfl,rfl,rfl,rfl,rfl,rfl,rfl,rfl,rfl,rfl⟩:=b;refine ⟨(mkS (S.drop a),mkS (S.drop (i+1)),mkS (S.drop (n+1))),(mkS (S.drop (mkE S a+k)),mkS (S.drop (mkE S (i+1)+2)),mkS (S.drop (mkE S (n+1)+2))),⟨c _,c _,c _,c _,c _,c _,λh=>absurd h f,λh=>absurd h j⟩,rfl,LY S a,?_⟩;unfold rawD;rw [ab f,ab j,fN,fN,fg,fg,<-D,<-F,<-v,<-z];exact w0
def okC (c:UInt8):Bool:=isDX c||(isMk c||(c==45||(c==89||(c==69||c==83))))
def isLv (c:UInt8):Bool:=c==69||(c==83||isMk c)
theorem S1:∀c:UInt8,(!okC c||decide (c.toNat<128))=true:=iW (λc=>!okC c||decide (c.toNat<128)) (by decide +kernel)
theorem Wi {c:UInt8} (h:okC c=true):c.toNat<128:=by
 have:=S1 c;rw [h] at this;simpa using this
def dgC (c:UInt8):UInt8:=if bB c then 100 else c
theorem Vd:∀c:UInt8,(!decide (c.toNat<128)||(decide (0<=o8 (c.toNat:Int))&&(Lib.encodeRune (o8 (c.toNat:Int))==[dgC c])))=true:=
 iW (λc=>!decide (c.toNat<128)||(decide (0<=o8 (c.toNat:Int))&&(Lib.encodeRune (o8 (c.toNat:Int))==[dgC c]))) (by decide +kernel)
theorem Jz:∀{l:aa},(∀c∈l,c.toNat<128)->zf l=l.map dgC:=by
 have a:∀(n:Nat) (l:aa),l.length=n->(∀c∈l,c.toNat<128)->Lib.mapGoD o8 n l=l.map dgC:=by
  intro n
  induction n with
  | zero=>intro l b _;rw [uc b];rfl
  | succ n ih=>
   intro l b h;cases l with
   | nil=>simp at b
   | cons c r=>
    have e:Lib.decodeL (c::r)=(c.toNat,1):=AZ (l:=c::r) (i:=0) rfl (h c mV);rw [Lib.mapGoD,ab (by simp),e];have:=Vd c;rw [am (h c mV)] at this;simp only [ci,pf,aA,cn,bI] at this;rw [ae this.1,this.2];rw [show (c::r).drop 1=r from rfl,ih r (by simpa using b) (λd e=>h d (fY _ e))];rfl
 intro l h;exact a l.length l rfl h
theorem wG (s a:aa):Lib.containsAny s a=s.any (a.contains ·):=by
 induction s with
 | nil=>rfl
 | cons b l ih=>
  unfold Lib.containsAny at ih ⊢;have c:=Lib.indexAny_ge a l;rw [Lib.indexAny,ri];cases d:a.contains b
  ·rw [ab (by simp),pf,<-ih];by_cases h:Lib.indexAny l a=-1
   ·rw [ae (by simp [h]),h]
   ·rw [ab (by simp [h])];congr 1;exact propext (by omega)
  ·simp
def vO (u:aa):aa:=match u with | c::r=>if c=45 then r else c::r | []=>[]
def jU:List (aa):=[[100,100,100,88],[100,100,88,88],[100,100,100,100,45,88,88],[100,100,100,100,45,100,100,45,88,88],[100,100,100,100,45,88,88,45,88,88]]
def simB (v:aa):Bool:=jU.contains (v.map dgC)
theorem P6 (n:Nat) (u:aa):jh n u=some (vO u):=by
 unfold jh ge fB vO;cases u with
 | nil=>rfl
 | cons c r=>
  have a:bx (c::r).length (1:Int)=some 1:=ef (i:=1) (by simp);rw [am (show (((c::r).length:Nat):Int)>=1 by rw [aE];omega),ah,a];simp only [ob,oc,lT,bV];by_cases hc:c=45
  ·subst hc;rw [ae rfl];simp
  ·rw [ab hc,show (([c]:aa)==[45])=false from by simp [hc]];rfl
theorem X3 (n:Nat) (u:aa):cR n u=some (decide (u.head?=some 89)):=by
 unfold cR fk;cases u with
 | nil=>rfl
 | cons c r=>
  have a:bx (c::r).length (1:Int)=some 1:=ef (i:=1) (by simp);rw [am (show (((c::r).length:Nat):Int)>=1 by rw [aE];omega),ah,a];simp only [ob,oc,lT,bV,o5,au];rw [show (([c]:aa)==[89])=decide (c=89) from by rw [us];simp]
theorem yY (v:aa):dl 20000000 v jU=some (jU.contains v):=by
 have f:∀(r i:Nat),i+r=5->∀N,r<N->ar (bu 20000000) N (v,5,(i:Int),jU)=some (if (jU.drop i).contains v then .inl ((i+(jU.drop i).idxOf v:Nat):Int) else .inr ()):=by
  intro r
  induction r with
  | zero=>
   intro i hi N e;obtain ⟨N,rfl⟩:∃k,N=k+1:=⟨N - 1,by omega⟩;obtain rfl:i=5:=by omega
   rw [ar];rfl
  | succ r ih=>
   intro i hi N e;obtain ⟨N,rfl⟩:∃k,N=k+1:=⟨N - 1,by omega⟩;have a:i<jU.length:=by show i<5;omega
   have d:=bf a;have:bu 20000000 (v,5,(i:Int),jU)=some (if v=jU[i] then .inr (.inl (i:Int)) else .inl (v,5,((i+1:Nat):Int),jU)):=by
    unfold bu;simp only [];rw [am (show (i:Int)<5 by omega),ah,dZ a];simp only [ob,d];rw [show IntKind.wrap .i64 ((i:Int)+1)=((i+1:Nat):Int) from rc (by omega),kl];split<;>rfl
   rw [ar,this,qE a];by_cases b:v=jU[i]
   ·rw [ae b];simp only [];rw [<-b];simp
   ·rw [ab b];simp only [];rw [ih (i+1) (by omega) N (by omega)];have c:(jU[i]==v)=false:=by simp;exact λh=>b h.symm
    have g:(v==jU[i])=false:=by simp;exact b
    rw [List.contains_cons,g,pf,List.idxOf_cons,c];simp only [af];rw [show i+1+List.idxOf v (List.drop (i+1) jU)=i+(List.idxOf v (List.drop (i+1) jU)+1) by omega]
 have:=f 5 0 rfl 20000000 (by omega);unfold dl fc;rw [show ar (bu 20000000) 20000000 (v,(((List.length jU):Nat):Int),0,jU)=_ from this];rw [bV];cases h:jU.contains v
 ·rfl
 ·simp only [aL,ob];rw [am (by omega)]
def lvl (u:aa) (b X:Bool) (code:Int):Int:=
 if u.any isLv then 2 else if 24<code then 2 else if (X&&!simB (vO u))=true then 2
 else if b=true\/X=true\/0<code\/u.head?=some 45\/u.head?=some 89 then 1 else 0
structure Body (T u:aa) (k:Nat):Prop where
 eq:T=u++mt k
 k4:k<4
 last:∃v z,u=v++[z]/\isMk z=false
 asc:∀c∈T,c.toNat<128
 len:T.length<=1000
theorem Body.ne {T u:aa} {k:Nat} (h:Body T u k):u≠[]:=by
 obtain ⟨v,z,rfl,_⟩:=h.last;simp
theorem Body.ascu {T u:aa} {k:Nat} (h:Body T u k):∀c∈u,c.toNat<128:=λc hc=>h.asc c (by rw [h.eq];exact List.mem_append_left _ hc)
theorem Body.lenu {T u:aa} {k:Nat} (h:Body T u k):u.length<=1000:=by
 have:=h.len;rw [h.eq,bg] at this;omega
theorem QS (c:UInt8):([63,126,37]:aa).contains c=isMk c:=by
 have:=iW (λc=>([63,126,37]:aa).contains c==isMk c) (by decide +kernel) c;simpa using this
theorem XM {k:Nat} (h:k<4):∀c∈mt k,isMk c=true/\c≠69/\c≠83/\c≠88:=by
 rcases (by omega:k=0\/k=1\/k=2\/k=3) with rfl | rfl | rfl | rfl<;>simp [mt,isMk,mkOf]
theorem NV {p:UInt8->Bool}:∀{l:aa},(∀c∈l,p c=true)->l.dropWhile p=[]
 | [],_=>rfl
 | c::l,h=>by rw [List.dropWhile_cons,h c mV];exact NV λd a=>h d (fY _ a)
theorem pi {T u:aa} {k:Nat} (h:Body T u k):Lib.trimRightS T [63,126,37]=u:=by
 obtain ⟨v,z,rfl,a⟩:=h.last;unfold Lib.trimRightS;rw [h.eq,List.reverse_append,List.reverse_append];have:List.dropWhile (λx=>([63,126,37]:aa).contains x) ((mt k).reverse++([z].reverse++v.reverse))=[z].reverse++v.reverse:=by
  rw [List.dropWhile_append];have b:List.dropWhile (λx=>([63,126,37]:aa).contains x) (mt k).reverse=[]:=by
   refine NV λc hc=>?_;rw [QS];exact (XM h.k4 c (Fh.1 hc)).1
  rw [b];simp only [List.isEmpty_nil,aL,List.reverse_singleton,FC];rw [List.dropWhile_cons,QS,a];simp
 rw [this];simp
theorem UG (c:UInt8):([63,126,37,69,83]:aa).contains c=isLv c:=by
 have:=iW (λc=>([63,126,37,69,83]:aa).contains c==isLv c) (by decide +kernel) c;simpa using this
theorem PN (u:aa):(u==vO u)=!decide (u.head?=some 45):=by
 unfold vO;cases u with
 | nil=>rfl
 | cons c r=>
  simp only [o5,au];by_cases hc:c=45
  ·subst hc;rw [ae rfl,am rfl];simp only [ci,aK,ne_eq];intro h;have:=cj List.length h;simp at this
  ·rw [ab hc,aq hc];simp
theorem K0 (u:aa):(vO u).length<=u.length:=by
 unfold vO;split
 ·split<;>simp
 ·simp
theorem Nx {u:aa}:∀c∈vO u,c∈u:=by
 unfold vO;split
 ·split
  ·intro c hc;exact fY _ hc
  ·intro c hc;exact hc
 ·intro c hc;exact hc
theorem Fb {T u:aa} {k:Nat} (h:Body T u k):(u==T)=decide (k=0):=by
 rw [h.eq];rcases (by have:=h.k4;omega:k=0\/k=1\/k=2\/k=3) with rfl | rfl | rfl | rfl
 ·simp [mt]
 all_goals
  rw [show decide _=false from rfl,aK];intro e;have:=cj List.length e;simp [mt] at this
theorem XU {T u:aa} {k:Nat} (h:Body T u k) {x:TD} (hs:smT x):kM 20000000 T x=some (lvl u (decide (k≠0)) (hasX x.2.2.1||(hasX x.2.2.2.2.2.1||hasX x.2.2.2.2.2.2.1)) (seT x)):=by
 have g:ap10 (bK 20000000) x=some (seT x,decide (0<seT x)):=qM 20000000 _ _ _ _ _ _ _ _ _ _ hs.1;have n:=h.len;have m:=h.lenu;have l:=K0 u;have f:xC T [63,126,37]=true:=by
  unfold xC;rw [cT (by omega)];rfl
 have i:A6 (vO u)=true:=cT (by omega);have j:yf u [63,126,37,69,83]=true:=by
  unfold yf;rw [cT (show u.length<=4294967280 by omega)];have:J7 u=true:=cK.2 λc hc=>cT (h.ascu c hc);rw [this];rfl
 unfold kM;rw [g,fmT hs];simp only [ob,u2,f,ah,pi h,P6,i,j,Jz (λc hc=>h.ascu c (Nx c hc)),wG,UG,X3];rw [show ([[100,100,100,88],[100,100,88,88],[100,100,100,100,45,88,88],[100,100,100,100,45,100,100,45,88,88],[100,100,100,100,45,88,88,45,88,88]]:List (aa))=jU from rfl,yY];simp only [PN,Fb h,Bool.not_not];unfold lvl simB;rw [show (List.any u λx=>isLv x)=u.any isLv from rfl];generalize (hasX x.2.2.1||(hasX x.2.2.2.2.2.1||hasX x.2.2.2.2.2.2.1))=X;generalize jU.contains ((vO u).map dgC)=F;cases u.any isLv
 ·simp only [af,bv,aB];by_cases b:24<seT x
  ·rw [ae b,am (show 0<seT x by omega),am (show seT x>=25 by omega)];rfl
  ·rw [ab b,aq (show ¬seT x>=25 by omega)];have a:(cond (decide (u.head?=some 45)) (some (1:Int)) (cond (decide (u.head?=some 89)) (some 1) (cond (!decide (k=0)) (some 1) (cond (decide (0<seT x)) (some 1) (cond X (some 1) (some 0))))))=some (if decide (k≠0)=true\/X=true\/0<seT x\/u.head?=some 45\/u.head?=some 89 then 1 else 0):=by
    by_cases a1:u.head?=some 45
    ·rw [am a1,ae (by simp [a1])];rfl
    rw [aq a1];by_cases a2:u.head?=some 89
    ·rw [am a2,ae (by simp [a2])];rfl
    rw [aq a2];by_cases e:k=0
    ·rw [am e];by_cases d:0<seT x
     ·rw [am d,ae (by simp [d])];rfl
     rw [aq d];cases X
     ·rw [ab (by simp [a1,a2,e,d])];rfl
     ·rw [ae (by simp)];rfl
    ·rw [aq e,ae (by simp [e])];rfl
   cases X
   ·simp only [af,yd,bv,aB];simp only [af,bv] at a;rw [<-a];cases decide (0<seT x)<;>rfl
   ·cases F
    ·cases decide (0<seT x)<;>rfl
    ·simp only [ah,ci,af,yo,bv,aB];simp only [ah] at a;rw [<-a];cases decide (0<seT x)<;>rfl
 ·rfl
def DL:aa->Int->Int->Option (Int×Int)
 | [],x,m=>some (x,m)
 | c::r,x,m=>if c=69\/c=83\/(isMk c=true/\r≠[]) then none else DL r (if c=88 then 1 else x) (if isMk c=true then 1 else m)
theorem Xo (c:UInt8):dK 20000000 ((c.toNat:Nat):Int)=some ((mkOf c:Nat):Int):=(FB 19999700 c).2
theorem Pe (c:UInt8):decide (((mkOf c:Nat):Int)>0)=isMk c:=by
 unfold isMk;by_cases h:0<mkOf c
 ·rw [am h,am (by omega)]
 ·rw [aq h,aq (by omega)]
theorem Ns {T:aa} (u:T.length<=1000) (x:TD):∀(r i:Nat) (a m:Int),i+r=T.length->∀N,r<N->
  ar (cX 20000000) N (T,a,m,(i:Int),x)=some (match DL (T.drop i) a m with | some p=>.inr (T,p.1,p.2,x) | none=>.inl 2):=by
 intro r
 induction r with
 | zero=>
  intro i a m hi N t;obtain ⟨N,rfl⟩:∃k,N=k+1:=⟨N - 1,by omega⟩;obtain rfl:i=T.length:=by omega
  have:cX 20000000 (T,a,m,((T.length:Nat):Int),x)=some (.inr (.inr (T,a,m,x))):=by
   unfold cX;simp only [u5,u4,u3,u2];rw [aq (show ¬((T.length:Nat):Int)<len T by show ¬((T.length:Nat):Int)<((T.length:Nat):Int);omega)];rfl
  rw [ar,this,sT];rfl
 | succ r ih=>
  intro i a m hi N t;obtain ⟨N,rfl⟩:∃k,N=k+1:=⟨N - 1,by omega⟩;have e:i<T.length:=by omega
  have o:T[i]?=some T[i]:=bf e;rw [ar,qE e,DL];generalize T[i]=c at o ⊢;have q:T.drop (i+1)≠[]↔i+1<T.length:=by
   rw [ne_eq,List.drop_eq_nil_iff];omega
  have g:(((c.toNat:Nat):Int)==69)=decide (c=69):=kP c 69 (by decide);have j:(((c.toNat:Nat):Int)==83)=decide (c=83):=kP c 83 (by decide);have l:(((c.toNat:Nat):Int)==88)=decide (c=88):=kP c 88 (by decide);have s:w64 (len T - 1)=((T.length - 1:Nat):Int):=Fg (by omega) (by omega);have:cX 20000000 (T,a,m,(i:Int),x)=some (if c=69\/c=83\/(isMk c=true/\T.drop (i+1)≠[]) then .inr (.inl 2) else .inl (T,(if c=88 then 1 else a),(if isMk c=true then 1 else m),((i+1:Nat):Int),x)):=by
   unfold cX;simp only [u5,u4,u3,u2];rw [am (show (i:Int)<len T by show (i:Int)<((T.length:Nat):Int);omega)];simp only [ah,ob,dI o,g,j,l,Xo,Pe,s];rw [rc (by omega)];by_cases d:c=69
   ·rw [am d,ae (.inl d)];rfl
   rw [aq d];by_cases f:c=83
   ·rw [am f,ae (.inr (.inl f))];rfl
   rw [aq f];simp only [af];cases v:isMk c
   ·rw [ab (by simp [d,f])];simp only [af,bv,aB];by_cases b:c=88
    ·rw [am b,ae b];rfl
    ·rw [aq b,ab b];rfl
   ·simp only [ah,aL];by_cases n:i+1<T.length
    ·rw [am (show (i:Int)<((T.length - 1:Nat):Int) by omega),ae (.inr (.inr ⟨trivial,q.2 n⟩))];rfl
    ·rw [aq (show ¬(i:Int)<((T.length - 1:Nat):Int) by omega),ab (by
      rintro (h | h | ⟨_,h⟩)
      ·exact d h
      ·exact f h
      ·exact n (q.1 h))]
     by_cases b:c=88
     ·rw [am b,ae b];rfl
     ·rw [aq b,ab b];rfl
  rw [this];by_cases hc:c=69\/c=83\/(isMk c=true/\T.drop (i+1)≠[])
  ·rw [ae hc,ae hc]
  ·rw [ab hc,ab hc];exact ih (i+1) _ _ (by omega) N (by omega)
theorem Ed:∀(v:aa) (w:aa) (a:Int),w≠[]->DL (v++w) a 0=if v.any isLv then none else DL w (if v.any (·==88) then 1 else a) 0
 | [],w,a,_=>by simp
 | c::v,w,a,d=>by
  rw [fg,DL,ri,ri];have f:v++w≠[]:=by
   intro h;exact d (List.append_eq_nil_iff.1 h).2
  by_cases hc:isLv c=true
  ·have:c=69\/c=83\/(isMk c=true/\v++w≠[]):=by
    unfold isLv at hc;simp only [iV,bI] at hc;rcases hc with h | h | h
    ·exact .inl h
    ·exact .inr (.inl h)
    ·exact .inr (.inr ⟨h,f⟩)
   rw [ae this,hc];simp
  ·have hc':isLv c=false:=by simpa using hc
   have e:c≠69/\c≠83/\isMk c=false:=by
    unfold isLv at hc';simp only [pM,aK] at hc';exact hc'
   rw [ab (by rintro (h | h | ⟨h,_⟩)<;>simp_all),e.2.2,hc'];simp only [bv,aB,pf];rw [Ed v w _ d];by_cases b:c=88
   ·subst b;simp
   ·rw [ab b,show (c==88)=false from by simp [b],pf]
theorem WF {T u:aa} {k:Nat} (h:Body T u k):DL T 0 0=if u.any isLv then none else some (if u.any (·==88) then 1 else 0,if k=0 then 0 else 1):=by
 obtain ⟨v,z,rfl,d⟩:=h.last;rw [h.eq,fN,Ed v _ 0 (by simp)];rw [sX,sX];cases v.any isLv
 ·simp only [bv,aB,pf,ri,List.any_nil,xc,FC];rw [DL,d];by_cases a:z=69
  ·subst a;simp [isLv]
  by_cases b:z=83
  ·subst b;simp [isLv]
  have e:isLv z=false:=by unfold isLv;rw [d];simp [a,b]
  rw [ab (by simp [a,b]),e];simp only [bv,aB];have hx:(if z=88 then (1:Int) else if (v.any λx=>x==88)=true then 1 else 0)=if ((v.any λx=>x==88)||z==88)=true then 1 else 0:=by
   by_cases c:z=88
   ·subst c;simp
   ·rw [ab c,show (z==88)=false from by simp [c],xc]
  rw [hx];rcases (by have:=h.k4;omega:k=0\/k=1\/k=2\/k=3) with rfl | rfl | rfl | rfl<;>rfl
 ·simp
theorem yA (f:aa) (v:∀c∈f,c=100\/c=88\/c=45) (w:f.length<=1000) (t:aa):aU 20000000 t f=some (if t.map dgC=f then 1 else 0):=by
 unfold aU;rw [show (len t != len f)=!decide (t.length=f.length) from cj _ (natB _ _)];by_cases l:t.length=f.length
 case neg=>
  rw [aq l,ab (λh=>l (by rw [<-h];simp))];rfl
 rw [am l];have loop:∀(r i:Nat),i+r=t.length->∀N,r<N->ar (dJ 20000000) N (t,f,(i:Int))=some (if (t.drop i).map dgC=f.drop i then .inr () else .inl 0):=by
  intro r
  induction r with
  | zero=>
   intro i hi N u;obtain ⟨N,rfl⟩:∃k,N=k+1:=⟨N - 1,by omega⟩;obtain rfl:i=t.length:=by omega
   have:dJ 20000000 (t,f,((t.length:Nat):Int))=some (.inr (.inr ())):=by
    unfold dJ;simp only [u3,u2];rw [aq (show ¬((t.length:Nat):Int)<len t by show ¬((t.length:Nat):Int)<((t.length:Nat):Int);omega)];rfl
   rw [ar,this,sT,l,sT];rfl
  | succ r ih=>
   intro i hi N u;obtain ⟨N,rfl⟩:∃k,N=k+1:=⟨N - 1,by omega⟩;have j:i<t.length:=by omega
   have b:i<f.length:=by omega
   have s:t[i]?=some t[i]:=bf j;have o:f[i]?=some f[i]:=bf b;have p:=v _ (Ig b);rw [ar,qE j,qE b,gf];generalize t[i]=c at s ⊢;generalize f[i]=d at o p ⊢;have a:(dgC c=d)↔(c=d\/(d=100/\bB c=true)):=by
    unfold dgC;by_cases h:bB c=true
    ·rw [ae h];constructor
     ·intro e;exact .inr ⟨e.symm,h⟩
     ·rintro (e | ⟨e,_⟩)
      ·subst e;rcases p with rfl | rfl | rfl
       ·rfl
       ·exact absurd h (by decide)
       ·exact absurd h (by decide)
      ·exact e.symm
    ·rw [ab h];constructor
     ·intro e;exact .inl e
     ·rintro (e | ⟨_,e⟩)
      ·exact e
      ·exact absurd e h
   have g:bB c=(decide (48<=c.toNat)&&decide (c.toNat<=57)):=by
    have:=iW (λc=>bB c==(decide (48<=c.toNat)&&decide (c.toNat<=57))) (by decide +kernel) c;simpa using this
   have:dJ 20000000 (t,f,(i:Int))=some (if dgC c=d then .inl (t,f,((i+1:Nat):Int)) else .inr (.inl 0)):=by
    unfold dJ;simp only [u3,u2];rw [am (show (i:Int)<len t by show (i:Int)<((t.length:Nat):Int);omega)];simp only [ah,ob,dI s,dI o];rw [rc (by omega),show (((c.toNat:Nat):Int) != ((d.toNat:Nat):Int))=!(c==d) from cj _ (nP c d),show (((d.toNat:Nat):Int)==100)=decide (d=100) from kP d 100 (by decide)];by_cases e:c=d
    ·rw [ae (a.2 (.inl e)),show (c==d)=true from by simp [e]];rfl
    ·rw [show (c==d)=false from by simp [e]];by_cases m:d=100
     ·rw [am m];simp only [il,ah];by_cases n:48<=c.toNat
      ·rw [am (show ((c.toNat:Nat):Int)>=48 by omega)];by_cases q:c.toNat<=57
       ·rw [am (show ((c.toNat:Nat):Int)<=57 by omega),ae (a.2 (.inr ⟨m,by rw [g];simp [n,q]⟩))];rfl
       ·rw [aq (show ¬((c.toNat:Nat):Int)<=57 by omega),ab (λh=>by
         rcases a.1 h with h | ⟨_,h⟩
         ·exact e h
         ·rw [g] at h;simp [q] at h)];rfl
      ·rw [aq (show ¬((c.toNat:Nat):Int)>=48 by omega),ab (λh=>by
        rcases a.1 h with h | ⟨_,h⟩
        ·exact e h
        ·rw [g] at h;simp [n] at h)];rfl
     ·rw [aq m,ab (λh=>by
       rcases a.1 h with h | ⟨h,_⟩
       ·exact e h
       ·exact m h)];rfl
   rw [this];by_cases e:dgC c=d
   ·rw [ae e];simp only [];rw [ih (i+1) (by omega) N (by omega),e];simp
   ·rw [ab e,ab (λh=>e (List.cons.inj h).1)]
 have:=loop t.length 0 (by omega) 20000000 (by omega);rw [show ((0:Nat):Int)=0 from rfl,bV,bV] at this;rw [this];split<;>rfl
theorem NC (t:aa):(w64 ((w64 ((w64 ((w64 ((if t.map dgC=[100,100,100,88] then (1:Int) else 0)+(if t.map dgC=[100,100,88,88] then (1:Int) else 0)))+(if t.map dgC=[100,100,100,100,45,88,88] then (1:Int) else 0)))+(if t.map dgC=[100,100,100,100,45,100,100,45,88,88] then (1:Int) else 0)))+(if t.map dgC=[100,100,100,100,45,88,88,45,88,88] then (1:Int) else 0))==0)=!simB t:=by
 unfold simB jU;simp only [List.contains_cons,List.contains_nil,xc];have e:∀f:aa,(t.map dgC=f)=((t.map dgC==f)=true):=λf=>by simp
 simp only [e];generalize (t.map dgC==[100,100,100,88])=z1;generalize (t.map dgC==[100,100,88,88])=z2;generalize (t.map dgC==[100,100,100,100,45,88,88])=b;generalize (t.map dgC==[100,100,100,100,45,100,100,45,88,88])=a;generalize (t.map dgC==[100,100,100,100,45,88,88,45,88,88])=c;cases z1<;>cases z2<;>cases b<;>cases a<;>cases c<;>rfl
theorem Ww (t:aa):aU 20000000 t [100,100,100,88]=some (if t.map dgC=[100,100,100,88] then 1 else 0):=yA _ (by decide) (by decide) t
theorem WW (t:aa):aU 20000000 t [100,100,88,88]=some (if t.map dgC=[100,100,88,88] then 1 else 0):=yA _ (by decide) (by decide) t
theorem WO (t:aa):aU 20000000 t [100,100,100,100,45,88,88]=some (if t.map dgC=[100,100,100,100,45,88,88] then 1 else 0):=yA _ (by decide) (by decide) t
theorem WV (t:aa):aU 20000000 t [100,100,100,100,45,100,100,45,88,88]=some (if t.map dgC=[100,100,100,100,45,100,100,45,88,88] then 1 else 0):=yA _ (by decide) (by decide) t
theorem Ux (t:aa):aU 20000000 t [100,100,100,100,45,88,88,45,88,88]=some (if t.map dgC=[100,100,100,100,45,88,88,45,88,88] then 1 else 0):=yA _ (by decide) (by decide) t
theorem TX {T u:aa} {k:Nat} (h:Body T u k) {g l:Bool} {dg:aa} {e q:Nat} {m d:aa} {M P:Nat×Nat×Nat} {p:Nat} (F:qL T 0=.inr (g,l,dg,e,q,m,d,M,P,p)):
  dc 20000000 T=some (lvl u (decide (k≠0)) (u.any (·==88)) (sea m)):=by
 have G:=h.len;obtain ⟨Q,_,C⟩:=xB 19999700 T 0 (by omega) (by omega) (by omega);rw [show 19999700+300=20000000 from rfl,F,show ((0:Nat):Int)=0 from rfl] at C;have n:=Ns G (g,l,dg,(e:Int),(q:Int),m,d,(M.1:Int),(M.2.1:Int),(M.2.2:Int)) T.length 0 0 0 (by omega) 20000000 (by omega);rw [show ((0:Nat):Int)=0 from rfl,bV,WF h] at n;unfold dc;rw [C];simp only [ob,TM];rw [show ar (cX 20000000) 20000000 (T,0,0,0,iF (g,l,dg,(e:Int),(q:Int),m,d,(M.1:Int),(M.2.1:Int),(M.2.2:Int),Q,T,(p:Int),(0:Int)))=_ from n];have B:∃c r,u=c::r:=by
  cases f:u with
  | nil=>exact absurd f h.ne
  | cons c r=>exact ⟨c,r,rfl⟩
 have A:ap10 (aR 20000000) (iF (g,l,dg,(e:Int),(q:Int),m,d,(M.1:Int),(M.2.1:Int),(M.2.2:Int),Q,T,(p:Int),(0:Int)))=some (sea m):=rsT _;unfold lvl;cases u.any isLv
 case true=>rfl
 simp only [bv,aB,obs,sm,ob,u4,u3,u2];rw [A];simp only [ob];by_cases b:24<sea m
 ·rw [ae b,show decide (sea m>24)=true from am b];rfl
 rw [ab b,show decide (sea m>24)=false from aq b,af];have J:=h.k4;have j:=cj List.length h.eq;rw [bg] at j;have o:bx (List.length T) (w64 ((len T) - (if k=0 then (0:Int) else 1)))=some u.length:=by
  have:w64 ((len T) - (if k=0 then (0:Int) else 1))=((u.length:Nat):Int):=by
   have K:len T=((T.length:Nat):Int):=rfl;rw [K,j];show IntKind.wrap .i64 _=_;rw [wrap_i64 _ (by split<;>omega) (by split<;>omega)];rcases (by omega:k=0\/k=1\/k=2\/k=3) with rfl | rfl | rfl | rfl<;>simp [mt]
  rw [this,ef (by omega)]
 have y:List.take u.length T=u:=by rw [h.eq,By]
 rw [o];simp only [bV,y];obtain ⟨c,r,f⟩:=B;have w:sx u (0:Int)=some c:=by rw [f];rfl
 have v:sx T (0:Int)=some c:=by rw [h.eq,f];rfl
 have s:vO u=if c=45 then r else u:=by rw [f];rfl
 have H:u.head?=some c:=by rw [f];rfl
 have b1:bx u.length (1:Int)=some 1:=ef (i:=1) (by rw [f];simp);have z:List.drop 1 (List.take u.length u)=r:=by rw [ma,f];rfl
 rw [w,v,b1];simp only [z,ob,Ww,WW,WO,WV,Ux,NC];rw [show (((c.toNat:Nat):Int)==45)=decide (c=45) from kP c 45 (by decide),show (((c.toNat:Nat):Int)==89)=decide (c=89) from kP c 89 (by decide),H];have a:(cond ((if (u.any λx=>x==88)=true then (1:Int) else 0)==1) (some (1:Int)) (cond ((if k=0 then (0:Int) else 1)==1) (some 1) (cond (decide (sea m>0)) (some 1) (cond (decide (c=45)) (some 1) (cond (decide (c=89)) (some 1) (some 0)))))) =
   some (if decide (k≠0)=true\/(u.any λx=>x==88)=true\/0<sea m\/some c=some 45\/some c=some 89 then 1 else 0):=by
  cases (u.any λx=>x==88)
  ·by_cases a1:k=0
   ·by_cases a2:0<sea m
    ·simp [a1,a2]
    ·by_cases D:c=45
     ·simp [a1,a2,D]
     ·by_cases E:c=89
      ·simp [a1,a2,E]
      ·simp [a1,a2,D,E]
   ·simp [a1]
  ·simp
 by_cases hc:c=45
 ·rw [am hc,ah];rw [s,ae hc];rw [am hc] at a;cases t:(u.any λx=>x==88)
  ·rw [t] at a;simp only [yd,bv,aB,show ((0:Int)==1)=false from rfl,af] at a ⊢;exact a
  ·rw [t] at a;cases I:simB r
   ·simp
   ·simp only [aL,show ((1:Int)==1)=true from rfl,ah,af,ci,yo,bv,aB] at a ⊢;exact a
 ·rw [aq hc,af];rw [s,ab hc];rw [aq hc] at a;cases t:(u.any λx=>x==88)
  ·rw [t] at a;simp only [yd,bv,aB,show ((0:Int)==1)=false from rfl,af] at a ⊢;exact a
  ·rw [t] at a;cases I:simB u
   ·simp
   ·simp only [aL,show ((1:Int)==1)=true from rfl,ah,af,ci,yo,bv,aB] at a ⊢;exact a
theorem qC {k:Nat} (h:k<4):(mt k).all okC=true:=by
 rcases (by omega:k=0\/k=1\/k=2\/k=3) with rfl | rfl | rfl | rfl<;>decide
theorem x_mk {k:Nat} (h:k<4):(mt k).any (·==88)=false:=by
 rcases (by omega:k=0\/k=1\/k=2\/k=3) with rfl | rfl | rfl | rfl<;>decide
theorem Vp:((List.range 100).all λk=>(Lib.decDigits k).all λc=>okC c&&(!isMk c&&!(c==88)))=true:=by decide +kernel
theorem Cm {k:Nat} (h:k<100) {letter:UInt8} (a:letter=69\/letter=83):(eo letter k).all (λc=>okC c&&(!isMk c&&!(c==88)))=true:=by
 unfold eo;split
 ·rw [mY,(cK.1 Vp) k (kX.2 h)];rcases a with rfl | rfl<;>decide
 ·rfl
theorem MQ {c:UInt8} (h:isDX c=true):okC c=true:=by unfold okC;rw [h];rfl
theorem wM {g l:Bool} {dg:aa} {x q:Nat} (h:okY g l dg (x:Int) (q:Int)):gN g l dg (x:Int) (q:Int)≠[]/\(∀c∈gN g l dg (x:Int) (q:Int),okC c=true/\isMk c=false)/\(gN g l dg (x:Int) (q:Int)).any (·==88)=hasX dg:=by
 obtain ⟨n,o,p,m,e,k⟩:=kg h;have hx:x<100:=by omega
 have j:q<100:=by omega
 have d:=Cm hx (letter:=69) (.inl rfl);have b:=Cm j (letter:=83) (.inr rfl);have a:=NX h;have i:dg≠[]:=by
  rintro rfl;simp at e
 rw [kC];refine ⟨by cases l<;>cases g<;>simp [i],λc hc=>?_,?_⟩
 ·simp only [nO,or_assoc] at hc;rcases hc with hc | hc | hc | hc | hc
  ·cases l
   ·cases hc
   ·rw [n9.1 hc];decide
  ·cases g
   ·cases hc
   ·rw [n9.1 hc];decide
  ·exact ⟨MQ (a c hc),IN (a c hc)⟩
  ·have:=(cK.1 d) c hc;simp only [aA,lz] at this;exact ⟨this.1,this.2.1⟩
  ·have:=(cK.1 b) c hc;simp only [aA,lz] at this;exact ⟨this.1,this.2.1⟩
 ·have no:∀w:aa,w.all (λc=>okC c&&(!isMk c&&!(c==88)))=true->w.any (·==88)=false:=by
   intro w f;rw [sU];intro c hc;have:=(cK.1 f) c hc;simp only [aA,lz] at this;rw [this.2.2];simp
  simp only [sX,no _ d,no _ b,xc];unfold hasX;cases l<;>cases g<;>simp
theorem E3 {w:aa} (h:w≠[]) (a:∀c∈w,isMk c=false) (v:aa):∃b z,v++w=b++[z]/\isMk z=false:=
 ⟨v++w.dropLast,w.getLast h,by rw [fN,List.dropLast_concat_getLast],a _ (List.getLast_mem h)⟩
theorem H7 {A B:Nat×Nat×Nat} {g l:Bool} {dg:aa} {x q:Nat} {m d:aa} (hs:ShD g l dg x q m d) (J:MkD A B m d):
  ∃u k,Body (rawD A B g l dg (x:Int) (q:Int) m d) u k/\u.any (·==88)=(hasX dg||(hasX m||hasX d))/\(u.any isLv=false->A=(0,0,0)/\(m≠[]->B.1=0)/\(d≠[]->B.2.1=0))/\k=(if m=[] then B.1 else if d=[] then B.2.1 else B.2.2):=by
 obtain ⟨R,F,t⟩:=wM hs.yr;have yl:=ug hs.yr;obtain ⟨f,o,C⟩:=A;obtain ⟨j,r,G⟩:=B;obtain ⟨a0,a1,a2,b0,b1,b2,zm,zd⟩:=J;simp only at a0 a1 a2 b0 b1 b2 zm zd;unfold rawD cA;simp only;generalize gN g l dg (x:Int) (q:Int)=Y at *;have b:∀w:aa,w.all okC=true->∀c∈w,c.toNat<128:=λw P c hc=>Wi ((cK.1 P) c hc);have y:Y.all okC=true:=cK.2 λc hc=>(F c hc).1;have n:∀k,k<4->(mt k).length<=1:=λk h=>by
  rcases (by omega:k=0\/k=1\/k=2\/k=3) with rfl | rfl | rfl | rfl<;>simp [mt]
 have la0:=n f a0;have T:=n o a1;have M:=n C a2;have X:=n j b0;have V:=n r b1;have K:=n G b2;have a:∀k,k<4->(mt k).any isLv=false->k=0:=λk h=>by
  rcases (by omega:k=0\/k=1\/k=2\/k=3) with rfl | rfl | rfl | rfl<;>decide
 have p:∀w:aa,w.any (λx=>x==88)=hasX w:=λw=>rfl;by_cases i:m=[]
 ·have e:d=[]:=hs.day.resolve_right (λz=>z.1 i);subst i e;obtain ⟨rfl,rfl⟩:=zm rfl;obtain ⟨rfl,rfl⟩:=zd rfl;simp only [aL,lO];refine ⟨mt f++Y,j,⟨rfl,b0,E3 R (λc hc=>(F c hc).2) _,b _ (by rw [Et,Et,qC a0,y,qC b0];rfl),by simp only [bg];omega⟩,?_,?_,rfl⟩
  ·rw [sX,x_mk a0,t];simp [hasX]
  ·intro h;rw [sX,pM] at h;exact ⟨by rw [a _ a0 h.1],λh=>absurd rfl h,λh=>absurd rfl h⟩
 ·obtain ⟨S,mx⟩:=hs.mon.resolve_left i;have E:m.all okC=true:=cK.2 λc hc=>MQ (mx c hc);rw [ab i,ab i];by_cases e:d=[]
  ·subst e;obtain ⟨rfl,rfl⟩:=zd rfl;simp only [aL,lO];refine ⟨mt f++Y++mt j++(45::(mt o++m)),r,⟨by simp,b1,?_,b _ ?_,by simp only [bg,aE];omega⟩,?_,?_,rfl⟩
   ·have:=E3 i (λc hc=>IN (mx c hc)) (mt f++Y++mt j++(45::mt o));simpa using this
   ·simp only [Et,mY,qC a0,y,qC b0,qC a1,E,qC b1,show okC 45=true from by decide];rfl
   ·simp only [sX,ri,x_mk a0,x_mk b0,x_mk a1,t];simp only [p];simp [hasX]
   ·intro h;simp only [sX,ri,pM] at h;obtain ⟨⟨⟨v,Z⟩,s⟩,O,D,Q⟩:=h;exact ⟨by rw [a _ a0 v,a _ a1 D],λ_=>a _ b0 s,λh=>absurd rfl h⟩
  ·obtain ⟨_,I,H⟩:=hs.day.resolve_left e;have U:d.all okC=true:=cK.2 λc hc=>MQ (H c hc);rw [ab e,ab e];refine ⟨mt f++Y++mt j++(45::(mt o++m++mt r))++(45::(mt C++d)),G,⟨by simp,b2,?_,b _ ?_,by simp only [bg,aE];omega⟩,?_,?_,rfl⟩
   ·have:=E3 e (λc hc=>IN (H c hc)) (mt f++Y++mt j++(45::(mt o++m++mt r))++(45::mt C));simpa using this
   ·simp only [Et,mY,qC a0,y,qC b0,qC a1,E,qC b1,qC a2,U,qC b2,show okC 45=true from by decide];rfl
   ·simp only [sX,ri,x_mk a0,x_mk b0,x_mk a1,x_mk b1,x_mk a2,t];simp only [p];simp [Bool.or_assoc]
   ·intro h;simp only [sX,ri,pM] at h;obtain ⟨⟨⟨⟨v,Z⟩,s⟩,O,⟨D,Q⟩,N⟩,h8,W,L⟩:=h;exact ⟨by rw [a _ a0 v,a _ a1 D,a _ a2 W],λ_=>a _ b0 s,λ_=>a _ b1 N⟩
def mkX (x:TD):Bool:=hasX x.2.2.1||(hasX x.2.2.2.2.2.1||hasX x.2.2.2.2.2.2.1)
def lvT (T:aa) (x:TD):Int:=lvl (Lib.trimRightS T [63,126,37]) (!(Lib.trimRightS T [63,126,37]==T)) (mkX x) (seT x)
theorem X7 {T u:aa} {k:Nat} (h:Body T u k) {x:TD} (hs:smT x):kM 20000000 T x=some (lvT T x):=by
 rw [XU h hs];unfold lvT mkX;rw [pi h,Fb h];simp
theorem uO {S:aa} {a:Nat} (h:a<=S.length) {r:DR} (n:cv S a=.inr r):∃A B u k,MkD A B (tdR r).2.2.2.2.2.1 (tdR r).2.2.2.2.2.2.1/\plR r=a+(mt A.1).length/\
  (S.drop a).take (enR r - a)=rawD A B r.1 r.2.1 r.2.2.1 (r.2.2.2.1:Int) (r.2.2.2.2.1:Int) r.2.2.2.2.2.1 r.2.2.2.2.2.2.1/\r.2.2.2.2.2.2.2.1=spM A B/\Body ((S.drop a).take (enR r - a)) u k/\
  kM 20000000 ((S.drop a).take (enR r - a)) (tdR r)=some (lvT ((S.drop a).take (enR r - a)) (tdR r))/\dc 20000000 ((S.drop a).take (enR r - a))=some (lvT ((S.drop a).take (enR r - a)) (tdR r)):=by
 obtain ⟨j,D,v,z⟩:=ip h n;obtain ⟨t,_⟩:=GH h n;obtain ⟨H,J,G,F,C,m',d',k0,k1,k2,f,ok⟩:=pC j D;obtain ⟨g,l,dg,x,s,m,d,M,P,e⟩:=r;have ok:ShD g l dg x s m d:=by
  unfold tdR at f;simp only [ba] at f;obtain ⟨rfl,rfl,rfl,hx,o,rfl,rfl,_⟩:=f;have hx:x=F:=by omega
  have o:s=C:=by omega
  subst hx o;exact ok.sh
 obtain ⟨A,B,mk,y,w,p⟩:=Kr t;have q:(rawD A B g l dg (x:Int) (s:Int) m d).length=e - a:=by
  have:=cj List.length p;simp only [bg,bN] at this;have:a<=e:=v;have:e<=S.length:=z;omega
 have c:(S.drop a).take (e - a)=rawD A B g l dg (x:Int) (s:Int) m d:=by rw [p,<-q,By]
 obtain ⟨u,k,b,E,_⟩:=H7 ok mk;refine ⟨A,B,u,k,mk,w,c,y,by rw [show enR (g,l,dg,x,s,m,d,M,P,e)=e from rfl,c];exact b,?_,?_⟩
 ·rw [show enR (g,l,dg,x,s,m,d,M,P,e)=e from rfl,c];exact X7 b j
 ·rw [show enR (g,l,dg,x,s,m,d,M,P,e)=e from rfl,c];obtain ⟨I,_,i⟩:=HT ok mk (S:=rawD A B g l dg (x:Int) (s:Int) m d) (a:=0) (post:=[]) (by simp) uY uY uY;rw [TX b i,E];unfold lvT mkX;rw [pi b,Fb b];simp only [decide_not];rfl
def mx (a b:Int):Int:=if a>b then a else b
def lvR (S:aa) (p:Nat) (r:DR):Int:=lvT ((S.drop p).take (enR r - p)) (tdR r)
theorem CM (u:aa) (b X:Bool) (c:Int):0<=lvl u b X c/\lvl u b X c<=2:=by
 unfold lvl
 repeat' split
 all_goals omega
theorem J0 (S:aa) (p:Nat) (r:DR):0<=lvR S p r/\lvR S p r<=2:=CM _ _ _ _
theorem bcT {x:TD} (h:smT x) (K:Int):ap10 (ig 20000000 K) x=some (sG K x):=wo h.1 h.2.1 h.2.2.1 h.2.2.2.1 h.2.2.2.2.1 h.2.2.2.2.2
theorem BX (n:Nat) (a:Int) (S:aa) (p:Int) (I:List TI) (K:Int) (D:TD) (KF:Int) (DF:TD) (KT:Int) (DT:TD) (e l:Bool) (lv:Int):
  cO n a S p I K D KF DF KT DT e l lv=some (K,D,KF,DF,KT,DT,e,l,mx a lv):=by
 unfold cO mx;rw [bD]
theorem JW (I:List TI) (K:Int) (D:TD) (KF:Int) (DF:TD) (KT:Int) (DT:TD) (e l:Bool) (lv:Int) {S:aa} {p:Nat} (h:p<=S.length) (d:S.length<100000):
  dp 20000000 I K D KF DF KT DT e l lv S (p:Int)=some (match cv S p with
   | .inl f=>.inl ((f.1:Int),(f.2.1:Int),K,D,KF,DF,KT,DT,e,l,lv,S,(f.2.2:Int))
   | .inr r=>.inr (tdR r,((plR r:Nat):Int),K,D,KF,DF,KT,DT,e,l,mx (lvR S p r) lv,S,((enR r:Nat):Int))):=by
 unfold dp;rw [tW _ _ _ h,Gm S p h d];cases a:cv S p with
 | inl f=>rfl
 | inr r=>
  obtain ⟨j,i,k,b⟩:=ip h a;obtain ⟨_,_,_,_,_,_,_,_,_,c,_⟩:=uO h a;rw [C7];simp only [obs,sm,ob];rw [show (d4 (d8 ((tdR r).1,(tdR r).2.1,(tdR r).2.2.1,(tdR r).2.2.2.1,(tdR r).2.2.2.2.1,(tdR r).2.2.2.2.2.1,(tdR r).2.2.2.2.2.2.1,(tdR r).2.2.2.2.2.2.2.1,(tdR r).2.2.2.2.2.2.2.2.1,(tdR r).2.2.2.2.2.2.2.2.2,((plR r:Nat):Int),S,((enR r:Nat):Int))))=((enR r:Nat):Int) from rfl,tW _ _ _ b];simp only [];have g:w64 (len (S.drop p) - len (S.drop (enR r)))=((enR r - p:Nat):Int):=by
   show IntKind.wrap .i64 (((S.drop p).length:Int) - ((S.drop (enR r)).length:Int))=_;rw [bN,bN,wrap_i64 _ (by omega) (by omega)];omega
  rw [g,ef (by rw [bN];omega)];simp only [bV];rw [show kM 20000000 ((S.drop p).take (enR r - p)) (iF ((tdR r).1,(tdR r).2.1,(tdR r).2.2.1,(tdR r).2.2.2.1,(tdR r).2.2.2.2.1,(tdR r).2.2.2.2.2.1,(tdR r).2.2.2.2.2.2.1,(tdR r).2.2.2.2.2.2.2.1,(tdR r).2.2.2.2.2.2.2.2.1,(tdR r).2.2.2.2.2.2.2.2.2,((plR r:Nat):Int),S,((enR r:Nat):Int)))=_ from c];simp only [BX,u9,u8,u7,u6,u5,u4,u3,u2];rfl
theorem Hk {x:TD} (h:smT x) (hc:cF x=0) (a K:Int) (D:TD) (KF:Int) (DF:TD) (KT:Int) (DT:TD) (e l:Bool) (lv:Int) (S:aa) (p:Int) (I:List TI):
  cN 20000000 x a K D KF DF KT DT e l lv S p I=some (if exT x=true then .inr (1,x) else .inl (a,11)):=by
 unfold cN;rw [bcT h,Gn,ae hc];cases exT x<;>rfl
noncomputable def toP (S:aa) (p:Nat) (KF:Int) (DF:TD) (lv:Int):(Nat×Nat)⊕(Int×TD×Int×Nat):=
 if KF=1/\p=S.length then .inr (3,d0,mx 1 lv,p)
 else if KF=1/\dts (S.drop p)=true then .inr (2,d0,mx 1 lv,p+2)
 else match cv S p with
  | .inl f=>.inl (f.1,f.2.1)
  | .inr r=>if exT (tdR r)=true then (if enR r<S.length\/ot KF DF 1 (tdR r)=0 then .inr (1,tdR r,mx (lvR S p r) (if KF=1 then lv else mx 1 lv),enR r) else .inl (plR r,11)) else .inl (plR r,11)
def VY (S:aa) (D:TD) (KF:Int) (DF:TD) (e l:Bool):(Nat×Nat)⊕(Int×TD×Int×Nat)->(Int×TD×Int×TD×Int×TD×Bool×Bool×Int×aa×Int)⊕(Int×Int×Int×TD×Int×TD×Int×TD×Bool×Bool×Int×aa×Int)->Prop
 | .inl f,y=>∃z,y=.inr ((f.1:Int),(f.2:Int),z)
 | .inr (KT,DT,lv,p),y=>y=.inl (2,D,KF,DF,KT,DT,e,l,lv,S,(p:Int))
theorem Hy {S:aa} {p:Nat} (h:p<=S.length):(peek (S.drop p)).2=decide (p<S.length):=by
 by_cases hp:p<S.length
 ·rw [am hp,bX (bf hp)];rfl
 ·rw [aq hp,js (by omega)];rfl
theorem SY (I:List TI) (K:Int) {DF:TD} (Q:smT DF) (KF:Int) (lv:Int) {S:aa} {p:Nat} (h:p<=S.length) (hS:S.length<100000):
  ∃y,fL 20000000 I K d0 KF DF 0 d0 false false lv S (p:Int)=some y/\VY S d0 KF DF false false (toP S p KF DF lv) y:=by
 have q:∀(l:Int) (t:l=if KF=1 then lv else mx 1 lv) (Z:¬(KF=1/\p=S.length)) (m:¬(KF=1/\dts (S.drop p)=true)),∃y,(obs (dp 20000000 I 2 d0 KF DF 0 d0 false false l S (p:Int)) (u13 λT A G P W x J O V E N H D=>(some (.inr (T,A,G,P,W,x,J,O,V,E,N,H,D)))) (u13 λL v g i d c u w j e k a b=>(obs (cN 20000000 L v g i d c u w j e k a b I) (u2 λR B=>(some (.inr (R,B,g,i,d,c,u,w,j,e,k,a,b)))) (u2 λn o=>(ob (bi 20000000 a b) (u2 λ_ M=>(cond (!M) (ob (ap10 (ap10 (iN 20000000 d) c n) o) λU=>(cond (U != 0) (ob (aQ 20000000 v 11 a b) (u2 λF z=>(some (.inr (F,z,g,i,d,c,n,o,j,e,k,a,b))))) (some (.inl (g,i,d,c,n,o,j,e,k,a,b))))) (some (.inl (g,i,d,c,n,o,j,e,k,a,b))))))))))=some y/\VY S d0 KF DF false false (toP S p KF DF lv) y:=by
  intro l t Z m;unfold toP;rw [JW I 2 d0 KF DF 0 d0 false false l h hS,ab Z,ab m];cases hr:cv S p with
  | inl f=>exact ⟨_,rfl,_,rfl⟩
  | inr r=>
   obtain ⟨X,c1,l1,Y⟩:=ip h hr;simp only [obs,sm,ob,u13,u12,u11,u10,u9,u8,u7,u6,u5,u4,u3,u2];rw [Hk X c1];cases hx:exT (tdR r)
   ·exact ⟨_,rfl,_,rfl⟩
   ·simp only [aL,qd _ _ _ Y,Hy Y];by_cases C:enR r<S.length
    ·rw [am C,ae (.inl C)];exact ⟨_,rfl,by rw [<-t];rfl⟩
    ·rw [aq C];simp only [il,ah];rw [M9 Q X];simp only [];by_cases hp:ot KF DF 1 (tdR r)=0
     ·rw [ae (.inr hp),show (ot KF DF 1 (tdR r) != 0)=false from by simp [hp]];exact ⟨_,rfl,by rw [<-t];rfl⟩
     ·rw [ab (by rintro (h | h)<;>contradiction),show (ot KF DF 1 (tdR r) != 0)=true from by simp [hp]];exact ⟨_,rfl,_,rfl⟩
 unfold fL;by_cases s:KF=1
 ·rw [show (KF==1)=true from by simp [s],ah,qd _ _ _ h];simp only [ob,u2,Hy h,BX];by_cases hp:p<S.length
  ·rw [am hp];simp only [ci,af];rw [nF _ _ _ _ h (by omega)];cases m:dts (S.drop p)
   ·rw [ab (show ¬(S.drop p).take [(46:UInt8),46].length=[46,46] from λh=>by unfold dts at m;rw [show (S.drop p).take 2=[46,46] from h] at m;cases m)];exact q lv (by rw [ae s]) (by omega) (by rw [m];simp)
   ·rw [ae (show (S.drop p).take [(46:UInt8),46].length=[46,46] from eq_of_beq m)];refine ⟨_,rfl,?_⟩;unfold toP;rw [ab (by omega),ae ⟨s,m⟩];rfl
  ·rw [aq hp];refine ⟨_,rfl,?_⟩;unfold toP;rw [ae ⟨s,by omega⟩];rfl
 ·rw [show (KF==1)=false from by simp [s],af,BX];simp only [ob,u9,u8,u7,u6,u5,u4,u3,u2];exact q (mx 1 lv) (by rw [ab s]) (by simp [s]) (by simp [s])
noncomputable def toX (S:aa) (p:Nat) (KF:Int) (DF:TD) (lv:Int):(Nat×Nat)⊕(Int×TD×Int):=match toP S p KF DF lv with
 | .inl f=>.inl f
 | .inr (KT,DT,L,q)=>if q<S.length then .inl (q,5) else .inr (KT,DT,L)
noncomputable def ij (S:aa):(Nat×Nat)⊕(Int×TD×Int×TD×Int×TD×Int)⊕(Int×Bool×Bool×List TI):=
 if S.head?=some 91\/S.head?=some 123 then (match yk S with | .inl f=>.inl f | .inr q=>.inr (.inr q))
 else if S.head?=some 47 then (match toX S 1 3 d0 0 with | .inl f=>.inl f | .inr (KT,DT,L)=>.inr (.inl (2,d0,3,d0,KT,DT,L)))
 else if dts S=true then (if (S.drop 2).head?=some 47 then (match toX S 3 2 d0 0 with | .inl f=>.inl f | .inr (KT,DT,L)=>.inr (.inl (2,d0,2,d0,KT,DT,L))) else .inl (2,5))
 else match cv S 0 with
  | .inl f=>.inl (f.1,f.2.1)
  | .inr r=>if (S.drop (enR r)).head?=some 47 then (if exT (tdR r)=true then (match toX S (enR r+1) 1 (tdR r) (lvR S 0 r) with | .inl f=>.inl f | .inr (KT,DT,L)=>.inr (.inl (2,d0,1,tdR r,KT,DT,L))) else .inl (plR r,11))
   else if enR r<S.length then .inl (enR r,5) else .inr (.inl (1,tdR r,0,d0,0,d0,lvR S 0 r))
def Yq:(Nat×Nat)⊕(Int×TD×Int×TD×Int×TD×Int)⊕(Int×Bool×Bool×List TI)->(Int×TD×Int×TD×Int×TD×Bool×Bool×Int×Int×Int×List TI)⊕(Int×TD×Int×TD×Int×TD×Nat×Nat×Bool×Bool×Int×Int×Int×List TI)
 | .inl f=>.inl (0,d0,0,d0,0,d0,false,false,0,(f.1:Int),(f.2:Int),[])
 | .inr (.inl (K,D,KF,DF,KT,DT,L))=>.inl (K,D,KF,DF,KT,DT,false,false,L,0,0,[])
 | .inr (.inr (K,e,l,I))=>.inr (K,d0,0,d0,0,d0,I.length,I.length,e,l,2,0,0,I)
theorem n7 {S:aa} {p:Nat} (h:p<=S.length) {f:Nat×Nat×Nat} (a:cv S p=.inl f):f.2.1≠0:=re (k:=f.1) (E:=f.2.1) (p:=f.2.2) h a
theorem UD {S:aa} {p:Nat} (h:p<=S.length) {KF:Int} {DF:TD} {lv:Int} {KT:Int} {DT:TD} {L:Int} {q:Nat} (a:toP S p KF DF lv=.inr (KT,DT,L,q)):q<=S.length/\smT DT:=by
 unfold toP at a;split at a
 ·cases a;exact ⟨h,nR⟩
 ·split at a
  ·rename_i e;cases a;exact ⟨lw e.2,nR⟩
  ·cases b:cv S p with
   | inl f=>rw [b] at a;cases a
   | inr r=>
    obtain ⟨d,_,_,c⟩:=ip h b;rw [b] at a;simp only [] at a;split at a
    ·split at a
     ·cases a;exact ⟨c,d⟩
     ·cases a
    ·cases a
theorem BB {S:aa} {p:Nat} (h:p<=S.length) {KF:Int} {DF:TD} {lv:Int} {f:Nat×Nat} (a:toP S p KF DF lv=.inl f):f.2≠0:=by
 unfold toP at a;split at a
 ·cases a
 ·split at a
  ·cases a
  ·cases b:cv S p with
   | inl g=>rw [b] at a;cases a;exact n7 h b
   | inr r=>
    rw [b] at a;simp only [] at a;split at a
    ·split at a
     ·cases a
     ·cases a;simp
    ·cases a;simp
theorem Ez (l:aa) (c:UInt8) (hc:c≠0):((peek l).1==((c.toNat:Nat):Int))=decide (l.head?=some c):=by
 have:=wY l c hc;cases l with
 | nil=>exact this
 | cons a r=>exact this
theorem IF {S:aa} {p:Nat} (h:p<=S.length) (a:S.length<100000) (c:UInt8):aC 20000000 [c] S (p:Int)=some (decide ((S.drop p).head?=some c),S,((if (S.drop p).head?=some c then p+1 else p:Nat):Int)):=by
 rw [nF _ _ _ _ h (by omega)];simp only [tk1];by_cases hc:(S.drop p).head?=some c
 ·rw [ae hc,ae hc,am hc];rfl
 ·rw [ab hc,ab hc,aq hc]
theorem NK {S:aa} {p:Nat} (h:p<=S.length) (b:S.length<100000):aC 20000000 [46,46] S (p:Int)=some (dts (S.drop p),S,((if dts (S.drop p)=true then p+2 else p:Nat):Int)):=by
 rw [nF _ _ _ _ h (by omega)];cases a:dts (S.drop p)
 ·rw [ab (show ¬(S.drop p).take [(46:UInt8),46].length=[46,46] from λh=>by unfold dts at a;rw [show (S.drop p).take 2=[46,46] from h] at a;cases a)];rfl
 ·rw [ae (show (S.drop p).take [(46:UInt8),46].length=[46,46] from eq_of_beq a)];rfl
theorem JA {S:aa} {p:Nat} (h:p<=S.length) (c:S.length<100000):bZ 20000000 [47] S (p:Int)=some (if (S.drop p).head?=some 47 then .inl (S,((p+1:Nat):Int)) else .inr ((p:Int),5,S,(p:Int))):=by
 rw [AO _ _ _ _ h (by omega) (by simp) (by simp)];simp only [tk1];by_cases hc:(S.drop p).head?=some 47
 ·rw [ae hc,ae hc];rfl
 ·rw [ab hc,ab hc];have:lcp (S.drop p) [47]=0:=by
   cases b:S.drop p with
   | nil=>rfl
   | cons a r=>
    rw [b] at hc;simp only [lcp];rw [show (a==47)=false from by rw [aK];rintro rfl;exact hc rfl];rfl
  rw [this];rfl
def VO (S:aa):(Nat×Nat)⊕(Int×TD×Int×TD×Int×TD×Int×Nat)⊕(Int×Bool×Bool×List TI×Nat)->((Int×Int×Int×TD×Int×TD×Int×TD×Bool×Bool×Int×aa×Int)⊕(Int×TD×Int×TD×Int×TD×Nat×Nat×Bool×Bool×Int×aa×Int×List TI)⊕(Int×TD×Int×TD×Int×TD×Bool×Bool×Int×aa×Int)⊕(Int×TD×Int×TD×Int×TD×Bool×Bool×Int×aa×Int×List TI))->Prop
 | .inl f,y=>∃z,y=.inl ((f.1:Int),(f.2:Int),z)
 | .inr (.inl (K,D,KF,DF,KT,DT,L,p)),y=>y=.inr (.inr (.inl (K,D,KF,DF,KT,DT,false,false,L,S,(p:Int))))\/y=.inr (.inr (.inr (K,D,KF,DF,KT,DT,false,false,L,S,(p:Int),[])))
 | .inr (.inr (K,e,l,I,p)),y=>y=.inr (.inl (K,d0,0,d0,0,d0,I.length,I.length,e,l,2,S,(p:Int),I))
noncomputable def Av (S:aa):(Nat×Nat)⊕(Int×TD×Int×TD×Int×TD×Int×Nat)⊕(Int×Bool×Bool×List TI×Nat):=
 if S.head?=some 91\/S.head?=some 123 then (match pp S 0 with | .inl f=>.inl (f.1,f.2.1) | .inr q=>.inr (.inr q))
 else if S.head?=some 47 then (match toP S 1 3 d0 0 with | .inl f=>.inl f | .inr (KT,DT,L,q)=>.inr (.inl (2,d0,3,d0,KT,DT,L,q)))
 else if dts S=true then (if (S.drop 2).head?=some 47 then (match toP S 3 2 d0 0 with | .inl f=>.inl f | .inr (KT,DT,L,q)=>.inr (.inl (2,d0,2,d0,KT,DT,L,q))) else .inl (2,5))
 else match cv S 0 with
  | .inl f=>.inl (f.1,f.2.1)
  | .inr r=>if (S.drop (enR r)).head?=some 47 then (if exT (tdR r)=true then (match toP S (enR r+1) 1 (tdR r) (lvR S 0 r) with | .inl f=>.inl f | .inr (KT,DT,L,q)=>.inr (.inl (2,d0,1,tdR r,KT,DT,L,q))) else .inl (plR r,11))
   else .inr (.inl (1,tdR r,0,d0,0,d0,lvR S 0 r,enR r))
theorem mx0 {a:Int} (h:0<=a):mx a 0=a:=by unfold mx;split<;>omega
theorem SC {S:aa} (i:S.length<100000):∃y,iu 20000000 [] 0 d0 0 d0 0 d0 false false 0 S 0=some y/\VO S (Av S) y:=by
 have z0:(0:Int)=((0:Nat):Int):=rfl;have P:=qd 20000000 S 0 (ft _);rw [bV,show ((0:Nat):Int)=0 from rfl] at P;have T:=R1 (S:=S) (a:=0) (ft _) i;rw [show ((0:Nat):Int)=0 from rfl] at T;have Q:=IF (S:=S) (p:=0) (ft _) i 47;rw [bV,show ((0:Nat):Int)=0 from rfl] at Q;have O:=NK (S:=S) (p:=0) (ft _) i;rw [bV,show ((0:Nat):Int)=0 from rfl] at O;have R:=JW [] 0 d0 0 d0 0 d0 false false 0 (S:=S) (p:=0) (ft _) i;rw [show ((0:Nat):Int)=0 from rfl] at R;have B:((peek S).1==91)=decide (S.head?=some 91):=Ez S 91 (by decide);have l:((peek S).1==123)=decide (S.head?=some 123):=Ez S 123 (by decide);have set:(S.head?=some 91\/S.head?=some 123)->∃y,(obs (nI 20000000 S 0) (u4 λv1 v2 v3 v4=>(some (.inl (v1,v2,0,d0,0,d0,0,d0,false,false,0,v3,v4)))) (u13 λU W Y X v9 E A t w u n k o=>(ob (f7 20000000 2 n k o U W Y X v9 E A t w u 0) (u11 λG I x J H v C F K s D=>(some (.inr (.inl (G,I,x,J,H,v,C,F,K,s,D,n,k,o))))))))=some y/\VO S (Av S) y:=by
  intro h;rw [T];unfold Av;rw [ae h];cases pp S 0 with
  | inl f=>exact ⟨_,rfl,_,rfl⟩
  | inr q=>exact ⟨_,rfl,rfl⟩
 unfold iu;rw [P];simp only [ob,u2,B,l];by_cases g:S.head?=some 91
 ·rw [am g,ah];exact set (.inl g)
 rw [aq g,af];by_cases d:S.head?=some 123
 ·rw [am d,ah];exact set (.inr d)
 rw [aq d,af,Q];clear set;unfold Av;rw [ab (show ¬(S.head?=some 91\/S.head?=some 123) from λh=>h.elim g d)];simp only [u3,u2];by_cases e:S.head?=some 47
 ·simp only [am e,ae e,ah];have M:1<=S.length:=by
   have:=dW (S:=S) (p:=0) (c:=47) (by rw [bV];exact e);omega
  obtain ⟨y,m,b⟩:=SY [] 0 nR 3 0 (S:=S) (p:=1) M i;rw [show (((0+1:Nat)):Int)=((1:Nat):Int) from rfl,m];cases j:toP S 1 3 d0 0 with
  | inl f=>
   rw [j] at b;obtain ⟨z,rfl⟩:=b;exact ⟨_,rfl,_,rfl⟩
  | inr q=>
   rw [j] at b;obtain ⟨KT,DT,L,q⟩:=q;subst b;exact ⟨_,rfl,.inl rfl⟩
 ·simp only [aq e,ab e,af];rw [show (((0:Nat)):Int)=0 from rfl,O];simp only [];cases Z:dts S
  ·rw [ab (by simp),ab (by simp),af,show (((0:Nat)):Int)=0 from rfl,R];cases V:cv S 0 with
   | inl f=>exact ⟨_,rfl,_,rfl⟩
   | inr r=>
    obtain ⟨N,c1,l1,l2⟩:=ip (ft _) V;simp only [obs,sm,ob,u13,u12,u11,u10,u9,u8,u7,u6,u5,u4,u3,u2];rw [IF l2 i,mx0 (J0 S 0 r).1];simp only [];by_cases hs:(S.drop (enR r)).head?=some 47
    ·simp only [am hs,ae hs,ci,af];rw [Hk N c1];cases hx:exT (tdR r)
     ·exact ⟨_,rfl,_,rfl⟩
     ·obtain ⟨y,m,b⟩:=SY [] 0 N 1 (lvR S 0 r) (S:=S) (p:=enR r+1) (dW hs) i;simp only [aL];rw [m];cases j:toP S (enR r+1) 1 (tdR r) (lvR S 0 r) with
      | inl f=>
       rw [j] at b;obtain ⟨z,rfl⟩:=b;exact ⟨_,rfl,_,rfl⟩
      | inr q=>
       rw [j] at b;obtain ⟨KT,DT,L,q⟩:=q;subst b;exact ⟨_,rfl,.inl rfl⟩
    ·simp only [aq hs,ab hs];exact ⟨_,rfl,.inr rfl⟩
  ·rw [ae rfl,ae rfl,ah];have M:2<=S.length:=by
    have:=lw (S:=S) (p:=0) (by rw [bV];exact Z);omega
   rw [show (((0+2:Nat)):Int)=((2:Nat):Int) from rfl,JA M i];by_cases hs:(S.drop 2).head?=some 47
   ·simp only [ae hs];obtain ⟨y,m,b⟩:=SY [] 0 nR 2 0 (S:=S) (p:=3) (dW hs) i;rw [show (((2+1:Nat)):Int)=((3:Nat):Int) from rfl];simp only [obs,sm,ob,u2,m];cases j:toP S 3 2 d0 0 with
    | inl f=>
     rw [j] at b;obtain ⟨z,rfl⟩:=b;exact ⟨_,rfl,_,rfl⟩
    | inr q=>
     rw [j] at b;obtain ⟨KT,DT,L,q⟩:=q;subst b;exact ⟨_,rfl,.inl rfl⟩
   ·simp only [ab hs];exact ⟨_,rfl,_,rfl⟩
theorem Nl {S:aa} {f:Nat×Nat} (a:Av S=.inl f):f.2≠0:=by
 unfold Av at a;split at a
 ·cases b:pp S 0 with
  | inl g=>rw [b] at a;cases a;exact xu (ft _) b
  | inr q=>rw [b] at a;cases a
 ·split at a
  ·rename_i h;cases b:toP S 1 3 d0 0 with
   | inl g=>
    rw [b] at a;cases a;exact BB (dW (S:=S) (p:=0) (by rw [bV];exact h)) b
   | inr q=>rw [b] at a;cases a
  ·split at a
   ·split at a
    ·rename_i h;cases b:toP S 3 2 d0 0 with
     | inl g=>rw [b] at a;cases a;exact BB (dW h) b
     | inr q=>rw [b] at a;cases a
    ·cases a;simp
   ·cases b:cv S 0 with
    | inl g=>rw [b] at a;cases a;exact n7 (ft _) b
    | inr r=>
     rw [b] at a;simp only [] at a;split at a
     ·rename_i h;split at a
      ·cases c:toP S (enR r+1) 1 (tdR r) (lvR S 0 r) with
       | inl g=>rw [c] at a;cases a;exact BB (dW h) c
       | inr q=>rw [c] at a;cases a
      ·cases a;simp
     ·cases a
theorem EY (S:aa):ij S=match Av S with
  | .inl f=>.inl f
  | .inr (.inl (K,D,KF,DF,KT,DT,L,q))=>if q<S.length then .inl (q,5) else .inr (.inl (K,D,KF,DF,KT,DT,L))
  | .inr (.inr (K,e,l,I,q))=>if q<S.length then .inl (q,5) else .inr (.inr (K,e,l,I)):=by
 unfold ij Av yk toX;split
 ·cases pp S 0 with
  | inl f=>rfl
  | inr q=>
   obtain ⟨_,_,_,_,p⟩:=q;by_cases hp:p<S.length<;>simp [hp]
 ·split
  ·cases toP S 1 3 d0 0 with
   | inl f=>rfl
   | inr q=>
    obtain ⟨_,_,_,p⟩:=q;by_cases hp:p<S.length<;>simp [hp]
  ·split
   ·split
    ·cases toP S 3 2 d0 0 with
     | inl f=>rfl
     | inr q=>
      obtain ⟨_,_,_,p⟩:=q;by_cases hp:p<S.length<;>simp [hp]
    ·rfl
   ·cases cv S 0 with
    | inl f=>rfl
    | inr r=>
     simp only [];split
     ·split
      ·cases toP S (enR r+1) 1 (tdR r) (lvR S 0 r) with
       | inl f=>rfl
       | inr q=>
        obtain ⟨_,_,_,p⟩:=q;by_cases hp:p<S.length<;>simp [hp]
      ·rfl
     ·rfl
theorem Pq {S:aa} (d:S.length<=16384):nz 20000000 S=some (Yq (ij S)):=by
 obtain ⟨y,c,a⟩:=SC (S:=S) (by omega);unfold nz eD;rw [show decide (len S>16384)=false from aq (by show ¬(16384:Int)<((S.length:Nat):Int);omega),af,c,EY];cases b:Av S with
 | inl f=>
  have g:=Nl b;rw [b] at a;obtain ⟨z,rfl⟩:=a;simp only [obs,sm,ob,u13,u12,u11,u10,u9,u8,u7,u6,u5,u4,u3,u2];rw [show (((f.2:Nat):Int) != 0)=true from by simp;omega];rfl
 | inr q=>
  rw [b] at a;cases q with
  | inl q=>
   obtain ⟨K,D,KF,DF,KT,DT,L,p⟩:=q;simp only [];rcases a with rfl | rfl
   ·simp only [obs,sm,ob,u13,u12,u11,u10,u9,u8,u7,u6,u5,u4,u3,u2];by_cases hp:p<S.length
    ·rw [ae hp,am (show (p:Int)<((S.length:Nat):Int) by omega)];rfl
    ·rw [ab hp,aq (show ¬(p:Int)<((S.length:Nat):Int) by omega)];rfl
   ·simp only [obs,sm,ob,u14,u13,u12,u11,u10,u9,u8,u7,u6,u5,u4,u3,u2];by_cases hp:p<S.length
    ·rw [ae hp,am (show (p:Int)<((S.length:Nat):Int) by omega)];rfl
    ·rw [ab hp,aq (show ¬(p:Int)<((S.length:Nat):Int) by omega)];rfl
  | inr q=>
   obtain ⟨K,e,l,I,p⟩:=q;subst a;simp only [obs,sm,ob,u16,u15,u14,u13,u12,u11,u10,u9,u8,u7,u6,u5,u4,u3,u2];by_cases hp:p<S.length
   ·rw [ae hp,am (show (p:Int)<((S.length:Nat):Int) by omega)];rfl
   ·rw [ab hp,aq (show ¬(p:Int)<((S.length:Nat):Int) by omega)];rfl
theorem N6 (a b:Int):mx a b=mx b a:=by unfold mx;split<;>split<;>omega
theorem MS (a b:Int):(cond (decide (a>b)) a b)=mx a b:=by unfold mx;rw [bD]
theorem cut2 {S:aa} {p:Nat} (h:p+1<S.length):((List.drop p (List.take (p+2) S))==([46,46]:aa))=dts (S.drop p):=by
 unfold dts;rw [nv]
theorem D7 {S:aa} {p:Nat} (h:¬p+1<S.length):dts (S.drop p)=false:=by
 cases a:dts (S.drop p)
 ·rfl
 ·have:=lw a;omega
def WZ (KF:Int) (DF:TD):(Nat×Nat)⊕(Int×TD×Int)->(Int×TD×Int×TD×Int×TD×Bool×Bool×Int×Int×Int)⊕(Int×TD×Int×TD×Int×TD×Bool×Bool×Int×Int×Int×List TI)
 | .inl f=>.inr (0,d0,0,d0,0,d0,false,false,0,(f.1:Int),(f.2:Int),[])
 | .inr (KT,DT,L)=>.inl (2,d0,KF,DF,KT,DT,false,false,L,0,0)
theorem XR {S:aa} {p:Nat} (h:p<=S.length) (hS:S.length<100000) {KF:Int} {DF:TD} (hDF:smT DF) (lv b:Int) (g:b=if KF=1 then lv else mx 1 lv) (J:List TI):
  nA 20000000 S (p:Int) 0 d0 KF DF 0 d0 false false b J=some (WZ KF DF (toX S p KF DF lv)):=by
 have i:(¬(KF=1/\p=S.length))->(¬(KF=1/\dts (S.drop p)=true))->(ob (eN 20000000 S (p:Int)) λa=>(cond ((d4 (d8 a)).2 != 0) (ob (br 20000000 (d4 (d8 a)).1 (d4 (d8 a)).2) (u12 λE N v39 o l R P s U k v Z=>(some (.inr (E,N,v39,o,l,R,P,s,U,k,v,Z))))) (ob (ap10 (aP 20000000) (iF a)) λu=>(cond (u==0) (ob (br 20000000 (d8 a).2.2.1 11) (u12 λv50 v51 K v53 D q V v57 v58 Y F v61=>(some (.inr (v50,v51,K,v53,D,q,V,v57,v58,Y,F,v61))))) (cond (decide ((d4 (d8 a)).1<(len S))) (ob (br 20000000 (d4 (d8 a)).1 5) (u12 λv62 I X x v66 v67 W v69 z j v72 v73=>(some (.inr (v62,I,X,x,v66,v67,W,v69,z,j,v72,v73))))) (ob (ap10 (ap10 (eT 20000000 KF) DF 1) (iF a)) λM=>(cond (M != 0) (ob (br 20000000 (d8 a).2.2.1 11) (u12 λO w L v78 T v80 n t Q G m v86=>(some (.inr (O,w,L,v78,T,v80,n,t,Q,G,m,v86))))) (ob (bx (List.length S) (p:Int)) λH=>(ob (dc 20000000 (List.drop H (List.take (List.length S) S))) λB=>(some (.inl (2,d0,KF,DF,1,(iF a),false,false,(mx B b),0,0)))))))))))) =
   some (WZ KF DF (toX S p KF DF lv)):=by
  intro e d;obtain ⟨A,hA⟩:=sD S p h hS;rw [hA];unfold toX toP;rw [ab e,ab d];cases y:cv S p with
  | inl f=>
   have hE:=n7 h y;rw [Af];simp only [ob];show cond (((f.2.1:Nat):Int) != 0) _ _=_;rw [show (((f.2.1:Nat):Int) != 0)=true from by simp;omega];rfl
  | inr r=>
   obtain ⟨s1,c1,l1,l2⟩:=ip h y;obtain ⟨_,_,_,_,_,_,_,_,_,_,hv⟩:=uO h y;rw [vp];simp only [ob];show cond ((0:Int) != 0) _ (ob (ap10 (aP 20000000) (tdR r)) _)=_;rw [reT s1];simp only [dF,af,ob];cases hx:exT (tdR r)
   ·rfl
   ·simp only [aL,show ((1:Int)==0)=false from rfl,af];show cond (decide (((enR r:Nat):Int)<len S)) _ (ob (ap10 (ap10 (eT 20000000 KF) DF 1) (tdR r)) _)=_;by_cases C:enR r<S.length
    ·rw [am (show ((enR r:Nat):Int)<len S by show ((enR r:Nat):Int)<((S.length:Nat):Int);omega),ae (.inl C)];simp only [ae C];rfl
    ·rw [aq (show ¬((enR r:Nat):Int)<len S by show ¬((enR r:Nat):Int)<((S.length:Nat):Int);omega),af,Nk hDF s1];simp only [ob];by_cases hp:ot KF DF 1 (tdR r)=0
     ·rw [ae (.inr hp),show (ot KF DF 1 (tdR r) != 0)=false from by simp [hp],af,ef h];simp only [ab C,ma];have e1:(S.drop p).take (enR r - p)=S.drop p:=by
       rw [jd];rw [bN];omega
      rw [e1] at hv;rw [hv];simp only [<-g];unfold lvR;rw [e1];rfl
     ·rw [ab (by rintro (h | h)<;>contradiction),show (ot KF DF 1 (tdR r) != 0)=true from by simp [hp]];rfl
 unfold nA;have hj3:km 20000000 S (p:Int) b (KF==1) J d0 KF DF 0 d0 false false ([]:List TI)=some (S,(p:Int),b,KF==1,decide (KF=1/\p=S.length),J,d0,KF,DF,0,d0,false,false,[]):=by
  unfold km;by_cases c:KF=1
  ·rw [show (KF==1)=true from by simp [c],ah,show (((p:Nat):Int)==len S)=decide (p=S.length) from natB p S.length];simp [c]
  ·rw [show (KF==1)=false from by simp [c],af,aq (λh=>c h.1)]
 rw [hj3];simp only [ob,u14,u13,u12,u11,u10,u9,u8,u7,u6,u5,u4,u3,u2,MS];by_cases e:KF=1/\p=S.length
 ·rw [am e,ah];unfold toX toP;rw [ae e];simp only [];rw [ab (by omega),g,ae e.1,N6];rfl
 ·rw [aq e,af];have hj7:kq 20000000 S (p:Int) b (KF==1) J d0 KF DF 0 d0 false false ([]:List TI)=some (S,(p:Int),b,decide (KF=1/\dts (S.drop p)=true),J,d0,KF,DF,0,d0,false,false,[]):=by
   unfold kq;by_cases c:KF=1
   ·rw [show (KF==1)=true from by simp [c],ah,show w64 (((p:Nat):Int)+1)=((p+1:Nat):Int) from rf_w 1 (by omega),show w64 (((p:Nat):Int)+2)=((p+2:Nat):Int) from rf_w 2 (by omega)];by_cases hp:p+1<S.length
    ·rw [am (show ((p+1:Nat):Int)<len S by show ((p+1:Nat):Int)<((S.length:Nat):Int);omega),ah,ef (by omega)];simp only [ob];rw [ef (by omega)];simp only [cut2 hp];rw [c];cases dts (S.drop p)<;>simp
    ·rw [aq (show ¬((p+1:Nat):Int)<len S by show ¬((p+1:Nat):Int)<((S.length:Nat):Int);omega),af,D7 hp];simp
   ·rw [show (KF==1)=false from by simp [c],af,aq (λh=>c h.1)]
  rw [hj7];simp only [u13,u12,u11,u10,u9,u8,u7,u6,u5,u4,u3,u2];by_cases d:KF=1/\dts (S.drop p)=true
  ·have hl:=lw d.2;rw [am d,ah,show w64 (((p:Nat):Int)+2)=((p+2:Nat):Int) from rf_w 2 (by omega)];unfold toX toP;rw [ab e,ae d];simp only [];by_cases hp:p+2<S.length
   ·rw [am (show ((p+2:Nat):Int)<len S by show ((p+2:Nat):Int)<((S.length:Nat):Int);omega),ae hp];rfl
   ·rw [aq (show ¬((p+2:Nat):Int)<len S by show ¬((p+2:Nat):Int)<((S.length:Nat):Int);omega),ab hp,g,ae d.1,N6];rfl
  ·rw [aq d,af];exact i e d
def Px:(Nat×Nat)⊕(Int×TD×Int×TD×Int×TD×Int)⊕(Int×Bool×Bool×List TI)->Int×TD×Int×TD×Int×TD×Bool×Bool×Int×Int×Int×List TI
 | .inl f=>(0,d0,0,d0,0,d0,false,false,0,(f.1:Int),(f.2:Int),[])
 | .inr (.inl (K,D,KF,DF,KT,DT,L))=>(K,D,KF,DF,KT,DT,false,false,L,0,0,[])
 | .inr (.inr (K,e,l,I))=>(K,d0,0,d0,0,d0,e,l,2,0,0,I)
theorem Ni {S:aa} {p:Nat} (h:p+1<=S.length) (d:S.length<100000) {KF:Int} {DF:TD} (b:smT DF) (lv a:Int) (c:a=if KF=1 then lv else mx 1 lv) (I J:List TI):
  gU 20000000 S a (p:Int) KF DF I J=some (match toX S (p+1) KF DF lv with
   | .inl f=>(0,(f.1:Int),(f.2:Int),0,d0,0,d0,0,d0,false,false,[])
   | .inr (KT,DT,L)=>(L,0,0,2,d0,KF,DF,KT,DT,false,false,J)):=by
 unfold gU;rw [show w64 (((p:Nat):Int)+1)=((p+1:Nat):Int) from rf_w 1 (by omega),XR h d b lv a c J];cases toX S (p+1) KF DF lv with
 | inl f=>rfl
 | inr q=>rfl
theorem Ny {S:aa} {p:Nat} (lv KF:Int) (DF:TD) (I J:List TI):dS 20000000 S lv (p:Int) KF DF I J=some (S,lv,(p:Int),!decide ((S.drop p).head?=some 47),KF,DF,I,J):=by
 unfold dS;by_cases hp:p<S.length
 ·have a:=bf hp;rw [aq (show ¬((p:Nat):Int)>=len S by show ¬((p:Nat):Int)>=((S.length:Nat):Int);omega),af,dI a,bX a];simp only [ob,o5,au];rw [show (((S[p].toNat:Nat):Int) != 47)=!decide (S[p]=47) from cj _ (kP S[p] 47 (by decide))]
 ·rw [am (show ((p:Nat):Int)>=len S by show ((p:Nat):Int)>=((S.length:Nat):Int);omega),js (by omega)];rfl
theorem Jx {S:aa} (H:S.length<=16384):iU 20000000 S=some (Px (ij S)):=by
 unfold iU;rw [show decide (len S>16384)=false from aq (by show ¬(16384:Int)<((S.length:Nat):Int);omega),af];have v:iJ 20000000 S ([]:List TI)=some (S,decide (S.head?=some 91\/S.head?=some 123),[]):=by
  unfold iJ;cases S with
  | nil=>rfl
  | cons c r=>
   rw [show ((c::r)==([]:aa))=false from rfl];simp only [il,ah,ob,show sx (c::r) (0:Int)=some c from rfl,o5,au];rw [show (((c.toNat:Nat):Int)==91)=decide (c=91) from kP c 91 (by decide),show (((c.toNat:Nat):Int)==123)=decide (c=123) from kP c 123 (by decide)];by_cases h:c=91
   ·simp [h]
   ·simp [h]
 rw [v];simp only [ob,u3,u2];unfold ij;by_cases g:S.head?=some 91\/S.head?=some 123
 ·rw [am g,ae g,ah];have k:=SQ (S:=S) (a:=0) (by omega) (by omega);rw [show ((0:Nat):Int)=0 from rfl] at k;rw [k];unfold yk;cases h:pp S 0 with
  | inl f=>
   have E:=xu (by omega) h;simp only [N3,u12,u11,u10,u9,u8,u7,u6,u5,u4,u3,u2];rw [show (((f.2.1:Nat):Int) != 0)=true from by simp;omega];rfl
  | inr q=>
   obtain ⟨K,e,l,I,p⟩:=q;simp only [N3,u12,u11,u10,u9,u8,u7,u6,u5,u4,u3,u2,dF,af];show cond (decide ((p:Int)<len S)) _ _=_;by_cases hp:p<S.length
   ·rw [am (show (p:Int)<len S by show (p:Int)<((S.length:Nat):Int);omega)];simp only [ae hp];rfl
   ·rw [aq (show ¬(p:Int)<len S by show ¬(p:Int)<((S.length:Nat):Int);omega)];simp only [ab hp];rfl
 rw [aq g,ab g,af];have s:gQ 20000000 S ([]:List TI) ([]:List TI)=some (S,dts S,[],[]):=by
  unfold gQ;by_cases h:1<S.length
  ·have w:bx S.length (2:Int)=some 2:=ef (i:=2) (by omega);rw [show decide (len S>1)=true from am (by show (1:Int)<((S.length:Nat):Int);omega),ah,w];rfl
  ·rw [show decide (len S>1)=false from aq (by show ¬(1:Int)<((S.length:Nat):Int);omega),af];have:=D7 (S:=S) (p:=0) (by omega);rw [bV] at this;rw [this]
 rw [s];simp only [u4,u3,u2];unfold jM;have o:gR 20000000 S ([]:List TI) ([]:List TI)=some (S,decide (S.head?=some 47),[],[]):=by
  unfold gR;cases S with
  | nil=>rfl
  | cons c r=>
   rw [show ((c::r)==([]:aa))=false from rfl];simp only [il,ah,ob,show sx (c::r) (0:Int)=some c from rfl,o5,au];rw [show (((c.toNat:Nat):Int)==47)=decide (c=47) from kP c 47 (by decide)]
 rw [o];cases C:dts S
 ·simp only [af,ob,u4,u3,u2,bv,aB];unfold jL;by_cases j:S.head?=some 47
  ·have F:1<=S.length:=by
    have:=dW (S:=S) (p:=0) (c:=47) (by rw [bV];exact j);omega
   have b:=Ny (S:=S) (p:=0) 1 3 d0 [] [];rw [bV,am j,show ((0:Nat):Int)=0 from rfl] at b;have d:=Ni (S:=S) (p:=0) F (by omega) nR (KF:=3) 0 1 rfl [] [];rw [show ((0:Nat):Int)=0 from rfl] at d;rw [am j,ae j];simp only [ah,obs,sm,ob,u7,u6,u5,u4,u3,u2,b,ci,af,u8,d];rw [show (0+1)=1 from rfl];cases toX S 1 3 d0 0 with
   | inl f=>rfl
   | inr q=>rfl
  ·rw [aq j,ab j];obtain ⟨A,y⟩:=sD S 0 (by omega) (by omega);rw [show ((0:Nat):Int)=0 from rfl] at y;rw [y];cases k:cv S 0 with
   | inl f=>
    have E:=n7 (ft _) k;rw [Af];simp only [af,ob];rw [show ((d4 (d8 ((false,false,([]:aa),(0:Int),(0:Int),([]:aa),([]:aa),(0:Int),(0:Int),(0:Int),A,S,(f.1:Int),(f.2.1:Int))))).2 != 0)=true from by show (((f.2.1:Nat):Int) != 0)=true;simp;omega];rfl
   | inr r=>
    obtain ⟨x,J,G,D⟩:=ip (ft _) k;obtain ⟨_,_,_,_,_,_,_,_,_,_,B⟩:=uO (ft _) k;rw [bV,oM] at B;have hv':dc 20000000 (S.take (enR r))=some (lvR S 0 r):=by
     unfold lvR;rw [bV,oM];exact B
    rw [vp];simp only [af,ob];show obs (obs (cond ((0:Int) != 0) _ (ob (bx S.length ((enR r:Nat):Int)) _)) _ _) _ _=_;rw [ef D];simp only [dF,af,ob,bV,hv'];rw [show ((d4 (d8 ((tdR r).1,(tdR r).2.1,(tdR r).2.2.1,(tdR r).2.2.2.1,(tdR r).2.2.2.2.1,(tdR r).2.2.2.2.2.1,(tdR r).2.2.2.2.2.2.1,(tdR r).2.2.2.2.2.2.2.1,(tdR r).2.2.2.2.2.2.2.2.1,(tdR r).2.2.2.2.2.2.2.2.2,((plR r:Nat):Int),S,((enR r:Nat):Int),(0:Int)))).1==len S)=decide (enR r=S.length) from natB _ _];by_cases u:enR r=S.length
    ·have n:(S.drop (enR r)).head?=none:=by rw [u,sT];rfl
     rw [am u,n];simp only [reduceCtorEq,aB];rw [ab (by omega)];rfl
    ·have t:enR r<S.length:=by omega
     have z:=bf t;rw [aq u,af];unfold jP;show obs (obs (ob (ob (sx S ((enR r:Nat):Int)) _) _) _ _) _ _=_;rw [dI z];have n:(S.drop (enR r)).head?=some S[enR r]:=by rw [bX z];rfl
     simp only [ob];rw [show (((S[enR r].toNat:Nat):Int)==47)=decide (S[enR r]=47) from kP _ 47 (by decide),show ap10 (aP 20000000) (iF ((tdR r).1,(tdR r).2.1,(tdR r).2.2.1,(tdR r).2.2.2.1,(tdR r).2.2.2.2.1,(tdR r).2.2.2.2.2.1,(tdR r).2.2.2.2.2.2.1,(tdR r).2.2.2.2.2.2.2.1,(tdR r).2.2.2.2.2.2.2.2.1,(tdR r).2.2.2.2.2.2.2.2.2,((plR r:Nat):Int),S,((enR r:Nat):Int),(0:Int)))=some (if exT (tdR r) then 1 else 0) from reT x];have b:=Ny (S:=S) (p:=enR r) (lvR S 0 r) 1 (tdR r) [] [];by_cases m:S[enR r]=47
     ·rw [n,am m,ae (show some S[enR r]=some 47 by rw [m])];rw [n,am (by rw [m])] at b;simp only [ah];cases hx:exT (tdR r)
      ·rfl
      ·have d:=Ni (S:=S) (p:=enR r) (by omega) (by omega) x (KF:=1) (lvR S 0 r) (lvR S 0 r) rfl [] [];simp only [aL,show ((1:Int)==0)=false from rfl,u10,u9,u8,u7,u6,u5,u4,u3,u2,af,obs,sm,ob];rw [show dS 20000000 S (lvR S 0 r) ((enR r:Nat):Int) 1 (tdR r) [] []=_ from b];simp only [ci,af];rw [d];cases toX S (enR r+1) 1 (tdR r) (lvR S 0 r) with
       | inl f=>rfl
       | inr q=>rfl
     ·rw [n,aq m,ab (show ¬some S[enR r]=some 47 by simpa using m),ae t];rw [n,aq (by simpa using m)] at b;simp only [af,u10,u9,u8,u7,u6,u5,u4,u3,u2,obs,sm,ob];rw [show dS 20000000 S (lvR S 0 r) ((enR r:Nat):Int) 1 (tdR r) [] []=_ from b];rfl
 ·have w:S.head?≠some 47:=by
   obtain ⟨r,rfl⟩:=uM.1 C;simp
  rw [ab w,ae rfl];have b:=Ny (S:=S) (p:=2) 1 2 d0 [] [];rw [show ((2:Nat):Int)=2 from rfl] at b;simp only [ah,obs,sm,ob,u7,u6,u5,u4,u3,u2,b,u8];by_cases hs:(S.drop 2).head?=some 47
  ·have d:=Ni (S:=S) (p:=2) (dW hs) (by omega) nR (KF:=2) 0 1 rfl [] [];rw [show ((2:Nat):Int)=2 from rfl] at d;rw [am hs,ae hs];simp only [ci,af,d];rw [show (2+1)=3 from rfl];cases toX S 3 2 d0 0 with
   | inl f=>rfl
   | inr q=>rfl
  ·rw [aq hs,ab hs];rfl
def lvX (x:TD):Int:=lvT (ga x) x
theorem Dk {x:TD} (hs:smT x) (hc:cF x=0):∃r,cv (ga x) 0=.inr r/\tdR r=x/\enR r=(ga x).length/\lvR (ga x) 0 r=lvX x:=by
 obtain ⟨r,d,c,b⟩:=zP hs hc (S:=ga x) (a:=0) (post:=[]) (by simp) Hg;rw [da] at b;refine ⟨r,d,c,b,?_⟩;unfold lvR lvX;rw [c,b,oM,bV,ma]
theorem TY {x:TD} (hs:smT x) (hc:cF x=0):kM 20000000 (ga x) x=some (lvX x)/\dc 20000000 (ga x)=some (lvX x):=by
 obtain ⟨r,d,c,e,_⟩:=Dk hs hc;obtain ⟨_,_,_,_,_,_,_,_,_,a,b⟩:=uO (ft _) d;rw [c,e,oM,bV,ma] at a b;exact ⟨a,b⟩
theorem rk (x:TD):0<=lvX x/\lvX x<=2:=CM _ _ _ _
theorem Ix {S:aa} {a:Nat} (h:a<=S.length) {r:DR} (H:cv S a=.inr r):lvX (tdR r)<=lvR S a r:=by
 obtain ⟨K,W,_,_⟩:=ip h H;obtain ⟨A,B,u,k,mk,_,y,v,I,_,_⟩:=uO h H;obtain ⟨Z,l',Y,X,V,m',d',k0,k1,k2,O,ok⟩:=pC K W;unfold lvR;generalize N:(S.drop a).take (enR r - a)=T at *;obtain ⟨g,l,dg,x,s,m,d,M,P,e⟩:=r;obtain ⟨t,o,p⟩:=M;have D:=O;unfold tdR at D;simp only [ba] at D;obtain ⟨rfl,rfl,rfl,hx,w,rfl,rfl,F,C,G⟩:=D;simp only at v y mk hx w F C G;have hx:x=X:=by omega
 have w:s=V:=by omega
 have F:t=k0:=by omega
 have C:o=k1:=by omega
 have G:p=k2:=by omega
 subst hx w F C G;obtain ⟨L,k',n,_,R,U⟩:=H7 ok.sh mk;rw [<-y] at n;have Q:u=L:=by rw [<-pi I,<-pi n]
 subst Q;cases J:u.any isLv with
 | true=>
  have:lvT T (tdR (g,l,dg,x,s,m,d,(t,o,p),P,e))=2:=by
   unfold lvT lvl;rw [pi I,J];rfl
  rw [this];exact (rk _).2
 | false=>
  obtain ⟨E,c,b⟩:=R J;have:ga (tdR (g,l,dg,x,s,m,d,(t,o,p),P,e))=T:=by
   rw [y];show rawD (plA (dj m d) t o p) (plB (dj m d) t o p) g l dg (x:Int) (s:Int) m d=_;obtain ⟨B0,B1,B2⟩:=B;subst E;simp only at c b v;have q:=mk.zm;have f:=mk.zd;simp only at q f;simp only [spM,ba,Nat.zero_or] at v;obtain ⟨rfl,rfl,rfl⟩:=v;by_cases j:m=[]
   ·have i:d=[]:=ok.day.resolve_right (λz=>z.1 j);obtain ⟨_,rfl⟩:=q j;obtain ⟨_,rfl⟩:=f i;subst j i;rw [Ib];simp [plA,plB,NG]
   ·have c:=c j;subst c;by_cases i:d=[]
    ·obtain ⟨_,rfl⟩:=f i;subst i;rw [DN j];simp [plA,plB,NG]
    ·have b:=b i;subst b;rw [CP j i];simp [plA,plB,NG]
  unfold lvX;rw [this];exact xW _
def kB (K:Int) (x:TD):aa:=if K=2 then [46,46] else if K=3 then [] else ga x
def okB (K:Int) (x:TD):Prop:=(K=1/\cF x=0/\exT x=true)\/((K=2\/K=3)/\x=d0)
theorem Rh {K:Int} {x:TD} (h:sG K x=0):okB K x:=by
 by_cases c:K=1
 ·subst c;obtain ⟨a,b⟩:=Gj h;exact .inl ⟨rfl,a,b⟩
 ·unfold sG chkB at h;rw [ab c] at h;split at h
  ·rename_i d;split at h
   ·rename_i e;exact .inr ⟨d,oV.1 e⟩
   ·cases h
  ·cases h
theorem nH {KF KT:Int} {x y:TD} (h:ot KF x KT y=0):okB KF x/\okB KT y/\(KF=1\/KT=1):=by
 unfold ot EW at h;by_cases b:sG KF x=0
 ·rw [ab (λz=>z b)] at h;by_cases a:sG KT y=0
  ·rw [ab (λz=>z a)] at h;split at h
   ·cases h
   ·rename_i c;exact ⟨Rh b,Rh a,by omega⟩
  ·rw [ae a] at h;exact absurd h a
 ·rw [ae b] at h;exact absurd h b
inductive RightP:Int->TD->Int->TD->Int->TD->Bool->Bool->List TI->Prop where
 | single {x:TD} (hs:smT x) (hc:cF x=0):RightP 1 x 0 d0 0 d0 false false []
 | interval {KF:Int} {x:TD} {KT:Int} {y:TD} (hx:smT x) (hy:smT y) (hp:ot KF x KT y=0):RightP 2 d0 KF x KT y false false []
 | set {K:Int} {e l:Bool} {I:List TI} (P:SetP K d0 0 d0 0 d0 e l I) (hs:∀t∈I,smI t):RightP K d0 0 d0 0 d0 e l I
theorem Cj {k:Int} {D:TD} {KF:Int} {DF:TD} {KT:Int} {DT:TD} {e l:Bool} {I:List TI} (hs:smE D DF DT I) (h:(fR k D KF DF KT DT e l I).2=0):RightP k D KF DF KT DT e l I:=by
 by_cases f:k=3\/k=4
 ·have P:=wA f h;obtain ⟨rfl,rfl,rfl,rfl,rfl⟩:D=d0/\KF=0/\DF=d0/\KT=0/\DT=d0:=⟨P.d,P.kf,P.df,P.kt,P.dt⟩;exact .set P hs.2.2.2
 ·unfold fR at h;split at h
  ·simp at h
  ·split at h
   ·simp at h
   ·rename_i n a;unfold unuB at a;generalize z1:eqD D d0=q at a;generalize z2:eqD DF d0=o at a;generalize m:eqD DT d0=p at a;by_cases k1:k=1
    ·subst k1;rw [ae rfl] at h;simp at a;obtain ⟨⟨⟨a1,a2⟩,c,b⟩,g,j,i⟩:=a;subst a1 c g j i;rw [oV.1 (z2.trans a2),oV.1 (m.trans b)];exact .single hs.1 h
    ·have k2:k=2:=by omega
     subst k2;rw [ab (by omega),ae rfl] at h;simp at a;obtain ⟨a1,a2,c,b⟩:=a;subst a2 c b;rw [oV.1 (z1.trans a1)];exact .interval hs.2.1 hs.2.2.1 h
def sJ (k:Int) (D:TD) (KF:Int) (DF:TD) (KT:Int) (DT:TD) (e l:Bool) (I:List TI):aa:=
 if k=1 then ga D else if k=2 then kB KF DF++47::kB KT DT else s8 k e l I
def lvE (k:Int) (D:TD) (KF:Int) (DF:TD) (KT:Int) (DT:TD):Int:=
 if k=1 then lvX D else if k=2 then mx (if KT=1 then lvX DT else 1) (if KF=1 then lvX DF else 1) else 2
def exOf (k:Int) (D:TD) (KF:Int) (DF:TD) (KT:Int) (DT:TD) (e l:Bool) (I:List TI) (L:Int):(Nat×Nat)⊕(Int×TD×Int×TD×Int×TD×Int)⊕(Int×Bool×Bool×List TI):=
 if k=1\/k=2 then .inr (.inl (k,D,KF,DF,KT,DT,L)) else .inr (.inr (k,e,l,I))
theorem Ad {x:TD} (hs:smT x) (hc:cF x=0) (r:aa) (c:UInt8) (a:brk c=true):(ga x++r).head?≠some c:=λh=>by
 have:=oa hs hc r c h;rw [a] at this;cases this
theorem Oz {x:TD} (hs:smT x) (hc:cF x=0):ga x≠[]:=by
 obtain ⟨g,l,dg,e,q,m,d,a,b,c,rfl,ok⟩:=pC hs hc;obtain ⟨f,_,_⟩:=wM ok.yr;intro h;have h:qI g l dg (e:Int) (q:Int) m d a b c=[]:=h;unfold qI cA at h;have:=cj List.length h;simp only [bg,bz] at this;exact f (uc (by omega))
theorem BD {KF:Int} {DF:TD} {KT:Int} {DT:TD} (hx:smT DF) (hy:smT DT) (hp:ot KF DF KT DT=0) {S:aa} {p:Nat} (i:p<=S.length) (h:S.drop p=kB KT DT) (lv:Int):
  toX S p KF DF lv=.inr (KT,DT,mx (if KT=1 then lvX DT else 1) (if KF=1 then lv else mx 1 lv)):=by
 obtain ⟨t,o,b1⟩:=nH hp;have b:=cj List.length h;rw [bN] at b;unfold toX toP;rcases o with ⟨rfl,hc,q⟩ | ⟨j,rfl⟩
 ·have f:kB 1 DT=ga DT:=by unfold kB;rw [ab (by omega),ab (by omega)]
  rw [f] at h b;have n:¬(KF=1/\p=S.length):=by
   rintro ⟨_,e⟩;exact Oz hy hc (uc (by omega))
  have d:¬(KF=1/\dts (S.drop p)=true):=by
   rintro ⟨_,e⟩;rw [h] at e;have:=oa hy hc [];rw [lO] at this;rw [so this] at e;cases e
  obtain ⟨r,m,g,l⟩:=zP hy hc (S:=S) (a:=p) (post:=[]) (by rw [h,lO]) Hg;rw [ab n,ab d,m];simp only [];rw [g,ae q,ae (.inr hp)];simp only [aL];rw [ab (by omega)];have:lvR S p r=lvX DT:=by
   unfold lvR lvX;rw [g,l,h];rw [show p+(ga DT).length - p=(ga DT).length by omega,ma]
  rw [this]
 ·have k:KF=1:=by omega
  subst k;rcases j with rfl | rfl
  ·have f:S.drop p=[46,46]:=h;have d:dts (S.drop p)=true:=by rw [f];rfl
   have s:=lw d;have c:(kB 2 d0).length=2:=rfl;rw [ab (by omega),ae ⟨rfl,d⟩];simp only [];rw [ab (by omega)];rfl
  ·have c:(kB 3 d0).length=0:=rfl;rw [ae ⟨rfl,by omega⟩];simp only [];rw [ab (by omega)];rfl
theorem CZ {x:TD} (hs:smT x) (hc:cF x=0):ij (ga x)=.inr (.inl (1,x,0,d0,0,d0,lvX x)):=by
 obtain ⟨r,e,d,f,r4⟩:=Dk hs hc;have b:=oa hs hc [];rw [lO] at b;have a:=λc b=>Ad hs hc [] c b;rw [lO] at a;generalize ga x=T at *;unfold ij;rw [ab (by rintro (h | h);exact a 91 (by decide) h;exact a 123 (by decide) h),ab (a 47 (by decide)),so b,ab (by simp),e];simp only [];rw [f,sT,ab (by simp),ab (by omega),d,r4]
theorem Jo {DF:TD} (hx:smT DF) (hc:cF DF=0) (n:exT DF=true) {KT:Int} {DT:TD} (hy:smT DT) (hp:ot 1 DF KT DT=0):ij (ga DF++47::kB KT DT)=.inr (.inl (2,d0,1,DF,KT,DT,mx (if KT=1 then lvX DT else 1) (lvX DF))):=by
 have g:=oa hx hc (47::kB KT DT);have f:=λc g=>Ad hx hc (47::kB KT DT) c g;generalize b:ga DF++47::kB KT DT=S at *;obtain ⟨r,m,j,e⟩:=zP hx hc (S:=S) (a:=0) (post:=47::kB KT DT) (by rw [bV,b]) (rj (by decide));rw [da] at e;have d:S.drop (enR r)=47::kB KT DT:=by rw [e,<-b,List.drop_left]
 have o:S.drop (enR r+1)=kB KT DT:=by rw [<-jw,d];rfl
 have l:lvR S 0 r=lvX DF:=by
  unfold lvR lvX;rw [j,e,oM,bV,<-b,By]
 have i:enR r+1<=S.length:=by
  have:=cj List.length d;rw [bN,aE] at this;omega
 have k:=BD hx hy hp i o (lvX DF);rw [ae rfl] at k;unfold ij;rw [ab (by rintro (h | h);exact f 91 (by decide) h;exact f 123 (by decide) h),ab (f 47 (by decide)),so g,ab (by simp),m];simp only [];rw [d,o5,ae rfl,j,ae n,l,k]
theorem Je {DT:TD} (hy:smT DT) (hp:ot 2 d0 1 DT=0):ij (46::46::47::ga DT)=.inr (.inl (2,d0,2,d0,1,DT,mx (lvX DT) 1)):=by
 have a:=BD nR hy hp (S:=46::46::47::ga DT) (p:=3) (by simp only [aE];omega) (by simp only [og,bV];unfold kB;rw [ab (by omega),ab (by omega)]) 0;rw [ae rfl,ab (by omega)] at a;generalize ga DT=T at *;unfold ij;rw [ab (by simp),ab (by simp)];have b:dts (46::46::47::T)=true:=rfl;rw [ae b,ae (by rfl),a];rfl
theorem LZ {DT:TD} (hy:smT DT) (hp:ot 3 d0 1 DT=0):ij (47::ga DT)=.inr (.inl (2,d0,3,d0,1,DT,mx (lvX DT) 1)):=by
 have a:=BD nR hy hp (S:=47::ga DT) (p:=1) (by simp only [aE];omega) (by simp only [og,bV];unfold kB;rw [ab (by omega),ab (by omega)]) 0;rw [ae rfl,ab (by omega)] at a;generalize ga DT=T at *;unfold ij;rw [ab (by simp),ae (by rfl),a];rfl
theorem Gs {k:Int} {D:TD} {KF:Int} {DF:TD} {KT:Int} {DT:TD} {e l:Bool} {I:List TI} (h:RightP k D KF DF KT DT e l I):ij (sJ k D KF DF KT DT e l I)=exOf k D KF DF KT DT e l I (lvE k D KF DF KT DT):=by
 cases h with
 | single hs hc=>
  unfold sJ exOf lvE;rw [ae (by omega),ae (by omega),ae (by omega),CZ hs hc]
 | interval hx hy hp=>
  obtain ⟨o,p,b1⟩:=nH hp;unfold sJ exOf lvE;rw [ab (by omega),ae (by omega),ae (by omega),ab (by omega),ae (by omega)];rcases o with ⟨rfl,hc,n⟩ | ⟨c,rfl⟩
  ·have a:kB 1 DF=ga DF:=by unfold kB;rw [ab (by omega),ab (by omega)]
   rw [a,Jo hx hc n hy hp,ae (show (1:Int)=1 from rfl)]
  ·have g:KT=1:=by omega
   subst g;have a:kB 1 DT=ga DT:=by unfold kB;rw [ab (by omega),ab (by omega)]
   rw [a,ae (show (1:Int)=1 from rfl),ab (by omega)];rcases c with rfl | rfl
   ·have j:kB 2 d0=[46,46]:=by unfold kB;rw [ae rfl]
    rw [j];exact Je hy hp
   ·have i:kB 3 d0=[]:=by unfold kB;rw [ab (by omega),ae rfl]
    rw [i];exact LZ hy hp
 | set P hs=>
  have ok:=λt a=>(It P hs t a).1;have c:=P.kind;have f:¬(k=1\/k=2):=by omega
  have d:sJ k d0 0 d0 0 d0 e l I=s8 k e l I:=by
   unfold sJ;rw [ab (by omega),ab (by omega)]
  have b:∀L,exOf k d0 0 d0 0 d0 e l I L=.inr (.inr (k,e,l,I)):=λL=>by
   unfold exOf;rw [ab f]
  rw [d,b];have m:(s8 k e l I).head?=some 91\/(s8 k e l I).head?=some 123:=by
   unfold s8;rw [o5];split
   ·exact .inr rfl
   ·exact .inl rfl
  have hp:=Jy c P.one P.most ok P.set;generalize s8 k e l I=T at *;unfold ij;rw [ae m,hp]
theorem tQ {K:Int} {x:TD} (hs:smT x) (h:okB K x):(kB K x).length<=37:=by
 rcases h with ⟨rfl,hc,c⟩ | ⟨a,rfl⟩
 ·have b:kB 1 x=ga x:=by unfold kB;rw [ab (by omega),ab (by omega)]
  rw [b];exact pE hs hc
 ·rcases a with rfl | rfl<;>decide
def okDs (L:List TD):Prop:=∀x∈L,smT x/\cF x=0
theorem Sr {k:Int} {D:TD} {KF:Int} {DF:TD} {KT:Int} {DT:TD} {e l:Bool} {I:List TI} (h:RightP k D KF DF KT DT e l I):okDs (datE k D KF DF KT DT I):=by
 intro x hx;cases h with
 | single hs hc=>
  unfold datE at hx;rw [ae rfl] at hx;rw [n9.1 hx];exact ⟨hs,hc⟩
 | interval m i hp=>
  obtain ⟨r,o,_⟩:=nH hp;have j:KF=1->cF DF=0:=λh=>by
   rcases r with ⟨_,hc,_⟩ | ⟨d,_⟩
   ·exact hc
   ·omega
  have n:KT=1->cF DT=0:=λh=>by
   rcases o with ⟨_,hc,_⟩ | ⟨d,_⟩
   ·exact hc
   ·omega
  unfold datE at hx;rw [ab (by omega),ae rfl] at hx;split at hx
  ·rename_i g;split at hx
   ·rename_i f;rcases cL.1 hx with rfl | hx
    ·exact ⟨m,j g⟩
    ·rw [n9.1 hx];exact ⟨i,n f⟩
   ·rw [n9.1 hx];exact ⟨m,j g⟩
  ·split at hx
   ·rename_i f;rw [n9.1 hx];exact ⟨i,n f⟩
   ·cases hx
 | set P hs=>
  have d:=P.kind;unfold datE at hx;rw [ab (by omega),ab (by omega),ae d] at hx;obtain ⟨t,p,c⟩:=E8.1 hx;have ok:=(It P hs t p).1;unfold datI at c;split at c
  ·rename_i q;rcases cL.1 c with rfl | c
   ·exact ⟨ok.sm.1,ok.a⟩
   ·rw [n9.1 c];exact ⟨ok.sm.2,ok.b q⟩
  ·rw [n9.1 c];exact ⟨ok.sm.1,ok.a⟩
def mxL (w:Int) (L:List TD):Int:=L.foldl (λw x=>mx (lvX x) w) w
theorem La:∀{L:List TD},mxL 2 L=2
 | []=>rfl
 | x::L=>by
  have:=rk x;show mxL (mx (lvX x) 2) L=2;rw [show mx (lvX x) 2=2 from by unfold mx;rw [ab (by omega)]];exact La
def Ew (k KF KT:Int):Int:=if k>2 then 2 else if k=2/\(KF≠1\/KT≠1) then 1 else 0
theorem TW {k:Int} {D:TD} {KF:Int} {DF:TD} {KT:Int} {DT:TD} {e l:Bool} {I:List TI} (h:RightP k D KF DF KT DT e l I):mxL (Ew k KF KT) (datE k D KF DF KT DT I)=lvE k D KF DF KT DT:=by
 cases h with
 | single hs hc=>
  have:=rk D;unfold Ew datE lvE;rw [ab (by omega),ab (by omega),ae rfl,ae rfl];have:mxL 0 [D]=mx (lvX D) 0:=by simp only [mxL,List.foldl]
  rw [this];unfold mx;split<;>omega
 | interval o j hp=>
  obtain ⟨_,_,m⟩:=nH hp;have q:=rk DF;have p:=rk DT;have g:datE 2 d0 KF DF KT DT []=if KF=1 then (if KT=1 then [DF,DT] else [DF]) else if KT=1 then [DT] else []:=by
   unfold datE;rw [ab (by omega),ae rfl]
  have i:lvE 2 d0 KF DF KT DT=mx (if KT=1 then lvX DT else 1) (if KF=1 then lvX DF else 1):=by
   unfold lvE;rw [ab (by omega),ae rfl]
  have f:Ew 2 KF KT=if KF≠1\/KT≠1 then 1 else 0:=by
   unfold Ew;rw [ab (by omega)];simp
  rw [g,i,f];generalize c:lvX DF=X at *;generalize d:lvX DT=Y at *;by_cases b:KF=1
  ·by_cases a:KT=1
   ·rw [ab (by omega),ae b,ae a,ae a,ae b];have:mxL 0 [DF,DT]=mx Y (mx X 0):=by rw [<-c,<-d];simp only [mxL,List.foldl]
    rw [this];have:mx X 0=X:=by unfold mx;split<;>omega
    rw [this]
   ·rw [ae (by omega),ae b,ab a,ab a,ae b];have:mxL 1 [DF]=mx X 1:=by rw [<-c];simp only [mxL,List.foldl]
    rw [this];unfold mx;split<;>split<;>omega
  ·have a:KT=1:=by omega
   rw [ae (by omega),ab b,ae a,ae a,ab b];have:mxL 1 [DT]=mx Y 1:=by rw [<-d];simp only [mxL,List.foldl]
   rw [this]
 | set P hs=>
  have n:=P.kind;unfold Ew lvE;rw [ae (by omega),La,ab (by omega),ab (by omega)]
theorem xX:∀I:List TI,(I.flatMap datI).length<=2*I.length
 | []=>by simp
 | t::I=>by
  have:=G4 t;have:=xX I;rw [oC,bg,aE];omega
theorem JG (k:Int) (D:TD) (KF:Int) (DF:TD) (KT:Int) (DT:TD) {I:List TI} (h:I.length<=5):(datE k D KF DF KT DT I).length<=10:=by
 have:=xX I;unfold datE;split
 ·simp
 ·split
  ·split
   ·split<;>simp
   ·split<;>simp
  ·split
   ·omega
   ·simp
theorem zD {k:Int} {D:TD} {KF:Int} {DF:TD} {KT:Int} {DT:TD} {e l:Bool} {I:List TI} (h:RightP k D KF DF KT DT e l I) (i:I.length<=5):(sJ k D KF DF KT DT e l I).length<=16384:=by
 cases h with
 | single hs hc=>
  have:=pE hs hc;unfold sJ;rw [ae rfl];omega
 | interval hx hy hp=>
  obtain ⟨c,b,_⟩:=nH hp;have d:=tQ hx c;have g:=tQ hy b;unfold sJ;rw [ab (by omega),ae rfl,bg,aE];omega
 | set P hs=>
  have f:=P.kind;unfold sJ;rw [ab (by omega),ab (by omega)];have:=CE (I:=I) λt a=>(It P hs t a).1;unfold s8;cases e<;>cases l<;>simp<;>omega
theorem few {k:Int} {D:TD} {KF:Int} {DF:TD} {KT:Int} {DT:TD} {e l:Bool} {I:List TI} (h:RightP k D KF DF KT DT e l I) (a:k=1\/k=2):e=false/\l=false/\I=[]:=by
 cases h with
 | single hs hc=>exact ⟨rfl,rfl,rfl⟩
 | interval hx hy hp=>exact ⟨rfl,rfl,rfl⟩
 | set P hs=>have:=P.kind;omega
theorem Ur {K:Int} {x:TD} (h:okB K x):sG K x=0:=by
 rcases h with ⟨rfl,hc,b⟩ | ⟨a,rfl⟩
 ·exact AH hc b
 ·rcases a with rfl | rfl<;>kernel_rfl
theorem GP {K:Int} {x:TD} (hs:smT x) (h:okB K x):ap10 (me 20000000 K) x=some (kB K x,0):=by
 have b:chkB K x.1 x.2.1 x.2.2.1 x.2.2.2.1 x.2.2.2.2.1 x.2.2.2.2.2.1 x.2.2.2.2.2.2.1 x.2.2.2.2.2.2.2.1 x.2.2.2.2.2.2.2.2.1 x.2.2.2.2.2.2.2.2.2=0:=Ur h;have:=Tj (K:=K) (g:=x.1) (l:=x.2.1) (x:=x.2.2.2.1) (q:=x.2.2.2.2.1) hs.1 hs.2.1 hs.2.2.1 hs.2.2.2.1 hs.2.2.2.2.1 hs.2.2.2.2.2;rw [ae b] at this;refine this.trans ?_;unfold kB ga;by_cases a:K=2
 ·simp only [a,aL]
 ·simp only [a,aB]
theorem FL {KF:Int} {x:TD} {KT:Int} {y:TD} (hx:smT x) (hy:smT y) (hp:ot KF x KT y=0) (K:Int) (D:TD) (e l:Bool) (I:List TI):
  jC 20000000 K D KF x KT y e l I=some (kB KF x++47::kB KT y,0):=by
 obtain ⟨b,a,_⟩:=nH hp;have d:=tQ hx b;have c:=tQ hy a;unfold jC;rw [GP hx b,GP hy a];simp only [ob,u2];rw [du (by simp only [aE,bz];omega)];simp only [];rw [du (by simp only [bg,aE,bz];omega)];simp only [fN,fg,dX]
theorem IB {k:Int} {D:TD} {KF:Int} {DF:TD} {KT:Int} {DT:TD} {e l:Bool} {I:List TI} (h:RightP k D KF DF KT DT e l I):(fR k D KF DF KT DT e l I).2=0:=by
 cases h with
 | single hs hc=>rw [(CG hs hc).first]
 | interval hx hy hp=>rw [(yU hx hy hp).first]
 | set P hs=>exact P.set
theorem Wg {k:Int} {D:TD} {KF:Int} {DF:TD} {KT:Int} {DT:TD} {e l:Bool} {I:List TI} (h:RightP k D KF DF KT DT e l I):smE D DF DT I:=by
 cases h with
 | single hs hc=>exact ⟨hs,nR,nR,λt a=>by cases a⟩
 | interval hx hy hp=>exact ⟨nR,hx,hy,λt a=>by cases a⟩
 | set P hs=>exact ⟨nR,nR,nR,hs⟩
theorem NA {k:Int} {D:TD} {KF:Int} {DF:TD} {KT:Int} {DT:TD} {e l:Bool} {I:List TI} (hs:smE D DF DT I):
  jA 20000000 k D KF DF KT DT e l I=some (if (fR k D KF DF KT DT e l I).2=0 then (sJ k D KF DF KT DT e l I,0) else ([],(fR k D KF DF KT DT e l I).2)):=by
 unfold jA;rw [BM hs];by_cases a:(fR k D KF DF KT DT e l I).2=0
 ·rw [ae a,a];have P:=Cj hs a;simp only [ob,dF,af,mU];cases P with
  | single hx hc=>
   rw [show ((1:Int)==1)=true from rfl,ah];unfold la sJ;rw [ae rfl,dfT hx hc];simp only [ob,u2]
  | interval hx hy hp=>
   rw [show ((2:Int)==1)=false from rfl,af,show ((2:Int)==2)=true from rfl,ah,FL hx hy hp];unfold sJ;rw [ab (by omega),ae rfl]
  | set P hi=>
   have b:=P.kind;have c:=SN (K:=k) (KF:=0) (KT:=0) (e:=e) (l:=l) hs;rw [ae (show yR k from b),ae a] at c;rw [c];unfold sJ;rw [ab (by rcases b with rfl | rfl<;>omega),ab (by rcases b with rfl | rfl<;>omega)];generalize s8 k e l I=w;rcases b with rfl | rfl<;>rfl
 ·rw [ab a];simp only [ob];rw [show ((fR k D KF DF KT DT e l I).2 != 0)=true from ye.2 a,ah]
theorem EM {k:Int} {D:TD} {KF:Int} {DF:TD} {KT:Int} {DT:TD} {e l:Bool} {I:List TI} (h:RightP k D KF DF KT DT e l I):
  jA 20000000 k D KF DF KT DT e l I=some (sJ k D KF DF KT DT e l I,0):=by
 rw [NA (Wg h),ae (IB h)]
def U5:(Nat×Nat)⊕(Int×TD×Int×TD×Int×TD×Int)⊕(Int×Bool×Bool×List TI)->Prop
 | .inl f=>f.2≠0
 | .inr (.inl (K,D,KF,DF,KT,DT,L))=>RightP K D KF DF KT DT false false []/\(K=1\/K=2)
 | .inr (.inr (K,e,l,I))=>RightP K d0 0 d0 0 d0 e l I/\yR K
end Go.Sh
