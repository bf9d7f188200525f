
/- Plain proofs, kept as far as they are needed here (printed by prune.py).
   Conditions: none. -/
import Derived.Test.YtfiponokimbeeaaGreatDoorLawRzb
set_option linter.unusedVariables false
set_option linter.unusedSimpArgs false
set_option maxRecDepth 100000
namespace Go.Sh
open Go.Abs
theorem UU {g l:Bool} {d:aa} {x s:Int} (h:okY g l d x s):okY g l d x 0:=by
 unfold okY at h ⊢;cases l with
 | true=>
  rw [ae rfl] at h ⊢;unfold okL at h ⊢;refine ⟨h.1,s9 _,?_⟩;omega
 | false=>
  rw [ab (by simp)] at h ⊢;unfold okS at h ⊢;obtain ⟨b,c,e,a,i,j,f⟩:=h;exact ⟨b,c,e,a,s9 _,by omega,λh=>absurd h.1 (by omega)⟩
theorem KO (m a0 a2 I J j F c k s:Nat) (g:Bool) (O:a2<65536) (M:I<256) (K:J<256) (L:j<256) (N:F<256):
  ∃b l dg x q a d,aO (m+300) (a0:Int) g (a2:Int) (I:Int) (J:Int) (j:Int) (F:Int) (c:Int) (k:Int) (s:Int)=some (b,l,dg,x,q,a,d,((mksT (cw a d) c k s).1:Int),((mksT (cw a d) c k s).2.1:Int),((mksT (cw a d) c k s).2.2:Int))/\
   okY b l dg x q/\wv b dg x=false/\(a0%6≠3->hasX dg=false)/\dg.length<=5/\(q≠0->a=[]/\d=[])/\(q=0->a=monT (j%40))/\
   (d=[]\/(a∈((List.range 12).map λi=>two (i+1))++[[48,88],[49,88],[88,50],[88,88],[88,48],[88,57]]/\a≠[]/\sea a=0/\d=dayT (F%40) a)):=by
 obtain ⟨b,l,dg,x,q,e,z,n,A,t⟩:=OK m a0 a2 I J g O M K;have G:=LA z n A;have U:Int.tmod (c:Int) 4=((c%4:Nat):Int):=rfl;have X:Int.tmod (k:Int) 4=((k%4:Nat):Int):=rfl;have S:Int.tmod (s:Int) 4=((s%4:Nat):Int):=rfl;obtain ⟨W,Q,T,R,V,P⟩:=kA z;have f:∀(a d:aa) (o:Option (Bool×Bool×aa×Int×Int×aa×aa×Int×Int×Int)),
   (ob (ax (m+300) b l dg x q a d 0 0 0) λr=>(cond (decide ((0:Int)<r)) (ob (ax (m+300) b l dg x q a d (Int.tmod (c:Int) 4) 0 0) λr=>(cond (decide ((1:Int)<r)) (ob (ax (m+300) b l dg x q a d (Int.tmod (c:Int) 4) (Int.tmod (k:Int) 4) 0) λr=>(cond (decide ((2:Int)<r)) (ob (ax (m+300) b l dg x q a d (Int.tmod (c:Int) 4) (Int.tmod (k:Int) 4) (Int.tmod (s:Int) 4)) λr=>(cond (decide ((3:Int)<r)) none (some (b,l,dg,x,q,a,d,(Int.tmod (c:Int) 4),(Int.tmod (k:Int) 4),(Int.tmod (s:Int) 4))))) (some (b,l,dg,x,q,a,d,(Int.tmod (c:Int) 4),(Int.tmod (k:Int) 4),0)))) (some (b,l,dg,x,q,a,d,(Int.tmod (c:Int) 4),0,0)))) (some (b,l,dg,x,q,a,d,0,0,0))))=some (b,l,dg,x,q,a,d,((mksT (cw a d) c k s).1:Int),((mksT (cw a d) c k s).2.1:Int),((mksT (cw a d) c k s).2.2:Int)):=by
  intro a d _;have hc:=oQ a d;have:cw a d=1\/cw a d=2\/cw a d=3:=by omega
  rw [kC,kC,kC,kC];rcases this with h | h | h<;>rw [h]<;>rfl
 unfold aO;rw [e];simp only [ob,d4];rw [ii];by_cases y:q=0
 ·rw [ae y];rw [Gz m _ _ _ _ _ j _ _ _ _ L];have H:=Hy (show j%40<40 by omega);show ∃u D v C B w d,cond (!(monT (j%40)==[])) _ _=_/\_;by_cases p:monT (j%40)=[]
  ·refine ⟨b,l,dg,x,q,[],[],?_,z,G,t,n,λh=>absurd y h,λ_=>p.symm,.inl rfl⟩;rw [p];exact f [] [] none
  ·rw [aL.2 p];show ∃u D v C B w d,ob (cV (m+300) b l dg x q (monT (j%40)) [] 0 0 0) _=_/\_;rw [wZ (m+300) (by omega)];show ∃u D v C B w d,cond (sea (monT (j%40))==0) _ _=_/\_;rw [ii];by_cases hs:sea (monT (j%40))=0
   ·rw [ae hs];have E:=H hs p;rw [L6 m _ _ _ _ _ _ F _ _ _ (monT (j%40)) E N];exact ⟨b,l,dg,x,q,monT (j%40),dayT (F%40) (monT (j%40)),f _ _ none,z,G,t,n,λh=>absurd y h,λ_=>rfl,.inr ⟨E,p,hs,rfl⟩⟩
   ·rw [ab hs];exact ⟨b,l,dg,x,q,monT (j%40),[],f _ [] none,z,G,t,n,λh=>absurd y h,λ_=>rfl,.inl rfl⟩
 ·rw [ab y];exact ⟨b,l,dg,x,q,[],[],f [] [] none,z,G,t,n,λ_=>⟨rfl,rfl⟩,λh=>absurd h y,.inl rfl⟩
theorem Gj:((List.range 34).all λj=>!hasX (monT j))=true:=by decide +kernel
theorem GB:(((List.range 12).map λi=>two (i+1)).all λa=>(List.range 32).all λj=>!hasX (dayT j a))=true:=by decide +kernel
theorem QR:((((List.range 12).map λi=>two (i+1))++[[48,88],[49,88],[88,50],[88,88],[88,48],[88,57]]).all λa=>hasX a||decide (a∈(List.range 12).map λi=>two (i+1)))=true:=by decide +kernel
theorem O0 (m a0 a2 z A u j k v s:Nat) (g:Bool) (C:a2<65536) (w:z<256) (F:A<256) (G:u<256) (M:j<256) (J:a0%6≠3) (N:u%40<=33) (O:j%40<=31):
  ∃n l dg x q a d k0 k1 k2,aO (m+300) (a0:Int) g (a2:Int) (z:Int) (A:Int) (u:Int) (j:Int) (k:Int) (v:Int) (s:Int)=some (n,l,dg,x,q,a,d,((k0:Nat):Int),((k1:Nat):Int),((k2:Nat):Int))/\
   0<=q/\chkF n l dg x 0 a d (k0:Int) (k1:Int) (k2:Int)=0/\exD dg a d 0=true/\a.length<=18/\d.length<=18/\dg.length<=100:=by
 obtain ⟨n,l,dg,x,q,a,d,e,E,K,D,H,o,p,t⟩:=KO m a0 a2 z A u j k v s g C w F G M;have I:=D J;have f:hasX a=false:=by
  by_cases h:q=0
  ·rw [p h];have:=(bG.1 Gj) (u%40) (iH.2 (by omega));simpa using this
  ·rw [(o h).1];rfl
 have c:a=[]\/0<sea a\/(sea a=0/\eZ a 12=true):=by
  by_cases h:q=0
  ·rw [p h];exact QM (by omega)
  ·exact .inl (o h).1
 have b:d=[]\/(a≠[]/\sea a=0/\eZ d 31=true/\fitD a d=true/\hasX d=false):=by
  rcases t with h | ⟨i,y,hs,r⟩
  ·exact .inl h
  ·have a1:=Qj (show j%40<40 by omega) i;have a2:=MG (show j%40<40 by omega) i;rw [<-r] at a1 a2;by_cases B:d=[]
   ·exact .inl B
   ·right;refine ⟨y,hs,a1.resolve_left B,a2.resolve_left B,?_⟩;have b1:=(bG.1 QR) a i;rw [f,mY,bV] at b1;have b2:=(bG.1 ((bG.1 GB) a b1)) (j%40) (iH.2 (by omega));rw [r];simpa using b2
 have hc:chkD n l dg x 0 a d ((mksT (cw a d) k v s).1:Int) ((mksT (cw a d) k v s).2.1:Int) ((mksT (cw a d) k v s).2.2:Int)=0:=
  Rw (UU E) K (λh=>absurd h (by omega)) c (by
   rcases b with h | ⟨L,C,w,_⟩
   ·exact .inl h
   ·exact .inr ⟨L,C,w⟩) (OL _ _ _ _)
 refine ⟨n,l,dg,x,q,a,d,_,_,_,e,PM E,MO hc ?_,?_,?_,?_,by omega⟩
 ·rcases b with h | ⟨_,_,_,h,_⟩
  ·exact .inl h
  ·exact .inr h
 ·unfold exD;have:hasX d=false:=by
   rcases b with h | ⟨_,_,_,_,h⟩
   ·rw [h];rfl
   ·exact h
  rw [I,f,this];rfl
 ·rcases c with h | h | ⟨_,h⟩
  ·rw [h];simp
  ·have:=(DN h).1;omega
  ·have:=(lO (by omega) h).1;omega
 ·rcases b with h | ⟨_,_,h,_⟩
  ·rw [h];simp
  ·have:=(lO (by omega) h).1;omega
theorem LJ (m a0 a2 y z c k B D C:Nat) (g:Bool) (Z:a0<256) (V:a2<65536) (N:y<256) (I:z<256) (X:c<256) (h6:k<256):
  ∃n l dg x i d k0 k1 k2,dl (m+300) (a0:Int) g (a2:Int) (y:Int) (z:Int) (c:Int) (k:Int) (B:Int) (D:Int) (C:Int)=some (n,l,dg,x,0,i,d,((k0:Nat):Int),((k1:Nat):Int),((k2:Nat):Int))/\
   chkF n l dg x 0 i d (k0:Int) (k1:Int) (k2:Int)=0/\exD dg i d 0=true/\i.length<=18/\d.length<=18/\dg.length<=100:=by
 have L:Int.tmod (c:Int) 40=((c%40:Nat):Int):=rfl;have M:Int.tmod (k:Int) 40=((k%40:Nat):Int):=rfl;have H:Int.tmod (a0:Int) 6=((a0%6:Nat):Int):=rfl;have P:Int.tdiv ((k%40:Nat):Int) 2=((k%40 / 2:Nat):Int):=rfl;have o:∀(b0 f b:Nat),f<256->b<256->b0%6≠3->f%40<=33->b%40<=31->
   ∃n l dg x i d k0 k1 k2,(ob (aO (m+300) (b0:Int) g (a2:Int) (y:Int) (z:Int) (f:Int) (b:Int) (B:Int) (D:Int) (C:Int)) λa=>(cond (decide ((d4 a).1>0)) (some (a.1,a.2.1,a.2.2.1,a.2.2.2.1,(0:Int),(d4 a).2.1,(d4 a).2.2.1,(d4 a).2.2.2.1,(d8 a).1,(d8 a).2)) (some (a.1,a.2.1,a.2.2.1,a.2.2.2.1,(d4 a).1,(d4 a).2.1,(d4 a).2.2.1,(d4 a).2.2.2.1,(d8 a).1,(d8 a).2))))=some (n,l,dg,x,0,i,d,((k0:Nat):Int),((k1:Nat):Int),((k2:Nat):Int))/\
   chkF n l dg x 0 i d (k0:Int) (k1:Int) (k2:Int)=0/\exD dg i d 0=true/\i.length<=18/\d.length<=18/\dg.length<=100:=by
  intro b0 f b r c6 O p s;obtain ⟨n,l,dg,x,q,i,d,k0,k1,k2,e,Y,T,G,J,r4,R⟩:=O0 m b0 a2 y z f b B D C g V N I r c6 O p s;refine ⟨n,l,dg,x,i,d,k0,k1,k2,?_,T,G,J,r4,R⟩;rw [e];simp only [ob,d4,d8];by_cases h:q>0
  ·rw [am h];rfl
  ·obtain rfl:q=0:=by omega
   rw [aq h];rfl
 have v:33<c%40->IntKind.wrap .u8 (((c%40:Nat):Int) - 33)=((c%40 - 33:Nat):Int):=λh=>by rw [gh _ (by omega) (by omega)];omega
 have S:IntKind.wrap .u8 ((k%40 / 2:Nat):Int)=((k%40 / 2:Nat):Int):=gh _ (by omega) (by omega);unfold dl;rw [H,L,M,P,S];have j:∀b0:Nat,b0%6≠3->∀K:Nat->Nat->Option (Bool×Bool×aa×Int×Int×aa×aa×Int×Int×Int),
   (∀f b:Nat,f<256->b<256->f%40<=33->b%40<=31->∃n l dg x i d k0 k1 k2,K f b=some (n,l,dg,x,0,i,d,((k0:Nat):Int),((k1:Nat):Int),((k2:Nat):Int))/\chkF n l dg x 0 i d (k0:Int) (k1:Int) (k2:Int)=0/\exD dg i d 0=true/\i.length<=18/\d.length<=18/\dg.length<=100)->
   ∃n l dg x i d k0 k1 k2,(cond (decide (((c%40:Nat):Int)>33)) (cond (decide (((k%40:Nat):Int)>31)) (K (c%40 - 33) (k%40 / 2)) (K (c%40 - 33) k)) (cond (decide (((k%40:Nat):Int)>31)) (K c (k%40 / 2)) (K c k)))=some (n,l,dg,x,0,i,d,((k0:Nat):Int),((k1:Nat):Int),((k2:Nat):Int))/\chkF n l dg x 0 i d (k0:Int) (k1:Int) (k2:Int)=0/\exD dg i d 0=true/\i.length<=18/\d.length<=18/\dg.length<=100:=by
  intro b0 U K w;by_cases Q:33<c%40
  ·rw [am (show ((c%40:Nat):Int)>33 by omega)];by_cases E:31<k%40
   ·rw [am (show ((k%40:Nat):Int)>31 by omega)];exact w _ _ (by omega) (by omega) (by omega) (by omega)
   ·rw [aq (show ¬((k%40:Nat):Int)>31 by omega)];exact w _ _ (by omega) (by omega) (by omega) (by omega)
  ·rw [aq (show ¬((c%40:Nat):Int)>33 by omega)];by_cases E:31<k%40
   ·rw [am (show ((k%40:Nat):Int)>31 by omega)];exact w _ _ (by omega) (by omega) (by omega) (by omega)
   ·rw [aq (show ¬((k%40:Nat):Int)>31 by omega)];exact w _ _ (by omega) (by omega) (by omega) (by omega)
 have w5':∀{A:Type} (F:Int->Int->Option A) (b:Nat),(cond (decide (((c%40:Nat):Int)>33)) (F (IntKind.wrap .u8 (((c%40:Nat):Int) - 33)) (b:Int)) (F (c:Int) (b:Int)))=(cond (decide (((c%40:Nat):Int)>33)) (F ((c%40 - 33:Nat):Int) (b:Int)) (F (c:Int) (b:Int))):=by
  intro A F b;by_cases h:33<c%40
  ·rw [v h]
  ·rw [aq (show ¬((c%40:Nat):Int)>33 by omega)];rfl
 have t:33<c%40\/¬33<c%40:=by omega
 by_cases u:a0%6=3
 ·rw [show (((a0%6:Nat):Int)==3)=true by rw [u];rfl];simp only [aj];rcases t with h | h
  ·rw [v h];exact j 0 (by omega) (λf b=>_) (λf b r c6 p s=>o 0 f b r c6 (by omega) p s)
  ·have hx:=j 0 (by omega) (λf b=>_) (λf b r c6 p s=>o 0 f b r c6 (by omega) p s);rw [aq (show ¬((c%40:Nat):Int)>33 by omega)] at hx ⊢;exact hx
 ·rw [show (((a0%6:Nat):Int)==3)=false from aL.2 (by omega)];simp only [af];by_cases W:a0%6=4
  ·rw [show (((a0%6:Nat):Int)==4)=true by rw [W];rfl];simp only [aj];rcases t with h | h
   ·rw [v h];exact j 0 (by omega) (λf b=>_) (λf b r c6 p s=>o 0 f b r c6 (by omega) p s)
   ·have hx:=j 0 (by omega) (λf b=>_) (λf b r c6 p s=>o 0 f b r c6 (by omega) p s);rw [aq (show ¬((c%40:Nat):Int)>33 by omega)] at hx ⊢;exact hx
  ·rw [show (((a0%6:Nat):Int)==4)=false from aL.2 (by omega)];simp only [af];rcases t with h | h
   ·rw [v h];exact j a0 u (λf b=>_) (λf b r c6 p s=>o a0 f b r c6 u p s)
   ·have hx:=j a0 u (λf b=>_) (λf b r c6 p s=>o a0 f b r c6 u p s);rw [aq (show ¬((c%40:Nat):Int)>33 by omega)] at hx ⊢;exact hx
def NJ (g l:Bool) (dg:aa) (x q:Int) (m d:aa) (k0 k1 k2:Int):Bool:=
 (((g==false)&&((l==false)&&((dg==([]:aa))&&((x==0)&&((q==0)&&true)))))&&((m==([]:aa))&&((d==([]:aa))&&(((k0==0)&&((k1==0)&&((k2==0)&&true)))&&true))))
noncomputable def chkB (K:Int) (g l:Bool) (dg:aa) (x q:Int) (m d:aa) (k0 k1 k2:Int):Int:=
 if K=1 then (if chkF g l dg x q m d k0 k1 k2=0 then (if exD dg m d q=true then 0 else 11) else chkF g l dg x q m d k0 k1 k2) else if K=2\/K=3 then (if NJ g l dg x q m d k0 k1 k2=true then 0 else 5) else 18
def H7 (b a c d lo hi:Int):Int:=if b≠0 then b else if a≠0 then a else if c≠1/\d≠1 then 11 else if c≠1\/d≠1 then 0 else if lo>hi then 11 else 0
section
variable {K:Int} {g l:Bool} {dg:List UInt8} {x q:Int} {m d:List UInt8} {k0 k1 k2:Int} (hml:m.length<=18) (hdl:dg.length<=100) (hd18:d.length<=18) (h0:0<=k0) (h1:0<=k1) (h2:0<=k2)
include hml hdl hd18 h0 h1 h2
theorem tQ:ga 20000000 K g l dg x q m d k0 k1 k2=some (chkB K g l dg x q m d k0 k1 k2):=by
 unfold ga chkB;rw [uc hml hdl h0 h1 h2,Ff 20000000 g l dg x q m d k0 k1 k2 (by omega) (by omega) (by omega)];simp only [ob];by_cases a:K=1
 ·subst a;rw [ae rfl];simp only [xj,aj];by_cases hc:chkF g l dg x q m d k0 k1 k2=0
  ·rw [ae hc,hc];by_cases e:exD dg m d q=true
   ·rw [ae e,e];rfl
   ·rw [ab e];rw [Ft] at e;rw [e];rfl
  ·rw [ab hc,bne0 hc];rfl
 ·rw [ab a,aL.2 a];simp only [af];have f:(!(((g==false)&&((l==false)&&((dg==([]:aa))&&((x==0)&&((q==0)&&true)))))&&((m==([]:aa))&&((d==([]:aa))&&(((k0==0)&&((k1==0)&&((k2==0)&&true)))&&true)))))=!(NJ g l dg x q m d k0 k1 k2):=rfl;rw [f];by_cases c:K=2
  ·subst c;rw [ae (.inl rfl)];cases NJ g l dg x q m d k0 k1 k2<;>rfl
  ·rw [aL.2 c];by_cases b:K=3
   ·subst b;rw [ae (.inr rfl)];cases NJ g l dg x q m d k0 k1 k2<;>rfl
   ·rw [aL.2 b,ab (by omega)];rfl
theorem QJ:ic 20000000 K g l dg x q m d k0 k1 k2=some (if chkB K g l dg x q m d k0 k1 k2=0 then (if K=2 then [46,46] else if K=3 then [] else qM g l dg x q m d k0.toNat k1.toNat k2.toNat,0) else ([],chkB K g l dg x q m d k0 k1 k2)):=by
 unfold ic;rw [tQ hml hdl hd18 h0 h1 h2];simp only [ob];by_cases hc:chkB K g l dg x q m d k0 k1 k2=0
 ·rw [ae hc,hc];simp only [fD,af];by_cases b:K=2
  ·subst b;rfl
  ·rw [aL.2 b,ab b];by_cases a:K=3
   ·subst a;rfl
   ·rw [aL.2 a,ab a];have k1':K=1:=by
     unfold chkB at hc;by_cases h:K=1
     ·exact h
     ·rw [ab h,ab (by omega)] at hc;cases hc
    have c:chkF g l dg x q m d k0 k1 k2=0:=by
     unfold chkB at hc;rw [ae k1'] at hc;by_cases h:chkF g l dg x q m d k0 k1 k2=0
     ·exact h
     ·rw [ab h] at hc;exact absurd hc h
    have e:bH 20000000 g l dg x q m d k0 k1 k2=_:=FP 19999700 g l dg x q m d k0 k1 k2 hml hdl h0 h1 h2;rw [e,ae (pF c)];rfl
 ·rw [ab hc,bne0 hc];rfl
theorem FY (hc:chkB K g l dg x q m d k0 k1 k2=0) (b:K=1):chkF g l dg x q m d k0 k1 k2=0/\exD dg m d q=true:=by
 have c:=And.intro hml (And.intro hdl (And.intro hd18 (And.intro h0 (And.intro h1 h2))));unfold chkB at hc;rw [ae b] at hc;by_cases h:chkF g l dg x q m d k0 k1 k2=0
 ·rw [ae h] at hc;by_cases a:exD dg m d q=true
  ·exact ⟨h,a⟩
  ·rw [ab a] at hc;cases hc
 ·rw [ab h] at hc;exact absurd hc h
end
theorem Ur (n:Nat) (a b:Int):iv n a b=some (if a<b then -1 else if a>b then 1 else 0):=by
 unfold iv jF;simp only [ob,fD,af];by_cases h:a<b
 ·rw [am h,ae h];rfl
 ·rw [aq h,ab h];by_cases c:a>b
  ·rw [am c,ae c];rfl
  ·rw [aq c,ab c];rfl
theorem yq (a b:Int):∃r,f9 20000000 0 a 0 b=some r/\decide (r>0)=decide (a>b):=by
 have d:la 20000000 0 0=some 0:=rfl;have o1:nh 20000000 [0,-1]=some (-1):=by kernel_rfl
 have f:nh 20000000 [0,1]=some 1:=by kernel_rfl
 have e:nh 20000000 [0,0]=some 0:=by kernel_rfl
 unfold f9;rw [d,Ur];simp only [ob];by_cases h:a<b
 ·rw [ae h,o1];exact ⟨_,rfl,by rw [aq (show ¬a>b by omega)];rfl⟩
 ·rw [ab h];by_cases c:a>b
  ·rw [ae c,f];exact ⟨_,rfl,by rw [am c];rfl⟩
  ·rw [ab c,e];exact ⟨_,rfl,by rw [aq c];rfl⟩
theorem bne1 {K:Int} (h:K≠1):(K != 1)=true:=by simp [h]
section
variable {K:Int} {g l:Bool} {dg:List UInt8} {x q:Int} {m d:List UInt8} {k0 k1 k2:Int} {K':Int} {g' l':Bool} {dg':List UInt8} {x' q':Int} {m' d':List UInt8} {p0 p1 p2:Int} (hml:m.length<=18) (hdl:dg.length<=100) (hd18:d.length<=18) (h0:0<=k0) (h1:0<=k1) (h2:0<=k2) (hml':m'.length<=18) (hdl':dg'.length<=100) (hd18':d'.length<=18) (h0':0<=p0) (h1':0<=p1) (h2':0<=p2)
include hml hdl hd18 h0 h1 h2 hml' hdl' hd18' h0' h1' h2'
theorem Pj:gg 20000000 K g l dg x q m d k0 k1 k2 K' g' l' dg' x' q' m' d' p0 p1 p2=some (H7 (chkB K g l dg x q m d k0 k1 k2) (chkB K' g' l' dg' x' q' m' d' p0 p1 p2) K K' (tH g dg x m d).1 (tH g' dg' x' m' d').2):=by
 unfold gg H7;rw [tQ hml hdl hd18 h0 h1 h2,tQ hml' hdl' hd18' h0' h1' h2'];simp only [ob];by_cases c:chkB K g l dg x q m d k0 k1 k2=0
 ·rw [ab (by omega),c];by_cases b:chkB K' g' l' dg' x' q' m' d' p0 p1 p2=0
  ·rw [ab (by omega),b];simp only [fD,af];by_cases e:K=1
   ·rw [show (K != 1)=false by rw [e];rfl];simp only [af];by_cases a:K'=1
    ·rw [show (K' != 1)=false by rw [a];rfl,ab (by omega),ab (by omega)];simp only [af];obtain ⟨o,n⟩:=FY hml hdl hd18 h0 h1 h2 c e;obtain ⟨i,k⟩:=FY hml' hdl' hd18' h0' h1' h2' b a;rw [C3 hml hdl hd18 h0 h1 h2,C3 hml' hdl' hd18' h0' h1' h2',ae o,ae n,ae i,ae k];simp only [ob];obtain ⟨r,j,f⟩:=yq (tH g dg x m d).1 (tH g' dg' x' m' d').2;rw [j];simp only [f];by_cases h:(tH g dg x m d).1>(tH g' dg' x' m' d').2
     ·rw [am h,ae h];rfl
     ·rw [aq h,ab h];rfl
    ·rw [bne1 a,ab (by omega),ae (by omega)];rfl
   ·rw [bne1 e];by_cases a:K'=1
    ·rw [show (K' != 1)=false by rw [a];rfl,ab (by omega),ae (by omega)];rfl
    ·rw [bne1 a,ae (by omega)];rfl
  ·rw [ae b,bne0 b];rfl
 ·rw [ae c,bne0 c];rfl
end
def plR (r:DR):Nat:=r.2.2.2.2.2.2.2.2.1.1
def enR (r:DR):Nat:=r.2.2.2.2.2.2.2.2.2
theorem GE {l:aa} {b:UInt8} (h:l.take 2=[b,b]):∃r,l=b::b::r:=by
 match l,h with
 | a::c::r,h=>simp at h;exact ⟨r,by rw [h.1,h.2]⟩
theorem FT {S:aa} {a:Nat} (h:a<=S.length) {r:DR} (b:dX S a=.inr r):pw S a=.inr r/\chkR r=0:=by
 unfold dX at b;cases c:pw S a with
 | inl k=>rw [c] at b;cases b
 | inr d=>
  rw [c] at b;simp only [] at b;by_cases hc:chkR d=0
  ·rw [ae hc] at b;obtain rfl:=Sum.inr.inj b;exact ⟨rfl,hc⟩
  ·rw [ab hc] at b;cases b
theorem qc (c:UInt8) (k:Nat) (a:k<256):(((c.toNat:Nat):Int)==(k:Int))=decide (c=UInt8.ofNat k):=by
 rw [ux,bp,decide_eq_true_iff];constructor
 ·intro h;apply fZ.1;have:c.toNat=k:=by omega
  rw [this];simp;omega
 ·rintro rfl;simp;omega
theorem uG {S:aa} {a:Nat} (h:a<=S.length) {k E p:Nat} (b:dX S a=.inl (k,E,p)):E≠0:=by
 unfold dX at b;cases c:pw S a with
 | inl k'=>rw [c] at b;simp only [] at b;have:=Sum.inl.inj b;simp at this;omega
 | inr d=>
  rw [c] at b;simp only [] at b;by_cases hc:chkR d=0
  ·rw [ae hc] at b;cases b
  ·rw [ab hc] at b;have:=Sum.inl.inj b;simp at this;omega
def smT (x:TD):Prop:=x.2.2.2.2.2.1.length<=18/\x.2.2.1.length<=100/\x.2.2.2.2.2.2.1.length<=18/\0<=x.2.2.2.2.2.2.2.1/\0<=x.2.2.2.2.2.2.2.2.1/\0<=x.2.2.2.2.2.2.2.2.2
noncomputable def cF (x:TD):Int:=chkF x.1 x.2.1 x.2.2.1 x.2.2.2.1 x.2.2.2.2.1 x.2.2.2.2.2.1 x.2.2.2.2.2.2.1 x.2.2.2.2.2.2.2.1 x.2.2.2.2.2.2.2.2.1 x.2.2.2.2.2.2.2.2.2
def exT (x:TD):Bool:=exD x.2.2.1 x.2.2.2.2.2.1 x.2.2.2.2.2.2.1 x.2.2.2.2.1
def dyT (x:TD):Int×Int:=tH x.1 x.2.2.1 x.2.2.2.1 x.2.2.2.2.2.1 x.2.2.2.2.2.2.1
def seT (x:TD):Int:=sea x.2.2.2.2.2.1
def coT (x:TD):Nat:=cw x.2.2.2.2.2.1 x.2.2.2.2.2.2.1
noncomputable def plT (x:TD):Bool:=decide (cF x=0)&&(exT x&&!decide (0<seT x))
theorem nP:smT d0:=by unfold smT;simp
theorem fcT {x:TD} (h:smT x):ap10 (bf 20000000) x=some (cF x):=uc h.1 h.2.1 h.2.2.2.1 h.2.2.2.2.1 h.2.2.2.2.2
theorem reT {x:TD} (h:smT x):ap10 (kY 20000000) x=some (if exT x then 1 else 0):=by
 obtain ⟨a,b,c,_⟩:=h;exact Jy 20000000 _ _ _ _ _ _ _ _ _ _ (by omega) (by omega) (by omega) (by omega)
theorem rsT (x:TD):ap10 (cV 20000000) x=some (seT x):=wZ 20000000 (by omega) _ _ _ _ _ _ _ _ _ _
theorem fpT {x:TD} (h:smT x):ap10 (aX 20000000) x=some (if x.2.2.2.2.2.2.1=[] then (if 0<seT x then 0 else if x.2.2.2.2.2.1=[] then 1 else 2) else 3):=Ht 20000000 _ _ _ _ _ _ _ _ _ _ h.1
theorem fmT {x:TD} (h:smT x):ap10 (cJ 20000000) x=some (hasX x.2.2.1||(hasX x.2.2.2.2.2.1||hasX x.2.2.2.2.2.2.1)):=by
 obtain ⟨a,b,c,_⟩:=h;exact Au 20000000 _ _ _ _ _ _ _ _ _ _ (by omega) (by omega) (by omega)
theorem fdT {x:TD} (h:smT x):ap10 (ct 20000000) x=some (if cF x=0 then (if exT x=true then (0,(dyT x).1,0,(dyT x).2,0) else (0,0,0,0,1)) else (0,0,0,0,cF x)):=C3 h.1 h.2.1 h.2.2.1 h.2.2.2.1 h.2.2.2.2.1 h.2.2.2.2.2
theorem uY {x:TD} (hc:cF x=0):(x.2.2.2.2.2.1=[]\/x.2.2.2.2.2.1.length=2)/\(x.2.2.2.2.2.2.1=[]\/x.2.2.2.2.2.2.1.length=2)/\(x.2.2.2.2.2.2.1≠[]->x.2.2.2.2.2.1≠[]/\seT x=0):=by
 obtain ⟨_,a,b,_,c⟩:=rq (pF hc);exact ⟨a,b,c⟩
theorem kZ {x y:TD}:eqD x y=true↔x=y:=by
 obtain ⟨a1,a2,o,c,f,p,e,m,n,b⟩:=x;obtain ⟨b1,b2,g,k,j,d,l,i,h,a⟩:=y;simp [and_assoc]
theorem FV {x:TD} (h:smT x):mi 20000000 x=some (exT x):=by
 unfold mi;rw [fmT h];simp only [ob,exT,exD];cases (hasX x.2.2.1||(hasX x.2.2.2.2.2.1||hasX x.2.2.2.2.2.2.1))<;>rfl
theorem zT {x:TD} (h:smT x):jY 20000000 x=some (plT x):=by
 unfold jY plT;rw [fcT h,FV h,fpT h];simp only [ob];by_cases hc:cF x=0
 ·rw [hc];cases d:exT x
  ·rfl
  ·show some ((if _ then _ else _) != (0:Int))=some (true&&(true&&!decide (0<seT x)));obtain ⟨_,_,c⟩:=uY hc;by_cases a:x.2.2.2.2.2.2.1=[]
   ·rw [ae a];by_cases hs:0<seT x
    ·rw [ae hs,am hs];rfl
    ·rw [ab hs,aq hs];by_cases b:x.2.2.2.2.2.1=[]
     ·rw [ae b];rfl
     ·rw [ab b];rfl
   ·rw [ab a,(c a).2];rfl
 ·rw [aq hc,show (cF x==0)=false from by simp [hc]];rfl
theorem G8 {x:TD}:plT x=true↔cF x=0/\exT x=true/\¬0<seT x:=by
 unfold plT;simp [and_assoc]
noncomputable def ordB (x y:TD):Bool:=(plT x&&plT y)&&(decide (coT x=coT y)&&decide ((dyT x).1<=(dyT y).1))
theorem xT {x:TD} (hc:cF x=0) (hs:¬0<seT x):(if x.2.2.2.2.2.2.1=[] then (if 0<seT x then (0:Int) else if x.2.2.2.2.2.1=[] then 1 else 2) else 3)=((coT x:Nat):Int):=by
 obtain ⟨_,_,c⟩:=uY hc;unfold coT cw;by_cases a:x.2.2.2.2.2.2.1=[]
 ·rw [ae a,ab hs];by_cases b:x.2.2.2.2.2.1=[]
  ·simp [b,a]
  ·simp [b,a]
 ·have b:=(c a).1;simp [a,b]
theorem GX {x y:TD} (hx:smT x) (hy:smT y):lu 20000000 x y=some (ordB x y):=by
 unfold lu ordB;rw [zT hx,zT hy];cases g:plT x
 ·rfl
 cases i:plT y
 ·rfl
 obtain ⟨d,m,l⟩:=G8.1 g;obtain ⟨b,f,h⟩:=G8.1 i;rw [fpT hx,fpT hy,fdT hx,fdT hy,xT d l,xT b h,ae d,ae b,ae m,ae f];simp only [ob,u5,u4,u3,u2,cN,af,Bool.and_self,qm];by_cases a:coT x=coT y
 ·rw [a,am rfl];obtain ⟨r,j,k⟩:=yq (dyT x).1 (dyT y).1;simp only [fD,af,j,qm];refine bO some ?_;have:decide (r<=0)=!decide (r>0):=by
   by_cases c:r<=0
   ·rw [am c,aq (by omega)];rfl
   ·rw [aq c,am (by omega)];rfl
  rw [this,k];by_cases e:(dyT x).1<=(dyT y).1
  ·rw [am e,aq (by omega)];rfl
  ·rw [aq e,am (by omega)];rfl
 ·have:(((coT x:Nat):Int) != ((coT y:Nat):Int))=true:=by simp;omega
  rw [this,aq a];rfl
noncomputable def itE (x:TD) (r:Bool) (y:TD) (all:Bool):Int:=
 if cF x≠0 then cF x else if r=true/\cF y≠0 then cF y else if r=false/\eqD y d0=false then 5 else if r=true/\ordB x y=false then 10 else if all=true/\exT x=false then 10 else 0
theorem zY {x y:TD} (r:Bool) (hx:smT x) (hy:smT y) (K:Int) (hc:cF x=0) (a:¬(r=true/\cF y≠0)):dH 20000000 5 10 10 x r y K=some (itE x r y (K==4)):=by
 unfold dH o5 oW oZ itE;rw [GX hx hy,FV hx,ab (by simpa using hc),ab a];cases r
 ·generalize eqD y d0=z;cases z
  ·rfl
  ·cases (K==4)
   ·rfl
   ·cases exT x<;>rfl
 ·simp only [ob,cN,af,aj,reduceCtorEq,false_and,aE,ku];cases ordB x y
  ·rfl
  ·simp only [cN,af,Bool.true_eq_false,aE];cases (K==4)
   ·rfl
   ·cases exT x<;>rfl
theorem CP {x y:TD} (r:Bool) (hx:smT x) (hy:smT y) (K:Int):fe 20000000 x r y K=some (if K=3\/K=4 then itE x r y (K==4) else 18):=by
 have b:(ob (ap10 (bf 20000000) x) λd=>(cond (d != 0) (some d) (cond r (ob (ap10 (bf 20000000) y) λf=>(cond (f != 0) (some f) (ob (dH 20000000 5 10 10 x r y K) λg=>(some g)))) (ob (dH 20000000 5 10 10 x r y K) λh=>(some h)))))=some (itE x r y (K==4)):=by
  rw [fcT hx];simp only [ob];by_cases hc:cF x=0
  ·rw [show (cF x != 0)=false from by simp [hc],af];cases r
   ·rw [zY false hx hy K hc (by simp)];rfl
   ·rw [aj,fcT hy];simp only;by_cases a:cF y=0
    ·rw [show (cF y != 0)=false from by simp [a],af,zY true hx hy K hc (by simp [a])]
    ·rw [show (cF y != 0)=true from by simp [a],aj];unfold itE;rw [ab (by simpa using hc),ae ⟨rfl,a⟩]
  ·rw [show (cF x != 0)=true from by simp [hc],aj];unfold itE;rw [ae hc]
 unfold fe;by_cases e:K=3
 ·subst e;exact b.trans (by rfl)
 ·rw [show (K != 3)=true from by simp [e],aj];by_cases c:K=4
  ·subst c;exact b.trans (by rfl)
  ·rw [show (K != 4)=true from by simp [c],aj,ab (by omega)]
theorem Uf {x y:TD} {r all:Bool} (h:cF x≠0):itE x r y all=cF x:=ae h
theorem Tu {x y:TD} {all:Bool} (hc:cF x=0) (h:cF y≠0):itE x true y all=cF y:=by
 unfold itE;rw [ab (λh=>h hc),ae ⟨rfl,h⟩]
theorem UT {x y:TD} {all:Bool} (hc:cF x=0):itE x false y all=if eqD y d0=false then 5 else if all=true/\exT x=false then 10 else 0:=by
 have b:(false=true/\cF y≠0)↔False:=by simp
 have a:(false=true/\ordB x y=false)↔False:=by simp
 have c:(false=false/\eqD y d0=false)↔eqD y d0=false:=by simp
 unfold itE;rw [ab (λh=>h hc)];simp only [b,a,aE,ku]
theorem Ux {x y:TD} {all:Bool} (hc:cF x=0) (hy:cF y=0):itE x true y all=if ordB x y=false then 10 else if all=true/\exT x=false then 10 else 0:=by
 have b:(true=true/\ordB x y=false)↔ordB x y=false:=by simp
 have a:(true=false/\eqD y d0=false)↔False:=by simp
 unfold itE;rw [ab (λh=>h hc),ab (λh=>h.2 hy)];simp only [a,aE,ku]
def sw {A:Type} (f:Nat->A->Int):Nat->List A->Option (Nat×Int)
 | _,[]=>none
 | i,t::r=>if f i t≠0 then some (i,f i t) else sw f (i+1) r
theorem GQ {A X Y:Type} {step:X->Option (X⊕Y)} {st:Nat->X} {L:List A} {f:Nat->A->Int} {yes:Nat->Int->Y} {no:Y}
  (e:∀i t,L[i]?=some t->step (st i)=some (if f i t≠0 then .inr (yes i (f i t)) else .inl (st (i+1)))) (g:step (st L.length)=some (.inr no)):
  ∀(r i:Nat),i+r=L.length->∀N,r<N->ar step N (st i)=some (match sw f i (L.drop i) with | some p=>yes p.1 p.2 | none=>no):=by
 intro r
 induction r with
 | zero=>
  intro i hi N c;obtain ⟨N,rfl⟩:∃k,N=k+1:=⟨N - 1,by omega⟩;rw [ar,show i=L.length by omega,g,wI];rfl
 | succ r ih=>
  intro i hi N c;obtain ⟨N,rfl⟩:∃k,N=k+1:=⟨N - 1,by omega⟩;have a:i<L.length:=by omega
  have d:L[i]?=some L[i]:=bn a;rw [ar,e i _ d,rz a,sw];by_cases b:f i L[i]≠0
  ·rw [ae b,ae b]
  ·rw [ab b,ab b];exact ih (i+1) (by omega) N (by omega)
abbrev rT (t:TI):Bool:=(d8 t).2.2.1
abbrev iT (t:TI):TD:=(d8 t).2.2.2
def smI (t:TI):Prop:=smT (iF t)/\smT (iT t)
noncomputable def itI (t:TI) (all:Bool):Int:=itE (iF t) (rT t) (iT t) all
noncomputable def endB (t:TI):Bool:=!rT t&&plT (iF t)
noncomputable def errI (K:Int) (e l:Bool) (n i:Nat) (t:TI):Int:=
 if itI t (K==4)≠0 then itI t (K==4) else if (e&&decide (i=0))&&!endB t||((l&&decide (i+1=n))&&!endB t||(e&&(l&&decide (n=1)))) then 10 else 0
noncomputable def xq (K:Int) (e l:Bool) (L:List TI):Int×Int:=match sw (errI K e l L.length) 0 L with
 | some p=>((p.1:Int),p.2)
 | none=>(0,0)
theorem qK {i:Nat} (h:i<9223372036854775807):w64 ((i:Int)+1)=((i+1:Nat):Int):=by
 show IntKind.wrap .i64 _=_;rw [wrap_i64 _ (by omega) (by omega)];omega
theorem Ko {i:Nat} (a:0<i) (h:i<9223372036854775807):w64 ((i:Int) - 1)=((i - 1:Nat):Int):=by
 show IntKind.wrap .i64 _=_;rw [wrap_i64 _ (by omega) (by omega)];omega
theorem natB (a b:Nat):(((a:Nat):Int)==((b:Nat):Int))=decide (a=b):=by
 by_cases h:a=b
 ·subst h;simp
 ·rw [aq h];simp;omega
theorem P3 (a:Nat):(((a:Nat):Int)==0)=decide (a=0):=natB a 0
theorem RF {x y:TD} (r:Bool) (hx:smT x):lY 20000000 x r y=some (!r&&plT x):=by
 unfold lY;rw [zT hx];cases r<;>rfl
theorem J8 {K:Int} (k:K=3\/K=4) {e l:Bool} {L:List TI} {i:Nat} {t:TI} (hi:L[i]?=some t) (hs:smI t) (o:L.length<=1000000) (D:TD) (KF:Int) (DF:TD) (KT:Int) (DT:TD):
  fE 20000000 (itI t (K==4)) 10 10 10 (iF t) (rT t) (iT t) K D KF DF KT DT e l (i:Int) (w64 (len L - 1)) L=some (errI K e l L.length i t):=by
 have m:i<L.length:=(tu.1 hi).1;have d:w64 (len L - 1)=((L.length - 1:Nat):Int):=Ko (by omega) (by omega);have g:fe 20000000 (iF t) (rT t) (iT t) K=some (itI t (K==4)):=by
  rw [CP _ hs.1 hs.2,ae k];rfl
 unfold fE og oh nV nD errI;rw [g,d];simp only [RF (rT t) hs.1,ob,P3,natB];have n:decide (i=L.length - 1)=decide (i+1=L.length):=by congr 1;exact propext (by omega)
 have j:decide (L.length - 1=0)=decide (L.length=1):=by congr 1;exact propext (by omega)
 rw [n,j];show cond (itI t (K==4) != 0) _ _=_;by_cases f:itI t (K==4)=0
 ·rw [ab (λh=>h f),show (itI t (K==4) != 0)=false from by simp [f],af];show _=some (if ((e&&decide (i=0))&&!endB t||((l&&decide (i+1=L.length))&&!endB t||(e&&(l&&decide (L.length=1)))))=true then 10 else 0);unfold endB;generalize (!rT t&&plT (iF t))=z;generalize decide (i=0)=a;generalize decide (i+1=L.length)=b;generalize decide (L.length=1)=c;cases e<;>cases l<;>cases z<;>cases a<;>cases b<;>cases c<;>rfl
 ·rw [ae f,show (itI t (K==4) != 0)=true from by simp [f],aj]
theorem MU {K:Int} (g:K=3\/K=4) {e l:Bool} {L:List TI} (hs:∀t∈L,smI t) (j:L.length<=1000000) (D:TD) (KF:Int) (DF:TD) (KT:Int) (DT:TD):
  ka 20000000 K D KF DF KT DT e l L=some (xq K e l L):=by
 have:=GQ (step:=eM 20000000) (st:=λi=>(len L,(i:Int),L,K,D,KF,DF,KT,DT,e,l,w64 (len L - 1))) (L:=L) (f:=errI K e l L.length) (yes:=λi q=>.inl ((i:Int),q)) (no:=.inr ())
  (λi t hi=>by
   have d:i<L.length:=(tu.1 hi).1;have a:=hs t (fH hi);have c:fe 20000000 (iF t) (rT t) (iT t) K=some (itI t (K==4)):=by
    rw [CP _ a.1 a.2,ae g];rfl
   unfold eM;simp only [u12,u11,u10,u9,u8,u7,u6,u5,u4,u3,u2];rw [am (show (i:Int)<len L by unfold len;omega),fb d];simp only [aj,ob,hi];rw [show fe 20000000 (iF t) (d8 t).2.2.1 (d8 t).2.2.2 K=some (itI t (K==4)) from c];simp only;rw [show fE 20000000 (itI t (K==4)) 10 10 10 (iF t) (d8 t).2.2.1 (d8 t).2.2.2 K D KF DF KT DT e l (i:Int) (w64 (len L - 1)) L=some (errI K e l L.length i t) from J8 g hi a j D KF DF KT DT];simp only;rw [qK (by omega)];by_cases b:errI K e l L.length i t=0
   ·rw [ab (λh=>h b),show (errI K e l L.length i t != 0)=false from by simp [b]];rfl
   ·rw [ae b,show (errI K e l L.length i t != 0)=true from by simp [b]];rfl)
  (by
   unfold eM;simp only [u12,u11,u10,u9,u8,u7,u6,u5,u4,u3,u2];rw [aq (show ¬((L.length:Nat):Int)<len L by unfold len;omega)];rfl)
  L.length 0 (by omega) 20000000 (by omega)
 unfold ka xq;rw [cg] at this;show obs (ar (eM 20000000) 20000000 (len L,((0:Nat):Int),L,K,D,KF,DF,KT,DT,e,l,w64 (len L - 1))) _ _=_;rw [this];cases sw (errI K e l L.length) 0 L<;>rfl
noncomputable def sc (K:Int) (x:TD):Int:=chkB K x.1 x.2.1 x.2.2.1 x.2.2.2.1 x.2.2.2.2.1 x.2.2.2.2.2.1 x.2.2.2.2.2.2.1 x.2.2.2.2.2.2.2.1 x.2.2.2.2.2.2.2.2.1 x.2.2.2.2.2.2.2.2.2
noncomputable def nS (K:Int) (x:TD) (a:Int) (y:TD):Int:=H7 (sc K x) (sc a y) K a (dyT x).1 (dyT y).2
theorem Jw {x y:TD} (hx:smT x) (hy:smT y) (K a:Int):ap10 (ap10 (gg 20000000 K) x a) y=some (nS K x a y):=
 Pj hx.1 hx.2.1 hx.2.2.1 hx.2.2.2.1 hx.2.2.2.2.1 hx.2.2.2.2.2 hy.1 hy.2.1 hy.2.2.1 hy.2.2.2.1 hy.2.2.2.2.1 hy.2.2.2.2.2
def unuB (K:Int) (D:TD) (KF:Int) (DF:TD) (KT:Int) (DT:TD) (e l:Bool) (n:Nat):Bool:=
 !(K==1||eqD D d0)||(!(K==2||((KF==0)&&((eqD DF d0)&&true))&&((KT==0)&&((eqD DT d0)&&true)))||!(K==3||(K==4||(decide (n=0)&&(!e&&!l)))))
theorem JL (n:Nat) (K:Int) (D:TD) (KF:Int) (DF:TD) (KT:Int) (DT:TD) (e l:Bool) (L:List TI):
  kT n K D KF DF KT DT e l L=some (unuB K D KF DF KT DT e l L.length):=by
 unfold kT unuB;rw [show (len L==0)=decide (L.length=0) from P3 _];generalize eqD D d0=b;generalize ((KF==0)&&((eqD DF d0)&&true))=z1;generalize ((KT==0)&&((eqD DT d0)&&true))=z2;generalize decide (L.length=0)=a;generalize (K==1)=k1;generalize (K==2)=k2;generalize (K==3)=c;generalize (K==4)=k4;revert b z1 z2 a k1 k2 c k4 e l;decide +kernel
noncomputable def fa (K:Int) (D:TD) (KF:Int) (DF:TD) (KT:Int) (DT:TD) (e l:Bool) (L:List TI):Int×Int:=
 if K<1\/4<K then (0,18) else if unuB K D KF DF KT DT e l L.length=true then (0,5) else if K=1 then (0,cF D) else if K=2 then (0,nS KF DF KT DT) else if L.length=0 then (0,17) else if 256<L.length then (0,3) else xq K e l L
def smE (D DF DT:TD) (L:List TI):Prop:=smT D/\smT DF/\smT DT/\∀t∈L,smI t
theorem EI {K:Int} {D:TD} {KF:Int} {DF:TD} {KT:Int} {DT:TD} {e l:Bool} {L:List TI} (h:smE D DF DT L):
  kj 20000000 K D KF DF KT DT e l L=some (fa K D KF DF KT DT e l L):=by
 obtain ⟨i,f,j,g⟩:=h;unfold kj fa;by_cases b:K<1
 ·rw [am b,ae (.inl b)];rfl
 by_cases c:4<K
 ·rw [aq b,show decide (K>4)=true from am c,ae (.inr c)];rfl
 rw [aq b,show decide (K>4)=false from aq c,ab (by omega),JL];simp only [af,ob];cases unuB K D KF DF KT DT e l L.length
 ·simp only [af,bj,aE];by_cases k1:K=1
  ·rw [ae k1,show (K==1)=true from by simp [k1],fcT i];rfl
  by_cases k2:K=2
  ·rw [ab k1,ae k2,show (K==1)=false from by simp [k1],show (K==2)=true from by simp [k2],Jw f j];rfl
  rw [ab k1,ab k2,show (K==1)=false from by simp [k1],show (K==2)=false from by simp [k2]];simp only [af];rw [show (len L==0)=decide (L.length=0) from P3 _];by_cases a:L.length=0
  ·rw [am a,ae a];rfl
  rw [aq a,ab a];by_cases d:256<L.length
  ·rw [show decide (len L>256)=true from am (by show (256:Int)<((L.length:Nat):Int);omega),ae d];rfl
  rw [show decide (len L>256)=false from aq (by show ¬(256:Int)<((L.length:Nat):Int);omega),ab d,MU (by omega) g (by omega)];rfl
 ·rfl
theorem yR {K:Int} {D:TD} {KF:Int} {DF:TD} {KT:Int} {DT:TD} {e l:Bool} {L:List TI} (h:smE D DF DT L):
  gB 20000000 K D KF DF KT DT e l L=some (fa K D KF DF KT DT e l L).2:=by
 unfold gB;rw [EI h];rfl
abbrev TR:=n6
def natI (x:Int) (b:Nat):Prop:=0<=x/\x<(b:Int)
def wfD (a0 a2 f a c g b d e:Int):Prop:=natI a0 256/\natI a2 65536/\natI f 256/\natI a 256/\natI c 256/\natI g 256/\natI b 256/\natI d 256/\natI e 256
theorem natI.nat {x:Int} {b:Nat} (h:natI x b):∃n:Nat,x=(n:Int)/\n<b:=⟨x.toNat,by have:=h.1;omega,by have:=h.1;have:=h.2;omega⟩
theorem LU:((List.range 13).all λj=>sea (monT j)==0)=true:=by decide +kernel
theorem UJ (a0 a2 f b a h j n m:Nat) (g:Bool) (t:a2<65536) (u:f<256) (o:b<256) (p:a<256) (v:h<256) (w:a%40<=12):
  ∃r:TD,aO 20000000 (a0:Int) g (a2:Int) (f:Int) (b:Int) (a:Int) (h:Int) (j:Int) (n:Int) (m:Int)=some r/\seT r=0:=by
 obtain ⟨y,l,dg,x,q,s,d,e,_,_,_,_,i,c,_⟩:=KO 19999700 a0 a2 f b a h j n m g t u o p v;refine ⟨_,e,?_⟩;show sea s=0;by_cases k:q=0
 ·rw [c k];have:=(bG.1 LU) (a%40) (iH.2 (by omega));simpa using this
 ·rw [(i k).1];decide
theorem ExI {a0 a2 k m f b i n j:Int} (g:Bool) (h:wfD a0 a2 k m f b i n j):
  ∃x:TD,dl 20000000 a0 g a2 k m f b i n j=some x/\smT x/\cF x=0/\exT x=true/\(Int.tmod f 40<=12->seT x=0):=by
 obtain ⟨R,T,s,q,D,v,C,N,E⟩:=h;obtain ⟨a0,rfl,b0⟩:=R.nat;obtain ⟨a2,rfl,b2⟩:=T.nat;obtain ⟨k,rfl,B⟩:=s.nat;obtain ⟨m,rfl,w⟩:=q.nat;obtain ⟨f,rfl,z⟩:=D.nat;obtain ⟨b,rfl,M⟩:=v.nat;obtain ⟨i,rfl,V⟩:=C.nat;obtain ⟨n,rfl,U⟩:=N.nat;obtain ⟨j,rfl,W⟩:=E.nat;obtain ⟨F,l,dg,x,P,d,k0,k1,k2,e,hc,O,t,p,u⟩:=LJ 19999700 a0 a2 k m f b i n j g b0 b2 B w z M;refine ⟨_,e,⟨t,u,p,by simp,by simp,by simp⟩,hc,O,λH=>?_⟩;have A:Int.tmod (f:Int) 40=((f%40:Nat):Int):=rfl;rw [A] at H;have G:Int.tmod (b:Int) 40=((b%40:Nat):Int):=rfl;have J:Int.tdiv ((b%40:Nat):Int) 2=((b%40 / 2:Nat):Int):=rfl;have L:IntKind.wrap .u8 ((b%40 / 2:Nat):Int)=((b%40 / 2:Nat):Int):=gh _ (by omega) (by omega);have S:=λ(I c6:Nat) (v:c6<256)=>UJ I a2 k m f c6 i n j g b2 B w z v (by omega);have e':dl 20000000 (a0:Int) g (a2:Int) (k:Int) (m:Int) (f:Int) (b:Int) (i:Int) (n:Int) (j:Int)=some (F,l,dg,x,0,P,d,((k0:Nat):Int),((k1:Nat):Int),((k2:Nat):Int)):=e;have key:∀(o:Option TD) (y:TD),(∃r:TD,o=some r/\seT r=0)->(ob o λa=>(cond (decide ((d4 a).1>0)) (some (a.1,a.2.1,a.2.2.1,a.2.2.2.1,(0:Int),(d4 a).2.1,(d4 a).2.2.1,(d4 a).2.2.2.1,(d8 a).1,(d8 a).2)) (some (a.1,a.2.1,a.2.2.1,a.2.2.2.1,(d4 a).1,(d4 a).2.1,(d4 a).2.2.1,(d4 a).2.2.2.1,(d8 a).1,(d8 a).2))))=some y->seT y=0:=by
  rintro o y ⟨r,rfl,K⟩ hy;simp only [ob] at hy;cases Q:decide ((d4 r).1>0)<;>rw [Q] at hy<;>simp only [aj,af,ak] at hy<;>subst hy<;>exact K
 unfold dl at e';rw [A,G,J,L] at e';rw [aq (show ¬((f%40:Nat):Int)>33 by omega)] at e';simp only [af] at e';have X:(0:Int)=((0:Nat):Int):=rfl;cases s:(Int.tmod (a0:Int) 6==3)<;>rw [s] at e'<;>simp only [aj,af] at e'
 ·cases q:(Int.tmod (a0:Int) 6==4)<;>rw [q] at e'<;>simp only [aj,af] at e'
  ·cases c:decide (((b%40:Nat):Int)>31)<;>rw [c] at e'<;>simp only [aj,af] at e'
   ·exact key _ _ (S a0 b (by omega)) e'
   ·exact key _ _ (S a0 (b%40 / 2) (by omega)) e'
  ·cases c:decide (((b%40:Nat):Int)>31)<;>rw [c] at e'<;>simp only [aj,af] at e'
   ·exact key _ _ (S 0 b (by omega)) e'
   ·exact key _ _ (S 0 (b%40 / 2) (by omega)) e'
 ·cases c:decide (((b%40:Nat):Int)>31)<;>rw [c] at e'<;>simp only [aj,af] at e'
  ·exact key _ _ (S 0 b (by omega)) e'
  ·exact key _ _ (S 0 (b%40 / 2) (by omega)) e'
structure RightE (k:Int) (D:TD) (KF:Int) (DF:TD) (KT:Int) (DT:TD) (e l:Bool) (I:List TI):Prop where
 sm:smE D DF DT I
 first:fa k D KF DF KT DT e l I=(0,0)
 len:I.length<=5
 kind:1<=k/\k<=4
 its:∀t∈I,itI t (k==4)=0
theorem BA {x:TD} (hs:smT x) (hc:cF x=0):RightE 1 x 0 d0 0 d0 false false []:=by
 refine ⟨⟨hs,nP,nP,λt c=>by cases c⟩,?_,by simp,by omega,by simp⟩;have b:eqD d0 d0=true:=kZ.2 rfl;have a:unuB 1 x 0 d0 0 d0 false false ([]:List TI).length=false:=by unfold unuB;rw [b];rfl
 unfold fa;rw [ab (by omega),ab (by rw [a];simp),ae rfl,hc]
theorem wS {KF KT:Int} {x y:TD} (hx:smT x) (hy:smT y) (h:nS KF x KT y=0):RightE 2 d0 KF x KT y false false []:=by
 refine ⟨⟨nP,hx,hy,λt c=>by cases c⟩,?_,by simp,by omega,by simp⟩;have b:eqD d0 d0=true:=kZ.2 rfl;have a:unuB 2 d0 KF x KT y false false ([]:List TI).length=false:=by unfold unuB;rw [b];rfl
 unfold fa;rw [ab (by omega),ab (by rw [a];simp),ab (by omega),ae rfl,h]
theorem DG (x:TD):sc 1 x=if cF x=0 then if exT x=true then 0 else 11 else cF x:=by
 unfold sc chkB;rw [ae rfl];rfl
theorem CX {x:TD} (h:sc 1 x=0):cF x=0/\exT x=true:=by
 rw [DG] at h;by_cases hc:cF x=0
 ·rw [ae hc] at h;by_cases a:exT x=true
  ·exact ⟨hc,a⟩
  ·rw [ab a] at h;cases h
 ·rw [ab hc] at h;exact absurd h hc
theorem zR {x:TD} (hc:cF x=0) (a:exT x=true):sc 1 x=0:=by
 rw [DG,ae hc,ae a]
theorem Qc {KF KT:Int} {x y:TD} (b:sc KF x=0) (a:sc KT y=0):nS KF x KT y=if KF≠1/\KT≠1 then 11 else if KF≠1\/KT≠1 then 0 else if (dyT x).1>(dyT y).2 then 11 else 0:=by
 unfold nS H7;rw [b,a,ab (λh=>h rfl),ab (λh=>h rfl)]
noncomputable instance decTI:DecidableEq TI:=λa b=>Classical.propDecidable (a=b)
theorem yG (n:Nat) (t S R:aa) (a:Int) (o:t.length<4611686018427387904) (p:t.length<n):
  ar (dq n) n (t,0,R,S,a)=some (((lcp R t:Nat):Int),S,a):=by
 have:=fq (step:=dq n)
  (λx=>∃j:Nat,j<=t.length/\x=(t,(j:Int),R,S,a)) (λx=>t.length - x.2.1.toNat)
  (λx=>(((x.2.1.toNat+lcp (R.drop x.2.1.toNat) (t.drop x.2.1.toNat):Nat):Int),S,a)) ?_ n (t,0,R,S,a) ⟨0,by omega,rfl⟩ (by simp;omega)
 ·simpa using this
 rintro x ⟨j,q,rfl⟩;simp only [bR,dq,O6];by_cases e:j<t.length/\j<R.length
 ·obtain ⟨i,l⟩:=e;obtain ⟨c,hc⟩:∃c,t[j]?=some c:=⟨t[j],bn i⟩;obtain ⟨d,h⟩:∃d,R[j]?=some d:=⟨R[j],bn l⟩;have g:IntKind.wrap .i64 ((j:Int)+1)=((j+1:Nat):Int):=by rw [wrap_i64 _ (by omega) (by omega)];omega
  have f:(decide ((j:Int)<((min t.length R.length:Nat):Int)))=true:=by simp only [bV];omega
  have b:(decide ((j:Int)<((min R.length t.length:Nat):Int)))=true:=by simp only [bV];omega
  simp only [f,b,aj,dK hc,dK h,ob,na,bS hc,bS h,lcp];cases m:d==c with
  | true=>
   refine .inl ⟨_,rfl,⟨j+1,by omega,by rw [g]⟩,?_,?_⟩
   ·simp only [g,bR];omega
   ·simp only [g,bR,bz,vf,aI];omega
  | false=>exact .inr (by simp)
 ·have f:(decide ((j:Int)<((min t.length R.length:Nat):Int)))=false:=by simp only [so];omega
  have b:(decide ((j:Int)<((min R.length t.length:Nat):Int)))=false:=by simp only [so];omega
  refine .inr ?_;have k:lcp (R.drop j) (t.drop j)=0:=by
   by_cases i:j<t.length
   ·rw [iD (show R.length<=j by omega)];rfl
   ·rw [iD (show t.length<=j by omega)];cases R.drop j<;>rfl
  simp only [f,b,k,af,bZ]
theorem yU (n:Nat) (t S:aa) (a:Nat) (h:a<=S.length) (e:S.length<4611686018427387904) (b:t.length<4611686018427387904) (c:t.length<n):
  bN n t S (a:Int)=some (if (S.drop a).take t.length=t then .inl (S,((a+t.length:Nat):Int)) else .inr (((a+lcp (S.drop a) t:Nat):Int),5,S,(a:Int))):=by
 have d:=vj (S.drop a) t;rw [cu] at d;simp only [bN,lq n t S a h e,ob];by_cases hp:(S.drop a).take t.length=t
 ·simp [hp]
 ·have f:IntKind.wrap .i64 ((a:Int)+((lcp (S.drop a) t:Nat):Int))=((a+lcp (S.drop a) t:Nat):Int):=by rw [wrap_i64 _ (by omega) (by omega)];omega
  simp only [hp,aE,af,rJ n S a h,yG n t S (S.drop a) (a:Int) b c,AM,f,tW];simp
def tdR (r:DR):TD:=(r.1,r.2.1,r.2.2.1,(r.2.2.2.1:Int),(r.2.2.2.2.1:Int),r.2.2.2.2.2.1,r.2.2.2.2.2.2.1,(r.2.2.2.2.2.2.2.1.1:Int),(r.2.2.2.2.2.2.2.1.2.1:Int),(r.2.2.2.2.2.2.2.1.2.2:Int))
theorem lJ {S:aa} {a:Nat} (h:a<=S.length) {r:DR} (f:dX S a=.inr r):smT (tdR r)/\cF (tdR r)=0/\a<=enR r/\enR r<=S.length:=by
 obtain ⟨c,b⟩:=FT h f;obtain ⟨g,l,dg,x,s,m,d,M,P,e⟩:=r;have ok:=FB h c;have:=ok.dg17;have:=ok.m2;have:=ok.d2;refine ⟨⟨by show m.length<=18;omega,by show dg.length<=100;omega,by show d.length<=18;omega,by show (0:Int)<=(M.1:Int);omega,by show (0:Int)<=(M.2.1:Int);omega,by show (0:Int)<=(M.2.2:Int);omega⟩,?_,ok.le,ok.end_⟩;have hc:=xb (g:=g) (l:=l) (dg:=dg) (x:=(x:Int)) (q:=(s:Int)) (m:=m) (d:=d) (k0:=(M.1:Int)) (k1:=(M.2.1:Int)) (k2:=(M.2.2:Int)) (vt ok.all);unfold chkR at b;simp only [] at b;show chkF g l dg (x:Int) (s:Int) m d (M.1:Int) (M.2.1:Int) (M.2.2:Int)=0;omega
def dts (l:aa):Bool:=l.take 2==[46,46]
theorem vU {l:aa}:dts l=true↔∃r,l=46::46::r:=by
 unfold dts;rw [bp];constructor
 ·exact GE
 ·rintro ⟨r,rfl⟩;rfl
theorem sa {S:aa} {p:Nat} (h:dts (S.drop p)=true):p+2<=S.length:=by
 obtain ⟨r,a⟩:=vU.1 h;have:=bO List.length a;simp at this;omega
noncomputable def oz (S:aa) (b:UInt8) (p:Nat):(Nat×Nat×Nat)⊕(TI×Nat×Nat):=
 match dX S p with
 | .inl f=>.inl f
 | .inr r=>if dts (S.drop (enR r))=true/\(S.drop (enR r+2)).head?≠some b then
   match dX S (enR r+2) with
   | .inl f=>.inl f
   | .inr a=>.inr (mkI (tdR r) true (tdR a),plR r,enR a)
  else .inr (mkI (tdR r) false d0,plR r,enR r)
theorem BX {S:aa} {j:UInt8} {p:Nat} (h:p<=S.length) {t:TI} {a d:Nat} (b:oz S j p=.inr (t,a,d)):smI t/\p<=d/\d<=S.length:=by
 unfold oz at b;cases c:dX S p with
 | inl f=>rw [c] at b;cases b
 | inr r=>
  obtain ⟨g,_,m,k⟩:=lJ h c;rw [c] at b;simp only [] at b;split at b
  ·rename_i n;have:=sa n.1;cases e:dX S (enR r+2) with
   | inl f=>rw [e] at b;cases b
   | inr o=>
    obtain ⟨i,_,l3,l⟩:=lJ (by omega) e;rw [e] at b;cases b;exact ⟨⟨g,i⟩,by omega,l⟩
  ·cases b;exact ⟨⟨g,nP⟩,m,k⟩
noncomputable def nl (S:aa) (c:UInt8):Nat->Nat->List Nat->List TI->(Nat×Nat×Nat)⊕(Nat×List Nat×List TI)
 | 0,p,_,_=>.inl (p,3,p)
 | r+1,p,P,I=>match oz S c p with
  | .inl f=>.inl f
  | .inr (t,a,b)=>if (S.drop b).head?=some 44 then nl S c r (b+1) (P++[a]) (I++[t]) else .inr (b,P++[a],I++[t])
theorem me {S:aa} {p:Nat} {c:UInt8} (h:(S.drop p).head?=some c):p+1<=S.length:=by
 cases b:S.drop p with
 | nil=>rw [b] at h;cases h
 | cons a r=>
  have:=bO List.length b;simp at this;omega
theorem BM {S:aa} {j:UInt8}:∀(r p:Nat) (P:List Nat) (I:List TI),p<=S.length->P.length=I.length->(∀t∈I,smI t)->∀{d:Nat} {c:List Nat} {b:List TI},nl S j r p P I=.inr (d,c,b)->
  d<=S.length/\c.length=b.length/\I.length<b.length/\b.length<=I.length+r/\(∀t∈b,smI t)
 | 0,p,P,I,_,_,_,d,c,b,e=>by cases e
 | r+1,p,P,I,h,i,hs,d,c,b,e=>by
  rw [nl] at e;cases g:oz S j p with
  | inl f=>rw [g] at e;cases e
  | inr q=>
   obtain ⟨t,a,s⟩:=q;obtain ⟨n,z,v⟩:=BX h g;rw [g] at e;simp only [] at e;have hs':∀u∈I++[t],smI u:=λu y=>by
    rcases kX.1 y with h | h
    ·exact hs u h
    ·rw [vQ.1 h];exact n
   split at e
   ·rename_i x;obtain ⟨k,l,o,m,w⟩:=BM r (s+1) (P++[a]) (I++[t]) (me x) (by simp [i]) hs' e;rw [bE,List.length_singleton] at o m;exact ⟨k,l,by omega,by omega,w⟩
   ·cases e;exact ⟨v,by simp [i],by simp,by simp,hs'⟩
theorem dts3 (S:aa) (p:Nat) (c:UInt8):((S.drop p).take [46,46,c].length==[46,46,c])=(dts (S.drop p)&&decide ((S.drop (p+2)).head?=some c)):=by
 rw [<-gV];generalize S.drop p=l;unfold dts
 match l with
 | []=>rfl
 | [a]=>simp
 | [a,b]=>simp
 | a::b::d::r=>
  rw [ux];simp [and_assoc]
def endC (K:Int):UInt8:=if K=4 then 125 else 93
theorem uS {K:Int} (a:K=3\/K=4) (n:Nat):dI n K=some ([if K=4 then 123 else 91],[endC K]):=by
 rcases a with rfl | rfl<;>rfl
theorem QU (c:UInt8) {S:aa} {p:Nat} (h:p<=S.length) (a d:Int) (i:Bool) (e:List Int) (b:TD) (g f:List TI):
  kE 20000000 [c] a S (p:Int) d i e b g f=some ([c],a,dts (S.drop p)&&!decide ((S.drop (p+2)).head?=some c),S,(p:Int),d,i,e,b,g,f):=by
 unfold kE;rw [KN _ _ _ _ h];have hc:cat [46,46] [c]=some [46,46,c]:=rfl;simp only [ob,hc,KN _ _ _ _ h,dts3];show cond (dts (S.drop p)) _ _=_;cases j:dts (S.drop p)
 ·rfl
 ·cases decide ((S.drop (p+2)).head?=some c)<;>rfl
theorem tk1 (l:aa) (c:UInt8):l.take [c].length=[c]↔l.head?=some c:=by
 cases l<;>simp
theorem BZ (S:aa) (r:DR):RL S (.inr r)=.inr ((tdR r).1,(tdR r).2.1,(tdR r).2.2.1,(tdR r).2.2.2.1,(tdR r).2.2.2.2.1,(tdR r).2.2.2.2.2.1,(tdR r).2.2.2.2.2.2.1,(tdR r).2.2.2.2.2.2.2.1,(tdR r).2.2.2.2.2.2.2.2.1,(tdR r).2.2.2.2.2.2.2.2.2,((plR r:Nat):Int),S,((enR r:Nat):Int)):=rfl
theorem Ro (b:Bool) (c:UInt8) {S:aa} {p:Nat} (h:p<=S.length) (s:S.length<100000) (q:b=true->dts (S.drop p)=true) (d e:Int) (i:Bool) (g:List Int) (j:TD) (k a:List TI):
  kH 20000000 [c] d b S (p:Int) e i g j k a=some (if b=true then (match dX S (p+2) with
   | .inl f=>.inl ((f.1:Int),(f.2.1:Int),S,(f.2.2:Int))
   | .inr r=>.inr ([c],d,S,((enR r:Nat):Int),e,i,g,j,true,tdR r,k,a)) else .inr ([c],d,S,(p:Int),e,i,g,j,false,d0,k,a)):=by
 unfold kH;cases b
 ·rfl
 ·have l:=q rfl;have n:=sa l;have m:(S.drop p).take [(46:UInt8),46].length=[46,46]:=by
   obtain ⟨r,o⟩:=vU.1 l;rw [o];rfl
  rw [aj,yU _ _ _ _ h (by omega) (by simp) (by simp),ae m,ae rfl];show obs (gy 20000000 S ((p+2:Nat):Int)) _ _=_;rw [C0 S (p+2) n s];cases dX S (p+2) with
  | inl f=>rfl
  | inr r=>rfl
theorem za {α:Type} {I:List α} (h:I.length<=256):Nat.ble (I.length+1) gf=true:=cG (by unfold gf;omega)
abbrev ng (P:List Nat):List Int:=P.map λk:Nat=>(k:Int)
theorem Qh (c:UInt8) {S:aa} {p:Nat} (h:p<=S.length) (v:S.length<100000) (K:Int) (e:Bool) {P:List Nat} (J:List TI) {I:List TI} (A:I.length<256) (D:P.length=I.length):
  eu 20000000 ([c],S,(p:Int),K,e,ng P,J,I)=some (match oz S c p with
   | .inl f=>.inr (.inl ((f.1:Int),(f.2.1:Int),S,(f.2.2:Int)))
   | .inr (t,a,b)=>if (S.drop b).head?=some 44 then .inl ([c],S,((b+1:Nat):Int),K,e,ng (P++[a]),J,I++[t])
    else .inr (.inr ([c],S,((if dts (S.drop b) then b+2 else b:Nat):Int),0,d0,0,d0,0,d0,false,false,K,d0,0,d0,0,d0,e,dts (S.drop b),ng (P++[a]),J,I++[t]))):=by
 have i:∀(t:TI) (a b:Nat),b<=S.length->(ob (aC 20000000 [44] S (b:Int)) (u3 λn k l=>(cond n (some (.inl ([c],k,l,K,e,(ng P++([(a:Int)]:List (Int))),J,(I++([t]:List TI))))) (ob (aC 20000000 [46,46] k l) (u3 λq j g=>(cond q (some (.inr (.inr ([c],j,g,0,d0,0,d0,0,d0,false,false,K,d0,0,d0,0,d0,e,true,(ng P++([(a:Int)]:List (Int))),J,(I++([t]:List TI)))))) (some (.inr (.inr ([c],j,g,0,d0,0,d0,0,d0,false,false,K,d0,0,d0,0,d0,e,false,(ng P++([(a:Int)]:List (Int))),J,(I++([t]:List TI))))))))))):Option ((aa×aa×Int×Int×Bool×List (Int)×List TI×List TI)⊕((Int×Int×aa×Int)⊕(aa×aa×Int×Int×TD×Int×TD×Int×TD×Bool×Bool×Int×TD×Int×TD×Int×TD×Bool×Bool×List (Int)×List TI×List TI)))) =
   some (if (S.drop b).head?=some 44 then .inl ([c],S,((b+1:Nat):Int),K,e,ng (P++[a]),J,I++[t])
    else .inr (.inr ([c],S,((if dts (S.drop b) then b+2 else b:Nat):Int),0,d0,0,d0,0,d0,false,false,K,d0,0,d0,0,d0,e,dts (S.drop b),ng (P++[a]),J,I++[t]))):=by
  intro t a b m;have x:ng (P++[a])=ng P++[(a:Int)]:=by simp [ng]
  rw [lq _ _ _ _ m (by omega),x];simp only [ob,u3,u2,tk1];by_cases hc:(S.drop b).head?=some 44
  ·rw [ae hc,ae hc];rfl
  ·rw [ab hc,ab hc];simp only [af];rw [lq _ _ _ _ m (by omega)];cases d:dts (S.drop b)
   ·rw [ab (show ¬(S.drop b).take [(46:UInt8),46].length=[46,46] from λh=>by unfold dts at d;rw [show (S.drop b).take 2=[46,46] from h] at d;cases d)];rfl
   ·rw [ae (show (S.drop b).take [(46:UInt8),46].length=[46,46] from eq_of_beq d)];rfl
 unfold eu;simp only [u8,u7,u6,u5,u4,u3,u2];rw [show (len I==256)=false from by show (((I.length:Nat):Int)==256)=false;simp;omega,af,C0 S p h v];unfold oz;cases y:dX S p with
 | inl f=>rfl
 | inr r=>
  obtain ⟨E,_,B,o⟩:=lJ h y;rw [BZ];simp only [obs,sm,ob];rw [show (d4 (d8 ((tdR r).1,(tdR r).2.1,(tdR r).2.2.1,(tdR r).2.2.2.1,(tdR r).2.2.2.2.1,(tdR r).2.2.2.2.2.1,(tdR r).2.2.2.2.2.2.1,(tdR r).2.2.2.2.2.2.2.1,(tdR r).2.2.2.2.2.2.2.2.1,(tdR r).2.2.2.2.2.2.2.2.2,((plR r:Nat):Int),S,((enR r:Nat):Int))))=((enR r:Nat):Int) from rfl,QU c o];simp only [u11,u10,u9,u8,u7,u6,u5,u4,u3,u2];rw [Ro _ c o v (λh=>by simp at h;exact h.1)];have u:(dts (S.drop (enR r))&&!decide ((S.drop (enR r+2)).head?=some c))=true↔(dts (S.drop (enR r))=true/\(S.drop (enR r+2)).head?≠some c):=by simp
  by_cases d:dts (S.drop (enR r))=true/\(S.drop (enR r+2)).head?≠some c
  ·rw [ae (u.2 d),ae d];cases z:dX S (enR r+2) with
   | inl f=>rfl
   | inr s=>
    obtain ⟨C,_,l3,w⟩:=lJ (sa d.1) z;simp only [u12,u11,u10,u9,u8,u7,u6,u5,u4,u3,u2];rw [za (by omega),za (by simp;omega)];exact i (mkI (tdR r) true (tdR s)) (plR r) (enR s) w
  ·rw [ab (λh=>d (u.1 h)),ab d];simp only [u12,u11,u10,u9,u8,u7,u6,u5,u4,u3,u2];rw [za (by omega),za (by simp;omega)];exact i (mkI (tdR r) false d0) (plR r) (enR r) o
theorem O8 (c:UInt8) (S:aa) (p K:Int) (e:Bool) (P:List Int) (J:List TI) {I:List TI} (a:I.length=256):
  eu 20000000 ([c],S,p,K,e,P,J,I)=some (.inr (.inl (p,3,S,p))):=by
 unfold eu;simp only [u8,u7,u6,u5,u4,u3,u2];rw [show (len I==256)=true from by show (((I.length:Nat):Int)==256)=true;rw [a];rfl];rfl
def U0 (S:aa) (c:UInt8) (K:Int) (e:Bool) (J:List TI):(Nat×Nat×Nat)⊕(Nat×List Nat×List TI)->(Int×Int×aa×Int)⊕(aa×aa×Int×Int×TD×Int×TD×Int×TD×Bool×Bool×Int×TD×Int×TD×Int×TD×Bool×Bool×List (Int)×List TI×List TI)
 | .inl f=>.inl ((f.1:Int),(f.2.1:Int),S,(f.2.2:Int))
 | .inr (p,P,I)=>.inr ([c],S,((if dts (S.drop p) then p+2 else p:Nat):Int),0,d0,0,d0,0,d0,false,false,K,d0,0,d0,0,d0,e,dts (S.drop p),ng P,J,I)
theorem OP (c:UInt8) {S:aa} (i:S.length<100000) (K:Int) (e:Bool) (J:List TI):∀(r p:Nat) (P:List Nat) (I:List TI),I.length+r=256->p<=S.length->P.length=I.length->∀N,r<N->
  ar (eu 20000000) N ([c],S,(p:Int),K,e,ng P,J,I)=some (U0 S c K e J (nl S c r p P I)):=by
 intro r
 induction r with
 | zero=>
  intro p P I g hp b N h;obtain ⟨N,rfl⟩:∃k,N=k+1:=⟨N - 1,by omega⟩;rw [ar,O8 c S _ K e _ J (by omega)];rfl
 | succ r ih=>
  intro p P I g hp b N h;obtain ⟨N,rfl⟩:∃k,N=k+1:=⟨N - 1,by omega⟩;rw [ar,Qh c hp i K e J (by omega) b,nl];cases j:oz S c p with
  | inl f=>rfl
  | inr q=>
   obtain ⟨t,a,d⟩:=q;obtain ⟨_,m,l⟩:=BX hp j;simp only [];by_cases hc:(S.drop d).head?=some 44
   ·rw [ae hc,ae hc];exact ih (d+1) (P++[a]) (I++[t]) (by simp;omega) (me hc) (by simp [b]) N (by omega)
   ·rw [ab hc,ab hc];rfl
theorem Bf {X a Y b:Type} {s:X->Option (X⊕Y)} {s':a->Option (a⊕b)} (f:X->a) (g:Y->b) (h:∀x,s' (f x)=(s x).map (Sum.map f g)):∀(n:Nat) (x:X),ar s' n (f x)=(ar s n x).map g
 | 0,_=>rfl
 | n+1,x=>by
  rw [ar,ar,h];cases s x with
  | none=>rfl
  | some z=>
   cases z with
   | inl y=>exact Bf f g h n y
   | inr y=>rfl
theorem Qe (n:Nat) (K:Int) (D:TD) (KF:Int) (DF:TD) (KT:Int) (DT:TD) (c:Nat) (e l:Bool) (L:List TI):lp n K D KF DF KT DT L.length c e l L=ka n K D KF DF KT DT e l L:=by
 unfold lp ka;have:=Bf (s:=eM n) (s':=iV n) (u12 λq f d g k h m j o p b a=>(d.length,c,q,f,d,g,k,h,m,j,o,d.length,c,p,b,a)) id (by
  rintro ⟨q,f,d,g,k,h,m,j,o,p,b,a⟩;unfold eM iV;simp only [u16,u15,u14,u13,u12,u11,u10,u9,u8,u7,u6,u5,u4,u3,u2];cases decide (f<q)
  ·rfl
  ·simp only [aj];cases ix d.length f with
   | none=>rfl
   | some i=>
    simp only [ob];cases d[i]? with
    | none=>rfl
    | some t=>
     simp only [ob];cases fe n (iF t) (d8 t).2.2.1 (d8 t).2.2.2 g with
     | none=>rfl
     | some v=>
      simp only [ob];rw [show k7 n v 10 10 10 (iF t) (d8 t).2.2.1 (d8 t).2.2.2 g k h m j o d.length c p b f a d=fE n v 10 10 10 (iF t) (d8 t).2.2.1 (d8 t).2.2.2 g k h m j o p b f a d from rfl];cases fE n v 10 10 10 (iF t) (d8 t).2.2.1 (d8 t).2.2.2 g k h m j o p b f a d with
      | none=>rfl
      | some z=>
       simp only [ob];cases (z != 0)<;>rfl) n (len L,0,L,K,D,KF,DF,KT,DT,e,l,w64 (len L - 1))
 simp only [u12,u11,u10,u9,u8,u7,u6,u5,u4,u3,u2] at this;rw [show (L.length,c,((L.length:Nat):Int),(0:Int),L,K,D,KF,DF,KT,DT,L.length,c,e,l,w64 (((L.length:Nat):Int) - 1))=(L.length,c,len L,0,L,K,D,KF,DF,KT,DT,L.length,c,e,l,w64 (len L - 1)) from rfl,this];rw [Option.map_id];rfl
theorem PK (n:Nat) (K:Int) (D:TD) (KF:Int) (DF:TD) (KT:Int) (DT:TD) (c:Nat) (e l:Bool) (L:List TI):fh n K D KF DF KT DT L.length c e l L=kj n K D KF DF KT DT e l L:=by
 unfold fh kj;rw [Qe,show mG n K D KF DF KT DT L.length c e l L=kT n K D KF DF KT DT e l L from rfl]
theorem Gu {K:Int} {D:TD} {KF:Int} {DF:TD} {KT:Int} {DT:TD} {e l:Bool} {L:List TI} (h:smE D DF DT L) (c:Nat):
  fh 20000000 K D KF DF KT DT L.length c e l L=some (fa K D KF DF KT DT e l L):=(PK _ _ _ _ _ _ _ _ _ _ _).trans (EI h)
noncomputable def setE (K:Int) (e l:Bool) (I:List TI):Int×Int:=fa K d0 0 d0 0 d0 e l I
noncomputable def endL (S:aa) (K:Int) (e:Bool) (p:Nat) (P:List Nat) (I:List TI):(Nat×Nat×Nat)⊕(Int×Bool×Bool×List TI×Nat):=
 if (S.drop (if dts (S.drop p) then p+2 else p)).head?=some (endC K) then
  if (setE K e (dts (S.drop p)) I).2=0 then .inr (K,e,dts (S.drop p),I,(if dts (S.drop p) then p+2 else p)+1)
  else .inl (P.getD (setE K e (dts (S.drop p)) I).1.toNat 0,10,(if dts (S.drop p) then p+2 else p)+1)
 else .inl ((if dts (S.drop p) then p+2 else p),5,(if dts (S.drop p) then p+2 else p))
noncomputable def AW (S:aa) (a:Nat) (K:Int):(Nat×Nat×Nat)⊕(Int×Bool×Bool×List TI×Nat):=
 match nl S (endC K) 256 (if dts (S.drop (a+1)) then a+3 else a+1) [] [] with
 | .inl f=>.inl f
 | .inr (p,P,I)=>endL S K (dts (S.drop (a+1))) p P I
noncomputable def uZ (S:aa) (a:Nat):(Nat×Nat×Nat)⊕(Int×Bool×Bool×List TI×Nat):=
 if (S.drop a).head?=some 91 then AW S a 3 else if (S.drop a).head?=some 123 then AW S a 4 else .inl (a,5,a)
theorem QA {K:Int} (a:K=3\/K=4) {e l:Bool} {I:List TI} (b:1<=I.length):∃i:Nat,(setE K e l I).1=(i:Int)/\i<I.length:=by
 have hi:∃i:Nat,(xq K e l I).1=(i:Int)/\i<I.length:=by
  unfold xq;have:∀(J:List TI) (k:Nat) (p:Nat×Int),sw (errI K e l I.length) k J=some p->p.1<k+J.length:=by
   intro J
   induction J with
   | nil=>intro k p h;cases h
   | cons t r ih=>
    intro k p h;rw [sw] at h;split at h
    ·cases h;simp
    ·have:=ih (k+1) p h;simp;omega
  cases hs:sw (errI K e l I.length) 0 I with
  | none=>exact ⟨0,rfl,by omega⟩
  | some p=>exact ⟨p.1,rfl,by have:=this I 0 p hs;omega⟩
 unfold setE fa;rw [ab (by omega)];split
 ·exact ⟨0,rfl,by omega⟩
 ·rw [ab (by omega),ab (by omega),ab (by omega)];split
  ·exact ⟨0,rfl,by omega⟩
  ·exact hi
theorem QO {I:List TI} (h:∀t∈I,smI t):smE d0 d0 d0 I:=⟨nP,nP,nP,h⟩
theorem Us (n:Nat) (I:List TI):bu n I=some (I.length,I.length):=by
 unfold bu;rw [da (aQ _)];show ob (bx I.length ((I.length:Nat):Int)) _=_;rw [da (aQ _)];rfl
def Pz (S:aa):(Nat×Nat×Nat)⊕(Int×Bool×Bool×List TI×Nat)->(Int×Int×aa×Int)⊕(Int×TD×Int×TD×Int×TD×Nat×Nat×Bool×Bool×aa×Int×List TI)
 | .inl f=>.inl ((f.1:Int),(f.2.1:Int),S,(f.2.2:Int))
 | .inr (K,e,l,I,p)=>.inr (K,d0,0,d0,0,d0,I.length,I.length,e,l,S,(p:Int),I)
theorem RG {S:aa} (F:S.length<100000) {K:Int} (z:K=3\/K=4) (e:Bool) {p:Nat} (hp:p<=S.length) {P:List Nat} {I:List TI} (G:P.length=I.length) (C:1<=I.length) (hs:∀t∈I,smI t):
  (obs (bN 20000000 [endC K] S ((if dts (S.drop p) then p+2 else p:Nat):Int)) (u2 λc b=>(ob (bu 20000000 I) (u2 λd f=>(ob (fh 20000000 K d0 0 d0 0 d0 d f e (dts (S.drop p)) I) (u2 λw s=>(cond (s != 0) (ob (ix (List.length (ng P)) w) λo=>(ob ((ng P)[o]?) λk=>(ob (aH 20000000 k 10 c b) (u2 λn v=>(some (.inl (n,v,c,b))))))) (some (.inr (K,d0,0,d0,0,d0,d,f,e,(dts (S.drop p)),c,b,I))))))))) (u4 λj m x u=>(some (.inl (j,m,x,u))))) =
   some (Pz S (endL S K e p P I)):=by
 have A:(if dts (S.drop p) then p+2 else p:Nat)<=S.length:=by
  split
  ·rename_i h;exact sa h
  ·exact hp
 unfold endL;generalize (if dts (S.drop p) then p+2 else p:Nat)=q at *;generalize dts (S.drop p)=l;rw [yU _ _ _ _ A (by omega) (by simp) (by simp)];simp only [tk1];by_cases hc:(S.drop q).head?=some (endC K)
 ·rw [ae hc,ae hc];simp only [obs,sm,ob,u2,Us,Gu (QO hs)];obtain ⟨i,D,E⟩:=QA z (e:=e) (l:=l) C;show cond ((setE K e l I).2 != 0) (ob (ix (ng P).length (setE K e l I).1) _) _=_;by_cases g:(setE K e l I).2=0
  ·rw [ae g,show ((setE K e l I).2 != 0)=false from by simp [g]];rfl
  ·have hi:i<(ng P).length:=by simp [ng];omega
   rw [ab g,show ((setE K e l I).2 != 0)=true from by simp [g],D,fb hi];have y:(ng P)[i]?=some ((P.getD i 0:Nat):Int):=by
    have hi':i<P.length:=by omega
    simp [ng,bn hi']
   simp only [aj,ob,y];rfl
 ·rw [ab hc,ab hc];have:lcp (S.drop q) [endC K]=0:=by
   cases B:S.drop q with
   | nil=>rfl
   | cons a r=>
    rw [B] at hc;simp only [lcp];rw [show (a==endC K)=false from by rw [aL];rintro rfl;exact hc rfl];rfl
  rw [this];rfl
theorem PW {S:aa} {a:Nat} (h:a<=S.length) (hS:S.length<100000):lL 20000000 S (a:Int)=some (Pz S (uZ S a)):=by
 have b:∀(K:Int) (z:K=3\/K=4) (i:a+1<=S.length),(ob (lE 20000000 (K==4) S ((a+1:Nat):Int) ([]:List TI) ([]:List TI)) (u5 λv7 v8 v9 Z F=>(ob (dI 20000000 v9) (u2 λ_ B=>(ob (aC 20000000 [46,46] v7 v8) (u3 λU G v15=>(obs (ar (eu 20000000) 20000000 (B,G,v15,v9,U,([]:List (Int)),Z,F)) (u4 λQ A X T=>(some (.inl (Q,A,X,T)))) (u22 λV R E _ _ _ _ _ _ _ _ s w x y l k o v n _ g=>(obs (bN 20000000 V R E) (u2 λe d=>(ob (bu 20000000 g) (u2 λm u=>(ob (fh 20000000 s w x y l k m u o v g) (u2 λY M=>(cond (M != 0) (ob (ix (List.length n) Y) λL=>(ob (n[L]?) λD=>(ob (aH 20000000 D 10 e d) (u2 λJ W=>(some (.inl (J,W,e,d))))))) (some (.inr (s,w,x,y,l,k,m,u,o,v,e,d,g))))))))) (u4 λC H v45 O=>(some (.inl (C,H,v45,O))))))))))))) =
   some (Pz S (AW S a K)):=by
  intro K z i;have hj:lE 20000000 (K==4) S ((a+1:Nat):Int) ([]:List TI) ([]:List TI)=some (S,((a+1:Nat):Int),K,[],[]):=by
   rcases z with rfl | rfl<;>rfl
  have N:aC 20000000 [46,46] S ((a+1:Nat):Int)=some (dts (S.drop (a+1)),S,((if dts (S.drop (a+1)) then a+3 else a+1:Nat):Int)):=by
   rw [lq _ _ _ _ i (by omega)];cases j:dts (S.drop (a+1))
   ·rw [ab (show ¬(S.drop (a+1)).take [(46:UInt8),46].length=[46,46] from λh=>by unfold dts at j;rw [show (S.drop (a+1)).take 2=[46,46] from h] at j;cases j)];rfl
   ·rw [ae (show (S.drop (a+1)).take [(46:UInt8),46].length=[46,46] from eq_of_beq j)];rfl
  have hp:(if dts (S.drop (a+1)) then a+3 else a+1:Nat)<=S.length:=by
   split
   ·rename_i h;have:=sa h;omega
   ·exact i
  have hl:=OP (endC K) hS K (dts (S.drop (a+1))) [] 256 (if dts (S.drop (a+1)) then a+3 else a+1) [] [] (by simp) hp rfl 20000000 (by omega);simp only [hj,uS z,N,ob,u5,u4,u3,u2];rw [show ar (eu 20000000) 20000000 ([endC K],S,((if dts (S.drop (a+1)) then a+3 else a+1:Nat):Int),K,dts (S.drop (a+1)),([]:List Int),([]:List TI),([]:List TI))=_ from hl];unfold AW;cases hr:nl S (endC K) 256 (if dts (S.drop (a+1)) then a+3 else a+1) [] [] with
  | inl f=>rfl
  | inr q=>
   obtain ⟨p,P,I⟩:=q;obtain ⟨q1,q2,q3,q4,q5⟩:=BM 256 _ [] [] hp rfl (λt N=>by cases N) hr;have q3':1<=I.length:=by rw [dm] at q3;omega
   exact RG hS z (dts (S.drop (a+1))) q1 q2 q3' q5
 unfold lL uZ;rw [zI _ _ _ _ h (by omega)];cases j:S.drop a with
 | nil=>rfl
 | cons c r=>
  have i:a+1<=S.length:=by
   have:=bO List.length j;simp at this;omega
  simp only [oK,ak];by_cases h1:c=91
  ·subst h1;rw [ae rfl];exact b 3 (.inl rfl) i
  ·by_cases h2:c=123
   ·subst h2;rw [ae rfl];exact b 4 (.inr rfl) i
   ·rw [ab h1,ab h2];have:hasB [91,123] c=false:=by
     unfold hasB;simp only [pG,List.any_nil,uu,mW,aL];exact ⟨λh=>h1 h.symm,λh=>h2 h.symm⟩
    rw [this];rfl
def rat (l:aa):Nat:=match l with | c::_=>c.toNat | []=>0
theorem S8 (l:aa) (c:UInt8) (hc:c≠0):(((rat l:Nat):Int)==((c.toNat:Nat):Int))=decide (l.head?=some c):=by
 cases l with
 | nil=>
  rw [aq (by simp)];rw [aL];intro h;have b:c.toNat=0:=by
   have:((0:Nat):Int)=((c.toNat:Nat):Int):=h;omega
  exact hc (fZ.1 (by rw [b];rfl))
 | cons a r=>
  show (((a.toNat:Nat):Int)==((c.toNat:Nat):Int))=_;rw [na];rw [ux];simp
theorem G3 {S:aa} {d:UInt8} {p:Nat} (h:p<=S.length) {f:Nat×Nat×Nat} (a:oz S d p=.inl f):f.2.1≠0:=by
 unfold oz at a;cases b:dX S p with
 | inl g=>rw [b] at a;cases a;exact uG (k:=f.1) (E:=f.2.1) (p:=f.2.2) h b
 | inr r=>
  rw [b] at a;simp only [] at a;split at a
  ·rename_i e;cases c:dX S (enR r+2) with
   | inl g=>rw [c] at a;cases a;exact uG (k:=f.1) (E:=f.2.1) (p:=f.2.2) (sa e.1) c
   | inr i=>rw [c] at a;cases a
  ·cases a
theorem xh {S:aa} {c:UInt8}:∀(r p:Nat) (P:List Nat) (I:List TI),p<=S.length->∀{f:Nat×Nat×Nat},nl S c r p P I=.inl f->f.2.1≠0
 | 0,p,P,I,_,f,e=>by cases e;simp
 | r+1,p,P,I,h,f,e=>by
  rw [nl] at e;cases b:oz S c p with
  | inl g=>rw [b] at e;cases e;exact G3 h b
  | inr q=>
   obtain ⟨t,a,i⟩:=q;rw [b] at e;simp only [] at e;split at e
   ·rename_i d;exact xh r (i+1) _ _ (me d) e
   ·cases e
theorem JR {S:aa} {a:Nat} (h:a<=S.length) {f:Nat×Nat×Nat} (b:uZ S a=.inl f):f.2.1≠0:=by
 have c:∀e:Int,a+1<=S.length->AW S a e=.inl f->f.2.1≠0:=by
  intro e j b;unfold AW at b;have hp:(if dts (S.drop (a+1)) then a+3 else a+1:Nat)<=S.length:=by
   split
   ·rename_i h;have:=sa h;omega
   ·exact j
  cases d:nl S (endC e) 256 (if dts (S.drop (a+1)) then a+3 else a+1) [] [] with
  | inl g=>rw [d] at b;cases b;exact xh 256 _ _ _ hp d
  | inr q=>
   obtain ⟨i,P,J⟩:=q;rw [d] at b;simp only [] at b;unfold endL at b;generalize (if dts (S.drop i) then i+2 else i:Nat)=k at b;split at b
   ·split at b
    ·cases b
    ·cases b;simp
   ·cases b;simp
 unfold uZ at b;split at b
 ·rename_i d;exact c 3 (me d) b
 ·split at b
  ·rename_i d;exact c 4 (me d) b
  ·cases b;simp
noncomputable def Ej (S:aa):(Nat×Nat)⊕(Int×Bool×Bool×List TI):=match uZ S 0 with
 | .inl f=>.inl (f.1,f.2.1)
 | .inr (K,e,l,I,p)=>if p<S.length then .inl (p,5) else .inr (K,e,l,I)
def brk (c:UInt8):Bool:=c==33||c==44||c==46||c==47||c==91||c==93||c==123||c==125
theorem Qm:∀c,(!brk c||(!isYC c&&(!isMk c&&(!(c==45)&&!isDX c))))=true:=gH (λc=>!brk c||(!isYC c&&(!isMk c&&(!(c==45)&&!isDX c)))) (by decide +kernel)
theorem Em {c:UInt8} (h:brk c=true):isYC c=false/\isMk c=false/\(c==45)=false/\isDX c=false:=by
 have:=Qm c;rw [h] at this;simpa [aB] using this
theorem TP {c:UInt8} (h:isDX c=true):brk c=false:=by
 cases a:brk c
 ·rfl
 ·rw [(Em a).2.2.2] at h;cases h
def endT (l:aa):Prop:=∀c,l.head?=some c->brk c=true
theorem O9 {l:aa} (h:endT l):cv isYC l/\cv isMk l/\cv (λc=>c==45) l:=⟨λc hc=>(Em (h c hc)).1,λc hc=>(Em (h c hc)).2.1,λc hc=>(Em (h c hc)).2.2.1⟩
theorem zE:endT []:=λc h=>by cases h
theorem nr {c:UInt8} {l:aa} (h:brk c=true):endT (c::l):=λa b=>by
 simp only [oK,ak] at b;rw [<-b];exact h
theorem H3 {g l:Bool} {d:aa} {x s:Nat} (h:okY g l d (x:Int) (s:Int)) (r:aa):cv brk (fj g l d (x:Int) (s:Int)++r):=by
 have a:d≠[]:=by
  have:=(kA h).2.2.2.2.1;rintro rfl;simp at this
 rw [jV];cases l with
 | true=>exact dD (by decide)
 | false=>
  cases g with
  | true=>exact dD (by decide)
  | false=>
   simp only [bj,aE,dn,fN];exact uh a (IE h) (λc=>TP)
def bU (x:TD):aa:=qM x.1 x.2.1 x.2.2.1 x.2.2.2.1 x.2.2.2.2.1 x.2.2.2.2.2.1 x.2.2.2.2.2.2.1 x.2.2.2.2.2.2.2.1.toNat x.2.2.2.2.2.2.2.2.1.toNat x.2.2.2.2.2.2.2.2.2.toNat
theorem ny {x:TD} (hs:smT x) (hc:cF x=0):∃(g l:Bool) (dg:aa) (e q:Nat) (m d:aa) (a b c:Nat),x=(g,l,dg,(e:Int),(q:Int),m,d,(a:Int),(b:Int),(c:Int))/\OkD g l dg e q m d a b c:=by
 have h:=pF hc;obtain ⟨g,l,dg,e,q,m,d,k0,k1,k2⟩:=x;obtain ⟨p,r,a,b,c,k,f,n,i,j,o⟩:=Hj hs.2.2.2.1 hs.2.2.2.2.1 hs.2.2.2.2.2 h;simp only at k f n i j;subst k f n i j;exact ⟨_,_,_,_,_,_,_,_,_,_,rfl,o⟩
theorem dfT {x:TD} (hs:smT x) (hc:cF x=0):ap10 (bH 20000000) x=some (bU x,0):=by
 have:=FP 19999700 x.1 x.2.1 x.2.2.1 x.2.2.2.1 x.2.2.2.2.1 x.2.2.2.2.2.1 x.2.2.2.2.2.2.1 x.2.2.2.2.2.2.2.1 x.2.2.2.2.2.2.2.2.1 x.2.2.2.2.2.2.2.2.2 hs.1 hs.2.1 hs.2.2.2.1 hs.2.2.2.2.1 hs.2.2.2.2.2;rw [ae (pF hc)] at this;exact this
theorem kL {x:TD} (hs:smT x) (hc:cF x=0):(bU x).length<=37:=by
 obtain ⟨g,l,dg,e,q,m,d,a,b,c,rfl,ok⟩:=ny hs hc;exact Hg ok
theorem jG {x:TD} (hs:smT x) (hc:cF x=0) (r:aa):cv brk (bU x++r):=by
 obtain ⟨g,l,dg,e,q,m,d,a,b,c,rfl,ok⟩:=ny hs hc;show cv brk (qM g l dg (e:Int) (q:Int) m d a b c++r);unfold qM cc;rw [fN,fN,fN];exact Ij _ (by decide) (by decide) (by decide) (H3 ok.yr _)
theorem lP {l:aa} (h:cv brk l):dts l=false:=by
 cases a:dts l
 ·rfl
 ·obtain ⟨r,rfl⟩:=vU.1 a;exact absurd (h 46 rfl) (by decide)
theorem tt {x:TD} (hs:smT x) (hc:cF x=0) {S:aa} {a:Nat} {post:aa} (h:S.drop a=bU x++post) (hp:endT post):∃r,dX S a=.inr r/\tdR r=x/\enR r=a+(bU x).length:=by
 obtain ⟨g,l,dg,e,q,m,d,k0,k1,k2,rfl,ok⟩:=ny hs hc;obtain ⟨j,i,b⟩:=O9 hp;obtain ⟨P,f⟩:=F6 ok (S:=S) (a:=a) (post:=post) h j i b;refine ⟨(g,l,dg,e,q,m,d,(k0,k1,k2),P,a+(qM g l dg (e:Int) (q:Int) m d k0 k1 k2).length),?_,rfl,rfl⟩;unfold dX;rw [f];have c:chkR (g,l,dg,e,q,m,d,(k0,k1,k2),P,a+(qM g l dg (e:Int) (q:Int) m d k0 k1 k2).length)=0:=by
  unfold chkR;simp only [];have:chkF g l dg (e:Int) (q:Int) m d (k0:Int) (k1:Int) (k2:Int)=0:=hc;rw [this];rfl
 simp only [];rw [ae c]
structure OkI (t:TI):Prop where
 sm:smI t
 a:cF (iF t)=0
 b:rT t=true->cF (iT t)=0
 n:rT t=false->iT t=d0
def dP (t:TI):aa:=if rT t then bU (iF t)++([46,46]++bU (iT t)) else bU (iF t)
theorem Bt {t:TI} (h:OkI t):(dP t).length<=76:=by
 have e:=kL h.sm.1 h.a;unfold dP;split
 ·rename_i c;have d:=kL h.sm.2 (h.b c);simp only [bE,aJ,dm];omega
 ·omega
theorem KL {t:TI} (h:OkI t) (r:aa):cv brk (dP t++r):=by
 unfold dP;split
 ·rw [fN];exact jG h.sm.1 h.a _
 ·exact jG h.sm.1 h.a _
theorem wz {t:TI} (ok:OkI t) {e:UInt8} (j:brk e=true) {S:aa} {p:Nat} {post:aa} (h:S.drop p=dP t++post) (hp:endT post) (w:dts post=true->(post.drop 2).head?=some e):
  ∃a,oz S e p=.inr (t,a,p+(dP t).length):=by
 unfold dP at h ⊢;unfold oz;cases c:rT t with
 | true=>
  rw [c,ae rfl,fN,fN] at h;obtain ⟨r,i,g,d⟩:=tt ok.sm.1 ok.a h (nr (by decide));have f:S.drop (enR r)=[46,46]++(bU (iT t)++post):=by rw [d];exact fR h
  have k:S.drop (enR r+2)=bU (iT t)++post:=fR (u:=[46,46]) f;have y:dts (S.drop (enR r))=true:=by rw [f];rfl
  have q:(S.drop (enR r+2)).head?≠some e:=by
   rw [k];intro x;have:=jG ok.sm.2 (ok.b c) post e x;rw [j] at this;cases this
  obtain ⟨z,v,o,s⟩:=tt ok.sm.2 (ok.b c) k hp;refine ⟨plR r,?_⟩;rw [i];simp only [];rw [ae ⟨y,q⟩,v];simp only [aI];rw [g,o,s,d];have:mkI (iF t) true (iT t)=t:=by rw [<-c]
  rw [this];have:p+(bU (iF t)).length+2+(bU (iT t)).length=p+(bU (iF t)++([46,46]++bU (iT t))).length:=by simp only [bE,aJ,dm];omega
  rw [this]
 | false=>
  rw [c] at h;simp only [bj,aE] at h;obtain ⟨r,i,g,d⟩:=tt ok.sm.1 ok.a h hp;have f:S.drop (enR r)=post:=by rw [d];exact fR h
  refine ⟨plR r,?_⟩;rw [i];simp only [];rw [ab,g,d]
  ·have:mkI (iF t) false d0=t:=by rw [<-c,<-ok.n c]
   rw [this];simp only [bj,aE]
  ·rintro ⟨m,l⟩;rw [f] at m;rw [<-gV,f] at l;exact l (w m)
def jL (I:List TI):aa:=(I.map λt=>44::dP t).flatten
theorem wF {e:UInt8} (b:brk e=true) (c:e≠44) {post:aa} (hp:endT post) (d:post.head?≠some 44) (k:dts post=true->(post.drop 2).head?=some e):∀(I:List TI) (t:TI) (r p:Nat) {S:aa} (P:List Nat) (J:List TI),OkI t->(∀u∈I,OkI u)->I.length<r->S.drop p=dP t++(jL I++post)->
  ∃g,nl S e r p P J=.inr (p+(dP t++jL I).length,g,J++t::I)
 | [],t,r+1,p,S,P,J,ok,_,j,h=>by
  obtain ⟨a,i⟩:=wz ok b (post:=post) (by simpa [jL] using h) hp k;refine ⟨P++[a],?_⟩;rw [nl,i];simp only [];have f:S.drop (p+(dP t).length)=post:=fR (by simpa [jL] using h);rw [f,ab d];simp [jL]
 | u::I,t,r+1,p,S,P,J,ok,oks,j,h=>by
  have q:jL (u::I)++post=44::(dP u++(jL I++post)):=by simp [jL]
  rw [q] at h
  obtain ⟨a,i⟩:=wz ok b (post:=44::(dP u++(jL I++post))) h (nr (by decide)) (λs=>by
   obtain ⟨r,m⟩:=vU.1 s;cases m)
  have f:S.drop (p+(dP t).length)=44::(dP u++(jL I++post)):=fR h;have l:S.drop (p+(dP t).length+1)=dP u++(jL I++post):=fR (u:=[44]) f;obtain ⟨g,n⟩:=wF b c hp d k I u r (p+(dP t).length+1) (P++[a]) (J++[t]) (oks u ks) (λv o=>oks v (eS _ o)) (by simp at j;omega) l;refine ⟨g,?_⟩;rw [nl,i];simp only [];rw [f,oK,ae rfl,n];have:p+(dP t).length+1+(dP u++jL I).length=p+(dP t++jL (u::I)).length:=by simp [jL];omega
  rw [this];simp
def qZ (K:Int) (e l:Bool) (I:List TI):aa:=
 (if K=4 then 123 else 91)::((if e then [46,46] else [])++(Lib.join (I.map dP) [44]++((if l then [46,46] else [])++[endC K])))
theorem Bo (t:TI) (I:List TI):Lib.join ((t::I).map dP) [44]=dP t++jL I:=by
 rw [iC,Lib.join_cons];unfold Lib.joinTail jL;rw [xQ];rfl
theorem Gg {K:Int} (q:K=3\/K=4) {e l:Bool} {I:List TI} (C:1<=I.length) (x:I.length<=256) (ok:∀t∈I,OkI t) (w:(setE K e l I).2=0) {S:aa} {a:Nat} {post:aa} (h:S.drop a=qZ K e l I++post):
  uZ S a=.inr (K,e,l,I,a+(qZ K e l I).length):=by
 obtain ⟨t,J,rfl⟩:∃t J,I=t::J:=by
  cases I with
  | nil=>simp at C
  | cons t J=>exact ⟨t,J,rfl⟩
 have d:brk (endC K)=true:=by unfold endC;split<;>decide
 have c:endC K≠44:=by unfold endC;split<;>decide
 have g:endC K≠46:=by unfold endC;split<;>decide
 unfold qZ at h ⊢;rw [Bo] at h ⊢;have k:S.drop (a+1)=(if e then [46,46] else [])++((dP t++jL J)++((if l then [46,46] else [])++(endC K::post))):=by
  have:=fR (u:=[if K=4 then 123 else 91]) (v:=((if e then [46,46] else [])++((dP t++jL J)++((if l then [46,46] else [])++[endC K])))++post) (by rw [h];rfl);rw [show a+1=a+[if K=4 then (123:UInt8) else 91].length from rfl,this];simp only [fN,Db]
 have y:dts (S.drop (a+1))=e:=by
  rw [k];cases e
  ·simp only [bj,aE,dn];rw [fN];exact lP (KL (ok t ks) _)
  ·rfl
 have o:S.drop (if e then a+3 else a+1)=dP t++(jL J++((if l then [46,46] else [])++(endC K::post))):=by
  rw [<-fN];cases e
  ·simpa using k
  ·have:=fR (u:=[46,46]) k;simpa using this
 have s:endT ((if l then [46,46] else [])++(endC K::post)):=by
  cases l
  ·exact nr d
  ·exact nr (by decide)
 have m:((if l then [46,46] else [])++(endC K::post)).head?≠some 44:=by
  cases l
  ·simp [c]
  ·simp
 have f:dts ((if l then [46,46] else [])++(endC K::post))=l:=by
  cases l
  ·cases i:dts ((if false then [46,46] else [])++(endC K::post))
   ·rfl
   ·obtain ⟨r,n⟩:=vU.1 i;simp at n;exact absurd n.1 g
  ·rfl
 obtain ⟨P,B⟩:=wF d c s m (λi=>by rw [f] at i;subst i;rfl) J t 256 (if e then a+3 else a+1) [] [] (ok t ks) (λu A=>ok u (eS _ A)) (by simp at x;omega) o;have j:S.drop ((if e then a+3 else a+1)+(dP t++jL J).length)=(if l then [46,46] else [])++(endC K::post):=by
  apply fR;rw [o,fN]
 have b:AW S a K=.inr (K,e,l,t::J,a+(((if K=4 then 123 else 91)::((if e then [46,46] else [])++((dP t++jL J)++((if l then [46,46] else [])++[endC K]))):aa).length)):=by
  unfold AW;rw [y,B];simp only [dn];unfold endL;rw [j,f];generalize p:(if e then a+3 else a+1)+(dP t++jL J).length=X at j ⊢;have D:S.drop (if l then X+2 else X)=endC K::post:=by
   cases l
   ·simpa using j
   ·have:=fR (u:=[46,46]) j;simpa using this
  rw [D,oK,ae rfl,ae w];have:(if l then X+2 else X)+1=a+(((if K=4 then 123 else 91)::((if e then [46,46] else [])++((dP t++jL J)++((if l then [46,46] else [])++[endC K]))):aa).length):=by
   rw [<-p];cases e<;>cases l<;>simp<;>omega
  rw [this]
 unfold uZ;have z:(S.drop a).head?=some (if K=4 then 123 else 91):=by rw [h];rfl
 rw [z];rcases q with rfl | rfl
 ·rw [ae (show some (if (3:Int)=4 then (123:UInt8) else 91)=some 91 from rfl)];exact b
 ·rw [ab (show ¬some (if (4:Int)=4 then (123:UInt8) else 91)=some 91 by decide),ae (show some (if (4:Int)=4 then (123:UInt8) else 91)=some 123 from rfl)];exact b
theorem vJ {x y:TD} {r all:Bool} (h:itE x r y all=0):cF x=0/\(r=true->cF y=0)/\(r=false->y=d0)/\itE x r y false=0:=by
 by_cases hc:cF x=0
 ·refine ⟨hc,?_⟩;cases r
  ·rw [UT hc] at h ⊢;have hy:eqD y d0=true:=by
    cases a:eqD y d0
    ·rw [a] at h;simp at h
    ·rfl
   exact ⟨λh=>(by cases h),λ_=>kZ.1 hy,by rw [hy];simp⟩
  ·by_cases hy:cF y=0
   ·rw [Ux hc hy] at h ⊢;have b:ordB x y=true:=by
     cases a:ordB x y
     ·rw [a] at h;simp at h
     ·rfl
    exact ⟨λ_=>hy,λh=>(by cases h),by rw [b];simp⟩
   ·rw [Tu hc hy] at h;exact absurd h hy
 ·rw [Uf hc] at h;exact absurd h hc
theorem RS {t:TI} {all:Bool} (hs:smI t) (h:itI t all=0):OkI t:=by
 obtain ⟨a,b,c,_⟩:=vJ h;exact ⟨hs,a,b,c⟩
theorem Cd {x y:TD} (r:Bool) (hx:smT x) (hy:smT y):gP 20000000 x r y=some (if itE x r y false=0 then (dP (mkI x r y),0) else ([],itE x r y false)):=by
 unfold gP;rw [CP r hx hy,ae (.inl rfl),show ((3:Int)==4)=false from rfl];simp only [ob];by_cases h:itE x r y false=0
 ·obtain ⟨a,b,c,_⟩:=vJ h;rw [ae h,h,dfT hx a];simp only [fD,af,u2];cases r
  ·rfl
  ·have e:=kL hx a;have d:=kL hy (b rfl);simp only [aj,dfT hy (b rfl)];rw [dR (by simp only [aJ,dm];omega)];simp only [];rw [dR (by simp only [bE,aJ,dm];omega)];rfl
 ·rw [ab h,show (itE x r y false != 0)=true from by simp [h]];rfl
theorem BV:∀{I:List TI},(∀t∈I,OkI t)->(jL I).length<=77*I.length
 | [],_=>by simp [jL]
 | t::I,h=>by
  have c:=Bt (h t ks);have b:=BV (I:=I) λu a=>h u (eS _ a);have:jL (t::I)=(44::dP t)++jL I:=by simp [jL]
  rw [this];simp only [bE,aJ];omega
theorem BF {I:List TI} (h:∀t∈I,OkI t):(Lib.join (I.map dP) [44]).length<=77*I.length:=by
 cases I with
 | nil=>simp [Lib.join_nil]
 | cons t I=>
  have c:=Bt (h t ks);have b:=BV (I:=I) λu a=>h u (eS _ a);rw [Bo];simp only [bE,aJ];omega
theorem I8 {I:List TI} {i:Nat} {t:TI} (h:I[i]?=some t) (w:aa) (b:w=dP t):((I.take i).map dP++List.replicate (I.length - i) []).set i w=(I.take (i+1)).map dP++List.replicate (I.length - (i+1)) []:=by
 have hi:i<I.length:=(tu.1 h).1;obtain ⟨k,a⟩:∃k,I.length - i=k+1:=⟨I.length - i - 1,by omega⟩;have c:((I.take i).map dP).length=i:=by simp;omega
 rw [a,qN,show I.length - (i+1)=k by omega,oL,h,b];rw [List.set_append_right _ _ (by omega),c,yK];simp
theorem Jt {I:List TI} (hs:∀t∈I,OkI t/\itI t false=0) (h:I.length<=1000) (K:Int) (D:TD) (KF:Int) (DF:TD) (KT:Int) (DT:TD) (e l:Bool):∀(r i:Nat),i+r=I.length->∀N,r<N->
  ar (dJ 20000000) N (len I,(i:Int),I,K,D,KF,DF,KT,DT,e,l,(I.take i).map dP++List.replicate (I.length - i) [])=some (I,K,D,KF,DF,KT,DT,e,l,I.map dP):=by
 intro r
 induction r with
 | zero=>
  intro i hi N f;obtain ⟨N,rfl⟩:∃k,N=k+1:=⟨N - 1,by omega⟩;obtain rfl:i=I.length:=by omega
  have:dJ 20000000 (len I,((I.length:Nat):Int),I,K,D,KF,DF,KT,DT,e,l,(I.take I.length).map dP++List.replicate (I.length - I.length) [])=some (.inr (I,K,D,KF,DF,KT,DT,e,l,I.map dP)):=by
   unfold dJ;simp only [u12,u11,u10,u9,u8,u7,u6,u5,u4,u3,u2];rw [aq (show ¬((I.length:Nat):Int)<len I by show ¬((I.length:Nat):Int)<((I.length:Nat):Int);omega),yK,mf];simp
  rw [ar,this]
 | succ r ih=>
  intro i hi N f;obtain ⟨N,rfl⟩:∃k,N=k+1:=⟨N - 1,by omega⟩;have a:i<I.length:=by omega
  have b:I[i]?=some I[i]:=bn a;obtain ⟨ok,c⟩:=hs _ (List.getElem_mem a);generalize I[i]=t at b ok c;have d:((I.take i).map dP++List.replicate (I.length - i) ([]:aa)).length=I.length:=by simp;omega
  have:dJ 20000000 (len I,(i:Int),I,K,D,KF,DF,KT,DT,e,l,(I.take i).map dP++List.replicate (I.length - i) [])=some (.inl (len I,((i+1:Nat):Int),I,K,D,KF,DF,KT,DT,e,l,(I.take (i+1)).map dP++List.replicate (I.length - (i+1)) [])):=by
   unfold dJ;simp only [u12,u11,u10,u9,u8,u7,u6,u5,u4,u3,u2];rw [am (show (i:Int)<len I by show (i:Int)<((I.length:Nat):Int);omega),fb a];simp only [aj,ob,b];rw [show gP 20000000 (iF t) (d8 t).2.2.1 (d8 t).2.2.2=some (dP t,0) from (Cd (rT t) ok.sm.1 ok.sm.2).trans (by rw [ae (show itE (iF t) (rT t) (iT t) false=0 from c)])];simp only [d];rw [fb a];simp only [];obtain ⟨w,g⟩:∃w,((I.take i).map dP++List.replicate (I.length - i) ([]:aa))[i]?=some w:=⟨_,bn (by omega)⟩;rw [g];simp only [u2];rw [I8 b _ rfl,qK (by omega)]
  rw [ar,this];exact ih (i+1) (by omega) N (by omega)
structure SetP (K:Int) (D:TD) (KF:Int) (DF:TD) (KT:Int) (DT:TD) (e l:Bool) (I:List TI):Prop where
 kind:K=3\/K=4
 d:D=d0
 kf:KF=0
 df:DF=d0
 kt:KT=0
 dt:DT=d0
 one:1<=I.length
 most:I.length<=256
 its:∀t∈I,itI t (K==4)=0
 set:(setE K e l I).2=0
theorem yd {A:Type} {f:Nat->A->Int}:∀{L:List A} {k:Nat},sw f k L=none->∀t∈L,∃i,f i t=0
 | u::L,k,h,t,a=>by
  rw [sw] at h;split at h
  ·cases h
  ·rename_i b;rcases cf.1 a with rfl | a
   ·exact ⟨k,JO.1 b⟩
   ·exact yd h t a
theorem Fg {A:Type} {f:Nat->A->Int}:∀{L:List A} {k:Nat} {p:Nat×Int},sw f k L=some p->p.2≠0
 | u::L,k,p,h=>by
  rw [sw] at h;split at h
  ·rename_i a;cases h;exact a
  ·exact Fg h
theorem SD {K:Int} {e l:Bool} {n i:Nat} {t:TI} (h:errI K e l n i t=0):itI t (K==4)=0:=by
 unfold errI at h;split at h
 ·rename_i a;exact absurd h a
 ·rename_i a;exact JO.1 a
theorem Az {K:Int} (g:K=3\/K=4) {D:TD} {KF:Int} {DF:TD} {KT:Int} {DT:TD} {e l:Bool} {I:List TI} (h:(fa K D KF DF KT DT e l I).2=0):SetP K D KF DF KT DT e l I:=by
 have k:=h;unfold fa at h;rw [ab (by omega)] at h;split at h
 ·simp at h
 ·rename_i f;rw [ab (by omega),ab (by omega)] at h;split at h
  ·simp at h
  ·split at h
   ·simp at h
   ·unfold xq at h;have o:D=d0/\KF=0/\DF=d0/\KT=0/\DT=d0:=by
     unfold unuB at f;have k1:(K==1)=false:=by rcases g with rfl | rfl<;>rfl
     have k2:(K==2)=false:=by rcases g with rfl | rfl<;>rfl
     have m:(K==3||(K==4||(decide (I.length=0)&&(!e&&!l))))=true:=by rcases g with rfl | rfl<;>rfl
     rw [k1,k2,m] at f;generalize n:eqD D d0=z1 at f;generalize q:eqD DF d0=z2 at f;generalize r:eqD DT d0=s at f;simp only [mY,cN,uu,D6,f8,kU,not_or,Bool.not_eq_false,aB,bp] at f;obtain ⟨a,⟨b,c⟩,d,e⟩:=f;exact ⟨kZ.1 (n.trans a),b,kZ.1 (q.trans c),d,kZ.1 (r.trans e)⟩
    obtain ⟨rfl,rfl,rfl,rfl,rfl⟩:=o;cases hs:sw (errI K e l I.length) 0 I with
    | some p=>rw [hs] at h;exact absurd h (Fg hs)
    | none=>
     refine ⟨g,rfl,rfl,rfl,rfl,rfl,by omega,by omega,λt j=>?_,k⟩;obtain ⟨i,hi⟩:=yd hs t j;exact SD hi
theorem HI {K:Int} {D:TD} {KF:Int} {DF:TD} {KT:Int} {DT:TD} {e l:Bool} {I:List TI} (p:SetP K D KF DF KT DT e l I) (hs:∀t∈I,smI t):∀t∈I,OkI t/\itI t false=0:=
 λt a=>⟨RS (hs t a) (p.its t a),(vJ (p.its t a)).2.2.2⟩
def AH (K:Int):Prop:=K=3\/K=4
instance (K:Int):Decidable (AH K):=inferInstanceAs (Decidable (K=3\/K=4))
theorem PI {K:Int} {D:TD} {KF:Int} {DF:TD} {KT:Int} {DT:TD} {e l:Bool} {I:List TI} (h:smE D DF DT I):
  mQ 20000000 K D KF DF KT DT e l I=some (if AH K then (if (fa K D KF DF KT DT e l I).2=0 then (qZ K e l I,0) else ([],(fa K D KF DF KT DT e l I).2)) else ([],18)):=by
 have c:∀x:AH K,(ob (gB 20000000 K D KF DF KT DT e l I) λi=>(cond (i != 0) (some ([],i)) (cond (decide ((0:Int)<=(len I))&&(decide ((len I)<=(len I))&&decide ((len I)<=(67108864:Int)))) (ob (ar (dJ 20000000) 20000000 ((len I),0,I,K,D,KF,DF,KT,DT,e,l,(List.replicate (Int.toNat (len I)) ([]:aa)))) (u10 λ_ y _ _ _ _ _ z g a=>(ob (dI 20000000 y) (u2 λf b=>(cond z (ob (cat f ([46,46]:aa)) λk=>(cond g (ob (cat ([46,46]:aa) b) λC=>(cond (Nat.ble (List.length a) 140737488355328&&Nat.ble (List.length (Lib.join a ([44]:aa))) 140737488355328) (ob (cat k (Lib.join a ([44]:aa))) λp=>(ob (cat p C) λo=>(some (o,0)))) none)) (cond (Nat.ble (List.length a) 140737488355328&&Nat.ble (List.length (Lib.join a ([44]:aa))) 140737488355328) (ob (cat k (Lib.join a ([44]:aa))) λv=>(ob (cat v b) λA=>(some (A,0)))) none))) (cond g (ob (cat ([46,46]:aa) b) λu=>(cond (Nat.ble (List.length a) 140737488355328&&Nat.ble (List.length (Lib.join a ([44]:aa))) 140737488355328) (ob (cat f (Lib.join a ([44]:aa))) λB=>(ob (cat B u) λr=>(some (r,0)))) none)) (cond (Nat.ble (List.length a) 140737488355328&&Nat.ble (List.length (Lib.join a ([44]:aa))) 140737488355328) (ob (cat f (Lib.join a ([44]:aa))) λq=>(ob (cat q b) λs=>(some (s,0)))) none))))))) none))) =
   some (if (fa K D KF DF KT DT e l I).2=0 then (qZ K e l I,(0:Int)) else ([],(fa K D KF DF KT DT e l I).2)):=by
  intro x;rw [yR h];simp only [ob];by_cases j:(fa K D KF DF KT DT e l I).2=0
  ·have P:=Az x j;have L:=P.most;have oks:=HI P h.2.2.2;have H:=BF λt F=>(oks t F).1;rw [ae j,j];have d:=Jt oks (by omega) K D KF DF KT DT e l I.length 0 (by omega) 20000000 (by omega);simp only [fD,af];have J:(decide ((0:Int)<=(len I))&&(decide ((len I)<=(len I))&&decide ((len I)<=(67108864:Int))))=true:=by
    have:len I=((I.length:Nat):Int):=rfl;rw [this];simp only [aB,bV];omega
   rw [J,aj,show (List.replicate (Int.toNat (len I)) ([]:aa))=(I.take 0).map dP++List.replicate (I.length - 0) [] from by simp];rw [show ar (dJ 20000000) 20000000 (len I,(0:Int),I,K,D,KF,DF,KT,DT,e,l,(I.take 0).map dP++List.replicate (I.length - 0) [])=_ from d];have G:(Nat.ble (List.length (I.map dP)) 140737488355328&&Nat.ble (List.length (Lib.join (I.map dP) ([44]:aa))) 140737488355328)=true:=by
    simp only [aB];exact ⟨cG (by simp;omega),cG (by omega)⟩
   simp only [u10,u9,u8,u7,u6,u5,u4,u3,u2,uS x,G,aj];unfold qZ;generalize E:(if K=4 then (123:UInt8) else 91)=b1;generalize endC K=b2;generalize Lib.join (I.map dP) [44]=w at H;cases e<;>cases l<;>simp only [aj,af]
   ·rw [dR (by simp only [aJ,dm];omega)];simp only [];rw [dR (by simp only [bE,aJ,dm];omega)];simp
   ·rw [dR (by simp only [aJ,dm];omega)];simp only [];rw [dR (by simp only [aJ,dm];omega)];simp only [];rw [dR (by simp only [bE,aJ,dm];omega)];simp
   ·rw [dR (by simp only [aJ,dm];omega)];simp only [];rw [dR (by simp only [bE,aJ,dm];omega)];simp only [];rw [dR (by simp only [bE,aJ,dm];omega)];simp
   ·rw [dR (by simp only [aJ,dm];omega)];simp only [];rw [dR (by simp only [aJ,dm];omega)];simp only [];rw [dR (by simp only [bE,aJ,dm];omega)];simp only [];rw [dR (by simp only [bE,aJ,dm];omega)];simp
  ·rw [ab j,show ((fa K D KF DF KT DT e l I).2 != 0)=true from by simp [j]];rfl
 unfold mQ;by_cases n:K=3
 ·rw [show (K != 3)=false from by simp [n],ae (.inl n)];exact c (.inl n)
 ·rw [show (K != 3)=true from by simp [n],aj];by_cases m:K=4
  ·rw [show (K != 4)=false from by simp [m],ae (.inr m)];exact c (.inr m)
  ·rw [show (K != 4)=true from by simp [m],ab (by rintro (h | h)<;>contradiction)];rfl
theorem Gk {K:Int} (b:AH K) {e l:Bool} {I:List TI} (c:1<=I.length) (a:I.length<=256) (ok:∀t∈I,OkI t) (d:(setE K e l I).2=0):Ej (qZ K e l I)=.inr (K,e,l,I):=by
 unfold Ej;rw [Gg b c a ok d (post:=[]) (by rw [cg,jP])];simp only [];rw [ab (by omega)]
theorem Up {c:UInt8} (h:mkOf c≠0):mt (mkOf c)=[c]:=by
 unfold mkOf at h ⊢;by_cases d:c=63
 ·subst d;rfl
 ·rw [ab d] at h ⊢;by_cases a:c=126
  ·subst a;rfl
  ·rw [ab a] at h ⊢;by_cases b:c=37
   ·subst b;rfl
   ·rw [ab b] at h;exact absurd rfl h
theorem OU (l:aa):l=mt (mkS l)++l.drop (mkN l):=by
 cases l with
 | nil=>rfl
 | cons c r=>
  unfold mkN;show c::r=mt (mkOf c)++_;by_cases h:mkOf c=0
  ·rw [ae (show mkS (c::r)=0 from h),h];rfl
  ·rw [ab (show ¬mkS (c::r)=0 from h),Up h];rfl
theorem Eu (S:aa) (p:Nat):S.drop p=mt (mkS (S.drop p))++S.drop (mkE S p):=by
 have:=OU (S.drop p);rw [gV] at this;exact this
theorem I0 (S:aa) (p:Nat):mkE S p=p+(mt (mkS (S.drop p))).length:=by
 unfold mkE mkN;have a:=AV (S.drop p);generalize mkS (S.drop p)=k at *;rcases (by omega:k=0\/k=1\/k=2\/k=3) with rfl | rfl | rfl | rfl<;>rfl
theorem A3 {S:aa} {p:Nat} (h:¬twoN (S.drop p)<2):S.drop p=(S.drop p).take 2++S.drop (p+2)/\((S.drop p).take 2).length=2/\∀c∈(S.drop p).take 2,isDX c=true:=by
 have b:=tg h;have a:twoN (S.drop p)=2:=by
  have:twoN (S.drop p)<=2:=by
   unfold twoN;have:∀(k:Nat) (l:aa),br isDX k l<=k:=by
    intro k
    induction k with
    | zero=>intro l;cases l<;>simp [br]
    | succ k ih=>
     intro l;cases l with
     | nil=>simp [br]
     | cons c r=>
      simp only [br];split
      ·have:=ih r;omega
      ·omega
   exact this 2 _
  omega
 refine ⟨by rw [<-gV];exact (rc 2 _).symm,by simp;omega,?_⟩;have:=yf (p:=isDX) 2 (S.drop p);rw [show br isDX 2 (S.drop p)=2 from a] at this;exact this
theorem ya {S:aa} {p:Nat} (h:¬eC 45 (S.drop p)=0):S.drop p=45::S.drop (p+1):=by
 cases a:S.drop p with
 | nil=>rw [a] at h;exact absurd rfl h
 | cons c r=>
  rw [a,ji] at h;by_cases hc:c=45
  ·subst hc;rw [<-gV,a];rfl
  ·rw [ab hc] at h;exact absurd rfl h
theorem sB {S:aa} {p k:Nat} {w:aa} (h:S.drop (mkE S p)=w++S.drop (mkE S p+k)):S.drop p=cc (mkS (S.drop p)) (mkS (S.drop (mkE S p+k))) w++S.drop (mkE S (mkE S p+k)):=by
 unfold cc;rw [fN,fN,<-Eu,<-h,<-Eu]
theorem Ji {S:aa} {a:Nat} {g l:Bool} {dg:aa} {x s:Nat} {m d:aa} {M P:Nat×Nat×Nat} {e:Nat} (b:pw S a=.inr (g,l,dg,x,s,m,d,M,P,e)):
  ∃A B,MkD A B m d/\M=spM A B/\P.1=a+(mt A.1).length/\S.drop a=rawD A B g l dg (x:Int) (s:Int) m d++S.drop e:=by
 unfold pw at b;cases hy:nU (S.drop (mkE S a)) with
 | inl k=>rw [hy] at b;cases b
 | inr y=>
  obtain ⟨E,G,r,H,s',k⟩:=y;obtain ⟨C,O,_⟩:=pH hy;have J:S.drop (mkE S a)=fj E G r (H:Int) (s':Int)++S.drop (mkE S a+k):=by
   rw [<-C,<-gV];exact (rc k _).symm
  have w0:=sB J;have c:=λp=>AV (S.drop p);rw [hy] at b;simp only [] at b;by_cases u:0<s'\/eC 45 (S.drop (mkE S (mkE S a+k)))=0
  ·rw [ae u] at b;simp only [mK,bz] at b;obtain ⟨rfl,rfl,rfl,rfl,rfl,rfl,rfl,rfl,rfl,rfl⟩:=b;refine ⟨(mkS (S.drop a),0,0),(mkS (S.drop (mkE S a+k)),0,0),⟨c _,by simp,by simp,c _,by simp,by simp,λ_=>⟨rfl,rfl⟩,λ_=>⟨rfl,rfl⟩⟩,rfl,I0 S a,?_⟩;unfold rawD;simpa using w0
  ·rw [ab u] at b;have z:=ya (λh=>u (.inr h));unfold rd2 at b;simp only [] at b;generalize L:mkE S (mkE S a+k)=i at *;by_cases t:twoN (S.drop (mkE S (i+1)))<2
   ·rw [ae t] at b;cases b
   rw [ab t] at b;obtain ⟨I,w,Q⟩:=A3 t;have v:=sB I;have f:(S.drop (mkE S (i+1))).take 2≠[]:=λh=>by rw [h] at w;simp at w
   by_cases q:eC 45 (S.drop (mkE S (mkE S (i+1)+2)))=0
   ·rw [ae q] at b;simp only [mK,bz] at b;obtain ⟨rfl,rfl,rfl,rfl,rfl,rfl,rfl,rfl,rfl,rfl⟩:=b;refine ⟨(mkS (S.drop a),mkS (S.drop (i+1)),0),(mkS (S.drop (mkE S a+k)),mkS (S.drop (mkE S (i+1)+2)),0),⟨c _,c _,by simp,c _,c _,by simp,λh=>absurd h f,λ_=>⟨rfl,rfl⟩⟩,rfl,I0 S a,?_⟩;unfold rawD;rw [ab f,ae rfl,jP,fN,dQ,<-v,<-z];exact w0
   ·rw [ab q] at b;have D:=ya q;unfold rd3 at b;generalize F:mkE S (mkE S (i+1)+2)=n at *;by_cases o:twoN (S.drop (mkE S (n+1)))<2
    ·rw [ae o] at b;cases b
    rw [ab o] at b;obtain ⟨N,u2,u3⟩:=A3 o;have K:=sB N;have j:(S.drop (mkE S (n+1))).take 2≠[]:=λh=>by rw [h] at u2;simp at u2
    simp only [mK,bz] at b;obtain ⟨rfl,rfl,rfl,rfl,rfl,rfl,rfl,rfl,rfl,rfl⟩:=b;refine ⟨(mkS (S.drop a),mkS (S.drop (i+1)),mkS (S.drop (n+1))),(mkS (S.drop (mkE S a+k)),mkS (S.drop (mkE S (i+1)+2)),mkS (S.drop (mkE S (n+1)+2))),⟨c _,c _,c _,c _,c _,c _,λh=>absurd h f,λh=>absurd h j⟩,rfl,I0 S a,?_⟩;unfold rawD;rw [ab f,ab j,fN,fN,dQ,dQ,<-K,<-D,<-v,<-z];exact w0
def okC (c:UInt8):Bool:=isDX c||(isMk c||(c==45||(c==89||(c==69||c==83))))
def isLv (c:UInt8):Bool:=c==69||(c==83||isMk c)
theorem P2:∀c:UInt8,(!okC c||decide (c.toNat<128))=true:=gH (λc=>!okC c||decide (c.toNat<128)) (by decide +kernel)
theorem Tj {c:UInt8} (h:okC c=true):c.toNat<128:=by
 have:=P2 c;rw [h] at this;simpa using this
def dgC (c:UInt8):UInt8:=if aS c then 100 else c
theorem TG:∀c:UInt8,(!decide (c.toNat<128)||(decide (0<=m6 (c.toNat:Int))&&(Lib.encodeRune (m6 (c.toNat:Int))==[dgC c])))=true:=
 gH (λc=>!decide (c.toNat<128)||(decide (0<=m6 (c.toNat:Int))&&(Lib.encodeRune (m6 (c.toNat:Int))==[dgC c]))) (by decide +kernel)
theorem GY:∀{l:aa},(∀c∈l,c.toNat<128)->xA l=l.map dgC:=by
 have a:∀(n:Nat) (l:aa),l.length=n->(∀c∈l,c.toNat<128)->Lib.mapGoD m6 n l=l.map dgC:=by
  intro n
  induction n with
  | zero=>intro l b _;rw [pq b];rfl
  | succ n ih=>
   intro l b h;cases l with
   | nil=>simp at b
   | cons c r=>
    have e:Lib.decodeL (c::r)=(c.toNat,1):=zq (l:=c::r) (i:=0) rfl (h c ks);rw [Lib.mapGoD,ab (by simp),e];have:=TG c;rw [am (h c ks)] at this;simp only [cN,mY,aB,bV,bp] at this;rw [ae this.1,this.2];rw [show (c::r).drop 1=r from rfl,ih r (by simpa using b) (λd e=>h d (eS _ e))];rfl
 intro l h;exact a l.length l rfl h
theorem vu (s a:aa):Lib.containsAny s a=s.any (a.contains ·):=by
 induction s with
 | nil=>rfl
 | cons b l ih=>
  unfold Lib.containsAny at ih ⊢;have d:=Lib.indexAny_ge a l;rw [Lib.indexAny,pG];cases c:a.contains b
  ·rw [ab (by simp),mY,<-ih];by_cases h:Lib.indexAny l a=-1
   ·rw [ae (by simp [h]),h]
   ·rw [ab (by simp [h])];congr 1;exact propext (by omega)
  ·simp
def tL (u:aa):aa:=match u with | c::r=>if c=45 then r else c::r | []=>[]
def iI:List (aa):=[[100,100,100,88],[100,100,88,88],[100,100,100,100,45,88,88],[100,100,100,100,45,100,100,45,88,88],[100,100,100,100,45,88,88,45,88,88]]
def simB (v:aa):Bool:=iI.contains (v.map dgC)
theorem NQ (n:Nat) (u:aa):gW n u=some (tL u):=by
 unfold gW fc eD tL;cases u with
 | nil=>rfl
 | cons c r=>
  have a:bx (c::r).length (1:Int)=some 1:=da (i:=1) (by simp);rw [am (show (((c::r).length:Nat):Int)>=1 by rw [aJ];omega),aj,a];simp only [ob,kn,jU,cg];by_cases hc:c=45
  ·subst hc;rw [ae rfl];simp
  ·rw [ab hc,show (([c]:aa)==[45])=false from by simp [hc]];rfl
theorem UD (n:Nat) (u:aa):cn n u=some (decide (u.head?=some 89)):=by
 unfold cn ew;cases u with
 | nil=>rfl
 | cons c r=>
  have a:bx (c::r).length (1:Int)=some 1:=da (i:=1) (by simp);rw [am (show (((c::r).length:Nat):Int)>=1 by rw [aJ];omega),aj,a];simp only [ob,kn,jU,cg,oK,ak];rw [show (([c]:aa)==[89])=decide (c=89) from by rw [ux];simp]
theorem wR (v:aa):cK 20000000 v iI=some (iI.contains v):=by
 have d:∀(r i:Nat),i+r=5->∀N,r<N->ar (aZ 20000000) N (v,5,(i:Int),iI)=some (if (iI.drop i).contains v then .inl ((i+(iI.drop i).idxOf v:Nat):Int) else .inr ()):=by
  intro r
  induction r with
  | zero=>
   intro i hi N e;obtain ⟨N,rfl⟩:∃k,N=k+1:=⟨N - 1,by omega⟩;obtain rfl:i=5:=by omega
   rw [ar];rfl
  | succ r ih=>
   intro i hi N e;obtain ⟨N,rfl⟩:∃k,N=k+1:=⟨N - 1,by omega⟩;have a:i<iI.length:=by show i<5;omega
   have g:=bn a;have:aZ 20000000 (v,5,(i:Int),iI)=some (if v=iI[i] then .inr (.inl (i:Int)) else .inl (v,5,((i+1:Nat):Int),iI)):=by
    unfold aZ;simp only [];rw [am (show (i:Int)<5 by omega),aj,fb a];simp only [ob,g];rw [show IntKind.wrap .i64 ((i:Int)+1)=((i+1:Nat):Int) from qK (by omega),ii];split<;>rfl
   rw [ar,this,rz a];by_cases b:v=iI[i]
   ·rw [ae b];simp only [];rw [<-b];simp
   ·rw [ab b];simp only [];rw [ih (i+1) (by omega) N (by omega)];have f:(iI[i]==v)=false:=by simp;exact λh=>b h.symm
    have c:(v==iI[i])=false:=by simp;exact b
    rw [List.contains_cons,c,mY,List.idxOf_cons,f];simp only [af];rw [show i+1+List.idxOf v (List.drop (i+1) iI)=i+(List.idxOf v (List.drop (i+1) iI)+1) by omega]
 have:=d 5 0 rfl 20000000 (by omega);unfold cK dW;rw [show ar (aZ 20000000) 20000000 (v,(((List.length iI):Nat):Int),0,iI)=_ from this];rw [cg];cases h:iI.contains v
 ·rfl
 ·simp only [aI,ob];rw [am (by omega)]
def lvl (u:aa) (b X:Bool) (code:Int):Int:=
 if u.any isLv then 2 else if 24<code then 2 else if (X&&!simB (tL u))=true then 2
 else if b=true\/X=true\/0<code\/u.head?=some 45\/u.head?=some 89 then 1 else 0
structure Body (T u:aa) (k:Nat):Prop where
 eq:T=u++mt k
 k4:k<4
 last:∃v z,u=v++[z]/\isMk z=false
 asc:∀c∈T,c.toNat<128
 len:T.length<=1000
theorem Body.ne {T u:aa} {k:Nat} (h:Body T u k):u≠[]:=by
 obtain ⟨v,z,rfl,_⟩:=h.last;simp
theorem Body.ascu {T u:aa} {k:Nat} (h:Body T u k):∀c∈u,c.toNat<128:=λc hc=>h.asc c (by rw [h.eq];exact List.mem_append_left _ hc)
theorem Body.lenu {T u:aa} {k:Nat} (h:Body T u k):u.length<=1000:=by
 have:=h.len;rw [h.eq,bE] at this;omega
theorem OD (c:UInt8):([63,126,37]:aa).contains c=isMk c:=by
 have:=gH (λc=>([63,126,37]:aa).contains c==isMk c) (by decide +kernel) c;simpa using this
theorem U4 {k:Nat} (h:k<4):∀c∈mt k,isMk c=true/\c≠69/\c≠83/\c≠88:=by
 rcases (by omega:k=0\/k=1\/k=2\/k=3) with rfl | rfl | rfl | rfl<;>simp [mt,isMk,mkOf]
theorem HZ {p:UInt8->Bool}:∀{l:aa},(∀c∈l,p c=true)->l.dropWhile p=[]
 | [],_=>rfl
 | c::l,h=>by rw [List.dropWhile_cons,h c ks];exact HZ λd a=>h d (eS _ a)
theorem ve {T u:aa} {k:Nat} (h:Body T u k):Lib.trimRightS T [63,126,37]=u:=by
 obtain ⟨v,z,rfl,b⟩:=h.last;unfold Lib.trimRightS;rw [h.eq,List.reverse_append,List.reverse_append];have:List.dropWhile (λx=>([63,126,37]:aa).contains x) ((mt k).reverse++([z].reverse++v.reverse))=[z].reverse++v.reverse:=by
  rw [List.dropWhile_append];have a:List.dropWhile (λx=>([63,126,37]:aa).contains x) (mt k).reverse=[]:=by
   refine HZ λc hc=>?_;rw [OD];exact (U4 h.k4 c (CH.1 hc)).1
  rw [a];simp only [List.isEmpty_nil,aI,List.reverse_singleton,Db];rw [List.dropWhile_cons,OD,b];simp
 rw [this];simp
theorem Q7 (c:UInt8):([63,126,37,69,83]:aa).contains c=isLv c:=by
 have:=gH (λc=>([63,126,37,69,83]:aa).contains c==isLv c) (by decide +kernel) c;simpa using this
theorem MN (u:aa):(u==tL u)=!decide (u.head?=some 45):=by
 unfold tL;cases u with
 | nil=>rfl
 | cons c r=>
  simp only [oK,ak];by_cases hc:c=45
  ·subst hc;rw [ae rfl,am rfl];simp only [cN,aL,ne_eq];intro h;have:=bO List.length h;simp at this
  ·rw [ab hc,aq hc];simp
theorem JF (u:aa):(tL u).length<=u.length:=by
 unfold tL;split
 ·split<;>simp
 ·simp
theorem HH {u:aa}:∀c∈tL u,c∈u:=by
 unfold tL;split
 ·split
  ·intro c hc;exact eS _ hc
  ·intro c hc;exact hc
 ·intro c hc;exact hc
theorem C4 {T u:aa} {k:Nat} (h:Body T u k):(u==T)=decide (k=0):=by
 rw [h.eq];rcases (by have:=h.k4;omega:k=0\/k=1\/k=2\/k=3) with rfl | rfl | rfl | rfl
 ·simp [mt]
 all_goals
  rw [show decide _=false from rfl,aL];intro e;have:=bO List.length e;simp [mt] at this
theorem Uh {T u:aa} {k:Nat} (h:Body T u k) {x:TD} (hs:smT x):jZ 20000000 T x=some (lvl u (decide (k≠0)) (hasX x.2.2.1||(hasX x.2.2.2.2.2.1||hasX x.2.2.2.2.2.2.1)) (seT x)):=by
 have j:ap10 (bg 20000000) x=some (seT x,decide (0<seT x)):=pt 20000000 _ _ _ _ _ _ _ _ _ _ hs.1;have n:=h.len;have l:=h.lenu;have g:=JF u;have i:wi T [63,126,37]=true:=by
  unfold wi;rw [cG (by omega)];rfl
 have f:yw (tL u)=true:=cG (by omega);have m:vn u [63,126,37,69,83]=true:=by
  unfold vn;rw [cG (show u.length<=4294967280 by omega)];have:JP u=true:=bG.2 λc hc=>cG (h.ascu c hc);rw [this];rfl
 unfold jZ;rw [j,fmT hs];simp only [ob,u2,i,aj,ve h,NQ,f,m,GY (λc hc=>h.ascu c (HH c hc)),vu,Q7,UD];rw [show ([[100,100,100,88],[100,100,88,88],[100,100,100,100,45,88,88],[100,100,100,100,45,100,100,45,88,88],[100,100,100,100,45,88,88,45,88,88]]:List (aa))=iI from rfl,wR];simp only [MN,C4 h,Bool.not_not];unfold lvl simB;rw [show (List.any u λx=>isLv x)=u.any isLv from rfl];generalize (hasX x.2.2.1||(hasX x.2.2.2.2.2.1||hasX x.2.2.2.2.2.2.1))=X;generalize iI.contains ((tL u).map dgC)=F;cases u.any isLv
 ·simp only [af,bj,aE];by_cases b:24<seT x
  ·rw [ae b,am (show 0<seT x by omega),am (show seT x>=25 by omega)];rfl
  ·rw [ab b,aq (show ¬seT x>=25 by omega)];have a:(cond (decide (u.head?=some 45)) (some (1:Int)) (cond (decide (u.head?=some 89)) (some 1) (cond (!decide (k=0)) (some 1) (cond (decide (0<seT x)) (some 1) (cond X (some 1) (some 0))))))=some (if decide (k≠0)=true\/X=true\/0<seT x\/u.head?=some 45\/u.head?=some 89 then 1 else 0):=by
    by_cases a1:u.head?=some 45
    ·rw [am a1,ae (by simp [a1])];rfl
    rw [aq a1];by_cases a2:u.head?=some 89
    ·rw [am a2,ae (by simp [a2])];rfl
    rw [aq a2];by_cases e:k=0
    ·rw [am e];by_cases d:0<seT x
     ·rw [am d,ae (by simp [d])];rfl
     rw [aq d];cases X
     ·rw [ab (by simp [a1,a2,e,d])];rfl
     ·rw [ae (by simp)];rfl
    ·rw [aq e,ae (by simp [e])];rfl
   cases X
   ·simp only [af,xz,bj,aE];simp only [af,bj] at a;rw [<-a];cases decide (0<seT x)<;>rfl
   ·cases F
    ·cases decide (0<seT x)<;>rfl
    ·simp only [aj,cN,af,xJ,bj,aE];simp only [aj] at a;rw [<-a];cases decide (0<seT x)<;>rfl
 ·rfl
def AS:aa->Int->Int->Option (Int×Int)
 | [],x,m=>some (x,m)
 | c::r,x,m=>if c=69\/c=83\/(isMk c=true/\r≠[]) then none else AS r (if c=88 then 1 else x) (if isMk c=true then 1 else m)
theorem UW (c:UInt8):dF 20000000 ((c.toNat:Nat):Int)=some ((mkOf c:Nat):Int):=(zh 19999700 c).2
theorem Lu (c:UInt8):decide (((mkOf c:Nat):Int)>0)=isMk c:=by
 unfold isMk;by_cases h:0<mkOf c
 ·rw [am h,am (by omega)]
 ·rw [aq h,aq (by omega)]
theorem Ib {T:aa} (v:T.length<=1000) (x:TD):∀(r i:Nat) (a m:Int),i+r=T.length->∀N,r<N->
  ar (db 20000000) N (T,a,m,(i:Int),x)=some (match AS (T.drop i) a m with | some p=>.inr (T,p.1,p.2,x) | none=>.inl 2):=by
 intro r
 induction r with
 | zero=>
  intro i a m hi N s;obtain ⟨N,rfl⟩:∃k,N=k+1:=⟨N - 1,by omega⟩;obtain rfl:i=T.length:=by omega
  have:db 20000000 (T,a,m,((T.length:Nat):Int),x)=some (.inr (.inr (T,a,m,x))):=by
   unfold db;simp only [u5,u4,u3,u2];rw [aq (show ¬((T.length:Nat):Int)<len T by show ¬((T.length:Nat):Int)<((T.length:Nat):Int);omega)];rfl
  rw [ar,this,wI];rfl
 | succ r ih=>
  intro i a m hi N s;obtain ⟨N,rfl⟩:∃k,N=k+1:=⟨N - 1,by omega⟩;have d:i<T.length:=by omega
  have q:T[i]?=some T[i]:=bn d;rw [ar,rz d,AS];generalize T[i]=c at q ⊢;have o:T.drop (i+1)≠[]↔i+1<T.length:=by
   rw [ne_eq,List.drop_eq_nil_iff];omega
  have j:(((c.toNat:Nat):Int)==69)=decide (c=69):=qc c 69 (by decide);have g:(((c.toNat:Nat):Int)==83)=decide (c=83):=qc c 83 (by decide);have l:(((c.toNat:Nat):Int)==88)=decide (c=88):=qc c 88 (by decide);have t:w64 (len T - 1)=((T.length - 1:Nat):Int):=Ko (by omega) (by omega);have:db 20000000 (T,a,m,(i:Int),x)=some (if c=69\/c=83\/(isMk c=true/\T.drop (i+1)≠[]) then .inr (.inl 2) else .inl (T,(if c=88 then 1 else a),(if isMk c=true then 1 else m),((i+1:Nat):Int),x)):=by
   unfold db;simp only [u5,u4,u3,u2];rw [am (show (i:Int)<len T by show (i:Int)<((T.length:Nat):Int);omega)];simp only [aj,ob,dK q,j,g,l,UW,Lu,t];rw [qK (by omega)];by_cases e:c=69
   ·rw [am e,ae (.inl e)];rfl
   rw [aq e];by_cases f:c=83
   ·rw [am f,ae (.inr (.inl f))];rfl
   rw [aq f];simp only [af];cases u:isMk c
   ·rw [ab (by simp [e,f])];simp only [af,bj,aE];by_cases b:c=88
    ·rw [am b,ae b];rfl
    ·rw [aq b,ab b];rfl
   ·simp only [aj,aI];by_cases n:i+1<T.length
    ·rw [am (show (i:Int)<((T.length - 1:Nat):Int) by omega),ae (.inr (.inr ⟨trivial,o.2 n⟩))];rfl
    ·rw [aq (show ¬(i:Int)<((T.length - 1:Nat):Int) by omega),ab (by
      rintro (h | h | ⟨_,h⟩)
      ·exact e h
      ·exact f h
      ·exact n (o.1 h))]
     by_cases b:c=88
     ·rw [am b,ae b];rfl
     ·rw [aq b,ab b];rfl
  rw [this];by_cases hc:c=69\/c=83\/(isMk c=true/\T.drop (i+1)≠[])
  ·rw [ae hc,ae hc]
  ·rw [ab hc,ab hc];exact ih (i+1) _ _ (by omega) N (by omega)
theorem BO:∀(v:aa) (w:aa) (a:Int),w≠[]->AS (v++w) a 0=if v.any isLv then none else AS w (if v.any (·==88) then 1 else a) 0
 | [],w,a,_=>by simp
 | c::v,w,a,d=>by
  rw [dQ,AS,pG,pG];have f:v++w≠[]:=by
   intro h;exact d (List.append_eq_nil_iff.1 h).2
  by_cases hc:isLv c=true
  ·have:c=69\/c=83\/(isMk c=true/\v++w≠[]):=by
    unfold isLv at hc;simp only [f8,bp] at hc;rcases hc with h | h | h
    ·exact .inl h
    ·exact .inr (.inl h)
    ·exact .inr (.inr ⟨h,f⟩)
   rw [ae this,hc];simp
  ·have hc':isLv c=false:=by simpa using hc
   have e:c≠69/\c≠83/\isMk c=false:=by
    unfold isLv at hc';simp only [mW,aL] at hc';exact hc'
   rw [ab (by rintro (h | h | ⟨h,_⟩)<;>simp_all),e.2.2,hc'];simp only [bj,aE,mY];rw [BO v w _ d];by_cases b:c=88
   ·subst b;simp
   ·rw [ab b,show (c==88)=false from by simp [b],mY]
theorem Su {T u:aa} {k:Nat} (h:Body T u k):AS T 0 0=if u.any isLv then none else some (if u.any (·==88) then 1 else 0,if k=0 then 0 else 1):=by
 obtain ⟨v,z,rfl,d⟩:=h.last;rw [h.eq,fN,BO v _ 0 (by simp)];rw [qx,qx];cases v.any isLv
 ·simp only [bj,aE,mY,pG,List.any_nil,uu,Db];rw [AS,d];by_cases b:z=69
  ·subst b;simp [isLv]
  by_cases a:z=83
  ·subst a;simp [isLv]
  have e:isLv z=false:=by unfold isLv;rw [d];simp [b,a]
  rw [ab (by simp [b,a]),e];simp only [bj,aE];have hx:(if z=88 then (1:Int) else if (v.any λx=>x==88)=true then 1 else 0)=if ((v.any λx=>x==88)||z==88)=true then 1 else 0:=by
   by_cases c:z=88
   ·subst c;simp
   ·rw [ab c,show (z==88)=false from by simp [c],uu]
  rw [hx];rcases (by have:=h.k4;omega:k=0\/k=1\/k=2\/k=3) with rfl | rfl | rfl | rfl<;>rfl
 ·simp
theorem uy (f:aa) (u:∀c∈f,c=100\/c=88\/c=45) (w:f.length<=1000) (t:aa):aV 20000000 t f=some (if t.map dgC=f then 1 else 0):=by
 unfold aV;rw [show (len t != len f)=!decide (t.length=f.length) from bO _ (natB _ _)];by_cases m:t.length=f.length
 case neg=>
  rw [aq m,ab (λh=>m (by rw [<-h];simp))];rfl
 rw [am m];have loop:∀(r i:Nat),i+r=t.length->∀N,r<N->ar (dS 20000000) N (t,f,(i:Int))=some (if (t.drop i).map dgC=f.drop i then .inr () else .inl 0):=by
  intro r
  induction r with
  | zero=>
   intro i hi N v;obtain ⟨N,rfl⟩:∃k,N=k+1:=⟨N - 1,by omega⟩;obtain rfl:i=t.length:=by omega
   have:dS 20000000 (t,f,((t.length:Nat):Int))=some (.inr (.inr ())):=by
    unfold dS;simp only [u3,u2];rw [aq (show ¬((t.length:Nat):Int)<len t by show ¬((t.length:Nat):Int)<((t.length:Nat):Int);omega)];rfl
   rw [ar,this,wI,m,wI];rfl
  | succ r ih=>
   intro i hi N v;obtain ⟨N,rfl⟩:∃k,N=k+1:=⟨N - 1,by omega⟩;have j:i<t.length:=by omega
   have b:i<f.length:=by omega
   have q:t[i]?=some t[i]:=bn j;have n:f[i]?=some f[i]:=bn b;have o:=u _ (List.getElem_mem b);rw [ar,rz j,rz b,iC];generalize t[i]=c at q ⊢;generalize f[i]=d at n o ⊢;have a:(dgC c=d)↔(c=d\/(d=100/\aS c=true)):=by
    unfold dgC;by_cases h:aS c=true
    ·rw [ae h];constructor
     ·intro e;exact .inr ⟨e.symm,h⟩
     ·rintro (e | ⟨e,_⟩)
      ·subst e;rcases o with rfl | rfl | rfl
       ·rfl
       ·exact absurd h (by decide)
       ·exact absurd h (by decide)
      ·exact e.symm
    ·rw [ab h];constructor
     ·intro e;exact .inl e
     ·rintro (e | ⟨_,e⟩)
      ·exact e
      ·exact absurd e h
   have g:aS c=(decide (48<=c.toNat)&&decide (c.toNat<=57)):=by
    have:=gH (λc=>aS c==(decide (48<=c.toNat)&&decide (c.toNat<=57))) (by decide +kernel) c;simpa using this
   have:dS 20000000 (t,f,(i:Int))=some (if dgC c=d then .inl (t,f,((i+1:Nat):Int)) else .inr (.inl 0)):=by
    unfold dS;simp only [u3,u2];rw [am (show (i:Int)<len t by show (i:Int)<((t.length:Nat):Int);omega)];simp only [aj,ob,dK q,dK n];rw [qK (by omega),show (((c.toNat:Nat):Int) != ((d.toNat:Nat):Int))=!(c==d) from bO _ (na c d),show (((d.toNat:Nat):Int)==100)=decide (d=100) from qc d 100 (by decide)];by_cases e:c=d
    ·rw [ae (a.2 (.inl e)),show (c==d)=true from by simp [e]];rfl
    ·rw [show (c==d)=false from by simp [e]];by_cases l:d=100
     ·rw [am l];simp only [g9,aj];by_cases p:48<=c.toNat
      ·rw [am (show ((c.toNat:Nat):Int)>=48 by omega)];by_cases s:c.toNat<=57
       ·rw [am (show ((c.toNat:Nat):Int)<=57 by omega),ae (a.2 (.inr ⟨l,by rw [g];simp [p,s]⟩))];rfl
       ·rw [aq (show ¬((c.toNat:Nat):Int)<=57 by omega),ab (λh=>by
         rcases a.1 h with h | ⟨_,h⟩
         ·exact e h
         ·rw [g] at h;simp [s] at h)];rfl
      ·rw [aq (show ¬((c.toNat:Nat):Int)>=48 by omega),ab (λh=>by
        rcases a.1 h with h | ⟨_,h⟩
        ·exact e h
        ·rw [g] at h;simp [p] at h)];rfl
     ·rw [aq l,ab (λh=>by
       rcases a.1 h with h | ⟨h,_⟩
       ·exact e h
       ·exact l h)];rfl
   rw [this];by_cases e:dgC c=d
   ·rw [ae e];simp only [];rw [ih (i+1) (by omega) N (by omega),e];simp
   ·rw [ab e,ab (λh=>e (List.cons.inj h).1)]
 have:=loop t.length 0 (by omega) 20000000 (by omega);rw [show ((0:Nat):Int)=0 from rfl,cg,cg] at this;rw [this];split<;>rfl
theorem Ii (t:aa):(w64 ((w64 ((w64 ((w64 ((if t.map dgC=[100,100,100,88] then (1:Int) else 0)+(if t.map dgC=[100,100,88,88] then (1:Int) else 0)))+(if t.map dgC=[100,100,100,100,45,88,88] then (1:Int) else 0)))+(if t.map dgC=[100,100,100,100,45,100,100,45,88,88] then (1:Int) else 0)))+(if t.map dgC=[100,100,100,100,45,88,88,45,88,88] then (1:Int) else 0))==0)=!simB t:=by
 unfold simB iI;simp only [List.contains_cons,List.contains_nil,uu];have e:∀f:aa,(t.map dgC=f)=((t.map dgC==f)=true):=λf=>by simp
 simp only [e];generalize (t.map dgC==[100,100,100,88])=z1;generalize (t.map dgC==[100,100,88,88])=z2;generalize (t.map dgC==[100,100,100,100,45,88,88])=a;generalize (t.map dgC==[100,100,100,100,45,100,100,45,88,88])=c;generalize (t.map dgC==[100,100,100,100,45,88,88,45,88,88])=b;cases z1<;>cases z2<;>cases a<;>cases c<;>cases b<;>rfl
theorem QT (t:aa):aV 20000000 t [100,100,100,88]=some (if t.map dgC=[100,100,100,88] then 1 else 0):=uy _ (by decide) (by decide) t
theorem Sl (t:aa):aV 20000000 t [100,100,88,88]=some (if t.map dgC=[100,100,88,88] then 1 else 0):=uy _ (by decide) (by decide) t
theorem SN (t:aa):aV 20000000 t [100,100,100,100,45,88,88]=some (if t.map dgC=[100,100,100,100,45,88,88] then 1 else 0):=uy _ (by decide) (by decide) t
theorem SA (t:aa):aV 20000000 t [100,100,100,100,45,100,100,45,88,88]=some (if t.map dgC=[100,100,100,100,45,100,100,45,88,88] then 1 else 0):=uy _ (by decide) (by decide) t
theorem Rh (t:aa):aV 20000000 t [100,100,100,100,45,88,88,45,88,88]=some (if t.map dgC=[100,100,100,100,45,88,88,45,88,88] then 1 else 0):=uy _ (by decide) (by decide) t
theorem Qo {T u:aa} {k:Nat} (h:Body T u k) {g l:Bool} {dg:aa} {e q:Nat} {m d:aa} {M P:Nat×Nat×Nat} {p:Nat} (J:pw T 0=.inr (g,l,dg,e,q,m,d,M,P,p)):
  lW 20000000 T=some (lvl u (decide (k≠0)) (u.any (·==88)) (sea m)):=by
 have I:=h.len;obtain ⟨Q,_,C⟩:=Dl 19999700 T 0 (by omega) (by omega) (by omega);rw [show 19999700+300=20000000 from rfl,J,show ((0:Nat):Int)=0 from rfl] at C;have j:=Ib I (g,l,dg,(e:Int),(q:Int),m,d,(M.1:Int),(M.2.1:Int),(M.2.2:Int)) T.length 0 0 0 (by omega) 20000000 (by omega);rw [show ((0:Nat):Int)=0 from rfl,cg,Su h] at j;unfold lW;rw [C];simp only [ob,RN];rw [show ar (db 20000000) 20000000 (T,0,0,0,iF (g,l,dg,(e:Int),(q:Int),m,d,(M.1:Int),(M.2.1:Int),(M.2.2:Int),Q,T,(p:Int),(0:Int)))=_ from j];have z:∃c r,u=c::r:=by
  cases f:u with
  | nil=>exact absurd f h.ne
  | cons c r=>exact ⟨c,r,rfl⟩
 have w:ap10 (cV 20000000) (iF (g,l,dg,(e:Int),(q:Int),m,d,(M.1:Int),(M.2.1:Int),(M.2.2:Int),Q,T,(p:Int),(0:Int)))=some (sea m):=rsT _;unfold lvl;cases u.any isLv
 case true=>rfl
 simp only [bj,aE,obs,sm,ob,u4,u3,u2];rw [w];simp only [ob];by_cases b:24<sea m
 ·rw [ae b,show decide (sea m>24)=true from am b];rfl
 rw [ab b,show decide (sea m>24)=false from aq b,af];have H:=h.k4;have s:=bO List.length h.eq;rw [bE] at s;have o:bx (List.length T) (w64 ((len T) - (if k=0 then (0:Int) else 1)))=some u.length:=by
  have:w64 ((len T) - (if k=0 then (0:Int) else 1))=((u.length:Nat):Int):=by
   have F:len T=((T.length:Nat):Int):=rfl;rw [F,s];show IntKind.wrap .i64 _=_;rw [wrap_i64 _ (by split<;>omega) (by split<;>omega)];rcases (by omega:k=0\/k=1\/k=2\/k=3) with rfl | rfl | rfl | rfl<;>simp [mt]
  rw [this,da (by omega)]
 have A:List.take u.length T=u:=by rw [h.eq,yj]
 rw [o];simp only [cg,A];obtain ⟨c,r,f⟩:=z;have y:sx u (0:Int)=some c:=by rw [f];rfl
 have v:sx T (0:Int)=some c:=by rw [h.eq,f];rfl
 have t:tL u=if c=45 then r else u:=by rw [f];rfl
 have K:u.head?=some c:=by rw [f];rfl
 have b1:bx u.length (1:Int)=some 1:=da (i:=1) (by rw [f];simp);have B:List.drop 1 (List.take u.length u)=r:=by rw [mf,f];rfl
 rw [y,v,b1];simp only [B,ob,QT,Sl,SN,SA,Rh,Ii];rw [show (((c.toNat:Nat):Int)==45)=decide (c=45) from qc c 45 (by decide),show (((c.toNat:Nat):Int)==89)=decide (c=89) from qc c 89 (by decide),K];have a:(cond ((if (u.any λx=>x==88)=true then (1:Int) else 0)==1) (some (1:Int)) (cond ((if k=0 then (0:Int) else 1)==1) (some 1) (cond (decide (sea m>0)) (some 1) (cond (decide (c=45)) (some 1) (cond (decide (c=89)) (some 1) (some 0)))))) =
   some (if decide (k≠0)=true\/(u.any λx=>x==88)=true\/0<sea m\/some c=some 45\/some c=some 89 then 1 else 0):=by
  cases (u.any λx=>x==88)
  ·by_cases a1:k=0
   ·by_cases a2:0<sea m
    ·simp [a1,a2]
    ·by_cases D:c=45
     ·simp [a1,a2,D]
     ·by_cases E:c=89
      ·simp [a1,a2,E]
      ·simp [a1,a2,D,E]
   ·simp [a1]
  ·simp
 by_cases hc:c=45
 ·rw [am hc,aj];rw [t,ae hc];rw [am hc] at a;cases n:(u.any λx=>x==88)
  ·rw [n] at a;simp only [xz,bj,aE,show ((0:Int)==1)=false from rfl,af] at a ⊢;exact a
  ·rw [n] at a;cases G:simB r
   ·simp
   ·simp only [aI,show ((1:Int)==1)=true from rfl,aj,af,cN,xJ,bj,aE] at a ⊢;exact a
 ·rw [aq hc,af];rw [t,ab hc];rw [aq hc] at a;cases n:(u.any λx=>x==88)
  ·rw [n] at a;simp only [xz,bj,aE,show ((0:Int)==1)=false from rfl,af] at a ⊢;exact a
  ·rw [n] at a;cases G:simB u
   ·simp
   ·simp only [aI,show ((1:Int)==1)=true from rfl,aj,af,cN,xJ,bj,aE] at a ⊢;exact a
theorem ow {k:Nat} (h:k<4):(mt k).all okC=true:=by
 rcases (by omega:k=0\/k=1\/k=2\/k=3) with rfl | rfl | rfl | rfl<;>decide
theorem x_mk {k:Nat} (h:k<4):(mt k).any (·==88)=false:=by
 rcases (by omega:k=0\/k=1\/k=2\/k=3) with rfl | rfl | rfl | rfl<;>decide
theorem SR:((List.range 100).all λk=>(Lib.decDigits k).all λc=>okC c&&(!isMk c&&!(c==88)))=true:=by decide +kernel
theorem AL {k:Nat} (h:k<100) {letter:UInt8} (a:letter=69\/letter=83):(eY letter k).all (λc=>okC c&&(!isMk c&&!(c==88)))=true:=by
 unfold eY;split
 ·rw [lg,(bG.1 SR) k (iH.2 h)];rcases a with rfl | rfl<;>decide
 ·rfl
theorem Hu {c:UInt8} (h:isDX c=true):okC c=true:=by unfold okC;rw [h];rfl
theorem qP {g l:Bool} {dg:aa} {x q:Nat} (h:okY g l dg (x:Int) (q:Int)):fj g l dg (x:Int) (q:Int)≠[]/\(∀c∈fj g l dg (x:Int) (q:Int),okC c=true/\isMk c=false)/\(fj g l dg (x:Int) (q:Int)).any (·==88)=hasX dg:=by
 obtain ⟨o,m,n,p,e,k⟩:=kA h;have hx:x<100:=by omega
 have f:q<100:=by omega
 have d:=AL hx (letter:=69) (.inl rfl);have b:=AL f (letter:=83) (.inr rfl);have a:=IE h;have j:dg≠[]:=by
  rintro rfl;simp at e
 rw [jV];refine ⟨by cases l<;>cases g<;>simp [j],λc hc=>?_,?_⟩
 ·simp only [kX,or_assoc] at hc;rcases hc with hc | hc | hc | hc | hc
  ·cases l
   ·cases hc
   ·rw [vQ.1 hc];decide
  ·cases g
   ·cases hc
   ·rw [vQ.1 hc];decide
  ·exact ⟨Hu (a c hc),GO (a c hc)⟩
  ·have:=(bG.1 d) c hc;simp only [aB,kU] at this;exact ⟨this.1,this.2.1⟩
  ·have:=(bG.1 b) c hc;simp only [aB,kU] at this;exact ⟨this.1,this.2.1⟩
 ·have no:∀w:aa,w.all (λc=>okC c&&(!isMk c&&!(c==88)))=true->w.any (·==88)=false:=by
   intro w i;rw [qk];intro c hc;have:=(bG.1 i) c hc;simp only [aB,kU] at this;rw [this.2.2];simp
  simp only [qx,no _ d,no _ b,uu];unfold hasX;cases l<;>cases g<;>simp
theorem DJ {w:aa} (h:w≠[]) (a:∀c∈w,isMk c=false) (v:aa):∃b z,v++w=b++[z]/\isMk z=false:=
 ⟨v++w.dropLast,w.getLast h,by rw [fN,List.dropLast_concat_getLast],a _ (List.getLast_mem h)⟩
theorem Ln {A B:Nat×Nat×Nat} {g l:Bool} {dg:aa} {x q:Nat} {m d:aa} (hs:ShD g l dg x q m d) (X:MkD A B m d):
  ∃u k,Body (rawD A B g l dg (x:Int) (q:Int) m d) u k/\u.any (·==88)=(hasX dg||(hasX m||hasX d))/\(u.any isLv=false->A=(0,0,0)/\(m≠[]->B.1=0)/\(d≠[]->B.2.1=0))/\k=(if m=[] then B.1 else if d=[] then B.2.1 else B.2.2):=by
 obtain ⟨I,F,C⟩:=qP hs.yr;have yl:=uT hs.yr;obtain ⟨f,p,v⟩:=A;obtain ⟨j,r,E⟩:=B;obtain ⟨a0,a1,a2,b0,b1,b2,zm,zd⟩:=X;simp only at a0 a1 a2 b0 b1 b2 zm zd;unfold rawD cc;simp only;generalize fj g l dg (x:Int) (q:Int)=Y at *;have b:∀w:aa,w.all okC=true->∀c∈w,c.toNat<128:=λw W c hc=>Tj ((bG.1 W) c hc);have y:Y.all okC=true:=bG.2 λc hc=>(F c hc).1;have n:∀k,k<4->(mt k).length<=1:=λk h=>by
  rcases (by omega:k=0\/k=1\/k=2\/k=3) with rfl | rfl | rfl | rfl<;>simp [mt]
 have N:=n f a0;have P:=n p a1;have Q:=n v a2;have L:=n j b0;have V:=n r b1;have T:=n E b2;have a:∀k,k<4->(mt k).any isLv=false->k=0:=λk h=>by
  rcases (by omega:k=0\/k=1\/k=2\/k=3) with rfl | rfl | rfl | rfl<;>decide
 have o:∀w:aa,w.any (λx=>x==88)=hasX w:=λw=>rfl;by_cases i:m=[]
 ·have e:d=[]:=hs.day.resolve_right (λz=>z.1 i);subst i e;obtain ⟨rfl,rfl⟩:=zm rfl;obtain ⟨rfl,rfl⟩:=zd rfl;simp only [aI,jP];refine ⟨mt f++Y,j,⟨rfl,b0,DJ I (λc hc=>(F c hc).2) _,b _ (by rw [A9,A9,ow a0,y,ow b0];rfl),by simp only [bE];omega⟩,?_,?_,rfl⟩
  ·rw [qx,x_mk a0,C];simp [hasX]
  ·intro h;rw [qx,mW] at h;exact ⟨by rw [a _ a0 h.1],λh=>absurd rfl h,λh=>absurd rfl h⟩
 ·obtain ⟨S,mx⟩:=hs.mon.resolve_left i;have H:m.all okC=true:=bG.2 λc hc=>Hu (mx c hc);rw [ab i,ab i];by_cases e:d=[]
  ·subst e;obtain ⟨rfl,rfl⟩:=zd rfl;simp only [aI,jP];refine ⟨mt f++Y++mt j++(45::(mt p++m)),r,⟨by simp,b1,?_,b _ ?_,by simp only [bE,aJ];omega⟩,?_,?_,rfl⟩
   ·have:=DJ i (λc hc=>GO (mx c hc)) (mt f++Y++mt j++(45::mt p));simpa using this
   ·simp only [A9,lg,ow a0,y,ow b0,ow a1,H,ow b1,show okC 45=true from by decide];rfl
   ·simp only [qx,pG,x_mk a0,x_mk b0,x_mk a1,C];simp only [o];simp [hasX]
   ·intro h;simp only [qx,pG,mW] at h;obtain ⟨⟨⟨D,h2⟩,t⟩,J,s,Z⟩:=h;exact ⟨by rw [a _ a0 D,a _ a1 s],λ_=>a _ b0 t,λh=>absurd rfl h⟩
  ·obtain ⟨_,R,G⟩:=hs.day.resolve_left e;have M:d.all okC=true:=bG.2 λc hc=>Hu (G c hc);rw [ab e,ab e];refine ⟨mt f++Y++mt j++(45::(mt p++m++mt r))++(45::(mt v++d)),E,⟨by simp,b2,?_,b _ ?_,by simp only [bE,aJ];omega⟩,?_,?_,rfl⟩
   ·have:=DJ e (λc hc=>GO (G c hc)) (mt f++Y++mt j++(45::(mt p++m++mt r))++(45::mt v));simpa using this
   ·simp only [A9,lg,ow a0,y,ow b0,ow a1,H,ow b1,ow a2,M,ow b2,show okC 45=true from by decide];rfl
   ·simp only [qx,pG,x_mk a0,x_mk b0,x_mk a1,x_mk b1,x_mk a2,C];simp only [o];simp [Bool.or_assoc]
   ·intro h;simp only [qx,pG,mW] at h;obtain ⟨⟨⟨⟨D,h2⟩,t⟩,J,⟨s,Z⟩,K⟩,h8,O,U⟩:=h;exact ⟨by rw [a _ a0 D,a _ a1 s,a _ a2 O],λ_=>a _ b0 t,λ_=>a _ b1 K⟩
def mkX (x:TD):Bool:=hasX x.2.2.1||(hasX x.2.2.2.2.2.1||hasX x.2.2.2.2.2.2.1)
def lvT (T:aa) (x:TD):Int:=lvl (Lib.trimRightS T [63,126,37]) (!(Lib.trimRightS T [63,126,37]==T)) (mkX x) (seT x)
theorem UL {T u:aa} {k:Nat} (h:Body T u k) {x:TD} (hs:smT x):jZ 20000000 T x=some (lvT T x):=by
 rw [Uh h hs];unfold lvT mkX;rw [ve h,C4 h];simp
theorem K7 {S:aa} {a:Nat} (h:a<=S.length) {r:DR} (j:dX S a=.inr r):∃A B u k,MkD A B (tdR r).2.2.2.2.2.1 (tdR r).2.2.2.2.2.2.1/\plR r=a+(mt A.1).length/\
  (S.drop a).take (enR r - a)=rawD A B r.1 r.2.1 r.2.2.1 (r.2.2.2.1:Int) (r.2.2.2.2.1:Int) r.2.2.2.2.2.1 r.2.2.2.2.2.2.1/\r.2.2.2.2.2.2.2.1=spM A B/\Body ((S.drop a).take (enR r - a)) u k/\
  jZ 20000000 ((S.drop a).take (enR r - a)) (tdR r)=some (lvT ((S.drop a).take (enR r - a)) (tdR r))/\lW 20000000 ((S.drop a).take (enR r - a))=some (lvT ((S.drop a).take (enR r - a)) (tdR r)):=by
 obtain ⟨p,z,q,w⟩:=lJ h j;obtain ⟨G,_⟩:=FT h j;obtain ⟨H,I,v,y,D,m',d',k0,k1,k2,f,ok⟩:=ny p z;obtain ⟨g,l,dg,x,s,m,d,M,P,e⟩:=r;have ok:ShD g l dg x s m d:=by
  unfold tdR at f;simp only [bz] at f;obtain ⟨rfl,rfl,rfl,hx,n,rfl,rfl,_⟩:=f;have hx:x=y:=by omega
  have n:s=D:=by omega
  subst hx n;exact ok.sh
 obtain ⟨A,B,mk,E,F,o⟩:=Ji G;have C:(rawD A B g l dg (x:Int) (s:Int) m d).length=e - a:=by
  have:=bO List.length o;simp only [bE,cu] at this;have:a<=e:=q;have:e<=S.length:=w;omega
 have c:(S.drop a).take (e - a)=rawD A B g l dg (x:Int) (s:Int) m d:=by rw [o,<-C,yj]
 obtain ⟨u,k,b,t,_⟩:=Ln ok mk;refine ⟨A,B,u,k,mk,F,c,E,by rw [show enR (g,l,dg,x,s,m,d,M,P,e)=e from rfl,c];exact b,?_,?_⟩
 ·rw [show enR (g,l,dg,x,s,m,d,M,P,e)=e from rfl,c];exact UL b p
 ·rw [show enR (g,l,dg,x,s,m,d,M,P,e)=e from rfl,c];obtain ⟨J,_,i⟩:=fS9 ok mk (S:=rawD A B g l dg (x:Int) (s:Int) m d) (a:=0) (post:=[]) (by simp) sA sA sA;rw [Qo b i,t];unfold lvT mkX;rw [ve b,C4 b];simp only [decide_not];rfl
def mx (a b:Int):Int:=if a>b then a else b
def lvR (S:aa) (p:Nat) (r:DR):Int:=lvT ((S.drop p).take (enR r - p)) (tdR r)
theorem JJ (u:aa) (b X:Bool) (c:Int):0<=lvl u b X c/\lvl u b X c<=2:=by
 unfold lvl
 repeat' split
 all_goals omega
theorem HE (S:aa) (p:Nat) (r:DR):0<=lvR S p r/\lvR S p r<=2:=JJ _ _ _ _
theorem bcT {x:TD} (h:smT x) (K:Int):ap10 (ga 20000000 K) x=some (sc K x):=tQ h.1 h.2.1 h.2.2.1 h.2.2.2.1 h.2.2.2.2.1 h.2.2.2.2.2
theorem yJ (n:Nat) (a:Int) (S:aa) (p:Int) (I:List TI) (K:Int) (D:TD) (KF:Int) (DF:TD) (KT:Int) (DT:TD) (e l:Bool) (lv:Int):
  cq n a S p I K D KF DF KT DT e l lv=some (K,D,KF,DF,KT,DT,e,l,mx a lv):=by
 unfold cq mx;rw [bC]
theorem Ky (I:List TI) (K:Int) (D:TD) (KF:Int) (DF:TD) (KT:Int) (DT:TD) (e l:Bool) (lv:Int) {S:aa} {p:Nat} (h:p<=S.length) (b:S.length<100000):
  cO 20000000 I K D KF DF KT DT e l lv S (p:Int)=some (match dX S p with
   | .inl f=>.inl ((f.1:Int),(f.2.1:Int),K,D,KF,DF,KT,DT,e,l,lv,S,(f.2.2:Int))
   | .inr r=>.inr (tdR r,((plR r:Nat):Int),K,D,KF,DF,KT,DT,e,l,mx (lvR S p r) lv,S,((enR r:Nat):Int))):=by
 unfold cO;rw [rJ _ _ _ h,C0 S p h b];cases a:dX S p with
 | inl f=>rfl
 | inr r=>
  obtain ⟨j,i,k,c⟩:=lJ h a;obtain ⟨_,_,_,_,_,_,_,_,_,d,_⟩:=K7 h a;rw [BZ];simp only [obs,sm,ob];rw [show (d4 (d8 ((tdR r).1,(tdR r).2.1,(tdR r).2.2.1,(tdR r).2.2.2.1,(tdR r).2.2.2.2.1,(tdR r).2.2.2.2.2.1,(tdR r).2.2.2.2.2.2.1,(tdR r).2.2.2.2.2.2.2.1,(tdR r).2.2.2.2.2.2.2.2.1,(tdR r).2.2.2.2.2.2.2.2.2,((plR r:Nat):Int),S,((enR r:Nat):Int))))=((enR r:Nat):Int) from rfl,rJ _ _ _ c];simp only [];have g:w64 (len (S.drop p) - len (S.drop (enR r)))=((enR r - p:Nat):Int):=by
   show IntKind.wrap .i64 (((S.drop p).length:Int) - ((S.drop (enR r)).length:Int))=_;rw [cu,cu,wrap_i64 _ (by omega) (by omega)];omega
  rw [g,da (by rw [cu];omega)];simp only [cg];rw [show jZ 20000000 ((S.drop p).take (enR r - p)) (iF ((tdR r).1,(tdR r).2.1,(tdR r).2.2.1,(tdR r).2.2.2.1,(tdR r).2.2.2.2.1,(tdR r).2.2.2.2.2.1,(tdR r).2.2.2.2.2.2.1,(tdR r).2.2.2.2.2.2.2.1,(tdR r).2.2.2.2.2.2.2.2.1,(tdR r).2.2.2.2.2.2.2.2.2,((plR r:Nat):Int),S,((enR r:Nat):Int)))=_ from d];simp only [yJ,u9,u8,u7,u6,u5,u4,u3,u2];rfl
theorem FM {x:TD} (h:smT x) (hc:cF x=0) (a K:Int) (D:TD) (KF:Int) (DF:TD) (KT:Int) (DT:TD) (e l:Bool) (lv:Int) (S:aa) (p:Int) (I:List TI):
  co 20000000 x a K D KF DF KT DT e l lv S p I=some (if exT x=true then .inr (1,x) else .inl (a,11)):=by
 unfold co;rw [bcT h,DG,ae hc];cases exT x<;>rfl
noncomputable def toP (S:aa) (p:Nat) (KF:Int) (DF:TD) (lv:Int):(Nat×Nat)⊕(Int×TD×Int×Nat):=
 if KF=1/\p=S.length then .inr (3,d0,mx 1 lv,p)
 else if KF=1/\dts (S.drop p)=true then .inr (2,d0,mx 1 lv,p+2)
 else match dX S p with
  | .inl f=>.inl (f.1,f.2.1)
  | .inr r=>if exT (tdR r)=true then (if enR r<S.length\/nS KF DF 1 (tdR r)=0 then .inr (1,tdR r,mx (lvR S p r) (if KF=1 then lv else mx 1 lv),enR r) else .inl (plR r,11)) else .inl (plR r,11)
def QX (S:aa) (D:TD) (KF:Int) (DF:TD) (e l:Bool):(Nat×Nat)⊕(Int×TD×Int×Nat)->(Int×TD×Int×TD×Int×TD×Bool×Bool×Int×aa×Int)⊕(Int×Int×Int×TD×Int×TD×Int×TD×Bool×Bool×Int×aa×Int)->Prop
 | .inl f,y=>∃z,y=.inr ((f.1:Int),(f.2:Int),z)
 | .inr (KT,DT,lv,p),y=>y=.inl (2,D,KF,DF,KT,DT,e,l,lv,S,(p:Int))
theorem FA {S:aa} {p:Nat} (h:p<=S.length):(peek (S.drop p)).2=decide (p<S.length):=by
 by_cases hp:p<S.length
 ·rw [am hp,bS (bn hp)];rfl
 ·rw [aq hp,iD (by omega)];rfl
theorem Qk (I:List TI) (K:Int) {DF:TD} (Q:smT DF) (KF:Int) (lv:Int) {S:aa} {p:Nat} (h:p<=S.length) (hS:S.length<100000):
  ∃y,eP 20000000 I K d0 KF DF 0 d0 false false lv S (p:Int)=some y/\QX S d0 KF DF false false (toP S p KF DF lv) y:=by
 have q:∀(l:Int) (t:l=if KF=1 then lv else mx 1 lv) (Y:¬(KF=1/\p=S.length)) (o:¬(KF=1/\dts (S.drop p)=true)),∃y,(obs (cO 20000000 I 2 d0 KF DF 0 d0 false false l S (p:Int)) (u13 λF N R V W z x H P E T C B=>(some (.inr (F,N,R,V,W,z,x,H,P,E,T,C,B)))) (u13 λD v j i d c u w e g k b a=>(obs (co 20000000 D v j i d c u w e g k b a I) (u2 λJ A=>(some (.inr (J,A,j,i,d,c,u,w,e,g,k,b,a)))) (u2 λm n=>(ob (aY 20000000 b a) (u2 λ_ G=>(cond (!G) (ob (ap10 (ap10 (gg 20000000 d) c m) n) λU=>(cond (U != 0) (ob (aH 20000000 v 11 b a) (u2 λM L=>(some (.inr (M,L,j,i,d,c,m,n,e,g,k,b,a))))) (some (.inl (j,i,d,c,m,n,e,g,k,b,a))))) (some (.inl (j,i,d,c,m,n,e,g,k,b,a))))))))))=some y/\QX S d0 KF DF false false (toP S p KF DF lv) y:=by
  intro l t Y o;unfold toP;rw [Ky I 2 d0 KF DF 0 d0 false false l h hS,ab Y,ab o];cases hr:dX S p with
  | inl f=>exact ⟨_,rfl,_,rfl⟩
  | inr r=>
   obtain ⟨Z,c1,l1,X⟩:=lJ h hr;simp only [obs,sm,ob,u13,u12,u11,u10,u9,u8,u7,u6,u5,u4,u3,u2];rw [FM Z c1];cases hx:exT (tdR r)
   ·exact ⟨_,rfl,_,rfl⟩
   ·simp only [aI,nM _ _ _ X,FA X];by_cases O:enR r<S.length
    ·rw [am O,ae (.inl O)];exact ⟨_,rfl,by rw [<-t];rfl⟩
    ·rw [aq O];simp only [g9,aj];rw [Jw Q Z];simp only [];by_cases hp:nS KF DF 1 (tdR r)=0
     ·rw [ae (.inr hp),show (nS KF DF 1 (tdR r) != 0)=false from by simp [hp]];exact ⟨_,rfl,by rw [<-t];rfl⟩
     ·rw [ab (by rintro (h | h)<;>contradiction),show (nS KF DF 1 (tdR r) != 0)=true from by simp [hp]];exact ⟨_,rfl,_,rfl⟩
 unfold eP;by_cases s:KF=1
 ·rw [show (KF==1)=true from by simp [s],aj,nM _ _ _ h];simp only [ob,u2,FA h,yJ];by_cases hp:p<S.length
  ·rw [am hp];simp only [cN,af];rw [lq _ _ _ _ h (by omega)];cases o:dts (S.drop p)
   ·rw [ab (show ¬(S.drop p).take [(46:UInt8),46].length=[46,46] from λh=>by unfold dts at o;rw [show (S.drop p).take 2=[46,46] from h] at o;cases o)];exact q lv (by rw [ae s]) (by omega) (by rw [o];simp)
   ·rw [ae (show (S.drop p).take [(46:UInt8),46].length=[46,46] from eq_of_beq o)];refine ⟨_,rfl,?_⟩;unfold toP;rw [ab (by omega),ae ⟨s,o⟩];rfl
  ·rw [aq hp];refine ⟨_,rfl,?_⟩;unfold toP;rw [ae ⟨s,by omega⟩];rfl
 ·rw [show (KF==1)=false from by simp [s],af,yJ];simp only [ob,u9,u8,u7,u6,u5,u4,u3,u2];exact q (mx 1 lv) (by rw [ab s]) (by simp [s]) (by simp [s])
noncomputable def toX (S:aa) (p:Nat) (KF:Int) (DF:TD) (lv:Int):(Nat×Nat)⊕(Int×TD×Int):=match toP S p KF DF lv with
 | .inl f=>.inl f
 | .inr (KT,DT,L,q)=>if q<S.length then .inl (q,5) else .inr (KT,DT,L)
noncomputable def jN (S:aa):(Nat×Nat)⊕(Int×TD×Int×TD×Int×TD×Int)⊕(Int×Bool×Bool×List TI):=
 if S.head?=some 91\/S.head?=some 123 then (match Ej S with | .inl f=>.inl f | .inr q=>.inr (.inr q))
 else if S.head?=some 47 then (match toX S 1 3 d0 0 with | .inl f=>.inl f | .inr (KT,DT,L)=>.inr (.inl (2,d0,3,d0,KT,DT,L)))
 else if dts S=true then (if (S.drop 2).head?=some 47 then (match toX S 3 2 d0 0 with | .inl f=>.inl f | .inr (KT,DT,L)=>.inr (.inl (2,d0,2,d0,KT,DT,L))) else .inl (2,5))
 else match dX S 0 with
  | .inl f=>.inl (f.1,f.2.1)
  | .inr r=>if (S.drop (enR r)).head?=some 47 then (if exT (tdR r)=true then (match toX S (enR r+1) 1 (tdR r) (lvR S 0 r) with | .inl f=>.inl f | .inr (KT,DT,L)=>.inr (.inl (2,d0,1,tdR r,KT,DT,L))) else .inl (plR r,11))
   else if enR r<S.length then .inl (enR r,5) else .inr (.inl (1,tdR r,0,d0,0,d0,lvR S 0 r))
def O4:(Nat×Nat)⊕(Int×TD×Int×TD×Int×TD×Int)⊕(Int×Bool×Bool×List TI)->(Int×TD×Int×TD×Int×TD×Bool×Bool×Int×Int×Int×List TI)⊕(Int×TD×Int×TD×Int×TD×Nat×Nat×Bool×Bool×Int×Int×Int×List TI)
 | .inl f=>.inl (0,d0,0,d0,0,d0,false,false,0,(f.1:Int),(f.2:Int),[])
 | .inr (.inl (K,D,KF,DF,KT,DT,L))=>.inl (K,D,KF,DF,KT,DT,false,false,L,0,0,[])
 | .inr (.inr (K,e,l,I))=>.inr (K,d0,0,d0,0,d0,I.length,I.length,e,l,2,0,0,I)
end Go.Sh
