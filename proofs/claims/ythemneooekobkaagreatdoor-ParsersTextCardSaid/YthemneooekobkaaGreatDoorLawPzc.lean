
/- Plain proofs, kept as far as they are needed here (printed by prune.py).
   Conditions: none. -/
import Derived.Test.YthemneooekobkaaGreatDoorLawPzb
set_option linter.unusedVariables false
set_option linter.unusedSimpArgs false
set_option maxRecDepth 100000
namespace Go.Sh
open Go.Abs
theorem Yp {g l:Bool} {d:aa} {x s:Int} (h:okY g l d x s):okY g l d x 0:=by
 unfold okY at h ⊢;cases l with
 | true=>
  rw [ae rfl] at h ⊢;unfold okL at h ⊢;refine ⟨h.1,sL _,?_⟩;omega
 | false=>
  rw [ab (by simp)] at h ⊢;unfold okS at h ⊢;obtain ⟨b,a,c,e,i,j,f⟩:=h;exact ⟨b,a,c,e,sL _,by omega,λh=>absurd h.1 (by omega)⟩
theorem J7 (m a0 a2 H I f D c k n:Nat) (g:Bool) (O:a2<65536) (L:H<256) (K:I<256) (N:f<256) (M:D<256):
  ∃b l dg x q a d,aL (m+300) (a0:Int) g (a2:Int) (H:Int) (I:Int) (f:Int) (D:Int) (c:Int) (k:Int) (n:Int)=some (b,l,dg,x,q,a,d,((mksT (bD a d) c k n).1:Int),((mksT (bD a d) c k n).2.1:Int),((mksT (bD a d) c k n).2.2:Int))/\
   okY b l dg x q/\rP b dg x=false/\(a0%6≠3->hasX dg=false)/\dg.length<=5/\(q≠0->a=[]/\d=[])/\(q=0->a=monT (f%40))/\
   (d=[]\/(a∈((List.range 12).map λi=>two (i+1))++[[48,88],[49,88],[88,50],[88,88],[88,48],[88,57]]/\a≠[]/\sea a=0/\d=dayT (D%40) a)):=by
 obtain ⟨b,l,dg,x,q,e,z,s,C,t⟩:=Ks m a0 a2 H I g O L K;have G:=Ir z s C;have U:Int.tmod (c:Int) 4=((c%4:Nat):Int):=rfl;have V:Int.tmod (k:Int) 4=((k%4:Nat):Int):=rfl;have X:Int.tmod (n:Int) 4=((n%4:Nat):Int):=rfl;obtain ⟨Q,W,R,P,T,S⟩:=jf z;have j:∀(a d:aa) (o:Option (Bool×Bool×aa×Int×Int×aa×aa×Int×Int×Int)),
   (ob (au (m+300) b l dg x q a d 0 0 0) λr=>(cond (decide ((0:Int)<r)) (ob (au (m+300) b l dg x q a d (Int.tmod (c:Int) 4) 0 0) λr=>(cond (decide ((1:Int)<r)) (ob (au (m+300) b l dg x q a d (Int.tmod (c:Int) 4) (Int.tmod (k:Int) 4) 0) λr=>(cond (decide ((2:Int)<r)) (ob (au (m+300) b l dg x q a d (Int.tmod (c:Int) 4) (Int.tmod (k:Int) 4) (Int.tmod (n:Int) 4)) λr=>(cond (decide ((3:Int)<r)) none (some (b,l,dg,x,q,a,d,(Int.tmod (c:Int) 4),(Int.tmod (k:Int) 4),(Int.tmod (n:Int) 4))))) (some (b,l,dg,x,q,a,d,(Int.tmod (c:Int) 4),(Int.tmod (k:Int) 4),0)))) (some (b,l,dg,x,q,a,d,(Int.tmod (c:Int) 4),0,0)))) (some (b,l,dg,x,q,a,d,0,0,0))))=some (b,l,dg,x,q,a,d,((mksT (bD a d) c k n).1:Int),((mksT (bD a d) c k n).2.1:Int),((mksT (bD a d) c k n).2.2:Int)):=by
  intro a d _;have hc:=mf a d;have:bD a d=1\/bD a d=2\/bD a d=3:=by omega
  rw [dj,dj,dj,dj];rcases this with h | h | h<;>rw [h]<;>rfl
 unfold aL;rw [e];simp only [ob,d4];rw [gK];by_cases y:q=0
 ·rw [ae y];rw [Aw m _ _ _ _ _ f _ _ _ _ N];have J:=EV (show f%40<40 by omega);show ∃w B v E A u d,cond (!(monT (f%40)==[])) _ _=_/\_;by_cases p:monT (f%40)=[]
  ·refine ⟨b,l,dg,x,q,[],[],?_,z,G,t,s,λh=>absurd y h,λ_=>p.symm,.inl rfl⟩;rw [p];exact j [] [] none
  ·rw [aJ.2 p];show ∃w B v E A u d,ob (aO (m+300) b l dg x q (monT (f%40)) [] 0 0 0) _=_/\_;rw [lL (m+300) (by omega)];show ∃w B v E A u d,cond (sea (monT (f%40))==0) _ _=_/\_;rw [gK];by_cases hs:sea (monT (f%40))=0
   ·rw [ae hs];have F:=J hs p;rw [Hm m _ _ _ _ _ _ D _ _ _ (monT (f%40)) F M];exact ⟨b,l,dg,x,q,monT (f%40),dayT (D%40) (monT (f%40)),j _ _ none,z,G,t,s,λh=>absurd y h,λ_=>rfl,.inr ⟨F,p,hs,rfl⟩⟩
   ·rw [ab hs];exact ⟨b,l,dg,x,q,monT (f%40),[],j _ [] none,z,G,t,s,λh=>absurd y h,λ_=>rfl,.inl rfl⟩
 ·rw [ab y];exact ⟨b,l,dg,x,q,[],[],j [] [] none,z,G,t,s,λ_=>⟨rfl,rfl⟩,λh=>absurd h y,.inl rfl⟩
theorem J4:((List.range 34).all λj=>!hasX (monT j))=true:=by decide +kernel
theorem Jx:(((List.range 12).map λi=>two (i+1)).all λa=>(List.range 32).all λj=>!hasX (dayT j a))=true:=by decide +kernel
theorem U7:((((List.range 12).map λi=>two (i+1))++[[48,88],[49,88],[88,50],[88,88],[88,48],[88,57]]).all λa=>hasX a||decide (a∈(List.range 12).map λi=>two (i+1)))=true:=by decide +kernel
theorem UR (m a0 a2 w y k i t s p:Nat) (g:Bool) (C:a2<65536) (z:w<256) (G:y<256) (K:k<256) (I:i<256) (M:a0%6≠3) (O:k%40<=33) (N:i%40<=31):
  ∃n l dg x q a d k0 k1 k2,aL (m+300) (a0:Int) g (a2:Int) (w:Int) (y:Int) (k:Int) (i:Int) (t:Int) (s:Int) (p:Int)=some (n,l,dg,x,q,a,d,((k0:Nat):Int),((k1:Nat):Int),((k2:Nat):Int))/\
   0<=q/\chkF n l dg x 0 a d (k0:Int) (k1:Int) (k2:Int)=0/\exD dg a d 0=true/\a.length<=18/\d.length<=18/\dg.length<=100:=by
 obtain ⟨n,l,dg,x,q,a,d,e,E,L,D,J,u,r,o⟩:=J7 m a0 a2 w y k i t s p g C z G K I;have H:=D M;have c:hasX a=false:=by
  by_cases h:q=0
  ·rw [r h];have:=(bW.1 J4) (k%40) (jp.2 (by omega));simpa using this
  ·rw [(u h).1];rfl
 have f:a=[]\/0<sea a\/(sea a=0/\dY a 12=true):=by
  by_cases h:q=0
  ·rw [r h];exact NG (by omega)
  ·exact .inl (u h).1
 have b:d=[]\/(a≠[]/\sea a=0/\dY d 31=true/\fitD a d=true/\hasX d=false):=by
  rcases o with h | ⟨j,A,hs,v⟩
  ·exact .inl h
  ·have a1:=Ln (show i%40<40 by omega) j;have a2:=IN (show i%40<40 by omega) j;rw [<-v] at a1 a2;by_cases B:d=[]
   ·exact .inl B
   ·right;refine ⟨A,hs,a1.resolve_left B,a2.resolve_left B,?_⟩;have b1:=(bW.1 U7) a j;rw [c,oh,cr] at b1;have b2:=(bW.1 ((bW.1 Jx) a b1)) (i%40) (jp.2 (by omega));rw [v];simpa using b2
 have hc:chkD n l dg x 0 a d ((mksT (bD a d) t s p).1:Int) ((mksT (bD a d) t s p).2.1:Int) ((mksT (bD a d) t s p).2.2:Int)=0:=
  Df (Yp E) L (λh=>absurd h (by omega)) f (by
   rcases b with h | ⟨F,C,z,_⟩
   ·exact .inl h
   ·exact .inr ⟨F,C,z⟩) (yw _ _ _ _)
 refine ⟨n,l,dg,x,q,a,d,_,_,_,e,Qn E,Hz hc ?_,?_,?_,?_,by omega⟩
 ·rcases b with h | ⟨_,_,_,h,_⟩
  ·exact .inl h
  ·exact .inr h
 ·unfold exD;have:hasX d=false:=by
   rcases b with h | ⟨_,_,_,_,h⟩
   ·rw [h];rfl
   ·exact h
  rw [H,c,this];rfl
 ·rcases f with h | h | ⟨_,h⟩
  ·rw [h];simp
  ·have:=(Gx h).1;omega
  ·have:=(nz (by omega) h).1;omega
 ·rcases b with h | ⟨_,_,h,_⟩
  ·rw [h];simp
  ·have:=(nz (by omega) h).1;omega
theorem HF (m a0 a2 v w c k E D C:Nat) (g:Bool) (Z:a0<256) (T:a2<65536) (P:v<256) (L:w<256) (Y:c<256) (X:k<256):
  ∃p l dg x i d k0 k1 k2,bJ (m+300) (a0:Int) g (a2:Int) (v:Int) (w:Int) (c:Int) (k:Int) (E:Int) (D:Int) (C:Int)=some (p,l,dg,x,0,i,d,((k0:Nat):Int),((k1:Nat):Int),((k2:Nat):Int))/\
   chkF p l dg x 0 i d (k0:Int) (k1:Int) (k2:Int)=0/\exD dg i d 0=true/\i.length<=18/\d.length<=18/\dg.length<=100:=by
 have N:Int.tmod (c:Int) 40=((c%40:Nat):Int):=rfl;have U:Int.tmod (k:Int) 40=((k%40:Nat):Int):=rfl;have M:Int.tmod (a0:Int) 6=((a0%6:Nat):Int):=rfl;have O:Int.tdiv ((k%40:Nat):Int) 2=((k%40 / 2:Nat):Int):=rfl;have fin:∀(b0 f b:Nat),f<256->b<256->b0%6≠3->f%40<=33->b%40<=31->
   ∃p l dg x i d k0 k1 k2,(ob (aL (m+300) (b0:Int) g (a2:Int) (v:Int) (w:Int) (f:Int) (b:Int) (E:Int) (D:Int) (C:Int)) λa=>(cond (decide ((d4 a).1>0)) (some (a.1,a.2.1,a.2.2.1,a.2.2.2.1,(0:Int),(d4 a).2.1,(d4 a).2.2.1,(d4 a).2.2.2.1,(d8 a).1,(d8 a).2)) (some (a.1,a.2.1,a.2.2.1,a.2.2.2.1,(d4 a).1,(d4 a).2.1,(d4 a).2.2.1,(d4 a).2.2.2.1,(d8 a).1,(d8 a).2))))=some (p,l,dg,x,0,i,d,((k0:Nat):Int),((k1:Nat):Int),((k2:Nat):Int))/\
   chkF p l dg x 0 i d (k0:Int) (k1:Int) (k2:Int)=0/\exD dg i d 0=true/\i.length<=18/\d.length<=18/\dg.length<=100:=by
  intro b0 f b n s Q r o;obtain ⟨p,l,dg,x,q,i,d,k0,k1,k2,e,W,J,V,S,r4,I⟩:=UR m b0 a2 v w f b E D C g T P L n s Q r o;refine ⟨p,l,dg,x,i,d,k0,k1,k2,?_,J,V,S,r4,I⟩;rw [e];simp only [ob,d4,d8];by_cases h:q>0
  ·rw [aq h];rfl
  ·obtain rfl:q=0:=by omega
   rw [ar h];rfl
 have z:33<c%40->IntKind.wrap .u8 (((c%40:Nat):Int) - 33)=((c%40 - 33:Nat):Int):=λh=>by rw [fL _ (by omega) (by omega)];omega
 have H:IntKind.wrap .u8 ((k%40 / 2:Nat):Int)=((k%40 / 2:Nat):Int):=fL _ (by omega) (by omega);unfold bJ;rw [M,N,U,O,H];have j:∀b0:Nat,b0%6≠3->∀K:Nat->Nat->Option (Bool×Bool×aa×Int×Int×aa×aa×Int×Int×Int),
   (∀f b:Nat,f<256->b<256->f%40<=33->b%40<=31->∃p l dg x i d k0 k1 k2,K f b=some (p,l,dg,x,0,i,d,((k0:Nat):Int),((k1:Nat):Int),((k2:Nat):Int))/\chkF p l dg x 0 i d (k0:Int) (k1:Int) (k2:Int)=0/\exD dg i d 0=true/\i.length<=18/\d.length<=18/\dg.length<=100)->
   ∃p l dg x i d k0 k1 k2,(cond (decide (((c%40:Nat):Int)>33)) (cond (decide (((k%40:Nat):Int)>31)) (K (c%40 - 33) (k%40 / 2)) (K (c%40 - 33) k)) (cond (decide (((k%40:Nat):Int)>31)) (K c (k%40 / 2)) (K c k)))=some (p,l,dg,x,0,i,d,((k0:Nat):Int),((k1:Nat):Int),((k2:Nat):Int))/\chkF p l dg x 0 i d (k0:Int) (k1:Int) (k2:Int)=0/\exD dg i d 0=true/\i.length<=18/\d.length<=18/\dg.length<=100:=by
  intro b0 G K y;by_cases R:33<c%40
  ·rw [aq (show ((c%40:Nat):Int)>33 by omega)];by_cases B:31<k%40
   ·rw [aq (show ((k%40:Nat):Int)>31 by omega)];exact y _ _ (by omega) (by omega) (by omega) (by omega)
   ·rw [ar (show ¬((k%40:Nat):Int)>31 by omega)];exact y _ _ (by omega) (by omega) (by omega) (by omega)
  ·rw [ar (show ¬((c%40:Nat):Int)>33 by omega)];by_cases B:31<k%40
   ·rw [aq (show ((k%40:Nat):Int)>31 by omega)];exact y _ _ (by omega) (by omega) (by omega) (by omega)
   ·rw [ar (show ¬((k%40:Nat):Int)>31 by omega)];exact y _ _ (by omega) (by omega) (by omega) (by omega)
 have w5':∀{A:Type} (F:Int->Int->Option A) (b:Nat),(cond (decide (((c%40:Nat):Int)>33)) (F (IntKind.wrap .u8 (((c%40:Nat):Int) - 33)) (b:Int)) (F (c:Int) (b:Int)))=(cond (decide (((c%40:Nat):Int)>33)) (F ((c%40 - 33:Nat):Int) (b:Int)) (F (c:Int) (b:Int))):=by
  intro A F b;by_cases h:33<c%40
  ·rw [z h]
  ·rw [ar (show ¬((c%40:Nat):Int)>33 by omega)];rfl
 have t:33<c%40\/¬33<c%40:=by omega
 by_cases u:a0%6=3
 ·rw [show (((a0%6:Nat):Int)==3)=true by rw [u];rfl];simp only [ah];rcases t with h | h
  ·rw [z h];exact j 0 (by omega) (λf b=>_) (λf b n s r o=>fin 0 f b n s (by omega) r o)
  ·have hx:=j 0 (by omega) (λf b=>_) (λf b n s r o=>fin 0 f b n s (by omega) r o);rw [ar (show ¬((c%40:Nat):Int)>33 by omega)] at hx ⊢;exact hx
 ·rw [show (((a0%6:Nat):Int)==3)=false from aJ.2 (by omega)];simp only [af];by_cases c4:a0%6=4
  ·rw [show (((a0%6:Nat):Int)==4)=true by rw [c4];rfl];simp only [ah];rcases t with h | h
   ·rw [z h];exact j 0 (by omega) (λf b=>_) (λf b n s r o=>fin 0 f b n s (by omega) r o)
   ·have hx:=j 0 (by omega) (λf b=>_) (λf b n s r o=>fin 0 f b n s (by omega) r o);rw [ar (show ¬((c%40:Nat):Int)>33 by omega)] at hx ⊢;exact hx
  ·rw [show (((a0%6:Nat):Int)==4)=false from aJ.2 (by omega)];simp only [af];rcases t with h | h
   ·rw [z h];exact j a0 u (λf b=>_) (λf b n s r o=>fin a0 f b n s u r o)
   ·have hx:=j a0 u (λf b=>_) (λf b n s r o=>fin a0 f b n s u r o);rw [ar (show ¬((c%40:Nat):Int)>33 by omega)] at hx ⊢;exact hx
theorem MM {dg m d:aa} (h:exD dg m d 0=true):exD dg m [] 0=true/\exD dg [] [] 0=true:=by
 unfold exD at h ⊢;simp only [aD,jP,ox] at h;obtain ⟨⟨b,a,c⟩,_⟩:=h;rw [b,a];exact ⟨rfl,rfl⟩
def Gu (g l:Bool) (dg:aa) (x q:Int) (m d:aa) (k0 k1 k2:Int):Bool:=
 (((g==false)&&((l==false)&&((dg==([]:aa))&&((x==0)&&((q==0)&&true)))))&&((m==([]:aa))&&((d==([]:aa))&&(((k0==0)&&((k1==0)&&((k2==0)&&true)))&&true))))
noncomputable def chkB (K:Int) (g l:Bool) (dg:aa) (x q:Int) (m d:aa) (k0 k1 k2:Int):Int:=
 if K=1 then (if chkF g l dg x q m d k0 k1 k2=0 then (if exD dg m d q=true then 0 else 11) else chkF g l dg x q m d k0 k1 k2) else if K=2\/K=3 then (if Gu g l dg x q m d k0 k1 k2=true then 0 else 5) else 18
def GG (a c d b lo hi:Int):Int:=if a≠0 then a else if c≠0 then c else if d≠1/\b≠1 then 11 else if d≠1\/b≠1 then 0 else if lo>hi then 11 else 0
section
variable {K:Int} {g l:Bool} {dg:List UInt8} {x q:Int} {m d:List UInt8} {k0 k1 k2:Int} (hml:m.length<=18) (hdl:dg.length<=100) (hd18:d.length<=18) (h0:0<=k0) (h1:0<=k1) (h2:0<=k2)
include hml hdl hd18 h0 h1 h2
theorem A4:ji 20000000 K g l dg x q m d k0 k1 k2=some (chkB K g l dg x q m d k0 k1 k2):=by
 unfold ji chkB;rw [wb hml hdl h0 h1 h2,IF 20000000 g l dg x q m d k0 k1 k2 (by omega) (by omega) (by omega)];simp only [ob];by_cases a:K=1
 ·subst a;rw [ae rfl];simp only [vK,ah];by_cases hc:chkF g l dg x q m d k0 k1 k2=0
  ·rw [ae hc,hc];by_cases b:exD dg m d q=true
   ·rw [ae b,b];rfl
   ·rw [ab b];rw [HC] at b;rw [b];rfl
  ·rw [ab hc,bne0 hc];rfl
 ·rw [ab a,aJ.2 a];simp only [af];have f:(!(((g==false)&&((l==false)&&((dg==([]:aa))&&((x==0)&&((q==0)&&true)))))&&((m==([]:aa))&&((d==([]:aa))&&(((k0==0)&&((k1==0)&&((k2==0)&&true)))&&true)))))=!(Gu g l dg x q m d k0 k1 k2):=rfl;rw [f];by_cases c:K=2
  ·subst c;rw [ae (.inl rfl)];cases Gu g l dg x q m d k0 k1 k2<;>rfl
  ·rw [aJ.2 c];by_cases e:K=3
   ·subst e;rw [ae (.inr rfl)];cases Gu g l dg x q m d k0 k1 k2<;>rfl
   ·rw [aJ.2 e,ab (by omega)];rfl
theorem wP:eV 20000000 K g l dg x q m d k0 k1 k2=some (chkB K g l dg x q m d k0 k1 k2):=by
 unfold eV chkB;rw [E9 hdl h0 h1 h2,CS 20000000 g l dg x q m d k0 k1 k2 (by omega) (by omega) (by omega) (by omega)];simp only [ob];by_cases a:K=1
 ·subst a;rw [ae rfl];simp only [vK,ah];by_cases hc:chkF g l dg x q m d k0 k1 k2=0
  ·rw [ae hc,hc];by_cases e:exD dg m d q=true
   ·rw [ae e,ae e];rfl
   ·rw [ab e,ab e];rfl
  ·rw [ab hc,aJ.2 hc];rfl
 ·rw [ab a,aJ.2 a];simp only [af];have f:(!(((g==false)&&((l==false)&&((dg==([]:aa))&&((x==0)&&((q==0)&&true)))))&&((m==([]:aa))&&((d==([]:aa))&&(((k0==0)&&((k1==0)&&((k2==0)&&true)))&&true)))))=!(Gu g l dg x q m d k0 k1 k2):=rfl;rw [f];by_cases b:K=2
  ·subst b;rw [ae (.inl rfl)];cases Gu g l dg x q m d k0 k1 k2<;>rfl
  ·rw [aJ.2 b];by_cases c:K=3
   ·subst c;rw [ae (.inr rfl)];cases Gu g l dg x q m d k0 k1 k2<;>rfl
   ·rw [aJ.2 c,ab (by omega)];rfl
theorem JM (hc:chkB K g l dg x q m d k0 k1 k2=0):g9 20000000 K g l dg x q m d k0 k1 k2=some (if K=2 then [46,46] else if K=3 then [] else tV g l dg x q m d k0.toNat k1.toNat k2.toNat):=by
 have f:=And.intro hml (And.intro hdl hd18);unfold g9;by_cases a:K=2
 ·subst a;rfl
 ·rw [aJ.2 a,ab a];by_cases b:K=3
  ·subst b;rfl
  ·rw [aJ.2 b,ab b];have k1':K=1:=by
    unfold chkB at hc;by_cases h:K=1
    ·exact h
    ·rw [ab h,ab (by omega)] at hc;cases hc
   have e:chkF g l dg x q m d k0 k1 k2=0:=by
    unfold chkB at hc;rw [ae k1'] at hc;by_cases h:chkF g l dg x q m d k0 k1 k2=0
    ·exact h
    ·rw [ab h] at hc;exact absurd hc h
   have c:bV 20000000 g l dg x q m d k0 k1 k2=_:=E4 19999700 h0 h1 h2 (o6 e);rw [c];rfl
theorem wg (hc:chkB K g l dg x q m d k0 k1 k2=0) (b:K=1):chkF g l dg x q m d k0 k1 k2=0/\exD dg m d q=true:=by
 have c:=And.intro hml (And.intro hdl (And.intro hd18 (And.intro h0 (And.intro h1 h2))));unfold chkB at hc;rw [ae b] at hc;by_cases h:chkF g l dg x q m d k0 k1 k2=0
 ·rw [ae h] at hc;by_cases a:exD dg m d q=true
  ·exact ⟨h,a⟩
  ·rw [ab a] at hc;cases hc
 ·rw [ab h] at hc;exact absurd hc h
end
theorem XW (n:Nat) (a b:Int):jG n a b=some (if a<b then -1 else if a>b then 1 else 0):=by
 unfold jG ls;simp only [ob,hJ,af];by_cases h:a<b
 ·rw [aq h,ae h];rfl
 ·rw [ar h,ab h];by_cases c:a>b
  ·rw [aq c,ae c];rfl
  ·rw [ar c,ab c];rfl
theorem H6 (a b:Int):∃r,kD 20000000 0 a 0 b=some r/\decide (r>0)=decide (a>b):=by
 have d:mQ 20000000 0 0=some 0:=rfl;have o1:o9 20000000 [0,-1]=some (-1):=by kernel_rfl
 have e:o9 20000000 [0,1]=some 1:=by kernel_rfl
 have f:o9 20000000 [0,0]=some 0:=by kernel_rfl
 unfold kD;rw [d,XW];simp only [ob];by_cases h:a<b
 ·rw [ae h,o1];exact ⟨_,rfl,by rw [ar (show ¬a>b by omega)];rfl⟩
 ·rw [ab h];by_cases c:a>b
  ·rw [ae c,e];exact ⟨_,rfl,by rw [aq c];rfl⟩
  ·rw [ab c,f];exact ⟨_,rfl,by rw [ar c];rfl⟩
theorem bne1 {K:Int} (h:K≠1):(K != 1)=true:=by simp [h]
section
variable {K:Int} {g l:Bool} {dg:List UInt8} {x q:Int} {m d:List UInt8} {k0 k1 k2:Int} {K':Int} {g' l':Bool} {dg':List UInt8} {x' q':Int} {m' d':List UInt8} {p0 p1 p2:Int} (hml:m.length<=18) (hdl:dg.length<=100) (hd18:d.length<=18) (h0:0<=k0) (h1:0<=k1) (h2:0<=k2) (hml':m'.length<=18) (hdl':dg'.length<=100) (hd18':d'.length<=18) (h0':0<=p0) (h1':0<=p1) (h2':0<=p2)
include hml hdl hd18 h0 h1 h2 hml' hdl' hd18' h0' h1' h2'
theorem Tc:iH 20000000 K g l dg x q m d k0 k1 k2 K' g' l' dg' x' q' m' d' p0 p1 p2=some (GG (chkB K g l dg x q m d k0 k1 k2) (chkB K' g' l' dg' x' q' m' d' p0 p1 p2) K K' (og g dg x m d).1 (og g' dg' x' m' d').2):=by
 unfold iH GG;rw [A4 hml hdl hd18 h0 h1 h2,A4 hml' hdl' hd18' h0' h1' h2'];simp only [ob];by_cases c:chkB K g l dg x q m d k0 k1 k2=0
 ·rw [ab (by omega),c];by_cases b:chkB K' g' l' dg' x' q' m' d' p0 p1 p2=0
  ·rw [ab (by omega),b];simp only [hJ,af];by_cases e:K=1
   ·rw [show (K != 1)=false by rw [e];rfl];simp only [af];by_cases a:K'=1
    ·rw [show (K' != 1)=false by rw [a];rfl,ab (by omega),ab (by omega)];simp only [af];obtain ⟨j,f⟩:=wg hml hdl hd18 h0 h1 h2 c e;obtain ⟨k,n⟩:=wg hml' hdl' hd18' h0' h1' h2' b a;rw [FD hml hdl hd18 h0 h1 h2,FD hml' hdl' hd18' h0' h1' h2',ae j,ae f,ae k,ae n];simp only [ob];obtain ⟨r,i,o⟩:=H6 (og g dg x m d).1 (og g' dg' x' m' d').2;rw [i];simp only [o];by_cases h:(og g dg x m d).1>(og g' dg' x' m' d').2
     ·rw [aq h,ae h];rfl
     ·rw [ar h,ab h];rfl
    ·rw [bne1 a,ab (by omega),ae (by omega)];rfl
   ·rw [bne1 e];by_cases a:K'=1
    ·rw [show (K' != 1)=false by rw [a];rfl,ab (by omega),ae (by omega)];rfl
    ·rw [bne1 a,ae (by omega)];rfl
  ·rw [ae b,bne0 b];rfl
 ·rw [ae c,bne0 c];rfl
theorem Q1:ii 20000000 K g l dg x q m d k0 k1 k2 K' g' l' dg' x' q' m' d' p0 p1 p2=some (GG (chkB K g l dg x q m d k0 k1 k2) (chkB K' g' l' dg' x' q' m' d' p0 p1 p2) K K' (og g dg x m d).1 (og g' dg' x' m' d').2):=by
 unfold ii GG;rw [wP hml hdl hd18 h0 h1 h2,wP hml' hdl' hd18' h0' h1' h2'];simp only [ob];by_cases e:chkB K g l dg x q m d k0 k1 k2=0
 ·rw [ab (by omega),e];by_cases c:chkB K' g' l' dg' x' q' m' d' p0 p1 p2=0
  ·rw [ab (by omega),c];simp only [hJ,af];by_cases b:K=1
   ·rw [show (K != 1)=false by rw [b];rfl,show (K==1)=true by rw [b];rfl];simp only [af,ah];by_cases a:K'=1
    ·rw [show (K'==1)=true by rw [a];rfl,ab (by omega),ab (by omega)];simp only [ah];obtain ⟨k,f⟩:=wg hml hdl hd18 h0 h1 h2 e b;obtain ⟨n,o⟩:=wg hml' hdl' hd18' h0' h1' h2' c a;obtain ⟨rfl,i⟩:=wj k f;obtain ⟨rfl,j⟩:=wj n o;rw [vu i hdl,vu j hdl'];simp only [ob];by_cases h:(og g dg x m d).1>(og g' dg' x' m' d').2
     ·rw [aq h,ae h];rfl
     ·rw [ar h,ab h];rfl
    ·rw [aJ.2 a,ab (by omega),ae (by omega)];rfl
   ·rw [bne1 b,aJ.2 b];by_cases a:K'=1
    ·rw [show (K' != 1)=false by rw [a];rfl,ab (by omega),ae (by omega)];rfl
    ·rw [bne1 a,ae (by omega)];rfl
  ·rw [ae c,bne0 c];rfl
 ·rw [ae e,bne0 e];rfl
end
theorem EP (y:Int) {m:Nat} (b:1<=m) (d:m<=23):dayM y m<dayM y (m+1):=by
 by_cases h:m<=12
 ·have:=wY y b h;have:=jM y (m:Int);omega
 ·have c:=ur y (m:=m - 12) (by omega) (by omega);have a:=ur y (m:=m - 12+1) (by omega) (by omega);have e:=wY (y+1) (m:=m - 12) (by omega) (by omega);have:=jM (y+1) ((m - 12:Nat):Int);rw [show m - 12+12=m by omega] at c;rw [show m - 12+1+12=m+1 by omega] at a;omega
theorem LJ (y:Int) {a:Nat} (b:1<=a):∀c,1<=c->a+c<=24->dayM y a<dayM y (a+c)
 | 0,h,_=>absurd h (by omega)
 | c+1,_,d=>by
  have hs:=EP y (m:=a+c) (by omega) (by omega);by_cases h:c=0
  ·subst h;exact hs
  ·have:=LJ y b c (by omega) (by omega);rw [show a+(c+1)=a+c+1 by omega];omega
theorem Uz {g l:Bool} {dg:aa} {x:Int} {m d:aa} (E:Exact g l dg x m d):(og g dg x m d).1<=(og g dg x m d).2:=by
 unfold og;by_cases a:m=[]
 ·rw [ae a];have:=yv (yOf g dg x);simp only [];split at this<;>omega
 ·rw [ab a];by_cases hs:0<sea m
  ·rw [ae hs];rcases E.mon with h | ⟨j,b,e,_⟩ | ⟨h,_⟩
   ·exact absurd h a
   ·obtain ⟨f,c,_,a1,a2,p,o,_,k,n⟩:=GF b;rw [e,k,n];have:=LJ (yOf g dg x) a1 c (by omega) (by omega);simp only [];omega
   ·omega
  ·rw [ab hs];rcases E.mon with h | ⟨j,b,e,_⟩ | ⟨_,a1,a2,_⟩
   ·exact absurd h a
   ·rw [e,kZ b] at hs;omega
   ·by_cases i:d=[]
    ·rw [ae i];have:=EP (yOf g dg x) a1 (by omega);simp only [];omega
    ·rw [ab i];exact sL _
theorem B_of (m a0 a1 h j i o n r q b:Nat) (g:Bool) (t:a1<256) (y:h<65536) (v:j<256) (B:i<256) (A:o<256) (C:n<256):
  ∃K c l dg x a d k0 k1 k2,ck (m+300) (a0:Int) (a1:Int) g (h:Int) (j:Int) (i:Int) (o:Int) (n:Int) (r:Int) (q:Int) (b:Int)=some (K,c,l,dg,x,0,a,d,((k0:Nat):Int),((k1:Nat):Int),((k2:Nat):Int))/\
   chkB K c l dg x 0 a d (k0:Int) (k1:Int) (k2:Int)=0/\a.length<=18/\d.length<=18/\dg.length<=100/\(K=1\/((K=2\/K=3)/\c=false/\l=false/\dg=[]/\x=0/\a=[]/\d=[]/\k0=0/\k1=0/\k2=0)):=by
 have w:Int.tmod (a0:Int) 6=((a0%6:Nat):Int):=rfl;unfold ck;rw [w];by_cases z:a0%6=0
 ·rw [z];exact ⟨2,false,false,[],0,[],[],0,0,0,rfl,rfl,by simp,by simp,by simp,.inr ⟨.inl rfl,rfl,rfl,rfl,rfl,rfl,rfl,rfl,rfl,rfl⟩⟩
 ·rw [show (((a0%6:Nat):Int)==0)=false from aJ.2 (by omega)];by_cases u:a0%6=1
  ·rw [u];exact ⟨3,false,false,[],0,[],[],0,0,0,rfl,rfl,by simp,by simp,by simp,.inr ⟨.inr rfl,rfl,rfl,rfl,rfl,rfl,rfl,rfl,rfl,rfl⟩⟩
  ·rw [show (((a0%6:Nat):Int)==1)=false from aJ.2 (by omega)];obtain ⟨c,l,dg,x,a,d,k0,k1,k2,e,hc,s,p,f,k⟩:=HF m a1 h j i o n r q b g t y v B A C;refine ⟨1,c,l,dg,x,a,d,k0,k1,k2,?_,?_,p,f,k,.inl rfl⟩
   ·simp only [af];rw [e];rfl
   ·unfold chkB;rw [ae rfl,ae hc,ae s]
def plR (r:DR):Nat:=r.2.2.2.2.2.2.2.2.1.1
def enR (r:DR):Nat:=r.2.2.2.2.2.2.2.2.2
theorem JI {l:aa} {b:UInt8} (h:l.take 2=[b,b]):∃r,l=b::b::r:=by
 match l,h with
 | a::c::r,h=>simp at h;exact ⟨r,by rw [h.1,h.2]⟩
theorem A6 {S:aa} {a:Nat} (h:a<=S.length) {r:DR} (b:dU S a=.inr r):oe S a=.inr r/\chkR r=0:=by
 unfold dU at b;cases c:oe S a with
 | inl k=>rw [c] at b;cases b
 | inr d=>
  rw [c] at b;simp only [] at b;by_cases hc:chkR d=0
  ·rw [ae hc] at b;obtain rfl:=Sum.inr.inj b;exact ⟨rfl,hc⟩
  ·rw [ab hc] at b;cases b
theorem rW (c:UInt8) (k:Nat) (a:k<256):(((c.toNat:Nat):Int)==(k:Int))=decide (c=UInt8.ofNat k):=by
 rw [sI,bp,decide_eq_true_iff];constructor
 ·intro h;apply gD.1;have:c.toNat=k:=by omega
  rw [this];simp;omega
 ·rintro rfl;simp;omega
theorem xW {S:aa} {a:Nat} (h:a<=S.length) {k E p:Nat} (b:dU S a=.inl (k,E,p)):E≠0:=by
 unfold dU at b;cases c:oe S a with
 | inl k'=>rw [c] at b;simp only [] at b;have:=Sum.inl.inj b;simp at this;omega
 | inr d=>
  rw [c] at b;simp only [] at b;by_cases hc:chkR d=0
  ·rw [ae hc] at b;cases b
  ·rw [ab hc] at b;have:=Sum.inl.inj b;simp at this;omega
def smT (x:TD):Prop:=x.2.2.2.2.2.1.length<=18/\x.2.2.1.length<=100/\x.2.2.2.2.2.2.1.length<=18/\0<=x.2.2.2.2.2.2.2.1/\0<=x.2.2.2.2.2.2.2.2.1/\0<=x.2.2.2.2.2.2.2.2.2
noncomputable def cF (x:TD):Int:=chkF x.1 x.2.1 x.2.2.1 x.2.2.2.1 x.2.2.2.2.1 x.2.2.2.2.2.1 x.2.2.2.2.2.2.1 x.2.2.2.2.2.2.2.1 x.2.2.2.2.2.2.2.2.1 x.2.2.2.2.2.2.2.2.2
def exT (x:TD):Bool:=exD x.2.2.1 x.2.2.2.2.2.1 x.2.2.2.2.2.2.1 x.2.2.2.2.1
def dyT (x:TD):Int×Int:=og x.1 x.2.2.1 x.2.2.2.1 x.2.2.2.2.2.1 x.2.2.2.2.2.2.1
def seT (x:TD):Int:=sea x.2.2.2.2.2.1
def coT (x:TD):Nat:=bD x.2.2.2.2.2.1 x.2.2.2.2.2.2.1
noncomputable def plT (x:TD):Bool:=decide (cF x=0)&&(exT x&&!decide (0<seT x))
theorem ri:smT d0:=by unfold smT;simp
theorem fcT {x:TD} (h:smT x):ap10 (bC 20000000) x=some (cF x):=wb h.1 h.2.1 h.2.2.2.1 h.2.2.2.2.1 h.2.2.2.2.2
theorem reT {x:TD} (h:smT x):ap10 (iR 20000000) x=some (if exT x then 1 else 0):=by
 obtain ⟨a,b,c,_⟩:=h;exact CS 20000000 _ _ _ _ _ _ _ _ _ _ (by omega) (by omega) (by omega) (by omega)
theorem rsT (x:TD):ap10 (aO 20000000) x=some (seT x):=lL 20000000 (by omega) _ _ _ _ _ _ _ _ _ _
theorem rcoT (x:TD):ap10 (au 20000000) x=some ((coT x:Nat):Int):=dj 20000000 _ _ _ _ _ _ _ _ _ _
theorem fpT {x:TD} (h:smT x):ap10 (bm 20000000) x=some (if x.2.2.2.2.2.2.1=[] then (if 0<seT x then 0 else if x.2.2.2.2.2.1=[] then 1 else 2) else 3):=MH 20000000 _ _ _ _ _ _ _ _ _ _ h.1
theorem fmT {x:TD} (h:smT x):ap10 (eX 20000000) x=some (hasX x.2.2.1||(hasX x.2.2.2.2.2.1||hasX x.2.2.2.2.2.2.1)):=by
 obtain ⟨a,b,c,_⟩:=h;exact Db 20000000 _ _ _ _ _ _ _ _ _ _ (by omega) (by omega) (by omega)
theorem fdT {x:TD} (h:smT x):ap10 (gv 20000000) x=some (if cF x=0 then (if exT x=true then (0,(dyT x).1,0,(dyT x).2,0) else (0,0,0,0,1)) else (0,0,0,0,cF x)):=FD h.1 h.2.1 h.2.2.1 h.2.2.2.1 h.2.2.2.2.1 h.2.2.2.2.2
theorem M6 {x:TD} (hc:cF x=0) (a:exT x=true):x.2.2.2.2.1=0/\Exact x.1 x.2.1 x.2.2.1 x.2.2.2.1 x.2.2.2.2.2.1 x.2.2.2.2.2.2.1:=wj hc a
theorem rdT {x:TD} (h:smT x) (hc:cF x=0) (b:exT x=true):ap10 (dl 20000000) x=some (dyT x):=by
 obtain ⟨a,E⟩:=M6 hc b;have:=vu (k0:=x.2.2.2.2.2.2.2.1) (k1:=x.2.2.2.2.2.2.2.2.1) (k2:=x.2.2.2.2.2.2.2.2.2) E h.2.1;rw [<-a] at this;exact this
theorem RG {x:TD} (hc:cF x=0) (a:exT x=true):(dyT x).1<=(dyT x).2:=Uz (M6 hc a).2
theorem tG {x:TD} (hc:cF x=0):(x.2.2.2.2.2.1=[]\/x.2.2.2.2.2.1.length=2)/\(x.2.2.2.2.2.2.1=[]\/x.2.2.2.2.2.2.1.length=2)/\(x.2.2.2.2.2.2.1≠[]->x.2.2.2.2.2.1≠[]/\seT x=0):=by
 obtain ⟨_,a,b,_,c⟩:=o7 (o6 hc);exact ⟨a,b,c⟩
theorem jn {x y:TD}:eqD x y=true↔x=y:=by
 obtain ⟨a1,a2,l,d,o,n,m,j,g,a⟩:=x;obtain ⟨b1,b2,k,p,h,e,i,c,f,b⟩:=y;simp [and_assoc]
theorem HZ {x:TD} (h:smT x):nU 20000000 x=some (exT x):=by
 unfold nU;rw [fmT h];simp only [ob,exT,exD];cases (hasX x.2.2.1||(hasX x.2.2.2.2.2.1||hasX x.2.2.2.2.2.2.1))<;>rfl
theorem AS {x:TD} (h:smT x):lS 20000000 x=some (plT x):=by
 unfold lS plT;rw [fcT h,HZ h,fpT h];simp only [ob];by_cases hc:cF x=0
 ·rw [hc];cases d:exT x
  ·rfl
  ·show some ((if _ then _ else _) != (0:Int))=some (true&&(true&&!decide (0<seT x)));obtain ⟨_,_,c⟩:=tG hc;by_cases a:x.2.2.2.2.2.2.1=[]
   ·rw [ae a];by_cases hs:0<seT x
    ·rw [ae hs,aq hs];rfl
    ·rw [ab hs,ar hs];by_cases b:x.2.2.2.2.2.1=[]
     ·rw [ae b];rfl
     ·rw [ab b];rfl
   ·rw [ab a,(c a).2];rfl
 ·rw [ar hc,show (cF x==0)=false from by simp [hc]];rfl
theorem mL {x:TD}:plT x=true↔cF x=0/\exT x=true/\¬0<seT x:=by
 unfold plT;simp [and_assoc]
noncomputable def ordB (x y:TD):Bool:=(plT x&&plT y)&&(decide (coT x=coT y)&&decide ((dyT x).1<=(dyT y).1))
theorem Ae {x:TD} (hc:cF x=0) (hs:¬0<seT x):(if x.2.2.2.2.2.2.1=[] then (if 0<seT x then (0:Int) else if x.2.2.2.2.2.1=[] then 1 else 2) else 3)=((coT x:Nat):Int):=by
 obtain ⟨_,_,c⟩:=tG hc;unfold coT bD;by_cases a:x.2.2.2.2.2.2.1=[]
 ·rw [ae a,ab hs];by_cases b:x.2.2.2.2.2.1=[]
  ·simp [b,a]
  ·simp [b,a]
 ·have b:=(c a).1;simp [a,b]
theorem JP {x y:TD} (hx:smT x) (hy:smT y):mX 20000000 x y=some (ordB x y):=by
 unfold mX ordB;rw [AS hx,AS hy];cases k:plT x
 ·rfl
 cases i:plT y
 ·rfl
 obtain ⟨d,m,h⟩:=mL.1 k;obtain ⟨c,j,g⟩:=mL.1 i;rw [fpT hx,fpT hy,fdT hx,fdT hy,Ae d h,Ae c g,ae d,ae c,ae m,ae j];simp only [ob,u5,u4,u3,u2,dn,af,Bool.and_self,qB];by_cases a:coT x=coT y
 ·rw [a,aq rfl];obtain ⟨r,l,f⟩:=H6 (dyT x).1 (dyT y).1;simp only [hJ,af,l,qB];refine cD some ?_;have:decide (r<=0)=!decide (r>0):=by
   by_cases b:r<=0
   ·rw [aq b,ar (by omega)];rfl
   ·rw [ar b,aq (by omega)];rfl
  rw [this,f];by_cases e:(dyT x).1<=(dyT y).1
  ·rw [aq e,ar (by omega)];rfl
  ·rw [ar e,aq (by omega)];rfl
 ·have:(((coT x:Nat):Int) != ((coT y:Nat):Int))=true:=by simp;omega
  rw [this,ar a];rfl
noncomputable def itE (x:TD) (r:Bool) (y:TD) (all:Bool):Int:=
 if cF x≠0 then cF x else if r=true/\cF y≠0 then cF y else if r=false/\eqD y d0=false then 5 else if r=true/\ordB x y=false then 10 else if all=true/\exT x=false then 10 else 0
theorem DN {x y:TD} (r:Bool) (hx:smT x) (hy:smT y) (K:Int) (hc:cF x=0) (a:¬(r=true/\cF y≠0)):eI 20000000 5 10 10 x r y K=some (itE x r y (K==4)):=by
 unfold eI rE qS rO itE;rw [JP hx hy,HZ hx,ab (by simpa using hc),ab a];cases r
 ·generalize eqD y d0=z;cases z
  ·rfl
  ·cases (K==4)
   ·rfl
   ·cases exT x<;>rfl
 ·simp only [ob,dn,af,ah,reduceCtorEq,yA,aG,ku];cases ordB x y
  ·rfl
  ·simp only [dn,af,Bool.true_eq_false,aG];cases (K==4)
   ·rfl
   ·cases exT x<;>rfl
theorem Kv {x y:TD} (r:Bool) (hx:smT x) (hy:smT y) (K:Int):hZ 20000000 x r y K=some (if K=3\/K=4 then itE x r y (K==4) else 18):=by
 have b:(ob (ap10 (bC 20000000) x) λd=>(cond (d != 0) (some d) (cond r (ob (ap10 (bC 20000000) y) λc=>(cond (c != 0) (some c) (ob (eI 20000000 5 10 10 x r y K) λg=>(some g)))) (ob (eI 20000000 5 10 10 x r y K) λh=>(some h)))))=some (itE x r y (K==4)):=by
  rw [fcT hx];simp only [ob];by_cases hc:cF x=0
  ·rw [show (cF x != 0)=false from by simp [hc],af];cases r
   ·rw [DN false hx hy K hc (by simp)];rfl
   ·rw [ah,fcT hy];simp only;by_cases a:cF y=0
    ·rw [show (cF y != 0)=false from by simp [a],af,DN true hx hy K hc (by simp [a])]
    ·rw [show (cF y != 0)=true from by simp [a],ah];unfold itE;rw [ab (by simpa using hc),ae ⟨rfl,a⟩]
  ·rw [show (cF x != 0)=true from by simp [hc],ah];unfold itE;rw [ae hc]
 unfold hZ;by_cases e:K=3
 ·subst e;exact b.trans (by rfl)
 ·rw [show (K != 3)=true from by simp [e],ah];by_cases f:K=4
  ·subst f;exact b.trans (by rfl)
  ·rw [show (K != 4)=true from by simp [f],ah,ab (by omega)]
theorem X9 {x y:TD} {r all:Bool} (h:cF x≠0):itE x r y all=cF x:=ae h
theorem Xe {x y:TD} {all:Bool} (hc:cF x=0) (h:cF y≠0):itE x true y all=cF y:=by
 unfold itE;rw [ab (λh=>h hc),ae ⟨rfl,h⟩]
theorem OU {x y:TD} {all:Bool} (hc:cF x=0):itE x false y all=if eqD y d0=false then 5 else if all=true/\exT x=false then 10 else 0:=by
 have b:(false=true/\cF y≠0)↔False:=by simp
 have a:(false=true/\ordB x y=false)↔False:=by simp
 have c:(false=false/\eqD y d0=false)↔eqD y d0=false:=by simp
 unfold itE;rw [ab (λh=>h hc)];simp only [b,a,aG,ku]
theorem WW {x y:TD} {all:Bool} (hc:cF x=0) (hy:cF y=0):itE x true y all=if ordB x y=false then 10 else if all=true/\exT x=false then 10 else 0:=by
 have b:(true=true/\ordB x y=false)↔ordB x y=false:=by simp
 have a:(true=false/\eqD y d0=false)↔False:=by simp
 unfold itE;rw [ab (λh=>h hc),ab (λh=>h.2 hy)];simp only [a,aG,ku]
def oQ {A:Type} (f:Nat->A->Int):Nat->List A->Option (Nat×Int)
 | _,[]=>none
 | i,t::r=>if f i t≠0 then some (i,f i t) else oQ f (i+1) r
theorem Au {A X Y:Type} {step:X->Option (X⊕Y)} {st:Nat->X} {L:List A} {f:Nat->A->Int} {yes:Nat->Int->Y} {no:Y}
  (e:∀i t,L[i]?=some t->step (st i)=some (if f i t≠0 then .inr (yes i (f i t)) else .inl (st (i+1)))) (d:step (st L.length)=some (.inr no)):
  ∀(r i:Nat),i+r=L.length->∀N,r<N->av step N (st i)=some (match oQ f i (L.drop i) with | some p=>yes p.1 p.2 | none=>no):=by
 intro r
 induction r with
 | zero=>
  intro i hi N g;obtain ⟨N,rfl⟩:∃k,N=k+1:=⟨N - 1,by omega⟩;rw [av,show i=L.length by omega,d,ue];rfl
 | succ r ih=>
  intro i hi N g;obtain ⟨N,rfl⟩:∃k,N=k+1:=⟨N - 1,by omega⟩;have a:i<L.length:=by omega
  have c:L[i]?=some L[i]:=aW a;rw [av,e i _ c,pE a,oQ];by_cases b:f i L[i]≠0
  ·rw [ae b,ae b]
  ·rw [ab b,ab b];exact ih (i+1) (by omega) N (by omega)
abbrev rT (t:TI):Bool:=(d8 t).2.2.1
abbrev iT (t:TI):TD:=(d8 t).2.2.2
def smI (t:TI):Prop:=smT (iF t)/\smT (iT t)
noncomputable def itI (t:TI) (all:Bool):Int:=itE (iF t) (rT t) (iT t) all
noncomputable def endB (t:TI):Bool:=!rT t&&plT (iF t)
noncomputable def errI (K:Int) (e l:Bool) (n i:Nat) (t:TI):Int:=
 if itI t (K==4)≠0 then itI t (K==4) else if (e&&decide (i=0))&&!endB t||((l&&decide (i+1=n))&&!endB t||(e&&(l&&decide (n=1)))) then 10 else 0
noncomputable def xK (K:Int) (e l:Bool) (L:List TI):Int×Int:=match oQ (errI K e l L.length) 0 L with
 | some p=>((p.1:Int),p.2)
 | none=>(0,0)
theorem nW {i:Nat} (h:i<9223372036854775807):w64 ((i:Int)+1)=((i+1:Nat):Int):=by
 show IntKind.wrap .i64 _=_;rw [wrap_i64 _ (by omega) (by omega)];omega
theorem F5 {i:Nat} (a:0<i) (h:i<9223372036854775807):w64 ((i:Int) - 1)=((i - 1:Nat):Int):=by
 show IntKind.wrap .i64 _=_;rw [wrap_i64 _ (by omega) (by omega)];omega
theorem natB (a b:Nat):(((a:Nat):Int)==((b:Nat):Int))=decide (a=b):=by
 by_cases h:a=b
 ·subst h;simp
 ·rw [ar h];simp;omega
theorem Nr (a:Nat):(((a:Nat):Int)==0)=decide (a=0):=natB a 0
theorem Wt {x y:TD} (r:Bool) (hx:smT x):nR 20000000 x r y=some (!r&&plT x):=by
 unfold nR;rw [AS hx];cases r<;>rfl
theorem OP {K:Int} (j:K=3\/K=4) {e l:Bool} {L:List TI} {i:Nat} {t:TI} (hi:L[i]?=some t) (hs:smI t) (o:L.length<=1000000) (D:TD) (KF:Int) (DF:TD) (KT:Int) (DT:TD):
  iY 20000000 (itI t (K==4)) 10 10 10 (iF t) (rT t) (iT t) K D KF DF KT DT e l (i:Int) (w64 (len L - 1)) L=some (errI K e l L.length i t):=by
 have m:i<L.length:=(rf.1 hi).1;have d:w64 (len L - 1)=((L.length - 1:Nat):Int):=F5 (by omega) (by omega);have g:hZ 20000000 (iF t) (rT t) (iT t) K=some (itI t (K==4)):=by
  rw [Kv _ hs.1 hs.2,ae j];rfl
 unfold iY uN uh uy uA errI;rw [g,d];simp only [Wt (rT t) hs.1,ob,Nr,natB];have n:decide (i=L.length - 1)=decide (i+1=L.length):=by congr 1;exact propext (by omega)
 have k:decide (L.length - 1=0)=decide (L.length=1):=by congr 1;exact propext (by omega)
 rw [n,k];show cond (itI t (K==4) != 0) _ _=_;by_cases f:itI t (K==4)=0
 ·rw [ab (λh=>h f),show (itI t (K==4) != 0)=false from by simp [f],af];show _=some (if ((e&&decide (i=0))&&!endB t||((l&&decide (i+1=L.length))&&!endB t||(e&&(l&&decide (L.length=1)))))=true then 10 else 0);unfold endB;generalize (!rT t&&plT (iF t))=z;generalize decide (i=0)=a;generalize decide (i+1=L.length)=b;generalize decide (L.length=1)=c;cases e<;>cases l<;>cases z<;>cases a<;>cases b<;>cases c<;>rfl
 ·rw [ae f,show (itI t (K==4) != 0)=true from by simp [f],ah]
theorem Q7 {K:Int} (g:K=3\/K=4) {e l:Bool} {L:List TI} (hs:∀t∈L,smI t) (j:L.length<=1000000) (D:TD) (KF:Int) (DF:TD) (KT:Int) (DT:TD):
  n8 20000000 K D KF DF KT DT e l L=some (xK K e l L):=by
 have:=Au (step:=gx 20000000) (st:=λi=>(len L,(i:Int),L,K,D,KF,DF,KT,DT,e,l,w64 (len L - 1))) (L:=L) (f:=errI K e l L.length) (yes:=λi q=>.inl ((i:Int),q)) (no:=.inr ())
  (λi t hi=>by
   have d:i<L.length:=(rf.1 hi).1;have a:=hs t (eW hi);have c:hZ 20000000 (iF t) (rT t) (iT t) K=some (itI t (K==4)):=by
    rw [Kv _ a.1 a.2,ae g];rfl
   unfold gx;simp only [u12,u11,u10,u9,u8,u7,u6,u5,u4,u3,u2];rw [aq (show (i:Int)<len L by unfold len;omega),dD d];simp only [ah,ob,hi];rw [show hZ 20000000 (iF t) (d8 t).2.2.1 (d8 t).2.2.2 K=some (itI t (K==4)) from c];simp only;rw [show iY 20000000 (itI t (K==4)) 10 10 10 (iF t) (d8 t).2.2.1 (d8 t).2.2.2 K D KF DF KT DT e l (i:Int) (w64 (len L - 1)) L=some (errI K e l L.length i t) from OP g hi a j D KF DF KT DT];simp only;rw [nW (by omega)];by_cases b:errI K e l L.length i t=0
   ·rw [ab (λh=>h b),show (errI K e l L.length i t != 0)=false from by simp [b]];rfl
   ·rw [ae b,show (errI K e l L.length i t != 0)=true from by simp [b]];rfl)
  (by
   unfold gx;simp only [u12,u11,u10,u9,u8,u7,u6,u5,u4,u3,u2];rw [ar (show ¬((L.length:Nat):Int)<len L by unfold len;omega)];rfl)
  L.length 0 (by omega) 20000000 (by omega)
 unfold n8 xK;rw [cO] at this;show obs (av (gx 20000000) 20000000 (len L,((0:Nat):Int),L,K,D,KF,DF,KT,DT,e,l,w64 (len L - 1))) _ _=_;rw [this];cases oQ (errI K e l L.length) 0 L<;>rfl
noncomputable def sH (K:Int) (x:TD):Int:=chkB K x.1 x.2.1 x.2.2.1 x.2.2.2.1 x.2.2.2.2.1 x.2.2.2.2.2.1 x.2.2.2.2.2.2.1 x.2.2.2.2.2.2.2.1 x.2.2.2.2.2.2.2.2.1 x.2.2.2.2.2.2.2.2.2
noncomputable def nH (K:Int) (x:TD) (a:Int) (y:TD):Int:=GG (sH K x) (sH a y) K a (dyT x).1 (dyT y).2
theorem Lh {x y:TD} (hx:smT x) (hy:smT y) (K a:Int):ap10 (ap10 (iH 20000000 K) x a) y=some (nH K x a y):=
 Tc hx.1 hx.2.1 hx.2.2.1 hx.2.2.2.1 hx.2.2.2.2.1 hx.2.2.2.2.2 hy.1 hy.2.1 hy.2.2.1 hy.2.2.2.1 hy.2.2.2.2.1 hy.2.2.2.2.2
theorem Ky {x y:TD} (hx:smT x) (hy:smT y) (K a:Int):ap10 (ap10 (ii 20000000 K) x a) y=some (nH K x a y):=
 Q1 hx.1 hx.2.1 hx.2.2.1 hx.2.2.2.1 hx.2.2.2.2.1 hx.2.2.2.2.2 hy.1 hy.2.1 hy.2.2.1 hy.2.2.2.1 hy.2.2.2.2.1 hy.2.2.2.2.2
def unuB (K:Int) (D:TD) (KF:Int) (DF:TD) (KT:Int) (DT:TD) (e l:Bool) (n:Nat):Bool:=
 !(K==1||eqD D d0)||(!(K==2||((KF==0)&&((eqD DF d0)&&true))&&((KT==0)&&((eqD DT d0)&&true)))||!(K==3||(K==4||(decide (n=0)&&(!e&&!l)))))
theorem Ou (n:Nat) (K:Int) (D:TD) (KF:Int) (DF:TD) (KT:Int) (DT:TD) (e l:Bool) (L:List TI):
  ot n K D KF DF KT DT e l L=some (unuB K D KF DF KT DT e l L.length):=by
 unfold ot unuB;rw [show (len L==0)=decide (L.length=0) from Nr _];generalize eqD D d0=b;generalize ((KF==0)&&((eqD DF d0)&&true))=z1;generalize ((KT==0)&&((eqD DT d0)&&true))=z2;generalize decide (L.length=0)=a;generalize (K==1)=k1;generalize (K==2)=k2;generalize (K==3)=k3;generalize (K==4)=k4;revert b z1 z2 a k1 k2 k3 k4 e l;decide +kernel
noncomputable def pG (K:Int) (D:TD) (KF:Int) (DF:TD) (KT:Int) (DT:TD) (e l:Bool) (L:List TI):Int×Int:=
 if K<1\/4<K then (0,18) else if unuB K D KF DF KT DT e l L.length=true then (0,5) else if K=1 then (0,cF D) else if K=2 then (0,nH KF DF KT DT) else if L.length=0 then (0,17) else if 256<L.length then (0,3) else xK K e l L
def smE (D DF DT:TD) (L:List TI):Prop:=smT D/\smT DF/\smT DT/\∀t∈L,smI t
theorem O5 {K:Int} {D:TD} {KF:Int} {DF:TD} {KT:Int} {DT:TD} {e l:Bool} {L:List TI} (h:smE D DF DT L):
  qu 20000000 K D KF DF KT DT e l L=some (pG K D KF DF KT DT e l L):=by
 obtain ⟨i,f,j,g⟩:=h;unfold qu pG;by_cases b:K<1
 ·rw [aq b,ae (.inl b)];rfl
 by_cases c:4<K
 ·rw [ar b,show decide (K>4)=true from aq c,ae (.inr c)];rfl
 rw [ar b,show decide (K>4)=false from ar c,ab (by omega),Ou];simp only [af,ob];cases unuB K D KF DF KT DT e l L.length
 ·simp only [af,bs,aG];by_cases k1:K=1
  ·rw [ae k1,show (K==1)=true from by simp [k1],fcT i];rfl
  by_cases k2:K=2
  ·rw [ab k1,ae k2,show (K==1)=false from by simp [k1],show (K==2)=true from by simp [k2],Lh f j];rfl
  rw [ab k1,ab k2,show (K==1)=false from by simp [k1],show (K==2)=false from by simp [k2]];simp only [af];rw [show (len L==0)=decide (L.length=0) from Nr _];by_cases a:L.length=0
  ·rw [aq a,ae a];rfl
  rw [ar a,ab a];by_cases d:256<L.length
  ·rw [show decide (len L>256)=true from aq (by show (256:Int)<((L.length:Nat):Int);omega),ae d];rfl
  rw [show decide (len L>256)=false from ar (by show ¬(256:Int)<((L.length:Nat):Int);omega),ab d,Q7 (by omega) g (by omega)];rfl
 ·rfl
abbrev TR:=aj
def natI (x:Int) (b:Nat):Prop:=0<=x/\x<(b:Int)
def wfD (a0 a2 d a g f e c b:Int):Prop:=natI a0 256/\natI a2 65536/\natI d 256/\natI a 256/\natI g 256/\natI f 256/\natI e 256/\natI c 256/\natI b 256
theorem natI.nat {x:Int} {b:Nat} (h:natI x b):∃n:Nat,x=(n:Int)/\n<b:=⟨x.toNat,by have:=h.1;omega,by have:=h.1;have:=h.2;omega⟩
theorem DofI {a0 a2 a c b k j i f:Int} (g:Bool) (h:wfD a0 a2 a c b k j i f):∃x:TD,aL 20000000 a0 g a2 a c b k j i f=some x/\smT x/\cF x=0:=by
 obtain ⟨C,I,u,r,B,w,F,E,D⟩:=h;obtain ⟨a0,rfl,b0⟩:=C.nat;obtain ⟨a2,rfl,b2⟩:=I.nat;obtain ⟨a,rfl,A⟩:=u.nat;obtain ⟨c,rfl,K⟩:=r.nat;obtain ⟨b,rfl,H⟩:=B.nat;obtain ⟨k,rfl,s⟩:=w.nat;obtain ⟨j,rfl,J⟩:=F.nat;obtain ⟨i,rfl,o⟩:=E.nat;obtain ⟨f,rfl,z⟩:=D.nat;obtain ⟨L,l,dg,x,q,v,d,k0,k1,k2,e,hc,p,G⟩:=We 19999700 a0 a2 a c b k j i f g b2 A K H s J o z;obtain ⟨y,n,m,_⟩:=o7 hc;obtain ⟨_,_,_,_,_,t⟩:=jf y;refine ⟨_,e,⟨?_,by show dg.length<=100;omega,?_,by simp,by simp,by simp⟩,Hz hc G⟩
 ·rcases n with h | h
  ·rw [h];simp
  ·show v.length<=18;omega
 ·rcases m with h | h
  ·rw [h];simp
  ·show d.length<=18;omega
theorem Qk:((List.range 13).all λj=>sea (monT j)==0)=true:=by decide +kernel
theorem XX (a0 a2 h b a f n k j:Nat) (g:Bool) (o:a2<65536) (s:h<256) (t:b<256) (p:a<256) (v:f<256) (w:a%40<=12):
  ∃r:TD,aL 20000000 (a0:Int) g (a2:Int) (h:Int) (b:Int) (a:Int) (f:Int) (n:Int) (k:Int) (j:Int)=some r/\seT r=0:=by
 obtain ⟨y,l,dg,x,q,u,d,e,_,_,_,_,i,c,_⟩:=J7 19999700 a0 a2 h b a f n k j g o s t p v;refine ⟨_,e,?_⟩;show sea u=0;by_cases m:q=0
 ·rw [c m];have:=(bW.1 Qk) (a%40) (jp.2 (by omega));simpa using this
 ·rw [(i m).1];decide
theorem ExI {a0 a2 i j f b n m k:Int} (g:Bool) (h:wfD a0 a2 i j f b n m k):
  ∃x:TD,bJ 20000000 a0 g a2 i j f b n m k=some x/\smT x/\cF x=0/\exT x=true/\(Int.tmod f 40<=12->seT x=0):=by
 obtain ⟨N,T,t,q,M,u,Q,P,O⟩:=h;obtain ⟨a0,rfl,b0⟩:=N.nat;obtain ⟨a2,rfl,b2⟩:=T.nat;obtain ⟨i,rfl,z⟩:=t.nat;obtain ⟨j,rfl,C⟩:=q.nat;obtain ⟨f,rfl,A⟩:=M.nat;obtain ⟨b,rfl,F⟩:=u.nat;obtain ⟨n,rfl,Y⟩:=Q.nat;obtain ⟨m,rfl,V⟩:=P.nat;obtain ⟨k,rfl,W⟩:=O.nat;obtain ⟨G,l,dg,x,J,d,k0,k1,k2,e,hc,D,v,p,s⟩:=HF 19999700 a0 a2 i j f b n m k g b0 b2 z C A F;refine ⟨_,e,⟨v,s,p,by simp,by simp,by simp⟩,hc,D,λR=>?_⟩;have w:Int.tmod (f:Int) 40=((f%40:Nat):Int):=rfl;rw [w] at R;have U:Int.tmod (b:Int) 40=((b%40:Nat):Int):=rfl;have H:Int.tdiv ((b%40:Nat):Int) 2=((b%40 / 2:Nat):Int):=rfl;have E:IntKind.wrap .u8 ((b%40 / 2:Nat):Int)=((b%40 / 2:Nat):Int):=fL _ (by omega) (by omega);have S:=λ(K B:Nat) (u:B<256)=>XX K a2 i j f B n m k g b2 z C A u (by omega);have e':bJ 20000000 (a0:Int) g (a2:Int) (i:Int) (j:Int) (f:Int) (b:Int) (n:Int) (m:Int) (k:Int)=some (G,l,dg,x,0,J,d,((k0:Nat):Int),((k1:Nat):Int),((k2:Nat):Int)):=e;have key:∀(o:Option TD) (y:TD),(∃r:TD,o=some r/\seT r=0)->(ob o λa=>(cond (decide ((d4 a).1>0)) (some (a.1,a.2.1,a.2.2.1,a.2.2.2.1,(0:Int),(d4 a).2.1,(d4 a).2.2.1,(d4 a).2.2.2.1,(d8 a).1,(d8 a).2)) (some (a.1,a.2.1,a.2.2.1,a.2.2.2.1,(d4 a).1,(d4 a).2.1,(d4 a).2.2.1,(d4 a).2.2.2.1,(d8 a).1,(d8 a).2))))=some y->seT y=0:=by
  rintro o y ⟨r,rfl,L⟩ hy;simp only [ob] at hy;cases I:decide ((d4 r).1>0)<;>rw [I] at hy<;>simp only [ah,af,aw] at hy<;>subst hy<;>exact L
 unfold bJ at e';rw [w,U,H,E] at e';rw [ar (show ¬((f%40:Nat):Int)>33 by omega)] at e';simp only [af] at e';have X:(0:Int)=((0:Nat):Int):=rfl;cases t:(Int.tmod (a0:Int) 6==3)<;>rw [t] at e'<;>simp only [ah,af] at e'
 ·cases q:(Int.tmod (a0:Int) 6==4)<;>rw [q] at e'<;>simp only [ah,af] at e'
  ·cases c:decide (((b%40:Nat):Int)>31)<;>rw [c] at e'<;>simp only [ah,af] at e'
   ·exact key _ _ (S a0 b (by omega)) e'
   ·exact key _ _ (S a0 (b%40 / 2) (by omega)) e'
  ·cases c:decide (((b%40:Nat):Int)>31)<;>rw [c] at e'<;>simp only [ah,af] at e'
   ·exact key _ _ (S 0 b (by omega)) e'
   ·exact key _ _ (S 0 (b%40 / 2) (by omega)) e'
 ·cases c:decide (((b%40:Nat):Int)>31)<;>rw [c] at e'<;>simp only [ah,af] at e'
  ·exact key _ _ (S 0 b (by omega)) e'
  ·exact key _ _ (S 0 (b%40 / 2) (by omega)) e'
theorem Ic {a0 a2 l c p n m k i:Int} (g:Bool) (h:wfD a0 a2 l c p n m k i):∃x:TD,cj 20000000 a0 g a2 l c p n m k i=some x/\smT x/\plT x=true:=by
 obtain ⟨a,rfl,s⟩:=h.2.2.2.2.1.nat;have o:Int.tmod (a:Int) 40=((a%40:Nat):Int):=rfl;have j:Int.tmod ((a%40:Nat):Int) 12=((a%40%12:Nat):Int):=rfl;unfold cj;rw [o,j];by_cases r:12<a%40
 ·rw [aq (show ((a%40:Nat):Int)>12 by omega),ah];have w:w8 (((a%40%12:Nat):Int)+1)=((a%40%12+1:Nat):Int):=by
   show IntKind.wrap .u8 _=_;rw [fL _ (by omega) (by omega)];omega
  rw [w];have q:wfD a0 a2 l c ((a%40%12+1:Nat):Int) n m k i:=⟨h.1,h.2.1,h.2.2.1,h.2.2.2.1,⟨by omega,by omega⟩,h.2.2.2.2.2⟩;obtain ⟨x,e,hs,hc,d,b⟩:=ExI g q;have f:seT x=0:=b (by
   show (((a%40%12+1)%40:Nat):Int)<=12;omega)
  exact ⟨x,by rw [e];rfl,hs,mL.2 ⟨hc,d,by omega⟩⟩
 ·rw [ar (show ¬((a%40:Nat):Int)>12 by omega),af];obtain ⟨x,e,hs,hc,d,b⟩:=ExI g h;have f:seT x=0:=b (by rw [o];omega);exact ⟨x,by rw [e];rfl,hs,mL.2 ⟨hc,d,by omega⟩⟩
theorem BofI {k a0 a2 b f c n m j i:Int} (g:Bool) (D:natI k 256) (h:wfD a0 a2 b f c n m j i):
  ∃(K:Int) (x:TD),ck 20000000 k a0 g a2 b f c n m j i=some (K,x)/\smT x/\sH K x=0/\(K=1\/((K=2\/K=3)/\x=d0)):=by
 obtain ⟨F,N,t,r,B,v,I,H,G⟩:=h;obtain ⟨k,rfl,bk⟩:=D.nat;obtain ⟨a0,rfl,b0⟩:=F.nat;obtain ⟨a2,rfl,b2⟩:=N.nat;obtain ⟨b,rfl,C⟩:=t.nat;obtain ⟨f,rfl,Q⟩:=r.nat;obtain ⟨c,rfl,M⟩:=B.nat;obtain ⟨n,rfl,s⟩:=v.nat;obtain ⟨m,rfl,V⟩:=I.nat;obtain ⟨j,rfl,R⟩:=H.nat;obtain ⟨i,rfl,U⟩:=G.nat;obtain ⟨K,S,l,dg,x,T,d,k0,k1,k2,e,hc,p,a,o,w⟩:=B_of 19999700 k a0 a2 b f c n m j i g b0 b2 C Q M s;refine ⟨K,_,e,⟨p,o,a,by simp,by simp,by simp⟩,hc,w.imp id λ⟨q,u,y,E,J,A,O,L,z,P⟩=>⟨q,?_⟩⟩;subst u y E J A O L z P;rfl
theorem OG {g l:Bool} {dg:aa} {x:Int} {m d:aa} {k0 k1 k2:Int} (h:chkD g l dg x 0 m d k0 k1 k2=0) (b:m≠[]) (hp:0<=k0/\0<=k1):chkD g l dg x 0 m [] k0 k1 0=0:=by
 obtain ⟨f,e,i,c4⟩:=CY h;unfold chkD;have c:bD m []=2:=by unfold bD;simp [b]
 have a:allM k0 k1 0 2=0:=by
  unfold allM at c4 ⊢;by_cases hx:3<k0\/3<k1\/3<k2\/(bD m d<2/\k1≠0)\/(bD m d<3/\k2≠0)
  ·rw [ae hx] at c4;cases c4
  ·rw [ab (by omega)]
 rw [f,c,a];have:(!(m==[])&&(!(decide (0<sea m))&&!(dY m 12)))=false:=by
  rcases e with h | h | h
  ·rw [h];rfl
  ·rw [aq h];simp
  ·rw [h];simp
 rw [this];rfl
theorem KH {g l:Bool} {dg:aa} {x:Int} {m d:aa} {k0 k1 k2:Int} (h:chkD g l dg x 0 m d k0 k1 k2=0):chkD g l dg x 0 [] [] k0 0 0=0:=by
 obtain ⟨b,e,f,c4⟩:=CY h;have hy:yrD g l dg x 0 []=true:=by
  unfold yrD at b ⊢;by_cases a:okY g l dg x 0
  ·rw [ae a];unfold yrB;rfl
  ·rw [ab a] at b;cases b
 have c:allM k0 0 0 1=0:=by
  unfold allM at c4 ⊢;by_cases hx:3<k0\/3<k1\/3<k2\/(bD m d<2/\k1≠0)\/(bD m d<3/\k2≠0)
  ·rw [ae hx] at c4;cases c4
  ·rw [ab (by omega)]
 unfold chkD;rw [hy,show bD [] []=1 from rfl,c];rfl
theorem zX {g l:Bool} {dg:aa} {x q:Int} {m:aa} {k0 k1 k2:Int} (h:chkD g l dg x q m [] k0 k1 k2=0):chkF g l dg x q m [] k0 k1 k2=0:=by
 unfold chkF;rw [ab (λh=>h.2.1 rfl),h]
theorem E8 (x:TD):1<=coT x/\coT x<=3:=mf _ _
theorem cutI {x:TD} (hs:smT x) (hp:plT x=true) {n:Nat} (C:1<=n) (o:n<=coT x):∃y:TD,jZ 20000000 x (n:Int)=some y/\smT y/\plT y=true/\coT y=n:=by
 obtain ⟨hc,s,k⟩:=mL.1 hp;obtain ⟨t,E⟩:=M6 hc s;have c:=o6 hc;obtain ⟨g,l,dg,e,q,m,d,k0,k1,k2⟩:=x;obtain ⟨j,i,u,f,h,w⟩:=hs;simp only at j i u f h w c t E;subst t;have B:=E8 (g,l,dg,e,0,m,d,k0,k1,k2);have b:exD dg m d 0=true:=s;obtain ⟨_,_,A⟩:=tG hc;have r:coT (g,l,dg,e,0,m,d,k0,k1,k2)=bD m d:=rfl;unfold jZ;by_cases F:n<3
 ·rw [aq (show (n:Int)<3 by omega),ah];by_cases D:n<2
  ·rw [aq (show (n:Int)<2 by omega),ah];have p:n=1:=by omega
   subst p;have a:=KH c;exact ⟨_,rfl,⟨by simp,i,by simp,f,by simp,by simp⟩,mL.2 ⟨zX a,(MM b).2,by show ¬0<sea [];decide⟩,rfl⟩
  ·rw [ar (show ¬(n:Int)<2 by omega),af];have p:n=2:=by omega
   subst p;have z:m≠[]:=by
    rintro rfl;rw [r] at o;unfold bD at o;by_cases v:d=[]
    ·simp [v] at o
    ·exact absurd rfl (A v).1
   have a:=OG c z ⟨f,h⟩;exact ⟨_,rfl,⟨j,i,by simp,f,h,by simp⟩,mL.2 ⟨zX a,(MM b).1,k⟩,by show bD m []=2;unfold bD;simp [z]⟩
 ·rw [ar (show ¬(n:Int)<3 by omega),af,ar (show ¬(n:Int)<2 by omega),af];exact ⟨_,rfl,⟨j,i,u,f,h,w⟩,hp,by omega⟩
theorem Og {p:TD} {all:Bool} (hp:plT p=true):itE p false d0 all=0:=by
 obtain ⟨hc,a,_⟩:=mL.1 hp;rw [OU hc,a];have:eqD d0 d0=true:=jn.2 rfl;rw [this];simp
theorem DJ {x y:TD} {all:Bool} (hx:plT x=true) (hy:plT y=true) (hc:coT x=coT y) (c:(dyT x).1<=(dyT y).1):itE x true y all=0:=by
 obtain ⟨b,d,_⟩:=mL.1 hx;obtain ⟨a,e,_⟩:=mL.1 hy;rw [WW b a,d];have:ordB x y=true:=by unfold ordB;rw [hx,hy,aq hc,aq c];rfl
 rw [this];simp
theorem Yb {a0 a2 k m l A z t q:Int} (g:Bool) {b0 b2 w D B o C j s:Int} (f:Bool) (R:Int) (all:Bool) (d:wfD a0 a2 k m l A z t q) (H:wfD b0 b2 w D B o C j s):
  ∃x r y,hO 20000000 a0 g a2 k m l A z t q R b0 f b2 w D B o C j s all=some (x,r,y)/\smT x/\smT y/\itE x r y all=0:=by
 unfold hO;cases (Int.tmod R 2==1)
 ·rw [af];cases all
  ·obtain ⟨x,e,hs,hc⟩:=DofI g d;refine ⟨x,false,d0,by rw [af,e];rfl,hs,ri,?_⟩;have:eqD d0 d0=true:=jn.2 rfl;rw [OU hc,this];simp
  ·obtain ⟨x,e,hs,hc,E,_⟩:=ExI g d;refine ⟨x,false,d0,by rw [ah,e];rfl,hs,ri,?_⟩;have:eqD d0 d0=true:=jn.2 rfl;rw [OU hc,this,E];simp
 ·rw [ah];obtain ⟨x,ex,sx,M⟩:=Ic g d;obtain ⟨y,J,I,F⟩:=Ic f H;rw [ex,J];simp only [ob,rcoT];have K:(cond (decide (((coT y:Nat):Int)<((coT x:Nat):Int))) ((coT y:Nat):Int) ((coT x:Nat):Int))=((min (coT x) (coT y):Nat):Int):=by
   by_cases h:coT y<coT x
   ·rw [aq (by omega),ah];omega
   ·rw [ar (by omega),af];omega
  rw [K];have T:=E8 x;have V:=E8 y;obtain ⟨u,O,a,c,U⟩:=cutI sx M (n:=min (coT x) (coT y)) (by omega) (by omega);obtain ⟨v,L,b,i,S⟩:=cutI I F (n:=min (coT x) (coT y)) (by omega) (by omega);obtain ⟨Q,P,_⟩:=mL.1 c;obtain ⟨N,G,_⟩:=mL.1 i;rw [O,L];simp only [rdT a Q P,rdT b N G,u2];by_cases p:(dyT u).1>(dyT v).1
  ·rw [aq p];exact ⟨v,true,u,rfl,b,a,DJ i c (by omega) (by omega)⟩
  ·rw [ar p];exact ⟨u,true,v,rfl,a,b,DJ c i (by omega) (by omega)⟩
def wfR (r:TR):Prop:=wfD r.1 r.2.2.1 r.2.2.2.1 (d4 r).1 (d4 r).2.1 (d4 r).2.2.1 (d4 r).2.2.2.1 (d8 r).1 (d8 r).2.1/\
 wfD (d8 r).2.2.2.1 (d4 (d8 r)).2.1 (d4 (d8 r)).2.2.1 (d4 (d8 r)).2.2.2.1 (d16 r).1 (d16 r).2.1 (d16 r).2.2.1 (d16 r).2.2.2.1 (d4 (d16 r))
theorem zD {A:Type} {f:Nat->A->Int}:∀{L:List A} {k:Nat},(∀i t,L[i]?=some t->f (k+i) t=0)->oQ f k L=none
 | [],_,_=>rfl
 | t::r,k,h=>by
  have a:=h 0 t rfl;rw [cH] at a;rw [oQ,ab (λh=>h a)];exact zD λi u b=>by rw [gq,oG 1 i];exact h (i+1) u b
structure RightE (k:Int) (D:TD) (KF:Int) (DF:TD) (KT:Int) (DT:TD) (e l:Bool) (I:List TI):Prop where
 sm:smE D DF DT I
 first:pG k D KF DF KT DT e l I=(0,0)
 len:I.length<=5
 kind:1<=k/\k<=4
 its:∀t∈I,itI t (k==4)=0
theorem Kt {k:Int} (q:k=3\/k=4) {e l:Bool} {I:List TI} (s:1<=I.length) (n:I.length<=5) (hs:∀t∈I,smI t/\itI t (k==4)=0) (j:e=true->∃t,I[0]?=some t/\endB t=true)
  (r:l=true->∃t,I[I.length - 1]?=some t/\endB t=true) (g:e=true->l=true->I.length≠1):RightE k d0 0 d0 0 d0 e l I:=by
 refine ⟨⟨ri,ri,ri,λt d=>(hs t d).1⟩,?_,n,by omega,λt d=>(hs t d).2⟩;have m:unuB k d0 0 d0 0 d0 e l I.length=false:=by
  have p:eqD d0 d0=true:=jn.2 rfl;unfold unuB;rw [p];rcases q with rfl | rfl<;>rfl
 unfold pG;rw [ab (by omega),ab (by rw [m];simp),ab (by omega),ab (by omega),ab (by omega),ab (by omega)];unfold xK;rw [zD λi t d=>?_];rw [cX];have o:i<I.length:=(rf.1 d).1;unfold errI;rw [(hs t (eW d)).2,ab (λh=>h rfl),ab];intro h;simp only [gX,aD,cr,jP] at h;rcases h with ⟨⟨a,b⟩,c⟩ | ⟨⟨a,b⟩,c⟩ | ⟨a,b,c⟩
 ·obtain ⟨u,f,u2⟩:=j a;subst b;rw [d] at f;cases f;rw [u2] at c;cases c
 ·obtain ⟨u,f,u2⟩:=r a;rw [show I.length - 1=i by omega,d] at f;cases f;rw [u2] at c;cases c
 ·exact g a b c
theorem An {p:TD} {all:Bool} (hs:smT p) (hp:plT p=true):smI (mkI p false d0)/\itI (mkI p false d0) all=0/\endB (mkI p false d0)=true:=
 ⟨⟨hs,ri⟩,Og hp,by unfold endB;show (!false&&plT p)=true;rw [hp];rfl⟩
theorem RB (n x0:Nat) (s:Int) (k:Bool) (l:Int) (m:TD) (v:Int) (u:TD) (q:Int) (o:TD) (t d:Bool) {L:List TR} (c:Int) (h:TD) (g:Int) (b:TD) (x16:Int) (j:TD) (e f:Bool) (a I:List TI)
  {r:TR} {p:TD} (z:0<x0) (x:L[0]?=some r) (w:0<I.length) (hp:cj n r.1 r.2.1 r.2.2.1 r.2.2.2.1 (d4 r).1 (d4 r).2.1 (d4 r).2.2.1 (d4 r).2.2.2.1 (d8 r).1 (d8 r).2.1=some p):
  iv n x0 s k l m v u q o t d L c h g b x16 j e f a I=some (x0,s,l,m,v,u,q,o,t,d,L,c,h,g,b,x16,j,e,f,a,if k=true then I.set 0 (mkI p false d0) else I)/\
  gN n x0 s k L l m v u q o t d c h g b x16 j e f a I=some (x0,s,L,l,m,v,u,q,o,t,d,c,h,g,b,x16,j,e,f,a,if k=true then I.set 0 (mkI p false d0) else I):=by
 unfold iv gN;cases k
 ·exact ⟨rfl,rfl⟩
 ·have A:ix x0 (0:Int)=some 0:=dD (i:=0) z;have y:ix I.length (0:Int)=some 0:=dD (i:=0) w;simp only [ah,A,y,x,hp,ob,aW w,aM];constructor<;>trivial
theorem RR (n x0 m:Nat) (j:Bool) (k:Int) (l:TD) (u:Int) (t:TD) (q:Int) (o:TD) (s d:Bool) {L:List TR} (c:Int) (h:TD) (g:Int) (b:TD) (x16:Int) (i:TD) (e f:Bool) (a I:List TI)
  {r:TR} {p:TD} (x:m<x0) (w:L[m]?=some r) (v:m<I.length) (hp:cj n r.1 r.2.1 r.2.2.1 r.2.2.2.1 (d4 r).1 (d4 r).2.1 (d4 r).2.2.1 (d4 r).2.2.2.1 (d8 r).1 (d8 r).2.1=some p):
  iu n x0 (m:Int) j k l u t q o s d L c h g b x16 i e f a I=some ((m:Int),k,l,u,t,q,o,s,d,c,h,g,b,x16,i,e,f,a,if j=true then I.set m (mkI p false d0) else I)/\
  gM n x0 (m:Int) j L k l u t q o s d c h g b x16 i e f a I=some ((m:Int),k,l,u,t,q,o,s,d,c,h,g,b,x16,i,e,f,a,if j=true then I.set m (mkI p false d0) else I):=by
 unfold iu gM;cases j
 ·exact ⟨rfl,rfl⟩
 ·simp only [ah,dD x,dD v,w,hp,ob,aW v,aM];constructor<;>trivial
theorem HU {L:List TR} (G:∀r∈L,wfR r) {n:Nat} (J:n<=L.length) (K:n<=5) (k:Int) (e l:Bool) (a:List TI):
  ∃I:List TI,I.length=n/\(∀t∈I,smI t/\itI t (k==4)=0)/\
   av (db 20000000) 20000000 (n,0,L,k,e,l,a,([]:List TI))=some (n,0,d0,0,d0,0,d0,false,false,L,k,d0,0,d0,0,d0,e,l,a,I)/\
   av (cL 20000000) 20000000 (n,0,L,k,e,l,a,([]:List TI))=some (n,L,0,d0,0,d0,0,d0,false,false,k,d0,0,d0,0,d0,e,l,a,I):=by
 have o:∀i (r:TR) (acc:List TI),i<n->L[i]?=some r->acc.length=i->∃b:TI,(smI b/\itI b (k==4)=0)/\
   db 20000000 (n,(i:Int),L,k,e,l,a,acc)=some (.inl (n,((i+1:Nat):Int),L,k,e,l,a,acc++[b]))/\
   cL 20000000 (n,(i:Int),L,k,e,l,a,acc)=some (.inl (n,((i+1:Nat):Int),L,k,e,l,a,acc++[b])):=by
  intro i r acc hi p g;obtain ⟨v,H⟩:=G r (eW p);obtain ⟨x,f,y,q,sx,B,s⟩:=Yb r.2.1 (d4 (d8 r)).1 (d8 r).2.2.1 (k==4) v H;refine ⟨mkI x f y,⟨⟨sx,B⟩,s⟩,?_,?_⟩
  ·unfold db;simp only [u8,u7,u6,u5,u4,u3,u2];rw [aq (show (i:Int)<((n:Nat):Int) by omega),dD hi];simp only [ah,ob,p,q];rw [nW (by omega),show Nat.ble (acc.length+1) de=true from dm (by unfold de;omega)];rfl
  ·unfold cL;simp only [u8,u7,u6,u5,u4,u3,u2];rw [aq (show (i:Int)<((n:Nat):Int) by omega),dD hi];simp only [ah,ob,p,q];rw [nW (by omega),show Nat.ble (acc.length+1) de=true from dm (by unfold de;omega)];rfl
 have d:∀acc:List TI,db 20000000 (n,(n:Int),L,k,e,l,a,acc)=some (.inr (n,0,d0,0,d0,0,d0,false,false,L,k,d0,0,d0,0,d0,e,l,a,acc)):=λacc=>by
  unfold db;simp only [u8,u7,u6,u5,u4,u3,u2];rw [ar (show ¬((n:Nat):Int)<((n:Nat):Int) by omega)];rfl
 have c:∀acc:List TI,cL 20000000 (n,(n:Int),L,k,e,l,a,acc)=some (.inr (n,L,0,d0,0,d0,0,d0,false,false,k,d0,0,d0,0,d0,e,l,a,acc)):=λacc=>by
  unfold cL;simp only [u8,u7,u6,u5,u4,u3,u2];rw [ar (show ¬((n:Nat):Int)<((n:Nat):Int) by omega)];rfl
 have j:∀(r i:Nat) (acc:List TI),i+r=n->acc.length=i->(∀t∈acc,smI t/\itI t (k==4)=0)->∀N,r<N->∃I:List TI,I.length=n/\(∀t∈I,smI t/\itI t (k==4)=0)/\
   av (db 20000000) N (n,(i:Int),L,k,e,l,a,acc)=some (n,0,d0,0,d0,0,d0,false,false,L,k,d0,0,d0,0,d0,e,l,a,I)/\
   av (cL 20000000) N (n,(i:Int),L,k,e,l,a,acc)=some (n,L,0,d0,0,d0,0,d0,false,false,k,d0,0,d0,0,d0,e,l,a,I):=by
  intro r
  induction r with
  | zero=>
   intro i acc hi g m N E;obtain ⟨N,rfl⟩:∃k,N=k+1:=⟨N - 1,by omega⟩;obtain rfl:i=n:=by omega
   exact ⟨acc,g,m,by rw [av,d],by rw [av,c]⟩
  | succ r ih=>
   intro i acc hi g m N E;obtain ⟨N,rfl⟩:∃k,N=k+1:=⟨N - 1,by omega⟩;obtain ⟨b,u,z,F⟩:=o i _ acc (by omega) (aW (show i<L.length by omega)) g
   obtain ⟨I,o1,C,D,A⟩:=ih (i+1) (acc++[b]) (by omega) (by simp [g]) (λx hx=>by
    rcases lk.1 hx with h | h
    ·exact m x h
    ·rw [lG.1 h];exact u) N (by omega)
   exact ⟨I,o1,C,by rw [av,z];exact D,by rw [av,F];exact A⟩
 exact j n 0 [] (by omega) rfl (λt w=>by cases w) 20000000 (by omega)
theorem Vn (n x0:Nat) (a:Int) (b:Bool) (P:List TR) (e g d c:Int) (L:List TR) (f:List TI):
  jg n x0 a b P e g d c L f=some (x0,a,b||(a==1||a==2),P,e,g,d,c,L,f)/\
  iC n x0 a b P e g d c f=some (x0,a,b||(a==1||a==2),P,e,g,d,c,f):=by
 unfold jg iC kv jT;cases b<;>cases (a==1)<;>exact ⟨rfl,rfl⟩
theorem Rw (n x0:Nat) (d:Int) (a:Bool) (P:List TR) (e g c b:Int) (L:List TR) (f:List TI):
  iM n x0 d a P e g c b L f=some (x0,a||d==4,P,e,g,c,b,L,f)/\
  gS n x0 d a P e g c b f=some (x0,a||d==4,P,e,g,c,b,f):=by
 unfold iM gS;cases a<;>exact ⟨rfl,rfl⟩
theorem Rm (n x0:Nat) (b:Bool) (L:List TR) (e l:Bool) (c a:List TI):
  iz n x0 b L e l c a=some (x0,L,(if b then 4 else 3),e,l,c,a)/\gJ n x0 b L e l c a=some (x0,L,(if b then 4 else 3),e,l,c,a):=by
 unfold iz gJ;cases b<;>exact ⟨rfl,rfl⟩
theorem Rr (n:Nat) (x0 m:Int) (o:TD) (i:Int) (p:TD) (l:Int) (k:TD) (j q:Bool) (r:Int) (h:TD) (e:Int) (f:TD) (d:Int) (g:TD) (a x16:Bool) (b c:List TI):
  fR n x0 m o i p l k j q r h e f d g a x16 b c=some ((x0==0)&&a,m,o,i,p,l,k,j,q,r,h,e,f,d,g,a,x16,b,c):=by
 unfold fR;cases (x0==0)<;>rfl
theorem R9 (n:Nat) (x0:Bool) (m:Int) (o:TD) (i:Int) (p:TD) (l:Int) (k:TD) (j q:Bool) (r:Int) (h:TD) (e:Int) (f:TD) (c:Int) (g:TD) (d x16:Bool) (a b:List TI):
  fM n x0 m o i p l k j q r h e f c g d x16 a b=some (m,o,i,p,l,k,j,q,r,h,e,f,c,g,d,!x0&&x16,a,b):=by
 unfold fM;cases x0<;>rfl
theorem vM {x:TD} (hs:smT x) (hc:cF x=0):RightE 1 x 0 d0 0 d0 false false []:=by
 refine ⟨⟨hs,ri,ri,λt a=>by cases a⟩,?_,by simp,by omega,by simp⟩;have b:eqD d0 d0=true:=jn.2 rfl;have c:unuB 1 x 0 d0 0 d0 false false ([]:List TI).length=false:=by unfold unuB;rw [b];rfl
 unfold pG;rw [ab (by omega),ab (by rw [c];simp),ae rfl,hc]
theorem sV {KF KT:Int} {x y:TD} (hx:smT x) (hy:smT y) (h:nH KF x KT y=0):RightE 2 d0 KF x KT y false false []:=by
 refine ⟨⟨ri,hx,hy,λt a=>by cases a⟩,?_,by simp,by omega,by simp⟩;have b:eqD d0 d0=true:=jn.2 rfl;have c:unuB 2 d0 KF x KT y false false ([]:List TI).length=false:=by unfold unuB;rw [b];rfl
 unfold pG;rw [ab (by omega),ab (by rw [c];simp),ab (by omega),ae rfl,h]
theorem F7 (x:TD):sH 1 x=if cF x=0 then if exT x=true then 0 else 11 else cF x:=by
 unfold sH chkB;rw [ae rfl];rfl
theorem tQ {x:TD} (h:sH 1 x=0):cF x=0/\exT x=true:=by
 rw [F7] at h;by_cases hc:cF x=0
 ·rw [ae hc] at h;by_cases a:exT x=true
  ·exact ⟨hc,a⟩
  ·rw [ab a] at h;cases h
 ·rw [ab hc] at h;exact absurd h hc
theorem PG {x:TD} (hc:cF x=0) (a:exT x=true):sH 1 x=0:=by
 rw [F7,ae hc,ae a]
theorem CB {KF KT:Int} {x y:TD} (b:sH KF x=0) (a:sH KT y=0):nH KF x KT y=if KF≠1/\KT≠1 then 11 else if KF≠1\/KT≠1 then 0 else if (dyT x).1>(dyT y).2 then 11 else 0:=by
 unfold nH GG;rw [b,a,ab (λh=>h rfl),ab (λh=>h rfl)]
theorem Sj {n x0:Nat} {L:List TR} {r:TR} (B:0<x0) (w:L[0]?=some r) (u:n=20000000) (s:wfR r) {KF KT:Int} {x y:TD} (sx:smT x) (l:smT y) (c:sH KF x=0) (g:sH KT y=0) (X:List TI):
  ∃b f a d,iK n x0 (nH KF x KT y != 0) L KF x KT y X=some (b,f,a,d,X)/\gQ n x0 (nH KF x KT y != 0) L KF x KT y X=some (b,f,a,d,X)/\
   smT f/\smT d/\nH b f a d=0:=by
 subst u;unfold iK gQ;by_cases hp:nH KF x KT y=0
 ·rw [show (nH KF x KT y != 0)=false from by simp [hp]];exact ⟨KF,x,KT,y,rfl,rfl,sx,l,hp⟩
 ·rw [show (nH KF x KT y != 0)=true from by simp [hp],ah,ah];unfold ks jS;by_cases j:KF=1
  ·subst j;have k:KT=1:=by
    rw [CB c g] at hp;by_cases h:KT=1
    ·exact h
    ·rw [ab (by simp),ae (.inr h)] at hp;exact absurd rfl hp
   subst k;obtain ⟨p,t⟩:=tQ c;obtain ⟨D,A⟩:=tQ g;have F:=RG p t;have E:=RG D A;have o:(dyT x).1>(dyT y).2:=by
    rw [CB c g,ab (by simp),ab (by simp)] at hp;by_cases h:(dyT x).1>(dyT y).2
    ·exact h
    ·rw [ab h] at hp;exact absurd rfl hp
   refine ⟨1,y,1,x,rfl,rfl,l,sx,?_⟩;rw [CB g c,ab (by simp),ab (by simp),ab (by omega)]
  ·obtain ⟨z,e,q,v,m,_⟩:=ExI (d4 (d8 r)).1 s.2;have e':bJ 20000000 (d8 r).2.2.2.1 (d4 (d8 r)).1 (d4 (d8 r)).2.1 (d4 (d8 r)).2.2.1 (d4 (d8 r)).2.2.2.1 (d16 r).1 (d16 r).2.1 (d16 r).2.2.1 (d16 r).2.2.2.1 (d4 (d16 r))=some z:=e;have C:ix x0 (0:Int)=some 0:=dD (i:=0) B;rw [show (KF != 1)=true from by simp [j],ah,C];simp only [ob,w,e',u5,u4,u3,u2];refine ⟨KF,x,1,z,rfl,rfl,sx,q,?_⟩;rw [CB c (PG v m),ab (by simp),ae (.inl j)]
theorem Oq {L:List TR} (K:∀r∈L,wfR r) {n:Nat} (G:1<=n) (H:n<=L.length) (J:n<=5) {k:Int} (D:k=3\/k=4) (e l:Bool) {I:List TI} (y:I.length=n) (hit:∀t∈I,smI t/\itI t (k==4)=0)
  {p q:TD} (s:smT p) (v:plT p=true) (z:smT q) (B:plT q=true):
  RightE k d0 0 d0 0 d0 e (!(decide (n=1)&&e)&&l) (if l=true then (if e=true then I.set 0 (mkI p false d0) else I).set (n - 1) (mkI q false d0) else if e=true then I.set 0 (mkI p false d0) else I):=by
 obtain ⟨u,F,m⟩:=An (all:=(k==4)) s v;obtain ⟨w,x,o⟩:=An (all:=(k==4)) z B;have j:∀t∈(if e=true then I.set 0 (mkI p false d0) else I),smI t/\itI t (k==4)=0:=by
  intro t c;split at c
  ·rcases List.mem_or_eq_of_mem_set c with h | h
   ·exact hit t h
   ·rw [h];exact ⟨u,F⟩
  ·exact hit t c
 have d:(if e=true then I.set 0 (mkI p false d0) else I).length=n:=by split<;>simp [y]
 have b:e=true->(if e=true then I.set 0 (mkI p false d0) else I)[0]?=some (mkI p false d0):=by
  intro h;rw [ae h,List.getElem?_set_self (by omega)]
 generalize E:(if e=true then I.set 0 (mkI p false d0) else I)=A at j d b;have g:(if l=true then A.set (n - 1) (mkI q false d0) else A).length=n:=by split<;>simp [d]
 have C:∀t∈(if l=true then A.set (n - 1) (mkI q false d0) else A),smI t/\itI t (k==4)=0:=by
  intro t c;split at c
  ·rcases List.mem_or_eq_of_mem_set c with h | h
   ·exact j t h
   ·rw [h];exact ⟨w,x⟩
  ·exact j t c
 refine Kt D (by omega) (by omega) C (λf=>?_) (λa=>?_) (λf a=>?_)
 ·by_cases a:l=true
  ·rw [ae a];by_cases i:n=1
   ·subst i;exact ⟨mkI q false d0,by rw [List.getElem?_set_self (by omega)],o⟩
   ·exact ⟨mkI p false d0,by rw [List.getElem?_set_ne (by omega)];exact b f,m⟩
  ·rw [ab a];exact ⟨_,b f,m⟩
 ·simp only [aD] at a;rw [ae a.2,FV,d];exact ⟨mkI q false d0,by rw [List.getElem?_set_self (by omega)],o⟩
 ·rw [f] at a;simp only [DU,aD,jP,ta] at a;rw [g];exact a.1
theorem Vg:wfR ((0,false,0,0,0,0,0,0,0,0,0,0,false,0,0,0,0,0,0,0,0):TR):=by
 have z:natI 0 256:=⟨by omega,by omega⟩;have z2:natI 0 65536:=⟨by omega,by omega⟩;exact ⟨⟨z,z2,z,z,z,z,z,z,z⟩,⟨z,z2,z,z,z,z,z,z,z⟩⟩
theorem min5 (m:Nat):cond (decide ((5:Int)<((m:Nat):Int))) 5 ((m:Nat):Int)=((min 5 m:Nat):Int):=by
 by_cases h:5<m
 ·rw [aq (by omega),ah];omega
 ·rw [ar (by omega),af];omega
theorem Wm (k:Nat):((((k%8:Nat):Int)==0)||((((k%8:Nat):Int)==1)||(((k%8:Nat):Int)==2)))=decide (k%8<3)/\((((k%8:Nat):Int)==3)||(((k%8:Nat):Int)==4))=decide (k%8=3\/k%8=4):=by
 have h:k%8<8:=rB _ (by omega);generalize k%8=j at *;rcases (by omega:j=0\/j=1\/j=2\/j=3\/j=4\/j=5\/j=6\/j=7) with rfl | rfl | rfl | rfl | rfl | rfl | rfl | rfl<;>decide
theorem E_of {K G J B:Int} (hK:natI K 256) (h0:natI G 256) (h1:natI J 256) (hB:natI B 256) {L:List TR} (hL:∀r∈L,wfR r):
  ∃k D KF DF KT DT e l I,lu 20000000 K G J B L=some (k,D,KF,DF,KT,DT,e,l,I)/\RightE k D KF DF KT DT e l I:=by
 obtain ⟨K,rfl,bK⟩:=hK.nat;have H:Int.tmod (K:Int) 8=((K%8:Nat):Int):=rfl;obtain ⟨k1,k2⟩:=Wm K;unfold lu kM;rw [show (len L==0)=decide (L.length=0) from Nr _];generalize t:(if L=[] then [(0,false,0,0,0,0,0,0,0,0,0,0,false,0,0,0,0,0,0,0,0)] else L:List TR)=M;have d:∀r∈M,wfR r:=by
  intro r c;rw [<-t] at c;split at c
  ·rw [lG.1 c];exact Vg
  ·exact hL r c
 have hMl:1<=M.length:=by
  rw [<-t];split
  ·simp
  ·rename_i h;exact List.length_pos_iff.2 h
 have z:min 5 M.length<=M.length:=Fo _ _;have F:1<=min 5 M.length:=by omega
 have f:min 5 M.length<=5:=Nat.min_le_left _ _;obtain ⟨r,c⟩:∃r,M[0]?=some r:=⟨M[0],aW (by omega)⟩;obtain ⟨Z,o⟩:∃r,M[min 5 M.length - 1]?=some r:=⟨M[min 5 M.length - 1],aW (by omega)⟩;have s:=d r (eW c);have hw':=d Z (eW o);obtain ⟨x,ex,sx,cx⟩:=DofI r.2.1 s.1;obtain ⟨KF,V,C,m,u,_⟩:=BofI r.2.1 h0 s.1;obtain ⟨KT,bt,E,g,y,_⟩:=BofI (d4 (d8 r)).1 h1 s.2;obtain ⟨p,Y,W,X⟩:=Ic r.2.1 s.1;obtain ⟨q,eq,sq,pq⟩:=Ic Z.2.1 hw'.1;have N:ix (min 5 M.length) (0:Int)=some 0:=dD (i:=0) (by omega);have A:bx M.length (cond (decide ((5:Int)<len M)) 5 (len M))=some (min 5 M.length):=by
  rw [show (cond (decide ((5:Int)<len M)) 5 (len M))=((min 5 M.length:Nat):Int) from min5 _,cQ z]
 have a:w64 (((min 5 M.length:Nat):Int) - 1)=((min 5 M.length - 1:Nat):Int):=F5 (by omega) (by omega);have v:(((min 5 M.length - 1:Nat):Int)==0)=decide (min 5 M.length=1):=by
  rw [Nr];congr 1;exact propext (by omega)
 by_cases b:L=[]
 ·rw [ae b] at t;subst b;rw [show decide (([]:List TR).length=0)=true from rfl,ah];simp only [obs,sm,ob,u7,u6,u5,u4,u3,u2,t,A,H,(Vn _ _ _ _ _ _ _ _ _ _ _).1,u10,u9,u8,k1];by_cases hs:K%8<3
  ·rw [aq hs];simp only [ah,N,c,ex];exact ⟨_,_,_,_,_,_,_,_,_,rfl,vM sx cx⟩
  rw [ar hs];simp only [af,(Rw _ _ _ _ _ _ _ _ _ _ _).1,u9,u8,u7,u6,u5,u4,u3,u2,k2];by_cases w:K%8=3\/K%8=4
  ·rw [aq w];have ebf':ck 20000000 G r.1 r.2.1 r.2.2.1 r.2.2.2.1 (d4 r).1 (d4 r).2.1 (d4 r).2.2.1 (d4 r).2.2.2.1 (d8 r).1 (d8 r).2.1=some (KF,V):=C;have ebt':ck 20000000 J (d8 r).2.2.2.1 (d4 (d8 r)).1 (d4 (d8 r)).2.1 (d4 (d8 r)).2.2.1 (d4 (d8 r)).2.2.2.1 (d16 r).1 (d16 r).2.1 (d16 r).2.2.1 (d16 r).2.2.2.1 (d4 (d16 r))=some (KT,bt):=E;obtain ⟨U,x',O,y',j1,_,P,T,hp⟩:=Sj (n:=20000000) (x0:=min 5 M.length) (by omega) c rfl s m g u y ([]:List TI);simp only [ah,N,c,ebf',ebt',Ky m g,j1,u5,u4,u3,u2];exact ⟨_,_,_,_,_,_,_,_,_,rfl,sV P T hp⟩
  rw [ar w];generalize (Int.tmod B 2==1)=e;generalize (Int.tmod (w8 (Int.tdiv B 2)) 2==1)=l;rw [H];generalize (((K%8:Nat):Int)==7)=j;obtain ⟨I,o1,Q,R,_⟩:=HU d z f (if j=true then 4 else 3) e l [];have S:(if j=true then (4:Int) else 3)=3\/(if j=true then (4:Int) else 3)=4:=by cases j<;>simp
  simp only [af,(Rm _ _ _ _ _ _ _ _).1,R,a,u7,u6,u5,u4,u3,u2];simp only [u20,u19,u18,u17,u16,u15,u14,u13,u12,u11,u10,u9,u8,u7,u6,u5,u4,u3,u2];rw [(RB 20000000 _ _ _ _ _ _ _ _ _ _ _ _ _ _ _ _ _ _ _ _ _ (by omega) c (by omega) Y).1];simp only [u21,u20,u19,u18,u17,u16,u15,u14,u13,u12,u11,u10,u9,u8,u7,u6,u5,u4,u3,u2];rw [a,(RR 20000000 (min 5 M.length) (min 5 M.length - 1) _ _ _ _ _ _ _ _ _ _ _ _ _ _ _ _ _ _ _ (by omega) o (by split<;>simp [o1]<;>omega) eq).1];simp only [u21,u20,u19,u18,u17,u16,u15,u14,u13,u12,u11,u10,u9,u8,u7,u6,u5,u4,u3,u2,Rr,R9,v];exact ⟨_,_,_,_,_,_,_,_,_,rfl,Oq d F z f S e l o1 Q W X sq pq⟩
 ·rw [ab b] at t;subst t;rw [ar (show ¬L.length=0 from λh=>b (s8 h)),af];simp only [obs,sm,ob,u7,u6,u5,u4,u3,u2,A,H,(Vn _ _ _ _ _ _ _ _ _ [] _).2,u10,u9,u8,k1];by_cases hs:K%8<3
  ·rw [aq hs];simp only [ah,N,c,ex];exact ⟨_,_,_,_,_,_,_,_,_,rfl,vM sx cx⟩
  rw [ar hs];simp only [af,(Rw _ _ _ _ _ _ _ _ _ [] _).2,u9,u8,u7,u6,u5,u4,u3,u2,k2];by_cases w:K%8=3\/K%8=4
  ·rw [aq w];have ebf':ck 20000000 G r.1 r.2.1 r.2.2.1 r.2.2.2.1 (d4 r).1 (d4 r).2.1 (d4 r).2.2.1 (d4 r).2.2.2.1 (d8 r).1 (d8 r).2.1=some (KF,V):=C;have ebt':ck 20000000 J (d8 r).2.2.2.1 (d4 (d8 r)).1 (d4 (d8 r)).2.1 (d4 (d8 r)).2.2.1 (d4 (d8 r)).2.2.2.1 (d16 r).1 (d16 r).2.1 (d16 r).2.2.1 (d16 r).2.2.2.1 (d4 (d16 r))=some (KT,bt):=E;obtain ⟨U,x',O,y',_,j1,P,T,hp⟩:=Sj (n:=20000000) (x0:=min 5 L.length) (by omega) c rfl s m g u y ([]:List TI);simp only [ah,N,c,ebf',ebt',Ky m g,j1,u5,u4,u3,u2];exact ⟨_,_,_,_,_,_,_,_,_,rfl,sV P T hp⟩
  rw [ar w];generalize (Int.tmod B 2==1)=e;generalize (Int.tmod (w8 (Int.tdiv B 2)) 2==1)=l;rw [H];generalize (((K%8:Nat):Int)==7)=j;obtain ⟨I,o1,Q,_,R⟩:=HU d z f (if j=true then 4 else 3) e l [];have S:(if j=true then (4:Int) else 3)=3\/(if j=true then (4:Int) else 3)=4:=by cases j<;>simp
  simp only [af,(Rm _ _ _ _ _ _ _ _).2,R,a,u7,u6,u5,u4,u3,u2];simp only [u20,u19,u18,u17,u16,u15,u14,u13,u12,u11,u10,u9,u8,u7,u6,u5,u4,u3,u2];rw [(RB 20000000 _ _ _ _ _ _ _ _ _ _ _ _ _ _ _ _ _ _ _ _ _ (by omega) c (by omega) Y).2];simp only [u21,u20,u19,u18,u17,u16,u15,u14,u13,u12,u11,u10,u9,u8,u7,u6,u5,u4,u3,u2];rw [a,(RR 20000000 (min 5 L.length) (min 5 L.length - 1) _ _ _ _ _ _ _ _ _ _ _ _ _ _ _ _ _ _ _ (by omega) o (by split<;>simp [o1]<;>omega) eq).2];simp only [u21,u20,u19,u18,u17,u16,u15,u14,u13,u12,u11,u10,u9,u8,u7,u6,u5,u4,u3,u2,Rr,R9,v];exact ⟨_,_,_,_,_,_,_,_,_,rfl,Oq d F z f S e l o1 Q W X sq pq⟩
noncomputable instance decTI:DecidableEq TI:=λa b=>Classical.propDecidable (a=b)
theorem K4 {t u:TI}:((eqD (iF t) (iF u))&&(((d8 t).2.2.1==(d8 u).2.2.1)&&((eqD (d8 t).2.2.2 (d8 u).2.2.2)&&true)))=decide (t=u):=by
 rw [sI,decide_eq_true_iff];have hs:∀a b c:Bool,(a&&(b&&(c&&true)))=true↔a=true/\b=true/\c=true:=by decide
 rw [hs,jn,jn,bp];obtain ⟨a1,a2,q,h,w,v,r,o,j,e,b,c⟩:=t;obtain ⟨y,l,x,i,p,m,k,n,s,d,f,g⟩:=u;simp only [bG,and_assoc]
noncomputable def difI (J:List TI) (i:Nat) (t:TI):Int:=if J[i]?=some t then 0 else 1
theorem L9 {J:List TI}:∀(I:List TI) (i:Nat),i+I.length=J.length->(oQ (difI J) i I=none↔I=J.drop i)
 | [],i,h=>by
  rw [oQ,jk (by simp at h;omega)];simp
 | t::r,i,h=>by
  have hi:i<J.length:=by simp at h;omega
  have b:J[i]?=some J[i]:=aW hi;rw [oQ,pE hi];unfold difI;by_cases a:J[i]?=some t
  ·rw [ae a,ab (by simp)];have:=L9 (J:=J) r (i+1) (by simp at h;omega);unfold difI at this;rw [this];rw [b] at a;simp only [aw] at a;simp [a]
  ·rw [ab a,ae (by simp)];rw [b] at a;simp only [aw] at a;simp only [D1];constructor
   ·intro h;cases h
   ·rintro ⟨h,_⟩;exact absurd h.symm a
theorem Px (I J:List TI) (h:I.length=J.length) {A:Type} (a b:A):(match oQ (difI J) 0 I with | some _=>a | none=>b)=if I=J then b else a:=by
 have:=L9 (J:=J) I 0 (by omega);rw [cO] at this;cases hs:oQ (difI J) 0 I with
 | none=>rw [ae (this.1 hs)]
 | some p=>rw [ab (λh=>by rw [this.2 h] at hs;cases hs)]
theorem Br {I J:List TI} (h:I.length=J.length) (s:I.length<=1000000) (k:Int) (D:TD) (KF:Int) (DF:TD) (KT:Int) (DT:TD) (e l:Bool) (k':Int) (o:TD) (b:Int) (d:TD) (a:Int) (c:TD) (q n:Bool):
  av (cZ 20000000) 20000000 (0,I,J,k,D,KF,DF,KT,DT,e,l,k',o,b,d,a,c,q,n)=some (if I=J then .inr () else .inl 0):=by
 have r:(match oQ (difI J) 0 I with | some p=>(.inl 0:Int⊕Unit) | none=>.inr ())=if I=J then .inr () else .inl 0:=Px I J h _ _
 rw [<-r];have:=Au (step:=cZ 20000000) (st:=λi=>((i:Int),I,J,k,D,KF,DF,KT,DT,e,l,k',o,b,d,a,c,q,n)) (L:=I) (f:=difI J) (yes:=λ_ _=>.inl (0:Int)) (no:=.inr ()) ?_ ?_ I.length 0 (by omega) 20000000 (by omega)
 ·rw [cO] at this;exact this
 ·intro i t m;have hi:i<I.length:=(rf.1 m).1;have j:J[i]?=some (J[i]'(by omega)):=aW (by omega);generalize J[i]'(by omega)=u at j;unfold cZ;simp only [u19,u18,u17,u16,u15,u14,u13,u12,u11,u10,u9,u8,u7,u6,u5,u4,u3,u2];rw [aq (show (i:Int)<len I by show (i:Int)<((I.length:Nat):Int);omega),dD hi,dD (show i<J.length by omega)];simp only [ah,ob,m,j,K4];rw [nW (by omega)];unfold difI;rw [j];by_cases g:t=u
  ·rw [aq g,ab (by simp [g])];rfl
  ·rw [ar g,ae (by simp only [aw];rw [ab (λh=>g h.symm)];simp)];rfl
 ·unfold cZ;simp only [u19,u18,u17,u16,u15,u14,u13,u12,u11,u10,u9,u8,u7,u6,u5,u4,u3,u2];rw [ar (show ¬((I.length:Nat):Int)<len I by show ¬((I.length:Nat):Int)<((I.length:Nat):Int);omega)];rfl
theorem Jf {A B X Y:Type} {step:X->Option (X⊕Y)} {st:Nat->List B->X} {fin:List B->Y} {L:List A} {f:A->List B} {c:Nat} (d:∀t,(f t).length<=2)
  (g:∀i t acc,L[i]?=some t->acc.length<=c+2*i->step (st i acc)=some (.inl (st (i+1) (acc++f t)))) (e:∀acc,step (st L.length acc)=some (.inr (fin acc))):
  ∀(r i:Nat) (acc:List B),i+r=L.length->acc.length<=c+2*i->∀N,r<N->av step N (st i acc)=some (fin (acc++(L.drop i).flatMap f)):=by
 intro r
 induction r with
 | zero=>
  intro i acc hi b N h;obtain ⟨N,rfl⟩:∃k,N=k+1:=⟨N - 1,by omega⟩;rw [av,show i=L.length by omega,e,ue];simp
 | succ r ih=>
  intro i acc hi b N h;obtain ⟨N,rfl⟩:∃k,N=k+1:=⟨N - 1,by omega⟩;have a:i<L.length:=by omega
  rw [av,g i _ acc (aW a) b,pE a,om,<-fE];refine ih (i+1) _ (by omega) ?_ N (by omega);have:=d L[i];rw [bv];omega
def datI (t:TI):List TD:=if rT t=true then [iF t,iT t] else [iF t]
theorem G7 (t:TI):(datI t).length<=2:=by unfold datI;split<;>simp
def datE (k:Int) (D:TD) (KF:Int) (DF:TD) (KT:Int) (DT:TD) (I:List TI):List TD:=
 if k=1 then [D] else if k=2 then (if KF=1 then (if KT=1 then [DF,DT] else [DF]) else if KT=1 then [DT] else []) else if k=3\/k=4 then I.flatMap datI else []
theorem VU {B:Type} {acc:List B} (h:acc.length<=3000000):Nat.ble (acc.length+1) de=true:=dm (by unfold de;omega)
theorem y7 {I:List TI} (d:I.length<=1000000) {k:Int} (D:TD) (KF:Int) (DF:TD) (KT:Int) (DT:TD) (e l:Bool) (h:k=3\/k=4):
  av (aA 20000000) 20000000 (0,I,k,D,KF,DF,KT,DT,e,l,([]:List TD))=some (I.flatMap datI):=by
 have:=Jf (step:=aA 20000000) (st:=λi acc=>((i:Int),I,k,D,KF,DF,KT,DT,e,l,acc)) (fin:=λacc=>acc) (L:=I) (f:=datI) (c:=0) G7 ?_ ?_ I.length 0 [] (by omega) (by simp) 20000000 (by omega)
 ·rw [cO,dW] at this;exact this
 ·intro i t acc b g;have hi:i<I.length:=(rf.1 b).1;unfold aA;simp only [u11,u10,u9,u8,u7,u6,u5,u4,u3,u2];rw [aq (show (i:Int)<len I by show (i:Int)<((I.length:Nat):Int);omega),dD hi];simp only [ah,ob,b,VU (acc:=acc) (by omega),VU (acc:=acc++[iF t]) (by simp;omega)];rw [nW (by omega)];have a:(cond (rT t) (some (.inl (((i+1:Nat):Int),I,k,D,KF,DF,KT,DT,e,l,(acc++[iF t])++[iT t]))) (some (.inl (((i+1:Nat):Int),I,k,D,KF,DF,KT,DT,e,l,acc++[iF t]))):Option ((Int×List TI×Int×TD×Int×TD×Int×TD×Bool×Bool×List TD)⊕(List TD)))=some (.inl (((i+1:Nat):Int),I,k,D,KF,DF,KT,DT,e,l,acc++datI t)):=by
   unfold datI;cases rT t
   ·rfl
   ·rw [ah,fE];rfl
  by_cases k3:k=3
  ·rw [show (k==3)=true from by simp [k3]];exact a
  ·rw [show (k==3)=false from by simp [k3],show (k==4)=true from by simp;omega];exact a
 ·intro acc;unfold aA;simp only [u11,u10,u9,u8,u7,u6,u5,u4,u3,u2];rw [ar (show ¬((I.length:Nat):Int)<len I by show ¬((I.length:Nat):Int)<((I.length:Nat):Int);omega)];rfl
theorem oP {I:List TI} {k:Int} (D:TD) (KF:Int) (DF:TD) (KT:Int) (DT:TD) (e l:Bool) (a:k≠3) (b:k≠4) (acc:List TD):
  av (aA 20000000) 20000000 (0,I,k,D,KF,DF,KT,DT,e,l,acc)=some acc:=by
 have:aA 20000000 (0,I,k,D,KF,DF,KT,DT,e,l,acc)=some (.inr acc):=by
  unfold aA;simp only [u11,u10,u9,u8,u7,u6,u5,u4,u3,u2];rw [show (k==3)=false from by simp [a],show (k==4)=false from by simp [b]];cases decide ((0:Int)<len I)<;>rfl
 rw [show 20000000=19999999+1 from rfl,av,this]
theorem FQ {I:List TI} (d:I.length<=1000000) (k:Int) (D:TD) (KF:Int) (DF:TD) (KT:Int) (DT:TD) (e l:Bool):aS 20000000 k D KF DF KT DT e l I=some (datE k D KF DF KT DT I):=by
 unfold aS datE;by_cases k1:k=1
 ·rw [ae k1,show (k==1)=true from by simp [k1],show (k==2)=false from by simp [k1]];simp only [ah,af,ob,oP D KF DF KT DT e l (by omega:k≠3) (by omega:k≠4)]
 by_cases k2:k=2
 ·rw [ab k1,ae k2,show (k==1)=false from by simp [k1],show (k==2)=true from by simp [k2]];simp only [ah,af,ob,oP D KF DF KT DT e l (by omega:k≠3) (by omega:k≠4)];by_cases c:KF=1
  ·rw [ae c,show (KF==1)=true from by simp [c]];by_cases a:KT=1
   ·rw [ae a,show (KT==1)=true from by simp [a]];rfl
   ·rw [ab a,show (KT==1)=false from by simp [a]];rfl
  ·rw [ab c,show (KF==1)=false from by simp [c]];by_cases a:KT=1
   ·rw [ae a,show (KT==1)=true from by simp [a]];rfl
   ·rw [ab a,show (KT==1)=false from by simp [a]];rfl
 rw [ab k1,ab k2,show (k==1)=false from by simp [k1],show (k==2)=false from by simp [k2]];simp only [af];by_cases b:k=3\/k=4
 ·rw [ae b,y7 d D KF DF KT DT e l b];rfl
 ·rw [ab b,oP D KF DF KT DT e l (by omega) (by omega)];rfl
theorem BI (n:Nat) (t S R:aa) (a:Int) (p:t.length<4611686018427387904) (o:t.length<n):
  av (dX n) n (t,0,R,S,a)=some (((lcp R t:Nat):Int),S,a):=by
 have:=fQ (step:=dX n)
  (λx=>∃j:Nat,j<=t.length/\x=(t,(j:Int),R,S,a)) (λx=>t.length - x.2.1.toNat)
  (λx=>(((x.2.1.toNat+lcp (R.drop x.2.1.toNat) (t.drop x.2.1.toNat):Nat):Int),S,a)) ?_ n (t,0,R,S,a) ⟨0,by omega,rfl⟩ (by simp;omega)
 ·simpa using this
 rintro x ⟨j,q,rfl⟩;simp only [bY,dX,TX];by_cases e:j<t.length/\j<R.length
 ·obtain ⟨h,k⟩:=e;obtain ⟨c,hc⟩:∃c,t[j]?=some c:=⟨t[j],aW h⟩;obtain ⟨d,i⟩:∃d,R[j]?=some d:=⟨R[j],aW k⟩;have f:IntKind.wrap .i64 ((j:Int)+1)=((j+1:Nat):Int):=by rw [wrap_i64 _ (by omega) (by omega)];omega
  have g:(decide ((j:Int)<((min t.length R.length:Nat):Int)))=true:=by simp only [cr];omega
  have b:(decide ((j:Int)<((min R.length t.length:Nat):Int)))=true:=by simp only [cr];omega
  simp only [g,b,ah,eF hc,eF i,ob,nQ,ct hc,ct i,lcp];cases l:d==c with
  | true=>
   refine .inl ⟨_,rfl,⟨j+1,by omega,by rw [f]⟩,?_,?_⟩
   ·simp only [f,bY];omega
   ·simp only [f,bY,bG,tH,aM];omega
  | false=>exact .inr (by simp)
 ·have g:(decide ((j:Int)<((min t.length R.length:Nat):Int)))=false:=by simp only [ta];omega
  have b:(decide ((j:Int)<((min R.length t.length:Nat):Int)))=false:=by simp only [ta];omega
  refine .inr ?_;have m:lcp (R.drop j) (t.drop j)=0:=by
   by_cases h:j<t.length
   ·rw [jk (show R.length<=j by omega)];rfl
   ·rw [jk (show t.length<=j by omega)];cases R.drop j<;>rfl
  simp only [g,b,m,af,cH]
theorem CH (n:Nat) (t S:aa) (a:Nat) (h:a<=S.length) (e:S.length<4611686018427387904) (c:t.length<4611686018427387904) (b:t.length<n):
  cf n t S (a:Int)=some (if (S.drop a).take t.length=t then .inl (S,((a+t.length:Nat):Int)) else .inr (((a+lcp (S.drop a) t:Nat):Int),5,S,(a:Int))):=by
 have f:=xQ (S.drop a) t;rw [bN] at f;simp only [cf,m9 n t S a h e,ob];by_cases hp:(S.drop a).take t.length=t
 ·simp [hp]
 ·have d:IntKind.wrap .i64 ((a:Int)+((lcp (S.drop a) t:Nat):Int))=((a+lcp (S.drop a) t:Nat):Int):=by rw [wrap_i64 _ (by omega) (by omega)];omega
  simp only [hp,aG,af,ui n S a h,BI n t S (S.drop a) (a:Int) c b,ED,d,wH];simp
def tdR (r:DR):TD:=(r.1,r.2.1,r.2.2.1,(r.2.2.2.1:Int),(r.2.2.2.2.1:Int),r.2.2.2.2.2.1,r.2.2.2.2.2.2.1,(r.2.2.2.2.2.2.2.1.1:Int),(r.2.2.2.2.2.2.2.1.2.1:Int),(r.2.2.2.2.2.2.2.1.2.2:Int))
theorem lV {S:aa} {a:Nat} (h:a<=S.length) {r:DR} (c:dU S a=.inr r):smT (tdR r)/\cF (tdR r)=0/\a<=enR r/\enR r<=S.length:=by
 obtain ⟨f,b⟩:=A6 h c;obtain ⟨g,l,dg,x,s,m,d,M,P,e⟩:=r;have ok:=uB h f;have:=ok.dg17;have:=ok.m2;have:=ok.d2;refine ⟨⟨by show m.length<=18;omega,by show dg.length<=100;omega,by show d.length<=18;omega,by show (0:Int)<=(M.1:Int);omega,by show (0:Int)<=(M.2.1:Int);omega,by show (0:Int)<=(M.2.2:Int);omega⟩,?_,ok.le,ok.end_⟩;have hc:=Aq (g:=g) (l:=l) (dg:=dg) (x:=(x:Int)) (q:=(s:Int)) (m:=m) (d:=d) (k0:=(M.1:Int)) (k1:=(M.2.1:Int)) (k2:=(M.2.2:Int)) (tz ok.all);unfold chkR at b;simp only [] at b;show chkF g l dg (x:Int) (s:Int) m d (M.1:Int) (M.2.1:Int) (M.2.2:Int)=0;omega
def dts (l:aa):Bool:=l.take 2==[46,46]
theorem yB {l:aa}:dts l=true↔∃r,l=46::46::r:=by
 unfold dts;rw [bp];constructor
 ·exact JI
 ·rintro ⟨r,rfl⟩;rfl
theorem uf {S:aa} {p:Nat} (h:dts (S.drop p)=true):p+2<=S.length:=by
 obtain ⟨r,a⟩:=yB.1 h;have:=cD List.length a;simp at this;omega
noncomputable def qH (S:aa) (b:UInt8) (p:Nat):(Nat×Nat×Nat)⊕(TI×Nat×Nat):=
 match dU S p with
 | .inl f=>.inl f
 | .inr r=>if dts (S.drop (enR r))=true/\(S.drop (enR r+2)).head?≠some b then
   match dU S (enR r+2) with
   | .inl f=>.inl f
   | .inr a=>.inr (mkI (tdR r) true (tdR a),plR r,enR a)
  else .inr (mkI (tdR r) false d0,plR r,enR r)
theorem Dc {S:aa} {k:UInt8} {p:Nat} (h:p<=S.length) {t:TI} {a c:Nat} (b:qH S k p=.inr (t,a,c)):smI t/\p<=c/\c<=S.length:=by
 unfold qH at b;cases e:dU S p with
 | inl f=>rw [e] at b;cases b
 | inr r=>
  obtain ⟨g,_,l,n⟩:=lV h e;rw [e] at b;simp only [] at b;split at b
  ·rename_i m;have:=uf m.1;cases d:dU S (enR r+2) with
   | inl f=>rw [d] at b;cases b
   | inr o=>
    obtain ⟨i,_,l3,j⟩:=lV (by omega) d;rw [d] at b;cases b;exact ⟨⟨g,i⟩,by omega,j⟩
  ·cases b;exact ⟨⟨g,ri⟩,l,n⟩
noncomputable def pi (S:aa) (c:UInt8):Nat->Nat->List Nat->List TI->(Nat×Nat×Nat)⊕(Nat×List Nat×List TI)
 | 0,p,_,_=>.inl (p,3,p)
 | r+1,p,P,I=>match qH S c p with
  | .inl f=>.inl f
  | .inr (t,a,b)=>if (S.drop b).head?=some 44 then pi S c r (b+1) (P++[a]) (I++[t]) else .inr (b,P++[a],I++[t])
theorem nI {S:aa} {p:Nat} {c:UInt8} (h:(S.drop p).head?=some c):p+1<=S.length:=by
 cases b:S.drop p with
 | nil=>rw [b] at h;cases h
 | cons a r=>
  have:=cD List.length b;simp at this;omega
theorem E3 {S:aa} {i:UInt8}:∀(r p:Nat) (P:List Nat) (I:List TI),p<=S.length->P.length=I.length->(∀t∈I,smI t)->∀{d:Nat} {c:List Nat} {b:List TI},pi S i r p P I=.inr (d,c,b)->
  d<=S.length/\c.length=b.length/\I.length<b.length/\b.length<=I.length+r/\(∀t∈b,smI t)
 | 0,p,P,I,_,_,_,d,c,b,e=>by cases e
 | r+1,p,P,I,h,j,hs,d,c,b,e=>by
  rw [pi] at e;cases g:qH S i p with
  | inl f=>rw [g] at e;cases e
  | inr q=>
   obtain ⟨t,a,o⟩:=q;obtain ⟨m,z,v⟩:=Dc h g;rw [g] at e;simp only [] at e;have hs':∀u∈I++[t],smI u:=λu n=>by
    rcases lk.1 n with h | h
    ·exact hs u h
    ·rw [lG.1 h];exact m
   split at e
   ·rename_i x;obtain ⟨w,k,y,s,l⟩:=E3 r (o+1) (P++[a]) (I++[t]) (nI x) (by simp [j]) hs' e;rw [bv,List.length_singleton] at y s;exact ⟨w,k,by omega,by omega,l⟩
   ·cases e;exact ⟨v,by simp [j],by simp,by simp,hs'⟩
theorem dts3 (S:aa) (p:Nat) (c:UInt8):((S.drop p).take [46,46,c].length==[46,46,c])=(dts (S.drop p)&&decide ((S.drop (p+2)).head?=some c)):=by
 rw [<-jm];generalize S.drop p=l;unfold dts
 match l with
 | []=>rfl
 | [a]=>simp
 | [a,b]=>simp
 | a::b::d::r=>
  rw [sI];simp [and_assoc]
def endC (K:Int):UInt8:=if K=4 then 125 else 93
theorem Gy {K:Int} (a:K=3\/K=4) (n:Nat):mb n K=some ([if K=4 then 123 else 91],[endC K]):=by
 rcases a with rfl | rfl<;>rfl
theorem Vt (c:UInt8) {S:aa} {p:Nat} (h:p<=S.length) (d e:Int) (i:Bool) (b:List Int) (a:TD) (f g:List TI):
  lU 20000000 [c] d S (p:Int) e i b a f g=some ([c],d,dts (S.drop p)&&!decide ((S.drop (p+2)).head?=some c),S,(p:Int),e,i,b,a,f,g):=by
 unfold lU;rw [MJ _ _ _ _ h];have hc:cat [46,46] [c]=some [46,46,c]:=rfl;simp only [ob,hc,MJ _ _ _ _ h,dts3];show cond (dts (S.drop p)) _ _=_;cases j:dts (S.drop p)
 ·rfl
 ·cases decide ((S.drop (p+2)).head?=some c)<;>rfl
theorem tk1 (l:aa) (c:UInt8):l.take [c].length=[c]↔l.head?=some c:=by
 cases l<;>simp
theorem CZ (S:aa) (r:DR):Ta S (.inr r)=.inr ((tdR r).1,(tdR r).2.1,(tdR r).2.2.1,(tdR r).2.2.2.1,(tdR r).2.2.2.2.1,(tdR r).2.2.2.2.2.1,(tdR r).2.2.2.2.2.2.1,(tdR r).2.2.2.2.2.2.2.1,(tdR r).2.2.2.2.2.2.2.2.1,(tdR r).2.2.2.2.2.2.2.2.2,((plR r:Nat):Int),S,((enR r:Nat):Int)):=rfl
theorem Wl (b:Bool) (c:UInt8) {S:aa} {p:Nat} (h:p<=S.length) (q:S.length<100000) (n:b=true->dts (S.drop p)=true) (i g:Int) (e:Bool) (d:List Int) (j:TD) (k a:List TI):
  lX 20000000 [c] i b S (p:Int) g e d j k a=some (if b=true then (match dU S (p+2) with
   | .inl f=>.inl ((f.1:Int),(f.2.1:Int),S,(f.2.2:Int))
   | .inr r=>.inr ([c],i,S,((enR r:Nat):Int),g,e,d,j,true,tdR r,k,a)) else .inr ([c],i,S,(p:Int),g,e,d,j,false,d0,k,a)):=by
 unfold lX;cases b
 ·rfl
 ·have l:=n rfl;have s:=uf l;have m:(S.drop p).take [(46:UInt8),46].length=[46,46]:=by
   obtain ⟨r,o⟩:=yB.1 l;rw [o];rfl
  rw [ah,CH _ _ _ _ h (by omega) (by simp) (by simp),ae m,ae rfl];show obs (gn 20000000 S ((p+2:Nat):Int)) _ _=_;rw [CO S (p+2) s q];cases dU S (p+2) with
  | inl f=>rfl
  | inr r=>rfl
theorem Bg {α:Type} {I:List α} (h:I.length<=256):Nat.ble (I.length+1) de=true:=dm (by unfold de;omega)
abbrev pA (P:List Nat):List Int:=P.map λk:Nat=>(k:Int)
theorem S0 (c:UInt8) {S:aa} {p:Nat} (h:p<=S.length) (s:S.length<100000) (K:Int) (e:Bool) {P:List Nat} (J:List TI) {I:List TI} (B:I.length<256) (A:P.length=I.length):
  fj 20000000 ([c],S,(p:Int),K,e,pA P,J,I)=some (match qH S c p with
   | .inl f=>.inr (.inl ((f.1:Int),(f.2.1:Int),S,(f.2.2:Int)))
   | .inr (t,a,b)=>if (S.drop b).head?=some 44 then .inl ([c],S,((b+1:Nat):Int),K,e,pA (P++[a]),J,I++[t])
    else .inr (.inr ([c],S,((if dts (S.drop b) then b+2 else b:Nat):Int),0,d0,0,d0,0,d0,false,false,K,d0,0,d0,0,d0,e,dts (S.drop b),pA (P++[a]),J,I++[t]))):=by
 have fin:∀(t:TI) (a b:Nat),b<=S.length->(ob (aE 20000000 [44] S (b:Int)) (u3 λo i k=>(cond o (some (.inl ([c],i,k,K,e,(pA P++([(a:Int)]:List (Int))),J,(I++([t]:List TI))))) (ob (aE 20000000 [46,46] i k) (u3 λm j g=>(cond m (some (.inr (.inr ([c],j,g,0,d0,0,d0,0,d0,false,false,K,d0,0,d0,0,d0,e,true,(pA P++([(a:Int)]:List (Int))),J,(I++([t]:List TI)))))) (some (.inr (.inr ([c],j,g,0,d0,0,d0,0,d0,false,false,K,d0,0,d0,0,d0,e,false,(pA P++([(a:Int)]:List (Int))),J,(I++([t]:List TI))))))))))):Option ((aa×aa×Int×Int×Bool×List (Int)×List TI×List TI)⊕((Int×Int×aa×Int)⊕(aa×aa×Int×Int×TD×Int×TD×Int×TD×Bool×Bool×Int×TD×Int×TD×Int×TD×Bool×Bool×List (Int)×List TI×List TI)))) =
   some (if (S.drop b).head?=some 44 then .inl ([c],S,((b+1:Nat):Int),K,e,pA (P++[a]),J,I++[t])
    else .inr (.inr ([c],S,((if dts (S.drop b) then b+2 else b:Nat):Int),0,d0,0,d0,0,d0,false,false,K,d0,0,d0,0,d0,e,dts (S.drop b),pA (P++[a]),J,I++[t]))):=by
  intro t a b l;have w:pA (P++[a])=pA P++[(a:Int)]:=by simp [pA]
  rw [m9 _ _ _ _ l (by omega),w];simp only [ob,u3,u2,tk1];by_cases hc:(S.drop b).head?=some 44
  ·rw [ae hc,ae hc];rfl
  ·rw [ab hc,ab hc];simp only [af];rw [m9 _ _ _ _ l (by omega)];cases d:dts (S.drop b)
   ·rw [ab (show ¬(S.drop b).take [(46:UInt8),46].length=[46,46] from λh=>by unfold dts at d;rw [show (S.drop b).take 2=[46,46] from h] at d;cases d)];rfl
   ·rw [ae (show (S.drop b).take [(46:UInt8),46].length=[46,46] from eq_of_beq d)];rfl
 unfold fj;simp only [u8,u7,u6,u5,u4,u3,u2];rw [show (len I==256)=false from by show (((I.length:Nat):Int)==256)=false;simp;omega,af,CO S p h s];unfold qH;cases v:dU S p with
 | inl f=>rfl
 | inr r=>
  obtain ⟨z,_,C,n⟩:=lV h v;rw [CZ];simp only [obs,sm,ob];rw [show (d4 (d8 ((tdR r).1,(tdR r).2.1,(tdR r).2.2.1,(tdR r).2.2.2.1,(tdR r).2.2.2.2.1,(tdR r).2.2.2.2.2.1,(tdR r).2.2.2.2.2.2.1,(tdR r).2.2.2.2.2.2.2.1,(tdR r).2.2.2.2.2.2.2.2.1,(tdR r).2.2.2.2.2.2.2.2.2,((plR r:Nat):Int),S,((enR r:Nat):Int))))=((enR r:Nat):Int) from rfl,Vt c n];simp only [u11,u10,u9,u8,u7,u6,u5,u4,u3,u2];rw [Wl _ c n s (λh=>by simp at h;exact h.1)];have q:(dts (S.drop (enR r))&&!decide ((S.drop (enR r+2)).head?=some c))=true↔(dts (S.drop (enR r))=true/\(S.drop (enR r+2)).head?≠some c):=by simp
  by_cases d:dts (S.drop (enR r))=true/\(S.drop (enR r+2)).head?≠some c
  ·rw [ae (q.2 d),ae d];cases y:dU S (enR r+2) with
   | inl f=>rfl
   | inr u=>
    obtain ⟨D,_,l3,x⟩:=lV (uf d.1) y;simp only [u12,u11,u10,u9,u8,u7,u6,u5,u4,u3,u2];rw [Bg (by omega),Bg (by simp;omega)];exact fin (mkI (tdR r) true (tdR u)) (plR r) (enR u) x
  ·rw [ab (λh=>d (q.1 h)),ab d];simp only [u12,u11,u10,u9,u8,u7,u6,u5,u4,u3,u2];rw [Bg (by omega),Bg (by simp;omega)];exact fin (mkI (tdR r) false d0) (plR r) (enR r) n
theorem SD (c:UInt8) (S:aa) (p K:Int) (e:Bool) (P:List Int) (J:List TI) {I:List TI} (a:I.length=256):
  fj 20000000 ([c],S,p,K,e,P,J,I)=some (.inr (.inl (p,3,S,p))):=by
 unfold fj;simp only [u8,u7,u6,u5,u4,u3,u2];rw [show (len I==256)=true from by show (((I.length:Nat):Int)==256)=true;rw [a];rfl];rfl
def Ym (S:aa) (c:UInt8) (K:Int) (e:Bool) (J:List TI):(Nat×Nat×Nat)⊕(Nat×List Nat×List TI)->(Int×Int×aa×Int)⊕(aa×aa×Int×Int×TD×Int×TD×Int×TD×Bool×Bool×Int×TD×Int×TD×Int×TD×Bool×Bool×List (Int)×List TI×List TI)
 | .inl f=>.inl ((f.1:Int),(f.2.1:Int),S,(f.2.2:Int))
 | .inr (p,P,I)=>.inr ([c],S,((if dts (S.drop p) then p+2 else p:Nat):Int),0,d0,0,d0,0,d0,false,false,K,d0,0,d0,0,d0,e,dts (S.drop p),pA P,J,I)
theorem UH (c:UInt8) {S:aa} (i:S.length<100000) (K:Int) (e:Bool) (J:List TI):∀(r p:Nat) (P:List Nat) (I:List TI),I.length+r=256->p<=S.length->P.length=I.length->∀N,r<N->
  av (fj 20000000) N ([c],S,(p:Int),K,e,pA P,J,I)=some (Ym S c K e J (pi S c r p P I)):=by
 intro r
 induction r with
 | zero=>
  intro p P I g hp b N j;obtain ⟨N,rfl⟩:∃k,N=k+1:=⟨N - 1,by omega⟩;rw [av,SD c S _ K e _ J (by omega)];rfl
 | succ r ih=>
  intro p P I g hp b N j;obtain ⟨N,rfl⟩:∃k,N=k+1:=⟨N - 1,by omega⟩;rw [av,S0 c hp i K e J (by omega) b,pi];cases h:qH S c p with
  | inl f=>rfl
  | inr q=>
   obtain ⟨t,a,d⟩:=q;obtain ⟨_,l,m⟩:=Dc hp h;simp only [];by_cases hc:(S.drop d).head?=some 44
   ·rw [ae hc,ae hc];exact ih (d+1) (P++[a]) (I++[t]) (by simp;omega) (nI hc) (by simp [b]) N (by omega)
   ·rw [ab hc,ab hc];rfl
theorem yq {X a Y b:Type} {s:X->Option (X⊕Y)} {s':a->Option (a⊕b)} (f:X->a) (g:Y->b) (h:∀x,s' (f x)=(s x).map (Sum.map f g)):∀(n:Nat) (x:X),av s' n (f x)=(av s n x).map g
 | 0,_=>rfl
 | n+1,x=>by
  rw [av,av,h];cases s x with
  | none=>rfl
  | some z=>
   cases z with
   | inl y=>exact yq f g h n y
   | inr y=>rfl
theorem UF (n:Nat) (K:Int) (D:TD) (KF:Int) (DF:TD) (KT:Int) (DT:TD) (c:Nat) (e l:Bool) (L:List TI):mY n K D KF DF KT DT L.length c e l L=n8 n K D KF DF KT DT e l L:=by
 unfold mY n8;have:=yq (s:=gx n) (s':=km n) (u12 λx0 f d g m k j h o p b a=>(d.length,c,x0,f,d,g,m,k,j,h,o,d.length,c,p,b,a)) id (by
  rintro ⟨x0,f,d,g,m,k,j,h,o,p,b,a⟩;unfold gx km;simp only [u16,u15,u14,u13,u12,u11,u10,u9,u8,u7,u6,u5,u4,u3,u2];cases decide (f<x0)
  ·rfl
  ·simp only [ah];cases ix d.length f with
   | none=>rfl
   | some i=>
    simp only [ob];cases d[i]? with
    | none=>rfl
    | some t=>
     simp only [ob];cases hZ n (iF t) (d8 t).2.2.1 (d8 t).2.2.2 g with
     | none=>rfl
     | some v=>
      simp only [ob];rw [show mM n v 10 10 10 (iF t) (d8 t).2.2.1 (d8 t).2.2.2 g m k j h o d.length c p b f a d=iY n v 10 10 10 (iF t) (d8 t).2.2.1 (d8 t).2.2.2 g m k j h o p b f a d from rfl];cases iY n v 10 10 10 (iF t) (d8 t).2.2.1 (d8 t).2.2.2 g m k j h o p b f a d with
      | none=>rfl
      | some z=>
       simp only [ob];cases (z != 0)<;>rfl) n (len L,0,L,K,D,KF,DF,KT,DT,e,l,w64 (len L - 1))
 simp only [u12,u11,u10,u9,u8,u7,u6,u5,u4,u3,u2] at this;rw [show (L.length,c,((L.length:Nat):Int),(0:Int),L,K,D,KF,DF,KT,DT,L.length,c,e,l,w64 (((L.length:Nat):Int) - 1))=(L.length,c,len L,0,L,K,D,KF,DF,KT,DT,L.length,c,e,l,w64 (len L - 1)) from rfl,this];rw [Option.map_id];rfl
theorem TP (n:Nat) (K:Int) (D:TD) (KF:Int) (DF:TD) (KT:Int) (DT:TD) (c:Nat) (e l:Bool) (L:List TI):io n K D KF DF KT DT L.length c e l L=qu n K D KF DF KT DT e l L:=by
 unfold io qu;rw [UF,show oO n K D KF DF KT DT L.length c e l L=ot n K D KF DF KT DT e l L from rfl]
theorem JX {K:Int} {D:TD} {KF:Int} {DF:TD} {KT:Int} {DT:TD} {e l:Bool} {L:List TI} (h:smE D DF DT L) (c:Nat):
  io 20000000 K D KF DF KT DT L.length c e l L=some (pG K D KF DF KT DT e l L):=(TP _ _ _ _ _ _ _ _ _ _ _).trans (O5 h)
noncomputable def setE (K:Int) (e l:Bool) (I:List TI):Int×Int:=pG K d0 0 d0 0 d0 e l I
noncomputable def endL (S:aa) (K:Int) (e:Bool) (p:Nat) (P:List Nat) (I:List TI):(Nat×Nat×Nat)⊕(Int×Bool×Bool×List TI×Nat):=
 if (S.drop (if dts (S.drop p) then p+2 else p)).head?=some (endC K) then
  if (setE K e (dts (S.drop p)) I).2=0 then .inr (K,e,dts (S.drop p),I,(if dts (S.drop p) then p+2 else p)+1)
  else .inl (P.getD (setE K e (dts (S.drop p)) I).1.toNat 0,10,(if dts (S.drop p) then p+2 else p)+1)
 else .inl ((if dts (S.drop p) then p+2 else p),5,(if dts (S.drop p) then p+2 else p))
noncomputable def DV (S:aa) (a:Nat) (K:Int):(Nat×Nat×Nat)⊕(Int×Bool×Bool×List TI×Nat):=
 match pi S (endC K) 256 (if dts (S.drop (a+1)) then a+3 else a+1) [] [] with
 | .inl f=>.inl f
 | .inr (p,P,I)=>endL S K (dts (S.drop (a+1))) p P I
noncomputable def xN (S:aa) (a:Nat):(Nat×Nat×Nat)⊕(Int×Bool×Bool×List TI×Nat):=
 if (S.drop a).head?=some 91 then DV S a 3 else if (S.drop a).head?=some 123 then DV S a 4 else .inl (a,5,a)
theorem Tn {K:Int} (a:K=3\/K=4) {e l:Bool} {I:List TI} (b:1<=I.length):∃i:Nat,(setE K e l I).1=(i:Int)/\i<I.length:=by
 have hi:∃i:Nat,(xK K e l I).1=(i:Int)/\i<I.length:=by
  unfold xK;have:∀(J:List TI) (k:Nat) (p:Nat×Int),oQ (errI K e l I.length) k J=some p->p.1<k+J.length:=by
   intro J
   induction J with
   | nil=>intro k p h;cases h
   | cons t r ih=>
    intro k p h;rw [oQ] at h;split at h
    ·cases h;simp
    ·have:=ih (k+1) p h;simp;omega
  cases hs:oQ (errI K e l I.length) 0 I with
  | none=>exact ⟨0,rfl,by omega⟩
  | some p=>exact ⟨p.1,rfl,by have:=this I 0 p hs;omega⟩
 unfold setE pG;rw [ab (by omega)];split
 ·exact ⟨0,rfl,by omega⟩
 ·rw [ab (by omega),ab (by omega),ab (by omega)];split
  ·exact ⟨0,rfl,by omega⟩
  ·exact hi
theorem Uk {I:List TI} (h:∀t∈I,smI t):smE d0 d0 d0 I:=⟨ri,ri,ri,h⟩
theorem YE (n:Nat) (I:List TI):bH n I=some (I.length,I.length):=by
 unfold bH;rw [cQ (bi _)];show ob (bx I.length ((I.length:Nat):Int)) _=_;rw [cQ (bi _)];rfl
def UP (S:aa):(Nat×Nat×Nat)⊕(Int×Bool×Bool×List TI×Nat)->(Int×Int×aa×Int)⊕(Int×TD×Int×TD×Int×TD×Nat×Nat×Bool×Bool×aa×Int×List TI)
 | .inl f=>.inl ((f.1:Int),(f.2.1:Int),S,(f.2.2:Int))
 | .inr (K,e,l,I,p)=>.inr (K,d0,0,d0,0,d0,I.length,I.length,e,l,S,(p:Int),I)
theorem VT {S:aa} (F:S.length<100000) {K:Int} (C:K=3\/K=4) (e:Bool) {p:Nat} (hp:p<=S.length) {P:List Nat} {I:List TI} (E:P.length=I.length) (y:1<=I.length) (hs:∀t∈I,smI t):
  (obs (cf 20000000 [endC K] S ((if dts (S.drop p) then p+2 else p:Nat):Int)) (u2 λb c=>(ob (bH 20000000 I) (u2 λf d=>(ob (io 20000000 K d0 0 d0 0 d0 f d e (dts (S.drop p)) I) (u2 λu n=>(cond (n != 0) (ob (ix (List.length (pA P)) u) λo=>(ob ((pA P)[o]?) λk=>(ob (aR 20000000 k 10 b c) (u2 λx w=>(some (.inl (x,w,b,c))))))) (some (.inr (K,d0,0,d0,0,d0,f,d,e,(dts (S.drop p)),b,c,I))))))))) (u4 λv s j m=>(some (.inl (v,s,j,m))))) =
   some (UP S (endL S K e p P I)):=by
 have z:(if dts (S.drop p) then p+2 else p:Nat)<=S.length:=by
  split
  ·rename_i h;exact uf h
  ·exact hp
 unfold endL;generalize (if dts (S.drop p) then p+2 else p:Nat)=q at *;generalize dts (S.drop p)=l;rw [CH _ _ _ _ z (by omega) (by simp) (by simp)];simp only [tk1];by_cases hc:(S.drop q).head?=some (endC K)
 ·rw [ae hc,ae hc];simp only [obs,sm,ob,u2,YE,JX (Uk hs)];obtain ⟨i,B,G⟩:=Tn C (e:=e) (l:=l) y;show cond ((setE K e l I).2 != 0) (ob (ix (pA P).length (setE K e l I).1) _) _=_;by_cases g:(setE K e l I).2=0
  ·rw [ae g,show ((setE K e l I).2 != 0)=false from by simp [g]];rfl
  ·have hi:i<(pA P).length:=by simp [pA];omega
   rw [ab g,show ((setE K e l I).2 != 0)=true from by simp [g],B,dD hi];have D:(pA P)[i]?=some ((P.getD i 0:Nat):Int):=by
    have hi':i<P.length:=by omega
    simp [pA,aW hi']
   simp only [ah,ob,D];rfl
 ·rw [ab hc,ab hc];have:lcp (S.drop q) [endC K]=0:=by
   cases A:S.drop q with
   | nil=>rfl
   | cons a r=>
    rw [A] at hc;simp only [lcp];rw [show (a==endC K)=false from by rw [aJ];rintro rfl;exact hc rfl];rfl
  rw [this];rfl
theorem U5 {S:aa} {a:Nat} (h:a<=S.length) (hS:S.length<100000):nr 20000000 S (a:Int)=some (UP S (xN S a)):=by
 have b:∀(K:Int) (z:K=3\/K=4) (j:a+1<=S.length),(ob (nk 20000000 (K==4) S ((a+1:Nat):Int) ([]:List TI) ([]:List TI)) (u5 λv7 v8 v9 V X=>(ob (mb 20000000 v9) (u2 λ_ U=>(ob (aE 20000000 [46,46] v7 v8) (u3 λW J v15=>(obs (av (fj 20000000) 20000000 (U,J,v15,v9,W,([]:List (Int)),V,X)) (u4 λZ A D R=>(some (.inl (Z,A,D,R)))) (u22 λT E Q _ _ _ _ _ _ _ _ x n u k l y s o w _ d=>(obs (cf 20000000 T E Q) (u2 λe g=>(ob (bH 20000000 d) (u2 λv m=>(ob (io 20000000 x n u k l y v m s o d) (u2 λO L=>(cond (L != 0) (ob (ix (List.length w) O) λM=>(ob (w[M]?) λG=>(ob (aR 20000000 G 10 e g) (u2 λv41 v42=>(some (.inl (v41,v42,e,g))))))) (some (.inr (x,n,u,k,l,y,v,m,s,o,e,g,d))))))))) (u4 λY N B H=>(some (.inl (Y,N,B,H))))))))))))) =
   some (UP S (DV S a K)):=by
  intro K z j;have hj:nk 20000000 (K==4) S ((a+1:Nat):Int) ([]:List TI) ([]:List TI)=some (S,((a+1:Nat):Int),K,[],[]):=by
   rcases z with rfl | rfl<;>rfl
  have F:aE 20000000 [46,46] S ((a+1:Nat):Int)=some (dts (S.drop (a+1)),S,((if dts (S.drop (a+1)) then a+3 else a+1:Nat):Int)):=by
   rw [m9 _ _ _ _ j (by omega)];cases i:dts (S.drop (a+1))
   ·rw [ab (show ¬(S.drop (a+1)).take [(46:UInt8),46].length=[46,46] from λh=>by unfold dts at i;rw [show (S.drop (a+1)).take 2=[46,46] from h] at i;cases i)];rfl
   ·rw [ae (show (S.drop (a+1)).take [(46:UInt8),46].length=[46,46] from eq_of_beq i)];rfl
  have hp:(if dts (S.drop (a+1)) then a+3 else a+1:Nat)<=S.length:=by
   split
   ·rename_i h;have:=uf h;omega
   ·exact j
  have hl:=UH (endC K) hS K (dts (S.drop (a+1))) [] 256 (if dts (S.drop (a+1)) then a+3 else a+1) [] [] (by simp) hp rfl 20000000 (by omega);simp only [hj,Gy z,F,ob,u5,u4,u3,u2];rw [show av (fj 20000000) 20000000 ([endC K],S,((if dts (S.drop (a+1)) then a+3 else a+1:Nat):Int),K,dts (S.drop (a+1)),([]:List Int),([]:List TI),([]:List TI))=_ from hl];unfold DV;cases hr:pi S (endC K) 256 (if dts (S.drop (a+1)) then a+3 else a+1) [] [] with
  | inl f=>rfl
  | inr q=>
   obtain ⟨p,P,I⟩:=q;obtain ⟨q1,q2,q3,q4,q5⟩:=E3 256 _ [] [] hp rfl (λt F=>by cases F) hr;have q3':1<=I.length:=by rw [cG] at q3;omega
   exact VT hS z (dts (S.drop (a+1))) q1 q2 q3' q5
 unfold nr xN;rw [BF _ _ _ _ h (by omega)];cases i:S.drop a with
 | nil=>rfl
 | cons c r=>
  have j:a+1<=S.length:=by
   have:=cD List.length i;simp at this;omega
  simp only [List.head?_cons,aw];by_cases C:c=91
  ·subst C;rw [ae rfl];exact b 3 (.inl rfl) j
  ·by_cases h2:c=123
   ·subst h2;rw [ae rfl];exact b 4 (.inr rfl) j
   ·rw [ab C,ab h2];have:hasB [91,123] c=false:=by
     unfold hasB;simp only [qX,List.any_nil,Bool.or_false,ox,aJ];exact ⟨λh=>C h.symm,λh=>h2 h.symm⟩
    rw [this];rfl
def rat (l:aa):Nat:=match l with | c::_=>c.toNat | []=>0
theorem Xs (l:aa) (c:UInt8) (hc:c≠0):(((rat l:Nat):Int)==((c.toNat:Nat):Int))=decide (l.head?=some c):=by
 cases l with
 | nil=>
  rw [ar (by simp)];rw [aJ];intro h;have b:c.toNat=0:=by
   have:((0:Nat):Int)=((c.toNat:Nat):Int):=h;omega
  exact hc (gD.1 (by rw [b];rfl))
 | cons a r=>
  show (((a.toNat:Nat):Int)==((c.toNat:Nat):Int))=_;rw [nQ];rw [sI];simp
theorem Js {S:aa} {d:UInt8} {p:Nat} (h:p<=S.length) {f:Nat×Nat×Nat} (a:qH S d p=.inl f):f.2.1≠0:=by
 unfold qH at a;cases c:dU S p with
 | inl g=>rw [c] at a;cases a;exact xW (k:=f.1) (E:=f.2.1) (p:=f.2.2) h c
 | inr r=>
  rw [c] at a;simp only [] at a;split at a
  ·rename_i e;cases b:dU S (enR r+2) with
   | inl g=>rw [b] at a;cases a;exact xW (k:=f.1) (E:=f.2.1) (p:=f.2.2) (uf e.1) b
   | inr i=>rw [b] at a;cases a
  ·cases a
theorem Ar {S:aa} {c:UInt8}:∀(r p:Nat) (P:List Nat) (I:List TI),p<=S.length->∀{f:Nat×Nat×Nat},pi S c r p P I=.inl f->f.2.1≠0
 | 0,p,P,I,_,f,e=>by cases e;simp
 | r+1,p,P,I,h,f,e=>by
  rw [pi] at e;cases b:qH S c p with
  | inl g=>rw [b] at e;cases e;exact Js h b
  | inr q=>
   obtain ⟨t,a,d⟩:=q;rw [b] at e;simp only [] at e;split at e
   ·rename_i i;exact Ar r (d+1) _ _ (nI i) e
   ·cases e
theorem LH {S:aa} {a:Nat} (h:a<=S.length) {f:Nat×Nat×Nat} (b:xN S a=.inl f):f.2.1≠0:=by
 have c:∀i:Int,a+1<=S.length->DV S a i=.inl f->f.2.1≠0:=by
  intro i j b;unfold DV at b;have hp:(if dts (S.drop (a+1)) then a+3 else a+1:Nat)<=S.length:=by
   split
   ·rename_i h;have:=uf h;omega
   ·exact j
  cases d:pi S (endC i) 256 (if dts (S.drop (a+1)) then a+3 else a+1) [] [] with
  | inl g=>rw [d] at b;cases b;exact Ar 256 _ _ _ hp d
  | inr q=>
   obtain ⟨e,P,J⟩:=q;rw [d] at b;simp only [] at b;unfold endL at b;generalize (if dts (S.drop e) then e+2 else e:Nat)=k at b;split at b
   ·split at b
    ·cases b
    ·cases b;simp
   ·cases b;simp
 unfold xN at b;split at b
 ·rename_i d;exact c 3 (nI d) b
 ·split at b
  ·rename_i d;exact c 4 (nI d) b
  ·cases b;simp
noncomputable def IL (S:aa):(Nat×Nat)⊕(Int×Bool×Bool×List TI):=match xN S 0 with
 | .inl f=>.inl (f.1,f.2.1)
 | .inr (K,e,l,I,p)=>if p<S.length then .inl (p,5) else .inr (K,e,l,I)
def brk (c:UInt8):Bool:=c==33||c==44||c==46||c==47||c==91||c==93||c==123||c==125
theorem SB:∀c,(!brk c||(!isYC c&&(!isMk c&&(!(c==45)&&!isDX c))))=true:=iP (λc=>!brk c||(!isYC c&&(!isMk c&&(!(c==45)&&!isDX c)))) (by decide +kernel)
theorem HO {c:UInt8} (h:brk c=true):isYC c=false/\isMk c=false/\(c==45)=false/\isDX c=false:=by
 have:=SB c;rw [h] at this;simpa [aD] using this
theorem W8 {c:UInt8} (h:isDX c=true):brk c=false:=by
 cases a:brk c
 ·rfl
 ·rw [(HO a).2.2.2] at h;cases h
def endT (l:aa):Prop:=∀c,l.head?=some c->brk c=true
theorem Tz {l:aa} (h:endT l):dc isYC l/\dc isMk l/\dc (λc=>c==45) l:=⟨λc hc=>(HO (h c hc)).1,λc hc=>(HO (h c hc)).2.1,λc hc=>(HO (h c hc)).2.2.1⟩
theorem H7:endT []:=λc h=>by cases h
theorem rD {c:UInt8} {l:aa} (h:brk c=true):endT (c::l):=λa b=>by
 simp only [List.head?_cons,aw] at b;rw [<-b];exact h
theorem ND {g l:Bool} {d:aa} {x s:Nat} (h:okY g l d (x:Int) (s:Int)) (r:aa):dc brk (kW g l d (x:Int) (s:Int)++r):=by
 have a:d≠[]:=by
  have:=(jf h).2.2.2.2.1;rintro rfl;simp at this
 rw [kq];cases l with
 | true=>exact ej (by decide)
 | false=>
  cases g with
  | true=>exact ej (by decide)
  | false=>
   simp only [bs,aG,dW,fE];exact wG a (NX h) (λc=>W8)
def gI (x:TD):aa:=tV x.1 x.2.1 x.2.2.1 x.2.2.2.1 x.2.2.2.2.1 x.2.2.2.2.2.1 x.2.2.2.2.2.2.1 x.2.2.2.2.2.2.2.1.toNat x.2.2.2.2.2.2.2.2.1.toNat x.2.2.2.2.2.2.2.2.2.toNat
theorem pD {x:TD} (hs:smT x) (hc:cF x=0):∃(g l:Bool) (dg:aa) (e q:Nat) (m d:aa) (a b c:Nat),x=(g,l,dg,(e:Int),(q:Int),m,d,(a:Int),(b:Int),(c:Int))/\OkD g l dg e q m d a b c:=by
 have h:=o6 hc;obtain ⟨g,l,dg,e,q,m,d,k0,k1,k2⟩:=x;obtain ⟨r,p,a,b,c,i,f,k,n,j,o⟩:=OJ hs.2.2.2.1 hs.2.2.2.2.1 hs.2.2.2.2.2 h;simp only at i f k n j;subst i f k n j;exact ⟨_,_,_,_,_,_,_,_,_,_,rfl,o⟩
theorem rfT {x:TD} (hs:smT x) (hc:cF x=0):ap10 (bV 20000000) x=some (gI x):=
 E4 19999700 hs.2.2.2.1 hs.2.2.2.2.1 hs.2.2.2.2.2 (o6 hc)
theorem oa {x:TD} (hs:smT x) (hc:cF x=0):(gI x).length<=37:=by
 obtain ⟨g,l,dg,e,q,m,d,a,b,c,rfl,ok⟩:=pD hs hc;exact KZ ok
theorem nS {x:TD} (hs:smT x) (hc:cF x=0) (r:aa):dc brk (gI x++r):=by
 obtain ⟨g,l,dg,e,q,m,d,a,b,c,rfl,ok⟩:=pD hs hc;show dc brk (tV g l dg (e:Int) (q:Int) m d a b c++r);unfold tV fX;rw [fE,fE,fE];exact MW _ (by decide) (by decide) (by decide) (ND ok.yr _)
theorem sa {l:aa} (h:dc brk l):dts l=false:=by
 cases a:dts l
 ·rfl
 ·obtain ⟨r,rfl⟩:=yB.1 a;exact absurd (h 46 rfl) (by decide)
theorem zR {x:TD} (hs:smT x) (hc:cF x=0) {S:aa} {a:Nat} {post:aa} (h:S.drop a=gI x++post) (hp:endT post):∃r,dU S a=.inr r/\tdR r=x/\enR r=a+(gI x).length:=by
 obtain ⟨g,l,dg,e,q,m,d,k0,k1,k2,rfl,ok⟩:=pD hs hc;obtain ⟨c,i,f⟩:=Tz hp;obtain ⟨P,b⟩:=JZ ok (S:=S) (a:=a) (post:=post) h c i f;refine ⟨(g,l,dg,e,q,m,d,(k0,k1,k2),P,a+(tV g l dg (e:Int) (q:Int) m d k0 k1 k2).length),?_,rfl,rfl⟩;unfold dU;rw [b];have j:chkR (g,l,dg,e,q,m,d,(k0,k1,k2),P,a+(tV g l dg (e:Int) (q:Int) m d k0 k1 k2).length)=0:=by
  unfold chkR;simp only [];have:chkF g l dg (e:Int) (q:Int) m d (k0:Int) (k1:Int) (k2:Int)=0:=hc;rw [this];rfl
 simp only [];rw [ae j]
structure OkI (t:TI):Prop where
 sm:smI t
 a:cF (iF t)=0
 b:rT t=true->cF (iT t)=0
 n:rT t=false->iT t=d0
def fU (t:TI):aa:=if rT t then gI (iF t)++([46,46]++gI (iT t)) else gI (iF t)
theorem xl {t:TI} (h:OkI t):(fU t).length<=76:=by
 have e:=oa h.sm.1 h.a;unfold fU;split
 ·rename_i c;have d:=oa h.sm.2 (h.b c);simp only [bv,aV,cG];omega
 ·omega
theorem LG {t:TI} (h:OkI t) (r:aa):dc brk (fU t++r):=by
 unfold fU;split
 ·rw [fE];exact nS h.sm.1 h.a _
 ·exact nS h.sm.1 h.a _
theorem xx {t:TI} (ok:OkI t) {d:UInt8} (j:brk d=true) {S:aa} {p:Nat} {post:aa} (h:S.drop p=fU t++post) (hp:endT post) (w:dts post=true->(post.drop 2).head?=some d):
  ∃a,qH S d p=.inr (t,a,p+(fU t).length):=by
 unfold fU at h ⊢;unfold qH;cases c:rT t with
 | true=>
  rw [c,ae rfl,fE,fE] at h;obtain ⟨r,i,g,e⟩:=zR ok.sm.1 ok.a h (rD (by decide));have f:S.drop (enR r)=[46,46]++(gI (iT t)++post):=by rw [e];exact gP h
  have m:S.drop (enR r+2)=gI (iT t)++post:=gP (u:=[46,46]) f;have x:dts (S.drop (enR r))=true:=by rw [f];rfl
  have o:(S.drop (enR r+2)).head?≠some d:=by
   rw [m];intro y;have:=nS ok.sm.2 (ok.b c) post d y;rw [j] at this;cases this
  obtain ⟨z,s,q,v⟩:=zR ok.sm.2 (ok.b c) m hp;refine ⟨plR r,?_⟩;rw [i];simp only [];rw [ae ⟨x,o⟩,s];simp only [aM];rw [g,q,v,e];have:mkI (iF t) true (iT t)=t:=by rw [<-c]
  rw [this];have:p+(gI (iF t)).length+2+(gI (iT t)).length=p+(gI (iF t)++([46,46]++gI (iT t))).length:=by simp only [bv,aV,cG];omega
  rw [this]
 | false=>
  rw [c] at h;simp only [bs,aG] at h;obtain ⟨r,i,g,e⟩:=zR ok.sm.1 ok.a h hp;have f:S.drop (enR r)=post:=by rw [e];exact gP h
  refine ⟨plR r,?_⟩;rw [i];simp only [];rw [ab,g,e]
  ·have:mkI (iF t) false d0=t:=by rw [<-c,<-ok.n c]
   rw [this];simp only [bs,aG]
  ·rintro ⟨l,k⟩;rw [f] at l;rw [<-jm,f] at k;exact k (w l)
def lw (I:List TI):aa:=(I.map λt=>44::fU t).flatten
theorem yV {e:UInt8} (c:brk e=true) (b:e≠44) {post:aa} (hp:endT post) (d:post.head?≠some 44) (j:dts post=true->(post.drop 2).head?=some e):∀(I:List TI) (t:TI) (r p:Nat) {S:aa} (P:List Nat) (J:List TI),OkI t->(∀u∈I,OkI u)->I.length<r->S.drop p=fU t++(lw I++post)->
  ∃g,pi S e r p P J=.inr (p+(fU t++lw I).length,g,J++t::I)
 | [],t,r+1,p,S,P,J,ok,_,k,h=>by
  obtain ⟨a,i⟩:=xx ok c (post:=post) (by simpa [lw] using h) hp j;refine ⟨P++[a],?_⟩;rw [pi,i];simp only [];have f:S.drop (p+(fU t).length)=post:=gP (by simpa [lw] using h);rw [f,ab d];simp [lw]
 | u::I,t,r+1,p,S,P,J,ok,oks,k,h=>by
  have o:lw (u::I)++post=44::(fU u++(lw I++post)):=by simp [lw]
  rw [o] at h
  obtain ⟨a,i⟩:=xx ok c (post:=44::(fU u++(lw I++post))) h (rD (by decide)) (λs=>by
   obtain ⟨r,m⟩:=yB.1 s;cases m)
  have f:S.drop (p+(fU t).length)=44::(fU u++(lw I++post)):=gP h;have n:S.drop (p+(fU t).length+1)=fU u++(lw I++post):=gP (u:=[44]) f;obtain ⟨g,q⟩:=yV c b hp d j I u r (p+(fU t).length+1) (P++[a]) (J++[t]) (oks u mO) (λv l=>oks v (fN _ l)) (by simp at k;omega) n;refine ⟨g,?_⟩;rw [pi,i];simp only [];rw [f,List.head?_cons,ae rfl,q];have:p+(fU t).length+1+(fU u++lw I).length=p+(fU t++lw (u::I)).length:=by simp [lw];omega
  rw [this];simp
def vv (K:Int) (e l:Bool) (I:List TI):aa:=
 (if K=4 then 123 else 91)::((if e then [46,46] else [])++(Lib.join (I.map fU) [44]++((if l then [46,46] else [])++[endC K])))
theorem CU (t:TI) (I:List TI):Lib.join ((t::I).map fU) [44]=fU t++lw I:=by
 rw [fW,Lib.join_cons];unfold Lib.joinTail lw;rw [uW];rfl
theorem JA {K:Int} (z:K=3\/K=4) {e l:Bool} {I:List TI} (s:1<=I.length) (D:I.length<=256) (ok:∀t∈I,OkI t) (C:(setE K e l I).2=0) {S:aa} {a:Nat} {post:aa} (h:S.drop a=vv K e l I++post):
  xN S a=.inr (K,e,l,I,a+(vv K e l I).length):=by
 obtain ⟨t,J,rfl⟩:∃t J,I=t::J:=by
  cases I with
  | nil=>simp at s
  | cons t J=>exact ⟨t,J,rfl⟩
 have g:brk (endC K)=true:=by unfold endC;split<;>decide
 have b:endC K≠44:=by unfold endC;split<;>decide
 have f:endC K≠46:=by unfold endC;split<;>decide
 unfold vv at h ⊢;rw [CU] at h ⊢;have m:S.drop (a+1)=(if e then [46,46] else [])++((fU t++lw J)++((if l then [46,46] else [])++(endC K::post))):=by
  have:=gP (u:=[if K=4 then 123 else 91]) (v:=((if e then [46,46] else [])++((fU t++lw J)++((if l then [46,46] else [])++[endC K])))++post) (by rw [h];rfl);rw [show a+1=a+[if K=4 then (123:UInt8) else 91].length from rfl,this];simp only [fE,List.singleton_append]
 have p:dts (S.drop (a+1))=e:=by
  rw [m];cases e
  ·simp only [bs,aG,dW];rw [fE];exact sa (LG (ok t mO) _)
  ·rfl
 have o:S.drop (if e then a+3 else a+1)=fU t++(lw J++((if l then [46,46] else [])++(endC K::post))):=by
  rw [<-fE];cases e
  ·simpa using m
  ·have:=gP (u:=[46,46]) m;simpa using this
 have w:endT ((if l then [46,46] else [])++(endC K::post)):=by
  cases l
  ·exact rD g
  ·exact rD (by decide)
 have k:((if l then [46,46] else [])++(endC K::post)).head?≠some 44:=by
  cases l
  ·simp [b]
  ·simp
 have d:dts ((if l then [46,46] else [])++(endC K::post))=l:=by
  cases l
  ·cases i:dts ((if false then [46,46] else [])++(endC K::post))
   ·rfl
   ·obtain ⟨r,n⟩:=yB.1 i;simp at n;exact absurd n.1 f
  ·rfl
 obtain ⟨P,y⟩:=yV g b w k (λi=>by rw [d] at i;subst i;rfl) J t 256 (if e then a+3 else a+1) [] [] (ok t mO) (λu A=>ok u (fN _ A)) (by simp at D;omega) o;have j:S.drop ((if e then a+3 else a+1)+(fU t++lw J).length)=(if l then [46,46] else [])++(endC K::post):=by
  apply gP;rw [o,fE]
 have c:DV S a K=.inr (K,e,l,t::J,a+(((if K=4 then 123 else 91)::((if e then [46,46] else [])++((fU t++lw J)++((if l then [46,46] else [])++[endC K]))):aa).length)):=by
  unfold DV;rw [p,y];simp only [dW];unfold endL;rw [j,d];generalize x:(if e then a+3 else a+1)+(fU t++lw J).length=X at j ⊢;have q:S.drop (if l then X+2 else X)=endC K::post:=by
   cases l
   ·simpa using j
   ·have:=gP (u:=[46,46]) j;simpa using this
  rw [q,List.head?_cons,ae rfl,ae C];have:(if l then X+2 else X)+1=a+(((if K=4 then 123 else 91)::((if e then [46,46] else [])++((fU t++lw J)++((if l then [46,46] else [])++[endC K]))):aa).length):=by
   rw [<-x];cases e<;>cases l<;>simp<;>omega
  rw [this]
 unfold xN;have B:(S.drop a).head?=some (if K=4 then 123 else 91):=by rw [h];rfl
 rw [B];rcases z with rfl | rfl
 ·rw [ae (show some (if (3:Int)=4 then (123:UInt8) else 91)=some 91 from rfl)];exact c
 ·rw [ab (show ¬some (if (4:Int)=4 then (123:UInt8) else 91)=some 91 by decide),ae (show some (if (4:Int)=4 then (123:UInt8) else 91)=some 123 from rfl)];exact c
theorem Dh {x y:TD} {r all:Bool} (h:itE x r y all=0):cF x=0/\(r=true->cF y=0)/\(r=false->y=d0)/\itE x r y false=0:=by
 by_cases hc:cF x=0
 ·refine ⟨hc,?_⟩;cases r
  ·rw [OU hc] at h ⊢;have hy:eqD y d0=true:=by
    cases a:eqD y d0
    ·rw [a] at h;simp at h
    ·rfl
   exact ⟨λh=>(by cases h),λ_=>jn.1 hy,by rw [hy];simp⟩
  ·by_cases hy:cF y=0
   ·rw [WW hc hy] at h ⊢;have b:ordB x y=true:=by
     cases a:ordB x y
     ·rw [a] at h;simp at h
     ·rfl
    exact ⟨λ_=>hy,λh=>(by cases h),by rw [b];simp⟩
   ·rw [Xe hc hy] at h;exact absurd h hy
 ·rw [X9 hc] at h;exact absurd h hc
theorem V3 {t:TI} {all:Bool} (hs:smI t) (h:itI t all=0):OkI t:=by
 obtain ⟨a,b,c,_⟩:=Dh h;exact ⟨hs,a,b,c⟩
theorem N7 {t:TI} (ok:OkI t):ib 20000000 (iF t) (rT t) (iT t)=some (fU t):=by
 unfold ib fU;rw [rfT ok.sm.1 ok.a];cases c:rT t
 ·rfl
 ·have d:=oa ok.sm.1 ok.a;have e:=oa ok.sm.2 (ok.b c);simp only [ah,ob,rfT ok.sm.2 (ok.b c)];rw [dV (by simp only [aV,cG];omega)];simp only [];rw [dV (by simp only [bv,aV,cG];omega)];simp only [aM,fE]
theorem EB:∀{I:List TI},(∀t∈I,OkI t)->(lw I).length<=77*I.length
 | [],_=>by simp [lw]
 | t::I,h=>by
  have c:=xl (h t mO);have b:=EB (I:=I) λu a=>h u (fN _ a);have:lw (t::I)=(44::fU t)++lw I:=by simp [lw]
  rw [this];simp only [bv,aV];omega
theorem yO {I:List TI} (h:∀t∈I,OkI t):(Lib.join (I.map fU) [44]).length<=77*I.length:=by
 cases I with
 | nil=>simp [Lib.join_nil]
 | cons t I=>
  have c:=xl (h t mO);have b:=EB (I:=I) λu a=>h u (fN _ a);rw [CU];simp only [bv,aV];omega
structure SetP (K:Int) (D:TD) (KF:Int) (DF:TD) (KT:Int) (DT:TD) (e l:Bool) (I:List TI):Prop where
 kind:K=3\/K=4
 d:D=d0
 kf:KF=0
 df:DF=d0
 kt:KT=0
 dt:DT=d0
 one:1<=I.length
 most:I.length<=256
 its:∀t∈I,itI t (K==4)=0
 set:(setE K e l I).2=0
theorem zn {A:Type} {f:Nat->A->Int}:∀{L:List A} {k:Nat},oQ f k L=none->∀t∈L,∃i,f i t=0
 | u::L,k,h,t,a=>by
  rw [oQ] at h;split at h
  ·cases h
  ·rename_i b;rcases cq.1 a with rfl | a
   ·exact ⟨k,Ld.1 b⟩
   ·exact zn h t a
theorem H4 {A:Type} {f:Nat->A->Int}:∀{L:List A} {k:Nat} {p:Nat×Int},oQ f k L=some p->p.2≠0
 | u::L,k,p,h=>by
  rw [oQ] at h;split at h
  ·rename_i a;cases h;exact a
  ·exact H4 h
theorem Vq {K:Int} {e l:Bool} {n i:Nat} {t:TI} (h:errI K e l n i t=0):itI t (K==4)=0:=by
 unfold errI at h;split at h
 ·rename_i a;exact absurd h a
 ·rename_i a;exact Ld.1 a
theorem Oz {K:Int} (g:K=3\/K=4) {D:TD} {KF:Int} {DF:TD} {KT:Int} {DT:TD} {e l:Bool} {I:List TI} (h:(pG K D KF DF KT DT e l I).2=0):SetP K D KF DF KT DT e l I:=by
 have j:=h;unfold pG at h;rw [ab (by omega)] at h;split at h
 ·simp at h
 ·rename_i f;rw [ab (by omega),ab (by omega)] at h;split at h
  ·simp at h
  ·split at h
   ·simp at h
   ·unfold xK at h;have o:D=d0/\KF=0/\DF=d0/\KT=0/\DT=d0:=by
     unfold unuB at f;have k1:(K==1)=false:=by rcases g with rfl | rfl<;>rfl
     have k2:(K==2)=false:=by rcases g with rfl | rfl<;>rfl
     have k3:(K==3||(K==4||(decide (I.length=0)&&(!e&&!l))))=true:=by rcases g with rfl | rfl<;>rfl
     rw [k1,k2,k3] at f;generalize n:eqD D d0=z1 at f;generalize m:eqD DF d0=z2 at f;generalize q:eqD DT d0=r at f;simp only [oh,dn,Bool.or_false,DU,gX,jP,not_or,Bool.not_eq_false,aD,bp] at f;obtain ⟨a,⟨b,c⟩,d,e⟩:=f;exact ⟨jn.1 (n.trans a),b,jn.1 (m.trans c),d,jn.1 (q.trans e)⟩
    obtain ⟨rfl,rfl,rfl,rfl,rfl⟩:=o;cases hs:oQ (errI K e l I.length) 0 I with
    | some p=>rw [hs] at h;exact absurd h (H4 hs)
    | none=>
     refine ⟨g,rfl,rfl,rfl,rfl,rfl,by omega,by omega,λt k=>?_,j⟩;obtain ⟨i,hi⟩:=zn hs t k;exact Vq hi
theorem G6 {K:Int} {D:TD} {KF:Int} {DF:TD} {KT:Int} {DT:TD} {e l:Bool} {I:List TI} (p:SetP K D KF DF KT DT e l I) (hs:∀t∈I,smI t):∀t∈I,OkI t/\itI t false=0:=
 λt a=>⟨V3 (hs t a) (p.its t a),(Dh (p.its t a)).2.2.2⟩
def S4 (K:Int):Prop:=K=3\/K=4
instance (K:Int):Decidable (S4 K):=inferInstanceAs (Decidable (K=3\/K=4))
theorem LL (ws:List (aa)) (w:aa) (h:ws≠[]):Lib.join (ws++[w]) [44]=Lib.join ws [44]++[44]++w:=by
 cases ws with
 | nil=>exact absurd rfl h
 | cons a r=>
  rw [eK,Lib.join_cons,Lib.join_cons];unfold Lib.joinTail;simp
theorem Jl {I:List TI} (hs:∀t∈I,OkI t) (n:I.length<=1000) (pre:aa) (hp:pre.length<=10) (K:Int) (D:TD) (KF:Int) (DF:TD) (KT:Int) (DT:TD) (e l:Bool):∀(r i:Nat),i+r=I.length->∀N,r<N->
  av (bZ 20000000) N (pre++Lib.join ((I.take i).map fU) [44],(i:Int),I,K,D,KF,DF,KT,DT,e,l)=some (pre++Lib.join (I.map fU) [44],I,K,D,KF,DF,KT,DT,e,l):=by
 intro r
 induction r with
 | zero=>
  intro i hi N m;obtain ⟨N,rfl⟩:∃k,N=k+1:=⟨N - 1,by omega⟩;obtain rfl:i=I.length:=by omega
  have:∀s,bZ 20000000 (s,((I.length:Nat):Int),I,K,D,KF,DF,KT,DT,e,l)=some (.inr (s,I,K,D,KF,DF,KT,DT,e,l)):=by
   intro s;unfold bZ;simp only [u11,u10,u9,u8,u7,u6,u5,u4,u3,u2];rw [ar (show ¬((I.length:Nat):Int)<len I by show ¬((I.length:Nat):Int)<((I.length:Nat):Int);omega)];rfl
  rw [av,this,mP]
 | succ r ih=>
  intro i hi N m;obtain ⟨N,rfl⟩:∃k,N=k+1:=⟨N - 1,by omega⟩;have a:i<I.length:=by omega
  have c:I[i]?=some I[i]:=aW a;have ok:=hs _ (List.getElem_mem a);generalize I[i]=t at c ok;have p:=yO (I:=I.take i) λu g=>hs u (List.mem_of_mem_take g);have j:(I.take i).length<=1000:=by rw [cP];omega
  have o:=xl ok;have d:(I.take (i+1)).map fU=(I.take i).map fU++[fU t]:=by rw [qU,c];simp
  have:bZ 20000000 (pre++Lib.join ((I.take i).map fU) [44],(i:Int),I,K,D,KF,DF,KT,DT,e,l)=some (.inl (pre++Lib.join ((I.take (i+1)).map fU) [44],((i+1:Nat):Int),I,K,D,KF,DF,KT,DT,e,l)):=by
   unfold bZ;simp only [u11,u10,u9,u8,u7,u6,u5,u4,u3,u2];rw [aq (show (i:Int)<len I by show (i:Int)<((I.length:Nat):Int);omega),dD a];have hit:ib 20000000 (iF t) (d8 t).2.2.1 (d8 t).2.2.2=some (fU t):=N7 ok;simp only [ah,ob,c,hit];rw [d];by_cases f:i=0
   ·subst f;rw [ar (show ¬((0:Nat):Int)>0 by omega),af,dV (by simp only [bv];omega),nW (by omega)];simp [Lib.join_nil,Lib.join_one]
   ·have b:(I.take i).map fU≠[]:=by
     intro h;have:=cD List.length h;rw [Bi,cP,cG] at this;omega
    rw [aq (show (i:Int)>0 by omega),ah,dV (by simp only [bv,aV,cG];omega)];simp only [];rw [dV (by simp only [bv,aV,cG];omega),nW (by omega),LL _ _ b];simp
  rw [av,this];exact ih (i+1) (by omega) N (by omega)
theorem MP {K:Int} (j:S4 K) {I:List TI} (hs:∀t∈I,OkI t) (h:I.length<=1000) (D:TD) (KF:Int) (DF:TD) (KT:Int) (DT:TD) (e l:Bool):la 20000000 K D KF DF KT DT e l I=some (vv K e l I):=by
 have i:=yO hs;have b:=λ(pre:aa) (hp:pre.length<=10)=>Jl hs h pre hp K D KF DF KT DT e l I.length 0 (by omega) 20000000 (by omega);have k:Lib.join ((I.take 0).map fU) [44]=[]:=rfl;rw [k] at b;simp only [kC] at b;unfold la vv;have f:=b [123,46,46] (by simp);have g:=b [123] (by simp);have l3:=b [91,46,46] (by simp);have d:=b [91] (by simp);rw [show ((0:Nat):Int)=0 from rfl] at f g l3 d;rw [f,g,l3,d];generalize Lib.join (I.map fU) [44]=w at i;have a:∀p q:aa,p.length<=10->q.length<=10->cat (p++w) q=some (p++w++q):=λp q hp m=>dV (by simp only [bv];omega);have c:∀p q r:aa,p.length<=10->q.length<=10->r.length<=10->cat (p++w++q) r=some (p++w++q++r):=λp q r hp m n=>dV (by simp only [bv];omega);rcases j with rfl | rfl
 ·rw [show ((3:Int)==4)=false from rfl];cases e<;>cases l<;>simp only [ah,af,ob,u10,u9,u8,u7,u6,u5,u4,u3,u2]
  ·simp only [show ((3:Int)==4)=false from rfl,show ((4:Int)==4)=true from rfl,ah,af];rw [a _ _ (by simp) (by simp)];simp [endC]
  ·rw [a _ _ (by simp) (by simp)];simp only [show ((3:Int)==4)=false from rfl,show ((4:Int)==4)=true from rfl,ah,af];rw [c _ _ _ (by simp) (by simp) (by simp)];simp [endC]
  ·simp only [show ((3:Int)==4)=false from rfl,show ((4:Int)==4)=true from rfl,ah,af];rw [a _ _ (by simp) (by simp)];simp [endC]
  ·rw [a _ _ (by simp) (by simp)];simp only [show ((3:Int)==4)=false from rfl,show ((4:Int)==4)=true from rfl,ah,af];rw [c _ _ _ (by simp) (by simp) (by simp)];simp [endC]
 ·rw [show ((4:Int)==4)=true from rfl];cases e<;>cases l<;>simp only [ah,af,ob,u10,u9,u8,u7,u6,u5,u4,u3,u2]
  ·simp only [show ((3:Int)==4)=false from rfl,show ((4:Int)==4)=true from rfl,ah,af];rw [a _ _ (by simp) (by simp)];simp [endC]
  ·rw [a _ _ (by simp) (by simp)];simp only [show ((3:Int)==4)=false from rfl,show ((4:Int)==4)=true from rfl,ah,af];rw [c _ _ _ (by simp) (by simp) (by simp)];simp [endC]
  ·simp only [show ((3:Int)==4)=false from rfl,show ((4:Int)==4)=true from rfl,ah,af];rw [a _ _ (by simp) (by simp)];simp [endC]
  ·rw [a _ _ (by simp) (by simp)];simp only [show ((3:Int)==4)=false from rfl,show ((4:Int)==4)=true from rfl,ah,af];rw [c _ _ _ (by simp) (by simp) (by simp)];simp [endC]
theorem EJ (K:Int) (D:TD) (KF:Int) (DF:TD) (KT:Int) (DT:TD) (e l:Bool) {I:List TI} (b:I.length<=1000000):gV 20000000 K D KF DF KT DT e l K D KF DF KT DT e l I I=some 1:=by
 unfold gV;rw [Br rfl b,ae rfl];have a:∀x:TD,eqD x x=true:=λx=>jn.2 rfl;simp only [a,uY,hJ,af,Bool.and_self,dn,obs,sm,ob]
theorem S9 (n:Nat) (K:Int) (D:TD) (KF:Int) (DF:TD) (KT:Int) (DT:TD) (c:Nat) (e l:Bool) (A:Int) (y:TD) (g:Int) (d:TD) (b:Int) (f:TD) (z x:Bool) (I J:List TI):
  f9 n K D KF DF KT DT I.length c e l A y g d b f z x I J=gV n K D KF DF KT DT e l A y g d b f z x I J:=by
 unfold f9 gV;have:=yq (s:=cZ n) (s':=gf n) (u19 λx0 a w B C L H F E G m r k q p h x16 v o=>(x0,a,w,B,C,L,H,F,E,a.length,c,G,m,r,k,q,p,h,x16,v,o)) id (by
  rintro ⟨x0,a,w,B,C,L,H,F,E,G,m,r,k,q,p,h,x16,v,o⟩;unfold cZ gf;simp only [u21,u20,u19,u18,u17,u16,u15,u14,u13,u12,u11,u10,u9,u8,u7,u6,u5,u4,u3,u2,K4];rw [show decide (x0<((a.length:Nat):Int))=decide (x0<len a) from rfl];cases decide (x0<len a)
  ·rfl
  ·simp only [ah];cases ix a.length x0 with
   | none=>rfl
   | some i=>
    simp only [ob];cases a[i]? with
    | none=>rfl
    | some t=>
     simp only [ob];cases ix w.length x0 with
     | none=>rfl
     | some j=>
      simp only [ob];cases w[j]? with
      | none=>rfl
      | some u=>
       simp only [ob];cases decide (t=u)<;>rfl) n (0,I,J,K,D,KF,DF,KT,DT,e,l,A,y,g,d,b,f,z,x)
 simp only [u19,u18,u17,u16,u15,u14,u13,u12,u11,u10,u9,u8,u7,u6,u5,u4,u3,u2,Option.map_id,id] at this;rw [this]
theorem Eu (K:Int) (D:TD) (KF:Int) (DF:TD) (KT:Int) (DT:TD) (c:Nat) (e l:Bool) {I:List TI} (a:I.length<=1000000):f9 20000000 K D KF DF KT DT I.length c e l K D KF DF KT DT e l I I=some 1:=
 (S9 _ _ _ _ _ _ _ _ _ _ _ _ _ _ _ _ _ _ _ _).trans (EJ K D KF DF KT DT e l a)
theorem JR {K:Int} (c:S4 K) {e l:Bool} {I:List TI} (d:1<=I.length) (b:I.length<=256) (ok:∀t∈I,OkI t) (a:(setE K e l I).2=0):IL (vv K e l I)=.inr (K,e,l,I):=by
 unfold IL;rw [JA c d b ok a (post:=[]) (by rw [cO,kC])];simp only [];rw [ab (by omega)]
theorem Yu {c:UInt8} (h:mkOf c≠0):mt (mkOf c)=[c]:=by
 unfold mkOf at h ⊢;by_cases d:c=63
 ·subst d;rfl
 ·rw [ab d] at h ⊢;by_cases b:c=126
  ·subst b;rfl
  ·rw [ab b] at h ⊢;by_cases a:c=37
   ·subst a;rfl
   ·rw [ab a] at h;exact absurd rfl h
theorem Ur (l:aa):l=mt (mkS l)++l.drop (mkN l):=by
 cases l with
 | nil=>rfl
 | cons c r=>
  unfold mkN;show c::r=mt (mkOf c)++_;by_cases h:mkOf c=0
  ·rw [ae (show mkS (c::r)=0 from h),h];rfl
  ·rw [ab (show ¬mkS (c::r)=0 from h),Yu h];rfl
theorem G0 (S:aa) (p:Nat):S.drop p=mt (mkS (S.drop p))++S.drop (mkE S p):=by
 have:=Ur (S.drop p);rw [jm] at this;exact this
theorem OA (S:aa) (p:Nat):mkE S p=p+(mt (mkS (S.drop p))).length:=by
 unfold mkE mkN;have a:=C2 (S.drop p);generalize mkS (S.drop p)=k at *;rcases (by omega:k=0\/k=1\/k=2\/k=3) with rfl | rfl | rfl | rfl<;>rfl
theorem EU {S:aa} {p:Nat} (h:¬twoN (S.drop p)<2):S.drop p=(S.drop p).take 2++S.drop (p+2)/\((S.drop p).take 2).length=2/\∀c∈(S.drop p).take 2,isDX c=true:=by
 have b:=vH h;have a:twoN (S.drop p)=2:=by
  have:twoN (S.drop p)<=2:=by
   unfold twoN;have:∀(k:Nat) (l:aa),bE isDX k l<=k:=by
    intro k
    induction k with
    | zero=>intro l;cases l<;>simp [bE]
    | succ k ih=>
     intro l;cases l with
     | nil=>simp [bE]
     | cons c r=>
      simp only [bE];split
      ·have:=ih r;omega
      ·omega
   exact this 2 _
  omega
 refine ⟨by rw [<-jm];exact (tA 2 _).symm,by simp;omega,?_⟩;have:=zC (p:=isDX) 2 (S.drop p);rw [show bE isDX 2 (S.drop p)=2 from a] at this;exact this
theorem zp {S:aa} {p:Nat} (h:¬fA 45 (S.drop p)=0):S.drop p=45::S.drop (p+1):=by
 cases a:S.drop p with
 | nil=>rw [a] at h;exact absurd rfl h
 | cons c r=>
  rw [a,kI] at h;by_cases hc:c=45
  ·subst hc;rw [<-jm,a];rfl
  ·rw [ab hc] at h;exact absurd rfl h
theorem u0 {S:aa} {p k:Nat} {w:aa} (h:S.drop (mkE S p)=w++S.drop (mkE S p+k)):S.drop p=fX (mkS (S.drop p)) (mkS (S.drop (mkE S p+k))) w++S.drop (mkE S (mkE S p+k)):=by
 unfold fX;rw [fE,fE,<-G0,<-h,<-G0]
theorem OC {S:aa} {a:Nat} {g l:Bool} {dg:aa} {x s:Nat} {m d:aa} {M P:Nat×Nat×Nat} {e:Nat} (b:oe S a=.inr (g,l,dg,x,s,m,d,M,P,e)):
  ∃A B,MkD A B m d/\M=spM A B/\P.1=a+(mt A.1).length/\S.drop a=rawD A B g l dg (x:Int) (s:Int) m d++S.drop e:=by
 unfold oe at b;cases hy:pR (S.drop (mkE S a)) with
 | inl k=>rw [hy] at b;cases b
 | inr y=>
  obtain ⟨G,C,o,H,s',k⟩:=y;obtain ⟨E,Q,_⟩:=qV hy;have I:S.drop (mkE S a)=kW G C o (H:Int) (s':Int)++S.drop (mkE S a+k):=by
   rw [<-E,<-jm];exact (tA k _).symm
  have w0:=u0 I;have c:=λp=>C2 (S.drop p);rw [hy] at b;simp only [] at b;by_cases t:0<s'\/fA 45 (S.drop (mkE S (mkE S a+k)))=0
  ·rw [ae t] at b;simp only [Sum.inr.injEq,bG] at b;obtain ⟨rfl,rfl,rfl,rfl,rfl,rfl,rfl,rfl,rfl,rfl⟩:=b;refine ⟨(mkS (S.drop a),0,0),(mkS (S.drop (mkE S a+k)),0,0),⟨c _,by simp,by simp,c _,by simp,by simp,λ_=>⟨rfl,rfl⟩,λ_=>⟨rfl,rfl⟩⟩,rfl,OA S a,?_⟩;unfold rawD;simpa using w0
  ·rw [ab t] at b;have v:=zp (λh=>t (.inr h));unfold rd2 at b;simp only [] at b;generalize J:mkE S (mkE S a+k)=i at *;by_cases u:twoN (S.drop (mkE S (i+1)))<2
   ·rw [ae u] at b;cases b
   rw [ab u] at b;obtain ⟨L,z,O⟩:=EU u;have w:=u0 L;have f:(S.drop (mkE S (i+1))).take 2≠[]:=λh=>by rw [h] at z;simp at z
   by_cases q:fA 45 (S.drop (mkE S (mkE S (i+1)+2)))=0
   ·rw [ae q] at b;simp only [Sum.inr.injEq,bG] at b;obtain ⟨rfl,rfl,rfl,rfl,rfl,rfl,rfl,rfl,rfl,rfl⟩:=b;refine ⟨(mkS (S.drop a),mkS (S.drop (i+1)),0),(mkS (S.drop (mkE S a+k)),mkS (S.drop (mkE S (i+1)+2)),0),⟨c _,c _,by simp,c _,c _,by simp,λh=>absurd h f,λ_=>⟨rfl,rfl⟩⟩,rfl,OA S a,?_⟩;unfold rawD;rw [ab f,ae rfl,kC,fE,eK,<-w,<-v];exact w0
   ·rw [ab q] at b;have D:=zp q;unfold rd3 at b;generalize K:mkE S (mkE S (i+1)+2)=n at *;by_cases r:twoN (S.drop (mkE S (n+1)))<2
    ·rw [ae r] at b;cases b
    rw [ab r] at b;obtain ⟨F,u2,u3⟩:=EU r;have N:=u0 F;have j:(S.drop (mkE S (n+1))).take 2≠[]:=λh=>by rw [h] at u2;simp at u2
    simp only [Sum.inr.injEq,bG] at b;obtain ⟨rfl,rfl,rfl,rfl,rfl,rfl,rfl,rfl,rfl,rfl⟩:=b;refine ⟨(mkS (S.drop a),mkS (S.drop (i+1)),mkS (S.drop (n+1))),(mkS (S.drop (mkE S a+k)),mkS (S.drop (mkE S (i+1)+2)),mkS (S.drop (mkE S (n+1)+2))),⟨c _,c _,c _,c _,c _,c _,λh=>absurd h f,λh=>absurd h j⟩,rfl,OA S a,?_⟩;unfold rawD;rw [ab f,ab j,fE,fE,eK,eK,<-N,<-D,<-w,<-v];exact w0
def okC (c:UInt8):Bool:=isDX c||(isMk c||(c==45||(c==89||(c==69||c==83))))
def isLv (c:UInt8):Bool:=c==69||(c==83||isMk c)
theorem TJ:∀c:UInt8,(!okC c||decide (c.toNat<128))=true:=iP (λc=>!okC c||decide (c.toNat<128)) (by decide +kernel)
theorem Xx {c:UInt8} (h:okC c=true):c.toNat<128:=by
 have:=TJ c;rw [h] at this;simpa using this
def dgC (c:UInt8):UInt8:=if bg c then 100 else c
theorem XM:∀c:UInt8,(!decide (c.toNat<128)||(decide (0<=pB (c.toNat:Int))&&(Lib.encodeRune (pB (c.toNat:Int))==[dgC c])))=true:=
 iP (λc=>!decide (c.toNat<128)||(decide (0<=pB (c.toNat:Int))&&(Lib.encodeRune (pB (c.toNat:Int))==[dgC c]))) (by decide +kernel)
theorem JE:∀{l:aa},(∀c∈l,c.toNat<128)->zu l=l.map dgC:=by
 have a:∀(n:Nat) (l:aa),l.length=n->(∀c∈l,c.toNat<128)->Lib.mapGoD pB n l=l.map dgC:=by
  intro n
  induction n with
  | zero=>intro l b _;rw [s8 b];rfl
  | succ n ih=>
   intro l b h;cases l with
   | nil=>simp at b
   | cons c r=>
    have e:Lib.decodeL (c::r)=(c.toNat,1):=Bf (l:=c::r) (i:=0) rfl (h c mO);rw [Lib.mapGoD,ab (by simp),e];have:=XM c;rw [aq (h c mO)] at this;simp only [dn,oh,aD,cr,bp] at this;rw [ae this.1,this.2];rw [show (c::r).drop 1=r from rfl,ih r (by simpa using b) (λd e=>h d (fN _ e))];rfl
 intro l h;exact a l.length l rfl h
theorem wS (s a:aa):Lib.containsAny s a=s.any (a.contains ·):=by
 induction s with
 | nil=>rfl
 | cons b l ih=>
  unfold Lib.containsAny at ih ⊢;have c:=Lib.indexAny_ge a l;rw [Lib.indexAny,qX];cases d:a.contains b
  ·rw [ab (by simp),oh,<-ih];by_cases h:Lib.indexAny l a=-1
   ·rw [ae (by simp [h]),h]
   ·rw [ab (by simp [h])];congr 1;exact propext (by omega)
  ·simp
def vZ (u:aa):aa:=match u with | c::r=>if c=45 then r else c::r | []=>[]
def kb:List (aa):=[[100,100,100,88],[100,100,88,88],[100,100,100,100,45,88,88],[100,100,100,100,45,100,100,45,88,88],[100,100,100,100,45,88,88,45,88,88]]
def simB (v:aa):Bool:=kb.contains (v.map dgC)
theorem QA (n:Nat) (u:aa):je n u=some (vZ u):=by
 unfold je fY fc vZ;cases u with
 | nil=>rfl
 | cons c r=>
  have a:bx (c::r).length (1:Int)=some 1:=cQ (i:=1) (by simp);rw [aq (show (((c::r).length:Nat):Int)>=1 by rw [aV];omega),ah,a];simp only [ob,oI,oC,cO];by_cases hc:c=45
  ·subst hc;rw [ae rfl];simp
  ·rw [ab hc,show (([c]:aa)==[45])=false from by simp [hc]];rfl
theorem YF (n:Nat) (u:aa):cU n u=some (decide (u.head?=some 89)):=by
 unfold cU fw;cases u with
 | nil=>rfl
 | cons c r=>
  have a:bx (c::r).length (1:Int)=some 1:=cQ (i:=1) (by simp);rw [aq (show (((c::r).length:Nat):Int)>=1 by rw [aV];omega),ah,a];simp only [ob,oI,oC,cO,List.head?_cons,aw];rw [show (([c]:aa)==[89])=decide (c=89) from by rw [sI];simp]
theorem zg (v:aa):dr 20000000 v kb=some (kb.contains v):=by
 have e:∀(r i:Nat),i+r=5->∀N,r<N->av (bq 20000000) N (v,5,(i:Int),kb)=some (if (kb.drop i).contains v then .inl ((i+(kb.drop i).idxOf v:Nat):Int) else .inr ()):=by
  intro r
  induction r with
  | zero=>
   intro i hi N f;obtain ⟨N,rfl⟩:∃k,N=k+1:=⟨N - 1,by omega⟩;obtain rfl:i=5:=by omega
   rw [av];rfl
  | succ r ih=>
   intro i hi N f;obtain ⟨N,rfl⟩:∃k,N=k+1:=⟨N - 1,by omega⟩;have a:i<kb.length:=by show i<5;omega
   have c:=aW a;have:bq 20000000 (v,5,(i:Int),kb)=some (if v=kb[i] then .inr (.inl (i:Int)) else .inl (v,5,((i+1:Nat):Int),kb)):=by
    unfold bq;simp only [];rw [aq (show (i:Int)<5 by omega),ah,dD a];simp only [ob,c];rw [show IntKind.wrap .i64 ((i:Int)+1)=((i+1:Nat):Int) from nW (by omega),gK];split<;>rfl
   rw [av,this,pE a];by_cases b:v=kb[i]
   ·rw [ae b];simp only [];rw [<-b];simp
   ·rw [ab b];simp only [];rw [ih (i+1) (by omega) N (by omega)];have g:(kb[i]==v)=false:=by simp;exact λh=>b h.symm
    have d:(v==kb[i])=false:=by simp;exact b
    rw [List.contains_cons,d,oh,List.idxOf_cons,g];simp only [af];rw [show i+1+List.idxOf v (List.drop (i+1) kb)=i+(List.idxOf v (List.drop (i+1) kb)+1) by omega]
 have:=e 5 0 rfl 20000000 (by omega);unfold dr eU;rw [show av (bq 20000000) 20000000 (v,(((List.length kb):Nat):Int),0,kb)=_ from this];rw [cO];cases h:kb.contains v
 ·rfl
 ·simp only [aM,ob];rw [aq (by omega)]
def lvl (u:aa) (b X:Bool) (code:Int):Int:=
 if u.any isLv then 2 else if 24<code then 2 else if (X&&!simB (vZ u))=true then 2
 else if b=true\/X=true\/0<code\/u.head?=some 45\/u.head?=some 89 then 1 else 0
structure Body (T u:aa) (k:Nat):Prop where
 eq:T=u++mt k
 k4:k<4
 last:∃v z,u=v++[z]/\isMk z=false
 asc:∀c∈T,c.toNat<128
 len:T.length<=1000
theorem Body.ne {T u:aa} {k:Nat} (h:Body T u k):u≠[]:=by
 obtain ⟨v,z,rfl,_⟩:=h.last;simp
theorem Body.ascu {T u:aa} {k:Nat} (h:Body T u k):∀c∈u,c.toNat<128:=λc hc=>h.asc c (by rw [h.eq];exact List.mem_append_left _ hc)
theorem Body.lenu {T u:aa} {k:Nat} (h:Body T u k):u.length<=1000:=by
 have:=h.len;rw [h.eq,bv] at this;omega
theorem RN (c:UInt8):([63,126,37]:aa).contains c=isMk c:=by
 have:=iP (λc=>([63,126,37]:aa).contains c==isMk c) (by decide +kernel) c;simpa using this
theorem Yk {k:Nat} (h:k<4):∀c∈mt k,isMk c=true/\c≠69/\c≠83/\c≠88:=by
 rcases (by omega:k=0\/k=1\/k=2\/k=3) with rfl | rfl | rfl | rfl<;>simp [mt,isMk,mkOf]
theorem K7 {p:UInt8->Bool}:∀{l:aa},(∀c∈l,p c=true)->l.dropWhile p=[]
 | [],_=>rfl
 | c::l,h=>by rw [List.dropWhile_cons,h c mO];exact K7 λd a=>h d (fN _ a)
theorem o5 {T u:aa} {k:Nat} (h:Body T u k):Lib.trimRightS T [63,126,37]=u:=by
 obtain ⟨v,z,rfl,a⟩:=h.last;unfold Lib.trimRightS;rw [h.eq,List.reverse_append,List.reverse_append];have:List.dropWhile (λx=>([63,126,37]:aa).contains x) ((mt k).reverse++([z].reverse++v.reverse))=[z].reverse++v.reverse:=by
  rw [List.dropWhile_append];have b:List.dropWhile (λx=>([63,126,37]:aa).contains x) (mt k).reverse=[]:=by
   refine K7 λc hc=>?_;rw [RN];exact (Yk h.k4 c (GB.1 hc)).1
  rw [b];simp only [List.isEmpty_nil,aM,List.reverse_singleton,List.singleton_append];rw [List.dropWhile_cons,RN,a];simp
 rw [this];simp
theorem Xd (c:UInt8):([63,126,37,69,83]:aa).contains c=isLv c:=by
 have:=iP (λc=>([63,126,37,69,83]:aa).contains c==isLv c) (by decide +kernel) c;simpa using this
theorem Re (u:aa):(u==vZ u)=!decide (u.head?=some 45):=by
 unfold vZ;cases u with
 | nil=>rfl
 | cons c r=>
  simp only [List.head?_cons,aw];by_cases hc:c=45
  ·subst hc;rw [ae rfl,aq rfl];simp only [dn,aJ,ne_eq];intro h;have:=cD List.length h;simp at this
  ·rw [ab hc,ar hc];simp
theorem LU (u:aa):(vZ u).length<=u.length:=by
 unfold vZ;split
 ·split<;>simp
 ·simp
theorem KA {u:aa}:∀c∈vZ u,c∈u:=by
 unfold vZ;split
 ·split
  ·intro c hc;exact fN _ hc
  ·intro c hc;exact hc
 ·intro c hc;exact hc
theorem Fh {T u:aa} {k:Nat} (h:Body T u k):(u==T)=decide (k=0):=by
 rw [h.eq];rcases (by have:=h.k4;omega:k=0\/k=1\/k=2\/k=3) with rfl | rfl | rfl | rfl
 ·simp [mt]
 all_goals
  rw [show decide _=false from rfl,aJ];intro e;have:=cD List.length e;simp [mt] at this
theorem X4 {T u:aa} {k:Nat} (h:Body T u k) {x:TD} (hs:smT x):jL 20000000 T x=some (lvl u (decide (k≠0)) (hasX x.2.2.1||(hasX x.2.2.2.2.2.1||hasX x.2.2.2.2.2.2.1)) (seT x)):=by
 have m:ap10 (bU 20000000) x=some (seT x,decide (0<seT x)):=qO 20000000 _ _ _ _ _ _ _ _ _ _ hs.1;have n:=h.len;have j:=h.lenu;have l:=LU u;have i:yN T [63,126,37]=true:=by
  unfold yN;rw [dm (by omega)];rfl
 have g:A7 (vZ u)=true:=dm (by omega);have f:xC u [63,126,37,69,83]=true:=by
  unfold xC;rw [dm (show u.length<=4294967280 by omega)];have:Nh u=true:=bW.2 λc hc=>dm (h.ascu c hc);rw [this];rfl
 unfold jL;rw [m,fmT hs];simp only [ob,u2,i,ah,o5 h,QA,g,f,JE (λc hc=>h.ascu c (KA c hc)),wS,Xd,YF];rw [show ([[100,100,100,88],[100,100,88,88],[100,100,100,100,45,88,88],[100,100,100,100,45,100,100,45,88,88],[100,100,100,100,45,88,88,45,88,88]]:List (aa))=kb from rfl,zg];simp only [Re,Fh h,Bool.not_not];unfold lvl simB;rw [show (List.any u λx=>isLv x)=u.any isLv from rfl];generalize (hasX x.2.2.1||(hasX x.2.2.2.2.2.1||hasX x.2.2.2.2.2.2.1))=X;generalize kb.contains ((vZ u).map dgC)=F;cases u.any isLv
 ·simp only [af,bs,aG];by_cases b:24<seT x
  ·rw [ae b,aq (show 0<seT x by omega),aq (show seT x>=25 by omega)];rfl
  ·rw [ab b,ar (show ¬seT x>=25 by omega)];have a:(cond (decide (u.head?=some 45)) (some (1:Int)) (cond (decide (u.head?=some 89)) (some 1) (cond (!decide (k=0)) (some 1) (cond (decide (0<seT x)) (some 1) (cond X (some 1) (some 0))))))=some (if decide (k≠0)=true\/X=true\/0<seT x\/u.head?=some 45\/u.head?=some 89 then 1 else 0):=by
    by_cases a1:u.head?=some 45
    ·rw [aq a1,ae (by simp [a1])];rfl
    rw [ar a1];by_cases a2:u.head?=some 89
    ·rw [aq a2,ae (by simp [a2])];rfl
    rw [ar a2];by_cases e:k=0
    ·rw [aq e];by_cases d:0<seT x
     ·rw [aq d,ae (by simp [d])];rfl
     rw [ar d];cases X
     ·rw [ab (by simp [a1,a2,e,d])];rfl
     ·rw [ae (by simp)];rfl
    ·rw [ar e,ae (by simp [e])];rfl
   cases X
   ·simp only [af,yW,bs,aG];simp only [af,bs] at a;rw [<-a];cases decide (0<seT x)<;>rfl
   ·cases F
    ·cases decide (0<seT x)<;>rfl
    ·simp only [ah,dn,af,zN,bs,aG];simp only [ah] at a;rw [<-a];cases decide (0<seT x)<;>rfl
 ·rfl
def D8:aa->Int->Int->Option (Int×Int)
 | [],x,m=>some (x,m)
 | c::r,x,m=>if c=69\/c=83\/(isMk c=true/\r≠[]) then none else D8 r (if c=88 then 1 else x) (if isMk c=true then 1 else m)
theorem X2 (c:UInt8):eH 20000000 ((c.toNat:Nat):Int)=some ((mkOf c:Nat):Int):=(Gh 19999700 c).2
theorem QC (c:UInt8):decide (((mkOf c:Nat):Int)>0)=isMk c:=by
 unfold isMk;by_cases h:0<mkOf c
 ·rw [aq h,aq (by omega)]
 ·rw [ar h,ar (by omega)]
theorem OM {T:aa} (v:T.length<=1000) (x:TD):∀(r i:Nat) (a m:Int),i+r=T.length->∀N,r<N->
  av (dK 20000000) N (T,a,m,(i:Int),x)=some (match D8 (T.drop i) a m with | some p=>.inr (T,p.1,p.2,x) | none=>.inl 2):=by
 intro r
 induction r with
 | zero=>
  intro i a m hi N t;obtain ⟨N,rfl⟩:∃k,N=k+1:=⟨N - 1,by omega⟩;obtain rfl:i=T.length:=by omega
  have:dK 20000000 (T,a,m,((T.length:Nat):Int),x)=some (.inr (.inr (T,a,m,x))):=by
   unfold dK;simp only [u5,u4,u3,u2];rw [ar (show ¬((T.length:Nat):Int)<len T by show ¬((T.length:Nat):Int)<((T.length:Nat):Int);omega)];rfl
  rw [av,this,ue];rfl
 | succ r ih=>
  intro i a m hi N t;obtain ⟨N,rfl⟩:∃k,N=k+1:=⟨N - 1,by omega⟩;have f:i<T.length:=by omega
  have o:T[i]?=some T[i]:=aW f;rw [av,pE f,D8];generalize T[i]=c at o ⊢;have n:T.drop (i+1)≠[]↔i+1<T.length:=by
   rw [ne_eq,List.drop_eq_nil_iff];omega
  have l:(((c.toNat:Nat):Int)==69)=decide (c=69):=rW c 69 (by decide);have j:(((c.toNat:Nat):Int)==83)=decide (c=83):=rW c 83 (by decide);have g:(((c.toNat:Nat):Int)==88)=decide (c=88):=rW c 88 (by decide);have s:w64 (len T - 1)=((T.length - 1:Nat):Int):=F5 (by omega) (by omega);have:dK 20000000 (T,a,m,(i:Int),x)=some (if c=69\/c=83\/(isMk c=true/\T.drop (i+1)≠[]) then .inr (.inl 2) else .inl (T,(if c=88 then 1 else a),(if isMk c=true then 1 else m),((i+1:Nat):Int),x)):=by
   unfold dK;simp only [u5,u4,u3,u2];rw [aq (show (i:Int)<len T by show (i:Int)<((T.length:Nat):Int);omega)];simp only [ah,ob,eF o,l,j,g,X2,QC,s];rw [nW (by omega)];by_cases e:c=69
   ·rw [aq e,ae (.inl e)];rfl
   rw [ar e];by_cases d:c=83
   ·rw [aq d,ae (.inr (.inl d))];rfl
   rw [ar d];simp only [af];cases u:isMk c
   ·rw [ab (by simp [e,d])];simp only [af,bs,aG];by_cases b:c=88
    ·rw [aq b,ae b];rfl
    ·rw [ar b,ab b];rfl
   ·simp only [ah,aM];by_cases q:i+1<T.length
    ·rw [aq (show (i:Int)<((T.length - 1:Nat):Int) by omega),ae (.inr (.inr ⟨trivial,n.2 q⟩))];rfl
    ·rw [ar (show ¬(i:Int)<((T.length - 1:Nat):Int) by omega),ab (by
      rintro (h | h | ⟨_,h⟩)
      ·exact e h
      ·exact d h
      ·exact q (n.1 h))]
     by_cases b:c=88
     ·rw [aq b,ae b];rfl
     ·rw [ar b,ab b];rfl
  rw [this];by_cases hc:c=69\/c=83\/(isMk c=true/\T.drop (i+1)≠[])
  ·rw [ae hc,ae hc]
  ·rw [ab hc,ab hc];exact ih (i+1) _ _ (by omega) N (by omega)
theorem CX:∀(v:aa) (w:aa) (a:Int),w≠[]->D8 (v++w) a 0=if v.any isLv then none else D8 w (if v.any (·==88) then 1 else a) 0
 | [],w,a,_=>by simp
 | c::v,w,a,d=>by
  rw [eK,D8,qX,qX];have e:v++w≠[]:=by
   intro h;exact d (List.append_eq_nil_iff.1 h).2
  by_cases hc:isLv c=true
  ·have:c=69\/c=83\/(isMk c=true/\v++w≠[]):=by
    unfold isLv at hc;simp only [gX,bp] at hc;rcases hc with h | h | h
    ·exact .inl h
    ·exact .inr (.inl h)
    ·exact .inr (.inr ⟨h,e⟩)
   rw [ae this,hc];simp
  ·have hc':isLv c=false:=by simpa using hc
   have f:c≠69/\c≠83/\isMk c=false:=by
    unfold isLv at hc';simp only [ox,aJ] at hc';exact hc'
   rw [ab (by rintro (h | h | ⟨h,_⟩)<;>simp_all),f.2.2,hc'];simp only [bs,aG,oh];rw [CX v w _ d];by_cases b:c=88
   ·subst b;simp
   ·rw [ab b,show (c==88)=false from by simp [b],oh]
theorem XE {T u:aa} {k:Nat} (h:Body T u k):D8 T 0 0=if u.any isLv then none else some (if u.any (·==88) then 1 else 0,if k=0 then 0 else 1):=by
 obtain ⟨v,z,rfl,d⟩:=h.last;rw [h.eq,fE,CX v _ 0 (by simp)];rw [sM,sM];cases v.any isLv
 ·simp only [bs,aG,oh,qX,List.any_nil,Bool.or_false,List.singleton_append];rw [D8,d];by_cases b:z=69
  ·subst b;simp [isLv]
  by_cases a:z=83
  ·subst a;simp [isLv]
  have e:isLv z=false:=by unfold isLv;rw [d];simp [b,a]
  rw [ab (by simp [b,a]),e];simp only [bs,aG];have hx:(if z=88 then (1:Int) else if (v.any λx=>x==88)=true then 1 else 0)=if ((v.any λx=>x==88)||z==88)=true then 1 else 0:=by
   by_cases c:z=88
   ·subst c;simp
   ·rw [ab c,show (z==88)=false from by simp [c],Bool.or_false]
  rw [hx];rcases (by have:=h.k4;omega:k=0\/k=1\/k=2\/k=3) with rfl | rfl | rfl | rfl<;>rfl
 ·simp
theorem yh (f:aa) (u:∀c∈f,c=100\/c=88\/c=45) (w:f.length<=1000) (t:aa):bh 20000000 t f=some (if t.map dgC=f then 1 else 0):=by
 unfold bh;rw [show (len t != len f)=!decide (t.length=f.length) from cD _ (natB _ _)];by_cases m:t.length=f.length
 case neg=>
  rw [ar m,ab (λh=>m (by rw [<-h];simp))];rfl
 rw [aq m];have loop:∀(r i:Nat),i+r=t.length->∀N,r<N->av (eT 20000000) N (t,f,(i:Int))=some (if (t.drop i).map dgC=f.drop i then .inr () else .inl 0):=by
  intro r
  induction r with
  | zero=>
   intro i hi N v;obtain ⟨N,rfl⟩:∃k,N=k+1:=⟨N - 1,by omega⟩;obtain rfl:i=t.length:=by omega
   have:eT 20000000 (t,f,((t.length:Nat):Int))=some (.inr (.inr ())):=by
    unfold eT;simp only [u3,u2];rw [ar (show ¬((t.length:Nat):Int)<len t by show ¬((t.length:Nat):Int)<((t.length:Nat):Int);omega)];rfl
   rw [av,this,ue,m,ue];rfl
  | succ r ih=>
   intro i hi N v;obtain ⟨N,rfl⟩:∃k,N=k+1:=⟨N - 1,by omega⟩;have j:i<t.length:=by omega
   have g:i<f.length:=by omega
   have n:t[i]?=some t[i]:=aW j;have q:f[i]?=some f[i]:=aW g;have s:=u _ (List.getElem_mem g);rw [av,pE j,pE g,fW];generalize t[i]=c at n ⊢;generalize f[i]=d at q s ⊢;have a:(dgC c=d)↔(c=d\/(d=100/\bg c=true)):=by
    unfold dgC;by_cases h:bg c=true
    ·rw [ae h];constructor
     ·intro e;exact .inr ⟨e.symm,h⟩
     ·rintro (e | ⟨e,_⟩)
      ·subst e;rcases s with rfl | rfl | rfl
       ·rfl
       ·exact absurd h (by decide)
       ·exact absurd h (by decide)
      ·exact e.symm
    ·rw [ab h];constructor
     ·intro e;exact .inl e
     ·rintro (e | ⟨_,e⟩)
      ·exact e
      ·exact absurd e h
   have b:bg c=(decide (48<=c.toNat)&&decide (c.toNat<=57)):=by
    have:=iP (λc=>bg c==(decide (48<=c.toNat)&&decide (c.toNat<=57))) (by decide +kernel) c;simpa using this
   have:eT 20000000 (t,f,(i:Int))=some (if dgC c=d then .inl (t,f,((i+1:Nat):Int)) else .inr (.inl 0)):=by
    unfold eT;simp only [u3,u2];rw [aq (show (i:Int)<len t by show (i:Int)<((t.length:Nat):Int);omega)];simp only [ah,ob,eF n,eF q];rw [nW (by omega),show (((c.toNat:Nat):Int) != ((d.toNat:Nat):Int))=!(c==d) from cD _ (nQ c d),show (((d.toNat:Nat):Int)==100)=decide (d=100) from rW d 100 (by decide)];by_cases e:c=d
    ·rw [ae (a.2 (.inl e)),show (c==d)=true from by simp [e]];rfl
    ·rw [show (c==d)=false from by simp [e]];by_cases l:d=100
     ·rw [aq l];simp only [jA,ah];by_cases p:48<=c.toNat
      ·rw [aq (show ((c.toNat:Nat):Int)>=48 by omega)];by_cases o:c.toNat<=57
       ·rw [aq (show ((c.toNat:Nat):Int)<=57 by omega),ae (a.2 (.inr ⟨l,by rw [b];simp [p,o]⟩))];rfl
       ·rw [ar (show ¬((c.toNat:Nat):Int)<=57 by omega),ab (λh=>by
         rcases a.1 h with h | ⟨_,h⟩
         ·exact e h
         ·rw [b] at h;simp [o] at h)];rfl
      ·rw [ar (show ¬((c.toNat:Nat):Int)>=48 by omega),ab (λh=>by
        rcases a.1 h with h | ⟨_,h⟩
        ·exact e h
        ·rw [b] at h;simp [p] at h)];rfl
     ·rw [ar l,ab (λh=>by
       rcases a.1 h with h | ⟨h,_⟩
       ·exact e h
       ·exact l h)];rfl
   rw [this];by_cases e:dgC c=d
   ·rw [ae e];simp only [];rw [ih (i+1) (by omega) N (by omega),e];simp
   ·rw [ab e,ab (λh=>e (List.cons.inj h).1)]
 have:=loop t.length 0 (by omega) 20000000 (by omega);rw [show ((0:Nat):Int)=0 from rfl,cO,cO] at this;rw [this];split<;>rfl
theorem MR (t:aa):(w64 ((w64 ((w64 ((w64 ((if t.map dgC=[100,100,100,88] then (1:Int) else 0)+(if t.map dgC=[100,100,88,88] then (1:Int) else 0)))+(if t.map dgC=[100,100,100,100,45,88,88] then (1:Int) else 0)))+(if t.map dgC=[100,100,100,100,45,100,100,45,88,88] then (1:Int) else 0)))+(if t.map dgC=[100,100,100,100,45,88,88,45,88,88] then (1:Int) else 0))==0)=!simB t:=by
 unfold simB kb;simp only [List.contains_cons,List.contains_nil,Bool.or_false];have e:∀f:aa,(t.map dgC=f)=((t.map dgC==f)=true):=λf=>by simp
 simp only [e];generalize (t.map dgC==[100,100,100,88])=z1;generalize (t.map dgC==[100,100,88,88])=z2;generalize (t.map dgC==[100,100,100,100,45,88,88])=c;generalize (t.map dgC==[100,100,100,100,45,100,100,45,88,88])=a;generalize (t.map dgC==[100,100,100,100,45,88,88,45,88,88])=b;cases z1<;>cases z2<;>cases c<;>cases a<;>cases b<;>rfl
theorem WV (t:aa):bh 20000000 t [100,100,100,88]=some (if t.map dgC=[100,100,100,88] then 1 else 0):=yh _ (by decide) (by decide) t
theorem Xg (t:aa):bh 20000000 t [100,100,88,88]=some (if t.map dgC=[100,100,88,88] then 1 else 0):=yh _ (by decide) (by decide) t
theorem Xn (t:aa):bh 20000000 t [100,100,100,100,45,88,88]=some (if t.map dgC=[100,100,100,100,45,88,88] then 1 else 0):=yh _ (by decide) (by decide) t
theorem Wa (t:aa):bh 20000000 t [100,100,100,100,45,100,100,45,88,88]=some (if t.map dgC=[100,100,100,100,45,100,100,45,88,88] then 1 else 0):=yh _ (by decide) (by decide) t
theorem Xj (t:aa):bh 20000000 t [100,100,100,100,45,88,88,45,88,88]=some (if t.map dgC=[100,100,100,100,45,88,88,45,88,88] then 1 else 0):=yh _ (by decide) (by decide) t
theorem UW {T u:aa} {k:Nat} (h:Body T u k) {g l:Bool} {dg:aa} {e q:Nat} {m d:aa} {M P:Nat×Nat×Nat} {p:Nat} (H:oe T 0=.inr (g,l,dg,e,q,m,d,M,P,p)):
  kP 20000000 T=some (lvl u (decide (k≠0)) (u.any (·==88)) (sea m)):=by
 have K:=h.len;obtain ⟨Q,_,C⟩:=FL 19999700 T 0 (by omega) (by omega) (by omega);rw [show 19999700+300=20000000 from rfl,H,show ((0:Nat):Int)=0 from rfl] at C;have j:=OM K (g,l,dg,(e:Int),(q:Int),m,d,(M.1:Int),(M.2.1:Int),(M.2.2:Int)) T.length 0 0 0 (by omega) 20000000 (by omega);rw [show ((0:Nat):Int)=0 from rfl,cO,XE h] at j;unfold kP;rw [C];simp only [ob,VA];rw [show av (dK 20000000) 20000000 (T,0,0,0,iF (g,l,dg,(e:Int),(q:Int),m,d,(M.1:Int),(M.2.1:Int),(M.2.2:Int),Q,T,(p:Int),(0:Int)))=_ from j];have v:∃c r,u=c::r:=by
  cases f:u with
  | nil=>exact absurd f h.ne
  | cons c r=>exact ⟨c,r,rfl⟩
 have z:ap10 (aO 20000000) (iF (g,l,dg,(e:Int),(q:Int),m,d,(M.1:Int),(M.2.1:Int),(M.2.2:Int),Q,T,(p:Int),(0:Int)))=some (sea m):=rsT _;unfold lvl;cases u.any isLv
 case true=>rfl
 simp only [bs,aG,obs,sm,ob,u4,u3,u2];rw [z];simp only [ob];by_cases b:24<sea m
 ·rw [ae b,show decide (sea m>24)=true from aq b];rfl
 rw [ab b,show decide (sea m>24)=false from ar b,af];have F:=h.k4;have t:=cD List.length h.eq;rw [bv] at t;have s:bx (List.length T) (w64 ((len T) - (if k=0 then (0:Int) else 1)))=some u.length:=by
  have:w64 ((len T) - (if k=0 then (0:Int) else 1))=((u.length:Nat):Int):=by
   have I:len T=((T.length:Nat):Int):=rfl;rw [I,t];show IntKind.wrap .i64 _=_;rw [wrap_i64 _ (by split<;>omega) (by split<;>omega)];rcases (by omega:k=0\/k=1\/k=2\/k=3) with rfl | rfl | rfl | rfl<;>simp [mt]
  rw [this,cQ (by omega)]
 have w:List.take u.length T=u:=by rw [h.eq,AB]
 rw [s];simp only [cO,w];obtain ⟨c,r,f⟩:=v;have A:sx u (0:Int)=some c:=by rw [f];rfl
 have B:sx T (0:Int)=some c:=by rw [h.eq,f];rfl
 have o:vZ u=if c=45 then r else u:=by rw [f];rfl
 have J:u.head?=some c:=by rw [f];rfl
 have b1:bx u.length (1:Int)=some 1:=cQ (i:=1) (by rw [f];simp);have y:List.drop 1 (List.take u.length u)=r:=by rw [mP,f];rfl
 rw [A,B,b1];simp only [y,ob,WV,Xg,Xn,Wa,Xj,MR];rw [show (((c.toNat:Nat):Int)==45)=decide (c=45) from rW c 45 (by decide),show (((c.toNat:Nat):Int)==89)=decide (c=89) from rW c 89 (by decide),J];have a:(cond ((if (u.any λx=>x==88)=true then (1:Int) else 0)==1) (some (1:Int)) (cond ((if k=0 then (0:Int) else 1)==1) (some 1) (cond (decide (sea m>0)) (some 1) (cond (decide (c=45)) (some 1) (cond (decide (c=89)) (some 1) (some 0)))))) =
   some (if decide (k≠0)=true\/(u.any λx=>x==88)=true\/0<sea m\/some c=some 45\/some c=some 89 then 1 else 0):=by
  cases (u.any λx=>x==88)
  ·by_cases a1:k=0
   ·by_cases a2:0<sea m
    ·simp [a1,a2]
    ·by_cases D:c=45
     ·simp [a1,a2,D]
     ·by_cases E:c=89
      ·simp [a1,a2,E]
      ·simp [a1,a2,D,E]
   ·simp [a1]
  ·simp
 by_cases hc:c=45
 ·rw [aq hc,ah];rw [o,ae hc];rw [aq hc] at a;cases n:(u.any λx=>x==88)
  ·rw [n] at a;simp only [yW,bs,aG,show ((0:Int)==1)=false from rfl,af] at a ⊢;exact a
  ·rw [n] at a;cases G:simB r
   ·simp
   ·simp only [aM,show ((1:Int)==1)=true from rfl,ah,af,dn,zN,bs,aG] at a ⊢;exact a
 ·rw [ar hc,af];rw [o,ab hc];rw [ar hc] at a;cases n:(u.any λx=>x==88)
  ·rw [n] at a;simp only [yW,bs,aG,show ((0:Int)==1)=false from rfl,af] at a ⊢;exact a
  ·rw [n] at a;cases G:simB u
   ·simp
   ·simp only [aM,show ((1:Int)==1)=true from rfl,ah,af,dn,zN,bs,aG] at a ⊢;exact a
theorem qE {k:Nat} (h:k<4):(mt k).all okC=true:=by
 rcases (by omega:k=0\/k=1\/k=2\/k=3) with rfl | rfl | rfl | rfl<;>decide
theorem x_mk {k:Nat} (h:k<4):(mt k).any (·==88)=false:=by
 rcases (by omega:k=0\/k=1\/k=2\/k=3) with rfl | rfl | rfl | rfl<;>decide
theorem Xq:((List.range 100).all λk=>(Lib.decDigits k).all λc=>okC c&&(!isMk c&&!(c==88)))=true:=by decide +kernel
theorem ER {k:Nat} (h:k<100) {letter:UInt8} (a:letter=69\/letter=83):(eo letter k).all (λc=>okC c&&(!isMk c&&!(c==88)))=true:=by
 unfold eo;split
 ·rw [mU,(bW.1 Xq) k (jp.2 h)];rcases a with rfl | rfl<;>decide
 ·rfl
theorem KE {c:UInt8} (h:isDX c=true):okC c=true:=by unfold okC;rw [h];rfl
theorem xX {g l:Bool} {dg:aa} {x q:Nat} (h:okY g l dg (x:Int) (q:Int)):kW g l dg (x:Int) (q:Int)≠[]/\(∀c∈kW g l dg (x:Int) (q:Int),okC c=true/\isMk c=false)/\(kW g l dg (x:Int) (q:Int)).any (·==88)=hasX dg:=by
 obtain ⟨m,k,n,o,j,p⟩:=jf h;have hx:x<100:=by omega
 have f:q<100:=by omega
 have d:=ER hx (letter:=69) (.inl rfl);have b:=ER f (letter:=83) (.inr rfl);have a:=NX h;have i:dg≠[]:=by
  rintro rfl;simp at j
 rw [kq];refine ⟨by cases l<;>cases g<;>simp [i],λc hc=>?_,?_⟩
 ·simp only [lk,or_assoc] at hc;rcases hc with hc | hc | hc | hc | hc
  ·cases l
   ·cases hc
   ·rw [lG.1 hc];decide
  ·cases g
   ·cases hc
   ·rw [lG.1 hc];decide
  ·exact ⟨KE (a c hc),I8 (a c hc)⟩
  ·have:=(bW.1 d) c hc;simp only [aD,jP] at this;exact ⟨this.1,this.2.1⟩
  ·have:=(bW.1 b) c hc;simp only [aD,jP] at this;exact ⟨this.1,this.2.1⟩
 ·have no:∀w:aa,w.all (λc=>okC c&&(!isMk c&&!(c==88)))=true->w.any (·==88)=false:=by
   intro w e;rw [sP];intro c hc;have:=(bW.1 e) c hc;simp only [aD,jP] at this;rw [this.2.2];simp
  simp only [sM,no _ d,no _ b,Bool.or_false];unfold hasX;cases l<;>cases g<;>simp
theorem FZ {w:aa} (h:w≠[]) (b:∀c∈w,isMk c=false) (v:aa):∃a z,v++w=a++[z]/\isMk z=false:=
 ⟨v++w.dropLast,w.getLast h,by rw [fE,List.dropLast_concat_getLast],b _ (List.getLast_mem h)⟩
theorem Ia {A B:Nat×Nat×Nat} {g l:Bool} {dg:aa} {x q:Nat} {m d:aa} (hs:ShD g l dg x q m d) (T:MkD A B m d):
  ∃u k,Body (rawD A B g l dg (x:Int) (q:Int) m d) u k/\u.any (·==88)=(hasX dg||(hasX m||hasX d))/\(u.any isLv=false->A=(0,0,0)/\(m≠[]->B.1=0)/\(d≠[]->B.2.1=0))/\k=(if m=[] then B.1 else if d=[] then B.2.1 else B.2.2):=by
 obtain ⟨N,F,D⟩:=xX hs.yr;have yl:=xZ hs.yr;obtain ⟨f,o,v⟩:=A;obtain ⟨i,r,H⟩:=B;obtain ⟨a0,a1,a2,b0,b1,b2,zm,zd⟩:=T;simp only at a0 a1 a2 b0 b1 b2 zm zd;unfold rawD fX;simp only;generalize kW g l dg (x:Int) (q:Int)=Y at *;have b:∀w:aa,w.all okC=true->∀c∈w,c.toNat<128:=λw P c hc=>Xx ((bW.1 P) c hc);have C:Y.all okC=true:=bW.2 λc hc=>(F c hc).1;have j:∀k,k<4->(mt k).length<=1:=λk h=>by
  rcases (by omega:k=0\/k=1\/k=2\/k=3) with rfl | rfl | rfl | rfl<;>simp [mt]
 have W:=j f a0;have K:=j o a1;have Q:=j v a2;have S:=j i b0;have O:=j r b1;have I:=j H b2;have a:∀k,k<4->(mt k).any isLv=false->k=0:=λk h=>by
  rcases (by omega:k=0\/k=1\/k=2\/k=3) with rfl | rfl | rfl | rfl<;>decide
 have p:∀w:aa,w.any (λx=>x==88)=hasX w:=λw=>rfl;by_cases n:m=[]
 ·have e:d=[]:=hs.day.resolve_right (λz=>z.1 n);subst n e;obtain ⟨rfl,rfl⟩:=zm rfl;obtain ⟨rfl,rfl⟩:=zd rfl;simp only [aM,kC];refine ⟨mt f++Y,i,⟨rfl,b0,FZ N (λc hc=>(F c hc).2) _,b _ (by rw [Ep,Ep,qE a0,C,qE b0];rfl),by simp only [bv];omega⟩,?_,?_,rfl⟩
  ·rw [sM,x_mk a0,D];simp [hasX]
  ·intro h;rw [sM,ox] at h;exact ⟨by rw [a _ a0 h.1],λh=>absurd rfl h,λh=>absurd rfl h⟩
 ·obtain ⟨Z,mx⟩:=hs.mon.resolve_left n;have G:m.all okC=true:=bW.2 λc hc=>KE (mx c hc);rw [ab n,ab n];by_cases e:d=[]
  ·subst e;obtain ⟨rfl,rfl⟩:=zd rfl;simp only [aM,kC];refine ⟨mt f++Y++mt i++(45::(mt o++m)),r,⟨by simp,b1,?_,b _ ?_,by simp only [bv,aV];omega⟩,?_,?_,rfl⟩
   ·have:=FZ n (λc hc=>I8 (mx c hc)) (mt f++Y++mt i++(45::mt o));simpa using this
   ·simp only [Ep,mU,qE a0,C,qE b0,qE a1,G,qE b1,show okC 45=true from by decide];rfl
   ·simp only [sM,qX,x_mk a0,x_mk b0,x_mk a1,D];simp only [p];simp [hasX]
   ·intro h;simp only [sM,qX,ox] at h;obtain ⟨⟨⟨s,X⟩,t⟩,M,y,R⟩:=h;exact ⟨by rw [a _ a0 s,a _ a1 y],λ_=>a _ b0 t,λh=>absurd rfl h⟩
  ·obtain ⟨_,J,E⟩:=hs.day.resolve_left e;have Do:d.all okC=true:=bW.2 λc hc=>KE (E c hc);rw [ab e,ab e];refine ⟨mt f++Y++mt i++(45::(mt o++m++mt r))++(45::(mt v++d)),H,⟨by simp,b2,?_,b _ ?_,by simp only [bv,aV];omega⟩,?_,?_,rfl⟩
   ·have:=FZ e (λc hc=>I8 (E c hc)) (mt f++Y++mt i++(45::(mt o++m++mt r))++(45::mt v));simpa using this
   ·simp only [Ep,mU,qE a0,C,qE b0,qE a1,G,qE b1,qE a2,Do,qE b2,show okC 45=true from by decide];rfl
   ·simp only [sM,qX,x_mk a0,x_mk b0,x_mk a1,x_mk b1,x_mk a2,D];simp only [p];simp [Bool.or_assoc]
   ·intro h;simp only [sM,qX,ox] at h;obtain ⟨⟨⟨⟨s,X⟩,t⟩,M,⟨y,R⟩,V⟩,h8,U,L⟩:=h;exact ⟨by rw [a _ a0 s,a _ a1 y,a _ a2 U],λ_=>a _ b0 t,λ_=>a _ b1 V⟩
def mkX (x:TD):Bool:=hasX x.2.2.1||(hasX x.2.2.2.2.2.1||hasX x.2.2.2.2.2.2.1)
def lvT (T:aa) (x:TD):Int:=lvl (Lib.trimRightS T [63,126,37]) (!(Lib.trimRightS T [63,126,37]==T)) (mkX x) (seT x)
theorem Yj {T u:aa} {k:Nat} (h:Body T u k) {x:TD} (hs:smT x):jL 20000000 T x=some (lvT T x):=by
 rw [X4 h hs];unfold lvT mkX;rw [o5 h,Fh h];simp
theorem GK {S:aa} {a:Nat} (h:a<=S.length) {r:DR} (p:dU S a=.inr r):∃A B u k,MkD A B (tdR r).2.2.2.2.2.1 (tdR r).2.2.2.2.2.2.1/\plR r=a+(mt A.1).length/\
  (S.drop a).take (enR r - a)=rawD A B r.1 r.2.1 r.2.2.1 (r.2.2.2.1:Int) (r.2.2.2.2.1:Int) r.2.2.2.2.2.1 r.2.2.2.2.2.2.1/\r.2.2.2.2.2.2.2.1=spM A B/\Body ((S.drop a).take (enR r - a)) u k/\
  jL 20000000 ((S.drop a).take (enR r - a)) (tdR r)=some (lvT ((S.drop a).take (enR r - a)) (tdR r))/\kP 20000000 ((S.drop a).take (enR r - a))=some (lvT ((S.drop a).take (enR r - a)) (tdR r)):=by
 obtain ⟨n,w,F,D⟩:=lV h p;obtain ⟨v,_⟩:=A6 h p;obtain ⟨J,H,E,z,t,m',d',k0,k1,k2,f,ok⟩:=pD n w;obtain ⟨g,l,dg,x,s,m,d,M,P,e⟩:=r;have ok:ShD g l dg x s m d:=by
  unfold tdR at f;simp only [bG] at f;obtain ⟨rfl,rfl,rfl,hx,j,rfl,rfl,_⟩:=f;have hx:x=z:=by omega
  have j:s=t:=by omega
  subst hx j;exact ok.sh
 obtain ⟨A,B,mk,G,C,o⟩:=OC v;have q:(rawD A B g l dg (x:Int) (s:Int) m d).length=e - a:=by
  have:=cD List.length o;simp only [bv,bN] at this;have:a<=e:=F;have:e<=S.length:=D;omega
 have c:(S.drop a).take (e - a)=rawD A B g l dg (x:Int) (s:Int) m d:=by rw [o,<-q,AB]
 obtain ⟨u,k,b,y,_⟩:=Ia ok mk;refine ⟨A,B,u,k,mk,C,c,G,by rw [show enR (g,l,dg,x,s,m,d,M,P,e)=e from rfl,c];exact b,?_,?_⟩
 ·rw [show enR (g,l,dg,x,s,m,d,M,P,e)=e from rfl,c];exact Yj b n
 ·rw [show enR (g,l,dg,x,s,m,d,M,P,e)=e from rfl,c];obtain ⟨I,_,i⟩:=Hl ok mk (S:=rawD A B g l dg (x:Int) (s:Int) m d) (a:=0) (post:=[]) (by simp) uR uR uR;rw [UW b i,y];unfold lvT mkX;rw [o5 b,Fh b];simp only [decide_not];rfl
def mx (a b:Int):Int:=if a>b then a else b
def lvR (S:aa) (p:Nat) (r:DR):Int:=lvT ((S.drop p).take (enR r - p)) (tdR r)
theorem C7 (u:aa) (b X:Bool) (c:Int):0<=lvl u b X c/\lvl u b X c<=2:=by
 unfold lvl
 repeat' split
 all_goals omega
theorem NE (S:aa) (p:Nat) (r:DR):0<=lvR S p r/\lvR S p r<=2:=C7 _ _ _ _
theorem bcT {x:TD} (h:smT x) (K:Int):ap10 (ji 20000000 K) x=some (sH K x):=A4 h.1 h.2.1 h.2.2.1 h.2.2.2.1 h.2.2.2.2.1 h.2.2.2.2.2
theorem CJ (n:Nat) (a:Int) (S:aa) (p:Int) (I:List TI) (K:Int) (D:TD) (KF:Int) (DF:TD) (KT:Int) (DT:TD) (e l:Bool) (lv:Int):
  cS n a S p I K D KF DF KT DT e l lv=some (K,D,KF,DF,KT,DT,e,l,mx a lv):=by
 unfold cS mx;rw [bM]
theorem N1 (I:List TI) (K:Int) (D:TD) (KF:Int) (DF:TD) (KT:Int) (DT:TD) (e l:Bool) (lv:Int) {S:aa} {p:Nat} (h:p<=S.length) (g:S.length<100000):
  dC 20000000 I K D KF DF KT DT e l lv S (p:Int)=some (match dU S p with
   | .inl f=>.inl ((f.1:Int),(f.2.1:Int),K,D,KF,DF,KT,DT,e,l,lv,S,(f.2.2:Int))
   | .inr r=>.inr (tdR r,((plR r:Nat):Int),K,D,KF,DF,KT,DT,e,l,mx (lvR S p r) lv,S,((enR r:Nat):Int))):=by
 unfold dC;rw [ui _ _ _ h,CO S p h g];cases a:dU S p with
 | inl f=>rfl
 | inr r=>
  obtain ⟨i,k,j,d⟩:=lV h a;obtain ⟨_,_,_,_,_,_,_,_,_,b,_⟩:=GK h a;rw [CZ];simp only [obs,sm,ob];rw [show (d4 (d8 ((tdR r).1,(tdR r).2.1,(tdR r).2.2.1,(tdR r).2.2.2.1,(tdR r).2.2.2.2.1,(tdR r).2.2.2.2.2.1,(tdR r).2.2.2.2.2.2.1,(tdR r).2.2.2.2.2.2.2.1,(tdR r).2.2.2.2.2.2.2.2.1,(tdR r).2.2.2.2.2.2.2.2.2,((plR r:Nat):Int),S,((enR r:Nat):Int))))=((enR r:Nat):Int) from rfl,ui _ _ _ d];simp only [];have c:w64 (len (S.drop p) - len (S.drop (enR r)))=((enR r - p:Nat):Int):=by
   show IntKind.wrap .i64 (((S.drop p).length:Int) - ((S.drop (enR r)).length:Int))=_;rw [bN,bN,wrap_i64 _ (by omega) (by omega)];omega
  rw [c,cQ (by rw [bN];omega)];simp only [cO];rw [show jL 20000000 ((S.drop p).take (enR r - p)) (iF ((tdR r).1,(tdR r).2.1,(tdR r).2.2.1,(tdR r).2.2.2.1,(tdR r).2.2.2.2.1,(tdR r).2.2.2.2.2.1,(tdR r).2.2.2.2.2.2.1,(tdR r).2.2.2.2.2.2.2.1,(tdR r).2.2.2.2.2.2.2.2.1,(tdR r).2.2.2.2.2.2.2.2.2,((plR r:Nat):Int),S,((enR r:Nat):Int)))=_ from b];simp only [CJ,u9,u8,u7,u6,u5,u4,u3,u2];rfl
theorem I1 {x:TD} (h:smT x) (hc:cF x=0) (a K:Int) (D:TD) (KF:Int) (DF:TD) (KT:Int) (DT:TD) (e l:Bool) (lv:Int) (S:aa) (p:Int) (I:List TI):
  cY 20000000 x a K D KF DF KT DT e l lv S p I=some (if exT x=true then .inr (1,x) else .inl (a,11)):=by
 unfold cY;rw [bcT h,F7,ae hc];cases exT x<;>rfl
noncomputable def toP (S:aa) (p:Nat) (KF:Int) (DF:TD) (lv:Int):(Nat×Nat)⊕(Int×TD×Int×Nat):=
 if KF=1/\p=S.length then .inr (3,d0,mx 1 lv,p)
 else if KF=1/\dts (S.drop p)=true then .inr (2,d0,mx 1 lv,p+2)
 else match dU S p with
  | .inl f=>.inl (f.1,f.2.1)
  | .inr r=>if exT (tdR r)=true then (if enR r<S.length\/nH KF DF 1 (tdR r)=0 then .inr (1,tdR r,mx (lvR S p r) (if KF=1 then lv else mx 1 lv),enR r) else .inl (plR r,11)) else .inl (plR r,11)
def XB (S:aa) (D:TD) (KF:Int) (DF:TD) (e l:Bool):(Nat×Nat)⊕(Int×TD×Int×Nat)->(Int×TD×Int×TD×Int×TD×Bool×Bool×Int×aa×Int)⊕(Int×Int×Int×TD×Int×TD×Int×TD×Bool×Bool×Int×aa×Int)->Prop
 | .inl f,y=>∃z,y=.inr ((f.1:Int),(f.2:Int),z)
 | .inr (KT,DT,lv,p),y=>y=.inl (2,D,KF,DF,KT,DT,e,l,lv,S,(p:Int))
theorem I4 {S:aa} {p:Nat} (h:p<=S.length):(peek (S.drop p)).2=decide (p<S.length):=by
 by_cases hp:p<S.length
 ·rw [aq hp,ct (aW hp)];rfl
 ·rw [ar hp,jk (by omega)];rfl
theorem SV (I:List TI) (K:Int) {DF:TD} (E:smT DF) (KF:Int) (lv:Int) {S:aa} {p:Nat} (h:p<=S.length) (hS:S.length<100000):
  ∃y,fF 20000000 I K d0 KF DF 0 d0 false false lv S (p:Int)=some y/\XB S d0 KF DF false false (toP S p KF DF lv) y:=by
 have s:∀(m:Int) (t:m=if KF=1 then lv else mx 1 lv) (Z:¬(KF=1/\p=S.length)) (o:¬(KF=1/\dts (S.drop p)=true)),∃y,(obs (dC 20000000 I 2 d0 KF DF 0 d0 false false m S (p:Int)) (u13 λH T D M B C V J G Q z A W=>(some (.inr (H,T,D,M,B,C,V,J,G,Q,z,A,W)))) (u13 λO u j g d c w v k i e a b=>(obs (cY 20000000 O u j g d c w v k i e a b I) (u2 λP L=>(some (.inr (P,L,j,g,d,c,w,v,k,i,e,a,b)))) (u2 λl n=>(ob (bj 20000000 a b) (u2 λ_ R=>(cond (!R) (ob (ap10 (ap10 (iH 20000000 d) c l) n) λF=>(cond (F != 0) (ob (aR 20000000 u 11 a b) (u2 λU N=>(some (.inr (U,N,j,g,d,c,l,n,k,i,e,a,b))))) (some (.inl (j,g,d,c,l,n,k,i,e,a,b))))) (some (.inl (j,g,d,c,l,n,k,i,e,a,b))))))))))=some y/\XB S d0 KF DF false false (toP S p KF DF lv) y:=by
  intro m t Z o;unfold toP;rw [N1 I 2 d0 KF DF 0 d0 false false m h hS,ab Z,ab o];cases hr:dU S p with
  | inl f=>exact ⟨_,rfl,_,rfl⟩
  | inr r=>
   obtain ⟨X,c1,l1,Y⟩:=lV h hr;simp only [obs,sm,ob,u13,u12,u11,u10,u9,u8,u7,u6,u5,u4,u3,u2];rw [I1 X c1];cases hx:exT (tdR r)
   ·exact ⟨_,rfl,_,rfl⟩
   ·simp only [aM,pS _ _ _ Y,I4 Y];by_cases x:enR r<S.length
    ·rw [aq x,ae (.inl x)];exact ⟨_,rfl,by rw [<-t];rfl⟩
    ·rw [ar x];simp only [jA,ah];rw [Lh E X];simp only [];by_cases hp:nH KF DF 1 (tdR r)=0
     ·rw [ae (.inr hp),show (nH KF DF 1 (tdR r) != 0)=false from by simp [hp]];exact ⟨_,rfl,by rw [<-t];rfl⟩
     ·rw [ab (by rintro (h | h)<;>contradiction),show (nH KF DF 1 (tdR r) != 0)=true from by simp [hp]];exact ⟨_,rfl,_,rfl⟩
 unfold fF;by_cases q:KF=1
 ·rw [show (KF==1)=true from by simp [q],ah,pS _ _ _ h];simp only [ob,u2,I4 h,CJ];by_cases hp:p<S.length
  ·rw [aq hp];simp only [dn,af];rw [m9 _ _ _ _ h (by omega)];cases o:dts (S.drop p)
   ·rw [ab (show ¬(S.drop p).take [(46:UInt8),46].length=[46,46] from λh=>by unfold dts at o;rw [show (S.drop p).take 2=[46,46] from h] at o;cases o)];exact s lv (by rw [ae q]) (by omega) (by rw [o];simp)
   ·rw [ae (show (S.drop p).take [(46:UInt8),46].length=[46,46] from eq_of_beq o)];refine ⟨_,rfl,?_⟩;unfold toP;rw [ab (by omega),ae ⟨q,o⟩];rfl
  ·rw [ar hp];refine ⟨_,rfl,?_⟩;unfold toP;rw [ae ⟨q,by omega⟩];rfl
 ·rw [show (KF==1)=false from by simp [q],af,CJ];simp only [ob,u9,u8,u7,u6,u5,u4,u3,u2];exact s (mx 1 lv) (by rw [ab q]) (by simp [q]) (by simp [q])
noncomputable def toX (S:aa) (p:Nat) (KF:Int) (DF:TD) (lv:Int):(Nat×Nat)⊕(Int×TD×Int):=match toP S p KF DF lv with
 | .inl f=>.inl f
 | .inr (KT,DT,L,q)=>if q<S.length then .inl (q,5) else .inr (KT,DT,L)
noncomputable def pK (S:aa):(Nat×Nat)⊕(Int×TD×Int×TD×Int×TD×Int)⊕(Int×Bool×Bool×List TI):=
 if S.head?=some 91\/S.head?=some 123 then (match IL S with | .inl f=>.inl f | .inr q=>.inr (.inr q))
 else if S.head?=some 47 then (match toX S 1 3 d0 0 with | .inl f=>.inl f | .inr (KT,DT,L)=>.inr (.inl (2,d0,3,d0,KT,DT,L)))
 else if dts S=true then (if (S.drop 2).head?=some 47 then (match toX S 3 2 d0 0 with | .inl f=>.inl f | .inr (KT,DT,L)=>.inr (.inl (2,d0,2,d0,KT,DT,L))) else .inl (2,5))
 else match dU S 0 with
  | .inl f=>.inl (f.1,f.2.1)
  | .inr r=>if (S.drop (enR r)).head?=some 47 then (if exT (tdR r)=true then (match toX S (enR r+1) 1 (tdR r) (lvR S 0 r) with | .inl f=>.inl f | .inr (KT,DT,L)=>.inr (.inl (2,d0,1,tdR r,KT,DT,L))) else .inl (plR r,11))
   else if enR r<S.length then .inl (enR r,5) else .inr (.inl (1,tdR r,0,d0,0,d0,lvR S 0 r))
def Uw:(Nat×Nat)⊕(Int×TD×Int×TD×Int×TD×Int)⊕(Int×Bool×Bool×List TI)->(Int×TD×Int×TD×Int×TD×Bool×Bool×Int×Int×Int×List TI)⊕(Int×TD×Int×TD×Int×TD×Nat×Nat×Bool×Bool×Int×Int×Int×List TI)
 | .inl f=>.inl (0,d0,0,d0,0,d0,false,false,0,(f.1:Int),(f.2:Int),[])
 | .inr (.inl (K,D,KF,DF,KT,DT,L))=>.inl (K,D,KF,DF,KT,DT,false,false,L,0,0,[])
 | .inr (.inr (K,e,l,I))=>.inr (K,d0,0,d0,0,d0,I.length,I.length,e,l,2,0,0,I)
theorem yS {S:aa} {p:Nat} (h:p<=S.length) {f:Nat×Nat×Nat} (a:dU S p=.inl f):f.2.1≠0:=xW (k:=f.1) (E:=f.2.1) (p:=f.2.2) h a
theorem GH {S:aa} {p:Nat} (h:p<=S.length) {KF:Int} {DF:TD} {lv:Int} {f:Nat×Nat} (a:toP S p KF DF lv=.inl f):f.2≠0:=by
 unfold toP at a;split at a
 ·cases a
 ·split at a
  ·cases a
  ·cases b:dU S p with
   | inl g=>rw [b] at a;cases a;exact yS h b
   | inr r=>
    rw [b] at a;simp only [] at a;split at a
    ·split at a
     ·cases a
     ·cases a;simp
    ·cases a;simp
theorem Es (l:aa) (c:UInt8) (hc:c≠0):((peek l).1==((c.toNat:Nat):Int))=decide (l.head?=some c):=by
 have:=Xs l c hc;cases l with
 | nil=>exact this
 | cons a r=>exact this
theorem Hj {S:aa} {p:Nat} (h:p<=S.length) (a:S.length<100000) (c:UInt8):aE 20000000 [c] S (p:Int)=some (decide ((S.drop p).head?=some c),S,((if (S.drop p).head?=some c then p+1 else p:Nat):Int)):=by
 rw [m9 _ _ _ _ h (by omega)];simp only [tk1];by_cases hc:(S.drop p).head?=some c
 ·rw [ae hc,ae hc,aq hc];rfl
 ·rw [ab hc,ab hc,ar hc]
theorem KN {S:aa} {p:Nat} (h:p<=S.length) (b:S.length<100000):aE 20000000 [46,46] S (p:Int)=some (dts (S.drop p),S,((if dts (S.drop p)=true then p+2 else p:Nat):Int)):=by
 rw [m9 _ _ _ _ h (by omega)];cases a:dts (S.drop p)
 ·rw [ab (show ¬(S.drop p).take [(46:UInt8),46].length=[46,46] from λh=>by unfold dts at a;rw [show (S.drop p).take 2=[46,46] from h] at a;cases a)];rfl
 ·rw [ae (show (S.drop p).take [(46:UInt8),46].length=[46,46] from eq_of_beq a)];rfl
theorem Jo {S:aa} {p:Nat} (h:p<=S.length) (c:S.length<100000):cf 20000000 [47] S (p:Int)=some (if (S.drop p).head?=some 47 then .inl (S,((p+1:Nat):Int)) else .inr ((p:Int),5,S,(p:Int))):=by
 rw [CH _ _ _ _ h (by omega) (by simp) (by simp)];simp only [tk1];by_cases hc:(S.drop p).head?=some 47
 ·rw [ae hc,ae hc];rfl
 ·rw [ab hc,ab hc];have:lcp (S.drop p) [47]=0:=by
   cases b:S.drop p with
   | nil=>rfl
   | cons a r=>
    rw [b] at hc;simp only [lcp];rw [show (a==47)=false from by rw [aJ];rintro rfl;exact hc rfl];rfl
  rw [this];rfl
def VB (S:aa):(Nat×Nat)⊕(Int×TD×Int×TD×Int×TD×Int×Nat)⊕(Int×Bool×Bool×List TI×Nat)->((Int×Int×Int×TD×Int×TD×Int×TD×Bool×Bool×Int×aa×Int)⊕(Int×TD×Int×TD×Int×TD×Nat×Nat×Bool×Bool×Int×aa×Int×List TI)⊕(Int×TD×Int×TD×Int×TD×Bool×Bool×Int×aa×Int)⊕(Int×TD×Int×TD×Int×TD×Bool×Bool×Int×aa×Int×List TI))->Prop
 | .inl f,y=>∃z,y=.inl ((f.1:Int),(f.2:Int),z)
 | .inr (.inl (K,D,KF,DF,KT,DT,L,p)),y=>y=.inr (.inr (.inl (K,D,KF,DF,KT,DT,false,false,L,S,(p:Int))))\/y=.inr (.inr (.inr (K,D,KF,DF,KT,DT,false,false,L,S,(p:Int),[])))
 | .inr (.inr (K,e,l,I,p)),y=>y=.inr (.inl (K,d0,0,d0,0,d0,I.length,I.length,e,l,2,S,(p:Int),I))
noncomputable def BX (S:aa):(Nat×Nat)⊕(Int×TD×Int×TD×Int×TD×Int×Nat)⊕(Int×Bool×Bool×List TI×Nat):=
 if S.head?=some 91\/S.head?=some 123 then (match xN S 0 with | .inl f=>.inl (f.1,f.2.1) | .inr q=>.inr (.inr q))
 else if S.head?=some 47 then (match toP S 1 3 d0 0 with | .inl f=>.inl f | .inr (KT,DT,L,q)=>.inr (.inl (2,d0,3,d0,KT,DT,L,q)))
 else if dts S=true then (if (S.drop 2).head?=some 47 then (match toP S 3 2 d0 0 with | .inl f=>.inl f | .inr (KT,DT,L,q)=>.inr (.inl (2,d0,2,d0,KT,DT,L,q))) else .inl (2,5))
 else match dU S 0 with
  | .inl f=>.inl (f.1,f.2.1)
  | .inr r=>if (S.drop (enR r)).head?=some 47 then (if exT (tdR r)=true then (match toP S (enR r+1) 1 (tdR r) (lvR S 0 r) with | .inl f=>.inl f | .inr (KT,DT,L,q)=>.inr (.inl (2,d0,1,tdR r,KT,DT,L,q))) else .inl (plR r,11))
   else .inr (.inl (1,tdR r,0,d0,0,d0,lvR S 0 r,enR r))
theorem mx0 {a:Int} (h:0<=a):mx a 0=a:=by unfold mx;split<;>omega
theorem UG {S:aa} (i:S.length<100000):∃y,iI 20000000 [] 0 d0 0 d0 0 d0 false false 0 S 0=some y/\VB S (BX S) y:=by
 have z0:(0:Int)=((0:Nat):Int):=rfl;have N:=pS 20000000 S 0 (ie _);rw [cO,show ((0:Nat):Int)=0 from rfl] at N;have Q:=U5 (S:=S) (a:=0) (ie _) i;rw [show ((0:Nat):Int)=0 from rfl] at Q;have R:=Hj (S:=S) (p:=0) (ie _) i 47;rw [cO,show ((0:Nat):Int)=0 from rfl] at R;have P:=KN (S:=S) (p:=0) (ie _) i;rw [cO,show ((0:Nat):Int)=0 from rfl] at P;have T:=N1 [] 0 d0 0 d0 0 d0 false false 0 (S:=S) (p:=0) (ie _) i;rw [show ((0:Nat):Int)=0 from rfl] at T;have w:((peek S).1==91)=decide (S.head?=some 91):=Es S 91 (by decide);have l:((peek S).1==123)=decide (S.head?=some 123):=Es S 123 (by decide);have set:(S.head?=some 91\/S.head?=some 123)->∃y,(obs (nr 20000000 S 0) (u4 λU v2 v3 v4=>(some (.inl (U,v2,0,d0,0,d0,0,d0,false,false,0,v3,v4)))) (u13 λX W v7 v8 v9 G J F H x o n k=>(ob (fS 20000000 2 o n k X W v7 v8 v9 G J F H x 0) (u11 λt C E v B K A D s u M=>(some (.inr (.inl (t,C,E,v,B,K,A,D,s,u,M,o,n,k))))))))=some y/\VB S (BX S) y:=by
  intro h;rw [Q];unfold BX;rw [ae h];cases xN S 0 with
  | inl f=>exact ⟨_,rfl,_,rfl⟩
  | inr q=>exact ⟨_,rfl,rfl⟩
 unfold iI;rw [N];simp only [ob,u2,w,l];by_cases g:S.head?=some 91
 ·rw [aq g,ah];exact set (.inl g)
 rw [ar g,af];by_cases b:S.head?=some 123
 ·rw [aq b,ah];exact set (.inr b)
 rw [ar b,af,R];clear set;unfold BX;rw [ab (show ¬(S.head?=some 91\/S.head?=some 123) from λh=>h.elim g b)];simp only [u3,u2];by_cases e:S.head?=some 47
 ·simp only [aq e,ae e,ah];have I:1<=S.length:=by
   have:=nI (S:=S) (p:=0) (c:=47) (by rw [cO];exact e);omega
  obtain ⟨y,m,d⟩:=SV [] 0 ri 3 0 (S:=S) (p:=1) I i;rw [show (((0+1:Nat)):Int)=((1:Nat):Int) from rfl,m];cases j:toP S 1 3 d0 0 with
  | inl f=>
   rw [j] at d;obtain ⟨z,rfl⟩:=d;exact ⟨_,rfl,_,rfl⟩
  | inr q=>
   rw [j] at d;obtain ⟨KT,DT,L,q⟩:=q;subst d;exact ⟨_,rfl,.inl rfl⟩
 ·simp only [ar e,ab e,af];rw [show (((0:Nat)):Int)=0 from rfl,P];simp only [];cases Y:dts S
  ·rw [ab (by simp),ab (by simp),af,show (((0:Nat)):Int)=0 from rfl,T];cases hr:dU S 0 with
   | inl f=>exact ⟨_,rfl,_,rfl⟩
   | inr r=>
    obtain ⟨O,V,l1,Z⟩:=lV (ie _) hr;simp only [obs,sm,ob,u13,u12,u11,u10,u9,u8,u7,u6,u5,u4,u3,u2];rw [Hj Z i,mx0 (NE S 0 r).1];simp only [];by_cases hs:(S.drop (enR r)).head?=some 47
    ·simp only [aq hs,ae hs,dn,af];rw [I1 O V];cases hx:exT (tdR r)
     ·exact ⟨_,rfl,_,rfl⟩
     ·obtain ⟨y,m,d⟩:=SV [] 0 O 1 (lvR S 0 r) (S:=S) (p:=enR r+1) (nI hs) i;simp only [aM];rw [m];cases j:toP S (enR r+1) 1 (tdR r) (lvR S 0 r) with
      | inl f=>
       rw [j] at d;obtain ⟨z,rfl⟩:=d;exact ⟨_,rfl,_,rfl⟩
      | inr q=>
       rw [j] at d;obtain ⟨KT,DT,L,q⟩:=q;subst d;exact ⟨_,rfl,.inl rfl⟩
    ·simp only [ar hs,ab hs];exact ⟨_,rfl,.inr rfl⟩
  ·rw [ae rfl,ae rfl,ah];have I:2<=S.length:=by
    have:=uf (S:=S) (p:=0) (by rw [cO];exact Y);omega
   rw [show (((0+2:Nat)):Int)=((2:Nat):Int) from rfl,Jo I i];by_cases hs:(S.drop 2).head?=some 47
   ·simp only [ae hs];obtain ⟨y,m,d⟩:=SV [] 0 ri 2 0 (S:=S) (p:=3) (nI hs) i;rw [show (((2+1:Nat)):Int)=((3:Nat):Int) from rfl];simp only [obs,sm,ob,u2,m];cases j:toP S 3 2 d0 0 with
    | inl f=>
     rw [j] at d;obtain ⟨z,rfl⟩:=d;exact ⟨_,rfl,_,rfl⟩
    | inr q=>
     rw [j] at d;obtain ⟨KT,DT,L,q⟩:=q;subst d;exact ⟨_,rfl,.inl rfl⟩
   ·simp only [ab hs];exact ⟨_,rfl,_,rfl⟩
theorem Kz {S:aa} {f:Nat×Nat} (a:BX S=.inl f):f.2≠0:=by
 unfold BX at a;split at a
 ·cases b:xN S 0 with
  | inl g=>rw [b] at a;cases a;exact LH (ie _) b
  | inr q=>rw [b] at a;cases a
 ·split at a
  ·rename_i h;cases b:toP S 1 3 d0 0 with
   | inl g=>
    rw [b] at a;cases a;exact GH (nI (S:=S) (p:=0) (by rw [cO];exact h)) b
   | inr q=>rw [b] at a;cases a
  ·split at a
   ·split at a
    ·rename_i h;cases b:toP S 3 2 d0 0 with
     | inl g=>rw [b] at a;cases a;exact GH (nI h) b
     | inr q=>rw [b] at a;cases a
    ·cases a;simp
   ·cases b:dU S 0 with
    | inl g=>rw [b] at a;cases a;exact yS (ie _) b
    | inr r=>
     rw [b] at a;simp only [] at a;split at a
     ·rename_i h;split at a
      ·cases c:toP S (enR r+1) 1 (tdR r) (lvR S 0 r) with
       | inl g=>rw [c] at a;cases a;exact GH (nI h) c
       | inr q=>rw [c] at a;cases a
      ·cases a;simp
     ·cases a
theorem FU (S:aa):pK S=match BX S with
  | .inl f=>.inl f
  | .inr (.inl (K,D,KF,DF,KT,DT,L,q))=>if q<S.length then .inl (q,5) else .inr (.inl (K,D,KF,DF,KT,DT,L))
  | .inr (.inr (K,e,l,I,q))=>if q<S.length then .inl (q,5) else .inr (.inr (K,e,l,I)):=by
 unfold pK BX IL toX;split
 ·cases xN S 0 with
  | inl f=>rfl
  | inr q=>
   obtain ⟨_,_,_,_,p⟩:=q;by_cases hp:p<S.length<;>simp [hp]
 ·split
  ·cases toP S 1 3 d0 0 with
   | inl f=>rfl
   | inr q=>
    obtain ⟨_,_,_,p⟩:=q;by_cases hp:p<S.length<;>simp [hp]
  ·split
   ·split
    ·cases toP S 3 2 d0 0 with
     | inl f=>rfl
     | inr q=>
      obtain ⟨_,_,_,p⟩:=q;by_cases hp:p<S.length<;>simp [hp]
    ·rfl
   ·cases dU S 0 with
    | inl f=>rfl
    | inr r=>
     simp only [];split
     ·split
      ·cases toP S (enR r+1) 1 (tdR r) (lvR S 0 r) with
       | inl f=>rfl
       | inr q=>
        obtain ⟨_,_,_,p⟩:=q;by_cases hp:p<S.length<;>simp [hp]
      ·rfl
     ·rfl
theorem Q8 {S:aa} (g:S.length<=16384):iw 20000000 S=some (Uw (pK S)):=by
 obtain ⟨y,c,a⟩:=UG (S:=S) (by omega);unfold iw eC;rw [show decide (len S>16384)=false from ar (by show ¬(16384:Int)<((S.length:Nat):Int);omega),af,c,FU];cases b:BX S with
 | inl f=>
  have d:=Kz b;rw [b] at a;obtain ⟨z,rfl⟩:=a;simp only [obs,sm,ob,u13,u12,u11,u10,u9,u8,u7,u6,u5,u4,u3,u2];rw [show (((f.2:Nat):Int) != 0)=true from by simp;omega];rfl
 | inr q=>
  rw [b] at a;cases q with
  | inl q=>
   obtain ⟨K,D,KF,DF,KT,DT,L,p⟩:=q;simp only [];rcases a with rfl | rfl
   ·simp only [obs,sm,ob,u13,u12,u11,u10,u9,u8,u7,u6,u5,u4,u3,u2];by_cases hp:p<S.length
    ·rw [ae hp,aq (show (p:Int)<((S.length:Nat):Int) by omega)];rfl
    ·rw [ab hp,ar (show ¬(p:Int)<((S.length:Nat):Int) by omega)];rfl
   ·simp only [obs,sm,ob,u14,u13,u12,u11,u10,u9,u8,u7,u6,u5,u4,u3,u2];by_cases hp:p<S.length
    ·rw [ae hp,aq (show (p:Int)<((S.length:Nat):Int) by omega)];rfl
    ·rw [ab hp,ar (show ¬(p:Int)<((S.length:Nat):Int) by omega)];rfl
  | inr q=>
   obtain ⟨K,e,l,I,p⟩:=q;subst a;simp only [obs,sm,ob,u16,u15,u14,u13,u12,u11,u10,u9,u8,u7,u6,u5,u4,u3,u2];by_cases hp:p<S.length
   ·rw [ae hp,aq (show (p:Int)<((S.length:Nat):Int) by omega)];rfl
   ·rw [ab hp,ar (show ¬(p:Int)<((S.length:Nat):Int) by omega)];rfl
def lvX (x:TD):Int:=lvT (gI x) x
theorem Et {x:TD} (hs:smT x) (hc:cF x=0):∃r,dU (gI x) 0=.inr r/\tdR r=x/\enR r=(gI x).length/\lvR (gI x) 0 r=lvX x:=by
 obtain ⟨r,d,c,b⟩:=zR hs hc (S:=gI x) (a:=0) (post:=[]) (by simp) H7;rw [cX] at b;refine ⟨r,d,c,b,?_⟩;unfold lvR lvX;rw [c,b,rN,cO,mP]
theorem rJ (x:TD):0<=lvX x/\lvX x<=2:=C7 _ _ _ _
theorem QG {S:aa} {a:Nat} (h:a<=S.length) {r:DR} (I:dU S a=.inr r):lvX (tdR r)<=lvR S a r:=by
 obtain ⟨Q,N,_,_⟩:=lV h I;obtain ⟨A,B,u,k,mk,_,G,v,H,_,_⟩:=GK h I;obtain ⟨g',l',W,U,K,m',d',k0,k1,k2,L,ok⟩:=pD Q N;unfold lvR;generalize V:(S.drop a).take (enR r - a)=T at *;obtain ⟨g,l,dg,x,s,m,d,M,P,e⟩:=r;obtain ⟨t,q,n⟩:=M;have D:=L;unfold tdR at D;simp only [bG] at D;obtain ⟨rfl,rfl,rfl,hx,y,rfl,rfl,E,w,F⟩:=D;simp only at v G mk hx y E w F;have hx:x=U:=by omega
 have y:s=K:=by omega
 have E:t=k0:=by omega
 have w:q=k1:=by omega
 have F:n=k2:=by omega
 subst hx y E w F;obtain ⟨R,k',o,_,X,O⟩:=Ia ok.sh mk;rw [<-G] at o;have Y:u=R:=by rw [<-o5 H,<-o5 o]
 subst Y;cases J:u.any isLv with
 | true=>
  have:lvT T (tdR (g,l,dg,x,s,m,d,(t,q,n),P,e))=2:=by
   unfold lvT lvl;rw [o5 H,J];rfl
  rw [this];exact (rJ _).2
 | false=>
  obtain ⟨C,c,b⟩:=X J;have:gI (tdR (g,l,dg,x,s,m,d,(t,q,n),P,e))=T:=by
   rw [G];show rawD (plA (bD m d) t q n) (plB (bD m d) t q n) g l dg (x:Int) (s:Int) m d=_;obtain ⟨Z,B1,B2⟩:=B;subst C;simp only at c b v;have p:=mk.zm;have f:=mk.zd;simp only at p f;simp only [spM,bG,Nat.zero_or] at v;obtain ⟨rfl,rfl,rfl⟩:=v;by_cases j:m=[]
   ·have i:d=[]:=ok.day.resolve_right (λz=>z.1 j);obtain ⟨_,rfl⟩:=p j;obtain ⟨_,rfl⟩:=f i;subst j i;rw [IV];simp [plA,plB,MD]
   ·have c:=c j;subst c;by_cases i:d=[]
    ·obtain ⟨_,rfl⟩:=f i;subst i;rw [IC j];simp [plA,plB,MD]
    ·have b:=b i;subst b;rw [G8 j i];simp [plA,plB,MD]
  unfold lvX;rw [this];exact sL _
def lx (K:Int) (x:TD):aa:=if K=2 then [46,46] else if K=3 then [] else gI x
def okB (K:Int) (x:TD):Prop:=(K=1/\cF x=0/\exT x=true)\/((K=2\/K=3)/\x=d0)
theorem Ro {K:Int} {x:TD} (h:sH K x=0):okB K x:=by
 by_cases c:K=1
 ·subst c;obtain ⟨a,b⟩:=tQ h;exact .inl ⟨rfl,a,b⟩
 ·unfold sH chkB at h;rw [ab c] at h;split at h
  ·rename_i e;split at h
   ·rename_i d;exact .inr ⟨e,jn.1 d⟩
   ·cases h
  ·cases h
theorem nq {KF KT:Int} {x y:TD} (h:nH KF x KT y=0):okB KF x/\okB KT y/\(KF=1\/KT=1):=by
 unfold nH GG at h;by_cases b:sH KF x=0
 ·rw [ab (λz=>z b)] at h;by_cases a:sH KT y=0
  ·rw [ab (λz=>z a)] at h;split at h
   ·cases h
   ·rename_i c;exact ⟨Ro b,Ro a,by omega⟩
  ·rw [ae a] at h;exact absurd h a
 ·rw [ae b] at h;exact absurd h b
inductive RightP:Int->TD->Int->TD->Int->TD->Bool->Bool->List TI->Prop where
 | single {x:TD} (hs:smT x) (hc:cF x=0):RightP 1 x 0 d0 0 d0 false false []
 | interval {KF:Int} {x:TD} {KT:Int} {y:TD} (hx:smT x) (hy:smT y) (hp:nH KF x KT y=0):RightP 2 d0 KF x KT y false false []
 | set {K:Int} {e l:Bool} {I:List TI} (P:SetP K d0 0 d0 0 d0 e l I) (hs:∀t∈I,smI t):RightP K d0 0 d0 0 d0 e l I
theorem Ox {k:Int} {D:TD} {KF:Int} {DF:TD} {KT:Int} {DT:TD} {e l:Bool} {I:List TI} (hs:smE D DF DT I) (h:(pG k D KF DF KT DT e l I).2=0):RightP k D KF DF KT DT e l I:=by
 by_cases i:k=3\/k=4
 ·have P:=Oz i h;obtain ⟨rfl,rfl,rfl,rfl,rfl⟩:D=d0/\KF=0/\DF=d0/\KT=0/\DT=d0:=⟨P.d,P.kf,P.df,P.kt,P.dt⟩;exact .set P hs.2.2.2
 ·unfold pG at h;split at h
  ·simp at h
  ·split at h
   ·simp at h
   ·rename_i o a;unfold unuB at a;generalize z1:eqD D d0=q at a;generalize z2:eqD DF d0=p at a;generalize f:eqD DT d0=n at a;by_cases k1:k=1
    ·subst k1;rw [ae rfl] at h;simp at a;obtain ⟨⟨⟨a1,a2⟩,c,b⟩,m,j,g⟩:=a;subst a1 c m j g;rw [jn.1 (z2.trans a2),jn.1 (f.trans b)];exact .single hs.1 h
    ·have k2:k=2:=by omega
     subst k2;rw [ab (by omega),ae rfl] at h;simp at a;obtain ⟨a1,a2,c,b⟩:=a;subst a2 c b;rw [jn.1 (z1.trans a1)];exact .interval hs.2.1 hs.2.2.1 h
def um (k:Int) (D:TD) (KF:Int) (DF:TD) (KT:Int) (DT:TD) (e l:Bool) (I:List TI):aa:=
 if k=1 then gI D else if k=2 then lx KF DF++47::lx KT DT else vv k e l I
def lvE (k:Int) (D:TD) (KF:Int) (DF:TD) (KT:Int) (DT:TD):Int:=
 if k=1 then lvX D else if k=2 then mx (if KT=1 then lvX DT else 1) (if KF=1 then lvX DF else 1) else 2
def exOf (k:Int) (D:TD) (KF:Int) (DF:TD) (KT:Int) (DT:TD) (e l:Bool) (I:List TI) (L:Int):(Nat×Nat)⊕(Int×TD×Int×TD×Int×TD×Int)⊕(Int×Bool×Bool×List TI):=
 if k=1\/k=2 then .inr (.inl (k,D,KF,DF,KT,DT,L)) else .inr (.inr (k,e,l,I))
theorem zJ {x:TD} (hs:smT x) (hc:cF x=0) (r:aa) (c:UInt8) (a:brk c=true):(gI x++r).head?≠some c:=λh=>by
 have:=nS hs hc r c h;rw [a] at this;cases this
theorem Po {x:TD} (hs:smT x) (hc:cF x=0):gI x≠[]:=by
 obtain ⟨g,l,dg,e,q,m,d,a,b,c,rfl,ok⟩:=pD hs hc;obtain ⟨f,_,_⟩:=xX ok.yr;intro h;have h:tV g l dg (e:Int) (q:Int) m d a b c=[]:=h;unfold tV fX at h;have:=cD List.length h;simp only [bv,cG] at this;exact f (s8 (by omega))
theorem Bl {KF:Int} {DF:TD} {KT:Int} {DT:TD} (hx:smT DF) (hy:smT DT) (hp:nH KF DF KT DT=0) {S:aa} {p:Nat} (l:p<=S.length) (h:S.drop p=lx KT DT) (lv:Int):
  toX S p KF DF lv=.inr (KT,DT,mx (if KT=1 then lvX DT else 1) (if KF=1 then lv else mx 1 lv)):=by
 obtain ⟨s,q,b1⟩:=nq hp;have b:=cD List.length h;rw [bN] at b;unfold toX toP;rcases q with ⟨rfl,hc,k⟩ | ⟨o,rfl⟩
 ·have f:lx 1 DT=gI DT:=by unfold lx;rw [ab (by omega),ab (by omega)]
  rw [f] at h b;have i:¬(KF=1/\p=S.length):=by
   rintro ⟨_,e⟩;exact Po hy hc (s8 (by omega))
  have d:¬(KF=1/\dts (S.drop p)=true):=by
   rintro ⟨_,e⟩;rw [h] at e;have:=nS hy hc [];rw [kC] at this;rw [sa this] at e;cases e
  obtain ⟨r,n,g,m⟩:=zR hy hc (S:=S) (a:=p) (post:=[]) (by rw [h,kC]) H7;rw [ab i,ab d,n];simp only [];rw [g,ae k,ae (.inr hp)];simp only [aM];rw [ab (by omega)];have:lvR S p r=lvX DT:=by
   unfold lvR lvX;rw [g,m,h];rw [show p+(gI DT).length - p=(gI DT).length by omega,mP]
  rw [this]
 ·have j:KF=1:=by omega
  subst j;rcases o with rfl | rfl
  ·have f:S.drop p=[46,46]:=h;have d:dts (S.drop p)=true:=by rw [f];rfl
   have t:=uf d;have c:(lx 2 d0).length=2:=rfl;rw [ab (by omega),ae ⟨rfl,d⟩];simp only [];rw [ab (by omega)];rfl
  ·have c:(lx 3 d0).length=0:=rfl;rw [ae ⟨rfl,by omega⟩];simp only [];rw [ab (by omega)];rfl
theorem EG {x:TD} (hs:smT x) (hc:cF x=0):pK (gI x)=.inr (.inl (1,x,0,d0,0,d0,lvX x)):=by
 obtain ⟨r,f,d,e,r4⟩:=Et hs hc;have a:=nS hs hc [];rw [kC] at a;have b:=λc a=>zJ hs hc [] c a;rw [kC] at b;generalize gI x=T at *;unfold pK;rw [ab (by rintro (h | h);exact b 91 (by decide) h;exact b 123 (by decide) h),ab (b 47 (by decide)),sa a,ab (by simp),f];simp only [];rw [e,ue,ab (by simp),ab (by omega),d,r4]
theorem J0 {DF:TD} (hx:smT DF) (hc:cF DF=0) (l:exT DF=true) {KT:Int} {DT:TD} (hy:smT DT) (hp:nH 1 DF KT DT=0):pK (gI DF++47::lx KT DT)=.inr (.inl (2,d0,1,DF,KT,DT,mx (if KT=1 then lvX DT else 1) (lvX DF))):=by
 have f:=nS hx hc (47::lx KT DT);have d:=λc f=>zJ hx hc (47::lx KT DT) c f;generalize g:gI DF++47::lx KT DT=S at *;obtain ⟨r,n,j,e⟩:=zR hx hc (S:=S) (a:=0) (post:=47::lx KT DT) (by rw [cO,g]) (rD (by decide));rw [cX] at e;have i:S.drop (enR r)=47::lx KT DT:=by rw [e,<-g,List.drop_left]
 have m:S.drop (enR r+1)=lx KT DT:=by rw [<-jm,i];rfl
 have o:lvR S 0 r=lvX DF:=by
  unfold lvR lvX;rw [j,e,rN,cO,<-g,AB]
 have b:enR r+1<=S.length:=by
  have:=cD List.length i;rw [bN,aV] at this;omega
 have k:=Bl hx hy hp b m (lvX DF);rw [ae rfl] at k;unfold pK;rw [ab (by rintro (h | h);exact d 91 (by decide) h;exact d 123 (by decide) h),ab (d 47 (by decide)),sa f,ab (by simp),n];simp only [];rw [i,List.head?_cons,ae rfl,j,ae l,o,k]
theorem Jy {DT:TD} (hy:smT DT) (hp:nH 2 d0 1 DT=0):pK (46::46::47::gI DT)=.inr (.inl (2,d0,2,d0,1,DT,mx (lvX DT) 1)):=by
 have a:=Bl ri hy hp (S:=46::46::47::gI DT) (p:=3) (by simp only [aV];omega) (by simp only [pj,cO];unfold lx;rw [ab (by omega),ab (by omega)]) 0;rw [ae rfl,ab (by omega)] at a;generalize gI DT=T at *;unfold pK;rw [ab (by simp),ab (by simp)];have b:dts (46::46::47::T)=true:=rfl;rw [ae b,ae (by rfl),a];rfl
theorem Ko {DT:TD} (hy:smT DT) (hp:nH 3 d0 1 DT=0):pK (47::gI DT)=.inr (.inl (2,d0,3,d0,1,DT,mx (lvX DT) 1)):=by
 have a:=Bl ri hy hp (S:=47::gI DT) (p:=1) (by simp only [aV];omega) (by simp only [pj,cO];unfold lx;rw [ab (by omega),ab (by omega)]) 0;rw [ae rfl,ab (by omega)] at a;generalize gI DT=T at *;unfold pK;rw [ab (by simp),ae (by rfl),a];rfl
theorem Fq {k:Int} {D:TD} {KF:Int} {DF:TD} {KT:Int} {DT:TD} {e l:Bool} {I:List TI} (h:RightP k D KF DF KT DT e l I):pK (um k D KF DF KT DT e l I)=exOf k D KF DF KT DT e l I (lvE k D KF DF KT DT):=by
 cases h with
 | single hs hc=>
  unfold um exOf lvE;rw [ae (by omega),ae (by omega),ae (by omega),EG hs hc]
 | interval hx hy hp=>
  obtain ⟨n,p,b1⟩:=nq hp;unfold um exOf lvE;rw [ab (by omega),ae (by omega),ae (by omega),ab (by omega),ae (by omega)];rcases n with ⟨rfl,hc,g⟩ | ⟨d,rfl⟩
  ·have a:lx 1 DF=gI DF:=by unfold lx;rw [ab (by omega),ab (by omega)]
   rw [a,J0 hx hc g hy hp,ae (show (1:Int)=1 from rfl)]
  ·have o:KT=1:=by omega
   subst o;have a:lx 1 DT=gI DT:=by unfold lx;rw [ab (by omega),ab (by omega)]
   rw [a,ae (show (1:Int)=1 from rfl),ab (by omega)];rcases d with rfl | rfl
   ·have i:lx 2 d0=[46,46]:=by unfold lx;rw [ae rfl]
    rw [i];exact Jy hy hp
   ·have m:lx 3 d0=[]:=by unfold lx;rw [ab (by omega),ae rfl]
    rw [m];exact Ko hy hp
 | set P hs=>
  have ok:=λt a=>(G6 P hs t a).1;have d:=P.kind;have f:¬(k=1\/k=2):=by omega
  have c:um k d0 0 d0 0 d0 e l I=vv k e l I:=by
   unfold um;rw [ab (by omega),ab (by omega)]
  have b:∀L,exOf k d0 0 d0 0 d0 e l I L=.inr (.inr (k,e,l,I)):=λL=>by
   unfold exOf;rw [ab f]
  rw [c,b];have j:(vv k e l I).head?=some 91\/(vv k e l I).head?=some 123:=by
   unfold vv;rw [List.head?_cons];split
   ·exact .inr rfl
   ·exact .inl rfl
  have hp:=JR d P.one P.most ok P.set;generalize vv k e l I=T at *;unfold pK;rw [ae j,hp]
end Go.Sh
