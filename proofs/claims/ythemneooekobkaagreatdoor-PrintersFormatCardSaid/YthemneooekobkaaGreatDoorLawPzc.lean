
/- Plain proofs, kept as far as they are needed here (printed by prune.py).
   Conditions: none. -/
import Derived.Test.YthemneooekobkaaGreatDoorLawPzb
set_option linter.unusedVariables false
set_option linter.unusedSimpArgs false
set_option maxRecDepth 100000
namespace Go.Sh
open Go.Abs
theorem Ze {g l:Bool} {d:aa} {x s:Int} (h:okY g l d x s):okY g l d x 0:=by
 unfold okY at h ⊢;cases l with
 | true=>
  rw [ae rfl] at h ⊢;unfold okL at h ⊢;refine ⟨h.1,uZ _,?_⟩;omega
 | false=>
  rw [ab (by simp)] at h ⊢;unfold okS at h ⊢;obtain ⟨b,c,e,a,i,f,j⟩:=h;exact ⟨b,c,e,a,uZ _,by omega,λh=>absurd h.1 (by omega)⟩
theorem LD (m a0 a2 J I j F c k s:Nat) (g:Bool) (N:a2<65536) (O:J<256) (K:I<256) (M:j<256) (L:F<256):
  ∃b l dg x q a d,aK (m+300) (a0:Int) g (a2:Int) (J:Int) (I:Int) (j:Int) (F:Int) (c:Int) (k:Int) (s:Int)=some (b,l,dg,x,q,a,d,((mksT (br a d) c k s).1:Int),((mksT (br a d) c k s).2.1:Int),((mksT (br a d) c k s).2.2:Int))/\
   okY b l dg x q/\rn b dg x=false/\(a0%6≠3->hasX dg=false)/\dg.length<=5/\(q≠0->a=[]/\d=[])/\(q=0->a=monT (j%40))/\
   (d=[]\/(a∈((List.range 12).map λi=>two (i+1))++[[48,88],[49,88],[88,50],[88,88],[88,48],[88,57]]/\a≠[]/\sea a=0/\d=dayT (F%40) a)):=by
 obtain ⟨b,l,dg,x,q,e,z,n,B,t⟩:=Nn m a0 a2 J I g N O K;have G:=IL z n B;have U:Int.tmod (c:Int) 4=((c%4:Nat):Int):=rfl;have S:Int.tmod (k:Int) 4=((k%4:Nat):Int):=rfl;have T:Int.tmod (s:Int) 4=((s%4:Nat):Int):=rfl;obtain ⟨W,Q,R,V,P,X⟩:=iN z;have f:∀(a d:aa) (o:Option (Bool×Bool×aa×Int×Int×aa×aa×Int×Int×Int)),
   (ob (au (m+300) b l dg x q a d 0 0 0) λr=>(cond (decide ((0:Int)<r)) (ob (au (m+300) b l dg x q a d (Int.tmod (c:Int) 4) 0 0) λr=>(cond (decide ((1:Int)<r)) (ob (au (m+300) b l dg x q a d (Int.tmod (c:Int) 4) (Int.tmod (k:Int) 4) 0) λr=>(cond (decide ((2:Int)<r)) (ob (au (m+300) b l dg x q a d (Int.tmod (c:Int) 4) (Int.tmod (k:Int) 4) (Int.tmod (s:Int) 4)) λr=>(cond (decide ((3:Int)<r)) none (some (b,l,dg,x,q,a,d,(Int.tmod (c:Int) 4),(Int.tmod (k:Int) 4),(Int.tmod (s:Int) 4))))) (some (b,l,dg,x,q,a,d,(Int.tmod (c:Int) 4),(Int.tmod (k:Int) 4),0)))) (some (b,l,dg,x,q,a,d,(Int.tmod (c:Int) 4),0,0)))) (some (b,l,dg,x,q,a,d,0,0,0))))=some (b,l,dg,x,q,a,d,((mksT (br a d) c k s).1:Int),((mksT (br a d) c k s).2.1:Int),((mksT (br a d) c k s).2.2:Int)):=by
  intro a d _;have hc:=lC a d;have:br a d=1\/br a d=2\/br a d=3:=by omega
  rw [dA,dA,dA,dA];rcases this with h | h | h<;>rw [h]<;>rfl
 unfold aK;rw [e];simp only [ob,d4];rw [gU];by_cases y:q=0
 ·rw [ae y];rw [zV m _ _ _ _ _ j _ _ _ _ M];have H:=EB (show j%40<40 by omega);show ∃u E w D A v d,cond (!(monT (j%40)==[])) _ _=_/\_;by_cases p:monT (j%40)=[]
  ·refine ⟨b,l,dg,x,q,[],[],?_,z,G,t,n,λh=>absurd y h,λ_=>p.symm,.inl rfl⟩;rw [p];exact f [] [] none
  ·rw [aI.2 p];show ∃u E w D A v d,ob (aN (m+300) b l dg x q (monT (j%40)) [] 0 0 0) _=_/\_;rw [mn (m+300) (by omega)];show ∃u E w D A v d,cond (sea (monT (j%40))==0) _ _=_/\_;rw [gU];by_cases hs:sea (monT (j%40))=0
   ·rw [ae hs];have C:=H hs p;rw [H7 m _ _ _ _ _ _ F _ _ _ (monT (j%40)) C L];exact ⟨b,l,dg,x,q,monT (j%40),dayT (F%40) (monT (j%40)),f _ _ none,z,G,t,n,λh=>absurd y h,λ_=>rfl,.inr ⟨C,p,hs,rfl⟩⟩
   ·rw [ab hs];exact ⟨b,l,dg,x,q,monT (j%40),[],f _ [] none,z,G,t,n,λh=>absurd y h,λ_=>rfl,.inl rfl⟩
 ·rw [ab y];exact ⟨b,l,dg,x,q,[],[],f [] [] none,z,G,t,n,λ_=>⟨rfl,rfl⟩,λh=>absurd h y,.inl rfl⟩
theorem JA:((List.range 34).all λj=>!hasX (monT j))=true:=by decide +kernel
theorem JP:(((List.range 12).map λi=>two (i+1)).all λa=>(List.range 32).all λj=>!hasX (dayT j a))=true:=by decide +kernel
theorem UV:((((List.range 12).map λi=>two (i+1))++[[48,88],[49,88],[88,50],[88,88],[88,48],[88,57]]).all λa=>hasX a||decide (a∈(List.range 12).map λi=>two (i+1)))=true:=by decide +kernel
theorem Vq (m a0 a2 A w t j n s v:Nat) (g:Bool) (y:a2<65536) (C:A<256) (F:w<256) (I:t<256) (G:j<256) (H:a0%6≠3) (N:t%40<=33) (O:j%40<=31):
  ∃k l dg x q a d k0 k1 k2,aK (m+300) (a0:Int) g (a2:Int) (A:Int) (w:Int) (t:Int) (j:Int) (n:Int) (s:Int) (v:Int)=some (k,l,dg,x,q,a,d,((k0:Nat):Int),((k1:Nat):Int),((k2:Nat):Int))/\
   0<=q/\chkF k l dg x 0 a d (k0:Int) (k1:Int) (k2:Int)=0/\exD dg a d 0=true/\a.length<=18/\d.length<=18/\dg.length<=100:=by
 obtain ⟨k,l,dg,x,q,a,d,e,E,M,D,K,p,u,o⟩:=LD m a0 a2 A w t j n s v g y C F I G;have L:=D H;have c:hasX a=false:=by
  by_cases h:q=0
  ·rw [u h];have:=(bW.1 JA) (t%40) (jA.2 (by omega));simpa using this
  ·rw [(p h).1];rfl
 have f:a=[]\/0<sea a\/(sea a=0/\ef a 12=true):=by
  by_cases h:q=0
  ·rw [u h];exact MV (by omega)
  ·exact .inl (p h).1
 have b:d=[]\/(a≠[]/\sea a=0/\ef d 31=true/\fitD a d=true/\hasX d=false):=by
  rcases o with h | ⟨i,z,hs,r⟩
  ·exact .inl h
  ·have a1:=O7 (show j%40<40 by omega) i;have a2:=HA (show j%40<40 by omega) i;rw [<-r] at a1 a2;by_cases B:d=[]
   ·exact .inl B
   ·right;refine ⟨z,hs,a1.resolve_left B,a2.resolve_left B,?_⟩;have b1:=(bW.1 UV) a i;rw [c,oO,cg] at b1;have b2:=(bW.1 ((bW.1 JP) a b1)) (j%40) (jA.2 (by omega));rw [r];simpa using b2
 have hc:chkD k l dg x 0 a d ((mksT (br a d) n s v).1:Int) ((mksT (br a d) n s v).2.1:Int) ((mksT (br a d) n s v).2.2:Int)=0:=
  Ff (Ze E) M (λh=>absurd h (by omega)) f (by
   rcases b with h | ⟨J,y,C,_⟩
   ·exact .inl h
   ·exact .inr ⟨J,y,C⟩) (xh _ _ _ _)
 refine ⟨k,l,dg,x,q,a,d,_,_,_,e,Qh E,Jf hc ?_,?_,?_,?_,by omega⟩
 ·rcases b with h | ⟨_,_,_,h,_⟩
  ·exact .inl h
  ·exact .inr h
 ·unfold exD;have:hasX d=false:=by
   rcases b with h | ⟨_,_,_,_,h⟩
   ·rw [h];rfl
   ·exact h
  rw [L,c,this];rfl
 ·rcases f with h | h | ⟨_,h⟩
  ·rw [h];simp
  ·have:=(GW h).1;omega
  ·have:=(nY (by omega) h).1;omega
 ·rcases b with h | ⟨_,_,h,_⟩
  ·rw [h];simp
  ·have:=(nY (by omega) h).1;omega
theorem HM (m a0 a2 y v c k B C E:Nat) (g:Bool) (h0:a0<256) (I:a2<65536) (T:y<256) (G:v<256) (Y:c<256) (X:k<256):
  ∃n l dg x i d k0 k1 k2,bH (m+300) (a0:Int) g (a2:Int) (y:Int) (v:Int) (c:Int) (k:Int) (B:Int) (C:Int) (E:Int)=some (n,l,dg,x,0,i,d,((k0:Nat):Int),((k1:Nat):Int),((k2:Nat):Int))/\
   chkF n l dg x 0 i d (k0:Int) (k1:Int) (k2:Int)=0/\exD dg i d 0=true/\i.length<=18/\d.length<=18/\dg.length<=100:=by
 have Q:Int.tmod (c:Int) 40=((c%40:Nat):Int):=rfl;have V:Int.tmod (k:Int) 40=((k%40:Nat):Int):=rfl;have R:Int.tmod (a0:Int) 6=((a0%6:Nat):Int):=rfl;have M:Int.tdiv ((k%40:Nat):Int) 2=((k%40 / 2:Nat):Int):=rfl;have r:∀(b0 f b:Nat),f<256->b<256->b0%6≠3->f%40<=33->b%40<=31->
   ∃n l dg x i d k0 k1 k2,(ob (aK (m+300) (b0:Int) g (a2:Int) (y:Int) (v:Int) (f:Int) (b:Int) (B:Int) (C:Int) (E:Int)) λa=>(cond (decide ((d4 a).1>0)) (some (a.1,a.2.1,a.2.2.1,a.2.2.2.1,(0:Int),(d4 a).2.1,(d4 a).2.2.1,(d4 a).2.2.2.1,(d8 a).1,(d8 a).2)) (some (a.1,a.2.1,a.2.2.1,a.2.2.2.1,(d4 a).1,(d4 a).2.1,(d4 a).2.2.1,(d4 a).2.2.2.1,(d8 a).1,(d8 a).2))))=some (n,l,dg,x,0,i,d,((k0:Nat):Int),((k1:Nat):Int),((k2:Nat):Int))/\
   chkF n l dg x 0 i d (k0:Int) (k1:Int) (k2:Int)=0/\exD dg i d 0=true/\i.length<=18/\d.length<=18/\dg.length<=100:=by
  intro b0 f b c5 s N o p;obtain ⟨n,l,dg,x,q,i,d,k0,k1,k2,e,Z,H,J,L,r4,O⟩:=Vq m b0 a2 y v f b B C E g I T G c5 s N o p;refine ⟨n,l,dg,x,i,d,k0,k1,k2,?_,H,J,L,r4,O⟩;rw [e];simp only [ob,d4,d8];by_cases h:q>0
  ·rw [aq h];rfl
  ·obtain rfl:q=0:=by omega
   rw [ar h];rfl
 have z:33<c%40->IntKind.wrap .u8 (((c%40:Nat):Int) - 33)=((c%40 - 33:Nat):Int):=λh=>by rw [fU _ (by omega) (by omega)];omega
 have U:IntKind.wrap .u8 ((k%40 / 2:Nat):Int)=((k%40 / 2:Nat):Int):=fU _ (by omega) (by omega);unfold bH;rw [R,Q,V,M,U];have j:∀b0:Nat,b0%6≠3->∀K:Nat->Nat->Option (Bool×Bool×aa×Int×Int×aa×aa×Int×Int×Int),
   (∀f b:Nat,f<256->b<256->f%40<=33->b%40<=31->∃n l dg x i d k0 k1 k2,K f b=some (n,l,dg,x,0,i,d,((k0:Nat):Int),((k1:Nat):Int),((k2:Nat):Int))/\chkF n l dg x 0 i d (k0:Int) (k1:Int) (k2:Int)=0/\exD dg i d 0=true/\i.length<=18/\d.length<=18/\dg.length<=100)->
   ∃n l dg x i d k0 k1 k2,(cond (decide (((c%40:Nat):Int)>33)) (cond (decide (((k%40:Nat):Int)>31)) (K (c%40 - 33) (k%40 / 2)) (K (c%40 - 33) k)) (cond (decide (((k%40:Nat):Int)>31)) (K c (k%40 / 2)) (K c k)))=some (n,l,dg,x,0,i,d,((k0:Nat):Int),((k1:Nat):Int),((k2:Nat):Int))/\chkF n l dg x 0 i d (k0:Int) (k1:Int) (k2:Int)=0/\exD dg i d 0=true/\i.length<=18/\d.length<=18/\dg.length<=100:=by
  intro b0 W K w;by_cases P:33<c%40
  ·rw [aq (show ((c%40:Nat):Int)>33 by omega)];by_cases D:31<k%40
   ·rw [aq (show ((k%40:Nat):Int)>31 by omega)];exact w _ _ (by omega) (by omega) (by omega) (by omega)
   ·rw [ar (show ¬((k%40:Nat):Int)>31 by omega)];exact w _ _ (by omega) (by omega) (by omega) (by omega)
  ·rw [ar (show ¬((c%40:Nat):Int)>33 by omega)];by_cases D:31<k%40
   ·rw [aq (show ((k%40:Nat):Int)>31 by omega)];exact w _ _ (by omega) (by omega) (by omega) (by omega)
   ·rw [ar (show ¬((k%40:Nat):Int)>31 by omega)];exact w _ _ (by omega) (by omega) (by omega) (by omega)
 have w5':∀{A:Type} (F:Int->Int->Option A) (b:Nat),(cond (decide (((c%40:Nat):Int)>33)) (F (IntKind.wrap .u8 (((c%40:Nat):Int) - 33)) (b:Int)) (F (c:Int) (b:Int)))=(cond (decide (((c%40:Nat):Int)>33)) (F ((c%40 - 33:Nat):Int) (b:Int)) (F (c:Int) (b:Int))):=by
  intro A F b;by_cases h:33<c%40
  ·rw [z h]
  ·rw [ar (show ¬((c%40:Nat):Int)>33 by omega)];rfl
 have t:33<c%40\/¬33<c%40:=by omega
 by_cases u:a0%6=3
 ·rw [show (((a0%6:Nat):Int)==3)=true by rw [u];rfl];simp only [ah];rcases t with h | h
  ·rw [z h];exact j 0 (by omega) (λf b=>_) (λf b c5 s o p=>r 0 f b c5 s (by omega) o p)
  ·have hx:=j 0 (by omega) (λf b=>_) (λf b c5 s o p=>r 0 f b c5 s (by omega) o p);rw [ar (show ¬((c%40:Nat):Int)>33 by omega)] at hx ⊢;exact hx
 ·rw [show (((a0%6:Nat):Int)==3)=false from aI.2 (by omega)];simp only [af];by_cases S:a0%6=4
  ·rw [show (((a0%6:Nat):Int)==4)=true by rw [S];rfl];simp only [ah];rcases t with h | h
   ·rw [z h];exact j 0 (by omega) (λf b=>_) (λf b c5 s o p=>r 0 f b c5 s (by omega) o p)
   ·have hx:=j 0 (by omega) (λf b=>_) (λf b c5 s o p=>r 0 f b c5 s (by omega) o p);rw [ar (show ¬((c%40:Nat):Int)>33 by omega)] at hx ⊢;exact hx
  ·rw [show (((a0%6:Nat):Int)==4)=false from aI.2 (by omega)];simp only [af];rcases t with h | h
   ·rw [z h];exact j a0 u (λf b=>_) (λf b c5 s o p=>r a0 f b c5 s u o p)
   ·have hx:=j a0 u (λf b=>_) (λf b c5 s o p=>r a0 f b c5 s u o p);rw [ar (show ¬((c%40:Nat):Int)>33 by omega)] at hx ⊢;exact hx
theorem LH {dg m d:aa} (h:exD dg m d 0=true):exD dg m [] 0=true/\exD dg [] [] 0=true:=by
 unfold exD at h ⊢;simp only [az,jW,oV] at h;obtain ⟨⟨b,a,c⟩,_⟩:=h;rw [b,a];exact ⟨rfl,rfl⟩
def FZ (g l:Bool) (dg:aa) (x q:Int) (m d:aa) (k0 k1 k2:Int):Bool:=
 (((g==false)&&((l==false)&&((dg==([]:aa))&&((x==0)&&((q==0)&&true)))))&&((m==([]:aa))&&((d==([]:aa))&&(((k0==0)&&((k1==0)&&((k2==0)&&true)))&&true))))
noncomputable def chkB (K:Int) (g l:Bool) (dg:aa) (x q:Int) (m d:aa) (k0 k1 k2:Int):Int:=
 if K=1 then (if chkF g l dg x q m d k0 k1 k2=0 then (if exD dg m d q=true then 0 else 11) else chkF g l dg x q m d k0 k1 k2) else if K=2\/K=3 then (if FZ g l dg x q m d k0 k1 k2=true then 0 else 5) else 18
def F9 (b d a c lo hi:Int):Int:=if b≠0 then b else if d≠0 then d else if a≠1/\c≠1 then 11 else if a≠1\/c≠1 then 0 else if lo>hi then 11 else 0
section
variable {K:Int} {g l:Bool} {dg:List UInt8} {x q:Int} {m d:List UInt8} {k0 k1 k2:Int} (hml:m.length<=18) (hdl:dg.length<=100) (hd18:d.length<=18) (h0:0<=k0) (h1:0<=k1) (h2:0<=k2)
include hml hdl hd18 h0 h1 h2
theorem wZ:iy 20000000 K g l dg x q m d k0 k1 k2=some (chkB K g l dg x q m d k0 k1 k2):=by
 unfold iy chkB;rw [xa hml hdl h0 h1 h2,HH 20000000 g l dg x q m d k0 k1 k2 (by omega) (by omega) (by omega)];simp only [ob];by_cases a:K=1
 ·subst a;rw [ae rfl];simp only [wb,ah];by_cases hc:chkF g l dg x q m d k0 k1 k2=0
  ·rw [ae hc,hc];by_cases e:exD dg m d q=true
   ·rw [ae e,e];rfl
   ·rw [ab e];rw [Jb] at e;rw [e];rfl
  ·rw [ab hc,bne0 hc];rfl
 ·rw [ab a,aI.2 a];simp only [af];have f:(!(((g==false)&&((l==false)&&((dg==([]:aa))&&((x==0)&&((q==0)&&true)))))&&((m==([]:aa))&&((d==([]:aa))&&(((k0==0)&&((k1==0)&&((k2==0)&&true)))&&true)))))=!(FZ g l dg x q m d k0 k1 k2):=rfl;rw [f];by_cases c:K=2
  ·subst c;rw [ae (.inl rfl)];cases FZ g l dg x q m d k0 k1 k2<;>rfl
  ·rw [aI.2 c];by_cases b:K=3
   ·subst b;rw [ae (.inr rfl)];cases FZ g l dg x q m d k0 k1 k2<;>rfl
   ·rw [aI.2 b,ab (by omega)];rfl
theorem xf:fe 20000000 K g l dg x q m d k0 k1 k2=some (chkB K g l dg x q m d k0 k1 k2):=by
 unfold fe chkB;rw [GZ hdl h0 h1 h2,Dp 20000000 g l dg x q m d k0 k1 k2 (by omega) (by omega) (by omega) (by omega)];simp only [ob];by_cases a:K=1
 ·subst a;rw [ae rfl];simp only [wb,ah];by_cases hc:chkF g l dg x q m d k0 k1 k2=0
  ·rw [ae hc,hc];by_cases e:exD dg m d q=true
   ·rw [ae e,ae e];rfl
   ·rw [ab e,ab e];rfl
  ·rw [ab hc,aI.2 hc];rfl
 ·rw [ab a,aI.2 a];simp only [af];have f:(!(((g==false)&&((l==false)&&((dg==([]:aa))&&((x==0)&&((q==0)&&true)))))&&((m==([]:aa))&&((d==([]:aa))&&(((k0==0)&&((k1==0)&&((k2==0)&&true)))&&true)))))=!(FZ g l dg x q m d k0 k1 k2):=rfl;rw [f];by_cases c:K=2
  ·subst c;rw [ae (.inl rfl)];cases FZ g l dg x q m d k0 k1 k2<;>rfl
  ·rw [aI.2 c];by_cases b:K=3
   ·subst b;rw [ae (.inr rfl)];cases FZ g l dg x q m d k0 k1 k2<;>rfl
   ·rw [aI.2 b,ab (by omega)];rfl
theorem Vi:ju 20000000 K g l dg x q m d k0 k1 k2=some (if chkB K g l dg x q m d k0 k1 k2=0 then (if K=2 then [46,46] else if K=3 then [] else qj g l dg x q m d k0.toNat k1.toNat k2.toNat,0) else ([],chkB K g l dg x q m d k0 k1 k2)):=by
 unfold ju;rw [wZ hml hdl hd18 h0 h1 h2];simp only [ob];by_cases hc:chkB K g l dg x q m d k0 k1 k2=0
 ·rw [ae hc,hc];simp only [fC,af];by_cases b:K=2
  ·subst b;rfl
  ·rw [aI.2 b,ab b];by_cases a:K=3
   ·subst a;rfl
   ·rw [aI.2 a,ab a];have k1':K=1:=by
     unfold chkB at hc;by_cases h:K=1
     ·exact h
     ·rw [ab h,ab (by omega)] at hc;cases hc
    have c:chkF g l dg x q m d k0 k1 k2=0:=by
     unfold chkB at hc;rw [ae k1'] at hc;by_cases h:chkF g l dg x q m d k0 k1 k2=0
     ·exact h
     ·rw [ab h] at hc;exact absurd hc h
    have e:cS 20000000 g l dg x q m d k0 k1 k2=_:=Hk 19999700 g l dg x q m d k0 k1 k2 hml hdl h0 h1 h2;rw [e,ae (mR c)];rfl
 ·rw [ab hc,bne0 hc];rfl
theorem Kp (hc:chkB K g l dg x q m d k0 k1 k2=0):il 20000000 K g l dg x q m d k0 k1 k2=some (if K=2 then [46,46] else if K=3 then [] else qj g l dg x q m d k0.toNat k1.toNat k2.toNat):=by
 have f:=And.intro hml (And.intro hdl hd18);unfold il;by_cases b:K=2
 ·subst b;rfl
 ·rw [aI.2 b,ab b];by_cases a:K=3
  ·subst a;rfl
  ·rw [aI.2 a,ab a];have k1':K=1:=by
    unfold chkB at hc;by_cases h:K=1
    ·exact h
    ·rw [ab h,ab (by omega)] at hc;cases hc
   have c:chkF g l dg x q m d k0 k1 k2=0:=by
    unfold chkB at hc;rw [ae k1'] at hc;by_cases h:chkF g l dg x q m d k0 k1 k2=0
    ·exact h
    ·rw [ab h] at hc;exact absurd hc h
   have e:cK 20000000 g l dg x q m d k0 k1 k2=_:=Eb 19999700 h0 h1 h2 (mR c);rw [e];rfl
theorem wE (hc:chkB K g l dg x q m d k0 k1 k2=0) (b:K=1):chkF g l dg x q m d k0 k1 k2=0/\exD dg m d q=true:=by
 have c:=And.intro hml (And.intro hdl (And.intro hd18 (And.intro h0 (And.intro h1 h2))));unfold chkB at hc;rw [ae b] at hc;by_cases h:chkF g l dg x q m d k0 k1 k2=0
 ·rw [ae h] at hc;by_cases a:exD dg m d q=true
  ·exact ⟨h,a⟩
  ·rw [ab a] at hc;cases hc
 ·rw [ab h] at hc;exact absurd hc h
end
theorem Zi (n:Nat) (a b:Int):jT n a b=some (if a<b then -1 else if a>b then 1 else 0):=by
 unfold jT ll;simp only [ob,fC,af];by_cases h:a<b
 ·rw [aq h,ae h];rfl
 ·rw [ar h,ab h];by_cases c:a>b
  ·rw [aq c,ae c];rfl
  ·rw [ar c,ab c];rfl
theorem Jh (a b:Int):∃r,kQ 20000000 0 a 0 b=some r/\decide (r>0)=decide (a>b):=by
 have e:nk 20000000 0 0=some 0:=rfl;have o1:qd 20000000 [0,-1]=some (-1):=by kernel_rfl
 have d:qd 20000000 [0,1]=some 1:=by kernel_rfl
 have f:qd 20000000 [0,0]=some 0:=by kernel_rfl
 unfold kQ;rw [e,Zi];simp only [ob];by_cases h:a<b
 ·rw [ae h,o1];exact ⟨_,rfl,by rw [ar (show ¬a>b by omega)];rfl⟩
 ·rw [ab h];by_cases c:a>b
  ·rw [ae c,d];exact ⟨_,rfl,by rw [aq c];rfl⟩
  ·rw [ab c,f];exact ⟨_,rfl,by rw [ar c];rfl⟩
theorem bne1 {K:Int} (h:K≠1):(K != 1)=true:=by simp [h]
section
variable {K:Int} {g l:Bool} {dg:List UInt8} {x q:Int} {m d:List UInt8} {k0 k1 k2:Int} {K':Int} {g' l':Bool} {dg':List UInt8} {x' q':Int} {m' d':List UInt8} {p0 p1 p2:Int} (hml:m.length<=18) (hdl:dg.length<=100) (hd18:d.length<=18) (h0:0<=k0) (h1:0<=k1) (h2:0<=k2) (hml':m'.length<=18) (hdl':dg'.length<=100) (hd18':d'.length<=18) (h0':0<=p0) (h1':0<=p1) (h2':0<=p2)
include hml hdl hd18 h0 h1 h2 hml' hdl' hd18' h0' h1' h2'
theorem VI:iJ 20000000 K g l dg x q m d k0 k1 k2 K' g' l' dg' x' q' m' d' p0 p1 p2=some (F9 (chkB K g l dg x q m d k0 k1 k2) (chkB K' g' l' dg' x' q' m' d' p0 p1 p2) K K' (oN g dg x m d).1 (oN g' dg' x' m' d').2):=by
 unfold iJ F9;rw [wZ hml hdl hd18 h0 h1 h2,wZ hml' hdl' hd18' h0' h1' h2'];simp only [ob];by_cases b:chkB K g l dg x q m d k0 k1 k2=0
 ·rw [ab (by omega),b];by_cases c:chkB K' g' l' dg' x' q' m' d' p0 p1 p2=0
  ·rw [ab (by omega),c];simp only [fC,af];by_cases e:K=1
   ·rw [show (K != 1)=false by rw [e];rfl];simp only [af];by_cases a:K'=1
    ·rw [show (K' != 1)=false by rw [a];rfl,ab (by omega),ab (by omega)];simp only [af];obtain ⟨k,o⟩:=wE hml hdl hd18 h0 h1 h2 b e;obtain ⟨i,j⟩:=wE hml' hdl' hd18' h0' h1' h2' c a;rw [F5 hml hdl hd18 h0 h1 h2,F5 hml' hdl' hd18' h0' h1' h2',ae k,ae o,ae i,ae j];simp only [ob];obtain ⟨r,f,n⟩:=Jh (oN g dg x m d).1 (oN g' dg' x' m' d').2;rw [f];simp only [n];by_cases h:(oN g dg x m d).1>(oN g' dg' x' m' d').2
     ·rw [aq h,ae h];rfl
     ·rw [ar h,ab h];rfl
    ·rw [bne1 a,ab (by omega),ae (by omega)];rfl
   ·rw [bne1 e];by_cases a:K'=1
    ·rw [show (K' != 1)=false by rw [a];rfl,ab (by omega),ae (by omega)];rfl
    ·rw [bne1 a,ae (by omega)];rfl
  ·rw [ae c,bne0 c];rfl
 ·rw [ae b,bne0 b];rfl
theorem Qe:iv 20000000 K g l dg x q m d k0 k1 k2 K' g' l' dg' x' q' m' d' p0 p1 p2=some (F9 (chkB K g l dg x q m d k0 k1 k2) (chkB K' g' l' dg' x' q' m' d' p0 p1 p2) K K' (oN g dg x m d).1 (oN g' dg' x' m' d').2):=by
 unfold iv F9;rw [xf hml hdl hd18 h0 h1 h2,xf hml' hdl' hd18' h0' h1' h2'];simp only [ob];by_cases c:chkB K g l dg x q m d k0 k1 k2=0
 ·rw [ab (by omega),c];by_cases e:chkB K' g' l' dg' x' q' m' d' p0 p1 p2=0
  ·rw [ab (by omega),e];simp only [fC,af];by_cases b:K=1
   ·rw [show (K != 1)=false by rw [b];rfl,show (K==1)=true by rw [b];rfl];simp only [af,ah];by_cases a:K'=1
    ·rw [show (K'==1)=true by rw [a];rfl,ab (by omega),ab (by omega)];simp only [ah];obtain ⟨n,o⟩:=wE hml hdl hd18 h0 h1 h2 c b;obtain ⟨j,k⟩:=wE hml' hdl' hd18' h0' h1' h2' e a;obtain ⟨rfl,i⟩:=xb n o;obtain ⟨rfl,f⟩:=xb j k;rw [vF i hdl,vF f hdl'];simp only [ob];by_cases h:(oN g dg x m d).1>(oN g' dg' x' m' d').2
     ·rw [aq h,ae h];rfl
     ·rw [ar h,ab h];rfl
    ·rw [aI.2 a,ab (by omega),ae (by omega)];rfl
   ·rw [bne1 b,aI.2 b];by_cases a:K'=1
    ·rw [show (K' != 1)=false by rw [a];rfl,ab (by omega),ae (by omega)];rfl
    ·rw [bne1 a,ae (by omega)];rfl
  ·rw [ae e,bne0 e];rfl
 ·rw [ae c,bne0 c];rfl
end
theorem EL (y:Int) {m:Nat} (a:1<=m) (e:m<=23):dayM y m<dayM y (m+1):=by
 by_cases h:m<=12
 ·have:=zu y a h;have:=jN y (m:Int);omega
 ·have b:=uW y (m:=m - 12) (by omega) (by omega);have c:=uW y (m:=m - 12+1) (by omega) (by omega);have d:=zu (y+1) (m:=m - 12) (by omega) (by omega);have:=jN (y+1) ((m - 12:Nat):Int);rw [show m - 12+12=m by omega] at b;rw [show m - 12+1+12=m+1 by omega] at c;omega
theorem M1 (y:Int) {a:Nat} (b:1<=a):∀c,1<=c->a+c<=24->dayM y a<dayM y (a+c)
 | 0,h,_=>absurd h (by omega)
 | c+1,_,d=>by
  have hs:=EL y (m:=a+c) (by omega) (by omega);by_cases h:c=0
  ·subst h;exact hs
  ·have:=M1 y b c (by omega) (by omega);rw [show a+(c+1)=a+c+1 by omega];omega
theorem TC {g l:Bool} {dg:aa} {x:Int} {m d:aa} (E:Exact g l dg x m d):(oN g dg x m d).1<=(oN g dg x m d).2:=by
 unfold oN;by_cases a:m=[]
 ·rw [ae a];have:=zn (yOf g dg x);simp only [];split at this<;>omega
 ·rw [ab a];by_cases hs:0<sea m
  ·rw [ae hs];rcases E.mon with h | ⟨j,b,e,_⟩ | ⟨h,_⟩
   ·exact absurd h a
   ·obtain ⟨f,c,_,a1,a2,p,o,_,n,k⟩:=Gp b;rw [e,n,k];have:=M1 (yOf g dg x) a1 c (by omega) (by omega);simp only [];omega
   ·omega
  ·rw [ab hs];rcases E.mon with h | ⟨j,b,e,_⟩ | ⟨_,a1,a2,_⟩
   ·exact absurd h a
   ·rw [e,lA b] at hs;omega
   ·by_cases i:d=[]
    ·rw [ae i];have:=EL (yOf g dg x) a1 (by omega);simp only [];omega
    ·rw [ab i];exact uZ _
theorem B_of (m a0 a1 k i n p j q r b:Nat) (g:Bool) (v:a1<256) (C:k<65536) (s:i<256) (w:n<256) (t:p<256) (y:j<256):
  ∃K c l dg x a d k0 k1 k2,ck (m+300) (a0:Int) (a1:Int) g (k:Int) (i:Int) (n:Int) (p:Int) (j:Int) (q:Int) (r:Int) (b:Int)=some (K,c,l,dg,x,0,a,d,((k0:Nat):Int),((k1:Nat):Int),((k2:Nat):Int))/\
   chkB K c l dg x 0 a d (k0:Int) (k1:Int) (k2:Int)=0/\a.length<=18/\d.length<=18/\dg.length<=100/\(K=1\/((K=2\/K=3)/\c=false/\l=false/\dg=[]/\x=0/\a=[]/\d=[]/\k0=0/\k1=0/\k2=0)):=by
 have B:Int.tmod (a0:Int) 6=((a0%6:Nat):Int):=rfl;unfold ck;rw [B];by_cases z:a0%6=0
 ·rw [z];exact ⟨2,false,false,[],0,[],[],0,0,0,rfl,rfl,by simp,by simp,by simp,.inr ⟨.inl rfl,rfl,rfl,rfl,rfl,rfl,rfl,rfl,rfl,rfl⟩⟩
 ·rw [show (((a0%6:Nat):Int)==0)=false from aI.2 (by omega)];by_cases u:a0%6=1
  ·rw [u];exact ⟨3,false,false,[],0,[],[],0,0,0,rfl,rfl,by simp,by simp,by simp,.inr ⟨.inr rfl,rfl,rfl,rfl,rfl,rfl,rfl,rfl,rfl,rfl⟩⟩
  ·rw [show (((a0%6:Nat):Int)==1)=false from aI.2 (by omega)];obtain ⟨c,l,dg,x,a,d,k0,k1,k2,e,hc,A,h,f,o⟩:=HM m a1 k i n p j q r b g v C s w t y;refine ⟨1,c,l,dg,x,a,d,k0,k1,k2,?_,?_,h,f,o,.inl rfl⟩
   ·simp only [af];rw [e];rfl
   ·unfold chkB;rw [ae rfl,ae hc,ae A]
def plR (r:DR):Nat:=r.2.2.2.2.2.2.2.2.1.1
def enR (r:DR):Nat:=r.2.2.2.2.2.2.2.2.2
theorem JM {l:aa} {b:UInt8} (h:l.take 2=[b,b]):∃r,l=b::b::r:=by
 match l,h with
 | a::c::r,h=>simp at h;exact ⟨r,by rw [h.1,h.2]⟩
theorem I0 {S:aa} {a:Nat} (h:a<=S.length) {r:DR} (b:fL S a=.inr r):sj S a=.inr r/\chkR r=0:=by
 unfold fL at b;cases c:sj S a with
 | inl k=>rw [c] at b;cases b
 | inr d=>
  rw [c] at b;simp only [] at b;by_cases hc:chkR d=0
  ·rw [ae hc] at b;obtain rfl:=Sum.inr.inj b;exact ⟨rfl,hc⟩
  ·rw [ab hc] at b;cases b
theorem sL (c:UInt8) (k:Nat) (a:k<256):(((c.toNat:Nat):Int)==(k:Int))=decide (c=UInt8.ofNat k):=by
 rw [tz,bp,GE];constructor
 ·intro h;apply gD.1;have:c.toNat=k:=by omega
  rw [this];simp;omega
 ·rintro rfl;simp;omega
theorem yJ {S:aa} {a:Nat} (h:a<=S.length) {k E p:Nat} (b:fL S a=.inl (k,E,p)):E≠0:=by
 unfold fL at b;cases c:sj S a with
 | inl k'=>rw [c] at b;simp only [] at b;have:=Sum.inl.inj b;simp at this;omega
 | inr d=>
  rw [c] at b;simp only [] at b;by_cases hc:chkR d=0
  ·rw [ae hc] at b;cases b
  ·rw [ab hc] at b;have:=Sum.inl.inj b;simp at this;omega
def smT (x:TD):Prop:=x.2.2.2.2.2.1.length<=18/\x.2.2.1.length<=100/\x.2.2.2.2.2.2.1.length<=18/\0<=x.2.2.2.2.2.2.2.1/\0<=x.2.2.2.2.2.2.2.2.1/\0<=x.2.2.2.2.2.2.2.2.2
noncomputable def cF (x:TD):Int:=chkF x.1 x.2.1 x.2.2.1 x.2.2.2.1 x.2.2.2.2.1 x.2.2.2.2.2.1 x.2.2.2.2.2.2.1 x.2.2.2.2.2.2.2.1 x.2.2.2.2.2.2.2.2.1 x.2.2.2.2.2.2.2.2.2
def exT (x:TD):Bool:=exD x.2.2.1 x.2.2.2.2.2.1 x.2.2.2.2.2.2.1 x.2.2.2.2.1
def dyT (x:TD):Int×Int:=oN x.1 x.2.2.1 x.2.2.2.1 x.2.2.2.2.2.1 x.2.2.2.2.2.2.1
def seT (x:TD):Int:=sea x.2.2.2.2.2.1
def coT (x:TD):Nat:=br x.2.2.2.2.2.1 x.2.2.2.2.2.2.1
noncomputable def plT (x:TD):Bool:=decide (cF x=0)&&(exT x&&!decide (0<seT x))
theorem oK:smT d0:=by unfold smT;simp
theorem fcT {x:TD} (h:smT x):ap10 (bD 20000000) x=some (cF x):=xa h.1 h.2.1 h.2.2.2.1 h.2.2.2.2.1 h.2.2.2.2.2
theorem reT {x:TD} (h:smT x):ap10 (jd 20000000) x=some (if exT x then 1 else 0):=by
 obtain ⟨a,b,c,_⟩:=h;exact Dp 20000000 _ _ _ _ _ _ _ _ _ _ (by omega) (by omega) (by omega) (by omega)
theorem rsT (x:TD):ap10 (aN 20000000) x=some (seT x):=mn 20000000 (by omega) _ _ _ _ _ _ _ _ _ _
theorem rcoT (x:TD):ap10 (au 20000000) x=some ((coT x:Nat):Int):=dA 20000000 _ _ _ _ _ _ _ _ _ _
theorem fpT {x:TD} (h:smT x):ap10 (bn 20000000) x=some (if x.2.2.2.2.2.2.1=[] then (if 0<seT x then 0 else if x.2.2.2.2.2.1=[] then 1 else 2) else 3):=Pl 20000000 _ _ _ _ _ _ _ _ _ _ h.1
theorem fmT {x:TD} (h:smT x):ap10 (fi 20000000) x=some (hasX x.2.2.1||(hasX x.2.2.2.2.2.1||hasX x.2.2.2.2.2.2.1)):=by
 obtain ⟨a,b,c,_⟩:=h;exact Dz 20000000 _ _ _ _ _ _ _ _ _ _ (by omega) (by omega) (by omega)
theorem fdT {x:TD} (h:smT x):ap10 (gC 20000000) x=some (if cF x=0 then (if exT x=true then (0,(dyT x).1,0,(dyT x).2,0) else (0,0,0,0,1)) else (0,0,0,0,cF x)):=F5 h.1 h.2.1 h.2.2.1 h.2.2.2.1 h.2.2.2.2.1 h.2.2.2.2.2
theorem Ln {x:TD} (hc:cF x=0) (a:exT x=true):x.2.2.2.2.1=0/\Exact x.1 x.2.1 x.2.2.1 x.2.2.2.1 x.2.2.2.2.2.1 x.2.2.2.2.2.2.1:=xb hc a
theorem rdT {x:TD} (h:smT x) (hc:cF x=0) (b:exT x=true):ap10 (dw 20000000) x=some (dyT x):=by
 obtain ⟨a,E⟩:=Ln hc b;have:=vF (k0:=x.2.2.2.2.2.2.2.1) (k1:=x.2.2.2.2.2.2.2.2.1) (k2:=x.2.2.2.2.2.2.2.2.2) E h.2.1;rw [<-a] at this;exact this
theorem SR {x:TD} (hc:cF x=0) (a:exT x=true):(dyT x).1<=(dyT x).2:=TC (Ln hc a).2
theorem tU {x:TD} (hc:cF x=0):(x.2.2.2.2.2.1=[]\/x.2.2.2.2.2.1.length=2)/\(x.2.2.2.2.2.2.1=[]\/x.2.2.2.2.2.2.1.length=2)/\(x.2.2.2.2.2.2.1≠[]->x.2.2.2.2.2.1≠[]/\seT x=0):=by
 obtain ⟨_,a,b,_,c⟩:=pX (mR hc);exact ⟨a,b,c⟩
theorem jw {x y:TD}:eqD x y=true↔x=y:=by
 obtain ⟨a1,a2,o,i,d,n,m,l,k,a⟩:=x;obtain ⟨b1,b2,p,h,g,e,c,f,j,b⟩:=y;simp [and_assoc]
theorem HY {x:TD} (h:smT x):oa 20000000 x=some (exT x):=by
 unfold oa;rw [fmT h];simp only [ob,exT,exD];cases (hasX x.2.2.1||(hasX x.2.2.2.2.2.1||hasX x.2.2.2.2.2.2.1))<;>rfl
theorem CW {x:TD} (h:smT x):mr 20000000 x=some (plT x):=by
 unfold mr plT;rw [fcT h,HY h,fpT h];simp only [ob];by_cases hc:cF x=0
 ·rw [hc];cases d:exT x
  ·rfl
  ·show some ((if _ then _ else _) != (0:Int))=some (true&&(true&&!decide (0<seT x)));obtain ⟨_,_,c⟩:=tU hc;by_cases a:x.2.2.2.2.2.2.1=[]
   ·rw [ae a];by_cases hs:0<seT x
    ·rw [ae hs,aq hs];rfl
    ·rw [ab hs,ar hs];by_cases b:x.2.2.2.2.2.1=[]
     ·rw [ae b];rfl
     ·rw [ab b];rfl
   ·rw [ab a,(c a).2];rfl
 ·rw [ar hc,show (cF x==0)=false from by simp [hc]];rfl
theorem ng {x:TD}:plT x=true↔cF x=0/\exT x=true/\¬0<seT x:=by
 unfold plT;simp [and_assoc]
noncomputable def ordB (x y:TD):Bool:=(plT x&&plT y)&&(decide (coT x=coT y)&&decide ((dyT x).1<=(dyT y).1))
theorem zQ {x:TD} (hc:cF x=0) (hs:¬0<seT x):(if x.2.2.2.2.2.2.1=[] then (if 0<seT x then (0:Int) else if x.2.2.2.2.2.1=[] then 1 else 2) else 3)=((coT x:Nat):Int):=by
 obtain ⟨_,_,c⟩:=tU hc;unfold coT br;by_cases a:x.2.2.2.2.2.2.1=[]
 ·rw [ae a,ab hs];by_cases b:x.2.2.2.2.2.1=[]
  ·simp [b,a]
  ·simp [b,a]
 ·have b:=(c a).1;simp [a,b]
theorem J6 {x y:TD} (hx:smT x) (hy:smT y):nL 20000000 x y=some (ordB x y):=by
 unfold nL ordB;rw [CW hx,CW hy];cases k:plT x
 ·rfl
 cases f:plT y
 ·rfl
 obtain ⟨b,i,g⟩:=ng.1 k;obtain ⟨d,m,j⟩:=ng.1 f;rw [fpT hx,fpT hy,fdT hx,fdT hy,zQ b g,zQ d j,ae b,ae d,ae i,ae m];simp only [ob,u5,u4,u3,u2,du,af,Bool.and_self,qZ];by_cases a:coT x=coT y
 ·rw [a,aq rfl];obtain ⟨r,l,h⟩:=Jh (dyT x).1 (dyT y).1;simp only [fC,af,l,qZ];refine cD some ?_;have:decide (r<=0)=!decide (r>0):=by
   by_cases c:r<=0
   ·rw [aq c,ar (by omega)];rfl
   ·rw [ar c,aq (by omega)];rfl
  rw [this,h];by_cases e:(dyT x).1<=(dyT y).1
  ·rw [aq e,ar (by omega)];rfl
  ·rw [ar e,aq (by omega)];rfl
 ·have:(((coT x:Nat):Int) != ((coT y:Nat):Int))=true:=by simp;omega
  rw [this,ar a];rfl
noncomputable def itE (x:TD) (r:Bool) (y:TD) (all:Bool):Int:=
 if cF x≠0 then cF x else if r=true/\cF y≠0 then cF y else if r=false/\eqD y d0=false then 5 else if r=true/\ordB x y=false then 10 else if all=true/\exT x=false then 10 else 0
theorem En {x y:TD} (r:Bool) (hx:smT x) (hy:smT y) (K:Int) (hc:cF x=0) (a:¬(r=true/\cF y≠0)):eM 20000000 5 10 10 x r y K=some (itE x r y (K==4)):=by
 unfold eM si rO rt itE;rw [J6 hx hy,HY hx,ab (by simpa using hc),ab a];cases r
 ·generalize eqD y d0=z;cases z
  ·rfl
  ·cases (K==4)
   ·rfl
   ·cases exT x<;>rfl
 ·simp only [ob,du,af,ah,reduceCtorEq,xi,aE,kP];cases ordB x y
  ·rfl
  ·simp only [du,af,Bool.true_eq_false,aE];cases (K==4)
   ·rfl
   ·cases exT x<;>rfl
theorem GT {x y:TD} (r:Bool) (hx:smT x) (hy:smT y) (K:Int):gh 20000000 x r y K=some (if K=3\/K=4 then itE x r y (K==4) else 18):=by
 have b:(ob (ap10 (bD 20000000) x) λe=>(cond (e != 0) (some e) (cond r (ob (ap10 (bD 20000000) y) λd=>(cond (d != 0) (some d) (ob (eM 20000000 5 10 10 x r y K) λh=>(some h)))) (ob (eM 20000000 5 10 10 x r y K) λg=>(some g)))))=some (itE x r y (K==4)):=by
  rw [fcT hx];simp only [ob];by_cases hc:cF x=0
  ·rw [show (cF x != 0)=false from by simp [hc],af];cases r
   ·rw [En false hx hy K hc (by simp)];rfl
   ·rw [ah,fcT hy];simp only;by_cases a:cF y=0
    ·rw [show (cF y != 0)=false from by simp [a],af,En true hx hy K hc (by simp [a])]
    ·rw [show (cF y != 0)=true from by simp [a],ah];unfold itE;rw [ab (by simpa using hc),ae ⟨rfl,a⟩]
  ·rw [show (cF x != 0)=true from by simp [hc],ah];unfold itE;rw [ae hc]
 unfold gh;by_cases f:K=3
 ·subst f;exact b.trans (by rfl)
 ·rw [show (K != 3)=true from by simp [f],ah];by_cases c:K=4
  ·subst c;exact b.trans (by rfl)
  ·rw [show (K != 4)=true from by simp [c],ah,ab (by omega)]
theorem Zd {x y:TD} {r all:Bool} (h:cF x≠0):itE x r y all=cF x:=ae h
theorem WW {x y:TD} {all:Bool} (hc:cF x=0) (h:cF y≠0):itE x true y all=cF y:=by
 unfold itE;rw [ab (λh=>h hc),ae ⟨rfl,h⟩]
theorem Rl {x y:TD} {all:Bool} (hc:cF x=0):itE x false y all=if eqD y d0=false then 5 else if all=true/\exT x=false then 10 else 0:=by
 have b:(false=true/\cF y≠0)↔False:=by simp
 have a:(false=true/\ordB x y=false)↔False:=by simp
 have c:(false=false/\eqD y d0=false)↔eqD y d0=false:=by simp
 unfold itE;rw [ab (λh=>h hc)];simp only [b,a,aE,kP]
theorem WN {x y:TD} {all:Bool} (hc:cF x=0) (hy:cF y=0):itE x true y all=if ordB x y=false then 10 else if all=true/\exT x=false then 10 else 0:=by
 have b:(true=true/\ordB x y=false)↔ordB x y=false:=by simp
 have a:(true=false/\eqD y d0=false)↔False:=by simp
 unfold itE;rw [ab (λh=>h hc),ab (λh=>h.2 hy)];simp only [a,aE,kP]
def pg {A:Type} (f:Nat->A->Int):Nat->List A->Option (Nat×Int)
 | _,[]=>none
 | i,t::r=>if f i t≠0 then some (i,f i t) else pg f (i+1) r
theorem zZ {A X Y:Type} {step:X->Option (X⊕Y)} {st:Nat->X} {L:List A} {f:Nat->A->Int} {yes:Nat->Int->Y} {no:Y}
  (c:∀i t,L[i]?=some t->step (st i)=some (if f i t≠0 then .inr (yes i (f i t)) else .inl (st (i+1)))) (d:step (st L.length)=some (.inr no)):
  ∀(r i:Nat),i+r=L.length->∀N,r<N->aw step N (st i)=some (match pg f i (L.drop i) with | some p=>yes p.1 p.2 | none=>no):=by
 intro r
 induction r with
 | zero=>
  intro i hi N g;obtain ⟨N,rfl⟩:∃k,N=k+1:=⟨N - 1,by omega⟩;rw [aw,show i=L.length by omega,d,yb];rfl
 | succ r ih=>
  intro i hi N g;obtain ⟨N,rfl⟩:∃k,N=k+1:=⟨N - 1,by omega⟩;have a:i<L.length:=by omega
  have e:L[i]?=some L[i]:=aT a;rw [aw,c i _ e,rP a,pg];by_cases b:f i L[i]≠0
  ·rw [ae b,ae b]
  ·rw [ab b,ab b];exact ih (i+1) (by omega) N (by omega)
abbrev rT (t:TI):Bool:=(d8 t).2.2.1
abbrev iT (t:TI):TD:=(d8 t).2.2.2
def smI (t:TI):Prop:=smT (iF t)/\smT (iT t)
noncomputable def itI (t:TI) (all:Bool):Int:=itE (iF t) (rT t) (iT t) all
noncomputable def endB (t:TI):Bool:=!rT t&&plT (iF t)
noncomputable def errI (K:Int) (e l:Bool) (n i:Nat) (t:TI):Int:=
 if itI t (K==4)≠0 then itI t (K==4) else if (e&&decide (i=0))&&!endB t||((l&&decide (i+1=n))&&!endB t||(e&&(l&&decide (n=1)))) then 10 else 0
noncomputable def xA (K:Int) (e l:Bool) (L:List TI):Int×Int:=match pg (errI K e l L.length) 0 L with
 | some p=>((p.1:Int),p.2)
 | none=>(0,0)
theorem pm {i:Nat} (h:i<9223372036854775807):w64 ((i:Int)+1)=((i+1:Nat):Int):=by
 show IntKind.wrap .i64 _=_;rw [wrap_i64 _ (by omega) (by omega)];omega
theorem Gk {i:Nat} (a:0<i) (h:i<9223372036854775807):w64 ((i:Int) - 1)=((i - 1:Nat):Int):=by
 show IntKind.wrap .i64 _=_;rw [wrap_i64 _ (by omega) (by omega)];omega
theorem natB (a b:Nat):(((a:Nat):Int)==((b:Nat):Int))=decide (a=b):=by
 by_cases h:a=b
 ·subst h;simp
 ·rw [ar h];simp;omega
theorem MJ (a:Nat):(((a:Nat):Int)==0)=decide (a=0):=natB a 0
theorem WT {x y:TD} (r:Bool) (hx:smT x):n9 20000000 x r y=some (!r&&plT x):=by
 unfold n9;rw [CW hx];cases r<;>rfl
theorem OU {K:Int} (m:K=3\/K=4) {e l:Bool} {L:List TI} {i:Nat} {t:TI} (hi:L[i]?=some t) (hs:smI t) (o:L.length<=1000000) (D:TD) (KF:Int) (DF:TD) (KT:Int) (DT:TD):
  gN 20000000 (itI t (K==4)) 10 10 10 (iF t) (rT t) (iT t) K D KF DF KT DT e l (i:Int) (w64 (len L - 1)) L=some (errI K e l L.length i t):=by
 have j:i<L.length:=(qX.1 hi).1;have d:w64 (len L - 1)=((L.length - 1:Nat):Int):=Gk (by omega) (by omega);have g:gh 20000000 (iF t) (rT t) (iT t) K=some (itI t (K==4)):=by
  rw [GT _ hs.1 hs.2,ae m];rfl
 unfold gN qI qK qm qC errI;rw [g,d];simp only [WT (rT t) hs.1,ob,MJ,natB];have k:decide (i=L.length - 1)=decide (i+1=L.length):=by congr 1;exact propext (by omega)
 have n:decide (L.length - 1=0)=decide (L.length=1):=by congr 1;exact propext (by omega)
 rw [k,n];show cond (itI t (K==4) != 0) _ _=_;by_cases f:itI t (K==4)=0
 ·rw [ab (λh=>h f),show (itI t (K==4) != 0)=false from by simp [f],af];show _=some (if ((e&&decide (i=0))&&!endB t||((l&&decide (i+1=L.length))&&!endB t||(e&&(l&&decide (L.length=1)))))=true then 10 else 0);unfold endB;generalize (!rT t&&plT (iF t))=z;generalize decide (i=0)=a;generalize decide (i+1=L.length)=b;generalize decide (L.length=1)=c;cases e<;>cases l<;>cases z<;>cases a<;>cases b<;>cases c<;>rfl
 ·rw [ae f,show (itI t (K==4) != 0)=true from by simp [f],ah]
theorem QP {K:Int} (g:K=3\/K=4) {e l:Bool} {L:List TI} (hs:∀t∈L,smI t) (j:L.length<=1000000) (D:TD) (KF:Int) (DF:TD) (KT:Int) (DT:TD):
  mj 20000000 K D KF DF KT DT e l L=some (xA K e l L):=by
 have:=zZ (step:=fH 20000000) (st:=λi=>(len L,(i:Int),L,K,D,KF,DF,KT,DT,e,l,w64 (len L - 1))) (L:=L) (f:=errI K e l L.length) (yes:=λi q=>.inl ((i:Int),q)) (no:=.inr ())
  (λi t hi=>by
   have c:i<L.length:=(qX.1 hi).1;have a:=hs t (fc hi);have d:gh 20000000 (iF t) (rT t) (iT t) K=some (itI t (K==4)):=by
    rw [GT _ a.1 a.2,ae g];rfl
   unfold fH;simp only [u12,u11,u10,u9,u8,u7,u6,u5,u4,u3,u2];rw [aq (show (i:Int)<len L by unfold len;omega),dk c];simp only [ah,ob,hi];rw [show gh 20000000 (iF t) (d8 t).2.2.1 (d8 t).2.2.2 K=some (itI t (K==4)) from d];simp only;rw [show gN 20000000 (itI t (K==4)) 10 10 10 (iF t) (d8 t).2.2.1 (d8 t).2.2.2 K D KF DF KT DT e l (i:Int) (w64 (len L - 1)) L=some (errI K e l L.length i t) from OU g hi a j D KF DF KT DT];simp only;rw [pm (by omega)];by_cases b:errI K e l L.length i t=0
   ·rw [ab (λh=>h b),show (errI K e l L.length i t != 0)=false from by simp [b]];rfl
   ·rw [ae b,show (errI K e l L.length i t != 0)=true from by simp [b]];rfl)
  (by
   unfold fH;simp only [u12,u11,u10,u9,u8,u7,u6,u5,u4,u3,u2];rw [ar (show ¬((L.length:Nat):Int)<len L by unfold len;omega)];rfl)
  L.length 0 (by omega) 20000000 (by omega)
 unfold mj xA;rw [cU] at this;show obs (aw (fH 20000000) 20000000 (len L,((0:Nat):Int),L,K,D,KF,DF,KT,DT,e,l,w64 (len L - 1))) _ _=_;rw [this];cases pg (errI K e l L.length) 0 L<;>rfl
noncomputable def sw (K:Int) (x:TD):Int:=chkB K x.1 x.2.1 x.2.2.1 x.2.2.2.1 x.2.2.2.2.1 x.2.2.2.2.2.1 x.2.2.2.2.2.2.1 x.2.2.2.2.2.2.2.1 x.2.2.2.2.2.2.2.2.1 x.2.2.2.2.2.2.2.2.2
noncomputable def nP (K:Int) (x:TD) (a:Int) (y:TD):Int:=F9 (sw K x) (sw a y) K a (dyT x).1 (dyT y).2
theorem OI {x y:TD} (hx:smT x) (hy:smT y) (K a:Int):ap10 (ap10 (iJ 20000000 K) x a) y=some (nP K x a y):=
 VI hx.1 hx.2.1 hx.2.2.1 hx.2.2.2.1 hx.2.2.2.2.1 hx.2.2.2.2.2 hy.1 hy.2.1 hy.2.2.1 hy.2.2.2.1 hy.2.2.2.2.1 hy.2.2.2.2.2
theorem LQ {x y:TD} (hx:smT x) (hy:smT y) (K a:Int):ap10 (ap10 (iv 20000000 K) x a) y=some (nP K x a y):=
 Qe hx.1 hx.2.1 hx.2.2.1 hx.2.2.2.1 hx.2.2.2.2.1 hx.2.2.2.2.2 hy.1 hy.2.1 hy.2.2.1 hy.2.2.2.1 hy.2.2.2.2.1 hy.2.2.2.2.2
def unuB (K:Int) (D:TD) (KF:Int) (DF:TD) (KT:Int) (DT:TD) (e l:Bool) (n:Nat):Bool:=
 !(K==1||eqD D d0)||(!(K==2||((KF==0)&&((eqD DF d0)&&true))&&((KT==0)&&((eqD DT d0)&&true)))||!(K==3||(K==4||(decide (n=0)&&(!e&&!l)))))
theorem Ou (n:Nat) (K:Int) (D:TD) (KF:Int) (DF:TD) (KT:Int) (DT:TD) (e l:Bool) (L:List TI):
  mS n K D KF DF KT DT e l L=some (unuB K D KF DF KT DT e l L.length):=by
 unfold mS unuB;rw [show (len L==0)=decide (L.length=0) from MJ _];generalize eqD D d0=a;generalize ((KF==0)&&((eqD DF d0)&&true))=z1;generalize ((KT==0)&&((eqD DT d0)&&true))=z2;generalize decide (L.length=0)=b;generalize (K==1)=k1;generalize (K==2)=k2;generalize (K==3)=k3;generalize (K==4)=k4;revert a z1 z2 b k1 k2 k3 k4 e l;decide +kernel
noncomputable def jb (K:Int) (D:TD) (KF:Int) (DF:TD) (KT:Int) (DT:TD) (e l:Bool) (L:List TI):Int×Int:=
 if K<1\/4<K then (0,18) else if unuB K D KF DF KT DT e l L.length=true then (0,5) else if K=1 then (0,cF D) else if K=2 then (0,nP KF DF KT DT) else if L.length=0 then (0,17) else if 256<L.length then (0,3) else xA K e l L
def smE (D DF DT:TD) (L:List TI):Prop:=smT D/\smT DF/\smT DT/\∀t∈L,smI t
theorem Im {K:Int} {D:TD} {KF:Int} {DF:TD} {KT:Int} {DT:TD} {e l:Bool} {L:List TI} (h:smE D DF DT L):
  ma 20000000 K D KF DF KT DT e l L=some (jb K D KF DF KT DT e l L):=by
 obtain ⟨j,i,g,f⟩:=h;unfold ma jb;by_cases a:K<1
 ·rw [aq a,ae (.inl a)];rfl
 by_cases c:4<K
 ·rw [ar a,show decide (K>4)=true from aq c,ae (.inr c)];rfl
 rw [ar a,show decide (K>4)=false from ar c,ab (by omega),Ou];simp only [af,ob];cases unuB K D KF DF KT DT e l L.length
 ·simp only [af,bz,aE];by_cases k1:K=1
  ·rw [ae k1,show (K==1)=true from by simp [k1],fcT j];rfl
  by_cases k2:K=2
  ·rw [ab k1,ae k2,show (K==1)=false from by simp [k1],show (K==2)=true from by simp [k2],OI i g];rfl
  rw [ab k1,ab k2,show (K==1)=false from by simp [k1],show (K==2)=false from by simp [k2]];simp only [af];rw [show (len L==0)=decide (L.length=0) from MJ _];by_cases b:L.length=0
  ·rw [aq b,ae b];rfl
  rw [ar b,ab b];by_cases d:256<L.length
  ·rw [show decide (len L>256)=true from aq (by show (256:Int)<((L.length:Nat):Int);omega),ae d];rfl
  rw [show decide (len L>256)=false from ar (by show ¬(256:Int)<((L.length:Nat):Int);omega),ab d,QP (by omega) f (by omega)];rfl
 ·rfl
theorem Ia {K:Int} {D:TD} {KF:Int} {DF:TD} {KT:Int} {DT:TD} {e l:Bool} {L:List TI} (h:smE D DF DT L):
  iE 20000000 K D KF DF KT DT e l L=some (jb K D KF DF KT DT e l L).2:=by
 unfold iE;rw [Im h];rfl
abbrev TR:=aj
def natI (x:Int) (b:Nat):Prop:=0<=x/\x<(b:Int)
def wfD (a0 a2 e b a f g d c:Int):Prop:=natI a0 256/\natI a2 65536/\natI e 256/\natI b 256/\natI a 256/\natI f 256/\natI g 256/\natI d 256/\natI c 256
theorem natI.nat {x:Int} {b:Nat} (h:natI x b):∃n:Nat,x=(n:Int)/\n<b:=⟨x.toNat,by have:=h.1;omega,by have:=h.1;have:=h.2;omega⟩
theorem DofI {a0 a2 c a i k b f j:Int} (g:Bool) (h:wfD a0 a2 c a i k b f j):∃x:TD,aK 20000000 a0 g a2 c a i k b f j=some x/\smT x/\cF x=0:=by
 obtain ⟨D,u,F,o,s,p,t,K,y⟩:=h;obtain ⟨a0,rfl,b0⟩:=D.nat;obtain ⟨a2,rfl,b2⟩:=u.nat;obtain ⟨c,rfl,B⟩:=F.nat;obtain ⟨a,rfl,C⟩:=o.nat;obtain ⟨i,rfl,H⟩:=s.nat;obtain ⟨k,rfl,z⟩:=p.nat;obtain ⟨b,rfl,I⟩:=t.nat;obtain ⟨f,rfl,G⟩:=K.nat;obtain ⟨j,rfl,E⟩:=y.nat;obtain ⟨L,l,dg,x,q,w,d,k0,k1,k2,e,hc,v,r⟩:=WX 19999700 a0 a2 c a i k b f j g b2 B C H z I G E;obtain ⟨A,n,m,_⟩:=pX hc;obtain ⟨_,_,_,_,_,J⟩:=iN A;refine ⟨_,e,⟨?_,by show dg.length<=100;omega,?_,by simp,by simp,by simp⟩,Jf hc r⟩
 ·rcases n with h | h
  ·rw [h];simp
  ·show w.length<=18;omega
 ·rcases m with h | h
  ·rw [h];simp
  ·show d.length<=18;omega
theorem PM:((List.range 13).all λj=>sea (monT j)==0)=true:=by decide +kernel
theorem Zu (a0 a2 i f a h n m k:Nat) (g:Bool) (t:a2<65536) (v:i<256) (o:f<256) (s:a<256) (p:h<256) (w:a%40<=12):
  ∃r:TD,aK 20000000 (a0:Int) g (a2:Int) (i:Int) (f:Int) (a:Int) (h:Int) (n:Int) (m:Int) (k:Int)=some r/\seT r=0:=by
 obtain ⟨y,l,dg,x,q,u,d,e,_,_,_,_,c,b,_⟩:=LD 19999700 a0 a2 i f a h n m k g t v o s p;refine ⟨_,e,?_⟩;show sea u=0;by_cases j:q=0
 ·rw [b j];have:=(bW.1 PM) (a%40) (jA.2 (by omega));simpa using this
 ·rw [(c j).1];decide
theorem ExI {a0 a2 k i f b j m n:Int} (g:Bool) (h:wfD a0 a2 k i f b j m n):
  ∃x:TD,bH 20000000 a0 g a2 k i f b j m n=some x/\smT x/\cF x=0/\exT x=true/\(Int.tmod f 40<=12->seT x=0):=by
 obtain ⟨Q,H,u,q,D,s,F,U,K⟩:=h;obtain ⟨a0,rfl,b0⟩:=Q.nat;obtain ⟨a2,rfl,b2⟩:=H.nat;obtain ⟨k,rfl,z⟩:=u.nat;obtain ⟨i,rfl,B⟩:=q.nat;obtain ⟨f,rfl,C⟩:=D.nat;obtain ⟨b,rfl,M⟩:=s.nat;obtain ⟨j,rfl,Y⟩:=F.nat;obtain ⟨m,rfl,X⟩:=U.nat;obtain ⟨n,rfl,W⟩:=K.nat;obtain ⟨G,l,dg,x,I,d,k0,k1,k2,e,hc,O,t,p,v⟩:=HM 19999700 a0 a2 k i f b j m n g b0 b2 z B C M;refine ⟨_,e,⟨t,v,p,by simp,by simp,by simp⟩,hc,O,λE=>?_⟩;have A:Int.tmod (f:Int) 40=((f%40:Nat):Int):=rfl;rw [A] at E;have T:Int.tmod (b:Int) 40=((b%40:Nat):Int):=rfl;have L:Int.tdiv ((b%40:Nat):Int) 2=((b%40 / 2:Nat):Int):=rfl;have R:IntKind.wrap .u8 ((b%40 / 2:Nat):Int)=((b%40 / 2:Nat):Int):=fU _ (by omega) (by omega);have S:=λ(N w:Nat) (s:w<256)=>Zu N a2 k i f w j m n g b2 z B C s (by omega);have e':bH 20000000 (a0:Int) g (a2:Int) (k:Int) (i:Int) (f:Int) (b:Int) (j:Int) (m:Int) (n:Int)=some (G,l,dg,x,0,I,d,((k0:Nat):Int),((k1:Nat):Int),((k2:Nat):Int)):=e;have key:∀(o:Option TD) (y:TD),(∃r:TD,o=some r/\seT r=0)->(ob o λa=>(cond (decide ((d4 a).1>0)) (some (a.1,a.2.1,a.2.2.1,a.2.2.2.1,(0:Int),(d4 a).2.1,(d4 a).2.2.1,(d4 a).2.2.2.1,(d8 a).1,(d8 a).2)) (some (a.1,a.2.1,a.2.2.1,a.2.2.2.1,(d4 a).1,(d4 a).2.1,(d4 a).2.2.1,(d4 a).2.2.2.1,(d8 a).1,(d8 a).2))))=some y->seT y=0:=by
  rintro o y ⟨r,rfl,P⟩ hy;simp only [ob] at hy;cases J:decide ((d4 r).1>0)<;>rw [J] at hy<;>simp only [ah,af,av] at hy<;>subst hy<;>exact P
 unfold bH at e';rw [A,T,L,R] at e';rw [ar (show ¬((f%40:Nat):Int)>33 by omega)] at e';simp only [af] at e';have V:(0:Int)=((0:Nat):Int):=rfl;cases u:(Int.tmod (a0:Int) 6==3)<;>rw [u] at e'<;>simp only [ah,af] at e'
 ·cases q:(Int.tmod (a0:Int) 6==4)<;>rw [q] at e'<;>simp only [ah,af] at e'
  ·cases c:decide (((b%40:Nat):Int)>31)<;>rw [c] at e'<;>simp only [ah,af] at e'
   ·exact key _ _ (S a0 b (by omega)) e'
   ·exact key _ _ (S a0 (b%40 / 2) (by omega)) e'
  ·cases c:decide (((b%40:Nat):Int)>31)<;>rw [c] at e'<;>simp only [ah,af] at e'
   ·exact key _ _ (S 0 b (by omega)) e'
   ·exact key _ _ (S 0 (b%40 / 2) (by omega)) e'
 ·cases c:decide (((b%40:Nat):Int)>31)<;>rw [c] at e'<;>simp only [ah,af] at e'
  ·exact key _ _ (S 0 b (by omega)) e'
  ·exact key _ _ (S 0 (b%40 / 2) (by omega)) e'
theorem HU {a0 a2 m f o l k i j:Int} (g:Bool) (h:wfD a0 a2 m f o l k i j):∃x:TD,cj 20000000 a0 g a2 m f o l k i j=some x/\smT x/\plT x=true:=by
 obtain ⟨a,rfl,r⟩:=h.2.2.2.2.1.nat;have p:Int.tmod (a:Int) 40=((a%40:Nat):Int):=rfl;have d:Int.tmod ((a%40:Nat):Int) 12=((a%40%12:Nat):Int):=rfl;unfold cj;rw [p,d];by_cases s:12<a%40
 ·rw [aq (show ((a%40:Nat):Int)>12 by omega),ah];have w:w8 (((a%40%12:Nat):Int)+1)=((a%40%12+1:Nat):Int):=by
   show IntKind.wrap .u8 _=_;rw [fU _ (by omega) (by omega)];omega
  rw [w];have q:wfD a0 a2 m f ((a%40%12+1:Nat):Int) l k i j:=⟨h.1,h.2.1,h.2.2.1,h.2.2.2.1,⟨by omega,by omega⟩,h.2.2.2.2.2⟩;obtain ⟨x,e,hs,hc,n,b⟩:=ExI g q;have c:seT x=0:=b (by
   show (((a%40%12+1)%40:Nat):Int)<=12;omega)
  exact ⟨x,by rw [e];rfl,hs,ng.2 ⟨hc,n,by omega⟩⟩
 ·rw [ar (show ¬((a%40:Nat):Int)>12 by omega),af];obtain ⟨x,e,hs,hc,n,b⟩:=ExI g h;have c:seT x=0:=b (by rw [p];omega);exact ⟨x,by rw [e];rfl,hs,ng.2 ⟨hc,n,by omega⟩⟩
theorem BofI {k a0 a2 f b j n c i m:Int} (g:Bool) (t:natI k 256) (h:wfD a0 a2 f b j n c i m):
  ∃(K:Int) (x:TD),ck 20000000 k a0 g a2 f b j n c i m=some (K,x)/\smT x/\sw K x=0/\(K=1\/((K=2\/K=3)/\x=d0)):=by
 obtain ⟨J,y,L,q,v,r,w,Q,z⟩:=h;obtain ⟨k,rfl,bk⟩:=t.nat;obtain ⟨a0,rfl,b0⟩:=J.nat;obtain ⟨a2,rfl,b2⟩:=y.nat;obtain ⟨f,rfl,H⟩:=L.nat;obtain ⟨b,rfl,I⟩:=q.nat;obtain ⟨j,rfl,M⟩:=v.nat;obtain ⟨n,rfl,D⟩:=r.nat;obtain ⟨c,rfl,V⟩:=w.nat;obtain ⟨i,rfl,U⟩:=Q.nat;obtain ⟨m,rfl,T⟩:=z.nat;obtain ⟨K,R,l,dg,x,S,d,k0,k1,k2,e,hc,o,a,p,A⟩:=B_of 19999700 k a0 a2 f b j n c i m g b0 b2 H I M D;refine ⟨K,_,e,⟨o,p,a,by simp,by simp,by simp⟩,hc,A.imp id λ⟨s,P,N,F,C,O,B,u,E,G⟩=>⟨s,?_⟩⟩;subst P N F C O B u E G;rfl
theorem Nz {g l:Bool} {dg:aa} {x:Int} {m d:aa} {k0 k1 k2:Int} (h:chkD g l dg x 0 m d k0 k1 k2=0) (c:m≠[]) (hp:0<=k0/\0<=k1):chkD g l dg x 0 m [] k0 k1 0=0:=by
 obtain ⟨b,e,j,a⟩:=DN h;unfold chkD;have f:br m []=2:=by unfold br;simp [c]
 have i:allM k0 k1 0 2=0:=by
  unfold allM at a ⊢;by_cases hx:3<k0\/3<k1\/3<k2\/(br m d<2/\k1≠0)\/(br m d<3/\k2≠0)
  ·rw [ae hx] at a;cases a
  ·rw [ab (by omega)]
 rw [b,f,i];have:(!(m==[])&&(!(decide (0<sea m))&&!(ef m 12)))=false:=by
  rcases e with h | h | h
  ·rw [h];rfl
  ·rw [aq h];simp
  ·rw [h];simp
 rw [this];rfl
theorem OR {g l:Bool} {dg:aa} {x:Int} {m d:aa} {k0 k1 k2:Int} (h:chkD g l dg x 0 m d k0 k1 k2=0):chkD g l dg x 0 [] [] k0 0 0=0:=by
 obtain ⟨b,f,i,c⟩:=DN h;have hy:yrD g l dg x 0 []=true:=by
  unfold yrD at b ⊢;by_cases a:okY g l dg x 0
  ·rw [ae a];unfold yrB;rfl
  ·rw [ab a] at b;cases b
 have e:allM k0 0 0 1=0:=by
  unfold allM at c ⊢;by_cases hx:3<k0\/3<k1\/3<k2\/(br m d<2/\k1≠0)\/(br m d<3/\k2≠0)
  ·rw [ae hx] at c;cases c
  ·rw [ab (by omega)]
 unfold chkD;rw [hy,show br [] []=1 from rfl,e];rfl
theorem zS {g l:Bool} {dg:aa} {x q:Int} {m:aa} {k0 k1 k2:Int} (h:chkD g l dg x q m [] k0 k1 k2=0):chkF g l dg x q m [] k0 k1 k2=0:=by
 unfold chkF;rw [ab (λh=>h.2.1 rfl),h]
theorem FO (x:TD):1<=coT x/\coT x<=3:=lC _ _
theorem cutI {x:TD} (hs:smT x) (hp:plT x=true) {n:Nat} (D:1<=n) (j:n<=coT x):∃y:TD,kq 20000000 x (n:Int)=some y/\smT y/\plT y=true/\coT y=n:=by
 obtain ⟨hc,w,o⟩:=ng.1 hp;obtain ⟨u,E⟩:=Ln hc w;have c:=mR hc;obtain ⟨g,l,dg,e,q,m,d,k0,k1,k2⟩:=x;obtain ⟨r,i,v,f,h,z⟩:=hs;simp only at r i v f h z c u E;subst u;have A:=FO (g,l,dg,e,0,m,d,k0,k1,k2);have b:exD dg m d 0=true:=w;obtain ⟨_,_,B⟩:=tU hc;have k:coT (g,l,dg,e,0,m,d,k0,k1,k2)=br m d:=rfl;unfold kq;by_cases F:n<3
 ·rw [aq (show (n:Int)<3 by omega),ah];by_cases C:n<2
  ·rw [aq (show (n:Int)<2 by omega),ah];have p:n=1:=by omega
   subst p;have a:=OR c;exact ⟨_,rfl,⟨by simp,i,by simp,f,by simp,by simp⟩,ng.2 ⟨zS a,(LH b).2,by show ¬0<sea [];decide⟩,rfl⟩
  ·rw [ar (show ¬(n:Int)<2 by omega),af];have p:n=2:=by omega
   subst p;have s:m≠[]:=by
    rintro rfl;rw [k] at j;unfold br at j;by_cases t:d=[]
    ·simp [t] at j
    ·exact absurd rfl (B t).1
   have a:=Nz c s ⟨f,h⟩;exact ⟨_,rfl,⟨r,i,by simp,f,h,by simp⟩,ng.2 ⟨zS a,(LH b).1,o⟩,by show br m []=2;unfold br;simp [s]⟩
 ·rw [ar (show ¬(n:Int)<3 by omega),af,ar (show ¬(n:Int)<2 by omega),af];exact ⟨_,rfl,⟨r,i,v,f,h,z⟩,hp,by omega⟩
theorem MB {p:TD} {all:Bool} (hp:plT p=true):itE p false d0 all=0:=by
 obtain ⟨hc,a,_⟩:=ng.1 hp;rw [Rl hc,a];have:eqD d0 d0=true:=jw.2 rfl;rw [this];simp
theorem Em {x y:TD} {all:Bool} (hx:plT x=true) (hy:plT y=true) (hc:coT x=coT y) (d:(dyT x).1<=(dyT y).1):itE x true y all=0:=by
 obtain ⟨a,b,_⟩:=ng.1 hx;obtain ⟨c,e,_⟩:=ng.1 hy;rw [WN a c,b];have:ordB x y=true:=by unfold ordB;rw [hx,hy,aq hc,aq d];rfl
 rw [this];simp
theorem Zo {a0 a2 o j B D l t C:Int} (g:Bool) {b0 b2 p q z m A w s:Int} (f:Bool) (R:Int) (all:Bool) (b:wfD a0 a2 o j B D l t C) (G:wfD b0 b2 p q z m A w s):
  ∃x r y,io 20000000 a0 g a2 o j B D l t C R b0 f b2 p q z m A w s all=some (x,r,y)/\smT x/\smT y/\itE x r y all=0:=by
 unfold io;cases (Int.tmod R 2==1)
 ·rw [af];cases all
  ·obtain ⟨x,e,hs,hc⟩:=DofI g b;refine ⟨x,false,d0,by rw [af,e];rfl,hs,oK,?_⟩;have:eqD d0 d0=true:=jw.2 rfl;rw [Rl hc,this];simp
  ·obtain ⟨x,e,hs,hc,H,_⟩:=ExI g b;refine ⟨x,false,d0,by rw [ah,e];rfl,hs,oK,?_⟩;have:eqD d0 d0=true:=jw.2 rfl;rw [Rl hc,this,H];simp
 ·rw [ah];obtain ⟨x,ex,sx,P⟩:=HU g b;obtain ⟨y,F,J,E⟩:=HU f G;rw [ex,F];simp only [ob,rcoT];have I:(cond (decide (((coT y:Nat):Int)<((coT x:Nat):Int))) ((coT y:Nat):Int) ((coT x:Nat):Int))=((min (coT x) (coT y):Nat):Int):=by
   by_cases h:coT y<coT x
   ·rw [aq (by omega),ah];omega
   ·rw [ar (by omega),af];omega
  rw [I];have S:=FO x;have U:=FO y;obtain ⟨u,L,i,d,T⟩:=cutI sx P (n:=min (coT x) (coT y)) (by omega) (by omega);obtain ⟨v,Q,a,c,V⟩:=cutI J E (n:=min (coT x) (coT y)) (by omega) (by omega);obtain ⟨M,N,_⟩:=ng.1 d;obtain ⟨K,O,_⟩:=ng.1 c;rw [L,Q];simp only [rdT i M N,rdT a K O,u2];by_cases k:(dyT u).1>(dyT v).1
  ·rw [aq k];exact ⟨v,true,u,rfl,a,i,Em c d (by omega) (by omega)⟩
  ·rw [ar k];exact ⟨u,true,v,rfl,i,a,Em d c (by omega) (by omega)⟩
def wfR (r:TR):Prop:=wfD r.1 r.2.2.1 r.2.2.2.1 (d4 r).1 (d4 r).2.1 (d4 r).2.2.1 (d4 r).2.2.2.1 (d8 r).1 (d8 r).2.1/\
 wfD (d8 r).2.2.2.1 (d4 (d8 r)).2.1 (d4 (d8 r)).2.2.1 (d4 (d8 r)).2.2.2.1 (d16 r).1 (d16 r).2.1 (d16 r).2.2.1 (d16 r).2.2.2.1 (d4 (d16 r))
theorem Av {A:Type} {f:Nat->A->Int}:∀{L:List A} {k:Nat},(∀i t,L[i]?=some t->f (k+i) t=0)->pg f k L=none
 | [],_,_=>rfl
 | t::r,k,h=>by
  have a:=h 0 t rfl;rw [cM] at a;rw [pg,ab (λh=>h a)];exact Av λi u b=>by rw [gO,pw 1 i];exact h (i+1) u b
structure RightE (k:Int) (D:TD) (KF:Int) (DF:TD) (KT:Int) (DT:TD) (e l:Bool) (I:List TI):Prop where
 sm:smE D DF DT I
 first:jb k D KF DF KT DT e l I=(0,0)
 len:I.length<=5
 kind:1<=k/\k<=4
 its:∀t∈I,itI t (k==4)=0
theorem KJ {k:Int} (n:k=3\/k=4) {e l:Bool} {I:List TI} (s:1<=I.length) (m:I.length<=5) (hs:∀t∈I,smI t/\itI t (k==4)=0) (r:e=true->∃t,I[0]?=some t/\endB t=true)
  (q:l=true->∃t,I[I.length - 1]?=some t/\endB t=true) (g:e=true->l=true->I.length≠1):RightE k d0 0 d0 0 d0 e l I:=by
 refine ⟨⟨oK,oK,oK,λt d=>(hs t d).1⟩,?_,m,by omega,λt d=>(hs t d).2⟩;have p:unuB k d0 0 d0 0 d0 e l I.length=false:=by
  have o:eqD d0 d0=true:=jw.2 rfl;unfold unuB;rw [o];rcases n with rfl | rfl<;>rfl
 unfold jb;rw [ab (by omega),ab (by rw [p];simp),ab (by omega),ab (by omega),ab (by omega),ab (by omega)];unfold xA;rw [Av λi t d=>?_];rw [dc];have j:i<I.length:=(qX.1 d).1;unfold errI;rw [(hs t (fc d)).2,ab (λh=>h rfl),ab];intro h;simp only [ip,az,cg,jW] at h;rcases h with ⟨⟨a,b⟩,c⟩ | ⟨⟨a,b⟩,c⟩ | ⟨a,b,c⟩
 ·obtain ⟨u,f,u2⟩:=r a;subst b;rw [d] at f;cases f;rw [u2] at c;cases c
 ·obtain ⟨u,f,u2⟩:=q a;rw [show I.length - 1=i by omega,d] at f;cases f;rw [u2] at c;cases c
 ·exact g a b c
theorem AK {p:TD} {all:Bool} (hs:smT p) (hp:plT p=true):smI (mkI p false d0)/\itI (mkI p false d0) all=0/\endB (mkI p false d0)=true:=
 ⟨⟨hs,oK⟩,MB hp,by unfold endB;show (!false&&plT p)=true;rw [hp];rfl⟩
theorem SQ (n x0:Nat) (v:Int) (k:Bool) (u:Int) (t:TD) (q:Int) (o:TD) (s:Int) (l:TD) (m a:Bool) {L:List TR} (j:Int) (f:TD) (c:Int) (h:TD) (x16:Int) (g:TD) (e d:Bool) (b I:List TI)
  {r:TR} {p:TD} (A:0<x0) (z:L[0]?=some r) (w:0<I.length) (hp:cj n r.1 r.2.1 r.2.2.1 r.2.2.2.1 (d4 r).1 (d4 r).2.1 (d4 r).2.2.1 (d4 r).2.2.2.1 (d8 r).1 (d8 r).2.1=some p):
  iQ n x0 v k u t q o s l m a L j f c h x16 g e d b I=some (x0,v,u,t,q,o,s,l,m,a,L,j,f,c,h,x16,g,e,d,b,if k=true then I.set 0 (mkI p false d0) else I)/\
  hZ n x0 v k L u t q o s l m a j f c h x16 g e d b I=some (x0,v,L,u,t,q,o,s,l,m,a,j,f,c,h,x16,g,e,d,b,if k=true then I.set 0 (mkI p false d0) else I):=by
 unfold iQ hZ;cases k
 ·exact ⟨rfl,rfl⟩
 ·have y:ix x0 (0:Int)=some 0:=dk (i:=0) A;have x:ix I.length (0:Int)=some 0:=dk (i:=0) w;simp only [ah,y,x,z,hp,ob,aT w,aM];constructor<;>trivial
theorem RV (n x0 m:Nat) (j:Bool) (u:Int) (t:TD) (q:Int) (o:TD) (s:Int) (k:TD) (l a:Bool) {L:List TR} (i:Int) (f:TD) (c:Int) (h:TD) (x16:Int) (g:TD) (e d:Bool) (b I:List TI)
  {r:TR} {p:TD} (x:m<x0) (w:L[m]?=some r) (v:m<I.length) (hp:cj n r.1 r.2.1 r.2.2.1 r.2.2.2.1 (d4 r).1 (d4 r).2.1 (d4 r).2.2.1 (d4 r).2.2.2.1 (d8 r).1 (d8 r).2.1=some p):
  iC n x0 (m:Int) j u t q o s k l a L i f c h x16 g e d b I=some ((m:Int),u,t,q,o,s,k,l,a,i,f,c,h,x16,g,e,d,b,if j=true then I.set m (mkI p false d0) else I)/\
  hO n x0 (m:Int) j L u t q o s k l a i f c h x16 g e d b I=some ((m:Int),u,t,q,o,s,k,l,a,i,f,c,h,x16,g,e,d,b,if j=true then I.set m (mkI p false d0) else I):=by
 unfold iC hO;cases j
 ·exact ⟨rfl,rfl⟩
 ·simp only [ah,dk x,dk v,w,hp,ob,aT v,aM];constructor<;>trivial
theorem IE {L:List TR} (D:∀r∈L,wfR r) {n:Nat} (M:n<=L.length) (K:n<=5) (k:Int) (e l:Bool) (c:List TI):
  ∃I:List TI,I.length=n/\(∀t∈I,smI t/\itI t (k==4)=0)/\
   aw (dj 20000000) 20000000 (n,0,L,k,e,l,c,([]:List TI))=some (n,0,d0,0,d0,0,d0,false,false,L,k,d0,0,d0,0,d0,e,l,c,I)/\
   aw (cJ 20000000) 20000000 (n,0,L,k,e,l,c,([]:List TI))=some (n,L,0,d0,0,d0,0,d0,false,false,k,d0,0,d0,0,d0,e,l,c,I):=by
 have p:∀i (r:TR) (a:List TI),i<n->L[i]?=some r->a.length=i->∃b:TI,(smI b/\itI b (k==4)=0)/\
   dj 20000000 (n,(i:Int),L,k,e,l,c,a)=some (.inl (n,((i+1:Nat):Int),L,k,e,l,c,a++[b]))/\
   cJ 20000000 (n,(i:Int),L,k,e,l,c,a)=some (.inl (n,((i+1:Nat):Int),L,k,e,l,c,a++[b])):=by
  intro i r a hi q m;obtain ⟨A,G⟩:=D r (fc q);obtain ⟨x,f,y,s,sx,F,C⟩:=Zo r.2.1 (d4 (d8 r)).1 (d8 r).2.2.1 (k==4) A G;refine ⟨mkI x f y,⟨⟨sx,F⟩,C⟩,?_,?_⟩
  ·unfold dj;simp only [u8,u7,u6,u5,u4,u3,u2];rw [aq (show (i:Int)<((n:Nat):Int) by omega),dk hi];simp only [ah,ob,q,s];rw [pm (by omega),show Nat.ble (a.length+1) eW=true from cP (by unfold eW;omega)];rfl
  ·unfold cJ;simp only [u8,u7,u6,u5,u4,u3,u2];rw [aq (show (i:Int)<((n:Nat):Int) by omega),dk hi];simp only [ah,ob,q,s];rw [pm (by omega),show Nat.ble (a.length+1) eW=true from cP (by unfold eW;omega)];rfl
 have d:∀a:List TI,dj 20000000 (n,(n:Int),L,k,e,l,c,a)=some (.inr (n,0,d0,0,d0,0,d0,false,false,L,k,d0,0,d0,0,d0,e,l,c,a)):=λa=>by
  unfold dj;simp only [u8,u7,u6,u5,u4,u3,u2];rw [ar (show ¬((n:Nat):Int)<((n:Nat):Int) by omega)];rfl
 have g:∀a:List TI,cJ 20000000 (n,(n:Int),L,k,e,l,c,a)=some (.inr (n,L,0,d0,0,d0,0,d0,false,false,k,d0,0,d0,0,d0,e,l,c,a)):=λa=>by
  unfold cJ;simp only [u8,u7,u6,u5,u4,u3,u2];rw [ar (show ¬((n:Nat):Int)<((n:Nat):Int) by omega)];rfl
 have j:∀(r i:Nat) (a:List TI),i+r=n->a.length=i->(∀t∈a,smI t/\itI t (k==4)=0)->∀N,r<N->∃I:List TI,I.length=n/\(∀t∈I,smI t/\itI t (k==4)=0)/\
   aw (dj 20000000) N (n,(i:Int),L,k,e,l,c,a)=some (n,0,d0,0,d0,0,d0,false,false,L,k,d0,0,d0,0,d0,e,l,c,I)/\
   aw (cJ 20000000) N (n,(i:Int),L,k,e,l,c,a)=some (n,L,0,d0,0,d0,0,d0,false,false,k,d0,0,d0,0,d0,e,l,c,I):=by
  intro r
  induction r with
  | zero=>
   intro i a hi m o N J;obtain ⟨N,rfl⟩:∃k,N=k+1:=⟨N - 1,by omega⟩;obtain rfl:i=n:=by omega
   exact ⟨a,m,o,by rw [aw,d],by rw [aw,g]⟩
  | succ r ih=>
   intro i a hi m o N J;obtain ⟨N,rfl⟩:∃k,N=k+1:=⟨N - 1,by omega⟩;obtain ⟨b,v,H,w⟩:=p i _ a (by omega) (aT (show i<L.length by omega)) m
   obtain ⟨I,o1,z,B,E⟩:=ih (i+1) (a++[b]) (by omega) (by simp [m]) (λx hx=>by
    rcases lg.1 hx with h | h
    ·exact o x h
    ·rw [uf.1 h];exact v) N (by omega)
   exact ⟨I,o1,z,by rw [aw,H];exact B,by rw [aw,w];exact E⟩
 exact j n 0 [] (by omega) rfl (λt u=>by cases u) 20000000 (by omega)
theorem We (n x0:Nat) (a:Int) (b:Bool) (P:List TR) (d e c g:Int) (L:List TR) (f:List TI):
  jo n x0 a b P d e c g L f=some (x0,a,b||(a==1||a==2),P,d,e,c,g,L,f)/\
  iR n x0 a b P d e c g f=some (x0,a,b||(a==1||a==2),P,d,e,c,g,f):=by
 unfold jo iR kN jZ;cases b<;>cases (a==1)<;>exact ⟨rfl,rfl⟩
theorem SJ (n x0:Nat) (e:Int) (a:Bool) (P:List TR) (c d b g:Int) (L:List TR) (f:List TI):
  iP n x0 e a P c d b g L f=some (x0,a||e==4,P,c,d,b,g,L,f)/\
  gZ n x0 e a P c d b g f=some (x0,a||e==4,P,c,d,b,g,f):=by
 unfold iP gZ;cases a<;>exact ⟨rfl,rfl⟩
theorem SI (n x0:Nat) (b:Bool) (L:List TR) (e l:Bool) (a c:List TI):
  iH n x0 b L e l a c=some (x0,L,(if b then 4 else 3),e,l,a,c)/\ia n x0 b L e l a c=some (x0,L,(if b then 4 else 3),e,l,a,c):=by
 unfold iH ia;cases b<;>exact ⟨rfl,rfl⟩
theorem SK (n:Nat) (x0 q:Int) (i:TD) (l:Int) (o:TD) (m:Int) (k:TD) (p j:Bool) (r:Int) (c:TD) (e:Int) (h:TD) (f:Int) (d:TD) (a x16:Bool) (b g:List TI):
  fV n x0 q i l o m k p j r c e h f d a x16 b g=some ((x0==0)&&a,q,i,l,o,m,k,p,j,r,c,e,h,f,d,a,x16,b,g):=by
 unfold fV;cases (x0==0)<;>rfl
theorem Sl (n:Nat) (x0:Bool) (q:Int) (i:TD) (l:Int) (o:TD) (m:Int) (k:TD) (p j:Bool) (r:Int) (b:TD) (e:Int) (h:TD) (f:Int) (c:TD) (d x16:Bool) (a g:List TI):
  fZ n x0 q i l o m k p j r b e h f c d x16 a g=some (q,i,l,o,m,k,p,j,r,b,e,h,f,c,d,!x0&&x16,a,g):=by
 unfold fZ;cases x0<;>rfl
theorem rI {x:TD} (hs:smT x) (hc:cF x=0):RightE 1 x 0 d0 0 d0 false false []:=by
 refine ⟨⟨hs,oK,oK,λt c=>by cases c⟩,?_,by simp,by omega,by simp⟩;have a:eqD d0 d0=true:=jw.2 rfl;have b:unuB 1 x 0 d0 0 d0 false false ([]:List TI).length=false:=by unfold unuB;rw [a];rfl
 unfold jb;rw [ab (by omega),ab (by rw [b];simp),ae rfl,hc]
theorem pB {KF KT:Int} {x y:TD} (hx:smT x) (hy:smT y) (h:nP KF x KT y=0):RightE 2 d0 KF x KT y false false []:=by
 refine ⟨⟨oK,hx,hy,λt c=>by cases c⟩,?_,by simp,by omega,by simp⟩;have a:eqD d0 d0=true:=jw.2 rfl;have b:unuB 2 d0 KF x KT y false false ([]:List TI).length=false:=by unfold unuB;rw [a];rfl
 unfold jb;rw [ab (by omega),ab (by rw [b];simp),ab (by omega),ae rfl,h]
theorem GY (x:TD):sw 1 x=if cF x=0 then if exT x=true then 0 else 11 else cF x:=by
 unfold sw chkB;rw [ae rfl];rfl
theorem uh {x:TD} (h:sw 1 x=0):cF x=0/\exT x=true:=by
 rw [GY] at h;by_cases hc:cF x=0
 ·rw [ae hc] at h;by_cases a:exT x=true
  ·exact ⟨hc,a⟩
  ·rw [ab a] at h;cases h
 ·rw [ab hc] at h;exact absurd h hc
theorem H9 {x:TD} (hc:cF x=0) (a:exT x=true):sw 1 x=0:=by
 rw [GY,ae hc,ae a]
theorem Ba {KF KT:Int} {x y:TD} (b:sw KF x=0) (a:sw KT y=0):nP KF x KT y=if KF≠1/\KT≠1 then 11 else if KF≠1\/KT≠1 then 0 else if (dyT x).1>(dyT y).2 then 11 else 0:=by
 unfold nP F9;rw [b,a,ab (λh=>h rfl),ab (λh=>h rfl)]
theorem S0 {n x0:Nat} {L:List TR} {r:TR} (A:0<x0) (v:L[0]?=some r) (u:n=20000000) (s:wfR r) {KF KT:Int} {x y:TD} (sx:smT x) (l:smT y) (c:sw KF x=0) (d:sw KT y=0) (X:List TI):
  ∃b f a g,iO n x0 (nP KF x KT y != 0) L KF x KT y X=some (b,f,a,g,X)/\gY n x0 (nP KF x KT y != 0) L KF x KT y X=some (b,f,a,g,X)/\
   smT f/\smT g/\nP b f a g=0:=by
 subst u;unfold iO gY;by_cases hp:nP KF x KT y=0
 ·rw [show (nP KF x KT y != 0)=false from by simp [hp]];exact ⟨KF,x,KT,y,rfl,rfl,sx,l,hp⟩
 ·rw [show (nP KF x KT y != 0)=true from by simp [hp],ah,ah];unfold kG ka;by_cases j:KF=1
  ·subst j;have k:KT=1:=by
    rw [Ba c d] at hp;by_cases h:KT=1
    ·exact h
    ·rw [ab (by simp),ae (.inr h)] at hp;exact absurd rfl hp
   subst k;obtain ⟨m,C⟩:=uh c;obtain ⟨D,B⟩:=uh d;have E:=SR m C;have F:=SR D B;have q:(dyT x).1>(dyT y).2:=by
    rw [Ba c d,ab (by simp),ab (by simp)] at hp;by_cases h:(dyT x).1>(dyT y).2
    ·exact h
    ·rw [ab h] at hp;exact absurd rfl hp
   refine ⟨1,y,1,x,rfl,rfl,l,sx,?_⟩;rw [Ba d c,ab (by simp),ab (by simp),ab (by omega)]
  ·obtain ⟨z,e,w,p,o,_⟩:=ExI (d4 (d8 r)).1 s.2;have e':bH 20000000 (d8 r).2.2.2.1 (d4 (d8 r)).1 (d4 (d8 r)).2.1 (d4 (d8 r)).2.2.1 (d4 (d8 r)).2.2.2.1 (d16 r).1 (d16 r).2.1 (d16 r).2.2.1 (d16 r).2.2.2.1 (d4 (d16 r))=some z:=e;have t:ix x0 (0:Int)=some 0:=dk (i:=0) A;rw [show (KF != 1)=true from by simp [j],ah,t];simp only [ob,v,e',u5,u4,u3,u2];refine ⟨KF,x,1,z,rfl,rfl,sx,w,?_⟩;rw [Ba c (H9 p o),ab (by simp),ae (.inl j)]
theorem OQ {L:List TR} (K:∀r∈L,wfR r) {n:Nat} (G:1<=n) (J:n<=L.length) (H:n<=5) {k:Int} (u:k=3\/k=4) (e l:Bool) {I:List TI} (s:I.length=n) (hit:∀t∈I,smI t/\itI t (k==4)=0)
  {p q:TD} (E:smT p) (B:plT p=true) (C:smT q) (v:plT q=true):
  RightE k d0 0 d0 0 d0 e (!(decide (n=1)&&e)&&l) (if l=true then (if e=true then I.set 0 (mkI p false d0) else I).set (n - 1) (mkI q false d0) else if e=true then I.set 0 (mkI p false d0) else I):=by
 obtain ⟨w,F,m⟩:=AK (all:=(k==4)) E B;obtain ⟨y,x,o⟩:=AK (all:=(k==4)) C v;have j:∀t∈(if e=true then I.set 0 (mkI p false d0) else I),smI t/\itI t (k==4)=0:=by
  intro t b;split at b
  ·rcases MH b with h | h
   ·exact hit t h
   ·rw [h];exact ⟨w,F⟩
  ·exact hit t b
 have d:(if e=true then I.set 0 (mkI p false d0) else I).length=n:=by split<;>simp [s]
 have c:e=true->(if e=true then I.set 0 (mkI p false d0) else I)[0]?=some (mkI p false d0):=by
  intro h;rw [ae h,N9 (by omega)]
 generalize z:(if e=true then I.set 0 (mkI p false d0) else I)=A at j d c;have i:(if l=true then A.set (n - 1) (mkI q false d0) else A).length=n:=by split<;>simp [d]
 have D:∀t∈(if l=true then A.set (n - 1) (mkI q false d0) else A),smI t/\itI t (k==4)=0:=by
  intro t b;split at b
  ·rcases MH b with h | h
   ·exact j t h
   ·rw [h];exact ⟨y,x⟩
  ·exact j t b
 refine KJ u (by omega) (by omega) D (λf=>?_) (λa=>?_) (λf a=>?_)
 ·by_cases a:l=true
  ·rw [ae a];by_cases g:n=1
   ·subst g;exact ⟨mkI q false d0,by rw [N9 (by omega)],o⟩
   ·exact ⟨mkI p false d0,by rw [List.getElem?_set_ne (by omega)];exact c f,m⟩
  ·rw [ab a];exact ⟨_,c f,m⟩
 ·simp only [az] at a;rw [ae a.2,FU,d];exact ⟨mkI q false d0,by rw [N9 (by omega)],o⟩
 ·rw [f] at a;simp only [D3,az,jW,tN] at a;rw [i];exact a.1
theorem Uk:wfR ((0,false,0,0,0,0,0,0,0,0,0,0,false,0,0,0,0,0,0,0,0):TR):=by
 have z:natI 0 256:=⟨by omega,by omega⟩;have z2:natI 0 65536:=⟨by omega,by omega⟩;exact ⟨⟨z,z2,z,z,z,z,z,z,z⟩,⟨z,z2,z,z,z,z,z,z,z⟩⟩
theorem min5 (m:Nat):cond (decide ((5:Int)<((m:Nat):Int))) 5 ((m:Nat):Int)=((min 5 m:Nat):Int):=by
 by_cases h:5<m
 ·rw [aq (by omega),ah];omega
 ·rw [ar (by omega),af];omega
theorem V7 (k:Nat):((((k%8:Nat):Int)==0)||((((k%8:Nat):Int)==1)||(((k%8:Nat):Int)==2)))=decide (k%8<3)/\((((k%8:Nat):Int)==3)||(((k%8:Nat):Int)==4))=decide (k%8=3\/k%8=4):=by
 have h:k%8<8:=sc _ (by omega);generalize k%8=j at *;rcases (by omega:j=0\/j=1\/j=2\/j=3\/j=4\/j=5\/j=6\/j=7) with rfl | rfl | rfl | rfl | rfl | rfl | rfl | rfl<;>decide
theorem E_of {K N J B:Int} (hK:natI K 256) (h0:natI N 256) (h1:natI J 256) (hB:natI B 256) {L:List TR} (hL:∀r∈L,wfR r):
  ∃k D KF DF KT DT e l I,lD 20000000 K N J B L=some (k,D,KF,DF,KT,DT,e,l,I)/\RightE k D KF DF KT DT e l I:=by
 obtain ⟨K,rfl,bK⟩:=hK.nat;have G:Int.tmod (K:Int) 8=((K%8:Nat):Int):=rfl;obtain ⟨k1,k2⟩:=V7 K;unfold lD lw;rw [show (len L==0)=decide (L.length=0) from MJ _];generalize t:(if L=[] then [(0,false,0,0,0,0,0,0,0,0,0,0,false,0,0,0,0,0,0,0,0)] else L:List TR)=M;have d:∀r∈M,wfR r:=by
  intro r c;rw [<-t] at c;split at c
  ·rw [uf.1 c];exact Uk
  ·exact hL r c
 have hMl:1<=M.length:=by
  rw [<-t];split
  ·simp
  ·rename_i h;exact List.length_pos_iff.2 h
 have C:min 5 M.length<=M.length:=G8 _ _;have z:1<=min 5 M.length:=by omega
 have f:min 5 M.length<=5:=Nat.min_le_left _ _;obtain ⟨r,c⟩:∃r,M[0]?=some r:=⟨M[0],aT (by omega)⟩;obtain ⟨Z,o⟩:∃r,M[min 5 M.length - 1]?=some r:=⟨M[min 5 M.length - 1],aT (by omega)⟩;have s:=d r (fc c);have hw':=d Z (fc o);obtain ⟨x,ex,sx,V⟩:=DofI r.2.1 s.1;obtain ⟨KF,X,u,g,E,_⟩:=BofI r.2.1 h0 s.1;obtain ⟨KT,bt,y,j,A,_⟩:=BofI (d4 (d8 r)).1 h1 s.2;obtain ⟨p,ep,sp,pp⟩:=HU r.2.1 s.1;obtain ⟨q,eq,Y,W⟩:=HU Z.2.1 hw'.1;have H:ix (min 5 M.length) (0:Int)=some 0:=dk (i:=0) (by omega);have w:bx M.length (cond (decide ((5:Int)<len M)) 5 (len M))=some (min 5 M.length):=by
  rw [show (cond (decide ((5:Int)<len M)) 5 (len M))=((min 5 M.length:Nat):Int) from min5 _,cT C]
 have a:w64 (((min 5 M.length:Nat):Int) - 1)=((min 5 M.length - 1:Nat):Int):=Gk (by omega) (by omega);have F:(((min 5 M.length - 1:Nat):Int)==0)=decide (min 5 M.length=1):=by
  rw [MJ];congr 1;exact propext (by omega)
 by_cases b:L=[]
 ·rw [ae b] at t;subst b;rw [show decide (([]:List TR).length=0)=true from rfl,ah];simp only [obs,sm,ob,u7,u6,u5,u4,u3,u2,t,w,G,(We _ _ _ _ _ _ _ _ _ _ _).1,u10,u9,u8,k1];by_cases hs:K%8<3
  ·rw [aq hs];simp only [ah,H,c,ex];exact ⟨_,_,_,_,_,_,_,_,_,rfl,rI sx V⟩
  rw [ar hs];simp only [af,(SJ _ _ _ _ _ _ _ _ _ _ _).1,u9,u8,u7,u6,u5,u4,u3,u2,k2];by_cases v:K%8=3\/K%8=4
  ·rw [aq v];have ebf':ck 20000000 N r.1 r.2.1 r.2.2.1 r.2.2.2.1 (d4 r).1 (d4 r).2.1 (d4 r).2.2.1 (d4 r).2.2.2.1 (d8 r).1 (d8 r).2.1=some (KF,X):=u;have ebt':ck 20000000 J (d8 r).2.2.2.1 (d4 (d8 r)).1 (d4 (d8 r)).2.1 (d4 (d8 r)).2.2.1 (d4 (d8 r)).2.2.2.1 (d16 r).1 (d16 r).2.1 (d16 r).2.2.1 (d16 r).2.2.2.1 (d4 (d16 r))=some (KT,bt):=y;obtain ⟨T,x',O,y',j1,_,U,Q,hp⟩:=S0 (n:=20000000) (x0:=min 5 M.length) (by omega) c rfl s g j E A ([]:List TI);simp only [ah,H,c,ebf',ebt',LQ g j,j1,u5,u4,u3,u2];exact ⟨_,_,_,_,_,_,_,_,_,rfl,pB U Q hp⟩
  rw [ar v];generalize (Int.tmod B 2==1)=e;generalize (Int.tmod (w8 (Int.tdiv B 2)) 2==1)=l;rw [G];generalize (((K%8:Nat):Int)==7)=m;obtain ⟨I,o1,R,S,_⟩:=IE d C f (if m=true then 4 else 3) e l [];have P:(if m=true then (4:Int) else 3)=3\/(if m=true then (4:Int) else 3)=4:=by cases m<;>simp
  simp only [af,(SI _ _ _ _ _ _ _ _).1,S,a,u7,u6,u5,u4,u3,u2];simp only [u20,u19,u18,u17,u16,u15,u14,u13,u12,u11,u10,u9,u8,u7,u6,u5,u4,u3,u2];rw [(SQ 20000000 _ _ _ _ _ _ _ _ _ _ _ _ _ _ _ _ _ _ _ _ _ (by omega) c (by omega) ep).1];simp only [u21,u20,u19,u18,u17,u16,u15,u14,u13,u12,u11,u10,u9,u8,u7,u6,u5,u4,u3,u2];rw [a,(RV 20000000 (min 5 M.length) (min 5 M.length - 1) _ _ _ _ _ _ _ _ _ _ _ _ _ _ _ _ _ _ _ (by omega) o (by split<;>simp [o1]<;>omega) eq).1];simp only [u21,u20,u19,u18,u17,u16,u15,u14,u13,u12,u11,u10,u9,u8,u7,u6,u5,u4,u3,u2,SK,Sl,F];exact ⟨_,_,_,_,_,_,_,_,_,rfl,OQ d z C f P e l o1 R sp pp Y W⟩
 ·rw [ab b] at t;subst t;rw [ar (show ¬L.length=0 from λh=>b (tj h)),af];simp only [obs,sm,ob,u7,u6,u5,u4,u3,u2,w,G,(We _ _ _ _ _ _ _ _ _ [] _).2,u10,u9,u8,k1];by_cases hs:K%8<3
  ·rw [aq hs];simp only [ah,H,c,ex];exact ⟨_,_,_,_,_,_,_,_,_,rfl,rI sx V⟩
  rw [ar hs];simp only [af,(SJ _ _ _ _ _ _ _ _ _ [] _).2,u9,u8,u7,u6,u5,u4,u3,u2,k2];by_cases v:K%8=3\/K%8=4
  ·rw [aq v];have ebf':ck 20000000 N r.1 r.2.1 r.2.2.1 r.2.2.2.1 (d4 r).1 (d4 r).2.1 (d4 r).2.2.1 (d4 r).2.2.2.1 (d8 r).1 (d8 r).2.1=some (KF,X):=u;have ebt':ck 20000000 J (d8 r).2.2.2.1 (d4 (d8 r)).1 (d4 (d8 r)).2.1 (d4 (d8 r)).2.2.1 (d4 (d8 r)).2.2.2.1 (d16 r).1 (d16 r).2.1 (d16 r).2.2.1 (d16 r).2.2.2.1 (d4 (d16 r))=some (KT,bt):=y;obtain ⟨T,x',O,y',_,j1,U,Q,hp⟩:=S0 (n:=20000000) (x0:=min 5 L.length) (by omega) c rfl s g j E A ([]:List TI);simp only [ah,H,c,ebf',ebt',LQ g j,j1,u5,u4,u3,u2];exact ⟨_,_,_,_,_,_,_,_,_,rfl,pB U Q hp⟩
  rw [ar v];generalize (Int.tmod B 2==1)=e;generalize (Int.tmod (w8 (Int.tdiv B 2)) 2==1)=l;rw [G];generalize (((K%8:Nat):Int)==7)=m;obtain ⟨I,o1,R,_,S⟩:=IE d C f (if m=true then 4 else 3) e l [];have P:(if m=true then (4:Int) else 3)=3\/(if m=true then (4:Int) else 3)=4:=by cases m<;>simp
  simp only [af,(SI _ _ _ _ _ _ _ _).2,S,a,u7,u6,u5,u4,u3,u2];simp only [u20,u19,u18,u17,u16,u15,u14,u13,u12,u11,u10,u9,u8,u7,u6,u5,u4,u3,u2];rw [(SQ 20000000 _ _ _ _ _ _ _ _ _ _ _ _ _ _ _ _ _ _ _ _ _ (by omega) c (by omega) ep).2];simp only [u21,u20,u19,u18,u17,u16,u15,u14,u13,u12,u11,u10,u9,u8,u7,u6,u5,u4,u3,u2];rw [a,(RV 20000000 (min 5 L.length) (min 5 L.length - 1) _ _ _ _ _ _ _ _ _ _ _ _ _ _ _ _ _ _ _ (by omega) o (by split<;>simp [o1]<;>omega) eq).2];simp only [u21,u20,u19,u18,u17,u16,u15,u14,u13,u12,u11,u10,u9,u8,u7,u6,u5,u4,u3,u2,SK,Sl,F];exact ⟨_,_,_,_,_,_,_,_,_,rfl,OQ d z C f P e l o1 R sp pp Y W⟩
noncomputable instance decTI:DecidableEq TI:=λa b=>Classical.propDecidable (a=b)
theorem OD {t u:TI}:((eqD (iF t) (iF u))&&(((d8 t).2.2.1==(d8 u).2.2.1)&&((eqD (d8 t).2.2.2 (d8 u).2.2.2)&&true)))=decide (t=u):=by
 rw [tz,GE];have hs:∀a b c:Bool,(a&&(b&&(c&&true)))=true↔a=true/\b=true/\c=true:=by decide
 rw [hs,jw,jw,bp];obtain ⟨a1,a2,w,o,h,q,s,r,p,d,b,c⟩:=t;obtain ⟨l,y,n,x,i,v,j,k,m,e,f,g⟩:=u;simp only [bM,and_assoc]
noncomputable def difI (J:List TI) (i:Nat) (t:TI):Int:=if J[i]?=some t then 0 else 1
theorem OY {J:List TI}:∀(I:List TI) (i:Nat),i+I.length=J.length->(pg (difI J) i I=none↔I=J.drop i)
 | [],i,h=>by
  rw [pg,jt (by simp at h;omega)];simp
 | t::r,i,h=>by
  have hi:i<J.length:=by simp at h;omega
  have b:J[i]?=some J[i]:=aT hi;rw [pg,rP hi];unfold difI;by_cases a:J[i]?=some t
  ·rw [ae a,ab (by simp)];have:=OY (J:=J) r (i+1) (by simp at h;omega);unfold difI at this;rw [this];rw [b] at a;simp only [av] at a;simp [a]
  ·rw [ab a,ae (by simp)];rw [b] at a;simp only [av] at a;simp only [DC];constructor
   ·intro h;cases h
   ·rintro ⟨h,_⟩;exact absurd h.symm a
theorem Qg (I J:List TI) (h:I.length=J.length) {A:Type} (a b:A):(match pg (difI J) 0 I with | some _=>a | none=>b)=if I=J then b else a:=by
 have:=OY (J:=J) I 0 (by omega);rw [cU] at this;cases hs:pg (difI J) 0 I with
 | none=>rw [ae (this.1 hs)]
 | some p=>rw [ab (λh=>by rw [this.2 h] at hs;cases hs)]
theorem Cc {I J:List TI} (h:I.length=J.length) (s:I.length<=1000000) (k:Int) (D:TD) (KF:Int) (DF:TD) (KT:Int) (DT:TD) (e l:Bool) (k':Int) (n:TD) (c:Int) (b:TD) (a:Int) (d:TD) (q m:Bool):
  aw (dl 20000000) 20000000 (0,I,J,k,D,KF,DF,KT,DT,e,l,k',n,c,b,a,d,q,m)=some (if I=J then .inr () else .inl 0):=by
 have r:(match pg (difI J) 0 I with | some p=>(.inl 0:Int⊕Unit) | none=>.inr ())=if I=J then .inr () else .inl 0:=Qg I J h _ _
 rw [<-r];have:=zZ (step:=dl 20000000) (st:=λi=>((i:Int),I,J,k,D,KF,DF,KT,DT,e,l,k',n,c,b,a,d,q,m)) (L:=I) (f:=difI J) (yes:=λ_ _=>.inl (0:Int)) (no:=.inr ()) ?_ ?_ I.length 0 (by omega) 20000000 (by omega)
 ·rw [cU] at this;exact this
 ·intro i t o;have hi:i<I.length:=(qX.1 o).1;have j:J[i]?=some (J[i]'(by omega)):=aT (by omega);generalize J[i]'(by omega)=u at j;unfold dl;simp only [u19,u18,u17,u16,u15,u14,u13,u12,u11,u10,u9,u8,u7,u6,u5,u4,u3,u2];rw [aq (show (i:Int)<len I by show (i:Int)<((I.length:Nat):Int);omega),dk hi,dk (show i<J.length by omega)];simp only [ah,ob,o,j,OD];rw [pm (by omega)];unfold difI;rw [j];by_cases g:t=u
  ·rw [aq g,ab (by simp [g])];rfl
  ·rw [ar g,ae (by simp only [av];rw [ab (λh=>g h.symm)];simp)];rfl
 ·unfold dl;simp only [u19,u18,u17,u16,u15,u14,u13,u12,u11,u10,u9,u8,u7,u6,u5,u4,u3,u2];rw [ar (show ¬((I.length:Nat):Int)<len I by show ¬((I.length:Nat):Int)<((I.length:Nat):Int);omega)];rfl
theorem B7 (n:Nat) (t S R:aa) (a:Int) (p:t.length<4611686018427387904) (o:t.length<n):
  aw (ee n) n (t,0,R,S,a)=some (((lcp R t:Nat):Int),S,a):=by
 have:=fW (step:=ee n)
  (λx=>∃j:Nat,j<=t.length/\x=(t,(j:Int),R,S,a)) (λx=>t.length - x.2.1.toNat)
  (λx=>(((x.2.1.toNat+lcp (R.drop x.2.1.toNat) (t.drop x.2.1.toNat):Nat):Int),S,a)) ?_ n (t,0,R,S,a) ⟨0,by omega,rfl⟩ (by simp;omega)
 ·simpa using this
 rintro x ⟨j,q,rfl⟩;simp only [bO,ee,TU];by_cases g:j<t.length/\j<R.length
 ·obtain ⟨h,l⟩:=g;obtain ⟨c,hc⟩:∃c,t[j]?=some c:=⟨t[j],aT h⟩;obtain ⟨d,i⟩:∃d,R[j]?=some d:=⟨R[j],aT l⟩;have f:IntKind.wrap .i64 ((j:Int)+1)=((j+1:Nat):Int):=by rw [wrap_i64 _ (by omega) (by omega)];omega
  have e:(decide ((j:Int)<((min t.length R.length:Nat):Int)))=true:=by simp only [cg];omega
  have b:(decide ((j:Int)<((min R.length t.length:Nat):Int)))=true:=by simp only [cg];omega
  simp only [e,b,ah,eJ hc,eJ i,ob,oz,cr hc,cr i,lcp];cases m:d==c with
  | true=>
   refine .inl ⟨_,rfl,⟨j+1,by omega,by rw [f]⟩,?_,?_⟩
   ·simp only [f,bO];omega
   ·simp only [f,bO,bM,uj,aM];omega
  | false=>exact .inr (by simp)
 ·have e:(decide ((j:Int)<((min t.length R.length:Nat):Int)))=false:=by simp only [tN];omega
  have b:(decide ((j:Int)<((min R.length t.length:Nat):Int)))=false:=by simp only [tN];omega
  refine .inr ?_;have k:lcp (R.drop j) (t.drop j)=0:=by
   by_cases h:j<t.length
   ·rw [jt (show R.length<=j by omega)];rfl
   ·rw [jt (show t.length<=j by omega)];cases R.drop j<;>rfl
  simp only [e,b,k,af,cM]
theorem A6 (n:Nat) (t S:aa) (a:Nat) (h:a<=S.length) (c:S.length<4611686018427387904) (e:t.length<4611686018427387904) (b:t.length<n):
  ch n t S (a:Int)=some (if (S.drop a).take t.length=t then .inl (S,((a+t.length:Nat):Int)) else .inr (((a+lcp (S.drop a) t:Nat):Int),5,S,(a:Int))):=by
 have d:=xk (S.drop a) t;rw [bN] at d;simp only [ch,nF n t S a h c,ob];by_cases hp:(S.drop a).take t.length=t
 ·simp [hp]
 ·have f:IntKind.wrap .i64 ((a:Int)+((lcp (S.drop a) t:Nat):Int))=((a+lcp (S.drop a) t:Nat):Int):=by rw [wrap_i64 _ (by omega) (by omega)];omega
  simp only [hp,aE,af,uX n S a h,B7 n t S (S.drop a) (a:Int) e b,Eg,f,wS];simp
def tdR (r:DR):TD:=(r.1,r.2.1,r.2.2.1,(r.2.2.2.1:Int),(r.2.2.2.2.1:Int),r.2.2.2.2.2.1,r.2.2.2.2.2.2.1,(r.2.2.2.2.2.2.2.1.1:Int),(r.2.2.2.2.2.2.2.1.2.1:Int),(r.2.2.2.2.2.2.2.1.2.2:Int))
theorem oW {S:aa} {a:Nat} (h:a<=S.length) {r:DR} (c:fL S a=.inr r):smT (tdR r)/\cF (tdR r)=0/\a<=enR r/\enR r<=S.length:=by
 obtain ⟨f,b⟩:=I0 h c;obtain ⟨g,l,dg,x,s,m,d,M,P,e⟩:=r;have ok:=Ju h f;have:=ok.dg17;have:=ok.m2;have:=ok.d2;refine ⟨⟨by show m.length<=18;omega,by show dg.length<=100;omega,by show d.length<=18;omega,by show (0:Int)<=(M.1:Int);omega,by show (0:Int)<=(M.2.1:Int);omega,by show (0:Int)<=(M.2.2:Int);omega⟩,?_,ok.le,ok.end_⟩;have hc:=AX (g:=g) (l:=l) (dg:=dg) (x:=(x:Int)) (q:=(s:Int)) (m:=m) (d:=d) (k0:=(M.1:Int)) (k1:=(M.2.1:Int)) (k2:=(M.2.2:Int)) (xR ok.all);unfold chkR at b;simp only [] at b;show chkF g l dg (x:Int) (s:Int) m d (M.1:Int) (M.2.1:Int) (M.2.2:Int)=0;omega
def dts (l:aa):Bool:=l.take 2==[46,46]
theorem yC {l:aa}:dts l=true↔∃r,l=46::46::r:=by
 unfold dts;rw [bp];constructor
 ·exact JM
 ·rintro ⟨r,rfl⟩;rfl
theorem uT {S:aa} {p:Nat} (h:dts (S.drop p)=true):p+2<=S.length:=by
 obtain ⟨r,a⟩:=yC.1 h;have:=cD List.length a;simp at this;omega
noncomputable def rc (S:aa) (b:UInt8) (p:Nat):(Nat×Nat×Nat)⊕(TI×Nat×Nat):=
 match fL S p with
 | .inl f=>.inl f
 | .inr r=>if dts (S.drop (enR r))=true/\(S.drop (enR r+2)).head?≠some b then
   match fL S (enR r+2) with
   | .inl f=>.inl f
   | .inr a=>.inr (mkI (tdR r) true (tdR a),plR r,enR a)
  else .inr (mkI (tdR r) false d0,plR r,enR r)
theorem EU {S:aa} {n:UInt8} {p:Nat} (h:p<=S.length) {t:TI} {a e:Nat} (b:rc S n p=.inr (t,a,e)):smI t/\p<=e/\e<=S.length:=by
 unfold rc at b;cases c:fL S p with
 | inl f=>rw [c] at b;cases b
 | inr r=>
  obtain ⟨g,_,l,j⟩:=oW h c;rw [c] at b;simp only [] at b;split at b
  ·rename_i m;have:=uT m.1;cases d:fL S (enR r+2) with
   | inl f=>rw [d] at b;cases b
   | inr o=>
    obtain ⟨k,_,l3,i⟩:=oW (by omega) d;rw [d] at b;cases b;exact ⟨⟨g,k⟩,by omega,i⟩
  ·cases b;exact ⟨⟨g,oK⟩,l,j⟩
noncomputable def pP (S:aa) (c:UInt8):Nat->Nat->List Nat->List TI->(Nat×Nat×Nat)⊕(Nat×List Nat×List TI)
 | 0,p,_,_=>.inl (p,3,p)
 | r+1,p,P,I=>match rc S c p with
  | .inl f=>.inl f
  | .inr (t,a,b)=>if (S.drop b).head?=some 44 then pP S c r (b+1) (P++[a]) (I++[t]) else .inr (b,P++[a],I++[t])
theorem od {S:aa} {p:Nat} {c:UInt8} (h:(S.drop p).head?=some c):p+1<=S.length:=by
 cases b:S.drop p with
 | nil=>rw [b] at h;cases h
 | cons a r=>
  have:=cD List.length b;simp at this;omega
theorem Dw {S:aa} {i:UInt8}:∀(r p:Nat) (P:List Nat) (I:List TI),p<=S.length->P.length=I.length->(∀t∈I,smI t)->∀{d:Nat} {c:List Nat} {b:List TI},pP S i r p P I=.inr (d,c,b)->
  d<=S.length/\c.length=b.length/\I.length<b.length/\b.length<=I.length+r/\(∀t∈b,smI t)
 | 0,p,P,I,_,_,_,d,c,b,e=>by cases e
 | r+1,p,P,I,h,j,hs,d,c,b,e=>by
  rw [pP] at e;cases g:rc S i p with
  | inl f=>rw [g] at e;cases e
  | inr q=>
   obtain ⟨t,a,o⟩:=q;obtain ⟨s,z,m⟩:=EU h g;rw [g] at e;simp only [] at e;have hs':∀u∈I++[t],smI u:=λu x=>by
    rcases lg.1 x with h | h
    ·exact hs u h
    ·rw [uf.1 h];exact s
   split at e
   ·rename_i w;obtain ⟨y,v,l,n,k⟩:=Dw r (o+1) (P++[a]) (I++[t]) (od w) (by simp [j]) hs' e;rw [aO,List.length_singleton] at l n;exact ⟨y,v,by omega,by omega,k⟩
   ·cases e;exact ⟨m,by simp [j],by simp,by simp,hs'⟩
theorem dts3 (S:aa) (p:Nat) (c:UInt8):((S.drop p).take [46,46,c].length==[46,46,c])=(dts (S.drop p)&&decide ((S.drop (p+2)).head?=some c)):=by
 rw [<-jv];generalize S.drop p=l;unfold dts
 match l with
 | []=>rfl
 | [a]=>simp
 | [a,b]=>simp
 | a::b::d::r=>
  rw [tz];simp [and_assoc]
def endC (K:Int):UInt8:=if K=4 then 125 else 93
theorem yj {K:Int} (a:K=3\/K=4) (n:Nat):eO n K=some ([if K=4 then 123 else 91],[endC K]):=by
 rcases a with rfl | rfl<;>rfl
theorem X7 (c:UInt8) {S:aa} {p:Nat} (h:p<=S.length) (f d:Int) (e:Bool) (b:List Int) (i:TD) (a g:List TI):
  mC 20000000 [c] f S (p:Int) d e b i a g=some ([c],f,dts (S.drop p)&&!decide ((S.drop (p+2)).head?=some c),S,(p:Int),d,e,b,i,a,g):=by
 unfold mC;rw [Nb _ _ _ _ h];have hc:cat [46,46] [c]=some [46,46,c]:=rfl;simp only [ob,hc,Nb _ _ _ _ h,dts3];show cond (dts (S.drop p)) _ _=_;cases j:dts (S.drop p)
 ·rfl
 ·cases decide ((S.drop (p+2)).head?=some c)<;>rfl
theorem tk1 (l:aa) (c:UInt8):l.take [c].length=[c]↔l.head?=some c:=by
 cases l<;>simp
theorem DU (S:aa) (r:DR):Wc S (.inr r)=.inr ((tdR r).1,(tdR r).2.1,(tdR r).2.2.1,(tdR r).2.2.2.1,(tdR r).2.2.2.2.1,(tdR r).2.2.2.2.2.1,(tdR r).2.2.2.2.2.2.1,(tdR r).2.2.2.2.2.2.2.1,(tdR r).2.2.2.2.2.2.2.2.1,(tdR r).2.2.2.2.2.2.2.2.2,((plR r:Nat):Int),S,((enR r:Nat):Int)):=rfl
theorem Wn (b:Bool) (c:UInt8) {S:aa} {p:Nat} (h:p<=S.length) (m:S.length<100000) (q:b=true->dts (S.drop p)=true) (i g:Int) (e:Bool) (k:List Int) (d:TD) (j a:List TI):
  mw 20000000 [c] i b S (p:Int) g e k d j a=some (if b=true then (match fL S (p+2) with
   | .inl f=>.inl ((f.1:Int),(f.2.1:Int),S,(f.2.2:Int))
   | .inr r=>.inr ([c],i,S,((enR r:Nat):Int),g,e,k,d,true,tdR r,j,a)) else .inr ([c],i,S,(p:Int),g,e,k,d,false,d0,j,a)):=by
 unfold mw;cases b
 ·rfl
 ·have l:=q rfl;have s:=uT l;have o:(S.drop p).take [(46:UInt8),46].length=[46,46]:=by
   obtain ⟨r,n⟩:=yC.1 l;rw [n];rfl
  rw [ah,A6 _ _ _ _ h (by omega) (by simp) (by simp),ae o,ae rfl];show obs (iS 20000000 S ((p+2:Nat):Int)) _ _=_;rw [Gs S (p+2) s m];cases fL S (p+2) with
  | inl f=>rfl
  | inr r=>rfl
theorem AZ {α:Type} {I:List α} (h:I.length<=256):Nat.ble (I.length+1) eW=true:=cP (by unfold eW;omega)
abbrev pT (P:List Nat):List Int:=P.map λk:Nat=>(k:Int)
theorem Vv (c:UInt8) {S:aa} {p:Nat} (h:p<=S.length) (v:S.length<100000) (K:Int) (e:Bool) {P:List Nat} (J:List TI) {I:List TI} (A:I.length<256) (D:P.length=I.length):
  fw 20000000 ([c],S,(p:Int),K,e,pT P,J,I)=some (match rc S c p with
   | .inl f=>.inr (.inl ((f.1:Int),(f.2.1:Int),S,(f.2.2:Int)))
   | .inr (t,a,b)=>if (S.drop b).head?=some 44 then .inl ([c],S,((b+1:Nat):Int),K,e,pT (P++[a]),J,I++[t])
    else .inr (.inr ([c],S,((if dts (S.drop b) then b+2 else b:Nat):Int),0,d0,0,d0,0,d0,false,false,K,d0,0,d0,0,d0,e,dts (S.drop b),pT (P++[a]),J,I++[t]))):=by
 have i:∀(t:TI) (a b:Nat),b<=S.length->(ob (aD 20000000 [44] S (b:Int)) (u3 λn m g=>(cond n (some (.inl ([c],m,g,K,e,(pT P++([(a:Int)]:List (Int))),J,(I++([t]:List TI))))) (ob (aD 20000000 [46,46] m g) (u3 λq k l=>(cond q (some (.inr (.inr ([c],k,l,0,d0,0,d0,0,d0,false,false,K,d0,0,d0,0,d0,e,true,(pT P++([(a:Int)]:List (Int))),J,(I++([t]:List TI)))))) (some (.inr (.inr ([c],k,l,0,d0,0,d0,0,d0,false,false,K,d0,0,d0,0,d0,e,false,(pT P++([(a:Int)]:List (Int))),J,(I++([t]:List TI))))))))))):Option ((aa×aa×Int×Int×Bool×List (Int)×List TI×List TI)⊕((Int×Int×aa×Int)⊕(aa×aa×Int×Int×TD×Int×TD×Int×TD×Bool×Bool×Int×TD×Int×TD×Int×TD×Bool×Bool×List (Int)×List TI×List TI)))) =
   some (if (S.drop b).head?=some 44 then .inl ([c],S,((b+1:Nat):Int),K,e,pT (P++[a]),J,I++[t])
    else .inr (.inr ([c],S,((if dts (S.drop b) then b+2 else b:Nat):Int),0,d0,0,d0,0,d0,false,false,K,d0,0,d0,0,d0,e,dts (S.drop b),pT (P++[a]),J,I++[t]))):=by
  intro t a b j;have z:pT (P++[a])=pT P++[(a:Int)]:=by simp [pT]
  rw [nF _ _ _ _ j (by omega),z];simp only [ob,u3,u2,tk1];by_cases hc:(S.drop b).head?=some 44
  ·rw [ae hc,ae hc];rfl
  ·rw [ab hc,ab hc];simp only [af];rw [nF _ _ _ _ j (by omega)];cases d:dts (S.drop b)
   ·rw [ab (show ¬(S.drop b).take [(46:UInt8),46].length=[46,46] from λh=>by unfold dts at d;rw [show (S.drop b).take 2=[46,46] from h] at d;cases d)];rfl
   ·rw [ae (show (S.drop b).take [(46:UInt8),46].length=[46,46] from eq_of_beq d)];rfl
 unfold fw;simp only [u8,u7,u6,u5,u4,u3,u2];rw [show (len I==256)=false from by show (((I.length:Nat):Int)==256)=false;simp;omega,af,Gs S p h v];unfold rc;cases x:fL S p with
 | inl f=>rfl
 | inr r=>
  obtain ⟨E,_,B,o⟩:=oW h x;rw [DU];simp only [obs,sm,ob];rw [show (d4 (d8 ((tdR r).1,(tdR r).2.1,(tdR r).2.2.1,(tdR r).2.2.2.1,(tdR r).2.2.2.2.1,(tdR r).2.2.2.2.2.1,(tdR r).2.2.2.2.2.2.1,(tdR r).2.2.2.2.2.2.2.1,(tdR r).2.2.2.2.2.2.2.2.1,(tdR r).2.2.2.2.2.2.2.2.2,((plR r:Nat):Int),S,((enR r:Nat):Int))))=((enR r:Nat):Int) from rfl,X7 c o];simp only [u11,u10,u9,u8,u7,u6,u5,u4,u3,u2];rw [Wn _ c o v (λh=>by simp at h;exact h.1)];have s:(dts (S.drop (enR r))&&!decide ((S.drop (enR r+2)).head?=some c))=true↔(dts (S.drop (enR r))=true/\(S.drop (enR r+2)).head?≠some c):=by simp
  by_cases d:dts (S.drop (enR r))=true/\(S.drop (enR r+2)).head?≠some c
  ·rw [ae (s.2 d),ae d];cases y:fL S (enR r+2) with
   | inl f=>rfl
   | inr u=>
    obtain ⟨C,_,l3,w⟩:=oW (uT d.1) y;simp only [u12,u11,u10,u9,u8,u7,u6,u5,u4,u3,u2];rw [AZ (by omega),AZ (by simp;omega)];exact i (mkI (tdR r) true (tdR u)) (plR r) (enR u) w
  ·rw [ab (λh=>d (s.1 h)),ab d];simp only [u12,u11,u10,u9,u8,u7,u6,u5,u4,u3,u2];rw [AZ (by omega),AZ (by simp;omega)];exact i (mkI (tdR r) false d0) (plR r) (enR r) o
theorem Uu (c:UInt8) (S:aa) (p K:Int) (e:Bool) (P:List Int) (J:List TI) {I:List TI} (a:I.length=256):
  fw 20000000 ([c],S,p,K,e,P,J,I)=some (.inr (.inl (p,3,S,p))):=by
 unfold fw;simp only [u8,u7,u6,u5,u4,u3,u2];rw [show (len I==256)=true from by show (((I.length:Nat):Int)==256)=true;rw [a];rfl];rfl
def Zy (S:aa) (c:UInt8) (K:Int) (e:Bool) (J:List TI):(Nat×Nat×Nat)⊕(Nat×List Nat×List TI)->(Int×Int×aa×Int)⊕(aa×aa×Int×Int×TD×Int×TD×Int×TD×Bool×Bool×Int×TD×Int×TD×Int×TD×Bool×Bool×List (Int)×List TI×List TI)
 | .inl f=>.inl ((f.1:Int),(f.2.1:Int),S,(f.2.2:Int))
 | .inr (p,P,I)=>.inr ([c],S,((if dts (S.drop p) then p+2 else p:Nat):Int),0,d0,0,d0,0,d0,false,false,K,d0,0,d0,0,d0,e,dts (S.drop p),pT P,J,I)
theorem Uf (c:UInt8) {S:aa} (g:S.length<100000) (K:Int) (e:Bool) (J:List TI):∀(r p:Nat) (P:List Nat) (I:List TI),I.length+r=256->p<=S.length->P.length=I.length->∀N,r<N->
  aw (fw 20000000) N ([c],S,(p:Int),K,e,pT P,J,I)=some (Zy S c K e J (pP S c r p P I)):=by
 intro r
 induction r with
 | zero=>
  intro p P I i hp b N j;obtain ⟨N,rfl⟩:∃k,N=k+1:=⟨N - 1,by omega⟩;rw [aw,Uu c S _ K e _ J (by omega)];rfl
 | succ r ih=>
  intro p P I i hp b N j;obtain ⟨N,rfl⟩:∃k,N=k+1:=⟨N - 1,by omega⟩;rw [aw,Vv c hp g K e J (by omega) b,pP];cases h:rc S c p with
  | inl f=>rfl
  | inr q=>
   obtain ⟨t,a,d⟩:=q;obtain ⟨_,m,l⟩:=EU hp h;simp only [];by_cases hc:(S.drop d).head?=some 44
   ·rw [ae hc,ae hc];exact ih (d+1) (P++[a]) (I++[t]) (by simp;omega) (od hc) (by simp [b]) N (by omega)
   ·rw [ab hc,ab hc];rfl
theorem uH {X a Y b:Type} {s:X->Option (X⊕Y)} {s':a->Option (a⊕b)} (f:X->a) (g:Y->b) (h:∀x,s' (f x)=(s x).map (Sum.map f g)):∀(n:Nat) (x:X),aw s' n (f x)=(aw s n x).map g
 | 0,_=>rfl
 | n+1,x=>by
  rw [aw,aw,h];cases s x with
  | none=>rfl
  | some z=>
   cases z with
   | inl y=>exact uH f g h n y
   | inr y=>rfl
theorem Uo (n:Nat) (K:Int) (D:TD) (KF:Int) (DF:TD) (KT:Int) (DT:TD) (c:Nat) (e l:Bool) (L:List TI):nR n K D KF DF KT DT L.length c e l L=mj n K D KF DF KT DT e l L:=by
 unfold nR mj;have:=uH (s:=fH n) (s':=kC n) (u12 λx0 f d g m k j p h o a b=>(d.length,c,x0,f,d,g,m,k,j,p,h,d.length,c,o,a,b)) id (by
  rintro ⟨x0,f,d,g,m,k,j,p,h,o,a,b⟩;unfold fH kC;simp only [u16,u15,u14,u13,u12,u11,u10,u9,u8,u7,u6,u5,u4,u3,u2];cases decide (f<x0)
  ·rfl
  ·simp only [ah];cases ix d.length f with
   | none=>rfl
   | some i=>
    simp only [ob];cases d[i]? with
    | none=>rfl
    | some t=>
     simp only [ob];cases gh n (iF t) (d8 t).2.2.1 (d8 t).2.2.2 g with
     | none=>rfl
     | some v=>
      simp only [ob];rw [show nh n v 10 10 10 (iF t) (d8 t).2.2.1 (d8 t).2.2.2 g m k j p h d.length c o a f b d=gN n v 10 10 10 (iF t) (d8 t).2.2.1 (d8 t).2.2.2 g m k j p h o a f b d from rfl];cases gN n v 10 10 10 (iF t) (d8 t).2.2.1 (d8 t).2.2.2 g m k j p h o a f b d with
      | none=>rfl
      | some z=>
       simp only [ob];cases (z != 0)<;>rfl) n (len L,0,L,K,D,KF,DF,KT,DT,e,l,w64 (len L - 1))
 simp only [u12,u11,u10,u9,u8,u7,u6,u5,u4,u3,u2] at this;rw [show (L.length,c,((L.length:Nat):Int),(0:Int),L,K,D,KF,DF,KT,DT,L.length,c,e,l,w64 (((L.length:Nat):Int) - 1))=(L.length,c,len L,0,L,K,D,KF,DF,KT,DT,L.length,c,e,l,w64 (len L - 1)) from rfl,this];rw [Option.map_id];rfl
theorem NX (n:Nat) (K:Int) (D:TD) (KF:Int) (DF:TD) (KT:Int) (DT:TD) (c:Nat) (e l:Bool) (L:List TI):gv n K D KF DF KT DT L.length c e l L=ma n K D KF DF KT DT e l L:=by
 unfold gv ma;rw [Uo,show o6 n K D KF DF KT DT L.length c e l L=mS n K D KF DF KT DT e l L from rfl]
theorem JE {K:Int} {D:TD} {KF:Int} {DF:TD} {KT:Int} {DT:TD} {e l:Bool} {L:List TI} (h:smE D DF DT L) (c:Nat):
  gv 20000000 K D KF DF KT DT L.length c e l L=some (jb K D KF DF KT DT e l L):=(NX _ _ _ _ _ _ _ _ _ _ _).trans (Im h)
noncomputable def setE (K:Int) (e l:Bool) (I:List TI):Int×Int:=jb K d0 0 d0 0 d0 e l I
noncomputable def endL (S:aa) (K:Int) (e:Bool) (p:Nat) (P:List Nat) (I:List TI):(Nat×Nat×Nat)⊕(Int×Bool×Bool×List TI×Nat):=
 if (S.drop (if dts (S.drop p) then p+2 else p)).head?=some (endC K) then
  if (setE K e (dts (S.drop p)) I).2=0 then .inr (K,e,dts (S.drop p),I,(if dts (S.drop p) then p+2 else p)+1)
  else .inl (P.getD (setE K e (dts (S.drop p)) I).1.toNat 0,10,(if dts (S.drop p) then p+2 else p)+1)
 else .inl ((if dts (S.drop p) then p+2 else p),5,(if dts (S.drop p) then p+2 else p))
noncomputable def E3 (S:aa) (a:Nat) (K:Int):(Nat×Nat×Nat)⊕(Int×Bool×Bool×List TI×Nat):=
 match pP S (endC K) 256 (if dts (S.drop (a+1)) then a+3 else a+1) [] [] with
 | .inl f=>.inl f
 | .inr (p,P,I)=>endL S K (dts (S.drop (a+1))) p P I
noncomputable def yd (S:aa) (a:Nat):(Nat×Nat×Nat)⊕(Int×Bool×Bool×List TI×Nat):=
 if (S.drop a).head?=some 91 then E3 S a 3 else if (S.drop a).head?=some 123 then E3 S a 4 else .inl (a,5,a)
theorem VM {K:Int} (a:K=3\/K=4) {e l:Bool} {I:List TI} (b:1<=I.length):∃i:Nat,(setE K e l I).1=(i:Int)/\i<I.length:=by
 have hi:∃i:Nat,(xA K e l I).1=(i:Int)/\i<I.length:=by
  unfold xA;have:∀(J:List TI) (k:Nat) (p:Nat×Int),pg (errI K e l I.length) k J=some p->p.1<k+J.length:=by
   intro J
   induction J with
   | nil=>intro k p h;cases h
   | cons t r ih=>
    intro k p h;rw [pg] at h;split at h
    ·cases h;simp
    ·have:=ih (k+1) p h;simp;omega
  cases hs:pg (errI K e l I.length) 0 I with
  | none=>exact ⟨0,rfl,by omega⟩
  | some p=>exact ⟨p.1,rfl,by have:=this I 0 p hs;omega⟩
 unfold setE jb;rw [ab (by omega)];split
 ·exact ⟨0,rfl,by omega⟩
 ·rw [ab (by omega),ab (by omega),ab (by omega)];split
  ·exact ⟨0,rfl,by omega⟩
  ·exact hi
theorem TM {I:List TI} (h:∀t∈I,smI t):smE d0 d0 d0 I:=⟨oK,oK,oK,h⟩
theorem Zh (n:Nat) (I:List TI):bJ n I=some (I.length,I.length):=by
 unfold bJ;rw [cT (aX _)];show ob (bx I.length ((I.length:Nat):Int)) _=_;rw [cT (aX _)];rfl
def Ut (S:aa):(Nat×Nat×Nat)⊕(Int×Bool×Bool×List TI×Nat)->(Int×Int×aa×Int)⊕(Int×TD×Int×TD×Int×TD×Nat×Nat×Bool×Bool×aa×Int×List TI)
 | .inl f=>.inl ((f.1:Int),(f.2.1:Int),S,(f.2.2:Int))
 | .inr (K,e,l,I,p)=>.inr (K,d0,0,d0,0,d0,I.length,I.length,e,l,S,(p:Int),I)
theorem Xq {S:aa} (E:S.length<100000) {K:Int} (A:K=3\/K=4) (e:Bool) {p:Nat} (hp:p<=S.length) {P:List Nat} {I:List TI} (F:P.length=I.length) (y:1<=I.length) (hs:∀t∈I,smI t):
  (obs (ch 20000000 [endC K] S ((if dts (S.drop p) then p+2 else p:Nat):Int)) (u2 λb c=>(ob (bJ 20000000 I) (u2 λd f=>(ob (gv 20000000 K d0 0 d0 0 d0 d f e (dts (S.drop p)) I) (u2 λj x=>(cond (x != 0) (ob (ix (List.length (pT P)) j) λu=>(ob ((pT P)[u]?) λv=>(ob (aR 20000000 v 10 b c) (u2 λn o=>(some (.inl (n,o,b,c))))))) (some (.inr (K,d0,0,d0,0,d0,d,f,e,(dts (S.drop p)),b,c,I))))))))) (u4 λm k s w=>(some (.inl (m,k,s,w))))) =
   some (Ut S (endL S K e p P I)):=by
 have B:(if dts (S.drop p) then p+2 else p:Nat)<=S.length:=by
  split
  ·rename_i h;exact uT h
  ·exact hp
 unfold endL;generalize (if dts (S.drop p) then p+2 else p:Nat)=q at *;generalize dts (S.drop p)=l;rw [A6 _ _ _ _ B (by omega) (by simp) (by simp)];simp only [tk1];by_cases hc:(S.drop q).head?=some (endC K)
 ·rw [ae hc,ae hc];simp only [obs,sm,ob,u2,Zh,JE (TM hs)];obtain ⟨i,C,G⟩:=VM A (e:=e) (l:=l) y;show cond ((setE K e l I).2 != 0) (ob (ix (pT P).length (setE K e l I).1) _) _=_;by_cases g:(setE K e l I).2=0
  ·rw [ae g,show ((setE K e l I).2 != 0)=false from by simp [g]];rfl
  ·have hi:i<(pT P).length:=by simp [pT];omega
   rw [ab g,show ((setE K e l I).2 != 0)=true from by simp [g],C,dk hi];have D:(pT P)[i]?=some ((P.getD i 0:Nat):Int):=by
    have hi':i<P.length:=by omega
    simp [pT,aT hi']
   simp only [ah,ob,D];rfl
 ·rw [ab hc,ab hc];have:lcp (S.drop q) [endC K]=0:=by
   cases z:S.drop q with
   | nil=>rfl
   | cons a r=>
    rw [z] at hc;simp only [lcp];rw [show (a==endC K)=false from by rw [aI];rintro rfl;exact hc rfl];rfl
  rw [this];rfl
theorem UN {S:aa} {a:Nat} (h:a<=S.length) (hS:S.length<100000):nW 20000000 S (a:Int)=some (Ut S (yd S a)):=by
 have b:∀(K:Int) (z:K=3\/K=4) (j:a+1<=S.length),(ob (nT 20000000 (K==4) S ((a+1:Nat):Int) ([]:List TI) ([]:List TI)) (u5 λv7 v8 v9 Q A=>(ob (eO 20000000 v9) (u2 λ_ v12=>(ob (aD 20000000 [46,46] v7 v8) (u3 λR G Z=>(obs (aw (fw 20000000) 20000000 (v12,G,Z,v9,R,([]:List (Int)),Q,A)) (u4 λH N D Y=>(some (.inl (H,N,D,Y)))) (u22 λW O v22 _ _ _ _ _ _ _ _ l u v x w k m s n _ e=>(obs (ch 20000000 W O v22) (u2 λd g=>(ob (bJ 20000000 e) (u2 λo y=>(ob (gv 20000000 l u v x w k o y m s e) (u2 λB v38=>(cond (v38 != 0) (ob (ix (List.length n) B) λV=>(ob (n[V]?) λX=>(ob (aR 20000000 X 10 d g) (u2 λM T=>(some (.inl (M,T,d,g))))))) (some (.inr (l,u,v,x,w,k,o,y,m,s,d,g,e))))))))) (u4 λL J U v46=>(some (.inl (L,J,U,v46))))))))))))) =
   some (Ut S (E3 S a K)):=by
  intro K z j;have hj:nT 20000000 (K==4) S ((a+1:Nat):Int) ([]:List TI) ([]:List TI)=some (S,((a+1:Nat):Int),K,[],[]):=by
   rcases z with rfl | rfl<;>rfl
  have E:aD 20000000 [46,46] S ((a+1:Nat):Int)=some (dts (S.drop (a+1)),S,((if dts (S.drop (a+1)) then a+3 else a+1:Nat):Int)):=by
   rw [nF _ _ _ _ j (by omega)];cases i:dts (S.drop (a+1))
   ·rw [ab (show ¬(S.drop (a+1)).take [(46:UInt8),46].length=[46,46] from λh=>by unfold dts at i;rw [show (S.drop (a+1)).take 2=[46,46] from h] at i;cases i)];rfl
   ·rw [ae (show (S.drop (a+1)).take [(46:UInt8),46].length=[46,46] from eq_of_beq i)];rfl
  have hp:(if dts (S.drop (a+1)) then a+3 else a+1:Nat)<=S.length:=by
   split
   ·rename_i h;have:=uT h;omega
   ·exact j
  have hl:=Uf (endC K) hS K (dts (S.drop (a+1))) [] 256 (if dts (S.drop (a+1)) then a+3 else a+1) [] [] (by simp) hp rfl 20000000 (by omega);simp only [hj,yj z,E,ob,u5,u4,u3,u2];rw [show aw (fw 20000000) 20000000 ([endC K],S,((if dts (S.drop (a+1)) then a+3 else a+1:Nat):Int),K,dts (S.drop (a+1)),([]:List Int),([]:List TI),([]:List TI))=_ from hl];unfold E3;cases hr:pP S (endC K) 256 (if dts (S.drop (a+1)) then a+3 else a+1) [] [] with
  | inl f=>rfl
  | inr q=>
   obtain ⟨p,P,I⟩:=q;obtain ⟨q1,q2,q3,q4,q5⟩:=Dw 256 _ [] [] hp rfl (λt E=>by cases E) hr;have q3':1<=I.length:=by rw [bh] at q3;omega
   exact Xq hS z (dts (S.drop (a+1))) q1 q2 q3' q5
 unfold nW yd;rw [BY _ _ _ _ h (by omega)];cases i:S.drop a with
 | nil=>rfl
 | cons c r=>
  have j:a+1<=S.length:=by
   have:=cD List.length i;simp at this;omega
  simp only [o5,av];by_cases C:c=91
  ·subst C;rw [ae rfl];exact b 3 (.inl rfl) j
  ·by_cases F:c=123
   ·subst F;rw [ae rfl];exact b 4 (.inr rfl) j
   ·rw [ab C,ab F];have:hasB [91,123] c=false:=by
     unfold hasB;simp only [rh,List.any_nil,yF,oV,aI];exact ⟨λh=>C h.symm,λh=>F h.symm⟩
    rw [this];rfl
def rat (l:aa):Nat:=match l with | c::_=>c.toNat | []=>0
theorem Xa (l:aa) (c:UInt8) (hc:c≠0):(((rat l:Nat):Int)==((c.toNat:Nat):Int))=decide (l.head?=some c):=by
 cases l with
 | nil=>
  rw [ar (by simp)];rw [aI];intro h;have b:c.toNat=0:=by
   have:((0:Nat):Int)=((c.toNat:Nat):Int):=h;omega
  exact hc (gD.1 (by rw [b];rfl))
 | cons a r=>
  show (((a.toNat:Nat):Int)==((c.toNat:Nat):Int))=_;rw [oz];rw [tz];simp
theorem Kz {S:aa} {d:UInt8} {p:Nat} (h:p<=S.length) {f:Nat×Nat×Nat} (a:rc S d p=.inl f):f.2.1≠0:=by
 unfold rc at a;cases b:fL S p with
 | inl g=>rw [b] at a;cases a;exact yJ (k:=f.1) (E:=f.2.1) (p:=f.2.2) h b
 | inr r=>
  rw [b] at a;simp only [] at a;split at a
  ·rename_i e;cases c:fL S (enR r+2) with
   | inl g=>rw [c] at a;cases a;exact yJ (k:=f.1) (E:=f.2.1) (p:=f.2.2) (uT e.1) c
   | inr i=>rw [c] at a;cases a
  ·cases a
theorem Ae {S:aa} {c:UInt8}:∀(r p:Nat) (P:List Nat) (I:List TI),p<=S.length->∀{f:Nat×Nat×Nat},pP S c r p P I=.inl f->f.2.1≠0
 | 0,p,P,I,_,f,e=>by cases e;simp
 | r+1,p,P,I,h,f,e=>by
  rw [pP] at e;cases b:rc S c p with
  | inl g=>rw [b] at e;cases e;exact Kz h b
  | inr q=>
   obtain ⟨t,a,d⟩:=q;rw [b] at e;simp only [] at e;split at e
   ·rename_i i;exact Ae r (d+1) _ _ (od i) e
   ·cases e
theorem Ph {S:aa} {a:Nat} (h:a<=S.length) {f:Nat×Nat×Nat} (b:yd S a=.inl f):f.2.1≠0:=by
 have c:∀e:Int,a+1<=S.length->E3 S a e=.inl f->f.2.1≠0:=by
  intro e j b;unfold E3 at b;have hp:(if dts (S.drop (a+1)) then a+3 else a+1:Nat)<=S.length:=by
   split
   ·rename_i h;have:=uT h;omega
   ·exact j
  cases d:pP S (endC e) 256 (if dts (S.drop (a+1)) then a+3 else a+1) [] [] with
  | inl g=>rw [d] at b;cases b;exact Ae 256 _ _ _ hp d
  | inr q=>
   obtain ⟨i,P,J⟩:=q;rw [d] at b;simp only [] at b;unfold endL at b;generalize (if dts (S.drop i) then i+2 else i:Nat)=k at b;split at b
   ·split at b
    ·cases b
    ·cases b;simp
   ·cases b;simp
 unfold yd at b;split at b
 ·rename_i d;exact c 3 (od d) b
 ·split at b
  ·rename_i d;exact c 4 (od d) b
  ·cases b;simp
noncomputable def Hy (S:aa):(Nat×Nat)⊕(Int×Bool×Bool×List TI):=match yd S 0 with
 | .inl f=>.inl (f.1,f.2.1)
 | .inr (K,e,l,I,p)=>if p<S.length then .inl (p,5) else .inr (K,e,l,I)
def brk (c:UInt8):Bool:=c==33||c==44||c==46||c==47||c==91||c==93||c==123||c==125
theorem Ue:∀c,(!brk c||(!isYC c&&(!isMk c&&(!(c==45)&&!isDX c))))=true:=ja (λc=>!brk c||(!isYC c&&(!isMk c&&(!(c==45)&&!isDX c)))) (by decide +kernel)
theorem HQ {c:UInt8} (h:brk c=true):isYC c=false/\isMk c=false/\(c==45)=false/\isDX c=false:=by
 have:=Ue c;rw [h] at this;simpa [az] using this
theorem Wy {c:UInt8} (h:isDX c=true):brk c=false:=by
 cases a:brk c
 ·rfl
 ·rw [(HQ a).2.2.2] at h;cases h
def endT (l:aa):Prop:=∀c,l.head?=some c->brk c=true
theorem U9 {l:aa} (h:endT l):di isYC l/\di isMk l/\di (λc=>c==45) l:=⟨λc hc=>(HQ (h c hc)).1,λc hc=>(HQ (h c hc)).2.1,λc hc=>(HQ (h c hc)).2.2.1⟩
theorem Jd:endT []:=λc h=>by cases h
theorem rz {c:UInt8} {l:aa} (h:brk c=true):endT (c::l):=λa b=>by
 simp only [o5,av] at b;rw [<-b];exact h
theorem Lh {g l:Bool} {d:aa} {x s:Nat} (h:okY g l d (x:Int) (s:Int)) (r:aa):di brk (gQ g l d (x:Int) (s:Int)++r):=by
 have a:d≠[]:=by
  have:=(iN h).2.2.2.2.1;rintro rfl;simp at this
 rw [kM];cases l with
 | true=>exact eo (by decide)
 | false=>
  cases g with
  | true=>exact eo (by decide)
  | false=>
   simp only [bz,aE,dS,fQ];exact wC a (O4 h) (λc=>Wy)
def ig (x:TD):aa:=qj x.1 x.2.1 x.2.2.1 x.2.2.2.1 x.2.2.2.2.1 x.2.2.2.2.2.1 x.2.2.2.2.2.2.1 x.2.2.2.2.2.2.2.1.toNat x.2.2.2.2.2.2.2.2.1.toNat x.2.2.2.2.2.2.2.2.2.toNat
theorem rN {x:TD} (hs:smT x) (hc:cF x=0):∃(g l:Bool) (dg:aa) (e q:Nat) (m d:aa) (a b c:Nat),x=(g,l,dg,(e:Int),(q:Int),m,d,(a:Int),(b:Int),(c:Int))/\OkD g l dg e q m d a b c:=by
 have h:=mR hc;obtain ⟨g,l,dg,e,q,m,d,k0,k1,k2⟩:=x;obtain ⟨p,r,a,b,c,j,k,n,f,i,o⟩:=D5 hs.2.2.2.1 hs.2.2.2.2.1 hs.2.2.2.2.2 h;simp only at j k n f i;subst j k n f i;exact ⟨_,_,_,_,_,_,_,_,_,_,rfl,o⟩
theorem dfT {x:TD} (hs:smT x) (hc:cF x=0):ap10 (cS 20000000) x=some (ig x,0):=by
 have:=Hk 19999700 x.1 x.2.1 x.2.2.1 x.2.2.2.1 x.2.2.2.2.1 x.2.2.2.2.2.1 x.2.2.2.2.2.2.1 x.2.2.2.2.2.2.2.1 x.2.2.2.2.2.2.2.2.1 x.2.2.2.2.2.2.2.2.2 hs.1 hs.2.1 hs.2.2.2.1 hs.2.2.2.2.1 hs.2.2.2.2.2;rw [ae (mR hc)] at this;exact this
theorem rfT {x:TD} (hs:smT x) (hc:cF x=0):ap10 (cK 20000000) x=some (ig x):=
 Eb 19999700 hs.2.2.2.1 hs.2.2.2.2.1 hs.2.2.2.2.2 (mR hc)
theorem mP {x:TD} (hs:smT x) (hc:cF x=0):(ig x).length<=37:=by
 obtain ⟨g,l,dg,e,q,m,d,a,b,c,rfl,ok⟩:=rN hs hc;exact NK ok
theorem oc {x:TD} (hs:smT x) (hc:cF x=0) (r:aa):di brk (ig x++r):=by
 obtain ⟨g,l,dg,e,q,m,d,a,b,c,rfl,ok⟩:=rN hs hc;show di brk (qj g l dg (e:Int) (q:Int) m d a b c++r);unfold qj cE;rw [fQ,fQ,fQ];exact Oq _ (by decide) (by decide) (by decide) (Lh ok.yr _)
theorem sY {l:aa} (h:di brk l):dts l=false:=by
 cases a:dts l
 ·rfl
 ·obtain ⟨r,rfl⟩:=yC.1 a;exact absurd (h 46 rfl) (by decide)
theorem Ak {x:TD} (hs:smT x) (hc:cF x=0) {S:aa} {a:Nat} {post:aa} (h:S.drop a=ig x++post) (hp:endT post):∃r,fL S a=.inr r/\tdR r=x/\enR r=a+(ig x).length:=by
 obtain ⟨g,l,dg,e,q,m,d,k0,k1,k2,rfl,ok⟩:=rN hs hc;obtain ⟨b,j,i⟩:=U9 hp;obtain ⟨P,f⟩:=Ko ok (S:=S) (a:=a) (post:=post) h b j i;refine ⟨(g,l,dg,e,q,m,d,(k0,k1,k2),P,a+(qj g l dg (e:Int) (q:Int) m d k0 k1 k2).length),?_,rfl,rfl⟩;unfold fL;rw [f];have c:chkR (g,l,dg,e,q,m,d,(k0,k1,k2),P,a+(qj g l dg (e:Int) (q:Int) m d k0 k1 k2).length)=0:=by
  unfold chkR;simp only [];have:chkF g l dg (e:Int) (q:Int) m d (k0:Int) (k1:Int) (k2:Int)=0:=hc;rw [this];rfl
 simp only [];rw [ae c]
structure OkI (t:TI):Prop where
 sm:smI t
 a:cF (iF t)=0
 b:rT t=true->cF (iT t)=0
 n:rT t=false->iT t=d0
def dq (t:TI):aa:=if rT t then ig (iF t)++([46,46]++ig (iT t)) else ig (iF t)
theorem ym {t:TI} (h:OkI t):(dq t).length<=76:=by
 have e:=mP h.sm.1 h.a;unfold dq;split
 ·rename_i c;have d:=mP h.sm.2 (h.b c);simp only [aO,aC,bh];omega
 ·omega
theorem N7 {t:TI} (h:OkI t) (r:aa):di brk (dq t++r):=by
 unfold dq;split
 ·rw [fQ];exact oc h.sm.1 h.a _
 ·exact oc h.sm.1 h.a _
theorem yY {t:TI} (ok:OkI t) {e:UInt8} (j:brk e=true) {S:aa} {p:Nat} {post:aa} (h:S.drop p=dq t++post) (hp:endT post) (o:dts post=true->(post.drop 2).head?=some e):
  ∃a,rc S e p=.inr (t,a,p+(dq t).length):=by
 unfold dq at h ⊢;unfold rc;cases c:rT t with
 | true=>
  rw [c,ae rfl,fQ,fQ] at h;obtain ⟨r,g,i,f⟩:=Ak ok.sm.1 ok.a h (rz (by decide));have d:S.drop (enR r)=[46,46]++(ig (iT t)++post):=by rw [f];exact gV h
  have m:S.drop (enR r+2)=ig (iT t)++post:=gV (u:=[46,46]) d;have y:dts (S.drop (enR r))=true:=by rw [d];rfl
  have q:(S.drop (enR r+2)).head?≠some e:=by
   rw [m];intro v;have:=oc ok.sm.2 (ok.b c) post e v;rw [j] at this;cases this
  obtain ⟨z,s,x,w⟩:=Ak ok.sm.2 (ok.b c) m hp;refine ⟨plR r,?_⟩;rw [g];simp only [];rw [ae ⟨y,q⟩,s];simp only [aM];rw [i,x,w,f];have:mkI (iF t) true (iT t)=t:=by rw [<-c]
  rw [this];have:p+(ig (iF t)).length+2+(ig (iT t)).length=p+(ig (iF t)++([46,46]++ig (iT t))).length:=by simp only [aO,aC,bh];omega
  rw [this]
 | false=>
  rw [c] at h;simp only [bz,aE] at h;obtain ⟨r,g,i,f⟩:=Ak ok.sm.1 ok.a h hp;have d:S.drop (enR r)=post:=by rw [f];exact gV h
  refine ⟨plR r,?_⟩;rw [g];simp only [];rw [ab,i,f]
  ·have:mkI (iF t) false d0=t:=by rw [<-c,<-ok.n c]
   rw [this];simp only [bz,aE]
  ·rintro ⟨k,l⟩;rw [d] at k;rw [<-jv,d] at l;exact l (o k)
def lM (I:List TI):aa:=(I.map λt=>44::dq t).flatten
theorem xm {f:UInt8} (c:brk f=true) (b:f≠44) {post:aa} (hp:endT post) (d:post.head?≠some 44) (j:dts post=true->(post.drop 2).head?=some f):∀(I:List TI) (t:TI) (r p:Nat) {S:aa} (P:List Nat) (J:List TI),OkI t->(∀u∈I,OkI u)->I.length<r->S.drop p=dq t++(lM I++post)->
  ∃g,pP S f r p P J=.inr (p+(dq t++lM I).length,g,J++t::I)
 | [],t,r+1,p,S,P,J,ok,_,k,h=>by
  obtain ⟨a,i⟩:=yY ok c (post:=post) (by simpa [lM] using h) hp j;refine ⟨P++[a],?_⟩;rw [pP,i];simp only [];have e:S.drop (p+(dq t).length)=post:=gV (by simpa [lM] using h);rw [e,ab d];simp [lM]
 | u::I,t,r+1,p,S,P,J,ok,oks,k,h=>by
  have o:lM (u::I)++post=44::(dq u++(lM I++post)):=by simp [lM]
  rw [o] at h
  obtain ⟨a,i⟩:=yY ok c (post:=44::(dq u++(lM I++post))) h (rz (by decide)) (λq=>by
   obtain ⟨r,m⟩:=yC.1 q;cases m)
  have e:S.drop (p+(dq t).length)=44::(dq u++(lM I++post)):=gV h;have n:S.drop (p+(dq t).length+1)=dq u++(lM I++post):=gV (u:=[44]) e;obtain ⟨g,s⟩:=xm c b hp d j I u r (p+(dq t).length+1) (P++[a]) (J++[t]) (oks u nl) (λv l=>oks v (f7 _ l)) (by simp at k;omega) n;refine ⟨g,?_⟩;rw [pP,i];simp only [];rw [e,o5,ae rfl,s];have:p+(dq t).length+1+(dq u++lM I).length=p+(dq t++lM (u::I)).length:=by simp [lM];omega
  rw [this];simp
def sa (K:Int) (e l:Bool) (I:List TI):aa:=
 (if K=4 then 123 else 91)::((if e then [46,46] else [])++(Lib.join (I.map dq) [44]++((if l then [46,46] else [])++[endC K])))
theorem Ed (t:TI) (I:List TI):Lib.join ((t::I).map dq) [44]=dq t++lM I:=by
 rw [ge,Lib.join_cons];unfold Lib.joinTail lM;rw [ud];rfl
theorem JB {K:Int} (w:K=3\/K=4) {e l:Bool} {I:List TI} (p:1<=I.length) (s:I.length<=256) (ok:∀t∈I,OkI t) (D:(setE K e l I).2=0) {S:aa} {a:Nat} {post:aa} (h:S.drop a=sa K e l I++post):
  yd S a=.inr (K,e,l,I,a+(sa K e l I).length):=by
 obtain ⟨t,J,rfl⟩:∃t J,I=t::J:=by
  cases I with
  | nil=>simp at p
  | cons t J=>exact ⟨t,J,rfl⟩
 have d:brk (endC K)=true:=by unfold endC;split<;>decide
 have c:endC K≠44:=by unfold endC;split<;>decide
 have f:endC K≠46:=by unfold endC;split<;>decide
 unfold sa at h ⊢;rw [Ed] at h ⊢;have k:S.drop (a+1)=(if e then [46,46] else [])++((dq t++lM J)++((if l then [46,46] else [])++(endC K::post))):=by
  have:=gV (u:=[if K=4 then 123 else 91]) (v:=((if e then [46,46] else [])++((dq t++lM J)++((if l then [46,46] else [])++[endC K])))++post) (by rw [h];rfl);rw [show a+1=a+[if K=4 then (123:UInt8) else 91].length from rfl,this];simp only [fQ,Gy]
 have z:dts (S.drop (a+1))=e:=by
  rw [k];cases e
  ·simp only [bz,aE,dS];rw [fQ];exact sY (N7 (ok t nl) _)
  ·rfl
 have o:S.drop (if e then a+3 else a+1)=dq t++(lM J++((if l then [46,46] else [])++(endC K::post))):=by
  rw [<-fQ];cases e
  ·simpa using k
  ·have:=gV (u:=[46,46]) k;simpa using this
 have x:endT ((if l then [46,46] else [])++(endC K::post)):=by
  cases l
  ·exact rz d
  ·exact rz (by decide)
 have m:((if l then [46,46] else [])++(endC K::post)).head?≠some 44:=by
  cases l
  ·simp [c]
  ·simp
 have g:dts ((if l then [46,46] else [])++(endC K::post))=l:=by
  cases l
  ·cases i:dts ((if false then [46,46] else [])++(endC K::post))
   ·rfl
   ·obtain ⟨r,n⟩:=yC.1 i;simp at n;exact absurd n.1 f
  ·rfl
 obtain ⟨P,B⟩:=xm d c x m (λi=>by rw [g] at i;subst i;rfl) J t 256 (if e then a+3 else a+1) [] [] (ok t nl) (λu A=>ok u (f7 _ A)) (by simp at s;omega) o;have j:S.drop ((if e then a+3 else a+1)+(dq t++lM J).length)=(if l then [46,46] else [])++(endC K::post):=by
  apply gV;rw [o,fQ]
 have b:E3 S a K=.inr (K,e,l,t::J,a+(((if K=4 then 123 else 91)::((if e then [46,46] else [])++((dq t++lM J)++((if l then [46,46] else [])++[endC K]))):aa).length)):=by
  unfold E3;rw [z,B];simp only [dS];unfold endL;rw [j,g];generalize y:(if e then a+3 else a+1)+(dq t++lM J).length=X at j ⊢;have q:S.drop (if l then X+2 else X)=endC K::post:=by
   cases l
   ·simpa using j
   ·have:=gV (u:=[46,46]) j;simpa using this
  rw [q,o5,ae rfl,ae D];have:(if l then X+2 else X)+1=a+(((if K=4 then 123 else 91)::((if e then [46,46] else [])++((dq t++lM J)++((if l then [46,46] else [])++[endC K]))):aa).length):=by
   rw [<-y];cases e<;>cases l<;>simp<;>omega
  rw [this]
 unfold yd;have C:(S.drop a).head?=some (if K=4 then 123 else 91):=by rw [h];rfl
 rw [C];rcases w with rfl | rfl
 ·rw [ae (show some (if (3:Int)=4 then (123:UInt8) else 91)=some 91 from rfl)];exact b
 ·rw [ab (show ¬some (if (4:Int)=4 then (123:UInt8) else 91)=some 91 by decide),ae (show some (if (4:Int)=4 then (123:UInt8) else 91)=some 123 from rfl)];exact b
theorem xE {x y:TD} {r all:Bool} (h:itE x r y all=0):cF x=0/\(r=true->cF y=0)/\(r=false->y=d0)/\itE x r y false=0:=by
 by_cases hc:cF x=0
 ·refine ⟨hc,?_⟩;cases r
  ·rw [Rl hc] at h ⊢;have hy:eqD y d0=true:=by
    cases a:eqD y d0
    ·rw [a] at h;simp at h
    ·rfl
   exact ⟨λh=>(by cases h),λ_=>jw.1 hy,by rw [hy];simp⟩
  ·by_cases hy:cF y=0
   ·rw [WN hc hy] at h ⊢;have b:ordB x y=true:=by
     cases a:ordB x y
     ·rw [a] at h;simp at h
     ·rfl
    exact ⟨λ_=>hy,λh=>(by cases h),by rw [b];simp⟩
   ·rw [WW hc hy] at h;exact absurd h hy
 ·rw [Zd hc] at h;exact absurd h hc
theorem Xd {t:TI} {all:Bool} (hs:smI t) (h:itI t all=0):OkI t:=by
 obtain ⟨a,b,c,_⟩:=xE h;exact ⟨hs,a,b,c⟩
theorem GN {x y:TD} (r:Bool) (hx:smT x) (hy:smT y):gJ 20000000 x r y=some (if itE x r y false=0 then (dq (mkI x r y),0) else ([],itE x r y false)):=by
 unfold gJ;rw [GT r hx hy,ae (.inl rfl),show ((3:Int)==4)=false from rfl];simp only [ob];by_cases h:itE x r y false=0
 ·obtain ⟨a,b,c,_⟩:=xE h;rw [ae h,h,dfT hx a];simp only [fC,af,u2];cases r
  ·rfl
  ·have e:=mP hx a;have d:=mP hy (b rfl);simp only [ah,dfT hy (b rfl)];rw [bQ (by simp only [aC,bh];omega)];simp only [];rw [bQ (by simp only [aO,aC,bh];omega)];rfl
 ·rw [ab h,show (itE x r y false != 0)=true from by simp [h]];rfl
theorem Oe {t:TI} (ok:OkI t):iu 20000000 (iF t) (rT t) (iT t)=some (dq t):=by
 unfold iu dq;rw [rfT ok.sm.1 ok.a];cases c:rT t
 ·rfl
 ·have e:=mP ok.sm.1 ok.a;have d:=mP ok.sm.2 (ok.b c);simp only [ah,ob,rfT ok.sm.2 (ok.b c)];rw [bQ (by simp only [aC,bh];omega)];simp only [];rw [bQ (by simp only [aO,aC,bh];omega)];simp only [aM,fQ]
theorem E6:∀{I:List TI},(∀t∈I,OkI t)->(lM I).length<=77*I.length
 | [],_=>by simp [lM]
 | t::I,h=>by
  have c:=ym (h t nl);have b:=E6 (I:=I) λu a=>h u (f7 _ a);have:lM (t::I)=(44::dq t)++lM I:=by simp [lM]
  rw [this];simp only [aO,aC];omega
theorem uu {I:List TI} (h:∀t∈I,OkI t):(Lib.join (I.map dq) [44]).length<=77*I.length:=by
 cases I with
 | nil=>simp [Lib.join_nil]
 | cons t I=>
  have c:=ym (h t nl);have b:=E6 (I:=I) λu a=>h u (f7 _ a);rw [Ed];simp only [aO,aC];omega
theorem On {I:List TI} {i:Nat} {t:TI} (h:I[i]?=some t) (w:aa) (b:w=dq t):((I.take i).map dq++List.replicate (I.length - i) []).set i w=(I.take (i+1)).map dq++List.replicate (I.length - (i+1)) []:=by
 have hi:i<I.length:=(qX.1 h).1;obtain ⟨k,c⟩:∃k,I.length - i=k+1:=⟨I.length - i - 1,by omega⟩;have a:((I.take i).map dq).length=i:=by simp;omega
 rw [c,uq,show I.length - (i+1)=k by omega,qp,h,b];rw [List.set_append_right _ _ (by omega),a,B5];simp
theorem Pz {I:List TI} (hs:∀t∈I,OkI t/\itI t false=0) (h:I.length<=1000) (K:Int) (D:TD) (KF:Int) (DF:TD) (KT:Int) (DT:TD) (e l:Bool):∀(r i:Nat),i+r=I.length->∀N,r<N->
  aw (cA 20000000) N (len I,(i:Int),I,K,D,KF,DF,KT,DT,e,l,(I.take i).map dq++List.replicate (I.length - i) [])=some (I,K,D,KF,DF,KT,DT,e,l,I.map dq):=by
 intro r
 induction r with
 | zero=>
  intro i hi N g;obtain ⟨N,rfl⟩:∃k,N=k+1:=⟨N - 1,by omega⟩;obtain rfl:i=I.length:=by omega
  have:cA 20000000 (len I,((I.length:Nat):Int),I,K,D,KF,DF,KT,DT,e,l,(I.take I.length).map dq++List.replicate (I.length - I.length) [])=some (.inr (I,K,D,KF,DF,KT,DT,e,l,I.map dq)):=by
   unfold cA;simp only [u12,u11,u10,u9,u8,u7,u6,u5,u4,u3,u2];rw [ar (show ¬((I.length:Nat):Int)<len I by show ¬((I.length:Nat):Int)<((I.length:Nat):Int);omega),B5,nq];simp
  rw [aw,this]
 | succ r ih=>
  intro i hi N g;obtain ⟨N,rfl⟩:∃k,N=k+1:=⟨N - 1,by omega⟩;have a:i<I.length:=by omega
  have b:I[i]?=some I[i]:=aT a;obtain ⟨ok,c⟩:=hs _ (Jg a);generalize I[i]=t at b ok c;have d:((I.take i).map dq++List.replicate (I.length - i) ([]:aa)).length=I.length:=by simp;omega
  have:cA 20000000 (len I,(i:Int),I,K,D,KF,DF,KT,DT,e,l,(I.take i).map dq++List.replicate (I.length - i) [])=some (.inl (len I,((i+1:Nat):Int),I,K,D,KF,DF,KT,DT,e,l,(I.take (i+1)).map dq++List.replicate (I.length - (i+1)) [])):=by
   unfold cA;simp only [u12,u11,u10,u9,u8,u7,u6,u5,u4,u3,u2];rw [aq (show (i:Int)<len I by show (i:Int)<((I.length:Nat):Int);omega),dk a];simp only [ah,ob,b];rw [show gJ 20000000 (iF t) (d8 t).2.2.1 (d8 t).2.2.2=some (dq t,0) from (GN (rT t) ok.sm.1 ok.sm.2).trans (by rw [ae (show itE (iF t) (rT t) (iT t) false=0 from c)])];simp only [d];rw [dk a];simp only [];obtain ⟨w,f⟩:∃w,((I.take i).map dq++List.replicate (I.length - i) ([]:aa))[i]?=some w:=⟨_,aT (by omega)⟩;rw [f];simp only [u2];rw [On b _ rfl,pm (by omega)]
  rw [aw,this];exact ih (i+1) (by omega) N (by omega)
structure SetP (K:Int) (D:TD) (KF:Int) (DF:TD) (KT:Int) (DT:TD) (e l:Bool) (I:List TI):Prop where
 kind:K=3\/K=4
 d:D=d0
 kf:KF=0
 df:DF=d0
 kt:KT=0
 dt:DT=d0
 one:1<=I.length
 most:I.length<=256
 its:∀t∈I,itI t (K==4)=0
 set:(setE K e l I).2=0
theorem Af {A:Type} {f:Nat->A->Int}:∀{L:List A} {k:Nat},pg f k L=none->∀t∈L,∃i,f i t=0
 | u::L,k,h,t,a=>by
  rw [pg] at h;split at h
  ·cases h
  ·rename_i b;rcases cN.1 a with rfl | a
   ·exact ⟨k,Lx.1 b⟩
   ·exact Af h t a
theorem Jm {A:Type} {f:Nat->A->Int}:∀{L:List A} {k:Nat} {p:Nat×Int},pg f k L=some p->p.2≠0
 | u::L,k,p,h=>by
  rw [pg] at h;split at h
  ·rename_i a;cases h;exact a
  ·exact Jm h
theorem X1 {K:Int} {e l:Bool} {n i:Nat} {t:TI} (h:errI K e l n i t=0):itI t (K==4)=0:=by
 unfold errI at h;split at h
 ·rename_i a;exact absurd h a
 ·rename_i a;exact Lx.1 a
theorem Ec {K:Int} (g:K=3\/K=4) {D:TD} {KF:Int} {DF:TD} {KT:Int} {DT:TD} {e l:Bool} {I:List TI} (h:(jb K D KF DF KT DT e l I).2=0):SetP K D KF DF KT DT e l I:=by
 have n:=h;unfold jb at h;rw [ab (by omega)] at h;split at h
 ·simp at h
 ·rename_i f;rw [ab (by omega),ab (by omega)] at h;split at h
  ·simp at h
  ·split at h
   ·simp at h
   ·unfold xA at h;have q:D=d0/\KF=0/\DF=d0/\KT=0/\DT=d0:=by
     unfold unuB at f;have k1:(K==1)=false:=by rcases g with rfl | rfl<;>rfl
     have k2:(K==2)=false:=by rcases g with rfl | rfl<;>rfl
     have k3:(K==3||(K==4||(decide (I.length=0)&&(!e&&!l))))=true:=by rcases g with rfl | rfl<;>rfl
     rw [k1,k2,k3] at f;generalize j:eqD D d0=z1 at f;generalize o:eqD DF d0=z2 at f;generalize m:eqD DT d0=r at f;simp only [oO,du,yF,D3,ip,jW,not_or,Bool.not_eq_false,az,bp] at f;obtain ⟨a,⟨b,c⟩,d,e⟩:=f;exact ⟨jw.1 (j.trans a),b,jw.1 (o.trans c),d,jw.1 (m.trans e)⟩
    obtain ⟨rfl,rfl,rfl,rfl,rfl⟩:=q;cases hs:pg (errI K e l I.length) 0 I with
    | some p=>rw [hs] at h;exact absurd h (Jm hs)
    | none=>
     refine ⟨g,rfl,rfl,rfl,rfl,rfl,by omega,by omega,λt k=>?_,n⟩;obtain ⟨i,hi⟩:=Af hs t k;exact X1 hi
theorem I5 {K:Int} {D:TD} {KF:Int} {DF:TD} {KT:Int} {DT:TD} {e l:Bool} {I:List TI} (p:SetP K D KF DF KT DT e l I) (hs:∀t∈I,smI t):∀t∈I,OkI t/\itI t false=0:=
 λt a=>⟨Xd (hs t a) (p.its t a),(xE (p.its t a)).2.2.2⟩
def FQ (K:Int):Prop:=K=3\/K=4
instance (K:Int):Decidable (FQ K):=inferInstanceAs (Decidable (K=3\/K=4))
theorem Ud {K:Int} {D:TD} {KF:Int} {DF:TD} {KT:Int} {DT:TD} {e l:Bool} {I:List TI} (h:smE D DF DT I):
  mb 20000000 K D KF DF KT DT e l I=some (if FQ K then (if (jb K D KF DF KT DT e l I).2=0 then (sa K e l I,0) else ([],(jb K D KF DF KT DT e l I).2)) else ([],18)):=by
 have c:∀q:FQ K,(ob (iE 20000000 K D KF DF KT DT e l I) λg=>(cond (g != 0) (some ([],g)) (cond (decide ((0:Int)<=(len I))&&(decide ((len I)<=(len I))&&decide ((len I)<=(67108864:Int)))) (ob (aw (cA 20000000) 20000000 ((len I),0,I,K,D,KF,DF,KT,DT,e,l,(List.replicate (Int.toNat (len I)) ([]:aa)))) (u10 λ_ A _ _ _ _ _ z i a=>(ob (eO 20000000 A) (u2 λd b=>(cond z (ob (cat d ([46,46]:aa)) λj=>(cond i (ob (cat ([46,46]:aa) b) λB=>(cond (Nat.ble (List.length a) 140737488355328&&Nat.ble (List.length (Lib.join a ([44]:aa))) 140737488355328) (ob (cat j (Lib.join a ([44]:aa))) λx=>(ob (cat x B) λo=>(some (o,0)))) none)) (cond (Nat.ble (List.length a) 140737488355328&&Nat.ble (List.length (Lib.join a ([44]:aa))) 140737488355328) (ob (cat j (Lib.join a ([44]:aa))) λr=>(ob (cat r b) λv=>(some (v,0)))) none))) (cond i (ob (cat ([46,46]:aa) b) λs=>(cond (Nat.ble (List.length a) 140737488355328&&Nat.ble (List.length (Lib.join a ([44]:aa))) 140737488355328) (ob (cat d (Lib.join a ([44]:aa))) λy=>(ob (cat y s) λp=>(some (p,0)))) none)) (cond (Nat.ble (List.length a) 140737488355328&&Nat.ble (List.length (Lib.join a ([44]:aa))) 140737488355328) (ob (cat d (Lib.join a ([44]:aa))) λC=>(ob (cat C b) λu=>(some (u,0)))) none))))))) none))) =
   some (if (jb K D KF DF KT DT e l I).2=0 then (sa K e l I,(0:Int)) else ([],(jb K D KF DF KT DT e l I).2)):=by
  intro q;rw [Ia h];simp only [ob];by_cases k:(jb K D KF DF KT DT e l I).2=0
  ·have P:=Ec q k;have L:=P.most;have oks:=I5 P h.2.2.2;have J:=uu λt E=>(oks t E).1;rw [ae k,k];have f:=Pz oks (by omega) K D KF DF KT DT e l I.length 0 (by omega) 20000000 (by omega);simp only [fC,af];have G:(decide ((0:Int)<=(len I))&&(decide ((len I)<=(len I))&&decide ((len I)<=(67108864:Int))))=true:=by
    have:len I=((I.length:Nat):Int):=rfl;rw [this];simp only [az,cg];omega
   rw [G,ah,show (List.replicate (Int.toNat (len I)) ([]:aa))=(I.take 0).map dq++List.replicate (I.length - 0) [] from by simp];rw [show aw (cA 20000000) 20000000 (len I,(0:Int),I,K,D,KF,DF,KT,DT,e,l,(I.take 0).map dq++List.replicate (I.length - 0) [])=_ from f];have F:(Nat.ble (List.length (I.map dq)) 140737488355328&&Nat.ble (List.length (Lib.join (I.map dq) ([44]:aa))) 140737488355328)=true:=by
    simp only [az];exact ⟨cP (by simp;omega),cP (by omega)⟩
   simp only [u10,u9,u8,u7,u6,u5,u4,u3,u2,yj q,F,ah];unfold sa;generalize H:(if K=4 then (123:UInt8) else 91)=b1;generalize endC K=b2;generalize Lib.join (I.map dq) [44]=w at J;cases e<;>cases l<;>simp only [ah,af]
   ·rw [bQ (by simp only [aC,bh];omega)];simp only [];rw [bQ (by simp only [aO,aC,bh];omega)];simp
   ·rw [bQ (by simp only [aC,bh];omega)];simp only [];rw [bQ (by simp only [aC,bh];omega)];simp only [];rw [bQ (by simp only [aO,aC,bh];omega)];simp
   ·rw [bQ (by simp only [aC,bh];omega)];simp only [];rw [bQ (by simp only [aO,aC,bh];omega)];simp only [];rw [bQ (by simp only [aO,aC,bh];omega)];simp
   ·rw [bQ (by simp only [aC,bh];omega)];simp only [];rw [bQ (by simp only [aC,bh];omega)];simp only [];rw [bQ (by simp only [aO,aC,bh];omega)];simp only [];rw [bQ (by simp only [aO,aC,bh];omega)];simp
  ·rw [ab k,show ((jb K D KF DF KT DT e l I).2 != 0)=true from by simp [k]];rfl
 unfold mb;by_cases n:K=3
 ·rw [show (K != 3)=false from by simp [n],ae (.inl n)];exact c (.inl n)
 ·rw [show (K != 3)=true from by simp [n],ah];by_cases m:K=4
  ·rw [show (K != 4)=false from by simp [m],ae (.inr m)];exact c (.inr m)
  ·rw [show (K != 4)=true from by simp [m],ab (by rintro (h | h)<;>contradiction)];rfl
theorem NY (ws:List (aa)) (w:aa) (h:ws≠[]):Lib.join (ws++[w]) [44]=Lib.join ws [44]++[44]++w:=by
 cases ws with
 | nil=>exact absurd rfl h
 | cons a r=>
  rw [eK,Lib.join_cons,Lib.join_cons];unfold Lib.joinTail;simp
theorem JS {I:List TI} (hs:∀t∈I,OkI t) (n:I.length<=1000) (pre:aa) (hp:pre.length<=10) (K:Int) (D:TD) (KF:Int) (DF:TD) (KT:Int) (DT:TD) (e l:Bool):∀(r i:Nat),i+r=I.length->∀N,r<N->
  aw (bX 20000000) N (pre++Lib.join ((I.take i).map dq) [44],(i:Int),I,K,D,KF,DF,KT,DT,e,l)=some (pre++Lib.join (I.map dq) [44],I,K,D,KF,DF,KT,DT,e,l):=by
 intro r
 induction r with
 | zero=>
  intro i hi N m;obtain ⟨N,rfl⟩:∃k,N=k+1:=⟨N - 1,by omega⟩;obtain rfl:i=I.length:=by omega
  have:∀s,bX 20000000 (s,((I.length:Nat):Int),I,K,D,KF,DF,KT,DT,e,l)=some (.inr (s,I,K,D,KF,DF,KT,DT,e,l)):=by
   intro s;unfold bX;simp only [u11,u10,u9,u8,u7,u6,u5,u4,u3,u2];rw [ar (show ¬((I.length:Nat):Int)<len I by show ¬((I.length:Nat):Int)<((I.length:Nat):Int);omega)];rfl
  rw [aw,this,nq]
 | succ r ih=>
  intro i hi N m;obtain ⟨N,rfl⟩:∃k,N=k+1:=⟨N - 1,by omega⟩;have a:i<I.length:=by omega
  have c:I[i]?=some I[i]:=aT a;have ok:=hs _ (Jg a);generalize I[i]=t at c ok;have p:=uu (I:=I.take i) λu g=>hs u (List.mem_of_mem_take g);have f:(I.take i).length<=1000:=by rw [cV];omega
  have o:=ym ok;have b:(I.take (i+1)).map dq=(I.take i).map dq++[dq t]:=by rw [qp,c];simp
  have:bX 20000000 (pre++Lib.join ((I.take i).map dq) [44],(i:Int),I,K,D,KF,DF,KT,DT,e,l)=some (.inl (pre++Lib.join ((I.take (i+1)).map dq) [44],((i+1:Nat):Int),I,K,D,KF,DF,KT,DT,e,l)):=by
   unfold bX;simp only [u11,u10,u9,u8,u7,u6,u5,u4,u3,u2];rw [aq (show (i:Int)<len I by show (i:Int)<((I.length:Nat):Int);omega),dk a];have hit:iu 20000000 (iF t) (d8 t).2.2.1 (d8 t).2.2.2=some (dq t):=Oe ok;simp only [ah,ob,c,hit];rw [b];by_cases j:i=0
   ·subst j;rw [ar (show ¬((0:Nat):Int)>0 by omega),af,bQ (by simp only [aO];omega),pm (by omega)];simp [Lib.join_nil,Lib.join_one]
   ·have d:(I.take i).map dq≠[]:=by
     intro h;have:=cD List.length h;rw [vH,cV,bh] at this;omega
    rw [aq (show (i:Int)>0 by omega),ah,bQ (by simp only [aO,aC,bh];omega)];simp only [];rw [bQ (by simp only [aO,aC,bh];omega),pm (by omega),NY _ _ d];simp
  rw [aw,this];exact ih (i+1) (by omega) N (by omega)
theorem LY {K:Int} (k:FQ K) {I:List TI} (hs:∀t∈I,OkI t) (i:I.length<=1000) (D:TD) (KF:Int) (DF:TD) (KT:Int) (DT:TD) (e l:Bool):lF 20000000 K D KF DF KT DT e l I=some (sa K e l I):=by
 have j:=uu hs;have b:=λ(pre:aa) (hp:pre.length<=10)=>JS hs i pre hp K D KF DF KT DT e l I.length 0 (by omega) 20000000 (by omega);have m:Lib.join ((I.take 0).map dq) [44]=[]:=rfl;rw [m] at b;simp only [kR] at b;unfold lF sa;have g:=b [123,46,46] (by simp);have f:=b [123] (by simp);have l3:=b [91,46,46] (by simp);have d:=b [91] (by simp);rw [show ((0:Nat):Int)=0 from rfl] at g f l3 d;rw [g,f,l3,d];generalize Lib.join (I.map dq) [44]=w at j;have a:∀p q:aa,p.length<=10->q.length<=10->cat (p++w) q=some (p++w++q):=λp q hp h=>bQ (by simp only [aO];omega);have c:∀p q r:aa,p.length<=10->q.length<=10->r.length<=10->cat (p++w++q) r=some (p++w++q++r):=λp q r hp h n=>bQ (by simp only [aO];omega);rcases k with rfl | rfl
 ·rw [show ((3:Int)==4)=false from rfl];cases e<;>cases l<;>simp only [ah,af,ob,u10,u9,u8,u7,u6,u5,u4,u3,u2]
  ·simp only [show ((3:Int)==4)=false from rfl,show ((4:Int)==4)=true from rfl,ah,af];rw [a _ _ (by simp) (by simp)];simp [endC]
  ·rw [a _ _ (by simp) (by simp)];simp only [show ((3:Int)==4)=false from rfl,show ((4:Int)==4)=true from rfl,ah,af];rw [c _ _ _ (by simp) (by simp) (by simp)];simp [endC]
  ·simp only [show ((3:Int)==4)=false from rfl,show ((4:Int)==4)=true from rfl,ah,af];rw [a _ _ (by simp) (by simp)];simp [endC]
  ·rw [a _ _ (by simp) (by simp)];simp only [show ((3:Int)==4)=false from rfl,show ((4:Int)==4)=true from rfl,ah,af];rw [c _ _ _ (by simp) (by simp) (by simp)];simp [endC]
 ·rw [show ((4:Int)==4)=true from rfl];cases e<;>cases l<;>simp only [ah,af,ob,u10,u9,u8,u7,u6,u5,u4,u3,u2]
  ·simp only [show ((3:Int)==4)=false from rfl,show ((4:Int)==4)=true from rfl,ah,af];rw [a _ _ (by simp) (by simp)];simp [endC]
  ·rw [a _ _ (by simp) (by simp)];simp only [show ((3:Int)==4)=false from rfl,show ((4:Int)==4)=true from rfl,ah,af];rw [c _ _ _ (by simp) (by simp) (by simp)];simp [endC]
  ·simp only [show ((3:Int)==4)=false from rfl,show ((4:Int)==4)=true from rfl,ah,af];rw [a _ _ (by simp) (by simp)];simp [endC]
  ·rw [a _ _ (by simp) (by simp)];simp only [show ((3:Int)==4)=false from rfl,show ((4:Int)==4)=true from rfl,ah,af];rw [c _ _ _ (by simp) (by simp) (by simp)];simp [endC]
theorem Nq (n:Nat) (K:Int) (D:TD) (KF:Int) (DF:TD) (KT:Int) (DT:TD) (c:Nat) (e l:Bool) (L:List TI):jL n K D KF DF KT DT L.length c e l L=iE n K D KF DF KT DT e l L:=by
 unfold jL iE;rw [NX]
theorem Gj (n N:Nat) (i K:Int) (D:TD) (KF:Int) (DF:TD) (KT:Int) (DT:TD) (c:Nat) (e l:Bool) (L:List TI) (ws:List (aa)):
  aw (fY n) N (L.length,c,len L,i,L,K,D,KF,DF,KT,DT,L.length,c,e,l,ws)=(aw (cA n) N (len L,i,L,K,D,KF,DF,KT,DT,e,l,ws)).map (u10 λb k o m h q g p d a=>(b,k,o,m,h,q,g,b.length,c,p,d,a)):=
 uH (s:=cA n) (s':=fY n) (u12 λx0 f b k o m h q g p d a=>(b.length,c,x0,f,b,k,o,m,h,q,g,b.length,c,p,d,a)) _ (by
  rintro ⟨x0,f,b,k,o,m,h,q,g,p,d,a⟩;unfold cA fY;simp only [u16,u15,u14,u13,u12,u11,u10,u9,u8,u7,u6,u5,u4,u3,u2];cases decide (f<x0)
  ·rfl
  ·simp only [ah];cases ix b.length f with
   | none=>rfl
   | some i=>
    simp only [ob];cases b[i]? with
    | none=>rfl
    | some t=>
     simp only [ob];cases gJ n (iF t) (d8 t).2.2.1 (d8 t).2.2.2 with
     | none=>rfl
     | some v=>
      simp only [ob];cases ix a.length f with
      | none=>rfl
      | some j=>
       simp only [ob];cases a[j]?<;>rfl) N (len L,i,L,K,D,KF,DF,KT,DT,e,l,ws)
theorem V9 (n:Nat) (K:Int) (D:TD) (KF:Int) (DF:TD) (KT:Int) (DT:TD) (c:Nat) (e l:Bool) (L:List TI):na n K D KF DF KT DT L.length c e l L=mb n K D KF DF KT DT e l L:=by
 unfold na mb;rw [Nq,show aw (fY n) n (L.length,c,((L.length:Nat):Int),0,L,K,D,KF,DF,KT,DT,L.length,c,e,l,List.replicate (Int.toNat ((L.length:Nat):Int)) [])=_ from Gj n n 0 K D KF DF KT DT c e l L _];rw [show List.replicate (Int.toNat ((L.length:Nat):Int)) ([]:aa)=List.replicate (Int.toNat (len L)) [] from rfl];cases aw (cA n) n (len L,0,L,K,D,KF,DF,KT,DT,e,l,List.replicate (Int.toNat (len L)) []) with
 | none=>rfl
 | some y=>rfl
theorem FB (K:Int) (D:TD) (KF:Int) (DF:TD) (KT:Int) (DT:TD) (e l:Bool) {I:List TI} (b:I.length<=1000000):ie 20000000 K D KF DF KT DT e l K D KF DF KT DT e l I I=some 1:=by
 unfold ie;rw [Cc rfl b,ae rfl];have a:∀x:TD,eqD x x=true:=λx=>jw.2 rfl;simp only [a,vG,fC,af,Bool.and_self,du,obs,sm,ob]
theorem Vd (n:Nat) (K:Int) (D:TD) (KF:Int) (DF:TD) (KT:Int) (DT:TD) (c:Nat) (e l:Bool) (z:Int) (y:TD) (g:Int) (d:TD) (b:Int) (f:TD) (A x:Bool) (I J:List TI):
  gq n K D KF DF KT DT I.length c e l z y g d b f A x I J=ie n K D KF DF KT DT e l z y g d b f A x I J:=by
 unfold gq ie;have:=uH (s:=dl n) (s':=gm n) (u19 λx0 a w L H F E G B C h o v p k r x16 q m=>(x0,a,w,L,H,F,E,G,B,a.length,c,C,h,o,v,p,k,r,x16,q,m)) id (by
  rintro ⟨x0,a,w,L,H,F,E,G,B,C,h,o,v,p,k,r,x16,q,m⟩;unfold dl gm;simp only [u21,u20,u19,u18,u17,u16,u15,u14,u13,u12,u11,u10,u9,u8,u7,u6,u5,u4,u3,u2,OD];rw [show decide (x0<((a.length:Nat):Int))=decide (x0<len a) from rfl];cases decide (x0<len a)
  ·rfl
  ·simp only [ah];cases ix a.length x0 with
   | none=>rfl
   | some i=>
    simp only [ob];cases a[i]? with
    | none=>rfl
    | some t=>
     simp only [ob];cases ix w.length x0 with
     | none=>rfl
     | some j=>
      simp only [ob];cases w[j]? with
      | none=>rfl
      | some u=>
       simp only [ob];cases decide (t=u)<;>rfl) n (0,I,J,K,D,KF,DF,KT,DT,e,l,z,y,g,d,b,f,A,x)
 simp only [u19,u18,u17,u16,u15,u14,u13,u12,u11,u10,u9,u8,u7,u6,u5,u4,u3,u2,Option.map_id,id] at this;rw [this]
theorem EX (K:Int) (D:TD) (KF:Int) (DF:TD) (KT:Int) (DT:TD) (c:Nat) (e l:Bool) {I:List TI} (a:I.length<=1000000):gq 20000000 K D KF DF KT DT I.length c e l K D KF DF KT DT e l I I=some 1:=
 (Vd _ _ _ _ _ _ _ _ _ _ _ _ _ _ _ _ _ _ _ _).trans (FB K D KF DF KT DT e l a)
theorem JK {K:Int} (a:FQ K) {e l:Bool} {I:List TI} (d:1<=I.length) (c:I.length<=256) (ok:∀t∈I,OkI t) (b:(setE K e l I).2=0):Hy (sa K e l I)=.inr (K,e,l,I):=by
 unfold Hy;rw [JB a d c ok b (post:=[]) (by rw [cU,kR])];simp only [];rw [ab (by omega)]
theorem Zl {c:UInt8} (h:mkOf c≠0):mt (mkOf c)=[c]:=by
 unfold mkOf at h ⊢;by_cases b:c=63
 ·subst b;rfl
 ·rw [ab b] at h ⊢;by_cases a:c=126
  ·subst a;rfl
  ·rw [ab a] at h ⊢;by_cases d:c=37
   ·subst d;rfl
   ·rw [ab d] at h;exact absurd rfl h
theorem VH (l:aa):l=mt (mkS l)++l.drop (mkN l):=by
 cases l with
 | nil=>rfl
 | cons c r=>
  unfold mkN;show c::r=mt (mkOf c)++_;by_cases h:mkOf c=0
  ·rw [ae (show mkS (c::r)=0 from h),h];rfl
  ·rw [ab (show ¬mkS (c::r)=0 from h),Zl h];rfl
theorem Hw (S:aa) (p:Nat):S.drop p=mt (mkS (S.drop p))++S.drop (mkE S p):=by
 have:=VH (S.drop p);rw [jv] at this;exact this
theorem LW (S:aa) (p:Nat):mkE S p=p+(mt (mkS (S.drop p))).length:=by
 unfold mkE mkN;have a:=EA (S.drop p);generalize mkS (S.drop p)=k at *;rcases (by omega:k=0\/k=1\/k=2\/k=3) with rfl | rfl | rfl | rfl<;>rfl
theorem Ep {S:aa} {p:Nat} (h:¬twoN (S.drop p)<2):S.drop p=(S.drop p).take 2++S.drop (p+2)/\((S.drop p).take 2).length=2/\∀c∈(S.drop p).take 2,isDX c=true:=by
 have b:=wc h;have a:twoN (S.drop p)=2:=by
  have:twoN (S.drop p)<=2:=by
   unfold twoN;have:∀(k:Nat) (l:aa),bG isDX k l<=k:=by
    intro k
    induction k with
    | zero=>intro l;cases l<;>simp [bG]
    | succ k ih=>
     intro l;cases l with
     | nil=>simp [bG]
     | cons c r=>
      simp only [bG];split
      ·have:=ih r;omega
      ·omega
   exact this 2 _
  omega
 refine ⟨by rw [<-jv];exact (ur 2 _).symm,by simp;omega,?_⟩;have:=Ab (p:=isDX) 2 (S.drop p);rw [show bG isDX 2 (S.drop p)=2 from a] at this;exact this
theorem Ag {S:aa} {p:Nat} (h:¬fk 45 (S.drop p)=0):S.drop p=45::S.drop (p+1):=by
 cases a:S.drop p with
 | nil=>rw [a] at h;exact absurd rfl h
 | cons c r=>
  rw [a,kZ] at h;by_cases hc:c=45
  ·subst hc;rw [<-jv,a];rfl
  ·rw [ab hc] at h;exact absurd rfl h
theorem vu {S:aa} {p k:Nat} {w:aa} (h:S.drop (mkE S p)=w++S.drop (mkE S p+k)):S.drop p=cE (mkS (S.drop p)) (mkS (S.drop (mkE S p+k))) w++S.drop (mkE S (mkE S p+k)):=by
 unfold cE;rw [fQ,fQ,<-Hw,<-h,<-Hw]
theorem NA {S:aa} {a:Nat} {g l:Bool} {dg:aa} {x s:Nat} {m d:aa} {M P:Nat×Nat×Nat} {e:Nat} (b:sj S a=.inr (g,l,dg,x,s,m,d,M,P,e)):
  ∃A B,MkD A B m d/\M=spM A B/\P.1=a+(mt A.1).length/\S.drop a=rawD A B g l dg (x:Int) (s:Int) m d++S.drop e:=by
 unfold sj at b;cases hy:qE (S.drop (mkE S a)) with
 | inl k=>rw [hy] at b;cases b
 | inr y=>
  obtain ⟨D,H,u,E,s',k⟩:=y;obtain ⟨F,Q,_⟩:=rH hy;have G:S.drop (mkE S a)=gQ D H u (E:Int) (s':Int)++S.drop (mkE S a+k):=by
   rw [<-F,<-jv];exact (ur k _).symm
  have w0:=vu G;have c:=λp=>EA (S.drop p);rw [hy] at b;simp only [] at b;by_cases r:0<s'\/fk 45 (S.drop (mkE S (mkE S a+k)))=0
  ·rw [ae r] at b;simp only [pa,bM] at b;obtain ⟨rfl,rfl,rfl,rfl,rfl,rfl,rfl,rfl,rfl,rfl⟩:=b;refine ⟨(mkS (S.drop a),0,0),(mkS (S.drop (mkE S a+k)),0,0),⟨c _,by simp,by simp,c _,by simp,by simp,λ_=>⟨rfl,rfl⟩,λ_=>⟨rfl,rfl⟩⟩,rfl,LW S a,?_⟩;unfold rawD;simpa using w0
  ·rw [ab r] at b;have v:=Ag (λh=>r (.inr h));unfold rd2 at b;simp only [] at b;generalize I:mkE S (mkE S a+k)=i at *;by_cases q:twoN (S.drop (mkE S (i+1)))<2
   ·rw [ae q] at b;cases b
   rw [ab q] at b;obtain ⟨N,w,O⟩:=Ep q;have z:=vu N;have f:(S.drop (mkE S (i+1))).take 2≠[]:=λh=>by rw [h] at w;simp at w
   by_cases t:fk 45 (S.drop (mkE S (mkE S (i+1)+2)))=0
   ·rw [ae t] at b;simp only [pa,bM] at b;obtain ⟨rfl,rfl,rfl,rfl,rfl,rfl,rfl,rfl,rfl,rfl⟩:=b;refine ⟨(mkS (S.drop a),mkS (S.drop (i+1)),0),(mkS (S.drop (mkE S a+k)),mkS (S.drop (mkE S (i+1)+2)),0),⟨c _,c _,by simp,c _,c _,by simp,λh=>absurd h f,λ_=>⟨rfl,rfl⟩⟩,rfl,LW S a,?_⟩;unfold rawD;rw [ab f,ae rfl,kR,fQ,eK,<-z,<-v];exact w0
   ·rw [ab t] at b;have C:=Ag t;unfold rd3 at b;generalize L:mkE S (mkE S (i+1)+2)=n at *;by_cases o:twoN (S.drop (mkE S (n+1)))<2
    ·rw [ae o] at b;cases b
    rw [ab o] at b;obtain ⟨K,u2,u3⟩:=Ep o;have J:=vu K;have j:(S.drop (mkE S (n+1))).take 2≠[]:=λh=>by rw [h] at u2;simp at u2
    simp only [pa,bM] at b;obtain ⟨rfl,rfl,rfl,rfl,rfl,rfl,rfl,rfl,rfl,rfl⟩:=b;refine ⟨(mkS (S.drop a),mkS (S.drop (i+1)),mkS (S.drop (n+1))),(mkS (S.drop (mkE S a+k)),mkS (S.drop (mkE S (i+1)+2)),mkS (S.drop (mkE S (n+1)+2))),⟨c _,c _,c _,c _,c _,c _,λh=>absurd h f,λh=>absurd h j⟩,rfl,LW S a,?_⟩;unfold rawD;rw [ab f,ab j,fQ,fQ,eK,eK,<-J,<-C,<-z,<-v];exact w0
def okC (c:UInt8):Bool:=isDX c||(isMk c||(c==45||(c==89||(c==69||c==83))))
def isLv (c:UInt8):Bool:=c==69||(c==83||isMk c)
theorem UH:∀c:UInt8,(!okC c||decide (c.toNat<128))=true:=ja (λc=>!okC c||decide (c.toNat<128)) (by decide +kernel)
theorem Xn {c:UInt8} (h:okC c=true):c.toNat<128:=by
 have:=UH c;rw [h] at this;simpa using this
def dgC (c:UInt8):UInt8:=if be c then 100 else c
theorem XR:∀c:UInt8,(!decide (c.toNat<128)||(decide (0<=pK (c.toNat:Int))&&(Lib.encodeRune (pK (c.toNat:Int))==[dgC c])))=true:=
 ja (λc=>!decide (c.toNat<128)||(decide (0<=pK (c.toNat:Int))&&(Lib.encodeRune (pK (c.toNat:Int))==[dgC c]))) (by decide +kernel)
theorem KG:∀{l:aa},(∀c∈l,c.toNat<128)->Ai l=l.map dgC:=by
 have a:∀(n:Nat) (l:aa),l.length=n->(∀c∈l,c.toNat<128)->Lib.mapGoD pK n l=l.map dgC:=by
  intro n
  induction n with
  | zero=>intro l b _;rw [tj b];rfl
  | succ n ih=>
   intro l b h;cases l with
   | nil=>simp at b
   | cons c r=>
    have e:Lib.decodeL (c::r)=(c.toNat,1):=Bv (l:=c::r) (i:=0) rfl (h c nl);rw [Lib.mapGoD,ab (by simp),e];have:=XR c;rw [aq (h c nl)] at this;simp only [du,oO,az,cg,bp] at this;rw [ae this.1,this.2];rw [show (c::r).drop 1=r from rfl,ih r (by simpa using b) (λd e=>h d (f7 _ e))];rfl
 intro l h;exact a l.length l rfl h
theorem yV (s a:aa):Lib.containsAny s a=s.any (a.contains ·):=by
 induction s with
 | nil=>rfl
 | cons b l ih=>
  unfold Lib.containsAny at ih ⊢;have d:=Lib.indexAny_ge a l;rw [Lib.indexAny,rh];cases c:a.contains b
  ·rw [ab (by simp),oO,<-ih];by_cases h:Lib.indexAny l a=-1
   ·rw [ae (by simp [h]),h]
   ·rw [ab (by simp [h])];congr 1;exact propext (by omega)
  ·simp
def wy (u:aa):aa:=match u with | c::r=>if c=45 then r else c::r | []=>[]
def kn:List (aa):=[[100,100,100,88],[100,100,88,88],[100,100,100,100,45,88,88],[100,100,100,100,45,100,100,45,88,88],[100,100,100,100,45,88,88,45,88,88]]
def simB (v:aa):Bool:=kn.contains (v.map dgC)
theorem Rm (n:Nat) (u:aa):jq n u=some (wy u):=by
 unfold jq gf fq wy;cases u with
 | nil=>rfl
 | cons c r=>
  have a:bx (c::r).length (1:Int)=some 1:=cT (i:=1) (by simp);rw [aq (show (((c::r).length:Nat):Int)>=1 by rw [aC];omega),ah,a];simp only [ob,np,nj,cU];by_cases hc:c=45
  ·subst hc;rw [ae rfl];simp
  ·rw [ab hc,show (([c]:aa)==[45])=false from by simp [hc]];rfl
theorem ZC (n:Nat) (u:aa):da n u=some (decide (u.head?=some 89)):=by
 unfold da fF;cases u with
 | nil=>rfl
 | cons c r=>
  have a:bx (c::r).length (1:Int)=some 1:=cT (i:=1) (by simp);rw [aq (show (((c::r).length:Nat):Int)>=1 by rw [aC];omega),ah,a];simp only [ob,np,nj,cU,o5,av];rw [show (([c]:aa)==[89])=decide (c=89) from by rw [tz];simp]
theorem zB (v:aa):dD 20000000 v kn=some (kn.contains v):=by
 have e:∀(r i:Nat),i+r=5->∀N,r<N->aw (bq 20000000) N (v,5,(i:Int),kn)=some (if (kn.drop i).contains v then .inl ((i+(kn.drop i).idxOf v:Nat):Int) else .inr ()):=by
  intro r
  induction r with
  | zero=>
   intro i hi N f;obtain ⟨N,rfl⟩:∃k,N=k+1:=⟨N - 1,by omega⟩;obtain rfl:i=5:=by omega
   rw [aw];rfl
  | succ r ih=>
   intro i hi N f;obtain ⟨N,rfl⟩:∃k,N=k+1:=⟨N - 1,by omega⟩;have a:i<kn.length:=by show i<5;omega
   have d:=aT a;have:bq 20000000 (v,5,(i:Int),kn)=some (if v=kn[i] then .inr (.inl (i:Int)) else .inl (v,5,((i+1:Nat):Int),kn)):=by
    unfold bq;simp only [];rw [aq (show (i:Int)<5 by omega),ah,dk a];simp only [ob,d];rw [show IntKind.wrap .i64 ((i:Int)+1)=((i+1:Nat):Int) from pm (by omega),gU];split<;>rfl
   rw [aw,this,rP a];by_cases b:v=kn[i]
   ·rw [ae b];simp only [];rw [<-b];simp
   ·rw [ab b];simp only [];rw [ih (i+1) (by omega) N (by omega)];have c:(kn[i]==v)=false:=by simp;exact λh=>b h.symm
    have g:(v==kn[i])=false:=by simp;exact b
    rw [List.contains_cons,g,oO,List.idxOf_cons,c];simp only [af];rw [show i+1+List.idxOf v (List.drop (i+1) kn)=i+(List.idxOf v (List.drop (i+1) kn)+1) by omega]
 have:=e 5 0 rfl 20000000 (by omega);unfold dD fh;rw [show aw (bq 20000000) 20000000 (v,(((List.length kn):Nat):Int),0,kn)=_ from this];rw [cU];cases h:kn.contains v
 ·rfl
 ·simp only [aM,ob];rw [aq (by omega)]
def lvl (u:aa) (b X:Bool) (code:Int):Int:=
 if u.any isLv then 2 else if 24<code then 2 else if (X&&!simB (wy u))=true then 2
 else if b=true\/X=true\/0<code\/u.head?=some 45\/u.head?=some 89 then 1 else 0
structure Body (T u:aa) (k:Nat):Prop where
 eq:T=u++mt k
 k4:k<4
 last:∃v z,u=v++[z]/\isMk z=false
 asc:∀c∈T,c.toNat<128
 len:T.length<=1000
theorem Body.ne {T u:aa} {k:Nat} (h:Body T u k):u≠[]:=by
 obtain ⟨v,z,rfl,_⟩:=h.last;simp
theorem Body.ascu {T u:aa} {k:Nat} (h:Body T u k):∀c∈u,c.toNat<128:=λc hc=>h.asc c (by rw [h.eq];exact List.mem_append_left _ hc)
theorem Body.lenu {T u:aa} {k:Nat} (h:Body T u k):u.length<=1000:=by
 have:=h.len;rw [h.eq,aO] at this;omega
theorem Tf (c:UInt8):([63,126,37]:aa).contains c=isMk c:=by
 have:=ja (λc=>([63,126,37]:aa).contains c==isMk c) (by decide +kernel) c;simpa using this
theorem YV {k:Nat} (h:k<4):∀c∈mt k,isMk c=true/\c≠69/\c≠83/\c≠88:=by
 rcases (by omega:k=0\/k=1\/k=2\/k=3) with rfl | rfl | rfl | rfl<;>simp [mt,isMk,mkOf]
theorem Nr {p:UInt8->Bool}:∀{l:aa},(∀c∈l,p c=true)->l.dropWhile p=[]
 | [],_=>rfl
 | c::l,h=>by rw [List.dropWhile_cons,h c nl];exact Nr λd a=>h d (f7 _ a)
theorem xj {T u:aa} {k:Nat} (h:Body T u k):Lib.trimRightS T [63,126,37]=u:=by
 obtain ⟨v,z,rfl,a⟩:=h.last;unfold Lib.trimRightS;rw [h.eq,List.reverse_append,List.reverse_append];have:List.dropWhile (λx=>([63,126,37]:aa).contains x) ((mt k).reverse++([z].reverse++v.reverse))=[z].reverse++v.reverse:=by
  rw [List.dropWhile_append];have b:List.dropWhile (λx=>([63,126,37]:aa).contains x) (mt k).reverse=[]:=by
   refine Nr λc hc=>?_;rw [Tf];exact (YV h.k4 c (Gu.1 hc)).1
  rw [b];simp only [List.isEmpty_nil,aM,List.reverse_singleton,Gy];rw [List.dropWhile_cons,Tf,a];simp
 rw [this];simp
theorem Xz (c:UInt8):([63,126,37,69,83]:aa).contains c=isLv c:=by
 have:=ja (λc=>([63,126,37,69,83]:aa).contains c==isLv c) (by decide +kernel) c;simpa using this
theorem QV (u:aa):(u==wy u)=!decide (u.head?=some 45):=by
 unfold wy;cases u with
 | nil=>rfl
 | cons c r=>
  simp only [o5,av];by_cases hc:c=45
  ·subst hc;rw [ae rfl,aq rfl];simp only [du,aI,ne_eq];intro h;have:=cD List.length h;simp at this
  ·rw [ab hc,ar hc];simp
theorem Ov (u:aa):(wy u).length<=u.length:=by
 unfold wy;split
 ·split<;>simp
 ·simp
theorem MD {u:aa}:∀c∈wy u,c∈u:=by
 unfold wy;split
 ·split
  ·intro c hc;exact f7 _ hc
  ·intro c hc;exact hc
 ·intro c hc;exact hc
theorem Gt {T u:aa} {k:Nat} (h:Body T u k):(u==T)=decide (k=0):=by
 rw [h.eq];rcases (by have:=h.k4;omega:k=0\/k=1\/k=2\/k=3) with rfl | rfl | rfl | rfl
 ·simp [mt]
 all_goals
  rw [show decide _=false from rfl,aI];intro e;have:=cD List.length e;simp [mt] at this
theorem Zx {T u:aa} {k:Nat} (h:Body T u k) {x:TD} (hs:smT x):l6 20000000 T x=some (lvl u (decide (k≠0)) (hasX x.2.2.1||(hasX x.2.2.2.2.2.1||hasX x.2.2.2.2.2.2.1)) (seT x)):=by
 have g:ap10 (bU 20000000) x=some (seT x,decide (0<seT x)):=rA 20000000 _ _ _ _ _ _ _ _ _ _ hs.1;have n:=h.len;have l:=h.lenu;have i:=Ov u;have f:xY T [63,126,37]=true:=by
  unfold xY;rw [cP (by omega)];rfl
 have j:CJ (wy u)=true:=cP (by omega);have m:zg u [63,126,37,69,83]=true:=by
  unfold zg;rw [cP (show u.length<=4294967280 by omega)];have:OS u=true:=bW.2 λc hc=>cP (h.ascu c hc);rw [this];rfl
 unfold l6;rw [g,fmT hs];simp only [ob,u2,f,ah,xj h,Rm,j,m,KG (λc hc=>h.ascu c (MD c hc)),yV,Xz,ZC];rw [show ([[100,100,100,88],[100,100,88,88],[100,100,100,100,45,88,88],[100,100,100,100,45,100,100,45,88,88],[100,100,100,100,45,88,88,45,88,88]]:List (aa))=kn from rfl,zB];simp only [QV,Gt h,Bool.not_not];unfold lvl simB;rw [show (List.any u λx=>isLv x)=u.any isLv from rfl];generalize (hasX x.2.2.1||(hasX x.2.2.2.2.2.1||hasX x.2.2.2.2.2.2.1))=X;generalize kn.contains ((wy u).map dgC)=F;cases u.any isLv
 ·simp only [af,bz,aE];by_cases b:24<seT x
  ·rw [ae b,aq (show 0<seT x by omega),aq (show seT x>=25 by omega)];rfl
  ·rw [ab b,ar (show ¬seT x>=25 by omega)];have a:(cond (decide (u.head?=some 45)) (some (1:Int)) (cond (decide (u.head?=some 89)) (some 1) (cond (!decide (k=0)) (some 1) (cond (decide (0<seT x)) (some 1) (cond X (some 1) (some 0))))))=some (if decide (k≠0)=true\/X=true\/0<seT x\/u.head?=some 45\/u.head?=some 89 then 1 else 0):=by
    by_cases a1:u.head?=some 45
    ·rw [aq a1,ae (by simp [a1])];rfl
    rw [ar a1];by_cases a2:u.head?=some 89
    ·rw [aq a2,ae (by simp [a2])];rfl
    rw [ar a2];by_cases e:k=0
    ·rw [aq e];by_cases d:0<seT x
     ·rw [aq d,ae (by simp [d])];rfl
     rw [ar d];cases X
     ·rw [ab (by simp [a1,a2,e,d])];rfl
     ·rw [ae (by simp)];rfl
    ·rw [ar e,ae (by simp [e])];rfl
   cases X
   ·simp only [af,yT,bz,aE];simp only [af,bz] at a;rw [<-a];cases decide (0<seT x)<;>rfl
   ·cases F
    ·cases decide (0<seT x)<;>rfl
    ·simp only [ah,du,af,Ao,bz,aE];simp only [ah] at a;rw [<-a];cases decide (0<seT x)<;>rfl
 ·rfl
def Ee:aa->Int->Int->Option (Int×Int)
 | [],x,m=>some (x,m)
 | c::r,x,m=>if c=69\/c=83\/(isMk c=true/\r≠[]) then none else Ee r (if c=88 then 1 else x) (if isMk c=true then 1 else m)
theorem YY (c:UInt8):eN 20000000 ((c.toNat:Nat):Int)=some ((mkOf c:Nat):Int):=(FN 19999700 c).2
theorem Qc (c:UInt8):decide (((mkOf c:Nat):Int)>0)=isMk c:=by
 unfold isMk;by_cases h:0<mkOf c
 ·rw [aq h,aq (by omega)]
 ·rw [ar h,ar (by omega)]
theorem Nw {T:aa} (u:T.length<=1000) (x:TD):∀(r i:Nat) (a m:Int),i+r=T.length->∀N,r<N->
  aw (dQ 20000000) N (T,a,m,(i:Int),x)=some (match Ee (T.drop i) a m with | some p=>.inr (T,p.1,p.2,x) | none=>.inl 2):=by
 intro r
 induction r with
 | zero=>
  intro i a m hi N t;obtain ⟨N,rfl⟩:∃k,N=k+1:=⟨N - 1,by omega⟩;obtain rfl:i=T.length:=by omega
  have:dQ 20000000 (T,a,m,((T.length:Nat):Int),x)=some (.inr (.inr (T,a,m,x))):=by
   unfold dQ;simp only [u5,u4,u3,u2];rw [ar (show ¬((T.length:Nat):Int)<len T by show ¬((T.length:Nat):Int)<((T.length:Nat):Int);omega)];rfl
  rw [aw,this,yb];rfl
 | succ r ih=>
  intro i a m hi N t;obtain ⟨N,rfl⟩:∃k,N=k+1:=⟨N - 1,by omega⟩;have d:i<T.length:=by omega
  have q:T[i]?=some T[i]:=aT d;rw [aw,rP d,Ee];generalize T[i]=c at q ⊢;have o:T.drop (i+1)≠[]↔i+1<T.length:=by
   rw [ne_eq,List.drop_eq_nil_iff];omega
  have l:(((c.toNat:Nat):Int)==69)=decide (c=69):=sL c 69 (by decide);have g:(((c.toNat:Nat):Int)==83)=decide (c=83):=sL c 83 (by decide);have j:(((c.toNat:Nat):Int)==88)=decide (c=88):=sL c 88 (by decide);have s:w64 (len T - 1)=((T.length - 1:Nat):Int):=Gk (by omega) (by omega);have:dQ 20000000 (T,a,m,(i:Int),x)=some (if c=69\/c=83\/(isMk c=true/\T.drop (i+1)≠[]) then .inr (.inl 2) else .inl (T,(if c=88 then 1 else a),(if isMk c=true then 1 else m),((i+1:Nat):Int),x)):=by
   unfold dQ;simp only [u5,u4,u3,u2];rw [aq (show (i:Int)<len T by show (i:Int)<((T.length:Nat):Int);omega)];simp only [ah,ob,eJ q,l,g,j,YY,Qc,s];rw [pm (by omega)];by_cases e:c=69
   ·rw [aq e,ae (.inl e)];rfl
   rw [ar e];by_cases f:c=83
   ·rw [aq f,ae (.inr (.inl f))];rfl
   rw [ar f];simp only [af];cases v:isMk c
   ·rw [ab (by simp [e,f])];simp only [af,bz,aE];by_cases b:c=88
    ·rw [aq b,ae b];rfl
    ·rw [ar b,ab b];rfl
   ·simp only [ah,aM];by_cases n:i+1<T.length
    ·rw [aq (show (i:Int)<((T.length - 1:Nat):Int) by omega),ae (.inr (.inr ⟨trivial,o.2 n⟩))];rfl
    ·rw [ar (show ¬(i:Int)<((T.length - 1:Nat):Int) by omega),ab (by
      rintro (h | h | ⟨_,h⟩)
      ·exact e h
      ·exact f h
      ·exact n (o.1 h))]
     by_cases b:c=88
     ·rw [aq b,ae b];rfl
     ·rw [ar b,ab b];rfl
  rw [this];by_cases hc:c=69\/c=83\/(isMk c=true/\T.drop (i+1)≠[])
  ·rw [ae hc,ae hc]
  ·rw [ab hc,ab hc];exact ih (i+1) _ _ (by omega) N (by omega)
theorem Ea:∀(v:aa) (w:aa) (a:Int),w≠[]->Ee (v++w) a 0=if v.any isLv then none else Ee w (if v.any (·==88) then 1 else a) 0
 | [],w,a,_=>by simp
 | c::v,w,a,d=>by
  rw [eK,Ee,rh,rh];have e:v++w≠[]:=by
   intro h;exact d (List.append_eq_nil_iff.1 h).2
  by_cases hc:isLv c=true
  ·have:c=69\/c=83\/(isMk c=true/\v++w≠[]):=by
    unfold isLv at hc;simp only [ip,bp] at hc;rcases hc with h | h | h
    ·exact .inl h
    ·exact .inr (.inl h)
    ·exact .inr (.inr ⟨h,e⟩)
   rw [ae this,hc];simp
  ·have hc':isLv c=false:=by simpa using hc
   have f:c≠69/\c≠83/\isMk c=false:=by
    unfold isLv at hc';simp only [oV,aI] at hc';exact hc'
   rw [ab (by rintro (h | h | ⟨h,_⟩)<;>simp_all),f.2.2,hc'];simp only [bz,aE,oO];rw [Ea v w _ d];by_cases b:c=88
   ·subst b;simp
   ·rw [ab b,show (c==88)=false from by simp [b],oO]
theorem Wx {T u:aa} {k:Nat} (h:Body T u k):Ee T 0 0=if u.any isLv then none else some (if u.any (·==88) then 1 else 0,if k=0 then 0 else 1):=by
 obtain ⟨v,z,rfl,d⟩:=h.last;rw [h.eq,fQ,Ea v _ 0 (by simp)];rw [tw,tw];cases v.any isLv
 ·simp only [bz,aE,oO,rh,List.any_nil,yF,Gy];rw [Ee,d];by_cases a:z=69
  ·subst a;simp [isLv]
  by_cases b:z=83
  ·subst b;simp [isLv]
  have e:isLv z=false:=by unfold isLv;rw [d];simp [a,b]
  rw [ab (by simp [a,b]),e];simp only [bz,aE];have hx:(if z=88 then (1:Int) else if (v.any λx=>x==88)=true then 1 else 0)=if ((v.any λx=>x==88)||z==88)=true then 1 else 0:=by
   by_cases c:z=88
   ·subst c;simp
   ·rw [ab c,show (z==88)=false from by simp [c],yF]
  rw [hx];rcases (by have:=h.k4;omega:k=0\/k=1\/k=2\/k=3) with rfl | rfl | rfl | rfl<;>rfl
 ·simp
theorem yL (f:aa) (u:∀c∈f,c=100\/c=88\/c=45) (w:f.length<=1000) (t:aa):bg 20000000 t f=some (if t.map dgC=f then 1 else 0):=by
 unfold bg;rw [show (len t != len f)=!decide (t.length=f.length) from cD _ (natB _ _)];by_cases l:t.length=f.length
 case neg=>
  rw [ar l,ab (λh=>l (by rw [<-h];simp))];rfl
 rw [aq l];have loop:∀(r i:Nat),i+r=t.length->∀N,r<N->aw (fa 20000000) N (t,f,(i:Int))=some (if (t.drop i).map dgC=f.drop i then .inr () else .inl 0):=by
  intro r
  induction r with
  | zero=>
   intro i hi N v;obtain ⟨N,rfl⟩:∃k,N=k+1:=⟨N - 1,by omega⟩;obtain rfl:i=t.length:=by omega
   have:fa 20000000 (t,f,((t.length:Nat):Int))=some (.inr (.inr ())):=by
    unfold fa;simp only [u3,u2];rw [ar (show ¬((t.length:Nat):Int)<len t by show ¬((t.length:Nat):Int)<((t.length:Nat):Int);omega)];rfl
   rw [aw,this,yb,l,yb];rfl
  | succ r ih=>
   intro i hi N v;obtain ⟨N,rfl⟩:∃k,N=k+1:=⟨N - 1,by omega⟩;have j:i<t.length:=by omega
   have g:i<f.length:=by omega
   have q:t[i]?=some t[i]:=aT j;have o:f[i]?=some f[i]:=aT g;have n:=u _ (Jg g);rw [aw,rP j,rP g,ge];generalize t[i]=c at q ⊢;generalize f[i]=d at o n ⊢;have a:(dgC c=d)↔(c=d\/(d=100/\be c=true)):=by
    unfold dgC;by_cases h:be c=true
    ·rw [ae h];constructor
     ·intro e;exact .inr ⟨e.symm,h⟩
     ·rintro (e | ⟨e,_⟩)
      ·subst e;rcases n with rfl | rfl | rfl
       ·rfl
       ·exact absurd h (by decide)
       ·exact absurd h (by decide)
      ·exact e.symm
    ·rw [ab h];constructor
     ·intro e;exact .inl e
     ·rintro (e | ⟨_,e⟩)
      ·exact e
      ·exact absurd e h
   have b:be c=(decide (48<=c.toNat)&&decide (c.toNat<=57)):=by
    have:=ja (λc=>be c==(decide (48<=c.toNat)&&decide (c.toNat<=57))) (by decide +kernel) c;simpa using this
   have:fa 20000000 (t,f,(i:Int))=some (if dgC c=d then .inl (t,f,((i+1:Nat):Int)) else .inr (.inl 0)):=by
    unfold fa;simp only [u3,u2];rw [aq (show (i:Int)<len t by show (i:Int)<((t.length:Nat):Int);omega)];simp only [ah,ob,eJ q,eJ o];rw [pm (by omega),show (((c.toNat:Nat):Int) != ((d.toNat:Nat):Int))=!(c==d) from cD _ (oz c d),show (((d.toNat:Nat):Int)==100)=decide (d=100) from sL d 100 (by decide)];by_cases e:c=d
    ·rw [ae (a.2 (.inl e)),show (c==d)=true from by simp [e]];rfl
    ·rw [show (c==d)=false from by simp [e]];by_cases m:d=100
     ·rw [aq m];simp only [jx,ah];by_cases p:48<=c.toNat
      ·rw [aq (show ((c.toNat:Nat):Int)>=48 by omega)];by_cases s:c.toNat<=57
       ·rw [aq (show ((c.toNat:Nat):Int)<=57 by omega),ae (a.2 (.inr ⟨m,by rw [b];simp [p,s]⟩))];rfl
       ·rw [ar (show ¬((c.toNat:Nat):Int)<=57 by omega),ab (λh=>by
         rcases a.1 h with h | ⟨_,h⟩
         ·exact e h
         ·rw [b] at h;simp [s] at h)];rfl
      ·rw [ar (show ¬((c.toNat:Nat):Int)>=48 by omega),ab (λh=>by
        rcases a.1 h with h | ⟨_,h⟩
        ·exact e h
        ·rw [b] at h;simp [p] at h)];rfl
     ·rw [ar m,ab (λh=>by
       rcases a.1 h with h | ⟨h,_⟩
       ·exact e h
       ·exact m h)];rfl
   rw [this];by_cases e:dgC c=d
   ·rw [ae e];simp only [];rw [ih (i+1) (by omega) N (by omega),e];simp
   ·rw [ab e,ab (λh=>e (List.cons.inj h).1)]
 have:=loop t.length 0 (by omega) 20000000 (by omega);rw [show ((0:Nat):Int)=0 from rfl,cU,cU] at this;rw [this];split<;>rfl
theorem KQ (t:aa):(w64 ((w64 ((w64 ((w64 ((if t.map dgC=[100,100,100,88] then (1:Int) else 0)+(if t.map dgC=[100,100,88,88] then (1:Int) else 0)))+(if t.map dgC=[100,100,100,100,45,88,88] then (1:Int) else 0)))+(if t.map dgC=[100,100,100,100,45,100,100,45,88,88] then (1:Int) else 0)))+(if t.map dgC=[100,100,100,100,45,88,88,45,88,88] then (1:Int) else 0))==0)=!simB t:=by
 unfold simB kn;simp only [List.contains_cons,List.contains_nil,yF];have e:∀f:aa,(t.map dgC=f)=((t.map dgC==f)=true):=λf=>by simp
 simp only [e];generalize (t.map dgC==[100,100,100,88])=z1;generalize (t.map dgC==[100,100,88,88])=z2;generalize (t.map dgC==[100,100,100,100,45,88,88])=b;generalize (t.map dgC==[100,100,100,100,45,100,100,45,88,88])=c;generalize (t.map dgC==[100,100,100,100,45,88,88,45,88,88])=a;cases z1<;>cases z2<;>cases b<;>cases c<;>cases a<;>rfl
theorem Yi (t:aa):bg 20000000 t [100,100,100,88]=some (if t.map dgC=[100,100,100,88] then 1 else 0):=yL _ (by decide) (by decide) t
theorem Wg (t:aa):bg 20000000 t [100,100,88,88]=some (if t.map dgC=[100,100,88,88] then 1 else 0):=yL _ (by decide) (by decide) t
theorem YH (t:aa):bg 20000000 t [100,100,100,100,45,88,88]=some (if t.map dgC=[100,100,100,100,45,88,88] then 1 else 0):=yL _ (by decide) (by decide) t
theorem Xs (t:aa):bg 20000000 t [100,100,100,100,45,100,100,45,88,88]=some (if t.map dgC=[100,100,100,100,45,100,100,45,88,88] then 1 else 0):=yL _ (by decide) (by decide) t
theorem Xx (t:aa):bg 20000000 t [100,100,100,100,45,88,88,45,88,88]=some (if t.map dgC=[100,100,100,100,45,88,88,45,88,88] then 1 else 0):=yL _ (by decide) (by decide) t
theorem UJ {T u:aa} {k:Nat} (h:Body T u k) {g l:Bool} {dg:aa} {e q:Nat} {m d:aa} {M P:Nat×Nat×Nat} {p:Nat} (F:sj T 0=.inr (g,l,dg,e,q,m,d,M,P,p)):
  og 20000000 T=some (lvl u (decide (k≠0)) (u.any (·==88)) (sea m)):=by
 have G:=h.len;obtain ⟨Q,_,D⟩:=Gx 19999700 T 0 (by omega) (by omega) (by omega);rw [show 19999700+300=20000000 from rfl,F,show ((0:Nat):Int)=0 from rfl] at D;have o:=Nw G (g,l,dg,(e:Int),(q:Int),m,d,(M.1:Int),(M.2.1:Int),(M.2.2:Int)) T.length 0 0 0 (by omega) 20000000 (by omega);rw [show ((0:Nat):Int)=0 from rfl,cU,Wx h] at o;unfold og;rw [D];simp only [ob,XE];rw [show aw (dQ 20000000) 20000000 (T,0,0,0,iF (g,l,dg,(e:Int),(q:Int),m,d,(M.1:Int),(M.2.1:Int),(M.2.2:Int),Q,T,(p:Int),(0:Int)))=_ from o];have B:∃c r,u=c::r:=by
  cases f:u with
  | nil=>exact absurd f h.ne
  | cons c r=>exact ⟨c,r,rfl⟩
 have w:ap10 (aN 20000000) (iF (g,l,dg,(e:Int),(q:Int),m,d,(M.1:Int),(M.2.1:Int),(M.2.2:Int),Q,T,(p:Int),(0:Int)))=some (sea m):=rsT _;unfold lvl;cases u.any isLv
 case true=>rfl
 simp only [bz,aE,obs,sm,ob,u4,u3,u2];rw [w];simp only [ob];by_cases b:24<sea m
 ·rw [ae b,show decide (sea m>24)=true from aq b];rfl
 rw [ab b,show decide (sea m>24)=false from ar b,af];have J:=h.k4;have t:=cD List.length h.eq;rw [aO] at t;have s:bx (List.length T) (w64 ((len T) - (if k=0 then (0:Int) else 1)))=some u.length:=by
  have:w64 ((len T) - (if k=0 then (0:Int) else 1))=((u.length:Nat):Int):=by
   have I:len T=((T.length:Nat):Int):=rfl;rw [I,t];show IntKind.wrap .i64 _=_;rw [wrap_i64 _ (by split<;>omega) (by split<;>omega)];rcases (by omega:k=0\/k=1\/k=2\/k=3) with rfl | rfl | rfl | rfl<;>simp [mt]
  rw [this,cT (by omega)]
 have A:List.take u.length T=u:=by rw [h.eq,BB]
 rw [s];simp only [cU,A];obtain ⟨c,r,f⟩:=B;have v:sx u (0:Int)=some c:=by rw [f];rfl
 have z:sx T (0:Int)=some c:=by rw [h.eq,f];rfl
 have n:wy u=if c=45 then r else u:=by rw [f];rfl
 have K:u.head?=some c:=by rw [f];rfl
 have b1:bx u.length (1:Int)=some 1:=cT (i:=1) (by rw [f];simp);have y:List.drop 1 (List.take u.length u)=r:=by rw [nq,f];rfl
 rw [v,z,b1];simp only [y,ob,Yi,Wg,YH,Xs,Xx,KQ];rw [show (((c.toNat:Nat):Int)==45)=decide (c=45) from sL c 45 (by decide),show (((c.toNat:Nat):Int)==89)=decide (c=89) from sL c 89 (by decide),K];have a:(cond ((if (u.any λx=>x==88)=true then (1:Int) else 0)==1) (some (1:Int)) (cond ((if k=0 then (0:Int) else 1)==1) (some 1) (cond (decide (sea m>0)) (some 1) (cond (decide (c=45)) (some 1) (cond (decide (c=89)) (some 1) (some 0)))))) =
   some (if decide (k≠0)=true\/(u.any λx=>x==88)=true\/0<sea m\/some c=some 45\/some c=some 89 then 1 else 0):=by
  cases (u.any λx=>x==88)
  ·by_cases a1:k=0
   ·by_cases a2:0<sea m
    ·simp [a1,a2]
    ·by_cases E:c=45
     ·simp [a1,a2,E]
     ·by_cases C:c=89
      ·simp [a1,a2,C]
      ·simp [a1,a2,E,C]
   ·simp [a1]
  ·simp
 by_cases hc:c=45
 ·rw [aq hc,ah];rw [n,ae hc];rw [aq hc] at a;cases j:(u.any λx=>x==88)
  ·rw [j] at a;simp only [yT,bz,aE,show ((0:Int)==1)=false from rfl,af] at a ⊢;exact a
  ·rw [j] at a;cases H:simB r
   ·simp
   ·simp only [aM,show ((1:Int)==1)=true from rfl,ah,af,du,Ao,bz,aE] at a ⊢;exact a
 ·rw [ar hc,af];rw [n,ab hc];rw [ar hc] at a;cases j:(u.any λx=>x==88)
  ·rw [j] at a;simp only [yT,bz,aE,show ((0:Int)==1)=false from rfl,af] at a ⊢;exact a
  ·rw [j] at a;cases H:simB u
   ·simp
   ·simp only [aM,show ((1:Int)==1)=true from rfl,ah,af,du,Ao,bz,aE] at a ⊢;exact a
theorem qW {k:Nat} (h:k<4):(mt k).all okC=true:=by
 rcases (by omega:k=0\/k=1\/k=2\/k=3) with rfl | rfl | rfl | rfl<;>decide
theorem x_mk {k:Nat} (h:k<4):(mt k).any (·==88)=false:=by
 rcases (by omega:k=0\/k=1\/k=2\/k=3) with rfl | rfl | rfl | rfl<;>decide
theorem Yn:((List.range 100).all λk=>(Lib.decDigits k).all λc=>okC c&&(!isMk c&&!(c==88)))=true:=by decide +kernel
theorem Et {k:Nat} (h:k<100) {letter:UInt8} (a:letter=69\/letter=83):(eI letter k).all (λc=>okC c&&(!isMk c&&!(c==88)))=true:=by
 unfold eI;split
 ·rw [nz,(bW.1 Yn) k (jA.2 h)];rcases a with rfl | rfl<;>decide
 ·rfl
theorem N4 {c:UInt8} (h:isDX c=true):okC c=true:=by unfold okC;rw [h];rfl
theorem xB {g l:Bool} {dg:aa} {x q:Nat} (h:okY g l dg (x:Int) (q:Int)):gQ g l dg (x:Int) (q:Int)≠[]/\(∀c∈gQ g l dg (x:Int) (q:Int),okC c=true/\isMk c=false)/\(gQ g l dg (x:Int) (q:Int)).any (·==88)=hasX dg:=by
 obtain ⟨k,o,n,p,f,m⟩:=iN h;have hx:x<100:=by omega
 have e:q<100:=by omega
 have d:=Et hx (letter:=69) (.inl rfl);have a:=Et e (letter:=83) (.inr rfl);have b:=O4 h;have i:dg≠[]:=by
  rintro rfl;simp at f
 rw [kM];refine ⟨by cases l<;>cases g<;>simp [i],λc hc=>?_,?_⟩
 ·simp only [lg,or_assoc] at hc;rcases hc with hc | hc | hc | hc | hc
  ·cases l
   ·cases hc
   ·rw [uf.1 hc];decide
  ·cases g
   ·cases hc
   ·rw [uf.1 hc];decide
  ·exact ⟨N4 (b c hc),JO (b c hc)⟩
  ·have:=(bW.1 d) c hc;simp only [az,jW] at this;exact ⟨this.1,this.2.1⟩
  ·have:=(bW.1 a) c hc;simp only [az,jW] at this;exact ⟨this.1,this.2.1⟩
 ·have no:∀w:aa,w.all (λc=>okC c&&(!isMk c&&!(c==88)))=true->w.any (·==88)=false:=by
   intro w j;rw [ta];intro c hc;have:=(bW.1 j) c hc;simp only [az,jW] at this;rw [this.2.2];simp
  simp only [tw,no _ d,no _ a,yF];unfold hasX;cases l<;>cases g<;>simp
theorem G1 {w:aa} (h:w≠[]) (a:∀c∈w,isMk c=false) (v:aa):∃b z,v++w=b++[z]/\isMk z=false:=
 ⟨v++w.dropLast,w.getLast h,by rw [fQ,List.dropLast_concat_getLast],a _ (List.getLast_mem h)⟩
theorem RO {A B:Nat×Nat×Nat} {g l:Bool} {dg:aa} {x q:Nat} {m d:aa} (hs:ShD g l dg x q m d) (K:MkD A B m d):
  ∃u k,Body (rawD A B g l dg (x:Int) (q:Int) m d) u k/\u.any (·==88)=(hasX dg||(hasX m||hasX d))/\(u.any isLv=false->A=(0,0,0)/\(m≠[]->B.1=0)/\(d≠[]->B.2.1=0))/\k=(if m=[] then B.1 else if d=[] then B.2.1 else B.2.2):=by
 obtain ⟨P,G,D⟩:=xB hs.yr;have yl:=vb hs.yr;obtain ⟨i,o,v⟩:=A;obtain ⟨n,r,E⟩:=B;obtain ⟨a0,a1,a2,b0,b1,b2,zm,zd⟩:=K;simp only at a0 a1 a2 b0 b1 b2 zm zd;unfold rawD cE;simp only;generalize gQ g l dg (x:Int) (q:Int)=Y at *;have b:∀w:aa,w.all okC=true->∀c∈w,c.toNat<128:=λw S c hc=>Xn ((bW.1 S) c hc);have y:Y.all okC=true:=bW.2 λc hc=>(G c hc).1;have j:∀k,k<4->(mt k).length<=1:=λk h=>by
  rcases (by omega:k=0\/k=1\/k=2\/k=3) with rfl | rfl | rfl | rfl<;>simp [mt]
 have R:=j i a0;have X:=j o a1;have T:=j v a2;have Q:=j n b0;have lb1:=j r b1;have W:=j E b2;have a:∀k,k<4->(mt k).any isLv=false->k=0:=λk h=>by
  rcases (by omega:k=0\/k=1\/k=2\/k=3) with rfl | rfl | rfl | rfl<;>decide
 have p:∀w:aa,w.any (λx=>x==88)=hasX w:=λw=>rfl;by_cases f:m=[]
 ·have e:d=[]:=hs.day.resolve_right (λz=>z.1 f);subst f e;obtain ⟨rfl,rfl⟩:=zm rfl;obtain ⟨rfl,rfl⟩:=zd rfl;simp only [aM,kR];refine ⟨mt i++Y,n,⟨rfl,b0,G1 P (λc hc=>(G c hc).2) _,b _ (by rw [EG,EG,qW a0,y,qW b0];rfl),by simp only [aO];omega⟩,?_,?_,rfl⟩
  ·rw [tw,x_mk a0,D];simp [hasX]
  ·intro h;rw [tw,oV] at h;exact ⟨by rw [a _ a0 h.1],λh=>absurd rfl h,λh=>absurd rfl h⟩
 ·obtain ⟨Z,mx⟩:=hs.mon.resolve_left f;have F:m.all okC=true:=bW.2 λc hc=>N4 (mx c hc);rw [ab f,ab f];by_cases e:d=[]
  ·subst e;obtain ⟨rfl,rfl⟩:=zd rfl;simp only [aM,kR];refine ⟨mt i++Y++mt n++(45::(mt o++m)),r,⟨by simp,b1,?_,b _ ?_,by simp only [aO,aC];omega⟩,?_,?_,rfl⟩
   ·have:=G1 f (λc hc=>JO (mx c hc)) (mt i++Y++mt n++(45::mt o));simpa using this
   ·simp only [EG,nz,qW a0,y,qW b0,qW a1,F,qW b1,show okC 45=true from by decide];rfl
   ·simp only [tw,rh,x_mk a0,x_mk b0,x_mk a1,D];simp only [p];simp [hasX]
   ·intro h;simp only [tw,rh,oV] at h;obtain ⟨⟨⟨s,N⟩,C⟩,I,t,J⟩:=h;exact ⟨by rw [a _ a0 s,a _ a1 t],λ_=>a _ b0 C,λh=>absurd rfl h⟩
  ·obtain ⟨_,L,H⟩:=hs.day.resolve_left e;have U:d.all okC=true:=bW.2 λc hc=>N4 (H c hc);rw [ab e,ab e];refine ⟨mt i++Y++mt n++(45::(mt o++m++mt r))++(45::(mt v++d)),E,⟨by simp,b2,?_,b _ ?_,by simp only [aO,aC];omega⟩,?_,?_,rfl⟩
   ·have:=G1 e (λc hc=>JO (H c hc)) (mt i++Y++mt n++(45::(mt o++m++mt r))++(45::mt v));simpa using this
   ·simp only [EG,nz,qW a0,y,qW b0,qW a1,F,qW b1,qW a2,U,qW b2,show okC 45=true from by decide];rfl
   ·simp only [tw,rh,x_mk a0,x_mk b0,x_mk a1,x_mk b1,x_mk a2,D];simp only [p];simp [Bool.or_assoc]
   ·intro h;simp only [tw,rh,oV] at h;obtain ⟨⟨⟨⟨s,N⟩,C⟩,I,⟨t,J⟩,M⟩,h8,O,V⟩:=h;exact ⟨by rw [a _ a0 s,a _ a1 t,a _ a2 O],λ_=>a _ b0 C,λ_=>a _ b1 M⟩
def mkX (x:TD):Bool:=hasX x.2.2.1||(hasX x.2.2.2.2.2.1||hasX x.2.2.2.2.2.2.1)
def lvT (T:aa) (x:TD):Int:=lvl (Lib.trimRightS T [63,126,37]) (!(Lib.trimRightS T [63,126,37]==T)) (mkX x) (seT x)
theorem YX {T u:aa} {k:Nat} (h:Body T u k) {x:TD} (hs:smT x):l6 20000000 T x=some (lvT T x):=by
 rw [Zx h hs];unfold lvT mkX;rw [xj h,Gt h];simp
theorem TO {S:aa} {a:Nat} (h:a<=S.length) {r:DR} (o:fL S a=.inr r):∃A B u k,MkD A B (tdR r).2.2.2.2.2.1 (tdR r).2.2.2.2.2.2.1/\plR r=a+(mt A.1).length/\
  (S.drop a).take (enR r - a)=rawD A B r.1 r.2.1 r.2.2.1 (r.2.2.2.1:Int) (r.2.2.2.2.1:Int) r.2.2.2.2.2.1 r.2.2.2.2.2.2.1/\r.2.2.2.2.2.2.2.1=spM A B/\Body ((S.drop a).take (enR r - a)) u k/\
  l6 20000000 ((S.drop a).take (enR r - a)) (tdR r)=some (lvT ((S.drop a).take (enR r - a)) (tdR r))/\og 20000000 ((S.drop a).take (enR r - a))=some (lvT ((S.drop a).take (enR r - a)) (tdR r)):=by
 obtain ⟨p,q,v,F⟩:=oW h o;obtain ⟨t,_⟩:=I0 h o;obtain ⟨H,I,G,w,E,m',d',k0,k1,k2,f,ok⟩:=rN p q;obtain ⟨g,l,dg,x,s,m,d,M,P,e⟩:=r;have ok:ShD g l dg x s m d:=by
  unfold tdR at f;simp only [bM] at f;obtain ⟨rfl,rfl,rfl,hx,j,rfl,rfl,_⟩:=f;have hx:x=w:=by omega
  have j:s=E:=by omega
  subst hx j;exact ok.sh
 obtain ⟨A,B,mk,D,C,n⟩:=NA t;have z:(rawD A B g l dg (x:Int) (s:Int) m d).length=e - a:=by
  have:=cD List.length n;simp only [aO,bN] at this;have:a<=e:=v;have:e<=S.length:=F;omega
 have c:(S.drop a).take (e - a)=rawD A B g l dg (x:Int) (s:Int) m d:=by rw [n,<-z,BB]
 obtain ⟨u,k,b,y,_⟩:=RO ok mk;refine ⟨A,B,u,k,mk,C,c,D,by rw [show enR (g,l,dg,x,s,m,d,M,P,e)=e from rfl,c];exact b,?_,?_⟩
 ·rw [show enR (g,l,dg,x,s,m,d,M,P,e)=e from rfl,c];exact YX b p
 ·rw [show enR (g,l,dg,x,s,m,d,M,P,e)=e from rfl,c];obtain ⟨J,_,i⟩:=IM ok mk (S:=rawD A B g l dg (x:Int) (s:Int) m d) (a:=0) (post:=[]) (by simp) vL vL vL;rw [UJ b i,y];unfold lvT mkX;rw [xj b,Gt b];simp only [decide_not];rfl
def mx (a b:Int):Int:=if a>b then a else b
def lvR (S:aa) (p:Nat) (r:DR):Int:=lvT ((S.drop p).take (enR r - p)) (tdR r)
theorem O0 (u:aa) (b X:Bool) (c:Int):0<=lvl u b X c/\lvl u b X c<=2:=by
 unfold lvl
 repeat' split
 all_goals omega
theorem Lc (S:aa) (p:Nat) (r:DR):0<=lvR S p r/\lvR S p r<=2:=O0 _ _ _ _
theorem bcT {x:TD} (h:smT x) (K:Int):ap10 (iy 20000000 K) x=some (sw K x):=wZ h.1 h.2.1 h.2.2.1 h.2.2.2.1 h.2.2.2.2.1 h.2.2.2.2.2
theorem CG (n:Nat) (a:Int) (S:aa) (p:Int) (I:List TI) (K:Int) (D:TD) (KF:Int) (DF:TD) (KT:Int) (DT:TD) (e l:Bool) (lv:Int):
  cZ n a S p I K D KF DF KT DT e l lv=some (K,D,KF,DF,KT,DT,e,l,mx a lv):=by
 unfold cZ mx;rw [bE]
theorem OW (I:List TI) (K:Int) (D:TD) (KF:Int) (DF:TD) (KT:Int) (DT:TD) (e l:Bool) (lv:Int) {S:aa} {p:Nat} (h:p<=S.length) (c:S.length<100000):
  dF 20000000 I K D KF DF KT DT e l lv S (p:Int)=some (match fL S p with
   | .inl f=>.inl ((f.1:Int),(f.2.1:Int),K,D,KF,DF,KT,DT,e,l,lv,S,(f.2.2:Int))
   | .inr r=>.inr (tdR r,((plR r:Nat):Int),K,D,KF,DF,KT,DT,e,l,mx (lvR S p r) lv,S,((enR r:Nat):Int))):=by
 unfold dF;rw [uX _ _ _ h,Gs S p h c];cases a:fL S p with
 | inl f=>rfl
 | inr r=>
  obtain ⟨j,i,k,d⟩:=oW h a;obtain ⟨_,_,_,_,_,_,_,_,_,b,_⟩:=TO h a;rw [DU];simp only [obs,sm,ob];rw [show (d4 (d8 ((tdR r).1,(tdR r).2.1,(tdR r).2.2.1,(tdR r).2.2.2.1,(tdR r).2.2.2.2.1,(tdR r).2.2.2.2.2.1,(tdR r).2.2.2.2.2.2.1,(tdR r).2.2.2.2.2.2.2.1,(tdR r).2.2.2.2.2.2.2.2.1,(tdR r).2.2.2.2.2.2.2.2.2,((plR r:Nat):Int),S,((enR r:Nat):Int))))=((enR r:Nat):Int) from rfl,uX _ _ _ d];simp only [];have g:w64 (len (S.drop p) - len (S.drop (enR r)))=((enR r - p:Nat):Int):=by
   show IntKind.wrap .i64 (((S.drop p).length:Int) - ((S.drop (enR r)).length:Int))=_;rw [bN,bN,wrap_i64 _ (by omega) (by omega)];omega
  rw [g,cT (by rw [bN];omega)];simp only [cU];rw [show l6 20000000 ((S.drop p).take (enR r - p)) (iF ((tdR r).1,(tdR r).2.1,(tdR r).2.2.1,(tdR r).2.2.2.1,(tdR r).2.2.2.2.1,(tdR r).2.2.2.2.2.1,(tdR r).2.2.2.2.2.2.1,(tdR r).2.2.2.2.2.2.2.1,(tdR r).2.2.2.2.2.2.2.2.1,(tdR r).2.2.2.2.2.2.2.2.2,((plR r:Nat):Int),S,((enR r:Nat):Int)))=_ from b];simp only [CG,u9,u8,u7,u6,u5,u4,u3,u2];rfl
theorem Jv {x:TD} (h:smT x) (hc:cF x=0) (a K:Int) (D:TD) (KF:Int) (DF:TD) (KT:Int) (DT:TD) (e l:Bool) (lv:Int) (S:aa) (p:Int) (I:List TI):
  cY 20000000 x a K D KF DF KT DT e l lv S p I=some (if exT x=true then .inr (1,x) else .inl (a,11)):=by
 unfold cY;rw [bcT h,GY,ae hc];cases exT x<;>rfl
noncomputable def toP (S:aa) (p:Nat) (KF:Int) (DF:TD) (lv:Int):(Nat×Nat)⊕(Int×TD×Int×Nat):=
 if KF=1/\p=S.length then .inr (3,d0,mx 1 lv,p)
 else if KF=1/\dts (S.drop p)=true then .inr (2,d0,mx 1 lv,p+2)
 else match fL S p with
  | .inl f=>.inl (f.1,f.2.1)
  | .inr r=>if exT (tdR r)=true then (if enR r<S.length\/nP KF DF 1 (tdR r)=0 then .inr (1,tdR r,mx (lvR S p r) (if KF=1 then lv else mx 1 lv),enR r) else .inl (plR r,11)) else .inl (plR r,11)
def XU (S:aa) (D:TD) (KF:Int) (DF:TD) (e l:Bool):(Nat×Nat)⊕(Int×TD×Int×Nat)->(Int×TD×Int×TD×Int×TD×Bool×Bool×Int×aa×Int)⊕(Int×Int×Int×TD×Int×TD×Int×TD×Bool×Bool×Int×aa×Int)->Prop
 | .inl f,y=>∃z,y=.inr ((f.1:Int),(f.2:Int),z)
 | .inr (KT,DT,lv,p),y=>y=.inl (2,D,KF,DF,KT,DT,e,l,lv,S,(p:Int))
theorem Hu {S:aa} {p:Nat} (h:p<=S.length):(peek (S.drop p)).2=decide (p<S.length):=by
 by_cases hp:p<S.length
 ·rw [aq hp,cr (aT hp)];rfl
 ·rw [ar hp,jt (by omega)];rfl
theorem Uw (I:List TI) (K:Int) {DF:TD} (R:smT DF) (KF:Int) (lv:Int) {S:aa} {p:Nat} (h:p<=S.length) (hS:S.length<100000):
  ∃y,fO 20000000 I K d0 KF DF 0 d0 false false lv S (p:Int)=some y/\XU S d0 KF DF false false (toP S p KF DF lv) y:=by
 have s:∀(o:Int) (t:o=if KF=1 then lv else mx 1 lv) (X:¬(KF=1/\p=S.length)) (m:¬(KF=1/\dts (S.drop p)=true)),∃y,(obs (dF 20000000 I 2 d0 KF DF 0 d0 false false o S (p:Int)) (u13 λT B O N U P x C M E Q z V=>(some (.inr (T,B,O,N,U,P,x,C,M,E,Q,z,V)))) (u13 λJ w e k c d u v i g j b a=>(obs (cY 20000000 J w e k c d u v i g j b a I) (u2 λL D=>(some (.inr (L,D,e,k,c,d,u,v,i,g,j,b,a)))) (u2 λn l=>(ob (bj 20000000 b a) (u2 λ_ W=>(cond (!W) (ob (ap10 (ap10 (iJ 20000000 c) d n) l) λA=>(cond (A != 0) (ob (aR 20000000 w 11 b a) (u2 λF G=>(some (.inr (F,G,e,k,c,d,n,l,i,g,j,b,a))))) (some (.inl (e,k,c,d,n,l,i,g,j,b,a))))) (some (.inl (e,k,c,d,n,l,i,g,j,b,a))))))))))=some y/\XU S d0 KF DF false false (toP S p KF DF lv) y:=by
  intro o t X m;unfold toP;rw [OW I 2 d0 KF DF 0 d0 false false o h hS,ab X,ab m];cases hr:fL S p with
  | inl f=>exact ⟨_,rfl,_,rfl⟩
  | inr r=>
   obtain ⟨Z,c1,l1,Y⟩:=oW h hr;simp only [obs,sm,ob,u13,u12,u11,u10,u9,u8,u7,u6,u5,u4,u3,u2];rw [Jv Z c1];cases hx:exT (tdR r)
   ·exact ⟨_,rfl,_,rfl⟩
   ·simp only [aM,qO _ _ _ Y,Hu Y];by_cases H:enR r<S.length
    ·rw [aq H,ae (.inl H)];exact ⟨_,rfl,by rw [<-t];rfl⟩
    ·rw [ar H];simp only [jx,ah];rw [OI R Z];simp only [];by_cases hp:nP KF DF 1 (tdR r)=0
     ·rw [ae (.inr hp),show (nP KF DF 1 (tdR r) != 0)=false from by simp [hp]];exact ⟨_,rfl,by rw [<-t];rfl⟩
     ·rw [ab (by rintro (h | h)<;>contradiction),show (nP KF DF 1 (tdR r) != 0)=true from by simp [hp]];exact ⟨_,rfl,_,rfl⟩
 unfold fO;by_cases q:KF=1
 ·rw [show (KF==1)=true from by simp [q],ah,qO _ _ _ h];simp only [ob,u2,Hu h,CG];by_cases hp:p<S.length
  ·rw [aq hp];simp only [du,af];rw [nF _ _ _ _ h (by omega)];cases m:dts (S.drop p)
   ·rw [ab (show ¬(S.drop p).take [(46:UInt8),46].length=[46,46] from λh=>by unfold dts at m;rw [show (S.drop p).take 2=[46,46] from h] at m;cases m)];exact s lv (by rw [ae q]) (by omega) (by rw [m];simp)
   ·rw [ae (show (S.drop p).take [(46:UInt8),46].length=[46,46] from eq_of_beq m)];refine ⟨_,rfl,?_⟩;unfold toP;rw [ab (by omega),ae ⟨q,m⟩];rfl
  ·rw [ar hp];refine ⟨_,rfl,?_⟩;unfold toP;rw [ae ⟨q,by omega⟩];rfl
 ·rw [show (KF==1)=false from by simp [q],af,CG];simp only [ob,u9,u8,u7,u6,u5,u4,u3,u2];exact s (mx 1 lv) (by rw [ab q]) (by simp [q]) (by simp [q])
noncomputable def toX (S:aa) (p:Nat) (KF:Int) (DF:TD) (lv:Int):(Nat×Nat)⊕(Int×TD×Int):=match toP S p KF DF lv with
 | .inl f=>.inl f
 | .inr (KT,DT,L,q)=>if q<S.length then .inl (q,5) else .inr (KT,DT,L)
noncomputable def lQ (S:aa):(Nat×Nat)⊕(Int×TD×Int×TD×Int×TD×Int)⊕(Int×Bool×Bool×List TI):=
 if S.head?=some 91\/S.head?=some 123 then (match Hy S with | .inl f=>.inl f | .inr q=>.inr (.inr q))
 else if S.head?=some 47 then (match toX S 1 3 d0 0 with | .inl f=>.inl f | .inr (KT,DT,L)=>.inr (.inl (2,d0,3,d0,KT,DT,L)))
 else if dts S=true then (if (S.drop 2).head?=some 47 then (match toX S 3 2 d0 0 with | .inl f=>.inl f | .inr (KT,DT,L)=>.inr (.inl (2,d0,2,d0,KT,DT,L))) else .inl (2,5))
 else match fL S 0 with
  | .inl f=>.inl (f.1,f.2.1)
  | .inr r=>if (S.drop (enR r)).head?=some 47 then (if exT (tdR r)=true then (match toX S (enR r+1) 1 (tdR r) (lvR S 0 r) with | .inl f=>.inl f | .inr (KT,DT,L)=>.inr (.inl (2,d0,1,tdR r,KT,DT,L))) else .inl (plR r,11))
   else if enR r<S.length then .inl (enR r,5) else .inr (.inl (1,tdR r,0,d0,0,d0,lvR S 0 r))
def J7:(Nat×Nat)⊕(Int×TD×Int×TD×Int×TD×Int)⊕(Int×Bool×Bool×List TI)->(Int×TD×Int×TD×Int×TD×Bool×Bool×Int×Int×Int×List TI)⊕(Int×TD×Int×TD×Int×TD×Nat×Nat×Bool×Bool×Int×Int×Int×List TI)
 | .inl f=>.inl (0,d0,0,d0,0,d0,false,false,0,(f.1:Int),(f.2:Int),[])
 | .inr (.inl (K,D,KF,DF,KT,DT,L))=>.inl (K,D,KF,DF,KT,DT,false,false,L,0,0,[])
 | .inr (.inr (K,e,l,I))=>.inr (K,d0,0,d0,0,d0,I.length,I.length,e,l,2,0,0,I)
theorem yi {S:aa} {p:Nat} (h:p<=S.length) {f:Nat×Nat×Nat} (a:fL S p=.inl f):f.2.1≠0:=yJ (k:=f.1) (E:=f.2.1) (p:=f.2.2) h a
theorem GO {S:aa} {p:Nat} (h:p<=S.length) {KF:Int} {DF:TD} {lv:Int} {f:Nat×Nat} (a:toP S p KF DF lv=.inl f):f.2≠0:=by
 unfold toP at a;split at a
 ·cases a
 ·split at a
  ·cases a
  ·cases b:fL S p with
   | inl g=>rw [b] at a;cases a;exact yi h b
   | inr r=>
    rw [b] at a;simp only [] at a;split at a
    ·split at a
     ·cases a
     ·cases a;simp
    ·cases a;simp
theorem D9 (l:aa) (c:UInt8) (hc:c≠0):((peek l).1==((c.toNat:Nat):Int))=decide (l.head?=some c):=by
 have:=Xa l c hc;cases l with
 | nil=>exact this
 | cons a r=>exact this
theorem I9 {S:aa} {p:Nat} (h:p<=S.length) (a:S.length<100000) (c:UInt8):aD 20000000 [c] S (p:Int)=some (decide ((S.drop p).head?=some c),S,((if (S.drop p).head?=some c then p+1 else p:Nat):Int)):=by
 rw [nF _ _ _ _ h (by omega)];simp only [tk1];by_cases hc:(S.drop p).head?=some c
 ·rw [ae hc,ae hc,aq hc];rfl
 ·rw [ab hc,ab hc,ar hc]
theorem OX {S:aa} {p:Nat} (h:p<=S.length) (b:S.length<100000):aD 20000000 [46,46] S (p:Int)=some (dts (S.drop p),S,((if dts (S.drop p)=true then p+2 else p:Nat):Int)):=by
 rw [nF _ _ _ _ h (by omega)];cases a:dts (S.drop p)
 ·rw [ab (show ¬(S.drop p).take [(46:UInt8),46].length=[46,46] from λh=>by unfold dts at a;rw [show (S.drop p).take 2=[46,46] from h] at a;cases a)];rfl
 ·rw [ae (show (S.drop p).take [(46:UInt8),46].length=[46,46] from eq_of_beq a)];rfl
theorem Kv {S:aa} {p:Nat} (h:p<=S.length) (c:S.length<100000):ch 20000000 [47] S (p:Int)=some (if (S.drop p).head?=some 47 then .inl (S,((p+1:Nat):Int)) else .inr ((p:Int),5,S,(p:Int))):=by
 rw [A6 _ _ _ _ h (by omega) (by simp) (by simp)];simp only [tk1];by_cases hc:(S.drop p).head?=some 47
 ·rw [ae hc,ae hc];rfl
 ·rw [ab hc,ab hc];have:lcp (S.drop p) [47]=0:=by
   cases b:S.drop p with
   | nil=>rfl
   | cons a r=>
    rw [b] at hc;simp only [lcp];rw [show (a==47)=false from by rw [aI];rintro rfl;exact hc rfl];rfl
  rw [this];rfl
def Yf (S:aa):(Nat×Nat)⊕(Int×TD×Int×TD×Int×TD×Int×Nat)⊕(Int×Bool×Bool×List TI×Nat)->((Int×Int×Int×TD×Int×TD×Int×TD×Bool×Bool×Int×aa×Int)⊕(Int×TD×Int×TD×Int×TD×Nat×Nat×Bool×Bool×Int×aa×Int×List TI)⊕(Int×TD×Int×TD×Int×TD×Bool×Bool×Int×aa×Int)⊕(Int×TD×Int×TD×Int×TD×Bool×Bool×Int×aa×Int×List TI))->Prop
 | .inl f,y=>∃z,y=.inl ((f.1:Int),(f.2:Int),z)
 | .inr (.inl (K,D,KF,DF,KT,DT,L,p)),y=>y=.inr (.inr (.inl (K,D,KF,DF,KT,DT,false,false,L,S,(p:Int))))\/y=.inr (.inr (.inr (K,D,KF,DF,KT,DT,false,false,L,S,(p:Int),[])))
 | .inr (.inr (K,e,l,I,p)),y=>y=.inr (.inl (K,d0,0,d0,0,d0,I.length,I.length,e,l,2,S,(p:Int),I))
noncomputable def BC (S:aa):(Nat×Nat)⊕(Int×TD×Int×TD×Int×TD×Int×Nat)⊕(Int×Bool×Bool×List TI×Nat):=
 if S.head?=some 91\/S.head?=some 123 then (match yd S 0 with | .inl f=>.inl (f.1,f.2.1) | .inr q=>.inr (.inr q))
 else if S.head?=some 47 then (match toP S 1 3 d0 0 with | .inl f=>.inl f | .inr (KT,DT,L,q)=>.inr (.inl (2,d0,3,d0,KT,DT,L,q)))
 else if dts S=true then (if (S.drop 2).head?=some 47 then (match toP S 3 2 d0 0 with | .inl f=>.inl f | .inr (KT,DT,L,q)=>.inr (.inl (2,d0,2,d0,KT,DT,L,q))) else .inl (2,5))
 else match fL S 0 with
  | .inl f=>.inl (f.1,f.2.1)
  | .inr r=>if (S.drop (enR r)).head?=some 47 then (if exT (tdR r)=true then (match toP S (enR r+1) 1 (tdR r) (lvR S 0 r) with | .inl f=>.inl f | .inr (KT,DT,L,q)=>.inr (.inl (2,d0,1,tdR r,KT,DT,L,q))) else .inl (plR r,11))
   else .inr (.inl (1,tdR r,0,d0,0,d0,lvR S 0 r,enR r))
theorem mx0 {a:Int} (h:0<=a):mx a 0=a:=by unfold mx;split<;>omega
theorem US {S:aa} (g:S.length<100000):∃y,iW 20000000 [] 0 d0 0 d0 0 d0 false false 0 S 0=some y/\Yf S (BC S) y:=by
 have z0:(0:Int)=((0:Nat):Int):=rfl;have O:=qO 20000000 S 0 (kE _);rw [cU,show ((0:Nat):Int)=0 from rfl] at O;have R:=UN (S:=S) (a:=0) (kE _) g;rw [show ((0:Nat):Int)=0 from rfl] at R;have P:=I9 (S:=S) (p:=0) (kE _) g 47;rw [cU,show ((0:Nat):Int)=0 from rfl] at P;have N:=OX (S:=S) (p:=0) (kE _) g;rw [cU,show ((0:Nat):Int)=0 from rfl] at N;have T:=OW [] 0 d0 0 d0 0 d0 false false 0 (S:=S) (p:=0) (kE _) g;rw [show ((0:Nat):Int)=0 from rfl] at T;have C:((peek S).1==91)=decide (S.head?=some 91):=D9 S 91 (by decide);have l:((peek S).1==123)=decide (S.head?=some 123):=D9 S 123 (by decide);have set:(S.head?=some 91\/S.head?=some 123)->∃y,(obs (nW 20000000 S 0) (u4 λv1 v2 X v4=>(some (.inl (v1,v2,0,d0,0,d0,0,d0,false,false,0,X,v4)))) (u13 λV Z v7 Y v9 A s J B v n k m=>(ob (f9 20000000 2 n k m V Z v7 Y v9 A s J B v 0) (u11 λt I H x K w D E M F u=>(some (.inr (.inl (t,I,H,x,K,w,D,E,M,F,u,n,k,m))))))))=some y/\Yf S (BC S) y:=by
  intro h;rw [R];unfold BC;rw [ae h];cases yd S 0 with
  | inl f=>exact ⟨_,rfl,_,rfl⟩
  | inr q=>exact ⟨_,rfl,rfl⟩
 unfold iW;rw [O];simp only [ob,u2,C,l];by_cases i:S.head?=some 91
 ·rw [aq i,ah];exact set (.inl i)
 rw [ar i,af];by_cases b:S.head?=some 123
 ·rw [aq b,ah];exact set (.inr b)
 rw [ar b,af,P];clear set;unfold BC;rw [ab (show ¬(S.head?=some 91\/S.head?=some 123) from λh=>h.elim i b)];simp only [u3,u2];by_cases e:S.head?=some 47
 ·simp only [aq e,ae e,ah];have G:1<=S.length:=by
   have:=od (S:=S) (p:=0) (c:=47) (by rw [cU];exact e);omega
  obtain ⟨y,o,d⟩:=Uw [] 0 oK 3 0 (S:=S) (p:=1) G g;rw [show (((0+1:Nat)):Int)=((1:Nat):Int) from rfl,o];cases j:toP S 1 3 d0 0 with
  | inl f=>
   rw [j] at d;obtain ⟨z,rfl⟩:=d;exact ⟨_,rfl,_,rfl⟩
  | inr q=>
   rw [j] at d;obtain ⟨KT,DT,L,q⟩:=q;subst d;exact ⟨_,rfl,.inl rfl⟩
 ·simp only [ar e,ab e,af];rw [show (((0:Nat)):Int)=0 from rfl,N];simp only [];cases W:dts S
  ·rw [ab (by simp),ab (by simp),af,show (((0:Nat)):Int)=0 from rfl,T];cases hr:fL S 0 with
   | inl f=>exact ⟨_,rfl,_,rfl⟩
   | inr r=>
    obtain ⟨Q,U,l1,l2⟩:=oW (kE _) hr;simp only [obs,sm,ob,u13,u12,u11,u10,u9,u8,u7,u6,u5,u4,u3,u2];rw [I9 l2 g,mx0 (Lc S 0 r).1];simp only [];by_cases hs:(S.drop (enR r)).head?=some 47
    ·simp only [aq hs,ae hs,du,af];rw [Jv Q U];cases hx:exT (tdR r)
     ·exact ⟨_,rfl,_,rfl⟩
     ·obtain ⟨y,o,d⟩:=Uw [] 0 Q 1 (lvR S 0 r) (S:=S) (p:=enR r+1) (od hs) g;simp only [aM];rw [o];cases j:toP S (enR r+1) 1 (tdR r) (lvR S 0 r) with
      | inl f=>
       rw [j] at d;obtain ⟨z,rfl⟩:=d;exact ⟨_,rfl,_,rfl⟩
      | inr q=>
       rw [j] at d;obtain ⟨KT,DT,L,q⟩:=q;subst d;exact ⟨_,rfl,.inl rfl⟩
    ·simp only [ar hs,ab hs];exact ⟨_,rfl,.inr rfl⟩
  ·rw [ae rfl,ae rfl,ah];have G:2<=S.length:=by
    have:=uT (S:=S) (p:=0) (by rw [cU];exact W);omega
   rw [show (((0+2:Nat)):Int)=((2:Nat):Int) from rfl,Kv G g];by_cases hs:(S.drop 2).head?=some 47
   ·simp only [ae hs];obtain ⟨y,o,d⟩:=Uw [] 0 oK 2 0 (S:=S) (p:=3) (od hs) g;rw [show (((2+1:Nat)):Int)=((3:Nat):Int) from rfl];simp only [obs,sm,ob,u2,o];cases j:toP S 3 2 d0 0 with
    | inl f=>
     rw [j] at d;obtain ⟨z,rfl⟩:=d;exact ⟨_,rfl,_,rfl⟩
    | inr q=>
     rw [j] at d;obtain ⟨KT,DT,L,q⟩:=q;subst d;exact ⟨_,rfl,.inl rfl⟩
   ·simp only [ab hs];exact ⟨_,rfl,_,rfl⟩
theorem MY {S:aa} {f:Nat×Nat} (a:BC S=.inl f):f.2≠0:=by
 unfold BC at a;split at a
 ·cases b:yd S 0 with
  | inl g=>rw [b] at a;cases a;exact Ph (kE _) b
  | inr q=>rw [b] at a;cases a
 ·split at a
  ·rename_i h;cases b:toP S 1 3 d0 0 with
   | inl g=>
    rw [b] at a;cases a;exact GO (od (S:=S) (p:=0) (by rw [cU];exact h)) b
   | inr q=>rw [b] at a;cases a
  ·split at a
   ·split at a
    ·rename_i h;cases b:toP S 3 2 d0 0 with
     | inl g=>rw [b] at a;cases a;exact GO (od h) b
     | inr q=>rw [b] at a;cases a
    ·cases a;simp
   ·cases b:fL S 0 with
    | inl g=>rw [b] at a;cases a;exact yi (kE _) b
    | inr r=>
     rw [b] at a;simp only [] at a;split at a
     ·rename_i h;split at a
      ·cases c:toP S (enR r+1) 1 (tdR r) (lvR S 0 r) with
       | inl g=>rw [c] at a;cases a;exact GO (od h) c
       | inr q=>rw [c] at a;cases a
      ·cases a;simp
     ·cases a
theorem G4 (S:aa):lQ S=match BC S with
  | .inl f=>.inl f
  | .inr (.inl (K,D,KF,DF,KT,DT,L,q))=>if q<S.length then .inl (q,5) else .inr (.inl (K,D,KF,DF,KT,DT,L))
  | .inr (.inr (K,e,l,I,q))=>if q<S.length then .inl (q,5) else .inr (.inr (K,e,l,I)):=by
 unfold lQ BC Hy toX;split
 ·cases yd S 0 with
  | inl f=>rfl
  | inr q=>
   obtain ⟨_,_,_,_,p⟩:=q;by_cases hp:p<S.length<;>simp [hp]
 ·split
  ·cases toP S 1 3 d0 0 with
   | inl f=>rfl
   | inr q=>
    obtain ⟨_,_,_,p⟩:=q;by_cases hp:p<S.length<;>simp [hp]
  ·split
   ·split
    ·cases toP S 3 2 d0 0 with
     | inl f=>rfl
     | inr q=>
      obtain ⟨_,_,_,p⟩:=q;by_cases hp:p<S.length<;>simp [hp]
    ·rfl
   ·cases fL S 0 with
    | inl f=>rfl
    | inr r=>
     simp only [];split
     ·split
      ·cases toP S (enR r+1) 1 (tdR r) (lvR S 0 r) with
       | inl f=>rfl
       | inr q=>
        obtain ⟨_,_,_,p⟩:=q;by_cases hp:p<S.length<;>simp [hp]
      ·rfl
     ·rfl
theorem IG {S:aa} (d:S.length<=16384):lk 20000000 S=some (J7 (lQ S)):=by
 obtain ⟨y,c,a⟩:=US (S:=S) (by omega);unfold lk ek;rw [show decide (len S>16384)=false from ar (by show ¬(16384:Int)<((S.length:Nat):Int);omega),af,c,G4];cases b:BC S with
 | inl f=>
  have g:=MY b;rw [b] at a;obtain ⟨z,rfl⟩:=a;simp only [obs,sm,ob,u13,u12,u11,u10,u9,u8,u7,u6,u5,u4,u3,u2];rw [show (((f.2:Nat):Int) != 0)=true from by simp;omega];rfl
 | inr q=>
  rw [b] at a;cases q with
  | inl q=>
   obtain ⟨K,D,KF,DF,KT,DT,L,p⟩:=q;simp only [];rcases a with rfl | rfl
   ·simp only [obs,sm,ob,u13,u12,u11,u10,u9,u8,u7,u6,u5,u4,u3,u2];by_cases hp:p<S.length
    ·rw [ae hp,aq (show (p:Int)<((S.length:Nat):Int) by omega)];rfl
    ·rw [ab hp,ar (show ¬(p:Int)<((S.length:Nat):Int) by omega)];rfl
   ·simp only [obs,sm,ob,u14,u13,u12,u11,u10,u9,u8,u7,u6,u5,u4,u3,u2];by_cases hp:p<S.length
    ·rw [ae hp,aq (show (p:Int)<((S.length:Nat):Int) by omega)];rfl
    ·rw [ab hp,ar (show ¬(p:Int)<((S.length:Nat):Int) by omega)];rfl
  | inr q=>
   obtain ⟨K,e,l,I,p⟩:=q;subst a;simp only [obs,sm,ob,u16,u15,u14,u13,u12,u11,u10,u9,u8,u7,u6,u5,u4,u3,u2];by_cases hp:p<S.length
   ·rw [ae hp,aq (show (p:Int)<((S.length:Nat):Int) by omega)];rfl
   ·rw [ab hp,ar (show ¬(p:Int)<((S.length:Nat):Int) by omega)];rfl
def lvX (x:TD):Int:=lvT (ig x) x
theorem O3 {x:TD} (hs:smT x) (hc:cF x=0):∃r,fL (ig x) 0=.inr r/\tdR r=x/\enR r=(ig x).length/\lvR (ig x) 0 r=lvX x:=by
 obtain ⟨r,d,c,b⟩:=Ak hs hc (S:=ig x) (a:=0) (post:=[]) (by simp) Jd;rw [dc] at b;refine ⟨r,d,c,b,?_⟩;unfold lvR lvX;rw [c,b,ub,cU,nq]
def kl (K:Int) (x:TD):aa:=if K=2 then [46,46] else if K=3 then [] else ig x
def okB (K:Int) (x:TD):Prop:=(K=1/\cF x=0/\exT x=true)\/((K=2\/K=3)/\x=d0)
theorem Sj {K:Int} {x:TD} (h:sw K x=0):okB K x:=by
 by_cases c:K=1
 ·subst c;obtain ⟨a,b⟩:=uh h;exact .inl ⟨rfl,a,b⟩
 ·unfold sw chkB at h;rw [ab c] at h;split at h
  ·rename_i d;split at h
   ·rename_i e;exact .inr ⟨d,jw.1 e⟩
   ·cases h
  ·cases h
theorem qc {KF KT:Int} {x y:TD} (h:nP KF x KT y=0):okB KF x/\okB KT y/\(KF=1\/KT=1):=by
 unfold nP F9 at h;by_cases b:sw KF x=0
 ·rw [ab (λz=>z b)] at h;by_cases a:sw KT y=0
  ·rw [ab (λz=>z a)] at h;split at h
   ·cases h
   ·rename_i c;exact ⟨Sj b,Sj a,by omega⟩
  ·rw [ae a] at h;exact absurd h a
 ·rw [ae b] at h;exact absurd h b
inductive RightP:Int->TD->Int->TD->Int->TD->Bool->Bool->List TI->Prop where
 | single {x:TD} (hs:smT x) (hc:cF x=0):RightP 1 x 0 d0 0 d0 false false []
 | interval {KF:Int} {x:TD} {KT:Int} {y:TD} (hx:smT x) (hy:smT y) (hp:nP KF x KT y=0):RightP 2 d0 KF x KT y false false []
 | set {K:Int} {e l:Bool} {I:List TI} (P:SetP K d0 0 d0 0 d0 e l I) (hs:∀t∈I,smI t):RightP K d0 0 d0 0 d0 e l I
theorem DO {k:Int} {D:TD} {KF:Int} {DF:TD} {KT:Int} {DT:TD} {e l:Bool} {I:List TI} (hs:smE D DF DT I) (h:(jb k D KF DF KT DT e l I).2=0):RightP k D KF DF KT DT e l I:=by
 by_cases g:k=3\/k=4
 ·have P:=Ec g h;obtain ⟨rfl,rfl,rfl,rfl,rfl⟩:D=d0/\KF=0/\DF=d0/\KT=0/\DT=d0:=⟨P.d,P.kf,P.df,P.kt,P.dt⟩;exact .set P hs.2.2.2
 ·unfold jb at h;split at h
  ·simp at h
  ·split at h
   ·simp at h
   ·rename_i o a;unfold unuB at a;generalize z1:eqD D d0=n at a;generalize z2:eqD DF d0=p at a;generalize m:eqD DT d0=q at a;by_cases k1:k=1
    ·subst k1;rw [ae rfl] at h;simp at a;obtain ⟨⟨⟨a1,a2⟩,c,b⟩,f,j,i⟩:=a;subst a1 c f j i;rw [jw.1 (z2.trans a2),jw.1 (m.trans b)];exact .single hs.1 h
    ·have k2:k=2:=by omega
     subst k2;rw [ab (by omega),ae rfl] at h;simp at a;obtain ⟨a1,a2,c,b⟩:=a;subst a2 c b;rw [jw.1 (z1.trans a1)];exact .interval hs.2.1 hs.2.2.1 h
def lO (k:Int) (D:TD) (KF:Int) (DF:TD) (KT:Int) (DT:TD) (e l:Bool) (I:List TI):aa:=
 if k=1 then ig D else if k=2 then kl KF DF++47::kl KT DT else sa k e l I
def lvE (k:Int) (D:TD) (KF:Int) (DF:TD) (KT:Int) (DT:TD):Int:=
 if k=1 then lvX D else if k=2 then mx (if KT=1 then lvX DT else 1) (if KF=1 then lvX DF else 1) else 2
def exOf (k:Int) (D:TD) (KF:Int) (DF:TD) (KT:Int) (DT:TD) (e l:Bool) (I:List TI) (L:Int):(Nat×Nat)⊕(Int×TD×Int×TD×Int×TD×Int)⊕(Int×Bool×Bool×List TI):=
 if k=1\/k=2 then .inr (.inl (k,D,KF,DF,KT,DT,L)) else .inr (.inr (k,e,l,I))
theorem Aw {x:TD} (hs:smT x) (hc:cF x=0) (r:aa) (c:UInt8) (a:brk c=true):(ig x++r).head?≠some c:=λh=>by
 have:=oc hs hc r c h;rw [a] at this;cases this
theorem Qu {x:TD} (hs:smT x) (hc:cF x=0):ig x≠[]:=by
 obtain ⟨g,l,dg,e,q,m,d,a,b,c,rfl,ok⟩:=rN hs hc;obtain ⟨f,_,_⟩:=xB ok.yr;intro h;have h:qj g l dg (e:Int) (q:Int) m d a b c=[]:=h;unfold qj cE at h;have:=cD List.length h;simp only [aO,bh] at this;exact f (tj (by omega))
theorem CS {KF:Int} {DF:TD} {KT:Int} {DT:TD} (hx:smT DF) (hy:smT DT) (hp:nP KF DF KT DT=0) {S:aa} {p:Nat} (n:p<=S.length) (h:S.drop p=kl KT DT) (lv:Int):
  toX S p KF DF lv=.inr (KT,DT,mx (if KT=1 then lvX DT else 1) (if KF=1 then lv else mx 1 lv)):=by
 obtain ⟨s,m,b1⟩:=qc hp;have b:=cD List.length h;rw [bN] at b;unfold toX toP;rcases m with ⟨rfl,hc,q⟩ | ⟨j,rfl⟩
 ·have f:kl 1 DT=ig DT:=by unfold kl;rw [ab (by omega),ab (by omega)]
  rw [f] at h b;have i:¬(KF=1/\p=S.length):=by
   rintro ⟨_,e⟩;exact Qu hy hc (tj (by omega))
  have d:¬(KF=1/\dts (S.drop p)=true):=by
   rintro ⟨_,e⟩;rw [h] at e;have:=oc hy hc [];rw [kR] at this;rw [sY this] at e;cases e
  obtain ⟨r,k,g,o⟩:=Ak hy hc (S:=S) (a:=p) (post:=[]) (by rw [h,kR]) Jd;rw [ab i,ab d,k];simp only [];rw [g,ae q,ae (.inr hp)];simp only [aM];rw [ab (by omega)];have:lvR S p r=lvX DT:=by
   unfold lvR lvX;rw [g,o,h];rw [show p+(ig DT).length - p=(ig DT).length by omega,nq]
  rw [this]
 ·have l:KF=1:=by omega
  subst l;rcases j with rfl | rfl
  ·have f:S.drop p=[46,46]:=h;have d:dts (S.drop p)=true:=by rw [f];rfl
   have t:=uT d;have c:(kl 2 d0).length=2:=rfl;rw [ab (by omega),ae ⟨rfl,d⟩];simp only [];rw [ab (by omega)];rfl
  ·have c:(kl 3 d0).length=0:=rfl;rw [ae ⟨rfl,by omega⟩];simp only [];rw [ab (by omega)];rfl
theorem Ej {x:TD} (hs:smT x) (hc:cF x=0):lQ (ig x)=.inr (.inl (1,x,0,d0,0,d0,lvX x)):=by
 obtain ⟨r,d,e,f,r4⟩:=O3 hs hc;have b:=oc hs hc [];rw [kR] at b;have a:=λc b=>Aw hs hc [] c b;rw [kR] at a;generalize ig x=T at *;unfold lQ;rw [ab (by rintro (h | h);exact a 91 (by decide) h;exact a 123 (by decide) h),ab (a 47 (by decide)),sY b,ab (by simp),d];simp only [];rw [f,yb,ab (by simp),ab (by omega),e,r4]
theorem KH {DF:TD} (hx:smT DF) (hc:cF DF=0) (n:exT DF=true) {KT:Int} {DT:TD} (hy:smT DT) (hp:nP 1 DF KT DT=0):lQ (ig DF++47::kl KT DT)=.inr (.inl (2,d0,1,DF,KT,DT,mx (if KT=1 then lvX DT else 1) (lvX DF))):=by
 have f:=oc hx hc (47::kl KT DT);have d:=λc f=>Aw hx hc (47::kl KT DT) c f;generalize b:ig DF++47::kl KT DT=S at *;obtain ⟨r,l,k,i⟩:=Ak hx hc (S:=S) (a:=0) (post:=47::kl KT DT) (by rw [cU,b]) (rz (by decide));rw [dc] at i;have e:S.drop (enR r)=47::kl KT DT:=by rw [i,<-b,List.drop_left]
 have o:S.drop (enR r+1)=kl KT DT:=by rw [<-jv,e];rfl
 have m:lvR S 0 r=lvX DF:=by
  unfold lvR lvX;rw [k,i,ub,cU,<-b,BB]
 have g:enR r+1<=S.length:=by
  have:=cD List.length e;rw [bN,aC] at this;omega
 have j:=CS hx hy hp g o (lvX DF);rw [ae rfl] at j;unfold lQ;rw [ab (by rintro (h | h);exact d 91 (by decide) h;exact d 123 (by decide) h),ab (d 47 (by decide)),sY f,ab (by simp),l];simp only [];rw [e,o5,ae rfl,k,ae n,m,j]
theorem J5 {DT:TD} (hy:smT DT) (hp:nP 2 d0 1 DT=0):lQ (46::46::47::ig DT)=.inr (.inl (2,d0,2,d0,1,DT,mx (lvX DT) 1)):=by
 have a:=CS oK hy hp (S:=46::46::47::ig DT) (p:=3) (by simp only [aC];omega) (by simp only [oM,cU];unfold kl;rw [ab (by omega),ab (by omega)]) 0;rw [ae rfl,ab (by omega)] at a;generalize ig DT=T at *;unfold lQ;rw [ab (by simp),ab (by simp)];have b:dts (46::46::47::T)=true:=rfl;rw [ae b,ae (by rfl),a];rfl
theorem OM {DT:TD} (hy:smT DT) (hp:nP 3 d0 1 DT=0):lQ (47::ig DT)=.inr (.inl (2,d0,3,d0,1,DT,mx (lvX DT) 1)):=by
 have a:=CS oK hy hp (S:=47::ig DT) (p:=1) (by simp only [aC];omega) (by simp only [oM,cU];unfold kl;rw [ab (by omega),ab (by omega)]) 0;rw [ae rfl,ab (by omega)] at a;generalize ig DT=T at *;unfold lQ;rw [ab (by simp),ae (by rfl),a];rfl
theorem xx {k:Int} {D:TD} {KF:Int} {DF:TD} {KT:Int} {DT:TD} {e l:Bool} {I:List TI} (h:RightP k D KF DF KT DT e l I):lQ (lO k D KF DF KT DT e l I)=exOf k D KF DF KT DT e l I (lvE k D KF DF KT DT):=by
 cases h with
 | single hs hc=>
  unfold lO exOf lvE;rw [ae (by omega),ae (by omega),ae (by omega),Ej hs hc]
 | interval hx hy hp=>
  obtain ⟨m,p,b1⟩:=qc hp;unfold lO exOf lvE;rw [ab (by omega),ae (by omega),ae (by omega),ab (by omega),ae (by omega)];rcases m with ⟨rfl,hc,o⟩ | ⟨d,rfl⟩
  ·have b:kl 1 DF=ig DF:=by unfold kl;rw [ab (by omega),ab (by omega)]
   rw [b,KH hx hc o hy hp,ae (show (1:Int)=1 from rfl)]
  ·have g:KT=1:=by omega
   subst g;have b:kl 1 DT=ig DT:=by unfold kl;rw [ab (by omega),ab (by omega)]
   rw [b,ae (show (1:Int)=1 from rfl),ab (by omega)];rcases d with rfl | rfl
   ·have j:kl 2 d0=[46,46]:=by unfold kl;rw [ae rfl]
    rw [j];exact J5 hy hp
   ·have n:kl 3 d0=[]:=by unfold kl;rw [ab (by omega),ae rfl]
    rw [n];exact OM hy hp
 | set P hs=>
  have ok:=λt b=>(I5 P hs t b).1;have d:=P.kind;have f:¬(k=1\/k=2):=by omega
  have c:lO k d0 0 d0 0 d0 e l I=sa k e l I:=by
   unfold lO;rw [ab (by omega),ab (by omega)]
  have a:∀L,exOf k d0 0 d0 0 d0 e l I L=.inr (.inr (k,e,l,I)):=λL=>by
   unfold exOf;rw [ab f]
  rw [c,a];have i:(sa k e l I).head?=some 91\/(sa k e l I).head?=some 123:=by
   unfold sa;rw [o5];split
   ·exact .inr rfl
   ·exact .inl rfl
  have hp:=JK d P.one P.most ok P.set;generalize sa k e l I=T at *;unfold lQ;rw [ae i,hp]
end Go.Sh
