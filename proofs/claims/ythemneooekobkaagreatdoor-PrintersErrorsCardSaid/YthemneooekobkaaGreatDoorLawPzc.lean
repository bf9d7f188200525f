
/- Plain proofs, kept as far as they are needed here (printed by prune.py).
   Conditions: none. -/
import Derived.Test.YthemneooekobkaaGreatDoorLawPzb
set_option linter.unusedVariables false
set_option linter.unusedSimpArgs false
set_option maxRecDepth 100000
namespace Go.Sh
open Go.Abs
theorem Tm {g l:Bool} {d:aa} {x s:Int} (h:okY g l d x s):okY g l d x 0:=by
 unfold okY at h ⊢;cases l with
 | true=>
  rw [ad rfl] at h ⊢;unfold okL at h ⊢;refine ⟨h.1,rZ _,?_⟩;omega
 | false=>
  rw [ab (by simp)] at h ⊢;unfold okS at h ⊢;obtain ⟨e,a,b,c,f,i,j⟩:=h;exact ⟨e,a,b,c,rZ _,by omega,λh=>absurd h.1 (by omega)⟩
theorem Iq (m I L H J f D c k n:Nat) (g:Bool) (P:L<65536) (M:H<256) (N:J<256) (Q:f<256) (O:D<256):
  ∃b l dg x q a d,aC (m+300) (I:Int) g (L:Int) (H:Int) (J:Int) (f:Int) (D:Int) (c:Int) (k:Int) (n:Int)=some (b,l,dg,x,q,a,d,((mksT (bq a d) c k n).1:Int),((mksT (bq a d) c k n).2.1:Int),((mksT (bq a d) c k n).2.2:Int))/\
   okY b l dg x q/\pg b dg x=false/\(I%6≠3->hasX dg=false)/\dg.length<=5/\(q≠0->a=[]/\d=[])/\(q=0->a=monT (f%40))/\
   (d=[]\/(a∈((List.range 12).map λi=>two (i+1))++[[48,88],[49,88],[88,50],[88,88],[88,48],[88,57]]/\a≠[]/\sea a=0/\d=dayT (D%40) a)):=by
 obtain ⟨b,l,dg,x,q,e,y,s,A,t⟩:=Gt m I L H J g P M N;have G:=EE y s A;have Z:Int.tmod (c:Int) 4=((c%4:Nat):Int):=rfl;have W:Int.tmod (k:Int) 4=((k%4:Nat):Int):=rfl;have R:Int.tmod (n:Int) 4=((n%4:Nat):Int):=rfl;obtain ⟨U,S,T,V,Y,X⟩:=jF y;have j:∀(a d:aa) (o:Option (Bool×Bool×aa×Int×Int×aa×aa×Int×Int×Int)),
   (ob (ah (m+300) b l dg x q a d 0 0 0) λr=>(cond (decide ((0:Int)<r)) (ob (ah (m+300) b l dg x q a d (Int.tmod (c:Int) 4) 0 0) λr=>(cond (decide ((1:Int)<r)) (ob (ah (m+300) b l dg x q a d (Int.tmod (c:Int) 4) (Int.tmod (k:Int) 4) 0) λr=>(cond (decide ((2:Int)<r)) (ob (ah (m+300) b l dg x q a d (Int.tmod (c:Int) 4) (Int.tmod (k:Int) 4) (Int.tmod (n:Int) 4)) λr=>(cond (decide ((3:Int)<r)) none (some (b,l,dg,x,q,a,d,(Int.tmod (c:Int) 4),(Int.tmod (k:Int) 4),(Int.tmod (n:Int) 4))))) (some (b,l,dg,x,q,a,d,(Int.tmod (c:Int) 4),(Int.tmod (k:Int) 4),0)))) (some (b,l,dg,x,q,a,d,(Int.tmod (c:Int) 4),0,0)))) (some (b,l,dg,x,q,a,d,0,0,0))))=some (b,l,dg,x,q,a,d,((mksT (bq a d) c k n).1:Int),((mksT (bq a d) c k n).2.1:Int),((mksT (bq a d) c k n).2.2:Int)):=by
  intro a d _;have hc:=mg a d;have:bq a d=1\/bq a d=2\/bq a d=3:=by omega
  rw [cG,cG,cG,cG];rcases this with h | h | h<;>rw [h]<;>rfl
 unfold aC;rw [e];simp only [ob,d4];rw [iH];by_cases z:q=0
 ·rw [ad z];rw [xq m _ _ _ _ _ f _ _ _ _ Q];have K:=Ax (show f%40<40 by omega);show ∃v E u C F w d,cond (!(monT (f%40)==[])) _ _=_/\_;by_cases p:monT (f%40)=[]
  ·refine ⟨b,l,dg,x,q,[],[],?_,y,G,t,s,λh=>absurd z h,λ_=>p.symm,.inl rfl⟩;rw [p];exact j [] [] none
  ·rw [aL.2 p];show ∃v E u C F w d,ob (aJ (m+300) b l dg x q (monT (f%40)) [] 0 0 0) _=_/\_;rw [kF (m+300) (by omega)];show ∃v E u C F w d,cond (sea (monT (f%40))==0) _ _=_/\_;rw [iH];by_cases hs:sea (monT (f%40))=0
   ·rw [ad hs];have B:=K hs p;rw [E8 m _ _ _ _ _ _ D _ _ _ (monT (f%40)) B O];exact ⟨b,l,dg,x,q,monT (f%40),dayT (D%40) (monT (f%40)),j _ _ none,y,G,t,s,λh=>absurd z h,λ_=>rfl,.inr ⟨B,p,hs,rfl⟩⟩
   ·rw [ab hs];exact ⟨b,l,dg,x,q,monT (f%40),[],j _ [] none,y,G,t,s,λh=>absurd z h,λ_=>rfl,.inl rfl⟩
 ·rw [ab z];exact ⟨b,l,dg,x,q,[],[],j [] [] none,y,G,t,s,λ_=>⟨rfl,rfl⟩,λh=>absurd h z,.inl rfl⟩
theorem FY:((List.range 34).all λj=>!hasX (monT j))=true:=by decide +kernel
theorem FW:(((List.range 12).map λi=>two (i+1)).all λa=>(List.range 32).all λj=>!hasX (dayT j a))=true:=by decide +kernel
theorem OY:((((List.range 12).map λi=>two (i+1))++[[48,88],[49,88],[88,50],[88,88],[88,48],[88,57]]).all λa=>hasX a||decide (a∈(List.range 12).map λi=>two (i+1)))=true:=by decide +kernel
theorem PM (m B k y C n j u o v:Nat) (g:Bool) (E:k<65536) (A:y<256) (K:C<256) (Q:n<256) (N:j<256) (J:B%6≠3) (T:n%40<=33) (S:j%40<=31):
  ∃r l dg x q a d k0 k1 k2,aC (m+300) (B:Int) g (k:Int) (y:Int) (C:Int) (n:Int) (j:Int) (u:Int) (o:Int) (v:Int)=some (r,l,dg,x,q,a,d,((k0:Nat):Int),((k1:Nat):Int),((k2:Nat):Int))/\
   0<=q/\chkF r l dg x 0 a d (k0:Int) (k1:Int) (k2:Int)=0/\exD dg a d 0=true/\a.length<=18/\d.length<=18/\dg.length<=100:=by
 obtain ⟨r,l,dg,x,q,a,d,e,G,O,z,P,w,s,t⟩:=Iq m B k y C n j u o v g E A K Q N;have M:=z J;have f:hasX a=false:=by
  by_cases h:q=0
  ·rw [s h];have:=(cr.1 FY) (n%40) (jk.2 (by omega));simpa using this
  ·rw [(w h).1];rfl
 have c:a=[]\/0<sea a\/(sea a=0/\dG a 12=true):=by
  by_cases h:q=0
  ·rw [s h];exact HE (by omega)
  ·exact .inl (w h).1
 have b:d=[]\/(a≠[]/\sea a=0/\dG d 31=true/\fitD a d=true/\hasX d=false):=by
  rcases t with h | ⟨i,D,hs,p⟩
  ·exact .inl h
  ·have H:=IX (show j%40<40 by omega) i;have k:=Dh (show j%40<40 by omega) i;rw [<-p] at H k;by_cases F:d=[]
   ·exact .inl F
   ·right;refine ⟨D,hs,H.resolve_left F,k.resolve_left F,?_⟩;have I:=(cr.1 OY) a i;rw [f,vC,cj] at I;have L:=(cr.1 ((cr.1 FW) a I)) (j%40) (jk.2 (by omega));rw [p];simpa using L
 have hc:chkD r l dg x 0 a d ((mksT (bq a d) u o v).1:Int) ((mksT (bq a d) u o v).2.1:Int) ((mksT (bq a d) u o v).2.2:Int)=0:=
  Ap (Tm G) O (λh=>absurd h (by omega)) c (by
   rcases b with h | ⟨R,E,A,_⟩
   ·exact .inl h
   ·exact .inr ⟨R,E,A⟩) (vo _ _ _ _)
 refine ⟨r,l,dg,x,q,a,d,_,_,_,e,LK G,EZ hc ?_,?_,?_,?_,by omega⟩
 ·rcases b with h | ⟨_,_,_,h,_⟩
  ·exact .inl h
  ·exact .inr h
 ·unfold exD;have:hasX d=false:=by
   rcases b with h | ⟨_,_,_,_,h⟩
   ·rw [h];rfl
   ·exact h
  rw [M,f,this];rfl
 ·rcases c with h | h | ⟨_,h⟩
  ·rw [h];simp
  ·have:=(BI h).1;omega
  ·have:=(lU (by omega) h).1;omega
 ·rcases b with h | ⟨_,_,h,_⟩
  ·rw [h];simp
  ·have:=(lU (by omega) h).1;omega
theorem Ef (m n C y B c j G E H:Nat) (g:Bool) (h0:n<256) (S:C<65536) (M:y<256) (P:B<256) (h5:c<256) (h6:j<256):
  ∃p l dg x i d k0 k1 k2,br (m+300) (n:Int) g (C:Int) (y:Int) (B:Int) (c:Int) (j:Int) (G:Int) (E:Int) (H:Int)=some (p,l,dg,x,0,i,d,((k0:Nat):Int),((k1:Nat):Int),((k2:Nat):Int))/\
   chkF p l dg x 0 i d (k0:Int) (k1:Int) (k2:Int)=0/\exD dg i d 0=true/\i.length<=18/\d.length<=18/\dg.length<=100:=by
 have L:Int.tmod (c:Int) 40=((c%40:Nat):Int):=rfl;have J:Int.tmod (j:Int) 40=((j%40:Nat):Int):=rfl;have Z:Int.tmod (n:Int) 6=((n%6:Nat):Int):=rfl;have W:Int.tdiv ((j%40:Nat):Int) 2=((j%40 / 2:Nat):Int):=rfl;have t:∀(u f b:Nat),f<256->b<256->u%6≠3->f%40<=33->b%40<=31->
   ∃p l dg x i d k0 k1 k2,(ob (aC (m+300) (u:Int) g (C:Int) (y:Int) (B:Int) (f:Int) (b:Int) (G:Int) (E:Int) (H:Int)) λa=>(cond (decide ((d4 a).1>0)) (some (a.1,a.2.1,a.2.2.1,a.2.2.2.1,(0:Int),(d4 a).2.1,(d4 a).2.2.1,(d4 a).2.2.2.1,(d8 a).1,(d8 a).2)) (some (a.1,a.2.1,a.2.2.1,a.2.2.2.1,(d4 a).1,(d4 a).2.1,(d4 a).2.2.1,(d4 a).2.2.2.1,(d8 a).1,(d8 a).2))))=some (p,l,dg,x,0,i,d,((k0:Nat):Int),((k1:Nat):Int),((k2:Nat):Int))/\
   chkF p l dg x 0 i d (k0:Int) (k1:Int) (k2:Int)=0/\exD dg i d 0=true/\i.length<=18/\d.length<=18/\dg.length<=100:=by
  intro u f b o c6 R r s;obtain ⟨p,l,dg,x,q,i,d,k0,k1,k2,e,hq,N,O,Q,r4,V⟩:=PM m u C y B f b G E H g S M P o c6 R r s;refine ⟨p,l,dg,x,i,d,k0,k1,k2,?_,N,O,Q,r4,V⟩;rw [e];simp only [ob,d4,d8];by_cases h:q>0
  ·rw [ar h];rfl
  ·obtain rfl:q=0:=by omega
   rw [aq h];rfl
 have z:33<c%40->IntKind.wrap .u8 (((c%40:Nat):Int) - 33)=((c%40 - 33:Nat):Int):=λh=>by rw [eY _ (by omega) (by omega)];omega
 have T:IntKind.wrap .u8 ((j%40 / 2:Nat):Int)=((j%40 / 2:Nat):Int):=eY _ (by omega) (by omega);unfold br;rw [Z,L,J,W,T];have k:∀u:Nat,u%6≠3->∀K:Nat->Nat->Option (Bool×Bool×aa×Int×Int×aa×aa×Int×Int×Int),
   (∀f b:Nat,f<256->b<256->f%40<=33->b%40<=31->∃p l dg x i d k0 k1 k2,K f b=some (p,l,dg,x,0,i,d,((k0:Nat):Int),((k1:Nat):Int),((k2:Nat):Int))/\chkF p l dg x 0 i d (k0:Int) (k1:Int) (k2:Int)=0/\exD dg i d 0=true/\i.length<=18/\d.length<=18/\dg.length<=100)->
   ∃p l dg x i d k0 k1 k2,(cond (decide (((c%40:Nat):Int)>33)) (cond (decide (((j%40:Nat):Int)>31)) (K (c%40 - 33) (j%40 / 2)) (K (c%40 - 33) j)) (cond (decide (((j%40:Nat):Int)>31)) (K c (j%40 / 2)) (K c j)))=some (p,l,dg,x,0,i,d,((k0:Nat):Int),((k1:Nat):Int),((k2:Nat):Int))/\chkF p l dg x 0 i d (k0:Int) (k1:Int) (k2:Int)=0/\exD dg i d 0=true/\i.length<=18/\d.length<=18/\dg.length<=100:=by
  intro u X K D;by_cases Y:33<c%40
  ·rw [ar (show ((c%40:Nat):Int)>33 by omega)];by_cases I:31<j%40
   ·rw [ar (show ((j%40:Nat):Int)>31 by omega)];exact D _ _ (by omega) (by omega) (by omega) (by omega)
   ·rw [aq (show ¬((j%40:Nat):Int)>31 by omega)];exact D _ _ (by omega) (by omega) (by omega) (by omega)
  ·rw [aq (show ¬((c%40:Nat):Int)>33 by omega)];by_cases I:31<j%40
   ·rw [ar (show ((j%40:Nat):Int)>31 by omega)];exact D _ _ (by omega) (by omega) (by omega) (by omega)
   ·rw [aq (show ¬((j%40:Nat):Int)>31 by omega)];exact D _ _ (by omega) (by omega) (by omega) (by omega)
 have w5':∀{A:Type} (F:Int->Int->Option A) (b:Nat),(cond (decide (((c%40:Nat):Int)>33)) (F (IntKind.wrap .u8 (((c%40:Nat):Int) - 33)) (b:Int)) (F (c:Int) (b:Int)))=(cond (decide (((c%40:Nat):Int)>33)) (F ((c%40 - 33:Nat):Int) (b:Int)) (F (c:Int) (b:Int))):=by
  intro A F b;by_cases h:33<c%40
  ·rw [z h]
  ·rw [aq (show ¬((c%40:Nat):Int)>33 by omega)];rfl
 have v:33<c%40\/¬33<c%40:=by omega
 by_cases w:n%6=3
 ·rw [show (((n%6:Nat):Int)==3)=true by rw [w];rfl];simp only [aj];rcases v with h | h
  ·rw [z h];exact k 0 (by omega) (λf b=>_) (λf b o c6 r s=>t 0 f b o c6 (by omega) r s)
  ·have hx:=k 0 (by omega) (λf b=>_) (λf b o c6 r s=>t 0 f b o c6 (by omega) r s);rw [aq (show ¬((c%40:Nat):Int)>33 by omega)] at hx ⊢;exact hx
 ·rw [show (((n%6:Nat):Int)==3)=false from aL.2 (by omega)];simp only [ae];by_cases U:n%6=4
  ·rw [show (((n%6:Nat):Int)==4)=true by rw [U];rfl];simp only [aj];rcases v with h | h
   ·rw [z h];exact k 0 (by omega) (λf b=>_) (λf b o c6 r s=>t 0 f b o c6 (by omega) r s)
   ·have hx:=k 0 (by omega) (λf b=>_) (λf b o c6 r s=>t 0 f b o c6 (by omega) r s);rw [aq (show ¬((c%40:Nat):Int)>33 by omega)] at hx ⊢;exact hx
  ·rw [show (((n%6:Nat):Int)==4)=false from aL.2 (by omega)];simp only [ae];rcases v with h | h
   ·rw [z h];exact k n w (λf b=>_) (λf b o c6 r s=>t n f b o c6 w r s)
   ·have hx:=k n w (λf b=>_) (λf b o c6 r s=>t n f b o c6 w r s);rw [aq (show ¬((c%40:Nat):Int)>33 by omega)] at hx ⊢;exact hx
theorem HH {dg m d:aa} (h:exD dg m d 0=true):exD dg m [] 0=true/\exD dg [] [] 0=true:=by
 unfold exD at h ⊢;simp only [ay,kn,Dq] at h;obtain ⟨⟨b,a,c⟩,_⟩:=h;rw [b,a];exact ⟨rfl,rfl⟩
def BJ (g l:Bool) (dg:aa) (x q:Int) (m d:aa) (k0 k1 k2:Int):Bool:=
 (((g==false)&&((l==false)&&((dg==([]:aa))&&((x==0)&&((q==0)&&true)))))&&((m==([]:aa))&&((d==([]:aa))&&(((k0==0)&&((k1==0)&&((k2==0)&&true)))&&true))))
noncomputable def chkB (K:Int) (g l:Bool) (dg:aa) (x q:Int) (m d:aa) (k0 k1 k2:Int):Int:=
 if K=1 then (if chkF g l dg x q m d k0 k1 k2=0 then (if exD dg m d q=true then 0 else 11) else chkF g l dg x q m d k0 k1 k2) else if K=2\/K=3 then (if BJ g l dg x q m d k0 k1 k2=true then 0 else 5) else 18
def Bm (b a c d lo hi:Int):Int:=if b≠0 then b else if a≠0 then a else if c≠1/\d≠1 then 11 else if c≠1\/d≠1 then 0 else if lo>hi then 11 else 0
section
variable {K:Int} {g l:Bool} {dg:List UInt8} {x q:Int} {m d:List UInt8} {k0 k1 k2:Int} (hml:m.length<=18) (hdl:dg.length<=100) (hd18:d.length<=18) (h0:0<=k0) (h1:0<=k1) (h2:0<=k2)
include hml hdl hd18 h0 h1 h2
theorem xP:g9 20000000 K g l dg x q m d k0 k1 k2=some (chkB K g l dg x q m d k0 k1 k2):=by
 unfold g9 chkB;rw [y7 hml hdl h0 h1 h2,Dy 20000000 g l dg x q m d k0 k1 k2 (by omega) (by omega) (by omega)];simp only [ob];by_cases a:K=1
 ·subst a;rw [ad rfl];simp only [BEq.rfl,aj];by_cases hc:chkF g l dg x q m d k0 k1 k2=0
  ·rw [ad hc,hc];by_cases c:exD dg m d q=true
   ·rw [ad c,c];rfl
   ·rw [ab c];rw [EI] at c;rw [c];rfl
  ·rw [ab hc,bne0 hc];rfl
 ·rw [ab a,aL.2 a];simp only [ae];have f:(!(((g==false)&&((l==false)&&((dg==([]:aa))&&((x==0)&&((q==0)&&true)))))&&((m==([]:aa))&&((d==([]:aa))&&(((k0==0)&&((k1==0)&&((k2==0)&&true)))&&true)))))=!(BJ g l dg x q m d k0 k1 k2):=rfl;rw [f];by_cases e:K=2
  ·subst e;rw [ad (.inl rfl)];cases BJ g l dg x q m d k0 k1 k2<;>rfl
  ·rw [aL.2 e];by_cases b:K=3
   ·subst b;rw [ad (.inr rfl)];cases BJ g l dg x q m d k0 k1 k2<;>rfl
   ·rw [aL.2 b,ab (by omega)];rfl
theorem vg:dO 20000000 K g l dg x q m d k0 k1 k2=some (chkB K g l dg x q m d k0 k1 k2):=by
 unfold dO chkB;rw [we hdl h0 h1 h2,zh 20000000 g l dg x q m d k0 k1 k2 (by omega) (by omega) (by omega) (by omega)];simp only [ob];by_cases a:K=1
 ·subst a;rw [ad rfl];simp only [BEq.rfl,aj];by_cases hc:chkF g l dg x q m d k0 k1 k2=0
  ·rw [ad hc,hc];by_cases e:exD dg m d q=true
   ·rw [ad e,ad e];rfl
   ·rw [ab e,ab e];rfl
  ·rw [ab hc,aL.2 hc];rfl
 ·rw [ab a,aL.2 a];simp only [ae];have f:(!(((g==false)&&((l==false)&&((dg==([]:aa))&&((x==0)&&((q==0)&&true)))))&&((m==([]:aa))&&((d==([]:aa))&&(((k0==0)&&((k1==0)&&((k2==0)&&true)))&&true)))))=!(BJ g l dg x q m d k0 k1 k2):=rfl;rw [f];by_cases c:K=2
  ·subst c;rw [ad (.inl rfl)];cases BJ g l dg x q m d k0 k1 k2<;>rfl
  ·rw [aL.2 c];by_cases b:K=3
   ·subst b;rw [ad (.inr rfl)];cases BJ g l dg x q m d k0 k1 k2<;>rfl
   ·rw [aL.2 b,ab (by omega)];rfl
theorem NR:ie 20000000 K g l dg x q m d k0 k1 k2=some (if chkB K g l dg x q m d k0 k1 k2=0 then (if K=2 then [46,46] else if K=3 then [] else vn g l dg x q m d k0.toNat k1.toNat k2.toNat,0) else ([],chkB K g l dg x q m d k0 k1 k2)):=by
 unfold ie;rw [xP hml hdl hd18 h0 h1 h2];simp only [ob];by_cases hc:chkB K g l dg x q m d k0 k1 k2=0
 ·rw [ad hc,hc];simp only [eH,ae];by_cases b:K=2
  ·subst b;rfl
  ·rw [aL.2 b,ab b];by_cases a:K=3
   ·subst a;rfl
   ·rw [aL.2 a,ab a];have k1':K=1:=by
     unfold chkB at hc;by_cases h:K=1
     ·exact h
     ·rw [ab h,ab (by omega)] at hc;cases hc
    have c:chkF g l dg x q m d k0 k1 k2=0:=by
     unfold chkB at hc;rw [ad k1'] at hc;by_cases h:chkF g l dg x q m d k0 k1 k2=0
     ·exact h
     ·rw [ab h] at hc;exact absurd hc h
    have e:ch 20000000 g l dg x q m d k0 k1 k2=_:=Ew 19999700 g l dg x q m d k0 k1 k2 hml hdl h0 h1 h2;rw [e,ad (kR c)];rfl
 ·rw [ab hc,bne0 hc];rfl
theorem F9 (hc:chkB K g l dg x q m d k0 k1 k2=0):fH 20000000 K g l dg x q m d k0 k1 k2=some (if K=2 then [46,46] else if K=3 then [] else vn g l dg x q m d k0.toNat k1.toNat k2.toNat):=by
 have f:=And.intro hml (And.intro hdl hd18);unfold fH;by_cases b:K=2
 ·subst b;rfl
 ·rw [aL.2 b,ab b];by_cases a:K=3
  ·subst a;rfl
  ·rw [aL.2 a,ab a];have k1':K=1:=by
    unfold chkB at hc;by_cases h:K=1
    ·exact h
    ·rw [ab h,ab (by omega)] at hc;cases hc
   have e:chkF g l dg x q m d k0 k1 k2=0:=by
    unfold chkB at hc;rw [ad k1'] at hc;by_cases h:chkF g l dg x q m d k0 k1 k2=0
    ·exact h
    ·rw [ab h] at hc;exact absurd hc h
   have c:bX 20000000 g l dg x q m d k0 k1 k2=_:=zu 19999700 h0 h1 h2 (kR e);rw [c];rfl
theorem tR (hc:chkB K g l dg x q m d k0 k1 k2=0) (b:K=1):chkF g l dg x q m d k0 k1 k2=0/\exD dg m d q=true:=by
 have c:=And.intro hml (And.intro hdl (And.intro hd18 (And.intro h0 (And.intro h1 h2))));unfold chkB at hc;rw [ad b] at hc;by_cases h:chkF g l dg x q m d k0 k1 k2=0
 ·rw [ad h] at hc;by_cases a:exD dg m d q=true
  ·exact ⟨h,a⟩
  ·rw [ab a] at hc;cases hc
 ·rw [ab h] at hc;exact absurd hc h
end
theorem SZ (n:Nat) (a b:Int):iw n a b=some (if a<b then -1 else if a>b then 1 else 0):=by
 unfold iw jN;simp only [ob,eH,ae];by_cases h:a<b
 ·rw [ar h,ad h];rfl
 ·rw [aq h,ab h];by_cases c:a>b
  ·rw [ar c,ad c];rfl
  ·rw [aq c,ab c];rfl
theorem EW (a b:Int):∃r,js 20000000 0 a 0 b=some r/\decide (r>0)=decide (a>b):=by
 have d:ln 20000000 0 0=some 0:=rfl;have o1:nk 20000000 [0,-1]=some (-1):=by kernel_rfl
 have f:nk 20000000 [0,1]=some 1:=by kernel_rfl
 have e:nk 20000000 [0,0]=some 0:=by kernel_rfl
 unfold js;rw [d,SZ];simp only [ob];by_cases h:a<b
 ·rw [ad h,o1];exact ⟨_,rfl,by rw [aq (show ¬a>b by omega)];rfl⟩
 ·rw [ab h];by_cases c:a>b
  ·rw [ad c,f];exact ⟨_,rfl,by rw [ar c];rfl⟩
  ·rw [ab c,e];exact ⟨_,rfl,by rw [aq c];rfl⟩
theorem bne1 {K:Int} (h:K≠1):(K != 1)=true:=by simp [h]
section
variable {K:Int} {g l:Bool} {dg:List UInt8} {x q:Int} {m d:List UInt8} {k0 k1 k2:Int} {K':Int} {g' l':Bool} {dg':List UInt8} {x' q':Int} {m' d':List UInt8} {p0 p1 p2:Int} (hml:m.length<=18) (hdl:dg.length<=100) (hd18:d.length<=18) (h0:0<=k0) (h1:0<=k1) (h2:0<=k2) (hml':m'.length<=18) (hdl':dg'.length<=100) (hd18':d'.length<=18) (h0':0<=p0) (h1':0<=p1) (h2':0<=p2)
include hml hdl hd18 h0 h1 h2 hml' hdl' hd18' h0' h1' h2'
theorem PI:hP 20000000 K g l dg x q m d k0 k1 k2 K' g' l' dg' x' q' m' d' p0 p1 p2=some (Bm (chkB K g l dg x q m d k0 k1 k2) (chkB K' g' l' dg' x' q' m' d' p0 p1 p2) K K' (mq g dg x m d).1 (mq g' dg' x' m' d').2):=by
 unfold hP Bm;rw [xP hml hdl hd18 h0 h1 h2,xP hml' hdl' hd18' h0' h1' h2'];simp only [ob];by_cases c:chkB K g l dg x q m d k0 k1 k2=0
 ·rw [ab (by omega),c];by_cases b:chkB K' g' l' dg' x' q' m' d' p0 p1 p2=0
  ·rw [ab (by omega),b];simp only [eH,ae];by_cases e:K=1
   ·rw [show (K != 1)=false by rw [e];rfl];simp only [ae];by_cases a:K'=1
    ·rw [show (K' != 1)=false by rw [a];rfl,ab (by omega),ab (by omega)];simp only [ae];obtain ⟨o,j⟩:=tR hml hdl hd18 h0 h1 h2 c e;obtain ⟨f,k⟩:=tR hml' hdl' hd18' h0' h1' h2' b a;rw [CU hml hdl hd18 h0 h1 h2,CU hml' hdl' hd18' h0' h1' h2',ad o,ad j,ad f,ad k];simp only [ob];obtain ⟨r,i,n⟩:=EW (mq g dg x m d).1 (mq g' dg' x' m' d').2;rw [i];simp only [n];by_cases h:(mq g dg x m d).1>(mq g' dg' x' m' d').2
     ·rw [ar h,ad h];rfl
     ·rw [aq h,ab h];rfl
    ·rw [bne1 a,ab (by omega),ad (by omega)];rfl
   ·rw [bne1 e];by_cases a:K'=1
    ·rw [show (K' != 1)=false by rw [a];rfl,ab (by omega),ad (by omega)];rfl
    ·rw [bne1 a,ad (by omega)];rfl
  ·rw [ad b,bne0 b];rfl
 ·rw [ad c,bne0 c];rfl
theorem MB:eo 20000000 K g l dg x q m d k0 k1 k2 K' g' l' dg' x' q' m' d' p0 p1 p2=some (Bm (chkB K g l dg x q m d k0 k1 k2) (chkB K' g' l' dg' x' q' m' d' p0 p1 p2) K K' (mq g dg x m d).1 (mq g' dg' x' m' d').2):=by
 unfold eo Bm;rw [vg hml hdl hd18 h0 h1 h2,vg hml' hdl' hd18' h0' h1' h2'];simp only [ob];by_cases e:chkB K g l dg x q m d k0 k1 k2=0
 ·rw [ab (by omega),e];by_cases c:chkB K' g' l' dg' x' q' m' d' p0 p1 p2=0
  ·rw [ab (by omega),c];simp only [eH,ae];by_cases b:K=1
   ·rw [show (K != 1)=false by rw [b];rfl,show (K==1)=true by rw [b];rfl];simp only [ae,aj];by_cases a:K'=1
    ·rw [show (K'==1)=true by rw [a];rfl,ab (by omega),ab (by omega)];simp only [aj];obtain ⟨o,k⟩:=tR hml hdl hd18 h0 h1 h2 e b;obtain ⟨f,n⟩:=tR hml' hdl' hd18' h0' h1' h2' c a;obtain ⟨rfl,j⟩:=tO o k;obtain ⟨rfl,i⟩:=tO f n;rw [so j hdl,so i hdl'];simp only [ob];by_cases h:(mq g dg x m d).1>(mq g' dg' x' m' d').2
     ·rw [ar h,ad h];rfl
     ·rw [aq h,ab h];rfl
    ·rw [aL.2 a,ab (by omega),ad (by omega)];rfl
   ·rw [bne1 b,aL.2 b];by_cases a:K'=1
    ·rw [show (K' != 1)=false by rw [a];rfl,ab (by omega),ad (by omega)];rfl
    ·rw [bne1 a,ad (by omega)];rfl
  ·rw [ad c,bne0 c];rfl
 ·rw [ad e,bne0 e];rfl
end
theorem zq (y:Int) {m:Nat} (c:1<=m) (d:m<=23):dayM y m<dayM y (m+1):=by
 by_cases h:m<=12
 ·have:=vJ y c h;have:=ir y (m:Int);omega
 ·have b:=rf y (m:=m - 12) (by omega) (by omega);have a:=rf y (m:=m - 12+1) (by omega) (by omega);have e:=vJ (y+1) (m:=m - 12) (by omega) (by omega);have:=ir (y+1) ((m - 12:Nat):Int);rw [show m - 12+12=m by omega] at b;rw [show m - 12+1+12=m+1 by omega] at a;omega
theorem Jj (y:Int) {a:Nat} (b:1<=a):∀c,1<=c->a+c<=24->dayM y a<dayM y (a+c)
 | 0,h,_=>absurd h (by omega)
 | c+1,_,d=>by
  have hs:=zq y (m:=a+c) (by omega) (by omega);by_cases h:c=0
  ·subst h;exact hs
  ·have:=Jj y b c (by omega) (by omega);rw [show a+(c+1)=a+c+1 by omega];omega
theorem NK {g l:Bool} {dg:aa} {x:Int} {m d:aa} (E:Exact g l dg x m d):(mq g dg x m d).1<=(mq g dg x m d).2:=by
 unfold mq;by_cases a:m=[]
 ·rw [ad a];have:=wi (yOf g dg x);simp only [];split at this<;>omega
 ·rw [ab a];by_cases hs:0<sea m
  ·rw [ad hs];rcases E.mon with h | ⟨j,i,e,_⟩ | ⟨h,_⟩
   ·exact absurd h a
   ·obtain ⟨f,c,_,b,o,q,r,_,n,p⟩:=C0 i;rw [e,n,p];have:=Jj (yOf g dg x) b c (by omega) (by omega);simp only [];omega
   ·omega
  ·rw [ab hs];rcases E.mon with h | ⟨j,i,e,_⟩ | ⟨_,b,o,_⟩
   ·exact absurd h a
   ·rw [e,jB i] at hs;omega
   ·by_cases k:d=[]
    ·rw [ad k];have:=zq (yOf g dg x) b (by omega);simp only [];omega
    ·rw [ab k];exact rZ _
theorem B_of (m a r j o i n p s t f:Nat) (g:Bool) (E:r<256) (v:j<65536) (y:o<256) (B:i<256) (A:n<256) (C:p<256):
  ∃K c l dg x b d k0 k1 k2,bS (m+300) (a:Int) (r:Int) g (j:Int) (o:Int) (i:Int) (n:Int) (p:Int) (s:Int) (t:Int) (f:Int)=some (K,c,l,dg,x,0,b,d,((k0:Nat):Int),((k1:Nat):Int),((k2:Nat):Int))/\
   chkB K c l dg x 0 b d (k0:Int) (k1:Int) (k2:Int)=0/\b.length<=18/\d.length<=18/\dg.length<=100/\(K=1\/((K=2\/K=3)/\c=false/\l=false/\dg=[]/\x=0/\b=[]/\d=[]/\k0=0/\k1=0/\k2=0)):=by
 have D:Int.tmod (a:Int) 6=((a%6:Nat):Int):=rfl;unfold bS;rw [D];by_cases z:a%6=0
 ·rw [z];exact ⟨2,false,false,[],0,[],[],0,0,0,rfl,rfl,by simp,by simp,by simp,.inr ⟨.inl rfl,rfl,rfl,rfl,rfl,rfl,rfl,rfl,rfl,rfl⟩⟩
 ·rw [show (((a%6:Nat):Int)==0)=false from aL.2 (by omega)];by_cases w:a%6=1
  ·rw [w];exact ⟨3,false,false,[],0,[],[],0,0,0,rfl,rfl,by simp,by simp,by simp,.inr ⟨.inr rfl,rfl,rfl,rfl,rfl,rfl,rfl,rfl,rfl,rfl⟩⟩
  ·rw [show (((a%6:Nat):Int)==1)=false from aL.2 (by omega)];obtain ⟨c,l,dg,x,b,d,k0,k1,k2,e,hc,u,q,h,k⟩:=Ef m r j o i n p s t f g E v y B A C;refine ⟨1,c,l,dg,x,b,d,k0,k1,k2,?_,?_,q,h,k,.inl rfl⟩
   ·simp only [ae];rw [e];rfl
   ·unfold chkB;rw [ad rfl,ad hc,ad u]
def enR (r:DR):Nat:=r.2.2.2.2.2.2.2.2.2
def smT (x:TD):Prop:=x.2.2.2.2.2.1.length<=18/\x.2.2.1.length<=100/\x.2.2.2.2.2.2.1.length<=18/\0<=x.2.2.2.2.2.2.2.1/\0<=x.2.2.2.2.2.2.2.2.1/\0<=x.2.2.2.2.2.2.2.2.2
noncomputable def cF (x:TD):Int:=chkF x.1 x.2.1 x.2.2.1 x.2.2.2.1 x.2.2.2.2.1 x.2.2.2.2.2.1 x.2.2.2.2.2.2.1 x.2.2.2.2.2.2.2.1 x.2.2.2.2.2.2.2.2.1 x.2.2.2.2.2.2.2.2.2
def exT (x:TD):Bool:=exD x.2.2.1 x.2.2.2.2.2.1 x.2.2.2.2.2.2.1 x.2.2.2.2.1
def dyT (x:TD):Int×Int:=mq x.1 x.2.2.1 x.2.2.2.1 x.2.2.2.2.2.1 x.2.2.2.2.2.2.1
def seT (x:TD):Int:=sea x.2.2.2.2.2.1
def coT (x:TD):Nat:=bq x.2.2.2.2.2.1 x.2.2.2.2.2.2.1
noncomputable def plT (x:TD):Bool:=decide (cF x=0)&&(exT x&&!decide (0<seT x))
theorem wk:smT d0:=by unfold smT;simp
theorem fcT {x:TD} (h:smT x):ap10 (bp 20000000) x=some (cF x):=y7 h.1 h.2.1 h.2.2.2.1 h.2.2.2.2.1 h.2.2.2.2.2
theorem rcT {x:TD} (h:smT x):ap10 (bO 20000000) x=some (cF x):=we h.2.1 h.2.2.2.1 h.2.2.2.2.1 h.2.2.2.2.2
theorem reT {x:TD} (h:smT x):ap10 (ba 20000000) x=some (if exT x then 1 else 0):=by
 obtain ⟨a,b,c,_⟩:=h;exact zh 20000000 _ _ _ _ _ _ _ _ _ _ (by omega) (by omega) (by omega) (by omega)
theorem rsT (x:TD):ap10 (aJ 20000000) x=some (seT x):=kF 20000000 (by omega) _ _ _ _ _ _ _ _ _ _
theorem rcoT (x:TD):ap10 (ah 20000000) x=some ((coT x:Nat):Int):=cG 20000000 _ _ _ _ _ _ _ _ _ _
theorem fpT {x:TD} (h:smT x):ap10 (aZ 20000000) x=some (if x.2.2.2.2.2.2.1=[] then (if 0<seT x then 0 else if x.2.2.2.2.2.1=[] then 1 else 2) else 3):=Js 20000000 _ _ _ _ _ _ _ _ _ _ h.1
theorem fmT {x:TD} (h:smT x):ap10 (dP 20000000) x=some (hasX x.2.2.1||(hasX x.2.2.2.2.2.1||hasX x.2.2.2.2.2.2.1)):=by
 obtain ⟨a,b,c,_⟩:=h;exact zw 20000000 _ _ _ _ _ _ _ _ _ _ (by omega) (by omega) (by omega)
theorem fdT {x:TD} (h:smT x):ap10 (fb 20000000) x=some (if cF x=0 then (if exT x=true then (0,(dyT x).1,0,(dyT x).2,0) else (0,0,0,0,1)) else (0,0,0,0,cF x)):=CU h.1 h.2.1 h.2.2.1 h.2.2.2.1 h.2.2.2.2.1 h.2.2.2.2.2
theorem Jk {x:TD} (hc:cF x=0) (a:exT x=true):x.2.2.2.2.1=0/\Exact x.1 x.2.1 x.2.2.1 x.2.2.2.1 x.2.2.2.2.2.1 x.2.2.2.2.2.2.1:=tO hc a
theorem rdT {x:TD} (h:smT x) (hc:cF x=0) (a:exT x=true):ap10 (aR 20000000) x=some (dyT x):=by
 obtain ⟨b,E⟩:=Jk hc a;have:=so (k0:=x.2.2.2.2.2.2.2.1) (k1:=x.2.2.2.2.2.2.2.2.1) (k2:=x.2.2.2.2.2.2.2.2.2) E h.2.1;rw [<-b] at this;exact this
theorem MH {x:TD} (hc:cF x=0) (a:exT x=true):(dyT x).1<=(dyT x).2:=NK (Jk hc a).2
theorem qK {x:TD} (hc:cF x=0):(x.2.2.2.2.2.1=[]\/x.2.2.2.2.2.1.length=2)/\(x.2.2.2.2.2.2.1=[]\/x.2.2.2.2.2.2.1.length=2)/\(x.2.2.2.2.2.2.1≠[]->x.2.2.2.2.2.1≠[]/\seT x=0):=by
 obtain ⟨_,a,b,_,c⟩:=mU (kR hc);exact ⟨a,b,c⟩
theorem jA {x y:TD}:eqD x y=true↔x=y:=by
 obtain ⟨o,n,e,i,c,h,k,d,m,a⟩:=x;obtain ⟨q,l,t,j,r,s,f,g,p,b⟩:=y;simp [and_assoc]
theorem Fj {x:TD} (h:smT x):mm 20000000 x=some (exT x):=by
 unfold mm;rw [fmT h];simp only [ob,exT,exD];cases (hasX x.2.2.1||(hasX x.2.2.2.2.2.1||hasX x.2.2.2.2.2.2.1))<;>rfl
theorem yS {x:TD} (h:smT x):kE 20000000 x=some (plT x):=by
 unfold kE plT;rw [fcT h,Fj h,fpT h];simp only [ob];by_cases hc:cF x=0
 ·rw [hc];cases d:exT x
  ·rfl
  ·show some ((if _ then _ else _) != (0:Int))=some (true&&(true&&!decide (0<seT x)));obtain ⟨_,_,c⟩:=qK hc;by_cases a:x.2.2.2.2.2.2.1=[]
   ·rw [ad a];by_cases hs:0<seT x
    ·rw [ad hs,ar hs];rfl
    ·rw [ab hs,aq hs];by_cases b:x.2.2.2.2.2.1=[]
     ·rw [ad b];rfl
     ·rw [ab b];rfl
   ·rw [ab a,(c a).2];rfl
 ·rw [aq hc,show (cF x==0)=false from by simp [hc]];rfl
theorem qS {x:TD} (h:smT x):be 20000000 x=some (if plT x then 1 else 0):=by
 unfold be plT;rw [rcT h,reT h,rsT x];simp only [ob];by_cases hc:cF x=0
 ·rw [hc];cases b:exT x
  ·rfl
  ·by_cases hs:0<seT x
   ·have a:decide (seT x>0)=true:=ar hs;rw [ar hs];rfl
   ·have a:decide (seT x>0)=false:=aq hs;rw [aq hs];rfl
 ·rw [aq hc,show (cF x != 0)=true from by simp [hc]];rfl
theorem jK {x:TD}:plT x=true↔cF x=0/\exT x=true/\¬0<seT x:=by
 unfold plT;simp [and_assoc]
noncomputable def ordB (x y:TD):Bool:=(plT x&&plT y)&&(decide (coT x=coT y)&&decide ((dyT x).1<=(dyT y).1))
theorem wR {x:TD} (hc:cF x=0) (hs:¬0<seT x):(if x.2.2.2.2.2.2.1=[] then (if 0<seT x then (0:Int) else if x.2.2.2.2.2.1=[] then 1 else 2) else 3)=((coT x:Nat):Int):=by
 obtain ⟨_,_,c⟩:=qK hc;unfold coT bq;by_cases a:x.2.2.2.2.2.2.1=[]
 ·rw [ad a,ab hs];by_cases b:x.2.2.2.2.2.1=[]
  ·simp [b,a]
  ·simp [b,a]
 ·have b:=(c a).1;simp [a,b]
theorem FX {x y:TD} (hx:smT x) (hy:smT y):lJ 20000000 x y=some (ordB x y):=by
 unfold lJ ordB;rw [yS hx,yS hy];cases g:plT x
 ·rfl
 cases i:plT y
 ·rfl
 obtain ⟨d,l,h⟩:=jK.1 g;obtain ⟨c,f,j⟩:=jK.1 i;rw [fpT hx,fpT hy,fdT hx,fdT hy,wR d h,wR c j,ad d,ad c,ad l,ad f];simp only [ob,u5,u4,u3,u2,eG,ae,Bool.and_self,lZ];by_cases a:coT x=coT y
 ·rw [a,ar rfl];obtain ⟨r,k,m⟩:=EW (dyT x).1 (dyT y).1;simp only [eH,ae,k,lZ];refine gf some ?_;have:decide (r<=0)=!decide (r>0):=by
   by_cases e:r<=0
   ·rw [ar e,aq (by omega)];rfl
   ·rw [aq e,ar (by omega)];rfl
  rw [this,m];by_cases b:(dyT x).1<=(dyT y).1
  ·rw [ar b,aq (by omega)];rfl
  ·rw [aq b,ar (by omega)];rfl
 ·have:(((coT x:Nat):Int) != ((coT y:Nat):Int))=true:=by simp;omega
  rw [this,aq a];rfl
noncomputable def itE (x:TD) (r:Bool) (y:TD) (all:Bool):Int:=
 if cF x≠0 then cF x else if r=true/\cF y≠0 then cF y else if r=false/\eqD y d0=false then 5 else if r=true/\ordB x y=false then 10 else if all=true/\exT x=false then 10 else 0
theorem zF {x y:TD} (r:Bool) (hx:smT x) (hy:smT y) (K:Int) (hc:cF x=0) (a:¬(r=true/\cF y≠0)):dD 20000000 5 10 10 x r y K=some (itE x r y (K==4)):=by
 unfold dD pa oW oK itE;rw [FX hx hy,Fj hx,ab (by simpa using hc),ab a];cases r
 ·generalize eqD y d0=z;cases z
  ·rfl
  ·cases (K==4)
   ·rfl
   ·cases exT x<;>rfl
 ·simp only [ob,eG,ae,aj,reduceCtorEq,uh,aG,jm];cases ordB x y
  ·rfl
  ·simp only [eG,ae,Bool.true_eq_false,aG];cases (K==4)
   ·rfl
   ·cases exT x<;>rfl
theorem CY {x y:TD} (r:Bool) (hx:smT x) (hy:smT y) (K:Int):fJ 20000000 x r y K=some (if K=3\/K=4 then itE x r y (K==4) else 18):=by
 have b:(ob (ap10 (bp 20000000) x) λc=>(cond (c != 0) (some c) (cond r (ob (ap10 (bp 20000000) y) λe=>(cond (e != 0) (some e) (ob (dD 20000000 5 10 10 x r y K) λh=>(some h)))) (ob (dD 20000000 5 10 10 x r y K) λg=>(some g)))))=some (itE x r y (K==4)):=by
  rw [fcT hx];simp only [ob];by_cases hc:cF x=0
  ·rw [show (cF x != 0)=false from by simp [hc],ae];cases r
   ·rw [zF false hx hy K hc (by simp)];rfl
   ·rw [aj,fcT hy];simp only;by_cases a:cF y=0
    ·rw [show (cF y != 0)=false from by simp [a],ae,zF true hx hy K hc (by simp [a])]
    ·rw [show (cF y != 0)=true from by simp [a],aj];unfold itE;rw [ab (by simpa using hc),ad ⟨rfl,a⟩]
  ·rw [show (cF x != 0)=true from by simp [hc],aj];unfold itE;rw [ad hc]
 unfold fJ;by_cases d:K=3
 ·subst d;exact b.trans (by rfl)
 ·rw [show (K != 3)=true from by simp [d],aj];by_cases f:K=4
  ·subst f;exact b.trans (by rfl)
  ·rw [show (K != 4)=true from by simp [f],aj,ab (by omega)]
theorem P9 {x y:TD} {r all:Bool} (h:cF x≠0):itE x r y all=cF x:=ad h
theorem M1 {x y:TD} {all:Bool} (hc:cF x=0) (h:cF y≠0):itE x true y all=cF y:=by
 unfold itE;rw [ab (λh=>h hc),ad ⟨rfl,h⟩]
theorem Jv {x y:TD} {all:Bool} (hc:cF x=0):itE x false y all=if eqD y d0=false then 5 else if all=true/\exT x=false then 10 else 0:=by
 have b:(false=true/\cF y≠0)↔False:=by simp
 have a:(false=true/\ordB x y=false)↔False:=by simp
 have c:(false=false/\eqD y d0=false)↔eqD y d0=false:=by simp
 unfold itE;rw [ab (λh=>h hc)];simp only [b,a,aG,jm]
theorem Oq {x y:TD} {all:Bool} (hc:cF x=0) (hy:cF y=0):itE x true y all=if ordB x y=false then 10 else if all=true/\exT x=false then 10 else 0:=by
 have b:(true=true/\ordB x y=false)↔ordB x y=false:=by simp
 have a:(true=false/\eqD y d0=false)↔False:=by simp
 unfold itE;rw [ab (λh=>h hc),ab (λh=>h.2 hy)];simp only [a,aG,jm]
theorem SC (a b:Bool):(IntKind.wrap .i64 ((if a then (1:Int) else 0)*(if b then (1:Int) else 0))==0)=!(a&&b):=by cases a<;>cases b<;>rfl
theorem FL {x y:TD} (r all:Bool) (hx:smT x) (hy:smT y):gY 20000000 x r y all=some (itE x r y all):=by
 have c:cond all (ob (ap10 (ba 20000000) x) λd=>(cond (d==0) (some 10) (some 0))) (some 0)=some (if all=true/\exT x=false then (10:Int) else 0):=by
  rw [reT hx];cases all
  ·rfl
  ·cases exT x<;>rfl
 unfold gY;simp only [c];simp only [rcT hx,rcT hy,qS hx,qS hy,rcoT,ob,SC];by_cases hc:cF x=0
 ·rw [show (cF x != 0)=false from by simp [hc],ae];cases r
  ·simp only [ae,ko,aj];rw [Jv hc];generalize eqD y d0=z;cases z<;>rfl
  ·simp only [aj,eG,ae];by_cases a:cF y=0
   ·rw [show (cF y != 0)=false from by simp [a],ae];rw [Oq hc a];unfold ordB;cases g:plT x
    ·simp
    cases i:plT y
    ·simp
    obtain ⟨j,k,l⟩:=jK.1 g;obtain ⟨h,f,m⟩:=jK.1 i;rw [rdT hx j k,rdT hy h f];simp only [u2,Bool.and_self,eG,ae,lZ,jm];by_cases b:coT x=coT y
    ·rw [b,ar rfl];simp only [eH,ae,lZ];by_cases e:(dyT x).1<=(dyT y).1
     ·rw [show decide ((dyT x).1>(dyT y).1)=false from aq (by omega),ar e];simp
     ·rw [show decide ((dyT x).1>(dyT y).1)=true from ar (by omega),aq e];simp
    ·have:(((coT x:Nat):Int) != ((coT y:Nat):Int))=true:=by simp;omega
     rw [this,aq b];simp
   ·rw [show (cF y != 0)=true from by simp [a],aj];rw [M1 hc a]
 ·rw [show (cF x != 0)=true from by simp [hc],aj];rw [P9 hc]
def rK {A:Type} (f:Nat->A->Int):Nat->List A->Option (Nat×Int)
 | _,[]=>none
 | i,t::r=>if f i t≠0 then some (i,f i t) else rK f (i+1) r
theorem xw {A X Y:Type} {step:X->Option (X⊕Y)} {st:Nat->X} {L:List A} {f:Nat->A->Int} {yes:Nat->Int->Y} {no:Y}
  (g:∀i t,L[i]?=some t->step (st i)=some (if f i t≠0 then .inr (yes i (f i t)) else .inl (st (i+1)))) (c:step (st L.length)=some (.inr no)):
  ∀(r i:Nat),i+r=L.length->∀N,r<N->aw step N (st i)=some (match rK f i (L.drop i) with | some p=>yes p.1 p.2 | none=>no):=by
 intro r
 induction r with
 | zero=>
  intro i hi N e;obtain ⟨N,rfl⟩:∃k,N=k+1:=⟨N - 1,by omega⟩;rw [aw,show i=L.length by omega,c,II];rfl
 | succ r ih=>
  intro i hi N e;obtain ⟨N,rfl⟩:∃k,N=k+1:=⟨N - 1,by omega⟩;have a:i<L.length:=by omega
  have d:L[i]?=some L[i]:=bH a;rw [aw,g i _ d,wK a,rK];by_cases b:f i L[i]≠0
  ·rw [ad b,ad b]
  ·rw [ab b,ab b];exact ih (i+1) (by omega) N (by omega)
abbrev rT (t:TI):Bool:=(d8 t).2.2.1
abbrev iT (t:TI):TD:=(d8 t).2.2.2
def smI (t:TI):Prop:=smT (iF t)/\smT (iT t)
noncomputable def itI (t:TI) (all:Bool):Int:=itE (iF t) (rT t) (iT t) all
noncomputable def endB (t:TI):Bool:=!rT t&&plT (iF t)
noncomputable def errI (K:Int) (e l:Bool) (n i:Nat) (t:TI):Int:=
 if itI t (K==4)≠0 then itI t (K==4) else if (e&&decide (i=0))&&!endB t||((l&&decide (i+1=n))&&!endB t||(e&&(l&&decide (n=1)))) then 10 else 0
noncomputable def xi (K:Int) (e l:Bool) (L:List TI):Int×Int:=match rK (errI K e l L.length) 0 L with
 | some p=>((p.1:Int),p.2)
 | none=>(0,0)
theorem qG {i:Nat} (h:i<9223372036854775807):w64 ((i:Int)+1)=((i+1:Nat):Int):=by
 show IntKind.wrap .i64 _=_;rw [wrap_i64 _ (by omega) (by omega)];omega
theorem CB {i:Nat} (a:0<i) (h:i<9223372036854775807):w64 ((i:Int) - 1)=((i - 1:Nat):Int):=by
 show IntKind.wrap .i64 _=_;rw [wrap_i64 _ (by omega) (by omega)];omega
theorem natB (a b:Nat):(((a:Nat):Int)==((b:Nat):Int))=decide (a=b):=by
 by_cases h:a=b
 ·subst h;simp
 ·rw [aq h];simp;omega
theorem A8 (a:Nat):(((a:Nat):Int)==0)=decide (a=0):=natB a 0
theorem QU {x y:TD} (r:Bool) (hx:smT x):l8 20000000 x r y=some (!r&&plT x):=by
 unfold l8;rw [yS hx];cases r<;>rfl
theorem IJ {K:Int} (m:K=3\/K=4) {e l:Bool} {L:List TI} {i:Nat} {t:TI} (hi:L[i]?=some t) (hs:smI t) (o:L.length<=1000000) (D:TD) (KF:Int) (DF:TD) (KT:Int) (DT:TD):
  iN 20000000 (itI t (K==4)) 10 10 10 (iF t) (rT t) (iT t) K D KF DF KT DT e l (i:Int) (w64 (len L - 1)) L=some (errI K e l L.length i t):=by
 have k:i<L.length:=(om.1 hi).1;have d:w64 (len L - 1)=((L.length - 1:Nat):Int):=CB (by omega) (by omega);have g:fJ 20000000 (iF t) (rT t) (iT t) K=some (itI t (K==4)):=by
  rw [CY _ hs.1 hs.2,ad m];rfl
 unfold iN nM n8 nA nF errI;rw [g,d];simp only [QU (rT t) hs.1,ob,A8,natB];have n:decide (i=L.length - 1)=decide (i+1=L.length):=by congr 1;exact propext (by omega)
 have j:decide (L.length - 1=0)=decide (L.length=1):=by congr 1;exact propext (by omega)
 rw [n,j];show cond (itI t (K==4) != 0) _ _=_;by_cases f:itI t (K==4)=0
 ·rw [ab (λh=>h f),show (itI t (K==4) != 0)=false from by simp [f],ae];show _=some (if ((e&&decide (i=0))&&!endB t||((l&&decide (i+1=L.length))&&!endB t||(e&&(l&&decide (L.length=1)))))=true then 10 else 0);unfold endB;generalize (!rT t&&plT (iF t))=z;generalize decide (i=0)=a;generalize decide (i+1=L.length)=b;generalize decide (L.length=1)=c;cases e<;>cases l<;>cases z<;>cases a<;>cases b<;>cases c<;>rfl
 ·rw [ad f,show (itI t (K==4) != 0)=true from by simp [f],aj]
theorem Md {K:Int} (g:K=3\/K=4) {e l:Bool} {L:List TI} (hs:∀t∈L,smI t) (j:L.length<=1000000) (D:TD) (KF:Int) (DF:TD) (KT:Int) (DT:TD):
  nK 20000000 K D KF DF KT DT e l L=some (xi K e l L):=by
 have:=xw (step:=gF 20000000) (st:=λi=>(len L,(i:Int),L,K,D,KF,DF,KT,DT,e,l,w64 (len L - 1))) (L:=L) (f:=errI K e l L.length) (yes:=λi q=>.inl ((i:Int),q)) (no:=.inr ())
  (λi t hi=>by
   have c:i<L.length:=(om.1 hi).1;have a:=hs t (dT hi);have d:fJ 20000000 (iF t) (rT t) (iT t) K=some (itI t (K==4)):=by
    rw [CY _ a.1 a.2,ad g];rfl
   unfold gF;simp only [u12,u11,u10,u9,u8,u7,u6,u5,u4,u3,u2];rw [ar (show (i:Int)<len L by unfold len;omega),di c];simp only [aj,ob,hi];rw [show fJ 20000000 (iF t) (d8 t).2.2.1 (d8 t).2.2.2 K=some (itI t (K==4)) from d];simp only;rw [show iN 20000000 (itI t (K==4)) 10 10 10 (iF t) (d8 t).2.2.1 (d8 t).2.2.2 K D KF DF KT DT e l (i:Int) (w64 (len L - 1)) L=some (errI K e l L.length i t) from IJ g hi a j D KF DF KT DT];simp only;rw [qG (by omega)];by_cases b:errI K e l L.length i t=0
   ·rw [ab (λh=>h b),show (errI K e l L.length i t != 0)=false from by simp [b]];rfl
   ·rw [ad b,show (errI K e l L.length i t != 0)=true from by simp [b]];rfl)
  (by
   unfold gF;simp only [u12,u11,u10,u9,u8,u7,u6,u5,u4,u3,u2];rw [aq (show ¬((L.length:Nat):Int)<len L by unfold len;omega)];rfl)
  L.length 0 (by omega) 20000000 (by omega)
 unfold nK xi;rw [jO] at this;show obs (aw (gF 20000000) 20000000 (len L,((0:Nat):Int),L,K,D,KF,DF,KT,DT,e,l,w64 (len L - 1))) _ _=_;rw [this];cases rK (errI K e l L.length) 0 L<;>rfl
noncomputable def pQ (K:Int) (x:TD):Int:=chkB K x.1 x.2.1 x.2.2.1 x.2.2.2.1 x.2.2.2.2.1 x.2.2.2.2.2.1 x.2.2.2.2.2.2.1 x.2.2.2.2.2.2.2.1 x.2.2.2.2.2.2.2.2.1 x.2.2.2.2.2.2.2.2.2
noncomputable def pS (K:Int) (x:TD) (a:Int) (y:TD):Int:=Bm (pQ K x) (pQ a y) K a (dyT x).1 (dyT y).2
theorem Oa {x y:TD} (hx:smT x) (hy:smT y) (K a:Int):ap10 (ap10 (hP 20000000 K) x a) y=some (pS K x a y):=
 PI hx.1 hx.2.1 hx.2.2.1 hx.2.2.2.1 hx.2.2.2.2.1 hx.2.2.2.2.2 hy.1 hy.2.1 hy.2.2.1 hy.2.2.2.1 hy.2.2.2.2.1 hy.2.2.2.2.2
theorem Ci {x y:TD} (hx:smT x) (hy:smT y) (K a:Int):ap10 (ap10 (eo 20000000 K) x a) y=some (pS K x a y):=
 MB hx.1 hx.2.1 hx.2.2.1 hx.2.2.2.1 hx.2.2.2.2.1 hx.2.2.2.2.2 hy.1 hy.2.1 hy.2.2.1 hy.2.2.2.1 hy.2.2.2.2.1 hy.2.2.2.2.2
def unuB (K:Int) (D:TD) (KF:Int) (DF:TD) (KT:Int) (DT:TD) (e l:Bool) (n:Nat):Bool:=
 !(K==1||eqD D d0)||(!(K==2||((KF==0)&&((eqD DF d0)&&true))&&((KT==0)&&((eqD DT d0)&&true)))||!(K==3||(K==4||(decide (n=0)&&(!e&&!l)))))
theorem Gw (n:Nat) (K:Int) (D:TD) (KF:Int) (DF:TD) (KT:Int) (DT:TD) (e l:Bool) (L:List TI):
  mA n K D KF DF KT DT e l L=some (unuB K D KF DF KT DT e l L.length):=by
 unfold mA unuB;rw [show (len L==0)=decide (L.length=0) from A8 _];generalize eqD D d0=c;generalize ((KF==0)&&((eqD DF d0)&&true))=z1;generalize ((KT==0)&&((eqD DT d0)&&true))=z2;generalize decide (L.length=0)=b;generalize (K==1)=k1;generalize (K==2)=k2;generalize (K==3)=k3;generalize (K==4)=a;revert c z1 z2 b k1 k2 k3 a e l;decide +kernel
noncomputable def fR (K:Int) (D:TD) (KF:Int) (DF:TD) (KT:Int) (DT:TD) (e l:Bool) (L:List TI):Int×Int:=
 if K<1\/4<K then (0,18) else if unuB K D KF DF KT DT e l L.length=true then (0,5) else if K=1 then (0,cF D) else if K=2 then (0,pS KF DF KT DT) else if L.length=0 then (0,17) else if 256<L.length then (0,3) else xi K e l L
def smE (D DF DT:TD) (L:List TI):Prop:=smT D/\smT DF/\smT DT/\∀t∈L,smI t
theorem LG {K:Int} {D:TD} {KF:Int} {DF:TD} {KT:Int} {DT:TD} {e l:Bool} {L:List TI} (h:smE D DF DT L):
  nV 20000000 K D KF DF KT DT e l L=some (fR K D KF DF KT DT e l L):=by
 obtain ⟨j,i,f,g⟩:=h;unfold nV fR;by_cases b:K<1
 ·rw [ar b,ad (.inl b)];rfl
 by_cases c:4<K
 ·rw [aq b,show decide (K>4)=true from ar c,ad (.inr c)];rfl
 rw [aq b,show decide (K>4)=false from aq c,ab (by omega),Gw];simp only [ae,ob];cases unuB K D KF DF KT DT e l L.length
 ·simp only [ae,cE,aG];by_cases k1:K=1
  ·rw [ad k1,show (K==1)=true from by simp [k1],fcT j];rfl
  by_cases k2:K=2
  ·rw [ab k1,ad k2,show (K==1)=false from by simp [k1],show (K==2)=true from by simp [k2],Oa i f];rfl
  rw [ab k1,ab k2,show (K==1)=false from by simp [k1],show (K==2)=false from by simp [k2]];simp only [ae];rw [show (len L==0)=decide (L.length=0) from A8 _];by_cases a:L.length=0
  ·rw [ar a,ad a];rfl
  rw [aq a,ab a];by_cases d:256<L.length
  ·rw [show decide (len L>256)=true from ar (by show (256:Int)<((L.length:Nat):Int);omega),ad d];rfl
  rw [show decide (len L>256)=false from aq (by show ¬(256:Int)<((L.length:Nat):Int);omega),ab d,Md (by omega) g (by omega)];rfl
 ·rfl
theorem OU (n:Nat) (i:Int) (L:List TI) (K:Int) (D:TD) (KF:Int) (DF:TD) (KT:Int) (DT:TD) (e l:Bool) (x:TD) (r:Bool) (y:TD):
  ft n i L K D KF DF KT DT e l x r y=some (i,e&&(i==0),l&&(i==w64 (len L - 1)),L,K,D,KF,DF,KT,DT,e,l,x,r,y):=by
 unfold ft;cases e<;>cases l<;>rfl
theorem ON (i:Int) (a b:Bool) (L:List TI) (K:Int) (D:TD) (KF:Int) (DF:TD) (KT:Int) (DT:TD) (e l:Bool) (x:TD) (r:Bool) (y:TD) (hx:smT x):
  fD 20000000 i a b L K D KF DF KT DT e l x r y=some (i,(a&&b)||((a||b)&&(r||!plT x)),L,K,D,KF,DF,KT,DT,e,l):=by
 unfold fD;rw [qS hx];cases a<;>cases b<;>cases r<;>cases plT x<;>rfl
theorem Iw {K:Int} (x:K=3\/K=4) {e l:Bool} {L:List TI} (hs:∀t∈L,smI t) (w:L.length<=1000000) (D:TD) (KF:Int) (DF:TD) (KT:Int) (DT:TD):
  aw (du 20000000) 20000000 (0,L,K,D,KF,DF,KT,DT,e,l)=some (match rK (errI K e l L.length) 0 L with | some p=>.inl ((p.1:Int),p.2) | none=>.inr ()):=by
 have:=xw (step:=du 20000000) (st:=λi=>((i:Int),L,K,D,KF,DF,KT,DT,e,l)) (L:=L) (f:=errI K e l L.length) (yes:=λi q=>.inl ((i:Int),q)) (no:=.inr ())
  (λi t hi=>by
   have m:i<L.length:=(om.1 hi).1;have g:=hs t (dT hi);have n:gY 20000000 (iF t) (d8 t).2.2.1 (d8 t).2.2.2 (K==4)=some (itI t (K==4)):=FL _ _ g.1 g.2;have d:w64 (len L - 1)=((L.length - 1:Nat):Int):=CB (by omega) (by omega);unfold du;simp only [u15,u14,u13,u12,u11,u10,u9,u8,u7,u6,u5,u4,u3,u2];rw [ar (show (i:Int)<len L by unfold len;omega),di m];simp only [aj,ob,hi,n];by_cases k:itI t (K==4)=0
   ·rw [show (itI t (K==4) != 0)=false from by simp [k],ae];simp only [OU,d,A8,natB,u15,u14,u13,u12,u11,u10,u9,u8,u7,u6,u5,u4,u3,u2];rw [ON _ _ _ _ _ _ _ _ _ _ _ _ _ _ _ g.1];simp only [u11,u10,u9,u8,u7,u6,u5,u4,u3,u2];have u:decide (i=L.length - 1)=decide (i+1=L.length):=by congr 1;exact propext (by omega)
    have s:(decide (i=0)&&decide (i+1=L.length))=(decide (L.length=1)&&decide (i=0)):=by
     by_cases j:i=0
     ·subst j;rw [ar rfl,lZ,xc];congr 1;exact propext (by omega)
     ·rw [aq j,EM];rfl
    have o:decide (L.length=1)=true->decide (i=0)=true:=λh=>ar (by have:=BX h;omega);have v:errI K e l L.length i t=if ((e&&decide (i=0))&&(l&&decide (i+1=L.length)))||(((e&&decide (i=0))||(l&&decide (i+1=L.length)))&&(rT t||!plT (iF t))) then 10 else 0:=by
     unfold errI endB;rw [k,ab (λh=>h rfl)];congr 1;revert s o;generalize rT t=r;generalize plT (iF t)=z;generalize decide (i=0)=a;generalize decide (i+1=L.length)=b;generalize decide (L.length=1)=c;cases e<;>cases l<;>cases z<;>cases r<;>cases a<;>cases b<;>cases c<;>simp
    rw [u,qG (by omega),v];generalize (((e&&decide (i=0))&&(l&&decide (i+1=L.length)))||(((e&&decide (i=0))||(l&&decide (i+1=L.length)))&&(rT t||!plT (iF t))))=z;cases z<;>rfl
   ·have:errI K e l L.length i t=itI t (K==4):=ad k;rw [show (itI t (K==4) != 0)=true from by simp [k],aj,this,ad k])
  (by
   unfold du;simp only [u15,u14,u13,u12,u11,u10,u9,u8,u7,u6,u5,u4,u3,u2];rw [aq (show ¬((L.length:Nat):Int)<len L by unfold len;omega)];rfl)
  L.length 0 (by omega) 20000000 (by omega)
 rw [jO] at this;exact this
theorem CO {K:Int} {D:TD} {KF:Int} {DF:TD} {KT:Int} {DT:TD} {e l:Bool} {L:List TI} (h:smE D DF DT L):
  i6 20000000 K D KF DF KT DT e l L=some (fR K D KF DF KT DT e l L):=by
 obtain ⟨m,o,i,j⟩:=h;have j3:gj 20000000 L K D KF DF KT DT e l=some (K==3||K==4,L,K,D,KF,DF,KT,DT,e,l):=by
  unfold gj;cases (K==3)<;>rfl
 have j4:f9 20000000 (K==3||K==4) L K D KF DF KT DT e l=some (K==3||K==4,!(K==1)&&(!(K==2)&&!(K==3||K==4)),L,K,D,KF,DF,KT,DT,e,l):=by
  unfold f9;rw [show (K != 1)=!(K==1) from rfl,show (K != 2)=!(K==2) from rfl];cases (K==1)<;>cases (K==2)<;>rfl
 have j7:fZ 20000000 (K==3||K==4) L K D KF DF KT DT e l=some (unuB K D KF DF KT DT e l L.length,L,K,D,KF,DF,KT,DT,e,l):=by
  unfold fZ unuB;have a:decide (len L>0)=!decide (L.length=0):=by
   by_cases f:L.length=0
   ·rw [ar f,aq (by unfold len;omega)];rfl
   ·rw [aq f,ar (by unfold len;omega)];rfl
  rw [show (K != 1)=!(K==1) from rfl,show (K != 2)=!(K==2) from rfl,a];generalize eqD D d0=p;generalize ((KF==0)&&((eqD DF d0)&&true))=z1;generalize ((KT==0)&&((eqD DT d0)&&true))=z2;generalize decide (L.length=0)=n;generalize (K==1)=k1;generalize (K==2)=k2;generalize (K==3)=k3;generalize (K==4)=k;cases p<;>cases z1<;>cases z2<;>cases n<;>cases k1<;>cases k2<;>cases k3<;>cases k<;>cases e<;>cases l<;>rfl
 unfold i6 fR;rw [j3];simp only [ob,u11,u10,u9,u8,u7,u6,u5,u4,u3,u2,j4];by_cases g:K<1\/4<K
 ·rw [ad g,show (K==1)=false from by simp;omega,show (K==2)=false from by simp;omega,show (K==3)=false from by simp;omega,show (K==4)=false from by simp;omega];rfl
 have c:(!(K==1)&&(!(K==2)&&!(K==3||K==4)))=false:=by
  rcases (by omega:K=1\/K=2\/K=3\/K=4) with rfl | rfl | rfl | rfl<;>rfl
 rw [ab g,c];simp only [ae,j7];cases unuB K D KF DF KT DT e l L.length
 ·simp only [ae,cE,aG];by_cases k1:K=1
  ·rw [ad k1,show (K==1)=true from by simp [k1],rcT m];rfl
  by_cases k2:K=2
  ·rw [ab k1,ad k2,show (K==1)=false from by simp [k1],show (K==2)=true from by simp [k2],Ci o i];rfl
  rw [ab k1,ab k2,show (K==1)=false from by simp [k1],show (K==2)=false from by simp [k2]];simp only [ae];rw [show (len L==0)=decide (L.length=0) from A8 _];by_cases b:L.length=0
  ·rw [ar b,ad b];rfl
  rw [aq b,ab b];by_cases d:256<L.length
  ·rw [show decide (len L>256)=true from ar (by show (256:Int)<((L.length:Nat):Int);omega),ad d];rfl
  rw [show decide (len L>256)=false from aq (by show ¬(256:Int)<((L.length:Nat):Int);omega),ab d,ae,ae,Iw (by omega) j (by omega)];unfold xi;cases rK (errI K e l L.length) 0 L<;>rfl
 ·rfl
theorem DZ {K:Int} {D:TD} {KF:Int} {DF:TD} {KT:Int} {DT:TD} {e l:Bool} {L:List TI} (h:smE D DF DT L):
  je 20000000 K D KF DF KT DT e l L=some (fR K D KF DF KT DT e l L).2:=by
 unfold je;rw [LG h];rfl
theorem Bi {K:Int} {D:TD} {KF:Int} {DF:TD} {KT:Int} {DT:TD} {e l:Bool} {L:List TI} (h:smE D DF DT L):
  ci 20000000 K D KF DF KT DT e l L=some (fR K D KF DF KT DT e l L).2:=by
 unfold ci;rw [CO h];rfl
abbrev TR:=af
def natI (x:Int) (b:Nat):Prop:=0<=x/\x<(b:Int)
def wfD (g e f h a b i c d:Int):Prop:=natI g 256/\natI e 65536/\natI f 256/\natI h 256/\natI a 256/\natI b 256/\natI i 256/\natI c 256/\natI d 256
theorem natI.nat {x:Int} {b:Nat} (h:natI x b):∃n:Nat,x=(n:Int)/\n<b:=⟨x.toNat,by have:=h.1;omega,by have:=h.1;have:=h.2;omega⟩
theorem DofI {i n c j a f k b m:Int} (g:Bool) (h:wfD i n c j a f k b m):∃x:TD,aC 20000000 i g n c j a f k b m=some x/\smT x/\cF x=0:=by
 obtain ⟨J,G,z,C,L,E,N,M,s⟩:=h;obtain ⟨i,rfl,O⟩:=J.nat;obtain ⟨n,rfl,D⟩:=G.nat;obtain ⟨c,rfl,K⟩:=z.nat;obtain ⟨j,rfl,B⟩:=C.nat;obtain ⟨a,rfl,H⟩:=L.nat;obtain ⟨f,rfl,I⟩:=E.nat;obtain ⟨k,rfl,u⟩:=N.nat;obtain ⟨b,rfl,v⟩:=M.nat;obtain ⟨m,rfl,F⟩:=s.nat;obtain ⟨P,l,dg,x,q,w,d,k0,k1,k2,e,hc,A,y⟩:=QF 19999700 i n c j a f k b m g D K B H I u v F;obtain ⟨r,p,o,_⟩:=mU hc;obtain ⟨_,_,_,_,_,t⟩:=jF r;refine ⟨_,e,⟨?_,by show dg.length<=100;omega,?_,by simp,by simp,by simp⟩,EZ hc y⟩
 ·rcases p with h | h
  ·rw [h];simp
  ·show w.length<=18;omega
 ·rcases o with h | h
  ·rw [h];simp
  ·show d.length<=18;omega
theorem J8:((List.range 13).all λj=>sea (monT j)==0)=true:=by decide +kernel
theorem S7 (n i b h a f o k p:Nat) (g:Bool) (w:i<65536) (t:b<256) (u:h<256) (y:a<256) (v:f<256) (A:a%40<=12):
  ∃r:TD,aC 20000000 (n:Int) g (i:Int) (b:Int) (h:Int) (a:Int) (f:Int) (o:Int) (k:Int) (p:Int)=some r/\seT r=0:=by
 obtain ⟨z,l,dg,x,q,s,d,e,_,_,_,_,j,c,_⟩:=Iq 19999700 n i b h a f o k p g w t u y v;refine ⟨_,e,?_⟩;show sea s=0;by_cases m:q=0
 ·rw [c m];have:=(cr.1 J8) (a%40) (jk.2 (by omega));simpa using this
 ·rw [(j m).1];decide
theorem ExI {i q k m f b n j p:Int} (g:Bool) (h:wfD i q k m f b n j p):
  ∃x:TD,br 20000000 i g q k m f b n j p=some x/\smT x/\cF x=0/\exT x=true/\(Int.tmod f 40<=12->seT x=0):=by
 obtain ⟨T,O,u,v,U,z,W,V,J⟩:=h;obtain ⟨i,rfl,G⟩:=T.nat;obtain ⟨q,rfl,C⟩:=O.nat;obtain ⟨k,rfl,E⟩:=u.nat;obtain ⟨m,rfl,B⟩:=v.nat;obtain ⟨f,rfl,D⟩:=U.nat;obtain ⟨b,rfl,R⟩:=z.nat;obtain ⟨n,rfl,Y⟩:=W.nat;obtain ⟨j,rfl,Z⟩:=V.nat;obtain ⟨p,rfl,b9⟩:=J.nat;obtain ⟨K,l,dg,x,L,d,k0,k1,k2,e,hc,H,w,s,t⟩:=Ef 19999700 i q k m f b n j p g G C E B D R;refine ⟨_,e,⟨w,t,s,by simp,by simp,by simp⟩,hc,H,λQ=>?_⟩;have A:Int.tmod (f:Int) 40=((f%40:Nat):Int):=rfl;rw [A] at Q;have I:Int.tmod (b:Int) 40=((b%40:Nat):Int):=rfl;have X:Int.tdiv ((b%40:Nat):Int) 2=((b%40 / 2:Nat):Int):=rfl;have P:IntKind.wrap .u8 ((b%40 / 2:Nat):Int)=((b%40 / 2:Nat):Int):=eY _ (by omega) (by omega);have S:=λ(M c6:Nat) (z:c6<256)=>S7 M q k m f c6 n j p g C E B D z (by omega);have e':br 20000000 (i:Int) g (q:Int) (k:Int) (m:Int) (f:Int) (b:Int) (n:Int) (j:Int) (p:Int)=some (K,l,dg,x,0,L,d,((k0:Nat):Int),((k1:Nat):Int),((k2:Nat):Int)):=e;have key:∀(o:Option TD) (y:TD),(∃r:TD,o=some r/\seT r=0)->(ob o λa=>(cond (decide ((d4 a).1>0)) (some (a.1,a.2.1,a.2.2.1,a.2.2.2.1,(0:Int),(d4 a).2.1,(d4 a).2.2.1,(d4 a).2.2.2.1,(d8 a).1,(d8 a).2)) (some (a.1,a.2.1,a.2.2.1,a.2.2.2.1,(d4 a).1,(d4 a).2.1,(d4 a).2.2.1,(d4 a).2.2.2.1,(d8 a).1,(d8 a).2))))=some y->seT y=0:=by
  rintro o y ⟨r,rfl,N⟩ hy;simp only [ob] at hy;cases F:decide ((d4 r).1>0)<;>rw [F] at hy<;>simp only [aj,ae,am] at hy<;>subst hy<;>exact N
 unfold br at e';rw [A,I,X,P] at e';rw [aq (show ¬((f%40:Nat):Int)>33 by omega)] at e';simp only [ae] at e';have z0:(0:Int)=((0:Nat):Int):=rfl;cases u:(Int.tmod (i:Int) 6==3)<;>rw [u] at e'<;>simp only [aj,ae] at e'
 ·cases v:(Int.tmod (i:Int) 6==4)<;>rw [v] at e'<;>simp only [aj,ae] at e'
  ·cases c:decide (((b%40:Nat):Int)>31)<;>rw [c] at e'<;>simp only [aj,ae] at e'
   ·exact key _ _ (S i b (by omega)) e'
   ·exact key _ _ (S i (b%40 / 2) (by omega)) e'
  ·cases c:decide (((b%40:Nat):Int)>31)<;>rw [c] at e'<;>simp only [aj,ae] at e'
   ·exact key _ _ (S 0 b (by omega)) e'
   ·exact key _ _ (S 0 (b%40 / 2) (by omega)) e'
 ·cases c:decide (((b%40:Nat):Int)>31)<;>rw [c] at e'<;>simp only [aj,ae] at e'
  ·exact key _ _ (S 0 b (by omega)) e'
  ·exact key _ _ (S 0 (b%40 / 2) (by omega)) e'
theorem EP {l i j n q d o c f:Int} (g:Bool) (h:wfD l i j n q d o c f):∃x:TD,bP 20000000 l g i j n q d o c f=some x/\smT x/\plT x=true:=by
 obtain ⟨a,rfl,t⟩:=h.2.2.2.2.1.nat;have r:Int.tmod (a:Int) 40=((a%40:Nat):Int):=rfl;have p:Int.tmod ((a%40:Nat):Int) 12=((a%40%12:Nat):Int):=rfl;unfold bP;rw [r,p];by_cases u:12<a%40
 ·rw [ar (show ((a%40:Nat):Int)>12 by omega),aj];have w:w8 (((a%40%12:Nat):Int)+1)=((a%40%12+1:Nat):Int):=by
   show IntKind.wrap .u8 _=_;rw [eY _ (by omega) (by omega)];omega
  rw [w];have s:wfD l i j n ((a%40%12+1:Nat):Int) d o c f:=⟨h.1,h.2.1,h.2.2.1,h.2.2.2.1,⟨by omega,by omega⟩,h.2.2.2.2.2⟩;obtain ⟨x,e,hs,hc,k,b⟩:=ExI g s;have m:seT x=0:=b (by
   show (((a%40%12+1)%40:Nat):Int)<=12;omega)
  exact ⟨x,by rw [e];rfl,hs,jK.2 ⟨hc,k,by omega⟩⟩
 ·rw [aq (show ¬((a%40:Nat):Int)>12 by omega),ae];obtain ⟨x,e,hs,hc,k,b⟩:=ExI g h;have m:seT x=0:=b (by rw [r];omega);exact ⟨x,by rw [e];rfl,hs,jK.2 ⟨hc,k,by omega⟩⟩
theorem BofI {k j p f m b i n c o:Int} (g:Bool) (F:natI k 256) (h:wfD j p f m b i n c o):
  ∃(K:Int) (x:TD),bS 20000000 k j g p f m b i n c o=some (K,x)/\smT x/\pQ K x=0/\(K=1\/((K=2\/K=3)/\x=d0)):=by
 obtain ⟨N,I,z,C,P,H,R,Q,t⟩:=h;obtain ⟨k,rfl,bk⟩:=F.nat;obtain ⟨j,rfl,s⟩:=N.nat;obtain ⟨p,rfl,D⟩:=I.nat;obtain ⟨f,rfl,O⟩:=z.nat;obtain ⟨m,rfl,A⟩:=C.nat;obtain ⟨b,rfl,L⟩:=P.nat;obtain ⟨i,rfl,M⟩:=H.nat;obtain ⟨n,rfl,W⟩:=R.nat;obtain ⟨c,rfl,X⟩:=Q.nat;obtain ⟨o,rfl,Z⟩:=t.nat;obtain ⟨K,V,l,dg,x,Y,d,k0,k1,k2,e,hc,r,a,q,G⟩:=B_of 19999700 k j p f m b i n c o g s D O A L M;refine ⟨K,_,e,⟨r,q,a,by simp,by simp,by simp⟩,hc,G.imp id λ⟨U,v,w,S,u,T,B,y,E,J⟩=>⟨U,?_⟩⟩;subst v w S u T B y E J;rfl
theorem IA {g l:Bool} {dg:aa} {x:Int} {m d:aa} {k0 k1 k2:Int} (h:chkD g l dg x 0 m d k0 k1 k2=0) (e:m≠[]) (hp:0<=k0/\0<=k1):chkD g l dg x 0 m [] k0 k1 0=0:=by
 obtain ⟨f,c,j,a⟩:=Ah h;unfold chkD;have b:bq m []=2:=by unfold bq;simp [e]
 have i:allM k0 k1 0 2=0:=by
  unfold allM at a ⊢;by_cases hx:3<k0\/3<k1\/3<k2\/(bq m d<2/\k1≠0)\/(bq m d<3/\k2≠0)
  ·rw [ad hx] at a;cases a
  ·rw [ab (by omega)]
 rw [f,b,i];have:(!(m==[])&&(!(decide (0<sea m))&&!(dG m 12)))=false:=by
  rcases c with h | h | h
  ·rw [h];rfl
  ·rw [ar h];simp
  ·rw [h];simp
 rw [this];rfl
theorem IF {g l:Bool} {dg:aa} {x:Int} {m d:aa} {k0 k1 k2:Int} (h:chkD g l dg x 0 m d k0 k1 k2=0):chkD g l dg x 0 [] [] k0 0 0=0:=by
 obtain ⟨c,i,f,b⟩:=Ah h;have hy:yrD g l dg x 0 []=true:=by
  unfold yrD at c ⊢;by_cases a:okY g l dg x 0
  ·rw [ad a];unfold yrB;rfl
  ·rw [ab a] at c;cases c
 have e:allM k0 0 0 1=0:=by
  unfold allM at b ⊢;by_cases hx:3<k0\/3<k1\/3<k2\/(bq m d<2/\k1≠0)\/(bq m d<3/\k2≠0)
  ·rw [ad hx] at b;cases b
  ·rw [ab (by omega)]
 unfold chkD;rw [hy,show bq [] []=1 from rfl,e];rfl
theorem xF {g l:Bool} {dg:aa} {x q:Int} {m:aa} {k0 k1 k2:Int} (h:chkD g l dg x q m [] k0 k1 k2=0):chkF g l dg x q m [] k0 k1 k2=0:=by
 unfold chkF;rw [ab (λh=>h.2.1 rfl),h]
theorem By (x:TD):1<=coT x/\coT x<=3:=mg _ _
theorem cutI {x:TD} (hs:smT x) (hp:plT x=true) {n:Nat} (F:1<=n) (r:n<=coT x):∃y:TD,iU 20000000 x (n:Int)=some y/\smT y/\plT y=true/\coT y=n:=by
 obtain ⟨hc,t,o⟩:=jK.1 hp;obtain ⟨u,E⟩:=Jk hc t;have c:=kR hc;obtain ⟨g,l,dg,e,q,m,d,k0,k1,k2⟩:=x;obtain ⟨k,h,v,f,i,w⟩:=hs;simp only at k h v f i w c u E;subst u;have B:=By (g,l,dg,e,0,m,d,k0,k1,k2);have b:exD dg m d 0=true:=t;obtain ⟨_,_,A⟩:=qK hc;have p:coT (g,l,dg,e,0,m,d,k0,k1,k2)=bq m d:=rfl;unfold iU;by_cases D:n<3
 ·rw [ar (show (n:Int)<3 by omega),aj];by_cases C:n<2
  ·rw [ar (show (n:Int)<2 by omega),aj];have j:n=1:=by omega
   subst j;have a:=IF c;exact ⟨_,rfl,⟨by simp,h,by simp,f,by simp,by simp⟩,jK.2 ⟨xF a,(HH b).2,by show ¬0<sea [];decide⟩,rfl⟩
  ·rw [aq (show ¬(n:Int)<2 by omega),ae];have j:n=2:=by omega
   subst j;have z:m≠[]:=by
    rintro rfl;rw [p] at r;unfold bq at r;by_cases s:d=[]
    ·simp [s] at r
    ·exact absurd rfl (A s).1
   have a:=IA c z ⟨f,i⟩;exact ⟨_,rfl,⟨k,h,by simp,f,i,by simp⟩,jK.2 ⟨xF a,(HH b).1,o⟩,by show bq m []=2;unfold bq;simp [z]⟩
 ·rw [aq (show ¬(n:Int)<3 by omega),ae,aq (show ¬(n:Int)<2 by omega),ae];exact ⟨_,rfl,⟨k,h,v,f,i,w⟩,hp,by omega⟩
theorem JH {p:TD} {all:Bool} (hp:plT p=true):itE p false d0 all=0:=by
 obtain ⟨hc,a,_⟩:=jK.1 hp;rw [Jv hc,a];have:eqD d0 d0=true:=jA.2 rfl;rw [this];simp
theorem AU {x y:TD} {all:Bool} (hx:plT x=true) (hy:plT y=true) (hc:coT x=coT y) (a:(dyT x).1<=(dyT y).1):itE x true y all=0:=by
 obtain ⟨c,d,_⟩:=jK.1 hx;obtain ⟨b,e,_⟩:=jK.1 hy;rw [Oq c b,d];have:ordB x y=true:=by unfold ordB;rw [hx,hy,ar hc,ar a];rfl
 rw [this];simp
theorem Tn {t D o w j s B k C:Int} (g:Bool) {l A H z F G p q E:Int} (f:Bool) (R:Int) (all:Bool) (i:wfD t D o w j s B k C) (T:wfD l A H z F G p q E):
  ∃x r y,fM 20000000 t g D o w j s B k C R l f A H z F G p q E all=some (x,r,y)/\smT x/\smT y/\itE x r y all=0:=by
 unfold fM;cases (Int.tmod R 2==1)
 ·rw [ae];cases all
  ·obtain ⟨x,e,hs,hc⟩:=DofI g i;refine ⟨x,false,d0,by rw [ae,e];rfl,hs,wk,?_⟩;have:eqD d0 d0=true:=jA.2 rfl;rw [Jv hc,this];simp
  ·obtain ⟨x,e,hs,hc,J,_⟩:=ExI g i;refine ⟨x,false,d0,by rw [aj,e];rfl,hs,wk,?_⟩;have:eqD d0 d0=true:=jA.2 rfl;rw [Jv hc,this,J];simp
 ·rw [aj];obtain ⟨x,ex,sx,U⟩:=EP g i;obtain ⟨y,N,V,K⟩:=EP f T;rw [ex,N];simp only [ob,rcoT];have L:(cond (decide (((coT y:Nat):Int)<((coT x:Nat):Int))) ((coT y:Nat):Int) ((coT x:Nat):Int))=((min (coT x) (coT y):Nat):Int):=by
   by_cases h:coT y<coT x
   ·rw [ar (by omega),aj];omega
   ·rw [aq (by omega),ae];omega
  rw [L];have Y:=By x;have Z:=By y;obtain ⟨u,S,b,a,W⟩:=cutI sx U (n:=min (coT x) (coT y)) (by omega) (by omega);obtain ⟨v,P,d,c,X⟩:=cutI V K (n:=min (coT x) (coT y)) (by omega) (by omega);obtain ⟨Q,I,_⟩:=jK.1 a;obtain ⟨M,O,_⟩:=jK.1 c;rw [S,P];simp only [rdT b Q I,rdT d M O,u2];by_cases m:(dyT u).1>(dyT v).1
  ·rw [ar m];exact ⟨v,true,u,rfl,d,b,AU c a (by omega) (by omega)⟩
  ·rw [aq m];exact ⟨u,true,v,rfl,b,d,AU a c (by omega) (by omega)⟩
def wfR (r:TR):Prop:=wfD r.1 r.2.2.1 r.2.2.2.1 (d4 r).1 (d4 r).2.1 (d4 r).2.2.1 (d4 r).2.2.2.1 (d8 r).1 (d8 r).2.1/\
 wfD (d8 r).2.2.2.1 (d4 (d8 r)).2.1 (d4 (d8 r)).2.2.1 (d4 (d8 r)).2.2.2.1 (d16 r).1 (d16 r).2.1 (d16 r).2.2.1 (d16 r).2.2.2.1 (d4 (d16 r))
theorem xE {A:Type} {f:Nat->A->Int}:∀{L:List A} {k:Nat},(∀i t,L[i]?=some t->f (k+i) t=0)->rK f k L=none
 | [],_,_=>rfl
 | t::r,k,h=>by
  have a:=h 0 t rfl;rw [fg] at a;rw [rK,ab (λh=>h a)];exact xE λi u b=>by rw [il,qI 1 i];exact h (i+1) u b
structure RightE (k:Int) (D:TD) (KF:Int) (DF:TD) (KT:Int) (DT:TD) (e l:Bool) (I:List TI):Prop where
 sm:smE D DF DT I
 first:fR k D KF DF KT DT e l I=(0,0)
 len:I.length<=5
 kind:1<=k/\k<=4
 its:∀t∈I,itI t (k==4)=0
theorem I3 {k:Int} (p:k=3\/k=4) {e l:Bool} {I:List TI} (s:1<=I.length) (o:I.length<=5) (hs:∀t∈I,smI t/\itI t (k==4)=0) (n:e=true->∃t,I[0]?=some t/\endB t=true)
  (m:l=true->∃t,I[I.length - 1]?=some t/\endB t=true) (g:e=true->l=true->I.length≠1):RightE k d0 0 d0 0 d0 e l I:=by
 refine ⟨⟨wk,wk,wk,λt d=>(hs t d).1⟩,?_,o,by omega,λt d=>(hs t d).2⟩;have r:unuB k d0 0 d0 0 d0 e l I.length=false:=by
  have q:eqD d0 d0=true:=jA.2 rfl;unfold unuB;rw [q];rcases p with rfl | rfl<;>rfl
 unfold fR;rw [ab (by omega),ab (by rw [r];simp),ab (by omega),ab (by omega),ab (by omega),ab (by omega)];unfold xi;rw [xE λi t d=>?_];rw [cV];have j:i<I.length:=(om.1 d).1;unfold errI;rw [(hs t (dT d)).2,ab (λh=>h rfl),ab];intro h;simp only [gC,ay,cj,kn] at h;rcases h with ⟨⟨a,b⟩,c⟩ | ⟨⟨a,b⟩,c⟩ | ⟨a,b,c⟩
 ·obtain ⟨u,f,u2⟩:=n a;subst b;rw [d] at f;cases f;rw [u2] at c;cases c
 ·obtain ⟨u,f,u2⟩:=m a;rw [show I.length - 1=i by omega,d] at f;cases f;rw [u2] at c;cases c
 ·exact g a b c
theorem wC {p:TD} {all:Bool} (hs:smT p) (hp:plT p=true):smI (mkI p false d0)/\itI (mkI p false d0) all=0/\endB (mkI p false d0)=true:=
 ⟨⟨hs,wk⟩,JH hp,by unfold endB;show (!false&&plT p)=true;rw [hp];rfl⟩
theorem M6 (n x0:Nat) (v:Int) (k:Bool) (u:Int) (s:TD) (l:Int) (m:TD) (o:Int) (t:TD) (q h:Bool) {L:List TR} (b:Int) (d:TD) (e:Int) (c:TD) (x16:Int) (g:TD) (j a:Bool) (f I:List TI)
  {r:TR} {p:TD} (A:0<x0) (z:L[0]?=some r) (w:0<I.length) (hp:bP n r.1 r.2.1 r.2.2.1 r.2.2.2.1 (d4 r).1 (d4 r).2.1 (d4 r).2.2.1 (d4 r).2.2.2.1 (d8 r).1 (d8 r).2.1=some p):
  fX n x0 v k u s l m o t q h L b d e c x16 g j a f I=some (x0,v,u,s,l,m,o,t,q,h,L,b,d,e,c,x16,g,j,a,f,if k=true then I.set 0 (mkI p false d0) else I)/\
  fB n x0 v k L u s l m o t q h b d e c x16 g j a f I=some (x0,v,L,u,s,l,m,o,t,q,h,b,d,e,c,x16,g,j,a,f,if k=true then I.set 0 (mkI p false d0) else I):=by
 unfold fX fB;cases k
 ·exact ⟨rfl,rfl⟩
 ·have x:ix x0 (0:Int)=some 0:=di (i:=0) A;have y:ix I.length (0:Int)=some 0:=di (i:=0) w;simp only [aj,x,y,z,hp,ob,bH w,aY];constructor<;>trivial
theorem ME (n x0 m:Nat) (j:Bool) (u:Int) (s:TD) (k:Int) (l:TD) (o:Int) (t:TD) (q h:Bool) {L:List TR} (b:Int) (d:TD) (e:Int) (c:TD) (x16:Int) (g:TD) (i a:Bool) (f I:List TI)
  {r:TR} {p:TD} (x:m<x0) (w:L[m]?=some r) (v:m<I.length) (hp:bP n r.1 r.2.1 r.2.2.1 r.2.2.2.1 (d4 r).1 (d4 r).2.1 (d4 r).2.2.1 (d4 r).2.2.2.1 (d8 r).1 (d8 r).2.1=some p):
  gk n x0 (m:Int) j u s k l o t q h L b d e c x16 g i a f I=some ((m:Int),u,s,k,l,o,t,q,h,b,d,e,c,x16,g,i,a,f,if j=true then I.set m (mkI p false d0) else I)/\
  fC n x0 (m:Int) j L u s k l o t q h b d e c x16 g i a f I=some ((m:Int),u,s,k,l,o,t,q,h,b,d,e,c,x16,g,i,a,f,if j=true then I.set m (mkI p false d0) else I):=by
 unfold gk fC;cases j
 ·exact ⟨rfl,rfl⟩
 ·simp only [aj,di x,di v,w,hp,ob,bH v,aY];constructor<;>trivial
theorem EX {L:List TR} (E:∀r∈L,wfR r) {n:Nat} (K:n<=L.length) (M:n<=5) (k:Int) (e l:Bool) (c:List TI):
  ∃I:List TI,I.length=n/\(∀t∈I,smI t/\itI t (k==4)=0)/\
   aw (co 20000000) 20000000 (n,0,L,k,e,l,c,([]:List TI))=some (n,0,d0,0,d0,0,d0,false,false,L,k,d0,0,d0,0,d0,e,l,c,I)/\
   aw (ca 20000000) 20000000 (n,0,L,k,e,l,c,([]:List TI))=some (n,L,0,d0,0,d0,0,d0,false,false,k,d0,0,d0,0,d0,e,l,c,I):=by
 have p:∀i (r:TR) (a:List TI),i<n->L[i]?=some r->a.length=i->∃b:TI,(smI b/\itI b (k==4)=0)/\
   co 20000000 (n,(i:Int),L,k,e,l,c,a)=some (.inl (n,((i+1:Nat):Int),L,k,e,l,c,a++[b]))/\
   ca 20000000 (n,(i:Int),L,k,e,l,c,a)=some (.inl (n,((i+1:Nat):Int),L,k,e,l,c,a++[b])):=by
  intro i r a hi q m;obtain ⟨D,G⟩:=E r (dT q);obtain ⟨x,f,y,s,sx,J,w⟩:=Tn r.2.1 (d4 (d8 r)).1 (d8 r).2.2.1 (k==4) D G;refine ⟨mkI x f y,⟨⟨sx,J⟩,w⟩,?_,?_⟩
  ·unfold co;simp only [u8,u7,u6,u5,u4,u3,u2];rw [ar (show (i:Int)<((n:Nat):Int) by omega),di hi];simp only [aj,ob,q,s];rw [qG (by omega),show Nat.ble (a.length+1) dE=true from cU (by unfold dE;omega)];rfl
  ·unfold ca;simp only [u8,u7,u6,u5,u4,u3,u2];rw [ar (show (i:Int)<((n:Nat):Int) by omega),di hi];simp only [aj,ob,q,s];rw [qG (by omega),show Nat.ble (a.length+1) dE=true from cU (by unfold dE;omega)];rfl
 have g:∀a:List TI,co 20000000 (n,(n:Int),L,k,e,l,c,a)=some (.inr (n,0,d0,0,d0,0,d0,false,false,L,k,d0,0,d0,0,d0,e,l,c,a)):=λa=>by
  unfold co;simp only [u8,u7,u6,u5,u4,u3,u2];rw [aq (show ¬((n:Nat):Int)<((n:Nat):Int) by omega)];rfl
 have d:∀a:List TI,ca 20000000 (n,(n:Int),L,k,e,l,c,a)=some (.inr (n,L,0,d0,0,d0,0,d0,false,false,k,d0,0,d0,0,d0,e,l,c,a)):=λa=>by
  unfold ca;simp only [u8,u7,u6,u5,u4,u3,u2];rw [aq (show ¬((n:Nat):Int)<((n:Nat):Int) by omega)];rfl
 have j:∀(r i:Nat) (a:List TI),i+r=n->a.length=i->(∀t∈a,smI t/\itI t (k==4)=0)->∀N,r<N->∃I:List TI,I.length=n/\(∀t∈I,smI t/\itI t (k==4)=0)/\
   aw (co 20000000) N (n,(i:Int),L,k,e,l,c,a)=some (n,0,d0,0,d0,0,d0,false,false,L,k,d0,0,d0,0,d0,e,l,c,I)/\
   aw (ca 20000000) N (n,(i:Int),L,k,e,l,c,a)=some (n,L,0,d0,0,d0,0,d0,false,false,k,d0,0,d0,0,d0,e,l,c,I):=by
  intro r
  induction r with
  | zero=>
   intro i a hi m o N z;obtain ⟨N,rfl⟩:∃k,N=k+1:=⟨N - 1,by omega⟩;obtain rfl:i=n:=by omega
   exact ⟨a,m,o,by rw [aw,g],by rw [aw,d]⟩
  | succ r ih=>
   intro i a hi m o N z;obtain ⟨N,rfl⟩:∃k,N=k+1:=⟨N - 1,by omega⟩;obtain ⟨b,C,B,v⟩:=p i _ a (by omega) (bH (show i<L.length by omega)) m
   obtain ⟨I,o1,F,H,A⟩:=ih (i+1) (a++[b]) (by omega) (by simp [m]) (λx hx=>by
    rcases kA.1 hx with h | h
    ·exact o x h
    ·rw [uB.1 h];exact C) N (by omega)
   exact ⟨I,o1,F,by rw [aw,B];exact H,by rw [aw,v];exact A⟩
 exact j n 0 [] (by omega) rfl (λt u=>by cases u) 20000000 (by omega)
theorem Q5 (n x0:Nat) (a:Int) (b:Bool) (P:List TR) (f c e g:Int) (L:List TR) (d:List TI):
  gQ n x0 a b P f c e g L d=some (x0,a,b||(a==1||a==2),P,f,c,e,g,L,d)/\
  gm n x0 a b P f c e g d=some (x0,a,b||(a==1||a==2),P,f,c,e,g,d):=by
 unfold gQ gm jh iM;cases b<;>cases (a==1)<;>exact ⟨rfl,rfl⟩
theorem MR (n x0:Nat) (c:Int) (a:Bool) (P:List TR) (f b e g:Int) (L:List TR) (d:List TI):
  gn n x0 c a P f b e g L d=some (x0,a||c==4,P,f,b,e,g,L,d)/\
  fF n x0 c a P f b e g d=some (x0,a||c==4,P,f,b,e,g,d):=by
 unfold gn fF;cases a<;>exact ⟨rfl,rfl⟩
theorem Nz (n x0:Nat) (b:Bool) (L:List TR) (e l:Bool) (a c:List TI):
  ge n x0 b L e l a c=some (x0,L,(if b then 4 else 3),e,l,a,c)/\fq n x0 b L e l a c=some (x0,L,(if b then 4 else 3),e,l,a,c):=by
 unfold ge fq;cases b<;>exact ⟨rfl,rfl⟩
theorem Na (n:Nat) (x0 j:Int) (k:TD) (o:Int) (q:TD) (i:Int) (m:TD) (r p:Bool) (l:Int) (b:TD) (e:Int) (f:TD) (c:Int) (d:TD) (a x16:Bool) (g h:List TI):
  eD n x0 j k o q i m r p l b e f c d a x16 g h=some ((x0==0)&&a,j,k,o,q,i,m,r,p,l,b,e,f,c,d,a,x16,g,h):=by
 unfold eD;cases (x0==0)<;>rfl
theorem Nj (n:Nat) (x0:Bool) (j:Int) (k:TD) (o:Int) (q:TD) (i:Int) (m:TD) (r p:Bool) (l:Int) (a:TD) (d:Int) (e:TD) (b:Int) (c:TD) (g x16:Bool) (f h:List TI):
  eA n x0 j k o q i m r p l a d e b c g x16 f h=some (j,k,o,q,i,m,r,p,l,a,d,e,b,c,g,!x0&&x16,f,h):=by
 unfold eA;cases x0<;>rfl
theorem ta {x:TD} (hs:smT x) (hc:cF x=0):RightE 1 x 0 d0 0 d0 false false []:=by
 refine ⟨⟨hs,wk,wk,λt c=>by cases c⟩,?_,by simp,by omega,by simp⟩;have b:eqD d0 d0=true:=jA.2 rfl;have a:unuB 1 x 0 d0 0 d0 false false ([]:List TI).length=false:=by unfold unuB;rw [b];rfl
 unfold fR;rw [ab (by omega),ab (by rw [a];simp),ad rfl,hc]
theorem qi {KF KT:Int} {x y:TD} (hx:smT x) (hy:smT y) (h:pS KF x KT y=0):RightE 2 d0 KF x KT y false false []:=by
 refine ⟨⟨wk,hx,hy,λt c=>by cases c⟩,?_,by simp,by omega,by simp⟩;have b:eqD d0 d0=true:=jA.2 rfl;have a:unuB 2 d0 KF x KT y false false ([]:List TI).length=false:=by unfold unuB;rw [b];rfl
 unfold fR;rw [ab (by omega),ab (by rw [a];simp),ab (by omega),ad rfl,h]
theorem JG (x:TD):pQ 1 x=if cF x=0 then if exT x=true then 0 else 11 else cF x:=by
 unfold pQ chkB;rw [ad rfl];rfl
theorem qy {x:TD} (h:pQ 1 x=0):cF x=0/\exT x=true:=by
 rw [JG] at h;by_cases hc:cF x=0
 ·rw [ad hc] at h;by_cases a:exT x=true
  ·exact ⟨hc,a⟩
  ·rw [ab a] at h;cases h
 ·rw [ab hc] at h;exact absurd h hc
theorem EA {x:TD} (hc:cF x=0) (a:exT x=true):pQ 1 x=0:=by
 rw [JG,ad hc,ad a]
theorem yk {KF KT:Int} {x y:TD} (b:pQ KF x=0) (a:pQ KT y=0):pS KF x KT y=if KF≠1/\KT≠1 then 11 else if KF≠1\/KT≠1 then 0 else if (dyT x).1>(dyT y).2 then 11 else 0:=by
 unfold pS Bm;rw [b,a,ab (λh=>h rfl),ab (λh=>h rfl)]
theorem MP {n x0:Nat} {L:List TR} {r:TR} (C:0<x0) (w:L[0]?=some r) (q:n=20000000) (u:wfR r) {KF KT:Int} {x y:TD} (sx:smT x) (l:smT y) (c:pQ KF x=0) (f:pQ KT y=0) (X:List TI):
  ∃a d b g,gi n x0 (pS KF x KT y != 0) L KF x KT y X=some (a,d,b,g,X)/\fG n x0 (pS KF x KT y != 0) L KF x KT y X=some (a,d,b,g,X)/\
   smT d/\smT g/\pS a d b g=0:=by
 subst q;unfold gi fG;by_cases hp:pS KF x KT y=0
 ·rw [show (pS KF x KT y != 0)=false from by simp [hp]];exact ⟨KF,x,KT,y,rfl,rfl,sx,l,hp⟩
 ·rw [show (pS KF x KT y != 0)=true from by simp [hp],aj,aj];unfold jn iK;by_cases k:KF=1
  ·subst k;have j:KT=1:=by
    rw [yk c f] at hp;by_cases h:KT=1
    ·exact h
    ·rw [ab (by simp),ad (.inr h)] at hp;exact absurd rfl hp
   subst j;obtain ⟨s,D⟩:=qy c;obtain ⟨B,p⟩:=qy f;have E:=MH s D;have F:=MH B p;have t:(dyT x).1>(dyT y).2:=by
    rw [yk c f,ab (by simp),ab (by simp)] at hp;by_cases h:(dyT x).1>(dyT y).2
    ·exact h
    ·rw [ab h] at hp;exact absurd rfl hp
   refine ⟨1,y,1,x,rfl,rfl,l,sx,?_⟩;rw [yk f c,ab (by simp),ab (by simp),ab (by omega)]
  ·obtain ⟨z,e,m,v,A,_⟩:=ExI (d4 (d8 r)).1 u.2;have e':br 20000000 (d8 r).2.2.2.1 (d4 (d8 r)).1 (d4 (d8 r)).2.1 (d4 (d8 r)).2.2.1 (d4 (d8 r)).2.2.2.1 (d16 r).1 (d16 r).2.1 (d16 r).2.2.1 (d16 r).2.2.2.1 (d4 (d16 r))=some z:=e;have o:ix x0 (0:Int)=some 0:=di (i:=0) C;rw [show (KF != 1)=true from by simp [k],aj,o];simp only [ob,w,e',u5,u4,u3,u2];refine ⟨KF,x,1,z,rfl,rfl,sx,m,?_⟩;rw [yk c (EA v A),ab (by simp),ad (.inl k)]
theorem Jb {L:List TR} (H:∀r∈L,wfR r) {n:Nat} (K:1<=n) (G:n<=L.length) (J:n<=5) {k:Int} (C:k=3\/k=4) (e l:Bool) {I:List TI} (y:I.length=n) (hit:∀t∈I,smI t/\itI t (k==4)=0)
  {p q:TD} (D:smT p) (x:plT p=true) (z:smT q) (F:plT q=true):
  RightE k d0 0 d0 0 d0 e (!(decide (n=1)&&e)&&l) (if l=true then (if e=true then I.set 0 (mkI p false d0) else I).set (n - 1) (mkI q false d0) else if e=true then I.set 0 (mkI p false d0) else I):=by
 obtain ⟨v,u,o⟩:=wC (all:=(k==4)) D x;obtain ⟨E,s,m⟩:=wC (all:=(k==4)) z F;have j:∀t∈(if e=true then I.set 0 (mkI p false d0) else I),smI t/\itI t (k==4)=0:=by
  intro t b;split at b
  ·rcases H6 b with h | h
   ·exact hit t h
   ·rw [h];exact ⟨v,u⟩
  ·exact hit t b
 have c:(if e=true then I.set 0 (mkI p false d0) else I).length=n:=by split<;>simp [y]
 have d:e=true->(if e=true then I.set 0 (mkI p false d0) else I)[0]?=some (mkI p false d0):=by
  intro h;rw [ad h,IW (by omega)]
 generalize B:(if e=true then I.set 0 (mkI p false d0) else I)=A at j c d;have g:(if l=true then A.set (n - 1) (mkI q false d0) else A).length=n:=by split<;>simp [c]
 have w:∀t∈(if l=true then A.set (n - 1) (mkI q false d0) else A),smI t/\itI t (k==4)=0:=by
  intro t b;split at b
  ·rcases H6 b with h | h
   ·exact j t h
   ·rw [h];exact ⟨E,s⟩
  ·exact j t b
 refine I3 C (by omega) (by omega) w (λf=>?_) (λa=>?_) (λf a=>?_)
 ·by_cases a:l=true
  ·rw [ad a];by_cases i:n=1
   ·subst i;exact ⟨mkI q false d0,by rw [IW (by omega)],m⟩
   ·exact ⟨mkI p false d0,by rw [List.getElem?_set_ne (by omega)];exact d f,o⟩
  ·rw [ab a];exact ⟨_,d f,o⟩
 ·simp only [ay] at a;rw [ad a.2,BC,c];exact ⟨mkI q false d0,by rw [IW (by omega)],m⟩
 ·rw [f] at a;simp only [xc,ay,kn,vT] at a;rw [g];exact a.1
theorem O6:wfR ((0,false,0,0,0,0,0,0,0,0,0,0,false,0,0,0,0,0,0,0,0):TR):=by
 have z:natI 0 256:=⟨by omega,by omega⟩;have z2:natI 0 65536:=⟨by omega,by omega⟩;exact ⟨⟨z,z2,z,z,z,z,z,z,z⟩,⟨z,z2,z,z,z,z,z,z,z⟩⟩
theorem min5 (m:Nat):cond (decide ((5:Int)<((m:Nat):Int))) 5 ((m:Nat):Int)=((min 5 m:Nat):Int):=by
 by_cases h:5<m
 ·rw [ar (by omega),aj];omega
 ·rw [aq (by omega),ae];omega
theorem QC (k:Nat):((((k%8:Nat):Int)==0)||((((k%8:Nat):Int)==1)||(((k%8:Nat):Int)==2)))=decide (k%8<3)/\((((k%8:Nat):Int)==3)||(((k%8:Nat):Int)==4))=decide (k%8=3\/k%8=4):=by
 have h:k%8<8:=oI _ (by omega);generalize k%8=j at *;rcases (by omega:j=0\/j=1\/j=2\/j=3\/j=4\/j=5\/j=6\/j=7) with rfl | rfl | rfl | rfl | rfl | rfl | rfl | rfl<;>decide
theorem E_of {K N G B:Int} (hK:natI K 256) (h0:natI N 256) (h1:natI G 256) (hB:natI B 256) {L:List TR} (hL:∀r∈L,wfR r):
  ∃k D KF DF KT DT e l I,jR 20000000 K N G B L=some (k,D,KF,DF,KT,DT,e,l,I)/\RightE k D KF DF KT DT e l I:=by
 obtain ⟨K,rfl,bK⟩:=hK.nat;have J:Int.tmod (K:Int) 8=((K%8:Nat):Int):=rfl;obtain ⟨k1,k2⟩:=QC K;unfold jR jP;rw [show (len L==0)=decide (L.length=0) from A8 _];generalize t:(if L=[] then [(0,false,0,0,0,0,0,0,0,0,0,0,false,0,0,0,0,0,0,0,0)] else L:List TR)=M;have d:∀r∈M,wfR r:=by
  intro r c;rw [<-t] at c;split at c
  ·rw [uB.1 c];exact O6
  ·exact hL r c
 have hMl:1<=M.length:=by
  rw [<-t];split
  ·simp
  ·rename_i h;exact List.length_pos_iff.2 h
 have y:min 5 M.length<=M.length:=CZ _ _;have A:1<=min 5 M.length:=by omega
 have m:min 5 M.length<=5:=Nat.min_le_left _ _;obtain ⟨r,c⟩:∃r,M[0]?=some r:=⟨M[0],bH (by omega)⟩;obtain ⟨X,o⟩:∃r,M[min 5 M.length - 1]?=some r:=⟨M[min 5 M.length - 1],bH (by omega)⟩;have s:=d r (dT c);have hw':=d X (dT o);obtain ⟨x,ex,sx,cx⟩:=DofI r.2.1 s.1;obtain ⟨KF,Y,E,j,z,_⟩:=BofI r.2.1 h0 s.1;obtain ⟨KT,bt,u,f,F,_⟩:=BofI (d4 (d8 r)).1 h1 s.2;obtain ⟨p,W,sp,Z⟩:=EP r.2.1 s.1;obtain ⟨q,V,sq,pq⟩:=EP X.2.1 hw'.1;have H:ix (min 5 M.length) (0:Int)=some 0:=di (i:=0) (by omega);have w:bx M.length (cond (decide ((5:Int)<len M)) 5 (len M))=some (min 5 M.length):=by
  rw [show (cond (decide ((5:Int)<len M)) 5 (len M))=((min 5 M.length:Nat):Int) from min5 _,eM y]
 have a:w64 (((min 5 M.length:Nat):Int) - 1)=((min 5 M.length - 1:Nat):Int):=CB (by omega) (by omega);have v:(((min 5 M.length - 1:Nat):Int)==0)=decide (min 5 M.length=1):=by
  rw [A8];congr 1;exact propext (by omega)
 by_cases b:L=[]
 ·rw [ad b] at t;subst b;rw [show decide (([]:List TR).length=0)=true from rfl,aj];simp only [obs,sm,ob,u7,u6,u5,u4,u3,u2,t,w,J,(Q5 _ _ _ _ _ _ _ _ _ _ _).1,u10,u9,u8,k1];by_cases hs:K%8<3
  ·rw [ar hs];simp only [aj,H,c,ex];exact ⟨_,_,_,_,_,_,_,_,_,rfl,ta sx cx⟩
  rw [aq hs];simp only [ae,(MR _ _ _ _ _ _ _ _ _ _ _).1,u9,u8,u7,u6,u5,u4,u3,u2,k2];by_cases C:K%8=3\/K%8=4
  ·rw [ar C];have ebf':bS 20000000 N r.1 r.2.1 r.2.2.1 r.2.2.2.1 (d4 r).1 (d4 r).2.1 (d4 r).2.2.1 (d4 r).2.2.2.1 (d8 r).1 (d8 r).2.1=some (KF,Y):=E;have ebt':bS 20000000 G (d8 r).2.2.2.1 (d4 (d8 r)).1 (d4 (d8 r)).2.1 (d4 (d8 r)).2.2.1 (d4 (d8 r)).2.2.2.1 (d16 r).1 (d16 r).2.1 (d16 r).2.2.1 (d16 r).2.2.2.1 (d4 (d16 r))=some (KT,bt):=u;obtain ⟨R,x',S,y',j1,_,P,O,hp⟩:=MP (n:=20000000) (x0:=min 5 M.length) (by omega) c rfl s j f z F ([]:List TI);simp only [aj,H,c,ebf',ebt',Ci j f,j1,u5,u4,u3,u2];exact ⟨_,_,_,_,_,_,_,_,_,rfl,qi P O hp⟩
  rw [aq C];generalize (Int.tmod B 2==1)=e;generalize (Int.tmod (w8 (Int.tdiv B 2)) 2==1)=l;rw [J];generalize (((K%8:Nat):Int)==7)=g;obtain ⟨I,o1,T,U,_⟩:=EX d y m (if g=true then 4 else 3) e l [];have Q:(if g=true then (4:Int) else 3)=3\/(if g=true then (4:Int) else 3)=4:=by cases g<;>simp
  simp only [ae,(Nz _ _ _ _ _ _ _ _).1,U,a,u7,u6,u5,u4,u3,u2];simp only [u20,u19,u18,u17,u16,u15,u14,u13,u12,u11,u10,u9,u8,u7,u6,u5,u4,u3,u2];rw [(M6 20000000 _ _ _ _ _ _ _ _ _ _ _ _ _ _ _ _ _ _ _ _ _ (by omega) c (by omega) W).1];simp only [u21,u20,u19,u18,u17,u16,u15,u14,u13,u12,u11,u10,u9,u8,u7,u6,u5,u4,u3,u2];rw [a,(ME 20000000 (min 5 M.length) (min 5 M.length - 1) _ _ _ _ _ _ _ _ _ _ _ _ _ _ _ _ _ _ _ (by omega) o (by split<;>simp [o1]<;>omega) V).1];simp only [u21,u20,u19,u18,u17,u16,u15,u14,u13,u12,u11,u10,u9,u8,u7,u6,u5,u4,u3,u2,Na,Nj,v];exact ⟨_,_,_,_,_,_,_,_,_,rfl,Jb d A y m Q e l o1 T sp Z sq pq⟩
 ·rw [ab b] at t;subst t;rw [aq (show ¬L.length=0 from λh=>b (uu h)),ae];simp only [obs,sm,ob,u7,u6,u5,u4,u3,u2,w,J,(Q5 _ _ _ _ _ _ _ _ _ [] _).2,u10,u9,u8,k1];by_cases hs:K%8<3
  ·rw [ar hs];simp only [aj,H,c,ex];exact ⟨_,_,_,_,_,_,_,_,_,rfl,ta sx cx⟩
  rw [aq hs];simp only [ae,(MR _ _ _ _ _ _ _ _ _ [] _).2,u9,u8,u7,u6,u5,u4,u3,u2,k2];by_cases C:K%8=3\/K%8=4
  ·rw [ar C];have ebf':bS 20000000 N r.1 r.2.1 r.2.2.1 r.2.2.2.1 (d4 r).1 (d4 r).2.1 (d4 r).2.2.1 (d4 r).2.2.2.1 (d8 r).1 (d8 r).2.1=some (KF,Y):=E;have ebt':bS 20000000 G (d8 r).2.2.2.1 (d4 (d8 r)).1 (d4 (d8 r)).2.1 (d4 (d8 r)).2.2.1 (d4 (d8 r)).2.2.2.1 (d16 r).1 (d16 r).2.1 (d16 r).2.2.1 (d16 r).2.2.2.1 (d4 (d16 r))=some (KT,bt):=u;obtain ⟨R,x',S,y',_,j1,P,O,hp⟩:=MP (n:=20000000) (x0:=min 5 L.length) (by omega) c rfl s j f z F ([]:List TI);simp only [aj,H,c,ebf',ebt',Ci j f,j1,u5,u4,u3,u2];exact ⟨_,_,_,_,_,_,_,_,_,rfl,qi P O hp⟩
  rw [aq C];generalize (Int.tmod B 2==1)=e;generalize (Int.tmod (w8 (Int.tdiv B 2)) 2==1)=l;rw [J];generalize (((K%8:Nat):Int)==7)=g;obtain ⟨I,o1,T,_,U⟩:=EX d y m (if g=true then 4 else 3) e l [];have Q:(if g=true then (4:Int) else 3)=3\/(if g=true then (4:Int) else 3)=4:=by cases g<;>simp
  simp only [ae,(Nz _ _ _ _ _ _ _ _).2,U,a,u7,u6,u5,u4,u3,u2];simp only [u20,u19,u18,u17,u16,u15,u14,u13,u12,u11,u10,u9,u8,u7,u6,u5,u4,u3,u2];rw [(M6 20000000 _ _ _ _ _ _ _ _ _ _ _ _ _ _ _ _ _ _ _ _ _ (by omega) c (by omega) W).2];simp only [u21,u20,u19,u18,u17,u16,u15,u14,u13,u12,u11,u10,u9,u8,u7,u6,u5,u4,u3,u2];rw [a,(ME 20000000 (min 5 L.length) (min 5 L.length - 1) _ _ _ _ _ _ _ _ _ _ _ _ _ _ _ _ _ _ _ (by omega) o (by split<;>simp [o1]<;>omega) V).2];simp only [u21,u20,u19,u18,u17,u16,u15,u14,u13,u12,u11,u10,u9,u8,u7,u6,u5,u4,u3,u2,Na,Nj,v];exact ⟨_,_,_,_,_,_,_,_,_,rfl,Jb d A y m Q e l o1 T sp Z sq pq⟩
noncomputable instance decTI:DecidableEq TI:=λa b=>Classical.propDecidable (a=b)
def tdR (r:DR):TD:=(r.1,r.2.1,r.2.2.1,(r.2.2.2.1:Int),(r.2.2.2.2.1:Int),r.2.2.2.2.2.1,r.2.2.2.2.2.2.1,(r.2.2.2.2.2.2.2.1.1:Int),(r.2.2.2.2.2.2.2.1.2.1:Int),(r.2.2.2.2.2.2.2.1.2.2:Int))
def endC (K:Int):UInt8:=if K=4 then 125 else 93
theorem CX {K:Int} (a:K=3\/K=4) (n:Nat):ej n K=some ([if K=4 then 123 else 91],[endC K]):=by
 rcases a with rfl | rfl<;>rfl
noncomputable def setE (K:Int) (e l:Bool) (I:List TI):Int×Int:=fR K d0 0 d0 0 d0 e l I
def wo (x:TD):aa:=vn x.1 x.2.1 x.2.2.1 x.2.2.2.1 x.2.2.2.2.1 x.2.2.2.2.2.1 x.2.2.2.2.2.2.1 x.2.2.2.2.2.2.2.1.toNat x.2.2.2.2.2.2.2.2.1.toNat x.2.2.2.2.2.2.2.2.2.toNat
theorem GG {x:TD} (hs:smT x) (hc:cF x=0):∃(g l:Bool) (dg:aa) (e q:Nat) (m d:aa) (a b c:Nat),x=(g,l,dg,(e:Int),(q:Int),m,d,(a:Int),(b:Int),(c:Int))/\OkD g l dg e q m d a b c:=by
 have h:=kR hc;obtain ⟨g,l,dg,e,q,m,d,k0,k1,k2⟩:=x;obtain ⟨p,r,a,b,c,n,i,f,k,j,o⟩:=zp hs.2.2.2.1 hs.2.2.2.2.1 hs.2.2.2.2.2 h;simp only at n i f k j;subst n i f k j;exact ⟨_,_,_,_,_,_,_,_,_,_,rfl,o⟩
theorem dfT {x:TD} (hs:smT x) (hc:cF x=0):ap10 (ch 20000000) x=some (wo x,0):=by
 have:=Ew 19999700 x.1 x.2.1 x.2.2.1 x.2.2.2.1 x.2.2.2.2.1 x.2.2.2.2.2.1 x.2.2.2.2.2.2.1 x.2.2.2.2.2.2.2.1 x.2.2.2.2.2.2.2.2.1 x.2.2.2.2.2.2.2.2.2 hs.1 hs.2.1 hs.2.2.2.1 hs.2.2.2.2.1 hs.2.2.2.2.2;rw [ad (kR hc)] at this;exact this
theorem rfT {x:TD} (hs:smT x) (hc:cF x=0):ap10 (bX 20000000) x=some (wo x):=
 zu 19999700 hs.2.2.2.1 hs.2.2.2.2.1 hs.2.2.2.2.2 (kR hc)
theorem mj {x:TD} (hs:smT x) (hc:cF x=0):(wo x).length<=37:=by
 obtain ⟨g,l,dg,e,q,m,d,a,b,c,rfl,ok⟩:=GG hs hc;exact Jr ok
structure OkI (t:TI):Prop where
 sm:smI t
 a:cF (iF t)=0
 b:rT t=true->cF (iT t)=0
 n:rT t=false->iT t=d0
def fU (t:TI):aa:=if rT t then wo (iF t)++([46,46]++wo (iT t)) else wo (iF t)
theorem ul {t:TI} (h:OkI t):(fU t).length<=76:=by
 have e:=mj h.sm.1 h.a;unfold fU;split
 ·rename_i c;have d:=mj h.sm.2 (h.b c);simp only [bB,aS,bg];omega
 ·omega
def A7 (I:List TI):aa:=(I.map λt=>44::fU t).flatten
def Cc (K:Int) (e l:Bool) (I:List TI):aa:=
 (if K=4 then 123 else 91)::((if e then [46,46] else [])++(Lib.join (I.map fU) [44]++((if l then [46,46] else [])++[endC K])))
theorem Ih (t:TI) (I:List TI):Lib.join ((t::I).map fU) [44]=fU t++A7 I:=by
 rw [fa,Lib.join_cons];unfold Lib.joinTail A7;rw [qu];rfl
theorem uW {x y:TD} {r all:Bool} (h:itE x r y all=0):cF x=0/\(r=true->cF y=0)/\(r=false->y=d0)/\itE x r y false=0:=by
 by_cases hc:cF x=0
 ·refine ⟨hc,?_⟩;cases r
  ·rw [Jv hc] at h ⊢;have hy:eqD y d0=true:=by
    cases a:eqD y d0
    ·rw [a] at h;simp at h
    ·rfl
   exact ⟨λh=>(by cases h),λ_=>jA.1 hy,by rw [hy];simp⟩
  ·by_cases hy:cF y=0
   ·rw [Oq hc hy] at h ⊢;have b:ordB x y=true:=by
     cases a:ordB x y
     ·rw [a] at h;simp at h
     ·rfl
    exact ⟨λ_=>hy,λh=>(by cases h),by rw [b];simp⟩
   ·rw [M1 hc hy] at h;exact absurd h hy
 ·rw [P9 hc] at h;exact absurd h hc
theorem Qx {t:TI} {all:Bool} (hs:smI t) (h:itI t all=0):OkI t:=by
 obtain ⟨a,b,c,_⟩:=uW h;exact ⟨hs,a,b,c⟩
theorem BV {x y:TD} (r:Bool) (hx:smT x) (hy:smT y):gI 20000000 x r y=some (if itE x r y false=0 then (fU (mkI x r y),0) else ([],itE x r y false)):=by
 unfold gI;rw [CY r hx hy,ad (.inl rfl),show ((3:Int)==4)=false from rfl];simp only [ob];by_cases h:itE x r y false=0
 ·obtain ⟨a,b,c,_⟩:=uW h;rw [ad h,h,dfT hx a];simp only [eH,ae,u2];cases r
  ·rfl
  ·have e:=mj hx a;have d:=mj hy (b rfl);simp only [aj,dfT hy (b rfl)];rw [bN (by simp only [aS,bg];omega)];simp only [];rw [bN (by simp only [bB,aS,bg];omega)];rfl
 ·rw [ab h,show (itE x r y false != 0)=true from by simp [h]];rfl
theorem Hy {t:TI} (ok:OkI t):fO 20000000 (iF t) (rT t) (iT t)=some (fU t):=by
 unfold fO fU;rw [rfT ok.sm.1 ok.a];cases c:rT t
 ·rfl
 ·have e:=mj ok.sm.1 ok.a;have d:=mj ok.sm.2 (ok.b c);simp only [aj,ob,rfT ok.sm.2 (ok.b c)];rw [bN (by simp only [aS,bg];omega)];simp only [];rw [bN (by simp only [bB,aS,bg];omega)];simp only [aY,uj]
theorem AP:∀{I:List TI},(∀t∈I,OkI t)->(A7 I).length<=77*I.length
 | [],_=>by simp [A7]
 | t::I,h=>by
  have c:=ul (h t vL);have b:=AP (I:=I) λu a=>h u (gP _ a);have:A7 (t::I)=(44::fU t)++A7 I:=by simp [A7]
  rw [this];simp only [bB,aS];omega
theorem vp {I:List TI} (h:∀t∈I,OkI t):(Lib.join (I.map fU) [44]).length<=77*I.length:=by
 cases I with
 | nil=>simp [Lib.join_nil]
 | cons t I=>
  have c:=ul (h t vL);have b:=AP (I:=I) λu a=>h u (gP _ a);rw [Ih];simp only [bB,aS];omega
theorem Gx {I:List TI} {i:Nat} {t:TI} (h:I[i]?=some t) (w:aa) (b:w=fU t):((I.take i).map fU++List.replicate (I.length - i) []).set i w=(I.take (i+1)).map fU++List.replicate (I.length - (i+1)) []:=by
 have hi:i<I.length:=(om.1 h).1;obtain ⟨k,a⟩:∃k,I.length - i=k+1:=⟨I.length - i - 1,by omega⟩;have c:((I.take i).map fU).length=i:=by simp;omega
 rw [a,qo,show I.length - (i+1)=k by omega,nT,h,b];rw [List.set_append_right _ _ (by omega),c,yc];simp
theorem Hj {I:List TI} (hs:∀t∈I,OkI t/\itI t false=0) (h:I.length<=1000) (K:Int) (D:TD) (KF:Int) (DF:TD) (KT:Int) (DT:TD) (e l:Bool):∀(r i:Nat),i+r=I.length->∀N,r<N->
  aw (dA 20000000) N (len I,(i:Int),I,K,D,KF,DF,KT,DT,e,l,(I.take i).map fU++List.replicate (I.length - i) [])=some (I,K,D,KF,DF,KT,DT,e,l,I.map fU):=by
 intro r
 induction r with
 | zero=>
  intro i hi N g;obtain ⟨N,rfl⟩:∃k,N=k+1:=⟨N - 1,by omega⟩;obtain rfl:i=I.length:=by omega
  have:dA 20000000 (len I,((I.length:Nat):Int),I,K,D,KF,DF,KT,DT,e,l,(I.take I.length).map fU++List.replicate (I.length - I.length) [])=some (.inr (I,K,D,KF,DF,KT,DT,e,l,I.map fU)):=by
   unfold dA;simp only [u12,u11,u10,u9,u8,u7,u6,u5,u4,u3,u2];rw [aq (show ¬((I.length:Nat):Int)<len I by show ¬((I.length:Nat):Int)<((I.length:Nat):Int);omega),yc,nU];simp
  rw [aw,this]
 | succ r ih=>
  intro i hi N g;obtain ⟨N,rfl⟩:∃k,N=k+1:=⟨N - 1,by omega⟩;have a:i<I.length:=by omega
  have b:I[i]?=some I[i]:=bH a;obtain ⟨ok,c⟩:=hs _ (Ht a);generalize I[i]=t at b ok c;have f:((I.take i).map fU++List.replicate (I.length - i) ([]:aa)).length=I.length:=by simp;omega
  have:dA 20000000 (len I,(i:Int),I,K,D,KF,DF,KT,DT,e,l,(I.take i).map fU++List.replicate (I.length - i) [])=some (.inl (len I,((i+1:Nat):Int),I,K,D,KF,DF,KT,DT,e,l,(I.take (i+1)).map fU++List.replicate (I.length - (i+1)) [])):=by
   unfold dA;simp only [u12,u11,u10,u9,u8,u7,u6,u5,u4,u3,u2];rw [ar (show (i:Int)<len I by show (i:Int)<((I.length:Nat):Int);omega),di a];simp only [aj,ob,b];rw [show gI 20000000 (iF t) (d8 t).2.2.1 (d8 t).2.2.2=some (fU t,0) from (BV (rT t) ok.sm.1 ok.sm.2).trans (by rw [ad (show itE (iF t) (rT t) (iT t) false=0 from c)])];simp only [f];rw [di a];simp only [];obtain ⟨w,d⟩:∃w,((I.take i).map fU++List.replicate (I.length - i) ([]:aa))[i]?=some w:=⟨_,bH (by omega)⟩;rw [d];simp only [u2];rw [Gx b _ rfl,qG (by omega)]
  rw [aw,this];exact ih (i+1) (by omega) N (by omega)
structure SetP (K:Int) (D:TD) (KF:Int) (DF:TD) (KT:Int) (DT:TD) (e l:Bool) (I:List TI):Prop where
 kind:K=3\/K=4
 d:D=d0
 kf:KF=0
 df:DF=d0
 kt:KT=0
 dt:DT=d0
 one:1<=I.length
 most:I.length<=256
 its:∀t∈I,itI t (K==4)=0
 set:(setE K e l I).2=0
theorem xH {A:Type} {f:Nat->A->Int}:∀{L:List A} {k:Nat},rK f k L=none->∀t∈L,∃i,f i t=0
 | u::L,k,h,t,a=>by
  rw [rK] at h;split at h
  ·cases h
  ·rename_i b;rcases cA.1 a with rfl | a
   ·exact ⟨k,GA.1 b⟩
   ·exact xH h t a
theorem Ey {A:Type} {f:Nat->A->Int}:∀{L:List A} {k:Nat} {p:Nat×Int},rK f k L=some p->p.2≠0
 | u::L,k,p,h=>by
  rw [rK] at h;split at h
  ·rename_i a;cases h;exact a
  ·exact Ey h
theorem RI {K:Int} {e l:Bool} {n i:Nat} {t:TI} (h:errI K e l n i t=0):itI t (K==4)=0:=by
 unfold errI at h;split at h
 ·rename_i a;exact absurd h a
 ·rename_i a;exact GA.1 a
theorem A3 {K:Int} (g:K=3\/K=4) {D:TD} {KF:Int} {DF:TD} {KT:Int} {DT:TD} {e l:Bool} {I:List TI} (h:(fR K D KF DF KT DT e l I).2=0):SetP K D KF DF KT DT e l I:=by
 have n:=h;unfold fR at h;rw [ab (by omega)] at h;split at h
 ·simp at h
 ·rename_i f;rw [ab (by omega),ab (by omega)] at h;split at h
  ·simp at h
  ·split at h
   ·simp at h
   ·unfold xi at h;have o:D=d0/\KF=0/\DF=d0/\KT=0/\DT=d0:=by
     unfold unuB at f;have k1:(K==1)=false:=by rcases g with rfl | rfl<;>rfl
     have k2:(K==2)=false:=by rcases g with rfl | rfl<;>rfl
     have k3:(K==3||(K==4||(decide (I.length=0)&&(!e&&!l))))=true:=by rcases g with rfl | rfl<;>rfl
     rw [k1,k2,k3] at f;generalize q:eqD D d0=z1 at f;generalize j:eqD DF d0=z2 at f;generalize k:eqD DT d0=r at f;simp only [vC,eG,Bool.or_false,xc,gC,kn,not_or,Bool.not_eq_false,ay,bU] at f;obtain ⟨a,⟨b,c⟩,d,e⟩:=f;exact ⟨jA.1 (q.trans a),b,jA.1 (j.trans c),d,jA.1 (k.trans e)⟩
    obtain ⟨rfl,rfl,rfl,rfl,rfl⟩:=o;cases hs:rK (errI K e l I.length) 0 I with
    | some p=>rw [hs] at h;exact absurd h (Ey hs)
    | none=>
     refine ⟨g,rfl,rfl,rfl,rfl,rfl,by omega,by omega,λt m=>?_,n⟩;obtain ⟨i,hi⟩:=xH hs t m;exact RI hi
theorem MD {K:Int} {D:TD} {KF:Int} {DF:TD} {KT:Int} {DT:TD} {e l:Bool} {I:List TI} (p:SetP K D KF DF KT DT e l I) (hs:∀t∈I,smI t):∀t∈I,OkI t/\itI t false=0:=
 λt a=>⟨Qx (hs t a) (p.its t a),(uW (p.its t a)).2.2.2⟩
def G7 (K:Int):Prop:=K=3\/K=4
instance (K:Int):Decidable (G7 K):=inferInstanceAs (Decidable (K=3\/K=4))
theorem Py {K:Int} {D:TD} {KF:Int} {DF:TD} {KT:Int} {DT:TD} {e l:Bool} {I:List TI} (h:smE D DF DT I):
  mT 20000000 K D KF DF KT DT e l I=some (if G7 K then (if (fR K D KF DF KT DT e l I).2=0 then (Cc K e l I,0) else ([],(fR K D KF DF KT DT e l I).2)) else ([],18)):=by
 have c:∀v:G7 K,(ob (je 20000000 K D KF DF KT DT e l I) λi=>(cond (i != 0) (some ([],i)) (cond (decide ((0:Int)<=(len I))&&(decide ((len I)<=(len I))&&decide ((len I)<=(67108864:Int)))) (ob (aw (dA 20000000) 20000000 ((len I),0,I,K,D,KF,DF,KT,DT,e,l,(List.replicate (Int.toNat (len I)) ([]:aa)))) (u10 λ_ C _ _ _ _ _ r g a=>(ob (ej 20000000 C) (u2 λd b=>(cond r (ob (cat d ([46,46]:aa)) λj=>(cond g (ob (cat ([46,46]:aa) b) λp=>(cond (Nat.ble (List.length a) 140737488355328&&Nat.ble (List.length (Lib.join a ([44]:aa))) 140737488355328) (ob (cat j (Lib.join a ([44]:aa))) λB=>(ob (cat B p) λy=>(some (y,0)))) none)) (cond (Nat.ble (List.length a) 140737488355328&&Nat.ble (List.length (Lib.join a ([44]:aa))) 140737488355328) (ob (cat j (Lib.join a ([44]:aa))) λA=>(ob (cat A b) λu=>(some (u,0)))) none))) (cond g (ob (cat ([46,46]:aa) b) λo=>(cond (Nat.ble (List.length a) 140737488355328&&Nat.ble (List.length (Lib.join a ([44]:aa))) 140737488355328) (ob (cat d (Lib.join a ([44]:aa))) λs=>(ob (cat s o) λq=>(some (q,0)))) none)) (cond (Nat.ble (List.length a) 140737488355328&&Nat.ble (List.length (Lib.join a ([44]:aa))) 140737488355328) (ob (cat d (Lib.join a ([44]:aa))) λx=>(ob (cat x b) λz=>(some (z,0)))) none))))))) none))) =
   some (if (fR K D KF DF KT DT e l I).2=0 then (Cc K e l I,(0:Int)) else ([],(fR K D KF DF KT DT e l I).2)):=by
  intro v;rw [DZ h];simp only [ob];by_cases k:(fR K D KF DF KT DT e l I).2=0
  ·have P:=A3 v k;have N:=P.most;have oks:=MD P h.2.2.2;have F:=vp λt E=>(oks t E).1;rw [ad k,k];have f:=Hj oks (by omega) K D KF DF KT DT e l I.length 0 (by omega) 20000000 (by omega);simp only [eH,ae];have J:(decide ((0:Int)<=(len I))&&(decide ((len I)<=(len I))&&decide ((len I)<=(67108864:Int))))=true:=by
    have:len I=((I.length:Nat):Int):=rfl;rw [this];simp only [ay,cj];omega
   rw [J,aj,show (List.replicate (Int.toNat (len I)) ([]:aa))=(I.take 0).map fU++List.replicate (I.length - 0) [] from by simp];rw [show aw (dA 20000000) 20000000 (len I,(0:Int),I,K,D,KF,DF,KT,DT,e,l,(I.take 0).map fU++List.replicate (I.length - 0) [])=_ from f];have H:(Nat.ble (List.length (I.map fU)) 140737488355328&&Nat.ble (List.length (Lib.join (I.map fU) ([44]:aa))) 140737488355328)=true:=by
    simp only [ay];exact ⟨cU (by simp;omega),cU (by omega)⟩
   simp only [u10,u9,u8,u7,u6,u5,u4,u3,u2,CX v,H,aj];unfold Cc;generalize G:(if K=4 then (123:UInt8) else 91)=M;generalize endC K=L;generalize Lib.join (I.map fU) [44]=w at F;cases e<;>cases l<;>simp only [aj,ae]
   ·rw [bN (by simp only [aS,bg];omega)];simp only [];rw [bN (by simp only [bB,aS,bg];omega)];simp
   ·rw [bN (by simp only [aS,bg];omega)];simp only [];rw [bN (by simp only [aS,bg];omega)];simp only [];rw [bN (by simp only [bB,aS,bg];omega)];simp
   ·rw [bN (by simp only [aS,bg];omega)];simp only [];rw [bN (by simp only [bB,aS,bg];omega)];simp only [];rw [bN (by simp only [bB,aS,bg];omega)];simp
   ·rw [bN (by simp only [aS,bg];omega)];simp only [];rw [bN (by simp only [aS,bg];omega)];simp only [];rw [bN (by simp only [bB,aS,bg];omega)];simp only [];rw [bN (by simp only [bB,aS,bg];omega)];simp
  ·rw [ab k,show ((fR K D KF DF KT DT e l I).2 != 0)=true from by simp [k]];rfl
 unfold mT;by_cases m:K=3
 ·rw [show (K != 3)=false from by simp [m],ad (.inl m)];exact c (.inl m)
 ·rw [show (K != 3)=true from by simp [m],aj];by_cases n:K=4
  ·rw [show (K != 4)=false from by simp [n],ad (.inr n)];exact c (.inr n)
  ·rw [show (K != 4)=true from by simp [n],ab (by rintro (h | h)<;>contradiction)];rfl
theorem IB (ws:List (aa)) (w:aa) (h:ws≠[]):Lib.join (ws++[w]) [44]=Lib.join ws [44]++[44]++w:=by
 cases ws with
 | nil=>exact absurd rfl h
 | cons a r=>
  rw [ki,Lib.join_cons,Lib.join_cons];unfold Lib.joinTail;simp
theorem FT {I:List TI} (hs:∀t∈I,OkI t) (p:I.length<=1000) (pre:aa) (hp:pre.length<=10) (K:Int) (D:TD) (KF:Int) (DF:TD) (KT:Int) (DT:TD) (e l:Bool):∀(r i:Nat),i+r=I.length->∀N,r<N->
  aw (bD 20000000) N (pre++Lib.join ((I.take i).map fU) [44],(i:Int),I,K,D,KF,DF,KT,DT,e,l)=some (pre++Lib.join (I.map fU) [44],I,K,D,KF,DF,KT,DT,e,l):=by
 intro r
 induction r with
 | zero=>
  intro i hi N j;obtain ⟨N,rfl⟩:∃k,N=k+1:=⟨N - 1,by omega⟩;obtain rfl:i=I.length:=by omega
  have:∀s,bD 20000000 (s,((I.length:Nat):Int),I,K,D,KF,DF,KT,DT,e,l)=some (.inr (s,I,K,D,KF,DF,KT,DT,e,l)):=by
   intro s;unfold bD;simp only [u11,u10,u9,u8,u7,u6,u5,u4,u3,u2];rw [aq (show ¬((I.length:Nat):Int)<len I by show ¬((I.length:Nat):Int)<((I.length:Nat):Int);omega)];rfl
  rw [aw,this,nU]
 | succ r ih=>
  intro i hi N j;obtain ⟨N,rfl⟩:∃k,N=k+1:=⟨N - 1,by omega⟩;have a:i<I.length:=by omega
  have c:I[i]?=some I[i]:=bH a;have ok:=hs _ (Ht a);generalize I[i]=t at c ok;have o:=vp (I:=I.take i) λu m=>hs u (List.mem_of_mem_take m);have g:(I.take i).length<=1000:=by rw [dx];omega
  have n:=ul ok;have d:(I.take (i+1)).map fU=(I.take i).map fU++[fU t]:=by rw [nT,c];simp
  have:bD 20000000 (pre++Lib.join ((I.take i).map fU) [44],(i:Int),I,K,D,KF,DF,KT,DT,e,l)=some (.inl (pre++Lib.join ((I.take (i+1)).map fU) [44],((i+1:Nat):Int),I,K,D,KF,DF,KT,DT,e,l)):=by
   unfold bD;simp only [u11,u10,u9,u8,u7,u6,u5,u4,u3,u2];rw [ar (show (i:Int)<len I by show (i:Int)<((I.length:Nat):Int);omega),di a];have hit:fO 20000000 (iF t) (d8 t).2.2.1 (d8 t).2.2.2=some (fU t):=Hy ok;simp only [aj,ob,c,hit];rw [d];by_cases f:i=0
   ·subst f;rw [aq (show ¬((0:Nat):Int)>0 by omega),ae,bN (by simp only [bB];omega),qG (by omega)];simp [Lib.join_nil,Lib.join_one]
   ·have b:(I.take i).map fU≠[]:=by
     intro h;have:=gf List.length h;rw [sF,dx,bg] at this;omega
    rw [ar (show (i:Int)>0 by omega),aj,bN (by simp only [bB,aS,bg];omega)];simp only [];rw [bN (by simp only [bB,aS,bg];omega),qG (by omega),IB _ _ b];simp
  rw [aw,this];exact ih (i+1) (by omega) N (by omega)
theorem Il {K:Int} (i:G7 K) {I:List TI} (hs:∀t∈I,OkI t) (h:I.length<=1000) (D:TD) (KF:Int) (DF:TD) (KT:Int) (DT:TD) (e l:Bool):jY 20000000 K D KF DF KT DT e l I=some (Cc K e l I):=by
 have m:=vp hs;have b:=λ(pre:aa) (hp:pre.length<=10)=>FT hs h pre hp K D KF DF KT DT e l I.length 0 (by omega) 20000000 (by omega);have k:Lib.join ((I.take 0).map fU) [44]=[]:=rfl;rw [k] at b;simp only [tn] at b;unfold jY Cc;have f:=b [123,46,46] (by simp);have g:=b [123] (by simp);have l3:=b [91,46,46] (by simp);have d:=b [91] (by simp);rw [show ((0:Nat):Int)=0 from rfl] at f g l3 d;rw [f,g,l3,d];generalize Lib.join (I.map fU) [44]=w at m;have a:∀p q:aa,p.length<=10->q.length<=10->cat (p++w) q=some (p++w++q):=λp q hp j=>bN (by simp only [bB];omega);have c:∀p q r:aa,p.length<=10->q.length<=10->r.length<=10->cat (p++w++q) r=some (p++w++q++r):=λp q r hp j n=>bN (by simp only [bB];omega);rcases i with rfl | rfl
 ·rw [show ((3:Int)==4)=false from rfl];cases e<;>cases l<;>simp only [aj,ae,ob,u10,u9,u8,u7,u6,u5,u4,u3,u2]
  ·simp only [show ((3:Int)==4)=false from rfl,show ((4:Int)==4)=true from rfl,aj,ae];rw [a _ _ (by simp) (by simp)];simp [endC]
  ·rw [a _ _ (by simp) (by simp)];simp only [show ((3:Int)==4)=false from rfl,show ((4:Int)==4)=true from rfl,aj,ae];rw [c _ _ _ (by simp) (by simp) (by simp)];simp [endC]
  ·simp only [show ((3:Int)==4)=false from rfl,show ((4:Int)==4)=true from rfl,aj,ae];rw [a _ _ (by simp) (by simp)];simp [endC]
  ·rw [a _ _ (by simp) (by simp)];simp only [show ((3:Int)==4)=false from rfl,show ((4:Int)==4)=true from rfl,aj,ae];rw [c _ _ _ (by simp) (by simp) (by simp)];simp [endC]
 ·rw [show ((4:Int)==4)=true from rfl];cases e<;>cases l<;>simp only [aj,ae,ob,u10,u9,u8,u7,u6,u5,u4,u3,u2]
  ·simp only [show ((3:Int)==4)=false from rfl,show ((4:Int)==4)=true from rfl,aj,ae];rw [a _ _ (by simp) (by simp)];simp [endC]
  ·rw [a _ _ (by simp) (by simp)];simp only [show ((3:Int)==4)=false from rfl,show ((4:Int)==4)=true from rfl,aj,ae];rw [c _ _ _ (by simp) (by simp) (by simp)];simp [endC]
  ·simp only [show ((3:Int)==4)=false from rfl,show ((4:Int)==4)=true from rfl,aj,ae];rw [a _ _ (by simp) (by simp)];simp [endC]
  ·rw [a _ _ (by simp) (by simp)];simp only [show ((3:Int)==4)=false from rfl,show ((4:Int)==4)=true from rfl,aj,ae];rw [c _ _ _ (by simp) (by simp) (by simp)];simp [endC]
def isLv (c:UInt8):Bool:=c==69||(c==83||isMk c)
def dgC (c:UInt8):UInt8:=if cM c then 100 else c
def Td (u:aa):aa:=match u with | c::r=>if c=45 then r else c::r | []=>[]
def PN:List (aa):=[[100,100,100,88],[100,100,88,88],[100,100,100,100,45,88,88],[100,100,100,100,45,100,100,45,88,88],[100,100,100,100,45,88,88,45,88,88]]
def simB (v:aa):Bool:=PN.contains (v.map dgC)
def lvl (u:aa) (b X:Bool) (code:Int):Int:=
 if u.any isLv then 2 else if 24<code then 2 else if (X&&!simB (Td u))=true then 2
 else if b=true\/X=true\/0<code\/u.head?=some 45\/u.head?=some 89 then 1 else 0
def mkX (x:TD):Bool:=hasX x.2.2.1||(hasX x.2.2.2.2.2.1||hasX x.2.2.2.2.2.2.1)
def lvT (T:aa) (x:TD):Int:=lvl (Lib.trimRightS T [63,126,37]) (!(Lib.trimRightS T [63,126,37]==T)) (mkX x) (seT x)
def mx (a b:Int):Int:=if a>b then a else b
def lvR (S:aa) (p:Nat) (r:DR):Int:=lvT ((S.drop p).take (enR r - p)) (tdR r)
def wt (K:Int) (x:TD):aa:=if K=2 then [46,46] else if K=3 then [] else wo x
def okB (K:Int) (x:TD):Prop:=(K=1/\cF x=0/\exT x=true)\/((K=2\/K=3)/\x=d0)
theorem Ns {K:Int} {x:TD} (h:pQ K x=0):okB K x:=by
 by_cases c:K=1
 ·subst c;obtain ⟨a,b⟩:=qy h;exact .inl ⟨rfl,a,b⟩
 ·unfold pQ chkB at h;rw [ab c] at h;split at h
  ·rename_i d;split at h
   ·rename_i e;exact .inr ⟨d,jA.1 e⟩
   ·cases h
  ·cases h
theorem xb {KF KT:Int} {x y:TD} (h:pS KF x KT y=0):okB KF x/\okB KT y/\(KF=1\/KT=1):=by
 unfold pS Bm at h;by_cases b:pQ KF x=0
 ·rw [ab (λz=>z b)] at h;by_cases a:pQ KT y=0
  ·rw [ab (λz=>z a)] at h;split at h
   ·cases h
   ·rename_i c;exact ⟨Ns b,Ns a,by omega⟩
  ·rw [ad a] at h;exact absurd h a
 ·rw [ad b] at h;exact absurd h b
inductive RightP:Int->TD->Int->TD->Int->TD->Bool->Bool->List TI->Prop where
 | single {x:TD} (hs:smT x) (hc:cF x=0):RightP 1 x 0 d0 0 d0 false false []
 | interval {KF:Int} {x:TD} {KT:Int} {y:TD} (hx:smT x) (hy:smT y) (hp:pS KF x KT y=0):RightP 2 d0 KF x KT y false false []
 | set {K:Int} {e l:Bool} {I:List TI} (P:SetP K d0 0 d0 0 d0 e l I) (hs:∀t∈I,smI t):RightP K d0 0 d0 0 d0 e l I
theorem ux {k:Int} {D:TD} {KF:Int} {DF:TD} {KT:Int} {DT:TD} {e l:Bool} {I:List TI} (hs:smE D DF DT I) (h:(fR k D KF DF KT DT e l I).2=0):RightP k D KF DF KT DT e l I:=by
 by_cases n:k=3\/k=4
 ·have P:=A3 n h;obtain ⟨rfl,rfl,rfl,rfl,rfl⟩:D=d0/\KF=0/\DF=d0/\KT=0/\DT=d0:=⟨P.d,P.kf,P.df,P.kt,P.dt⟩;exact .set P hs.2.2.2
 ·unfold fR at h;split at h
  ·simp at h
  ·split at h
   ·simp at h
   ·rename_i s a;unfold unuB at a;generalize z1:eqD D d0=r at a;generalize z2:eqD DF d0=p at a;generalize m:eqD DT d0=q at a;by_cases k1:k=1
    ·subst k1;rw [ad rfl] at h;simp at a;obtain ⟨⟨⟨f,b⟩,c,g⟩,i,j,o⟩:=a;subst f c i j o;rw [jA.1 (z2.trans b),jA.1 (m.trans g)];exact .single hs.1 h
    ·have k2:k=2:=by omega
     subst k2;rw [ab (by omega),ad rfl] at h;simp at a;obtain ⟨f,b,c,g⟩:=a;subst b c g;rw [jA.1 (z1.trans f)];exact .interval hs.2.1 hs.2.2.1 h
def yX (k:Int) (D:TD) (KF:Int) (DF:TD) (KT:Int) (DT:TD) (e l:Bool) (I:List TI):aa:=
 if k=1 then wo D else if k=2 then wt KF DF++47::wt KT DT else Cc k e l I
end Go.Sh
