
import Derived.Test.YtibehcmomiplnabGreatDoorLawSvb
set_option linter.unusedSimpArgs false
set_option linter.unusedVariables false
set_option linter.defProp false
set_option maxRecDepth 100000
open Go.IntKind(wrap)
namespace Go.Sh
open Go.Abs
def ac6{g l:Bool}{d:aa}{x s:Int}(h:okY g l d x s):okY g l d x 0:=by
 unfold okY at h ⊢;cases l with
 | true=>
  rw[ae rfl]at h ⊢;unfold okL at h ⊢;refine⟨h.1,ql _,?_⟩;omega
 | false=>
  rw[ab (by simp)]at h ⊢;unfold okS at h ⊢;obtain⟨c,e,b,a,j,f,i⟩:=h;exact⟨c,e,b,a,ql _,by omega,λh=>absurd h.1 (by omega)⟩
def NY(m a0 a2 J I j B c k n:Nat)(g:Bool)(N:a2<65536)(L:J<256)(K:I<256)(O:j<256)(M:B<256):
  ∃b l dg x q a d,aQ (m+300) (a0:Int) g (a2:Int) (J:Int) (I:Int) (j:Int) (B:Int) (c:Int) (k:Int) (n:Int)=some (b,l,dg,x,q,a,d,((mksT (bp a d) c k n).1:Int),((mksT (bp a d) c k n).2.1:Int),((mksT (bp a d) c k n).2.2:Int))/\
   okY b l dg x q/\tH b dg x=false/\(a0%6≠3->hasX dg=false)/\dg.length<=5/\(q≠0->a=[]/\d=[])/\(q=0->a=monT (j%40))/\
   (d=[]\/(a∈((List.range 12).map λi=>two (i+1))++[[48,88],[49,88],[88,50],[88,88],[88,48],[88,57]]/\a≠[]/\sea a=0/\d=dayT (B%40) a)):=by
 obtain⟨b,l,dg,x,q,e,z,p,C,t⟩:=OW m a0 a2 J I g N L K;have G:=JA z p C;have P:Int.tmod (c:Int) 4=((c%4:Nat):Int):=rfl;have Q:Int.tmod (k:Int) 4=((k%4:Nat):Int):=rfl;have X:Int.tmod (n:Int) 4=((n%4:Nat):Int):=rfl;obtain⟨R,V,U,W,T,S⟩:=gR z;have f:∀(a d:aa) (o:Option (Bool×Bool×aa×Int×Int×aa×aa×Int×Int×Int)),
   (ob (am (m+300) b l dg x q a d 0 0 0) λr=>cond (decide ((0:Int)<r)) (ob (am (m+300) b l dg x q a d (Int.tmod (c:Int) 4) 0 0) λr=>cond (decide ((1:Int)<r)) (ob (am (m+300) b l dg x q a d (Int.tmod (c:Int) 4) (Int.tmod (k:Int) 4) 0) λr=>cond (decide ((2:Int)<r)) (ob (am (m+300) b l dg x q a d (Int.tmod (c:Int) 4) (Int.tmod (k:Int) 4) (Int.tmod (n:Int) 4)) λr=>cond (decide ((3:Int)<r)) none (some (b,l,dg,x,q,a,d,Int.tmod (c:Int) 4,Int.tmod (k:Int) 4,Int.tmod (n:Int) 4))) (some (b,l,dg,x,q,a,d,Int.tmod (c:Int) 4,Int.tmod (k:Int) 4,0))) (some (b,l,dg,x,q,a,d,Int.tmod (c:Int) 4,0,0))) (some (b,l,dg,x,q,a,d,0,0,0)))=some (b,l,dg,x,q,a,d,((mksT (bp a d) c k n).1:Int),((mksT (bp a d) c k n).2.1:Int),((mksT (bp a d) c k n).2.2:Int)):=by
  intro a d _;have hc:=hZ a d;have:bp a d=1\/bp a d=2\/bp a d=3:=by omega
  rw[dO,dO,dO,dO];rcases this with h | h | h<;>rw[h]<;>rfl
 unfold aQ;rw[e];simp only[ob,d4];rw[iQ];by_cases y:q=0
 ·rw[ae y];rw[CV m _ _ _ _ _ j _ _ _ _ O];have H:=GV (show j%40<40 by omega);show ∃w E v A F u d,cond (!(monT (j%40)==[])) _ _=_/\_;by_cases s:monT (j%40)=[]
  ·refine⟨b,l,dg,x,q,[],[],?_,z,G,t,p,λh=>absurd y h,λ_=>s.symm,.inl rfl⟩;rw[s];exact f [] [] none
  ·rw[aL.2 s];show ∃w E v A F u d,ob (aC (m+300) b l dg x q (monT (j%40)) [] 0 0 0) _=_/\_;rw[nl (m+300) (by omega)];show ∃w E v A F u d,cond (sea (monT (j%40))==0) _ _=_/\_;rw[iQ];by_cases hs:sea (monT (j%40))=0
   ·rw[ae hs];have D:=H hs s;rw[JB m _ _ _ _ _ _ B _ _ _ (monT (j%40)) D M];exact⟨b,l,dg,x,q,monT (j%40),dayT (B%40) (monT (j%40)),f _ _ none,z,G,t,p,λh=>absurd y h,λ_=>rfl,.inr ⟨D,s,hs,rfl⟩⟩
   ·rw[ab hs];exact⟨b,l,dg,x,q,monT (j%40),[],f _ [] none,z,G,t,p,λh=>absurd y h,λ_=>rfl,.inl rfl⟩
 ·rw[ab y];exact⟨b,l,dg,x,q,[],[],f [] [] none,z,G,t,p,λ_=>⟨rfl,rfl⟩,λh=>absurd h y,.inl rfl⟩
def ME:((List.range 34).all λj=>!hasX (monT j))=true:=by decide +kernel
def MH:(((List.range 12).map λi=>two (i+1)).all λa=>(List.range 32).all λj=>!hasX (dayT j a))=true:=by decide +kernel
def Yy:((((List.range 12).map λi=>two (i+1))++[[48,88],[49,88],[88,50],[88,88],[88,48],[88,57]]).all λa=>hasX a||decide (a∈(List.range 12).map λi=>two (i+1)))=true:=by decide +kernel
def WQ(m a0 a2 D B u i r o n:Nat)(g:Bool)(y:a2<65536)(w:D<256)(G:B<256)(L:u<256)(J:i<256)(F:a0%6≠3)(N:u%40<=33)(O:i%40<=31):
  ∃s l dg x q a d k0 k1 k2,aQ (m+300) (a0:Int) g (a2:Int) (D:Int) (B:Int) (u:Int) (i:Int) (r:Int) (o:Int) (n:Int)=some (s,l,dg,x,q,a,d,((k0:Nat):Int),((k1:Nat):Int),((k2:Nat):Int))/\
   0<=q/\chkF s l dg x 0 a d (k0:Int) (k1:Int) (k2:Int)=0/\exD dg a d 0=true/\a.length<=18/\d.length<=18/\dg.length<=100:=by
 obtain⟨s,l,dg,x,q,a,d,e,E,K,C,H,v,k,p⟩:=NY m a0 a2 D B u i r o n g y w G L J;have I:=C F;have f:hasX a=false:=by
  by_cases h:q=0
  ·rw[k h];have:=(cb.1 ME) (u%40) (il.2 (by omega));simpa using this
  ·rw[(v h).1];rfl
 have c:a=[]\/0<sea a\/(sea a=0/\eW a 12=true):=by
  by_cases h:q=0
  ·rw[k h];exact Pg (by omega)
  ·exact .inl (v h).1
 have b:d=[]\/(a≠[]/\sea a=0/\eW d 31=true/\fitD a d=true/\hasX d=false):=by
  rcases p with h | ⟨j,z,hs,t⟩
  ·exact .inl h
  ·have a1:=Pq (show i%40<40 by omega) j;have a2:=J9 (show i%40<40 by omega) j;rw[<-t]at a1 a2;by_cases A:d=[]
   ·exact .inl A
   ·right;refine⟨z,hs,a1.resolve_left A,a2.resolve_left A,?_⟩;have b1:=(cb.1 Yy) a j;rw[f,qK,cK]at b1;have b2:=(cb.1 ((cb.1 MH) a b1)) (i%40) (il.2 (by omega));rw[t];simpa using b2
 have hc:chkD s l dg x 0 a d ((mksT (bp a d) r o n).1:Int) ((mksT (bp a d) r o n).2.1:Int) ((mksT (bp a d) r o n).2.2:Int)=0:=
  G7 (ac6 E) K (λh=>absurd h (by omega)) c (by
   rcases b with h | ⟨M,y,w,_⟩
   ·exact .inl h
   ·exact .inr ⟨M,y,w⟩) (zP _ _ _ _)
 refine⟨s,l,dg,x,q,a,d,_,_,_,e,RU E,Ld hc ?_,?_,?_,?_,by omega⟩
 ·rcases b with h | ⟨_,_,_,h,_⟩
  ·exact .inl h
  ·exact .inr h
 ·unfold exD;have:hasX d=false:=by
   rcases b with h | ⟨_,_,_,_,h⟩
   ·rw[h];rfl
   ·exact h
  rw[I,f,this];rfl
 ·rcases c with h | h | ⟨_,h⟩
  ·rw[h];simp
  ·have:=(IU h).1;omega
  ·have:=(pK (by omega) h).1;omega
 ·rcases b with h | ⟨_,_,h,_⟩
  ·rw[h];simp
  ·have:=(pK (by omega) h).1;omega
def Ku(m a0 a2 v u c j z y w:Nat)(g:Bool)(V:a0<256)(L:a2<65536)(D:v<256)(C:u<256)(W:c<256)(U:j<256):
  ∃o l dg x i d k0 k1 k2,bX (m+300) (a0:Int) g (a2:Int) (v:Int) (u:Int) (c:Int) (j:Int) (z:Int) (y:Int) (w:Int)=some (o,l,dg,x,0,i,d,((k0:Nat):Int),((k1:Nat):Int),((k2:Nat):Int))/\
   chkF o l dg x 0 i d (k0:Int) (k1:Int) (k2:Int)=0/\exD dg i d 0=true/\i.length<=18/\d.length<=18/\dg.length<=100:=by
 have H:Int.tmod (c:Int) 40=((c%40:Nat):Int):=rfl;have R:Int.tmod (j:Int) 40=((j%40:Nat):Int):=rfl;have I:Int.tmod (a0:Int) 6=((a0%6:Nat):Int):=rfl;have E:Int.tdiv ((j%40:Nat):Int) 2=((j%40 / 2:Nat):Int):=rfl;have fin:∀(b0 f b:Nat),f<256->b<256->b0%6≠3->f%40<=33->b%40<=31->
   ∃o l dg x i d k0 k1 k2,(ob (aQ (m+300) (b0:Int) g (a2:Int) (v:Int) (u:Int) (f:Int) (b:Int) (z:Int) (y:Int) (w:Int)) λa=>cond (decide ((d4 a).1>0)) (some (a.1,a.2.1,a.2.2.1,a.2.2.2.1,(0:Int),(d4 a).2.1,(d4 a).2.2.1,(d4 a).2.2.2.1,(d8 a).1,(d8 a).2)) (some (a.1,a.2.1,a.2.2.1,a.2.2.2.1,(d4 a).1,(d4 a).2.1,(d4 a).2.2.1,(d4 a).2.2.2.1,(d8 a).1,(d8 a).2)))=some (o,l,dg,x,0,i,d,((k0:Nat):Int),((k1:Nat):Int),((k2:Nat):Int))/\
   chkF o l dg x 0 i d (k0:Int) (k1:Int) (k2:Int)=0/\exD dg i d 0=true/\i.length<=18/\d.length<=18/\dg.length<=100:=by
  intro b0 f b c5 c6 O p n;obtain⟨o,l,dg,x,q,i,d,k0,k1,k2,e,T,P,M,N,r4,S⟩:=WQ m b0 a2 v u f b z y w g L D C c5 c6 O p n;refine⟨o,l,dg,x,i,d,k0,k1,k2,?_,P,M,N,r4,S⟩;rw[e];simp only[ob,d4,d8];by_cases h:q>0
  ·rw[ar h];rfl
  ·obtain rfl:q=0:=by omega
   rw[au h];rfl
 have s:33<c%40->wrap .u8 (((c%40:Nat):Int) - 33)=((c%40 - 33:Nat):Int):=λh=>by rw[gJ _ (by omega) (by omega)];omega
 have J:wrap .u8 ((j%40 / 2:Nat):Int)=((j%40 / 2:Nat):Int):=gJ _ (by omega) (by omega);unfold bX;rw[I,H,R,E,J];have k:∀b0:Nat,b0%6≠3->∀K:Nat->Nat->Option (Bool×Bool×aa×Int×Int×aa×aa×Int×Int×Int),
   (∀f b:Nat,f<256->b<256->f%40<=33->b%40<=31->∃o l dg x i d k0 k1 k2,K f b=some (o,l,dg,x,0,i,d,((k0:Nat):Int),((k1:Nat):Int),((k2:Nat):Int))/\chkF o l dg x 0 i d (k0:Int) (k1:Int) (k2:Int)=0/\exD dg i d 0=true/\i.length<=18/\d.length<=18/\dg.length<=100)->
   ∃o l dg x i d k0 k1 k2,(cond (decide (((c%40:Nat):Int)>33)) (cond (decide (((j%40:Nat):Int)>31)) (K (c%40 - 33) (j%40 / 2)) (K (c%40 - 33) j)) (cond (decide (((j%40:Nat):Int)>31)) (K c (j%40 / 2)) (K c j)))=some (o,l,dg,x,0,i,d,((k0:Nat):Int),((k1:Nat):Int),((k2:Nat):Int))/\chkF o l dg x 0 i d (k0:Int) (k1:Int) (k2:Int)=0/\exD dg i d 0=true/\i.length<=18/\d.length<=18/\dg.length<=100:=by
  intro b0 Q K t;by_cases G:33<c%40
  ·rw[ar (show((c%40:Nat):Int)>33 by omega)];by_cases B:31<j%40
   ·rw[ar (show((j%40:Nat):Int)>31 by omega)];exact t _ _ (by omega) (by omega) (by omega) (by omega)
   ·rw[au (show¬((j%40:Nat):Int)>31 by omega)];exact t _ _ (by omega) (by omega) (by omega) (by omega)
  ·rw[au (show¬((c%40:Nat):Int)>33 by omega)];by_cases B:31<j%40
   ·rw[ar (show((j%40:Nat):Int)>31 by omega)];exact t _ _ (by omega) (by omega) (by omega) (by omega)
   ·rw[au (show¬((j%40:Nat):Int)>31 by omega)];exact t _ _ (by omega) (by omega) (by omega) (by omega)
 have w5':∀{A:Type} (F:Int->Int->Option A) (b:Nat),(cond (decide (((c%40:Nat):Int)>33)) (F (wrap .u8 (((c%40:Nat):Int) - 33)) (b:Int)) (F (c:Int) (b:Int)))=(cond (decide (((c%40:Nat):Int)>33)) (F ((c%40 - 33:Nat):Int) (b:Int)) (F (c:Int) (b:Int))):=by
  intro A F b;by_cases h:33<c%40
  ·rw[s h]
  ·rw[au (show¬((c%40:Nat):Int)>33 by omega)];rfl
 have r:33<c%40\/¬33<c%40:=by omega
 by_cases c3:a0%6=3
 ·rw[show(((a0%6:Nat):Int)==3)=true by rw[c3];rfl];simp only[ah];rcases r with h | h
  ·rw[s h];exact k 0 (by omega) (λf b=>_) (λf b c5 c6 p n=>fin 0 f b c5 c6 (by omega) p n)
  ·have hx:=k 0 (by omega) (λf b=>_) (λf b c5 c6 p n=>fin 0 f b c5 c6 (by omega) p n);rw[au (show¬((c%40:Nat):Int)>33 by omega)]at hx ⊢;exact hx
 ·rw[show(((a0%6:Nat):Int)==3)=false from aL.2 (by omega)];simp only[af];by_cases c4:a0%6=4
  ·rw[show(((a0%6:Nat):Int)==4)=true by rw[c4];rfl];simp only[ah];rcases r with h | h
   ·rw[s h];exact k 0 (by omega) (λf b=>_) (λf b c5 c6 p n=>fin 0 f b c5 c6 (by omega) p n)
   ·have hx:=k 0 (by omega) (λf b=>_) (λf b c5 c6 p n=>fin 0 f b c5 c6 (by omega) p n);rw[au (show¬((c%40:Nat):Int)>33 by omega)]at hx ⊢;exact hx
  ·rw[show(((a0%6:Nat):Int)==4)=false from aL.2 (by omega)];simp only[af];rcases r with h | h
   ·rw[s h];exact k a0 c3 (λf b=>_) (λf b c5 c6 p n=>fin a0 f b c5 c6 c3 p n)
   ·have hx:=k a0 c3 (λf b=>_) (λf b c5 c6 p n=>fin a0 f b c5 c6 c3 p n);rw[au (show¬((c%40:Nat):Int)>33 by omega)]at hx ⊢;exact hx
def NB{dg m d:aa}(h:exD dg m d 0=true):exD dg m [] 0=true/\exD dg [] [] 0=true:=by
 unfold exD at h ⊢;simp only[aD,ko,qt]at h;obtain⟨⟨a,b,c⟩,_⟩:=h;rw[a,b];exact⟨rfl,rfl⟩
def Ik(g l:Bool)(dg:aa)(x q:Int)(m d:aa)(k0 k1 k2:Int):Bool:=
 (((g==false)&&((l==false)&&((dg==([]:aa))&&((x==0)&&((q==0)&&true)))))&&((m==([]:aa))&&((d==([]:aa))&&(((k0==0)&&((k1==0)&&((k2==0)&&true)))&&true))))
noncomputable def chkB(K:Int)(g l:Bool)(dg:aa)(x q:Int)(m d:aa)(k0 k1 k2:Int):Int:=
 if K=1 then(if chkF g l dg x q m d k0 k1 k2=0 then(if exD dg m d q=true then 0 else 11)else chkF g l dg x q m d k0 k1 k2)else if K=2\/K=3 then(if Ik g l dg x q m d k0 k1 k2=true then 0 else 5)else 18
def Ic(d b c a lo hi:Int):Int:=if d≠0 then d else if b≠0 then b else if c≠1/\a≠1 then 11 else if c≠1\/a≠1 then 0 else if lo>hi then 11 else 0
section
variable {K:Int} {g l:Bool} {dg:List UInt8} {x q:Int} {m d:List UInt8} {k0 k1 k2:Int} (hml:m.length<=18) (hdl:dg.length<=100) (hd18:d.length<=18) (h0:0<=k0) (h1:0<=k1) (h2:0<=k2)
include hml hdl hd18 h0 h1 h2
def yK:jm 20000000 K g l dg x q m d k0 k1 k2=some (chkB K g l dg x q m d k0 k1 k2):=by
 unfold jm chkB;rw[yB hml hdl h0 h1 h2,Lr 20000000 g l dg x q m d k0 k1 k2 (by omega) (by omega) (by omega)];simp only[ob];by_cases a:K=1
 ·subst a;rw[ae rfl];simp only[xY,ah];by_cases hc:chkF g l dg x q m d k0 k1 k2=0
  ·rw[ae hc,hc];by_cases e:exD dg m d q=true
   ·rw[ae e,e];rfl
   ·rw[ab e];rw[KH]at e;rw[e];rfl
  ·rw[ab hc,bne0 hc];rfl
 ·rw[ab a,aL.2 a];simp only[af];have f:(!(((g==false)&&((l==false)&&((dg==([]:aa))&&((x==0)&&((q==0)&&true)))))&&((m==([]:aa))&&((d==([]:aa))&&(((k0==0)&&((k1==0)&&((k2==0)&&true)))&&true)))))=!(Ik g l dg x q m d k0 k1 k2):=rfl;rw[f];by_cases c:K=2
  ·subst c;rw[ae (.inl rfl)];cases Ik g l dg x q m d k0 k1 k2<;>rfl
  ·rw[aL.2 c];by_cases b:K=3
   ·subst b;rw[ae (.inr rfl)];cases Ik g l dg x q m d k0 k1 k2<;>rfl
   ·rw[aL.2 b,ad];rfl
def AM:fS 20000000 K g l dg x q m d k0 k1 k2=some (chkB K g l dg x q m d k0 k1 k2):=by
 unfold fS chkB;rw[Ia hdl h0 h1 h2,FR 20000000 g l dg x q m d k0 k1 k2 (by omega) (by omega) (by omega) (by omega)];simp only[ob];by_cases a:K=1
 ·subst a;rw[ae rfl];simp only[xY,ah];by_cases hc:chkF g l dg x q m d k0 k1 k2=0
  ·rw[ae hc,hc];by_cases e:exD dg m d q=true
   ·rw[ae e,ae e];rfl
   ·rw[ab e,ab e];rfl
  ·rw[ab hc,aL.2 hc];rfl
 ·rw[ab a,aL.2 a];simp only[af];have f:(!(((g==false)&&((l==false)&&((dg==([]:aa))&&((x==0)&&((q==0)&&true)))))&&((m==([]:aa))&&((d==([]:aa))&&(((k0==0)&&((k1==0)&&((k2==0)&&true)))&&true)))))=!(Ik g l dg x q m d k0 k1 k2):=rfl;rw[f];by_cases c:K=2
  ·subst c;rw[ae (.inl rfl)];cases Ik g l dg x q m d k0 k1 k2<;>rfl
  ·rw[aL.2 c];by_cases b:K=3
   ·subst b;rw[ae (.inr rfl)];cases Ik g l dg x q m d k0 k1 k2<;>rfl
   ·rw[aL.2 b,ad];rfl
def Yb:ng 20000000 K g l dg x q m d k0 k1 k2=some (if chkB K g l dg x q m d k0 k1 k2=0 then(if K=2 then[46,46]else if K=3 then[]else rV g l dg x q m d k0.toNat k1.toNat k2.toNat,0)else([],chkB K g l dg x q m d k0 k1 k2)):=by
 unfold ng;rw[yK hml hdl hd18 h0 h1 h2];simp only[ob];by_cases hc:chkB K g l dg x q m d k0 k1 k2=0
 ·rw[ae hc,hc];simp only[fU,af];by_cases a:K=2
  ·subst a;rfl
  ·rw[aL.2 a,ab a];by_cases b:K=3
   ·subst b;rfl
   ·rw[aL.2 b,ab b];have k1':K=1:=by
     unfold chkB at hc;by_cases h:K=1
     ·exact h
     ·rw[ab h,ad]at hc;cases hc
    have c:chkF g l dg x q m d k0 k1 k2=0:=by
     unfold chkB at hc;rw[ae k1']at hc;by_cases h:chkF g l dg x q m d k0 k1 k2=0
     ·exact h
     ·rw[ab h]at hc;exact absurd hc h
    have e:dM 20000000 g l dg x q m d k0 k1 k2=_:=LJ 19999700 g l dg x q m d k0 k1 k2 hml hdl h0 h1 h2;rw[e,ae (pX c)];rfl
 ·rw[ab hc,bne0 hc];rfl
def yN(hc:chkB K g l dg x q m d k0 k1 k2=0)(b:K=1):chkF g l dg x q m d k0 k1 k2=0/\exD dg m d q=true:=by
 have c:=And.intro hml (And.intro hdl (And.intro hd18 (And.intro h0 (And.intro h1 h2))));unfold chkB at hc;rw[ae b]at hc;by_cases h:chkF g l dg x q m d k0 k1 k2=0
 ·rw[ae h]at hc;by_cases a:exD dg m d q=true
  ·exact⟨h,a⟩
  ·rw[ab a]at hc;cases hc
 ·rw[ab h]at hc;exact absurd hc h
end
def acg(n:Nat)(a b:Int):kN n a b=some (if a<b then -1 else if a>b then 1 else 0):=by
 unfold kN mJ;simp only[ob,fU,af];by_cases h:a<b
 ·rw[ar h,ae h];rfl
 ·rw[au h,ab h];by_cases c:a>b
  ·rw[ar c,ae c];rfl
  ·rw[au c,ab c];rfl
def J5(a b:Int):∃r,ma 20000000 0 a 0 b=some r/\decide (r>0)=decide (a>b):=by
 have d:oz 20000000 0 0=some 0:=rfl;have o1:ri 20000000 [0,-1]=some (-1):=by kernel_rfl
 have f:ri 20000000 [0,1]=some 1:=by kernel_rfl
 have e:ri 20000000 [0,0]=some 0:=by kernel_rfl
 unfold ma;rw[d,acg];simp only[ob];by_cases h:a<b
 ·rw[ae h,o1];exact⟨_,rfl,by rw[au (show¬a>b by omega)];rfl⟩
 ·rw[ab h];by_cases c:a>b
  ·rw[ae c,f];exact⟨_,rfl,by rw[ar c];rfl⟩
  ·rw[ab c,e];exact⟨_,rfl,by rw[au c];rfl⟩
def bne1{K:Int}(h:K≠1):(K != 1)=true:=by simp[h]
section
variable {K:Int} {g l:Bool} {dg:List UInt8} {x q:Int} {m d:List UInt8} {k0 k1 k2:Int} {K':Int} {g' l':Bool} {dg':List UInt8} {x' q':Int} {m' d':List UInt8} {p0 p1 p2:Int} (hml:m.length<=18) (hdl:dg.length<=100) (hd18:d.length<=18) (h0:0<=k0) (h1:0<=k1) (h2:0<=k2) (hml':m'.length<=18) (hdl':dg'.length<=100) (hd18':d'.length<=18) (h0':0<=p0) (h1':0<=p1) (h2':0<=p2)
include hml hdl hd18 h0 h1 h2 hml' hdl' hd18' h0' h1' h2'
def Xg:jG 20000000 K g l dg x q m d k0 k1 k2 K' g' l' dg' x' q' m' d' p0 p1 p2=some (Ic (chkB K g l dg x q m d k0 k1 k2) (chkB K' g' l' dg' x' q' m' d' p0 p1 p2) K K' (qF g dg x m d).1 (qF g' dg' x' m' d').2):=by
 unfold jG Ic;rw[yK hml hdl hd18 h0 h1 h2,yK hml' hdl' hd18' h0' h1' h2'];simp only[ob];by_cases c:chkB K g l dg x q m d k0 k1 k2=0
 ·rw[ad,c];by_cases b:chkB K' g' l' dg' x' q' m' d' p0 p1 p2=0
  ·rw[ad,b];simp only[fU,af];by_cases e:K=1
   ·rw[show(K != 1)=false by rw[e];rfl];simp only[af];by_cases a:K'=1
    ·rw[show(K' != 1)=false by rw[a];rfl,ad,ad];simp only[af];obtain⟨f,k⟩:=yN hml hdl hd18 h0 h1 h2 c e;obtain⟨j,i⟩:=yN hml' hdl' hd18' h0' h1' h2' b a;rw[Jf hml hdl hd18 h0 h1 h2,Jf hml' hdl' hd18' h0' h1' h2',ae f,ae k,ae j,ae i];simp only[ob];obtain⟨r,o,n⟩:=J5 (qF g dg x m d).1 (qF g' dg' x' m' d').2;rw[o];simp only[n];by_cases h:(qF g dg x m d).1>(qF g' dg' x' m' d').2
     ·rw[ar h,ae h];rfl
     ·rw[au h,ab h];rfl
    ·rw[bne1 a,ad,ea];rfl
   ·rw[bne1 e];by_cases a:K'=1
    ·rw[show(K' != 1)=false by rw[a];rfl,ad,ea];rfl
    ·rw[bne1 a,ea];rfl
  ·rw[ae b,bne0 b];rfl
 ·rw[ae c,bne0 c];rfl
def Ue:fB 20000000 K g l dg x q m d k0 k1 k2 K' g' l' dg' x' q' m' d' p0 p1 p2=some (Ic (chkB K g l dg x q m d k0 k1 k2) (chkB K' g' l' dg' x' q' m' d' p0 p1 p2) K K' (qF g dg x m d).1 (qF g' dg' x' m' d').2):=by
 unfold fB Ic;rw[AM hml hdl hd18 h0 h1 h2,AM hml' hdl' hd18' h0' h1' h2'];simp only[ob];by_cases e:chkB K g l dg x q m d k0 k1 k2=0
 ·rw[ad,e];by_cases c:chkB K' g' l' dg' x' q' m' d' p0 p1 p2=0
  ·rw[ad,c];simp only[fU,af];by_cases b:K=1
   ·rw[show(K != 1)=false by rw[b];rfl,show(K==1)=true by rw[b];rfl];simp only[af,ah];by_cases a:K'=1
    ·rw[show(K'==1)=true by rw[a];rfl,ad,ad];simp only[ah];obtain⟨i,o⟩:=yN hml hdl hd18 h0 h1 h2 e b;obtain⟨k,j⟩:=yN hml' hdl' hd18' h0' h1' h2' c a;obtain⟨rfl,f⟩:=yM i o;obtain⟨rfl,n⟩:=yM k j;rw[xh f hdl,xh n hdl'];simp only[ob];by_cases h:(qF g dg x m d).1>(qF g' dg' x' m' d').2
     ·rw[ar h,ae h];rfl
     ·rw[au h,ab h];rfl
    ·rw[aL.2 a,ad,ea];rfl
   ·rw[bne1 b,aL.2 b];by_cases a:K'=1
    ·rw[show(K' != 1)=false by rw[a];rfl,ad,ea];rfl
    ·rw[bne1 a,ea];rfl
  ·rw[ae c,bne0 c];rfl
 ·rw[ae e,bne0 e];rfl
end
def F8(y:Int){m:Nat}(b:1<=m)(e:m<=23):dayM y m<dayM y (m+1):=by
 by_cases h:m<=12
 ·have:=zh y b h;have:=kL y (m:Int);omega
 ·have c:=xa y (m:=m - 12) (by omega) (by omega);have a:=xa y (m:=m - 12+1) (by omega) (by omega);have d:=zh (y+1) (m:=m - 12) (by omega) (by omega);have:=kL (y+1) ((m - 12:Nat):Int);rw[show m - 12+12=m by omega]at c;rw[show m - 12+1+12=m+1 by omega]at a;omega
def PK(y:Int){a:Nat}(b:1<=a):∀c,1<=c->a+c<=24->dayM y a<dayM y (a+c)
 | 0,h,_=>absurd h (by omega)
 | c+1,_,d=>by
  have hs:=F8 y (m:=a+c) (by omega) (by omega);by_cases h:c=0
  ·subst h;exact hs
  ·have:=PK y b c (by omega) (by omega);rw[show a+(c+1)=a+c+1 by omega];omega
def Wl{g l:Bool}{dg:aa}{x:Int}{m d:aa}(E:Exact g l dg x m d):(qF g dg x m d).1<=(qF g dg x m d).2:=by
 unfold qF;by_cases a:m=[]
 ·rw[ae a];have:=zg (yOf g dg x);simp only[];split at this<;>omega
 ·rw[ab a];by_cases hs:0<sea m
  ·rw[ae hs];rcases E.mon with h | ⟨j,b,e,_⟩ | ⟨h,_⟩
   ·exact absurd h a
   ·obtain⟨f,c,_,a1,a2,o,p,_,n,k⟩:=I5 b;rw[e,n,k];have:=PK (yOf g dg x) a1 c (by omega) (by omega);simp only[];omega
   ·omega
  ·rw[ab hs];rcases E.mon with h | ⟨j,b,e,_⟩ | ⟨_,a1,a2,_⟩
   ·exact absurd h a
   ·rw[e,lT b]at hs;omega
   ·by_cases i:d=[]
    ·rw[ae i];have:=F8 (yOf g dg x) a1 (by omega);simp only[];omega
    ·rw[ab i];exact ql _
def B_of(m a0 a1 o n k h i r q f:Nat)(g:Bool)(B:a1<256)(t:o<65536)(s:n<256)(z:k<256)(v:h<256)(u:i<256):
  ∃K b l dg x a d k0 k1 k2,cO (m+300) (a0:Int) (a1:Int) g (o:Int) (n:Int) (k:Int) (h:Int) (i:Int) (r:Int) (q:Int) (f:Int)=some (K,b,l,dg,x,0,a,d,((k0:Nat):Int),((k1:Nat):Int),((k2:Nat):Int))/\
   chkB K b l dg x 0 a d (k0:Int) (k1:Int) (k2:Int)=0/\a.length<=18/\d.length<=18/\dg.length<=100/\(K=1\/((K=2\/K=3)/\b=false/\l=false/\dg=[]/\x=0/\a=[]/\d=[]/\k0=0/\k1=0/\k2=0)):=by
 have y:Int.tmod (a0:Int) 6=((a0%6:Nat):Int):=rfl;unfold cO;rw[y];by_cases C:a0%6=0
 ·rw[C];exact⟨2,false,false,[],0,[],[],0,0,0,rfl,rfl,by simp,by simp,by simp,.inr ⟨.inl rfl,rfl,rfl,rfl,rfl,rfl,rfl,rfl,rfl,rfl⟩⟩
 ·rw[show(((a0%6:Nat):Int)==0)=false from aL.2 (by omega)];by_cases w:a0%6=1
  ·rw[w];exact⟨3,false,false,[],0,[],[],0,0,0,rfl,rfl,by simp,by simp,by simp,.inr ⟨.inr rfl,rfl,rfl,rfl,rfl,rfl,rfl,rfl,rfl,rfl⟩⟩
  ·rw[show(((a0%6:Nat):Int)==1)=false from aL.2 (by omega)];obtain⟨b,l,dg,x,a,d,k0,k1,k2,e,hc,A,j,c,p⟩:=Ku m a1 o n k h i r q f g B t s z v u;refine⟨1,b,l,dg,x,a,d,k0,k1,k2,?_,?_,j,c,p,.inl rfl⟩
   ·simp only[af];rw[e];rfl
   ·unfold chkB;rw[ae rfl,ae hc,ae A]
def plR(r:DR):Nat:=r.2.2.2.2.2.2.2.2.1.1
def enR(r:DR):Nat:=r.2.2.2.2.2.2.2.2.2
def L9{l:aa}{b:UInt8}(h:l.take 2=[b,b]):∃r,l=b::b::r:=by
 match l,h with
 | a::c::r,h=>simp at h;exact⟨r,by rw[h.1,h.2]⟩
def Fg{S:aa}{a:Nat}(h:a<=S.length){r:DR}(b:fY S a=.inr r):uu S a=.inr r/\chkR r=0:=by
 unfold fY at b;cases c:uu S a with
 | inl k=>rw[c]at b;cases b
 | inr d=>
  rw[c]at b;simp only[]at b;by_cases hc:chkR d=0
  ·rw[ae hc]at b;obtain rfl:=Sum.inr.inj b;exact⟨rfl,hc⟩
  ·rw[ab hc]at b;cases b
def uS(c:UInt8)(k:Nat)(a:k<256):((c.toNat:Int)==(k:Int))=decide (c=UInt8.ofNat k):=by
 rw[mL,bA,decide_eq_true_iff];constructor
 ·intro h;apply ii.1;have:c.toNat=k:=by omega
  rw[this];simp;omega
 ·rintro rfl;simp;omega
def Bg{S:aa}{a:Nat}(h:a<=S.length){k E p:Nat}(b:fY S a=.inl (k,E,p)):E≠0:=by
 unfold fY at b;cases c:uu S a with
 | inl k'=>rw[c]at b;simp only[]at b;have:=Sum.inl.inj b;simp at this;omega
 | inr d=>
  rw[c]at b;simp only[]at b;by_cases hc:chkR d=0
  ·rw[ae hc]at b;cases b
  ·rw[ab hc]at b;have:=Sum.inl.inj b;simp at this;omega
def smT(x:TD):Prop:=x.2.2.2.2.2.1.length<=18/\x.2.2.1.length<=100/\x.2.2.2.2.2.2.1.length<=18/\0<=x.2.2.2.2.2.2.2.1/\0<=x.2.2.2.2.2.2.2.2.1/\0<=x.2.2.2.2.2.2.2.2.2
noncomputable def cF(x:TD):Int:=chkF x.1 x.2.1 x.2.2.1 x.2.2.2.1 x.2.2.2.2.1 x.2.2.2.2.2.1 x.2.2.2.2.2.2.1 x.2.2.2.2.2.2.2.1 x.2.2.2.2.2.2.2.2.1 x.2.2.2.2.2.2.2.2.2
def exT(x:TD):Bool:=exD x.2.2.1 x.2.2.2.2.2.1 x.2.2.2.2.2.2.1 x.2.2.2.2.1
def dyT(x:TD):Int×Int:=qF x.1 x.2.2.1 x.2.2.2.1 x.2.2.2.2.2.1 x.2.2.2.2.2.2.1
def seT(x:TD):Int:=sea x.2.2.2.2.2.1
def coT(x:TD):Nat:=bp x.2.2.2.2.2.1 x.2.2.2.2.2.2.1
noncomputable def plT(x:TD):Bool:=decide (cF x=0)&&(exT x&&!decide (0<seT x))
def ow:smT d0:=by unfold smT;simp
def fcT{x:TD}(h:smT x):ap10 (bQ 20000000) x=some (cF x):=yB h.1 h.2.1 h.2.2.2.1 h.2.2.2.2.1 h.2.2.2.2.2
def reT{x:TD}(h:smT x):ap10 (aX 20000000) x=some (if exT x then 1 else 0):=by
 obtain⟨a,b,c,_⟩:=h;exact FR 20000000 _ _ _ _ _ _ _ _ _ _ (by omega) (by omega) (by omega) (by omega)
def rsT(x:TD):ap10 (aC 20000000) x=some (seT x):=nl 20000000 (by omega) _ _ _ _ _ _ _ _ _ _
def rcoT(x:TD):ap10 (am 20000000) x=some ((coT x:Nat):Int):=dO 20000000 _ _ _ _ _ _ _ _ _ _
def fpT{x:TD}(h:smT x):ap10 (bD 20000000) x=some (if x.2.2.2.2.2.2.1=[]then(if 0<seT x then 0 else if x.2.2.2.2.2.1=[]then 1 else 2)else 3):=RI 20000000 _ _ _ _ _ _ _ _ _ _ h.1
def fmT{x:TD}(h:smT x):ap10 (eP 20000000) x=some (hasX x.2.2.1||(hasX x.2.2.2.2.2.1||hasX x.2.2.2.2.2.2.1)):=by
 obtain⟨a,b,c,_⟩:=h;exact G0 20000000 _ _ _ _ _ _ _ _ _ _ (by omega) (by omega) (by omega)
def fdT{x:TD}(h:smT x):ap10 (io 20000000) x=some (if cF x=0 then(if exT x=true then(0,(dyT x).1,0,(dyT x).2,0)else(0,0,0,0,1))else(0,0,0,0,cF x)):=Jf h.1 h.2.1 h.2.2.1 h.2.2.2.1 h.2.2.2.2.1 h.2.2.2.2.2
def NT{x:TD}(hc:cF x=0)(a:exT x=true):x.2.2.2.2.1=0/\Exact x.1 x.2.1 x.2.2.1 x.2.2.2.1 x.2.2.2.2.2.1 x.2.2.2.2.2.2.1:=yM hc a
def rdT{x:TD}(h:smT x)(hc:cF x=0)(a:exT x=true):ap10 (bn 20000000) x=some (dyT x):=by
 obtain⟨b,E⟩:=NT hc a;have:=xh (k0:=x.2.2.2.2.2.2.2.1) (k1:=x.2.2.2.2.2.2.2.2.1) (k2:=x.2.2.2.2.2.2.2.2.2) E h.2.1;rw[<-b]at this;exact this
def Vs{x:TD}(hc:cF x=0)(a:exT x=true):(dyT x).1<=(dyT x).2:=Wl (NT hc a).2
def vw{x:TD}(hc:cF x=0):(x.2.2.2.2.2.1=[]\/x.2.2.2.2.2.1.length=2)/\(x.2.2.2.2.2.2.1=[]\/x.2.2.2.2.2.2.1.length=2)/\(x.2.2.2.2.2.2.1≠[]->x.2.2.2.2.2.1≠[]/\seT x=0):=by
 obtain⟨_,a,b,_,c⟩:=rt (pX hc);exact⟨a,b,c⟩
def lM{x y:TD}:eqD x y=true↔x=y:=by
 obtain⟨a1,a2,h,i,g,o,e,c,n,b⟩:=x;obtain⟨b1,b2,m,d,k,l,j,f,p,a⟩:=y;simp[and_assoc]
def KZ{x:TD}(h:smT x):qe 20000000 x=some (exT x):=by
 unfold qe;rw[fmT h];simp only[ob,exT,exD];cases(hasX x.2.2.1||(hasX x.2.2.2.2.2.1||hasX x.2.2.2.2.2.2.1))<;>rfl
def Eg{x:TD}(h:smT x):nr 20000000 x=some (plT x):=by
 unfold nr plT;rw[fcT h,KZ h,fpT h];simp only[ob];by_cases hc:cF x=0
 ·rw[hc];cases d:exT x
  ·rfl
  ·show some ((if _ then _ else _) != (0:Int))=some (true&&(true&&!decide (0<seT x)));obtain⟨_,_,c⟩:=vw hc;by_cases a:x.2.2.2.2.2.2.1=[]
   ·rw[ae a];by_cases hs:0<seT x
    ·rw[ae hs,ar hs];rfl
    ·rw[ab hs,au hs];by_cases b:x.2.2.2.2.2.1=[]
     ·rw[ae b];rfl
     ·rw[ab b];rfl
   ·rw[ab a,(c a).2];rfl
 ·rw[au hc,show(cF x==0)=false from by simp[hc]];rfl
def ot{x:TD}:plT x=true↔cF x=0/\exT x=true/\¬0<seT x:=by
 unfold plT;simp[and_assoc]
noncomputable def ordB(x y:TD):Bool:=(plT x&&plT y)&&(decide (coT x=coT y)&&decide ((dyT x).1<=(dyT y).1))
def Di{x:TD}(hc:cF x=0)(hs:¬0<seT x):(if x.2.2.2.2.2.2.1=[]then(if 0<seT x then(0:Int)else if x.2.2.2.2.2.1=[]then 1 else 2)else 3)=((coT x:Nat):Int):=by
 obtain⟨_,_,c⟩:=vw hc;unfold coT bp;by_cases a:x.2.2.2.2.2.2.1=[]
 ·rw[ae a,ab hs];by_cases b:x.2.2.2.2.2.1=[]
  ·simp[b,a]
  ·simp[b,a]
 ·have b:=(c a).1;simp[a,b]
def Nc{x y:TD}(hx:smT x)(hy:smT y):pC 20000000 x y=some (ordB x y):=by
 unfold pC ordB;rw[Eg hx,Eg hy];cases g:plT x
 ·rfl
 cases l:plT y
 ·rfl
 obtain⟨d,m,i⟩:=ot.1 g;obtain⟨b,j,k⟩:=ot.1 l;rw[fpT hx,fpT hy,fdT hx,fdT hy,Di d i,Di b k,ae d,ae b,ae m,ae j];simp only[ob,u5,u4,u3,u2,dU,af,Bool.and_self,rG];by_cases a:coT x=coT y
 ·rw[a,ar rfl];obtain⟨r,f,h⟩:=J5 (dyT x).1 (dyT y).1;simp only[fU,af,f,rG];refine cf some ?_;have:decide (r<=0)=!decide (r>0):=by
   by_cases c:r<=0
   ·rw[ar c,au (by omega)];rfl
   ·rw[au c,rM];rfl
  rw[this,h];by_cases e:(dyT x).1<=(dyT y).1
  ·rw[ar e,au (by omega)];rfl
  ·rw[au e,rM];rfl
 ·have:(((coT x:Nat):Int) != ((coT y:Nat):Int))=true:=by simp;omega
  rw[this,au a];rfl
noncomputable def itE(x:TD)(r:Bool)(y:TD)(all:Bool):Int:=
 if cF x≠0 then cF x else if r=true/\cF y≠0 then cF y else if r=false/\eqD y d0=false then 5 else if r=true/\ordB x y=false then 10 else if all=true/\exT x=false then 10 else 0
def FM{x y:TD}(r:Bool)(hx:smT x)(hy:smT y)(K:Int)(hc:cF x=0)(a:¬(r=true/\cF y≠0)):fm 20000000 5 10 10 x r y K=some (itE x r y (K==4)):=by
 unfold fm tD uy ui itE;rw[Nc hx hy,KZ hx,ab (by simpa using hc),ab a];cases r
 ·generalize eqD y d0=z;cases z
  ·rfl
  ·cases(K==4)
   ·rfl
   ·cases exT x<;>rfl
 ·simp only[ob,dU,af,ah,reduceCtorEq,AB,aF,lL];cases ordB x y
  ·rfl
  ·simp only[dU,af,Bool.true_eq_false,aF];cases(K==4)
   ·rfl
   ·cases exT x<;>rfl
def Jc{x y:TD}(r:Bool)(hx:smT x)(hy:smT y)(K:Int):gX 20000000 x r y K=some (if K=3\/K=4 then itE x r y (K==4)else 18):=by
 have b:(ob (ap10 (bQ 20000000) x) λc=>cond (c != 0) (some c) (cond r (ob (ap10 (bQ 20000000) y) λf=>cond (f != 0) (some f) (ob (fm 20000000 5 10 10 x r y K) λg=>some g)) (ob (fm 20000000 5 10 10 x r y K) λh=>some h)))=some (itE x r y (K==4)):=by
  rw[fcT hx];simp only[ob];by_cases hc:cF x=0
  ·rw[show(cF x != 0)=false from by simp[hc],af];cases r
   ·rw[FM false hx hy K hc (by simp)];rfl
   ·rw[ah,fcT hy];simp only;by_cases a:cF y=0
    ·rw[show(cF y != 0)=false from by simp[a],af,FM true hx hy K hc (by simp[a])]
    ·rw[show(cF y != 0)=true from by simp[a],ah];unfold itE;rw[ab (by simpa using hc),ae ⟨rfl,a⟩]
  ·rw[show(cF x != 0)=true from by simp[hc],ah];unfold itE;rw[ae hc]
 unfold gX;by_cases e:K=3
 ·subst e;exact b.trans (by rfl)
 ·rw[show(K != 3)=true from by simp[e],ah];by_cases d:K=4
  ·subst d;exact b.trans (by rfl)
  ·rw[show(K != 4)=true from by simp[d],ah,ad]
def acE{x y:TD}{r all:Bool}(h:cF x≠0):itE x r y all=cF x:=ae h
def aaR{x y:TD}{all:Bool}(hc:cF x=0)(h:cF y≠0):itE x true y all=cF y:=by
 unfold itE;rw[ab (λh=>h hc),ae ⟨rfl,h⟩]
def TB{x y:TD}{all:Bool}(hc:cF x=0):itE x false y all=if eqD y d0=false then 5 else if all=true/\exT x=false then 10 else 0:=by
 have a:(false=true/\cF y≠0)↔False:=by simp
 have b:(false=true/\ordB x y=false)↔False:=by simp
 have c:(false=false/\eqD y d0=false)↔eqD y d0=false:=by simp
 unfold itE;rw[ab (λh=>h hc)];simp only[a,b,aF,lL]
def abp{x y:TD}{all:Bool}(hc:cF x=0)(hy:cF y=0):itE x true y all=if ordB x y=false then 10 else if all=true/\exT x=false then 10 else 0:=by
 have b:(true=true/\ordB x y=false)↔ordB x y=false:=by simp
 have a:(true=false/\eqD y d0=false)↔False:=by simp
 unfold itE;rw[ab (λh=>h hc),ab (λh=>h.2 hy)];simp only[a,aF,lL]
def uW{A:Type}(f:Nat->A->Int):Nat->List A->Option (Nat×Int)
 | _,[]=>none
 | i,t::r=>if f i t≠0 then some (i,f i t)else uW f (i+1) r
def BZ{A X Y:Type}{step:X->Option (X⊕Y)}{st:Nat->X}{L:List A}{f:Nat->A->Int}{yes:Nat->Int->Y}{no:Y}
  (e:∀i t,L[i]?=some t->step (st i)=some (if f i t≠0 then .inr (yes i (f i t))else .inl (st (i+1)))) (g:step (st L.length)=some (.inr no)):
  ∀(r i:Nat),i+r=L.length->∀N,r<N->av step N (st i)=some (match uW f i (L.drop i)with | some p=>yes p.1 p.2 | none=>no):=by
 intro r
 induction r with
 | zero=>
  intro i hi N d;obtain⟨N,rfl⟩:∃k,N=k+1:=⟨N - 1,by omega⟩;rw[av,show i=L.length by omega,g,tg];rfl
 | succ r ih=>
  intro i hi N d;obtain⟨N,rfl⟩:∃k,N=k+1:=⟨N - 1,by omega⟩;have a:i<L.length:=by omega
  have c:L[i]?=some L[i]:=ba a;rw[av,e i _ c,qj a,uW];by_cases b:f i L[i]≠0
  ·rw[ae b,ae b]
  ·rw[ab b,ab b];exact ih (i+1) (by omega) N (by omega)
abbrev rT(t:TI):Bool:=(d8 t).2.2.1
abbrev iT(t:TI):TD:=(d8 t).2.2.2
def smI(t:TI):Prop:=smT (iF t)/\smT (iT t)
noncomputable def itI(t:TI)(all:Bool):Int:=itE (iF t) (rT t) (iT t) all
noncomputable def endB(t:TI):Bool:=!rT t&&plT (iF t)
noncomputable def errI(K:Int)(e l:Bool)(n i:Nat)(t:TI):Int:=
 if itI t (K==4)≠0 then itI t (K==4)else if(e&&decide (i=0))&&!endB t||((l&&decide (i+1=n))&&!endB t||(e&&(l&&decide (n=1))))then 10 else 0
noncomputable def AS(K:Int)(e l:Bool)(L:List TI):Int×Int:=match uW (errI K e l L.length) 0 L with
 | some p=>((p.1:Int),p.2)
 | none=>(0,0)
def lU{i:Nat}(h:i<9223372036854775807):w64 ((i:Int)+1)=((i+1:Nat):Int):=by
 show wrap .i64 _=_;rw[wd];omega
def Il{i:Nat}(a:0<i)(h:i<9223372036854775807):w64 ((i:Int) - 1)=((i - 1:Nat):Int):=by
 show wrap .i64 _=_;rw[wd];omega
def natB(a b:Nat):((a:Int)==(b:Int))=decide (a=b):=by
 by_cases h:a=b
 ·subst h;simp
 ·rw[au h];simp;omega
def Pe(a:Nat):((a:Int)==0)=decide (a=0):=natB a 0
def Za{x y:TD}(r:Bool)(hx:smT x):qA 20000000 x r y=some (!r&&plT x):=by
 unfold qA;rw[Eg hx];cases r<;>rfl
def Oc{K:Int}(k:K=3\/K=4){e l:Bool}{L:List TI}{i:Nat}{t:TI}(hi:L[i]?=some t)(hs:smI t)(o:L.length<=1000000)(D:TD)(KF:Int)(DF:TD)(KT:Int)(DT:TD):
  iG 20000000 (itI t (K==4)) 10 10 10 (iF t) (rT t) (iT t) K D KF DF KT DT e l (i:Int) (w64 (len L - 1)) L=some (errI K e l L.length i t):=by
 have n:i<L.length:=(qk.1 hi).1;have d:w64 (len L - 1)=((L.length - 1:Nat):Int):=Il (by omega) (by omega);have g:gX 20000000 (iF t) (rT t) (iT t) K=some (itI t (K==4)):=by
  rw[Jc _ hs.1 hs.2,ae k];rfl
 unfold iG sN sU sS sL errI;rw[g,d];simp only[Za (rT t) hs.1,ob,Pe,natB];have m:decide (i=L.length - 1)=decide (i+1=L.length):=by congr 1;exact propext (by omega)
 have j:decide (L.length - 1=0)=decide (L.length=1):=by congr 1;exact propext (by omega)
 rw[m,j];show cond (itI t (K==4) != 0) _ _=_;by_cases f:itI t (K==4)=0
 ·rw[ab (λh=>h f),show(itI t (K==4) != 0)=false from by simp[f],af];show _=some (if((e&&decide (i=0))&&!endB t||((l&&decide (i+1=L.length))&&!endB t||(e&&(l&&decide (L.length=1)))))=true then 10 else 0);unfold endB;generalize(!rT t&&plT (iF t))=z;generalize decide (i=0)=a;generalize decide (i+1=L.length)=b;generalize decide (L.length=1)=c;cases e<;>cases l<;>cases z<;>cases a<;>cases b<;>cases c<;>rfl
 ·rw[ae f,show(itI t (K==4) != 0)=true from by simp[f],ah]
def Uk {K:Int} (g:K=3\/K=4) {e l:Bool} {L:List TI} (hs:∀t∈L,smI t) (j:L.length<=1000000) (D:TD) (KF:Int) (DF:TD) (KT:Int) (DT:TD):
  nD 20000000 K D KF DF KT DT e l L=some (AS K e l L):=by
 have:=BZ (step:=gz 20000000) (st:=λi=>(len L,(i:Int),L,K,D,KF,DF,KT,DT,e,l,w64 (len L - 1))) (L:=L) (f:=errI K e l L.length) (yes:=λi q=>.inl ((i:Int),q)) (no:=.inr ())
  (λi t hi=>by
   have d:i<L.length:=(qk.1 hi).1;have a:=hs t (fR hi);have c:gX 20000000 (iF t) (rT t) (iT t) K=some (itI t (K==4)):=by
    rw [Jc _ a.1 a.2,ae g];rfl
   unfold gz;simp only [u12,u11,u10,u9,u8,u7,u6,u5,u4,u3,u2];rw [ar (show (i:Int)<len L by unfold len;omega),dh d];simp only [ah,ob,hi];rw [show gX 20000000 (iF t) (d8 t).2.2.1 (d8 t).2.2.2 K=some (itI t (K==4)) from c];simp only;rw [show iG 20000000 (itI t (K==4)) 10 10 10 (iF t) (d8 t).2.2.1 (d8 t).2.2.2 K D KF DF KT DT e l (i:Int) (w64 (len L - 1)) L=some (errI K e l L.length i t) from Oc g hi a j D KF DF KT DT];simp only;rw [lU (by omega)];by_cases b:errI K e l L.length i t=0
   ·rw [ab (λh=>h b),show (errI K e l L.length i t != 0)=false from by simp [b]];rfl
   ·rw [ae b,show (errI K e l L.length i t != 0)=true from by simp [b]];rfl)
  (by
   unfold gz;simp only [u12,u11,u10,u9,u8,u7,u6,u5,u4,u3,u2];rw [au (show ¬(L.length:Int)<len L by unfold len;omega)];rfl)
  L.length 0 (by omega) 20000000 (by omega)
 unfold nD AS;rw [cM] at this;show obs (av (gz 20000000) 20000000 (len L,((0:Nat):Int),L,K,D,KF,DF,KT,DT,e,l,w64 (len L - 1))) _ _=_;rw [this];cases uW (errI K e l L.length) 0 L<;>rfl
noncomputable def ug(K:Int)(x:TD):Int:=chkB K x.1 x.2.1 x.2.2.1 x.2.2.2.1 x.2.2.2.2.1 x.2.2.2.2.2.1 x.2.2.2.2.2.2.1 x.2.2.2.2.2.2.2.1 x.2.2.2.2.2.2.2.2.1 x.2.2.2.2.2.2.2.2.2
noncomputable def pa(K:Int)(x:TD)(a:Int)(y:TD):Int:=Ic (ug K x) (ug a y) K a (dyT x).1 (dyT y).2
def PY{x y:TD}(hx:smT x)(hy:smT y)(K a:Int):ap10 (ap10 (jG 20000000 K) x a) y=some (pa K x a y):=
 Xg hx.1 hx.2.1 hx.2.2.1 hx.2.2.2.1 hx.2.2.2.2.1 hx.2.2.2.2.2 hy.1 hy.2.1 hy.2.2.1 hy.2.2.2.1 hy.2.2.2.2.1 hy.2.2.2.2.2
def QS{x y:TD}(hx:smT x)(hy:smT y)(K a:Int):ap10 (ap10 (fB 20000000 K) x a) y=some (pa K x a y):=
 Ue hx.1 hx.2.1 hx.2.2.1 hx.2.2.2.1 hx.2.2.2.2.1 hx.2.2.2.2.2 hy.1 hy.2.1 hy.2.2.1 hy.2.2.2.1 hy.2.2.2.2.1 hy.2.2.2.2.2
def unuB(K:Int)(D:TD)(KF:Int)(DF:TD)(KT:Int)(DT:TD)(e l:Bool)(n:Nat):Bool:=
 !(K==1||eqD D d0)||(!(K==2||((KF==0)&&((eqD DF d0)&&true))&&((KT==0)&&((eqD DT d0)&&true)))||!(K==3||(K==4||(decide (n=0)&&(!e&&!l)))))
def Pm(n:Nat)(K:Int)(D:TD)(KF:Int)(DF:TD)(KT:Int)(DT:TD)(e l:Bool)(L:List TI):
  nS n K D KF DF KT DT e l L=some (unuB K D KF DF KT DT e l L.length):=by
 unfold nS unuB;rw[show(len L==0)=decide (L.length=0)from Pe _];generalize eqD D d0=b;generalize((KF==0)&&((eqD DF d0)&&true))=z1;generalize((KT==0)&&((eqD DT d0)&&true))=z2;generalize decide (L.length=0)=a;generalize(K==1)=k1;generalize(K==2)=k2;generalize(K==3)=k3;generalize(K==4)=k4;revert b z1 z2 a k1 k2 k3 k4 e l;decide +kernel
noncomputable def fA(K:Int)(D:TD)(KF:Int)(DF:TD)(KT:Int)(DT:TD)(e l:Bool)(L:List TI):Int×Int:=
 if K<1\/4<K then(0,18)else if unuB K D KF DF KT DT e l L.length=true then(0,5)else if K=1 then(0,cF D)else if K=2 then(0,pa KF DF KT DT)else if L.length=0 then(0,17)else if 256<L.length then(0,3)else AS K e l L
def smE(D DF DT:TD)(L:List TI):Prop:=smT D/\smT DF/\smT DT/\∀t∈L,smI t
def JD{K:Int}{D:TD}{KF:Int}{DF:TD}{KT:Int}{DT:TD}{e l:Bool}{L:List TI}(h:smE D DF DT L):
  ny 20000000 K D KF DF KT DT e l L=some (fA K D KF DF KT DT e l L):=by
 obtain⟨g,f,i,j⟩:=h;unfold ny fA;by_cases a:K<1
 ·rw[ar a,ae (.inl a)];rfl
 by_cases c:4<K
 ·rw[au a,show decide (K>4)=true from ar c,ae (.inr c)];rfl
 rw[au a,show decide (K>4)=false from au c,ad,Pm];simp only[af,ob];cases unuB K D KF DF KT DT e l L.length
 ·simp only[af,bI,aF];by_cases k1:K=1
  ·rw[ae k1,show(K==1)=true from by simp[k1],fcT g];rfl
  by_cases k2:K=2
  ·rw[ab k1,ae k2,show(K==1)=false from by simp[k1],show(K==2)=true from by simp[k2],PY f i];rfl
  rw[ab k1,ab k2,show(K==1)=false from by simp[k1],show(K==2)=false from by simp[k2]];simp only[af];rw[show(len L==0)=decide (L.length=0)from Pe _];by_cases b:L.length=0
  ·rw[ar b,ae b];rfl
  rw[au b,ab b];by_cases d:256<L.length
  ·rw[show decide (len L>256)=true from ar (by show(256:Int)<(L.length:Int);omega),ae d];rfl
  rw[show decide (len L>256)=false from au (by show¬(256:Int)<(L.length:Int);omega),ab d,Uk (by omega) j (by omega)];rfl
 ·rfl
def yz{K:Int}{D:TD}{KF:Int}{DF:TD}{KT:Int}{DT:TD}{e l:Bool}{L:List TI}(h:smE D DF DT L):
  jn 20000000 K D KF DF KT DT e l L=some (fA K D KF DF KT DT e l L).2:=by
 unfold jn;rw[JD h];rfl
abbrev TR:=aj
def natI(x:Int)(b:Nat):Prop:=0<=x/\x<(b:Int)
def wfD(a0 a2 d e c g b a f:Int):Prop:=natI a0 256/\natI a2 65536/\natI d 256/\natI e 256/\natI c 256/\natI g 256/\natI b 256/\natI a 256/\natI f 256
def natI.nat{x:Int}{b:Nat}(h:natI x b):∃n:Nat,x=(n:Int)/\n<b:=⟨x.toNat,by have:=h.1;omega,by have:=h.1;have:=h.2;omega⟩
def DofI{a0 a2 k j i b f c a:Int}(g:Bool)(h:wfD a0 a2 k j i b f c a):∃x:TD,aQ 20000000 a0 g a2 k j i b f c a=some x/\smT x/\cF x=0:=by
 obtain⟨D,A,s,p,E,y,u,z,H⟩:=h;obtain⟨a0,rfl,b0⟩:=D.nat;obtain⟨a2,rfl,b2⟩:=A.nat;obtain⟨k,rfl,I⟩:=s.nat;obtain⟨j,rfl,t⟩:=p.nat;obtain⟨i,rfl,v⟩:=E.nat;obtain⟨b,rfl,F⟩:=y.nat;obtain⟨f,rfl,w⟩:=u.nat;obtain⟨c,rfl,C⟩:=z.nat;obtain⟨a,rfl,G⟩:=H.nat;obtain⟨L,l,dg,x,q,r,d,k0,k1,k2,e,hc,B,o⟩:=abf 19999700 a0 a2 k j i b f c a g b2 I t v F w C G;obtain⟨J,m,n,_⟩:=rt hc;obtain⟨_,_,_,_,_,K⟩:=gR J;refine⟨_,e,⟨?_,by show dg.length<=100;omega,?_,by simp,by simp,by simp⟩,Ld hc o⟩
 ·rcases m with h | h
  ·rw[h];simp
  ·show r.length<=18;omega
 ·rcases n with h | h
  ·rw[h];simp
  ·show d.length<=18;omega
def S5:((List.range 13).all λj=>sea (monT j)==0)=true:=by decide +kernel
def abR(a0 a2 h f a i k j n:Nat)(g:Bool)(v:a2<65536)(s:h<256)(o:f<256)(u:a<256)(t:i<256)(w:a%40<=12):
  ∃r:TD,aQ 20000000 (a0:Int) g (a2:Int) (h:Int) (f:Int) (a:Int) (i:Int) (k:Int) (j:Int) (n:Int)=some r/\seT r=0:=by
 obtain⟨y,l,dg,x,q,p,d,e,_,_,_,_,c,b,_⟩:=NY 19999700 a0 a2 h f a i k j n g v s o u t;refine⟨_,e,?_⟩;show sea p=0;by_cases m:q=0
 ·rw[b m];have:=(cb.1 S5) (a%40) (il.2 (by omega));simpa using this
 ·rw[(c m).1];decide
def ExI{a0 a2 n m f b k j i:Int}(g:Bool)(h:wfD a0 a2 n m f b k j i):
  ∃x:TD,bX 20000000 a0 g a2 n m f b k j i=some x/\smT x/\cF x=0/\exT x=true/\(Int.tmod f 40<=12->seT x=0):=by
 obtain⟨L,K,s,q,M,t,E,I,Q⟩:=h;obtain⟨a0,rfl,b0⟩:=L.nat;obtain⟨a2,rfl,b2⟩:=K.nat;obtain⟨n,rfl,B⟩:=s.nat;obtain⟨m,rfl,w⟩:=q.nat;obtain⟨f,rfl,z⟩:=M.nat;obtain⟨b,rfl,N⟩:=t.nat;obtain⟨k,rfl,U⟩:=E.nat;obtain⟨j,rfl,V⟩:=I.nat;obtain⟨i,rfl,W⟩:=Q.nat;obtain⟨H,l,dg,x,C,d,k0,k1,k2,e,hc,O,u,p,v⟩:=Ku 19999700 a0 a2 n m f b k j i g b0 b2 B w z N;refine⟨_,e,⟨u,v,p,by simp,by simp,by simp⟩,hc,O,λD=>?_⟩;have A:Int.tmod (f:Int) 40=((f%40:Nat):Int):=rfl;rw[A]at D;have R:Int.tmod (b:Int) 40=((b%40:Nat):Int):=rfl;have F:Int.tdiv ((b%40:Nat):Int) 2=((b%40 / 2:Nat):Int):=rfl;have J:wrap .u8 ((b%40 / 2:Nat):Int)=((b%40 / 2:Nat):Int):=gJ _ (by omega) (by omega);have S:=λ(P c6:Nat) (t:c6<256)=>abR P a2 n m f c6 k j i g b2 B w z t (by omega);have e':bX 20000000 (a0:Int) g (a2:Int) (n:Int) (m:Int) (f:Int) (b:Int) (k:Int) (j:Int) (i:Int)=some (H,l,dg,x,0,C,d,(k0:Int),(k1:Int),(k2:Int)):=e;have key:∀(o:Option TD) (y:TD),(∃r:TD,o=some r/\seT r=0)->(ob o λa=>cond (decide ((d4 a).1>0)) (some (a.1,a.2.1,a.2.2.1,a.2.2.2.1,(0:Int),(d4 a).2.1,(d4 a).2.2.1,(d4 a).2.2.2.1,(d8 a).1,(d8 a).2)) (some (a.1,a.2.1,a.2.2.1,a.2.2.2.1,(d4 a).1,(d4 a).2.1,(d4 a).2.2.1,(d4 a).2.2.2.1,(d8 a).1,(d8 a).2)))=some y->seT y=0:=by
  rintro o y ⟨r,rfl,G⟩ hy;simp only[ob]at hy;cases T:decide ((d4 r).1>0)<;>rw[T]at hy<;>simp only[ah,af,aw]at hy<;>subst hy<;>exact G
 unfold bX at e';rw[A,R,F,J]at e';rw[au (show¬((f%40:Nat):Int)>33 by omega)]at e';simp only[af]at e';have X:(0:Int)=((0:Nat):Int):=rfl;cases s:(Int.tmod (a0:Int) 6==3)<;>rw[s]at e'<;>simp only[ah,af]at e'
 ·cases q:(Int.tmod (a0:Int) 6==4)<;>rw[q]at e'<;>simp only[ah,af]at e'
  ·cases c:decide (((b%40:Nat):Int)>31)<;>rw[c]at e'<;>simp only[ah,af]at e'
   ·exact key _ _ (S a0 b (by omega)) e'
   ·exact key _ _ (S a0 (b%40 / 2) (by omega)) e'
  ·cases c:decide (((b%40:Nat):Int)>31)<;>rw[c]at e'<;>simp only[ah,af]at e'
   ·exact key _ _ (S 0 b (by omega)) e'
   ·exact key _ _ (S 0 (b%40 / 2) (by omega)) e'
 ·cases c:decide (((b%40:Nat):Int)>31)<;>rw[c]at e'<;>simp only[ah,af]at e'
  ·exact key _ _ (S 0 b (by omega)) e'
  ·exact key _ _ (S 0 (b%40 / 2) (by omega)) e'
def J3{a0 a2 j k o n d c m:Int}(g:Bool)(h:wfD a0 a2 j k o n d c m):∃x:TD,cN 20000000 a0 g a2 j k o n d c m=some x/\smT x/\plT x=true:=by
 obtain⟨a,rfl,s⟩:=h.2.2.2.2.1.nat;have p:Int.tmod (a:Int) 40=((a%40:Nat):Int):=rfl;have i:Int.tmod ((a%40:Nat):Int) 12=((a%40%12:Nat):Int):=rfl;unfold cN;rw[p,i];by_cases r:12<a%40
 ·rw[ar (show((a%40:Nat):Int)>12 by omega),ah];have w:w8 (((a%40%12:Nat):Int)+1)=((a%40%12+1:Nat):Int):=by
   show wrap .u8 _=_;rw[gJ _ (by omega) (by omega)];omega
  rw[w];have q:wfD a0 a2 j k ((a%40%12+1:Nat):Int) n d c m:=⟨h.1,h.2.1,h.2.2.1,h.2.2.2.1,⟨by omega,by omega⟩,h.2.2.2.2.2⟩;obtain⟨x,e,hs,hc,l,b⟩:=ExI g q;have f:seT x=0:=b (by
   show(((a%40%12+1)%40:Nat):Int)<=12;omega)
  exact⟨x,by rw[e];rfl,hs,ot.2 ⟨hc,l,by omega⟩⟩
 ·rw[au (show¬((a%40:Nat):Int)>12 by omega),af];obtain⟨x,e,hs,hc,l,b⟩:=ExI g h;have f:seT x=0:=b (by rw[p];omega);exact⟨x,by rw[e];rfl,hs,ot.2 ⟨hc,l,by omega⟩⟩
def BofI{k a0 a2 n m j c i f b:Int}(g:Bool)(P:natI k 256)(h:wfD a0 a2 n m j c i f b):
  ∃(K:Int) (x:TD),cO 20000000 k a0 g a2 n m j c i f b=some (K,x)/\smT x/\ug K x=0/\(K=1\/((K=2\/K=3)/\x=d0)):=by
 obtain⟨G,F,r,q,H,z,u,E,M⟩:=h;obtain⟨k,rfl,bk⟩:=P.nat;obtain⟨a0,rfl,b0⟩:=G.nat;obtain⟨a2,rfl,b2⟩:=F.nat;obtain⟨n,rfl,N⟩:=r.nat;obtain⟨m,rfl,s⟩:=q.nat;obtain⟨j,rfl,v⟩:=H.nat;obtain⟨c,rfl,I⟩:=z.nat;obtain⟨i,rfl,S⟩:=u.nat;obtain⟨f,rfl,U⟩:=E.nat;obtain⟨b,rfl,V⟩:=M.nat;obtain⟨K,T,l,dg,x,R,d,k0,k1,k2,e,hc,p,a,o,w⟩:=B_of 19999700 k a0 a2 n m j c i f b g b0 b2 N s v I;refine⟨K,_,e,⟨p,o,a,by simp,by simp,by simp⟩,hc,w.imp id λ⟨L,Q,A,t,y,D,C,J,O,B⟩=>⟨L,?_⟩⟩;subst Q A t y D C J O B;rfl
def NM{g l:Bool}{dg:aa}{x:Int}{m d:aa}{k0 k1 k2:Int}(h:chkD g l dg x 0 m d k0 k1 k2=0)(c:m≠[])(hp:0<=k0/\0<=k1):chkD g l dg x 0 m [] k0 k1 0=0:=by
 obtain⟨e,b,c3,c4⟩:=Hl h;unfold chkD;have f:bp m []=2:=by unfold bp;simp[c]
 have a:allM k0 k1 0 2=0:=by
  unfold allM at c4 ⊢;by_cases hx:3<k0\/3<k1\/3<k2\/(bp m d<2/\k1≠0)\/(bp m d<3/\k2≠0)
  ·rw[ae hx]at c4;cases c4
  ·rw[ad]
 rw[e,f,a];have:(!(m==[])&&(!(decide (0<sea m))&&!(eW m 12)))=false:=by
  rcases b with h | h | h
  ·rw[h];rfl
  ·rw[ar h];simp
  ·rw[h];simp
 rw[this];rfl
def Rj{g l:Bool}{dg:aa}{x:Int}{m d:aa}{k0 k1 k2:Int}(h:chkD g l dg x 0 m d k0 k1 k2=0):chkD g l dg x 0 [] [] k0 0 0=0:=by
 obtain⟨b,e,c3,c4⟩:=Hl h;have hy:yrD g l dg x 0 []=true:=by
  unfold yrD at b ⊢;by_cases a:okY g l dg x 0
  ·rw[ae a];unfold yrB;rfl
  ·rw[ab a]at b;cases b
 have c:allM k0 0 0 1=0:=by
  unfold allM at c4 ⊢;by_cases hx:3<k0\/3<k1\/3<k2\/(bp m d<2/\k1≠0)\/(bp m d<3/\k2≠0)
  ·rw[ae hx]at c4;cases c4
  ·rw[ad]
 unfold chkD;rw[hy,show bp [] []=1 from rfl,c];rfl
def BN{g l:Bool}{dg:aa}{x q:Int}{m:aa}{k0 k1 k2:Int}(h:chkD g l dg x q m [] k0 k1 k2=0):chkF g l dg x q m [] k0 k1 k2=0:=by
 unfold chkF;rw[ab (λh=>h.2.1 rfl),h]
def Ji(x:TD):1<=coT x/\coT x<=3:=hZ _ _
def cutI{x:TD}(hs:smT x)(hp:plT x=true){n:Nat}(F:1<=n)(k:n<=coT x):∃y:TD,lC 20000000 x (n:Int)=some y/\smT y/\plT y=true/\coT y=n:=by
 obtain⟨hc,w,o⟩:=ot.1 hp;obtain⟨t,E⟩:=NT hc w;have c:=pX hc;obtain⟨g,l,dg,e,q,m,d,k0,k1,k2⟩:=x;obtain⟨j,i,v,f,h,u⟩:=hs;simp only at j i v f h u c t E;subst t;have B:=Ji (g,l,dg,e,0,m,d,k0,k1,k2);have b:exD dg m d 0=true:=w;obtain⟨_,_,A⟩:=vw hc;have r:coT (g,l,dg,e,0,m,d,k0,k1,k2)=bp m d:=rfl;unfold lC;by_cases D:n<3
 ·rw[ar (show(n:Int)<3 by omega),ah];by_cases C:n<2
  ·rw[ar (show(n:Int)<2 by omega),ah];have p:n=1:=by omega
   subst p;have a:=Rj c;exact⟨_,rfl,⟨by simp,i,by simp,f,by simp,by simp⟩,ot.2 ⟨BN a,(NB b).2,by show¬0<sea [];decide⟩,rfl⟩
  ·rw[au (show¬(n:Int)<2 by omega),af];have p:n=2:=by omega
   subst p;have s:m≠[]:=by
    rintro rfl;rw[r]at k;unfold bp at k;by_cases z:d=[]
    ·simp[z]at k
    ·exact absurd rfl (A z).1
   have a:=NM c s ⟨f,h⟩;exact⟨_,rfl,⟨j,i,by simp,f,h,by simp⟩,ot.2 ⟨BN a,(NB b).1,o⟩,by show bp m []=2;unfold bp;simp[s]⟩
 ·rw[au (show¬(n:Int)<3 by omega),af,au (show¬(n:Int)<2 by omega),af];exact⟨_,rfl,⟨j,i,v,f,h,u⟩,hp,by omega⟩
def QU{p:TD}{all:Bool}(hp:plT p=true):itE p false d0 all=0:=by
 obtain⟨hc,a,_⟩:=ot.1 hp;rw[TB hc,a];have:eqD d0 d0=true:=lM.2 rfl;rw[this];simp
def Gj{x y:TD}{all:Bool}(hx:plT x=true)(hy:plT y=true)(hc:coT x=coT y)(d:(dyT x).1<=(dyT y).1):itE x true y all=0:=by
 obtain⟨b,c,_⟩:=ot.1 hx;obtain⟨a,e,_⟩:=ot.1 hy;rw[abp b a,c];have:ordB x y=true:=by unfold ordB;rw[hx,hy,ar hc,ar d];rfl
 rw[this];simp
def acL{a0 a2 B w t o q p m:Int}(g:Bool){b0 b2 C j k z l s A:Int}(f:Bool)(R:Int)(all:Bool)(c:wfD a0 a2 B w t o q p m)(E:wfD b0 b2 C j k z l s A):
  ∃x r y,jc 20000000 a0 g a2 B w t o q p m R b0 f b2 C j k z l s A all=some (x,r,y)/\smT x/\smT y/\itE x r y all=0:=by
 unfold jc;cases(Int.tmod R 2==1)
 ·rw[af];cases all
  ·obtain⟨x,e,hs,hc⟩:=DofI g c;refine⟨x,false,d0,by rw[af,e];rfl,hs,ow,?_⟩;have:eqD d0 d0=true:=lM.2 rfl;rw[TB hc,this];simp
  ·obtain⟨x,e,hs,hc,M,_⟩:=ExI g c;refine⟨x,false,d0,by rw[ah,e];rfl,hs,ow,?_⟩;have:eqD d0 d0=true:=lM.2 rfl;rw[TB hc,this,M];simp
 ·rw[ah];obtain⟨x,ex,sx,Q⟩:=J3 g c;obtain⟨y,G,J,N⟩:=J3 f E;rw[ex,G];simp only[ob,rcoT];have F:(cond (decide (((coT y:Nat):Int)<((coT x:Nat):Int))) ((coT y:Nat):Int) ((coT x:Nat):Int))=((min (coT x) (coT y):Nat):Int):=by
   by_cases h:coT y<coT x
   ·rw[rM,ah];omega
   ·rw[au (by omega),af];omega
  rw[F];have T:=Ji x;have S:=Ji y;obtain⟨u,H,b,d,U⟩:=cutI sx Q (n:=min (coT x) (coT y)) (by omega) (by omega);obtain⟨v,O,i,a,V⟩:=cutI J N (n:=min (coT x) (coT y)) (by omega) (by omega);obtain⟨L,I,_⟩:=ot.1 d;obtain⟨K,P,_⟩:=ot.1 a;rw[H,O];simp only[rdT b L I,rdT i K P,u2];by_cases D:(dyT u).1>(dyT v).1
  ·rw[ar D];exact⟨v,true,u,rfl,i,b,Gj a d (by omega) (by omega)⟩
  ·rw[au D];exact⟨u,true,v,rfl,b,i,Gj d a (by omega) (by omega)⟩
def wfR(r:TR):Prop:=wfD r.1 r.2.2.1 r.2.2.2.1 (d4 r).1 (d4 r).2.1 (d4 r).2.2.1 (d4 r).2.2.2.1 (d8 r).1 (d8 r).2.1/\
 wfD (d8 r).2.2.2.1 (d4 (d8 r)).2.1 (d4 (d8 r)).2.2.1 (d4 (d8 r)).2.2.2.1 (d16 r).1 (d16 r).2.1 (d16 r).2.2.1 (d16 r).2.2.2.1 (d4 (d16 r))
def CH{A:Type}{f:Nat->A->Int}:∀{L:List A} {k:Nat},(∀i t,L[i]?=some t->f (k+i) t=0)->uW f k L=none
 | [],_,_=>rfl
 | t::r,k,h=>by
  have a:=h 0 t rfl;rw[dj]at a;rw[uW,ab (λh=>h a)];exact CH λi u b=>by rw[iy,qP 1 i];exact h (i+1) u b
structure RightE(k:Int)(D:TD)(KF:Int)(DF:TD)(KT:Int)(DT:TD)(e l:Bool)(I:List TI):Prop where
 sm:smE D DF DT I
 first:fA k D KF DF KT DT e l I=(0,0)
 len:I.length<=5
 kind:1<=k/\k<=4
 its:∀t∈I,itI t (k==4)=0
def RB{k:Int}(q:k=3\/k=4){e l:Bool}{I:List TI}(s:1<=I.length)(o:I.length<=5)(hs:∀t∈I,smI t/\itI t (k==4)=0)(j:e=true->∃t,I[0]?=some t/\endB t=true)
  (m:l=true->∃t,I[I.length - 1]?=some t/\endB t=true) (g:e=true->l=true->I.length≠1):RightE k d0 0 d0 0 d0 e l I:=by
 refine⟨⟨ow,ow,ow,λt d=>(hs t d).1⟩,?_,o,by omega,λt d=>(hs t d).2⟩;have p:unuB k d0 0 d0 0 d0 e l I.length=false:=by
  have n:eqD d0 d0=true:=lM.2 rfl;unfold unuB;rw[n];rcases q with rfl | rfl<;>rfl
 unfold fA;rw[ad,ab (by rw[p];simp),ad,ad,ad,ad];unfold AS;rw[CH λi t d=>?_];rw[dw];have r:i<I.length:=(qk.1 d).1;unfold errI;rw[(hs t (fR d)).2,ab (λh=>h rfl),ab];intro h;simp only[jk,aD,cK,ko]at h;rcases h with⟨⟨a,b⟩,c⟩ | ⟨⟨a,b⟩,c⟩ | ⟨a,b,c⟩
 ·obtain⟨u,f,u2⟩:=j a;subst b;rw[d]at f;cases f;rw[u2]at c;cases c
 ·obtain⟨u,f,u2⟩:=m a;rw[show I.length - 1=i by omega,d]at f;cases f;rw[u2]at c;cases c
 ·exact g a b c
def C7{p:TD}{all:Bool}(hs:smT p)(hp:plT p=true):smI (mkI p false d0)/\itI (mkI p false d0) all=0/\endB (mkI p false d0)=true:=
 ⟨⟨hs,ow⟩,QU hp,by unfold endB;show(!false&&plT p)=true;rw[hp];rfl⟩
def VH(n x0:Nat)(l:Int)(k:Bool)(u:Int)(q:TD)(m:Int)(v:TD)(o:Int)(t:TD)(s b:Bool){L:List TR}(f:Int)(d:TD)(g:Int)(c:TD)(x16:Int)(h:TD)(e a:Bool)(j I:List TI)
  {r:TR} {p:TD} (y:0<x0) (x:L[0]?=some r) (w:0<I.length) (hp:cN n r.1 r.2.1 r.2.2.1 r.2.2.2.1 (d4 r).1 (d4 r).2.1 (d4 r).2.2.1 (d4 r).2.2.2.1 (d8 r).1 (d8 r).2.1=some p):
  jA n x0 l k u q m v o t s b L f d g c x16 h e a j I=some (x0,l,u,q,m,v,o,t,s,b,L,f,d,g,c,x16,h,e,a,j,if k=true then I.set 0 (mkI p false d0)else I)/\
  iO n x0 l k L u q m v o t s b f d g c x16 h e a j I=some (x0,l,L,u,q,m,v,o,t,s,b,f,d,g,c,x16,h,e,a,j,if k=true then I.set 0 (mkI p false d0)else I):=by
 unfold jA iO;cases k
 ·exact⟨rfl,rfl⟩
 ·have A:ix x0 (0:Int)=some 0:=dh (i:=0) y;have z:ix I.length (0:Int)=some 0:=dh (i:=0) w;simp only[ah,A,z,x,hp,ob,ba w,aS];constructor<;>trivial
def Vi(n x0 m:Nat)(j:Bool)(t:Int)(o:TD)(k:Int)(u:TD)(l:Int)(s:TD)(q b:Bool){L:List TR}(f:Int)(d:TD)(g:Int)(c:TD)(x16:Int)(h:TD)(e a:Bool)(i I:List TI)
  {r:TR} {p:TD} (x:m<x0) (w:L[m]?=some r) (v:m<I.length) (hp:cN n r.1 r.2.1 r.2.2.1 r.2.2.2.1 (d4 r).1 (d4 r).2.1 (d4 r).2.2.1 (d4 r).2.2.2.1 (d8 r).1 (d8 r).2.1=some p):
  jB n x0 (m:Int) j t o k u l s q b L f d g c x16 h e a i I=some ((m:Int),t,o,k,u,l,s,q,b,f,d,g,c,x16,h,e,a,i,if j=true then I.set m (mkI p false d0)else I)/\
  iU n x0 (m:Int) j L t o k u l s q b f d g c x16 h e a i I=some ((m:Int),t,o,k,u,l,s,q,b,f,d,g,c,x16,h,e,a,i,if j=true then I.set m (mkI p false d0)else I):=by
 unfold jB iU;cases j
 ·exact⟨rfl,rfl⟩
 ·simp only[ah,dh x,dh v,w,hp,ob,ba v,aS];constructor<;>trivial
def Kq{L:List TR}(z:∀r∈L,wfR r){n:Nat}(J:n<=L.length)(K:n<=5)(k:Int)(e l:Bool)(a:List TI):
  ∃I:List TI,I.length=n/\(∀t∈I,smI t/\itI t (k==4)=0)/\
   av (dH 20000000) 20000000 (n,0,L,k,e,l,a,([]:List TI))=some (n,0,d0,0,d0,0,d0,false,false,L,k,d0,0,d0,0,d0,e,l,a,I)/\
   av (dl 20000000) 20000000 (n,0,L,k,e,l,a,([]:List TI))=some (n,L,0,d0,0,d0,0,d0,false,false,k,d0,0,d0,0,d0,e,l,a,I):=by
 have o:∀i (r:TR) (acc:List TI),i<n->L[i]?=some r->acc.length=i->∃b:TI,(smI b/\itI b (k==4)=0)/\
   dH 20000000 (n,(i:Int),L,k,e,l,a,acc)=some (.inl (n,((i+1:Nat):Int),L,k,e,l,a,acc++[b]))/\
   dl 20000000 (n,(i:Int),L,k,e,l,a,acc)=some (.inl (n,((i+1:Nat):Int),L,k,e,l,a,acc++[b])):=by
  intro i r acc hi p g;obtain⟨D,F⟩:=z r (fR p);obtain⟨x,f,y,q,sx,w,H⟩:=acL r.2.1 (d4 (d8 r)).1 (d8 r).2.2.1 (k==4) D F;refine⟨mkI x f y,⟨⟨sx,w⟩,H⟩,?_,?_⟩
  ·unfold dH;simp only[u8,u7,u6,u5,u4,u3,u2];rw[ar (show(i:Int)<(n:Int)by omega),dh hi];simp only[ah,ob,p,q];rw[lU (by omega),show Nat.ble (acc.length+1) cS=true from dc (by unfold cS;omega)];rfl
  ·unfold dl;simp only[u8,u7,u6,u5,u4,u3,u2];rw[ar (show(i:Int)<(n:Int)by omega),dh hi];simp only[ah,ob,p,q];rw[lU (by omega),show Nat.ble (acc.length+1) cS=true from dc (by unfold cS;omega)];rfl
 have c:∀acc:List TI,dH 20000000 (n,(n:Int),L,k,e,l,a,acc)=some (.inr (n,0,d0,0,d0,0,d0,false,false,L,k,d0,0,d0,0,d0,e,l,a,acc)):=λacc=>by
  unfold dH;simp only[u8,u7,u6,u5,u4,u3,u2];rw[au (show¬(n:Int)<(n:Int)by omega)];rfl
 have d:∀acc:List TI,dl 20000000 (n,(n:Int),L,k,e,l,a,acc)=some (.inr (n,L,0,d0,0,d0,0,d0,false,false,k,d0,0,d0,0,d0,e,l,a,acc)):=λacc=>by
  unfold dl;simp only[u8,u7,u6,u5,u4,u3,u2];rw[au (show¬(n:Int)<(n:Int)by omega)];rfl
 have j:∀(r i:Nat) (acc:List TI),i+r=n->acc.length=i->(∀t∈acc,smI t/\itI t (k==4)=0)->∀N,r<N->∃I:List TI,I.length=n/\(∀t∈I,smI t/\itI t (k==4)=0)/\
   av (dH 20000000) N (n,(i:Int),L,k,e,l,a,acc)=some (n,0,d0,0,d0,0,d0,false,false,L,k,d0,0,d0,0,d0,e,l,a,I)/\
   av (dl 20000000) N (n,(i:Int),L,k,e,l,a,acc)=some (n,L,0,d0,0,d0,0,d0,false,false,k,d0,0,d0,0,d0,e,l,a,I):=by
  intro r
  induction r with
  | zero=>
   intro i acc hi g m N C;obtain⟨N,rfl⟩:∃k,N=k+1:=⟨N - 1,by omega⟩;obtain rfl:i=n:=by omega
   exact⟨acc,g,m,by rw[av,c],by rw[av,d]⟩
  | succ r ih=>
   intro i acc hi g m N C;obtain⟨N,rfl⟩:∃k,N=k+1:=⟨N - 1,by omega⟩;obtain⟨b,s,u,E⟩:=o i _ acc (by omega) (ba (show i<L.length by omega)) g
   obtain⟨I,o1,A,v,G⟩:=ih (i+1) (acc++[b]) (by omega) (by simp[g]) (λx hx=>by
    rcases md.1 hx with h | h
    ·exact m x h
    ·rw[nh.1 h];exact s) N (by omega)
   exact⟨I,o1,A,by rw[av,u];exact v,by rw[av,E];exact G⟩
 exact j n 0 [] (by omega) rfl (λt B=>by cases B) 20000000 (by omega)
def aaE(n x0:Nat)(a:Int)(b:Bool)(P:List TR)(f c d e:Int)(L:List TR)(g:List TI):
  kg n x0 a b P f c d e L g=some (x0,a,b||(a==1||a==2),P,f,c,d,e,L,g)/\
  ju n x0 a b P f c d e g=some (x0,a,b||(a==1||a==2),P,f,c,d,e,g):=by
 unfold kg ju lR kZ;cases b<;>cases(a==1)<;>exact⟨rfl,rfl⟩
def UT(n x0:Nat)(c:Int)(a:Bool)(P:List TR)(f b d e:Int)(L:List TR)(g:List TI):
  jq n x0 c a P f b d e L g=some (x0,a||c==4,P,f,b,d,e,L,g)/\
  iL n x0 c a P f b d e g=some (x0,a||c==4,P,f,b,d,e,g):=by
 unfold jq iL;cases a<;>exact⟨rfl,rfl⟩
def VX(n x0:Nat)(b:Bool)(L:List TR)(e l:Bool)(a c:List TI):
  jL n x0 b L e l a c=some (x0,L,if b then 4 else 3,e,l,a,c)/\iR n x0 b L e l a c=some (x0,L,if b then 4 else 3,e,l,a,c):=by
 unfold jL iR;cases b<;>exact⟨rfl,rfl⟩
def VM(n:Nat)(x0 k:Int)(l:TD)(j:Int)(p:TD)(i:Int)(o:TD)(m r:Bool)(q:Int)(g:TD)(e:Int)(d:TD)(b:Int)(f:TD)(a x16:Bool)(h c:List TI):
  gG n x0 k l j p i o m r q g e d b f a x16 h c=some ((x0==0)&&a,k,l,j,p,i,o,m,r,q,g,e,d,b,f,a,x16,h,c):=by
 unfold gG;cases(x0==0)<;>rfl
def Vd(n:Nat)(x0:Bool)(k:Int)(l:TD)(j:Int)(p:TD)(i:Int)(o:TD)(m r:Bool)(q:Int)(g:TD)(e:Int)(d:TD)(b:Int)(f:TD)(a x16:Bool)(h c:List TI):
  gN n x0 k l j p i o m r q g e d b f a x16 h c=some (k,l,j,p,i,o,m,r,q,g,e,d,b,f,a,!x0&&x16,h,c):=by
 unfold gN;cases x0<;>rfl
def tX{x:TD}(hs:smT x)(hc:cF x=0):RightE 1 x 0 d0 0 d0 false false []:=by
 refine⟨⟨hs,ow,ow,λt c=>by cases c⟩,?_,by simp,by omega,by simp⟩;have a:eqD d0 d0=true:=lM.2 rfl;have b:unuB 1 x 0 d0 0 d0 false false ([]:List TI).length=false:=by unfold unuB;rw[a];rfl
 unfold fA;rw[ad,ab (by rw[b];simp),ae rfl,hc]
def qQ{KF KT:Int}{x y:TD}(hx:smT x)(hy:smT y)(h:pa KF x KT y=0):RightE 2 d0 KF x KT y false false []:=by
 refine⟨⟨ow,hx,hy,λt c=>by cases c⟩,?_,by simp,by omega,by simp⟩;have a:eqD d0 d0=true:=lM.2 rfl;have b:unuB 2 d0 KF x KT y false false ([]:List TI).length=false:=by unfold unuB;rw[a];rfl
 unfold fA;rw[ad,ab (by rw[b];simp),ad,ae rfl,h]
def HT(x:TD):ug 1 x=if cF x=0 then if exT x=true then 0 else 11 else cF x:=by
 unfold ug chkB;rw[ae rfl];rfl
def vU{x:TD}(h:ug 1 x=0):cF x=0/\exT x=true:=by
 rw[HT]at h;by_cases hc:cF x=0
 ·rw[ae hc]at h;by_cases a:exT x=true
  ·exact⟨hc,a⟩
  ·rw[ab a]at h;cases h
 ·rw[ab hc]at h;exact absurd h hc
def Ks{x:TD}(hc:cF x=0)(a:exT x=true):ug 1 x=0:=by
 rw[HT,ae hc,ae a]
def En{KF KT:Int}{x y:TD}(a:ug KF x=0)(b:ug KT y=0):pa KF x KT y=if KF≠1/\KT≠1 then 11 else if KF≠1\/KT≠1 then 0 else if(dyT x).1>(dyT y).2 then 11 else 0:=by
 unfold pa Ic;rw[a,b,ab (λh=>h rfl),ab (λh=>h rfl)]
def UZ{n x0:Nat}{L:List TR}{r:TR}(A:0<x0)(u:L[0]?=some r)(q:n=20000000)(B:wfR r){KF KT:Int}{x y:TD}(sx:smT x)(l:smT y)(c:ug KF x=0)(g:ug KT y=0)(X:List TI):
  ∃b f a d,jF n x0 (pa KF x KT y != 0) L KF x KT y X=some (b,f,a,d,X)/\iN n x0 (pa KF x KT y != 0) L KF x KT y X=some (b,f,a,d,X)/\
   smT f/\smT d/\pa b f a d=0:=by
 subst q;unfold jF iN;by_cases hp:pa KF x KT y=0
 ·rw[show(pa KF x KT y != 0)=false from by simp[hp]];exact⟨KF,x,KT,y,rfl,rfl,sx,l,hp⟩
 ·rw[show(pa KF x KT y != 0)=true from by simp[hp],ah,ah];unfold lS kX;by_cases k:KF=1
  ·subst k;have j:KT=1:=by
    rw[En c g]at hp;by_cases h:KT=1
    ·exact h
    ·rw[ab (by simp),ae (.inr h)]at hp;exact absurd rfl hp
   subst j;obtain⟨v,D⟩:=vU c;obtain⟨t,w⟩:=vU g;have F:=Vs v D;have E:=Vs t w;have m:(dyT x).1>(dyT y).2:=by
    rw[En c g,ab (by simp),ab (by simp)]at hp;by_cases h:(dyT x).1>(dyT y).2
    ·exact h
    ·rw[ab h]at hp;exact absurd rfl hp
   refine⟨1,y,1,x,rfl,rfl,l,sx,?_⟩;rw[En g c,ab (by simp),ab (by simp),ad]
  ·obtain⟨z,e,o,s,p,_⟩:=ExI (d4 (d8 r)).1 B.2;have e':bX 20000000 (d8 r).2.2.2.1 (d4 (d8 r)).1 (d4 (d8 r)).2.1 (d4 (d8 r)).2.2.1 (d4 (d8 r)).2.2.2.1 (d16 r).1 (d16 r).2.1 (d16 r).2.2.1 (d16 r).2.2.2.1 (d4 (d16 r))=some z:=e;have C:ix x0 (0:Int)=some 0:=dh (i:=0) A;rw[show(KF != 1)=true from by simp[k],ah,C];simp only[ob,u,e',u5,u4,u3,u2];refine⟨KF,x,1,z,rfl,rfl,sx,o,?_⟩;rw[En c (Ks s p),ab (by simp),ae (.inl k)]
def NE{L:List TR}(H:∀r∈L,wfR r){n:Nat}(K:1<=n)(G:n<=L.length)(J:n<=5){k:Int}(F:k=3\/k=4)(e l:Bool){I:List TI}(z:I.length=n)(hit:∀t∈I,smI t/\itI t (k==4)=0)
  {p q:TD} (C:smT p) (x:plT p=true) (D:smT q) (w:plT q=true):
  RightE k d0 0 d0 0 d0 e (!(decide (n=1)&&e)&&l) (if l=true then(if e=true then I.set 0 (mkI p false d0)else I).set (n - 1) (mkI q false d0)else if e=true then I.set 0 (mkI p false d0)else I):=by
 obtain⟨v,s,m⟩:=C7 (all:=(k==4)) C x;obtain⟨E,B,o⟩:=C7 (all:=(k==4)) D w;have j:∀t∈(if e=true then I.set 0 (mkI p false d0)else I),smI t/\itI t (k==4)=0:=by
  intro t b;split at b
  ·rcases Oq b with h | h
   ·exact hit t h
   ·rw[h];exact⟨v,s⟩
  ·exact hit t b
 have c:(if e=true then I.set 0 (mkI p false d0)else I).length=n:=by split<;>simp[z]
 have d:e=true->(if e=true then I.set 0 (mkI p false d0)else I)[0]?=some (mkI p false d0):=by
  intro h;rw[ae h,Ij (by omega)]
 generalize y:(if e=true then I.set 0 (mkI p false d0)else I)=A at j c d;have i:(if l=true then A.set (n - 1) (mkI q false d0)else A).length=n:=by split<;>simp[c]
 have u:∀t∈(if l=true then A.set (n - 1) (mkI q false d0)else A),smI t/\itI t (k==4)=0:=by
  intro t b;split at b
  ·rcases Oq b with h | h
   ·exact j t h
   ·rw[h];exact⟨E,B⟩
  ·exact j t b
 refine RB F (by omega) (by omega) u (λf=>?_) (λa=>?_) (λf a=>?_)
 ·by_cases a:l=true
  ·rw[ae a];by_cases g:n=1
   ·subst g;exact⟨mkI q false d0,by rw[Ij (by omega)],o⟩
   ·exact⟨mkI p false d0,by rw[List.getElem?_set_ne (by omega)];exact d f,m⟩
  ·rw[ab a];exact⟨_,d f,m⟩
 ·simp only[aD]at a;rw[ae a.2,IH,c];exact⟨mkI q false d0,by rw[Ij (by omega)],o⟩
 ·rw[f]at a;simp only[BX,aD,ko,vX]at a;rw[i];exact a.1
def X3:wfR ((0,false,0,0,0,0,0,0,0,0,0,0,false,0,0,0,0,0,0,0,0):TR):=by
 have z:natI 0 256:=⟨by omega,by omega⟩;have z2:natI 0 65536:=⟨by omega,by omega⟩;exact⟨⟨z,z2,z,z,z,z,z,z,z⟩,⟨z,z2,z,z,z,z,z,z,z⟩⟩
def min5(m:Nat):cond (decide ((5:Int)<(m:Int))) 5 (m:Int)=((min 5 m:Nat):Int):=by
 by_cases h:5<m
 ·rw[rM,ah];omega
 ·rw[au (by omega),af];omega
def aaC(k:Nat):((((k%8:Nat):Int)==0)||((((k%8:Nat):Int)==1)||(((k%8:Nat):Int)==2)))=decide (k%8<3)/\((((k%8:Nat):Int)==3)||(((k%8:Nat):Int)==4))=decide (k%8=3\/k%8=4):=by
 have h:k%8<8:=ua _ (by omega);generalize k%8=j at *;rcases(by omega:j=0\/j=1\/j=2\/j=3\/j=4\/j=5\/j=6\/j=7)with rfl | rfl | rfl | rfl | rfl | rfl | rfl | rfl<;>decide
def E_of{K H J B:Int}(hK:natI K 256)(h0:natI H 256)(h1:natI J 256)(hB:natI B 256){L:List TR}(hL:∀r∈L,wfR r):
  ∃k D KF DF KT DT e l I,mc 20000000 K H J B L=some (k,D,KF,DF,KT,DT,e,l,I)/\RightE k D KF DF KT DT e l I:=by
 obtain⟨K,rfl,bK⟩:=hK.nat;have G:Int.tmod (K:Int) 8=((K%8:Nat):Int):=rfl;obtain⟨k1,k2⟩:=aaC K;unfold mc mI;rw[show(len L==0)=decide (L.length=0)from Pe _];generalize t:(if L=[]then[(0,false,0,0,0,0,0,0,0,0,0,0,false,0,0,0,0,0,0,0,0)]else L:List TR)=M;have d:∀r∈M,wfR r:=by
  intro r c;rw[<-t]at c;split at c
  ·rw[nh.1 c];exact X3
  ·exact hL r c
 have hMl:1<=M.length:=by
  rw[<-t];split
  ·simp
  ·rename_i h;exact List.length_pos_iff.2 h
 have A:min 5 M.length<=M.length:=Iu _ _;have E:1<=min 5 M.length:=by omega
 have m:min 5 M.length<=5:=Nat.min_le_left _ _;obtain⟨r,c⟩:∃r,M[0]?=some r:=⟨M[0],ba (by omega)⟩;obtain⟨Y,o⟩:∃r,M[min 5 M.length - 1]?=some r:=⟨M[min 5 M.length - 1],ba (by omega)⟩;have s:=d r (fR c);have hw':=d Y (fR o);obtain⟨x,ex,sx,cx⟩:=DofI r.2.1 s.1;obtain⟨KF,X,F,g,z,_⟩:=BofI r.2.1 h0 s.1;obtain⟨KT,bt,y,f,v,_⟩:=BofI (d4 (d8 r)).1 h1 s.2;obtain⟨p,ep,Z,W⟩:=J3 r.2.1 s.1;obtain⟨q,eq,sq,V⟩:=J3 Y.2.1 hw'.1;have N:ix (min 5 M.length) (0:Int)=some 0:=dh (i:=0) (by omega);have C:bx M.length (cond (decide ((5:Int)<len M)) 5 (len M))=some (min 5 M.length):=by
  rw[show(cond (decide ((5:Int)<len M)) 5 (len M))=((min 5 M.length:Nat):Int)from min5 _,de A]
 have a:w64 (((min 5 M.length:Nat):Int) - 1)=((min 5 M.length - 1:Nat):Int):=Il (by omega) (by omega);have u:(((min 5 M.length - 1:Nat):Int)==0)=decide (min 5 M.length=1):=by
  rw[Pe];congr 1;exact propext (by omega)
 by_cases b:L=[]
 ·rw[ae b]at t;subst b;rw[show decide (([]:List TR).length=0)=true from rfl,ah];simp only[obs,sm,ob,u7,u6,u5,u4,u3,u2,t,C,G,(aaE _ _ _ _ _ _ _ _ _ _ _).1,u10,u9,u8,k1];by_cases hs:K%8<3
  ·rw[ar hs];simp only[ah,N,c,ex];exact⟨_,_,_,_,_,_,_,_,_,rfl,tX sx cx⟩
  rw[au hs];simp only[af,(UT _ _ _ _ _ _ _ _ _ _ _).1,u9,u8,u7,u6,u5,u4,u3,u2,k2];by_cases w:K%8=3\/K%8=4
  ·rw[ar w];have ebf':cO 20000000 H r.1 r.2.1 r.2.2.1 r.2.2.2.1 (d4 r).1 (d4 r).2.1 (d4 r).2.2.1 (d4 r).2.2.2.1 (d8 r).1 (d8 r).2.1=some (KF,X):=F;have ebt':cO 20000000 J (d8 r).2.2.2.1 (d4 (d8 r)).1 (d4 (d8 r)).2.1 (d4 (d8 r)).2.2.1 (d4 (d8 r)).2.2.2.1 (d16 r).1 (d16 r).2.1 (d16 r).2.2.1 (d16 r).2.2.2.1 (d4 (d16 r))=some (KT,bt):=y;obtain⟨T,x',Q,y',j1,_,O,S,hp⟩:=UZ (n:=20000000) (x0:=min 5 M.length) (by omega) c rfl s g f z v ([]:List TI);simp only[ah,N,c,ebf',ebt',QS g f,j1,u5,u4,u3,u2];exact⟨_,_,_,_,_,_,_,_,_,rfl,qQ O S hp⟩
  rw[au w];generalize(Int.tmod B 2==1)=e;generalize(Int.tmod (w8 (Int.tdiv B 2)) 2==1)=l;rw[G];generalize(((K%8:Nat):Int)==7)=j;obtain⟨I,o1,R,P,_⟩:=Kq d A m (if j=true then 4 else 3) e l [];have U:(if j=true then(4:Int)else 3)=3\/(if j=true then(4:Int)else 3)=4:=by cases j<;>simp
  simp only[af,(VX _ _ _ _ _ _ _ _).1,P,a,u7,u6,u5,u4,u3,u2];simp only[u20,u19,u18,u17,u16,u15,u14,u13,u12,u11,u10,u9,u8,u7,u6,u5,u4,u3,u2];rw[(VH 20000000 _ _ _ _ _ _ _ _ _ _ _ _ _ _ _ _ _ _ _ _ _ (by omega) c (by omega) ep).1];simp only[u21,u20,u19,u18,u17,u16,u15,u14,u13,u12,u11,u10,u9,u8,u7,u6,u5,u4,u3,u2];rw[a,(Vi 20000000 (min 5 M.length) (min 5 M.length - 1) _ _ _ _ _ _ _ _ _ _ _ _ _ _ _ _ _ _ _ (by omega) o (by split<;>simp[o1]<;>omega) eq).1];simp only[u21,u20,u19,u18,u17,u16,u15,u14,u13,u12,u11,u10,u9,u8,u7,u6,u5,u4,u3,u2,VM,Vd,u];exact⟨_,_,_,_,_,_,_,_,_,rfl,NE d E A m U e l o1 R Z W sq V⟩
 ·rw[ab b]at t;subst t;rw[au (show¬L.length=0 fromλh=>b (vi h)),af];simp only[obs,sm,ob,u7,u6,u5,u4,u3,u2,C,G,(aaE _ _ _ _ _ _ _ _ _ [] _).2,u10,u9,u8,k1];by_cases hs:K%8<3
  ·rw[ar hs];simp only[ah,N,c,ex];exact⟨_,_,_,_,_,_,_,_,_,rfl,tX sx cx⟩
  rw[au hs];simp only[af,(UT _ _ _ _ _ _ _ _ _ [] _).2,u9,u8,u7,u6,u5,u4,u3,u2,k2];by_cases w:K%8=3\/K%8=4
  ·rw[ar w];have ebf':cO 20000000 H r.1 r.2.1 r.2.2.1 r.2.2.2.1 (d4 r).1 (d4 r).2.1 (d4 r).2.2.1 (d4 r).2.2.2.1 (d8 r).1 (d8 r).2.1=some (KF,X):=F;have ebt':cO 20000000 J (d8 r).2.2.2.1 (d4 (d8 r)).1 (d4 (d8 r)).2.1 (d4 (d8 r)).2.2.1 (d4 (d8 r)).2.2.2.1 (d16 r).1 (d16 r).2.1 (d16 r).2.2.1 (d16 r).2.2.2.1 (d4 (d16 r))=some (KT,bt):=y;obtain⟨T,x',Q,y',_,j1,O,S,hp⟩:=UZ (n:=20000000) (x0:=min 5 L.length) (by omega) c rfl s g f z v ([]:List TI);simp only[ah,N,c,ebf',ebt',QS g f,j1,u5,u4,u3,u2];exact⟨_,_,_,_,_,_,_,_,_,rfl,qQ O S hp⟩
  rw[au w];generalize(Int.tmod B 2==1)=e;generalize(Int.tmod (w8 (Int.tdiv B 2)) 2==1)=l;rw[G];generalize(((K%8:Nat):Int)==7)=j;obtain⟨I,o1,R,_,P⟩:=Kq d A m (if j=true then 4 else 3) e l [];have U:(if j=true then(4:Int)else 3)=3\/(if j=true then(4:Int)else 3)=4:=by cases j<;>simp
  simp only[af,(VX _ _ _ _ _ _ _ _).2,P,a,u7,u6,u5,u4,u3,u2];simp only[u20,u19,u18,u17,u16,u15,u14,u13,u12,u11,u10,u9,u8,u7,u6,u5,u4,u3,u2];rw[(VH 20000000 _ _ _ _ _ _ _ _ _ _ _ _ _ _ _ _ _ _ _ _ _ (by omega) c (by omega) ep).2];simp only[u21,u20,u19,u18,u17,u16,u15,u14,u13,u12,u11,u10,u9,u8,u7,u6,u5,u4,u3,u2];rw[a,(Vi 20000000 (min 5 L.length) (min 5 L.length - 1) _ _ _ _ _ _ _ _ _ _ _ _ _ _ _ _ _ _ _ (by omega) o (by split<;>simp[o1]<;>omega) eq).2];simp only[u21,u20,u19,u18,u17,u16,u15,u14,u13,u12,u11,u10,u9,u8,u7,u6,u5,u4,u3,u2,VM,Vd,u];exact⟨_,_,_,_,_,_,_,_,_,rfl,NE d E A m U e l o1 R Z W sq V⟩
noncomputable instance decTI:DecidableEq TI:=λa b=>Classical.propDecidable (a=b)
def Qf{A X Y:Type}{step:X->Option (X⊕Y)}{st:Nat->X}{L:List A}{no:Y}(b:∀i t,L[i]?=some t->step (st i)=some (.inl (st (i+1))))(c:step (st L.length)=some (.inr no)){N:Nat}(a:L.length<N):
  av step N (st 0)=some no:=by
 have:=BZ (step:=step) (st:=st) (L:=L) (f:=λ_ _=>0) (yes:=λ_ _=>no) (no:=no) (λi t d=>by rw[b i t d];rfl) c L.length 0 (by omega) N a;rw[this];cases uW (λ_ _=>0) 0 (List.drop 0 L)<;>rfl
def CU{A B X Y:Type}{step:X->Option (X⊕Y)}{st:Nat->List B->X}{fin:List B->Y}{L:List A}{f:A->List B}{c:Nat}(d:∀t,(f t).length<=2)
  (g:∀i t acc,L[i]?=some t->acc.length<=c+2*i->step (st i acc)=some (.inl (st (i+1) (acc++f t)))) (h:∀acc,step (st L.length acc)=some (.inr (fin acc))):
  ∀(r i:Nat) (acc:List B),i+r=L.length->acc.length<=c+2*i->∀N,r<N->av step N (st i acc)=some (fin (acc++(L.drop i).flatMap f)):=by
 intro r
 induction r with
 | zero=>
  intro i acc hi b N e;obtain⟨N,rfl⟩:∃k,N=k+1:=⟨N - 1,by omega⟩;rw[av,show i=L.length by omega,h,tg];simp
 | succ r ih=>
  intro i acc hi b N e;obtain⟨N,rfl⟩:∃k,N=k+1:=⟨N - 1,by omega⟩;have a:i<L.length:=by omega
  rw[av,g i _ acc (ba a) b,qj a,pV,<-gx];refine ih (i+1) _ (by omega) ?_ N (by omega);have:=d L[i];rw[aV];omega
def datI(t:TI):List TD:=if rT t=true then[iF t,iT t]else[iF t]
def D1(t:TI):(datI t).length<=2:=by unfold datI;split<;>simp
def datE(k:Int)(D:TD)(KF:Int)(DF:TD)(KT:Int)(DT:TD)(I:List TI):List TD:=
 if k=1 then[D]else if k=2 then(if KF=1 then(if KT=1 then[DF,DT]else[DF])else if KT=1 then[DT]else[])else if k=3\/k=4 then I.flatMap datI else[]
def TS{B:Type}{acc:List B}(h:acc.length<=3000000):Nat.ble (acc.length+1) cS=true:=dc (by unfold cS;omega)
def EM{I:List TI}(d:I.length<=1000000):av (ij 20000000) 20000000 (len I,0,I,([]:List TD))=some (I.flatMap datI):=by
 have:=CU (step:=ij 20000000) (st:=λi acc=>(len I,(i:Int),I,acc)) (fin:=λacc=>acc) (L:=I) (f:=datI) (c:=0) D1 ?_ ?_ I.length 0 [] (by omega) (by simp) 20000000 (by omega)
 ·rw[cM,eo]at this;exact this
 ·intro i t acc a b;have hi:i<I.length:=(qk.1 a).1;unfold ij;simp only[u4,u3,u2];rw[ar (show(i:Int)<len I by show(i:Int)<(I.length:Int);omega),dh hi];simp only[ah,ob,a,TS (acc:=acc) (by omega),TS (acc:=acc++[iF t]) (by simp;omega)];rw[lU (by omega)];unfold datI;show cond (rT t) _ _=_;cases rT t
  ·rfl
  ·show(some (Sum.inl (len I,((i+1:Nat):Int),I,(acc++[iF t])++[iT t])):Option ((Int×Int×List TI×List TD)⊕List TD))=_;rw[gx];rfl
 ·intro acc;unfold ij;simp only[u4,u3,u2];rw[au (show¬(I.length:Int)<len I by show¬(I.length:Int)<(I.length:Int);omega)];rfl
def abN(L:List TD):aK 20000000 L=some (L.length,L.length):=by
 unfold aK;rw[de (bi _)];show ob (bx L.length (L.length:Int)) _=_;rw[de (bi _)];rfl
def Ta{I:List TI}(c:I.length<=1000000)(k:Int)(D:TD)(KF:Int)(DF:TD)(KT:Int)(DT:TD)(e l:Bool):
  jI 20000000 k D KF DF KT DT e l I=some ((datE k D KF DF KT DT I).length,(datE k D KF DF KT DT I).length,datE k D KF DF KT DT I):=by
 unfold jI datE;rw[EM c];simp only[abN,ob,u2];by_cases k1:k=1
 ·rw[ae k1,show(k==1)=true from by simp[k1]];rfl
 by_cases k2:k=2
 ·rw[ab k1,ae k2,show(k==1)=false from by simp[k1],show(k==2)=true from by simp[k2]];by_cases b:KF=1
  ·rw[ae b,show(KF==1)=true from by simp[b]];by_cases a:KT=1
   ·rw[ae a,show(KT==1)=true from by simp[a]];rfl
   ·rw[ab a,show(KT==1)=false from by simp[a]];rfl
  ·rw[ab b,show(KF==1)=false from by simp[b]];by_cases a:KT=1
   ·rw[ae a,show(KT==1)=true from by simp[a]];rfl
   ·rw[ab a,show(KT==1)=false from by simp[a]];rfl
 rw[ab k1,ab k2,show(k==1)=false from by simp[k1],show(k==2)=false from by simp[k2]];by_cases k3:k=3
 ·rw[ae (.inl k3),show(k==3)=true from by simp[k3]];rfl
 by_cases k4:k=4
 ·rw[ae (.inr k4),show(k==3)=false from by simp[k3],show(k==4)=true from by simp[k4]];rfl
 rw[ad,show(k==3)=false from by simp[k3],show(k==4)=false from by simp[k4]];rfl
def BI{I:List TI}(g:I.length<=1000000){k:Int}(D:TD)(KF:Int)(DF:TD)(KT:Int)(DT:TD)(e l:Bool)(h:k=3\/k=4):
  av (aA 20000000) 20000000 (0,I,k,D,KF,DF,KT,DT,e,l,([]:List TD))=some (I.flatMap datI):=by
 have:=CU (step:=aA 20000000) (st:=λi acc=>((i:Int),I,k,D,KF,DF,KT,DT,e,l,acc)) (fin:=λacc=>acc) (L:=I) (f:=datI) (c:=0) D1 ?_ ?_ I.length 0 [] (by omega) (by simp) 20000000 (by omega)
 ·rw[cM,eo]at this;exact this
 ·intro i t acc b d;have hi:i<I.length:=(qk.1 b).1;unfold aA;simp only[u11,u10,u9,u8,u7,u6,u5,u4,u3,u2];rw[ar (show(i:Int)<len I by show(i:Int)<(I.length:Int);omega),dh hi];simp only[ah,ob,b,TS (acc:=acc) (by omega),TS (acc:=acc++[iF t]) (by simp;omega)];rw[lU (by omega)];have a:(cond (rT t) (some (.inl (((i+1:Nat):Int),I,k,D,KF,DF,KT,DT,e,l,(acc++[iF t])++[iT t]))) (some (.inl (((i+1:Nat):Int),I,k,D,KF,DF,KT,DT,e,l,acc++[iF t]))):Option ((Int×List TI×Int×TD×Int×TD×Int×TD×Bool×Bool×List TD)⊕(List TD)))=some (.inl (((i+1:Nat):Int),I,k,D,KF,DF,KT,DT,e,l,acc++datI t)):=by
   unfold datI;cases rT t
   ·rfl
   ·rw[ah,gx];rfl
  by_cases k3:k=3
  ·rw[show(k==3)=true from by simp[k3]];exact a
  ·rw[show(k==3)=false from by simp[k3],show(k==4)=true from by simp;omega];exact a
 ·intro acc;unfold aA;simp only[u11,u10,u9,u8,u7,u6,u5,u4,u3,u2];rw[au (show¬(I.length:Int)<len I by show¬(I.length:Int)<(I.length:Int);omega)];rfl
def qW{I:List TI}{k:Int}(D:TD)(KF:Int)(DF:TD)(KT:Int)(DT:TD)(e l:Bool)(a:k≠3)(b:k≠4)(acc:List TD):
  av (aA 20000000) 20000000 (0,I,k,D,KF,DF,KT,DT,e,l,acc)=some acc:=by
 have:aA 20000000 (0,I,k,D,KF,DF,KT,DT,e,l,acc)=some (.inr acc):=by
  unfold aA;simp only[u11,u10,u9,u8,u7,u6,u5,u4,u3,u2];rw[show(k==3)=false from by simp[a],show(k==4)=false from by simp[b]];cases decide ((0:Int)<len I)<;>rfl
 rw[show 20000000=19999999+1 from rfl,av,this]
def vL{I:List TI}(d:I.length<=1000000)(k:Int)(D:TD)(KF:Int)(DF:TD)(KT:Int)(DT:TD)(e l:Bool):aM 20000000 k D KF DF KT DT e l I=some (datE k D KF DF KT DT I):=by
 unfold aM datE;by_cases k1:k=1
 ·rw[ae k1,show(k==1)=true from by simp[k1],show(k==2)=false from by simp[k1]];simp only[ah,af,ob,qW D KF DF KT DT e l (by omega:k≠3) (by omega:k≠4)]
 by_cases k2:k=2
 ·rw[ab k1,ae k2,show(k==1)=false from by simp[k1],show(k==2)=true from by simp[k2]];simp only[ah,af,ob,qW D KF DF KT DT e l (by omega:k≠3) (by omega:k≠4)];by_cases c:KF=1
  ·rw[ae c,show(KF==1)=true from by simp[c]];by_cases a:KT=1
   ·rw[ae a,show(KT==1)=true from by simp[a]];rfl
   ·rw[ab a,show(KT==1)=false from by simp[a]];rfl
  ·rw[ab c,show(KF==1)=false from by simp[c]];by_cases a:KT=1
   ·rw[ae a,show(KT==1)=true from by simp[a]];rfl
   ·rw[ab a,show(KT==1)=false from by simp[a]];rfl
 rw[ab k1,ab k2,show(k==1)=false from by simp[k1],show(k==2)=false from by simp[k2]];simp only[af];by_cases b:k=3\/k=4
 ·rw[ae b,BI d D KF DF KT DT e l b];rfl
 ·rw[ab b,qW D KF DF KT DT e l (by omega) (by omega)];rfl
def E7(n:Nat)(t S R:aa)(a:Int)(o:t.length<4611686018427387904)(q:t.length<n):
  av (eU n) n (t,0,R,S,a)=some (((lcp R t:Nat):Int),S,a):=by
 have:=gL (step:=eU n)
  (λx=>∃j:Nat,j<=t.length/\x=(t,(j:Int),R,S,a)) (λx=>t.length - x.2.1.toNat)
  (λx=>(((x.2.1.toNat+lcp (R.drop x.2.1.toNat) (t.drop x.2.1.toNat):Nat):Int),S,a)) ?_ n (t,0,R,S,a) ⟨0,by omega,rfl⟩ (by simp;omega)
 ·simpa using this
 rintro x ⟨j,p,rfl⟩;simp only[co,eU,Wq];by_cases f:j<t.length/\j<R.length
 ·obtain⟨h,m⟩:=f;obtain⟨c,hc⟩:∃c,t[j]?=some c:=⟨t[j],ba h⟩;obtain⟨d,i⟩:∃d,R[j]?=some d:=⟨R[j],ba m⟩;have g:wrap .i64 ((j:Int)+1)=((j+1:Nat):Int):=by rw[wd];omega
  have e:(decide ((j:Int)<((min t.length R.length:Nat):Int)))=true:=by simp only[cK];omega
  have b:(decide ((j:Int)<((min R.length t.length:Nat):Int)))=true:=by simp only[cK];omega
  simp only[e,b,ah,fh hc,fh i,ob,qm,da hc,da i,lcp];cases l:d==c with
  | true=>
   refine .inl ⟨_,rfl,⟨j+1,by omega,by rw[g]⟩,?_,?_⟩
   ·simp only[g,co];omega
   ·simp only[g,co,bP,vv,aS];omega
  | false=>exact .inr (by simp)
 ·have e:(decide ((j:Int)<((min t.length R.length:Nat):Int)))=false:=by simp only[vX];omega
  have b:(decide ((j:Int)<((min R.length t.length:Nat):Int)))=false:=by simp only[vX];omega
  refine .inr ?_;have k:lcp (R.drop j) (t.drop j)=0:=by
   by_cases h:j<t.length
   ·rw[kW (show R.length<=j by omega)];rfl
   ·rw[kW (show t.length<=j by omega)];cases R.drop j<;>rfl
  simp only[e,b,k,af,dj]
def EP(n:Nat)(t S:aa)(a:Nat)(h:a<=S.length)(d:S.length<4611686018427387904)(b:t.length<4611686018427387904)(c:t.length<n):
  cJ n t S (a:Int)=some (if(S.drop a).take t.length=t then .inl (S,((a+t.length:Nat):Int))else .inr (((a+lcp (S.drop a) t:Nat):Int),5,S,(a:Int))):=by
 have f:=Bn (S.drop a) t;rw[cg]at f;simp only[cJ,o5 n t S a h d,ob];by_cases hp:(S.drop a).take t.length=t
 ·simp[hp]
 ·have e:wrap .i64 ((a:Int)+((lcp (S.drop a) t:Nat):Int))=((a+lcp (S.drop a) t:Nat):Int):=by rw[wd];omega
  simp only[hp,aF,af,wS n S a h,E7 n t S (S.drop a) (a:Int) b c,GG,e,yC];simp
def tdR(r:DR):TD:=(r.1,r.2.1,r.2.2.1,(r.2.2.2.1:Int),(r.2.2.2.2.1:Int),r.2.2.2.2.2.1,r.2.2.2.2.2.2.1,(r.2.2.2.2.2.2.2.1.1:Int),(r.2.2.2.2.2.2.2.1.2.1:Int),(r.2.2.2.2.2.2.2.1.2.2:Int))
def pg{S:aa}{a:Nat}(h:a<=S.length){r:DR}(f:fY S a=.inr r):smT (tdR r)/\cF (tdR r)=0/\a<=enR r/\enR r<=S.length:=by
 obtain⟨c,b⟩:=Fg h f;obtain⟨g,l,dg,x,s,m,d,M,P,e⟩:=r;have ok:=KV h c;have:=ok.dg17;have:=ok.m2;have:=ok.d2;refine⟨⟨by show m.length<=18;omega,by show dg.length<=100;omega,by show d.length<=18;omega,by show(0:Int)<=(M.1:Int);omega,by show(0:Int)<=(M.2.1:Int);omega,by show(0:Int)<=(M.2.2:Int);omega⟩,?_,ok.le,ok.end_⟩;have hc:=Cd (g:=g) (l:=l) (dg:=dg) (x:=(x:Int)) (q:=(s:Int)) (m:=m) (d:=d) (k0:=(M.1:Int)) (k1:=(M.2.1:Int)) (k2:=(M.2.2:Int)) (Ao ok.all);unfold chkR at b;simp only[]at b;show chkF g l dg (x:Int) (s:Int) m d (M.1:Int) (M.2.1:Int) (M.2.2:Int)=0;omega
def dts(l:aa):Bool:=l.take 2==[46,46]
def A3{l:aa}:dts l=true↔∃r,l=46::46::r:=by
 unfold dts;rw[bA];constructor
 ·exact L9
 ·rintro⟨r,rfl⟩;rfl
def wP{S:aa}{p:Nat}(h:dts (S.drop p)=true):p+2<=S.length:=by
 obtain⟨r,a⟩:=A3.1 h;have:=cf List.length a;simp at this;omega
noncomputable def sZ(S:aa)(b:UInt8)(p:Nat):(Nat×Nat×Nat)⊕(TI×Nat×Nat):=
 match fY S p with
 | .inl f=>.inl f
 | .inr r=>if dts (S.drop (enR r))=true/\(S.drop (enR r+2)).head?≠some b then
   match fY S (enR r+2)with
   | .inl f=>.inl f
   | .inr a=>.inr (mkI (tdR r) true (tdR a),plR r,enR a)
  else .inr (mkI (tdR r) false d0,plR r,enR r)
def F9{S:aa}{m:UInt8}{p:Nat}(h:p<=S.length){t:TI}{a c:Nat}(b:sZ S m p=.inr (t,a,c)):smI t/\p<=c/\c<=S.length:=by
 unfold sZ at b;cases d:fY S p with
 | inl f=>rw[d]at b;cases b
 | inr r=>
  obtain⟨g,_,k,l⟩:=pg h d;rw[d]at b;simp only[]at b;split at b
  ·rename_i n;have:=wP n.1;cases e:fY S (enR r+2)with
   | inl f=>rw[e]at b;cases b
   | inr o=>
    obtain⟨j,_,l3,i⟩:=pg (by omega) e;rw[e]at b;cases b;exact⟨⟨g,j⟩,by omega,i⟩
  ·cases b;exact⟨⟨g,ow⟩,k,l⟩
noncomputable def rU(S:aa)(c:UInt8):Nat->Nat->List Nat->List TI->(Nat×Nat×Nat)⊕(Nat×List Nat×List TI)
 | 0,p,_,_=>.inl (p,3,p)
 | r+1,p,P,I=>match sZ S c p with
  | .inl f=>.inl f
  | .inr (t,a,b)=>if(S.drop b).head?=some 44 then rU S c r (b+1) (P++[a]) (I++[t])else .inr (b,P++[a],I++[t])
def qf{S:aa}{p:Nat}{c:UInt8}(h:(S.drop p).head?=some c):p+1<=S.length:=by
 cases b:S.drop p with
 | nil=>rw[b]at h;cases h
 | cons a r=>
  have:=cf List.length b;simp at this;omega
def FG{S:aa}{j:UInt8}:∀(r p:Nat) (P:List Nat) (I:List TI),p<=S.length->P.length=I.length->(∀t∈I,smI t)->∀{d:Nat} {c:List Nat} {b:List TI},rU S j r p P I=.inr (d,c,b)->
  d<=S.length/\c.length=b.length/\I.length<b.length/\b.length<=I.length+r/\(∀t∈b,smI t)
 | 0,p,P,I,_,_,_,d,c,b,e=>by cases e
 | r+1,p,P,I,h,i,hs,d,c,b,e=>by
  rw[rU]at e;cases g:sZ S j p with
  | inl f=>rw[g]at e;cases e
  | inr q=>
   obtain⟨t,a,m⟩:=q;obtain⟨o,z,y⟩:=F9 h g;rw[g]at e;simp only[]at e;have hs':∀u∈I++[t],smI u:=λu x=>by
    rcases md.1 x with h | h
    ·exact hs u h
    ·rw[nh.1 h];exact o
   split at e
   ·rename_i n;obtain⟨k,s,w,v,l⟩:=FG r (m+1) (P++[a]) (I++[t]) (qf n) (by simp[i]) hs' e;rw[aV,List.length_singleton]at w v;exact⟨k,s,by omega,by omega,l⟩
   ·cases e;exact⟨y,by simp[i],by simp,by simp,hs'⟩
def dts3(S:aa)(p:Nat)(c:UInt8):((S.drop p).take [46,46,c].length==[46,46,c])=(dts (S.drop p)&&decide ((S.drop (p+2)).head?=some c)):=by
 rw[<-km];generalize S.drop p=l;unfold dts
 match l with
 | []=>rfl
 | [a]=>simp
 | [a,b]=>simp
 | a::b::d::r=>
  rw[mL];simp[and_assoc]
def endC(K:Int):UInt8:=if K=4 then 125 else 93
def Ah{K:Int}(a:K=3\/K=4)(n:Nat):iu n K=some ([if K=4 then 123 else 91],[endC K]):=by
 rcases a with rfl | rfl<;>rfl
def ZH(c:UInt8){S:aa}{p:Nat}(h:p<=S.length)(b f:Int)(a:Bool)(d:List Int)(e:TD)(i g:List TI):
  nM 20000000 [c] b S (p:Int) f a d e i g=some ([c],b,dts (S.drop p)&&!decide ((S.drop (p+2)).head?=some c),S,(p:Int),f,a,d,e,i,g):=by
 unfold nM;rw[Ol _ _ _ _ h];have hc:cat [46,46] [c]=some [46,46,c]:=rfl;simp only[ob,hc,Ol _ _ _ _ h,dts3];show cond (dts (S.drop p)) _ _=_;cases j:dts (S.drop p)
 ·rfl
 ·cases decide ((S.drop (p+2)).head?=some c)<;>rfl
def tk1(l:aa)(c:UInt8):l.take [c].length=[c]↔l.head?=some c:=by
 cases l<;>simp
def F6(S:aa)(r:DR):aaD S (.inr r)=.inr ((tdR r).1,(tdR r).2.1,(tdR r).2.2.1,(tdR r).2.2.2.1,(tdR r).2.2.2.2.1,(tdR r).2.2.2.2.2.1,(tdR r).2.2.2.2.2.2.1,(tdR r).2.2.2.2.2.2.2.1,(tdR r).2.2.2.2.2.2.2.2.1,(tdR r).2.2.2.2.2.2.2.2.2,((plR r:Nat):Int),S,((enR r:Nat):Int)):=rfl
def aab(b:Bool)(c:UInt8){S:aa}{p:Nat}(h:p<=S.length)(s:S.length<100000)(n:b=true->dts (S.drop p)=true)(e d:Int)(g:Bool)(i:List Int)(k:TD)(j a:List TI):
  nN 20000000 [c] e b S (p:Int) d g i k j a=some (if b=true then(match fY S (p+2)with
   | .inl f=>.inl ((f.1:Int),(f.2.1:Int),S,(f.2.2:Int))
   | .inr r=>.inr ([c],e,S,((enR r:Nat):Int),d,g,i,k,true,tdR r,j,a))else .inr ([c],e,S,(p:Int),d,g,i,k,false,d0,j,a)):=by
 unfold nN;cases b
 ·rfl
 ·have l:=n rfl;have m:=wP l;have q:(S.drop p).take [(46:UInt8),46].length=[46,46]:=by
   obtain⟨r,o⟩:=A3.1 l;rw[o];rfl
  rw[ah,EP _ _ _ _ h (by omega) (by simp) (by simp),ae q,ae rfl];show obs (jK 20000000 S ((p+2:Nat):Int)) _ _=_;rw[IV S (p+2) m s];cases fY S (p+2)with
  | inl f=>rfl
  | inr r=>rfl
def E9{α:Type}{I:List α}(h:I.length<=256):Nat.ble (I.length+1) cS=true:=dc (by unfold cS;omega)
abbrev rN(P:List Nat):List Int:=P.map λk:Nat=>(k:Int)
def WB(c:UInt8){S:aa}{p:Nat}(h:p<=S.length)(s:S.length<100000)(K:Int)(e:Bool){P:List Nat}(J:List TI){I:List TI}(B:I.length<256)(A:P.length=I.length):
  gu 20000000 ([c],S,(p:Int),K,e,rN P,J,I)=some (match sZ S c p with
   | .inl f=>.inr (.inl ((f.1:Int),(f.2.1:Int),S,(f.2.2:Int)))
   | .inr (t,a,b)=>if(S.drop b).head?=some 44 then .inl ([c],S,((b+1:Nat):Int),K,e,rN (P++[a]),J,I++[t])
    else .inr (.inr ([c],S,((if dts (S.drop b)then b+2 else b:Nat):Int),0,d0,0,d0,0,d0,false,false,K,d0,0,d0,0,d0,e,dts (S.drop b),rN (P++[a]),J,I++[t]))):=by
 have fin:∀(t:TI) (a b:Nat),b<=S.length->(ob (aG 20000000 [44] S (b:Int)) (u3 λo i k=>cond o (some (.inl ([c],i,k,K,e,rN P++([(a:Int)]:List Int),J,I++([t]:List TI)))) (ob (aG 20000000 [46,46] i k) (u3 λm j g=>cond m (some (.inr (.inr ([c],j,g,0,d0,0,d0,0,d0,false,false,K,d0,0,d0,0,d0,e,true,rN P++([(a:Int)]:List Int),J,I++([t]:List TI))))) (some (.inr (.inr ([c],j,g,0,d0,0,d0,0,d0,false,false,K,d0,0,d0,0,d0,e,false,rN P++([(a:Int)]:List Int),J,I++([t]:List TI)))))))):Option ((aa×aa×Int×Int×Bool×List (Int)×List TI×List TI)⊕((Int×Int×aa×Int)⊕(aa×aa×Int×Int×TD×Int×TD×Int×TD×Bool×Bool×Int×TD×Int×TD×Int×TD×Bool×Bool×List (Int)×List TI×List TI)))) =
   some (if(S.drop b).head?=some 44 then .inl ([c],S,((b+1:Nat):Int),K,e,rN (P++[a]),J,I++[t])
    else .inr (.inr ([c],S,((if dts (S.drop b)then b+2 else b:Nat):Int),0,d0,0,d0,0,d0,false,false,K,d0,0,d0,0,d0,e,dts (S.drop b),rN (P++[a]),J,I++[t]))):=by
  intro t a b l;have w:rN (P++[a])=rN P++[(a:Int)]:=by simp[rN]
  rw[o5 _ _ _ _ l (by omega),w];simp only[ob,u3,u2,tk1];by_cases hc:(S.drop b).head?=some 44
  ·rw[ae hc,ae hc];rfl
  ·rw[ab hc,ab hc];simp only[af];rw[o5 _ _ _ _ l (by omega)];cases d:dts (S.drop b)
   ·rw[ab (show¬(S.drop b).take [(46:UInt8),46].length=[46,46]fromλh=>by unfold dts at d;rw[show(S.drop b).take 2=[46,46]from h]at d;cases d)];rfl
   ·rw[ae (show(S.drop b).take [(46:UInt8),46].length=[46,46]from eq_of_beq d)];rfl
 unfold gu;simp only[u8,u7,u6,u5,u4,u3,u2];rw[show(len I==256)=false from by show((I.length:Int)==256)=false;simp;omega,af,IV S p h s];unfold sZ;cases y:fY S p with
 | inl f=>rfl
 | inr r=>
  obtain⟨z,_,D,n⟩:=pg h y;rw[F6];simp only[obs,sm,ob];rw[show(d4 (d8 ((tdR r).1,(tdR r).2.1,(tdR r).2.2.1,(tdR r).2.2.2.1,(tdR r).2.2.2.2.1,(tdR r).2.2.2.2.2.1,(tdR r).2.2.2.2.2.2.1,(tdR r).2.2.2.2.2.2.2.1,(tdR r).2.2.2.2.2.2.2.2.1,(tdR r).2.2.2.2.2.2.2.2.2,((plR r:Nat):Int),S,((enR r:Nat):Int))))=((enR r:Nat):Int)from rfl,ZH c n];simp only[u11,u10,u9,u8,u7,u6,u5,u4,u3,u2];rw[aab _ c n s (λh=>by simp at h;exact h.1)];have q:(dts (S.drop (enR r))&&!decide ((S.drop (enR r+2)).head?=some c))=true↔(dts (S.drop (enR r))=true/\(S.drop (enR r+2)).head?≠some c):=by simp
  by_cases d:dts (S.drop (enR r))=true/\(S.drop (enR r+2)).head?≠some c
  ·rw[ae (q.2 d),ae d];cases x:fY S (enR r+2)with
   | inl f=>rfl
   | inr u=>
    obtain⟨C,_,l3,v⟩:=pg (wP d.1) x;simp only[u12,u11,u10,u9,u8,u7,u6,u5,u4,u3,u2];rw[E9 (by omega),E9 (by simp;omega)];exact fin (mkI (tdR r) true (tdR u)) (plR r) (enR u) v
  ·rw[ab (λh=>d (q.1 h)),ab d];simp only[u12,u11,u10,u9,u8,u7,u6,u5,u4,u3,u2];rw[E9 (by omega),E9 (by simp;omega)];exact fin (mkI (tdR r) false d0) (plR r) (enR r) n
def X6(c:UInt8)(S:aa)(p K:Int)(e:Bool)(P:List Int)(J:List TI){I:List TI}(a:I.length=256):
  gu 20000000 ([c],S,p,K,e,P,J,I)=some (.inr (.inl (p,3,S,p))):=by
 unfold gu;simp only[u8,u7,u6,u5,u4,u3,u2];rw[show(len I==256)=true from by show((I.length:Int)==256)=true;rw[a];rfl];rfl
def adk(S:aa)(c:UInt8)(K:Int)(e:Bool)(J:List TI):(Nat×Nat×Nat)⊕(Nat×List Nat×List TI)->(Int×Int×aa×Int)⊕(aa×aa×Int×Int×TD×Int×TD×Int×TD×Bool×Bool×Int×TD×Int×TD×Int×TD×Bool×Bool×List (Int)×List TI×List TI)
 | .inl f=>.inl ((f.1:Int),(f.2.1:Int),S,(f.2.2:Int))
 | .inr (p,P,I)=>.inr ([c],S,((if dts (S.drop p)then p+2 else p:Nat):Int),0,d0,0,d0,0,d0,false,false,K,d0,0,d0,0,d0,e,dts (S.drop p),rN P,J,I)
def XW(c:UInt8){S:aa}(i:S.length<100000)(K:Int)(e:Bool)(J:List TI):∀(r p:Nat) (P:List Nat) (I:List TI),I.length+r=256->p<=S.length->P.length=I.length->∀N,r<N->
  av (gu 20000000) N ([c],S,(p:Int),K,e,rN P,J,I)=some (adk S c K e J (rU S c r p P I)):=by
 intro r
 induction r with
 | zero=>
  intro p P I g hp b N h;obtain⟨N,rfl⟩:∃k,N=k+1:=⟨N - 1,by omega⟩;rw[av,X6 c S _ K e _ J (by omega)];rfl
 | succ r ih=>
  intro p P I g hp b N h;obtain⟨N,rfl⟩:∃k,N=k+1:=⟨N - 1,by omega⟩;rw[av,WB c hp i K e J (by omega) b,rU];cases j:sZ S c p with
  | inl f=>rfl
  | inr q=>
   obtain⟨t,a,d⟩:=q;obtain⟨_,l,m⟩:=F9 hp j;simp only[];by_cases hc:(S.drop d).head?=some 44
   ·rw[ae hc,ae hc];exact ih (d+1) (P++[a]) (I++[t]) (by simp;omega) (qf hc) (by simp[b]) N (by omega)
   ·rw[ab hc,ab hc];rfl
def Hh{X a Y b:Type}{s:X->Option (X⊕Y)}{s':a->Option (a⊕b)}(f:X->a)(g:Y->b)(h:∀x,s' (f x)=(s x).map (Sum.map f g)):∀(n:Nat) (x:X),av s' n (f x)=(av s n x).map g
 | 0,_=>rfl
 | n+1,x=>by
  rw[av,av,h];cases s x with
  | none=>rfl
  | some z=>
   cases z with
   | inl y=>exact Hh f g h n y
   | inr y=>rfl
def Wt(n:Nat)(K:Int)(D:TD)(KF:Int)(DF:TD)(KT:Int)(DT:TD)(c:Nat)(e l:Bool)(L:List TI):pD n K D KF DF KT DT L.length c e l L=nD n K D KF DF KT DT e l L:=by
 unfold pD nD;have:=Hh (s:=gz n) (s':=lF n) (u12 λx0 f d g m h k j p o b a=>(d.length,c,x0,f,d,g,m,h,k,j,p,d.length,c,o,b,a)) id (by
  rintro⟨x0,f,d,g,m,h,k,j,p,o,b,a⟩;unfold gz lF;simp only[u16,u15,u14,u13,u12,u11,u10,u9,u8,u7,u6,u5,u4,u3,u2];cases decide (f<x0)
  ·rfl
  ·simp only[ah];cases ix d.length f with
   | none=>rfl
   | some i=>
    simp only[ob];cases d[i]? with
    | none=>rfl
    | some t=>
     simp only[ob];cases gX n (iF t) (d8 t).2.2.1 (d8 t).2.2.2 g with
     | none=>rfl
     | some v=>
      simp only[ob];rw[show oy n v 10 10 10 (iF t) (d8 t).2.2.1 (d8 t).2.2.2 g m h k j p d.length c o b f a d=iG n v 10 10 10 (iF t) (d8 t).2.2.1 (d8 t).2.2.2 g m h k j p o b f a d from rfl];cases iG n v 10 10 10 (iF t) (d8 t).2.2.1 (d8 t).2.2.2 g m h k j p o b f a d with
      | none=>rfl
      | some z=>
       simp only[ob];cases(z != 0)<;>rfl) n (len L,0,L,K,D,KF,DF,KT,DT,e,l,w64 (len L - 1))
 simp only[u12,u11,u10,u9,u8,u7,u6,u5,u4,u3,u2]at this;rw[show(L.length,c,(L.length:Int),(0:Int),L,K,D,KF,DF,KT,DT,L.length,c,e,l,w64 ((L.length:Int) - 1))=(L.length,c,len L,0,L,K,D,KF,DF,KT,DT,L.length,c,e,l,w64 (len L - 1))from rfl,this];rw[Option.map_id];rfl
def Ww(n:Nat)(K:Int)(D:TD)(KF:Int)(DF:TD)(KT:Int)(DT:TD)(c:Nat)(e l:Bool)(L:List TI):jE n K D KF DF KT DT L.length c e l L=ny n K D KF DF KT DT e l L:=by
 unfold jE ny;rw[Wt,show ra n K D KF DF KT DT L.length c e l L=nS n K D KF DF KT DT e l L from rfl]
def L6{K:Int}{D:TD}{KF:Int}{DF:TD}{KT:Int}{DT:TD}{e l:Bool}{L:List TI}(h:smE D DF DT L)(c:Nat):
  jE 20000000 K D KF DF KT DT L.length c e l L=some (fA K D KF DF KT DT e l L):=(Ww _ _ _ _ _ _ _ _ _ _ _).trans (JD h)
noncomputable def setE(K:Int)(e l:Bool)(I:List TI):Int×Int:=fA K d0 0 d0 0 d0 e l I
noncomputable def endL(S:aa)(K:Int)(e:Bool)(p:Nat)(P:List Nat)(I:List TI):(Nat×Nat×Nat)⊕(Int×Bool×Bool×List TI×Nat):=
 if(S.drop (if dts (S.drop p)then p+2 else p)).head?=some (endC K)then
  if(setE K e (dts (S.drop p)) I).2=0 then .inr (K,e,dts (S.drop p),I,(if dts (S.drop p)then p+2 else p)+1)
  else .inl (P.getD (setE K e (dts (S.drop p)) I).1.toNat 0,10,(if dts (S.drop p)then p+2 else p)+1)
 else .inl (if dts (S.drop p)then p+2 else p,5,if dts (S.drop p)then p+2 else p)
noncomputable def G2(S:aa)(a:Nat)(K:Int):(Nat×Nat×Nat)⊕(Int×Bool×Bool×List TI×Nat):=
 match rU S (endC K) 256 (if dts (S.drop (a+1))then a+3 else a+1) [] []with
 | .inl f=>.inl f
 | .inr (p,P,I)=>endL S K (dts (S.drop (a+1))) p P I
noncomputable def zV(S:aa)(a:Nat):(Nat×Nat×Nat)⊕(Int×Bool×Bool×List TI×Nat):=
 if(S.drop a).head?=some 91 then G2 S a 3 else if(S.drop a).head?=some 123 then G2 S a 4 else .inl (a,5,a)
def Yc{K:Int}(b:K=3\/K=4){e l:Bool}{I:List TI}(a:1<=I.length):∃i:Nat,(setE K e l I).1=(i:Int)/\i<I.length:=by
 have hi:∃i:Nat,(AS K e l I).1=(i:Int)/\i<I.length:=by
  unfold AS;have:∀(J:List TI) (k:Nat) (p:Nat×Int),uW (errI K e l I.length) k J=some p->p.1<k+J.length:=by
   intro J
   induction J with
   | nil=>intro k p h;cases h
   | cons t r ih=>
    intro k p h;rw[uW]at h;split at h
    ·cases h;simp
    ·have:=ih (k+1) p h;simp;omega
  cases hs:uW (errI K e l I.length) 0 I with
  | none=>exact⟨0,rfl,by omega⟩
  | some p=>exact⟨p.1,rfl,by have:=this I 0 p hs;omega⟩
 unfold setE fA;rw[ad];split
 ·exact⟨0,rfl,by omega⟩
 ·rw[ad,ad,ad];split
  ·exact⟨0,rfl,by omega⟩
  ·exact hi
def WP{I:List TI}(h:∀t∈I,smI t):smE d0 d0 d0 I:=⟨ow,ow,ow,h⟩
def adi(n:Nat)(I:List TI):bV n I=some (I.length,I.length):=by
 unfold bV;rw[de (bi _)];show ob (bx I.length (I.length:Int)) _=_;rw[de (bi _)];rfl
def WX(S:aa):(Nat×Nat×Nat)⊕(Int×Bool×Bool×List TI×Nat)->(Int×Int×aa×Int)⊕(Int×TD×Int×TD×Int×TD×Nat×Nat×Bool×Bool×aa×Int×List TI)
 | .inl f=>.inl ((f.1:Int),(f.2.1:Int),S,(f.2.2:Int))
 | .inr (K,e,l,I,p)=>.inr (K,d0,0,d0,0,d0,I.length,I.length,e,l,S,(p:Int),I)
def aa9 {S:aa} (G:S.length<100000) {K:Int} (z:K=3\/K=4) (e:Bool) {p:Nat} (hp:p<=S.length) {P:List Nat} {I:List TI} (E:P.length=I.length) (B:1<=I.length) (hs:∀t∈I,smI t):
  (obs (cJ 20000000 [endC K] S ((if dts (S.drop p) then p+2 else p:Nat):Int)) (u2 λb c=>ob (bV 20000000 I) (u2 λf d=>ob (jE 20000000 K d0 0 d0 0 d0 f d e (dts (S.drop p)) I) (u2 λs o=>cond (o != 0) (ob (ix (List.length (rN P)) s) λm=>ob ((rN P)[m]?) λk=>ob (aW 20000000 k 10 b c) (u2 λu j=>some (.inl (u,j,b,c)))) (some (.inr (K,d0,0,d0,0,d0,f,d,e,dts (S.drop p),b,c,I)))))) (u4 λw v x n=>some (.inl (w,v,x,n)))) =
   some (WX S (endL S K e p P I)):=by
 have y:(if dts (S.drop p) then p+2 else p:Nat)<=S.length:=by
  split
  ·rename_i h;exact wP h
  ·exact hp
 unfold endL;generalize (if dts (S.drop p) then p+2 else p:Nat)=q at *;generalize dts (S.drop p)=l;rw [EP _ _ _ _ y (by omega) (by simp) (by simp)];simp only [tk1];by_cases hc:(S.drop q).head?=some (endC K)
 ·rw [ae hc,ae hc];simp only [obs,sm,ob,u2,adi,L6 (WP hs)];obtain ⟨i,C,F⟩:=Yc z (e:=e) (l:=l) B;show cond ((setE K e l I).2 != 0) (ob (ix (rN P).length (setE K e l I).1) _) _=_;by_cases g:(setE K e l I).2=0
  ·rw [ae g,show ((setE K e l I).2 != 0)=false from by simp [g]];rfl
  ·have hi:i<(rN P).length:=by simp [rN];omega
   rw [ab g,show ((setE K e l I).2 != 0)=true from by simp [g],C,dh hi];have A:(rN P)[i]?=some ((P.getD i 0:Nat):Int):=by
    have hi':i<P.length:=by omega
    simp [rN,ba hi']
   simp only [ah,ob,A];rfl
 ·rw [ab hc,ab hc];have:lcp (S.drop q) [endC K]=0:=by
   cases D:S.drop q with
   | nil=>rfl
   | cons a r=>
    rw [D] at hc;simp only [lcp];rw [show (a==endC K)=false from by rw [aL];rintro rfl;exact hc rfl];rfl
  rw [this];rfl
def V1{S:aa}{a:Nat}(h:a<=S.length)(hS:S.length<100000):pI 20000000 S (a:Int)=some (WX S (zV S a)):=by
 have b:∀(K:Int) (z:K=3\/K=4) (i:a+1<=S.length),(ob (pA 20000000 (K==4) S ((a+1:Nat):Int) ([]:List TI) ([]:List TI)) (u5 λv7 v8 v9 F G=>ob (iu 20000000 v9) (u2 λ_ X=>ob (aG 20000000 [46,46] v7 v8) (u3 λH O C=>obs (av (gu 20000000) 20000000 (X,O,C,v9,H,([]:List Int),F,G)) (u4 λE M v18 Z=>some (.inl (E,M,v18,Z))) (u22 λv20 N U _ _ _ _ _ _ _ _ x u l o w v s m n _ e=>obs (cJ 20000000 v20 N U) (u2 λd g=>ob (bV 20000000 e) (u2 λy k=>ob (jE 20000000 x u l o w v y k s m e) (u2 λQ J=>cond (J != 0) (ob (ix n.length Q) λD=>ob (n[D]?) λB=>ob (aW 20000000 B 10 d g) (u2 λR A=>some (.inl (R,A,d,g)))) (some (.inr (x,u,l,o,w,v,y,k,s,m,d,g,e)))))) (u4 λW V v45 L=>some (.inl (W,V,v45,L)))))))) =
   some (WX S (G2 S a K)):=by
  intro K z i;have hj:pA 20000000 (K==4) S ((a+1:Nat):Int) ([]:List TI) ([]:List TI)=some (S,((a+1:Nat):Int),K,[],[]):=by
   rcases z with rfl | rfl<;>rfl
  have Y:aG 20000000 [46,46] S ((a+1:Nat):Int)=some (dts (S.drop (a+1)),S,((if dts (S.drop (a+1))then a+3 else a+1:Nat):Int)):=by
   rw[o5 _ _ _ _ i (by omega)];cases j:dts (S.drop (a+1))
   ·rw[ab (show¬(S.drop (a+1)).take [(46:UInt8),46].length=[46,46]fromλh=>by unfold dts at j;rw[show(S.drop (a+1)).take 2=[46,46]from h]at j;cases j)];rfl
   ·rw[ae (show(S.drop (a+1)).take [(46:UInt8),46].length=[46,46]from eq_of_beq j)];rfl
  have hp:(if dts (S.drop (a+1))then a+3 else a+1:Nat)<=S.length:=by
   split
   ·rename_i h;have:=wP h;omega
   ·exact i
  have hl:=XW (endC K) hS K (dts (S.drop (a+1))) [] 256 (if dts (S.drop (a+1))then a+3 else a+1) [] [] (by simp) hp rfl 20000000 (by omega);simp only[hj,Ah z,Y,ob,u5,u4,u3,u2];rw[show av (gu 20000000) 20000000 ([endC K],S,((if dts (S.drop (a+1))then a+3 else a+1:Nat):Int),K,dts (S.drop (a+1)),([]:List Int),([]:List TI),([]:List TI))=_ from hl];unfold G2;cases hr:rU S (endC K) 256 (if dts (S.drop (a+1))then a+3 else a+1) [] []with
  | inl f=>rfl
  | inr q=>
   obtain⟨p,P,I⟩:=q;obtain⟨q1,q2,q3,q4,q5⟩:=FG 256 _ [] [] hp rfl (λt Y=>by cases Y) hr;have q3':1<=I.length:=by rw[bU]at q3;omega
   exact aa9 hS z (dts (S.drop (a+1))) q1 q2 q3' q5
 unfold pI zV;rw[Ek _ _ _ _ h (by omega)];cases j:S.drop a with
 | nil=>rfl
 | cons c r=>
  have i:a+1<=S.length:=by
   have:=cf List.length j;simp at this;omega
  simp only[qU,aw];by_cases h1:c=91
  ·subst h1;rw[ae rfl];exact b 3 (.inl rfl) i
  ·by_cases T:c=123
   ·subst T;rw[ae rfl];exact b 4 (.inr rfl) i
   ·rw[ab h1,ab T];have:hasB [91,123] c=false:=by
     unfold hasB;simp only[qG,List.any_nil,xT,qt,aL];exact⟨λh=>h1 h.symm,λh=>T h.symm⟩
    rw[this];rfl
def rat(l:aa):Nat:=match l with | c::_=>c.toNat | []=>0
def aaN(l:aa)(c:UInt8)(hc:c≠0):(((rat l:Nat):Int)==(c.toNat:Int))=decide (l.head?=some c):=by
 cases l with
 | nil=>
  rw[au (by simp)];rw[aL];intro h;have b:c.toNat=0:=by
   have:((0:Nat):Int)=(c.toNat:Int):=h;omega
  exact hc (ii.1 (by rw[b];rfl))
 | cons a r=>
  show((a.toNat:Int)==(c.toNat:Int))=_;rw[qm];rw[mL];simp
def LW{S:aa}{d:UInt8}{p:Nat}(h:p<=S.length){f:Nat×Nat×Nat}(a:sZ S d p=.inl f):f.2.1≠0:=by
 unfold sZ at a;cases b:fY S p with
 | inl g=>rw[b]at a;cases a;exact Bg (k:=f.1) (E:=f.2.1) (p:=f.2.2) h b
 | inr r=>
  rw[b]at a;simp only[]at a;split at a
  ·rename_i e;cases c:fY S (enR r+2)with
   | inl g=>rw[c]at a;cases a;exact Bg (k:=f.1) (E:=f.2.1) (p:=f.2.2) (wP e.1) c
   | inr i=>rw[c]at a;cases a
  ·cases a
def CY{S:aa}{c:UInt8}:∀(r p:Nat) (P:List Nat) (I:List TI),p<=S.length->∀{f:Nat×Nat×Nat},rU S c r p P I=.inl f->f.2.1≠0
 | 0,p,P,I,_,f,e=>by cases e;simp
 | r+1,p,P,I,h,f,e=>by
  rw[rU]at e;cases b:sZ S c p with
  | inl g=>rw[b]at e;cases e;exact LW h b
  | inr q=>
   obtain⟨t,a,i⟩:=q;rw[b]at e;simp only[]at e;split at e
   ·rename_i d;exact CY r (i+1) _ _ (qf d) e
   ·cases e
def Of{S:aa}{a:Nat}(h:a<=S.length){f:Nat×Nat×Nat}(b:zV S a=.inl f):f.2.1≠0:=by
 have c:∀i:Int,a+1<=S.length->G2 S a i=.inl f->f.2.1≠0:=by
  intro i j b;unfold G2 at b;have hp:(if dts (S.drop (a+1))then a+3 else a+1:Nat)<=S.length:=by
   split
   ·rename_i h;have:=wP h;omega
   ·exact j
  cases d:rU S (endC i) 256 (if dts (S.drop (a+1))then a+3 else a+1) [] []with
  | inl g=>rw[d]at b;cases b;exact CY 256 _ _ _ hp d
  | inr q=>
   obtain⟨e,P,J⟩:=q;rw[d]at b;simp only[]at b;unfold endL at b;generalize(if dts (S.drop e)then e+2 else e:Nat)=k at b;split at b
   ·split at b
    ·cases b
    ·cases b;simp
   ·cases b;simp
 unfold zV at b;split at b
 ·rename_i d;exact c 3 (qf d) b
 ·split at b
  ·rename_i d;exact c 4 (qf d) b
  ·cases b;simp
noncomputable def Kx(S:aa):(Nat×Nat)⊕(Int×Bool×Bool×List TI):=match zV S 0 with
 | .inl f=>.inl (f.1,f.2.1)
 | .inr (K,e,l,I,p)=>if p<S.length then .inl (p,5)else .inr (K,e,l,I)
def brk(c:UInt8):Bool:=c==33||c==44||c==46||c==47||c==91||c==93||c==123||c==125
def Wh:∀c,(!brk c||(!isYC c&&(!isMk c&&(!(c==45)&&!isDX c))))=true:=gO (λc=>!brk c||(!isYC c&&(!isMk c&&(!(c==45)&&!isDX c)))) (by decide +kernel)
def KY{c:UInt8}(h:brk c=true):isYC c=false/\isMk c=false/\(c==45)=false/\isDX c=false:=by
 have:=Wh c;rw[h]at this;simpa[aD]using this
def Y2{c:UInt8}(h:isDX c=true):brk c=false:=by
 cases a:brk c
 ·rfl
 ·rw[(KY a).2.2.2]at h;cases h
def endT(l:aa):Prop:=∀c,l.head?=some c->brk c=true
def Yl{l:aa}(h:endT l):dG isYC l/\dG isMk l/\dG (λc=>c==45) l:=⟨λc hc=>(KY (h c hc)).1,λc hc=>(KY (h c hc)).2.1,λc hc=>(KY (h c hc)).2.2.1⟩
def KR:endT []:=λc h=>by cases h
def ux{c:UInt8}{l:aa}(h:brk c=true):endT (c::l):=λa b=>by
 simp only[qU,aw]at b;rw[<-b];exact h
def Ry{g l:Bool}{d:aa}{x s:Nat}(h:okY g l d (x:Int) (s:Int))(r:aa):dG brk (fZ g l d (x:Int) (s:Int)++r):=by
 have a:d≠[]:=by
  have:=(gR h).2.2.2.2.1;rintro rfl;simp at this
 rw[ir];cases l with
 | true=>exact fg (by decide)
 | false=>
  cases g with
  | true=>exact fg (by decide)
  | false=>
   simp only[bI,aF,eo,gx];exact yP a (Ce h) (λc=>Y2)
def gC(x:TD):aa:=rV x.1 x.2.1 x.2.2.1 x.2.2.2.1 x.2.2.2.2.1 x.2.2.2.2.2.1 x.2.2.2.2.2.2.1 x.2.2.2.2.2.2.2.1.toNat x.2.2.2.2.2.2.2.2.1.toNat x.2.2.2.2.2.2.2.2.2.toNat
def lj{x:TD}(hs:smT x)(hc:cF x=0):∃(g l:Bool) (dg:aa) (e q:Nat) (m d:aa) (a b c:Nat),x=(g,l,dg,(e:Int),(q:Int),m,d,(a:Int),(b:Int),(c:Int))/\OkD g l dg e q m d a b c:=by
 have h:=pX hc;obtain⟨g,l,dg,e,q,m,d,k0,k1,k2⟩:=x;obtain⟨r,p,a,b,c,k,n,i,f,j,o⟩:=Gk hs.2.2.2.1 hs.2.2.2.2.1 hs.2.2.2.2.2 h;simp only at k n i f j;subst k n i f j;exact⟨_,_,_,_,_,_,_,_,_,_,rfl,o⟩
def dfT{x:TD}(hs:smT x)(hc:cF x=0):ap10 (dM 20000000) x=some (gC x,0):=by
 have:=LJ 19999700 x.1 x.2.1 x.2.2.1 x.2.2.2.1 x.2.2.2.2.1 x.2.2.2.2.2.1 x.2.2.2.2.2.2.1 x.2.2.2.2.2.2.2.1 x.2.2.2.2.2.2.2.2.1 x.2.2.2.2.2.2.2.2.2 hs.1 hs.2.1 hs.2.2.2.1 hs.2.2.2.2.1 hs.2.2.2.2.2;rw[ae (pX hc)]at this;exact this
def rfT{x:TD}(hs:smT x)(hc:cF x=0):ap10 (gF 20000000) x=some (gC x):=
 Ny 19999700 hs.2.2.2.1 hs.2.2.2.2.1 hs.2.2.2.2.2 (pX hc)
def rL{x:TD}(hs:smT x)(hc:cF x=0):(gC x).length<=37:=by
 obtain⟨g,l,dg,e,q,m,d,a,b,c,rfl,ok⟩:=lj hs hc;exact Rx ok
def qw{x:TD}(hs:smT x)(hc:cF x=0)(r:aa):dG brk (gC x++r):=by
 obtain⟨g,l,dg,e,q,m,d,a,b,c,rfl,ok⟩:=lj hs hc;show dG brk (rV g l dg (e:Int) (q:Int) m d a b c++r);unfold rV db;rw[gx,gx,gx];exact O8 _ (by decide) (by decide) (by decide) (Ry ok.yr _)
def uz{l:aa}(h:dG brk l):dts l=false:=by
 cases a:dts l
 ·rfl
 ·obtain⟨r,rfl⟩:=A3.1 a;exact absurd (h 46 rfl) (by decide)
def CC{x:TD}(hs:smT x)(hc:cF x=0){S:aa}{a:Nat}{post:aa}(h:S.drop a=gC x++post)(hp:endT post):∃r,fY S a=.inr r/\tdR r=x/\enR r=a+(gC x).length:=by
 obtain⟨g,l,dg,e,q,m,d,k0,k1,k2,rfl,ok⟩:=lj hs hc;obtain⟨c,b,i⟩:=Yl hp;obtain⟨P,f⟩:=MR ok (S:=S) (a:=a) (post:=post) h c b i;refine⟨(g,l,dg,e,q,m,d,(k0,k1,k2),P,a+(rV g l dg (e:Int) (q:Int) m d k0 k1 k2).length),?_,rfl,rfl⟩;unfold fY;rw[f];have j:chkR (g,l,dg,e,q,m,d,(k0,k1,k2),P,a+(rV g l dg (e:Int) (q:Int) m d k0 k1 k2).length)=0:=by
  unfold chkR;simp only[];have:chkF g l dg (e:Int) (q:Int) m d (k0:Int) (k1:Int) (k2:Int)=0:=hc;rw[this];rfl
 simp only[];rw[ae j]
structure OkI(t:TI):Prop where
 sm:smI t
 a:cF (iF t)=0
 b:rT t=true->cF (iT t)=0
 n:rT t=false->iT t=d0
def fD(t:TI):aa:=if rT t then gC (iF t)++([46,46]++gC (iT t))else gC (iF t)
def Gy{t:TI}(h:OkI t):(fD t).length<=76:=by
 have d:=rL h.sm.1 h.a;unfold fD;split
 ·rename_i c;have e:=rL h.sm.2 (h.b c);simp only[aV,aI,bU];omega
 ·omega
def Re{t:TI}(h:OkI t)(r:aa):dG brk (fD t++r):=by
 unfold fD;split
 ·rw[gx];exact qw h.sm.1 h.a _
 ·exact qw h.sm.1 h.a _
def A7{t:TI}(ok:OkI t){f:UInt8}(g:brk f=true){S:aa}{p:Nat}{post:aa}(h:S.drop p=fD t++post)(hp:endT post)(w:dts post=true->(post.drop 2).head?=some f):
  ∃a,sZ S f p=.inr (t,a,p+(fD t).length):=by
 unfold fD at h ⊢;unfold sZ;cases c:rT t with
 | true=>
  rw[c,ae rfl,gx,gx]at h;obtain⟨r,j,i,e⟩:=CC ok.sm.1 ok.a h (ux (by decide));have d:S.drop (enR r)=[46,46]++(gC (iT t)++post):=by rw[e];exact iP h
  have k:S.drop (enR r+2)=gC (iT t)++post:=iP (u:=[46,46]) d;have o:dts (S.drop (enR r))=true:=by rw[d];rfl
  have x:(S.drop (enR r+2)).head?≠some f:=by
   rw[k];intro s;have:=qw ok.sm.2 (ok.b c) post f s;rw[g]at this;cases this
  obtain⟨z,v,y,q⟩:=CC ok.sm.2 (ok.b c) k hp;refine⟨plR r,?_⟩;rw[j];simp only[];rw[ae ⟨o,x⟩,v];simp only[aS];rw[i,y,q,e];have:mkI (iF t) true (iT t)=t:=by rw[<-c]
  rw[this];have:p+(gC (iF t)).length+2+(gC (iT t)).length=p+(gC (iF t)++([46,46]++gC (iT t))).length:=by simp only[aV,aI,bU];omega
  rw[this]
 | false=>
  rw[c]at h;simp only[bI,aF]at h;obtain⟨r,j,i,e⟩:=CC ok.sm.1 ok.a h hp;have d:S.drop (enR r)=post:=by rw[e];exact iP h
  refine⟨plR r,?_⟩;rw[j];simp only[];rw[ab,i,e]
  ·have:mkI (iF t) false d0=t:=by rw[<-c,<-ok.n c]
   rw[this];simp only[bI,aF]
  ·rintro⟨l,m⟩;rw[d]at l;rw[<-km,d]at m;exact m (w l)
def mP(I:List TI):aa:=(I.map λt=>44::fD t).flatten
def zC{e:UInt8}(b:brk e=true)(c:e≠44){post:aa}(hp:endT post)(d:post.head?≠some 44)(k:dts post=true->(post.drop 2).head?=some e):∀(I:List TI) (t:TI) (r p:Nat) {S:aa} (P:List Nat) (J:List TI),OkI t->(∀u∈I,OkI u)->I.length<r->S.drop p=fD t++(mP I++post)->
  ∃g,rU S e r p P J=.inr (p+(fD t++mP I).length,g,J++t::I)
 | [],t,r+1,p,S,P,J,ok,_,j,h=>by
  obtain⟨a,i⟩:=A7 ok b (post:=post) (by simpa[mP]using h) hp k;refine⟨P++[a],?_⟩;rw[rU,i];simp only[];have f:S.drop (p+(fD t).length)=post:=iP (by simpa[mP]using h);rw[f,ab d];simp[mP]
 | u::I,t,r+1,p,S,P,J,ok,oks,j,h=>by
  have s:mP (u::I)++post=44::(fD u++(mP I++post)):=by simp[mP]
  rw[s]at h
  obtain⟨a,i⟩:=A7 ok b (post:=44::(fD u++(mP I++post))) h (ux (by decide)) (λn=>by
   obtain⟨r,o⟩:=A3.1 n;cases o)
  have f:S.drop (p+(fD t).length)=44::(fD u++(mP I++post)):=iP h;have q:S.drop (p+(fD t).length+1)=fD u++(mP I++post):=iP (u:=[44]) f;obtain⟨g,l⟩:=zC b c hp d k I u r (p+(fD t).length+1) (P++[a]) (J++[t]) (oks u kY) (λv m=>oks v (fV _ m)) (by simp at j;omega) q;refine⟨g,?_⟩;rw[rU,i];simp only[];rw[f,qU,ae rfl,l];have:p+(fD t).length+1+(fD u++mP I).length=p+(fD t++mP (u::I)).length:=by simp[mP];omega
  rw[this];simp
def vR(K:Int)(e l:Bool)(I:List TI):aa:=
 (if K=4 then 123 else 91)::((if e then[46,46]else[])++(Lib.join (I.map fD) [44]++((if l then[46,46]else[])++[endC K])))
def Ho(t:TI)(I:List TI):Lib.join ((t::I).map fD) [44]=fD t++mP I:=by
 rw[gW,Lib.join_cons];unfold Lib.joinTail mP;rw[vK];rfl
def Na{K:Int}(s:K=3\/K=4){e l:Bool}{I:List TI}(B:1<=I.length)(z:I.length<=256)(ok:∀t∈I,OkI t)(x:(setE K e l I).2=0){S:aa}{a:Nat}{post:aa}(h:S.drop a=vR K e l I++post):
  zV S a=.inr (K,e,l,I,a+(vR K e l I).length):=by
 obtain⟨t,J,rfl⟩:∃t J,I=t::J:=by
  cases I with
  | nil=>simp at B
  | cons t J=>exact⟨t,J,rfl⟩
 have f:brk (endC K)=true:=by unfold endC;split<;>decide
 have b:endC K≠44:=by unfold endC;split<;>decide
 have g:endC K≠46:=by unfold endC;split<;>decide
 unfold vR at h ⊢;rw[Ho]at h ⊢;have k:S.drop (a+1)=(if e then[46,46]else[])++((fD t++mP J)++((if l then[46,46]else[])++(endC K::post))):=by
  have:=iP (u:=[if K=4 then 123 else 91]) (v:=((if e then[46,46]else[])++((fD t++mP J)++((if l then[46,46]else[])++[endC K])))++post) (by rw[h];rfl);rw[show a+1=a+[if K=4 then(123:UInt8)else 91].length from rfl,this];simp only[gx,It]
 have C:dts (S.drop (a+1))=e:=by
  rw[k];cases e
  ·simp only[bI,aF,eo];rw[gx];exact uz (Re (ok t kY) _)
  ·rfl
 have n:S.drop (if e then a+3 else a+1)=fD t++(mP J++((if l then[46,46]else[])++(endC K::post))):=by
  rw[<-gx];cases e
  ·simpa using k
  ·have:=iP (u:=[46,46]) k;simpa using this
 have q:endT ((if l then[46,46]else[])++(endC K::post)):=by
  cases l
  ·exact ux f
  ·exact ux (by decide)
 have m:((if l then[46,46]else[])++(endC K::post)).head?≠some 44:=by
  cases l
  ·simp[b]
  ·simp
 have d:dts ((if l then[46,46]else[])++(endC K::post))=l:=by
  cases l
  ·cases j:dts ((if false then[46,46]else[])++(endC K::post))
   ·rfl
   ·obtain⟨r,o⟩:=A3.1 j;simp at o;exact absurd o.1 g
  ·rfl
 obtain⟨P,y⟩:=zC f b q m (λj=>by rw[d]at j;subst j;rfl) J t 256 (if e then a+3 else a+1) [] [] (ok t kY) (λu D=>ok u (fV _ D)) (by simp at z;omega) n;have i:S.drop ((if e then a+3 else a+1)+(fD t++mP J).length)=(if l then[46,46]else[])++(endC K::post):=by
  apply iP;rw[n,gx]
 have c:G2 S a K=.inr (K,e,l,t::J,a+(((if K=4 then 123 else 91)::((if e then[46,46]else[])++((fD t++mP J)++((if l then[46,46]else[])++[endC K]))):aa).length)):=by
  unfold G2;rw[C,y];simp only[eo];unfold endL;rw[i,d];generalize w:(if e then a+3 else a+1)+(fD t++mP J).length=X at i ⊢;have A:S.drop (if l then X+2 else X)=endC K::post:=by
   cases l
   ·simpa using i
   ·have:=iP (u:=[46,46]) i;simpa using this
  rw[A,qU,ae rfl,ae x];have:(if l then X+2 else X)+1=a+(((if K=4 then 123 else 91)::((if e then[46,46]else[])++((fD t++mP J)++((if l then[46,46]else[])++[endC K]))):aa).length):=by
   rw[<-w];cases e<;>cases l<;>simp<;>omega
  rw[this]
 unfold zV;have p:(S.drop a).head?=some (if K=4 then 123 else 91):=by rw[h];rfl
 rw[p];rcases s with rfl | rfl
 ·rw[ae (show some (if(3:Int)=4 then(123:UInt8)else 91)=some 91 from rfl)];exact c
 ·rw[ab (show¬some (if(4:Int)=4 then(123:UInt8)else 91)=some 91 by decide),ae (show some (if(4:Int)=4 then(123:UInt8)else 91)=some 123 from rfl)];exact c
def zp{x y:TD}{r all:Bool}(h:itE x r y all=0):cF x=0/\(r=true->cF y=0)/\(r=false->y=d0)/\itE x r y false=0:=by
 by_cases hc:cF x=0
 ·refine⟨hc,?_⟩;cases r
  ·rw[TB hc]at h ⊢;have hy:eqD y d0=true:=by
    cases a:eqD y d0
    ·rw[a]at h;simp at h
    ·rfl
   exact⟨λh=>(by cases h),λ_=>lM.1 hy,by rw[hy];simp⟩
  ·by_cases hy:cF y=0
   ·rw[abp hc hy]at h ⊢;have b:ordB x y=true:=by
     cases a:ordB x y
     ·rw[a]at h;simp at h
     ·rfl
    exact⟨λ_=>hy,λh=>(by cases h),by rw[b];simp⟩
   ·rw[aaR hc hy]at h;exact absurd h hy
 ·rw[acE hc]at h;exact absurd h hc
def ZM{t:TI}{all:Bool}(hs:smI t)(h:itI t all=0):OkI t:=by
 obtain⟨a,b,c,_⟩:=zp h;exact⟨hs,a,b,c⟩
def HS{x y:TD}(r:Bool)(hx:smT x)(hy:smT y):ll 20000000 x r y=some (if itE x r y false=0 then(fD (mkI x r y),0)else([],itE x r y false)):=by
 unfold ll;rw[Jc r hx hy,ae (.inl rfl),show((3:Int)==4)=false from rfl];simp only[ob];by_cases h:itE x r y false=0
 ·obtain⟨a,b,c,_⟩:=zp h;rw[ae h,h,dfT hx a];simp only[fU,af,u2];cases r
  ·rfl
  ·have d:=rL hx a;have e:=rL hy (b rfl);simp only[ah,dfT hy (b rfl)];rw[dm (by simp only[aI,bU];omega)];simp only[];rw[dm (by simp only[aV,aI,bU];omega)];rfl
 ·rw[ab h,show(itE x r y false != 0)=true from by simp[h]];rfl
def GT:∀{I:List TI},(∀t∈I,OkI t)->(mP I).length<=77*I.length
 | [],_=>by simp[mP]
 | t::I,h=>by
  have b:=Gy (h t kY);have c:=GT (I:=I) λu a=>h u (fV _ a);have:mP (t::I)=(44::fD t)++mP I:=by simp[mP]
  rw[this];simp only[aV,aI];omega
def He{I:List TI}(h:∀t∈I,OkI t):(Lib.join (I.map fD) [44]).length<=77*I.length:=by
 cases I with
 | nil=>simp[Lib.join_nil]
 | cons t I=>
  have b:=Gy (h t kY);have c:=GT (I:=I) λu a=>h u (fV _ a);rw[Ho];simp only[aV,aI];omega
def Qm{I:List TI}{i:Nat}{t:TI}(h:I[i]?=some t)(w:aa)(b:w=fD t):((I.take i).map fD++List.replicate (I.length - i) []).set i w=(I.take (i+1)).map fD++List.replicate (I.length - (i+1)) []:=by
 have hi:i<I.length:=(qk.1 h).1;obtain⟨k,c⟩:∃k,I.length - i=k+1:=⟨I.length - i - 1,by omega⟩;have a:((I.take i).map fD).length=i:=by simp;omega
 rw[c,vA,show I.length - (i+1)=k by omega,tu,h,b];rw[List.set_append_right _ _ (by omega),a,Ep];simp
def QG{I:List TI}(hs:∀t∈I,OkI t/\itI t false=0)(h:I.length<=1000)(K:Int)(D:TD)(KF:Int)(DF:TD)(KT:Int)(DT:TD)(e l:Bool):∀(r i:Nat),i+r=I.length->∀N,r<N->
  av (fk 20000000) N (len I,(i:Int),I,K,D,KF,DF,KT,DT,e,l,(I.take i).map fD++List.replicate (I.length - i) [])=some (I,K,D,KF,DF,KT,DT,e,l,I.map fD):=by
 intro r
 induction r with
 | zero=>
  intro i hi N f;obtain⟨N,rfl⟩:∃k,N=k+1:=⟨N - 1,by omega⟩;obtain rfl:i=I.length:=by omega
  have:fk 20000000 (len I,(I.length:Int),I,K,D,KF,DF,KT,DT,e,l,(I.take I.length).map fD++List.replicate (I.length - I.length) [])=some (.inr (I,K,D,KF,DF,KT,DT,e,l,I.map fD)):=by
   unfold fk;simp only[u12,u11,u10,u9,u8,u7,u6,u5,u4,u3,u2];rw[au (show¬(I.length:Int)<len I by show¬(I.length:Int)<(I.length:Int);omega),Ep,oC];simp
  rw[av,this]
 | succ r ih=>
  intro i hi N f;obtain⟨N,rfl⟩:∃k,N=k+1:=⟨N - 1,by omega⟩;have a:i<I.length:=by omega
  have b:I[i]?=some I[i]:=ba a;obtain⟨ok,c⟩:=hs _ (tG a);generalize I[i]=t at b ok c;have d:((I.take i).map fD++List.replicate (I.length - i) ([]:aa)).length=I.length:=by simp;omega
  have:fk 20000000 (len I,(i:Int),I,K,D,KF,DF,KT,DT,e,l,(I.take i).map fD++List.replicate (I.length - i) [])=some (.inl (len I,((i+1:Nat):Int),I,K,D,KF,DF,KT,DT,e,l,(I.take (i+1)).map fD++List.replicate (I.length - (i+1)) [])):=by
   unfold fk;simp only[u12,u11,u10,u9,u8,u7,u6,u5,u4,u3,u2];rw[ar (show(i:Int)<len I by show(i:Int)<(I.length:Int);omega),dh a];simp only[ah,ob,b];rw[show ll 20000000 (iF t) (d8 t).2.2.1 (d8 t).2.2.2=some (fD t,0)from(HS (rT t) ok.sm.1 ok.sm.2).trans (by rw[ae (show itE (iF t) (rT t) (iT t) false=0 from c)])];simp only[d];rw[dh a];simp only[];obtain⟨w,g⟩:∃w,((I.take i).map fD++List.replicate (I.length - i) ([]:aa))[i]?=some w:=⟨_,ba (by omega)⟩;rw[g];simp only[u2];rw[Qm b _ rfl,lU (by omega)]
  rw[av,this];exact ih (i+1) (by omega) N (by omega)
structure SetP(K:Int)(D:TD)(KF:Int)(DF:TD)(KT:Int)(DT:TD)(e l:Bool)(I:List TI):Prop where
 kind:K=3\/K=4
 d:D=d0
 kf:KF=0
 df:DF=d0
 kt:KT=0
 dt:DT=d0
 one:1<=I.length
 most:I.length<=256
 its:∀t∈I,itI t (K==4)=0
 set:(setE K e l I).2=0
def Ci{A:Type}{f:Nat->A->Int}:∀{L:List A} {k:Nat},uW f k L=none->∀t∈L,∃i,f i t=0
 | u::L,k,h,t,a=>by
  rw[uW]at h;split at h
  ·cases h
  ·rename_i b;rcases ck.1 a with rfl | a
   ·exact⟨k,Oj.1 b⟩
   ·exact Ci h t a
def JS{A:Type}{f:Nat->A->Int}:∀{L:List A} {k:Nat} {p:Nat×Int},uW f k L=some p->p.2≠0
 | u::L,k,p,h=>by
  rw[uW]at h;split at h
  ·rename_i a;cases h;exact a
  ·exact JS h
def aag{K:Int}{e l:Bool}{n i:Nat}{t:TI}(h:errI K e l n i t=0):itI t (K==4)=0:=by
 unfold errI at h;split at h
 ·rename_i a;exact absurd h a
 ·rename_i a;exact Oj.1 a
def Hq{K:Int}(g:K=3\/K=4){D:TD}{KF:Int}{DF:TD}{KT:Int}{DT:TD}{e l:Bool}{I:List TI}(h:(fA K D KF DF KT DT e l I).2=0):SetP K D KF DF KT DT e l I:=by
 have o:=h;unfold fA at h;rw[ad]at h;split at h
 ·simp at h
 ·rename_i f;rw[ad,ad]at h;split at h
  ·simp at h
  ·split at h
   ·simp at h
   ·unfold AS at h;have k:D=d0/\KF=0/\DF=d0/\KT=0/\DT=d0:=by
     unfold unuB at f;have k1:(K==1)=false:=by rcases g with rfl | rfl<;>rfl
     have k2:(K==2)=false:=by rcases g with rfl | rfl<;>rfl
     have k3:(K==3||(K==4||(decide (I.length=0)&&(!e&&!l))))=true:=by rcases g with rfl | rfl<;>rfl
     rw[k1,k2,k3]at f;generalize j:eqD D d0=z1 at f;generalize q:eqD DF d0=z2 at f;generalize m:eqD DT d0=r at f;simp only[qK,dU,xT,BX,jk,ko,not_or,Bool.not_eq_false,aD,bA]at f;obtain⟨a,⟨b,c⟩,d,e⟩:=f;exact⟨lM.1 (j.trans a),b,lM.1 (q.trans c),d,lM.1 (m.trans e)⟩
    obtain⟨rfl,rfl,rfl,rfl,rfl⟩:=k;cases hs:uW (errI K e l I.length) 0 I with
    | some p=>rw[hs]at h;exact absurd h (JS hs)
    | none=>
     refine⟨g,rfl,rfl,rfl,rfl,rfl,by omega,by omega,λt n=>?_,o⟩;obtain⟨i,hi⟩:=Ci hs t n;exact aag hi
def JM{K:Int}{D:TD}{KF:Int}{DF:TD}{KT:Int}{DT:TD}{e l:Bool}{I:List TI}(p:SetP K D KF DF KT DT e l I)(hs:∀t∈I,smI t):∀t∈I,OkI t/\itI t false=0:=
 λt a=>⟨ZM (hs t a) (p.its t a),(zp (p.its t a)).2.2.2⟩
def Fh(K:Int):Prop:=K=3\/K=4
instance (K:Int):Decidable (Fh K):=inferInstanceAs (Decidable (K=3\/K=4))
def WV{K:Int}{D:TD}{KF:Int}{DF:TD}{KT:Int}{DT:TD}{e l:Bool}{I:List TI}(h:smE D DF DT I):
  rk 20000000 K D KF DF KT DT e l I=some (if Fh K then(if(fA K D KF DF KT DT e l I).2=0 then(vR K e l I,0)else([],(fA K D KF DF KT DT e l I).2))else([],18)):=by
 have c:∀o:Fh K,(ob (jn 20000000 K D KF DF KT DT e l I) λk=>cond (k != 0) (some ([],k)) (cond (decide ((0:Int)<=(len I))&&(decide ((len I)<=(len I))&&decide ((len I)<=(67108864:Int)))) (ob (av (fk 20000000) 20000000 (len I,0,I,K,D,KF,DF,KT,DT,e,l,List.replicate (Int.toNat (len I)) ([]:aa))) (u10 λ_ z _ _ _ _ _ B i a=>ob (iu 20000000 z) (u2 λf b=>cond B (ob (cat f ([46,46]:aa)) λg=>cond i (ob (cat ([46,46]:aa) b) λv=>cond (Nat.ble a.length 140737488355328&&Nat.ble (List.length (Lib.join a ([44]:aa))) 140737488355328) (ob (cat g (Lib.join a ([44]:aa))) λA=>ob (cat A v) λy=>some (y,0)) none) (cond (Nat.ble a.length 140737488355328&&Nat.ble (List.length (Lib.join a ([44]:aa))) 140737488355328) (ob (cat g (Lib.join a ([44]:aa))) λx=>ob (cat x b) λp=>some (p,0)) none)) (cond i (ob (cat ([46,46]:aa) b) λu=>cond (Nat.ble a.length 140737488355328&&Nat.ble (List.length (Lib.join a ([44]:aa))) 140737488355328) (ob (cat f (Lib.join a ([44]:aa))) λs=>ob (cat s u) λq=>some (q,0)) none) (cond (Nat.ble a.length 140737488355328&&Nat.ble (List.length (Lib.join a ([44]:aa))) 140737488355328) (ob (cat f (Lib.join a ([44]:aa))) λr=>ob (cat r b) λC=>some (C,0)) none))))) none)) =
   some (if(fA K D KF DF KT DT e l I).2=0 then(vR K e l I,(0:Int))else([],(fA K D KF DF KT DT e l I).2)):=by
  intro o;rw[yz h];simp only[ob];by_cases j:(fA K D KF DF KT DT e l I).2=0
  ·have P:=Hq o j;have J:=P.most;have oks:=JM P h.2.2.2;have G:=He λt F=>(oks t F).1;rw[ae j,j];have d:=QG oks (by omega) K D KF DF KT DT e l I.length 0 (by omega) 20000000 (by omega);simp only[fU,af];have c3:(decide ((0:Int)<=(len I))&&(decide ((len I)<=(len I))&&decide ((len I)<=(67108864:Int))))=true:=by
    have:len I=(I.length:Int):=rfl;rw[this];simp only[aD,cK];omega
   rw[c3,ah,show(List.replicate (Int.toNat (len I)) ([]:aa))=(I.take 0).map fD++List.replicate (I.length - 0) []from by simp];rw[show av (fk 20000000) 20000000 (len I,(0:Int),I,K,D,KF,DF,KT,DT,e,l,(I.take 0).map fD++List.replicate (I.length - 0) [])=_ from d];have E:(Nat.ble (List.length (I.map fD)) 140737488355328&&Nat.ble (List.length (Lib.join (I.map fD) ([44]:aa))) 140737488355328)=true:=by
    simp only[aD];exact⟨dc (by simp;omega),dc (by omega)⟩
   simp only[u10,u9,u8,u7,u6,u5,u4,u3,u2,Ah o,E,ah];unfold vR;generalize H:(if K=4 then(123:UInt8)else 91)=b1;generalize endC K=b2;generalize Lib.join (I.map fD) [44]=w at G;cases e<;>cases l<;>simp only[ah,af]
   ·rw[dm (by simp only[aI,bU];omega)];simp only[];rw[dm (by simp only[aV,aI,bU];omega)];simp
   ·rw[dm (by simp only[aI,bU];omega)];simp only[];rw[dm (by simp only[aI,bU];omega)];simp only[];rw[dm (by simp only[aV,aI,bU];omega)];simp
   ·rw[dm (by simp only[aI,bU];omega)];simp only[];rw[dm (by simp only[aV,aI,bU];omega)];simp only[];rw[dm (by simp only[aV,aI,bU];omega)];simp
   ·rw[dm (by simp only[aI,bU];omega)];simp only[];rw[dm (by simp only[aI,bU];omega)];simp only[];rw[dm (by simp only[aV,aI,bU];omega)];simp only[];rw[dm (by simp only[aV,aI,bU];omega)];simp
  ·rw[ab j,show((fA K D KF DF KT DT e l I).2 != 0)=true from by simp[j]];rfl
 unfold rk;by_cases n:K=3
 ·rw[show(K != 3)=false from by simp[n],ae (.inl n)];exact c (.inl n)
 ·rw[show(K != 3)=true from by simp[n],ah];by_cases m:K=4
  ·rw[show(K != 4)=false from by simp[m],ae (.inr m)];exact c (.inr m)
  ·rw[show(K != 4)=true from by simp[m],ab (by rintro(h | h)<;>contradiction)];rfl
def MN{K:Int}(b:Fh K){e l:Bool}{I:List TI}(a:1<=I.length)(c:I.length<=256)(ok:∀t∈I,OkI t)(d:(setE K e l I).2=0):Kx (vR K e l I)=.inr (K,e,l,I):=by
 unfold Kx;rw[Na b a c ok d (post:=[]) (by rw[cM,mi])];simp only[];rw[ad]
def ac0{c:UInt8}(h:mkOf c≠0):mt (mkOf c)=[c]:=by
 unfold mkOf at h ⊢;by_cases a:c=63
 ·subst a;rfl
 ·rw[ab a]at h ⊢;by_cases d:c=126
  ·subst d;rfl
  ·rw[ab d]at h ⊢;by_cases b:c=37
   ·subst b;rfl
   ·rw[ab b]at h;exact absurd rfl h
def WY(l:aa):l=mt (mkS l)++l.drop (mkN l):=by
 cases l with
 | nil=>rfl
 | cons c r=>
  unfold mkN;show c::r=mt (mkOf c)++_;by_cases h:mkOf c=0
  ·rw[ae (show mkS (c::r)=0 from h),h];rfl
  ·rw[ab (show¬mkS (c::r)=0 from h),ac0 h];rfl
def LF(S:aa)(p:Nat):S.drop p=mt (mkS (S.drop p))++S.drop (mkE S p):=by
 have:=WY (S.drop p);rw[km]at this;exact this
def PW(S:aa)(p:Nat):mkE S p=p+(mt (mkS (S.drop p))).length:=by
 unfold mkE mkN;have a:=Hi (S.drop p);generalize mkS (S.drop p)=k at *;rcases(by omega:k=0\/k=1\/k=2\/k=3)with rfl | rfl | rfl | rfl<;>rfl
def GK{S:aa}{p:Nat}(h:¬twoN (S.drop p)<2):S.drop p=(S.drop p).take 2++S.drop (p+2)/\((S.drop p).take 2).length=2/\∀c∈(S.drop p).take 2,isDX c=true:=by
 have b:=xX h;have a:twoN (S.drop p)=2:=by
  have:twoN (S.drop p)<=2:=by
   unfold twoN;have:∀(k:Nat) (l:aa),bS isDX k l<=k:=by
    intro k
    induction k with
    | zero=>intro l;cases l<;>simp[bS]
    | succ k ih=>
     intro l;cases l with
     | nil=>simp[bS]
     | cons c r=>
      simp only[bS];split
      ·have:=ih r;omega
      ·omega
   exact this 2 _
  omega
 refine⟨by rw[<-km];exact(vJ 2 _).symm,by simp;omega,?_⟩;have:=Db (p:=isDX) 2 (S.drop p);rw[show bS isDX 2 (S.drop p)=2 from a]at this;exact this
def B6{S:aa}{p:Nat}(h:¬gm 45 (S.drop p)=0):S.drop p=45::S.drop (p+1):=by
 cases a:S.drop p with
 | nil=>rw[a]at h;exact absurd rfl h
 | cons c r=>
  rw[a,l9]at h;by_cases hc:c=45
  ·subst hc;rw[<-km,a];rfl
  ·rw[ab hc]at h;exact absurd rfl h
def xo{S:aa}{p k:Nat}{w:aa}(h:S.drop (mkE S p)=w++S.drop (mkE S p+k)):S.drop p=db (mkS (S.drop p)) (mkS (S.drop (mkE S p+k))) w++S.drop (mkE S (mkE S p+k)):=by
 unfold db;rw[gx,gx,<-LF,<-h,<-LF]
def GO{S:aa}{a:Nat}{g l:Bool}{dg:aa}{x s:Nat}{m d:aa}{M P:Nat×Nat×Nat}{e:Nat}(b:uu S a=.inr (g,l,dg,x,s,m,d,M,P,e)):
  ∃A B,MkD A B m d/\M=spM A B/\P.1=a+(mt A.1).length/\S.drop a=rawD A B g l dg (x:Int) (s:Int) m d++S.drop e:=by
 unfold uu at b;cases hy:sR (S.drop (mkE S a))with
 | inl k=>rw[hy]at b;cases b
 | inr y=>
  obtain⟨F,J,q,D,s',k⟩:=y;obtain⟨E,Q,_⟩:=uj hy;have N:S.drop (mkE S a)=fZ F J q (D:Int) (s':Int)++S.drop (mkE S a+k):=by
   rw[<-E,<-km];exact(vJ k _).symm
  have w0:=xo N;have c:=λp=>Hi (S.drop p);rw[hy]at b;simp only[]at b;by_cases t:0<s'\/gm 45 (S.drop (mkE S (mkE S a+k)))=0
  ·rw[ae t]at b;simp only[qY,bP]at b;obtain⟨rfl,rfl,rfl,rfl,rfl,rfl,rfl,rfl,rfl,rfl⟩:=b;refine⟨(mkS (S.drop a),0,0),(mkS (S.drop (mkE S a+k)),0,0),⟨c _,by simp,by simp,c _,by simp,by simp,λ_=>⟨rfl,rfl⟩,λ_=>⟨rfl,rfl⟩⟩,rfl,PW S a,?_⟩;unfold rawD;simpa using w0
  ·rw[ab t]at b;have w:=B6 (λh=>t (.inr h));unfold rd2 at b;simp only[]at b;generalize L:mkE S (mkE S a+k)=i at *;by_cases r:twoN (S.drop (mkE S (i+1)))<2
   ·rw[ae r]at b;cases b
   rw[ab r]at b;obtain⟨I,z,O⟩:=GK r;have v:=xo I;have f:(S.drop (mkE S (i+1))).take 2≠[]:=λh=>by rw[h]at z;simp at z
   by_cases o:gm 45 (S.drop (mkE S (mkE S (i+1)+2)))=0
   ·rw[ae o]at b;simp only[qY,bP]at b;obtain⟨rfl,rfl,rfl,rfl,rfl,rfl,rfl,rfl,rfl,rfl⟩:=b;refine⟨(mkS (S.drop a),mkS (S.drop (i+1)),0),(mkS (S.drop (mkE S a+k)),mkS (S.drop (mkE S (i+1)+2)),0),⟨c _,c _,by simp,c _,c _,by simp,λh=>absurd h f,λ_=>⟨rfl,rfl⟩⟩,rfl,PW S a,?_⟩;unfold rawD;rw[ab f,ae rfl,mi,gx,fK,<-v,<-w];exact w0
   ·rw[ab o]at b;have C:=B6 o;unfold rd3 at b;generalize G:mkE S (mkE S (i+1)+2)=n at *;by_cases u:twoN (S.drop (mkE S (n+1)))<2
    ·rw[ae u]at b;cases b
    rw[ab u]at b;obtain⟨H,u2,u3⟩:=GK u;have K:=xo H;have j:(S.drop (mkE S (n+1))).take 2≠[]:=λh=>by rw[h]at u2;simp at u2
    simp only[qY,bP]at b;obtain⟨rfl,rfl,rfl,rfl,rfl,rfl,rfl,rfl,rfl,rfl⟩:=b;refine⟨(mkS (S.drop a),mkS (S.drop (i+1)),mkS (S.drop (n+1))),(mkS (S.drop (mkE S a+k)),mkS (S.drop (mkE S (i+1)+2)),mkS (S.drop (mkE S (n+1)+2))),⟨c _,c _,c _,c _,c _,c _,λh=>absurd h f,λh=>absurd h j⟩,rfl,PW S a,?_⟩;unfold rawD;rw[ab f,ab j,gx,gx,fK,fK,<-K,<-C,<-v,<-w];exact w0
def okC(c:UInt8):Bool:=isDX c||(isMk c||(c==45||(c==89||(c==69||c==83))))
def isLv(c:UInt8):Bool:=c==69||(c==83||isMk c)
def Wu:∀c:UInt8,(!okC c||decide (c.toNat<128))=true:=gO (λc=>!okC c||decide (c.toNat<128)) (by decide +kernel)
def ZB{c:UInt8}(h:okC c=true):c.toNat<128:=by
 have:=Wu c;rw[h]at this;simpa using this
def dgC(c:UInt8):UInt8:=if bv c then 100 else c
def Y0:∀c:UInt8,(!decide (c.toNat<128)||(decide (0<=rD (c.toNat:Int))&&(Lib.encodeRune (rD (c.toNat:Int))==[dgC c])))=true:=
 gO (λc=>!decide (c.toNat<128)||(decide (0<=rD (c.toNat:Int))&&(Lib.encodeRune (rD (c.toNat:Int))==[dgC c]))) (by decide +kernel)
def Md:∀{l:aa},(∀c∈l,c.toNat<128)->BM l=l.map dgC:=by
 have a:∀(n:Nat) (l:aa),l.length=n->(∀c∈l,c.toNat<128)->Lib.mapGoD rD n l=l.map dgC:=by
  intro n
  induction n with
  | zero=>intro l b _;rw[vi b];rfl
  | succ n ih=>
   intro l b h;cases l with
   | nil=>simp at b
   | cons c r=>
    have e:Lib.decodeL (c::r)=(c.toNat,1):=Dp (l:=c::r) (i:=0) rfl (h c kY);rw[Lib.mapGoD,ab (by simp),e];have:=Y0 c;rw[ar (h c kY)]at this;simp only[dU,qK,aD,cK,bA]at this;rw[ae this.1,this.2];rw[show(c::r).drop 1=r from rfl,ih r (by simpa using b) (λd e=>h d (fV _ e))];rfl
 intro l h;exact a l.length l rfl h
def AL(s a:aa):Lib.containsAny s a=s.any (a.contains ·):=by
 induction s with
 | nil=>rfl
 | cons b l ih=>
  unfold Lib.containsAny at ih ⊢;have d:=Lib.indexAny_ge a l;rw[Lib.indexAny,qG];cases c:a.contains b
  ·rw[ab (by simp),qK,<-ih];by_cases h:Lib.indexAny l a=-1
   ·rw[ae (by simp[h]),h]
   ·rw[ab (by simp[h])];congr 1;exact propext (by omega)
  ·simp
def xi(u:aa):aa:=match u with | c::r=>if c=45 then r else c::r | []=>[]
def lu:List (aa):=[[100,100,100,88],[100,100,88,88],[100,100,100,100,45,88,88],[100,100,100,100,45,100,100,45,88,88],[100,100,100,100,45,88,88,45,88,88]]
def simB(v:aa):Bool:=lu.contains (v.map dgC)
def UB(n:Nat)(u:aa):kh n u=some (xi u):=by
 unfold kh gU ge xi;cases u with
 | nil=>rfl
 | cons c r=>
  have a:bx (c::r).length (1:Int)=some 1:=de (i:=1) (by simp);rw[ar (show(((c::r).length:Nat):Int)>=1 by rw[aI];omega),ah,a];simp only[ob,ox,oq,cM];by_cases hc:c=45
  ·subst hc;rw[ae rfl];simp
  ·rw[ab hc,show(([c]:aa)==[45])=false from by simp[hc]];rfl
def adc(n:Nat)(u:aa):dA n u=some (decide (u.head?=some 89)):=by
 unfold dA gj;cases u with
 | nil=>rfl
 | cons c r=>
  have a:bx (c::r).length (1:Int)=some 1:=de (i:=1) (by simp);rw[ar (show(((c::r).length:Nat):Int)>=1 by rw[aI];omega),ah,a];simp only[ob,ox,oq,cM,qU,aw];rw[show(([c]:aa)==[89])=decide (c=89)from by rw[mL];simp]
def BB(v:aa):dT 20000000 v lu=some (lu.contains v):=by
 have c:∀(r i:Nat),i+r=5->∀N,r<N->av (bH 20000000) N (v,5,(i:Int),lu)=some (if(lu.drop i).contains v then .inl ((i+(lu.drop i).idxOf v:Nat):Int)else .inr ()):=by
  intro r
  induction r with
  | zero=>
   intro i hi N e;obtain⟨N,rfl⟩:∃k,N=k+1:=⟨N - 1,by omega⟩;obtain rfl:i=5:=by omega
   rw[av];rfl
  | succ r ih=>
   intro i hi N e;obtain⟨N,rfl⟩:∃k,N=k+1:=⟨N - 1,by omega⟩;have a:i<lu.length:=by show i<5;omega
   have d:=ba a;have:bH 20000000 (v,5,(i:Int),lu)=some (if v=lu[i]then .inr (.inl (i:Int))else .inl (v,5,((i+1:Nat):Int),lu)):=by
    unfold bH;simp only[];rw[ar (show(i:Int)<5 by omega),ah,dh a];simp only[ob,d];rw[show wrap .i64 ((i:Int)+1)=((i+1:Nat):Int)from lU (by omega),iQ];split<;>rfl
   rw[av,this,qj a];by_cases b:v=lu[i]
   ·rw[ae b];simp only[];rw[<-b];simp
   ·rw[ab b];simp only[];rw[ih (i+1) (by omega) N (by omega)];have g:(lu[i]==v)=false:=by simp;exactλh=>b h.symm
    have f:(v==lu[i])=false:=by simp;exact b
    rw[List.contains_cons,f,qK,List.idxOf_cons,g];simp only[af];rw[show i+1+List.idxOf v (List.drop (i+1) lu)=i+(List.idxOf v (List.drop (i+1) lu)+1)by omega]
 have:=c 5 0 rfl 20000000 (by omega);unfold dT fW;rw[show av (bH 20000000) 20000000 (v,(lu.length:Int),0,lu)=_ from this];rw[cM];cases h:lu.contains v
 ·rfl
 ·simp only[aS,ob];rw[rM]
def lvl(u:aa)(b X:Bool)(code:Int):Int:=
 if u.any isLv then 2 else if 24<code then 2 else if(X&&!simB (xi u))=true then 2
 else if b=true\/X=true\/0<code\/u.head?=some 45\/u.head?=some 89 then 1 else 0
structure Body(T u:aa)(k:Nat):Prop where
 eq:T=u++mt k
 k4:k<4
 last:∃v z,u=v++[z]/\isMk z=false
 asc:∀c∈T,c.toNat<128
 len:T.length<=1000
def Body.ne{T u:aa}{k:Nat}(h:Body T u k):u≠[]:=by
 obtain⟨v,z,rfl,_⟩:=h.last;simp
def Body.ascu{T u:aa}{k:Nat}(h:Body T u k):∀c∈u,c.toNat<128:=λc hc=>h.asc c (by rw[h.eq];exact List.mem_append_left _ hc)
def Body.lenu{T u:aa}{k:Nat}(h:Body T u k):u.length<=1000:=by
 have:=h.len;rw[h.eq,aV]at this;omega
def VL(c:UInt8):([63,126,37]:aa).contains c=isMk c:=by
 have:=gO (λc=>([63,126,37]:aa).contains c==isMk c) (by decide +kernel) c;simpa using this
def acD{k:Nat}(h:k<4):∀c∈mt k,isMk c=true/\c≠69/\c≠83/\c≠88:=by
 rcases(by omega:k=0\/k=1\/k=2\/k=3)with rfl | rfl | rfl | rfl<;>simp[mt,isMk,mkOf]
def NI{p:UInt8->Bool}:∀{l:aa},(∀c∈l,p c=true)->l.dropWhile p=[]
 | [],_=>rfl
 | c::l,h=>by rw[List.dropWhile_cons,h c kY];exact NI λd a=>h d (fV _ a)
def tM{T u:aa}{k:Nat}(h:Body T u k):Lib.trimRightS T [63,126,37]=u:=by
 obtain⟨v,z,rfl,b⟩:=h.last;unfold Lib.trimRightS;rw[h.eq,List.reverse_append,List.reverse_append];have:List.dropWhile (λx=>([63,126,37]:aa).contains x) ((mt k).reverse++([z].reverse++v.reverse))=[z].reverse++v.reverse:=by
  rw[List.dropWhile_append];have a:List.dropWhile (λx=>([63,126,37]:aa).contains x) (mt k).reverse=[]:=by
   refine NI λc hc=>?_;rw[VL];exact(acD h.k4 c (HO.1 hc)).1
  rw[a];simp only[List.isEmpty_nil,aS,List.reverse_singleton,It];rw[List.dropWhile_cons,VL,b];simp
 rw[this];simp
def Z6(c:UInt8):([63,126,37,69,83]:aa).contains c=isLv c:=by
 have:=gO (λc=>([63,126,37,69,83]:aa).contains c==isLv c) (by decide +kernel) c;simpa using this
def R2(u:aa):(u==xi u)=!decide (u.head?=some 45):=by
 unfold xi;cases u with
 | nil=>rfl
 | cons c r=>
  simp only[qU,aw];by_cases hc:c=45
  ·subst hc;rw[ae rfl,ar rfl];simp only[dU,aL,ne_eq];intro h;have:=cf List.length h;simp at this
  ·rw[ab hc,au hc];simp
def OM(u:aa):(xi u).length<=u.length:=by
 unfold xi;split
 ·split<;>simp
 ·simp
def RG{u:aa}:∀c∈xi u,c∈u:=by
 unfold xi;split
 ·split
  ·intro c hc;exact fV _ hc
  ·intro c hc;exact hc
 ·intro c hc;exact hc
def DX{T u:aa}{k:Nat}(h:Body T u k):(u==T)=decide (k=0):=by
 rw[h.eq];rcases(by have:=h.k4;omega:k=0\/k=1\/k=2\/k=3)with rfl | rfl | rfl | rfl
 ·simp[mt]
 all_goals
  rw[show decide _=false from rfl,aL];intro e;have:=cf List.length e;simp[mt]at this
def acl{T u:aa}{k:Nat}(h:Body T u k){x:TD}(hs:smT x):kP 20000000 T x=some (lvl u (decide (k≠0)) (hasX x.2.2.1||(hasX x.2.2.2.2.2.1||hasX x.2.2.2.2.2.2.1)) (seT x)):=by
 have i:ap10 (bJ 20000000) x=some (seT x,decide (0<seT x)):=rH 20000000 _ _ _ _ _ _ _ _ _ _ hs.1;have m:=h.len;have l:=h.lenu;have j:=OM u;have g:Ai T [63,126,37]=true:=by
  unfold Ai;rw[dc (by omega)];rfl
 have f:D6 (xi u)=true:=dc (by omega);have c3:zW u [63,126,37,69,83]=true:=by
  unfold zW;rw[dc (show u.length<=4294967280 by omega)];have:QH u=true:=cb.2 λc hc=>dc (h.ascu c hc);rw[this];rfl
 unfold kP;rw[i,fmT hs];simp only[ob,u2,g,ah,tM h,UB,f,c3,Md (λc hc=>h.ascu c (RG c hc)),AL,Z6,adc];rw[show([[100,100,100,88],[100,100,88,88],[100,100,100,100,45,88,88],[100,100,100,100,45,100,100,45,88,88],[100,100,100,100,45,88,88,45,88,88]]:List aa)=lu from rfl,BB];simp only[R2,DX h,Bool.not_not];unfold lvl simB;rw[show(List.any u λx=>isLv x)=u.any isLv from rfl];generalize(hasX x.2.2.1||(hasX x.2.2.2.2.2.1||hasX x.2.2.2.2.2.2.1))=X;generalize lu.contains ((xi u).map dgC)=F;cases u.any isLv
 ·simp only[af,bI,aF];by_cases b:24<seT x
  ·rw[ae b,ar (show 0<seT x by omega),ar (show seT x>=25 by omega)];rfl
  ·rw[ab b,au (show¬seT x>=25 by omega)];have a:(cond (decide (u.head?=some 45)) (some (1:Int)) (cond (decide (u.head?=some 89)) (some 1) (cond (!decide (k=0)) (some 1) (cond (decide (0<seT x)) (some 1) (cond X (some 1) (some 0))))))=some (if decide (k≠0)=true\/X=true\/0<seT x\/u.head?=some 45\/u.head?=some 89 then 1 else 0):=by
    by_cases a1:u.head?=some 45
    ·rw[ar a1,ae (by simp[a1])];rfl
    rw[au a1];by_cases a2:u.head?=some 89
    ·rw[ar a2,ae (by simp[a2])];rfl
    rw[au a2];by_cases d:k=0
    ·rw[ar d];by_cases e:0<seT x
     ·rw[ar e,ae (by simp[e])];rfl
     rw[au e];cases X
     ·rw[ab (by simp[a1,a2,d,e])];rfl
     ·rw[ae (by simp)];rfl
    ·rw[au d,ae (by simp[d])];rfl
   cases X
   ·simp only[af,yh,bI,aF];simp only[af,bI]at a;rw[<-a];cases decide (0<seT x)<;>rfl
   ·cases F
    ·cases decide (0<seT x)<;>rfl
    ·simp only[ah,dU,af,BP,bI,aF];simp only[ah]at a;rw[<-a];cases decide (0<seT x)<;>rfl
 ·rfl
def GB:aa->Int->Int->Option (Int×Int)
 | [],x,m=>some (x,m)
 | c::r,x,m=>if c=69\/c=83\/(isMk c=true/\r≠[])then none else GB r (if c=88 then 1 else x) (if isMk c=true then 1 else m)
def abS(c:UInt8):eD 20000000 (c.toNat:Int)=some ((mkOf c:Nat):Int):=(Q4 19999700 c).2
def TO(c:UInt8):decide (((mkOf c:Nat):Int)>0)=isMk c:=by
 unfold isMk;by_cases h:0<mkOf c
 ·rw[ar h,rM]
 ·rw[au h,au (by omega)]
def OQ{T:aa}(v:T.length<=1000)(x:TD):∀(r i:Nat) (a m:Int),i+r=T.length->∀N,r<N->
  av (dI 20000000) N (T,a,m,(i:Int),x)=some (match GB (T.drop i) a m with | some p=>.inr (T,p.1,p.2,x) | none=>.inl 2):=by
 intro r
 induction r with
 | zero=>
  intro i a m hi N s;obtain⟨N,rfl⟩:∃k,N=k+1:=⟨N - 1,by omega⟩;obtain rfl:i=T.length:=by omega
  have:dI 20000000 (T,a,m,(T.length:Int),x)=some (.inr (.inr (T,a,m,x))):=by
   unfold dI;simp only[u5,u4,u3,u2];rw[au (show¬(T.length:Int)<len T by show¬(T.length:Int)<(T.length:Int);omega)];rfl
  rw[av,this,tg];rfl
 | succ r ih=>
  intro i a m hi N s;obtain⟨N,rfl⟩:∃k,N=k+1:=⟨N - 1,by omega⟩;have f:i<T.length:=by omega
  have o:T[i]?=some T[i]:=ba f;rw[av,qj f,GB];generalize T[i]=c at o ⊢;have q:T.drop (i+1)≠[]↔i+1<T.length:=by
   rw[ne_eq,List.drop_eq_nil_iff];omega
  have j:((c.toNat:Int)==69)=decide (c=69):=uS c 69 (by decide);have l:((c.toNat:Int)==83)=decide (c=83):=uS c 83 (by decide);have g:((c.toNat:Int)==88)=decide (c=88):=uS c 88 (by decide);have t:w64 (len T - 1)=((T.length - 1:Nat):Int):=Il (by omega) (by omega);have:dI 20000000 (T,a,m,(i:Int),x)=some (if c=69\/c=83\/(isMk c=true/\T.drop (i+1)≠[])then .inr (.inl 2)else .inl (T,if c=88 then 1 else a,if isMk c=true then 1 else m,((i+1:Nat):Int),x)):=by
   unfold dI;simp only[u5,u4,u3,u2];rw[ar (show(i:Int)<len T by show(i:Int)<(T.length:Int);omega)];simp only[ah,ob,fh o,j,l,g,abS,TO,t];rw[lU (by omega)];by_cases d:c=69
   ·rw[ar d,ae (.inl d)];rfl
   rw[au d];by_cases e:c=83
   ·rw[ar e,ae (.inr (.inl e))];rfl
   rw[au e];simp only[af];cases u:isMk c
   ·rw[ab (by simp[d,e])];simp only[af,bI,aF];by_cases b:c=88
    ·rw[ar b,ae b];rfl
    ·rw[au b,ab b];rfl
   ·simp only[ah,aS];by_cases n:i+1<T.length
    ·rw[ar (show(i:Int)<((T.length - 1:Nat):Int)by omega),ae (.inr (.inr ⟨trivial,q.2 n⟩))];rfl
    ·rw[au (show¬(i:Int)<((T.length - 1:Nat):Int)by omega),ab (by
      rintro(h | h | ⟨_,h⟩)
      ·exact d h
      ·exact e h
      ·exact n (q.1 h))]
     by_cases b:c=88
     ·rw[ar b,ae b];rfl
     ·rw[au b,ab b];rfl
  rw[this];by_cases hc:c=69\/c=83\/(isMk c=true/\T.drop (i+1)≠[])
  ·rw[ae hc,ae hc]
  ·rw[ab hc,ab hc];exact ih (i+1) _ _ (by omega) N (by omega)
def FD:∀(v:aa) (w:aa) (a:Int),w≠[]->GB (v++w) a 0=if v.any isLv then none else GB w (if v.any (·==88)then 1 else a) 0
 | [],w,a,_=>by simp
 | c::v,w,a,d=>by
  rw[fK,GB,qG,qG];have e:v++w≠[]:=by
   intro h;exact d (List.append_eq_nil_iff.1 h).2
  by_cases hc:isLv c=true
  ·have:c=69\/c=83\/(isMk c=true/\v++w≠[]):=by
    unfold isLv at hc;simp only[jk,bA]at hc;rcases hc with h | h | h
    ·exact .inl h
    ·exact .inr (.inl h)
    ·exact .inr (.inr ⟨h,e⟩)
   rw[ae this,hc];simp
  ·have hc':isLv c=false:=by simpa using hc
   have f:c≠69/\c≠83/\isMk c=false:=by
    unfold isLv at hc';simp only[qt,aL]at hc';exact hc'
   rw[ab (by rintro(h | h | ⟨h,_⟩)<;>simp_all),f.2.2,hc'];simp only[bI,aF,qK];rw[FD v w _ d];by_cases b:c=88
   ·subst b;simp
   ·rw[ab b,show(c==88)=false from by simp[b],qK]
def aa4{T u:aa}{k:Nat}(h:Body T u k):GB T 0 0=if u.any isLv then none else some (if u.any (·==88)then 1 else 0,if k=0 then 0 else 1):=by
 obtain⟨v,z,rfl,d⟩:=h.last;rw[h.eq,gx,FD v _ 0 (by simp)];rw[rf,rf];cases v.any isLv
 ·simp only[bI,aF,qK,qG,List.any_nil,xT,It];rw[GB,d];by_cases a:z=69
  ·subst a;simp[isLv]
  by_cases b:z=83
  ·subst b;simp[isLv]
  have e:isLv z=false:=by unfold isLv;rw[d];simp[a,b]
  rw[ab (by simp[a,b]),e];simp only[bI,aF];have hx:(if z=88 then(1:Int)else if(v.any λx=>x==88)=true then 1 else 0)=if((v.any λx=>x==88)||z==88)=true then 1 else 0:=by
   by_cases c:z=88
   ·subst c;simp
   ·rw[ab c,show(z==88)=false from by simp[c],xT]
  rw[hx];rcases(by have:=h.k4;omega:k=0\/k=1\/k=2\/k=3)with rfl | rfl | rfl | rfl<;>rfl
 ·simp
def Ae(f:aa)(u:∀c∈f,c=100\/c=88\/c=45)(v:f.length<=1000)(t:aa):bm 20000000 t f=some (if t.map dgC=f then 1 else 0):=by
 unfold bm;rw[show(len t != len f)=!decide (t.length=f.length)from cf _ (natB _ _)];by_cases l:t.length=f.length
 case neg=>
  rw[au l,ab (λh=>l (by rw[<-h];simp))];rfl
 rw[ar l];have loop:∀(r i:Nat),i+r=t.length->∀N,r<N->av (eG 20000000) N (t,f,(i:Int))=some (if(t.drop i).map dgC=f.drop i then .inr ()else .inl 0):=by
  intro r
  induction r with
  | zero=>
   intro i hi N w;obtain⟨N,rfl⟩:∃k,N=k+1:=⟨N - 1,by omega⟩;obtain rfl:i=t.length:=by omega
   have:eG 20000000 (t,f,(t.length:Int))=some (.inr (.inr ())):=by
    unfold eG;simp only[u3,u2];rw[au (show¬(t.length:Int)<len t by show¬(t.length:Int)<(t.length:Int);omega)];rfl
   rw[av,this,tg,l,tg];rfl
  | succ r ih=>
   intro i hi N w;obtain⟨N,rfl⟩:∃k,N=k+1:=⟨N - 1,by omega⟩;have j:i<t.length:=by omega
   have g:i<f.length:=by omega
   have q:t[i]?=some t[i]:=ba j;have n:f[i]?=some f[i]:=ba g;have s:=u _ (tG g);rw[av,qj j,qj g,gW];generalize t[i]=c at q ⊢;generalize f[i]=d at n s ⊢;have a:(dgC c=d)↔(c=d\/(d=100/\bv c=true)):=by
    unfold dgC;by_cases h:bv c=true
    ·rw[ae h];constructor
     ·intro e;exact .inr ⟨e.symm,h⟩
     ·rintro(e | ⟨e,_⟩)
      ·subst e;rcases s with rfl | rfl | rfl
       ·rfl
       ·exact absurd h (by decide)
       ·exact absurd h (by decide)
      ·exact e.symm
    ·rw[ab h];constructor
     ·intro e;exact .inl e
     ·rintro(e | ⟨_,e⟩)
      ·exact e
      ·exact absurd e h
   have b:bv c=(decide (48<=c.toNat)&&decide (c.toNat<=57)):=by
    have:=gO (λc=>bv c==(decide (48<=c.toNat)&&decide (c.toNat<=57))) (by decide +kernel) c;simpa using this
   have:eG 20000000 (t,f,(i:Int))=some (if dgC c=d then .inl (t,f,((i+1:Nat):Int))else .inr (.inl 0)):=by
    unfold eG;simp only[u3,u2];rw[ar (show(i:Int)<len t by show(i:Int)<(t.length:Int);omega)];simp only[ah,ob,fh q,fh n];rw[lU (by omega),show((c.toNat:Int) != (d.toNat:Int))=!(c==d)from cf _ (qm c d),show((d.toNat:Int)==100)=decide (d=100)from uS d 100 (by decide)];by_cases e:c=d
    ·rw[ae (a.2 (.inl e)),show(c==d)=true from by simp[e]];rfl
    ·rw[show(c==d)=false from by simp[e]];by_cases m:d=100
     ·rw[ar m];simp only[kH,ah];by_cases p:48<=c.toNat
      ·rw[ar (show(c.toNat:Int)>=48 by omega)];by_cases o:c.toNat<=57
       ·rw[ar (show(c.toNat:Int)<=57 by omega),ae (a.2 (.inr ⟨m,by rw[b];simp[p,o]⟩))];rfl
       ·rw[au (show¬(c.toNat:Int)<=57 by omega),ab (λh=>by
         rcases a.1 h with h | ⟨_,h⟩
         ·exact e h
         ·rw[b]at h;simp[o]at h)];rfl
      ·rw[au (show¬(c.toNat:Int)>=48 by omega),ab (λh=>by
        rcases a.1 h with h | ⟨_,h⟩
        ·exact e h
        ·rw[b]at h;simp[p]at h)];rfl
     ·rw[au m,ab (λh=>by
       rcases a.1 h with h | ⟨h,_⟩
       ·exact e h
       ·exact m h)];rfl
   rw[this];by_cases e:dgC c=d
   ·rw[ae e];simp only[];rw[ih (i+1) (by omega) N (by omega),e];simp
   ·rw[ab e,ab (λh=>e (List.cons.inj h).1)]
 have:=loop t.length 0 (by omega) 20000000 (by omega);rw[show((0:Nat):Int)=0 from rfl,cM,cM]at this;rw[this];split<;>rfl
def Q8(t:aa):(w64 ((w64 ((w64 ((w64 ((if t.map dgC=[100,100,100,88]then(1:Int)else 0)+(if t.map dgC=[100,100,88,88]then(1:Int)else 0)))+(if t.map dgC=[100,100,100,100,45,88,88]then(1:Int)else 0)))+(if t.map dgC=[100,100,100,100,45,100,100,45,88,88]then(1:Int)else 0)))+(if t.map dgC=[100,100,100,100,45,88,88,45,88,88]then(1:Int)else 0))==0)=!simB t:=by
 unfold simB lu;simp only[List.contains_cons,List.contains_nil,xT];have e:∀f:aa,(t.map dgC=f)=((t.map dgC==f)=true):=λf=>by simp
 simp only[e];generalize(t.map dgC==[100,100,100,88])=z1;generalize(t.map dgC==[100,100,88,88])=z2;generalize(t.map dgC==[100,100,100,100,45,88,88])=b;generalize(t.map dgC==[100,100,100,100,45,100,100,45,88,88])=a;generalize(t.map dgC==[100,100,100,100,45,88,88,45,88,88])=c;cases z1<;>cases z2<;>cases b<;>cases a<;>cases c<;>rfl
def Zv(t:aa):bm 20000000 t [100,100,100,88]=some (if t.map dgC=[100,100,100,88]then 1 else 0):=Ae _ (by decide) (by decide) t
def aa6(t:aa):bm 20000000 t [100,100,88,88]=some (if t.map dgC=[100,100,88,88]then 1 else 0):=Ae _ (by decide) (by decide) t
def abw(t:aa):bm 20000000 t [100,100,100,100,45,88,88]=some (if t.map dgC=[100,100,100,100,45,88,88]then 1 else 0):=Ae _ (by decide) (by decide) t
def aae(t:aa):bm 20000000 t [100,100,100,100,45,100,100,45,88,88]=some (if t.map dgC=[100,100,100,100,45,100,100,45,88,88]then 1 else 0):=Ae _ (by decide) (by decide) t
def Zy(t:aa):bm 20000000 t [100,100,100,100,45,88,88,45,88,88]=some (if t.map dgC=[100,100,100,100,45,88,88,45,88,88]then 1 else 0):=Ae _ (by decide) (by decide) t
def WJ{T u:aa}{k:Nat}(h:Body T u k){g l:Bool}{dg:aa}{e q:Nat}{m d:aa}{M P:Nat×Nat×Nat}{p:Nat}(J:uu T 0=.inr (g,l,dg,e,q,m,d,M,P,p)):
  fp 20000000 T=some (lvl u (decide (k≠0)) (u.any (·==88)) (sea m)):=by
 have K:=h.len;obtain⟨Q,_,C⟩:=Jd 19999700 T 0 (by omega) (by omega) (by omega);rw[show 19999700+300=20000000 from rfl,J,show((0:Nat):Int)=0 from rfl]at C;have j:=OQ K (g,l,dg,(e:Int),(q:Int),m,d,(M.1:Int),(M.2.1:Int),(M.2.2:Int)) T.length 0 0 0 (by omega) 20000000 (by omega);rw[show((0:Nat):Int)=0 from rfl,cM,aa4 h]at j;unfold fp;rw[C];simp only[ob,aby];rw[show av (dI 20000000) 20000000 (T,0,0,0,iF (g,l,dg,(e:Int),(q:Int),m,d,(M.1:Int),(M.2.1:Int),(M.2.2:Int),Q,T,(p:Int),(0:Int)))=_ from j];have z:∃c r,u=c::r:=by
  cases f:u with
  | nil=>exact absurd f h.ne
  | cons c r=>exact⟨c,r,rfl⟩
 have y:ap10 (aC 20000000) (iF (g,l,dg,(e:Int),(q:Int),m,d,(M.1:Int),(M.2.1:Int),(M.2.2:Int),Q,T,(p:Int),(0:Int)))=some (sea m):=rsT _;unfold lvl;cases u.any isLv
 case true=>rfl
 simp only[bI,aF,obs,sm,ob,u4,u3,u2];rw[y];simp only[ob];by_cases b:24<sea m
 ·rw[ae b,show decide (sea m>24)=true from ar b];rfl
 rw[ab b,show decide (sea m>24)=false from au b,af];have I:=h.k4;have s:=cf List.length h.eq;rw[aV]at s;have o:bx T.length (w64 ((len T) - (if k=0 then(0:Int)else 1)))=some u.length:=by
  have:w64 ((len T) - (if k=0 then(0:Int)else 1))=(u.length:Int):=by
   have G:len T=(T.length:Int):=rfl;rw[G,s];show wrap .i64 _=_;rw[wrap_i64 _ (by split<;>omega) (by split<;>omega)];rcases(by omega:k=0\/k=1\/k=2\/k=3)with rfl | rfl | rfl | rfl<;>simp[mt]
  rw[this,de (by omega)]
 have v:List.take u.length T=u:=by rw[h.eq,Ar]
 rw[o];simp only[cM,v];obtain⟨c,r,f⟩:=z;have A:sx u (0:Int)=some c:=by rw[f];rfl
 have B:sx T (0:Int)=some c:=by rw[h.eq,f];rfl
 have n:xi u=if c=45 then r else u:=by rw[f];rfl
 have H:u.head?=some c:=by rw[f];rfl
 have b1:bx u.length (1:Int)=some 1:=de (i:=1) (by rw[f];simp);have w:List.drop 1 (List.take u.length u)=r:=by rw[oC,f];rfl
 rw[A,B,b1];simp only[w,ob,Zv,aa6,abw,aae,Zy,Q8];rw[show((c.toNat:Int)==45)=decide (c=45)from uS c 45 (by decide),show((c.toNat:Int)==89)=decide (c=89)from uS c 89 (by decide),H];have a:(cond ((if(u.any λx=>x==88)=true then(1:Int)else 0)==1) (some (1:Int)) (cond ((if k=0 then(0:Int)else 1)==1) (some 1) (cond (decide (sea m>0)) (some 1) (cond (decide (c=45)) (some 1) (cond (decide (c=89)) (some 1) (some 0)))))) =
   some (if decide (k≠0)=true\/(u.any λx=>x==88)=true\/0<sea m\/some c=some 45\/some c=some 89 then 1 else 0):=by
  cases(u.any λx=>x==88)
  ·by_cases a1:k=0
   ·by_cases a2:0<sea m
    ·simp[a1,a2]
    ·by_cases E:c=45
     ·simp[a1,a2,E]
     ·by_cases D:c=89
      ·simp[a1,a2,D]
      ·simp[a1,a2,E,D]
   ·simp[a1]
  ·simp
 by_cases hc:c=45
 ·rw[ar hc,ah];rw[n,ae hc];rw[ar hc]at a;cases t:(u.any λx=>x==88)
  ·rw[t]at a;simp only[yh,bI,aF,show((0:Int)==1)=false from rfl,af]at a ⊢;exact a
  ·rw[t]at a;cases F:simB r
   ·simp
   ·simp only[aS,show((1:Int)==1)=true from rfl,ah,af,dU,BP,bI,aF]at a ⊢;exact a
 ·rw[au hc,af];rw[n,ab hc];rw[au hc]at a;cases t:(u.any λx=>x==88)
  ·rw[t]at a;simp only[yh,bI,aF,show((0:Int)==1)=false from rfl,af]at a ⊢;exact a
  ·rw[t]at a;cases F:simB u
   ·simp
   ·simp only[aS,show((1:Int)==1)=true from rfl,ah,af,dU,BP,bI,aF]at a ⊢;exact a
def s7{k:Nat}(h:k<4):(mt k).all okC=true:=by
 rcases(by omega:k=0\/k=1\/k=2\/k=3)with rfl | rfl | rfl | rfl<;>decide
def x_mk{k:Nat}(h:k<4):(mt k).any (·==88)=false:=by
 rcases(by omega:k=0\/k=1\/k=2\/k=3)with rfl | rfl | rfl | rfl<;>decide
def ZV:((List.range 100).all λk=>(Lib.decDigits k).all λc=>okC c&&(!isMk c&&!(c==88)))=true:=by decide +kernel
def Gp{k:Nat}(h:k<100){letter:UInt8}(a:letter=69\/letter=83):(eQ letter k).all (λc=>okC c&&(!isMk c&&!(c==88)))=true:=by
 unfold eQ;split
 ·rw[oL,(cb.1 ZV) k (il.2 h)];rcases a with rfl | rfl<;>decide
 ·rfl
def NW{c:UInt8}(h:isDX c=true):okC c=true:=by unfold okC;rw[h];rfl
def vB{g l:Bool}{dg:aa}{x q:Nat}(h:okY g l dg (x:Int) (q:Int)):fZ g l dg (x:Int) (q:Int)≠[]/\(∀c∈fZ g l dg (x:Int) (q:Int),okC c=true/\isMk c=false)/\(fZ g l dg (x:Int) (q:Int)).any (·==88)=hasX dg:=by
 obtain⟨m,n,k,o,e,p⟩:=gR h;have hx:x<100:=by omega
 have f:q<100:=by omega
 have a:=Gp hx (letter:=69) (.inl rfl);have d:=Gp f (letter:=83) (.inr rfl);have b:=Ce h;have j:dg≠[]:=by
  rintro rfl;simp at e
 rw[ir];refine⟨by cases l<;>cases g<;>simp[j],λc hc=>?_,?_⟩
 ·simp only[md,or_assoc]at hc;rcases hc with hc | hc | hc | hc | hc
  ·cases l
   ·cases hc
   ·rw[nh.1 hc];decide
  ·cases g
   ·cases hc
   ·rw[nh.1 hc];decide
  ·exact⟨NW (b c hc),Gg (b c hc)⟩
  ·have:=(cb.1 a) c hc;simp only[aD,ko]at this;exact⟨this.1,this.2.1⟩
  ·have:=(cb.1 d) c hc;simp only[aD,ko]at this;exact⟨this.1,this.2.1⟩
 ·have no:∀w:aa,w.all (λc=>okC c&&(!isMk c&&!(c==88)))=true->w.any (·==88)=false:=by
   intro w i;rw[ud];intro c hc;have:=(cb.1 i) c hc;simp only[aD,ko]at this;rw[this.2.2];simp
  simp only[rf,no _ a,no _ d,xT];unfold hasX;cases l<;>cases g<;>simp
def xd{w:aa}(h:w≠[])(a:∀c∈w,isMk c=false)(v:aa):∃b z,v++w=b++[z]/\isMk z=false:=
 ⟨v++w.dropLast,w.getLast h,by rw[gx,List.dropLast_concat_getLast],a _ (List.getLast_mem h)⟩
def yU{A B:Nat×Nat×Nat}{g l:Bool}{dg:aa}{x q:Nat}{m d:aa}(hs:ShD g l dg x q m d)(hk:MkD A B m d):
  ∃u k,Body (rawD A B g l dg (x:Int) (q:Int) m d) u k/\u.any (·==88)=(hasX dg||(hasX m||hasX d))/\(u.any isLv=false->A=(0,0,0)/\(m≠[]->B.1=0)/\(d≠[]->B.2.1=0))/\k=(if m=[]then B.1 else if d=[]then B.2.1 else B.2.2):=by
 obtain⟨L,G,D⟩:=vB hs.yr;have yl:=wq hs.yr;obtain⟨n,p,t⟩:=A;obtain⟨i,r,F⟩:=B;obtain⟨a0,a1,a2,b0,b1,b2,zm,zd⟩:=hk;simp only at a0 a1 a2 b0 b1 b2 zm zd;unfold rawD db;simp only;generalize fZ g l dg (x:Int) (q:Int)=Y at *;have b:∀w:aa,w.all okC=true->∀c∈w,c.toNat<128:=λw U c hc=>ZB ((cb.1 U) c hc);have v:Y.all okC=true:=cb.2 λc hc=>(G c hc).1;have j:∀k,k<4->(mt k).length<=1:=λk h=>by
  rcases(by omega:k=0\/k=1\/k=2\/k=3)with rfl | rfl | rfl | rfl<;>simp[mt]
 have S:=j n a0;have P:=j p a1;have T:=j t a2;have N:=j i b0;have V:=j r b1;have X:=j F b2;have a:∀k,k<4->(mt k).any isLv=false->k=0:=λk h=>by
  rcases(by omega:k=0\/k=1\/k=2\/k=3)with rfl | rfl | rfl | rfl<;>decide
 have o:∀w:aa,w.any (λx=>x==88)=hasX w:=λw=>rfl;by_cases f:m=[]
 ·have e:d=[]:=hs.day.resolve_right (λz=>z.1 f);subst f e;obtain⟨rfl,rfl⟩:=zm rfl;obtain⟨rfl,rfl⟩:=zd rfl;simp only[aS,mi];refine⟨mt n++Y,i,⟨rfl,b0,xd L (λc hc=>(G c hc).2) _,b _ (by rw[Hv,Hv,s7 a0,v,s7 b0];rfl),by simp only[aV];omega⟩,?_,?_,rfl⟩
  ·rw[rf,x_mk a0,D];simp[hasX]
  ·intro h;rw[rf,qt]at h;exact⟨by rw[a _ a0 h.1],λh=>absurd rfl h,λh=>absurd rfl h⟩
 ·obtain⟨R,mx⟩:=hs.mon.resolve_left f;have H:m.all okC=true:=cb.2 λc hc=>NW (mx c hc);rw[ab f,ab f];by_cases e:d=[]
  ·subst e;obtain⟨rfl,rfl⟩:=zd rfl;simp only[aS,mi];refine⟨mt n++Y++mt i++(45::(mt p++m)),r,⟨by simp,b1,?_,b _ ?_,by simp only[aV,aI];omega⟩,?_,?_,rfl⟩
   ·have:=xd f (λc hc=>Gg (mx c hc)) (mt n++Y++mt i++(45::mt p));simpa using this
   ·simp only[Hv,oL,s7 a0,v,s7 b0,s7 a1,H,s7 b1,show okC 45=true from by decide];rfl
   ·simp only[rf,qG,x_mk a0,x_mk b0,x_mk a1,D];simp only[o];simp[hasX]
   ·intro h;simp only[rf,qG,qt]at h;obtain⟨⟨⟨C,Q⟩,s⟩,I,y,O⟩:=h;exact⟨by rw[a _ a0 C,a _ a1 y],λ_=>a _ b0 s,λh=>absurd rfl h⟩
  ·obtain⟨_,J,E⟩:=hs.day.resolve_left e;have W:d.all okC=true:=cb.2 λc hc=>NW (E c hc);rw[ab e,ab e];refine⟨mt n++Y++mt i++(45::(mt p++m++mt r))++(45::(mt t++d)),F,⟨by simp,b2,?_,b _ ?_,by simp only[aV,aI];omega⟩,?_,?_,rfl⟩
   ·have:=xd e (λc hc=>Gg (E c hc)) (mt n++Y++mt i++(45::(mt p++m++mt r))++(45::mt t));simpa using this
   ·simp only[Hv,oL,s7 a0,v,s7 b0,s7 a1,H,s7 b1,s7 a2,W,s7 b2,show okC 45=true from by decide];rfl
   ·simp only[rf,qG,x_mk a0,x_mk b0,x_mk a1,x_mk b1,x_mk a2,D];simp only[o];simp[Bool.or_assoc]
   ·intro h;simp only[rf,qG,qt]at h;obtain⟨⟨⟨⟨C,Q⟩,s⟩,I,⟨y,O⟩,K⟩,h8,Z,M⟩:=h;exact⟨by rw[a _ a0 C,a _ a1 y,a _ a2 Z],λ_=>a _ b0 s,λ_=>a _ b1 K⟩
def mkX(x:TD):Bool:=hasX x.2.2.1||(hasX x.2.2.2.2.2.1||hasX x.2.2.2.2.2.2.1)
def lvT(T:aa)(x:TD):Int:=lvl (Lib.trimRightS T [63,126,37]) (!(Lib.trimRightS T [63,126,37]==T)) (mkX x) (seT x)
def YA{T u:aa}{k:Nat}(h:Body T u k){x:TD}(hs:smT x):kP 20000000 T x=some (lvT T x):=by
 rw[acl h hs];unfold lvT mkX;rw[tM h,DX h];simp
def Uf{S:aa}{a:Nat}(h:a<=S.length){r:DR}(n:fY S a=.inr r):∃A B u k,MkD A B (tdR r).2.2.2.2.2.1 (tdR r).2.2.2.2.2.2.1/\plR r=a+(mt A.1).length/\
  (S.drop a).take (enR r - a)=rawD A B r.1 r.2.1 r.2.2.1 (r.2.2.2.1:Int) (r.2.2.2.2.1:Int) r.2.2.2.2.2.1 r.2.2.2.2.2.2.1/\r.2.2.2.2.2.2.2.1=spM A B/\Body ((S.drop a).take (enR r - a)) u k/\
  kP 20000000 ((S.drop a).take (enR r - a)) (tdR r)=some (lvT ((S.drop a).take (enR r - a)) (tdR r)):=by
 obtain⟨i,t,E,D⟩:=pg h n;obtain⟨y,_⟩:=Fg h n;obtain⟨F,G,v,p,w,m',d',k0,k1,k2,c,ok⟩:=lj i t;obtain⟨g,l,dg,x,s,m,d,M,P,e⟩:=r;have ok:ShD g l dg x s m d:=by
  unfold tdR at c;simp only[bP]at c;obtain⟨rfl,rfl,rfl,hx,j,rfl,rfl,_⟩:=c;have hx:x=p:=by omega
  have j:s=w:=by omega
  subst hx j;exact ok.sh
 obtain⟨A,B,mk,C,q,o⟩:=GO y;have z:(rawD A B g l dg (x:Int) (s:Int) m d).length=e - a:=by
  have:=cf List.length o;simp only[aV,cg]at this;have:a<=e:=E;have:e<=S.length:=D;omega
 have b:(S.drop a).take (e - a)=rawD A B g l dg (x:Int) (s:Int) m d:=by rw[o,<-z,Ar]
 obtain⟨u,k,f,H,_⟩:=yU ok mk;refine⟨A,B,u,k,mk,q,b,C,by rw[show enR (g,l,dg,x,s,m,d,M,P,e)=e from rfl,b];exact f,?_⟩
 ·rw[show enR (g,l,dg,x,s,m,d,M,P,e)=e from rfl,b];exact YA f i
def X8{S:aa}{a:Nat}(h:a<=S.length){r:DR}(o:fY S a=.inr r):∃A B u k,MkD A B (tdR r).2.2.2.2.2.1 (tdR r).2.2.2.2.2.2.1/\plR r=a+(mt A.1).length/\
  (S.drop a).take (enR r - a)=rawD A B r.1 r.2.1 r.2.2.1 (r.2.2.2.1:Int) (r.2.2.2.2.1:Int) r.2.2.2.2.2.1 r.2.2.2.2.2.2.1/\r.2.2.2.2.2.2.2.1=spM A B/\Body ((S.drop a).take (enR r - a)) u k/\
  kP 20000000 ((S.drop a).take (enR r - a)) (tdR r)=some (lvT ((S.drop a).take (enR r - a)) (tdR r))/\fp 20000000 ((S.drop a).take (enR r - a))=some (lvT ((S.drop a).take (enR r - a)) (tdR r)):=by
 obtain⟨j,v,F,E⟩:=pg h o;obtain⟨z,_⟩:=Fg h o;obtain⟨I,J,w,q,y,m',d',k0,k1,k2,i,ok⟩:=lj j v;obtain⟨g,l,dg,x,s,m,d,M,P,e⟩:=r;have ok:ShD g l dg x s m d:=by
  unfold tdR at i;simp only[bP]at i;obtain⟨rfl,rfl,rfl,hx,n,rfl,rfl,_⟩:=i;have hx:x=q:=by omega
  have n:s=y:=by omega
  subst hx n;exact ok.sh
 obtain⟨A,B,mk,D,t,p⟩:=GO z;have C:(rawD A B g l dg (x:Int) (s:Int) m d).length=e - a:=by
  have:=cf List.length p;simp only[aV,cg]at this;have:a<=e:=F;have:e<=S.length:=E;omega
 have c:(S.drop a).take (e - a)=rawD A B g l dg (x:Int) (s:Int) m d:=by rw[p,<-C,Ar]
 obtain⟨u,k,b,G,_⟩:=yU ok mk;refine⟨A,B,u,k,mk,t,c,D,by rw[show enR (g,l,dg,x,s,m,d,M,P,e)=e from rfl,c];exact b,?_,?_⟩
 ·rw[show enR (g,l,dg,x,s,m,d,M,P,e)=e from rfl,c];exact YA b j
 ·rw[show enR (g,l,dg,x,s,m,d,M,P,e)=e from rfl,c];obtain⟨H,_,f⟩:=Kw ok mk (S:=rawD A B g l dg (x:Int) (s:Int) m d) (a:=0) (post:=[]) (by simp) xb xb xb;rw[WJ b f,G];unfold lvT mkX;rw[tM b,DX b];simp only[decide_not];rfl
def mx(a b:Int):Int:=if a>b then a else b
def lvR(S:aa)(p:Nat)(r:DR):Int:=lvT ((S.drop p).take (enR r - p)) (tdR r)
def GX(u:aa)(b X:Bool)(c:Int):0<=lvl u b X c/\lvl u b X c<=2:=by
 unfold lvl
 repeat' split
 all_goals omega
def Pj(S:aa)(p:Nat)(r:DR):0<=lvR S p r/\lvR S p r<=2:=GX _ _ _ _
def bcT{x:TD}(h:smT x)(K:Int):ap10 (jm 20000000 K) x=some (ug K x):=yK h.1 h.2.1 h.2.2.1 h.2.2.2.1 h.2.2.2.2.1 h.2.2.2.2.2
def Ff(n:Nat)(a:Int)(S:aa)(p:Int)(I:List TI)(K:Int)(D:TD)(KF:Int)(DF:TD)(KT:Int)(DT:TD)(e l:Bool)(lv:Int):
  dD n a S p I K D KF DF KT DT e l lv=some (K,D,KF,DF,KT,DT,e,l,mx a lv):=by
 unfold dD mx;rw[bN]
def Qb(I:List TI)(K:Int)(D:TD)(KF:Int)(DF:TD)(KT:Int)(DT:TD)(e l:Bool)(lv:Int){S:aa}{p:Nat}(h:p<=S.length)(d:S.length<100000):
  dV 20000000 I K D KF DF KT DT e l lv S (p:Int)=some (match fY S p with
   | .inl f=>.inl ((f.1:Int),(f.2.1:Int),K,D,KF,DF,KT,DT,e,l,lv,S,(f.2.2:Int))
   | .inr r=>.inr (tdR r,((plR r:Nat):Int),K,D,KF,DF,KT,DT,e,l,mx (lvR S p r) lv,S,((enR r:Nat):Int))):=by
 unfold dV;rw[wS _ _ _ h,IV S p h d];cases a:fY S p with
 | inl f=>rfl
 | inr r=>
  obtain⟨i,j,k,g⟩:=pg h a;obtain⟨_,_,_,_,_,_,_,_,_,b⟩:=Uf h a;rw[F6];simp only[obs,sm,ob];rw[show(d4 (d8 ((tdR r).1,(tdR r).2.1,(tdR r).2.2.1,(tdR r).2.2.2.1,(tdR r).2.2.2.2.1,(tdR r).2.2.2.2.2.1,(tdR r).2.2.2.2.2.2.1,(tdR r).2.2.2.2.2.2.2.1,(tdR r).2.2.2.2.2.2.2.2.1,(tdR r).2.2.2.2.2.2.2.2.2,((plR r:Nat):Int),S,((enR r:Nat):Int))))=((enR r:Nat):Int)from rfl,wS _ _ _ g];simp only[];have c:w64 (len (S.drop p) - len (S.drop (enR r)))=((enR r - p:Nat):Int):=by
   show wrap .i64 (((S.drop p).length:Int) - ((S.drop (enR r)).length:Int))=_;rw[cg,cg,wd];omega
  rw[c,de (by rw[cg];omega)];simp only[cM];rw[show kP 20000000 ((S.drop p).take (enR r - p)) (iF ((tdR r).1,(tdR r).2.1,(tdR r).2.2.1,(tdR r).2.2.2.1,(tdR r).2.2.2.2.1,(tdR r).2.2.2.2.2.1,(tdR r).2.2.2.2.2.2.1,(tdR r).2.2.2.2.2.2.2.1,(tdR r).2.2.2.2.2.2.2.2.1,(tdR r).2.2.2.2.2.2.2.2.2,((plR r:Nat):Int),S,((enR r:Nat):Int)))=_ from b];simp only[Ff,u9,u8,u7,u6,u5,u4,u3,u2];rfl
def Ly{x:TD}(h:smT x)(hc:cF x=0)(a K:Int)(D:TD)(KF:Int)(DF:TD)(KT:Int)(DT:TD)(e l:Bool)(lv:Int)(S:aa)(p:Int)(I:List TI):
  du 20000000 x a K D KF DF KT DT e l lv S p I=some (if exT x=true then .inr (1,x)else .inl (a,11)):=by
 unfold du;rw[bcT h,HT,ae hc];cases exT x<;>rfl
noncomputable def toP(S:aa)(p:Nat)(KF:Int)(DF:TD)(lv:Int):(Nat×Nat)⊕(Int×TD×Int×Nat):=
 if KF=1/\p=S.length then .inr (3,d0,mx 1 lv,p)
 else if KF=1/\dts (S.drop p)=true then .inr (2,d0,mx 1 lv,p+2)
 else match fY S p with
  | .inl f=>.inl (f.1,f.2.1)
  | .inr r=>if exT (tdR r)=true then(if enR r<S.length\/pa KF DF 1 (tdR r)=0 then .inr (1,tdR r,mx (lvR S p r) (if KF=1 then lv else mx 1 lv),enR r)else .inl (plR r,11))else .inl (plR r,11)
def YV(S:aa)(D:TD)(KF:Int)(DF:TD)(e l:Bool):(Nat×Nat)⊕(Int×TD×Int×Nat)->(Int×TD×Int×TD×Int×TD×Bool×Bool×Int×aa×Int)⊕(Int×Int×Int×TD×Int×TD×Int×TD×Bool×Bool×Int×aa×Int)->Prop
 | .inl f,y=>∃z,y=.inr ((f.1:Int),(f.2:Int),z)
 | .inr (KT,DT,lv,p),y=>y=.inl (2,D,KF,DF,KT,DT,e,l,lv,S,(p:Int))
def J2{S:aa}{p:Nat}(h:p<=S.length):(peek (S.drop p)).2=decide (p<S.length):=by
 by_cases hp:p<S.length
 ·rw[ar hp,da (ba hp)];rfl
 ·rw[au hp,kW (by omega)];rfl
def Yv(I:List TI)(K:Int){DF:TD}(T:smT DF)(KF:Int)(lv:Int){S:aa}{p:Nat}(h:p<=S.length)(hS:S.length<100000):
  ∃y,gB 20000000 I K d0 KF DF 0 d0 false false lv S (p:Int)=some y/\YV S d0 KF DF false false (toP S p KF DF lv) y:=by
 have q:∀(l:Int) (t:l=if KF=1 then lv else mx 1 lv) (Y:¬(KF=1/\p=S.length)) (o:¬(KF=1/\dts (S.drop p)=true)),∃y,(obs (dV 20000000 I 2 d0 KF DF 0 d0 false false l S (p:Int)) (u13 λM Q L z G P N H A D C B E=>some (.inr (M,Q,L,z,G,P,N,H,A,D,C,B,E))) (u13 λR v g e d c w u j i k a b=>obs (du 20000000 R v g e d c w u j i k a b I) (u2 λW F=>some (.inr (W,F,g,e,d,c,w,u,j,i,k,a,b))) (u2 λm n=>ob (bG 20000000 a b) (u2 λ_ J=>cond (!J) (ob (ap10 (ap10 (jG 20000000 d) c m) n) λU=>cond (U != 0) (ob (aW 20000000 v 11 a b) (u2 λV x=>some (.inr (V,x,g,e,d,c,m,n,j,i,k,a,b)))) (some (.inl (g,e,d,c,m,n,j,i,k,a,b)))) (some (.inl (g,e,d,c,m,n,j,i,k,a,b)))))))=some y/\YV S d0 KF DF false false (toP S p KF DF lv) y:=by
  intro l t Y o;unfold toP;rw[Qb I 2 d0 KF DF 0 d0 false false l h hS,ab Y,ab o];cases hr:fY S p with
  | inl f=>exact⟨_,rfl,_,rfl⟩
  | inr r=>
   obtain⟨X,c1,l1,Z⟩:=pg h hr;simp only[obs,sm,ob,u13,u12,u11,u10,u9,u8,u7,u6,u5,u4,u3,u2];rw[Ly X c1];cases hx:exT (tdR r)
   ·exact⟨_,rfl,_,rfl⟩
   ·simp only[aS,sB _ _ _ Z,J2 Z];by_cases O:enR r<S.length
    ·rw[ar O,ae (.inl O)];exact⟨_,rfl,by rw[<-t];rfl⟩
    ·rw[au O];simp only[kH,ah];rw[PY T X];simp only[];by_cases hp:pa KF DF 1 (tdR r)=0
     ·rw[ae (.inr hp),show(pa KF DF 1 (tdR r) != 0)=false from by simp[hp]];exact⟨_,rfl,by rw[<-t];rfl⟩
     ·rw[ab (by rintro(h | h)<;>contradiction),show(pa KF DF 1 (tdR r) != 0)=true from by simp[hp]];exact⟨_,rfl,_,rfl⟩
 unfold gB;by_cases s:KF=1
 ·rw[show(KF==1)=true from by simp[s],ah,sB _ _ _ h];simp only[ob,u2,J2 h,Ff];by_cases hp:p<S.length
  ·rw[ar hp];simp only[dU,af];rw[o5 _ _ _ _ h (by omega)];cases o:dts (S.drop p)
   ·rw[ab (show¬(S.drop p).take [(46:UInt8),46].length=[46,46]fromλh=>by unfold dts at o;rw[show(S.drop p).take 2=[46,46]from h]at o;cases o)];exact q lv (by rw[ae s]) (by omega) (by rw[o];simp)
   ·rw[ae (show(S.drop p).take [(46:UInt8),46].length=[46,46]from eq_of_beq o)];refine⟨_,rfl,?_⟩;unfold toP;rw[ad,ae ⟨s,o⟩];rfl
  ·rw[au hp];refine⟨_,rfl,?_⟩;unfold toP;rw[ae ⟨s,by omega⟩];rfl
 ·rw[show(KF==1)=false from by simp[s],af,Ff];simp only[ob,u9,u8,u7,u6,u5,u4,u3,u2];exact q (mx 1 lv) (by rw[ab s]) (by simp[s]) (by simp[s])
noncomputable def toX(S:aa)(p:Nat)(KF:Int)(DF:TD)(lv:Int):(Nat×Nat)⊕(Int×TD×Int):=match toP S p KF DF lv with
 | .inl f=>.inl f
 | .inr (KT,DT,L,q)=>if q<S.length then .inl (q,5)else .inr (KT,DT,L)
noncomputable def oU(S:aa):(Nat×Nat)⊕(Int×TD×Int×TD×Int×TD×Int)⊕(Int×Bool×Bool×List TI):=
 if S.head?=some 91\/S.head?=some 123 then(match Kx S with | .inl f=>.inl f | .inr q=>.inr (.inr q))
 else if S.head?=some 47 then(match toX S 1 3 d0 0 with | .inl f=>.inl f | .inr (KT,DT,L)=>.inr (.inl (2,d0,3,d0,KT,DT,L)))
 else if dts S=true then(if(S.drop 2).head?=some 47 then(match toX S 3 2 d0 0 with | .inl f=>.inl f | .inr (KT,DT,L)=>.inr (.inl (2,d0,2,d0,KT,DT,L)))else .inl (2,5))
 else match fY S 0 with
  | .inl f=>.inl (f.1,f.2.1)
  | .inr r=>if(S.drop (enR r)).head?=some 47 then(if exT (tdR r)=true then(match toX S (enR r+1) 1 (tdR r) (lvR S 0 r)with | .inl f=>.inl f | .inr (KT,DT,L)=>.inr (.inl (2,d0,1,tdR r,KT,DT,L)))else .inl (plR r,11))
   else if enR r<S.length then .inl (enR r,5)else .inr (.inl (1,tdR r,0,d0,0,d0,lvR S 0 r))
def acF:(Nat×Nat)⊕(Int×TD×Int×TD×Int×TD×Int)⊕(Int×Bool×Bool×List TI)->(Int×TD×Int×TD×Int×TD×Bool×Bool×Int×Int×Int×List TI)⊕(Int×TD×Int×TD×Int×TD×Nat×Nat×Bool×Bool×Int×Int×Int×List TI)
 | .inl f=>.inl (0,d0,0,d0,0,d0,false,false,0,(f.1:Int),(f.2:Int),[])
 | .inr (.inl (K,D,KF,DF,KT,DT,L))=>.inl (K,D,KF,DF,KT,DT,false,false,L,0,0,[])
 | .inr (.inr (K,e,l,I))=>.inr (K,d0,0,d0,0,d0,I.length,I.length,e,l,2,0,0,I)
def Bo{S:aa}{p:Nat}(h:p<=S.length){f:Nat×Nat×Nat}(a:fY S p=.inl f):f.2.1≠0:=Bg (k:=f.1) (E:=f.2.1) (p:=f.2.2) h a
def Io{S:aa}{p:Nat}(h:p<=S.length){KF:Int}{DF:TD}{lv:Int}{f:Nat×Nat}(a:toP S p KF DF lv=.inl f):f.2≠0:=by
 unfold toP at a;split at a
 ·cases a
 ·split at a
  ·cases a
  ·cases b:fY S p with
   | inl g=>rw[b]at a;cases a;exact Bo h b
   | inr r=>
    rw[b]at a;simp only[]at a;split at a
    ·split at a
     ·cases a
     ·cases a;simp
    ·cases a;simp
def Hg(l:aa)(c:UInt8)(hc:c≠0):((peek l).1==(c.toNat:Int))=decide (l.head?=some c):=by
 have:=aaN l c hc;cases l with
 | nil=>exact this
 | cons a r=>exact this
def JV{S:aa}{p:Nat}(h:p<=S.length)(a:S.length<100000)(c:UInt8):aG 20000000 [c] S (p:Int)=some (decide ((S.drop p).head?=some c),S,((if(S.drop p).head?=some c then p+1 else p:Nat):Int)):=by
 rw[o5 _ _ _ _ h (by omega)];simp only[tk1];by_cases hc:(S.drop p).head?=some c
 ·rw[ae hc,ae hc,ar hc];rfl
 ·rw[ab hc,ab hc,au hc]
def Nw{S:aa}{p:Nat}(h:p<=S.length)(b:S.length<100000):aG 20000000 [46,46] S (p:Int)=some (dts (S.drop p),S,((if dts (S.drop p)=true then p+2 else p:Nat):Int)):=by
 rw[o5 _ _ _ _ h (by omega)];cases a:dts (S.drop p)
 ·rw[ab (show¬(S.drop p).take [(46:UInt8),46].length=[46,46]fromλh=>by unfold dts at a;rw[show(S.drop p).take 2=[46,46]from h]at a;cases a)];rfl
 ·rw[ae (show(S.drop p).take [(46:UInt8),46].length=[46,46]from eq_of_beq a)];rfl
def LU{S:aa}{p:Nat}(h:p<=S.length)(c:S.length<100000):cJ 20000000 [47] S (p:Int)=some (if(S.drop p).head?=some 47 then .inl (S,((p+1:Nat):Int))else .inr ((p:Int),5,S,(p:Int))):=by
 rw[EP _ _ _ _ h (by omega) (by simp) (by simp)];simp only[tk1];by_cases hc:(S.drop p).head?=some 47
 ·rw[ae hc,ae hc];rfl
 ·rw[ab hc,ab hc];have:lcp (S.drop p) [47]=0:=by
   cases b:S.drop p with
   | nil=>rfl
   | cons a r=>
    rw[b]at hc;simp only[lcp];rw[show(a==47)=false from by rw[aL];rintro rfl;exact hc rfl];rfl
  rw[this];rfl
def Zr(S:aa):(Nat×Nat)⊕(Int×TD×Int×TD×Int×TD×Int×Nat)⊕(Int×Bool×Bool×List TI×Nat)->((Int×Int×Int×TD×Int×TD×Int×TD×Bool×Bool×Int×aa×Int)⊕(Int×TD×Int×TD×Int×TD×Nat×Nat×Bool×Bool×Int×aa×Int×List TI)⊕(Int×TD×Int×TD×Int×TD×Bool×Bool×Int×aa×Int)⊕(Int×TD×Int×TD×Int×TD×Bool×Bool×Int×aa×Int×List TI))->Prop
 | .inl f,y=>∃z,y=.inl ((f.1:Int),(f.2:Int),z)
 | .inr (.inl (K,D,KF,DF,KT,DT,L,p)),y=>y=.inr (.inr (.inl (K,D,KF,DF,KT,DT,false,false,L,S,(p:Int))))\/y=.inr (.inr (.inr (K,D,KF,DF,KT,DT,false,false,L,S,(p:Int),[])))
 | .inr (.inr (K,e,l,I,p)),y=>y=.inr (.inl (K,d0,0,d0,0,d0,I.length,I.length,e,l,2,S,(p:Int),I))
noncomputable def Fz(S:aa):(Nat×Nat)⊕(Int×TD×Int×TD×Int×TD×Int×Nat)⊕(Int×Bool×Bool×List TI×Nat):=
 if S.head?=some 91\/S.head?=some 123 then(match zV S 0 with | .inl f=>.inl (f.1,f.2.1) | .inr q=>.inr (.inr q))
 else if S.head?=some 47 then(match toP S 1 3 d0 0 with | .inl f=>.inl f | .inr (KT,DT,L,q)=>.inr (.inl (2,d0,3,d0,KT,DT,L,q)))
 else if dts S=true then(if(S.drop 2).head?=some 47 then(match toP S 3 2 d0 0 with | .inl f=>.inl f | .inr (KT,DT,L,q)=>.inr (.inl (2,d0,2,d0,KT,DT,L,q)))else .inl (2,5))
 else match fY S 0 with
  | .inl f=>.inl (f.1,f.2.1)
  | .inr r=>if(S.drop (enR r)).head?=some 47 then(if exT (tdR r)=true then(match toP S (enR r+1) 1 (tdR r) (lvR S 0 r)with | .inl f=>.inl f | .inr (KT,DT,L,q)=>.inr (.inl (2,d0,1,tdR r,KT,DT,L,q)))else .inl (plR r,11))
   else .inr (.inl (1,tdR r,0,d0,0,d0,lvR S 0 r,enR r))
def mx0{a:Int}(h:0<=a):mx a 0=a:=by unfold mx;split<;>omega
def WZ{S:aa}(g:S.length<100000):∃y,jJ 20000000 [] 0 d0 0 d0 0 d0 false false 0 S 0=some y/\Zr S (Fz S) y:=by
 have z0:(0:Int)=((0:Nat):Int):=rfl;have P:=sB 20000000 S 0 (lc _);rw[cM,show((0:Nat):Int)=0 from rfl]at P;have T:=V1 (S:=S) (a:=0) (lc _) g;rw[show((0:Nat):Int)=0 from rfl]at T;have Q:=JV (S:=S) (p:=0) (lc _) g 47;rw[cM,show((0:Nat):Int)=0 from rfl]at Q;have O:=Nw (S:=S) (p:=0) (lc _) g;rw[cM,show((0:Nat):Int)=0 from rfl]at O;have R:=Qb [] 0 d0 0 d0 0 d0 false false 0 (S:=S) (p:=0) (lc _) g;rw[show((0:Nat):Int)=0 from rfl]at R;have u:((peek S).1==91)=decide (S.head?=some 91):=Hg S 91 (by decide);have l:((peek S).1==123)=decide (S.head?=some 123):=Hg S 123 (by decide);have set:(S.head?=some 91\/S.head?=some 123)->∃y,(obs (pI 20000000 S 0) (u4 λV v2 v3 Z=>some (.inl (V,v2,0,d0,0,d0,0,d0,false,false,0,v3,Z))) (u13 λv5 v6 v7 W U v w F x C k m n=>ob (gQ 20000000 2 k m n v5 v6 v7 W U v w F x C 0) (u11 λI H K B E M D t A J G=>some (.inr (.inl (I,H,K,B,E,M,D,t,A,J,G,k,m,n))))))=some y/\Zr S (Fz S) y:=by
  intro h;rw[T];unfold Fz;rw[ae h];cases zV S 0 with
  | inl f=>exact⟨_,rfl,_,rfl⟩
  | inr q=>exact⟨_,rfl,rfl⟩
 unfold jJ;rw[P];simp only[ob,u2,u,l];by_cases i:S.head?=some 91
 ·rw[ar i,ah];exact set (.inl i)
 rw[au i,af];by_cases b:S.head?=some 123
 ·rw[ar b,ah];exact set (.inr b)
 rw[au b,af,Q];clear set;unfold Fz;rw[ab (show¬(S.head?=some 91\/S.head?=some 123)fromλh=>h.elim i b)];simp only[u3,u2];by_cases e:S.head?=some 47
 ·simp only[ar e,ae e,ah];have s:1<=S.length:=by
   have:=qf (S:=S) (p:=0) (c:=47) (by rw[cM];exact e);omega
  obtain⟨y,o,d⟩:=Yv [] 0 ow 3 0 (S:=S) (p:=1) s g;rw[show((0+1:Nat):Int)=((1:Nat):Int)from rfl,o];cases j:toP S 1 3 d0 0 with
  | inl f=>
   rw[j]at d;obtain⟨z,rfl⟩:=d;exact⟨_,rfl,_,rfl⟩
  | inr q=>
   rw[j]at d;obtain⟨KT,DT,L,q⟩:=q;subst d;exact⟨_,rfl,.inl rfl⟩
 ·simp only[au e,ab e,af];rw[show((0:Nat):Int)=0 from rfl,O];simp only[];cases hd:dts S
  ·rw[ab (by simp),ab (by simp),af,show((0:Nat):Int)=0 from rfl,R];cases X:fY S 0 with
   | inl f=>exact⟨_,rfl,_,rfl⟩
   | inr r=>
    obtain⟨N,Y,l1,l2⟩:=pg (lc _) X;simp only[obs,sm,ob,u13,u12,u11,u10,u9,u8,u7,u6,u5,u4,u3,u2];rw[JV l2 g,mx0 (Pj S 0 r).1];simp only[];by_cases hs:(S.drop (enR r)).head?=some 47
    ·simp only[ar hs,ae hs,dU,af];rw[Ly N Y];cases hx:exT (tdR r)
     ·exact⟨_,rfl,_,rfl⟩
     ·obtain⟨y,o,d⟩:=Yv [] 0 N 1 (lvR S 0 r) (S:=S) (p:=enR r+1) (qf hs) g;simp only[aS];rw[o];cases j:toP S (enR r+1) 1 (tdR r) (lvR S 0 r)with
      | inl f=>
       rw[j]at d;obtain⟨z,rfl⟩:=d;exact⟨_,rfl,_,rfl⟩
      | inr q=>
       rw[j]at d;obtain⟨KT,DT,L,q⟩:=q;subst d;exact⟨_,rfl,.inl rfl⟩
    ·simp only[au hs,ab hs];exact⟨_,rfl,.inr rfl⟩
  ·rw[ae rfl,ae rfl,ah];have s:2<=S.length:=by
    have:=wP (S:=S) (p:=0) (by rw[cM];exact hd);omega
   rw[show((0+2:Nat):Int)=((2:Nat):Int)from rfl,LU s g];by_cases hs:(S.drop 2).head?=some 47
   ·simp only[ae hs];obtain⟨y,o,d⟩:=Yv [] 0 ow 2 0 (S:=S) (p:=3) (qf hs) g;rw[show((2+1:Nat):Int)=((3:Nat):Int)from rfl];simp only[obs,sm,ob,u2,o];cases j:toP S 3 2 d0 0 with
    | inl f=>
     rw[j]at d;obtain⟨z,rfl⟩:=d;exact⟨_,rfl,_,rfl⟩
    | inr q=>
     rw[j]at d;obtain⟨KT,DT,L,q⟩:=q;subst d;exact⟨_,rfl,.inl rfl⟩
   ·simp only[ab hs];exact⟨_,rfl,_,rfl⟩
def Ob{S:aa}{f:Nat×Nat}(a:Fz S=.inl f):f.2≠0:=by
 unfold Fz at a;split at a
 ·cases b:zV S 0 with
  | inl g=>rw[b]at a;cases a;exact Of (lc _) b
  | inr q=>rw[b]at a;cases a
 ·split at a
  ·rename_i h;cases b:toP S 1 3 d0 0 with
   | inl g=>
    rw[b]at a;cases a;exact Io (qf (S:=S) (p:=0) (by rw[cM];exact h)) b
   | inr q=>rw[b]at a;cases a
  ·split at a
   ·split at a
    ·rename_i h;cases b:toP S 3 2 d0 0 with
     | inl g=>rw[b]at a;cases a;exact Io (qf h) b
     | inr q=>rw[b]at a;cases a
    ·cases a;simp
   ·cases b:fY S 0 with
    | inl g=>rw[b]at a;cases a;exact Bo (lc _) b
    | inr r=>
     rw[b]at a;simp only[]at a;split at a
     ·rename_i h;split at a
      ·cases c:toP S (enR r+1) 1 (tdR r) (lvR S 0 r)with
       | inl g=>rw[c]at a;cases a;exact Io (qf h) c
       | inr q=>rw[c]at a;cases a
      ·cases a;simp
     ·cases a
def IK(S:aa):oU S=match Fz S with
  | .inl f=>.inl f
  | .inr (.inl (K,D,KF,DF,KT,DT,L,q))=>if q<S.length then .inl (q,5)else .inr (.inl (K,D,KF,DF,KT,DT,L))
  | .inr (.inr (K,e,l,I,q))=>if q<S.length then .inl (q,5)else .inr (.inr (K,e,l,I)):=by
 unfold oU Fz Kx toX;split
 ·cases zV S 0 with
  | inl f=>rfl
  | inr q=>
   obtain⟨_,_,_,_,p⟩:=q;by_cases hp:p<S.length<;>simp[hp]
 ·split
  ·cases toP S 1 3 d0 0 with
   | inl f=>rfl
   | inr q=>
    obtain⟨_,_,_,p⟩:=q;by_cases hp:p<S.length<;>simp[hp]
  ·split
   ·split
    ·cases toP S 3 2 d0 0 with
     | inl f=>rfl
     | inr q=>
      obtain⟨_,_,_,p⟩:=q;by_cases hp:p<S.length<;>simp[hp]
    ·rfl
   ·cases fY S 0 with
    | inl f=>rfl
    | inr r=>
     simp only[];split
     ·split
      ·cases toP S (enR r+1) 1 (tdR r) (lvR S 0 r)with
       | inl f=>rfl
       | inr q=>
        obtain⟨_,_,_,p⟩:=q;by_cases hp:p<S.length<;>simp[hp]
      ·rfl
     ·rfl
def Up{S:aa}(d:S.length<=16384):pi 20000000 S=some (acF (oU S)):=by
 obtain⟨y,c,a⟩:=WZ (S:=S) (by omega);unfold pi fa;rw[show decide (len S>16384)=false from au (by show¬(16384:Int)<(S.length:Int);omega),af,c,IK];cases b:Fz S with
 | inl f=>
  have g:=Ob b;rw[b]at a;obtain⟨z,rfl⟩:=a;simp only[obs,sm,ob,u13,u12,u11,u10,u9,u8,u7,u6,u5,u4,u3,u2];rw[show((f.2:Int) != 0)=true from by simp;omega];rfl
 | inr q=>
  rw[b]at a;cases q with
  | inl q=>
   obtain⟨K,D,KF,DF,KT,DT,L,p⟩:=q;simp only[];rcases a with rfl | rfl
   ·simp only[obs,sm,ob,u13,u12,u11,u10,u9,u8,u7,u6,u5,u4,u3,u2];by_cases hp:p<S.length
    ·rw[ae hp,ar (show(p:Int)<(S.length:Int)by omega)];rfl
    ·rw[ab hp,au (show¬(p:Int)<(S.length:Int)by omega)];rfl
   ·simp only[obs,sm,ob,u14,u13,u12,u11,u10,u9,u8,u7,u6,u5,u4,u3,u2];by_cases hp:p<S.length
    ·rw[ae hp,ar (show(p:Int)<(S.length:Int)by omega)];rfl
    ·rw[ab hp,au (show¬(p:Int)<(S.length:Int)by omega)];rfl
  | inr q=>
   obtain⟨K,e,l,I,p⟩:=q;subst a;simp only[obs,sm,ob,u16,u15,u14,u13,u12,u11,u10,u9,u8,u7,u6,u5,u4,u3,u2];by_cases hp:p<S.length
   ·rw[ae hp,ar (show(p:Int)<(S.length:Int)by omega)];rfl
   ·rw[ab hp,au (show¬(p:Int)<(S.length:Int)by omega)];rfl
def Wv(a b:Int):(cond (decide (a>b)) a b)=mx a b:=by unfold mx;rw[bN]
def lvX(x:TD):Int:=lvT (gC x) x
def Gt{x:TD}(hs:smT x)(hc:cF x=0):∃r,fY (gC x) 0=.inr r/\tdR r=x/\enR r=(gC x).length/\lvR (gC x) 0 r=lvX x:=by
 obtain⟨r,d,c,b⟩:=CC hs hc (S:=gC x) (a:=0) (post:=[]) (by simp) KR;rw[dw]at b;refine⟨r,d,c,b,?_⟩;unfold lvR lvX;rw[c,b,uo,cM,oC]
def Xi{x:TD}(hs:smT x)(hc:cF x=0):kP 20000000 (gC x) x=some (lvX x)/\fp 20000000 (gC x)=some (lvX x):=by
 obtain⟨r,e,d,c,_⟩:=Gt hs hc;obtain⟨_,_,_,_,_,_,_,_,_,a,b⟩:=X8 (lc _) e;rw[d,c,uo,cM,oC]at a b;exact⟨a,b⟩
def tO(x:TD):0<=lvX x/\lvX x<=2:=GX _ _ _ _
def lP(K:Int)(x:TD):aa:=if K=2 then[46,46]else if K=3 then[]else gC x
def okB(K:Int)(x:TD):Prop:=(K=1/\cF x=0/\exT x=true)\/((K=2\/K=3)/\x=d0)
def UU{K:Int}{x:TD}(h:ug K x=0):okB K x:=by
 by_cases c:K=1
 ·subst c;obtain⟨a,b⟩:=vU h;exact .inl ⟨rfl,a,b⟩
 ·unfold ug chkB at h;rw[ab c]at h;split at h
  ·rename_i e;split at h
   ·rename_i d;exact .inr ⟨e,lM.1 d⟩
   ·cases h
  ·cases h
def pL{KF KT:Int}{x y:TD}(h:pa KF x KT y=0):okB KF x/\okB KT y/\(KF=1\/KT=1):=by
 unfold pa Ic at h;by_cases a:ug KF x=0
 ·rw[ab (λz=>z a)]at h;by_cases b:ug KT y=0
  ·rw[ab (λz=>z b)]at h;split at h
   ·cases h
   ·rename_i c;exact⟨UU a,UU b,by omega⟩
  ·rw[ae b]at h;exact absurd h b
 ·rw[ae a]at h;exact absurd h a
inductive RightP:Int->TD->Int->TD->Int->TD->Bool->Bool->List TI->Prop where
 | single {x:TD} (hs:smT x) (hc:cF x=0):RightP 1 x 0 d0 0 d0 false false []
 | interval {KF:Int} {x:TD} {KT:Int} {y:TD} (hx:smT x) (hy:smT y) (hp:pa KF x KT y=0):RightP 2 d0 KF x KT y false false []
 | set {K:Int} {e l:Bool} {I:List TI} (P:SetP K d0 0 d0 0 d0 e l I) (hs:∀t∈I,smI t):RightP K d0 0 d0 0 d0 e l I
def vY{k:Int}{D:TD}{KF:Int}{DF:TD}{KT:Int}{DT:TD}{e l:Bool}{I:List TI}(hs:smE D DF DT I)(h:(fA k D KF DF KT DT e l I).2=0):RightP k D KF DF KT DT e l I:=by
 by_cases j:k=3\/k=4
 ·have P:=Hq j h;obtain⟨rfl,rfl,rfl,rfl,rfl⟩:D=d0/\KF=0/\DF=d0/\KT=0/\DT=d0:=⟨P.d,P.kf,P.df,P.kt,P.dt⟩;exact .set P hs.2.2.2
 ·unfold fA at h;split at h
  ·simp at h
  ·split at h
   ·simp at h
   ·rename_i q a;unfold unuB at a;generalize z1:eqD D d0=p at a;generalize z2:eqD DF d0=n at a;generalize i:eqD DT d0=o at a;by_cases k1:k=1
    ·subst k1;rw[ae rfl]at h;simp at a;obtain⟨⟨⟨a1,a2⟩,b,c⟩,g,m,f⟩:=a;subst a1 b g m f;rw[lM.1 (z2.trans a2),lM.1 (i.trans c)];exact .single hs.1 h
    ·have k2:k=2:=by omega
     subst k2;rw[ad,ae rfl]at h;simp at a;obtain⟨a1,a2,b,c⟩:=a;subst a2 b c;rw[lM.1 (z1.trans a1)];exact .interval hs.2.1 hs.2.2.1 h
def uX(k:Int)(D:TD)(KF:Int)(DF:TD)(KT:Int)(DT:TD)(e l:Bool)(I:List TI):aa:=
 if k=1 then gC D else if k=2 then lP KF DF++47::lP KT DT else vR k e l I
def lvE(k:Int)(D:TD)(KF:Int)(DF:TD)(KT:Int)(DT:TD):Int:=
 if k=1 then lvX D else if k=2 then mx (if KT=1 then lvX DT else 1) (if KF=1 then lvX DF else 1)else 2
def exOf(k:Int)(D:TD)(KF:Int)(DF:TD)(KT:Int)(DT:TD)(e l:Bool)(I:List TI)(L:Int):(Nat×Nat)⊕(Int×TD×Int×TD×Int×TD×Int)⊕(Int×Bool×Bool×List TI):=
 if k=1\/k=2 then .inr (.inl (k,D,KF,DF,KT,DT,L))else .inr (.inr (k,e,l,I))
def CM{x:TD}(hs:smT x)(hc:cF x=0)(r:aa)(c:UInt8)(a:brk c=true):(gC x++r).head?≠some c:=λh=>by
 have:=qw hs hc r c h;rw[a]at this;cases this
def SN{x:TD}(hs:smT x)(hc:cF x=0):gC x≠[]:=by
 obtain⟨g,l,dg,e,q,m,d,a,b,c,rfl,ok⟩:=lj hs hc;obtain⟨f,_,_⟩:=vB ok.yr;intro h;have h:rV g l dg (e:Int) (q:Int) m d a b c=[]:=h;unfold rV db at h;have:=cf List.length h;simp only[aV,bU]at this;exact f (vi (by omega))
def Ed{KF:Int}{DF:TD}{KT:Int}{DT:TD}(hx:smT DF)(hy:smT DT)(hp:pa KF DF KT DT=0){S:aa}{p:Nat}(j:p<=S.length)(h:S.drop p=lP KT DT)(lv:Int):
  toX S p KF DF lv=.inr (KT,DT,mx (if KT=1 then lvX DT else 1) (if KF=1 then lv else mx 1 lv)):=by
 obtain⟨t,o,b1⟩:=pL hp;have b:=cf List.length h;rw[cg]at b;unfold toX toP;rcases o with⟨rfl,hc,n⟩ | ⟨i,rfl⟩
 ·have f:lP 1 DT=gC DT:=by unfold lP;rw[ad,ad]
  rw[f]at h b;have m:¬(KF=1/\p=S.length):=by
   rintro⟨_,e⟩;exact SN hy hc (vi (by omega))
  have d:¬(KF=1/\dts (S.drop p)=true):=by
   rintro⟨_,e⟩;rw[h]at e;have:=qw hy hc [];rw[mi]at this;rw[uz this]at e;cases e
  obtain⟨r,q,g,l⟩:=CC hy hc (S:=S) (a:=p) (post:=[]) (by rw[h,mi]) KR;rw[ab m,ab d,q];simp only[];rw[g,ae n,ae (.inr hp)];simp only[aS];rw[ad];have:lvR S p r=lvX DT:=by
   unfold lvR lvX;rw[g,l,h];rw[show p+(gC DT).length - p=(gC DT).length by omega,oC]
  rw[this]
 ·have k:KF=1:=by omega
  subst k;rcases i with rfl | rfl
  ·have f:S.drop p=[46,46]:=h;have d:dts (S.drop p)=true:=by rw[f];rfl
   have s:=wP d;have c:(lP 2 d0).length=2:=rfl;rw[ad,ae ⟨rfl,d⟩];simp only[];rw[ad];rfl
  ·have c:(lP 3 d0).length=0:=rfl;rw[ae ⟨rfl,by omega⟩];simp only[];rw[ad];rfl
def FY{x:TD}(hs:smT x)(hc:cF x=0):oU (gC x)=.inr (.inl (1,x,0,d0,0,d0,lvX x)):=by
 obtain⟨r,f,e,d,r4⟩:=Gt hs hc;have a:=qw hs hc [];rw[mi]at a;have b:=λc a=>CM hs hc [] c a;rw[mi]at b;generalize gC x=T at *;unfold oU;rw[ab (by rintro(h | h);exact b 91 (by decide) h;exact b 123 (by decide) h),ab (b 47 (by decide)),uz a,ab (by simp),f];simp only[];rw[d,tg,ab (by simp),ad,e,r4]
def Ni{DF:TD}(hx:smT DF)(hc:cF DF=0)(n:exT DF=true){KT:Int}{DT:TD}(hy:smT DT)(hp:pa 1 DF KT DT=0):oU (gC DF++47::lP KT DT)=.inr (.inl (2,d0,1,DF,KT,DT,mx (if KT=1 then lvX DT else 1) (lvX DF))):=by
 have b:=qw hx hc (47::lP KT DT);have d:=λc b=>CM hx hc (47::lP KT DT) c b;generalize f:gC DF++47::lP KT DT=S at *;obtain⟨r,o,k,e⟩:=CC hx hc (S:=S) (a:=0) (post:=47::lP KT DT) (by rw[cM,f]) (ux (by decide));rw[dw]at e;have g:S.drop (enR r)=47::lP KT DT:=by rw[e,<-f,List.drop_left]
 have m:S.drop (enR r+1)=lP KT DT:=by rw[<-km,g];rfl
 have l:lvR S 0 r=lvX DF:=by
  unfold lvR lvX;rw[k,e,uo,cM,<-f,Ar]
 have i:enR r+1<=S.length:=by
  have:=cf List.length g;rw[cg,aI]at this;omega
 have j:=Ed hx hy hp i m (lvX DF);rw[ae rfl]at j;unfold oU;rw[ab (by rintro(h | h);exact d 91 (by decide) h;exact d 123 (by decide) h),ab (d 47 (by decide)),uz b,ab (by simp),o];simp only[];rw[g,qU,ae rfl,k,ae n,l,j]
def M7{DT:TD}(hy:smT DT)(hp:pa 2 d0 1 DT=0):oU (46::46::47::gC DT)=.inr (.inl (2,d0,2,d0,1,DT,mx (lvX DT) 1)):=by
 have a:=Ed ow hy hp (S:=46::46::47::gC DT) (p:=3) (by simp only[aI];omega) (by simp only[pP,cM];unfold lP;rw[ad,ad]) 0;rw[ae rfl,ad]at a;generalize gC DT=T at *;unfold oU;rw[ab (by simp),ab (by simp)];have b:dts (46::46::47::T)=true:=rfl;rw[ae b,ae (by rfl),a];rfl
def Rn{DT:TD}(hy:smT DT)(hp:pa 3 d0 1 DT=0):oU (47::gC DT)=.inr (.inl (2,d0,3,d0,1,DT,mx (lvX DT) 1)):=by
 have a:=Ed ow hy hp (S:=47::gC DT) (p:=1) (by simp only[aI];omega) (by simp only[pP,cM];unfold lP;rw[ad,ad]) 0;rw[ae rfl,ad]at a;generalize gC DT=T at *;unfold oU;rw[ab (by simp),ae (by rfl),a];rfl
def I7{k:Int}{D:TD}{KF:Int}{DF:TD}{KT:Int}{DT:TD}{e l:Bool}{I:List TI}(h:RightP k D KF DF KT DT e l I):oU (uX k D KF DF KT DT e l I)=exOf k D KF DF KT DT e l I (lvE k D KF DF KT DT):=by
 cases h with
 | single hs hc=>
  unfold uX exOf lvE;rw[ea,ea,ea,FY hs hc]
 | interval hx hy hp=>
  obtain⟨o,p,b1⟩:=pL hp;unfold uX exOf lvE;rw[ad,ea,ea,ad,ea];rcases o with⟨rfl,hc,m⟩ | ⟨c,rfl⟩
  ·have b:lP 1 DF=gC DF:=by unfold lP;rw[ad,ad]
   rw[b,Ni hx hc m hy hp,ae (show(1:Int)=1 from rfl)]
  ·have j:KT=1:=by omega
   subst j;have b:lP 1 DT=gC DT:=by unfold lP;rw[ad,ad]
   rw[b,ae (show(1:Int)=1 from rfl),ad];rcases c with rfl | rfl
   ·have n:lP 2 d0=[46,46]:=by unfold lP;rw[ae rfl]
    rw[n];exact M7 hy hp
   ·have g:lP 3 d0=[]:=by unfold lP;rw[ad,ae rfl]
    rw[g];exact Rn hy hp
 | set P hs=>
  have ok:=λt b=>(JM P hs t b).1;have c:=P.kind;have d:¬(k=1\/k=2):=by omega
  have f:uX k d0 0 d0 0 d0 e l I=vR k e l I:=by
   unfold uX;rw[ad,ad]
  have a:∀L,exOf k d0 0 d0 0 d0 e l I L=.inr (.inr (k,e,l,I)):=λL=>by
   unfold exOf;rw[ab d]
  rw[f,a];have i:(vR k e l I).head?=some 91\/(vR k e l I).head?=some 123:=by
   unfold vR;rw[qU];split
   ·exact .inr rfl
   ·exact .inl rfl
  have hp:=MN c P.one P.most ok P.set;generalize vR k e l I=T at *;unfold oU;rw[ae i,hp]
def wF{K:Int}{x:TD}(hs:smT x)(h:okB K x):(lP K x).length<=37:=by
 rcases h with⟨rfl,hc,c⟩ | ⟨a,rfl⟩
 ·have b:lP 1 x=gC x:=by unfold lP;rw[ad,ad]
  rw[b];exact rL hs hc
 ·rcases a with rfl | rfl<;>decide
def okDs(L:List TD):Prop:=∀x∈L,smT x/\cF x=0
def zE{k:Int}{D:TD}{KF:Int}{DF:TD}{KT:Int}{DT:TD}{e l:Bool}{I:List TI}(h:RightP k D KF DF KT DT e l I):okDs (datE k D KF DF KT DT I):=by
 intro x hx;cases h with
 | single hs hc=>
  unfold datE at hx;rw[ae rfl]at hx;rw[nh.1 hx];exact⟨hs,hc⟩
 | interval i m hp=>
  obtain⟨r,q,_⟩:=pL hp;have g:KF=1->cF DF=0:=λh=>by
   rcases r with⟨_,hc,_⟩ | ⟨d,_⟩
   ·exact hc
   ·omega
  have n:KT=1->cF DT=0:=λh=>by
   rcases q with⟨_,hc,_⟩ | ⟨d,_⟩
   ·exact hc
   ·omega
  unfold datE at hx;rw[ad,ae rfl]at hx;split at hx
  ·rename_i j;split at hx
   ·rename_i f;rcases ck.1 hx with rfl | hx
    ·exact⟨i,g j⟩
    ·rw[nh.1 hx];exact⟨m,n f⟩
   ·rw[nh.1 hx];exact⟨i,g j⟩
  ·split at hx
   ·rename_i f;rw[nh.1 hx];exact⟨m,n f⟩
   ·cases hx
 | set P hs=>
  have d:=P.kind;unfold datE at hx;rw[ad,ad,ae d]at hx;obtain⟨t,p,c⟩:=Jl.1 hx;have ok:=(JM P hs t p).1;unfold datI at c;split at c
  ·rename_i o;rcases ck.1 c with rfl | c
   ·exact⟨ok.sm.1,ok.a⟩
   ·rw[nh.1 c];exact⟨ok.sm.2,ok.b o⟩
  ·rw[nh.1 c];exact⟨ok.sm.1,ok.a⟩
def mxL(w:Int)(L:List TD):Int:=L.foldl (λw x=>mx (lvX x) w) w
def QV:∀{L:List TD},mxL 2 L=2
 | []=>rfl
 | x::L=>by
  have:=tO x;show mxL (mx (lvX x) 2) L=2;rw[show mx (lvX x) 2=2 from by unfold mx;rw[ad]];exact QV
def yi(k KF KT:Int):Int:=if k>2 then 2 else if k=2/\(KF≠1\/KT≠1)then 1 else 0
def QC{k:Int}{D:TD}{KF:Int}{DF:TD}{KT:Int}{DT:TD}{e l:Bool}{I:List TI}(h:RightP k D KF DF KT DT e l I):mxL (yi k KF KT) (datE k D KF DF KT DT I)=lvE k D KF DF KT DT:=by
 cases h with
 | single hs hc=>
  have:=tO D;unfold yi datE lvE;rw[ad,ad,ae rfl,ae rfl];have:mxL 0 [D]=mx (lvX D) 0:=by simp only[mxL,List.foldl]
  rw[this];unfold mx;split<;>omega
 | interval m n hp=>
  obtain⟨_,_,o⟩:=pL hp;have q:=tO DF;have p:=tO DT;have i:datE 2 d0 KF DF KT DT []=if KF=1 then(if KT=1 then[DF,DT]else[DF])else if KT=1 then[DT]else[]:=by
   unfold datE;rw[ad,ae rfl]
  have g:lvE 2 d0 KF DF KT DT=mx (if KT=1 then lvX DT else 1) (if KF=1 then lvX DF else 1):=by
   unfold lvE;rw[ad,ae rfl]
  have f:yi 2 KF KT=if KF≠1\/KT≠1 then 1 else 0:=by
   unfold yi;rw[ad];simp
  rw[i,g,f];generalize d:lvX DF=X at *;generalize c:lvX DT=Y at *;by_cases b:KF=1
  ·by_cases a:KT=1
   ·rw[ad,ae b,ae a,ae a,ae b];have:mxL 0 [DF,DT]=mx Y (mx X 0):=by rw[<-d,<-c];simp only[mxL,List.foldl]
    rw[this];have:mx X 0=X:=by unfold mx;split<;>omega
    rw[this]
   ·rw[ea,ae b,ab a,ab a,ae b];have:mxL 1 [DF]=mx X 1:=by rw[<-d];simp only[mxL,List.foldl]
    rw[this];unfold mx;split<;>split<;>omega
  ·have a:KT=1:=by omega
   rw[ea,ab b,ae a,ae a,ab b];have:mxL 1 [DT]=mx Y 1:=by rw[<-c];simp only[mxL,List.foldl]
   rw[this]
 | set P hs=>
  have j:=P.kind;unfold yi lvE;rw[ea,QV,ad,ad]
def Tm{k:Int}{D:TD}{KF:Int}{DF:TD}{KT:Int}{DT:TD}{e l:Bool}{I:List TI}(h:RightE k D KF DF KT DT e l I):RightP k D KF DF KT DT e l I:=vY h.sm (by rw[h.first])
def wA:∀I:List TI,(I.flatMap datI).length<=2*I.length
 | []=>by simp
 | t::I=>by
  have:=D1 t;have:=wA I;rw[pV,aV,aI];omega
def RL(k:Int)(D:TD)(KF:Int)(DF:TD)(KT:Int)(DT:TD){I:List TI}(h:I.length<=5):(datE k D KF DF KT DT I).length<=10:=by
 have:=wA I;unfold datE;split
 ·simp
 ·split
  ·split
   ·split<;>simp
   ·split<;>simp
  ·split
   ·omega
   ·simp
def BL{k:Int}{D:TD}{KF:Int}{DF:TD}{KT:Int}{DT:TD}{e l:Bool}{I:List TI}(h:RightP k D KF DF KT DT e l I)(f:I.length<=5):(uX k D KF DF KT DT e l I).length<=16384:=by
 cases h with
 | single hs hc=>
  have:=rL hs hc;unfold uX;rw[ae rfl];omega
 | interval hx hy hp=>
  obtain⟨c,a,_⟩:=pL hp;have g:=wF hx c;have i:=wF hy a;unfold uX;rw[ad,ae rfl,aV,aI];omega
 | set P hs=>
  have d:=P.kind;unfold uX;rw[ad,ad];have:=He (I:=I) λt b=>(JM P hs t b).1;unfold vR;cases e<;>cases l<;>simp<;>omega
def few{k:Int}{D:TD}{KF:Int}{DF:TD}{KT:Int}{DT:TD}{e l:Bool}{I:List TI}(h:RightP k D KF DF KT DT e l I)(a:k=1\/k=2):e=false/\l=false/\I=[]:=by
 cases h with
 | single hs hc=>exact⟨rfl,rfl,rfl⟩
 | interval hx hy hp=>exact⟨rfl,rfl,rfl⟩
 | set P hs=>have:=P.kind;omega
def WA{K:Int}{x:TD}(h:okB K x):ug K x=0:=by
 rcases h with⟨rfl,hc,a⟩ | ⟨b,rfl⟩
 ·exact Ks hc a
 ·rcases b with rfl | rfl<;>kernel_rfl
def Lu{K:Int}{x:TD}(hs:smT x)(h:okB K x):ap10 (ng 20000000 K) x=some (lP K x,0):=by
 have b:chkB K x.1 x.2.1 x.2.2.1 x.2.2.2.1 x.2.2.2.2.1 x.2.2.2.2.2.1 x.2.2.2.2.2.2.1 x.2.2.2.2.2.2.2.1 x.2.2.2.2.2.2.2.2.1 x.2.2.2.2.2.2.2.2.2=0:=WA h;have:=Yb (K:=K) (g:=x.1) (l:=x.2.1) (x:=x.2.2.2.1) (q:=x.2.2.2.2.1) hs.1 hs.2.1 hs.2.2.1 hs.2.2.2.1 hs.2.2.2.2.1 hs.2.2.2.2.2;rw[ae b]at this;refine this.trans ?_;unfold lP gC;by_cases a:K=2
 ·simp only[a,aS]
 ·simp only[a,aF]
def IR{KF:Int}{x:TD}{KT:Int}{y:TD}(hx:smT x)(hy:smT y)(hp:pa KF x KT y=0)(K:Int)(D:TD)(e l:Bool)(I:List TI):
  kO 20000000 K D KF x KT y e l I=some (lP KF x++47::lP KT y,0):=by
 obtain⟨b,a,_⟩:=pL hp;have c:=wF hx b;have d:=wF hy a;unfold kO;rw[Lu hx b,Lu hy a];simp only[ob,u2];rw[dm (by simp only[aI,bU];omega)];simp only[];rw[dm (by simp only[aV,aI,bU];omega)];simp only[gx,fK,eo]
def Ef{k:Int}{D:TD}{KF:Int}{DF:TD}{KT:Int}{DT:TD}{e l:Bool}{I:List TI}(h:RightP k D KF DF KT DT e l I):(fA k D KF DF KT DT e l I).2=0:=by
 cases h with
 | single hs hc=>rw[(tX hs hc).first]
 | interval hx hy hp=>rw[(qQ hx hy hp).first]
 | set P hs=>exact P.set
def Xa{k:Int}{D:TD}{KF:Int}{DF:TD}{KT:Int}{DT:TD}{e l:Bool}{I:List TI}(h:RightP k D KF DF KT DT e l I):smE D DF DT I:=by
 cases h with
 | single hs hc=>exact⟨hs,ow,ow,λt a=>by cases a⟩
 | interval hx hy hp=>exact⟨ow,hx,hy,λt a=>by cases a⟩
 | set P hs=>exact⟨ow,ow,ow,hs⟩
def NS{k:Int}{D:TD}{KF:Int}{DF:TD}{KT:Int}{DT:TD}{e l:Bool}{I:List TI}(hs:smE D DF DT I):
  kw 20000000 k D KF DF KT DT e l I=some (if(fA k D KF DF KT DT e l I).2=0 then(uX k D KF DF KT DT e l I,0)else([],(fA k D KF DF KT DT e l I).2)):=by
 unfold kw;rw[yz hs];by_cases a:(fA k D KF DF KT DT e l I).2=0
 ·rw[ae a,a];have P:=vY hs a;simp only[ob,fU,af,ou];cases P with
  | single hx hc=>
   rw[show((1:Int)==1)=true from rfl,ah];unfold my uX;rw[ae rfl,dfT hx hc];simp only[ob,u2]
  | interval hx hy hp=>
   rw[show((2:Int)==1)=false from rfl,af,show((2:Int)==2)=true from rfl,ah,IR hx hy hp];unfold uX;rw[ad,ae rfl]
  | set P hi=>
   have b:=P.kind;have c:=WV (K:=k) (KF:=0) (KT:=0) (e:=e) (l:=l) hs;rw[ae (show Fh k from b),ae a]at c;rw[c];unfold uX;rw[ab (by rcases b with rfl | rfl<;>omega),ab (by rcases b with rfl | rfl<;>omega)];generalize vR k e l I=w;rcases b with rfl | rfl<;>rfl
 ·rw[ab a];simp only[ob];rw[show((fA k D KF DF KT DT e l I).2 != 0)=true from Am.2 a,ah]
def I6{k:Int}{D:TD}{KF:Int}{DF:TD}{KT:Int}{DT:TD}{e l:Bool}{I:List TI}(h:RightP k D KF DF KT DT e l I):
  kw 20000000 k D KF DF KT DT e l I=some (uX k D KF DF KT DT e l I,0):=by
 rw[NS (Xa h),ae (Ef h)]
def ach{a b:Int}:a<=mx a b/\b<=mx a b:=by unfold mx;split<;>omega
def ab4(D:TD)(KF:Int)(DF:TD)(KT:Int)(DT:TD):lvE 1 D KF DF KT DT=lvX D:=by unfold lvE;rw[ae rfl]
def ofX:(Nat×Nat)⊕(Int×TD×Int×TD×Int×TD×Int)⊕(Int×Bool×Bool×List TI)->Int×Int×Int
 | .inl f=>(0,(f.1:Int),(f.2:Int))
 | .inr (.inl (K,D,KF,DF,KT,DT,L))=>(L,0,0)
 | .inr (.inr (K,e,l,I))=>(2,0,0)
def Q1{S:aa}(a:S.length<=16384):jt 20000000 S=some (ofX (oU S)):=by
 unfold jt;rw[Up a];generalize oU S=y;rcases y with f | ⟨K,D,KF,DF,KT,DT,L⟩ | ⟨K,e,l,I⟩<;>rfl
def S9{k:Int}{D:TD}{KF:Int}{DF:TD}{KT:Int}{DT:TD}{e l:Bool}{I:List TI}(h:RightP k D KF DF KT DT e l I):ofX (oU (uX k D KF DF KT DT e l I))=(lvE k D KF DF KT DT,0,0):=by
 rw[I7 h];unfold exOf;by_cases a:k=1\/k=2
 ·rw[ae a];rfl
 ·rw[ab a];show((2:Int),(0:Int),(0:Int))=_;unfold lvE;rw[ad,ad]
def PC{k:Int}(a:Fh k)(D:TD)(KF:Int)(DF:TD)(KT:Int)(DT:TD):lvE k D KF DF KT DT=2:=by
 have a:k=3\/k=4:=a;unfold lvE;rw[ad,ad]
def I9{k:Int}{D:TD}{KF:Int}{DF:TD}{KT:Int}{DT:TD}{e l:Bool}{I:List TI}(h:RightP k D KF DF KT DT e l I)(a:¬Fh k):(uX k D KF DF KT DT e l I).length<=16384:=by
 cases h with
 | single hs hc=>exact BL (.single hs hc) (by simp)
 | interval hx hy hp=>exact BL (.interval hx hy hp) (by simp)
 | set P hs=>exact absurd P.kind a
def JP{k:Int}{D:TD}{KF:Int}{DF:TD}{KT:Int}{DT:TD}{e l:Bool}{I:List TI}(hs:smE D DF DT I):
  kC 20000000 k D KF DF KT DT e l I=some (if(fA k D KF DF KT DT e l I).2=0 then(lvE k D KF DF KT DT,0)else(0,(fA k D KF DF KT DT e l I).2)):=by
 unfold kC;rw[yz hs];by_cases a:(fA k D KF DF KT DT e l I).2=0
 ·rw[ae a,a];have P:=vY hs a;simp only[ob,fU,af];by_cases b:Fh k
  ·rw[PC b];rcases b with rfl | rfl<;>rfl
  ·have f:(k==3)=false:=aL.2 λh=>b (.inl h);have c:(k==4)=false:=aL.2 λh=>b (.inr h);have d:=I9 P b;rw[f,c,af,af,I6 P];simp only[u2];rw[Q1 d,S9 P]
 ·rw[ab a];simp only[ob];rw[show((fA k D KF DF KT DT e l I).2 != 0)=true from Am.2 a,ah]
def Mc{k:Int}{D:TD}{KF:Int}{DF:TD}{KT:Int}{DT:TD}{e l:Bool}{I:List TI}(h:RightP k D KF DF KT DT e l I):
  kC 20000000 k D KF DF KT DT e l I=some (lvE k D KF DF KT DT,0):=by
 rw[JP (Xa h),ae (Ef h)]
def Ui{L:List TD}(h:okDs L)(j:L.length<=1000000):∀(r i:Nat) (w:Int),i+r=L.length->∀N,r<N->
  av (ci 20000000) N (w,(i:Int),L)=some (mxL w (L.drop i)):=by
 intro r
 induction r with
 | zero=>
  intro i w hi N g;obtain⟨N,rfl⟩:∃k,N=k+1:=⟨N - 1,by omega⟩;obtain rfl:i=L.length:=by omega
  have:ci 20000000 (w,(L.length:Int),L)=some (.inr w):=by
   unfold ci;simp only[u3,u2];rw[au (show¬(L.length:Int)<len L by show¬(L.length:Int)<(L.length:Int);omega)];rfl
  rw[av,this,tg];rfl
 | succ r ih=>
  intro i w hi N g;obtain⟨N,rfl⟩:∃k,N=k+1:=⟨N - 1,by omega⟩;have a:i<L.length:=by omega
  have d:L[i]?=some L[i]:=ba a;obtain⟨b,c⟩:=h _ (tG a);have e:L.drop i=L[i]::L.drop (i+1):=qj a;generalize L[i]=x at d b c e;have:ci 20000000 (w,(i:Int),L)=some (.inl (mx (lvX x) w,((i+1:Nat):Int),L)):=by
   unfold ci;simp only[u3,u2];rw[ar (show(i:Int)<len L by show(i:Int)<(L.length:Int);omega),dh a];have f:ap10 (gF 20000000) x=some (gC x):=rfT b c;simp only[ah,ob,d,f,(Xi b c).2];rw[lU (by omega),Wv]
  rw[av,this];simp only[];rw[ih (i+1) _ (by omega) N (by omega),e];simp only[mxL,List.foldl]
def Ie{k:Int}{D:TD}{KF:Int}{DF:TD}{KT:Int}{DT:TD}{e l:Bool}{I:List TI}(h:RightP k D KF DF KT DT e l I)(r:I.length<=300):
  lG 20000000 k D KF DF KT DT e l I=some (lvE k D KF DF KT DT):=by
 have p:=vL (I:=I) (by omega) k D KF DF KT DT e l;have a:=QC h;have q:=wA I;have f:=zE h;unfold lG;by_cases b:Fh k
 ·rw[PC b];rcases b with rfl | rfl<;>rfl
 ·have o:(k==3)=false:=aL.2 λh=>b (.inl h);have m:(k==4)=false:=aL.2 λh=>b (.inr h);have n:(datE k D KF DF KT DT I).length<=1000000:=by
   have i:k=1\/k=2:=by
    cases h with
    | single=>exact .inl rfl
    | interval=>exact .inr rfl
    | set P=>exact absurd P.kind b
   obtain⟨_,_,rfl⟩:=few h i;have:=RL k D KF DF KT DT (I:=[]) (by simp);omega
  rw[o,m,af,af,p];have j:=λ(w:Int)=>Ui f n (datE k D KF DF KT DT I).length 0 w (by omega) 20000000 (by omega);generalize datE k D KF DF KT DT I=d at *;generalize lvE k D KF DF KT DT=v at *;simp only[cM,show((0:Nat):Int)=0 from rfl]at j;simp only[ob,j];cases h with
  | single hs hc=>
   have a:mxL 0 d=v:=by rw[<-a];rfl
   rw[show((1:Int)==2)=false from rfl,af,a]
  | interval hx hy hp=>
   rw[show((2:Int)==2)=true from rfl,ah];by_cases c:KF=1
   ·by_cases g:KT=1
    ·have a:mxL 0 d=v:=by rw[<-a];unfold yi;rw[ad,ad]
     rw[a];simp[c,g]
    ·have a:mxL 1 d=v:=by rw[<-a];unfold yi;rw[ad,ae ⟨rfl,.inr g⟩]
     rw[a,show(KT != 1)=true from Am.2 g];simp[c]
   ·have a:mxL 1 d=v:=by rw[<-a];unfold yi;rw[ad,ae ⟨rfl,.inl c⟩]
    rw[a,show(KF != 1)=true from Am.2 c];simp
  | set P=>exact absurd P.kind b
def TW:aZ 20000000=some true:=by kernel_rfl
end Go.Sh
