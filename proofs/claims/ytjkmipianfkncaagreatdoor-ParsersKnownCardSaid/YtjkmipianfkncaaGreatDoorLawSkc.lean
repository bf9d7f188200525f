
import Derived.Test.YtjkmipianfkncaaGreatDoorLawSkb
set_option linter.unusedVariables false
set_option linter.unusedSimpArgs false
set_option maxRecDepth 100000
open Go.IntKind(wrap)
set_option linter.defProp false
namespace Go.Sh
open Go.Abs
def tdR(r:DR):TD:=(r.1,r.2.1,r.2.2.1,(r.2.2.2.1:Int),(r.2.2.2.2.1:Int),r.2.2.2.2.2.1,r.2.2.2.2.2.2.1,(r.2.2.2.2.2.2.2.1.1:Int),(r.2.2.2.2.2.2.2.1.2.1:Int),(r.2.2.2.2.2.2.2.1.2.2:Int))
def ip{S:aa}{a:Nat}(h:a<=S.length){r:DR}(f:bZ S a=.inr r):smT (tdR r)/\cF (tdR r)=0/\a<=enR r/\enR r<=S.length:=by
 obtain⟨c,b⟩:=AM h f;obtain⟨g,l,dg,x,s,m,d,M,P,e⟩:=r;have ok:=AI h c;have:=ok.dg17;have:=ok.m2;have:=ok.d2;refine⟨⟨by show m.length<=18;omega,by show dg.length<=100;omega,by show d.length<=18;omega,by show(0:Int)<=(M.1:Int);omega,by show(0:Int)<=(M.2.1:Int);omega,by show(0:Int)<=(M.2.2:Int);omega⟩,?_,ok.le,ok.end_⟩;have hc:=ut (g:=g) (l:=l) (dg:=dg) (x:=(x:Int)) (q:=(s:Int)) (m:=m) (d:=d) (k0:=(M.1:Int)) (k1:=(M.2.1:Int)) (k2:=(M.2.2:Int)) (wR ok.all);unfold chkR at b;simp only[]at b;show chkF g l dg (x:Int) (s:Int) m d (M.1:Int) (M.2.1:Int) (M.2.2:Int)=0;omega
def dts(l:aa):Bool:=l.take 2==[46,46]
def sA{l:aa}:dts l=true↔∃r,l=46::46::r:=by
 unfold dts;rw[bu];constructor
 ·exact Ie
 ·rintro⟨r,rfl⟩;rfl
def mz{S:aa}{p:Nat}(h:dts (S.drop p)=true):p+2<=S.length:=by
 obtain⟨r,a⟩:=sA.1 h;have:=cb List.length a;simp at this;omega
noncomputable def lp(S:aa)(en:UInt8)(p:Nat):(Nat×Nat×Nat)⊕(TI×Nat×Nat):=
 match bZ S p with
 | .inl f=>.inl f
 | .inr r=>if dts (S.drop (enR r))=true/\(S.drop (enR r+2)).head?≠some en then
   match bZ S (enR r+2)with
   | .inl f=>.inl f
   | .inr a=>.inr (mkI (tdR r) true (tdR a),plR r,enR a)
  else .inr (mkI (tdR r) false d0,plR r,enR r)
def xF{S:aa}{en:UInt8}{p:Nat}(h:p<=S.length){t:TI}{a c:Nat}(b:lp S en p=.inr (t,a,c)):smI t/\p<=c/\c<=S.length:=by
 unfold lp at b;cases d:bZ S p with
 | inl f=>rw[d]at b;cases b
 | inr r=>
  obtain⟨g,_,j,k⟩:=ip h d;rw[d]at b;simp only[]at b;split at b
  ·rename_i hd;have:=mz hd.1;cases e:bZ S (enR r+2)with
   | inl f=>rw[e]at b;cases b
   | inr m=>
    obtain⟨i,_,l3,l⟩:=ip (by omega) e;rw[e]at b;cases b;exact⟨⟨g,i⟩,by omega,l⟩
  ·cases b;exact⟨⟨g,lh⟩,j,k⟩
noncomputable def ks(S:aa)(en:UInt8):Nat->Nat->List Nat->List TI->(Nat×Nat×Nat)⊕(Nat×List Nat×List TI)
 | 0,p,_,_=>.inl (p,3,p)
 | r+1,p,P,I=>match lp S en p with
  | .inl f=>.inl f
  | .inr (t,a,b)=>if(S.drop b).head?=some 44 then ks S en r (b+1) (P++[a]) (I++[t])else .inr (b,P++[a],I++[t])
def fS{S:aa}{p:Nat}{c:UInt8}(h:(S.drop p).head?=some c):p+1<=S.length:=by
 cases hd:S.drop p with
 | nil=>rw[hd]at h;cases h
 | cons a r=>
  have:=cb List.length hd;simp at this;omega
def ud{S:aa}{en:UInt8}:∀(r p:Nat) (P:List Nat) (I:List TI),p<=S.length->P.length=I.length->(∀t∈I,smI t)->∀{c:Nat} {d:List Nat} {b:List TI},ks S en r p P I=.inr (c,d,b)->
  c<=S.length/\d.length=b.length/\I.length<b.length/\b.length<=I.length+r/\(∀t∈b,smI t)
 | 0,p,P,I,_,_,_,c,d,b,e=>by cases e
 | r+1,p,P,I,h,i,hs,c,d,b,e=>by
  rw[ks]at e;cases g:lp S en p with
  | inl f=>rw[g]at e;cases e
  | inr q=>
   obtain⟨t,a,j⟩:=q;obtain⟨l,y,k⟩:=xF h g;rw[g]at e;simp only[]at e;have hs':∀u∈I++[t],smI u:=λu x=>by
    rcases mF.1 x with h | h
    ·exact hs u h
    ·rw[uS.1 h];exact l
   split at e
   ·rename_i s;obtain⟨w,m,n,v,o⟩:=ud r (j+1) (P++[a]) (I++[t]) (fS s) (by simp[i]) hs' e;rw[bw,ya]at n v;exact⟨w,m,by omega,by omega,o⟩
   ·cases e;exact⟨k,by simp[i],by simp,by simp,hs'⟩
def dts3(S:aa)(p:Nat)(c:UInt8):((S.drop p).take [46,46,c].length==[46,46,c])=(dts (S.drop p)&&decide ((S.drop (p+2)).head?=some c)):=by
 rw[<-i7];generalize S.drop p=l;unfold dts
 match l with
 | []=>rfl
 | [a]=>simp
 | [a,b]=>simp
 | a::b::d::r=>
  rw[r7];simp[and_assoc]
def endC(K:Int):UInt8:=if K=4 then 125 else 93
def FD{K:Int}(a:K=3\/K=4)(n:Nat):lP n K=some ([if K=4 then 123 else 91],[endC K]):=by
 rcases a with rfl | rfl<;>rfl
def U5(c:UInt8){S:aa}{p:Nat}(h:p<=S.length)(g i:Int)(f:Bool)(a:List Int)(d:TD)(e b:List TI):
  lT 20000000 [c] g S (p:Int) i f a d e b=some ([c],g,dts (S.drop p)&&!decide ((S.drop (p+2)).head?=some c),S,(p:Int),i,f,a,d,e,b):=by
 unfold lT;rw[LX _ _ _ _ h];have hc:cat [46,46] [c]=some [46,46,c]:=rfl;simp only[ob,hc,LX _ _ _ _ h,dts3];show cond (dts (S.drop p)) _ _=_;cases hd:dts (S.drop p)
 ·rfl
 ·cases decide ((S.drop (p+2)).head?=some c)<;>rfl
def tk1(l:aa)(c:UInt8):l.take [c].length=[c]↔l.head?=some c:=by
 cases l<;>simp
def CM(S:aa)(r:DR):Vx S (.inr r)=.inr ((tdR r).1,(tdR r).2.1,(tdR r).2.2.1,(tdR r).2.2.2.1,(tdR r).2.2.2.2.1,(tdR r).2.2.2.2.2.1,(tdR r).2.2.2.2.2.2.1,(tdR r).2.2.2.2.2.2.2.1,(tdR r).2.2.2.2.2.2.2.2.1,(tdR r).2.2.2.2.2.2.2.2.2,((plR r:Nat):Int),S,((enR r:Nat):Int)):=rfl
def U2(b:Bool)(c:UInt8){S:aa}{p:Nat}(h:p<=S.length)(q:S.length<100000)(o:b=true->dts (S.drop p)=true)(k j:Int)(d:Bool)(i:List Int)(g:TD)(e a:List TI):
  lO 20000000 [c] k b S (p:Int) j d i g e a=some (if b=true then(match bZ S (p+2)with
   | .inl f=>.inl ((f.1:Int),(f.2.1:Int),S,(f.2.2:Int))
   | .inr r=>.inr ([c],k,S,((enR r:Nat):Int),j,d,i,g,true,tdR r,e,a))else .inr ([c],k,S,(p:Int),j,d,i,g,false,d0,e,a)):=by
 unfold lO;cases b
 ·rfl
 ·have hd:=o rfl;have m:=mz hd;have l:(S.drop p).take [(46:UInt8),46].length=[46,46]:=by
   obtain⟨r,n⟩:=sA.1 hd;rw[n];rfl
  rw[aj,Ap _ _ _ _ h (by omega) (by simp) (by simp),ae l,ae rfl];show obs (iw 20000000 S ((p+2:Nat):Int)) _ _=_;rw[Fp S (p+2) m q];cases bZ S (p+2)with
  | inl f=>rfl
  | inr r=>rfl
def qW{α:Type}{I:List α}(h:I.length<=256):Nat.ble (I.length+1) gI=true:=dT (by unfold gI;omega)
abbrev hJ(P:List Nat):List Int:=P.map λk:Nat=>(k:Int)
def SN(c:UInt8){S:aa}{p:Nat}(h:p<=S.length)(u:S.length<100000)(K:Int)(e:Bool){P:List Nat}(J:List TI){I:List TI}(B:I.length<256)(C:P.length=I.length):
  fb 20000000 ([c],S,(p:Int),K,e,hJ P,J,I)=some (match lp S c p with
   | .inl f=>.inr (.inl ((f.1:Int),(f.2.1:Int),S,(f.2.2:Int)))
   | .inr (t,a,b)=>if(S.drop b).head?=some 44 then .inl ([c],S,((b+1:Nat):Int),K,e,hJ (P++[a]),J,I++[t])
    else .inr (.inr ([c],S,((if dts (S.drop b)then b+2 else b:Nat):Int),0,d0,0,d0,0,d0,false,false,K,d0,0,d0,0,d0,e,dts (S.drop b),hJ (P++[a]),J,I++[t]))):=by
 have k:∀(t:TI) (a b:Nat),b<=S.length->(ob (aA 20000000 [44] S (b:Int)) (u3 λn j l=>(cond n (some (.inl ([c],j,l,K,e,(hJ P++([(a:Int)]:List (Int))),J,(I++([t]:List TI))))) (ob (aA 20000000 [46,46] j l) (u3 λm d g=>(cond m (some (.inr (.inr ([c],d,g,0,d0,0,d0,0,d0,false,false,K,d0,0,d0,0,d0,e,true,(hJ P++([(a:Int)]:List (Int))),J,(I++([t]:List TI)))))) (some (.inr (.inr ([c],d,g,0,d0,0,d0,0,d0,false,false,K,d0,0,d0,0,d0,e,false,(hJ P++([(a:Int)]:List (Int))),J,(I++([t]:List TI))))))))))):Option ((aa×aa×Int×Int×Bool×List (Int)×List TI×List TI)⊕((Int×Int×aa×Int)⊕(aa×aa×Int×Int×TD×Int×TD×Int×TD×Bool×Bool×Int×TD×Int×TD×Int×TD×Bool×Bool×List (Int)×List TI×List TI)))) =
   some (if(S.drop b).head?=some 44 then .inl ([c],S,((b+1:Nat):Int),K,e,hJ (P++[a]),J,I++[t])
    else .inr (.inr ([c],S,((if dts (S.drop b)then b+2 else b:Nat):Int),0,d0,0,d0,0,d0,false,false,K,d0,0,d0,0,d0,e,dts (S.drop b),hJ (P++[a]),J,I++[t]))):=by
  intro t a b i;have w:hJ (P++[a])=hJ P++[(a:Int)]:=by simp[hJ]
  rw[nh _ _ _ _ i (by omega),w];simp only[ob,u3,u2,tk1];by_cases hc:(S.drop b).head?=some 44
  ·rw[ae hc,ae hc];rfl
  ·rw[ab hc,ab hc];simp only[af];rw[nh _ _ _ _ i (by omega)];cases hd:dts (S.drop b)
   ·rw[ab (show¬(S.drop b).take [(46:UInt8),46].length=[46,46]fromλh=>by unfold dts at hd;rw[show(S.drop b).take 2=[46,46]from h]at hd;cases hd)];rfl
   ·rw[ae (show(S.drop b).take [(46:UInt8),46].length=[46,46]from eq_of_beq hd)];rfl
 unfold fb;simp only[u8,u7,u6,u5,u4,u3,u2];rw[show(len I==256)=false from by show(((I.length:Nat):Int)==256)=false;simp;omega,af,Fp S p h u];unfold lp;cases x:bZ S p with
 | inl f=>rfl
 | inr r=>
  obtain⟨D,_,A,o⟩:=ip h x;rw[CM];simp only[obs,sm,ob];rw[show(d4 (d8 ((tdR r).1,(tdR r).2.1,(tdR r).2.2.1,(tdR r).2.2.2.1,(tdR r).2.2.2.2.1,(tdR r).2.2.2.2.2.1,(tdR r).2.2.2.2.2.2.1,(tdR r).2.2.2.2.2.2.2.1,(tdR r).2.2.2.2.2.2.2.2.1,(tdR r).2.2.2.2.2.2.2.2.2,((plR r:Nat):Int),S,((enR r:Nat):Int))))=((enR r:Nat):Int)from rfl,U5 c o];simp only[u11,u10,u9,u8,u7,u6,u5,u4,u3,u2];rw[U2 _ c o u (λh=>by simp at h;exact h.1)];have s:(dts (S.drop (enR r))&&!decide ((S.drop (enR r+2)).head?=some c))=true↔(dts (S.drop (enR r))=true/\(S.drop (enR r+2)).head?≠some c):=by simp
  by_cases hd:dts (S.drop (enR r))=true/\(S.drop (enR r+2)).head?≠some c
  ·rw[ae (s.2 hd),ae hd];cases v:bZ S (enR r+2)with
   | inl f=>rfl
   | inr q=>
    obtain⟨z,_,l3,y⟩:=ip (mz hd.1) v;simp only[u12,u11,u10,u9,u8,u7,u6,u5,u4,u3,u2];rw[qW (by omega),qW (by simp;omega)];exact k (mkI (tdR r) true (tdR q)) (plR r) (enR q) y
  ·rw[ab (λh=>hd (s.1 h)),ab hd];simp only[u12,u11,u10,u9,u8,u7,u6,u5,u4,u3,u2];rw[qW (by omega),qW (by simp;omega)];exact k (mkI (tdR r) false d0) (plR r) (enR r) o
def Rb(c:UInt8)(S:aa)(p K:Int)(e:Bool)(P:List Int)(J:List TI){I:List TI}(a:I.length=256):
  fb 20000000 ([c],S,p,K,e,P,J,I)=some (.inr (.inl (p,3,S,p))):=by
 unfold fb;simp only[u8,u7,u6,u5,u4,u3,u2];rw[show(len I==256)=true from by show(((I.length:Nat):Int)==256)=true;rw[a];rfl];rfl
def WJ(S:aa)(c:UInt8)(K:Int)(e:Bool)(J:List TI):(Nat×Nat×Nat)⊕(Nat×List Nat×List TI)->(Int×Int×aa×Int)⊕(aa×aa×Int×Int×TD×Int×TD×Int×TD×Bool×Bool×Int×TD×Int×TD×Int×TD×Bool×Bool×List (Int)×List TI×List TI)
 | .inl f=>.inl ((f.1:Int),(f.2.1:Int),S,(f.2.2:Int))
 | .inr (p,P,I)=>.inr ([c],S,((if dts (S.drop p)then p+2 else p:Nat):Int),0,d0,0,d0,0,d0,false,false,K,d0,0,d0,0,d0,e,dts (S.drop p),hJ P,J,I)
def Tm(c:UInt8){S:aa}(j:S.length<100000)(K:Int)(e:Bool)(J:List TI):∀(r p:Nat) (P:List Nat) (I:List TI),I.length+r=256->p<=S.length->P.length=I.length->∀N,r<N->
  au (fb 20000000) N ([c],S,(p:Int),K,e,hJ P,J,I)=some (WJ S c K e J (ks S c r p P I)):=by
 intro r
 induction r with
 | zero=>
  intro p P I i hp b N g;obtain⟨N,rfl⟩:∃k,N=k+1:=⟨N - 1,by omega⟩;rw[au,Rb c S _ K e _ J (by omega)];rfl
 | succ r ih=>
  intro p P I i hp b N g;obtain⟨N,rfl⟩:∃k,N=k+1:=⟨N - 1,by omega⟩;rw[au,SN c hp j K e J (by omega) b,ks];cases h:lp S c p with
  | inl f=>rfl
  | inr q=>
   obtain⟨t,a,d⟩:=q;obtain⟨_,l,m⟩:=xF hp h;simp only[];by_cases hc:(S.drop d).head?=some 44
   ·rw[ae hc,ae hc];exact ih (d+1) (P++[a]) (I++[t]) (by simp;omega) (fS hc) (by simp[b]) N (by omega)
   ·rw[ab hc,ab hc];rfl
def vY{X a Y b:Type}{s:X->Option (X⊕Y)}{s':a->Option (a⊕b)}(f:X->a)(g:Y->b)(h:∀x,s' (f x)=(s x).map (Sum.map f g)):∀(n:Nat) (x:X),au s' n (f x)=(au s n x).map g
 | 0,_=>rfl
 | n+1,x=>by
  rw[au,au,h];cases s x with
  | none=>rfl
  | some z=>
   cases z with
   | inl y=>exact vY f g h n y
   | inr y=>rfl
def Q0(n:Nat)(K:Int)(D:TD)(KF:Int)(DF:TD)(KT:Int)(DT:TD)(c:Nat)(e l:Bool)(L:List TI):mW n K D KF DF KT DT L.length c e l L=nL n K D KF DF KT DT e l L:=by
 unfold mW nL;have:=vY (s:=gk n) (s':=jX n) (u12 λq f d g p o h m k j b a=>(d.length,c,q,f,d,g,p,o,h,m,k,d.length,c,j,b,a)) id (by
  rintro⟨q,f,d,g,p,o,h,m,k,j,b,a⟩;unfold gk jX;simp only[u16,u15,u14,u13,u12,u11,u10,u9,u8,u7,u6,u5,u4,u3,u2];cases decide (f<q)
  ·rfl
  ·simp only[aj];cases ix d.length f with
   | none=>rfl
   | some i=>
    simp only[ob];cases d[i]? with
    | none=>rfl
    | some t=>
     simp only[ob];cases fX n (iF t) (d8 t).2.2.1 (d8 t).2.2.2 g with
     | none=>rfl
     | some v=>
      simp only[ob];rw[show mE n v 10 10 10 (iF t) (d8 t).2.2.1 (d8 t).2.2.2 g p o h m k d.length c j b f a d=iM n v 10 10 10 (iF t) (d8 t).2.2.1 (d8 t).2.2.2 g p o h m k j b f a d from rfl];cases iM n v 10 10 10 (iF t) (d8 t).2.2.1 (d8 t).2.2.2 g p o h m k j b f a d with
      | none=>rfl
      | some z=>
       simp only[ob];cases(z != 0)<;>rfl) n (len L,0,L,K,D,KF,DF,KT,DT,e,l,w64 (len L - 1))
 simp only[u12,u11,u10,u9,u8,u7,u6,u5,u4,u3,u2]at this;rw[show(L.length,c,((L.length:Nat):Int),(0:Int),L,K,D,KF,DF,KT,DT,L.length,c,e,l,w64 (((L.length:Nat):Int) - 1))=(L.length,c,len L,0,L,K,D,KF,DF,KT,DT,L.length,c,e,l,w64 (len L - 1))from rfl,this];rw[Option.map_id];rfl
def SA(n:Nat)(K:Int)(D:TD)(KF:Int)(DF:TD)(KT:Int)(DT:TD)(c:Nat)(e l:Bool)(L:List TI):gj n K D KF DF KT DT L.length c e l L=lC n K D KF DF KT DT e l L:=by
 unfold gj lC;rw[Q0,show od n K D KF DF KT DT L.length c e l L=my n K D KF DF KT DT e l L from rfl]
def zr{K:Int}{D:TD}{KF:Int}{DF:TD}{KT:Int}{DT:TD}{e l:Bool}{L:List TI}(h:smE D DF DT L)(c:Nat):
  gj 20000000 K D KF DF KT DT L.length c e l L=some (kx K D KF DF KT DT e l L):=(SA _ _ _ _ _ _ _ _ _ _ _).trans (F7 h)
def ID{K:Int}{D:TD}{KF:Int}{DF:TD}{KT:Int}{DT:TD}{e l:Bool}{L:List TI}(h:smE D DF DT L)(c:Nat):
  kR 20000000 K D KF DF KT DT L.length c e l L=some (kx K D KF DF KT DT e l L).2:=by
 unfold kR;rw[zr h];rfl
noncomputable def setE(K:Int)(e l:Bool)(I:List TI):Int×Int:=kx K d0 0 d0 0 d0 e l I
noncomputable def endL(S:aa)(K:Int)(e:Bool)(p:Nat)(P:List Nat)(I:List TI):(Nat×Nat×Nat)⊕(Int×Bool×Bool×List TI×Nat):=
 if(S.drop (if dts (S.drop p)then p+2 else p)).head?=some (endC K)then
  if(setE K e (dts (S.drop p)) I).2=0 then .inr (K,e,dts (S.drop p),I,(if dts (S.drop p)then p+2 else p)+1)
  else .inl (P.getD (setE K e (dts (S.drop p)) I).1.toNat 0,10,(if dts (S.drop p)then p+2 else p)+1)
 else .inl ((if dts (S.drop p)then p+2 else p),5,(if dts (S.drop p)then p+2 else p))
noncomputable def tQ(S:aa)(a:Nat)(K:Int):(Nat×Nat×Nat)⊕(Int×Bool×Bool×List TI×Nat):=
 match ks S (endC K) 256 (if dts (S.drop (a+1))then a+3 else a+1) [] []with
 | .inl f=>.inl f
 | .inr (p,P,I)=>endL S K (dts (S.drop (a+1))) p P I
noncomputable def ox(S:aa)(a:Nat):(Nat×Nat×Nat)⊕(Int×Bool×Bool×List TI×Nat):=
 if(S.drop a).head?=some 91 then tQ S a 3 else if(S.drop a).head?=some 123 then tQ S a 4 else .inl (a,5,a)
def KO{K:Int}(b:K=3\/K=4){e l:Bool}{I:List TI}(a:1<=I.length):∃i:Nat,(setE K e l I).1=(i:Int)/\i<I.length:=by
 have hi:∃i:Nat,(ve K e l I).1=(i:Int)/\i<I.length:=by
  unfold ve;have:∀(J:List TI) (k:Nat) (p:Nat×Int),nP (errI K e l I.length) k J=some p->p.1<k+J.length:=by
   intro J
   induction J with
   | nil=>intro k p h;cases h
   | cons t r ih=>
    intro k p h;rw[nP]at h;split at h
    ·cases h;simp
    ·have:=ih (k+1) p h;simp;omega
  cases hs:nP (errI K e l I.length) 0 I with
  | none=>exact⟨0,rfl,by omega⟩
  | some p=>exact⟨p.1,rfl,by have:=this I 0 p hs;omega⟩
 unfold setE kx;rw[ab (by omega)];split
 ·exact⟨0,rfl,by omega⟩
 ·rw[ab (by omega),ab (by omega),ab (by omega)];split
  ·exact⟨0,rfl,by omega⟩
  ·exact hi
def LE{I:List TI}(h:∀t∈I,smI t):smE d0 d0 d0 I:=⟨lh,lh,lh,h⟩
def XO(n:Nat)(I:List TI):bA n I=some (I.length,I.length):=by
 unfold bA;rw[fC (aQ _)];show ob (bx I.length ((I.length:Nat):Int)) _=_;rw[fC (aQ _)];rfl
def QX(S:aa):(Nat×Nat×Nat)⊕(Int×Bool×Bool×List TI×Nat)->(Int×Int×aa×Int)⊕(Int×TD×Int×TD×Int×TD×Nat×Nat×Bool×Bool×aa×Int×List TI)
 | .inl f=>.inl ((f.1:Int),(f.2.1:Int),S,(f.2.2:Int))
 | .inr (K,e,l,I,p)=>.inr (K,d0,0,d0,0,d0,I.length,I.length,e,l,S,(p:Int),I)
def Uo {S:aa} (E:S.length<100000) {K:Int} (y:K=3\/K=4) (e:Bool) {p:Nat} (hp:p<=S.length) {P:List Nat} {I:List TI} (F:P.length=I.length) (C:1<=I.length) (hs:∀t∈I,smI t):
  (obs (bW 20000000 [endC K] S ((if dts (S.drop p) then p+2 else p:Nat):Int)) (u2 λb c=>(ob (bA 20000000 I) (u2 λd f=>(ob (gj 20000000 K d0 0 d0 0 d0 d f e (dts (S.drop p)) I) (u2 λx j=>(cond (j != 0) (ob (ix (List.length (hJ P)) x) λm=>(ob ((hJ P)[m]?) λn=>(ob (aM 20000000 n 10 b c) (u2 λw s=>(some (.inl (w,s,b,c))))))) (some (.inr (K,d0,0,d0,0,d0,d,f,e,(dts (S.drop p)),b,c,I))))))))) (u4 λu o v k=>(some (.inl (u,o,v,k))))) =
   some (QX S (endL S K e p P I)):=by
 have A:(if dts (S.drop p) then p+2 else p:Nat)<=S.length:=by
  split
  ·rename_i h;exact mz h
  ·exact hp
 unfold endL;generalize (if dts (S.drop p) then p+2 else p:Nat)=q at *;generalize dts (S.drop p)=l;rw [Ap _ _ _ _ A (by omega) (by simp) (by simp)];simp only [tk1];by_cases hc:(S.drop q).head?=some (endC K)
 ·rw [ae hc,ae hc];simp only [obs,sm,ob,u2,XO,zr (LE hs)];obtain ⟨i,B,D⟩:=KO y (e:=e) (l:=l) C;show cond ((setE K e l I).2 != 0) (ob (ix (hJ P).length (setE K e l I).1) _) _=_;by_cases g:(setE K e l I).2=0
  ·rw [ae g,show ((setE K e l I).2 != 0)=false from by simp [g]];rfl
  ·have hi:i<(hJ P).length:=by simp [hJ];omega
   rw [ab g,show ((setE K e l I).2 != 0)=true from by simp [g],B,dW hi];have z:(hJ P)[i]?=some ((P.getD i 0:Nat):Int):=by
    have hi':i<P.length:=by omega
    simp [hJ,bf hi']
   simp only [aj,ob,z];rfl
 ·rw [ab hc,ab hc];have:lcp (S.drop q) [endC K]=0:=by
   cases hd:S.drop q with
   | nil=>rfl
   | cons a r=>
    rw [hd] at hc;simp only [lcp];rw [show (a==endC K)=false from by rw [aK];rintro rfl;exact hc rfl];rfl
  rw [this];rfl
def RI{S:aa}{a:Nat}(h:a<=S.length)(hS:S.length<100000):nr 20000000 S (a:Int)=some (QX S (ox S a)):=by
 have b:∀(K:Int) (y:K=3\/K=4) (i:a+1<=S.length),(ob (m9 20000000 (K==4) S ((a+1:Nat):Int) ([]:List TI) ([]:List TI)) (u5 λv7 v8 v9 v10 Q=>(ob (lP 20000000 v9) (u2 λ_ z=>(ob (aA 20000000 [46,46] v7 v8) (u3 λU H R=>(obs (au (fb 20000000) 20000000 (z,H,R,v9,U,([]:List (Int)),v10,Q)) (u4 λW O L C=>(some (.inl (W,O,L,C)))) (u22 λX T F _ _ _ _ _ _ _ _ s w m x n v u j l _ d=>(obs (bW 20000000 X T F) (u2 λe g=>(ob (bA 20000000 d) (u2 λk o=>(ob (gj 20000000 s w m x n v k o u j d) (u2 λv37 A=>(cond (A != 0) (ob (ix (List.length l) v37) λD=>(ob (l[D]?) λJ=>(ob (aM 20000000 J 10 e g) (u2 λv41 N=>(some (.inl (v41,N,e,g))))))) (some (.inr (s,w,m,x,n,v,k,o,u,j,e,g,d))))))))) (u4 λV M Y B=>(some (.inl (V,M,Y,B))))))))))))) =
   some (QX S (tQ S a K)):=by
  intro K y i;have hj:m9 20000000 (K==4) S ((a+1:Nat):Int) ([]:List TI) ([]:List TI)=some (S,((a+1:Nat):Int),K,[],[]):=by
   rcases y with rfl | rfl<;>rfl
  have E:aA 20000000 [46,46] S ((a+1:Nat):Int)=some (dts (S.drop (a+1)),S,((if dts (S.drop (a+1))then a+3 else a+1:Nat):Int)):=by
   rw[nh _ _ _ _ i (by omega)];cases hd:dts (S.drop (a+1))
   ·rw[ab (show¬(S.drop (a+1)).take [(46:UInt8),46].length=[46,46]fromλh=>by unfold dts at hd;rw[show(S.drop (a+1)).take 2=[46,46]from h]at hd;cases hd)];rfl
   ·rw[ae (show(S.drop (a+1)).take [(46:UInt8),46].length=[46,46]from eq_of_beq hd)];rfl
  have hp:(if dts (S.drop (a+1))then a+3 else a+1:Nat)<=S.length:=by
   split
   ·rename_i h;have:=mz h;omega
   ·exact i
  have hl:=Tm (endC K) hS K (dts (S.drop (a+1))) [] 256 (if dts (S.drop (a+1))then a+3 else a+1) [] [] (by simp) hp rfl 20000000 (by omega);simp only[hj,FD y,E,ob,u5,u4,u3,u2];rw[show au (fb 20000000) 20000000 ([endC K],S,((if dts (S.drop (a+1))then a+3 else a+1:Nat):Int),K,dts (S.drop (a+1)),([]:List Int),([]:List TI),([]:List TI))=_ from hl];unfold tQ;cases hr:ks S (endC K) 256 (if dts (S.drop (a+1))then a+3 else a+1) [] []with
  | inl f=>rfl
  | inr q=>
   obtain⟨p,P,I⟩:=q;obtain⟨q1,q2,q3,q4,q5⟩:=ud 256 _ [] [] hp rfl (λt E=>by cases E) hr;have q3':1<=I.length:=by rw[fR]at q3;omega
   exact Uo hS y (dts (S.drop (a+1))) q1 q2 q3' q5
 unfold nr ox;rw[zO _ _ _ _ h (by omega)];cases hd:S.drop a with
 | nil=>rfl
 | cons c r=>
  have i:a+1<=S.length:=by
   have:=cb List.length hd;simp at this;omega
  simp only[lF,ar];by_cases Z:c=91
  ·subst Z;rw[ae rfl];exact b 3 (.inl rfl) i
  ·by_cases G:c=123
   ·subst G;rw[ae rfl];exact b 4 (.inr rfl) i
   ·rw[ab Z,ab G];have:hasB [91,123] c=false:=by
     unfold hasB;simp only[qA,List.any_nil,wS,oP,aK];exact⟨λh=>Z h.symm,λh=>G h.symm⟩
    rw[this];rfl
def rat(l:aa):Nat:=match l with | c::_=>c.toNat | []=>0
def Lc(n:Nat)(S:aa)(p:Nat):da n S (p:Int)=some ((rat (S.drop p):Nat):Int):=by
 unfold da;rw[aq (show(p:Int)>=0 by omega),aj];by_cases h:p<S.length
 ·have hc:=bf h;rw[aq (show(p:Int)<len S by show(p:Int)<((S.length:Nat):Int);omega),aj,dE hc,bR hc];rfl
 ·rw[am (show¬(p:Int)<len S by show¬(p:Int)<((S.length:Nat):Int);omega),af,iU (by omega)];rfl
def wG(l:aa)(c:UInt8)(hc:c≠0):(((rat l:Nat):Int)==((c.toNat:Nat):Int))=decide (l.head?=some c):=by
 cases l with
 | nil=>
  rw[am (by simp)];rw[aK];intro h;have b:c.toNat=0:=by
   have:((0:Nat):Int)=((c.toNat:Nat):Int):=h;omega
  exact hc (gu.1 (by rw[b];rfl))
 | cons a r=>
  show(((a.toNat:Nat):Int)==((c.toNat:Nat):Int))=_;rw[nM];rw[r7];simp
def rf_w{p:Nat}(k:Nat)(h:p+k<9223372036854775807):w64 ((p:Int)+(k:Int))=((p+k:Nat):Int):=by
 show wrap .i64 _=_;rw[wrap_i64 _ (by omega) (by omega)];omega
def Fv(n:Nat){S:aa}{p:Nat}(f:p<1000000):eH n S (p:Int)=some (if dts (S.drop p)then 1 else 0):=by
 unfold eH;have d:w64 ((p:Int)+1)=((p+1:Nat):Int):=rf_w 1 (by omega);have e:∀q,(((rat (S.drop q):Nat):Int)==46)=decide ((S.drop q).head?=some 46):=λq=>wG (S.drop q) 46 (by decide);have hd:∀b,b=(dts (S.drop p))->(some (if b then(1:Int)else 0))=some (if dts (S.drop p)then 1 else 0):=λb h=>by rw[h]
 simp only[Lc,ob,d,e];rw[<-i7];unfold dts
 match S.drop p with
 | []=>rfl
 | [a]=>
  by_cases h:a=46
  ·subst h;rfl
  ·simp[h]
 | a::b::r=>
  by_cases h:a=46
  ·by_cases c:b=46
   ·subst h c;rfl
   ·subst h;simp[c]
  ·simp[h]
def uA(S:aa)(A:Int)(r:DR):I7 S A (.inr r)=((tdR r).1,(tdR r).2.1,(tdR r).2.2.1,(tdR r).2.2.2.1,(tdR r).2.2.2.2.1,(tdR r).2.2.2.2.2.1,(tdR r).2.2.2.2.2.2.1,(tdR r).2.2.2.2.2.2.2.1,(tdR r).2.2.2.2.2.2.2.2.1,(tdR r).2.2.2.2.2.2.2.2.2,((plR r:Nat):Int),S,((enR r:Nat):Int),0):=rfl
def zn(S:aa)(A:Int)(f:Nat×Nat×Nat):I7 S A (.inl f)=(false,false,[],0,0,[],[],0,0,0,A,S,(f.1:Int),(f.2.1:Int)):=rfl
def Tz(c:UInt8)(hc:c≠0){S:aa}{p:Nat}(hp:p<1000000)(T:aa)(i h d:Int)(g:Bool)(f:List Int)(e:TD)(b a:List TI):
  fP 20000000 S ((c.toNat:Nat):Int) i T (p:Int) h d g f e b a=some (S,((c.toNat:Nat):Int),i,dts (S.drop p)&&!decide ((S.drop (p+2)).head?=some c),T,(p:Int),h,d,g,f,e,b,a):=by
 unfold fP;have j:w64 ((p:Int)+2)=((p+2:Nat):Int):=rf_w 2 (by omega);simp only[Fv 20000000 hp,ob,j,Lc];rw[show(((rat (S.drop (p+2)):Nat):Int) != ((c.toNat:Nat):Int))=!decide ((S.drop (p+2)).head?=some c)from cb _ (wG _ _ hc)];cases dts (S.drop p)<;>rfl
def Vo(b:Bool)(c:Int){S:aa}{p:Nat}(h:p<=S.length)(u:S.length<100000)(t:b=true->dts (S.drop p)=true)(l j:Int)(i:Bool)(g:List Int)(e:TD)(d a:List TI):
  ig 20000000 S c l b S (p:Int) 0 j i g e d a=some (if b=true then(match bZ S (p+2)with
   | .inl f=>.inl (S,(f.1:Int),(f.2.1:Int),[])
   | .inr r=>.inr (S,c,l,S,((enR r:Nat):Int),0,j,i,g,e,true,tdR r,d,a))else .inr (S,c,l,S,(p:Int),0,j,i,g,e,false,d0,d,a)):=by
 unfold ig;cases b
 ·rfl
 ·have hd:=t rfl;have m:=mz hd;have o:w64 ((p:Int)+2)=((p+2:Nat):Int):=rf_w 2 (by omega);obtain⟨A,n⟩:=rx S (p+2) m u;rw[aj,ae rfl,o,n];cases s:bZ S (p+2)with
  | inl f=>
   obtain⟨k,E,q⟩:=f;have v:=qw m s;show cond (((E:Nat):Int) != 0) _ _=_;rw[show(((E:Nat):Int) != 0)=true from by simp;omega];rfl
  | inr r=>rfl
def Q2(c:UInt8)(hc:c≠0){S:aa}{p:Nat}(h:p<=S.length)(l:S.length<100000)(K:Int)(e:Bool){P:List Nat}(J:List TI){I:List TI}(B:I.length<256)(D:P.length=I.length):
  cj 20000000 (S,((c.toNat:Nat):Int),S,(p:Int),0,K,e,hJ P,J,I)=some (match lp S c p with
   | .inl f=>.inr (.inl (0,d0,0,d0,0,d0,false,false,S,(f.1:Int),(f.2.1:Int),[]))
   | .inr (t,a,b)=>if(S.drop b).head?=some 44 then .inl (S,((c.toNat:Nat):Int),S,((b+1:Nat):Int),0,K,e,hJ (P++[a]),J,I++[t])
    else .inr (.inr (S,((c.toNat:Nat):Int),0,d0,0,d0,0,d0,false,false,[],0,0,S,(b:Int),0,K,d0,0,d0,0,d0,e,false,hJ (P++[a]),J,I++[t]))):=by
 have d:∀(t:TI) (a b:Nat),b<=S.length->(ob (da 20000000 S (b:Int)) λg=>(cond (g != 44) (some (.inr (.inr (S,((c.toNat:Nat):Int),0,d0,0,d0,0,d0,false,false,[],0,0,S,(b:Int),0,K,d0,0,d0,0,d0,e,false,(hJ P++([(a:Int)]:List (Int))),J,(I++([t]:List TI)))))) (some (.inl (S,((c.toNat:Nat):Int),S,(w64 ((b:Int)+1)),0,K,e,(hJ P++([(a:Int)]:List (Int))),J,(I++([t]:List TI))))):Option ((aa×Int×aa×Int×Int×Int×Bool×List (Int)×List TI×List TI)⊕((Int×TD×Int×TD×Int×TD×Bool×Bool×aa×Int×Int×List TI)⊕(aa×Int×Int×TD×Int×TD×Int×TD×Bool×Bool×aa×Int×Int×aa×Int×Int×Int×TD×Int×TD×Int×TD×Bool×Bool×List (Int)×List TI×List TI))))) =
   some (if(S.drop b).head?=some 44 then .inl (S,((c.toNat:Nat):Int),S,((b+1:Nat):Int),0,K,e,hJ (P++[a]),J,I++[t])
    else .inr (.inr (S,((c.toNat:Nat):Int),0,d0,0,d0,0,d0,false,false,[],0,0,S,(b:Int),0,K,d0,0,d0,0,d0,e,false,hJ (P++[a]),J,I++[t]))):=by
  intro t a b v;have w:hJ (P++[a])=hJ P++[(a:Int)]:=by simp[hJ]
  have s:w64 ((b:Int)+1)=((b+1:Nat):Int):=rf_w 1 (by omega);rw[Lc,w,s];simp only[ob];rw[show(((rat (S.drop b):Nat):Int) != 44)=!decide ((S.drop b).head?=some 44)from cb _ (wG _ 44 (by decide))];by_cases hc:(S.drop b).head?=some 44
  ·rw[ae hc,aq hc];rfl
  ·rw[ab hc,am hc];rfl
 unfold cj;simp only[u10,u9,u8,u7,u6,u5,u4,u3,u2];obtain⟨A,o⟩:=rx S p h l;rw[show(len I==256)=false from by show(((I.length:Nat):Int)==256)=false;simp;omega,af,o];unfold lp;cases n:bZ S p with
 | inl f=>
  obtain⟨k,E,q⟩:=f;have C:=qw h n;show cond (((E:Nat):Int) != 0) _ _=_;rw[show(((E:Nat):Int) != 0)=true from by simp;omega];rfl
 | inr r=>
  obtain⟨F,_,z,m⟩:=ip h n;rw[uA];show ob (fP 20000000 S ((c.toNat:Nat):Int) ((plR r:Nat):Int) S ((enR r:Nat):Int) 0 K e (hJ P) (tdR r) J I) _=_;rw[Tz c hc (by omega)];simp only[ob,u13,u12,u11,u10,u9,u8,u7,u6,u5,u4,u3,u2];rw[Vo _ _ m l (λh=>by simp at h;exact h.1)];have j:(dts (S.drop (enR r))&&!decide ((S.drop (enR r+2)).head?=some c))=true↔(dts (S.drop (enR r))=true/\(S.drop (enR r+2)).head?≠some c):=by simp
  by_cases hd:dts (S.drop (enR r))=true/\(S.drop (enR r+2)).head?≠some c
  ·rw[ae (j.2 hd),ae hd];cases u:bZ S (enR r+2)with
   | inl f=>rfl
   | inr i=>
    obtain⟨y,_,l3,x⟩:=ip (mz hd.1) u;simp only[obs,sm,ob,u14,u13,u12,u11,u10,u9,u8,u7,u6,u5,u4,u3,u2];rw[qW (by omega),qW (by simp;omega)];exact d (mkI (tdR r) true (tdR i)) (plR r) (enR i) x
  ·rw[ab (λh=>hd (j.1 h)),ab hd];simp only[obs,sm,ob,u14,u13,u12,u11,u10,u9,u8,u7,u6,u5,u4,u3,u2];rw[qW (by omega),qW (by simp;omega)];exact d (mkI (tdR r) false d0) (plR r) (enR r) m
def RN(c p:Int)(S:aa)(K:Int)(e:Bool)(P:List Int)(J:List TI){I:List TI}(a:I.length=256):
  cj 20000000 (S,c,S,p,0,K,e,P,J,I)=some (.inr (.inl (0,d0,0,d0,0,d0,false,false,S,p,3,[]))):=by
 unfold cj;simp only[u10,u9,u8,u7,u6,u5,u4,u3,u2];rw[show(len I==256)=true from by show(((I.length:Nat):Int)==256)=true;rw[a];rfl];rfl
def rfLo(S:aa)(c:UInt8)(K:Int)(e:Bool)(J:List TI):(Nat×Nat×Nat)⊕(Nat×List Nat×List TI)->(Int×TD×Int×TD×Int×TD×Bool×Bool×aa×Int×Int×List TI)⊕(aa×Int×Int×TD×Int×TD×Int×TD×Bool×Bool×aa×Int×Int×aa×Int×Int×Int×TD×Int×TD×Int×TD×Bool×Bool×List (Int)×List TI×List TI)
 | .inl f=>.inl (0,d0,0,d0,0,d0,false,false,S,(f.1:Int),(f.2.1:Int),[])
 | .inr (p,P,I)=>.inr (S,((c.toNat:Nat):Int),0,d0,0,d0,0,d0,false,false,[],0,0,S,(p:Int),0,K,d0,0,d0,0,d0,e,false,hJ P,J,I)
def RV(c:UInt8)(hc:c≠0){S:aa}(j:S.length<100000)(K:Int)(e:Bool)(J:List TI):∀(r p:Nat) (P:List Nat) (I:List TI),I.length+r=256->p<=S.length->P.length=I.length->∀N,r<N->
  au (cj 20000000) N (S,((c.toNat:Nat):Int),S,(p:Int),0,K,e,hJ P,J,I)=some (rfLo S c K e J (ks S c r p P I)):=by
 intro r
 induction r with
 | zero=>
  intro p P I i hp b N g;obtain⟨N,rfl⟩:∃k,N=k+1:=⟨N - 1,by omega⟩;rw[au,RN _ _ S K e _ J (by omega)];rfl
 | succ r ih=>
  intro p P I i hp b N g;obtain⟨N,rfl⟩:∃k,N=k+1:=⟨N - 1,by omega⟩;rw[au,Q2 c hc hp j K e J (by omega) b,ks];cases h:lp S c p with
  | inl f=>rfl
  | inr q=>
   obtain⟨t,a,d⟩:=q;obtain⟨_,l,m⟩:=xF hp h;simp only[];by_cases hc:(S.drop d).head?=some 44
   ·rw[ae hc,ae hc];exact ih (d+1) (P++[a]) (I++[t]) (by simp;omega) (fS hc) (by simp[b]) N (by omega)
   ·rw[ab hc,ab hc];rfl
def KP(S:aa):(Nat×Nat×Nat)⊕(Int×Bool×Bool×List TI×Nat)->Int×TD×Int×TD×Int×TD×Bool×Bool×aa×Int×Int×List TI
 | .inl f=>(0,d0,0,d0,0,d0,false,false,S,(f.1:Int),(f.2.1:Int),[])
 | .inr (K,e,l,I,p)=>(K,d0,0,d0,0,d0,e,l,S,(p:Int),0,I)
def VT(n:Nat)(S:aa)(c:Int)(b:Bool)(p:Nat)(hp:p<1000000)(x:Int)(z:TD)(v:Int)(w:TD)(y:Int)(u:TD)(t g:Bool)(r:aa)(d o:Int)(e:aa)(x16 s:Int)(f:TD)(a:Int)(l:TD)(k:Int)(i:TD)(m:Bool)(j:List Int)(h q:List TI):
  fF n S c b x z v w y u t g r d o e (p:Int) x16 s f a l k i m false j h q=some (S,c,x,z,v,w,y,u,t,g,r,d,o,e,((if b then p+2 else p:Nat):Int),x16,s,f,a,l,k,i,m,b,j,h,q):=by
 unfold fF;cases b
 ·rfl
 ·rw[aj,show w64 ((p:Int)+2)=((p+2:Nat):Int)from rf_w 2 (by omega)];rfl
def UH {S:aa} (A:S.length<100000) {K:Int} (u:K=3\/K=4) (e:Bool) {p:Nat} (hp:p<=S.length) {P:List Nat} {I:List TI} (B:P.length=I.length) (x:1<=I.length) (hs:∀t∈I,smI t):
  (ob (da 20000000 S ((if dts (S.drop p) then p+2 else p:Nat):Int)) λr=>(cond (r != (((endC K).toNat:Nat):Int)) (ob (dC 20000000 S ((if dts (S.drop p) then p+2 else p:Nat):Int) 0 ((if dts (S.drop p) then p+2 else p:Nat):Int) 5) (u3 λg o n=>(some (0,d0,0,d0,0,d0,false,false,g,o,n,([]:List TI))))) (ob (fZ 20000000 K d0 0 d0 0 d0 e (dts (S.drop p)) I) (u2 λm c=>(cond (c != 0) (ob (ix (List.length (hJ P)) m) λd=>(ob ((hJ P)[d]?) λb=>(ob (dC 20000000 S (w64 (((if dts (S.drop p) then p+2 else p:Nat):Int)+1)) 0 b 10) (u3 λf j k=>(some (0,d0,0,d0,0,d0,false,false,f,j,k,([]:List TI))))))) (some (K,d0,0,d0,0,d0,e,(dts (S.drop p)),S,(w64 (((if dts (S.drop p) then p+2 else p:Nat):Int)+1)),0,I))))))) =
   some (KP S (endL S K e p P I)):=by
 have z:(if dts (S.drop p) then p+2 else p:Nat)<=S.length:=by
  split
  ·rename_i h;exact mz h
  ·exact hp
 unfold endL;generalize (if dts (S.drop p) then p+2 else p:Nat)=q at *;generalize dts (S.drop p)=l;have s:w64 ((q:Int)+1)=((q+1:Nat):Int):=rf_w 1 (by omega);rw [Lc,s];simp only [ob];rw [show (((rat (S.drop q):Nat):Int) != (((endC K).toNat:Nat):Int))=!decide ((S.drop q).head?=some (endC K)) from cb _ (wG _ _ (by unfold endC;split<;>decide))];by_cases hc:(S.drop q).head?=some (endC K)
 ·rw [ae hc,aq hc];simp only [ca,af,EO (LE hs),u2];obtain ⟨i,w,y⟩:=KO u (e:=e) (l:=l) x;show cond ((setE K e l I).2 != 0) (ob (ix (hJ P).length (setE K e l I).1) _) _=_;by_cases a:(setE K e l I).2=0
  ·rw [ae a,show ((setE K e l I).2 != 0)=false from by simp [a]];rfl
  ·have hi:i<(hJ P).length:=by simp [hJ];omega
   rw [ab a,show ((setE K e l I).2 != 0)=true from by simp [a],w,dW hi];have v:(hJ P)[i]?=some ((P.getD i 0:Nat):Int):=by
    have hi':i<P.length:=by omega
    simp [hJ,bf hi']
   simp only [aj,ob,v];rfl
 ·rw [ab hc,am hc];rfl
def Q8{S:aa}{a:Nat}(h:a<=S.length)(hS:S.length<100000):kD 20000000 S (a:Int)=some (KP S (ox S a)):=by
 have d:∀(K:Int) (hK:K=3\/K=4) (ha:a+1<=S.length),(ob (eH 20000000 S ((a+1:Nat):Int)) λv8=>(ob (fO 20000000 S (((endC K).toNat:Nat):Int) (v8==1) S ((a+1:Nat):Int) K ([]:List TI) ([]:List TI)) (u8 λv9 v10 v11 z v13 v14 v15 v16=>(obs (au (cj 20000000) 20000000 (v9,v10,v11,z,0,v13,v14,([]:List (Int)),v15,v16)) (u12 λF v18 W v20 v21 v22 G v24 D v26 v27 v28=>(some (F,v18,W,v20,v21,v22,G,v24,D,v26,v27,v28))) (u27 λy Y v31 A v33 L v35 v36 T V v39 E R v42 s v44 N v46 J O Z v50 v51 U C v54 H=>(ob (eH 20000000 y s) λv56=>(ob (fF 20000000 y Y (v56==1) v31 A v33 L v35 v36 T V v39 E R v42 s v44 N v46 J O Z v50 v51 U C v54 H) (u27 λv57 v58 _ _ _ _ _ _ _ _ _ _ _ e c g o j x k w n l v i _ r=>(ob (da 20000000 v57 c) λQ=>(cond (Q != v58) (ob (dC 20000000 e c g c 5) (u3 λv73 M v75=>(some (0,d0,0,d0,0,d0,false,false,v73,M,v75,([]:List TI))))) (ob (fZ 20000000 o j x k w n l v r) (u2 λv76 X=>(cond (X != 0) (ob (ix (List.length i) v76) λB=>(ob (i[B]?) λv79=>(ob (dC 20000000 e (w64 (c+1)) g v79 10) (u3 λv80 v81 v82=>(some (0,d0,0,d0,0,d0,false,false,v80,v81,v82,([]:List TI))))))) (some (o,j,x,k,w,n,l,v,e,(w64 (c+1)),g,r))))))))))))))) =
   some (KP S (tQ S a K)):=by
  intro K hK ha;have one:∀b:Bool,((if b then(1:Int)else 0)==1)=b:=by decide
  have hj:fO 20000000 S (((endC K).toNat:Nat):Int) (dts (S.drop (a+1))) S ((a+1:Nat):Int) K ([]:List TI) ([]:List TI)=some (S,(((endC K).toNat:Nat):Int),S,((if dts (S.drop (a+1))then a+3 else a+1:Nat):Int),K,dts (S.drop (a+1)),[],[]):=by
   unfold fO;cases dts (S.drop (a+1))
   ·rfl
   ·rw[aj,show w64 (((a+1:Nat):Int)+2)=((a+1+2:Nat):Int)from rf_w 2 (by omega)];rfl
  have hp:(if dts (S.drop (a+1))then a+3 else a+1:Nat)<=S.length:=by
   split
   ·rename_i h;have:=mz h;omega
   ·exact ha
  have hl:=RV (endC K) (by unfold endC;split<;>decide) hS K (dts (S.drop (a+1))) [] 256 (if dts (S.drop (a+1))then a+3 else a+1) [] [] (by simp) hp rfl 20000000 (by omega);simp only[Fv 20000000 (show a+1<1000000 by omega),one,hj,ob,u8,u7,u6,u5,u4,u3,u2];rw[show au (cj 20000000) 20000000 (S,(((endC K).toNat:Nat):Int),S,((if dts (S.drop (a+1))then a+3 else a+1:Nat):Int),0,K,dts (S.drop (a+1)),([]:List Int),([]:List TI),([]:List TI))=_ from hl];unfold tQ;cases hr:ks S (endC K) 256 (if dts (S.drop (a+1))then a+3 else a+1) [] []with
  | inl f=>rfl
  | inr q=>
   obtain⟨p,P,I⟩:=q;obtain⟨q1,q2,q3,q4,q5⟩:=ud 256 _ [] [] hp rfl (λt ht=>by cases ht) hr;have q3':1<=I.length:=by rw[fR]at q3;omega
   simp only[rfLo,obs,sm,ob,u27,u26,u25,u24,u23,u22,u21,u20,u19,u18,u17,u16,u15,u14,u13,u12,u11,u10,u9,u8,u7,u6,u5,u4,u3,u2,Fv 20000000 (show p<1000000 by omega),one,VT _ _ _ _ p (show p<1000000 by omega)];exact UH hS hK (dts (S.drop (a+1))) q1 q2 q3' q5
 have hw:w64 ((a:Int)+1)=((a+1:Nat):Int):=rf_w 1 (by omega);unfold kD ox;rw[Lc,hw];simp only[ob];unfold kY;rw[show(((rat (S.drop a):Nat):Int)==91)=decide ((S.drop a).head?=some 91)from wG _ 91 (by decide),show(((rat (S.drop a):Nat):Int)==123)=decide ((S.drop a).head?=some 123)from wG _ 123 (by decide)];by_cases u:(S.drop a).head?=some 91
 ·rw[ae u,aq u];exact d 3 (.inl rfl) (fS u)
 ·rw[ab u,am u];by_cases m:(S.drop a).head?=some 123
  ·rw[ae m,aq m];exact d 4 (.inr rfl) (fS m)
  ·rw[ab m,am m];rfl
def II{S:aa}{en:UInt8}{p:Nat}(h:p<=S.length){f:Nat×Nat×Nat}(a:lp S en p=.inl f):f.2.1≠0:=by
 unfold lp at a;cases b:bZ S p with
 | inl g=>rw[b]at a;cases a;exact qw (k:=f.1) (E:=f.2.1) (p:=f.2.2) h b
 | inr r=>
  rw[b]at a;simp only[]at a;split at a
  ·rename_i hd;cases c:bZ S (enR r+2)with
   | inl g=>rw[c]at a;cases a;exact qw (k:=f.1) (E:=f.2.1) (p:=f.2.2) (mz hd.1) c
   | inr d=>rw[c]at a;cases a
  ·cases a
def yX{S:aa}{en:UInt8}:∀(r p:Nat) (P:List Nat) (I:List TI),p<=S.length->∀{f:Nat×Nat×Nat},ks S en r p P I=.inl f->f.2.1≠0
 | 0,p,P,I,_,f,e=>by cases e;simp
 | r+1,p,P,I,h,f,e=>by
  rw[ks]at e;cases b:lp S en p with
  | inl g=>rw[b]at e;cases e;exact II h b
  | inr q=>
   obtain⟨t,a,c⟩:=q;rw[b]at e;simp only[]at e;split at e
   ·rename_i d;exact yX r (c+1) _ _ (fS d) e
   ·cases e
structure SetOK(S:aa)(K:Int)(e l:Bool)(I:List TI)(p:Nat):Prop where
 kind:K=3\/K=4
 sm:∀t∈I,smI t
 ok:(setE K e l I).2=0
 one:1<=I.length
 most:I.length<=256
 le:p<=S.length
def OE{S:aa}{a:Nat}(h:a<=S.length){K:Int}{e l:Bool}{I:List TI}{p:Nat}(b:ox S a=.inr (K,e,l,I,p)):SetOK S K e l I p:=by
 have c:∀g:Int,g=3\/g=4->a+1<=S.length->tQ S a g=.inr (K,e,l,I,p)->SetOK S K e l I p:=by
  intro g r o b;unfold tQ at b;have hp:(if dts (S.drop (a+1))then a+3 else a+1:Nat)<=S.length:=by
   split
   ·rename_i h;have:=mz h;omega
   ·exact o
  cases d:ks S (endC g) 256 (if dts (S.drop (a+1))then a+3 else a+1) [] []with
  | inl f=>rw[d]at b;cases b
  | inr q=>
   obtain⟨i,P,J⟩:=q;obtain⟨w,v,k,m,n⟩:=ud 256 _ [] [] hp rfl (λt j=>by cases j) d;rw[d]at b;simp only[]at b;unfold endL at b;generalize(if dts (S.drop i)then i+2 else i:Nat)=u at b;split at b
   ·rename_i hc;split at b
    ·rename_i s;cases b;rw[fR]at k m;exact⟨r,n,s,by omega,by omega,fS hc⟩
    ·cases b
   ·cases b
 unfold ox at b;split at b
 ·rename_i d;exact c 3 (.inl rfl) (fS d) b
 ·split at b
  ·rename_i d;exact c 4 (.inr rfl) (fS d) b
  ·cases b
def wX{S:aa}{a:Nat}(h:a<=S.length){f:Nat×Nat×Nat}(b:ox S a=.inl f):f.2.1≠0:=by
 have c:∀e:Int,a+1<=S.length->tQ S a e=.inl f->f.2.1≠0:=by
  intro e j b;unfold tQ at b;have hp:(if dts (S.drop (a+1))then a+3 else a+1:Nat)<=S.length:=by
   split
   ·rename_i h;have:=mz h;omega
   ·exact j
  cases d:ks S (endC e) 256 (if dts (S.drop (a+1))then a+3 else a+1) [] []with
  | inl g=>rw[d]at b;cases b;exact yX 256 _ _ _ hp d
  | inr q=>
   obtain⟨i,P,J⟩:=q;rw[d]at b;simp only[]at b;unfold endL at b;generalize(if dts (S.drop i)then i+2 else i:Nat)=k at b;split at b
   ·split at b
    ·cases b
    ·cases b;simp
   ·cases b;simp
 unfold ox at b;split at b
 ·rename_i d;exact c 3 (fS d) b
 ·split at b
  ·rename_i d;exact c 4 (fS d) b
  ·cases b;simp
noncomputable def tt(S:aa):(Nat×Nat)⊕(Int×Bool×Bool×List TI):=match ox S 0 with
 | .inl f=>.inl (f.1,f.2.1)
 | .inr (K,e,l,I,p)=>if p<S.length then .inl (p,5)else .inr (K,e,l,I)
def brk(c:UInt8):Bool:=c==33||c==44||c==46||c==47||c==91||c==93||c==123||c==125
def RU:∀c,(!brk c||(!isYC c&&(!isMk c&&(!(c==45)&&!isDX c))))=true:=iG (λc=>!brk c||(!isYC c&&(!isMk c&&(!(c==45)&&!isDX c)))) (by decide +kernel)
def Hg{c:UInt8}(h:brk c=true):isYC c=false/\isMk c=false/\(c==45)=false/\isDX c=false:=by
 have:=RU c;rw[h]at this;simpa[aC]using this
def TU{c:UInt8}(h:isDX c=true):brk c=false:=by
 cases a:brk c
 ·rfl
 ·rw[(Hg a).2.2.2]at h;cases h
def endT(l:aa):Prop:=∀c,l.head?=some c->brk c=true
def Q7{l:aa}(h:endT l):cP isYC l/\cP isMk l/\cP (λc=>c==45) l:=⟨λc hc=>(Hg (h c hc)).1,λc hc=>(Hg (h c hc)).2.1,λc hc=>(Hg (h c hc)).2.2.1⟩
def HT:endT []:=λc h=>by cases h
def qP{c:UInt8}{l:aa}(h:brk c=true):endT (c::l):=λa b=>by
 simp only[lF,ar]at b;rw[<-b];exact h
def JC{g l:Bool}{d:aa}{x s:Nat}(h:okY g l d (x:Int) (s:Int))(r:aa):cP brk (mL g l d (x:Int) (s:Int)++r):=by
 have a:d≠[]:=by
  have:=(kC h).2.2.2.2.1;rintro rfl;simp at this
 rw[lx];cases l with
 | true=>exact ej (by decide)
 | false=>
  cases g with
  | true=>exact ej (by decide)
  | false=>
   simp only[bj,az,dI,gG];exact vU a (J5 h) (λc=>TU)
def iZ(x:TD):aa:=A4 x.1 x.2.1 x.2.2.1 x.2.2.2.1 x.2.2.2.2.1 x.2.2.2.2.2.1 x.2.2.2.2.2.2.1 x.2.2.2.2.2.2.2.1.toNat x.2.2.2.2.2.2.2.2.1.toNat x.2.2.2.2.2.2.2.2.2.toNat
def qB{x:TD}(hs:smT x)(hc:cF x=0):∃(g l:Bool) (dg:aa) (e q:Nat) (m d:aa) (a b c:Nat),x=(g,l,dg,(e:Int),(q:Int),m,d,(a:Int),(b:Int),(c:Int))/\OkD g l dg e q m d a b c:=by
 have h:=xG hc;obtain⟨g,l,dg,e,q,m,d,k0,k1,k2⟩:=x;obtain⟨r,p,a,b,c,k,n,j,f,i,o⟩:=U4 hs.2.2.2.1 hs.2.2.2.2.1 hs.2.2.2.2.2 h;simp only at k n j f i;subst k n j f i;exact⟨_,_,_,_,_,_,_,_,_,_,rfl,o⟩
def nA{x:TD}(hs:smT x)(hc:cF x=0)(r:aa):cP brk (iZ x++r):=by
 obtain⟨g,l,dg,e,q,m,d,a,b,c,rfl,ok⟩:=qB hs hc;show cP brk (A4 g l dg (e:Int) (q:Int) m d a b c++r);unfold A4 iI;rw[gG,gG,gG];exact LQ _ (by decide) (by decide) (by decide) (JC ok.yr _)
def rh{l:aa}(h:cP brk l):dts l=false:=by
 cases hd:dts l
 ·rfl
 ·obtain⟨r,rfl⟩:=sA.1 hd;exact absurd (h 46 rfl) (by decide)
def yK{x:TD}(hs:smT x)(hc:cF x=0){S:aa}{a:Nat}{post:aa}(h:S.drop a=iZ x++post)(hp:endT post):∃r,bZ S a=.inr r/\tdR r=x/\enR r=a+(iZ x).length:=by
 obtain⟨g,l,dg,e,q,m,d,k0,k1,k2,rfl,ok⟩:=qB hs hc;obtain⟨b,i,f⟩:=Q7 hp;obtain⟨P,j⟩:=iO9 ok (S:=S) (a:=a) (post:=post) h b i f;refine⟨(g,l,dg,e,q,m,d,(k0,k1,k2),P,a+(A4 g l dg (e:Int) (q:Int) m d k0 k1 k2).length),?_,rfl,rfl⟩;unfold bZ;rw[j];have c:chkR (g,l,dg,e,q,m,d,(k0,k1,k2),P,a+(A4 g l dg (e:Int) (q:Int) m d k0 k1 k2).length)=0:=by
  unfold chkR;simp only[];have:chkF g l dg (e:Int) (q:Int) m d (k0:Int) (k1:Int) (k2:Int)=0:=hc;rw[this];rfl
 simp only[];rw[ae c]
structure OkI(t:TI):Prop where
 sm:smI t
 a:cF (iF t)=0
 b:rT t=true->cF (iT t)=0
 n:rT t=false->iT t=d0
def kO(t:TI):aa:=if rT t then iZ (iF t)++([46,46]++iZ (iT t))else iZ (iF t)
def Jn{t:TI}(h:OkI t)(r:aa):cP brk (kO t++r):=by
 unfold kO;split
 ·rw[gG];exact nA h.sm.1 h.a _
 ·exact nA h.sm.1 h.a _
def wi{t:TI}(ok:OkI t){en:UInt8}(g:brk en=true){S:aa}{p:Nat}{post:aa}(h:S.drop p=kO t++post)(hp:endT post)(v:dts post=true->(post.drop 2).head?=some en):
  ∃a,lp S en p=.inr (t,a,p+(kO t).length):=by
 unfold kO at h ⊢;unfold lp;cases c:rT t with
 | true=>
  rw[c,ae rfl,gG,gG]at h;obtain⟨r,f,i,e⟩:=yK ok.sm.1 ok.a h (qP (by decide));have d:S.drop (enR r)=[46,46]++(iZ (iT t)++post):=by rw[e];exact gL h
  have l:S.drop (enR r+2)=iZ (iT t)++post:=gL (u:=[46,46]) d;have hd:dts (S.drop (enR r))=true:=by rw[d];rfl
  have w:(S.drop (enR r+2)).head?≠some en:=by
   rw[l];intro o;have:=nA ok.sm.2 (ok.b c) post en o;rw[g]at this;cases this
  obtain⟨x,s,m,q⟩:=yK ok.sm.2 (ok.b c) l hp;refine⟨plR r,?_⟩;rw[f];simp only[];rw[ae ⟨hd,w⟩,s];simp only[aG];rw[i,m,q,e];have:mkI (iF t) true (iT t)=t:=by rw[<-c]
  rw[this];have:p+(iZ (iF t)).length+2+(iZ (iT t)).length=p+(iZ (iF t)++([46,46]++iZ (iT t))).length:=by simp only[bw,aN,fR];omega
  rw[this]
 | false=>
  rw[c]at h;simp only[bj,az]at h;obtain⟨r,f,i,e⟩:=yK ok.sm.1 ok.a h hp;have d:S.drop (enR r)=post:=by rw[e];exact gL h
  refine⟨plR r,?_⟩;rw[f];simp only[];rw[ab,i,e]
  ·have:mkI (iF t) false d0=t:=by rw[<-c,<-ok.n c]
   rw[this];simp only[bj,az]
  ·rintro⟨j,k⟩;rw[d]at j;rw[<-i7,d]at k;exact k (v j)
def nS(I:List TI):aa:=(I.map λt=>44::kO t).flatten
def xq{en:UInt8}(c:brk en=true)(b:en≠44){post:aa}(hp:endT post)(d:post.head?≠some 44)(i:dts post=true->(post.drop 2).head?=some en):∀(I:List TI) (t:TI) (r p:Nat) {S:aa} (P:List Nat) (J:List TI),OkI t->(∀u∈I,OkI u)->I.length<r->S.drop p=kO t++(nS I++post)->
  ∃f,ks S en r p P J=.inr (p+(kO t++nS I).length,f,J++t::I)
 | [],t,r+1,p,S,P,J,ok,_,j,h=>by
  obtain⟨a,g⟩:=wi ok c (post:=post) (by simpa[nS]using h) hp i;refine⟨P++[a],?_⟩;rw[ks,g];simp only[];have e:S.drop (p+(kO t).length)=post:=gL (by simpa[nS]using h);rw[e,ab d];simp[nS]
 | u::I,t,r+1,p,S,P,J,ok,oks,j,h=>by
  have n:nS (u::I)++post=44::(kO u++(nS I++post)):=by simp[nS]
  rw[n]at h
  obtain⟨a,g⟩:=wi ok c (post:=44::(kO u++(nS I++post))) h (qP (by decide)) (λhd=>by
   obtain⟨r,m⟩:=sA.1 hd;cases m)
  have e:S.drop (p+(kO t).length)=44::(kO u++(nS I++post)):=gL h;have o:S.drop (p+(kO t).length+1)=kO u++(nS I++post):=gL (u:=[44]) e;obtain⟨f,k⟩:=xq c b hp d i I u r (p+(kO t).length+1) (P++[a]) (J++[t]) (oks u oq) (λv l=>oks v (gm _ l)) (by simp at j;omega) o;refine⟨f,?_⟩;rw[ks,g];simp only[];rw[e,lF,ae rfl,k];have:p+(kO t).length+1+(kO u++nS I).length=p+(kO t++nS (u::I)).length:=by simp[nS];omega
  rw[this];simp
def yA(K:Int)(e l:Bool)(I:List TI):aa:=
 (if K=4 then 123 else 91)::((if e then[46,46]else[])++(Lib.join (I.map kO) [44]++((if l then[46,46]else[])++[endC K])))
def Le(t:TI)(I:List TI):Lib.join ((t::I).map kO) [44]=kO t++nS I:=by
 rw[fV,Lib.join_cons];unfold Lib.joinTail nS;rw[uU];rfl
def IR{K:Int}(q:K=3\/K=4){e l:Bool}{I:List TI}(A:1<=I.length)(p:I.length<=256)(ok:∀t∈I,OkI t)(s:(setE K e l I).2=0){S:aa}{a:Nat}{post:aa}(h:S.drop a=yA K e l I++post):
  ox S a=.inr (K,e,l,I,a+(yA K e l I).length):=by
 obtain⟨t,J,rfl⟩:∃t J,I=t::J:=by
  cases I with
  | nil=>simp at A
  | cons t J=>exact⟨t,J,rfl⟩
 have g:brk (endC K)=true:=by unfold endC;split<;>decide
 have b:endC K≠44:=by unfold endC;split<;>decide
 have f:endC K≠46:=by unfold endC;split<;>decide
 unfold yA at h ⊢;rw[Le]at h ⊢;have j:S.drop (a+1)=(if e then[46,46]else[])++((kO t++nS J)++((if l then[46,46]else[])++(endC K::post))):=by
  have:=gL (u:=[if K=4 then 123 else 91]) (v:=((if e then[46,46]else[])++((kO t++nS J)++((if l then[46,46]else[])++[endC K])))++post) (by rw[h];rfl);rw[show a+1=a+[if K=4 then(123:UInt8)else 91].length from rfl,this];simp only[gG,ET]
 have o:dts (S.drop (a+1))=e:=by
  rw[j];cases e
  ·simp only[bj,az,dI];rw[gG];exact rh (Jn (ok t oq) _)
  ·rfl
 have m:S.drop (if e then a+3 else a+1)=kO t++(nS J++((if l then[46,46]else[])++(endC K::post))):=by
  rw[<-gG];cases e
  ·simpa using j
  ·have:=gL (u:=[46,46]) j;simpa using this
 have x:endT ((if l then[46,46]else[])++(endC K::post)):=by
  cases l
  ·exact qP g
  ·exact qP (by decide)
 have k:((if l then[46,46]else[])++(endC K::post)).head?≠some 44:=by
  cases l
  ·simp[b]
  ·simp
 have d:dts ((if l then[46,46]else[])++(endC K::post))=l:=by
  cases l
  ·cases hd:dts ((if false then[46,46]else[])++(endC K::post))
   ·rfl
   ·obtain⟨r,n⟩:=sA.1 hd;simp at n;exact absurd n.1 f
  ·rfl
 obtain⟨P,z⟩:=xq g b x k (λhd=>by rw[d]at hd;subst hd;rfl) J t 256 (if e then a+3 else a+1) [] [] (ok t oq) (λu C=>ok u (gm _ C)) (by simp at p;omega) m;have i:S.drop ((if e then a+3 else a+1)+(kO t++nS J).length)=(if l then[46,46]else[])++(endC K::post):=by
  apply gL;rw[m,gG]
 have c:tQ S a K=.inr (K,e,l,t::J,a+(((if K=4 then 123 else 91)::((if e then[46,46]else[])++((kO t++nS J)++((if l then[46,46]else[])++[endC K]))):aa).length)):=by
  unfold tQ;rw[o,z];simp only[dI];unfold endL;rw[i,d];generalize y:(if e then a+3 else a+1)+(kO t++nS J).length=X at i ⊢;have w:S.drop (if l then X+2 else X)=endC K::post:=by
   cases l
   ·simpa using i
   ·have:=gL (u:=[46,46]) i;simpa using this
  rw[w,lF,ae rfl,ae s];have:(if l then X+2 else X)+1=a+(((if K=4 then 123 else 91)::((if e then[46,46]else[])++((kO t++nS J)++((if l then[46,46]else[])++[endC K]))):aa).length):=by
   rw[<-y];cases e<;>cases l<;>simp<;>omega
  rw[this]
 unfold ox;have B:(S.drop a).head?=some (if K=4 then 123 else 91):=by rw[h];rfl
 rw[B];rcases q with rfl | rfl
 ·rw[ae (show some (if(3:Int)=4 then(123:UInt8)else 91)=some 91 from rfl)];exact c
 ·rw[ab (show¬some (if(4:Int)=4 then(123:UInt8)else 91)=some 91 by decide),ae (show some (if(4:Int)=4 then(123:UInt8)else 91)=some 123 from rfl)];exact c
def Db{x y:TD}{r all:Bool}(h:itE x r y all=0):cF x=0/\(r=true->cF y=0)/\(r=false->y=d0)/\itE x r y false=0:=by
 by_cases hc:cF x=0
 ·refine⟨hc,?_⟩;cases r
  ·rw[VE hc]at h ⊢;have hy:eqD y d0=true:=by
    cases a:eqD y d0
    ·rw[a]at h;simp at h
    ·rfl
   exact⟨λh=>(by cases h),λ_=>kj.1 hy,by rw[hy];simp⟩
  ·by_cases hy:cF y=0
   ·rw[V7 hc hy]at h ⊢;have b:ordB x y=true:=by
     cases a:ordB x y
     ·rw[a]at h;simp at h
     ·rfl
    exact⟨λ_=>hy,λh=>(by cases h),by rw[b];simp⟩
   ·rw[P3 hc hy]at h;exact absurd h hy
 ·rw[VM hc]at h;exact absurd h hc
def UO{t:TI}{all:Bool}(hs:smI t)(h:itI t all=0):OkI t:=by
 obtain⟨a,b,c,_⟩:=Db h;exact⟨hs,a,b,c⟩
structure SetP(K:Int)(D:TD)(KF:Int)(DF:TD)(KT:Int)(DT:TD)(e l:Bool)(I:List TI):Prop where
 kind:K=3\/K=4
 d:D=d0
 kf:KF=0
 df:DF=d0
 kt:KT=0
 dt:DT=d0
 one:1<=I.length
 most:I.length<=256
 its:∀t∈I,itI t (K==4)=0
 set:(setE K e l I).2=0
def yM{A:Type}{f:Nat->A->Int}:∀{L:List A} {k:Nat},nP f k L=none->∀t∈L,∃i,f i t=0
 | u::L,k,h,t,a=>by
  rw[nP]at h;split at h
  ·cases h
  ·rename_i b;rcases de.1 a with rfl | a
   ·exact⟨k,NB.1 b⟩
   ·exact yM h t a
def G1{A:Type}{f:Nat->A->Int}:∀{L:List A} {k:Nat} {p:Nat×Int},nP f k L=some p->p.2≠0
 | u::L,k,p,h=>by
  rw[nP]at h;split at h
  ·rename_i a;cases h;exact a
  ·exact G1 h
def V3{K:Int}{e l:Bool}{n i:Nat}{t:TI}(h:errI K e l n i t=0):itI t (K==4)=0:=by
 unfold errI at h;split at h
 ·rename_i a;exact absurd h a
 ·rename_i a;exact NB.1 a
def B7{K:Int}(g:K=3\/K=4){D:TD}{KF:Int}{DF:TD}{KT:Int}{DT:TD}{e l:Bool}{I:List TI}(h:(kx K D KF DF KT DT e l I).2=0):SetP K D KF DF KT DT e l I:=by
 have r:=h;unfold kx at h;rw[ab (by omega)]at h;split at h
 ·simp at h
 ·rename_i f;rw[ab (by omega),ab (by omega)]at h;split at h
  ·simp at h
  ·split at h
   ·simp at h
   ·unfold ve at h;have m:D=d0/\KF=0/\DF=d0/\KT=0/\DT=d0:=by
     unfold unuB at f;have k1:(K==1)=false:=by rcases g with rfl | rfl<;>rfl
     have k2:(K==2)=false:=by rcases g with rfl | rfl<;>rfl
     have n:(K==3||(K==4||(decide (I.length=0)&&(!e&&!l))))=true:=by rcases g with rfl | rfl<;>rfl
     rw[k1,k2,n]at f;generalize o:eqD D d0=z1 at f;generalize q:eqD DF d0=z2 at f;generalize j:eqD DT d0=s at f;simp only[oU,ca,wS,Dk,iC,kL,not_or,Bool.not_eq_false,aC,bu]at f;obtain⟨a,⟨b,c⟩,d,e⟩:=f;exact⟨kj.1 (o.trans a),b,kj.1 (q.trans c),d,kj.1 (j.trans e)⟩
    obtain⟨rfl,rfl,rfl,rfl,rfl⟩:=m;cases hs:nP (errI K e l I.length) 0 I with
    | some p=>rw[hs]at h;exact absurd h (G1 hs)
    | none=>
     refine⟨g,rfl,rfl,rfl,rfl,rfl,by omega,by omega,λt k=>?_,r⟩;obtain⟨i,hi⟩:=yM hs t k;exact V3 hi
def VA{K:Int}{D:TD}{KF:Int}{DF:TD}{KT:Int}{DT:TD}{e l:Bool}{I:List TI}(p:SetP K D KF DF KT DT e l I)(hs:∀t∈I,smI t):∀t∈I,OkI t/\itI t false=0:=
 λt a=>⟨UO (hs t a) (p.its t a),(Db (p.its t a)).2.2.2⟩
def SX(K:Int):Prop:=K=3\/K=4
instance (K:Int):Decidable (SX K):=inferInstanceAs (Decidable (K=3\/K=4))
def Ls(K:Int)(D:TD)(KF:Int)(DF:TD)(KT:Int)(DT:TD)(e l:Bool){I:List TI}(b:I.length<=1000000):kT 20000000 K D KF DF KT DT e l K D KF DF KT DT e l I I=some 1:=by
 unfold kT;rw[Br rfl b,ae rfl];have a:∀x:TD,eqD x x=true:=λx=>kj.2 rfl;simp only[a,sU,eI,af,HW,ca,obs,sm,ob]
def RF(n:Nat)(K:Int)(D:TD)(KF:Int)(DF:TD)(KT:Int)(DT:TD)(c:Nat)(e l:Bool)(y:Int)(z:TD)(f:Int)(g:TD)(b:Int)(d:TD)(A B:Bool)(I J:List TI):
  gi n K D KF DF KT DT I.length c e l y z f g b d A B I J=kT n K D KF DF KT DT e l y z f g b d A B I J:=by
 unfold gi kT;have:=vY (s:=dK n) (s':=ge n) (u19 λh a x H M F G L E C q v m r o k x16 w p=>(h,a,x,H,M,F,G,L,E,a.length,c,C,q,v,m,r,o,k,x16,w,p)) id (by
  rintro⟨h,a,x,H,M,F,G,L,E,C,q,v,m,r,o,k,x16,w,p⟩;unfold dK ge;simp only[u21,u20,u19,u18,u17,u16,u15,u14,u13,u12,u11,u10,u9,u8,u7,u6,u5,u4,u3,u2,Np];rw[show decide (h<((a.length:Nat):Int))=decide (h<len a)from rfl];cases decide (h<len a)
  ·rfl
  ·simp only[aj];cases ix a.length h with
   | none=>rfl
   | some i=>
    simp only[ob];cases a[i]? with
    | none=>rfl
    | some t=>
     simp only[ob];cases ix x.length h with
     | none=>rfl
     | some j=>
      simp only[ob];cases x[j]? with
      | none=>rfl
      | some u=>
       simp only[ob];cases decide (t=u)<;>rfl) n (0,I,J,K,D,KF,DF,KT,DT,e,l,y,z,f,g,b,d,A,B)
 simp only[u19,u18,u17,u16,u15,u14,u13,u12,u11,u10,u9,u8,u7,u6,u5,u4,u3,u2,Option.map_id,id]at this;rw[this]
def Dc(K:Int)(D:TD)(KF:Int)(DF:TD)(KT:Int)(DT:TD)(c:Nat)(e l:Bool){I:List TI}(a:I.length<=1000000):gi 20000000 K D KF DF KT DT I.length c e l K D KF DF KT DT e l I I=some 1:=
 (RF _ _ _ _ _ _ _ _ _ _ _ _ _ _ _ _ _ _ _ _).trans (Ls K D KF DF KT DT e l a)
def IC{K:Int}(b:SX K){e l:Bool}{I:List TI}(a:1<=I.length)(c:I.length<=256)(ok:∀t∈I,OkI t)(d:(setE K e l I).2=0):tt (yA K e l I)=.inr (K,e,l,I):=by
 unfold tt;rw[IR b a c ok d (post:=[]) (by rw[bI,lu])];simp only[];rw[ab (by omega)]
def XL{c:UInt8}(h:mkOf c≠0):mt (mkOf c)=[c]:=by
 unfold mkOf at h ⊢;by_cases a:c=63
 ·subst a;rfl
 ·rw[ab a]at h ⊢;by_cases d:c=126
  ·subst d;rfl
  ·rw[ab d]at h ⊢;by_cases b:c=37
   ·subst b;rfl
   ·rw[ab b]at h;exact absurd rfl h
def RQ(l:aa):l=mt (mkS l)++l.drop (mkN l):=by
 cases l with
 | nil=>rfl
 | cons c r=>
  unfold mkN;show c::r=mt (mkOf c)++_;by_cases h:mkOf c=0
  ·rw[ae (show mkS (c::r)=0 from h),h];rfl
  ·rw[ab (show¬mkS (c::r)=0 from h),XL h];rfl
def F9(S:aa)(p:Nat):S.drop p=mt (mkS (S.drop p))++S.drop (mkE S p):=by
 have:=RQ (S.drop p);rw[i7]at this;exact this
def Lq(S:aa)(p:Nat):mkE S p=p+(mt (mkS (S.drop p))).length:=by
 unfold mkE mkN;have a:=C6 (S.drop p);generalize mkS (S.drop p)=k at *;rcases(by omega:k=0\/k=1\/k=2\/k=3)with rfl | rfl | rfl | rfl<;>rfl
def BS{S:aa}{p:Nat}(h:¬twoN (S.drop p)<2):S.drop p=(S.drop p).take 2++S.drop (p+2)/\((S.drop p).take 2).length=2/\∀c∈(S.drop p).take 2,isDX c=true:=by
 have b:=vg h;have a:twoN (S.drop p)=2:=by
  have:twoN (S.drop p)<=2:=by
   unfold twoN;have:∀(k:Nat) (l:aa),bq isDX k l<=k:=by
    intro k
    induction k with
    | zero=>intro l;cases l<;>simp[bq]
    | succ k ih=>
     intro l;cases l with
     | nil=>simp[bq]
     | cons c r=>
      simp only[bq];split
      ·have:=ih r;omega
      ·omega
   exact this 2 _
  omega
 refine⟨by rw[<-i7];exact(uF 2 _).symm,by simp;omega,?_⟩;have:=zh (p:=isDX) 2 (S.drop p);rw[show bq isDX 2 (S.drop p)=2 from a]at this;exact this
def yJ{S:aa}{p:Nat}(h:¬dR 45 (S.drop p)=0):S.drop p=45::S.drop (p+1):=by
 cases hd:S.drop p with
 | nil=>rw[hd]at h;exact absurd rfl h
 | cons c r=>
  rw[hd,kw]at h;by_cases hc:c=45
  ·subst hc;rw[<-i7,hd];rfl
  ·rw[ab hc]at h;exact absurd rfl h
def uJ{S:aa}{p k:Nat}{w:aa}(h:S.drop (mkE S p)=w++S.drop (mkE S p+k)):S.drop p=iI (mkS (S.drop p)) (mkS (S.drop (mkE S p+k))) w++S.drop (mkE S (mkE S p+k)):=by
 unfold iI;rw[gG,gG,<-F9,<-h,<-F9]
def CO{S:aa}{a:Nat}{g l:Bool}{dg:aa}{x s:Nat}{m d:aa}{M P:Nat×Nat×Nat}{e:Nat}(b:nU S a=.inr (g,l,dg,x,s,m,d,M,P,e)):
  ∃A B,MkD A B m d/\M=spM A B/\P.1=a+(mt A.1).length/\S.drop a=rawD A B g l dg (x:Int) (s:Int) m d++S.drop e:=by
 unfold nU at b;cases hy:mG (S.drop (mkE S a))with
 | inl k=>rw[hy]at b;cases b
 | inr y=>
  obtain⟨D,E,u,I,s',k⟩:=y;obtain⟨J,Q,_⟩:=qR hy;have L:S.drop (mkE S a)=mL D E u (I:Int) (s':Int)++S.drop (mkE S a+k):=by
   rw[<-J,<-i7];exact(uF k _).symm
  have w0:=uJ L;have c:=λp=>C6 (S.drop p);rw[hy]at b;simp only[]at b;by_cases t:0<s'\/dR 45 (S.drop (mkE S (mkE S a+k)))=0
  ·rw[ae t]at b;simp only[n9,bm]at b;obtain⟨rfl,rfl,rfl,rfl,rfl,rfl,rfl,rfl,rfl,rfl⟩:=b;refine⟨(mkS (S.drop a),0,0),(mkS (S.drop (mkE S a+k)),0,0),⟨c _,by simp,by simp,c _,by simp,by simp,λ_=>⟨rfl,rfl⟩,λ_=>⟨rfl,rfl⟩⟩,rfl,Lq S a,?_⟩;unfold rawD;simpa using w0
  ·rw[ab t]at b;have w:=yJ (λh=>t (.inr h));unfold rd2 at b;simp only[]at b;generalize K:mkE S (mkE S a+k)=i at *;by_cases r:twoN (S.drop (mkE S (i+1)))<2
   ·rw[ae r]at b;cases b
   rw[ab r]at b;obtain⟨N,v,O⟩:=BS r;have z:=uJ N;have f:(S.drop (mkE S (i+1))).take 2≠[]:=λh=>by rw[h]at v;simp at v
   by_cases o:dR 45 (S.drop (mkE S (mkE S (i+1)+2)))=0
   ·rw[ae o]at b;simp only[n9,bm]at b;obtain⟨rfl,rfl,rfl,rfl,rfl,rfl,rfl,rfl,rfl,rfl⟩:=b;refine⟨(mkS (S.drop a),mkS (S.drop (i+1)),0),(mkS (S.drop (mkE S a+k)),mkS (S.drop (mkE S (i+1)+2)),0),⟨c _,c _,by simp,c _,c _,by simp,λh=>absurd h f,λ_=>⟨rfl,rfl⟩⟩,rfl,Lq S a,?_⟩;unfold rawD;rw[ab f,ae rfl,lu,gG,dB,<-z,<-w];exact w0
   ·rw[ab o]at b;have F:=yJ o;unfold rd3 at b;generalize G:mkE S (mkE S (i+1)+2)=n at *;by_cases q:twoN (S.drop (mkE S (n+1)))<2
    ·rw[ae q]at b;cases b
    rw[ab q]at b;obtain⟨H,u2,u3⟩:=BS q;have C:=uJ H;have j:(S.drop (mkE S (n+1))).take 2≠[]:=λh=>by rw[h]at u2;simp at u2
    simp only[n9,bm]at b;obtain⟨rfl,rfl,rfl,rfl,rfl,rfl,rfl,rfl,rfl,rfl⟩:=b;refine⟨(mkS (S.drop a),mkS (S.drop (i+1)),mkS (S.drop (n+1))),(mkS (S.drop (mkE S a+k)),mkS (S.drop (mkE S (i+1)+2)),mkS (S.drop (mkE S (n+1)+2))),⟨c _,c _,c _,c _,c _,c _,λh=>absurd h f,λh=>absurd h j⟩,rfl,Lq S a,?_⟩;unfold rawD;rw[ab f,ab j,gG,gG,dB,dB,<-C,<-F,<-z,<-w];exact w0
def okC(c:UInt8):Bool:=isDX c||(isMk c||(c==45||(c==89||(c==69||c==83))))
def isLv(c:UInt8):Bool:=c==69||(c==83||isMk c)
def SR:∀c:UInt8,(!okC c||decide (c.toNat<128))=true:=iG (λc=>!okC c||decide (c.toNat<128)) (by decide +kernel)
def Vn{c:UInt8}(h:okC c=true):c.toNat<128:=by
 have:=SR c;rw[h]at this;simpa using this
def dgC(c:UInt8):UInt8:=if bp c then 100 else c
def Vp:∀c:UInt8,(!decide (c.toNat<128)||(decide (0<=ow (c.toNat:Int))&&(Lib.encodeRune (ow (c.toNat:Int))==[dgC c])))=true:=
 iG (λc=>!decide (c.toNat<128)||(decide (0<=ow (c.toNat:Int))&&(Lib.encodeRune (ow (c.toNat:Int))==[dgC c]))) (by decide +kernel)
def HZ:∀{l:aa},(∀c∈l,c.toNat<128)->yQ l=l.map dgC:=by
 have a:∀(n:Nat) (l:aa),l.length=n->(∀c∈l,c.toNat<128)->Lib.mapGoD ow n l=l.map dgC:=by
  intro n
  induction n with
  | zero=>intro l b _;rw[tU b];rfl
  | succ n ih=>
   intro l b h;cases l with
   | nil=>simp at b
   | cons c r=>
    have hd:Lib.decodeL (c::r)=(c.toNat,1):=Be (l:=c::r) (i:=0) rfl (h c oq);rw[Lib.mapGoD,ab (by simp),hd];have:=Vp c;rw[aq (h c oq)]at this;simp only[ca,oU,aC,cr,bu]at this;rw[ae this.1,this.2];rw[show(c::r).drop 1=r from rfl,ih r (by simpa using b) (λd hd=>h d (gm _ hd))];rfl
 intro l h;exact a l.length l rfl h
def wj(s a:aa):Lib.containsAny s a=s.any (a.contains ·):=by
 induction s with
 | nil=>rfl
 | cons b l ih=>
  unfold Lib.containsAny at ih ⊢;have d:=Lib.indexAny_ge a l;rw[Lib.indexAny,qA];cases c:a.contains b
  ·rw[ab (by simp),oU,<-ih];by_cases h:Lib.indexAny l a=-1
   ·rw[ae (by simp[h]),h]
   ·rw[ab (by simp[h])];congr 1;exact propext (by omega)
  ·simp
def vr(u:aa):aa:=match u with | c::r=>if c=45 then r else c::r | []=>[]
def jK:List (aa):=[[100,100,100,88],[100,100,88,88],[100,100,100,100,45,88,88],[100,100,100,100,45,100,100,45,88,88],[100,100,100,100,45,88,88,45,88,88]]
def simB(v:aa):Bool:=jK.contains (v.map dgC)
def O5(n:Nat)(u:aa):iV n u=some (vr u):=by
 unfold iV fU fk vr;cases u with
 | nil=>rfl
 | cons c r=>
  have a:bx (c::r).length (1:Int)=some 1:=fC (i:=1) (by simp);rw[aq (show(((c::r).length:Nat):Int)>=1 by rw[aN];omega),aj,a];simp only[ob,pf,ot,bI];by_cases hc:c=45
  ·subst hc;rw[ae rfl];simp
  ·rw[ab hc,show(([c]:aa)==[45])=false from by simp[hc]];rfl
def Xv(n:Nat)(u:aa):cM n u=some (decide (u.head?=some 89)):=by
 unfold cM fh;cases u with
 | nil=>rfl
 | cons c r=>
  have a:bx (c::r).length (1:Int)=some 1:=fC (i:=1) (by simp);rw[aq (show(((c::r).length:Nat):Int)>=1 by rw[aN];omega),aj,a];simp only[ob,pf,ot,bI,lF,ar];rw[show(([c]:aa)==[89])=decide (c=89)from by rw[r7];simp]
def yq(v:aa):cZ 20000000 v jK=some (jK.contains v):=by
 have f:∀(r i:Nat),i+r=5->∀N,r<N->au (bi 20000000) N (v,5,(i:Int),jK)=some (if(jK.drop i).contains v then .inl ((i+(jK.drop i).idxOf v:Nat):Int)else .inr ()):=by
  intro r
  induction r with
  | zero=>
   intro i hi N d;obtain⟨N,rfl⟩:∃k,N=k+1:=⟨N - 1,by omega⟩;obtain rfl:i=5:=by omega
   rw[au];rfl
  | succ r ih=>
   intro i hi N d;obtain⟨N,rfl⟩:∃k,N=k+1:=⟨N - 1,by omega⟩;have a:i<jK.length:=by show i<5;omega
   have e:=bf a;have:bi 20000000 (v,5,(i:Int),jK)=some (if v=jK[i]then .inr (.inl (i:Int))else .inl (v,5,((i+1:Nat):Int),jK)):=by
    unfold bi;simp only[];rw[aq (show(i:Int)<5 by omega),aj,dW a];simp only[ob,e];rw[show wrap .i64 ((i:Int)+1)=((i+1:Nat):Int)from sG (by omega),jP];split<;>rfl
   rw[au,this,qQ a];by_cases b:v=jK[i]
   ·rw[ae b];simp only[];rw[<-b];simp
   ·rw[ab b];simp only[];rw[ih (i+1) (by omega) N (by omega)];have c:(jK[i]==v)=false:=by simp;exactλh=>b h.symm
    have g:(v==jK[i])=false:=by simp;exact b
    rw[List.contains_cons,g,oU,List.idxOf_cons,c];simp only[af];rw[show i+1+List.idxOf v (List.drop (i+1) jK)=i+(List.idxOf v (List.drop (i+1) jK)+1)by omega]
 have:=f 5 0 rfl 20000000 (by omega);unfold cZ eW;rw[show au (bi 20000000) 20000000 (v,(((List.length jK):Nat):Int),0,jK)=_ from this];rw[bI];cases h:jK.contains v
 ·rfl
 ·simp only[aG,ob];rw[aq (by omega)]
def lvl(u:aa)(b X:Bool)(code:Int):Int:=
 if u.any isLv then 2 else if 24<code then 2 else if(X&&!simB (vr u))=true then 2
 else if b=true\/X=true\/0<code\/u.head?=some 45\/u.head?=some 89 then 1 else 0
structure Body(T u:aa)(k:Nat):Prop where
 eq:T=u++mt k
 k4:k<4
 last:∃v z,u=v++[z]/\isMk z=false
 asc:∀c∈T,c.toNat<128
 len:T.length<=1000
def Body.ne{T u:aa}{k:Nat}(h:Body T u k):u≠[]:=by
 obtain⟨v,z,rfl,_⟩:=h.last;simp
def Body.ascu{T u:aa}{k:Nat}(h:Body T u k):∀c∈u,c.toNat<128:=λc hc=>h.asc c (by rw[h.eq];exact List.mem_append_left _ hc)
def Body.lenu{T u:aa}{k:Nat}(h:Body T u k):u.length<=1000:=by
 have:=h.len;rw[h.eq,bw]at this;omega
def Qb(c:UInt8):([63,126,37]:aa).contains c=isMk c:=by
 have:=iG (λc=>([63,126,37]:aa).contains c==isMk c) (by decide +kernel) c;simpa using this
def Xa{k:Nat}(h:k<4):∀c∈mt k,isMk c=true/\c≠69/\c≠83/\c≠88:=by
 rcases(by omega:k=0\/k=1\/k=2\/k=3)with rfl | rfl | rfl | rfl<;>simp[mt,isMk,mkOf]
def Ko{p:UInt8->Bool}:∀{l:aa},(∀c∈l,p c=true)->l.dropWhile p=[]
 | [],_=>rfl
 | c::l,h=>by rw[List.dropWhile_cons,h c oq];exact Ko λd hd=>h d (gm _ hd)
def xH{T u:aa}{k:Nat}(h:Body T u k):Lib.trimRightS T [63,126,37]=u:=by
 obtain⟨v,z,rfl,b⟩:=h.last;unfold Lib.trimRightS;rw[h.eq,List.reverse_append,List.reverse_append];have:List.dropWhile (λx=>([63,126,37]:aa).contains x) ((mt k).reverse++([z].reverse++v.reverse))=[z].reverse++v.reverse:=by
  rw[List.dropWhile_append];have a:List.dropWhile (λx=>([63,126,37]:aa).contains x) (mt k).reverse=[]:=by
   refine Ko λc hc=>?_;rw[Qb];exact(Xa h.k4 c (EY.1 hc)).1
  rw[a];simp only[List.isEmpty_nil,aG,List.reverse_singleton,ET];rw[List.dropWhile_cons,Qb,b];simp
 rw[this];simp
def TB(c:UInt8):([63,126,37,69,83]:aa).contains c=isLv c:=by
 have:=iG (λc=>([63,126,37,69,83]:aa).contains c==isLv c) (by decide +kernel) c;simpa using this
def PQ(u:aa):(u==vr u)=!decide (u.head?=some 45):=by
 unfold vr;cases u with
 | nil=>rfl
 | cons c r=>
  simp only[lF,ar];by_cases hc:c=45
  ·subst hc;rw[ae rfl,aq rfl];simp only[ca,aK,ne_eq];intro h;have:=cb List.length h;simp at this
  ·rw[ab hc,am hc];simp
def KX(u:aa):(vr u).length<=u.length:=by
 unfold vr;split
 ·split<;>simp
 ·simp
def Ln{u:aa}:∀c∈vr u,c∈u:=by
 unfold vr;split
 ·split
  ·intro c hc;exact gm _ hc
  ·intro c hc;exact hc
 ·intro c hc;exact hc
def EN{T u:aa}{k:Nat}(h:Body T u k):(u==T)=decide (k=0):=by
 rw[h.eq];rcases(by have:=h.k4;omega:k=0\/k=1\/k=2\/k=3)with rfl | rfl | rfl | rfl
 ·simp[mt]
 all_goals
  rw[show decide _=false from rfl,aK];intro e;have:=cb List.length e;simp[mt]at this
def WH{T u:aa}{k:Nat}(h:Body T u k){x:TD}(hs:smT x):ky 20000000 T x=some (lvl u (decide (k≠0)) (hasX x.2.2.1||(hasX x.2.2.2.2.2.1||hasX x.2.2.2.2.2.2.1)) (seT x)):=by
 have l:ap10 (bN 20000000) x=some (seT x,decide (0<seT x)):=qM 20000000 _ _ _ _ _ _ _ _ _ _ hs.1;have m:=h.len;have i:=h.lenu;have f:=KX u;have g:wg T [63,126,37]=true:=by
  unfold wg;rw[dT (by omega)];rfl
 have j:Ae (vr u)=true:=dT (by omega);have c3:wl u [63,126,37,69,83]=true:=by
  unfold wl;rw[dT (show u.length<=4294967280 by omega)];have:LI u=true:=cE.2 λc hc=>dT (h.ascu c hc);rw[this];rfl
 unfold ky;rw[l,fmT hs];simp only[ob,u2,g,aj,xH h,O5,j,c3,HZ (λc hc=>h.ascu c (Ln c hc)),wj,TB,Xv];rw[show([[100,100,100,88],[100,100,88,88],[100,100,100,100,45,88,88],[100,100,100,100,45,100,100,45,88,88],[100,100,100,100,45,88,88,45,88,88]]:List (aa))=jK from rfl,yq];simp only[PQ,EN h,Bool.not_not];unfold lvl simB;rw[show(List.any u λx=>isLv x)=u.any isLv from rfl];generalize(hasX x.2.2.1||(hasX x.2.2.2.2.2.1||hasX x.2.2.2.2.2.2.1))=X;generalize jK.contains ((vr u).map dgC)=F;cases u.any isLv
 ·simp only[af,bj,az];by_cases b:24<seT x
  ·rw[ae b,aq (show 0<seT x by omega),aq (show seT x>=25 by omega)];rfl
  ·rw[ab b,am (show¬seT x>=25 by omega)];have a:(cond (decide (u.head?=some 45)) (some (1:Int)) (cond (decide (u.head?=some 89)) (some 1) (cond (!decide (k=0)) (some 1) (cond (decide (0<seT x)) (some 1) (cond X (some 1) (some 0))))))=some (if decide (k≠0)=true\/X=true\/0<seT x\/u.head?=some 45\/u.head?=some 89 then 1 else 0):=by
    by_cases a1:u.head?=some 45
    ·rw[aq a1,ae (by simp[a1])];rfl
    rw[am a1];by_cases a2:u.head?=some 89
    ·rw[aq a2,ae (by simp[a2])];rfl
    rw[am a2];by_cases d:k=0
    ·rw[aq d];by_cases e:0<seT x
     ·rw[aq e,ae (by simp[e])];rfl
     rw[am e];cases X
     ·rw[ab (by simp[a1,a2,d,e])];rfl
     ·rw[ae (by simp)];rfl
    ·rw[am d,ae (by simp[d])];rfl
   cases X
   ·simp only[af,xf,bj,az];simp only[af,bj]at a;rw[<-a];cases decide (0<seT x)<;>rfl
   ·cases F
    ·cases decide (0<seT x)<;>rfl
    ·simp only[aj,ca,af,wN,bj,az];simp only[aj]at a;rw[<-a];cases decide (0<seT x)<;>rfl
 ·rfl
def Ce:aa->Int->Int->Option (Int×Int)
 | [],x,m=>some (x,m)
 | c::r,x,m=>if c=69\/c=83\/(isMk c=true/\r≠[])then none else Ce r (if c=88 then 1 else x) (if isMk c=true then 1 else m)
def Xp(c:UInt8):dF 20000000 ((c.toNat:Nat):Int)=some ((mkOf c:Nat):Int):=(ND 19999700 c).2
def NZ(c:UInt8):decide (((mkOf c:Nat):Int)>0)=isMk c:=by
 unfold isMk;by_cases h:0<mkOf c
 ·rw[aq h,aq (by omega)]
 ·rw[am h,am (by omega)]
def Nl{T:aa}(u:T.length<=1000)(x:TD):∀(r i:Nat) (a m:Int),i+r=T.length->∀N,r<N->
  au (cQ 20000000) N (T,a,m,(i:Int),x)=some (match Ce (T.drop i) a m with | some p=>.inr (T,p.1,p.2,x) | none=>.inl 2):=by
 intro r
 induction r with
 | zero=>
  intro i a m hi N s;obtain⟨N,rfl⟩:∃k,N=k+1:=⟨N - 1,by omega⟩;obtain rfl:i=T.length:=by omega
  have:cQ 20000000 (T,a,m,((T.length:Nat):Int),x)=some (.inr (.inr (T,a,m,x))):=by
   unfold cQ;simp only[u5,u4,u3,u2];rw[am (show¬((T.length:Nat):Int)<len T by show¬((T.length:Nat):Int)<((T.length:Nat):Int);omega)];rfl
  rw[au,this,vd];rfl
 | succ r ih=>
  intro i a m hi N s;obtain⟨N,rfl⟩:∃k,N=k+1:=⟨N - 1,by omega⟩;have d:i<T.length:=by omega
  have o:T[i]?=some T[i]:=bf d;rw[au,qQ d,Ce];generalize T[i]=c at o ⊢;have q:T.drop (i+1)≠[]↔i+1<T.length:=by
   rw[ne_eq,List.drop_eq_nil_iff];omega
  have j:(((c.toNat:Nat):Int)==69)=decide (c=69):=kM c 69 (by decide);have g:(((c.toNat:Nat):Int)==83)=decide (c=83):=kM c 83 (by decide);have l:(((c.toNat:Nat):Int)==88)=decide (c=88):=kM c 88 (by decide);have t:w64 (len T - 1)=((T.length - 1:Nat):Int):=EE (by omega) (by omega);have:cQ 20000000 (T,a,m,(i:Int),x)=some (if c=69\/c=83\/(isMk c=true/\T.drop (i+1)≠[])then .inr (.inl 2)else .inl (T,(if c=88 then 1 else a),(if isMk c=true then 1 else m),((i+1:Nat):Int),x)):=by
   unfold cQ;simp only[u5,u4,u3,u2];rw[aq (show(i:Int)<len T by show(i:Int)<((T.length:Nat):Int);omega)];simp only[aj,ob,dE o,j,g,l,Xp,NZ,t];rw[sG (by omega)];by_cases e:c=69
   ·rw[aq e,ae (.inl e)];rfl
   rw[am e];by_cases f:c=83
   ·rw[aq f,ae (.inr (.inl f))];rfl
   rw[am f];simp only[af];cases v:isMk c
   ·rw[ab (by simp[e,f])];simp only[af,bj,az];by_cases b:c=88
    ·rw[aq b,ae b];rfl
    ·rw[am b,ab b];rfl
   ·simp only[aj,aG];by_cases n:i+1<T.length
    ·rw[aq (show(i:Int)<((T.length - 1:Nat):Int)by omega),ae (.inr (.inr ⟨trivial,q.2 n⟩))];rfl
    ·rw[am (show¬(i:Int)<((T.length - 1:Nat):Int)by omega),ab (by
      rintro(h | h | ⟨_,h⟩)
      ·exact e h
      ·exact f h
      ·exact n (q.1 h))]
     by_cases b:c=88
     ·rw[aq b,ae b];rfl
     ·rw[am b,ab b];rfl
  rw[this];by_cases hc:c=69\/c=83\/(isMk c=true/\T.drop (i+1)≠[])
  ·rw[ae hc,ae hc]
  ·rw[ab hc,ab hc];exact ih (i+1) _ _ (by omega) N (by omega)
def Dq:∀(v:aa) (w:aa) (a:Int),w≠[]->Ce (v++w) a 0=if v.any isLv then none else Ce w (if v.any (·==88)then 1 else a) 0
 | [],w,a,_=>by simp
 | c::v,w,a,d=>by
  rw[dB,Ce,qA,qA];have e:v++w≠[]:=by
   intro h;exact d (List.append_eq_nil_iff.1 h).2
  by_cases hc:isLv c=true
  ·have:c=69\/c=83\/(isMk c=true/\v++w≠[]):=by
    unfold isLv at hc;simp only[iC,bu]at hc;rcases hc with h | h | h
    ·exact .inl h
    ·exact .inr (.inl h)
    ·exact .inr (.inr ⟨h,e⟩)
   rw[ae this,hc];simp
  ·have hc':isLv c=false:=by simpa using hc
   have f:c≠69/\c≠83/\isMk c=false:=by
    unfold isLv at hc';simp only[oP,aK]at hc';exact hc'
   rw[ab (by rintro(h | h | ⟨h,_⟩)<;>simp_all),f.2.2,hc'];simp only[bj,az,oU];rw[Dq v w _ d];by_cases b:c=88
   ·subst b;simp
   ·rw[ab b,show(c==88)=false from by simp[b],oU]
def VN{T u:aa}{k:Nat}(h:Body T u k):Ce T 0 0=if u.any isLv then none else some (if u.any (·==88)then 1 else 0,if k=0 then 0 else 1):=by
 obtain⟨v,z,rfl,d⟩:=h.last;rw[h.eq,gG,Dq v _ 0 (by simp)];rw[sa,sa];cases v.any isLv
 ·simp only[bj,az,oU,qA,List.any_nil,wS,ET];rw[Ce,d];by_cases a:z=69
  ·subst a;simp[isLv]
  by_cases b:z=83
  ·subst b;simp[isLv]
  have e:isLv z=false:=by unfold isLv;rw[d];simp[a,b]
  rw[ab (by simp[a,b]),e];simp only[bj,az];have hx:(if z=88 then(1:Int)else if(v.any λx=>x==88)=true then 1 else 0)=if((v.any λx=>x==88)||z==88)=true then 1 else 0:=by
   by_cases c:z=88
   ·subst c;simp
   ·rw[ab c,show(z==88)=false from by simp[c],wS]
  rw[hx];rcases(by have:=h.k4;omega:k=0\/k=1\/k=2\/k=3)with rfl | rfl | rfl | rfl<;>rfl
 ·simp
def xR(f:aa)(u:∀c∈f,c=100\/c=88\/c=45)(w:f.length<=1000)(t:aa):aS 20000000 t f=some (if t.map dgC=f then 1 else 0):=by
 unfold aS;rw[show(len t != len f)=!decide (t.length=f.length)from cb _ (natB _ _)];by_cases l:t.length=f.length
 case neg=>
  rw[am l,ab (λh=>l (by rw[<-h];simp))];rfl
 rw[aq l];have loop:∀(r i:Nat),i+r=t.length->∀N,r<N->au (dD 20000000) N (t,f,(i:Int))=some (if(t.drop i).map dgC=f.drop i then .inr ()else .inl 0):=by
  intro r
  induction r with
  | zero=>
   intro i hi N v;obtain⟨N,rfl⟩:∃k,N=k+1:=⟨N - 1,by omega⟩;obtain rfl:i=t.length:=by omega
   have:dD 20000000 (t,f,((t.length:Nat):Int))=some (.inr (.inr ())):=by
    unfold dD;simp only[u3,u2];rw[am (show¬((t.length:Nat):Int)<len t by show¬((t.length:Nat):Int)<((t.length:Nat):Int);omega)];rfl
   rw[au,this,vd,l,vd];rfl
  | succ r ih=>
   intro i hi N v;obtain⟨N,rfl⟩:∃k,N=k+1:=⟨N - 1,by omega⟩;have j:i<t.length:=by omega
   have b:i<f.length:=by omega
   have q:t[i]?=some t[i]:=bf j;have p:f[i]?=some f[i]:=bf b;have n:=u _ (Ej b);rw[au,qQ j,qQ b,fV];generalize t[i]=c at q ⊢;generalize f[i]=d at p n ⊢;have a:(dgC c=d)↔(c=d\/(d=100/\bp c=true)):=by
    unfold dgC;by_cases h:bp c=true
    ·rw[ae h];constructor
     ·intro e;exact .inr ⟨e.symm,h⟩
     ·rintro(e | ⟨e,_⟩)
      ·subst e;rcases n with rfl | rfl | rfl
       ·rfl
       ·exact absurd h (by decide)
       ·exact absurd h (by decide)
      ·exact e.symm
    ·rw[ab h];constructor
     ·intro e;exact .inl e
     ·rintro(e | ⟨_,e⟩)
      ·exact e
      ·exact absurd e h
   have g:bp c=(decide (48<=c.toNat)&&decide (c.toNat<=57)):=by
    have:=iG (λc=>bp c==(decide (48<=c.toNat)&&decide (c.toNat<=57))) (by decide +kernel) c;simpa using this
   have:dD 20000000 (t,f,(i:Int))=some (if dgC c=d then .inl (t,f,((i+1:Nat):Int))else .inr (.inl 0)):=by
    unfold dD;simp only[u3,u2];rw[aq (show(i:Int)<len t by show(i:Int)<((t.length:Nat):Int);omega)];simp only[aj,ob,dE q,dE p];rw[sG (by omega),show(((c.toNat:Nat):Int) != ((d.toNat:Nat):Int))=!(c==d)from cb _ (nM c d),show(((d.toNat:Nat):Int)==100)=decide (d=100)from kM d 100 (by decide)];by_cases e:c=d
    ·rw[ae (a.2 (.inl e)),show(c==d)=true from by simp[e]];rfl
    ·rw[show(c==d)=false from by simp[e]];by_cases m:d=100
     ·rw[aq m];simp only[ia,aj];by_cases s:48<=c.toNat
      ·rw[aq (show((c.toNat:Nat):Int)>=48 by omega)];by_cases o:c.toNat<=57
       ·rw[aq (show((c.toNat:Nat):Int)<=57 by omega),ae (a.2 (.inr ⟨m,by rw[g];simp[s,o]⟩))];rfl
       ·rw[am (show¬((c.toNat:Nat):Int)<=57 by omega),ab (λh=>by
         rcases a.1 h with h | ⟨_,h⟩
         ·exact e h
         ·rw[g]at h;simp[o]at h)];rfl
      ·rw[am (show¬((c.toNat:Nat):Int)>=48 by omega),ab (λh=>by
        rcases a.1 h with h | ⟨_,h⟩
        ·exact e h
        ·rw[g]at h;simp[s]at h)];rfl
     ·rw[am m,ab (λh=>by
       rcases a.1 h with h | ⟨h,_⟩
       ·exact e h
       ·exact m h)];rfl
   rw[this];by_cases e:dgC c=d
   ·rw[ae e];simp only[];rw[ih (i+1) (by omega) N (by omega),e];simp
   ·rw[ab e,ab (λh=>e (List.cons.inj h).1)]
 have:=loop t.length 0 (by omega) 20000000 (by omega);rw[show((0:Nat):Int)=0 from rfl,bI,bI]at this;rw[this];split<;>rfl
def Jv(t:aa):(w64 ((w64 ((w64 ((w64 ((if t.map dgC=[100,100,100,88]then(1:Int)else 0)+(if t.map dgC=[100,100,88,88]then(1:Int)else 0)))+(if t.map dgC=[100,100,100,100,45,88,88]then(1:Int)else 0)))+(if t.map dgC=[100,100,100,100,45,100,100,45,88,88]then(1:Int)else 0)))+(if t.map dgC=[100,100,100,100,45,88,88,45,88,88]then(1:Int)else 0))==0)=!simB t:=by
 unfold simB jK;simp only[List.contains_cons,List.contains_nil,wS];have e:∀f:aa,(t.map dgC=f)=((t.map dgC==f)=true):=λf=>by simp
 simp only[e];generalize(t.map dgC==[100,100,100,88])=z1;generalize(t.map dgC==[100,100,88,88])=z2;generalize(t.map dgC==[100,100,100,100,45,88,88])=b;generalize(t.map dgC==[100,100,100,100,45,100,100,45,88,88])=a;generalize(t.map dgC==[100,100,100,100,45,88,88,45,88,88])=c;cases z1<;>cases z2<;>cases b<;>cases a<;>cases c<;>rfl
def Uy(t:aa):aS 20000000 t [100,100,100,88]=some (if t.map dgC=[100,100,100,88]then 1 else 0):=xR _ (by decide) (by decide) t
def Ux(t:aa):aS 20000000 t [100,100,88,88]=some (if t.map dgC=[100,100,88,88]then 1 else 0):=xR _ (by decide) (by decide) t
def V2(t:aa):aS 20000000 t [100,100,100,100,45,88,88]=some (if t.map dgC=[100,100,100,100,45,88,88]then 1 else 0):=xR _ (by decide) (by decide) t
def VU(t:aa):aS 20000000 t [100,100,100,100,45,100,100,45,88,88]=some (if t.map dgC=[100,100,100,100,45,100,100,45,88,88]then 1 else 0):=xR _ (by decide) (by decide) t
def Ur(t:aa):aS 20000000 t [100,100,100,100,45,88,88,45,88,88]=some (if t.map dgC=[100,100,100,100,45,88,88,45,88,88]then 1 else 0):=xR _ (by decide) (by decide) t
def RD{T u:aa}{k:Nat}(h:Body T u k){g l:Bool}{dg:aa}{e q:Nat}{m d:aa}{M P:Nat×Nat×Nat}{p:Nat}(F:nU T 0=.inr (g,l,dg,e,q,m,d,M,P,p)):
  eF 20000000 T=some (lvl u (decide (k≠0)) (u.any (·==88)) (sea m)):=by
 have H:=h.len;obtain⟨Q,_,C⟩:=xX 19999700 T 0 (by omega) (by omega) (by omega);rw[show 19999700+300=20000000 from rfl,F,show((0:Nat):Int)=0 from rfl]at C;have j:=Nl H (g,l,dg,(e:Int),(q:Int),m,d,(M.1:Int),(M.2.1:Int),(M.2.2:Int)) T.length 0 0 0 (by omega) 20000000 (by omega);rw[show((0:Nat):Int)=0 from rfl,bI,VN h]at j;unfold eF;rw[C];simp only[ob,RG];rw[show au (cQ 20000000) 20000000 (T,0,0,0,iF (g,l,dg,(e:Int),(q:Int),m,d,(M.1:Int),(M.2.1:Int),(M.2.2:Int),Q,T,(p:Int),(0:Int)))=_ from j];have B:∃c r,u=c::r:=by
  cases f:u with
  | nil=>exact absurd f h.ne
  | cons c r=>exact⟨c,r,rfl⟩
 have w:ap10 (aO 20000000) (iF (g,l,dg,(e:Int),(q:Int),m,d,(M.1:Int),(M.2.1:Int),(M.2.2:Int),Q,T,(p:Int),(0:Int)))=some (sea m):=rsT _;unfold lvl;cases u.any isLv
 case true=>rfl
 simp only[bj,az,obs,sm,ob,u4,u3,u2];rw[w];simp only[ob];by_cases b:24<sea m
 ·rw[ae b,show decide (sea m>24)=true from aq b];rfl
 rw[ab b,show decide (sea m>24)=false from am b,af];have J:=h.k4;have t:=cb List.length h.eq;rw[bw]at t;have s:bx (List.length T) (w64 ((len T) - (if k=0 then(0:Int)else 1)))=some u.length:=by
  have:w64 ((len T) - (if k=0 then(0:Int)else 1))=((u.length:Nat):Int):=by
   have I:len T=((T.length:Nat):Int):=rfl;rw[I,t];show wrap .i64 _=_;rw[wrap_i64 _ (by split<;>omega) (by split<;>omega)];rcases(by omega:k=0\/k=1\/k=2\/k=3)with rfl | rfl | rfl | rfl<;>simp[mt]
  rw[this,fC (by omega)]
 have z:List.take u.length T=u:=by rw[h.eq,xJ]
 rw[s];simp only[bI,z];obtain⟨c,r,f⟩:=B;have v:sx u (0:Int)=some c:=by rw[f];rfl
 have y:sx T (0:Int)=some c:=by rw[h.eq,f];rfl
 have o:vr u=if c=45 then r else u:=by rw[f];rfl
 have K:u.head?=some c:=by rw[f];rfl
 have b1:bx u.length (1:Int)=some 1:=fC (i:=1) (by rw[f];simp);have A:List.drop 1 (List.take u.length u)=r:=by rw[nT,f];rfl
 rw[v,y,b1];simp only[A,ob,Uy,Ux,V2,VU,Ur,Jv];rw[show(((c.toNat:Nat):Int)==45)=decide (c=45)from kM c 45 (by decide),show(((c.toNat:Nat):Int)==89)=decide (c=89)from kM c 89 (by decide),K];have a:(cond ((if(u.any λx=>x==88)=true then(1:Int)else 0)==1) (some (1:Int)) (cond ((if k=0 then(0:Int)else 1)==1) (some 1) (cond (decide (sea m>0)) (some 1) (cond (decide (c=45)) (some 1) (cond (decide (c=89)) (some 1) (some 0)))))) =
   some (if decide (k≠0)=true\/(u.any λx=>x==88)=true\/0<sea m\/some c=some 45\/some c=some 89 then 1 else 0):=by
  cases(u.any λx=>x==88)
  ·by_cases a1:k=0
   ·by_cases a2:0<sea m
    ·simp[a1,a2]
    ·by_cases D:c=45
     ·simp[a1,a2,D]
     ·by_cases E:c=89
      ·simp[a1,a2,E]
      ·simp[a1,a2,D,E]
   ·simp[a1]
  ·simp
 by_cases hc:c=45
 ·rw[aq hc,aj];rw[o,ae hc];rw[aq hc]at a;cases n:(u.any λx=>x==88)
  ·rw[n]at a;simp only[xf,bj,az,show((0:Int)==1)=false from rfl,af]at a ⊢;exact a
  ·rw[n]at a;cases G:simB r
   ·simp
   ·simp only[aG,show((1:Int)==1)=true from rfl,aj,af,ca,wN,bj,az]at a ⊢;exact a
 ·rw[am hc,af];rw[o,ab hc];rw[am hc]at a;cases n:(u.any λx=>x==88)
  ·rw[n]at a;simp only[xf,bj,az,show((0:Int)==1)=false from rfl,af]at a ⊢;exact a
  ·rw[n]at a;cases G:simB u
   ·simp
   ·simp only[aG,show((1:Int)==1)=true from rfl,aj,af,ca,wN,bj,az]at a ⊢;exact a
def pT{k:Nat}(h:k<4):(mt k).all okC=true:=by
 rcases(by omega:k=0\/k=1\/k=2\/k=3)with rfl | rfl | rfl | rfl<;>decide
def x_mk{k:Nat}(h:k<4):(mt k).any (·==88)=false:=by
 rcases(by omega:k=0\/k=1\/k=2\/k=3)with rfl | rfl | rfl | rfl<;>decide
def VJ:((List.range 100).all λk=>(Lib.decDigits k).all λc=>okC c&&(!isMk c&&!(c==88)))=true:=by decide +kernel
def C0{k:Nat}(h:k<100){letter:UInt8}(a:letter=69\/letter=83):(fQ letter k).all (λc=>okC c&&(!isMk c&&!(c==88)))=true:=by
 unfold fQ;split
 ·rw[mK,(cE.1 VJ) k (kB.2 h)];rcases a with rfl | rfl<;>decide
 ·rfl
def K8{c:UInt8}(h:isDX c=true):okC c=true:=by unfold okC;rw[h];rfl
def xQ{g l:Bool}{dg:aa}{x q:Nat}(h:okY g l dg (x:Int) (q:Int)):mL g l dg (x:Int) (q:Int)≠[]/\(∀c∈mL g l dg (x:Int) (q:Int),okC c=true/\isMk c=false)/\(mL g l dg (x:Int) (q:Int)).any (·==88)=hasX dg:=by
 obtain⟨n,j,k,m,e,o⟩:=kC h;have hx:x<100:=by omega
 have i:q<100:=by omega
 have b:=C0 hx (letter:=69) (.inl rfl);have a:=C0 i (letter:=83) (.inr rfl);have d:=J5 h;have hd:dg≠[]:=by
  rintro rfl;simp at e
 rw[lx];refine⟨by cases l<;>cases g<;>simp[hd],λc hc=>?_,?_⟩
 ·simp only[mF,or_assoc]at hc;rcases hc with hc | hc | hc | hc | hc
  ·cases l
   ·cases hc
   ·rw[uS.1 hc];decide
  ·cases g
   ·cases hc
   ·rw[uS.1 hc];decide
  ·exact⟨K8 (d c hc),Ih (d c hc)⟩
  ·have:=(cE.1 b) c hc;simp only[aC,kL]at this;exact⟨this.1,this.2.1⟩
  ·have:=(cE.1 a) c hc;simp only[aC,kL]at this;exact⟨this.1,this.2.1⟩
 ·have no:∀w:aa,w.all (λc=>okC c&&(!isMk c&&!(c==88)))=true->w.any (·==88)=false:=by
   intro w f;rw[rU];intro c hc;have:=(cE.1 f) c hc;simp only[aC,kL]at this;rw[this.2.2];simp
  simp only[sa,no _ b,no _ a,wS];unfold hasX;cases l<;>cases g<;>simp
def Fo{w:aa}(h:w≠[])(a:∀c∈w,isMk c=false)(v:aa):∃b z,v++w=b++[z]/\isMk z=false:=
 ⟨v++w.dropLast,w.getLast h,by rw[gG,List.dropLast_concat_getLast],a _ (List.getLast_mem h)⟩
def Hz{A B:Nat×Nat×Nat}{g l:Bool}{dg:aa}{x q:Nat}{m d:aa}(hs:ShD g l dg x q m d)(Q:MkD A B m d):
  ∃u k,Body (rawD A B g l dg (x:Int) (q:Int) m d) u k/\u.any (·==88)=(hasX dg||(hasX m||hasX d))/\(u.any isLv=false->A=(0,0,0)/\(m≠[]->B.1=0)/\(d≠[]->B.2.1=0))/\k=(if m=[]then B.1 else if d=[]then B.2.1 else B.2.2):=by
 obtain⟨T,D,v⟩:=xQ hs.yr;have yl:=Jk hs.yr;obtain⟨i,n,y⟩:=A;obtain⟨j,p,F⟩:=B;obtain⟨a0,a1,a2,b0,b1,b2,zm,zd⟩:=Q;simp only at a0 a1 a2 b0 b1 b2 zm zd;unfold rawD iI;simp only;generalize mL g l dg (x:Int) (q:Int)=Y at *;have b:∀w:aa,w.all okC=true->∀c∈w,c.toNat<128:=λw M c hc=>Vn ((cE.1 M) c hc);have t:Y.all okC=true:=cE.2 λc hc=>(D c hc).1;have f:∀k,k<4->(mt k).length<=1:=λk h=>by
  rcases(by omega:k=0\/k=1\/k=2\/k=3)with rfl | rfl | rfl | rfl<;>simp[mt]
 have L:=f i a0;have O:=f n a1;have W:=f y a2;have P:=f j b0;have V:=f p b1;have J:=f F b2;have a:∀k,k<4->(mt k).any isLv=false->k=0:=λk h=>by
  rcases(by omega:k=0\/k=1\/k=2\/k=3)with rfl | rfl | rfl | rfl<;>decide
 have o:∀w:aa,w.any (λx=>x==88)=hasX w:=λw=>rfl;by_cases e:m=[]
 ·have hd:d=[]:=hs.day.resolve_right (λz=>z.1 e);subst e hd;obtain⟨rfl,rfl⟩:=zm rfl;obtain⟨rfl,rfl⟩:=zd rfl;simp only[aG,lu];refine⟨mt i++Y,j,⟨rfl,b0,Fo T (λc hc=>(D c hc).2) _,b _ (by rw[C4,C4,pT a0,t,pT b0];rfl),by simp only[bw];omega⟩,?_,?_,rfl⟩
  ·rw[sa,x_mk a0,v];simp[hasX]
  ·intro h;rw[sa,oP]at h;exact⟨by rw[a _ a0 h.1],λh=>absurd rfl h,λh=>absurd rfl h⟩
 ·obtain⟨I,mx⟩:=hs.mon.resolve_left e;have G:m.all okC=true:=cE.2 λc hc=>K8 (mx c hc);rw[ab e,ab e];by_cases hd:d=[]
  ·subst hd;obtain⟨rfl,rfl⟩:=zd rfl;simp only[aG,lu];refine⟨mt i++Y++mt j++(45::(mt n++m)),p,⟨by simp,b1,?_,b _ ?_,by simp only[bw,aN];omega⟩,?_,?_,rfl⟩
   ·have:=Fo e (λc hc=>Ih (mx c hc)) (mt i++Y++mt j++(45::mt n));simpa using this
   ·simp only[C4,mK,pT a0,t,pT b0,pT a1,G,pT b1,show okC 45=true from by decide];rfl
   ·simp only[sa,qA,x_mk a0,x_mk b0,x_mk a1,v];simp only[o];simp[hasX]
   ·intro h;simp only[sa,qA,oP]at h;obtain⟨⟨⟨C,N⟩,s⟩,R,r,K⟩:=h;exact⟨by rw[a _ a0 C,a _ a1 r],λ_=>a _ b0 s,λh=>absurd rfl h⟩
  ·obtain⟨_,Z,E⟩:=hs.day.resolve_left hd;have S:d.all okC=true:=cE.2 λc hc=>K8 (E c hc);rw[ab hd,ab hd];refine⟨mt i++Y++mt j++(45::(mt n++m++mt p))++(45::(mt y++d)),F,⟨by simp,b2,?_,b _ ?_,by simp only[bw,aN];omega⟩,?_,?_,rfl⟩
   ·have:=Fo hd (λc hc=>Ih (E c hc)) (mt i++Y++mt j++(45::(mt n++m++mt p))++(45::mt y));simpa using this
   ·simp only[C4,mK,pT a0,t,pT b0,pT a1,G,pT b1,pT a2,S,pT b2,show okC 45=true from by decide];rfl
   ·simp only[sa,qA,x_mk a0,x_mk b0,x_mk a1,x_mk b1,x_mk a2,v];simp only[o];simp[Bool.or_assoc]
   ·intro h;simp only[sa,qA,oP]at h;obtain⟨⟨⟨⟨C,N⟩,s⟩,R,⟨r,K⟩,X⟩,h8,U,H⟩:=h;exact⟨by rw[a _ a0 C,a _ a1 r,a _ a2 U],λ_=>a _ b0 s,λ_=>a _ b1 X⟩
def mkX(x:TD):Bool:=hasX x.2.2.1||(hasX x.2.2.2.2.2.1||hasX x.2.2.2.2.2.2.1)
def lvT(T:aa)(x:TD):Int:=lvl (Lib.trimRightS T [63,126,37]) (!(Lib.trimRightS T [63,126,37]==T)) (mkX x) (seT x)
def TJ{T u:aa}{k:Nat}(h:Body T u k){x:TD}(hs:smT x):ky 20000000 T x=some (lvT T x):=by
 rw[WH h hs];unfold lvT mkX;rw[xH h,EN h];simp
def NT{S:aa}{a:Nat}(h:a<=S.length){r:DR}(f:bZ S a=.inr r):∃A B u k,MkD A B (tdR r).2.2.2.2.2.1 (tdR r).2.2.2.2.2.2.1/\plR r=a+(mt A.1).length/\
  (S.drop a).take (enR r - a)=rawD A B r.1 r.2.1 r.2.2.1 (r.2.2.2.1:Int) (r.2.2.2.2.1:Int) r.2.2.2.2.2.1 r.2.2.2.2.2.2.1/\r.2.2.2.2.2.2.2.1=spM A B/\Body ((S.drop a).take (enR r - a)) u k/\
  ky 20000000 ((S.drop a).take (enR r - a)) (tdR r)=some (lvT ((S.drop a).take (enR r - a)) (tdR r)):=by
 obtain⟨o,t,p,w⟩:=ip h f;obtain⟨E,_⟩:=AM h f;obtain⟨F,G,y,C,z,m',d',k0,k1,k2,b,ok⟩:=qB o t;obtain⟨g,l,dg,x,s,m,d,M,P,e⟩:=r;have ok:ShD g l dg x s m d:=by
  unfold tdR at b;simp only[bm]at b;obtain⟨rfl,rfl,rfl,hx,j,rfl,rfl,_⟩:=b;have hx:x=C:=by omega
  have j:s=z:=by omega
  subst hx j;exact ok.sh
 obtain⟨A,B,mk,D,v,n⟩:=CO E;have q:(rawD A B g l dg (x:Int) (s:Int) m d).length=e - a:=by
  have:=cb List.length n;simp only[bw,ba]at this;have:a<=e:=p;have:e<=S.length:=w;omega
 have c:(S.drop a).take (e - a)=rawD A B g l dg (x:Int) (s:Int) m d:=by rw[n,<-q,xJ]
 obtain⟨u,k,i,H,_⟩:=Hz ok mk;refine⟨A,B,u,k,mk,v,c,D,by rw[show enR (g,l,dg,x,s,m,d,M,P,e)=e from rfl,c];exact i,?_⟩
 ·rw[show enR (g,l,dg,x,s,m,d,M,P,e)=e from rfl,c];exact TJ i o
def LY{S:aa}{a:Nat}(h:a<=S.length){r:DR}(j:bZ S a=.inr r):∃A B u k,MkD A B (tdR r).2.2.2.2.2.1 (tdR r).2.2.2.2.2.2.1/\plR r=a+(mt A.1).length/\
  (S.drop a).take (enR r - a)=rawD A B r.1 r.2.1 r.2.2.1 (r.2.2.2.1:Int) (r.2.2.2.2.1:Int) r.2.2.2.2.2.1 r.2.2.2.2.2.2.1/\r.2.2.2.2.2.2.2.1=spM A B/\Body ((S.drop a).take (enR r - a)) u k/\
  ky 20000000 ((S.drop a).take (enR r - a)) (tdR r)=some (lvT ((S.drop a).take (enR r - a)) (tdR r))/\eF 20000000 ((S.drop a).take (enR r - a))=some (lvT ((S.drop a).take (enR r - a)) (tdR r)):=by
 obtain⟨p,v,q,z⟩:=ip h j;obtain⟨G,_⟩:=AM h j;obtain⟨H,I,C,E,D,m',d',k0,k1,k2,i,ok⟩:=qB p v;obtain⟨g,l,dg,x,s,m,d,M,P,e⟩:=r;have ok:ShD g l dg x s m d:=by
  unfold tdR at i;simp only[bm]at i;obtain⟨rfl,rfl,rfl,hx,n,rfl,rfl,_⟩:=i;have hx:x=E:=by omega
  have n:s=D:=by omega
  subst hx n;exact ok.sh
 obtain⟨A,B,mk,F,y,o⟩:=CO G;have t:(rawD A B g l dg (x:Int) (s:Int) m d).length=e - a:=by
  have:=cb List.length o;simp only[bw,ba]at this;have:a<=e:=q;have:e<=S.length:=z;omega
 have c:(S.drop a).take (e - a)=rawD A B g l dg (x:Int) (s:Int) m d:=by rw[o,<-t,xJ]
 obtain⟨u,k,b,w,_⟩:=Hz ok mk;refine⟨A,B,u,k,mk,y,c,F,by rw[show enR (g,l,dg,x,s,m,d,M,P,e)=e from rfl,c];exact b,?_,?_⟩
 ·rw[show enR (g,l,dg,x,s,m,d,M,P,e)=e from rfl,c];exact TJ b p
 ·rw[show enR (g,l,dg,x,s,m,d,M,P,e)=e from rfl,c];obtain⟨J,_,f⟩:=Gz ok mk (S:=rawD A B g l dg (x:Int) (s:Int) m d) (a:=0) (post:=[]) (by simp) uO uO uO;rw[RD b f,w];unfold lvT mkX;rw[xH b,EN b];simp only[decide_not];rfl
def mx(a b:Int):Int:=if a>b then a else b
def lvR(S:aa)(p:Nat)(r:DR):Int:=lvT ((S.drop p).take (enR r - p)) (tdR r)
def JM(u:aa)(b X:Bool)(c:Int):0<=lvl u b X c/\lvl u b X c<=2:=by
 unfold lvl
 repeat' split
 all_goals omega
def KV(S:aa)(p:Nat)(r:DR):0<=lvR S p r/\lvR S p r<=2:=JM _ _ _ _
def bcT{x:TD}(h:smT x)(K:Int):ap10 (jm 20000000 K) x=some (sT K x):=Bi h.1 h.2.1 h.2.2.1 h.2.2.2.1 h.2.2.2.2.1 h.2.2.2.2.2
noncomputable def toP(S:aa)(p:Nat)(KF:Int)(DF:TD)(lv:Int):(Nat×Nat)⊕(Int×TD×Int×Nat):=
 if KF=1/\p=S.length then .inr (3,d0,mx 1 lv,p)
 else if KF=1/\dts (S.drop p)=true then .inr (2,d0,mx 1 lv,p+2)
 else match bZ S p with
  | .inl f=>.inl (f.1,f.2.1)
  | .inr r=>if exT (tdR r)=true then(if enR r<S.length\/og KF DF 1 (tdR r)=0 then .inr (1,tdR r,mx (lvR S p r) (if KF=1 then lv else mx 1 lv),enR r)else .inl (plR r,11))else .inl (plR r,11)
def VH(S:aa)(D:TD)(KF:Int)(DF:TD)(e l:Bool):(Nat×Nat)⊕(Int×TD×Int×Nat)->(Int×TD×Int×TD×Int×TD×Bool×Bool×Int×aa×Int)⊕(Int×Int×Int×TD×Int×TD×Int×TD×Bool×Bool×Int×aa×Int)->Prop
 | .inl f,y=>∃z,y=.inr ((f.1:Int),(f.2:Int),z)
 | .inr (KT,DT,lv,p),y=>y=.inl (2,D,KF,DF,KT,DT,e,l,lv,S,(p:Int))
def HY{S:aa}{p:Nat}(h:p<=S.length):(peek (S.drop p)).2=decide (p<S.length):=by
 by_cases hp:p<S.length
 ·rw[aq hp,bR (bf hp)];rfl
 ·rw[am hp,iU (by omega)];rfl
noncomputable def toX(S:aa)(p:Nat)(KF:Int)(DF:TD)(lv:Int):(Nat×Nat)⊕(Int×TD×Int):=match toP S p KF DF lv with
 | .inl f=>.inl f
 | .inr (KT,DT,L,q)=>if q<S.length then .inl (q,5)else .inr (KT,DT,L)
noncomputable def hZ(S:aa):(Nat×Nat)⊕(Int×TD×Int×TD×Int×TD×Int)⊕(Int×Bool×Bool×List TI):=
 if S.head?=some 91\/S.head?=some 123 then(match tt S with | .inl f=>.inl f | .inr q=>.inr (.inr q))
 else if S.head?=some 47 then(match toX S 1 3 d0 0 with | .inl f=>.inl f | .inr (KT,DT,L)=>.inr (.inl (2,d0,3,d0,KT,DT,L)))
 else if dts S=true then(if(S.drop 2).head?=some 47 then(match toX S 3 2 d0 0 with | .inl f=>.inl f | .inr (KT,DT,L)=>.inr (.inl (2,d0,2,d0,KT,DT,L)))else .inl (2,5))
 else match bZ S 0 with
  | .inl f=>.inl (f.1,f.2.1)
  | .inr r=>if(S.drop (enR r)).head?=some 47 then(if exT (tdR r)=true then(match toX S (enR r+1) 1 (tdR r) (lvR S 0 r)with | .inl f=>.inl f | .inr (KT,DT,L)=>.inr (.inl (2,d0,1,tdR r,KT,DT,L)))else .inl (plR r,11))
   else if enR r<S.length then .inl (enR r,5)else .inr (.inl (1,tdR r,0,d0,0,d0,lvR S 0 r))
def nN{S:aa}{p:Nat}(h:p<=S.length){f:Nat×Nat×Nat}(a:bZ S p=.inl f):f.2.1≠0:=qw (k:=f.1) (E:=f.2.1) (p:=f.2.2) h a
def UU{S:aa}{p:Nat}(h:p<=S.length){KF:Int}{DF:TD}{lv:Int}{KT:Int}{DT:TD}{L:Int}{q:Nat}(a:toP S p KF DF lv=.inr (KT,DT,L,q)):q<=S.length/\smT DT:=by
 unfold toP at a;split at a
 ·cases a;exact⟨h,lh⟩
 ·split at a
  ·rename_i hd;cases a;exact⟨mz hd.2,lh⟩
  ·cases b:bZ S p with
   | inl f=>rw[b]at a;cases a
   | inr r=>
    obtain⟨d,_,_,c⟩:=ip h b;rw[b]at a;simp only[]at a;split at a
    ·split at a
     ·cases a;exact⟨c,d⟩
     ·cases a
    ·cases a
def zX{S:aa}{p:Nat}(h:p<=S.length){KF:Int}{DF:TD}{lv:Int}{f:Nat×Nat}(a:toP S p KF DF lv=.inl f):f.2≠0:=by
 unfold toP at a;split at a
 ·cases a
 ·split at a
  ·cases a
  ·cases b:bZ S p with
   | inl g=>rw[b]at a;cases a;exact nN h b
   | inr r=>
    rw[b]at a;simp only[]at a;split at a
    ·split at a
     ·cases a
     ·cases a;simp
    ·cases a;simp
def D6(l:aa)(c:UInt8)(hc:c≠0):((peek l).1==((c.toNat:Nat):Int))=decide (l.head?=some c):=by
 have:=wG l c hc;cases l with
 | nil=>exact this
 | cons a r=>exact this
def GR{S:aa}{p:Nat}(h:p<=S.length)(a:S.length<100000)(c:UInt8):aA 20000000 [c] S (p:Int)=some (decide ((S.drop p).head?=some c),S,((if(S.drop p).head?=some c then p+1 else p:Nat):Int)):=by
 rw[nh _ _ _ _ h (by omega)];simp only[tk1];by_cases hc:(S.drop p).head?=some c
 ·rw[ae hc,ae hc,aq hc];rfl
 ·rw[ab hc,ab hc,am hc]
def K0{S:aa}{p:Nat}(h:p<=S.length)(a:S.length<100000):aA 20000000 [46,46] S (p:Int)=some (dts (S.drop p),S,((if dts (S.drop p)=true then p+2 else p:Nat):Int)):=by
 rw[nh _ _ _ _ h (by omega)];cases hd:dts (S.drop p)
 ·rw[ab (show¬(S.drop p).take [(46:UInt8),46].length=[46,46]fromλh=>by unfold dts at hd;rw[show(S.drop p).take 2=[46,46]from h]at hd;cases hd)];rfl
 ·rw[ae (show(S.drop p).take [(46:UInt8),46].length=[46,46]from eq_of_beq hd)];rfl
def Ij{S:aa}{p:Nat}(h:p<=S.length)(b:S.length<100000):bW 20000000 [47] S (p:Int)=some (if(S.drop p).head?=some 47 then .inl (S,((p+1:Nat):Int))else .inr ((p:Int),5,S,(p:Int))):=by
 rw[Ap _ _ _ _ h (by omega) (by simp) (by simp)];simp only[tk1];by_cases hc:(S.drop p).head?=some 47
 ·rw[ae hc,ae hc];rfl
 ·rw[ab hc,ab hc];have:lcp (S.drop p) [47]=0:=by
   cases hd:S.drop p with
   | nil=>rfl
   | cons a r=>
    rw[hd]at hc;simp only[lcp];rw[show(a==47)=false from by rw[aK];rintro rfl;exact hc rfl];rfl
  rw[this];rfl
noncomputable def zZ(S:aa):(Nat×Nat)⊕(Int×TD×Int×TD×Int×TD×Int×Nat)⊕(Int×Bool×Bool×List TI×Nat):=
 if S.head?=some 91\/S.head?=some 123 then(match ox S 0 with | .inl f=>.inl (f.1,f.2.1) | .inr q=>.inr (.inr q))
 else if S.head?=some 47 then(match toP S 1 3 d0 0 with | .inl f=>.inl f | .inr (KT,DT,L,q)=>.inr (.inl (2,d0,3,d0,KT,DT,L,q)))
 else if dts S=true then(if(S.drop 2).head?=some 47 then(match toP S 3 2 d0 0 with | .inl f=>.inl f | .inr (KT,DT,L,q)=>.inr (.inl (2,d0,2,d0,KT,DT,L,q)))else .inl (2,5))
 else match bZ S 0 with
  | .inl f=>.inl (f.1,f.2.1)
  | .inr r=>if(S.drop (enR r)).head?=some 47 then(if exT (tdR r)=true then(match toP S (enR r+1) 1 (tdR r) (lvR S 0 r)with | .inl f=>.inl f | .inr (KT,DT,L,q)=>.inr (.inl (2,d0,1,tdR r,KT,DT,L,q)))else .inl (plR r,11))
   else .inr (.inl (1,tdR r,0,d0,0,d0,lvR S 0 r,enR r))
def mx0{a:Int}(h:0<=a):mx a 0=a:=by unfold mx;split<;>omega
def Lu{S:aa}{f:Nat×Nat}(a:zZ S=.inl f):f.2≠0:=by
 unfold zZ at a;split at a
 ·cases b:ox S 0 with
  | inl g=>rw[b]at a;cases a;exact wX (du _) b
  | inr q=>rw[b]at a;cases a
 ·split at a
  ·rename_i h;cases b:toP S 1 3 d0 0 with
   | inl g=>
    rw[b]at a;cases a;exact zX (fS (S:=S) (p:=0) (by rw[bI];exact h)) b
   | inr q=>rw[b]at a;cases a
  ·split at a
   ·split at a
    ·rename_i h;cases b:toP S 3 2 d0 0 with
     | inl g=>rw[b]at a;cases a;exact zX (fS h) b
     | inr q=>rw[b]at a;cases a
    ·cases a;simp
   ·cases b:bZ S 0 with
    | inl g=>rw[b]at a;cases a;exact nN (du _) b
    | inr r=>
     rw[b]at a;simp only[]at a;split at a
     ·rename_i h;split at a
      ·cases c:toP S (enR r+1) 1 (tdR r) (lvR S 0 r)with
       | inl g=>rw[c]at a;cases a;exact zX (fS h) c
       | inr q=>rw[c]at a;cases a
      ·cases a;simp
     ·cases a
def Ed(S:aa):hZ S=match zZ S with
  | .inl f=>.inl f
  | .inr (.inl (K,D,KF,DF,KT,DT,L,q))=>if q<S.length then .inl (q,5)else .inr (.inl (K,D,KF,DF,KT,DT,L))
  | .inr (.inr (K,e,l,I,q))=>if q<S.length then .inl (q,5)else .inr (.inr (K,e,l,I)):=by
 unfold hZ zZ tt toX;split
 ·cases ox S 0 with
  | inl f=>rfl
  | inr q=>
   obtain⟨_,_,_,_,p⟩:=q;by_cases hp:p<S.length<;>simp[hp]
 ·split
  ·cases toP S 1 3 d0 0 with
   | inl f=>rfl
   | inr q=>
    obtain⟨_,_,_,p⟩:=q;by_cases hp:p<S.length<;>simp[hp]
  ·split
   ·split
    ·cases toP S 3 2 d0 0 with
     | inl f=>rfl
     | inr q=>
      obtain⟨_,_,_,p⟩:=q;by_cases hp:p<S.length<;>simp[hp]
    ·rfl
   ·cases bZ S 0 with
    | inl f=>rfl
    | inr r=>
     simp only[];split
     ·split
      ·cases toP S (enR r+1) 1 (tdR r) (lvR S 0 r)with
       | inl f=>rfl
       | inr q=>
        obtain⟨_,_,_,p⟩:=q;by_cases hp:p<S.length<;>simp[hp]
      ·rfl
     ·rfl
def Na(a b:Int):mx a b=mx b a:=by unfold mx;split<;>split<;>omega
def QV(a b:Int):(cond (decide (a>b)) a b)=mx a b:=by unfold mx;rw[bC]
def cut2{S:aa}{p:Nat}(h:p+1<S.length):((List.drop p (List.take (p+2) S))==([46,46]:aa))=dts (S.drop p):=by
 unfold dts;rw[mR]
def DC{S:aa}{p:Nat}(h:¬p+1<S.length):dts (S.drop p)=false:=by
 cases hd:dts (S.drop p)
 ·rfl
 ·have:=mz hd;omega
def VZ(KF:Int)(DF:TD):(Nat×Nat)⊕(Int×TD×Int)->(Int×TD×Int×TD×Int×TD×Bool×Bool×Int×Int×Int)⊕(Int×TD×Int×TD×Int×TD×Bool×Bool×Int×Int×Int×List TI)
 | .inl f=>.inr (0,d0,0,d0,0,d0,false,false,0,(f.1:Int),(f.2:Int),[])
 | .inr (KT,DT,L)=>.inl (2,d0,KF,DF,KT,DT,false,false,L,0,0)
def WZ{S:aa}{p:Nat}(h:p<=S.length)(hS:S.length<100000){KF:Int}{DF:TD}(W:smT DF)(lv b:Int)(e:b=if KF=1 then lv else mx 1 lv)(J:List TI):
  m6 20000000 S (p:Int) 0 d0 KF DF 0 d0 false false b J=some (VZ KF DF (toX S p KF DF lv)):=by
 have g:(¬(KF=1/\p=S.length))->(¬(KF=1/\dts (S.drop p)=true))->(ob (eJ 20000000 S (p:Int)) λa=>(cond ((d4 (d8 a)).2 != 0) (ob (bg 20000000 (d4 (d8 a)).1 (d4 (d8 a)).2) (u12 λv37 j o E v41 O v43 H v45 l v47 v48=>(some (.inr (v37,j,o,E,v41,O,v43,H,v45,l,v47,v48))))) (ob (ap10 (aL 20000000) (iF a)) λm=>(cond (m==0) (ob (bg 20000000 (d8 a).2.2.1 11) (u12 λv50 v51 i z I Y t X u P Z F=>(some (.inr (v50,v51,i,z,I,Y,t,X,u,P,Z,F))))) (cond (decide ((d4 (d8 a)).1<(len S))) (ob (bg 20000000 (d4 (d8 a)).1 5) (u12 λM v R T L C U x s v71 v72 D=>(some (.inr (M,v,R,T,L,C,U,x,s,v71,v72,D))))) (ob (ap10 (ap10 (eC 20000000 KF) DF 1) (iF a)) λv74=>(cond (v74 != 0) (ob (bg 20000000 (d8 a).2.2.1 11) (u12 λV Q n y q B K N v83 G v85 v86=>(some (.inr (V,Q,n,y,q,B,K,N,v83,G,v85,v86))))) (ob (bx (List.length S) (p:Int)) λv87=>(ob (eF 20000000 (List.drop v87 (List.take (List.length S) S))) λv88=>(some (.inl (2,d0,KF,DF,1,(iF a),false,false,(mx v88 b),0,0)))))))))))) =
   some (VZ KF DF (toX S p KF DF lv)):=by
  intro d hd;obtain⟨A,hA⟩:=rx S p h hS;rw[hA];unfold toX toP;rw[ab d,ab hd];cases w:bZ S p with
  | inl f=>
   have hE:=nN h w;rw[zn];simp only[ob];show cond (((f.2.1:Nat):Int) != 0) _ _=_;rw[show(((f.2.1:Nat):Int) != 0)=true from by simp;omega];rfl
  | inr r=>
   obtain⟨s1,c1,l1,l2⟩:=ip h w;obtain⟨_,_,_,_,_,_,_,_,_,_,hv⟩:=LY h w;rw[uA];simp only[ob];show cond ((0:Int) != 0) _ (ob (ap10 (aL 20000000) (tdR r)) _)=_;rw[reT s1];simp only[eI,af,ob];cases hx:exT (tdR r)
   ·rfl
   ·simp only[aG,show((1:Int)==0)=false from rfl,af];show cond (decide (((enR r:Nat):Int)<len S)) _ (ob (ap10 (ap10 (eC 20000000 KF) DF 1) (tdR r)) _)=_;by_cases k:enR r<S.length
    ·rw[aq (show((enR r:Nat):Int)<len S by show((enR r:Nat):Int)<((S.length:Nat):Int);omega),ae (.inl k)];simp only[ae k];rfl
    ·rw[am (show¬((enR r:Nat):Int)<len S by show¬((enR r:Nat):Int)<((S.length:Nat):Int);omega),af,MN W s1];simp only[ob];by_cases hp:og KF DF 1 (tdR r)=0
     ·rw[ae (.inr hp),show(og KF DF 1 (tdR r) != 0)=false from by simp[hp],af,fC h];simp only[ab k,nT];have e1:(S.drop p).take (enR r - p)=S.drop p:=by
       rw[iR];rw[ba];omega
      rw[e1]at hv;rw[hv];simp only[<-e];unfold lvR;rw[e1];rfl
     ·rw[ab (by rintro(h | h)<;>contradiction),show(og KF DF 1 (tdR r) != 0)=true from by simp[hp]];rfl
 unfold m6;have hj3:jV 20000000 S (p:Int) b (KF==1) J d0 KF DF 0 d0 false false ([]:List TI)=some (S,(p:Int),b,KF==1,decide (KF=1/\p=S.length),J,d0,KF,DF,0,d0,false,false,[]):=by
  unfold jV;by_cases c:KF=1
  ·rw[show(KF==1)=true from by simp[c],aj,show(((p:Nat):Int)==len S)=decide (p=S.length)from natB p S.length];simp[c]
  ·rw[show(KF==1)=false from by simp[c],af,am (λh=>c h.1)]
 rw[hj3];simp only[ob,u14,u13,u12,u11,u10,u9,u8,u7,u6,u5,u4,u3,u2,QV];by_cases d:KF=1/\p=S.length
 ·rw[aq d,aj];unfold toX toP;rw[ae d];simp only[];rw[ab (by omega),e,ae d.1,Na];rfl
 ·rw[am d,af];have hj7:jU 20000000 S (p:Int) b (KF==1) J d0 KF DF 0 d0 false false ([]:List TI)=some (S,(p:Int),b,decide (KF=1/\dts (S.drop p)=true),J,d0,KF,DF,0,d0,false,false,[]):=by
   unfold jU;by_cases c:KF=1
   ·rw[show(KF==1)=true from by simp[c],aj,show w64 (((p:Nat):Int)+1)=((p+1:Nat):Int)from rf_w 1 (by omega),show w64 (((p:Nat):Int)+2)=((p+2:Nat):Int)from rf_w 2 (by omega)];by_cases hp:p+1<S.length
    ·rw[aq (show((p+1:Nat):Int)<len S by show((p+1:Nat):Int)<((S.length:Nat):Int);omega),aj,fC (by omega)];simp only[ob];rw[fC (by omega)];simp only[cut2 hp];rw[c];cases dts (S.drop p)<;>simp
    ·rw[am (show¬((p+1:Nat):Int)<len S by show¬((p+1:Nat):Int)<((S.length:Nat):Int);omega),af,DC hp];simp
   ·rw[show(KF==1)=false from by simp[c],af,am (λh=>c h.1)]
  rw[hj7];simp only[u13,u12,u11,u10,u9,u8,u7,u6,u5,u4,u3,u2];by_cases hd:KF=1/\dts (S.drop p)=true
  ·have hl:=mz hd.2;rw[aq hd,aj,show w64 (((p:Nat):Int)+2)=((p+2:Nat):Int)from rf_w 2 (by omega)];unfold toX toP;rw[ab d,ae hd];simp only[];by_cases hp:p+2<S.length
   ·rw[aq (show((p+2:Nat):Int)<len S by show((p+2:Nat):Int)<((S.length:Nat):Int);omega),ae hp];rfl
   ·rw[am (show¬((p+2:Nat):Int)<len S by show¬((p+2:Nat):Int)<((S.length:Nat):Int);omega),ab hp,e,ae hd.1,Na];rfl
  ·rw[am hd,af];exact g d hd
def PW:(Nat×Nat)⊕(Int×TD×Int×TD×Int×TD×Int)⊕(Int×Bool×Bool×List TI)->Int×TD×Int×TD×Int×TD×Bool×Bool×Int×Int×Int×List TI
 | .inl f=>(0,d0,0,d0,0,d0,false,false,0,(f.1:Int),(f.2:Int),[])
 | .inr (.inl (K,D,KF,DF,KT,DT,L))=>(K,D,KF,DF,KT,DT,false,false,L,0,0,[])
 | .inr (.inr (K,e,l,I))=>(K,d0,0,d0,0,d0,e,l,2,0,0,I)
def J7{S:aa}{p:Nat}(h:p+1<=S.length)(d:S.length<100000){KF:Int}{DF:TD}(c:smT DF)(lv a:Int)(b:a=if KF=1 then lv else mx 1 lv)(I J:List TI):
  gR 20000000 S a (p:Int) KF DF I J=some (match toX S (p+1) KF DF lv with
   | .inl f=>(0,(f.1:Int),(f.2:Int),0,d0,0,d0,0,d0,false,false,[])
   | .inr (KT,DT,L)=>(L,0,0,2,d0,KF,DF,KT,DT,false,false,J)):=by
 unfold gR;rw[show w64 (((p:Nat):Int)+1)=((p+1:Nat):Int)from rf_w 1 (by omega),WZ h d c lv a b J];cases toX S (p+1) KF DF lv with
 | inl f=>rfl
 | inr q=>rfl
def Nn{S:aa}{p:Nat}(lv KF:Int)(DF:TD)(I J:List TI):dO 20000000 S lv (p:Int) KF DF I J=some (S,lv,(p:Int),!decide ((S.drop p).head?=some 47),KF,DF,I,J):=by
 unfold dO;by_cases hp:p<S.length
 ·have a:=bf hp;rw[am (show¬((p:Nat):Int)>=len S by show¬((p:Nat):Int)>=((S.length:Nat):Int);omega),af,dE a,bR a];simp only[ob,lF,ar];rw[show(((S[p].toNat:Nat):Int) != 47)=!decide (S[p]=47)from cb _ (kM S[p] 47 (by decide))]
 ·rw[aq (show((p:Nat):Int)>=len S by show((p:Nat):Int)>=((S.length:Nat):Int);omega),iU (by omega)];rfl
def H3{S:aa}(H:S.length<=16384):iD 20000000 S=some (PW (hZ S)):=by
 unfold iD;rw[show decide (len S>16384)=false from am (by show¬(16384:Int)<((S.length:Nat):Int);omega),af];have w:ie 20000000 S ([]:List TI)=some (S,decide (S.head?=some 91\/S.head?=some 123),[]):=by
  unfold ie;cases S with
  | nil=>rfl
  | cons c r=>
   rw[show((c::r)==([]:aa))=false from rfl];simp only[ia,aj,ob,show sx (c::r) (0:Int)=some c from rfl,lF,ar];rw[show(((c.toNat:Nat):Int)==91)=decide (c=91)from kM c 91 (by decide),show(((c.toNat:Nat):Int)==123)=decide (c=123)from kM c 123 (by decide)];by_cases h:c=91
   ·simp[h]
   ·simp[h]
 rw[w];simp only[ob,u3,u2];unfold hZ;by_cases g:S.head?=some 91\/S.head?=some 123
 ·rw[aq g,ae g,aj];have k:=Q8 (S:=S) (a:=0) (by omega) (by omega);rw[show((0:Nat):Int)=0 from rfl]at k;rw[k];unfold tt;cases h:ox S 0 with
  | inl f=>
   have C:=wX (by omega) h;simp only[KP,u12,u11,u10,u9,u8,u7,u6,u5,u4,u3,u2];rw[show(((f.2.1:Nat):Int) != 0)=true from by simp;omega];rfl
  | inr q=>
   obtain⟨K,e,l,I,p⟩:=q;simp only[KP,u12,u11,u10,u9,u8,u7,u6,u5,u4,u3,u2,eI,af];show cond (decide ((p:Int)<len S)) _ _=_;by_cases hp:p<S.length
   ·rw[aq (show(p:Int)<len S by show(p:Int)<((S.length:Nat):Int);omega)];simp only[ae hp];rfl
   ·rw[am (show¬(p:Int)<len S by show¬(p:Int)<((S.length:Nat):Int);omega)];simp only[ab hp];rfl
 rw[am g,ab g,af];have t:gP 20000000 S ([]:List TI) ([]:List TI)=some (S,dts S,[],[]):=by
  unfold gP;by_cases h:1<S.length
  ·have v:bx S.length (2:Int)=some 2:=fC (i:=2) (by omega);rw[show decide (len S>1)=true from aq (by show(1:Int)<((S.length:Nat):Int);omega),aj,v];rfl
  ·rw[show decide (len S>1)=false from am (by show¬(1:Int)<((S.length:Nat):Int);omega),af];have:=DC (S:=S) (p:=0) (by omega);rw[bI]at this;rw[this]
 rw[t];simp only[u4,u3,u2];unfold jA;have s:gO 20000000 S ([]:List TI) ([]:List TI)=some (S,decide (S.head?=some 47),[],[]):=by
  unfold gO;cases S with
  | nil=>rfl
  | cons c r=>
   rw[show((c::r)==([]:aa))=false from rfl];simp only[ia,aj,ob,show sx (c::r) (0:Int)=some c from rfl,lF,ar];rw[show(((c.toNat:Nat):Int)==47)=decide (c=47)from kM c 47 (by decide)]
 rw[s];cases hd:dts S
 ·simp only[af,ob,u4,u3,u2,bj,az];unfold jB;by_cases j:S.head?=some 47
  ·have E:1<=S.length:=by
    have:=fS (S:=S) (p:=0) (c:=47) (by rw[bI];exact j);omega
   have b:=Nn (S:=S) (p:=0) 1 3 d0 [] [];rw[bI,aq j,show((0:Nat):Int)=0 from rfl]at b;have d:=J7 (S:=S) (p:=0) E (by omega) lh (KF:=3) 0 1 rfl [] [];rw[show((0:Nat):Int)=0 from rfl]at d;rw[aq j,ae j];simp only[aj,obs,sm,ob,u7,u6,u5,u4,u3,u2,b,ca,af,u8,d];rw[show(0+1)=1 from rfl];cases toX S 1 3 d0 0 with
   | inl f=>rfl
   | inr q=>rfl
  ·rw[am j,ab j];obtain⟨A,x⟩:=rx S 0 (by omega) (by omega);rw[show((0:Nat):Int)=0 from rfl]at x;rw[x];cases k:bZ S 0 with
   | inl f=>
    have C:=nN (du _) k;rw[zn];simp only[af,ob];rw[show((d4 (d8 ((false,false,([]:aa),(0:Int),(0:Int),([]:aa),([]:aa),(0:Int),(0:Int),(0:Int),A,S,(f.1:Int),(f.2.1:Int))))).2 != 0)=true from by show(((f.2.1:Nat):Int) != 0)=true;simp;omega];rfl
   | inr r=>
    obtain⟨B,G,F,D⟩:=ip (du _) k;obtain⟨_,_,_,_,_,_,_,_,_,_,z⟩:=LY (du _) k;rw[bI,pL]at z;have hv':eF 20000000 (S.take (enR r))=some (lvR S 0 r):=by
     unfold lvR;rw[bI,pL];exact z
    rw[uA];simp only[af,ob];show obs (obs (cond ((0:Int) != 0) _ (ob (bx S.length ((enR r:Nat):Int)) _)) _ _) _ _=_;rw[fC D];simp only[eI,af,ob,bI,hv'];rw[show((d4 (d8 ((tdR r).1,(tdR r).2.1,(tdR r).2.2.1,(tdR r).2.2.2.1,(tdR r).2.2.2.2.1,(tdR r).2.2.2.2.2.1,(tdR r).2.2.2.2.2.2.1,(tdR r).2.2.2.2.2.2.2.1,(tdR r).2.2.2.2.2.2.2.2.1,(tdR r).2.2.2.2.2.2.2.2.2,((plR r:Nat):Int),S,((enR r:Nat):Int),(0:Int)))).1==len S)=decide (enR r=S.length)from natB _ _];by_cases u:enR r=S.length
    ·have n:(S.drop (enR r)).head?=none:=by rw[u,vd];rfl
     rw[aq u,n];simp only[reduceCtorEq,az];rw[ab (by omega)];rfl
    ·have o:enR r<S.length:=by omega
     have y:=bf o;rw[am u,af];unfold jC;show obs (obs (ob (ob (sx S ((enR r:Nat):Int)) _) _) _ _) _ _=_;rw[dE y];have n:(S.drop (enR r)).head?=some S[enR r]:=by rw[bR y];rfl
     simp only[ob];rw[show(((S[enR r].toNat:Nat):Int)==47)=decide (S[enR r]=47)from kM _ 47 (by decide),show ap10 (aL 20000000) (iF ((tdR r).1,(tdR r).2.1,(tdR r).2.2.1,(tdR r).2.2.2.1,(tdR r).2.2.2.2.1,(tdR r).2.2.2.2.2.1,(tdR r).2.2.2.2.2.2.1,(tdR r).2.2.2.2.2.2.2.1,(tdR r).2.2.2.2.2.2.2.2.1,(tdR r).2.2.2.2.2.2.2.2.2,((plR r:Nat):Int),S,((enR r:Nat):Int),(0:Int)))=some (if exT (tdR r)then 1 else 0)from reT B];have b:=Nn (S:=S) (p:=enR r) (lvR S 0 r) 1 (tdR r) [] [];by_cases m:S[enR r]=47
     ·rw[n,aq m,ae (show some S[enR r]=some 47 by rw[m])];rw[n,aq (by rw[m])]at b;simp only[aj];cases hx:exT (tdR r)
      ·rfl
      ·have d:=J7 (S:=S) (p:=enR r) (by omega) (by omega) B (KF:=1) (lvR S 0 r) (lvR S 0 r) rfl [] [];simp only[aG,show((1:Int)==0)=false from rfl,u10,u9,u8,u7,u6,u5,u4,u3,u2,af,obs,sm,ob];rw[show dO 20000000 S (lvR S 0 r) ((enR r:Nat):Int) 1 (tdR r) [] []=_ from b];simp only[ca,af];rw[d];cases toX S (enR r+1) 1 (tdR r) (lvR S 0 r)with
       | inl f=>rfl
       | inr q=>rfl
     ·rw[n,am m,ab (show¬some S[enR r]=some 47 by simpa using m),ae o];rw[n,am (by simpa using m)]at b;simp only[af,u10,u9,u8,u7,u6,u5,u4,u3,u2,obs,sm,ob];rw[show dO 20000000 S (lvR S 0 r) ((enR r:Nat):Int) 1 (tdR r) [] []=_ from b];rfl
 ·have v:S.head?≠some 47:=by
   obtain⟨r,rfl⟩:=sA.1 hd;simp
  rw[ab v,ae rfl];have b:=Nn (S:=S) (p:=2) 1 2 d0 [] [];rw[show((2:Nat):Int)=2 from rfl]at b;simp only[aj,obs,sm,ob,u7,u6,u5,u4,u3,u2,b,u8];by_cases hs:(S.drop 2).head?=some 47
  ·have d:=J7 (S:=S) (p:=2) (fS hs) (by omega) lh (KF:=2) 0 1 rfl [] [];rw[show((2:Nat):Int)=2 from rfl]at d;rw[aq hs,ae hs];simp only[ca,af,d];rw[show(2+1)=3 from rfl];cases toX S 3 2 d0 0 with
   | inl f=>rfl
   | inr q=>rfl
  ·rw[am hs,ab hs];rfl
def lvX(x:TD):Int:=lvT (iZ x) x
def JU{x:TD}(hs:smT x)(hc:cF x=0):∃r,bZ (iZ x) 0=.inr r/\tdR r=x/\enR r=(iZ x).length/\lvR (iZ x) 0 r=lvX x:=by
 obtain⟨r,d,c,b⟩:=yK hs hc (S:=iZ x) (a:=0) (post:=[]) (by simp) HT;rw[cU]at b;refine⟨r,d,c,b,?_⟩;unfold lvR lvX;rw[c,b,pL,bI,nT]
def mU(K:Int)(x:TD):aa:=if K=2 then[46,46]else if K=3 then[]else iZ x
def okB(K:Int)(x:TD):Prop:=(K=1/\cF x=0/\exT x=true)\/((K=2\/K=3)/\x=d0)
def Qe{K:Int}{x:TD}(h:sT K x=0):okB K x:=by
 by_cases c:K=1
 ·subst c;obtain⟨a,b⟩:=Fq h;exact .inl ⟨rfl,a,b⟩
 ·unfold sT chkB at h;rw[ab c]at h;split at h
  ·rename_i e;split at h
   ·rename_i d;exact .inr ⟨e,kj.1 d⟩
   ·cases h
  ·cases h
def yH{KF KT:Int}{x y:TD}(h:og KF x KT y=0):okB KF x/\okB KT y/\(KF=1\/KT=1):=by
 unfold og Ez at h;by_cases a:sT KF x=0
 ·rw[ab (λz=>z a)]at h;by_cases b:sT KT y=0
  ·rw[ab (λz=>z b)]at h;split at h
   ·cases h
   ·rename_i c;exact⟨Qe a,Qe b,by omega⟩
  ·rw[ae b]at h;exact absurd h b
 ·rw[ae a]at h;exact absurd h a
inductive RightP:Int->TD->Int->TD->Int->TD->Bool->Bool->List TI->Prop where
 | single {x:TD} (hs:smT x) (hc:cF x=0):RightP 1 x 0 d0 0 d0 false false []
 | interval {KF:Int} {x:TD} {KT:Int} {y:TD} (hx:smT x) (hy:smT y) (hp:og KF x KT y=0):RightP 2 d0 KF x KT y false false []
 | set {K:Int} {e l:Bool} {I:List TI} (P:SetP K d0 0 d0 0 d0 e l I) (hs:∀t∈I,smI t):RightP K d0 0 d0 0 d0 e l I
def Kv{k:Int}{D:TD}{KF:Int}{DF:TD}{KT:Int}{DT:TD}{e l:Bool}{I:List TI}(hs:smE D DF DT I)(h:(kx k D KF DF KT DT e l I).2=0):RightP k D KF DF KT DT e l I:=by
 by_cases i:k=3\/k=4
 ·have P:=B7 i h;obtain⟨rfl,rfl,rfl,rfl,rfl⟩:D=d0/\KF=0/\DF=d0/\KT=0/\DT=d0:=⟨P.d,P.kf,P.df,P.kt,P.dt⟩;exact .set P hs.2.2.2
 ·unfold kx at h;split at h
  ·simp at h
  ·split at h
   ·simp at h
   ·rename_i n a;unfold unuB at a;generalize z1:eqD D d0=p at a;generalize z2:eqD DF d0=q at a;generalize f:eqD DT d0=o at a;by_cases k1:k=1
    ·subst k1;rw[ae rfl]at h;simp at a;obtain⟨⟨⟨a1,a2⟩,b,c⟩,j,g,m⟩:=a;subst a1 b j g m;rw[kj.1 (z2.trans a2),kj.1 (f.trans c)];exact .single hs.1 h
    ·have k2:k=2:=by omega
     subst k2;rw[ab (by omega),ae rfl]at h;simp at a;obtain⟨a1,a2,b,c⟩:=a;subst a2 b c;rw[kj.1 (z1.trans a1)];exact .interval hs.2.1 hs.2.2.1 h
def EM(k:Int)(D:TD)(KF:Int)(DF:TD)(KT:Int)(DT:TD)(e l:Bool)(I:List TI):aa:=
 if k=1 then iZ D else if k=2 then mU KF DF++47::mU KT DT else yA k e l I
def lvE(k:Int)(D:TD)(KF:Int)(DF:TD)(KT:Int)(DT:TD):Int:=
 if k=1 then lvX D else if k=2 then mx (if KT=1 then lvX DT else 1) (if KF=1 then lvX DF else 1)else 2
def exOf(k:Int)(D:TD)(KF:Int)(DF:TD)(KT:Int)(DT:TD)(e l:Bool)(I:List TI)(L:Int):(Nat×Nat)⊕(Int×TD×Int×TD×Int×TD×Int)⊕(Int×Bool×Bool×List TI):=
 if k=1\/k=2 then .inr (.inl (k,D,KF,DF,KT,DT,L))else .inr (.inr (k,e,l,I))
def yT{x:TD}(hs:smT x)(hc:cF x=0)(r:aa)(c:UInt8)(a:brk c=true):(iZ x++r).head?≠some c:=λh=>by
 have:=nA hs hc r c h;rw[a]at this;cases this
def O1{x:TD}(hs:smT x)(hc:cF x=0):iZ x≠[]:=by
 obtain⟨g,l,dg,e,q,m,d,a,b,c,rfl,ok⟩:=qB hs hc;obtain⟨f,_,_⟩:=xQ ok.yr;intro h;have h:A4 g l dg (e:Int) (q:Int) m d a b c=[]:=h;unfold A4 iI at h;have:=cb List.length h;simp only[bw,fR]at this;exact f (tU (by omega))
def Aw{KF:Int}{DF:TD}{KT:Int}{DT:TD}(hx:smT DF)(hy:smT DT)(hp:og KF DF KT DT=0){S:aa}{p:Nat}(k:p<=S.length)(h:S.drop p=mU KT DT)(lv:Int):
  toX S p KF DF lv=.inr (KT,DT,mx (if KT=1 then lvX DT else 1) (if KF=1 then lv else mx 1 lv)):=by
 obtain⟨q,n,b1⟩:=yH hp;have b:=cb List.length h;rw[ba]at b;unfold toX toP;rcases n with⟨rfl,hc,l⟩ | ⟨j,rfl⟩
 ·have d:mU 1 DT=iZ DT:=by unfold mU;rw[ab (by omega),ab (by omega)]
  rw[d]at h b;have o:¬(KF=1/\p=S.length):=by
   rintro⟨_,e⟩;exact O1 hy hc (tU (by omega))
  have hd:¬(KF=1/\dts (S.drop p)=true):=by
   rintro⟨_,e⟩;rw[h]at e;have:=nA hy hc [];rw[lu]at this;rw[rh this]at e;cases e
  obtain⟨r,g,f,m⟩:=yK hy hc (S:=S) (a:=p) (post:=[]) (by rw[h,lu]) HT;rw[ab o,ab hd,g];simp only[];rw[f,ae l,ae (.inr hp)];simp only[aG];rw[ab (by omega)];have:lvR S p r=lvX DT:=by
   unfold lvR lvX;rw[f,m,h];rw[show p+(iZ DT).length - p=(iZ DT).length by omega,nT]
  rw[this]
 ·have i:KF=1:=by omega
  subst i;rcases j with rfl | rfl
  ·have d:S.drop p=[46,46]:=h;have hd:dts (S.drop p)=true:=by rw[d];rfl
   have s:=mz hd;have c:(mU 2 d0).length=2:=rfl;rw[ab (by omega),ae ⟨rfl,hd⟩];simp only[];rw[ab (by omega)];rfl
  ·have c:(mU 3 d0).length=0:=rfl;rw[ae ⟨rfl,by omega⟩];simp only[];rw[ab (by omega)];rfl
def Du{x:TD}(hs:smT x)(hc:cF x=0):hZ (iZ x)=.inr (.inl (1,x,0,d0,0,d0,lvX x)):=by
 obtain⟨r,d,f,e,r4⟩:=JU hs hc;have a:=nA hs hc [];rw[lu]at a;have b:=λc a=>yT hs hc [] c a;rw[lu]at b;generalize iZ x=T at *;unfold hZ;rw[ab (by rintro(h | h);exact b 91 (by decide) h;exact b 123 (by decide) h),ab (b 47 (by decide)),rh a,ab (by simp),d];simp only[];rw[e,vd,ab (by simp),ab (by omega),f,r4]
def I5{DF:TD}(hx:smT DF)(hc:cF DF=0)(m:exT DF=true){KT:Int}{DT:TD}(hy:smT DT)(hp:og 1 DF KT DT=0):hZ (iZ DF++47::mU KT DT)=.inr (.inl (2,d0,1,DF,KT,DT,mx (if KT=1 then lvX DT else 1) (lvX DF))):=by
 have g:=nA hx hc (47::mU KT DT);have b:=λc g=>yT hx hc (47::mU KT DT) c g;generalize i:iZ DF++47::mU KT DT=S at *;obtain⟨r,l,k,e⟩:=yK hx hc (S:=S) (a:=0) (post:=47::mU KT DT) (by rw[bI,i]) (qP (by decide));rw[cU]at e;have d:S.drop (enR r)=47::mU KT DT:=by rw[e,<-i,List.drop_left]
 have o:S.drop (enR r+1)=mU KT DT:=by rw[<-i7,d];rfl
 have n:lvR S 0 r=lvX DF:=by
  unfold lvR lvX;rw[k,e,pL,bI,<-i,xJ]
 have f:enR r+1<=S.length:=by
  have:=cb List.length d;rw[ba,aN]at this;omega
 have j:=Aw hx hy hp f o (lvX DF);rw[ae rfl]at j;unfold hZ;rw[ab (by rintro(h | h);exact b 91 (by decide) h;exact b 123 (by decide) h),ab (b 47 (by decide)),rh g,ab (by simp),l];simp only[];rw[d,lF,ae rfl,k,ae m,n,j]
def I2{DT:TD}(hy:smT DT)(hp:og 2 d0 1 DT=0):hZ (46::46::47::iZ DT)=.inr (.inl (2,d0,2,d0,1,DT,mx (lvX DT) 1)):=by
 have a:=Aw lh hy hp (S:=46::46::47::iZ DT) (p:=3) (by simp only[aN];omega) (by simp only[oJ,bI];unfold mU;rw[ab (by omega),ab (by omega)]) 0;rw[ae rfl,ab (by omega)]at a;generalize iZ DT=T at *;unfold hZ;rw[ab (by simp),ab (by simp)];have hd:dts (46::46::47::T)=true:=rfl;rw[ae hd,ae (by rfl),a];rfl
def LD{DT:TD}(hy:smT DT)(hp:og 3 d0 1 DT=0):hZ (47::iZ DT)=.inr (.inl (2,d0,3,d0,1,DT,mx (lvX DT) 1)):=by
 have a:=Aw lh hy hp (S:=47::iZ DT) (p:=1) (by simp only[aN];omega) (by simp only[oJ,bI];unfold mU;rw[ab (by omega),ab (by omega)]) 0;rw[ae rfl,ab (by omega)]at a;generalize iZ DT=T at *;unfold hZ;rw[ab (by simp),ae (by rfl),a];rfl
def Ea{k:Int}{D:TD}{KF:Int}{DF:TD}{KT:Int}{DT:TD}{e l:Bool}{I:List TI}(h:RightP k D KF DF KT DT e l I):hZ (EM k D KF DF KT DT e l I)=exOf k D KF DF KT DT e l I (lvE k D KF DF KT DT):=by
 cases h with
 | single hs hc=>
  unfold EM exOf lvE;rw[ae (by omega),ae (by omega),ae (by omega),Du hs hc]
 | interval hx hy hp=>
  obtain⟨m,p,b1⟩:=yH hp;unfold EM exOf lvE;rw[ab (by omega),ae (by omega),ae (by omega),ab (by omega),ae (by omega)];rcases m with⟨rfl,hc,g⟩ | ⟨c,rfl⟩
  ·have b:mU 1 DF=iZ DF:=by unfold mU;rw[ab (by omega),ab (by omega)]
   rw[b,I5 hx hc g hy hp,ae (show(1:Int)=1 from rfl)]
  ·have j:KT=1:=by omega
   subst j;have b:mU 1 DT=iZ DT:=by unfold mU;rw[ab (by omega),ab (by omega)]
   rw[b,ae (show(1:Int)=1 from rfl),ab (by omega)];rcases c with rfl | rfl
   ·have n:mU 2 d0=[46,46]:=by unfold mU;rw[ae rfl]
    rw[n];exact I2 hy hp
   ·have i:mU 3 d0=[]:=by unfold mU;rw[ab (by omega),ae rfl]
    rw[i];exact LD hy hp
 | set P hs=>
  have ok:=λt b=>(VA P hs t b).1;have c:=P.kind;have d:¬(k=1\/k=2):=by omega
  have f:EM k d0 0 d0 0 d0 e l I=yA k e l I:=by
   unfold EM;rw[ab (by omega),ab (by omega)]
  have a:∀L,exOf k d0 0 d0 0 d0 e l I L=.inr (.inr (k,e,l,I)):=λL=>by
   unfold exOf;rw[ab d]
  rw[f,a];have o:(yA k e l I).head?=some 91\/(yA k e l I).head?=some 123:=by
   unfold yA;rw[lF];split
   ·exact .inr rfl
   ·exact .inl rfl
  have hp:=IC c P.one P.most ok P.set;generalize yA k e l I=T at *;unfold hZ;rw[ae o,hp]
def GX{k:Int}{D:TD}{KF:Int}{DF:TD}{KT:Int}{DT:TD}{e l:Bool}{I:List TI}(h:RightP k D KF DF KT DT e l I):(kx k D KF DF KT DT e l I).2=0:=by
 cases h with
 | single hs hc=>rw[(CS hs hc).first]
 | interval hx hy hp=>rw[(yz hx hy hp).first]
 | set P hs=>exact P.set
def UZ{k:Int}{D:TD}{KF:Int}{DF:TD}{KT:Int}{DT:TD}{e l:Bool}{I:List TI}(h:RightP k D KF DF KT DT e l I):smE D DF DT I:=by
 cases h with
 | single hs hc=>exact⟨hs,lh,lh,λt a=>by cases a⟩
 | interval hx hy hp=>exact⟨lh,hx,hy,λt a=>by cases a⟩
 | set P hs=>exact⟨lh,lh,lh,hs⟩
def Up:(Nat×Nat)⊕(Int×TD×Int×TD×Int×TD×Int)⊕(Int×Bool×Bool×List TI)->Prop
 | .inl f=>f.2≠0
 | .inr (.inl (K,D,KF,DF,KT,DT,L))=>RightP K D KF DF KT DT false false []/\(K=1\/K=2)
 | .inr (.inr (K,e,l,I))=>RightP K d0 0 d0 0 d0 e l I/\SX K
def QN:sT 2 d0=0/\sT 3 d0=0:=⟨by kernel_rfl,by kernel_rfl⟩
def yn{S:aa}{p:Nat}(hp:p<=S.length){KF:Int}{DF:TD}{lv:Int}(g:KF=1->cF DF=0/\exT DF=true){KT:Int}{DT:TD}{L:Int}(d:toX S p KF DF lv=.inr (KT,DT,L)):smT DT/\og KF DF KT DT=0:=by
 unfold toX at d;cases c:toP S p KF DF lv with
 | inl f=>rw[c]at d;cases d
 | inr q=>
  obtain⟨k,i,l,q⟩:=q;rw[c]at d;simp only[]at d;split at d
  ·cases d
  ·rename_i j;have d:=uN d;simp only[bm]at d;obtain⟨rfl,rfl,rfl⟩:=d;refine⟨(UU hp c).2,?_⟩;unfold toP at c;split at c
   ·rename_i hc;have c:=uN c;simp only[bm]at c;obtain⟨rfl,rfl,_,_⟩:=c;obtain⟨rfl,_⟩:=hc;obtain⟨a,b⟩:=g rfl;rw[MY (HU a b) QN.2];simp
   ·split at c
    ·rename_i hc;have c:=uN c;simp only[bm]at c;obtain⟨rfl,rfl,_,_⟩:=c;obtain⟨rfl,_⟩:=hc;obtain⟨a,b⟩:=g rfl;rw[MY (HU a b) QN.1];simp
    ·cases h:bZ S p with
     | inl f=>rw[h]at c;cases c
     | inr r=>
      rw[h]at c;simp only[]at c;split at c
      ·split at c
       ·rename_i e;have c:=uN c;simp only[bm]at c;obtain⟨rfl,rfl,_,rfl⟩:=c;rcases e with e | e
        ·exact absurd e j
        ·exact e
       ·cases c
      ·cases c
def FO{S:aa}{p:Nat}(h:p<=S.length){KF:Int}{DF:TD}{lv:Int}{f:Nat×Nat}(a:toX S p KF DF lv=.inl f):f.2≠0:=by
 unfold toX at a;cases b:toP S p KF DF lv with
 | inl g=>rw[b]at a;cases a;exact zX h b
 | inr q=>
  rw[b]at a;simp only[]at a;split at a
  ·cases a;simp
  ·cases a
def wO(S:aa):Up (hZ S):=by
 unfold hZ;split
 ·unfold tt;cases c:ox S 0 with
  | inl f=>exact wX (du _) c
  | inr q=>
   obtain⟨K,e,l,I,p⟩:=q;by_cases hp:p<S.length
   ·simp only[ae hp];show(5:Nat)≠0;omega
   ·simp only[ab hp];have ok:=OE (du _) c;exact⟨.set (B7 ok.kind (show(kx K d0 0 d0 0 d0 e l I).2=0 from ok.ok)) ok.sm,ok.kind⟩
 ·split
  ·rename_i h;have hp:1<=S.length:=fS (S:=S) (p:=0) (by rw[bI];exact h);cases c:toX S 1 3 d0 0 with
   | inl f=>exact FO hp c
   | inr q=>
    obtain⟨KT,DT,L⟩:=q;obtain⟨a,b⟩:=yn hp (λh=>by omega) c;exact⟨.interval lh a b,.inr rfl⟩
  ·split
   ·split
    ·rename_i h;have hp:3<=S.length:=fS h;cases c:toX S 3 2 d0 0 with
     | inl f=>exact FO hp c
     | inr q=>
      obtain⟨KT,DT,L⟩:=q;obtain⟨a,b⟩:=yn hp (λh=>by omega) c;exact⟨.interval lh a b,.inr rfl⟩
    ·show(5:Nat)≠0;omega
   ·cases c:bZ S 0 with
    | inl f=>exact nN (du _) c
    | inr r=>
     obtain⟨i,d,_,_⟩:=ip (du _) c;simp only[];split
     ·rename_i h;have hp:enR r+1<=S.length:=fS h;split
      ·rename_i hx;cases g:toX S (enR r+1) 1 (tdR r) (lvR S 0 r)with
       | inl f=>exact FO hp g
       | inr q=>
        obtain⟨KT,DT,L⟩:=q;obtain⟨a,b⟩:=yn hp (λ_=>⟨d,hx⟩) g;exact⟨.interval i a b,.inr rfl⟩
      ·show(11:Nat)≠0;omega
     ·split
      ·show(5:Nat)≠0;omega
      ·exact⟨.single i d,.inl rfl⟩
def XD{k:Int}{D:TD}{KF:Int}{DF:TD}{KT:Int}{DT:TD}{e l:Bool}{I:List TI}(h:RightP k D KF DF KT DT e l I):I.length<=256:=by
 cases h with
 | single=>simp
 | interval=>simp
 | set P=>exact P.most
def wQ(n:Nat)(a:Int)(S:aa)(p K:Int)(D:TD)(KF:Int)(DF:TD)(KT:Int)(DT:TD)(e l:Bool)(lv:Int):
  ct n a S p K D KF DF KT DT e l lv=some (K,D,KF,DF,KT,DT,e,l,mx a lv):=by
 unfold ct mx;rw[bC]
def GG(K:Int)(D:TD)(KF:Int)(DF:TD)(KT:Int)(DT:TD)(e l:Bool)(lv:Int){S:aa}{p:Nat}(h:p<=S.length)(g:S.length<100000):
  cJ 20000000 K D KF DF KT DT e l lv S (p:Int)=some (match bZ S p with
   | .inl f=>.inl ((f.1:Int),(f.2.1:Int),K,D,KF,DF,KT,DT,e,l,lv,S,(f.2.2:Int))
   | .inr r=>.inr (tdR r,((plR r:Nat):Int),K,D,KF,DF,KT,DT,e,l,mx (lvR S p r) lv,S,((enR r:Nat):Int))):=by
 unfold cJ;rw[tX _ _ _ h,Fp S p h g];cases a:bZ S p with
 | inl f=>rfl
 | inr r=>
  obtain⟨k,j,i,b⟩:=ip h a;obtain⟨_,_,_,_,_,_,_,_,_,d⟩:=NT h a;rw[CM];simp only[obs,sm,ob];rw[show(d4 (d8 ((tdR r).1,(tdR r).2.1,(tdR r).2.2.1,(tdR r).2.2.2.1,(tdR r).2.2.2.2.1,(tdR r).2.2.2.2.2.1,(tdR r).2.2.2.2.2.2.1,(tdR r).2.2.2.2.2.2.2.1,(tdR r).2.2.2.2.2.2.2.2.1,(tdR r).2.2.2.2.2.2.2.2.2,((plR r:Nat):Int),S,((enR r:Nat):Int))))=((enR r:Nat):Int)from rfl,tX _ _ _ b];simp only[];have c:w64 (len (S.drop p) - len (S.drop (enR r)))=((enR r - p:Nat):Int):=by
   show wrap .i64 (((S.drop p).length:Int) - ((S.drop (enR r)).length:Int))=_;rw[ba,ba,wrap_i64 _ (by omega) (by omega)];omega
  rw[c,fC (by rw[ba];omega)];simp only[bI];rw[show ky 20000000 ((S.drop p).take (enR r - p)) (iF ((tdR r).1,(tdR r).2.1,(tdR r).2.2.1,(tdR r).2.2.2.1,(tdR r).2.2.2.2.1,(tdR r).2.2.2.2.2.1,(tdR r).2.2.2.2.2.2.1,(tdR r).2.2.2.2.2.2.2.1,(tdR r).2.2.2.2.2.2.2.2.1,(tdR r).2.2.2.2.2.2.2.2.2,((plR r:Nat):Int),S,((enR r:Nat):Int)))=_ from d];simp only[wQ,u9,u8,u7,u6,u5,u4,u3,u2];rfl
def CX{x:TD}(h:smT x)(hc:cF x=0)(a K:Int)(D:TD)(KF:Int)(DF:TD)(KT:Int)(DT:TD)(e l:Bool)(lv:Int)(S:aa)(p:Int):
  cA 20000000 x a K D KF DF KT DT e l lv S p=some (if exT x=true then .inr (1,x)else .inl (a,11)):=by
 unfold cA;rw[bcT h,Fz,ae hc];cases exT x<;>rfl
def Lo(K:Int){DF:TD}(L:smT DF)(KF:Int)(lv:Int){S:aa}{p:Nat}(h:p<=S.length)(hS:S.length<100000):
  ∃y,eN 20000000 K d0 KF DF 0 d0 false false lv S (p:Int)=some y/\VH S d0 KF DF false false (toP S p KF DF lv) y:=by
 have q:∀(l:Int) (s:l=if KF=1 then lv else mx 1 lv) (V:¬(KF=1/\p=S.length)) (hd:¬(KF=1/\dts (S.drop p)=true)),∃y,(obs (cJ 20000000 2 d0 KF DF 0 d0 false false l S (p:Int)) (u13 λD M R G T H Q P z E A I O=>(some (.inr (D,M,R,G,T,H,Q,P,z,E,A,I,O)))) (u13 λC t k e c d v u i g j a b=>(obs (cA 20000000 C t k e c d v u i g j a b) (u2 λU B=>(some (.inr (U,B,k,e,c,d,v,u,i,g,j,a,b)))) (u2 λn m=>(ob (aY 20000000 a b) (u2 λ_ w=>(cond (!w) (ob (ap10 (ap10 (gv 20000000 c) d n) m) λF=>(cond (F != 0) (ob (aM 20000000 t 11 a b) (u2 λJ N=>(some (.inr (J,N,k,e,c,d,n,m,i,g,j,a,b))))) (some (.inl (k,e,c,d,n,m,i,g,j,a,b))))) (some (.inl (k,e,c,d,n,m,i,g,j,a,b))))))))))=some y/\VH S d0 KF DF false false (toP S p KF DF lv) y:=by
  intro l s V hd;unfold toP;rw[GG 2 d0 KF DF 0 d0 false false l h hS,ab V,ab hd];cases Y:bZ S p with
  | inl f=>exact⟨_,rfl,_,rfl⟩
  | inr r=>
   obtain⟨X,Z,l1,W⟩:=ip h Y;simp only[obs,sm,ob,u13,u12,u11,u10,u9,u8,u7,u6,u5,u4,u3,u2];rw[CX X Z];cases hx:exT (tdR r)
   ·exact⟨_,rfl,_,rfl⟩
   ·simp only[aG,o9 _ _ _ W,HY W];by_cases x:enR r<S.length
    ·rw[aq x,ae (.inl x)];exact⟨_,rfl,by rw[<-s];rfl⟩
    ·rw[am x];simp only[ia,aj];rw[Lx L X];simp only[];by_cases hp:og KF DF 1 (tdR r)=0
     ·rw[ae (.inr hp),show(og KF DF 1 (tdR r) != 0)=false from by simp[hp]];exact⟨_,rfl,by rw[<-s];rfl⟩
     ·rw[ab (by rintro(h | h)<;>contradiction),show(og KF DF 1 (tdR r) != 0)=true from by simp[hp]];exact⟨_,rfl,_,rfl⟩
 unfold eN;by_cases o:KF=1
 ·rw[show(KF==1)=true from by simp[o],aj,o9 _ _ _ h];simp only[ob,u2,HY h,wQ];by_cases hp:p<S.length
  ·rw[aq hp];simp only[ca,af];rw[nh _ _ _ _ h (by omega)];cases hd:dts (S.drop p)
   ·rw[ab (show¬(S.drop p).take [(46:UInt8),46].length=[46,46]fromλh=>by unfold dts at hd;rw[show(S.drop p).take 2=[46,46]from h]at hd;cases hd)];exact q lv (by rw[ae o]) (by omega) (by rw[hd];simp)
   ·rw[ae (show(S.drop p).take [(46:UInt8),46].length=[46,46]from eq_of_beq hd)];refine⟨_,rfl,?_⟩;unfold toP;rw[ab (by omega),ae ⟨o,hd⟩];rfl
  ·rw[am hp];refine⟨_,rfl,?_⟩;unfold toP;rw[ae ⟨o,by omega⟩];rfl
 ·rw[show(KF==1)=false from by simp[o],af,wQ];simp only[ob,u9,u8,u7,u6,u5,u4,u3,u2];exact q (mx 1 lv) (by rw[ab o]) (by simp[o]) (by simp[o])
def QH(S:aa):(Nat×Nat)⊕(Int×TD×Int×TD×Int×TD×Int×Nat)⊕(Int×Bool×Bool×List TI×Nat)->((Int×Int×Int×TD×Int×TD×Int×TD×Bool×Bool×Int×aa×Int)⊕(Int×TD×Int×TD×Int×TD×Nat×Nat×Bool×Bool×Int×aa×Int×List TI)⊕(Int×TD×Int×TD×Int×TD×Bool×Bool×Int×aa×Int))->Prop
 | .inl f,y=>∃z,y=.inl ((f.1:Int),(f.2:Int),z)
 | .inr (.inl (K,D,KF,DF,KT,DT,L,p)),y=>y=.inr (.inr (K,D,KF,DF,KT,DT,false,false,L,S,(p:Int)))
 | .inr (.inr (K,e,l,I,p)),y=>y=.inr (.inl (K,d0,0,d0,0,d0,I.length,I.length,e,l,2,S,(p:Int),I))
def Oj{S:aa}(i:S.length<100000):∃y,gQ 20000000 0 d0 0 d0 0 d0 false false 0 S 0=some y/\QH S (zZ S) y:=by
 have z0:(0:Int)=((0:Nat):Int):=rfl;have N:=o9 20000000 S 0 (du _);rw[bI,show((0:Nat):Int)=0 from rfl]at N;have R:=RI (S:=S) (a:=0) (du _) i;rw[show((0:Nat):Int)=0 from rfl]at R;have O:=GR (S:=S) (p:=0) (du _) i 47;rw[bI,show((0:Nat):Int)=0 from rfl]at O;have Q:=K0 (S:=S) (p:=0) (du _) i;rw[bI,show((0:Nat):Int)=0 from rfl]at Q;have P:=GG 0 d0 0 d0 0 d0 false false 0 (S:=S) (p:=0) (du _) i;rw[show((0:Nat):Int)=0 from rfl]at P;have t:((peek S).1==91)=decide (S.head?=some 91):=D6 S 91 (by decide);have o:((peek S).1==123)=decide (S.head?=some 123):=D6 S 123 (by decide);have set:(S.head?=some 91\/S.head?=some 123)->∃y,(obs (nr 20000000 S 0) (u4 λv1 U W v4=>(some (.inl (v1,U,0,d0,0,d0,0,d0,false,false,0,W,v4)))) (u13 λv5 Y v7 v8 Z K C s E w l n k=>(ob (fw 20000000 2 l n k v5 Y v7 v8 Z K C s E w 0) (u11 λA u H D v B G x I M F=>(some (.inr (.inl (A,u,H,D,v,B,G,x,I,M,F,l,n,k))))))))=some y/\QH S (zZ S) y:=by
  intro h;rw[R];unfold zZ;rw[ae h];cases ox S 0 with
  | inl f=>exact⟨_,rfl,_,rfl⟩
  | inr q=>exact⟨_,rfl,rfl⟩
 unfold gQ;rw[N];simp only[ob,u2,t,o];by_cases g:S.head?=some 91
 ·rw[aq g,aj];exact set (.inl g)
 rw[am g,af];by_cases b:S.head?=some 123
 ·rw[aq b,aj];exact set (.inr b)
 rw[am b,af,O];clear set;unfold zZ;rw[ab (show¬(S.head?=some 91\/S.head?=some 123)fromλh=>h.elim g b)];simp only[u3,u2];by_cases e:S.head?=some 47
 ·simp only[aq e,ae e,aj];have J:1<=S.length:=by
   have:=fS (S:=S) (p:=0) (c:=47) (by rw[bI];exact e);omega
  obtain⟨y,m,d⟩:=Lo 0 lh 3 0 (S:=S) (p:=1) J i;rw[show(((0+1:Nat)):Int)=((1:Nat):Int)from rfl,m];cases j:toP S 1 3 d0 0 with
  | inl f=>
   rw[j]at d;obtain⟨z,rfl⟩:=d;exact⟨_,rfl,_,rfl⟩
  | inr q=>
   rw[j]at d;obtain⟨KT,DT,L,q⟩:=q;subst d;exact⟨_,rfl,rfl⟩
 ·simp only[am e,ab e,af];rw[show(((0:Nat)):Int)=0 from rfl,Q];simp only[];cases hd:dts S
  ·rw[ab (by simp),ab (by simp),af,show(((0:Nat)):Int)=0 from rfl,P];cases V:bZ S 0 with
   | inl f=>exact⟨_,rfl,_,rfl⟩
   | inr r=>
    obtain⟨T,X,l1,l2⟩:=ip (du _) V;simp only[obs,sm,ob,u13,u12,u11,u10,u9,u8,u7,u6,u5,u4,u3,u2];rw[GR l2 i,mx0 (KV S 0 r).1];simp only[];by_cases hs:(S.drop (enR r)).head?=some 47
    ·simp only[aq hs,ae hs,ca,af];rw[CX T X];cases hx:exT (tdR r)
     ·exact⟨_,rfl,_,rfl⟩
     ·obtain⟨y,m,d⟩:=Lo 0 T 1 (lvR S 0 r) (S:=S) (p:=enR r+1) (fS hs) i;simp only[aG];rw[m];cases j:toP S (enR r+1) 1 (tdR r) (lvR S 0 r)with
      | inl f=>
       rw[j]at d;obtain⟨z,rfl⟩:=d;exact⟨_,rfl,_,rfl⟩
      | inr q=>
       rw[j]at d;obtain⟨KT,DT,L,q⟩:=q;subst d;exact⟨_,rfl,rfl⟩
    ·simp only[am hs,ab hs];exact⟨_,rfl,rfl⟩
  ·rw[ae rfl,ae rfl,aj];have J:2<=S.length:=by
    have:=mz (S:=S) (p:=0) (by rw[bI];exact hd);omega
   rw[show(((0+2:Nat)):Int)=((2:Nat):Int)from rfl,Ij J i];by_cases hs:(S.drop 2).head?=some 47
   ·simp only[ae hs];obtain⟨y,m,d⟩:=Lo 0 lh 2 0 (S:=S) (p:=3) (fS hs) i;rw[show(((2+1:Nat)):Int)=((3:Nat):Int)from rfl];simp only[obs,sm,ob,u2,m];cases j:toP S 3 2 d0 0 with
    | inl f=>
     rw[j]at d;obtain⟨z,rfl⟩:=d;exact⟨_,rfl,_,rfl⟩
    | inr q=>
     rw[j]at d;obtain⟨KT,DT,L,q⟩:=q;subst d;exact⟨_,rfl,rfl⟩
   ·simp only[ab hs];exact⟨_,rfl,_,rfl⟩
def HV:(Nat×Nat)⊕(Int×TD×Int×TD×Int×TD×Int)⊕(Int×Bool×Bool×List TI)->(Int×TD×Int×TD×Int×TD×Bool×Bool×Int×Int×Int)⊕(Int×TD×Int×TD×Int×TD×Nat×Nat×Bool×Bool×Int×Int×Int×List TI)
 | .inl f=>.inl (0,d0,0,d0,0,d0,false,false,0,(f.1:Int),(f.2:Int))
 | .inr (.inl (K,D,KF,DF,KT,DT,L))=>.inl (K,D,KF,DF,KT,DT,false,false,L,0,0)
 | .inr (.inr (K,e,l,I))=>.inr (K,d0,0,d0,0,d0,I.length,I.length,e,l,2,0,0,I)
def sX{S:aa}(d:S.length<=16384):bE 20000000 S=some (HV (hZ S)):=by
 obtain⟨y,c,a⟩:=Oj (S:=S) (by omega);unfold bE dS;rw[show decide (len S>16384)=false from am (by show¬(16384:Int)<((S.length:Nat):Int);omega),af,c,Ed];cases b:zZ S with
 | inl f=>
  have g:=Lu b;rw[b]at a;obtain⟨z,rfl⟩:=a;simp only[obs,sm,ob,u13,u12,u11,u10,u9,u8,u7,u6,u5,u4,u3,u2];rw[show(((f.2:Nat):Int) != 0)=true from by simp;omega];rfl
 | inr q=>
  rw[b]at a;cases q with
  | inl q=>
   obtain⟨K,D,KF,DF,KT,DT,L,p⟩:=q;simp only[];subst a;simp only[obs,sm,ob,u13,u12,u11,u10,u9,u8,u7,u6,u5,u4,u3,u2];by_cases hp:p<S.length
   ·rw[ae hp,aq (show(p:Int)<((S.length:Nat):Int)by omega)];rfl
   ·rw[ab hp,am (show¬(p:Int)<((S.length:Nat):Int)by omega)];rfl
  | inr q=>
   obtain⟨K,e,l,I,p⟩:=q;subst a;simp only[obs,sm,ob,u16,u15,u14,u13,u12,u11,u10,u9,u8,u7,u6,u5,u4,u3,u2];by_cases hp:p<S.length
   ·rw[ae hp,aq (show(p:Int)<((S.length:Nat):Int)by omega)];rfl
   ·rw[ab hp,am (show¬(p:Int)<((S.length:Nat):Int)by omega)];rfl
def bang(t:aa):Prop:=t=[]\/t=[33]
def tK{f:UInt8->Bool}(b:f 33=false):∀(k:Nat) (l:aa) {t:aa},bang t->bq f k (l++t)<=l.length
 | 0,_,_,_=>by simp[bq]
 | k+1,[],t,a=>by rcases a with rfl | rfl<;>simp[bq,b]
 | k+1,c::l,t,a=>by
  have:=tK b k l a;simp only[dB,bq,aN];split<;>omega
def rK{c:UInt8}(hc:c≠33)(l:aa){t:aa}(b:bang t):dR c (l++t)<=l.length:=by
 cases l with
 | nil=>
  rcases b with rfl | rfl
  ·simp[dR]
  ·unfold dR;rw[ab (by simp;exactλh=>hc h.symm)];exact du _
 | cons a l=>
  have:=ki c (a::l++t);simp only[aN];omega
def Og(l:aa){t:aa}(b:bang t):mkN (l++t)<=l.length:=by
 cases l with
 | nil=>rcases b with rfl | rfl<;>decide
 | cons a l=>
  have:=Re (a::l++t);simp only[aN];omega
def nEnd:Nat⊕(Nat×Nat)->Nat
 | .inl k=>k
 | .inr p=>p.2
def yEnd:Nat⊕YR->Nat
 | .inl k=>k
 | .inr y=>y.2.2.2.2.2
def MK(d:UInt8)(l:aa){t:aa}(a:bang t):nEnd (numU d (l++t))<=l.length+2:=by
 cases l with
 | nil=>
  rcases a with rfl | rfl
  ·simp[rD,nEnd]
  ·rw[dI,kE,ab (by decide)];exact aQ _
 | cons e l=>
  rw[dB,kE];split
  ·show 3<=l.length+1+2;omega
  ·show 2<=l.length+1+2;omega
def Kw(l:aa){t:aa}(a:bang t):nEnd (numT (l++t))<=l.length+1:=by
 cases l with
 | nil=>
  rcases a with rfl | rfl
  ·simp[vF,nEnd]
  ·rw[dI,me,ab (by decide)];exact aQ _
 | cons d l=>
  rw[dB,me];split
  ·have:=MK d l a;show _<=l.length+1+1;omega
  ·show 1<=l.length+1+1;omega
def xz{c:UInt8}(hc:c≠33)(l:aa){t:aa}(b:bang t):nEnd (numS c (l++t))<=l.length:=by
 cases l with
 | nil=>
  rcases b with rfl | rfl
  ·simp[uf,nEnd]
  ·rw[dI,kZ,ab (λh=>hc h.symm)];exact aQ _
 | cons a l=>
  rw[dB,kZ];split
  ·exact Kw l b
  ·exact du _
def Ly(g:Bool)(o:Nat)(l:aa){t:aa}(e:bang t):yEnd (rc g o (l++t))<=o+l.length:=by
 cases l with
 | nil=>
  rcases e with rfl | rfl
  ·exact aQ _
  ·rw[dI,rc,ab (by decide)];exact aQ _
 | cons c r=>
  have n:=tK (f:=bp) (by decide) 16 r e;rw[dB,rc];generalize u:bq bp 16 (r++t)=K at n;split
  ·have k:List.drop (1+K) (c::(r++t))=List.drop (1+K) (c::r)++t:=by
    rw[<-dB,vj (by simp;omega)]
   rw[k];have a:=xz (c:=69) (by decide) (List.drop (1+K) (c::r)) e;rw[ba,aN]at a;cases h:numS 69 (List.drop (1+K) (c::r)++t)with
   | inl j=>
    rw[h]at a;have a:j<=r.length+1 - (1+K):=a;show o+(1+K)+j<=o+(r.length+1);omega
   | inr p=>
    obtain⟨x,j⟩:=p;rw[h]at a;have a:j<=r.length+1 - (1+K):=a;simp only[];have q:List.drop (1+K+j) (c::(r++t))=List.drop (1+K+j) (c::r)++t:=by
     rw[<-dB,vj (by simp;omega)]
    rw[q];have b:=xz (c:=83) (by decide) (List.drop (1+K+j) (c::r)) e;rw[ba,aN]at b;cases d:numS 83 (List.drop (1+K+j) (c::r)++t)with
    | inl i=>
     rw[d]at b;have b:i<=r.length+1 - (1+K+j):=b;show o+(1+K)+j+i<=o+(r.length+1);omega
    | inr m=>
     obtain⟨s,i⟩:=m;rw[d]at b;have b:i<=r.length+1 - (1+K+j):=b;show o+(1+K)+j+i<=o+(r.length+1);omega
  ·show o<=o+(r.length+1);omega
def Il(g:Bool)(o:Nat)(l:aa){t:aa}(b:bang t):yEnd (pZ g o (l++t))<=o+l.length:=by
 have h:=tK (f:=isDX) (by decide) 4 l b;unfold pZ;split
 ·show o+_<=_;omega
 ·have e:List.drop 4 (l++t)=List.drop 4 l++t:=vj (by omega);rw[e];have a:=xz (c:=83) (by decide) (List.drop 4 l) b;rw[ba]at a;cases d:numS 83 (List.drop 4 l++t)with
  | inl i=>
   rw[d]at a;have a:i<=l.length - 4:=a;show o+4+i<=_;omega
  | inr p=>
   obtain⟨s,i⟩:=p;rw[d]at a;have a:i<=l.length - 4:=a;show o+4+i<=_;omega
def Iz(l:aa){t:aa}(d:bang t):yEnd (mG (l++t))<=l.length:=by
 unfold mG;have b:=rK (c:=89) (by decide) l d;split
 ·rename_i h;rw[h]at b;have e:List.drop 1 (l++t)=List.drop 1 l++t:=vj b;have a:=rK (c:=45) (by decide) (List.drop 1 l) d;rw[ba]at a;rw[e];generalize dR 45 (List.drop 1 l++t)=q at a;rw[vj (show 1+q<=l.length by omega)];have:=Ly (q==1) (1+q) (List.drop (1+q) l) d;rw[ba]at this;omega
 ·have a:=rK (c:=45) (by decide) l d;generalize dR 45 (l++t)=q at a;rw[vj a];have:=Il (q==1) q (List.drop q l) d;rw[ba]at this;omega
structure Bd(T:aa)(N:Nat):Prop where
 le:N<=T.length
 mkr:∀{p:Nat},p<=N->mkE T p<=N
 two:∀{p:Nat},p<=N->p+twoN (T.drop p)<=N
 ta:∀{p:Nat},p<=N->p+dR 45 (T.drop p)<=N
 ys:∀{p:Nat},p<=N->p+yEnd (mG (T.drop p))<=N
 dt:∀{p:Nat},p<=N->dts (T.drop p)=true->p+2<=N
 hd:∀{p:Nat} {c:UInt8},p<=N->c≠33->(T.drop p).head?=some c->p+1<=N
def TL(S:aa){t:aa}(d:bang t):Bd (S++t) S.length:=by
 have g:∀{p:Nat},p<=S.length->(S++t).drop p=S.drop p++t:=λh=>vj h;have e:∀p,(S.drop p).length=S.length - p:=λp=>ba;refine⟨by simp,λ{p} h=>?_,λ{p} h=>?_,λ{p} h=>?_,λ{p} h=>?_,λ{p} h hd=>?_,λ{p c} h hc hd=>?_⟩
 ·have:=Og (S.drop p) d;rw[e]at this;unfold mkE;rw[g h];omega
 ·have:=tK (f:=isDX) (by decide) 2 (S.drop p) d;rw[e]at this;unfold twoN;rw[g h];omega
 ·have:=rK (c:=45) (by decide) (S.drop p) d;rw[e]at this;rw[g h];omega
 ·have:=Iz (S.drop p) d;rw[e]at this;rw[g h];omega
 ·rw[g h]at hd;have i:=e p;generalize S.drop p=l at hd i;obtain⟨r,j⟩:=sA.1 hd
  match l with
  | []=>rcases d with rfl | rfl<;>simp at j
  | [a]=>rcases d with rfl | rfl<;>simp at j
  | a::b::l=>simp at i;omega
 ·rw[g h]at hd;have i:=e p;generalize S.drop p=l at hd i;cases l with
  | nil=>
   rcases d with rfl | rfl
   ·simp at hd
   ·simp at hd;exact absurd hd.symm hc
  | cons a l=>simp at i;omega
def SO(r:DR)(N:Nat):Prop:=∀i,plN r.2.2.2.2.2.2.2.2.1 i<=N
def JX{a b c N:Nat}(e:a<=N)(d:b<=N)(hc:c<=N)(i:Nat):plN (a,b,c) i<=N:=by
 unfold plN;split
 ·exact e
 ·split
  ·exact d
  ·exact hc
def ta1{T:aa}{N:Nat}(B:Bd T N){p:Nat}(h:p<=N)(a:¬dR 45 (T.drop p)=0):p+1<=N:=by
 have:=B.ta h;omega
def okD(N:Nat):Nat⊕DR->Prop
 | .inl k=>k<=N
 | .inr r=>enR r<=N/\SO r N
def okF(N:Nat):(Nat×Nat×Nat)⊕DR->Prop
 | .inl f=>f.1<=N/\f.2.2<=N
 | .inr r=>enR r<=N/\plR r<=N
def okIt(N:Nat):(Nat×Nat×Nat)⊕(TI×Nat×Nat)->Prop
 | .inl f=>f.1<=N/\f.2.2<=N
 | .inr q=>q.2.1<=N/\q.2.2<=N
def okIs(N:Nat):(Nat×Nat×Nat)⊕(Nat×List Nat×List TI)->Prop
 | .inl f=>f.1<=N
 | .inr q=>q.1<=N/\∀x∈q.2.1,x<=N
def okLd(N:Nat):(Nat×Nat×Nat)⊕(Int×Bool×Bool×List TI×Nat)->Prop
 | .inl f=>f.1<=N
 | .inr q=>q.2.2.2.2<=N
def okP(N:Nat):(Nat×Nat)⊕(Int×TD×Int×Nat)->Prop
 | .inl f=>f.1<=N
 | .inr q=>q.2.2.2<=N
def okX{A:Type}(T:aa)(N:Nat):(Nat×Nat)⊕A->Prop
 | .inl f=>f.1<=N
 | .inr _=>T.length<=N
def N3{T:aa}{N:Nat}(B:Bd T N){a:Nat}(h:a<=N):okD N (nU T a):=by
 have e:=B.mkr h;have b:=B.ys e;unfold nU;cases hy:mG (T.drop (mkE T a))with
 | inl k=>rw[hy]at b;exact b
 | inr y=>
  rw[hy]at b;have b:mkE T a+y.2.2.2.2.2<=N:=b;have i:=B.mkr b;simp only[];split
  ·exact⟨i,JX e (du _) (du _)⟩
  ·rename_i p;have n:=ta1 B i (λh=>p (.inr h));generalize mkE T (mkE T a+y.2.2.2.2.2)=o at i n p;have g:=B.mkr n;have r:=B.two g;unfold rd2;split
   ·exact r
   ·rename_i t;have q:mkE T (o+1)+2<=N:=by omega
    have j:=B.mkr q;split
    ·exact⟨j,JX e g (du _)⟩
    ·rename_i c;have d:=ta1 B j c;generalize mkE T (mkE T (o+1)+2)=s at j d c;have m:=B.mkr d;have u:=B.two m;unfold rd3;split
     ·exact u
     ·rename_i l;have f:mkE T (s+1)+2<=N:=by omega
      exact⟨B.mkr f,JX e g m⟩
def ub{T:aa}{N:Nat}(B:Bd T N){a:Nat}(h:a<=N):okF N (bZ T a):=by
 have b:=N3 B h;unfold bZ;cases c:nU T a with
 | inl k=>rw[c]at b;exact⟨b,b⟩
 | inr r=>
  rw[c]at b;simp only[];split
  ·exact⟨b.1,b.2 0⟩
  ·exact⟨b.2 _,b.1⟩
def Kq{T:aa}{N:Nat}(B:Bd T N){en:UInt8}{p:Nat}(h:p<=N):okIt N (lp T en p):=by
 have a:=ub B h;unfold lp;cases d:bZ T p with
 | inl f=>rw[d]at a;exact a
 | inr r=>
  rw[d]at a;simp only[];split
  ·rename_i hd;have c:=ub B (B.dt a.1 hd.1);cases b:bZ T (enR r+2)with
   | inl f=>rw[b]at c;exact c
   | inr e=>rw[b]at c;exact⟨a.2,c.1⟩
  ·exact⟨a.2,a.1⟩
def CE{T:aa}{N:Nat}(B:Bd T N){en:UInt8}:∀(r p:Nat) (P:List Nat) (I:List TI),p<=N->(∀x∈P,x<=N)->okIs N (ks T en r p P I)
 | 0,p,P,I,h,c=>h
 | r+1,p,P,I,h,c=>by
  have b:=Kq B (en:=en) h;rw[ks];cases d:lp T en p with
  | inl f=>rw[d]at b;exact b.1
  | inr q=>
   obtain⟨t,a,e⟩:=q;rw[d]at b;have hP':∀x∈P++[a],x<=N:=λx hx=>by
    rcases mF.1 hx with h | h
    ·exact c x h
    ·rw[uS.1 h];exact b.1
   simp only[];split
   ·rename_i g;exact CE B r (e+1) _ _ (B.hd b.2 (by decide) g) hP'
   ·exact⟨b.2,hP'⟩
def Sl{P:List Nat}{N:Nat}(a:∀x∈P,x<=N)(i:Nat):P.getD i 0<=N:=by
 rw[zD];cases h:P[i]? with
 | none=>exact du _
 | some x=>exact a x (fG h)
def Sj(K:Int):endC K≠33:=by unfold endC;split<;>decide
def Q5{T:aa}{N:Nat}(B:Bd T N){K:Int}{e:Bool}{p:Nat}{P:List Nat}{I:List TI}(h:p<=N)(c:∀x∈P,x<=N):okLd N (endL T K e p P I):=by
 have a:(if dts (T.drop p)then p+2 else p)<=N:=by
  split
  ·rename_i hd;exact B.dt h hd
  ·exact h
 unfold endL;generalize(if dts (T.drop p)then p+2 else p)=q at a;split
 ·rename_i b;split
  ·exact B.hd a (Sj K) b
  ·exact Sl c _
 ·exact a
def GZ{T:aa}{N:Nat}(B:Bd T N){K:Int}{a:Nat}(h:a+1<=N):okLd N (tQ T a K):=by
 have d:(if dts (T.drop (a+1))then a+3 else a+1)<=N:=by
  split
  ·rename_i hd;have:=B.dt h hd;omega
  ·exact h
 have b:=CE B (en:=endC K) 256 _ [] [] d (λx hx=>by cases hx);unfold tQ;cases c:ks T (endC K) 256 (if dts (T.drop (a+1))then a+3 else a+1) [] []with
 | inl f=>rw[c]at b;exact b
 | inr q=>
  obtain⟨p,P,I⟩:=q;rw[c]at b;exact Q5 B b.1 b.2
def PC{T:aa}{N:Nat}(B:Bd T N){a:Nat}(h:a<=N):okLd N (ox T a):=by
 unfold ox;split
 ·rename_i b;exact GZ B (B.hd h (by decide) b)
 ·split
  ·rename_i b;exact GZ B (B.hd h (by decide) b)
  ·exact h
def Uz{T:aa}{N:Nat}(B:Bd T N){p:Nat}(h:p<=N){KF:Int}{DF:TD}{lv:Int}:okP N (toP T p KF DF lv):=by
 unfold toP;split
 ·exact h
 ·split
  ·rename_i hd;exact B.dt h hd.2
  ·have a:=ub B h;cases b:bZ T p with
   | inl f=>rw[b]at a;exact a.1
   | inr r=>
    rw[b]at a;simp only[];split
    ·split
     ·exact a.1
     ·exact a.2
    ·exact a.2
def TK{T:aa}{N:Nat}(B:Bd T N){p:Nat}(h:p<=N){KF:Int}{DF:TD}{lv:Int}:okX T N (toX T p KF DF lv):=by
 have a:=Uz B h (KF:=KF) (DF:=DF) (lv:=lv);unfold toX;cases b:toP T p KF DF lv with
 | inl f=>rw[b]at a;exact a
 | inr q=>
  obtain⟨KT,DT,L,q⟩:=q;rw[b]at a;have a:q<=N:=a;simp only[];by_cases c:q<T.length
  ·rw[ae c];exact a
  ·rw[ab c];show T.length<=N;omega
def MP{T:aa}{N:Nat}(B:Bd T N):okX T N (tt T):=by
 have a:=PC B (du _);unfold tt;cases b:ox T 0 with
 | inl f=>rw[b]at a;exact a
 | inr q=>
  obtain⟨K,e,l,I,p⟩:=q;rw[b]at a;have a:p<=N:=a;simp only[];by_cases c:p<T.length
  ·rw[ae c];exact a
  ·rw[ab c];show T.length<=N;omega
def BV{T:aa}{N:Nat}(B:Bd T N):okX T N (hZ T):=by
 have j:=du N;have i:∀{c:UInt8},c≠33->T.head?=some c->1<=N:=λ{c} hc h=>by
  have:=B.hd (p:=0) j hc (by rw[bI];exact h);omega
 have e:∀{p:Nat} (hp:p<=N) {KF:Int} {DF:TD} {lv:Int} {D:TD},okX T N (match toX T p KF DF lv with | .inl f=>.inl f | .inr (KT,DT,L)=>.inr (.inl (2,D,KF,DF,KT,DT,L)):(Nat×Nat)⊕(Int×TD×Int×TD×Int×TD×Int)⊕(Int×Bool×Bool×List TI)):=by
  intro p hp KF DF lv D;have a:=TK B hp (KF:=KF) (DF:=DF) (lv:=lv);cases b:toX T p KF DF lv with
  | inl f=>rw[b]at a;exact a
  | inr q=>rw[b]at a;exact a
 unfold hZ;split
 ·have a:=MP B;cases b:tt T with
  | inl f=>rw[b]at a;exact a
  | inr q=>rw[b]at a;exact a
 ·split
  ·rename_i d;exact e (i (by decide) d)
  ·split
   ·rename_i g;have k:2<=N:=by
     have:=B.dt (p:=0) j (by rw[bI];exact g);omega
    split
    ·rename_i d;exact e (B.hd k (by decide) d)
    ·exact k
   ·have a:=ub B j;cases b:bZ T 0 with
    | inl f=>rw[b]at a;exact a.1
    | inr r=>
     rw[b]at a;simp only[];split
     ·rename_i d;split
      ·exact e (B.hd a.1 (by decide) d)
      ·exact a.2
     ·by_cases l:enR r<T.length
      ·rw[ae l];exact a.1
      ·rw[ab l];have:enR r<=N:=a.1;show T.length<=N;omega
def CP:bQ 20000000=some true:=by kernel_rfl
def Ry(n:Nat)(K:Int)(D:TD)(KF:Int)(DF:TD)(KT:Int)(DT:TD)(e l:Bool):mV n K D KF DF KT DT e l=lC n K D KF DF KT DT e l []:=by
 unfold mV lC;rw[show oa n K D KF DF KT DT e l=my n K D KF DF KT DT e l []from rfl];rfl
def IF{K:Int}{D:TD}{KF:Int}{DF:TD}{KT:Int}{DT:TD}{e l:Bool}(h:smE D DF DT []):
  lg 20000000 K D KF DF KT DT e l=some (kx K D KF DF KT DT e l []).2:=by
 unfold lg;rw[Ry,F7 h];rfl
def xN(K:Int)(D:TD)(KF:Int)(DF:TD)(KT:Int)(DT:TD)(e l:Bool):jt 20000000 K D KF DF KT DT e l K D KF DF KT DT e l []=some 1:=by
 have b:au (jz 20000000) 20000000 (0,[],K,D,KF,DF,KT,DT,e,l,K,D,KF,DF,KT,DT,e,l)=some ():=by
  rw[show(20000000:Nat)=19999999+1 from rfl,au];rfl
 unfold jt;rw[b];have a:∀x:TD,eqD x x=true:=λx=>kj.2 rfl;simp only[a,sU,eI,af,HW,ca,ob];rfl
def Is{S:aa}(b:S.length<=300):∃k E:Nat,hZ (S++[33])=.inl (k,E)/\k<=S.length/\E≠0:=by
 have h:=BV (TL S (.inr rfl));have a:=wO (S++[33]);cases hx:hZ (S++[33])with
 | inl f=>rw[hx]at h a;exact⟨f.1,f.2,rfl,h,a⟩
 | inr q=>
  rw[hx]at h;have h:(S++[33]).length<=S.length:=h;rw[bw,ya]at h;omega
def E7{S:aa}{k E:Nat}(h:hZ S=.inl (k,E)):k<=S.length:=by
 have a:=TL S (t:=[]) (.inl rfl);rw[lu]at a;have:=BV a;rw[h]at this;exact this
def pX(S:aa):cq 20000000 S=some true:=by
 unfold cq;rw[CP];by_cases d:S.length>300
 ·rw[show decide (len S>300)=true from aq (by show(300:Int)<((S.length:Nat):Int);omega)];rfl
 have n:S.length<=300:=by omega
 obtain⟨k2,o,i,h,j⟩:=Is n;have hp:=sX (S:=S) (by omega);have m:=H3 (S:=S) (by omega);have a:=sX (S:=S++[33]) (by simp;omega);rw[i]at a;have b:=wO S;have c:=@E7 S;rw[show decide (len S>300)=false from am (by show¬(300:Int)<((S.length:Nat):Int);omega),hp,m,show cat S ([33]:aa)=some (S++[33])from kq (by simp;omega)];have d2:decide ((k2:Int)<=len S)=true:=aq (by show(k2:Int)<=((S.length:Nat):Int);omega);have g:((o:Int) != 0)=true:=bne_iff_ne.2 (by omega);cases hx:hZ S with
 | inl f=>
  obtain⟨k,E⟩:=f;rw[hx]at b;have s:E≠0:=b;have r:=c hx;simp only[HV,PW,af,obs,sm,ob,u12,u11,u10,u9,u8,u7,u6,u5,u4,u3,u2,xN,eI];rw[show((1:Int)==0)=false from rfl,am (show¬(k:Int)<0 by omega),am (show¬(k:Int)>len S by show¬((S.length:Nat):Int)<(k:Int);omega),show((E:Int) != 0)=true from bne_iff_ne.2 (by omega)];rfl
 | inr q=>
  rw[hx]at b;cases q with
  | inl q=>
   obtain⟨K,D,KF,DF,KT,DT,L⟩:=q;obtain⟨P,_⟩:=b;have hc:=IF (K:=K) (KF:=KF) (KT:=KT) (e:=false) (l:=false) (UZ P);rw[GX P]at hc;simp only[HV,PW,af,obs,sm,ob,u12,u11,u10,u9,u8,u7,u6,u5,u4,u3,u2,xN,eI,hc,a,d2,g];rw[show((1:Int)==0)=false from rfl,am (show¬(0:Int)<0 by omega),am (show¬(0:Int)>len S by show¬((S.length:Nat):Int)<(0:Int);omega)];rfl
  | inr q=>
   obtain⟨K,e,l,I⟩:=q;obtain⟨P,_⟩:=b;have p:I.length<=256:=XD P;have hc:=ID (K:=K) (KF:=0) (KT:=0) (e:=e) (l:=l) (UZ P) I.length;rw[GX P]at hc;have hs:=Dc K d0 0 d0 0 d0 I.length e l (I:=I) (by omega);simp only[HV,PW,af,obs,sm,ob,u14,u13,u12,u11,u10,u9,u8,u7,u6,u5,u4,u3,u2,hs,eI,hc,a,d2,g];rw[show((1:Int)==0)=false from rfl,am (show¬(0:Int)<0 by omega),am (show¬(0:Int)>len S by show¬((S.length:Nat):Int)<(0:Int);omega)];simp
def Ig(r:aa):hZ (0::r)=.inl (0,5):=by
 have b:mkE (0::r) 0=0:=by unfold mkE mkN;rw[bI,show mkS (0::r)=0 from rfl,ae rfl]
 have a:∀c:UInt8,c≠0->dR c (0::r)=0:=λc hc=>by unfold dR;rw[ab (by simp;exactλh=>hc h.symm)]
 have hs:mG (0::r)=.inl 0:=by
  unfold mG;rw[a 89 (by decide),ab (by omega),a 45 (by decide),bI];unfold pZ;rw[show bq isDX 4 (0::r)=0 from rfl,ae (by omega)]
 have hd:bZ (0::r) 0=.inl (0,5,0):=by
  unfold bZ nU;rw[b,bI,hs]
 unfold hZ;rw[ab (by simp),ab (by simp),ab (by simp[dts]),hd]
def DI(n:Nat):(cX (List.replicate n (0:Int))).length=n:=by unfold cX;rw[AQ,FG]
def Iy(n:Nat):cX (List.replicate (n+1) (0:Int))=0::cX (List.replicate n (0:Int)):=rfl
def U3{n:Nat}(h:16384<n):bE 20000000 (cX (List.replicate n (0:Int)))=some (.inl (0,d0,0,d0,0,d0,false,false,0,0,3)):=by
 have a:=DI n;unfold bE;rw[show decide (len (cX (List.replicate n (0:Int)))>16384)=true from aq (by show(16384:Int)<(((cX (List.replicate n (0:Int))).length:Nat):Int);rw[a];omega)];rfl
def Ox{n:Nat}(h:n<16384):bE 20000000 (cX (List.replicate (n+1) (0:Int)))=some (.inl (0,d0,0,d0,0,d0,false,false,0,0,5)):=by
 have hp:=sX (S:=cX (List.replicate (n+1) (0:Int))) (by rw[DI];omega);rw[hp,Iy,Ig];rfl
def WU(x:aa):dw 20000000 x=some (x,0,3):=by
 have h:=U3 (n:=16385) (by omega);unfold dw;generalize cX (List.replicate 16385 (0:Int))=w at *;rw[h];rfl
def Xx(x:aa)(a b:Int):dJ 20000000 x a b=some (x,a,b,0,5):=by
 have h:=Ox (n:=16383) (by omega);unfold dJ;rw[show(16383+1:Nat)=16384 from rfl]at h;generalize cX (List.replicate 16384 (0:Int))=w at *;rw[h];rfl
def qd{L:List (aa)}(h:∀x∈L,x.length<=6){j:Nat}(a:j<L.length):∃x,L[j]?=some x/\x.length<=6:=
 ⟨L[j],bf a,h _ (Ej a)⟩
def WY{Y M D K:List (aa)}(G:Y.length=8)(F:M.length=6)(H:D.length=4)(w:K.length=3)(r:∀x∈Y,x.length<=6)(e:∀x∈M,x.length<=6)(o:∀x∈D,x.length<=6)(q:∀x∈K,x.length<=6):
  au (bP 20000000) 20000000 (0,Y,M,D,K)=some (.inr ()):=by
 refine Ek (m:=1152) (f:=λi=>((i:Int),Y,M,D,K)) ?_ ?_ (by omega)
 ·intro i hi;have p:∀k j:Nat,Int.tmod (k:Int) (j:Int)=((k%j:Nat):Int):=λk j=>rfl;have b:∀k:Nat,w64 (Int.tdiv (i:Int) (k:Int))=((i / k:Nat):Int):=λk=>by
   have h:=zV i k;show wrap .i64 ((i / k:Nat):Int)=_;generalize i / k=z at h ⊢;rw[wrap_i64 _ (by omega) (by omega)]
  have m2:Int.tmod (i:Int) 2=((i%2:Nat):Int):=p i 2;have l:Int.tmod (w64 (Int.tdiv (i:Int) 2)) 8=((i / 2%8:Nat):Int):=by
   have:=b 2;rw[show w64 (Int.tdiv (i:Int) 2)=((i / 2:Nat):Int)from this];rfl
  have c:Int.tmod (w64 (Int.tdiv (i:Int) 16)) 6=((i / 16%6:Nat):Int):=by
   have:=b 16;rw[show w64 (Int.tdiv (i:Int) 16)=((i / 16:Nat):Int)from this];rfl
  have n:Int.tmod (w64 (Int.tdiv (i:Int) 96)) 4=((i / 96%4:Nat):Int):=by
   have:=b 96;rw[show w64 (Int.tdiv (i:Int) 96)=((i / 96:Nat):Int)from this];rfl
  have t:w64 (Int.tdiv (i:Int) 384)=((i / 384:Nat):Int):=b 384;obtain⟨a,u,B⟩:=qd (L:=[[],[45]]) (λx hx=>by simp at hx;rcases hx with rfl | rfl<;>simp) (j:=i%2) (by show i%2<2;omega);obtain⟨y,hy,A⟩:=qd r (j:=i / 2%8) (by omega);obtain⟨m,g,v⟩:=qd e (j:=i / 16%6) (by omega);obtain⟨d,hd,C⟩:=qd o (j:=i / 96%4) (by omega);obtain⟨k,s,E⟩:=qd q (j:=i / 384) (by omega);unfold bP fp;simp only[u5,u4,u3,u2,m2,l,c,n,t];rw[aq (show(i:Int)<1152 by omega),dW (show i%2<2 by omega),dW (show i / 2%8<Y.length by omega),dW (show i / 16%6<M.length by omega),dW (show i / 96%4<D.length by omega),dW (show i / 384<K.length by omega)];simp only[aj,ob,u,hy,g,hd,s];rw[kq (show a.length+y.length<=_ by omega)];simp only[];rw[kq (show(a++y).length+m.length<=_ by simp only[bw];omega)];simp only[];rw[kq (show(a++y++m).length+d.length<=_ by simp only[bw];omega)];simp only[];rw[kq (show(a++y++m++d).length+k.length<=_ by simp only[bw];omega)];simp only[pX,ca,af];rw[kq (by simp only[bw,aN,fR];omega),kq (by simp only[bw,aN,fR];omega)];simp only[pX,ca,af,u6,u5,u4,u3,u2];rw[sG (by omega)]
 ·unfold bP;simp only[u5,u4,u3,u2];rfl
noncomputable def IW:aa:=match au (cv 20000000) 20000000 [91,50,48,48,52,45,48,54,45,48,49]with | some x=>x | none=>[]
def WB:au (cv 20000000) 20000000 [91,50,48,48,52,45,48,54,45,48,49]=some IW:=by kernel_rfl
def dayQ:TD:=(false,false,[50,48,48,52],0,0,[48,54],[48,49],0,0,0)
def FM:TI:=mkI dayQ false d0
def M7:smT dayQ:=⟨by decide,by decide,by decide,by decide,by decide,by decide⟩
def NW:itI FM false=0:=by
 have h:=Eg (x:=dayQ) (y:=d0) false M7 lh 3;have a:fX 20000000 dayQ false d0 3=some 0:=by kernel_rfl
 rw[a,ae (.inl rfl)]at h;exact(aW h).symm
def Ju:(kx 3 d0 0 d0 0 d0 false false (List.replicate 246 FM)).2=0:=by
 have c:eqD d0 d0=true:=kj.2 rfl;have b:unuB 3 d0 0 d0 0 d0 false false (List.replicate 246 FM).length=false:=by unfold unuB;rw[c];rfl
 unfold kx;rw[ab (by omega),b,ab (by simp),ab (by omega),ab (by omega),ab (by simp),ab (by simp)];unfold ve;rw[yG λi t a=>?_];have:=P7 (fG a);subst this;unfold errI;rw[show((3:Int)==4)=false from rfl,NW];simp
def IU:IW++[93]=EM 3 d0 0 d0 0 d0 false false (List.replicate 246 FM):=by kernel_rfl
def JF:IW.length=2706:=by kernel_rfl
def QS(T:aa)(b:T++[93]=EM 3 d0 0 d0 0 d0 false false (List.replicate 246 FM))(c:T.length<=3000):bO 20000000 T 0 3 0 5=some (0,3,0,5,2,0):=by
 have hs:smE d0 d0 d0 (List.replicate 246 FM):=⟨lh,lh,lh,λt a=>by rw[P7 a];exact⟨M7,lh⟩⟩;have P:=Kv hs Ju;generalize List.replicate 246 FM=I at *;have hp:=sX (S:=T++[93]) (by rw[bw,ya];omega);have hx:hZ (T++[93])=.inr (.inr (3,false,false,I)):=by
  rw[b,Ea P];unfold exOf;rw[ab (by omega)]
 rw[hx]at hp;unfold bO;rw[kq (by rw[ya];omega)];simp only[ob];rw[hp];rfl
def Wi:bO 20000000 IW 0 3 0 5=some (0,3,0,5,2,0):=QS IW IU (by rw[JF];decide)
def Ip{A B:Type}(a:A)(f:A->Option B):ob (some a) f=f a:=rfl
def UT{A B C:Type}(a:B)(f:A->Option C)(g:B->Option C):obs (some (.inr a)) f g=g a:=rfl
def vt:eO 20000000=some true:=by
 have d:=WB;have b:=Wi;have a:=WY (Y:=[[50,48,48,52],[50,48,48,88],[50,48,88,88],[50,88,88,88],[88,88,88,88],[50,48,88,52],[89,49,50,51,52,53],[49,57,53,48,83,50]]) (M:=[[],[45,48,54],[45,88,88],[45,48,88],[45,50,49],[45,50,53]]) (D:=[[],[45,48,49],[45,88,88],[45,48,88]]) (K:=[[],[63],[37]])
  rfl rfl rfl rfl (by decide) (by decide) (by decide) (by decide)
 have c:=CP;unfold eO;generalize IW=T at *;generalize au (cv 20000000)=A at *;generalize bO 20000000=B at *;generalize au (bP 20000000)=C at *;generalize bQ 20000000=V at *;rw[d,Ip,WU,Ip];simp only[u3,u2];rw[Xx,Ip];simp only[u5,u4,u3,u2];rw[b,Ip];simp only[u6,u5,u4,u3,u2];rw[show ft 20000000 0 3 0 5 2 0=some false from rfl,Ip,af,a,UT,c,Ip]
end Go.Sh
