
import Derived.Test.YtjkmipianfkncaaGreatDoorLawSkb
set_option linter.unusedVariables false
set_option linter.unusedSimpArgs false
set_option maxRecDepth 100000
open Go.IntKind(wrap)
set_option linter.defProp false
namespace Go.Sh
open Go.Abs
def tdR(r:DR):TD:=(r.1,r.2.1,r.2.2.1,(r.2.2.2.1:Int),(r.2.2.2.2.1:Int),r.2.2.2.2.2.1,r.2.2.2.2.2.2.1,(r.2.2.2.2.2.2.2.1.1:Int),(r.2.2.2.2.2.2.2.1.2.1:Int),(r.2.2.2.2.2.2.2.1.2.2:Int))
def gU{S:aa}{a:Nat}(h:a<=S.length){r:DR}(c:ch S a=.inr r):smT (tdR r)/\cF (tdR r)=0/\a<=enR r/\enR r<=S.length:=by
 obtain⟨f,b⟩:=zR h c;obtain⟨g,l,dg,x,s,m,d,M,P,e⟩:=r;have ok:=Ar h f;have:=ok.dg17;have:=ok.m2;have:=ok.d2;refine⟨⟨by show m.length<=18;omega,by show dg.length<=100;omega,by show d.length<=18;omega,by show(0:Int)<=(M.1:Int);omega,by show(0:Int)<=(M.2.1:Int);omega,by show(0:Int)<=(M.2.2:Int);omega⟩,?_,ok.le,ok.end_⟩;have hc:=tN (g:=g) (l:=l) (dg:=dg) (x:=(x:Int)) (q:=(s:Int)) (m:=m) (d:=d) (k0:=(M.1:Int)) (k1:=(M.2.1:Int)) (k2:=(M.2.2:Int)) (wb ok.all);unfold chkR at b;simp only[]at b;show chkF g l dg (x:Int) (s:Int) m d (M.1:Int) (M.2.1:Int) (M.2.2:Int)=0;omega
def dts(l:aa):Bool:=l.take 2==[46,46]
def zG{l:aa}:dts l=true↔∃r,l=46::46::r:=by
 unfold dts;rw[bv];constructor
 ·exact GV
 ·rintro⟨r,rfl⟩;rfl
def lZ{S:aa}{p:Nat}(h:dts (S.drop p)=true):p+2<=S.length:=by
 obtain⟨r,a⟩:=zG.1 h;have:=ck List.length a;simp at this;omega
noncomputable def l6(S:aa)(en:UInt8)(p:Nat):(Nat×Nat×Nat)⊕(TI×Nat×Nat):=
 match ch S p with
 | .inl f=>.inl f
 | .inr r=>if dts (S.drop (enR r))=true/\(S.drop (enR r+2)).head?≠some en then
   match ch S (enR r+2)with
   | .inl f=>.inl f
   | .inr a=>.inr (mkI (tdR r) true (tdR a),plR r,enR a)
  else .inr (mkI (tdR r) false d0,plR r,enR r)
def xa{S:aa}{en:UInt8}{p:Nat}(h:p<=S.length){t:TI}{a e:Nat}(b:l6 S en p=.inr (t,a,e)):smI t/\p<=e/\e<=S.length:=by
 unfold l6 at b;cases d:ch S p with
 | inl f=>rw[d]at b;cases b
 | inr r=>
  obtain⟨g,_,l,k⟩:=gU h d;rw[d]at b;simp only[]at b;split at b
  ·rename_i hd;have:=lZ hd.1;cases c:ch S (enR r+2)with
   | inl f=>rw[c]at b;cases b
   | inr m=>
    obtain⟨i,_,l3,j⟩:=gU (by omega) c;rw[c]at b;cases b;exact⟨⟨g,i⟩,by omega,j⟩
  ·cases b;exact⟨⟨g,nv⟩,l,k⟩
noncomputable def lM(S:aa)(en:UInt8):Nat->Nat->List Nat->List TI->(Nat×Nat×Nat)⊕(Nat×List Nat×List TI)
 | 0,p,_,_=>.inl (p,3,p)
 | r+1,p,P,I=>match l6 S en p with
  | .inl f=>.inl f
  | .inr (t,a,b)=>if(S.drop b).head?=some 44 then lM S en r (b+1) (P++[a]) (I++[t])else .inr (b,P++[a],I++[t])
def fD{S:aa}{p:Nat}{c:UInt8}(h:(S.drop p).head?=some c):p+1<=S.length:=by
 cases hd:S.drop p with
 | nil=>rw[hd]at h;cases h
 | cons a r=>
  have:=ck List.length hd;simp at this;omega
def sJ{S:aa}{en:UInt8}:∀(r p:Nat) (P:List Nat) (I:List TI),p<=S.length->P.length=I.length->(∀t∈I,smI t)->∀{c:Nat} {d:List Nat} {b:List TI},lM S en r p P I=.inr (c,d,b)->
  c<=S.length/\d.length=b.length/\I.length<b.length/\b.length<=I.length+r/\(∀t∈b,smI t)
 | 0,p,P,I,_,_,_,c,d,b,e=>by cases e
 | r+1,p,P,I,h,i,hs,c,d,b,e=>by
  rw[lM]at e;cases g:l6 S en p with
  | inl f=>rw[g]at e;cases e
  | inr q=>
   obtain⟨t,a,x⟩:=q;obtain⟨j,y,n⟩:=xa h g;rw[g]at e;simp only[]at e;have hs':∀u∈I++[t],smI u:=λu v=>by
    rcases lV.1 v with h | h
    ·exact hs u h
    ·rw[ul.1 h];exact j
   split at e
   ·rename_i o;obtain⟨k,l,s,m,w⟩:=sJ r (x+1) (P++[a]) (I++[t]) (fD o) (by simp[i]) hs' e;rw[bW,Ea]at s m;exact⟨k,l,by omega,by omega,w⟩
   ·cases e;exact⟨n,by simp[i],by simp,by simp,hs'⟩
def dts3(S:aa)(p:Nat)(c:UInt8):((S.drop p).take [46,46,c].length==[46,46,c])=(dts (S.drop p)&&decide ((S.drop (p+2)).head?=some c)):=by
 rw[<-jr];generalize S.drop p=l;unfold dts
 match l with
 | []=>rfl
 | [a]=>simp
 | [a,b]=>simp
 | a::b::d::r=>
  rw[re];simp[and_assoc]
def endC(K:Int):UInt8:=if K=4 then 125 else 93
def C9{K:Int}(a:K=3\/K=4)(n:Nat):lj n K=some ([if K=4 then 123 else 91],[endC K]):=by
 rcases a with rfl | rfl<;>rfl
def Rt(c:UInt8){S:aa}{p:Nat}(h:p<=S.length)(a b:Int)(d:Bool)(g:List Int)(e:TD)(i f:List TI):
  ll 20000000 [c] a S (p:Int) b d g e i f=some ([c],a,dts (S.drop p)&&!decide ((S.drop (p+2)).head?=some c),S,(p:Int),b,d,g,e,i,f):=by
 unfold ll;rw[JC _ _ _ _ h];have hc:cat [46,46] [c]=some [46,46,c]:=rfl;simp only[ob,hc,JC _ _ _ _ h,dts3];show cond (dts (S.drop p)) _ _=_;cases hd:dts (S.drop p)
 ·rfl
 ·cases decide ((S.drop (p+2)).head?=some c)<;>rfl
def tk1(l:aa)(c:UInt8):l.take [c].length=[c]↔l.head?=some c:=by
 cases l<;>simp
def CC(S:aa)(r:DR):Us S (.inr r)=.inr ((tdR r).1,(tdR r).2.1,(tdR r).2.2.1,(tdR r).2.2.2.1,(tdR r).2.2.2.2.1,(tdR r).2.2.2.2.2.1,(tdR r).2.2.2.2.2.2.1,(tdR r).2.2.2.2.2.2.2.1,(tdR r).2.2.2.2.2.2.2.2.1,(tdR r).2.2.2.2.2.2.2.2.2,((plR r:Nat):Int),S,((enR r:Nat):Int)):=rfl
def SY(b:Bool)(c:UInt8){S:aa}{p:Nat}(h:p<=S.length)(o:S.length<100000)(m:b=true->dts (S.drop p)=true)(d e:Int)(j:Bool)(g:List Int)(k:TD)(i a:List TI):
  li 20000000 [c] d b S (p:Int) e j g k i a=some (if b=true then(match ch S (p+2)with
   | .inl f=>.inl ((f.1:Int),(f.2.1:Int),S,(f.2.2:Int))
   | .inr r=>.inr ([c],d,S,((enR r:Nat):Int),e,j,g,k,true,tdR r,i,a))else .inr ([c],d,S,(p:Int),e,j,g,k,false,d0,i,a)):=by
 unfold li;cases b
 ·rfl
 ·have hd:=m rfl;have l:=lZ hd;have q:(S.drop p).take [(46:UInt8),46].length=[46,46]:=by
   obtain⟨r,n⟩:=zG.1 hd;rw[n];rfl
  rw[aj,zS _ _ _ _ h (by omega) (by simp) (by simp),ae q,ae rfl];show obs (gZ 20000000 S ((p+2:Nat):Int)) _ _=_;rw[DZ S (p+2) l o];cases ch S (p+2)with
  | inl f=>rfl
  | inr r=>rfl
def pE{α:Type}{I:List α}(h:I.length<=256):Nat.ble (I.length+1) gy=true:=dF (by unfold gy;omega)
abbrev gI(P:List Nat):List Int:=P.map λk:Nat=>(k:Int)
def QF(c:UInt8){S:aa}{p:Nat}(h:p<=S.length)(s:S.length<100000)(K:Int)(e:Bool){P:List Nat}(J:List TI){I:List TI}(A:I.length<256)(z:P.length=I.length):
  eQ 20000000 ([c],S,(p:Int),K,e,gI P,J,I)=some (match l6 S c p with
   | .inl f=>.inr (.inl ((f.1:Int),(f.2.1:Int),S,(f.2.2:Int)))
   | .inr (t,a,b)=>if(S.drop b).head?=some 44 then .inl ([c],S,((b+1:Nat):Int),K,e,gI (P++[a]),J,I++[t])
    else .inr (.inr ([c],S,((if dts (S.drop b)then b+2 else b:Nat):Int),0,d0,0,d0,0,d0,false,false,K,d0,0,d0,0,d0,e,dts (S.drop b),gI (P++[a]),J,I++[t]))):=by
 have g:∀(t:TI) (a b:Nat),b<=S.length->(ob (az 20000000 [44] S (b:Int)) (u3 λm j d=>(cond m (some (.inl ([c],j,d,K,e,(gI P++([(a:Int)]:List (Int))),J,(I++([t]:List TI))))) (ob (az 20000000 [46,46] j d) (u3 λn i k=>(cond n (some (.inr (.inr ([c],i,k,0,d0,0,d0,0,d0,false,false,K,d0,0,d0,0,d0,e,true,(gI P++([(a:Int)]:List (Int))),J,(I++([t]:List TI)))))) (some (.inr (.inr ([c],i,k,0,d0,0,d0,0,d0,false,false,K,d0,0,d0,0,d0,e,false,(gI P++([(a:Int)]:List (Int))),J,(I++([t]:List TI))))))))))):Option ((aa×aa×Int×Int×Bool×List (Int)×List TI×List TI)⊕((Int×Int×aa×Int)⊕(aa×aa×Int×Int×TD×Int×TD×Int×TD×Bool×Bool×Int×TD×Int×TD×Int×TD×Bool×Bool×List (Int)×List TI×List TI)))) =
   some (if(S.drop b).head?=some 44 then .inl ([c],S,((b+1:Nat):Int),K,e,gI (P++[a]),J,I++[t])
    else .inr (.inr ([c],S,((if dts (S.drop b)then b+2 else b:Nat):Int),0,d0,0,d0,0,d0,false,false,K,d0,0,d0,0,d0,e,dts (S.drop b),gI (P++[a]),J,I++[t]))):=by
  intro t a b l;have x:gI (P++[a])=gI P++[(a:Int)]:=by simp[gI]
  rw[mr _ _ _ _ l (by omega),x];simp only[ob,u3,u2,tk1];by_cases hc:(S.drop b).head?=some 44
  ·rw[ae hc,ae hc];rfl
  ·rw[ab hc,ab hc];simp only[af];rw[mr _ _ _ _ l (by omega)];cases hd:dts (S.drop b)
   ·rw[ab (show¬(S.drop b).take [(46:UInt8),46].length=[46,46]fromλh=>by unfold dts at hd;rw[show(S.drop b).take 2=[46,46]from h]at hd;cases hd)];rfl
   ·rw[ae (show(S.drop b).take [(46:UInt8),46].length=[46,46]from eq_of_beq hd)];rfl
 unfold eQ;simp only[u8,u7,u6,u5,u4,u3,u2];rw[show(len I==256)=false from by show(((I.length:Nat):Int)==256)=false;simp;omega,af,DZ S p h s];unfold l6;cases w:ch S p with
 | inl f=>rfl
 | inr r=>
  obtain⟨B,_,C,o⟩:=gU h w;rw[CC];simp only[obs,sm,ob];rw[show(d4 (d8 ((tdR r).1,(tdR r).2.1,(tdR r).2.2.1,(tdR r).2.2.2.1,(tdR r).2.2.2.2.1,(tdR r).2.2.2.2.2.1,(tdR r).2.2.2.2.2.2.1,(tdR r).2.2.2.2.2.2.2.1,(tdR r).2.2.2.2.2.2.2.2.1,(tdR r).2.2.2.2.2.2.2.2.2,((plR r:Nat):Int),S,((enR r:Nat):Int))))=((enR r:Nat):Int)from rfl,Rt c o];simp only[u11,u10,u9,u8,u7,u6,u5,u4,u3,u2];rw[SY _ c o s (λh=>by simp at h;exact h.1)];have u:(dts (S.drop (enR r))&&!decide ((S.drop (enR r+2)).head?=some c))=true↔(dts (S.drop (enR r))=true/\(S.drop (enR r+2)).head?≠some c):=by simp
  by_cases hd:dts (S.drop (enR r))=true/\(S.drop (enR r+2)).head?≠some c
  ·rw[ae (u.2 hd),ae hd];cases y:ch S (enR r+2)with
   | inl f=>rfl
   | inr q=>
    obtain⟨D,_,l3,v⟩:=gU (lZ hd.1) y;simp only[u12,u11,u10,u9,u8,u7,u6,u5,u4,u3,u2];rw[pE (by omega),pE (by simp;omega)];exact g (mkI (tdR r) true (tdR q)) (plR r) (enR q) v
  ·rw[ab (λh=>hd (u.1 h)),ab hd];simp only[u12,u11,u10,u9,u8,u7,u6,u5,u4,u3,u2];rw[pE (by omega),pE (by simp;omega)];exact g (mkI (tdR r) false d0) (plR r) (enR r) o
def PM(c:UInt8)(S:aa)(p K:Int)(e:Bool)(P:List Int)(J:List TI){I:List TI}(a:I.length=256):
  eQ 20000000 ([c],S,p,K,e,P,J,I)=some (.inr (.inl (p,3,S,p))):=by
 unfold eQ;simp only[u8,u7,u6,u5,u4,u3,u2];rw[show(len I==256)=true from by show(((I.length:Nat):Int)==256)=true;rw[a];rfl];rfl
def U3(S:aa)(c:UInt8)(K:Int)(e:Bool)(J:List TI):(Nat×Nat×Nat)⊕(Nat×List Nat×List TI)->(Int×Int×aa×Int)⊕(aa×aa×Int×Int×TD×Int×TD×Int×TD×Bool×Bool×Int×TD×Int×TD×Int×TD×Bool×Bool×List (Int)×List TI×List TI)
 | .inl f=>.inl ((f.1:Int),(f.2.1:Int),S,(f.2.2:Int))
 | .inr (p,P,I)=>.inr ([c],S,((if dts (S.drop p)then p+2 else p:Nat):Int),0,d0,0,d0,0,d0,false,false,K,d0,0,d0,0,d0,e,dts (S.drop p),gI P,J,I)
def Qw(c:UInt8){S:aa}(h:S.length<100000)(K:Int)(e:Bool)(J:List TI):∀(r p:Nat) (P:List Nat) (I:List TI),I.length+r=256->p<=S.length->P.length=I.length->∀N,r<N->
  au (eQ 20000000) N ([c],S,(p:Int),K,e,gI P,J,I)=some (U3 S c K e J (lM S c r p P I)):=by
 intro r
 induction r with
 | zero=>
  intro p P I g hp b N j;obtain⟨N,rfl⟩:∃k,N=k+1:=⟨N - 1,by omega⟩;rw[au,PM c S _ K e _ J (by omega)];rfl
 | succ r ih=>
  intro p P I g hp b N j;obtain⟨N,rfl⟩:∃k,N=k+1:=⟨N - 1,by omega⟩;rw[au,QF c hp h K e J (by omega) b,lM];cases i:l6 S c p with
  | inl f=>rfl
  | inr q=>
   obtain⟨t,a,d⟩:=q;obtain⟨_,m,l⟩:=xa hp i;simp only[];by_cases hc:(S.drop d).head?=some 44
   ·rw[ae hc,ae hc];exact ih (d+1) (P++[a]) (I++[t]) (by simp;omega) (fD hc) (by simp[b]) N (by omega)
   ·rw[ab hc,ab hc];rfl
def xe{X a Y b:Type}{s:X->Option (X⊕Y)}{s':a->Option (a⊕b)}(f:X->a)(g:Y->b)(h:∀x,s' (f x)=(s x).map (Sum.map f g)):∀(n:Nat) (x:X),au s' n (f x)=(au s n x).map g
 | 0,_=>rfl
 | n+1,x=>by
  rw[au,au,h];cases s x with
  | none=>rfl
  | some z=>
   cases z with
   | inl y=>exact xe f g h n y
   | inr y=>rfl
def Pl(n:Nat)(K:Int)(D:TD)(KF:Int)(DF:TD)(KT:Int)(DT:TD)(c:Nat)(e l:Bool)(L:List TI):mH n K D KF DF KT DT L.length c e l L=mT n K D KF DF KT DT e l L:=by
 unfold mH mT;have:=xe (s:=fZ n) (s':=jF n) (u12 λq f d g p h o j k m b a=>(d.length,c,q,f,d,g,p,h,o,j,k,d.length,c,m,b,a)) id (by
  rintro⟨q,f,d,g,p,h,o,j,k,m,b,a⟩;unfold fZ jF;simp only[u16,u15,u14,u13,u12,u11,u10,u9,u8,u7,u6,u5,u4,u3,u2];cases decide (f<q)
  ·rfl
  ·simp only[aj];cases ix d.length f with
   | none=>rfl
   | some i=>
    simp only[ob];cases d[i]? with
    | none=>rfl
    | some t=>
     simp only[ob];cases gH n (iF t) (d8 t).2.2.1 (d8 t).2.2.2 g with
     | none=>rfl
     | some v=>
      simp only[ob];rw[show lW n v 10 10 10 (iF t) (d8 t).2.2.1 (d8 t).2.2.2 g p h o j k d.length c m b f a d=iq n v 10 10 10 (iF t) (d8 t).2.2.1 (d8 t).2.2.2 g p h o j k m b f a d from rfl];cases iq n v 10 10 10 (iF t) (d8 t).2.2.1 (d8 t).2.2.2 g p h o j k m b f a d with
      | none=>rfl
      | some z=>
       simp only[ob];cases(z != 0)<;>rfl) n (len L,0,L,K,D,KF,DF,KT,DT,e,l,w64 (len L - 1))
 simp only[u12,u11,u10,u9,u8,u7,u6,u5,u4,u3,u2]at this;rw[show(L.length,c,((L.length:Nat):Int),(0:Int),L,K,D,KF,DF,KT,DT,L.length,c,e,l,w64 (((L.length:Nat):Int) - 1))=(L.length,c,len L,0,L,K,D,KF,DF,KT,DT,L.length,c,e,l,w64 (len L - 1))from rfl,this];rw[Option.map_id];rfl
def Pv(n:Nat)(K:Int)(D:TD)(KF:Int)(DF:TD)(KT:Int)(DT:TD)(c:Nat)(e l:Bool)(L:List TI):fO n K D KF DF KT DT L.length c e l L=kV n K D KF DF KT DT e l L:=by
 unfold fO kV;rw[Pl,show nD n K D KF DF KT DT L.length c e l L=lU n K D KF DF KT DT e l L from rfl]
def ye{K:Int}{D:TD}{KF:Int}{DF:TD}{KT:Int}{DT:TD}{e l:Bool}{L:List TI}(h:smE D DF DT L)(c:Nat):
  fO 20000000 K D KF DF KT DT L.length c e l L=some (ma K D KF DF KT DT e l L):=(Pv _ _ _ _ _ _ _ _ _ _ _).trans (ET h)
def HJ{K:Int}{D:TD}{KF:Int}{DF:TD}{KT:Int}{DT:TD}{e l:Bool}{L:List TI}(h:smE D DF DT L)(c:Nat):
  kF 20000000 K D KF DF KT DT L.length c e l L=some (ma K D KF DF KT DT e l L).2:=by
 unfold kF;rw[ye h];rfl
noncomputable def setE(K:Int)(e l:Bool)(I:List TI):Int×Int:=ma K d0 0 d0 0 d0 e l I
noncomputable def endL(S:aa)(K:Int)(e:Bool)(p:Nat)(P:List Nat)(I:List TI):(Nat×Nat×Nat)⊕(Int×Bool×Bool×List TI×Nat):=
 if(S.drop (if dts (S.drop p)then p+2 else p)).head?=some (endC K)then
  if(setE K e (dts (S.drop p)) I).2=0 then .inr (K,e,dts (S.drop p),I,(if dts (S.drop p)then p+2 else p)+1)
  else .inl (P.getD (setE K e (dts (S.drop p)) I).1.toNat 0,10,(if dts (S.drop p)then p+2 else p)+1)
 else .inl ((if dts (S.drop p)then p+2 else p),5,(if dts (S.drop p)then p+2 else p))
noncomputable def uK(S:aa)(a:Nat)(K:Int):(Nat×Nat×Nat)⊕(Int×Bool×Bool×List TI×Nat):=
 match lM S (endC K) 256 (if dts (S.drop (a+1))then a+3 else a+1) [] []with
 | .inl f=>.inl f
 | .inr (p,P,I)=>endL S K (dts (S.drop (a+1))) p P I
noncomputable def pp(S:aa)(a:Nat):(Nat×Nat×Nat)⊕(Int×Bool×Bool×List TI×Nat):=
 if(S.drop a).head?=some 91 then uK S a 3 else if(S.drop a).head?=some 123 then uK S a 4 else .inl (a,5,a)
def Jx{K:Int}(a:K=3\/K=4){e l:Bool}{I:List TI}(b:1<=I.length):∃i:Nat,(setE K e l I).1=(i:Int)/\i<I.length:=by
 have hi:∃i:Nat,(wq K e l I).1=(i:Int)/\i<I.length:=by
  unfold wq;have:∀(J:List TI) (k:Nat) (p:Nat×Int),nz (errI K e l I.length) k J=some p->p.1<k+J.length:=by
   intro J
   induction J with
   | nil=>intro k p h;cases h
   | cons t r ih=>
    intro k p h;rw[nz]at h;split at h
    ·cases h;simp
    ·have:=ih (k+1) p h;simp;omega
  cases hs:nz (errI K e l I.length) 0 I with
  | none=>exact⟨0,rfl,by omega⟩
  | some p=>exact⟨p.1,rfl,by have:=this I 0 p hs;omega⟩
 unfold setE ma;rw[ab (by omega)];split
 ·exact⟨0,rfl,by omega⟩
 ·rw[ab (by omega),ab (by omega),ab (by omega)];split
  ·exact⟨0,rfl,by omega⟩
  ·exact hi
def Iy{I:List TI}(h:∀t∈I,smI t):smE d0 d0 d0 I:=⟨nv,nv,nv,h⟩
def VV(n:Nat)(I:List TI):bw n I=some (I.length,I.length):=by
 unfold bw;rw[fe (aQ _)];show ob (bx I.length ((I.length:Nat):Int)) _=_;rw[fe (aQ _)];rfl
def PP(S:aa):(Nat×Nat×Nat)⊕(Int×Bool×Bool×List TI×Nat)->(Int×Int×aa×Int)⊕(Int×TD×Int×TD×Int×TD×Nat×Nat×Bool×Bool×aa×Int×List TI)
 | .inl f=>.inl ((f.1:Int),(f.2.1:Int),S,(f.2.2:Int))
 | .inr (K,e,l,I,p)=>.inr (K,d0,0,d0,0,d0,I.length,I.length,e,l,S,(p:Int),I)
def SZ {S:aa} (F:S.length<100000) {K:Int} (y:K=3\/K=4) (e:Bool) {p:Nat} (hp:p<=S.length) {P:List Nat} {I:List TI} (D:P.length=I.length) (A:1<=I.length) (hs:∀t∈I,smI t):
  (obs (bN 20000000 [endC K] S ((if dts (S.drop p) then p+2 else p:Nat):Int)) (u2 λb c=>(ob (bw 20000000 I) (u2 λd f=>(ob (fO 20000000 K d0 0 d0 0 d0 d f e (dts (S.drop p)) I) (u2 λk n=>(cond (n != 0) (ob (ix (List.length (gI P)) k) λs=>(ob ((gI P)[s]?) λu=>(ob (aM 20000000 u 10 b c) (u2 λv o=>(some (.inl (v,o,b,c))))))) (some (.inr (K,d0,0,d0,0,d0,d,f,e,(dts (S.drop p)),b,c,I))))))))) (u4 λj w x m=>(some (.inl (j,w,x,m))))) =
   some (PP S (endL S K e p P I)):=by
 have B:(if dts (S.drop p) then p+2 else p:Nat)<=S.length:=by
  split
  ·rename_i h;exact lZ h
  ·exact hp
 unfold endL;generalize (if dts (S.drop p) then p+2 else p:Nat)=q at *;generalize dts (S.drop p)=l;rw [zS _ _ _ _ B (by omega) (by simp) (by simp)];simp only [tk1];by_cases hc:(S.drop q).head?=some (endC K)
 ·rw [ae hc,ae hc];simp only [obs,sm,ob,u2,VV,ye (Iy hs)];obtain ⟨i,z,E⟩:=Jx y (e:=e) (l:=l) A;show cond ((setE K e l I).2 != 0) (ob (ix (gI P).length (setE K e l I).1) _) _=_;by_cases g:(setE K e l I).2=0
  ·rw [ae g,show ((setE K e l I).2 != 0)=false from by simp [g]];rfl
  ·have hi:i<(gI P).length:=by simp [gI];omega
   rw [ab g,show ((setE K e l I).2 != 0)=true from by simp [g],z,eZ hi];have C:(gI P)[i]?=some ((P.getD i 0:Nat):Int):=by
    have hi':i<P.length:=by omega
    simp [gI,bg hi']
   simp only [aj,ob,C];rfl
 ·rw [ab hc,ab hc];have:lcp (S.drop q) [endC K]=0:=by
   cases hd:S.drop q with
   | nil=>rfl
   | cons a r=>
    rw [hd] at hc;simp only [lcp];rw [show (a==endC K)=false from by rw [aK];rintro rfl;exact hc rfl];rfl
  rw [this];rfl
def QY{S:aa}{a:Nat}(h:a<=S.length)(hS:S.length<100000):mJ 20000000 S (a:Int)=some (PP S (pp S a)):=by
 have b:∀(K:Int) (y:K=3\/K=4) (i:a+1<=S.length),(ob (mG 20000000 (K==4) S ((a+1:Nat):Int) ([]:List TI) ([]:List TI)) (u5 λv7 v8 v9 C v11=>(ob (lj 20000000 v9) (u2 λ_ H=>(ob (az 20000000 [46,46] v7 v8) (u3 λM v14 V=>(obs (au (eQ 20000000) 20000000 (H,v14,V,v9,M,([]:List (Int)),C,v11)) (u4 λT z O E=>(some (.inl (T,z,O,E)))) (u22 λQ F J _ _ _ _ _ _ _ _ o l s k v m n u w _ d=>(obs (bN 20000000 Q F J) (u2 λe g=>(ob (bw 20000000 d) (u2 λj x=>(ob (fO 20000000 o l s k v m j x n u d) (u2 λB N=>(cond (N != 0) (ob (ix (List.length w) B) λU=>(ob (w[U]?) λX=>(ob (aM 20000000 X 10 e g) (u2 λY R=>(some (.inl (Y,R,e,g))))))) (some (.inr (o,l,s,k,v,m,j,x,n,u,e,g,d))))))))) (u4 λA Z v45 G=>(some (.inl (A,Z,v45,G))))))))))))) =
   some (PP S (uK S a K)):=by
  intro K y i;have hj:mG 20000000 (K==4) S ((a+1:Nat):Int) ([]:List TI) ([]:List TI)=some (S,((a+1:Nat):Int),K,[],[]):=by
   rcases y with rfl | rfl<;>rfl
  have D:az 20000000 [46,46] S ((a+1:Nat):Int)=some (dts (S.drop (a+1)),S,((if dts (S.drop (a+1))then a+3 else a+1:Nat):Int)):=by
   rw[mr _ _ _ _ i (by omega)];cases hd:dts (S.drop (a+1))
   ·rw[ab (show¬(S.drop (a+1)).take [(46:UInt8),46].length=[46,46]fromλh=>by unfold dts at hd;rw[show(S.drop (a+1)).take 2=[46,46]from h]at hd;cases hd)];rfl
   ·rw[ae (show(S.drop (a+1)).take [(46:UInt8),46].length=[46,46]from eq_of_beq hd)];rfl
  have hp:(if dts (S.drop (a+1))then a+3 else a+1:Nat)<=S.length:=by
   split
   ·rename_i h;have:=lZ h;omega
   ·exact i
  have hl:=Qw (endC K) hS K (dts (S.drop (a+1))) [] 256 (if dts (S.drop (a+1))then a+3 else a+1) [] [] (by simp) hp rfl 20000000 (by omega);simp only[hj,C9 y,D,ob,u5,u4,u3,u2];rw[show au (eQ 20000000) 20000000 ([endC K],S,((if dts (S.drop (a+1))then a+3 else a+1:Nat):Int),K,dts (S.drop (a+1)),([]:List Int),([]:List TI),([]:List TI))=_ from hl];unfold uK;cases hr:lM S (endC K) 256 (if dts (S.drop (a+1))then a+3 else a+1) [] []with
  | inl f=>rfl
  | inr q=>
   obtain⟨p,P,I⟩:=q;obtain⟨q1,q2,q3,q4,q5⟩:=sJ 256 _ [] [] hp rfl (λt D=>by cases D) hr;have q3':1<=I.length:=by rw[iy]at q3;omega
   exact SZ hS y (dts (S.drop (a+1))) q1 q2 q3' q5
 unfold mJ pp;rw[AK _ _ _ _ h (by omega)];cases hd:S.drop a with
 | nil=>rfl
 | cons c r=>
  have i:a+1<=S.length:=by
   have:=ck List.length hd;simp at this;omega
  simp only[uB,ar];by_cases L:c=91
  ·subst L;rw[ae rfl];exact b 3 (.inl rfl) i
  ·by_cases W:c=123
   ·subst W;rw[ae rfl];exact b 4 (.inr rfl) i
   ·rw[ab L,ab W];have:hasB [91,123] c=false:=by
     unfold hasB;simp only[qx,List.any_nil,wy,nL,aK];exact⟨λh=>L h.symm,λh=>W h.symm⟩
    rw[this];rfl
def rat(l:aa):Nat:=match l with | c::_=>c.toNat | []=>0
def Ir(n:Nat)(S:aa)(p:Nat):cR n S (p:Int)=some ((rat (S.drop p):Nat):Int):=by
 unfold cR;rw[aq (show(p:Int)>=0 by omega),aj];by_cases h:p<S.length
 ·have hc:=bg h;rw[aq (show(p:Int)<len S by show(p:Int)<((S.length:Nat):Int);omega),aj,dw hc,bK hc];rfl
 ·rw[am (show¬(p:Int)<len S by show¬(p:Int)<((S.length:Nat):Int);omega),af,iD (by omega)];rfl
def vT(l:aa)(c:UInt8)(hc:c≠0):(((rat l:Nat):Int)==((c.toNat:Nat):Int))=decide (l.head?=some c):=by
 cases l with
 | nil=>
  rw[am (by simp)];rw[aK];intro h;have b:c.toNat=0:=by
   have:((0:Nat):Int)=((c.toNat:Nat):Int):=h;omega
  exact hc (ga.1 (by rw[b];rfl))
 | cons a r=>
  show(((a.toNat:Nat):Int)==((c.toNat:Nat):Int))=_;rw[nc];rw[re];simp
def rf_w{p:Nat}(k:Nat)(h:p+k<9223372036854775807):w64 ((p:Int)+(k:Int))=((p+k:Nat):Int):=by
 show wrap .i64 _=_;rw[wrap_i64 _ (by omega) (by omega)];omega
def Eu(n:Nat){S:aa}{p:Nat}(f:p<1000000):ee n S (p:Int)=some (if dts (S.drop p)then 1 else 0):=by
 unfold ee;have d:w64 ((p:Int)+1)=((p+1:Nat):Int):=rf_w 1 (by omega);have e:∀q,(((rat (S.drop q):Nat):Int)==46)=decide ((S.drop q).head?=some 46):=λq=>vT (S.drop q) 46 (by decide);have hd:∀b,b=(dts (S.drop p))->(some (if b then(1:Int)else 0))=some (if dts (S.drop p)then 1 else 0):=λb h=>by rw[h]
 simp only[Ir,ob,d,e];rw[<-jr];unfold dts
 match S.drop p with
 | []=>rfl
 | [a]=>
  by_cases h:a=46
  ·subst h;rfl
  ·simp[h]
 | a::b::r=>
  by_cases h:a=46
  ·by_cases c:b=46
   ·subst h c;rfl
   ·subst h;simp[c]
  ·simp[h]
def tV(S:aa)(A:Int)(r:DR):HY S A (.inr r)=((tdR r).1,(tdR r).2.1,(tdR r).2.2.1,(tdR r).2.2.2.1,(tdR r).2.2.2.2.1,(tdR r).2.2.2.2.2.1,(tdR r).2.2.2.2.2.2.1,(tdR r).2.2.2.2.2.2.2.1,(tdR r).2.2.2.2.2.2.2.2.1,(tdR r).2.2.2.2.2.2.2.2.2,((plR r:Nat):Int),S,((enR r:Nat):Int),0):=rfl
def xU(S:aa)(A:Int)(f:Nat×Nat×Nat):HY S A (.inl f)=(false,false,[],0,0,[],[],0,0,0,A,S,(f.1:Int),(f.2.1:Int)):=rfl
def Uc(c:UInt8)(hc:c≠0){S:aa}{p:Nat}(hp:p<1000000)(T:aa)(f d h:Int)(e:Bool)(i:List Int)(g:TD)(b a:List TI):
  fk 20000000 S ((c.toNat:Nat):Int) f T (p:Int) d h e i g b a=some (S,((c.toNat:Nat):Int),f,dts (S.drop p)&&!decide ((S.drop (p+2)).head?=some c),T,(p:Int),d,h,e,i,g,b,a):=by
 unfold fk;have j:w64 ((p:Int)+2)=((p+2:Nat):Int):=rf_w 2 (by omega);simp only[Eu 20000000 hp,ob,j,Ir];rw[show(((rat (S.drop (p+2)):Nat):Int) != ((c.toNat:Nat):Int))=!decide ((S.drop (p+2)).head?=some c)from ck _ (vT _ _ hc)];cases dts (S.drop p)<;>rfl
def Ro(b:Bool)(c:Int){S:aa}{p:Nat}(h:p<=S.length)(t:S.length<100000)(o:b=true->dts (S.drop p)=true)(i g:Int)(l:Bool)(j:List Int)(e:TD)(a d:List TI):
  gR 20000000 S c i b S (p:Int) 0 g l j e a d=some (if b=true then(match ch S (p+2)with
   | .inl f=>.inl (S,(f.1:Int),(f.2.1:Int),[])
   | .inr r=>.inr (S,c,i,S,((enR r:Nat):Int),0,g,l,j,e,true,tdR r,a,d))else .inr (S,c,i,S,(p:Int),0,g,l,j,e,false,d0,a,d)):=by
 unfold gR;cases b
 ·rfl
 ·have hd:=o rfl;have m:=lZ hd;have u:w64 ((p:Int)+2)=((p+2:Nat):Int):=rf_w 2 (by omega);obtain⟨A,s⟩:=qy S (p+2) m t;rw[aj,ae rfl,u,s];cases n:ch S (p+2)with
  | inl f=>
   obtain⟨k,E,q⟩:=f;have v:=pI m n;show cond (((E:Nat):Int) != 0) _ _=_;rw[show(((E:Nat):Int) != 0)=true from by simp;omega];rfl
  | inr r=>rfl
def P6(c:UInt8)(hc:c≠0){S:aa}{p:Nat}(h:p<=S.length)(l:S.length<100000)(K:Int)(e:Bool){P:List Nat}(J:List TI){I:List TI}(z:I.length<256)(y:P.length=I.length):
  bY 20000000 (S,((c.toNat:Nat):Int),S,(p:Int),0,K,e,gI P,J,I)=some (match l6 S c p with
   | .inl f=>.inr (.inl (0,d0,0,d0,0,d0,false,false,S,(f.1:Int),(f.2.1:Int),[]))
   | .inr (t,a,b)=>if(S.drop b).head?=some 44 then .inl (S,((c.toNat:Nat):Int),S,((b+1:Nat):Int),0,K,e,gI (P++[a]),J,I++[t])
    else .inr (.inr (S,((c.toNat:Nat):Int),0,d0,0,d0,0,d0,false,false,[],0,0,S,(b:Int),0,K,d0,0,d0,0,d0,e,false,gI (P++[a]),J,I++[t]))):=by
 have d:∀(t:TI) (a b:Nat),b<=S.length->(ob (cR 20000000 S (b:Int)) λg=>(cond (g != 44) (some (.inr (.inr (S,((c.toNat:Nat):Int),0,d0,0,d0,0,d0,false,false,[],0,0,S,(b:Int),0,K,d0,0,d0,0,d0,e,false,(gI P++([(a:Int)]:List (Int))),J,(I++([t]:List TI)))))) (some (.inl (S,((c.toNat:Nat):Int),S,(w64 ((b:Int)+1)),0,K,e,(gI P++([(a:Int)]:List (Int))),J,(I++([t]:List TI))))):Option ((aa×Int×aa×Int×Int×Int×Bool×List (Int)×List TI×List TI)⊕((Int×TD×Int×TD×Int×TD×Bool×Bool×aa×Int×Int×List TI)⊕(aa×Int×Int×TD×Int×TD×Int×TD×Bool×Bool×aa×Int×Int×aa×Int×Int×Int×TD×Int×TD×Int×TD×Bool×Bool×List (Int)×List TI×List TI))))) =
   some (if(S.drop b).head?=some 44 then .inl (S,((c.toNat:Nat):Int),S,((b+1:Nat):Int),0,K,e,gI (P++[a]),J,I++[t])
    else .inr (.inr (S,((c.toNat:Nat):Int),0,d0,0,d0,0,d0,false,false,[],0,0,S,(b:Int),0,K,d0,0,d0,0,d0,e,false,gI (P++[a]),J,I++[t]))):=by
  intro t a b w;have u:gI (P++[a])=gI P++[(a:Int)]:=by simp[gI]
  have x:w64 ((b:Int)+1)=((b+1:Nat):Int):=rf_w 1 (by omega);rw[Ir,u,x];simp only[ob];rw[show(((rat (S.drop b):Nat):Int) != 44)=!decide ((S.drop b).head?=some 44)from ck _ (vT _ 44 (by decide))];by_cases hc:(S.drop b).head?=some 44
  ·rw[ae hc,aq hc];rfl
  ·rw[ab hc,am hc];rfl
 unfold bY;simp only[u10,u9,u8,u7,u6,u5,u4,u3,u2];obtain⟨A,o⟩:=qy S p h l;rw[show(len I==256)=false from by show(((I.length:Nat):Int)==256)=false;simp;omega,af,o];unfold l6;cases i:ch S p with
 | inl f=>
  obtain⟨k,E,q⟩:=f;have B:=pI h i;show cond (((E:Nat):Int) != 0) _ _=_;rw[show(((E:Nat):Int) != 0)=true from by simp;omega];rfl
 | inr r=>
  obtain⟨C,_,D,n⟩:=gU h i;rw[tV];show ob (fk 20000000 S ((c.toNat:Nat):Int) ((plR r:Nat):Int) S ((enR r:Nat):Int) 0 K e (gI P) (tdR r) J I) _=_;rw[Uc c hc (by omega)];simp only[ob,u13,u12,u11,u10,u9,u8,u7,u6,u5,u4,u3,u2];rw[Ro _ _ n l (λh=>by simp at h;exact h.1)];have m:(dts (S.drop (enR r))&&!decide ((S.drop (enR r+2)).head?=some c))=true↔(dts (S.drop (enR r))=true/\(S.drop (enR r+2)).head?≠some c):=by simp
  by_cases hd:dts (S.drop (enR r))=true/\(S.drop (enR r+2)).head?≠some c
  ·rw[ae (m.2 hd),ae hd];cases v:ch S (enR r+2)with
   | inl f=>rfl
   | inr j=>
    obtain⟨F,_,l3,s⟩:=gU (lZ hd.1) v;simp only[obs,sm,ob,u14,u13,u12,u11,u10,u9,u8,u7,u6,u5,u4,u3,u2];rw[pE (by omega),pE (by simp;omega)];exact d (mkI (tdR r) true (tdR j)) (plR r) (enR j) s
  ·rw[ab (λh=>hd (m.1 h)),ab hd];simp only[obs,sm,ob,u14,u13,u12,u11,u10,u9,u8,u7,u6,u5,u4,u3,u2];rw[pE (by omega),pE (by simp;omega)];exact d (mkI (tdR r) false d0) (plR r) (enR r) n
def P4(c p:Int)(S:aa)(K:Int)(e:Bool)(P:List Int)(J:List TI){I:List TI}(a:I.length=256):
  bY 20000000 (S,c,S,p,0,K,e,P,J,I)=some (.inr (.inl (0,d0,0,d0,0,d0,false,false,S,p,3,[]))):=by
 unfold bY;simp only[u10,u9,u8,u7,u6,u5,u4,u3,u2];rw[show(len I==256)=true from by show(((I.length:Nat):Int)==256)=true;rw[a];rfl];rfl
def rfLo(S:aa)(c:UInt8)(K:Int)(e:Bool)(J:List TI):(Nat×Nat×Nat)⊕(Nat×List Nat×List TI)->(Int×TD×Int×TD×Int×TD×Bool×Bool×aa×Int×Int×List TI)⊕(aa×Int×Int×TD×Int×TD×Int×TD×Bool×Bool×aa×Int×Int×aa×Int×Int×Int×TD×Int×TD×Int×TD×Bool×Bool×List (Int)×List TI×List TI)
 | .inl f=>.inl (0,d0,0,d0,0,d0,false,false,S,(f.1:Int),(f.2.1:Int),[])
 | .inr (p,P,I)=>.inr (S,((c.toNat:Nat):Int),0,d0,0,d0,0,d0,false,false,[],0,0,S,(p:Int),0,K,d0,0,d0,0,d0,e,false,gI P,J,I)
def Qs(c:UInt8)(hc:c≠0){S:aa}(h:S.length<100000)(K:Int)(e:Bool)(J:List TI):∀(r p:Nat) (P:List Nat) (I:List TI),I.length+r=256->p<=S.length->P.length=I.length->∀N,r<N->
  au (bY 20000000) N (S,((c.toNat:Nat):Int),S,(p:Int),0,K,e,gI P,J,I)=some (rfLo S c K e J (lM S c r p P I)):=by
 intro r
 induction r with
 | zero=>
  intro p P I g hp b N j;obtain⟨N,rfl⟩:∃k,N=k+1:=⟨N - 1,by omega⟩;rw[au,P4 _ _ S K e _ J (by omega)];rfl
 | succ r ih=>
  intro p P I g hp b N j;obtain⟨N,rfl⟩:∃k,N=k+1:=⟨N - 1,by omega⟩;rw[au,P6 c hc hp h K e J (by omega) b,lM];cases i:l6 S c p with
  | inl f=>rfl
  | inr q=>
   obtain⟨t,a,d⟩:=q;obtain⟨_,m,l⟩:=xa hp i;simp only[];by_cases hc:(S.drop d).head?=some 44
   ·rw[ae hc,ae hc];exact ih (d+1) (P++[a]) (I++[t]) (by simp;omega) (fD hc) (by simp[b]) N (by omega)
   ·rw[ab hc,ab hc];rfl
def LL(S:aa):(Nat×Nat×Nat)⊕(Int×Bool×Bool×List TI×Nat)->Int×TD×Int×TD×Int×TD×Bool×Bool×aa×Int×Int×List TI
 | .inl f=>(0,d0,0,d0,0,d0,false,false,S,(f.1:Int),(f.2.1:Int),[])
 | .inr (K,e,l,I,p)=>(K,d0,0,d0,0,d0,e,l,S,(p:Int),0,I)
def SB(n:Nat)(S:aa)(c:Int)(b:Bool)(p:Nat)(hp:p<1000000)(u:Int)(x:TD)(v:Int)(w:TD)(z:Int)(y:TD)(t s:Bool)(m:aa)(l e:Int)(a:aa)(x16 h:Int)(j:TD)(q:Int)(f:TD)(g:Int)(o:TD)(d:Bool)(r:List Int)(i k:List TI):
  fw n S c b u x v w z y t s m l e a (p:Int) x16 h j q f g o d false r i k=some (S,c,u,x,v,w,z,y,t,s,m,l,e,a,((if b then p+2 else p:Nat):Int),x16,h,j,q,f,g,o,d,b,r,i,k):=by
 unfold fw;cases b
 ·rfl
 ·rw[aj,show w64 ((p:Int)+2)=((p+2:Nat):Int)from rf_w 2 (by omega)];rfl
def UJ {S:aa} (B:S.length<100000) {K:Int} (s:K=3\/K=4) (e:Bool) {p:Nat} (hp:p<=S.length) {P:List Nat} {I:List TI} (y:P.length=I.length) (v:1<=I.length) (hs:∀t∈I,smI t):
  (ob (cR 20000000 S ((if dts (S.drop p) then p+2 else p:Nat):Int)) λf=>(cond (f != (((endC K).toNat:Nat):Int)) (ob (dj 20000000 S ((if dts (S.drop p) then p+2 else p:Nat):Int) 0 ((if dts (S.drop p) then p+2 else p:Nat):Int) 5) (u3 λd c o=>(some (0,d0,0,d0,0,d0,false,false,d,c,o,([]:List TI))))) (ob (fG 20000000 K d0 0 d0 0 d0 e (dts (S.drop p)) I) (u2 λk n=>(cond (n != 0) (ob (ix (List.length (gI P)) k) λj=>(ob ((gI P)[j]?) λr=>(ob (dj 20000000 S (w64 (((if dts (S.drop p) then p+2 else p:Nat):Int)+1)) 0 r 10) (u3 λb m g=>(some (0,d0,0,d0,0,d0,false,false,b,m,g,([]:List TI))))))) (some (K,d0,0,d0,0,d0,e,(dts (S.drop p)),S,(w64 (((if dts (S.drop p) then p+2 else p:Nat):Int)+1)),0,I))))))) =
   some (LL S (endL S K e p P I)):=by
 have A:(if dts (S.drop p) then p+2 else p:Nat)<=S.length:=by
  split
  ·rename_i h;exact lZ h
  ·exact hp
 unfold endL;generalize (if dts (S.drop p) then p+2 else p:Nat)=q at *;generalize dts (S.drop p)=l;have x:w64 ((q:Int)+1)=((q+1:Nat):Int):=rf_w 1 (by omega);rw [Ir,x];simp only [ob];rw [show (((rat (S.drop q):Nat):Int) != (((endC K).toNat:Nat):Int))=!decide ((S.drop q).head?=some (endC K)) from ck _ (vT _ _ (by unfold endC;split<;>decide))];by_cases hc:(S.drop q).head?=some (endC K)
 ·rw [ae hc,aq hc];simp only [bV,af,Dk (Iy hs),u2];obtain ⟨i,u,z⟩:=Jx s (e:=e) (l:=l) v;show cond ((setE K e l I).2 != 0) (ob (ix (gI P).length (setE K e l I).1) _) _=_;by_cases a:(setE K e l I).2=0
  ·rw [ae a,show ((setE K e l I).2 != 0)=false from by simp [a]];rfl
  ·have hi:i<(gI P).length:=by simp [gI];omega
   rw [ab a,show ((setE K e l I).2 != 0)=true from by simp [a],u,eZ hi];have w:(gI P)[i]?=some ((P.getD i 0:Nat):Int):=by
    have hi':i<P.length:=by omega
    simp [gI,bg hi']
   simp only [aj,ob,w];rfl
 ·rw [ab hc,am hc];rfl
def QA{S:aa}{a:Nat}(h:a<=S.length)(hS:S.length<100000):kE 20000000 S (a:Int)=some (LL S (pp S a)):=by
 have d:∀(K:Int) (hK:K=3\/K=4) (ha:a+1<=S.length),(ob (ee 20000000 S ((a+1:Nat):Int)) λv8=>(ob (fi 20000000 S (((endC K).toNat:Nat):Int) (v8==1) S ((a+1:Nat):Int) K ([]:List TI) ([]:List TI)) (u8 λv9 v10 v11 v12 v13 v14 v15 J=>(obs (au (bY 20000000) 20000000 (v9,v10,v11,v12,0,v13,v14,([]:List (Int)),v15,J)) (u12 λQ Z v19 G V v22 C v24 v25 O F v28=>(some (Q,Z,v19,G,V,v22,C,v24,v25,O,F,v28))) (u27 λu v30 v31 D L v34 v35 v36 B v38 v39 N v41 H i v44 v45 v46 W v48 v49 U X v52 v53 v54 Y=>(ob (ee 20000000 u i) λv56=>(ob (fw 20000000 u v30 (v56==1) v31 D L v34 v35 v36 B v38 v39 N v41 H i v44 v45 v46 W v48 v49 U X v52 v53 v54 Y) (u27 λT E _ _ _ _ _ _ _ _ _ _ _ g c e l s w m v r j y n _ x=>(ob (cR 20000000 T c) λv72=>(cond (v72 != E) (ob (dj 20000000 g c e c 5) (u3 λA R v75=>(some (0,d0,0,d0,0,d0,false,false,A,R,v75,([]:List TI))))) (ob (fG 20000000 l s w m v r j y x) (u2 λv76 v77=>(cond (v77 != 0) (ob (ix (List.length n) v76) λv78=>(ob (n[v78]?) λM=>(ob (dj 20000000 g (w64 (c+1)) e M 10) (u3 λz v81 v82=>(some (0,d0,0,d0,0,d0,false,false,z,v81,v82,([]:List TI))))))) (some (l,s,w,m,v,r,j,y,g,(w64 (c+1)),e,x))))))))))))))) =
   some (LL S (uK S a K)):=by
  intro K hK ha;have one:∀b:Bool,((if b then(1:Int)else 0)==1)=b:=by decide
  have hj:fi 20000000 S (((endC K).toNat:Nat):Int) (dts (S.drop (a+1))) S ((a+1:Nat):Int) K ([]:List TI) ([]:List TI)=some (S,(((endC K).toNat:Nat):Int),S,((if dts (S.drop (a+1))then a+3 else a+1:Nat):Int),K,dts (S.drop (a+1)),[],[]):=by
   unfold fi;cases dts (S.drop (a+1))
   ·rfl
   ·rw[aj,show w64 (((a+1:Nat):Int)+2)=((a+1+2:Nat):Int)from rf_w 2 (by omega)];rfl
  have hp:(if dts (S.drop (a+1))then a+3 else a+1:Nat)<=S.length:=by
   split
   ·rename_i h;have:=lZ h;omega
   ·exact ha
  have hl:=Qs (endC K) (by unfold endC;split<;>decide) hS K (dts (S.drop (a+1))) [] 256 (if dts (S.drop (a+1))then a+3 else a+1) [] [] (by simp) hp rfl 20000000 (by omega);simp only[Eu 20000000 (show a+1<1000000 by omega),one,hj,ob,u8,u7,u6,u5,u4,u3,u2];rw[show au (bY 20000000) 20000000 (S,(((endC K).toNat:Nat):Int),S,((if dts (S.drop (a+1))then a+3 else a+1:Nat):Int),0,K,dts (S.drop (a+1)),([]:List Int),([]:List TI),([]:List TI))=_ from hl];unfold uK;cases hr:lM S (endC K) 256 (if dts (S.drop (a+1))then a+3 else a+1) [] []with
  | inl f=>rfl
  | inr q=>
   obtain⟨p,P,I⟩:=q;obtain⟨q1,q2,q3,q4,q5⟩:=sJ 256 _ [] [] hp rfl (λt ht=>by cases ht) hr;have q3':1<=I.length:=by rw[iy]at q3;omega
   simp only[rfLo,obs,sm,ob,u27,u26,u25,u24,u23,u22,u21,u20,u19,u18,u17,u16,u15,u14,u13,u12,u11,u10,u9,u8,u7,u6,u5,u4,u3,u2,Eu 20000000 (show p<1000000 by omega),one,SB _ _ _ _ p (show p<1000000 by omega)];exact UJ hS hK (dts (S.drop (a+1))) q1 q2 q3' q5
 have hw:w64 ((a:Int)+1)=((a+1:Nat):Int):=rf_w 1 (by omega);unfold kE pp;rw[Ir,hw];simp only[ob];unfold ki;rw[show(((rat (S.drop a):Nat):Int)==91)=decide ((S.drop a).head?=some 91)from vT _ 91 (by decide),show(((rat (S.drop a):Nat):Int)==123)=decide ((S.drop a).head?=some 123)from vT _ 123 (by decide)];by_cases o:(S.drop a).head?=some 91
 ·rw[ae o,aq o];exact d 3 (.inl rfl) (fD o)
 ·rw[ab o,am o];by_cases k:(S.drop a).head?=some 123
  ·rw[ae k,aq k];exact d 4 (.inr rfl) (fD k)
  ·rw[ab k,am k];rfl
def Hf{S:aa}{en:UInt8}{p:Nat}(h:p<=S.length){f:Nat×Nat×Nat}(a:l6 S en p=.inl f):f.2.1≠0:=by
 unfold l6 at a;cases c:ch S p with
 | inl g=>rw[c]at a;cases a;exact pI (k:=f.1) (E:=f.2.1) (p:=f.2.2) h c
 | inr r=>
  rw[c]at a;simp only[]at a;split at a
  ·rename_i hd;cases b:ch S (enR r+2)with
   | inl g=>rw[b]at a;cases a;exact pI (k:=f.1) (E:=f.2.1) (p:=f.2.2) (lZ hd.1) b
   | inr d=>rw[b]at a;cases a
  ·cases a
def yx{S:aa}{en:UInt8}:∀(r p:Nat) (P:List Nat) (I:List TI),p<=S.length->∀{f:Nat×Nat×Nat},lM S en r p P I=.inl f->f.2.1≠0
 | 0,p,P,I,_,f,e=>by cases e;simp
 | r+1,p,P,I,h,f,e=>by
  rw[lM]at e;cases b:l6 S en p with
  | inl g=>rw[b]at e;cases e;exact Hf h b
  | inr q=>
   obtain⟨t,a,d⟩:=q;rw[b]at e;simp only[]at e;split at e
   ·rename_i c;exact yx r (d+1) _ _ (fD c) e
   ·cases e
structure SetOK(S:aa)(K:Int)(e l:Bool)(I:List TI)(p:Nat):Prop where
 kind:K=3\/K=4
 sm:∀t∈I,smI t
 ok:(setE K e l I).2=0
 one:1<=I.length
 most:I.length<=256
 le:p<=S.length
def ME{S:aa}{a:Nat}(h:a<=S.length){K:Int}{e l:Bool}{I:List TI}{p:Nat}(b:pp S a=.inr (K,e,l,I,p)):SetOK S K e l I p:=by
 have c:∀g:Int,g=3\/g=4->a+1<=S.length->uK S a g=.inr (K,e,l,I,p)->SetOK S K e l I p:=by
  intro g r n b;unfold uK at b;have hp:(if dts (S.drop (a+1))then a+3 else a+1:Nat)<=S.length:=by
   split
   ·rename_i h;have:=lZ h;omega
   ·exact n
  cases d:lM S (endC g) 256 (if dts (S.drop (a+1))then a+3 else a+1) [] []with
  | inl f=>rw[d]at b;cases b
  | inr q=>
   obtain⟨i,P,J⟩:=q;obtain⟨v,w,m,k,o⟩:=sJ 256 _ [] [] hp rfl (λt s=>by cases s) d;rw[d]at b;simp only[]at b;unfold endL at b;generalize(if dts (S.drop i)then i+2 else i:Nat)=u at b;split at b
   ·rename_i hc;split at b
    ·rename_i j;cases b;rw[iy]at m k;exact⟨r,o,j,by omega,by omega,fD hc⟩
    ·cases b
   ·cases b
 unfold pp at b;split at b
 ·rename_i d;exact c 3 (.inl rfl) (fD d) b
 ·split at b
  ·rename_i d;exact c 4 (.inr rfl) (fD d) b
  ·cases b
def xd{S:aa}{a:Nat}(h:a<=S.length){f:Nat×Nat×Nat}(b:pp S a=.inl f):f.2.1≠0:=by
 have c:∀e:Int,a+1<=S.length->uK S a e=.inl f->f.2.1≠0:=by
  intro e j b;unfold uK at b;have hp:(if dts (S.drop (a+1))then a+3 else a+1:Nat)<=S.length:=by
   split
   ·rename_i h;have:=lZ h;omega
   ·exact j
  cases d:lM S (endC e) 256 (if dts (S.drop (a+1))then a+3 else a+1) [] []with
  | inl g=>rw[d]at b;cases b;exact yx 256 _ _ _ hp d
  | inr q=>
   obtain⟨i,P,J⟩:=q;rw[d]at b;simp only[]at b;unfold endL at b;generalize(if dts (S.drop i)then i+2 else i:Nat)=k at b;split at b
   ·split at b
    ·cases b
    ·cases b;simp
   ·cases b;simp
 unfold pp at b;split at b
 ·rename_i d;exact c 3 (fD d) b
 ·split at b
  ·rename_i d;exact c 4 (fD d) b
  ·cases b;simp
noncomputable def xy(S:aa):(Nat×Nat)⊕(Int×Bool×Bool×List TI):=match pp S 0 with
 | .inl f=>.inl (f.1,f.2.1)
 | .inr (K,e,l,I,p)=>if p<S.length then .inl (p,5)else .inr (K,e,l,I)
def Bl{x:TD}(hs:smT x)(hc:cF x=0):∃(g l:Bool) (dg:aa) (e q:Nat) (m d:aa) (a b c:Nat),x=(g,l,dg,(e:Int),(q:Int),m,d,(a:Int),(b:Int),(c:Int))/\OkD g l dg e q m d a b c:=by
 have h:=vo hc;obtain⟨g,l,dg,e,q,m,d,k0,k1,k2⟩:=x;obtain⟨r,p,a,b,c,n,f,k,j,i,o⟩:=Ut hs.2.2.2.1 hs.2.2.2.2.1 hs.2.2.2.2.2 h;simp only at n f k j i;subst n f k j i;exact⟨_,_,_,_,_,_,_,_,_,_,rfl,o⟩
structure SetP(K:Int)(D:TD)(KF:Int)(DF:TD)(KT:Int)(DT:TD)(e l:Bool)(I:List TI):Prop where
 kind:K=3\/K=4
 d:D=d0
 kf:KF=0
 df:DF=d0
 kt:KT=0
 dt:DT=d0
 one:1<=I.length
 most:I.length<=256
 its:∀t∈I,itI t (K==4)=0
 set:(setE K e l I).2=0
def yB{A:Type}{f:Nat->A->Int}:∀{L:List A} {k:Nat},nz f k L=none->∀t∈L,∃i,f i t=0
 | u::L,k,h,t,a=>by
  rw[nz]at h;split at h
  ·cases h
  ·rename_i b;rcases cT.1 a with rfl | a
   ·exact⟨k,Lc.1 b⟩
   ·exact yB h t a
def F5{A:Type}{f:Nat->A->Int}:∀{L:List A} {k:Nat} {p:Nat×Int},nz f k L=some p->p.2≠0
 | u::L,k,p,h=>by
  rw[nz]at h;split at h
  ·rename_i a;cases h;exact a
  ·exact F5 h
def S1{K:Int}{e l:Bool}{n i:Nat}{t:TI}(h:errI K e l n i t=0):itI t (K==4)=0:=by
 unfold errI at h;split at h
 ·rename_i a;exact absurd h a
 ·rename_i a;exact Lc.1 a
def Ik{K:Int}(g:K=3\/K=4){D:TD}{KF:Int}{DF:TD}{KT:Int}{DT:TD}{e l:Bool}{I:List TI}(h:(ma K D KF DF KT DT e l I).2=0):SetP K D KF DF KT DT e l I:=by
 have k:=h;unfold ma at h;rw[ab (by omega)]at h;split at h
 ·simp at h
 ·rename_i f;rw[ab (by omega),ab (by omega)]at h;split at h
  ·simp at h
  ·split at h
   ·simp at h
   ·unfold wq at h;have n:D=d0/\KF=0/\DF=d0/\KT=0/\DT=d0:=by
     unfold unuB at f;have k1:(K==1)=false:=by rcases g with rfl | rfl<;>rfl
     have k2:(K==2)=false:=by rcases g with rfl | rfl<;>rfl
     have m:(K==3||(K==4||(decide (I.length=0)&&(!e&&!l))))=true:=by rcases g with rfl | rfl<;>rfl
     rw[k1,k2,m]at f;generalize q:eqD D d0=z1 at f;generalize j:eqD DF d0=z2 at f;generalize o:eqD DT d0=s at f;simp only[od,bV,wy,BH,ie,kC,not_or,Bool.not_eq_false,aB,bv]at f;obtain⟨a,⟨b,c⟩,d,e⟩:=f;exact⟨o7.1 (q.trans a),b,o7.1 (j.trans c),d,o7.1 (o.trans e)⟩
    obtain⟨rfl,rfl,rfl,rfl,rfl⟩:=n;cases hs:nz (errI K e l I.length) 0 I with
    | some p=>rw[hs]at h;exact absurd h (F5 hs)
    | none=>
     refine⟨g,rfl,rfl,rfl,rfl,rfl,by omega,by omega,λt r=>?_,k⟩;obtain⟨i,hi⟩:=yB hs t r;exact S1 hi
def RU(K:Int):Prop:=K=3\/K=4
instance (K:Int):Decidable (RU K):=inferInstanceAs (Decidable (K=3\/K=4))
def II(K:Int)(D:TD)(KF:Int)(DF:TD)(KT:Int)(DT:TD)(e l:Bool){I:List TI}(b:I.length<=1000000):jZ 20000000 K D KF DF KT DT e l K D KF DF KT DT e l I I=some 1:=by
 unfold jZ;rw[y4 rfl b,ae rfl];have a:∀x:TD,eqD x x=true:=λx=>o7.2 rfl;simp only[a,rO,dX,af,GA,bV,obs,sm,ob]
def Qk(n:Nat)(K:Int)(D:TD)(KF:Int)(DF:TD)(KT:Int)(DT:TD)(c:Nat)(e l:Bool)(z:Int)(y:TD)(b:Int)(g:TD)(f:Int)(d:TD)(A B:Bool)(I J:List TI):
  fQ n K D KF DF KT DT I.length c e l z y b g f d A B I J=jZ n K D KF DF KT DT e l z y b g f d A B I J:=by
 unfold fQ jZ;have:=xe (s:=dm n) (s':=fJ n) (u19 λh a x E H F G M L C w v r m k p x16 o q=>(h,a,x,E,H,F,G,M,L,a.length,c,C,w,v,r,m,k,p,x16,o,q)) id (by
  rintro⟨h,a,x,E,H,F,G,M,L,C,w,v,r,m,k,p,x16,o,q⟩;unfold dm fJ;simp only[u21,u20,u19,u18,u17,u16,u15,u14,u13,u12,u11,u10,u9,u8,u7,u6,u5,u4,u3,u2,LN];rw[show decide (h<((a.length:Nat):Int))=decide (h<len a)from rfl];cases decide (h<len a)
  ·rfl
  ·simp only[aj];cases ix a.length h with
   | none=>rfl
   | some i=>
    simp only[ob];cases a[i]? with
    | none=>rfl
    | some t=>
     simp only[ob];cases ix x.length h with
     | none=>rfl
     | some j=>
      simp only[ob];cases x[j]? with
      | none=>rfl
      | some u=>
       simp only[ob];cases decide (t=u)<;>rfl) n (0,I,J,K,D,KF,DF,KT,DT,e,l,z,y,b,g,f,d,A,B)
 simp only[u19,u18,u17,u16,u15,u14,u13,u12,u11,u10,u9,u8,u7,u6,u5,u4,u3,u2,Option.map_id,id]at this;rw[this]
def Bm(K:Int)(D:TD)(KF:Int)(DF:TD)(KT:Int)(DT:TD)(c:Nat)(e l:Bool){I:List TI}(a:I.length<=1000000):fQ 20000000 K D KF DF KT DT I.length c e l K D KF DF KT DT e l I I=some 1:=
 (Qk _ _ _ _ _ _ _ _ _ _ _ _ _ _ _ _ _ _ _ _).trans (II K D KF DF KT DT e l a)
def V4{c:UInt8}(h:mkOf c≠0):mt (mkOf c)=[c]:=by
 unfold mkOf at h ⊢;by_cases b:c=63
 ·subst b;rfl
 ·rw[ab b]at h ⊢;by_cases a:c=126
  ·subst a;rfl
  ·rw[ab a]at h ⊢;by_cases d:c=37
   ·subst d;rfl
   ·rw[ab d]at h;exact absurd rfl h
def QL(l:aa):l=mt (mkS l)++l.drop (mkN l):=by
 cases l with
 | nil=>rfl
 | cons c r=>
  unfold mkN;show c::r=mt (mkOf c)++_;by_cases h:mkOf c=0
  ·rw[ae (show mkS (c::r)=0 from h),h];rfl
  ·rw[ab (show¬mkS (c::r)=0 from h),V4 h];rfl
def F3(S:aa)(p:Nat):S.drop p=mt (mkS (S.drop p))++S.drop (mkE S p):=by
 have:=QL (S.drop p);rw[jr]at this;exact this
def IX(S:aa)(p:Nat):mkE S p=p+(mt (mkS (S.drop p))).length:=by
 unfold mkE mkN;have a:=BC (S.drop p);generalize mkS (S.drop p)=k at *;rcases(by omega:k=0\/k=1\/k=2\/k=3)with rfl | rfl | rfl | rfl<;>rfl
def Bo{S:aa}{p:Nat}(h:¬twoN (S.drop p)<2):S.drop p=(S.drop p).take 2++S.drop (p+2)/\((S.drop p).take 2).length=2/\∀c∈(S.drop p).take 2,isDX c=true:=by
 have b:=uA h;have a:twoN (S.drop p)=2:=by
  have:twoN (S.drop p)<=2:=by
   unfold twoN;have:∀(k:Nat) (l:aa),bq isDX k l<=k:=by
    intro k
    induction k with
    | zero=>intro l;cases l<;>simp[bq]
    | succ k ih=>
     intro l;cases l with
     | nil=>simp[bq]
     | cons c r=>
      simp only[bq];split
      ·have:=ih r;omega
      ·omega
   exact this 2 _
  omega
 refine⟨by rw[<-jr];exact(tu 2 _).symm,by simp;omega,?_⟩;have:=ya (p:=isDX) 2 (S.drop p);rw[show bq isDX 2 (S.drop p)=2 from a]at this;exact this
def xP{S:aa}{p:Nat}(h:¬dI 45 (S.drop p)=0):S.drop p=45::S.drop (p+1):=by
 cases hd:S.drop p with
 | nil=>rw[hd]at h;exact absurd rfl h
 | cons c r=>
  rw[hd,jP]at h;by_cases hc:c=45
  ·subst hc;rw[<-jr,hd];rfl
  ·rw[ab hc]at h;exact absurd rfl h
def tz{S:aa}{p k:Nat}{w:aa}(h:S.drop (mkE S p)=w++S.drop (mkE S p+k)):S.drop p=jh (mkS (S.drop p)) (mkS (S.drop (mkE S p+k))) w++S.drop (mkE S (mkE S p+k)):=by
 unfold jh;rw[lK,lK,<-F3,<-h,<-F3]
def A9{S:aa}{a:Nat}{g l:Bool}{dg:aa}{x s:Nat}{m d:aa}{M P:Nat×Nat×Nat}{e:Nat}(b:oh S a=.inr (g,l,dg,x,s,m,d,M,P,e)):
  ∃A B,MkD A B m d/\M=spM A B/\P.1=a+(mt A.1).length/\S.drop a=rawD A B g l dg (x:Int) (s:Int) m d++S.drop e:=by
 unfold oh at b;cases hy:mO (S.drop (mkE S a))with
 | inl k=>rw[hy]at b;cases b
 | inr y=>
  obtain⟨H,K,t,J,s',k⟩:=y;obtain⟨D,O,_⟩:=pT hy;have C:S.drop (mkE S a)=nq H K t (J:Int) (s':Int)++S.drop (mkE S a+k):=by
   rw[<-D,<-jr];exact(tu k _).symm
  have w0:=tz C;have c:=λp=>BC (S.drop p);rw[hy]at b;simp only[]at b;by_cases q:0<s'\/dI 45 (S.drop (mkE S (mkE S a+k)))=0
  ·rw[ae q]at b;simp only[nI,bi]at b;obtain⟨rfl,rfl,rfl,rfl,rfl,rfl,rfl,rfl,rfl,rfl⟩:=b;refine⟨(mkS (S.drop a),0,0),(mkS (S.drop (mkE S a+k)),0,0),⟨c _,by simp,by simp,c _,by simp,by simp,λ_=>⟨rfl,rfl⟩,λ_=>⟨rfl,rfl⟩⟩,rfl,IX S a,?_⟩;unfold rawD;simpa using w0
  ·rw[ab q]at b;have v:=xP (λh=>q (.inr h));unfold rd2 at b;simp only[]at b;generalize E:mkE S (mkE S a+k)=i at *;by_cases u:twoN (S.drop (mkE S (i+1)))<2
   ·rw[ae u]at b;cases b
   rw[ab u]at b;obtain⟨G,z,Q⟩:=Bo u;have w:=tz G;have f:(S.drop (mkE S (i+1))).take 2≠[]:=λh=>by rw[h]at z;simp at z
   by_cases r:dI 45 (S.drop (mkE S (mkE S (i+1)+2)))=0
   ·rw[ae r]at b;simp only[nI,bi]at b;obtain⟨rfl,rfl,rfl,rfl,rfl,rfl,rfl,rfl,rfl,rfl⟩:=b;refine⟨(mkS (S.drop a),mkS (S.drop (i+1)),0),(mkS (S.drop (mkE S a+k)),mkS (S.drop (mkE S (i+1)+2)),0),⟨c _,c _,by simp,c _,c _,by simp,λh=>absurd h f,λ_=>⟨rfl,rfl⟩⟩,rfl,IX S a,?_⟩;unfold rawD;rw[ab f,ae rfl,nW,lK,dq,<-w,<-v];exact w0
   ·rw[ab r]at b;have N:=xP r;unfold rd3 at b;generalize F:mkE S (mkE S (i+1)+2)=n at *;by_cases o:twoN (S.drop (mkE S (n+1)))<2
    ·rw[ae o]at b;cases b
    rw[ab o]at b;obtain⟨I,u2,u3⟩:=Bo o;have L:=tz I;have j:(S.drop (mkE S (n+1))).take 2≠[]:=λh=>by rw[h]at u2;simp at u2
    simp only[nI,bi]at b;obtain⟨rfl,rfl,rfl,rfl,rfl,rfl,rfl,rfl,rfl,rfl⟩:=b;refine⟨(mkS (S.drop a),mkS (S.drop (i+1)),mkS (S.drop (n+1))),(mkS (S.drop (mkE S a+k)),mkS (S.drop (mkE S (i+1)+2)),mkS (S.drop (mkE S (n+1)+2))),⟨c _,c _,c _,c _,c _,c _,λh=>absurd h f,λh=>absurd h j⟩,rfl,IX S a,?_⟩;unfold rawD;rw[ab f,ab j,lK,lK,dq,dq,<-L,<-N,<-w,<-v];exact w0
def okC(c:UInt8):Bool:=isDX c||(isMk c||(c==45||(c==89||(c==69||c==83))))
def isLv(c:UInt8):Bool:=c==69||(c==83||isMk c)
def P7:∀c:UInt8,(!okC c||decide (c.toNat<128))=true:=iJ (λc=>!okC c||decide (c.toNat<128)) (by decide +kernel)
def RZ{c:UInt8}(h:okC c=true):c.toNat<128:=by
 have:=P7 c;rw[h]at this;simpa using this
def dgC(c:UInt8):UInt8:=if bm c then 100 else c
def TB:∀c:UInt8,(!decide (c.toNat<128)||(decide (0<=nS (c.toNat:Int))&&(Lib.encodeRune (nS (c.toNat:Int))==[dgC c])))=true:=
 iJ (λc=>!decide (c.toNat<128)||(decide (0<=nS (c.toNat:Int))&&(Lib.encodeRune (nS (c.toNat:Int))==[dgC c]))) (by decide +kernel)
def HF:∀{l:aa},(∀c∈l,c.toNat<128)->yq l=l.map dgC:=by
 have a:∀(n:Nat) (l:aa),l.length=n->(∀c∈l,c.toNat<128)->Lib.mapGoD nS n l=l.map dgC:=by
  intro n
  induction n with
  | zero=>intro l b _;rw[xw b];rfl
  | succ n ih=>
   intro l b h;cases l with
   | nil=>simp at b
   | cons c r=>
    have hd:Lib.decodeL (c::r)=(c.toNat,1):=Ao (l:=c::r) (i:=0) rfl (h c rU);rw[Lib.mapGoD,ab (by simp),hd];have:=TB c;rw[aq (h c rU)]at this;simp only[bV,od,aB,ci,bv]at this;rw[ae this.1,this.2];rw[show(c::r).drop 1=r from rfl,ih r (by simpa using b) (λd hd=>h d (gW _ hd))];rfl
 intro l h;exact a l.length l rfl h
def wF(s a:aa):Lib.containsAny s a=s.any (a.contains ·):=by
 induction s with
 | nil=>rfl
 | cons b l ih=>
  unfold Lib.containsAny at ih ⊢;have d:=Lib.indexAny_ge a l;rw[Lib.indexAny,qx];cases c:a.contains b
  ·rw[ab (by simp),od,<-ih];by_cases h:Lib.indexAny l a=-1
   ·rw[ae (by simp[h]),h]
   ·rw[ab (by simp[h])];congr 1;exact propext (by omega)
  ·simp
def uJ(u:aa):aa:=match u with | c::r=>if c=45 then r else c::r | []=>[]
def jn:List (aa):=[[100,100,100,88],[100,100,88,88],[100,100,100,100,45,88,88],[100,100,100,100,45,100,100,45,88,88],[100,100,100,100,45,88,88,45,88,88]]
def simB(v:aa):Bool:=jn.contains (v.map dgC)
def Nj(n:Nat)(u:aa):iz n u=some (uJ u):=by
 unfold iz fC eN uJ;cases u with
 | nil=>rfl
 | cons c r=>
  have a:bx (c::r).length (1:Int)=some 1:=fe (i:=1) (by simp);rw[aq (show(((c::r).length:Nat):Int)>=1 by rw[aP];omega),aj,a];simp only[ob,oI,nA,cg];by_cases hc:c=45
  ·subst hc;rw[ae rfl];simp
  ·rw[ab hc,show(([c]:aa)==[45])=false from by simp[hc]];rfl
def Vn(n:Nat)(u:aa):cA n u=some (decide (u.head?=some 89)):=by
 unfold cA eX;cases u with
 | nil=>rfl
 | cons c r=>
  have a:bx (c::r).length (1:Int)=some 1:=fe (i:=1) (by simp);rw[aq (show(((c::r).length:Nat):Int)>=1 by rw[aP];omega),aj,a];simp only[ob,oI,nA,cg,uB,ar];rw[show(([c]:aa)==[89])=decide (c=89)from by rw[re];simp]
def xB(v:aa):cN 20000000 v jn=some (jn.contains v):=by
 have c:∀(r i:Nat),i+r=5->∀N,r<N->au (bh 20000000) N (v,5,(i:Int),jn)=some (if(jn.drop i).contains v then .inl ((i+(jn.drop i).idxOf v:Nat):Int)else .inr ()):=by
  intro r
  induction r with
  | zero=>
   intro i hi N g;obtain⟨N,rfl⟩:∃k,N=k+1:=⟨N - 1,by omega⟩;obtain rfl:i=5:=by omega
   rw[au];rfl
  | succ r ih=>
   intro i hi N g;obtain⟨N,rfl⟩:∃k,N=k+1:=⟨N - 1,by omega⟩;have a:i<jn.length:=by show i<5;omega
   have e:=bg a;have:bh 20000000 (v,5,(i:Int),jn)=some (if v=jn[i]then .inr (.inl (i:Int))else .inl (v,5,((i+1:Nat):Int),jn)):=by
    unfold bh;simp only[];rw[aq (show(i:Int)<5 by omega),aj,eZ a];simp only[ob,e];rw[show wrap .i64 ((i:Int)+1)=((i+1:Nat):Int)from tL (by omega),jy];split<;>rfl
   rw[au,this,qd a];by_cases b:v=jn[i]
   ·rw[ae b];simp only[];rw[<-b];simp
   ·rw[ab b];simp only[];rw[ih (i+1) (by omega) N (by omega)];have f:(jn[i]==v)=false:=by simp;exactλh=>b h.symm
    have d:(v==jn[i])=false:=by simp;exact b
    rw[List.contains_cons,d,od,List.idxOf_cons,f];simp only[af];rw[show i+1+List.idxOf v (List.drop (i+1) jn)=i+(List.idxOf v (List.drop (i+1) jn)+1)by omega]
 have:=c 5 0 rfl 20000000 (by omega);unfold cN eG;rw[show au (bh 20000000) 20000000 (v,(((List.length jn):Nat):Int),0,jn)=_ from this];rw[cg];cases h:jn.contains v
 ·rfl
 ·simp only[aH,ob];rw[aq (by omega)]
def lvl(u:aa)(b X:Bool)(code:Int):Int:=
 if u.any isLv then 2 else if 24<code then 2 else if(X&&!simB (uJ u))=true then 2
 else if b=true\/X=true\/0<code\/u.head?=some 45\/u.head?=some 89 then 1 else 0
structure Body(T u:aa)(k:Nat):Prop where
 eq:T=u++mt k
 k4:k<4
 last:∃v z,u=v++[z]/\isMk z=false
 asc:∀c∈T,c.toNat<128
 len:T.length<=1000
def Body.ne{T u:aa}{k:Nat}(h:Body T u k):u≠[]:=by
 obtain⟨v,z,rfl,_⟩:=h.last;simp
def Body.ascu{T u:aa}{k:Nat}(h:Body T u k):∀c∈u,c.toNat<128:=λc hc=>h.asc c (by rw[h.eq];exact List.mem_append_left _ hc)
def Body.lenu{T u:aa}{k:Nat}(h:Body T u k):u.length<=1000:=by
 have:=h.len;rw[h.eq,bW]at this;omega
def OH(c:UInt8):([63,126,37]:aa).contains c=isMk c:=by
 have:=iJ (λc=>([63,126,37]:aa).contains c==isMk c) (by decide +kernel) c;simpa using this
def UZ{k:Nat}(h:k<4):∀c∈mt k,isMk c=true/\c≠69/\c≠83/\c≠88:=by
 rcases(by omega:k=0\/k=1\/k=2\/k=3)with rfl | rfl | rfl | rfl<;>simp[mt,isMk,mkOf]
def KA{p:UInt8->Bool}:∀{l:aa},(∀c∈l,p c=true)->l.dropWhile p=[]
 | [],_=>rfl
 | c::l,h=>by rw[List.dropWhile_cons,h c rU];exact KA λd hd=>h d (gW _ hd)
def vN{T u:aa}{k:Nat}(h:Body T u k):Lib.trimRightS T [63,126,37]=u:=by
 obtain⟨v,z,rfl,b⟩:=h.last;unfold Lib.trimRightS;rw[h.eq,List.reverse_append,List.reverse_append];have:List.dropWhile (λx=>([63,126,37]:aa).contains x) ((mt k).reverse++([z].reverse++v.reverse))=[z].reverse++v.reverse:=by
  rw[List.dropWhile_append];have a:List.dropWhile (λx=>([63,126,37]:aa).contains x) (mt k).reverse=[]:=by
   refine KA λc hc=>?_;rw[OH];exact(UZ h.k4 c (Em.1 hc)).1
  rw[a];simp only[List.isEmpty_nil,aH,List.reverse_singleton,List.singleton_append];rw[List.dropWhile_cons,OH,b];simp
 rw[this];simp
def SU(c:UInt8):([63,126,37,69,83]:aa).contains c=isLv c:=by
 have:=iJ (λc=>([63,126,37,69,83]:aa).contains c==isLv c) (by decide +kernel) c;simpa using this
def N3(u:aa):(u==uJ u)=!decide (u.head?=some 45):=by
 unfold uJ;cases u with
 | nil=>rfl
 | cons c r=>
  simp only[uB,ar];by_cases hc:c=45
  ·subst hc;rw[ae rfl,aq rfl];simp only[bV,aK,ne_eq];intro h;have:=ck List.length h;simp at this
  ·rw[ab hc,am hc];simp
def JH(u:aa):(uJ u).length<=u.length:=by
 unfold uJ;split
 ·split<;>simp
 ·simp
def JP{u:aa}:∀c∈uJ u,c∈u:=by
 unfold uJ;split
 ·split
  ·intro c hc;exact gW _ hc
  ·intro c hc;exact hc
 ·intro c hc;exact hc
def Dx{T u:aa}{k:Nat}(h:Body T u k):(u==T)=decide (k=0):=by
 rw[h.eq];rcases(by have:=h.k4;omega:k=0\/k=1\/k=2\/k=3)with rfl | rfl | rfl | rfl
 ·simp[mt]
 all_goals
  rw[show decide _=false from rfl,aK];intro e;have:=ck List.length e;simp[mt]at this
def US{T u:aa}{k:Nat}(h:Body T u k){x:TD}(hs:smT x):jX 20000000 T x=some (lvl u (decide (k≠0)) (hasX x.2.2.1||(hasX x.2.2.2.2.2.1||hasX x.2.2.2.2.2.2.1)) (seT x)):=by
 have l:ap10 (bH 20000000) x=some (seT x,decide (0<seT x)):=qk 20000000 _ _ _ _ _ _ _ _ _ _ hs.1;have m:=h.len;have f:=h.lenu;have g:=JH u;have j:vu T [63,126,37]=true:=by
  unfold vu;rw[dF (by omega)];rfl
 have i:zL (uJ u)=true:=dF (by omega);have c3:xm u [63,126,37,69,83]=true:=by
  unfold xm;rw[dF (show u.length<=4294967280 by omega)];have:Ks u=true:=cq.2 λc hc=>dF (h.ascu c hc);rw[this];rfl
 unfold jX;rw[l,fmT hs];simp only[ob,u2,j,aj,vN h,Nj,i,c3,HF (λc hc=>h.ascu c (JP c hc)),wF,SU,Vn];rw[show([[100,100,100,88],[100,100,88,88],[100,100,100,100,45,88,88],[100,100,100,100,45,100,100,45,88,88],[100,100,100,100,45,88,88,45,88,88]]:List (aa))=jn from rfl,xB];simp only[N3,Dx h,Bool.not_not];unfold lvl simB;rw[show(List.any u λx=>isLv x)=u.any isLv from rfl];generalize(hasX x.2.2.1||(hasX x.2.2.2.2.2.1||hasX x.2.2.2.2.2.2.1))=X;generalize jn.contains ((uJ u).map dgC)=F;cases u.any isLv
 ·simp only[af,bs,aC];by_cases b:24<seT x
  ·rw[ae b,aq (show 0<seT x by omega),aq (show seT x>=25 by omega)];rfl
  ·rw[ab b,am (show¬seT x>=25 by omega)];have a:(cond (decide (u.head?=some 45)) (some (1:Int)) (cond (decide (u.head?=some 89)) (some 1) (cond (!decide (k=0)) (some 1) (cond (decide (0<seT x)) (some 1) (cond X (some 1) (some 0))))))=some (if decide (k≠0)=true\/X=true\/0<seT x\/u.head?=some 45\/u.head?=some 89 then 1 else 0):=by
    by_cases a1:u.head?=some 45
    ·rw[aq a1,ae (by simp[a1])];rfl
    rw[am a1];by_cases a2:u.head?=some 89
    ·rw[aq a2,ae (by simp[a2])];rfl
    rw[am a2];by_cases e:k=0
    ·rw[aq e];by_cases d:0<seT x
     ·rw[aq d,ae (by simp[d])];rfl
     rw[am d];cases X
     ·rw[ab (by simp[a1,a2,e,d])];rfl
     ·rw[ae (by simp)];rfl
    ·rw[am e,ae (by simp[e])];rfl
   cases X
   ·simp only[af,vz,bs,aC];simp only[af,bs]at a;rw[<-a];cases decide (0<seT x)<;>rfl
   ·cases F
    ·cases decide (0<seT x)<;>rfl
    ·simp only[aj,bV,af,vG,bs,aC];simp only[aj]at a;rw[<-a];cases decide (0<seT x)<;>rfl
 ·rfl
def AW:aa->Int->Int->Option (Int×Int)
 | [],x,m=>some (x,m)
 | c::r,x,m=>if c=69\/c=83\/(isMk c=true/\r≠[])then none else AW r (if c=88 then 1 else x) (if isMk c=true then 1 else m)
def Vb(c:UInt8):dp 20000000 ((c.toNat:Nat):Int)=some ((mkOf c:Nat):Int):=(K7 19999700 c).2
def M8(c:UInt8):decide (((mkOf c:Nat):Int)>0)=isMk c:=by
 unfold isMk;by_cases h:0<mkOf c
 ·rw[aq h,aq (by omega)]
 ·rw[am h,am (by omega)]
def Ih{T:aa}(v:T.length<=1000)(x:TD):∀(r i:Nat) (a m:Int),i+r=T.length->∀N,r<N->
  au (cE 20000000) N (T,a,m,(i:Int),x)=some (match AW (T.drop i) a m with | some p=>.inr (T,p.1,p.2,x) | none=>.inl 2):=by
 intro r
 induction r with
 | zero=>
  intro i a m hi N t;obtain⟨N,rfl⟩:∃k,N=k+1:=⟨N - 1,by omega⟩;obtain rfl:i=T.length:=by omega
  have:cE 20000000 (T,a,m,((T.length:Nat):Int),x)=some (.inr (.inr (T,a,m,x))):=by
   unfold cE;simp only[u5,u4,u3,u2];rw[am (show¬((T.length:Nat):Int)<len T by show¬((T.length:Nat):Int)<((T.length:Nat):Int);omega)];rfl
  rw[au,this,vn];rfl
 | succ r ih=>
  intro i a m hi N t;obtain⟨N,rfl⟩:∃k,N=k+1:=⟨N - 1,by omega⟩;have f:i<T.length:=by omega
  have o:T[i]?=some T[i]:=bg f;rw[au,qd f,AW];generalize T[i]=c at o ⊢;have n:T.drop (i+1)≠[]↔i+1<T.length:=by
   rw[ne_eq,List.drop_eq_nil_iff];omega
  have g:(((c.toNat:Nat):Int)==69)=decide (c=69):=kG c 69 (by decide);have j:(((c.toNat:Nat):Int)==83)=decide (c=83):=kG c 83 (by decide);have l:(((c.toNat:Nat):Int)==88)=decide (c=88):=kG c 88 (by decide);have s:w64 (len T - 1)=((T.length - 1:Nat):Int):=Ew (by omega) (by omega);have:cE 20000000 (T,a,m,(i:Int),x)=some (if c=69\/c=83\/(isMk c=true/\T.drop (i+1)≠[])then .inr (.inl 2)else .inl (T,(if c=88 then 1 else a),(if isMk c=true then 1 else m),((i+1:Nat):Int),x)):=by
   unfold cE;simp only[u5,u4,u3,u2];rw[aq (show(i:Int)<len T by show(i:Int)<((T.length:Nat):Int);omega)];simp only[aj,ob,dw o,g,j,l,Vb,M8,s];rw[tL (by omega)];by_cases e:c=69
   ·rw[aq e,ae (.inl e)];rfl
   rw[am e];by_cases d:c=83
   ·rw[aq d,ae (.inr (.inl d))];rfl
   rw[am d];simp only[af];cases u:isMk c
   ·rw[ab (by simp[e,d])];simp only[af,bs,aC];by_cases b:c=88
    ·rw[aq b,ae b];rfl
    ·rw[am b,ab b];rfl
   ·simp only[aj,aH];by_cases q:i+1<T.length
    ·rw[aq (show(i:Int)<((T.length - 1:Nat):Int)by omega),ae (.inr (.inr ⟨trivial,n.2 q⟩))];rfl
    ·rw[am (show¬(i:Int)<((T.length - 1:Nat):Int)by omega),ab (by
      rintro(h | h | ⟨_,h⟩)
      ·exact e h
      ·exact d h
      ·exact q (n.1 h))]
     by_cases b:c=88
     ·rw[aq b,ae b];rfl
     ·rw[am b,ab b];rfl
  rw[this];by_cases hc:c=69\/c=83\/(isMk c=true/\T.drop (i+1)≠[])
  ·rw[ae hc,ae hc]
  ·rw[ab hc,ab hc];exact ih (i+1) _ _ (by omega) N (by omega)
def CZ:∀(v:aa) (w:aa) (a:Int),w≠[]->AW (v++w) a 0=if v.any isLv then none else AW w (if v.any (·==88)then 1 else a) 0
 | [],w,a,_=>by simp
 | c::v,w,a,d=>by
  rw[dq,AW,qx,qx];have f:v++w≠[]:=by
   intro h;exact d (List.append_eq_nil_iff.1 h).2
  by_cases hc:isLv c=true
  ·have:c=69\/c=83\/(isMk c=true/\v++w≠[]):=by
    unfold isLv at hc;simp only[ie,bv]at hc;rcases hc with h | h | h
    ·exact .inl h
    ·exact .inr (.inl h)
    ·exact .inr (.inr ⟨h,f⟩)
   rw[ae this,hc];simp
  ·have hc':isLv c=false:=by simpa using hc
   have e:c≠69/\c≠83/\isMk c=false:=by
    unfold isLv at hc';simp only[nL,aK]at hc';exact hc'
   rw[ab (by rintro(h | h | ⟨h,_⟩)<;>simp_all),e.2.2,hc'];simp only[bs,aC,od];rw[CZ v w _ d];by_cases b:c=88
   ·subst b;simp
   ·rw[ab b,show(c==88)=false from by simp[b],od]
def SL{T u:aa}{k:Nat}(h:Body T u k):AW T 0 0=if u.any isLv then none else some (if u.any (·==88)then 1 else 0,if k=0 then 0 else 1):=by
 obtain⟨v,z,rfl,d⟩:=h.last;rw[h.eq,lK,CZ v _ 0 (by simp)];rw[rl,rl];cases v.any isLv
 ·simp only[bs,aC,od,qx,List.any_nil,wy,List.singleton_append];rw[AW,d];by_cases a:z=69
  ·subst a;simp[isLv]
  by_cases b:z=83
  ·subst b;simp[isLv]
  have e:isLv z=false:=by unfold isLv;rw[d];simp[a,b]
  rw[ab (by simp[a,b]),e];simp only[bs,aC];have hx:(if z=88 then(1:Int)else if(v.any λx=>x==88)=true then 1 else 0)=if((v.any λx=>x==88)||z==88)=true then 1 else 0:=by
   by_cases c:z=88
   ·subst c;simp
   ·rw[ab c,show(z==88)=false from by simp[c],wy]
  rw[hx];rcases(by have:=h.k4;omega:k=0\/k=1\/k=2\/k=3)with rfl | rfl | rfl | rfl<;>rfl
 ·simp
def vW(f:aa)(v:∀c∈f,c=100\/c=88\/c=45)(u:f.length<=1000)(t:aa):aS 20000000 t f=some (if t.map dgC=f then 1 else 0):=by
 unfold aS;rw[show(len t != len f)=!decide (t.length=f.length)from ck _ (natB _ _)];by_cases l:t.length=f.length
 case neg=>
  rw[am l,ab (λh=>l (by rw[<-h];simp))];rfl
 rw[aq l];have loop:∀(r i:Nat),i+r=t.length->∀N,r<N->au (dk 20000000) N (t,f,(i:Int))=some (if(t.drop i).map dgC=f.drop i then .inr ()else .inl 0):=by
  intro r
  induction r with
  | zero=>
   intro i hi N w;obtain⟨N,rfl⟩:∃k,N=k+1:=⟨N - 1,by omega⟩;obtain rfl:i=t.length:=by omega
   have:dk 20000000 (t,f,((t.length:Nat):Int))=some (.inr (.inr ())):=by
    unfold dk;simp only[u3,u2];rw[am (show¬((t.length:Nat):Int)<len t by show¬((t.length:Nat):Int)<((t.length:Nat):Int);omega)];rfl
   rw[au,this,vn,l,vn];rfl
  | succ r ih=>
   intro i hi N w;obtain⟨N,rfl⟩:∃k,N=k+1:=⟨N - 1,by omega⟩;have j:i<t.length:=by omega
   have b:i<f.length:=by omega
   have q:t[i]?=some t[i]:=bg j;have o:f[i]?=some f[i]:=bg b;have s:=v _ (List.getElem_mem b);rw[au,qd j,qd b,ge];generalize t[i]=c at q ⊢;generalize f[i]=d at o s ⊢;have a:(dgC c=d)↔(c=d\/(d=100/\bm c=true)):=by
    unfold dgC;by_cases h:bm c=true
    ·rw[ae h];constructor
     ·intro e;exact .inr ⟨e.symm,h⟩
     ·rintro(e | ⟨e,_⟩)
      ·subst e;rcases s with rfl | rfl | rfl
       ·rfl
       ·exact absurd h (by decide)
       ·exact absurd h (by decide)
      ·exact e.symm
    ·rw[ab h];constructor
     ·intro e;exact .inl e
     ·rintro(e | ⟨_,e⟩)
      ·exact e
      ·exact absurd e h
   have g:bm c=(decide (48<=c.toNat)&&decide (c.toNat<=57)):=by
    have:=iJ (λc=>bm c==(decide (48<=c.toNat)&&decide (c.toNat<=57))) (by decide +kernel) c;simpa using this
   have:dk 20000000 (t,f,(i:Int))=some (if dgC c=d then .inl (t,f,((i+1:Nat):Int))else .inr (.inl 0)):=by
    unfold dk;simp only[u3,u2];rw[aq (show(i:Int)<len t by show(i:Int)<((t.length:Nat):Int);omega)];simp only[aj,ob,dw q,dw o];rw[tL (by omega),show(((c.toNat:Nat):Int) != ((d.toNat:Nat):Int))=!(c==d)from ck _ (nc c d),show(((d.toNat:Nat):Int)==100)=decide (d=100)from kG d 100 (by decide)];by_cases e:c=d
    ·rw[ae (a.2 (.inl e)),show(c==d)=true from by simp[e]];rfl
    ·rw[show(c==d)=false from by simp[e]];by_cases m:d=100
     ·rw[aq m];simp only[gJ,aj];by_cases n:48<=c.toNat
      ·rw[aq (show((c.toNat:Nat):Int)>=48 by omega)];by_cases p:c.toNat<=57
       ·rw[aq (show((c.toNat:Nat):Int)<=57 by omega),ae (a.2 (.inr ⟨m,by rw[g];simp[n,p]⟩))];rfl
       ·rw[am (show¬((c.toNat:Nat):Int)<=57 by omega),ab (λh=>by
         rcases a.1 h with h | ⟨_,h⟩
         ·exact e h
         ·rw[g]at h;simp[p]at h)];rfl
      ·rw[am (show¬((c.toNat:Nat):Int)>=48 by omega),ab (λh=>by
        rcases a.1 h with h | ⟨_,h⟩
        ·exact e h
        ·rw[g]at h;simp[n]at h)];rfl
     ·rw[am m,ab (λh=>by
       rcases a.1 h with h | ⟨h,_⟩
       ·exact e h
       ·exact m h)];rfl
   rw[this];by_cases e:dgC c=d
   ·rw[ae e];simp only[];rw[ih (i+1) (by omega) N (by omega),e];simp
   ·rw[ab e,ab (λh=>e (List.cons.inj h).1)]
 have:=loop t.length 0 (by omega) 20000000 (by omega);rw[show((0:Nat):Int)=0 from rfl,cg,cg]at this;rw[this];split<;>rfl
def If(t:aa):(w64 ((w64 ((w64 ((w64 ((if t.map dgC=[100,100,100,88]then(1:Int)else 0)+(if t.map dgC=[100,100,88,88]then(1:Int)else 0)))+(if t.map dgC=[100,100,100,100,45,88,88]then(1:Int)else 0)))+(if t.map dgC=[100,100,100,100,45,100,100,45,88,88]then(1:Int)else 0)))+(if t.map dgC=[100,100,100,100,45,88,88,45,88,88]then(1:Int)else 0))==0)=!simB t:=by
 unfold simB jn;simp only[List.contains_cons,List.contains_nil,wy];have e:∀f:aa,(t.map dgC=f)=((t.map dgC==f)=true):=λf=>by simp
 simp only[e];generalize(t.map dgC==[100,100,100,88])=z1;generalize(t.map dgC==[100,100,88,88])=z2;generalize(t.map dgC==[100,100,100,100,45,88,88])=b;generalize(t.map dgC==[100,100,100,100,45,100,100,45,88,88])=a;generalize(t.map dgC==[100,100,100,100,45,88,88,45,88,88])=c;cases z1<;>cases z2<;>cases b<;>cases a<;>cases c<;>rfl
def Rn(t:aa):aS 20000000 t [100,100,100,88]=some (if t.map dgC=[100,100,100,88]then 1 else 0):=vW _ (by decide) (by decide) t
def RI(t:aa):aS 20000000 t [100,100,88,88]=some (if t.map dgC=[100,100,88,88]then 1 else 0):=vW _ (by decide) (by decide) t
def SJ(t:aa):aS 20000000 t [100,100,100,100,45,88,88]=some (if t.map dgC=[100,100,100,100,45,88,88]then 1 else 0):=vW _ (by decide) (by decide) t
def UB(t:aa):aS 20000000 t [100,100,100,100,45,100,100,45,88,88]=some (if t.map dgC=[100,100,100,100,45,100,100,45,88,88]then 1 else 0):=vW _ (by decide) (by decide) t
def Ue(t:aa):aS 20000000 t [100,100,100,100,45,88,88,45,88,88]=some (if t.map dgC=[100,100,100,100,45,88,88,45,88,88]then 1 else 0):=vW _ (by decide) (by decide) t
def PY{T u:aa}{k:Nat}(h:Body T u k){g l:Bool}{dg:aa}{e q:Nat}{m d:aa}{M P:Nat×Nat×Nat}{p:Nat}(H:oh T 0=.inr (g,l,dg,e,q,m,d,M,P,p)):
  ei 20000000 T=some (lvl u (decide (k≠0)) (u.any (·==88)) (sea m)):=by
 have K:=h.len;obtain⟨Q,_,C⟩:=wR 19999700 T 0 (by omega) (by omega) (by omega);rw[show 19999700+300=20000000 from rfl,H,show((0:Nat):Int)=0 from rfl]at C;have t:=Ih K (g,l,dg,(e:Int),(q:Int),m,d,(M.1:Int),(M.2.1:Int),(M.2.2:Int)) T.length 0 0 0 (by omega) 20000000 (by omega);rw[show((0:Nat):Int)=0 from rfl,cg,SL h]at t;unfold ei;rw[C];simp only[ob,PR];rw[show au (cE 20000000) 20000000 (T,0,0,0,iF (g,l,dg,(e:Int),(q:Int),m,d,(M.1:Int),(M.2.1:Int),(M.2.2:Int),Q,T,(p:Int),(0:Int)))=_ from t];have B:∃c r,u=c::r:=by
  cases f:u with
  | nil=>exact absurd f h.ne
  | cons c r=>exact⟨c,r,rfl⟩
 have A:ap10 (aN 20000000) (iF (g,l,dg,(e:Int),(q:Int),m,d,(M.1:Int),(M.2.1:Int),(M.2.2:Int),Q,T,(p:Int),(0:Int)))=some (sea m):=rsT _;unfold lvl;cases u.any isLv
 case true=>rfl
 simp only[bs,aC,obs,sm,ob,u4,u3,u2];rw[A];simp only[ob];by_cases b:24<sea m
 ·rw[ae b,show decide (sea m>24)=true from aq b];rfl
 rw[ab b,show decide (sea m>24)=false from am b,af];have J:=h.k4;have j:=ck List.length h.eq;rw[bW]at j;have n:bx (List.length T) (w64 ((len T) - (if k=0 then(0:Int)else 1)))=some u.length:=by
  have:w64 ((len T) - (if k=0 then(0:Int)else 1))=((u.length:Nat):Int):=by
   have G:len T=((T.length:Nat):Int):=rfl;rw[G,j];show wrap .i64 _=_;rw[wrap_i64 _ (by split<;>omega) (by split<;>omega)];rcases(by omega:k=0\/k=1\/k=2\/k=3)with rfl | rfl | rfl | rfl<;>simp[mt]
  rw[this,fe (by omega)]
 have y:List.take u.length T=u:=by rw[h.eq,AD]
 rw[n];simp only[cg,y];obtain⟨c,r,f⟩:=B;have v:sx u (0:Int)=some c:=by rw[f];rfl
 have z:sx T (0:Int)=some c:=by rw[h.eq,f];rfl
 have o:uJ u=if c=45 then r else u:=by rw[f];rfl
 have I:u.head?=some c:=by rw[f];rfl
 have b1:bx u.length (1:Int)=some 1:=fe (i:=1) (by rw[f];simp);have w:List.drop 1 (List.take u.length u)=r:=by rw[ox,f];rfl
 rw[v,z,b1];simp only[w,ob,Rn,RI,SJ,UB,Ue,If];rw[show(((c.toNat:Nat):Int)==45)=decide (c=45)from kG c 45 (by decide),show(((c.toNat:Nat):Int)==89)=decide (c=89)from kG c 89 (by decide),I];have a:(cond ((if(u.any λx=>x==88)=true then(1:Int)else 0)==1) (some (1:Int)) (cond ((if k=0 then(0:Int)else 1)==1) (some 1) (cond (decide (sea m>0)) (some 1) (cond (decide (c=45)) (some 1) (cond (decide (c=89)) (some 1) (some 0)))))) =
   some (if decide (k≠0)=true\/(u.any λx=>x==88)=true\/0<sea m\/some c=some 45\/some c=some 89 then 1 else 0):=by
  cases(u.any λx=>x==88)
  ·by_cases a1:k=0
   ·by_cases a2:0<sea m
    ·simp[a1,a2]
    ·by_cases D:c=45
     ·simp[a1,a2,D]
     ·by_cases E:c=89
      ·simp[a1,a2,E]
      ·simp[a1,a2,D,E]
   ·simp[a1]
  ·simp
 by_cases hc:c=45
 ·rw[aq hc,aj];rw[o,ae hc];rw[aq hc]at a;cases s:(u.any λx=>x==88)
  ·rw[s]at a;simp only[vz,bs,aC,show((0:Int)==1)=false from rfl,af]at a ⊢;exact a
  ·rw[s]at a;cases F:simB r
   ·simp
   ·simp only[aH,show((1:Int)==1)=true from rfl,aj,af,bV,vG,bs,aC]at a ⊢;exact a
 ·rw[am hc,af];rw[o,ab hc];rw[am hc]at a;cases s:(u.any λx=>x==88)
  ·rw[s]at a;simp only[vz,bs,aC,show((0:Int)==1)=false from rfl,af]at a ⊢;exact a
  ·rw[s]at a;cases F:simB u
   ·simp
   ·simp only[aH,show((1:Int)==1)=true from rfl,aj,af,bV,vG,bs,aC]at a ⊢;exact a
def pi{k:Nat}(h:k<4):(mt k).all okC=true:=by
 rcases(by omega:k=0\/k=1\/k=2\/k=3)with rfl | rfl | rfl | rfl<;>decide
def x_mk{k:Nat}(h:k<4):(mt k).any (·==88)=false:=by
 rcases(by omega:k=0\/k=1\/k=2\/k=3)with rfl | rfl | rfl | rfl<;>decide
def SC:((List.range 100).all λk=>(Lib.decDigits k).all λc=>okC c&&(!isMk c&&!(c==88)))=true:=by decide +kernel
def AP{k:Nat}(h:k<100){letter:UInt8}(a:letter=69\/letter=83):(fB letter k).all (λc=>okC c&&(!isMk c&&!(c==88)))=true:=by
 unfold fB;split
 ·rw[md,(cq.1 SC) k (kx.2 h)];rcases a with rfl | rfl<;>decide
 ·rfl
def Jt{c:UInt8}(h:isDX c=true):okC c=true:=by unfold okC;rw[h];rfl
def EJ{g l:Bool}{dg:aa}{x q:Nat}(h:okY g l dg (x:Int) (q:Int)):nq g l dg (x:Int) (q:Int)≠[]/\(∀c∈nq g l dg (x:Int) (q:Int),okC c=true/\isMk c=false)/\(nq g l dg (x:Int) (q:Int)).any (·==88)=hasX dg:=by
 obtain⟨j,k,o,m,e,n⟩:=lh h;have hx:x<100:=by omega
 have i:q<100:=by omega
 have b:=AP hx (letter:=69) (.inl rfl);have d:=AP i (letter:=83) (.inr rfl);have a:=OF h;have hd:dg≠[]:=by
  rintro rfl;simp at e
 rw[na];refine⟨by cases l<;>cases g<;>simp[hd],λc hc=>?_,?_⟩
 ·simp only[lV,or_assoc]at hc;rcases hc with hc | hc | hc | hc | hc
  ·cases l
   ·cases hc
   ·rw[ul.1 hc];decide
  ·cases g
   ·cases hc
   ·rw[ul.1 hc];decide
  ·exact⟨Jt (a c hc),HS (a c hc)⟩
  ·have:=(cq.1 b) c hc;simp only[aB,kC]at this;exact⟨this.1,this.2.1⟩
  ·have:=(cq.1 d) c hc;simp only[aB,kC]at this;exact⟨this.1,this.2.1⟩
 ·have no:∀w:aa,w.all (λc=>okC c&&(!isMk c&&!(c==88)))=true->w.any (·==88)=false:=by
   intro w f;rw[rc];intro c hc;have:=(cq.1 f) c hc;simp only[aB,kC]at this;rw[this.2.2];simp
  simp only[rl,no _ b,no _ d,wy];unfold hasX;cases l<;>cases g<;>simp
def D4{w:aa}(h:w≠[])(a:∀c∈w,isMk c=false)(v:aa):∃b z,v++w=b++[z]/\isMk z=false:=
 ⟨v++w.dropLast,w.getLast h,by rw[lK,List.dropLast_concat_getLast],a _ (List.getLast_mem h)⟩
def FP{A B:Nat×Nat×Nat}{g l:Bool}{dg:aa}{x q:Nat}{m d:aa}(hs:ShD g l dg x q m d)(W:MkD A B m d):
  ∃u k,Body (rawD A B g l dg (x:Int) (q:Int) m d) u k/\u.any (·==88)=(hasX dg||(hasX m||hasX d))/\(u.any isLv=false->A=(0,0,0)/\(m≠[]->B.1=0)/\(d≠[]->B.2.1=0))/\k=(if m=[]then B.1 else if d=[]then B.2.1 else B.2.2):=by
 obtain⟨H,G,s⟩:=EJ hs.yr;have yl:=KI hs.yr;obtain⟨i,o,C⟩:=A;obtain⟨f,p,F⟩:=B;obtain⟨a0,a1,a2,b0,b1,b2,zm,zd⟩:=W;simp only at a0 a1 a2 b0 b1 b2 zm zd;unfold rawD jh;simp only;generalize nq g l dg (x:Int) (q:Int)=Y at *;have b:∀w:aa,w.all okC=true->∀c∈w,c.toNat<128:=λw V c hc=>RZ ((cq.1 V) c hc);have y:Y.all okC=true:=cq.2 λc hc=>(G c hc).1;have e:∀k,k<4->(mt k).length<=1:=λk h=>by
  rcases(by omega:k=0\/k=1\/k=2\/k=3)with rfl | rfl | rfl | rfl<;>simp[mt]
 have Z:=e i a0;have I:=e o a1;have L:=e C a2;have X:=e f b0;have P:=e p b1;have K:=e F b2;have a:∀k,k<4->(mt k).any isLv=false->k=0:=λk h=>by
  rcases(by omega:k=0\/k=1\/k=2\/k=3)with rfl | rfl | rfl | rfl<;>decide
 have n:∀w:aa,w.any (λx=>x==88)=hasX w:=λw=>rfl;by_cases j:m=[]
 ·have hd:d=[]:=hs.day.resolve_right (λz=>z.1 j);subst j hd;obtain⟨rfl,rfl⟩:=zm rfl;obtain⟨rfl,rfl⟩:=zd rfl;simp only[aH,nW];refine⟨mt i++Y,f,⟨rfl,b0,D4 H (λc hc=>(G c hc).2) _,b _ (by rw[AV,AV,pi a0,y,pi b0];rfl),by simp only[bW];omega⟩,?_,?_,rfl⟩
  ·rw[rl,x_mk a0,s];simp[hasX]
  ·intro h;rw[rl,nL]at h;exact⟨by rw[a _ a0 h.1],λh=>absurd rfl h,λh=>absurd rfl h⟩
 ·obtain⟨M,mx⟩:=hs.mon.resolve_left j;have D:m.all okC=true:=cq.2 λc hc=>Jt (mx c hc);rw[ab j,ab j];by_cases hd:d=[]
  ·subst hd;obtain⟨rfl,rfl⟩:=zd rfl;simp only[aH,nW];refine⟨mt i++Y++mt f++(45::(mt o++m)),p,⟨by simp,b1,?_,b _ ?_,by simp only[bW,aP];omega⟩,?_,?_,rfl⟩
   ·have:=D4 j (λc hc=>HS (mx c hc)) (mt i++Y++mt f++(45::mt o));simpa using this
   ·simp only[AV,md,pi a0,y,pi b0,pi a1,D,pi b1,show okC 45=true from by decide];rfl
   ·simp only[rl,qx,x_mk a0,x_mk b0,x_mk a1,s];simp only[n];simp[hasX]
   ·intro h;simp only[rl,qx,nL]at h;obtain⟨⟨⟨t,S⟩,v⟩,U,r,T⟩:=h;exact⟨by rw[a _ a0 t,a _ a1 r],λ_=>a _ b0 v,λh=>absurd rfl h⟩
  ·obtain⟨_,N,E⟩:=hs.day.resolve_left hd;have J:d.all okC=true:=cq.2 λc hc=>Jt (E c hc);rw[ab hd,ab hd];refine⟨mt i++Y++mt f++(45::(mt o++m++mt p))++(45::(mt C++d)),F,⟨by simp,b2,?_,b _ ?_,by simp only[bW,aP];omega⟩,?_,?_,rfl⟩
   ·have:=D4 hd (λc hc=>HS (E c hc)) (mt i++Y++mt f++(45::(mt o++m++mt p))++(45::mt C));simpa using this
   ·simp only[AV,md,pi a0,y,pi b0,pi a1,D,pi b1,pi a2,J,pi b2,show okC 45=true from by decide];rfl
   ·simp only[rl,qx,x_mk a0,x_mk b0,x_mk a1,x_mk b1,x_mk a2,s];simp only[n];simp[Bool.or_assoc]
   ·intro h;simp only[rl,qx,nL]at h;obtain⟨⟨⟨⟨t,S⟩,v⟩,U,⟨r,T⟩,Q⟩,h8,O,R⟩:=h;exact⟨by rw[a _ a0 t,a _ a1 r,a _ a2 O],λ_=>a _ b0 v,λ_=>a _ b1 Q⟩
def mkX(x:TD):Bool:=hasX x.2.2.1||(hasX x.2.2.2.2.2.1||hasX x.2.2.2.2.2.2.1)
def lvT(T:aa)(x:TD):Int:=lvl (Lib.trimRightS T [63,126,37]) (!(Lib.trimRightS T [63,126,37]==T)) (mkX x) (seT x)
def Tu{T u:aa}{k:Nat}(h:Body T u k){x:TD}(hs:smT x):jX 20000000 T x=some (lvT T x):=by
 rw[US h hs];unfold lvT mkX;rw[vN h,Dx h];simp
def NQ{S:aa}{a:Nat}(h:a<=S.length){r:DR}(j:ch S a=.inr r):∃A B u k,MkD A B (tdR r).2.2.2.2.2.1 (tdR r).2.2.2.2.2.2.1/\plR r=a+(mt A.1).length/\
  (S.drop a).take (enR r - a)=rawD A B r.1 r.2.1 r.2.2.1 (r.2.2.2.1:Int) (r.2.2.2.2.1:Int) r.2.2.2.2.2.1 r.2.2.2.2.2.2.1/\r.2.2.2.2.2.2.2.1=spM A B/\Body ((S.drop a).take (enR r - a)) u k/\
  jX 20000000 ((S.drop a).take (enR r - a)) (tdR r)=some (lvT ((S.drop a).take (enR r - a)) (tdR r)):=by
 obtain⟨i,q,y,D⟩:=gU h j;obtain⟨v,_⟩:=zR h j;obtain⟨F,G,z,w,C,m',d',k0,k1,k2,b,ok⟩:=Bl i q;obtain⟨g,l,dg,x,s,m,d,M,P,e⟩:=r;have ok:ShD g l dg x s m d:=by
  unfold tdR at b;simp only[bi]at b;obtain⟨rfl,rfl,rfl,hx,f,rfl,rfl,_⟩:=b;have hx:x=w:=by omega
  have f:s=C:=by omega
  subst hx f;exact ok.sh
 obtain⟨A,B,mk,E,p,n⟩:=A9 v;have t:(rawD A B g l dg (x:Int) (s:Int) m d).length=e - a:=by
  have:=ck List.length n;simp only[bW,bj]at this;have:a<=e:=y;have:e<=S.length:=D;omega
 have c:(S.drop a).take (e - a)=rawD A B g l dg (x:Int) (s:Int) m d:=by rw[n,<-t,AD]
 obtain⟨u,k,o,H,_⟩:=FP ok mk;refine⟨A,B,u,k,mk,p,c,E,by rw[show enR (g,l,dg,x,s,m,d,M,P,e)=e from rfl,c];exact o,?_⟩
 ·rw[show enR (g,l,dg,x,s,m,d,M,P,e)=e from rfl,c];exact Tu o i
def H4{S:aa}{a:Nat}(h:a<=S.length){r:DR}(o:ch S a=.inr r):∃A B u k,MkD A B (tdR r).2.2.2.2.2.1 (tdR r).2.2.2.2.2.2.1/\plR r=a+(mt A.1).length/\
  (S.drop a).take (enR r - a)=rawD A B r.1 r.2.1 r.2.2.1 (r.2.2.2.1:Int) (r.2.2.2.2.1:Int) r.2.2.2.2.2.1 r.2.2.2.2.2.2.1/\r.2.2.2.2.2.2.2.1=spM A B/\Body ((S.drop a).take (enR r - a)) u k/\
  jX 20000000 ((S.drop a).take (enR r - a)) (tdR r)=some (lvT ((S.drop a).take (enR r - a)) (tdR r))/\ei 20000000 ((S.drop a).take (enR r - a))=some (lvT ((S.drop a).take (enR r - a)) (tdR r)):=by
 obtain⟨n,t,z,E⟩:=gU h o;obtain⟨w,_⟩:=zR h o;obtain⟨H,I,C,y,D,m',d',k0,k1,k2,f,ok⟩:=Bl n t;obtain⟨g,l,dg,x,s,m,d,M,P,e⟩:=r;have ok:ShD g l dg x s m d:=by
  unfold tdR at f;simp only[bi]at f;obtain⟨rfl,rfl,rfl,hx,j,rfl,rfl,_⟩:=f;have hx:x=y:=by omega
  have j:s=D:=by omega
  subst hx j;exact ok.sh
 obtain⟨A,B,mk,F,q,p⟩:=A9 w;have v:(rawD A B g l dg (x:Int) (s:Int) m d).length=e - a:=by
  have:=ck List.length p;simp only[bW,bj]at this;have:a<=e:=z;have:e<=S.length:=E;omega
 have c:(S.drop a).take (e - a)=rawD A B g l dg (x:Int) (s:Int) m d:=by rw[p,<-v,AD]
 obtain⟨u,k,b,G,_⟩:=FP ok mk;refine⟨A,B,u,k,mk,q,c,F,by rw[show enR (g,l,dg,x,s,m,d,M,P,e)=e from rfl,c];exact b,?_,?_⟩
 ·rw[show enR (g,l,dg,x,s,m,d,M,P,e)=e from rfl,c];exact Tu b n
 ·rw[show enR (g,l,dg,x,s,m,d,M,P,e)=e from rfl,c];obtain⟨J,_,i⟩:=MP ok mk (S:=rawD A B g l dg (x:Int) (s:Int) m d) (a:=0) (post:=[]) (by simp) tD tD tD;rw[PY b i,G];unfold lvT mkX;rw[vN b,Dx b];simp only[decide_not];rfl
def mx(a b:Int):Int:=if a>b then a else b
def lvR(S:aa)(p:Nat)(r:DR):Int:=lvT ((S.drop p).take (enR r - p)) (tdR r)
def J6(u:aa)(b X:Bool)(c:Int):0<=lvl u b X c/\lvl u b X c<=2:=by
 unfold lvl
 repeat' split
 all_goals omega
def LG(S:aa)(p:Nat)(r:DR):0<=lvR S p r/\lvR S p r<=2:=J6 _ _ _ _
def bcT{x:TD}(h:smT x)(K:Int):ap10 (iP 20000000 K) x=some (xE K x):=Aq h.1 h.2.1 h.2.2.1 h.2.2.2.1 h.2.2.2.2.1 h.2.2.2.2.2
noncomputable def toP(S:aa)(p:Nat)(KF:Int)(DF:TD)(lv:Int):(Nat×Nat)⊕(Int×TD×Int×Nat):=
 if KF=1/\p=S.length then .inr (3,d0,mx 1 lv,p)
 else if KF=1/\dts (S.drop p)=true then .inr (2,d0,mx 1 lv,p+2)
 else match ch S p with
  | .inl f=>.inl (f.1,f.2.1)
  | .inr r=>if exT (tdR r)=true then(if enR r<S.length\/rC KF DF 1 (tdR r)=0 then .inr (1,tdR r,mx (lvR S p r) (if KF=1 then lv else mx 1 lv),enR r)else .inl (plR r,11))else .inl (plR r,11)
def UC(S:aa)(D:TD)(KF:Int)(DF:TD)(e l:Bool):(Nat×Nat)⊕(Int×TD×Int×Nat)->(Int×TD×Int×TD×Int×TD×Bool×Bool×Int×aa×Int)⊕(Int×Int×Int×TD×Int×TD×Int×TD×Bool×Bool×Int×aa×Int)->Prop
 | .inl f,y=>∃z,y=.inr ((f.1:Int),(f.2:Int),z)
 | .inr (KT,DT,lv,p),y=>y=.inl (2,D,KF,DF,KT,DT,e,l,lv,S,(p:Int))
def E3{S:aa}{p:Nat}(h:p<=S.length):(peek (S.drop p)).2=decide (p<S.length):=by
 by_cases hp:p<S.length
 ·rw[aq hp,bK (bg hp)];rfl
 ·rw[am hp,iD (by omega)];rfl
noncomputable def toX(S:aa)(p:Nat)(KF:Int)(DF:TD)(lv:Int):(Nat×Nat)⊕(Int×TD×Int):=match toP S p KF DF lv with
 | .inl f=>.inl f
 | .inr (KT,DT,L,q)=>if q<S.length then .inl (q,5)else .inr (KT,DT,L)
noncomputable def nP(S:aa):(Nat×Nat)⊕(Int×TD×Int×TD×Int×TD×Int)⊕(Int×Bool×Bool×List TI):=
 if S.head?=some 91\/S.head?=some 123 then(match xy S with | .inl f=>.inl f | .inr q=>.inr (.inr q))
 else if S.head?=some 47 then(match toX S 1 3 d0 0 with | .inl f=>.inl f | .inr (KT,DT,L)=>.inr (.inl (2,d0,3,d0,KT,DT,L)))
 else if dts S=true then(if(S.drop 2).head?=some 47 then(match toX S 3 2 d0 0 with | .inl f=>.inl f | .inr (KT,DT,L)=>.inr (.inl (2,d0,2,d0,KT,DT,L)))else .inl (2,5))
 else match ch S 0 with
  | .inl f=>.inl (f.1,f.2.1)
  | .inr r=>if(S.drop (enR r)).head?=some 47 then(if exT (tdR r)=true then(match toX S (enR r+1) 1 (tdR r) (lvR S 0 r)with | .inl f=>.inl f | .inr (KT,DT,L)=>.inr (.inl (2,d0,1,tdR r,KT,DT,L)))else .inl (plR r,11))
   else if enR r<S.length then .inl (enR r,5)else .inr (.inl (1,tdR r,0,d0,0,d0,lvR S 0 r))
def m7{S:aa}{p:Nat}(h:p<=S.length){f:Nat×Nat×Nat}(a:ch S p=.inl f):f.2.1≠0:=pI (k:=f.1) (E:=f.2.1) (p:=f.2.2) h a
def UI{S:aa}{p:Nat}(h:p<=S.length){KF:Int}{DF:TD}{lv:Int}{KT:Int}{DT:TD}{L:Int}{q:Nat}(a:toP S p KF DF lv=.inr (KT,DT,L,q)):q<=S.length/\smT DT:=by
 unfold toP at a;split at a
 ·cases a;exact⟨h,nv⟩
 ·split at a
  ·rename_i hd;cases a;exact⟨lZ hd.2,nv⟩
  ·cases b:ch S p with
   | inl f=>rw[b]at a;cases a
   | inr r=>
    obtain⟨d,_,_,c⟩:=gU h b;rw[b]at a;simp only[]at a;split at a
    ·split at a
     ·cases a;exact⟨c,d⟩
     ·cases a
    ·cases a
def zq{S:aa}{p:Nat}(h:p<=S.length){KF:Int}{DF:TD}{lv:Int}{f:Nat×Nat}(a:toP S p KF DF lv=.inl f):f.2≠0:=by
 unfold toP at a;split at a
 ·cases a
 ·split at a
  ·cases a
  ·cases b:ch S p with
   | inl g=>rw[b]at a;cases a;exact m7 h b
   | inr r=>
    rw[b]at a;simp only[]at a;split at a
    ·split at a
     ·cases a
     ·cases a;simp
    ·cases a;simp
def BY(l:aa)(c:UInt8)(hc:c≠0):((peek l).1==((c.toNat:Nat):Int))=decide (l.head?=some c):=by
 have:=vT l c hc;cases l with
 | nil=>exact this
 | cons a r=>exact this
def F8{S:aa}{p:Nat}(h:p<=S.length)(a:S.length<100000)(c:UInt8):az 20000000 [c] S (p:Int)=some (decide ((S.drop p).head?=some c),S,((if(S.drop p).head?=some c then p+1 else p:Nat):Int)):=by
 rw[mr _ _ _ _ h (by omega)];simp only[tk1];by_cases hc:(S.drop p).head?=some c
 ·rw[ae hc,ae hc,aq hc];rfl
 ·rw[ab hc,ab hc,am hc]
def JD{S:aa}{p:Nat}(h:p<=S.length)(a:S.length<100000):az 20000000 [46,46] S (p:Int)=some (dts (S.drop p),S,((if dts (S.drop p)=true then p+2 else p:Nat):Int)):=by
 rw[mr _ _ _ _ h (by omega)];cases hd:dts (S.drop p)
 ·rw[ab (show¬(S.drop p).take [(46:UInt8),46].length=[46,46]fromλh=>by unfold dts at hd;rw[show(S.drop p).take 2=[46,46]from h]at hd;cases hd)];rfl
 ·rw[ae (show(S.drop p).take [(46:UInt8),46].length=[46,46]from eq_of_beq hd)];rfl
def HO{S:aa}{p:Nat}(h:p<=S.length)(b:S.length<100000):bN 20000000 [47] S (p:Int)=some (if(S.drop p).head?=some 47 then .inl (S,((p+1:Nat):Int))else .inr ((p:Int),5,S,(p:Int))):=by
 rw[zS _ _ _ _ h (by omega) (by simp) (by simp)];simp only[tk1];by_cases hc:(S.drop p).head?=some 47
 ·rw[ae hc,ae hc];rfl
 ·rw[ab hc,ab hc];have:lcp (S.drop p) [47]=0:=by
   cases hd:S.drop p with
   | nil=>rfl
   | cons a r=>
    rw[hd]at hc;simp only[lcp];rw[show(a==47)=false from by rw[aK];rintro rfl;exact hc rfl];rfl
  rw[this];rfl
noncomputable def Ap(S:aa):(Nat×Nat)⊕(Int×TD×Int×TD×Int×TD×Int×Nat)⊕(Int×Bool×Bool×List TI×Nat):=
 if S.head?=some 91\/S.head?=some 123 then(match pp S 0 with | .inl f=>.inl (f.1,f.2.1) | .inr q=>.inr (.inr q))
 else if S.head?=some 47 then(match toP S 1 3 d0 0 with | .inl f=>.inl f | .inr (KT,DT,L,q)=>.inr (.inl (2,d0,3,d0,KT,DT,L,q)))
 else if dts S=true then(if(S.drop 2).head?=some 47 then(match toP S 3 2 d0 0 with | .inl f=>.inl f | .inr (KT,DT,L,q)=>.inr (.inl (2,d0,2,d0,KT,DT,L,q)))else .inl (2,5))
 else match ch S 0 with
  | .inl f=>.inl (f.1,f.2.1)
  | .inr r=>if(S.drop (enR r)).head?=some 47 then(if exT (tdR r)=true then(match toP S (enR r+1) 1 (tdR r) (lvR S 0 r)with | .inl f=>.inl f | .inr (KT,DT,L,q)=>.inr (.inl (2,d0,1,tdR r,KT,DT,L,q)))else .inl (plR r,11))
   else .inr (.inl (1,tdR r,0,d0,0,d0,lvR S 0 r,enR r))
def mx0{a:Int}(h:0<=a):mx a 0=a:=by unfold mx;split<;>omega
def HZ{S:aa}{f:Nat×Nat}(a:Ap S=.inl f):f.2≠0:=by
 unfold Ap at a;split at a
 ·cases b:pp S 0 with
  | inl g=>rw[b]at a;cases a;exact xd (dh _) b
  | inr q=>rw[b]at a;cases a
 ·split at a
  ·rename_i h;cases b:toP S 1 3 d0 0 with
   | inl g=>
    rw[b]at a;cases a;exact zq (fD (S:=S) (p:=0) (by rw[cg];exact h)) b
   | inr q=>rw[b]at a;cases a
  ·split at a
   ·split at a
    ·rename_i h;cases b:toP S 3 2 d0 0 with
     | inl g=>rw[b]at a;cases a;exact zq (fD h) b
     | inr q=>rw[b]at a;cases a
    ·cases a;simp
   ·cases b:ch S 0 with
    | inl g=>rw[b]at a;cases a;exact m7 (dh _) b
    | inr r=>
     rw[b]at a;simp only[]at a;split at a
     ·rename_i h;split at a
      ·cases c:toP S (enR r+1) 1 (tdR r) (lvR S 0 r)with
       | inl g=>rw[c]at a;cases a;exact zq (fD h) c
       | inr q=>rw[c]at a;cases a
      ·cases a;simp
     ·cases a
def D5(S:aa):nP S=match Ap S with
  | .inl f=>.inl f
  | .inr (.inl (K,D,KF,DF,KT,DT,L,q))=>if q<S.length then .inl (q,5)else .inr (.inl (K,D,KF,DF,KT,DT,L))
  | .inr (.inr (K,e,l,I,q))=>if q<S.length then .inl (q,5)else .inr (.inr (K,e,l,I)):=by
 unfold nP Ap xy toX;split
 ·cases pp S 0 with
  | inl f=>rfl
  | inr q=>
   obtain⟨_,_,_,_,p⟩:=q;by_cases hp:p<S.length<;>simp[hp]
 ·split
  ·cases toP S 1 3 d0 0 with
   | inl f=>rfl
   | inr q=>
    obtain⟨_,_,_,p⟩:=q;by_cases hp:p<S.length<;>simp[hp]
  ·split
   ·split
    ·cases toP S 3 2 d0 0 with
     | inl f=>rfl
     | inr q=>
      obtain⟨_,_,_,p⟩:=q;by_cases hp:p<S.length<;>simp[hp]
    ·rfl
   ·cases ch S 0 with
    | inl f=>rfl
    | inr r=>
     simp only[];split
     ·split
      ·cases toP S (enR r+1) 1 (tdR r) (lvR S 0 r)with
       | inl f=>rfl
       | inr q=>
        obtain⟨_,_,_,p⟩:=q;by_cases hp:p<S.length<;>simp[hp]
      ·rfl
     ·rfl
def JB(a b:Int):mx a b=mx b a:=by unfold mx;split<;>split<;>omega
def Px(a b:Int):(cond (decide (a>b)) a b)=mx a b:=by unfold mx;rw[bB]
def cut2{S:aa}{p:Nat}(h:p+1<S.length):((List.drop p (List.take (p+2) S))==([46,46]:aa))=dts (S.drop p):=by
 unfold dts;rw[mF]
def CX{S:aa}{p:Nat}(h:¬p+1<S.length):dts (S.drop p)=false:=by
 cases hd:dts (S.drop p)
 ·rfl
 ·have:=lZ hd;omega
def TU(KF:Int)(DF:TD):(Nat×Nat)⊕(Int×TD×Int)->(Int×TD×Int×TD×Int×TD×Bool×Bool×Int×Int×Int)⊕(Int×TD×Int×TD×Int×TD×Bool×Bool×Int×Int×Int×List TI)
 | .inl f=>.inr (0,d0,0,d0,0,d0,false,false,0,(f.1:Int),(f.2:Int),[])
 | .inr (KT,DT,L)=>.inl (2,d0,KF,DF,KT,DT,false,false,L,0,0)
def Vu{S:aa}{p:Nat}(h:p<=S.length)(hS:S.length<100000){KF:Int}{DF:TD}(z:smT DF)(lv b:Int)(e:b=if KF=1 then lv else mx 1 lv)(J:List TI):
  mf 20000000 S (p:Int) 0 d0 KF DF 0 d0 false false b J=some (TU KF DF (toX S p KF DF lv)):=by
 have g:(¬(KF=1/\p=S.length))->(¬(KF=1/\dts (S.drop p)=true))->(ob (dY 20000000 S (p:Int)) λa=>(cond ((d4 (d8 a)).2 != 0) (ob (be 20000000 (d4 (d8 a)).1 (d4 (d8 a)).2) (u12 λu P v39 v40 v41 X l v44 v45 D E v48=>(some (.inr (u,P,v39,v40,v41,X,l,v44,v45,D,E,v48))))) (ob (ap10 (aL 20000000) (iF a)) λv49=>(cond (v49==0) (ob (be 20000000 (d8 a).2.2.1 11) (u12 λn F t x v54 G K m Q v59 w U=>(some (.inr (n,F,t,x,v54,G,K,m,Q,v59,w,U))))) (cond (decide ((d4 (d8 a)).1<(len S))) (ob (be 20000000 (d4 (d8 a)).1 5) (u12 λv62 q Y s I v67 B V v L y o=>(some (.inr (v62,q,Y,s,I,v67,B,V,v,L,y,o))))) (ob (ap10 (ap10 (ef 20000000 KF) DF 1) (iF a)) λk=>(cond (k != 0) (ob (be 20000000 (d8 a).2.2.1 11) (u12 λv75 W v77 T v79 j v81 N Z R M i=>(some (.inr (v75,W,v77,T,v79,j,v81,N,Z,R,M,i))))) (ob (bx (List.length S) (p:Int)) λv87=>(ob (ei 20000000 (List.drop v87 (List.take (List.length S) S))) λO=>(some (.inl (2,d0,KF,DF,1,(iF a),false,false,(mx O b),0,0)))))))))))) =
   some (TU KF DF (toX S p KF DF lv)):=by
  intro d hd;obtain⟨A,hA⟩:=qy S p h hS;rw[hA];unfold toX toP;rw[ab d,ab hd];cases hr:ch S p with
  | inl f=>
   have hE:=m7 h hr;rw[xU];simp only[ob];show cond (((f.2.1:Nat):Int) != 0) _ _=_;rw[show(((f.2.1:Nat):Int) != 0)=true from by simp;omega];rfl
  | inr r=>
   obtain⟨s1,c1,l1,l2⟩:=gU h hr;obtain⟨_,_,_,_,_,_,_,_,_,_,hv⟩:=H4 h hr;rw[tV];simp only[ob];show cond ((0:Int) != 0) _ (ob (ap10 (aL 20000000) (tdR r)) _)=_;rw[reT s1];simp only[dX,af,ob];cases hx:exT (tdR r)
   ·rfl
   ·simp only[aH,show((1:Int)==0)=false from rfl,af];show cond (decide (((enR r:Nat):Int)<len S)) _ (ob (ap10 (ap10 (ef 20000000 KF) DF 1) (tdR r)) _)=_;by_cases H:enR r<S.length
    ·rw[aq (show((enR r:Nat):Int)<len S by show((enR r:Nat):Int)<((S.length:Nat):Int);omega),ae (.inl H)];simp only[ae H];rfl
    ·rw[am (show¬((enR r:Nat):Int)<len S by show¬((enR r:Nat):Int)<((S.length:Nat):Int);omega),af,Kp z s1];simp only[ob];by_cases hp:rC KF DF 1 (tdR r)=0
     ·rw[ae (.inr hp),show(rC KF DF 1 (tdR r) != 0)=false from by simp[hp],af,fe h];simp only[ab H,ox];have e1:(S.drop p).take (enR r - p)=S.drop p:=by
       rw[iv];rw[bj];omega
      rw[e1]at hv;rw[hv];simp only[<-e];unfold lvR;rw[e1];rfl
     ·rw[ab (by rintro(h | h)<;>contradiction),show(rC KF DF 1 (tdR r) != 0)=true from by simp[hp]];rfl
 unfold mf;have hj3:jB 20000000 S (p:Int) b (KF==1) J d0 KF DF 0 d0 false false ([]:List TI)=some (S,(p:Int),b,KF==1,decide (KF=1/\p=S.length),J,d0,KF,DF,0,d0,false,false,[]):=by
  unfold jB;by_cases c:KF=1
  ·rw[show(KF==1)=true from by simp[c],aj,show(((p:Nat):Int)==len S)=decide (p=S.length)from natB p S.length];simp[c]
  ·rw[show(KF==1)=false from by simp[c],af,am (λh=>c h.1)]
 rw[hj3];simp only[ob,u14,u13,u12,u11,u10,u9,u8,u7,u6,u5,u4,u3,u2,Px];by_cases d:KF=1/\p=S.length
 ·rw[aq d,aj];unfold toX toP;rw[ae d];simp only[];rw[ab (by omega),e,ae d.1,JB];rfl
 ·rw[am d,af];have C:jC 20000000 S (p:Int) b (KF==1) J d0 KF DF 0 d0 false false ([]:List TI)=some (S,(p:Int),b,decide (KF=1/\dts (S.drop p)=true),J,d0,KF,DF,0,d0,false,false,[]):=by
   unfold jC;by_cases c:KF=1
   ·rw[show(KF==1)=true from by simp[c],aj,show w64 (((p:Nat):Int)+1)=((p+1:Nat):Int)from rf_w 1 (by omega),show w64 (((p:Nat):Int)+2)=((p+2:Nat):Int)from rf_w 2 (by omega)];by_cases hp:p+1<S.length
    ·rw[aq (show((p+1:Nat):Int)<len S by show((p+1:Nat):Int)<((S.length:Nat):Int);omega),aj,fe (by omega)];simp only[ob];rw[fe (by omega)];simp only[cut2 hp];rw[c];cases dts (S.drop p)<;>simp
    ·rw[am (show¬((p+1:Nat):Int)<len S by show¬((p+1:Nat):Int)<((S.length:Nat):Int);omega),af,CX hp];simp
   ·rw[show(KF==1)=false from by simp[c],af,am (λh=>c h.1)]
  rw[C];simp only[u13,u12,u11,u10,u9,u8,u7,u6,u5,u4,u3,u2];by_cases hd:KF=1/\dts (S.drop p)=true
  ·have hl:=lZ hd.2;rw[aq hd,aj,show w64 (((p:Nat):Int)+2)=((p+2:Nat):Int)from rf_w 2 (by omega)];unfold toX toP;rw[ab d,ae hd];simp only[];by_cases hp:p+2<S.length
   ·rw[aq (show((p+2:Nat):Int)<len S by show((p+2:Nat):Int)<((S.length:Nat):Int);omega),ae hp];rfl
   ·rw[am (show¬((p+2:Nat):Int)<len S by show¬((p+2:Nat):Int)<((S.length:Nat):Int);omega),ab hp,e,ae hd.1,JB];rfl
  ·rw[am hd,af];exact g d hd
def Nc:(Nat×Nat)⊕(Int×TD×Int×TD×Int×TD×Int)⊕(Int×Bool×Bool×List TI)->Int×TD×Int×TD×Int×TD×Bool×Bool×Int×Int×Int×List TI
 | .inl f=>(0,d0,0,d0,0,d0,false,false,0,(f.1:Int),(f.2:Int),[])
 | .inr (.inl (K,D,KF,DF,KT,DT,L))=>(K,D,KF,DF,KT,DT,false,false,L,0,0,[])
 | .inr (.inr (K,e,l,I))=>(K,d0,0,d0,0,d0,e,l,2,0,0,I)
def Ky{S:aa}{p:Nat}(h:p+1<=S.length)(d:S.length<100000){KF:Int}{DF:TD}(c:smT DF)(lv a:Int)(b:a=if KF=1 then lv else mx 1 lv)(I J:List TI):
  gm 20000000 S a (p:Int) KF DF I J=some (match toX S (p+1) KF DF lv with
   | .inl f=>(0,(f.1:Int),(f.2:Int),0,d0,0,d0,0,d0,false,false,[])
   | .inr (KT,DT,L)=>(L,0,0,2,d0,KF,DF,KT,DT,false,false,J)):=by
 unfold gm;rw[show w64 (((p:Nat):Int)+1)=((p+1:Nat):Int)from rf_w 1 (by omega),Vu h d c lv a b J];cases toX S (p+1) KF DF lv with
 | inl f=>rfl
 | inr q=>rfl
def La{S:aa}{p:Nat}(lv KF:Int)(DF:TD)(I J:List TI):dB 20000000 S lv (p:Int) KF DF I J=some (S,lv,(p:Int),!decide ((S.drop p).head?=some 47),KF,DF,I,J):=by
 unfold dB;by_cases hp:p<S.length
 ·have a:=bg hp;rw[am (show¬((p:Nat):Int)>=len S by show¬((p:Nat):Int)>=((S.length:Nat):Int);omega),af,dw a,bK a];simp only[ob,uB,ar];rw[show(((S[p].toNat:Nat):Int) != 47)=!decide (S[p]=47)from ck _ (kG S[p] 47 (by decide))]
 ·rw[aq (show((p:Nat):Int)>=len S by show((p:Nat):Int)>=((S.length:Nat):Int);omega),iD (by omega)];rfl
def Hh{S:aa}(G:S.length<=16384):ic 20000000 S=some (Nc (nP S)):=by
 unfold ic;rw[show decide (len S>16384)=false from am (by show¬(16384:Int)<((S.length:Nat):Int);omega),af];have w:hJ 20000000 S ([]:List TI)=some (S,decide (S.head?=some 91\/S.head?=some 123),[]):=by
  unfold hJ;cases S with
  | nil=>rfl
  | cons c r=>
   rw[show((c::r)==([]:aa))=false from rfl];simp only[gJ,aj,ob,show sx (c::r) (0:Int)=some c from rfl,uB,ar];rw[show(((c.toNat:Nat):Int)==91)=decide (c=91)from kG c 91 (by decide),show(((c.toNat:Nat):Int)==123)=decide (c=123)from kG c 123 (by decide)];by_cases h:c=91
   ·simp[h]
   ·simp[h]
 rw[w];simp only[ob,u3,u2];unfold nP;by_cases g:S.head?=some 91\/S.head?=some 123
 ·rw[aq g,ae g,aj];have m:=QA (S:=S) (a:=0) (by omega) (by omega);rw[show((0:Nat):Int)=0 from rfl]at m;rw[m];unfold xy;cases h:pp S 0 with
  | inl f=>
   have C:=xd (by omega) h;simp only[LL,u12,u11,u10,u9,u8,u7,u6,u5,u4,u3,u2];rw[show(((f.2.1:Nat):Int) != 0)=true from by simp;omega];rfl
  | inr q=>
   obtain⟨K,e,l,I,p⟩:=q;simp only[LL,u12,u11,u10,u9,u8,u7,u6,u5,u4,u3,u2,dX,af];show cond (decide ((p:Int)<len S)) _ _=_;by_cases hp:p<S.length
   ·rw[aq (show(p:Int)<len S by show(p:Int)<((S.length:Nat):Int);omega)];simp only[ae hp];rfl
   ·rw[am (show¬(p:Int)<len S by show¬(p:Int)<((S.length:Nat):Int);omega)];simp only[ab hp];rfl
 rw[am g,ab g,af];have o:gu 20000000 S ([]:List TI) ([]:List TI)=some (S,dts S,[],[]):=by
  unfold gu;by_cases h:1<S.length
  ·have v:bx S.length (2:Int)=some 2:=fe (i:=2) (by omega);rw[show decide (len S>1)=true from aq (by show(1:Int)<((S.length:Nat):Int);omega),aj,v];rfl
  ·rw[show decide (len S>1)=false from am (by show¬(1:Int)<((S.length:Nat):Int);omega),af];have:=CX (S:=S) (p:=0) (by omega);rw[cg]at this;rw[this]
 rw[o];simp only[u4,u3,u2];unfold ji;have t:gx 20000000 S ([]:List TI) ([]:List TI)=some (S,decide (S.head?=some 47),[],[]):=by
  unfold gx;cases S with
  | nil=>rfl
  | cons c r=>
   rw[show((c::r)==([]:aa))=false from rfl];simp only[gJ,aj,ob,show sx (c::r) (0:Int)=some c from rfl,uB,ar];rw[show(((c.toNat:Nat):Int)==47)=decide (c=47)from kG c 47 (by decide)]
 rw[t];cases hd:dts S
 ·simp only[af,ob,u4,u3,u2,bs,aC];unfold jk;by_cases j:S.head?=some 47
  ·have D:1<=S.length:=by
    have:=fD (S:=S) (p:=0) (c:=47) (by rw[cg];exact j);omega
   have b:=La (S:=S) (p:=0) 1 3 d0 [] [];rw[cg,aq j,show((0:Nat):Int)=0 from rfl]at b;have d:=Ky (S:=S) (p:=0) D (by omega) nv (KF:=3) 0 1 rfl [] [];rw[show((0:Nat):Int)=0 from rfl]at d;rw[aq j,ae j];simp only[aj,obs,sm,ob,u7,u6,u5,u4,u3,u2,b,bV,af,u8,d];rw[show(0+1)=1 from rfl];cases toX S 1 3 d0 0 with
   | inl f=>rfl
   | inr q=>rfl
  ·rw[am j,ab j];obtain⟨A,x⟩:=qy S 0 (by omega) (by omega);rw[show((0:Nat):Int)=0 from rfl]at x;rw[x];cases m:ch S 0 with
   | inl f=>
    have C:=m7 (dh _) m;rw[xU];simp only[af,ob];rw[show((d4 (d8 ((false,false,([]:aa),(0:Int),(0:Int),([]:aa),([]:aa),(0:Int),(0:Int),(0:Int),A,S,(f.1:Int),(f.2.1:Int))))).2 != 0)=true from by show(((f.2.1:Nat):Int) != 0)=true;simp;omega];rfl
   | inr r=>
    obtain⟨y,F,H,E⟩:=gU (dh _) m;obtain⟨_,_,_,_,_,_,_,_,_,_,z⟩:=H4 (dh _) m;rw[cg,rF]at z;have hv':ei 20000000 (S.take (enR r))=some (lvR S 0 r):=by
     unfold lvR;rw[cg,rF];exact z
    rw[tV];simp only[af,ob];show obs (obs (cond ((0:Int) != 0) _ (ob (bx S.length ((enR r:Nat):Int)) _)) _ _) _ _=_;rw[fe E];simp only[dX,af,ob,cg,hv'];rw[show((d4 (d8 ((tdR r).1,(tdR r).2.1,(tdR r).2.2.1,(tdR r).2.2.2.1,(tdR r).2.2.2.2.1,(tdR r).2.2.2.2.2.1,(tdR r).2.2.2.2.2.2.1,(tdR r).2.2.2.2.2.2.2.1,(tdR r).2.2.2.2.2.2.2.2.1,(tdR r).2.2.2.2.2.2.2.2.2,((plR r:Nat):Int),S,((enR r:Nat):Int),(0:Int)))).1==len S)=decide (enR r=S.length)from natB _ _];by_cases u:enR r=S.length
    ·have n:(S.drop (enR r)).head?=none:=by rw[u,vn];rfl
     rw[aq u,n];simp only[reduceCtorEq,aC];rw[ab (by omega)];rfl
    ·have s:enR r<S.length:=by omega
     have B:=bg s;rw[am u,af];unfold jl;show obs (obs (ob (ob (sx S ((enR r:Nat):Int)) _) _) _ _) _ _=_;rw[dw B];have n:(S.drop (enR r)).head?=some S[enR r]:=by rw[bK B];rfl
     simp only[ob];rw[show(((S[enR r].toNat:Nat):Int)==47)=decide (S[enR r]=47)from kG _ 47 (by decide),show ap10 (aL 20000000) (iF ((tdR r).1,(tdR r).2.1,(tdR r).2.2.1,(tdR r).2.2.2.1,(tdR r).2.2.2.2.1,(tdR r).2.2.2.2.2.1,(tdR r).2.2.2.2.2.2.1,(tdR r).2.2.2.2.2.2.2.1,(tdR r).2.2.2.2.2.2.2.2.1,(tdR r).2.2.2.2.2.2.2.2.2,((plR r:Nat):Int),S,((enR r:Nat):Int),(0:Int)))=some (if exT (tdR r)then 1 else 0)from reT y];have b:=La (S:=S) (p:=enR r) (lvR S 0 r) 1 (tdR r) [] [];by_cases k:S[enR r]=47
     ·rw[n,aq k,ae (show some S[enR r]=some 47 by rw[k])];rw[n,aq (by rw[k])]at b;simp only[aj];cases hx:exT (tdR r)
      ·rfl
      ·have d:=Ky (S:=S) (p:=enR r) (by omega) (by omega) y (KF:=1) (lvR S 0 r) (lvR S 0 r) rfl [] [];simp only[aH,show((1:Int)==0)=false from rfl,u10,u9,u8,u7,u6,u5,u4,u3,u2,af,obs,sm,ob];rw[show dB 20000000 S (lvR S 0 r) ((enR r:Nat):Int) 1 (tdR r) [] []=_ from b];simp only[bV,af];rw[d];cases toX S (enR r+1) 1 (tdR r) (lvR S 0 r)with
       | inl f=>rfl
       | inr q=>rfl
     ·rw[n,am k,ab (show¬some S[enR r]=some 47 by simpa using k),ae s];rw[n,am (by simpa using k)]at b;simp only[af,u10,u9,u8,u7,u6,u5,u4,u3,u2,obs,sm,ob];rw[show dB 20000000 S (lvR S 0 r) ((enR r:Nat):Int) 1 (tdR r) [] []=_ from b];rfl
 ·have v:S.head?≠some 47:=by
   obtain⟨r,rfl⟩:=zG.1 hd;simp
  rw[ab v,ae rfl];have b:=La (S:=S) (p:=2) 1 2 d0 [] [];rw[show((2:Nat):Int)=2 from rfl]at b;simp only[aj,obs,sm,ob,u7,u6,u5,u4,u3,u2,b,u8];by_cases hs:(S.drop 2).head?=some 47
  ·have d:=Ky (S:=S) (p:=2) (fD hs) (by omega) nv (KF:=2) 0 1 rfl [] [];rw[show((2:Nat):Int)=2 from rfl]at d;rw[aq hs,ae hs];simp only[bV,af,d];rw[show(2+1)=3 from rfl];cases toX S 3 2 d0 0 with
   | inl f=>rfl
   | inr q=>rfl
  ·rw[am hs,ab hs];rfl
def okB(K:Int)(x:TD):Prop:=(K=1/\cF x=0/\exT x=true)\/((K=2\/K=3)/\x=d0)
inductive RightP:Int->TD->Int->TD->Int->TD->Bool->Bool->List TI->Prop where
 | single {x:TD} (hs:smT x) (hc:cF x=0):RightP 1 x 0 d0 0 d0 false false []
 | interval {KF:Int} {x:TD} {KT:Int} {y:TD} (hx:smT x) (hy:smT y) (hp:rC KF x KT y=0):RightP 2 d0 KF x KT y false false []
 | set {K:Int} {e l:Bool} {I:List TI} (P:SetP K d0 0 d0 0 d0 e l I) (hs:∀t∈I,smI t):RightP K d0 0 d0 0 d0 e l I
def E4{k:Int}{D:TD}{KF:Int}{DF:TD}{KT:Int}{DT:TD}{e l:Bool}{I:List TI}(h:RightP k D KF DF KT DT e l I):(ma k D KF DF KT DT e l I).2=0:=by
 cases h with
 | single hs hc=>rw[(BD hs hc).first]
 | interval hx hy hp=>rw[(xK hx hy hp).first]
 | set P hs=>exact P.set
def TT{k:Int}{D:TD}{KF:Int}{DF:TD}{KT:Int}{DT:TD}{e l:Bool}{I:List TI}(h:RightP k D KF DF KT DT e l I):smE D DF DT I:=by
 cases h with
 | single hs hc=>exact⟨hs,nv,nv,λt a=>by cases a⟩
 | interval hx hy hp=>exact⟨nv,hx,hy,λt a=>by cases a⟩
 | set P hs=>exact⟨nv,nv,nv,hs⟩
def RP:(Nat×Nat)⊕(Int×TD×Int×TD×Int×TD×Int)⊕(Int×Bool×Bool×List TI)->Prop
 | .inl f=>f.2≠0
 | .inr (.inl (K,D,KF,DF,KT,DT,L))=>RightP K D KF DF KT DT false false []/\(K=1\/K=2)
 | .inr (.inr (K,e,l,I))=>RightP K d0 0 d0 0 d0 e l I/\RU K
def OD:xE 2 d0=0/\xE 3 d0=0:=⟨by kernel_rfl,by kernel_rfl⟩
def wC{S:aa}{p:Nat}(hp:p<=S.length){KF:Int}{DF:TD}{lv:Int}(h:KF=1->cF DF=0/\exT DF=true){KT:Int}{DT:TD}{L:Int}(d:toX S p KF DF lv=.inr (KT,DT,L)):smT DT/\rC KF DF KT DT=0:=by
 unfold toX at d;cases c:toP S p KF DF lv with
 | inl f=>rw[c]at d;cases d
 | inr q=>
  obtain⟨j,i,l,q⟩:=q;rw[c]at d;simp only[]at d;split at d
  ·cases d
  ·rename_i k;have d:=tH d;simp only[bi]at d;obtain⟨rfl,rfl,rfl⟩:=d;refine⟨(UI hp c).2,?_⟩;unfold toP at c;split at c
   ·rename_i hc;have c:=tH c;simp only[bi]at c;obtain⟨rfl,rfl,_,_⟩:=c;obtain⟨rfl,_⟩:=hc;obtain⟨a,b⟩:=h rfl;rw[IJ (GM a b) OD.2];simp
   ·split at c
    ·rename_i hc;have c:=tH c;simp only[bi]at c;obtain⟨rfl,rfl,_,_⟩:=c;obtain⟨rfl,_⟩:=hc;obtain⟨a,b⟩:=h rfl;rw[IJ (GM a b) OD.1];simp
    ·cases g:ch S p with
     | inl f=>rw[g]at c;cases c
     | inr r=>
      rw[g]at c;simp only[]at c;split at c
      ·split at c
       ·rename_i e;have c:=tH c;simp only[bi]at c;obtain⟨rfl,rfl,_,rfl⟩:=c;rcases e with e | e
        ·exact absurd e k
        ·exact e
       ·cases c
      ·cases c
def EB{S:aa}{p:Nat}(h:p<=S.length){KF:Int}{DF:TD}{lv:Int}{f:Nat×Nat}(a:toX S p KF DF lv=.inl f):f.2≠0:=by
 unfold toX at a;cases b:toP S p KF DF lv with
 | inl g=>rw[b]at a;cases a;exact zq h b
 | inr q=>
  rw[b]at a;simp only[]at a;split at a
  ·cases a;simp
  ·cases a
def xg(S:aa):RP (nP S):=by
 unfold nP;split
 ·unfold xy;cases c:pp S 0 with
  | inl f=>exact xd (dh _) c
  | inr q=>
   obtain⟨K,e,l,I,p⟩:=q;by_cases hp:p<S.length
   ·simp only[ae hp];show(5:Nat)≠0;omega
   ·simp only[ab hp];have ok:=ME (dh _) c;exact⟨.set (Ik ok.kind (show(ma K d0 0 d0 0 d0 e l I).2=0 from ok.ok)) ok.sm,ok.kind⟩
 ·split
  ·rename_i h;have hp:1<=S.length:=fD (S:=S) (p:=0) (by rw[cg];exact h);cases c:toX S 1 3 d0 0 with
   | inl f=>exact EB hp c
   | inr q=>
    obtain⟨KT,DT,L⟩:=q;obtain⟨a,b⟩:=wC hp (λh=>by omega) c;exact⟨.interval nv a b,.inr rfl⟩
  ·split
   ·split
    ·rename_i h;have hp:3<=S.length:=fD h;cases c:toX S 3 2 d0 0 with
     | inl f=>exact EB hp c
     | inr q=>
      obtain⟨KT,DT,L⟩:=q;obtain⟨a,b⟩:=wC hp (λh=>by omega) c;exact⟨.interval nv a b,.inr rfl⟩
    ·show(5:Nat)≠0;omega
   ·cases c:ch S 0 with
    | inl f=>exact m7 (dh _) c
    | inr r=>
     obtain⟨g,i,_,_⟩:=gU (dh _) c;simp only[];split
     ·rename_i h;have hp:enR r+1<=S.length:=fD h;split
      ·rename_i hx;cases d:toX S (enR r+1) 1 (tdR r) (lvR S 0 r)with
       | inl f=>exact EB hp d
       | inr q=>
        obtain⟨KT,DT,L⟩:=q;obtain⟨a,b⟩:=wC hp (λ_=>⟨i,hx⟩) d;exact⟨.interval g a b,.inr rfl⟩
      ·show(11:Nat)≠0;omega
     ·split
      ·show(5:Nat)≠0;omega
      ·exact⟨.single g i,.inl rfl⟩
def Vl{k:Int}{D:TD}{KF:Int}{DF:TD}{KT:Int}{DT:TD}{e l:Bool}{I:List TI}(h:RightP k D KF DF KT DT e l I):I.length<=256:=by
 cases h with
 | single=>simp
 | interval=>simp
 | set P=>exact P.most
def vw(n:Nat)(a:Int)(S:aa)(p K:Int)(D:TD)(KF:Int)(DF:TD)(KT:Int)(DT:TD)(e l:Bool)(lv:Int):
  cj n a S p K D KF DF KT DT e l lv=some (K,D,KF,DF,KT,DT,e,l,mx a lv):=by
 unfold cj mx;rw[bB]
def EZ(K:Int)(D:TD)(KF:Int)(DF:TD)(KT:Int)(DT:TD)(e l:Bool)(lv:Int){S:aa}{p:Nat}(h:p<=S.length)(c:S.length<100000):
  cD 20000000 K D KF DF KT DT e l lv S (p:Int)=some (match ch S p with
   | .inl f=>.inl ((f.1:Int),(f.2.1:Int),K,D,KF,DF,KT,DT,e,l,lv,S,(f.2.2:Int))
   | .inr r=>.inr (tdR r,((plR r:Nat):Int),K,D,KF,DF,KT,DT,e,l,mx (lvR S p r) lv,S,((enR r:Nat):Int))):=by
 unfold cD;rw[tc _ _ _ h,DZ S p h c];cases a:ch S p with
 | inl f=>rfl
 | inr r=>
  obtain⟨i,j,k,b⟩:=gU h a;obtain⟨_,_,_,_,_,_,_,_,_,g⟩:=NQ h a;rw[CC];simp only[obs,sm,ob];rw[show(d4 (d8 ((tdR r).1,(tdR r).2.1,(tdR r).2.2.1,(tdR r).2.2.2.1,(tdR r).2.2.2.2.1,(tdR r).2.2.2.2.2.1,(tdR r).2.2.2.2.2.2.1,(tdR r).2.2.2.2.2.2.2.1,(tdR r).2.2.2.2.2.2.2.2.1,(tdR r).2.2.2.2.2.2.2.2.2,((plR r:Nat):Int),S,((enR r:Nat):Int))))=((enR r:Nat):Int)from rfl,tc _ _ _ b];simp only[];have d:w64 (len (S.drop p) - len (S.drop (enR r)))=((enR r - p:Nat):Int):=by
   show wrap .i64 (((S.drop p).length:Int) - ((S.drop (enR r)).length:Int))=_;rw[bj,bj,wrap_i64 _ (by omega) (by omega)];omega
  rw[d,fe (by rw[bj];omega)];simp only[cg];rw[show jX 20000000 ((S.drop p).take (enR r - p)) (iF ((tdR r).1,(tdR r).2.1,(tdR r).2.2.1,(tdR r).2.2.2.1,(tdR r).2.2.2.2.1,(tdR r).2.2.2.2.2.1,(tdR r).2.2.2.2.2.2.1,(tdR r).2.2.2.2.2.2.2.1,(tdR r).2.2.2.2.2.2.2.2.1,(tdR r).2.2.2.2.2.2.2.2.2,((plR r:Nat):Int),S,((enR r:Nat):Int)))=_ from g];simp only[vw,u9,u8,u7,u6,u5,u4,u3,u2];rfl
def BZ{x:TD}(h:smT x)(hc:cF x=0)(a K:Int)(D:TD)(KF:Int)(DF:TD)(KT:Int)(DT:TD)(e l:Bool)(lv:Int)(S:aa)(p:Int):
  cf 20000000 x a K D KF DF KT DT e l lv S p=some (if exT x=true then .inr (1,x)else .inl (a,11)):=by
 unfold cf;rw[bcT h,K5,ae hc];cases exT x<;>rfl
def IQ(K:Int){DF:TD}(D:smT DF)(KF:Int)(lv:Int){S:aa}{p:Nat}(h:p<=S.length)(hS:S.length<100000):
  ∃y,ep 20000000 K d0 KF DF 0 d0 false false lv S (p:Int)=some y/\UC S d0 KF DF false false (toP S p KF DF lv) y:=by
 have q:∀(n:Int) (s:n=if KF=1 then lv else mx 1 lv) (W:¬(KF=1/\p=S.length)) (hd:¬(KF=1/\dts (S.drop p)=true)),∃y,(obs (cD 20000000 2 d0 KF DF 0 d0 false false n S (p:Int)) (u13 λI F z L x N B E M P G R U=>(some (.inr (I,F,z,L,x,N,B,E,M,P,G,R,U)))) (u13 λw u g i c d v t e j k a b=>(obs (cf 20000000 w u g i c d v t e j k a b) (u2 λT Q=>(some (.inr (T,Q,g,i,c,d,v,t,e,j,k,a,b)))) (u2 λl m=>(ob (aY 20000000 a b) (u2 λ_ A=>(cond (!A) (ob (ap10 (ap10 (gg 20000000 c) d l) m) λC=>(cond (C != 0) (ob (aM 20000000 u 11 a b) (u2 λO H=>(some (.inr (O,H,g,i,c,d,l,m,e,j,k,a,b))))) (some (.inl (g,i,c,d,l,m,e,j,k,a,b))))) (some (.inl (g,i,c,d,l,m,e,j,k,a,b))))))))))=some y/\UC S d0 KF DF false false (toP S p KF DF lv) y:=by
  intro n s W hd;unfold toP;rw[EZ 2 d0 KF DF 0 d0 false false n h hS,ab W,ab hd];cases Z:ch S p with
  | inl f=>exact⟨_,rfl,_,rfl⟩
  | inr r=>
   obtain⟨V,Y,l1,X⟩:=gU h Z;simp only[obs,sm,ob,u13,u12,u11,u10,u9,u8,u7,u6,u5,u4,u3,u2];rw[BZ V Y];cases hx:exT (tdR r)
   ·exact⟨_,rfl,_,rfl⟩
   ·simp only[aH,oz _ _ _ X,E3 X];by_cases J:enR r<S.length
    ·rw[aq J,ae (.inl J)];exact⟨_,rfl,by rw[<-s];rfl⟩
    ·rw[am J];simp only[gJ,aj];rw[J2 D V];simp only[];by_cases hp:rC KF DF 1 (tdR r)=0
     ·rw[ae (.inr hp),show(rC KF DF 1 (tdR r) != 0)=false from by simp[hp]];exact⟨_,rfl,by rw[<-s];rfl⟩
     ·rw[ab (by rintro(h | h)<;>contradiction),show(rC KF DF 1 (tdR r) != 0)=true from by simp[hp]];exact⟨_,rfl,_,rfl⟩
 unfold ep;by_cases o:KF=1
 ·rw[show(KF==1)=true from by simp[o],aj,oz _ _ _ h];simp only[ob,u2,E3 h,vw];by_cases hp:p<S.length
  ·rw[aq hp];simp only[bV,af];rw[mr _ _ _ _ h (by omega)];cases hd:dts (S.drop p)
   ·rw[ab (show¬(S.drop p).take [(46:UInt8),46].length=[46,46]fromλh=>by unfold dts at hd;rw[show(S.drop p).take 2=[46,46]from h]at hd;cases hd)];exact q lv (by rw[ae o]) (by omega) (by rw[hd];simp)
   ·rw[ae (show(S.drop p).take [(46:UInt8),46].length=[46,46]from eq_of_beq hd)];refine⟨_,rfl,?_⟩;unfold toP;rw[ab (by omega),ae ⟨o,hd⟩];rfl
  ·rw[am hp];refine⟨_,rfl,?_⟩;unfold toP;rw[ae ⟨o,by omega⟩];rfl
 ·rw[show(KF==1)=false from by simp[o],af,vw];simp only[ob,u9,u8,u7,u6,u5,u4,u3,u2];exact q (mx 1 lv) (by rw[ab o]) (by simp[o]) (by simp[o])
def OC(S:aa):(Nat×Nat)⊕(Int×TD×Int×TD×Int×TD×Int×Nat)⊕(Int×Bool×Bool×List TI×Nat)->((Int×Int×Int×TD×Int×TD×Int×TD×Bool×Bool×Int×aa×Int)⊕(Int×TD×Int×TD×Int×TD×Nat×Nat×Bool×Bool×Int×aa×Int×List TI)⊕(Int×TD×Int×TD×Int×TD×Bool×Bool×Int×aa×Int))->Prop
 | .inl f,y=>∃z,y=.inl ((f.1:Int),(f.2:Int),z)
 | .inr (.inl (K,D,KF,DF,KT,DT,L,p)),y=>y=.inr (.inr (K,D,KF,DF,KT,DT,false,false,L,S,(p:Int)))
 | .inr (.inr (K,e,l,I,p)),y=>y=.inr (.inl (K,d0,0,d0,0,d0,I.length,I.length,e,l,2,S,(p:Int),I))
def Nz{S:aa}(i:S.length<100000):∃y,gq 20000000 0 d0 0 d0 0 d0 false false 0 S 0=some y/\OC S (Ap S) y:=by
 have z0:(0:Int)=((0:Nat):Int):=rfl;have O:=oz 20000000 S 0 (dh _);rw[cg,show((0:Nat):Int)=0 from rfl]at O;have N:=QY (S:=S) (a:=0) (dh _) i;rw[show((0:Nat):Int)=0 from rfl]at N;have Q:=F8 (S:=S) (p:=0) (dh _) i 47;rw[cg,show((0:Nat):Int)=0 from rfl]at Q;have T:=JD (S:=S) (p:=0) (dh _) i;rw[cg,show((0:Nat):Int)=0 from rfl]at T;have P:=EZ 0 d0 0 d0 0 d0 false false 0 (S:=S) (p:=0) (dh _) i;rw[show((0:Nat):Int)=0 from rfl]at P;have x:((peek S).1==91)=decide (S.head?=some 91):=BY S 91 (by decide);have o:((peek S).1==123)=decide (S.head?=some 123):=BY S 123 (by decide);have set:(S.head?=some 91\/S.head?=some 123)->∃y,(obs (mJ 20000000 S 0) (u4 λX U v3 W=>(some (.inl (X,U,0,d0,0,d0,0,d0,false,false,0,v3,W)))) (u13 λv5 v6 v7 v8 Y v M B E K n m k=>(ob (eY 20000000 2 n m k v5 v6 v7 v8 Y v M B E K 0) (u11 λG w J A D C t F s I u=>(some (.inr (.inl (G,w,J,A,D,C,t,F,s,I,u,n,m,k))))))))=some y/\OC S (Ap S) y:=by
  intro h;rw[N];unfold Ap;rw[ae h];cases pp S 0 with
  | inl f=>exact⟨_,rfl,_,rfl⟩
  | inr q=>exact⟨_,rfl,rfl⟩
 unfold gq;rw[O];simp only[ob,u2,x,o];by_cases g:S.head?=some 91
 ·rw[aq g,aj];exact set (.inl g)
 rw[am g,af];by_cases d:S.head?=some 123
 ·rw[aq d,aj];exact set (.inr d)
 rw[am d,af,Q];clear set;unfold Ap;rw[ab (show¬(S.head?=some 91\/S.head?=some 123)fromλh=>h.elim g d)];simp only[u3,u2];by_cases e:S.head?=some 47
 ·simp only[aq e,ae e,aj];have H:1<=S.length:=by
   have:=fD (S:=S) (p:=0) (c:=47) (by rw[cg];exact e);omega
  obtain⟨y,l,b⟩:=IQ 0 nv 3 0 (S:=S) (p:=1) H i;rw[show(((0+1:Nat)):Int)=((1:Nat):Int)from rfl,l];cases j:toP S 1 3 d0 0 with
  | inl f=>
   rw[j]at b;obtain⟨z,rfl⟩:=b;exact⟨_,rfl,_,rfl⟩
  | inr q=>
   rw[j]at b;obtain⟨KT,DT,L,q⟩:=q;subst b;exact⟨_,rfl,rfl⟩
 ·simp only[am e,ab e,af];rw[show(((0:Nat)):Int)=0 from rfl,T];simp only[];cases hd:dts S
  ·rw[ab (by simp),ab (by simp),af,show(((0:Nat)):Int)=0 from rfl,P];cases Z:ch S 0 with
   | inl f=>exact⟨_,rfl,_,rfl⟩
   | inr r=>
    obtain⟨R,V,l1,l2⟩:=gU (dh _) Z;simp only[obs,sm,ob,u13,u12,u11,u10,u9,u8,u7,u6,u5,u4,u3,u2];rw[F8 l2 i,mx0 (LG S 0 r).1];simp only[];by_cases hs:(S.drop (enR r)).head?=some 47
    ·simp only[aq hs,ae hs,bV,af];rw[BZ R V];cases hx:exT (tdR r)
     ·exact⟨_,rfl,_,rfl⟩
     ·obtain⟨y,l,b⟩:=IQ 0 R 1 (lvR S 0 r) (S:=S) (p:=enR r+1) (fD hs) i;simp only[aH];rw[l];cases j:toP S (enR r+1) 1 (tdR r) (lvR S 0 r)with
      | inl f=>
       rw[j]at b;obtain⟨z,rfl⟩:=b;exact⟨_,rfl,_,rfl⟩
      | inr q=>
       rw[j]at b;obtain⟨KT,DT,L,q⟩:=q;subst b;exact⟨_,rfl,rfl⟩
    ·simp only[am hs,ab hs];exact⟨_,rfl,rfl⟩
  ·rw[ae rfl,ae rfl,aj];have H:2<=S.length:=by
    have:=lZ (S:=S) (p:=0) (by rw[cg];exact hd);omega
   rw[show(((0+2:Nat)):Int)=((2:Nat):Int)from rfl,HO H i];by_cases hs:(S.drop 2).head?=some 47
   ·simp only[ae hs];obtain⟨y,l,b⟩:=IQ 0 nv 2 0 (S:=S) (p:=3) (fD hs) i;rw[show(((2+1:Nat)):Int)=((3:Nat):Int)from rfl];simp only[obs,sm,ob,u2,l];cases j:toP S 3 2 d0 0 with
    | inl f=>
     rw[j]at b;obtain⟨z,rfl⟩:=b;exact⟨_,rfl,_,rfl⟩
    | inr q=>
     rw[j]at b;obtain⟨KT,DT,L,q⟩:=q;subst b;exact⟨_,rfl,rfl⟩
   ·simp only[ab hs];exact⟨_,rfl,_,rfl⟩
def E7:(Nat×Nat)⊕(Int×TD×Int×TD×Int×TD×Int)⊕(Int×Bool×Bool×List TI)->(Int×TD×Int×TD×Int×TD×Bool×Bool×Int×Int×Int)⊕(Int×TD×Int×TD×Int×TD×Nat×Nat×Bool×Bool×Int×Int×Int×List TI)
 | .inl f=>.inl (0,d0,0,d0,0,d0,false,false,0,(f.1:Int),(f.2:Int))
 | .inr (.inl (K,D,KF,DF,KT,DT,L))=>.inl (K,D,KF,DF,KT,DT,false,false,L,0,0)
 | .inr (.inr (K,e,l,I))=>.inr (K,d0,0,d0,0,d0,I.length,I.length,e,l,2,0,0,I)
def BX{S:aa}(g:S.length<=16384):dU 20000000 S=some (E7 (nP S)):=by
 obtain⟨y,c,a⟩:=Nz (S:=S) (by omega);unfold dU dG;rw[show decide (len S>16384)=false from am (by show¬(16384:Int)<((S.length:Nat):Int);omega),af,c,D5];cases b:Ap S with
 | inl f=>
  have d:=HZ b;rw[b]at a;obtain⟨z,rfl⟩:=a;simp only[obs,sm,ob,u13,u12,u11,u10,u9,u8,u7,u6,u5,u4,u3,u2];rw[show(((f.2:Nat):Int) != 0)=true from by simp;omega];rfl
 | inr q=>
  rw[b]at a;cases q with
  | inl q=>
   obtain⟨K,D,KF,DF,KT,DT,L,p⟩:=q;simp only[];subst a;simp only[obs,sm,ob,u13,u12,u11,u10,u9,u8,u7,u6,u5,u4,u3,u2];by_cases hp:p<S.length
   ·rw[ae hp,aq (show(p:Int)<((S.length:Nat):Int)by omega)];rfl
   ·rw[ab hp,am (show¬(p:Int)<((S.length:Nat):Int)by omega)];rfl
  | inr q=>
   obtain⟨K,e,l,I,p⟩:=q;subst a;simp only[obs,sm,ob,u16,u15,u14,u13,u12,u11,u10,u9,u8,u7,u6,u5,u4,u3,u2];by_cases hp:p<S.length
   ·rw[ae hp,aq (show(p:Int)<((S.length:Nat):Int)by omega)];rfl
   ·rw[ab hp,am (show¬(p:Int)<((S.length:Nat):Int)by omega)];rfl
def bang(t:aa):Prop:=t=[]\/t=[33]
def se{f:UInt8->Bool}(b:f 33=false):∀(k:Nat) (l:aa) {t:aa},bang t->bq f k (l++t)<=l.length
 | 0,_,_,_=>by simp[bq]
 | k+1,[],t,a=>by rcases a with rfl | rfl<;>simp[bq,b]
 | k+1,c::l,t,a=>by
  have:=se b k l a;simp only[dq,bq,aP];split<;>omega
def qC{c:UInt8}(hc:c≠33)(l:aa){t:aa}(b:bang t):dI c (l++t)<=l.length:=by
 cases l with
 | nil=>
  rcases b with rfl | rfl
  ·simp[dI]
  ·unfold dI;rw[ab (by simp;exactλh=>hc h.symm)];exact dh _
 | cons a l=>
  have:=jH c (a::l++t);simp only[aP];omega
def Nh(l:aa){t:aa}(b:bang t):mkN (l++t)<=l.length:=by
 cases l with
 | nil=>rcases b with rfl | rfl<;>decide
 | cons a l=>
  have:=Qc (a::l++t);simp only[aP];omega
def nEnd:Nat⊕(Nat×Nat)->Nat
 | .inl k=>k
 | .inr p=>p.2
def yEnd:Nat⊕YR->Nat
 | .inl k=>k
 | .inr y=>y.2.2.2.2.2
def KB(d:UInt8)(l:aa){t:aa}(a:bang t):nEnd (numU d (l++t))<=l.length+2:=by
 cases l with
 | nil=>
  rcases a with rfl | rfl
  ·simp[qX,nEnd]
  ·rw[dW,ko,ab (by decide)];exact aQ _
 | cons e l=>
  rw[dq,ko];split
  ·show 3<=l.length+1+2;omega
  ·show 2<=l.length+1+2;omega
def K4(l:aa){t:aa}(a:bang t):nEnd (numT (l++t))<=l.length+1:=by
 cases l with
 | nil=>
  rcases a with rfl | rfl
  ·simp[uV,nEnd]
  ·rw[dW,lG,ab (by decide)];exact aQ _
 | cons d l=>
  rw[dq,lG];split
  ·have:=KB d l a;show _<=l.length+1+1;omega
  ·show 1<=l.length+1+1;omega
def xl{c:UInt8}(hc:c≠33)(l:aa){t:aa}(b:bang t):nEnd (numS c (l++t))<=l.length:=by
 cases l with
 | nil=>
  rcases b with rfl | rfl
  ·simp[si,nEnd]
  ·rw[dW,ks,ab (λh=>hc h.symm)];exact aQ _
 | cons a l=>
  rw[dq,ks];split
  ·exact K4 l b
  ·exact dh _
def KV(g:Bool)(o:Nat)(l:aa){t:aa}(e:bang t):yEnd (pX g o (l++t))<=o+l.length:=by
 cases l with
 | nil=>
  rcases e with rfl | rfl
  ·exact aQ _
  ·rw[dW,pX,ab (by decide)];exact aQ _
 | cons c r=>
  have q:=se (f:=bm) (by decide) 16 r e;rw[dq,pX];generalize u:bq bm 16 (r++t)=K at q;split
  ·have m:List.drop (1+K) (c::(r++t))=List.drop (1+K) (c::r)++t:=by
    rw[<-dq,uC (by simp;omega)]
   rw[m];have b:=xl (c:=69) (by decide) (List.drop (1+K) (c::r)) e;rw[bj,aP]at b;cases h:numS 69 (List.drop (1+K) (c::r)++t)with
   | inl j=>
    rw[h]at b;have b:j<=r.length+1 - (1+K):=b;show o+(1+K)+j<=o+(r.length+1);omega
   | inr p=>
    obtain⟨x,j⟩:=p;rw[h]at b;have b:j<=r.length+1 - (1+K):=b;simp only[];have k:List.drop (1+K+j) (c::(r++t))=List.drop (1+K+j) (c::r)++t:=by
     rw[<-dq,uC (by simp;omega)]
    rw[k];have a:=xl (c:=83) (by decide) (List.drop (1+K+j) (c::r)) e;rw[bj,aP]at a;cases d:numS 83 (List.drop (1+K+j) (c::r)++t)with
    | inl i=>
     rw[d]at a;have a:i<=r.length+1 - (1+K+j):=a;show o+(1+K)+j+i<=o+(r.length+1);omega
    | inr n=>
     obtain⟨s,i⟩:=n;rw[d]at a;have a:i<=r.length+1 - (1+K+j):=a;show o+(1+K)+j+i<=o+(r.length+1);omega
  ·show o<=o+(r.length+1);omega
def HG(g:Bool)(o:Nat)(l:aa){t:aa}(d:bang t):yEnd (qZ g o (l++t))<=o+l.length:=by
 have h:=se (f:=isDX) (by decide) 4 l d;unfold qZ;split
 ·show o+_<=_;omega
 ·have e:List.drop 4 (l++t)=List.drop 4 l++t:=uC (by omega);rw[e];have a:=xl (c:=83) (by decide) (List.drop 4 l) d;rw[bj]at a;cases b:numS 83 (List.drop 4 l++t)with
  | inl i=>
   rw[b]at a;have a:i<=l.length - 4:=a;show o+4+i<=_;omega
  | inr p=>
   obtain⟨s,i⟩:=p;rw[b]at a;have a:i<=l.length - 4:=a;show o+4+i<=_;omega
def HV(l:aa){t:aa}(d:bang t):yEnd (mO (l++t))<=l.length:=by
 unfold mO;have b:=qC (c:=89) (by decide) l d;split
 ·rename_i h;rw[h]at b;have e:List.drop 1 (l++t)=List.drop 1 l++t:=uC b;have a:=qC (c:=45) (by decide) (List.drop 1 l) d;rw[bj]at a;rw[e];generalize dI 45 (List.drop 1 l++t)=q at a;rw[uC (show 1+q<=l.length by omega)];have:=KV (q==1) (1+q) (List.drop (1+q) l) d;rw[bj]at this;omega
 ·have a:=qC (c:=45) (by decide) l d;generalize dI 45 (l++t)=q at a;rw[uC a];have:=HG (q==1) q (List.drop q l) d;rw[bj]at this;omega
structure Bd(T:aa)(N:Nat):Prop where
 le:N<=T.length
 mkr:∀{p:Nat},p<=N->mkE T p<=N
 two:∀{p:Nat},p<=N->p+twoN (T.drop p)<=N
 ta:∀{p:Nat},p<=N->p+dI 45 (T.drop p)<=N
 ys:∀{p:Nat},p<=N->p+yEnd (mO (T.drop p))<=N
 dt:∀{p:Nat},p<=N->dts (T.drop p)=true->p+2<=N
 hd:∀{p:Nat} {c:UInt8},p<=N->c≠33->(T.drop p).head?=some c->p+1<=N
def Tn(S:aa){t:aa}(d:bang t):Bd (S++t) S.length:=by
 have g:∀{p:Nat},p<=S.length->(S++t).drop p=S.drop p++t:=λh=>uC h;have e:∀p,(S.drop p).length=S.length - p:=λp=>bj;refine⟨by simp,λ{p} h=>?_,λ{p} h=>?_,λ{p} h=>?_,λ{p} h=>?_,λ{p} h hd=>?_,λ{p c} h hc hd=>?_⟩
 ·have:=Nh (S.drop p) d;rw[e]at this;unfold mkE;rw[g h];omega
 ·have:=se (f:=isDX) (by decide) 2 (S.drop p) d;rw[e]at this;unfold twoN;rw[g h];omega
 ·have:=qC (c:=45) (by decide) (S.drop p) d;rw[e]at this;rw[g h];omega
 ·have:=HV (S.drop p) d;rw[e]at this;rw[g h];omega
 ·rw[g h]at hd;have i:=e p;generalize S.drop p=l at hd i;obtain⟨r,j⟩:=zG.1 hd
  match l with
  | []=>rcases d with rfl | rfl<;>simp at j
  | [a]=>rcases d with rfl | rfl<;>simp at j
  | a::b::l=>simp at i;omega
 ·rw[g h]at hd;have i:=e p;generalize S.drop p=l at hd i;cases l with
  | nil=>
   rcases d with rfl | rfl
   ·simp at hd
   ·simp at hd;exact absurd hd.symm hc
  | cons a l=>simp at i;omega
def Qg(r:DR)(N:Nat):Prop:=∀i,plN r.2.2.2.2.2.2.2.2.1 i<=N
def Ll{a b c N:Nat}(d:a<=N)(e:b<=N)(hc:c<=N)(i:Nat):plN (a,b,c) i<=N:=by
 unfold plN;split
 ·exact d
 ·split
  ·exact e
  ·exact hc
def ta1{T:aa}{N:Nat}(B:Bd T N){p:Nat}(h:p<=N)(a:¬dI 45 (T.drop p)=0):p+1<=N:=by
 have:=B.ta h;omega
def okD(N:Nat):Nat⊕DR->Prop
 | .inl k=>k<=N
 | .inr r=>enR r<=N/\Qg r N
def okF(N:Nat):(Nat×Nat×Nat)⊕DR->Prop
 | .inl f=>f.1<=N/\f.2.2<=N
 | .inr r=>enR r<=N/\plR r<=N
def okIt(N:Nat):(Nat×Nat×Nat)⊕(TI×Nat×Nat)->Prop
 | .inl f=>f.1<=N/\f.2.2<=N
 | .inr q=>q.2.1<=N/\q.2.2<=N
def okIs(N:Nat):(Nat×Nat×Nat)⊕(Nat×List Nat×List TI)->Prop
 | .inl f=>f.1<=N
 | .inr q=>q.1<=N/\∀x∈q.2.1,x<=N
def okLd(N:Nat):(Nat×Nat×Nat)⊕(Int×Bool×Bool×List TI×Nat)->Prop
 | .inl f=>f.1<=N
 | .inr q=>q.2.2.2.2<=N
def okP(N:Nat):(Nat×Nat)⊕(Int×TD×Int×Nat)->Prop
 | .inl f=>f.1<=N
 | .inr q=>q.2.2.2<=N
def okX{A:Type}(T:aa)(N:Nat):(Nat×Nat)⊕A->Prop
 | .inl f=>f.1<=N
 | .inr _=>T.length<=N
def Ns{T:aa}{N:Nat}(B:Bd T N){a:Nat}(h:a<=N):okD N (oh T a):=by
 have e:=B.mkr h;have b:=B.ys e;unfold oh;cases hy:mO (T.drop (mkE T a))with
 | inl k=>rw[hy]at b;exact b
 | inr y=>
  rw[hy]at b;have b:mkE T a+y.2.2.2.2.2<=N:=b;have j:=B.mkr b;simp only[];split
  ·exact⟨j,Ll e (dh _) (dh _)⟩
  ·rename_i p;have o:=ta1 B j (λh=>p (.inr h));generalize mkE T (mkE T a+y.2.2.2.2.2)=l at j o p;have g:=B.mkr o;have s:=B.two g;unfold rd2;split
   ·exact s
   ·rename_i u;have t:mkE T (l+1)+2<=N:=by omega
    have i:=B.mkr t;split
    ·exact⟨i,Ll e g (dh _)⟩
    ·rename_i c;have d:=ta1 B i c;generalize mkE T (mkE T (l+1)+2)=r at i d c;have n:=B.mkr d;have q:=B.two n;unfold rd3;split
     ·exact q
     ·rename_i m;have f:mkE T (r+1)+2<=N:=by omega
      exact⟨B.mkr f,Ll e g n⟩
def sQ{T:aa}{N:Nat}(B:Bd T N){a:Nat}(h:a<=N):okF N (ch T a):=by
 have b:=Ns B h;unfold ch;cases c:oh T a with
 | inl k=>rw[c]at b;exact⟨b,b⟩
 | inr r=>
  rw[c]at b;simp only[];split
  ·exact⟨b.1,b.2 0⟩
  ·exact⟨b.2 _,b.1⟩
def I8{T:aa}{N:Nat}(B:Bd T N){en:UInt8}{p:Nat}(h:p<=N):okIt N (l6 T en p):=by
 have a:=sQ B h;unfold l6;cases d:ch T p with
 | inl f=>rw[d]at a;exact a
 | inr r=>
  rw[d]at a;simp only[];split
  ·rename_i hd;have c:=sQ B (B.dt a.1 hd.1);cases b:ch T (enR r+2)with
   | inl f=>rw[b]at c;exact c
   | inr e=>rw[b]at c;exact⟨a.2,c.1⟩
  ·exact⟨a.2,a.1⟩
def Bg{T:aa}{N:Nat}(B:Bd T N){en:UInt8}:∀(r p:Nat) (P:List Nat) (I:List TI),p<=N->(∀x∈P,x<=N)->okIs N (lM T en r p P I)
 | 0,p,P,I,h,c=>h
 | r+1,p,P,I,h,c=>by
  have b:=I8 B (en:=en) h;rw[lM];cases d:l6 T en p with
  | inl f=>rw[d]at b;exact b.1
  | inr q=>
   obtain⟨t,a,g⟩:=q;rw[d]at b;have hP':∀x∈P++[a],x<=N:=λx hx=>by
    rcases lV.1 hx with h | h
    ·exact c x h
    ·rw[ul.1 h];exact b.1
   simp only[];split
   ·rename_i e;exact Bg B r (g+1) _ _ (B.hd b.2 (by decide) e) hP'
   ·exact⟨b.2,hP'⟩
def QI{P:List Nat}{N:Nat}(a:∀x∈P,x<=N)(i:Nat):P.getD i 0<=N:=by
 rw[yI];cases h:P[i]? with
 | none=>exact dh _
 | some x=>exact a x (fE h)
def Po(K:Int):endC K≠33:=by unfold endC;split<;>decide
def QE{T:aa}{N:Nat}(B:Bd T N){K:Int}{e:Bool}{p:Nat}{P:List Nat}{I:List TI}(h:p<=N)(b:∀x∈P,x<=N):okLd N (endL T K e p P I):=by
 have a:(if dts (T.drop p)then p+2 else p)<=N:=by
  split
  ·rename_i hd;exact B.dt h hd
  ·exact h
 unfold endL;generalize(if dts (T.drop p)then p+2 else p)=q at a;split
 ·rename_i c;split
  ·exact B.hd a (Po K) c
  ·exact QI b _
 ·exact a
def Gm{T:aa}{N:Nat}(B:Bd T N){K:Int}{a:Nat}(h:a+1<=N):okLd N (uK T a K):=by
 have d:(if dts (T.drop (a+1))then a+3 else a+1)<=N:=by
  split
  ·rename_i hd;have:=B.dt h hd;omega
  ·exact h
 have b:=Bg B (en:=endC K) 256 _ [] [] d (λx hx=>by cases hx);unfold uK;cases c:lM T (endC K) 256 (if dts (T.drop (a+1))then a+3 else a+1) [] []with
 | inl f=>rw[c]at b;exact b
 | inr q=>
  obtain⟨p,P,I⟩:=q;rw[c]at b;exact QE B b.1 b.2
def MX{T:aa}{N:Nat}(B:Bd T N){a:Nat}(h:a<=N):okLd N (pp T a):=by
 unfold pp;split
 ·rename_i b;exact Gm B (B.hd h (by decide) b)
 ·split
  ·rename_i b;exact Gm B (B.hd h (by decide) b)
  ·exact h
def RN{T:aa}{N:Nat}(B:Bd T N){p:Nat}(h:p<=N){KF:Int}{DF:TD}{lv:Int}:okP N (toP T p KF DF lv):=by
 unfold toP;split
 ·exact h
 ·split
  ·rename_i hd;exact B.dt h hd.2
  ·have a:=sQ B h;cases b:ch T p with
   | inl f=>rw[b]at a;exact a.1
   | inr r=>
    rw[b]at a;simp only[];split
    ·split
     ·exact a.1
     ·exact a.2
    ·exact a.2
def Sv{T:aa}{N:Nat}(B:Bd T N){p:Nat}(h:p<=N){KF:Int}{DF:TD}{lv:Int}:okX T N (toX T p KF DF lv):=by
 have a:=RN B h (KF:=KF) (DF:=DF) (lv:=lv);unfold toX;cases b:toP T p KF DF lv with
 | inl f=>rw[b]at a;exact a
 | inr q=>
  obtain⟨KT,DT,L,q⟩:=q;rw[b]at a;have a:q<=N:=a;simp only[];by_cases c:q<T.length
  ·rw[ae c];exact a
  ·rw[ab c];show T.length<=N;omega
def Lh{T:aa}{N:Nat}(B:Bd T N):okX T N (xy T):=by
 have a:=MX B (dh _);unfold xy;cases b:pp T 0 with
 | inl f=>rw[b]at a;exact a
 | inr q=>
  obtain⟨K,e,l,I,p⟩:=q;rw[b]at a;have a:p<=N:=a;simp only[];by_cases c:p<T.length
  ·rw[ae c];exact a
  ·rw[ab c];show T.length<=N;omega
def BU{T:aa}{N:Nat}(B:Bd T N):okX T N (nP T):=by
 have e:=dh N;have g:∀{c:UInt8},c≠33->T.head?=some c->1<=N:=λ{c} hc h=>by
  have:=B.hd (p:=0) e hc (by rw[cg];exact h);omega
 have i:∀{p:Nat} (hp:p<=N) {KF:Int} {DF:TD} {lv:Int} {D:TD},okX T N (match toX T p KF DF lv with | .inl f=>.inl f | .inr (KT,DT,L)=>.inr (.inl (2,D,KF,DF,KT,DT,L)):(Nat×Nat)⊕(Int×TD×Int×TD×Int×TD×Int)⊕(Int×Bool×Bool×List TI)):=by
  intro p hp KF DF lv D;have a:=Sv B hp (KF:=KF) (DF:=DF) (lv:=lv);cases b:toX T p KF DF lv with
  | inl f=>rw[b]at a;exact a
  | inr q=>rw[b]at a;exact a
 unfold nP;split
 ·have a:=Lh B;cases b:xy T with
  | inl f=>rw[b]at a;exact a
  | inr q=>rw[b]at a;exact a
 ·split
  ·rename_i d;exact i (g (by decide) d)
  ·split
   ·rename_i j;have k:2<=N:=by
     have:=B.dt (p:=0) e (by rw[cg];exact j);omega
    split
    ·rename_i d;exact i (B.hd k (by decide) d)
    ·exact k
   ·have a:=sQ B e;cases b:ch T 0 with
    | inl f=>rw[b]at a;exact a.1
    | inr r=>
     rw[b]at a;simp only[];split
     ·rename_i d;split
      ·exact i (B.hd a.1 (by decide) d)
      ·exact a.2
     ·by_cases l:enR r<T.length
      ·rw[ae l];exact a.1
      ·rw[ab l];have:enR r<=N:=a.1;show T.length<=N;omega
def H8:cr 20000000=some true:=by kernel_rfl
def Pi(n:Nat)(K:Int)(D:TD)(KF:Int)(DF:TD)(KT:Int)(DT:TD)(e l:Bool):mE n K D KF DF KT DT e l=kV n K D KF DF KT DT e l []:=by
 unfold mE kV;rw[show ny n K D KF DF KT DT e l=lU n K D KF DF KT DT e l []from rfl];rfl
def HC{K:Int}{D:TD}{KF:Int}{DF:TD}{KT:Int}{DT:TD}{e l:Bool}(h:smE D DF DT []):
  kg 20000000 K D KF DF KT DT e l=some (ma K D KF DF KT DT e l []).2:=by
 unfold kg;rw[Pi,ET h];rfl
def vh(K:Int)(D:TD)(KF:Int)(DF:TD)(KT:Int)(DT:TD)(e l:Bool):iV 20000000 K D KF DF KT DT e l K D KF DF KT DT e l []=some 1:=by
 have a:au (je 20000000) 20000000 (0,[],K,D,KF,DF,KT,DT,e,l,K,D,KF,DF,KT,DT,e,l)=some ():=by
  rw[show(20000000:Nat)=19999999+1 from rfl,au];rfl
 unfold iV;rw[a];have b:∀x:TD,eqD x x=true:=λx=>o7.2 rfl;simp only[b,rO,dX,af,GA,bV,ob];rfl
def Hi{S:aa}(b:S.length<=300):∃k E:Nat,nP (S++[33])=.inl (k,E)/\k<=S.length/\E≠0:=by
 have h:=BU (Tn S (.inr rfl));have a:=xg (S++[33]);cases hx:nP (S++[33])with
 | inl f=>rw[hx]at h a;exact⟨f.1,f.2,rfl,h,a⟩
 | inr q=>
  rw[hx]at h;have h:(S++[33]).length<=S.length:=h;rw[bW,Ea]at h;omega
def Eo{S:aa}{k E:Nat}(h:nP S=.inl (k,E)):k<=S.length:=by
 have a:=Tn S (t:=[]) (.inl rfl);rw[nW]at a;have:=BU a;rw[h]at this;exact this
def uI(S:aa):ej 20000000 S=some true:=by
 unfold ej;rw[H8];by_cases g:S.length>300
 ·rw[show decide (len S>300)=true from aq (by show(300:Int)<((S.length:Nat):Int);omega)];rfl
 have m:S.length<=300:=by omega
 obtain⟨k2,o,i,h,n⟩:=Hi m;have hp:=BX (S:=S) (by omega);have j:=Hh (S:=S) (by omega);have a:=BX (S:=S++[33]) (by simp;omega);rw[i]at a;have b:=xg S;have c:=@Eo S;rw[show decide (len S>300)=false from am (by show¬(300:Int)<((S.length:Nat):Int);omega),hp,j,show cat S ([33]:aa)=some (S++[33])from nV (by simp;omega)];have d2:decide ((k2:Int)<=len S)=true:=aq (by show(k2:Int)<=((S.length:Nat):Int);omega);have d:((o:Int) != 0)=true:=bne_iff_ne.2 (by omega);cases hx:nP S with
 | inl f=>
  obtain⟨k,E⟩:=f;rw[hx]at b;have p:E≠0:=b;have r:=c hx;simp only[E7,Nc,af,obs,sm,ob,u12,u11,u10,u9,u8,u7,u6,u5,u4,u3,u2,vh,dX];rw[show((1:Int)==0)=false from rfl,am (show¬(k:Int)<0 by omega),am (show¬(k:Int)>len S by show¬((S.length:Nat):Int)<(k:Int);omega),show((E:Int) != 0)=true from bne_iff_ne.2 (by omega)];rfl
 | inr q=>
  rw[hx]at b;cases q with
  | inl q=>
   obtain⟨K,D,KF,DF,KT,DT,L⟩:=q;obtain⟨P,_⟩:=b;have hc:=HC (K:=K) (KF:=KF) (KT:=KT) (e:=false) (l:=false) (TT P);rw[E4 P]at hc;simp only[E7,Nc,af,obs,sm,ob,u12,u11,u10,u9,u8,u7,u6,u5,u4,u3,u2,vh,dX,hc,a,d2,d];rw[show((1:Int)==0)=false from rfl,am (show¬(0:Int)<0 by omega),am (show¬(0:Int)>len S by show¬((S.length:Nat):Int)<(0:Int);omega)];rfl
  | inr q=>
   obtain⟨K,e,l,I⟩:=q;obtain⟨P,_⟩:=b;have s:I.length<=256:=Vl P;have hc:=HJ (K:=K) (KF:=0) (KT:=0) (e:=e) (l:=l) (TT P) I.length;rw[E4 P]at hc;have hs:=Bm K d0 0 d0 0 d0 I.length e l (I:=I) (by omega);simp only[E7,Nc,af,obs,sm,ob,u14,u13,u12,u11,u10,u9,u8,u7,u6,u5,u4,u3,u2,hs,dX,hc,a,d2,d];rw[show((1:Int)==0)=false from rfl,am (show¬(0:Int)<0 by omega),am (show¬(0:Int)>len S by show¬((S.length:Nat):Int)<(0:Int);omega)];simp
end Go.Sh
