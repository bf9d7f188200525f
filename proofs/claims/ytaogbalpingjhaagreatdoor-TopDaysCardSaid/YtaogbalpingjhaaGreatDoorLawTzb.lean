
/- Plain proofs, kept as far as they are needed here (printed by prune.py).
   Conditions: none. -/
import Derived.Test.YtaogbalpingjhaaGreatDoorLawTza
set_option linter.unusedVariables false
set_option linter.unusedSimpArgs false
set_option maxRecDepth 100000
namespace Go.Sh
open Go.Abs
def twoV (s:aa):Nat:=match s with
 | [a,b]=>10*(a.toNat - 48)+(b.toNat - 48)
 | _=>0
def yOf (g:Bool) (dg:aa) (x:Int):Int:=if g then -((val dg x.toNat:Nat):Int) else ((val dg x.toNat:Nat):Int)
def spF (m:aa):Nat:=((jL.getD (sea m - 21).toNat (0,0)).1).toNat
def spC (m:aa):Nat:=((jL.getD (sea m - 21).toNat (0,0)).2).toNat
def ll (g:Bool) (dg:aa) (x:Int) (m d:aa):Int×Int:=
 if m=[] then (dayY (yOf g dg x),dayY (yOf g dg x+1) - 1)
 else if 0<sea m then (dayM (yOf g dg x) (spF m),dayM (yOf g dg x) (spF m+spC m) - 1)
 else if d=[] then (dayM (yOf g dg x) (twoV m),dayM (yOf g dg x) (twoV m+1) - 1)
 else (dayM (yOf g dg x) (twoV m)+(twoV d:Int) - 1,dayM (yOf g dg x) (twoV m)+(twoV d:Int) - 1)
def exD (dg m d:aa) (q:Int):Bool:=!(hasX dg||(hasX m||hasX d))&&(q==0)
theorem Gn {s:aa} (h:hasX s=false) {c:UInt8} (hc:c∈s):c≠88:=by
 rintro rfl;unfold hasX at h;rw [nQ] at h;exact h 88 hc (by decide)
theorem BQ {s:aa} (h:hasX s=false) {k:Nat} (l:k<100) (c:agr s k=true):twoV s=k/\s=two k:=by
 unfold agr at c;split at c
 ·rename_i a b;have f:a≠88:=Gn h (by simp);have e:b≠88:=Gn h (by simp);simp only [av,eT,bu] at c;obtain ⟨d,g⟩:=c;have d:=d.resolve_left f;have g:=g.resolve_left e;subst d g;refine ⟨?_,rfl⟩;unfold twoV;have i:(UInt8.ofNat (48+k / 10)).toNat=48+k / 10:=by simp;omega
  have j:(UInt8.ofNat (48+k%10)).toNat=48+k%10:=by simp;omega
  simp only [i,j];omega
 ·cases c
theorem sy {s:aa} (h:hasX s=false) {g:Nat} (d:g<100) (a:cX s g=true):1<=twoV s/\twoV s<=g/\s=two (twoV s):=by
 unfold cX at a;obtain ⟨i,hi,a⟩:=mC.1 a;have:=jZ.1 hi;obtain ⟨b,c⟩:=BQ h (by omega) a;rw [b];exact ⟨by omega,by omega,c⟩
theorem C0 {s:aa} (h:hasX s=false) {g:Nat} (d:g<100) {k:Int} (a:k∈sd (fitN s g)):k=(twoV s:Int):=by
 obtain ⟨i,hi,rfl⟩:=eC.1 a;obtain ⟨c,b⟩:=lM.1 hi;have:=vI.1 c;rw [(BQ h (by omega) b).1]
theorem yU {k:Nat} (c:k<100):Lib.atoi (two k)=some (k:Int):=by
 have a:(UInt8.ofNat (48+k / 10)).toNat=48+k / 10:=by simp;omega
 have b:(UInt8.ofNat (48+k%10)).toNat=48+k%10:=by simp;omega
 unfold two;rw [E4 (by omega) (by omega),a,b];congr 2;omega
structure Exact (g l:Bool) (dg:aa) (x:Int) (m d:aa):Prop where
 ok:okY g l dg x 0
 num:hasX dg=false
 cal:bL (yOf g dg x)
 mon:m=[]\/(∃j,j<21/\m=two (21+j)/\(j=3\/j=7\/j=9->yOf g dg x≠10000000000000000))\/(sea m=0/\1<=twoV m/\twoV m<=12/\m=two (twoV m))
 day:d=[]\/(m≠[]/\sea m=0/\1<=twoV d/\twoV d<=31/\d=two (twoV d)/\(twoV d:Int)<=lenI (yOf g dg x) (twoV m:Int))
theorem xK {g l:Bool} {dg:aa} {x q:Int} {m d:aa} {k0 k1 k2:Int} (hc:chkF g l dg x q m d k0 k1 k2=0) (o:exD dg m d q=true):q=0/\Exact g l dg x m d:=by
 unfold exD at o;simp only [av,kj,xM,bu] at o;obtain ⟨⟨v,k,n⟩,rfl⟩:=o;refine ⟨rfl,?_⟩;have y:=wa hc;obtain ⟨a,S,N,V,E⟩:=rZ y;obtain ⟨f,R,Q,c4⟩:=BI y;have s:=wV a v;obtain ⟨I,_,_⟩:=Ce a;have M:inP g dg x 0 (yOf g dg x):=by
  have:=(s _).1 I;have e:yOf g dg x=(sgn g (kU g dg x 0)).1:=by rw [this];rfl
  rw [e];exact I
 have p:=uE M;refine ⟨a,v,p,?_,?_⟩
 ·by_cases i:m=[]
  ·exact .inl i
  ·right;rcases ka m with T | ⟨j,J,e⟩
   ·right;rcases R with h | h | h
    ·exact absurd h i
    ·omega
    ·obtain ⟨A,u,H⟩:=sy k (by omega) h;exact ⟨T,A,u,H⟩
   ·left;refine ⟨j,J,e,λK=>?_⟩;unfold yrD at f;rw [ad a] at f;unfold yrB at f;simp only [av,kj] at f;have D:wint (sea m)=true:=by
     rw [e,iD J];rcases K with rfl | rfl | rfl<;>rfl
    have r:=f.2;rw [D,qL] at r;unfold sa at r;rw [v] at r;intro b;unfold yOf at b;cases g with
    | true=>
     simp only [aY] at b;omega
    | false=>
     simp only [bT,aE] at b;have:val dg x.toNat=E16:=by unfold E16;omega
     rw [az this] at r;cases r
 ·by_cases c:d=[]
  ·exact .inl c
  ·right;obtain ⟨i,O⟩:=E c;rcases Q with h | ⟨_,_,h⟩
   ·exact absurd h c
   ·obtain ⟨A,u,H⟩:=sy n (by omega) h;refine ⟨i,O,A,u,H,?_⟩;have U:hasF g dg x m d:=by
     unfold chkF at hc;split at hc
     ·cases hc
     ·rename_i P;by_cases h:hasF g dg x m d
      ·exact h
      ·exact absurd ⟨y,c,h⟩ P
    obtain ⟨e,o,t⟩:=U;obtain ⟨z,L,C⟩:=List.exists_cons_of_ne_nil t;have C:z∈B9 m d e:=by rw [C];exact A8
    obtain ⟨W,F,G,w⟩:=yy.1 C;have B:e=yOf g dg x:=(s e).1 o;unfold monI at F;rw [ab i,ab (by omega)] at F;unfold dayI at G;rw [ab c] at G;unfold rz at w;rw [ab c,C0 n (by omega) G,C0 k (by omega) F,B] at w;exact w
theorem H7 {j:Nat} (d:j<21):∃f c:Nat,jL[j]?=some ((f:Int),(c:Int))/\1<=f/\f<=12/\1<=c/\c<=6/\(12<f+c - 1↔j=3\/j=7\/j=9)/\spF (two (21+j))=f/\spC (two (21+j))=c:=by
 obtain ⟨f,c,e,h,l,g,k,i⟩:=yD d;have b:(sea (two (21+j)) - 21).toNat=j:=by rw [iD d];omega
 have a:jL.getD j (0,0)=((f:Int),(c:Int)):=by rw [yI,e];rfl
 refine ⟨f,c,e,h,l,g,k,i,?_,?_⟩
 ·unfold spF;rw [b,a];rfl
 ·unfold spC;rw [b,a];rfl
theorem Ej (n:Nat) (g l:Bool) (dg:aa) (x q:Int) (m d:aa) (k0 k1 k2:Int) (a:m.length<=1000) (b:dg.length<=1000) (h:d.length<=1000):iq n g l dg x q m d k0 k1 k2=some (exD dg m d q):=by
 unfold iq exD;rw [BF n g l dg x q m d k0 k1 k2 a b h];simp only [ob];cases (hasX dg||(hasX m||hasX d))<;>rfl
theorem GR (n:Nat) (c:100<n) {y:Int} (h:bL y) {m k:Nat} (a:1<=m) (b:m<=12) (k1:1<=k) (k2:(k:Int)<=lenI y (m:Int)):mc n y (m:Int) (k:Int)=some (dayM y m+(k:Int) - 1,0):=by
 have d:=l7 h (m:=m) (by omega);have e:=gJ y (m:Int);unfold mc lA;rw [xw n h a b];simp only [ob,fh,af];rw [ay (show ¬(k:Int)<1 by omega),ay (show ¬(k:Int)>lenI y (m:Int) by omega),og n c h a b];simp only [ob,fh,af];rw [wrap_i64 (dayM y m+(k:Int)) (by omega) (by omega),wrap_i64 _ (by omega) (by omega)]
section
variable {g l:Bool} {dg:List UInt8} {x:Int} {m d:List UInt8} {k0 k1 k2:Int}
theorem xf (n:Nat) (y:100<n) (H:m.length<=18) (E:Exact g l dg x m d) (q s:Int) (F:m≠[]->q=if 0<sea m then sea m else (twoV m:Int)) (P:d≠[]->s=(twoV d:Int)):
  (ob (eK n) λB=>(ob (aC n g l dg x 0 m d k0 k1 k2) λo=>(cond (o==0) (ob (dl n (yOf g dg x) ([q,s]:List (Int))) λk=>(some (k.1,k.2.1,k.2.2.1,k.2.2.2,(0:Int)))) (cond (o==1) (ob (dj n (yOf g dg x) ([q,s]:List (Int))) λb=>(some (b.1,b.2.1,b.2.2.1,b.2.2.2,0))) (cond (o==2) (ob (dn n (yOf g dg x) ([q,s]:List (Int))) λi=>(some (i.1,i.2.1,i.2.2.1,i.2.2.2,0))) (cond (o==3) (ob (dk n (yOf g dg x) ([q,s]:List (Int))) λa=>(some (a.1,a.2.1,a.2.2.1,a.2.2.2,0))) none)))))) =
   some (0,(ll g dg x m d).1,0,(ll g dg x m d).2,0):=by
 have O:eK n=some ():=rfl;have G:ix ([q,s]:List Int).length 0=some 0:=rfl;have S:ix ([q,s]:List Int).length 1=some 1:=rfl;have g0:([q,s]:List Int)[0]?=some q:=rfl;have M:([q,s]:List Int)[1]?=some s:=rfl;rw [O,Dv n g l dg x 0 m d k0 k1 k2 H];unfold ll;by_cases v:d=[]
 ·rw [ad v];by_cases p:m=[]
  ·have r:sea m=0:=by rw [p];decide
   rw [ab (show ¬0<sea m by omega),ad p,ad p];unfold dj;rw [mM n E.cal,vk n E.cal];rfl
  ·rw [ab p];by_cases r:0<sea m
   ·rw [ad r,ad r];rcases E.mon with h | ⟨j,t,e,z⟩ | ⟨h,_⟩
    ·exact absurd h p
    ·obtain ⟨f,c,L,w,u,T,Q,N,J,I⟩:=H7 t;have D:q=((21+j:Nat):Int):=by rw [F p,ad r,e,iD t]
     unfold dl;rw [G];simp only [ob,g0];rw [D,zF n y E.cal t L w u T Q (λh=>z (N.1 h)),e,J,I];rfl
    ·omega
   ·rw [ab r,ab r,ab p,ad v];rcases E.mon with h | ⟨j,t,e,z⟩ | ⟨_,w,u,_⟩
    ·exact absurd h p
    ·rw [e,iD t] at r;omega
    ·have D:q=(twoV m:Int):=by rw [F p,ab r]
     unfold dn;rw [G];simp only [ob,g0];rw [D,og n y E.cal w u,wK n y E.cal w u];rfl
 ·rw [ab v];rcases E.day with h | ⟨p,r,R,V,U,K⟩
  ·exact absurd h v
  ·rw [ab p,ab (show ¬0<sea m by omega),ab v];rcases E.mon with h | ⟨j,t,e,z⟩ | ⟨_,w,u,_⟩
   ·exact absurd h p
   ·rw [e,iD t] at r;omega
   ·have C:q=(twoV m:Int):=by rw [F p,ab (by omega)]
    have A:=P v;unfold dk;rw [G,S];simp only [ob,g0,M];rw [C,A,GR n y E.cal w u R K];rfl
theorem FQ (E:Exact g l dg x m d) (b:m≠[]):Lib.atoi m=some (if 0<sea m then sea m else (twoV m:Int)):=by
 rcases E.mon with h | ⟨j,a,e,_⟩ | ⟨i,n,f,c⟩
 ·exact absurd h b
 ·rw [e,iD a,ad (by omega)];exact rk a
 ·rw [ab (by omega)];have:=yU (k:=twoV m) (by omega);rw [<-c] at this;exact this
theorem Ea (E:Exact g l dg x m d) (b:d≠[]):Lib.atoi d=some (twoV d:Int):=by
 rcases E.day with h | ⟨_,_,e,c,a,_⟩
 ·exact absurd h b
 ·have:=yU (k:=twoV d) (by omega);rw [<-a] at this;exact this
theorem uf:Lib.atoi []=none:=by kernel_rfl
theorem wO {q:Int} (b:m.length<=18) (e:dg.length<=100) (t:d.length<=18) (p:0<=k0) (n:0<=k1) (s:0<=k2):
  aT 20000000 g l dg x q m d k0 k1 k2=some (if chkF g l dg x q m d k0 k1 k2=0 then (if exD dg m d q=true then (0,(ll g dg x m d).1,0,(ll g dg x m d).2,0) else (0,0,0,0,1)) else (0,0,0,0,chkF g l dg x q m d k0 k1 k2)):=by
 have k:Nat.ble m.length 18=true:=cZ b;have r:Nat.ble d.length 18=true:=cZ t;unfold aT;rw [EF b e p n s];simp only [ob];by_cases hc:chkF g l dg x q m d k0 k1 k2=0
 ·rw [ad hc,hc,Ej 20000000 g l dg x q m d k0 k1 k2 (by omega) (by omega) (by omega)];simp only [ob,fh,af];by_cases c:exD dg m d q=true
  ·rw [ad c,c];obtain ⟨rfl,E⟩:=xK hc c;have o:bw 20000000 g l dg x 0=some (yOf g dg x,0):=by
    rw [pM 20000000 g l dg x 0 (by omega) e,ad ⟨E.ok,E.num⟩];rfl
   rw [o,k,r];simp only [dJ,af,ar,ob];by_cases f:m=[]
   ·have a:d=[]:=by
     rcases E.day with h | ⟨h,_⟩
     ·exact h
     ·exact absurd f h
    have:=xf (k0:=k0) (k1:=k1) (k2:=k2) 20000000 (by omega) b E 0 0 (λh=>absurd f h) (λh=>absurd a h);have i:Lib.atoi m=none:=by rw [f];exact uf
    have j:Lib.atoi d=none:=by rw [a];exact uf
    rw [i,j];simp only [opt];exact this
   ·have i:=FQ E f;by_cases a:d=[]
    ·have:=xf (k0:=k0) (k1:=k1) (k2:=k2) 20000000 (by omega) b E (if 0<sea m then sea m else (twoV m:Int)) 0 (λ_=>rfl) (λh=>absurd a h);have j:Lib.atoi d=none:=by rw [a];exact uf
     rw [i,j];simp only [opt];exact this
    ·have:=xf (k0:=k0) (k1:=k1) (k2:=k2) 20000000 (by omega) b E (if 0<sea m then sea m else (twoV m:Int)) (twoV d:Int) (λ_=>rfl) (λ_=>rfl);rw [i,Ea E a];simp only [opt];exact this
  ·rw [ab c];rw [A1] at c;rw [c];rfl
 ·rw [ab hc,bne0 hc];rfl
end
theorem J9 {g l:Bool} {d:aa} {x s:Int} (h:okY g l d x s):okY g l d x 0:=by
 unfold okY at h ⊢;cases l with
 | true=>
  rw [ad rfl] at h ⊢;unfold okL at h ⊢;refine ⟨h.1,lT _,?_⟩;omega
 | false=>
  rw [ab (by simp)] at h ⊢;unfold okS at h ⊢;obtain ⟨b,e,a,c,i,f,j⟩:=h;exact ⟨b,e,a,c,lT _,by omega,λh=>absurd h.1 (by omega)⟩
theorem Hl (m J I M K f A c k s:Nat) (g:Bool) (Q:I<65536) (O:M<256) (P:K<256) (R:f<256) (N:A<256):
  ∃b l dg x q a d,aK (m+300) (J:Int) g (I:Int) (M:Int) (K:Int) (f:Int) (A:Int) (c:Int) (k:Int) (s:Int)=some (b,l,dg,x,q,a,d,((mksT (ju a d) c k s).1:Int),((mksT (ju a d) c k s).2.1:Int),((mksT (ju a d) c k s).2.2:Int))/\
   okY b l dg x q/\sa b dg x=false/\(J%6≠3->hasX dg=false)/\dg.length<=5/\(q≠0->a=[]/\d=[])/\(q=0->a=monT (f%40))/\
   (d=[]\/(a∈((List.range 12).map λi=>two (i+1))++[[48,88],[49,88],[88,50],[88,88],[88,48],[88,57]]/\a≠[]/\sea a=0/\d=dayT (A%40) a)):=by
 obtain ⟨b,l,dg,x,q,e,y,p,C,t⟩:=GO m J I M K g Q O P;have H:=EU y p C;have X:Int.tmod (c:Int) 4=((c%4:Nat):Int):=rfl;have W:Int.tmod (k:Int) 4=((k%4:Nat):Int):=rfl;have V:Int.tmod (s:Int) 4=((s%4:Nat):Int):=rfl;obtain ⟨Z,s2,U,T,Y,S⟩:=tK y;have j:∀(a d:aa) (o:Option (Bool×Bool×aa×Int×Int×aa×aa×Int×Int×Int)),
   (ob (al (m+300) b l dg x q a d 0 0 0) λr=>(cond (decide ((0:Int)<r)) (ob (al (m+300) b l dg x q a d (Int.tmod (c:Int) 4) 0 0) λr=>(cond (decide ((1:Int)<r)) (ob (al (m+300) b l dg x q a d (Int.tmod (c:Int) 4) (Int.tmod (k:Int) 4) 0) λr=>(cond (decide ((2:Int)<r)) (ob (al (m+300) b l dg x q a d (Int.tmod (c:Int) 4) (Int.tmod (k:Int) 4) (Int.tmod (s:Int) 4)) λr=>(cond (decide ((3:Int)<r)) none (some (b,l,dg,x,q,a,d,(Int.tmod (c:Int) 4),(Int.tmod (k:Int) 4),(Int.tmod (s:Int) 4))))) (some (b,l,dg,x,q,a,d,(Int.tmod (c:Int) 4),(Int.tmod (k:Int) 4),0)))) (some (b,l,dg,x,q,a,d,(Int.tmod (c:Int) 4),0,0)))) (some (b,l,dg,x,q,a,d,0,0,0))))=some (b,l,dg,x,q,a,d,((mksT (ju a d) c k s).1:Int),((mksT (ju a d) c k s).2.1:Int),((mksT (ju a d) c k s).2.2:Int)):=by
  intro a d _;have hc:=vS a d;have:ju a d=1\/ju a d=2\/ju a d=3:=by omega
  rw [gY,gY,gY,gY];rcases this with h | h | h<;>rw [h]<;>rfl
 unfold aK;rw [e];simp only [ob,d4];rw [hO];by_cases z:q=0
 ·rw [ad z];rw [zD m _ _ _ _ _ f _ _ _ _ R];have L:=Dw (show f%40<40 by omega);show ∃w D v B F u d,cond (!(monT (f%40)==[])) _ _=_/\_;by_cases n:monT (f%40)=[]
  ·refine ⟨b,l,dg,x,q,[],[],?_,y,H,t,p,λh=>absurd z h,λ_=>n.symm,.inl rfl⟩;rw [n];exact j [] [] none
  ·rw [bW.2 n];show ∃w D v B F u d,ob (dA (m+300) b l dg x q (monT (f%40)) [] 0 0 0) _=_/\_;rw [zR (m+300) (by omega)];show ∃w D v B F u d,cond (sea (monT (f%40))==0) _ _=_/\_;rw [hO];by_cases G:sea (monT (f%40))=0
   ·rw [ad G];have E:=L G n;rw [D5 m _ _ _ _ _ _ A _ _ _ (monT (f%40)) E N];exact ⟨b,l,dg,x,q,monT (f%40),dayT (A%40) (monT (f%40)),j _ _ none,y,H,t,p,λh=>absurd z h,λ_=>rfl,.inr ⟨E,n,G,rfl⟩⟩
   ·rw [ab G];exact ⟨b,l,dg,x,q,monT (f%40),[],j _ [] none,y,H,t,p,λh=>absurd z h,λ_=>rfl,.inl rfl⟩
 ·rw [ab z];exact ⟨b,l,dg,x,q,[],[],j [] [] none,y,H,t,p,λ_=>⟨rfl,rfl⟩,λh=>absurd h z,.inl rfl⟩
theorem Ac:((List.range 34).all λj=>!hasX (monT j))=true:=by decide +kernel
theorem zw:(((List.range 12).map λi=>two (i+1)).all λa=>(List.range 32).all λj=>!hasX (dayT j a))=true:=by decide +kernel
theorem G1:((((List.range 12).map λi=>two (i+1))++[[48,88],[49,88],[88,50],[88,88],[88,48],[88,57]]).all λa=>hasX a||decide (a∈(List.range 12).map λi=>two (i+1)))=true:=by decide +kernel
theorem HU (m A k F C r i n v w:Nat) (g:Bool) (B:k<65536) (z:F<256) (N:C<256) (R:r<256) (L:i<256) (M:A%6≠3) (U:r%40<=33) (T:i%40<=31):
  ∃s l dg x q a d k0 k1 k2,aK (m+300) (A:Int) g (k:Int) (F:Int) (C:Int) (r:Int) (i:Int) (n:Int) (v:Int) (w:Int)=some (s,l,dg,x,q,a,d,((k0:Nat):Int),((k1:Nat):Int),((k2:Nat):Int))/\
   0<=q/\chkF s l dg x 0 a d (k0:Int) (k1:Int) (k2:Int)=0/\exD dg a d 0=true/\a.length<=18/\d.length<=18/\dg.length<=100:=by
 obtain ⟨s,l,dg,x,q,a,d,e,G,O,y,S,p,u,o⟩:=Hl m A k F C r i n v w g B z N R L;have K:=y M;have f:hasX a=false:=by
  by_cases h:q=0
  ·rw [u h];have:=(bz.1 Ac) (r%40) (jZ.2 (by omega));simpa using this
  ·rw [(p h).1];rfl
 have c:a=[]\/0<sea a\/(sea a=0/\cX a 12=true):=by
  by_cases h:q=0
  ·rw [u h];exact Hf (by omega)
  ·exact .inl (p h).1
 have b:d=[]\/(a≠[]/\sea a=0/\cX d 31=true/\fitD a d=true/\hasX d=false):=by
  rcases o with h | ⟨j,D,J,t⟩
  ·exact .inl h
  ·have H:=Hh (show i%40<40 by omega) j;have k:=Fj (show i%40<40 by omega) j;rw [<-t] at H k;by_cases E:d=[]
   ·exact .inl E
   ·right;refine ⟨D,J,H.resolve_left E,k.resolve_left E,?_⟩;have I:=(bz.1 G1) a j;rw [f,xH,bY] at I;have Q:=(bz.1 ((bz.1 zw) a I)) (i%40) (jZ.2 (by omega));rw [t];simpa using Q
 have hc:chkD s l dg x 0 a d ((mksT (ju a d) n v w).1:Int) ((mksT (ju a d) n v w).2.1:Int) ((mksT (ju a d) n v w).2.2:Int)=0:=
  Iw (J9 G) O (λh=>absurd h (by omega)) c (by
   rcases b with h | ⟨P,B,z,_⟩
   ·exact .inl h
   ·exact .inr ⟨P,B,z⟩) (G2 _ _ _ _)
 refine ⟨s,l,dg,x,q,a,d,_,_,_,e,HH G,E9 hc ?_,?_,?_,?_,by omega⟩
 ·rcases b with h | ⟨_,_,_,h,_⟩
  ·exact .inl h
  ·exact .inr h
 ·unfold exD;have:hasX d=false:=by
   rcases b with h | ⟨_,_,_,_,h⟩
   ·rw [h];rfl
   ·exact h
  rw [K,f,this];rfl
 ·rcases c with h | h | ⟨_,h⟩
  ·rw [h];simp
  ·have:=(BU h).1;omega
  ·have:=(l4 (by omega) h).1;omega
 ·rcases b with h | ⟨_,_,h,_⟩
  ·rw [h];simp
  ·have:=(l4 (by omega) h).1;omega
theorem E0 (m n z D B c j E H I:Nat) (g:Bool) (h0:n<256) (W:z<65536) (R:D<256) (V:B<256) (h5:c<256) (Z:j<256):
  ∃o l dg x i d k0 k1 k2,fJ (m+300) (n:Int) g (z:Int) (D:Int) (B:Int) (c:Int) (j:Int) (E:Int) (H:Int) (I:Int)=some (o,l,dg,x,0,i,d,((k0:Nat):Int),((k1:Nat):Int),((k2:Nat):Int))/\
   chkF o l dg x 0 i d (k0:Int) (k1:Int) (k2:Int)=0/\exD dg i d 0=true/\i.length<=18/\d.length<=18/\dg.length<=100:=by
 have N:Int.tmod (c:Int) 40=((c%40:Nat):Int):=rfl;have T:Int.tmod (j:Int) 40=((j%40:Nat):Int):=rfl;have J:Int.tmod (n:Int) 6=((n%6:Nat):Int):=rfl;have S:Int.tdiv ((j%40:Nat):Int) 2=((j%40 / 2:Nat):Int):=rfl;have p:∀(u f b:Nat),f<256->b<256->u%6≠3->f%40<=33->b%40<=31->
   ∃o l dg x i d k0 k1 k2,(ob (aK (m+300) (u:Int) g (z:Int) (D:Int) (B:Int) (f:Int) (b:Int) (E:Int) (H:Int) (I:Int)) λa=>(cond (decide ((d4 a).1>0)) (some (a.1,a.2.1,a.2.2.1,a.2.2.2.1,(0:Int),(d4 a).2.1,(d4 a).2.2.1,(d4 a).2.2.2.1,(d8 a).1,(d8 a).2)) (some (a.1,a.2.1,a.2.2.1,a.2.2.2.1,(d4 a).1,(d4 a).2.1,(d4 a).2.2.1,(d4 a).2.2.2.1,(d8 a).1,(d8 a).2))))=some (o,l,dg,x,0,i,d,((k0:Nat):Int),((k1:Nat):Int),((k2:Nat):Int))/\
   chkF o l dg x 0 i d (k0:Int) (k1:Int) (k2:Int)=0/\exD dg i d 0=true/\i.length<=18/\d.length<=18/\dg.length<=100:=by
  intro u f b c5 c6 Y s r;obtain ⟨o,l,dg,x,q,i,d,k0,k1,k2,e,hq,Q,X,O,r4,P⟩:=HU m u z D B f b E H I g W R V c5 c6 Y s r;refine ⟨o,l,dg,x,i,d,k0,k1,k2,?_,Q,X,O,r4,P⟩;rw [e];simp only [ob,d4,d8];by_cases h:q>0
  ·rw [az h];rfl
  ·obtain rfl:q=0:=by omega
   rw [ay h];rfl
 have C:33<c%40->IntKind.wrap .u8 (((c%40:Nat):Int) - 33)=((c%40 - 33:Nat):Int):=λh=>by rw [fi _ (by omega) (by omega)];omega
 have M:IntKind.wrap .u8 ((j%40 / 2:Nat):Int)=((j%40 / 2:Nat):Int):=fi _ (by omega) (by omega);unfold fJ;rw [J,N,T,S,M];have k:∀u:Nat,u%6≠3->∀K:Nat->Nat->Option (Bool×Bool×aa×Int×Int×aa×aa×Int×Int×Int),
   (∀f b:Nat,f<256->b<256->f%40<=33->b%40<=31->∃o l dg x i d k0 k1 k2,K f b=some (o,l,dg,x,0,i,d,((k0:Nat):Int),((k1:Nat):Int),((k2:Nat):Int))/\chkF o l dg x 0 i d (k0:Int) (k1:Int) (k2:Int)=0/\exD dg i d 0=true/\i.length<=18/\d.length<=18/\dg.length<=100)->
   ∃o l dg x i d k0 k1 k2,(cond (decide (((c%40:Nat):Int)>33)) (cond (decide (((j%40:Nat):Int)>31)) (K (c%40 - 33) (j%40 / 2)) (K (c%40 - 33) j)) (cond (decide (((j%40:Nat):Int)>31)) (K c (j%40 / 2)) (K c j)))=some (o,l,dg,x,0,i,d,((k0:Nat):Int),((k1:Nat):Int),((k2:Nat):Int))/\chkF o l dg x 0 i d (k0:Int) (k1:Int) (k2:Int)=0/\exD dg i d 0=true/\i.length<=18/\d.length<=18/\dg.length<=100:=by
  intro u U K y;by_cases L:33<c%40
  ·rw [az (show ((c%40:Nat):Int)>33 by omega)];by_cases G:31<j%40
   ·rw [az (show ((j%40:Nat):Int)>31 by omega)];exact y _ _ (by omega) (by omega) (by omega) (by omega)
   ·rw [ay (show ¬((j%40:Nat):Int)>31 by omega)];exact y _ _ (by omega) (by omega) (by omega) (by omega)
  ·rw [ay (show ¬((c%40:Nat):Int)>33 by omega)];by_cases G:31<j%40
   ·rw [az (show ((j%40:Nat):Int)>31 by omega)];exact y _ _ (by omega) (by omega) (by omega) (by omega)
   ·rw [ay (show ¬((j%40:Nat):Int)>31 by omega)];exact y _ _ (by omega) (by omega) (by omega) (by omega)
 have w5':∀{A:Type} (F:Int->Int->Option A) (b:Nat),(cond (decide (((c%40:Nat):Int)>33)) (F (IntKind.wrap .u8 (((c%40:Nat):Int) - 33)) (b:Int)) (F (c:Int) (b:Int)))=(cond (decide (((c%40:Nat):Int)>33)) (F ((c%40 - 33:Nat):Int) (b:Int)) (F (c:Int) (b:Int))):=by
  intro A F b;by_cases h:33<c%40
  ·rw [C h]
  ·rw [ay (show ¬((c%40:Nat):Int)>33 by omega)];rfl
 have v:33<c%40\/¬33<c%40:=by omega
 by_cases w:n%6=3
 ·rw [show (((n%6:Nat):Int)==3)=true by rw [w];rfl];simp only [ar];rcases v with h | h
  ·rw [C h];exact k 0 (by omega) (λf b=>_) (λf b c5 c6 s r=>p 0 f b c5 c6 (by omega) s r)
  ·have t:=k 0 (by omega) (λf b=>_) (λf b c5 c6 s r=>p 0 f b c5 c6 (by omega) s r);rw [ay (show ¬((c%40:Nat):Int)>33 by omega)] at t ⊢;exact t
 ·rw [show (((n%6:Nat):Int)==3)=false from bW.2 (by omega)];simp only [af];by_cases c4:n%6=4
  ·rw [show (((n%6:Nat):Int)==4)=true by rw [c4];rfl];simp only [ar];rcases v with h | h
   ·rw [C h];exact k 0 (by omega) (λf b=>_) (λf b c5 c6 s r=>p 0 f b c5 c6 (by omega) s r)
   ·have t:=k 0 (by omega) (λf b=>_) (λf b c5 c6 s r=>p 0 f b c5 c6 (by omega) s r);rw [ay (show ¬((c%40:Nat):Int)>33 by omega)] at t ⊢;exact t
  ·rw [show (((n%6:Nat):Int)==4)=false from bW.2 (by omega)];simp only [af];rcases v with h | h
   ·rw [C h];exact k n w (λf b=>_) (λf b c5 c6 s r=>p n f b c5 c6 w s r)
   ·have t:=k n w (λf b=>_) (λf b c5 c6 s r=>p n f b c5 c6 w s r);rw [ay (show ¬((c%40:Nat):Int)>33 by omega)] at t ⊢;exact t
theorem yu (y:Int) {a:Nat}:∀{b:Nat},a<=b->cumM y a<=cumM y b
  | 0,h=>by
    obtain rfl:a=0:=by omega
    exact lT _
  | b+1,h=>by
    by_cases e:a=b+1
    · subst e;exact lT _
    · have:=yu y (a:=a) (b:=b) (by omega)
      have hl:=gJ y ((b+1:Nat):Int);show cumM y a<=cumM y b+lenI y ((b+1:Nat):Int);omega
theorem CU (y:Int) {m:Nat} (e:1<=m) (c:m<=12):dayY y<=dayM y m/\dayM y (m+1)<=dayY (y+1):=by
 have j:dayM y m=dayY y+cumM y (m - 1):=by unfold dayM;rw [ad c]
 have f:=lq y (m - 1);refine ⟨by omega,?_⟩;by_cases h:m=12
 ·subst h;rw [wF];exact lT _
 ·have i:dayM y (m+1)=dayY y+cumM y m:=by unfold dayM;rw [ad (by omega)];rfl
  have g:=yu y (a:=m) (b:=12) c;have d:=JK y;have c4:=ly y;omega
theorem Eb {g l:Bool} {dg:aa} {x:Int} {m d:aa} {k0 k1 k2:Int} (h:chkD g l dg x 0 m d k0 k1 k2=0):chkD g l dg x 0 m [] 0 0 0=0/\chkD g l dg x 0 [] [] 0 0 0=0:=by
 obtain ⟨b,f,i,c4⟩:=BI h;have e:yrD g l dg x 0 []=true:=by
  unfold yrD at b ⊢;by_cases a:okY g l dg x 0
  ·rw [ad a];unfold yrB;rfl
  ·rw [ab a] at b;cases b
 have c:∀k,allM 0 0 0 k=0:=λk=>by
  have:=wu (A:=(0,0,0)) (k:=k) ⟨by decide,by decide,by decide,λ_=>rfl,λ_=>rfl⟩;exact this
 constructor
 ·unfold chkD;rw [b,c];have:(!(m==[])&&(!(decide (0<sea m))&&!(cX m 12)))=false:=by
   rcases f with h | h | h
   ·rw [h];rfl
   ·rw [az h];simp
   ·rw [h];simp
  rw [this];rfl
 ·unfold chkD;rw [e,c];rfl
theorem yr {g l:Bool} {dg:aa} {x:Int} {m:aa} (h:chkD g l dg x 0 m [] 0 0 0=0):chkF g l dg x 0 m [] 0 0 0=0:=by
 unfold chkF;rw [ab (λh=>h.2.1 rfl)];exact h
theorem GW {dg m d:aa} (h:exD dg m d 0=true):exD dg m [] 0=true/\exD dg [] [] 0=true:=by
 unfold exD at h ⊢;simp only [av,kj,xM] at h;obtain ⟨⟨b,a,c⟩,_⟩:=h;rw [b,a];exact ⟨rfl,rfl⟩
theorem JX (n:Nat) (a b:Int):eX n a b=some (if a<b then -1 else if a>b then 1 else 0):=by
 unfold eX gn;simp only [ob,fh,af];by_cases h:a<b
 ·rw [az h,ad h];rfl
 ·rw [ay h,ab h];by_cases c:a>b
  ·rw [az c,ad c];rfl
  ·rw [ay c,ab c];rfl
theorem uA (a b:Int):∃r,cR 20000000 0 a 0 b=some r/\decide (r>0)=decide (a>b):=by
 have f:iz 20000000 0 0=some 0:=rfl;have o1:ki 20000000 [0,-1]=some (-1):=by kernel_rfl
 have d:ki 20000000 [0,1]=some 1:=by kernel_rfl
 have e:ki 20000000 [0,0]=some 0:=by kernel_rfl
 unfold cR;rw [f,JX];simp only [ob];by_cases h:a<b
 ·rw [ad h,o1];exact ⟨_,rfl,by rw [ay (show ¬a>b by omega)];rfl⟩
 ·rw [ab h];by_cases c:a>b
  ·rw [ad c,d];exact ⟨_,rfl,by rw [az c];rfl⟩
  ·rw [ab c,e];exact ⟨_,rfl,by rw [ay c];rfl⟩
noncomputable def cF (x:TD):Int:=chkF x.1 x.2.1 x.2.2.1 x.2.2.2.1 x.2.2.2.2.1 x.2.2.2.2.2.1 x.2.2.2.2.2.2.1 x.2.2.2.2.2.2.2.1 x.2.2.2.2.2.2.2.2.1 x.2.2.2.2.2.2.2.2.2
def exT (x:TD):Bool:=exD x.2.2.1 x.2.2.2.2.2.1 x.2.2.2.2.2.2.1 x.2.2.2.2.1
theorem Hu {i:Nat} (h:i<9223372036854775807):w64 ((i:Int)+1)=((i+1:Nat):Int):=by
 show IntKind.wrap .i64 _=_;rw [wrap_i64 _ (by omega) (by omega)];omega
def natI (x:Int) (b:Nat):Prop:=0<=x/\x<(b:Int)
def wfD (e a i h d b c f g:Int):Prop:=natI e 256/\natI a 65536/\natI i 256/\natI h 256/\natI d 256/\natI b 256/\natI c 256/\natI f 256/\natI g 256
theorem natI.nat {x:Int} {b:Nat} (h:natI x b):∃n:Nat,x=(n:Int)/\n<b:=⟨x.toNat,by have:=h.1;omega,by have:=h.1;have:=h.2;omega⟩
noncomputable instance decTI:DecidableEq TI:=λa b=>Classical.propDecidable (a=b)
def okB (K:Int) (x:TD):Prop:=(K=1/\cF x=0/\exT x=true)\/((K=2\/K=3)/\x=d0)
theorem yf:f8 20000000=some true:=by kernel_rfl
theorem A9 {b:Int} (h:-8300000000000000000<=b/\b<=8300000000000000000):fM 20000000 b 1=some (b+1,0):=by
 unfold fM;rw [show ((1:Int)==0)=false from rfl];simp only [af];rw [wrap_i64 _ (by omega) (by omega),az (show b+1>b by omega)];rfl
theorem Jm {a b:Int} (h:a<=b) (d:-8300000000000000000<=a) (f:b<=8300000000000000000) (c:b - a<=1000):nZ 20000000 b a=some (b - a,0):=by
 unfold nZ;rw [wrap_i64 (b - a) (by omega) (by omega)];have e:decide (b - a<b)=decide (a>0):=oL.2 (by omega);rw [e,lU];rfl
theorem Dm {a b:Int} (h:a<=b):ji 20000000 0 a 0 b=some 0:=by
 obtain ⟨r,d,c⟩:=uA a b;have e:∀a,jk 20000000 0 a=some 0:=λ_=>rfl;unfold ji;rw [e,e];simp only [ob];rw [d];simp only [ob,c,ay (show ¬a>b by omega)];rfl
theorem GF {a b c:Int} (h:a<=b) (e:-8300000000000000000<=a) (f:b<=8300000000000000000) (d:b - a+1=c) (hc:c<=1000):nG 20000000 0 a 0 b=some (c,0):=by
 unfold nG;rw [Dm h];simp only [ob];rw [Jm h e f (by omega)];show ob (fM 20000000 (b - a) 1) _=_;rw [A9 (by omega),d];rfl
theorem wb {a b c d:Int} (n:c<=a) (l:a<=b) (m:b<=d):jn 20000000 0 a 0 b 0 c 0 d=some true:=by
 obtain ⟨r,g,f⟩:=uA c a;obtain ⟨s,i,e⟩:=uA b d;have k:r<=0:=by
  have:¬r>0:=λh=>by rw [az h,ay (show ¬c>a by omega)] at f;cases f
  omega
 have j:s<=0:=by
  have:¬s>0:=λh=>by rw [az h,ay (show ¬b>d by omega)] at e;cases e
  omega
 unfold jn oO;rw [Dm l,Dm (show c<=d by omega)];show ob (cR 20000000 0 c 0 a) _=_;rw [g];simp only [ob];rw [az k,i];simp only [ob,ar,az j]
theorem Dq {b:Int} (h:-8300000000000000000<=b/\b<=8300000000000000000):lL 20000000 0 b=some (0,b+1,0):=by
 have e:jk 20000000 0 b=some 0:=rfl;unfold lL ox;rw [e];show ob (ob (fM 20000000 b 1) _) _=_;rw [A9 h];rfl
theorem HT {y:Int} (h:bL y):nq 20000000 y=some (dayY (y+1) - dayY y,0):=by
 have h':=h;unfold bL at h';have a:=eU (y:=y) (by omega);have b:=eU (y:=y+1) (by omega);unfold nq;rw [cO,ad h];show ob (dS 20000000 (IntKind.wrap .i64 (y+1))) _=_;rw [wrap_i64 _ (by omega) (by omega),hZ _ (by omega),hZ _ (by omega)];simp only [ob];have:=ly y;rw [wrap_i64 _ (by omega) (by split at this<;>omega)]
theorem mtxt {Y:Type} {m:Nat} (e:1<=m) (f:m<=12) (K:aa->Option Y):(ob (bx 10 (w64 ((w64 (Int.tdiv (m:Int) 10))+1))) λb=>(ob (bx b (w64 (Int.tdiv (m:Int) 10))) λd=>(ob (bx 10 (w64 ((Int.tmod (m:Int) 10)+1))) λa=>(ob (bx a (Int.tmod (m:Int) 10)) λc=>(ob (cat (List.drop d (List.take b ([48,49,50,51,52,53,54,55,56,57]:aa))) (List.drop c (List.take a ([48,49,50,51,52,53,54,55,56,57]:aa)))) K)))))=K (two m):=by
 rcases (by omega:m=1\/m=2\/m=3\/m=4\/m=5\/m=6\/m=7\/m=8\/m=9\/m=10\/m=11\/m=12) with rfl | rfl | rfl | rfl | rfl | rfl | rfl | rfl | rfl | rfl | rfl | rfl<;>rfl
theorem Ia {y:Int} (hc:bL y) {x:TD} {m:Nat} (a:1<=m) (b:m<=12) (e:aT 20000000 x.1 x.2.1 x.2.2.1 x.2.2.2.1 (d4 x).1 (two m) [] 0 0 0=some (0,dayM y m,0,dayM y (m+1) - 1,0)) (p q r s:Int):
  ch 20000000 (y,(m:Int),x,0,dayY y,0,dayY (y+1) - 1,p,q,r,s,0,dayM y m)=some (.inl (y,((m+1:Nat):Int),x,0,dayY y,0,dayY (y+1) - 1,p,q,r,s,0,dayM y (m+1))):=by
 have f:=l7 hc (m:=m) (by omega);have g:=l7 hc (m:=m+1) (by omega);have h:=qu y a b;have i:=gJ y (m:Int);have hi:=CU y a b;have d:w64 ((m:Int)+1)=((m+1:Nat):Int):=Hu (by omega);unfold ch;simp only [u13,u12,u11,u10,u9,u8,u7,u6,u5,u4,u3,u2];rw [az (show (m:Int)<=12 by omega),ar,mtxt a b,e];simp only [ob,u5,u4,u3,u2];rw [xw 20000000 hc a b];simp only [ob,u2];rw [GF (c:=lenI y (m:Int)) (by omega) (by omega) (by omega) (by omega) (by omega)];simp only [ob,u2];rw [show (w64 (w64 ((0:Int)+0)+0) != 0)=false from rfl,wb hi.1 (by omega) (by omega),Dq (by omega)];simp only [ob,u3,u2,af,lU,Bool.and_self,dJ,fh,d,vN]
theorem G7 {y:Int} (hc:bL y) {x:TD} (b:∀m:Nat,1<=m->m<=12->aT 20000000 x.1 x.2.1 x.2.2.1 x.2.2.2.1 (d4 x).1 (two m) [] 0 0 0=some (0,dayM y m,0,dayM y (m+1) - 1,0)) (p q r s:Int):
  ∀(k m:Nat),1<=m->m+k=13->∀N,k<N->aw (ch 20000000) N (y,(m:Int),x,0,dayY y,0,dayY (y+1) - 1,p,q,r,s,0,dayM y m)=some (.inr (x,0,dayY y,0,dayY (y+1) - 1,p,q,r,s,0,dayY (y+1))):=by
 intro k
 induction k with
 | zero=>
  intro m a c N d;obtain ⟨N,rfl⟩:∃k,N=k+1:=⟨N - 1,by omega⟩;obtain rfl:m=13:=by omega
  have:ch 20000000 (y,((13:Nat):Int),x,0,dayY y,0,dayY (y+1) - 1,p,q,r,s,0,dayM y 13)=some (.inr (.inr (x,0,dayY y,0,dayY (y+1) - 1,p,q,r,s,0,dayM y 13))):=rfl;rw [aw,this,wF]
 | succ k ih=>
  intro m a c N d;obtain ⟨N,rfl⟩:∃k,N=k+1:=⟨N - 1,by omega⟩;rw [aw,Ia hc a (by omega) (b m a (by omega))];exact ih (m+1) (by omega) (by omega) N (by omega)
theorem CY {m:Nat} (h:m<=12):hasX (two m)=false/\cX (two m) 12=decide (1<=m)/\sea (two m)=0/\twoV (two m)=m:=by
 rcases (by omega:m=0\/m=1\/m=2\/m=3\/m=4\/m=5\/m=6\/m=7\/m=8\/m=9\/m=10\/m=11\/m=12) with rfl | rfl | rfl | rfl | rfl | rfl | rfl | rfl | rfl | rfl | rfl | rfl | rfl<;>exact ⟨by decide,by decide,by decide,by decide⟩
theorem G0 {g l:Bool} {dg:aa} {x:Int} (a:okY g l dg x 0) {m:Nat} (b:1<=m) (f:m<=12):chkF g l dg x 0 (two m) [] 0 0 0=0:=by
 obtain ⟨j,h,d,i⟩:=CY f;apply yr;have e:∀k,allM 0 0 0 k=0:=λk=>by
  have:=wu (A:=(0,0,0)) (k:=k) ⟨by decide,by decide,by decide,λ_=>rfl,λ_=>rfl⟩;exact this
 have c:yrD g l dg x 0 (two m)=true:=by
  unfold yrD yrB;rw [ad a,d];rfl
 unfold chkD;rw [c,e,h,az b];simp
theorem Am {N H G S K B I L F:Int} (g:Bool) (h:wfD N H G S K B I L F):fG 20000000 N g H G S K B I L F=some true:=by
 obtain ⟨h0,h2,Y,h4,h5,h6,h7,h8,h9⟩:=h;obtain ⟨Z,rfl,c0⟩:=h0.nat;obtain ⟨b2,rfl,c2⟩:=h2.nat;obtain ⟨W,rfl,c3⟩:=Y.nat;obtain ⟨U,rfl,c4⟩:=h4.nat;obtain ⟨b5,rfl,c5⟩:=h5.nat;obtain ⟨b6,rfl,c6⟩:=h6.nat;obtain ⟨b7,rfl,c7⟩:=h7.nat;obtain ⟨b8,rfl,c8⟩:=h8.nat;obtain ⟨b9,rfl,c9⟩:=h9.nat;obtain ⟨a,l,dg,x,b,d,k0,k1,k2,e,hc,u,p,q,n⟩:=E0 19999700 Z b2 W U b5 b6 b7 b8 b9 g c0 c2 c3 c4 c5 c6;rw [show 19999700+300=20000000 from rfl] at e;have z:∀k:Nat,(0:Int)<=(k:Int):=λk=>by omega
 obtain ⟨_,E⟩:=xK hc u;obtain ⟨hcm,t⟩:=Eb (wa hc);obtain ⟨T,A⟩:=GW u;have f:=E.cal;have d1:aT 20000000 a l dg x 0 b d (k0:Int) (k1:Int) (k2:Int)=some (0,(ll a dg x b d).1,0,(ll a dg x b d).2,0):=by
  rw [wO p n q (z _) (z _) (z _),ad hc,ad u]
 have X:aT 20000000 a l dg x 0 [] [] 0 0 0=some (0,dayY (yOf a dg x),0,dayY (yOf a dg x+1) - 1,0):=by
  rw [wO (by simp) n (by simp) (by omega) (by omega) (by omega),ad (yr t),ad A];unfold ll;rw [ad rfl]
 have hv:bw 20000000 a l dg x 0=some (yOf a dg x,0):=by
  rw [pM 20000000 a l dg x 0 (by omega) n,ad ⟨E.ok,E.num⟩];rfl
 have V:∀m:Nat,1<=m->m<=12->aT 20000000 a l dg x 0 (two m) [] 0 0 0=some (0,dayM (yOf a dg x) m,0,dayM (yOf a dg x) (m+1) - 1,0):=by
  intro m m1 R;obtain ⟨e1,e2,e3,e4⟩:=CY R;have ex:exD dg (two m) [] 0=true:=by
   unfold exD;rw [E.num,e1];rfl
  rw [wO (by simp [two]) n (by simp) (by omega) (by omega) (by omega),ad (G0 E.ok m1 R),ad ex];unfold ll;rw [ab (by simp [two]),e3,ab (by omega),ad rfl,e4]
 have hp:aC 20000000 a l dg x 0 b d (k0:Int) (k1:Int) (k2:Int)=some (if d=[] then (if 0<sea b then 0 else if b=[] then 1 else 2) else 3):=Dv 20000000 _ _ _ _ _ _ _ _ _ _ p;have r:(if d=[] then (if 0<sea b then (0:Int) else if b=[] then 1 else 2) else 3)≠0->dayY (yOf a dg x)<=(ll a dg x b d).1/\(ll a dg x b d).1<=(ll a dg x b d).2/\(ll a dg x b d).2<=dayY (yOf a dg x+1) - 1:=by
  intro O;have i:=ly (yOf a dg x);have i:dayY (yOf a dg x)+365<=dayY (yOf a dg x+1):=by split at i<;>omega
  unfold ll;by_cases v:b=[]
  ·rw [ad v];simp only [];omega
  ·rw [ab v];have s:¬0<sea b:=by
    intro s;by_cases o:d=[]
    ·rw [ad o,ad s] at O;exact O rfl
    ·rcases E.day with h | ⟨_,h,_⟩
     ·exact o h
     ·omega
   rw [ab s];rcases E.mon with h | ⟨j,hj,ee,_⟩ | ⟨_,J,Q,_⟩
   ·exact absurd h v
   ·rw [ee,iD hj] at s;omega
   ·have hi:=CU (yOf a dg x) J Q;have hu:=qu (yOf a dg x) J Q;have hl:=gJ (yOf a dg x) (twoV b:Int);by_cases o:d=[]
    ·rw [ad o];simp only [];omega
    ·rw [ab o];rcases E.day with h | ⟨_,_,q1,q2,q3,q4⟩
     ·exact absurd h o
     ·simp only [];omega
 generalize hY:yOf a dg x=y at *;have hc':=f;unfold bL at hc';have r1:=eU (y:=y) (by omega);have r2:=eU (y:=y+1) (by omega);have i:=ly y;have M:dayY y+365<=dayY (y+1):=by split at i<;>omega
 have C:dayY (y+1)<=dayY y+366:=by split at i<;>omega
 have D:=G7 f (x:=(a,l,dg,x,0,b,d,(k0:Int),(k1:Int),(k2:Int))) V 0 (ll a dg x b d).1 0 (ll a dg x b d).2 12 1 (by omega) (by omega) 20000000 (by omega);rw [I3,show ((1:Nat):Int)=1 from rfl] at D;have dd:ap10 (aT 20000000) (a,l,dg,x,0,b,d,(k0:Int),(k1:Int),(k2:Int))=some (0,(ll a dg x b d).1,0,(ll a dg x b d).2,0):=d1;have dp:ap10 (aC 20000000) (a,l,dg,x,0,b,d,(k0:Int),(k1:Int),(k2:Int))=_:=hp;unfold fG;rw [e];simp only [ob];rw [hv];simp only [ob,u2];rw [X];simp only [ob,u5,u4,u3,u2];rw [dd];simp only [ob,u5,u4,u3,u2];rw [HT f];simp only [ob,u2];rw [GF (c:=dayY (y+1) - dayY y) (by omega) (by omega) (by omega) (by omega) (by omega)];simp only [ob,u2];rw [show (w64 (w64 (w64 (w64 ((0:Int)+0)+0)+0)+0) != 0)=false from rfl,fh,af,af,D];simp only [obs,sm,ob,u11,u10,u9,u8,u7,u6,u5,u4,u3,u2];rw [Dq (by omega)];simp only [ob,u3,u2,fh,af,vN,lU,Bool.and_self,dJ];rw [dp];simp only [ob];generalize (if d=[] then (if 0<sea b then (0:Int) else if b=[] then 1 else 2) else 3)=P at r;by_cases w:P=0
 ·subst w;rw [yf];rfl
 ·obtain ⟨i1,i2,i3⟩:=r w;rw [bW.2 w,wb i1 i2 i3,yf];rfl
theorem wk {n:Int} (h:(Lit.int .u8 n).wf=true):natI n 256:=⟨(Go.bounds_u8 h).1,by have:=(Go.bounds_u8 h).2;omega⟩
theorem IN {n:Int} (h:(Lit.int .u16 n).wf=true):natI n 65536:=⟨(Go.bounds_u16 h).1,by have:=(Go.bounds_u16 h).2;omega⟩
end Go.Sh
