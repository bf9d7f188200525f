
/- Plain proofs, kept as far as they are needed here (printed by prune.py).
   Conditions: none. -/
import Derived.Laws.RangeString
import Derived.Laws.RangeAny
import Derived.Test.YthemneooekobkaaGreatDoorShP
import Derived.Lib.IndexLaws
import Derived.Test.YthemneooekobkaaGreatDoorAbsZ
set_option linter.unusedVariables false
set_option linter.unusedSimpArgs false
set_option maxRecDepth 100000
namespace Go.Sh
open Go.Abs
theorem fQ {X Y:Type} {step:X->Option (X⊕Y)} (I:X->Prop) (b:X->Nat) (G:X->Y)
  (h:∀x,I x->(∃a,step x=some (.inl a)/\I a/\b a<b x/\G a=G x)\/step x=some (.inr (G x))):
  ∀(n:Nat) (x:X),I x->b x<n->av step n x=some (G x)
 | 0,x,_,d=>by omega
 | n+1,x,hx,d=>by
  rcases h x hx with ⟨a,c,e,g,f⟩ | c
  ·simp only [av,c];rw [fQ I b G h n a e (by omega),f]
  ·simp only [av,c]
theorem pH {X Y:Type} {step:X->Option (X⊕Y)} (I:X->Prop) (b:X->Nat) (Q:Y->Prop)
  (h:∀x,I x->(∃a,step x=some (.inl a)/\I a/\b a<b x)\/∃y,step x=some (.inr y)/\Q y):
  ∀(n:Nat) (x:X),I x->b x<n->∃y,av step n x=some y/\Q y
 | 0,x,_,e=>by omega
 | n+1,x,hx,e=>by
  rcases h x hx with ⟨a,d,c,f⟩ | ⟨y,d,c⟩
  ·simp only [av,d];exact pH I b Q h n a c (by omega)
  ·exact ⟨y,by simp only [av,d],c⟩
theorem AG (x:Int):0<=IntKind.wrap .u8 x/\IntKind.wrap .u8 x<256:=by
 show 0<=x%256/\x%256<256;omega
theorem fL (x:Int) (a:0<=x) (b:x<256):IntKind.wrap .u8 x=x:=by
 show x%256=x;omega
theorem JH (x:Int):IntKind.wrap .u8 x=x%256:=rfl
theorem wrap_i64 (x:Int) (a:-9223372036854775808<=x) (b:x<9223372036854775808):IntKind.wrap .i64 x=x:=by
 simp only [IntKind.wrap,IntKind.signed,IntKind.bits];simp;omega
theorem eF {l:aa} {i:Nat} {c:UInt8} (h:l[i]?=some c):sx l (i:Int)=some c:=by
 simp [sx,h]
theorem dD {n i:Nat} (h:i<n):ix n (i:Int)=some i:=by
 simp [ix];omega
theorem cQ {n i:Nat} (h:i<=n):bx n (i:Int)=some i:=by
 simp [bx];omega
theorem Bf {l:aa} {i:Nat} {c:UInt8} (h:l[i]?=some c) (hc:c.toNat<128):dec l i=(c.toNat,1):=by
 have a:i<l.length:=by
  rcases aI i l.length with b | b
  ·exact b
  ·rw [fV b] at h;cases h
 have hs:i<(ByteArray.mk l.toArray).size:=a;have d:(ByteArray.mk l.toArray)[i]'hs=c:=by
  rw [aW a] at h;simp only [aw] at h;exact h
 unfold dec;rw [decode_ascii _ i hs (by rw [d];exact hc),d]
theorem Im {l:aa} {i:Nat} {c:UInt8} (h:l[i]?=some c) (hc:128<=c.toNat):128<=(dec l i).1/\1<=(dec l i).2:=by
 have a:i<l.length:=by
  rcases aI i l.length with b | b
  ·exact b
  ·rw [fV b] at h;cases h
 have hs:i<(ByteArray.mk l.toArray).size:=a;have d:(ByteArray.mk l.toArray)[i]'hs=c:=by
  rw [aW a] at h;simp only [aw] at h;exact h
 unfold dec;exact decode_high _ i hs (by rw [d];exact hc)
theorem uw {α:Type} {l:List α} {i:Nat} {c:α} (h:l[i]?=some c):i<l.length:=by
 rcases aI i l.length with a | a
 ·exact a
 ·rw [fV a] at h;cases h
theorem ct {α:Type} {l:List α} {i:Nat} {c:α} (h:l[i]?=some c):l.drop i=c::l.drop (i+1):=by
 have a:=uw h;rw [aW a] at h;simp only [aw] at h;rw [<-h,pE a]
theorem gK {α β:Type} [BEq α] [LawfulBEq α] [DecidableEq α] (a b:α) (x y:β):(cond (a==b) x y)=if a=b then x else y:=by
 by_cases h:a=b
 ·subst h;simp
 ·rw [aJ.2 h];simp [h]
theorem IQ {α β:Type} [BEq α] [LawfulBEq α] [DecidableEq α] (a b:α) (x y:β):(cond (a != b) x y)=if a=b then y else x:=by
 by_cases h:a=b
 ·subst h;simp
 ·rw [bne,aJ.2 h];simp [h]
theorem bM {β:Type} (p:Prop) [Decidable p] (x y:β):(cond (decide p) x y)=if p then x else y:=by
 by_cases h:p<;>simp [h]
theorem GX {β:Type} (b:Bool) (x y:β):(cond (!b) x y)=cond b y x:=by cases b<;>rfl
theorem gY (a b:Nat):(decide (((a:Nat):Int)<((b:Nat):Int)))=decide (a<b):=by
 by_cases h:a<b<;>simp [h]
theorem lP (a b:Nat):(decide (((a:Nat):Int)>=((b:Nat):Int)))=decide (b<=a):=by
 by_cases h:b<=a<;>simp [h]
theorem nQ (c d:UInt8):((((c.toNat:Nat):Int))==((d.toNat:Nat):Int))=(c==d):=by
 by_cases h:c=d
 ·subst h;simp
 ·have b:c.toNat≠d.toNat:=λe=>h (gD.1 e);have a:((c.toNat:Nat):Int)≠((d.toNat:Nat):Int):=by omega
  rw [aJ.2 a,aJ.2 h]
theorem X7 (c:UInt8):UInt8.ofNat (Int.toNat ((c.toNat:Nat):Int))=c:=by simp
def two (c:Nat):aa:=[UInt8.ofNat (48+c / 10),UInt8.ofNat (48+c%10)]
def sea (m:aa):Int:=match (List.range 21).find? (λj=>m==two (21+j)) with | some j=>((21+j:Nat):Int) | none=>0
theorem kZ {j:Nat} (a:j<21):sea (two (21+j))=((21+j:Nat):Int):=by
 have:((List.range 21).all λj=>sea (two (21+j))==((21+j:Nat):Int))=true:=by decide +kernel
 simpa using (List.all_eq_true.1 this) j (by simpa using a)
theorem pN (m:aa):sea m=0\/∃j,j<21/\m=two (21+j):=by
 unfold sea;split
 ·rename_i j h;have b:=List.find?_some h;have a:=List.mem_of_find?_eq_some h;exact .inr ⟨j,by simpa using a,by simpa using b⟩
 ·exact .inl rfl
theorem pZ {b:UInt8} {d:Nat} (h:Lib.digitVal b=some d):d<10/\b.toNat=48+d:=by
 unfold Lib.digitVal at h;split at h
 ·cases h;omega
 ·cases h
theorem QB {a b:UInt8} {v:Int} (h:Lib.atoi [a,b]=some v) (p:21<=v) (o:v<42):∃j,j<21/\[a,b]=two (21+j)/\v=((21+j:Nat):Int):=by
 obtain ⟨b0,r,e,l⟩:=Lib.atoi_cases h;cases e;rcases l with ⟨_,m,_,_,i⟩ | ⟨_,m,_,c,i⟩ | ⟨_,_,m,c,i⟩
 ·omega
 ·simp only [Lib.decFrom] at c;split at c
  ·rename_i d g;have:=(pZ g).1;simp only [aw] at c;omega
  ·cases c
 ·simp only [Lib.decFrom] at c;split at c
  ·rename_i d g;split at c
   ·rename_i d' f;obtain ⟨k1,k2⟩:=pZ g;obtain ⟨k3,k4⟩:=pZ f;simp only [aw] at c;refine ⟨m - 21,by omega,?_,by omega⟩;have k:(21+(m - 21)) / 10=d:=by omega
    have n:(21+(m - 21))%10=d':=by omega
    unfold two;rw [k,n,<-k2,<-k4];simp
   ·cases c
  ·cases c
theorem wT {j:Nat} (a:j<21):Lib.atoi (two (21+j))=some ((21+j:Nat):Int):=by
 have:((List.range 21).all λj=>Lib.atoi (two (21+j))==some ((21+j:Nat):Int))=true:=by decide +kernel
 simpa using (List.all_eq_true.1 this) j (by simpa using a)
theorem qO (n:Nat) (g l:Bool) (dg:aa) (x q:Int) (m d:aa) (k0 k1 k2:Int) (o:m.length<=18):bU n g l dg x q m d k0 k1 k2=some (sea m,decide (0<sea m)):=by
 have h:Nat.ble m.length 18=true:=dm o;rcases pN m with f | ⟨j,c,rfl⟩
 ·unfold bU;rw [h,f];show opt (Lib.atoi m) _ _=_;cases k:Lib.atoi m with
  | none=>rfl
  | some v=>
   show cond _ _ _=_;by_cases i:m.length=2
   ·rw [i];obtain ⟨a,b,rfl⟩:∃a b,m=[a,b]:=by
     match m,i with
     | [a,b],_=>exact ⟨a,b,rfl⟩
    show ob (dN n v) _=_;unfold dN;rw [bM,bM];split
    ·rfl
    ·split
     ·rfl
     ·exfalso;obtain ⟨j,c,e,_⟩:=QB k (by omega) (by omega);rw [e,kZ c] at f;omega
   ·rw [show (((m.length:Nat):Int) != 2)=true by simp;omega];rfl
 ·rw [kZ c];have e:bU n g l dg x q (two (21+j)) d k0 k1 k2=some (((21+j:Nat):Int),true):=by
   unfold bU;rw [h,wT c];show ob (dN n ((21+j:Nat):Int)) _=_;unfold dN;rw [bM,bM,ab (by omega),ab (by omega)];rfl
  rw [e];have:decide (0<((21+j:Nat):Int))=true:=by simp;omega
  rw [this]
theorem MS (n:Nat) {c:Nat} (hc:c<100):aY n (c:Int)=some (two c):=by
 have k:Int.tdiv (c:Int) 10=((c / 10:Nat):Int):=by
  rw [show (10:Int)=((10:Nat):Int) from rfl,<-Int.ofNat_tdiv]
 have f:Int.tmod (c:Int) 10=((c%10:Nat):Int):=by
  rw [show (10:Int)=((10:Nat):Int) from rfl,<-Int.ofNat_tmod]
 have g:c / 10<10:=by omega
 have e:c%10<10:=by omega
 unfold aY;rw [k,f];have d:IntKind.wrap .i64 ((c / 10:Nat):Int)=((c / 10:Nat):Int):=wrap_i64 _ (by omega) (by omega);have j:IntKind.wrap .i64 (((c / 10:Nat):Int)+1)=((c / 10+1:Nat):Int):=by rw [wrap_i64 _ (by omega) (by omega)];omega
 have i:IntKind.wrap .i64 (((c%10:Nat):Int)+1)=((c%10+1:Nat):Int):=by rw [wrap_i64 _ (by omega) (by omega)];omega
 rw [d,j,i,cQ (by omega),cQ (by omega)];show ob (bx (c / 10+1) ((c / 10:Nat):Int)) _=_;rw [cQ (by omega)];show ob (bx (c%10+1) ((c%10:Nat):Int)) _=_;rw [cQ (by omega)];unfold two;generalize c / 10=a at *;generalize c%10=b at *;have:((List.range 10).all λa=>(List.range 10).all λb=>ob (cat (List.drop a (List.take (a+1) ([48,49,50,51,52,53,54,55,56,57]:aa))) (List.drop b (List.take (b+1) ([48,49,50,51,52,53,54,55,56,57]:aa)))) (λs=>some s)==some [UInt8.ofNat (48+a),UInt8.ofNat (48+b)])=true:=by decide +kernel
 have h:=(bW.1 ((bW.1 this) a (by simpa using g))) b (by simpa using e);simpa using h
theorem QH {m:aa} (h:∀j,j<21->m≠two (21+j)):sea m=0:=by
 rcases pN m with a | ⟨j,b,e⟩
 ·exact a
 ·exact absurd e (h j b)
theorem yX (n:Nat) (g l:Bool) (dg:aa) (x q:Int) (m d:aa) (k0 k1 k2:Int):∀(r j:Nat),j+r=21->(∀i,i<j->m≠two (21+i))->∀N,r<N->
  av (bP n) N (((21+j:Nat):Int),g,l,dg,x,q,m,d,k0,k1,k2)=some (if sea m=0 then .inr () else .inl (sea m)):=by
 intro r
 induction r with
 | zero=>
  intro j c a N e;obtain ⟨N,rfl⟩:∃k,N=k+1:=⟨N - 1,by omega⟩;have hs:sea m=0:=QH (λi hi=>a i (by omega));rw [av];have:bP n (((21+j:Nat):Int),g,l,dg,x,q,m,d,k0,k1,k2)=some (.inr (.inr ())):=by
   unfold bP;rw [bM,ab (by show ¬(((21+j:Nat):Int)<=41);omega)]
  rw [this,ae hs]
 | succ r ih=>
  intro j c a N e;obtain ⟨N,rfl⟩:∃k,N=k+1:=⟨N - 1,by omega⟩;rw [av];by_cases b:m=two (21+j)
  ·have hs:sea m=((21+j:Nat):Int):=by rw [b];exact kZ (by omega)
   have:bP n (((21+j:Nat):Int),g,l,dg,x,q,m,d,k0,k1,k2)=some (.inr (.inl ((21+j:Nat):Int))):=by
    unfold bP;rw [bM,ae (by show ((21+j:Nat):Int)<=41;omega)];show ob (aY n ((21+j:Nat):Int)) _=_;rw [MS n (by omega)];show cond (m==two (21+j)) _ _=_;rw [gK,ae b]
   rw [this,hs,ab (by omega)]
  ·have:bP n (((21+j:Nat):Int),g,l,dg,x,q,m,d,k0,k1,k2)=some (.inl (((21+(j+1):Nat):Int),g,l,dg,x,q,m,d,k0,k1,k2)):=by
    unfold bP;rw [bM,ae (by show ((21+j:Nat):Int)<=41;omega)];show ob (aY n ((21+j:Nat):Int)) _=_;rw [MS n (by omega)];show cond (m==two (21+j)) _ _=_;rw [gK,ab b];have:IntKind.wrap .i64 (((21+j:Nat):Int)+1)=((21+(j+1):Nat):Int):=by rw [wrap_i64 _ (by omega) (by omega)];omega
    show some (Sum.inl (IntKind.wrap .i64 (((21+j:Nat):Int)+1),_))=_;rw [this]
   rw [this]
   exact ih (j+1) (by omega) (λi hi=>by
    rcases aI i j with h | h
    ·exact a i h
    ·have:i=j:=by omega
     rw [this];exact b) N (by omega)
theorem lL (n:Nat) (a:100<n) (g l:Bool) (dg:aa) (x q:Int) (m d:aa) (k0 k1 k2:Int):aO n g l dg x q m d k0 k1 k2=some (sea m):=by
 unfold aO;have:=yX n g l dg x q m d k0 k1 k2 21 0 rfl (λi hi=>absurd hi (by omega)) n (by omega);rw [show ((21+0:Nat):Int)=21 from rfl] at this;rw [this];by_cases h:sea m=0
 ·rw [ae h,h];rfl
 ·rw [ab h];rfl
def agr (s:aa) (k:Nat):Bool:=match s with
 | [a,b]=>(a==88||a==UInt8.ofNat (48+k / 10))&&(b==88||b==UInt8.ofNat (48+k%10))
 | _=>false
def dY (s:aa) (g:Nat):Bool:=(List.range g).any λi=>agr s (i+1)
theorem He {X Y:Type} {step:X->Option (X⊕Y)} {f:Nat->X} {p:Nat->Bool} {g:Nat} {yes no:Y} (h:∀k,1<=k->k<=g->step (f k)=some (if p k then .inr yes else .inl (f (k+1)))) (d:step (f (g+1))=some (.inr no)) {N:Nat} (b:g<N):
  av step N (f 1)=some (if (List.range g).any (λi=>p (i+1)) then yes else no):=by
 have e:∀(r j:Nat),j+r=g->(∀i,i<j->p (i+1)=false)->∀N,r<N->av step N (f (j+1))=some (if (List.range g).any (λi=>p (i+1)) then yes else no):=by
  intro r
  induction r with
  | zero=>
   intro j c a N b;obtain ⟨N,rfl⟩:∃k,N=k+1:=⟨N - 1,by omega⟩;have:(List.range g).any (λi=>p (i+1))=false:=by
    rw [sP];intro i hi;rw [a i (by have:=jp.1 hi;omega)];simp
   rw [av,show j+1=g+1 by omega,d,this];rfl
  | succ r ih=>
   intro j c a N b;obtain ⟨N,rfl⟩:∃k,N=k+1:=⟨N - 1,by omega⟩;rw [av,h (j+1) (by omega) (by omega)];cases hp:p (j+1) with
   | true=>
    have:(List.range g).any (λi=>p (i+1))=true:=sK.2 ⟨j,jp.2 (by omega),hp⟩;rw [this];rfl
   | false=>
    exact ih (j+1) (by omega) (λi hi=>by
     rcases aI i j with h | h
     ·exact a i h
     ·have:i=j:=by omega
      rw [this];exact hp) N (by omega)
 exact e g 0 (by omega) (λi hi=>absurd hi (by omega)) N b
theorem vC {a:UInt8} {k:Nat} (b:k<256):((((a.toNat:Nat):Int))==((k:Nat):Int))=(a==UInt8.ofNat k):=by
 have h:(UInt8.ofNat k).toNat=k:=by simp;omega
 rw [<-nQ,h]
theorem PN (n:Nat) (a b:UInt8) {g k:Nat} (r:1<=k) (q:k<=g) (s:g<=31):
  dw n ([a,b],(g:Int),(k:Int))=some (if agr [a,b] k then .inr (.inl true) else .inl ([a,b],(g:Int),((k+1:Nat):Int))):=by
 have p:Int.tdiv (k:Int) 10=((k / 10:Nat):Int):=by
  rw [show (10:Int)=((10:Nat):Int) from rfl,<-Int.ofNat_tdiv]
 have h:Int.tmod (k:Int) 10=((k%10:Nat):Int):=by
  rw [show (10:Int)=((10:Nat):Int) from rfl,<-Int.ofNat_tmod]
 have d:IntKind.wrap .u8 (48+IntKind.wrap .u8 (IntKind.wrap .i64 (Int.tdiv (k:Int) 10)))=((48+k / 10:Nat):Int):=by
  rw [p,wrap_i64 _ (by omega) (by omega),fL ((k / 10:Nat):Int) (by omega) (by omega),fL _ (by omega) (by omega)];omega
 have m:IntKind.wrap .u8 (48+IntKind.wrap .u8 (Int.tmod (k:Int) 10))=((48+k%10:Nat):Int):=by
  rw [h,fL ((k%10:Nat):Int) (by omega) (by omega),fL _ (by omega) (by omega)];omega
 have l:IntKind.wrap .i64 ((k:Int)+1)=((k+1:Nat):Int):=by rw [wrap_i64 _ (by omega) (by omega)];omega
 have c:(88:Int)=((88:Nat):Int):=rfl;have s0:sx [a,b] 0=some a:=rfl;have e:sx [a,b] 1=some b:=rfl;unfold dw;rw [bM,ae (show (k:Int)<=(g:Int) by omega)];simp only [s0,e,ob,d,m,l];rw [c,vC (by omega),vC (by omega),vC (by omega),vC (by omega)];show _=some (if ((a==UInt8.ofNat 88||a==UInt8.ofNat (48+k / 10))&&(b==UInt8.ofNat 88||b==UInt8.ofNat (48+k%10)))=true then _ else _);generalize (a==UInt8.ofNat 88)=i;generalize (b==UInt8.ofNat 88)=o;generalize (a==UInt8.ofNat (48+k / 10))=j;generalize (b==UInt8.ofNat (48+k%10))=f;cases i<;>cases o<;>cases j<;>cases f<;>rfl
theorem Dj (n:Nat) (m:100<n) (s:aa) (g:Nat) (j:g<=31):dq n s (g:Int)=some (dY s g):=by
 unfold dq;by_cases c:s.length=2
 ·obtain ⟨a,b,rfl⟩:∃a b,s=[a,b]:=by
   match s,c with
   | [a,b],_=>exact ⟨a,b,rfl⟩
  have d:dw n ([a,b],(g:Int),((g+1:Nat):Int))=some (.inr (.inr ())):=by
   unfold dw;rw [bM,ab (show ¬((g+1:Nat):Int)<=(g:Int) by omega)]
  have:=He (f:=λk=>([a,b],(g:Int),((k:Nat):Int))) (p:=agr [a,b]) (g:=g) (N:=n) (λk l e=>PN n a b l e j) d (by omega);show ob (av (dw n) n ([a,b],(g:Int),((1:Nat):Int))) _=_;rw [this];unfold dY;split<;>simp_all [ob]
 ·rw [show (((s.length:Nat):Int) != 2)=true by simp;omega];have:dY s g=false:=by
   unfold dY;rw [sP];intro i _
   match s,c with
   | [],_=>simp [agr]
   | [_],_=>simp [agr]
   | [_,_],h=>exact absurd rfl h
   | _::_::_::_,_=>simp [agr]
  rw [this];rfl
theorem vA (n:Nat) (s:aa) (k:Nat) (o:k<100):ew n s (k:Int)=some (if agr s k then 1 else 0):=by
 unfold ew;rw [MS n o];show cond _ _ _=_;by_cases d:s.length=2
 ·obtain ⟨a,b,rfl⟩:∃a b,s=[a,b]:=by
   match s,d with
   | [a,b],_=>exact ⟨a,b,rfl⟩
  have s0:sx [a,b] 0=some a:=rfl;have f:sx [a,b] 1=some b:=rfl;have e:sx (two k) 0=some (UInt8.ofNat (48+k / 10)):=rfl;have i:sx (two k) 1=some (UInt8.ofNat (48+k%10)):=rfl;have c:(88:Int)=((88:Nat):Int):=rfl;rw [show (((([a,b]:aa).length:Nat):Int)==2)=true from rfl];simp only [s0,f,e,i,ob,ah];rw [c,vC (by omega),vC (by omega),nQ,nQ];show _=some (if ((a==UInt8.ofNat 88||a==UInt8.ofNat (48+k / 10))&&(b==UInt8.ofNat 88||b==UInt8.ofNat (48+k%10)))=true then _ else _);generalize (a==UInt8.ofNat 88)=g;generalize (b==UInt8.ofNat 88)=m;generalize (a==UInt8.ofNat (48+k / 10))=j;generalize (b==UInt8.ofNat (48+k%10))=l;cases g<;>cases m<;>cases j<;>cases l<;>rfl
 ·rw [show (((s.length:Nat):Int)==2)=false by simp;omega];have:agr s k=false:=by
   match s,d with
   | [],_=>rfl
   | [_],_=>rfl
   | [_,_],h=>exact absurd rfl h
   | _::_::_::_,_=>rfl
  rw [this];rfl
theorem HW (n:Nat) (c:100<n) (s:aa) (g:Nat) (e:g<=31):dO n s (g:Int)=some (if dY s g then 1 else 0):=by
 unfold dO;have a:dM n (s,(g:Int),((g+1:Nat):Int))=some (.inr (.inr ())):=by
  unfold dM;rw [bM,ab (show ¬((g+1:Nat):Int)<=(g:Int) by omega)]
 have:=He (f:=λk=>(s,(g:Int),((k:Nat):Int))) (p:=agr s) (g:=g) (N:=n) (step:=dM n) (yes:=.inl 1) (no:=.inr ()) (λk h d=>by
  unfold dM;rw [bM,ae (show (k:Int)<=(g:Int) by omega)];show ob (ew n s (k:Int)) _=_;rw [vA n s k (by omega)];have b:IntKind.wrap .i64 ((k:Int)+1)=((k+1:Nat):Int):=by rw [wrap_i64 _ (by omega) (by omega)];omega
  simp only [ob,b];cases agr s k<;>rfl) a (by omega)
 show ob (av (dM n) n (s,(g:Int),((1:Nat):Int))) _=_;rw [this];unfold dY;split<;>simp_all [ob]
theorem ym (n:Nat) {a b:Int} (v:1<b) (k:b<1000) (s:-4611686018427387904<=a) (l:a<4611686018427387904):l7 n a b=some (a / b,0):=by
 have o:(b==0)=false:=by simp;omega
 have q:(b==-1)=false:=by simp;omega
 unfold l7;simp only [o,q,af];have u:a / b*b+a%b=a:=Int.ediv_mul_add_emod a b;have t:=LD a (show b≠0 by omega);have j:=ME a (show 0<b by omega);have p:-4611686018427387904<=a / b:=by
  rw [Int.le_ediv_iff_mul_le (by omega)];have:(-4611686018427387904:Int)*b<=-4611686018427387904*1:=Int.mul_le_mul_of_nonpos_left (by omega) (by omega);omega
 have r:a / b<4611686018427387904:=by
  rw [Int.ediv_lt_iff_lt_mul (by omega)];have:(4611686018427387904:Int)*1<=4611686018427387904*b:=Int.mul_le_mul_of_nonneg_left (by omega) (by omega);omega
 by_cases e:0<=a
 ·have d:Int.tdiv a b=a / b:=Sv e;have f:decide (a<0)=false:=by simp;omega
  have d2:decide (b<0)=false:=by simp;omega
  rw [d,f,d2,wrap_i64 (a / b) (by omega) (by omega)];cases (Int.tmod a b != 0)<;>rfl
 ·have f:decide (a<0)=true:=by simp;omega
  have d2:decide (b<0)=false:=by simp;omega
  have d:=Int.tdiv_eq_ediv (a:=a) (b:=b);have i:=Ns (a:=a) (b:=b);rw [f,d2];by_cases c:b∣a
  ·have g:Int.tmod a b=0:=by
    rw [i,ae (.inr c)];have:=Int.emod_eq_zero_of_dvd c;omega
   rw [g,d,ae (.inr c)];rw [Int.add_zero,wrap_i64 (a / b) (by omega) (by omega)];rfl
  ·have m:a%b≠0:=λh=>c (OQ h);have g:(Int.tmod a b != 0)=true:=by
    rw [i,ab (by rintro (h | h);exact e h;exact c h)];simp;omega
   have hs:b.sign=1:=Int.sign_eq_one_of_pos (by omega);rw [g,d,ab (by rintro (h | h);exact e h;exact c h),hs];rw [wrap_i64 (a / b+1) (by omega) (by omega),Int.add_sub_cancel,wrap_i64 (a / b) (by omega) (by omega)];rfl
theorem WJ (n:Nat) {a b:Int} (m:1<b) (f:b<1000):wc n a b=some (a%b,0):=by
 have j:(b==0)=false:=by simp;omega
 have k:(b==-1)=false:=by simp;omega
 unfold wc;simp only [j,k,af];have o:=LD a (show b≠0 by omega);have l:=ME a (show 0<b by omega);have c:=Ns (a:=a) (b:=b);have d2:decide (b<0)=false:=by simp;omega
 by_cases hc:0<=a\/b∣a
 ·rw [ae hc] at c;have:Int.tmod a b=a%b:=by omega
  rw [this,d2];have d:decide (a%b<0)=false:=by simp;omega
  rw [d];cases h:(a%b != 0)
  ·rfl
  ·rfl
 ·rw [ab hc] at c;have e:(b.natAbs:Int)=b:=by omega
  rw [e] at c;have g:a%b≠0:=λh=>hc (.inr (OQ h));have i:(Int.tmod a b != 0)=true:=by simp;omega
  have d:decide (Int.tmod a b<0)=true:=by simp;omega
  rw [i,d,d2,c,wrap_i64 _ (by omega) (by omega),J6];rfl
def dZ (y:Int):Prop:=-10000000000000000<=y/\y<=10000000000000000
instance (y:Int):Decidable (dZ y):=by unfold dZ;infer_instance
theorem gF (n:Nat) (y:Int):jt n y=some (if dZ y then 0 else 6):=by
 unfold jt;rw [bM,bM];by_cases a:y < -10000000000000000
 ·rw [ae a,ab (show ¬dZ y by unfold dZ;omega)]
 ·by_cases b:y>10000000000000000
  ·rw [ab a,ae b,ab (show ¬dZ y by unfold dZ;omega)]
  ·rw [ab a,ab b,ae (show dZ y by unfold dZ;omega)]
theorem tc (n:Nat) {y:Int} (h:-20000000000000000<=y/\y<=20000000000000000):∃z,fB n y=some z:=by
 unfold fB;rw [wrap_i64 (y - 1) (by omega) (by omega),ym n (by omega) (by omega) (by omega) (by omega),ym n (by omega) (by omega) (by omega) (by omega),ym n (by omega) (by omega) (by omega) (by omega)];exact ⟨_,rfl⟩
theorem J9 (n:Nat) {y:Int} (h:dZ y):∃b e,kJ n y=some (b,e):=by
 unfold kJ;have h':=h;unfold dZ at h';obtain ⟨z1,c⟩:=tc n (y:=y+1) (by omega);obtain ⟨z2,a⟩:=tc n (y:=y) (by omega);rw [gF,ae h,wrap_i64 (y+1) (by omega) (by omega),c,a];exact ⟨_,_,rfl⟩
theorem tD (n:Nat) {y:Int} (h:dZ y) {m:Nat} (d:1<=m) (c:m<=12):∃v,eJ n y (m:Int)=some v:=by
 unfold eJ;obtain ⟨b,e,a⟩:=J9 n h;rw [a];show ∃v,cond (b&&((m:Int)==2)) _ _=some v;cases (b&&((m:Int)==2)) with
 | true=>exact ⟨_,rfl⟩
 | false=>
  have:IntKind.wrap .i64 ((m:Int) - 1)=((m - 1:Nat):Int):=by rw [wrap_i64 _ (by omega) (by omega)];omega
  rw [this,dD (by omega)];have a:wF.length=12:=rfl;exact ⟨_,aW (show m - 1<wF.length by omega)⟩
theorem Hy (n:Nat) {y:Int} (h:dZ y) {m:Nat} (b:1<=m) (a:m<=12):kE n y (m:Int)=some 0:=by
 unfold kE;rw [gF,ae h];show cond (decide ((m:Int)<1)) _ _=_;rw [bM,bM,ab (by omega),ab (by omega)]
theorem Jg (n:Nat) {y:Int} (h:dZ y) {m:Nat} (e:m<=11):∀(r j:Nat),j+r=m->∀(a:Int) (N:Nat),r<N->∃v,av (bL n) N (y,a,(m:Int),(j:Int))=some v:=by
 intro r
 induction r with
 | zero=>
  intro j c a N d;obtain ⟨N,rfl⟩:∃k,N=k+1:=⟨N - 1,by omega⟩;have:bL n (y,a,(m:Int),(j:Int))=some (.inr a):=by
   unfold bL;rw [bM,ab (show ¬((j:Int)<(m:Int)) by omega)]
  rw [av,this];exact ⟨_,rfl⟩
 | succ r ih=>
  intro j c a N d;obtain ⟨N,rfl⟩:∃k,N=k+1:=⟨N - 1,by omega⟩;obtain ⟨v,b⟩:=tD n h (m:=j+1) (by omega) (by omega);have w:IntKind.wrap .i64 ((j:Int)+1)=((j+1:Nat):Int):=by rw [wrap_i64 _ (by omega) (by omega)];omega
  have:bL n (y,a,(m:Int),(j:Int))=some (.inl (y,IntKind.wrap .i64 (a+v),(m:Int),((j+1:Nat):Int))):=by
   unfold bL;rw [bM,ae (show ((j:Int)<(m:Int)) by omega)];simp only [w,b,ob]
  rw [av,this];exact ih (j+1) (by omega) _ N (by omega)
theorem Ku (n:Nat) (d:100<n) {y:Int} (h:dZ y) {m:Nat} (c:1<=m) (a:m<=12):∃v,fD n y (m:Int)=some (v,0):=by
 unfold fD lK lO;have h':=h;unfold dZ at h';obtain ⟨z,e⟩:=tc n (y:=y) (by omega);have w:IntKind.wrap .i64 ((m:Int) - 1)=((m - 1:Nat):Int):=by rw [wrap_i64 _ (by omega) (by omega)];omega
 rw [Hy n h c a,gF,ae h,e,w];obtain ⟨v,b⟩:=Jg n h (m:=m - 1) (by omega) (m - 1) 0 (by omega) (IntKind.wrap .i64 (IntKind.wrap .i64 (365*y)+z)) n (by omega);refine ⟨v,?_⟩;show ob (av (bL n) n (y,IntKind.wrap .i64 (IntKind.wrap .i64 (365*y)+z),((m - 1:Nat):Int),((0:Nat):Int))) _=_;rw [b];rfl
theorem madd (n:Nat) {y:Int} (h:dZ y) {m c:Nat} (k:1<=m) (j:m<=12) (hc:1<=c) (i:c<=6):pg n y (m:Int) (IntKind.wrap .i64 ((c:Int) - 1)) =
  some (if 12<m+c - 1 then (if y=10000000000000000 then (0,0,6) else (y+1,((m+c - 1 - 12:Nat):Int),0)) else (y,((m+c - 1:Nat):Int),0)):=by
 have h':=h;unfold dZ at h';unfold pg;rw [Hy n h k j,wrap_i64 (12*y) (by omega) (by omega),wrap_i64 ((m:Int) - 1) (by omega) (by omega),wrap_i64 (12*y+((m:Int) - 1)) (by omega) (by omega),wrap_i64 ((c:Int) - 1) (by omega) (by omega)];have g:rZ n (12*y+((m:Int) - 1)) ((c:Int) - 1)=some (12*y+((m:Int) - 1)+((c:Int) - 1),0):=by
  unfold rZ;rw [wrap_i64 (12*y+((m:Int) - 1)+((c:Int) - 1)) (by omega) (by omega),gK];by_cases a:(c:Int) - 1=0
  ·rw [ae a];have b:decide (12*y+((m:Int) - 1)>12*y+((m:Int) - 1))=false:=by simp
   have d2:decide ((c:Int) - 1>0)=false:=by simp;omega
   rw [b,d2,a,Int.add_zero];rfl
  ·rw [ab a];have b:decide (12*y+((m:Int) - 1)+((c:Int) - 1)>12*y+((m:Int) - 1))=true:=by simp;omega
   have d2:decide ((c:Int) - 1>0)=true:=by simp;omega
   rw [b,d2];rfl
 simp only [ob,g,hJ,af];rw [ym n (by omega) (by omega) (by omega) (by omega),WJ n (by omega) (by omega)];simp only [gF];by_cases f:12<m+c - 1
 ·have e:(12*y+((m:Int) - 1)+((c:Int) - 1)) / 12=y+1:=by omega
  have d:(12*y+((m:Int) - 1)+((c:Int) - 1))%12=((m+c - 1 - 12:Nat):Int) - 1:=by omega
  rw [e,d,ae f];by_cases hy:y=10000000000000000
  ·rw [ae hy,ab (show ¬dZ (y+1) by unfold dZ;omega)];rfl
  ·rw [ab hy,ae (show dZ (y+1) by unfold dZ;omega),wrap_i64 (((m+c - 1 - 12:Nat):Int) - 1+1) (by omega) (by omega),J6];rfl
 ·have e:(12*y+((m:Int) - 1)+((c:Int) - 1)) / 12=y:=by omega
  have d:(12*y+((m:Int) - 1)+((c:Int) - 1))%12=((m+c - 1:Nat):Int) - 1:=by omega
  rw [e,d,ab f,ae h,wrap_i64 (((m+c - 1:Nat):Int) - 1+1) (by omega) (by omega),J6];rfl
theorem HE {j:Nat} (a:j<21):∃m c:Nat,nE[j]?=some ((m:Int),(c:Int))/\1<=m/\m<=12/\1<=c/\c<=6/\(12<m+c - 1↔j=3\/j=7\/j=9):=by
 have:((List.range 21).all λj=>match nE[j]? with
  | some (m,c)=>decide (0<=m)&&decide (0<=c)&&decide (1<=m.toNat)&&decide (m.toNat<=12)&&decide (1<=c.toNat)&&decide (c.toNat<=6)&&(decide (12<m.toNat+c.toNat - 1)==decide (j=3\/j=7\/j=9))
  | none=>false)=true:=by decide +kernel
 have h:=(bW.1 this) j (by simpa using a);split at h
 ·rename_i m c e;simp only [aD,cr,bp,nV] at h;obtain ⟨⟨⟨⟨⟨⟨f,d⟩,i⟩,k⟩,g⟩,l⟩,b⟩:=h;exact ⟨m.toNat,c.toNat,by rw [e,Ha f,Ha d],i,k,g,l,b⟩
 ·cases h
theorem VI (n:Nat) (k:100<n) {y:Int} (h:dZ y) {j:Nat} (q:j<21):
  ∃a b c d,iL n y ((21+j:Nat):Int)=some (a,b,c,d,if y=10000000000000000/\(j=3\/j=7\/j=9) then 6 else 0):=by
 obtain ⟨m,c,e,s,r,B,C,t⟩:=HE q;have A:fC n ((21+j:Nat):Int)=some ((m:Int),(c:Int),0):=by
  unfold fC dN;rw [bM,bM,ab (by omega),ab (by omega)];have:IntKind.wrap .i64 (((21+j:Nat):Int) - 21)=(j:Int):=by rw [wrap_i64 _ (by omega) (by omega)];omega
  rw [this,dD q];show ob (nE[j]?) _=_;rw [e];rfl
 obtain ⟨v,z⟩:=Ku n k h s r;unfold iL;rw [A];show ∃a b c d,ob (fD n y (m:Int)) _=_;rw [z];show ∃a b w d,ob (pg n y (m:Int) (IntKind.wrap .i64 ((c:Int) - 1))) _=_;rw [madd n h s r B C];have h':=h;unfold dZ at h';by_cases i:12<m+c - 1
 ·rw [ae i];by_cases hy:y=10000000000000000
  ·rw [ae hy,ae ⟨hy,t.1 i⟩];exact ⟨_,_,_,_,rfl⟩
  ·rw [ab hy,ab (λx=>hy x.1)];have g:dZ (y+1):=by unfold dZ;omega
   obtain ⟨p,f⟩:=Ku n k g (m:=m+c - 1 - 12) (by omega) (by omega);obtain ⟨u,o⟩:=tD n g (m:=m+c - 1 - 12) (by omega) (by omega);have l:ia n (y+1) ((m+c - 1 - 12:Nat):Int)=some (IntKind.wrap .i64 (IntKind.wrap .i64 (p+u) - 1),0):=by
    unfold ia;rw [f,o];rfl
   show ∃a b w d,ob (ia n (y+1) ((m+c - 1 - 12:Nat):Int)) _=_;rw [l];exact ⟨_,_,_,_,rfl⟩
 ·rw [ab i,ab (λx=>i (t.2 x.2))];obtain ⟨p,f⟩:=Ku n k h (m:=m+c - 1) (by omega) (by omega);obtain ⟨u,o⟩:=tD n h (m:=m+c - 1) (by omega) (by omega);have l:ia n y ((m+c - 1:Nat):Int)=some (IntKind.wrap .i64 (IntKind.wrap .i64 (p+u) - 1),0):=by
   unfold ia;rw [f,o];rfl
  show ∃a b w d,ob (ia n y ((m+c - 1:Nat):Int)) _=_;rw [l];exact ⟨_,_,_,_,rfl⟩
def hasB (set:aa) (c:UInt8):Bool:=set.any λd=>d==c
theorem qy (set:aa) (c:UInt8):(decide (Lib.indexByte set c<0))=!hasB set c:=by
 induction set with
 | nil=>simp [Lib.indexByte,hasB]
 | cons d l ih=>
  have f:=Lib.indexByte_ge l c;simp only [hasB,qX] at ih ⊢;unfold Lib.indexByte;by_cases h:d=c
  ·simp [h]
  ·have e:(d==c)=false:=by simpa using h
   simp only [e,bs,aG,oh];rw [<-ih];by_cases b:Lib.indexByte l c=-1
   ·simp [b]
   ·have a:(Lib.indexByte l c==-1)=false:=by simpa using b
    simp only [a,bs,aG];have:¬Lib.indexByte l c+1<0:=by omega
    have:¬Lib.indexByte l c<0:=by omega
    simp [*]
theorem pY (set:aa) (c:UInt8):(decide (Lib.indexByte set c>=0))=hasB set c:=by
 have:=qy set c;by_cases h:Lib.indexByte set c<0
 ·have a:¬Lib.indexByte set c>=0:=by omega
  simp only [h,a,oy,nN] at this ⊢;revert this;cases hasB set c<;>simp
 ·have a:Lib.indexByte set c>=0:=by omega
  simp only [h,a,oy,nN] at this ⊢;revert this;cases hasB set c<;>simp
def lcp:aa->aa->Nat
 | c::s,d::t=>if c==d then lcp s t+1 else 0
 | _,_=>0
theorem xQ:∀s t:aa,lcp s t<=s.length
 | [],_=>by simp [lcp]
 | _::_,[]=>by simp [lcp]
 | c::s,d::t=>by
  have:=xQ s t;simp only [lcp,aV];split<;>omega
def bE (p:UInt8->Bool):Nat->aa->Nat
 | 0,_=>0
 | _+1,[]=>0
 | k+1,c::l=>if p c then bE p k l+1 else 0
theorem ma (p:UInt8->Bool):∀(k:Nat) (l:aa),bE p k l<=l.length
 | 0,_=>by simp [bE]
 | _+1,[]=>by simp [bE]
 | k+1,c::l=>by
  have:=ma p k l;simp only [bE,aV];split<;>omega
theorem ui (n:Nat) (S:aa) (a:Nat) (h:a<=S.length):cK n S (a:Int)=some (S.drop a):=by
 simp [cK,ob,cQ h]
theorem Eo (n:Nat) (s p:aa):jF n s p=some (s.take p.length==p):=by
 simp only [jF,gz,lP];by_cases h:p.length<=s.length
 ·simp [h,ob,cQ h]
 ·have:(s.take p.length==p)=false:=by
   rw [aJ];intro e;have:=cD List.length e;rw [cP] at this;omega
  simp [h,ob,this]
theorem MJ (n:Nat) (t S:aa) (a:Nat) (h:a<=S.length):fH n t S (a:Int)=some ((S.drop a).take t.length==t):=by
 simp [fH,ui n S a h,ob,Eo]
theorem m9 (n:Nat) (t S:aa) (a:Nat) (h:a<=S.length) (d:S.length<4611686018427387904):
  aE n t S (a:Int)=some (if (S.drop a).take t.length=t then (true,S,((a+t.length:Nat):Int)) else (false,S,(a:Int))):=by
 simp only [aE,MJ n t S a h,ob];by_cases hp:(S.drop a).take t.length=t
 ·have c:t.length<=S.length - a:=by
   have:=cD List.length hp;simp at this;omega
  have b:IntKind.wrap .i64 ((a:Int)+((t.length:Nat):Int))=((a+t.length:Nat):Int):=by rw [wrap_i64 _ (by omega) (by omega)];omega
  simp [hp,b]
 ·simp only [GX,gK,hp,aG]
theorem ED (n:Nat) (S:aa) (i:Int):bI n S i=some i:=rfl
def peek (l:aa):Int×Bool:=match l with | c::_=>(((c.toNat:Nat):Int),true) | []=>(0,false)
theorem pS (n:Nat) (S:aa) (a:Nat) (h:a<=S.length):bj n S (a:Int)=some (peek (S.drop a)):=by
 simp only [bj,ui n S a h,ob];rcases aI a S.length with b | d
 ·obtain ⟨c,hc⟩:∃c,S[a]?=some c:=⟨S[a],aW b⟩;rw [ct hc];simp [eF hc,peek]
 ·rw [jk d];simp [peek]
theorem wH (n:Nat) (a e:Int) (S:aa) (i:Int):aR n a e S i=some (a,if e=0 then 5 else e):=by
 simp only [aR,gK];by_cases h:e=0<;>simp [h]
theorem gL (n:Nat) (set:aa) (c:UInt8):dF n set ((c.toNat:Nat):Int)=some (Lib.indexByte set c):=by
 simp only [dF,dk,ob,X7]
theorem BF (n:Nat) (set S:aa) (a:Nat) (h:a<=S.length) (f:S.length<4611686018427387904):
  cw n set S (a:Int)=some (match S.drop a with | c::_=>if hasB set c then .inr (((c.toNat:Nat):Int),S,((a+1:Nat):Int)) else .inl ((a:Int),5,S,(a:Int)) | []=>.inl ((a:Int),5,S,(a:Int))):=by
 simp only [cw,pS n S a h,ob];rcases aI a S.length with b | d
 ·obtain ⟨c,hc⟩:∃c,S[a]?=some c:=⟨S[a],aW b⟩;have e:IntKind.wrap .i64 ((a:Int)+1)=((a+1:Nat):Int):=by rw [wrap_i64 _ (by omega) (by omega)];omega
  rw [ct hc];simp only [peek,dn,af,gL,qy,ED,wH,ob,e];cases hasB set c<;>simp
 ·rw [jk d];simp [peek,ED,wH,ob]
theorem pX (S:aa) (a k:Nat):List.drop a (List.take (a+k) S)=(S.drop a).take k:=by
 rw [xB];congr 1;omega
theorem BO (n:Nat) (set:aa) (b most:Int) (S:aa) (a:Nat) (h:a<=S.length) (q:S.length<4611686018427387904) (m:S.length<n):
  av (di n) n (set,b,most,(a:Int),(peek (S.drop a)).1,(peek (S.drop a)).2,S,(a:Int)) =
   some (b,(a:Int),S,((a+bE (hasB set) most.toNat (S.drop a):Nat):Int)):=by
 have:=fQ (step:=di n)
  (λx=>∃j:Nat,a+j<=S.length/\x=(set,b,most,(a:Int),(peek (S.drop (a+j))).1,(peek (S.drop (a+j))).2,S,((a+j:Nat):Int)))
  (λx=>S.length - x.2.2.2.2.2.2.2.toNat)
  (λx=>(b,(a:Int),S,((x.2.2.2.2.2.2.2.toNat+bE (hasB set) (most.toNat - (x.2.2.2.2.2.2.2.toNat - a)) (S.drop x.2.2.2.2.2.2.2.toNat):Nat):Int))) ?_ n
  (set,b,most,(a:Int),(peek (S.drop a)).1,(peek (S.drop a)).2,S,(a:Int)) ⟨0,by omega,by simp⟩ (by simp;omega)
 ·simpa using this
 rintro x ⟨j,o,rfl⟩;simp only [bY];have d:IntKind.wrap .i64 (((a+j:Nat):Int) - (a:Int))=(j:Int):=by rw [wrap_i64 _ (by omega) (by omega)];omega
 rcases aI (a+j) S.length with e | f
 ·obtain ⟨c,hc⟩:∃c,S[a+j]?=some c:=⟨S[a+j],aW e⟩;have i:IntKind.wrap .i64 (((a+j:Nat):Int)+1)=((a+(j+1):Nat):Int):=by rw [wrap_i64 _ (by omega) (by omega)];omega
  simp only [di,ct hc,peek,ah,d];by_cases g:(j:Int)<most
  ·obtain ⟨k,l⟩:∃k,most.toNat - (a+j - a)=k+1:=⟨most.toNat - j - 1,by omega⟩;simp only [g,oy,ah,gL,ob,pY,l,bE];cases p:hasB set c with
   | true=>
    simp only [i,pS n S (a+(j+1)) (by omega),ah];refine .inl ⟨_,rfl,⟨j+1,by omega,rfl⟩,?_,?_⟩
    ·simp only [bY];omega
    ·simp only [bY,bG,ku,aM];have:most.toNat - (a+(j+1) - a)=k:=by omega
     rw [this,show a+(j+1)=a+j+1 by omega];omega
   | false=>exact .inr (by simp)
  ·refine .inr ?_;have:most.toNat - (a+j - a)=0:=by omega
   simp only [g,nN,af,this,bE,cH]
 ·refine .inr ?_;simp only [di,jk f,peek,af];have:bE (hasB set) (most.toNat - (a+j - a)) []=0:=by cases most.toNat - (a+j - a)<;>rfl
  simp only [this,cH]
theorem wm (n:Nat) (set:aa) (b most:Int) (S:aa) (a:Nat) (h:a<=S.length) (g:S.length<4611686018427387904) (f:S.length<n):
  cg n set b most S (a:Int)=some (if ((bE (hasB set) most.toNat (S.drop a):Nat):Int)<b
   then .inl (((a+bE (hasB set) most.toNat (S.drop a):Nat):Int),5,S,((a+bE (hasB set) most.toNat (S.drop a):Nat):Int))
   else .inr ((S.drop a).take (bE (hasB set) most.toNat (S.drop a)),S,((a+bE (hasB set) most.toNat (S.drop a):Nat):Int))):=by
 have e:=ma (hasB set) most.toNat (S.drop a);rw [bN] at e;simp only [cg,ED,pS n S a h,ob];rw [BO n set b most S a h g f];generalize bE (hasB set) most.toNat (S.drop a)=k at e ⊢;have c:IntKind.wrap .i64 (((a+k:Nat):Int) - (a:Int))=(k:Int):=by rw [wrap_i64 _ (by omega) (by omega)];omega
 simp only [c,wH];by_cases d:(k:Int)<b
 ·simp [d]
 ·simp only [d,nN,af,aG];rw [cQ (by omega)];simp only;rw [cQ (by omega)];simp only [pX]
theorem TX (a b:Nat):(cond (decide (((a:Nat):Int)<((b:Nat):Int))) ((a:Nat):Int) ((b:Nat):Int))=((min a b:Nat):Int):=by
 by_cases h:a<b
 ·simp [h];omega
 ·simp [h];omega
def asc (l:aa):Prop:=∀c∈l,c.toNat<128
theorem KC (r:Int) (h:128<=r):∃p e,(Utf8.encode r).data.toList=p++[e]/\1<=p.length/\p.length<=3/\128<=e.toNat:=by
 unfold Utf8.encode;have hc:128<=(if Utf8.valid r then r.toNat else Utf8.runeError):=by
  split
  ·omega
  ·decide
 generalize (if Utf8.valid r then r.toNat else Utf8.runeError)=c at hc;have a:128<=(UInt8.ofNat (0x80+c%64)).toNat:=by
  simp only [FB];omega
 simp only;split
 ·omega
 ·split
  ·exact ⟨[_],_,rfl,by simp,by simp,a⟩
  ·split
   ·exact ⟨[_,_],_,rfl,by simp,by simp,a⟩
   ·exact ⟨[_,_,_],_,rfl,by simp,by simp,a⟩
theorem J5 {l:aa} (h:asc l) {i:Nat} {c:UInt8} (hi:l[i]?=some c):c.toNat<128:=h c (eW hi)
theorem C5 (n:Nat) (set:aa) (h:asc set) (e:set.length<n):av (dR n) n (set,0)=some (.inr ()):=by
 refine fQ (step:=dR n) (λx=>x.1=set) (λx=>set.length - x.2) (λx=>.inr ()) ?_ n _ rfl (by simp;omega);rintro ⟨s,i⟩ rfl;simp only [dR];by_cases hi:i<s.length
 ·have a:Nat.blt i s.length=true:=dm hi;obtain ⟨c,hc⟩:∃c,s[i]?=some c:=⟨s[i],aW hi⟩;have b:=J5 h hc;have d:(((c.toNat:Nat):Int)==65533)=false:=by rw [aJ];omega
  simp only [a,ah,Bf hc b,d,af];exact .inl ⟨_,rfl,rfl,by simp only;omega,trivial⟩
 ·have a:Nat.blt i s.length=false:=by
   cases a:Nat.blt i s.length with
   | false=>rfl
   | true=>exact absurd (aN a) (by omega)
  simp only [a,af];exact .inr trivial
theorem y6 {l:aa} {c:UInt8} (h:c∉l):Lib.indexByte l c<0:=by
 have b:=qy l c;have d:hasB l c=false:=by
  unfold hasB;rw [sP];intro x hx a;simp only [bp] at a;exact h (a▸hx)
 rw [d] at b;simpa using b
theorem EE (n:Nat) (set:aa) (h:asc set) (w:set.length<n) (hs:set.length<=100) (r:Int) (x:128<=r):ei n set r=some (-1):=by
 have z:decide ((0:Int)<=r)=true:=aq (by omega);have l:decide (r<128)=false:=ar (by omega);simp only [ei,z,l,ah,af];by_cases d:r=65533
 ·have:(r==65533)=true:=bp.2 d;simp only [this,ah,C5 n set h w,ob]
 ·have:(r==65533)=false:=aJ.2 d;simp only [this,af];obtain ⟨v,q⟩:∃v,ee n r=some v:=by
   unfold ee;generalize decide ((0:Int)<=r)=o;generalize decide (r<55296)=d2;generalize decide ((57343:Int)<r)=y;generalize decide (r<=1114111)=d4;cases o<;>cases d2<;>cases y<;>cases d4<;>exact ⟨_,rfl⟩
  simp only [q,ob];cases v with
  | false=>rfl
  | true=>
   simp only [dn,af];obtain ⟨p,e,hp,u,t,B⟩:=KC r x;simp only [hp];have s:IntKind.wrap .i64 (((p++[e]).length:Nat) - 1:Int)=(p.length:Int):=by
    rw [wrap_i64 _ (by simp<;>omega) (by simp<;>omega)];simp
   rw [s];obtain ⟨m,rfl⟩:∃m,n=m+1:=⟨n - 1,by omega⟩;have a:dS (m+1) (set,p++[e],(p.length:Int),(p.length:Int))=some (.inr (.inl (-1)))\/dS (m+1) (set,p++[e],(p.length:Int),(p.length:Int))=some (.inr (.inr ())):=by
    simp only [dS,gY];by_cases j:p.length<set.length
    ·obtain ⟨c,hc⟩:∃c,set[p.length]?=some c:=⟨set[p.length],aW j⟩;have k:=J5 h hc;have i:(p++[e])[p.length]?=some e:=by simp
     have f:(((c.toNat:Nat):Int) != ((e.toNat:Nat):Int))=true:=by simp only [bne,jP,aJ];omega
     have g:IntKind.wrap .i64 ((p.length:Int)+1)=((p.length+1:Nat):Int):=by rw [wrap_i64 _ (by omega) (by omega)];omega
     have hx:e∉List.drop (p.length+1) (List.take set.length set):=by
      intro A;have:=h e (by simpa using List.mem_of_mem_drop A);omega
     left;simp only [j,oy,ah,eF hc,eF i,ob,f,g,cQ (show p.length+1<=set.length by omega),gL,y6 hx]
    ·right;simp only [j,nN,af]
   rcases a with b | b<;>simp only [av,b,ob]
theorem yZ (n:Nat) (set:aa) (c:UInt8) (r:Int) (b:r=((c.toNat:Nat):Int)) (hc:c.toNat<128):ei n set r=some (Lib.indexByte set c):=by
 have a:decide ((0:Int)<=r)=true:=aq (by omega);have e:decide (r<128)=true:=aq (by omega);have d:IntKind.wrap .u8 r=r:=fL _ (by omega) (by omega);have f:dF n set r=some (Lib.indexByte set c):=by rw [b];exact gL n set c
 simp only [ei,a,e,ah,d,f,ob]
theorem A5 (n:Nat) (set:aa) (c:UInt8) (hc:c.toNat<128):ei n set ((c.toNat:Nat):Int)=some (Lib.indexByte set c):=yZ n set c _ rfl hc
theorem vW (n:Nat) (set:aa) (c:UInt8) (hc:c.toNat<128):dQ n set ((c.toNat:Nat):Int)=some (hasB set c):=by
 simp only [dQ,A5 n set c hc,ob,pY]
theorem xb (n:Nat) (set:aa) (h:asc set) (a:set.length<n) (hs:set.length<=100) (r:Int) (b:128<=r):dQ n set r=some false:=by
 simp only [dQ,EE n set h a hs r b,ob];rfl
theorem wo (x:Int) (a:0<=x) (b:x<65536):IntKind.wrap .u16 x=x:=by
 show x%65536=x;omega
theorem Di (w a:Nat):BitVec.ofInt w (a:Int)=BitVec.ofNat w a:=by
 apply BitVec.eq_of_toNat_eq;simp
theorem Ub (k:Nat):(2:Int) ^ k=((2 ^ k:Nat):Int):=by simp
theorem Q2 (a k:Nat):Int.fdiv (a:Int) (2 ^ k)=((a / 2 ^ k:Nat):Int):=by
 rw [Ub k,Int.fdiv_eq_ediv_of_nonneg _ (Int.natCast_nonneg _)];rfl
def inR (lo hi:Int) (c:UInt8):Bool:=decide (((c.toNat:Nat):Int)>=lo)&&decide (((c.toNat:Nat):Int)<=hi)
def cnt (lo hi:Int) (l:aa):Nat:=l.countP (inR lo hi)
theorem LS (lo hi:Int) (l:aa):cnt lo hi l<=l.length:=List.countP_le_length
theorem QS (lo hi:Int) {l:aa} {i:Nat} {c:UInt8} (h:l[i]?=some c):cnt lo hi (l.take (i+1))=cnt lo hi (l.take i)+if inR lo hi c then 1 else 0:=by
 unfold cnt;rw [qU,h,List.countP_append];simp [Oa]
theorem HQ (n:Nat) (s:aa) (lo hi:Int) (hs:s.length<n) (l:s.length<100000):gu n s lo hi=some ((cnt lo hi s:Nat):Int):=by
 have:=fQ (step:=ij n) (λx=>∃i:Nat,i<=s.length/\x=(s,lo,hi,((cnt lo hi (s.take i):Nat):Int),(i:Int))) (λx=>s.length - x.2.2.2.2.toNat) (λ_=>((cnt lo hi s:Nat):Int)) ?_ n (s,lo,hi,0,0) ⟨0,by omega,by simp [cnt]⟩ (by simp;omega)
 ·simp only [gu,this,ob]
 rintro x ⟨i,g,rfl⟩;rcases aI i s.length with a | j
 ·obtain ⟨c,hc⟩:∃c,s[i]?=some c:=⟨s[i],aW a⟩;have e:=QS lo hi hc;have b:=LS lo hi (s.take i);rw [cP] at b;have h:IntKind.wrap .i64 ((i:Int)+1)=((i+1:Nat):Int):=by rw [wrap_i64 _ (by omega) (by omega)];omega
  have k:IntKind.wrap .i64 (((cnt lo hi (s.take i):Nat):Int)+1)=((cnt lo hi (s.take i)+1:Nat):Int):=by rw [wrap_i64 _ (by omega) (by omega)];omega
  refine .inl ⟨(s,lo,hi,((cnt lo hi (s.take (i+1)):Nat):Int),((i+1:Nat):Int)),?_,⟨i+1,a,rfl⟩,by simp only [bY];omega,rfl⟩;simp only [ij,gY,a,oy,ah,eF hc,ob,h,k];rw [e];by_cases d:((c.toNat:Nat):Int)>=lo
  ·by_cases f:((c.toNat:Nat):Int)<=hi
   ·simp [d,f,inR]
   ·simp [d,f,inR]
  ·simp [d,inR]
 ·have:i=s.length:=by omega
  subst this;refine .inr ?_;simp only [ij,gY,F9,nN,af,mP]
theorem KU (lo hi:Int) (l:aa):cnt lo hi l=l.length↔∀c∈l,inR lo hi c=true:=by
 unfold cnt;rw [List.countP_eq_length]
theorem Qs (lo hi:Int) (l:aa):cnt lo hi l=0↔∀c∈l,inR lo hi c=false:=by
 unfold cnt;rw [List.countP_eq_zero];simp
def bg (c:UInt8):Bool:=inR 48 57 c
theorem cb (c:UInt8):bg c=true↔48<=c.toNat/\c.toNat<=57:=by
 unfold bg inR;simp only [aD,cr];omega
theorem AY (c:UInt8):inR 88 88 c=true↔c=88:=by
 unfold inR;simp only [aD,cr];constructor
 ·intro h;apply gD.1;show c.toNat=88;omega
 ·rintro rfl;decide
theorem Mc (c:UInt8):inR 48 48 c=true↔c=48:=by
 unfold inR;simp only [aD,cr];constructor
 ·intro h;apply gD.1;show c.toNat=48;omega
 ·rintro rfl;decide
theorem KV:∀l:aa,cnt 48 57 l+cnt 88 88 l<=l.length/\(cnt 48 57 l+cnt 88 88 l=l.length↔∀c∈l,bg c=true\/c=88)
 | []=>by simp [cnt]
 | c::l=>by
  have ih:=KV l;have h:cnt 48 57 (c::l)=cnt 48 57 l+if inR 48 57 c then 1 else 0:=by simp [cnt,Oa]
  have f:cnt 88 88 (c::l)=cnt 88 88 l+if inR 88 88 c then 1 else 0:=by simp [cnt,Oa]
  have g:¬(inR 48 57 c=true/\inR 88 88 c=true):=by
   rintro ⟨b,a⟩;have:=(cb c).1 b;rw [(AY c).1 a] at this;exact absurd this.2 (by decide)
  rw [h,f,aV];simp only [cq,CN];have hx:=AY c;have d:bg c=inR 48 57 c:=rfl;rw [d];cases b:inR 48 57 c<;>cases a:inR 88 88 c
  ·simp only [b,a] at hx ⊢;have:c≠88:=λe=>by simpa using hx.2 e
   simp [this];omega
  ·simp only [b,a] at hx ⊢;have:c=88:=hx.1 trivial;simp only [this,bs,aM,aG,false_or,ku];rw [<-ih.2];omega
  ·simp only [b,a] at hx ⊢;simp only [bs,aM,aG,true_or,ku];rw [<-ih.2];omega
  ·exact absurd ⟨b,a⟩ g
theorem KP (n:Nat) (s set:aa) (q:asc set) (t:set.length<n) (u:set.length<=100) (hs:s.length<n):
  ∃y,av (cT n) n (true,set,s,0)=some y/\((y=.inr ()/\s.all (hasB set)=true)\/∃i:Nat,y=.inl (i:Int)/\s.all (hasB set)=false):=by
 refine pH (step:=cT n) (λx=>x.1=true/\x.2.1=set/\x.2.2.1=s/\s.all (hasB set)=(s.drop x.2.2.2).all (hasB set)) (λx=>s.length - x.2.2.2) _ ?_ n _ ⟨rfl,rfl,rfl,rfl⟩ (by simp only;omega);rintro ⟨b,st,s',p⟩ ⟨j,f,g,a⟩;simp only at j f g a;rw [j,f,g];clear j f g b st s';rcases aI p s.length with h | l
 ·obtain ⟨c,hc⟩:∃c,s[p]?=some c:=⟨s[p],aW h⟩;have e:Nat.blt p s.length=true:=dm h;rw [ct hc,mU] at a;rcases aI c.toNat 128 with d | d
  ·have r:=Bf hc d;simp only [cT,e,ah,kn,r,vW n set c d,ob];cases k:hasB set c with
   | true=>
    rw [k,qB] at a;exact .inl ⟨_,rfl,⟨rfl,rfl,rfl,a⟩,by simp only;omega⟩
   | false=>
    rw [k,yW] at a;exact .inr ⟨_,rfl,.inr ⟨p,rfl,a⟩⟩
  ·have r:=Im hc d;have k:hasB set c=false:=by
    unfold hasB;rw [sP];intro x hx o;simp only [bp] at o;have:=q x hx;rw [o] at this;omega
   rw [k,yW] at a;have m:=xb n set q t u (((dec s p).1:Nat):Int) (by omega);simp only [cT,e,ah,kn,m,ob];exact .inr ⟨_,rfl,.inr ⟨p,rfl,a⟩⟩
 ·have e:Nat.blt p s.length=false:=by
   cases j:Nat.blt p s.length with
   | false=>rfl
   | true=>exact absurd (aN j) (by omega)
  simp only [cT,e,af];rw [jk l] at a;exact .inr ⟨_,rfl,.inl ⟨rfl,by rw [a];rfl⟩⟩
theorem Om (n:Nat) (s set:aa) (c:asc set) (b:set.length<n) (f:set.length<=100) (hs:s.length<n):gB n s set=some (s.all (hasB set)):=by
 obtain ⟨y,e,d⟩:=KP n s set c b f hs;simp only [gB,lI,lM,e,ob];rcases d with ⟨rfl,a⟩ | ⟨i,rfl,a⟩
 ·rw [a];rfl
 ·rw [a];simp only [aw,ta];omega
theorem PM:asc [48,49,50,51,52,53,54,55,56,57]:=by unfold asc;decide
theorem Of:asc [88,48,49,50,51,52,53,54,55,56,57]:=by unfold asc;decide
theorem iP (p:UInt8->Bool) (h:∀i:Fin 256,p (UInt8.ofNat i.val)=true) (c:UInt8):p c=true:=by
 have:=h ⟨c.toNat,c.toNat_lt⟩;simpa using this
theorem xf (c:UInt8):hasB [48,49,50,51,52,53,54,55,56,57] c=bg c:=by
 have:=iP (λc=>hasB [48,49,50,51,52,53,54,55,56,57] c==bg c) (by decide +kernel) c;simpa using this
theorem uX (c:UInt8):hasB [88,48,49,50,51,52,53,54,55,56,57] c=(bg c||c==88):=by
 have:=iP (λc=>hasB [88,48,49,50,51,52,53,54,55,56,57] c==(bg c||c==88)) (by decide +kernel) c;simpa using this
theorem LQ (n:Nat) (s:aa) (a:100<n) (hs:s.length<n):gB n s [48,49,50,51,52,53,54,55,56,57]=some (s.all bg):=by
 rw [Om n s _ PM (by simp;omega) (by simp) hs];congr 2;funext c;exact xf c
theorem Jd (n:Nat) (s:aa) (a:100<n) (hs:s.length<n):gB n s [88,48,49,50,51,52,53,54,55,56,57]=some (s.all λc=>bg c||c==88):=by
 rw [Om n s _ Of (by simp;omega) (by simp) hs];congr 2;funext c;exact uX c
def all0 (s:aa):Bool:=s.all λc=>c==48
theorem Yh (n:Nat) (s:aa) (hs:s.length<n) (m:s.length<100000):∃y,gm n s 48=some y/\all0 s=all0 y/\y.length<=s.length:=by
 obtain ⟨y,j,a⟩:=pH (step:=dE n) (λx=>x.2=48/\all0 s=all0 x.1/\x.1.length<=s.length) (λx=>x.1.length) (λy=>all0 s=all0 y/\y.length<=s.length) (by
  rintro ⟨l,c⟩ ⟨rfl,h,d⟩;simp only at h d;by_cases k:l.length>0
  ·have d0:decide (((l.length:Nat):Int)>0)=true:=aq (by omega);have g:IntKind.wrap .i64 (((l.length:Nat):Int) - 1)=((l.length - 1:Nat):Int):=by rw [wrap_i64 _ (by omega) (by omega)];omega
   obtain ⟨c,hc⟩:∃c,l[l.length - 1]?=some c:=⟨l[l.length - 1],aW (by omega)⟩;simp only [dE,d0,ah,g,eF hc,ob];by_cases b:c=48
   ·have f:(((c.toNat:Nat):Int)==48)=true:=by rw [b];rfl
    simp only [f,ah,cQ (show l.length - 1<=l.length by omega),cO];refine .inl ⟨(List.take (l.length - 1) l,48),rfl,⟨rfl,?_,by show (List.take (l.length - 1) l).length<=s.length;rw [cP];omega⟩,by show (List.take (l.length - 1) l).length<l.length;rw [cP];omega⟩;rw [h];have:l=l.take (l.length - 1)++[c]:=by
     have a:=qU (l:=l) (i:=l.length - 1);rw [hc,show l.length - 1+1=l.length by omega,mP] at a;exact a
    rw [this];simp only [all0,Ep,mU,List.all_nil,b];simp
   ·have f:(((c.toNat:Nat):Int)==48)=false:=by
     rw [aJ];intro e;exact b (gD.1 (by show c.toNat=48;omega))
    simp only [f,af];exact .inr ⟨_,rfl,h,d⟩
  ·have d0:decide (((l.length:Nat):Int)>0)=false:=ar (by omega);simp only [dE,d0,af];exact .inr ⟨_,rfl,h,d⟩) n (s,48) ⟨rfl,rfl,bi _⟩ hs
 exact ⟨y,by simp only [gm,j,ob],a⟩
theorem X6 (n:Nat) (s:aa) (hs:s.length<n) (m:s.length<100000):∃y,gR n s 48=some y/\all0 s=(y==[]):=by
 obtain ⟨y,k,g⟩:=pH (step:=ft n) (λx=>x.2=48/\all0 s=all0 x.1/\x.1.length<=s.length) (λx=>x.1.length) (λy=>all0 s=(y==[])) (by
  rintro ⟨l,c⟩ ⟨rfl,h,f⟩;simp only at h f;cases l with
  | nil=>exact .inr ⟨[],rfl,by rw [h];rfl⟩
  | cons c l=>
   have d0:decide ((((c::l).length:Nat):Int)>0)=true:=aq (by simp only [aV];omega);have hc:sx (c::l) 0=some c:=by simp [sx]
   simp only [ft,d0,ah,hc,ob];by_cases a:c=48
   ·have d:(((c.toNat:Nat):Int)==48)=true:=by rw [a];rfl
    have b:bx (c::l).length 1=some 1:=cQ (i:=1) (by simp);simp only [d,ah,b,mP,pj,cO];refine .inl ⟨_,rfl,⟨rfl,?_,by show l.length<=s.length;simp only [aV] at f;omega⟩,by simp⟩;rw [h];simp [all0,a]
   ·have d:(((c.toNat:Nat):Int)==48)=false:=by
     rw [aJ];intro e;exact a (gD.1 (by show c.toNat=48;omega))
    simp only [d,af];refine .inr ⟨_,rfl,?_⟩;rw [h];have j:(c==48)=false:=aJ.2 a;simp [all0,j]) n (s,48) ⟨rfl,rfl,bi _⟩ hs
 exact ⟨y,by simp only [gR,k,ob],g⟩
theorem UT (n:Nat) (s:aa) (hs:s.length<n) (d:s.length<100000):∃y,oq n s=some y/\(y==[])=all0 s:=by
 unfold oq;by_cases h:s=[]
 ·subst h;exact ⟨[],rfl,rfl⟩
 ·have:(s==([]:aa))=false:=aJ.2 h;obtain ⟨y,b,a,f⟩:=Yh n s hs d;obtain ⟨z,e,c⟩:=X6 n y (by omega) (by omega);exact ⟨z,by simp only [this,af,b,e,ob],by rw [a,c]⟩
theorem Pg (s:aa):all0 s=true↔cnt 48 48 s=s.length:=by
 rw [KU];unfold all0;rw [bW];constructor
 ·intro h c hc;have:=h c hc;rw [bp] at this;exact (Mc c).2 this
 ·intro h c hc;rw [bp];exact (Mc c).1 (h c hc)
def hasX (s:aa):Bool:=s.any λc=>c==88
theorem I2 (s:aa):hasX s=decide (0<cnt 88 88 s):=by
 have:=Qs 88 88 s;unfold hasX;cases h:s.any λc=>c==88 with
 | true=>
  obtain ⟨c,hc,b⟩:=sK.1 h;rw [bp] at b;symm;rw [cr];rcases AD (cnt 88 88 s) with a | a
  ·have:=this.1 a c hc;rw [(AY c).2 b] at this;cases this
  ·exact a
 | false=>
  symm;rw [ta];intro a;have:cnt 88 88 s=0:=this.2 λc hc=>by
   cases hx:inR 88 88 c with
   | false=>rfl
   | true=>
    rw [sP] at h;exact absurd (bp.2 ((AY c).1 hx)) (h c hc)
  omega
theorem D4 (n:Nat) (s:aa):iO n s=some (hasX s):=by
 have e:UInt8.ofNat (Int.toNat 88)=(88:UInt8):=rfl;have hi:mW n s=some (Lib.indexByte s 88):=by
  simp only [mW,jo,dk,ob,e];by_cases h:([88]:aa)=s
  ·subst h;rfl
  ·have:(([88]:aa)==s)=false:=aJ.2 h;simp only [this,af]
 simp only [iO,hi,ob,pY];rfl
theorem uz (n:Nat) (g l:Bool) (d:aa) (x q:Int):du n g l d x q=some (hasX d):=by
 simp only [du,D4,ob]
theorem pJ (n:Nat) (g l:Bool) (d:aa) (x q:Int) (hs:d.length<n) (b:d.length<100000):aH n g l d x q=some (if hasX d then 1 else 0):=by
 simp only [aH,HQ n d 88 88 hs b,ob,I2,cr];by_cases h:0<cnt 88 88 d
 ·have:decide (((cnt 88 88 d:Nat):Int)<1)=false:=ar (by omega);simp [this,h]
 ·have:decide (((cnt 88 88 d:Nat):Int)<1)=true:=aq (by omega);have a:cnt 88 88 d=0:=by omega
  simp [this,a]
def vR (acc:Nat) (c:UInt8):Nat:=acc*10+(c.toNat - 48)
def dval (acc:Nat) (l:aa):Nat:=l.foldl vR acc
theorem qm (acc:Nat):dval acc []=acc:=by unfold dval;rw [IS]
theorem pP (acc:Nat) (c:UInt8) (l:aa):dval acc (c::l)=dval (vR acc c) l:=by
 unfold dval;rw [vP]
theorem IG (l:aa) (acc:Nat) (c:UInt8):dval acc (l++[c])=dval acc l*10+(c.toNat - 48):=by
 have:dval acc (l++[c])=vR (dval acc l) c:=by
  unfold dval;rw [I6,vP,IS]
 rw [this];rfl
theorem Vd (M:Nat) (i:10000000000000000000<=M) (l:aa):∀(acc k:Nat),(∀c∈l,bg c=true)->acc<10 ^ k->l.length+k<=18->Lib.parseUintM M acc l=.ok (dval acc l)/\dval acc l<10 ^ (l.length+k):=by
 induction l with
 | nil=>
  intro acc k _ b _;rw [qm];refine ⟨rfl,?_⟩;simpa using b
 | cons c l ih=>
  intro acc k h b f;have hc:=(cb c).1 (h c (by simp));simp only [aV] at f;have hp:(10:Nat) ^ (k+1)=10 ^ k*10:=tK 10 k;have e:(10:Nat) ^ (k+1)<=10 ^ 18:=ll (by decide) (by omega);have g:(10:Nat) ^ 18=1000000000000000000:=by decide
  have a:vR acc c=acc*10+(c.toNat - 48):=rfl;have ih:=ih (vR acc c) (k+1) (λd a=>h d (by simp [a])) (by omega) (by omega);refine ⟨?_,?_⟩
  ·simp only [Lib.parseUintM];rw [ae hc,ab (by omega),ab (by omega),<-a,ih.1,pP]
  ·rw [pP,aV,show l.length+1+k=l.length+(k+1) by omega];exact ih.2
theorem JU {l:aa} (h:∀c∈l,bg c=true) (b:l≠[]) (k:l.length<=18):xG l=some ((dval 0 l:Nat):Int)/\dval 0 l<10 ^ l.length:=by
 obtain ⟨i,d⟩:=Vd (2 ^ 64 - 1) (by decide) l 0 0 h (by simp) (by omega);refine ⟨?_,by simpa using d⟩;have f:dval 0 l<10 ^ 18:=oU d (ll (by decide) (by omega));cases l with
 | nil=>exact absurd rfl b
 | cons c r=>
  have hc:=(cb c).1 (h c (by simp));have g:Lib.parseUintB 64 (c::r)=.ok (dval 0 (c::r)):=by
   unfold Lib.parseUintB;rw [ab b,i]
  have hs:¬(c.toNat=43\/c.toNat=45):=by omega
  simp only [xG,Lib.parseIntB,hs,aG,g];have j:(10:Nat) ^ 18=1000000000000000000:=by decide
  have a:(2:Nat) ^ (64 - 1)=9223372036854775808:=by decide
  have e:¬c.toNat=45:=by omega
  simp only [e,Gt,ku,yA,aG];rw [a,ab (by omega)]
theorem O6 (n k:Nat) (j:k<=18) (h:18<n):oY n (k:Int)=some (((10 ^ k:Nat):Int),0):=by
 have f:(10:Nat) ^ 18=1000000000000000000:=by decide
 have:=fQ (step:=kV n) (λx=>∃i:Nat,i<=k/\x=(((10 ^ i:Nat):Int),(k:Int),(i:Int))) (λx=>k - x.2.2.toNat) (λ_=>((10 ^ k:Nat):Int)) (by
  rintro x ⟨i,hi,rfl⟩;rcases aI i k with a | d
  ·have e:(10:Nat) ^ (i+1)<=10 ^ 18:=ll (by decide) (by omega);have hp:(10:Nat) ^ (i+1)=10 ^ i*10:=tK 10 i;have b:IntKind.wrap .i64 (((10 ^ i:Nat):Int)*10)=((10 ^ (i+1):Nat):Int):=by rw [wrap_i64 _ (by omega) (by omega)];omega
   have g:IntKind.wrap .i64 ((i:Int)+1)=((i+1:Nat):Int):=by rw [wrap_i64 _ (by omega) (by omega)];omega
   refine .inl ⟨_,?_,⟨i+1,a,rfl⟩,by simp only [bY];omega,rfl⟩;simp only [kV,gY,a,oy,ah,b,g]
  ·have:i=k:=by omega
   subst this;refine .inr ?_;simp only [kV,gY,F9,nN,af]) n (1,(k:Int),0) ⟨0,by omega,rfl⟩ (by simp;omega)
 have c:decide ((k:Int)<0)=false:=ar (by omega);have d2:decide ((k:Int)>18)=false:=ar (by omega);simp only [oY,c,d2,af,this,ob]
theorem kY (x:Int) (a:0<=x) (b:x<18446744073709551616):IntKind.wrap .u64 x=x:=by
 show x%18446744073709551616=x;omega
theorem Fb (x:Int):IntKind.wrap .u64 x=x%18446744073709551616:=rfl
theorem Kx {a:Nat} (b:a<18446744073709551616):bits .and .u64 (a:Int) 4294967295=((a%4294967296:Nat):Int):=by
 show IntKind.wrap .u64 ((BitVec.ofInt 64 (a:Int) &&& BitVec.ofInt 64 ((4294967295:Nat):Int)).toNat:Int)=_;rw [Di,Di,BitVec.toNat_and,BitVec.toNat_ofNat,BitVec.toNat_ofNat,ra (show a<2 ^ 64 from b),ra (by decide)];have:=Nat.and_two_pow_sub_one_eq_mod a 32;rw [show (2:Nat) ^ 32 - 1=4294967295 from by decide,show (2:Nat) ^ 32=4294967296 from by decide] at this;rw [this];exact kY _ (by omega) (by omega)
theorem Qx (a:Nat):Int.fdiv (a:Int) (2 ^ 32)=((a / 4294967296:Nat):Int):=by
 rw [Q2]
theorem Ik {a b A B:Nat} (c:a<=A) (d:b<=B):a*b<=A*B:=yc c d
theorem Nj (a b:Nat):a*b=(a / 4294967296)*(b / 4294967296)*18446744073709551616+((a / 4294967296)*(b%4294967296)+(a%4294967296)*(b / 4294967296))*4294967296+(a%4294967296)*(b%4294967296):=by
 have f:a=(a / 4294967296)*4294967296+a%4294967296:=by omega
 have e:b=(b / 4294967296)*4294967296+b%4294967296:=by omega
 generalize a / 4294967296=c at f ⊢;generalize a%4294967296=x0 at f ⊢;generalize b / 4294967296=d at e ⊢;generalize b%4294967296=g at e ⊢;subst f e;rw [ic,Nat.mul_add,Nat.mul_add];have i:c*4294967296*(d*4294967296)=c*d*18446744073709551616:=by
  rw [Nat.mul_mul_mul_comm]
 have h:c*4294967296*g=c*g*4294967296:=by rw [Nat.mul_right_comm]
 have j:x0*(d*4294967296)=x0*d*4294967296:=by rw [FY]
 rw [i,h,j,ic];omega
theorem YB (n a b:Nat) (w:a<18446744073709551616) (o:b<18446744073709551616):kL n (a:Int) (b:Int)=some (((a*b / 18446744073709551616:Nat):Int),((a*b%18446744073709551616:Nat):Int)):=by
 have x:=Nj a b;have h:a / 4294967296<=4294967295:=by omega
 have j:a%4294967296<=4294967295:=by omega
 have g:b / 4294967296<=4294967295:=by omega
 have i:b%4294967296<=4294967295:=by omega
 have t:=Ik j i;have r:=Ik j g;have u:=Ik h i;have s:=Ik h g;have k:IntKind.wrap .u64 ((a:Int)*(b:Int))=((a*b%18446744073709551616:Nat):Int):=by
  rw [Fb,<-G2];omega
 simp only [kL,Qx,Kx w,Kx o,k];simp only [<-G2];generalize (a / 4294967296)*(b / 4294967296)=f at *;generalize (a / 4294967296)*(b%4294967296)=d at *;generalize (a%4294967296)*(b / 4294967296)=e at *;generalize (a%4294967296)*(b%4294967296)=c at *;generalize a*b=N at *;have p:IntKind.wrap .u64 ((c:Nat):Int)=((c:Nat):Int):=kY _ (by omega) (by omega);have z:IntKind.wrap .u64 ((d:Nat):Int)=((d:Nat):Int):=kY _ (by omega) (by omega);have v:IntKind.wrap .u64 ((e:Nat):Int)=((e:Nat):Int):=kY _ (by omega) (by omega);have m:IntKind.wrap .u64 ((f:Nat):Int)=((f:Nat):Int):=kY _ (by omega) (by omega);rw [p,z,v,m,Qx c];have y:IntKind.wrap .u64 (((d:Nat):Int)+((c / 4294967296:Nat):Int))=((d+c / 4294967296:Nat):Int):=by rw [kY _ (by omega) (by omega)];omega
 rw [y,Qx,Kx (by omega)];have l:IntKind.wrap .u64 (((f:Nat):Int)+(((d+c / 4294967296) / 4294967296:Nat):Int))=((f+(d+c / 4294967296) / 4294967296:Nat):Int):=by rw [kY _ (by omega) (by omega)];omega
 have q:IntKind.wrap .u64 ((((d+c / 4294967296)%4294967296:Nat):Int)+((e:Nat):Int))=(((d+c / 4294967296)%4294967296+e:Nat):Int):=by rw [kY _ (by omega) (by omega)];omega
 rw [l,q,Qx];have w8:IntKind.wrap .u64 (((f+(d+c / 4294967296) / 4294967296:Nat):Int)+((((d+c / 4294967296)%4294967296+e) / 4294967296:Nat):Int))=((N / 18446744073709551616:Nat):Int):=by
  rw [kY _ (by omega) (by omega)];omega
 rw [w8]
theorem XI (n a b:Nat) (j:a<9223372036854775808) (k:b<9223372036854775808):wv n (a:Int) (b:Int)=some (if a*b<9223372036854775808 then (((a*b:Nat):Int),0) else (0,15)):=by
 have g:decide ((a:Int)<0)=false:=ar (by omega);have d2:decide ((b:Int)<0)=false:=ar (by omega);have f:IntKind.wrap .u64 (a:Int)=a:=kY _ (by omega) (by omega);have i:IntKind.wrap .u64 (b:Int)=b:=kY _ (by omega) (by omega);simp only [wv,ux,g,d2,af,f,i,ob,YB n a b (by omega) (by omega)];generalize a*b=N;by_cases h:18446744073709551616<=N
 ·have c:decide (((N / 18446744073709551616:Nat):Int)>0)=true:=aq (by omega);rw [c,ab (by omega)];rfl
 ·have c:decide (((N / 18446744073709551616:Nat):Int)>0)=false:=ar (by omega);have e:N%18446744073709551616=N:=ra (by omega);rw [c,e];simp only [af,vK,dn,tR,jA,ah];by_cases d:N<9223372036854775808
  ·have d4:decide (((N:Nat):Int)<=9223372036854775807)=true:=aq (by omega);rw [d4,ae d,ah,wrap_i64 _ (by omega) (by omega)]
  ·have d4:decide (((N:Nat):Int)<=9223372036854775807)=false:=ar (by omega);rw [d4,ab d,af]
def E16:Nat:=10000000000000000
theorem TY {x:Nat} (hx:17<=x):E16<10 ^ x:=by
 have:(10:Nat) ^ 17<=10 ^ x:=ll (by decide) hx;have a:(10:Nat) ^ 17=100000000000000000:=by decide
 unfold E16;omega
theorem MZ (n:Nat) (g l:Bool) (d:aa) (x:Nat) (s:Int) (p:∀c∈d,bg c=true) (e:d≠[]) (q:d.length<=17) (hx:x<=18) (f:18<n):
  eD n g l d (x:Int) s=some (if dval 0 d*10 ^ x<=E16 then (((dval 0 d*10 ^ x:Nat):Int),0) else (0,6)):=by
 obtain ⟨k,j⟩:=JU p e (by omega);have r:dval 0 d<10 ^ 17:=oU j (ll (by decide) q);have hp:(10:Nat) ^ x<=10 ^ 18:=ll (by decide) hx;have o:(10:Nat) ^ 17=100000000000000000:=by decide
 have m:(10:Nat) ^ 18=1000000000000000000:=by decide
 have i:Nat.ble d.length 9223372036854775806=true:=dm (by omega);simp only [eD,i,ah,k,ob,O6 n x hx f,hJ,af,XI n _ _ (show dval 0 d<9223372036854775808 by omega) (show 10 ^ x<9223372036854775808 by omega)];generalize dval 0 d*10 ^ x=N;unfold E16;by_cases h:N<9223372036854775808
 ·rw [ae h];simp only [hJ,af];by_cases b:N<=10000000000000000
  ·have a:decide (((N:Nat):Int)>10000000000000000)=false:=ar (by omega);rw [a,ae b,af]
  ·have a:decide (((N:Nat):Int)>10000000000000000)=true:=aq (by omega);rw [a,ab b,ah]
 ·rw [ab h,ab (by omega)];rfl
def pre (d:aa) (i:Nat):Nat:=dval 0 (d.take i)*10 ^ (i - d.length)
theorem RQ {d:aa} {i:Nat} {c:UInt8} (h:d[i]?=some c):pre d (i+1)=10*pre d i+(c.toNat - 48):=by
 have a:=uw h;unfold pre;rw [qU,h,show i+1 - d.length=0 by omega,show i - d.length=0 by omega];simp only [Option.toList,IG,AA,rl];omega
theorem RD {d:aa} {i:Nat} (h:d.length<=i):pre d (i+1)=10*pre d i:=by
 unfold pre;rw [jB (show d.length<=i+1 by omega),jB h,show i+1 - d.length=(i - d.length)+1 by omega,tK];rw [<-FY];omega
theorem Ie (d:aa):∀k i,pre d i<=pre d (i+k)
 | 0,i=>bi _
 | k+1,i=>by
  have ih:=Ie d k i;rcases aI (i+k) d.length with a | b
  ·have:=RQ (aW a);rw [show i+(k+1)=i+k+1 by omega,this];omega
  ·have:=RD b;rw [show i+(k+1)=i+k+1 by omega,this];omega
theorem jD (n:Nat) (d:aa) (x:Nat) (s:∀c∈d,bg c=true) (w:d.length<=100) (hx:x<=100) (v:d.length+x<n):
  am n d (x:Int)=some (if dval 0 d*10 ^ x<=E16 then (((dval 0 d*10 ^ x:Nat):Int),1) else (0,0)):=by
 have a:pre d (d.length+x)=dval 0 d*10 ^ x:=by
  unfold pre;rw [jB (by omega),show d.length+x - d.length=x by omega]
 have w0:IntKind.wrap .i64 (((d.length:Nat):Int)+(x:Int))=((d.length+x:Nat):Int):=by rw [wrap_i64 _ (by omega) (by omega)];omega
 have:=fQ (step:=fm n) (λq=>∃i:Nat,i<=d.length+x/\pre d i<=E16/\q=(d,(x:Int),((pre d i:Nat):Int),(i:Int))) (λq=>d.length+x - q.2.2.2.toNat) (λ_=>if dval 0 d*10 ^ x<=E16 then .inr ((dval 0 d*10 ^ x:Nat):Int) else .inl (0,0)) (by
  rintro q ⟨i,hi,hp,rfl⟩;simp only [fm,w0,gY];unfold E16 at hp ⊢;have m:IntKind.wrap .i64 ((i:Int)+1)=((i+1:Nat):Int):=by rw [wrap_i64 _ (by omega) (by omega)];omega
  have u:IntKind.wrap .i64 (10*((pre d i:Nat):Int))=((10*pre d i:Nat):Int):=by rw [wrap_i64 _ (by omega) (by omega)];omega
  by_cases j:i<d.length+x
  ·have p:=Ie d (d.length+x - (i+1)) (i+1);rw [show i+1+(d.length+x - (i+1))=d.length+x by omega,a] at p;simp only [j,oy,ah,m,u];rcases aI i d.length with e | f
   ·obtain ⟨c,hc⟩:∃c,d[i]?=some c:=⟨d[i],aW e⟩;have l:=(cb c).1 (s c (eW hc));have hs:=RQ hc;have t:IntKind.wrap .u8 (((c.toNat:Nat):Int) - 48)=((c.toNat - 48:Nat):Int):=by rw [fL _ (by omega) (by omega)];omega
    have r:IntKind.wrap .i64 ((c.toNat - 48:Nat):Int)=((c.toNat - 48:Nat):Int):=wrap_i64 _ (by omega) (by omega);have o:IntKind.wrap .i64 (((10*pre d i:Nat):Int)+((c.toNat - 48:Nat):Int))=((pre d (i+1):Nat):Int):=by rw [wrap_i64 _ (by omega) (by omega)];omega
    simp only [e,oy,ah,eF hc,ob,t,r,o];by_cases g:pre d (i+1)<=10000000000000000
    ·have b:decide (((pre d (i+1):Nat):Int)>10000000000000000)=false:=ar (by omega);simp only [b,af];exact .inl ⟨_,rfl,⟨i+1,j,g,rfl⟩,by simp only [bY];omega,trivial⟩
    ·have b:decide (((pre d (i+1):Nat):Int)>10000000000000000)=true:=aq (by omega);simp only [b,ah];rw [ab (by omega)];exact .inr rfl
   ·have hs:=RD f;have k:¬i<d.length:=by omega
    simp only [k,nN,af];rw [<-hs];by_cases g:pre d (i+1)<=10000000000000000
    ·have b:decide (((pre d (i+1):Nat):Int)>10000000000000000)=false:=ar (by omega);simp only [b,af];exact .inl ⟨_,rfl,⟨i+1,j,g,rfl⟩,by simp only [bY];omega,trivial⟩
    ·have b:decide (((pre d (i+1):Nat):Int)>10000000000000000)=true:=aq (by omega);simp only [b,ah];rw [ab (by omega)];exact .inr rfl
  ·have:i=d.length+x:=by omega
   subst this;simp only [F9,nN,af];rw [a] at hp ⊢;rw [ae hp];exact .inr rfl) n (d,(x:Int),0,0) ⟨0,by omega,by unfold pre E16;simp [qm],by unfold pre;simp [qm]⟩ (by simp;omega)
 simp only [am,this,ob];by_cases h:dval 0 d*10 ^ x<=E16
 ·rw [ae h,ae h]
 ·rw [ab h,ab h]
def okM (d:aa) (x:Int):Prop:=(∀c∈d,bg c=true)/\1<=d.length/\d.length<=17/\d.head?≠some 48/\0<=x/\x<=16/\¬(x=0/\d.length<5)/\dval 0 d*10 ^ x.toNat<=E16
def okL (d:aa) (x s:Int):Prop:=okM d x/\0<=s/\s<=(d.length:Int)+x
def okS (g:Bool) (d:aa) (x s:Int):Prop:=d.length=4/\(∀c∈d,bg c=true\/c=88)/\x=0/\¬(g=true/\all0 d=true)/\0<=s/\s<=4/\¬(0<s/\hasX d=true)
def okY (g l:Bool) (d:aa) (x s:Int):Prop:=if l=true then okL d x s else okS g d x s
instance (d:aa) (x:Int):Decidable (okM d x):=by unfold okM;infer_instance
instance (d:aa) (x s:Int):Decidable (okL d x s):=by unfold okL;infer_instance
instance (g:Bool) (d:aa) (x s:Int):Decidable (okS g d x s):=by unfold okS;infer_instance
instance (g l:Bool) (d:aa) (x s:Int):Decidable (okY g l d x s):=by unfold okY;infer_instance
theorem LN (d:aa):d.all bg=true↔∀c∈d,bg c=true:=bW
theorem Ih (d:aa):(d.all λc=>bg c||c==88)=true↔∀c∈d,bg c=true\/c=88:=by
 rw [bW];constructor
 ·intro h c hc;have:=h c hc;simpa using this
 ·intro h c hc;have:=h c hc;simpa using this
theorem Ux (c:UInt8):(((c.toNat:Nat):Int)==48)=(c==48):=nQ c 48
theorem UK (n:Nat) (g l:Bool) (d:aa) (x s:Int) (y:200<n) (A:d.length<=100):ba n g l d x s=some (decide (okM d x)):=by
 unfold ba;by_cases w:d.length<1
 ·have e:decide (((d.length:Nat):Int)<1)=true:=aq (by omega);rw [e,ar (λh:okM d x=>by have:=h.2.1;omega)];rfl
 ·have e:decide (((d.length:Nat):Int)<1)=false:=ar (by omega);rw [e,af];by_cases z:d.length>17
  ·have e:decide (((d.length:Nat):Int)>17)=true:=aq (by omega);rw [e,ar (λh:okM d x=>by have:=h.2.2.1;omega)];rfl
  ·have e:decide (((d.length:Nat):Int)>17)=false:=ar (by omega);rw [e,af,LQ n d (by omega) (by omega)];simp only [ob];cases p:d.all bg with
   | false=>
    rw [ar (λh:okM d x=>by rw [(LN d).2 h.1] at p;cases p)];rfl
   | true=>
    have a:=(LN d).1 p;obtain ⟨c,r,rfl⟩:∃c r,d=c::r:=by
     cases d with
     | nil=>simp at w
     | cons c r=>exact ⟨c,r,rfl⟩
    have o:sx (c::r) 0=some c:=by simp [sx]
    simp only [dn,af,o,Ux];by_cases i:c=48
    ·rw [ar (λh:okM (c::r) x=>h.2.2.2.1 (by rw [i];rfl)),i];rfl
    ·have e:(c==48)=false:=aJ.2 i;rw [e,af];by_cases u:x<0
     ·rw [aq u,ar (λh:okM (c::r) x=>by have:=h.2.2.2.2.1;omega)];rfl
     ·rw [ar u,af];by_cases v:x>16
      ·rw [aq v,ar (λh:okM (c::r) x=>by have:=h.2.2.2.2.2.1;omega)];rfl
      ·rw [ar v,af];obtain ⟨k,rfl⟩:∃k:Nat,x=(k:Int):=⟨x.toNat,by omega⟩;have m:=MZ n g l (c::r) k s a (by simp) (by omega) (by omega) (by omega);rw [m];have key:¬((k:Int)=0/\(c::r).length<5)->(okM (c::r) (k:Int)↔dval 0 (c::r)*10 ^ k<=E16):=by
        intro j;constructor
        ·intro h;simpa using h.2.2.2.2.2.2.2
        ·intro h;exact ⟨a,by omega,by omega,by simpa using i,by omega,by omega,j,by simpa using h⟩
       have fin:¬((k:Int)=0/\(c::r).length<5)->(ob (some (if dval 0 (c::r)*10 ^ k<=E16 then (((dval 0 (c::r)*10 ^ k:Nat):Int),(0:Int)) else (0,6))) λq=>(some (q.2==0)))=some (decide (okM (c::r) (k:Int))):=by
        intro j;by_cases f:dval 0 (c::r)*10 ^ k<=E16
        ·rw [ae f,aq ((key j).2 f)];rfl
        ·rw [ab f,ar (λh=>f ((key j).1 h))];rfl
       by_cases b:(k:Int)=0
       ·have e:((k:Int)==0)=true:=bp.2 b;rw [e,ah];by_cases t:(c::r).length<5
        ·have e:decide ((((c::r).length:Nat):Int)<5)=true:=aq (by omega);rw [e,ar (λh:okM (c::r) (k:Int)=>h.2.2.2.2.2.2.1 ⟨b,t⟩)];rfl
        ·have e:decide ((((c::r).length:Nat):Int)<5)=false:=ar (by omega);rw [e,af];exact fin (λh=>t h.2)
       ·have e:((k:Int)==0)=false:=aJ.2 b;rw [e,af];exact fin (λh=>b h.1)
theorem Ph (n:Nat) (g l:Bool) (d:aa) (x s:Int) (c:200<n) (e:d.length<=100):
  (ob (ba n g l d x s) λr=>(cond (!r) (some (6:Int)) (cond (decide (s<0)) (some 6) (cond (decide (s>(IntKind.wrap .i64 (((d.length:Nat):Int)+x)))) (some 6) (some 0)))))=some (if okL d x s then 0 else 6):=by
 rw [UK n g l d x s c e];simp only [ob];by_cases h:okM d x
 ·rw [aq h];have hx:=h.2.2.2.2;have w:IntKind.wrap .i64 (((d.length:Nat):Int)+x)=((d.length:Nat):Int)+x:=wrap_i64 _ (by omega) (by omega);rw [w];simp only [dn,af,bM];by_cases b:s<0
  ·rw [ae b,ab (λq:okL d x s=>by have:=q.2.1;omega)]
  ·rw [ab b];by_cases a:s>((d.length:Nat):Int)+x
   ·rw [ae a,ab (λq:okL d x s=>by have:=q.2.2;omega)]
   ·rw [ab a,ae ⟨h,by omega,by omega⟩]
 ·rw [ar h,ab (λq:okL d x s=>h q.1)];rfl
theorem Iw (n:Nat) (g l:Bool) (d:aa) (x s:Int) (v:200<n) (A:d.length<=100):jv n g l d x s=some (if okY g l d x s then 0 else 6):=by
 obtain ⟨y,z,hy⟩:=UT n d (by omega) (by omega);unfold jv;rw [Jd n d (by omega) (by omega),z,uz];cases l with
 | true=>
  have b:(if okY g true d x s then (0:Int) else 6)=if okL d x s then 0 else 6:=by simp only [okY,aM]
  rw [b];have st:=Ph n g true d x s v A;simp only [ah];generalize (ob (ba n g true d x s) λr=>(cond (!r) (some (6:Int)) (cond (decide (s<0)) (some 6) (cond (decide (s>(IntKind.wrap .i64 (((d.length:Nat):Int)+x)))) (some 6) (some 0)))))=T at st ⊢;simp only [ob];rw [st];cases (((d.length:Nat):Int)==4)<;>cases (d.all λc=>bg c||c==88)<;>cases (x==0)<;>cases g<;>cases (y==[])<;>cases (s != 0)<;>rfl
 | false=>
  have b:(if okY g false d x s then (0:Int) else 6)=if okS g d x s then 0 else 6:=by simp only [okY,bs,aG]
  rw [b];simp only [af,ob];by_cases f:d.length=4
  ·have m:(((d.length:Nat):Int)==4)=true:=bp.2 (by omega);rw [m,ah];cases i:(d.all λc=>bg c||c==88) with
   | false=>
    rw [ab (λq:okS g d x s=>by rw [(Ih d).2 q.2.1] at i;cases i)];rfl
   | true=>
    have e:=(Ih d).1 i;rw [ah];by_cases j:x=0
    ·subst j;have w:IntKind.wrap .i64 (((d.length:Nat):Int)+0)=4:=by rw [f];decide
     rw [w];have a:¬(g=true/\all0 d=true)->(cond (s != 0) (cond (!(!hasX d)) (some (6:Int)) (cond (decide (s<0)) (some 6) (cond (decide (s>4)) (some 6) (some 0)))) (cond (decide (s<0)) (some 6) (cond (decide (s>4)) (some 6) (some 0))))=some (if okS g d 0 s then 0 else 6):=by
      intro t;simp only [bM,IQ,Bool.not_not];by_cases s0:s=0
      ·subst s0;rw [ae rfl,ab (by omega),ab (by omega),ae ⟨f,e,rfl,t,by omega,by omega,by omega⟩]
      ·rw [ab s0];cases p:hasX d with
       | true=>
        by_cases h:s<0
        ·rw [ab (λq:okS g d 0 s=>by have:=q.2.2.2.2.1;omega)];rfl
        ·rw [ab (λq:okS g d 0 s=>q.2.2.2.2.2.2 ⟨by omega,p⟩)];rfl
       | false=>
        rw [af];by_cases h:s<0
        ·rw [ae h,ab (λq:okS g d 0 s=>by have:=q.2.2.2.2.1;omega)]
        ·rw [ab h];by_cases o:s>4
         ·rw [ae o,ab (λq:okS g d 0 s=>by have:=q.2.2.2.2.2.1;omega)]
         ·rw [ab o,ae ⟨f,e,rfl,t,by omega,by omega,λq=>by rw [p] at q;cases q.2⟩]
     have k:((0:Int)==0)=true:=rfl;rw [k,ah];cases g with
     | false=>
      simp only [af];exact a (by simp)
     | true=>
      simp only [ah];rw [hy];cases u:all0 d with
      | true=>rw [ab (λq:okS true d 0 s=>q.2.2.2.1 ⟨rfl,u⟩)];rfl
      | false=>
       simp only [jA,ah];exact a (by rw [u];simp)
    ·have k:(x==0)=false:=aJ.2 j;rw [k,ab (λq:okS g d x s=>j q.2.2.1)];rfl
  ·have m:(((d.length:Nat):Int)==4)=false:=aJ.2 (by omega);rw [m,ab (λq:okS g d x s=>f q.1)];rfl
theorem U8 (d:aa):cnt 48 57 d=d.length↔∀c∈d,bg c=true:=KU 48 57 d
theorem ET (n:Nat) (g l:Bool) (d:aa) (x s:Int) (L:200<n) (J:d.length<=100):cN n g l d x s=some (if okY g l d x s then 1 else 0):=by
 have hs:=KV d;have m:=I2 d;have v:=Pg d;have t:=U8 d;unfold cN;rw [HQ n d 48 57 (by omega) (by omega),HQ n d 88 88 (by omega) (by omega),HQ n d 48 48 (by omega) (by omega)];simp only [ob];generalize M:cnt 48 57 d=A at *;generalize N:cnt 88 88 d=B at *;have w0:IntKind.wrap .i64 (((A:Nat):Int)+((B:Nat):Int))=((A+B:Nat):Int):=by rw [wrap_i64 _ (by omega) (by omega)];omega
 rw [w0];simp only [IQ,bM,GX];by_cases y:A+B=d.length
 ·rw [ae (by omega)];have w:=hs.2.1 y;by_cases G:s<0
  ·rw [ae G,ab];intro q;unfold okY at q;split at q
   ·have:=q.2.1;omega
   ·have:=q.2.2.2.2.1;omega
  ·rw [ab G];cases l with
   | false=>
    have i:(if okY g false d x s then (1:Int) else 0)=if okS g d x s then 1 else 0:=by simp only [okY,bs,aG]
    rw [i,af];by_cases j:d.length=4
    ·rw [ae (by omega)];by_cases f:x=0
     ·rw [ae f];have a:¬(g=true/\all0 d=true)->(if s>4 then some (0:Int) else if s>0 then (if ((B:Nat):Int)>0 then some 0 else some 1) else some 1)=some (if okS g d x s then 1 else 0):=by
       intro H;by_cases u:s>4
       ·rw [ae u,ab (λq:okS g d x s=>by have:=q.2.2.2.2.2.1;omega)]
       ·rw [ab u];by_cases C:s>0
        ·rw [ae C];by_cases o:((B:Nat):Int)>0
         ·rw [ae o,ab (λq:okS g d x s=>q.2.2.2.2.2.2 ⟨by omega,by rw [m];exact aq (by omega)⟩)]
         ·rw [ab o,ae ⟨j,w,f,H,by omega,by omega,λq=>by
           have:=q.2;rw [m,cr] at this;omega⟩]
        ·rw [ab C,ae ⟨j,w,f,H,by omega,by omega,λq=>by omega⟩]
      cases g with
      | false=>rw [af];exact a (by simp)
      | true=>
       rw [ah,gK];by_cases b:all0 d=true
       ·rw [ae (by have:=v.1 b;omega),ab (λq:okS true d x s=>q.2.2.2.1 ⟨rfl,b⟩)]
       ·rw [ab (λq=>b (v.2 (by omega)))];exact a (λq=>b q.2)
     ·rw [ab f,ab (λq:okS g d x s=>f q.2.2.1)]
    ·rw [ab (by omega),ab (λq:okS g d x s=>j q.1)]
   | true=>
    have i:(if okY g true d x s then (1:Int) else 0)=if okL d x s then 1 else 0:=by simp only [okY,aM]
    rw [i,ah];by_cases o:((B:Nat):Int)>0
    ·rw [ae o,ab];intro q;have:=t.2 q.1.1;omega
    ·rw [ab o];have h:=t.1 (by omega);by_cases j:((A:Nat):Int)<1
     ·rw [ae j,ab (λq:okL d x s=>by have:=q.1.2.1;omega)]
     ·rw [ab j];by_cases f:((A:Nat):Int)>17
      ·rw [ae f,ab (λq:okL d x s=>by have:=q.1.2.2.1;omega)]
      ·rw [ab f];obtain ⟨c,r,rfl⟩:∃c r,d=c::r:=by
        cases d with
        | nil=>simp at y;omega
        | cons c r=>exact ⟨c,r,rfl⟩
       have z:sx (c::r) 0=some c:=by simp [sx]
       simp only [z,Ux,gK];by_cases b:c=48
       ·rw [ae b,ab (λq:okL (c::r) x s=>q.1.2.2.2.1 (by rw [b];rfl))]
       ·rw [ab b];by_cases D:x<0
        ·rw [ae D,ab (λq:okL (c::r) x s=>by have:=q.1.2.2.2.2.1;omega)]
        ·rw [ab D];by_cases F:x>16
         ·rw [ae F,ab (λq:okL (c::r) x s=>by have:=q.1.2.2.2.2.2.1;omega)]
         ·rw [ab F];obtain ⟨k,rfl⟩:∃k:Nat,x=(k:Int):=⟨x.toNat,by omega⟩;have I:IntKind.wrap .i64 (((A:Nat):Int)+(k:Int))=((A+k:Nat):Int):=by rw [wrap_i64 _ (by omega) (by omega)];omega
          rw [I,jD n (c::r) k h J (by omega) (by omega)];have p:(c::r).length=A:=by omega
          have a:¬((k:Int)=0/\(c::r).length<5)->(if s>((A+k:Nat):Int) then some (0:Int) else some (if dval 0 (c::r)*10 ^ k<=E16 then (((dval 0 (c::r)*10 ^ k:Nat):Int),(1:Int)) else (0,0)).2)=some (if okL (c::r) (k:Int) s then 1 else 0):=by
           intro K;by_cases u:s>((A+k:Nat):Int)
           ·rw [ae u,ab (λq:okL (c::r) (k:Int) s=>by have:=q.2.2;rw [p] at this;omega)]
           ·rw [ab u];by_cases e:dval 0 (c::r)*10 ^ k<=E16
            ·rw [ae e,ae ⟨⟨h,by omega,by omega,by simpa using b,by omega,by omega,K,by simpa using e⟩,by omega,by omega⟩]
            ·rw [ab e,ab (λq:okL (c::r) (k:Int) s=>e (by simpa using q.1.2.2.2.2.2.2.2))]
          by_cases e:(k:Int)=0
          ·rw [ae e];by_cases E:((A:Nat):Int)<5
           ·rw [ae E,ab (λq:okL (c::r) (k:Int) s=>q.1.2.2.2.2.2.2.1 ⟨e,by omega⟩)]
           ·rw [ab E];exact a (λq=>by omega)
          ·rw [ab e];exact a (λq=>e q.1)
 ·rw [ab (by omega),ab];intro q;apply y;rw [hs.2];unfold okY at q;split at q
  ·exact λc hc=>.inl (q.1.1 c hc)
  ·exact q.2.1
theorem LM:∀(l:aa) (acc:Nat),acc*10 ^ l.length<=dval acc l
 | [],acc=>by rw [qm];simp
 | c::l,acc=>by
  have ih:=LM l (vR acc c);rw [pP,aV,tK];have h:acc*10<=vR acc c:=B7 _ _;have b:=oH (10 ^ l.length) h;have a:acc*(10 ^ l.length*10)=acc*10*10 ^ l.length:=by rw [va (10 ^ l.length) 10,FY]
  omega
theorem re:∀(l:aa) (acc k:Nat),(∀c∈l,bg c=true)->acc<10 ^ k->dval acc l<10 ^ (l.length+k)
 | [],acc,k,_,h=>by rw [qm];simpa using h
 | c::l,acc,k,b,h=>by
  have hc:=(cb c).1 (b c (by simp));have hp:(10:Nat) ^ (k+1)=10 ^ k*10:=tK 10 k;have hs:vR acc c=acc*10+(c.toNat - 48):=rfl;have ih:=re l (vR acc c) (k+1) (λd a=>b d (by simp [a])) (by omega);rw [pP,aV,show l.length+1+k=l.length+(k+1) by omega];exact ih
structure Num (d:aa) (k q:Nat):Prop where
 dig:∀c∈d,bg c=true
 ne:d≠[]
 wide:d.length+k<=17
 small:dval 0 d*10 ^ k<=E16
 sig:q<=d.length+k
theorem uF {d:aa} (h:∀c∈d,bg c=true):hasX d=false:=by
 unfold hasX;rw [sP];intro c hc a;rw [bp] at a;have:=(cb c).1 (h c hc);rw [a] at this;exact absurd this.2 (by decide)
theorem sR {g l:Bool} {d:aa} {x s:Int} (h:okY g l d x s) (i:hasX d=false):∃k q:Nat,x=(k:Int)/\s=(q:Int)/\Num d k q:=by
 cases l with
 | true=>
  have h:okL d x s:=by simpa [okY] using h
  obtain ⟨⟨b,f,B,p,A,C,w,v⟩,t,z⟩:=h;refine ⟨x.toNat,s.toNat,by omega,by omega,b,by intro e;subst e;simp at f,?_,v,by omega⟩;cases d with
  | nil=>simp at f
  | cons c r=>
   have hc:=(cb c).1 (b c (by simp));have m:c≠48:=by simpa using p
   have n:1<=vR 0 c:=by
    have:c.toNat≠48:=λe=>m (gD.1 e);show 1<=0*10+(c.toNat - 48);omega
   have y:=LM r (vR 0 c);rw [<-pP] at y;have t:10 ^ r.length<=dval 0 (c::r):=by
    have:=oH (10 ^ r.length) n;omega
   have o:=oH (10 ^ x.toNat) t;rw [<-Nat.pow_add] at o;rcases aI (r.length+x.toNat) 17 with a | j
   ·simp only [aV];omega
   ·have:=TY j;omega
 | false=>
  have h:okS g d x s:=by simpa [okY] using h
  obtain ⟨b,f,B,p,A,C,w⟩:=h;have u:∀c∈d,bg c=true:=by
   intro c hc;rcases f c hc with h | h
   ·exact h
   ·exfalso;unfold hasX at i;rw [sP] at i;exact i c hc (bp.2 h)
  have a:=re d 0 0 u (by simp);rw [b] at a;refine ⟨0,s.toNat,by omega,by omega,u,by intro e;subst e;simp at b,by omega,?_,by omega⟩;have p:(10:Nat) ^ (4+0)=10000:=by decide
  unfold E16;simp only [AA,rl];omega
def val (d:aa) (k:Nat):Nat:=dval 0 d*10 ^ k
theorem BL (n:Nat) (g l:Bool) (d:aa) (x s:Int) (b:200<n) (e:d.length<=100):
  eM n g l d x s=some (if okY g l d x s/\hasX d=false then (if g then -((val d x.toNat:Nat):Int) else ((val d x.toNat:Nat):Int),0) else (0,6)):=by
 unfold eM;rw [Iw n g l d x s b e,uz];simp only [ob];by_cases h:okY g l d x s
 ·rw [ae h];cases c:hasX d with
  | true=>rw [ab (by simp)];rfl
  | false=>
   rw [ae ⟨h,rfl⟩];obtain ⟨k,q,rfl,rfl,a⟩:=sR h c;rw [MZ n g l d k q a.dig a.ne (by have:=a.wide;omega) (by have:=a.wide;omega) (by omega),ae a.small];have hs:=a.small;unfold E16 at hs;cases g with
   | true=>
    simp only [hJ,af,ah,bY,val,aM];rw [wrap_i64 _ (by omega) (by omega),zQ]
   | false=>simp [val]
 ·rw [ab h,ab (λq=>h q.1)];rfl
theorem dV {a b:aa} (h:a.length+b.length<=1000000):cat a b=some (a++b):=by
 unfold cat;rw [ae (by omega)]
theorem cut1 {l:aa} {i:Nat} {c:UInt8} (h:l[i]?=some c):List.drop i (List.take (i+1) l)=[c]:=by
 have a:=uw h;rw [qU,h,Dv (by rw [cP];omega)];rfl
theorem Vf {l:aa} {i:Nat} {c:UInt8} (h:l[i]?=some c):List.take (i+1) l=List.take i l++[c]:=by
 rw [qU,h];rfl
theorem rK {g l:Bool} {d:aa} {x s:Int} (h:okY g l d x s) (a:hasX d=true):l=false/\x=0/\s=0/\d.length=4/\∀c∈d,bg c=true\/c=88:=by
 cases l with
 | true=>
  have h:okL d x s:=by simpa [okY] using h
  rw [uF h.1.1] at a;cases a
 | false=>
  have h:okS g d x s:=by simpa [okY] using h
  obtain ⟨i,f,j,m,k,n,b⟩:=h;refine ⟨rfl,j,?_,i,f⟩;have:¬0<s:=λe=>b ⟨e,a⟩;omega
theorem jf {g l:Bool} {d:aa} {x s:Int} (h:okY g l d x s):0<=x/\x<=16/\0<=s/\s<=17/\1<=d.length/\d.length<=17:=by
 cases b:hasX d with
 | true=>
  obtain ⟨rfl,rfl,rfl,j,_⟩:=rK h b;omega
 | false=>
  obtain ⟨k,q,rfl,rfl,a⟩:=sR h b;have f:=a.wide;have e:=a.sig;have i:1<=d.length:=by
   cases d with
   | nil=>exact absurd rfl a.ne
   | cons c r=>simp
  omega
def numU (d:UInt8):aa->Nat⊕(Nat×Nat)
 | []=>.inr (d.toNat - 48,2)
 | e::_=>if bg e=true then .inr (10*(d.toNat - 48)+(e.toNat - 48),3) else .inr (d.toNat - 48,2)
def numT:aa->Nat⊕(Nat×Nat)
 | []=>.inl 1
 | d::r=>if 49<=d.toNat/\d.toNat<=57 then numU d r else .inl 1
def numS (letter:UInt8):aa->Nat⊕(Nat×Nat)
 | []=>.inr (0,0)
 | c::r=>if c=letter then numT r else .inr (0,0)
theorem wE (letter:UInt8):numS letter []=.inr (0,0):=rfl
theorem nL (letter c:UInt8) (r:aa):numS letter (c::r)=if c=letter then numT r else .inr (0,0):=rfl
theorem B6:numT []=.inl 1:=rfl
theorem pa (d:UInt8) (r:aa):numT (d::r)=if 49<=d.toNat/\d.toNat<=57 then numU d r else .inl 1:=rfl
theorem uC (d:UInt8):numU d []=.inr (d.toNat - 48,2):=rfl
theorem nX (d e:UInt8) (r:aa):numU d (e::r)=if bg e=true then .inr (10*(d.toNat - 48)+(e.toNat - 48),3) else .inr (d.toNat - 48,2):=rfl
theorem zW (c:UInt8) (h:c.toNat<128):(Utf8.encode ((c.toNat:Nat):Int)).data.toList=[c]:=by
 have:=iP (λc=>(decide (128<=c.toNat))||(Utf8.encode ((c.toNat:Nat):Int)).data.toList==[c]) (by decide +kernel) c;simp only [gX,cr,bp] at this;rcases this with a | a
 ·omega
 ·exact a
theorem rI {c:UInt8} (h:48<=c.toNat/\c.toNat<=57):Lib.digitVal c=some (c.toNat - 48):=by
 unfold Lib.digitVal;rw [ae h]
theorem Ad {c:UInt8} (h:48<=c.toNat/\c.toNat<=57) (r:aa):Lib.atoi (c::r)=(Lib.decNat (c::r)).map λ(m:Nat)=>(m:Int):=by
 have b:(c==45)=false:=by
  rw [aJ];rintro rfl;exact absurd h.1 (by decide)
 have a:(c==43)=false:=by
  rw [aJ];rintro rfl;exact absurd h.1 (by decide)
 simp only [Lib.atoi,b,a,bs,aG]
theorem P5 {c:UInt8} (h:48<=c.toNat/\c.toNat<=57):Lib.atoi [c]=some ((c.toNat - 48:Nat):Int):=by
 rw [Ad h];simp only [Lib.decNat,List.isEmpty_cons,bs,aG,Lib.decFrom,rI h,fi,BH,cX]
theorem HD {c e:UInt8} (h:48<=c.toNat/\c.toNat<=57) (a:48<=e.toNat/\e.toNat<=57):Lib.atoi [c,e]=some ((10*(c.toNat - 48)+(e.toNat - 48):Nat):Int):=by
 rw [Ad h];simp only [Lib.decNat,List.isEmpty_cons,bs,aG,Lib.decFrom,rI h,rI a,fi,BH,cX];rw [va]
theorem Ak (c:UInt8):hasB [49,50,51,52,53,54,55,56,57] c=decide (49<=c.toNat/\c.toNat<=57):=by
 have:=iP (λc=>hasB [49,50,51,52,53,54,55,56,57] c==decide (49<=c.toNat/\c.toNat<=57)) (by decide +kernel) c;simpa using this
theorem kx {p q:UInt8->Bool} (h:∀c,p c=q c):∀(k:Nat) (l:aa),bE p k l=bE q k l
 | 0,_=>by simp [bE]
 | _+1,[]=>by simp [bE]
 | k+1,c::l=>by simp only [bE,h c,kx h k l]
theorem nP {S:aa} {a:Nat} {c:UInt8} {r:aa} (h:S.drop a=c::r):a<S.length/\S[a]?=some c/\S.drop (a+1)=r:=by
 have b:a<S.length:=by
  rcases aI a S.length with q | q
  ·exact q
  ·rw [jk q] at h;cases h
 have d:S[a]?=some S[a]:=aW b;have e:=ct d;rw [h] at e;injection e with h1 h2;exact ⟨b,by rw [d,h1],h2.symm⟩
theorem Lt (n:Nat) (letter:UInt8) (S:aa) (a:Nat) (h:a<=S.length) (D:S.length<100000) (B:S.length<n):
  dp n [letter] S (a:Int)=some (match numS letter (S.drop a) with | .inl k=>.inr (((a+k:Nat):Int),5,S,((a+k:Nat):Int)) | .inr (v,k)=>.inl ((v:Int),S,((a+k:Nat):Int))):=by
 unfold dp;rw [m9 n [letter] S a h (by omega)];cases A:S.drop a with
 | nil=>simp [wE]
 | cons c r=>
  obtain ⟨C,F,u⟩:=nP A;rw [nL];by_cases hc:c=letter
  ·have i:List.take [letter].length (c::r)=[letter]:=by simp [hc]
   have l:a+[letter].length=a+1:=rfl;rw [ae i,l,ae hc];clear i;simp only [ob,dn,af];rw [BF n _ S (a+1) (by omega) (by omega),u];cases r with
   | nil=>simp [B6]
   | cons d x=>
    obtain ⟨t,z,q⟩:=nP u;rw [pa];simp only [Ak,cr];by_cases b:49<=d.toNat/\d.toNat<=57
    ·rw [ae b,ae b];simp only [];rw [wm n _ 0 1 S (a+1+1) (by omega) (by omega) B,q];have E:=ma (hasB [48,49,50,51,52,53,54,55,56,57]) (1:Int).toNat x;rw [ab (by omega)];rw [kx xf];simp only [];rw [zW d (by omega)];have j:Nat.ble ([d]:aa).length 18=true:=rfl;have o:∀e:UInt8,Nat.ble ([d,e]:aa).length 18=true:=λ_=>rfl;have s:a+1+1=a+2:=rfl;have y:a+2+1=a+3:=rfl;have w:=P5 (show 48<=d.toNat/\d.toNat<=57 by omega);cases x with
     | nil=>
      have hs:bE bg (1:Int).toNat []=0:=rfl;rw [hs,uC];rw [dV (by simp)];simp only [List.take_nil,kC,cH,j,ah,w,opt,s]
     | cons e f=>
      by_cases g:bg e=true
      ·have hs:bE bg (1:Int).toNat (e::f)=1:=by
        show bE bg (0+1) (e::f)=1;simp [bE,g]
       have p:=HD (show 48<=d.toNat/\d.toNat<=57 by omega) ((cb e).1 g);rw [hs,nX,ae g];have m:List.take 1 (e::f)=[e]:=rfl;rw [m,dV (by simp)];simp only [eK,dW,o,ah,p,opt,s,y]
      ·have hs:bE bg (1:Int).toNat (e::f)=0:=by
        show bE bg (0+1) (e::f)=0;simp [bE,g]
       rw [hs,nX,ab g];have m:List.take 0 (e::f)=[]:=rfl;rw [m,dV (by simp)];simp only [kC,j,ah,w,opt,cH,s]
    ·rw [ab b,ab b]
  ·have e:¬List.take [letter].length (c::r)=[letter]:=by simp [hc]
   rw [ab e,ab hc];simp
theorem KG (n:Nat) (letter:UInt8) (S:aa) (a:Nat) (h:a<=S.length) (I:S.length<100000):
  ak n S (a:Int) ((letter.toNat:Nat):Int)=some (match numS letter (S.drop a) with | .inl k=>(-1,((a+k:Nat):Int)) | .inr (v,k)=>((v:Int),((a+k:Nat):Int))):=by
 unfold ak;rw [lP];cases i:S.drop a with
 | nil=>
  have:S.length<=a:=by
   rcases aI a S.length with q | q
   ·rw [ct (aW q)] at i;cases i
   ·exact q
  rw [aq this];simp [wE]
 | cons c r=>
  obtain ⟨C,E,m⟩:=nP i;have y:IntKind.wrap .i64 ((a:Int)+1)=((a+1:Nat):Int):=by rw [wrap_i64 _ (by omega) (by omega)];omega
  have F:IntKind.wrap .i64 (((a+1:Nat):Int)+1)=((a+2:Nat):Int):=by rw [wrap_i64 _ (by omega) (by omega)];omega
  have A:IntKind.wrap .i64 (((a+2:Nat):Int)+1)=((a+3:Nat):Int):=by rw [wrap_i64 _ (by omega) (by omega)];omega
  rw [ar (show ¬S.length<=a by omega),af,eF E];simp only [ob,y,F,A,lP,gY];have s:(((c.toNat:Nat):Int) != ((letter.toNat:Nat):Int))=!(c==letter):=by rw [bne,nQ]
  rw [s,nL];by_cases hc:c=letter
  ·have e:(!(c==letter))=false:=by rw [hc];simp
   rw [e,af,ae hc];cases r with
   | nil=>
    have:S.length<=a+1:=by
     rcases aI (a+1) S.length with q | q
     ·rw [ct (aW q)] at m;cases m
     ·exact q
    rw [aq this];rfl
   | cons d G=>
    obtain ⟨u,g,b⟩:=nP m;rw [pa];rw [ar (show ¬S.length<=a+1 by omega),af,eF g];simp only [];by_cases H:d.toNat<49
    ·have j:decide (((d.toNat:Nat):Int)<49)=true:=aq (by omega);rw [j,ah,ab (by omega)]
    ·have j:decide (((d.toNat:Nat):Int)<49)=false:=ar (by omega);rw [j,af];by_cases K:d.toNat>57
     ·have o:decide (((d.toNat:Nat):Int)>57)=true:=aq (by omega);rw [o,ah,ab (by omega)]
     ·have o:decide (((d.toNat:Nat):Int)>57)=false:=ar (by omega);rw [o,af,ae (by omega)];have B:IntKind.wrap .i64 (IntKind.wrap .u8 (((d.toNat:Nat):Int) - 48))=((d.toNat - 48:Nat):Int):=by
       rw [fL _ (by omega) (by omega),wrap_i64 _ (by omega) (by omega)];omega
      rw [B];cases G with
      | nil=>
       have:¬a+2<S.length:=by
        intro q;rw [ct (aW (show a+1+1<S.length from q))] at b;cases b
       rw [ar this,uC];rfl
      | cons e J=>
       obtain ⟨f,l,_⟩:=nP b;rw [nX];rw [aq (show a+2<S.length from f),ah,eF l];simp only [];by_cases x:e.toNat>=48
       ·have p:decide (((e.toNat:Nat):Int)>=48)=true:=aq (by omega);rw [p,ah];by_cases w:e.toNat<=57
        ·have t:decide (((e.toNat:Nat):Int)<=57)=true:=aq (by omega);have D:IntKind.wrap .i64 (IntKind.wrap .u8 (((e.toNat:Nat):Int) - 48))=((e.toNat - 48:Nat):Int):=by
          rw [fL _ (by omega) (by omega),wrap_i64 _ (by omega) (by omega)];omega
         have z:IntKind.wrap .i64 (10*((d.toNat - 48:Nat):Int))=((10*(d.toNat - 48):Nat):Int):=by rw [wrap_i64 _ (by omega) (by omega)];omega
         have ws:IntKind.wrap .i64 (((10*(d.toNat - 48):Nat):Int)+((e.toNat - 48:Nat):Int))=((10*(d.toNat - 48)+(e.toNat - 48):Nat):Int):=by rw [wrap_i64 _ (by omega) (by omega)];omega
         rw [t,ah,ae ((cb e).2 ⟨x,w⟩),D,z,ws]
        ·have t:decide (((e.toNat:Nat):Int)<=57)=false:=ar (by omega);rw [t,af,ab (λq=>w ((cb e).1 q).2)]
       ·have p:decide (((e.toNat:Nat):Int)>=48)=false:=ar (by omega);rw [p,af,ab (λq=>x ((cb e).1 q).1)]
  ·have e:(!(c==letter))=true:=by rw [aJ.2 hc];rfl
   rw [e,ah,ab hc];rfl
def isDX (c:UInt8):Bool:=bg c||c==88
abbrev YR:=Bool×Bool×aa×Nat×Nat×Nat
def uj (g:Bool) (o:Nat):aa->Nat⊕YR
 | []=>.inl o
 | c::r=>if 49<=c.toNat/\c.toNat<=57 then
   (match numS 69 ((c::r).drop (1+bE bg 16 r)) with
   | .inl j=>.inl (o+(1+bE bg 16 r)+j)
   | .inr (x,j)=>(match numS 83 ((c::r).drop (1+bE bg 16 r+j)) with
    | .inl i=>.inl (o+(1+bE bg 16 r)+j+i)
    | .inr (s,i)=>.inr (g,true,(c::r).take (1+bE bg 16 r),x,s,o+(1+bE bg 16 r)+j+i)))
  else .inl o
def vN (g:Bool) (o:Nat) (l:aa):Nat⊕YR:=
 if bE isDX 4 l<4 then .inl (o+bE isDX 4 l) else
  (match numS 83 (l.drop 4) with
  | .inl i=>.inl (o+4+i)
  | .inr (s,i)=>.inr (g,false,l.take 4,0,s,o+4+i))
def fA (c:UInt8) (l:aa):Nat:=if l.take 1=[c] then 1 else 0
def pR (l:aa):Nat⊕YR:=
 if fA 89 l=1 then uj (fA 45 (l.drop 1)==1) (1+fA 45 (l.drop 1)) (l.drop (1+fA 45 (l.drop 1)))
 else vN (fA 45 l==1) (fA 45 l) (l.drop (fA 45 l))
theorem lE (c:UInt8) (l:aa):fA c l=0\/fA c l=1:=by
 unfold fA;split
 ·exact .inr rfl
 ·exact .inl rfl
theorem Cj (c:UInt8) (l:aa):fA c l<=l.length:=by
 unfold fA;split
 ·rename_i h;cases l with
  | nil=>simp at h
  | cons a l=>simp
 ·omega
theorem uL (n:Nat) (c:UInt8) (S:aa) (a:Nat) (h:a<=S.length) (b:S.length<100000):
  aE n [c] S (a:Int)=some (fA c (S.drop a)==1,S,((a+fA c (S.drop a):Nat):Int)):=by
 rw [m9 n [c] S a h (by omega)];unfold fA;have e:[c].length=1:=rfl;rw [e];split<;>rfl
def yY (S:aa) (a:Nat):Nat⊕YR->(Int×Int×aa×Int)⊕(Bool×Bool×aa×Int×Int×aa×Int)
 | .inl k=>.inl (((a+k:Nat):Int),5,S,((a+k:Nat):Int))
 | .inr (g,l,d,x,s,k)=>.inr (g,l,d,(x:Int),(s:Int),S,((a+k:Nat):Int))
def pw (a:Nat):Nat⊕YR->Bool×Bool×aa×Int×Int×Int×Int
 | .inl k=>(false,false,[],0,0,((a+k:Nat):Int),5)
 | .inr (g,l,d,x,s,k)=>(g,l,d,(x:Int),(s:Int),((a+k:Nat):Int),0)
theorem Tj (letter:UInt8) (l:aa):(match numS letter l with | .inl k=>k<=l.length | .inr (_,k)=>k<=l.length):=by
 cases l with
 | nil=>simp [wE]
 | cons c r=>
  rw [nL];by_cases hc:c=letter
  ·rw [ae hc];cases r with
   | nil=>simp [B6]
   | cons d f=>
    rw [pa];by_cases b:49<=d.toNat/\d.toNat<=57
    ·rw [ae b];cases f with
     | nil=>simp [uC]
     | cons e g=>
      rw [nX];by_cases a:bg e=true
      ·rw [ae a];simp
      ·rw [ab a];simp
    ·rw [ab b];simp
  ·rw [ab hc];simp
theorem zw {letter:UInt8} {S:aa} {a:Nat} (h:a<=S.length) {v k:Nat} (b:numS letter (S.drop a)=.inr (v,k)):a+k<=S.length:=by
 have:=Tj letter (S.drop a);rw [b,bN] at this;simp only at this;omega
theorem UE (n:Nat) (S:aa) (a o:Nat) (g:Bool) (h:a+o<=S.length) (H:S.length<100000) (E:S.length<n):
  (ob (cw n [49,50,51,52,53,54,55,56,57] S ((a+o:Nat):Int)) λv=>(Sum.casesOn (motive:=λ_=>Option ((Int×Int×aa×Int)⊕(Bool×Bool×aa×Int×Int×aa×Int))) v (λd=>(some (.inl (d.1,d.2.1,d.2.2.1,d.2.2.2)))) (λm=>(ob (cg n [48,49,50,51,52,53,54,55,56,57] 0 16 m.2.1 m.2.2) λu=>(Sum.casesOn (motive:=λ_=>Option _) u (λe=>(some (.inl (e.1,e.2.1,e.2.2.1,e.2.2.2)))) (λq=>(ob (cat (Utf8.encode m.1).data.toList q.1) λC=>(ob (dp n [69] q.2.1 q.2.2) λA=>(Sum.casesOn (motive:=λ_=>Option _) A (λl=>(ob (dp n [83] l.2.1 l.2.2) λw=>(Sum.casesOn (motive:=λ_=>Option _) w (λt=>(some (.inr (g,true,C,l.1,t.1,t.2.1,t.2.2)))) (λf=>(some (.inl (f.1,f.2.1,f.2.2.1,f.2.2.2))))))) (λb=>(some (.inl (b.1,b.2.1,b.2.2.1,b.2.2.2)))))))))))))=some (yY S a (uj g o (S.drop (a+o)))):=by
 rw [BF n _ S (a+o) h (by omega)];cases D:S.drop (a+o) with
 | nil=>simp [uj,yY,ob]
 | cons c r=>
  obtain ⟨N,T,J⟩:=nP D;simp only [Ak,cr];by_cases hc:49<=c.toNat/\c.toNat<=57
  ·rw [ae hc];simp only [ob];rw [wm n _ 0 16 S (a+o+1) (by omega) (by omega) E,J];rw [ab (by omega),kx xf];simp only [];rw [zW c (by omega)];have G:(16:Int).toNat=16:=rfl;rw [G];have P:=ma bg 16 r;have L:r.length+(a+o+1)=S.length:=by
    have:=cD List.length J;rw [bN] at this;omega
   rw [dV (by simp only [aV,cG,cP];omega)];simp only [uj];rw [ae hc];generalize R:bE bg 16 r=k at P ⊢;have M:[c]++List.take k r=List.take (1+k) (c::r):=by rw [oG];rfl
   rw [M];have z:a+o+1+k<=S.length:=by omega
   have B:List.drop (1+k) (c::r)=S.drop (a+o+1+k):=by
    rw [<-D,jm];congr 1;omega
   rw [Lt n 69 S (a+o+1+k) z H E,<-B];cases K:numS 69 (List.drop (1+k) (c::r)) with
   | inl j=>
    simp only [yY];have:a+o+1+k+j=a+(o+(1+k)+j):=by omega
    rw [this]
   | inr p=>
    obtain ⟨x,j⟩:=p;have I:=K;rw [B] at I;have F:=zw z I;have y:List.drop (1+k+j) (c::r)=S.drop (a+o+1+k+j):=by
     rw [<-D,jm];congr 1;omega
    simp only [];rw [Lt n 83 S (a+o+1+k+j) F H E,<-y];cases O:numS 83 (List.drop (1+k+j) (c::r)) with
    | inl i=>
     simp only [yY];have:a+o+1+k+j+i=a+(o+(1+k)+j+i):=by omega
     rw [this]
    | inr Q=>
     obtain ⟨s,i⟩:=Q;simp only [yY];have:a+o+1+k+j+i=a+(o+(1+k)+j+i):=by omega
     rw [this]
  ·rw [ab hc];simp only [ob,uj];rw [ab hc];rfl
theorem QY (n:Nat) (S:aa) (a o:Nat) (g:Bool) (h:a+o<=S.length) (y:S.length<100000) (u:S.length<n):
  (ob (cg n [88,48,49,50,51,52,53,54,55,56,57] 4 4 S ((a+o:Nat):Int)) λm=>(Sum.casesOn (motive:=λ_=>Option ((Int×Int×aa×Int)⊕(Bool×Bool×aa×Int×Int×aa×Int))) m (λd=>(some (.inl (d.1,d.2.1,d.2.2.1,d.2.2.2)))) (λe=>(ob (dp n [83] e.2.1 e.2.2) λq=>(Sum.casesOn (motive:=λ_=>Option _) q (λf=>(some (.inr (g,false,e.1,0,f.1,f.2.1,f.2.2)))) (λb=>(some (.inl (b.1,b.2.1,b.2.2.1,b.2.2.2)))))))))=some (yY S a (vN g o (S.drop (a+o)))):=by
 rw [wm n _ 4 4 S (a+o) h (by omega) u];have r:∀c,hasB [88,48,49,50,51,52,53,54,55,56,57] c=isDX c:=uX;have x:(4:Int).toNat=4:=rfl;rw [kx r,x];unfold vN;have v:=ma isDX 4 (S.drop (a+o));rw [bN] at v;by_cases j:bE isDX 4 (S.drop (a+o))<4
 ·rw [ae (by omega),ae j];simp only [ob,yY];rw [gq]
 ·rw [ab (by omega),ab j];have t:∀(k:Nat) (l:aa),bE isDX k l<=k:=by
   intro k
   induction k with
   | zero=>intro l;simp [bE]
   | succ k ih=>
    intro l;cases l with
    | nil=>simp [bE]
    | cons c l=>
     have:=ih l;simp only [bE];split<;>omega
  have w:bE isDX 4 (S.drop (a+o))=4:=by have:=t 4 (S.drop (a+o));omega
  rw [w] at v ⊢;simp only [ob];have hp:a+o+4<=S.length:=by omega
  rw [Lt n 83 S (a+o+4) hp y u,jm];cases z:numS 83 (S.drop (a+o+4)) with
  | inl i=>
   simp only [yY];have:a+o+4+i=a+(o+4+i):=by omega
   rw [this]
  | inr p=>
   obtain ⟨s,i⟩:=p;simp only [yY];have:a+o+4+i=a+(o+4+i):=by omega
   rw [this];rfl
theorem Vh (n:Nat) (S:aa) (a:Nat) (h:a<=S.length) (d:S.length<100000) (f:S.length<n):
  lY n S (a:Int)=some (yY S a (pR (S.drop a))):=by
 unfold lY;rw [uL n 89 S a h d];have c:=Cj 89 (S.drop a);rw [bN] at c;simp only [ob];rw [uL n 45 S (a+fA 89 (S.drop a)) (by omega) d];have b:=Cj 45 (S.drop (a+fA 89 (S.drop a)));rw [bN] at b;simp only [];unfold pR;rcases lE 89 (S.drop a) with e | e
 ·rw [e] at b ⊢;simp only [cH,show ((0:Nat)==1)=false from rfl,af,show ¬((0:Nat)=1) from by decide,aG,jm] at b ⊢;have:=QY n S a (fA 45 (S.drop a)) (fA 45 (S.drop a)==1) (by omega) d f;exact this
 ·rw [e] at b ⊢;simp only [show ((1:Nat)==1)=true from rfl,ah,aM,jm] at b ⊢;have:=UE n S a (1+fA 45 (S.drop (a+1))) (fA 45 (S.drop (a+1))==1) (by omega) d f;rw [<-gq] at this;rw [<-gq];exact this
abbrev stR (S:aa) (a b M:Int) (g L:Bool):aa×Int×Int×Int×Bool×Bool×aa×Int×Int×Bool×Bool×aa×Int×Int:=(S,a,b,M,false,false,[],0,0,g,L,[],0,0)
def isYB (L:Bool) (c:UInt8):Bool:=bg c||(c==88&&!L)
theorem LX (n:Nat) (S:aa) (b M:Nat) (g:Bool) (j:0<M) (k:S.length<100000) (a:S[b]?=some 48):av (aC (n+1)) (n+1) (stR S (b:Int) (b:Int) (M:Int) g true)=some (.inl ((b:Int),5,false,false,[],0,0)):=by
 have e:=uw a;have d:decide ((b:Int)<((S.length:Nat):Int))=true:=aq (by omega);have c:IntKind.wrap .i64 ((b:Int) - (b:Int))=0:=by rw [Int.sub_self];rfl
 have d2:decide ((0:Int)<(M:Int))=true:=aq (by omega);have i:decide ((((48:UInt8).toNat:Nat):Int)>=48)=true:=rfl;have f:decide ((((48:UInt8).toNat:Nat):Int)<=57)=true:=rfl;have h:((((48:UInt8).toNat:Nat):Int)==48)=true:=rfl;simp only [av,aC,d,ah,c,d2,eF a,ob,i,f,h,vK]
theorem BA (n:Nat) (S:aa) (b M:Nat) (g L:Bool) (K:b<=S.length) (N:S.length<100000) (O:S.length<n) (v:¬(L=true/\S[b]?=some 48)):
  av (aC n) n (stR S (b:Int) (b:Int) (M:Int) g L)=some (.inr (S,((b+bE (isYB L) M (S.drop b):Nat):Int),(b:Int),false,false,[],0,0,g,L,[],0,0)):=by
 have:=fQ (step:=aC n) (λx=>∃j:Nat,b+j<=S.length/\x=stR S ((b+j:Nat):Int) (b:Int) (M:Int) g L) (λx=>S.length - x.2.1.toNat)
  (λx=>.inr (S,((x.2.1.toNat+bE (isYB L) (M - (x.2.1.toNat - b)) (S.drop x.2.1.toNat):Nat):Int),(b:Int),false,false,[],0,0,g,L,[],0,0)) ?_ n (stR S (b:Int) (b:Int) (M:Int) g L) ⟨0,by omega,rfl⟩ (by simp;omega)
 ·rw [this];simp
 rintro x ⟨j,P,rfl⟩;simp only [bY];rcases aI (b+j) S.length with u | w
 ·obtain ⟨c,hc⟩:∃c,S[b+j]?=some c:=⟨S[b+j],aW u⟩;have d:decide (((b+j:Nat):Int)<((S.length:Nat):Int))=true:=aq (by omega);have m:IntKind.wrap .i64 (((b+j:Nat):Int) - (b:Int))=(j:Int):=by rw [wrap_i64 _ (by omega) (by omega)];omega
  have B:IntKind.wrap .i64 (((b+j:Nat):Int)+1)=((b+(j+1):Nat):Int):=by rw [wrap_i64 _ (by omega) (by omega)];omega
  have l:b+j - b=j:=by omega
  rw [ct hc,l];by_cases Q:j<M
  ·have d2:decide ((j:Int)<(M:Int))=true:=aq (by omega);obtain ⟨q,C⟩:∃q,M - j=q+1:=⟨M - j - 1,by omega⟩;have z:M - (j+1)=q:=by omega
   rw [C];simp only [bE];have F:isYB L c=true->aC n (stR S ((b+j:Nat):Int) (b:Int) (M:Int) g L)=some (.inl (stR S ((b+(j+1):Nat):Int) (b:Int) (M:Int) g L)):=by
    intro hy;by_cases r:bg c=true
    ·have D:=(cb c).1 r;have f:decide (((c.toNat:Nat):Int)>=48)=true:=aq (by omega);have o:decide (((c.toNat:Nat):Int)<=57)=true:=aq (by omega);simp only [aC,d,ah,m,d2,eF hc,ob,f,o,B];cases L with
     | false=>rfl
     | true=>
      by_cases y:j=0
      ·subst y;have p:c≠48:=by
        intro e;exact v ⟨rfl,by rw [<-e];exact hc⟩
       have A:(((c.toNat:Nat):Int)==48)=false:=by rw [Ux];exact aJ.2 p
       simp only [cH,vK,ah,A,af]
      ·have G:(((b+j:Nat):Int)==(b:Int))=false:=aJ.2 (by omega);simp only [G,af,ah]
    ·have a:bg c=false:=by cases h:bg c with | false=>rfl | true=>exact absurd h r
     unfold isYB at hy;rw [a] at hy;simp only [oh,aD,bp,jP] at hy;obtain ⟨rfl,rfl⟩:=hy;have f:decide ((((88:UInt8).toNat:Nat):Int)>=48)=true:=rfl;have o:decide ((((88:UInt8).toNat:Nat):Int)<=57)=false:=rfl;have A:((((88:UInt8).toNat:Nat):Int)==88)=true:=rfl;simp only [aC,d,ah,m,d2,eF hc,ob,f,o,A,B,af,jA]
   have k:isYB L c=false->aC n (stR S ((b+j:Nat):Int) (b:Int) (M:Int) g L)=some (.inr (.inr (S,((b+j:Nat):Int),(b:Int),false,false,[],0,0,g,L,[],0,0))):=by
    intro hy;unfold isYB at hy;simp only [ox,Da] at hy;obtain ⟨a,t⟩:=hy;have I:¬(48<=c.toNat/\c.toNat<=57):=λq=>by rw [(cb c).2 q] at a;cases a
    have i:(((c.toNat:Nat):Int)==88)=(c==88):=nQ c 88;have fin:(cond (c==88) (cond (!L) (0:Nat) 1) 1)=1:=by
     rcases t with h | h
     ·rw [h];rfl
     ·have:L=true:=by simpa using h
      rw [this];cases c==88<;>rfl
    by_cases J:c.toNat>=48
    ·have f:decide (((c.toNat:Nat):Int)>=48)=true:=aq (by omega);have o:decide (((c.toNat:Nat):Int)<=57)=false:=ar (by omega);simp only [aC,d,ah,m,d2,eF hc,ob,f,o,af,i];rcases t with h | h
     ·rw [h];rfl
     ·have:L=true:=by simpa using h
      rw [this];cases c==88<;>rfl
    ·have f:decide (((c.toNat:Nat):Int)>=48)=false:=ar (by omega);simp only [aC,d,ah,m,d2,eF hc,ob,f,af,i];rcases t with h | h
     ·rw [h];rfl
     ·have:L=true:=by simpa using h
      rw [this];cases c==88<;>rfl
   cases hy:isYB L c with
   | true=>
    refine .inl ⟨_,F hy,⟨j+1,by omega,rfl⟩,by simp only [bY];omega,?_⟩;simp only [bY,aM];have E:b+(j+1) - b=j+1:=by omega
    rw [E,z,show b+(j+1)=b+j+1 by omega];have H:b+j+1+bE (isYB L) q (S.drop (b+j+1))=b+j+(bE (isYB L) q (S.drop (b+j+1))+1):=by omega
    rw [H]
   | false=>
    refine .inr ?_;rw [k hy];simp
  ·have d2:decide ((j:Int)<(M:Int))=false:=ar (by omega);have s:M - j=0:=by omega
   refine .inr ?_;rw [s];simp only [aC,d,ah,m,d2,af,bE,cH]
 ·have d:decide (((b+j:Nat):Int)<((S.length:Nat):Int))=false:=ar (by omega);refine .inr ?_;rw [jk w];have s:∀q,bE (isYB L) q []=0:=λq=>by cases q<;>rfl
  simp only [aC,d,af,s,cH]
theorem OI (n:Nat) (S:aa) (a:Nat) (h:a<=S.length) (b:S.length<100000):
  ak n S (a:Int) 69=some (match numS 69 (S.drop a) with | .inl k=>(-1,((a+k:Nat):Int)) | .inr (v,k)=>((v:Int),((a+k:Nat):Int))):=KG n 69 S a h b
theorem EM (n:Nat) (S:aa) (a:Nat) (h:a<=S.length) (b:S.length<100000):
  ak n S (a:Int) 83=some (match numS 83 (S.drop a) with | .inl k=>(-1,((a+k:Nat):Int)) | .inr (v,k)=>((v:Int),((a+k:Nat):Int))):=KG n 83 S a h b
noncomputable def KX (n:Nat) (a0:aa) (B M:Int) (g L:Bool):Option (Bool×Bool×aa×Int×Int×Int×Int):=
 (ob (av (aC n) n (a0,B,B,M,false,false,[],0,0,g,L,[],0,0)) λo=>(Sum.casesOn (motive:=λ_=>Option (Bool×Bool×aa×Int×Int×Int×Int)) o (λb=>(some (b.2.2.1,b.2.2.2.1,b.2.2.2.2.1,b.2.2.2.2.2.1,b.2.2.2.2.2.2,b.1,b.2.1))) (λa=>(cond (decide ((IntKind.wrap .i64 (a.2.1 - a.2.2.1))<1)) (some (false,false,[],0,0,a.2.1,5)) (cond (!a.2.2.2.2.2.2.2.2.2.1) (cond (decide ((IntKind.wrap .i64 (a.2.1 - a.2.2.1))<4)) (some (false,false,[],0,0,a.2.1,5)) (ob (bx (List.length a.1) a.2.1) λk=>(ob (bx k a.2.2.1) λm=>(cond a.2.2.2.2.2.2.2.2.2.1 (ob (ak n a.1 a.2.1 69) λi=>(cond (decide (i.1<0)) (some (false,false,[],0,0,i.2,5)) (ob (ak n a.1 i.2 83) λf=>(cond (decide (f.1<0)) (some (false,false,[],0,0,f.2,5)) (some (a.2.2.2.2.2.2.2.2.1,a.2.2.2.2.2.2.2.2.2.1,(List.drop m (List.take k a.1)),i.1,f.1,f.2,0)))))) (ob (ak n a.1 a.2.1 83) λd=>(cond (decide (d.1<0)) (some (false,false,[],0,0,d.2,5)) (some (a.2.2.2.2.2.2.2.2.1,a.2.2.2.2.2.2.2.2.2.1,(List.drop m (List.take k a.1)),a.2.2.2.2.2.2.2.2.2.2.2.1,d.1,d.2,0)))))))) (ob (bx (List.length a.1) a.2.1) λj=>(ob (bx j a.2.2.1) λl=>(cond a.2.2.2.2.2.2.2.2.2.1 (ob (ak n a.1 a.2.1 69) λh=>(cond (decide (h.1<0)) (some (false,false,[],0,0,h.2,5)) (ob (ak n a.1 h.2 83) λe=>(cond (decide (e.1<0)) (some (false,false,[],0,0,e.2,5)) (some (a.2.2.2.2.2.2.2.2.1,a.2.2.2.2.2.2.2.2.2.1,(List.drop l (List.take j a.1)),h.1,e.1,e.2,0)))))) (ob (ak n a.1 a.2.1 83) λc=>(cond (decide (c.1<0)) (some (false,false,[],0,0,c.2,5)) (some (a.2.2.2.2.2.2.2.2.1,a.2.2.2.2.2.2.2.2.2.1,(List.drop l (List.take j a.1)),a.2.2.2.2.2.2.2.2.2.2.2.1,c.1,c.2,0))))))))))))
theorem Kq (c:UInt8):isYB true c=bg c:=by unfold isYB;cases bg c<;>simp
theorem Ju (c:UInt8):isYB false c=isDX c:=by unfold isYB isDX;simp
theorem qW (p:UInt8->Bool):∀(k:Nat) (l:aa),bE p k l<=k
 | 0,l=>by simp [bE]
 | k+1,[]=>by simp [bE]
 | k+1,c::l=>by
  have:=qW p k l;simp only [bE];split<;>omega
theorem GN:decide ((-1:Int)<0)=true:=rfl
theorem GM (x:Nat):decide (((x:Nat):Int)<0)=false:=ar (by omega)
theorem ML (n:Nat) (S:aa) (a o:Nat) (g:Bool) (h:a+o<=S.length) (A:S.length<100000) (E:S.length<n):
  KX n S ((a+o:Nat):Int) 17 g true=some (pw a (uj g o (S.drop (a+o)))):=by
 unfold KX;cases d:S.drop (a+o) with
 | nil=>
  have t:¬(true=true/\S[a+o]?=some 48):=by
   rintro ⟨_,q⟩;rw [ct q] at d;cases d
  have l:=BA n S (a+o) 17 g true h A E t;rw [d] at l;have K:bE (isYB true) 17 []=0:=rfl;rw [K,cH] at l;have hl':av (aC n) n (S,((a+o:Nat):Int),((a+o:Nat):Int),(17:Int),false,false,[],0,0,g,true,[],0,0)=_:=l;rw [hl'];have w:IntKind.wrap .i64 (((a+o:Nat):Int) - ((a+o:Nat):Int))=0:=by rw [Int.sub_self];rfl
  simp only [ob,w,uj,pw];rfl
 | cons c r=>
  obtain ⟨O,I,R⟩:=nP d;by_cases hc:c=48
  ·subst hc;obtain ⟨C,rfl⟩:∃q,n=q+1:=⟨n - 1,by omega⟩;have l:=LX C S (a+o) 17 g (by omega) A I;have hl':av (aC (C+1)) (C+1) (S,((a+o:Nat):Int),((a+o:Nat):Int),(17:Int),false,false,[],0,0,g,true,[],0,0)=_:=l;rw [hl'];have u:¬(49<=(48:UInt8).toNat/\(48:UInt8).toNat<=57):=by decide
   simp only [ob,uj,pw];rw [ab u]
  ·have u:¬(true=true/\S[a+o]?=some 48):=by
    rintro ⟨_,q⟩;rw [I] at q;exact hc (by simpa using q)
   have l:=BA n S (a+o) 17 g true h A E u;rw [d,kx Kq] at l;have G:=ma bg 17 (c::r);have M:(c::r).length+(a+o)=S.length:=by
    have:=cD List.length d;rw [bN] at this;omega
   have hl':av (aC n) n (S,((a+o:Nat):Int),((a+o:Nat):Int),(17:Int),false,false,[],0,0,g,true,[],0,0)=_:=l;rw [hl'];have w:∀k:Nat,k<=17->IntKind.wrap .i64 (((a+o+k:Nat):Int) - ((a+o:Nat):Int))=(k:Int):=by
    intro k H;rw [wrap_i64 _ (by omega) (by omega)];omega
   by_cases f:bg c=true
   ·have N:=(cb c).1 f;have m:49<=c.toNat/\c.toNat<=57:=by
     have:c.toNat≠48:=λe=>hc (gD.1 e);omega
    have b:bE bg 17 (c::r)=1+bE bg 16 r:=by
     show bE bg (16+1) (c::r)=_;simp only [bE,f,aM];omega
    rw [b] at G ⊢;have v:=qW bg 16 r;simp only [uj];rw [ae m];generalize bE bg 16 r=k at G v ⊢;have L:decide (((1+k:Nat):Int)<1)=false:=ar (by omega);simp only [ob,w (1+k) (by omega),L,af,dn,ah,cQ (show a+o+(1+k)<=S.length by omega),cQ (show a+o<=a+o+(1+k) by omega)];have z:a+o+(1+k)<=S.length:=by omega
    have B:S.drop (a+o+(1+k))=List.drop (1+k) (c::r):=by rw [<-d,jm]
    rw [OI n S (a+o+(1+k)) z A,B,pX,d];cases J:numS 69 (List.drop (1+k) (c::r)) with
    | inl j=>
     simp only [GN,ah,pw];have:a+o+(1+k)+j=a+(o+(1+k)+j):=by omega
     rw [this]
    | inr p=>
     obtain ⟨x,j⟩:=p;have F:=J;rw [<-B] at F;have D:=zw z F;have y:S.drop (a+o+(1+k)+j)=List.drop (1+k+j) (c::r):=by rw [<-d,jm];congr 1;omega
     simp only [GM,af];rw [EM n S (a+o+(1+k)+j) D A,y];cases P:numS 83 (List.drop (1+k+j) (c::r)) with
     | inl i=>
      simp only [GN,ah,pw];have:a+o+(1+k)+j+i=a+(o+(1+k)+j+i):=by omega
      rw [this]
     | inr Q=>
      obtain ⟨s,i⟩:=Q;simp only [GM,af,pw];have:a+o+(1+k)+j+i=a+(o+(1+k)+j+i):=by omega
      rw [this]
   ·have b:bE bg 17 (c::r)=0:=by
     show bE bg (16+1) (c::r)=0;simp only [bE];rw [ab f]
    have m:¬(49<=c.toNat/\c.toNat<=57):=λq=>f ((cb c).2 (by omega));rw [b];simp only [uj];rw [ab m];simp only [ob,w 0 (by omega),pw];rfl
theorem Jz (n:Nat) (S:aa) (a o:Nat) (g:Bool) (h:a+o<=S.length) (l:S.length<100000) (r:S.length<n):
  KX n S ((a+o:Nat):Int) 4 g false=some (pw a (vN g o (S.drop (a+o)))):=by
 unfold KX;have m:=BA n S (a+o) 4 g false h l r (by rintro ⟨q,_⟩;cases q);rw [kx Ju] at m;have f:=ma isDX 4 (S.drop (a+o));have b:=qW isDX 4 (S.drop (a+o));rw [bN] at f;have hl':av (aC n) n (S,((a+o:Nat):Int),((a+o:Nat):Int),(4:Int),false,false,[],0,0,g,false,[],0,0)=_:=m;rw [hl'];unfold vN;generalize t:bE isDX 4 (S.drop (a+o))=k at f b ⊢;have w:IntKind.wrap .i64 (((a+o+k:Nat):Int) - ((a+o:Nat):Int))=(k:Int):=by rw [wrap_i64 _ (by omega) (by omega)];omega
 simp only [ob,w,jA,ah,af];by_cases j:k<4
 ·rw [ae j];have e:decide ((k:Int)<4)=true:=aq (by omega);rw [e];have c:a+o+k=a+(o+k):=by omega
  simp only [ah,pw,c];cases decide ((k:Int)<1)<;>rfl
 ·rw [ab j];have d:k=4:=by omega
  subst d;have e:decide (((4:Nat):Int)<4)=false:=rfl;have c:decide (((4:Nat):Int)<1)=false:=rfl;have hp:a+o+4<=S.length:=by omega
  simp only [e,c,af,cQ hp,cQ (show a+o<=a+o+4 by omega)];rw [EM n S (a+o+4) hp l,pX,jm];cases u:numS 83 (S.drop (a+o+4)) with
  | inl i=>
   simp only [GN,ah,pw];have:a+o+4+i=a+(o+4+i):=by omega
   rw [this]
  | inr p=>
   obtain ⟨s,i⟩:=p;simp only [GM,af,pw];have:a+o+4+i=a+(o+4+i):=by omega
   rw [this];rfl
theorem kI (c a:UInt8) (l:aa):fA c (a::l)=if a=c then 1 else 0:=by
 unfold fA;simp
theorem wL (c:UInt8):fA c []=0:=by unfold fA;simp
theorem Pj (n:Nat) (S:aa) (a:Nat) (h:a<=S.length) (E:S.length<100000) (F:S.length<n):
  nY n S (a:Int)=some (pw a (pR (S.drop a))):=by
 have z:=λo g q=>ML n S a o g q E F;have A:=λo g q=>Jz n S a o g q E F;unfold KX at z A;have G:IntKind.wrap .i64 ((a:Int)+1)=((a+1:Nat):Int):=by rw [wrap_i64 _ (by omega) (by omega)];omega
 have I:IntKind.wrap .i64 (((a+1:Nat):Int)+1)=((a+2:Nat):Int):=by rw [wrap_i64 _ (by omega) (by omega)];omega
 unfold nY pR;rw [G,I];have w:=A 0 false (by omega);simp only [cH] at w;cases p:S.drop a with
 | nil=>
  have j:¬a<S.length:=by
   intro q;rw [ct (aW q)] at p;cases p
  rw [gY,ar j,af,af,w,p];rfl
 | cons c r=>
  obtain ⟨C,H,i⟩:=nP p;have t:(((c.toNat:Nat):Int)==89)=(c==89):=nQ c 89;have u:(((c.toNat:Nat):Int)==45)=(c==45):=nQ c 45;rw [gY,aq C,ah,eF H];simp only [ob];rw [t,u,kI];by_cases f:c=89
  ·have e:(c==89)=true:=bp.2 f;rw [e,ah,ae f,ae rfl,gY];have y:List.drop 1 (c::r)=r:=rfl;rw [y];have x:=z 1 false (by omega);cases s:r with
   | nil=>
    rw [s] at i;have j:¬a+1<S.length:=by
     intro q;rw [ct (aW q)] at i;cases i
    simp only [ob] at x;rw [ar j,af,x,i,wL];rfl
   | cons d J=>
    rw [s] at i;obtain ⟨m,B,D⟩:=nP i;have l:(((d.toNat:Nat):Int)==45)=(d==45):=nQ d 45;rw [aq m,ah,eF B];simp only [];rw [l,kI];by_cases b:d=45
    ·have k:(d==45)=true:=bp.2 b;have v:=z 2 true (by omega);simp only [ob] at v;rw [k,ah,ae b,v];rw [show a+2=a+1+1 from rfl,D];rfl
    ·have k:(d==45)=false:=aJ.2 b;simp only [ob] at x;rw [k,af,ab b,x,i];rfl
  ·have e:(c==89)=false:=aJ.2 f;rw [e,af,ab f,ab (by decide),kI];by_cases b:c=45
   ·have k:(c==45)=true:=bp.2 b;have v:=A 1 true (by omega);simp only [ob] at v;rw [k,ae b];simp only [ah];rw [v,i];rfl
   ·have k:(c==45)=false:=aJ.2 b;simp only [ob] at w;rw [k,ab b];simp only [af];rw [w,p];rfl
def wint (c:Int):Bool:=c==24||c==28||c==30
def rP (g:Bool) (d:aa) (x:Int):Bool:=!hasX d&&!g&&decide (val d x.toNat=E16)
def yrB (g:Bool) (d:aa) (x s:Int) (m:aa):Bool:=!(decide (0<s)&&!(m==[]))&&!(wint (sea m)&&rP g d x)
theorem Dt (n:Nat) (p:200<n) (g l:Bool) (dg:aa) (x q:Int) (m d:aa) (k0 k1 k2:Int) (v:m.length<=18) (t:dg.length<=100):
  fO n g l dg x q m d k0 k1 k2=some (if okY g l dg x q then yrB g dg x q m else false):=by
 unfold fO;rw [Iw n g l dg x q p t,qO n g l dg x q m d k0 k1 k2 v,uz,BL n g l dg x q p t];by_cases h:okY g l dg x q
 rotate_left
 ·rw [ab h,ab h];rfl
 rw [ae h,ae h];have body:(ob (some (sea m,decide (0<sea m))) λr=>(cond (!r.2) (some true) (ob (some (hasX dg)) λC=>(cond C (some true) (ob (some (if okY g l dg x q/\hasX dg=false then (if g then -((val dg x.toNat:Nat):Int) else ((val dg x.toNat:Nat):Int),(0:Int)) else (0,6))) λE=>(ob (iL n E.1 r.1) λB=>(some (B.2.2.2.2==0))))))))=some (!(wint (sea m)&&rP g dg x)):=by
  rcases pN m with u | ⟨j,s,rfl⟩
  ·rw [u];rfl
  ·have hs:=kZ s;rw [hs];have hp:decide (0<((21+j:Nat):Int))=true:=by simp;omega
   rw [hp];cases o:hasX dg with
   | true=>
    have:rP g dg x=false:=by unfold rP;rw [o];rfl
    rw [this,zN];rfl
   | false=>
    rw [ae ⟨h,rfl⟩];obtain ⟨k,G,rfl,rfl,F⟩:=sR h o;have w:val dg k<=E16:=F.small;unfold E16 at w;have hc:dZ (if g then -((val dg k:Nat):Int) else ((val dg k:Nat):Int)):=by
     unfold dZ;cases g<;>simp<;>omega
    obtain ⟨a,b,c,e,A⟩:=VI n (by omega) hc s;simp only [ob,dn,af,bY];rw [A];simp only [aw];have y:wint ((21+j:Nat):Int)=decide (j=3\/j=7\/j=9):=by
     unfold wint;rw [sI];simp only [gX,bp,cr];omega
    have D:rP g dg (k:Int)=decide ((if g then -((val dg k:Nat):Int) else ((val dg k:Nat):Int))=10000000000000000):=by
     unfold rP E16;rw [o,bY];cases g
     ·simp only [jA,qB,bs,aG,nV];omega
     ·simp;omega
    rw [y,D];by_cases f:(if g then -((val dg k:Nat):Int) else ((val dg k:Nat):Int))=10000000000000000<;>by_cases i:j=3\/j=7\/j=9
    ·rw [ae ⟨f,i⟩,aq f,aq i];rfl
    ·rw [ab (λz=>i z.2),ar i];rfl
    ·rw [ab (λz=>f z.1),ar f,zN];rfl
    ·rw [ab (λz=>f z.1),ar f,zN];rfl
 show cond (decide (q>0)) (cond (!(m==[])) (some false) _) _=_;unfold yrB;rw [show (decide (q>0))=decide (0<q) from rfl];cases decide (0<q) with
 | false=>exact body
 | true=>
  cases (m==[]) with
  | false=>rfl
  | true=>exact body
theorem Q9 (n:Nat) (f:200<n) (g l:Bool) (dg:aa) (x q:Int) (m d:aa) (k0 k1 k2:Int) (j:dg.length<=100):
  ju n g l dg x q m d k0 k1 k2=some (if okY g l dg x q/\yrB g dg x q m=true then 1 else 0):=by
 unfold ju;rw [ET n g l dg x q f j,lL n (by omega) g l dg x q m d k0 k1 k2,pJ n g l dg x q (by omega) (by omega)];by_cases h:okY g l dg x q
 rotate_left
 ·rw [ab h,ab (show ¬(okY g l dg x q/\yrB g dg x q m=true) from λz=>h z.1)];rfl
 rw [ae h];have T:(ob (some (if hasX dg then (1:Int) else 0)) λr=>(cond (r==1) (some (1:Int)) (ob (am n dg x) λv=>(cond (v.1==10000000000000000) (cond (!g) (some 0) (some 1)) (some 1)))))=some (if rP g dg x then 0 else 1):=by
  cases a:hasX dg with
  | true=>
   have:rP g dg x=false:=by unfold rP;rw [a];rfl
   rw [this];rfl
  | false=>
   obtain ⟨k,o,rfl,rfl,b⟩:=sR h a;have i:=b.small;have p:=b.wide;have c:=jD n dg k b.dig (by omega) (by omega) (by omega);rw [ae i] at c;show ob (am n dg (k:Int)) _=_;rw [c];show cond (((dval 0 dg*10 ^ k:Nat):Int)==10000000000000000) _ _=_;unfold rP val;rw [a,bY];have e:(((dval 0 dg*10 ^ k:Nat):Int)==10000000000000000)=decide (dval 0 dg*10 ^ k=E16):=by
    generalize dval 0 dg*10 ^ k=v;unfold E16;rw [sI];simp only [bp,cr];omega
   rw [e];cases decide (dval 0 dg*10 ^ k=E16)<;>cases g<;>rfl
 have body:(ob (some (sea m)) λr=>(cond (r != 24) (cond (r != 28) (cond (r != 30) (some (1:Int)) (ob (some (if hasX dg then (1:Int) else 0)) λr=>(cond (r==1) (some (1:Int)) (ob (am n dg x) λv=>(cond (v.1==10000000000000000) (cond (!g) (some 0) (some 1)) (some 1)))))) (ob (some (if hasX dg then (1:Int) else 0)) λr=>(cond (r==1) (some (1:Int)) (ob (am n dg x) λv=>(cond (v.1==10000000000000000) (cond (!g) (some 0) (some 1)) (some 1)))))) (ob (some (if hasX dg then (1:Int) else 0)) λr=>(cond (r==1) (some (1:Int)) (ob (am n dg x) λv=>(cond (v.1==10000000000000000) (cond (!g) (some 0) (some 1)) (some 1)))))))=some (if (!(wint (sea m)&&rP g dg x))=true then 1 else 0):=by
  rw [T];show cond (sea m != 24) _ _=_;unfold wint;simp only [bne];cases (sea m==24)<;>cases (sea m==28)<;>cases (sea m==30)<;>cases rP g dg x<;>rfl
 unfold yrB;show cond (decide (q>0)) (cond (!(m==[])) (some 0) _) _=_;rw [show (decide (q>0))=decide (0<q) from rfl];simp only [h,ku];cases decide (0<q) with
 | false=>exact body
 | true=>
  cases (m==[]) with
  | false=>rfl
  | true=>exact body
def bD (m d:aa):Nat:=1+(if m==[] then 0 else 1)+(if d==[] then 0 else 1)
theorem AE (n:Nat) (e:100<n) (g l:Bool) (dg:aa) (x q:Int) (m d:aa) (k0 k1 k2:Int):bQ n g l dg x q m d k0 k1 k2=some ((bD m d:Nat):Int):=by
 obtain ⟨n,rfl⟩:∃j,n=j+3:=⟨n - 3,by omega⟩;unfold bQ bD;have s0:∀a:Int,ch (n+3) (a,m,d,0)=some (.inl (if m==[] then a else IntKind.wrap .i64 (a+1),m,d,1)):=λa=>by
  unfold ch;show cond (!(m==[])) _ _=_;cases (m==[])<;>rfl
 have c:∀a:Int,ch (n+3) (a,m,d,1)=some (.inl (if d==[] then a else IntKind.wrap .i64 (a+1),m,d,2)):=λa=>by
  unfold ch;show cond (!(d==[])) _ _=_;cases (d==[])<;>rfl
 have b:∀a:Int,ch (n+3) (a,m,d,2)=some (.inr a):=λa=>rfl;rw [av,s0];show ob (av _ (n+2) _) _=_;rw [av,c];show ob (av _ (n+1) _) _=_;rw [av,b];cases (m==[])<;>cases (d==[])<;>rfl
theorem dj (n:Nat) (g l:Bool) (dg:aa) (x q:Int) (m d:aa) (k0 k1 k2:Int):au n g l dg x q m d k0 k1 k2=some ((bD m d:Nat):Int):=by
 unfold au bD;cases (m==[])<;>cases (d==[])<;>rfl
def allM (a b c:Int) (k:Nat):Int:=if 3<a\/3<b\/3<c\/(k<2/\b≠0)\/(k<3/\c≠0) then 9 else 0
theorem H3 (n:Nat) (t:3<n) (a b c:Int) (k:Nat) (w:1<=k/\k<=3) (u:0<=a) (v:0<=b) (hc:0<=c):
  dL n [a,b,c] (k:Int)=some (allM a b c k)/\bX n [a,b,c] (k:Int)=some (allM a b c k):=by
 obtain ⟨j,rfl⟩:∃j,n=j+4:=⟨n - 4,by omega⟩;have e:IntKind.wrap .i64 1=1:=rfl;have m:IntKind.wrap .i64 2=2:=rfl;have l:IntKind.wrap .i64 3=3:=rfl;have f:ix 3 0=some 0:=rfl;have i:ix 3 1=some 1:=rfl;have g:ix 3 2=some 2:=rfl;have hk':k=1\/k=2\/k=3:=by omega
 unfold allM;by_cases h:a>3
 ·rcases hk' with rfl | rfl | rfl<;>constructor<;>simp [bX,dL,av,dI,il,iy,ob,e,m,l,f,i,g,h]
 by_cases o:b>3
 ·rcases hk' with rfl | rfl | rfl<;>constructor<;>simp [bX,dL,av,dI,il,iy,ob,e,m,l,f,i,g,h,o]
 by_cases d:k=1/\b≠0
 ·obtain ⟨rfl,d⟩:=d;have q:b>0:=by omega
  have r:(b != 0)=true:=by simp [d]
  constructor<;>simp [bX,dL,av,dI,il,iy,ob,e,m,l,f,i,g,h,o,q,d,r]
 by_cases s:c>3
 ·rcases hk' with rfl | rfl | rfl<;>(try (simp at d;subst d))<;>constructor<;>simp [bX,dL,av,dI,il,iy,ob,e,m,l,f,i,g,h,o,s]
 by_cases p:k<3/\c≠0
 ·have q:c>0:=by omega
  have r:(c != 0)=true:=by simp [p.2]
  rcases hk' with rfl | rfl | rfl<;>(try (simp at d;subst d))<;>simp at p<;>constructor<;>simp [bX,dL,av,dI,il,iy,ob,e,m,l,f,i,g,h,o,s,q,p,r]
 rcases hk' with rfl | rfl | rfl<;>(try (simp at d;subst d))<;>(try (simp at p;subst p))<;>constructor<;>simp [bX,dL,av,dI,il,iy,ob,e,m,l,f,i,g,h,o,s]
theorem mf (m d:aa):1<=bD m d/\bD m d<=3:=by
 unfold bD;cases (m==[])<;>cases (d==[])<;>simp
def yrD (g l:Bool) (dg:aa) (x q:Int) (m:aa):Bool:=if okY g l dg x q then yrB g dg x q m else false
def chkD (g l:Bool) (dg:aa) (x q:Int) (m d:aa) (k0 k1 k2:Int):Int:=
 cond (!(yrD g l dg x q m)) 6 (cond (!(m==[])&&(!(decide (0<sea m))&&!(dY m 12))) 7
  (cond (!(d==[])&&((m==[])||(decide (0<sea m)||!(dY d 31)))) 8 (allM k0 k1 k2 (bD m d))))
theorem Sm (m:aa):0<=sea m:=by
 rcases pN m with h | ⟨j,a,rfl⟩
 ·omega
 ·rw [kZ a];omega
theorem UB (m:aa):(sea m==0)=!(decide (0<sea m)):=by
 have:=Sm m;by_cases h:sea m=0
 ·rw [h];rfl
 ·have a:0<sea m:=by omega
  rw [aJ.2 h,aq a];rfl
theorem IX (n:Nat) (c:200<n) (g l:Bool) (dg:aa) (x q:Int) (m d:aa) (k0 k1 k2:Int) (a:m.length<=18) (o:dg.length<=100) (b:0<=k0) (j:0<=k1) (i:0<=k2):
  jz n g l dg x q m d k0 k1 k2=some (chkD g l dg x q m d k0 k1 k2):=by
 have hy:fO n g l dg x q m d k0 k1 k2=some (yrD g l dg x q m):=Dt n c g l dg x q m d k0 k1 k2 a o;have a1:dq n m 12=some (dY m 12):=Dj n (by omega) m 12 (by omega);have a2:dq n d 31=some (dY d 31):=Dj n (by omega) d 31 (by omega);have f:=(H3 n (by omega) k0 k1 k2 (bD m d) (mf m d) b j i).1;unfold jz chkD;rw [qO n g l dg x q m d k0 k1 k2 a,hy,a1,a2,AE n (by omega)];simp only [ob];rw [f];generalize yrD g l dg x q m=b1;generalize (m==[])=b2;generalize decide (0<sea m)=k;generalize dY m 12=p;generalize (d==[])=h;generalize dY d 31=e;cases b1<;>cases b2<;>cases k<;>cases p<;>cases h<;>cases e<;>rfl
theorem FR (n:Nat) (b:200<n) (g l:Bool) (dg:aa) (x q:Int) (m d:aa) (k0 k1 k2:Int) (o:dg.length<=100) (a:0<=k0) (j:0<=k1) (i:0<=k2):
  ke n g l dg x q m d k0 k1 k2=some (chkD g l dg x q m d k0 k1 k2):=by
 have hy:ju n g l dg x q m d k0 k1 k2=some (if yrD g l dg x q m then 1 else 0):=by
  rw [Q9 n b g l dg x q m d k0 k1 k2 o];unfold yrD;by_cases h:okY g l dg x q
  ·simp only [h,ku,aM]
  ·simp only [h,yA,aG];rfl
 have a1:dO n m 12=some (if dY m 12 then 1 else 0):=HW n (by omega) m 12 (by omega);have a2:dO n d 31=some (if dY d 31 then 1 else 0):=HW n (by omega) d 31 (by omega);have e:=(H3 n (by omega) k0 k1 k2 (bD m d) (mf m d) a j i).2;unfold ke chkD;rw [lL n (by omega) g l dg x q m d k0 k1 k2,hy,a1,a2,dj n];simp only [ob];rw [e,UB];show cond ((if yrD g l dg x q m then (1:Int) else 0)==0) _ (cond _ (cond _ (cond _ _ (cond _ (cond _ _ (cond (decide (0<sea m)) _ _)) _)) (cond _ (cond _ _ (cond (decide (0<sea m)) _ _)) _)) (cond _ (cond _ _ (cond (decide (0<sea m)) _ _)) _))=_;generalize yrD g l dg x q m=b1;generalize (m==[])=b2;generalize decide (0<sea m)=k;generalize dY m 12=p;generalize (d==[])=f;generalize dY d 31=c;cases b1<;>cases b2<;>cases k<;>cases p<;>cases f<;>cases c<;>rfl
theorem CY {g l:Bool} {dg:aa} {x q:Int} {m d:aa} {k0 k1 k2:Int} (h:chkD g l dg x q m d k0 k1 k2=0):yrD g l dg x q m=true/\(m=[]\/0<sea m\/dY m 12=true)/\(d=[]\/(m≠[]/\sea m=0/\dY d 31=true))/\allM k0 k1 k2 (bD m d)=0:=by
 have hs:=Sm m;unfold chkD at h;cases b1:yrD g l dg x q m with
 | false=>rw [b1] at h;exact absurd h (by simp)
 | true=>
  rw [b1] at h;simp only [dn,af] at h;cases b2:(!(m==[])&&(!(decide (0<sea m))&&!(dY m 12))) with
  | true=>rw [b2] at h;exact absurd h (by simp)
  | false=>
   rw [b2] at h;simp only [af] at h;cases c:(!(d==[])&&((m==[])||(decide (0<sea m)||!(dY d 31)))) with
   | true=>rw [c] at h;exact absurd h (by simp)
   | false=>
    rw [c] at h;simp only [af] at h;refine ⟨rfl,?_,?_,h⟩
    ·by_cases b:m=[]
     ·exact .inl b
     ·by_cases a:0<sea m
      ·exact .inr (.inl a)
      ·simp [b,a] at b2;exact .inr (.inr b2)
    ·by_cases b:d=[]
     ·exact .inl b
     ·by_cases a:m=[]
      ·simp [b,a] at c
      ·by_cases e:0<sea m
       ·simp [b,a,e] at c
       ·simp [b,a,e] at c;exact .inr ⟨a,by omega,c⟩
theorem nz {s:aa} {g:Nat} (m:g<=31) (h:dY s g=true):s.length=2/\∀c∈s,isDX c=true:=by
 unfold dY at h;obtain ⟨i,j,hi⟩:=sK.1 h;have e:i<g:=jp.1 j;have dig:∀k:Nat,k<10->isDX (UInt8.ofNat (48+k))=true:=by decide
 have d:isDX 88=true:=by decide
 match s,hi with
 | [],hi=>simp [agr] at hi
 | [_],hi=>simp [agr] at hi
 | [a,b],hi=>
  refine ⟨rfl,?_⟩;simp only [agr,aD,gX,bp] at hi;obtain ⟨f,l⟩:=hi;intro c hc;simp only [cq,oL,qe] at hc;rcases hc with rfl | rfl
  ·rcases f with rfl | rfl
   ·exact d
   ·exact dig _ (by omega)
  ·rcases l with rfl | rfl
   ·exact d
   ·exact dig _ (by omega)
 | _::_::_::_,hi=>simp [agr] at hi
theorem Gx {m:aa} (h:0<sea m):m.length=2/\∀c∈m,isDX c=true:=by
 rcases pN m with b | ⟨j,a,rfl⟩
 ·omega
 ·refine ⟨rfl,?_⟩;have:((List.range 21).all λj=>(two (21+j)).all isDX)=true:=by decide +kernel
  have:=(bW.1 this) j (by simpa using a);exact bW.1 this
def mt (k:Nat):aa:=if k=1 then [63] else if k=2 then [126] else if k=3 then [37] else []
def mkOf (c:UInt8):Nat:=if c=63 then 1 else if c=126 then 2 else if c=37 then 3 else 0
def MD (k a b c:Nat):Bool:=(decide (k<2)||b==a)&&(decide (k<3)||c==a)
def plA (k a b c:Nat):Nat×Nat×Nat:=if MD k a b c then (0,0,0) else (a,b,c)
def plB (k a b c:Nat):Nat×Nat×Nat:=if MD k a b c then (if k=1 then (a,0,0) else if k=2 then (0,a,0) else (0,0,a)) else (0,0,0)
def l3 (p:Nat×Nat×Nat):List Int:=[(p.1:Int),(p.2.1:Int),(p.2.2:Int)]
def spM (A B:Nat×Nat×Nat):Nat×Nat×Nat:=(A.1 ||| B.1 ||| B.2.1 ||| B.2.2,A.2.1 ||| B.2.1 ||| B.2.2,A.2.2 ||| B.2.2)
theorem I9 (n k:Nat) (h:k<4):JQ n (k:Int)=some (mt k,0)/\cJ n (k:Int)=some (mt k):=by
 have:k=0\/k=1\/k=2\/k=3:=by omega
 rcases this with rfl | rfl | rfl | rfl<;>exact ⟨rfl,rfl⟩
noncomputable def Xv (m j:Nat):Bool:=
 (qi (m+300) (j:Int)==some (((mkOf (UInt8.ofNat j):Nat):Int),decide (0<mkOf (UInt8.ofNat j))))&&(eH (m+300) (j:Int)==some ((mkOf (UInt8.ofNat j):Nat):Int))
theorem OX (m:Nat):(List.range 256).all (Xv m)=true:=by kernel_rfl
theorem Gh (m:Nat) (c:UInt8):qi (m+300) ((c.toNat:Nat):Int)=some (((mkOf c:Nat):Int),decide (0<mkOf c))/\eH (m+300) ((c.toNat:Nat):Int)=some ((mkOf c:Nat):Int):=by
 have h:=(bW.1 (OX m)) c.toNat (jp.2 c.toNat_lt);unfold Xv at h;rw [show UInt8.ofNat c.toNat=c by simp] at h;simp only [aD,bp] at h;exact h
noncomputable def NM (m k a b c:Nat):Bool:=
 (xq (m+300) [(a:Int),(b:Int),(c:Int)] (k:Int)==some (l3 (plA k a b c),l3 (plB k a b c),0))&&(kg (m+300) [(a:Int),(b:Int),(c:Int)] (k:Int)==some (l3 (plA k a b c),l3 (plB k a b c)))
theorem VJ (m:Nat):((List.range 4).all λa=>NM m 1 a 0 0)=true:=by kernel_rfl
theorem Wy (m:Nat):((List.range 4).all λa=>(List.range 4).all λb=>NM m 2 a b 0)=true:=by kernel_rfl
theorem Xu (m:Nat):((List.range 4).all λa=>(List.range 4).all λb=>(List.range 4).all λc=>NM m 3 a b c)=true:=by kernel_rfl
theorem r4 {p:Nat->Bool} (h:(List.range 4).all p=true) {a:Nat} (b:a<4):p a=true:=(bW.1 h) a (jp.2 b)
theorem Ys (m k a b c:Nat) (i:1<=k/\k<=3) (d:a<4) (f:b<4) (hc:c<4) (g:k<2->b=0) (e:k<3->c=0):
  xq (m+300) [(a:Int),(b:Int),(c:Int)] (k:Int)=some (l3 (plA k a b c),l3 (plB k a b c),0)/\kg (m+300) [(a:Int),(b:Int),(c:Int)] (k:Int)=some (l3 (plA k a b c),l3 (plB k a b c)):=by
 have h:NM m k a b c=true:=by
  have:k=1\/k=2\/k=3:=by omega
  rcases this with rfl | rfl | rfl
  ·rw [g (by omega),e (by omega)];exact r4 (VJ m) d
  ·rw [e (by omega)];exact r4 (r4 (Wy m) d) f
  ·exact r4 (r4 (r4 (Xu m) d) f) hc
 unfold NM at h;simp only [aD,bp] at h;exact h
theorem Ww {k a b c:Nat} (d:a<4) (e:b<4) (hc:c<4):(plA k a b c).1<4/\(plA k a b c).2.1<4/\(plA k a b c).2.2<4/\(plB k a b c).1<4/\(plB k a b c).2.1<4/\(plB k a b c).2.2<4:=by
 unfold plA plB;split
 ·split
  ·simp [d]
  ·split<;>simp [d]
 ·simp [d,e,hc]
def inM (k:Nat) (A:Nat×Nat×Nat):Prop:=A.1<4/\A.2.1<4/\A.2.2<4/\(k<2->A.2.1=0)/\(k<3->A.2.2=0)
theorem tz {k:Nat} {A:Nat×Nat×Nat} (h:inM k A):allM (A.1:Int) (A.2.1:Int) (A.2.2:Int) k=0:=by
 obtain ⟨a,c,b,d,e⟩:=h;unfold allM;rw [ab (by omega)]
theorem or4 {a b:Nat} (c:a<4) (d:b<4):bits .or .u8 (a:Int) (b:Int)=((a ||| b:Nat):Int)/\a ||| b<4:=by
 have:((List.range 4).all λa=>(List.range 4).all λb=>bits .or .u8 (a:Int) (b:Int)==((a ||| b:Nat):Int)&&decide (a ||| b<4))=true:=by decide +kernel
 have:=r4 (r4 this c) d;simpa using this
theorem xL (n:Nat) (w:9<n) (k:Nat) (A B:Nat×Nat×Nat) (r:1<=k/\k<=3) (m:inM k A) (q:inM k B):eN n (l3 A) (l3 B) (k:Int)=some (l3 (spM A B),0):=by
 obtain ⟨n,rfl⟩:∃j,n=j+5:=⟨n - 5,by omega⟩;have p:=(H3 (n+5) (by omega) (A.1:Int) (A.2.1:Int) (A.2.2:Int) k r (by omega) (by omega) (by omega)).1;have t:=(H3 (n+5) (by omega) (B.1:Int) (B.2.1:Int) (B.2.2:Int) k r (by omega) (by omega) (by omega)).1;rw [tz m] at p;rw [tz q] at t;have h:∀x:Nat,x<4->bits .or .u8 0 (x:Int)=(x:Int):=λx hx=>by
  have:=(or4 (show 0<4 by omega) hx).1;simpa using this
 have b:∀x y:Nat,x<4->y<4->bits .or .u8 (x:Int) (y:Int)=((x ||| y:Nat):Int):=λx y hx hy=>(or4 hx hy).1;have e:∀x y:Nat,x<4->y<4->x ||| y<4:=λx y hx hy=>(or4 hx hy).2;unfold eN;show ob (dL (n+5) [(A.1:Int),(A.2.1:Int),(A.2.2:Int)] (k:Int)) _=_;rw [p];show ob (dL (n+5) [(B.1:Int),(B.2.1:Int),(B.2.2:Int)] (k:Int)) _=_;rw [t];obtain ⟨a0,a1,a2⟩:=A;obtain ⟨b0,b1,b2⟩:=B;obtain ⟨g0,f,l,s,g⟩:=m;obtain ⟨d,a,c,o,i⟩:=q;simp only at g0 f l s g d a c o i;have hk':k=1\/k=2\/k=3:=by omega
 rcases hk' with rfl | rfl | rfl
 ·obtain rfl:=s (by omega);obtain rfl:=g (by omega);obtain rfl:=o (by omega);obtain rfl:=i (by omega);show some (([bits .or .u8 (a0:Int) (bits .or .u8 0 (b0:Int)),0,0]:List Int),(0:Int))=_;rw [h b0 d,b _ _ g0 d];simp [l3,spM]
 ·obtain rfl:=g (by omega);obtain rfl:=i (by omega);show some (([bits .or .u8 (a0:Int) (bits .or .u8 (bits .or .u8 0 (b1:Int)) (b0:Int)),bits .or .u8 (a1:Int) (bits .or .u8 0 (b1:Int)),0]:List Int),(0:Int))=_;rw [h b1 a,b _ _ a d,b _ _ g0 (e _ _ a d),b _ _ f a];simp [l3,spM,Nat.or_assoc,Nat.or_comm b1 b0]
 ·show some (([bits .or .u8 (a0:Int) (bits .or .u8 (bits .or .u8 (bits .or .u8 0 (b2:Int)) (b1:Int)) (b0:Int)),bits .or .u8 (a1:Int) (bits .or .u8 (bits .or .u8 0 (b2:Int)) (b1:Int)),bits .or .u8 (a2:Int) (bits .or .u8 0 (b2:Int))]:List Int),(0:Int))=_;rw [h b2 c,b _ _ c a,b _ _ (e _ _ c a) d,b _ _ g0 (e _ _ (e _ _ c a) d),b _ _ f (e _ _ c a),b _ _ l c];have u:a0 ||| (b2 ||| b1 ||| b0)=a0 ||| b0 ||| b1 ||| b2:=by rw [Nat.or_comm (b2 ||| b1) b0,Nat.or_comm b2 b1];simp only [Nat.or_assoc]
  have v:a1 ||| (b2 ||| b1)=a1 ||| b1 ||| b2:=by rw [Nat.or_comm b2 b1];simp only [Nat.or_assoc]
  rw [u,v];rfl
abbrev cI (x:Nat):Int:=(x:Int)
def bt (b a:Nat):Nat:=if b=1 then a%2 else a / 2%2
theorem R1 (n:Nat) {a b:Nat} (d:a<4) (c:b=1\/b=2):jY n (a:Int) (b:Int)=some ((bt b a:Nat):Int):=by
 have h:a=0\/a=1\/a=2\/a=3:=by omega
 rcases h with rfl | rfl | rfl | rfl<;>rcases c with rfl | rfl<;>rfl
theorem SG (b a:Nat):bt b a<=1:=by unfold bt;split<;>omega
def bts (b:Nat):List Nat->Nat
 | []=>0
 | x::l=>bt b x+bts b l
theorem XU (n k b i:Nat) (m:b=1\/b=2) (t:k<=3) (A X Y:List Int) (a:List Nat) (q:a.length=3) (o:∀x∈a,x<4):∀(r j acc:Nat),j+r=k->acc<=j+1->∀N,r<N->
  av (cR n) N ((k:Int),(b:Int),(i:Int),(acc:Int),(j:Int),A,a.map cI,X,Y)=some ((k:Int),(b:Int),(i:Int),((acc+bts b ((a.take k).drop j):Nat):Int),A,a.map cI,X,Y):=by
 intro r
 induction r with
 | zero=>
  intro j acc h c N p;obtain ⟨N,rfl⟩:∃k,N=k+1:=⟨N - 1,by omega⟩;have s:cR n ((k:Int),(b:Int),(i:Int),(acc:Int),(j:Int),A,a.map cI,X,Y)=some (.inr ((k:Int),(b:Int),(i:Int),(acc:Int),A,a.map cI,X,Y)):=by
   unfold cR;rw [bM,ab (show ¬((j:Int)<(k:Int)) by omega)]
  have e:(a.take k).drop j=[]:=jk (by rw [cP];omega);rw [av,s,e];rfl
 | succ r ih=>
  intro j acc h c N p;obtain ⟨N,rfl⟩:∃k,N=k+1:=⟨N - 1,by omega⟩;have g:j<a.length:=by omega
  obtain ⟨x,hx⟩:∃x,a[j]?=some x:=⟨a[j],aW g⟩;have d:(a.map cI)[j]?=some (x:Int):=by rw [qG,hx];rfl
  have f:=o x (eW hx);have w:IntKind.wrap .i64 ((acc:Int)+((bt b x:Nat):Int))=((acc+bt b x:Nat):Int):=by have:=SG b x;rw [wrap_i64 _ (by omega) (by omega)];omega
  have l:IntKind.wrap .i64 ((j:Int)+1)=((j+1:Nat):Int):=by rw [wrap_i64 _ (by omega) (by omega)];omega
  have s:cR n ((k:Int),(b:Int),(i:Int),(acc:Int),(j:Int),A,a.map cI,X,Y)=some (.inl ((k:Int),(b:Int),(i:Int),((acc+bt b x:Nat):Int),((j+1:Nat):Int),A,a.map cI,X,Y)):=by
   unfold cR;rw [bM,ae (show (j:Int)<(k:Int) by omega)];show ob (ix 3 (j:Int)) _=_;rw [dD (show j<3 by omega)];show ob ((a.map cI)[j]?) _=_;rw [d];show ob (jY n (x:Int) (b:Int)) _=_;rw [R1 n f m];show some (Sum.inl ((k:Int),(b:Int),(i:Int),IntKind.wrap .i64 ((acc:Int)+((bt b x:Nat):Int)),IntKind.wrap .i64 ((j:Int)+1),_))=_;rw [w,l]
  have e:(a.take k).drop j=x::(a.take k).drop (j+1):=ct (by rw [qF (by omega)];exact hx);rw [av,s];have:=SG b x;show av _ N _=_;rw [ih (j+1) (acc+bt b x) (by omega) (by omega) N (by omega),e];simp only [bts,gq]
def hit (k b i:Nat) (c a:List Nat):Bool:=decide (0<bt b (c.getD i 0)+bts b ((a.take k).drop i))
theorem Yw (n k b i:Nat) (v:9<n) (h:b=1\/b=2) (u:k<=3) (hi:i<k) (X:List Int) (a c:List Nat) (w:a.length=3) (t:c.length=3) (l:∀x∈a,x<4) (s:∀x∈c,x<4) (out:List Int) (o:Int) (q:out[i]?=some o):
  bR n ((k:Int),(b:Int),(i:Int),a.map cI,c.map cI,X,out)=some (.inl ((k:Int),(b:Int),((i+1:Nat):Int),a.map cI,c.map cI,X,cond (hit k b i a c) (out.set i (IntKind.wrap .u8 (o+(b:Int)))) out)):=by
 obtain ⟨x,hx⟩:∃x,a[i]?=some x:=⟨a[i],aW (by omega)⟩;have f:(a.map cI)[i]?=some (x:Int):=by rw [qG,hx];rfl
 have d:=l x (eW hx);have p:=SG b x;have r:IntKind.wrap .i64 ((i:Int)+1)=((i+1:Nat):Int):=by rw [wrap_i64 _ (by omega) (by omega)];omega
 have g:=XU n k b i h u (a.map cI) X out c t s (k - i) i (bt b x) (by omega) (by omega) n (by omega);unfold bR;rw [bM,ae (show (i:Int)<(k:Int) by omega)];show ob (ix 3 (i:Int)) _=_;rw [dD (show i<3 by omega)];show ob ((a.map cI)[i]?) _=_;rw [f];show ob (jY n (x:Int) (b:Int)) _=_;rw [R1 n d h];show ob (av (cR n) n ((k:Int),(b:Int),(i:Int),((bt b x:Nat):Int),(i:Int),a.map cI,c.map cI,X,out)) _=_;rw [g];have m:hit k b i a c=decide (((bt b x+bts b ((c.take k).drop i):Nat):Int)>0):=by
  unfold hit;rw [Ei,hx];rw [nV];simp only [xk];omega
 rw [m];show cond (decide (((bt b x+bts b ((c.take k).drop i):Nat):Int)>0)) (ob (ix 3 (i:Int)) λj=>ob (out[j]?) λy=>ob (ix 3 (i:Int)) λj2=>cond (Nat.blt j2 3) (some (Sum.inl ((k:Int),(b:Int),IntKind.wrap .i64 ((i:Int)+1),a.map cI,c.map cI,X,out.set j2 (IntKind.wrap .u8 (y+(b:Int)))))) none) (some (Sum.inl ((k:Int),(b:Int),IntKind.wrap .i64 ((i:Int)+1),a.map cI,c.map cI,X,out)))=_;rw [dD (show i<3 by omega),r];have e:Nat.blt i 3=true:=dm (by omega);simp only [ob,q,e,ah];cases decide (((bt b x+bts b ((c.take k).drop i):Nat):Int)>0)<;>rfl
def addB (k b:Nat) (c a:List Nat) (o:List Int):List Int:=[cond (decide (0<k)&&hit k b 0 c a) (IntKind.wrap .u8 (o.getD 0 0+(b:Int))) (o.getD 0 0),cond (decide (1<k)&&hit k b 1 c a) (IntKind.wrap .u8 (o.getD 1 0+(b:Int))) (o.getD 1 0),cond (decide (2<k)&&hit k b 2 c a) (IntKind.wrap .u8 (o.getD 2 0+(b:Int))) (o.getD 2 0)]
theorem P4 (n k b:Nat) (h:9<n) (p:b=1\/b=2) (s:1<=k/\k<=3) (X:List Int) (a c:List Nat) (m:a.length=3) (r:c.length=3) (l:∀x∈a,x<4) (q:∀x∈c,x<4) (e o1 f:Int):
  av (bR n) n ((k:Int),(b:Int),0,a.map cI,c.map cI,X,[e,o1,f])=some ((k:Int),(b:Int),a.map cI,c.map cI,X,addB k b a c [e,o1,f]):=by
 obtain ⟨n,rfl⟩:∃j,n=j+5:=⟨n - 5,by omega⟩;have fin:∀(N:Nat) (out:List Int),av (bR (n+5)) (N+1) ((k:Int),(b:Int),((k:Nat):Int),a.map cI,c.map cI,X,out)=some ((k:Int),(b:Int),a.map cI,c.map cI,X,out):=λN out=>by
  rw [av];have:bR (n+5) ((k:Int),(b:Int),((k:Nat):Int),a.map cI,c.map cI,X,out)=some (.inr ((k:Int),(b:Int),a.map cI,c.map cI,X,out)):=by
   unfold bR;rw [bM,ab (show ¬((k:Int)<(k:Int)) by omega)]
  rw [this]
 have g:=λ(i:Nat) (hi:i<k) (out:List Int) (o:Int) (ho:out[i]?=some o)=>Yw (n+5) k b i h p s.2 hi X a c m r l q out o ho;have hk':k=1\/k=2\/k=3:=by omega
 have d:=g 0 (by omega) [e,o1,f] e rfl;rcases hk' with rfl | rfl | rfl
 ·rw [av];rw [show ((0:Nat):Int)=0 from rfl] at d;rw [d];show av _ (n+3+1) (((1:Nat):Int),(b:Int),((1:Nat):Int),_)=_;rw [fin];unfold addB;cases hit 1 b 0 a c<;>rfl
 ·rw [av];rw [show ((0:Nat):Int)=0 from rfl] at d;rw [d];show av _ (n+4) (((2:Nat):Int),(b:Int),((1:Nat):Int),_)=_;rw [av,g 1 (by omega) _ o1 (by cases hit 2 b 0 a c<;>rfl)];show av _ (n+2+1) (((2:Nat):Int),(b:Int),((2:Nat):Int),_)=_;rw [fin];unfold addB;cases hit 2 b 0 a c<;>cases hit 2 b 1 a c<;>rfl
 ·rw [av];rw [show ((0:Nat):Int)=0 from rfl] at d;rw [d];show av _ (n+4) (((3:Nat):Int),(b:Int),((1:Nat):Int),_)=_;rw [av,g 1 (by omega) _ o1 (by cases hit 3 b 0 a c<;>rfl)];show av _ (n+3) (((3:Nat):Int),(b:Int),((2:Nat):Int),_)=_;rw [av,g 2 (by omega) _ f (by cases hit 3 b 0 a c<;>cases hit 3 b 1 a c<;>rfl)];show av _ (n+1+1) (((3:Nat):Int),(b:Int),((3:Nat):Int),_)=_;rw [fin];unfold addB;cases hit 3 b 0 a c<;>cases hit 3 b 1 a c<;>cases hit 3 b 2 a c<;>rfl
def lN (p:Nat×Nat×Nat):List Nat:=[p.1,p.2.1,p.2.2]
theorem rj {x y:Nat} (hx:x<4) (hy:y<4) (b:Nat) (d:b=1\/b=2):decide (0<bt b (x ||| y))=decide (0<bt b x+bt b y):=by
 have:((List.range 4).all λa=>(List.range 4).all λc=>(decide (0<bt 1 (a ||| c))==decide (0<bt 1 a+bt 1 c))&&(decide (0<bt 2 (a ||| c))==decide (0<bt 2 a+bt 2 c)))=true:=by decide +kernel
 have:=r4 (r4 this hx) hy;simp only [aD,bp] at this;rcases d with rfl | rfl
 ·exact this.1
 ·exact this.2
theorem sA {x:Nat} (hx:x<4):cond (decide (0<bt 2 x)) (IntKind.wrap .u8 (cond (decide (0<bt 1 x)) (IntKind.wrap .u8 (0+((1:Nat):Int))) 0+((2:Nat):Int))) (cond (decide (0<bt 1 x)) (IntKind.wrap .u8 (0+((1:Nat):Int))) 0)=(x:Int):=by
 have h:x=0\/x=1\/x=2\/x=3:=by omega
 rcases h with rfl | rfl | rfl | rfl<;>decide
theorem vb (n:Nat) (H:9<n) (k:Nat) (A B:Nat×Nat×Nat) (K:1<=k/\k<=3) (I:inM k A) (J:inM k B):fG n (l3 A) (l3 B) (k:Int)=some (l3 (spM A B)):=by
 obtain ⟨a0,a1,a2⟩:=A;obtain ⟨b0,b1,b2⟩:=B;obtain ⟨g0,m,s,C,t⟩:=I;obtain ⟨f,d,l,z,u⟩:=J;simp only at g0 m s C t f d l z u;have c:∀x y:Nat,x<4->y<4->x ||| y<4:=λx y hx hy=>(or4 hx hy).2;have D:∀x∈lN (a0,a1,a2),x<4:=by
  intro x hx;simp only [lN,cq,oL,qe] at hx;rcases hx with rfl | rfl | rfl<;>assumption
 have O:∀x∈lN (b0,b1,b2),x<4:=by
  intro x hx;simp only [lN,cq,oL,qe] at hx;rcases hx with rfl | rfl | rfl<;>assumption
 have run:=λ(b:Nat) (a:b=1\/b=2) (o0 o1 o2:Int)=>P4 n k b H a K [0,0,0] (lN (a0,a1,a2)) (lN (b0,b1,b2)) rfl rfl D O o0 o1 o2;have v:=run 1 (.inl rfl) 0 0 0;obtain ⟨h,g,i,hp⟩:∃h g i,addB k 1 (lN (a0,a1,a2)) (lN (b0,b1,b2)) [0,0,0]=[h,g,i]:=⟨_,_,_,rfl⟩;have N:=run 2 (.inr rfl) h g i;rw [hp] at v;obtain ⟨n,rfl⟩:∃j,n=j+5:=⟨n - 5,by omega⟩;have E:dP (n+5) ((k:Int),1,l3 (a0,a1,a2),l3 (b0,b1,b2),[0,0,0],[0,0,0])=some (.inl ((k:Int),2,l3 (a0,a1,a2),l3 (b0,b1,b2),[0,0,0],[h,g,i])):=by
  unfold dP;show cond (decide ((1:Int)<=2)) (ob (av (bR (n+5)) (n+5) ((k:Int),((1:Nat):Int),0,(lN (a0,a1,a2)).map cI,(lN (b0,b1,b2)).map cI,[0,0,0],[0,0,0])) _) _=_;rw [v];rfl
 have L:dP (n+5) ((k:Int),2,l3 (a0,a1,a2),l3 (b0,b1,b2),[0,0,0],[h,g,i])=some (.inl ((k:Int),3,l3 (a0,a1,a2),l3 (b0,b1,b2),[0,0,0],addB k 2 (lN (a0,a1,a2)) (lN (b0,b1,b2)) [h,g,i])):=by
  unfold dP;show cond (decide ((2:Int)<=2)) (ob (av (bR (n+5)) (n+5) ((k:Int),((2:Nat):Int),0,(lN (a0,a1,a2)).map cI,(lN (b0,b1,b2)).map cI,[0,0,0],[h,g,i])) _) _=_;rw [N];rfl
 have F:∀out:List Int,dP (n+5) ((k:Int),3,l3 (a0,a1,a2),l3 (b0,b1,b2),[0,0,0],out)=some (.inr ([0,0,0],out)):=λout=>rfl;unfold fG;rw [av,E];show ob (av _ (n+4) _) _=_;rw [av,L];show ob (av _ (n+3) _) _=_;rw [av,F];show some (addB k 2 (lN (a0,a1,a2)) (lN (b0,b1,b2)) [h,g,i])=_;rw [<-hp];have hk':k=1\/k=2\/k=3:=by omega
 have M:=λ(x y:Nat) (hx:x<4) (hy:y<4) (b:Nat) (a:b=1\/b=2)=>rj hx hy b a;rcases hk' with rfl | rfl | rfl
 ·obtain rfl:=C (by omega);obtain rfl:=t (by omega);obtain rfl:=z (by omega);obtain rfl:=u (by omega);have e:∀b,b=1\/b=2->hit 1 b 0 (lN (a0,0,0)) (lN (b0,0,0))=decide (0<bt b (a0 ||| b0)):=λb a=>by rw [rj g0 f b a];rfl
  show some [cond (hit 1 2 0 (lN (a0,0,0)) (lN (b0,0,0))) (IntKind.wrap .u8 (cond (hit 1 1 0 (lN (a0,0,0)) (lN (b0,0,0))) (IntKind.wrap .u8 (0+((1:Nat):Int))) 0+((2:Nat):Int))) (cond (hit 1 1 0 (lN (a0,0,0)) (lN (b0,0,0))) (IntKind.wrap .u8 (0+((1:Nat):Int))) 0),0,0]=_;rw [e 1 (.inl rfl),e 2 (.inr rfl),sA (c _ _ g0 f)];simp [l3,spM]
 ·obtain rfl:=t (by omega);obtain rfl:=u (by omega);have r:∀b,b=1\/b=2->hit 2 b 1 (lN (a0,a1,0)) (lN (b0,b1,0))=decide (0<bt b (a1 ||| b1)):=λb a=>by rw [rj m d b a];rfl
  have o:∀b,b=1\/b=2->hit 2 b 0 (lN (a0,a1,0)) (lN (b0,b1,0))=decide (0<bt b (a0 ||| b0 ||| b1)):=λb a=>by
   have p:=rj (c _ _ g0 f) d b a;have q:=rj g0 f b a;rw [p];have:hit 2 b 0 (lN (a0,a1,0)) (lN (b0,b1,0))=decide (0<bt b a0+(bt b b0+(bt b b1+0))):=rfl;rw [this];simp only [nV] at q ⊢;omega
  show some [cond (hit 2 2 0 (lN (a0,a1,0)) (lN (b0,b1,0))) (IntKind.wrap .u8 (cond (hit 2 1 0 (lN (a0,a1,0)) (lN (b0,b1,0))) (IntKind.wrap .u8 (0+((1:Nat):Int))) 0+((2:Nat):Int))) (cond (hit 2 1 0 (lN (a0,a1,0)) (lN (b0,b1,0))) (IntKind.wrap .u8 (0+((1:Nat):Int))) 0),cond (hit 2 2 1 (lN (a0,a1,0)) (lN (b0,b1,0))) (IntKind.wrap .u8 (cond (hit 2 1 1 (lN (a0,a1,0)) (lN (b0,b1,0))) (IntKind.wrap .u8 (0+((1:Nat):Int))) 0+((2:Nat):Int))) (cond (hit 2 1 1 (lN (a0,a1,0)) (lN (b0,b1,0))) (IntKind.wrap .u8 (0+((1:Nat):Int))) 0),0]=_;rw [o 1 (.inl rfl),o 2 (.inr rfl),r 1 (.inl rfl),r 2 (.inr rfl),sA (c _ _ (c _ _ g0 f) d),sA (c _ _ m d)];simp [l3,spM]
 ·have w:∀b,b=1\/b=2->hit 3 b 2 (lN (a0,a1,a2)) (lN (b0,b1,b2))=decide (0<bt b (a2 ||| b2)):=λb a=>by rw [rj s l b a];rfl
  have r:∀b,b=1\/b=2->hit 3 b 1 (lN (a0,a1,a2)) (lN (b0,b1,b2))=decide (0<bt b (a1 ||| b1 ||| b2)):=λb a=>by
   have p:=rj (c _ _ m d) l b a;have q:=rj m d b a;rw [p];have:hit 3 b 1 (lN (a0,a1,a2)) (lN (b0,b1,b2))=decide (0<bt b a1+(bt b b1+(bt b b2+0))):=rfl;rw [this];simp only [nV] at q ⊢;omega
  have o:∀b,b=1\/b=2->hit 3 b 0 (lN (a0,a1,a2)) (lN (b0,b1,b2))=decide (0<bt b (a0 ||| b0 ||| b1 ||| b2)):=λb a=>by
   have p:=rj (c _ _ (c _ _ g0 f) d) l b a;have q:=rj (c _ _ g0 f) d b a;have G:=rj g0 f b a;rw [p];have:hit 3 b 0 (lN (a0,a1,a2)) (lN (b0,b1,b2))=decide (0<bt b a0+(bt b b0+(bt b b1+(bt b b2+0)))):=rfl;rw [this];simp only [nV] at q G ⊢;omega
  show some [cond (hit 3 2 0 (lN (a0,a1,a2)) (lN (b0,b1,b2))) (IntKind.wrap .u8 (cond (hit 3 1 0 (lN (a0,a1,a2)) (lN (b0,b1,b2))) (IntKind.wrap .u8 (0+((1:Nat):Int))) 0+((2:Nat):Int))) (cond (hit 3 1 0 (lN (a0,a1,a2)) (lN (b0,b1,b2))) (IntKind.wrap .u8 (0+((1:Nat):Int))) 0),cond (hit 3 2 1 (lN (a0,a1,a2)) (lN (b0,b1,b2))) (IntKind.wrap .u8 (cond (hit 3 1 1 (lN (a0,a1,a2)) (lN (b0,b1,b2))) (IntKind.wrap .u8 (0+((1:Nat):Int))) 0+((2:Nat):Int))) (cond (hit 3 1 1 (lN (a0,a1,a2)) (lN (b0,b1,b2))) (IntKind.wrap .u8 (0+((1:Nat):Int))) 0),cond (hit 3 2 2 (lN (a0,a1,a2)) (lN (b0,b1,b2))) (IntKind.wrap .u8 (cond (hit 3 1 2 (lN (a0,a1,a2)) (lN (b0,b1,b2))) (IntKind.wrap .u8 (0+((1:Nat):Int))) 0+((2:Nat):Int))) (cond (hit 3 1 2 (lN (a0,a1,a2)) (lN (b0,b1,b2))) (IntKind.wrap .u8 (0+((1:Nat):Int))) 0)]=_;rw [o 1 (.inl rfl),o 2 (.inr rfl),r 1 (.inl rfl),r 2 (.inr rfl),w 1 (.inl rfl),w 2 (.inr rfl),sA (c _ _ (c _ _ (c _ _ g0 f) d) l),sA (c _ _ (c _ _ m d) l),sA (c _ _ s l)];rfl
def Oe (k a b c:Nat):Bool:=spM (plA k a b c) (plB k a b c)==(a,b,c)
theorem Wn:((List.range 4).all λa=>Oe 1 a 0 0)=true:=by decide +kernel
theorem VE:((List.range 4).all λa=>(List.range 4).all λb=>Oe 2 a b 0)=true:=by decide +kernel
theorem Wq:((List.range 4).all λa=>(List.range 4).all λb=>(List.range 4).all λc=>Oe 3 a b c)=true:=by decide +kernel
theorem Yq (k a b c:Nat) (i:1<=k/\k<=3) (d:a<4) (f:b<4) (hc:c<4) (g:k<2->b=0) (e:k<3->c=0):spM (plA k a b c) (plB k a b c)=(a,b,c):=by
 have h:Oe k a b c=true:=by
  have:k=1\/k=2\/k=3:=by omega
  rcases this with rfl | rfl | rfl
  ·rw [g (by omega),e (by omega)];exact r4 Wn d
  ·rw [e (by omega)];exact r4 (r4 VE d) f
  ·exact r4 (r4 (r4 Wq d) f) hc
 unfold Oe at h;exact bp.1 h
def mkS (l:aa):Nat:=match l with | []=>0 | c::_=>mkOf c
def mkN (l:aa):Nat:=if mkS l=0 then 0 else 1
def twoN (l:aa):Nat:=bE isDX 2 l
theorem SC (c:UInt8):mkOf c<4:=by
 unfold mkOf;split
 ·omega
 ·split
  ·omega
  ·split<;>omega
theorem C2 (l:aa):mkS l<4:=by
 cases l with
 | nil=>show 0<4;omega
 | cons c r=>exact SC c
theorem VK (l:aa):mkN l<=l.length:=by
 cases l with
 | nil=>exact bi 0
 | cons c r=>
  unfold mkN;split<;>simp
theorem SO (c:UInt8):hasB [63,126,37] c=decide (0<mkOf c):=by
 have:=iP (λc=>hasB [63,126,37] c==decide (0<mkOf c)) (by decide +kernel) c;simpa using this
theorem UC (m:Nat) (S:aa) (a:Nat) (h:a<=S.length) (i:S.length<100000):
  cM (m+300) S (a:Int)=some (.inr (((mkS (S.drop a):Nat):Int),S,((a+mkN (S.drop a):Nat):Int))):=by
 unfold cM;rw [pS (m+300) S a h];cases g:S.drop a with
 | nil=>
  have e:qi (m+300) 0=some (0,false):=by kernel_rfl
  show ob (qi (m+300) 0) _=_;rw [e];rfl
 | cons c r=>
  show ob (qi (m+300) ((c.toNat:Nat):Int)) _=_;rw [(Gh m c).1];show cond (decide (0<mkOf c)) _ _=_;have b:mkS (c::r)=mkOf c:=rfl;by_cases hc:0<mkOf c
  ·rw [aq hc];show ob (cw (m+300) [63,126,37] S (a:Int)) _=_;rw [BF (m+300) _ S a h (by omega),g];have f:hasB [63,126,37] c=true:=by rw [SO,aq hc]
   have d:mkN (c::r)=1:=by unfold mkN;rw [b,ab (by omega)]
   rw [b,d];simp only [f,aM,ob]
  ·rw [ar hc];have d:mkN (c::r)=0:=by unfold mkN;rw [b,ae (by omega)]
   rw [b,d];rfl
theorem Bq (m:Nat) (S:aa) (a:Nat) (h:a<=S.length) (j:S.length<100000) (e:Int):
  fJ (m+300) S (a:Int) e=some (((mkS (S.drop a):Nat):Int),S,((a+mkN (S.drop a):Nat):Int),e):=by
 unfold fJ;rw [lP];rcases aI a S.length with d | f
 ·have:decide (S.length<=a)=false:=by simp;omega
  rw [this];obtain ⟨c,hc⟩:∃c,S[a]?=some c:=⟨S[a],aW d⟩;rw [eF hc,ct hc];show ob (eH (m+300) ((c.toNat:Nat):Int)) _=_;rw [(Gh m c).2];have b:mkS (c::S.drop (a+1))=mkOf c:=rfl;show cond (decide (((mkOf c:Nat):Int)>0)) _ _=_;by_cases i:0<mkOf c
  ·have g:mkN (c::S.drop (a+1))=1:=by unfold mkN;rw [b,ab (by omega)]
   have:decide (((mkOf c:Nat):Int)>0)=true:=by simp;omega
   rw [this,b,g,ah];have w:IntKind.wrap .i64 ((a:Int)+1)=((a+1:Nat):Int):=by rw [wrap_i64 _ (by omega) (by omega)];omega
   rw [w]
  ·have g:mkN (c::S.drop (a+1))=0:=by unfold mkN;rw [b,ae (by omega)]
   have:decide (((mkOf c:Nat):Int)>0)=false:=by simp;omega
   rw [this,b,g,af];rfl
 ·have:decide (S.length<=a)=true:=by simp;omega
  rw [this,jk f];rfl
theorem Sl (n:Nat) (S:aa) (a:Nat) (h:a<=S.length) (i:S.length<100000) (d:S.length<n):
  iU n S (a:Int)=some (if twoN (S.drop a)<2 then .inl (((a+twoN (S.drop a):Nat):Int),5,S,((a+twoN (S.drop a):Nat):Int)) else .inr ((S.drop a).take 2,S,((a+2:Nat):Int))):=by
 unfold iU;rw [wm n _ 2 2 S a h (by omega) d];have e:bE (hasB [88,48,49,50,51,52,53,54,55,56,57]) (2:Int).toNat (S.drop a)=twoN (S.drop a):=by
  unfold twoN;have f:(2:Int).toNat=2:=rfl;rw [f];exact kx (λc=>by rw [uX];rfl) _ _
 rw [e];by_cases b:twoN (S.drop a)<2
 ·rw [ae b,ae (by omega)];rfl
 ·have g:twoN (S.drop a)=2:=by
   have:=qW isDX 2 (S.drop a);unfold twoN at b ⊢;omega
  rw [ab b,ab (by omega),g];rfl
theorem WQ (c:UInt8):isDX c=((decide (48<=c.toNat)&&decide (c.toNat<=57))||c==88):=by
 unfold isDX;congr 1;rw [sI,cb];simp
theorem Ip (n:Nat) (S:aa) (a b i e:Int) (j:Nat) (v:S.length<100000) (hi:i<2) (r:j<=S.length) (s:0<=i):
  jN n (b,i,S,(j:Int),e,[],0,0)=some (match S.drop j with
   | []=>.inr (.inl ([],S,(j:Int),5))
   | c::_=>if isDX c then .inl (b,i+1,S,((j+1:Nat):Int),e,[],0,0) else .inr (.inl ([],S,(j:Int),5))):=by
 unfold jN;have p:decide (i<2)=true:=aq hi;show cond (decide (i<2)) (cond (decide ((j:Int)>=((S.length:Nat):Int))) _ _) _=_;rw [p,lP];rcases aI j S.length with g | h
 ·have:decide (S.length<=j)=false:=by simp;omega
  rw [this];obtain ⟨c,hc⟩:∃c,S[j]?=some c:=⟨S[j],aW g⟩;have o:IntKind.wrap .i64 (i+1)=i+1:=wrap_i64 _ (by omega) (by omega);have q:IntKind.wrap .i64 ((j:Int)+1)=((j+1:Nat):Int):=by rw [wrap_i64 _ (by omega) (by omega)];omega
  rw [ct hc];simp only [eF hc,ob,ah,af,o,q];rw [WQ];have f:(((c.toNat:Nat):Int) != 88)=!(c==88):=by rw [bne];congr 1;exact nQ c 88
  rw [f];by_cases u:c.toNat<48
  ·have l:decide (((c.toNat:Nat):Int)<48)=true:=by simp;omega
   have d:decide (48<=c.toNat)=false:=by simp;omega
   rw [l,d];cases (c==88)<;>rfl
  ·have l:decide (((c.toNat:Nat):Int)<48)=false:=by simp;omega
   have d:decide (48<=c.toNat)=true:=by simp;omega
   rw [l,d];by_cases t:c.toNat<=57
   ·have m:decide (((c.toNat:Nat):Int)>57)=false:=by simp;omega
    have k:decide (c.toNat<=57)=true:=by simp;omega
    rw [m,k];rfl
   ·have m:decide (((c.toNat:Nat):Int)>57)=true:=by simp;omega
    have k:decide (c.toNat<=57)=false:=by simp;omega
    rw [m,k];cases (c==88)<;>rfl
 ·have:decide (S.length<=j)=true:=by simp;omega
  rw [this,jk h];rfl
theorem NY (n:Nat) (s:10<n) (S:aa) (a:Nat) (h:a<=S.length) (l:S.length<100000) (e:Int):
  l8 n S (a:Int) e=some (if twoN (S.drop a)<2 then ([],S,((a+twoN (S.drop a):Nat):Int),5) else ((S.drop a).take 2,S,((a+2:Nat):Int),e)):=by
 obtain ⟨n,rfl⟩:∃j,n=j+3:=⟨n - 3,by omega⟩;unfold l8;rw [av,Ip (n+3) S 0 (a:Int) 0 e a l (by omega) h (by omega)];cases k:S.drop a with
 | nil=>rfl
 | cons c r=>
  obtain ⟨o,t,i⟩:=nP k;cases hc:isDX c with
  | false=>
   have:twoN (c::r)=0:=by unfold twoN;simp [bE,hc]
   rw [this];simp [hc,ob]
  | true=>
   simp only [hc,aM];rw [av,Ip (n+3) S 0 (a:Int) (0+1) e (a+1) l (by omega) (by omega) (by omega),i];cases r with
   | nil=>
    have:twoN [c]=1:=by unfold twoN;simp [bE,hc]
    rw [this];rfl
   | cons d f=>
    obtain ⟨g,p,m⟩:=nP i;cases b:isDX d with
    | false=>
     have:twoN (c::d::f)=1:=by unfold twoN;simp [bE,hc,b]
     rw [this];simp [b,ob]
    | true=>
     have:twoN (c::d::f)=2:=by unfold twoN;simp [bE,hc,b]
     rw [this];simp only [b,aM];have q:jN (n+3) ((a:Int),0+1+1,S,((a+1+1:Nat):Int),e,[],0,0)=some (.inr (.inr ((a:Int),S,((a+1+1:Nat):Int),e,[],0,0))):=rfl;rw [av,q];show ob (bx S.length ((a+1+1:Nat):Int)) _=_;rw [cQ (show a+1+1<=S.length by omega)];show ob (bx (a+1+1) (a:Int)) _=_;rw [cQ (show a<=a+1+1 by omega)];have:List.drop a (List.take (a+1+1) S)=[c,d]:=by
      rw [xB,k];have:a+1+1 - a=2:=by omega
      rw [this];rfl
     show some (List.drop a (List.take (a+1+1) S),S,((a+1+1:Nat):Int),e)=_;rw [this];rfl
theorem cutD (r:Nat) (h:r<10):List.drop r (List.take (r+1) ([48,49,50,51,52,53,54,55,56,57]:aa))=[UInt8.ofNat (48+r)]:=by
 have:∀r,r<10->List.drop r (List.take (r+1) ([48,49,50,51,52,53,54,55,56,57]:aa))=[UInt8.ofNat (48+r)]:=by decide
 exact this r h
theorem Ee {k:Nat} (h:k<10):Lib.decDigits k=[UInt8.ofNat (48+k)]:=by
 rw [Lib.decDigits,dif_pos h]
theorem AV {k:Nat} (h:¬k<10) (a:k<100):Lib.decDigits k=[UInt8.ofNat (48+k / 10),UInt8.ofNat (48+k%10)]:=by
 rw [Lib.decDigits,dif_neg h,Ee (by omega)];rfl
theorem KR (n k:Nat) (h:k<100):aK n (k:Int)=some (Lib.decDigits k):=by
 have c:Int.tmod (k:Int) 10=((k%10:Nat):Int):=rfl;have d:Int.tdiv (k:Int) 10=((k / 10:Nat):Int):=rfl;have b:IntKind.wrap .i64 (((k%10:Nat):Int)+1)=((k%10+1:Nat):Int):=by rw [wrap_i64 _ (by omega) (by omega)];omega
 have g:IntKind.wrap .i64 ((k / 10:Nat):Int)=((k / 10:Nat):Int):=wrap_i64 _ (by omega) (by omega);have f:IntKind.wrap .i64 (((k / 10:Nat):Int)+1)=((k / 10+1:Nat):Int):=by rw [wrap_i64 _ (by omega) (by omega)];omega
 simp only [aK,c,d,b,g,f,cQ (show k%10+1<=10 by omega),cQ (show k%10<=k%10+1 by omega),ob,cutD (k%10) (by omega)];by_cases a:k<10
 ·have e:decide ((k:Int)>=10)=false:=ar (by omega);rw [e,af,Ee a,ra a]
 ·have e:decide ((k:Int)>=10)=true:=aq (by omega);rw [e,ah,cQ (show k / 10+1<=10 by omega)];simp only [];rw [cQ (show k / 10<=k / 10+1 by omega)];simp only [cutD (k / 10) (by omega)];rw [dV (by simp),AV a h];rfl
def eo (letter:UInt8) (v:Nat):aa:=if 0<v then letter::Lib.decDigits v else []
theorem Ll {k:Nat} (h:k<100):1<=(Lib.decDigits k).length/\(Lib.decDigits k).length<=2:=by
 by_cases a:k<10
 ·rw [Ee a];simp
 ·rw [AV a h];simp
theorem xe (letter:UInt8) {k:Nat} (h:k<100):(eo letter k).length<=3:=by
 unfold eo;split
 ·have:=Ll h;simp only [aV];omega
 ·simp
theorem kq (g l:Bool) (d:aa) (x s:Nat):kW g l d (x:Int) (s:Int)=(if l then [89] else [])++(if g then [45] else [])++d++eo 69 x++eo 83 s:=by
 unfold kW eo;simp only [bY];have b:(0<(x:Int))=(0<x):=by simp
 have a:(0<(s:Int))=(0<s):=by simp
 simp only [b,a]
theorem QT (n:Nat) (g l:Bool) (d:aa) (x s:Nat) (hx:x<100) (hs:s<100) (o:d.length<=1000):lg n g l d (x:Int) (s:Int)=some (kW g l d (x:Int) (s:Int)):=by
 have m:=Ll hx;have t:=Ll hs;have ex:decide ((x:Int)>0)=decide (0<x):=by simp
 have i:decide ((s:Int)>0)=decide (0<s):=by simp
 have j:∀a:aa,a.length<=1100->(cond (decide (0<x)) (ob (aK n (x:Int)) λr=>(ob (cat ([69]:aa) r) λp=>(cat a p))) (some a))=some (a++eo 69 x):=by
  intro a e;unfold eo;by_cases h:0<x
  ·rw [aq h,ah,ae h,KR n x hx];simp only [ob];rw [dV (by simp;omega)];simp only [];rw [dV (by simp;omega)];rfl
  ·rw [ar h,ab h];simp
 have f:∀a:aa,a.length<=1200->(cond (decide (0<s)) (ob (aK n (s:Int)) λr=>(ob (cat ([83]:aa) r) λp=>(ob (cat a p) λq=>(some q)))) (some a))=some (a++eo 83 s):=by
  intro a e;unfold eo;by_cases h:0<s
  ·rw [aq h,ah,ae h,KR n s hs];simp only [ob];rw [dV (by simp;omega)];simp only [];rw [dV (by simp;omega)];rfl
  ·rw [ar h,ab h];simp
 have b:∀a:aa,a.length<=1100->(cond (decide (0<x)) (ob (aK n (x:Int)) λr=>(ob (cat ([69]:aa) r) λp=>(ob (cat a p) λz=>(cond (decide (0<s)) (ob (aK n (s:Int)) λr=>(ob (cat ([83]:aa) r) λp=>(ob (cat z p) λq=>(some q)))) (some z))))) (cond (decide (0<s)) (ob (aK n (s:Int)) λr=>(ob (cat ([83]:aa) r) λp=>(ob (cat a p) λq=>(some q)))) (some a)))=some (a++eo 69 x++eo 83 s):=by
  intro a e;have c:=j a e;by_cases h:0<x
  ·rw [aq h,ah] at c ⊢;rw [KR n x hx] at c ⊢;simp only [ob] at c ⊢;rw [dV (a:=[69]) (by simp;omega)] at c ⊢;simp only [] at c ⊢;rw [c];simp only [];have:=f (a++eo 69 x) (by have:=xe 69 hx;simp only [bv];omega);simp only [ob] at this;exact this
  ·rw [ar h,af];have k:eo 69 x=[]:=by unfold eo;rw [ab h]
   rw [k,kC];exact f a (by omega)
 rw [kq];unfold lg;rw [ex,i];cases l<;>cases g
 ·rw [af,af,dV (by simp;omega)];exact b d (by omega)
 ·rw [af,ah,dV (by simp;omega)];exact b ([45]++d) (by simp;omega)
 ·rw [ah,af,dV (by simp;omega)];exact b ([89]++d) (by simp;omega)
 ·rw [ah,ah,dV (by simp;omega)];exact b ([89,45]++d) (by simp;omega)
def dc (p:UInt8->Bool) (l:aa):Prop:=∀c,l.head?=some c->p c=false
theorem mJ {k:Nat} (h:k<10):(UInt8.ofNat (48+k)).toNat=48+k:=by
 rw [FB];exact ra (by omega)
theorem EN (letter:UInt8) (v:Nat) (post:aa) (j:v<100) (k:dc bg post) (i:dc (λc=>c==letter) post):numS letter (eo letter v++post)=.inr (v,(eo letter v).length):=by
 unfold eo;by_cases h:0<v
 ·rw [ae h];by_cases d:v<10
  ·rw [Ee d];have b:=mJ d;simp only [eK,dW];rw [nL,ae rfl,pa,ae (by omega)];have a:48+v - 48=v:=by omega
   cases post with
   | nil=>
    rw [uC,b,a];rfl
   | cons e r=>
    have g:¬bg e=true:=by rw [k e rfl];simp
    rw [nX,ab g,b,a];rfl
  ·rw [AV d j];have b:=mJ (show v / 10<10 by omega);have g:=mJ (show v%10<10 by omega);simp only [eK,dW];rw [nL,ae rfl,pa,ae (by omega),nX,ae ((cb _).2 (by omega)),b,g];rw [show 10*(48+v / 10 - 48)+(48+v%10 - 48)=v by omega];rfl
 ·rw [ab h];have f:v=0:=by omega
  subst f;cases post with
  | nil=>rfl
  | cons c r=>
   have hc:c≠letter:=by
    have:=i c rfl;simpa using this
   rw [dW,nL,ab hc];rfl
theorem wZ (letter:UInt8) (l:aa) (v k:Nat) (h:numS letter l=.inr (v,k)):v<100/\l.take k=eo letter v/\k<=l.length:=by
 cases l with
 | nil=>
  simp only [wE,Sum.inr.injEq,bG] at h;obtain ⟨rfl,rfl⟩:=h;exact ⟨by omega,rfl,by simp⟩
 | cons c r=>
  rw [nL] at h;by_cases hc:c=letter
  ·rw [ae hc] at h;cases r with
   | nil=>simp [B6] at h
   | cons d j=>
    rw [pa] at h;by_cases i:49<=d.toNat/\d.toNat<=57
    ·rw [ae i] at h;have g:d.toNat - 48<10:=by omega
     have a:UInt8.ofNat (48+(d.toNat - 48))=d:=by
      apply gD.1;rw [mJ g];omega
     have one:(c::d::j).take 2=eo letter (d.toNat - 48):=by
      unfold eo;rw [ae (by omega),Ee g,a,hc];rfl
     cases j with
     | nil=>
      simp only [uC,Sum.inr.injEq,bG] at h;obtain ⟨rfl,rfl⟩:=h;exact ⟨by omega,one,by simp⟩
     | cons e p=>
      rw [nX] at h;by_cases b:bg e=true
      ·rw [ae b] at h;simp only [Sum.inr.injEq,bG] at h;obtain ⟨rfl,rfl⟩:=h;have o:=(cb e).1 b;refine ⟨by omega,?_,by simp⟩;unfold eo;have n:(10*(d.toNat - 48)+(e.toNat - 48)) / 10=d.toNat - 48:=by omega
       have m:(10*(d.toNat - 48)+(e.toNat - 48))%10=e.toNat - 48:=by omega
       have f:UInt8.ofNat (48+(e.toNat - 48))=e:=by
        apply gD.1;rw [mJ (by omega)];omega
       rw [ae (by omega),AV (by omega) (by omega),n,m,a,f,hc];rfl
      ·rw [ab b] at h;simp only [Sum.inr.injEq,bG] at h;obtain ⟨rfl,rfl⟩:=h;exact ⟨by omega,one,by simp⟩
    ·rw [ab i] at h;cases h
  ·rw [ab hc] at h;simp only [Sum.inr.injEq,bG] at h;obtain ⟨rfl,rfl⟩:=h;exact ⟨by omega,rfl,by simp⟩
theorem xO {p:UInt8->Bool}:∀(r:aa) (k:Nat) (post:aa),(∀c∈r,p c=true)->r.length<=k->(dc p post\/r.length=k)->bE p k (r++post)=r.length
 | [],0,post,_,_,_=>by simp [bE]
 | [],k+1,post,_,_,h=>by
  cases post with
  | nil=>simp [bE]
  | cons c q=>
   rcases h with h | h
   ·have:=h c rfl;simp [bE,this]
   ·simp at h
 | c::r,0,post,_,h,_=>by simp at h
 | c::r,k+1,post,hp,a,h=>by
  have ih:=xO r k post (λd b=>hp d (by simp [b])) (by simpa using a) (by
   rcases h with h | h
   ·exact .inl h
   ·exact .inr (by simpa using h))
  simp only [eK,bE,hp c (by simp),aM,ih,aV]
theorem zC {p:UInt8->Bool}:∀(k:Nat) (l:aa),∀c∈l.take (bE p k l),p c=true
 | 0,l=>by simp [bE]
 | k+1,[]=>by simp [bE]
 | k+1,c::l=>by
  simp only [bE];by_cases h:p c=true
  ·rw [ae h];intro d a;rw [oI,cq] at a;rcases a with rfl | a
   ·exact h
   ·exact zC k l d a
  ·rw [ab h];simp
theorem se {letter:UInt8} {v:Nat} {post:aa} {p:UInt8->Bool} (b:p letter=false) (a:dc p post):dc p (eo letter v++post):=by
 unfold eo;intro c hc;by_cases h:0<v
 ·rw [ae h] at hc;simp only [eK,List.head?_cons,aw] at hc;rw [<-hc];exact b
 ·rw [ab h] at hc;exact a c hc
def isYC (c:UInt8):Bool:=isDX c||c==69||c==83
theorem R7 {l:aa} (h:dc isYC l):dc bg l:=λc hc=>by
 have:=h c hc;unfold isYC isDX at this;simp only [ox] at this;exact this.1.1.1
theorem XS {l:aa} (h:dc isYC l):dc isDX l:=λc hc=>by
 have:=h c hc;unfold isYC at this;simp only [ox] at this;exact this.1.1
theorem XR {l:aa} (h:dc isYC l):dc (λc=>c==69) l:=λc hc=>by
 have:=h c hc;unfold isYC at this;simp only [ox] at this;exact this.1.2
theorem X3 {l:aa} (h:dc isYC l):dc (λc=>c==83) l:=λc hc=>by
 have:=h c hc;unfold isYC at this;simp only [ox] at this;exact this.2
theorem nO (c:UInt8) (l:aa):fA c (c::l)=1:=by rw [kI,ae rfl]
theorem oW {c a:UInt8} (h:a≠c) (l:aa):fA c (a::l)=0:=by rw [kI,ab h]
theorem KO {g l:Bool} {d:aa} {x s:Nat} (h:okY g l d (x:Int) (s:Int)) (post:aa) (hp:dc isYC post):pR (kW g l d (x:Int) (s:Int)++post)=.inr (g,l,d,x,s,(kW g l d (x:Int) (s:Int)).length):=by
 have E:=jf h;have k:numS 83 (eo 83 s++post)=.inr (s,(eo 83 s).length):=EN 83 s post (by omega) (R7 hp) (X3 hp);have m:dc bg (eo 83 s++post):=se (by decide) (R7 hp);have K:dc isDX (eo 83 s++post):=se (by decide) (XS hp);rw [kq];cases l with
 | true=>
  have L:okL d (x:Int) (s:Int):=by simpa [okY] using h
  obtain ⟨⟨b,n,A,z,I,F,M,O⟩,N,C⟩:=L;obtain ⟨c,r,rfl⟩:∃c r,d=c::r:=by
   cases d with
   | nil=>simp at n
   | cons c r=>exact ⟨c,r,rfl⟩
  have u:=(cb c).1 (b c (by simp));have j:49<=c.toNat/\c.toNat<=57:=by
   have:c.toNat≠48:=λe=>z (by rw [show c=48 from gD.1 e];rfl);omega
  have a:c≠45:=by rintro rfl;exact absurd u.1 (by decide)
  have w:numS 69 (eo 69 x++(eo 83 s++post))=.inr (x,(eo 69 x).length):=EN 69 x _ (by omega) m (se (by decide) (XR hp));have i:bE bg 16 (r++(eo 69 x++(eo 83 s++post)))=r.length:=by
   refine xO r 16 _ (λe B=>b e (by simp [B])) (by simp only [aV] at A;omega) (.inl ?_);exact se (by decide) m
  have body:∀o:Nat,uj g o ((c::r)++(eo 69 x++(eo 83 s++post)))=.inr (g,true,c::r,x,s,o+(1+r.length)+(eo 69 x).length+(eo 83 s).length):=by
   intro o;simp only [eK,uj];rw [ae j,i];have G:List.drop (1+r.length) (c::(r++(eo 69 x++(eo 83 s++post))))=eo 69 x++(eo 83 s++post):=by
    rw [oG,pj,Dv rfl]
   have H:List.drop (1+r.length+(eo 69 x).length) (c::(r++(eo 69 x++(eo 83 s++post))))=eo 83 s++post:=by
    rw [show 1+r.length+(eo 69 x).length=(r.length+(eo 69 x).length)+1 by omega,pj,<-fE,Dv (by simp)]
   have J:List.take (1+r.length) (c::(r++(eo 69 x++(eo 83 s++post))))=c::r:=by
    rw [oG,oI,List.take_left' rfl]
   rw [G,w];simp only [];rw [H,k,J]
  unfold pR;cases g with
  | true=>
   simp only [aM,eK,dW,fE];rw [nO,ae rfl,pj,cO,nO];have:=body 2;simp only [eK] at this;simp only [pj,cO,show ((1:Nat)==1)=true from rfl,show 1+1=2 from rfl];rw [this];simp only [aV,bv];congr 6;omega
  | false=>
   simp only [aM,bs,aG,eK,dW,fE];rw [nO,ae rfl,pj,cO,oW a];have:=body 1;simp only [eK] at this;simp only [pj,cO,show ((0:Nat)==1)=false from rfl,cH];rw [this];simp only [aV,bv];congr 6;omega
 | false=>
  have D:okS g d (x:Int) (s:Int):=by simpa [okY] using h
  obtain ⟨b,n,A,z,I,F,M⟩:=D;have v:x=0:=by omega
  subst v;have t:eo 69 0=[]:=rfl;have y:∀c∈d,isDX c=true:=λc hc=>by
   unfold isDX;rcases n c hc with q | q
   ·rw [q];rfl
   ·rw [q];simp
  have i:bE isDX 4 (d++(eo 83 s++post))=d.length:=xO d 4 _ y (by omega) (.inr b);have body:∀o:Nat,vN g o (d++(eo 83 s++post))=.inr (g,false,d,0,s,o+4+(eo 83 s).length):=by
   intro o;unfold vN;rw [i,b,ab (by omega),Dv b,k,List.take_left' b]
  obtain ⟨c,r,rfl⟩:∃c r,d=c::r:=by
   cases d with
   | nil=>simp at b
   | cons c r=>exact ⟨c,r,rfl⟩
  have a:c≠45:=by
   rintro rfl;rcases n 45 (by simp) with q | q
   ·exact absurd ((cb _).1 q).1 (by decide)
   ·exact absurd q (by decide)
  have p:c≠89:=by
   rintro rfl;rcases n 89 (by simp) with q | q
   ·exact absurd ((cb _).1 q).2 (by decide)
   ·exact absurd q (by decide)
  have f:(45:UInt8)≠89:=by decide
  unfold pR;rw [t];cases g with
  | true=>
   simp only [aM,bs,aG,eK,dW,fE];rw [oW f,ab (by decide),nO,pj,cO];have:=body 1;simp only [eK] at this;rw [show ((1:Nat)==1)=true from rfl,this];simp only [aV,bv] at b ⊢;congr 6;omega
  | false=>
   simp only [bs,aG,eK,dW,fE];rw [oW p,ab (by decide),oW a,cO];have:=body 0;simp only [eK] at this;rw [show ((0:Nat)==1)=false from rfl,this];simp only [aV,bv] at b ⊢;congr 6;omega
theorem vd (c:UInt8) (l:aa):l.take (fA c l)=if fA c l=1 then [c] else []:=by
 rcases lE c l with h | h
 ·rw [h];simp
 ·rw [h,ae rfl];unfold fA at h;split at h
  ·assumption
  ·cases h
theorem oZ (l:aa) (i j:Nat):l.take (i+j)=l.take i++(l.drop i).take j:=by
 rw [List.take_add]
theorem qV {l:aa} {g o:Bool} {d:aa} {x s k:Nat} (h:pR l=.inr (g,o,d,x,s,k)):l.take k=kW g o d (x:Int) (s:Int)/\k<=l.length/\x<100/\s<100/\d.length<=17:=by
 rw [kq];unfold pR at h;by_cases f:fA 89 l=1
 ·rw [ae f] at h;have n:=vd 89 l;rw [f,ae rfl] at n;have b:=vd 45 (l.drop 1);have c45:=lE 45 (l.drop 1);generalize E:fA 45 (l.drop 1)=u at *;have a:l.take (1+u)=[89]++(if (u==1)=true then [45] else []):=by
   rw [oZ,n,b];rcases c45 with rfl | rfl<;>rfl
  cases q:l.drop (1+u) with
  | nil=>rw [q] at h;simp [uj] at h
  | cons c r=>
   rw [q] at h;simp only [uj] at h;by_cases hc:49<=c.toNat/\c.toNat<=57
   ·rw [ae hc] at h;have z:=qW bg 16 r;have D:1+bE bg 16 r<=(c::r).length:=by have:=ma bg 16 r;simp only [aV];omega
    generalize G:1+bE bg 16 r=K at *;cases e:numS 69 (List.drop K (c::r)) with
    | inl j=>rw [e] at h;simp at h
    | inr p=>
     obtain ⟨F,j⟩:=p;rw [e] at h;simp only at h;cases m:numS 83 (List.drop (K+j) (c::r)) with
     | inl i=>rw [m] at h;simp at h
     | inr y=>
      obtain ⟨s',i⟩:=y;rw [m] at h;simp only [Sum.inr.injEq,bG] at h;obtain ⟨rfl,rfl,rfl,rfl,rfl,rfl⟩:=h;obtain ⟨a1,a2,C⟩:=wZ _ _ _ _ e;obtain ⟨b1,b2,w⟩:=wZ _ _ _ _ m;rw [bN] at C w;have B:l.length=1+u+(c::r).length:=by
       have:=cD List.length q;rw [bN] at this;simp only [aV] at this ⊢;omega
      refine ⟨?_,by simp only [aV] at *;omega,a1,b1,by rw [cP];omega⟩;rw [show 1+u+K+j+i=(1+u)+(K+(j+i)) by omega,oZ,a,q,oZ _ K,oZ _ j,a2,jm,b2];simp
   ·rw [ab hc] at h;simp at h
 ·rw [ab f] at h;have b:=vd 45 l;have c45:=lE 45 l;generalize E:fA 45 l=u at *;have a:l.take u=(if (u==1)=true then [45] else []):=by
   rw [b];rcases c45 with rfl | rfl<;>rfl
  unfold vN at h;by_cases A:bE isDX 4 (l.drop u)<4
  ·rw [ae A] at h;simp at h
  ·rw [ab A] at h;have t:=ma isDX 4 (l.drop u);rw [bN] at t;cases e:numS 83 (List.drop 4 (l.drop u)) with
   | inl i=>rw [e] at h;simp at h
   | inr y=>
    obtain ⟨s',i⟩:=y;rw [e] at h;simp only [Sum.inr.injEq,bG] at h;obtain ⟨rfl,rfl,rfl,rfl,rfl,rfl⟩:=h;obtain ⟨b1,b2,w⟩:=wZ _ _ _ _ e;rw [bN,bN] at w;refine ⟨?_,by omega,by omega,b1,by rw [cP];omega⟩;rw [show u+4+i=u+(4+i) by omega,oZ,a,oZ _ 4,b2];have v:eo 69 0=[]:=rfl;rw [v];simp
abbrev DR:=Bool×Bool×aa×Nat×Nat×aa×aa×(Nat×Nat×Nat)×(Nat×Nat×Nat)×Nat
def mkE (S:aa) (p:Nat):Nat:=p+mkN (S.drop p)
def rd3 (S:aa) (y:YR) (b d e g h f a:Nat) (c:aa):Nat⊕DR:=
 if twoN (S.drop (mkE S (a+1)))<2 then .inl (mkE S (a+1)+twoN (S.drop (mkE S (a+1))))
 else .inr (y.1,y.2.1,y.2.2.1,y.2.2.2.1,y.2.2.2.2.1,c,(S.drop (mkE S (a+1))).take 2,spM (b,e,mkS (S.drop (a+1))) (d,g,mkS (S.drop (mkE S (a+1)+2))),(h,f,mkE S (a+1)),mkE S (mkE S (a+1)+2))
def rd2 (S:aa) (y:YR) (b d c a:Nat):Nat⊕DR:=
 if twoN (S.drop (mkE S (a+1)))<2 then .inl (mkE S (a+1)+twoN (S.drop (mkE S (a+1))))
 else if fA 45 (S.drop (mkE S (mkE S (a+1)+2)))=0 then .inr (y.1,y.2.1,y.2.2.1,y.2.2.2.1,y.2.2.2.2.1,(S.drop (mkE S (a+1))).take 2,[],spM (b,mkS (S.drop (a+1)),0) (d,mkS (S.drop (mkE S (a+1)+2)),0),(c,mkE S (a+1),0),mkE S (mkE S (a+1)+2))
 else rd3 S y b d (mkS (S.drop (a+1))) (mkS (S.drop (mkE S (a+1)+2))) c (mkE S (a+1)) (mkE S (mkE S (a+1)+2)) ((S.drop (mkE S (a+1))).take 2)
def oe (S:aa) (a:Nat):Nat⊕DR:=match pR (S.drop (mkE S a)) with
 | .inl k=>.inl (mkE S a+k)
 | .inr y=>if 0<y.2.2.2.2.1\/fA 45 (S.drop (mkE S (mkE S a+y.2.2.2.2.2)))=0
  then .inr (y.1,y.2.1,y.2.2.1,y.2.2.2.1,y.2.2.2.2.1,[],[],spM (mkS (S.drop a),0,0) (mkS (S.drop (mkE S a+y.2.2.2.2.2)),0,0),(mkE S a,0,0),mkE S (mkE S a+y.2.2.2.2.2))
  else rd2 S y (mkS (S.drop a)) (mkS (S.drop (mkE S a+y.2.2.2.2.2))) (mkE S a) (mkE S (mkE S a+y.2.2.2.2.2))
def Uc (S:aa):Nat⊕DR->(Int×Int×aa×Int)⊕(Bool×Bool×aa×Int×Int×aa×aa×Int×Int×Int×List Int×aa×Int)
 | .inl k=>.inl ((k:Int),5,S,(k:Int))
 | .inr (g,l,dg,x,s,m,d,M,P,e)=>.inr (g,l,dg,(x:Int),(s:Int),m,d,(M.1:Int),(M.2.1:Int),(M.2.2:Int),l3 P,S,(e:Int))
theorem kR {S:aa} {p:Nat} (h:p<=S.length):mkE S p<=S.length:=by
 have:=VK (S.drop p);rw [bN] at this;unfold mkE;omega
theorem vH {S:aa} {p:Nat} (a:¬twoN (S.drop p)<2):p+2<=S.length:=by
 have:=ma isDX 2 (S.drop p);unfold twoN at a;rw [bN] at this;omega
theorem rR {S:aa} {p:Nat} (h:¬fA 45 (S.drop p)=0):p+1<=S.length:=by
 have:=Cj 45 (S.drop p);rw [bN] at this;omega
theorem Qp (n:Nat) (g l:Bool) (d:aa) (x s:Int) (b a:aa) (k0 k1 k2:Int) (S:aa) (p:Nat) (h:p<=S.length) (e:S.length<100000) (c:S.length<n):
  kh n g l d x s b a k0 k1 k2 S (p:Int)=some (match pR (S.drop p) with
   | .inl k=>.inl (((p+k:Nat):Int),5,g,l,d,x,s,b,a,k0,k1,k2,S,((p+k:Nat):Int))
   | .inr y=>.inr (y.1,y.2.1,y.2.2.1,(y.2.2.2.1:Int),(y.2.2.2.2.1:Int),b,a,k0,k1,k2,S,((p+y.2.2.2.2.2:Nat):Int))):=by
 unfold kh;rw [Vh n S p h e c];cases pR (S.drop p) with
 | inl k=>rfl
 | inr y=>rfl
theorem Qj (n:Nat) (g l:Bool) (d:aa) (x s:Int) (c b:aa) (k0 k1 k2:Int) (S:aa) (p:Nat) (h:p<=S.length) (f:S.length<100000) (e:S.length<n):
  ki n g l d x s c b k0 k1 k2 S (p:Int)=some (if twoN (S.drop p)<2
   then .inl (((p+twoN (S.drop p):Nat):Int),5,g,l,d,x,s,c,b,k0,k1,k2,S,((p+twoN (S.drop p):Nat):Int))
   else .inr (g,l,d,x,s,(S.drop p).take 2,b,k0,k1,k2,S,((p+2:Nat):Int))):=by
 unfold ki;rw [Sl n S p h f e];by_cases a:twoN (S.drop p)<2
 ·rw [ae a,ae a];rfl
 ·rw [ab a,ab a];rfl
theorem PS (n:Nat) (g l:Bool) (d:aa) (x s:Int) (b c:aa) (k0 k1 k2:Int) (S:aa) (p:Nat) (h:p<=S.length) (f:S.length<100000) (e:S.length<n):
  kl n g l d x s b c k0 k1 k2 S (p:Int)=some (if twoN (S.drop p)<2
   then .inl (((p+twoN (S.drop p):Nat):Int),5,g,l,d,x,s,b,c,k0,k1,k2,S,((p+twoN (S.drop p):Nat):Int))
   else .inr (g,l,d,x,s,b,(S.drop p).take 2,k0,k1,k2,S,((p+2:Nat):Int))):=by
 unfold kl;rw [Sl n S p h f e];by_cases a:twoN (S.drop p)<2
 ·rw [ae a,ae a];rfl
 ·rw [ab a,ab a];rfl
theorem J8 (m:Nat) (S:aa) (a:Nat) (h:a<=S.length) (j:S.length<100000) (E:S.length<m+300):
  iZ (m+300) S (a:Int)=some (Uc S (oe S a)):=by
 have n:∀p,p<=S.length->cM (m+300) S (p:Int)=some (.inr (((mkS (S.drop p):Nat):Int),S,((mkE S p:Nat):Int))):=λp hp=>UC m S p hp j;have b:∀p,mkS (S.drop p)<4:=λp=>C2 _;have t:∀p q,eN (m+300) [((mkS (S.drop p):Nat):Int),0,0] [((mkS (S.drop q):Nat):Int),0,0] 1=some (l3 (spM (mkS (S.drop p),0,0) (mkS (S.drop q),0,0)),0):=λp q=>
  xL (m+300) (by omega) 1 (mkS (S.drop p),0,0) (mkS (S.drop q),0,0) (by omega) ⟨b p,by simp,by simp,by simp,by simp⟩ ⟨b q,by simp,by simp,by simp,by simp⟩
 have C:∀p q f d,eN (m+300) [((mkS (S.drop p):Nat):Int),((mkS (S.drop f):Nat):Int),0] [((mkS (S.drop q):Nat):Int),((mkS (S.drop d):Nat):Int),0] 2=some (l3 (spM (mkS (S.drop p),mkS (S.drop f),0) (mkS (S.drop q),mkS (S.drop d),0)),0):=λp q f d=>
  xL (m+300) (by omega) 2 (mkS (S.drop p),mkS (S.drop f),0) (mkS (S.drop q),mkS (S.drop d),0) (by omega) ⟨b p,b f,by simp,by simp,by simp⟩ ⟨b q,b d,by simp,by simp,by simp⟩
 have D:∀p q f d c e,eN (m+300) [((mkS (S.drop p):Nat):Int),((mkS (S.drop f):Nat):Int),((mkS (S.drop c):Nat):Int)] [((mkS (S.drop q):Nat):Int),((mkS (S.drop d):Nat):Int),((mkS (S.drop e):Nat):Int)] 3=some (l3 (spM (mkS (S.drop p),mkS (S.drop f),mkS (S.drop c)) (mkS (S.drop q),mkS (S.drop d),mkS (S.drop e))),0):=λp q f d c e=>
  xL (m+300) (by omega) 3 (mkS (S.drop p),mkS (S.drop f),mkS (S.drop c)) (mkS (S.drop q),mkS (S.drop d),mkS (S.drop e)) (by omega) ⟨b p,b f,b c,by simp,by simp⟩ ⟨b q,b d,b e,by simp,by simp⟩
 have b0:=kR h;unfold iZ oe;rw [n a h];simp only [ob,ED];rw [Qp _ _ _ _ _ _ _ _ _ _ _ S (mkE S a) b0 j E];cases G:pR (S.drop (mkE S a)) with
 | inl k=>rfl
 | inr y=>
  obtain ⟨g,l,dg,x,s,k⟩:=y;have bk:mkE S a+k<=S.length:=by
   have:=(qV G).2.1;rw [bN] at this;omega
  have b1:=kR bk;simp only [ob,d4,d8];rw [n (mkE S a+k) bk];simp only [ob];by_cases hs:0<s
  ·have:decide (((s:Nat):Int)>0)=true:=by simp;omega
   rw [this,ae (.inl hs)];simp only [ah];rw [t];rfl
  ·have:decide (((s:Nat):Int)>0)=false:=by simp;omega
   rw [this];simp only [af];rw [uL (m+300) 45 S _ b1 j];simp only [ob];by_cases o:fA 45 (S.drop (mkE S (mkE S a+k)))=0
   ·rw [ae (.inr o),o];simp only [show ((0:Nat)==1)=false from rfl,jA,ah,cH];rw [t];rfl
   ·have F:fA 45 (S.drop (mkE S (mkE S a+k)))=1:=(lE 45 _).resolve_left o;have A:=rR o;rw [ab (λz=>z.elim hs o),F];simp only [show ((1:Nat)==1)=true from rfl,dn,af];unfold rd2;rw [n _ A];simp only [ob];have I:=kR A;rw [Qj _ _ _ _ _ _ _ _ _ _ _ S _ I j E];by_cases w:twoN (S.drop (mkE S (mkE S (mkE S a+k)+1)))<2
    ·rw [ae w,ae w];rfl
    ·rw [ab w,ab w];have b2:=vH w;simp only [ob,d4,d8];rw [n _ b2];simp only [ob];rw [this];simp only [af];have H:=kR b2;rw [uL (m+300) 45 S _ H j];simp only [ob];by_cases i:fA 45 (S.drop (mkE S (mkE S (mkE S (mkE S a+k)+1)+2)))=0
     ·rw [ae i,i];simp only [show ((0:Nat)==1)=false from rfl,jA,ah,cH];rw [C];rfl
     ·have v:=(lE 45 (S.drop (mkE S (mkE S (mkE S (mkE S a+k)+1)+2)))).resolve_left i;have u:=rR i;rw [ab i,v];simp only [show ((1:Nat)==1)=true from rfl,dn,af];unfold rd3;rw [n _ u];simp only [ob];have B:=kR u;rw [PS _ _ _ _ _ _ _ _ _ _ _ S _ B j E];by_cases r:twoN (S.drop (mkE S (mkE S (mkE S (mkE S (mkE S a+k)+1)+2)+1)))<2
      ·rw [ae r,ae r];rfl
      ·rw [ab r,ab r];have J:=vH r;simp only [ob,d4,d8];rw [n _ J];simp only [ob];rw [D];rfl
def VA (S:aa) (P:List Int):Nat⊕DR->Bool×Bool×aa×Int×Int×aa×aa×Int×Int×Int×List Int×aa×Int×Int
 | .inl k=>(false,false,[],0,0,[],[],0,0,0,P,S,(k:Int),5)
 | .inr (g,l,dg,x,s,m,d,M,Q,e)=>(g,l,dg,(x:Int),(s:Int),m,d,(M.1:Int),(M.2.1:Int),(M.2.2:Int),l3 Q,S,(e:Int),0)
abbrev RdSt:=aa×Int×Int×List Int×Bool×Bool×aa×Int×Int×aa×aa×List Int×List Int×List Int×aa×Int×Int
def rdSt (S:aa) (i:Int) (g l:Bool) (dg:aa) (x s:Int) (b a:aa) (P A B:List Int) (p:Nat):RdSt:=
 (S,i,i,[0,0,0],g,l,dg,x,s,b,a,P,A,B,S,(p:Int),0)
theorem YA (m:Nat) (S:aa) (a:Nat) (h:a<=S.length) (b:S.length<100000) (d:S.length<m+300):
  br (m+300) (rdSt S 0 false false [] 0 0 [] [] [0,0,0] [0,0,0] [0,0,0] a)=some (match pR (S.drop (mkE S a)) with
   | .inl k=>.inr (.inr (false,false,[],0,0,[],[],0,0,0,[((mkE S a:Nat):Int),0,0],S,((mkE S a+k:Nat):Int),5))
   | .inr y=>.inl (rdSt S 1 y.1 y.2.1 y.2.2.1 (y.2.2.2.1:Int) (y.2.2.2.2.1:Int) [] [] [((mkE S a:Nat):Int),0,0] [((mkS (S.drop a):Nat):Int),0,0] [((mkS (S.drop (mkE S a+y.2.2.2.2.2)):Nat):Int),0,0] (mkE S (mkE S a+y.2.2.2.2.2)))):=by
 have c:∀p,p<=S.length->fJ (m+300) S (p:Int) 0=some (((mkS (S.drop p):Nat):Int),S,((mkE S p:Nat):Int),0):=λp hp=>Bq m S p hp b 0;have b0:=kR h;unfold br rdSt;simp only [d4,d8,d16,iD,show (decide ((0:Int)<3))=true from rfl,show (decide ((0:Int)>0))=false from rfl,ah,af,ob];rw [c a h];simp only [ob,show ix 3 0=some 0 from rfl,show Nat.blt 0 3=true from rfl,ah,iE,show ((0:Int)==0)=true from rfl];rw [Pj (m+300) S (mkE S a) b0 b d];cases e:pR (S.drop (mkE S a)) with
 | inl k=>rfl
 | inr y=>
  obtain ⟨g,l,dg,x,s,k⟩:=y;have bk:mkE S a+k<=S.length:=by
   have:=(qV e).2.1;rw [bN] at this;omega
  simp only [pw,ob,d4,d8,d16,show ((0:Int) != 0)=false from rfl,af];rw [c _ bk];rfl
theorem XO (m:Nat) (S:aa) (g l:Bool) (dg:aa) (x s:Nat) (e f k:Int) (q:Nat) (h:q<=S.length) (r:S.length<100000) (t:S.length<m+300):
  br (m+300) (rdSt S 1 g l dg (x:Int) (s:Int) [] [] [e,0,0] [f,0,0] [k,0,0] q)=some (
   if 0<s\/fA 45 (S.drop q)=0 then .inr (.inl (1,false,false,[],0,0,[],[],0,0,0,[0,0,0],[],0,0,g,l,dg,(x:Int),(s:Int),[],[],0,0,0,[e,0,0],[f,0,0],[k,0,0],S,(q:Int),0))
   else if twoN (S.drop (mkE S (q+1)))<2 then .inr (.inr (false,false,[],0,0,[],[],0,0,0,[e,((mkE S (q+1):Nat):Int),0],S,((mkE S (q+1)+twoN (S.drop (mkE S (q+1))):Nat):Int),5))
   else .inl (rdSt S 2 g l dg (x:Int) (s:Int) ((S.drop (mkE S (q+1))).take 2) [] [e,((mkE S (q+1):Nat):Int),0] [f,((mkS (S.drop (q+1)):Nat):Int),0] [k,((mkS (S.drop (mkE S (q+1)+2)):Nat):Int),0] (mkE S (mkE S (q+1)+2)))):=by
 have o:∀p,p<=S.length->fJ (m+300) S (p:Int) 0=some (((mkS (S.drop p):Nat):Int),S,((mkE S p:Nat):Int),0):=λp hp=>Bq m S p hp r 0;unfold br rdSt;simp only [d4,d8,d16,iD,kw,show (decide ((1:Int)<3))=true from rfl,show (decide ((1:Int)>0))=true from rfl,ah,af,ob,lP];by_cases hs:0<s
 ·have:decide (((s:Nat):Int)>0)=true:=by simp;omega
  rw [this,ae (.inl hs)];rfl
 ·have:decide (((s:Nat):Int)>0)=false:=by simp;omega
  rw [this];simp only [af];rcases aI q S.length with j | n
  ·obtain ⟨c,hc⟩:∃c,S[q]?=some c:=⟨S[q],aW j⟩;have b:decide (S.length<=q)=false:=by simp;omega
   rw [b];simp only [af,eF hc,ob];have i:(((c.toNat:Nat):Int) != 45)=!(c==45):=by rw [bne];congr 1;exact nQ c 45
   rw [i,ct hc,kI];by_cases a:c=45
   ·have w:IntKind.wrap .i64 ((q:Int)+1)=((q+1:Nat):Int):=by rw [wrap_i64 _ (by omega) (by omega)];omega
    rw [ae a,ab (show ¬(0<s\/(1:Nat)=0) from λz=>z.elim hs (by omega)),a];simp only [vK,dn,af,ob,w];rw [o _ (by omega)];simp only [ob,show ix 3 1=some 1 from rfl,show Nat.blt 1 3=true from rfl,ah,iE,kz,show ((1:Int)==0)=false from rfl,show ((1:Int)==1)=true from rfl,af];have b1:=kR (show q+1<=S.length by omega);rw [NY (m+300) (by omega) S _ b1 r 0];by_cases d:twoN (S.drop (mkE S (q+1)))<2
    ·rw [ae d,ae d];rfl
    ·rw [ab d,ab d];simp only [ob,d4,d8,d16,show ((0:Int) != 0)=false from rfl,af];rw [o _ (vH d)];rfl
   ·have:(c==45)=false:=aJ.2 a;rw [ab a,ae (.inr rfl),this];rfl
  ·have b:decide (S.length<=q)=true:=by simp;omega
   rw [b,jk n,wL,ae (.inr rfl)];rfl
theorem X5 (m:Nat) (S:aa) (g l:Bool) (dg:aa) (x s:Nat) (n:aa) (e i o f t u:Int) (q:Nat) (h:q<=S.length) (y:S.length<100000) (z:S.length<m+300) (hs:¬0<s):
  br (m+300) (rdSt S 2 g l dg (x:Int) (s:Int) n [] [e,f,0] [i,t,0] [o,u,0] q)=some (
   if fA 45 (S.drop q)=0 then .inr (.inl (2,false,false,[],0,0,[],[],0,0,0,[0,0,0],[],0,0,g,l,dg,(x:Int),(s:Int),n,[],0,0,0,[e,f,0],[i,t,0],[o,u,0],S,(q:Int),0))
   else if twoN (S.drop (mkE S (q+1)))<2 then .inr (.inr (false,false,[],0,0,[],[],0,0,0,[e,f,((mkE S (q+1):Nat):Int)],S,((mkE S (q+1)+twoN (S.drop (mkE S (q+1))):Nat):Int),5))
   else .inl (rdSt S 3 g l dg (x:Int) (s:Int) n ((S.drop (mkE S (q+1))).take 2) [e,f,((mkE S (q+1):Nat):Int)] [i,t,((mkS (S.drop (q+1)):Nat):Int)] [o,u,((mkS (S.drop (mkE S (q+1)+2)):Nat):Int)] (mkE S (mkE S (q+1)+2)))):=by
 have v:∀p,p<=S.length->fJ (m+300) S (p:Int) 0=some (((mkS (S.drop p):Nat):Int),S,((mkE S p:Nat):Int),0):=λp hp=>Bq m S p hp y 0;unfold br rdSt;simp only [d4,d8,d16,iD,kw,show (decide ((2:Int)<3))=true from rfl,show (decide ((2:Int)>0))=true from rfl,ah,af,ob,lP];have:decide (((s:Nat):Int)>0)=false:=by simp;omega
 rw [this];simp only [af];rcases aI q S.length with k | r
 ·obtain ⟨c,hc⟩:∃c,S[q]?=some c:=⟨S[q],aW k⟩;have b:decide (S.length<=q)=false:=by simp;omega
  rw [b];simp only [af,eF hc,ob];have j:(((c.toNat:Nat):Int) != 45)=!(c==45):=by rw [bne];congr 1;exact nQ c 45
  rw [j,ct hc,kI];by_cases a:c=45
  ·have w:IntKind.wrap .i64 ((q:Int)+1)=((q+1:Nat):Int):=by rw [wrap_i64 _ (by omega) (by omega)];omega
   rw [ae a,ab (show ¬((1:Nat)=0) by omega),a];simp only [vK,dn,af,ob,w];rw [v _ (by omega)];simp only [ob,show ix 3 2=some 2 from rfl,show Nat.blt 2 3=true from rfl,ah,iE,kz,show ((2:Int)==0)=false from rfl,show ((2:Int)==1)=false from rfl,af];have b1:=kR (show q+1<=S.length by omega);rw [NY (m+300) (by omega) S _ b1 y 0];by_cases d:twoN (S.drop (mkE S (q+1)))<2
   ·rw [ae d,ae d];rfl
   ·rw [ab d,ab d];simp only [ob,d4,d8,d16,show ((0:Int) != 0)=false from rfl,af];rw [v _ (vH d)];rfl
  ·have:(c==45)=false:=aJ.2 a;rw [ab a,ae rfl,this];rfl
 ·have b:decide (S.length<=q)=true:=by simp;omega
  rw [b,jk r,wL,ae rfl];rfl
theorem FL (m:Nat) (S:aa) (a:Nat) (h:a<=S.length) (t:S.length<100000) (w:S.length<m+300):
  ∃P:List Int,P.length=3/\nM (m+300) S (a:Int)=some (VA S P (oe S a)):=by
 have b:∀p,mkS (S.drop p)<4:=λp=>C2 _;have u:∀p q,fG (m+300) [((mkS (S.drop p):Nat):Int),0,0] [((mkS (S.drop q):Nat):Int),0,0] 1=some (l3 (spM (mkS (S.drop p),0,0) (mkS (S.drop q),0,0))):=λp q=>
  vb (m+300) (by omega) 1 (mkS (S.drop p),0,0) (mkS (S.drop q),0,0) (by omega) ⟨b p,by simp,by simp,by simp,by simp⟩ ⟨b q,by simp,by simp,by simp,by simp⟩
 have o:∀p q f d,fG (m+300) [((mkS (S.drop p):Nat):Int),((mkS (S.drop f):Nat):Int),0] [((mkS (S.drop q):Nat):Int),((mkS (S.drop d):Nat):Int),0] 2=some (l3 (spM (mkS (S.drop p),mkS (S.drop f),0) (mkS (S.drop q),mkS (S.drop d),0))):=λp q f d=>
  vb (m+300) (by omega) 2 (mkS (S.drop p),mkS (S.drop f),0) (mkS (S.drop q),mkS (S.drop d),0) (by omega) ⟨b p,b f,by simp,by simp,by simp⟩ ⟨b q,b d,by simp,by simp,by simp⟩
 have r:∀p q f d c e,fG (m+300) [((mkS (S.drop p):Nat):Int),((mkS (S.drop f):Nat):Int),((mkS (S.drop c):Nat):Int)] [((mkS (S.drop q):Nat):Int),((mkS (S.drop d):Nat):Int),((mkS (S.drop e):Nat):Int)] 3=some (l3 (spM (mkS (S.drop p),mkS (S.drop f),mkS (S.drop c)) (mkS (S.drop q),mkS (S.drop d),mkS (S.drop e)))):=λp q f d c e=>
  vb (m+300) (by omega) 3 (mkS (S.drop p),mkS (S.drop f),mkS (S.drop c)) (mkS (S.drop q),mkS (S.drop d),mkS (S.drop e)) (by omega) ⟨b p,b f,b c,by simp,by simp⟩ ⟨b q,b d,b e,by simp,by simp⟩
 have b0:=kR h;unfold nM oe;show ∃P:List Int,P.length=3/\ob (av (br (m+300)) (m+299+1) (rdSt S 0 false false [] 0 0 [] [] [0,0,0] [0,0,0] [0,0,0] a)) _=_;rw [av,YA m S a h t w];cases H:pR (S.drop (mkE S a)) with
 | inl k=>(refine ⟨_,?_,rfl⟩;rfl)
 | inr y=>
  obtain ⟨g,l,dg,x,s,k⟩:=y;have bk:mkE S a+k<=S.length:=by
   have:=(qV H).2.1;rw [bN] at this;omega
  have b1:=kR bk;show ∃P:List Int,P.length=3/\ob (av (br (m+300)) (m+298+1) (rdSt S 1 g l dg (x:Int) (s:Int) [] [] [((mkE S a:Nat):Int),0,0] [((mkS (S.drop a):Nat):Int),0,0] [((mkS (S.drop (mkE S a+k)):Nat):Int),0,0] (mkE S (mkE S a+k)))) _=_;rw [av,XO m S g l dg x s _ _ _ _ b1 t w];simp only [];by_cases hc:0<s\/fA 45 (S.drop (mkE S (mkE S a+k)))=0
  ·rw [ae hc,ae hc];refine ⟨[0,0,0],rfl,?_⟩;simp only [ob,d4,d8,d16];rw [u];rfl
  ·rw [ab hc,ab hc];have hs:¬0<s:=λz=>hc (.inl z);have C:=rR (λz=>hc (.inr z));have J:=kR C;unfold rd2;by_cases j:twoN (S.drop (mkE S (mkE S (mkE S a+k)+1)))<2
   ·rw [ae j,ae j];(refine ⟨_,?_,rfl⟩;rfl)
   ·rw [ab j,ab j];have b2:=vH j;have I:=kR b2;show ∃P:List Int,P.length=3/\ob (av (br (m+300)) (m+297+1) (rdSt S 2 g l dg (x:Int) (s:Int) _ [] [_,_,0] [_,_,0] [_,_,0] (mkE S (mkE S (mkE S (mkE S a+k)+1)+2)))) _=_;rw [av,X5 m S g l dg x s _ _ _ _ _ _ _ _ I t w hs];by_cases i:fA 45 (S.drop (mkE S (mkE S (mkE S (mkE S a+k)+1)+2)))=0
    ·rw [ae i,ae i];refine ⟨[0,0,0],rfl,?_⟩;simp only [ob,d4,d8,d16];rw [o];rfl
    ·rw [ab i,ab i];have v:=rR i;have F:=kR v;unfold rd3;by_cases n:twoN (S.drop (mkE S (mkE S (mkE S (mkE S (mkE S a+k)+1)+2)+1)))<2
     ·rw [ae n,ae n];(refine ⟨_,?_,rfl⟩;rfl)
     ·rw [ab n,ab n];have G:∀(E D:aa) (P A B:List Int) (p:Nat),br (m+300) (rdSt S 3 g l dg (x:Int) (s:Int) E D P A B p)=some (.inr (.inl (3,false,false,[],0,0,[],[],0,0,0,[0,0,0],[],0,0,g,l,dg,(x:Int),(s:Int),E,D,0,0,0,P,A,B,S,(p:Int),0))):=λ_ _ _ _ _ _=>rfl;show ∃P:List Int,P.length=3/\ob (av (br (m+300)) (m+296+1) (rdSt S 3 g l dg (x:Int) (s:Int) _ _ _ _ _ _)) _=_;rw [av,G];refine ⟨[0,0,0],rfl,?_⟩;simp only [ob,d4,d8,d16];rw [r];rfl
theorem UX (n a:Nat) (q:a<65536):∃d,li n (a:Int)=some d/\d.length=4/\∀c∈d,bg c=true:=by
 have j:Int.tmod (a:Int) 10000=((a%10000:Nat):Int):=rfl;have k:a%10000<10000:=rB _ (by decide);generalize a%10000=N at *;have p:Int.tdiv (N:Int) 1000=((N / 1000:Nat):Int):=rfl;have i:Int.tdiv (N:Int) 100=((N / 100:Nat):Int):=rfl;have o:Int.tdiv (N:Int) 10=((N / 10:Nat):Int):=rfl;have f:IntKind.wrap .u16 ((N / 1000:Nat):Int)=((N / 1000:Nat):Int):=wo _ (by omega) (by omega);have m:IntKind.wrap .u16 ((N / 100:Nat):Int)=((N / 100:Nat):Int):=wo _ (by omega) (by omega);have l:IntKind.wrap .u16 ((N / 10:Nat):Int)=((N / 10:Nat):Int):=wo _ (by omega) (by omega);have m2:Int.tmod ((N / 100:Nat):Int) 10=((N / 100%10:Nat):Int):=rfl;have h:Int.tmod ((N / 10:Nat):Int) 10=((N / 10%10:Nat):Int):=rfl;have g:Int.tmod (N:Int) 10=((N%10:Nat):Int):=rfl;have s:∀r:Nat,r<10->IntKind.wrap .u16 ((r:Int)+1)=((r+1:Nat):Int):=λr e=>by rw [wo _ (by omega) (by omega)];omega
 refine ⟨[UInt8.ofNat (48+N / 1000),UInt8.ofNat (48+N / 100%10),UInt8.ofNat (48+N / 10%10),UInt8.ofNat (48+N%10)],?_,rfl,?_⟩
 ·simp only [li,j,p,i,o,f,m,l,m2,h,g,s (N / 1000) (by omega),s (N / 100%10) (by omega),s (N / 10%10) (by omega),s (N%10) (by omega),cQ (show N / 1000+1<=10 by omega),cQ (show N / 1000<=N / 1000+1 by omega),cQ (show N / 100%10+1<=10 by omega),cQ (show N / 100%10<=N / 100%10+1 by omega),cQ (show N / 10%10+1<=10 by omega),cQ (show N / 10%10<=N / 10%10+1 by omega),cQ (show N%10+1<=10 by omega),cQ (show N%10<=N%10+1 by omega),ob,cutD (N / 1000) (by omega),cutD (N / 100%10) (by omega),cutD (N / 10%10) (by omega),cutD (N%10) (by omega)];rw [dV (by simp)];simp only [];rw [dV (by simp)];simp only [];rw [dV (by simp)];rfl
 ·have b:∀r:Nat,r<10->bg (UInt8.ofNat (48+r))=true:=λr e=>(cb _).2 (by rw [mJ e];omega);simp only [cq,oL,qe,CN,forall_eq];exact ⟨b _ (by omega),b _ (by omega),b _ (by omega),b _ (by omega)⟩
theorem xY (n:Nat) (g l:Bool) (d:aa) (x s:Int) (c:200<n) (e:d.length<=100) (h:okY false l d x s):∃b,(ob (cN n g l d x s) λr=>(cond (r==0) (some (false,l,d,x,s)) (some (g,l,d,x,s))))=some (b,l,d,x,s)/\okY b l d x s:=by
 rw [ET n g l d x s c e];by_cases a:okY g l d x s
 ·rw [ae a];exact ⟨g,rfl,a⟩
 ·rw [ab a];exact ⟨false,rfl,h⟩
theorem yi {d:aa} {s:Int} (b:d.length=4) (a:∀c∈d,bg c=true\/c=88) (f:0<=s) (g:s<=4) (e:¬(0<s/\hasX d=true)):okY false false d 0 s:=by
 have:okS false d 0 s:=⟨b,a,rfl,by simp,f,g,e⟩;simpa [okY] using this
theorem SX (n:Nat) (a b:Int) (g:Bool) (d:aa) (B:d.length=4) (u:∀c∈d,bg c=true) (A:4<n):
  ∃s:aa,av (gg n) n (a,b,[],0,false,false,[],0,0,g,false,d,0,0)=some (s,false,false,[],0,0,g,false,d,0,0)/\s.length=4/\∀c∈s,bg c=true\/c=88:=by
 obtain ⟨y,t,s,r,v,w⟩:=pH (step:=gg n) (λx=>∃(i:Nat) (s:aa),i<=4/\s.length=i/\(∀c∈s,bg c=true\/c=88)/\x=(a,b,s,(i:Int),false,false,[],0,0,g,false,d,0,0)) (λx=>4 - x.2.2.2.1.toNat) (λy=>∃s:aa,y=(s,false,false,[],0,0,g,false,d,0,0)/\s.length=4/\∀c∈s,bg c=true\/c=88) (by
  rintro x ⟨i,s,hi,hs,hc,rfl⟩;rcases aI i 4 with j | p
  ·obtain ⟨c,f⟩:∃c,d[i]?=some c:=⟨d[i],aW (by omega)⟩;have o:decide ((i:Int)<4)=true:=aq (by omega);have l:IntKind.wrap .i64 ((i:Int)+1)=((i+1:Nat):Int):=by rw [wrap_i64 _ (by omega) (by omega)];omega
   have next:∀e:UInt8,(bg e=true\/e=88)->∃k,some (Sum.inl (a,b,s++[e],((i+1:Nat):Int),false,false,([]:aa),(0:Int),(0:Int),g,false,d,(0:Int),(0:Int)))=some (Sum.inl (β:=aa×Bool×Bool×aa×Int×Int×Bool×Bool×aa×Int×Int) k)/\(∃(i:Nat) (s:aa),i<=4/\s.length=i/\(∀c∈s,bg c=true\/c=88)/\k=(a,b,s,(i:Int),false,false,[],0,0,g,false,d,0,0))/\4 - k.2.2.2.1.toNat<4 - i:=by
    intro e m;refine ⟨_,rfl,⟨i+1,s++[e],j,by simp [hs],?_,rfl⟩,by simp only [bY];omega⟩;intro z h;rcases lk.1 h with q | q
    ·exact hc z q
    ·simp only [cq,oL,qe] at q;rw [q];exact m
   simp only [gg,o,ah,l,bY,cQ (show i+1<=d.length by omega),cQ (show i<=i+1 by omega),ob,cut1 f];rw [dV (a:=s) (b:=[88]) (by simp;omega),dV (a:=s) (b:=[c]) (by simp;omega)];simp only [];left;cases ((i:Int)==a)
   ·cases ((i:Int)==b)
    ·exact next c (.inl (u c (eW f)))
    ·exact next 88 (.inr rfl)
   ·exact next 88 (.inr rfl)
  ·have:i=4:=by omega
   subst this;exact .inr ⟨_,rfl,s,rfl,hs,hc⟩) n (a,b,[],0,false,false,[],0,0,g,false,d,0,0) ⟨0,[],by omega,rfl,by simp,rfl⟩ (by simp;omega)
 exact ⟨s,by rw [t,r],v,w⟩
theorem cut9 (r:Nat) (h:r<9):List.drop r (List.take (r+1) ([49,50,51,52,53,54,55,56,57]:aa))=[UInt8.ofNat (49+r)]:=by
 have:∀r,r<9->List.drop r (List.take (r+1) ([49,50,51,52,53,54,55,56,57]:aa))=[UInt8.ofNat (49+r)]:=by decide
 exact this r h
theorem IA {d:aa} {x s:Nat} (b:∀c∈d,bg c=true) (f:1<=d.length) (n:d.length<=5) (i:d.head?≠some 48) (g:x<=11) (j:x=0->d.length=5) (l:s<=d.length+x):okY false true d (x:Int) (s:Int):=by
 have a:=re d 0 0 b (by simp);have hp:(10:Nat) ^ (d.length+0)<=10 ^ 5:=ll (by decide) (by omega);have h:(10:Nat) ^ x<=10 ^ 11:=ll (by decide) g;have m:=yc (Nat.le_of_lt (oU a hp)) h;have e:(10:Nat) ^ 5*10 ^ 11=E16:=by decide
 have:okL d (x:Int) (s:Int):=⟨⟨b,f,by omega,i,by omega,by omega,by rintro ⟨o,k⟩;have:=j (by omega);omega,by simp only [bY];omega⟩,by omega,by omega⟩;simpa [okY] using this
theorem Ks (m a0 a2 a b:Nat) (g:Bool) (h2:a2<65536) (Y:a<256) (h4:b<256):∃f l d x s,jC (m+300) (a0:Int) g (a2:Int) (a:Int) (b:Int)=some (f,l,d,x,s)/\okY f l d x s/\d.length<=5/\x<=11/\(a0%6≠3->hasX d=false):=by
 obtain ⟨d,J,k,j⟩:=UX (m+300) a2 h2;have A:∀c∈d,bg c=true\/c=88:=λc hc=>.inl (j c hc);have u:=uF j;unfold jC;rw [J];simp only [ob];cases T:(Int.tmod (a0:Int) 6==3) with
 | true=>
  simp only [ah];obtain ⟨s,I,B,V⟩:=SX (m+300) (IntKind.wrap .i64 (Int.tmod (a:Int) 4)) (IntKind.wrap .i64 (Int.tmod (b:Int) 4)) g d k j (by omega);rw [I];obtain ⟨f,h,i⟩:=xY (m+300) g false s 0 0 (by omega) (by omega) (yi B V (by omega) (by omega) (by omega))
  exact ⟨f,false,s,0,0,h,i,by omega,by omega,λY=>absurd (by
   have e:=bp.1 T;have e2:Int.tmod (a0:Int) 6=((a0%6:Nat):Int):=rfl;omega) Y⟩
 | false=>
  simp only [af];cases (Int.tmod (a0:Int) 6==4) with
  | true=>
   simp only [ah];have e:Int.tmod (a:Int) 4=((a%4:Nat):Int):=rfl;have Z:IntKind.wrap .i64 ((a%4:Nat):Int)=((a%4:Nat):Int):=wrap_i64 _ (by omega) (by omega);have w2:IntKind.wrap .i64 (1+((a%4:Nat):Int))=((1+a%4:Nat):Int):=by rw [wrap_i64 _ (by omega) (by omega)];omega
   rw [e,Z,w2];obtain ⟨f,h,i⟩:=xY (m+300) g false d 0 ((1+a%4:Nat):Int) (by omega) (by omega) (yi k A (by omega) (by omega) (by rw [u];simp));exact ⟨f,false,d,0,_,h,i,by omega,by omega,λ_=>u⟩
  | false=>
   simp only [af];cases (Int.tmod (a0:Int) 6==5) with
   | false=>
    simp only [af];obtain ⟨f,h,i⟩:=xY (m+300) g false d 0 0 (by omega) (by omega) (yi k A (by omega) (by omega) (by omega));exact ⟨f,false,d,0,0,h,i,by omega,by omega,λ_=>u⟩
   | true=>
    simp only [ah];have e9:Int.tmod (a:Int) 9=((a%9:Nat):Int):=rfl;have w9:IntKind.wrap .u8 (((a%9:Nat):Int)+1)=((a%9+1:Nat):Int):=by rw [fL _ (by omega) (by omega)];omega
    have e3:Int.tmod (b:Int) 3=((b%3:Nat):Int):=rfl;have e5:Int.tmod (b:Int) 5=((b%5:Nat):Int):=rfl;have w5:IntKind.wrap .u8 (1+((b%5:Nat):Int))=((1+b%5:Nat):Int):=by rw [fL _ (by omega) (by omega)];omega
    have U:Int.tdiv (b:Int) 16=((b / 16:Nat):Int):=rfl;have O:IntKind.wrap .u8 ((b / 16:Nat):Int)=((b / 16:Nat):Int):=fL _ (by omega) (by omega);have R:Int.tmod ((b / 16:Nat):Int) 11=((b / 16%11:Nat):Int):=rfl;have H:IntKind.wrap .i64 ((b / 16%11:Nat):Int)=((b / 16%11:Nat):Int):=wrap_i64 _ (by omega) (by omega);have L:IntKind.wrap .i64 (1+((b / 16%11:Nat):Int))=((1+b / 16%11:Nat):Int):=by rw [wrap_i64 _ (by omega) (by omega)];omega
    have G:Int.tdiv (a:Int) 16=((a / 16:Nat):Int):=rfl;have S:IntKind.wrap .u8 ((a / 16:Nat):Int)=((a / 16:Nat):Int):=fL _ (by omega) (by omega);have C:IntKind.wrap .i64 ((a / 16:Nat):Int)=((a / 16:Nat):Int):=wrap_i64 _ (by omega) (by omega);have N:UInt8.ofNat (49+a%9)≠48:=by
     intro q;have:=cD UInt8.toNat q;rw [show 49+a%9=48+(1+a%9) by omega,mJ (by omega)] at this;exact absurd this (by show ¬48+(1+a%9)=48;omega)
    have o:bg (UInt8.ofNat (49+a%9))=true:=(cb _).2 (by rw [show 49+a%9=48+(1+a%9) by omega,mJ (by omega)];omega);rw [e9,w9,cQ (show a%9+1<=9 by omega)];simp only [];rw [cQ (show a%9<=a%9+1 by omega)];simp only [];rw [cut9 (a%9) (by omega),dV (by simp;omega)];simp only [];generalize F:[UInt8.ofNat (49+a%9)]++d=D;have y:D.length=5:=by rw [<-F];simp [k]
    have n:∀c∈D,bg c=true:=by
     rw [<-F];intro c hc;simp only [eK,dW,cq] at hc;rcases hc with rfl | hc
     ·exact o
     ·exact j c hc
    have v:D.head?≠some 48:=by rw [<-F];simpa using N
    rw [e3,e5,w5,U,O,R,H,L,G,S,C];by_cases h33:0<b%3
    ·have K:decide (((b%3:Nat):Int)>0)=true:=aq (by omega);rw [K,ah,cQ (show 1+b%5<=D.length by omega)];simp only [cO];generalize Q:List.take (1+b%5) D=E;have hEl:E.length=1+b%5:=by rw [<-Q,cP];omega
     have z:∀c∈E,bg c=true:=by rw [<-Q];exact λc hc=>n c (List.mem_of_mem_take hc)
     have P:E.head?≠some 48:=by
      rw [<-Q];cases D with
      | nil=>simp at y
      | cons c r=>rw [oG,oI];simpa using v
     generalize hX:1+b / 16%11=X;have w:X<=11:=by omega
     have hX1:1<=X:=by omega
     have M:IntKind.wrap .i64 (IntKind.wrap .i64 (((E.length:Nat):Int)+((X:Nat):Int))+1)=((E.length+X+1:Nat):Int):=by
      rw [wrap_i64 (((E.length:Nat):Int)+((X:Nat):Int)) (by omega) (by omega),wrap_i64 _ (by omega) (by omega)];omega
     have p:(((E.length+X+1:Nat):Int)==0)=false:=aJ.2 (by omega);rw [M,p,af];have W:Int.tmod ((a / 16:Nat):Int) ((E.length+X+1:Nat):Int)=((a / 16%(E.length+X+1):Nat):Int):=rfl;rw [W];have t:a / 16%(E.length+X+1)<E.length+X+1:=rB _ (by omega);generalize a / 16%(E.length+X+1)=s at t ⊢;obtain ⟨f,h,i⟩:=xY (m+300) g true E ((X:Nat):Int) ((s:Nat):Int) (by omega) (by omega) (IA z (by omega) (by omega) P w (by omega) (by omega));exact ⟨f,true,E,_,_,h,i,by omega,by omega,λ_=>uF z⟩
    ·have K:decide (((b%3:Nat):Int)>0)=false:=ar (by omega);rw [K,af,y];have M:IntKind.wrap .i64 (IntKind.wrap .i64 (((5:Nat):Int)+0)+1)=((6:Nat):Int):=by decide
     have p:(((6:Nat):Int)==0)=false:=rfl;rw [M,p,af];have W:Int.tmod ((a / 16:Nat):Int) ((6:Nat):Int)=((a / 16%6:Nat):Int):=rfl;rw [W];have t:a / 16%6<6:=rB _ (by omega);generalize a / 16%6=s at t ⊢;obtain ⟨f,h,i⟩:=xY (m+300) g true D ((0:Nat):Int) ((s:Nat):Int) (by omega) (by omega) (IA n (by omega) (by omega) v (by omega) (by omega) (by omega));exact ⟨f,true,D,_,_,h,i,by omega,by omega,λ_=>uF n⟩
theorem Xz (m a0 a2 f b:Nat) (g:Bool) (c:a2<65536) (j:f<256) (k:b<256):∃a l d x s,jC (m+300) (a0:Int) g (a2:Int) (f:Int) (b:Int)=some (a,l,d,x,s)/\okY a l d x s/\d.length<=5/\x<=11:=by
 obtain ⟨a,l,d,x,s,e,h,i,c,_⟩:=Ks m a0 a2 f b g c j k;exact ⟨a,l,d,x,s,e,h,i,c⟩
theorem xZ {g l:Bool} {d:aa} {x s:Nat} (h:okY g l d (x:Int) (s:Int)):(kW g l d (x:Int) (s:Int)).length<=25:=by
 have hs:=jf h;have c:=xe 69 (show x<100 by omega);have a:=xe 83 (show s<100 by omega);rw [kq];simp only [bv];have e:(if l=true then ([89]:aa) else []).length<=1:=by split<;>simp
 have b:(if g=true then ([45]:aa) else []).length<=1:=by split<;>simp
 omega
end Go.Sh
