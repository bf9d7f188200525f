
/- Plain proofs, kept as far as they are needed here (printed by prune.py).
   Conditions: none. -/
import Derived.Laws.RangeString
import Derived.Laws.RangeAny
import Derived.Test.YthemneooekobkaaGreatDoorShP
import Derived.Lib.IndexLaws
import Derived.Test.YthemneooekobkaaGreatDoorAbsZ
set_option linter.unusedVariables false
set_option linter.unusedSimpArgs false
set_option maxRecDepth 100000
namespace Go.Sh
open Go.Abs
theorem fW {X Y:Type} {step:X->Option (X⊕Y)} (I:X->Prop) (b:X->Nat) (G:X->Y)
  (h:∀x,I x->(∃a,step x=some (.inl a)/\I a/\b a<b x/\G a=G x)\/step x=some (.inr (G x))):
  ∀(n:Nat) (x:X),I x->b x<n->aw step n x=some (G x)
 | 0,x,_,e=>by omega
 | n+1,x,hx,e=>by
  rcases h x hx with ⟨a,c,f,g,d⟩ | c
  ·simp only [aw,c];rw [fW I b G h n a f (by omega),d]
  ·simp only [aw,c]
theorem pZ {X Y:Type} {step:X->Option (X⊕Y)} (I:X->Prop) (b:X->Nat) (Q:Y->Prop)
  (h:∀x,I x->(∃a,step x=some (.inl a)/\I a/\b a<b x)\/∃y,step x=some (.inr y)/\Q y):
  ∀(n:Nat) (x:X),I x->b x<n->∃y,aw step n x=some y/\Q y
 | 0,x,_,e=>by omega
 | n+1,x,hx,e=>by
  rcases h x hx with ⟨a,c,d,f⟩ | ⟨y,c,d⟩
  ·simp only [aw,c];exact pZ I b Q h n a d (by omega)
  ·exact ⟨y,by simp only [aw,c],d⟩
theorem A8 (x:Int):0<=IntKind.wrap .u8 x/\IntKind.wrap .u8 x<256:=by
 show 0<=x%256/\x%256<256;omega
theorem fU (x:Int) (a:0<=x) (b:x<256):IntKind.wrap .u8 x=x:=by
 show x%256=x;omega
theorem J1 (x:Int):IntKind.wrap .u8 x=x%256:=rfl
theorem wrap_i64 (x:Int) (a:-9223372036854775808<=x) (b:x<9223372036854775808):IntKind.wrap .i64 x=x:=by
 simp only [IntKind.wrap,IntKind.signed,IntKind.bits];simp;omega
theorem eJ {l:aa} {i:Nat} {c:UInt8} (h:l[i]?=some c):sx l (i:Int)=some c:=by
 simp [sx,h]
theorem dk {n i:Nat} (h:i<n):ix n (i:Int)=some i:=by
 simp [ix];omega
theorem cT {n i:Nat} (h:i<=n):bx n (i:Int)=some i:=by
 simp [bx];omega
theorem Bv {l:aa} {i:Nat} {c:UInt8} (h:l[i]?=some c) (hc:c.toNat<128):dec l i=(c.toNat,1):=by
 have a:i<l.length:=by
  rcases aH i l.length with b | b
  ·exact b
  ·rw [ga b] at h;cases h
 have hs:i<(ByteArray.mk l.toArray).size:=a;have d:(ByteArray.mk l.toArray)[i]'hs=c:=by
  rw [aT a] at h;simp only [av] at h;exact h
 unfold dec;rw [decode_ascii _ i hs (by rw [d];exact hc),d]
theorem H6 {l:aa} {i:Nat} {c:UInt8} (h:l[i]?=some c) (hc:128<=c.toNat):128<=(dec l i).1/\1<=(dec l i).2:=by
 have a:i<l.length:=by
  rcases aH i l.length with b | b
  ·exact b
  ·rw [ga b] at h;cases h
 have hs:i<(ByteArray.mk l.toArray).size:=a;have d:(ByteArray.mk l.toArray)[i]'hs=c:=by
  rw [aT a] at h;simp only [av] at h;exact h
 unfold dec;exact decode_high _ i hs (by rw [d];exact hc)
theorem uV {α:Type} {l:List α} {i:Nat} {c:α} (h:l[i]?=some c):i<l.length:=by
 rcases aH i l.length with a | a
 ·exact a
 ·rw [ga a] at h;cases h
theorem cr {α:Type} {l:List α} {i:Nat} {c:α} (h:l[i]?=some c):l.drop i=c::l.drop (i+1):=by
 have a:=uV h;rw [aT a] at h;simp only [av] at h;rw [<-h,rP a]
theorem gU {α β:Type} [BEq α] [LawfulBEq α] [DecidableEq α] (a b:α) (x y:β):(cond (a==b) x y)=if a=b then x else y:=by
 by_cases h:a=b
 ·subst h;simp
 ·rw [aI.2 h];simp [h]
theorem wH {α β:Type} [BEq α] [LawfulBEq α] [DecidableEq α] (a b:α) (x y:β):(cond (a != b) x y)=if a=b then y else x:=by
 by_cases h:a=b
 ·subst h;simp
 ·rw [bne,aI.2 h];simp [h]
theorem bE {β:Type} (p:Prop) [Decidable p] (x y:β):(cond (decide p) x y)=if p then x else y:=by
 by_cases h:p<;>simp [h]
theorem Jl {β:Type} (b:Bool) (x y:β):(cond (!b) x y)=cond b y x:=by cases b<;>rfl
theorem jg (a b:Nat):(decide (((a:Nat):Int)<((b:Nat):Int)))=decide (a<b):=by
 by_cases h:a<b<;>simp [h]
theorem mh (a b:Nat):(decide (((a:Nat):Int)>=((b:Nat):Int)))=decide (b<=a):=by
 by_cases h:b<=a<;>simp [h]
theorem oz (c d:UInt8):((((c.toNat:Nat):Int))==((d.toNat:Nat):Int))=(c==d):=by
 by_cases h:c=d
 ·subst h;simp
 ·have b:c.toNat≠d.toNat:=λe=>h (gD.1 e);have a:((c.toNat:Nat):Int)≠((d.toNat:Nat):Int):=by omega
  rw [aI.2 a,aI.2 h]
theorem Zk (c:UInt8):UInt8.ofNat (Int.toNat ((c.toNat:Nat):Int))=c:=by simp
def two (c:Nat):aa:=[UInt8.ofNat (48+c / 10),UInt8.ofNat (48+c%10)]
def sea (m:aa):Int:=match (List.range 21).find? (λj=>m==two (21+j)) with | some j=>((21+j:Nat):Int) | none=>0
theorem lA {j:Nat} (a:j<21):sea (two (21+j))=((21+j:Nat):Int):=by
 have:((List.range 21).all λj=>sea (two (21+j))==((21+j:Nat):Int))=true:=by decide +kernel
 simpa using (List.all_eq_true.1 this) j (by simpa using a)
theorem pQ (m:aa):sea m=0\/∃j,j<21/\m=two (21+j):=by
 unfold sea;split
 ·rename_i j h;have b:=List.find?_some h;have a:=List.mem_of_find?_eq_some h;exact .inr ⟨j,by simpa using a,by simpa using b⟩
 ·exact .inl rfl
theorem qR {b:UInt8} {d:Nat} (h:Lib.digitVal b=some d):d<10/\b.toNat=48+d:=by
 unfold Lib.digitVal at h;split at h
 ·cases h;omega
 ·cases h
theorem Q6 {a b:UInt8} {v:Int} (h:Lib.atoi [a,b]=some v) (o:21<=v) (p:v<42):∃j,j<21/\[a,b]=two (21+j)/\v=((21+j:Nat):Int):=by
 obtain ⟨b0,r,e,l⟩:=Lib.atoi_cases h;cases e;rcases l with ⟨_,m,_,_,i⟩ | ⟨_,m,_,c,i⟩ | ⟨_,_,m,c,i⟩
 ·omega
 ·simp only [Lib.decFrom] at c;split at c
  ·rename_i d g;have:=(qR g).1;simp only [av] at c;omega
  ·cases c
 ·simp only [Lib.decFrom] at c;split at c
  ·rename_i d g;split at c
   ·rename_i d' f;obtain ⟨k1,k2⟩:=qR g;obtain ⟨k3,k4⟩:=qR f;simp only [av] at c;refine ⟨m - 21,by omega,?_,by omega⟩;have n:(21+(m - 21)) / 10=d:=by omega
    have k:(21+(m - 21))%10=d':=by omega
    unfold two;rw [n,k,<-k2,<-k4];simp
   ·cases c
  ·cases c
theorem xI {j:Nat} (a:j<21):Lib.atoi (two (21+j))=some ((21+j:Nat):Int):=by
 have:((List.range 21).all λj=>Lib.atoi (two (21+j))==some ((21+j:Nat):Int))=true:=by decide +kernel
 simpa using (List.all_eq_true.1 this) j (by simpa using a)
theorem rA (n:Nat) (g l:Bool) (dg:aa) (x q:Int) (m d:aa) (k0 k1 k2:Int) (k:m.length<=18):bU n g l dg x q m d k0 k1 k2=some (sea m,decide (0<sea m)):=by
 have f:Nat.ble m.length 18=true:=cP k;rcases pQ m with h | ⟨j,c,rfl⟩
 ·unfold bU;rw [f,h];show opt (Lib.atoi m) _ _=_;cases o:Lib.atoi m with
  | none=>rfl
  | some v=>
   show cond _ _ _=_;by_cases i:m.length=2
   ·rw [i];obtain ⟨a,b,rfl⟩:∃a b,m=[a,b]:=by
     match m,i with
     | [a,b],_=>exact ⟨a,b,rfl⟩
    show ob (dT n v) _=_;unfold dT;rw [bE,bE];split
    ·rfl
    ·split
     ·rfl
     ·exfalso;obtain ⟨j,c,e,_⟩:=Q6 o (by omega) (by omega);rw [e,lA c] at h;omega
   ·rw [show (((m.length:Nat):Int) != 2)=true by simp;omega];rfl
 ·rw [lA c];have e:bU n g l dg x q (two (21+j)) d k0 k1 k2=some (((21+j:Nat):Int),true):=by
   unfold bU;rw [f,xI c];show ob (dT n ((21+j:Nat):Int)) _=_;unfold dT;rw [bE,bE,ab (by omega),ab (by omega)];rfl
  rw [e];have:decide (0<((21+j:Nat):Int))=true:=by simp;omega
  rw [this]
theorem LG (n:Nat) {c:Nat} (hc:c<100):aW n (c:Int)=some (two c):=by
 have e:Int.tdiv (c:Int) 10=((c / 10:Nat):Int):=by
  rw [show (10:Int)=((10:Nat):Int) from rfl,<-Int.ofNat_tdiv]
 have k:Int.tmod (c:Int) 10=((c%10:Nat):Int):=by
  rw [show (10:Int)=((10:Nat):Int) from rfl,<-Int.ofNat_tmod]
 have d:c / 10<10:=by omega
 have h:c%10<10:=by omega
 unfold aW;rw [e,k];have i:IntKind.wrap .i64 ((c / 10:Nat):Int)=((c / 10:Nat):Int):=wrap_i64 _ (by omega) (by omega);have f:IntKind.wrap .i64 (((c / 10:Nat):Int)+1)=((c / 10+1:Nat):Int):=by rw [wrap_i64 _ (by omega) (by omega)];omega
 have g:IntKind.wrap .i64 (((c%10:Nat):Int)+1)=((c%10+1:Nat):Int):=by rw [wrap_i64 _ (by omega) (by omega)];omega
 rw [i,f,g,cT (by omega),cT (by omega)];show ob (bx (c / 10+1) ((c / 10:Nat):Int)) _=_;rw [cT (by omega)];show ob (bx (c%10+1) ((c%10:Nat):Int)) _=_;rw [cT (by omega)];unfold two;generalize c / 10=a at *;generalize c%10=b at *;have:((List.range 10).all λa=>(List.range 10).all λb=>ob (cat (List.drop a (List.take (a+1) ([48,49,50,51,52,53,54,55,56,57]:aa))) (List.drop b (List.take (b+1) ([48,49,50,51,52,53,54,55,56,57]:aa)))) (λs=>some s)==some [UInt8.ofNat (48+a),UInt8.ofNat (48+b)])=true:=by decide +kernel
 have j:=(bW.1 ((bW.1 this) a (by simpa using d))) b (by simpa using h);simpa using j
theorem Q1 {m:aa} (h:∀j,j<21->m≠two (21+j)):sea m=0:=by
 rcases pQ m with a | ⟨j,b,e⟩
 ·exact a
 ·exact absurd e (h j b)
theorem xo (n:Nat) (g l:Bool) (dg:aa) (x q:Int) (m d:aa) (k0 k1 k2:Int):∀(r j:Nat),j+r=21->(∀i,i<j->m≠two (21+i))->∀N,r<N->
  aw (bS n) N (((21+j:Nat):Int),g,l,dg,x,q,m,d,k0,k1,k2)=some (if sea m=0 then .inr () else .inl (sea m)):=by
 intro r
 induction r with
 | zero=>
  intro j e a N c;obtain ⟨N,rfl⟩:∃k,N=k+1:=⟨N - 1,by omega⟩;have hs:sea m=0:=Q1 (λi hi=>a i (by omega));rw [aw];have:bS n (((21+j:Nat):Int),g,l,dg,x,q,m,d,k0,k1,k2)=some (.inr (.inr ())):=by
   unfold bS;rw [bE,ab (by show ¬(((21+j:Nat):Int)<=41);omega)]
  rw [this,ae hs]
 | succ r ih=>
  intro j e a N c;obtain ⟨N,rfl⟩:∃k,N=k+1:=⟨N - 1,by omega⟩;rw [aw];by_cases b:m=two (21+j)
  ·have hs:sea m=((21+j:Nat):Int):=by rw [b];exact lA (by omega)
   have:bS n (((21+j:Nat):Int),g,l,dg,x,q,m,d,k0,k1,k2)=some (.inr (.inl ((21+j:Nat):Int))):=by
    unfold bS;rw [bE,ae (by show ((21+j:Nat):Int)<=41;omega)];show ob (aW n ((21+j:Nat):Int)) _=_;rw [LG n (by omega)];show cond (m==two (21+j)) _ _=_;rw [gU,ae b]
   rw [this,hs,ab (by omega)]
  ·have:bS n (((21+j:Nat):Int),g,l,dg,x,q,m,d,k0,k1,k2)=some (.inl (((21+(j+1):Nat):Int),g,l,dg,x,q,m,d,k0,k1,k2)):=by
    unfold bS;rw [bE,ae (by show ((21+j:Nat):Int)<=41;omega)];show ob (aW n ((21+j:Nat):Int)) _=_;rw [LG n (by omega)];show cond (m==two (21+j)) _ _=_;rw [gU,ab b];have:IntKind.wrap .i64 (((21+j:Nat):Int)+1)=((21+(j+1):Nat):Int):=by rw [wrap_i64 _ (by omega) (by omega)];omega
    show some (Sum.inl (IntKind.wrap .i64 (((21+j:Nat):Int)+1),_))=_;rw [this]
   rw [this]
   exact ih (j+1) (by omega) (λi hi=>by
    rcases aH i j with h | h
    ·exact a i h
    ·have:i=j:=by omega
     rw [this];exact b) N (by omega)
theorem mn (n:Nat) (a:100<n) (g l:Bool) (dg:aa) (x q:Int) (m d:aa) (k0 k1 k2:Int):aN n g l dg x q m d k0 k1 k2=some (sea m):=by
 unfold aN;have:=xo n g l dg x q m d k0 k1 k2 21 0 rfl (λi hi=>absurd hi (by omega)) n (by omega);rw [show ((21+0:Nat):Int)=21 from rfl] at this;rw [this];by_cases h:sea m=0
 ·rw [ae h,h];rfl
 ·rw [ab h];rfl
def agr (s:aa) (k:Nat):Bool:=match s with
 | [a,b]=>(a==88||a==UInt8.ofNat (48+k / 10))&&(b==88||b==UInt8.ofNat (48+k%10))
 | _=>false
def ef (s:aa) (g:Nat):Bool:=(List.range g).any λi=>agr s (i+1)
theorem Hv {X Y:Type} {step:X->Option (X⊕Y)} {f:Nat->X} {p:Nat->Bool} {g:Nat} {yes no:Y} (h:∀k,1<=k->k<=g->step (f k)=some (if p k then .inr yes else .inl (f (k+1)))) (e:step (f (g+1))=some (.inr no)) {N:Nat} (b:g<N):
  aw step N (f 1)=some (if (List.range g).any (λi=>p (i+1)) then yes else no):=by
 have d:∀(r j:Nat),j+r=g->(∀i,i<j->p (i+1)=false)->∀N,r<N->aw step N (f (j+1))=some (if (List.range g).any (λi=>p (i+1)) then yes else no):=by
  intro r
  induction r with
  | zero=>
   intro j c a N b;obtain ⟨N,rfl⟩:∃k,N=k+1:=⟨N - 1,by omega⟩;have:(List.range g).any (λi=>p (i+1))=false:=by
    rw [ta];intro i hi;rw [a i (by have:=jA.1 hi;omega)];simp
   rw [aw,show j+1=g+1 by omega,e,this];rfl
  | succ r ih=>
   intro j c a N b;obtain ⟨N,rfl⟩:∃k,N=k+1:=⟨N - 1,by omega⟩;rw [aw,h (j+1) (by omega) (by omega)];cases hp:p (j+1) with
   | true=>
    have:(List.range g).any (λi=>p (i+1))=true:=tf.2 ⟨j,jA.2 (by omega),hp⟩;rw [this];rfl
   | false=>
    exact ih (j+1) (by omega) (λi hi=>by
     rcases aH i j with h | h
     ·exact a i h
     ·have:i=j:=by omega
      rw [this];exact hp) N (by omega)
 exact d g 0 (by omega) (λi hi=>absurd hi (by omega)) N b
theorem vT {a:UInt8} {k:Nat} (b:k<256):((((a.toNat:Nat):Int))==((k:Nat):Int))=(a==UInt8.ofNat k):=by
 have h:(UInt8.ofNat k).toNat=k:=by simp;omega
 rw [<-oz,h]
theorem QB (n:Nat) (a b:UInt8) {g k:Nat} (q:1<=k) (s:k<=g) (r:g<=31):
  dH n ([a,b],(g:Int),(k:Int))=some (if agr [a,b] k then .inr (.inl true) else .inl ([a,b],(g:Int),((k+1:Nat):Int))):=by
 have f:Int.tdiv (k:Int) 10=((k / 10:Nat):Int):=by
  rw [show (10:Int)=((10:Nat):Int) from rfl,<-Int.ofNat_tdiv]
 have p:Int.tmod (k:Int) 10=((k%10:Nat):Int):=by
  rw [show (10:Int)=((10:Nat):Int) from rfl,<-Int.ofNat_tmod]
 have l:IntKind.wrap .u8 (48+IntKind.wrap .u8 (IntKind.wrap .i64 (Int.tdiv (k:Int) 10)))=((48+k / 10:Nat):Int):=by
  rw [f,wrap_i64 _ (by omega) (by omega),fU ((k / 10:Nat):Int) (by omega) (by omega),fU _ (by omega) (by omega)];omega
 have j:IntKind.wrap .u8 (48+IntKind.wrap .u8 (Int.tmod (k:Int) 10))=((48+k%10:Nat):Int):=by
  rw [p,fU ((k%10:Nat):Int) (by omega) (by omega),fU _ (by omega) (by omega)];omega
 have i:IntKind.wrap .i64 ((k:Int)+1)=((k+1:Nat):Int):=by rw [wrap_i64 _ (by omega) (by omega)];omega
 have c:(88:Int)=((88:Nat):Int):=rfl;have s0:sx [a,b] 0=some a:=rfl;have d:sx [a,b] 1=some b:=rfl;unfold dH;rw [bE,ae (show (k:Int)<=(g:Int) by omega)];simp only [s0,d,ob,l,j,i];rw [c,vT (by omega),vT (by omega),vT (by omega),vT (by omega)];show _=some (if ((a==UInt8.ofNat 88||a==UInt8.ofNat (48+k / 10))&&(b==UInt8.ofNat 88||b==UInt8.ofNat (48+k%10)))=true then _ else _);generalize (a==UInt8.ofNat 88)=e;generalize (b==UInt8.ofNat 88)=o;generalize (a==UInt8.ofNat (48+k / 10))=m;generalize (b==UInt8.ofNat (48+k%10))=h;cases e<;>cases o<;>cases m<;>cases h<;>rfl
theorem D6 (n:Nat) (m:100<n) (s:aa) (g:Nat) (e:g<=31):dB n s (g:Int)=some (ef s g):=by
 unfold dB;by_cases c:s.length=2
 ·obtain ⟨a,b,rfl⟩:∃a b,s=[a,b]:=by
   match s,c with
   | [a,b],_=>exact ⟨a,b,rfl⟩
  have l:dH n ([a,b],(g:Int),((g+1:Nat):Int))=some (.inr (.inr ())):=by
   unfold dH;rw [bE,ab (show ¬((g+1:Nat):Int)<=(g:Int) by omega)]
  have:=Hv (f:=λk=>([a,b],(g:Int),((k:Nat):Int))) (p:=agr [a,b]) (g:=g) (N:=n) (λk d j=>QB n a b d j e) l (by omega);show ob (aw (dH n) n ([a,b],(g:Int),((1:Nat):Int))) _=_;rw [this];unfold ef;split<;>simp_all [ob]
 ·rw [show (((s.length:Nat):Int) != 2)=true by simp;omega];have:ef s g=false:=by
   unfold ef;rw [ta];intro i _
   match s,c with
   | [],_=>simp [agr]
   | [_],_=>simp [agr]
   | [_,_],h=>exact absurd rfl h
   | _::_::_::_,_=>simp [agr]
  rw [this];rfl
theorem vq (n:Nat) (s:aa) (k:Nat) (g:k<100):eD n s (k:Int)=some (if agr s k then 1 else 0):=by
 unfold eD;rw [LG n g];show cond _ _ _=_;by_cases d:s.length=2
 ·obtain ⟨a,b,rfl⟩:∃a b,s=[a,b]:=by
   match s,d with
   | [a,b],_=>exact ⟨a,b,rfl⟩
  have s0:sx [a,b] 0=some a:=rfl;have e:sx [a,b] 1=some b:=rfl;have j:sx (two k) 0=some (UInt8.ofNat (48+k / 10)):=rfl;have m:sx (two k) 1=some (UInt8.ofNat (48+k%10)):=rfl;have c:(88:Int)=((88:Nat):Int):=rfl;rw [show (((([a,b]:aa).length:Nat):Int)==2)=true from rfl];simp only [s0,e,j,m,ob,ah];rw [c,vT (by omega),vT (by omega),oz,oz];show _=some (if ((a==UInt8.ofNat 88||a==UInt8.ofNat (48+k / 10))&&(b==UInt8.ofNat 88||b==UInt8.ofNat (48+k%10)))=true then _ else _);generalize (a==UInt8.ofNat 88)=f;generalize (b==UInt8.ofNat 88)=o;generalize (a==UInt8.ofNat (48+k / 10))=l;generalize (b==UInt8.ofNat (48+k%10))=i;cases f<;>cases o<;>cases l<;>cases i<;>rfl
 ·rw [show (((s.length:Nat):Int)==2)=false by simp;omega];have:agr s k=false:=by
   match s,d with
   | [],_=>rfl
   | [_],_=>rfl
   | [_,_],h=>exact absurd rfl h
   | _::_::_::_,_=>rfl
  rw [this];rfl
theorem Ja (n:Nat) (c:100<n) (s:aa) (g:Nat) (e:g<=31):dO n s (g:Int)=some (if ef s g then 1 else 0):=by
 unfold dO;have b:dR n (s,(g:Int),((g+1:Nat):Int))=some (.inr (.inr ())):=by
  unfold dR;rw [bE,ab (show ¬((g+1:Nat):Int)<=(g:Int) by omega)]
 have:=Hv (f:=λk=>(s,(g:Int),((k:Nat):Int))) (p:=agr s) (g:=g) (N:=n) (step:=dR n) (yes:=.inl 1) (no:=.inr ()) (λk d h=>by
  unfold dR;rw [bE,ae (show (k:Int)<=(g:Int) by omega)];show ob (eD n s (k:Int)) _=_;rw [vq n s k (by omega)];have a:IntKind.wrap .i64 ((k:Int)+1)=((k+1:Nat):Int):=by rw [wrap_i64 _ (by omega) (by omega)];omega
  simp only [ob,a];cases agr s k<;>rfl) b (by omega)
 show ob (aw (dR n) n (s,(g:Int),((1:Nat):Int))) _=_;rw [this];unfold ef;split<;>simp_all [ob]
theorem xL (n:Nat) {a b:Int} (u:1<b) (p:b<1000) (v:-4611686018427387904<=a) (q:a<4611686018427387904):mu n a b=some (a / b,0):=by
 have j:(b==0)=false:=by simp;omega
 have k:(b==-1)=false:=by simp;omega
 unfold mu;simp only [j,k,af];have s:a / b*b+a%b=a:=Int.ediv_mul_add_emod a b;have t:=Nx a (show b≠0 by omega);have l:=LK a (show 0<b by omega);have o:-4611686018427387904<=a / b:=by
  rw [Int.le_ediv_iff_mul_le (by omega)];have:(-4611686018427387904:Int)*b<=-4611686018427387904*1:=Int.mul_le_mul_of_nonpos_left (by omega) (by omega);omega
 have r:a / b<4611686018427387904:=by
  rw [Int.ediv_lt_iff_lt_mul (by omega)];have:(4611686018427387904:Int)*1<=4611686018427387904*b:=Int.mul_le_mul_of_nonneg_left (by omega) (by omega);omega
 by_cases g:0<=a
 ·have d:Int.tdiv a b=a / b:=Sv g;have e:decide (a<0)=false:=by simp;omega
  have d2:decide (b<0)=false:=by simp;omega
  rw [d,e,d2,wrap_i64 (a / b) (by omega) (by omega)];cases (Int.tmod a b != 0)<;>rfl
 ·have e:decide (a<0)=true:=by simp;omega
  have d2:decide (b<0)=false:=by simp;omega
  have d:=Int.tdiv_eq_ediv (a:=a) (b:=b);have i:=Pe (a:=a) (b:=b);rw [e,d2];by_cases c:b∣a
  ·have f:Int.tmod a b=0:=by
    rw [i,ae (.inr c)];have:=Int.emod_eq_zero_of_dvd c;omega
   rw [f,d,ae (.inr c)];rw [Int.add_zero,wrap_i64 (a / b) (by omega) (by omega)];rfl
  ·have m:a%b≠0:=λh=>c (NW h);have f:(Int.tmod a b != 0)=true:=by
    rw [i,ab (by rintro (h | h);exact g h;exact c h)];simp;omega
   have hs:b.sign=1:=Int.sign_eq_one_of_pos (by omega);rw [f,d,ab (by rintro (h | h);exact g h;exact c h),hs];rw [wrap_i64 (a / b+1) (by omega) (by omega),Int.add_sub_cancel,wrap_i64 (a / b) (by omega) (by omega)];rfl
theorem Xe (n:Nat) {a b:Int} (o:1<b) (l:b<1000):wY n a b=some (a%b,0):=by
 have f:(b==0)=false:=by simp;omega
 have g:(b==-1)=false:=by simp;omega
 unfold wY;simp only [f,g,af];have m:=Nx a (show b≠0 by omega);have i:=LK a (show 0<b by omega);have c:=Pe (a:=a) (b:=b);have d2:decide (b<0)=false:=by simp;omega
 by_cases hc:0<=a\/b∣a
 ·rw [ae hc] at c;have:Int.tmod a b=a%b:=by omega
  rw [this,d2];have d:decide (a%b<0)=false:=by simp;omega
  rw [d];cases h:(a%b != 0)
  ·rfl
  ·rfl
 ·rw [ab hc] at c;have e:(b.natAbs:Int)=b:=by omega
  rw [e] at c;have j:a%b≠0:=λh=>hc (.inr (NW h));have k:(Int.tmod a b != 0)=true:=by simp;omega
  have d:decide (Int.tmod a b<0)=true:=by simp;omega
  rw [k,d,d2,c,wrap_i64 _ (by omega) (by omega),LF];rfl
def ej (y:Int):Prop:=-10000000000000000<=y/\y<=10000000000000000
instance (y:Int):Decidable (ej y):=by unfold ej;infer_instance
theorem gA (n:Nat) (y:Int):jD n y=some (if ej y then 0 else 6):=by
 unfold jD;rw [bE,bE];by_cases a:y < -10000000000000000
 ·rw [ae a,ab (show ¬ej y by unfold ej;omega)]
 ·by_cases b:y>10000000000000000
  ·rw [ab a,ae b,ab (show ¬ej y by unfold ej;omega)]
  ·rw [ab a,ab b,ae (show ej y by unfold ej;omega)]
theorem ul (n:Nat) {y:Int} (h:-20000000000000000<=y/\y<=20000000000000000):∃z,fG n y=some z:=by
 unfold fG;rw [wrap_i64 (y - 1) (by omega) (by omega),xL n (by omega) (by omega) (by omega) (by omega),xL n (by omega) (by omega) (by omega) (by omega),xL n (by omega) (by omega) (by omega) (by omega)];exact ⟨_,rfl⟩
theorem Nc (n:Nat) {y:Int} (h:ej y):∃b e,kV n y=some (b,e):=by
 unfold kV;have h':=h;unfold ej at h';obtain ⟨z1,a⟩:=ul n (y:=y+1) (by omega);obtain ⟨z2,c⟩:=ul n (y:=y) (by omega);rw [gA,ae h,wrap_i64 (y+1) (by omega) (by omega),a,c];exact ⟨_,_,rfl⟩
theorem ue (n:Nat) {y:Int} (h:ej y) {m:Nat} (d:1<=m) (c:m<=12):∃v,eP n y (m:Int)=some v:=by
 unfold eP;obtain ⟨b,e,a⟩:=Nc n h;rw [a];show ∃v,cond (b&&((m:Int)==2)) _ _=some v;cases (b&&((m:Int)==2)) with
 | true=>exact ⟨_,rfl⟩
 | false=>
  have:IntKind.wrap .i64 ((m:Int) - 1)=((m - 1:Nat):Int):=by rw [wrap_i64 _ (by omega) (by omega)];omega
  rw [this,dk (by omega)];have a:wI.length=12:=rfl;exact ⟨_,aT (show m - 1<wI.length by omega)⟩
theorem Hz (n:Nat) {y:Int} (h:ej y) {m:Nat} (b:1<=m) (a:m<=12):kX n y (m:Int)=some 0:=by
 unfold kX;rw [gA,ae h];show cond (decide ((m:Int)<1)) _ _=_;rw [bE,bE,ab (by omega),ab (by omega)]
theorem Kt (n:Nat) {y:Int} (h:ej y) {m:Nat} (e:m<=11):∀(r j:Nat),j+r=m->∀(a:Int) (N:Nat),r<N->∃v,aw (bL n) N (y,a,(m:Int),(j:Int))=some v:=by
 intro r
 induction r with
 | zero=>
  intro j d a N c;obtain ⟨N,rfl⟩:∃k,N=k+1:=⟨N - 1,by omega⟩;have:bL n (y,a,(m:Int),(j:Int))=some (.inr a):=by
   unfold bL;rw [bE,ab (show ¬((j:Int)<(m:Int)) by omega)]
  rw [aw,this];exact ⟨_,rfl⟩
 | succ r ih=>
  intro j d a N c;obtain ⟨N,rfl⟩:∃k,N=k+1:=⟨N - 1,by omega⟩;obtain ⟨v,b⟩:=ue n h (m:=j+1) (by omega) (by omega);have w:IntKind.wrap .i64 ((j:Int)+1)=((j+1:Nat):Int):=by rw [wrap_i64 _ (by omega) (by omega)];omega
  have:bL n (y,a,(m:Int),(j:Int))=some (.inl (y,IntKind.wrap .i64 (a+v),(m:Int),((j+1:Nat):Int))):=by
   unfold bL;rw [bE,ae (show ((j:Int)<(m:Int)) by omega)];simp only [w,b,ob]
  rw [aw,this];exact ih (j+1) (by omega) _ N (by omega)
theorem Lj (n:Nat) (d:100<n) {y:Int} (h:ej y) {m:Nat} (c:1<=m) (b:m<=12):∃v,fJ n y (m:Int)=some (v,0):=by
 unfold fJ l8 mi;have h':=h;unfold ej at h';obtain ⟨z,e⟩:=ul n (y:=y) (by omega);have w:IntKind.wrap .i64 ((m:Int) - 1)=((m - 1:Nat):Int):=by rw [wrap_i64 _ (by omega) (by omega)];omega
 rw [Hz n h c b,gA,ae h,e,w];obtain ⟨v,a⟩:=Kt n h (m:=m - 1) (by omega) (m - 1) 0 (by omega) (IntKind.wrap .i64 (IntKind.wrap .i64 (365*y)+z)) n (by omega);refine ⟨v,?_⟩;show ob (aw (bL n) n (y,IntKind.wrap .i64 (IntKind.wrap .i64 (365*y)+z),((m - 1:Nat):Int),((0:Nat):Int))) _=_;rw [a];rfl
theorem madd (n:Nat) {y:Int} (h:ej y) {m c:Nat} (g:1<=m) (i:m<=12) (hc:1<=c) (j:c<=6):pF n y (m:Int) (IntKind.wrap .i64 ((c:Int) - 1)) =
  some (if 12<m+c - 1 then (if y=10000000000000000 then (0,0,6) else (y+1,((m+c - 1 - 12:Nat):Int),0)) else (y,((m+c - 1:Nat):Int),0)):=by
 have h':=h;unfold ej at h';unfold pF;rw [Hz n h g i,wrap_i64 (12*y) (by omega) (by omega),wrap_i64 ((m:Int) - 1) (by omega) (by omega),wrap_i64 (12*y+((m:Int) - 1)) (by omega) (by omega),wrap_i64 ((c:Int) - 1) (by omega) (by omega)];have k:sG n (12*y+((m:Int) - 1)) ((c:Int) - 1)=some (12*y+((m:Int) - 1)+((c:Int) - 1),0):=by
  unfold sG;rw [wrap_i64 (12*y+((m:Int) - 1)+((c:Int) - 1)) (by omega) (by omega),gU];by_cases d:(c:Int) - 1=0
  ·rw [ae d];have a:decide (12*y+((m:Int) - 1)>12*y+((m:Int) - 1))=false:=by simp
   have d2:decide ((c:Int) - 1>0)=false:=by simp;omega
   rw [a,d2,d,Int.add_zero];rfl
  ·rw [ab d];have a:decide (12*y+((m:Int) - 1)+((c:Int) - 1)>12*y+((m:Int) - 1))=true:=by simp;omega
   have d2:decide ((c:Int) - 1>0)=true:=by simp;omega
   rw [a,d2];rfl
 simp only [ob,k,fC,af];rw [xL n (by omega) (by omega) (by omega) (by omega),Xe n (by omega) (by omega)];simp only [gA];by_cases f:12<m+c - 1
 ·have b:(12*y+((m:Int) - 1)+((c:Int) - 1)) / 12=y+1:=by omega
  have e:(12*y+((m:Int) - 1)+((c:Int) - 1))%12=((m+c - 1 - 12:Nat):Int) - 1:=by omega
  rw [b,e,ae f];by_cases hy:y=10000000000000000
  ·rw [ae hy,ab (show ¬ej (y+1) by unfold ej;omega)];rfl
  ·rw [ab hy,ae (show ej (y+1) by unfold ej;omega),wrap_i64 (((m+c - 1 - 12:Nat):Int) - 1+1) (by omega) (by omega),LF];rfl
 ·have b:(12*y+((m:Int) - 1)+((c:Int) - 1)) / 12=y:=by omega
  have e:(12*y+((m:Int) - 1)+((c:Int) - 1))%12=((m+c - 1:Nat):Int) - 1:=by omega
  rw [b,e,ab f,ae h,wrap_i64 (((m+c - 1:Nat):Int) - 1+1) (by omega) (by omega),LF];rfl
theorem I4 {j:Nat} (g:j<21):∃m c:Nat,oy[j]?=some ((m:Int),(c:Int))/\1<=m/\m<=12/\1<=c/\c<=6/\(12<m+c - 1↔j=3\/j=7\/j=9):=by
 have:((List.range 21).all λj=>match oy[j]? with
  | some (m,c)=>decide (0<=m)&&decide (0<=c)&&decide (1<=m.toNat)&&decide (m.toNat<=12)&&decide (1<=c.toNat)&&decide (c.toNat<=6)&&(decide (12<m.toNat+c.toNat - 1)==decide (j=3\/j=7\/j=9))
  | none=>false)=true:=by decide +kernel
 have h:=(bW.1 this) j (by simpa using g);split at h
 ·rename_i m c e;simp only [az,cg,bp,n8] at h;obtain ⟨⟨⟨⟨⟨⟨f,k⟩,l⟩,a⟩,d⟩,b⟩,i⟩:=h;exact ⟨m.toNat,c.toNat,by rw [e,IS f,IS k],l,a,d,b,i⟩
 ·cases h
theorem V2 (n:Nat) (k:100<n) {y:Int} (h:ej y) {j:Nat} (s:j<21):
  ∃a b c d,iD n y ((21+j:Nat):Int)=some (a,b,c,d,if y=10000000000000000/\(j=3\/j=7\/j=9) then 6 else 0):=by
 obtain ⟨m,c,e,q,t,B,z,r⟩:=I4 s;have C:fK n ((21+j:Nat):Int)=some ((m:Int),(c:Int),0):=by
  unfold fK dT;rw [bE,bE,ab (by omega),ab (by omega)];have:IntKind.wrap .i64 (((21+j:Nat):Int) - 21)=(j:Int):=by rw [wrap_i64 _ (by omega) (by omega)];omega
  rw [this,dk s];show ob (oy[j]?) _=_;rw [e];rfl
 obtain ⟨v,A⟩:=Lj n k h q t;unfold iD;rw [C];show ∃a b c d,ob (fJ n y (m:Int)) _=_;rw [A];show ∃a b w d,ob (pF n y (m:Int) (IntKind.wrap .i64 ((c:Int) - 1))) _=_;rw [madd n h q t B z];have h':=h;unfold ej at h';by_cases i:12<m+c - 1
 ·rw [ae i];by_cases hy:y=10000000000000000
  ·rw [ae hy,ae ⟨hy,r.1 i⟩];exact ⟨_,_,_,_,rfl⟩
  ·rw [ab hy,ab (λx=>hy x.1)];have g:ej (y+1):=by unfold ej;omega
   obtain ⟨p,f⟩:=Lj n k g (m:=m+c - 1 - 12) (by omega) (by omega);obtain ⟨u,l⟩:=ue n g (m:=m+c - 1 - 12) (by omega) (by omega);have o:ic n (y+1) ((m+c - 1 - 12:Nat):Int)=some (IntKind.wrap .i64 (IntKind.wrap .i64 (p+u) - 1),0):=by
    unfold ic;rw [f,l];rfl
   show ∃a b w d,ob (ic n (y+1) ((m+c - 1 - 12:Nat):Int)) _=_;rw [o];exact ⟨_,_,_,_,rfl⟩
 ·rw [ab i,ab (λx=>i (r.2 x.2))];obtain ⟨p,f⟩:=Lj n k h (m:=m+c - 1) (by omega) (by omega);obtain ⟨u,l⟩:=ue n h (m:=m+c - 1) (by omega) (by omega);have o:ic n y ((m+c - 1:Nat):Int)=some (IntKind.wrap .i64 (IntKind.wrap .i64 (p+u) - 1),0):=by
   unfold ic;rw [f,l];rfl
  show ∃a b w d,ob (ic n y ((m+c - 1:Nat):Int)) _=_;rw [o];exact ⟨_,_,_,_,rfl⟩
def hasB (set:aa) (c:UInt8):Bool:=set.any λd=>d==c
theorem qN (set:aa) (c:UInt8):(decide (Lib.indexByte set c<0))=!hasB set c:=by
 induction set with
 | nil=>simp [Lib.indexByte,hasB]
 | cons d l ih=>
  have f:=Lib.indexByte_ge l c;simp only [hasB,rh] at ih ⊢;unfold Lib.indexByte;by_cases h:d=c
  ·simp [h]
  ·have e:(d==c)=false:=by simpa using h
   simp only [e,bz,aE,oO];rw [<-ih];by_cases b:Lib.indexByte l c=-1
   ·simp [b]
   ·have a:(Lib.indexByte l c==-1)=false:=by simpa using b
    simp only [a,bz,aE];have:¬Lib.indexByte l c+1<0:=by omega
    have:¬Lib.indexByte l c<0:=by omega
    simp [*]
theorem qU (set:aa) (c:UInt8):(decide (Lib.indexByte set c>=0))=hasB set c:=by
 have:=qN set c;by_cases h:Lib.indexByte set c<0
 ·have a:¬Lib.indexByte set c>=0:=by omega
  simp only [h,a,o9,oC] at this ⊢;revert this;cases hasB set c<;>simp
 ·have a:Lib.indexByte set c>=0:=by omega
  simp only [h,a,o9,oC] at this ⊢;revert this;cases hasB set c<;>simp
def lcp:aa->aa->Nat
 | c::s,d::t=>if c==d then lcp s t+1 else 0
 | _,_=>0
theorem xk:∀s t:aa,lcp s t<=s.length
 | [],_=>by simp [lcp]
 | _::_,[]=>by simp [lcp]
 | c::s,d::t=>by
  have:=xk s t;simp only [lcp,aC];split<;>omega
def bG (p:UInt8->Bool):Nat->aa->Nat
 | 0,_=>0
 | _+1,[]=>0
 | k+1,c::l=>if p c then bG p k l+1 else 0
theorem mB (p:UInt8->Bool):∀(k:Nat) (l:aa),bG p k l<=l.length
 | 0,_=>by simp [bG]
 | _+1,[]=>by simp [bG]
 | k+1,c::l=>by
  have:=mB p k l;simp only [bG,aC];split<;>omega
theorem uX (n:Nat) (S:aa) (a:Nat) (h:a<=S.length):cO n S (a:Int)=some (S.drop a):=by
 simp [cO,ob,cT h]
theorem Dh (n:Nat) (s p:aa):jR n s p=some (s.take p.length==p):=by
 simp only [jR,gM,mh];by_cases h:p.length<=s.length
 ·simp [h,ob,cT h]
 ·have:(s.take p.length==p)=false:=by
   rw [aI];intro e;have:=cD List.length e;rw [cV] at this;omega
  simp [h,ob,this]
theorem Nb (n:Nat) (t S:aa) (a:Nat) (h:a<=S.length):fP n t S (a:Int)=some ((S.drop a).take t.length==t):=by
 simp [fP,uX n S a h,ob,Dh]
theorem nF (n:Nat) (t S:aa) (a:Nat) (h:a<=S.length) (c:S.length<4611686018427387904):
  aD n t S (a:Int)=some (if (S.drop a).take t.length=t then (true,S,((a+t.length:Nat):Int)) else (false,S,(a:Int))):=by
 simp only [aD,Nb n t S a h,ob];by_cases hp:(S.drop a).take t.length=t
 ·have d:t.length<=S.length - a:=by
   have:=cD List.length hp;simp at this;omega
  have b:IntKind.wrap .i64 ((a:Int)+((t.length:Nat):Int))=((a+t.length:Nat):Int):=by rw [wrap_i64 _ (by omega) (by omega)];omega
  simp [hp,b]
 ·simp only [Jl,gU,hp,aE]
theorem Eg (n:Nat) (S:aa) (i:Int):bI n S i=some i:=rfl
def peek (l:aa):Int×Bool:=match l with | c::_=>(((c.toNat:Nat):Int),true) | []=>(0,false)
theorem qO (n:Nat) (S:aa) (a:Nat) (h:a<=S.length):bj n S (a:Int)=some (peek (S.drop a)):=by
 simp only [bj,uX n S a h,ob];rcases aH a S.length with b | d
 ·obtain ⟨c,hc⟩:∃c,S[a]?=some c:=⟨S[a],aT b⟩;rw [cr hc];simp [eJ hc,peek]
 ·rw [jt d];simp [peek]
theorem wS (n:Nat) (a e:Int) (S:aa) (i:Int):aR n a e S i=some (a,if e=0 then 5 else e):=by
 simp only [aR,gU];by_cases h:e=0<;>simp [h]
theorem gW (n:Nat) (set:aa) (c:UInt8):dK n set ((c.toNat:Nat):Int)=some (Lib.indexByte set c):=by
 simp only [dK,dr,ob,Zk]
theorem BY (n:Nat) (set S:aa) (a:Nat) (h:a<=S.length) (f:S.length<4611686018427387904):
  cq n set S (a:Int)=some (match S.drop a with | c::_=>if hasB set c then .inr (((c.toNat:Nat):Int),S,((a+1:Nat):Int)) else .inl ((a:Int),5,S,(a:Int)) | []=>.inl ((a:Int),5,S,(a:Int))):=by
 simp only [cq,qO n S a h,ob];rcases aH a S.length with d | b
 ·obtain ⟨c,hc⟩:∃c,S[a]?=some c:=⟨S[a],aT d⟩;have e:IntKind.wrap .i64 ((a:Int)+1)=((a+1:Nat):Int):=by rw [wrap_i64 _ (by omega) (by omega)];omega
  rw [cr hc];simp only [peek,du,af,gW,qN,Eg,wS,ob,e];cases hasB set c<;>simp
 ·rw [jt b];simp [peek,Eg,wS,ob]
theorem qu (S:aa) (a k:Nat):List.drop a (List.take (a+k) S)=(S.drop a).take k:=by
 rw [xZ];congr 1;omega
theorem BG (n:Nat) (set:aa) (b most:Int) (S:aa) (a:Nat) (h:a<=S.length) (o:S.length<4611686018427387904) (m:S.length<n):
  aw (dp n) n (set,b,most,(a:Int),(peek (S.drop a)).1,(peek (S.drop a)).2,S,(a:Int)) =
   some (b,(a:Int),S,((a+bG (hasB set) most.toNat (S.drop a):Nat):Int)):=by
 have:=fW (step:=dp n)
  (λx=>∃j:Nat,a+j<=S.length/\x=(set,b,most,(a:Int),(peek (S.drop (a+j))).1,(peek (S.drop (a+j))).2,S,((a+j:Nat):Int)))
  (λx=>S.length - x.2.2.2.2.2.2.2.toNat)
  (λx=>(b,(a:Int),S,((x.2.2.2.2.2.2.2.toNat+bG (hasB set) (most.toNat - (x.2.2.2.2.2.2.2.toNat - a)) (S.drop x.2.2.2.2.2.2.2.toNat):Nat):Int))) ?_ n
  (set,b,most,(a:Int),(peek (S.drop a)).1,(peek (S.drop a)).2,S,(a:Int)) ⟨0,by omega,by simp⟩ (by simp;omega)
 ·simpa using this
 rintro x ⟨j,p,rfl⟩;simp only [bO];have d:IntKind.wrap .i64 (((a+j:Nat):Int) - (a:Int))=(j:Int):=by rw [wrap_i64 _ (by omega) (by omega)];omega
 rcases aH (a+j) S.length with f | e
 ·obtain ⟨c,hc⟩:∃c,S[a+j]?=some c:=⟨S[a+j],aT f⟩;have l:IntKind.wrap .i64 (((a+j:Nat):Int)+1)=((a+(j+1):Nat):Int):=by rw [wrap_i64 _ (by omega) (by omega)];omega
  simp only [dp,cr hc,peek,ah,d];by_cases g:(j:Int)<most
  ·obtain ⟨k,i⟩:∃k,most.toNat - (a+j - a)=k+1:=⟨most.toNat - j - 1,by omega⟩;simp only [g,o9,ah,gW,ob,qU,i,bG];cases q:hasB set c with
   | true=>
    simp only [l,qO n S (a+(j+1)) (by omega),ah];refine .inl ⟨_,rfl,⟨j+1,by omega,rfl⟩,?_,?_⟩
    ·simp only [bO];omega
    ·simp only [bO,bM,kP,aM];have:most.toNat - (a+(j+1) - a)=k:=by omega
     rw [this,show a+(j+1)=a+j+1 by omega];omega
   | false=>exact .inr (by simp)
  ·refine .inr ?_;have:most.toNat - (a+j - a)=0:=by omega
   simp only [g,oC,af,this,bG,cM]
 ·refine .inr ?_;simp only [dp,jt e,peek,af];have:bG (hasB set) (most.toNat - (a+j - a)) []=0:=by cases most.toNat - (a+j - a)<;>rfl
  simp only [this,cM]
theorem wR (n:Nat) (set:aa) (b most:Int) (S:aa) (a:Nat) (h:a<=S.length) (g:S.length<4611686018427387904) (f:S.length<n):
  cb n set b most S (a:Int)=some (if ((bG (hasB set) most.toNat (S.drop a):Nat):Int)<b
   then .inl (((a+bG (hasB set) most.toNat (S.drop a):Nat):Int),5,S,((a+bG (hasB set) most.toNat (S.drop a):Nat):Int))
   else .inr ((S.drop a).take (bG (hasB set) most.toNat (S.drop a)),S,((a+bG (hasB set) most.toNat (S.drop a):Nat):Int))):=by
 have d:=mB (hasB set) most.toNat (S.drop a);rw [bN] at d;simp only [cb,Eg,qO n S a h,ob];rw [BG n set b most S a h g f];generalize bG (hasB set) most.toNat (S.drop a)=k at d ⊢;have c:IntKind.wrap .i64 (((a+k:Nat):Int) - (a:Int))=(k:Int):=by rw [wrap_i64 _ (by omega) (by omega)];omega
 simp only [c,wS];by_cases e:(k:Int)<b
 ·simp [e]
 ·simp only [e,oC,af,aE];rw [cT (by omega)];simp only;rw [cT (by omega)];simp only [qu]
theorem TU (a b:Nat):(cond (decide (((a:Nat):Int)<((b:Nat):Int))) ((a:Nat):Int) ((b:Nat):Int))=((min a b:Nat):Int):=by
 by_cases h:a<b
 ·simp [h];omega
 ·simp [h];omega
def asc (l:aa):Prop:=∀c∈l,c.toNat<128
theorem Lq (r:Int) (h:128<=r):∃p e,(Utf8.encode r).data.toList=p++[e]/\1<=p.length/\p.length<=3/\128<=e.toNat:=by
 unfold Utf8.encode;have hc:128<=(if Utf8.valid r then r.toNat else Utf8.runeError):=by
  split
  ·omega
  ·decide
 generalize (if Utf8.valid r then r.toNat else Utf8.runeError)=c at hc;have a:128<=(UInt8.ofNat (0x80+c%64)).toNat:=by
  simp only [Gz];omega
 simp only;split
 ·omega
 ·split
  ·exact ⟨[_],_,rfl,by simp,by simp,a⟩
  ·split
   ·exact ⟨[_,_],_,rfl,by simp,by simp,a⟩
   ·exact ⟨[_,_,_],_,rfl,by simp,by simp,a⟩
theorem M3 {l:aa} (h:asc l) {i:Nat} {c:UInt8} (hi:l[i]?=some c):c.toNat<128:=h c (fc hi)
theorem EW (n:Nat) (set:aa) (h:asc set) (e:set.length<n):aw (dX n) n (set,0)=some (.inr ()):=by
 refine fW (step:=dX n) (λx=>x.1=set) (λx=>set.length - x.2) (λx=>.inr ()) ?_ n _ rfl (by simp;omega);rintro ⟨s,i⟩ rfl;simp only [dX];by_cases hi:i<s.length
 ·have a:Nat.blt i s.length=true:=cP hi;obtain ⟨c,hc⟩:∃c,s[i]?=some c:=⟨s[i],aT hi⟩;have b:=M3 h hc;have d:(((c.toNat:Nat):Int)==65533)=false:=by rw [aI];omega
  simp only [a,ah,Bv hc b,d,af];exact .inl ⟨_,rfl,rfl,by simp only;omega,trivial⟩
 ·have a:Nat.blt i s.length=false:=by
   cases a:Nat.blt i s.length with
   | false=>rfl
   | true=>exact absurd (aL a) (by omega)
  simp only [a,af];exact .inr trivial
theorem zE {l:aa} {c:UInt8} (h:c∉l):Lib.indexByte l c<0:=by
 have b:=qN l c;have d:hasB l c=false:=by
  unfold hasB;rw [ta];intro x hx a;simp only [bp] at a;exact h (a▸hx)
 rw [d] at b;simpa using b
theorem EH (n:Nat) (set:aa) (h:asc set) (w:set.length<n) (hs:set.length<=100) (r:Int) (x:128<=r):eF n set r=some (-1):=by
 have y:decide ((0:Int)<=r)=true:=aq (by omega);have q:decide (r<128)=false:=ar (by omega);simp only [eF,y,q,ah,af];by_cases d:r=65533
 ·have:(r==65533)=true:=bp.2 d;simp only [this,ah,EW n set h w,ob]
 ·have:(r==65533)=false:=aI.2 d;simp only [this,af];obtain ⟨v,o⟩:∃v,ei n r=some v:=by
   unfold ei;generalize decide ((0:Int)<=r)=A;generalize decide (r<55296)=d2;generalize decide ((57343:Int)<r)=l;generalize decide (r<=1114111)=d4;cases A<;>cases d2<;>cases l<;>cases d4<;>exact ⟨_,rfl⟩
  simp only [o,ob];cases v with
  | false=>rfl
  | true=>
   simp only [du,af];obtain ⟨p,e,hp,t,z,B⟩:=Lq r x;simp only [hp];have u:IntKind.wrap .i64 (((p++[e]).length:Nat) - 1:Int)=(p.length:Int):=by
    rw [wrap_i64 _ (by simp<;>omega) (by simp<;>omega)];simp
   rw [u];obtain ⟨m,rfl⟩:∃m,n=m+1:=⟨n - 1,by omega⟩;have a:dW (m+1) (set,p++[e],(p.length:Int),(p.length:Int))=some (.inr (.inl (-1)))\/dW (m+1) (set,p++[e],(p.length:Int),(p.length:Int))=some (.inr (.inr ())):=by
    simp only [dW,jg];by_cases f:p.length<set.length
    ·obtain ⟨c,hc⟩:∃c,set[p.length]?=some c:=⟨set[p.length],aT f⟩;have k:=M3 h hc;have g:(p++[e])[p.length]?=some e:=by simp
     have i:(((c.toNat:Nat):Int) != ((e.toNat:Nat):Int))=true:=by simp only [bne,jW,aI];omega
     have j:IntKind.wrap .i64 ((p.length:Int)+1)=((p.length+1:Nat):Int):=by rw [wrap_i64 _ (by omega) (by omega)];omega
     have hx:e∉List.drop (p.length+1) (List.take set.length set):=by
      intro s;have:=h e (by simpa using List.mem_of_mem_drop s);omega
     left;simp only [f,o9,ah,eJ hc,eJ g,ob,i,j,cT (show p.length+1<=set.length by omega),gW,zE hx]
    ·right;simp only [f,oC,af]
   rcases a with b | b<;>simp only [aw,b,ob]
theorem zD (n:Nat) (set:aa) (c:UInt8) (r:Int) (b:r=((c.toNat:Nat):Int)) (hc:c.toNat<128):eF n set r=some (Lib.indexByte set c):=by
 have e:decide ((0:Int)<=r)=true:=aq (by omega);have a:decide (r<128)=true:=aq (by omega);have f:IntKind.wrap .u8 r=r:=fU _ (by omega) (by omega);have d:dK n set r=some (Lib.indexByte set c):=by rw [b];exact gW n set c
 simp only [eF,e,a,ah,f,d,ob]
theorem Be (n:Nat) (set:aa) (c:UInt8) (hc:c.toNat<128):eF n set ((c.toNat:Nat):Int)=some (Lib.indexByte set c):=zD n set c _ rfl hc
theorem wm (n:Nat) (set:aa) (c:UInt8) (hc:c.toNat<128):dV n set ((c.toNat:Nat):Int)=some (hasB set c):=by
 simp only [dV,Be n set c hc,ob,qU]
theorem xO (n:Nat) (set:aa) (h:asc set) (b:set.length<n) (hs:set.length<=100) (r:Int) (a:128<=r):dV n set r=some false:=by
 simp only [dV,EH n set h b hs r a,ob];rfl
theorem wK (x:Int) (a:0<=x) (b:x<65536):IntKind.wrap .u16 x=x:=by
 show x%65536=x;omega
theorem Fp (w a:Nat):BitVec.ofInt w (a:Int)=BitVec.ofNat w a:=by
 apply BitVec.eq_of_toNat_eq;simp
theorem VJ (k:Nat):(2:Int) ^ k=((2 ^ k:Nat):Int):=by simp
theorem QE (a k:Nat):Int.fdiv (a:Int) (2 ^ k)=((a / 2 ^ k:Nat):Int):=by
 rw [VJ k,Int.fdiv_eq_ediv_of_nonneg _ (Int.natCast_nonneg _)];rfl
def inR (lo hi:Int) (c:UInt8):Bool:=decide (((c.toNat:Nat):Int)>=lo)&&decide (((c.toNat:Nat):Int)<=hi)
def cnt (lo hi:Int) (l:aa):Nat:=l.countP (inR lo hi)
theorem Lr (lo hi:Int) (l:aa):cnt lo hi l<=l.length:=List.countP_le_length
theorem Qo (lo hi:Int) {l:aa} {i:Nat} {c:UInt8} (h:l[i]?=some c):cnt lo hi (l.take (i+1))=cnt lo hi (l.take i)+if inR lo hi c then 1 else 0:=by
 unfold cnt;rw [qp,h,List.countP_append];simp [OH]
theorem H4 (n:Nat) (s:aa) (lo hi:Int) (hs:s.length<n) (l:s.length<100000):gG n s lo hi=some ((cnt lo hi s:Nat):Int):=by
 have:=fW (step:=ij n) (λx=>∃i:Nat,i<=s.length/\x=(s,lo,hi,((cnt lo hi (s.take i):Nat):Int),(i:Int))) (λx=>s.length - x.2.2.2.2.toNat) (λ_=>((cnt lo hi s:Nat):Int)) ?_ n (s,lo,hi,0,0) ⟨0,by omega,by simp [cnt]⟩ (by simp;omega)
 ·simp only [gG,this,ob]
 rintro x ⟨i,k,rfl⟩;rcases aH i s.length with a | g
 ·obtain ⟨c,hc⟩:∃c,s[i]?=some c:=⟨s[i],aT a⟩;have e:=Qo lo hi hc;have d:=Lr lo hi (s.take i);rw [cV] at d;have j:IntKind.wrap .i64 ((i:Int)+1)=((i+1:Nat):Int):=by rw [wrap_i64 _ (by omega) (by omega)];omega
  have h:IntKind.wrap .i64 (((cnt lo hi (s.take i):Nat):Int)+1)=((cnt lo hi (s.take i)+1:Nat):Int):=by rw [wrap_i64 _ (by omega) (by omega)];omega
  refine .inl ⟨(s,lo,hi,((cnt lo hi (s.take (i+1)):Nat):Int),((i+1:Nat):Int)),?_,⟨i+1,a,rfl⟩,by simp only [bO];omega,rfl⟩;simp only [ij,jg,a,o9,ah,eJ hc,ob,j,h];rw [e];by_cases b:((c.toNat:Nat):Int)>=lo
  ·by_cases f:((c.toNat:Nat):Int)<=hi
   ·simp [b,f,inR]
   ·simp [b,f,inR]
  ·simp [b,inR]
 ·have:i=s.length:=by omega
  subst this;refine .inr ?_;simp only [ij,jg,GA,oC,af,nq]
theorem KZ (lo hi:Int) (l:aa):cnt lo hi l=l.length↔∀c∈l,inR lo hi c=true:=by
 unfold cnt;rw [List.countP_eq_length]
theorem QL (lo hi:Int) (l:aa):cnt lo hi l=0↔∀c∈l,inR lo hi c=false:=by
 unfold cnt;rw [List.countP_eq_zero];simp
def be (c:UInt8):Bool:=inR 48 57 c
theorem ca (c:UInt8):be c=true↔48<=c.toNat/\c.toNat<=57:=by
 unfold be inR;simp only [az,cg];omega
theorem CZ (c:UInt8):inR 88 88 c=true↔c=88:=by
 unfold inR;simp only [az,cg];constructor
 ·intro h;apply gD.1;show c.toNat=88;omega
 ·rintro rfl;decide
theorem Md (c:UInt8):inR 48 48 c=true↔c=48:=by
 unfold inR;simp only [az,cg];constructor
 ·intro h;apply gD.1;show c.toNat=48;omega
 ·rintro rfl;decide
theorem LV:∀l:aa,cnt 48 57 l+cnt 88 88 l<=l.length/\(cnt 48 57 l+cnt 88 88 l=l.length↔∀c∈l,be c=true\/c=88)
 | []=>by simp [cnt]
 | c::l=>by
  have ih:=LV l;have d:cnt 48 57 (c::l)=cnt 48 57 l+if inR 48 57 c then 1 else 0:=by simp [cnt,OH]
  have h:cnt 88 88 (c::l)=cnt 88 88 l+if inR 88 88 c then 1 else 0:=by simp [cnt,OH]
  have g:¬(inR 48 57 c=true/\inR 88 88 c=true):=by
   rintro ⟨a,b⟩;have:=(ca c).1 a;rw [(CZ c).1 b] at this;exact absurd this.2 (by decide)
  rw [d,h,aC];simp only [cN,A5];have hx:=CZ c;have f:be c=inR 48 57 c:=rfl;rw [f];cases a:inR 48 57 c<;>cases b:inR 88 88 c
  ·simp only [a,b] at hx ⊢;have:c≠88:=λe=>by simpa using hx.2 e
   simp [this];omega
  ·simp only [a,b] at hx ⊢;have:c=88:=hx.1 trivial;simp only [this,bz,aM,aE,false_or,kP];rw [<-ih.2];omega
  ·simp only [a,b] at hx ⊢;simp only [bz,aM,aE,true_or,kP];rw [<-ih.2];omega
  ·exact absurd ⟨a,b⟩ g
theorem Ox (n:Nat) (s set:aa) (r:asc set) (t:set.length<n) (u:set.length<=100) (hs:s.length<n):
  ∃y,aw (db n) n (true,set,s,0)=some y/\((y=.inr ()/\s.all (hasB set)=true)\/∃i:Nat,y=.inl (i:Int)/\s.all (hasB set)=false):=by
 refine pZ (step:=db n) (λx=>x.1=true/\x.2.1=set/\x.2.2.1=s/\s.all (hasB set)=(s.drop x.2.2.2).all (hasB set)) (λx=>s.length - x.2.2.2) _ ?_ n _ ⟨rfl,rfl,rfl,rfl⟩ (by simp only;omega);rintro ⟨b,st,s',p⟩ ⟨h,g,f,a⟩;simp only at h g f a;rw [h,g,f];clear h g f b st s';rcases aH p s.length with j | l
 ·obtain ⟨c,hc⟩:∃c,s[p]?=some c:=⟨s[p],aT j⟩;have e:Nat.blt p s.length=true:=cP j;rw [cr hc,nz] at a;rcases aH c.toNat 128 with d | d
  ·have o:=Bv hc d;simp only [db,e,ah,ky,o,wm n set c d,ob];cases k:hasB set c with
   | true=>
    rw [k,qZ] at a;exact .inl ⟨_,rfl,⟨rfl,rfl,rfl,a⟩,by simp only;omega⟩
   | false=>
    rw [k,yT] at a;exact .inr ⟨_,rfl,.inr ⟨p,rfl,a⟩⟩
  ·have o:=H6 hc d;have k:hasB set c=false:=by
    unfold hasB;rw [ta];intro x hx q;simp only [bp] at q;have:=r x hx;rw [q] at this;omega
   rw [k,yT] at a;have m:=xO n set r t u (((dec s p).1:Nat):Int) (by omega);simp only [db,e,ah,ky,m,ob];exact .inr ⟨_,rfl,.inr ⟨p,rfl,a⟩⟩
 ·have e:Nat.blt p s.length=false:=by
   cases h:Nat.blt p s.length with
   | false=>rfl
   | true=>exact absurd (aL h) (by omega)
  simp only [db,e,af];rw [jt l] at a;exact .inr ⟨_,rfl,.inl ⟨rfl,by rw [a];rfl⟩⟩
theorem O5 (n:Nat) (s set:aa) (f:asc set) (b:set.length<n) (e:set.length<=100) (hs:s.length<n):gH n s set=some (s.all (hasB set)):=by
 obtain ⟨y,c,d⟩:=Ox n s set f b e hs;simp only [gH,l9,l7,c,ob];rcases d with ⟨rfl,a⟩ | ⟨i,rfl,a⟩
 ·rw [a];rfl
 ·rw [a];simp only [av,tN];omega
theorem P7:asc [48,49,50,51,52,53,54,55,56,57]:=by unfold asc;decide
theorem Pi:asc [88,48,49,50,51,52,53,54,55,56,57]:=by unfold asc;decide
theorem ja (p:UInt8->Bool) (h:∀i:Fin 256,p (UInt8.ofNat i.val)=true) (c:UInt8):p c=true:=by
 have:=h ⟨c.toNat,c.toNat_lt⟩;simpa using this
theorem xF (c:UInt8):hasB [48,49,50,51,52,53,54,55,56,57] c=be c:=by
 have:=ja (λc=>hasB [48,49,50,51,52,53,54,55,56,57] c==be c) (by decide +kernel) c;simpa using this
theorem vQ (c:UInt8):hasB [88,48,49,50,51,52,53,54,55,56,57] c=(be c||c==88):=by
 have:=ja (λc=>hasB [88,48,49,50,51,52,53,54,55,56,57] c==(be c||c==88)) (by decide +kernel) c;simpa using this
theorem Ll (n:Nat) (s:aa) (a:100<n) (hs:s.length<n):gH n s [48,49,50,51,52,53,54,55,56,57]=some (s.all be):=by
 rw [O5 n s _ P7 (by simp;omega) (by simp) hs];congr 2;funext c;exact xF c
theorem JJ (n:Nat) (s:aa) (a:100<n) (hs:s.length<n):gH n s [88,48,49,50,51,52,53,54,55,56,57]=some (s.all λc=>be c||c==88):=by
 rw [O5 n s _ Pi (by simp;omega) (by simp) hs];congr 2;funext c;exact vQ c
def all0 (s:aa):Bool:=s.all λc=>c==48
theorem YM (n:Nat) (s:aa) (hs:s.length<n) (k:s.length<100000):∃y,gu n s 48=some y/\all0 s=all0 y/\y.length<=s.length:=by
 obtain ⟨y,g,a⟩:=pZ (step:=dL n) (λx=>x.2=48/\all0 s=all0 x.1/\x.1.length<=s.length) (λx=>x.1.length) (λy=>all0 s=all0 y/\y.length<=s.length) (by
  rintro ⟨l,c⟩ ⟨rfl,h,d⟩;simp only at h d;by_cases m:l.length>0
  ·have d0:decide (((l.length:Nat):Int)>0)=true:=aq (by omega);have j:IntKind.wrap .i64 (((l.length:Nat):Int) - 1)=((l.length - 1:Nat):Int):=by rw [wrap_i64 _ (by omega) (by omega)];omega
   obtain ⟨c,hc⟩:∃c,l[l.length - 1]?=some c:=⟨l[l.length - 1],aT (by omega)⟩;simp only [dL,d0,ah,j,eJ hc,ob];by_cases f:c=48
   ·have b:(((c.toNat:Nat):Int)==48)=true:=by rw [f];rfl
    simp only [b,ah,cT (show l.length - 1<=l.length by omega),cU];refine .inl ⟨(List.take (l.length - 1) l,48),rfl,⟨rfl,?_,by show (List.take (l.length - 1) l).length<=s.length;rw [cV];omega⟩,by show (List.take (l.length - 1) l).length<l.length;rw [cV];omega⟩;rw [h];have:l=l.take (l.length - 1)++[c]:=by
     have a:=qp (l:=l) (i:=l.length - 1);rw [hc,show l.length - 1+1=l.length by omega,nq] at a;exact a
    rw [this];simp only [all0,EG,nz,List.all_nil,f];simp
   ·have b:(((c.toNat:Nat):Int)==48)=false:=by
     rw [aI];intro e;exact f (gD.1 (by show c.toNat=48;omega))
    simp only [b,af];exact .inr ⟨_,rfl,h,d⟩
  ·have d0:decide (((l.length:Nat):Int)>0)=false:=ar (by omega);simp only [dL,d0,af];exact .inr ⟨_,rfl,h,d⟩) n (s,48) ⟨rfl,rfl,aX _⟩ hs
 exact ⟨y,by simp only [gu,g,ob],a⟩
theorem Y1 (n:Nat) (s:aa) (hs:s.length<n) (m:s.length<100000):∃y,gX n s 48=some y/\all0 s=(y==[]):=by
 obtain ⟨y,g,j⟩:=pZ (step:=fm n) (λx=>x.2=48/\all0 s=all0 x.1/\x.1.length<=s.length) (λx=>x.1.length) (λy=>all0 s=(y==[])) (by
  rintro ⟨l,c⟩ ⟨rfl,h,f⟩;simp only at h f;cases l with
  | nil=>exact .inr ⟨[],rfl,by rw [h];rfl⟩
  | cons c l=>
   have d0:decide ((((c::l).length:Nat):Int)>0)=true:=aq (by simp only [aC];omega);have hc:sx (c::l) 0=some c:=by simp [sx]
   simp only [fm,d0,ah,hc,ob];by_cases a:c=48
   ·have b:(((c.toNat:Nat):Int)==48)=true:=by rw [a];rfl
    have d:bx (c::l).length 1=some 1:=cT (i:=1) (by simp);simp only [b,ah,d,nq,oM,cU];refine .inl ⟨_,rfl,⟨rfl,?_,by show l.length<=s.length;simp only [aC] at f;omega⟩,by simp⟩;rw [h];simp [all0,a]
   ·have b:(((c.toNat:Nat):Int)==48)=false:=by
     rw [aI];intro e;exact a (gD.1 (by show c.toNat=48;omega))
    simp only [b,af];refine .inr ⟨_,rfl,?_⟩;rw [h];have k:(c==48)=false:=aI.2 a;simp [all0,k]) n (s,48) ⟨rfl,rfl,aX _⟩ hs
 exact ⟨y,by simp only [gX,g,ob],j⟩
theorem VS (n:Nat) (s:aa) (hs:s.length<n) (d:s.length<100000):∃y,oS n s=some y/\(y==[])=all0 s:=by
 unfold oS;by_cases h:s=[]
 ·subst h;exact ⟨[],rfl,rfl⟩
 ·have:(s==([]:aa))=false:=aI.2 h;obtain ⟨y,c,e,f⟩:=YM n s hs d;obtain ⟨z,a,b⟩:=Y1 n y (by omega) (by omega);exact ⟨z,by simp only [this,af,c,a,ob],by rw [e,b]⟩
theorem Q0 (s:aa):all0 s=true↔cnt 48 48 s=s.length:=by
 rw [KZ];unfold all0;rw [bW];constructor
 ·intro h c hc;have:=h c hc;rw [bp] at this;exact (Md c).2 this
 ·intro h c hc;rw [bp];exact (Md c).1 (h c hc)
def hasX (s:aa):Bool:=s.any λc=>c==88
theorem Iw (s:aa):hasX s=decide (0<cnt 88 88 s):=by
 have:=QL 88 88 s;unfold hasX;cases h:s.any λc=>c==88 with
 | true=>
  obtain ⟨c,hc,b⟩:=tf.1 h;rw [bp] at b;symm;rw [cg];rcases Ce (cnt 88 88 s) with a | a
  ·have:=this.1 a c hc;rw [(CZ c).2 b] at this;cases this
  ·exact a
 | false=>
  symm;rw [tN];intro a;have:cnt 88 88 s=0:=this.2 λc hc=>by
   cases hx:inR 88 88 c with
   | false=>rfl
   | true=>
    rw [ta] at h;exact absurd (bp.2 ((CZ c).1 hx)) (h c hc)
  omega
theorem Dy (n:Nat) (s:aa):i6 n s=some (hasX s):=by
 have e:UInt8.ofNat (Int.toNat 88)=(88:UInt8):=rfl;have hi:nS n s=some (Lib.indexByte s 88):=by
  simp only [nS,jB,dr,ob,e];by_cases h:([88]:aa)=s
  ·subst h;rfl
  ·have:(([88]:aa)==s)=false:=aI.2 h;simp only [this,af]
 simp only [i6,hi,ob,qU];rfl
theorem uP (n:Nat) (g l:Bool) (d:aa) (x q:Int):dE n g l d x q=some (hasX d):=by
 simp only [dE,Dy,ob]
theorem pR (n:Nat) (g l:Bool) (d:aa) (x q:Int) (hs:d.length<n) (a:d.length<100000):aG n g l d x q=some (if hasX d then 1 else 0):=by
 simp only [aG,H4 n d 88 88 hs a,ob,Iw,cg];by_cases h:0<cnt 88 88 d
 ·have:decide (((cnt 88 88 d:Nat):Int)<1)=false:=ar (by omega);simp [this,h]
 ·have:decide (((cnt 88 88 d:Nat):Int)<1)=true:=aq (by omega);have b:cnt 88 88 d=0:=by omega
  simp [this,b]
def wv (a:Nat) (c:UInt8):Nat:=a*10+(c.toNat - 48)
def dval (a:Nat) (l:aa):Nat:=l.foldl wv a
theorem qt (a:Nat):dval a []=a:=by unfold dval;rw [Iq]
theorem qg (a:Nat) (c:UInt8) (l:aa):dval a (c::l)=dval (wv a c) l:=by
 unfold dval;rw [vU]
theorem HV (l:aa) (a:Nat) (c:UInt8):dval a (l++[c])=dval a l*10+(c.toNat - 48):=by
 have:dval a (l++[c])=wv (dval a l) c:=by
  unfold dval;rw [I7,vU,Iq]
 rw [this];rfl
theorem UA (M:Nat) (j:10000000000000000000<=M) (l:aa):∀(a k:Nat),(∀c∈l,be c=true)->a<10 ^ k->l.length+k<=18->Lib.parseUintM M a l=.ok (dval a l)/\dval a l<10 ^ (l.length+k):=by
 induction l with
 | nil=>
  intro a k _ e _;rw [qt];refine ⟨rfl,?_⟩;simpa using e
 | cons c l ih=>
  intro a k h e g;have hc:=(ca c).1 (h c (by simp));simp only [aC] at g;have hp:(10:Nat) ^ (k+1)=10 ^ k*10:=um 10 k;have f:(10:Nat) ^ (k+1)<=10 ^ 18:=ly (by decide) (by omega);have i:(10:Nat) ^ 18=1000000000000000000:=by decide
  have b:wv a c=a*10+(c.toNat - 48):=rfl;have ih:=ih (wv a c) (k+1) (λd b=>h d (by simp [b])) (by omega) (by omega);refine ⟨?_,?_⟩
  ·simp only [Lib.parseUintM];rw [ae hc,ab (by omega),ab (by omega),<-b,ih.1,qg]
  ·rw [qg,aC,show l.length+1+k=l.length+(k+1) by omega];exact ih.2
theorem JU {l:aa} (h:∀c∈l,be c=true) (b:l≠[]) (k:l.length<=18):yP l=some ((dval 0 l:Nat):Int)/\dval 0 l<10 ^ l.length:=by
 obtain ⟨f,d⟩:=UA (2 ^ 64 - 1) (by decide) l 0 0 h (by simp) (by omega);refine ⟨?_,by simpa using d⟩;have i:dval 0 l<10 ^ 18:=pi d (ly (by decide) (by omega));cases l with
 | nil=>exact absurd rfl b
 | cons c r=>
  have hc:=(ca c).1 (h c (by simp));have g:Lib.parseUintB 64 (c::r)=.ok (dval 0 (c::r)):=by
   unfold Lib.parseUintB;rw [ab b,f]
  have hs:¬(c.toNat=43\/c.toNat=45):=by omega
  simp only [yP,Lib.parseIntB,hs,aE,g];have j:(10:Nat) ^ 18=1000000000000000000:=by decide
  have a:(2:Nat) ^ (64 - 1)=9223372036854775808:=by decide
  have e:¬c.toNat=45:=by omega
  simp only [e,He,kP,xi,aE];rw [a,ab (by omega)]
theorem PT (n k:Nat) (j:k<=18) (h:18<n):pO n (k:Int)=some (((10 ^ k:Nat):Int),0):=by
 have g:(10:Nat) ^ 18=1000000000000000000:=by decide
 have:=fW (step:=lh n) (λx=>∃i:Nat,i<=k/\x=(((10 ^ i:Nat):Int),(k:Int),(i:Int))) (λx=>k - x.2.2.toNat) (λ_=>((10 ^ k:Nat):Int)) (by
  rintro x ⟨i,hi,rfl⟩;rcases aH i k with a | d
  ·have e:(10:Nat) ^ (i+1)<=10 ^ 18:=ly (by decide) (by omega);have hp:(10:Nat) ^ (i+1)=10 ^ i*10:=um 10 i;have f:IntKind.wrap .i64 (((10 ^ i:Nat):Int)*10)=((10 ^ (i+1):Nat):Int):=by rw [wrap_i64 _ (by omega) (by omega)];omega
   have c:IntKind.wrap .i64 ((i:Int)+1)=((i+1:Nat):Int):=by rw [wrap_i64 _ (by omega) (by omega)];omega
   refine .inl ⟨_,?_,⟨i+1,a,rfl⟩,by simp only [bO];omega,rfl⟩;simp only [lh,jg,a,o9,ah,f,c]
  ·have:i=k:=by omega
   subst this;refine .inr ?_;simp only [lh,jg,GA,oC,af]) n (1,(k:Int),0) ⟨0,by omega,rfl⟩ (by simp;omega)
 have b:decide ((k:Int)<0)=false:=ar (by omega);have d2:decide ((k:Int)>18)=false:=ar (by omega);simp only [pO,b,d2,af,this,ob]
theorem lE (x:Int) (a:0<=x) (b:x<18446744073709551616):IntKind.wrap .u64 x=x:=by
 show x%18446744073709551616=x;omega
theorem GF (x:Int):IntKind.wrap .u64 x=x%18446744073709551616:=rfl
theorem NU {a:Nat} (b:a<18446744073709551616):bits .and .u64 (a:Int) 4294967295=((a%4294967296:Nat):Int):=by
 show IntKind.wrap .u64 ((BitVec.ofInt 64 (a:Int) &&& BitVec.ofInt 64 ((4294967295:Nat):Int)).toNat:Int)=_;rw [Fp,Fp,BitVec.toNat_and,BitVec.toNat_ofNat,BitVec.toNat_ofNat,rG (show a<2 ^ 64 from b),rG (by decide)];have:=Nat.and_two_pow_sub_one_eq_mod a 32;rw [show (2:Nat) ^ 32 - 1=4294967295 from by decide,show (2:Nat) ^ 32=4294967296 from by decide] at this;rw [this];exact lE _ (by omega) (by omega)
theorem Ri (a:Nat):Int.fdiv (a:Int) (2 ^ 32)=((a / 4294967296:Nat):Int):=by
 rw [QE]
theorem HZ {a b A B:Nat} (d:a<=A) (c:b<=B):a*b<=A*B:=zy d c
theorem K8 (a b:Nat):a*b=(a / 4294967296)*(b / 4294967296)*18446744073709551616+((a / 4294967296)*(b%4294967296)+(a%4294967296)*(b / 4294967296))*4294967296+(a%4294967296)*(b%4294967296):=by
 have e:a=(a / 4294967296)*4294967296+a%4294967296:=by omega
 have f:b=(b / 4294967296)*4294967296+b%4294967296:=by omega
 generalize a / 4294967296=d at e ⊢;generalize a%4294967296=x0 at e ⊢;generalize b / 4294967296=c at f ⊢;generalize b%4294967296=g at f ⊢;subst e f;rw [iq,Nat.mul_add,Nat.mul_add];have h:d*4294967296*(c*4294967296)=d*c*18446744073709551616:=by
  rw [Nat.mul_mul_mul_comm]
 have i:d*4294967296*g=d*g*4294967296:=by rw [Nat.mul_right_comm]
 have j:x0*(c*4294967296)=x0*c*4294967296:=by rw [Hf]
 rw [h,i,j,iq];omega
theorem Y0 (n a b:Nat) (r:a<18446744073709551616) (o:b<18446744073709551616):la n (a:Int) (b:Int)=some (((a*b / 18446744073709551616:Nat):Int),((a*b%18446744073709551616:Nat):Int)):=by
 have l:=K8 a b;have h:a / 4294967296<=4294967295:=by omega
 have g:a%4294967296<=4294967295:=by omega
 have j:b / 4294967296<=4294967295:=by omega
 have i:b%4294967296<=4294967295:=by omega
 have v:=HZ g i;have x:=HZ g j;have p:=HZ h i;have z:=HZ h j;have k:IntKind.wrap .u64 ((a:Int)*(b:Int))=((a*b%18446744073709551616:Nat):Int):=by
  rw [GF,<-Ig];omega
 simp only [la,Ri,NU r,NU o,k];simp only [<-Ig];generalize (a / 4294967296)*(b / 4294967296)=f at *;generalize (a / 4294967296)*(b%4294967296)=d at *;generalize (a%4294967296)*(b / 4294967296)=e at *;generalize (a%4294967296)*(b%4294967296)=c at *;generalize a*b=N at *;have s:IntKind.wrap .u64 ((c:Nat):Int)=((c:Nat):Int):=lE _ (by omega) (by omega);have u:IntKind.wrap .u64 ((d:Nat):Int)=((d:Nat):Int):=lE _ (by omega) (by omega);have m:IntKind.wrap .u64 ((e:Nat):Int)=((e:Nat):Int):=lE _ (by omega) (by omega);have q:IntKind.wrap .u64 ((f:Nat):Int)=((f:Nat):Int):=lE _ (by omega) (by omega);rw [s,u,m,q,Ri c];have t:IntKind.wrap .u64 (((d:Nat):Int)+((c / 4294967296:Nat):Int))=((d+c / 4294967296:Nat):Int):=by rw [lE _ (by omega) (by omega)];omega
 rw [t,Ri,NU (by omega)];have w:IntKind.wrap .u64 (((f:Nat):Int)+(((d+c / 4294967296) / 4294967296:Nat):Int))=((f+(d+c / 4294967296) / 4294967296:Nat):Int):=by rw [lE _ (by omega) (by omega)];omega
 have y:IntKind.wrap .u64 ((((d+c / 4294967296)%4294967296:Nat):Int)+((e:Nat):Int))=(((d+c / 4294967296)%4294967296+e:Nat):Int):=by rw [lE _ (by omega) (by omega)];omega
 rw [w,y,Ri];have w8:IntKind.wrap .u64 (((f+(d+c / 4294967296) / 4294967296:Nat):Int)+((((d+c / 4294967296)%4294967296+e) / 4294967296:Nat):Int))=((N / 18446744073709551616:Nat):Int):=by
  rw [lE _ (by omega) (by omega)];omega
 rw [w8]
theorem Xr (n a b:Nat) (k:a<9223372036854775808) (j:b<9223372036854775808):wF n (a:Int) (b:Int)=some (if a*b<9223372036854775808 then (((a*b:Nat):Int),0) else (0,15)):=by
 have f:decide ((a:Int)<0)=false:=ar (by omega);have d2:decide ((b:Int)<0)=false:=ar (by omega);have i:IntKind.wrap .u64 (a:Int)=a:=lE _ (by omega) (by omega);have g:IntKind.wrap .u64 (b:Int)=b:=lE _ (by omega) (by omega);simp only [wF,uE,f,d2,af,i,g,ob,Y0 n a b (by omega) (by omega)];generalize a*b=N;by_cases h:18446744073709551616<=N
 ·have c:decide (((N / 18446744073709551616:Nat):Int)>0)=true:=aq (by omega);rw [c,ab (by omega)];rfl
 ·have c:decide (((N / 18446744073709551616:Nat):Int)>0)=false:=ar (by omega);have e:N%18446744073709551616=N:=rG (by omega);rw [c,e];simp only [af,wb,du,tR,jx,ah];by_cases d:N<9223372036854775808
  ·have d4:decide (((N:Nat):Int)<=9223372036854775807)=true:=aq (by omega);rw [d4,ae d,ah,wrap_i64 _ (by omega) (by omega)]
  ·have d4:decide (((N:Nat):Int)<=9223372036854775807)=false:=ar (by omega);rw [d4,ab d,af]
def E16:Nat:=10000000000000000
theorem Vf {x:Nat} (hx:17<=x):E16<10 ^ x:=by
 have:(10:Nat) ^ 17<=10 ^ x:=ly (by decide) hx;have a:(10:Nat) ^ 17=100000000000000000:=by decide
 unfold E16;omega
theorem O2 (n:Nat) (g l:Bool) (d:aa) (x:Nat) (s:Int) (o:∀c∈d,be c=true) (k:d≠[]) (p:d.length<=17) (hx:x<=18) (e:18<n):
  ew n g l d (x:Int) s=some (if dval 0 d*10 ^ x<=E16 then (((dval 0 d*10 ^ x:Nat):Int),0) else (0,6)):=by
 obtain ⟨i,m⟩:=JU o k (by omega);have r:dval 0 d<10 ^ 17:=pi m (ly (by decide) p);have hp:(10:Nat) ^ x<=10 ^ 18:=ly (by decide) hx;have f:(10:Nat) ^ 17=100000000000000000:=by decide
 have q:(10:Nat) ^ 18=1000000000000000000:=by decide
 have j:Nat.ble d.length 9223372036854775806=true:=cP (by omega);simp only [ew,j,ah,i,ob,PT n x hx e,fC,af,Xr n _ _ (show dval 0 d<9223372036854775808 by omega) (show 10 ^ x<9223372036854775808 by omega)];generalize dval 0 d*10 ^ x=N;unfold E16;by_cases h:N<9223372036854775808
 ·rw [ae h];simp only [fC,af];by_cases b:N<=10000000000000000
  ·have a:decide (((N:Nat):Int)>10000000000000000)=false:=ar (by omega);rw [a,ae b,af]
  ·have a:decide (((N:Nat):Int)>10000000000000000)=true:=aq (by omega);rw [a,ab b,ah]
 ·rw [ab h,ab (by omega)];rfl
def pre (d:aa) (i:Nat):Nat:=dval 0 (d.take i)*10 ^ (i - d.length)
theorem R1 {d:aa} {i:Nat} {c:UInt8} (h:d[i]?=some c):pre d (i+1)=10*pre d i+(c.toNat - 48):=by
 have a:=uV h;unfold pre;rw [qp,h,show i+1 - d.length=0 by omega,show i - d.length=0 by omega];simp only [Option.toList,HV,Cj,rD];omega
theorem Tc {d:aa} {i:Nat} (h:d.length<=i):pre d (i+1)=10*pre d i:=by
 unfold pre;rw [js (show d.length<=i+1 by omega),js h,show i+1 - d.length=(i - d.length)+1 by omega,um];rw [<-Hf];omega
theorem Ii (d:aa):∀k i,pre d i<=pre d (i+k)
 | 0,i=>aX _
 | k+1,i=>by
  have ih:=Ii d k i;rcases aH (i+k) d.length with a | b
  ·have:=R1 (aT a);rw [show i+(k+1)=i+k+1 by omega,this];omega
  ·have:=Tc b;rw [show i+(k+1)=i+k+1 by omega,this];omega
theorem jO (n:Nat) (d:aa) (x:Nat) (s:∀c∈d,be c=true) (w:d.length<=100) (hx:x<=100) (v:d.length+x<n):
  am n d (x:Int)=some (if dval 0 d*10 ^ x<=E16 then (((dval 0 d*10 ^ x:Nat):Int),1) else (0,0)):=by
 have a:pre d (d.length+x)=dval 0 d*10 ^ x:=by
  unfold pre;rw [js (by omega),show d.length+x - d.length=x by omega]
 have w0:IntKind.wrap .i64 (((d.length:Nat):Int)+(x:Int))=((d.length+x:Nat):Int):=by rw [wrap_i64 _ (by omega) (by omega)];omega
 have:=fW (step:=fB n) (λq=>∃i:Nat,i<=d.length+x/\pre d i<=E16/\q=(d,(x:Int),((pre d i:Nat):Int),(i:Int))) (λq=>d.length+x - q.2.2.2.toNat) (λ_=>if dval 0 d*10 ^ x<=E16 then .inr ((dval 0 d*10 ^ x:Nat):Int) else .inl (0,0)) (by
  rintro q ⟨i,hi,hp,rfl⟩;simp only [fB,w0,jg];unfold E16 at hp ⊢;have r:IntKind.wrap .i64 ((i:Int)+1)=((i+1:Nat):Int):=by rw [wrap_i64 _ (by omega) (by omega)];omega
  have p:IntKind.wrap .i64 (10*((pre d i:Nat):Int))=((10*pre d i:Nat):Int):=by rw [wrap_i64 _ (by omega) (by omega)];omega
  by_cases f:i<d.length+x
  ·have m:=Ii d (d.length+x - (i+1)) (i+1);rw [show i+1+(d.length+x - (i+1))=d.length+x by omega,a] at m;simp only [f,o9,ah,r,p];rcases aH i d.length with e | j
   ·obtain ⟨c,hc⟩:∃c,d[i]?=some c:=⟨d[i],aT e⟩;have l:=(ca c).1 (s c (fc hc));have hs:=R1 hc;have o:IntKind.wrap .u8 (((c.toNat:Nat):Int) - 48)=((c.toNat - 48:Nat):Int):=by rw [fU _ (by omega) (by omega)];omega
    have t:IntKind.wrap .i64 ((c.toNat - 48:Nat):Int)=((c.toNat - 48:Nat):Int):=wrap_i64 _ (by omega) (by omega);have u:IntKind.wrap .i64 (((10*pre d i:Nat):Int)+((c.toNat - 48:Nat):Int))=((pre d (i+1):Nat):Int):=by rw [wrap_i64 _ (by omega) (by omega)];omega
    simp only [e,o9,ah,eJ hc,ob,o,t,u];by_cases k:pre d (i+1)<=10000000000000000
    ·have b:decide (((pre d (i+1):Nat):Int)>10000000000000000)=false:=ar (by omega);simp only [b,af];exact .inl ⟨_,rfl,⟨i+1,f,k,rfl⟩,by simp only [bO];omega,trivial⟩
    ·have b:decide (((pre d (i+1):Nat):Int)>10000000000000000)=true:=aq (by omega);simp only [b,ah];rw [ab (by omega)];exact .inr rfl
   ·have hs:=Tc j;have g:¬i<d.length:=by omega
    simp only [g,oC,af];rw [<-hs];by_cases k:pre d (i+1)<=10000000000000000
    ·have b:decide (((pre d (i+1):Nat):Int)>10000000000000000)=false:=ar (by omega);simp only [b,af];exact .inl ⟨_,rfl,⟨i+1,f,k,rfl⟩,by simp only [bO];omega,trivial⟩
    ·have b:decide (((pre d (i+1):Nat):Int)>10000000000000000)=true:=aq (by omega);simp only [b,ah];rw [ab (by omega)];exact .inr rfl
  ·have:i=d.length+x:=by omega
   subst this;simp only [GA,oC,af];rw [a] at hp ⊢;rw [ae hp];exact .inr rfl) n (d,(x:Int),0,0) ⟨0,by omega,by unfold pre E16;simp [qt],by unfold pre;simp [qt]⟩ (by simp;omega)
 simp only [am,this,ob];by_cases h:dval 0 d*10 ^ x<=E16
 ·rw [ae h,ae h]
 ·rw [ab h,ab h]
def okM (d:aa) (x:Int):Prop:=(∀c∈d,be c=true)/\1<=d.length/\d.length<=17/\d.head?≠some 48/\0<=x/\x<=16/\¬(x=0/\d.length<5)/\dval 0 d*10 ^ x.toNat<=E16
def okL (d:aa) (x s:Int):Prop:=okM d x/\0<=s/\s<=(d.length:Int)+x
def okS (g:Bool) (d:aa) (x s:Int):Prop:=d.length=4/\(∀c∈d,be c=true\/c=88)/\x=0/\¬(g=true/\all0 d=true)/\0<=s/\s<=4/\¬(0<s/\hasX d=true)
def okY (g l:Bool) (d:aa) (x s:Int):Prop:=if l=true then okL d x s else okS g d x s
instance (d:aa) (x:Int):Decidable (okM d x):=by unfold okM;infer_instance
instance (d:aa) (x s:Int):Decidable (okL d x s):=by unfold okL;infer_instance
instance (g:Bool) (d:aa) (x s:Int):Decidable (okS g d x s):=by unfold okS;infer_instance
instance (g l:Bool) (d:aa) (x s:Int):Decidable (okY g l d x s):=by unfold okY;infer_instance
theorem OA (d:aa):d.all be=true↔∀c∈d,be c=true:=bW
theorem Je (d:aa):(d.all λc=>be c||c==88)=true↔∀c∈d,be c=true\/c=88:=by
 rw [bW];constructor
 ·intro h c hc;have:=h c hc;simpa using this
 ·intro h c hc;have:=h c hc;simpa using this
theorem Uh (c:UInt8):(((c.toNat:Nat):Int)==48)=(c==48):=oz c 48
theorem Um (n:Nat) (g l:Bool) (d:aa) (x s:Int) (z:200<n) (B:d.length<=100):ba n g l d x s=some (decide (okM d x)):=by
 unfold ba;by_cases y:d.length<1
 ·have e:decide (((d.length:Nat):Int)<1)=true:=aq (by omega);rw [e,ar (λh:okM d x=>by have:=h.2.1;omega)];rfl
 ·have e:decide (((d.length:Nat):Int)<1)=false:=ar (by omega);rw [e,af];by_cases A:d.length>17
  ·have e:decide (((d.length:Nat):Int)>17)=true:=aq (by omega);rw [e,ar (λh:okM d x=>by have:=h.2.2.1;omega)];rfl
  ·have e:decide (((d.length:Nat):Int)>17)=false:=ar (by omega);rw [e,af,Ll n d (by omega) (by omega)];simp only [ob];cases p:d.all be with
   | false=>
    rw [ar (λh:okM d x=>by rw [(OA d).2 h.1] at p;cases p)];rfl
   | true=>
    have a:=(OA d).1 p;obtain ⟨c,r,rfl⟩:∃c r,d=c::r:=by
     cases d with
     | nil=>simp at y
     | cons c r=>exact ⟨c,r,rfl⟩
    have o:sx (c::r) 0=some c:=by simp [sx]
    simp only [du,af,o,Uh];by_cases f:c=48
    ·rw [ar (λh:okM (c::r) x=>h.2.2.2.1 (by rw [f];rfl)),f];rfl
    ·have e:(c==48)=false:=aI.2 f;rw [e,af];by_cases v:x<0
     ·rw [aq v,ar (λh:okM (c::r) x=>by have:=h.2.2.2.2.1;omega)];rfl
     ·rw [ar v,af];by_cases u:x>16
      ·rw [aq u,ar (λh:okM (c::r) x=>by have:=h.2.2.2.2.2.1;omega)];rfl
      ·rw [ar u,af];obtain ⟨k,rfl⟩:∃k:Nat,x=(k:Int):=⟨x.toNat,by omega⟩;have t:=O2 n g l (c::r) k s a (by simp) (by omega) (by omega) (by omega);rw [t];have key:¬((k:Int)=0/\(c::r).length<5)->(okM (c::r) (k:Int)↔dval 0 (c::r)*10 ^ k<=E16):=by
        intro j;constructor
        ·intro h;simpa using h.2.2.2.2.2.2.2
        ·intro h;exact ⟨a,by omega,by omega,by simpa using f,by omega,by omega,j,by simpa using h⟩
       have b:¬((k:Int)=0/\(c::r).length<5)->(ob (some (if dval 0 (c::r)*10 ^ k<=E16 then (((dval 0 (c::r)*10 ^ k:Nat):Int),(0:Int)) else (0,6))) λq=>(some (q.2==0)))=some (decide (okM (c::r) (k:Int))):=by
        intro j;by_cases m:dval 0 (c::r)*10 ^ k<=E16
        ·rw [ae m,aq ((key j).2 m)];rfl
        ·rw [ab m,ar (λh=>m ((key j).1 h))];rfl
       by_cases i:(k:Int)=0
       ·have e:((k:Int)==0)=true:=bp.2 i;rw [e,ah];by_cases w:(c::r).length<5
        ·have e:decide ((((c::r).length:Nat):Int)<5)=true:=aq (by omega);rw [e,ar (λh:okM (c::r) (k:Int)=>h.2.2.2.2.2.2.1 ⟨i,w⟩)];rfl
        ·have e:decide ((((c::r).length:Nat):Int)<5)=false:=ar (by omega);rw [e,af];exact b (λh=>w h.2)
       ·have e:((k:Int)==0)=false:=aI.2 i;rw [e,af];exact b (λh=>i h.1)
theorem Qb (n:Nat) (g l:Bool) (d:aa) (x s:Int) (c:200<n) (e:d.length<=100):
  (ob (ba n g l d x s) λr=>(cond (!r) (some (6:Int)) (cond (decide (s<0)) (some 6) (cond (decide (s>(IntKind.wrap .i64 (((d.length:Nat):Int)+x)))) (some 6) (some 0)))))=some (if okL d x s then 0 else 6):=by
 rw [Um n g l d x s c e];simp only [ob];by_cases h:okM d x
 ·rw [aq h];have hx:=h.2.2.2.2;have w:IntKind.wrap .i64 (((d.length:Nat):Int)+x)=((d.length:Nat):Int)+x:=wrap_i64 _ (by omega) (by omega);rw [w];simp only [du,af,bE];by_cases b:s<0
  ·rw [ae b,ab (λq:okL d x s=>by have:=q.2.1;omega)]
  ·rw [ab b];by_cases a:s>((d.length:Nat):Int)+x
   ·rw [ae a,ab (λq:okL d x s=>by have:=q.2.2;omega)]
   ·rw [ab a,ae ⟨h,by omega,by omega⟩]
 ·rw [ar h,ab (λq:okL d x s=>h q.1)];rfl
theorem C3 (n:Nat) (g l:Bool) (d:aa) (x s:Int) (v:200<n) (A:d.length<=100):cH n g l d x s=some (if okY g l d x s then 0 else 6):=by
 obtain ⟨y,z,hy⟩:=VS n d (by omega) (by omega);unfold cH;rw [JJ n d (by omega) (by omega),z,uP];cases l with
 | true=>
  have b:(if okY g true d x s then (0:Int) else 6)=if okL d x s then 0 else 6:=by simp only [okY,aM]
  rw [b];have st:=Qb n g true d x s v A;simp only [ah];generalize (ob (ba n g true d x s) λr=>(cond (!r) (some (6:Int)) (cond (decide (s<0)) (some 6) (cond (decide (s>(IntKind.wrap .i64 (((d.length:Nat):Int)+x)))) (some 6) (some 0)))))=T at st ⊢;simp only [ob];rw [st];cases (((d.length:Nat):Int)==4)<;>cases (d.all λc=>be c||c==88)<;>cases (x==0)<;>cases g<;>cases (y==[])<;>cases (s != 0)<;>rfl
 | false=>
  have b:(if okY g false d x s then (0:Int) else 6)=if okS g d x s then 0 else 6:=by simp only [okY,bz,aE]
  rw [b];simp only [af,ob];by_cases f:d.length=4
  ·have i:(((d.length:Nat):Int)==4)=true:=bp.2 (by omega);rw [i,ah];cases j:(d.all λc=>be c||c==88) with
   | false=>
    rw [ab (λq:okS g d x s=>by rw [(Je d).2 q.2.1] at j;cases j)];rfl
   | true=>
    have e:=(Je d).1 j;rw [ah];by_cases m:x=0
    ·subst m;have w:IntKind.wrap .i64 (((d.length:Nat):Int)+0)=4:=by rw [f];decide
     rw [w];have a:¬(g=true/\all0 d=true)->(cond (s != 0) (cond (!(!hasX d)) (some (6:Int)) (cond (decide (s<0)) (some 6) (cond (decide (s>4)) (some 6) (some 0)))) (cond (decide (s<0)) (some 6) (cond (decide (s>4)) (some 6) (some 0))))=some (if okS g d 0 s then 0 else 6):=by
      intro t;simp only [bE,wH,Bool.not_not];by_cases s0:s=0
      ·subst s0;rw [ae rfl,ab (by omega),ab (by omega),ae ⟨f,e,rfl,t,by omega,by omega,by omega⟩]
      ·rw [ab s0];cases p:hasX d with
       | true=>
        by_cases h:s<0
        ·rw [ab (λq:okS g d 0 s=>by have:=q.2.2.2.2.1;omega)];rfl
        ·rw [ab (λq:okS g d 0 s=>q.2.2.2.2.2.2 ⟨by omega,p⟩)];rfl
       | false=>
        rw [af];by_cases h:s<0
        ·rw [ae h,ab (λq:okS g d 0 s=>by have:=q.2.2.2.2.1;omega)]
        ·rw [ab h];by_cases u:s>4
         ·rw [ae u,ab (λq:okS g d 0 s=>by have:=q.2.2.2.2.2.1;omega)]
         ·rw [ab u,ae ⟨f,e,rfl,t,by omega,by omega,λq=>by rw [p] at q;cases q.2⟩]
     have k:((0:Int)==0)=true:=rfl;rw [k,ah];cases g with
     | false=>
      simp only [af];exact a (by simp)
     | true=>
      simp only [ah];rw [hy];cases o:all0 d with
      | true=>rw [ab (λq:okS true d 0 s=>q.2.2.2.1 ⟨rfl,o⟩)];rfl
      | false=>
       simp only [jx,ah];exact a (by rw [o];simp)
    ·have k:(x==0)=false:=aI.2 m;rw [k,ab (λq:okS g d x s=>m q.2.2.1)];rfl
  ·have i:(((d.length:Nat):Int)==4)=false:=aI.2 (by omega);rw [i,ab (λq:okS g d x s=>f q.1)];rfl
theorem TV (d:aa):cnt 48 57 d=d.length↔∀c∈d,be c=true:=KZ 48 57 d
theorem Ek (n:Nat) (g l:Bool) (d:aa) (x s:Int) (L:200<n) (J:d.length<=100):cR n g l d x s=some (if okY g l d x s then 1 else 0):=by
 have hs:=LV d;have u:=Iw d;have w:=Q0 d;have v:=TV d;unfold cR;rw [H4 n d 48 57 (by omega) (by omega),H4 n d 88 88 (by omega) (by omega),H4 n d 48 48 (by omega) (by omega)];simp only [ob];generalize N:cnt 48 57 d=A at *;generalize M:cnt 88 88 d=B at *;have w0:IntKind.wrap .i64 (((A:Nat):Int)+((B:Nat):Int))=((A+B:Nat):Int):=by rw [wrap_i64 _ (by omega) (by omega)];omega
 rw [w0];simp only [wH,bE,Jl];by_cases y:A+B=d.length
 ·rw [ae (by omega)];have m:=hs.2.1 y;by_cases E:s<0
  ·rw [ae E,ab];intro q;unfold okY at q;split at q
   ·have:=q.2.1;omega
   ·have:=q.2.2.2.2.1;omega
  ·rw [ab E];cases l with
   | false=>
    have i:(if okY g false d x s then (1:Int) else 0)=if okS g d x s then 1 else 0:=by simp only [okY,bz,aE]
    rw [i,af];by_cases j:d.length=4
    ·rw [ae (by omega)];by_cases f:x=0
     ·rw [ae f];have a:¬(g=true/\all0 d=true)->(if s>4 then some (0:Int) else if s>0 then (if ((B:Nat):Int)>0 then some 0 else some 1) else some 1)=some (if okS g d x s then 1 else 0):=by
       intro H;by_cases p:s>4
       ·rw [ae p,ab (λq:okS g d x s=>by have:=q.2.2.2.2.2.1;omega)]
       ·rw [ab p];by_cases G:s>0
        ·rw [ae G];by_cases o:((B:Nat):Int)>0
         ·rw [ae o,ab (λq:okS g d x s=>q.2.2.2.2.2.2 ⟨by omega,by rw [u];exact aq (by omega)⟩)]
         ·rw [ab o,ae ⟨j,m,f,H,by omega,by omega,λq=>by
           have:=q.2;rw [u,cg] at this;omega⟩]
        ·rw [ab G,ae ⟨j,m,f,H,by omega,by omega,λq=>by omega⟩]
      cases g with
      | false=>rw [af];exact a (by simp)
      | true=>
       rw [ah,gU];by_cases b:all0 d=true
       ·rw [ae (by have:=w.1 b;omega),ab (λq:okS true d x s=>q.2.2.2.1 ⟨rfl,b⟩)]
       ·rw [ab (λq=>b (w.2 (by omega)))];exact a (λq=>b q.2)
     ·rw [ab f,ab (λq:okS g d x s=>f q.2.2.1)]
    ·rw [ab (by omega),ab (λq:okS g d x s=>j q.1)]
   | true=>
    have i:(if okY g true d x s then (1:Int) else 0)=if okL d x s then 1 else 0:=by simp only [okY,aM]
    rw [i,ah];by_cases o:((B:Nat):Int)>0
    ·rw [ae o,ab];intro q;have:=v.2 q.1.1;omega
    ·rw [ab o];have h:=v.1 (by omega);by_cases j:((A:Nat):Int)<1
     ·rw [ae j,ab (λq:okL d x s=>by have:=q.1.2.1;omega)]
     ·rw [ab j];by_cases f:((A:Nat):Int)>17
      ·rw [ae f,ab (λq:okL d x s=>by have:=q.1.2.2.1;omega)]
      ·rw [ab f];obtain ⟨c,r,rfl⟩:∃c r,d=c::r:=by
        cases d with
        | nil=>simp at y;omega
        | cons c r=>exact ⟨c,r,rfl⟩
       have z:sx (c::r) 0=some c:=by simp [sx]
       simp only [z,Uh,gU];by_cases b:c=48
       ·rw [ae b,ab (λq:okL (c::r) x s=>q.1.2.2.2.1 (by rw [b];rfl))]
       ·rw [ab b];by_cases C:x<0
        ·rw [ae C,ab (λq:okL (c::r) x s=>by have:=q.1.2.2.2.2.1;omega)]
        ·rw [ab C];by_cases D:x>16
         ·rw [ae D,ab (λq:okL (c::r) x s=>by have:=q.1.2.2.2.2.2.1;omega)]
         ·rw [ab D];obtain ⟨k,rfl⟩:∃k:Nat,x=(k:Int):=⟨x.toNat,by omega⟩;have K:IntKind.wrap .i64 (((A:Nat):Int)+(k:Int))=((A+k:Nat):Int):=by rw [wrap_i64 _ (by omega) (by omega)];omega
          rw [K,jO n (c::r) k h J (by omega) (by omega)];have t:(c::r).length=A:=by omega
          have a:¬((k:Int)=0/\(c::r).length<5)->(if s>((A+k:Nat):Int) then some (0:Int) else some (if dval 0 (c::r)*10 ^ k<=E16 then (((dval 0 (c::r)*10 ^ k:Nat):Int),(1:Int)) else (0,0)).2)=some (if okL (c::r) (k:Int) s then 1 else 0):=by
           intro I;by_cases p:s>((A+k:Nat):Int)
           ·rw [ae p,ab (λq:okL (c::r) (k:Int) s=>by have:=q.2.2;rw [t] at this;omega)]
           ·rw [ab p];by_cases e:dval 0 (c::r)*10 ^ k<=E16
            ·rw [ae e,ae ⟨⟨h,by omega,by omega,by simpa using b,by omega,by omega,I,by simpa using e⟩,by omega,by omega⟩]
            ·rw [ab e,ab (λq:okL (c::r) (k:Int) s=>e (by simpa using q.1.2.2.2.2.2.2.2))]
          by_cases e:(k:Int)=0
          ·rw [ae e];by_cases F:((A:Nat):Int)<5
           ·rw [ae F,ab (λq:okL (c::r) (k:Int) s=>q.1.2.2.2.2.2.2.1 ⟨e,by omega⟩)]
           ·rw [ab F];exact a (λq=>by omega)
          ·rw [ab e];exact a (λq=>e q.1)
 ·rw [ab (by omega),ab];intro q;apply y;rw [hs.2];unfold okY at q;split at q
  ·exact λc hc=>.inl (q.1.1 c hc)
  ·exact q.2.1
theorem Oa:∀(l:aa) (a:Nat),a*10 ^ l.length<=dval a l
 | [],a=>by rw [qt];simp
 | c::l,a=>by
  have ih:=Oa l (wv a c);rw [qg,aC,um];have h:a*10<=wv a c:=Da _ _;have b:=o8 (10 ^ l.length) h;have d:a*(10 ^ l.length*10)=a*10*10 ^ l.length:=by rw [vi (10 ^ l.length) 10,Hf]
  omega
theorem rJ:∀(l:aa) (a k:Nat),(∀c∈l,be c=true)->a<10 ^ k->dval a l<10 ^ (l.length+k)
 | [],a,k,_,h=>by rw [qt];simpa using h
 | c::l,a,k,e,h=>by
  have hc:=(ca c).1 (e c (by simp));have hp:(10:Nat) ^ (k+1)=10 ^ k*10:=um 10 k;have hs:wv a c=a*10+(c.toNat - 48):=rfl;have ih:=rJ l (wv a c) (k+1) (λd b=>e d (by simp [b])) (by omega);rw [qg,aC,show l.length+1+k=l.length+(k+1) by omega];exact ih
structure Num (d:aa) (k q:Nat):Prop where
 dig:∀c∈d,be c=true
 ne:d≠[]
 wide:d.length+k<=17
 small:dval 0 d*10 ^ k<=E16
 sig:q<=d.length+k
theorem ve {d:aa} (h:∀c∈d,be c=true):hasX d=false:=by
 unfold hasX;rw [ta];intro c hc a;rw [bp] at a;have:=(ca c).1 (h c hc);rw [a] at this;exact absurd this.2 (by decide)
theorem th {g l:Bool} {d:aa} {x s:Int} (h:okY g l d x s) (j:hasX d=false):∃k q:Nat,x=(k:Int)/\s=(q:Int)/\Num d k q:=by
 cases l with
 | true=>
  have h:okL d x s:=by simpa [okY] using h
  obtain ⟨⟨a,f,C,i,y,v,A,w⟩,u,B⟩:=h;refine ⟨x.toNat,s.toNat,by omega,by omega,a,by intro e;subst e;simp at f,?_,w,by omega⟩;cases d with
  | nil=>simp at f
  | cons c r=>
   have hc:=(ca c).1 (a c (by simp));have o:c≠48:=by simpa using i
   have n:1<=wv 0 c:=by
    have:c.toNat≠48:=λe=>o (gD.1 e);show 1<=0*10+(c.toNat - 48);omega
   have z:=Oa r (wv 0 c);rw [<-qg] at z;have u:10 ^ r.length<=dval 0 (c::r):=by
    have:=o8 (10 ^ r.length) n;omega
   have p:=o8 (10 ^ x.toNat) u;rw [<-Nat.pow_add] at p;rcases aH (r.length+x.toNat) 17 with b | m
   ·simp only [aC];omega
   ·have:=Vf m;omega
 | false=>
  have h:okS g d x s:=by simpa [okY] using h
  obtain ⟨a,f,C,i,y,v,A⟩:=h;have t:∀c∈d,be c=true:=by
   intro c hc;rcases f c hc with h | h
   ·exact h
   ·exfalso;unfold hasX at j;rw [ta] at j;exact j c hc (bp.2 h)
  have b:=rJ d 0 0 t (by simp);rw [a] at b;refine ⟨0,s.toNat,by omega,by omega,t,by intro e;subst e;simp at a,by omega,?_,by omega⟩;have i:(10:Nat) ^ (4+0)=10000:=by decide
  unfold E16;simp only [Cj,rD];omega
def val (d:aa) (k:Nat):Nat:=dval 0 d*10 ^ k
theorem C2 (n:Nat) (g l:Bool) (d:aa) (x s:Int) (b:200<n) (e:d.length<=100):
  eU n g l d x s=some (if okY g l d x s/\hasX d=false then (if g then -((val d x.toNat:Nat):Int) else ((val d x.toNat:Nat):Int),0) else (0,6)):=by
 unfold eU;rw [C3 n g l d x s b e,uP];simp only [ob];by_cases h:okY g l d x s
 ·rw [ae h];cases c:hasX d with
  | true=>rw [ab (by simp)];rfl
  | false=>
   rw [ae ⟨h,rfl⟩];obtain ⟨k,q,rfl,rfl,a⟩:=th h c;rw [O2 n g l d k q a.dig a.ne (by have:=a.wide;omega) (by have:=a.wide;omega) (by omega),ae a.small];have hs:=a.small;unfold E16 at hs;cases g with
   | true=>
    simp only [fC,af,ah,bO,val,aM];rw [wrap_i64 _ (by omega) (by omega),Az]
   | false=>simp [val]
 ·rw [ab h,ab (λq=>h q.1)];rfl
theorem bQ {a b:aa} (h:a.length+b.length<=1000000):cat a b=some (a++b):=by
 unfold cat;rw [ae (by omega)]
theorem cut1 {l:aa} {i:Nat} {c:UInt8} (h:l[i]?=some c):List.drop i (List.take (i+1) l)=[c]:=by
 have a:=uV h;rw [qp,h,EM (by rw [cV];omega)];rfl
theorem U7 {l:aa} {i:Nat} {c:UInt8} (h:l[i]?=some c):List.take (i+1) l=List.take i l++[c]:=by
 rw [qp,h];rfl
theorem rW {g l:Bool} {d:aa} {x s:Int} (h:okY g l d x s) (a:hasX d=true):l=false/\x=0/\s=0/\d.length=4/\∀c∈d,be c=true\/c=88:=by
 cases l with
 | true=>
  have h:okL d x s:=by simpa [okY] using h
  rw [ve h.1.1] at a;cases a
 | false=>
  have h:okS g d x s:=by simpa [okY] using h
  obtain ⟨b,i,j,k,n,m,f⟩:=h;refine ⟨rfl,j,?_,b,i⟩;have:¬0<s:=λe=>f ⟨e,a⟩;omega
theorem iN {g l:Bool} {d:aa} {x s:Int} (h:okY g l d x s):0<=x/\x<=16/\0<=s/\s<=17/\1<=d.length/\d.length<=17:=by
 cases b:hasX d with
 | true=>
  obtain ⟨rfl,rfl,rfl,j,_⟩:=rW h b;omega
 | false=>
  obtain ⟨k,q,rfl,rfl,a⟩:=th h b;have e:=a.wide;have f:=a.sig;have i:1<=d.length:=by
   cases d with
   | nil=>exact absurd rfl a.ne
   | cons c r=>simp
  omega
theorem K6 {g l:Bool} {d:aa} {x s:Int} (h:okY g l d x s):vY d x s=true:=by
 obtain ⟨e,f,i,a,c,b⟩:=iN h;unfold vY;rw [aq (by omega),cP (by omega)];rfl
def numU (d:UInt8):aa->Nat⊕(Nat×Nat)
 | []=>.inr (d.toNat - 48,2)
 | e::_=>if be e=true then .inr (10*(d.toNat - 48)+(e.toNat - 48),3) else .inr (d.toNat - 48,2)
def numT:aa->Nat⊕(Nat×Nat)
 | []=>.inl 1
 | d::r=>if 49<=d.toNat/\d.toNat<=57 then numU d r else .inl 1
def numS (letter:UInt8):aa->Nat⊕(Nat×Nat)
 | []=>.inr (0,0)
 | c::r=>if c=letter then numT r else .inr (0,0)
theorem wJ (letter:UInt8):numS letter []=.inr (0,0):=rfl
theorem oh (letter c:UInt8) (r:aa):numS letter (c::r)=if c=letter then numT r else .inr (0,0):=rfl
theorem BU:numT []=.inl 1:=rfl
theorem pC (d:UInt8) (r:aa):numT (d::r)=if 49<=d.toNat/\d.toNat<=57 then numU d r else .inl 1:=rfl
theorem uK (d:UInt8):numU d []=.inr (d.toNat - 48,2):=rfl
theorem n6 (d e:UInt8) (r:aa):numU d (e::r)=if be e=true then .inr (10*(d.toNat - 48)+(e.toNat - 48),3) else .inr (d.toNat - 48,2):=rfl
theorem Am (c:UInt8) (h:c.toNat<128):(Utf8.encode ((c.toNat:Nat):Int)).data.toList=[c]:=by
 have:=ja (λc=>(decide (128<=c.toNat))||(Utf8.encode ((c.toNat:Nat):Int)).data.toList==[c]) (by decide +kernel) c;simp only [ip,cg,bp] at this;rcases this with a | a
 ·omega
 ·exact a
theorem ri {c:UInt8} (h:48<=c.toNat/\c.toNat<=57):Lib.digitVal c=some (c.toNat - 48):=by
 unfold Lib.digitVal;rw [ae h]
theorem AT {c:UInt8} (h:48<=c.toNat/\c.toNat<=57) (r:aa):Lib.atoi (c::r)=(Lib.decNat (c::r)).map λ(m:Nat)=>(m:Int):=by
 have a:(c==45)=false:=by
  rw [aI];rintro rfl;exact absurd h.1 (by decide)
 have b:(c==43)=false:=by
  rw [aI];rintro rfl;exact absurd h.1 (by decide)
 simp only [Lib.atoi,a,b,bz,aE]
theorem RR {c:UInt8} (h:48<=c.toNat/\c.toNat<=57):Lib.atoi [c]=some ((c.toNat - 48:Nat):Int):=by
 rw [AT h];simp only [Lib.decNat,List.isEmpty_cons,bz,aE,Lib.decFrom,ri h,fg,CC,dc]
theorem Js {c e:UInt8} (h:48<=c.toNat/\c.toNat<=57) (a:48<=e.toNat/\e.toNat<=57):Lib.atoi [c,e]=some ((10*(c.toNat - 48)+(e.toNat - 48):Nat):Int):=by
 rw [AT h];simp only [Lib.decNat,List.isEmpty_cons,bz,aE,Lib.decFrom,ri h,ri a,fg,CC,dc];rw [vi]
theorem AL (c:UInt8):hasB [49,50,51,52,53,54,55,56,57] c=decide (49<=c.toNat/\c.toNat<=57):=by
 have:=ja (λc=>hasB [49,50,51,52,53,54,55,56,57] c==decide (49<=c.toNat/\c.toNat<=57)) (by decide +kernel) c;simpa using this
theorem kO {p q:UInt8->Bool} (h:∀c,p c=q c):∀(k:Nat) (l:aa),bG p k l=bG q k l
 | 0,_=>by simp [bG]
 | _+1,[]=>by simp [bG]
 | k+1,c::l=>by simp only [bG,h c,kO h k l]
theorem n7 {S:aa} {a:Nat} {c:UInt8} {r:aa} (h:S.drop a=c::r):a<S.length/\S[a]?=some c/\S.drop (a+1)=r:=by
 have b:a<S.length:=by
  rcases aH a S.length with q | q
  ·exact q
  ·rw [jt q] at h;cases h
 have e:S[a]?=some S[a]:=aT b;have d:=cr e;rw [h] at d;injection d with h1 h2;exact ⟨b,by rw [e,h1],h2.symm⟩
theorem O8 (n:Nat) (letter:UInt8) (S:aa) (a:Nat) (h:a<=S.length) (E:S.length<100000) (B:S.length<n):
  dC n [letter] S (a:Int)=some (match numS letter (S.drop a) with | .inl k=>.inr (((a+k:Nat):Int),5,S,((a+k:Nat):Int)) | .inr (v,k)=>.inl ((v:Int),S,((a+k:Nat):Int))):=by
 unfold dC;rw [nF n [letter] S a h (by omega)];cases y:S.drop a with
 | nil=>simp [wJ]
 | cons c r=>
  obtain ⟨A,F,w⟩:=n7 y;rw [oh];by_cases hc:c=letter
  ·have j:List.take [letter].length (c::r)=[letter]:=by simp [hc]
   have p:a+[letter].length=a+1:=rfl;rw [ae j,p,ae hc];clear j;simp only [ob,du,af];rw [BY n _ S (a+1) (by omega) (by omega),w];cases r with
   | nil=>simp [BU]
   | cons d u=>
    obtain ⟨x,C,l⟩:=n7 w;rw [pC];simp only [AL,cg];by_cases b:49<=d.toNat/\d.toNat<=57
    ·rw [ae b,ae b];simp only [];rw [wR n _ 0 1 S (a+1+1) (by omega) (by omega) B,l];have D:=mB (hasB [48,49,50,51,52,53,54,55,56,57]) (1:Int).toNat u;rw [ab (by omega)];rw [kO xF];simp only [];rw [Am d (by omega)];have g:Nat.ble ([d]:aa).length 18=true:=rfl;have m:∀e:UInt8,Nat.ble ([d,e]:aa).length 18=true:=λ_=>rfl;have s:a+1+1=a+2:=rfl;have z:a+2+1=a+3:=rfl;have t:=RR (show 48<=d.toNat/\d.toNat<=57 by omega);cases u with
     | nil=>
      have hs:bG be (1:Int).toNat []=0:=rfl;rw [hs,uK];rw [bQ (by simp)];simp only [List.take_nil,kR,cM,g,ah,t,opt,s]
     | cons e f=>
      by_cases i:be e=true
      ·have hs:bG be (1:Int).toNat (e::f)=1:=by
        show bG be (0+1) (e::f)=1;simp [bG,i]
       have q:=Js (show 48<=d.toNat/\d.toNat<=57 by omega) ((ca e).1 i);rw [hs,n6,ae i];have o:List.take 1 (e::f)=[e]:=rfl;rw [o,bQ (by simp)];simp only [eK,dS,m,ah,q,opt,s,z]
      ·have hs:bG be (1:Int).toNat (e::f)=0:=by
        show bG be (0+1) (e::f)=0;simp [bG,i]
       rw [hs,n6,ab i];have o:List.take 0 (e::f)=[]:=rfl;rw [o,bQ (by simp)];simp only [kR,g,ah,t,opt,cM,s]
    ·rw [ab b,ab b]
  ·have e:¬List.take [letter].length (c::r)=[letter]:=by simp [hc]
   rw [ab e,ab hc];simp
theorem Ly (n:Nat) (letter:UInt8) (S:aa) (a:Nat) (h:a<=S.length) (K:S.length<100000):
  ak n S (a:Int) ((letter.toNat:Nat):Int)=some (match numS letter (S.drop a) with | .inl k=>(-1,((a+k:Nat):Int)) | .inr (v,k)=>((v:Int),((a+k:Nat):Int))):=by
 unfold ak;rw [mh];cases i:S.drop a with
 | nil=>
  have:S.length<=a:=by
   rcases aH a S.length with q | q
   ·rw [cr (aT q)] at i;cases i
   ·exact q
  rw [aq this];simp [wJ]
 | cons c r=>
  obtain ⟨C,F,m⟩:=n7 i;have B:IntKind.wrap .i64 ((a:Int)+1)=((a+1:Nat):Int):=by rw [wrap_i64 _ (by omega) (by omega)];omega
  have D:IntKind.wrap .i64 (((a+1:Nat):Int)+1)=((a+2:Nat):Int):=by rw [wrap_i64 _ (by omega) (by omega)];omega
  have z:IntKind.wrap .i64 (((a+2:Nat):Int)+1)=((a+3:Nat):Int):=by rw [wrap_i64 _ (by omega) (by omega)];omega
  rw [ar (show ¬S.length<=a by omega),af,eJ F];simp only [ob,B,D,z,mh,jg];have t:(((c.toNat:Nat):Int) != ((letter.toNat:Nat):Int))=!(c==letter):=by rw [bne,oz]
  rw [t,oh];by_cases hc:c=letter
  ·have e:(!(c==letter))=false:=by rw [hc];simp
   rw [e,af,ae hc];cases r with
   | nil=>
    have:S.length<=a+1:=by
     rcases aH (a+1) S.length with q | q
     ·rw [cr (aT q)] at m;cases m
     ·exact q
    rw [aq this];rfl
   | cons d A=>
    obtain ⟨x,s,b⟩:=n7 m;rw [pC];rw [ar (show ¬S.length<=a+1 by omega),af,eJ s];simp only [];by_cases H:d.toNat<49
    ·have p:decide (((d.toNat:Nat):Int)<49)=true:=aq (by omega);rw [p,ah,ab (by omega)]
    ·have p:decide (((d.toNat:Nat):Int)<49)=false:=ar (by omega);rw [p,af];by_cases I:d.toNat>57
     ·have o:decide (((d.toNat:Nat):Int)>57)=true:=aq (by omega);rw [o,ah,ab (by omega)]
     ·have o:decide (((d.toNat:Nat):Int)>57)=false:=ar (by omega);rw [o,af,ae (by omega)];have E:IntKind.wrap .i64 (IntKind.wrap .u8 (((d.toNat:Nat):Int) - 48))=((d.toNat - 48:Nat):Int):=by
       rw [fU _ (by omega) (by omega),wrap_i64 _ (by omega) (by omega)];omega
      rw [E];cases A with
      | nil=>
       have:¬a+2<S.length:=by
        intro q;rw [cr (aT (show a+1+1<S.length from q))] at b;cases b
       rw [ar this,uK];rfl
      | cons e J=>
       obtain ⟨f,g,_⟩:=n7 b;rw [n6];rw [aq (show a+2<S.length from f),ah,eJ g];simp only [];by_cases w:e.toNat>=48
       ·have l:decide (((e.toNat:Nat):Int)>=48)=true:=aq (by omega);rw [l,ah];by_cases u:e.toNat<=57
        ·have j:decide (((e.toNat:Nat):Int)<=57)=true:=aq (by omega);have y:IntKind.wrap .i64 (IntKind.wrap .u8 (((e.toNat:Nat):Int) - 48))=((e.toNat - 48:Nat):Int):=by
          rw [fU _ (by omega) (by omega),wrap_i64 _ (by omega) (by omega)];omega
         have G:IntKind.wrap .i64 (10*((d.toNat - 48:Nat):Int))=((10*(d.toNat - 48):Nat):Int):=by rw [wrap_i64 _ (by omega) (by omega)];omega
         have ws:IntKind.wrap .i64 (((10*(d.toNat - 48):Nat):Int)+((e.toNat - 48:Nat):Int))=((10*(d.toNat - 48)+(e.toNat - 48):Nat):Int):=by rw [wrap_i64 _ (by omega) (by omega)];omega
         rw [j,ah,ae ((ca e).2 ⟨w,u⟩),y,G,ws]
        ·have j:decide (((e.toNat:Nat):Int)<=57)=false:=ar (by omega);rw [j,af,ab (λq=>u ((ca e).1 q).2)]
       ·have l:decide (((e.toNat:Nat):Int)>=48)=false:=ar (by omega);rw [l,af,ab (λq=>w ((ca e).1 q).1)]
  ·have e:(!(c==letter))=true:=by rw [aI.2 hc];rfl
   rw [e,ah,ab hc];rfl
def isDX (c:UInt8):Bool:=be c||c==88
abbrev YR:=Bool×Bool×aa×Nat×Nat×Nat
def uF (g:Bool) (o:Nat):aa->Nat⊕YR
 | []=>.inl o
 | c::r=>if 49<=c.toNat/\c.toNat<=57 then
   (match numS 69 ((c::r).drop (1+bG be 16 r)) with
   | .inl j=>.inl (o+(1+bG be 16 r)+j)
   | .inr (x,j)=>(match numS 83 ((c::r).drop (1+bG be 16 r+j)) with
    | .inl i=>.inl (o+(1+bG be 16 r)+j+i)
    | .inr (s,i)=>.inr (g,true,(c::r).take (1+bG be 16 r),x,s,o+(1+bG be 16 r)+j+i)))
  else .inl o
def wj (g:Bool) (o:Nat) (l:aa):Nat⊕YR:=
 if bG isDX 4 l<4 then .inl (o+bG isDX 4 l) else
  (match numS 83 (l.drop 4) with
  | .inl i=>.inl (o+4+i)
  | .inr (s,i)=>.inr (g,false,l.take 4,0,s,o+4+i))
def fk (c:UInt8) (l:aa):Nat:=if l.take 1=[c] then 1 else 0
def qE (l:aa):Nat⊕YR:=
 if fk 89 l=1 then uF (fk 45 (l.drop 1)==1) (1+fk 45 (l.drop 1)) (l.drop (1+fk 45 (l.drop 1)))
 else wj (fk 45 l==1) (fk 45 l) (l.drop (fk 45 l))
theorem me (c:UInt8) (l:aa):fk c l=0\/fk c l=1:=by
 unfold fk;split
 ·exact .inr rfl
 ·exact .inl rfl
theorem Cm (c:UInt8) (l:aa):fk c l<=l.length:=by
 unfold fk;split
 ·rename_i h;cases l with
  | nil=>simp at h
  | cons a l=>simp
 ·omega
theorem uy (n:Nat) (c:UInt8) (S:aa) (a:Nat) (h:a<=S.length) (b:S.length<100000):
  aD n [c] S (a:Int)=some (fk c (S.drop a)==1,S,((a+fk c (S.drop a):Nat):Int)):=by
 rw [nF n [c] S a h (by omega)];unfold fk;have e:[c].length=1:=rfl;rw [e];split<;>rfl
def zK (S:aa) (a:Nat):Nat⊕YR->(Int×Int×aa×Int)⊕(Bool×Bool×aa×Int×Int×aa×Int)
 | .inl k=>.inl (((a+k:Nat):Int),5,S,((a+k:Nat):Int))
 | .inr (g,l,d,x,s,k)=>.inr (g,l,d,(x:Int),(s:Int),S,((a+k:Nat):Int))
def pJ (a:Nat):Nat⊕YR->Bool×Bool×aa×Int×Int×Int×Int
 | .inl k=>(false,false,[],0,0,((a+k:Nat):Int),5)
 | .inr (g,l,d,x,s,k)=>(g,l,d,(x:Int),(s:Int),((a+k:Nat):Int),0)
theorem Vr (letter:UInt8) (l:aa):(match numS letter l with | .inl k=>k<=l.length | .inr (_,k)=>k<=l.length):=by
 cases l with
 | nil=>simp [wJ]
 | cons c r=>
  rw [oh];by_cases hc:c=letter
  ·rw [ae hc];cases r with
   | nil=>simp [BU]
   | cons d f=>
    rw [pC];by_cases b:49<=d.toNat/\d.toNat<=57
    ·rw [ae b];cases f with
     | nil=>simp [uK]
     | cons e g=>
      rw [n6];by_cases a:be e=true
      ·rw [ae a];simp
      ·rw [ab a];simp
    ·rw [ab b];simp
  ·rw [ab hc];simp
theorem AS {letter:UInt8} {S:aa} {a:Nat} (h:a<=S.length) {v k:Nat} (b:numS letter (S.drop a)=.inr (v,k)):a+k<=S.length:=by
 have:=Vr letter (S.drop a);rw [b,bN] at this;simp only at this;omega
theorem Tm (n:Nat) (S:aa) (a o:Nat) (g:Bool) (h:a+o<=S.length) (H:S.length<100000) (F:S.length<n):
  (ob (cq n [49,50,51,52,53,54,55,56,57] S ((a+o:Nat):Int)) λB=>(Sum.casesOn (motive:=λ_=>Option ((Int×Int×aa×Int)⊕(Bool×Bool×aa×Int×Int×aa×Int))) B (λf=>(some (.inl (f.1,f.2.1,f.2.2.1,f.2.2.2)))) (λt=>(ob (cb n [48,49,50,51,52,53,54,55,56,57] 0 16 t.2.1 t.2.2) λu=>(Sum.casesOn (motive:=λ_=>Option _) u (λe=>(some (.inl (e.1,e.2.1,e.2.2.1,e.2.2.2)))) (λl=>(ob (cat (Utf8.encode t.1).data.toList l.1) λv=>(ob (dC n [69] l.2.1 l.2.2) λy=>(Sum.casesOn (motive:=λ_=>Option _) y (λm=>(ob (dC n [83] m.2.1 m.2.2) λA=>(Sum.casesOn (motive:=λ_=>Option _) A (λq=>(some (.inr (g,true,v,m.1,q.1,q.2.1,q.2.2)))) (λb=>(some (.inl (b.1,b.2.1,b.2.2.1,b.2.2.2))))))) (λd=>(some (.inl (d.1,d.2.1,d.2.2.1,d.2.2.2)))))))))))))=some (zK S a (uF g o (S.drop (a+o)))):=by
 rw [BY n _ S (a+o) h (by omega)];cases E:S.drop (a+o) with
 | nil=>simp [uF,zK,ob]
 | cons c r=>
  obtain ⟨N,T,I⟩:=n7 E;simp only [AL,cg];by_cases hc:49<=c.toNat/\c.toNat<=57
  ·rw [ae hc];simp only [ob];rw [wR n _ 0 16 S (a+o+1) (by omega) (by omega) F,I];rw [ab (by omega),kO xF];simp only [];rw [Am c (by omega)];have G:(16:Int).toNat=16:=rfl;rw [G];have L:=mB be 16 r;have K:r.length+(a+o+1)=S.length:=by
    have:=cD List.length I;rw [bN] at this;omega
   rw [bQ (by simp only [aC,bh,cV];omega)];simp only [uF];rw [ae hc];generalize R:bG be 16 r=k at L ⊢;have P:[c]++List.take k r=List.take (1+k) (c::r):=by rw [pw];rfl
   rw [P];have z:a+o+1+k<=S.length:=by omega
   have w:List.drop (1+k) (c::r)=S.drop (a+o+1+k):=by
    rw [<-E,jv];congr 1;omega
   rw [O8 n 69 S (a+o+1+k) z H F,<-w];cases M:numS 69 (List.drop (1+k) (c::r)) with
   | inl j=>
    simp only [zK];have:a+o+1+k+j=a+(o+(1+k)+j):=by omega
    rw [this]
   | inr p=>
    obtain ⟨x,j⟩:=p;have J:=M;rw [w] at J;have D:=AS z J;have C:List.drop (1+k+j) (c::r)=S.drop (a+o+1+k+j):=by
     rw [<-E,jv];congr 1;omega
    simp only [];rw [O8 n 83 S (a+o+1+k+j) D H F,<-C];cases O:numS 83 (List.drop (1+k+j) (c::r)) with
    | inl i=>
     simp only [zK];have:a+o+1+k+j+i=a+(o+(1+k)+j+i):=by omega
     rw [this]
    | inr Q=>
     obtain ⟨s,i⟩:=Q;simp only [zK];have:a+o+1+k+j+i=a+(o+(1+k)+j+i):=by omega
     rw [this]
  ·rw [ab hc];simp only [ob,uF];rw [ab hc];rfl
theorem QO (n:Nat) (S:aa) (a o:Nat) (g:Bool) (h:a+o<=S.length) (x:S.length<100000) (u:S.length<n):
  (ob (cb n [88,48,49,50,51,52,53,54,55,56,57] 4 4 S ((a+o:Nat):Int)) λq=>(Sum.casesOn (motive:=λ_=>Option ((Int×Int×aa×Int)⊕(Bool×Bool×aa×Int×Int×aa×Int))) q (λd=>(some (.inl (d.1,d.2.1,d.2.2.1,d.2.2.2)))) (λf=>(ob (dC n [83] f.2.1 f.2.2) λm=>(Sum.casesOn (motive:=λ_=>Option _) m (λe=>(some (.inr (g,false,f.1,0,e.1,e.2.1,e.2.2)))) (λb=>(some (.inl (b.1,b.2.1,b.2.2.1,b.2.2.2)))))))))=some (zK S a (wj g o (S.drop (a+o)))):=by
 rw [wR n _ 4 4 S (a+o) h (by omega) u];have r:∀c,hasB [88,48,49,50,51,52,53,54,55,56,57] c=isDX c:=vQ;have w:(4:Int).toNat=4:=rfl;rw [kO r,w];unfold wj;have v:=mB isDX 4 (S.drop (a+o));rw [bN] at v;by_cases j:bG isDX 4 (S.drop (a+o))<4
 ·rw [ae (by omega),ae j];simp only [ob,zK];rw [gO]
 ·rw [ab (by omega),ab j];have t:∀(k:Nat) (l:aa),bG isDX k l<=k:=by
   intro k
   induction k with
   | zero=>intro l;simp [bG]
   | succ k ih=>
    intro l;cases l with
    | nil=>simp [bG]
    | cons c l=>
     have:=ih l;simp only [bG];split<;>omega
  have y:bG isDX 4 (S.drop (a+o))=4:=by have:=t 4 (S.drop (a+o));omega
  rw [y] at v ⊢;simp only [ob];have hp:a+o+4<=S.length:=by omega
  rw [O8 n 83 S (a+o+4) hp x u,jv];cases z:numS 83 (S.drop (a+o+4)) with
  | inl i=>
   simp only [zK];have:a+o+4+i=a+(o+4+i):=by omega
   rw [this]
  | inr p=>
   obtain ⟨s,i⟩:=p;simp only [zK];have:a+o+4+i=a+(o+4+i):=by omega
   rw [this];rfl
theorem VD (n:Nat) (S:aa) (a:Nat) (h:a<=S.length) (d:S.length<100000) (f:S.length<n):
  my n S (a:Int)=some (zK S a (qE (S.drop a))):=by
 unfold my;rw [uy n 89 S a h d];have c:=Cm 89 (S.drop a);rw [bN] at c;simp only [ob];rw [uy n 45 S (a+fk 89 (S.drop a)) (by omega) d];have b:=Cm 45 (S.drop (a+fk 89 (S.drop a)));rw [bN] at b;simp only [];unfold qE;rcases me 89 (S.drop a) with e | e
 ·rw [e] at b ⊢;simp only [cM,show ((0:Nat)==1)=false from rfl,af,show ¬((0:Nat)=1) from by decide,aE,jv] at b ⊢;have:=QO n S a (fk 45 (S.drop a)) (fk 45 (S.drop a)==1) (by omega) d f;exact this
 ·rw [e] at b ⊢;simp only [show ((1:Nat)==1)=true from rfl,ah,aM,jv] at b ⊢;have:=Tm n S a (1+fk 45 (S.drop (a+1))) (fk 45 (S.drop (a+1))==1) (by omega) d f;rw [<-gO] at this;rw [<-gO];exact this
abbrev stR (S:aa) (a b M:Int) (g L:Bool):aa×Int×Int×Int×Bool×Bool×aa×Int×Int×Bool×Bool×aa×Int×Int:=(S,a,b,M,false,false,[],0,0,g,L,[],0,0)
def isYB (L:Bool) (c:UInt8):Bool:=be c||(c==88&&!L)
theorem Om (n:Nat) (S:aa) (b M:Nat) (g:Bool) (k:0<M) (j:S.length<100000) (a:S[b]?=some 48):aw (aB (n+1)) (n+1) (stR S (b:Int) (b:Int) (M:Int) g true)=some (.inl ((b:Int),5,false,false,[],0,0)):=by
 have h:=uV a;have c:decide ((b:Int)<((S.length:Nat):Int))=true:=aq (by omega);have f:IntKind.wrap .i64 ((b:Int) - (b:Int))=0:=by rw [Int.sub_self];rfl
 have d2:decide ((0:Int)<(M:Int))=true:=aq (by omega);have d:decide ((((48:UInt8).toNat:Nat):Int)>=48)=true:=rfl;have i:decide ((((48:UInt8).toNat:Nat):Int)<=57)=true:=rfl;have e:((((48:UInt8).toNat:Nat):Int)==48)=true:=rfl;simp only [aw,aB,c,ah,f,d2,eJ a,ob,d,i,e,wb]
theorem BK (n:Nat) (S:aa) (b M:Nat) (g L:Bool) (N:b<=S.length) (P:S.length<100000) (O:S.length<n) (A:¬(L=true/\S[b]?=some 48)):
  aw (aB n) n (stR S (b:Int) (b:Int) (M:Int) g L)=some (.inr (S,((b+bG (isYB L) M (S.drop b):Nat):Int),(b:Int),false,false,[],0,0,g,L,[],0,0)):=by
 have:=fW (step:=aB n) (λx=>∃j:Nat,b+j<=S.length/\x=stR S ((b+j:Nat):Int) (b:Int) (M:Int) g L) (λx=>S.length - x.2.1.toNat)
  (λx=>.inr (S,((x.2.1.toNat+bG (isYB L) (M - (x.2.1.toNat - b)) (S.drop x.2.1.toNat):Nat):Int),(b:Int),false,false,[],0,0,g,L,[],0,0)) ?_ n (stR S (b:Int) (b:Int) (M:Int) g L) ⟨0,by omega,rfl⟩ (by simp;omega)
 ·rw [this];simp
 rintro x ⟨j,R,rfl⟩;simp only [bO];rcases aH (b+j) S.length with w | t
 ·obtain ⟨c,hc⟩:∃c,S[b+j]?=some c:=⟨S[b+j],aT w⟩;have d:decide (((b+j:Nat):Int)<((S.length:Nat):Int))=true:=aq (by omega);have l:IntKind.wrap .i64 (((b+j:Nat):Int) - (b:Int))=(j:Int):=by rw [wrap_i64 _ (by omega) (by omega)];omega
  have B:IntKind.wrap .i64 (((b+j:Nat):Int)+1)=((b+(j+1):Nat):Int):=by rw [wrap_i64 _ (by omega) (by omega)];omega
  have p:b+j - b=j:=by omega
  rw [cr hc,p];by_cases Q:j<M
  ·have d2:decide ((j:Int)<(M:Int))=true:=aq (by omega);obtain ⟨q,G⟩:∃q,M - j=q+1:=⟨M - j - 1,by omega⟩;have z:M - (j+1)=q:=by omega
   rw [G];simp only [bG];have D:isYB L c=true->aB n (stR S ((b+j:Nat):Int) (b:Int) (M:Int) g L)=some (.inl (stR S ((b+(j+1):Nat):Int) (b:Int) (M:Int) g L)):=by
    intro hy;by_cases o:be c=true
    ·have J:=(ca c).1 o;have f:decide (((c.toNat:Nat):Int)>=48)=true:=aq (by omega);have r:decide (((c.toNat:Nat):Int)<=57)=true:=aq (by omega);simp only [aB,d,ah,l,d2,eJ hc,ob,f,r,B];cases L with
     | false=>rfl
     | true=>
      by_cases y:j=0
      ·subst y;have k:c≠48:=by
        intro e;exact A ⟨rfl,by rw [<-e];exact hc⟩
       have v:(((c.toNat:Nat):Int)==48)=false:=by rw [Uh];exact aI.2 k
       simp only [cM,wb,ah,v,af]
      ·have F:(((b+j:Nat):Int)==(b:Int))=false:=aI.2 (by omega);simp only [F,af,ah]
    ·have a:be c=false:=by cases h:be c with | false=>rfl | true=>exact absurd h o
     unfold isYB at hy;rw [a] at hy;simp only [oO,az,bp,jW] at hy;obtain ⟨rfl,rfl⟩:=hy;have f:decide ((((88:UInt8).toNat:Nat):Int)>=48)=true:=rfl;have r:decide ((((88:UInt8).toNat:Nat):Int)<=57)=false:=rfl;have v:((((88:UInt8).toNat:Nat):Int)==88)=true:=rfl;simp only [aB,d,ah,l,d2,eJ hc,ob,f,r,v,B,af,jx]
   have i:isYB L c=false->aB n (stR S ((b+j:Nat):Int) (b:Int) (M:Int) g L)=some (.inr (.inr (S,((b+j:Nat):Int),(b:Int),false,false,[],0,0,g,L,[],0,0))):=by
    intro hy;unfold isYB at hy;simp only [oV,Fg] at hy;obtain ⟨a,s⟩:=hy;have C:¬(48<=c.toNat/\c.toNat<=57):=λq=>by rw [(ca c).2 q] at a;cases a
    have m:(((c.toNat:Nat):Int)==88)=(c==88):=oz c 88;have H:(cond (c==88) (cond (!L) (0:Nat) 1) 1)=1:=by
     rcases s with h | h
     ·rw [h];rfl
     ·have:L=true:=by simpa using h
      rw [this];cases c==88<;>rfl
    by_cases K:c.toNat>=48
    ·have f:decide (((c.toNat:Nat):Int)>=48)=true:=aq (by omega);have r:decide (((c.toNat:Nat):Int)<=57)=false:=ar (by omega);simp only [aB,d,ah,l,d2,eJ hc,ob,f,r,af,m];rcases s with h | h
     ·rw [h];rfl
     ·have:L=true:=by simpa using h
      rw [this];cases c==88<;>rfl
    ·have f:decide (((c.toNat:Nat):Int)>=48)=false:=ar (by omega);simp only [aB,d,ah,l,d2,eJ hc,ob,f,af,m];rcases s with h | h
     ·rw [h];rfl
     ·have:L=true:=by simpa using h
      rw [this];cases c==88<;>rfl
   cases hy:isYB L c with
   | true=>
    refine .inl ⟨_,D hy,⟨j+1,by omega,rfl⟩,by simp only [bO];omega,?_⟩;simp only [bO,aM];have I:b+(j+1) - b=j+1:=by omega
    rw [I,z,show b+(j+1)=b+j+1 by omega];have E:b+j+1+bG (isYB L) q (S.drop (b+j+1))=b+j+(bG (isYB L) q (S.drop (b+j+1))+1):=by omega
    rw [E]
   | false=>
    refine .inr ?_;rw [i hy];simp
  ·have d2:decide ((j:Int)<(M:Int))=false:=ar (by omega);have u:M - j=0:=by omega
   refine .inr ?_;rw [u];simp only [aB,d,ah,l,d2,af,bG,cM]
 ·have d:decide (((b+j:Nat):Int)<((S.length:Nat):Int))=false:=ar (by omega);refine .inr ?_;rw [jt t];have u:∀q,bG (isYB L) q []=0:=λq=>by cases q<;>rfl
  simp only [aB,d,af,u,cM]
theorem N1 (n:Nat) (S:aa) (a:Nat) (h:a<=S.length) (b:S.length<100000):
  ak n S (a:Int) 69=some (match numS 69 (S.drop a) with | .inl k=>(-1,((a+k:Nat):Int)) | .inr (v,k)=>((v:Int),((a+k:Nat):Int))):=Ly n 69 S a h b
theorem E4 (n:Nat) (S:aa) (a:Nat) (h:a<=S.length) (b:S.length<100000):
  ak n S (a:Int) 83=some (match numS 83 (S.drop a) with | .inl k=>(-1,((a+k:Nat):Int)) | .inr (v,k)=>((v:Int),((a+k:Nat):Int))):=Ly n 83 S a h b
noncomputable def La (n:Nat) (a0:aa) (B M:Int) (g L:Bool):Option (Bool×Bool×aa×Int×Int×Int×Int):=
 (ob (aw (aB n) n (a0,B,B,M,false,false,[],0,0,g,L,[],0,0)) λo=>(Sum.casesOn (motive:=λ_=>Option (Bool×Bool×aa×Int×Int×Int×Int)) o (λb=>(some (b.2.2.1,b.2.2.2.1,b.2.2.2.2.1,b.2.2.2.2.2.1,b.2.2.2.2.2.2,b.1,b.2.1))) (λa=>(cond (decide ((IntKind.wrap .i64 (a.2.1 - a.2.2.1))<1)) (some (false,false,[],0,0,a.2.1,5)) (cond (!a.2.2.2.2.2.2.2.2.2.1) (cond (decide ((IntKind.wrap .i64 (a.2.1 - a.2.2.1))<4)) (some (false,false,[],0,0,a.2.1,5)) (ob (bx (List.length a.1) a.2.1) λj=>(ob (bx j a.2.2.1) λm=>(cond a.2.2.2.2.2.2.2.2.2.1 (ob (ak n a.1 a.2.1 69) λe=>(cond (decide (e.1<0)) (some (false,false,[],0,0,e.2,5)) (ob (ak n a.1 e.2 83) λd=>(cond (decide (d.1<0)) (some (false,false,[],0,0,d.2,5)) (some (a.2.2.2.2.2.2.2.2.1,a.2.2.2.2.2.2.2.2.2.1,(List.drop m (List.take j a.1)),e.1,d.1,d.2,0)))))) (ob (ak n a.1 a.2.1 83) λc=>(cond (decide (c.1<0)) (some (false,false,[],0,0,c.2,5)) (some (a.2.2.2.2.2.2.2.2.1,a.2.2.2.2.2.2.2.2.2.1,(List.drop m (List.take j a.1)),a.2.2.2.2.2.2.2.2.2.2.2.1,c.1,c.2,0)))))))) (ob (bx (List.length a.1) a.2.1) λk=>(ob (bx k a.2.2.1) λl=>(cond a.2.2.2.2.2.2.2.2.2.1 (ob (ak n a.1 a.2.1 69) λh=>(cond (decide (h.1<0)) (some (false,false,[],0,0,h.2,5)) (ob (ak n a.1 h.2 83) λi=>(cond (decide (i.1<0)) (some (false,false,[],0,0,i.2,5)) (some (a.2.2.2.2.2.2.2.2.1,a.2.2.2.2.2.2.2.2.2.1,(List.drop l (List.take k a.1)),h.1,i.1,i.2,0)))))) (ob (ak n a.1 a.2.1 83) λf=>(cond (decide (f.1<0)) (some (false,false,[],0,0,f.2,5)) (some (a.2.2.2.2.2.2.2.2.1,a.2.2.2.2.2.2.2.2.2.1,(List.drop l (List.take k a.1)),a.2.2.2.2.2.2.2.2.2.2.2.1,f.1,f.2,0))))))))))))
theorem NZ (c:UInt8):isYB true c=be c:=by unfold isYB;cases be c<;>simp
theorem Jx (c:UInt8):isYB false c=isDX c:=by unfold isYB isDX;simp
theorem rr (p:UInt8->Bool):∀(k:Nat) (l:aa),bG p k l<=k
 | 0,l=>by simp [bG]
 | k+1,[]=>by simp [bG]
 | k+1,c::l=>by
  have:=rr p k l;simp only [bG];split<;>omega
theorem FL:decide ((-1:Int)<0)=true:=rfl
theorem GH (x:Nat):decide (((x:Nat):Int)<0)=false:=ar (by omega)
theorem NM (n:Nat) (S:aa) (a o:Nat) (g:Bool) (h:a+o<=S.length) (z:S.length<100000) (G:S.length<n):
  La n S ((a+o:Nat):Int) 17 g true=some (pJ a (uF g o (S.drop (a+o)))):=by
 unfold La;cases d:S.drop (a+o) with
 | nil=>
  have u:¬(true=true/\S[a+o]?=some 48):=by
   rintro ⟨_,q⟩;rw [cr q] at d;cases d
  have l:=BK n S (a+o) 17 g true h z G u;rw [d] at l;have L:bG (isYB true) 17 []=0:=rfl;rw [L,cM] at l;have hl':aw (aB n) n (S,((a+o:Nat):Int),((a+o:Nat):Int),(17:Int),false,false,[],0,0,g,true,[],0,0)=_:=l;rw [hl'];have w:IntKind.wrap .i64 (((a+o:Nat):Int) - ((a+o:Nat):Int))=0:=by rw [Int.sub_self];rfl
  simp only [ob,w,uF,pJ];rfl
 | cons c r=>
  obtain ⟨M,H,R⟩:=n7 d;by_cases hc:c=48
  ·subst hc;obtain ⟨D,rfl⟩:∃q,n=q+1:=⟨n - 1,by omega⟩;have l:=Om D S (a+o) 17 g (by omega) z H;have hl':aw (aB (D+1)) (D+1) (S,((a+o:Nat):Int),((a+o:Nat):Int),(17:Int),false,false,[],0,0,g,true,[],0,0)=_:=l;rw [hl'];have m:¬(49<=(48:UInt8).toNat/\(48:UInt8).toNat<=57):=by decide
   simp only [ob,uF,pJ];rw [ab m]
  ·have m:¬(true=true/\S[a+o]?=some 48):=by
    rintro ⟨_,q⟩;rw [H] at q;exact hc (by simpa using q)
   have l:=BK n S (a+o) 17 g true h z G m;rw [d,kO NZ] at l;have E:=mB be 17 (c::r);have J:(c::r).length+(a+o)=S.length:=by
    have:=cD List.length d;rw [bN] at this;omega
   have hl':aw (aB n) n (S,((a+o:Nat):Int),((a+o:Nat):Int),(17:Int),false,false,[],0,0,g,true,[],0,0)=_:=l;rw [hl'];have w:∀k:Nat,k<=17->IntKind.wrap .i64 (((a+o+k:Nat):Int) - ((a+o:Nat):Int))=(k:Int):=by
    intro k F;rw [wrap_i64 _ (by omega) (by omega)];omega
   by_cases f:be c=true
   ·have P:=(ca c).1 f;have t:49<=c.toNat/\c.toNat<=57:=by
     have:c.toNat≠48:=λe=>hc (gD.1 e);omega
    have b:bG be 17 (c::r)=1+bG be 16 r:=by
     show bG be (16+1) (c::r)=_;simp only [bG,f,aM];omega
    rw [b] at E ⊢;have A:=rr be 16 r;simp only [uF];rw [ae t];generalize bG be 16 r=k at E A ⊢;have O:decide (((1+k:Nat):Int)<1)=false:=ar (by omega);simp only [ob,w (1+k) (by omega),O,af,du,ah,cT (show a+o+(1+k)<=S.length by omega),cT (show a+o<=a+o+(1+k) by omega)];have y:a+o+(1+k)<=S.length:=by omega
    have v:S.drop (a+o+(1+k))=List.drop (1+k) (c::r):=by rw [<-d,jv]
    rw [N1 n S (a+o+(1+k)) y z,v,qu,d];cases K:numS 69 (List.drop (1+k) (c::r)) with
    | inl j=>
     simp only [FL,ah,pJ];have:a+o+(1+k)+j=a+(o+(1+k)+j):=by omega
     rw [this]
    | inr p=>
     obtain ⟨x,j⟩:=p;have I:=K;rw [<-v] at I;have C:=AS y I;have B:S.drop (a+o+(1+k)+j)=List.drop (1+k+j) (c::r):=by rw [<-d,jv];congr 1;omega
     simp only [GH,af];rw [E4 n S (a+o+(1+k)+j) C z,B];cases N:numS 83 (List.drop (1+k+j) (c::r)) with
     | inl i=>
      simp only [FL,ah,pJ];have:a+o+(1+k)+j+i=a+(o+(1+k)+j+i):=by omega
      rw [this]
     | inr Q=>
      obtain ⟨s,i⟩:=Q;simp only [GH,af,pJ];have:a+o+(1+k)+j+i=a+(o+(1+k)+j+i):=by omega
      rw [this]
   ·have b:bG be 17 (c::r)=0:=by
     show bG be (16+1) (c::r)=0;simp only [bG];rw [ab f]
    have t:¬(49<=c.toNat/\c.toNat<=57):=λq=>f ((ca c).2 (by omega));rw [b];simp only [uF];rw [ab t];simp only [ob,w 0 (by omega),pJ];rfl
theorem Kr (n:Nat) (S:aa) (a o:Nat) (g:Bool) (h:a+o<=S.length) (j:S.length<100000) (r:S.length<n):
  La n S ((a+o:Nat):Int) 4 g false=some (pJ a (wj g o (S.drop (a+o)))):=by
 unfold La;have m:=BK n S (a+o) 4 g false h j r (by rintro ⟨q,_⟩;cases q);rw [kO Jx] at m;have l:=mB isDX 4 (S.drop (a+o));have b:=rr isDX 4 (S.drop (a+o));rw [bN] at l;have hl':aw (aB n) n (S,((a+o:Nat):Int),((a+o:Nat):Int),(4:Int),false,false,[],0,0,g,false,[],0,0)=_:=m;rw [hl'];unfold wj;generalize u:bG isDX 4 (S.drop (a+o))=k at l b ⊢;have w:IntKind.wrap .i64 (((a+o+k:Nat):Int) - ((a+o:Nat):Int))=(k:Int):=by rw [wrap_i64 _ (by omega) (by omega)];omega
 simp only [ob,w,jx,ah,af];by_cases f:k<4
 ·rw [ae f];have d:decide ((k:Int)<4)=true:=aq (by omega);rw [d];have e:a+o+k=a+(o+k):=by omega
  simp only [ah,pJ,e];cases decide ((k:Int)<1)<;>rfl
 ·rw [ab f];have c:k=4:=by omega
  subst c;have d:decide (((4:Nat):Int)<4)=false:=rfl;have e:decide (((4:Nat):Int)<1)=false:=rfl;have hp:a+o+4<=S.length:=by omega
  simp only [d,e,af,cT hp,cT (show a+o<=a+o+4 by omega)];rw [E4 n S (a+o+4) hp j,qu,jv];cases t:numS 83 (S.drop (a+o+4)) with
  | inl i=>
   simp only [FL,ah,pJ];have:a+o+4+i=a+(o+4+i):=by omega
   rw [this]
  | inr p=>
   obtain ⟨s,i⟩:=p;simp only [GH,af,pJ];have:a+o+4+i=a+(o+4+i):=by omega
   rw [this];rfl
theorem kZ (c a:UInt8) (l:aa):fk c (a::l)=if a=c then 1 else 0:=by
 unfold fk;simp
theorem yO (c:UInt8):fk c []=0:=by unfold fk;simp
theorem Rj (n:Nat) (S:aa) (a:Nat) (h:a<=S.length) (F:S.length<100000) (E:S.length<n):
  oI n S (a:Int)=some (pJ a (qE (S.drop a))):=by
 have B:=λo g q=>NM n S a o g q F E;have D:=λo g q=>Kr n S a o g q F E;unfold La at B D;have G:IntKind.wrap .i64 ((a:Int)+1)=((a+1:Nat):Int):=by rw [wrap_i64 _ (by omega) (by omega)];omega
 have H:IntKind.wrap .i64 (((a+1:Nat):Int)+1)=((a+2:Nat):Int):=by rw [wrap_i64 _ (by omega) (by omega)];omega
 unfold oI qE;rw [G,H];have w:=D 0 false (by omega);simp only [cM] at w;cases m:S.drop a with
 | nil=>
  have j:¬a<S.length:=by
   intro q;rw [cr (aT q)] at m;cases m
  rw [jg,ar j,af,af,w,m];rfl
 | cons c r=>
  obtain ⟨A,I,i⟩:=n7 m;have s:(((c.toNat:Nat):Int)==89)=(c==89):=oz c 89;have t:(((c.toNat:Nat):Int)==45)=(c==45):=oz c 45;rw [jg,aq A,ah,eJ I];simp only [ob];rw [s,t,kZ];by_cases f:c=89
  ·have e:(c==89)=true:=bp.2 f;rw [e,ah,ae f,ae rfl,jg];have z:List.drop 1 (c::r)=r:=rfl;rw [z];have x:=B 1 false (by omega);cases v:r with
   | nil=>
    rw [v] at i;have j:¬a+1<S.length:=by
     intro q;rw [cr (aT q)] at i;cases i
    simp only [ob] at x;rw [ar j,af,x,i,yO];rfl
   | cons d J=>
    rw [v] at i;obtain ⟨u,C,y⟩:=n7 i;have p:(((d.toNat:Nat):Int)==45)=(d==45):=oz d 45;rw [aq u,ah,eJ C];simp only [];rw [p,kZ];by_cases b:d=45
    ·have k:(d==45)=true:=bp.2 b;have l:=B 2 true (by omega);simp only [ob] at l;rw [k,ah,ae b,l];rw [show a+2=a+1+1 from rfl,y];rfl
    ·have k:(d==45)=false:=aI.2 b;simp only [ob] at x;rw [k,af,ab b,x,i];rfl
  ·have e:(c==89)=false:=aI.2 f;rw [e,af,ab f,ab (by decide),kZ];by_cases b:c=45
   ·have k:(c==45)=true:=bp.2 b;have l:=D 1 true (by omega);simp only [ob] at l;rw [k,ae b];simp only [ah];rw [l,i];rfl
   ·have k:(c==45)=false:=aI.2 b;simp only [ob] at w;rw [k,ab b];simp only [af];rw [w,m];rfl
def wint (c:Int):Bool:=c==24||c==28||c==30
def rn (g:Bool) (d:aa) (x:Int):Bool:=!hasX d&&!g&&decide (val d x.toNat=E16)
def yrB (g:Bool) (d:aa) (x s:Int) (m:aa):Bool:=!(decide (0<s)&&!(m==[]))&&!(wint (sea m)&&rn g d x)
theorem E5 (n:Nat) (p:200<n) (g l:Bool) (dg:aa) (x q:Int) (m d:aa) (k0 k1 k2:Int) (A:m.length<=18) (t:dg.length<=100):
  fX n g l dg x q m d k0 k1 k2=some (if okY g l dg x q then yrB g dg x q m else false):=by
 unfold fX;rw [C3 n g l dg x q p t,rA n g l dg x q m d k0 k1 k2 A,uP,C2 n g l dg x q p t];by_cases h:okY g l dg x q
 rotate_left
 ·rw [ab h,ab h];rfl
 rw [ae h,ae h];have body:(ob (some (sea m,decide (0<sea m))) λr=>(cond (!r.2) (some true) (ob (some (hasX dg)) λv=>(cond v (some true) (ob (some (if okY g l dg x q/\hasX dg=false then (if g then -((val dg x.toNat:Nat):Int) else ((val dg x.toNat:Nat):Int),(0:Int)) else (0,6))) λD=>(ob (iD n D.1 r.1) λF=>(some (F.2.2.2.2==0))))))))=some (!(wint (sea m)&&rn g dg x)):=by
  rcases pQ m with C | ⟨j,s,rfl⟩
  ·rw [C];rfl
  ·have hs:=lA s;rw [hs];have hp:decide (0<((21+j:Nat):Int))=true:=by simp;omega
   rw [hp];cases o:hasX dg with
   | true=>
    have:rn g dg x=false:=by unfold rn;rw [o];rfl
    rw [this,Ao];rfl
   | false=>
    rw [ae ⟨h,rfl⟩];obtain ⟨k,G,rfl,rfl,y⟩:=th h o;have u:val dg k<=E16:=y.small;unfold E16 at u;have hc:ej (if g then -((val dg k:Nat):Int) else ((val dg k:Nat):Int)):=by
     unfold ej;cases g<;>simp<;>omega
    obtain ⟨a,b,c,e,w⟩:=V2 n (by omega) hc s;simp only [ob,du,af,bO];rw [w];simp only [av];have E:wint ((21+j:Nat):Int)=decide (j=3\/j=7\/j=9):=by
     unfold wint;rw [tz];simp only [ip,bp,cg];omega
    have B:rn g dg (k:Int)=decide ((if g then -((val dg k:Nat):Int) else ((val dg k:Nat):Int))=10000000000000000):=by
     unfold rn E16;rw [o,bO];cases g
     ·simp only [jx,qZ,bz,aE,n8];omega
     ·simp;omega
    rw [E,B];by_cases f:(if g then -((val dg k:Nat):Int) else ((val dg k:Nat):Int))=10000000000000000<;>by_cases i:j=3\/j=7\/j=9
    ·rw [ae ⟨f,i⟩,aq f,aq i];rfl
    ·rw [ab (λz=>i z.2),ar i];rfl
    ·rw [ab (λz=>f z.1),ar f,Ao];rfl
    ·rw [ab (λz=>f z.1),ar f,Ao];rfl
 show cond (decide (q>0)) (cond (!(m==[])) (some false) _) _=_;unfold yrB;rw [show (decide (q>0))=decide (0<q) from rfl];cases decide (0<q) with
 | false=>exact body
 | true=>
  cases (m==[]) with
  | false=>rfl
  | true=>exact body
theorem P6 (n:Nat) (i:200<n) (g l:Bool) (dg:aa) (x q:Int) (m d:aa) (k0 k1 k2:Int) (j:dg.length<=100):
  jC n g l dg x q m d k0 k1 k2=some (if okY g l dg x q/\yrB g dg x q m=true then 1 else 0):=by
 unfold jC;rw [Ek n g l dg x q i j,mn n (by omega) g l dg x q m d k0 k1 k2,pR n g l dg x q (by omega) (by omega)];by_cases h:okY g l dg x q
 rotate_left
 ·rw [ab h,ab (show ¬(okY g l dg x q/\yrB g dg x q m=true) from λz=>h z.1)];rfl
 rw [ae h];have T:(ob (some (if hasX dg then (1:Int) else 0)) λr=>(cond (r==1) (some (1:Int)) (ob (am n dg x) λv=>(cond (v.1==10000000000000000) (cond (!g) (some 0) (some 1)) (some 1)))))=some (if rn g dg x then 0 else 1):=by
  cases a:hasX dg with
  | true=>
   have:rn g dg x=false:=by unfold rn;rw [a];rfl
   rw [this];rfl
  | false=>
   obtain ⟨k,o,rfl,rfl,b⟩:=th h a;have f:=b.small;have p:=b.wide;have c:=jO n dg k b.dig (by omega) (by omega) (by omega);rw [ae f] at c;show ob (am n dg (k:Int)) _=_;rw [c];show cond (((dval 0 dg*10 ^ k:Nat):Int)==10000000000000000) _ _=_;unfold rn val;rw [a,bO];have e:(((dval 0 dg*10 ^ k:Nat):Int)==10000000000000000)=decide (dval 0 dg*10 ^ k=E16):=by
    generalize dval 0 dg*10 ^ k=v;unfold E16;rw [tz];simp only [bp,cg];omega
   rw [e];cases decide (dval 0 dg*10 ^ k=E16)<;>cases g<;>rfl
 have body:(ob (some (sea m)) λr=>(cond (r != 24) (cond (r != 28) (cond (r != 30) (some (1:Int)) (ob (some (if hasX dg then (1:Int) else 0)) λr=>(cond (r==1) (some (1:Int)) (ob (am n dg x) λv=>(cond (v.1==10000000000000000) (cond (!g) (some 0) (some 1)) (some 1)))))) (ob (some (if hasX dg then (1:Int) else 0)) λr=>(cond (r==1) (some (1:Int)) (ob (am n dg x) λv=>(cond (v.1==10000000000000000) (cond (!g) (some 0) (some 1)) (some 1)))))) (ob (some (if hasX dg then (1:Int) else 0)) λr=>(cond (r==1) (some (1:Int)) (ob (am n dg x) λv=>(cond (v.1==10000000000000000) (cond (!g) (some 0) (some 1)) (some 1)))))))=some (if (!(wint (sea m)&&rn g dg x))=true then 1 else 0):=by
  rw [T];show cond (sea m != 24) _ _=_;unfold wint;simp only [bne];cases (sea m==24)<;>cases (sea m==28)<;>cases (sea m==30)<;>cases rn g dg x<;>rfl
 unfold yrB;show cond (decide (q>0)) (cond (!(m==[])) (some 0) _) _=_;rw [show (decide (q>0))=decide (0<q) from rfl];simp only [h,kP];cases decide (0<q) with
 | false=>exact body
 | true=>
  cases (m==[]) with
  | false=>rfl
  | true=>exact body
def br (m d:aa):Nat:=1+(if m==[] then 0 else 1)+(if d==[] then 0 else 1)
theorem uQ (n:Nat) (e:100<n) (g l:Bool) (dg:aa) (x q:Int) (m d:aa) (k0 k1 k2:Int):bC n g l dg x q m d k0 k1 k2=some ((br m d:Nat):Int):=by
 obtain ⟨n,rfl⟩:∃j,n=j+3:=⟨n - 3,by omega⟩;unfold bC br;have s0:∀a:Int,ci (n+3) (a,m,d,0)=some (.inl (if m==[] then a else IntKind.wrap .i64 (a+1),m,d,1)):=λa=>by
  unfold ci;show cond (!(m==[])) _ _=_;cases (m==[])<;>rfl
 have c:∀a:Int,ci (n+3) (a,m,d,1)=some (.inl (if d==[] then a else IntKind.wrap .i64 (a+1),m,d,2)):=λa=>by
  unfold ci;show cond (!(d==[])) _ _=_;cases (d==[])<;>rfl
 have b:∀a:Int,ci (n+3) (a,m,d,2)=some (.inr a):=λa=>rfl;rw [aw,s0];show ob (aw _ (n+2) _) _=_;rw [aw,c];show ob (aw _ (n+1) _) _=_;rw [aw,b];cases (m==[])<;>cases (d==[])<;>rfl
theorem dA (n:Nat) (g l:Bool) (dg:aa) (x q:Int) (m d:aa) (k0 k1 k2:Int):au n g l dg x q m d k0 k1 k2=some ((br m d:Nat):Int):=by
 unfold au br;cases (m==[])<;>cases (d==[])<;>rfl
def allM (a b c:Int) (k:Nat):Int:=if 3<a\/3<b\/3<c\/(k<2/\b≠0)\/(k<3/\c≠0) then 9 else 0
theorem H5 (n:Nat) (t:3<n) (a b c:Int) (k:Nat) (u:1<=k/\k<=3) (w:0<=a) (v:0<=b) (hc:0<=c):
  dP n [a,b,c] (k:Int)=some (allM a b c k)/\bY n [a,b,c] (k:Int)=some (allM a b c k):=by
 obtain ⟨j,rfl⟩:∃j,n=j+4:=⟨n - 4,by omega⟩;have i:IntKind.wrap .i64 1=1:=rfl;have f:IntKind.wrap .i64 2=2:=rfl;have g:IntKind.wrap .i64 3=3:=rfl;have m:ix 3 0=some 0:=rfl;have l:ix 3 1=some 1:=rfl;have e:ix 3 2=some 2:=rfl;have hk':k=1\/k=2\/k=3:=by omega
 unfold allM;by_cases h:a>3
 ·rcases hk' with rfl | rfl | rfl<;>constructor<;>simp [bY,dP,aw,dJ,iw,iU,ob,i,f,g,m,l,e,h]
 by_cases o:b>3
 ·rcases hk' with rfl | rfl | rfl<;>constructor<;>simp [bY,dP,aw,dJ,iw,iU,ob,i,f,g,m,l,e,h,o]
 by_cases d:k=1/\b≠0
 ·obtain ⟨rfl,d⟩:=d;have s:b>0:=by omega
  have q:(b != 0)=true:=by simp [d]
  constructor<;>simp [bY,dP,aw,dJ,iw,iU,ob,i,f,g,m,l,e,h,o,s,d,q]
 by_cases r:c>3
 ·rcases hk' with rfl | rfl | rfl<;>(try (simp at d;subst d))<;>constructor<;>simp [bY,dP,aw,dJ,iw,iU,ob,i,f,g,m,l,e,h,o,r]
 by_cases p:k<3/\c≠0
 ·have s:c>0:=by omega
  have q:(c != 0)=true:=by simp [p.2]
  rcases hk' with rfl | rfl | rfl<;>(try (simp at d;subst d))<;>simp at p<;>constructor<;>simp [bY,dP,aw,dJ,iw,iU,ob,i,f,g,m,l,e,h,o,r,s,p,q]
 rcases hk' with rfl | rfl | rfl<;>(try (simp at d;subst d))<;>(try (simp at p;subst p))<;>constructor<;>simp [bY,dP,aw,dJ,iw,iU,ob,i,f,g,m,l,e,h,o,r]
theorem lC (m d:aa):1<=br m d/\br m d<=3:=by
 unfold br;cases (m==[])<;>cases (d==[])<;>simp
def yrD (g l:Bool) (dg:aa) (x q:Int) (m:aa):Bool:=if okY g l dg x q then yrB g dg x q m else false
def chkD (g l:Bool) (dg:aa) (x q:Int) (m d:aa) (k0 k1 k2:Int):Int:=
 cond (!(yrD g l dg x q m)) 6 (cond (!(m==[])&&(!(decide (0<sea m))&&!(ef m 12))) 7
  (cond (!(d==[])&&((m==[])||(decide (0<sea m)||!(ef d 31)))) 8 (allM k0 k1 k2 (br m d))))
theorem Sz (m:aa):0<=sea m:=by
 rcases pQ m with h | ⟨j,a,rfl⟩
 ·omega
 ·rw [lA a];omega
theorem VA (m:aa):(sea m==0)=!(decide (0<sea m)):=by
 have:=Sz m;by_cases h:sea m=0
 ·rw [h];rfl
 ·have a:0<sea m:=by omega
  rw [aI.2 h,aq a];rfl
theorem CY (n:Nat) (b:200<n) (g l:Bool) (dg:aa) (x q:Int) (m d:aa) (k0 k1 k2:Int) (a:m.length<=18) (j:dg.length<=100) (h:0<=k0) (e:0<=k1) (i:0<=k2):
  jy n g l dg x q m d k0 k1 k2=some (chkD g l dg x q m d k0 k1 k2):=by
 have hy:fX n g l dg x q m d k0 k1 k2=some (yrD g l dg x q m):=E5 n b g l dg x q m d k0 k1 k2 a j;have a1:dB n m 12=some (ef m 12):=D6 n (by omega) m 12 (by omega);have a2:dB n d 31=some (ef d 31):=D6 n (by omega) d 31 (by omega);have o:=(H5 n (by omega) k0 k1 k2 (br m d) (lC m d) h e i).1;unfold jy chkD;rw [rA n g l dg x q m d k0 k1 k2 a,hy,a1,a2,uQ n (by omega)];simp only [ob];rw [o];generalize yrD g l dg x q m=b1;generalize (m==[])=b2;generalize decide (0<sea m)=p;generalize ef m 12=f;generalize (d==[])=k;generalize ef d 31=c;cases b1<;>cases b2<;>cases p<;>cases f<;>cases k<;>cases c<;>rfl
theorem Gh (n:Nat) (a:200<n) (g l:Bool) (dg:aa) (x q:Int) (m d:aa) (k0 k1 k2:Int) (j:dg.length<=100) (f:0<=k0) (c:0<=k1) (i:0<=k2):
  kA n g l dg x q m d k0 k1 k2=some (chkD g l dg x q m d k0 k1 k2):=by
 have hy:jC n g l dg x q m d k0 k1 k2=some (if yrD g l dg x q m then 1 else 0):=by
  rw [P6 n a g l dg x q m d k0 k1 k2 j];unfold yrD;by_cases h:okY g l dg x q
  ·simp only [h,kP,aM]
  ·simp only [h,xi,aE];rfl
 have a1:dO n m 12=some (if ef m 12 then 1 else 0):=Ja n (by omega) m 12 (by omega);have a2:dO n d 31=some (if ef d 31 then 1 else 0):=Ja n (by omega) d 31 (by omega);have o:=(H5 n (by omega) k0 k1 k2 (br m d) (lC m d) f c i).2;unfold kA chkD;rw [mn n (by omega) g l dg x q m d k0 k1 k2,hy,a1,a2,dA n];simp only [ob];rw [o,VA];show cond ((if yrD g l dg x q m then (1:Int) else 0)==0) _ (cond _ (cond _ (cond _ _ (cond _ (cond _ _ (cond (decide (0<sea m)) _ _)) _)) (cond _ (cond _ _ (cond (decide (0<sea m)) _ _)) _)) (cond _ (cond _ _ (cond (decide (0<sea m)) _ _)) _))=_;generalize yrD g l dg x q m=b1;generalize (m==[])=b2;generalize decide (0<sea m)=p;generalize ef m 12=e;generalize (d==[])=k;generalize ef d 31=b;cases b1<;>cases b2<;>cases p<;>cases e<;>cases k<;>cases b<;>rfl
theorem DN {g l:Bool} {dg:aa} {x q:Int} {m d:aa} {k0 k1 k2:Int} (h:chkD g l dg x q m d k0 k1 k2=0):yrD g l dg x q m=true/\(m=[]\/0<sea m\/ef m 12=true)/\(d=[]\/(m≠[]/\sea m=0/\ef d 31=true))/\allM k0 k1 k2 (br m d)=0:=by
 have hs:=Sz m;unfold chkD at h;cases b1:yrD g l dg x q m with
 | false=>rw [b1] at h;exact absurd h (by simp)
 | true=>
  rw [b1] at h;simp only [du,af] at h;cases b2:(!(m==[])&&(!(decide (0<sea m))&&!(ef m 12))) with
  | true=>rw [b2] at h;exact absurd h (by simp)
  | false=>
   rw [b2] at h;simp only [af] at h;cases c:(!(d==[])&&((m==[])||(decide (0<sea m)||!(ef d 31)))) with
   | true=>rw [c] at h;exact absurd h (by simp)
   | false=>
    rw [c] at h;simp only [af] at h;refine ⟨rfl,?_,?_,h⟩
    ·by_cases b:m=[]
     ·exact .inl b
     ·by_cases a:0<sea m
      ·exact .inr (.inl a)
      ·simp [b,a] at b2;exact .inr (.inr b2)
    ·by_cases b:d=[]
     ·exact .inl b
     ·by_cases a:m=[]
      ·simp [b,a] at c
      ·by_cases e:0<sea m
       ·simp [b,a,e] at c
       ·simp [b,a,e] at c;exact .inr ⟨a,by omega,c⟩
theorem nY {s:aa} {g:Nat} (m:g<=31) (h:ef s g=true):s.length=2/\∀c∈s,isDX c=true:=by
 unfold ef at h;obtain ⟨i,f,hi⟩:=tf.1 h;have e:i<g:=jA.1 f;have dig:∀k:Nat,k<10->isDX (UInt8.ofNat (48+k))=true:=by decide
 have d:isDX 88=true:=by decide
 match s,hi with
 | [],hi=>simp [agr] at hi
 | [_],hi=>simp [agr] at hi
 | [a,b],hi=>
  refine ⟨rfl,?_⟩;simp only [agr,az,ip,bp] at hi;obtain ⟨l,j⟩:=hi;intro c hc;simp only [cN,o7,qi] at hc;rcases hc with rfl | rfl
  ·rcases l with rfl | rfl
   ·exact d
   ·exact dig _ (by omega)
  ·rcases j with rfl | rfl
   ·exact d
   ·exact dig _ (by omega)
 | _::_::_::_,hi=>simp [agr] at hi
theorem GW {m:aa} (h:0<sea m):m.length=2/\∀c∈m,isDX c=true:=by
 rcases pQ m with b | ⟨j,a,rfl⟩
 ·omega
 ·refine ⟨rfl,?_⟩;have:((List.range 21).all λj=>(two (21+j)).all isDX)=true:=by decide +kernel
  have:=(bW.1 this) j (by simpa using a);exact bW.1 this
def mt (k:Nat):aa:=if k=1 then [63] else if k=2 then [126] else if k=3 then [37] else []
def mkOf (c:UInt8):Nat:=if c=63 then 1 else if c=126 then 2 else if c=37 then 3 else 0
def XN (k a b c:Nat):Bool:=(decide (k<2)||b==a)&&(decide (k<3)||c==a)
def plA (k a b c:Nat):Nat×Nat×Nat:=if XN k a b c then (0,0,0) else (a,b,c)
def plB (k a b c:Nat):Nat×Nat×Nat:=if XN k a b c then (if k=1 then (a,0,0) else if k=2 then (0,a,0) else (0,0,a)) else (0,0,0)
def l3 (p:Nat×Nat×Nat):List Int:=[(p.1:Int),(p.2.1:Int),(p.2.2:Int)]
def spM (A B:Nat×Nat×Nat):Nat×Nat×Nat:=(A.1 ||| B.1 ||| B.2.1 ||| B.2.2,A.2.1 ||| B.2.1 ||| B.2.2,A.2.2 ||| B.2.2)
theorem EQ (n k:Nat) (h:k<4):sV n (k:Int)=some (mt k,0)/\cL n (k:Int)=some (mt k):=by
 have:k=0\/k=1\/k=2\/k=3:=by omega
 rcases this with rfl | rfl | rfl | rfl<;>exact ⟨rfl,rfl⟩
noncomputable def VZ (m j:Nat):Bool:=
 (qB (m+300) (j:Int)==some (((mkOf (UInt8.ofNat j):Nat):Int),decide (0<mkOf (UInt8.ofNat j))))&&(eN (m+300) (j:Int)==some ((mkOf (UInt8.ofNat j):Nat):Int))
theorem Qm (m:Nat):(List.range 256).all (VZ m)=true:=by kernel_rfl
theorem FN (m:Nat) (c:UInt8):qB (m+300) ((c.toNat:Nat):Int)=some (((mkOf c:Nat):Int),decide (0<mkOf c))/\eN (m+300) ((c.toNat:Nat):Int)=some ((mkOf c:Nat):Int):=by
 have h:=(bW.1 (Qm m)) c.toNat (jA.2 c.toNat_lt);unfold VZ at h;rw [show UInt8.ofNat c.toNat=c by simp] at h;simp only [az,bp] at h;exact h
noncomputable def K5 (m k a b c:Nat):Bool:=
 (qw (m+300) [(a:Int),(b:Int),(c:Int)] (k:Int)==some (l3 (plA k a b c),l3 (plB k a b c),0))&&(kz (m+300) [(a:Int),(b:Int),(c:Int)] (k:Int)==some (l3 (plA k a b c),l3 (plB k a b c)))
theorem V8 (m:Nat):((List.range 4).all λa=>K5 m 1 a 0 0)=true:=by kernel_rfl
theorem WV (m:Nat):((List.range 4).all λa=>(List.range 4).all λb=>K5 m 2 a b 0)=true:=by kernel_rfl
theorem Wp (m:Nat):((List.range 4).all λa=>(List.range 4).all λb=>(List.range 4).all λc=>K5 m 3 a b c)=true:=by kernel_rfl
theorem r4 {p:Nat->Bool} (h:(List.range 4).all p=true) {a:Nat} (b:a<4):p a=true:=(bW.1 h) a (jA.2 b)
theorem V0 (m k a b c:Nat) (i:1<=k/\k<=3) (d:a<4) (e:b<4) (hc:c<4) (g:k<2->b=0) (f:k<3->c=0):
  qw (m+300) [(a:Int),(b:Int),(c:Int)] (k:Int)=some (l3 (plA k a b c),l3 (plB k a b c),0)/\kz (m+300) [(a:Int),(b:Int),(c:Int)] (k:Int)=some (l3 (plA k a b c),l3 (plB k a b c)):=by
 have h:K5 m k a b c=true:=by
  have:k=1\/k=2\/k=3:=by omega
  rcases this with rfl | rfl | rfl
  ·rw [g (by omega),f (by omega)];exact r4 (V8 m) d
  ·rw [f (by omega)];exact r4 (r4 (WV m) d) e
  ·exact r4 (r4 (r4 (Wp m) d) e) hc
 unfold K5 at h;simp only [az,bp] at h;exact h
theorem UE {k a b c:Nat} (d:a<4) (e:b<4) (hc:c<4):(plA k a b c).1<4/\(plA k a b c).2.1<4/\(plA k a b c).2.2<4/\(plB k a b c).1<4/\(plB k a b c).2.1<4/\(plB k a b c).2.2<4:=by
 unfold plA plB;split
 ·split
  ·simp [d]
  ·split<;>simp [d]
 ·simp [d,e,hc]
def inM (k:Nat) (A:Nat×Nat×Nat):Prop:=A.1<4/\A.2.1<4/\A.2.2<4/\(k<2->A.2.1=0)/\(k<3->A.2.2=0)
theorem xR {k:Nat} {A:Nat×Nat×Nat} (h:inM k A):allM (A.1:Int) (A.2.1:Int) (A.2.2:Int) k=0:=by
 obtain ⟨c,b,d,e,a⟩:=h;unfold allM;rw [ab (by omega)]
theorem or4 {a b:Nat} (d:a<4) (c:b<4):bits .or .u8 (a:Int) (b:Int)=((a ||| b:Nat):Int)/\a ||| b<4:=by
 have:((List.range 4).all λa=>(List.range 4).all λb=>bits .or .u8 (a:Int) (b:Int)==((a ||| b:Nat):Int)&&decide (a ||| b<4))=true:=by decide +kernel
 have:=r4 (r4 this d) c;simpa using this
theorem xK (n:Nat) (w:9<n) (k:Nat) (A B:Nat×Nat×Nat) (l:1<=k/\k<=3) (r:inM k A) (p:inM k B):eV n (l3 A) (l3 B) (k:Int)=some (l3 (spM A B),0):=by
 obtain ⟨n,rfl⟩:∃j,n=j+5:=⟨n - 5,by omega⟩;have m:=(H5 (n+5) (by omega) (A.1:Int) (A.2.1:Int) (A.2.2:Int) k l (by omega) (by omega) (by omega)).1;have q:=(H5 (n+5) (by omega) (B.1:Int) (B.2.1:Int) (B.2.2:Int) k l (by omega) (by omega) (by omega)).1;rw [xR r] at m;rw [xR p] at q;have g:∀x:Nat,x<4->bits .or .u8 0 (x:Int)=(x:Int):=λx hx=>by
  have:=(or4 (show 0<4 by omega) hx).1;simpa using this
 have a:∀x y:Nat,x<4->y<4->bits .or .u8 (x:Int) (y:Int)=((x ||| y:Nat):Int):=λx y hx hy=>(or4 hx hy).1;have e:∀x y:Nat,x<4->y<4->x ||| y<4:=λx y hx hy=>(or4 hx hy).2;unfold eV;show ob (dP (n+5) [(A.1:Int),(A.2.1:Int),(A.2.2:Int)] (k:Int)) _=_;rw [m];show ob (dP (n+5) [(B.1:Int),(B.2.1:Int),(B.2.2:Int)] (k:Int)) _=_;rw [q];obtain ⟨a0,a1,a2⟩:=A;obtain ⟨b0,b1,b2⟩:=B;obtain ⟨g0,f,t,s,i⟩:=r;obtain ⟨d,b,c,o,h⟩:=p;simp only at g0 f t s i d b c o h;have hk':k=1\/k=2\/k=3:=by omega
 rcases hk' with rfl | rfl | rfl
 ·obtain rfl:=s (by omega);obtain rfl:=i (by omega);obtain rfl:=o (by omega);obtain rfl:=h (by omega);show some (([bits .or .u8 (a0:Int) (bits .or .u8 0 (b0:Int)),0,0]:List Int),(0:Int))=_;rw [g b0 d,a _ _ g0 d];simp [l3,spM]
 ·obtain rfl:=i (by omega);obtain rfl:=h (by omega);show some (([bits .or .u8 (a0:Int) (bits .or .u8 (bits .or .u8 0 (b1:Int)) (b0:Int)),bits .or .u8 (a1:Int) (bits .or .u8 0 (b1:Int)),0]:List Int),(0:Int))=_;rw [g b1 b,a _ _ b d,a _ _ g0 (e _ _ b d),a _ _ f b];simp [l3,spM,Nat.or_assoc,BM b1 b0]
 ·show some (([bits .or .u8 (a0:Int) (bits .or .u8 (bits .or .u8 (bits .or .u8 0 (b2:Int)) (b1:Int)) (b0:Int)),bits .or .u8 (a1:Int) (bits .or .u8 (bits .or .u8 0 (b2:Int)) (b1:Int)),bits .or .u8 (a2:Int) (bits .or .u8 0 (b2:Int))]:List Int),(0:Int))=_;rw [g b2 c,a _ _ c b,a _ _ (e _ _ c b) d,a _ _ g0 (e _ _ (e _ _ c b) d),a _ _ f (e _ _ c b),a _ _ t c];have v:a0 ||| (b2 ||| b1 ||| b0)=a0 ||| b0 ||| b1 ||| b2:=by rw [BM (b2 ||| b1) b0,BM b2 b1];simp only [Nat.or_assoc]
  have u:a1 ||| (b2 ||| b1)=a1 ||| b1 ||| b2:=by rw [BM b2 b1];simp only [Nat.or_assoc]
  rw [v,u];rfl
abbrev cI (x:Nat):Int:=(x:Int)
def bt (b a:Nat):Nat:=if b=1 then a%2 else a / 2%2
theorem SO (n:Nat) {a b:Nat} (d:a<4) (c:b=1\/b=2):ke n (a:Int) (b:Int)=some ((bt b a:Nat):Int):=by
 have h:a=0\/a=1\/a=2\/a=3:=by omega
 rcases h with rfl | rfl | rfl | rfl<;>rcases c with rfl | rfl<;>rfl
theorem Vj (b a:Nat):bt b a<=1:=by unfold bt;split<;>omega
def bts (b:Nat):List Nat->Nat
 | []=>0
 | x::l=>bt b x+bts b l
theorem YW (n k b i:Nat) (p:b=1\/b=2) (t:k<=3) (A X Y:List Int) (c:List Nat) (u:c.length=3) (l:∀x∈c,x<4):∀(r j a:Nat),j+r=k->a<=j+1->∀N,r<N->
  aw (cX n) N ((k:Int),(b:Int),(i:Int),(a:Int),(j:Int),A,c.map cI,X,Y)=some ((k:Int),(b:Int),(i:Int),((a+bts b ((c.take k).drop j):Nat):Int),A,c.map cI,X,Y):=by
 intro r
 induction r with
 | zero=>
  intro j a o d N q;obtain ⟨N,rfl⟩:∃k,N=k+1:=⟨N - 1,by omega⟩;have s:cX n ((k:Int),(b:Int),(i:Int),(a:Int),(j:Int),A,c.map cI,X,Y)=some (.inr ((k:Int),(b:Int),(i:Int),(a:Int),A,c.map cI,X,Y)):=by
   unfold cX;rw [bE,ab (show ¬((j:Int)<(k:Int)) by omega)]
  have e:(c.take k).drop j=[]:=jt (by rw [cV];omega);rw [aw,s,e];rfl
 | succ r ih=>
  intro j a o d N q;obtain ⟨N,rfl⟩:∃k,N=k+1:=⟨N - 1,by omega⟩;have g:j<c.length:=by omega
  obtain ⟨x,hx⟩:∃x,c[j]?=some x:=⟨c[j],aT g⟩;have f:(c.map cI)[j]?=some (x:Int):=by rw [nr,hx];rfl
  have h:=l x (fc hx);have w:IntKind.wrap .i64 ((a:Int)+((bt b x:Nat):Int))=((a+bt b x:Nat):Int):=by have:=Vj b x;rw [wrap_i64 _ (by omega) (by omega)];omega
  have m:IntKind.wrap .i64 ((j:Int)+1)=((j+1:Nat):Int):=by rw [wrap_i64 _ (by omega) (by omega)];omega
  have s:cX n ((k:Int),(b:Int),(i:Int),(a:Int),(j:Int),A,c.map cI,X,Y)=some (.inl ((k:Int),(b:Int),(i:Int),((a+bt b x:Nat):Int),((j+1:Nat):Int),A,c.map cI,X,Y)):=by
   unfold cX;rw [bE,ae (show (j:Int)<(k:Int) by omega)];show ob (ix 3 (j:Int)) _=_;rw [dk (show j<3 by omega)];show ob ((c.map cI)[j]?) _=_;rw [f];show ob (ke n (x:Int) (b:Int)) _=_;rw [SO n h p];show some (Sum.inl ((k:Int),(b:Int),(i:Int),IntKind.wrap .i64 ((a:Int)+((bt b x:Nat):Int)),IntKind.wrap .i64 ((j:Int)+1),_))=_;rw [w,m]
  have e:(c.take k).drop j=x::(c.take k).drop (j+1):=cr (by rw [qf (by omega)];exact hx);rw [aw,s];have:=Vj b x;show aw _ N _=_;rw [ih (j+1) (a+bt b x) (by omega) (by omega) N (by omega),e];simp only [bts,gO]
def hit (k b i:Nat) (c a:List Nat):Bool:=decide (0<bt b (c.getD i 0)+bts b ((a.take k).drop i))
theorem YS (n k b i:Nat) (v:9<n) (h:b=1\/b=2) (m:k<=3) (hi:i<k) (X:List Int) (a c:List Nat) (w:a.length=3) (u:c.length=3) (s:∀x∈a,x<4) (l:∀x∈c,x<4) (out:List Int) (o:Int) (r:out[i]?=some o):
  bR n ((k:Int),(b:Int),(i:Int),a.map cI,c.map cI,X,out)=some (.inl ((k:Int),(b:Int),((i+1:Nat):Int),a.map cI,c.map cI,X,cond (hit k b i a c) (out.set i (IntKind.wrap .u8 (o+(b:Int)))) out)):=by
 obtain ⟨x,hx⟩:∃x,a[i]?=some x:=⟨a[i],aT (by omega)⟩;have d:(a.map cI)[i]?=some (x:Int):=by rw [nr,hx];rfl
 have g:=s x (fc hx);have t:=Vj b x;have q:IntKind.wrap .i64 ((i:Int)+1)=((i+1:Nat):Int):=by rw [wrap_i64 _ (by omega) (by omega)];omega
 have e:=YW n k b i h m (a.map cI) X out c u l (k - i) i (bt b x) (by omega) (by omega) n (by omega);unfold bR;rw [bE,ae (show (i:Int)<(k:Int) by omega)];show ob (ix 3 (i:Int)) _=_;rw [dk (show i<3 by omega)];show ob ((a.map cI)[i]?) _=_;rw [d];show ob (ke n (x:Int) (b:Int)) _=_;rw [SO n g h];show ob (aw (cX n) n ((k:Int),(b:Int),(i:Int),((bt b x:Nat):Int),(i:Int),a.map cI,c.map cI,X,out)) _=_;rw [e];have p:hit k b i a c=decide (((bt b x+bts b ((c.take k).drop i):Nat):Int)>0):=by
  unfold hit;rw [E9,hx];rw [n8];simp only [xW];omega
 rw [p];show cond (decide (((bt b x+bts b ((c.take k).drop i):Nat):Int)>0)) (ob (ix 3 (i:Int)) λj=>ob (out[j]?) λy=>ob (ix 3 (i:Int)) λj2=>cond (Nat.blt j2 3) (some (Sum.inl ((k:Int),(b:Int),IntKind.wrap .i64 ((i:Int)+1),a.map cI,c.map cI,X,out.set j2 (IntKind.wrap .u8 (y+(b:Int)))))) none) (some (Sum.inl ((k:Int),(b:Int),IntKind.wrap .i64 ((i:Int)+1),a.map cI,c.map cI,X,out)))=_;rw [dk (show i<3 by omega),q];have f:Nat.blt i 3=true:=cP (by omega);simp only [ob,r,f,ah];cases decide (((bt b x+bts b ((c.take k).drop i):Nat):Int)>0)<;>rfl
def addB (k b:Nat) (c a:List Nat) (o:List Int):List Int:=[cond (decide (0<k)&&hit k b 0 c a) (IntKind.wrap .u8 (o.getD 0 0+(b:Int))) (o.getD 0 0),cond (decide (1<k)&&hit k b 1 c a) (IntKind.wrap .u8 (o.getD 1 0+(b:Int))) (o.getD 1 0),cond (decide (2<k)&&hit k b 2 c a) (IntKind.wrap .u8 (o.getD 2 0+(b:Int))) (o.getD 2 0)]
theorem Q5 (n k b:Nat) (m:9<n) (q:b=1\/b=2) (p:1<=k/\k<=3) (X:List Int) (a c:List Nat) (t:a.length=3) (s:c.length=3) (r:∀x∈a,x<4) (l:∀x∈c,x<4) (g o1 f:Int):
  aw (bR n) n ((k:Int),(b:Int),0,a.map cI,c.map cI,X,[g,o1,f])=some ((k:Int),(b:Int),a.map cI,c.map cI,X,addB k b a c [g,o1,f]):=by
 obtain ⟨n,rfl⟩:∃j,n=j+5:=⟨n - 5,by omega⟩;have d:∀(N:Nat) (out:List Int),aw (bR (n+5)) (N+1) ((k:Int),(b:Int),((k:Nat):Int),a.map cI,c.map cI,X,out)=some ((k:Int),(b:Int),a.map cI,c.map cI,X,out):=λN out=>by
  rw [aw];have:bR (n+5) ((k:Int),(b:Int),((k:Nat):Int),a.map cI,c.map cI,X,out)=some (.inr ((k:Int),(b:Int),a.map cI,c.map cI,X,out)):=by
   unfold bR;rw [bE,ab (show ¬((k:Int)<(k:Int)) by omega)]
  rw [this]
 have h:=λ(i:Nat) (hi:i<k) (out:List Int) (o:Int) (ho:out[i]?=some o)=>YS (n+5) k b i m q p.2 hi X a c t s r l out o ho;have hk':k=1\/k=2\/k=3:=by omega
 have e:=h 0 (by omega) [g,o1,f] g rfl;rcases hk' with rfl | rfl | rfl
 ·rw [aw];rw [show ((0:Nat):Int)=0 from rfl] at e;rw [e];show aw _ (n+3+1) (((1:Nat):Int),(b:Int),((1:Nat):Int),_)=_;rw [d];unfold addB;cases hit 1 b 0 a c<;>rfl
 ·rw [aw];rw [show ((0:Nat):Int)=0 from rfl] at e;rw [e];show aw _ (n+4) (((2:Nat):Int),(b:Int),((1:Nat):Int),_)=_;rw [aw,h 1 (by omega) _ o1 (by cases hit 2 b 0 a c<;>rfl)];show aw _ (n+2+1) (((2:Nat):Int),(b:Int),((2:Nat):Int),_)=_;rw [d];unfold addB;cases hit 2 b 0 a c<;>cases hit 2 b 1 a c<;>rfl
 ·rw [aw];rw [show ((0:Nat):Int)=0 from rfl] at e;rw [e];show aw _ (n+4) (((3:Nat):Int),(b:Int),((1:Nat):Int),_)=_;rw [aw,h 1 (by omega) _ o1 (by cases hit 3 b 0 a c<;>rfl)];show aw _ (n+3) (((3:Nat):Int),(b:Int),((2:Nat):Int),_)=_;rw [aw,h 2 (by omega) _ f (by cases hit 3 b 0 a c<;>cases hit 3 b 1 a c<;>rfl)];show aw _ (n+1+1) (((3:Nat):Int),(b:Int),((3:Nat):Int),_)=_;rw [d];unfold addB;cases hit 3 b 0 a c<;>cases hit 3 b 1 a c<;>cases hit 3 b 2 a c<;>rfl
def lN (p:Nat×Nat×Nat):List Nat:=[p.1,p.2.1,p.2.2]
theorem rV {x y:Nat} (hx:x<4) (hy:y<4) (b:Nat) (d:b=1\/b=2):decide (0<bt b (x ||| y))=decide (0<bt b x+bt b y):=by
 have:((List.range 4).all λa=>(List.range 4).all λc=>(decide (0<bt 1 (a ||| c))==decide (0<bt 1 a+bt 1 c))&&(decide (0<bt 2 (a ||| c))==decide (0<bt 2 a+bt 2 c)))=true:=by decide +kernel
 have:=r4 (r4 this hx) hy;simp only [az,bp] at this;rcases d with rfl | rfl
 ·exact this.1
 ·exact this.2
theorem sC {x:Nat} (hx:x<4):cond (decide (0<bt 2 x)) (IntKind.wrap .u8 (cond (decide (0<bt 1 x)) (IntKind.wrap .u8 (0+((1:Nat):Int))) 0+((2:Nat):Int))) (cond (decide (0<bt 1 x)) (IntKind.wrap .u8 (0+((1:Nat):Int))) 0)=(x:Int):=by
 have h:x=0\/x=1\/x=2\/x=3:=by omega
 rcases h with rfl | rfl | rfl | rfl<;>decide
theorem vM (n:Nat) (J:9<n) (k:Nat) (A B:Nat×Nat×Nat) (D:1<=k/\k<=3) (O:inM k A) (L:inM k B):fN n (l3 A) (l3 B) (k:Int)=some (l3 (spM A B)):=by
 obtain ⟨a0,a1,a2⟩:=A;obtain ⟨b0,b1,b2⟩:=B;obtain ⟨g0,m,t,C,u⟩:=O;obtain ⟨f,d,l,w,s⟩:=L;simp only at g0 m t C u f d l w s;have c:∀x y:Nat,x<4->y<4->x ||| y<4:=λx y hx hy=>(or4 hx hy).2;have E:∀x∈lN (a0,a1,a2),x<4:=by
  intro x hx;simp only [lN,cN,o7,qi] at hx;rcases hx with rfl | rfl | rfl<;>assumption
 have K:∀x∈lN (b0,b1,b2),x<4:=by
  intro x hx;simp only [lN,cN,o7,qi] at hx;rcases hx with rfl | rfl | rfl<;>assumption
 have run:=λ(b:Nat) (a:b=1\/b=2) (o0 o1 o2:Int)=>Q5 n k b J a D [0,0,0] (lN (a0,a1,a2)) (lN (b0,b1,b2)) rfl rfl E K o0 o1 o2;have v:=run 1 (.inl rfl) 0 0 0;obtain ⟨h,g,i,hp⟩:∃h g i,addB k 1 (lN (a0,a1,a2)) (lN (b0,b1,b2)) [0,0,0]=[h,g,i]:=⟨_,_,_,rfl⟩;have G:=run 2 (.inr rfl) h g i;rw [hp] at v;obtain ⟨n,rfl⟩:∃j,n=j+5:=⟨n - 5,by omega⟩;have N:dY (n+5) ((k:Int),1,l3 (a0,a1,a2),l3 (b0,b1,b2),[0,0,0],[0,0,0])=some (.inl ((k:Int),2,l3 (a0,a1,a2),l3 (b0,b1,b2),[0,0,0],[h,g,i])):=by
  unfold dY;show cond (decide ((1:Int)<=2)) (ob (aw (bR (n+5)) (n+5) ((k:Int),((1:Nat):Int),0,(lN (a0,a1,a2)).map cI,(lN (b0,b1,b2)).map cI,[0,0,0],[0,0,0])) _) _=_;rw [v];rfl
 have F:dY (n+5) ((k:Int),2,l3 (a0,a1,a2),l3 (b0,b1,b2),[0,0,0],[h,g,i])=some (.inl ((k:Int),3,l3 (a0,a1,a2),l3 (b0,b1,b2),[0,0,0],addB k 2 (lN (a0,a1,a2)) (lN (b0,b1,b2)) [h,g,i])):=by
  unfold dY;show cond (decide ((2:Int)<=2)) (ob (aw (bR (n+5)) (n+5) ((k:Int),((2:Nat):Int),0,(lN (a0,a1,a2)).map cI,(lN (b0,b1,b2)).map cI,[0,0,0],[h,g,i])) _) _=_;rw [G];rfl
 have H:∀out:List Int,dY (n+5) ((k:Int),3,l3 (a0,a1,a2),l3 (b0,b1,b2),[0,0,0],out)=some (.inr ([0,0,0],out)):=λout=>rfl;unfold fN;rw [aw,N];show ob (aw _ (n+4) _) _=_;rw [aw,F];show ob (aw _ (n+3) _) _=_;rw [aw,H];show some (addB k 2 (lN (a0,a1,a2)) (lN (b0,b1,b2)) [h,g,i])=_;rw [<-hp];have hk':k=1\/k=2\/k=3:=by omega
 have M:=λ(x y:Nat) (hx:x<4) (hy:y<4) (b:Nat) (a:b=1\/b=2)=>rV hx hy b a;rcases hk' with rfl | rfl | rfl
 ·obtain rfl:=C (by omega);obtain rfl:=u (by omega);obtain rfl:=w (by omega);obtain rfl:=s (by omega);have e:∀b,b=1\/b=2->hit 1 b 0 (lN (a0,0,0)) (lN (b0,0,0))=decide (0<bt b (a0 ||| b0)):=λb a=>by rw [rV g0 f b a];rfl
  show some [cond (hit 1 2 0 (lN (a0,0,0)) (lN (b0,0,0))) (IntKind.wrap .u8 (cond (hit 1 1 0 (lN (a0,0,0)) (lN (b0,0,0))) (IntKind.wrap .u8 (0+((1:Nat):Int))) 0+((2:Nat):Int))) (cond (hit 1 1 0 (lN (a0,0,0)) (lN (b0,0,0))) (IntKind.wrap .u8 (0+((1:Nat):Int))) 0),0,0]=_;rw [e 1 (.inl rfl),e 2 (.inr rfl),sC (c _ _ g0 f)];simp [l3,spM]
 ·obtain rfl:=u (by omega);obtain rfl:=s (by omega);have p:∀b,b=1\/b=2->hit 2 b 1 (lN (a0,a1,0)) (lN (b0,b1,0))=decide (0<bt b (a1 ||| b1)):=λb a=>by rw [rV m d b a];rfl
  have o:∀b,b=1\/b=2->hit 2 b 0 (lN (a0,a1,0)) (lN (b0,b1,0))=decide (0<bt b (a0 ||| b0 ||| b1)):=λb a=>by
   have r:=rV (c _ _ g0 f) d b a;have q:=rV g0 f b a;rw [r];have:hit 2 b 0 (lN (a0,a1,0)) (lN (b0,b1,0))=decide (0<bt b a0+(bt b b0+(bt b b1+0))):=rfl;rw [this];simp only [n8] at q ⊢;omega
  show some [cond (hit 2 2 0 (lN (a0,a1,0)) (lN (b0,b1,0))) (IntKind.wrap .u8 (cond (hit 2 1 0 (lN (a0,a1,0)) (lN (b0,b1,0))) (IntKind.wrap .u8 (0+((1:Nat):Int))) 0+((2:Nat):Int))) (cond (hit 2 1 0 (lN (a0,a1,0)) (lN (b0,b1,0))) (IntKind.wrap .u8 (0+((1:Nat):Int))) 0),cond (hit 2 2 1 (lN (a0,a1,0)) (lN (b0,b1,0))) (IntKind.wrap .u8 (cond (hit 2 1 1 (lN (a0,a1,0)) (lN (b0,b1,0))) (IntKind.wrap .u8 (0+((1:Nat):Int))) 0+((2:Nat):Int))) (cond (hit 2 1 1 (lN (a0,a1,0)) (lN (b0,b1,0))) (IntKind.wrap .u8 (0+((1:Nat):Int))) 0),0]=_;rw [o 1 (.inl rfl),o 2 (.inr rfl),p 1 (.inl rfl),p 2 (.inr rfl),sC (c _ _ (c _ _ g0 f) d),sC (c _ _ m d)];simp [l3,spM]
 ·have z:∀b,b=1\/b=2->hit 3 b 2 (lN (a0,a1,a2)) (lN (b0,b1,b2))=decide (0<bt b (a2 ||| b2)):=λb a=>by rw [rV t l b a];rfl
  have p:∀b,b=1\/b=2->hit 3 b 1 (lN (a0,a1,a2)) (lN (b0,b1,b2))=decide (0<bt b (a1 ||| b1 ||| b2)):=λb a=>by
   have r:=rV (c _ _ m d) l b a;have q:=rV m d b a;rw [r];have:hit 3 b 1 (lN (a0,a1,a2)) (lN (b0,b1,b2))=decide (0<bt b a1+(bt b b1+(bt b b2+0))):=rfl;rw [this];simp only [n8] at q ⊢;omega
  have o:∀b,b=1\/b=2->hit 3 b 0 (lN (a0,a1,a2)) (lN (b0,b1,b2))=decide (0<bt b (a0 ||| b0 ||| b1 ||| b2)):=λb a=>by
   have r:=rV (c _ _ (c _ _ g0 f) d) l b a;have q:=rV (c _ _ g0 f) d b a;have I:=rV g0 f b a;rw [r];have:hit 3 b 0 (lN (a0,a1,a2)) (lN (b0,b1,b2))=decide (0<bt b a0+(bt b b0+(bt b b1+(bt b b2+0)))):=rfl;rw [this];simp only [n8] at q I ⊢;omega
  show some [cond (hit 3 2 0 (lN (a0,a1,a2)) (lN (b0,b1,b2))) (IntKind.wrap .u8 (cond (hit 3 1 0 (lN (a0,a1,a2)) (lN (b0,b1,b2))) (IntKind.wrap .u8 (0+((1:Nat):Int))) 0+((2:Nat):Int))) (cond (hit 3 1 0 (lN (a0,a1,a2)) (lN (b0,b1,b2))) (IntKind.wrap .u8 (0+((1:Nat):Int))) 0),cond (hit 3 2 1 (lN (a0,a1,a2)) (lN (b0,b1,b2))) (IntKind.wrap .u8 (cond (hit 3 1 1 (lN (a0,a1,a2)) (lN (b0,b1,b2))) (IntKind.wrap .u8 (0+((1:Nat):Int))) 0+((2:Nat):Int))) (cond (hit 3 1 1 (lN (a0,a1,a2)) (lN (b0,b1,b2))) (IntKind.wrap .u8 (0+((1:Nat):Int))) 0),cond (hit 3 2 2 (lN (a0,a1,a2)) (lN (b0,b1,b2))) (IntKind.wrap .u8 (cond (hit 3 1 2 (lN (a0,a1,a2)) (lN (b0,b1,b2))) (IntKind.wrap .u8 (0+((1:Nat):Int))) 0+((2:Nat):Int))) (cond (hit 3 1 2 (lN (a0,a1,a2)) (lN (b0,b1,b2))) (IntKind.wrap .u8 (0+((1:Nat):Int))) 0)]=_;rw [o 1 (.inl rfl),o 2 (.inr rfl),p 1 (.inl rfl),p 2 (.inr rfl),z 1 (.inl rfl),z 2 (.inr rfl),sC (c _ _ (c _ _ (c _ _ g0 f) d) l),sC (c _ _ (c _ _ m d) l),sC (c _ _ t l)];rfl
def OT (k a b c:Nat):Bool:=spM (plA k a b c) (plB k a b c)==(a,b,c)
theorem Ys:((List.range 4).all λa=>OT 1 a 0 0)=true:=by decide +kernel
theorem Yw:((List.range 4).all λa=>(List.range 4).all λb=>OT 2 a b 0)=true:=by decide +kernel
theorem XO:((List.range 4).all λa=>(List.range 4).all λb=>(List.range 4).all λc=>OT 3 a b c)=true:=by decide +kernel
theorem YK (k a b c:Nat) (i:1<=k/\k<=3) (d:a<4) (e:b<4) (hc:c<4) (g:k<2->b=0) (f:k<3->c=0):spM (plA k a b c) (plB k a b c)=(a,b,c):=by
 have h:OT k a b c=true:=by
  have:k=1\/k=2\/k=3:=by omega
  rcases this with rfl | rfl | rfl
  ·rw [g (by omega),f (by omega)];exact r4 Ys d
  ·rw [f (by omega)];exact r4 (r4 Yw d) e
  ·exact r4 (r4 (r4 XO d) e) hc
 unfold OT at h;exact bp.1 h
def mkS (l:aa):Nat:=match l with | []=>0 | c::_=>mkOf c
def mkN (l:aa):Nat:=if mkS l=0 then 0 else 1
def twoN (l:aa):Nat:=bG isDX 2 l
theorem VP (c:UInt8):mkOf c<4:=by
 unfold mkOf;split
 ·omega
 ·split
  ·omega
  ·split<;>omega
theorem EA (l:aa):mkS l<4:=by
 cases l with
 | nil=>show 0<4;omega
 | cons c r=>exact VP c
theorem Xp (l:aa):mkN l<=l.length:=by
 cases l with
 | nil=>exact aX 0
 | cons c r=>
  unfold mkN;split<;>simp
theorem VL (c:UInt8):hasB [63,126,37] c=decide (0<mkOf c):=by
 have:=ja (λc=>hasB [63,126,37] c==decide (0<mkOf c)) (by decide +kernel) c;simpa using this
theorem UX (m:Nat) (S:aa) (a:Nat) (h:a<=S.length) (i:S.length<100000):
  cQ (m+300) S (a:Int)=some (.inr (((mkS (S.drop a):Nat):Int),S,((a+mkN (S.drop a):Nat):Int))):=by
 unfold cQ;rw [qO (m+300) S a h];cases g:S.drop a with
 | nil=>
  have f:qB (m+300) 0=some (0,false):=by kernel_rfl
  show ob (qB (m+300) 0) _=_;rw [f];rfl
 | cons c r=>
  show ob (qB (m+300) ((c.toNat:Nat):Int)) _=_;rw [(FN m c).1];show cond (decide (0<mkOf c)) _ _=_;have b:mkS (c::r)=mkOf c:=rfl;by_cases hc:0<mkOf c
  ·rw [aq hc];show ob (cq (m+300) [63,126,37] S (a:Int)) _=_;rw [BY (m+300) _ S a h (by omega),g];have e:hasB [63,126,37] c=true:=by rw [VL,aq hc]
   have d:mkN (c::r)=1:=by unfold mkN;rw [b,ab (by omega)]
   rw [b,d];simp only [e,aM,ob]
  ·rw [ar hc];have d:mkN (c::r)=0:=by unfold mkN;rw [b,ae (by omega)]
   rw [b,d];rfl
theorem Dc (m:Nat) (S:aa) (a:Nat) (h:a<=S.length) (i:S.length<100000) (e:Int):
  fR (m+300) S (a:Int) e=some (((mkS (S.drop a):Nat):Int),S,((a+mkN (S.drop a):Nat):Int),e):=by
 unfold fR;rw [mh];rcases aH a S.length with f | d
 ·have:decide (S.length<=a)=false:=by simp;omega
  rw [this];obtain ⟨c,hc⟩:∃c,S[a]?=some c:=⟨S[a],aT f⟩;rw [eJ hc,cr hc];show ob (eN (m+300) ((c.toNat:Nat):Int)) _=_;rw [(FN m c).2];have b:mkS (c::S.drop (a+1))=mkOf c:=rfl;show cond (decide (((mkOf c:Nat):Int)>0)) _ _=_;by_cases j:0<mkOf c
  ·have g:mkN (c::S.drop (a+1))=1:=by unfold mkN;rw [b,ab (by omega)]
   have:decide (((mkOf c:Nat):Int)>0)=true:=by simp;omega
   rw [this,b,g,ah];have w:IntKind.wrap .i64 ((a:Int)+1)=((a+1:Nat):Int):=by rw [wrap_i64 _ (by omega) (by omega)];omega
   rw [w]
  ·have g:mkN (c::S.drop (a+1))=0:=by unfold mkN;rw [b,ae (by omega)]
   have:decide (((mkOf c:Nat):Int)>0)=false:=by simp;omega
   rw [this,b,g,af];rfl
 ·have:decide (S.length<=a)=true:=by simp;omega
  rw [this,jt d];rfl
theorem Sr (n:Nat) (S:aa) (a:Nat) (h:a<=S.length) (i:S.length<100000) (d:S.length<n):
  jc n S (a:Int)=some (if twoN (S.drop a)<2 then .inl (((a+twoN (S.drop a):Nat):Int),5,S,((a+twoN (S.drop a):Nat):Int)) else .inr ((S.drop a).take 2,S,((a+2:Nat):Int))):=by
 unfold jc;rw [wR n _ 2 2 S a h (by omega) d];have e:bG (hasB [88,48,49,50,51,52,53,54,55,56,57]) (2:Int).toNat (S.drop a)=twoN (S.drop a):=by
  unfold twoN;have g:(2:Int).toNat=2:=rfl;rw [g];exact kO (λc=>by rw [vQ];rfl) _ _
 rw [e];by_cases b:twoN (S.drop a)<2
 ·rw [ae b,ae (by omega)];rfl
 ·have f:twoN (S.drop a)=2:=by
   have:=rr isDX 2 (S.drop a);unfold twoN at b ⊢;omega
  rw [ab b,ab (by omega),f];rfl
theorem XA (c:UInt8):isDX c=((decide (48<=c.toNat)&&decide (c.toNat<=57))||c==88):=by
 unfold isDX;congr 1;rw [tz,ca];simp
theorem Ho (n:Nat) (S:aa) (a b i e:Int) (j:Nat) (r:S.length<100000) (hi:i<2) (u:j<=S.length) (t:0<=i):
  jM n (b,i,S,(j:Int),e,[],0,0)=some (match S.drop j with
   | []=>.inr (.inl ([],S,(j:Int),5))
   | c::_=>if isDX c then .inl (b,i+1,S,((j+1:Nat):Int),e,[],0,0) else .inr (.inl ([],S,(j:Int),5))):=by
 unfold jM;have o:decide (i<2)=true:=aq hi;show cond (decide (i<2)) (cond (decide ((j:Int)>=((S.length:Nat):Int))) _ _) _=_;rw [o,mh];rcases aH j S.length with m | h
 ·have:decide (S.length<=j)=false:=by simp;omega
  rw [this];obtain ⟨c,hc⟩:∃c,S[j]?=some c:=⟨S[j],aT m⟩;have q:IntKind.wrap .i64 (i+1)=i+1:=wrap_i64 _ (by omega) (by omega);have p:IntKind.wrap .i64 ((j:Int)+1)=((j+1:Nat):Int):=by rw [wrap_i64 _ (by omega) (by omega)];omega
  rw [cr hc];simp only [eJ hc,ob,ah,af,q,p];rw [XA];have k:(((c.toNat:Nat):Int) != 88)=!(c==88):=by rw [bne];congr 1;exact oz c 88
  rw [k];by_cases s:c.toNat<48
  ·have l:decide (((c.toNat:Nat):Int)<48)=true:=by simp;omega
   have g:decide (48<=c.toNat)=false:=by simp;omega
   rw [l,g];cases (c==88)<;>rfl
  ·have l:decide (((c.toNat:Nat):Int)<48)=false:=by simp;omega
   have g:decide (48<=c.toNat)=true:=by simp;omega
   rw [l,g];by_cases v:c.toNat<=57
   ·have d:decide (((c.toNat:Nat):Int)>57)=false:=by simp;omega
    have f:decide (c.toNat<=57)=true:=by simp;omega
    rw [d,f];rfl
   ·have d:decide (((c.toNat:Nat):Int)>57)=true:=by simp;omega
    have f:decide (c.toNat<=57)=false:=by simp;omega
    rw [d,f];cases (c==88)<;>rfl
 ·have:decide (S.length<=j)=true:=by simp;omega
  rw [this,jt h];rfl
theorem Pv (n:Nat) (s:10<n) (S:aa) (a:Nat) (h:a<=S.length) (f:S.length<100000) (e:Int):
  mE n S (a:Int) e=some (if twoN (S.drop a)<2 then ([],S,((a+twoN (S.drop a):Nat):Int),5) else ((S.drop a).take 2,S,((a+2:Nat):Int),e)):=by
 obtain ⟨n,rfl⟩:∃j,n=j+3:=⟨n - 3,by omega⟩;unfold mE;rw [aw,Ho (n+3) S 0 (a:Int) 0 e a f (by omega) h (by omega)];cases k:S.drop a with
 | nil=>rfl
 | cons c r=>
  obtain ⟨m,t,g⟩:=n7 k;cases hc:isDX c with
  | false=>
   have:twoN (c::r)=0:=by unfold twoN;simp [bG,hc]
   rw [this];simp [hc,ob]
  | true=>
   simp only [hc,aM];rw [aw,Ho (n+3) S 0 (a:Int) (0+1) e (a+1) f (by omega) (by omega) (by omega),g];cases r with
   | nil=>
    have:twoN [c]=1:=by unfold twoN;simp [bG,hc]
    rw [this];rfl
   | cons d l=>
    obtain ⟨i,q,o⟩:=n7 g;cases b:isDX d with
    | false=>
     have:twoN (c::d::l)=1:=by unfold twoN;simp [bG,hc,b]
     rw [this];simp [b,ob]
    | true=>
     have:twoN (c::d::l)=2:=by unfold twoN;simp [bG,hc,b]
     rw [this];simp only [b,aM];have p:jM (n+3) ((a:Int),0+1+1,S,((a+1+1:Nat):Int),e,[],0,0)=some (.inr (.inr ((a:Int),S,((a+1+1:Nat):Int),e,[],0,0))):=rfl;rw [aw,p];show ob (bx S.length ((a+1+1:Nat):Int)) _=_;rw [cT (show a+1+1<=S.length by omega)];show ob (bx (a+1+1) (a:Int)) _=_;rw [cT (show a<=a+1+1 by omega)];have:List.drop a (List.take (a+1+1) S)=[c,d]:=by
      rw [xZ,k];have:a+1+1 - a=2:=by omega
      rw [this];rfl
     show some (List.drop a (List.take (a+1+1) S),S,((a+1+1:Nat):Int),e)=_;rw [this];rfl
theorem cutD (r:Nat) (h:r<10):List.drop r (List.take (r+1) ([48,49,50,51,52,53,54,55,56,57]:aa))=[UInt8.ofNat (48+r)]:=by
 have:∀r,r<10->List.drop r (List.take (r+1) ([48,49,50,51,52,53,54,55,56,57]:aa))=[UInt8.ofNat (48+r)]:=by decide
 exact this r h
theorem EJ {k:Nat} (h:k<10):Lib.decDigits k=[UInt8.ofNat (48+k)]:=by
 rw [Lib.decDigits,dif_pos h]
theorem Bg {k:Nat} (h:¬k<10) (a:k<100):Lib.decDigits k=[UInt8.ofNat (48+k / 10),UInt8.ofNat (48+k%10)]:=by
 rw [Lib.decDigits,dif_neg h,EJ (by omega)];rfl
theorem NE (n k:Nat) (h:k<100):aJ n (k:Int)=some (Lib.decDigits k):=by
 have c:Int.tmod (k:Int) 10=((k%10:Nat):Int):=rfl;have b:Int.tdiv (k:Int) 10=((k / 10:Nat):Int):=rfl;have g:IntKind.wrap .i64 (((k%10:Nat):Int)+1)=((k%10+1:Nat):Int):=by rw [wrap_i64 _ (by omega) (by omega)];omega
 have d:IntKind.wrap .i64 ((k / 10:Nat):Int)=((k / 10:Nat):Int):=wrap_i64 _ (by omega) (by omega);have f:IntKind.wrap .i64 (((k / 10:Nat):Int)+1)=((k / 10+1:Nat):Int):=by rw [wrap_i64 _ (by omega) (by omega)];omega
 simp only [aJ,c,b,g,d,f,cT (show k%10+1<=10 by omega),cT (show k%10<=k%10+1 by omega),ob,cutD (k%10) (by omega)];by_cases a:k<10
 ·have e:decide ((k:Int)>=10)=false:=ar (by omega);rw [e,af,EJ a,rG a]
 ·have e:decide ((k:Int)>=10)=true:=aq (by omega);rw [e,ah,cT (show k / 10+1<=10 by omega)];simp only [];rw [cT (show k / 10<=k / 10+1 by omega)];simp only [cutD (k / 10) (by omega)];rw [bQ (by simp),Bg a h];rfl
def eI (letter:UInt8) (v:Nat):aa:=if 0<v then letter::Lib.decDigits v else []
theorem N2 {k:Nat} (h:k<100):1<=(Lib.decDigits k).length/\(Lib.decDigits k).length<=2:=by
 by_cases a:k<10
 ·rw [EJ a];simp
 ·rw [Bg a h];simp
theorem yh (letter:UInt8) {k:Nat} (h:k<100):(eI letter k).length<=3:=by
 unfold eI;split
 ·have:=N2 h;simp only [aC];omega
 ·simp
theorem kM (g l:Bool) (d:aa) (x s:Nat):gQ g l d (x:Int) (s:Int)=(if l then [89] else [])++(if g then [45] else [])++d++eI 69 x++eI 83 s:=by
 unfold gQ eI;simp only [bO];have a:(0<(x:Int))=(0<x):=by simp
 have b:(0<(s:Int))=(0<s):=by simp
 simp only [a,b]
theorem P8 (n:Nat) (g l:Bool) (d:aa) (x s:Nat) (hx:x<100) (hs:s<100) (t:d.length<=1000):li n g l d (x:Int) (s:Int)=some (gQ g l d (x:Int) (s:Int)):=by
 have o:=N2 hx;have m:=N2 hs;have ex:decide ((x:Int)>0)=decide (0<x):=by simp
 have i:decide ((s:Int)>0)=decide (0<s):=by simp
 have j:∀a:aa,a.length<=1100->(cond (decide (0<x)) (ob (aJ n (x:Int)) λr=>(ob (cat ([69]:aa) r) λp=>(cat a p))) (some a))=some (a++eI 69 x):=by
  intro a e;unfold eI;by_cases h:0<x
  ·rw [aq h,ah,ae h,NE n x hx];simp only [ob];rw [bQ (by simp;omega)];simp only [];rw [bQ (by simp;omega)];rfl
  ·rw [ar h,ab h];simp
 have f:∀a:aa,a.length<=1200->(cond (decide (0<s)) (ob (aJ n (s:Int)) λr=>(ob (cat ([83]:aa) r) λp=>(ob (cat a p) λq=>(some q)))) (some a))=some (a++eI 83 s):=by
  intro a e;unfold eI;by_cases h:0<s
  ·rw [aq h,ah,ae h,NE n s hs];simp only [ob];rw [bQ (by simp;omega)];simp only [];rw [bQ (by simp;omega)];rfl
  ·rw [ar h,ab h];simp
 have b:∀a:aa,a.length<=1100->(cond (decide (0<x)) (ob (aJ n (x:Int)) λr=>(ob (cat ([69]:aa) r) λp=>(ob (cat a p) λz=>(cond (decide (0<s)) (ob (aJ n (s:Int)) λr=>(ob (cat ([83]:aa) r) λp=>(ob (cat z p) λq=>(some q)))) (some z))))) (cond (decide (0<s)) (ob (aJ n (s:Int)) λr=>(ob (cat ([83]:aa) r) λp=>(ob (cat a p) λq=>(some q)))) (some a)))=some (a++eI 69 x++eI 83 s):=by
  intro a e;have c:=j a e;by_cases h:0<x
  ·rw [aq h,ah] at c ⊢;rw [NE n x hx] at c ⊢;simp only [ob] at c ⊢;rw [bQ (a:=[69]) (by simp;omega)] at c ⊢;simp only [] at c ⊢;rw [c];simp only [];have:=f (a++eI 69 x) (by have:=yh 69 hx;simp only [aO];omega);simp only [ob] at this;exact this
  ·rw [ar h,af];have k:eI 69 x=[]:=by unfold eI;rw [ab h]
   rw [k,kR];exact f a (by omega)
 rw [kM];unfold li;rw [ex,i];cases l<;>cases g
 ·rw [af,af,bQ (by simp;omega)];exact b d (by omega)
 ·rw [af,ah,bQ (by simp;omega)];exact b ([45]++d) (by simp;omega)
 ·rw [ah,af,bQ (by simp;omega)];exact b ([89]++d) (by simp;omega)
 ·rw [ah,ah,bQ (by simp;omega)];exact b ([89,45]++d) (by simp;omega)
def di (p:UInt8->Bool) (l:aa):Prop:=∀c,l.head?=some c->p c=false
theorem mW {k:Nat} (h:k<10):(UInt8.ofNat (48+k)).toNat=48+k:=by
 rw [Gz];exact rG (by omega)
theorem ER (letter:UInt8) (v:Nat) (post:aa) (i:v<100) (j:di be post) (k:di (λc=>c==letter) post):numS letter (eI letter v++post)=.inr (v,(eI letter v).length):=by
 unfold eI;by_cases h:0<v
 ·rw [ae h];by_cases f:v<10
  ·rw [EJ f];have b:=mW f;simp only [eK,dS];rw [oh,ae rfl,pC,ae (by omega)];have a:48+v - 48=v:=by omega
   cases post with
   | nil=>
    rw [uK,b,a];rfl
   | cons e r=>
    have g:¬be e=true:=by rw [j e rfl];simp
    rw [n6,ab g,b,a];rfl
  ·rw [Bg f i];have b:=mW (show v / 10<10 by omega);have g:=mW (show v%10<10 by omega);simp only [eK,dS];rw [oh,ae rfl,pC,ae (by omega),n6,ae ((ca _).2 (by omega)),b,g];rw [show 10*(48+v / 10 - 48)+(48+v%10 - 48)=v by omega];rfl
 ·rw [ab h];have d:v=0:=by omega
  subst d;cases post with
  | nil=>rfl
  | cons c r=>
   have hc:c≠letter:=by
    have:=k c rfl;simpa using this
   rw [dS,oh,ab hc];rfl
theorem xn (letter:UInt8) (l:aa) (v k:Nat) (h:numS letter l=.inr (v,k)):v<100/\l.take k=eI letter v/\k<=l.length:=by
 cases l with
 | nil=>
  simp only [wJ,pa,bM] at h;obtain ⟨rfl,rfl⟩:=h;exact ⟨by omega,rfl,by simp⟩
 | cons c r=>
  rw [oh] at h;by_cases hc:c=letter
  ·rw [ae hc] at h;cases r with
   | nil=>simp [BU] at h
   | cons d g=>
    rw [pC] at h;by_cases i:49<=d.toNat/\d.toNat<=57
    ·rw [ae i] at h;have j:d.toNat - 48<10:=by omega
     have a:UInt8.ofNat (48+(d.toNat - 48))=d:=by
      apply gD.1;rw [mW j];omega
     have one:(c::d::g).take 2=eI letter (d.toNat - 48):=by
      unfold eI;rw [ae (by omega),EJ j,a,hc];rfl
     cases g with
     | nil=>
      simp only [uK,pa,bM] at h;obtain ⟨rfl,rfl⟩:=h;exact ⟨by omega,one,by simp⟩
     | cons e p=>
      rw [n6] at h;by_cases f:be e=true
      ·rw [ae f] at h;simp only [pa,bM] at h;obtain ⟨rfl,rfl⟩:=h;have n:=(ca e).1 f;refine ⟨by omega,?_,by simp⟩;unfold eI;have m:(10*(d.toNat - 48)+(e.toNat - 48)) / 10=d.toNat - 48:=by omega
       have o:(10*(d.toNat - 48)+(e.toNat - 48))%10=e.toNat - 48:=by omega
       have b:UInt8.ofNat (48+(e.toNat - 48))=e:=by
        apply gD.1;rw [mW (by omega)];omega
       rw [ae (by omega),Bg (by omega) (by omega),m,o,a,b,hc];rfl
      ·rw [ab f] at h;simp only [pa,bM] at h;obtain ⟨rfl,rfl⟩:=h;exact ⟨by omega,one,by simp⟩
    ·rw [ab i] at h;cases h
  ·rw [ab hc] at h;simp only [pa,bM] at h;obtain ⟨rfl,rfl⟩:=h;exact ⟨by omega,rfl,by simp⟩
theorem xp {p:UInt8->Bool}:∀(r:aa) (k:Nat) (post:aa),(∀c∈r,p c=true)->r.length<=k->(di p post\/r.length=k)->bG p k (r++post)=r.length
 | [],0,post,_,_,_=>by simp [bG]
 | [],k+1,post,_,_,h=>by
  cases post with
  | nil=>simp [bG]
  | cons c q=>
   rcases h with h | h
   ·have:=h c rfl;simp [bG,this]
   ·simp at h
 | c::r,0,post,_,h,_=>by simp at h
 | c::r,k+1,post,hp,b,h=>by
  have ih:=xp r k post (λd a=>hp d (by simp [a])) (by simpa using b) (by
   rcases h with h | h
   ·exact .inl h
   ·exact .inr (by simpa using h))
  simp only [eK,bG,hp c (by simp),aM,ih,aC]
theorem Ab {p:UInt8->Bool}:∀(k:Nat) (l:aa),∀c∈l.take (bG p k l),p c=true
 | 0,l=>by simp [bG]
 | k+1,[]=>by simp [bG]
 | k+1,c::l=>by
  simp only [bG];by_cases h:p c=true
  ·rw [ae h];intro d a;rw [np,cN] at a;rcases a with rfl | a
   ·exact h
   ·exact Ab k l d a
  ·rw [ab h];simp
theorem sM {letter:UInt8} {v:Nat} {post:aa} {p:UInt8->Bool} (b:p letter=false) (a:di p post):di p (eI letter v++post):=by
 unfold eI;intro c hc;by_cases h:0<v
 ·rw [ae h] at hc;simp only [eK,o5,av] at hc;rw [<-hc];exact b
 ·rw [ab h] at hc;exact a c hc
def isYC (c:UInt8):Bool:=isDX c||c==69||c==83
theorem R7 {l:aa} (h:di isYC l):di be l:=λc hc=>by
 have:=h c hc;unfold isYC isDX at this;simp only [oV] at this;exact this.1.1.1
theorem Zs {l:aa} (h:di isYC l):di isDX l:=λc hc=>by
 have:=h c hc;unfold isYC at this;simp only [oV] at this;exact this.1.1
theorem ZH {l:aa} (h:di isYC l):di (λc=>c==69) l:=λc hc=>by
 have:=h c hc;unfold isYC at this;simp only [oV] at this;exact this.1.2
theorem Zm {l:aa} (h:di isYC l):di (λc=>c==83) l:=λc hc=>by
 have:=h c hc;unfold isYC at this;simp only [oV] at this;exact this.2
theorem oG (c:UInt8) (l:aa):fk c (c::l)=1:=by rw [kZ,ae rfl]
theorem pY {c a:UInt8} (h:a≠c) (l:aa):fk c (a::l)=0:=by rw [kZ,ab h]
theorem K7 {g l:Bool} {d:aa} {x s:Nat} (h:okY g l d (x:Int) (s:Int)) (post:aa) (hp:di isYC post):qE (gQ g l d (x:Int) (s:Int)++post)=.inr (g,l,d,x,s,(gQ g l d (x:Int) (s:Int)).length):=by
 have E:=iN h;have p:numS 83 (eI 83 s++post)=.inr (s,(eI 83 s).length):=ER 83 s post (by omega) (R7 hp) (Zm hp);have m:di be (eI 83 s++post):=sM (by decide) (R7 hp);have M:di isDX (eI 83 s++post):=sM (by decide) (Zs hp);rw [kM];cases l with
 | true=>
  have H:okL d (x:Int) (s:Int):=by simpa [okY] using h
  obtain ⟨⟨b,k,A,z,C,B,D,O⟩,N,J⟩:=H;obtain ⟨c,r,rfl⟩:∃c r,d=c::r:=by
   cases d with
   | nil=>simp at k
   | cons c r=>exact ⟨c,r,rfl⟩
  have y:=(ca c).1 (b c (by simp));have j:49<=c.toNat/\c.toNat<=57:=by
   have:c.toNat≠48:=λe=>z (by rw [show c=48 from gD.1 e];rfl);omega
  have a:c≠45:=by rintro rfl;exact absurd y.1 (by decide)
  have w:numS 69 (eI 69 x++(eI 83 s++post))=.inr (x,(eI 69 x).length):=ER 69 x _ (by omega) m (sM (by decide) (ZH hp));have f:bG be 16 (r++(eI 69 x++(eI 83 s++post)))=r.length:=by
   refine xp r 16 _ (λe G=>b e (by simp [G])) (by simp only [aC] at A;omega) (.inl ?_);exact sM (by decide) m
  have body:∀o:Nat,uF g o ((c::r)++(eI 69 x++(eI 83 s++post)))=.inr (g,true,c::r,x,s,o+(1+r.length)+(eI 69 x).length+(eI 83 s).length):=by
   intro o;simp only [eK,uF];rw [ae j,f];have L:List.drop (1+r.length) (c::(r++(eI 69 x++(eI 83 s++post))))=eI 69 x++(eI 83 s++post):=by
    rw [pw,oM,EM rfl]
   have K:List.drop (1+r.length+(eI 69 x).length) (c::(r++(eI 69 x++(eI 83 s++post))))=eI 83 s++post:=by
    rw [show 1+r.length+(eI 69 x).length=(r.length+(eI 69 x).length)+1 by omega,oM,<-fQ,EM (by simp)]
   have F:List.take (1+r.length) (c::(r++(eI 69 x++(eI 83 s++post))))=c::r:=by
    rw [pw,np,List.take_left' rfl]
   rw [L,w];simp only [];rw [K,p,F]
  unfold qE;cases g with
  | true=>
   simp only [aM,eK,dS,fQ];rw [oG,ae rfl,oM,cU,oG];have:=body 2;simp only [eK] at this;simp only [oM,cU,show ((1:Nat)==1)=true from rfl,show 1+1=2 from rfl];rw [this];simp only [aC,aO];congr 6;omega
  | false=>
   simp only [aM,bz,aE,eK,dS,fQ];rw [oG,ae rfl,oM,cU,pY a];have:=body 1;simp only [eK] at this;simp only [oM,cU,show ((0:Nat)==1)=false from rfl,cM];rw [this];simp only [aC,aO];congr 6;omega
 | false=>
  have I:okS g d (x:Int) (s:Int):=by simpa [okY] using h
  obtain ⟨b,k,A,z,C,B,D⟩:=I;have t:x=0:=by omega
  subst t;have v:eI 69 0=[]:=rfl;have u:∀c∈d,isDX c=true:=λc hc=>by
   unfold isDX;rcases k c hc with q | q
   ·rw [q];rfl
   ·rw [q];simp
  have f:bG isDX 4 (d++(eI 83 s++post))=d.length:=xp d 4 _ u (by omega) (.inr b);have body:∀o:Nat,wj g o (d++(eI 83 s++post))=.inr (g,false,d,0,s,o+4+(eI 83 s).length):=by
   intro o;unfold wj;rw [f,b,ab (by omega),EM b,p,List.take_left' b]
  obtain ⟨c,r,rfl⟩:∃c r,d=c::r:=by
   cases d with
   | nil=>simp at b
   | cons c r=>exact ⟨c,r,rfl⟩
  have a:c≠45:=by
   rintro rfl;rcases k 45 (by simp) with q | q
   ·exact absurd ((ca _).1 q).1 (by decide)
   ·exact absurd q (by decide)
  have n:c≠89:=by
   rintro rfl;rcases k 89 (by simp) with q | q
   ·exact absurd ((ca _).1 q).2 (by decide)
   ·exact absurd q (by decide)
  have i:(45:UInt8)≠89:=by decide
  unfold qE;rw [v];cases g with
  | true=>
   simp only [aM,bz,aE,eK,dS,fQ];rw [pY i,ab (by decide),oG,oM,cU];have:=body 1;simp only [eK] at this;rw [show ((1:Nat)==1)=true from rfl,this];simp only [aC,aO] at b ⊢;congr 6;omega
  | false=>
   simp only [bz,aE,eK,dS,fQ];rw [pY n,ab (by decide),pY a,cU];have:=body 0;simp only [eK] at this;rw [show ((0:Nat)==1)=false from rfl,this];simp only [aC,aO] at b ⊢;congr 6;omega
theorem vB (c:UInt8) (l:aa):l.take (fk c l)=if fk c l=1 then [c] else []:=by
 rcases me c l with h | h
 ·rw [h];simp
 ·rw [h,ae rfl];unfold fk at h;split at h
  ·assumption
  ·cases h
theorem pG (l:aa) (i j:Nat):l.take (i+j)=l.take i++(l.drop i).take j:=by
 rw [List.take_add]
theorem rH {l:aa} {g n:Bool} {d:aa} {x s k:Nat} (h:qE l=.inr (g,n,d,x,s,k)):l.take k=gQ g n d (x:Int) (s:Int)/\k<=l.length/\x<100/\s<100/\d.length<=17:=by
 rw [kM];unfold qE at h;by_cases f:fk 89 l=1
 ·rw [ae f] at h;have o:=vB 89 l;rw [f,ae rfl] at o;have e:=vB 45 (l.drop 1);have c45:=me 45 (l.drop 1);generalize D:fk 45 (l.drop 1)=u at *;have a:l.take (1+u)=[89]++(if (u==1)=true then [45] else []):=by
   rw [pG,o,e];rcases c45 with rfl | rfl<;>rfl
  cases q:l.drop (1+u) with
  | nil=>rw [q] at h;simp [uF] at h
  | cons c r=>
   rw [q] at h;simp only [uF] at h;by_cases hc:49<=c.toNat/\c.toNat<=57
   ·rw [ae hc] at h;have A:=rr be 16 r;have B:1+bG be 16 r<=(c::r).length:=by have:=mB be 16 r;simp only [aC];omega
    generalize G:1+bG be 16 r=K at *;cases b:numS 69 (List.drop K (c::r)) with
    | inl j=>rw [b] at h;simp at h
    | inr p=>
     obtain ⟨F,j⟩:=p;rw [b] at h;simp only at h;cases m:numS 83 (List.drop (K+j) (c::r)) with
     | inl i=>rw [m] at h;simp at h
     | inr y=>
      obtain ⟨s',i⟩:=y;rw [m] at h;simp only [pa,bM] at h;obtain ⟨rfl,rfl,rfl,rfl,rfl,rfl⟩:=h;obtain ⟨a1,a2,C⟩:=xn _ _ _ _ b;obtain ⟨b1,b2,w⟩:=xn _ _ _ _ m;rw [bN] at C w;have E:l.length=1+u+(c::r).length:=by
       have:=cD List.length q;rw [bN] at this;simp only [aC] at this ⊢;omega
      refine ⟨?_,by simp only [aC] at *;omega,a1,b1,by rw [cV];omega⟩;rw [show 1+u+K+j+i=(1+u)+(K+(j+i)) by omega,pG,a,q,pG _ K,pG _ j,a2,jv,b2];simp
   ·rw [ab hc] at h;simp at h
 ·rw [ab f] at h;have e:=vB 45 l;have c45:=me 45 l;generalize D:fk 45 l=u at *;have a:l.take u=(if (u==1)=true then [45] else []):=by
   rw [e];rcases c45 with rfl | rfl<;>rfl
  unfold wj at h;by_cases z:bG isDX 4 (l.drop u)<4
  ·rw [ae z] at h;simp at h
  ·rw [ab z] at h;have t:=mB isDX 4 (l.drop u);rw [bN] at t;cases b:numS 83 (List.drop 4 (l.drop u)) with
   | inl i=>rw [b] at h;simp at h
   | inr y=>
    obtain ⟨s',i⟩:=y;rw [b] at h;simp only [pa,bM] at h;obtain ⟨rfl,rfl,rfl,rfl,rfl,rfl⟩:=h;obtain ⟨b1,b2,w⟩:=xn _ _ _ _ b;rw [bN,bN] at w;refine ⟨?_,by omega,by omega,b1,by rw [cV];omega⟩;rw [show u+4+i=u+(4+i) by omega,pG,a,pG _ 4,b2];have v:eI 69 0=[]:=rfl;rw [v];simp
abbrev DR:=Bool×Bool×aa×Nat×Nat×aa×aa×(Nat×Nat×Nat)×(Nat×Nat×Nat)×Nat
def mkE (S:aa) (p:Nat):Nat:=p+mkN (S.drop p)
def rd3 (S:aa) (y:YR) (d h c g f b a:Nat) (e:aa):Nat⊕DR:=
 if twoN (S.drop (mkE S (a+1)))<2 then .inl (mkE S (a+1)+twoN (S.drop (mkE S (a+1))))
 else .inr (y.1,y.2.1,y.2.2.1,y.2.2.2.1,y.2.2.2.2.1,e,(S.drop (mkE S (a+1))).take 2,spM (d,c,mkS (S.drop (a+1))) (h,g,mkS (S.drop (mkE S (a+1)+2))),(f,b,mkE S (a+1)),mkE S (mkE S (a+1)+2))
def rd2 (S:aa) (y:YR) (c d b a:Nat):Nat⊕DR:=
 if twoN (S.drop (mkE S (a+1)))<2 then .inl (mkE S (a+1)+twoN (S.drop (mkE S (a+1))))
 else if fk 45 (S.drop (mkE S (mkE S (a+1)+2)))=0 then .inr (y.1,y.2.1,y.2.2.1,y.2.2.2.1,y.2.2.2.2.1,(S.drop (mkE S (a+1))).take 2,[],spM (c,mkS (S.drop (a+1)),0) (d,mkS (S.drop (mkE S (a+1)+2)),0),(b,mkE S (a+1),0),mkE S (mkE S (a+1)+2))
 else rd3 S y c d (mkS (S.drop (a+1))) (mkS (S.drop (mkE S (a+1)+2))) b (mkE S (a+1)) (mkE S (mkE S (a+1)+2)) ((S.drop (mkE S (a+1))).take 2)
def sj (S:aa) (a:Nat):Nat⊕DR:=match qE (S.drop (mkE S a)) with
 | .inl k=>.inl (mkE S a+k)
 | .inr y=>if 0<y.2.2.2.2.1\/fk 45 (S.drop (mkE S (mkE S a+y.2.2.2.2.2)))=0
  then .inr (y.1,y.2.1,y.2.2.1,y.2.2.2.1,y.2.2.2.2.1,[],[],spM (mkS (S.drop a),0,0) (mkS (S.drop (mkE S a+y.2.2.2.2.2)),0,0),(mkE S a,0,0),mkE S (mkE S a+y.2.2.2.2.2))
  else rd2 S y (mkS (S.drop a)) (mkS (S.drop (mkE S a+y.2.2.2.2.2))) (mkE S a) (mkE S (mkE S a+y.2.2.2.2.2))
def YG (S:aa):Nat⊕DR->(Int×Int×aa×Int)⊕(Bool×Bool×aa×Int×Int×aa×aa×Int×Int×Int×List Int×aa×Int)
 | .inl k=>.inl ((k:Int),5,S,(k:Int))
 | .inr (g,l,dg,x,s,m,d,M,P,e)=>.inr (g,l,dg,(x:Int),(s:Int),m,d,(M.1:Int),(M.2.1:Int),(M.2.2:Int),l3 P,S,(e:Int))
theorem lH {S:aa} {p:Nat} (h:p<=S.length):mkE S p<=S.length:=by
 have:=Xp (S.drop p);rw [bN] at this;unfold mkE;omega
theorem wc {S:aa} {p:Nat} (a:¬twoN (S.drop p)<2):p+2<=S.length:=by
 have:=mB isDX 2 (S.drop p);unfold twoN at a;rw [bN] at this;omega
theorem sO {S:aa} {p:Nat} (h:¬fk 45 (S.drop p)=0):p+1<=S.length:=by
 have:=Cm 45 (S.drop p);rw [bN] at this;omega
theorem QZ (n:Nat) (g l:Bool) (d:aa) (x s:Int) (b a:aa) (k0 k1 k2:Int) (S:aa) (p:Nat) (h:p<=S.length) (e:S.length<100000) (c:S.length<n):
  kB n g l d x s b a k0 k1 k2 S (p:Int)=some (match qE (S.drop p) with
   | .inl k=>.inl (((p+k:Nat):Int),5,g,l,d,x,s,b,a,k0,k1,k2,S,((p+k:Nat):Int))
   | .inr y=>.inr (y.1,y.2.1,y.2.2.1,(y.2.2.2.1:Int),(y.2.2.2.2.1:Int),b,a,k0,k1,k2,S,((p+y.2.2.2.2.2:Nat):Int))):=by
 unfold kB;rw [VD n S p h e c];cases qE (S.drop p) with
 | inl k=>rfl
 | inr y=>rfl
theorem QS (n:Nat) (g l:Bool) (d:aa) (x s:Int) (c b:aa) (k0 k1 k2:Int) (S:aa) (p:Nat) (h:p<=S.length) (f:S.length<100000) (e:S.length<n):
  kx n g l d x s c b k0 k1 k2 S (p:Int)=some (if twoN (S.drop p)<2
   then .inl (((p+twoN (S.drop p):Nat):Int),5,g,l,d,x,s,c,b,k0,k1,k2,S,((p+twoN (S.drop p):Nat):Int))
   else .inr (g,l,d,x,s,(S.drop p).take 2,b,k0,k1,k2,S,((p+2:Nat):Int))):=by
 unfold kx;rw [Sr n S p h f e];by_cases a:twoN (S.drop p)<2
 ·rw [ae a,ae a];rfl
 ·rw [ab a,ab a];rfl
theorem Rq (n:Nat) (g l:Bool) (d:aa) (x s:Int) (b c:aa) (k0 k1 k2:Int) (S:aa) (p:Nat) (h:p<=S.length) (f:S.length<100000) (e:S.length<n):
  kw n g l d x s b c k0 k1 k2 S (p:Int)=some (if twoN (S.drop p)<2
   then .inl (((p+twoN (S.drop p):Nat):Int),5,g,l,d,x,s,b,c,k0,k1,k2,S,((p+twoN (S.drop p):Nat):Int))
   else .inr (g,l,d,x,s,b,(S.drop p).take 2,k0,k1,k2,S,((p+2:Nat):Int))):=by
 unfold kw;rw [Sr n S p h f e];by_cases a:twoN (S.drop p)<2
 ·rw [ae a,ae a];rfl
 ·rw [ab a,ab a];rfl
theorem VE (m:Nat) (S:aa) (a:Nat) (h:a<=S.length) (n:S.length<100000) (F:S.length<m+300):
  kg (m+300) S (a:Int)=some (YG S (sj S a)):=by
 have j:∀p,p<=S.length->cQ (m+300) S (p:Int)=some (.inr (((mkS (S.drop p):Nat):Int),S,((mkE S p:Nat):Int))):=λp hp=>UX m S p hp n;have b:∀p,mkS (S.drop p)<4:=λp=>EA _;have u:∀p q,eV (m+300) [((mkS (S.drop p):Nat):Int),0,0] [((mkS (S.drop q):Nat):Int),0,0] 1=some (l3 (spM (mkS (S.drop p),0,0) (mkS (S.drop q),0,0)),0):=λp q=>
  xK (m+300) (by omega) 1 (mkS (S.drop p),0,0) (mkS (S.drop q),0,0) (by omega) ⟨b p,by simp,by simp,by simp,by simp⟩ ⟨b q,by simp,by simp,by simp,by simp⟩
 have C:∀p q d f,eV (m+300) [((mkS (S.drop p):Nat):Int),((mkS (S.drop d):Nat):Int),0] [((mkS (S.drop q):Nat):Int),((mkS (S.drop f):Nat):Int),0] 2=some (l3 (spM (mkS (S.drop p),mkS (S.drop d),0) (mkS (S.drop q),mkS (S.drop f),0)),0):=λp q d f=>
  xK (m+300) (by omega) 2 (mkS (S.drop p),mkS (S.drop d),0) (mkS (S.drop q),mkS (S.drop f),0) (by omega) ⟨b p,b d,by simp,by simp,by simp⟩ ⟨b q,b f,by simp,by simp,by simp⟩
 have B:∀p q d f c i,eV (m+300) [((mkS (S.drop p):Nat):Int),((mkS (S.drop d):Nat):Int),((mkS (S.drop c):Nat):Int)] [((mkS (S.drop q):Nat):Int),((mkS (S.drop f):Nat):Int),((mkS (S.drop i):Nat):Int)] 3=some (l3 (spM (mkS (S.drop p),mkS (S.drop d),mkS (S.drop c)) (mkS (S.drop q),mkS (S.drop f),mkS (S.drop i))),0):=λp q d f c i=>
  xK (m+300) (by omega) 3 (mkS (S.drop p),mkS (S.drop d),mkS (S.drop c)) (mkS (S.drop q),mkS (S.drop f),mkS (S.drop i)) (by omega) ⟨b p,b d,b c,by simp,by simp⟩ ⟨b q,b f,b i,by simp,by simp⟩
 have b0:=lH h;unfold kg sj;rw [j a h];simp only [ob,Eg];rw [QZ _ _ _ _ _ _ _ _ _ _ _ S (mkE S a) b0 n F];cases I:qE (S.drop (mkE S a)) with
 | inl k=>rfl
 | inr y=>
  obtain ⟨g,l,dg,x,s,k⟩:=y;have bk:mkE S a+k<=S.length:=by
   have:=(rH I).2.1;rw [bN] at this;omega
  have b1:=lH bk;simp only [ob,d4,d8];rw [j (mkE S a+k) bk];simp only [ob];by_cases hs:0<s
  ·have:decide (((s:Nat):Int)>0)=true:=by simp;omega
   rw [this,ae (.inl hs)];simp only [ah];rw [u];rfl
  ·have:decide (((s:Nat):Int)>0)=false:=by simp;omega
   rw [this];simp only [af];rw [uy (m+300) 45 S _ b1 n];simp only [ob];by_cases o:fk 45 (S.drop (mkE S (mkE S a+k)))=0
   ·rw [ae (.inr o),o];simp only [show ((0:Nat)==1)=false from rfl,jx,ah,cM];rw [u];rfl
   ·have D:fk 45 (S.drop (mkE S (mkE S a+k)))=1:=(me 45 _).resolve_left o;have A:=sO o;rw [ab (λz=>z.elim hs o),D];simp only [show ((1:Nat)==1)=true from rfl,du,af];unfold rd2;rw [j _ A];simp only [ob];have G:=lH A;rw [QS _ _ _ _ _ _ _ _ _ _ _ S _ G n F];by_cases r:twoN (S.drop (mkE S (mkE S (mkE S a+k)+1)))<2
    ·rw [ae r,ae r];rfl
    ·rw [ab r,ab r];have b2:=wc r;simp only [ob,d4,d8];rw [j _ b2];simp only [ob];rw [this];simp only [af];have H:=lH b2;rw [uy (m+300) 45 S _ H n];simp only [ob];by_cases e:fk 45 (S.drop (mkE S (mkE S (mkE S (mkE S a+k)+1)+2)))=0
     ·rw [ae e,e];simp only [show ((0:Nat)==1)=false from rfl,jx,ah,cM];rw [C];rfl
     ·have t:=(me 45 (S.drop (mkE S (mkE S (mkE S (mkE S a+k)+1)+2)))).resolve_left e;have v:=sO e;rw [ab e,t];simp only [show ((1:Nat)==1)=true from rfl,du,af];unfold rd3;rw [j _ v];simp only [ob];have E:=lH v;rw [Rq _ _ _ _ _ _ _ _ _ _ _ S _ E n F];by_cases w:twoN (S.drop (mkE S (mkE S (mkE S (mkE S (mkE S a+k)+1)+2)+1)))<2
      ·rw [ae w,ae w];rfl
      ·rw [ab w,ab w];have J:=wc w;simp only [ob,d4,d8];rw [j _ J];simp only [ob];rw [B];rfl
def XE (S:aa) (P:List Int):Nat⊕DR->Bool×Bool×aa×Int×Int×aa×aa×Int×Int×Int×List Int×aa×Int×Int
 | .inl k=>(false,false,[],0,0,[],[],0,0,0,P,S,(k:Int),5)
 | .inr (g,l,dg,x,s,m,d,M,Q,e)=>(g,l,dg,(x:Int),(s:Int),m,d,(M.1:Int),(M.2.1:Int),(M.2.2:Int),l3 Q,S,(e:Int),0)
abbrev RdSt:=aa×Int×Int×List Int×Bool×Bool×aa×Int×Int×aa×aa×List Int×List Int×List Int×aa×Int×Int
def rdSt (S:aa) (i:Int) (g l:Bool) (dg:aa) (x s:Int) (b a:aa) (P A B:List Int) (p:Nat):RdSt:=
 (S,i,i,[0,0,0],g,l,dg,x,s,b,a,P,A,B,S,(p:Int),0)
theorem ZD (m:Nat) (S:aa) (a:Nat) (h:a<=S.length) (c:S.length<100000) (e:S.length<m+300):
  bv (m+300) (rdSt S 0 false false [] 0 0 [] [] [0,0,0] [0,0,0] [0,0,0] a)=some (match qE (S.drop (mkE S a)) with
   | .inl k=>.inr (.inr (false,false,[],0,0,[],[],0,0,0,[((mkE S a:Nat):Int),0,0],S,((mkE S a+k:Nat):Int),5))
   | .inr y=>.inl (rdSt S 1 y.1 y.2.1 y.2.2.1 (y.2.2.2.1:Int) (y.2.2.2.2.1:Int) [] [] [((mkE S a:Nat):Int),0,0] [((mkS (S.drop a):Nat):Int),0,0] [((mkS (S.drop (mkE S a+y.2.2.2.2.2)):Nat):Int),0,0] (mkE S (mkE S a+y.2.2.2.2.2)))):=by
 have b:∀p,p<=S.length->fR (m+300) S (p:Int) 0=some (((mkS (S.drop p):Nat):Int),S,((mkE S p:Nat):Int),0):=λp hp=>Dc m S p hp c 0;have b0:=lH h;unfold bv rdSt;simp only [d4,d8,d16,iV,show (decide ((0:Int)<3))=true from rfl,show (decide ((0:Int)>0))=false from rfl,ah,af,ob];rw [b a h];simp only [ob,show ix 3 0=some 0 from rfl,show Nat.blt 0 3=true from rfl,ah,iz,show ((0:Int)==0)=true from rfl];rw [Rj (m+300) S (mkE S a) b0 c e];cases d:qE (S.drop (mkE S a)) with
 | inl k=>rfl
 | inr y=>
  obtain ⟨g,l,dg,x,s,k⟩:=y;have bk:mkE S a+k<=S.length:=by
   have:=(rH d).2.1;rw [bN] at this;omega
  simp only [pJ,ob,d4,d8,d16,show ((0:Int) != 0)=false from rfl,af];rw [b _ bk];rfl
theorem Y2 (m:Nat) (S:aa) (g l:Bool) (dg:aa) (x s:Nat) (e f n:Int) (q:Nat) (h:q<=S.length) (o:S.length<100000) (t:S.length<m+300):
  bv (m+300) (rdSt S 1 g l dg (x:Int) (s:Int) [] [] [e,0,0] [f,0,0] [n,0,0] q)=some (
   if 0<s\/fk 45 (S.drop q)=0 then .inr (.inl (1,false,false,[],0,0,[],[],0,0,0,[0,0,0],[],0,0,g,l,dg,(x:Int),(s:Int),[],[],0,0,0,[e,0,0],[f,0,0],[n,0,0],S,(q:Int),0))
   else if twoN (S.drop (mkE S (q+1)))<2 then .inr (.inr (false,false,[],0,0,[],[],0,0,0,[e,((mkE S (q+1):Nat):Int),0],S,((mkE S (q+1)+twoN (S.drop (mkE S (q+1))):Nat):Int),5))
   else .inl (rdSt S 2 g l dg (x:Int) (s:Int) ((S.drop (mkE S (q+1))).take 2) [] [e,((mkE S (q+1):Nat):Int),0] [f,((mkS (S.drop (q+1)):Nat):Int),0] [n,((mkS (S.drop (mkE S (q+1)+2)):Nat):Int),0] (mkE S (mkE S (q+1)+2)))):=by
 have r:∀p,p<=S.length->fR (m+300) S (p:Int) 0=some (((mkS (S.drop p):Nat):Int),S,((mkE S p:Nat):Int),0):=λp hp=>Dc m S p hp o 0;unfold bv rdSt;simp only [d4,d8,d16,iV,kF,show (decide ((1:Int)<3))=true from rfl,show (decide ((1:Int)>0))=true from rfl,ah,af,ob,mh];by_cases hs:0<s
 ·have:decide (((s:Nat):Int)>0)=true:=by simp;omega
  rw [this,ae (.inl hs)];rfl
 ·have:decide (((s:Nat):Int)>0)=false:=by simp;omega
  rw [this];simp only [af];rcases aH q S.length with k | j
  ·obtain ⟨c,hc⟩:∃c,S[q]?=some c:=⟨S[q],aT k⟩;have b:decide (S.length<=q)=false:=by simp;omega
   rw [b];simp only [af,eJ hc,ob];have i:(((c.toNat:Nat):Int) != 45)=!(c==45):=by rw [bne];congr 1;exact oz c 45
   rw [i,cr hc,kZ];by_cases a:c=45
   ·have w:IntKind.wrap .i64 ((q:Int)+1)=((q+1:Nat):Int):=by rw [wrap_i64 _ (by omega) (by omega)];omega
    rw [ae a,ab (show ¬(0<s\/(1:Nat)=0) from λz=>z.elim hs (by omega)),a];simp only [wb,du,af,ob,w];rw [r _ (by omega)];simp only [ob,show ix 3 1=some 1 from rfl,show Nat.blt 1 3=true from rfl,ah,iz,kK,show ((1:Int)==0)=false from rfl,show ((1:Int)==1)=true from rfl,af];have b1:=lH (show q+1<=S.length by omega);rw [Pv (m+300) (by omega) S _ b1 o 0];by_cases d:twoN (S.drop (mkE S (q+1)))<2
    ·rw [ae d,ae d];rfl
    ·rw [ab d,ab d];simp only [ob,d4,d8,d16,show ((0:Int) != 0)=false from rfl,af];rw [r _ (wc d)];rfl
   ·have:(c==45)=false:=aI.2 a;rw [ab a,ae (.inr rfl),this];rfl
  ·have b:decide (S.length<=q)=true:=by simp;omega
   rw [b,jt j,yO,ae (.inr rfl)];rfl
theorem Y3 (m:Nat) (S:aa) (g l:Bool) (dg:aa) (x s:Nat) (o:aa) (e i u f j r:Int) (q:Nat) (h:q<=S.length) (v:S.length<100000) (z:S.length<m+300) (hs:¬0<s):
  bv (m+300) (rdSt S 2 g l dg (x:Int) (s:Int) o [] [e,f,0] [i,j,0] [u,r,0] q)=some (
   if fk 45 (S.drop q)=0 then .inr (.inl (2,false,false,[],0,0,[],[],0,0,0,[0,0,0],[],0,0,g,l,dg,(x:Int),(s:Int),o,[],0,0,0,[e,f,0],[i,j,0],[u,r,0],S,(q:Int),0))
   else if twoN (S.drop (mkE S (q+1)))<2 then .inr (.inr (false,false,[],0,0,[],[],0,0,0,[e,f,((mkE S (q+1):Nat):Int)],S,((mkE S (q+1)+twoN (S.drop (mkE S (q+1))):Nat):Int),5))
   else .inl (rdSt S 3 g l dg (x:Int) (s:Int) o ((S.drop (mkE S (q+1))).take 2) [e,f,((mkE S (q+1):Nat):Int)] [i,j,((mkS (S.drop (q+1)):Nat):Int)] [u,r,((mkS (S.drop (mkE S (q+1)+2)):Nat):Int)] (mkE S (mkE S (q+1)+2)))):=by
 have y:∀p,p<=S.length->fR (m+300) S (p:Int) 0=some (((mkS (S.drop p):Nat):Int),S,((mkE S p:Nat):Int),0):=λp hp=>Dc m S p hp v 0;unfold bv rdSt;simp only [d4,d8,d16,iV,kF,show (decide ((2:Int)<3))=true from rfl,show (decide ((2:Int)>0))=true from rfl,ah,af,ob,mh];have:decide (((s:Nat):Int)>0)=false:=by simp;omega
 rw [this];simp only [af];rcases aH q S.length with t | n
 ·obtain ⟨c,hc⟩:∃c,S[q]?=some c:=⟨S[q],aT t⟩;have b:decide (S.length<=q)=false:=by simp;omega
  rw [b];simp only [af,eJ hc,ob];have k:(((c.toNat:Nat):Int) != 45)=!(c==45):=by rw [bne];congr 1;exact oz c 45
  rw [k,cr hc,kZ];by_cases a:c=45
  ·have w:IntKind.wrap .i64 ((q:Int)+1)=((q+1:Nat):Int):=by rw [wrap_i64 _ (by omega) (by omega)];omega
   rw [ae a,ab (show ¬((1:Nat)=0) by omega),a];simp only [wb,du,af,ob,w];rw [y _ (by omega)];simp only [ob,show ix 3 2=some 2 from rfl,show Nat.blt 2 3=true from rfl,ah,iz,kK,show ((2:Int)==0)=false from rfl,show ((2:Int)==1)=false from rfl,af];have b1:=lH (show q+1<=S.length by omega);rw [Pv (m+300) (by omega) S _ b1 v 0];by_cases d:twoN (S.drop (mkE S (q+1)))<2
   ·rw [ae d,ae d];rfl
   ·rw [ab d,ab d];simp only [ob,d4,d8,d16,show ((0:Int) != 0)=false from rfl,af];rw [y _ (wc d)];rfl
  ·have:(c==45)=false:=aI.2 a;rw [ab a,ae rfl,this];rfl
 ·have b:decide (S.length<=q)=true:=by simp;omega
  rw [b,jt n,yO,ae rfl];rfl
theorem Gx (m:Nat) (S:aa) (a:Nat) (h:a<=S.length) (w:S.length<100000) (v:S.length<m+300):
  ∃P:List Int,P.length=3/\oq (m+300) S (a:Int)=some (XE S P (sj S a)):=by
 have b:∀p,mkS (S.drop p)<4:=λp=>EA _;have r:∀p q,fN (m+300) [((mkS (S.drop p):Nat):Int),0,0] [((mkS (S.drop q):Nat):Int),0,0] 1=some (l3 (spM (mkS (S.drop p),0,0) (mkS (S.drop q),0,0))):=λp q=>
  vM (m+300) (by omega) 1 (mkS (S.drop p),0,0) (mkS (S.drop q),0,0) (by omega) ⟨b p,by simp,by simp,by simp,by simp⟩ ⟨b q,by simp,by simp,by simp,by simp⟩
 have t:∀p q d f,fN (m+300) [((mkS (S.drop p):Nat):Int),((mkS (S.drop d):Nat):Int),0] [((mkS (S.drop q):Nat):Int),((mkS (S.drop f):Nat):Int),0] 2=some (l3 (spM (mkS (S.drop p),mkS (S.drop d),0) (mkS (S.drop q),mkS (S.drop f),0))):=λp q d f=>
  vM (m+300) (by omega) 2 (mkS (S.drop p),mkS (S.drop d),0) (mkS (S.drop q),mkS (S.drop f),0) (by omega) ⟨b p,b d,by simp,by simp,by simp⟩ ⟨b q,b f,by simp,by simp,by simp⟩
 have o:∀p q d f c i,fN (m+300) [((mkS (S.drop p):Nat):Int),((mkS (S.drop d):Nat):Int),((mkS (S.drop c):Nat):Int)] [((mkS (S.drop q):Nat):Int),((mkS (S.drop f):Nat):Int),((mkS (S.drop i):Nat):Int)] 3=some (l3 (spM (mkS (S.drop p),mkS (S.drop d),mkS (S.drop c)) (mkS (S.drop q),mkS (S.drop f),mkS (S.drop i)))):=λp q d f c i=>
  vM (m+300) (by omega) 3 (mkS (S.drop p),mkS (S.drop d),mkS (S.drop c)) (mkS (S.drop q),mkS (S.drop f),mkS (S.drop i)) (by omega) ⟨b p,b d,b c,by simp,by simp⟩ ⟨b q,b f,b i,by simp,by simp⟩
 have b0:=lH h;unfold oq sj;show ∃P:List Int,P.length=3/\ob (aw (bv (m+300)) (m+299+1) (rdSt S 0 false false [] 0 0 [] [] [0,0,0] [0,0,0] [0,0,0] a)) _=_;rw [aw,ZD m S a h w v];cases I:qE (S.drop (mkE S a)) with
 | inl k=>(refine ⟨_,?_,rfl⟩;rfl)
 | inr y=>
  obtain ⟨g,l,dg,x,s,k⟩:=y;have bk:mkE S a+k<=S.length:=by
   have:=(rH I).2.1;rw [bN] at this;omega
  have b1:=lH bk;show ∃P:List Int,P.length=3/\ob (aw (bv (m+300)) (m+298+1) (rdSt S 1 g l dg (x:Int) (s:Int) [] [] [((mkE S a:Nat):Int),0,0] [((mkS (S.drop a):Nat):Int),0,0] [((mkS (S.drop (mkE S a+k)):Nat):Int),0,0] (mkE S (mkE S a+k)))) _=_;rw [aw,Y2 m S g l dg x s _ _ _ _ b1 w v];simp only [];by_cases hc:0<s\/fk 45 (S.drop (mkE S (mkE S a+k)))=0
  ·rw [ae hc,ae hc];refine ⟨[0,0,0],rfl,?_⟩;simp only [ob,d4,d8,d16];rw [r];rfl
  ·rw [ab hc,ab hc];have hs:¬0<s:=λz=>hc (.inl z);have C:=sO (λz=>hc (.inr z));have J:=lH C;unfold rd2;by_cases j:twoN (S.drop (mkE S (mkE S (mkE S a+k)+1)))<2
   ·rw [ae j,ae j];(refine ⟨_,?_,rfl⟩;rfl)
   ·rw [ab j,ab j];have b2:=wc j;have H:=lH b2;show ∃P:List Int,P.length=3/\ob (aw (bv (m+300)) (m+297+1) (rdSt S 2 g l dg (x:Int) (s:Int) _ [] [_,_,0] [_,_,0] [_,_,0] (mkE S (mkE S (mkE S (mkE S a+k)+1)+2)))) _=_;rw [aw,Y3 m S g l dg x s _ _ _ _ _ _ _ _ H w v hs];by_cases e:fk 45 (S.drop (mkE S (mkE S (mkE S (mkE S a+k)+1)+2)))=0
    ·rw [ae e,ae e];refine ⟨[0,0,0],rfl,?_⟩;simp only [ob,d4,d8,d16];rw [t];rfl
    ·rw [ab e,ab e];have u:=sO e;have G:=lH u;unfold rd3;by_cases n:twoN (S.drop (mkE S (mkE S (mkE S (mkE S (mkE S a+k)+1)+2)+1)))<2
     ·rw [ae n,ae n];(refine ⟨_,?_,rfl⟩;rfl)
     ·rw [ab n,ab n];have F:∀(E D:aa) (P A B:List Int) (p:Nat),bv (m+300) (rdSt S 3 g l dg (x:Int) (s:Int) E D P A B p)=some (.inr (.inl (3,false,false,[],0,0,[],[],0,0,0,[0,0,0],[],0,0,g,l,dg,(x:Int),(s:Int),E,D,0,0,0,P,A,B,S,(p:Int),0))):=λ_ _ _ _ _ _=>rfl;show ∃P:List Int,P.length=3/\ob (aw (bv (m+300)) (m+296+1) (rdSt S 3 g l dg (x:Int) (s:Int) _ _ _ _ _ _)) _=_;rw [aw,F];refine ⟨[0,0,0],rfl,?_⟩;simp only [ob,d4,d8,d16];rw [o];rfl
theorem Vz (n a:Nat) (q:a<65536):∃d,lJ n (a:Int)=some d/\d.length=4/\∀c∈d,be c=true:=by
 have o:Int.tmod (a:Int) 10000=((a%10000:Nat):Int):=rfl;have m:a%10000<10000:=sc _ (by decide);generalize a%10000=N at *;have i:Int.tdiv (N:Int) 1000=((N / 1000:Nat):Int):=rfl;have p:Int.tdiv (N:Int) 100=((N / 100:Nat):Int):=rfl;have k:Int.tdiv (N:Int) 10=((N / 10:Nat):Int):=rfl;have l:IntKind.wrap .u16 ((N / 1000:Nat):Int)=((N / 1000:Nat):Int):=wK _ (by omega) (by omega);have g:IntKind.wrap .u16 ((N / 100:Nat):Int)=((N / 100:Nat):Int):=wK _ (by omega) (by omega);have h:IntKind.wrap .u16 ((N / 10:Nat):Int)=((N / 10:Nat):Int):=wK _ (by omega) (by omega);have m2:Int.tmod ((N / 100:Nat):Int) 10=((N / 100%10:Nat):Int):=rfl;have j:Int.tmod ((N / 10:Nat):Int) 10=((N / 10%10:Nat):Int):=rfl;have f:Int.tmod (N:Int) 10=((N%10:Nat):Int):=rfl;have s:∀r:Nat,r<10->IntKind.wrap .u16 ((r:Int)+1)=((r+1:Nat):Int):=λr e=>by rw [wK _ (by omega) (by omega)];omega
 refine ⟨[UInt8.ofNat (48+N / 1000),UInt8.ofNat (48+N / 100%10),UInt8.ofNat (48+N / 10%10),UInt8.ofNat (48+N%10)],?_,rfl,?_⟩
 ·simp only [lJ,o,i,p,k,l,g,h,m2,j,f,s (N / 1000) (by omega),s (N / 100%10) (by omega),s (N / 10%10) (by omega),s (N%10) (by omega),cT (show N / 1000+1<=10 by omega),cT (show N / 1000<=N / 1000+1 by omega),cT (show N / 100%10+1<=10 by omega),cT (show N / 100%10<=N / 100%10+1 by omega),cT (show N / 10%10+1<=10 by omega),cT (show N / 10%10<=N / 10%10+1 by omega),cT (show N%10+1<=10 by omega),cT (show N%10<=N%10+1 by omega),ob,cutD (N / 1000) (by omega),cutD (N / 100%10) (by omega),cutD (N / 10%10) (by omega),cutD (N%10) (by omega)];rw [bQ (by simp)];simp only [];rw [bQ (by simp)];simp only [];rw [bQ (by simp)];rfl
 ·have b:∀r:Nat,r<10->be (UInt8.ofNat (48+r))=true:=λr e=>(ca _).2 (by rw [mW e];omega);simp only [cN,o7,qi,A5,forall_eq];exact ⟨b _ (by omega),b _ (by omega),b _ (by omega),b _ (by omega)⟩
theorem xQ (n:Nat) (g l:Bool) (d:aa) (x s:Int) (c:200<n) (e:d.length<=100) (h:okY false l d x s):∃b,(ob (cR n g l d x s) λr=>(cond (r==0) (some (false,l,d,x,s)) (some (g,l,d,x,s))))=some (b,l,d,x,s)/\okY b l d x s:=by
 rw [Ek n g l d x s c e];by_cases a:okY g l d x s
 ·rw [ae a];exact ⟨g,rfl,a⟩
 ·rw [ab a];exact ⟨false,rfl,h⟩
theorem xg {d:aa} {s:Int} (e:d.length=4) (f:∀c∈d,be c=true\/c=88) (g:0<=s) (a:s<=4) (b:¬(0<s/\hasX d=true)):okY false false d 0 s:=by
 have:okS false d 0 s:=⟨e,f,rfl,by simp,g,a,b⟩;simpa [okY] using this
theorem VN (n:Nat) (a b:Int) (g:Bool) (d:aa) (B:d.length=4) (u:∀c∈d,be c=true) (A:4<n):
  ∃s:aa,aw (gz n) n (a,b,[],0,false,false,[],0,0,g,false,d,0,0)=some (s,false,false,[],0,0,g,false,d,0,0)/\s.length=4/\∀c∈s,be c=true\/c=88:=by
 obtain ⟨y,o,s,r,v,l⟩:=pZ (step:=gz n) (λx=>∃(i:Nat) (s:aa),i<=4/\s.length=i/\(∀c∈s,be c=true\/c=88)/\x=(a,b,s,(i:Int),false,false,[],0,0,g,false,d,0,0)) (λx=>4 - x.2.2.2.1.toNat) (λy=>∃s:aa,y=(s,false,false,[],0,0,g,false,d,0,0)/\s.length=4/\∀c∈s,be c=true\/c=88) (by
  rintro x ⟨i,s,hi,hs,hc,rfl⟩;rcases aH i 4 with k | p
  ·obtain ⟨c,f⟩:∃c,d[i]?=some c:=⟨d[i],aT (by omega)⟩;have m:decide ((i:Int)<4)=true:=aq (by omega);have t:IntKind.wrap .i64 ((i:Int)+1)=((i+1:Nat):Int):=by rw [wrap_i64 _ (by omega) (by omega)];omega
   have next:∀e:UInt8,(be e=true\/e=88)->∃j,some (Sum.inl (a,b,s++[e],((i+1:Nat):Int),false,false,([]:aa),(0:Int),(0:Int),g,false,d,(0:Int),(0:Int)))=some (Sum.inl (β:=aa×Bool×Bool×aa×Int×Int×Bool×Bool×aa×Int×Int) j)/\(∃(i:Nat) (s:aa),i<=4/\s.length=i/\(∀c∈s,be c=true\/c=88)/\j=(a,b,s,(i:Int),false,false,[],0,0,g,false,d,0,0))/\4 - j.2.2.2.1.toNat<4 - i:=by
    intro e z;refine ⟨_,rfl,⟨i+1,s++[e],k,by simp [hs],?_,rfl⟩,by simp only [bO];omega⟩;intro w h;rcases lg.1 h with q | q
    ·exact hc w q
    ·simp only [cN,o7,qi] at q;rw [q];exact z
   simp only [gz,m,ah,t,bO,cT (show i+1<=d.length by omega),cT (show i<=i+1 by omega),ob,cut1 f];rw [bQ (a:=s) (b:=[88]) (by simp;omega),bQ (a:=s) (b:=[c]) (by simp;omega)];simp only [];left;cases ((i:Int)==a)
   ·cases ((i:Int)==b)
    ·exact next c (.inl (u c (fc f)))
    ·exact next 88 (.inr rfl)
   ·exact next 88 (.inr rfl)
  ·have:i=4:=by omega
   subst this;exact .inr ⟨_,rfl,s,rfl,hs,hc⟩) n (a,b,[],0,false,false,[],0,0,g,false,d,0,0) ⟨0,[],by omega,rfl,by simp,rfl⟩ (by simp;omega)
 exact ⟨s,by rw [o,r],v,l⟩
theorem cut9 (r:Nat) (h:r<9):List.drop r (List.take (r+1) ([49,50,51,52,53,54,55,56,57]:aa))=[UInt8.ofNat (49+r)]:=by
 have:∀r,r<9->List.drop r (List.take (r+1) ([49,50,51,52,53,54,55,56,57]:aa))=[UInt8.ofNat (49+r)]:=by decide
 exact this r h
theorem Jk {d:aa} {x s:Nat} (b:∀c∈d,be c=true) (j:1<=d.length) (n:d.length<=5) (f:d.head?≠some 48) (i:x<=11) (g:x=0->d.length=5) (m:s<=d.length+x):okY false true d (x:Int) (s:Int):=by
 have a:=rJ d 0 0 b (by simp);have hp:(10:Nat) ^ (d.length+0)<=10 ^ 5:=ly (by decide) (by omega);have h:(10:Nat) ^ x<=10 ^ 11:=ly (by decide) i;have l:=zy (Nat.le_of_lt (pi a hp)) h;have e:(10:Nat) ^ 5*10 ^ 11=E16:=by decide
 have:okL d (x:Int) (s:Int):=⟨⟨b,j,by omega,f,by omega,by omega,by rintro ⟨o,k⟩;have:=g (by omega);omega,by simp only [bO];omega⟩,by omega,by omega⟩;simpa [okY] using this
theorem Nn (m a0 a2 a b:Nat) (g:Bool) (Z:a2<65536) (Y:a<256) (h4:b<256):∃f l d x s,jI (m+300) (a0:Int) g (a2:Int) (a:Int) (b:Int)=some (f,l,d,x,s)/\okY f l d x s/\d.length<=5/\x<=11/\(a0%6≠3->hasX d=false):=by
 obtain ⟨d,P,j,k⟩:=Vz (m+300) a2 Z;have w:∀c∈d,be c=true\/c=88:=λc hc=>.inl (k c hc);have u:=ve k;unfold jI;rw [P];simp only [ob];cases H:(Int.tmod (a0:Int) 6==3) with
 | true=>
  simp only [ah];obtain ⟨s,I,Q,C⟩:=VN (m+300) (IntKind.wrap .i64 (Int.tmod (a:Int) 4)) (IntKind.wrap .i64 (Int.tmod (b:Int) 4)) g d j k (by omega);rw [I];obtain ⟨f,i,h⟩:=xQ (m+300) g false s 0 0 (by omega) (by omega) (xg Q C (by omega) (by omega) (by omega))
  exact ⟨f,false,s,0,0,i,h,by omega,by omega,λY=>absurd (by
   have e:=bp.1 H;have e2:Int.tmod (a0:Int) 6=((a0%6:Nat):Int):=rfl;omega) Y⟩
 | false=>
  simp only [af];cases (Int.tmod (a0:Int) 6==4) with
  | true=>
   simp only [ah];have e:Int.tmod (a:Int) 4=((a%4:Nat):Int):=rfl;have w1:IntKind.wrap .i64 ((a%4:Nat):Int)=((a%4:Nat):Int):=wrap_i64 _ (by omega) (by omega);have w2:IntKind.wrap .i64 (1+((a%4:Nat):Int))=((1+a%4:Nat):Int):=by rw [wrap_i64 _ (by omega) (by omega)];omega
   rw [e,w1,w2];obtain ⟨f,i,h⟩:=xQ (m+300) g false d 0 ((1+a%4:Nat):Int) (by omega) (by omega) (xg j w (by omega) (by omega) (by rw [u];simp));exact ⟨f,false,d,0,_,i,h,by omega,by omega,λ_=>u⟩
  | false=>
   simp only [af];cases (Int.tmod (a0:Int) 6==5) with
   | false=>
    simp only [af];obtain ⟨f,i,h⟩:=xQ (m+300) g false d 0 0 (by omega) (by omega) (xg j w (by omega) (by omega) (by omega));exact ⟨f,false,d,0,0,i,h,by omega,by omega,λ_=>u⟩
   | true=>
    simp only [ah];have e9:Int.tmod (a:Int) 9=((a%9:Nat):Int):=rfl;have w9:IntKind.wrap .u8 (((a%9:Nat):Int)+1)=((a%9+1:Nat):Int):=by rw [fU _ (by omega) (by omega)];omega
    have e3:Int.tmod (b:Int) 3=((b%3:Nat):Int):=rfl;have e5:Int.tmod (b:Int) 5=((b%5:Nat):Int):=rfl;have w5:IntKind.wrap .u8 (1+((b%5:Nat):Int))=((1+b%5:Nat):Int):=by rw [fU _ (by omega) (by omega)];omega
    have B:Int.tdiv (b:Int) 16=((b / 16:Nat):Int):=rfl;have G:IntKind.wrap .u8 ((b / 16:Nat):Int)=((b / 16:Nat):Int):=fU _ (by omega) (by omega);have J:Int.tmod ((b / 16:Nat):Int) 11=((b / 16%11:Nat):Int):=rfl;have N:IntKind.wrap .i64 ((b / 16%11:Nat):Int)=((b / 16%11:Nat):Int):=wrap_i64 _ (by omega) (by omega);have O:IntKind.wrap .i64 (1+((b / 16%11:Nat):Int))=((1+b / 16%11:Nat):Int):=by rw [wrap_i64 _ (by omega) (by omega)];omega
    have T:Int.tdiv (a:Int) 16=((a / 16:Nat):Int):=rfl;have F:IntKind.wrap .u8 ((a / 16:Nat):Int)=((a / 16:Nat):Int):=fU _ (by omega) (by omega);have L:IntKind.wrap .i64 ((a / 16:Nat):Int)=((a / 16:Nat):Int):=wrap_i64 _ (by omega) (by omega);have U:UInt8.ofNat (49+a%9)≠48:=by
     intro q;have:=cD UInt8.toNat q;rw [show 49+a%9=48+(1+a%9) by omega,mW (by omega)] at this;exact absurd this (by show ¬48+(1+a%9)=48;omega)
    have o:be (UInt8.ofNat (49+a%9))=true:=(ca _).2 (by rw [show 49+a%9=48+(1+a%9) by omega,mW (by omega)];omega);rw [e9,w9,cT (show a%9+1<=9 by omega)];simp only [];rw [cT (show a%9<=a%9+1 by omega)];simp only [];rw [cut9 (a%9) (by omega),bQ (by simp;omega)];simp only [];generalize M:[UInt8.ofNat (49+a%9)]++d=D;have A:D.length=5:=by rw [<-M];simp [j]
    have t:∀c∈D,be c=true:=by
     rw [<-M];intro c hc;simp only [eK,dS,cN] at hc;rcases hc with rfl | hc
     ·exact o
     ·exact k c hc
    have z:D.head?≠some 48:=by rw [<-M];simpa using U
    rw [e3,e5,w5,B,G,J,N,O,T,F,L];by_cases h33:0<b%3
    ·have S:decide (((b%3:Nat):Int)>0)=true:=aq (by omega);rw [S,ah,cT (show 1+b%5<=D.length by omega)];simp only [cU];generalize W:List.take (1+b%5) D=E;have hEl:E.length=1+b%5:=by rw [<-W,cV];omega
     have v:∀c∈E,be c=true:=by rw [<-W];exact λc hc=>t c (List.mem_of_mem_take hc)
     have V:E.head?≠some 48:=by
      rw [<-W];cases D with
      | nil=>simp at A
      | cons c r=>rw [pw,np];simpa using z
     generalize hX:1+b / 16%11=X;have y:X<=11:=by omega
     have hX1:1<=X:=by omega
     have K:IntKind.wrap .i64 (IntKind.wrap .i64 (((E.length:Nat):Int)+((X:Nat):Int))+1)=((E.length+X+1:Nat):Int):=by
      rw [wrap_i64 (((E.length:Nat):Int)+((X:Nat):Int)) (by omega) (by omega),wrap_i64 _ (by omega) (by omega)];omega
     have p:(((E.length+X+1:Nat):Int)==0)=false:=aI.2 (by omega);rw [K,p,af];have R:Int.tmod ((a / 16:Nat):Int) ((E.length+X+1:Nat):Int)=((a / 16%(E.length+X+1):Nat):Int):=rfl;rw [R];have n:a / 16%(E.length+X+1)<E.length+X+1:=sc _ (by omega);generalize a / 16%(E.length+X+1)=s at n ⊢;obtain ⟨f,i,h⟩:=xQ (m+300) g true E ((X:Nat):Int) ((s:Nat):Int) (by omega) (by omega) (Jk v (by omega) (by omega) V y (by omega) (by omega));exact ⟨f,true,E,_,_,i,h,by omega,by omega,λ_=>ve v⟩
    ·have S:decide (((b%3:Nat):Int)>0)=false:=ar (by omega);rw [S,af,A];have K:IntKind.wrap .i64 (IntKind.wrap .i64 (((5:Nat):Int)+0)+1)=((6:Nat):Int):=by decide
     have p:(((6:Nat):Int)==0)=false:=rfl;rw [K,p,af];have R:Int.tmod ((a / 16:Nat):Int) ((6:Nat):Int)=((a / 16%6:Nat):Int):=rfl;rw [R];have n:a / 16%6<6:=sc _ (by omega);generalize a / 16%6=s at n ⊢;obtain ⟨f,i,h⟩:=xQ (m+300) g true D ((0:Nat):Int) ((s:Nat):Int) (by omega) (by omega) (Jk t (by omega) (by omega) z (by omega) (by omega) (by omega));exact ⟨f,true,D,_,_,i,h,by omega,by omega,λ_=>ve t⟩
theorem Xo (m a0 a2 f b:Nat) (g:Bool) (c:a2<65536) (k:f<256) (i:b<256):∃a l d x s,jI (m+300) (a0:Int) g (a2:Int) (f:Int) (b:Int)=some (a,l,d,x,s)/\okY a l d x s/\d.length<=5/\x<=11:=by
 obtain ⟨a,l,d,x,s,e,h,j,c,_⟩:=Nn m a0 a2 f b g c k i;exact ⟨a,l,d,x,s,e,h,j,c⟩
theorem vb {g l:Bool} {d:aa} {x s:Nat} (h:okY g l d (x:Int) (s:Int)):(gQ g l d (x:Int) (s:Int)).length<=25:=by
 have hs:=iN h;have c:=yh 69 (show x<100 by omega);have a:=yh 83 (show s<100 by omega);rw [kM];simp only [aO];have b:(if l=true then ([89]:aa) else []).length<=1:=by split<;>simp
 have e:(if g=true then ([45]:aa) else []).length<=1:=by split<;>simp
 omega
end Go.Sh
