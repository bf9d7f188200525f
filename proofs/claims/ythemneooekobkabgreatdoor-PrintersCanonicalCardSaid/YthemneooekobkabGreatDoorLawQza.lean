
/- Plain proofs, kept as far as they are needed here (printed by prune.py).
   Conditions: none. -/
import Derived.Laws.RangeString
import Derived.Laws.RangeAny
import Derived.Test.YthemneooekobkabGreatDoorShQ
import Derived.Lib.IndexLaws
import Derived.Test.YthemneooekobkabGreatDoorAbsZ
set_option linter.unusedVariables false
set_option linter.unusedSimpArgs false
set_option maxRecDepth 100000
namespace Go.Sh
open Go.Abs
theorem fO {X Y:Type} {step:X->Option (X⊕Y)} (I:X->Prop) (b:X->Nat) (G:X->Y)
  (h:∀x,I x->(∃a,step x=some (.inl a)/\I a/\b a<b x/\G a=G x)\/step x=some (.inr (G x))):
  ∀(n:Nat) (x:X),I x->b x<n->ar step n x=some (G x)
 | 0,x,_,e=>by omega
 | n+1,x,hx,e=>by
  rcases h x hx with ⟨a,c,d,g,f⟩ | c
  ·simp only [ar,c];rw [fO I b G h n a d (by omega),f]
  ·simp only [ar,c]
theorem sA {X Y:Type} {step:X->Option (X⊕Y)} (I:X->Prop) (b:X->Nat) (Q:Y->Prop)
  (h:∀x,I x->(∃a,step x=some (.inl a)/\I a/\b a<b x)\/∃y,step x=some (.inr y)/\Q y):
  ∀(n:Nat) (x:X),I x->b x<n->∃y,ar step n x=some y/\Q y
 | 0,x,_,e=>by omega
 | n+1,x,hx,e=>by
  rcases h x hx with ⟨a,d,c,f⟩ | ⟨y,d,c⟩
  ·simp only [ar,d];exact sA I b Q h n a c (by omega)
  ·exact ⟨y,by simp only [ar,d],c⟩
theorem Bt (x:Int):0<=IntKind.wrap .u8 x/\IntKind.wrap .u8 x<256:=by
 show 0<=x%256/\x%256<256;omega
theorem kD (x:Int) (b:0<=x) (a:x<256):IntKind.wrap .u8 x=x:=by
 show x%256=x;omega
theorem ID (x:Int):IntKind.wrap .u8 x=x%256:=rfl
theorem wrap_i64 (x:Int) (b:-9223372036854775808<=x) (a:x<9223372036854775808):IntKind.wrap .i64 x=x:=by
 simp only [IntKind.wrap,IntKind.signed,IntKind.bits];simp;omega
theorem dI {l:aa} {i:Nat} {c:UInt8} (h:l[i]?=some c):sx l (i:Int)=some c:=by
 simp [sx,h]
theorem eG {n i:Nat} (h:i<n):ix n (i:Int)=some i:=by
 simp [ix];omega
theorem ef {n i:Nat} (h:i<=n):bx n (i:Int)=some i:=by
 simp [bx];omega
theorem B7 {l:aa} {i:Nat} {c:UInt8} (h:l[i]?=some c) (hc:c.toNat<128):dec l i=(c.toNat,1):=by
 have a:i<l.length:=by
  rcases aG i l.length with b | b
  ·exact b
  ·rw [ii b] at h;cases h
 have hs:i<(ByteArray.mk l.toArray).size:=a;have d:(ByteArray.mk l.toArray)[i]'hs=c:=by
  rw [be a] at h;simp only [au] at h;exact h
 unfold dec;rw [decode_ascii _ i hs (by rw [d];exact hc),d]
theorem Iu {l:aa} {i:Nat} {c:UInt8} (h:l[i]?=some c) (hc:128<=c.toNat):128<=(dec l i).1/\1<=(dec l i).2:=by
 have a:i<l.length:=by
  rcases aG i l.length with b | b
  ·exact b
  ·rw [ii b] at h;cases h
 have hs:i<(ByteArray.mk l.toArray).size:=a;have d:(ByteArray.mk l.toArray)[i]'hs=c:=by
  rw [be a] at h;simp only [au] at h;exact h
 unfold dec;exact decode_high _ i hs (by rw [d];exact hc)
theorem ub {α:Type} {l:List α} {i:Nat} {c:α} (h:l[i]?=some c):i<l.length:=by
 rcases aG i l.length with a | a
 ·exact a
 ·rw [ii a] at h;cases h
theorem bS {α:Type} {l:List α} {i:Nat} {c:α} (h:l[i]?=some c):l.drop i=c::l.drop (i+1):=by
 have a:=ub h;rw [be a] at h;simp only [au] at h;rw [<-h,sJ a]
theorem kv {α c:Type} [BEq α] [LawfulBEq α] [DecidableEq α] (a b:α) (x y:c):(cond (a==b) x y)=if a=b then x else y:=by
 by_cases h:a=b
 ·subst h;simp
 ·rw [aL.2 h];simp [h]
theorem vR {α c:Type} [BEq α] [LawfulBEq α] [DecidableEq α] (a b:α) (x y:c):(cond (a != b) x y)=if a=b then y else x:=by
 by_cases h:a=b
 ·subst h;simp
 ·rw [bne,aL.2 h];simp [h]
theorem bA {a:Type} (p:Prop) [Decidable p] (x y:a):(cond (decide p) x y)=if p then x else y:=by
 by_cases h:p<;>simp [h]
theorem Hu {a:Type} (b:Bool) (x y:a):(cond (!b) x y)=cond b y x:=by cases b<;>rfl
theorem ja (a b:Nat):(decide (((a:Nat):Int)<((b:Nat):Int)))=decide (a<b):=by
 by_cases h:a<b<;>simp [h]
theorem ma (a b:Nat):(decide (((a:Nat):Int)>=((b:Nat):Int)))=decide (b<=a):=by
 by_cases h:b<=a<;>simp [h]
theorem oa (c d:UInt8):((((c.toNat:Nat):Int))==((d.toNat:Nat):Int))=(c==d):=by
 by_cases h:c=d
 ·subst h;simp
 ·have b:c.toNat≠d.toNat:=λe=>h (gy.1 e);have a:((c.toNat:Nat):Int)≠((d.toNat:Nat):Int):=by omega
  rw [aL.2 a,aL.2 h]
theorem X1 (c:UInt8):UInt8.ofNat (Int.toNat ((c.toNat:Nat):Int))=c:=by simp
def two (c:Nat):aa:=[UInt8.ofNat (48+c / 10),UInt8.ofNat (48+c%10)]
def sea (m:aa):Int:=match (List.range 21).find? (λj=>m==two (21+j)) with | some j=>((21+j:Nat):Int) | none=>0
theorem lU {j:Nat} (a:j<21):sea (two (21+j))=((21+j:Nat):Int):=by
 have:((List.range 21).all λj=>sea (two (21+j))==((21+j:Nat):Int))=true:=by decide +kernel
 simpa using (List.all_eq_true.1 this) j (by simpa using a)
theorem pB (m:aa):sea m=0\/∃j,j<21/\m=two (21+j):=by
 unfold sea;split
 ·rename_i j h;have b:=List.find?_some h;have a:=List.mem_of_find?_eq_some h;exact .inr ⟨j,by simpa using a,by simpa using b⟩
 ·exact .inl rfl
theorem qe {b:UInt8} {d:Nat} (h:Lib.digitVal b=some d):d<10/\b.toNat=48+d:=by
 unfold Lib.digitVal at h;split at h
 ·cases h;omega
 ·cases h
theorem P7 {a b:UInt8} {v:Int} (h:Lib.atoi [a,b]=some v) (q:21<=v) (p:v<42):∃j,j<21/\[a,b]=two (21+j)/\v=((21+j:Nat):Int):=by
 obtain ⟨b0,r,e,n⟩:=Lib.atoi_cases h;cases e;rcases n with ⟨_,m,_,_,i⟩ | ⟨_,m,_,c,i⟩ | ⟨_,_,m,c,i⟩
 ·omega
 ·simp only [Lib.decFrom] at c;split at c
  ·rename_i d g;have:=(qe g).1;simp only [au] at c;omega
  ·cases c
 ·simp only [Lib.decFrom] at c;split at c
  ·rename_i d g;split at c
   ·rename_i d' f;obtain ⟨k1,k2⟩:=qe g;obtain ⟨o,k4⟩:=qe f;simp only [au] at c;refine ⟨m - 21,by omega,?_,by omega⟩;have l:(21+(m - 21)) / 10=d:=by omega
    have k:(21+(m - 21))%10=d':=by omega
    unfold two;rw [l,k,<-k2,<-k4];simp
   ·cases c
  ·cases c
theorem yE {j:Nat} (a:j<21):Lib.atoi (two (21+j))=some ((21+j:Nat):Int):=by
 have:((List.range 21).all λj=>Lib.atoi (two (21+j))==some ((21+j:Nat):Int))=true:=by decide +kernel
 simpa using (List.all_eq_true.1 this) j (by simpa using a)
theorem qW (n:Nat) (g l:Bool) (dg:aa) (x q:Int) (m d:aa) (k0 k1 k2:Int) (k:m.length<=18):bP n g l dg x q m d k0 k1 k2=some (sea m,decide (0<sea m)):=by
 have f:Nat.ble m.length 18=true:=di k;rcases pB m with i | ⟨j,c,rfl⟩
 ·unfold bP;rw [f,i];show opt (Lib.atoi m) _ _=_;cases o:Lib.atoi m with
  | none=>rfl
  | some v=>
   show cond _ _ _=_;by_cases h:m.length=2
   ·rw [h];obtain ⟨a,b,rfl⟩:∃a b,m=[a,b]:=by
     match m,h with
     | [a,b],_=>exact ⟨a,b,rfl⟩
    show ob (dK n v) _=_;unfold dK;rw [bA,bA];split
    ·rfl
    ·split
     ·rfl
     ·exfalso;obtain ⟨j,c,e,_⟩:=P7 o (by omega) (by omega);rw [e,lU c] at i;omega
   ·rw [show (((m.length:Nat):Int) != 2)=true by simp;omega];rfl
 ·rw [lU c];have e:bP n g l dg x q (two (21+j)) d k0 k1 k2=some (((21+j:Nat):Int),true):=by
   unfold bP;rw [f,yE c];show ob (dK n ((21+j:Nat):Int)) _=_;unfold dK;rw [bA,bA,ab (by omega),ab (by omega)];rfl
  rw [e];have:decide (0<((21+j:Nat):Int))=true:=by simp;omega
  rw [this]
theorem Lt (n:Nat) {c:Nat} (hc:c<100):gA n (c:Int)=some (two c):=by
 have f:Int.tdiv (c:Int) 10=((c / 10:Nat):Int):=by
  rw [show (10:Int)=((10:Nat):Int) from rfl,<-Int.ofNat_tdiv]
 have d:Int.tmod (c:Int) 10=((c%10:Nat):Int):=by
  rw [show (10:Int)=((10:Nat):Int) from rfl,<-Int.ofNat_tmod]
 have i:c / 10<10:=by omega
 have g:c%10<10:=by omega
 unfold gA;rw [f,d];have k:IntKind.wrap .i64 ((c / 10:Nat):Int)=((c / 10:Nat):Int):=wrap_i64 _ (by omega) (by omega);have e:IntKind.wrap .i64 (((c / 10:Nat):Int)+1)=((c / 10+1:Nat):Int):=by rw [wrap_i64 _ (by omega) (by omega)];omega
 have h:IntKind.wrap .i64 (((c%10:Nat):Int)+1)=((c%10+1:Nat):Int):=by rw [wrap_i64 _ (by omega) (by omega)];omega
 rw [k,e,h,ef (by omega),ef (by omega)];show ob (bx (c / 10+1) ((c / 10:Nat):Int)) _=_;rw [ef (by omega)];show ob (bx (c%10+1) ((c%10:Nat):Int)) _=_;rw [ef (by omega)];unfold two;generalize c / 10=a at *;generalize c%10=b at *;have:((List.range 10).all λa=>(List.range 10).all λb=>ob (cat (List.drop a (List.take (a+1) ([48,49,50,51,52,53,54,55,56,57]:aa))) (List.drop b (List.take (b+1) ([48,49,50,51,52,53,54,55,56,57]:aa)))) (λs=>some s)==some [UInt8.ofNat (48+a),UInt8.ofNat (48+b)])=true:=by decide +kernel
 have j:=(cN.1 ((cN.1 this) a (by simpa using i))) b (by simpa using g);simpa using j
theorem Ox {m:aa} (h:∀j,j<21->m≠two (21+j)):sea m=0:=by
 rcases pB m with b | ⟨j,a,e⟩
 ·exact b
 ·exact absurd e (h j a)
theorem xm (n:Nat) (g l:Bool) (dg:aa) (x q:Int) (m d:aa) (k0 k1 k2:Int):∀(r j:Nat),j+r=21->(∀i,i<j->m≠two (21+i))->∀N,r<N->
  ar (bN n) N (((21+j:Nat):Int),g,l,dg,x,q,m,d,k0,k1,k2)=some (if sea m=0 then .inr () else .inl (sea m)):=by
 intro r
 induction r with
 | zero=>
  intro j e a N c;obtain ⟨N,rfl⟩:∃k,N=k+1:=⟨N - 1,by omega⟩;have hs:sea m=0:=Ox (λi hi=>a i (by omega));rw [ar];have:bN n (((21+j:Nat):Int),g,l,dg,x,q,m,d,k0,k1,k2)=some (.inr (.inr ())):=by
   unfold bN;rw [bA,ab (by show ¬(((21+j:Nat):Int)<=41);omega)]
  rw [this,ae hs]
 | succ r ih=>
  intro j e a N c;obtain ⟨N,rfl⟩:∃k,N=k+1:=⟨N - 1,by omega⟩;rw [ar];by_cases b:m=two (21+j)
  ·have hs:sea m=((21+j:Nat):Int):=by rw [b];exact lU (by omega)
   have:bN n (((21+j:Nat):Int),g,l,dg,x,q,m,d,k0,k1,k2)=some (.inr (.inl ((21+j:Nat):Int))):=by
    unfold bN;rw [bA,ae (by show ((21+j:Nat):Int)<=41;omega)];show ob (gA n ((21+j:Nat):Int)) _=_;rw [Lt n (by omega)];show cond (m==two (21+j)) _ _=_;rw [kv,ae b]
   rw [this,hs,ab (by omega)]
  ·have:bN n (((21+j:Nat):Int),g,l,dg,x,q,m,d,k0,k1,k2)=some (.inl (((21+(j+1):Nat):Int),g,l,dg,x,q,m,d,k0,k1,k2)):=by
    unfold bN;rw [bA,ae (by show ((21+j:Nat):Int)<=41;omega)];show ob (gA n ((21+j:Nat):Int)) _=_;rw [Lt n (by omega)];show cond (m==two (21+j)) _ _=_;rw [kv,ab b];have:IntKind.wrap .i64 (((21+j:Nat):Int)+1)=((21+(j+1):Nat):Int):=by rw [wrap_i64 _ (by omega) (by omega)];omega
    show some (Sum.inl (IntKind.wrap .i64 (((21+j:Nat):Int)+1),_))=_;rw [this]
   rw [this]
   exact ih (j+1) (by omega) (λi hi=>by
    rcases aG i j with h | h
    ·exact a i h
    ·have:i=j:=by omega
     rw [this];exact b) N (by omega)
theorem oU (n:Nat) (a:100<n) (g l:Bool) (dg:aa) (x q:Int) (m d:aa) (k0 k1 k2:Int):aP n g l dg x q m d k0 k1 k2=some (sea m):=by
 unfold aP;have:=xm n g l dg x q m d k0 k1 k2 21 0 rfl (λi hi=>absurd hi (by omega)) n (by omega);rw [show ((21+0:Nat):Int)=21 from rfl] at this;rw [this];by_cases h:sea m=0
 ·rw [ae h,h];rfl
 ·rw [ab h];rfl
def agr (s:aa) (k:Nat):Bool:=match s with
 | [a,b]=>(a==88||a==UInt8.ofNat (48+k / 10))&&(b==88||b==UInt8.ofNat (48+k%10))
 | _=>false
def ir (s:aa) (g:Nat):Bool:=(List.range g).any λi=>agr s (i+1)
theorem It {X Y:Type} {step:X->Option (X⊕Y)} {f:Nat->X} {p:Nat->Bool} {g:Nat} {yes no:Y} (h:∀k,1<=k->k<=g->step (f k)=some (if p k then .inr yes else .inl (f (k+1)))) (d:step (f (g+1))=some (.inr no)) {N:Nat} (b:g<N):
  ar step N (f 1)=some (if (List.range g).any (λi=>p (i+1)) then yes else no):=by
 have e:∀(r j:Nat),j+r=g->(∀i,i<j->p (i+1)=false)->∀N,r<N->ar step N (f (j+1))=some (if (List.range g).any (λi=>p (i+1)) then yes else no):=by
  intro r
  induction r with
  | zero=>
   intro j c a N b;obtain ⟨N,rfl⟩:∃k,N=k+1:=⟨N - 1,by omega⟩;have:(List.range g).any (λi=>p (i+1))=false:=by
    rw [sN];intro i hi;rw [a i (by have:=lp.1 hi;omega)];simp
   rw [ar,show j+1=g+1 by omega,d,this];rfl
  | succ r ih=>
   intro j c a N b;obtain ⟨N,rfl⟩:∃k,N=k+1:=⟨N - 1,by omega⟩;rw [ar,h (j+1) (by omega) (by omega)];cases hp:p (j+1) with
   | true=>
    have:(List.range g).any (λi=>p (i+1))=true:=tR.2 ⟨j,lp.2 (by omega),hp⟩;rw [this];rfl
   | false=>
    exact ih (j+1) (by omega) (λi hi=>by
     rcases aG i j with h | h
     ·exact a i h
     ·have:i=j:=by omega
      rw [this];exact hp) N (by omega)
 exact e g 0 (by omega) (λi hi=>absurd hi (by omega)) N b
theorem vF {a:UInt8} {k:Nat} (b:k<256):((((a.toNat:Nat):Int))==((k:Nat):Int))=(a==UInt8.ofNat k):=by
 have h:(UInt8.ofNat k).toNat=k:=by simp;omega
 rw [<-oa,h]
theorem Pi (n:Nat) (a b:UInt8) {g k:Nat} (s:1<=k) (q:k<=g) (r:g<=31):
  dw n ([a,b],(g:Int),(k:Int))=some (if agr [a,b] k then .inr (.inl true) else .inl ([a,b],(g:Int),((k+1:Nat):Int))):=by
 have f:Int.tdiv (k:Int) 10=((k / 10:Nat):Int):=by
  rw [show (10:Int)=((10:Nat):Int) from rfl,<-Int.ofNat_tdiv]
 have d:Int.tmod (k:Int) 10=((k%10:Nat):Int):=by
  rw [show (10:Int)=((10:Nat):Int) from rfl,<-Int.ofNat_tmod]
 have o:IntKind.wrap .u8 (48+IntKind.wrap .u8 (IntKind.wrap .i64 (Int.tdiv (k:Int) 10)))=((48+k / 10:Nat):Int):=by
  rw [f,wrap_i64 _ (by omega) (by omega),kD ((k / 10:Nat):Int) (by omega) (by omega),kD _ (by omega) (by omega)];omega
 have h:IntKind.wrap .u8 (48+IntKind.wrap .u8 (Int.tmod (k:Int) 10))=((48+k%10:Nat):Int):=by
  rw [d,kD ((k%10:Nat):Int) (by omega) (by omega),kD _ (by omega) (by omega)];omega
 have m:IntKind.wrap .i64 ((k:Int)+1)=((k+1:Nat):Int):=by rw [wrap_i64 _ (by omega) (by omega)];omega
 have c:(88:Int)=((88:Nat):Int):=rfl;have s0:sx [a,b] 0=some a:=rfl;have e:sx [a,b] 1=some b:=rfl;unfold dw;rw [bA,ae (show (k:Int)<=(g:Int) by omega)];simp only [s0,e,ob,o,h,m];rw [c,vF (by omega),vF (by omega),vF (by omega),vF (by omega)];show _=some (if ((a==UInt8.ofNat 88||a==UInt8.ofNat (48+k / 10))&&(b==UInt8.ofNat 88||b==UInt8.ofNat (48+k%10)))=true then _ else _);generalize (a==UInt8.ofNat 88)=l;generalize (b==UInt8.ofNat 88)=j;generalize (a==UInt8.ofNat (48+k / 10))=p;generalize (b==UInt8.ofNat (48+k%10))=i;cases l<;>cases j<;>cases p<;>cases i<;>rfl
theorem Ej (n:Nat) (m:100<n) (s:aa) (g:Nat) (l:g<=31):dl n s (g:Int)=some (ir s g):=by
 unfold dl;by_cases c:s.length=2
 ·obtain ⟨a,b,rfl⟩:∃a b,s=[a,b]:=by
   match s,c with
   | [a,b],_=>exact ⟨a,b,rfl⟩
  have d:dw n ([a,b],(g:Int),((g+1:Nat):Int))=some (.inr (.inr ())):=by
   unfold dw;rw [bA,ab (show ¬((g+1:Nat):Int)<=(g:Int) by omega)]
  have:=It (f:=λk=>([a,b],(g:Int),((k:Nat):Int))) (p:=agr [a,b]) (g:=g) (N:=n) (λk j e=>Pi n a b j e l) d (by omega);show ob (ar (dw n) n ([a,b],(g:Int),((1:Nat):Int))) _=_;rw [this];unfold ir;split<;>simp_all [ob]
 ·rw [show (((s.length:Nat):Int) != 2)=true by simp;omega];have:ir s g=false:=by
   unfold ir;rw [sN];intro i _
   match s,c with
   | [],_=>simp [agr]
   | [_],_=>simp [agr]
   | [_,_],h=>exact absurd rfl h
   | _::_::_::_,_=>simp [agr]
  rw [this];rfl
theorem vi (n:Nat) (s:aa) (k:Nat) (f:k<100):eD n s (k:Int)=some (if agr s k then 1 else 0):=by
 unfold eD;rw [Lt n f];show cond _ _ _=_;by_cases d:s.length=2
 ·obtain ⟨a,b,rfl⟩:∃a b,s=[a,b]:=by
   match s,d with
   | [a,b],_=>exact ⟨a,b,rfl⟩
  have s0:sx [a,b] 0=some a:=rfl;have e:sx [a,b] 1=some b:=rfl;have l:sx (two k) 0=some (UInt8.ofNat (48+k / 10)):=rfl;have o:sx (two k) 1=some (UInt8.ofNat (48+k%10)):=rfl;have c:(88:Int)=((88:Nat):Int):=rfl;rw [show (((([a,b]:aa).length:Nat):Int)==2)=true from rfl];simp only [s0,e,l,o,ob,ah];rw [c,vF (by omega),vF (by omega),oa,oa];show _=some (if ((a==UInt8.ofNat 88||a==UInt8.ofNat (48+k / 10))&&(b==UInt8.ofNat 88||b==UInt8.ofNat (48+k%10)))=true then _ else _);generalize (a==UInt8.ofNat 88)=j;generalize (b==UInt8.ofNat 88)=i;generalize (a==UInt8.ofNat (48+k / 10))=m;generalize (b==UInt8.ofNat (48+k%10))=g;cases j<;>cases i<;>cases m<;>cases g<;>rfl
 ·rw [show (((s.length:Nat):Int)==2)=false by simp;omega];have:agr s k=false:=by
   match s,d with
   | [],_=>rfl
   | [_],_=>rfl
   | [_,_],h=>exact absurd rfl h
   | _::_::_::_,_=>rfl
  rw [this];rfl
theorem GG (n:Nat) (e:100<n) (s:aa) (g:Nat) (h:g<=31):dN n s (g:Int)=some (if ir s g then 1 else 0):=by
 unfold dN;have a:dO n (s,(g:Int),((g+1:Nat):Int))=some (.inr (.inr ())):=by
  unfold dO;rw [bA,ab (show ¬((g+1:Nat):Int)<=(g:Int) by omega)]
 have:=It (f:=λk=>(s,(g:Int),((k:Nat):Int))) (p:=agr s) (g:=g) (N:=n) (step:=dO n) (yes:=.inl 1) (no:=.inr ()) (λk d c=>by
  unfold dO;rw [bA,ae (show (k:Int)<=(g:Int) by omega)];show ob (eD n s (k:Int)) _=_;rw [vi n s k (by omega)];have b:IntKind.wrap .i64 ((k:Int)+1)=((k+1:Nat):Int):=by rw [wrap_i64 _ (by omega) (by omega)];omega
  simp only [ob,b];cases agr s k<;>rfl) a (by omega)
 show ob (ar (dO n) n (s,(g:Int),((1:Nat):Int))) _=_;rw [this];unfold ir;split<;>simp_all [ob]
theorem xC (n:Nat) {a b:Int} (s:1<b) (p:b<1000) (t:-4611686018427387904<=a) (q:a<4611686018427387904):mg n a b=some (a / b,0):=by
 have j:(b==0)=false:=by simp;omega
 have r:(b==-1)=false:=by simp;omega
 unfold mg;simp only [j,r,af];have v:a / b*b+a%b=a:=Int.ediv_mul_add_emod a b;have u:=KG a (show b≠0 by omega);have o:=Ld a (show 0<b by omega);have m:-4611686018427387904<=a / b:=by
  rw [Int.le_ediv_iff_mul_le (by omega)];have:(-4611686018427387904:Int)*b<=-4611686018427387904*1:=Int.mul_le_mul_of_nonpos_left (by omega) (by omega);omega
 have k:a / b<4611686018427387904:=by
  rw [Int.ediv_lt_iff_lt_mul (by omega)];have:(4611686018427387904:Int)*1<=4611686018427387904*b:=Int.mul_le_mul_of_nonneg_left (by omega) (by omega);omega
 by_cases g:0<=a
 ·have d:Int.tdiv a b=a / b:=Q2 g;have e:decide (a<0)=false:=by simp;omega
  have d2:decide (b<0)=false:=by simp;omega
  rw [d,e,d2,wrap_i64 (a / b) (by omega) (by omega)];cases (Int.tmod a b != 0)<;>rfl
 ·have e:decide (a<0)=true:=by simp;omega
  have d2:decide (b<0)=false:=by simp;omega
  have d:=Int.tdiv_eq_ediv (a:=a) (b:=b);have i:=KU (a:=a) (b:=b);rw [e,d2];by_cases c:b∣a
  ·have f:Int.tmod a b=0:=by
    rw [i,ae (.inr c)];have:=Int.emod_eq_zero_of_dvd c;omega
   rw [f,d,ae (.inr c)];rw [Int.add_zero,wrap_i64 (a / b) (by omega) (by omega)];rfl
  ·have l:a%b≠0:=λh=>c (Lq h);have f:(Int.tmod a b != 0)=true:=by
    rw [i,ab (by rintro (h | h);exact g h;exact c h)];simp;omega
   have hs:b.sign=1:=Int.sign_eq_one_of_pos (by omega);rw [f,d,ab (by rintro (h | h);exact g h;exact c h),hs];rw [wrap_i64 (a / b+1) (by omega) (by omega),Int.add_sub_cancel,wrap_i64 (a / b) (by omega) (by omega)];rfl
theorem VE (n:Nat) {a b:Int} (m:1<b) (i:b<1000):vW n a b=some (a%b,0):=by
 have e:(b==0)=false:=by simp;omega
 have k:(b==-1)=false:=by simp;omega
 unfold vW;simp only [e,k,af];have o:=KG a (show b≠0 by omega);have g:=Ld a (show 0<b by omega);have c:=KU (a:=a) (b:=b);have d2:decide (b<0)=false:=by simp;omega
 by_cases hc:0<=a\/b∣a
 ·rw [ae hc] at c;have:Int.tmod a b=a%b:=by omega
  rw [this,d2];have d:decide (a%b<0)=false:=by simp;omega
  rw [d];cases h:(a%b != 0)
  ·rfl
  ·rfl
 ·rw [ab hc] at c;have l:(b.natAbs:Int)=b:=by omega
  rw [l] at c;have f:a%b≠0:=λh=>hc (.inr (Lq h));have j:(Int.tmod a b != 0)=true:=by simp;omega
  have d:decide (Int.tmod a b<0)=true:=by simp;omega
  rw [j,d,d2,c,wrap_i64 _ (by omega) (by omega),NH];rfl
def dZ (y:Int):Prop:=-10000000000000000<=y/\y<=10000000000000000
instance (y:Int):Decidable (dZ y):=by unfold dZ;infer_instance
theorem gK (n:Nat) (y:Int):jy n y=some (if dZ y then 0 else 6):=by
 unfold jy;rw [bA,bA];by_cases a:y < -10000000000000000
 ·rw [ae a,ab (show ¬dZ y by unfold dZ;omega)]
 ·by_cases b:y>10000000000000000
  ·rw [ab a,ae b,ab (show ¬dZ y by unfold dZ;omega)]
  ·rw [ab a,ab b,ae (show dZ y by unfold dZ;omega)]
theorem sX (n:Nat) {y:Int} (h:-20000000000000000<=y/\y<=20000000000000000):∃z,fD n y=some z:=by
 unfold fD;rw [wrap_i64 (y - 1) (by omega) (by omega),xC n (by omega) (by omega) (by omega) (by omega),xC n (by omega) (by omega) (by omega) (by omega),xC n (by omega) (by omega) (by omega) (by omega)];exact ⟨_,rfl⟩
theorem Oi (n:Nat) {y:Int} (h:dZ y):∃b e,kL n y=some (b,e):=by
 unfold kL;have h':=h;unfold dZ at h';obtain ⟨z1,c⟩:=sX n (y:=y+1) (by omega);obtain ⟨z2,a⟩:=sX n (y:=y) (by omega);rw [gK,ae h,wrap_i64 (y+1) (by omega) (by omega),c,a];exact ⟨_,_,rfl⟩
theorem tw (n:Nat) {y:Int} (h:dZ y) {m:Nat} (d:1<=m) (c:m<=12):∃v,eH n y (m:Int)=some v:=by
 unfold eH;obtain ⟨b,e,a⟩:=Oi n h;rw [a];show ∃v,cond (b&&((m:Int)==2)) _ _=some v;cases (b&&((m:Int)==2)) with
 | true=>exact ⟨_,rfl⟩
 | false=>
  have:IntKind.wrap .i64 ((m:Int) - 1)=((m - 1:Nat):Int):=by rw [wrap_i64 _ (by omega) (by omega)];omega
  rw [this,eG (by omega)];have a:wh.length=12:=rfl;exact ⟨_,be (show m - 1<wh.length by omega)⟩
theorem Hm (n:Nat) {y:Int} (h:dZ y) {m:Nat} (b:1<=m) (a:m<=12):kK n y (m:Int)=some 0:=by
 unfold kK;rw [gK,ae h];show cond (decide ((m:Int)<1)) _ _=_;rw [bA,bA,ab (by omega),ab (by omega)]
theorem Jn (n:Nat) {y:Int} (h:dZ y) {m:Nat} (e:m<=11):∀(r j:Nat),j+r=m->∀(a:Int) (N:Nat),r<N->∃v,ar (bJ n) N (y,a,(m:Int),(j:Int))=some v:=by
 intro r
 induction r with
 | zero=>
  intro j d a N c;obtain ⟨N,rfl⟩:∃k,N=k+1:=⟨N - 1,by omega⟩;have:bJ n (y,a,(m:Int),(j:Int))=some (.inr a):=by
   unfold bJ;rw [bA,ab (show ¬((j:Int)<(m:Int)) by omega)]
  rw [ar,this];exact ⟨_,rfl⟩
 | succ r ih=>
  intro j d a N c;obtain ⟨N,rfl⟩:∃k,N=k+1:=⟨N - 1,by omega⟩;obtain ⟨v,b⟩:=tw n h (m:=j+1) (by omega) (by omega);have w:IntKind.wrap .i64 ((j:Int)+1)=((j+1:Nat):Int):=by rw [wrap_i64 _ (by omega) (by omega)];omega
  have:bJ n (y,a,(m:Int),(j:Int))=some (.inl (y,IntKind.wrap .i64 (a+v),(m:Int),((j+1:Nat):Int))):=by
   unfold bJ;rw [bA,ae (show ((j:Int)<(m:Int)) by omega)];simp only [w,b,ob]
  rw [ar,this];exact ih (j+1) (by omega) _ N (by omega)
theorem Ky (n:Nat) (d:100<n) {y:Int} (h:dZ y) {m:Nat} (c:1<=m) (a:m<=12):∃v,fG n y (m:Int)=some (v,0):=by
 unfold fG l8 lV;have h':=h;unfold dZ at h';obtain ⟨z,e⟩:=sX n (y:=y) (by omega);have w:IntKind.wrap .i64 ((m:Int) - 1)=((m - 1:Nat):Int):=by rw [wrap_i64 _ (by omega) (by omega)];omega
 rw [Hm n h c a,gK,ae h,e,w];obtain ⟨v,b⟩:=Jn n h (m:=m - 1) (by omega) (m - 1) 0 (by omega) (IntKind.wrap .i64 (IntKind.wrap .i64 (365*y)+z)) n (by omega);refine ⟨v,?_⟩;show ob (ar (bJ n) n (y,IntKind.wrap .i64 (IntKind.wrap .i64 (365*y)+z),((m - 1:Nat):Int),((0:Nat):Int))) _=_;rw [b];rfl
theorem madd (n:Nat) {y:Int} (h:dZ y) {m c:Nat} (k:1<=m) (i:m<=12) (hc:1<=c) (g:c<=6):pC n y (m:Int) (IntKind.wrap .i64 ((c:Int) - 1)) =
  some (if 12<m+c - 1 then (if y=10000000000000000 then (0,0,6) else (y+1,((m+c - 1 - 12:Nat):Int),0)) else (y,((m+c - 1:Nat):Int),0)):=by
 have h':=h;unfold dZ at h';unfold pC;rw [Hm n h k i,wrap_i64 (12*y) (by omega) (by omega),wrap_i64 ((m:Int) - 1) (by omega) (by omega),wrap_i64 (12*y+((m:Int) - 1)) (by omega) (by omega),wrap_i64 ((c:Int) - 1) (by omega) (by omega)];have j:sc n (12*y+((m:Int) - 1)) ((c:Int) - 1)=some (12*y+((m:Int) - 1)+((c:Int) - 1),0):=by
  unfold sc;rw [wrap_i64 (12*y+((m:Int) - 1)+((c:Int) - 1)) (by omega) (by omega),kv];by_cases e:(c:Int) - 1=0
  ·rw [ae e];have d:decide (12*y+((m:Int) - 1)>12*y+((m:Int) - 1))=false:=by simp
   have d2:decide ((c:Int) - 1>0)=false:=by simp;omega
   rw [d,d2,e,Int.add_zero];rfl
  ·rw [ab e];have d:decide (12*y+((m:Int) - 1)+((c:Int) - 1)>12*y+((m:Int) - 1))=true:=by simp;omega
   have d2:decide ((c:Int) - 1>0)=true:=by simp;omega
   rw [d,d2];rfl
 simp only [ob,j,dA,af];rw [xC n (by omega) (by omega) (by omega) (by omega),VE n (by omega) (by omega)];simp only [gK];by_cases f:12<m+c - 1
 ·have b:(12*y+((m:Int) - 1)+((c:Int) - 1)) / 12=y+1:=by omega
  have a:(12*y+((m:Int) - 1)+((c:Int) - 1))%12=((m+c - 1 - 12:Nat):Int) - 1:=by omega
  rw [b,a,ae f];by_cases hy:y=10000000000000000
  ·rw [ae hy,ab (show ¬dZ (y+1) by unfold dZ;omega)];rfl
  ·rw [ab hy,ae (show dZ (y+1) by unfold dZ;omega),wrap_i64 (((m+c - 1 - 12:Nat):Int) - 1+1) (by omega) (by omega),NH];rfl
 ·have b:(12*y+((m:Int) - 1)+((c:Int) - 1)) / 12=y:=by omega
  have a:(12*y+((m:Int) - 1)+((c:Int) - 1))%12=((m+c - 1:Nat):Int) - 1:=by omega
  rw [b,a,ab f,ae h,wrap_i64 (((m+c - 1:Nat):Int) - 1+1) (by omega) (by omega),NH];rfl
theorem GB {j:Nat} (a:j<21):∃m c:Nat,nL[j]?=some ((m:Int),(c:Int))/\1<=m/\m<=12/\1<=c/\c<=6/\(12<m+c - 1↔j=3\/j=7\/j=9):=by
 have:((List.range 21).all λj=>match nL[j]? with
  | some (m,c)=>decide (0<=m)&&decide (0<=c)&&decide (1<=m.toNat)&&decide (m.toNat<=12)&&decide (1<=c.toNat)&&decide (c.toNat<=6)&&(decide (12<m.toNat+c.toNat - 1)==decide (j=3\/j=7\/j=9))
  | none=>false)=true:=by decide +kernel
 have h:=(cN.1 this) j (by simpa using a);split at h
 ·rename_i m c e;simp only [aA,ck,bG,nY] at h;obtain ⟨⟨⟨⟨⟨⟨k,d⟩,i⟩,l⟩,b⟩,g⟩,f⟩:=h;exact ⟨m.toNat,c.toNat,by rw [e,Ip k,Ip d],i,l,b,g,f⟩
 ·cases h
theorem Xe (n:Nat) (p:100<n) {y:Int} (h:dZ y) {j:Nat} (q:j<21):
  ∃a b c d,iD n y ((21+j:Nat):Int)=some (a,b,c,d,if y=10000000000000000/\(j=3\/j=7\/j=9) then 6 else 0):=by
 obtain ⟨m,c,e,w,t,A,C,r⟩:=GB q;have B:fE n ((21+j:Nat):Int)=some ((m:Int),(c:Int),0):=by
  unfold fE dK;rw [bA,bA,ab (by omega),ab (by omega)];have:IntKind.wrap .i64 (((21+j:Nat):Int) - 21)=(j:Int):=by rw [wrap_i64 _ (by omega) (by omega)];omega
  rw [this,eG q];show ob (nL[j]?) _=_;rw [e];rfl
 obtain ⟨v,z⟩:=Ky n p h w t;unfold iD;rw [B];show ∃a b c d,ob (fG n y (m:Int)) _=_;rw [z];show ∃a b s d,ob (pC n y (m:Int) (IntKind.wrap .i64 ((c:Int) - 1))) _=_;rw [madd n h w t A C];have h':=h;unfold dZ at h';by_cases i:12<m+c - 1
 ·rw [ae i];by_cases hy:y=10000000000000000
  ·rw [ae hy,ae ⟨hy,r.1 i⟩];exact ⟨_,_,_,_,rfl⟩
  ·rw [ab hy,ab (λx=>hy x.1)];have g:dZ (y+1):=by unfold dZ;omega
   obtain ⟨k,f⟩:=Ky n p g (m:=m+c - 1 - 12) (by omega) (by omega);obtain ⟨u,o⟩:=tw n g (m:=m+c - 1 - 12) (by omega) (by omega);have l:il n (y+1) ((m+c - 1 - 12:Nat):Int)=some (IntKind.wrap .i64 (IntKind.wrap .i64 (k+u) - 1),0):=by
    unfold il;rw [f,o];rfl
   show ∃a b s d,ob (il n (y+1) ((m+c - 1 - 12:Nat):Int)) _=_;rw [l];exact ⟨_,_,_,_,rfl⟩
 ·rw [ab i,ab (λx=>i (r.2 x.2))];obtain ⟨k,f⟩:=Ky n p h (m:=m+c - 1) (by omega) (by omega);obtain ⟨u,o⟩:=tw n h (m:=m+c - 1) (by omega) (by omega);have l:il n y ((m+c - 1:Nat):Int)=some (IntKind.wrap .i64 (IntKind.wrap .i64 (k+u) - 1),0):=by
   unfold il;rw [f,o];rfl
  show ∃a b s d,ob (il n y ((m+c - 1:Nat):Int)) _=_;rw [l];exact ⟨_,_,_,_,rfl⟩
def hasB (set:aa) (c:UInt8):Bool:=set.any λd=>d==c
theorem qu (set:aa) (c:UInt8):(decide (Lib.indexByte set c<0))=!hasB set c:=by
 induction set with
 | nil=>simp [Lib.indexByte,hasB]
 | cons d l ih=>
  have e:=Lib.indexByte_ge l c;simp only [hasB,qZ] at ih ⊢;unfold Lib.indexByte;by_cases h:d=c
  ·simp [h]
  ·have f:(d==c)=false:=by simpa using h
   simp only [f,br,aB,pG];rw [<-ih];by_cases b:Lib.indexByte l c=-1
   ·simp [b]
   ·have a:(Lib.indexByte l c==-1)=false:=by simpa using b
    simp only [a,br,aB];have:¬Lib.indexByte l c+1<0:=by omega
    have:¬Lib.indexByte l c<0:=by omega
    simp [*]
theorem pP (set:aa) (c:UInt8):(decide (Lib.indexByte set c>=0))=hasB set c:=by
 have:=qu set c;by_cases h:Lib.indexByte set c<0
 ·have a:¬Lib.indexByte set c>=0:=by omega
  simp only [h,a,oC,n7] at this ⊢;revert this;cases hasB set c<;>simp
 ·have a:Lib.indexByte set c>=0:=by omega
  simp only [h,a,oC,n7] at this ⊢;revert this;cases hasB set c<;>simp
def lcp:aa->aa->Nat
 | c::s,d::t=>if c==d then lcp s t+1 else 0
 | _,_=>0
theorem wS:∀s t:aa,lcp s t<=s.length
 | [],_=>by simp [lcp]
 | _::_,[]=>by simp [lcp]
 | c::s,d::t=>by
  have:=wS s t;simp only [lcp,az];split<;>omega
def bE (p:UInt8->Bool):Nat->aa->Nat
 | 0,_=>0
 | _+1,[]=>0
 | k+1,c::l=>if p c then bE p k l+1 else 0
theorem mw (p:UInt8->Bool):∀(k:Nat) (l:aa),bE p k l<=l.length
 | 0,_=>by simp [bE]
 | _+1,[]=>by simp [bE]
 | k+1,c::l=>by
  have:=mw p k l;simp only [bE,az];split<;>omega
theorem uf (n:Nat) (S:aa) (a:Nat) (h:a<=S.length):cJ n S (a:Int)=some (S.drop a):=by
 simp [cJ,ob,ef h]
theorem Et (n:Nat) (s p:aa):jJ n s p=some (s.take p.length==p):=by
 simp only [jJ,gx,ma];by_cases h:p.length<=s.length
 ·simp [h,ob,ef h]
 ·have:(s.take p.length==p)=false:=by
   rw [aL];intro e;have:=bY List.length e;rw [db] at this;omega
  simp [h,ob,this]
theorem KQ (n:Nat) (t S:aa) (a:Nat) (h:a<=S.length):fJ n t S (a:Int)=some ((S.drop a).take t.length==t):=by
 simp [fJ,uf n S a h,ob,Et]
theorem ng (n:Nat) (t S:aa) (a:Nat) (h:a<=S.length) (d:S.length<4611686018427387904):
  aC n t S (a:Int)=some (if (S.drop a).take t.length=t then (true,S,((a+t.length:Nat):Int)) else (false,S,(a:Int))):=by
 simp only [aC,KQ n t S a h,ob];by_cases hp:(S.drop a).take t.length=t
 ·have c:t.length<=S.length - a:=by
   have:=bY List.length hp;simp at this;omega
  have b:IntKind.wrap .i64 ((a:Int)+((t.length:Nat):Int))=((a+t.length:Nat):Int):=by rw [wrap_i64 _ (by omega) (by omega)];omega
  simp [hp,b]
 ·simp only [Hu,kv,hp,aB]
theorem CL (n:Nat) (S:aa) (i:Int):bI n S i=some i:=rfl
def peek (l:aa):Int×Bool:=match l with | c::_=>(((c.toNat:Nat):Int),true) | []=>(0,false)
theorem pV (n:Nat) (S:aa) (a:Nat) (h:a<=S.length):bi n S (a:Int)=some (peek (S.drop a)):=by
 simp only [bi,uf n S a h,ob];rcases aG a S.length with d | b
 ·obtain ⟨c,hc⟩:∃c,S[a]?=some c:=⟨S[a],be d⟩;rw [bS hc];simp [dI hc,peek]
 ·rw [jr b];simp [peek]
theorem wa (n:Nat) (a e:Int) (S:aa) (i:Int):aO n a e S i=some (a,if e=0 then 5 else e):=by
 simp only [aO,kv];by_cases h:e=0<;>simp [h]
theorem gU (n:Nat) (set:aa) (c:UInt8):dB n set ((c.toNat:Nat):Int)=some (Lib.indexByte set c):=by
 simp only [dB,dh,ob,X1]
theorem BL (n:Nat) (set S:aa) (a:Nat) (h:a<=S.length) (f:S.length<4611686018427387904):
  cu n set S (a:Int)=some (match S.drop a with | c::_=>if hasB set c then .inr (((c.toNat:Nat):Int),S,((a+1:Nat):Int)) else .inl ((a:Int),5,S,(a:Int)) | []=>.inl ((a:Int),5,S,(a:Int))):=by
 simp only [cu,pV n S a h,ob];rcases aG a S.length with b | d
 ·obtain ⟨c,hc⟩:∃c,S[a]?=some c:=⟨S[a],be b⟩;have e:IntKind.wrap .i64 ((a:Int)+1)=((a+1:Nat):Int):=by rw [wrap_i64 _ (by omega) (by omega)];omega
  rw [bS hc];simp only [peek,cv,af,gU,qu,CL,wa,ob,e];cases hasB set c<;>simp
 ·rw [jr d];simp [peek,CL,wa,ob]
theorem nu (S:aa) (a k:Nat):List.drop a (List.take (a+k) S)=(S.drop a).take k:=by
 rw [xw];congr 1;omega
theorem AU (n:Nat) (set:aa) (b most:Int) (S:aa) (a:Nat) (h:a<=S.length) (q:S.length<4611686018427387904) (p:S.length<n):
  ar (da n) n (set,b,most,(a:Int),(peek (S.drop a)).1,(peek (S.drop a)).2,S,(a:Int)) =
   some (b,(a:Int),S,((a+bE (hasB set) most.toNat (S.drop a):Nat):Int)):=by
 have:=fO (step:=da n)
  (λx=>∃j:Nat,a+j<=S.length/\x=(set,b,most,(a:Int),(peek (S.drop (a+j))).1,(peek (S.drop (a+j))).2,S,((a+j:Nat):Int)))
  (λx=>S.length - x.2.2.2.2.2.2.2.toNat)
  (λx=>(b,(a:Int),S,((x.2.2.2.2.2.2.2.toNat+bE (hasB set) (most.toNat - (x.2.2.2.2.2.2.2.toNat - a)) (S.drop x.2.2.2.2.2.2.2.toNat):Nat):Int))) ?_ n
  (set,b,most,(a:Int),(peek (S.drop a)).1,(peek (S.drop a)).2,S,(a:Int)) ⟨0,by omega,by simp⟩ (by simp;omega)
 ·simpa using this
 rintro x ⟨j,m,rfl⟩;simp only [cb];have d:IntKind.wrap .i64 (((a+j:Nat):Int) - (a:Int))=(j:Int):=by rw [wrap_i64 _ (by omega) (by omega)];omega
 rcases aG (a+j) S.length with e | f
 ·obtain ⟨c,hc⟩:∃c,S[a+j]?=some c:=⟨S[a+j],be e⟩;have i:IntKind.wrap .i64 (((a+j:Nat):Int)+1)=((a+(j+1):Nat):Int):=by rw [wrap_i64 _ (by omega) (by omega)];omega
  simp only [da,bS hc,peek,ah,d];by_cases g:(j:Int)<most
  ·obtain ⟨k,l⟩:∃k,most.toNat - (a+j - a)=k+1:=⟨most.toNat - j - 1,by omega⟩;simp only [g,oC,ah,gU,ob,pP,l,bE];cases o:hasB set c with
   | true=>
    simp only [i,pV n S (a+(j+1)) (by omega),ah];refine .inl ⟨_,rfl,⟨j+1,by omega,rfl⟩,?_,?_⟩
    ·simp only [cb];omega
    ·simp only [cb,aY,jT,aJ];have:most.toNat - (a+(j+1) - a)=k:=by omega
     rw [this,show a+(j+1)=a+j+1 by omega];omega
   | false=>exact .inr (by simp)
  ·refine .inr ?_;have:most.toNat - (a+j - a)=0:=by omega
   simp only [g,n7,af,this,bE,cS]
 ·refine .inr ?_;simp only [da,jr f,peek,af];have:bE (hasB set) (most.toNat - (a+j - a)) []=0:=by cases most.toNat - (a+j - a)<;>rfl
  simp only [this,cS]
theorem wk (n:Nat) (set:aa) (b most:Int) (S:aa) (a:Nat) (h:a<=S.length) (g:S.length<4611686018427387904) (f:S.length<n):
  bZ n set b most S (a:Int)=some (if ((bE (hasB set) most.toNat (S.drop a):Nat):Int)<b
   then .inl (((a+bE (hasB set) most.toNat (S.drop a):Nat):Int),5,S,((a+bE (hasB set) most.toNat (S.drop a):Nat):Int))
   else .inr ((S.drop a).take (bE (hasB set) most.toNat (S.drop a)),S,((a+bE (hasB set) most.toNat (S.drop a):Nat):Int))):=by
 have d:=mw (hasB set) most.toNat (S.drop a);rw [bL] at d;simp only [bZ,CL,pV n S a h,ob];rw [AU n set b most S a h g f];generalize bE (hasB set) most.toNat (S.drop a)=k at d ⊢;have c:IntKind.wrap .i64 (((a+k:Nat):Int) - (a:Int))=(k:Int):=by rw [wrap_i64 _ (by omega) (by omega)];omega
 simp only [c,wa];by_cases e:(k:Int)<b
 ·simp [e]
 ·simp only [e,n7,af,aB];rw [ef (by omega)];simp only;rw [ef (by omega)];simp only [nu]
theorem RQ (a b:Nat):(cond (decide (((a:Nat):Int)<((b:Nat):Int))) ((a:Nat):Int) ((b:Nat):Int))=((min a b:Nat):Int):=by
 by_cases h:a<b
 ·simp [h];omega
 ·simp [h];omega
def asc (l:aa):Prop:=∀c∈l,c.toNat<128
theorem JS (r:Int) (h:128<=r):∃p e,(Utf8.encode r).data.toList=p++[e]/\1<=p.length/\p.length<=3/\128<=e.toNat:=by
 unfold Utf8.encode;have hc:128<=(if Utf8.valid r then r.toNat else Utf8.runeError):=by
  split
  ·omega
  ·decide
 generalize (if Utf8.valid r then r.toNat else Utf8.runeError)=c at hc;have a:128<=(UInt8.ofNat (0x80+c%64)).toNat:=by
  simp only [FY];omega
 simp only;split
 ·omega
 ·split
  ·exact ⟨[_],_,rfl,by simp,by simp,a⟩
  ·split
   ·exact ⟨[_,_],_,rfl,by simp,by simp,a⟩
   ·exact ⟨[_,_,_],_,rfl,by simp,by simp,a⟩
theorem K4 {l:aa} (h:asc l) {i:Nat} {c:UInt8} (hi:l[i]?=some c):c.toNat<128:=h c (gB hi)
theorem Dv (n:Nat) (set:aa) (h:asc set) (e:set.length<n):ar (dR n) n (set,0)=some (.inr ()):=by
 refine fO (step:=dR n) (λx=>x.1=set) (λx=>set.length - x.2) (λx=>.inr ()) ?_ n _ rfl (by simp;omega);rintro ⟨s,i⟩ rfl;simp only [dR];by_cases hi:i<s.length
 ·have b:Nat.blt i s.length=true:=di hi;obtain ⟨c,hc⟩:∃c,s[i]?=some c:=⟨s[i],be hi⟩;have a:=K4 h hc;have d:(((c.toNat:Nat):Int)==65533)=false:=by rw [aL];omega
  simp only [b,ah,B7 hc a,d,af];exact .inl ⟨_,rfl,rfl,by simp only;omega,trivial⟩
 ·have b:Nat.blt i s.length=false:=by
   cases b:Nat.blt i s.length with
   | false=>rfl
   | true=>exact absurd (aI b) (by omega)
  simp only [b,af];exact .inr trivial
theorem yV {l:aa} {c:UInt8} (h:c∉l):Lib.indexByte l c<0:=by
 have a:=qu l c;have d:hasB l c=false:=by
  unfold hasB;rw [sN];intro x hx b;simp only [bG] at b;exact h (b▸hx)
 rw [d] at a;simpa using a
theorem Ep (n:Nat) (set:aa) (h:asc set) (o:set.length<n) (hs:set.length<=100) (r:Int) (z:128<=r):ek n set r=some (-1):=by
 have t:decide ((0:Int)<=r)=true:=am (by omega);have w:decide (r<128)=false:=aq (by omega);simp only [ek,t,w,ah,af];by_cases b:r=65533
 ·have:(r==65533)=true:=bG.2 b;simp only [this,ah,Dv n set h o,ob]
 ·have:(r==65533)=false:=aL.2 b;simp only [this,af];obtain ⟨v,y⟩:∃v,dX n r=some v:=by
   unfold dX;generalize decide ((0:Int)<=r)=A;generalize decide (r<55296)=d2;generalize decide ((57343:Int)<r)=q;generalize decide (r<=1114111)=d4;cases A<;>cases d2<;>cases q<;>cases d4<;>exact ⟨_,rfl⟩
  simp only [y,ob];cases v with
  | false=>rfl
  | true=>
   simp only [cv,af];obtain ⟨p,e,hp,u,l,B⟩:=JS r z;simp only [hp];have x:IntKind.wrap .i64 (((p++[e]).length:Nat) - 1:Int)=(p.length:Int):=by
    rw [wrap_i64 _ (by simp<;>omega) (by simp<;>omega)];simp
   rw [x];obtain ⟨m,rfl⟩:∃m,n=m+1:=⟨n - 1,by omega⟩;have a:dU (m+1) (set,p++[e],(p.length:Int),(p.length:Int))=some (.inr (.inl (-1)))\/dU (m+1) (set,p++[e],(p.length:Int),(p.length:Int))=some (.inr (.inr ())):=by
    simp only [dU,ja];by_cases f:p.length<set.length
    ·obtain ⟨c,hc⟩:∃c,set[p.length]?=some c:=⟨set[p.length],be f⟩;have k:=K4 h hc;have i:(p++[e])[p.length]?=some e:=by simp
     have g:(((c.toNat:Nat):Int) != ((e.toNat:Nat):Int))=true:=by simp only [bne,ly,aL];omega
     have j:IntKind.wrap .i64 ((p.length:Int)+1)=((p.length+1:Nat):Int):=by rw [wrap_i64 _ (by omega) (by omega)];omega
     have hx:e∉List.drop (p.length+1) (List.take set.length set):=by
      intro s;have:=h e (by simpa using List.mem_of_mem_drop s);omega
     left;simp only [f,oC,ah,dI hc,dI i,ob,g,j,ef (show p.length+1<=set.length by omega),gU,yV hx]
    ·right;simp only [f,n7,af]
   rcases a with d | d<;>simp only [ar,d,ob]
theorem yQ (n:Nat) (set:aa) (c:UInt8) (r:Int) (d:r=((c.toNat:Nat):Int)) (hc:c.toNat<128):ek n set r=some (Lib.indexByte set c):=by
 have f:decide ((0:Int)<=r)=true:=am (by omega);have e:decide (r<128)=true:=am (by omega);have a:IntKind.wrap .u8 r=r:=kD _ (by omega) (by omega);have b:dB n set r=some (Lib.indexByte set c):=by rw [d];exact gU n set c
 simp only [ek,f,e,ah,a,b,ob]
theorem Au (n:Nat) (set:aa) (c:UInt8) (hc:c.toNat<128):ek n set ((c.toNat:Nat):Int)=some (Lib.indexByte set c):=yQ n set c _ rfl hc
theorem vJ (n:Nat) (set:aa) (c:UInt8) (hc:c.toNat<128):dS n set ((c.toNat:Nat):Int)=some (hasB set c):=by
 simp only [dS,Au n set c hc,ob,pP]
theorem yM (n:Nat) (set:aa) (h:asc set) (b:set.length<n) (hs:set.length<=100) (r:Int) (a:128<=r):dS n set r=some false:=by
 simp only [dS,Ep n set h b hs r a,ob];rfl
theorem Dt (w a:Nat):BitVec.ofInt w (a:Int)=BitVec.ofNat w a:=by
 apply BitVec.eq_of_toNat_eq;simp
theorem RH (k:Nat):(2:Int) ^ k=((2 ^ k:Nat):Int):=by simp
theorem OK (a k:Nat):Int.fdiv (a:Int) (2 ^ k)=((a / 2 ^ k:Nat):Int):=by
 rw [RH k,Int.fdiv_eq_ediv_of_nonneg _ (Int.natCast_nonneg _)];rfl
def inR (lo hi:Int) (c:UInt8):Bool:=decide (((c.toNat:Nat):Int)>=lo)&&decide (((c.toNat:Nat):Int)<=hi)
def cnt (lo hi:Int) (l:aa):Nat:=l.countP (inR lo hi)
theorem NW (lo hi:Int) (l:aa):cnt lo hi l<=l.length:=List.countP_le_length
theorem Oz (lo hi:Int) {l:aa} {i:Nat} {c:UInt8} (h:l[i]?=some c):cnt lo hi (l.take (i+1))=cnt lo hi (l.take i)+if inR lo hi c then 1 else 0:=by
 unfold cnt;rw [pN,h,List.countP_append];simp [J7]
theorem Hf (n:Nat) (s:aa) (lo hi:Int) (hs:s.length<n) (l:s.length<100000):gH n s lo hi=some ((cnt lo hi s:Nat):Int):=by
 have:=fO (step:=ig n) (λx=>∃i:Nat,i<=s.length/\x=(s,lo,hi,((cnt lo hi (s.take i):Nat):Int),(i:Int))) (λx=>s.length - x.2.2.2.2.toNat) (λ_=>((cnt lo hi s:Nat):Int)) ?_ n (s,lo,hi,0,0) ⟨0,by omega,by simp [cnt]⟩ (by simp;omega)
 ·simp only [gH,this,ob]
 rintro x ⟨i,h,rfl⟩;rcases aG i s.length with a | k
 ·obtain ⟨c,hc⟩:∃c,s[i]?=some c:=⟨s[i],be a⟩;have b:=Oz lo hi hc;have e:=NW lo hi (s.take i);rw [db] at e;have j:IntKind.wrap .i64 ((i:Int)+1)=((i+1:Nat):Int):=by rw [wrap_i64 _ (by omega) (by omega)];omega
  have g:IntKind.wrap .i64 (((cnt lo hi (s.take i):Nat):Int)+1)=((cnt lo hi (s.take i)+1:Nat):Int):=by rw [wrap_i64 _ (by omega) (by omega)];omega
  refine .inl ⟨(s,lo,hi,((cnt lo hi (s.take (i+1)):Nat):Int),((i+1:Nat):Int)),?_,⟨i+1,a,rfl⟩,by simp only [cb];omega,rfl⟩;simp only [ig,ja,a,oC,ah,dI hc,ob,j,g];rw [b];by_cases d:((c.toNat:Nat):Int)>=lo
  ·by_cases f:((c.toNat:Nat):Int)<=hi
   ·simp [d,f,inR]
   ·simp [d,f,inR]
  ·simp [d,inR]
 ·have:i=s.length:=by omega
  subst this;refine .inr ?_;simp only [ig,ja,F4,n7,af,md]
theorem KC (lo hi:Int) (l:aa):cnt lo hi l=l.length↔∀c∈l,inR lo hi c=true:=by
 unfold cnt;rw [List.countP_eq_length]
theorem PI (lo hi:Int) (l:aa):cnt lo hi l=0↔∀c∈l,inR lo hi c=false:=by
 unfold cnt;rw [List.countP_eq_zero];simp
def bw (c:UInt8):Bool:=inR 48 57 c
theorem cr (c:UInt8):bw c=true↔48<=c.toNat/\c.toNat<=57:=by
 unfold bw inR;simp only [aA,ck];omega
theorem A6 (c:UInt8):inR 88 88 c=true↔c=88:=by
 unfold inR;simp only [aA,ck];constructor
 ·intro h;apply gy.1;show c.toNat=88;omega
 ·rintro rfl;decide
theorem NR (c:UInt8):inR 48 48 c=true↔c=48:=by
 unfold inR;simp only [aA,ck];constructor
 ·intro h;apply gy.1;show c.toNat=48;omega
 ·rintro rfl;decide
theorem Na:∀l:aa,cnt 48 57 l+cnt 88 88 l<=l.length/\(cnt 48 57 l+cnt 88 88 l=l.length↔∀c∈l,bw c=true\/c=88)
 | []=>by simp [cnt]
 | c::l=>by
  have ih:=Na l;have f:cnt 48 57 (c::l)=cnt 48 57 l+if inR 48 57 c then 1 else 0:=by simp [cnt,J7]
  have d:cnt 88 88 (c::l)=cnt 88 88 l+if inR 88 88 c then 1 else 0:=by simp [cnt,J7]
  have g:¬(inR 48 57 c=true/\inR 88 88 c=true):=by
   rintro ⟨b,a⟩;have:=(cr c).1 b;rw [(A6 c).1 a] at this;exact absurd this.2 (by decide)
  rw [f,d,az];simp only [dr,EM];have hx:=A6 c;have h:bw c=inR 48 57 c:=rfl;rw [h];cases b:inR 48 57 c<;>cases a:inR 88 88 c
  ·simp only [b,a] at hx ⊢;have:c≠88:=λe=>by simpa using hx.2 e
   simp [this];omega
  ·simp only [b,a] at hx ⊢;have:c=88:=hx.1 trivial;simp only [this,br,aJ,aB,false_or,jT];rw [<-ih.2];omega
  ·simp only [b,a] at hx ⊢;simp only [br,aJ,aB,true_or,jT];rw [<-ih.2];omega
  ·exact absurd ⟨b,a⟩ g
theorem LJ (n:Nat) (s set:aa) (q:asc set) (t:set.length<n) (u:set.length<=100) (hs:s.length<n):
  ∃y,ar (cU n) n (true,set,s,0)=some y/\((y=.inr ()/\s.all (hasB set)=true)\/∃i:Nat,y=.inl (i:Int)/\s.all (hasB set)=false):=by
 refine sA (step:=cU n) (λx=>x.1=true/\x.2.1=set/\x.2.2.1=s/\s.all (hasB set)=(s.drop x.2.2.2).all (hasB set)) (λx=>s.length - x.2.2.2) _ ?_ n _ ⟨rfl,rfl,rfl,rfl⟩ (by simp only;omega);rintro ⟨b,st,s',p⟩ ⟨h,f,g,a⟩;simp only at h f g a;rw [h,f,g];clear h f g b st s';rcases aG p s.length with j | m
 ·obtain ⟨c,hc⟩:∃c,s[p]?=some c:=⟨s[p],be j⟩;have e:Nat.blt p s.length=true:=di j;rw [bS hc,m6] at a;rcases aG c.toNat 128 with d | d
  ·have r:=B7 hc d;simp only [cU,e,ah,ko,r,vJ n set c d,ob];cases k:hasB set c with
   | true=>
    rw [k,nW] at a;exact .inl ⟨_,rfl,⟨rfl,rfl,rfl,a⟩,by simp only;omega⟩
   | false=>
    rw [k,xT] at a;exact .inr ⟨_,rfl,.inr ⟨p,rfl,a⟩⟩
  ·have r:=Iu hc d;have k:hasB set c=false:=by
    unfold hasB;rw [sN];intro x hx o;simp only [bG] at o;have:=q x hx;rw [o] at this;omega
   rw [k,xT] at a;have l:=yM n set q t u (((dec s p).1:Nat):Int) (by omega);simp only [cU,e,ah,ko,l,ob];exact .inr ⟨_,rfl,.inr ⟨p,rfl,a⟩⟩
 ·have e:Nat.blt p s.length=false:=by
   cases h:Nat.blt p s.length with
   | false=>rfl
   | true=>exact absurd (aI h) (by omega)
  simp only [cU,e,af];rw [jr m] at a;exact .inr ⟨_,rfl,.inl ⟨rfl,by rw [a];rfl⟩⟩
theorem JB (n:Nat) (s set:aa) (c:asc set) (e:set.length<n) (f:set.length<=100) (hs:s.length<n):gz n s set=some (s.all (hasB set)):=by
 obtain ⟨y,d,b⟩:=LJ n s set c e f hs;simp only [gz,lS,lY,d,ob];rcases b with ⟨rfl,a⟩ | ⟨i,rfl,a⟩
 ·rw [a];rfl
 ·rw [a];simp only [au,uU];omega
theorem O2:asc [48,49,50,51,52,53,54,55,56,57]:=by unfold asc;decide
theorem JQ:asc [88,48,49,50,51,52,53,54,55,56,57]:=by unfold asc;decide
theorem iW (p:UInt8->Bool) (h:∀i:Fin 256,p (UInt8.ofNat i.val)=true) (c:UInt8):p c=true:=by
 have:=h ⟨c.toNat,c.toNat_lt⟩;simpa using this
theorem wQ (c:UInt8):hasB [48,49,50,51,52,53,54,55,56,57] c=bw c:=by
 have:=iW (λc=>hasB [48,49,50,51,52,53,54,55,56,57] c==bw c) (by decide +kernel) c;simpa using this
theorem uZ (c:UInt8):hasB [88,48,49,50,51,52,53,54,55,56,57] c=(bw c||c==88):=by
 have:=iW (λc=>hasB [88,48,49,50,51,52,53,54,55,56,57] c==(bw c||c==88)) (by decide +kernel) c;simpa using this
theorem MC (n:Nat) (s:aa) (a:100<n) (hs:s.length<n):gz n s [48,49,50,51,52,53,54,55,56,57]=some (s.all bw):=by
 rw [JB n s _ O2 (by simp;omega) (by simp) hs];congr 2;funext c;exact wQ c
theorem IS (n:Nat) (s:aa) (a:100<n) (hs:s.length<n):gz n s [88,48,49,50,51,52,53,54,55,56,57]=some (s.all λc=>bw c||c==88):=by
 rw [JB n s _ JQ (by simp;omega) (by simp) hs];congr 2;funext c;exact uZ c
def all0 (s:aa):Bool:=s.all λc=>c==48
theorem Yu (n:Nat) (s:aa) (hs:s.length<n) (k:s.length<100000):∃y,gm n s 48=some y/\all0 s=all0 y/\y.length<=s.length:=by
 obtain ⟨y,g,a⟩:=sA (step:=dF n) (λx=>x.2=48/\all0 s=all0 x.1/\x.1.length<=s.length) (λx=>x.1.length) (λy=>all0 s=all0 y/\y.length<=s.length) (by
  rintro ⟨l,c⟩ ⟨rfl,h,f⟩;simp only at h f;by_cases m:l.length>0
  ·have d0:decide (((l.length:Nat):Int)>0)=true:=am (by omega);have j:IntKind.wrap .i64 (((l.length:Nat):Int) - 1)=((l.length - 1:Nat):Int):=by rw [wrap_i64 _ (by omega) (by omega)];omega
   obtain ⟨c,hc⟩:∃c,l[l.length - 1]?=some c:=⟨l[l.length - 1],be (by omega)⟩;simp only [dF,d0,ah,j,dI hc,ob];by_cases d:c=48
   ·have b:(((c.toNat:Nat):Int)==48)=true:=by rw [d];rfl
    simp only [b,ah,ef (show l.length - 1<=l.length by omega),cf];refine .inl ⟨(List.take (l.length - 1) l,48),rfl,⟨rfl,?_,by show (List.take (l.length - 1) l).length<=s.length;rw [db];omega⟩,by show (List.take (l.length - 1) l).length<l.length;rw [db];omega⟩;rw [h];have:l=l.take (l.length - 1)++[c]:=by
     have a:=pN (l:=l) (i:=l.length - 1);rw [hc,show l.length - 1+1=l.length by omega,md] at a;exact a
    rw [this];simp only [all0,CZ,m6,List.all_nil,d];simp
   ·have b:(((c.toNat:Nat):Int)==48)=false:=by
     rw [aL];intro e;exact d (gy.1 (by show c.toNat=48;omega))
    simp only [b,af];exact .inr ⟨_,rfl,h,f⟩
  ·have d0:decide (((l.length:Nat):Int)>0)=false:=aq (by omega);simp only [dF,d0,af];exact .inr ⟨_,rfl,h,f⟩) n (s,48) ⟨rfl,rfl,aW _⟩ hs
 exact ⟨y,by simp only [gm,g,ob],a⟩
theorem Yb (n:Nat) (s:aa) (hs:s.length<n) (m:s.length<100000):∃y,gY n s 48=some y/\all0 s=(y==[]):=by
 obtain ⟨y,k,j⟩:=sA (step:=fk n) (λx=>x.2=48/\all0 s=all0 x.1/\x.1.length<=s.length) (λx=>x.1.length) (λy=>all0 s=(y==[])) (by
  rintro ⟨l,c⟩ ⟨rfl,h,f⟩;simp only at h f;cases l with
  | nil=>exact .inr ⟨[],rfl,by rw [h];rfl⟩
  | cons c l=>
   have d0:decide ((((c::l).length:Nat):Int)>0)=true:=am (by simp only [az];omega);have hc:sx (c::l) 0=some c:=by simp [sx]
   simp only [fk,d0,ah,hc,ob];by_cases a:c=48
   ·have b:(((c.toNat:Nat):Int)==48)=true:=by rw [a];rfl
    have d:bx (c::l).length 1=some 1:=ef (i:=1) (by simp);simp only [b,ah,d,md,nO,cf];refine .inl ⟨_,rfl,⟨rfl,?_,by show l.length<=s.length;simp only [az] at f;omega⟩,by simp⟩;rw [h];simp [all0,a]
   ·have b:(((c.toNat:Nat):Int)==48)=false:=by
     rw [aL];intro e;exact a (gy.1 (by show c.toNat=48;omega))
    simp only [b,af];refine .inr ⟨_,rfl,?_⟩;rw [h];have g:(c==48)=false:=aL.2 a;simp [all0,g]) n (s,48) ⟨rfl,rfl,aW _⟩ hs
 exact ⟨y,by simp only [gY,k,ob],j⟩
theorem Rn (n:Nat) (s:aa) (hs:s.length<n) (a:s.length<100000):∃y,ow n s=some y/\(y==[])=all0 s:=by
 unfold ow;by_cases h:s=[]
 ·subst h;exact ⟨[],rfl,rfl⟩
 ·have:(s==([]:aa))=false:=aL.2 h;obtain ⟨y,d,c,f⟩:=Yu n s hs a;obtain ⟨z,e,b⟩:=Yb n y (by omega) (by omega);exact ⟨z,by simp only [this,af,d,e,ob],by rw [c,b]⟩
theorem O9 (s:aa):all0 s=true↔cnt 48 48 s=s.length:=by
 rw [KC];unfold all0;rw [cN];constructor
 ·intro h c hc;have:=h c hc;rw [bG] at this;exact (NR c).2 this
 ·intro h c hc;rw [bG];exact (NR c).1 (h c hc)
def hasX (s:aa):Bool:=s.any λc=>c==88
theorem HN (s:aa):hasX s=decide (0<cnt 88 88 s):=by
 have:=PI 88 88 s;unfold hasX;cases h:s.any λc=>c==88 with
 | true=>
  obtain ⟨c,hc,b⟩:=tR.1 h;rw [bG] at b;symm;rw [ck];rcases BF (cnt 88 88 s) with a | a
  ·have:=this.1 a c hc;rw [(A6 c).2 b] at this;cases this
  ·exact a
 | false=>
  symm;rw [uU];intro a;have:cnt 88 88 s=0:=this.2 λc hc=>by
   cases hx:inR 88 88 c with
   | false=>rfl
   | true=>
    rw [sN] at h;exact absurd (bG.2 ((A6 c).1 hx)) (h c hc)
  omega
theorem Em (n:Nat) (s:aa):iZ n s=some (hasX s):=by
 have e:UInt8.ofNat (Int.toNat 88)=(88:UInt8):=rfl;have hi:nj n s=some (Lib.indexByte s 88):=by
  simp only [nj,jo,dh,ob,e];by_cases h:([88]:aa)=s
  ·subst h;rfl
  ·have:(([88]:aa)==s)=false:=aL.2 h;simp only [this,af]
 simp only [iZ,hi,ob,pP];rfl
theorem uo (n:Nat) (g l:Bool) (d:aa) (x q:Int):dm n g l d x q=some (hasX d):=by
 simp only [dm,Em,ob]
theorem oS (n:Nat) (g l:Bool) (d:aa) (x q:Int) (hs:d.length<n) (a:d.length<100000):aE n g l d x q=some (if hasX d then 1 else 0):=by
 simp only [aE,Hf n d 88 88 hs a,ob,HN,ck];by_cases h:0<cnt 88 88 d
 ·have:decide (((cnt 88 88 d:Nat):Int)<1)=false:=aq (by omega);simp [this,h]
 ·have:decide (((cnt 88 88 d:Nat):Int)<1)=true:=am (by omega);have b:cnt 88 88 d=0:=by omega
  simp [this,b]
def vK (a:Nat) (c:UInt8):Nat:=a*10+(c.toNat - 48)
def dval (a:Nat) (l:aa):Nat:=l.foldl vK a
theorem qc (a:Nat):dval a []=a:=by unfold dval;rw [Ii]
theorem pE (a:Nat) (c:UInt8) (l:aa):dval a (c::l)=dval (vK a c) l:=by
 unfold dval;rw [vG]
theorem Gp (l:aa) (a:Nat) (c:UInt8):dval a (l++[c])=dval a l*10+(c.toNat - 48):=by
 have:dval a (l++[c])=vK (dval a l) c:=by
  unfold dval;rw [GN,vG,Ii]
 rw [this];rfl
theorem Ta (M:Nat) (j:10000000000000000000<=M) (l:aa):∀(a k:Nat),(∀c∈l,bw c=true)->a<10 ^ k->l.length+k<=18->Lib.parseUintM M a l=.ok (dval a l)/\dval a l<10 ^ (l.length+k):=by
 induction l with
 | nil=>
  intro a k _ e _;rw [qc];refine ⟨rfl,?_⟩;simpa using e
 | cons c l ih=>
  intro a k h e g;have hc:=(cr c).1 (h c (by simp));simp only [az] at g;have hp:(10:Nat) ^ (k+1)=10 ^ k*10:=tG 10 k;have i:(10:Nat) ^ (k+1)<=10 ^ 18:=oG (by decide) (by omega);have f:(10:Nat) ^ 18=1000000000000000000:=by decide
  have b:vK a c=a*10+(c.toNat - 48):=rfl;have ih:=ih (vK a c) (k+1) (λd b=>h d (by simp [b])) (by omega) (by omega);refine ⟨?_,?_⟩
  ·simp only [Lib.parseUintM];rw [ae hc,ab (by omega),ab (by omega),<-b,ih.1,pE]
  ·rw [pE,az,show l.length+1+k=l.length+(k+1) by omega];exact ih.2
theorem IW {l:aa} (h:∀c∈l,bw c=true) (d:l≠[]) (k:l.length<=18):yI l=some ((dval 0 l:Nat):Int)/\dval 0 l<10 ^ l.length:=by
 obtain ⟨i,b⟩:=Ta (2 ^ 64 - 1) (by decide) l 0 0 h (by simp) (by omega);refine ⟨?_,by simpa using b⟩;have g:dval 0 l<10 ^ 18:=qO b (oG (by decide) (by omega));cases l with
 | nil=>exact absurd rfl d
 | cons c r=>
  have hc:=(cr c).1 (h c (by simp));have f:Lib.parseUintB 64 (c::r)=.ok (dval 0 (c::r)):=by
   unfold Lib.parseUintB;rw [ab d,i]
  have hs:¬(c.toNat=43\/c.toNat=45):=by omega
  simp only [yI,Lib.parseIntB,hs,aB,f];have e:(10:Nat) ^ 18=1000000000000000000:=by decide
  have a:(2:Nat) ^ (64 - 1)=9223372036854775808:=by decide
  have j:¬c.toNat=45:=by omega
  simp only [j,Fp,jT,yg,aB];rw [a,ab (by omega)]
theorem P8 (n k:Nat) (h:k<=18) (j:18<n):o7 n (k:Int)=some (((10 ^ k:Nat):Int),0):=by
 have c:(10:Nat) ^ 18=1000000000000000000:=by decide
 have:=fO (step:=lk n) (λx=>∃i:Nat,i<=k/\x=(((10 ^ i:Nat):Int),(k:Int),(i:Int))) (λx=>k - x.2.2.toNat) (λ_=>((10 ^ k:Nat):Int)) (by
  rintro x ⟨i,hi,rfl⟩;rcases aG i k with a | g
  ·have e:(10:Nat) ^ (i+1)<=10 ^ 18:=oG (by decide) (by omega);have hp:(10:Nat) ^ (i+1)=10 ^ i*10:=tG 10 i;have f:IntKind.wrap .i64 (((10 ^ i:Nat):Int)*10)=((10 ^ (i+1):Nat):Int):=by rw [wrap_i64 _ (by omega) (by omega)];omega
   have b:IntKind.wrap .i64 ((i:Int)+1)=((i+1:Nat):Int):=by rw [wrap_i64 _ (by omega) (by omega)];omega
   refine .inl ⟨_,?_,⟨i+1,a,rfl⟩,by simp only [cb];omega,rfl⟩;simp only [lk,ja,a,oC,ah,f,b]
  ·have:i=k:=by omega
   subst this;refine .inr ?_;simp only [lk,ja,F4,n7,af]) n (1,(k:Int),0) ⟨0,by omega,rfl⟩ (by simp;omega)
 have d:decide ((k:Int)<0)=false:=aq (by omega);have d2:decide ((k:Int)>18)=false:=aq (by omega);simp only [o7,d,d2,af,this,ob]
theorem lc (x:Int) (b:0<=x) (a:x<18446744073709551616):IntKind.wrap .u64 x=x:=by
 show x%18446744073709551616=x;omega
theorem Fz (x:Int):IntKind.wrap .u64 x=x%18446744073709551616:=rfl
theorem KI {a:Nat} (b:a<18446744073709551616):bits .and .u64 (a:Int) 4294967295=((a%4294967296:Nat):Int):=by
 show IntKind.wrap .u64 ((BitVec.ofInt 64 (a:Int) &&& BitVec.ofInt 64 ((4294967295:Nat):Int)).toNat:Int)=_;rw [Dt,Dt,BitVec.toNat_and,BitVec.toNat_ofNat,BitVec.toNat_ofNat,qR (show a<2 ^ 64 from b),qR (by decide)];have:=Nat.and_two_pow_sub_one_eq_mod a 32;rw [show (2:Nat) ^ 32 - 1=4294967295 from by decide,show (2:Nat) ^ 32=4294967296 from by decide] at this;rw [this];exact lc _ (by omega) (by omega)
theorem O8 (a:Nat):Int.fdiv (a:Int) (2 ^ 32)=((a / 4294967296:Nat):Int):=by
 rw [OK]
theorem Hk {a b A B:Nat} (c:a<=A) (d:b<=B):a*b<=A*B:=fS9 c d
theorem JA (a b:Nat):a*b=(a / 4294967296)*(b / 4294967296)*18446744073709551616+((a / 4294967296)*(b%4294967296)+(a%4294967296)*(b / 4294967296))*4294967296+(a%4294967296)*(b%4294967296):=by
 have f:a=(a / 4294967296)*4294967296+a%4294967296:=by omega
 have e:b=(b / 4294967296)*4294967296+b%4294967296:=by omega
 generalize a / 4294967296=d at f ⊢;generalize a%4294967296=h at f ⊢;generalize b / 4294967296=c at e ⊢;generalize b%4294967296=g at e ⊢;subst f e;rw [hO,Nat.mul_add,Nat.mul_add];have k:d*4294967296*(c*4294967296)=d*c*18446744073709551616:=by
  rw [Nat.mul_mul_mul_comm]
 have i:d*4294967296*g=d*g*4294967296:=by rw [Nat.mul_right_comm]
 have j:h*(c*4294967296)=h*c*4294967296:=by rw [FG]
 rw [k,i,j,hO];omega
theorem X8 (n a b:Nat) (u:a<18446744073709551616) (o:b<18446744073709551616):li n (a:Int) (b:Int)=some (((a*b / 18446744073709551616:Nat):Int),((a*b%18446744073709551616:Nat):Int)):=by
 have x:=JA a b;have g:a / 4294967296<=4294967295:=by omega
 have i:a%4294967296<=4294967295:=by omega
 have j:b / 4294967296<=4294967295:=by omega
 have h:b%4294967296<=4294967295:=by omega
 have r:=Hk i h;have s:=Hk i j;have m:=Hk g h;have w:=Hk g j;have k:IntKind.wrap .u64 ((a:Int)*(b:Int))=((a*b%18446744073709551616:Nat):Int):=by
  rw [Fz,<-HF];omega
 simp only [li,O8,KI u,KI o,k];simp only [<-HF];generalize (a / 4294967296)*(b / 4294967296)=e at *;generalize (a / 4294967296)*(b%4294967296)=d at *;generalize (a%4294967296)*(b / 4294967296)=f at *;generalize (a%4294967296)*(b%4294967296)=c at *;generalize a*b=N at *;have q:IntKind.wrap .u64 ((c:Nat):Int)=((c:Nat):Int):=lc _ (by omega) (by omega);have v:IntKind.wrap .u64 ((d:Nat):Int)=((d:Nat):Int):=lc _ (by omega) (by omega);have l:IntKind.wrap .u64 ((f:Nat):Int)=((f:Nat):Int):=lc _ (by omega) (by omega);have y:IntKind.wrap .u64 ((e:Nat):Int)=((e:Nat):Int):=lc _ (by omega) (by omega);rw [q,v,l,y,O8 c];have z:IntKind.wrap .u64 (((d:Nat):Int)+((c / 4294967296:Nat):Int))=((d+c / 4294967296:Nat):Int):=by rw [lc _ (by omega) (by omega)];omega
 rw [z,O8,KI (by omega)];have t:IntKind.wrap .u64 (((e:Nat):Int)+(((d+c / 4294967296) / 4294967296:Nat):Int))=((e+(d+c / 4294967296) / 4294967296:Nat):Int):=by rw [lc _ (by omega) (by omega)];omega
 have p:IntKind.wrap .u64 ((((d+c / 4294967296)%4294967296:Nat):Int)+((f:Nat):Int))=(((d+c / 4294967296)%4294967296+f:Nat):Int):=by rw [lc _ (by omega) (by omega)];omega
 rw [t,p,O8];have w8:IntKind.wrap .u64 (((e+(d+c / 4294967296) / 4294967296:Nat):Int)+((((d+c / 4294967296)%4294967296+f) / 4294967296:Nat):Int))=((N / 18446744073709551616:Nat):Int):=by
  rw [lc _ (by omega) (by omega)];omega
 rw [w8]
theorem Un (n a b:Nat) (k:a<9223372036854775808) (j:b<9223372036854775808):vU n (a:Int) (b:Int)=some (if a*b<9223372036854775808 then (((a*b:Nat):Int),0) else (0,15)):=by
 have i:decide ((a:Int)<0)=false:=aq (by omega);have d2:decide ((b:Int)<0)=false:=aq (by omega);have g:IntKind.wrap .u64 (a:Int)=a:=lc _ (by omega) (by omega);have f:IntKind.wrap .u64 (b:Int)=b:=lc _ (by omega) (by omega);simp only [vU,ug,i,d2,af,g,f,ob,X8 n a b (by omega) (by omega)];generalize a*b=N;by_cases h:18446744073709551616<=N
 ·have c:decide (((N / 18446744073709551616:Nat):Int)>0)=true:=am (by omega);rw [c,ab (by omega)];rfl
 ·have c:decide (((N / 18446744073709551616:Nat):Int)>0)=false:=aq (by omega);have e:N%18446744073709551616=N:=qR (by omega);rw [c,e];simp only [af,rF,cv,s9,ij,ah];by_cases d:N<9223372036854775808
  ·have d4:decide (((N:Nat):Int)<=9223372036854775807)=true:=am (by omega);rw [d4,ae d,ah,wrap_i64 _ (by omega) (by omega)]
  ·have d4:decide (((N:Nat):Int)<=9223372036854775807)=false:=aq (by omega);rw [d4,ab d,af]
def E16:Nat:=10000000000000000
theorem S8 {x:Nat} (hx:17<=x):E16<10 ^ x:=by
 have:(10:Nat) ^ 17<=10 ^ x:=oG (by decide) hx;have a:(10:Nat) ^ 17=100000000000000000:=by decide
 unfold E16;omega
theorem Lp (n:Nat) (g l:Bool) (d:aa) (x:Nat) (s:Int) (m:∀c∈d,bw c=true) (q:d≠[]) (p:d.length<=17) (hx:x<=18) (o:18<n):
  ew n g l d (x:Int) s=some (if dval 0 d*10 ^ x<=E16 then (((dval 0 d*10 ^ x:Nat):Int),0) else (0,6)):=by
 obtain ⟨k,j⟩:=IW m q (by omega);have r:dval 0 d<10 ^ 17:=qO j (oG (by decide) p);have hp:(10:Nat) ^ x<=10 ^ 18:=oG (by decide) hx;have i:(10:Nat) ^ 17=100000000000000000:=by decide
 have f:(10:Nat) ^ 18=1000000000000000000:=by decide
 have e:Nat.ble d.length 9223372036854775806=true:=di (by omega);simp only [ew,e,ah,k,ob,P8 n x hx o,dA,af,Un n _ _ (show dval 0 d<9223372036854775808 by omega) (show 10 ^ x<9223372036854775808 by omega)];generalize dval 0 d*10 ^ x=N;unfold E16;by_cases h:N<9223372036854775808
 ·rw [ae h];simp only [dA,af];by_cases b:N<=10000000000000000
  ·have a:decide (((N:Nat):Int)>10000000000000000)=false:=aq (by omega);rw [a,ae b,af]
  ·have a:decide (((N:Nat):Int)>10000000000000000)=true:=am (by omega);rw [a,ab b,ah]
 ·rw [ab h,ab (by omega)];rfl
def pre (d:aa) (i:Nat):Nat:=dval 0 (d.take i)*10 ^ (i - d.length)
theorem Q0 {d:aa} {i:Nat} {c:UInt8} (h:d[i]?=some c):pre d (i+1)=10*pre d i+(c.toNat - 48):=by
 have a:=ub h;unfold pre;rw [pN,h,show i+1 - d.length=0 by omega,show i - d.length=0 by omega];simp only [Option.toList,Gp,Ar,rN];omega
theorem QV {d:aa} {i:Nat} (h:d.length<=i):pre d (i+1)=10*pre d i:=by
 unfold pre;rw [ji (show d.length<=i+1 by omega),ji h,show i+1 - d.length=(i - d.length)+1 by omega,tG];rw [<-FG];omega
theorem G6 (d:aa):∀k i,pre d i<=pre d (i+k)
 | 0,i=>aW _
 | k+1,i=>by
  have ih:=G6 d k i;rcases aG (i+k) d.length with a | b
  ·have:=Q0 (be a);rw [show i+(k+1)=i+k+1 by omega,this];omega
  ·have:=QV b;rw [show i+(k+1)=i+k+1 by omega,this];omega
theorem jD (n:Nat) (d:aa) (x:Nat) (t:∀c∈d,bw c=true) (w:d.length<=100) (hx:x<=100) (v:d.length+x<n):
  ak n d (x:Int)=some (if dval 0 d*10 ^ x<=E16 then (((dval 0 d*10 ^ x:Nat):Int),1) else (0,0)):=by
 have a:pre d (d.length+x)=dval 0 d*10 ^ x:=by
  unfold pre;rw [ji (by omega),show d.length+x - d.length=x by omega]
 have w0:IntKind.wrap .i64 (((d.length:Nat):Int)+(x:Int))=((d.length+x:Nat):Int):=by rw [wrap_i64 _ (by omega) (by omega)];omega
 have:=fO (step:=ft n) (λq=>∃i:Nat,i<=d.length+x/\pre d i<=E16/\q=(d,(x:Int),((pre d i:Nat):Int),(i:Int))) (λq=>d.length+x - q.2.2.2.toNat) (λ_=>if dval 0 d*10 ^ x<=E16 then .inr ((dval 0 d*10 ^ x:Nat):Int) else .inl (0,0)) (by
  rintro q ⟨i,hi,hp,rfl⟩;simp only [ft,w0,ja];unfold E16 at hp ⊢;have s:IntKind.wrap .i64 ((i:Int)+1)=((i+1:Nat):Int):=by rw [wrap_i64 _ (by omega) (by omega)];omega
  have m:IntKind.wrap .i64 (10*((pre d i:Nat):Int))=((10*pre d i:Nat):Int):=by rw [wrap_i64 _ (by omega) (by omega)];omega
  by_cases j:i<d.length+x
  ·have p:=G6 d (d.length+x - (i+1)) (i+1);rw [show i+1+(d.length+x - (i+1))=d.length+x by omega,a] at p;simp only [j,oC,ah,s,m];rcases aG i d.length with e | k
   ·obtain ⟨c,hc⟩:∃c,d[i]?=some c:=⟨d[i],be e⟩;have l:=(cr c).1 (t c (gB hc));have hs:=Q0 hc;have r:IntKind.wrap .u8 (((c.toNat:Nat):Int) - 48)=((c.toNat - 48:Nat):Int):=by rw [kD _ (by omega) (by omega)];omega
    have o:IntKind.wrap .i64 ((c.toNat - 48:Nat):Int)=((c.toNat - 48:Nat):Int):=wrap_i64 _ (by omega) (by omega);have u:IntKind.wrap .i64 (((10*pre d i:Nat):Int)+((c.toNat - 48:Nat):Int))=((pre d (i+1):Nat):Int):=by rw [wrap_i64 _ (by omega) (by omega)];omega
    simp only [e,oC,ah,dI hc,ob,r,o,u];by_cases g:pre d (i+1)<=10000000000000000
    ·have b:decide (((pre d (i+1):Nat):Int)>10000000000000000)=false:=aq (by omega);simp only [b,af];exact .inl ⟨_,rfl,⟨i+1,j,g,rfl⟩,by simp only [cb];omega,trivial⟩
    ·have b:decide (((pre d (i+1):Nat):Int)>10000000000000000)=true:=am (by omega);simp only [b,ah];rw [ab (by omega)];exact .inr rfl
   ·have hs:=QV k;have f:¬i<d.length:=by omega
    simp only [f,n7,af];rw [<-hs];by_cases g:pre d (i+1)<=10000000000000000
    ·have b:decide (((pre d (i+1):Nat):Int)>10000000000000000)=false:=aq (by omega);simp only [b,af];exact .inl ⟨_,rfl,⟨i+1,j,g,rfl⟩,by simp only [cb];omega,trivial⟩
    ·have b:decide (((pre d (i+1):Nat):Int)>10000000000000000)=true:=am (by omega);simp only [b,ah];rw [ab (by omega)];exact .inr rfl
  ·have:i=d.length+x:=by omega
   subst this;simp only [F4,n7,af];rw [a] at hp ⊢;rw [ae hp];exact .inr rfl) n (d,(x:Int),0,0) ⟨0,by omega,by unfold pre E16;simp [qc],by unfold pre;simp [qc]⟩ (by simp;omega)
 simp only [ak,this,ob];by_cases h:dval 0 d*10 ^ x<=E16
 ·rw [ae h,ae h]
 ·rw [ab h,ab h]
def okM (d:aa) (x:Int):Prop:=(∀c∈d,bw c=true)/\1<=d.length/\d.length<=17/\d.head?≠some 48/\0<=x/\x<=16/\¬(x=0/\d.length<5)/\dval 0 d*10 ^ x.toNat<=E16
def okL (d:aa) (x s:Int):Prop:=okM d x/\0<=s/\s<=(d.length:Int)+x
def okS (g:Bool) (d:aa) (x s:Int):Prop:=d.length=4/\(∀c∈d,bw c=true\/c=88)/\x=0/\¬(g=true/\all0 d=true)/\0<=s/\s<=4/\¬(0<s/\hasX d=true)
def okY (g l:Bool) (d:aa) (x s:Int):Prop:=if l=true then okL d x s else okS g d x s
instance (d:aa) (x:Int):Decidable (okM d x):=by unfold okM;infer_instance
instance (d:aa) (x s:Int):Decidable (okL d x s):=by unfold okL;infer_instance
instance (g:Bool) (d:aa) (x s:Int):Decidable (okS g d x s):=by unfold okS;infer_instance
instance (g l:Bool) (d:aa) (x s:Int):Decidable (okY g l d x s):=by unfold okY;infer_instance
theorem Oc (d:aa):d.all bw=true↔∀c∈d,bw c=true:=cN
theorem G2 (d:aa):(d.all λc=>bw c||c==88)=true↔∀c∈d,bw c=true\/c=88:=by
 rw [cN];constructor
 ·intro h c hc;have:=h c hc;simpa using this
 ·intro h c hc;have:=h c hc;simpa using this
theorem TO (c:UInt8):(((c.toNat:Nat):Int)==48)=(c==48):=oa c 48
theorem S7 (n:Nat) (g l:Bool) (d:aa) (x s:Int) (B:200<n) (A:d.length<=100):aZ n g l d x s=some (decide (okM d x)):=by
 unfold aZ;by_cases y:d.length<1
 ·have e:decide (((d.length:Nat):Int)<1)=true:=am (by omega);rw [e,aq (λh:okM d x=>by have:=h.2.1;omega)];rfl
 ·have e:decide (((d.length:Nat):Int)<1)=false:=aq (by omega);rw [e,af];by_cases z:d.length>17
  ·have e:decide (((d.length:Nat):Int)>17)=true:=am (by omega);rw [e,aq (λh:okM d x=>by have:=h.2.2.1;omega)];rfl
  ·have e:decide (((d.length:Nat):Int)>17)=false:=aq (by omega);rw [e,af,MC n d (by omega) (by omega)];simp only [ob];cases p:d.all bw with
   | false=>
    rw [aq (λh:okM d x=>by rw [(Oc d).2 h.1] at p;cases p)];rfl
   | true=>
    have a:=(Oc d).1 p;obtain ⟨c,r,rfl⟩:∃c r,d=c::r:=by
     cases d with
     | nil=>simp at y
     | cons c r=>exact ⟨c,r,rfl⟩
    have t:sx (c::r) 0=some c:=by simp [sx]
    simp only [cv,af,t,TO];by_cases m:c=48
    ·rw [aq (λh:okM (c::r) x=>h.2.2.2.1 (by rw [m];rfl)),m];rfl
    ·have e:(c==48)=false:=aL.2 m;rw [e,af];by_cases u:x<0
     ·rw [am u,aq (λh:okM (c::r) x=>by have:=h.2.2.2.2.1;omega)];rfl
     ·rw [aq u,af];by_cases w:x>16
      ·rw [am w,aq (λh:okM (c::r) x=>by have:=h.2.2.2.2.2.1;omega)];rfl
      ·rw [aq w,af];obtain ⟨k,rfl⟩:∃k:Nat,x=(k:Int):=⟨x.toNat,by omega⟩;have o:=Lp n g l (c::r) k s a (by simp) (by omega) (by omega) (by omega);rw [o];have key:¬((k:Int)=0/\(c::r).length<5)->(okM (c::r) (k:Int)↔dval 0 (c::r)*10 ^ k<=E16):=by
        intro i;constructor
        ·intro h;simpa using h.2.2.2.2.2.2.2
        ·intro h;exact ⟨a,by omega,by omega,by simpa using m,by omega,by omega,i,by simpa using h⟩
       have b:¬((k:Int)=0/\(c::r).length<5)->(ob (some (if dval 0 (c::r)*10 ^ k<=E16 then (((dval 0 (c::r)*10 ^ k:Nat):Int),(0:Int)) else (0,6))) λq=>(some (q.2==0)))=some (decide (okM (c::r) (k:Int))):=by
        intro i;by_cases j:dval 0 (c::r)*10 ^ k<=E16
        ·rw [ae j,am ((key i).2 j)];rfl
        ·rw [ab j,aq (λh=>j ((key i).1 h))];rfl
       by_cases f:(k:Int)=0
       ·have e:((k:Int)==0)=true:=bG.2 f;rw [e,ah];by_cases v:(c::r).length<5
        ·have e:decide ((((c::r).length:Nat):Int)<5)=true:=am (by omega);rw [e,aq (λh:okM (c::r) (k:Int)=>h.2.2.2.2.2.2.1 ⟨f,v⟩)];rfl
        ·have e:decide ((((c::r).length:Nat):Int)<5)=false:=aq (by omega);rw [e,af];exact b (λh=>v h.2)
       ·have e:((k:Int)==0)=false:=aL.2 f;rw [e,af];exact b (λh=>f h.1)
theorem PQ (n:Nat) (g l:Bool) (d:aa) (x s:Int) (e:200<n) (c:d.length<=100):
  (ob (aZ n g l d x s) λr=>(cond (!r) (some (6:Int)) (cond (decide (s<0)) (some 6) (cond (decide (s>(IntKind.wrap .i64 (((d.length:Nat):Int)+x)))) (some 6) (some 0)))))=some (if okL d x s then 0 else 6):=by
 rw [S7 n g l d x s e c];simp only [ob];by_cases h:okM d x
 ·rw [am h];have hx:=h.2.2.2.2;have w:IntKind.wrap .i64 (((d.length:Nat):Int)+x)=((d.length:Nat):Int)+x:=wrap_i64 _ (by omega) (by omega);rw [w];simp only [cv,af,bA];by_cases b:s<0
  ·rw [ae b,ab (λq:okL d x s=>by have:=q.2.1;omega)]
  ·rw [ab b];by_cases a:s>((d.length:Nat):Int)+x
   ·rw [ae a,ab (λq:okL d x s=>by have:=q.2.2;omega)]
   ·rw [ab a,ae ⟨h,by omega,by omega⟩]
 ·rw [aq h,ab (λq:okL d x s=>h q.1)];rfl
theorem Ai (n:Nat) (g l:Bool) (d:aa) (x s:Int) (A:200<n) (z:d.length<=100):cD n g l d x s=some (if okY g l d x s then 0 else 6):=by
 obtain ⟨y,v,hy⟩:=Rn n d (by omega) (by omega);unfold cD;rw [IS n d (by omega) (by omega),v,uo];cases l with
 | true=>
  have b:(if okY g true d x s then (0:Int) else 6)=if okL d x s then 0 else 6:=by simp only [okY,aJ]
  rw [b];have st:=PQ n g true d x s A z;simp only [ah];generalize (ob (aZ n g true d x s) λr=>(cond (!r) (some (6:Int)) (cond (decide (s<0)) (some 6) (cond (decide (s>(IntKind.wrap .i64 (((d.length:Nat):Int)+x)))) (some 6) (some 0)))))=T at st ⊢;simp only [ob];rw [st];cases (((d.length:Nat):Int)==4)<;>cases (d.all λc=>bw c||c==88)<;>cases (x==0)<;>cases g<;>cases (y==[])<;>cases (s != 0)<;>rfl
 | false=>
  have b:(if okY g false d x s then (0:Int) else 6)=if okS g d x s then 0 else 6:=by simp only [okY,br,aB]
  rw [b];simp only [af,ob];by_cases f:d.length=4
  ·have j:(((d.length:Nat):Int)==4)=true:=bG.2 (by omega);rw [j,ah];cases k:(d.all λc=>bw c||c==88) with
   | false=>
    rw [ab (λq:okS g d x s=>by rw [(G2 d).2 q.2.1] at k;cases k)];rfl
   | true=>
    have e:=(G2 d).1 k;rw [ah];by_cases m:x=0
    ·subst m;have w:IntKind.wrap .i64 (((d.length:Nat):Int)+0)=4:=by rw [f];decide
     rw [w];have a:¬(g=true/\all0 d=true)->(cond (s != 0) (cond (!(!hasX d)) (some (6:Int)) (cond (decide (s<0)) (some 6) (cond (decide (s>4)) (some 6) (some 0)))) (cond (decide (s<0)) (some 6) (cond (decide (s>4)) (some 6) (some 0))))=some (if okS g d 0 s then 0 else 6):=by
      intro u;simp only [bA,vR,Bool.not_not];by_cases s0:s=0
      ·subst s0;rw [ae rfl,ab (by omega),ab (by omega),ae ⟨f,e,rfl,u,by omega,by omega,by omega⟩]
      ·rw [ab s0];cases o:hasX d with
       | true=>
        by_cases i:s<0
        ·rw [ab (λq:okS g d 0 s=>by have:=q.2.2.2.2.1;omega)];rfl
        ·rw [ab (λq:okS g d 0 s=>q.2.2.2.2.2.2 ⟨by omega,o⟩)];rfl
       | false=>
        rw [af];by_cases i:s<0
        ·rw [ae i,ab (λq:okS g d 0 s=>by have:=q.2.2.2.2.1;omega)]
        ·rw [ab i];by_cases t:s>4
         ·rw [ae t,ab (λq:okS g d 0 s=>by have:=q.2.2.2.2.2.1;omega)]
         ·rw [ab t,ae ⟨f,e,rfl,u,by omega,by omega,λq=>by rw [o] at q;cases q.2⟩]
     have h:((0:Int)==0)=true:=rfl;rw [h,ah];cases g with
     | false=>
      simp only [af];exact a (by simp)
     | true=>
      simp only [ah];rw [hy];cases p:all0 d with
      | true=>rw [ab (λq:okS true d 0 s=>q.2.2.2.1 ⟨rfl,p⟩)];rfl
      | false=>
       simp only [ij,ah];exact a (by rw [p];simp)
    ·have h:(x==0)=false:=aL.2 m;rw [h,ab (λq:okS g d x s=>m q.2.2.1)];rfl
  ·have j:(((d.length:Nat):Int)==4)=false:=aL.2 (by omega);rw [j,ab (λq:okS g d x s=>f q.1)];rfl
theorem TC (d:aa):cnt 48 57 d=d.length↔∀c∈d,bw c=true:=KC 48 57 d
theorem NV (n:Nat) (g l:Bool) (d:aa) (x s:Int) (N:200<n) (J:d.length<=100):ku n g l d x s=some (if okY g l d x s then 1 else 0):=by
 have hs:=Na d;have p:=HN d;have v:=O9 d;have u:=TC d;unfold ku;rw [Hf n d 48 57 (by omega) (by omega),Hf n d 88 88 (by omega) (by omega),Hf n d 48 48 (by omega) (by omega)];simp only [ob];generalize M:cnt 48 57 d=A at *;generalize L:cnt 88 88 d=B at *;have w0:IntKind.wrap .i64 (((A:Nat):Int)+((B:Nat):Int))=((A+B:Nat):Int):=by rw [wrap_i64 _ (by omega) (by omega)];omega
 rw [w0];simp only [vR,bA,Hu];by_cases z:A+B=d.length
 ·rw [ae (by omega)];have t:=hs.2.1 z;by_cases H:s<0
  ·rw [ae H,ab];intro q;unfold okY at q;split at q
   ·have:=q.2.1;omega
   ·have:=q.2.2.2.2.1;omega
  ·rw [ab H];cases l with
   | false=>
    have i:(if okY g false d x s then (1:Int) else 0)=if okS g d x s then 1 else 0:=by simp only [okY,br,aB]
    rw [i,af];by_cases j:d.length=4
    ·rw [ae (by omega)];by_cases h:x=0
     ·rw [ae h];have a:¬(g=true/\all0 d=true)->(if s>4 then some (0:Int) else if s>0 then (if ((B:Nat):Int)>0 then some 0 else some 1) else some 1)=some (if okS g d x s then 1 else 0):=by
       intro C;by_cases w:s>4
       ·rw [ae w,ab (λq:okS g d x s=>by have:=q.2.2.2.2.2.1;omega)]
       ·rw [ab w];by_cases G:s>0
        ·rw [ae G];by_cases m:((B:Nat):Int)>0
         ·rw [ae m,ab (λq:okS g d x s=>q.2.2.2.2.2.2 ⟨by omega,by rw [p];exact am (by omega)⟩)]
         ·rw [ab m,ae ⟨j,t,h,C,by omega,by omega,λq=>by
           have:=q.2;rw [p,ck] at this;omega⟩]
        ·rw [ab G,ae ⟨j,t,h,C,by omega,by omega,λq=>by omega⟩]
      cases g with
      | false=>rw [af];exact a (by simp)
      | true=>
       rw [ah,kv];by_cases b:all0 d=true
       ·rw [ae (by have:=v.1 b;omega),ab (λq:okS true d x s=>q.2.2.2.1 ⟨rfl,b⟩)]
       ·rw [ab (λq=>b (v.2 (by omega)))];exact a (λq=>b q.2)
     ·rw [ab h,ab (λq:okS g d x s=>h q.2.2.1)]
    ·rw [ab (by omega),ab (λq:okS g d x s=>j q.1)]
   | true=>
    have i:(if okY g true d x s then (1:Int) else 0)=if okL d x s then 1 else 0:=by simp only [okY,aJ]
    rw [i,ah];by_cases m:((B:Nat):Int)>0
    ·rw [ae m,ab];intro q;have:=u.2 q.1.1;omega
    ·rw [ab m];have f:=u.1 (by omega);by_cases j:((A:Nat):Int)<1
     ·rw [ae j,ab (λq:okL d x s=>by have:=q.1.2.1;omega)]
     ·rw [ab j];by_cases h:((A:Nat):Int)>17
      ·rw [ae h,ab (λq:okL d x s=>by have:=q.1.2.2.1;omega)]
      ·rw [ab h];obtain ⟨c,r,rfl⟩:∃c r,d=c::r:=by
        cases d with
        | nil=>simp at z;omega
        | cons c r=>exact ⟨c,r,rfl⟩
       have y:sx (c::r) 0=some c:=by simp [sx]
       simp only [y,TO,kv];by_cases b:c=48
       ·rw [ae b,ab (λq:okL (c::r) x s=>q.1.2.2.2.1 (by rw [b];rfl))]
       ·rw [ab b];by_cases E:x<0
        ·rw [ae E,ab (λq:okL (c::r) x s=>by have:=q.1.2.2.2.2.1;omega)]
        ·rw [ab E];by_cases F:x>16
         ·rw [ae F,ab (λq:okL (c::r) x s=>by have:=q.1.2.2.2.2.2.1;omega)]
         ·rw [ab F];obtain ⟨k,rfl⟩:∃k:Nat,x=(k:Int):=⟨x.toNat,by omega⟩;have I:IntKind.wrap .i64 (((A:Nat):Int)+(k:Int))=((A+k:Nat):Int):=by rw [wrap_i64 _ (by omega) (by omega)];omega
          rw [I,jD n (c::r) k f J (by omega) (by omega)];have o:(c::r).length=A:=by omega
          have a:¬((k:Int)=0/\(c::r).length<5)->(if s>((A+k:Nat):Int) then some (0:Int) else some (if dval 0 (c::r)*10 ^ k<=E16 then (((dval 0 (c::r)*10 ^ k:Nat):Int),(1:Int)) else (0,0)).2)=some (if okL (c::r) (k:Int) s then 1 else 0):=by
           intro K;by_cases w:s>((A+k:Nat):Int)
           ·rw [ae w,ab (λq:okL (c::r) (k:Int) s=>by have:=q.2.2;rw [o] at this;omega)]
           ·rw [ab w];by_cases e:dval 0 (c::r)*10 ^ k<=E16
            ·rw [ae e,ae ⟨⟨f,by omega,by omega,by simpa using b,by omega,by omega,K,by simpa using e⟩,by omega,by omega⟩]
            ·rw [ab e,ab (λq:okL (c::r) (k:Int) s=>e (by simpa using q.1.2.2.2.2.2.2.2))]
          by_cases e:(k:Int)=0
          ·rw [ae e];by_cases D:((A:Nat):Int)<5
           ·rw [ae D,ab (λq:okL (c::r) (k:Int) s=>q.1.2.2.2.2.2.2.1 ⟨e,by omega⟩)]
           ·rw [ab D];exact a (λq=>by omega)
          ·rw [ab e];exact a (λq=>e q.1)
 ·rw [ab (by omega),ab];intro q;apply z;rw [hs.2];unfold okY at q;split at q
  ·exact λc hc=>.inl (q.1.1 c hc)
  ·exact q.2.1
theorem M3:∀(l:aa) (a:Nat),a*10 ^ l.length<=dval a l
 | [],a=>by rw [qc];simp
 | c::l,a=>by
  have ih:=M3 l (vK a c);rw [pE,az,tG];have h:a*10<=vK a c:=BQ _ _;have b:=oz (10 ^ l.length) h;have d:a*(10 ^ l.length*10)=a*10*10 ^ l.length:=by rw [vf (10 ^ l.length) 10,FG]
  omega
theorem va:∀(l:aa) (a k:Nat),(∀c∈l,bw c=true)->a<10 ^ k->dval a l<10 ^ (l.length+k)
 | [],a,k,_,h=>by rw [qc];simpa using h
 | c::l,a,k,e,h=>by
  have hc:=(cr c).1 (e c (by simp));have hp:(10:Nat) ^ (k+1)=10 ^ k*10:=tG 10 k;have hs:vK a c=a*10+(c.toNat - 48):=rfl;have ih:=va l (vK a c) (k+1) (λd b=>e d (by simp [b])) (by omega);rw [pE,az,show l.length+1+k=l.length+(k+1) by omega];exact ih
structure Num (d:aa) (k q:Nat):Prop where
 dig:∀c∈d,bw c=true
 ne:d≠[]
 wide:d.length+k<=17
 small:dval 0 d*10 ^ k<=E16
 sig:q<=d.length+k
theorem Gq {d:aa} (h:∀c∈d,bw c=true):hasX d=false:=by
 unfold hasX;rw [sN];intro c hc a;rw [bG] at a;have:=(cr c).1 (h c hc);rw [a] at this;exact absurd this.2 (by decide)
theorem uy {g l:Bool} {d:aa} {x s:Int} (h:okY g l d x s) (j:hasX d=false):∃k q:Nat,x=(k:Int)/\s=(q:Int)/\Num d k q:=by
 cases l with
 | true=>
  have h:okL d x s:=by simpa [okY] using h
  obtain ⟨⟨b,f,A,o,w,y,z,v⟩,t,B⟩:=h;refine ⟨x.toNat,s.toNat,by omega,by omega,b,by intro e;subst e;simp at f,?_,v,by omega⟩;cases d with
  | nil=>simp at f
  | cons c r=>
   have hc:=(cr c).1 (b c (by simp));have p:c≠48:=by simpa using o
   have n:1<=vK 0 c:=by
    have:c.toNat≠48:=λe=>p (gy.1 e);show 1<=0*10+(c.toNat - 48);omega
   have C:=M3 r (vK 0 c);rw [<-pE] at C;have t:10 ^ r.length<=dval 0 (c::r):=by
    have:=oz (10 ^ r.length) n;omega
   have i:=oz (10 ^ x.toNat) t;rw [<-Nat.pow_add] at i;rcases aG (r.length+x.toNat) 17 with a | m
   ·simp only [az];omega
   ·have:=S8 m;omega
 | false=>
  have h:okS g d x s:=by simpa [okY] using h
  obtain ⟨b,f,A,o,w,y,z⟩:=h;have u:∀c∈d,bw c=true:=by
   intro c hc;rcases f c hc with h | h
   ·exact h
   ·exfalso;unfold hasX at j;rw [sN] at j;exact j c hc (bG.2 h)
  have a:=va d 0 0 u (by simp);rw [b] at a;refine ⟨0,s.toNat,by omega,by omega,u,by intro e;subst e;simp at b,by omega,?_,by omega⟩;have o:(10:Nat) ^ (4+0)=10000:=by decide
  unfold E16;simp only [Ar,rN];omega
def val (d:aa) (k:Nat):Nat:=dval 0 d*10 ^ k
theorem BK (n:Nat) (g l:Bool) (d:aa) (x s:Int) (e:200<n) (c:d.length<=100):
  eT n g l d x s=some (if okY g l d x s/\hasX d=false then (if g then -((val d x.toNat:Nat):Int) else ((val d x.toNat:Nat):Int),0) else (0,6)):=by
 unfold eT;rw [Ai n g l d x s e c,uo];simp only [ob];by_cases h:okY g l d x s
 ·rw [ae h];cases b:hasX d with
  | true=>rw [ab (by simp)];rfl
  | false=>
   rw [ae ⟨h,rfl⟩];obtain ⟨k,q,rfl,rfl,a⟩:=uy h b;rw [Lp n g l d k q a.dig a.ne (by have:=a.wide;omega) (by have:=a.wide;omega) (by omega),ae a.small];have hs:=a.small;unfold E16 at hs;cases g with
   | true=>
    simp only [dA,af,ah,cb,val,aJ];rw [wrap_i64 _ (by omega) (by omega),zO]
   | false=>simp [val]
 ·rw [ab h,ab (λq=>h q.1)];rfl
theorem ci {a b:aa} (h:a.length+b.length<=1000000):cat a b=some (a++b):=by
 unfold cat;rw [ae (by omega)]
theorem cut1 {l:aa} {i:Nat} {c:UInt8} (h:l[i]?=some c):List.drop i (List.take (i+1) l)=[c]:=by
 have a:=ub h;rw [pN,h,En (by rw [db];omega)];rfl
theorem S9 {l:aa} {i:Nat} {c:UInt8} (h:l[i]?=some c):List.take (i+1) l=List.take i l++[c]:=by
 rw [pN,h];rfl
theorem qY {g l:Bool} {d:aa} {x s:Int} (h:okY g l d x s) (a:hasX d=true):l=false/\x=0/\s=0/\d.length=4/\∀c∈d,bw c=true\/c=88:=by
 cases l with
 | true=>
  have h:okL d x s:=by simpa [okY] using h
  rw [Gq h.1.1] at a;cases a
 | false=>
  have h:okS g d x s:=by simpa [okY] using h
  obtain ⟨j,b,i,n,k,m,f⟩:=h;refine ⟨rfl,i,?_,j,b⟩;have:¬0<s:=λe=>f ⟨e,a⟩;omega
theorem kz {g l:Bool} {d:aa} {x s:Int} (h:okY g l d x s):0<=x/\x<=16/\0<=s/\s<=17/\1<=d.length/\d.length<=17:=by
 cases b:hasX d with
 | true=>
  obtain ⟨rfl,rfl,rfl,j,_⟩:=qY h b;omega
 | false=>
  obtain ⟨k,q,rfl,rfl,a⟩:=uy h b;have i:=a.wide;have e:=a.sig;have f:1<=d.length:=by
   cases d with
   | nil=>exact absurd rfl a.ne
   | cons c r=>simp
  omega
theorem NP {g l:Bool} {d:aa} {x s:Int} (h:okY g l d x s):vr d x s=true:=by
 obtain ⟨f,b,e,i,a,c⟩:=kz h;unfold vr;rw [am (by omega),di (by omega)];rfl
def numU (d:UInt8):aa->Nat⊕(Nat×Nat)
 | []=>.inr (d.toNat - 48,2)
 | e::_=>if bw e=true then .inr (10*(d.toNat - 48)+(e.toNat - 48),3) else .inr (d.toNat - 48,2)
def numT:aa->Nat⊕(Nat×Nat)
 | []=>.inl 1
 | d::r=>if 49<=d.toNat/\d.toNat<=57 then numU d r else .inl 1
def numS (letter:UInt8):aa->Nat⊕(Nat×Nat)
 | []=>.inr (0,0)
 | c::r=>if c=letter then numT r else .inr (0,0)
theorem vY (letter:UInt8):numS letter []=.inr (0,0):=rfl
theorem og (letter c:UInt8) (r:aa):numS letter (c::r)=if c=letter then numT r else .inr (0,0):=rfl
theorem AW:numT []=.inl 1:=rfl
theorem o6 (d:UInt8) (r:aa):numT (d::r)=if 49<=d.toNat/\d.toNat<=57 then numU d r else .inl 1:=rfl
theorem uC (d:UInt8):numU d []=.inr (d.toNat - 48,2):=rfl
theorem nN (d e:UInt8) (r:aa):numU d (e::r)=if bw e=true then .inr (10*(d.toNat - 48)+(e.toNat - 48),3) else .inr (d.toNat - 48,2):=rfl
theorem zh (c:UInt8) (h:c.toNat<128):(Utf8.encode ((c.toNat:Nat):Int)).data.toList=[c]:=by
 have:=iW (λc=>(decide (128<=c.toNat))||(Utf8.encode ((c.toNat:Nat):Int)).data.toList==[c]) (by decide +kernel) c;simp only [iY,ck,bG] at this;rcases this with a | a
 ·omega
 ·exact a
theorem rl {c:UInt8} (h:48<=c.toNat/\c.toNat<=57):Lib.digitVal c=some (c.toNat - 48):=by
 unfold Lib.digitVal;rw [ae h]
theorem zy {c:UInt8} (h:48<=c.toNat/\c.toNat<=57) (r:aa):Lib.atoi (c::r)=(Lib.decNat (c::r)).map λ(m:Nat)=>(m:Int):=by
 have b:(c==45)=false:=by
  rw [aL];rintro rfl;exact absurd h.1 (by decide)
 have a:(c==43)=false:=by
  rw [aL];rintro rfl;exact absurd h.1 (by decide)
 simp only [Lib.atoi,b,a,br,aB]
theorem Po {c:UInt8} (h:48<=c.toNat/\c.toNat<=57):Lib.atoi [c]=some ((c.toNat - 48:Nat):Int):=by
 rw [zy h];simp only [Lib.decNat,List.isEmpty_cons,br,aB,Lib.decFrom,rl h,fc,Ag,de]
theorem G3 {c e:UInt8} (h:48<=c.toNat/\c.toNat<=57) (a:48<=e.toNat/\e.toNat<=57):Lib.atoi [c,e]=some ((10*(c.toNat - 48)+(e.toNat - 48):Nat):Int):=by
 rw [zy h];simp only [Lib.decNat,List.isEmpty_cons,br,aB,Lib.decFrom,rl h,rl a,fc,Ag,de];rw [vf]
theorem zL (c:UInt8):hasB [49,50,51,52,53,54,55,56,57] c=decide (49<=c.toNat/\c.toNat<=57):=by
 have:=iW (λc=>hasB [49,50,51,52,53,54,55,56,57] c==decide (49<=c.toNat/\c.toNat<=57)) (by decide +kernel) c;simpa using this
theorem kG {p q:UInt8->Bool} (h:∀c,p c=q c):∀(k:Nat) (l:aa),bE p k l=bE q k l
 | 0,_=>by simp [bE]
 | _+1,[]=>by simp [bE]
 | k+1,c::l=>by simp only [bE,h c,kG h k l]
theorem od {S:aa} {a:Nat} {c:UInt8} {r:aa} (h:S.drop a=c::r):a<S.length/\S[a]?=some c/\S.drop (a+1)=r:=by
 have b:a<S.length:=by
  rcases aG a S.length with q | q
  ·exact q
  ·rw [jr q] at h;cases h
 have d:S[a]?=some S[a]:=be b;have e:=bS d;rw [h] at e;injection e with h1 h2;exact ⟨b,by rw [d,h1],h2.symm⟩
theorem J9 (n:Nat) (letter:UInt8) (S:aa) (a:Nat) (h:a<=S.length) (E:S.length<100000) (B:S.length<n):
  dk n [letter] S (a:Int)=some (match numS letter (S.drop a) with | .inl k=>.inr (((a+k:Nat):Int),5,S,((a+k:Nat):Int)) | .inr (v,k)=>.inl ((v:Int),S,((a+k:Nat):Int))):=by
 unfold dk;rw [ng n [letter] S a h (by omega)];cases z:S.drop a with
 | nil=>simp [vY]
 | cons c r=>
  obtain ⟨y,D,w⟩:=od z;rw [og];by_cases hc:c=letter
  ·have j:List.take [letter].length (c::r)=[letter]:=by simp [hc]
   have p:a+[letter].length=a+1:=rfl;rw [ae j,p,ae hc];clear j;simp only [ob,cv,af];rw [BL n _ S (a+1) (by omega) (by omega),w];cases r with
   | nil=>simp [AW]
   | cons d t=>
    obtain ⟨x,C,q⟩:=od w;rw [o6];simp only [zL,ck];by_cases b:49<=d.toNat/\d.toNat<=57
    ·rw [ae b,ae b];simp only [];rw [wk n _ 0 1 S (a+1+1) (by omega) (by omega) B,q];have F:=mw (hasB [48,49,50,51,52,53,54,55,56,57]) (1:Int).toNat t;rw [ab (by omega)];rw [kG wQ];simp only [];rw [zh d (by omega)];have g:Nat.ble ([d]:aa).length 18=true:=rfl;have s:∀e:UInt8,Nat.ble ([d,e]:aa).length 18=true:=λ_=>rfl;have m:a+1+1=a+2:=rfl;have A:a+2+1=a+3:=rfl;have u:=Po (show 48<=d.toNat/\d.toNat<=57 by omega);cases t with
     | nil=>
      have hs:bE bw (1:Int).toNat []=0:=rfl;rw [hs,uC];rw [ci (by simp)];simp only [List.take_nil,lw,cS,g,ah,u,opt,m]
     | cons e f=>
      by_cases i:bw e=true
      ·have hs:bE bw (1:Int).toNat (e::f)=1:=by
        show bE bw (0+1) (e::f)=1;simp [bE,i]
       have o:=G3 (show 48<=d.toNat/\d.toNat<=57 by omega) ((cr e).1 i);rw [hs,nN,ae i];have l:List.take 1 (e::f)=[e]:=rfl;rw [l,ci (by simp)];simp only [eU,dW,s,ah,o,opt,m,A]
      ·have hs:bE bw (1:Int).toNat (e::f)=0:=by
        show bE bw (0+1) (e::f)=0;simp [bE,i]
       rw [hs,nN,ab i];have l:List.take 0 (e::f)=[]:=rfl;rw [l,ci (by simp)];simp only [lw,g,ah,u,opt,cS,m]
    ·rw [ab b,ab b]
  ·have e:¬List.take [letter].length (c::r)=[letter]:=by simp [hc]
   rw [ab e,ab hc];simp
theorem MB (n:Nat) (letter:UInt8) (S:aa) (a:Nat) (h:a<=S.length) (I:S.length<100000):
  aj n S (a:Int) ((letter.toNat:Nat):Int)=some (match numS letter (S.drop a) with | .inl k=>(-1,((a+k:Nat):Int)) | .inr (v,k)=>((v:Int),((a+k:Nat):Int))):=by
 unfold aj;rw [ma];cases p:S.drop a with
 | nil=>
  have:S.length<=a:=by
   rcases aG a S.length with q | q
   ·rw [bS (be q)] at p;cases p
   ·exact q
  rw [am this];simp [vY]
 | cons c r=>
  obtain ⟨y,A,s⟩:=od p;have C:IntKind.wrap .i64 ((a:Int)+1)=((a+1:Nat):Int):=by rw [wrap_i64 _ (by omega) (by omega)];omega
  have F:IntKind.wrap .i64 (((a+1:Nat):Int)+1)=((a+2:Nat):Int):=by rw [wrap_i64 _ (by omega) (by omega)];omega
  have z:IntKind.wrap .i64 (((a+2:Nat):Int)+1)=((a+3:Nat):Int):=by rw [wrap_i64 _ (by omega) (by omega)];omega
  rw [aq (show ¬S.length<=a by omega),af,dI A];simp only [ob,C,F,z,ma,ja];have l:(((c.toNat:Nat):Int) != ((letter.toNat:Nat):Int))=!(c==letter):=by rw [bne,oa]
  rw [l,og];by_cases hc:c=letter
  ·have e:(!(c==letter))=false:=by rw [hc];simp
   rw [e,af,ae hc];cases r with
   | nil=>
    have:S.length<=a+1:=by
     rcases aG (a+1) S.length with q | q
     ·rw [bS (be q)] at s;cases s
     ·exact q
    rw [am this];rfl
   | cons d G=>
    obtain ⟨x,m,b⟩:=od s;rw [o6];rw [aq (show ¬S.length<=a+1 by omega),af,dI m];simp only [];by_cases J:d.toNat<49
    ·have j:decide (((d.toNat:Nat):Int)<49)=true:=am (by omega);rw [j,ah,ab (by omega)]
    ·have j:decide (((d.toNat:Nat):Int)<49)=false:=aq (by omega);rw [j,af];by_cases K:d.toNat>57
     ·have i:decide (((d.toNat:Nat):Int)>57)=true:=am (by omega);rw [i,ah,ab (by omega)]
     ·have i:decide (((d.toNat:Nat):Int)>57)=false:=aq (by omega);rw [i,af,ae (by omega)];have E:IntKind.wrap .i64 (IntKind.wrap .u8 (((d.toNat:Nat):Int) - 48))=((d.toNat - 48:Nat):Int):=by
       rw [kD _ (by omega) (by omega),wrap_i64 _ (by omega) (by omega)];omega
      rw [E];cases G with
      | nil=>
       have:¬a+2<S.length:=by
        intro q;rw [bS (be (show a+1+1<S.length from q))] at b;cases b
       rw [aq this,uC];rfl
      | cons e H=>
       obtain ⟨f,o,_⟩:=od b;rw [nN];rw [am (show a+2<S.length from f),ah,dI o];simp only [];by_cases u:e.toNat>=48
       ·have g:decide (((e.toNat:Nat):Int)>=48)=true:=am (by omega);rw [g,ah];by_cases w:e.toNat<=57
        ·have t:decide (((e.toNat:Nat):Int)<=57)=true:=am (by omega);have D:IntKind.wrap .i64 (IntKind.wrap .u8 (((e.toNat:Nat):Int) - 48))=((e.toNat - 48:Nat):Int):=by
          rw [kD _ (by omega) (by omega),wrap_i64 _ (by omega) (by omega)];omega
         have B:IntKind.wrap .i64 (10*((d.toNat - 48:Nat):Int))=((10*(d.toNat - 48):Nat):Int):=by rw [wrap_i64 _ (by omega) (by omega)];omega
         have ws:IntKind.wrap .i64 (((10*(d.toNat - 48):Nat):Int)+((e.toNat - 48:Nat):Int))=((10*(d.toNat - 48)+(e.toNat - 48):Nat):Int):=by rw [wrap_i64 _ (by omega) (by omega)];omega
         rw [t,ah,ae ((cr e).2 ⟨u,w⟩),D,B,ws]
        ·have t:decide (((e.toNat:Nat):Int)<=57)=false:=aq (by omega);rw [t,af,ab (λq=>w ((cr e).1 q).2)]
       ·have g:decide (((e.toNat:Nat):Int)>=48)=false:=aq (by omega);rw [g,af,ab (λq=>u ((cr e).1 q).1)]
  ·have e:(!(c==letter))=true:=by rw [aL.2 hc];rfl
   rw [e,ah,ab hc];rfl
def isDX (c:UInt8):Bool:=bw c||c==88
abbrev YR:=Bool×Bool×aa×Nat×Nat×Nat
def tZ (g:Bool) (o:Nat):aa->Nat⊕YR
 | []=>.inl o
 | c::r=>if 49<=c.toNat/\c.toNat<=57 then
   (match numS 69 ((c::r).drop (1+bE bw 16 r)) with
   | .inl j=>.inl (o+(1+bE bw 16 r)+j)
   | .inr (x,j)=>(match numS 83 ((c::r).drop (1+bE bw 16 r+j)) with
    | .inl i=>.inl (o+(1+bE bw 16 r)+j+i)
    | .inr (s,i)=>.inr (g,true,(c::r).take (1+bE bw 16 r),x,s,o+(1+bE bw 16 r)+j+i)))
  else .inl o
def vv (g:Bool) (o:Nat) (l:aa):Nat⊕YR:=
 if bE isDX 4 l<4 then .inl (o+bE isDX 4 l) else
  (match numS 83 (l.drop 4) with
  | .inl i=>.inl (o+4+i)
  | .inr (s,i)=>.inr (g,false,l.take 4,0,s,o+4+i))
def fw (c:UInt8) (l:aa):Nat:=if l.take 1=[c] then 1 else 0
def pT (l:aa):Nat⊕YR:=
 if fw 89 l=1 then tZ (fw 45 (l.drop 1)==1) (1+fw 45 (l.drop 1)) (l.drop (1+fw 45 (l.drop 1)))
 else vv (fw 45 l==1) (fw 45 l) (l.drop (fw 45 l))
theorem mc (c:UInt8) (l:aa):fw c l=0\/fw c l=1:=by
 unfold fw;split
 ·exact .inr rfl
 ·exact .inl rfl
theorem Af (c:UInt8) (l:aa):fw c l<=l.length:=by
 unfold fw;split
 ·rename_i h;cases l with
  | nil=>simp at h
  | cons a l=>simp
 ·omega
theorem uB (n:Nat) (c:UInt8) (S:aa) (a:Nat) (h:a<=S.length) (b:S.length<100000):
  aC n [c] S (a:Int)=some (fw c (S.drop a)==1,S,((a+fw c (S.drop a):Nat):Int)):=by
 rw [ng n [c] S a h (by omega)];unfold fw;have e:[c].length=1:=rfl;rw [e];split<;>rfl
def yX (S:aa) (a:Nat):Nat⊕YR->(Int×Int×aa×Int)⊕(Bool×Bool×aa×Int×Int×aa×Int)
 | .inl k=>.inl (((a+k:Nat):Int),5,S,((a+k:Nat):Int))
 | .inr (g,l,d,x,s,k)=>.inr (g,l,d,(x:Int),(s:Int),S,((a+k:Nat):Int))
def oQ (a:Nat):Nat⊕YR->Bool×Bool×aa×Int×Int×Int×Int
 | .inl k=>(false,false,[],0,0,((a+k:Nat):Int),5)
 | .inr (g,l,d,x,s,k)=>(g,l,d,(x:Int),(s:Int),((a+k:Nat):Int),0)
theorem TN (letter:UInt8) (l:aa):(match numS letter l with | .inl k=>k<=l.length | .inr (_,k)=>k<=l.length):=by
 cases l with
 | nil=>simp [vY]
 | cons c r=>
  rw [og];by_cases hc:c=letter
  ·rw [ae hc];cases r with
   | nil=>simp [AW]
   | cons d f=>
    rw [o6];by_cases a:49<=d.toNat/\d.toNat<=57
    ·rw [ae a];cases f with
     | nil=>simp [uC]
     | cons e g=>
      rw [nN];by_cases b:bw e=true
      ·rw [ae b];simp
      ·rw [ab b];simp
    ·rw [ab a];simp
  ·rw [ab hc];simp
theorem zT {letter:UInt8} {S:aa} {a:Nat} (h:a<=S.length) {v k:Nat} (b:numS letter (S.drop a)=.inr (v,k)):a+k<=S.length:=by
 have:=TN letter (S.drop a);rw [b,bL] at this;simp only at this;omega
theorem Rx (n:Nat) (S:aa) (a o:Nat) (g:Bool) (h:a+o<=S.length) (H:S.length<100000) (D:S.length<n):
  (ob (cu n [49,50,51,52,53,54,55,56,57] S ((a+o:Nat):Int)) λz=>(Sum.casesOn (motive:=λ_=>Option ((Int×Int×aa×Int)⊕(Bool×Bool×aa×Int×Int×aa×Int))) z (λf=>(some (.inl (f.1,f.2.1,f.2.2.1,f.2.2.2)))) (λq=>(ob (bZ n [48,49,50,51,52,53,54,55,56,57] 0 16 q.2.1 q.2.2) λA=>(Sum.casesOn (motive:=λ_=>Option _) A (λb=>(some (.inl (b.1,b.2.1,b.2.2.1,b.2.2.2)))) (λm=>(ob (cat (Utf8.encode q.1).data.toList m.1) λy=>(ob (dk n [69] m.2.1 m.2.2) λv=>(Sum.casesOn (motive:=λ_=>Option _) v (λt=>(ob (dk n [83] t.2.1 t.2.2) λB=>(Sum.casesOn (motive:=λ_=>Option _) B (λl=>(some (.inr (g,true,y,t.1,l.1,l.2.1,l.2.2)))) (λd=>(some (.inl (d.1,d.2.1,d.2.2.1,d.2.2.2))))))) (λe=>(some (.inl (e.1,e.2.1,e.2.2.1,e.2.2.2)))))))))))))=some (yX S a (tZ g o (S.drop (a+o)))):=by
 rw [BL n _ S (a+o) h (by omega)];cases F:S.drop (a+o) with
 | nil=>simp [tZ,yX,ob]
 | cons c r=>
  obtain ⟨N,R,J⟩:=od F;simp only [zL,ck];by_cases hc:49<=c.toNat/\c.toNat<=57
  ·rw [ae hc];simp only [ob];rw [wk n _ 0 16 S (a+o+1) (by omega) (by omega) D,J];rw [ab (by omega),kG wQ];simp only [];rw [zh c (by omega)];have G:(16:Int).toNat=16:=rfl;rw [G];have Q:=mw bw 16 r;have P:r.length+(a+o+1)=S.length:=by
    have:=bY List.length J;rw [bL] at this;omega
   rw [ci (by simp only [az,aX,db];omega)];simp only [tZ];rw [ae hc];generalize T:bE bw 16 r=k at Q ⊢;have K:[c]++List.take k r=List.take (1+k) (c::r):=by rw [qL];rfl
   rw [K];have w:a+o+1+k<=S.length:=by omega
   have u:List.drop (1+k) (c::r)=S.drop (a+o+1+k):=by
    rw [<-F,jp];congr 1;omega
   rw [J9 n 69 S (a+o+1+k) w H D,<-u];cases O:numS 69 (List.drop (1+k) (c::r)) with
   | inl j=>
    simp only [yX];have:a+o+1+k+j=a+(o+(1+k)+j):=by omega
    rw [this]
   | inr p=>
    obtain ⟨x,j⟩:=p;have I:=O;rw [u] at I;have E:=zT w I;have C:List.drop (1+k+j) (c::r)=S.drop (a+o+1+k+j):=by
     rw [<-F,jp];congr 1;omega
    simp only [];rw [J9 n 83 S (a+o+1+k+j) E H D,<-C];cases M:numS 83 (List.drop (1+k+j) (c::r)) with
    | inl i=>
     simp only [yX];have:a+o+1+k+j+i=a+(o+(1+k)+j+i):=by omega
     rw [this]
    | inr L=>
     obtain ⟨s,i⟩:=L;simp only [yX];have:a+o+1+k+j+i=a+(o+(1+k)+j+i):=by omega
     rw [this]
  ·rw [ab hc];simp only [ob,tZ];rw [ab hc];rfl
theorem Pv (n:Nat) (S:aa) (a o:Nat) (g:Bool) (h:a+o<=S.length) (x:S.length<100000) (v:S.length<n):
  (ob (bZ n [88,48,49,50,51,52,53,54,55,56,57] 4 4 S ((a+o:Nat):Int)) λq=>(Sum.casesOn (motive:=λ_=>Option ((Int×Int×aa×Int)⊕(Bool×Bool×aa×Int×Int×aa×Int))) q (λb=>(some (.inl (b.1,b.2.1,b.2.2.1,b.2.2.2)))) (λe=>(ob (dk n [83] e.2.1 e.2.2) λj=>(Sum.casesOn (motive:=λ_=>Option _) j (λf=>(some (.inr (g,false,e.1,0,f.1,f.2.1,f.2.2)))) (λd=>(some (.inl (d.1,d.2.1,d.2.2.1,d.2.2.2)))))))))=some (yX S a (vv g o (S.drop (a+o)))):=by
 rw [wk n _ 4 4 S (a+o) h (by omega) v];have r:∀c,hasB [88,48,49,50,51,52,53,54,55,56,57] c=isDX c:=uZ;have y:(4:Int).toNat=4:=rfl;rw [kG r,y];unfold vv;have u:=mw isDX 4 (S.drop (a+o));rw [bL] at u;by_cases m:bE isDX 4 (S.drop (a+o))<4
 ·rw [ae (by omega),ae m];simp only [ob,yX];rw [iO]
 ·rw [ab (by omega),ab m];have t:∀(k:Nat) (l:aa),bE isDX k l<=k:=by
   intro k
   induction k with
   | zero=>intro l;simp [bE]
   | succ k ih=>
    intro l;cases l with
    | nil=>simp [bE]
    | cons c l=>
     have:=ih l;simp only [bE];split<;>omega
  have w:bE isDX 4 (S.drop (a+o))=4:=by have:=t 4 (S.drop (a+o));omega
  rw [w] at u ⊢;simp only [ob];have hp:a+o+4<=S.length:=by omega
  rw [J9 n 83 S (a+o+4) hp x v,jp];cases z:numS 83 (S.drop (a+o+4)) with
  | inl i=>
   simp only [yX];have:a+o+4+i=a+(o+4+i):=by omega
   rw [this]
  | inr p=>
   obtain ⟨s,i⟩:=p;simp only [yX];have:a+o+4+i=a+(o+4+i):=by omega
   rw [this];rfl
theorem SV (n:Nat) (S:aa) (a:Nat) (h:a<=S.length) (d:S.length<100000) (f:S.length<n):
  mn n S (a:Int)=some (yX S a (pT (S.drop a))):=by
 unfold mn;rw [uB n 89 S a h d];have c:=Af 89 (S.drop a);rw [bL] at c;simp only [ob];rw [uB n 45 S (a+fw 89 (S.drop a)) (by omega) d];have b:=Af 45 (S.drop (a+fw 89 (S.drop a)));rw [bL] at b;simp only [];unfold pT;rcases mc 89 (S.drop a) with e | e
 ·rw [e] at b ⊢;simp only [cS,show ((0:Nat)==1)=false from rfl,af,show ¬((0:Nat)=1) from by decide,aB,jp] at b ⊢;have:=Pv n S a (fw 45 (S.drop a)) (fw 45 (S.drop a)==1) (by omega) d f;exact this
 ·rw [e] at b ⊢;simp only [show ((1:Nat)==1)=true from rfl,ah,aJ,jp] at b ⊢;have:=Rx n S a (1+fw 45 (S.drop (a+1))) (fw 45 (S.drop (a+1))==1) (by omega) d f;rw [<-iO] at this;rw [<-iO];exact this
abbrev stR (S:aa) (a b M:Int) (g L:Bool):aa×Int×Int×Int×Bool×Bool×aa×Int×Int×Bool×Bool×aa×Int×Int:=(S,a,b,M,false,false,[],0,0,g,L,[],0,0)
def isYB (L:Bool) (c:UInt8):Bool:=bw c||(c==88&&!L)
theorem NJ (n:Nat) (S:aa) (b M:Nat) (g:Bool) (j:0<M) (k:S.length<100000) (a:S[b]?=some 48):ar (ax (n+1)) (n+1) (stR S (b:Int) (b:Int) (M:Int) g true)=some (.inl ((b:Int),5,false,false,[],0,0)):=by
 have f:=ub a;have i:decide ((b:Int)<((S.length:Nat):Int))=true:=am (by omega);have h:IntKind.wrap .i64 ((b:Int) - (b:Int))=0:=by rw [Int.sub_self];rfl
 have d2:decide ((0:Int)<(M:Int))=true:=am (by omega);have e:decide ((((48:UInt8).toNat:Nat):Int)>=48)=true:=rfl;have c:decide ((((48:UInt8).toNat:Nat):Int)<=57)=true:=rfl;have d:((((48:UInt8).toNat:Nat):Int)==48)=true:=rfl;simp only [ar,ax,i,ah,h,d2,dI a,ob,e,c,d,rF]
theorem Ao (n:Nat) (S:aa) (b M:Nat) (g L:Bool) (K:b<=S.length) (O:S.length<100000) (R:S.length<n) (v:¬(L=true/\S[b]?=some 48)):
  ar (ax n) n (stR S (b:Int) (b:Int) (M:Int) g L)=some (.inr (S,((b+bE (isYB L) M (S.drop b):Nat):Int),(b:Int),false,false,[],0,0,g,L,[],0,0)):=by
 have:=fO (step:=ax n) (λx=>∃j:Nat,b+j<=S.length/\x=stR S ((b+j:Nat):Int) (b:Int) (M:Int) g L) (λx=>S.length - x.2.1.toNat)
  (λx=>.inr (S,((x.2.1.toNat+bE (isYB L) (M - (x.2.1.toNat - b)) (S.drop x.2.1.toNat):Nat):Int),(b:Int),false,false,[],0,0,g,L,[],0,0)) ?_ n (stR S (b:Int) (b:Int) (M:Int) g L) ⟨0,by omega,rfl⟩ (by simp;omega)
 ·rw [this];simp
 rintro x ⟨j,Q,rfl⟩;simp only [cb];rcases aG (b+j) S.length with u | A
 ·obtain ⟨c,hc⟩:∃c,S[b+j]?=some c:=⟨S[b+j],be u⟩;have f:decide (((b+j:Nat):Int)<((S.length:Nat):Int))=true:=am (by omega);have l:IntKind.wrap .i64 (((b+j:Nat):Int) - (b:Int))=(j:Int):=by rw [wrap_i64 _ (by omega) (by omega)];omega
  have B:IntKind.wrap .i64 (((b+j:Nat):Int)+1)=((b+(j+1):Nat):Int):=by rw [wrap_i64 _ (by omega) (by omega)];omega
  have p:b+j - b=j:=by omega
  rw [bS hc,p];by_cases N:j<M
  ·have d2:decide ((j:Int)<(M:Int))=true:=am (by omega);obtain ⟨q,H⟩:∃q,M - j=q+1:=⟨M - j - 1,by omega⟩;have t:M - (j+1)=q:=by omega
   rw [H];simp only [bE];have E:isYB L c=true->ax n (stR S ((b+j:Nat):Int) (b:Int) (M:Int) g L)=some (.inl (stR S ((b+(j+1):Nat):Int) (b:Int) (M:Int) g L)):=by
    intro hy;by_cases r:bw c=true
    ·have C:=(cr c).1 r;have d:decide (((c.toNat:Nat):Int)>=48)=true:=am (by omega);have i:decide (((c.toNat:Nat):Int)<=57)=true:=am (by omega);simp only [ax,f,ah,l,d2,dI hc,ob,d,i,B];cases L with
     | false=>rfl
     | true=>
      by_cases w:j=0
      ·subst w;have o:c≠48:=by
        intro e;exact v ⟨rfl,by rw [<-e];exact hc⟩
       have s:(((c.toNat:Nat):Int)==48)=false:=by rw [TO];exact aL.2 o
       simp only [cS,rF,ah,s,af]
      ·have J:(((b+j:Nat):Int)==(b:Int))=false:=aL.2 (by omega);simp only [J,af,ah]
    ·have a:bw c=false:=by cases h:bw c with | false=>rfl | true=>exact absurd h r
     unfold isYB at hy;rw [a] at hy;simp only [pG,aA,bG,ly] at hy;obtain ⟨rfl,rfl⟩:=hy;have d:decide ((((88:UInt8).toNat:Nat):Int)>=48)=true:=rfl;have i:decide ((((88:UInt8).toNat:Nat):Int)<=57)=false:=rfl;have s:((((88:UInt8).toNat:Nat):Int)==88)=true:=rfl;simp only [ax,f,ah,l,d2,dI hc,ob,d,i,s,B,af,ij]
   have m:isYB L c=false->ax n (stR S ((b+j:Nat):Int) (b:Int) (M:Int) g L)=some (.inr (.inr (S,((b+j:Nat):Int),(b:Int),false,false,[],0,0,g,L,[],0,0))):=by
    intro hy;unfold isYB at hy;simp only [pw,EA] at hy;obtain ⟨a,z⟩:=hy;have D:¬(48<=c.toNat/\c.toNat<=57):=λq=>by rw [(cr c).2 q] at a;cases a
    have k:(((c.toNat:Nat):Int)==88)=(c==88):=oa c 88;have I:(cond (c==88) (cond (!L) (0:Nat) 1) 1)=1:=by
     rcases z with h | h
     ·rw [h];rfl
     ·have:L=true:=by simpa using h
      rw [this];cases c==88<;>rfl
    by_cases P:c.toNat>=48
    ·have d:decide (((c.toNat:Nat):Int)>=48)=true:=am (by omega);have i:decide (((c.toNat:Nat):Int)<=57)=false:=aq (by omega);simp only [ax,f,ah,l,d2,dI hc,ob,d,i,af,k];rcases z with h | h
     ·rw [h];rfl
     ·have:L=true:=by simpa using h
      rw [this];cases c==88<;>rfl
    ·have d:decide (((c.toNat:Nat):Int)>=48)=false:=aq (by omega);simp only [ax,f,ah,l,d2,dI hc,ob,d,af,k];rcases z with h | h
     ·rw [h];rfl
     ·have:L=true:=by simpa using h
      rw [this];cases c==88<;>rfl
   cases hy:isYB L c with
   | true=>
    refine .inl ⟨_,E hy,⟨j+1,by omega,rfl⟩,by simp only [cb];omega,?_⟩;simp only [cb,aJ];have F:b+(j+1) - b=j+1:=by omega
    rw [F,t,show b+(j+1)=b+j+1 by omega];have G:b+j+1+bE (isYB L) q (S.drop (b+j+1))=b+j+(bE (isYB L) q (S.drop (b+j+1))+1):=by omega
    rw [G]
   | false=>
    refine .inr ?_;rw [m hy];simp
  ·have d2:decide ((j:Int)<(M:Int))=false:=aq (by omega);have y:M - j=0:=by omega
   refine .inr ?_;rw [y];simp only [ax,f,ah,l,d2,af,bE,cS]
 ·have f:decide (((b+j:Nat):Int)<((S.length:Nat):Int))=false:=aq (by omega);refine .inr ?_;rw [jr A];have y:∀q,bE (isYB L) q []=0:=λq=>by cases q<;>rfl
  simp only [ax,f,af,y,cS]
theorem LM (n:Nat) (S:aa) (a:Nat) (h:a<=S.length) (b:S.length<100000):
  aj n S (a:Int) 69=some (match numS 69 (S.drop a) with | .inl k=>(-1,((a+k:Nat):Int)) | .inr (v,k)=>((v:Int),((a+k:Nat):Int))):=MB n 69 S a h b
theorem DK (n:Nat) (S:aa) (a:Nat) (h:a<=S.length) (b:S.length<100000):
  aj n S (a:Int) 83=some (match numS 83 (S.drop a) with | .inl k=>(-1,((a+k:Nat):Int)) | .inr (v,k)=>((v:Int),((a+k:Nat):Int))):=MB n 83 S a h b
noncomputable def Lx (n:Nat) (a0:aa) (B M:Int) (g L:Bool):Option (Bool×Bool×aa×Int×Int×Int×Int):=
 (ob (ar (ax n) n (a0,B,B,M,false,false,[],0,0,g,L,[],0,0)) λo=>(Sum.casesOn (motive:=λ_=>Option (Bool×Bool×aa×Int×Int×Int×Int)) o (λb=>(some (b.2.2.1,b.2.2.2.1,b.2.2.2.2.1,b.2.2.2.2.2.1,b.2.2.2.2.2.2,b.1,b.2.1))) (λa=>(cond (decide ((IntKind.wrap .i64 (a.2.1 - a.2.2.1))<1)) (some (false,false,[],0,0,a.2.1,5)) (cond (!a.2.2.2.2.2.2.2.2.2.1) (cond (decide ((IntKind.wrap .i64 (a.2.1 - a.2.2.1))<4)) (some (false,false,[],0,0,a.2.1,5)) (ob (bx (List.length a.1) a.2.1) λj=>(ob (bx j a.2.2.1) λl=>(cond a.2.2.2.2.2.2.2.2.2.1 (ob (aj n a.1 a.2.1 69) λc=>(cond (decide (c.1<0)) (some (false,false,[],0,0,c.2,5)) (ob (aj n a.1 c.2 83) λh=>(cond (decide (h.1<0)) (some (false,false,[],0,0,h.2,5)) (some (a.2.2.2.2.2.2.2.2.1,a.2.2.2.2.2.2.2.2.2.1,(List.drop l (List.take j a.1)),c.1,h.1,h.2,0)))))) (ob (aj n a.1 a.2.1 83) λi=>(cond (decide (i.1<0)) (some (false,false,[],0,0,i.2,5)) (some (a.2.2.2.2.2.2.2.2.1,a.2.2.2.2.2.2.2.2.2.1,(List.drop l (List.take j a.1)),a.2.2.2.2.2.2.2.2.2.2.2.1,i.1,i.2,0)))))))) (ob (bx (List.length a.1) a.2.1) λk=>(ob (bx k a.2.2.1) λm=>(cond a.2.2.2.2.2.2.2.2.2.1 (ob (aj n a.1 a.2.1 69) λe=>(cond (decide (e.1<0)) (some (false,false,[],0,0,e.2,5)) (ob (aj n a.1 e.2 83) λd=>(cond (decide (d.1<0)) (some (false,false,[],0,0,d.2,5)) (some (a.2.2.2.2.2.2.2.2.1,a.2.2.2.2.2.2.2.2.2.1,(List.drop m (List.take k a.1)),e.1,d.1,d.2,0)))))) (ob (aj n a.1 a.2.1 83) λf=>(cond (decide (f.1<0)) (some (false,false,[],0,0,f.2,5)) (some (a.2.2.2.2.2.2.2.2.1,a.2.2.2.2.2.2.2.2.2.1,(List.drop m (List.take k a.1)),a.2.2.2.2.2.2.2.2.2.2.2.1,f.1,f.2,0))))))))))))
theorem KH (c:UInt8):isYB true c=bw c:=by unfold isYB;cases bw c<;>simp
theorem IZ (c:UInt8):isYB false c=isDX c:=by unfold isYB isDX;simp
theorem qQ (p:UInt8->Bool):∀(k:Nat) (l:aa),bE p k l<=k
 | 0,l=>by simp [bE]
 | k+1,[]=>by simp [bE]
 | k+1,c::l=>by
  have:=qQ p k l;simp only [bE];split<;>omega
theorem EX:decide ((-1:Int)<0)=true:=rfl
theorem EE (x:Nat):decide (((x:Nat):Int)<0)=false:=aq (by omega)
theorem MR (n:Nat) (S:aa) (a o:Nat) (g:Bool) (h:a+o<=S.length) (z:S.length<100000) (I:S.length<n):
  Lx n S ((a+o:Nat):Int) 17 g true=some (oQ a (tZ g o (S.drop (a+o)))):=by
 unfold Lx;cases d:S.drop (a+o) with
 | nil=>
  have t:¬(true=true/\S[a+o]?=some 48):=by
   rintro ⟨_,q⟩;rw [bS q] at d;cases d
  have l:=Ao n S (a+o) 17 g true h z I t;rw [d] at l;have P:bE (isYB true) 17 []=0:=rfl;rw [P,cS] at l;have hl':ar (ax n) n (S,((a+o:Nat):Int),((a+o:Nat):Int),(17:Int),false,false,[],0,0,g,true,[],0,0)=_:=l;rw [hl'];have w:IntKind.wrap .i64 (((a+o:Nat):Int) - ((a+o:Nat):Int))=0:=by rw [Int.sub_self];rfl
  simp only [ob,w,tZ,oQ];rfl
 | cons c r=>
  obtain ⟨M,E,R⟩:=od d;by_cases hc:c=48
  ·subst hc;obtain ⟨C,rfl⟩:∃q,n=q+1:=⟨n - 1,by omega⟩;have l:=NJ C S (a+o) 17 g (by omega) z E;have hl':ar (ax (C+1)) (C+1) (S,((a+o:Nat):Int),((a+o:Nat):Int),(17:Int),false,false,[],0,0,g,true,[],0,0)=_:=l;rw [hl'];have u:¬(49<=(48:UInt8).toNat/\(48:UInt8).toNat<=57):=by decide
   simp only [ob,tZ,oQ];rw [ab u]
  ·have u:¬(true=true/\S[a+o]?=some 48):=by
    rintro ⟨_,q⟩;rw [E] at q;exact hc (by simpa using q)
   have l:=Ao n S (a+o) 17 g true h z I u;rw [d,kG KH] at l;have G:=mw bw 17 (c::r);have O:(c::r).length+(a+o)=S.length:=by
    have:=bY List.length d;rw [bL] at this;omega
   have hl':ar (ax n) n (S,((a+o:Nat):Int),((a+o:Nat):Int),(17:Int),false,false,[],0,0,g,true,[],0,0)=_:=l;rw [hl'];have w:∀k:Nat,k<=17->IntKind.wrap .i64 (((a+o+k:Nat):Int) - ((a+o:Nat):Int))=(k:Int):=by
    intro k H;rw [wrap_i64 _ (by omega) (by omega)];omega
   by_cases f:bw c=true
   ·have J:=(cr c).1 f;have m:49<=c.toNat/\c.toNat<=57:=by
     have:c.toNat≠48:=λe=>hc (gy.1 e);omega
    have b:bE bw 17 (c::r)=1+bE bw 16 r:=by
     show bE bw (16+1) (c::r)=_;simp only [bE,f,aJ];omega
    rw [b] at G ⊢;have B:=qQ bw 16 r;simp only [tZ];rw [ae m];generalize bE bw 16 r=k at G B ⊢;have N:decide (((1+k:Nat):Int)<1)=false:=aq (by omega);simp only [ob,w (1+k) (by omega),N,af,cv,ah,ef (show a+o+(1+k)<=S.length by omega),ef (show a+o<=a+o+(1+k) by omega)];have A:a+o+(1+k)<=S.length:=by omega
    have v:S.drop (a+o+(1+k))=List.drop (1+k) (c::r):=by rw [<-d,jp]
    rw [LM n S (a+o+(1+k)) A z,v,nu,d];cases Q:numS 69 (List.drop (1+k) (c::r)) with
    | inl j=>
     simp only [EX,ah,oQ];have:a+o+(1+k)+j=a+(o+(1+k)+j):=by omega
     rw [this]
    | inr p=>
     obtain ⟨x,j⟩:=p;have F:=Q;rw [<-v] at F;have D:=zT A F;have y:S.drop (a+o+(1+k)+j)=List.drop (1+k+j) (c::r):=by rw [<-d,jp];congr 1;omega
     simp only [EE,af];rw [DK n S (a+o+(1+k)+j) D z,y];cases L:numS 83 (List.drop (1+k+j) (c::r)) with
     | inl i=>
      simp only [EX,ah,oQ];have:a+o+(1+k)+j+i=a+(o+(1+k)+j+i):=by omega
      rw [this]
     | inr K=>
      obtain ⟨s,i⟩:=K;simp only [EE,af,oQ];have:a+o+(1+k)+j+i=a+(o+(1+k)+j+i):=by omega
      rw [this]
   ·have b:bE bw 17 (c::r)=0:=by
     show bE bw (16+1) (c::r)=0;simp only [bE];rw [ab f]
    have m:¬(49<=c.toNat/\c.toNat<=57):=λq=>f ((cr c).2 (by omega));rw [b];simp only [tZ];rw [ab m];simp only [ob,w 0 (by omega),oQ];rfl
theorem I4 (n:Nat) (S:aa) (a o:Nat) (g:Bool) (h:a+o<=S.length) (l:S.length<100000) (r:S.length<n):
  Lx n S ((a+o:Nat):Int) 4 g false=some (oQ a (vv g o (S.drop (a+o)))):=by
 unfold Lx;have j:=Ao n S (a+o) 4 g false h l r (by rintro ⟨q,_⟩;cases q);rw [kG IZ] at j;have f:=mw isDX 4 (S.drop (a+o));have b:=qQ isDX 4 (S.drop (a+o));rw [bL] at f;have hl':ar (ax n) n (S,((a+o:Nat):Int),((a+o:Nat):Int),(4:Int),false,false,[],0,0,g,false,[],0,0)=_:=j;rw [hl'];unfold vv;generalize t:bE isDX 4 (S.drop (a+o))=k at f b ⊢;have w:IntKind.wrap .i64 (((a+o+k:Nat):Int) - ((a+o:Nat):Int))=(k:Int):=by rw [wrap_i64 _ (by omega) (by omega)];omega
 simp only [ob,w,ij,ah,af];by_cases m:k<4
 ·rw [ae m];have d:decide ((k:Int)<4)=true:=am (by omega);rw [d];have c:a+o+k=a+(o+k):=by omega
  simp only [ah,oQ,c];cases decide ((k:Int)<1)<;>rfl
 ·rw [ab m];have e:k=4:=by omega
  subst e;have d:decide (((4:Nat):Int)<4)=false:=rfl;have c:decide (((4:Nat):Int)<1)=false:=rfl;have hp:a+o+4<=S.length:=by omega
  simp only [d,c,af,ef hp,ef (show a+o<=a+o+4 by omega)];rw [DK n S (a+o+4) hp l,nu,jp];cases u:numS 83 (S.drop (a+o+4)) with
  | inl i=>
   simp only [EX,ah,oQ];have:a+o+4+i=a+(o+4+i):=by omega
   rw [this]
  | inr p=>
   obtain ⟨s,i⟩:=p;simp only [EE,af,oQ];have:a+o+4+i=a+(o+4+i):=by omega
   rw [this];rfl
theorem kN (c a:UInt8) (l:aa):fw c (a::l)=if a=c then 1 else 0:=by
 unfold fw;simp
theorem xQ (c:UInt8):fw c []=0:=by unfold fw;simp
theorem O1 (n:Nat) (S:aa) (a:Nat) (h:a<=S.length) (E:S.length<100000) (F:S.length<n):
  lj n S (a:Int)=some (oQ a (pT (S.drop a))):=by
 have B:=λo g q=>MR n S a o g q E F;have y:=λo g q=>I4 n S a o g q E F;unfold Lx at B y;have H:IntKind.wrap .i64 ((a:Int)+1)=((a+1:Nat):Int):=by rw [wrap_i64 _ (by omega) (by omega)];omega
 have I:IntKind.wrap .i64 (((a+1:Nat):Int)+1)=((a+2:Nat):Int):=by rw [wrap_i64 _ (by omega) (by omega)];omega
 unfold lj pT;rw [H,I];have w:=y 0 false (by omega);simp only [cS] at w;cases s:S.drop a with
 | nil=>
  have k:¬a<S.length:=by
   intro q;rw [bS (be q)] at s;cases s
  rw [ja,aq k,af,af,w,s];rfl
 | cons c r=>
  obtain ⟨z,G,i⟩:=od s;have t:(((c.toNat:Nat):Int)==89)=(c==89):=oa c 89;have p:(((c.toNat:Nat):Int)==45)=(c==45):=oa c 45;rw [ja,am z,ah,dI G];simp only [ob];rw [t,p,kN];by_cases f:c=89
  ·have e:(c==89)=true:=bG.2 f;rw [e,ah,ae f,ae rfl,ja];have C:List.drop 1 (c::r)=r:=rfl;rw [C];have x:=B 1 false (by omega);cases v:r with
   | nil=>
    rw [v] at i;have k:¬a+1<S.length:=by
     intro q;rw [bS (be q)] at i;cases i
    simp only [ob] at x;rw [aq k,af,x,i,xQ];rfl
   | cons d J=>
    rw [v] at i;obtain ⟨m,D,A⟩:=od i;have u:(((d.toNat:Nat):Int)==45)=(d==45):=oa d 45;rw [am m,ah,dI D];simp only [];rw [u,kN];by_cases b:d=45
    ·have j:(d==45)=true:=bG.2 b;have l:=B 2 true (by omega);simp only [ob] at l;rw [j,ah,ae b,l];rw [show a+2=a+1+1 from rfl,A];rfl
    ·have j:(d==45)=false:=aL.2 b;simp only [ob] at x;rw [j,af,ab b,x,i];rfl
  ·have e:(c==89)=false:=aL.2 f;rw [e,af,ab f,ab (by decide),kN];by_cases b:c=45
   ·have j:(c==45)=true:=bG.2 b;have l:=y 1 true (by omega);simp only [ob] at l;rw [j,ae b];simp only [ah];rw [l,i];rfl
   ·have j:(c==45)=false:=aL.2 b;simp only [ob] at w;rw [j,ab b];simp only [af];rw [w,s];rfl
def wint (c:Int):Bool:=c==24||c==28||c==30
def uS (g:Bool) (d:aa) (x:Int):Bool:=!hasX d&&!g&&decide (val d x.toNat=E16)
def yrB (g:Bool) (d:aa) (x s:Int) (m:aa):Bool:=!(decide (0<s)&&!(m==[]))&&!(wint (sea m)&&uS g d x)
theorem DC (n:Nat) (t:200<n) (g l:Bool) (dg:aa) (x q:Int) (m d:aa) (k0 k1 k2:Int) (B:m.length<=18) (s:dg.length<=100):
  fM n g l dg x q m d k0 k1 k2=some (if okY g l dg x q then yrB g dg x q m else false):=by
 unfold fM;rw [Ai n g l dg x q t s,qW n g l dg x q m d k0 k1 k2 B,uo,BK n g l dg x q t s];by_cases h:okY g l dg x q
 rotate_left
 ·rw [ab h,ab h];rfl
 rw [ae h,ae h];have body:(ob (some (sea m,decide (0<sea m))) λr=>(cond (!r.2) (some true) (ob (some (hasX dg)) λv=>(cond v (some true) (ob (some (if okY g l dg x q/\hasX dg=false then (if g then -((val dg x.toNat:Nat):Int) else ((val dg x.toNat:Nat):Int),(0:Int)) else (0,6))) λy=>(ob (iD n y.1 r.1) λw=>(some (w.2.2.2.2==0))))))))=some (!(wint (sea m)&&uS g dg x)):=by
  rcases pB m with F | ⟨j,p,rfl⟩
  ·rw [F];rfl
  ·have hs:=lU p;rw [hs];have hp:decide (0<((21+j:Nat):Int))=true:=by simp;omega
   rw [hp];cases o:hasX dg with
   | true=>
    have:uS g dg x=false:=by unfold uS;rw [o];rfl
    rw [this,yH];rfl
   | false=>
    rw [ae ⟨h,rfl⟩];obtain ⟨k,G,rfl,rfl,C⟩:=uy h o;have A:val dg k<=E16:=C.small;unfold E16 at A;have hc:dZ (if g then -((val dg k:Nat):Int) else ((val dg k:Nat):Int)):=by
     unfold dZ;cases g<;>simp<;>omega
    obtain ⟨a,b,c,e,D⟩:=Xe n (by omega) hc p;simp only [ob,cv,af,cb];rw [D];simp only [au];have u:wint ((21+j:Nat):Int)=decide (j=3\/j=7\/j=9):=by
     unfold wint;rw [tN];simp only [iY,bG,ck];omega
    have E:uS g dg (k:Int)=decide ((if g then -((val dg k:Nat):Int) else ((val dg k:Nat):Int))=10000000000000000):=by
     unfold uS E16;rw [o,cb];cases g
     ·simp only [ij,nW,br,aB,nY];omega
     ·simp;omega
    rw [u,E];by_cases f:(if g then -((val dg k:Nat):Int) else ((val dg k:Nat):Int))=10000000000000000<;>by_cases i:j=3\/j=7\/j=9
    ·rw [ae ⟨f,i⟩,am f,am i];rfl
    ·rw [ab (λz=>i z.2),aq i];rfl
    ·rw [ab (λz=>f z.1),aq f,yH];rfl
    ·rw [ab (λz=>f z.1),aq f,yH];rfl
 show cond (decide (q>0)) (cond (!(m==[])) (some false) _) _=_;unfold yrB;rw [show (decide (q>0))=decide (0<q) from rfl];cases decide (0<q) with
 | false=>exact body
 | true=>
  cases (m==[]) with
  | false=>rfl
  | true=>exact body
theorem On (n:Nat) (j:200<n) (g l:Bool) (dg:aa) (x q:Int) (m d:aa) (k0 k1 k2:Int) (i:dg.length<=100):
  jA n g l dg x q m d k0 k1 k2=some (if okY g l dg x q/\yrB g dg x q m=true then 1 else 0):=by
 unfold jA;rw [NV n g l dg x q j i,oU n (by omega) g l dg x q m d k0 k1 k2,oS n g l dg x q (by omega) (by omega)];by_cases h:okY g l dg x q
 rotate_left
 ·rw [ab h,ab (show ¬(okY g l dg x q/\yrB g dg x q m=true) from λz=>h z.1)];rfl
 rw [ae h];have T:(ob (some (if hasX dg then (1:Int) else 0)) λr=>(cond (r==1) (some (1:Int)) (ob (ak n dg x) λv=>(cond (v.1==10000000000000000) (cond (!g) (some 0) (some 1)) (some 1)))))=some (if uS g dg x then 0 else 1):=by
  cases a:hasX dg with
  | true=>
   have:uS g dg x=false:=by unfold uS;rw [a];rfl
   rw [this];rfl
  | false=>
   obtain ⟨k,p,rfl,rfl,b⟩:=uy h a;have f:=b.small;have o:=b.wide;have c:=jD n dg k b.dig (by omega) (by omega) (by omega);rw [ae f] at c;show ob (ak n dg (k:Int)) _=_;rw [c];show cond (((dval 0 dg*10 ^ k:Nat):Int)==10000000000000000) _ _=_;unfold uS val;rw [a,cb];have e:(((dval 0 dg*10 ^ k:Nat):Int)==10000000000000000)=decide (dval 0 dg*10 ^ k=E16):=by
    generalize dval 0 dg*10 ^ k=v;unfold E16;rw [tN];simp only [bG,ck];omega
   rw [e];cases decide (dval 0 dg*10 ^ k=E16)<;>cases g<;>rfl
 have body:(ob (some (sea m)) λr=>(cond (r != 24) (cond (r != 28) (cond (r != 30) (some (1:Int)) (ob (some (if hasX dg then (1:Int) else 0)) λr=>(cond (r==1) (some (1:Int)) (ob (ak n dg x) λv=>(cond (v.1==10000000000000000) (cond (!g) (some 0) (some 1)) (some 1)))))) (ob (some (if hasX dg then (1:Int) else 0)) λr=>(cond (r==1) (some (1:Int)) (ob (ak n dg x) λv=>(cond (v.1==10000000000000000) (cond (!g) (some 0) (some 1)) (some 1)))))) (ob (some (if hasX dg then (1:Int) else 0)) λr=>(cond (r==1) (some (1:Int)) (ob (ak n dg x) λv=>(cond (v.1==10000000000000000) (cond (!g) (some 0) (some 1)) (some 1)))))))=some (if (!(wint (sea m)&&uS g dg x))=true then 1 else 0):=by
  rw [T];show cond (sea m != 24) _ _=_;unfold wint;simp only [bne];cases (sea m==24)<;>cases (sea m==28)<;>cases (sea m==30)<;>cases uS g dg x<;>rfl
 unfold yrB;show cond (decide (q>0)) (cond (!(m==[])) (some 0) _) _=_;rw [show (decide (q>0))=decide (0<q) from rfl];simp only [h,jT];cases decide (0<q) with
 | false=>exact body
 | true=>
  cases (m==[]) with
  | false=>rfl
  | true=>exact body
def dj (m d:aa):Nat:=1+(if m==[] then 0 else 1)+(if d==[] then 0 else 1)
theorem uj (n:Nat) (e:100<n) (g l:Bool) (dg:aa) (x q:Int) (m d:aa) (k0 k1 k2:Int):bC n g l dg x q m d k0 k1 k2=some ((dj m d:Nat):Int):=by
 obtain ⟨n,rfl⟩:∃j,n=j+3:=⟨n - 3,by omega⟩;unfold bC dj;have s0:∀a:Int,bW (n+3) (a,m,d,0)=some (.inl (if m==[] then a else IntKind.wrap .i64 (a+1),m,d,1)):=λa=>by
  unfold bW;show cond (!(m==[])) _ _=_;cases (m==[])<;>rfl
 have b:∀a:Int,bW (n+3) (a,m,d,1)=some (.inl (if d==[] then a else IntKind.wrap .i64 (a+1),m,d,2)):=λa=>by
  unfold bW;show cond (!(d==[])) _ _=_;cases (d==[])<;>rfl
 have c:∀a:Int,bW (n+3) (a,m,d,2)=some (.inr a):=λa=>rfl;rw [ar,s0];show ob (ar _ (n+2) _) _=_;rw [ar,b];show ob (ar _ (n+1) _) _=_;rw [ar,c];cases (m==[])<;>cases (d==[])<;>rfl
theorem oK (n:Nat) (g l:Bool) (dg:aa) (x q:Int) (m d:aa) (k0 k1 k2:Int):aF n g l dg x q m d k0 k1 k2=some ((dj m d:Nat):Int):=by
 unfold aF dj;cases (m==[])<;>cases (d==[])<;>rfl
def allM (a b c:Int) (k:Nat):Int:=if 3<a\/3<b\/3<c\/(k<2/\b≠0)\/(k<3/\c≠0) then 9 else 0
theorem G9 (n:Nat) (w:3<n) (a b c:Int) (k:Nat) (u:1<=k/\k<=3) (v:0<=a) (t:0<=b) (hc:0<=c):
  dJ n [a,b,c] (k:Int)=some (allM a b c k)/\bR n [a,b,c] (k:Int)=some (allM a b c k):=by
 obtain ⟨j,rfl⟩:∃j,n=j+4:=⟨n - 4,by omega⟩;have l:IntKind.wrap .i64 1=1:=rfl;have f:IntKind.wrap .i64 2=2:=rfl;have h:IntKind.wrap .i64 3=3:=rfl;have g:ix 3 0=some 0:=rfl;have e:ix 3 1=some 1:=rfl;have m:ix 3 2=some 2:=rfl;have hk':k=1\/k=2\/k=3:=by omega
 unfold allM;by_cases i:a>3
 ·rcases hk' with rfl | rfl | rfl<;>constructor<;>simp [bR,dJ,ar,dC,iq,iC,ob,l,f,h,g,e,m,i]
 by_cases p:b>3
 ·rcases hk' with rfl | rfl | rfl<;>constructor<;>simp [bR,dJ,ar,dC,iq,iC,ob,l,f,h,g,e,m,i,p]
 by_cases d:k=1/\b≠0
 ·obtain ⟨rfl,d⟩:=d;have s:b>0:=by omega
  have q:(b != 0)=true:=by simp [d]
  constructor<;>simp [bR,dJ,ar,dC,iq,iC,ob,l,f,h,g,e,m,i,p,s,d,q]
 by_cases r:c>3
 ·rcases hk' with rfl | rfl | rfl<;>(try (simp at d;subst d))<;>constructor<;>simp [bR,dJ,ar,dC,iq,iC,ob,l,f,h,g,e,m,i,p,r]
 by_cases o:k<3/\c≠0
 ·have s:c>0:=by omega
  have q:(c != 0)=true:=by simp [o.2]
  rcases hk' with rfl | rfl | rfl<;>(try (simp at d;subst d))<;>simp at o<;>constructor<;>simp [bR,dJ,ar,dC,iq,iC,ob,l,f,h,g,e,m,i,p,r,s,o,q]
 rcases hk' with rfl | rfl | rfl<;>(try (simp at d;subst d))<;>(try (simp at o;subst o))<;>constructor<;>simp [bR,dJ,ar,dC,iq,iC,ob,l,f,h,g,e,m,i,p,r]
theorem oW (m d:aa):1<=dj m d/\dj m d<=3:=by
 unfold dj;cases (m==[])<;>cases (d==[])<;>simp
def yrD (g l:Bool) (dg:aa) (x q:Int) (m:aa):Bool:=if okY g l dg x q then yrB g dg x q m else false
def chkD (g l:Bool) (dg:aa) (x q:Int) (m d:aa) (k0 k1 k2:Int):Int:=
 cond (!(yrD g l dg x q m)) 6 (cond (!(m==[])&&(!(decide (0<sea m))&&!(ir m 12))) 7
  (cond (!(d==[])&&((m==[])||(decide (0<sea m)||!(ir d 31)))) 8 (allM k0 k1 k2 (dj m d))))
theorem Q8 (m:aa):0<=sea m:=by
 rcases pB m with h | ⟨j,a,rfl⟩
 ·omega
 ·rw [lU a];omega
theorem Sv (m:aa):(sea m==0)=!(decide (0<sea m)):=by
 have:=Q8 m;by_cases h:sea m=0
 ·rw [h];rfl
 ·have a:0<sea m:=by omega
  rw [aL.2 h,am a];rfl
theorem AV (n:Nat) (o:200<n) (g l:Bool) (dg:aa) (x q:Int) (m d:aa) (k0 k1 k2:Int) (a:m.length<=18) (j:dg.length<=100) (p:0<=k0) (h:0<=k1) (e:0<=k2):
  jv n g l dg x q m d k0 k1 k2=some (chkD g l dg x q m d k0 k1 k2):=by
 have hy:fM n g l dg x q m d k0 k1 k2=some (yrD g l dg x q m):=DC n o g l dg x q m d k0 k1 k2 a j;have a1:dl n m 12=some (ir m 12):=Ej n (by omega) m 12 (by omega);have a2:dl n d 31=some (ir d 31):=Ej n (by omega) d 31 (by omega);have f:=(G9 n (by omega) k0 k1 k2 (dj m d) (oW m d) p h e).1;unfold jv chkD;rw [qW n g l dg x q m d k0 k1 k2 a,hy,a1,a2,uj n (by omega)];simp only [ob];rw [f];generalize yrD g l dg x q m=b1;generalize (m==[])=b2;generalize decide (0<sea m)=c;generalize ir m 12=i;generalize (d==[])=b;generalize ir d 31=k;cases b1<;>cases b2<;>cases c<;>cases i<;>cases b<;>cases k<;>rfl
theorem EI (n:Nat) (o:200<n) (g l:Bool) (dg:aa) (x q:Int) (m d:aa) (k0 k1 k2:Int) (j:dg.length<=100) (p:0<=k0) (f:0<=k1) (c:0<=k2):
  kw n g l dg x q m d k0 k1 k2=some (chkD g l dg x q m d k0 k1 k2):=by
 have hy:jA n g l dg x q m d k0 k1 k2=some (if yrD g l dg x q m then 1 else 0):=by
  rw [On n o g l dg x q m d k0 k1 k2 j];unfold yrD;by_cases h:okY g l dg x q
  ·simp only [h,jT,aJ]
  ·simp only [h,yg,aB];rfl
 have a1:dN n m 12=some (if ir m 12 then 1 else 0):=GG n (by omega) m 12 (by omega);have a2:dN n d 31=some (if ir d 31 then 1 else 0):=GG n (by omega) d 31 (by omega);have e:=(G9 n (by omega) k0 k1 k2 (dj m d) (oW m d) p f c).2;unfold kw chkD;rw [oU n (by omega) g l dg x q m d k0 k1 k2,hy,a1,a2,oK n];simp only [ob];rw [e,Sv];show cond ((if yrD g l dg x q m then (1:Int) else 0)==0) _ (cond _ (cond _ (cond _ _ (cond _ (cond _ _ (cond (decide (0<sea m)) _ _)) _)) (cond _ (cond _ _ (cond (decide (0<sea m)) _ _)) _)) (cond _ (cond _ _ (cond (decide (0<sea m)) _ _)) _))=_;generalize yrD g l dg x q m=b1;generalize (m==[])=b2;generalize decide (0<sea m)=b;generalize ir m 12=i;generalize (d==[])=a;generalize ir d 31=k;cases b1<;>cases b2<;>cases b<;>cases i<;>cases a<;>cases k<;>rfl
theorem LX {g l:Bool} {dg:aa} {x q:Int} {m d:aa} {k0 k1 k2:Int} (h:chkD g l dg x q m d k0 k1 k2=0):yrD g l dg x q m=true/\(m=[]\/0<sea m\/ir m 12=true)/\(d=[]\/(m≠[]/\sea m=0/\ir d 31=true))/\allM k0 k1 k2 (dj m d)=0:=by
 have hs:=Q8 m;unfold chkD at h;cases b1:yrD g l dg x q m with
 | false=>rw [b1] at h;exact absurd h (by simp)
 | true=>
  rw [b1] at h;simp only [cv,af] at h;cases b2:(!(m==[])&&(!(decide (0<sea m))&&!(ir m 12))) with
  | true=>rw [b2] at h;exact absurd h (by simp)
  | false=>
   rw [b2] at h;simp only [af] at h;cases c:(!(d==[])&&((m==[])||(decide (0<sea m)||!(ir d 31)))) with
   | true=>rw [c] at h;exact absurd h (by simp)
   | false=>
    rw [c] at h;simp only [af] at h;refine ⟨rfl,?_,?_,h⟩
    ·by_cases b:m=[]
     ·exact .inl b
     ·by_cases a:0<sea m
      ·exact .inr (.inl a)
      ·simp [b,a] at b2;exact .inr (.inr b2)
    ·by_cases b:d=[]
     ·exact .inl b
     ·by_cases a:m=[]
      ·simp [b,a] at c
      ·by_cases e:0<sea m
       ·simp [b,a,e] at c
       ·simp [b,a,e] at c;exact .inr ⟨a,by omega,c⟩
theorem rR {s:aa} {g:Nat} (m:g<=31) (h:ir s g=true):s.length=2/\∀c∈s,isDX c=true:=by
 unfold ir at h;obtain ⟨i,j,hi⟩:=tR.1 h;have e:i<g:=lp.1 j;have dig:∀k:Nat,k<10->isDX (UInt8.ofNat (48+k))=true:=by decide
 have d:isDX 88=true:=by decide
 match s,hi with
 | [],hi=>simp [agr] at hi
 | [_],hi=>simp [agr] at hi
 | [a,b],hi=>
  refine ⟨rfl,?_⟩;simp only [agr,aA,iY,bG] at hi;obtain ⟨l,f⟩:=hi;intro c hc;simp only [dr,th,uI] at hc;rcases hc with rfl | rfl
  ·rcases l with rfl | rfl
   ·exact d
   ·exact dig _ (by omega)
  ·rcases f with rfl | rfl
   ·exact d
   ·exact dig _ (by omega)
 | _::_::_::_,hi=>simp [agr] at hi
theorem JI {m:aa} (h:0<sea m):m.length=2/\∀c∈m,isDX c=true:=by
 rcases pB m with b | ⟨j,a,rfl⟩
 ·omega
 ·refine ⟨rfl,?_⟩;have:((List.range 21).all λj=>(two (21+j)).all isDX)=true:=by decide +kernel
  have:=(cN.1 this) j (by simpa using a);exact cN.1 this
def mt (k:Nat):aa:=if k=1 then [63] else if k=2 then [126] else if k=3 then [37] else []
def mkOf (c:UInt8):Nat:=if c=63 then 1 else if c=126 then 2 else if c=37 then 3 else 0
def Kx (k a b c:Nat):Bool:=(decide (k<2)||b==a)&&(decide (k<3)||c==a)
def plA (k a b c:Nat):Nat×Nat×Nat:=if Kx k a b c then (0,0,0) else (a,b,c)
def plB (k a b c:Nat):Nat×Nat×Nat:=if Kx k a b c then (if k=1 then (a,0,0) else if k=2 then (0,a,0) else (0,0,a)) else (0,0,0)
def l3 (p:Nat×Nat×Nat):List Int:=[(p.1:Int),(p.2.1:Int),(p.2.2:Int)]
def spM (A B:Nat×Nat×Nat):Nat×Nat×Nat:=(A.1 ||| B.1 ||| B.2.1 ||| B.2.2,A.2.1 ||| B.2.1 ||| B.2.2,A.2.2 ||| B.2.2)
theorem DG (n k:Nat) (h:k<4):sw n (k:Int)=some (mt k,0)/\cE n (k:Int)=some (mt k):=by
 have:k=0\/k=1\/k=2\/k=3:=by omega
 rcases this with rfl | rfl | rfl | rfl<;>exact ⟨rfl,rfl⟩
noncomputable def WH (m j:Nat):Bool:=
 (pZ (m+300) (j:Int)==some (((mkOf (UInt8.ofNat j):Nat):Int),decide (0<mkOf (UInt8.ofNat j))))&&(dL (m+300) (j:Int)==some ((mkOf (UInt8.ofNat j):Nat):Int))
theorem OX (m:Nat):(List.range 256).all (WH m)=true:=by kernel_rfl
theorem FL (m:Nat) (c:UInt8):pZ (m+300) ((c.toNat:Nat):Int)=some (((mkOf c:Nat):Int),decide (0<mkOf c))/\dL (m+300) ((c.toNat:Nat):Int)=some ((mkOf c:Nat):Int):=by
 have h:=(cN.1 (OX m)) c.toNat (lp.2 c.toNat_lt);unfold WH at h;rw [show UInt8.ofNat c.toNat=c by simp] at h;simp only [aA,bG] at h;exact h
noncomputable def N1 (m k a b c:Nat):Bool:=
 (qt (m+300) [(a:Int),(b:Int),(c:Int)] (k:Int)==some (l3 (plA k a b c),l3 (plB k a b c),0))&&(km (m+300) [(a:Int),(b:Int),(c:Int)] (k:Int)==some (l3 (plA k a b c),l3 (plB k a b c)))
theorem UA (m:Nat):((List.range 4).all λa=>N1 m 1 a 0 0)=true:=by kernel_rfl
theorem Ws (m:Nat):((List.range 4).all λa=>(List.range 4).all λb=>N1 m 2 a b 0)=true:=by kernel_rfl
theorem V0 (m:Nat):((List.range 4).all λa=>(List.range 4).all λb=>(List.range 4).all λc=>N1 m 3 a b c)=true:=by kernel_rfl
theorem r4 {p:Nat->Bool} (h:(List.range 4).all p=true) {a:Nat} (b:a<4):p a=true:=(cN.1 h) a (lp.2 b)
theorem U0 (m k a b c:Nat) (i:1<=k/\k<=3) (d:a<4) (e:b<4) (hc:c<4) (g:k<2->b=0) (f:k<3->c=0):
  qt (m+300) [(a:Int),(b:Int),(c:Int)] (k:Int)=some (l3 (plA k a b c),l3 (plB k a b c),0)/\km (m+300) [(a:Int),(b:Int),(c:Int)] (k:Int)=some (l3 (plA k a b c),l3 (plB k a b c)):=by
 have h:N1 m k a b c=true:=by
  have:k=1\/k=2\/k=3:=by omega
  rcases this with rfl | rfl | rfl
  ·rw [g (by omega),f (by omega)];exact r4 (UA m) d
  ·rw [f (by omega)];exact r4 (r4 (Ws m) d) e
  ·exact r4 (r4 (r4 (V0 m) d) e) hc
 unfold N1 at h;simp only [aA,bG] at h;exact h
theorem RY {k a b c:Nat} (d:a<4) (e:b<4) (hc:c<4):(plA k a b c).1<4/\(plA k a b c).2.1<4/\(plA k a b c).2.2<4/\(plB k a b c).1<4/\(plB k a b c).2.1<4/\(plB k a b c).2.2<4:=by
 unfold plA plB;split
 ·split
  ·simp [d]
  ·split<;>simp [d]
 ·simp [d,e,hc]
def inM (k:Nat) (A:Nat×Nat×Nat):Prop:=A.1<4/\A.2.1<4/\A.2.2<4/\(k<2->A.2.1=0)/\(k<3->A.2.2=0)
theorem xo {k:Nat} {A:Nat×Nat×Nat} (h:inM k A):allM (A.1:Int) (A.2.1:Int) (A.2.2:Int) k=0:=by
 obtain ⟨e,c,a,b,d⟩:=h;unfold allM;rw [ab (by omega)]
theorem or4 {a b:Nat} (c:a<4) (d:b<4):bits .or .u8 (a:Int) (b:Int)=((a ||| b:Nat):Int)/\a ||| b<4:=by
 have:((List.range 4).all λa=>(List.range 4).all λb=>bits .or .u8 (a:Int) (b:Int)==((a ||| b:Nat):Int)&&decide (a ||| b<4))=true:=by decide +kernel
 have:=r4 (r4 this c) d;simpa using this
theorem xn (n:Nat) (w:9<n) (k:Nat) (A B:Nat×Nat×Nat) (q:1<=k/\k<=3) (o:inM k A) (m:inM k B):eN n (l3 A) (l3 B) (k:Int)=some (l3 (spM A B),0):=by
 obtain ⟨n,rfl⟩:∃j,n=j+5:=⟨n - 5,by omega⟩;have s:=(G9 (n+5) (by omega) (A.1:Int) (A.2.1:Int) (A.2.2:Int) k q (by omega) (by omega) (by omega)).1;have r:=(G9 (n+5) (by omega) (B.1:Int) (B.2.1:Int) (B.2.2:Int) k q (by omega) (by omega) (by omega)).1;rw [xo o] at s;rw [xo m] at r;have g:∀x:Nat,x<4->bits .or .u8 0 (x:Int)=(x:Int):=λx hx=>by
  have:=(or4 (show 0<4 by omega) hx).1;simpa using this
 have a:∀x y:Nat,x<4->y<4->bits .or .u8 (x:Int) (y:Int)=((x ||| y:Nat):Int):=λx y hx hy=>(or4 hx hy).1;have e:∀x y:Nat,x<4->y<4->x ||| y<4:=λx y hx hy=>(or4 hx hy).2;unfold eN;show ob (dJ (n+5) [(A.1:Int),(A.2.1:Int),(A.2.2:Int)] (k:Int)) _=_;rw [s];show ob (dJ (n+5) [(B.1:Int),(B.2.1:Int),(B.2.2:Int)] (k:Int)) _=_;rw [r];obtain ⟨a0,a1,a2⟩:=A;obtain ⟨b0,b1,b2⟩:=B;obtain ⟨g0,h,t,l,f⟩:=o;obtain ⟨d,b,c,p,i⟩:=m;simp only at g0 h t l f d b c p i;have hk':k=1\/k=2\/k=3:=by omega
 rcases hk' with rfl | rfl | rfl
 ·obtain rfl:=l (by omega);obtain rfl:=f (by omega);obtain rfl:=p (by omega);obtain rfl:=i (by omega);show some (([bits .or .u8 (a0:Int) (bits .or .u8 0 (b0:Int)),0,0]:List Int),(0:Int))=_;rw [g b0 d,a _ _ g0 d];simp [l3,spM]
 ·obtain rfl:=f (by omega);obtain rfl:=i (by omega);show some (([bits .or .u8 (a0:Int) (bits .or .u8 (bits .or .u8 0 (b1:Int)) (b0:Int)),bits .or .u8 (a1:Int) (bits .or .u8 0 (b1:Int)),0]:List Int),(0:Int))=_;rw [g b1 b,a _ _ b d,a _ _ g0 (e _ _ b d),a _ _ h b];simp [l3,spM,Nat.or_assoc,Am b1 b0]
 ·show some (([bits .or .u8 (a0:Int) (bits .or .u8 (bits .or .u8 (bits .or .u8 0 (b2:Int)) (b1:Int)) (b0:Int)),bits .or .u8 (a1:Int) (bits .or .u8 (bits .or .u8 0 (b2:Int)) (b1:Int)),bits .or .u8 (a2:Int) (bits .or .u8 0 (b2:Int))]:List Int),(0:Int))=_;rw [g b2 c,a _ _ c b,a _ _ (e _ _ c b) d,a _ _ g0 (e _ _ (e _ _ c b) d),a _ _ h (e _ _ c b),a _ _ t c];have v:a0 ||| (b2 ||| b1 ||| b0)=a0 ||| b0 ||| b1 ||| b2:=by rw [Am (b2 ||| b1) b0,Am b2 b1];simp only [Nat.or_assoc]
  have u:a1 ||| (b2 ||| b1)=a1 ||| b1 ||| b2:=by rw [Am b2 b1];simp only [Nat.or_assoc]
  rw [v,u];rfl
abbrev cI (x:Nat):Int:=(x:Int)
def bt (b a:Nat):Nat:=if b=1 then a%2 else a / 2%2
theorem QU (n:Nat) {a b:Nat} (d:a<4) (c:b=1\/b=2):jb n (a:Int) (b:Int)=some ((bt b a:Nat):Int):=by
 have h:a=0\/a=1\/a=2\/a=3:=by omega
 rcases h with rfl | rfl | rfl | rfl<;>rcases c with rfl | rfl<;>rfl
theorem RE (b a:Nat):bt b a<=1:=by unfold bt;split<;>omega
def bts (b:Nat):List Nat->Nat
 | []=>0
 | x::l=>bt b x+bts b l
theorem XM (n k b i:Nat) (m:b=1\/b=2) (t:k<=3) (A X Y:List Int) (c:List Nat) (u:c.length=3) (q:∀x∈c,x<4):∀(r j a:Nat),j+r=k->a<=j+1->∀N,r<N->
  ar (ch n) N ((k:Int),(b:Int),(i:Int),(a:Int),(j:Int),A,c.map cI,X,Y)=some ((k:Int),(b:Int),(i:Int),((a+bts b ((c.take k).drop j):Nat):Int),A,c.map cI,X,Y):=by
 intro r
 induction r with
 | zero=>
  intro j a l d N p;obtain ⟨N,rfl⟩:∃k,N=k+1:=⟨N - 1,by omega⟩;have s:ch n ((k:Int),(b:Int),(i:Int),(a:Int),(j:Int),A,c.map cI,X,Y)=some (.inr ((k:Int),(b:Int),(i:Int),(a:Int),A,c.map cI,X,Y)):=by
   unfold ch;rw [bA,ab (show ¬((j:Int)<(k:Int)) by omega)]
  have e:(c.take k).drop j=[]:=jr (by rw [db];omega);rw [ar,s,e];rfl
 | succ r ih=>
  intro j a l d N p;obtain ⟨N,rfl⟩:∃k,N=k+1:=⟨N - 1,by omega⟩;have h:j<c.length:=by omega
  obtain ⟨x,hx⟩:∃x,c[j]?=some x:=⟨c[j],be h⟩;have g:(c.map cI)[j]?=some (x:Int):=by rw [m8,hx];rfl
  have f:=q x (gB hx);have w:IntKind.wrap .i64 ((a:Int)+((bt b x:Nat):Int))=((a+bt b x:Nat):Int):=by have:=RE b x;rw [wrap_i64 _ (by omega) (by omega)];omega
  have o:IntKind.wrap .i64 ((j:Int)+1)=((j+1:Nat):Int):=by rw [wrap_i64 _ (by omega) (by omega)];omega
  have s:ch n ((k:Int),(b:Int),(i:Int),(a:Int),(j:Int),A,c.map cI,X,Y)=some (.inl ((k:Int),(b:Int),(i:Int),((a+bt b x:Nat):Int),((j+1:Nat):Int),A,c.map cI,X,Y)):=by
   unfold ch;rw [bA,ae (show (j:Int)<(k:Int) by omega)];show ob (ix 3 (j:Int)) _=_;rw [eG (show j<3 by omega)];show ob ((c.map cI)[j]?) _=_;rw [g];show ob (jb n (x:Int) (b:Int)) _=_;rw [QU n f m];show some (Sum.inl ((k:Int),(b:Int),(i:Int),IntKind.wrap .i64 ((a:Int)+((bt b x:Nat):Int)),IntKind.wrap .i64 ((j:Int)+1),_))=_;rw [w,o]
  have e:(c.take k).drop j=x::(c.take k).drop (j+1):=bS (by rw [qC (by omega)];exact hx);rw [ar,s];have:=RE b x;show ar _ N _=_;rw [ih (j+1) (a+bt b x) (by omega) (by omega) N (by omega),e];simp only [bts,iO]
def hit (k b i:Nat) (a c:List Nat):Bool:=decide (0<bt b (a.getD i 0)+bts b ((c.take k).drop i))
theorem XI (n k b i:Nat) (w:9<n) (h:b=1\/b=2) (l:k<=3) (hi:i<k) (X:List Int) (a c:List Nat) (v:a.length=3) (s:c.length=3) (r:∀x∈a,x<4) (u:∀x∈c,x<4) (out:List Int) (o:Int) (t:out[i]?=some o):
  bD n ((k:Int),(b:Int),(i:Int),a.map cI,c.map cI,X,out)=some (.inl ((k:Int),(b:Int),((i+1:Nat):Int),a.map cI,c.map cI,X,cond (hit k b i a c) (out.set i (IntKind.wrap .u8 (o+(b:Int)))) out)):=by
 obtain ⟨x,hx⟩:∃x,a[i]?=some x:=⟨a[i],be (by omega)⟩;have f:(a.map cI)[i]?=some (x:Int):=by rw [m8,hx];rfl
 have d:=r x (gB hx);have p:=RE b x;have m:IntKind.wrap .i64 ((i:Int)+1)=((i+1:Nat):Int):=by rw [wrap_i64 _ (by omega) (by omega)];omega
 have e:=XM n k b i h l (a.map cI) X out c s u (k - i) i (bt b x) (by omega) (by omega) n (by omega);unfold bD;rw [bA,ae (show (i:Int)<(k:Int) by omega)];show ob (ix 3 (i:Int)) _=_;rw [eG (show i<3 by omega)];show ob ((a.map cI)[i]?) _=_;rw [f];show ob (jb n (x:Int) (b:Int)) _=_;rw [QU n d h];show ob (ar (ch n) n ((k:Int),(b:Int),(i:Int),((bt b x:Nat):Int),(i:Int),a.map cI,c.map cI,X,out)) _=_;rw [e];have q:hit k b i a c=decide (((bt b x+bts b ((c.take k).drop i):Nat):Int)>0):=by
  unfold hit;rw [D9,hx];rw [nY];simp only [wN];omega
 rw [q];show cond (decide (((bt b x+bts b ((c.take k).drop i):Nat):Int)>0)) (ob (ix 3 (i:Int)) λj=>ob (out[j]?) λy=>ob (ix 3 (i:Int)) λj2=>cond (Nat.blt j2 3) (some (Sum.inl ((k:Int),(b:Int),IntKind.wrap .i64 ((i:Int)+1),a.map cI,c.map cI,X,out.set j2 (IntKind.wrap .u8 (y+(b:Int)))))) none) (some (Sum.inl ((k:Int),(b:Int),IntKind.wrap .i64 ((i:Int)+1),a.map cI,c.map cI,X,out)))=_;rw [eG (show i<3 by omega),m];have g:Nat.blt i 3=true:=di (by omega);simp only [ob,t,g,ah];cases decide (((bt b x+bts b ((c.take k).drop i):Nat):Int)>0)<;>rfl
def addB (k b:Nat) (a c:List Nat) (o:List Int):List Int:=[cond (decide (0<k)&&hit k b 0 a c) (IntKind.wrap .u8 (o.getD 0 0+(b:Int))) (o.getD 0 0),cond (decide (1<k)&&hit k b 1 a c) (IntKind.wrap .u8 (o.getD 1 0+(b:Int))) (o.getD 1 0),cond (decide (2<k)&&hit k b 2 a c) (IntKind.wrap .u8 (o.getD 2 0+(b:Int))) (o.getD 2 0)]
theorem Qo (n k b:Nat) (t:9<n) (l:b=1\/b=2) (m:1<=k/\k<=3) (X:List Int) (a c:List Nat) (p:a.length=3) (r:c.length=3) (q:∀x∈a,x<4) (s:∀x∈c,x<4) (h o1 f:Int):
  ar (bD n) n ((k:Int),(b:Int),0,a.map cI,c.map cI,X,[h,o1,f])=some ((k:Int),(b:Int),a.map cI,c.map cI,X,addB k b a c [h,o1,f]):=by
 obtain ⟨n,rfl⟩:∃j,n=j+5:=⟨n - 5,by omega⟩;have d:∀(N:Nat) (out:List Int),ar (bD (n+5)) (N+1) ((k:Int),(b:Int),((k:Nat):Int),a.map cI,c.map cI,X,out)=some ((k:Int),(b:Int),a.map cI,c.map cI,X,out):=λN out=>by
  rw [ar];have:bD (n+5) ((k:Int),(b:Int),((k:Nat):Int),a.map cI,c.map cI,X,out)=some (.inr ((k:Int),(b:Int),a.map cI,c.map cI,X,out)):=by
   unfold bD;rw [bA,ab (show ¬((k:Int)<(k:Int)) by omega)]
  rw [this]
 have g:=λ(i:Nat) (hi:i<k) (out:List Int) (o:Int) (ho:out[i]?=some o)=>XI (n+5) k b i t l m.2 hi X a c p r q s out o ho;have hk':k=1\/k=2\/k=3:=by omega
 have e:=g 0 (by omega) [h,o1,f] h rfl;rcases hk' with rfl | rfl | rfl
 ·rw [ar];rw [show ((0:Nat):Int)=0 from rfl] at e;rw [e];show ar _ (n+3+1) (((1:Nat):Int),(b:Int),((1:Nat):Int),_)=_;rw [d];unfold addB;cases hit 1 b 0 a c<;>rfl
 ·rw [ar];rw [show ((0:Nat):Int)=0 from rfl] at e;rw [e];show ar _ (n+4) (((2:Nat):Int),(b:Int),((1:Nat):Int),_)=_;rw [ar,g 1 (by omega) _ o1 (by cases hit 2 b 0 a c<;>rfl)];show ar _ (n+2+1) (((2:Nat):Int),(b:Int),((2:Nat):Int),_)=_;rw [d];unfold addB;cases hit 2 b 0 a c<;>cases hit 2 b 1 a c<;>rfl
 ·rw [ar];rw [show ((0:Nat):Int)=0 from rfl] at e;rw [e];show ar _ (n+4) (((3:Nat):Int),(b:Int),((1:Nat):Int),_)=_;rw [ar,g 1 (by omega) _ o1 (by cases hit 3 b 0 a c<;>rfl)];show ar _ (n+3) (((3:Nat):Int),(b:Int),((2:Nat):Int),_)=_;rw [ar,g 2 (by omega) _ f (by cases hit 3 b 0 a c<;>cases hit 3 b 1 a c<;>rfl)];show ar _ (n+1+1) (((3:Nat):Int),(b:Int),((3:Nat):Int),_)=_;rw [d];unfold addB;cases hit 3 b 0 a c<;>cases hit 3 b 1 a c<;>cases hit 3 b 2 a c<;>rfl
def lN (p:Nat×Nat×Nat):List Nat:=[p.1,p.2.1,p.2.2]
theorem ra {x y:Nat} (hx:x<4) (hy:y<4) (b:Nat) (d:b=1\/b=2):decide (0<bt b (x ||| y))=decide (0<bt b x+bt b y):=by
 have:((List.range 4).all λa=>(List.range 4).all λc=>(decide (0<bt 1 (a ||| c))==decide (0<bt 1 a+bt 1 c))&&(decide (0<bt 2 (a ||| c))==decide (0<bt 2 a+bt 2 c)))=true:=by decide +kernel
 have:=r4 (r4 this hx) hy;simp only [aA,bG] at this;rcases d with rfl | rfl
 ·exact this.1
 ·exact this.2
theorem r7 {x:Nat} (hx:x<4):cond (decide (0<bt 2 x)) (IntKind.wrap .u8 (cond (decide (0<bt 1 x)) (IntKind.wrap .u8 (0+((1:Nat):Int))) 0+((2:Nat):Int))) (cond (decide (0<bt 1 x)) (IntKind.wrap .u8 (0+((1:Nat):Int))) 0)=(x:Int):=by
 have h:x=0\/x=1\/x=2\/x=3:=by omega
 rcases h with rfl | rfl | rfl | rfl<;>decide
theorem uO (n:Nat) (N:9<n) (k:Nat) (A B:Nat×Nat×Nat) (L:1<=k/\k<=3) (I:inM k A) (E:inM k B):ej n (l3 A) (l3 B) (k:Int)=some (l3 (spM A B)):=by
 obtain ⟨a0,a1,a2⟩:=A;obtain ⟨b0,b1,b2⟩:=B;obtain ⟨g0,m,u,v,s⟩:=I;obtain ⟨f,d,l,C,t⟩:=E;simp only at g0 m u v s f d l C t;have c:∀x y:Nat,x<4->y<4->x ||| y<4:=λx y hx hy=>(or4 hx hy).2;have H:∀x∈lN (a0,a1,a2),x<4:=by
  intro x hx;simp only [lN,dr,th,uI] at hx;rcases hx with rfl | rfl | rfl<;>assumption
 have F:∀x∈lN (b0,b1,b2),x<4:=by
  intro x hx;simp only [lN,dr,th,uI] at hx;rcases hx with rfl | rfl | rfl<;>assumption
 have run:=λ(b:Nat) (a:b=1\/b=2) (o0 o1 o2:Int)=>Qo n k b N a L [0,0,0] (lN (a0,a1,a2)) (lN (b0,b1,b2)) rfl rfl H F o0 o1 o2;have z:=run 1 (.inl rfl) 0 0 0;obtain ⟨h,i,g,hp⟩:∃h i g,addB k 1 (lN (a0,a1,a2)) (lN (b0,b1,b2)) [0,0,0]=[h,i,g]:=⟨_,_,_,rfl⟩;have M:=run 2 (.inr rfl) h i g;rw [hp] at z;obtain ⟨n,rfl⟩:∃j,n=j+5:=⟨n - 5,by omega⟩;have G:cT (n+5) ((k:Int),1,l3 (a0,a1,a2),l3 (b0,b1,b2),[0,0,0],[0,0,0])=some (.inl ((k:Int),2,l3 (a0,a1,a2),l3 (b0,b1,b2),[0,0,0],[h,i,g])):=by
  unfold cT;show cond (decide ((1:Int)<=2)) (ob (ar (bD (n+5)) (n+5) ((k:Int),((1:Nat):Int),0,(lN (a0,a1,a2)).map cI,(lN (b0,b1,b2)).map cI,[0,0,0],[0,0,0])) _) _=_;rw [z];rfl
 have O:cT (n+5) ((k:Int),2,l3 (a0,a1,a2),l3 (b0,b1,b2),[0,0,0],[h,i,g])=some (.inl ((k:Int),3,l3 (a0,a1,a2),l3 (b0,b1,b2),[0,0,0],addB k 2 (lN (a0,a1,a2)) (lN (b0,b1,b2)) [h,i,g])):=by
  unfold cT;show cond (decide ((2:Int)<=2)) (ob (ar (bD (n+5)) (n+5) ((k:Int),((2:Nat):Int),0,(lN (a0,a1,a2)).map cI,(lN (b0,b1,b2)).map cI,[0,0,0],[h,i,g])) _) _=_;rw [M];rfl
 have K:∀out:List Int,cT (n+5) ((k:Int),3,l3 (a0,a1,a2),l3 (b0,b1,b2),[0,0,0],out)=some (.inr ([0,0,0],out)):=λout=>rfl;unfold ej;rw [ar,G];show ob (ar _ (n+4) _) _=_;rw [ar,O];show ob (ar _ (n+3) _) _=_;rw [ar,K];show some (addB k 2 (lN (a0,a1,a2)) (lN (b0,b1,b2)) [h,i,g])=_;rw [<-hp];have hk':k=1\/k=2\/k=3:=by omega
 have D:=λ(x y:Nat) (hx:x<4) (hy:y<4) (b:Nat) (a:b=1\/b=2)=>ra hx hy b a;rcases hk' with rfl | rfl | rfl
 ·obtain rfl:=v (by omega);obtain rfl:=s (by omega);obtain rfl:=C (by omega);obtain rfl:=t (by omega);have e:∀b,b=1\/b=2->hit 1 b 0 (lN (a0,0,0)) (lN (b0,0,0))=decide (0<bt b (a0 ||| b0)):=λb a=>by rw [ra g0 f b a];rfl
  show some [cond (hit 1 2 0 (lN (a0,0,0)) (lN (b0,0,0))) (IntKind.wrap .u8 (cond (hit 1 1 0 (lN (a0,0,0)) (lN (b0,0,0))) (IntKind.wrap .u8 (0+((1:Nat):Int))) 0+((2:Nat):Int))) (cond (hit 1 1 0 (lN (a0,0,0)) (lN (b0,0,0))) (IntKind.wrap .u8 (0+((1:Nat):Int))) 0),0,0]=_;rw [e 1 (.inl rfl),e 2 (.inr rfl),r7 (c _ _ g0 f)];simp [l3,spM]
 ·obtain rfl:=s (by omega);obtain rfl:=t (by omega);have q:∀b,b=1\/b=2->hit 2 b 1 (lN (a0,a1,0)) (lN (b0,b1,0))=decide (0<bt b (a1 ||| b1)):=λb a=>by rw [ra m d b a];rfl
  have p:∀b,b=1\/b=2->hit 2 b 0 (lN (a0,a1,0)) (lN (b0,b1,0))=decide (0<bt b (a0 ||| b0 ||| b1)):=λb a=>by
   have o:=ra (c _ _ g0 f) d b a;have r:=ra g0 f b a;rw [o];have:hit 2 b 0 (lN (a0,a1,0)) (lN (b0,b1,0))=decide (0<bt b a0+(bt b b0+(bt b b1+0))):=rfl;rw [this];simp only [nY] at r ⊢;omega
  show some [cond (hit 2 2 0 (lN (a0,a1,0)) (lN (b0,b1,0))) (IntKind.wrap .u8 (cond (hit 2 1 0 (lN (a0,a1,0)) (lN (b0,b1,0))) (IntKind.wrap .u8 (0+((1:Nat):Int))) 0+((2:Nat):Int))) (cond (hit 2 1 0 (lN (a0,a1,0)) (lN (b0,b1,0))) (IntKind.wrap .u8 (0+((1:Nat):Int))) 0),cond (hit 2 2 1 (lN (a0,a1,0)) (lN (b0,b1,0))) (IntKind.wrap .u8 (cond (hit 2 1 1 (lN (a0,a1,0)) (lN (b0,b1,0))) (IntKind.wrap .u8 (0+((1:Nat):Int))) 0+((2:Nat):Int))) (cond (hit 2 1 1 (lN (a0,a1,0)) (lN (b0,b1,0))) (IntKind.wrap .u8 (0+((1:Nat):Int))) 0),0]=_;rw [p 1 (.inl rfl),p 2 (.inr rfl),q 1 (.inl rfl),q 2 (.inr rfl),r7 (c _ _ (c _ _ g0 f) d),r7 (c _ _ m d)];simp [l3,spM]
 ·have w:∀b,b=1\/b=2->hit 3 b 2 (lN (a0,a1,a2)) (lN (b0,b1,b2))=decide (0<bt b (a2 ||| b2)):=λb a=>by rw [ra u l b a];rfl
  have q:∀b,b=1\/b=2->hit 3 b 1 (lN (a0,a1,a2)) (lN (b0,b1,b2))=decide (0<bt b (a1 ||| b1 ||| b2)):=λb a=>by
   have o:=ra (c _ _ m d) l b a;have r:=ra m d b a;rw [o];have:hit 3 b 1 (lN (a0,a1,a2)) (lN (b0,b1,b2))=decide (0<bt b a1+(bt b b1+(bt b b2+0))):=rfl;rw [this];simp only [nY] at r ⊢;omega
  have p:∀b,b=1\/b=2->hit 3 b 0 (lN (a0,a1,a2)) (lN (b0,b1,b2))=decide (0<bt b (a0 ||| b0 ||| b1 ||| b2)):=λb a=>by
   have o:=ra (c _ _ (c _ _ g0 f) d) l b a;have r:=ra (c _ _ g0 f) d b a;have J:=ra g0 f b a;rw [o];have:hit 3 b 0 (lN (a0,a1,a2)) (lN (b0,b1,b2))=decide (0<bt b a0+(bt b b0+(bt b b1+(bt b b2+0)))):=rfl;rw [this];simp only [nY] at r J ⊢;omega
  show some [cond (hit 3 2 0 (lN (a0,a1,a2)) (lN (b0,b1,b2))) (IntKind.wrap .u8 (cond (hit 3 1 0 (lN (a0,a1,a2)) (lN (b0,b1,b2))) (IntKind.wrap .u8 (0+((1:Nat):Int))) 0+((2:Nat):Int))) (cond (hit 3 1 0 (lN (a0,a1,a2)) (lN (b0,b1,b2))) (IntKind.wrap .u8 (0+((1:Nat):Int))) 0),cond (hit 3 2 1 (lN (a0,a1,a2)) (lN (b0,b1,b2))) (IntKind.wrap .u8 (cond (hit 3 1 1 (lN (a0,a1,a2)) (lN (b0,b1,b2))) (IntKind.wrap .u8 (0+((1:Nat):Int))) 0+((2:Nat):Int))) (cond (hit 3 1 1 (lN (a0,a1,a2)) (lN (b0,b1,b2))) (IntKind.wrap .u8 (0+((1:Nat):Int))) 0),cond (hit 3 2 2 (lN (a0,a1,a2)) (lN (b0,b1,b2))) (IntKind.wrap .u8 (cond (hit 3 1 2 (lN (a0,a1,a2)) (lN (b0,b1,b2))) (IntKind.wrap .u8 (0+((1:Nat):Int))) 0+((2:Nat):Int))) (cond (hit 3 1 2 (lN (a0,a1,a2)) (lN (b0,b1,b2))) (IntKind.wrap .u8 (0+((1:Nat):Int))) 0)]=_;rw [p 1 (.inl rfl),p 2 (.inr rfl),q 1 (.inl rfl),q 2 (.inr rfl),w 1 (.inl rfl),w 2 (.inr rfl),r7 (c _ _ (c _ _ (c _ _ g0 f) d) l),r7 (c _ _ (c _ _ m d) l),r7 (c _ _ u l)];rfl
def NI (k a b c:Nat):Bool:=spM (plA k a b c) (plB k a b c)==(a,b,c)
theorem VU:((List.range 4).all λa=>NI 1 a 0 0)=true:=by decide +kernel
theorem VX:((List.range 4).all λa=>(List.range 4).all λb=>NI 2 a b 0)=true:=by decide +kernel
theorem UP:((List.range 4).all λa=>(List.range 4).all λb=>(List.range 4).all λc=>NI 3 a b c)=true:=by decide +kernel
theorem Xx (k a b c:Nat) (i:1<=k/\k<=3) (d:a<4) (e:b<4) (hc:c<4) (g:k<2->b=0) (f:k<3->c=0):spM (plA k a b c) (plB k a b c)=(a,b,c):=by
 have h:NI k a b c=true:=by
  have:k=1\/k=2\/k=3:=by omega
  rcases this with rfl | rfl | rfl
  ·rw [g (by omega),f (by omega)];exact r4 VU d
  ·rw [f (by omega)];exact r4 (r4 VX d) e
  ·exact r4 (r4 (r4 UP d) e) hc
 unfold NI at h;exact bG.1 h
def mkS (l:aa):Nat:=match l with | []=>0 | c::_=>mkOf c
def mkN (l:aa):Nat:=if mkS l=0 then 0 else 1
def twoN (l:aa):Nat:=bE isDX 2 l
theorem TK (c:UInt8):mkOf c<4:=by
 unfold mkOf;split
 ·omega
 ·split
  ·omega
  ·split<;>omega
theorem C3 (l:aa):mkS l<4:=by
 cases l with
 | nil=>show 0<4;omega
 | cons c r=>exact TK c
theorem Xg (l:aa):mkN l<=l.length:=by
 cases l with
 | nil=>exact aW 0
 | cons c r=>
  unfold mkN;split<;>simp
theorem Rt (c:UInt8):hasB [63,126,37] c=decide (0<mkOf c):=by
 have:=iW (λc=>hasB [63,126,37] c==decide (0<mkOf c)) (by decide +kernel) c;simpa using this
theorem RN (m:Nat) (S:aa) (a:Nat) (h:a<=S.length) (i:S.length<100000):
  cL (m+300) S (a:Int)=some (.inr (((mkS (S.drop a):Nat):Int),S,((a+mkN (S.drop a):Nat):Int))):=by
 unfold cL;rw [pV (m+300) S a h];cases f:S.drop a with
 | nil=>
  have g:pZ (m+300) 0=some (0,false):=by kernel_rfl
  show ob (pZ (m+300) 0) _=_;rw [g];rfl
 | cons c r=>
  show ob (pZ (m+300) ((c.toNat:Nat):Int)) _=_;rw [(FL m c).1];show cond (decide (0<mkOf c)) _ _=_;have b:mkS (c::r)=mkOf c:=rfl;by_cases hc:0<mkOf c
  ·rw [am hc];show ob (cu (m+300) [63,126,37] S (a:Int)) _=_;rw [BL (m+300) _ S a h (by omega),f];have e:hasB [63,126,37] c=true:=by rw [Rt,am hc]
   have d:mkN (c::r)=1:=by unfold mkN;rw [b,ab (by omega)]
   rw [b,d];simp only [e,aJ,ob]
  ·rw [aq hc];have d:mkN (c::r)=0:=by unfold mkN;rw [b,ae (by omega)]
   rw [b,d];rfl
theorem A5 (m:Nat) (S:aa) (a:Nat) (h:a<=S.length) (i:S.length<100000) (e:Int):
  eP (m+300) S (a:Int) e=some (((mkS (S.drop a):Nat):Int),S,((a+mkN (S.drop a):Nat):Int),e):=by
 unfold eP;rw [ma];rcases aG a S.length with f | g
 ·have:decide (S.length<=a)=false:=by simp;omega
  rw [this];obtain ⟨c,hc⟩:∃c,S[a]?=some c:=⟨S[a],be f⟩;rw [dI hc,bS hc];show ob (dL (m+300) ((c.toNat:Nat):Int)) _=_;rw [(FL m c).2];have b:mkS (c::S.drop (a+1))=mkOf c:=rfl;show cond (decide (((mkOf c:Nat):Int)>0)) _ _=_;by_cases j:0<mkOf c
  ·have d:mkN (c::S.drop (a+1))=1:=by unfold mkN;rw [b,ab (by omega)]
   have:decide (((mkOf c:Nat):Int)>0)=true:=by simp;omega
   rw [this,b,d,ah];have w:IntKind.wrap .i64 ((a:Int)+1)=((a+1:Nat):Int):=by rw [wrap_i64 _ (by omega) (by omega)];omega
   rw [w]
  ·have d:mkN (c::S.drop (a+1))=0:=by unfold mkN;rw [b,ae (by omega)]
   have:decide (((mkOf c:Nat):Int)>0)=false:=by simp;omega
   rw [this,b,d,af];rfl
 ·have:decide (S.length<=a)=true:=by simp;omega
  rw [this,jr g];rfl
theorem QW (n:Nat) (S:aa) (a:Nat) (h:a<=S.length) (i:S.length<100000) (g:S.length<n):
  i7 n S (a:Int)=some (if twoN (S.drop a)<2 then .inl (((a+twoN (S.drop a):Nat):Int),5,S,((a+twoN (S.drop a):Nat):Int)) else .inr ((S.drop a).take 2,S,((a+2:Nat):Int))):=by
 unfold i7;rw [wk n _ 2 2 S a h (by omega) g];have e:bE (hasB [88,48,49,50,51,52,53,54,55,56,57]) (2:Int).toNat (S.drop a)=twoN (S.drop a):=by
  unfold twoN;have d:(2:Int).toNat=2:=rfl;rw [d];exact kG (λc=>by rw [uZ];rfl) _ _
 rw [e];by_cases b:twoN (S.drop a)<2
 ·rw [ae b,ae (by omega)];rfl
 ·have f:twoN (S.drop a)=2:=by
   have:=qQ isDX 2 (S.drop a);unfold twoN at b ⊢;omega
  rw [ab b,ab (by omega),f];rfl
theorem WV (c:UInt8):isDX c=((decide (48<=c.toNat)&&decide (c.toNat<=57))||c==88):=by
 unfold isDX;congr 1;rw [tN,cr];simp
theorem GF (n:Nat) (S:aa) (a b i e:Int) (j:Nat) (v:S.length<100000) (hi:i<2) (r:j<=S.length) (s:0<=i):
  ib n (b,i,S,(j:Int),e,[],0,0)=some (match S.drop j with
   | []=>.inr (.inl ([],S,(j:Int),5))
   | c::_=>if isDX c then .inl (b,i+1,S,((j+1:Nat):Int),e,[],0,0) else .inr (.inl ([],S,(j:Int),5))):=by
 unfold ib;have p:decide (i<2)=true:=am hi;show cond (decide (i<2)) (cond (decide ((j:Int)>=((S.length:Nat):Int))) _ _) _=_;rw [p,ma];rcases aG j S.length with k | m
 ·have:decide (S.length<=j)=false:=by simp;omega
  rw [this];obtain ⟨c,hc⟩:∃c,S[j]?=some c:=⟨S[j],be k⟩;have q:IntKind.wrap .i64 (i+1)=i+1:=wrap_i64 _ (by omega) (by omega);have o:IntKind.wrap .i64 ((j:Int)+1)=((j+1:Nat):Int):=by rw [wrap_i64 _ (by omega) (by omega)];omega
  rw [bS hc];simp only [dI hc,ob,ah,af,q,o];rw [WV];have h:(((c.toNat:Nat):Int) != 88)=!(c==88):=by rw [bne];congr 1;exact oa c 88
  rw [h];by_cases u:c.toNat<48
  ·have d:decide (((c.toNat:Nat):Int)<48)=true:=by simp;omega
   have g:decide (48<=c.toNat)=false:=by simp;omega
   rw [d,g];cases (c==88)<;>rfl
  ·have d:decide (((c.toNat:Nat):Int)<48)=false:=by simp;omega
   have g:decide (48<=c.toNat)=true:=by simp;omega
   rw [d,g];by_cases t:c.toNat<=57
   ·have f:decide (((c.toNat:Nat):Int)>57)=false:=by simp;omega
    have l:decide (c.toNat<=57)=true:=by simp;omega
    rw [f,l];rfl
   ·have f:decide (((c.toNat:Nat):Int)>57)=true:=by simp;omega
    have l:decide (c.toNat<=57)=false:=by simp;omega
    rw [f,l];cases (c==88)<;>rfl
 ·have:decide (S.length<=j)=true:=by simp;omega
  rw [this,jr m];rfl
theorem Lu (n:Nat) (s:10<n) (S:aa) (a:Nat) (h:a<=S.length) (l:S.length<100000) (e:Int):
  jU n S (a:Int) e=some (if twoN (S.drop a)<2 then ([],S,((a+twoN (S.drop a):Nat):Int),5) else ((S.drop a).take 2,S,((a+2:Nat):Int),e)):=by
 obtain ⟨n,rfl⟩:∃j,n=j+3:=⟨n - 3,by omega⟩;unfold jU;rw [ar,GF (n+3) S 0 (a:Int) 0 e a l (by omega) h (by omega)];cases k:S.drop a with
 | nil=>rfl
 | cons c r=>
  obtain ⟨o,t,i⟩:=od k;cases hc:isDX c with
  | false=>
   have:twoN (c::r)=0:=by unfold twoN;simp [bE,hc]
   rw [this];simp [hc,ob]
  | true=>
   simp only [hc,aJ];rw [ar,GF (n+3) S 0 (a:Int) (0+1) e (a+1) l (by omega) (by omega) (by omega),i];cases r with
   | nil=>
    have:twoN [c]=1:=by unfold twoN;simp [bE,hc]
    rw [this];rfl
   | cons d f=>
    obtain ⟨g,q,m⟩:=od i;cases b:isDX d with
    | false=>
     have:twoN (c::d::f)=1:=by unfold twoN;simp [bE,hc,b]
     rw [this];simp [b,ob]
    | true=>
     have:twoN (c::d::f)=2:=by unfold twoN;simp [bE,hc,b]
     rw [this];simp only [b,aJ];have p:ib (n+3) ((a:Int),0+1+1,S,((a+1+1:Nat):Int),e,[],0,0)=some (.inr (.inr ((a:Int),S,((a+1+1:Nat):Int),e,[],0,0))):=rfl;rw [ar,p];show ob (bx S.length ((a+1+1:Nat):Int)) _=_;rw [ef (show a+1+1<=S.length by omega)];show ob (bx (a+1+1) (a:Int)) _=_;rw [ef (show a<=a+1+1 by omega)];have:List.drop a (List.take (a+1+1) S)=[c,d]:=by
      rw [xw,k];have:a+1+1 - a=2:=by omega
      rw [this];rfl
     show some (List.drop a (List.take (a+1+1) S),S,((a+1+1:Nat):Int),e)=_;rw [this];rfl
theorem cutD (r:Nat) (h:r<10):List.drop r (List.take (r+1) ([48,49,50,51,52,53,54,55,56,57]:aa))=[UInt8.ofNat (48+r)]:=by
 have:∀r,r<10->List.drop r (List.take (r+1) ([48,49,50,51,52,53,54,55,56,57]:aa))=[UInt8.ofNat (48+r)]:=by decide
 exact this r h
theorem CW {k:Nat} (h:k<10):Lib.decDigits k=[UInt8.ofNat (48+k)]:=by
 rw [Lib.decDigits,dif_pos h]
theorem Aw {k:Nat} (h:¬k<10) (a:k<100):Lib.decDigits k=[UInt8.ofNat (48+k / 10),UInt8.ofNat (48+k%10)]:=by
 rw [Lib.decDigits,dif_neg h,CW (by omega)];rfl
theorem N4 (n k:Nat) (h:k<100):aH n (k:Int)=some (Lib.decDigits k):=by
 have c:Int.tmod (k:Int) 10=((k%10:Nat):Int):=rfl;have g:Int.tdiv (k:Int) 10=((k / 10:Nat):Int):=rfl;have f:IntKind.wrap .i64 (((k%10:Nat):Int)+1)=((k%10+1:Nat):Int):=by rw [wrap_i64 _ (by omega) (by omega)];omega
 have b:IntKind.wrap .i64 ((k / 10:Nat):Int)=((k / 10:Nat):Int):=wrap_i64 _ (by omega) (by omega);have d:IntKind.wrap .i64 (((k / 10:Nat):Int)+1)=((k / 10+1:Nat):Int):=by rw [wrap_i64 _ (by omega) (by omega)];omega
 simp only [aH,c,g,f,b,d,ef (show k%10+1<=10 by omega),ef (show k%10<=k%10+1 by omega),ob,cutD (k%10) (by omega)];by_cases a:k<10
 ·have e:decide ((k:Int)>=10)=false:=aq (by omega);rw [e,af,CW a,qR a]
 ·have e:decide ((k:Int)>=10)=true:=am (by omega);rw [e,ah,ef (show k / 10+1<=10 by omega)];simp only [];rw [ef (show k / 10<=k / 10+1 by omega)];simp only [cutD (k / 10) (by omega)];rw [ci (by simp),Aw a h];rfl
def eo (letter:UInt8) (v:Nat):aa:=if 0<v then letter::Lib.decDigits v else []
theorem M7 {k:Nat} (h:k<100):1<=(Lib.decDigits k).length/\(Lib.decDigits k).length<=2:=by
 by_cases a:k<10
 ·rw [CW a];simp
 ·rw [Aw a h];simp
theorem xY (letter:UInt8) {k:Nat} (h:k<100):(eo letter k).length<=3:=by
 unfold eo;split
 ·have:=M7 h;simp only [az];omega
 ·simp
theorem kE (g l:Bool) (d:aa) (x s:Nat):gM g l d (x:Int) (s:Int)=(if l then [89] else [])++(if g then [45] else [])++d++eo 69 x++eo 83 s:=by
 unfold gM eo;simp only [cb];have b:(0<(x:Int))=(0<x):=by simp
 have a:(0<(s:Int))=(0<s):=by simp
 simp only [b,a]
theorem OH (n:Nat) (g l:Bool) (d:aa) (x s:Nat) (hx:x<100) (hs:s<100) (t:d.length<=1000):kT n g l d (x:Int) (s:Int)=some (gM g l d (x:Int) (s:Int)):=by
 have m:=M7 hx;have o:=M7 hs;have ex:decide ((x:Int)>0)=decide (0<x):=by simp
 have k:decide ((s:Int)>0)=decide (0<s):=by simp
 have i:∀a:aa,a.length<=1100->(cond (decide (0<x)) (ob (aH n (x:Int)) λr=>(ob (cat ([69]:aa) r) λp=>(cat a p))) (some a))=some (a++eo 69 x):=by
  intro a e;unfold eo;by_cases h:0<x
  ·rw [am h,ah,ae h,N4 n x hx];simp only [ob];rw [ci (by simp;omega)];simp only [];rw [ci (by simp;omega)];rfl
  ·rw [aq h,ab h];simp
 have f:∀a:aa,a.length<=1200->(cond (decide (0<s)) (ob (aH n (s:Int)) λr=>(ob (cat ([83]:aa) r) λp=>(ob (cat a p) λq=>(some q)))) (some a))=some (a++eo 83 s):=by
  intro a e;unfold eo;by_cases h:0<s
  ·rw [am h,ah,ae h,N4 n s hs];simp only [ob];rw [ci (by simp;omega)];simp only [];rw [ci (by simp;omega)];rfl
  ·rw [aq h,ab h];simp
 have b:∀a:aa,a.length<=1100->(cond (decide (0<x)) (ob (aH n (x:Int)) λr=>(ob (cat ([69]:aa) r) λp=>(ob (cat a p) λz=>(cond (decide (0<s)) (ob (aH n (s:Int)) λr=>(ob (cat ([83]:aa) r) λp=>(ob (cat z p) λq=>(some q)))) (some z))))) (cond (decide (0<s)) (ob (aH n (s:Int)) λr=>(ob (cat ([83]:aa) r) λp=>(ob (cat a p) λq=>(some q)))) (some a)))=some (a++eo 69 x++eo 83 s):=by
  intro a e;have c:=i a e;by_cases h:0<x
  ·rw [am h,ah] at c ⊢;rw [N4 n x hx] at c ⊢;simp only [ob] at c ⊢;rw [ci (a:=[69]) (by simp;omega)] at c ⊢;simp only [] at c ⊢;rw [c];simp only [];have:=f (a++eo 69 x) (by have:=xY 69 hx;simp only [aU];omega);simp only [ob] at this;exact this
  ·rw [aq h,af];have j:eo 69 x=[]:=by unfold eo;rw [ab h]
   rw [j,lw];exact f a (by omega)
 rw [kE];unfold kT;rw [ex,k];cases l<;>cases g
 ·rw [af,af,ci (by simp;omega)];exact b d (by omega)
 ·rw [af,ah,ci (by simp;omega)];exact b ([45]++d) (by simp;omega)
 ·rw [ah,af,ci (by simp;omega)];exact b ([89]++d) (by simp;omega)
 ·rw [ah,ah,ci (by simp;omega)];exact b ([89,45]++d) (by simp;omega)
def cY (p:UInt8->Bool) (l:aa):Prop:=∀c,l.head?=some c->p c=false
theorem rh {k:Nat} (h:k<10):(UInt8.ofNat (48+k)).toNat=48+k:=by
 rw [FY];exact qR (by omega)
theorem Dw (letter:UInt8) (v:Nat) (post:aa) (i:v<100) (k:cY bw post) (j:cY (λc=>c==letter) post):numS letter (eo letter v++post)=.inr (v,(eo letter v).length):=by
 unfold eo;by_cases h:0<v
 ·rw [ae h];by_cases f:v<10
  ·rw [CW f];have b:=rh f;simp only [eU,dW];rw [og,ae rfl,o6,ae (by omega)];have a:48+v - 48=v:=by omega
   cases post with
   | nil=>
    rw [uC,b,a];rfl
   | cons e r=>
    have d:¬bw e=true:=by rw [k e rfl];simp
    rw [nN,ab d,b,a];rfl
  ·rw [Aw f i];have b:=rh (show v / 10<10 by omega);have d:=rh (show v%10<10 by omega);simp only [eU,dW];rw [og,ae rfl,o6,ae (by omega),nN,ae ((cr _).2 (by omega)),b,d];rw [show 10*(48+v / 10 - 48)+(48+v%10 - 48)=v by omega];rfl
 ·rw [ab h];have g:v=0:=by omega
  subst g;cases post with
  | nil=>rfl
  | cons c r=>
   have hc:c≠letter:=by
    have:=j c rfl;simpa using this
   rw [dW,og,ab hc];rfl
theorem yc (letter:UInt8) (l:aa) (v k:Nat) (h:numS letter l=.inr (v,k)):v<100/\l.take k=eo letter v/\k<=l.length:=by
 cases l with
 | nil=>
  simp only [vY,oO,aY] at h;obtain ⟨rfl,rfl⟩:=h;exact ⟨by omega,rfl,by simp⟩
 | cons c r=>
  rw [og] at h;by_cases hc:c=letter
  ·rw [ae hc] at h;cases r with
   | nil=>simp [AW] at h
   | cons d g=>
    rw [o6] at h;by_cases j:49<=d.toNat/\d.toNat<=57
    ·rw [ae j] at h;have i:d.toNat - 48<10:=by omega
     have a:UInt8.ofNat (48+(d.toNat - 48))=d:=by
      apply gy.1;rw [rh i];omega
     have one:(c::d::g).take 2=eo letter (d.toNat - 48):=by
      unfold eo;rw [ae (by omega),CW i,a,hc];rfl
     cases g with
     | nil=>
      simp only [uC,oO,aY] at h;obtain ⟨rfl,rfl⟩:=h;exact ⟨by omega,one,by simp⟩
     | cons e p=>
      rw [nN] at h;by_cases b:bw e=true
      ·rw [ae b] at h;simp only [oO,aY] at h;obtain ⟨rfl,rfl⟩:=h;have m:=(cr e).1 b;refine ⟨by omega,?_,by simp⟩;unfold eo;have o:(10*(d.toNat - 48)+(e.toNat - 48)) / 10=d.toNat - 48:=by omega
       have n:(10*(d.toNat - 48)+(e.toNat - 48))%10=e.toNat - 48:=by omega
       have f:UInt8.ofNat (48+(e.toNat - 48))=e:=by
        apply gy.1;rw [rh (by omega)];omega
       rw [ae (by omega),Aw (by omega) (by omega),o,n,a,f,hc];rfl
      ·rw [ab b] at h;simp only [oO,aY] at h;obtain ⟨rfl,rfl⟩:=h;exact ⟨by omega,one,by simp⟩
    ·rw [ab j] at h;cases h
  ·rw [ab hc] at h;simp only [oO,aY] at h;obtain ⟨rfl,rfl⟩:=h;exact ⟨by omega,rfl,by simp⟩
theorem yO {p:UInt8->Bool}:∀(r:aa) (k:Nat) (post:aa),(∀c∈r,p c=true)->r.length<=k->(cY p post\/r.length=k)->bE p k (r++post)=r.length
 | [],0,post,_,_,_=>by simp [bE]
 | [],k+1,post,_,_,h=>by
  cases post with
  | nil=>simp [bE]
  | cons c q=>
   rcases h with h | h
   ·have:=h c rfl;simp [bE,this]
   ·simp at h
 | c::r,0,post,_,h,_=>by simp at h
 | c::r,k+1,post,hp,a,h=>by
  have ih:=yO r k post (λd b=>hp d (by simp [b])) (by simpa using a) (by
   rcases h with h | h
   ·exact .inl h
   ·exact .inr (by simpa using h))
  simp only [eU,bE,hp c (by simp),aJ,ih,az]
theorem zl {p:UInt8->Bool}:∀(k:Nat) (l:aa),∀c∈l.take (bE p k l),p c=true
 | 0,l=>by simp [bE]
 | k+1,[]=>by simp [bE]
 | k+1,c::l=>by
  simp only [bE];by_cases h:p c=true
  ·rw [ae h];intro d a;rw [n6,dr] at a;rcases a with rfl | a
   ·exact h
   ·exact zl k l d a
  ·rw [ab h];simp
theorem se {letter:UInt8} {v:Nat} {post:aa} {p:UInt8->Bool} (b:p letter=false) (a:cY p post):cY p (eo letter v++post):=by
 unfold eo;intro c hc;by_cases h:0<v
 ·rw [ae h] at hc;simp only [eU,pp,au] at hc;rw [<-hc];exact b
 ·rw [ab h] at hc;exact a c hc
def isYC (c:UInt8):Bool:=isDX c||c==69||c==83
theorem Q4 {l:aa} (h:cY isYC l):cY bw l:=λc hc=>by
 have:=h c hc;unfold isYC isDX at this;simp only [pw] at this;exact this.1.1.1
theorem Ys {l:aa} (h:cY isYC l):cY isDX l:=λc hc=>by
 have:=h c hc;unfold isYC at this;simp only [pw] at this;exact this.1.1
theorem XJ {l:aa} (h:cY isYC l):cY (λc=>c==69) l:=λc hc=>by
 have:=h c hc;unfold isYC at this;simp only [pw] at this;exact this.1.2
theorem XR {l:aa} (h:cY isYC l):cY (λc=>c==83) l:=λc hc=>by
 have:=h c hc;unfold isYC at this;simp only [pw] at this;exact this.2
theorem nP (c:UInt8) (l:aa):fw c (c::l)=1:=by rw [kN,ae rfl]
theorem o8 {c a:UInt8} (h:a≠c) (l:aa):fw c (a::l)=0:=by rw [kN,ab h]
theorem JY {g l:Bool} {d:aa} {x s:Nat} (h:okY g l d (x:Int) (s:Int)) (post:aa) (hp:cY isYC post):pT (gM g l d (x:Int) (s:Int)++post)=.inr (g,l,d,x,s,(gM g l d (x:Int) (s:Int)).length):=by
 have L:=kz h;have j:numS 83 (eo 83 s++post)=.inr (s,(eo 83 s).length):=Dw 83 s post (by omega) (Q4 hp) (XR hp);have p:cY bw (eo 83 s++post):=se (by decide) (Q4 hp);have M:cY isDX (eo 83 s++post):=se (by decide) (Ys hp);rw [kE];cases l with
 | true=>
  have H:okL d (x:Int) (s:Int):=by simpa [okY] using h
  obtain ⟨⟨b,n,z,A,F,G,J,O⟩,N,K⟩:=H;obtain ⟨c,r,rfl⟩:∃c r,d=c::r:=by
   cases d with
   | nil=>simp at n
   | cons c r=>exact ⟨c,r,rfl⟩
  have t:=(cr c).1 (b c (by simp));have k:49<=c.toNat/\c.toNat<=57:=by
   have:c.toNat≠48:=λe=>A (by rw [show c=48 from gy.1 e];rfl);omega
  have a:c≠45:=by rintro rfl;exact absurd t.1 (by decide)
  have u:numS 69 (eo 69 x++(eo 83 s++post))=.inr (x,(eo 69 x).length):=Dw 69 x _ (by omega) p (se (by decide) (XJ hp));have f:bE bw 16 (r++(eo 69 x++(eo 83 s++post)))=r.length:=by
   refine yO r 16 _ (λe E=>b e (by simp [E])) (by simp only [az] at z;omega) (.inl ?_);exact se (by decide) p
  have body:∀o:Nat,tZ g o ((c::r)++(eo 69 x++(eo 83 s++post)))=.inr (g,true,c::r,x,s,o+(1+r.length)+(eo 69 x).length+(eo 83 s).length):=by
   intro o;simp only [eU,tZ];rw [ae k,f];have D:List.drop (1+r.length) (c::(r++(eo 69 x++(eo 83 s++post))))=eo 69 x++(eo 83 s++post):=by
    rw [qL,nO,En rfl]
   have C:List.drop (1+r.length+(eo 69 x).length) (c::(r++(eo 69 x++(eo 83 s++post))))=eo 83 s++post:=by
    rw [show 1+r.length+(eo 69 x).length=(r.length+(eo 69 x).length)+1 by omega,nO,<-fV,En (by simp)]
   have B:List.take (1+r.length) (c::(r++(eo 69 x++(eo 83 s++post))))=c::r:=by
    rw [qL,n6,List.take_left' rfl]
   rw [D,u];simp only [];rw [C,j,B]
  unfold pT;cases g with
  | true=>
   simp only [aJ,eU,dW,fV];rw [nP,ae rfl,nO,cf,nP];have:=body 2;simp only [eU] at this;simp only [nO,cf,show ((1:Nat)==1)=true from rfl,show 1+1=2 from rfl];rw [this];simp only [az,aU];congr 6;omega
  | false=>
   simp only [aJ,br,aB,eU,dW,fV];rw [nP,ae rfl,nO,cf,o8 a];have:=body 1;simp only [eU] at this;simp only [nO,cf,show ((0:Nat)==1)=false from rfl,cS];rw [this];simp only [az,aU];congr 6;omega
 | false=>
  have I:okS g d (x:Int) (s:Int):=by simpa [okY] using h
  obtain ⟨b,n,z,A,F,G,J⟩:=I;have y:x=0:=by omega
  subst y;have v:eo 69 0=[]:=rfl;have w:∀c∈d,isDX c=true:=λc hc=>by
   unfold isDX;rcases n c hc with q | q
   ·rw [q];rfl
   ·rw [q];simp
  have f:bE isDX 4 (d++(eo 83 s++post))=d.length:=yO d 4 _ w (by omega) (.inr b);have body:∀o:Nat,vv g o (d++(eo 83 s++post))=.inr (g,false,d,0,s,o+4+(eo 83 s).length):=by
   intro o;unfold vv;rw [f,b,ab (by omega),En b,j,List.take_left' b]
  obtain ⟨c,r,rfl⟩:∃c r,d=c::r:=by
   cases d with
   | nil=>simp at b
   | cons c r=>exact ⟨c,r,rfl⟩
  have a:c≠45:=by
   rintro rfl;rcases n 45 (by simp) with q | q
   ·exact absurd ((cr _).1 q).1 (by decide)
   ·exact absurd q (by decide)
  have m:c≠89:=by
   rintro rfl;rcases n 89 (by simp) with q | q
   ·exact absurd ((cr _).1 q).2 (by decide)
   ·exact absurd q (by decide)
  have i:(45:UInt8)≠89:=by decide
  unfold pT;rw [v];cases g with
  | true=>
   simp only [aJ,br,aB,eU,dW,fV];rw [o8 i,ab (by decide),nP,nO,cf];have:=body 1;simp only [eU] at this;rw [show ((1:Nat)==1)=true from rfl,this];simp only [az,aU] at b ⊢;congr 6;omega
  | false=>
   simp only [br,aB,eU,dW,fV];rw [o8 m,ab (by decide),o8 a,cf];have:=body 0;simp only [eU] at this;rw [show ((0:Nat)==1)=false from rfl,this];simp only [az,aU] at b ⊢;congr 6;omega
theorem uT (c:UInt8) (l:aa):l.take (fw c l)=if fw c l=1 then [c] else []:=by
 rcases mc c l with h | h
 ·rw [h];simp
 ·rw [h,ae rfl];unfold fw at h;split at h
  ·assumption
  ·cases h
theorem pj (l:aa) (i j:Nat):l.take (i+j)=l.take i++(l.drop i).take j:=by
 rw [List.take_add]
theorem qK {l:aa} {g o:Bool} {d:aa} {x s k:Nat} (h:pT l=.inr (g,o,d,x,s,k)):l.take k=gM g o d (x:Int) (s:Int)/\k<=l.length/\x<100/\s<100/\d.length<=17:=by
 rw [kE];unfold pT at h;by_cases e:fw 89 l=1
 ·rw [ae e] at h;have n:=uT 89 l;rw [e,ae rfl] at n;have f:=uT 45 (l.drop 1);have c45:=mc 45 (l.drop 1);generalize B:fw 45 (l.drop 1)=u at *;have a:l.take (1+u)=[89]++(if (u==1)=true then [45] else []):=by
   rw [pj,n,f];rcases c45 with rfl | rfl<;>rfl
  cases q:l.drop (1+u) with
  | nil=>rw [q] at h;simp [tZ] at h
  | cons c r=>
   rw [q] at h;simp only [tZ] at h;by_cases hc:49<=c.toNat/\c.toNat<=57
   ·rw [ae hc] at h;have z:=qQ bw 16 r;have C:1+bE bw 16 r<=(c::r).length:=by have:=mw bw 16 r;simp only [az];omega
    generalize F:1+bE bw 16 r=K at *;cases m:numS 69 (List.drop K (c::r)) with
    | inl j=>rw [m] at h;simp at h
    | inr p=>
     obtain ⟨G,j⟩:=p;rw [m] at h;simp only at h;cases b:numS 83 (List.drop (K+j) (c::r)) with
     | inl i=>rw [b] at h;simp at h
     | inr t=>
      obtain ⟨s',i⟩:=t;rw [b] at h;simp only [oO,aY] at h;obtain ⟨rfl,rfl,rfl,rfl,rfl,rfl⟩:=h;obtain ⟨a1,a2,E⟩:=yc _ _ _ _ m;obtain ⟨b1,b2,y⟩:=yc _ _ _ _ b;rw [bL] at E y;have D:l.length=1+u+(c::r).length:=by
       have:=bY List.length q;rw [bL] at this;simp only [az] at this ⊢;omega
      refine ⟨?_,by simp only [az] at *;omega,a1,b1,by rw [db];omega⟩;rw [show 1+u+K+j+i=(1+u)+(K+(j+i)) by omega,pj,a,q,pj _ K,pj _ j,a2,jp,b2];simp
   ·rw [ab hc] at h;simp at h
 ·rw [ab e] at h;have f:=uT 45 l;have c45:=mc 45 l;generalize B:fw 45 l=u at *;have a:l.take u=(if (u==1)=true then [45] else []):=by
   rw [f];rcases c45 with rfl | rfl<;>rfl
  unfold vv at h;by_cases A:bE isDX 4 (l.drop u)<4
  ·rw [ae A] at h;simp at h
  ·rw [ab A] at h;have v:=mw isDX 4 (l.drop u);rw [bL] at v;cases m:numS 83 (List.drop 4 (l.drop u)) with
   | inl i=>rw [m] at h;simp at h
   | inr t=>
    obtain ⟨s',i⟩:=t;rw [m] at h;simp only [oO,aY] at h;obtain ⟨rfl,rfl,rfl,rfl,rfl,rfl⟩:=h;obtain ⟨b1,b2,y⟩:=yc _ _ _ _ m;rw [bL,bL] at y;refine ⟨?_,by omega,by omega,b1,by rw [db];omega⟩;rw [show u+4+i=u+(4+i) by omega,pj,a,pj _ 4,b2];have w:eo 69 0=[]:=rfl;rw [w];simp
abbrev DR:=Bool×Bool×aa×Nat×Nat×aa×aa×(Nat×Nat×Nat)×(Nat×Nat×Nat)×Nat
def mkE (S:aa) (p:Nat):Nat:=p+mkN (S.drop p)
def rd3 (S:aa) (y:YR) (c h b g d e a:Nat) (f:aa):Nat⊕DR:=
 if twoN (S.drop (mkE S (a+1)))<2 then .inl (mkE S (a+1)+twoN (S.drop (mkE S (a+1))))
 else .inr (y.1,y.2.1,y.2.2.1,y.2.2.2.1,y.2.2.2.2.1,f,(S.drop (mkE S (a+1))).take 2,spM (c,b,mkS (S.drop (a+1))) (h,g,mkS (S.drop (mkE S (a+1)+2))),(d,e,mkE S (a+1)),mkE S (mkE S (a+1)+2))
def rd2 (S:aa) (y:YR) (b c d a:Nat):Nat⊕DR:=
 if twoN (S.drop (mkE S (a+1)))<2 then .inl (mkE S (a+1)+twoN (S.drop (mkE S (a+1))))
 else if fw 45 (S.drop (mkE S (mkE S (a+1)+2)))=0 then .inr (y.1,y.2.1,y.2.2.1,y.2.2.2.1,y.2.2.2.2.1,(S.drop (mkE S (a+1))).take 2,[],spM (b,mkS (S.drop (a+1)),0) (c,mkS (S.drop (mkE S (a+1)+2)),0),(d,mkE S (a+1),0),mkE S (mkE S (a+1)+2))
 else rd3 S y b c (mkS (S.drop (a+1))) (mkS (S.drop (mkE S (a+1)+2))) d (mkE S (a+1)) (mkE S (mkE S (a+1)+2)) ((S.drop (mkE S (a+1))).take 2)
def qH (S:aa) (a:Nat):Nat⊕DR:=match pT (S.drop (mkE S a)) with
 | .inl k=>.inl (mkE S a+k)
 | .inr y=>if 0<y.2.2.2.2.1\/fw 45 (S.drop (mkE S (mkE S a+y.2.2.2.2.2)))=0
  then .inr (y.1,y.2.1,y.2.2.1,y.2.2.2.1,y.2.2.2.2.1,[],[],spM (mkS (S.drop a),0,0) (mkS (S.drop (mkE S a+y.2.2.2.2.2)),0,0),(mkE S a,0,0),mkE S (mkE S a+y.2.2.2.2.2))
  else rd2 S y (mkS (S.drop a)) (mkS (S.drop (mkE S a+y.2.2.2.2.2))) (mkE S a) (mkE S (mkE S a+y.2.2.2.2.2))
def Vb (S:aa):Nat⊕DR->(Int×Int×aa×Int)⊕(Bool×Bool×aa×Int×Int×aa×aa×Int×Int×Int×List Int×aa×Int)
 | .inl k=>.inl ((k:Int),5,S,(k:Int))
 | .inr (g,l,dg,x,s,m,d,M,P,e)=>.inr (g,l,dg,(x:Int),(s:Int),m,d,(M.1:Int),(M.2.1:Int),(M.2.2:Int),l3 P,S,(e:Int))
theorem lE {S:aa} {p:Nat} (h:p<=S.length):mkE S p<=S.length:=by
 have:=Xg (S.drop p);rw [bL] at this;unfold mkE;omega
theorem vA {S:aa} {p:Nat} (a:¬twoN (S.drop p)<2):p+2<=S.length:=by
 have:=mw isDX 2 (S.drop p);unfold twoN at a;rw [bL] at this;omega
theorem rS {S:aa} {p:Nat} (h:¬fw 45 (S.drop p)=0):p+1<=S.length:=by
 have:=Af 45 (S.drop p);rw [bL] at this;omega
theorem Qw (n:Nat) (g l:Bool) (d:aa) (x s:Int) (b a:aa) (k0 k1 k2:Int) (S:aa) (p:Nat) (h:p<=S.length) (c:S.length<100000) (e:S.length<n):
  kn n g l d x s b a k0 k1 k2 S (p:Int)=some (match pT (S.drop p) with
   | .inl k=>.inl (((p+k:Nat):Int),5,g,l,d,x,s,b,a,k0,k1,k2,S,((p+k:Nat):Int))
   | .inr y=>.inr (y.1,y.2.1,y.2.2.1,(y.2.2.2.1:Int),(y.2.2.2.2.1:Int),b,a,k0,k1,k2,S,((p+y.2.2.2.2.2:Nat):Int))):=by
 unfold kn;rw [SV n S p h c e];cases pT (S.drop p) with
 | inl k=>rfl
 | inr y=>rfl
theorem Qd (n:Nat) (g l:Bool) (d:aa) (x s:Int) (c b:aa) (k0 k1 k2:Int) (S:aa) (p:Nat) (h:p<=S.length) (f:S.length<100000) (e:S.length<n):
  kA n g l d x s c b k0 k1 k2 S (p:Int)=some (if twoN (S.drop p)<2
   then .inl (((p+twoN (S.drop p):Nat):Int),5,g,l,d,x,s,c,b,k0,k1,k2,S,((p+twoN (S.drop p):Nat):Int))
   else .inr (g,l,d,x,s,(S.drop p).take 2,b,k0,k1,k2,S,((p+2:Nat):Int))):=by
 unfold kA;rw [QW n S p h f e];by_cases a:twoN (S.drop p)<2
 ·rw [ae a,ae a];rfl
 ·rw [ab a,ab a];rfl
theorem OF (n:Nat) (g l:Bool) (d:aa) (x s:Int) (b c:aa) (k0 k1 k2:Int) (S:aa) (p:Nat) (h:p<=S.length) (f:S.length<100000) (e:S.length<n):
  ky n g l d x s b c k0 k1 k2 S (p:Int)=some (if twoN (S.drop p)<2
   then .inl (((p+twoN (S.drop p):Nat):Int),5,g,l,d,x,s,b,c,k0,k1,k2,S,((p+twoN (S.drop p):Nat):Int))
   else .inr (g,l,d,x,s,b,(S.drop p).take 2,k0,k1,k2,S,((p+2:Nat):Int))):=by
 unfold ky;rw [QW n S p h f e];by_cases a:twoN (S.drop p)<2
 ·rw [ae a,ae a];rfl
 ·rw [ab a,ab a];rfl
theorem S0 (m:Nat) (S:aa) (a:Nat) (h:a<=S.length) (n:S.length<100000) (F:S.length<m+300):
  jY (m+300) S (a:Int)=some (Vb S (qH S a)):=by
 have j:∀p,p<=S.length->cL (m+300) S (p:Int)=some (.inr (((mkS (S.drop p):Nat):Int),S,((mkE S p:Nat):Int))):=λp hp=>RN m S p hp n;have b:∀p,mkS (S.drop p)<4:=λp=>C3 _;have t:∀p q,eN (m+300) [((mkS (S.drop p):Nat):Int),0,0] [((mkS (S.drop q):Nat):Int),0,0] 1=some (l3 (spM (mkS (S.drop p),0,0) (mkS (S.drop q),0,0)),0):=λp q=>
  xn (m+300) (by omega) 1 (mkS (S.drop p),0,0) (mkS (S.drop q),0,0) (by omega) ⟨b p,by simp,by simp,by simp,by simp⟩ ⟨b q,by simp,by simp,by simp,by simp⟩
 have D:∀p q d c,eN (m+300) [((mkS (S.drop p):Nat):Int),((mkS (S.drop d):Nat):Int),0] [((mkS (S.drop q):Nat):Int),((mkS (S.drop c):Nat):Int),0] 2=some (l3 (spM (mkS (S.drop p),mkS (S.drop d),0) (mkS (S.drop q),mkS (S.drop c),0)),0):=λp q d c=>
  xn (m+300) (by omega) 2 (mkS (S.drop p),mkS (S.drop d),0) (mkS (S.drop q),mkS (S.drop c),0) (by omega) ⟨b p,b d,by simp,by simp,by simp⟩ ⟨b q,b c,by simp,by simp,by simp⟩
 have C:∀p q d c i e,eN (m+300) [((mkS (S.drop p):Nat):Int),((mkS (S.drop d):Nat):Int),((mkS (S.drop i):Nat):Int)] [((mkS (S.drop q):Nat):Int),((mkS (S.drop c):Nat):Int),((mkS (S.drop e):Nat):Int)] 3=some (l3 (spM (mkS (S.drop p),mkS (S.drop d),mkS (S.drop i)) (mkS (S.drop q),mkS (S.drop c),mkS (S.drop e))),0):=λp q d c i e=>
  xn (m+300) (by omega) 3 (mkS (S.drop p),mkS (S.drop d),mkS (S.drop i)) (mkS (S.drop q),mkS (S.drop c),mkS (S.drop e)) (by omega) ⟨b p,b d,b i,by simp,by simp⟩ ⟨b q,b c,b e,by simp,by simp⟩
 have b0:=lE h;unfold jY qH;rw [j a h];simp only [ob,CL];rw [Qw _ _ _ _ _ _ _ _ _ _ _ S (mkE S a) b0 n F];cases J:pT (S.drop (mkE S a)) with
 | inl k=>rfl
 | inr y=>
  obtain ⟨g,l,dg,x,s,k⟩:=y;have bk:mkE S a+k<=S.length:=by
   have:=(qK J).2.1;rw [bL] at this;omega
  have b1:=lE bk;simp only [ob,d4,d8];rw [j (mkE S a+k) bk];simp only [ob];by_cases hs:0<s
  ·have:decide (((s:Nat):Int)>0)=true:=by simp;omega
   rw [this,ae (.inl hs)];simp only [ah];rw [t];rfl
  ·have:decide (((s:Nat):Int)>0)=false:=by simp;omega
   rw [this];simp only [af];rw [uB (m+300) 45 S _ b1 n];simp only [ob];by_cases o:fw 45 (S.drop (mkE S (mkE S a+k)))=0
   ·rw [ae (.inr o),o];simp only [show ((0:Nat)==1)=false from rfl,ij,ah,cS];rw [t];rfl
   ·have B:fw 45 (S.drop (mkE S (mkE S a+k)))=1:=(mc 45 _).resolve_left o;have v:=rS o;rw [ab (λz=>z.elim hs o),B];simp only [show ((1:Nat)==1)=true from rfl,cv,af];unfold rd2;rw [j _ v];simp only [ob];have H:=lE v;rw [Qd _ _ _ _ _ _ _ _ _ _ _ S _ H n F];by_cases A:twoN (S.drop (mkE S (mkE S (mkE S a+k)+1)))<2
    ·rw [ae A,ae A];rfl
    ·rw [ab A,ab A];have b2:=vA A;simp only [ob,d4,d8];rw [j _ b2];simp only [ob];rw [this];simp only [af];have I:=lE b2;rw [uB (m+300) 45 S _ I n];simp only [ob];by_cases f:fw 45 (S.drop (mkE S (mkE S (mkE S (mkE S a+k)+1)+2)))=0
     ·rw [ae f,f];simp only [show ((0:Nat)==1)=false from rfl,ij,ah,cS];rw [D];rfl
     ·have w:=(mc 45 (S.drop (mkE S (mkE S (mkE S (mkE S a+k)+1)+2)))).resolve_left f;have u:=rS f;rw [ab f,w];simp only [show ((1:Nat)==1)=true from rfl,cv,af];unfold rd3;rw [j _ u];simp only [ob];have E:=lE u;rw [OF _ _ _ _ _ _ _ _ _ _ _ S _ E n F];by_cases r:twoN (S.drop (mkE S (mkE S (mkE S (mkE S (mkE S a+k)+1)+2)+1)))<2
      ·rw [ae r,ae r];rfl
      ·rw [ab r,ab r];have G:=vA r;simp only [ob,d4,d8];rw [j _ G];simp only [ob];rw [C];rfl
def To (S:aa) (P:List Int):Nat⊕DR->Bool×Bool×aa×Int×Int×aa×aa×Int×Int×Int×List Int×aa×Int×Int
 | .inl k=>(false,false,[],0,0,[],[],0,0,0,P,S,(k:Int),5)
 | .inr (g,l,dg,x,s,m,d,M,Q,e)=>(g,l,dg,(x:Int),(s:Int),m,d,(M.1:Int),(M.2.1:Int),(M.2.2:Int),l3 Q,S,(e:Int),0)
abbrev RdSt:=aa×Int×Int×List Int×Bool×Bool×aa×Int×Int×aa×aa×List Int×List Int×List Int×aa×Int×Int
def rdSt (S:aa) (i:Int) (g l:Bool) (dg:aa) (x s:Int) (b a:aa) (P A B:List Int) (p:Nat):RdSt:=
 (S,i,i,[0,0,0],g,l,dg,x,s,b,a,P,A,B,S,(p:Int),0)
theorem XK (m:Nat) (S:aa) (a:Nat) (h:a<=S.length) (b:S.length<100000) (e:S.length<m+300):
  bf (m+300) (rdSt S 0 false false [] 0 0 [] [] [0,0,0] [0,0,0] [0,0,0] a)=some (match pT (S.drop (mkE S a)) with
   | .inl k=>.inr (.inr (false,false,[],0,0,[],[],0,0,0,[((mkE S a:Nat):Int),0,0],S,((mkE S a+k:Nat):Int),5))
   | .inr y=>.inl (rdSt S 1 y.1 y.2.1 y.2.2.1 (y.2.2.2.1:Int) (y.2.2.2.2.1:Int) [] [] [((mkE S a:Nat):Int),0,0] [((mkS (S.drop a):Nat):Int),0,0] [((mkS (S.drop (mkE S a+y.2.2.2.2.2)):Nat):Int),0,0] (mkE S (mkE S a+y.2.2.2.2.2)))):=by
 have c:∀p,p<=S.length->eP (m+300) S (p:Int) 0=some (((mkS (S.drop p):Nat):Int),S,((mkE S p:Nat):Int),0):=λp hp=>A5 m S p hp b 0;have b0:=lE h;unfold bf rdSt;simp only [d4,d8,d16,fW,show (decide ((0:Int)<3))=true from rfl,show (decide ((0:Int)>0))=false from rfl,ah,af,ob];rw [c a h];simp only [ob,show ix 3 0=some 0 from rfl,show Nat.blt 0 3=true from rfl,ah,fZ,show ((0:Int)==0)=true from rfl];rw [O1 (m+300) S (mkE S a) b0 b e];cases d:pT (S.drop (mkE S a)) with
 | inl k=>rfl
 | inr y=>
  obtain ⟨g,l,dg,x,s,k⟩:=y;have bk:mkE S a+k<=S.length:=by
   have:=(qK d).2.1;rw [bL] at this;omega
  simp only [oQ,ob,d4,d8,d16,show ((0:Int) != 0)=false from rfl,af];rw [c _ bk];rfl
theorem Yp (m:Nat) (S:aa) (g l:Bool) (dg:aa) (x s:Nat) (e f k:Int) (q:Nat) (h:q<=S.length) (r:S.length<100000) (t:S.length<m+300):
  bf (m+300) (rdSt S 1 g l dg (x:Int) (s:Int) [] [] [e,0,0] [f,0,0] [k,0,0] q)=some (
   if 0<s\/fw 45 (S.drop q)=0 then .inr (.inl (1,false,false,[],0,0,[],[],0,0,0,[0,0,0],[],0,0,g,l,dg,(x:Int),(s:Int),[],[],0,0,0,[e,0,0],[f,0,0],[k,0,0],S,(q:Int),0))
   else if twoN (S.drop (mkE S (q+1)))<2 then .inr (.inr (false,false,[],0,0,[],[],0,0,0,[e,((mkE S (q+1):Nat):Int),0],S,((mkE S (q+1)+twoN (S.drop (mkE S (q+1))):Nat):Int),5))
   else .inl (rdSt S 2 g l dg (x:Int) (s:Int) ((S.drop (mkE S (q+1))).take 2) [] [e,((mkE S (q+1):Nat):Int),0] [f,((mkS (S.drop (q+1)):Nat):Int),0] [k,((mkS (S.drop (mkE S (q+1)+2)):Nat):Int),0] (mkE S (mkE S (q+1)+2)))):=by
 have o:∀p,p<=S.length->eP (m+300) S (p:Int) 0=some (((mkS (S.drop p):Nat):Int),S,((mkE S p:Nat):Int),0):=λp hp=>A5 m S p hp r 0;unfold bf rdSt;simp only [d4,d8,d16,fW,iI,show (decide ((1:Int)<3))=true from rfl,show (decide ((1:Int)>0))=true from rfl,ah,af,ob,ma];by_cases hs:0<s
 ·have:decide (((s:Nat):Int)>0)=true:=by simp;omega
  rw [this,ae (.inl hs)];rfl
 ·have:decide (((s:Nat):Int)>0)=false:=by simp;omega
  rw [this];simp only [af];rcases aG q S.length with j | n
  ·obtain ⟨c,hc⟩:∃c,S[q]?=some c:=⟨S[q],be j⟩;have b:decide (S.length<=q)=false:=by simp;omega
   rw [b];simp only [af,dI hc,ob];have i:(((c.toNat:Nat):Int) != 45)=!(c==45):=by rw [bne];congr 1;exact oa c 45
   rw [i,bS hc,kN];by_cases a:c=45
   ·have w:IntKind.wrap .i64 ((q:Int)+1)=((q+1:Nat):Int):=by rw [wrap_i64 _ (by omega) (by omega)];omega
    rw [ae a,ab (show ¬(0<s\/(1:Nat)=0) from λz=>z.elim hs (by omega)),a];simp only [rF,cv,af,ob,w];rw [o _ (by omega)];simp only [ob,show ix 3 1=some 1 from rfl,show Nat.blt 1 3=true from rfl,ah,fZ,iL,show ((1:Int)==0)=false from rfl,show ((1:Int)==1)=true from rfl,af];have b1:=lE (show q+1<=S.length by omega);rw [Lu (m+300) (by omega) S _ b1 r 0];by_cases d:twoN (S.drop (mkE S (q+1)))<2
    ·rw [ae d,ae d];rfl
    ·rw [ab d,ab d];simp only [ob,d4,d8,d16,show ((0:Int) != 0)=false from rfl,af];rw [o _ (vA d)];rfl
   ·have:(c==45)=false:=aL.2 a;rw [ab a,ae (.inr rfl),this];rfl
  ·have b:decide (S.length<=q)=true:=by simp;omega
   rw [b,jr n,xQ,ae (.inr rfl)];rfl
theorem XA (m:Nat) (S:aa) (g l:Bool) (dg:aa) (x s:Nat) (o:aa) (f j t e i r:Int) (q:Nat) (h:q<=S.length) (y:S.length<100000) (z:S.length<m+300) (hs:¬0<s):
  bf (m+300) (rdSt S 2 g l dg (x:Int) (s:Int) o [] [f,e,0] [j,i,0] [t,r,0] q)=some (
   if fw 45 (S.drop q)=0 then .inr (.inl (2,false,false,[],0,0,[],[],0,0,0,[0,0,0],[],0,0,g,l,dg,(x:Int),(s:Int),o,[],0,0,0,[f,e,0],[j,i,0],[t,r,0],S,(q:Int),0))
   else if twoN (S.drop (mkE S (q+1)))<2 then .inr (.inr (false,false,[],0,0,[],[],0,0,0,[f,e,((mkE S (q+1):Nat):Int)],S,((mkE S (q+1)+twoN (S.drop (mkE S (q+1))):Nat):Int),5))
   else .inl (rdSt S 3 g l dg (x:Int) (s:Int) o ((S.drop (mkE S (q+1))).take 2) [f,e,((mkE S (q+1):Nat):Int)] [j,i,((mkS (S.drop (q+1)):Nat):Int)] [t,r,((mkS (S.drop (mkE S (q+1)+2)):Nat):Int)] (mkE S (mkE S (q+1)+2)))):=by
 have v:∀p,p<=S.length->eP (m+300) S (p:Int) 0=some (((mkS (S.drop p):Nat):Int),S,((mkE S p:Nat):Int),0):=λp hp=>A5 m S p hp y 0;unfold bf rdSt;simp only [d4,d8,d16,fW,iI,show (decide ((2:Int)<3))=true from rfl,show (decide ((2:Int)>0))=true from rfl,ah,af,ob,ma];have:decide (((s:Nat):Int)>0)=false:=by simp;omega
 rw [this];simp only [af];rcases aG q S.length with n | u
 ·obtain ⟨c,hc⟩:∃c,S[q]?=some c:=⟨S[q],be n⟩;have b:decide (S.length<=q)=false:=by simp;omega
  rw [b];simp only [af,dI hc,ob];have k:(((c.toNat:Nat):Int) != 45)=!(c==45):=by rw [bne];congr 1;exact oa c 45
  rw [k,bS hc,kN];by_cases a:c=45
  ·have w:IntKind.wrap .i64 ((q:Int)+1)=((q+1:Nat):Int):=by rw [wrap_i64 _ (by omega) (by omega)];omega
   rw [ae a,ab (show ¬((1:Nat)=0) by omega),a];simp only [rF,cv,af,ob,w];rw [v _ (by omega)];simp only [ob,show ix 3 2=some 2 from rfl,show Nat.blt 2 3=true from rfl,ah,fZ,iL,show ((2:Int)==0)=false from rfl,show ((2:Int)==1)=false from rfl,af];have b1:=lE (show q+1<=S.length by omega);rw [Lu (m+300) (by omega) S _ b1 y 0];by_cases d:twoN (S.drop (mkE S (q+1)))<2
   ·rw [ae d,ae d];rfl
   ·rw [ab d,ab d];simp only [ob,d4,d8,d16,show ((0:Int) != 0)=false from rfl,af];rw [v _ (vA d)];rfl
  ·have:(c==45)=false:=aL.2 a;rw [ab a,ae rfl,this];rfl
 ·have b:decide (S.length<=q)=true:=by simp;omega
  rw [b,jr u,xQ,ae rfl];rfl
theorem xe (m:Nat) (S:aa) (a:Nat) (h:a<=S.length) (o:S.length<100000) (C:S.length<m+300):
  ∃P:List Int,P.length=3/\jz (m+300) S (a:Int)=some (To S P (qH S a)):=by
 have b:∀p,mkS (S.drop p)<4:=λp=>C3 _;have u:∀p q,ej (m+300) [((mkS (S.drop p):Nat):Int),0,0] [((mkS (S.drop q):Nat):Int),0,0] 1=some (l3 (spM (mkS (S.drop p),0,0) (mkS (S.drop q),0,0))):=λp q=>
  uO (m+300) (by omega) 1 (mkS (S.drop p),0,0) (mkS (S.drop q),0,0) (by omega) ⟨b p,by simp,by simp,by simp,by simp⟩ ⟨b q,by simp,by simp,by simp,by simp⟩
 have t:∀p q d c,ej (m+300) [((mkS (S.drop p):Nat):Int),((mkS (S.drop d):Nat):Int),0] [((mkS (S.drop q):Nat):Int),((mkS (S.drop c):Nat):Int),0] 2=some (l3 (spM (mkS (S.drop p),mkS (S.drop d),0) (mkS (S.drop q),mkS (S.drop c),0))):=λp q d c=>
  uO (m+300) (by omega) 2 (mkS (S.drop p),mkS (S.drop d),0) (mkS (S.drop q),mkS (S.drop c),0) (by omega) ⟨b p,b d,by simp,by simp,by simp⟩ ⟨b q,b c,by simp,by simp,by simp⟩
 have r:∀p q d c i e,ej (m+300) [((mkS (S.drop p):Nat):Int),((mkS (S.drop d):Nat):Int),((mkS (S.drop i):Nat):Int)] [((mkS (S.drop q):Nat):Int),((mkS (S.drop c):Nat):Int),((mkS (S.drop e):Nat):Int)] 3=some (l3 (spM (mkS (S.drop p),mkS (S.drop d),mkS (S.drop i)) (mkS (S.drop q),mkS (S.drop c),mkS (S.drop e)))):=λp q d c i e=>
  uO (m+300) (by omega) 3 (mkS (S.drop p),mkS (S.drop d),mkS (S.drop i)) (mkS (S.drop q),mkS (S.drop c),mkS (S.drop e)) (by omega) ⟨b p,b d,b i,by simp,by simp⟩ ⟨b q,b c,b e,by simp,by simp⟩
 have b0:=lE h;unfold jz qH;show ∃P:List Int,P.length=3/\ob (ar (bf (m+300)) (m+299+1) (rdSt S 0 false false [] 0 0 [] [] [0,0,0] [0,0,0] [0,0,0] a)) _=_;rw [ar,XK m S a h o C];cases I:pT (S.drop (mkE S a)) with
 | inl k=>(refine ⟨_,?_,rfl⟩;rfl)
 | inr y=>
  obtain ⟨g,l,dg,x,s,k⟩:=y;have bk:mkE S a+k<=S.length:=by
   have:=(qK I).2.1;rw [bL] at this;omega
  have b1:=lE bk;show ∃P:List Int,P.length=3/\ob (ar (bf (m+300)) (m+298+1) (rdSt S 1 g l dg (x:Int) (s:Int) [] [] [((mkE S a:Nat):Int),0,0] [((mkS (S.drop a):Nat):Int),0,0] [((mkS (S.drop (mkE S a+k)):Nat):Int),0,0] (mkE S (mkE S a+k)))) _=_;rw [ar,Yp m S g l dg x s _ _ _ _ b1 o C];simp only [];by_cases hc:0<s\/fw 45 (S.drop (mkE S (mkE S a+k)))=0
  ·rw [ae hc,ae hc];refine ⟨[0,0,0],rfl,?_⟩;simp only [ob,d4,d8,d16];rw [u];rfl
  ·rw [ab hc,ab hc];have hs:¬0<s:=λz=>hc (.inl z);have w:=rS (λz=>hc (.inr z));have J:=lE w;unfold rd2;by_cases j:twoN (S.drop (mkE S (mkE S (mkE S a+k)+1)))<2
   ·rw [ae j,ae j];(refine ⟨_,?_,rfl⟩;rfl)
   ·rw [ab j,ab j];have b2:=vA j;have G:=lE b2;show ∃P:List Int,P.length=3/\ob (ar (bf (m+300)) (m+297+1) (rdSt S 2 g l dg (x:Int) (s:Int) _ [] [_,_,0] [_,_,0] [_,_,0] (mkE S (mkE S (mkE S (mkE S a+k)+1)+2)))) _=_;rw [ar,XA m S g l dg x s _ _ _ _ _ _ _ _ G o C hs];by_cases f:fw 45 (S.drop (mkE S (mkE S (mkE S (mkE S a+k)+1)+2)))=0
    ·rw [ae f,ae f];refine ⟨[0,0,0],rfl,?_⟩;simp only [ob,d4,d8,d16];rw [t];rfl
    ·rw [ab f,ab f];have v:=rS f;have F:=lE v;unfold rd3;by_cases n:twoN (S.drop (mkE S (mkE S (mkE S (mkE S (mkE S a+k)+1)+2)+1)))<2
     ·rw [ae n,ae n];(refine ⟨_,?_,rfl⟩;rfl)
     ·rw [ab n,ab n];have H:∀(D E:aa) (P A B:List Int) (p:Nat),bf (m+300) (rdSt S 3 g l dg (x:Int) (s:Int) D E P A B p)=some (.inr (.inl (3,false,false,[],0,0,[],[],0,0,0,[0,0,0],[],0,0,g,l,dg,(x:Int),(s:Int),D,E,0,0,0,P,A,B,S,(p:Int),0))):=λ_ _ _ _ _ _=>rfl;show ∃P:List Int,P.length=3/\ob (ar (bf (m+300)) (m+296+1) (rdSt S 3 g l dg (x:Int) (s:Int) _ _ _ _ _ _)) _=_;rw [ar,H];refine ⟨[0,0,0],rfl,?_⟩;simp only [ob,d4,d8,d16];rw [r];rfl
theorem t8 {g l:Bool} {d:aa} {x s:Nat} (h:okY g l d (x:Int) (s:Int)):(gM g l d (x:Int) (s:Int)).length<=25:=by
 have hs:=kz h;have c:=xY 69 (show x<100 by omega);have a:=xY 83 (show s<100 by omega);rw [kE];simp only [aU];have e:(if l=true then ([89]:aa) else []).length<=1:=by split<;>simp
 have b:(if g=true then ([45]:aa) else []).length<=1:=by split<;>simp
 omega
end Go.Sh
