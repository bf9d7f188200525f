
/- Plain proofs, kept as far as they are needed here (printed by prune.py).
   Conditions: none. -/
import Derived.Laws.RangeString
import Derived.Laws.RangeAny
import Derived.Test.YthemneooekobkabGreatDoorShQ
import Derived.Lib.IndexLaws
import Derived.Test.YthemneooekobkabGreatDoorAbsZ
set_option linter.unusedVariables false
set_option linter.unusedSimpArgs false
set_option maxRecDepth 100000
namespace Go.Sh
open Go.Abs
theorem fO {X Y:Type} {step:X->Option (X⊕Y)} (I:X->Prop) (b:X->Nat) (G:X->Y)
  (h:∀x,I x->(∃a,step x=some (.inl a)/\I a/\b a<b x/\G a=G x)\/step x=some (.inr (G x))):
  ∀(n:Nat) (x:X),I x->b x<n->ar step n x=some (G x)
 | 0,x,_,e=>by omega
 | n+1,x,hx,e=>by
  rcases h x hx with ⟨a,c,f,g,d⟩ | c
  ·simp only [ar,c];rw [fO I b G h n a f (by omega),d]
  ·simp only [ar,c]
theorem sa {X Y:Type} {step:X->Option (X⊕Y)} (I:X->Prop) (b:X->Nat) (Q:Y->Prop)
  (h:∀x,I x->(∃a,step x=some (.inl a)/\I a/\b a<b x)\/∃y,step x=some (.inr y)/\Q y):
  ∀(n:Nat) (x:X),I x->b x<n->∃y,ar step n x=some y/\Q y
 | 0,x,_,e=>by omega
 | n+1,x,hx,e=>by
  rcases h x hx with ⟨a,c,d,f⟩ | ⟨y,c,d⟩
  ·simp only [ar,c];exact sa I b Q h n a d (by omega)
  ·exact ⟨y,by simp only [ar,c],d⟩
theorem BK (x:Int):0<=IntKind.wrap .u8 x/\IntKind.wrap .u8 x<256:=by
 show 0<=x%256/\x%256<256;omega
theorem kz (x:Int) (a:0<=x) (b:x<256):IntKind.wrap .u8 x=x:=by
 show x%256=x;omega
theorem Jv (x:Int):IntKind.wrap .u8 x=x%256:=rfl
theorem wrap_i64 (x:Int) (a:-9223372036854775808<=x) (b:x<9223372036854775808):IntKind.wrap .i64 x=x:=by
 simp only [IntKind.wrap,IntKind.signed,IntKind.bits];simp;omega
theorem dI {l:aa} {i:Nat} {c:UInt8} (h:l[i]?=some c):sx l (i:Int)=some c:=by
 simp [sx,h]
theorem dZ {n i:Nat} (h:i<n):ix n (i:Int)=some i:=by
 simp [ix];omega
theorem ef {n i:Nat} (h:i<=n):bx n (i:Int)=some i:=by
 simp [bx];omega
theorem AZ {l:aa} {i:Nat} {c:UInt8} (h:l[i]?=some c) (hc:c.toNat<128):dec l i=(c.toNat,1):=by
 have a:i<l.length:=by
  rcases aH i l.length with b | b
  ·exact b
  ·rw [g9 b] at h;cases h
 have hs:i<(ByteArray.mk l.toArray).size:=a;have d:(ByteArray.mk l.toArray)[i]'hs=c:=by
  rw [bf a] at h;simp only [au] at h;exact h
 unfold dec;rw [decode_ascii _ i hs (by rw [d];exact hc),d]
theorem GT {l:aa} {i:Nat} {c:UInt8} (h:l[i]?=some c) (hc:128<=c.toNat):128<=(dec l i).1/\1<=(dec l i).2:=by
 have a:i<l.length:=by
  rcases aH i l.length with b | b
  ·exact b
  ·rw [g9 b] at h;cases h
 have hs:i<(ByteArray.mk l.toArray).size:=a;have d:(ByteArray.mk l.toArray)[i]'hs=c:=by
  rw [bf a] at h;simp only [au] at h;exact h
 unfold dec;exact decode_high _ i hs (by rw [d];exact hc)
theorem um {α:Type} {l:List α} {i:Nat} {c:α} (h:l[i]?=some c):i<l.length:=by
 rcases aH i l.length with a | a
 ·exact a
 ·rw [g9 a] at h;cases h
theorem bX {α:Type} {l:List α} {i:Nat} {c:α} (h:l[i]?=some c):l.drop i=c::l.drop (i+1):=by
 have a:=um h;rw [bf a] at h;simp only [au] at h;rw [<-h,qE a]
theorem kl {α c:Type} [BEq α] [LawfulBEq α] [DecidableEq α] (a b:α) (x y:c):(cond (a==b) x y)=if a=b then x else y:=by
 by_cases h:a=b
 ·subst h;simp
 ·rw [aK.2 h];simp [h]
theorem wb {α c:Type} [BEq α] [LawfulBEq α] [DecidableEq α] (a b:α) (x y:c):(cond (a != b) x y)=if a=b then y else x:=by
 by_cases h:a=b
 ·subst h;simp
 ·rw [bne,aK.2 h];simp [h]
theorem bD {a:Type} (p:Prop) [Decidable p] (x y:a):(cond (decide p) x y)=if p then x else y:=by
 by_cases h:p<;>simp [h]
theorem GK {a:Type} (b:Bool) (x y:a):(cond (!b) x y)=cond b y x:=by cases b<;>rfl
theorem ja (a b:Nat):(decide (((a:Nat):Int)<((b:Nat):Int)))=decide (a<b):=by
 by_cases h:a<b<;>simp [h]
theorem lZ (a b:Nat):(decide (((a:Nat):Int)>=((b:Nat):Int)))=decide (b<=a):=by
 by_cases h:b<=a<;>simp [h]
theorem nP (c d:UInt8):((((c.toNat:Nat):Int))==((d.toNat:Nat):Int))=(c==d):=by
 by_cases h:c=d
 ·subst h;simp
 ·have b:c.toNat≠d.toNat:=λe=>h (gJ.1 e);have a:((c.toNat:Nat):Int)≠((d.toNat:Nat):Int):=by omega
  rw [aK.2 a,aK.2 h]
theorem Xn (c:UInt8):UInt8.ofNat (Int.toNat ((c.toNat:Nat):Int))=c:=by simp
def two (c:Nat):aa:=[UInt8.ofNat (48+c / 10),UInt8.ofNat (48+c%10)]
def sea (m:aa):Int:=match (List.range 21).find? (λj=>m==two (21+j)) with | some j=>((21+j:Nat):Int) | none=>0
theorem lY {j:Nat} (a:j<21):sea (two (21+j))=((21+j:Nat):Int):=by
 have:((List.range 21).all λj=>sea (two (21+j))==((21+j:Nat):Int))=true:=by decide +kernel
 simpa using (List.all_eq_true.1 this) j (by simpa using a)
theorem pJ (m:aa):sea m=0\/∃j,j<21/\m=two (21+j):=by
 unfold sea;split
 ·rename_i j h;have b:=List.find?_some h;have a:=List.mem_of_find?_eq_some h;exact .inr ⟨j,by simpa using a,by simpa using b⟩
 ·exact .inl rfl
theorem pO {b:UInt8} {d:Nat} (h:Lib.digitVal b=some d):d<10/\b.toNat=48+d:=by
 unfold Lib.digitVal at h;split at h
 ·cases h;omega
 ·cases h
theorem Ot {a b:UInt8} {v:Int} (h:Lib.atoi [a,b]=some v) (o:21<=v) (p:v<42):∃j,j<21/\[a,b]=two (21+j)/\v=((21+j:Nat):Int):=by
 obtain ⟨b0,r,e,k⟩:=Lib.atoi_cases h;cases e;rcases k with ⟨_,m,_,_,i⟩ | ⟨_,m,_,c,i⟩ | ⟨_,_,m,c,i⟩
 ·omega
 ·simp only [Lib.decFrom] at c;split at c
  ·rename_i d g;have:=(pO g).1;simp only [au] at c;omega
  ·cases c
 ·simp only [Lib.decFrom] at c;split at c
  ·rename_i d g;split at c
   ·rename_i d' f;obtain ⟨k1,k2⟩:=pO g;obtain ⟨q,k4⟩:=pO f;simp only [au] at c;refine ⟨m - 21,by omega,?_,by omega⟩;have l:(21+(m - 21)) / 10=d:=by omega
    have n:(21+(m - 21))%10=d':=by omega
    unfold two;rw [l,n,<-k2,<-k4];simp
   ·cases c
  ·cases c
theorem xJ {j:Nat} (a:j<21):Lib.atoi (two (21+j))=some ((21+j:Nat):Int):=by
 have:((List.range 21).all λj=>Lib.atoi (two (21+j))==some ((21+j:Nat):Int))=true:=by decide +kernel
 simpa using (List.all_eq_true.1 this) j (by simpa using a)
theorem qM (n:Nat) (g l:Bool) (dg:aa) (x q:Int) (m d:aa) (k0 k1 k2:Int) (k:m.length<=18):bK n g l dg x q m d k0 k1 k2=some (sea m,decide (0<sea m)):=by
 have h:Nat.ble m.length 18=true:=cT k;rcases pJ m with f | ⟨j,c,rfl⟩
 ·unfold bK;rw [h,f];show opt (Lib.atoi m) _ _=_;cases o:Lib.atoi m with
  | none=>rfl
  | some v=>
   show cond _ _ _=_;by_cases i:m.length=2
   ·rw [i];obtain ⟨a,b,rfl⟩:∃a b,m=[a,b]:=by
     match m,i with
     | [a,b],_=>exact ⟨a,b,rfl⟩
    show ob (dM n v) _=_;unfold dM;rw [bD,bD];split
    ·rfl
    ·split
     ·rfl
     ·exfalso;obtain ⟨j,c,e,_⟩:=Ot o (by omega) (by omega);rw [e,lY c] at f;omega
   ·rw [show (((m.length:Nat):Int) != 2)=true by simp;omega];rfl
 ·rw [lY c];have e:bK n g l dg x q (two (21+j)) d k0 k1 k2=some (((21+j:Nat):Int),true):=by
   unfold bK;rw [h,xJ c];show ob (dM n ((21+j:Nat):Int)) _=_;unfold dM;rw [bD,bD,ab (by omega),ab (by omega)];rfl
  rw [e];have:decide (0<((21+j:Nat):Int))=true:=by simp;omega
  rw [this]
theorem Lx (n:Nat) {c:Nat} (hc:c<100):gC n (c:Int)=some (two c):=by
 have f:Int.tdiv (c:Int) 10=((c / 10:Nat):Int):=by
  rw [show (10:Int)=((10:Nat):Int) from rfl,<-Int.ofNat_tdiv]
 have k:Int.tmod (c:Int) 10=((c%10:Nat):Int):=by
  rw [show (10:Int)=((10:Nat):Int) from rfl,<-Int.ofNat_tmod]
 have e:c / 10<10:=by omega
 have i:c%10<10:=by omega
 unfold gC;rw [f,k];have h:IntKind.wrap .i64 ((c / 10:Nat):Int)=((c / 10:Nat):Int):=wrap_i64 _ (by omega) (by omega);have g:IntKind.wrap .i64 (((c / 10:Nat):Int)+1)=((c / 10+1:Nat):Int):=by rw [wrap_i64 _ (by omega) (by omega)];omega
 have j:IntKind.wrap .i64 (((c%10:Nat):Int)+1)=((c%10+1:Nat):Int):=by rw [wrap_i64 _ (by omega) (by omega)];omega
 rw [h,g,j,ef (by omega),ef (by omega)];show ob (bx (c / 10+1) ((c / 10:Nat):Int)) _=_;rw [ef (by omega)];show ob (bx (c%10+1) ((c%10:Nat):Int)) _=_;rw [ef (by omega)];unfold two;generalize c / 10=a at *;generalize c%10=b at *;have:((List.range 10).all λa=>(List.range 10).all λb=>ob (cat (List.drop a (List.take (a+1) ([48,49,50,51,52,53,54,55,56,57]:aa))) (List.drop b (List.take (b+1) ([48,49,50,51,52,53,54,55,56,57]:aa)))) (λs=>some s)==some [UInt8.ofNat (48+a),UInt8.ofNat (48+b)])=true:=by decide +kernel
 have d:=(cK.1 ((cK.1 this) a (by simpa using e))) b (by simpa using i);simpa using d
theorem OD {m:aa} (h:∀j,j<21->m≠two (21+j)):sea m=0:=by
 rcases pJ m with b | ⟨j,a,e⟩
 ·exact b
 ·exact absurd e (h j a)
theorem wQ (n:Nat) (g l:Bool) (dg:aa) (x q:Int) (m d:aa) (k0 k1 k2:Int):∀(r j:Nat),j+r=21->(∀i,i<j->m≠two (21+i))->∀N,r<N->
  ar (bR n) N (((21+j:Nat):Int),g,l,dg,x,q,m,d,k0,k1,k2)=some (if sea m=0 then .inr () else .inl (sea m)):=by
 intro r
 induction r with
 | zero=>
  intro j c a N e;obtain ⟨N,rfl⟩:∃k,N=k+1:=⟨N - 1,by omega⟩;have hs:sea m=0:=OD (λi hi=>a i (by omega));rw [ar];have:bR n (((21+j:Nat):Int),g,l,dg,x,q,m,d,k0,k1,k2)=some (.inr (.inr ())):=by
   unfold bR;rw [bD,ab (by show ¬(((21+j:Nat):Int)<=41);omega)]
  rw [this,ae hs]
 | succ r ih=>
  intro j c a N e;obtain ⟨N,rfl⟩:∃k,N=k+1:=⟨N - 1,by omega⟩;rw [ar];by_cases b:m=two (21+j)
  ·have hs:sea m=((21+j:Nat):Int):=by rw [b];exact lY (by omega)
   have:bR n (((21+j:Nat):Int),g,l,dg,x,q,m,d,k0,k1,k2)=some (.inr (.inl ((21+j:Nat):Int))):=by
    unfold bR;rw [bD,ae (by show ((21+j:Nat):Int)<=41;omega)];show ob (gC n ((21+j:Nat):Int)) _=_;rw [Lx n (by omega)];show cond (m==two (21+j)) _ _=_;rw [kl,ae b]
   rw [this,hs,ab (by omega)]
  ·have:bR n (((21+j:Nat):Int),g,l,dg,x,q,m,d,k0,k1,k2)=some (.inl (((21+(j+1):Nat):Int),g,l,dg,x,q,m,d,k0,k1,k2)):=by
    unfold bR;rw [bD,ae (by show ((21+j:Nat):Int)<=41;omega)];show ob (gC n ((21+j:Nat):Int)) _=_;rw [Lx n (by omega)];show cond (m==two (21+j)) _ _=_;rw [kl,ab b];have:IntKind.wrap .i64 (((21+j:Nat):Int)+1)=((21+(j+1):Nat):Int):=by rw [wrap_i64 _ (by omega) (by omega)];omega
    show some (Sum.inl (IntKind.wrap .i64 (((21+j:Nat):Int)+1),_))=_;rw [this]
   rw [this]
   exact ih (j+1) (by omega) (λi hi=>by
    rcases aH i j with h | h
    ·exact a i h
    ·have:i=j:=by omega
     rw [this];exact b) N (by omega)
theorem pF (n:Nat) (a:100<n) (g l:Bool) (dg:aa) (x q:Int) (m d:aa) (k0 k1 k2:Int):aR n g l dg x q m d k0 k1 k2=some (sea m):=by
 unfold aR;have:=wQ n g l dg x q m d k0 k1 k2 21 0 rfl (λi hi=>absurd hi (by omega)) n (by omega);rw [show ((21+0:Nat):Int)=21 from rfl] at this;rw [this];by_cases h:sea m=0
 ·rw [ae h,h];rfl
 ·rw [ab h];rfl
def agr (s:aa) (k:Nat):Bool:=match s with
 | [a,b]=>(a==88||a==UInt8.ofNat (48+k / 10))&&(b==88||b==UInt8.ofNat (48+k%10))
 | _=>false
def ii (s:aa) (g:Nat):Bool:=(List.range g).any λi=>agr s (i+1)
theorem Hq {X Y:Type} {step:X->Option (X⊕Y)} {f:Nat->X} {p:Nat->Bool} {g:Nat} {yes no:Y} (h:∀k,1<=k->k<=g->step (f k)=some (if p k then .inr yes else .inl (f (k+1)))) (e:step (f (g+1))=some (.inr no)) {N:Nat} (b:g<N):
  ar step N (f 1)=some (if (List.range g).any (λi=>p (i+1)) then yes else no):=by
 have d:∀(r j:Nat),j+r=g->(∀i,i<j->p (i+1)=false)->∀N,r<N->ar step N (f (j+1))=some (if (List.range g).any (λi=>p (i+1)) then yes else no):=by
  intro r
  induction r with
  | zero=>
   intro j c a N b;obtain ⟨N,rfl⟩:∃k,N=k+1:=⟨N - 1,by omega⟩;have:(List.range g).any (λi=>p (i+1))=false:=by
    rw [sU];intro i hi;rw [a i (by have:=kX.1 hi;omega)];simp
   rw [ar,show j+1=g+1 by omega,e,this];rfl
  | succ r ih=>
   intro j c a N b;obtain ⟨N,rfl⟩:∃k,N=k+1:=⟨N - 1,by omega⟩;rw [ar,h (j+1) (by omega) (by omega)];cases hp:p (j+1) with
   | true=>
    have:(List.range g).any (λi=>p (i+1))=true:=tX.2 ⟨j,kX.2 (by omega),hp⟩;rw [this];rfl
   | false=>
    exact ih (j+1) (by omega) (λi hi=>by
     rcases aH i j with h | h
     ·exact a i h
     ·have:i=j:=by omega
      rw [this];exact hp) N (by omega)
 exact d g 0 (by omega) (λi hi=>absurd hi (by omega)) N b
theorem vJ {a:UInt8} {k:Nat} (b:k<256):((((a.toNat:Nat):Int))==((k:Nat):Int))=(a==UInt8.ofNat k):=by
 have h:(UInt8.ofNat k).toNat=k:=by simp;omega
 rw [<-nP,h]
theorem OY (n:Nat) (a b:UInt8) {g k:Nat} (r:1<=k) (s:k<=g) (q:g<=31):
  dq n ([a,b],(g:Int),(k:Int))=some (if agr [a,b] k then .inr (.inl true) else .inl ([a,b],(g:Int),((k+1:Nat):Int))):=by
 have e:Int.tdiv (k:Int) 10=((k / 10:Nat):Int):=by
  rw [show (10:Int)=((10:Nat):Int) from rfl,<-Int.ofNat_tdiv]
 have p:Int.tmod (k:Int) 10=((k%10:Nat):Int):=by
  rw [show (10:Int)=((10:Nat):Int) from rfl,<-Int.ofNat_tmod]
 have i:IntKind.wrap .u8 (48+IntKind.wrap .u8 (IntKind.wrap .i64 (Int.tdiv (k:Int) 10)))=((48+k / 10:Nat):Int):=by
  rw [e,wrap_i64 _ (by omega) (by omega),kz ((k / 10:Nat):Int) (by omega) (by omega),kz _ (by omega) (by omega)];omega
 have h:IntKind.wrap .u8 (48+IntKind.wrap .u8 (Int.tmod (k:Int) 10))=((48+k%10:Nat):Int):=by
  rw [p,kz ((k%10:Nat):Int) (by omega) (by omega),kz _ (by omega) (by omega)];omega
 have o:IntKind.wrap .i64 ((k:Int)+1)=((k+1:Nat):Int):=by rw [wrap_i64 _ (by omega) (by omega)];omega
 have c:(88:Int)=((88:Nat):Int):=rfl;have s0:sx [a,b] 0=some a:=rfl;have d:sx [a,b] 1=some b:=rfl;unfold dq;rw [bD,ae (show (k:Int)<=(g:Int) by omega)];simp only [s0,d,ob,i,h,o];rw [c,vJ (by omega),vJ (by omega),vJ (by omega),vJ (by omega)];show _=some (if ((a==UInt8.ofNat 88||a==UInt8.ofNat (48+k / 10))&&(b==UInt8.ofNat 88||b==UInt8.ofNat (48+k%10)))=true then _ else _);generalize (a==UInt8.ofNat 88)=m;generalize (b==UInt8.ofNat 88)=f;generalize (a==UInt8.ofNat (48+k / 10))=j;generalize (b==UInt8.ofNat (48+k%10))=l;cases m<;>cases f<;>cases j<;>cases l<;>rfl
theorem C0 (n:Nat) (m:100<n) (s:aa) (g:Nat) (j:g<=31):dm n s (g:Int)=some (ii s g):=by
 unfold dm;by_cases c:s.length=2
 ·obtain ⟨a,b,rfl⟩:∃a b,s=[a,b]:=by
   match s,c with
   | [a,b],_=>exact ⟨a,b,rfl⟩
  have l:dq n ([a,b],(g:Int),((g+1:Nat):Int))=some (.inr (.inr ())):=by
   unfold dq;rw [bD,ab (show ¬((g+1:Nat):Int)<=(g:Int) by omega)]
  have:=Hq (f:=λk=>([a,b],(g:Int),((k:Nat):Int))) (p:=agr [a,b]) (g:=g) (N:=n) (λk d e=>OY n a b d e j) l (by omega);show ob (ar (dq n) n ([a,b],(g:Int),((1:Nat):Int))) _=_;rw [this];unfold ii;split<;>simp_all [ob]
 ·rw [show (((s.length:Nat):Int) != 2)=true by simp;omega];have:ii s g=false:=by
   unfold ii;rw [sU];intro i _
   match s,c with
   | [],_=>simp [agr]
   | [_],_=>simp [agr]
   | [_,_],h=>exact absurd rfl h
   | _::_::_::_,_=>simp [agr]
  rw [this];rfl
theorem vg (n:Nat) (s:aa) (k:Nat) (g:k<100):ep n s (k:Int)=some (if agr s k then 1 else 0):=by
 unfold ep;rw [Lx n g];show cond _ _ _=_;by_cases d:s.length=2
 ·obtain ⟨a,b,rfl⟩:∃a b,s=[a,b]:=by
   match s,d with
   | [a,b],_=>exact ⟨a,b,rfl⟩
  have s0:sx [a,b] 0=some a:=rfl;have e:sx [a,b] 1=some b:=rfl;have i:sx (two k) 0=some (UInt8.ofNat (48+k / 10)):=rfl;have l:sx (two k) 1=some (UInt8.ofNat (48+k%10)):=rfl;have c:(88:Int)=((88:Nat):Int):=rfl;rw [show (((([a,b]:aa).length:Nat):Int)==2)=true from rfl];simp only [s0,e,i,l,ob,ah];rw [c,vJ (by omega),vJ (by omega),nP,nP];show _=some (if ((a==UInt8.ofNat 88||a==UInt8.ofNat (48+k / 10))&&(b==UInt8.ofNat 88||b==UInt8.ofNat (48+k%10)))=true then _ else _);generalize (a==UInt8.ofNat 88)=o;generalize (b==UInt8.ofNat 88)=f;generalize (a==UInt8.ofNat (48+k / 10))=j;generalize (b==UInt8.ofNat (48+k%10))=m;cases o<;>cases f<;>cases j<;>cases m<;>rfl
 ·rw [show (((s.length:Nat):Int)==2)=false by simp;omega];have:agr s k=false:=by
   match s,d with
   | [],_=>rfl
   | [_],_=>rfl
   | [_,_],h=>exact absurd rfl h
   | _::_::_::_,_=>rfl
  rw [this];rfl
theorem Iq (n:Nat) (h:100<n) (s:aa) (g:Nat) (e:g<=31):dN n s (g:Int)=some (if ii s g then 1 else 0):=by
 unfold dN;have b:dH n (s,(g:Int),((g+1:Nat):Int))=some (.inr (.inr ())):=by
  unfold dH;rw [bD,ab (show ¬((g+1:Nat):Int)<=(g:Int) by omega)]
 have:=Hq (f:=λk=>(s,(g:Int),((k:Nat):Int))) (p:=agr s) (g:=g) (N:=n) (step:=dH n) (yes:=.inl 1) (no:=.inr ()) (λk c d=>by
  unfold dH;rw [bD,ae (show (k:Int)<=(g:Int) by omega)];show ob (ep n s (k:Int)) _=_;rw [vg n s k (by omega)];have a:IntKind.wrap .i64 ((k:Int)+1)=((k+1:Nat):Int):=by rw [wrap_i64 _ (by omega) (by omega)];omega
  simp only [ob,a];cases agr s k<;>rfl) b (by omega)
 show ob (ar (dH n) n (s,(g:Int),((1:Nat):Int))) _=_;rw [this];unfold ii;split<;>simp_all [ob]
theorem wV (n:Nat) {a b:Int} (t:1<b) (o:b<1000) (v:-4611686018427387904<=a) (p:a<4611686018427387904):mj n a b=some (a / b,0):=by
 have l:(b==0)=false:=by simp;omega
 have q:(b==-1)=false:=by simp;omega
 unfold mj;simp only [l,q,af];have u:a / b*b+a%b=a:=Int.ediv_mul_add_emod a b;have s:=Lq a (show b≠0 by omega);have m:=LH a (show 0<b by omega);have j:-4611686018427387904<=a / b:=by
  rw [Int.le_ediv_iff_mul_le (by omega)];have:(-4611686018427387904:Int)*b<=-4611686018427387904*1:=Int.mul_le_mul_of_nonpos_left (by omega) (by omega);omega
 have r:a / b<4611686018427387904:=by
  rw [Int.ediv_lt_iff_lt_mul (by omega)];have:(4611686018427387904:Int)*1<=4611686018427387904*b:=Int.mul_le_mul_of_nonneg_left (by omega) (by omega);omega
 by_cases g:0<=a
 ·have d:Int.tdiv a b=a / b:=Q8 g;have e:decide (a<0)=false:=by simp;omega
  have d2:decide (b<0)=false:=by simp;omega
  rw [d,e,d2,wrap_i64 (a / b) (by omega) (by omega)];cases (Int.tmod a b != 0)<;>rfl
 ·have e:decide (a<0)=true:=by simp;omega
  have d2:decide (b<0)=false:=by simp;omega
  have d:=Int.tdiv_eq_ediv (a:=a) (b:=b);have i:=JI (a:=a) (b:=b);rw [e,d2];by_cases c:b∣a
  ·have f:Int.tmod a b=0:=by
    rw [i,ae (.inr c)];have:=Int.emod_eq_zero_of_dvd c;omega
   rw [f,d,ae (.inr c)];rw [Int.add_zero,wrap_i64 (a / b) (by omega) (by omega)];rfl
  ·have k:a%b≠0:=λh=>c (MI h);have f:(Int.tmod a b != 0)=true:=by
    rw [i,ab (by rintro (h | h);exact g h;exact c h)];simp;omega
   have hs:b.sign=1:=Int.sign_eq_one_of_pos (by omega);rw [f,d,ab (by rintro (h | h);exact g h;exact c h),hs];rw [wrap_i64 (a / b+1) (by omega) (by omega),Int.add_sub_cancel,wrap_i64 (a / b) (by omega) (by omega)];rfl
theorem WI (n:Nat) {a b:Int} (m:1<b) (i:b<1000):wl n a b=some (a%b,0):=by
 have g:(b==0)=false:=by simp;omega
 have l:(b==-1)=false:=by simp;omega
 unfold wl;simp only [g,l,af];have o:=Lq a (show b≠0 by omega);have j:=LH a (show 0<b by omega);have c:=JI (a:=a) (b:=b);have d2:decide (b<0)=false:=by simp;omega
 by_cases hc:0<=a\/b∣a
 ·rw [ae hc] at c;have:Int.tmod a b=a%b:=by omega
  rw [this,d2];have d:decide (a%b<0)=false:=by simp;omega
  rw [d];cases h:(a%b != 0)
  ·rfl
  ·rfl
 ·rw [ab hc] at c;have k:(b.natAbs:Int)=b:=by omega
  rw [k] at c;have e:a%b≠0:=λh=>hc (.inr (MI h));have f:(Int.tmod a b != 0)=true:=by simp;omega
  have d:decide (Int.tmod a b<0)=true:=by simp;omega
  rw [f,d,d2,c,wrap_i64 _ (by omega) (by omega),MH];rfl
def ee (y:Int):Prop:=-10000000000000000<=y/\y<=10000000000000000
instance (y:Int):Decidable (ee y):=by unfold ee;infer_instance
theorem gy (n:Nat) (y:Int):jv n y=some (if ee y then 0 else 6):=by
 unfold jv;rw [bD,bD];by_cases a:y < -10000000000000000
 ·rw [ae a,ab (show ¬ee y by unfold ee;omega)]
 ·by_cases b:y>10000000000000000
  ·rw [ab a,ae b,ab (show ¬ee y by unfold ee;omega)]
  ·rw [ab a,ab b,ae (show ee y by unfold ee;omega)]
theorem tu (n:Nat) {y:Int} (h:-20000000000000000<=y/\y<=20000000000000000):∃z,fJ n y=some z:=by
 unfold fJ;rw [wrap_i64 (y - 1) (by omega) (by omega),wV n (by omega) (by omega) (by omega) (by omega),wV n (by omega) (by omega) (by omega) (by omega),wV n (by omega) (by omega) (by omega) (by omega)];exact ⟨_,rfl⟩
theorem KU (n:Nat) {y:Int} (h:ee y):∃b e,kN n y=some (b,e):=by
 unfold kN;have h':=h;unfold ee at h';obtain ⟨z1,a⟩:=tu n (y:=y+1) (by omega);obtain ⟨z2,c⟩:=tu n (y:=y) (by omega);rw [gy,ae h,wrap_i64 (y+1) (by omega) (by omega),a,c];exact ⟨_,_,rfl⟩
theorem tj (n:Nat) {y:Int} (h:ee y) {m:Nat} (d:1<=m) (c:m<=12):∃v,eJ n y (m:Int)=some v:=by
 unfold eJ;obtain ⟨b,e,a⟩:=KU n h;rw [a];show ∃v,cond (b&&((m:Int)==2)) _ _=some v;cases (b&&((m:Int)==2)) with
 | true=>exact ⟨_,rfl⟩
 | false=>
  have:IntKind.wrap .i64 ((m:Int) - 1)=((m - 1:Nat):Int):=by rw [wrap_i64 _ (by omega) (by omega)];omega
  rw [this,dZ (by omega)];have a:vS.length=12:=rfl;exact ⟨_,bf (show m - 1<vS.length by omega)⟩
theorem G6 (n:Nat) {y:Int} (h:ee y) {m:Nat} (b:1<=m) (a:m<=12):kL n y (m:Int)=some 0:=by
 unfold kL;rw [gy,ae h];show cond (decide ((m:Int)<1)) _ _=_;rw [bD,bD,ab (by omega),ab (by omega)]
theorem Jg (n:Nat) {y:Int} (h:ee y) {m:Nat} (e:m<=11):∀(r j:Nat),j+r=m->∀(a:Int) (N:Nat),r<N->∃v,ar (bM n) N (y,a,(m:Int),(j:Int))=some v:=by
 intro r
 induction r with
 | zero=>
  intro j b a N d;obtain ⟨N,rfl⟩:∃k,N=k+1:=⟨N - 1,by omega⟩;have:bM n (y,a,(m:Int),(j:Int))=some (.inr a):=by
   unfold bM;rw [bD,ab (show ¬((j:Int)<(m:Int)) by omega)]
  rw [ar,this];exact ⟨_,rfl⟩
 | succ r ih=>
  intro j b a N d;obtain ⟨N,rfl⟩:∃k,N=k+1:=⟨N - 1,by omega⟩;obtain ⟨v,c⟩:=tj n h (m:=j+1) (by omega) (by omega);have w:IntKind.wrap .i64 ((j:Int)+1)=((j+1:Nat):Int):=by rw [wrap_i64 _ (by omega) (by omega)];omega
  have:bM n (y,a,(m:Int),(j:Int))=some (.inl (y,IntKind.wrap .i64 (a+v),(m:Int),((j+1:Nat):Int))):=by
   unfold bM;rw [bD,ae (show ((j:Int)<(m:Int)) by omega)];simp only [w,c,ob]
  rw [ar,this];exact ih (j+1) (by omega) _ N (by omega)
theorem LA (n:Nat) (d:100<n) {y:Int} (h:ee y) {m:Nat} (c:1<=m) (a:m<=12):∃v,fG n y (m:Int)=some (v,0):=by
 unfold fG mc md;have h':=h;unfold ee at h';obtain ⟨z,e⟩:=tu n (y:=y) (by omega);have w:IntKind.wrap .i64 ((m:Int) - 1)=((m - 1:Nat):Int):=by rw [wrap_i64 _ (by omega) (by omega)];omega
 rw [G6 n h c a,gy,ae h,e,w];obtain ⟨v,b⟩:=Jg n h (m:=m - 1) (by omega) (m - 1) 0 (by omega) (IntKind.wrap .i64 (IntKind.wrap .i64 (365*y)+z)) n (by omega);refine ⟨v,?_⟩;show ob (ar (bM n) n (y,IntKind.wrap .i64 (IntKind.wrap .i64 (365*y)+z),((m - 1:Nat):Int),((0:Nat):Int))) _=_;rw [b];rfl
theorem madd (n:Nat) {y:Int} (h:ee y) {m c:Nat} (g:1<=m) (j:m<=12) (hc:1<=c) (k:c<=6):pD n y (m:Int) (IntKind.wrap .i64 ((c:Int) - 1)) =
  some (if 12<m+c - 1 then (if y=10000000000000000 then (0,0,6) else (y+1,((m+c - 1 - 12:Nat):Int),0)) else (y,((m+c - 1:Nat):Int),0)):=by
 have h':=h;unfold ee at h';unfold pD;rw [G6 n h g j,wrap_i64 (12*y) (by omega) (by omega),wrap_i64 ((m:Int) - 1) (by omega) (by omega),wrap_i64 (12*y+((m:Int) - 1)) (by omega) (by omega),wrap_i64 ((c:Int) - 1) (by omega) (by omega)];have i:si n (12*y+((m:Int) - 1)) ((c:Int) - 1)=some (12*y+((m:Int) - 1)+((c:Int) - 1),0):=by
  unfold si;rw [wrap_i64 (12*y+((m:Int) - 1)+((c:Int) - 1)) (by omega) (by omega),kl];by_cases d:(c:Int) - 1=0
  ·rw [ae d];have a:decide (12*y+((m:Int) - 1)>12*y+((m:Int) - 1))=false:=by simp
   have d2:decide ((c:Int) - 1>0)=false:=by simp;omega
   rw [a,d2,d,Int.add_zero];rfl
  ·rw [ab d];have a:decide (12*y+((m:Int) - 1)+((c:Int) - 1)>12*y+((m:Int) - 1))=true:=by simp;omega
   have d2:decide ((c:Int) - 1>0)=true:=by simp;omega
   rw [a,d2];rfl
 simp only [ob,i,dF,af];rw [wV n (by omega) (by omega) (by omega) (by omega),WI n (by omega) (by omega)];simp only [gy];by_cases f:12<m+c - 1
 ·have b:(12*y+((m:Int) - 1)+((c:Int) - 1)) / 12=y+1:=by omega
  have e:(12*y+((m:Int) - 1)+((c:Int) - 1))%12=((m+c - 1 - 12:Nat):Int) - 1:=by omega
  rw [b,e,ae f];by_cases hy:y=10000000000000000
  ·rw [ae hy,ab (show ¬ee (y+1) by unfold ee;omega)];rfl
  ·rw [ab hy,ae (show ee (y+1) by unfold ee;omega),wrap_i64 (((m+c - 1 - 12:Nat):Int) - 1+1) (by omega) (by omega),MH];rfl
 ·have b:(12*y+((m:Int) - 1)+((c:Int) - 1)) / 12=y:=by omega
  have e:(12*y+((m:Int) - 1)+((c:Int) - 1))%12=((m+c - 1:Nat):Int) - 1:=by omega
  rw [b,e,ab f,ae h,wrap_i64 (((m+c - 1:Nat):Int) - 1+1) (by omega) (by omega),MH];rfl
theorem GX {j:Nat} (a:j<21):∃m c:Nat,n8[j]?=some ((m:Int),(c:Int))/\1<=m/\m<=12/\1<=c/\c<=6/\(12<m+c - 1↔j=3\/j=7\/j=9):=by
 have:((List.range 21).all λj=>match n8[j]? with
  | some (m,c)=>decide (0<=m)&&decide (0<=c)&&decide (1<=m.toNat)&&decide (m.toNat<=12)&&decide (1<=c.toNat)&&decide (c.toNat<=6)&&(decide (12<m.toNat+c.toNat - 1)==decide (j=3\/j=7\/j=9))
  | none=>false)=true:=by decide +kernel
 have h:=(cK.1 this) j (by simpa using a);split at h
 ·rename_i m c e;simp only [aA,cn,bI,nX] at h;obtain ⟨⟨⟨⟨⟨⟨d,i⟩,b⟩,g⟩,l⟩,k⟩,f⟩:=h;exact ⟨m.toNat,c.toNat,by rw [e,H5 d,H5 i],b,g,l,k,f⟩
 ·cases h
theorem Xf (n:Nat) (p:100<n) {y:Int} (h:ee y) {j:Nat} (q:j<21):
  ∃a b c d,iI n y ((21+j:Nat):Int)=some (a,b,c,d,if y=10000000000000000/\(j=3\/j=7\/j=9) then 6 else 0):=by
 obtain ⟨m,c,e,r,t,z,B,w⟩:=GX q;have C:fF n ((21+j:Nat):Int)=some ((m:Int),(c:Int),0):=by
  unfold fF dM;rw [bD,bD,ab (by omega),ab (by omega)];have:IntKind.wrap .i64 (((21+j:Nat):Int) - 21)=(j:Int):=by rw [wrap_i64 _ (by omega) (by omega)];omega
  rw [this,dZ q];show ob (n8[j]?) _=_;rw [e];rfl
 obtain ⟨v,A⟩:=LA n p h r t;unfold iI;rw [C];show ∃a b c d,ob (fG n y (m:Int)) _=_;rw [A];show ∃a b s d,ob (pD n y (m:Int) (IntKind.wrap .i64 ((c:Int) - 1))) _=_;rw [madd n h r t z B];have h':=h;unfold ee at h';by_cases i:12<m+c - 1
 ·rw [ae i];by_cases hy:y=10000000000000000
  ·rw [ae hy,ae ⟨hy,w.1 i⟩];exact ⟨_,_,_,_,rfl⟩
  ·rw [ab hy,ab (λx=>hy x.1)];have g:ee (y+1):=by unfold ee;omega
   obtain ⟨l,f⟩:=LA n p g (m:=m+c - 1 - 12) (by omega) (by omega);obtain ⟨u,k⟩:=tj n g (m:=m+c - 1 - 12) (by omega) (by omega);have o:ia n (y+1) ((m+c - 1 - 12:Nat):Int)=some (IntKind.wrap .i64 (IntKind.wrap .i64 (l+u) - 1),0):=by
    unfold ia;rw [f,k];rfl
   show ∃a b s d,ob (ia n (y+1) ((m+c - 1 - 12:Nat):Int)) _=_;rw [o];exact ⟨_,_,_,_,rfl⟩
 ·rw [ab i,ab (λx=>i (w.2 x.2))];obtain ⟨l,f⟩:=LA n p h (m:=m+c - 1) (by omega) (by omega);obtain ⟨u,k⟩:=tj n h (m:=m+c - 1) (by omega) (by omega);have o:ia n y ((m+c - 1:Nat):Int)=some (IntKind.wrap .i64 (IntKind.wrap .i64 (l+u) - 1),0):=by
   unfold ia;rw [f,k];rfl
  show ∃a b s d,ob (ia n y ((m+c - 1:Nat):Int)) _=_;rw [o];exact ⟨_,_,_,_,rfl⟩
def hasB (set:aa) (c:UInt8):Bool:=set.any λd=>d==c
theorem pR (set:aa) (c:UInt8):(decide (Lib.indexByte set c<0))=!hasB set c:=by
 induction set with
 | nil=>simp [Lib.indexByte,hasB]
 | cons d l ih=>
  have f:=Lib.indexByte_ge l c;simp only [hasB,ri] at ih ⊢;unfold Lib.indexByte;by_cases h:d=c
  ·simp [h]
  ·have e:(d==c)=false:=by simpa using h
   simp only [e,bv,aB,pf];rw [<-ih];by_cases b:Lib.indexByte l c=-1
   ·simp [b]
   ·have a:(Lib.indexByte l c==-1)=false:=by simpa using b
    simp only [a,bv,aB];have:¬Lib.indexByte l c+1<0:=by omega
    have:¬Lib.indexByte l c<0:=by omega
    simp [*]
theorem qo (set:aa) (c:UInt8):(decide (Lib.indexByte set c>=0))=hasB set c:=by
 have:=pR set c;by_cases h:Lib.indexByte set c<0
 ·have a:¬Lib.indexByte set c>=0:=by omega
  simp only [h,a,oK,nU] at this ⊢;revert this;cases hasB set c<;>simp
 ·have a:Lib.indexByte set c>=0:=by omega
  simp only [h,a,oK,nU] at this ⊢;revert this;cases hasB set c<;>simp
def lcp:aa->aa->Nat
 | c::s,d::t=>if c==d then lcp s t+1 else 0
 | _,_=>0
theorem wZ:∀s t:aa,lcp s t<=s.length
 | [],_=>by simp [lcp]
 | _::_,[]=>by simp [lcp]
 | c::s,d::t=>by
  have:=wZ s t;simp only [lcp,aE];split<;>omega
def bH (p:UInt8->Bool):Nat->aa->Nat
 | 0,_=>0
 | _+1,[]=>0
 | k+1,c::l=>if p c then bH p k l+1 else 0
theorem mn (p:UInt8->Bool):∀(k:Nat) (l:aa),bH p k l<=l.length
 | 0,_=>by simp [bH]
 | _+1,[]=>by simp [bH]
 | k+1,c::l=>by
  have:=mn p k l;simp only [bH,aE];split<;>omega
theorem tW (n:Nat) (S:aa) (a:Nat) (h:a<=S.length):cD n S (a:Int)=some (S.drop a):=by
 simp [cD,ob,ef h]
theorem Eg (n:Nat) (s p:aa):jD n s p=some (s.take p.length==p):=by
 simp only [jD,gH,lZ];by_cases h:p.length<=s.length
 ·simp [h,ob,ef h]
 ·have:(s.take p.length==p)=false:=by
   rw [aK];intro e;have:=cj List.length e;rw [dG] at this;omega
  simp [h,ob,this]
theorem NT (n:Nat) (t S:aa) (a:Nat) (h:a<=S.length):fK n t S (a:Int)=some ((S.drop a).take t.length==t):=by
 simp [fK,tW n S a h,ob,Eg]
theorem nF (n:Nat) (t S:aa) (a:Nat) (h:a<=S.length) (c:S.length<4611686018427387904):
  aC n t S (a:Int)=some (if (S.drop a).take t.length=t then (true,S,((a+t.length:Nat):Int)) else (false,S,(a:Int))):=by
 simp only [aC,NT n t S a h,ob];by_cases hp:(S.drop a).take t.length=t
 ·have d:t.length<=S.length - a:=by
   have:=cj List.length hp;simp at this;omega
  have b:IntKind.wrap .i64 ((a:Int)+((t.length:Nat):Int))=((a+t.length:Nat):Int):=by rw [wrap_i64 _ (by omega) (by omega)];omega
  simp [hp,b]
 ·simp only [GK,kl,hp,aB]
theorem Ea (n:Nat) (S:aa) (i:Int):bJ n S i=some i:=rfl
def peek (l:aa):Int×Bool:=match l with | c::_=>(((c.toNat:Nat):Int),true) | []=>(0,false)
theorem qd (n:Nat) (S:aa) (a:Nat) (h:a<=S.length):bi n S (a:Int)=some (peek (S.drop a)):=by
 simp only [bi,tW n S a h,ob];rcases aH a S.length with d | b
 ·obtain ⟨c,hc⟩:∃c,S[a]?=some c:=⟨S[a],bf d⟩;rw [bX hc];simp [dI hc,peek]
 ·rw [js b];simp [peek]
theorem wa (n:Nat) (a e:Int) (S:aa) (i:Int):aQ n a e S i=some (a,if e=0 then 5 else e):=by
 simp only [aQ,kl];by_cases h:e=0<;>simp [h]
theorem gW (n:Nat) (set:aa) (c:UInt8):dw n set ((c.toNat:Nat):Int)=some (Lib.indexByte set c):=by
 simp only [dw,de,ob,Xn]
theorem B5 (n:Nat) (set S:aa) (a:Nat) (h:a<=S.length) (f:S.length<4611686018427387904):
  cu n set S (a:Int)=some (match S.drop a with | c::_=>if hasB set c then .inr (((c.toNat:Nat):Int),S,((a+1:Nat):Int)) else .inl ((a:Int),5,S,(a:Int)) | []=>.inl ((a:Int),5,S,(a:Int))):=by
 simp only [cu,qd n S a h,ob];rcases aH a S.length with b | d
 ·obtain ⟨c,hc⟩:∃c,S[a]?=some c:=⟨S[a],bf b⟩;have e:IntKind.wrap .i64 ((a:Int)+1)=((a+1:Nat):Int):=by rw [wrap_i64 _ (by omega) (by omega)];omega
  rw [bX hc];simp only [peek,ci,af,gW,pR,Ea,wa,ob,e];cases hasB set c<;>simp
 ·rw [js d];simp [peek,Ea,wa,ob]
theorem nv (S:aa) (a k:Nat):List.drop a (List.take (a+k) S)=(S.drop a).take k:=by
 rw [xH];congr 1;omega
theorem BY (n:Nat) (set:aa) (b most:Int) (S:aa) (a:Nat) (h:a<=S.length) (o:S.length<4611686018427387904) (p:S.length<n):
  ar (cZ n) n (set,b,most,(a:Int),(peek (S.drop a)).1,(peek (S.drop a)).2,S,(a:Int)) =
   some (b,(a:Int),S,((a+bH (hasB set) most.toNat (S.drop a):Nat):Int)):=by
 have:=fO (step:=cZ n)
  (λx=>∃j:Nat,a+j<=S.length/\x=(set,b,most,(a:Int),(peek (S.drop (a+j))).1,(peek (S.drop (a+j))).2,S,((a+j:Nat):Int)))
  (λx=>S.length - x.2.2.2.2.2.2.2.toNat)
  (λx=>(b,(a:Int),S,((x.2.2.2.2.2.2.2.toNat+bH (hasB set) (most.toNat - (x.2.2.2.2.2.2.2.toNat - a)) (S.drop x.2.2.2.2.2.2.2.toNat):Nat):Int))) ?_ n
  (set,b,most,(a:Int),(peek (S.drop a)).1,(peek (S.drop a)).2,S,(a:Int)) ⟨0,by omega,by simp⟩ (by simp;omega)
 ·simpa using this
 rintro x ⟨j,m,rfl⟩;simp only [cg];have d:IntKind.wrap .i64 (((a+j:Nat):Int) - (a:Int))=(j:Int):=by rw [wrap_i64 _ (by omega) (by omega)];omega
 rcases aH (a+j) S.length with e | f
 ·obtain ⟨c,hc⟩:∃c,S[a+j]?=some c:=⟨S[a+j],bf e⟩;have l:IntKind.wrap .i64 (((a+j:Nat):Int)+1)=((a+(j+1):Nat):Int):=by rw [wrap_i64 _ (by omega) (by omega)];omega
  simp only [cZ,bX hc,peek,ah,d];by_cases g:(j:Int)<most
  ·obtain ⟨k,i⟩:∃k,most.toNat - (a+j - a)=k+1:=⟨most.toNat - j - 1,by omega⟩;simp only [g,oK,ah,gW,ob,qo,i,bH];cases q:hasB set c with
   | true=>
    simp only [l,qd n S (a+(j+1)) (by omega),ah];refine .inl ⟨_,rfl,⟨j+1,by omega,rfl⟩,?_,?_⟩
    ·simp only [cg];omega
    ·simp only [cg,ba,jN,aL];have:most.toNat - (a+(j+1) - a)=k:=by omega
     rw [this,show a+(j+1)=a+j+1 by omega];omega
   | false=>exact .inr (by simp)
  ·refine .inr ?_;have:most.toNat - (a+j - a)=0:=by omega
   simp only [g,nU,af,this,bH,cP]
 ·refine .inr ?_;simp only [cZ,js f,peek,af];have:bH (hasB set) (most.toNat - (a+j - a)) []=0:=by cases most.toNat - (a+j - a)<;>rfl
  simp only [this,cP]
theorem wk (n:Nat) (set:aa) (b most:Int) (S:aa) (a:Nat) (h:a<=S.length) (f:S.length<4611686018427387904) (g:S.length<n):
  cb n set b most S (a:Int)=some (if ((bH (hasB set) most.toNat (S.drop a):Nat):Int)<b
   then .inl (((a+bH (hasB set) most.toNat (S.drop a):Nat):Int),5,S,((a+bH (hasB set) most.toNat (S.drop a):Nat):Int))
   else .inr ((S.drop a).take (bH (hasB set) most.toNat (S.drop a)),S,((a+bH (hasB set) most.toNat (S.drop a):Nat):Int))):=by
 have d:=mn (hasB set) most.toNat (S.drop a);rw [bN] at d;simp only [cb,Ea,qd n S a h,ob];rw [BY n set b most S a h f g];generalize bH (hasB set) most.toNat (S.drop a)=k at d ⊢;have c:IntKind.wrap .i64 (((a+k:Nat):Int) - (a:Int))=(k:Int):=by rw [wrap_i64 _ (by omega) (by omega)];omega
 simp only [c,wa];by_cases e:(k:Int)<b
 ·simp [e]
 ·simp only [e,nU,af,aB];rw [ef (by omega)];simp only;rw [ef (by omega)];simp only [nv]
theorem Tu (a b:Nat):(cond (decide (((a:Nat):Int)<((b:Nat):Int))) ((a:Nat):Int) ((b:Nat):Int))=((min a b:Nat):Int):=by
 by_cases h:a<b
 ·simp [h];omega
 ·simp [h];omega
def asc (l:aa):Prop:=∀c∈l,c.toNat<128
theorem L8 (r:Int) (h:128<=r):∃p e,(Utf8.encode r).data.toList=p++[e]/\1<=p.length/\p.length<=3/\128<=e.toNat:=by
 unfold Utf8.encode;have hc:128<=(if Utf8.valid r then r.toNat else Utf8.runeError):=by
  split
  ·omega
  ·decide
 generalize (if Utf8.valid r then r.toNat else Utf8.runeError)=c at hc;have a:128<=(UInt8.ofNat (0x80+c%64)).toNat:=by
  simp only [EI];omega
 simp only;split
 ·omega
 ·split
  ·exact ⟨[_],_,rfl,by simp,by simp,a⟩
  ·split
   ·exact ⟨[_,_],_,rfl,by simp,by simp,a⟩
   ·exact ⟨[_,_,_],_,rfl,by simp,by simp,a⟩
theorem Ld {l:aa} (h:asc l) {i:Nat} {c:UInt8} (hi:l[i]?=some c):c.toNat<128:=h c (gM hi)
theorem Dx (n:Nat) (set:aa) (h:asc set) (e:set.length<n):ar (dU n) n (set,0)=some (.inr ()):=by
 refine fO (step:=dU n) (λx=>x.1=set) (λx=>set.length - x.2) (λx=>.inr ()) ?_ n _ rfl (by simp;omega);rintro ⟨s,i⟩ rfl;simp only [dU];by_cases hi:i<s.length
 ·have b:Nat.blt i s.length=true:=cT hi;obtain ⟨c,hc⟩:∃c,s[i]?=some c:=⟨s[i],bf hi⟩;have a:=Ld h hc;have d:(((c.toNat:Nat):Int)==65533)=false:=by rw [aK];omega
  simp only [b,ah,AZ hc a,d,af];exact .inl ⟨_,rfl,rfl,by simp only;omega,trivial⟩
 ·have b:Nat.blt i s.length=false:=by
   cases b:Nat.blt i s.length with
   | false=>rfl
   | true=>exact absurd (aJ b) (by omega)
  simp only [b,af];exact .inr trivial
theorem yX {l:aa} {c:UInt8} (h:c∉l):Lib.indexByte l c<0:=by
 have b:=pR l c;have d:hasB l c=false:=by
  unfold hasB;rw [sU];intro x hx a;simp only [bI] at a;exact h (a▸hx)
 rw [d] at b;simpa using b
theorem DW (n:Nat) (set:aa) (h:asc set) (A:set.length<n) (hs:set.length<=100) (r:Int) (o:128<=r):ek n set r=some (-1):=by
 have y:decide ((0:Int)<=r)=true:=am (by omega);have s:decide (r<128)=false:=aq (by omega);simp only [ek,y,s,ah,af];by_cases b:r=65533
 ·have:(r==65533)=true:=bI.2 b;simp only [this,ah,Dx n set h A,ob]
 ·have:(r==65533)=false:=aK.2 b;simp only [this,af];obtain ⟨v,z⟩:∃v,ej n r=some v:=by
   unfold ej;generalize decide ((0:Int)<=r)=t;generalize decide (r<55296)=d2;generalize decide ((57343:Int)<r)=q;generalize decide (r<=1114111)=d4;cases t<;>cases d2<;>cases q<;>cases d4<;>exact ⟨_,rfl⟩
  simp only [z,ob];cases v with
  | false=>rfl
  | true=>
   simp only [ci,af];obtain ⟨p,e,hp,w,l,B⟩:=L8 r o;simp only [hp];have u:IntKind.wrap .i64 (((p++[e]).length:Nat) - 1:Int)=(p.length:Int):=by
    rw [wrap_i64 _ (by simp<;>omega) (by simp<;>omega)];simp
   rw [u];obtain ⟨m,rfl⟩:∃m,n=m+1:=⟨n - 1,by omega⟩;have a:dT (m+1) (set,p++[e],(p.length:Int),(p.length:Int))=some (.inr (.inl (-1)))\/dT (m+1) (set,p++[e],(p.length:Int),(p.length:Int))=some (.inr (.inr ())):=by
    simp only [dT,ja];by_cases j:p.length<set.length
    ·obtain ⟨c,hc⟩:∃c,set[p.length]?=some c:=⟨set[p.length],bf j⟩;have k:=Ld h hc;have g:(p++[e])[p.length]?=some e:=by simp
     have i:(((c.toNat:Nat):Int) != ((e.toNat:Nat):Int))=true:=by simp only [bne,lz,aK];omega
     have f:IntKind.wrap .i64 ((p.length:Int)+1)=((p.length+1:Nat):Int):=by rw [wrap_i64 _ (by omega) (by omega)];omega
     have hx:e∉List.drop (p.length+1) (List.take set.length set):=by
      intro x;have:=h e (by simpa using List.mem_of_mem_drop x);omega
     left;simp only [j,oK,ah,dI hc,dI g,ob,i,f,ef (show p.length+1<=set.length by omega),gW,yX hx]
    ·right;simp only [j,nU,af]
   rcases a with d | d<;>simp only [ar,d,ob]
theorem yZ (n:Nat) (set:aa) (c:UInt8) (r:Int) (f:r=((c.toNat:Nat):Int)) (hc:c.toNat<128):ek n set r=some (Lib.indexByte set c):=by
 have d:decide ((0:Int)<=r)=true:=am (by omega);have a:decide (r<128)=true:=am (by omega);have b:IntKind.wrap .u8 r=r:=kz _ (by omega) (by omega);have e:dw n set r=some (Lib.indexByte set c):=by rw [f];exact gW n set c
 simp only [ek,d,a,ah,b,e,ob]
theorem Be (n:Nat) (set:aa) (c:UInt8) (hc:c.toNat<128):ek n set ((c.toNat:Nat):Int)=some (Lib.indexByte set c):=yZ n set c _ rfl hc
theorem vK (n:Nat) (set:aa) (c:UInt8) (hc:c.toNat<128):dR n set ((c.toNat:Nat):Int)=some (hasB set c):=by
 simp only [dR,Be n set c hc,ob,qo]
theorem xY (n:Nat) (set:aa) (h:asc set) (b:set.length<n) (hs:set.length<=100) (r:Int) (a:128<=r):dR n set r=some false:=by
 simp only [dR,DW n set h b hs r a,ob];rfl
theorem CO (w a:Nat):BitVec.ofInt w (a:Int)=BitVec.ofNat w a:=by
 apply BitVec.eq_of_toNat_eq;simp
theorem TA (k:Nat):(2:Int) ^ k=((2 ^ k:Nat):Int):=by simp
theorem OH (a k:Nat):Int.fdiv (a:Int) (2 ^ k)=((a / 2 ^ k:Nat):Int):=by
 rw [TA k,Int.fdiv_eq_ediv_of_nonneg _ (Int.natCast_nonneg _)];rfl
def inR (lo hi:Int) (c:UInt8):Bool:=decide (((c.toNat:Nat):Int)>=lo)&&decide (((c.toNat:Nat):Int)<=hi)
def cnt (lo hi:Int) (l:aa):Nat:=l.countP (inR lo hi)
theorem JZ (lo hi:Int) (l:aa):cnt lo hi l<=l.length:=List.countP_le_length
theorem OU (lo hi:Int) {l:aa} {i:Nat} {c:UInt8} (h:l[i]?=some c):cnt lo hi (l.take (i+1))=cnt lo hi (l.take i)+if inR lo hi c then 1 else 0:=by
 unfold cnt;rw [rC,h,List.countP_append];simp [NM]
theorem Ii (n:Nat) (s:aa) (lo hi:Int) (hs:s.length<n) (l:s.length<100000):gL n s lo hi=some ((cnt lo hi s:Nat):Int):=by
 have:=fO (step:=hZ n) (λx=>∃i:Nat,i<=s.length/\x=(s,lo,hi,((cnt lo hi (s.take i):Nat):Int),(i:Int))) (λx=>s.length - x.2.2.2.2.toNat) (λ_=>((cnt lo hi s:Nat):Int)) ?_ n (s,lo,hi,0,0) ⟨0,by omega,by simp [cnt]⟩ (by simp;omega)
 ·simp only [gL,this,ob]
 rintro x ⟨i,h,rfl⟩;rcases aH i s.length with a | g
 ·obtain ⟨c,hc⟩:∃c,s[i]?=some c:=⟨s[i],bf a⟩;have d:=OU lo hi hc;have e:=JZ lo hi (s.take i);rw [dG] at e;have k:IntKind.wrap .i64 ((i:Int)+1)=((i+1:Nat):Int):=by rw [wrap_i64 _ (by omega) (by omega)];omega
  have j:IntKind.wrap .i64 (((cnt lo hi (s.take i):Nat):Int)+1)=((cnt lo hi (s.take i)+1:Nat):Int):=by rw [wrap_i64 _ (by omega) (by omega)];omega
  refine .inl ⟨(s,lo,hi,((cnt lo hi (s.take (i+1)):Nat):Int),((i+1:Nat):Int)),?_,⟨i+1,a,rfl⟩,by simp only [cg];omega,rfl⟩;simp only [hZ,ja,a,oK,ah,dI hc,ob,k,j];rw [d];by_cases b:((c.toNat:Nat):Int)>=lo
  ·by_cases f:((c.toNat:Nat):Int)<=hi
   ·simp [b,f,inR]
   ·simp [b,f,inR]
  ·simp [b,inR]
 ·have:i=s.length:=by omega
  subst this;refine .inr ?_;simp only [hZ,ja,F3,nU,af,ma]
theorem LG (lo hi:Int) (l:aa):cnt lo hi l=l.length↔∀c∈l,inR lo hi c=true:=by
 unfold cnt;rw [List.countP_eq_length]
theorem PG (lo hi:Int) (l:aa):cnt lo hi l=0↔∀c∈l,inR lo hi c=false:=by
 unfold cnt;rw [List.countP_eq_zero];simp
def bB (c:UInt8):Bool:=inR 48 57 c
theorem cw (c:UInt8):bB c=true↔48<=c.toNat/\c.toNat<=57:=by
 unfold bB inR;simp only [aA,cn];omega
theorem A4 (c:UInt8):inR 88 88 c=true↔c=88:=by
 unfold inR;simp only [aA,cn];constructor
 ·intro h;apply gJ.1;show c.toNat=88;omega
 ·rintro rfl;decide
theorem NB (c:UInt8):inR 48 48 c=true↔c=48:=by
 unfold inR;simp only [aA,cn];constructor
 ·intro h;apply gJ.1;show c.toNat=48;omega
 ·rintro rfl;decide
theorem JQ:∀l:aa,cnt 48 57 l+cnt 88 88 l<=l.length/\(cnt 48 57 l+cnt 88 88 l=l.length↔∀c∈l,bB c=true\/c=88)
 | []=>by simp [cnt]
 | c::l=>by
  have ih:=JQ l;have d:cnt 48 57 (c::l)=cnt 48 57 l+if inR 48 57 c then 1 else 0:=by simp [cnt,NM]
  have h:cnt 88 88 (c::l)=cnt 88 88 l+if inR 88 88 c then 1 else 0:=by simp [cnt,NM]
  have f:¬(inR 48 57 c=true/\inR 88 88 c=true):=by
   rintro ⟨a,b⟩;have:=(cw c).1 a;rw [(A4 c).1 b] at this;exact absurd this.2 (by decide)
  rw [d,h,aE];simp only [cL,Gt];have hx:=A4 c;have g:bB c=inR 48 57 c:=rfl;rw [g];cases a:inR 48 57 c<;>cases b:inR 88 88 c
  ·simp only [a,b] at hx ⊢;have:c≠88:=λe=>by simpa using hx.2 e
   simp [this];omega
  ·simp only [a,b] at hx ⊢;have:c=88:=hx.1 trivial;simp only [this,bv,aL,aB,false_or,jN];rw [<-ih.2];omega
  ·simp only [a,b] at hx ⊢;simp only [bv,aL,aB,true_or,jN];rw [<-ih.2];omega
  ·exact absurd ⟨a,b⟩ f
theorem JP (n:Nat) (s set:aa) (q:asc set) (u:set.length<n) (t:set.length<=100) (hs:s.length<n):
  ∃y,ar (cQ n) n (true,set,s,0)=some y/\((y=.inr ()/\s.all (hasB set)=true)\/∃i:Nat,y=.inl (i:Int)/\s.all (hasB set)=false):=by
 refine sa (step:=cQ n) (λx=>x.1=true/\x.2.1=set/\x.2.2.1=s/\s.all (hasB set)=(s.drop x.2.2.2).all (hasB set)) (λx=>s.length - x.2.2.2) _ ?_ n _ ⟨rfl,rfl,rfl,rfl⟩ (by simp only;omega);rintro ⟨b,st,s',p⟩ ⟨h,f,g,a⟩;simp only at h f g a;rw [h,f,g];clear h f g b st s';rcases aH p s.length with j | m
 ·obtain ⟨c,hc⟩:∃c,s[p]?=some c:=⟨s[p],bf j⟩;have e:Nat.blt p s.length=true:=cT j;rw [bX hc,mY] at a;rcases aH c.toNat 128 with d | d
  ·have o:=AZ hc d;simp only [cQ,e,ah,kj,o,vK n set c d,ob];cases k:hasB set c with
   | true=>
    rw [k,om] at a;exact .inl ⟨_,rfl,⟨rfl,rfl,rfl,a⟩,by simp only;omega⟩
   | false=>
    rw [k,yd] at a;exact .inr ⟨_,rfl,.inr ⟨p,rfl,a⟩⟩
  ·have o:=GT hc d;have k:hasB set c=false:=by
    unfold hasB;rw [sU];intro x hx r;simp only [bI] at r;have:=q x hx;rw [r] at this;omega
   rw [k,yd] at a;have l:=xY n set q u t (((dec s p).1:Nat):Int) (by omega);simp only [cQ,e,ah,kj,l,ob];exact .inr ⟨_,rfl,.inr ⟨p,rfl,a⟩⟩
 ·have e:Nat.blt p s.length=false:=by
   cases h:Nat.blt p s.length with
   | false=>rfl
   | true=>exact absurd (aJ h) (by omega)
  simp only [cQ,e,af];rw [js m] at a;exact .inr ⟨_,rfl,.inl ⟨rfl,by rw [a];rfl⟩⟩
theorem Ku (n:Nat) (s set:aa) (e:asc set) (d:set.length<n) (f:set.length<=100) (hs:s.length<n):gx n s set=some (s.all (hasB set)):=by
 obtain ⟨y,b,c⟩:=JP n s set e d f hs;simp only [gx,lV,lS,b,ob];rcases c with ⟨rfl,a⟩ | ⟨i,rfl,a⟩
 ·rw [a];rfl
 ·rw [a];simp only [au,uT];omega
theorem OT:asc [48,49,50,51,52,53,54,55,56,57]:=by unfold asc;decide
theorem N1:asc [88,48,49,50,51,52,53,54,55,56,57]:=by unfold asc;decide
theorem iW (p:UInt8->Bool) (h:∀i:Fin 256,p (UInt8.ofNat i.val)=true) (c:UInt8):p c=true:=by
 have:=h ⟨c.toNat,c.toNat_lt⟩;simpa using this
theorem yG (c:UInt8):hasB [48,49,50,51,52,53,54,55,56,57] c=bB c:=by
 have:=iW (λc=>hasB [48,49,50,51,52,53,54,55,56,57] c==bB c) (by decide +kernel) c;simpa using this
theorem uS (c:UInt8):hasB [88,48,49,50,51,52,53,54,55,56,57] c=(bB c||c==88):=by
 have:=iW (λc=>hasB [88,48,49,50,51,52,53,54,55,56,57] c==(bB c||c==88)) (by decide +kernel) c;simpa using this
theorem MA (n:Nat) (s:aa) (a:100<n) (hs:s.length<n):gx n s [48,49,50,51,52,53,54,55,56,57]=some (s.all bB):=by
 rw [Ku n s _ OT (by simp;omega) (by simp) hs];congr 2;funext c;exact yG c
theorem iO9 (n:Nat) (s:aa) (a:100<n) (hs:s.length<n):gx n s [88,48,49,50,51,52,53,54,55,56,57]=some (s.all λc=>bB c||c==88):=by
 rw [Ku n s _ N1 (by simp;omega) (by simp) hs];congr 2;funext c;exact uS c
def all0 (s:aa):Bool:=s.all λc=>c==48
theorem Yl (n:Nat) (s:aa) (hs:s.length<n) (k:s.length<100000):∃y,gk n s 48=some y/\all0 s=all0 y/\y.length<=s.length:=by
 obtain ⟨y,g,a⟩:=sa (step:=dB n) (λx=>x.2=48/\all0 s=all0 x.1/\x.1.length<=s.length) (λx=>x.1.length) (λy=>all0 s=all0 y/\y.length<=s.length) (by
  rintro ⟨l,c⟩ ⟨rfl,h,d⟩;simp only at h d;by_cases m:l.length>0
  ·have d0:decide (((l.length:Nat):Int)>0)=true:=am (by omega);have j:IntKind.wrap .i64 (((l.length:Nat):Int) - 1)=((l.length - 1:Nat):Int):=by rw [wrap_i64 _ (by omega) (by omega)];omega
   obtain ⟨c,hc⟩:∃c,l[l.length - 1]?=some c:=⟨l[l.length - 1],bf (by omega)⟩;simp only [dB,d0,ah,j,dI hc,ob];by_cases f:c=48
   ·have b:(((c.toNat:Nat):Int)==48)=true:=by rw [f];rfl
    simp only [b,ah,ef (show l.length - 1<=l.length by omega),bV];refine .inl ⟨(List.take (l.length - 1) l,48),rfl,⟨rfl,?_,by show (List.take (l.length - 1) l).length<=s.length;rw [dG];omega⟩,by show (List.take (l.length - 1) l).length<l.length;rw [dG];omega⟩;rw [h];have:l=l.take (l.length - 1)++[c]:=by
     have a:=rC (l:=l) (i:=l.length - 1);rw [hc,show l.length - 1+1=l.length by omega,ma] at a;exact a
    rw [this];simp only [all0,Et,mY,List.all_nil,f];simp
   ·have b:(((c.toNat:Nat):Int)==48)=false:=by
     rw [aK];intro e;exact f (gJ.1 (by show c.toNat=48;omega))
    simp only [b,af];exact .inr ⟨_,rfl,h,d⟩
  ·have d0:decide (((l.length:Nat):Int)>0)=false:=aq (by omega);simp only [dB,d0,af];exact .inr ⟨_,rfl,h,d⟩) n (s,48) ⟨rfl,rfl,aY _⟩ hs
 exact ⟨y,by simp only [gk,g,ob],a⟩
theorem Ya (n:Nat) (s:aa) (hs:s.length<n) (m:s.length<100000):∃y,gP n s 48=some y/\all0 s=(y==[]):=by
 obtain ⟨y,g,j⟩:=sa (step:=fC n) (λx=>x.2=48/\all0 s=all0 x.1/\x.1.length<=s.length) (λx=>x.1.length) (λy=>all0 s=(y==[])) (by
  rintro ⟨l,c⟩ ⟨rfl,h,f⟩;simp only at h f;cases l with
  | nil=>exact .inr ⟨[],rfl,by rw [h];rfl⟩
  | cons c l=>
   have d0:decide ((((c::l).length:Nat):Int)>0)=true:=am (by simp only [aE];omega);have hc:sx (c::l) 0=some c:=by simp [sx]
   simp only [fC,d0,ah,hc,ob];by_cases a:c=48
   ·have d:(((c.toNat:Nat):Int)==48)=true:=by rw [a];rfl
    have b:bx (c::l).length 1=some 1:=ef (i:=1) (by simp);simp only [d,ah,b,ma,og,bV];refine .inl ⟨_,rfl,⟨rfl,?_,by show l.length<=s.length;simp only [aE] at f;omega⟩,by simp⟩;rw [h];simp [all0,a]
   ·have d:(((c.toNat:Nat):Int)==48)=false:=by
     rw [aK];intro e;exact a (gJ.1 (by show c.toNat=48;omega))
    simp only [d,af];refine .inr ⟨_,rfl,?_⟩;rw [h];have k:(c==48)=false:=aK.2 a;simp [all0,k]) n (s,48) ⟨rfl,rfl,aY _⟩ hs
 exact ⟨y,by simp only [gP,g,ob],j⟩
theorem Tf (n:Nat) (s:aa) (hs:s.length<n) (e:s.length<100000):∃y,oy n s=some y/\(y==[])=all0 s:=by
 unfold oy;by_cases h:s=[]
 ·subst h;exact ⟨[],rfl,rfl⟩
 ·have:(s==([]:aa))=false:=aK.2 h;obtain ⟨y,a,c,f⟩:=Yl n s hs e;obtain ⟨z,b,d⟩:=Ya n y (by omega) (by omega);exact ⟨z,by simp only [this,af,a,b,ob],by rw [c,d]⟩
theorem Qo (s:aa):all0 s=true↔cnt 48 48 s=s.length:=by
 rw [LG];unfold all0;rw [cK];constructor
 ·intro h c hc;have:=h c hc;rw [bI] at this;exact (NB c).2 this
 ·intro h c hc;rw [bI];exact (NB c).1 (h c hc)
def hasX (s:aa):Bool:=s.any λc=>c==88
theorem GG (s:aa):hasX s=decide (0<cnt 88 88 s):=by
 have:=PG 88 88 s;unfold hasX;cases h:s.any λc=>c==88 with
 | true=>
  obtain ⟨c,hc,b⟩:=tX.1 h;rw [bI] at b;symm;rw [cn];rcases Bj (cnt 88 88 s) with a | a
  ·have:=this.1 a c hc;rw [(A4 c).2 b] at this;cases this
  ·exact a
 | false=>
  symm;rw [uT];intro a;have:cnt 88 88 s=0:=this.2 λc hc=>by
   cases hx:inR 88 88 c with
   | false=>rfl
   | true=>
    rw [sU] at h;exact absurd (bI.2 ((A4 c).1 hx)) (h c hc)
  omega
theorem CL (n:Nat) (s:aa):iR n s=some (hasX s):=by
 have e:UInt8.ofNat (Int.toNat 88)=(88:UInt8):=rfl;have hi:nr n s=some (Lib.indexByte s 88):=by
  simp only [nr,jq,de,ob,e];by_cases h:([88]:aa)=s
  ·subst h;rfl
  ·have:(([88]:aa)==s)=false:=aK.2 h;simp only [this,af]
 simp only [iR,hi,ob,qo];rfl
theorem tU (n:Nat) (g l:Bool) (d:aa) (x q:Int):dk n g l d x q=some (hasX d):=by
 simp only [dk,CL,ob]
theorem pH (n:Nat) (g l:Bool) (d:aa) (x q:Int) (hs:d.length<n) (b:d.length<100000):aF n g l d x q=some (if hasX d then 1 else 0):=by
 simp only [aF,Ii n d 88 88 hs b,ob,GG,cn];by_cases h:0<cnt 88 88 d
 ·have:decide (((cnt 88 88 d:Nat):Int)<1)=false:=aq (by omega);simp [this,h]
 ·have:decide (((cnt 88 88 d:Nat):Int)<1)=true:=am (by omega);have a:cnt 88 88 d=0:=by omega
  simp [this,a]
def vM (acc:Nat) (c:UInt8):Nat:=acc*10+(c.toNat - 48)
def dval (acc:Nat) (l:aa):Nat:=l.foldl vM acc
theorem qu (acc:Nat):dval acc []=acc:=by unfold dval;rw [Hm]
theorem o7 (acc:Nat) (c:UInt8) (l:aa):dval acc (c::l)=dval (vM acc c) l:=by
 unfold dval;rw [vC]
theorem HE (l:aa) (acc:Nat) (c:UInt8):dval acc (l++[c])=dval acc l*10+(c.toNat - 48):=by
 have:dval acc (l++[c])=vM (dval acc l) c:=by
  unfold dval;rw [Hi,vC,Hm]
 rw [this];rfl
theorem S0 (M:Nat) (i:10000000000000000000<=M) (l:aa):∀(acc k:Nat),(∀c∈l,bB c=true)->acc<10 ^ k->l.length+k<=18->Lib.parseUintM M acc l=.ok (dval acc l)/\dval acc l<10 ^ (l.length+k):=by
 induction l with
 | nil=>
  intro acc k _ b _;rw [qu];refine ⟨rfl,?_⟩;simpa using b
 | cons c l ih=>
  intro acc k h b e;have hc:=(cw c).1 (h c (by simp));simp only [aE] at e;have hp:(10:Nat) ^ (k+1)=10 ^ k*10:=tq 10 k;have f:(10:Nat) ^ (k+1)<=10 ^ 18:=oI (by decide) (by omega);have g:(10:Nat) ^ 18=1000000000000000000:=by decide
  have a:vM acc c=acc*10+(c.toNat - 48):=rfl;have ih:=ih (vM acc c) (k+1) (λd a=>h d (by simp [a])) (by omega) (by omega);refine ⟨?_,?_⟩
  ·simp only [Lib.parseUintM];rw [ae hc,ab (by omega),ab (by omega),<-a,ih.1,o7]
  ·rw [o7,aE,show l.length+1+k=l.length+(k+1) by omega];exact ih.2
theorem I3 {l:aa} (h:∀c∈l,bB c=true) (d:l≠[]) (k:l.length<=18):yh l=some ((dval 0 l:Nat):Int)/\dval 0 l<10 ^ l.length:=by
 obtain ⟨e,b⟩:=S0 (2 ^ 64 - 1) (by decide) l 0 0 h (by simp) (by omega);refine ⟨?_,by simpa using b⟩;have j:dval 0 l<10 ^ 18:=rD b (oI (by decide) (by omega));cases l with
 | nil=>exact absurd rfl d
 | cons c r=>
  have hc:=(cw c).1 (h c (by simp));have f:Lib.parseUintB 64 (c::r)=.ok (dval 0 (c::r)):=by
   unfold Lib.parseUintB;rw [ab d,e]
  have hs:¬(c.toNat=43\/c.toNat=45):=by omega
  simp only [yh,Lib.parseIntB,hs,aB,f];have i:(10:Nat) ^ 18=1000000000000000000:=by decide
  have a:(2:Nat) ^ (64 - 1)=9223372036854775808:=by decide
  have g:¬c.toNat=45:=by omega
  simp only [g,FI,jN,xO,aB];rw [a,ab (by omega)]
theorem Qi (n k:Nat) (h:k<=18) (j:18<n):pN n (k:Int)=some (((10 ^ k:Nat):Int),0):=by
 have f:(10:Nat) ^ 18=1000000000000000000:=by decide
 have:=fO (step:=kU n) (λx=>∃i:Nat,i<=k/\x=(((10 ^ i:Nat):Int),(k:Int),(i:Int))) (λx=>k - x.2.2.toNat) (λ_=>((10 ^ k:Nat):Int)) (by
  rintro x ⟨i,hi,rfl⟩;rcases aH i k with a | g
  ·have e:(10:Nat) ^ (i+1)<=10 ^ 18:=oI (by decide) (by omega);have hp:(10:Nat) ^ (i+1)=10 ^ i*10:=tq 10 i;have d:IntKind.wrap .i64 (((10 ^ i:Nat):Int)*10)=((10 ^ (i+1):Nat):Int):=by rw [wrap_i64 _ (by omega) (by omega)];omega
   have c:IntKind.wrap .i64 ((i:Int)+1)=((i+1:Nat):Int):=by rw [wrap_i64 _ (by omega) (by omega)];omega
   refine .inl ⟨_,?_,⟨i+1,a,rfl⟩,by simp only [cg];omega,rfl⟩;simp only [kU,ja,a,oK,ah,d,c]
  ·have:i=k:=by omega
   subst this;refine .inr ?_;simp only [kU,ja,F3,nU,af]) n (1,(k:Int),0) ⟨0,by omega,rfl⟩ (by simp;omega)
 have b:decide ((k:Int)<0)=false:=aq (by omega);have d2:decide ((k:Int)>18)=false:=aq (by omega);simp only [pN,b,d2,af,this,ob]
theorem kY (x:Int) (a:0<=x) (b:x<18446744073709551616):IntKind.wrap .u64 x=x:=by
 show x%18446744073709551616=x;omega
theorem E5 (x:Int):IntKind.wrap .u64 x=x%18446744073709551616:=rfl
theorem LL {a:Nat} (b:a<18446744073709551616):bits .and .u64 (a:Int) 4294967295=((a%4294967296:Nat):Int):=by
 show IntKind.wrap .u64 ((BitVec.ofInt 64 (a:Int) &&& BitVec.ofInt 64 ((4294967295:Nat):Int)).toNat:Int)=_;rw [CO,CO,BitVec.toNat_and,BitVec.toNat_ofNat,BitVec.toNat_ofNat,rP (show a<2 ^ 64 from b),rP (by decide)];have:=Nat.and_two_pow_sub_one_eq_mod a 32;rw [show (2:Nat) ^ 32 - 1=4294967295 from by decide,show (2:Nat) ^ 32=4294967296 from by decide] at this;rw [this];exact kY _ (by omega) (by omega)
theorem QE (a:Nat):Int.fdiv (a:Int) (2 ^ 32)=((a / 4294967296:Nat):Int):=by
 rw [OH]
theorem HM {a b A B:Nat} (c:a<=A) (d:b<=B):a*b<=A*B:=FR c d
theorem Kz (a b:Nat):a*b=(a / 4294967296)*(b / 4294967296)*18446744073709551616+((a / 4294967296)*(b%4294967296)+(a%4294967296)*(b / 4294967296))*4294967296+(a%4294967296)*(b%4294967296):=by
 have e:a=(a / 4294967296)*4294967296+a%4294967296:=by omega
 have f:b=(b / 4294967296)*4294967296+b%4294967296:=by omega
 generalize a / 4294967296=c at e ⊢;generalize a%4294967296=g at e ⊢;generalize b / 4294967296=d at f ⊢;generalize b%4294967296=h at f ⊢;subst e f;rw [gY,Nat.mul_add,Nat.mul_add];have j:c*4294967296*(d*4294967296)=c*d*18446744073709551616:=by
  rw [Nat.mul_mul_mul_comm]
 have k:c*4294967296*h=c*h*4294967296:=by rw [Nat.mul_right_comm]
 have i:g*(d*4294967296)=g*d*4294967296:=by rw [EJ]
 rw [j,k,i,gY];omega
theorem Yp (n a b:Nat) (r:a<18446744073709551616) (x:b<18446744073709551616):kV n (a:Int) (b:Int)=some (((a*b / 18446744073709551616:Nat):Int),((a*b%18446744073709551616:Nat):Int)):=by
 have s:=Kz a b;have i:a / 4294967296<=4294967295:=by omega
 have g:a%4294967296<=4294967295:=by omega
 have h:b / 4294967296<=4294967295:=by omega
 have j:b%4294967296<=4294967295:=by omega
 have l:=HM g j;have m:=HM g h;have v:=HM i j;have u:=HM i h;have k:IntKind.wrap .u64 ((a:Int)*(b:Int))=((a*b%18446744073709551616:Nat):Int):=by
  rw [E5,<-Hu];omega
 simp only [kV,QE,LL r,LL x,k];simp only [<-Hu];generalize (a / 4294967296)*(b / 4294967296)=e at *;generalize (a / 4294967296)*(b%4294967296)=d at *;generalize (a%4294967296)*(b / 4294967296)=f at *;generalize (a%4294967296)*(b%4294967296)=c at *;generalize a*b=N at *;have p:IntKind.wrap .u64 ((c:Nat):Int)=((c:Nat):Int):=kY _ (by omega) (by omega);have o:IntKind.wrap .u64 ((d:Nat):Int)=((d:Nat):Int):=kY _ (by omega) (by omega);have y:IntKind.wrap .u64 ((f:Nat):Int)=((f:Nat):Int):=kY _ (by omega) (by omega);have q:IntKind.wrap .u64 ((e:Nat):Int)=((e:Nat):Int):=kY _ (by omega) (by omega);rw [p,o,y,q,QE c];have w:IntKind.wrap .u64 (((d:Nat):Int)+((c / 4294967296:Nat):Int))=((d+c / 4294967296:Nat):Int):=by rw [kY _ (by omega) (by omega)];omega
 rw [w,QE,LL (by omega)];have t:IntKind.wrap .u64 (((e:Nat):Int)+(((d+c / 4294967296) / 4294967296:Nat):Int))=((e+(d+c / 4294967296) / 4294967296:Nat):Int):=by rw [kY _ (by omega) (by omega)];omega
 have z:IntKind.wrap .u64 ((((d+c / 4294967296)%4294967296:Nat):Int)+((f:Nat):Int))=(((d+c / 4294967296)%4294967296+f:Nat):Int):=by rw [kY _ (by omega) (by omega)];omega
 rw [t,z,QE];have w8:IntKind.wrap .u64 (((e+(d+c / 4294967296) / 4294967296:Nat):Int)+((((d+c / 4294967296)%4294967296+f) / 4294967296:Nat):Int))=((N / 18446744073709551616:Nat):Int):=by
  rw [kY _ (by omega) (by omega)];omega
 rw [w8]
theorem Xh (n a b:Nat) (k:a<9223372036854775808) (j:b<9223372036854775808):wg n (a:Int) (b:Int)=some (if a*b<9223372036854775808 then (((a*b:Nat):Int),0) else (0,15)):=by
 have f:decide ((a:Int)<0)=false:=aq (by omega);have d2:decide ((b:Int)<0)=false:=aq (by omega);have i:IntKind.wrap .u64 (a:Int)=a:=kY _ (by omega) (by omega);have g:IntKind.wrap .u64 (b:Int)=b:=kY _ (by omega) (by omega);simp only [wg,tV,f,d2,af,i,g,ob,Yp n a b (by omega) (by omega)];generalize a*b=N;by_cases h:18446744073709551616<=N
 ·have c:decide (((N / 18446744073709551616:Nat):Int)>0)=true:=am (by omega);rw [c,ab (by omega)];rfl
 ·have c:decide (((N / 18446744073709551616:Nat):Int)>0)=false:=aq (by omega);have e:N%18446744073709551616=N:=rP (by omega);rw [c,e];simp only [af,rh,ci,tJ,il,ah];by_cases d:N<9223372036854775808
  ·have d4:decide (((N:Nat):Int)<=9223372036854775807)=true:=am (by omega);rw [d4,ae d,ah,wrap_i64 _ (by omega) (by omega)]
  ·have d4:decide (((N:Nat):Int)<=9223372036854775807)=false:=aq (by omega);rw [d4,ab d,af]
def E16:Nat:=10000000000000000
theorem R7 {x:Nat} (hx:17<=x):E16<10 ^ x:=by
 have:(10:Nat) ^ 17<=10 ^ x:=oI (by decide) hx;have a:(10:Nat) ^ 17=100000000000000000:=by decide
 unfold E16;omega
theorem J3 (n:Nat) (g l:Bool) (d:aa) (x:Nat) (s:Int) (i:∀c∈d,bB c=true) (m:d≠[]) (p:d.length<=17) (hx:x<=18) (k:18<n):
  ew n g l d (x:Int) s=some (if dval 0 d*10 ^ x<=E16 then (((dval 0 d*10 ^ x:Nat):Int),0) else (0,6)):=by
 obtain ⟨f,j⟩:=I3 i m (by omega);have r:dval 0 d<10 ^ 17:=rD j (oI (by decide) p);have hp:(10:Nat) ^ x<=10 ^ 18:=oI (by decide) hx;have q:(10:Nat) ^ 17=100000000000000000:=by decide
 have e:(10:Nat) ^ 18=1000000000000000000:=by decide
 have o:Nat.ble d.length 9223372036854775806=true:=cT (by omega);simp only [ew,o,ah,f,ob,Qi n x hx k,dF,af,Xh n _ _ (show dval 0 d<9223372036854775808 by omega) (show 10 ^ x<9223372036854775808 by omega)];generalize dval 0 d*10 ^ x=N;unfold E16;by_cases h:N<9223372036854775808
 ·rw [ae h];simp only [dF,af];by_cases b:N<=10000000000000000
  ·have a:decide (((N:Nat):Int)>10000000000000000)=false:=aq (by omega);rw [a,ae b,af]
  ·have a:decide (((N:Nat):Int)>10000000000000000)=true:=am (by omega);rw [a,ab b,ah]
 ·rw [ab h,ab (by omega)];rfl
def pre (d:aa) (i:Nat):Nat:=dval 0 (d.take i)*10 ^ (i - d.length)
theorem QV {d:aa} {i:Nat} {c:UInt8} (h:d[i]?=some c):pre d (i+1)=10*pre d i+(c.toNat - 48):=by
 have a:=um h;unfold pre;rw [rC,h,show i+1 - d.length=0 by omega,show i - d.length=0 by omega];simp only [Option.toList,HE,A8,rz];omega
theorem Q2 {d:aa} {i:Nat} (h:d.length<=i):pre d (i+1)=10*pre d i:=by
 unfold pre;rw [jd (show d.length<=i+1 by omega),jd h,show i+1 - d.length=(i - d.length)+1 by omega,tq];rw [<-EJ];omega
theorem Io (d:aa):∀k i,pre d i<=pre d (i+k)
 | 0,i=>aY _
 | k+1,i=>by
  have ih:=Io d k i;rcases aH (i+k) d.length with a | b
  ·have:=QV (bf a);rw [show i+(k+1)=i+k+1 by omega,this];omega
  ·have:=Q2 b;rw [show i+(k+1)=i+k+1 by omega,this];omega
theorem jB (n:Nat) (d:aa) (x:Nat) (s:∀c∈d,bB c=true) (w:d.length<=100) (hx:x<=100) (v:d.length+x<n):
  ak n d (x:Int)=some (if dval 0 d*10 ^ x<=E16 then (((dval 0 d*10 ^ x:Nat):Int),1) else (0,0)):=by
 have a:pre d (d.length+x)=dval 0 d*10 ^ x:=by
  unfold pre;rw [jd (by omega),show d.length+x - d.length=x by omega]
 have w0:IntKind.wrap .i64 (((d.length:Nat):Int)+(x:Int))=((d.length+x:Nat):Int):=by rw [wrap_i64 _ (by omega) (by omega)];omega
 have:=fO (step:=fE n) (λq=>∃i:Nat,i<=d.length+x/\pre d i<=E16/\q=(d,(x:Int),((pre d i:Nat):Int),(i:Int))) (λq=>d.length+x - q.2.2.2.toNat) (λ_=>if dval 0 d*10 ^ x<=E16 then .inr ((dval 0 d*10 ^ x:Nat):Int) else .inl (0,0)) (by
  rintro q ⟨i,hi,hp,rfl⟩;simp only [fE,w0,ja];unfold E16 at hp ⊢;have r:IntKind.wrap .i64 ((i:Int)+1)=((i+1:Nat):Int):=by rw [wrap_i64 _ (by omega) (by omega)];omega
  have p:IntKind.wrap .i64 (10*((pre d i:Nat):Int))=((10*pre d i:Nat):Int):=by rw [wrap_i64 _ (by omega) (by omega)];omega
  by_cases g:i<d.length+x
  ·have o:=Io d (d.length+x - (i+1)) (i+1);rw [show i+1+(d.length+x - (i+1))=d.length+x by omega,a] at o;simp only [g,oK,ah,r,p];rcases aH i d.length with e | f
   ·obtain ⟨c,hc⟩:∃c,d[i]?=some c:=⟨d[i],bf e⟩;have l:=(cw c).1 (s c (gM hc));have hs:=QV hc;have u:IntKind.wrap .u8 (((c.toNat:Nat):Int) - 48)=((c.toNat - 48:Nat):Int):=by rw [kz _ (by omega) (by omega)];omega
    have m:IntKind.wrap .i64 ((c.toNat - 48:Nat):Int)=((c.toNat - 48:Nat):Int):=wrap_i64 _ (by omega) (by omega);have t:IntKind.wrap .i64 (((10*pre d i:Nat):Int)+((c.toNat - 48:Nat):Int))=((pre d (i+1):Nat):Int):=by rw [wrap_i64 _ (by omega) (by omega)];omega
    simp only [e,oK,ah,dI hc,ob,u,m,t];by_cases j:pre d (i+1)<=10000000000000000
    ·have b:decide (((pre d (i+1):Nat):Int)>10000000000000000)=false:=aq (by omega);simp only [b,af];exact .inl ⟨_,rfl,⟨i+1,g,j,rfl⟩,by simp only [cg];omega,trivial⟩
    ·have b:decide (((pre d (i+1):Nat):Int)>10000000000000000)=true:=am (by omega);simp only [b,ah];rw [ab (by omega)];exact .inr rfl
   ·have hs:=Q2 f;have k:¬i<d.length:=by omega
    simp only [k,nU,af];rw [<-hs];by_cases j:pre d (i+1)<=10000000000000000
    ·have b:decide (((pre d (i+1):Nat):Int)>10000000000000000)=false:=aq (by omega);simp only [b,af];exact .inl ⟨_,rfl,⟨i+1,g,j,rfl⟩,by simp only [cg];omega,trivial⟩
    ·have b:decide (((pre d (i+1):Nat):Int)>10000000000000000)=true:=am (by omega);simp only [b,ah];rw [ab (by omega)];exact .inr rfl
  ·have:i=d.length+x:=by omega
   subst this;simp only [F3,nU,af];rw [a] at hp ⊢;rw [ae hp];exact .inr rfl) n (d,(x:Int),0,0) ⟨0,by omega,by unfold pre E16;simp [qu],by unfold pre;simp [qu]⟩ (by simp;omega)
 simp only [ak,this,ob];by_cases h:dval 0 d*10 ^ x<=E16
 ·rw [ae h,ae h]
 ·rw [ab h,ab h]
def okM (d:aa) (x:Int):Prop:=(∀c∈d,bB c=true)/\1<=d.length/\d.length<=17/\d.head?≠some 48/\0<=x/\x<=16/\¬(x=0/\d.length<5)/\dval 0 d*10 ^ x.toNat<=E16
def okL (d:aa) (x s:Int):Prop:=okM d x/\0<=s/\s<=(d.length:Int)+x
def okS (g:Bool) (d:aa) (x s:Int):Prop:=d.length=4/\(∀c∈d,bB c=true\/c=88)/\x=0/\¬(g=true/\all0 d=true)/\0<=s/\s<=4/\¬(0<s/\hasX d=true)
def okY (g l:Bool) (d:aa) (x s:Int):Prop:=if l=true then okL d x s else okS g d x s
instance (d:aa) (x:Int):Decidable (okM d x):=by unfold okM;infer_instance
instance (d:aa) (x s:Int):Decidable (okL d x s):=by unfold okL;infer_instance
instance (g:Bool) (d:aa) (x s:Int):Decidable (okS g d x s):=by unfold okS;infer_instance
instance (g l:Bool) (d:aa) (x s:Int):Decidable (okY g l d x s):=by unfold okY;infer_instance
theorem Ko (d:aa):d.all bB=true↔∀c∈d,bB c=true:=cK
theorem IA (d:aa):(d.all λc=>bB c||c==88)=true↔∀c∈d,bB c=true\/c=88:=by
 rw [cK];constructor
 ·intro h c hc;have:=h c hc;simpa using this
 ·intro h c hc;have:=h c hc;simpa using this
theorem Rz (c:UInt8):(((c.toNat:Nat):Int)==48)=(c==48):=nP c 48
theorem R9 (n:Nat) (g l:Bool) (d:aa) (x s:Int) (A:200<n) (y:d.length<=100):aX n g l d x s=some (decide (okM d x)):=by
 unfold aX;by_cases w:d.length<1
 ·have e:decide (((d.length:Nat):Int)<1)=true:=am (by omega);rw [e,aq (λh:okM d x=>by have:=h.2.1;omega)];rfl
 ·have e:decide (((d.length:Nat):Int)<1)=false:=aq (by omega);rw [e,af];by_cases z:d.length>17
  ·have e:decide (((d.length:Nat):Int)>17)=true:=am (by omega);rw [e,aq (λh:okM d x=>by have:=h.2.2.1;omega)];rfl
  ·have e:decide (((d.length:Nat):Int)>17)=false:=aq (by omega);rw [e,af,MA n d (by omega) (by omega)];simp only [ob];cases m:d.all bB with
   | false=>
    rw [aq (λh:okM d x=>by rw [(Ko d).2 h.1] at m;cases m)];rfl
   | true=>
    have a:=(Ko d).1 m;obtain ⟨c,r,rfl⟩:∃c r,d=c::r:=by
     cases d with
     | nil=>simp at w
     | cons c r=>exact ⟨c,r,rfl⟩
    have p:sx (c::r) 0=some c:=by simp [sx]
    simp only [ci,af,p,Rz];by_cases j:c=48
    ·rw [aq (λh:okM (c::r) x=>h.2.2.2.1 (by rw [j];rfl)),j];rfl
    ·have e:(c==48)=false:=aK.2 j;rw [e,af];by_cases v:x<0
     ·rw [am v,aq (λh:okM (c::r) x=>by have:=h.2.2.2.2.1;omega)];rfl
     ·rw [aq v,af];by_cases u:x>16
      ·rw [am u,aq (λh:okM (c::r) x=>by have:=h.2.2.2.2.2.1;omega)];rfl
      ·rw [aq u,af];obtain ⟨k,rfl⟩:∃k:Nat,x=(k:Int):=⟨x.toNat,by omega⟩;have o:=J3 n g l (c::r) k s a (by simp) (by omega) (by omega) (by omega);rw [o];have key:¬((k:Int)=0/\(c::r).length<5)->(okM (c::r) (k:Int)↔dval 0 (c::r)*10 ^ k<=E16):=by
        intro i;constructor
        ·intro h;simpa using h.2.2.2.2.2.2.2
        ·intro h;exact ⟨a,by omega,by omega,by simpa using j,by omega,by omega,i,by simpa using h⟩
       have fin:¬((k:Int)=0/\(c::r).length<5)->(ob (some (if dval 0 (c::r)*10 ^ k<=E16 then (((dval 0 (c::r)*10 ^ k:Nat):Int),(0:Int)) else (0,6))) λq=>(some (q.2==0)))=some (decide (okM (c::r) (k:Int))):=by
        intro i;by_cases b:dval 0 (c::r)*10 ^ k<=E16
        ·rw [ae b,am ((key i).2 b)];rfl
        ·rw [ab b,aq (λh=>b ((key i).1 h))];rfl
       by_cases f:(k:Int)=0
       ·have e:((k:Int)==0)=true:=bI.2 f;rw [e,ah];by_cases t:(c::r).length<5
        ·have e:decide ((((c::r).length:Nat):Int)<5)=true:=am (by omega);rw [e,aq (λh:okM (c::r) (k:Int)=>h.2.2.2.2.2.2.1 ⟨f,t⟩)];rfl
        ·have e:decide ((((c::r).length:Nat):Int)<5)=false:=aq (by omega);rw [e,af];exact fin (λh=>t h.2)
       ·have e:((k:Int)==0)=false:=aK.2 f;rw [e,af];exact fin (λh=>f h.1)
theorem P5 (n:Nat) (g l:Bool) (d:aa) (x s:Int) (e:200<n) (c:d.length<=100):
  (ob (aX n g l d x s) λr=>(cond (!r) (some (6:Int)) (cond (decide (s<0)) (some 6) (cond (decide (s>(IntKind.wrap .i64 (((d.length:Nat):Int)+x)))) (some 6) (some 0)))))=some (if okL d x s then 0 else 6):=by
 rw [R9 n g l d x s e c];simp only [ob];by_cases h:okM d x
 ·rw [am h];have hx:=h.2.2.2.2;have w:IntKind.wrap .i64 (((d.length:Nat):Int)+x)=((d.length:Nat):Int)+x:=wrap_i64 _ (by omega) (by omega);rw [w];simp only [ci,af,bD];by_cases b:s<0
  ·rw [ae b,ab (λq:okL d x s=>by have:=q.2.1;omega)]
  ·rw [ab b];by_cases a:s>((d.length:Nat):Int)+x
   ·rw [ae a,ab (λq:okL d x s=>by have:=q.2.2;omega)]
   ·rw [ab a,ae ⟨h,by omega,by omega⟩]
 ·rw [aq h,ab (λq:okL d x s=>h q.1)];rfl
theorem BI (n:Nat) (g l:Bool) (d:aa) (x s:Int) (z:200<n) (v:d.length<=100):cE n g l d x s=some (if okY g l d x s then 0 else 6):=by
 obtain ⟨y,A,hy⟩:=Tf n d (by omega) (by omega);unfold cE;rw [iO9 n d (by omega) (by omega),A,tU];cases l with
 | true=>
  have b:(if okY g true d x s then (0:Int) else 6)=if okL d x s then 0 else 6:=by simp only [okY,aL]
  rw [b];have st:=P5 n g true d x s z v;simp only [ah];generalize (ob (aX n g true d x s) λr=>(cond (!r) (some (6:Int)) (cond (decide (s<0)) (some 6) (cond (decide (s>(IntKind.wrap .i64 (((d.length:Nat):Int)+x)))) (some 6) (some 0)))))=T at st ⊢;simp only [ob];rw [st];cases (((d.length:Nat):Int)==4)<;>cases (d.all λc=>bB c||c==88)<;>cases (x==0)<;>cases g<;>cases (y==[])<;>cases (s != 0)<;>rfl
 | false=>
  have b:(if okY g false d x s then (0:Int) else 6)=if okS g d x s then 0 else 6:=by simp only [okY,bv,aB]
  rw [b];simp only [af,ob];by_cases f:d.length=4
  ·have k:(((d.length:Nat):Int)==4)=true:=bI.2 (by omega);rw [k,ah];cases m:(d.all λc=>bB c||c==88) with
   | false=>
    rw [ab (λq:okS g d x s=>by rw [(IA d).2 q.2.1] at m;cases m)];rfl
   | true=>
    have e:=(IA d).1 m;rw [ah];by_cases h:x=0
    ·subst h;have w:IntKind.wrap .i64 (((d.length:Nat):Int)+0)=4:=by rw [f];decide
     rw [w];have a:¬(g=true/\all0 d=true)->(cond (s != 0) (cond (!(!hasX d)) (some (6:Int)) (cond (decide (s<0)) (some 6) (cond (decide (s>4)) (some 6) (some 0)))) (cond (decide (s<0)) (some 6) (cond (decide (s>4)) (some 6) (some 0))))=some (if okS g d 0 s then 0 else 6):=by
      intro u;simp only [bD,wb,Bool.not_not];by_cases s0:s=0
      ·subst s0;rw [ae rfl,ab (by omega),ab (by omega),ae ⟨f,e,rfl,u,by omega,by omega,by omega⟩]
      ·rw [ab s0];cases o:hasX d with
       | true=>
        by_cases j:s<0
        ·rw [ab (λq:okS g d 0 s=>by have:=q.2.2.2.2.1;omega)];rfl
        ·rw [ab (λq:okS g d 0 s=>q.2.2.2.2.2.2 ⟨by omega,o⟩)];rfl
       | false=>
        rw [af];by_cases j:s<0
        ·rw [ae j,ab (λq:okS g d 0 s=>by have:=q.2.2.2.2.1;omega)]
        ·rw [ab j];by_cases t:s>4
         ·rw [ae t,ab (λq:okS g d 0 s=>by have:=q.2.2.2.2.2.1;omega)]
         ·rw [ab t,ae ⟨f,e,rfl,u,by omega,by omega,λq=>by rw [o] at q;cases q.2⟩]
     have i:((0:Int)==0)=true:=rfl;rw [i,ah];cases g with
     | false=>
      simp only [af];exact a (by simp)
     | true=>
      simp only [ah];rw [hy];cases p:all0 d with
      | true=>rw [ab (λq:okS true d 0 s=>q.2.2.2.1 ⟨rfl,p⟩)];rfl
      | false=>
       simp only [il,ah];exact a (by rw [p];simp)
    ·have i:(x==0)=false:=aK.2 h;rw [i,ab (λq:okS g d x s=>h q.2.2.1)];rfl
  ·have k:(((d.length:Nat):Int)==4)=false:=aK.2 (by omega);rw [k,ab (λq:okS g d x s=>f q.1)];rfl
theorem Sl (d:aa):cnt 48 57 d=d.length↔∀c∈d,bB c=true:=LG 48 57 d
theorem NS (n:Nat) (g l:Bool) (d:aa) (x s:Int) (N:200<n) (K:d.length<=100):ku n g l d x s=some (if okY g l d x s then 1 else 0):=by
 have hs:=JQ d;have o:=GG d;have t:=Qo d;have p:=Sl d;unfold ku;rw [Ii n d 48 57 (by omega) (by omega),Ii n d 88 88 (by omega) (by omega),Ii n d 48 48 (by omega) (by omega)];simp only [ob];generalize L:cnt 48 57 d=A at *;generalize M:cnt 88 88 d=B at *;have w0:IntKind.wrap .i64 (((A:Nat):Int)+((B:Nat):Int))=((A+B:Nat):Int):=by rw [wrap_i64 _ (by omega) (by omega)];omega
 rw [w0];simp only [wb,bD,GK];by_cases y:A+B=d.length
 ·rw [ae (by omega)];have v:=hs.2.1 y;by_cases H:s<0
  ·rw [ae H,ab];intro q;unfold okY at q;split at q
   ·have:=q.2.1;omega
   ·have:=q.2.2.2.2.1;omega
  ·rw [ab H];cases l with
   | false=>
    have i:(if okY g false d x s then (1:Int) else 0)=if okS g d x s then 1 else 0:=by simp only [okY,bv,aB]
    rw [i,af];by_cases j:d.length=4
    ·rw [ae (by omega)];by_cases h:x=0
     ·rw [ae h];have a:¬(g=true/\all0 d=true)->(if s>4 then some (0:Int) else if s>0 then (if ((B:Nat):Int)>0 then some 0 else some 1) else some 1)=some (if okS g d x s then 1 else 0):=by
       intro E;by_cases u:s>4
       ·rw [ae u,ab (λq:okS g d x s=>by have:=q.2.2.2.2.2.1;omega)]
       ·rw [ab u];by_cases F:s>0
        ·rw [ae F];by_cases w:((B:Nat):Int)>0
         ·rw [ae w,ab (λq:okS g d x s=>q.2.2.2.2.2.2 ⟨by omega,by rw [o];exact am (by omega)⟩)]
         ·rw [ab w,ae ⟨j,v,h,E,by omega,by omega,λq=>by
           have:=q.2;rw [o,cn] at this;omega⟩]
        ·rw [ab F,ae ⟨j,v,h,E,by omega,by omega,λq=>by omega⟩]
      cases g with
      | false=>rw [af];exact a (by simp)
      | true=>
       rw [ah,kl];by_cases e:all0 d=true
       ·rw [ae (by have:=t.1 e;omega),ab (λq:okS true d x s=>q.2.2.2.1 ⟨rfl,e⟩)]
       ·rw [ab (λq=>e (t.2 (by omega)))];exact a (λq=>e q.2)
     ·rw [ab h,ab (λq:okS g d x s=>h q.2.2.1)]
    ·rw [ab (by omega),ab (λq:okS g d x s=>j q.1)]
   | true=>
    have i:(if okY g true d x s then (1:Int) else 0)=if okL d x s then 1 else 0:=by simp only [okY,aL]
    rw [i,ah];by_cases w:((B:Nat):Int)>0
    ·rw [ae w,ab];intro q;have:=p.2 q.1.1;omega
    ·rw [ab w];have f:=p.1 (by omega);by_cases j:((A:Nat):Int)<1
     ·rw [ae j,ab (λq:okL d x s=>by have:=q.1.2.1;omega)]
     ·rw [ab j];by_cases h:((A:Nat):Int)>17
      ·rw [ae h,ab (λq:okL d x s=>by have:=q.1.2.2.1;omega)]
      ·rw [ab h];obtain ⟨c,r,rfl⟩:∃c r,d=c::r:=by
        cases d with
        | nil=>simp at y;omega
        | cons c r=>exact ⟨c,r,rfl⟩
       have z:sx (c::r) 0=some c:=by simp [sx]
       simp only [z,Rz,kl];by_cases e:c=48
       ·rw [ae e,ab (λq:okL (c::r) x s=>q.1.2.2.2.1 (by rw [e];rfl))]
       ·rw [ab e];by_cases D:x<0
        ·rw [ae D,ab (λq:okL (c::r) x s=>by have:=q.1.2.2.2.2.1;omega)]
        ·rw [ab D];by_cases C:x>16
         ·rw [ae C,ab (λq:okL (c::r) x s=>by have:=q.1.2.2.2.2.2.1;omega)]
         ·rw [ab C];obtain ⟨k,rfl⟩:∃k:Nat,x=(k:Int):=⟨x.toNat,by omega⟩;have J:IntKind.wrap .i64 (((A:Nat):Int)+(k:Int))=((A+k:Nat):Int):=by rw [wrap_i64 _ (by omega) (by omega)];omega
          rw [J,jB n (c::r) k f K (by omega) (by omega)];have m:(c::r).length=A:=by omega
          have a:¬((k:Int)=0/\(c::r).length<5)->(if s>((A+k:Nat):Int) then some (0:Int) else some (if dval 0 (c::r)*10 ^ k<=E16 then (((dval 0 (c::r)*10 ^ k:Nat):Int),(1:Int)) else (0,0)).2)=some (if okL (c::r) (k:Int) s then 1 else 0):=by
           intro I;by_cases u:s>((A+k:Nat):Int)
           ·rw [ae u,ab (λq:okL (c::r) (k:Int) s=>by have:=q.2.2;rw [m] at this;omega)]
           ·rw [ab u];by_cases b:dval 0 (c::r)*10 ^ k<=E16
            ·rw [ae b,ae ⟨⟨f,by omega,by omega,by simpa using e,by omega,by omega,I,by simpa using b⟩,by omega,by omega⟩]
            ·rw [ab b,ab (λq:okL (c::r) (k:Int) s=>b (by simpa using q.1.2.2.2.2.2.2.2))]
          by_cases b:(k:Int)=0
          ·rw [ae b];by_cases G:((A:Nat):Int)<5
           ·rw [ae G,ab (λq:okL (c::r) (k:Int) s=>q.1.2.2.2.2.2.2.1 ⟨b,by omega⟩)]
           ·rw [ab G];exact a (λq=>by omega)
          ·rw [ab b];exact a (λq=>b q.1)
 ·rw [ab (by omega),ab];intro q;apply y;rw [hs.2];unfold okY at q;split at q
  ·exact λc hc=>.inl (q.1.1 c hc)
  ·exact q.2.1
theorem Nu:∀(l:aa) (acc:Nat),acc*10 ^ l.length<=dval acc l
 | [],acc=>by rw [qu];simp
 | c::l,acc=>by
  have ih:=Nu l (vM acc c);rw [o7,aE,tq];have h:acc*10<=vM acc c:=A9 _ _;have a:=oS (10 ^ l.length) h;have b:acc*(10 ^ l.length*10)=acc*10*10 ^ l.length:=by rw [u0 (10 ^ l.length) 10,EJ]
  omega
theorem uZ:∀(l:aa) (acc k:Nat),(∀c∈l,bB c=true)->acc<10 ^ k->dval acc l<10 ^ (l.length+k)
 | [],acc,k,_,h=>by rw [qu];simpa using h
 | c::l,acc,k,b,h=>by
  have hc:=(cw c).1 (b c (by simp));have hp:(10:Nat) ^ (k+1)=10 ^ k*10:=tq 10 k;have hs:vM acc c=acc*10+(c.toNat - 48):=rfl;have ih:=uZ l (vM acc c) (k+1) (λd a=>b d (by simp [a])) (by omega);rw [o7,aE,show l.length+1+k=l.length+(k+1) by omega];exact ih
structure Num (d:aa) (k q:Nat):Prop where
 dig:∀c∈d,bB c=true
 ne:d≠[]
 wide:d.length+k<=17
 small:dval 0 d*10 ^ k<=E16
 sig:q<=d.length+k
theorem H9 {d:aa} (h:∀c∈d,bB c=true):hasX d=false:=by
 unfold hasX;rw [sU];intro c hc a;rw [bI] at a;have:=(cw c).1 (h c hc);rw [a] at this;exact absurd this.2 (by decide)
theorem uu {g l:Bool} {d:aa} {x s:Int} (h:okY g l d x s) (i:hasX d=false):∃k q:Nat,x=(k:Int)/\s=(q:Int)/\Num d k q:=by
 cases l with
 | true=>
  have h:okL d x s:=by simpa [okY] using h
  obtain ⟨⟨a,f,v,n,B,z,w,y⟩,t,C⟩:=h;refine ⟨x.toNat,s.toNat,by omega,by omega,a,by intro e;subst e;simp at f,?_,y,by omega⟩;cases d with
  | nil=>simp at f
  | cons c r=>
   have hc:=(cw c).1 (a c (by simp));have j:c≠48:=by simpa using n
   have m:1<=vM 0 c:=by
    have:c.toNat≠48:=λe=>j (gJ.1 e);show 1<=0*10+(c.toNat - 48);omega
   have A:=Nu r (vM 0 c);rw [<-o7] at A;have t:10 ^ r.length<=dval 0 (c::r):=by
    have:=oS (10 ^ r.length) m;omega
   have o:=oS (10 ^ x.toNat) t;rw [<-Nat.pow_add] at o;rcases aH (r.length+x.toNat) 17 with b | p
   ·simp only [aE];omega
   ·have:=R7 p;omega
 | false=>
  have h:okS g d x s:=by simpa [okY] using h
  obtain ⟨a,f,v,n,B,z,w⟩:=h;have u:∀c∈d,bB c=true:=by
   intro c hc;rcases f c hc with h | h
   ·exact h
   ·exfalso;unfold hasX at i;rw [sU] at i;exact i c hc (bI.2 h)
  have b:=uZ d 0 0 u (by simp);rw [a] at b;refine ⟨0,s.toNat,by omega,by omega,u,by intro e;subst e;simp at a,by omega,?_,by omega⟩;have n:(10:Nat) ^ (4+0)=10000:=by decide
  unfold E16;simp only [A8,rz];omega
def val (d:aa) (k:Nat):Nat:=dval 0 d*10 ^ k
theorem AP (n:Nat) (g l:Bool) (d:aa) (x s:Int) (c:200<n) (b:d.length<=100):
  eS n g l d x s=some (if okY g l d x s/\hasX d=false then (if g then -((val d x.toNat:Nat):Int) else ((val d x.toNat:Nat):Int),0) else (0,6)):=by
 unfold eS;rw [BI n g l d x s c b,tU];simp only [ob];by_cases h:okY g l d x s
 ·rw [ae h];cases e:hasX d with
  | true=>rw [ab (by simp)];rfl
  | false=>
   rw [ae ⟨h,rfl⟩];obtain ⟨k,q,rfl,rfl,a⟩:=uu h e;rw [J3 n g l d k q a.dig a.ne (by have:=a.wide;omega) (by have:=a.wide;omega) (by omega),ae a.small];have hs:=a.small;unfold E16 at hs;cases g with
   | true=>
    simp only [dF,af,ah,cg,val,aL];rw [wrap_i64 _ (by omega) (by omega),zJ]
   | false=>simp [val]
 ·rw [ab h,ab (λq=>h q.1)];rfl
theorem du {a b:aa} (h:a.length+b.length<=1000000):cat a b=some (a++b):=by
 unfold cat;rw [ae (by omega)]
theorem cut1 {l:aa} {i:Nat} {c:UInt8} (h:l[i]?=some c):List.drop i (List.take (i+1) l)=[c]:=by
 have a:=um h;rw [rC,h,En (by rw [dG];omega)];rfl
theorem TC {l:aa} {i:Nat} {c:UInt8} (h:l[i]?=some c):List.take (i+1) l=List.take i l++[c]:=by
 rw [rC,h];rfl
theorem rL {g l:Bool} {d:aa} {x s:Int} (h:okY g l d x s) (a:hasX d=true):l=false/\x=0/\s=0/\d.length=4/\∀c∈d,bB c=true\/c=88:=by
 cases l with
 | true=>
  have h:okL d x s:=by simpa [okY] using h
  rw [H9 h.1.1] at a;cases a
 | false=>
  have h:okS g d x s:=by simpa [okY] using h
  obtain ⟨f,j,b,k,n,m,i⟩:=h;refine ⟨rfl,b,?_,f,j⟩;have:¬0<s:=λe=>i ⟨e,a⟩;omega
theorem kg {g l:Bool} {d:aa} {x s:Int} (h:okY g l d x s):0<=x/\x<=16/\0<=s/\s<=17/\1<=d.length/\d.length<=17:=by
 cases b:hasX d with
 | true=>
  obtain ⟨rfl,rfl,rfl,j,_⟩:=rL h b;omega
 | false=>
  obtain ⟨k,q,rfl,rfl,a⟩:=uu h b;have f:=a.wide;have i:=a.sig;have e:1<=d.length:=by
   cases d with
   | nil=>exact absurd rfl a.ne
   | cons c r=>simp
  omega
theorem Lo {g l:Bool} {d:aa} {x s:Int} (h:okY g l d x s):vA d x s=true:=by
 obtain ⟨b,e,a,c,i,f⟩:=kg h;unfold vA;rw [am (by omega),cT (by omega)];rfl
def numU (d:UInt8):aa->Nat⊕(Nat×Nat)
 | []=>.inr (d.toNat - 48,2)
 | e::_=>if bB e=true then .inr (10*(d.toNat - 48)+(e.toNat - 48),3) else .inr (d.toNat - 48,2)
def numT:aa->Nat⊕(Nat×Nat)
 | []=>.inl 1
 | d::r=>if 49<=d.toNat/\d.toNat<=57 then numU d r else .inl 1
def numS (letter:UInt8):aa->Nat⊕(Nat×Nat)
 | []=>.inr (0,0)
 | c::r=>if c=letter then numT r else .inr (0,0)
theorem wc (letter:UInt8):numS letter []=.inr (0,0):=rfl
theorem nW (letter c:UInt8) (r:aa):numS letter (c::r)=if c=letter then numT r else .inr (0,0):=rfl
theorem AS:numT []=.inl 1:=rfl
theorem pj (d:UInt8) (r:aa):numT (d::r)=if 49<=d.toNat/\d.toNat<=57 then numU d r else .inl 1:=rfl
theorem uk (d:UInt8):numU d []=.inr (d.toNat - 48,2):=rfl
theorem nQ (d e:UInt8) (r:aa):numU d (e::r)=if bB e=true then .inr (10*(d.toNat - 48)+(e.toNat - 48),3) else .inr (d.toNat - 48,2):=rfl
theorem zR (c:UInt8) (h:c.toNat<128):(Utf8.encode ((c.toNat:Nat):Int)).data.toList=[c]:=by
 have:=iW (λc=>(decide (128<=c.toNat))||(Utf8.encode ((c.toNat:Nat):Int)).data.toList==[c]) (by decide +kernel) c;simp only [iV,cn,bI] at this;rcases this with a | a
 ·omega
 ·exact a
theorem rJ {c:UInt8} (h:48<=c.toNat/\c.toNat<=57):Lib.digitVal c=some (c.toNat - 48):=by
 unfold Lib.digitVal;rw [ae h]
theorem zQ {c:UInt8} (h:48<=c.toNat/\c.toNat<=57) (r:aa):Lib.atoi (c::r)=(Lib.decNat (c::r)).map λ(m:Nat)=>(m:Int):=by
 have a:(c==45)=false:=by
  rw [aK];rintro rfl;exact absurd h.1 (by decide)
 have b:(c==43)=false:=by
  rw [aK];rintro rfl;exact absurd h.1 (by decide)
 simp only [Lib.atoi,a,b,bv,aB]
theorem O7 {c:UInt8} (h:48<=c.toNat/\c.toNat<=57):Lib.atoi [c]=some ((c.toNat - 48:Nat):Int):=by
 rw [zQ h];simp only [Lib.decNat,List.isEmpty_cons,bv,aB,Lib.decFrom,rJ h,fb,Cd,da]
theorem H8 {c e:UInt8} (h:48<=c.toNat/\c.toNat<=57) (a:48<=e.toNat/\e.toNat<=57):Lib.atoi [c,e]=some ((10*(c.toNat - 48)+(e.toNat - 48):Nat):Int):=by
 rw [zQ h];simp only [Lib.decNat,List.isEmpty_cons,bv,aB,Lib.decFrom,rJ h,rJ a,fb,Cd,da];rw [u0]
theorem zw (c:UInt8):hasB [49,50,51,52,53,54,55,56,57] c=decide (49<=c.toNat/\c.toNat<=57):=by
 have:=iW (λc=>hasB [49,50,51,52,53,54,55,56,57] c==decide (49<=c.toNat/\c.toNat<=57)) (by decide +kernel) c;simpa using this
theorem kA {p q:UInt8->Bool} (h:∀c,p c=q c):∀(k:Nat) (l:aa),bH p k l=bH q k l
 | 0,_=>by simp [bH]
 | _+1,[]=>by simp [bH]
 | k+1,c::l=>by simp only [bH,h c,kA h k l]
theorem oe {S:aa} {a:Nat} {c:UInt8} {r:aa} (h:S.drop a=c::r):a<S.length/\S[a]?=some c/\S.drop (a+1)=r:=by
 have b:a<S.length:=by
  rcases aH a S.length with q | q
  ·exact q
  ·rw [js q] at h;cases h
 have e:S[a]?=some S[a]:=bf b;have d:=bX e;rw [h] at d;injection d with h1 h2;exact ⟨b,by rw [e,h1],h2.symm⟩
theorem LR (n:Nat) (letter:UInt8) (S:aa) (a:Nat) (h:a<=S.length) (E:S.length<100000) (B:S.length<n):
  dh n [letter] S (a:Int)=some (match numS letter (S.drop a) with | .inl k=>.inr (((a+k:Nat):Int),5,S,((a+k:Nat):Int)) | .inr (v,k)=>.inl ((v:Int),S,((a+k:Nat):Int))):=by
 unfold dh;rw [nF n [letter] S a h (by omega)];cases y:S.drop a with
 | nil=>simp [wc]
 | cons c r=>
  obtain ⟨C,F,u⟩:=oe y;rw [nW];by_cases hc:c=letter
  ·have i:List.take [letter].length (c::r)=[letter]:=by simp [hc]
   have l:a+[letter].length=a+1:=rfl;rw [ae i,l,ae hc];clear i;simp only [ob,ci,af];rw [B5 n _ S (a+1) (by omega) (by omega),u];cases r with
   | nil=>simp [AS]
   | cons d w=>
    obtain ⟨x,A,p⟩:=oe u;rw [pj];simp only [zw,cn];by_cases b:49<=d.toNat/\d.toNat<=57
    ·rw [ae b,ae b];simp only [];rw [wk n _ 0 1 S (a+1+1) (by omega) (by omega) B,p];have D:=mn (hasB [48,49,50,51,52,53,54,55,56,57]) (1:Int).toNat w;rw [ab (by omega)];rw [kA yG];simp only [];rw [zR d (by omega)];have j:Nat.ble ([d]:aa).length 18=true:=rfl;have s:∀e:UInt8,Nat.ble ([d,e]:aa).length 18=true:=λ_=>rfl;have o:a+1+1=a+2:=rfl;have z:a+2+1=a+3:=rfl;have t:=O7 (show 48<=d.toNat/\d.toNat<=57 by omega);cases w with
     | nil=>
      have hs:bH bB (1:Int).toNat []=0:=rfl;rw [hs,uk];rw [du (by simp)];simp only [List.take_nil,lO,cP,j,ah,t,opt,o]
     | cons e f=>
      by_cases g:bB e=true
      ·have hs:bH bB (1:Int).toNat (e::f)=1:=by
        show bH bB (0+1) (e::f)=1;simp [bH,g]
       have q:=H8 (show 48<=d.toNat/\d.toNat<=57 by omega) ((cw e).1 g);rw [hs,nQ,ae g];have m:List.take 1 (e::f)=[e]:=rfl;rw [m,du (by simp)];simp only [fg,dX,s,ah,q,opt,o,z]
      ·have hs:bH bB (1:Int).toNat (e::f)=0:=by
        show bH bB (0+1) (e::f)=0;simp [bH,g]
       rw [hs,nQ,ab g];have m:List.take 0 (e::f)=[]:=rfl;rw [m,du (by simp)];simp only [lO,j,ah,t,opt,cP,o]
    ·rw [ab b,ab b]
  ·have e:¬List.take [letter].length (c::r)=[letter]:=by simp [hc]
   rw [ab e,ab hc];simp
theorem KP (n:Nat) (letter:UInt8) (S:aa) (a:Nat) (h:a<=S.length) (I:S.length<100000):
  aj n S (a:Int) ((letter.toNat:Nat):Int)=some (match numS letter (S.drop a) with | .inl k=>(-1,((a+k:Nat):Int)) | .inr (v,k)=>((v:Int),((a+k:Nat):Int))):=by
 unfold aj;rw [lZ];cases l:S.drop a with
 | nil=>
  have:S.length<=a:=by
   rcases aH a S.length with q | q
   ·rw [bX (bf q)] at l;cases l
   ·exact q
  rw [am this];simp [wc]
 | cons c r=>
  obtain ⟨G,D,g⟩:=oe l;have z:IntKind.wrap .i64 ((a:Int)+1)=((a+1:Nat):Int):=by rw [wrap_i64 _ (by omega) (by omega)];omega
  have y:IntKind.wrap .i64 (((a+1:Nat):Int)+1)=((a+2:Nat):Int):=by rw [wrap_i64 _ (by omega) (by omega)];omega
  have E:IntKind.wrap .i64 (((a+2:Nat):Int)+1)=((a+3:Nat):Int):=by rw [wrap_i64 _ (by omega) (by omega)];omega
  rw [aq (show ¬S.length<=a by omega),af,dI D];simp only [ob,z,y,E,lZ,ja];have p:(((c.toNat:Nat):Int) != ((letter.toNat:Nat):Int))=!(c==letter):=by rw [bne,nP]
  rw [p,nW];by_cases hc:c=letter
  ·have e:(!(c==letter))=false:=by rw [hc];simp
   rw [e,af,ae hc];cases r with
   | nil=>
    have:S.length<=a+1:=by
     rcases aH (a+1) S.length with q | q
     ·rw [bX (bf q)] at g;cases g
     ·exact q
    rw [am this];rfl
   | cons d F=>
    obtain ⟨x,s,b⟩:=oe g;rw [pj];rw [aq (show ¬S.length<=a+1 by omega),af,dI s];simp only [];by_cases H:d.toNat<49
    ·have j:decide (((d.toNat:Nat):Int)<49)=true:=am (by omega);rw [j,ah,ab (by omega)]
    ·have j:decide (((d.toNat:Nat):Int)<49)=false:=aq (by omega);rw [j,af];by_cases J:d.toNat>57
     ·have m:decide (((d.toNat:Nat):Int)>57)=true:=am (by omega);rw [m,ah,ab (by omega)]
     ·have m:decide (((d.toNat:Nat):Int)>57)=false:=aq (by omega);rw [m,af,ae (by omega)];have C:IntKind.wrap .i64 (IntKind.wrap .u8 (((d.toNat:Nat):Int) - 48))=((d.toNat - 48:Nat):Int):=by
       rw [kz _ (by omega) (by omega),wrap_i64 _ (by omega) (by omega)];omega
      rw [C];cases F with
      | nil=>
       have:¬a+2<S.length:=by
        intro q;rw [bX (bf (show a+1+1<S.length from q))] at b;cases b
       rw [aq this,uk];rfl
      | cons e K=>
       obtain ⟨f,o,_⟩:=oe b;rw [nQ];rw [am (show a+2<S.length from f),ah,dI o];simp only [];by_cases u:e.toNat>=48
       ·have i:decide (((e.toNat:Nat):Int)>=48)=true:=am (by omega);rw [i,ah];by_cases w:e.toNat<=57
        ·have t:decide (((e.toNat:Nat):Int)<=57)=true:=am (by omega);have B:IntKind.wrap .i64 (IntKind.wrap .u8 (((e.toNat:Nat):Int) - 48))=((e.toNat - 48:Nat):Int):=by
          rw [kz _ (by omega) (by omega),wrap_i64 _ (by omega) (by omega)];omega
         have A:IntKind.wrap .i64 (10*((d.toNat - 48:Nat):Int))=((10*(d.toNat - 48):Nat):Int):=by rw [wrap_i64 _ (by omega) (by omega)];omega
         have ws:IntKind.wrap .i64 (((10*(d.toNat - 48):Nat):Int)+((e.toNat - 48:Nat):Int))=((10*(d.toNat - 48)+(e.toNat - 48):Nat):Int):=by rw [wrap_i64 _ (by omega) (by omega)];omega
         rw [t,ah,ae ((cw e).2 ⟨u,w⟩),B,A,ws]
        ·have t:decide (((e.toNat:Nat):Int)<=57)=false:=aq (by omega);rw [t,af,ab (λq=>w ((cw e).1 q).2)]
       ·have i:decide (((e.toNat:Nat):Int)>=48)=false:=aq (by omega);rw [i,af,ab (λq=>u ((cw e).1 q).1)]
  ·have e:(!(c==letter))=true:=by rw [aK.2 hc];rfl
   rw [e,ah,ab hc];rfl
def isDX (c:UInt8):Bool:=bB c||c==88
abbrev YR:=Bool×Bool×aa×Nat×Nat×Nat
def uv (g:Bool) (o:Nat):aa->Nat⊕YR
 | []=>.inl o
 | c::r=>if 49<=c.toNat/\c.toNat<=57 then
   (match numS 69 ((c::r).drop (1+bH bB 16 r)) with
   | .inl j=>.inl (o+(1+bH bB 16 r)+j)
   | .inr (x,j)=>(match numS 83 ((c::r).drop (1+bH bB 16 r+j)) with
    | .inl i=>.inl (o+(1+bH bB 16 r)+j+i)
    | .inr (s,i)=>.inr (g,true,(c::r).take (1+bH bB 16 r),x,s,o+(1+bH bB 16 r)+j+i)))
  else .inl o
def vG (g:Bool) (o:Nat) (l:aa):Nat⊕YR:=
 if bH isDX 4 l<4 then .inl (o+bH isDX 4 l) else
  (match numS 83 (l.drop 4) with
  | .inl i=>.inl (o+4+i)
  | .inr (s,i)=>.inr (g,false,l.take 4,0,s,o+4+i))
def fD (c:UInt8) (l:aa):Nat:=if l.take 1=[c] then 1 else 0
def pX (l:aa):Nat⊕YR:=
 if fD 89 l=1 then uv (fD 45 (l.drop 1)==1) (1+fD 45 (l.drop 1)) (l.drop (1+fD 45 (l.drop 1)))
 else vG (fD 45 l==1) (fD 45 l) (l.drop (fD 45 l))
theorem l6 (c:UInt8) (l:aa):fD c l=0\/fD c l=1:=by
 unfold fD;split
 ·exact .inr rfl
 ·exact .inl rfl
theorem AG (c:UInt8) (l:aa):fD c l<=l.length:=by
 unfold fD;split
 ·rename_i h;cases l with
  | nil=>simp at h
  | cons a l=>simp
 ·omega
theorem ui (n:Nat) (c:UInt8) (S:aa) (a:Nat) (h:a<=S.length) (b:S.length<100000):
  aC n [c] S (a:Int)=some (fD c (S.drop a)==1,S,((a+fD c (S.drop a):Nat):Int)):=by
 rw [nF n [c] S a h (by omega)];unfold fD;have e:[c].length=1:=rfl;rw [e];split<;>rfl
def yS (S:aa) (a:Nat):Nat⊕YR->(Int×Int×aa×Int)⊕(Bool×Bool×aa×Int×Int×aa×Int)
 | .inl k=>.inl (((a+k:Nat):Int),5,S,((a+k:Nat):Int))
 | .inr (g,l,d,x,s,k)=>.inr (g,l,d,(x:Int),(s:Int),S,((a+k:Nat):Int))
def pA (a:Nat):Nat⊕YR->Bool×Bool×aa×Int×Int×Int×Int
 | .inl k=>(false,false,[],0,0,((a+k:Nat):Int),5)
 | .inr (g,l,d,x,s,k)=>(g,l,d,(x:Int),(s:Int),((a+k:Nat):Int),0)
theorem SR (letter:UInt8) (l:aa):(match numS letter l with | .inl k=>k<=l.length | .inr (_,k)=>k<=l.length):=by
 cases l with
 | nil=>simp [wc]
 | cons c r=>
  rw [nW];by_cases hc:c=letter
  ·rw [ae hc];cases r with
   | nil=>simp [AS]
   | cons d f=>
    rw [pj];by_cases a:49<=d.toNat/\d.toNat<=57
    ·rw [ae a];cases f with
     | nil=>simp [uk]
     | cons e g=>
      rw [nQ];by_cases b:bB e=true
      ·rw [ae b];simp
      ·rw [ab b];simp
    ·rw [ab a];simp
  ·rw [ab hc];simp
theorem zC {letter:UInt8} {S:aa} {a:Nat} (h:a<=S.length) {v k:Nat} (b:numS letter (S.drop a)=.inr (v,k)):a+k<=S.length:=by
 have:=SR letter (S.drop a);rw [b,bN] at this;simp only at this;omega
theorem RY (n:Nat) (S:aa) (a o:Nat) (g:Bool) (h:a+o<=S.length) (I:S.length<100000) (G:S.length<n):
  (ob (cu n [49,50,51,52,53,54,55,56,57] S ((a+o:Nat):Int)) λy=>(Sum.casesOn (motive:=λ_=>Option ((Int×Int×aa×Int)⊕(Bool×Bool×aa×Int×Int×aa×Int))) y (λe=>(some (.inl (e.1,e.2.1,e.2.2.1,e.2.2.2)))) (λq=>(ob (cb n [48,49,50,51,52,53,54,55,56,57] 0 16 q.2.1 q.2.2) λA=>(Sum.casesOn (motive:=λ_=>Option _) A (λd=>(some (.inl (d.1,d.2.1,d.2.2.1,d.2.2.2)))) (λl=>(ob (cat (Utf8.encode q.1).data.toList l.1) λw=>(ob (dh n [69] l.2.1 l.2.2) λu=>(Sum.casesOn (motive:=λ_=>Option _) u (λt=>(ob (dh n [83] t.2.1 t.2.2) λB=>(Sum.casesOn (motive:=λ_=>Option _) B (λm=>(some (.inr (g,true,w,t.1,m.1,m.2.1,m.2.2)))) (λb=>(some (.inl (b.1,b.2.1,b.2.2.1,b.2.2.2))))))) (λf=>(some (.inl (f.1,f.2.1,f.2.2.1,f.2.2.2)))))))))))))=some (yS S a (uv g o (S.drop (a+o)))):=by
 rw [B5 n _ S (a+o) h (by omega)];cases D:S.drop (a+o) with
 | nil=>simp [uv,yS,ob]
 | cons c r=>
  obtain ⟨Q,R,H⟩:=oe D;simp only [zw,cn];by_cases hc:49<=c.toNat/\c.toNat<=57
  ·rw [ae hc];simp only [ob];rw [wk n _ 0 16 S (a+o+1) (by omega) (by omega) G,H];rw [ab (by omega),kA yG];simp only [];rw [zR c (by omega)];have E:(16:Int).toNat=16:=rfl;rw [E];have K:=mn bB 16 r;have N:r.length+(a+o+1)=S.length:=by
    have:=cj List.length H;rw [bN] at this;omega
   rw [du (by simp only [aE,bz,dG];omega)];simp only [uv];rw [ae hc];generalize T:bH bB 16 r=k at K ⊢;have M:[c]++List.take k r=List.take (1+k) (c::r):=by rw [qY];rfl
   rw [M];have v:a+o+1+k<=S.length:=by omega
   have C:List.drop (1+k) (c::r)=S.drop (a+o+1+k):=by
    rw [<-D,jw];congr 1;omega
   rw [LR n 69 S (a+o+1+k) v I G,<-C];cases L:numS 69 (List.drop (1+k) (c::r)) with
   | inl j=>
    simp only [yS];have:a+o+1+k+j=a+(o+(1+k)+j):=by omega
    rw [this]
   | inr p=>
    obtain ⟨x,j⟩:=p;have J:=L;rw [C] at J;have F:=zC v J;have z:List.drop (1+k+j) (c::r)=S.drop (a+o+1+k+j):=by
     rw [<-D,jw];congr 1;omega
    simp only [];rw [LR n 83 S (a+o+1+k+j) F I G,<-z];cases O:numS 83 (List.drop (1+k+j) (c::r)) with
    | inl i=>
     simp only [yS];have:a+o+1+k+j+i=a+(o+(1+k)+j+i):=by omega
     rw [this]
    | inr P=>
     obtain ⟨s,i⟩:=P;simp only [yS];have:a+o+1+k+j+i=a+(o+(1+k)+j+i):=by omega
     rw [this]
  ·rw [ab hc];simp only [ob,uv];rw [ab hc];rfl
theorem PH (n:Nat) (S:aa) (a o:Nat) (g:Bool) (h:a+o<=S.length) (w:S.length<100000) (v:S.length<n):
  (ob (cb n [88,48,49,50,51,52,53,54,55,56,57] 4 4 S ((a+o:Nat):Int)) λm=>(Sum.casesOn (motive:=λ_=>Option ((Int×Int×aa×Int)⊕(Bool×Bool×aa×Int×Int×aa×Int))) m (λd=>(some (.inl (d.1,d.2.1,d.2.2.1,d.2.2.2)))) (λf=>(ob (dh n [83] f.2.1 f.2.2) λj=>(Sum.casesOn (motive:=λ_=>Option _) j (λe=>(some (.inr (g,false,f.1,0,e.1,e.2.1,e.2.2)))) (λb=>(some (.inl (b.1,b.2.1,b.2.2.1,b.2.2.2)))))))))=some (yS S a (vG g o (S.drop (a+o)))):=by
 rw [wk n _ 4 4 S (a+o) h (by omega) v];have r:∀c,hasB [88,48,49,50,51,52,53,54,55,56,57] c=isDX c:=uS;have x:(4:Int).toNat=4:=rfl;rw [kA r,x];unfold vG;have u:=mn isDX 4 (S.drop (a+o));rw [bN] at u;by_cases q:bH isDX 4 (S.drop (a+o))<4
 ·rw [ae (by omega),ae q];simp only [ob,yS];rw [iP]
 ·rw [ab (by omega),ab q];have t:∀(k:Nat) (l:aa),bH isDX k l<=k:=by
   intro k
   induction k with
   | zero=>intro l;simp [bH]
   | succ k ih=>
    intro l;cases l with
    | nil=>simp [bH]
    | cons c l=>
     have:=ih l;simp only [bH];split<;>omega
  have y:bH isDX 4 (S.drop (a+o))=4:=by have:=t 4 (S.drop (a+o));omega
  rw [y] at u ⊢;simp only [ob];have hp:a+o+4<=S.length:=by omega
  rw [LR n 83 S (a+o+4) hp w v,jw];cases z:numS 83 (S.drop (a+o+4)) with
  | inl i=>
   simp only [yS];have:a+o+4+i=a+(o+4+i):=by omega
   rw [this]
  | inr p=>
   obtain ⟨s,i⟩:=p;simp only [yS];have:a+o+4+i=a+(o+4+i):=by omega
   rw [this];rfl
theorem Rw (n:Nat) (S:aa) (a:Nat) (h:a<=S.length) (d:S.length<100000) (f:S.length<n):
  mi n S (a:Int)=some (yS S a (pX (S.drop a))):=by
 unfold mi;rw [ui n 89 S a h d];have c:=AG 89 (S.drop a);rw [bN] at c;simp only [ob];rw [ui n 45 S (a+fD 89 (S.drop a)) (by omega) d];have b:=AG 45 (S.drop (a+fD 89 (S.drop a)));rw [bN] at b;simp only [];unfold pX;rcases l6 89 (S.drop a) with e | e
 ·rw [e] at b ⊢;simp only [cP,show ((0:Nat)==1)=false from rfl,af,show ¬((0:Nat)=1) from by decide,aB,jw] at b ⊢;have:=PH n S a (fD 45 (S.drop a)) (fD 45 (S.drop a)==1) (by omega) d f;exact this
 ·rw [e] at b ⊢;simp only [show ((1:Nat)==1)=true from rfl,ah,aL,jw] at b ⊢;have:=RY n S a (1+fD 45 (S.drop (a+1))) (fD 45 (S.drop (a+1))==1) (by omega) d f;rw [<-iP] at this;rw [<-iP];exact this
abbrev stR (S:aa) (a b M:Int) (g L:Bool):aa×Int×Int×Int×Bool×Bool×aa×Int×Int×Bool×Bool×aa×Int×Int:=(S,a,b,M,false,false,[],0,0,g,L,[],0,0)
def isYB (L:Bool) (c:UInt8):Bool:=bB c||(c==88&&!L)
theorem KL (n:Nat) (S:aa) (b M:Nat) (g:Bool) (k:0<M) (j:S.length<100000) (a:S[b]?=some 48):ar (ay (n+1)) (n+1) (stR S (b:Int) (b:Int) (M:Int) g true)=some (.inl ((b:Int),5,false,false,[],0,0)):=by
 have i:=um a;have e:decide ((b:Int)<((S.length:Nat):Int))=true:=am (by omega);have h:IntKind.wrap .i64 ((b:Int) - (b:Int))=0:=by rw [Int.sub_self];rfl
 have d2:decide ((0:Int)<(M:Int))=true:=am (by omega);have f:decide ((((48:UInt8).toNat:Nat):Int)>=48)=true:=rfl;have d:decide ((((48:UInt8).toNat:Nat):Int)<=57)=true:=rfl;have c:((((48:UInt8).toNat:Nat):Int)==48)=true:=rfl;simp only [ar,ay,e,ah,h,d2,dI a,ob,f,d,c,rh]
theorem BU (n:Nat) (S:aa) (b M:Nat) (g L:Bool) (O:b<=S.length) (N:S.length<100000) (Q:S.length<n) (w:¬(L=true/\S[b]?=some 48)):
  ar (ay n) n (stR S (b:Int) (b:Int) (M:Int) g L)=some (.inr (S,((b+bH (isYB L) M (S.drop b):Nat):Int),(b:Int),false,false,[],0,0,g,L,[],0,0)):=by
 have:=fO (step:=ay n) (λx=>∃j:Nat,b+j<=S.length/\x=stR S ((b+j:Nat):Int) (b:Int) (M:Int) g L) (λx=>S.length - x.2.1.toNat)
  (λx=>.inr (S,((x.2.1.toNat+bH (isYB L) (M - (x.2.1.toNat - b)) (S.drop x.2.1.toNat):Nat):Int),(b:Int),false,false,[],0,0,g,L,[],0,0)) ?_ n (stR S (b:Int) (b:Int) (M:Int) g L) ⟨0,by omega,rfl⟩ (by simp;omega)
 ·rw [this];simp
 rintro x ⟨j,P,rfl⟩;simp only [cg];rcases aH (b+j) S.length with y | A
 ·obtain ⟨c,hc⟩:∃c,S[b+j]?=some c:=⟨S[b+j],bf y⟩;have d:decide (((b+j:Nat):Int)<((S.length:Nat):Int))=true:=am (by omega);have i:IntKind.wrap .i64 (((b+j:Nat):Int) - (b:Int))=(j:Int):=by rw [wrap_i64 _ (by omega) (by omega)];omega
  have B:IntKind.wrap .i64 (((b+j:Nat):Int)+1)=((b+(j+1):Nat):Int):=by rw [wrap_i64 _ (by omega) (by omega)];omega
  have r:b+j - b=j:=by omega
  rw [bX hc,r];by_cases K:j<M
  ·have d2:decide ((j:Int)<(M:Int))=true:=am (by omega);obtain ⟨q,D⟩:∃q,M - j=q+1:=⟨M - j - 1,by omega⟩;have v:M - (j+1)=q:=by omega
   rw [D];simp only [bH];have C:isYB L c=true->ay n (stR S ((b+j:Nat):Int) (b:Int) (M:Int) g L)=some (.inl (stR S ((b+(j+1):Nat):Int) (b:Int) (M:Int) g L)):=by
    intro hy;by_cases k:bB c=true
    ·have G:=(cw c).1 k;have f:decide (((c.toNat:Nat):Int)>=48)=true:=am (by omega);have o:decide (((c.toNat:Nat):Int)<=57)=true:=am (by omega);simp only [ay,d,ah,i,d2,dI hc,ob,f,o,B];cases L with
     | false=>rfl
     | true=>
      by_cases s:j=0
      ·subst s;have l:c≠48:=by
        intro e;exact w ⟨rfl,by rw [<-e];exact hc⟩
       have u:(((c.toNat:Nat):Int)==48)=false:=by rw [Rz];exact aK.2 l
       simp only [cP,rh,ah,u,af]
      ·have I:(((b+j:Nat):Int)==(b:Int))=false:=aK.2 (by omega);simp only [I,af,ah]
    ·have a:bB c=false:=by cases h:bB c with | false=>rfl | true=>exact absurd h k
     unfold isYB at hy;rw [a] at hy;simp only [pf,aA,bI,lz] at hy;obtain ⟨rfl,rfl⟩:=hy;have f:decide ((((88:UInt8).toNat:Nat):Int)>=48)=true:=rfl;have o:decide ((((88:UInt8).toNat:Nat):Int)<=57)=false:=rfl;have u:((((88:UInt8).toNat:Nat):Int)==88)=true:=rfl;simp only [ay,d,ah,i,d2,dI hc,ob,f,o,u,B,af,il]
   have p:isYB L c=false->ay n (stR S ((b+j:Nat):Int) (b:Int) (M:Int) g L)=some (.inr (.inr (S,((b+j:Nat):Int),(b:Int),false,false,[],0,0,g,L,[],0,0))):=by
    intro hy;unfold isYB at hy;simp only [pM,Ey] at hy;obtain ⟨a,z⟩:=hy;have H:¬(48<=c.toNat/\c.toNat<=57):=λq=>by rw [(cw c).2 q] at a;cases a
    have m:(((c.toNat:Nat):Int)==88)=(c==88):=nP c 88;have fin:(cond (c==88) (cond (!L) (0:Nat) 1) 1)=1:=by
     rcases z with h | h
     ·rw [h];rfl
     ·have:L=true:=by simpa using h
      rw [this];cases c==88<;>rfl
    by_cases J:c.toNat>=48
    ·have f:decide (((c.toNat:Nat):Int)>=48)=true:=am (by omega);have o:decide (((c.toNat:Nat):Int)<=57)=false:=aq (by omega);simp only [ay,d,ah,i,d2,dI hc,ob,f,o,af,m];rcases z with h | h
     ·rw [h];rfl
     ·have:L=true:=by simpa using h
      rw [this];cases c==88<;>rfl
    ·have f:decide (((c.toNat:Nat):Int)>=48)=false:=aq (by omega);simp only [ay,d,ah,i,d2,dI hc,ob,f,af,m];rcases z with h | h
     ·rw [h];rfl
     ·have:L=true:=by simpa using h
      rw [this];cases c==88<;>rfl
   cases hy:isYB L c with
   | true=>
    refine .inl ⟨_,C hy,⟨j+1,by omega,rfl⟩,by simp only [cg];omega,?_⟩;simp only [cg,aL];have E:b+(j+1) - b=j+1:=by omega
    rw [E,v,show b+(j+1)=b+j+1 by omega];have F:b+j+1+bH (isYB L) q (S.drop (b+j+1))=b+j+(bH (isYB L) q (S.drop (b+j+1))+1):=by omega
    rw [F]
   | false=>
    refine .inr ?_;rw [p hy];simp
  ·have d2:decide ((j:Int)<(M:Int))=false:=aq (by omega);have t:M - j=0:=by omega
   refine .inr ?_;rw [t];simp only [ay,d,ah,i,d2,af,bH,cP]
 ·have d:decide (((b+j:Nat):Int)<((S.length:Nat):Int))=false:=aq (by omega);refine .inr ?_;rw [js A];have t:∀q,bH (isYB L) q []=0:=λq=>by cases q<;>rfl
  simp only [ay,d,af,t,cP]
theorem MF (n:Nat) (S:aa) (a:Nat) (h:a<=S.length) (b:S.length<100000):
  aj n S (a:Int) 69=some (match numS 69 (S.drop a) with | .inl k=>(-1,((a+k:Nat):Int)) | .inr (v,k)=>((v:Int),((a+k:Nat):Int))):=KP n 69 S a h b
theorem DC (n:Nat) (S:aa) (a:Nat) (h:a<=S.length) (b:S.length<100000):
  aj n S (a:Int) 83=some (match numS 83 (S.drop a) with | .inl k=>(-1,((a+k:Nat):Int)) | .inr (v,k)=>((v:Int),((a+k:Nat):Int))):=KP n 83 S a h b
noncomputable def LM (n:Nat) (a0:aa) (B M:Int) (g L:Bool):Option (Bool×Bool×aa×Int×Int×Int×Int):=
 (ob (ar (ay n) n (a0,B,B,M,false,false,[],0,0,g,L,[],0,0)) λo=>(Sum.casesOn (motive:=λ_=>Option (Bool×Bool×aa×Int×Int×Int×Int)) o (λb=>(some (b.2.2.1,b.2.2.2.1,b.2.2.2.2.1,b.2.2.2.2.2.1,b.2.2.2.2.2.2,b.1,b.2.1))) (λa=>(cond (decide ((IntKind.wrap .i64 (a.2.1 - a.2.2.1))<1)) (some (false,false,[],0,0,a.2.1,5)) (cond (!a.2.2.2.2.2.2.2.2.2.1) (cond (decide ((IntKind.wrap .i64 (a.2.1 - a.2.2.1))<4)) (some (false,false,[],0,0,a.2.1,5)) (ob (bx (List.length a.1) a.2.1) λk=>(ob (bx k a.2.2.1) λl=>(cond a.2.2.2.2.2.2.2.2.2.1 (ob (aj n a.1 a.2.1 69) λf=>(cond (decide (f.1<0)) (some (false,false,[],0,0,f.2,5)) (ob (aj n a.1 f.2 83) λh=>(cond (decide (h.1<0)) (some (false,false,[],0,0,h.2,5)) (some (a.2.2.2.2.2.2.2.2.1,a.2.2.2.2.2.2.2.2.2.1,(List.drop l (List.take k a.1)),f.1,h.1,h.2,0)))))) (ob (aj n a.1 a.2.1 83) λi=>(cond (decide (i.1<0)) (some (false,false,[],0,0,i.2,5)) (some (a.2.2.2.2.2.2.2.2.1,a.2.2.2.2.2.2.2.2.2.1,(List.drop l (List.take k a.1)),a.2.2.2.2.2.2.2.2.2.2.2.1,i.1,i.2,0)))))))) (ob (bx (List.length a.1) a.2.1) λj=>(ob (bx j a.2.2.1) λm=>(cond a.2.2.2.2.2.2.2.2.2.1 (ob (aj n a.1 a.2.1 69) λd=>(cond (decide (d.1<0)) (some (false,false,[],0,0,d.2,5)) (ob (aj n a.1 d.2 83) λc=>(cond (decide (c.1<0)) (some (false,false,[],0,0,c.2,5)) (some (a.2.2.2.2.2.2.2.2.1,a.2.2.2.2.2.2.2.2.2.1,(List.drop m (List.take j a.1)),d.1,c.1,c.2,0)))))) (ob (aj n a.1 a.2.1 83) λe=>(cond (decide (e.1<0)) (some (false,false,[],0,0,e.2,5)) (some (a.2.2.2.2.2.2.2.2.1,a.2.2.2.2.2.2.2.2.2.1,(List.drop m (List.take j a.1)),a.2.2.2.2.2.2.2.2.2.2.2.1,e.1,e.2,0))))))))))))
theorem Nz (c:UInt8):isYB true c=bB c:=by unfold isYB;cases bB c<;>simp
theorem IR (c:UInt8):isYB false c=isDX c:=by unfold isYB isDX;simp
theorem rE (p:UInt8->Bool):∀(k:Nat) (l:aa),bH p k l<=k
 | 0,l=>by simp [bH]
 | k+1,[]=>by simp [bH]
 | k+1,c::l=>by
  have:=rE p k l;simp only [bH];split<;>omega
theorem Gf:decide ((-1:Int)<0)=true:=rfl
theorem EL (x:Nat):decide (((x:Nat):Int)<0)=false:=aq (by omega)
theorem MC (n:Nat) (S:aa) (a o:Nat) (g:Bool) (h:a+o<=S.length) (A:S.length<100000) (H:S.length<n):
  LM n S ((a+o:Nat):Int) 17 g true=some (pA a (uv g o (S.drop (a+o)))):=by
 unfold LM;cases f:S.drop (a+o) with
 | nil=>
  have m:¬(true=true/\S[a+o]?=some 48):=by
   rintro ⟨_,q⟩;rw [bX q] at f;cases f
  have l:=BU n S (a+o) 17 g true h A H m;rw [f] at l;have K:bH (isYB true) 17 []=0:=rfl;rw [K,cP] at l;have hl':ar (ay n) n (S,((a+o:Nat):Int),((a+o:Nat):Int),(17:Int),false,false,[],0,0,g,true,[],0,0)=_:=l;rw [hl'];have w:IntKind.wrap .i64 (((a+o:Nat):Int) - ((a+o:Nat):Int))=0:=by rw [Int.sub_self];rfl
  simp only [ob,w,uv,pA];rfl
 | cons c r=>
  obtain ⟨Q,F,R⟩:=oe f;by_cases hc:c=48
  ·subst hc;obtain ⟨D,rfl⟩:∃q,n=q+1:=⟨n - 1,by omega⟩;have l:=KL D S (a+o) 17 g (by omega) A F;have hl':ar (ay (D+1)) (D+1) (S,((a+o:Nat):Int),((a+o:Nat):Int),(17:Int),false,false,[],0,0,g,true,[],0,0)=_:=l;rw [hl'];have u:¬(49<=(48:UInt8).toNat/\(48:UInt8).toNat<=57):=by decide
   simp only [ob,uv,pA];rw [ab u]
  ·have u:¬(true=true/\S[a+o]?=some 48):=by
    rintro ⟨_,q⟩;rw [F] at q;exact hc (by simpa using q)
   have l:=BU n S (a+o) 17 g true h A H u;rw [f,kA Nz] at l;have E:=mn bB 17 (c::r);have M:(c::r).length+(a+o)=S.length:=by
    have:=cj List.length f;rw [bN] at this;omega
   have hl':ar (ay n) n (S,((a+o:Nat):Int),((a+o:Nat):Int),(17:Int),false,false,[],0,0,g,true,[],0,0)=_:=l;rw [hl'];have w:∀k:Nat,k<=17->IntKind.wrap .i64 (((a+o+k:Nat):Int) - ((a+o:Nat):Int))=(k:Int):=by
    intro k I;rw [wrap_i64 _ (by omega) (by omega)];omega
   by_cases d:bB c=true
   ·have O:=(cw c).1 d;have t:49<=c.toNat/\c.toNat<=57:=by
     have:c.toNat≠48:=λe=>hc (gJ.1 e);omega
    have b:bH bB 17 (c::r)=1+bH bB 16 r:=by
     show bH bB (16+1) (c::r)=_;simp only [bH,d,aL];omega
    rw [b] at E ⊢;have v:=rE bB 16 r;simp only [uv];rw [ae t];generalize bH bB 16 r=k at E v ⊢;have L:decide (((1+k:Nat):Int)<1)=false:=aq (by omega);simp only [ob,w (1+k) (by omega),L,af,ci,ah,ef (show a+o+(1+k)<=S.length by omega),ef (show a+o<=a+o+(1+k) by omega)];have y:a+o+(1+k)<=S.length:=by omega
    have B:S.drop (a+o+(1+k))=List.drop (1+k) (c::r):=by rw [<-f,jw]
    rw [MF n S (a+o+(1+k)) y A,B,nv,f];cases J:numS 69 (List.drop (1+k) (c::r)) with
    | inl j=>
     simp only [Gf,ah,pA];have:a+o+(1+k)+j=a+(o+(1+k)+j):=by omega
     rw [this]
    | inr p=>
     obtain ⟨x,j⟩:=p;have G:=J;rw [<-B] at G;have C:=zC y G;have z:S.drop (a+o+(1+k)+j)=List.drop (1+k+j) (c::r):=by rw [<-f,jw];congr 1;omega
     simp only [EL,af];rw [DC n S (a+o+(1+k)+j) C A,z];cases N:numS 83 (List.drop (1+k+j) (c::r)) with
     | inl i=>
      simp only [Gf,ah,pA];have:a+o+(1+k)+j+i=a+(o+(1+k)+j+i):=by omega
      rw [this]
     | inr P=>
      obtain ⟨s,i⟩:=P;simp only [EL,af,pA];have:a+o+(1+k)+j+i=a+(o+(1+k)+j+i):=by omega
      rw [this]
   ·have b:bH bB 17 (c::r)=0:=by
     show bH bB (16+1) (c::r)=0;simp only [bH];rw [ab d]
    have t:¬(49<=c.toNat/\c.toNat<=57):=λq=>d ((cw c).2 (by omega));rw [b];simp only [uv];rw [ab t];simp only [ob,w 0 (by omega),pA];rfl
theorem I5 (n:Nat) (S:aa) (a o:Nat) (g:Bool) (h:a+o<=S.length) (f:S.length<100000) (r:S.length<n):
  LM n S ((a+o:Nat):Int) 4 g false=some (pA a (vG g o (S.drop (a+o)))):=by
 unfold LM;have m:=BU n S (a+o) 4 g false h f r (by rintro ⟨q,_⟩;cases q);rw [kA IR] at m;have j:=mn isDX 4 (S.drop (a+o));have b:=rE isDX 4 (S.drop (a+o));rw [bN] at j;have hl':ar (ay n) n (S,((a+o:Nat):Int),((a+o:Nat):Int),(4:Int),false,false,[],0,0,g,false,[],0,0)=_:=m;rw [hl'];unfold vG;generalize t:bH isDX 4 (S.drop (a+o))=k at j b ⊢;have w:IntKind.wrap .i64 (((a+o+k:Nat):Int) - ((a+o:Nat):Int))=(k:Int):=by rw [wrap_i64 _ (by omega) (by omega)];omega
 simp only [ob,w,il,ah,af];by_cases l:k<4
 ·rw [ae l];have c:decide ((k:Int)<4)=true:=am (by omega);rw [c];have e:a+o+k=a+(o+k):=by omega
  simp only [ah,pA,e];cases decide ((k:Int)<1)<;>rfl
 ·rw [ab l];have d:k=4:=by omega
  subst d;have c:decide (((4:Nat):Int)<4)=false:=rfl;have e:decide (((4:Nat):Int)<1)=false:=rfl;have hp:a+o+4<=S.length:=by omega
  simp only [c,e,af,ef hp,ef (show a+o<=a+o+4 by omega)];rw [DC n S (a+o+4) hp f,nv,jw];cases u:numS 83 (S.drop (a+o+4)) with
  | inl i=>
   simp only [Gf,ah,pA];have:a+o+4+i=a+(o+4+i):=by omega
   rw [this]
  | inr p=>
   obtain ⟨s,i⟩:=p;simp only [EL,af,pA];have:a+o+4+i=a+(o+4+i):=by omega
   rw [this];rfl
theorem kK (c a:UInt8) (l:aa):fD c (a::l)=if a=c then 1 else 0:=by
 unfold fD;simp
theorem yb (c:UInt8):fD c []=0:=by unfold fD;simp
theorem OJ (n:Nat) (S:aa) (a:Nat) (h:a<=S.length) (E:S.length<100000) (F:S.length<n):
  kS n S (a:Int)=some (pA a (pX (S.drop a))):=by
 have z:=λo g q=>MC n S a o g q E F;have A:=λo g q=>I5 n S a o g q E F;unfold LM at z A;have H:IntKind.wrap .i64 ((a:Int)+1)=((a+1:Nat):Int):=by rw [wrap_i64 _ (by omega) (by omega)];omega
 have G:IntKind.wrap .i64 (((a+1:Nat):Int)+1)=((a+2:Nat):Int):=by rw [wrap_i64 _ (by omega) (by omega)];omega
 unfold kS pX;rw [H,G];have w:=A 0 false (by omega);simp only [cP] at w;cases p:S.drop a with
 | nil=>
  have k:¬a<S.length:=by
   intro q;rw [bX (bf q)] at p;cases p
  rw [ja,aq k,af,af,w,p];rfl
 | cons c r=>
  obtain ⟨C,I,i⟩:=oe p;have l:(((c.toNat:Nat):Int)==89)=(c==89):=nP c 89;have t:(((c.toNat:Nat):Int)==45)=(c==45):=nP c 45;rw [ja,am C,ah,dI I];simp only [ob];rw [l,t,kK];by_cases f:c=89
  ·have e:(c==89)=true:=bI.2 f;rw [e,ah,ae f,ae rfl,ja];have y:List.drop 1 (c::r)=r:=rfl;rw [y];have x:=z 1 false (by omega);cases s:r with
   | nil=>
    rw [s] at i;have k:¬a+1<S.length:=by
     intro q;rw [bX (bf q)] at i;cases i
    simp only [ob] at x;rw [aq k,af,x,i,yb];rfl
   | cons d J=>
    rw [s] at i;obtain ⟨u,D,B⟩:=oe i;have v:(((d.toNat:Nat):Int)==45)=(d==45):=nP d 45;rw [am u,ah,dI D];simp only [];rw [v,kK];by_cases b:d=45
    ·have j:(d==45)=true:=bI.2 b;have m:=z 2 true (by omega);simp only [ob] at m;rw [j,ah,ae b,m];rw [show a+2=a+1+1 from rfl,B];rfl
    ·have j:(d==45)=false:=aK.2 b;simp only [ob] at x;rw [j,af,ab b,x,i];rfl
  ·have e:(c==89)=false:=aK.2 f;rw [e,af,ab f,ab (by decide),kK];by_cases b:c=45
   ·have j:(c==45)=true:=bI.2 b;have m:=A 1 true (by omega);simp only [ob] at m;rw [j,ae b];simp only [ah];rw [m,i];rfl
   ·have j:(c==45)=false:=aK.2 b;simp only [ob] at w;rw [j,ab b];simp only [af];rw [w,p];rfl
def wint (c:Int):Bool:=c==24||c==28||c==30
def uJ (g:Bool) (d:aa) (x:Int):Bool:=!hasX d&&!g&&decide (val d x.toNat=E16)
def yrB (g:Bool) (d:aa) (x s:Int) (m:aa):Bool:=!(decide (0<s)&&!(m==[]))&&!(wint (sea m)&&uJ g d x)
theorem EF (n:Nat) (t:200<n) (g l:Bool) (dg:aa) (x q:Int) (m d:aa) (k0 k1 k2:Int) (w:m.length<=18) (s:dg.length<=100):
  fW n g l dg x q m d k0 k1 k2=some (if okY g l dg x q then yrB g dg x q m else false):=by
 unfold fW;rw [BI n g l dg x q t s,qM n g l dg x q m d k0 k1 k2 w,tU,AP n g l dg x q t s];by_cases h:okY g l dg x q
 rotate_left
 ·rw [ab h,ab h];rfl
 rw [ae h,ae h];have body:(ob (some (sea m,decide (0<sea m))) λr=>(cond (!r.2) (some true) (ob (some (hasX dg)) λE=>(cond E (some true) (ob (some (if okY g l dg x q/\hasX dg=false then (if g then -((val dg x.toNat:Nat):Int) else ((val dg x.toNat:Nat):Int),(0:Int)) else (0,6))) λA=>(ob (iI n A.1 r.1) λF=>(some (F.2.2.2.2==0))))))))=some (!(wint (sea m)&&uJ g dg x)):=by
  rcases pJ m with B | ⟨j,p,rfl⟩
  ·rw [B];rfl
  ·have hs:=lY p;rw [hs];have hp:decide (0<((21+j:Nat):Int))=true:=by simp;omega
   rw [hp];cases o:hasX dg with
   | true=>
    have:uJ g dg x=false:=by unfold uJ;rw [o];rfl
    rw [this,yo];rfl
   | false=>
    rw [ae ⟨h,rfl⟩];obtain ⟨k,G,rfl,rfl,C⟩:=uu h o;have u:val dg k<=E16:=C.small;unfold E16 at u;have hc:ee (if g then -((val dg k:Nat):Int) else ((val dg k:Nat):Int)):=by
     unfold ee;cases g<;>simp<;>omega
    obtain ⟨a,b,c,e,D⟩:=Xf n (by omega) hc p;simp only [ob,ci,af,cg];rw [D];simp only [au];have y:wint ((21+j:Nat):Int)=decide (j=3\/j=7\/j=9):=by
     unfold wint;rw [us];simp only [iV,bI,cn];omega
    have v:uJ g dg (k:Int)=decide ((if g then -((val dg k:Nat):Int) else ((val dg k:Nat):Int))=10000000000000000):=by
     unfold uJ E16;rw [o,cg];cases g
     ·simp only [il,om,bv,aB,nX];omega
     ·simp;omega
    rw [y,v];by_cases f:(if g then -((val dg k:Nat):Int) else ((val dg k:Nat):Int))=10000000000000000<;>by_cases i:j=3\/j=7\/j=9
    ·rw [ae ⟨f,i⟩,am f,am i];rfl
    ·rw [ab (λz=>i z.2),aq i];rfl
    ·rw [ab (λz=>f z.1),aq f,yo];rfl
    ·rw [ab (λz=>f z.1),aq f,yo];rfl
 show cond (decide (q>0)) (cond (!(m==[])) (some false) _) _=_;unfold yrB;rw [show (decide (q>0))=decide (0<q) from rfl];cases decide (0<q) with
 | false=>exact body
 | true=>
  cases (m==[]) with
  | false=>rfl
  | true=>exact body
theorem PL (n:Nat) (j:200<n) (g l:Bool) (dg:aa) (x q:Int) (m d:aa) (k0 k1 k2:Int) (i:dg.length<=100):
  jr n g l dg x q m d k0 k1 k2=some (if okY g l dg x q/\yrB g dg x q m=true then 1 else 0):=by
 unfold jr;rw [NS n g l dg x q j i,pF n (by omega) g l dg x q m d k0 k1 k2,pH n g l dg x q (by omega) (by omega)];by_cases h:okY g l dg x q
 rotate_left
 ·rw [ab h,ab (show ¬(okY g l dg x q/\yrB g dg x q m=true) from λz=>h z.1)];rfl
 rw [ae h];have T:(ob (some (if hasX dg then (1:Int) else 0)) λr=>(cond (r==1) (some (1:Int)) (ob (ak n dg x) λv=>(cond (v.1==10000000000000000) (cond (!g) (some 0) (some 1)) (some 1)))))=some (if uJ g dg x then 0 else 1):=by
  cases a:hasX dg with
  | true=>
   have:uJ g dg x=false:=by unfold uJ;rw [a];rfl
   rw [this];rfl
  | false=>
   obtain ⟨k,p,rfl,rfl,b⟩:=uu h a;have f:=b.small;have o:=b.wide;have c:=jB n dg k b.dig (by omega) (by omega) (by omega);rw [ae f] at c;show ob (ak n dg (k:Int)) _=_;rw [c];show cond (((dval 0 dg*10 ^ k:Nat):Int)==10000000000000000) _ _=_;unfold uJ val;rw [a,cg];have e:(((dval 0 dg*10 ^ k:Nat):Int)==10000000000000000)=decide (dval 0 dg*10 ^ k=E16):=by
    generalize dval 0 dg*10 ^ k=v;unfold E16;rw [us];simp only [bI,cn];omega
   rw [e];cases decide (dval 0 dg*10 ^ k=E16)<;>cases g<;>rfl
 have body:(ob (some (sea m)) λr=>(cond (r != 24) (cond (r != 28) (cond (r != 30) (some (1:Int)) (ob (some (if hasX dg then (1:Int) else 0)) λr=>(cond (r==1) (some (1:Int)) (ob (ak n dg x) λv=>(cond (v.1==10000000000000000) (cond (!g) (some 0) (some 1)) (some 1)))))) (ob (some (if hasX dg then (1:Int) else 0)) λr=>(cond (r==1) (some (1:Int)) (ob (ak n dg x) λv=>(cond (v.1==10000000000000000) (cond (!g) (some 0) (some 1)) (some 1)))))) (ob (some (if hasX dg then (1:Int) else 0)) λr=>(cond (r==1) (some (1:Int)) (ob (ak n dg x) λv=>(cond (v.1==10000000000000000) (cond (!g) (some 0) (some 1)) (some 1)))))))=some (if (!(wint (sea m)&&uJ g dg x))=true then 1 else 0):=by
  rw [T];show cond (sea m != 24) _ _=_;unfold wint;simp only [bne];cases (sea m==24)<;>cases (sea m==28)<;>cases (sea m==30)<;>cases uJ g dg x<;>rfl
 unfold yrB;show cond (decide (q>0)) (cond (!(m==[])) (some 0) _) _=_;rw [show (decide (q>0))=decide (0<q) from rfl];simp only [h,jN];cases decide (0<q) with
 | false=>exact body
 | true=>
  cases (m==[]) with
  | false=>rfl
  | true=>exact body
def dj (m d:aa):Nat:=1+(if m==[] then 0 else 1)+(if d==[] then 0 else 1)
theorem ub (n:Nat) (e:100<n) (g l:Bool) (dg:aa) (x q:Int) (m d:aa) (k0 k1 k2:Int):bp n g l dg x q m d k0 k1 k2=some ((dj m d:Nat):Int):=by
 obtain ⟨n,rfl⟩:∃j,n=j+3:=⟨n - 3,by omega⟩;unfold bp dj;have s0:∀a:Int,ca (n+3) (a,m,d,0)=some (.inl (if m==[] then a else IntKind.wrap .i64 (a+1),m,d,1)):=λa=>by
  unfold ca;show cond (!(m==[])) _ _=_;cases (m==[])<;>rfl
 have c:∀a:Int,ca (n+3) (a,m,d,1)=some (.inl (if d==[] then a else IntKind.wrap .i64 (a+1),m,d,2)):=λa=>by
  unfold ca;show cond (!(d==[])) _ _=_;cases (d==[])<;>rfl
 have b:∀a:Int,ca (n+3) (a,m,d,2)=some (.inr a):=λa=>rfl;rw [ar,s0];show ob (ar _ (n+2) _) _=_;rw [ar,c];show ob (ar _ (n+1) _) _=_;rw [ar,b];cases (m==[])<;>cases (d==[])<;>rfl
theorem oU (n:Nat) (g l:Bool) (dg:aa) (x q:Int) (m d:aa) (k0 k1 k2:Int):aG n g l dg x q m d k0 k1 k2=some ((dj m d:Nat):Int):=by
 unfold aG dj;cases (m==[])<;>cases (d==[])<;>rfl
def allM (a b c:Int) (k:Nat):Int:=if 3<a\/3<b\/3<c\/(k<2/\b≠0)\/(k<3/\c≠0) then 9 else 0
theorem Iy (n:Nat) (v:3<n) (a b c:Int) (k:Nat) (t:1<=k/\k<=3) (w:0<=a) (u:0<=b) (hc:0<=c):
  dL n [a,b,c] (k:Int)=some (allM a b c k)/\bW n [a,b,c] (k:Int)=some (allM a b c k):=by
 obtain ⟨j,rfl⟩:∃j,n=j+4:=⟨n - 4,by omega⟩;have i:IntKind.wrap .i64 1=1:=rfl;have h:IntKind.wrap .i64 2=2:=rfl;have f:IntKind.wrap .i64 3=3:=rfl;have g:ix 3 0=some 0:=rfl;have m:ix 3 1=some 1:=rfl;have e:ix 3 2=some 2:=rfl;have hk':k=1\/k=2\/k=3:=by omega
 unfold allM;by_cases l:a>3
 ·rcases hk' with rfl | rfl | rfl<;>constructor<;>simp [bW,dL,ar,dC,io,ir,ob,i,h,f,g,m,e,l]
 by_cases o:b>3
 ·rcases hk' with rfl | rfl | rfl<;>constructor<;>simp [bW,dL,ar,dC,io,ir,ob,i,h,f,g,m,e,l,o]
 by_cases d:k=1/\b≠0
 ·obtain ⟨rfl,d⟩:=d;have s:b>0:=by omega
  have q:(b != 0)=true:=by simp [d]
  constructor<;>simp [bW,dL,ar,dC,io,ir,ob,i,h,f,g,m,e,l,o,s,d,q]
 by_cases r:c>3
 ·rcases hk' with rfl | rfl | rfl<;>(try (simp at d;subst d))<;>constructor<;>simp [bW,dL,ar,dC,io,ir,ob,i,h,f,g,m,e,l,o,r]
 by_cases p:k<3/\c≠0
 ·have s:c>0:=by omega
  have q:(c != 0)=true:=by simp [p.2]
  rcases hk' with rfl | rfl | rfl<;>(try (simp at d;subst d))<;>simp at p<;>constructor<;>simp [bW,dL,ar,dC,io,ir,ob,i,h,f,g,m,e,l,o,r,s,p,q]
 rcases hk' with rfl | rfl | rfl<;>(try (simp at d;subst d))<;>(try (simp at p;subst p))<;>constructor<;>simp [bW,dL,ar,dC,io,ir,ob,i,h,f,g,m,e,l,o,r]
theorem pK (m d:aa):1<=dj m d/\dj m d<=3:=by
 unfold dj;cases (m==[])<;>cases (d==[])<;>simp
def yrD (g l:Bool) (dg:aa) (x q:Int) (m:aa):Bool:=if okY g l dg x q then yrB g dg x q m else false
def chkD (g l:Bool) (dg:aa) (x q:Int) (m d:aa) (k0 k1 k2:Int):Int:=
 cond (!(yrD g l dg x q m)) 6 (cond (!(m==[])&&(!(decide (0<sea m))&&!(ii m 12))) 7
  (cond (!(d==[])&&((m==[])||(decide (0<sea m)||!(ii d 31)))) 8 (allM k0 k1 k2 (dj m d))))
theorem QU (m:aa):0<=sea m:=by
 rcases pJ m with h | ⟨j,a,rfl⟩
 ·omega
 ·rw [lY a];omega
theorem Td (m:aa):(sea m==0)=!(decide (0<sea m)):=by
 have:=QU m;by_cases h:sea m=0
 ·rw [h];rfl
 ·have a:0<sea m:=by omega
  rw [aK.2 h,am a];rfl
theorem AY (n:Nat) (h:200<n) (g l:Bool) (dg:aa) (x q:Int) (m d:aa) (k0 k1 k2:Int) (a:m.length<=18) (e:dg.length<=100) (i:0<=k0) (c:0<=k1) (f:0<=k2):
  jp n g l dg x q m d k0 k1 k2=some (chkD g l dg x q m d k0 k1 k2):=by
 have hy:fW n g l dg x q m d k0 k1 k2=some (yrD g l dg x q m):=EF n h g l dg x q m d k0 k1 k2 a e;have a1:dm n m 12=some (ii m 12):=C0 n (by omega) m 12 (by omega);have a2:dm n d 31=some (ii d 31):=C0 n (by omega) d 31 (by omega);have o:=(Iy n (by omega) k0 k1 k2 (dj m d) (pK m d) i c f).1;unfold jp chkD;rw [qM n g l dg x q m d k0 k1 k2 a,hy,a1,a2,ub n (by omega)];simp only [ob];rw [o];generalize yrD g l dg x q m=b1;generalize (m==[])=b2;generalize decide (0<sea m)=p;generalize ii m 12=b;generalize (d==[])=j;generalize ii d 31=k;cases b1<;>cases b2<;>cases p<;>cases b<;>cases j<;>cases k<;>rfl
theorem EZ (n:Nat) (f:200<n) (g l:Bool) (dg:aa) (x q:Int) (m d:aa) (k0 k1 k2:Int) (c:dg.length<=100) (i:0<=k0) (b:0<=k1) (e:0<=k2):
  ki n g l dg x q m d k0 k1 k2=some (chkD g l dg x q m d k0 k1 k2):=by
 have hy:jr n g l dg x q m d k0 k1 k2=some (if yrD g l dg x q m then 1 else 0):=by
  rw [PL n f g l dg x q m d k0 k1 k2 c];unfold yrD;by_cases h:okY g l dg x q
  ·simp only [h,jN,aL]
  ·simp only [h,xO,aB];rfl
 have a1:dN n m 12=some (if ii m 12 then 1 else 0):=Iq n (by omega) m 12 (by omega);have a2:dN n d 31=some (if ii d 31 then 1 else 0):=Iq n (by omega) d 31 (by omega);have o:=(Iy n (by omega) k0 k1 k2 (dj m d) (pK m d) i b e).2;unfold ki chkD;rw [pF n (by omega) g l dg x q m d k0 k1 k2,hy,a1,a2,oU n];simp only [ob];rw [o,Td];show cond ((if yrD g l dg x q m then (1:Int) else 0)==0) _ (cond _ (cond _ (cond _ _ (cond _ (cond _ _ (cond (decide (0<sea m)) _ _)) _)) (cond _ (cond _ _ (cond (decide (0<sea m)) _ _)) _)) (cond _ (cond _ _ (cond (decide (0<sea m)) _ _)) _))=_;generalize yrD g l dg x q m=b1;generalize (m==[])=b2;generalize decide (0<sea m)=p;generalize ii m 12=a;generalize (d==[])=j;generalize ii d 31=k;cases b1<;>cases b2<;>cases p<;>cases a<;>cases j<;>cases k<;>rfl
theorem Oj {g l:Bool} {dg:aa} {x q:Int} {m d:aa} {k0 k1 k2:Int} (h:chkD g l dg x q m d k0 k1 k2=0):yrD g l dg x q m=true/\(m=[]\/0<sea m\/ii m 12=true)/\(d=[]\/(m≠[]/\sea m=0/\ii d 31=true))/\allM k0 k1 k2 (dj m d)=0:=by
 have hs:=QU m;unfold chkD at h;cases b1:yrD g l dg x q m with
 | false=>rw [b1] at h;exact absurd h (by simp)
 | true=>
  rw [b1] at h;simp only [ci,af] at h;cases b2:(!(m==[])&&(!(decide (0<sea m))&&!(ii m 12))) with
  | true=>rw [b2] at h;exact absurd h (by simp)
  | false=>
   rw [b2] at h;simp only [af] at h;cases c:(!(d==[])&&((m==[])||(decide (0<sea m)||!(ii d 31)))) with
   | true=>rw [c] at h;exact absurd h (by simp)
   | false=>
    rw [c] at h;simp only [af] at h;refine ⟨rfl,?_,?_,h⟩
    ·by_cases b:m=[]
     ·exact .inl b
     ·by_cases a:0<sea m
      ·exact .inr (.inl a)
      ·simp [b,a] at b2;exact .inr (.inr b2)
    ·by_cases b:d=[]
     ·exact .inl b
     ·by_cases a:m=[]
      ·simp [b,a] at c
      ·by_cases e:0<sea m
       ·simp [b,a,e] at c
       ·simp [b,a,e] at c;exact .inr ⟨a,by omega,c⟩
theorem sB {s:aa} {g:Nat} (m:g<=31) (h:ii s g=true):s.length=2/\∀c∈s,isDX c=true:=by
 unfold ii at h;obtain ⟨i,f,hi⟩:=tX.1 h;have e:i<g:=kX.1 f;have dig:∀k:Nat,k<10->isDX (UInt8.ofNat (48+k))=true:=by decide
 have d:isDX 88=true:=by decide
 match s,hi with
 | [],hi=>simp [agr] at hi
 | [_],hi=>simp [agr] at hi
 | [a,b],hi=>
  refine ⟨rfl,?_⟩;simp only [agr,aA,iV,bI] at hi;obtain ⟨l,j⟩:=hi;intro c hc;simp only [cL,tc,uP] at hc;rcases hc with rfl | rfl
  ·rcases l with rfl | rfl
   ·exact d
   ·exact dig _ (by omega)
  ·rcases j with rfl | rfl
   ·exact d
   ·exact dig _ (by omega)
 | _::_::_::_,hi=>simp [agr] at hi
theorem L9 {m:aa} (h:0<sea m):m.length=2/\∀c∈m,isDX c=true:=by
 rcases pJ m with b | ⟨j,a,rfl⟩
 ·omega
 ·refine ⟨rfl,?_⟩;have:((List.range 21).all λj=>(two (21+j)).all isDX)=true:=by decide +kernel
  have:=(cK.1 this) j (by simpa using a);exact cK.1 this
def mt (k:Nat):aa:=if k=1 then [63] else if k=2 then [126] else if k=3 then [37] else []
def mkOf (c:UInt8):Nat:=if c=63 then 1 else if c=126 then 2 else if c=37 then 3 else 0
def NG (k a b c:Nat):Bool:=(decide (k<2)||b==a)&&(decide (k<3)||c==a)
def plA (k a b c:Nat):Nat×Nat×Nat:=if NG k a b c then (0,0,0) else (a,b,c)
def plB (k a b c:Nat):Nat×Nat×Nat:=if NG k a b c then (if k=1 then (a,0,0) else if k=2 then (0,a,0) else (0,0,a)) else (0,0,0)
def l3 (p:Nat×Nat×Nat):List Int:=[(p.1:Int),(p.2.1:Int),(p.2.2:Int)]
def spM (A B:Nat×Nat×Nat):Nat×Nat×Nat:=(A.1 ||| B.1 ||| B.2.1 ||| B.2.2,A.2.1 ||| B.2.1 ||| B.2.2,A.2.2 ||| B.2.2)
theorem Cf (n k:Nat) (h:k<4):sF n (k:Int)=some (mt k,0)/\cH n (k:Int)=some (mt k):=by
 have:k=0\/k=1\/k=2\/k=3:=by omega
 rcases this with rfl | rfl | rfl | rfl<;>exact ⟨rfl,rfl⟩
noncomputable def Xd (m j:Nat):Bool:=
 (qs (m+300) (j:Int)==some (((mkOf (UInt8.ofNat j):Nat):Int),decide (0<mkOf (UInt8.ofNat j))))&&(dK (m+300) (j:Int)==some ((mkOf (UInt8.ofNat j):Nat):Int))
theorem Qn (m:Nat):(List.range 256).all (Xd m)=true:=by kernel_rfl
theorem FB (m:Nat) (c:UInt8):qs (m+300) ((c.toNat:Nat):Int)=some (((mkOf c:Nat):Int),decide (0<mkOf c))/\dK (m+300) ((c.toNat:Nat):Int)=some ((mkOf c:Nat):Int):=by
 have h:=(cK.1 (Qn m)) c.toNat (kX.2 c.toNat_lt);unfold Xd at h;rw [show UInt8.ofNat c.toNat=c by simp] at h;simp only [aA,bI] at h;exact h
noncomputable def On (m k a b c:Nat):Bool:=
 (pY (m+300) [(a:Int),(b:Int),(c:Int)] (k:Int)==some (l3 (plA k a b c),l3 (plB k a b c),0))&&(kn (m+300) [(a:Int),(b:Int),(c:Int)] (k:Int)==some (l3 (plA k a b c),l3 (plB k a b c)))
theorem WN (m:Nat):((List.range 4).all λa=>On m 1 a 0 0)=true:=by kernel_rfl
theorem VQ (m:Nat):((List.range 4).all λa=>(List.range 4).all λb=>On m 2 a b 0)=true:=by kernel_rfl
theorem VS (m:Nat):((List.range 4).all λa=>(List.range 4).all λb=>(List.range 4).all λc=>On m 3 a b c)=true:=by kernel_rfl
theorem r4 {p:Nat->Bool} (h:(List.range 4).all p=true) {a:Nat} (b:a<4):p a=true:=(cK.1 h) a (kX.2 b)
theorem V7 (m k a b c:Nat) (i:1<=k/\k<=3) (d:a<4) (f:b<4) (hc:c<4) (g:k<2->b=0) (e:k<3->c=0):
  pY (m+300) [(a:Int),(b:Int),(c:Int)] (k:Int)=some (l3 (plA k a b c),l3 (plB k a b c),0)/\kn (m+300) [(a:Int),(b:Int),(c:Int)] (k:Int)=some (l3 (plA k a b c),l3 (plB k a b c)):=by
 have h:On m k a b c=true:=by
  have:k=1\/k=2\/k=3:=by omega
  rcases this with rfl | rfl | rfl
  ·rw [g (by omega),e (by omega)];exact r4 (WN m) d
  ·rw [e (by omega)];exact r4 (r4 (VQ m) d) f
  ·exact r4 (r4 (r4 (VS m) d) f) hc
 unfold On at h;simp only [aA,bI] at h;exact h
theorem RU {k a b c:Nat} (d:a<4) (e:b<4) (hc:c<4):(plA k a b c).1<4/\(plA k a b c).2.1<4/\(plA k a b c).2.2<4/\(plB k a b c).1<4/\(plB k a b c).2.1<4/\(plB k a b c).2.2<4:=by
 unfold plA plB;split
 ·split
  ·simp [d]
  ·split<;>simp [d]
 ·simp [d,e,hc]
def inM (k:Nat) (A:Nat×Nat×Nat):Prop:=A.1<4/\A.2.1<4/\A.2.2<4/\(k<2->A.2.1=0)/\(k<3->A.2.2=0)
theorem xj {k:Nat} {A:Nat×Nat×Nat} (h:inM k A):allM (A.1:Int) (A.2.1:Int) (A.2.2:Int) k=0:=by
 obtain ⟨e,b,d,a,c⟩:=h;unfold allM;rw [ab (by omega)]
theorem or4 {a b:Nat} (c:a<4) (d:b<4):bits .or .u8 (a:Int) (b:Int)=((a ||| b:Nat):Int)/\a ||| b<4:=by
 have:((List.range 4).all λa=>(List.range 4).all λb=>bits .or .u8 (a:Int) (b:Int)==((a ||| b:Nat):Int)&&decide (a ||| b<4))=true:=by decide +kernel
 have:=r4 (r4 this c) d;simpa using this
theorem yJ (n:Nat) (w:9<n) (k:Nat) (A B:Nat×Nat×Nat) (o:1<=k/\k<=3) (r:inM k A) (t:inM k B):eQ n (l3 A) (l3 B) (k:Int)=some (l3 (spM A B),0):=by
 obtain ⟨n,rfl⟩:∃j,n=j+5:=⟨n - 5,by omega⟩;have p:=(Iy (n+5) (by omega) (A.1:Int) (A.2.1:Int) (A.2.2:Int) k o (by omega) (by omega) (by omega)).1;have m:=(Iy (n+5) (by omega) (B.1:Int) (B.2.1:Int) (B.2.2:Int) k o (by omega) (by omega) (by omega)).1;rw [xj r] at p;rw [xj t] at m;have i:∀x:Nat,x<4->bits .or .u8 0 (x:Int)=(x:Int):=λx hx=>by
  have:=(or4 (show 0<4 by omega) hx).1;simpa using this
 have a:∀x y:Nat,x<4->y<4->bits .or .u8 (x:Int) (y:Int)=((x ||| y:Nat):Int):=λx y hx hy=>(or4 hx hy).1;have e:∀x y:Nat,x<4->y<4->x ||| y<4:=λx y hx hy=>(or4 hx hy).2;unfold eQ;show ob (dL (n+5) [(A.1:Int),(A.2.1:Int),(A.2.2:Int)] (k:Int)) _=_;rw [p];show ob (dL (n+5) [(B.1:Int),(B.2.1:Int),(B.2.2:Int)] (k:Int)) _=_;rw [m];obtain ⟨a0,a1,a2⟩:=A;obtain ⟨b0,b1,b2⟩:=B;obtain ⟨g0,f,s,q,g⟩:=r;obtain ⟨d,b,c,l,h⟩:=t;simp only at g0 f s q g d b c l h;have hk':k=1\/k=2\/k=3:=by omega
 rcases hk' with rfl | rfl | rfl
 ·obtain rfl:=q (by omega);obtain rfl:=g (by omega);obtain rfl:=l (by omega);obtain rfl:=h (by omega);show some (([bits .or .u8 (a0:Int) (bits .or .u8 0 (b0:Int)),0,0]:List Int),(0:Int))=_;rw [i b0 d,a _ _ g0 d];simp [l3,spM]
 ·obtain rfl:=g (by omega);obtain rfl:=h (by omega);show some (([bits .or .u8 (a0:Int) (bits .or .u8 (bits .or .u8 0 (b1:Int)) (b0:Int)),bits .or .u8 (a1:Int) (bits .or .u8 0 (b1:Int)),0]:List Int),(0:Int))=_;rw [i b1 b,a _ _ b d,a _ _ g0 (e _ _ b d),a _ _ f b];simp [l3,spM,Nat.or_assoc,BA b1 b0]
 ·show some (([bits .or .u8 (a0:Int) (bits .or .u8 (bits .or .u8 (bits .or .u8 0 (b2:Int)) (b1:Int)) (b0:Int)),bits .or .u8 (a1:Int) (bits .or .u8 (bits .or .u8 0 (b2:Int)) (b1:Int)),bits .or .u8 (a2:Int) (bits .or .u8 0 (b2:Int))]:List Int),(0:Int))=_;rw [i b2 c,a _ _ c b,a _ _ (e _ _ c b) d,a _ _ g0 (e _ _ (e _ _ c b) d),a _ _ f (e _ _ c b),a _ _ s c];have u:a0 ||| (b2 ||| b1 ||| b0)=a0 ||| b0 ||| b1 ||| b2:=by rw [BA (b2 ||| b1) b0,BA b2 b1];simp only [Nat.or_assoc]
  have v:a1 ||| (b2 ||| b1)=a1 ||| b1 ||| b2:=by rw [BA b2 b1];simp only [Nat.or_assoc]
  rw [u,v];rfl
abbrev cI (x:Nat):Int:=(x:Int)
def bt (b a:Nat):Nat:=if b=1 then a%2 else a / 2%2
theorem Q4 (n:Nat) {a b:Nat} (d:a<4) (c:b=1\/b=2):jb n (a:Int) (b:Int)=some ((bt b a:Nat):Int):=by
 have h:a=0\/a=1\/a=2\/a=3:=by omega
 rcases h with rfl | rfl | rfl | rfl<;>rcases c with rfl | rfl<;>rfl
theorem SJ (b a:Nat):bt b a<=1:=by unfold bt;split<;>omega
def bts (b:Nat):List Nat->Nat
 | []=>0
 | x::l=>bt b x+bts b l
theorem Xy (n k b i:Nat) (o:b=1\/b=2) (q:k<=3) (A X Y:List Int) (a:List Nat) (t:a.length=3) (l:∀x∈a,x<4):∀(r j acc:Nat),j+r=k->acc<=j+1->∀N,r<N->
  ar (ck n) N ((k:Int),(b:Int),(i:Int),(acc:Int),(j:Int),A,a.map cI,X,Y)=some ((k:Int),(b:Int),(i:Int),((acc+bts b ((a.take k).drop j):Nat):Int),A,a.map cI,X,Y):=by
 intro r
 induction r with
 | zero=>
  intro j acc h c N p;obtain ⟨N,rfl⟩:∃k,N=k+1:=⟨N - 1,by omega⟩;have s:ck n ((k:Int),(b:Int),(i:Int),(acc:Int),(j:Int),A,a.map cI,X,Y)=some (.inr ((k:Int),(b:Int),(i:Int),(acc:Int),A,a.map cI,X,Y)):=by
   unfold ck;rw [bD,ab (show ¬((j:Int)<(k:Int)) by omega)]
  have e:(a.take k).drop j=[]:=js (by rw [dG];omega);rw [ar,s,e];rfl
 | succ r ih=>
  intro j acc h c N p;obtain ⟨N,rfl⟩:∃k,N=k+1:=⟨N - 1,by omega⟩;have f:j<a.length:=by omega
  obtain ⟨x,hx⟩:∃x,a[j]?=some x:=⟨a[j],bf f⟩;have g:(a.map cI)[j]?=some (x:Int):=by rw [m6,hx];rfl
  have d:=l x (gM hx);have w:IntKind.wrap .i64 ((acc:Int)+((bt b x:Nat):Int))=((acc+bt b x:Nat):Int):=by have:=SJ b x;rw [wrap_i64 _ (by omega) (by omega)];omega
  have m:IntKind.wrap .i64 ((j:Int)+1)=((j+1:Nat):Int):=by rw [wrap_i64 _ (by omega) (by omega)];omega
  have s:ck n ((k:Int),(b:Int),(i:Int),(acc:Int),(j:Int),A,a.map cI,X,Y)=some (.inl ((k:Int),(b:Int),(i:Int),((acc+bt b x:Nat):Int),((j+1:Nat):Int),A,a.map cI,X,Y)):=by
   unfold ck;rw [bD,ae (show (j:Int)<(k:Int) by omega)];show ob (ix 3 (j:Int)) _=_;rw [dZ (show j<3 by omega)];show ob ((a.map cI)[j]?) _=_;rw [g];show ob (jb n (x:Int) (b:Int)) _=_;rw [Q4 n d o];show some (Sum.inl ((k:Int),(b:Int),(i:Int),IntKind.wrap .i64 ((acc:Int)+((bt b x:Nat):Int)),IntKind.wrap .i64 ((j:Int)+1),_))=_;rw [w,m]
  have e:(a.take k).drop j=x::(a.take k).drop (j+1):=bX (by rw [qA (by omega)];exact hx);rw [ar,s];have:=SJ b x;show ar _ N _=_;rw [ih (j+1) (acc+bt b x) (by omega) (by omega) N (by omega),e];simp only [bts,iP]
def hit (k b i:Nat) (c a:List Nat):Bool:=decide (0<bt b (c.getD i 0)+bts b ((a.take k).drop i))
theorem XC (n k b i:Nat) (v:9<n) (h:b=1\/b=2) (p:k<=3) (hi:i<k) (X:List Int) (a c:List Nat) (w:a.length=3) (u:c.length=3) (l:∀x∈a,x<4) (r:∀x∈c,x<4) (out:List Int) (o:Int) (q:out[i]?=some o):
  bE n ((k:Int),(b:Int),(i:Int),a.map cI,c.map cI,X,out)=some (.inl ((k:Int),(b:Int),((i+1:Nat):Int),a.map cI,c.map cI,X,cond (hit k b i a c) (out.set i (IntKind.wrap .u8 (o+(b:Int)))) out)):=by
 obtain ⟨x,hx⟩:∃x,a[i]?=some x:=⟨a[i],bf (by omega)⟩;have g:(a.map cI)[i]?=some (x:Int):=by rw [m6,hx];rfl
 have d:=l x (gM hx);have m:=SJ b x;have s:IntKind.wrap .i64 ((i:Int)+1)=((i+1:Nat):Int):=by rw [wrap_i64 _ (by omega) (by omega)];omega
 have f:=Xy n k b i h p (a.map cI) X out c u r (k - i) i (bt b x) (by omega) (by omega) n (by omega);unfold bE;rw [bD,ae (show (i:Int)<(k:Int) by omega)];show ob (ix 3 (i:Int)) _=_;rw [dZ (show i<3 by omega)];show ob ((a.map cI)[i]?) _=_;rw [g];show ob (jb n (x:Int) (b:Int)) _=_;rw [Q4 n d h];show ob (ar (ck n) n ((k:Int),(b:Int),(i:Int),((bt b x:Nat):Int),(i:Int),a.map cI,c.map cI,X,out)) _=_;rw [f];have t:hit k b i a c=decide (((bt b x+bts b ((c.take k).drop i):Nat):Int)>0):=by
  unfold hit;rw [DU,hx];rw [nX];simp only [xb];omega
 rw [t];show cond (decide (((bt b x+bts b ((c.take k).drop i):Nat):Int)>0)) (ob (ix 3 (i:Int)) λj=>ob (out[j]?) λy=>ob (ix 3 (i:Int)) λj2=>cond (Nat.blt j2 3) (some (Sum.inl ((k:Int),(b:Int),IntKind.wrap .i64 ((i:Int)+1),a.map cI,c.map cI,X,out.set j2 (IntKind.wrap .u8 (y+(b:Int)))))) none) (some (Sum.inl ((k:Int),(b:Int),IntKind.wrap .i64 ((i:Int)+1),a.map cI,c.map cI,X,out)))=_;rw [dZ (show i<3 by omega),s];have e:Nat.blt i 3=true:=cT (by omega);simp only [ob,q,e,ah];cases decide (((bt b x+bts b ((c.take k).drop i):Nat):Int)>0)<;>rfl
def addB (k b:Nat) (c a:List Nat) (o:List Int):List Int:=[cond (decide (0<k)&&hit k b 0 c a) (IntKind.wrap .u8 (o.getD 0 0+(b:Int))) (o.getD 0 0),cond (decide (1<k)&&hit k b 1 c a) (IntKind.wrap .u8 (o.getD 1 0+(b:Int))) (o.getD 1 0),cond (decide (2<k)&&hit k b 2 c a) (IntKind.wrap .u8 (o.getD 2 0+(b:Int))) (o.getD 2 0)]
theorem P8 (n k b:Nat) (p:9<n) (q:b=1\/b=2) (l:1<=k/\k<=3) (X:List Int) (a c:List Nat) (r:a.length=3) (s:c.length=3) (h:∀x∈a,x<4) (m:∀x∈c,x<4) (g o1 e:Int):
  ar (bE n) n ((k:Int),(b:Int),0,a.map cI,c.map cI,X,[g,o1,e])=some ((k:Int),(b:Int),a.map cI,c.map cI,X,addB k b a c [g,o1,e]):=by
 obtain ⟨n,rfl⟩:∃j,n=j+5:=⟨n - 5,by omega⟩;have fin:∀(N:Nat) (out:List Int),ar (bE (n+5)) (N+1) ((k:Int),(b:Int),((k:Nat):Int),a.map cI,c.map cI,X,out)=some ((k:Int),(b:Int),a.map cI,c.map cI,X,out):=λN out=>by
  rw [ar];have:bE (n+5) ((k:Int),(b:Int),((k:Nat):Int),a.map cI,c.map cI,X,out)=some (.inr ((k:Int),(b:Int),a.map cI,c.map cI,X,out)):=by
   unfold bE;rw [bD,ab (show ¬((k:Int)<(k:Int)) by omega)]
  rw [this]
 have f:=λ(i:Nat) (hi:i<k) (out:List Int) (o:Int) (ho:out[i]?=some o)=>XC (n+5) k b i p q l.2 hi X a c r s h m out o ho;have hk':k=1\/k=2\/k=3:=by omega
 have d:=f 0 (by omega) [g,o1,e] g rfl;rcases hk' with rfl | rfl | rfl
 ·rw [ar];rw [show ((0:Nat):Int)=0 from rfl] at d;rw [d];show ar _ (n+3+1) (((1:Nat):Int),(b:Int),((1:Nat):Int),_)=_;rw [fin];unfold addB;cases hit 1 b 0 a c<;>rfl
 ·rw [ar];rw [show ((0:Nat):Int)=0 from rfl] at d;rw [d];show ar _ (n+4) (((2:Nat):Int),(b:Int),((1:Nat):Int),_)=_;rw [ar,f 1 (by omega) _ o1 (by cases hit 2 b 0 a c<;>rfl)];show ar _ (n+2+1) (((2:Nat):Int),(b:Int),((2:Nat):Int),_)=_;rw [fin];unfold addB;cases hit 2 b 0 a c<;>cases hit 2 b 1 a c<;>rfl
 ·rw [ar];rw [show ((0:Nat):Int)=0 from rfl] at d;rw [d];show ar _ (n+4) (((3:Nat):Int),(b:Int),((1:Nat):Int),_)=_;rw [ar,f 1 (by omega) _ o1 (by cases hit 3 b 0 a c<;>rfl)];show ar _ (n+3) (((3:Nat):Int),(b:Int),((2:Nat):Int),_)=_;rw [ar,f 2 (by omega) _ e (by cases hit 3 b 0 a c<;>cases hit 3 b 1 a c<;>rfl)];show ar _ (n+1+1) (((3:Nat):Int),(b:Int),((3:Nat):Int),_)=_;rw [fin];unfold addB;cases hit 3 b 0 a c<;>cases hit 3 b 1 a c<;>cases hit 3 b 2 a c<;>rfl
def lN (p:Nat×Nat×Nat):List Nat:=[p.1,p.2.1,p.2.2]
theorem rH {x y:Nat} (hx:x<4) (hy:y<4) (b:Nat) (d:b=1\/b=2):decide (0<bt b (x ||| y))=decide (0<bt b x+bt b y):=by
 have:((List.range 4).all λa=>(List.range 4).all λc=>(decide (0<bt 1 (a ||| c))==decide (0<bt 1 a+bt 1 c))&&(decide (0<bt 2 (a ||| c))==decide (0<bt 2 a+bt 2 c)))=true:=by decide +kernel
 have:=r4 (r4 this hx) hy;simp only [aA,bI] at this;rcases d with rfl | rfl
 ·exact this.1
 ·exact this.2
theorem sq {x:Nat} (hx:x<4):cond (decide (0<bt 2 x)) (IntKind.wrap .u8 (cond (decide (0<bt 1 x)) (IntKind.wrap .u8 (0+((1:Nat):Int))) 0+((2:Nat):Int))) (cond (decide (0<bt 1 x)) (IntKind.wrap .u8 (0+((1:Nat):Int))) 0)=(x:Int):=by
 have h:x=0\/x=1\/x=2\/x=3:=by omega
 rcases h with rfl | rfl | rfl | rfl<;>decide
theorem uN (n:Nat) (N:9<n) (k:Nat) (A B:Nat×Nat×Nat) (E:1<=k/\k<=3) (G:inM k A) (I:inM k B):eF n (l3 A) (l3 B) (k:Int)=some (l3 (spM A B)):=by
 obtain ⟨a0,a1,a2⟩:=A;obtain ⟨b0,b1,b2⟩:=B;obtain ⟨g0,m,u,z,s⟩:=G;obtain ⟨f,d,l,v,t⟩:=I;simp only at g0 m u z s f d l v t;have c:∀x y:Nat,x<4->y<4->x ||| y<4:=λx y hx hy=>(or4 hx hy).2;have K:∀x∈lN (a0,a1,a2),x<4:=by
  intro x hx;simp only [lN,cL,tc,uP] at hx;rcases hx with rfl | rfl | rfl<;>assumption
 have L:∀x∈lN (b0,b1,b2),x<4:=by
  intro x hx;simp only [lN,cL,tc,uP] at hx;rcases hx with rfl | rfl | rfl<;>assumption
 have run:=λ(b:Nat) (a:b=1\/b=2) (o0 o1 o2:Int)=>P8 n k b N a E [0,0,0] (lN (a0,a1,a2)) (lN (b0,b1,b2)) rfl rfl K L o0 o1 o2;have C:=run 1 (.inl rfl) 0 0 0;obtain ⟨i,g,h,hp⟩:∃i g h,addB k 1 (lN (a0,a1,a2)) (lN (b0,b1,b2)) [0,0,0]=[i,g,h]:=⟨_,_,_,rfl⟩;have M:=run 2 (.inr rfl) i g h;rw [hp] at C;obtain ⟨n,rfl⟩:∃j,n=j+5:=⟨n - 5,by omega⟩;have D:cM (n+5) ((k:Int),1,l3 (a0,a1,a2),l3 (b0,b1,b2),[0,0,0],[0,0,0])=some (.inl ((k:Int),2,l3 (a0,a1,a2),l3 (b0,b1,b2),[0,0,0],[i,g,h])):=by
  unfold cM;show cond (decide ((1:Int)<=2)) (ob (ar (bE (n+5)) (n+5) ((k:Int),((1:Nat):Int),0,(lN (a0,a1,a2)).map cI,(lN (b0,b1,b2)).map cI,[0,0,0],[0,0,0])) _) _=_;rw [C];rfl
 have F:cM (n+5) ((k:Int),2,l3 (a0,a1,a2),l3 (b0,b1,b2),[0,0,0],[i,g,h])=some (.inl ((k:Int),3,l3 (a0,a1,a2),l3 (b0,b1,b2),[0,0,0],addB k 2 (lN (a0,a1,a2)) (lN (b0,b1,b2)) [i,g,h])):=by
  unfold cM;show cond (decide ((2:Int)<=2)) (ob (ar (bE (n+5)) (n+5) ((k:Int),((2:Nat):Int),0,(lN (a0,a1,a2)).map cI,(lN (b0,b1,b2)).map cI,[0,0,0],[i,g,h])) _) _=_;rw [M];rfl
 have J:∀out:List Int,cM (n+5) ((k:Int),3,l3 (a0,a1,a2),l3 (b0,b1,b2),[0,0,0],out)=some (.inr ([0,0,0],out)):=λout=>rfl;unfold eF;rw [ar,D];show ob (ar _ (n+4) _) _=_;rw [ar,F];show ob (ar _ (n+3) _) _=_;rw [ar,J];show some (addB k 2 (lN (a0,a1,a2)) (lN (b0,b1,b2)) [i,g,h])=_;rw [<-hp];have hk':k=1\/k=2\/k=3:=by omega
 have O:=λ(x y:Nat) (hx:x<4) (hy:y<4) (b:Nat) (a:b=1\/b=2)=>rH hx hy b a;rcases hk' with rfl | rfl | rfl
 ·obtain rfl:=z (by omega);obtain rfl:=s (by omega);obtain rfl:=v (by omega);obtain rfl:=t (by omega);have e:∀b,b=1\/b=2->hit 1 b 0 (lN (a0,0,0)) (lN (b0,0,0))=decide (0<bt b (a0 ||| b0)):=λb a=>by rw [rH g0 f b a];rfl
  show some [cond (hit 1 2 0 (lN (a0,0,0)) (lN (b0,0,0))) (IntKind.wrap .u8 (cond (hit 1 1 0 (lN (a0,0,0)) (lN (b0,0,0))) (IntKind.wrap .u8 (0+((1:Nat):Int))) 0+((2:Nat):Int))) (cond (hit 1 1 0 (lN (a0,0,0)) (lN (b0,0,0))) (IntKind.wrap .u8 (0+((1:Nat):Int))) 0),0,0]=_;rw [e 1 (.inl rfl),e 2 (.inr rfl),sq (c _ _ g0 f)];simp [l3,spM]
 ·obtain rfl:=s (by omega);obtain rfl:=t (by omega);have r:∀b,b=1\/b=2->hit 2 b 1 (lN (a0,a1,0)) (lN (b0,b1,0))=decide (0<bt b (a1 ||| b1)):=λb a=>by rw [rH m d b a];rfl
  have q:∀b,b=1\/b=2->hit 2 b 0 (lN (a0,a1,0)) (lN (b0,b1,0))=decide (0<bt b (a0 ||| b0 ||| b1)):=λb a=>by
   have o:=rH (c _ _ g0 f) d b a;have p:=rH g0 f b a;rw [o];have:hit 2 b 0 (lN (a0,a1,0)) (lN (b0,b1,0))=decide (0<bt b a0+(bt b b0+(bt b b1+0))):=rfl;rw [this];simp only [nX] at p ⊢;omega
  show some [cond (hit 2 2 0 (lN (a0,a1,0)) (lN (b0,b1,0))) (IntKind.wrap .u8 (cond (hit 2 1 0 (lN (a0,a1,0)) (lN (b0,b1,0))) (IntKind.wrap .u8 (0+((1:Nat):Int))) 0+((2:Nat):Int))) (cond (hit 2 1 0 (lN (a0,a1,0)) (lN (b0,b1,0))) (IntKind.wrap .u8 (0+((1:Nat):Int))) 0),cond (hit 2 2 1 (lN (a0,a1,0)) (lN (b0,b1,0))) (IntKind.wrap .u8 (cond (hit 2 1 1 (lN (a0,a1,0)) (lN (b0,b1,0))) (IntKind.wrap .u8 (0+((1:Nat):Int))) 0+((2:Nat):Int))) (cond (hit 2 1 1 (lN (a0,a1,0)) (lN (b0,b1,0))) (IntKind.wrap .u8 (0+((1:Nat):Int))) 0),0]=_;rw [q 1 (.inl rfl),q 2 (.inr rfl),r 1 (.inl rfl),r 2 (.inr rfl),sq (c _ _ (c _ _ g0 f) d),sq (c _ _ m d)];simp [l3,spM]
 ·have w:∀b,b=1\/b=2->hit 3 b 2 (lN (a0,a1,a2)) (lN (b0,b1,b2))=decide (0<bt b (a2 ||| b2)):=λb a=>by rw [rH u l b a];rfl
  have r:∀b,b=1\/b=2->hit 3 b 1 (lN (a0,a1,a2)) (lN (b0,b1,b2))=decide (0<bt b (a1 ||| b1 ||| b2)):=λb a=>by
   have o:=rH (c _ _ m d) l b a;have p:=rH m d b a;rw [o];have:hit 3 b 1 (lN (a0,a1,a2)) (lN (b0,b1,b2))=decide (0<bt b a1+(bt b b1+(bt b b2+0))):=rfl;rw [this];simp only [nX] at p ⊢;omega
  have q:∀b,b=1\/b=2->hit 3 b 0 (lN (a0,a1,a2)) (lN (b0,b1,b2))=decide (0<bt b (a0 ||| b0 ||| b1 ||| b2)):=λb a=>by
   have o:=rH (c _ _ (c _ _ g0 f) d) l b a;have p:=rH (c _ _ g0 f) d b a;have H:=rH g0 f b a;rw [o];have:hit 3 b 0 (lN (a0,a1,a2)) (lN (b0,b1,b2))=decide (0<bt b a0+(bt b b0+(bt b b1+(bt b b2+0)))):=rfl;rw [this];simp only [nX] at p H ⊢;omega
  show some [cond (hit 3 2 0 (lN (a0,a1,a2)) (lN (b0,b1,b2))) (IntKind.wrap .u8 (cond (hit 3 1 0 (lN (a0,a1,a2)) (lN (b0,b1,b2))) (IntKind.wrap .u8 (0+((1:Nat):Int))) 0+((2:Nat):Int))) (cond (hit 3 1 0 (lN (a0,a1,a2)) (lN (b0,b1,b2))) (IntKind.wrap .u8 (0+((1:Nat):Int))) 0),cond (hit 3 2 1 (lN (a0,a1,a2)) (lN (b0,b1,b2))) (IntKind.wrap .u8 (cond (hit 3 1 1 (lN (a0,a1,a2)) (lN (b0,b1,b2))) (IntKind.wrap .u8 (0+((1:Nat):Int))) 0+((2:Nat):Int))) (cond (hit 3 1 1 (lN (a0,a1,a2)) (lN (b0,b1,b2))) (IntKind.wrap .u8 (0+((1:Nat):Int))) 0),cond (hit 3 2 2 (lN (a0,a1,a2)) (lN (b0,b1,b2))) (IntKind.wrap .u8 (cond (hit 3 1 2 (lN (a0,a1,a2)) (lN (b0,b1,b2))) (IntKind.wrap .u8 (0+((1:Nat):Int))) 0+((2:Nat):Int))) (cond (hit 3 1 2 (lN (a0,a1,a2)) (lN (b0,b1,b2))) (IntKind.wrap .u8 (0+((1:Nat):Int))) 0)]=_;rw [q 1 (.inl rfl),q 2 (.inr rfl),r 1 (.inl rfl),r 2 (.inr rfl),w 1 (.inl rfl),w 2 (.inr rfl),sq (c _ _ (c _ _ (c _ _ g0 f) d) l),sq (c _ _ (c _ _ m d) l),sq (c _ _ u l)];rfl
def K5 (k a b c:Nat):Bool:=spM (plA k a b c) (plB k a b c)==(a,b,c)
theorem WP:((List.range 4).all λa=>K5 1 a 0 0)=true:=by decide +kernel
theorem VD:((List.range 4).all λa=>(List.range 4).all λb=>K5 2 a b 0)=true:=by decide +kernel
theorem V6:((List.range 4).all λa=>(List.range 4).all λb=>(List.range 4).all λc=>K5 3 a b c)=true:=by decide +kernel
theorem Xx (k a b c:Nat) (i:1<=k/\k<=3) (d:a<4) (f:b<4) (hc:c<4) (g:k<2->b=0) (e:k<3->c=0):spM (plA k a b c) (plB k a b c)=(a,b,c):=by
 have h:K5 k a b c=true:=by
  have:k=1\/k=2\/k=3:=by omega
  rcases this with rfl | rfl | rfl
  ·rw [g (by omega),e (by omega)];exact r4 WP d
  ·rw [e (by omega)];exact r4 (r4 VD d) f
  ·exact r4 (r4 (r4 V6 d) f) hc
 unfold K5 at h;exact bI.1 h
def mkS (l:aa):Nat:=match l with | []=>0 | c::_=>mkOf c
def mkN (l:aa):Nat:=if mkS l=0 then 0 else 1
def twoN (l:aa):Nat:=bH isDX 2 l
theorem SH (c:UInt8):mkOf c<4:=by
 unfold mkOf;split
 ·omega
 ·split
  ·omega
  ·split<;>omega
theorem CQ (l:aa):mkS l<4:=by
 cases l with
 | nil=>show 0<4;omega
 | cons c r=>exact SH c
theorem WX (l:aa):mkN l<=l.length:=by
 cases l with
 | nil=>exact aY 0
 | cons c r=>
  unfold mkN;split<;>simp
theorem Up (c:UInt8):hasB [63,126,37] c=decide (0<mkOf c):=by
 have:=iW (λc=>hasB [63,126,37] c==decide (0<mkOf c)) (by decide +kernel) c;simpa using this
theorem Ul (m:Nat) (S:aa) (a:Nat) (h:a<=S.length) (i:S.length<100000):
  cJ (m+300) S (a:Int)=some (.inr (((mkS (S.drop a):Nat):Int),S,((a+mkN (S.drop a):Nat):Int))):=by
 unfold cJ;rw [qd (m+300) S a h];cases e:S.drop a with
 | nil=>
  have f:qs (m+300) 0=some (0,false):=by kernel_rfl
  show ob (qs (m+300) 0) _=_;rw [f];rfl
 | cons c r=>
  show ob (qs (m+300) ((c.toNat:Nat):Int)) _=_;rw [(FB m c).1];show cond (decide (0<mkOf c)) _ _=_;have b:mkS (c::r)=mkOf c:=rfl;by_cases hc:0<mkOf c
  ·rw [am hc];show ob (cu (m+300) [63,126,37] S (a:Int)) _=_;rw [B5 (m+300) _ S a h (by omega),e];have g:hasB [63,126,37] c=true:=by rw [Up,am hc]
   have d:mkN (c::r)=1:=by unfold mkN;rw [b,ab (by omega)]
   rw [b,d];simp only [g,aL,ob]
  ·rw [aq hc];have d:mkN (c::r)=0:=by unfold mkN;rw [b,ae (by omega)]
   rw [b,d];rfl
theorem Bd (m:Nat) (S:aa) (a:Nat) (h:a<=S.length) (i:S.length<100000) (e:Int):
  eM (m+300) S (a:Int) e=some (((mkS (S.drop a):Nat):Int),S,((a+mkN (S.drop a):Nat):Int),e):=by
 unfold eM;rw [lZ];rcases aH a S.length with g | d
 ·have:decide (S.length<=a)=false:=by simp;omega
  rw [this];obtain ⟨c,hc⟩:∃c,S[a]?=some c:=⟨S[a],bf g⟩;rw [dI hc,bX hc];show ob (dK (m+300) ((c.toNat:Nat):Int)) _=_;rw [(FB m c).2];have b:mkS (c::S.drop (a+1))=mkOf c:=rfl;show cond (decide (((mkOf c:Nat):Int)>0)) _ _=_;by_cases j:0<mkOf c
  ·have f:mkN (c::S.drop (a+1))=1:=by unfold mkN;rw [b,ab (by omega)]
   have:decide (((mkOf c:Nat):Int)>0)=true:=by simp;omega
   rw [this,b,f,ah];have w:IntKind.wrap .i64 ((a:Int)+1)=((a+1:Nat):Int):=by rw [wrap_i64 _ (by omega) (by omega)];omega
   rw [w]
  ·have f:mkN (c::S.drop (a+1))=0:=by unfold mkN;rw [b,ae (by omega)]
   have:decide (((mkOf c:Nat):Int)>0)=false:=by simp;omega
   rw [this,b,f,af];rfl
 ·have:decide (S.length<=a)=true:=by simp;omega
  rw [this,js d];rfl
theorem Q3 (n:Nat) (S:aa) (a:Nat) (h:a<=S.length) (i:S.length<100000) (f:S.length<n):
  iZ n S (a:Int)=some (if twoN (S.drop a)<2 then .inl (((a+twoN (S.drop a):Nat):Int),5,S,((a+twoN (S.drop a):Nat):Int)) else .inr ((S.drop a).take 2,S,((a+2:Nat):Int))):=by
 unfold iZ;rw [wk n _ 2 2 S a h (by omega) f];have e:bH (hasB [88,48,49,50,51,52,53,54,55,56,57]) (2:Int).toNat (S.drop a)=twoN (S.drop a):=by
  unfold twoN;have g:(2:Int).toNat=2:=rfl;rw [g];exact kA (λc=>by rw [uS];rfl) _ _
 rw [e];by_cases b:twoN (S.drop a)<2
 ·rw [ae b,ae (by omega)];rfl
 ·have d:twoN (S.drop a)=2:=by
   have:=rE isDX 2 (S.drop a);unfold twoN at b ⊢;omega
  rw [ab b,ab (by omega),d];rfl
theorem US (c:UInt8):isDX c=((decide (48<=c.toNat)&&decide (c.toNat<=57))||c==88):=by
 unfold isDX;congr 1;rw [us,cw];simp
theorem Ih (n:Nat) (S:aa) (a b i e:Int) (j:Nat) (t:S.length<100000) (hi:i<2) (r:j<=S.length) (u:0<=i):
  hO n (b,i,S,(j:Int),e,[],0,0)=some (match S.drop j with
   | []=>.inr (.inl ([],S,(j:Int),5))
   | c::_=>if isDX c then .inl (b,i+1,S,((j+1:Nat):Int),e,[],0,0) else .inr (.inl ([],S,(j:Int),5))):=by
 unfold hO;have o:decide (i<2)=true:=am hi;show cond (decide (i<2)) (cond (decide ((j:Int)>=((S.length:Nat):Int))) _ _) _=_;rw [o,lZ];rcases aH j S.length with k | m
 ·have:decide (S.length<=j)=false:=by simp;omega
  rw [this];obtain ⟨c,hc⟩:∃c,S[j]?=some c:=⟨S[j],bf k⟩;have q:IntKind.wrap .i64 (i+1)=i+1:=wrap_i64 _ (by omega) (by omega);have p:IntKind.wrap .i64 ((j:Int)+1)=((j+1:Nat):Int):=by rw [wrap_i64 _ (by omega) (by omega)];omega
  rw [bX hc];simp only [dI hc,ob,ah,af,q,p];rw [US];have g:(((c.toNat:Nat):Int) != 88)=!(c==88):=by rw [bne];congr 1;exact nP c 88
  rw [g];by_cases s:c.toNat<48
  ·have h:decide (((c.toNat:Nat):Int)<48)=true:=by simp;omega
   have l:decide (48<=c.toNat)=false:=by simp;omega
   rw [h,l];cases (c==88)<;>rfl
  ·have h:decide (((c.toNat:Nat):Int)<48)=false:=by simp;omega
   have l:decide (48<=c.toNat)=true:=by simp;omega
   rw [h,l];by_cases v:c.toNat<=57
   ·have f:decide (((c.toNat:Nat):Int)>57)=false:=by simp;omega
    have d:decide (c.toNat<=57)=true:=by simp;omega
    rw [f,d];rfl
   ·have f:decide (((c.toNat:Nat):Int)>57)=true:=by simp;omega
    have d:decide (c.toNat<=57)=false:=by simp;omega
    rw [f,d];cases (c==88)<;>rfl
 ·have:decide (S.length<=j)=true:=by simp;omega
  rw [this,js m];rfl
theorem K4 (n:Nat) (t:10<n) (S:aa) (a:Nat) (h:a<=S.length) (f:S.length<100000) (e:Int):
  jV n S (a:Int) e=some (if twoN (S.drop a)<2 then ([],S,((a+twoN (S.drop a):Nat):Int),5) else ((S.drop a).take 2,S,((a+2:Nat):Int),e)):=by
 obtain ⟨n,rfl⟩:∃j,n=j+3:=⟨n - 3,by omega⟩;unfold jV;rw [ar,Ih (n+3) S 0 (a:Int) 0 e a f (by omega) h (by omega)];cases g:S.drop a with
 | nil=>rfl
 | cons c r=>
  obtain ⟨p,s,l⟩:=oe g;cases hc:isDX c with
  | false=>
   have:twoN (c::r)=0:=by unfold twoN;simp [bH,hc]
   rw [this];simp [hc,ob]
  | true=>
   simp only [hc,aL];rw [ar,Ih (n+3) S 0 (a:Int) (0+1) e (a+1) f (by omega) (by omega) (by omega),l];cases r with
   | nil=>
    have:twoN [c]=1:=by unfold twoN;simp [bH,hc]
    rw [this];rfl
   | cons d i=>
    obtain ⟨k,m,o⟩:=oe l;cases b:isDX d with
    | false=>
     have:twoN (c::d::i)=1:=by unfold twoN;simp [bH,hc,b]
     rw [this];simp [b,ob]
    | true=>
     have:twoN (c::d::i)=2:=by unfold twoN;simp [bH,hc,b]
     rw [this];simp only [b,aL];have q:hO (n+3) ((a:Int),0+1+1,S,((a+1+1:Nat):Int),e,[],0,0)=some (.inr (.inr ((a:Int),S,((a+1+1:Nat):Int),e,[],0,0))):=rfl;rw [ar,q];show ob (bx S.length ((a+1+1:Nat):Int)) _=_;rw [ef (show a+1+1<=S.length by omega)];show ob (bx (a+1+1) (a:Int)) _=_;rw [ef (show a<=a+1+1 by omega)];have:List.drop a (List.take (a+1+1) S)=[c,d]:=by
      rw [xH,g];have:a+1+1 - a=2:=by omega
      rw [this];rfl
     show some (List.drop a (List.take (a+1+1) S),S,((a+1+1:Nat):Int),e)=_;rw [this];rfl
theorem cutD (r:Nat) (h:r<10):List.drop r (List.take (r+1) ([48,49,50,51,52,53,54,55,56,57]:aa))=[UInt8.ofNat (48+r)]:=by
 have:∀r,r<10->List.drop r (List.take (r+1) ([48,49,50,51,52,53,54,55,56,57]:aa))=[UInt8.ofNat (48+r)]:=by decide
 exact this r h
theorem C5 {k:Nat} (h:k<10):Lib.decDigits k=[UInt8.ofNat (48+k)]:=by
 rw [Lib.decDigits,dif_pos h]
theorem Aq {k:Nat} (h:¬k<10) (a:k<100):Lib.decDigits k=[UInt8.ofNat (48+k / 10),UInt8.ofNat (48+k%10)]:=by
 rw [Lib.decDigits,dif_neg h,C5 (by omega)];rfl
theorem Kq (n k:Nat) (h:k<100):aI n (k:Int)=some (Lib.decDigits k):=by
 have b:Int.tmod (k:Int) 10=((k%10:Nat):Int):=rfl;have f:Int.tdiv (k:Int) 10=((k / 10:Nat):Int):=rfl;have d:IntKind.wrap .i64 (((k%10:Nat):Int)+1)=((k%10+1:Nat):Int):=by rw [wrap_i64 _ (by omega) (by omega)];omega
 have c:IntKind.wrap .i64 ((k / 10:Nat):Int)=((k / 10:Nat):Int):=wrap_i64 _ (by omega) (by omega);have g:IntKind.wrap .i64 (((k / 10:Nat):Int)+1)=((k / 10+1:Nat):Int):=by rw [wrap_i64 _ (by omega) (by omega)];omega
 simp only [aI,b,f,d,c,g,ef (show k%10+1<=10 by omega),ef (show k%10<=k%10+1 by omega),ob,cutD (k%10) (by omega)];by_cases a:k<10
 ·have e:decide ((k:Int)>=10)=false:=aq (by omega);rw [e,af,C5 a,rP a]
 ·have e:decide ((k:Int)>=10)=true:=am (by omega);rw [e,ah,ef (show k / 10+1<=10 by omega)];simp only [];rw [ef (show k / 10<=k / 10+1 by omega)];simp only [cutD (k / 10) (by omega)];rw [du (by simp),Aq a h];rfl
def eo (letter:UInt8) (v:Nat):aa:=if 0<v then letter::Lib.decDigits v else []
theorem Nq {k:Nat} (h:k<100):1<=(Lib.decDigits k).length/\(Lib.decDigits k).length<=2:=by
 by_cases a:k<10
 ·rw [C5 a];simp
 ·rw [Aq a h];simp
theorem yP (letter:UInt8) {k:Nat} (h:k<100):(eo letter k).length<=3:=by
 unfold eo;split
 ·have:=Nq h;simp only [aE];omega
 ·simp
theorem kC (g l:Bool) (d:aa) (x s:Nat):gN g l d (x:Int) (s:Int)=(if l then [89] else [])++(if g then [45] else [])++d++eo 69 x++eo 83 s:=by
 unfold gN eo;simp only [cg];have a:(0<(x:Int))=(0<x):=by simp
 have b:(0<(s:Int))=(0<s):=by simp
 simp only [a,b]
theorem Qu (n:Nat) (g l:Bool) (d:aa) (x s:Nat) (hx:x<100) (hs:s<100) (t:d.length<=1000):kQ n g l d (x:Int) (s:Int)=some (gN g l d (x:Int) (s:Int)):=by
 have o:=Nq hx;have m:=Nq hs;have ex:decide ((x:Int)>0)=decide (0<x):=by simp
 have i:decide ((s:Int)>0)=decide (0<s):=by simp
 have j:∀a:aa,a.length<=1100->(cond (decide (0<x)) (ob (aI n (x:Int)) λr=>(ob (cat ([69]:aa) r) λp=>(cat a p))) (some a))=some (a++eo 69 x):=by
  intro a e;unfold eo;by_cases h:0<x
  ·rw [am h,ah,ae h,Kq n x hx];simp only [ob];rw [du (by simp;omega)];simp only [];rw [du (by simp;omega)];rfl
  ·rw [aq h,ab h];simp
 have f:∀a:aa,a.length<=1200->(cond (decide (0<s)) (ob (aI n (s:Int)) λr=>(ob (cat ([83]:aa) r) λp=>(ob (cat a p) λq=>(some q)))) (some a))=some (a++eo 83 s):=by
  intro a e;unfold eo;by_cases h:0<s
  ·rw [am h,ah,ae h,Kq n s hs];simp only [ob];rw [du (by simp;omega)];simp only [];rw [du (by simp;omega)];rfl
  ·rw [aq h,ab h];simp
 have b:∀a:aa,a.length<=1100->(cond (decide (0<x)) (ob (aI n (x:Int)) λr=>(ob (cat ([69]:aa) r) λp=>(ob (cat a p) λz=>(cond (decide (0<s)) (ob (aI n (s:Int)) λr=>(ob (cat ([83]:aa) r) λp=>(ob (cat z p) λq=>(some q)))) (some z))))) (cond (decide (0<s)) (ob (aI n (s:Int)) λr=>(ob (cat ([83]:aa) r) λp=>(ob (cat a p) λq=>(some q)))) (some a)))=some (a++eo 69 x++eo 83 s):=by
  intro a e;have c:=j a e;by_cases h:0<x
  ·rw [am h,ah] at c ⊢;rw [Kq n x hx] at c ⊢;simp only [ob] at c ⊢;rw [du (a:=[69]) (by simp;omega)] at c ⊢;simp only [] at c ⊢;rw [c];simp only [];have:=f (a++eo 69 x) (by have:=yP 69 hx;simp only [bg];omega);simp only [ob] at this;exact this
  ·rw [aq h,af];have k:eo 69 x=[]:=by unfold eo;rw [ab h]
   rw [k,lO];exact f a (by omega)
 rw [kC];unfold kQ;rw [ex,i];cases l<;>cases g
 ·rw [af,af,du (by simp;omega)];exact b d (by omega)
 ·rw [af,ah,du (by simp;omega)];exact b ([45]++d) (by simp;omega)
 ·rw [ah,af,du (by simp;omega)];exact b ([89]++d) (by simp;omega)
 ·rw [ah,ah,du (by simp;omega)];exact b ([89,45]++d) (by simp;omega)
def cV (p:UInt8->Bool) (l:aa):Prop:=∀c,l.head?=some c->p c=false
theorem rt {k:Nat} (h:k<10):(UInt8.ofNat (48+k)).toNat=48+k:=by
 rw [EI];exact rP (by omega)
theorem Ep (letter:UInt8) (v:Nat) (post:aa) (i:v<100) (j:cV bB post) (k:cV (λc=>c==letter) post):numS letter (eo letter v++post)=.inr (v,(eo letter v).length):=by
 unfold eo;by_cases h:0<v
 ·rw [ae h];by_cases d:v<10
  ·rw [C5 d];have b:=rt d;simp only [fg,dX];rw [nW,ae rfl,pj,ae (by omega)];have a:48+v - 48=v:=by omega
   cases post with
   | nil=>
    rw [uk,b,a];rfl
   | cons e r=>
    have g:¬bB e=true:=by rw [j e rfl];simp
    rw [nQ,ab g,b,a];rfl
  ·rw [Aq d i];have b:=rt (show v / 10<10 by omega);have g:=rt (show v%10<10 by omega);simp only [fg,dX];rw [nW,ae rfl,pj,ae (by omega),nQ,ae ((cw _).2 (by omega)),b,g];rw [show 10*(48+v / 10 - 48)+(48+v%10 - 48)=v by omega];rfl
 ·rw [ab h];have f:v=0:=by omega
  subst f;cases post with
  | nil=>rfl
  | cons c r=>
   have hc:c≠letter:=by
    have:=k c rfl;simpa using this
   rw [dX,nW,ab hc];rfl
theorem xo (letter:UInt8) (l:aa) (v k:Nat) (h:numS letter l=.inr (v,k)):v<100/\l.take k=eo letter v/\k<=l.length:=by
 cases l with
 | nil=>
  simp only [wc,oG,ba] at h;obtain ⟨rfl,rfl⟩:=h;exact ⟨by omega,rfl,by simp⟩
 | cons c r=>
  rw [nW] at h;by_cases hc:c=letter
  ·rw [ae hc] at h;cases r with
   | nil=>simp [AS] at h
   | cons d j=>
    rw [pj] at h;by_cases g:49<=d.toNat/\d.toNat<=57
    ·rw [ae g] at h;have i:d.toNat - 48<10:=by omega
     have a:UInt8.ofNat (48+(d.toNat - 48))=d:=by
      apply gJ.1;rw [rt i];omega
     have one:(c::d::j).take 2=eo letter (d.toNat - 48):=by
      unfold eo;rw [ae (by omega),C5 i,a,hc];rfl
     cases j with
     | nil=>
      simp only [uk,oG,ba] at h;obtain ⟨rfl,rfl⟩:=h;exact ⟨by omega,one,by simp⟩
     | cons e p=>
      rw [nQ] at h;by_cases b:bB e=true
      ·rw [ae b] at h;simp only [oG,ba] at h;obtain ⟨rfl,rfl⟩:=h;have n:=(cw e).1 b;refine ⟨by omega,?_,by simp⟩;unfold eo;have m:(10*(d.toNat - 48)+(e.toNat - 48)) / 10=d.toNat - 48:=by omega
       have o:(10*(d.toNat - 48)+(e.toNat - 48))%10=e.toNat - 48:=by omega
       have f:UInt8.ofNat (48+(e.toNat - 48))=e:=by
        apply gJ.1;rw [rt (by omega)];omega
       rw [ae (by omega),Aq (by omega) (by omega),m,o,a,f,hc];rfl
      ·rw [ab b] at h;simp only [oG,ba] at h;obtain ⟨rfl,rfl⟩:=h;exact ⟨by omega,one,by simp⟩
    ·rw [ab g] at h;cases h
  ·rw [ab hc] at h;simp only [oG,ba] at h;obtain ⟨rfl,rfl⟩:=h;exact ⟨by omega,rfl,by simp⟩
theorem xe {p:UInt8->Bool}:∀(r:aa) (k:Nat) (post:aa),(∀c∈r,p c=true)->r.length<=k->(cV p post\/r.length=k)->bH p k (r++post)=r.length
 | [],0,post,_,_,_=>by simp [bH]
 | [],k+1,post,_,_,h=>by
  cases post with
  | nil=>simp [bH]
  | cons c q=>
   rcases h with h | h
   ·have:=h c rfl;simp [bH,this]
   ·simp at h
 | c::r,0,post,_,h,_=>by simp at h
 | c::r,k+1,post,hp,b,h=>by
  have ih:=xe r k post (λd a=>hp d (by simp [a])) (by simpa using b) (by
   rcases h with h | h
   ·exact .inl h
   ·exact .inr (by simpa using h))
  simp only [fg,bH,hp c (by simp),aL,ih,aE]
theorem zM {p:UInt8->Bool}:∀(k:Nat) (l:aa),∀c∈l.take (bH p k l),p c=true
 | 0,l=>by simp [bH]
 | k+1,[]=>by simp [bH]
 | k+1,c::l=>by
  simp only [bH];by_cases h:p c=true
  ·rw [ae h];intro d a;rw [oc,cL] at a;rcases a with rfl | a
   ·exact h
   ·exact zM k l d a
  ·rw [ab h];simp
theorem sy {letter:UInt8} {v:Nat} {post:aa} {p:UInt8->Bool} (b:p letter=false) (a:cV p post):cV p (eo letter v++post):=by
 unfold eo;intro c hc;by_cases h:0<v
 ·rw [ae h] at hc;simp only [fg,o5,au] at hc;rw [<-hc];exact b
 ·rw [ab h] at hc;exact a c hc
def isYC (c:UInt8):Bool:=isDX c||c==69||c==83
theorem Rn {l:aa} (h:cV isYC l):cV bB l:=λc hc=>by
 have:=h c hc;unfold isYC isDX at this;simp only [pM] at this;exact this.1.1.1
theorem Ys {l:aa} (h:cV isYC l):cV isDX l:=λc hc=>by
 have:=h c hc;unfold isYC at this;simp only [pM] at this;exact this.1.1
theorem X6 {l:aa} (h:cV isYC l):cV (λc=>c==69) l:=λc hc=>by
 have:=h c hc;unfold isYC at this;simp only [pM] at this;exact this.1.2
theorem XJ {l:aa} (h:cV isYC l):cV (λc=>c==83) l:=λc hc=>by
 have:=h c hc;unfold isYC at this;simp only [pM] at this;exact this.2
theorem oq (c:UInt8) (l:aa):fD c (c::l)=1:=by rw [kK,ae rfl]
theorem pG {c a:UInt8} (h:a≠c) (l:aa):fD c (a::l)=0:=by rw [kK,ab h]
theorem ML {g l:Bool} {d:aa} {x s:Nat} (h:okY g l d (x:Int) (s:Int)) (post:aa) (hp:cV isYC post):pX (gN g l d (x:Int) (s:Int)++post)=.inr (g,l,d,x,s,(gN g l d (x:Int) (s:Int)).length):=by
 have B:=kg h;have n:numS 83 (eo 83 s++post)=.inr (s,(eo 83 s).length):=Ep 83 s post (by omega) (Rn hp) (XJ hp);have k:cV bB (eo 83 s++post):=sy (by decide) (Rn hp);have K:cV isDX (eo 83 s++post):=sy (by decide) (Ys hp);rw [kC];cases l with
 | true=>
  have M:okL d (x:Int) (s:Int):=by simpa [okY] using h
  obtain ⟨⟨b,p,z,A,L,H,F,N⟩,O,D⟩:=M;obtain ⟨c,r,rfl⟩:∃c r,d=c::r:=by
   cases d with
   | nil=>simp at p
   | cons c r=>exact ⟨c,r,rfl⟩
  have w:=(cw c).1 (b c (by simp));have m:49<=c.toNat/\c.toNat<=57:=by
   have:c.toNat≠48:=λe=>A (by rw [show c=48 from gJ.1 e];rfl);omega
  have a:c≠45:=by rintro rfl;exact absurd w.1 (by decide)
  have y:numS 69 (eo 69 x++(eo 83 s++post))=.inr (x,(eo 69 x).length):=Ep 69 x _ (by omega) k (sy (by decide) (X6 hp));have f:bH bB 16 (r++(eo 69 x++(eo 83 s++post)))=r.length:=by
   refine xe r 16 _ (λe C=>b e (by simp [C])) (by simp only [aE] at z;omega) (.inl ?_);exact sy (by decide) k
  have body:∀o:Nat,uv g o ((c::r)++(eo 69 x++(eo 83 s++post)))=.inr (g,true,c::r,x,s,o+(1+r.length)+(eo 69 x).length+(eo 83 s).length):=by
   intro o;simp only [fg,uv];rw [ae m,f];have G:List.drop (1+r.length) (c::(r++(eo 69 x++(eo 83 s++post))))=eo 69 x++(eo 83 s++post):=by
    rw [qY,og,En rfl]
   have I:List.drop (1+r.length+(eo 69 x).length) (c::(r++(eo 69 x++(eo 83 s++post))))=eo 83 s++post:=by
    rw [show 1+r.length+(eo 69 x).length=(r.length+(eo 69 x).length)+1 by omega,og,<-fN,En (by simp)]
   have E:List.take (1+r.length) (c::(r++(eo 69 x++(eo 83 s++post))))=c::r:=by
    rw [qY,oc,List.take_left' rfl]
   rw [G,y];simp only [];rw [I,n,E]
  unfold pX;cases g with
  | true=>
   simp only [aL,fg,dX,fN];rw [oq,ae rfl,og,bV,oq];have:=body 2;simp only [fg] at this;simp only [og,bV,show ((1:Nat)==1)=true from rfl,show 1+1=2 from rfl];rw [this];simp only [aE,bg];congr 6;omega
  | false=>
   simp only [aL,bv,aB,fg,dX,fN];rw [oq,ae rfl,og,bV,pG a];have:=body 1;simp only [fg] at this;simp only [og,bV,show ((0:Nat)==1)=false from rfl,cP];rw [this];simp only [aE,bg];congr 6;omega
 | false=>
  have J:okS g d (x:Int) (s:Int):=by simpa [okY] using h
  obtain ⟨b,p,z,A,L,H,F⟩:=J;have t:x=0:=by omega
  subst t;have v:eo 69 0=[]:=rfl;have u:∀c∈d,isDX c=true:=λc hc=>by
   unfold isDX;rcases p c hc with q | q
   ·rw [q];rfl
   ·rw [q];simp
  have f:bH isDX 4 (d++(eo 83 s++post))=d.length:=xe d 4 _ u (by omega) (.inr b);have body:∀o:Nat,vG g o (d++(eo 83 s++post))=.inr (g,false,d,0,s,o+4+(eo 83 s).length):=by
   intro o;unfold vG;rw [f,b,ab (by omega),En b,n,List.take_left' b]
  obtain ⟨c,r,rfl⟩:∃c r,d=c::r:=by
   cases d with
   | nil=>simp at b
   | cons c r=>exact ⟨c,r,rfl⟩
  have a:c≠45:=by
   rintro rfl;rcases p 45 (by simp) with q | q
   ·exact absurd ((cw _).1 q).1 (by decide)
   ·exact absurd q (by decide)
  have j:c≠89:=by
   rintro rfl;rcases p 89 (by simp) with q | q
   ·exact absurd ((cw _).1 q).2 (by decide)
   ·exact absurd q (by decide)
  have i:(45:UInt8)≠89:=by decide
  unfold pX;rw [v];cases g with
  | true=>
   simp only [aL,bv,aB,fg,dX,fN];rw [pG i,ab (by decide),oq,og,bV];have:=body 1;simp only [fg] at this;rw [show ((1:Nat)==1)=true from rfl,this];simp only [aE,bg] at b ⊢;congr 6;omega
  | false=>
   simp only [bv,aB,fg,dX,fN];rw [pG j,ab (by decide),pG a,bV];have:=body 0;simp only [fg] at this;rw [show ((0:Nat)==1)=false from rfl,this];simp only [aE,bg] at b ⊢;congr 6;omega
theorem vt (c:UInt8) (l:aa):l.take (fD c l)=if fD c l=1 then [c] else []:=by
 rcases l6 c l with h | h
 ·rw [h];simp
 ·rw [h,ae rfl];unfold fD at h;split at h
  ·assumption
  ·cases h
theorem oY (l:aa) (i j:Nat):l.take (i+j)=l.take i++(l.drop i).take j:=by
 rw [List.take_add]
theorem qR {l:aa} {g o:Bool} {d:aa} {x s k:Nat} (h:pX l=.inr (g,o,d,x,s,k)):l.take k=gN g o d (x:Int) (s:Int)/\k<=l.length/\x<100/\s<100/\d.length<=17:=by
 rw [kC];unfold pX at h;by_cases e:fD 89 l=1
 ·rw [ae e] at h;have n:=vt 89 l;rw [e,ae rfl] at n;have f:=vt 45 (l.drop 1);have c45:=l6 45 (l.drop 1);generalize D:fD 45 (l.drop 1)=u at *;have a:l.take (1+u)=[89]++(if (u==1)=true then [45] else []):=by
   rw [oY,n,f];rcases c45 with rfl | rfl<;>rfl
  cases q:l.drop (1+u) with
  | nil=>rw [q] at h;simp [uv] at h
  | cons c r=>
   rw [q] at h;simp only [uv] at h;by_cases hc:49<=c.toNat/\c.toNat<=57
   ·rw [ae hc] at h;have z:=rE bB 16 r;have B:1+bH bB 16 r<=(c::r).length:=by have:=mn bB 16 r;simp only [aE];omega
    generalize F:1+bH bB 16 r=K at *;cases b:numS 69 (List.drop K (c::r)) with
    | inl j=>rw [b] at h;simp at h
    | inr p=>
     obtain ⟨G,j⟩:=p;rw [b] at h;simp only at h;cases m:numS 83 (List.drop (K+j) (c::r)) with
     | inl i=>rw [m] at h;simp at h
     | inr w=>
      obtain ⟨s',i⟩:=w;rw [m] at h;simp only [oG,ba] at h;obtain ⟨rfl,rfl,rfl,rfl,rfl,rfl⟩:=h;obtain ⟨a1,a2,C⟩:=xo _ _ _ _ b;obtain ⟨b1,b2,v⟩:=xo _ _ _ _ m;rw [bN] at C v;have E:l.length=1+u+(c::r).length:=by
       have:=cj List.length q;rw [bN] at this;simp only [aE] at this ⊢;omega
      refine ⟨?_,by simp only [aE] at *;omega,a1,b1,by rw [dG];omega⟩;rw [show 1+u+K+j+i=(1+u)+(K+(j+i)) by omega,oY,a,q,oY _ K,oY _ j,a2,jw,b2];simp
   ·rw [ab hc] at h;simp at h
 ·rw [ab e] at h;have f:=vt 45 l;have c45:=l6 45 l;generalize D:fD 45 l=u at *;have a:l.take u=(if (u==1)=true then [45] else []):=by
   rw [f];rcases c45 with rfl | rfl<;>rfl
  unfold vG at h;by_cases A:bH isDX 4 (l.drop u)<4
  ·rw [ae A] at h;simp at h
  ·rw [ab A] at h;have y:=mn isDX 4 (l.drop u);rw [bN] at y;cases b:numS 83 (List.drop 4 (l.drop u)) with
   | inl i=>rw [b] at h;simp at h
   | inr w=>
    obtain ⟨s',i⟩:=w;rw [b] at h;simp only [oG,ba] at h;obtain ⟨rfl,rfl,rfl,rfl,rfl,rfl⟩:=h;obtain ⟨b1,b2,v⟩:=xo _ _ _ _ b;rw [bN,bN] at v;refine ⟨?_,by omega,by omega,b1,by rw [dG];omega⟩;rw [show u+4+i=u+(4+i) by omega,oY,a,oY _ 4,b2];have t:eo 69 0=[]:=rfl;rw [t];simp
abbrev DR:=Bool×Bool×aa×Nat×Nat×aa×aa×(Nat×Nat×Nat)×(Nat×Nat×Nat)×Nat
def mkE (S:aa) (p:Nat):Nat:=p+mkN (S.drop p)
def rd3 (S:aa) (y:YR) (d g h c e b a:Nat) (f:aa):Nat⊕DR:=
 if twoN (S.drop (mkE S (a+1)))<2 then .inl (mkE S (a+1)+twoN (S.drop (mkE S (a+1))))
 else .inr (y.1,y.2.1,y.2.2.1,y.2.2.2.1,y.2.2.2.2.1,f,(S.drop (mkE S (a+1))).take 2,spM (d,h,mkS (S.drop (a+1))) (g,c,mkS (S.drop (mkE S (a+1)+2))),(e,b,mkE S (a+1)),mkE S (mkE S (a+1)+2))
def rd2 (S:aa) (y:YR) (c b d a:Nat):Nat⊕DR:=
 if twoN (S.drop (mkE S (a+1)))<2 then .inl (mkE S (a+1)+twoN (S.drop (mkE S (a+1))))
 else if fD 45 (S.drop (mkE S (mkE S (a+1)+2)))=0 then .inr (y.1,y.2.1,y.2.2.1,y.2.2.2.1,y.2.2.2.2.1,(S.drop (mkE S (a+1))).take 2,[],spM (c,mkS (S.drop (a+1)),0) (b,mkS (S.drop (mkE S (a+1)+2)),0),(d,mkE S (a+1),0),mkE S (mkE S (a+1)+2))
 else rd3 S y c b (mkS (S.drop (a+1))) (mkS (S.drop (mkE S (a+1)+2))) d (mkE S (a+1)) (mkE S (mkE S (a+1)+2)) ((S.drop (mkE S (a+1))).take 2)
def qL (S:aa) (a:Nat):Nat⊕DR:=match pX (S.drop (mkE S a)) with
 | .inl k=>.inl (mkE S a+k)
 | .inr y=>if 0<y.2.2.2.2.1\/fD 45 (S.drop (mkE S (mkE S a+y.2.2.2.2.2)))=0
  then .inr (y.1,y.2.1,y.2.2.1,y.2.2.2.1,y.2.2.2.2.1,[],[],spM (mkS (S.drop a),0,0) (mkS (S.drop (mkE S a+y.2.2.2.2.2)),0,0),(mkE S a,0,0),mkE S (mkE S a+y.2.2.2.2.2))
  else rd2 S y (mkS (S.drop a)) (mkS (S.drop (mkE S a+y.2.2.2.2.2))) (mkE S a) (mkE S (mkE S a+y.2.2.2.2.2))
def W9 (S:aa):Nat⊕DR->(Int×Int×aa×Int)⊕(Bool×Bool×aa×Int×Int×aa×aa×Int×Int×Int×List Int×aa×Int)
 | .inl k=>.inl ((k:Int),5,S,(k:Int))
 | .inr (g,l,dg,x,s,m,d,M,P,e)=>.inr (g,l,dg,(x:Int),(s:Int),m,d,(M.1:Int),(M.2.1:Int),(M.2.2:Int),l3 P,S,(e:Int))
theorem k7 {S:aa} {p:Nat} (h:p<=S.length):mkE S p<=S.length:=by
 have:=WX (S.drop p);rw [bN] at this;unfold mkE;omega
theorem vv {S:aa} {p:Nat} (a:¬twoN (S.drop p)<2):p+2<=S.length:=by
 have:=mn isDX 2 (S.drop p);unfold twoN at a;rw [bN] at this;omega
theorem sA {S:aa} {p:Nat} (h:¬fD 45 (S.drop p)=0):p+1<=S.length:=by
 have:=AG 45 (S.drop p);rw [bN] at this;omega
theorem OW (n:Nat) (g l:Bool) (d:aa) (x s:Int) (b a:aa) (k0 k1 k2:Int) (S:aa) (p:Nat) (h:p<=S.length) (e:S.length<100000) (c:S.length<n):
  kr n g l d x s b a k0 k1 k2 S (p:Int)=some (match pX (S.drop p) with
   | .inl k=>.inl (((p+k:Nat):Int),5,g,l,d,x,s,b,a,k0,k1,k2,S,((p+k:Nat):Int))
   | .inr y=>.inr (y.1,y.2.1,y.2.2.1,(y.2.2.2.1:Int),(y.2.2.2.2.1:Int),b,a,k0,k1,k2,S,((p+y.2.2.2.2.2:Nat):Int))):=by
 unfold kr;rw [Rw n S p h e c];cases pX (S.drop p) with
 | inl k=>rfl
 | inr y=>rfl
theorem PY (n:Nat) (g l:Bool) (d:aa) (x s:Int) (c b:aa) (k0 k1 k2:Int) (S:aa) (p:Nat) (h:p<=S.length) (e:S.length<100000) (f:S.length<n):
  ke n g l d x s c b k0 k1 k2 S (p:Int)=some (if twoN (S.drop p)<2
   then .inl (((p+twoN (S.drop p):Nat):Int),5,g,l,d,x,s,c,b,k0,k1,k2,S,((p+twoN (S.drop p):Nat):Int))
   else .inr (g,l,d,x,s,(S.drop p).take 2,b,k0,k1,k2,S,((p+2:Nat):Int))):=by
 unfold ke;rw [Q3 n S p h e f];by_cases a:twoN (S.drop p)<2
 ·rw [ae a,ae a];rfl
 ·rw [ab a,ab a];rfl
theorem PC (n:Nat) (g l:Bool) (d:aa) (x s:Int) (b c:aa) (k0 k1 k2:Int) (S:aa) (p:Nat) (h:p<=S.length) (e:S.length<100000) (f:S.length<n):
  ks n g l d x s b c k0 k1 k2 S (p:Int)=some (if twoN (S.drop p)<2
   then .inl (((p+twoN (S.drop p):Nat):Int),5,g,l,d,x,s,b,c,k0,k1,k2,S,((p+twoN (S.drop p):Nat):Int))
   else .inr (g,l,d,x,s,b,(S.drop p).take 2,k0,k1,k2,S,((p+2:Nat):Int))):=by
 unfold ks;rw [Q3 n S p h e f];by_cases a:twoN (S.drop p)<2
 ·rw [ae a,ae a];rfl
 ·rw [ab a,ab a];rfl
theorem R2 (m:Nat) (S:aa) (a:Nat) (h:a<=S.length) (j:S.length<100000) (F:S.length<m+300):
  jZ (m+300) S (a:Int)=some (W9 S (qL S a)):=by
 have n:∀p,p<=S.length->cJ (m+300) S (p:Int)=some (.inr (((mkS (S.drop p):Nat):Int),S,((mkE S p:Nat):Int))):=λp hp=>Ul m S p hp j;have b:∀p,mkS (S.drop p)<4:=λp=>CQ _;have r:∀p q,eQ (m+300) [((mkS (S.drop p):Nat):Int),0,0] [((mkS (S.drop q):Nat):Int),0,0] 1=some (l3 (spM (mkS (S.drop p),0,0) (mkS (S.drop q),0,0)),0):=λp q=>
  yJ (m+300) (by omega) 1 (mkS (S.drop p),0,0) (mkS (S.drop q),0,0) (by omega) ⟨b p,by simp,by simp,by simp,by simp⟩ ⟨b q,by simp,by simp,by simp,by simp⟩
 have B:∀p q e f,eQ (m+300) [((mkS (S.drop p):Nat):Int),((mkS (S.drop e):Nat):Int),0] [((mkS (S.drop q):Nat):Int),((mkS (S.drop f):Nat):Int),0] 2=some (l3 (spM (mkS (S.drop p),mkS (S.drop e),0) (mkS (S.drop q),mkS (S.drop f),0)),0):=λp q e f=>
  yJ (m+300) (by omega) 2 (mkS (S.drop p),mkS (S.drop e),0) (mkS (S.drop q),mkS (S.drop f),0) (by omega) ⟨b p,b e,by simp,by simp,by simp⟩ ⟨b q,b f,by simp,by simp,by simp⟩
 have E:∀p q e f i d,eQ (m+300) [((mkS (S.drop p):Nat):Int),((mkS (S.drop e):Nat):Int),((mkS (S.drop i):Nat):Int)] [((mkS (S.drop q):Nat):Int),((mkS (S.drop f):Nat):Int),((mkS (S.drop d):Nat):Int)] 3=some (l3 (spM (mkS (S.drop p),mkS (S.drop e),mkS (S.drop i)) (mkS (S.drop q),mkS (S.drop f),mkS (S.drop d))),0):=λp q e f i d=>
  yJ (m+300) (by omega) 3 (mkS (S.drop p),mkS (S.drop e),mkS (S.drop i)) (mkS (S.drop q),mkS (S.drop f),mkS (S.drop d)) (by omega) ⟨b p,b e,b i,by simp,by simp⟩ ⟨b q,b f,b d,by simp,by simp⟩
 have b0:=k7 h;unfold jZ qL;rw [n a h];simp only [ob,Ea];rw [OW _ _ _ _ _ _ _ _ _ _ _ S (mkE S a) b0 j F];cases H:pX (S.drop (mkE S a)) with
 | inl k=>rfl
 | inr y=>
  obtain ⟨g,l,dg,x,s,k⟩:=y;have bk:mkE S a+k<=S.length:=by
   have:=(qR H).2.1;rw [bN] at this;omega
  have b1:=k7 bk;simp only [ob,d4,d8];rw [n (mkE S a+k) bk];simp only [ob];by_cases hs:0<s
  ·have:decide (((s:Nat):Int)>0)=true:=by simp;omega
   rw [this,ae (.inl hs)];simp only [ah];rw [r];rfl
  ·have:decide (((s:Nat):Int)>0)=false:=by simp;omega
   rw [this];simp only [af];rw [ui (m+300) 45 S _ b1 j];simp only [ob];by_cases t:fD 45 (S.drop (mkE S (mkE S a+k)))=0
   ·rw [ae (.inr t),t];simp only [show ((0:Nat)==1)=false from rfl,il,ah,cP];rw [r];rfl
   ·have C:fD 45 (S.drop (mkE S (mkE S a+k)))=1:=(l6 45 _).resolve_left t;have A:=sA t;rw [ab (λz=>z.elim hs t),C];simp only [show ((1:Nat)==1)=true from rfl,ci,af];unfold rd2;rw [n _ A];simp only [ob];have G:=k7 A;rw [PY _ _ _ _ _ _ _ _ _ _ _ S _ G j F];by_cases w:twoN (S.drop (mkE S (mkE S (mkE S a+k)+1)))<2
    ·rw [ae w,ae w];rfl
    ·rw [ab w,ab w];have b2:=vv w;simp only [ob,d4,d8];rw [n _ b2];simp only [ob];rw [this];simp only [af];have I:=k7 b2;rw [ui (m+300) 45 S _ I j];simp only [ob];by_cases c:fD 45 (S.drop (mkE S (mkE S (mkE S (mkE S a+k)+1)+2)))=0
     ·rw [ae c,c];simp only [show ((0:Nat)==1)=false from rfl,il,ah,cP];rw [B];rfl
     ·have u:=(l6 45 (S.drop (mkE S (mkE S (mkE S (mkE S a+k)+1)+2)))).resolve_left c;have v:=sA c;rw [ab c,u];simp only [show ((1:Nat)==1)=true from rfl,ci,af];unfold rd3;rw [n _ v];simp only [ob];have D:=k7 v;rw [PC _ _ _ _ _ _ _ _ _ _ _ S _ D j F];by_cases o:twoN (S.drop (mkE S (mkE S (mkE S (mkE S (mkE S a+k)+1)+2)+1)))<2
      ·rw [ae o,ae o];rfl
      ·rw [ab o,ab o];have J:=vv o;simp only [ob,d4,d8];rw [n _ J];simp only [ob];rw [E];rfl
def TM (S:aa) (P:List Int):Nat⊕DR->Bool×Bool×aa×Int×Int×aa×aa×Int×Int×Int×List Int×aa×Int×Int
 | .inl k=>(false,false,[],0,0,[],[],0,0,0,P,S,(k:Int),5)
 | .inr (g,l,dg,x,s,m,d,M,Q,e)=>(g,l,dg,(x:Int),(s:Int),m,d,(M.1:Int),(M.2.1:Int),(M.2.2:Int),l3 Q,S,(e:Int),0)
abbrev RdSt:=aa×Int×Int×List Int×Bool×Bool×aa×Int×Int×aa×aa×List Int×List Int×List Int×aa×Int×Int
def rdSt (S:aa) (i:Int) (g l:Bool) (dg:aa) (x s:Int) (b a:aa) (P A B:List Int) (p:Nat):RdSt:=
 (S,i,i,[0,0,0],g,l,dg,x,s,b,a,P,A,B,S,(p:Int),0)
theorem Xw (m:Nat) (S:aa) (a:Nat) (h:a<=S.length) (c:S.length<100000) (e:S.length<m+300):
  bh (m+300) (rdSt S 0 false false [] 0 0 [] [] [0,0,0] [0,0,0] [0,0,0] a)=some (match pX (S.drop (mkE S a)) with
   | .inl k=>.inr (.inr (false,false,[],0,0,[],[],0,0,0,[((mkE S a:Nat):Int),0,0],S,((mkE S a+k:Nat):Int),5))
   | .inr y=>.inl (rdSt S 1 y.1 y.2.1 y.2.2.1 (y.2.2.2.1:Int) (y.2.2.2.2.1:Int) [] [] [((mkE S a:Nat):Int),0,0] [((mkS (S.drop a):Nat):Int),0,0] [((mkS (S.drop (mkE S a+y.2.2.2.2.2)):Nat):Int),0,0] (mkE S (mkE S a+y.2.2.2.2.2)))):=by
 have b:∀p,p<=S.length->eM (m+300) S (p:Int) 0=some (((mkS (S.drop p):Nat):Int),S,((mkE S p:Nat):Int),0):=λp hp=>Bd m S p hp c 0;have b0:=k7 h;unfold bh rdSt;simp only [d4,d8,d16,fP,show (decide ((0:Int)<3))=true from rfl,show (decide ((0:Int)>0))=false from rfl,ah,af,ob];rw [b a h];simp only [ob,show ix 3 0=some 0 from rfl,show Nat.blt 0 3=true from rfl,ah,fZ,show ((0:Int)==0)=true from rfl];rw [OJ (m+300) S (mkE S a) b0 c e];cases d:pX (S.drop (mkE S a)) with
 | inl k=>rfl
 | inr y=>
  obtain ⟨g,l,dg,x,s,k⟩:=y;have bk:mkE S a+k<=S.length:=by
   have:=(qR d).2.1;rw [bN] at this;omega
  simp only [pA,ob,d4,d8,d16,show ((0:Int) != 0)=false from rfl,af];rw [b _ bk];rfl
theorem XD (m:Nat) (S:aa) (g l:Bool) (dg:aa) (x s:Nat) (e f k:Int) (q:Nat) (h:q<=S.length) (o:S.length<100000) (t:S.length<m+300):
  bh (m+300) (rdSt S 1 g l dg (x:Int) (s:Int) [] [] [e,0,0] [f,0,0] [k,0,0] q)=some (
   if 0<s\/fD 45 (S.drop q)=0 then .inr (.inl (1,false,false,[],0,0,[],[],0,0,0,[0,0,0],[],0,0,g,l,dg,(x:Int),(s:Int),[],[],0,0,0,[e,0,0],[f,0,0],[k,0,0],S,(q:Int),0))
   else if twoN (S.drop (mkE S (q+1)))<2 then .inr (.inr (false,false,[],0,0,[],[],0,0,0,[e,((mkE S (q+1):Nat):Int),0],S,((mkE S (q+1)+twoN (S.drop (mkE S (q+1))):Nat):Int),5))
   else .inl (rdSt S 2 g l dg (x:Int) (s:Int) ((S.drop (mkE S (q+1))).take 2) [] [e,((mkE S (q+1):Nat):Int),0] [f,((mkS (S.drop (q+1)):Nat):Int),0] [k,((mkS (S.drop (mkE S (q+1)+2)):Nat):Int),0] (mkE S (mkE S (q+1)+2)))):=by
 have r:∀p,p<=S.length->eM (m+300) S (p:Int) 0=some (((mkS (S.drop p):Nat):Int),S,((mkE S p:Nat):Int),0):=λp hp=>Bd m S p hp o 0;unfold bh rdSt;simp only [d4,d8,d16,fP,iD,show (decide ((1:Int)<3))=true from rfl,show (decide ((1:Int)>0))=true from rfl,ah,af,ob,lZ];by_cases hs:0<s
 ·have:decide (((s:Nat):Int)>0)=true:=by simp;omega
  rw [this,ae (.inl hs)];rfl
 ·have:decide (((s:Nat):Int)>0)=false:=by simp;omega
  rw [this];simp only [af];rcases aH q S.length with j | n
  ·obtain ⟨c,hc⟩:∃c,S[q]?=some c:=⟨S[q],bf j⟩;have b:decide (S.length<=q)=false:=by simp;omega
   rw [b];simp only [af,dI hc,ob];have i:(((c.toNat:Nat):Int) != 45)=!(c==45):=by rw [bne];congr 1;exact nP c 45
   rw [i,bX hc,kK];by_cases a:c=45
   ·have w:IntKind.wrap .i64 ((q:Int)+1)=((q+1:Nat):Int):=by rw [wrap_i64 _ (by omega) (by omega)];omega
    rw [ae a,ab (show ¬(0<s\/(1:Nat)=0) from λz=>z.elim hs (by omega)),a];simp only [rh,ci,af,ob,w];rw [r _ (by omega)];simp only [ob,show ix 3 1=some 1 from rfl,show Nat.blt 1 3=true from rfl,ah,fZ,iM,show ((1:Int)==0)=false from rfl,show ((1:Int)==1)=true from rfl,af];have b1:=k7 (show q+1<=S.length by omega);rw [K4 (m+300) (by omega) S _ b1 o 0];by_cases d:twoN (S.drop (mkE S (q+1)))<2
    ·rw [ae d,ae d];rfl
    ·rw [ab d,ab d];simp only [ob,d4,d8,d16,show ((0:Int) != 0)=false from rfl,af];rw [r _ (vv d)];rfl
   ·have:(c==45)=false:=aK.2 a;rw [ab a,ae (.inr rfl),this];rfl
  ·have b:decide (S.length<=q)=true:=by simp;omega
   rw [b,js n,yb,ae (.inr rfl)];rfl
theorem Xz (m:Nat) (S:aa) (g l:Bool) (dg:aa) (x s:Nat) (n:aa) (f j r e t i:Int) (q:Nat) (h:q<=S.length) (v:S.length<100000) (z:S.length<m+300) (hs:¬0<s):
  bh (m+300) (rdSt S 2 g l dg (x:Int) (s:Int) n [] [f,e,0] [j,t,0] [r,i,0] q)=some (
   if fD 45 (S.drop q)=0 then .inr (.inl (2,false,false,[],0,0,[],[],0,0,0,[0,0,0],[],0,0,g,l,dg,(x:Int),(s:Int),n,[],0,0,0,[f,e,0],[j,t,0],[r,i,0],S,(q:Int),0))
   else if twoN (S.drop (mkE S (q+1)))<2 then .inr (.inr (false,false,[],0,0,[],[],0,0,0,[f,e,((mkE S (q+1):Nat):Int)],S,((mkE S (q+1)+twoN (S.drop (mkE S (q+1))):Nat):Int),5))
   else .inl (rdSt S 3 g l dg (x:Int) (s:Int) n ((S.drop (mkE S (q+1))).take 2) [f,e,((mkE S (q+1):Nat):Int)] [j,t,((mkS (S.drop (q+1)):Nat):Int)] [r,i,((mkS (S.drop (mkE S (q+1)+2)):Nat):Int)] (mkE S (mkE S (q+1)+2)))):=by
 have y:∀p,p<=S.length->eM (m+300) S (p:Int) 0=some (((mkS (S.drop p):Nat):Int),S,((mkE S p:Nat):Int),0):=λp hp=>Bd m S p hp v 0;unfold bh rdSt;simp only [d4,d8,d16,fP,iD,show (decide ((2:Int)<3))=true from rfl,show (decide ((2:Int)>0))=true from rfl,ah,af,ob,lZ];have:decide (((s:Nat):Int)>0)=false:=by simp;omega
 rw [this];simp only [af];rcases aH q S.length with o | u
 ·obtain ⟨c,hc⟩:∃c,S[q]?=some c:=⟨S[q],bf o⟩;have b:decide (S.length<=q)=false:=by simp;omega
  rw [b];simp only [af,dI hc,ob];have k:(((c.toNat:Nat):Int) != 45)=!(c==45):=by rw [bne];congr 1;exact nP c 45
  rw [k,bX hc,kK];by_cases a:c=45
  ·have w:IntKind.wrap .i64 ((q:Int)+1)=((q+1:Nat):Int):=by rw [wrap_i64 _ (by omega) (by omega)];omega
   rw [ae a,ab (show ¬((1:Nat)=0) by omega),a];simp only [rh,ci,af,ob,w];rw [y _ (by omega)];simp only [ob,show ix 3 2=some 2 from rfl,show Nat.blt 2 3=true from rfl,ah,fZ,iM,show ((2:Int)==0)=false from rfl,show ((2:Int)==1)=false from rfl,af];have b1:=k7 (show q+1<=S.length by omega);rw [K4 (m+300) (by omega) S _ b1 v 0];by_cases d:twoN (S.drop (mkE S (q+1)))<2
   ·rw [ae d,ae d];rfl
   ·rw [ab d,ab d];simp only [ob,d4,d8,d16,show ((0:Int) != 0)=false from rfl,af];rw [y _ (vv d)];rfl
  ·have:(c==45)=false:=aK.2 a;rw [ab a,ae rfl,this];rfl
 ·have b:decide (S.length<=q)=true:=by simp;omega
  rw [b,js u,yb,ae rfl];rfl
theorem xB (m:Nat) (S:aa) (a:Nat) (h:a<=S.length) (t:S.length<100000) (w:S.length<m+300):
  ∃P:List Int,P.length=3/\jx (m+300) S (a:Int)=some (TM S P (qL S a)):=by
 have b:∀p,mkS (S.drop p)<4:=λp=>CQ _;have r:∀p q,eF (m+300) [((mkS (S.drop p):Nat):Int),0,0] [((mkS (S.drop q):Nat):Int),0,0] 1=some (l3 (spM (mkS (S.drop p),0,0) (mkS (S.drop q),0,0))):=λp q=>
  uN (m+300) (by omega) 1 (mkS (S.drop p),0,0) (mkS (S.drop q),0,0) (by omega) ⟨b p,by simp,by simp,by simp,by simp⟩ ⟨b q,by simp,by simp,by simp,by simp⟩
 have o:∀p q e f,eF (m+300) [((mkS (S.drop p):Nat):Int),((mkS (S.drop e):Nat):Int),0] [((mkS (S.drop q):Nat):Int),((mkS (S.drop f):Nat):Int),0] 2=some (l3 (spM (mkS (S.drop p),mkS (S.drop e),0) (mkS (S.drop q),mkS (S.drop f),0))):=λp q e f=>
  uN (m+300) (by omega) 2 (mkS (S.drop p),mkS (S.drop e),0) (mkS (S.drop q),mkS (S.drop f),0) (by omega) ⟨b p,b e,by simp,by simp,by simp⟩ ⟨b q,b f,by simp,by simp,by simp⟩
 have u:∀p q e f i d,eF (m+300) [((mkS (S.drop p):Nat):Int),((mkS (S.drop e):Nat):Int),((mkS (S.drop i):Nat):Int)] [((mkS (S.drop q):Nat):Int),((mkS (S.drop f):Nat):Int),((mkS (S.drop d):Nat):Int)] 3=some (l3 (spM (mkS (S.drop p),mkS (S.drop e),mkS (S.drop i)) (mkS (S.drop q),mkS (S.drop f),mkS (S.drop d)))):=λp q e f i d=>
  uN (m+300) (by omega) 3 (mkS (S.drop p),mkS (S.drop e),mkS (S.drop i)) (mkS (S.drop q),mkS (S.drop f),mkS (S.drop d)) (by omega) ⟨b p,b e,b i,by simp,by simp⟩ ⟨b q,b f,b d,by simp,by simp⟩
 have b0:=k7 h;unfold jx qL;show ∃P:List Int,P.length=3/\ob (ar (bh (m+300)) (m+299+1) (rdSt S 0 false false [] 0 0 [] [] [0,0,0] [0,0,0] [0,0,0] a)) _=_;rw [ar,Xw m S a h t w];cases F:pX (S.drop (mkE S a)) with
 | inl k=>(refine ⟨_,?_,rfl⟩;rfl)
 | inr y=>
  obtain ⟨g,l,dg,x,s,k⟩:=y;have bk:mkE S a+k<=S.length:=by
   have:=(qR F).2.1;rw [bN] at this;omega
  have b1:=k7 bk;show ∃P:List Int,P.length=3/\ob (ar (bh (m+300)) (m+298+1) (rdSt S 1 g l dg (x:Int) (s:Int) [] [] [((mkE S a:Nat):Int),0,0] [((mkS (S.drop a):Nat):Int),0,0] [((mkS (S.drop (mkE S a+k)):Nat):Int),0,0] (mkE S (mkE S a+k)))) _=_;rw [ar,XD m S g l dg x s _ _ _ _ b1 t w];simp only [];by_cases hc:0<s\/fD 45 (S.drop (mkE S (mkE S a+k)))=0
  ·rw [ae hc,ae hc];refine ⟨[0,0,0],rfl,?_⟩;simp only [ob,d4,d8,d16];rw [r];rfl
  ·rw [ab hc,ab hc];have hs:¬0<s:=λz=>hc (.inl z);have C:=sA (λz=>hc (.inr z));have J:=k7 C;unfold rd2;by_cases j:twoN (S.drop (mkE S (mkE S (mkE S a+k)+1)))<2
   ·rw [ae j,ae j];(refine ⟨_,?_,rfl⟩;rfl)
   ·rw [ab j,ab j];have b2:=vv j;have G:=k7 b2;show ∃P:List Int,P.length=3/\ob (ar (bh (m+300)) (m+297+1) (rdSt S 2 g l dg (x:Int) (s:Int) _ [] [_,_,0] [_,_,0] [_,_,0] (mkE S (mkE S (mkE S (mkE S a+k)+1)+2)))) _=_;rw [ar,Xz m S g l dg x s _ _ _ _ _ _ _ _ G t w hs];by_cases c:fD 45 (S.drop (mkE S (mkE S (mkE S (mkE S a+k)+1)+2)))=0
    ·rw [ae c,ae c];refine ⟨[0,0,0],rfl,?_⟩;simp only [ob,d4,d8,d16];rw [o];rfl
    ·rw [ab c,ab c];have v:=sA c;have H:=k7 v;unfold rd3;by_cases n:twoN (S.drop (mkE S (mkE S (mkE S (mkE S (mkE S a+k)+1)+2)+1)))<2
     ·rw [ae n,ae n];(refine ⟨_,?_,rfl⟩;rfl)
     ·rw [ab n,ab n];have I:∀(D E:aa) (P A B:List Int) (p:Nat),bh (m+300) (rdSt S 3 g l dg (x:Int) (s:Int) D E P A B p)=some (.inr (.inl (3,false,false,[],0,0,[],[],0,0,0,[0,0,0],[],0,0,g,l,dg,(x:Int),(s:Int),D,E,0,0,0,P,A,B,S,(p:Int),0))):=λ_ _ _ _ _ _=>rfl;show ∃P:List Int,P.length=3/\ob (ar (bh (m+300)) (m+296+1) (rdSt S 3 g l dg (x:Int) (s:Int) _ _ _ _ _ _)) _=_;rw [ar,I];refine ⟨[0,0,0],rfl,?_⟩;simp only [ob,d4,d8,d16];rw [u];rfl
theorem ug {g l:Bool} {d:aa} {x s:Nat} (h:okY g l d (x:Int) (s:Int)):(gN g l d (x:Int) (s:Int)).length<=25:=by
 have hs:=kg h;have c:=yP 69 (show x<100 by omega);have a:=yP 83 (show s<100 by omega);rw [kC];simp only [bg];have b:(if l=true then ([89]:aa) else []).length<=1:=by split<;>simp
 have e:(if g=true then ([45]:aa) else []).length<=1:=by split<;>simp
 omega
end Go.Sh
