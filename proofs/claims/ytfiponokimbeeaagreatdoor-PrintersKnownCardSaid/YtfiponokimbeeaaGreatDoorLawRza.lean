
/- Plain proofs, kept as far as they are needed here (printed by prune.py).
   Conditions: none. -/
import Derived.Laws.RangeString
import Derived.Laws.RangeAny
import Derived.Test.YtfiponokimbeeaaGreatDoorShR
import Derived.Lib.IndexLaws
import Derived.Test.YtfiponokimbeeaaGreatDoorAbsZ
set_option linter.unusedVariables false
set_option linter.unusedSimpArgs false
set_option maxRecDepth 100000
namespace Go.Sh
open Go.Abs
theorem fJ {X Y:Type} {step:X->Option (X⊕Y)} (I:X->Prop) (b:X->Nat) (G:X->Y)
  (h:∀x,I x->(∃a,step x=some (.inl a)/\I a/\b a<b x/\G a=G x)\/step x=some (.inr (G x))):
  ∀(n:Nat) (x:X),I x->b x<n->ar step n x=some (G x)
 | 0,x,_,d=>by omega
 | n+1,x,hx,d=>by
  rcases h x hx with ⟨a,c,e,g,f⟩ | c
  ·simp only [ar,c];rw [fJ I b G h n a e (by omega),f]
  ·simp only [ar,c]
theorem rN {X Y:Type} {step:X->Option (X⊕Y)} (I:X->Prop) (b:X->Nat) (Q:Y->Prop)
  (h:∀x,I x->(∃a,step x=some (.inl a)/\I a/\b a<b x)\/∃y,step x=some (.inr y)/\Q y):
  ∀(n:Nat) (x:X),I x->b x<n->∃y,ar step n x=some y/\Q y
 | 0,x,_,e=>by omega
 | n+1,x,hx,e=>by
  rcases h x hx with ⟨a,c,d,f⟩ | ⟨y,c,d⟩
  ·simp only [ar,c];exact rN I b Q h n a d (by omega)
  ·exact ⟨y,by simp only [ar,c],d⟩
theorem ED {X Y:Type} {step:X->Option (X⊕Y)} {f:Nat->X} {y:Y}:∀{m n:Nat},(∀i,i<m->step (f i)=some (.inl (f (i+1))))->step (f m)=some (.inr y)->m<n->ar step n (f 0)=some y:=by
 intro m n h c a;have b:∀(j i:Nat),i+j=m->∀n,j<n->ar step n (f i)=some y:=by
  intro j
  induction j with
  | zero=>
   intro i hi n a;obtain ⟨n,rfl⟩:∃q,n=q+1:=⟨n - 1,by omega⟩;have:i=m:=by omega
   subst this;simp [ar,c]
  | succ j ih=>
   intro i hi n a;obtain ⟨n,rfl⟩:∃q,n=q+1:=⟨n - 1,by omega⟩;simp only [ar,h i (by omega)];exact ih (i+1) (by omega) n (by omega)
 exact b m 0 (by omega) n a
theorem Ae (x:Int):0<=IntKind.wrap .u8 x/\IntKind.wrap .u8 x<256:=by
 show 0<=x%256/\x%256<256;omega
theorem ks (x:Int) (b:0<=x) (a:x<256):IntKind.wrap .u8 x=x:=by
 show x%256=x;omega
theorem Iw (x:Int):IntKind.wrap .u8 x=x%256:=rfl
theorem wrap_i64 (x:Int) (b:-9223372036854775808<=x) (a:x<9223372036854775808):IntKind.wrap .i64 x=x:=by
 simp only [IntKind.wrap,IntKind.signed,IntKind.bits];simp;omega
theorem dL {l:aa} {i:Nat} {c:UInt8} (h:l[i]?=some c):sx l (i:Int)=some c:=by
 simp [sx,h]
theorem dl {n i:Nat} (h:i<n):ix n (i:Int)=some i:=by
 simp [ix];omega
theorem dY {n i:Nat} (h:i<=n):bx n (i:Int)=some i:=by
 simp [bx];omega
theorem BD {l:aa} {i:Nat} {c:UInt8} (h:l[i]?=some c) (hc:c.toNat<128):dec l i=(c.toNat,1):=by
 have a:i<l.length:=by
  rcases aH i l.length with b | b
  ·exact b
  ·rw [gW b] at h;cases h
 have hs:i<(ByteArray.mk l.toArray).size:=a;have d:(ByteArray.mk l.toArray)[i]'hs=c:=by
  rw [be a] at h;simp only [au] at h;exact h
 unfold dec;rw [decode_ascii _ i hs (by rw [d];exact hc),d]
theorem HU {l:aa} {i:Nat} {c:UInt8} (h:l[i]?=some c) (hc:128<=c.toNat):128<=(dec l i).1/\1<=(dec l i).2:=by
 have a:i<l.length:=by
  rcases aH i l.length with b | b
  ·exact b
  ·rw [gW b] at h;cases h
 have hs:i<(ByteArray.mk l.toArray).size:=a;have d:(ByteArray.mk l.toArray)[i]'hs=c:=by
  rw [be a] at h;simp only [au] at h;exact h
 unfold dec;exact decode_high _ i hs (by rw [d];exact hc)
theorem tt {α:Type} {l:List α} {i:Nat} {c:α} (h:l[i]?=some c):i<l.length:=by
 rcases aH i l.length with a | a
 ·exact a
 ·rw [gW a] at h;cases h
theorem bU {α:Type} {l:List α} {i:Nat} {c:α} (h:l[i]?=some c):l.drop i=c::l.drop (i+1):=by
 have a:=tt h;rw [be a] at h;simp only [au] at h;rw [<-h,sj a]
theorem kl {α c:Type} [BEq α] [LawfulBEq α] [DecidableEq α] (a b:α) (x y:c):(cond (a==b) x y)=if a=b then x else y:=by
 by_cases h:a=b
 ·subst h;simp
 ·rw [aM.2 h];simp [h]
theorem vY {α c:Type} [BEq α] [LawfulBEq α] [DecidableEq α] (a b:α) (x y:c):(cond (a != b) x y)=if a=b then y else x:=by
 by_cases h:a=b
 ·subst h;simp
 ·rw [bne,aM.2 h];simp [h]
theorem bz {a:Type} (p:Prop) [Decidable p] (x y:a):(cond (decide p) x y)=if p then x else y:=by
 by_cases h:p<;>simp [h]
theorem Gg {a:Type} (b:Bool) (x y:a):(cond (!b) x y)=cond b y x:=by cases b<;>rfl
theorem iY (a b:Nat):(decide (((a:Nat):Int)<((b:Nat):Int)))=decide (a<b):=by
 by_cases h:a<b<;>simp [h]
theorem lC (a b:Nat):(decide (((a:Nat):Int)>=((b:Nat):Int)))=decide (b<=a):=by
 by_cases h:b<=a<;>simp [h]
theorem nE (c d:UInt8):((((c.toNat:Nat):Int))==((d.toNat:Nat):Int))=(c==d):=by
 by_cases h:c=d
 ·subst h;simp
 ·have b:c.toNat≠d.toNat:=λe=>h (gv.1 e);have a:((c.toNat:Nat):Int)≠((d.toNat:Nat):Int):=by omega
  rw [aM.2 a,aM.2 h]
theorem Yp (c:UInt8):UInt8.ofNat (Int.toNat ((c.toNat:Nat):Int))=c:=by simp
def two (c:Nat):aa:=[UInt8.ofNat (48+c / 10),UInt8.ofNat (48+c%10)]
def sea (m:aa):Int:=match (List.range 21).find? (λj=>m==two (21+j)) with | some j=>((21+j:Nat):Int) | none=>0
theorem lL {j:Nat} (a:j<21):sea (two (21+j))=((21+j:Nat):Int):=by
 have:((List.range 21).all λj=>sea (two (21+j))==((21+j:Nat):Int))=true:=by decide +kernel
 simpa using (List.all_eq_true.1 this) j (by simpa using a)
theorem pa (m:aa):sea m=0\/∃j,j<21/\m=two (21+j):=by
 unfold sea;split
 ·rename_i j h;have a:=List.find?_some h;have b:=List.mem_of_find?_eq_some h;exact .inr ⟨j,by simpa using b,by simpa using a⟩
 ·exact .inl rfl
theorem pR {b:UInt8} {d:Nat} (h:Lib.digitVal b=some d):d<10/\b.toNat=48+d:=by
 unfold Lib.digitVal at h;split at h
 ·cases h;omega
 ·cases h
theorem N5 {a b:UInt8} {v:Int} (h:Lib.atoi [a,b]=some v) (o:21<=v) (q:v<42):∃j,j<21/\[a,b]=two (21+j)/\v=((21+j:Nat):Int):=by
 obtain ⟨b0,r,e,k⟩:=Lib.atoi_cases h;cases e;rcases k with ⟨_,m,_,_,i⟩ | ⟨_,m,_,c,i⟩ | ⟨_,_,m,c,i⟩
 ·omega
 ·simp only [Lib.decFrom] at c;split at c
  ·rename_i d g;have:=(pR g).1;simp only [au] at c;omega
  ·cases c
 ·simp only [Lib.decFrom] at c;split at c
  ·rename_i d g;split at c
   ·rename_i d' f;obtain ⟨k1,k2⟩:=pR g;obtain ⟨p,k4⟩:=pR f;simp only [au] at c;refine ⟨m - 21,by omega,?_,by omega⟩;have l:(21+(m - 21)) / 10=d:=by omega
    have n:(21+(m - 21))%10=d':=by omega
    unfold two;rw [l,n,<-k2,<-k4];simp
   ·cases c
  ·cases c
theorem wv {j:Nat} (a:j<21):Lib.atoi (two (21+j))=some ((21+j:Nat):Int):=by
 have:((List.range 21).all λj=>Lib.atoi (two (21+j))==some ((21+j:Nat):Int))=true:=by decide +kernel
 simpa using (List.all_eq_true.1 this) j (by simpa using a)
theorem qz (n:Nat) (g l:Bool) (dg:aa) (x q:Int) (m d:aa) (k0 k1 k2:Int) (o:m.length<=18):bN n g l dg x q m d k0 k1 k2=some (sea m,decide (0<sea m)):=by
 have f:Nat.ble m.length 18=true:=cZ o;rcases pa m with h | ⟨j,c,rfl⟩
 ·unfold bN;rw [f,h];show opt (Lib.atoi m) _ _=_;cases k:Lib.atoi m with
  | none=>rfl
  | some v=>
   show cond _ _ _=_;by_cases i:m.length=2
   ·rw [i];obtain ⟨a,b,rfl⟩:∃a b,m=[a,b]:=by
     match m,i with
     | [a,b],_=>exact ⟨a,b,rfl⟩
    show ob (dI n v) _=_;unfold dI;rw [bz,bz];split
    ·rfl
    ·split
     ·rfl
     ·exfalso;obtain ⟨j,c,e,_⟩:=N5 k (by omega) (by omega);rw [e,lL c] at h;omega
   ·rw [show (((m.length:Nat):Int) != 2)=true by simp;omega];rfl
 ·rw [lL c];have e:bN n g l dg x q (two (21+j)) d k0 k1 k2=some (((21+j:Nat):Int),true):=by
   unfold bN;rw [f,wv c];show ob (dI n ((21+j:Nat):Int)) _=_;unfold dI;rw [bz,bz,ab (by omega),ab (by omega)];rfl
  rw [e];have:decide (0<((21+j:Nat):Int))=true:=by simp;omega
  rw [this]
theorem Nv (n:Nat) {c:Nat} (hc:c<100):gB n (c:Int)=some (two c):=by
 have i:Int.tdiv (c:Int) 10=((c / 10:Nat):Int):=by
  rw [show (10:Int)=((10:Nat):Int) from rfl,<-Int.ofNat_tdiv]
 have f:Int.tmod (c:Int) 10=((c%10:Nat):Int):=by
  rw [show (10:Int)=((10:Nat):Int) from rfl,<-Int.ofNat_tmod]
 have e:c / 10<10:=by omega
 have j:c%10<10:=by omega
 unfold gB;rw [i,f];have h:IntKind.wrap .i64 ((c / 10:Nat):Int)=((c / 10:Nat):Int):=wrap_i64 _ (by omega) (by omega);have g:IntKind.wrap .i64 (((c / 10:Nat):Int)+1)=((c / 10+1:Nat):Int):=by rw [wrap_i64 _ (by omega) (by omega)];omega
 have k:IntKind.wrap .i64 (((c%10:Nat):Int)+1)=((c%10+1:Nat):Int):=by rw [wrap_i64 _ (by omega) (by omega)];omega
 rw [h,g,k,dY (by omega),dY (by omega)];show ob (bx (c / 10+1) ((c / 10:Nat):Int)) _=_;rw [dY (by omega)];show ob (bx (c%10+1) ((c%10:Nat):Int)) _=_;rw [dY (by omega)];unfold two;generalize c / 10=a at *;generalize c%10=b at *;have:((List.range 10).all λa=>(List.range 10).all λb=>ob (cat (List.drop a (List.take (a+1) ([48,49,50,51,52,53,54,55,56,57]:aa))) (List.drop b (List.take (b+1) ([48,49,50,51,52,53,54,55,56,57]:aa)))) (λs=>some s)==some [UInt8.ofNat (48+a),UInt8.ofNat (48+b)])=true:=by decide +kernel
 have d:=(cL.1 ((cL.1 this) a (by simpa using e))) b (by simpa using j);simpa using d
theorem ON {m:aa} (h:∀j,j<21->m≠two (21+j)):sea m=0:=by
 rcases pa m with b | ⟨j,a,e⟩
 ·exact b
 ·exact absurd e (h j a)
theorem wU (n:Nat) (g l:Bool) (dg:aa) (x q:Int) (m d:aa) (k0 k1 k2:Int):∀(r j:Nat),j+r=21->(∀i,i<j->m≠two (21+i))->∀N,r<N->
  ar (bM n) N (((21+j:Nat):Int),g,l,dg,x,q,m,d,k0,k1,k2)=some (if sea m=0 then .inr () else .inl (sea m)):=by
 intro r
 induction r with
 | zero=>
  intro j e a N c;obtain ⟨N,rfl⟩:∃k,N=k+1:=⟨N - 1,by omega⟩;have hs:sea m=0:=ON (λi hi=>a i (by omega));rw [ar];have:bM n (((21+j:Nat):Int),g,l,dg,x,q,m,d,k0,k1,k2)=some (.inr (.inr ())):=by
   unfold bM;rw [bz,ab (by show ¬(((21+j:Nat):Int)<=41);omega)]
  rw [this,ae hs]
 | succ r ih=>
  intro j e a N c;obtain ⟨N,rfl⟩:∃k,N=k+1:=⟨N - 1,by omega⟩;rw [ar];by_cases b:m=two (21+j)
  ·have hs:sea m=((21+j:Nat):Int):=by rw [b];exact lL (by omega)
   have:bM n (((21+j:Nat):Int),g,l,dg,x,q,m,d,k0,k1,k2)=some (.inr (.inl ((21+j:Nat):Int))):=by
    unfold bM;rw [bz,ae (by show ((21+j:Nat):Int)<=41;omega)];show ob (gB n ((21+j:Nat):Int)) _=_;rw [Nv n (by omega)];show cond (m==two (21+j)) _ _=_;rw [kl,ae b]
   rw [this,hs,ab (by omega)]
  ·have:bM n (((21+j:Nat):Int),g,l,dg,x,q,m,d,k0,k1,k2)=some (.inl (((21+(j+1):Nat):Int),g,l,dg,x,q,m,d,k0,k1,k2)):=by
    unfold bM;rw [bz,ae (by show ((21+j:Nat):Int)<=41;omega)];show ob (gB n ((21+j:Nat):Int)) _=_;rw [Nv n (by omega)];show cond (m==two (21+j)) _ _=_;rw [kl,ab b];have:IntKind.wrap .i64 (((21+j:Nat):Int)+1)=((21+(j+1):Nat):Int):=by rw [wrap_i64 _ (by omega) (by omega)];omega
    show some (Sum.inl (IntKind.wrap .i64 (((21+j:Nat):Int)+1),_))=_;rw [this]
   rw [this]
   exact ih (j+1) (by omega) (λi hi=>by
    rcases aH i j with h | h
    ·exact a i h
    ·have:i=j:=by omega
     rw [this];exact b) N (by omega)
theorem oN (n:Nat) (a:100<n) (g l:Bool) (dg:aa) (x q:Int) (m d:aa) (k0 k1 k2:Int):aQ n g l dg x q m d k0 k1 k2=some (sea m):=by
 unfold aQ;have:=wU n g l dg x q m d k0 k1 k2 21 0 rfl (λi hi=>absurd hi (by omega)) n (by omega);rw [show ((21+0:Nat):Int)=21 from rfl] at this;rw [this];by_cases h:sea m=0
 ·rw [ae h,h];rfl
 ·rw [ab h];rfl
def agr (s:aa) (k:Nat):Bool:=match s with
 | [a,b]=>(a==88||a==UInt8.ofNat (48+k / 10))&&(b==88||b==UInt8.ofNat (48+k%10))
 | _=>false
def gI (s:aa) (g:Nat):Bool:=(List.range g).any λi=>agr s (i+1)
theorem Ia {X Y:Type} {step:X->Option (X⊕Y)} {f:Nat->X} {p:Nat->Bool} {g:Nat} {yes no:Y} (h:∀k,1<=k->k<=g->step (f k)=some (if p k then .inr yes else .inl (f (k+1)))) (e:step (f (g+1))=some (.inr no)) {N:Nat} (b:g<N):
  ar step N (f 1)=some (if (List.range g).any (λi=>p (i+1)) then yes else no):=by
 have d:∀(r j:Nat),j+r=g->(∀i,i<j->p (i+1)=false)->∀N,r<N->ar step N (f (j+1))=some (if (List.range g).any (λi=>p (i+1)) then yes else no):=by
  intro r
  induction r with
  | zero=>
   intro j c a N b;obtain ⟨N,rfl⟩:∃k,N=k+1:=⟨N - 1,by omega⟩;have:(List.range g).any (λi=>p (i+1))=false:=by
    rw [sc];intro i hi;rw [a i (by have:=kR.1 hi;omega)];simp
   rw [ar,show j+1=g+1 by omega,e,this];rfl
  | succ r ih=>
   intro j c a N b;obtain ⟨N,rfl⟩:∃k,N=k+1:=⟨N - 1,by omega⟩;rw [ar,h (j+1) (by omega) (by omega)];cases hp:p (j+1) with
   | true=>
    have:(List.range g).any (λi=>p (i+1))=true:=ui.2 ⟨j,kR.2 (by omega),hp⟩;rw [this];rfl
   | false=>
    exact ih (j+1) (by omega) (λi hi=>by
     rcases aH i j with h | h
     ·exact a i h
     ·have:i=j:=by omega
      rw [this];exact hp) N (by omega)
 exact d g 0 (by omega) (λi hi=>absurd hi (by omega)) N b
theorem vk {a:UInt8} {k:Nat} (b:k<256):((((a.toNat:Nat):Int))==((k:Nat):Int))=(a==UInt8.ofNat k):=by
 have h:(UInt8.ofNat k).toNat=k:=by simp;omega
 rw [<-nE,h]
theorem Oq (n:Nat) (a b:UInt8) {g k:Nat} (r:1<=k) (s:k<=g) (q:g<=31):
  dp n ([a,b],(g:Int),(k:Int))=some (if agr [a,b] k then .inr (.inl true) else .inl ([a,b],(g:Int),((k+1:Nat):Int))):=by
 have o:Int.tdiv (k:Int) 10=((k / 10:Nat):Int):=by
  rw [show (10:Int)=((10:Nat):Int) from rfl,<-Int.ofNat_tdiv]
 have d:Int.tmod (k:Int) 10=((k%10:Nat):Int):=by
  rw [show (10:Int)=((10:Nat):Int) from rfl,<-Int.ofNat_tmod]
 have j:IntKind.wrap .u8 (48+IntKind.wrap .u8 (IntKind.wrap .i64 (Int.tdiv (k:Int) 10)))=((48+k / 10:Nat):Int):=by
  rw [o,wrap_i64 _ (by omega) (by omega),ks ((k / 10:Nat):Int) (by omega) (by omega),ks _ (by omega) (by omega)];omega
 have l:IntKind.wrap .u8 (48+IntKind.wrap .u8 (Int.tmod (k:Int) 10))=((48+k%10:Nat):Int):=by
  rw [d,ks ((k%10:Nat):Int) (by omega) (by omega),ks _ (by omega) (by omega)];omega
 have p:IntKind.wrap .i64 ((k:Int)+1)=((k+1:Nat):Int):=by rw [wrap_i64 _ (by omega) (by omega)];omega
 have c:(88:Int)=((88:Nat):Int):=rfl;have s0:sx [a,b] 0=some a:=rfl;have e:sx [a,b] 1=some b:=rfl;unfold dp;rw [bz,ae (show (k:Int)<=(g:Int) by omega)];simp only [s0,e,ob,j,l,p];rw [c,vk (by omega),vk (by omega),vk (by omega),vk (by omega)];show _=some (if ((a==UInt8.ofNat 88||a==UInt8.ofNat (48+k / 10))&&(b==UInt8.ofNat 88||b==UInt8.ofNat (48+k%10)))=true then _ else _);generalize (a==UInt8.ofNat 88)=h;generalize (b==UInt8.ofNat 88)=m;generalize (a==UInt8.ofNat (48+k / 10))=i;generalize (b==UInt8.ofNat (48+k%10))=f;cases h<;>cases m<;>cases i<;>cases f<;>rfl
theorem Db (n:Nat) (m:100<n) (s:aa) (g:Nat) (e:g<=31):dc n s (g:Int)=some (gI s g):=by
 unfold dc;by_cases c:s.length=2
 ·obtain ⟨a,b,rfl⟩:∃a b,s=[a,b]:=by
   match s,c with
   | [a,b],_=>exact ⟨a,b,rfl⟩
  have j:dp n ([a,b],(g:Int),((g+1:Nat):Int))=some (.inr (.inr ())):=by
   unfold dp;rw [bz,ab (show ¬((g+1:Nat):Int)<=(g:Int) by omega)]
  have:=Ia (f:=λk=>([a,b],(g:Int),((k:Nat):Int))) (p:=agr [a,b]) (g:=g) (N:=n) (λk d l=>Oq n a b d l e) j (by omega);show ob (ar (dp n) n ([a,b],(g:Int),((1:Nat):Int))) _=_;rw [this];unfold gI;split<;>simp_all [ob]
 ·rw [show (((s.length:Nat):Int) != 2)=true by simp;omega];have:gI s g=false:=by
   unfold gI;rw [sc];intro i _
   match s,c with
   | [],_=>simp [agr]
   | [_],_=>simp [agr]
   | [_,_],h=>exact absurd rfl h
   | _::_::_::_,_=>simp [agr]
  rw [this];rfl
theorem uL (n:Nat) (s:aa) (k:Nat) (i:k<100):eo n s (k:Int)=some (if agr s k then 1 else 0):=by
 unfold eo;rw [Nv n i];show cond _ _ _=_;by_cases d:s.length=2
 ·obtain ⟨a,b,rfl⟩:∃a b,s=[a,b]:=by
   match s,d with
   | [a,b],_=>exact ⟨a,b,rfl⟩
  have s0:sx [a,b] 0=some a:=rfl;have g:sx [a,b] 1=some b:=rfl;have o:sx (two k) 0=some (UInt8.ofNat (48+k / 10)):=rfl;have e:sx (two k) 1=some (UInt8.ofNat (48+k%10)):=rfl;have c:(88:Int)=((88:Nat):Int):=rfl;rw [show (((([a,b]:aa).length:Nat):Int)==2)=true from rfl];simp only [s0,g,o,e,ob,ah];rw [c,vk (by omega),vk (by omega),nE,nE];show _=some (if ((a==UInt8.ofNat 88||a==UInt8.ofNat (48+k / 10))&&(b==UInt8.ofNat 88||b==UInt8.ofNat (48+k%10)))=true then _ else _);generalize (a==UInt8.ofNat 88)=f;generalize (b==UInt8.ofNat 88)=m;generalize (a==UInt8.ofNat (48+k / 10))=l;generalize (b==UInt8.ofNat (48+k%10))=j;cases f<;>cases m<;>cases l<;>cases j<;>rfl
 ·rw [show (((s.length:Nat):Int)==2)=false by simp;omega];have:agr s k=false:=by
   match s,d with
   | [],_=>rfl
   | [_],_=>rfl
   | [_,_],h=>exact absurd rfl h
   | _::_::_::_,_=>rfl
  rw [this];rfl
theorem HJ (n:Nat) (e:100<n) (s:aa) (g:Nat) (d:g<=31):dM n s (g:Int)=some (if gI s g then 1 else 0):=by
 unfold dM;have a:dK n (s,(g:Int),((g+1:Nat):Int))=some (.inr (.inr ())):=by
  unfold dK;rw [bz,ab (show ¬((g+1:Nat):Int)<=(g:Int) by omega)]
 have:=Ia (f:=λk=>(s,(g:Int),((k:Nat):Int))) (p:=agr s) (g:=g) (N:=n) (step:=dK n) (yes:=.inl 1) (no:=.inr ()) (λk c h=>by
  unfold dK;rw [bz,ae (show (k:Int)<=(g:Int) by omega)];show ob (eo n s (k:Int)) _=_;rw [uL n s k (by omega)];have b:IntKind.wrap .i64 ((k:Int)+1)=((k+1:Nat):Int):=by rw [wrap_i64 _ (by omega) (by omega)];omega
  simp only [ob,b];cases agr s k<;>rfl) a (by omega)
 show ob (ar (dK n) n (s,(g:Int),((1:Nat):Int))) _=_;rw [this];unfold gI;split<;>simp_all [ob]
theorem wA (n:Nat) {a b:Int} (s:1<b) (p:b<1000) (v:-4611686018427387904<=a) (j:a<4611686018427387904):l6 n a b=some (a / b,0):=by
 have o:(b==0)=false:=by simp;omega
 have l:(b==-1)=false:=by simp;omega
 unfold l6;simp only [o,l,af];have t:a / b*b+a%b=a:=Int.ediv_mul_add_emod a b;have u:=LL a (show b≠0 by omega);have m:=K4 a (show 0<b by omega);have q:-4611686018427387904<=a / b:=by
  rw [Int.le_ediv_iff_mul_le (by omega)];have:(-4611686018427387904:Int)*b<=-4611686018427387904*1:=Int.mul_le_mul_of_nonpos_left (by omega) (by omega);omega
 have r:a / b<4611686018427387904:=by
  rw [Int.ediv_lt_iff_lt_mul (by omega)];have:(4611686018427387904:Int)*1<=4611686018427387904*b:=Int.mul_le_mul_of_nonneg_left (by omega) (by omega);omega
 by_cases f:0<=a
 ·have d:Int.tdiv a b=a / b:=QR f;have e:decide (a<0)=false:=by simp;omega
  have d2:decide (b<0)=false:=by simp;omega
  rw [d,e,d2,wrap_i64 (a / b) (by omega) (by omega)];cases (Int.tmod a b != 0)<;>rfl
 ·have e:decide (a<0)=true:=by simp;omega
  have d2:decide (b<0)=false:=by simp;omega
  have d:=Int.tdiv_eq_ediv (a:=a) (b:=b);have i:=KL (a:=a) (b:=b);rw [e,d2];by_cases c:b∣a
  ·have g:Int.tmod a b=0:=by
    rw [i,ae (.inr c)];have:=Int.emod_eq_zero_of_dvd c;omega
   rw [g,d,ae (.inr c)];rw [Int.add_zero,wrap_i64 (a / b) (by omega) (by omega)];rfl
  ·have k:a%b≠0:=λh=>c (J4 h);have g:(Int.tmod a b != 0)=true:=by
    rw [i,ab (by rintro (h | h);exact f h;exact c h)];simp;omega
   have hs:b.sign=1:=Int.sign_eq_one_of_pos (by omega);rw [g,d,ab (by rintro (h | h);exact f h;exact c h),hs];rw [wrap_i64 (a / b+1) (by omega) (by omega),Int.add_sub_cancel,wrap_i64 (a / b) (by omega) (by omega)];rfl
theorem Xb (n:Nat) {a b:Int} (m:1<b) (j:b<1000):vO n a b=some (a%b,0):=by
 have i:(b==0)=false:=by simp;omega
 have f:(b==-1)=false:=by simp;omega
 unfold vO;simp only [i,f,af];have o:=LL a (show b≠0 by omega);have g:=K4 a (show 0<b by omega);have c:=KL (a:=a) (b:=b);have d2:decide (b<0)=false:=by simp;omega
 by_cases hc:0<=a\/b∣a
 ·rw [ae hc] at c;have:Int.tmod a b=a%b:=by omega
  rw [this,d2];have d:decide (a%b<0)=false:=by simp;omega
  rw [d];cases h:(a%b != 0)
  ·rfl
  ·rfl
 ·rw [ab hc] at c;have l:(b.natAbs:Int)=b:=by omega
  rw [l] at c;have e:a%b≠0:=λh=>hc (.inr (J4 h));have k:(Int.tmod a b != 0)=true:=by simp;omega
  have d:decide (Int.tmod a b<0)=true:=by simp;omega
  rw [k,d,d2,c,wrap_i64 _ (by omega) (by omega),K3];rfl
def dX (y:Int):Prop:=-10000000000000000<=y/\y<=10000000000000000
instance (y:Int):Decidable (dX y):=by unfold dX;infer_instance
theorem gF (n:Nat) (y:Int):jh n y=some (if dX y then 0 else 6):=by
 unfold jh;rw [bz,bz];by_cases a:y < -10000000000000000
 ·rw [ae a,ab (show ¬dX y by unfold dX;omega)]
 ·by_cases b:y>10000000000000000
  ·rw [ab a,ae b,ab (show ¬dX y by unfold dX;omega)]
  ·rw [ab a,ab b,ae (show dX y by unfold dX;omega)]
theorem sK (n:Nat) {y:Int} (h:-20000000000000000<=y/\y<=20000000000000000):∃z,fA n y=some z:=by
 unfold fA;rw [wrap_i64 (y - 1) (by omega) (by omega),wA n (by omega) (by omega) (by omega) (by omega),wA n (by omega) (by omega) (by omega) (by omega),wA n (by omega) (by omega) (by omega) (by omega)];exact ⟨_,rfl⟩
theorem Js (n:Nat) {y:Int} (h:dX y):∃b e,kH n y=some (b,e):=by
 unfold kH;have h':=h;unfold dX at h';obtain ⟨z1,c⟩:=sK n (y:=y+1) (by omega);obtain ⟨z2,a⟩:=sK n (y:=y) (by omega);rw [gF,ae h,wrap_i64 (y+1) (by omega) (by omega),c,a];exact ⟨_,_,rfl⟩
theorem sM (n:Nat) {y:Int} (h:dX y) {m:Nat} (c:1<=m) (d:m<=12):∃v,eD n y (m:Int)=some v:=by
 unfold eD;obtain ⟨b,e,a⟩:=Js n h;rw [a];show ∃v,cond (b&&((m:Int)==2)) _ _=some v;cases (b&&((m:Int)==2)) with
 | true=>exact ⟨_,rfl⟩
 | false=>
  have:IntKind.wrap .i64 ((m:Int) - 1)=((m - 1:Nat):Int):=by rw [wrap_i64 _ (by omega) (by omega)];omega
  rw [this,dl (by omega)];have a:vH.length=12:=rfl;exact ⟨_,be (show m - 1<vH.length by omega)⟩
theorem H5 (n:Nat) {y:Int} (h:dX y) {m:Nat} (a:1<=m) (b:m<=12):kC n y (m:Int)=some 0:=by
 unfold kC;rw [gF,ae h];show cond (decide ((m:Int)<1)) _ _=_;rw [bz,bz,ab (by omega),ab (by omega)]
theorem Iu (n:Nat) {y:Int} (h:dX y) {m:Nat} (e:m<=11):∀(r j:Nat),j+r=m->∀(a:Int) (N:Nat),r<N->∃v,ar (bJ n) N (y,a,(m:Int),(j:Int))=some v:=by
 intro r
 induction r with
 | zero=>
  intro j c a N b;obtain ⟨N,rfl⟩:∃k,N=k+1:=⟨N - 1,by omega⟩;have:bJ n (y,a,(m:Int),(j:Int))=some (.inr a):=by
   unfold bJ;rw [bz,ab (show ¬((j:Int)<(m:Int)) by omega)]
  rw [ar,this];exact ⟨_,rfl⟩
 | succ r ih=>
  intro j c a N b;obtain ⟨N,rfl⟩:∃k,N=k+1:=⟨N - 1,by omega⟩;obtain ⟨v,d⟩:=sM n h (m:=j+1) (by omega) (by omega);have w:IntKind.wrap .i64 ((j:Int)+1)=((j+1:Nat):Int):=by rw [wrap_i64 _ (by omega) (by omega)];omega
  have:bJ n (y,a,(m:Int),(j:Int))=some (.inl (y,IntKind.wrap .i64 (a+v),(m:Int),((j+1:Nat):Int))):=by
   unfold bJ;rw [bz,ae (show ((j:Int)<(m:Int)) by omega)];simp only [w,d,ob]
  rw [ar,this];exact ih (j+1) (by omega) _ N (by omega)
theorem J5 (n:Nat) (d:100<n) {y:Int} (h:dX y) {m:Nat} (a:1<=m) (b:m<=12):∃v,fC n y (m:Int)=some (v,0):=by
 unfold fC lI lR;have h':=h;unfold dX at h';obtain ⟨z,e⟩:=sK n (y:=y) (by omega);have w:IntKind.wrap .i64 ((m:Int) - 1)=((m - 1:Nat):Int):=by rw [wrap_i64 _ (by omega) (by omega)];omega
 rw [H5 n h a b,gF,ae h,e,w];obtain ⟨v,c⟩:=Iu n h (m:=m - 1) (by omega) (m - 1) 0 (by omega) (IntKind.wrap .i64 (IntKind.wrap .i64 (365*y)+z)) n (by omega);refine ⟨v,?_⟩;show ob (ar (bJ n) n (y,IntKind.wrap .i64 (IntKind.wrap .i64 (365*y)+z),((m - 1:Nat):Int),((0:Nat):Int))) _=_;rw [c];rfl
theorem madd (n:Nat) {y:Int} (h:dX y) {m c:Nat} (g:1<=m) (k:m<=12) (hc:1<=c) (j:c<=6):oG n y (m:Int) (IntKind.wrap .i64 ((c:Int) - 1)) =
  some (if 12<m+c - 1 then (if y=10000000000000000 then (0,0,6) else (y+1,((m+c - 1 - 12:Nat):Int),0)) else (y,((m+c - 1:Nat):Int),0)):=by
 have h':=h;unfold dX at h';unfold oG;rw [H5 n h g k,wrap_i64 (12*y) (by omega) (by omega),wrap_i64 ((m:Int) - 1) (by omega) (by omega),wrap_i64 (12*y+((m:Int) - 1)) (by omega) (by omega),wrap_i64 ((c:Int) - 1) (by omega) (by omega)];have i:rt n (12*y+((m:Int) - 1)) ((c:Int) - 1)=some (12*y+((m:Int) - 1)+((c:Int) - 1),0):=by
  unfold rt;rw [wrap_i64 (12*y+((m:Int) - 1)+((c:Int) - 1)) (by omega) (by omega),kl];by_cases b:(c:Int) - 1=0
  ·rw [ae b];have a:decide (12*y+((m:Int) - 1)>12*y+((m:Int) - 1))=false:=by simp
   have d2:decide ((c:Int) - 1>0)=false:=by simp;omega
   rw [a,d2,b,Int.add_zero];rfl
  ·rw [ab b];have a:decide (12*y+((m:Int) - 1)+((c:Int) - 1)>12*y+((m:Int) - 1))=true:=by simp;omega
   have d2:decide ((c:Int) - 1>0)=true:=by simp;omega
   rw [a,d2];rfl
 simp only [ob,i,dJ,af];rw [wA n (by omega) (by omega) (by omega) (by omega),Xb n (by omega) (by omega)];simp only [gF];by_cases f:12<m+c - 1
 ·have d:(12*y+((m:Int) - 1)+((c:Int) - 1)) / 12=y+1:=by omega
  have e:(12*y+((m:Int) - 1)+((c:Int) - 1))%12=((m+c - 1 - 12:Nat):Int) - 1:=by omega
  rw [d,e,ae f];by_cases hy:y=10000000000000000
  ·rw [ae hy,ab (show ¬dX (y+1) by unfold dX;omega)];rfl
  ·rw [ab hy,ae (show dX (y+1) by unfold dX;omega),wrap_i64 (((m+c - 1 - 12:Nat):Int) - 1+1) (by omega) (by omega),K3];rfl
 ·have d:(12*y+((m:Int) - 1)+((c:Int) - 1)) / 12=y:=by omega
  have e:(12*y+((m:Int) - 1)+((c:Int) - 1))%12=((m+c - 1:Nat):Int) - 1:=by omega
  rw [d,e,ab f,ae h,wrap_i64 (((m+c - 1:Nat):Int) - 1+1) (by omega) (by omega),K3];rfl
theorem H7 {j:Nat} (g:j<21):∃m c:Nat,nB[j]?=some ((m:Int),(c:Int))/\1<=m/\m<=12/\1<=c/\c<=6/\(12<m+c - 1↔j=3\/j=7\/j=9):=by
 have:((List.range 21).all λj=>match nB[j]? with
  | some (m,c)=>decide (0<=m)&&decide (0<=c)&&decide (1<=m.toNat)&&decide (m.toNat<=12)&&decide (1<=c.toNat)&&decide (c.toNat<=6)&&(decide (12<m.toNat+c.toNat - 1)==decide (j=3\/j=7\/j=9))
  | none=>false)=true:=by decide +kernel
 have h:=(cL.1 this) j (by simpa using g);split at h
 ·rename_i m c e;simp only [az,cj,bI,nU] at h;obtain ⟨⟨⟨⟨⟨⟨b,k⟩,a⟩,l⟩,i⟩,d⟩,f⟩:=h;exact ⟨m.toNat,c.toNat,by rw [e,G2 b,G2 k],a,l,i,d,f⟩
 ·cases h
theorem WQ (n:Nat) (p:100<n) {y:Int} (h:dX y) {j:Nat} (r:j<21):
  ∃a b c d,iE n y ((21+j:Nat):Int)=some (a,b,c,d,if y=10000000000000000/\(j=3\/j=7\/j=9) then 6 else 0):=by
 obtain ⟨m,c,e,q,w,z,C,s⟩:=H7 r;have A:fB n ((21+j:Nat):Int)=some ((m:Int),(c:Int),0):=by
  unfold fB dI;rw [bz,bz,ab (by omega),ab (by omega)];have:IntKind.wrap .i64 (((21+j:Nat):Int) - 21)=(j:Int):=by rw [wrap_i64 _ (by omega) (by omega)];omega
  rw [this,dl r];show ob (nB[j]?) _=_;rw [e];rfl
 obtain ⟨v,B⟩:=J5 n p h q w;unfold iE;rw [A];show ∃a b c d,ob (fC n y (m:Int)) _=_;rw [B];show ∃a b t d,ob (oG n y (m:Int) (IntKind.wrap .i64 ((c:Int) - 1))) _=_;rw [madd n h q w z C];have h':=h;unfold dX at h';by_cases i:12<m+c - 1
 ·rw [ae i];by_cases hy:y=10000000000000000
  ·rw [ae hy,ae ⟨hy,s.1 i⟩];exact ⟨_,_,_,_,rfl⟩
  ·rw [ab hy,ab (λx=>hy x.1)];have g:dX (y+1):=by unfold dX;omega
   obtain ⟨k,f⟩:=J5 n p g (m:=m+c - 1 - 12) (by omega) (by omega);obtain ⟨u,o⟩:=sM n g (m:=m+c - 1 - 12) (by omega) (by omega);have l:hZ n (y+1) ((m+c - 1 - 12:Nat):Int)=some (IntKind.wrap .i64 (IntKind.wrap .i64 (k+u) - 1),0):=by
    unfold hZ;rw [f,o];rfl
   show ∃a b t d,ob (hZ n (y+1) ((m+c - 1 - 12:Nat):Int)) _=_;rw [l];exact ⟨_,_,_,_,rfl⟩
 ·rw [ab i,ab (λx=>i (s.2 x.2))];obtain ⟨k,f⟩:=J5 n p h (m:=m+c - 1) (by omega) (by omega);obtain ⟨u,o⟩:=sM n h (m:=m+c - 1) (by omega) (by omega);have l:hZ n y ((m+c - 1:Nat):Int)=some (IntKind.wrap .i64 (IntKind.wrap .i64 (k+u) - 1),0):=by
   unfold hZ;rw [f,o];rfl
  show ∃a b t d,ob (hZ n y ((m+c - 1:Nat):Int)) _=_;rw [l];exact ⟨_,_,_,_,rfl⟩
def hasB (set:aa) (c:UInt8):Bool:=set.any λd=>d==c
theorem pQ (set:aa) (c:UInt8):(decide (Lib.indexByte set c<0))=!hasB set c:=by
 induction set with
 | nil=>simp [Lib.indexByte,hasB]
 | cons d l ih=>
  have f:=Lib.indexByte_ge l c;simp only [hasB,qE] at ih ⊢;unfold Lib.indexByte;by_cases h:d=c
  ·simp [h]
  ·have e:(d==c)=false:=by simpa using h
   simp only [e,br,aA,o8];rw [<-ih];by_cases b:Lib.indexByte l c=-1
   ·simp [b]
   ·have a:(Lib.indexByte l c==-1)=false:=by simpa using b
    simp only [a,br,aA];have:¬Lib.indexByte l c+1<0:=by omega
    have:¬Lib.indexByte l c<0:=by omega
    simp [*]
theorem pX (set:aa) (c:UInt8):(decide (Lib.indexByte set c>=0))=hasB set c:=by
 have:=pQ set c;by_cases h:Lib.indexByte set c<0
 ·have a:¬Lib.indexByte set c>=0:=by omega
  simp only [h,a,oh,nD] at this ⊢;revert this;cases hasB set c<;>simp
 ·have a:Lib.indexByte set c>=0:=by omega
  simp only [h,a,oh,nD] at this ⊢;revert this;cases hasB set c<;>simp
def lcp:aa->aa->Nat
 | c::s,d::t=>if c==d then lcp s t+1 else 0
 | _,_=>0
theorem wN:∀s t:aa,lcp s t<=s.length
 | [],_=>by simp [lcp]
 | _::_,[]=>by simp [lcp]
 | c::s,d::t=>by
  have:=wN s t;simp only [lcp,aC];split<;>omega
def bD (p:UInt8->Bool):Nat->aa->Nat
 | 0,_=>0
 | _+1,[]=>0
 | k+1,c::l=>if p c then bD p k l+1 else 0
theorem lW (p:UInt8->Bool):∀(k:Nat) (l:aa),bD p k l<=l.length
 | 0,_=>by simp [bD]
 | _+1,[]=>by simp [bD]
 | k+1,c::l=>by
  have:=lW p k l;simp only [bD,aC];split<;>omega
theorem ud (n:Nat) (S:aa) (a:Nat) (h:a<=S.length):cH n S (a:Int)=some (S.drop a):=by
 simp [cH,ob,dY h]
theorem Dc (n:Nat) (s p:aa):jz n s p=some (s.take p.length==p):=by
 simp only [jz,gu,lC];by_cases h:p.length<=s.length
 ·simp [h,ob,dY h]
 ·have:(s.take p.length==p)=false:=by
   rw [aM];intro e;have:=ch List.length e;rw [da] at this;omega
  simp [h,ob,this]
theorem JV (n:Nat) (t S:aa) (a:Nat) (h:a<=S.length):fD n t S (a:Int)=some ((S.drop a).take t.length==t):=by
 simp [fD,ud n S a h,ob,Dc]
theorem m6 (n:Nat) (t S:aa) (a:Nat) (h:a<=S.length) (d:S.length<4611686018427387904):
  aB n t S (a:Int)=some (if (S.drop a).take t.length=t then (true,S,((a+t.length:Nat):Int)) else (false,S,(a:Int))):=by
 simp only [aB,JV n t S a h,ob];by_cases hp:(S.drop a).take t.length=t
 ·have c:t.length<=S.length - a:=by
   have:=ch List.length hp;simp at this;omega
  have b:IntKind.wrap .i64 ((a:Int)+((t.length:Nat):Int))=((a+t.length:Nat):Int):=by rw [wrap_i64 _ (by omega) (by omega)];omega
  simp [hp,b]
 ·simp only [Gg,kl,hp,aA]
theorem D9 (n:Nat) (S:aa) (i:Int):bE n S i=some i:=rfl
def peek (l:aa):Int×Bool:=match l with | c::_=>(((c.toNat:Nat):Int),true) | []=>(0,false)
theorem pg (n:Nat) (S:aa) (a:Nat) (h:a<=S.length):bi n S (a:Int)=some (peek (S.drop a)):=by
 simp only [bi,ud n S a h,ob];rcases aH a S.length with b | d
 ·obtain ⟨c,hc⟩:∃c,S[a]?=some c:=⟨S[a],be b⟩;rw [bU hc];simp [dL hc,peek]
 ·rw [jm d];simp [peek]
theorem vM (n:Nat) (a e:Int) (S:aa) (i:Int):aP n a e S i=some (a,if e=0 then 5 else e):=by
 simp only [aP,kl];by_cases h:e=0<;>simp [h]
theorem gO (n:Nat) (set:aa) (c:UInt8):dw n set ((c.toNat:Nat):Int)=some (Lib.indexByte set c):=by
 simp only [dw,db,ob,Yp]
theorem AU (n:Nat) (set S:aa) (a:Nat) (h:a<=S.length) (f:S.length<4611686018427387904):
  cu n set S (a:Int)=some (match S.drop a with | c::_=>if hasB set c then .inr (((c.toNat:Nat):Int),S,((a+1:Nat):Int)) else .inl ((a:Int),5,S,(a:Int)) | []=>.inl ((a:Int),5,S,(a:Int))):=by
 simp only [cu,pg n S a h,ob];rcases aH a S.length with b | d
 ·obtain ⟨c,hc⟩:∃c,S[a]?=some c:=⟨S[a],be b⟩;have e:IntKind.wrap .i64 ((a:Int)+1)=((a+1:Nat):Int):=by rw [wrap_i64 _ (by omega) (by omega)];omega
  rw [bU hc];simp only [peek,co,af,gO,pQ,D9,vM,ob,e];cases hasB set c<;>simp
 ·rw [jm d];simp [peek,D9,vM,ob]
theorem m7 (S:aa) (a k:Nat):List.drop a (List.take (a+k) S)=(S.drop a).take k:=by
 rw [wu];congr 1;omega
theorem Ba (n:Nat) (set:aa) (b most:Int) (S:aa) (a:Nat) (h:a<=S.length) (p:S.length<4611686018427387904) (q:S.length<n):
  ar (cX n) n (set,b,most,(a:Int),(peek (S.drop a)).1,(peek (S.drop a)).2,S,(a:Int)) =
   some (b,(a:Int),S,((a+bD (hasB set) most.toNat (S.drop a):Nat):Int)):=by
 have:=fJ (step:=cX n)
  (λx=>∃j:Nat,a+j<=S.length/\x=(set,b,most,(a:Int),(peek (S.drop (a+j))).1,(peek (S.drop (a+j))).2,S,((a+j:Nat):Int)))
  (λx=>S.length - x.2.2.2.2.2.2.2.toNat)
  (λx=>(b,(a:Int),S,((x.2.2.2.2.2.2.2.toNat+bD (hasB set) (most.toNat - (x.2.2.2.2.2.2.2.toNat - a)) (S.drop x.2.2.2.2.2.2.2.toNat):Nat):Int))) ?_ n
  (set,b,most,(a:Int),(peek (S.drop a)).1,(peek (S.drop a)).2,S,(a:Int)) ⟨0,by omega,by simp⟩ (by simp;omega)
 ·simpa using this
 rintro x ⟨j,o,rfl⟩;simp only [cf];have d:IntKind.wrap .i64 (((a+j:Nat):Int) - (a:Int))=(j:Int):=by rw [wrap_i64 _ (by omega) (by omega)];omega
 rcases aH (a+j) S.length with e | f
 ·obtain ⟨c,hc⟩:∃c,S[a+j]?=some c:=⟨S[a+j],be e⟩;have l:IntKind.wrap .i64 (((a+j:Nat):Int)+1)=((a+(j+1):Nat):Int):=by rw [wrap_i64 _ (by omega) (by omega)];omega
  simp only [cX,bU hc,peek,ah,d];by_cases g:(j:Int)<most
  ·obtain ⟨k,i⟩:∃k,most.toNat - (a+j - a)=k+1:=⟨most.toNat - j - 1,by omega⟩;simp only [g,oh,ah,gO,ob,pX,i,bD];cases m:hasB set c with
   | true=>
    simp only [l,pg n S (a+(j+1)) (by omega),ah];refine .inl ⟨_,rfl,⟨j+1,by omega,rfl⟩,?_,?_⟩
    ·simp only [cf];omega
    ·simp only [cf,bC,jI,aJ];have:most.toNat - (a+(j+1) - a)=k:=by omega
     rw [this,show a+(j+1)=a+j+1 by omega];omega
   | false=>exact .inr (by simp)
  ·refine .inr ?_;have:most.toNat - (a+j - a)=0:=by omega
   simp only [g,nD,af,this,bD,cN]
 ·refine .inr ?_;simp only [cX,jm f,peek,af];have:bD (hasB set) (most.toNat - (a+j - a)) []=0:=by cases most.toNat - (a+j - a)<;>rfl
  simp only [this,cN]
theorem vX (n:Nat) (set:aa) (b most:Int) (S:aa) (a:Nat) (h:a<=S.length) (f:S.length<4611686018427387904) (g:S.length<n):
  bY n set b most S (a:Int)=some (if ((bD (hasB set) most.toNat (S.drop a):Nat):Int)<b
   then .inl (((a+bD (hasB set) most.toNat (S.drop a):Nat):Int),5,S,((a+bD (hasB set) most.toNat (S.drop a):Nat):Int))
   else .inr ((S.drop a).take (bD (hasB set) most.toNat (S.drop a)),S,((a+bD (hasB set) most.toNat (S.drop a):Nat):Int))):=by
 have e:=lW (hasB set) most.toNat (S.drop a);rw [bR] at e;simp only [bY,D9,pg n S a h,ob];rw [Ba n set b most S a h f g];generalize bD (hasB set) most.toNat (S.drop a)=k at e ⊢;have c:IntKind.wrap .i64 (((a+k:Nat):Int) - (a:Int))=(k:Int):=by rw [wrap_i64 _ (by omega) (by omega)];omega
 simp only [c,vM];by_cases d:(k:Int)<b
 ·simp [d]
 ·simp only [d,nD,af,aA];rw [dY (by omega)];simp only;rw [dY (by omega)];simp only [m7]
theorem R9 (a b:Nat):(cond (decide (((a:Nat):Int)<((b:Nat):Int))) ((a:Nat):Int) ((b:Nat):Int))=((min a b:Nat):Int):=by
 by_cases h:a<b
 ·simp [h];omega
 ·simp [h];omega
def asc (l:aa):Prop:=∀c∈l,c.toNat<128
theorem JL (r:Int) (h:128<=r):∃p e,(Utf8.encode r).data.toList=p++[e]/\1<=p.length/\p.length<=3/\128<=e.toNat:=by
 unfold Utf8.encode;have hc:128<=(if Utf8.valid r then r.toNat else Utf8.runeError):=by
  split
  ·omega
  ·decide
 generalize (if Utf8.valid r then r.toNat else Utf8.runeError)=c at hc;have a:128<=(UInt8.ofNat (0x80+c%64)).toNat:=by
  simp only [EX];omega
 simp only;split
 ·omega
 ·split
  ·exact ⟨[_],_,rfl,by simp,by simp,a⟩
  ·split
   ·exact ⟨[_,_],_,rfl,by simp,by simp,a⟩
   ·exact ⟨[_,_,_],_,rfl,by simp,by simp,a⟩
theorem NR {l:aa} (h:asc l) {i:Nat} {c:UInt8} (hi:l[i]?=some c):c.toNat<128:=h c (fZ hi)
theorem DD (n:Nat) (set:aa) (h:asc set) (e:set.length<n):ar (dR n) n (set,0)=some (.inr ()):=by
 refine fJ (step:=dR n) (λx=>x.1=set) (λx=>set.length - x.2) (λx=>.inr ()) ?_ n _ rfl (by simp;omega);rintro ⟨s,i⟩ rfl;simp only [dR];by_cases hi:i<s.length
 ·have a:Nat.blt i s.length=true:=cZ hi;obtain ⟨c,hc⟩:∃c,s[i]?=some c:=⟨s[i],be hi⟩;have b:=NR h hc;have d:(((c.toNat:Nat):Int)==65533)=false:=by rw [aM];omega
  simp only [a,ah,BD hc b,d,af];exact .inl ⟨_,rfl,rfl,by simp only;omega,trivial⟩
 ·have a:Nat.blt i s.length=false:=by
   cases a:Nat.blt i s.length with
   | false=>rfl
   | true=>exact absurd (aI a) (by omega)
  simp only [a,af];exact .inr trivial
theorem yI {l:aa} {c:UInt8} (h:c∉l):Lib.indexByte l c<0:=by
 have a:=pQ l c;have d:hasB l c=false:=by
  unfold hasB;rw [sc];intro x hx b;simp only [bI] at b;exact h (b▸hx)
 rw [d] at a;simpa using a
theorem B9 (n:Nat) (set:aa) (h:asc set) (z:set.length<n) (hs:set.length<=100) (r:Int) (u:128<=r):ef n set r=some (-1):=by
 have x:decide ((0:Int)<=r)=true:=am (by omega);have l:decide (r<128)=false:=aq (by omega);simp only [ef,x,l,ah,af];by_cases b:r=65533
 ·have:(r==65533)=true:=bI.2 b;simp only [this,ah,DD n set h z,ob]
 ·have:(r==65533)=false:=aM.2 b;simp only [this,af];obtain ⟨v,q⟩:∃v,dW n r=some v:=by
   unfold dW;generalize decide ((0:Int)<=r)=o;generalize decide (r<55296)=d2;generalize decide ((57343:Int)<r)=w;generalize decide (r<=1114111)=d4;cases o<;>cases d2<;>cases w<;>cases d4<;>exact ⟨_,rfl⟩
  simp only [q,ob];cases v with
  | false=>rfl
  | true=>
   simp only [co,af];obtain ⟨p,e,hp,s,A,B⟩:=JL r u;simp only [hp];have t:IntKind.wrap .i64 (((p++[e]).length:Nat) - 1:Int)=(p.length:Int):=by
    rw [wrap_i64 _ (by simp<;>omega) (by simp<;>omega)];simp
   rw [t];obtain ⟨m,rfl⟩:∃m,n=m+1:=⟨n - 1,by omega⟩;have a:dU (m+1) (set,p++[e],(p.length:Int),(p.length:Int))=some (.inr (.inl (-1)))\/dU (m+1) (set,p++[e],(p.length:Int),(p.length:Int))=some (.inr (.inr ())):=by
    simp only [dU,iY];by_cases j:p.length<set.length
    ·obtain ⟨c,hc⟩:∃c,set[p.length]?=some c:=⟨set[p.length],be j⟩;have k:=NR h hc;have g:(p++[e])[p.length]?=some e:=by simp
     have i:(((c.toNat:Nat):Int) != ((e.toNat:Nat):Int))=true:=by simp only [bne,kW,aM];omega
     have f:IntKind.wrap .i64 ((p.length:Int)+1)=((p.length+1:Nat):Int):=by rw [wrap_i64 _ (by omega) (by omega)];omega
     have hx:e∉List.drop (p.length+1) (List.take set.length set):=by
      intro y;have:=h e (by simpa using List.mem_of_mem_drop y);omega
     left;simp only [j,oh,ah,dL hc,dL g,ob,i,f,dY (show p.length+1<=set.length by omega),gO,yI hx]
    ·right;simp only [j,nD,af]
   rcases a with d | d<;>simp only [ar,d,ob]
theorem yL (n:Nat) (set:aa) (c:UInt8) (r:Int) (e:r=((c.toNat:Nat):Int)) (hc:c.toNat<128):ef n set r=some (Lib.indexByte set c):=by
 have d:decide ((0:Int)<=r)=true:=am (by omega);have a:decide (r<128)=true:=am (by omega);have f:IntKind.wrap .u8 r=r:=ks _ (by omega) (by omega);have b:dw n set r=some (Lib.indexByte set c):=by rw [e];exact gO n set c
 simp only [ef,d,a,ah,f,b,ob]
theorem Af (n:Nat) (set:aa) (c:UInt8) (hc:c.toNat<128):ef n set ((c.toNat:Nat):Int)=some (Lib.indexByte set c):=yL n set c _ rfl hc
theorem vD (n:Nat) (set:aa) (c:UInt8) (hc:c.toNat<128):dT n set ((c.toNat:Nat):Int)=some (hasB set c):=by
 simp only [dT,Af n set c hc,ob,pX]
theorem xE (n:Nat) (set:aa) (h:asc set) (a:set.length<n) (hs:set.length<=100) (r:Int) (b:128<=r):dT n set r=some false:=by
 simp only [dT,B9 n set h a hs r b,ob];rfl
theorem Dl (w a:Nat):BitVec.ofInt w (a:Int)=BitVec.ofNat w a:=by
 apply BitVec.eq_of_toNat_eq;simp
theorem TG (k:Nat):(2:Int) ^ k=((2 ^ k:Nat):Int):=by simp
theorem OH (a k:Nat):Int.fdiv (a:Int) (2 ^ k)=((a / 2 ^ k:Nat):Int):=by
 rw [TG k,Int.fdiv_eq_ediv_of_nonneg _ (F8 _)];rfl
def inR (lo hi:Int) (c:UInt8):Bool:=decide (((c.toNat:Nat):Int)>=lo)&&decide (((c.toNat:Nat):Int)<=hi)
def cnt (lo hi:Int) (l:aa):Nat:=l.countP (inR lo hi)
theorem MZ (lo hi:Int) (l:aa):cnt lo hi l<=l.length:=List.countP_le_length
theorem O8 (lo hi:Int) {l:aa} {i:Nat} {c:UInt8} (h:l[i]?=some c):cnt lo hi (l.take (i+1))=cnt lo hi (l.take i)+if inR lo hi c then 1 else 0:=by
 unfold cnt;rw [qc,h,List.countP_append];simp [Kr]
theorem GU (n:Nat) (s:aa) (lo hi:Int) (hs:s.length<n) (l:s.length<100000):gq n s lo hi=some ((cnt lo hi s:Nat):Int):=by
 have:=fJ (step:=ia n) (λx=>∃i:Nat,i<=s.length/\x=(s,lo,hi,((cnt lo hi (s.take i):Nat):Int),(i:Int))) (λx=>s.length - x.2.2.2.2.toNat) (λ_=>((cnt lo hi s:Nat):Int)) ?_ n (s,lo,hi,0,0) ⟨0,by omega,by simp [cnt]⟩ (by simp;omega)
 ·simp only [gq,this,ob]
 rintro x ⟨i,j,rfl⟩;rcases aH i s.length with a | h
 ·obtain ⟨c,hc⟩:∃c,s[i]?=some c:=⟨s[i],be a⟩;have e:=O8 lo hi hc;have d:=MZ lo hi (s.take i);rw [da] at d;have k:IntKind.wrap .i64 ((i:Int)+1)=((i+1:Nat):Int):=by rw [wrap_i64 _ (by omega) (by omega)];omega
  have g:IntKind.wrap .i64 (((cnt lo hi (s.take i):Nat):Int)+1)=((cnt lo hi (s.take i)+1:Nat):Int):=by rw [wrap_i64 _ (by omega) (by omega)];omega
  refine .inl ⟨(s,lo,hi,((cnt lo hi (s.take (i+1)):Nat):Int),((i+1:Nat):Int)),?_,⟨i+1,a,rfl⟩,by simp only [cf];omega,rfl⟩;simp only [ia,iY,a,oh,ah,dL hc,ob,k,g];rw [e];by_cases b:((c.toNat:Nat):Int)>=lo
  ·by_cases f:((c.toNat:Nat):Int)<=hi
   ·simp [b,f,inR]
   ·simp [b,f,inR]
  ·simp [b,inR]
 ·have:i=s.length:=by omega
  subst this;refine .inr ?_;simp only [ia,iY,FR,nD,af,nQ]
theorem Ku (lo hi:Int) (l:aa):cnt lo hi l=l.length↔∀c∈l,inR lo hi c=true:=by
 unfold cnt;rw [List.countP_eq_length]
theorem P7 (lo hi:Int) (l:aa):cnt lo hi l=0↔∀c∈l,inR lo hi c=false:=by
 unfold cnt;rw [List.countP_eq_zero];simp
def bv (c:UInt8):Bool:=inR 48 57 c
theorem cv (c:UInt8):bv c=true↔48<=c.toNat/\c.toNat<=57:=by
 unfold bv inR;simp only [az,cj];omega
theorem Bv (c:UInt8):inR 88 88 c=true↔c=88:=by
 unfold inR;simp only [az,cj];constructor
 ·intro h;apply gv.1;show c.toNat=88;omega
 ·rintro rfl;decide
theorem Jo (c:UInt8):inR 48 48 c=true↔c=48:=by
 unfold inR;simp only [az,cj];constructor
 ·intro h;apply gv.1;show c.toNat=48;omega
 ·rintro rfl;decide
theorem KU:∀l:aa,cnt 48 57 l+cnt 88 88 l<=l.length/\(cnt 48 57 l+cnt 88 88 l=l.length↔∀c∈l,bv c=true\/c=88)
 | []=>by simp [cnt]
 | c::l=>by
  have ih:=KU l;have h:cnt 48 57 (c::l)=cnt 48 57 l+if inR 48 57 c then 1 else 0:=by simp [cnt,Kr]
  have f:cnt 88 88 (c::l)=cnt 88 88 l+if inR 88 88 c then 1 else 0:=by simp [cnt,Kr]
  have g:¬(inR 48 57 c=true/\inR 88 88 c=true):=by
   rintro ⟨a,b⟩;have:=(cv c).1 a;rw [(Bv c).1 b] at this;exact absurd this.2 (by decide)
  rw [h,f,aC];simp only [dr,EU];have hx:=Bv c;have d:bv c=inR 48 57 c:=rfl;rw [d];cases a:inR 48 57 c<;>cases b:inR 88 88 c
  ·simp only [a,b] at hx ⊢;have:c≠88:=λe=>by simpa using hx.2 e
   simp [this];omega
  ·simp only [a,b] at hx ⊢;have:c=88:=hx.1 trivial;simp only [this,br,aJ,aA,false_or,jI];rw [<-ih.2];omega
  ·simp only [a,b] at hx ⊢;simp only [br,aJ,aA,true_or,jI];rw [<-ih.2];omega
  ·exact absurd ⟨a,b⟩ g
theorem KJ (n:Nat) (s set:aa) (q:asc set) (u:set.length<n) (t:set.length<=100) (hs:s.length<n):
  ∃y,ar (cP n) n (true,set,s,0)=some y/\((y=.inr ()/\s.all (hasB set)=true)\/∃i:Nat,y=.inl (i:Int)/\s.all (hasB set)=false):=by
 refine rN (step:=cP n) (λx=>x.1=true/\x.2.1=set/\x.2.2.1=s/\s.all (hasB set)=(s.drop x.2.2.2).all (hasB set)) (λx=>s.length - x.2.2.2) _ ?_ n _ ⟨rfl,rfl,rfl,rfl⟩ (by simp only;omega);rintro ⟨b,st,s',p⟩ ⟨j,f,g,a⟩;simp only at j f g a;rw [j,f,g];clear j f g b st s';rcases aH p s.length with h | m
 ·obtain ⟨c,hc⟩:∃c,s[p]?=some c:=⟨s[p],be h⟩;have e:Nat.blt p s.length=true:=cZ h;rw [bU hc,mK] at a;rcases aH c.toNat 128 with d | d
  ·have o:=BD hc d;simp only [cP,e,ah,jY,o,vD n set c d,ob];cases k:hasB set c with
   | true=>
    rw [k,nI] at a;exact .inl ⟨_,rfl,⟨rfl,rfl,rfl,a⟩,by simp only;omega⟩
   | false=>
    rw [k,xF] at a;exact .inr ⟨_,rfl,.inr ⟨p,rfl,a⟩⟩
  ·have o:=HU hc d;have k:hasB set c=false:=by
    unfold hasB;rw [sc];intro x hx r;simp only [bI] at r;have:=q x hx;rw [r] at this;omega
   rw [k,xF] at a;have l:=xE n set q u t (((dec s p).1:Nat):Int) (by omega);simp only [cP,e,ah,jY,l,ob];exact .inr ⟨_,rfl,.inr ⟨p,rfl,a⟩⟩
 ·have e:Nat.blt p s.length=false:=by
   cases j:Nat.blt p s.length with
   | false=>rfl
   | true=>exact absurd (aI j) (by omega)
  simp only [cP,e,af];rw [jm m] at a;exact .inr ⟨_,rfl,.inl ⟨rfl,by rw [a];rfl⟩⟩
theorem Ni (n:Nat) (s set:aa) (d:asc set) (e:set.length<n) (c:set.length<=100) (hs:s.length<n):gA n s set=some (s.all (hasB set)):=by
 obtain ⟨y,b,f⟩:=KJ n s set d e c hs;simp only [gA,lK,lQ,b,ob];rcases f with ⟨rfl,a⟩ | ⟨i,rfl,a⟩
 ·rw [a];rfl
 ·rw [a];simp only [au,uK];omega
theorem Oi:asc [48,49,50,51,52,53,54,55,56,57]:=by unfold asc;decide
theorem JB:asc [88,48,49,50,51,52,53,54,55,56,57]:=by unfold asc;decide
theorem iS (p:UInt8->Bool) (h:∀i:Fin 256,p (UInt8.ofNat i.val)=true) (c:UInt8):p c=true:=by
 have:=h ⟨c.toNat,c.toNat_lt⟩;simpa using this
theorem yb (c:UInt8):hasB [48,49,50,51,52,53,54,55,56,57] c=bv c:=by
 have:=iS (λc=>hasB [48,49,50,51,52,53,54,55,56,57] c==bv c) (by decide +kernel) c;simpa using this
theorem uR (c:UInt8):hasB [88,48,49,50,51,52,53,54,55,56,57] c=(bv c||c==88):=by
 have:=iS (λc=>hasB [88,48,49,50,51,52,53,54,55,56,57] c==(bv c||c==88)) (by decide +kernel) c;simpa using this
theorem M7 (n:Nat) (s:aa) (a:100<n) (hs:s.length<n):gA n s [48,49,50,51,52,53,54,55,56,57]=some (s.all bv):=by
 rw [Ni n s _ Oi (by simp;omega) (by simp) hs];congr 2;funext c;exact yb c
theorem IP (n:Nat) (s:aa) (a:100<n) (hs:s.length<n):gA n s [88,48,49,50,51,52,53,54,55,56,57]=some (s.all λc=>bv c||c==88):=by
 rw [Ni n s _ JB (by simp;omega) (by simp) hs];congr 2;funext c;exact uR c
def all0 (s:aa):Bool:=s.all λc=>c==48
theorem Xz (n:Nat) (s:aa) (hs:s.length<n) (k:s.length<100000):∃y,gg n s 48=some y/\all0 s=all0 y/\y.length<=s.length:=by
 obtain ⟨y,g,a⟩:=rN (step:=dA n) (λx=>x.2=48/\all0 s=all0 x.1/\x.1.length<=s.length) (λx=>x.1.length) (λy=>all0 s=all0 y/\y.length<=s.length) (by
  rintro ⟨l,c⟩ ⟨rfl,h,b⟩;simp only at h b;by_cases m:l.length>0
  ·have d0:decide (((l.length:Nat):Int)>0)=true:=am (by omega);have j:IntKind.wrap .i64 (((l.length:Nat):Int) - 1)=((l.length - 1:Nat):Int):=by rw [wrap_i64 _ (by omega) (by omega)];omega
   obtain ⟨c,hc⟩:∃c,l[l.length - 1]?=some c:=⟨l[l.length - 1],be (by omega)⟩;simp only [dA,d0,ah,j,dL hc,ob];by_cases d:c=48
   ·have f:(((c.toNat:Nat):Int)==48)=true:=by rw [d];rfl
    simp only [f,ah,dY (show l.length - 1<=l.length by omega),cM];refine .inl ⟨(List.take (l.length - 1) l,48),rfl,⟨rfl,?_,by show (List.take (l.length - 1) l).length<=s.length;rw [da];omega⟩,by show (List.take (l.length - 1) l).length<l.length;rw [da];omega⟩;rw [h];have:l=l.take (l.length - 1)++[c]:=by
     have a:=qc (l:=l) (i:=l.length - 1);rw [hc,show l.length - 1+1=l.length by omega,nQ] at a;exact a
    rw [this];simp only [all0,CX,mK,List.all_nil,d];simp
   ·have f:(((c.toNat:Nat):Int)==48)=false:=by
     rw [aM];intro e;exact d (gv.1 (by show c.toNat=48;omega))
    simp only [f,af];exact .inr ⟨_,rfl,h,b⟩
  ·have d0:decide (((l.length:Nat):Int)>0)=false:=aq (by omega);simp only [dA,d0,af];exact .inr ⟨_,rfl,h,b⟩) n (s,48) ⟨rfl,rfl,aY _⟩ hs
 exact ⟨y,by simp only [gg,g,ob],a⟩
theorem XN (n:Nat) (s:aa) (hs:s.length<n) (m:s.length<100000):∃y,gM n s 48=some y/\all0 s=(y==[]):=by
 obtain ⟨y,g,k⟩:=rN (step:=fg n) (λx=>x.2=48/\all0 s=all0 x.1/\x.1.length<=s.length) (λx=>x.1.length) (λy=>all0 s=(y==[])) (by
  rintro ⟨l,c⟩ ⟨rfl,h,f⟩;simp only at h f;cases l with
  | nil=>exact .inr ⟨[],rfl,by rw [h];rfl⟩
  | cons c l=>
   have d0:decide ((((c::l).length:Nat):Int)>0)=true:=am (by simp only [aC];omega);have hc:sx (c::l) 0=some c:=by simp [sx]
   simp only [fg,d0,ah,hc,ob];by_cases a:c=48
   ·have d:(((c.toNat:Nat):Int)==48)=true:=by rw [a];rfl
    have b:bx (c::l).length 1=some 1:=dY (i:=1) (by simp);simp only [d,ah,b,nQ,oJ,cM];refine .inl ⟨_,rfl,⟨rfl,?_,by show l.length<=s.length;simp only [aC] at f;omega⟩,by simp⟩;rw [h];simp [all0,a]
   ·have d:(((c.toNat:Nat):Int)==48)=false:=by
     rw [aM];intro e;exact a (gv.1 (by show c.toNat=48;omega))
    simp only [d,af];refine .inr ⟨_,rfl,?_⟩;rw [h];have j:(c==48)=false:=aM.2 a;simp [all0,j]) n (s,48) ⟨rfl,rfl,aY _⟩ hs
 exact ⟨y,by simp only [gM,g,ob],k⟩
theorem To (n:Nat) (s:aa) (hs:s.length<n) (b:s.length<100000):∃y,oe n s=some y/\(y==[])=all0 s:=by
 unfold oe;by_cases h:s=[]
 ·subst h;exact ⟨[],rfl,rfl⟩
 ·have:(s==([]:aa))=false:=aM.2 h;obtain ⟨y,a,d,f⟩:=Xz n s hs b;obtain ⟨z,e,c⟩:=XN n y (by omega) (by omega);exact ⟨z,by simp only [this,af,a,e,ob],by rw [d,c]⟩
theorem Qp (s:aa):all0 s=true↔cnt 48 48 s=s.length:=by
 rw [Ku];unfold all0;rw [cL];constructor
 ·intro h c hc;have:=h c hc;rw [bI] at this;exact (Jo c).2 this
 ·intro h c hc;rw [bI];exact (Jo c).1 (h c hc)
def hasX (s:aa):Bool:=s.any λc=>c==88
theorem G8 (s:aa):hasX s=decide (0<cnt 88 88 s):=by
 have:=P7 88 88 s;unfold hasX;cases h:s.any λc=>c==88 with
 | true=>
  obtain ⟨c,hc,b⟩:=ui.1 h;rw [bI] at b;symm;rw [cj];rcases AK (cnt 88 88 s) with a | a
  ·have:=this.1 a c hc;rw [(Bv c).2 b] at this;cases this
  ·exact a
 | false=>
  symm;rw [uK];intro a;have:cnt 88 88 s=0:=this.2 λc hc=>by
   cases hx:inR 88 88 c with
   | false=>rfl
   | true=>
    rw [sc] at h;exact absurd (bI.2 ((Bv c).1 hx)) (h c hc)
  omega
theorem C3 (n:Nat) (s:aa):iN n s=some (hasX s):=by
 have e:UInt8.ofNat (Int.toNat 88)=(88:UInt8):=rfl;have hi:m9 n s=some (Lib.indexByte s 88):=by
  simp only [m9,js,db,ob,e];by_cases h:([88]:aa)=s
  ·subst h;rfl
  ·have:(([88]:aa)==s)=false:=aM.2 h;simp only [this,af]
 simp only [iN,hi,ob,pX];rfl
theorem tz (n:Nat) (g l:Bool) (d:aa) (x q:Int):dh n g l d x q=some (hasX d):=by
 simp only [dh,C3,ob]
theorem oH (n:Nat) (g l:Bool) (d:aa) (x q:Int) (hs:d.length<n) (a:d.length<100000):aE n g l d x q=some (if hasX d then 1 else 0):=by
 simp only [aE,GU n d 88 88 hs a,ob,G8,cj];by_cases h:0<cnt 88 88 d
 ·have:decide (((cnt 88 88 d:Nat):Int)<1)=false:=aq (by omega);simp [this,h]
 ·have:decide (((cnt 88 88 d:Nat):Int)<1)=true:=am (by omega);have b:cnt 88 88 d=0:=by omega
  simp [this,b]
def vv (a:Nat) (c:UInt8):Nat:=a*10+(c.toNat - 48)
def dval (a:Nat) (l:aa):Nat:=l.foldl vv a
theorem pw (a:Nat):dval a []=a:=by unfold dval;rw [Hj]
theorem oM (a:Nat) (c:UInt8) (l:aa):dval a (c::l)=dval (vv a c) l:=by
 unfold dval;rw [vf]
theorem Ib (l:aa) (a:Nat) (c:UInt8):dval a (l++[c])=dval a l*10+(c.toNat - 48):=by
 have:dval a (l++[c])=vv (dval a l) c:=by
  unfold dval;rw [GQ,vf,Hj]
 rw [this];rfl
theorem Q8 (M:Nat) (j:10000000000000000000<=M) (l:aa):∀(a k:Nat),(∀c∈l,bv c=true)->a<10 ^ k->l.length+k<=18->Lib.parseUintM M a l=.ok (dval a l)/\dval a l<10 ^ (l.length+k):=by
 induction l with
 | nil=>
  intro a k _ e _;rw [pw];refine ⟨rfl,?_⟩;simpa using e
 | cons c l ih=>
  intro a k h e i;have hc:=(cv c).1 (h c (by simp));simp only [aC] at i;have hp:(10:Nat) ^ (k+1)=10 ^ k*10:=s9 10 k;have g:(10:Nat) ^ (k+1)<=10 ^ 18:=oq (by decide) (by omega);have f:(10:Nat) ^ 18=1000000000000000000:=by decide
  have b:vv a c=a*10+(c.toNat - 48):=rfl;have ih:=ih (vv a c) (k+1) (λd b=>h d (by simp [b])) (by omega) (by omega);refine ⟨?_,?_⟩
  ·simp only [Lib.parseUintM];rw [ae hc,ab (by omega),ab (by omega),<-b,ih.1,oM]
  ·rw [oM,aC,show l.length+1+k=l.length+(k+1) by omega];exact ih.2
theorem Jd {l:aa} (h:∀c∈l,bv c=true) (b:l≠[]) (k:l.length<=18):xf l=some ((dval 0 l:Nat):Int)/\dval 0 l<10 ^ l.length:=by
 obtain ⟨f,d⟩:=Q8 (2 ^ 64 - 1) (by decide) l 0 0 h (by simp) (by omega);refine ⟨?_,by simpa using d⟩;have e:dval 0 l<10 ^ 18:=rh d (oq (by decide) (by omega));cases l with
 | nil=>exact absurd rfl b
 | cons c r=>
  have hc:=(cv c).1 (h c (by simp));have g:Lib.parseUintB 64 (c::r)=.ok (dval 0 (c::r)):=by
   unfold Lib.parseUintB;rw [ab b,f]
  have hs:¬(c.toNat=43\/c.toNat=45):=by omega
  simp only [xf,Lib.parseIntB,hs,aA,g];have i:(10:Nat) ^ 18=1000000000000000000:=by decide
  have a:(2:Nat) ^ (64 - 1)=9223372036854775808:=by decide
  have j:¬c.toNat=45:=by omega
  simp only [j,FC,jI,wQ,aA];rw [a,ab (by omega)]
theorem PL (n k:Nat) (h:k<=18) (j:18<n):oZ n (k:Int)=some (((10 ^ k:Nat):Int),0):=by
 have d:(10:Nat) ^ 18=1000000000000000000:=by decide
 have:=fJ (step:=kK n) (λx=>∃i:Nat,i<=k/\x=(((10 ^ i:Nat):Int),(k:Int),(i:Int))) (λx=>k - x.2.2.toNat) (λ_=>((10 ^ k:Nat):Int)) (by
  rintro x ⟨i,hi,rfl⟩;rcases aH i k with a | f
  ·have e:(10:Nat) ^ (i+1)<=10 ^ 18:=oq (by decide) (by omega);have hp:(10:Nat) ^ (i+1)=10 ^ i*10:=s9 10 i;have g:IntKind.wrap .i64 (((10 ^ i:Nat):Int)*10)=((10 ^ (i+1):Nat):Int):=by rw [wrap_i64 _ (by omega) (by omega)];omega
   have c:IntKind.wrap .i64 ((i:Int)+1)=((i+1:Nat):Int):=by rw [wrap_i64 _ (by omega) (by omega)];omega
   refine .inl ⟨_,?_,⟨i+1,a,rfl⟩,by simp only [cf];omega,rfl⟩;simp only [kK,iY,a,oh,ah,g,c]
  ·have:i=k:=by omega
   subst this;refine .inr ?_;simp only [kK,iY,FR,nD,af]) n (1,(k:Int),0) ⟨0,by omega,rfl⟩ (by simp;omega)
 have b:decide ((k:Int)<0)=false:=aq (by omega);have d2:decide ((k:Int)>18)=false:=aq (by omega);simp only [oZ,b,d2,af,this,ob]
theorem li (x:Int) (b:0<=x) (a:x<18446744073709551616):IntKind.wrap .u64 x=x:=by
 show x%18446744073709551616=x;omega
theorem Ez (x:Int):IntKind.wrap .u64 x=x%18446744073709551616:=rfl
theorem Jv {a:Nat} (b:a<18446744073709551616):bits .and .u64 (a:Int) 4294967295=((a%4294967296:Nat):Int):=by
 show IntKind.wrap .u64 ((BitVec.ofInt 64 (a:Int) &&& BitVec.ofInt 64 ((4294967295:Nat):Int)).toNat:Int)=_;rw [Dl,Dl,BitVec.toNat_and,BitVec.toNat_ofNat,BitVec.toNat_ofNat,rj (show a<2 ^ 64 from b),rj (by decide)];have:=Nat.and_two_pow_sub_one_eq_mod a 32;rw [show (2:Nat) ^ 32 - 1=4294967295 from by decide,show (2:Nat) ^ 32=4294967296 from by decide] at this;rw [this];exact li _ (by omega) (by omega)
theorem Oz (a:Nat):Int.fdiv (a:Int) (2 ^ 32)=((a / 4294967296:Nat):Int):=by
 rw [OH]
theorem HZ {a b A B:Nat} (c:a<=A) (d:b<=B):a*b<=A*B:=Ei c d
theorem NV (a b:Nat):a*b=(a / 4294967296)*(b / 4294967296)*18446744073709551616+((a / 4294967296)*(b%4294967296)+(a%4294967296)*(b / 4294967296))*4294967296+(a%4294967296)*(b%4294967296):=by
 have f:a=(a / 4294967296)*4294967296+a%4294967296:=by omega
 have e:b=(b / 4294967296)*4294967296+b%4294967296:=by omega
 generalize a / 4294967296=d at f ⊢;generalize a%4294967296=h at f ⊢;generalize b / 4294967296=c at e ⊢;generalize b%4294967296=g at e ⊢;subst f e;rw [gU,Nat.mul_add,Nat.mul_add];have j:d*4294967296*(c*4294967296)=d*c*18446744073709551616:=by
  rw [Nat.mul_mul_mul_comm]
 have k:d*4294967296*g=d*g*4294967296:=by rw [Nat.mul_right_comm]
 have i:h*(c*4294967296)=h*c*4294967296:=by rw [Ft]
 rw [j,k,i,gU];omega
theorem XV (n a b:Nat) (w:a<18446744073709551616) (p:b<18446744073709551616):k7 n (a:Int) (b:Int)=some (((a*b / 18446744073709551616:Nat):Int),((a*b%18446744073709551616:Nat):Int)):=by
 have s:=NV a b;have g:a / 4294967296<=4294967295:=by omega
 have i:a%4294967296<=4294967295:=by omega
 have j:b / 4294967296<=4294967295:=by omega
 have h:b%4294967296<=4294967295:=by omega
 have o:=HZ i h;have x:=HZ i j;have l:=HZ g h;have y:=HZ g j;have k:IntKind.wrap .u64 ((a:Int)*(b:Int))=((a*b%18446744073709551616:Nat):Int):=by
  rw [Ez,<-Gm];omega
 simp only [k7,Oz,Jv w,Jv p,k];simp only [<-Gm];generalize (a / 4294967296)*(b / 4294967296)=e at *;generalize (a / 4294967296)*(b%4294967296)=d at *;generalize (a%4294967296)*(b / 4294967296)=f at *;generalize (a%4294967296)*(b%4294967296)=c at *;generalize a*b=N at *;have t:IntKind.wrap .u64 ((c:Nat):Int)=((c:Nat):Int):=li _ (by omega) (by omega);have v:IntKind.wrap .u64 ((d:Nat):Int)=((d:Nat):Int):=li _ (by omega) (by omega);have u:IntKind.wrap .u64 ((f:Nat):Int)=((f:Nat):Int):=li _ (by omega) (by omega);have z:IntKind.wrap .u64 ((e:Nat):Int)=((e:Nat):Int):=li _ (by omega) (by omega);rw [t,v,u,z,Oz c];have m:IntKind.wrap .u64 (((d:Nat):Int)+((c / 4294967296:Nat):Int))=((d+c / 4294967296:Nat):Int):=by rw [li _ (by omega) (by omega)];omega
 rw [m,Oz,Jv (by omega)];have r:IntKind.wrap .u64 (((e:Nat):Int)+(((d+c / 4294967296) / 4294967296:Nat):Int))=((e+(d+c / 4294967296) / 4294967296:Nat):Int):=by rw [li _ (by omega) (by omega)];omega
 have q:IntKind.wrap .u64 ((((d+c / 4294967296)%4294967296:Nat):Int)+((f:Nat):Int))=(((d+c / 4294967296)%4294967296+f:Nat):Int):=by rw [li _ (by omega) (by omega)];omega
 rw [r,q,Oz];have w8:IntKind.wrap .u64 (((e+(d+c / 4294967296) / 4294967296:Nat):Int)+((((d+c / 4294967296)%4294967296+f) / 4294967296:Nat):Int))=((N / 18446744073709551616:Nat):Int):=by
  rw [li _ (by omega) (by omega)];omega
 rw [w8]
theorem U9 (n a b:Nat) (k:a<9223372036854775808) (j:b<9223372036854775808):vP n (a:Int) (b:Int)=some (if a*b<9223372036854775808 then (((a*b:Nat):Int),0) else (0,15)):=by
 have f:decide ((a:Int)<0)=false:=aq (by omega);have d2:decide ((b:Int)<0)=false:=aq (by omega);have i:IntKind.wrap .u64 (a:Int)=a:=li _ (by omega) (by omega);have g:IntKind.wrap .u64 (b:Int)=b:=li _ (by omega) (by omega);simp only [vP,uh,f,d2,af,i,g,ob,XV n a b (by omega) (by omega)];generalize a*b=N;by_cases h:18446744073709551616<=N
 ·have c:decide (((N / 18446744073709551616:Nat):Int)>0)=true:=am (by omega);rw [c,ab (by omega)];rfl
 ·have c:decide (((N / 18446744073709551616:Nat):Int)>0)=false:=aq (by omega);have e:N%18446744073709551616=N:=rj (by omega);rw [c,e];simp only [af,vb,co,sE,ij,ah];by_cases d:N<9223372036854775808
  ·have d4:decide (((N:Nat):Int)<=9223372036854775807)=true:=am (by omega);rw [d4,ae d,ah,wrap_i64 _ (by omega) (by omega)]
  ·have d4:decide (((N:Nat):Int)<=9223372036854775807)=false:=aq (by omega);rw [d4,ab d,af]
def E16:Nat:=10000000000000000
theorem SA {x:Nat} (hx:17<=x):E16<10 ^ x:=by
 have:(10:Nat) ^ 17<=10 ^ x:=oq (by decide) hx;have a:(10:Nat) ^ 17=100000000000000000:=by decide
 unfold E16;omega
theorem MY (n:Nat) (g l:Bool) (d:aa) (x:Nat) (s:Int) (k:∀c∈d,bv c=true) (i:d≠[]) (j:d.length<=17) (hx:x<=18) (o:18<n):
  ed n g l d (x:Int) s=some (if dval 0 d*10 ^ x<=E16 then (((dval 0 d*10 ^ x:Nat):Int),0) else (0,6)):=by
 obtain ⟨e,q⟩:=Jd k i (by omega);have r:dval 0 d<10 ^ 17:=rh q (oq (by decide) j);have hp:(10:Nat) ^ x<=10 ^ 18:=oq (by decide) hx;have p:(10:Nat) ^ 17=100000000000000000:=by decide
 have m:(10:Nat) ^ 18=1000000000000000000:=by decide
 have f:Nat.ble d.length 9223372036854775806=true:=cZ (by omega);simp only [ed,f,ah,e,ob,PL n x hx o,dJ,af,U9 n _ _ (show dval 0 d<9223372036854775808 by omega) (show 10 ^ x<9223372036854775808 by omega)];generalize dval 0 d*10 ^ x=N;unfold E16;by_cases h:N<9223372036854775808
 ·rw [ae h];simp only [dJ,af];by_cases b:N<=10000000000000000
  ·have a:decide (((N:Nat):Int)>10000000000000000)=false:=aq (by omega);rw [a,ae b,af]
  ·have a:decide (((N:Nat):Int)>10000000000000000)=true:=am (by omega);rw [a,ab b,ah]
 ·rw [ab h,ab (by omega)];rfl
def pre (d:aa) (i:Nat):Nat:=dval 0 (d.take i)*10 ^ (i - d.length)
theorem QD {d:aa} {i:Nat} {c:UInt8} (h:d[i]?=some c):pre d (i+1)=10*pre d i+(c.toNat - 48):=by
 have a:=tt h;unfold pre;rw [qc,h,show i+1 - d.length=0 by omega,show i - d.length=0 by omega];simp only [Option.toList,Ib,AE,qD];omega
theorem QH {d:aa} {i:Nat} (h:d.length<=i):pre d (i+1)=10*pre d i:=by
 unfold pre;rw [i7 (show d.length<=i+1 by omega),i7 h,show i+1 - d.length=(i - d.length)+1 by omega,s9];rw [<-Ft];omega
theorem GP (d:aa):∀k i,pre d i<=pre d (i+k)
 | 0,i=>aY _
 | k+1,i=>by
  have ih:=GP d k i;rcases aH (i+k) d.length with a | b
  ·have:=QD (be a);rw [show i+(k+1)=i+k+1 by omega,this];omega
  ·have:=QH b;rw [show i+(k+1)=i+k+1 by omega,this];omega
theorem jy (n:Nat) (d:aa) (x:Nat) (r:∀c∈d,bv c=true) (v:d.length<=100) (hx:x<=100) (w:d.length+x<n):
  ak n d (x:Int)=some (if dval 0 d*10 ^ x<=E16 then (((dval 0 d*10 ^ x:Nat):Int),1) else (0,0)):=by
 have a:pre d (d.length+x)=dval 0 d*10 ^ x:=by
  unfold pre;rw [i7 (by omega),show d.length+x - d.length=x by omega]
 have w0:IntKind.wrap .i64 (((d.length:Nat):Int)+(x:Int))=((d.length+x:Nat):Int):=by rw [wrap_i64 _ (by omega) (by omega)];omega
 have:=fJ (step:=fh n) (λq=>∃i:Nat,i<=d.length+x/\pre d i<=E16/\q=(d,(x:Int),((pre d i:Nat):Int),(i:Int))) (λq=>d.length+x - q.2.2.2.toNat) (λ_=>if dval 0 d*10 ^ x<=E16 then .inr ((dval 0 d*10 ^ x:Nat):Int) else .inl (0,0)) (by
  rintro q ⟨i,hi,hp,rfl⟩;simp only [fh,w0,iY];unfold E16 at hp ⊢;have u:IntKind.wrap .i64 ((i:Int)+1)=((i+1:Nat):Int):=by rw [wrap_i64 _ (by omega) (by omega)];omega
  have o:IntKind.wrap .i64 (10*((pre d i:Nat):Int))=((10*pre d i:Nat):Int):=by rw [wrap_i64 _ (by omega) (by omega)];omega
  by_cases f:i<d.length+x
  ·have s:=GP d (d.length+x - (i+1)) (i+1);rw [show i+1+(d.length+x - (i+1))=d.length+x by omega,a] at s;simp only [f,oh,ah,u,o];rcases aH i d.length with e | j
   ·obtain ⟨c,hc⟩:∃c,d[i]?=some c:=⟨d[i],be e⟩;have l:=(cv c).1 (r c (fZ hc));have hs:=QD hc;have m:IntKind.wrap .u8 (((c.toNat:Nat):Int) - 48)=((c.toNat - 48:Nat):Int):=by rw [ks _ (by omega) (by omega)];omega
    have t:IntKind.wrap .i64 ((c.toNat - 48:Nat):Int)=((c.toNat - 48:Nat):Int):=wrap_i64 _ (by omega) (by omega);have p:IntKind.wrap .i64 (((10*pre d i:Nat):Int)+((c.toNat - 48:Nat):Int))=((pre d (i+1):Nat):Int):=by rw [wrap_i64 _ (by omega) (by omega)];omega
    simp only [e,oh,ah,dL hc,ob,m,t,p];by_cases k:pre d (i+1)<=10000000000000000
    ·have b:decide (((pre d (i+1):Nat):Int)>10000000000000000)=false:=aq (by omega);simp only [b,af];exact .inl ⟨_,rfl,⟨i+1,f,k,rfl⟩,by simp only [cf];omega,trivial⟩
    ·have b:decide (((pre d (i+1):Nat):Int)>10000000000000000)=true:=am (by omega);simp only [b,ah];rw [ab (by omega)];exact .inr rfl
   ·have hs:=QH j;have g:¬i<d.length:=by omega
    simp only [g,nD,af];rw [<-hs];by_cases k:pre d (i+1)<=10000000000000000
    ·have b:decide (((pre d (i+1):Nat):Int)>10000000000000000)=false:=aq (by omega);simp only [b,af];exact .inl ⟨_,rfl,⟨i+1,f,k,rfl⟩,by simp only [cf];omega,trivial⟩
    ·have b:decide (((pre d (i+1):Nat):Int)>10000000000000000)=true:=am (by omega);simp only [b,ah];rw [ab (by omega)];exact .inr rfl
  ·have:i=d.length+x:=by omega
   subst this;simp only [FR,nD,af];rw [a] at hp ⊢;rw [ae hp];exact .inr rfl) n (d,(x:Int),0,0) ⟨0,by omega,by unfold pre E16;simp [pw],by unfold pre;simp [pw]⟩ (by simp;omega)
 simp only [ak,this,ob];by_cases h:dval 0 d*10 ^ x<=E16
 ·rw [ae h,ae h]
 ·rw [ab h,ab h]
def okM (d:aa) (x:Int):Prop:=(∀c∈d,bv c=true)/\1<=d.length/\d.length<=17/\d.head?≠some 48/\0<=x/\x<=16/\¬(x=0/\d.length<5)/\dval 0 d*10 ^ x.toNat<=E16
def okL (d:aa) (x s:Int):Prop:=okM d x/\0<=s/\s<=(d.length:Int)+x
def okS (g:Bool) (d:aa) (x s:Int):Prop:=d.length=4/\(∀c∈d,bv c=true\/c=88)/\x=0/\¬(g=true/\all0 d=true)/\0<=s/\s<=4/\¬(0<s/\hasX d=true)
def okY (g l:Bool) (d:aa) (x s:Int):Prop:=if l=true then okL d x s else okS g d x s
instance (d:aa) (x:Int):Decidable (okM d x):=by unfold okM;infer_instance
instance (d:aa) (x s:Int):Decidable (okL d x s):=by unfold okL;infer_instance
instance (g:Bool) (d:aa) (x s:Int):Decidable (okS g d x s):=by unfold okS;infer_instance
instance (g l:Bool) (d:aa) (x s:Int):Decidable (okY g l d x s):=by unfold okY;infer_instance
theorem KQ (d:aa):d.all bv=true↔∀c∈d,bv c=true:=cL
theorem Gf (d:aa):(d.all λc=>bv c||c==88)=true↔∀c∈d,bv c=true\/c=88:=by
 rw [cL];constructor
 ·intro h c hc;have:=h c hc;simpa using this
 ·intro h c hc;have:=h c hc;simpa using this
theorem Ub (c:UInt8):(((c.toNat:Nat):Int)==48)=(c==48):=nE c 48
theorem SQ (n:Nat) (g l:Bool) (d:aa) (x s:Int) (A:200<n) (z:d.length<=100):aW n g l d x s=some (decide (okM d x)):=by
 unfold aW;by_cases y:d.length<1
 ·have e:decide (((d.length:Nat):Int)<1)=true:=am (by omega);rw [e,aq (λh:okM d x=>by have:=h.2.1;omega)];rfl
 ·have e:decide (((d.length:Nat):Int)<1)=false:=aq (by omega);rw [e,af];by_cases B:d.length>17
  ·have e:decide (((d.length:Nat):Int)>17)=true:=am (by omega);rw [e,aq (λh:okM d x=>by have:=h.2.2.1;omega)];rfl
  ·have e:decide (((d.length:Nat):Int)>17)=false:=aq (by omega);rw [e,af,M7 n d (by omega) (by omega)];simp only [ob];cases o:d.all bv with
   | false=>
    rw [aq (λh:okM d x=>by rw [(KQ d).2 h.1] at o;cases o)];rfl
   | true=>
    have a:=(KQ d).1 o;obtain ⟨c,r,rfl⟩:∃c r,d=c::r:=by
     cases d with
     | nil=>simp at y
     | cons c r=>exact ⟨c,r,rfl⟩
    have t:sx (c::r) 0=some c:=by simp [sx]
    simp only [co,af,t,Ub];by_cases m:c=48
    ·rw [aq (λh:okM (c::r) x=>h.2.2.2.1 (by rw [m];rfl)),m];rfl
    ·have e:(c==48)=false:=aM.2 m;rw [e,af];by_cases v:x<0
     ·rw [am v,aq (λh:okM (c::r) x=>by have:=h.2.2.2.2.1;omega)];rfl
     ·rw [aq v,af];by_cases u:x>16
      ·rw [am u,aq (λh:okM (c::r) x=>by have:=h.2.2.2.2.2.1;omega)];rfl
      ·rw [aq u,af];obtain ⟨k,rfl⟩:∃k:Nat,x=(k:Int):=⟨x.toNat,by omega⟩;have p:=MY n g l (c::r) k s a (by simp) (by omega) (by omega) (by omega);rw [p];have key:¬((k:Int)=0/\(c::r).length<5)->(okM (c::r) (k:Int)↔dval 0 (c::r)*10 ^ k<=E16):=by
        intro j;constructor
        ·intro h;simpa using h.2.2.2.2.2.2.2
        ·intro h;exact ⟨a,by omega,by omega,by simpa using m,by omega,by omega,j,by simpa using h⟩
       have b:¬((k:Int)=0/\(c::r).length<5)->(ob (some (if dval 0 (c::r)*10 ^ k<=E16 then (((dval 0 (c::r)*10 ^ k:Nat):Int),(0:Int)) else (0,6))) λq=>(some (q.2==0)))=some (decide (okM (c::r) (k:Int))):=by
        intro j;by_cases i:dval 0 (c::r)*10 ^ k<=E16
        ·rw [ae i,am ((key j).2 i)];rfl
        ·rw [ab i,aq (λh=>i ((key j).1 h))];rfl
       by_cases f:(k:Int)=0
       ·have e:((k:Int)==0)=true:=bI.2 f;rw [e,ah];by_cases w:(c::r).length<5
        ·have e:decide ((((c::r).length:Nat):Int)<5)=true:=am (by omega);rw [e,aq (λh:okM (c::r) (k:Int)=>h.2.2.2.2.2.2.1 ⟨f,w⟩)];rfl
        ·have e:decide ((((c::r).length:Nat):Int)<5)=false:=aq (by omega);rw [e,af];exact b (λh=>w h.2)
       ·have e:((k:Int)==0)=false:=aM.2 f;rw [e,af];exact b (λh=>f h.1)
theorem N3 (n:Nat) (g l:Bool) (d:aa) (x s:Int) (e:200<n) (c:d.length<=100):
  (ob (aW n g l d x s) λr=>(cond (!r) (some (6:Int)) (cond (decide (s<0)) (some 6) (cond (decide (s>(IntKind.wrap .i64 (((d.length:Nat):Int)+x)))) (some 6) (some 0)))))=some (if okL d x s then 0 else 6):=by
 rw [SQ n g l d x s e c];simp only [ob];by_cases h:okM d x
 ·rw [am h];have hx:=h.2.2.2.2;have w:IntKind.wrap .i64 (((d.length:Nat):Int)+x)=((d.length:Nat):Int)+x:=wrap_i64 _ (by omega) (by omega);rw [w];simp only [co,af,bz];by_cases a:s<0
  ·rw [ae a,ab (λq:okL d x s=>by have:=q.2.1;omega)]
  ·rw [ab a];by_cases b:s>((d.length:Nat):Int)+x
   ·rw [ae b,ab (λq:okL d x s=>by have:=q.2.2;omega)]
   ·rw [ab b,ae ⟨h,by omega,by omega⟩]
 ·rw [aq h,ab (λq:okL d x s=>h q.1)];rfl
theorem AS (n:Nat) (g l:Bool) (d:aa) (x s:Int) (A:200<n) (z:d.length<=100):cG n g l d x s=some (if okY g l d x s then 0 else 6):=by
 obtain ⟨y,v,hy⟩:=To n d (by omega) (by omega);unfold cG;rw [IP n d (by omega) (by omega),v,tz];cases l with
 | true=>
  have b:(if okY g true d x s then (0:Int) else 6)=if okL d x s then 0 else 6:=by simp only [okY,aJ]
  rw [b];have st:=N3 n g true d x s A z;simp only [ah];generalize (ob (aW n g true d x s) λr=>(cond (!r) (some (6:Int)) (cond (decide (s<0)) (some 6) (cond (decide (s>(IntKind.wrap .i64 (((d.length:Nat):Int)+x)))) (some 6) (some 0)))))=T at st ⊢;simp only [ob];rw [st];cases (((d.length:Nat):Int)==4)<;>cases (d.all λc=>bv c||c==88)<;>cases (x==0)<;>cases g<;>cases (y==[])<;>cases (s != 0)<;>rfl
 | false=>
  have b:(if okY g false d x s then (0:Int) else 6)=if okS g d x s then 0 else 6:=by simp only [okY,br,aA]
  rw [b];simp only [af,ob];by_cases f:d.length=4
  ·have k:(((d.length:Nat):Int)==4)=true:=bI.2 (by omega);rw [k,ah];cases m:(d.all λc=>bv c||c==88) with
   | false=>
    rw [ab (λq:okS g d x s=>by rw [(Gf d).2 q.2.1] at m;cases m)];rfl
   | true=>
    have e:=(Gf d).1 m;rw [ah];by_cases h:x=0
    ·subst h;have w:IntKind.wrap .i64 (((d.length:Nat):Int)+0)=4:=by rw [f];decide
     rw [w];have a:¬(g=true/\all0 d=true)->(cond (s != 0) (cond (!(!hasX d)) (some (6:Int)) (cond (decide (s<0)) (some 6) (cond (decide (s>4)) (some 6) (some 0)))) (cond (decide (s<0)) (some 6) (cond (decide (s>4)) (some 6) (some 0))))=some (if okS g d 0 s then 0 else 6):=by
      intro t;simp only [bz,vY,Bool.not_not];by_cases s0:s=0
      ·subst s0;rw [ae rfl,ab (by omega),ab (by omega),ae ⟨f,e,rfl,t,by omega,by omega,by omega⟩]
      ·rw [ab s0];cases p:hasX d with
       | true=>
        by_cases i:s<0
        ·rw [ab (λq:okS g d 0 s=>by have:=q.2.2.2.2.1;omega)];rfl
        ·rw [ab (λq:okS g d 0 s=>q.2.2.2.2.2.2 ⟨by omega,p⟩)];rfl
       | false=>
        rw [af];by_cases i:s<0
        ·rw [ae i,ab (λq:okS g d 0 s=>by have:=q.2.2.2.2.1;omega)]
        ·rw [ab i];by_cases o:s>4
         ·rw [ae o,ab (λq:okS g d 0 s=>by have:=q.2.2.2.2.2.1;omega)]
         ·rw [ab o,ae ⟨f,e,rfl,t,by omega,by omega,λq=>by rw [p] at q;cases q.2⟩]
     have j:((0:Int)==0)=true:=rfl;rw [j,ah];cases g with
     | false=>
      simp only [af];exact a (by simp)
     | true=>
      simp only [ah];rw [hy];cases u:all0 d with
      | true=>rw [ab (λq:okS true d 0 s=>q.2.2.2.1 ⟨rfl,u⟩)];rfl
      | false=>
       simp only [ij,ah];exact a (by rw [u];simp)
    ·have j:(x==0)=false:=aM.2 h;rw [j,ab (λq:okS g d x s=>h q.2.2.1)];rfl
  ·have k:(((d.length:Nat):Int)==4)=false:=aM.2 (by omega);rw [k,ab (λq:okS g d x s=>f q.1)];rfl
theorem TM (d:aa):cnt 48 57 d=d.length↔∀c∈d,bv c=true:=Ku 48 57 d
theorem Kv (n:Nat) (g l:Bool) (d:aa) (x s:Int) (N:200<n) (J:d.length<=100):jZ n g l d x s=some (if okY g l d x s then 1 else 0):=by
 have hs:=KU d;have t:=G8 d;have w:=Qp d;have p:=TM d;unfold jZ;rw [GU n d 48 57 (by omega) (by omega),GU n d 88 88 (by omega) (by omega),GU n d 48 48 (by omega) (by omega)];simp only [ob];generalize M:cnt 48 57 d=A at *;generalize L:cnt 88 88 d=B at *;have w0:IntKind.wrap .i64 (((A:Nat):Int)+((B:Nat):Int))=((A+B:Nat):Int):=by rw [wrap_i64 _ (by omega) (by omega)];omega
 rw [w0];simp only [vY,bz,Gg];by_cases y:A+B=d.length
 ·rw [ae (by omega)];have v:=hs.2.1 y;by_cases E:s<0
  ·rw [ae E,ab];intro q;unfold okY at q;split at q
   ·have:=q.2.1;omega
   ·have:=q.2.2.2.2.1;omega
  ·rw [ab E];cases l with
   | false=>
    have i:(if okY g false d x s then (1:Int) else 0)=if okS g d x s then 1 else 0:=by simp only [okY,br,aA]
    rw [i,af];by_cases j:d.length=4
    ·rw [ae (by omega)];by_cases f:x=0
     ·rw [ae f];have a:¬(g=true/\all0 d=true)->(if s>4 then some (0:Int) else if s>0 then (if ((B:Nat):Int)>0 then some 0 else some 1) else some 1)=some (if okS g d x s then 1 else 0):=by
       intro H;by_cases m:s>4
       ·rw [ae m,ab (λq:okS g d x s=>by have:=q.2.2.2.2.2.1;omega)]
       ·rw [ab m];by_cases G:s>0
        ·rw [ae G];by_cases u:((B:Nat):Int)>0
         ·rw [ae u,ab (λq:okS g d x s=>q.2.2.2.2.2.2 ⟨by omega,by rw [t];exact am (by omega)⟩)]
         ·rw [ab u,ae ⟨j,v,f,H,by omega,by omega,λq=>by
           have:=q.2;rw [t,cj] at this;omega⟩]
        ·rw [ab G,ae ⟨j,v,f,H,by omega,by omega,λq=>by omega⟩]
      cases g with
      | false=>rw [af];exact a (by simp)
      | true=>
       rw [ah,kl];by_cases b:all0 d=true
       ·rw [ae (by have:=w.1 b;omega),ab (λq:okS true d x s=>q.2.2.2.1 ⟨rfl,b⟩)]
       ·rw [ab (λq=>b (w.2 (by omega)))];exact a (λq=>b q.2)
     ·rw [ab f,ab (λq:okS g d x s=>f q.2.2.1)]
    ·rw [ab (by omega),ab (λq:okS g d x s=>j q.1)]
   | true=>
    have i:(if okY g true d x s then (1:Int) else 0)=if okL d x s then 1 else 0:=by simp only [okY,aJ]
    rw [i,ah];by_cases u:((B:Nat):Int)>0
    ·rw [ae u,ab];intro q;have:=p.2 q.1.1;omega
    ·rw [ab u];have h:=p.1 (by omega);by_cases j:((A:Nat):Int)<1
     ·rw [ae j,ab (λq:okL d x s=>by have:=q.1.2.1;omega)]
     ·rw [ab j];by_cases f:((A:Nat):Int)>17
      ·rw [ae f,ab (λq:okL d x s=>by have:=q.1.2.2.1;omega)]
      ·rw [ab f];obtain ⟨c,r,rfl⟩:∃c r,d=c::r:=by
        cases d with
        | nil=>simp at y;omega
        | cons c r=>exact ⟨c,r,rfl⟩
       have z:sx (c::r) 0=some c:=by simp [sx]
       simp only [z,Ub,kl];by_cases b:c=48
       ·rw [ae b,ab (λq:okL (c::r) x s=>q.1.2.2.2.1 (by rw [b];rfl))]
       ·rw [ab b];by_cases F:x<0
        ·rw [ae F,ab (λq:okL (c::r) x s=>by have:=q.1.2.2.2.2.1;omega)]
        ·rw [ab F];by_cases C:x>16
         ·rw [ae C,ab (λq:okL (c::r) x s=>by have:=q.1.2.2.2.2.2.1;omega)]
         ·rw [ab C];obtain ⟨k,rfl⟩:∃k:Nat,x=(k:Int):=⟨x.toNat,by omega⟩;have K:IntKind.wrap .i64 (((A:Nat):Int)+(k:Int))=((A+k:Nat):Int):=by rw [wrap_i64 _ (by omega) (by omega)];omega
          rw [K,jy n (c::r) k h J (by omega) (by omega)];have o:(c::r).length=A:=by omega
          have a:¬((k:Int)=0/\(c::r).length<5)->(if s>((A+k:Nat):Int) then some (0:Int) else some (if dval 0 (c::r)*10 ^ k<=E16 then (((dval 0 (c::r)*10 ^ k:Nat):Int),(1:Int)) else (0,0)).2)=some (if okL (c::r) (k:Int) s then 1 else 0):=by
           intro I;by_cases m:s>((A+k:Nat):Int)
           ·rw [ae m,ab (λq:okL (c::r) (k:Int) s=>by have:=q.2.2;rw [o] at this;omega)]
           ·rw [ab m];by_cases e:dval 0 (c::r)*10 ^ k<=E16
            ·rw [ae e,ae ⟨⟨h,by omega,by omega,by simpa using b,by omega,by omega,I,by simpa using e⟩,by omega,by omega⟩]
            ·rw [ab e,ab (λq:okL (c::r) (k:Int) s=>e (by simpa using q.1.2.2.2.2.2.2.2))]
          by_cases e:(k:Int)=0
          ·rw [ae e];by_cases D:((A:Nat):Int)<5
           ·rw [ae D,ab (λq:okL (c::r) (k:Int) s=>q.1.2.2.2.2.2.2.1 ⟨e,by omega⟩)]
           ·rw [ab D];exact a (λq=>by omega)
          ·rw [ab e];exact a (λq=>e q.1)
 ·rw [ab (by omega),ab];intro q;apply y;rw [hs.2];unfold okY at q;split at q
  ·exact λc hc=>.inl (q.1.1 c hc)
  ·exact q.2.1
theorem Jf:∀(l:aa) (a:Nat),a*10 ^ l.length<=dval a l
 | [],a=>by rw [pw];simp
 | c::l,a=>by
  have ih:=Jf l (vv a c);rw [oM,aC,s9];have h:a*10<=vv a c:=AD _ _;have d:=ot (10 ^ l.length) h;have b:a*(10 ^ l.length*10)=a*10*10 ^ l.length:=by rw [uw (10 ^ l.length) 10,Ft]
  omega
theorem uU:∀(l:aa) (a k:Nat),(∀c∈l,bv c=true)->a<10 ^ k->dval a l<10 ^ (l.length+k)
 | [],a,k,_,h=>by rw [pw];simpa using h
 | c::l,a,k,e,h=>by
  have hc:=(cv c).1 (e c (by simp));have hp:(10:Nat) ^ (k+1)=10 ^ k*10:=s9 10 k;have hs:vv a c=a*10+(c.toNat - 48):=rfl;have ih:=uU l (vv a c) (k+1) (λd b=>e d (by simp [b])) (by omega);rw [oM,aC,show l.length+1+k=l.length+(k+1) by omega];exact ih
structure Num (d:aa) (k q:Nat):Prop where
 dig:∀c∈d,bv c=true
 ne:d≠[]
 wide:d.length+k<=17
 small:dval 0 d*10 ^ k<=E16
 sig:q<=d.length+k
theorem Ic {d:aa} (h:∀c∈d,bv c=true):hasX d=false:=by
 unfold hasX;rw [sc];intro c hc a;rw [bI] at a;have:=(cv c).1 (h c hc);rw [a] at this;exact absurd this.2 (by decide)
theorem tD {g l:Bool} {d:aa} {x s:Int} (h:okY g l d x s) (i:hasX d=false):∃k q:Nat,x=(k:Int)/\s=(q:Int)/\Num d k q:=by
 cases l with
 | true=>
  have h:okL d x s:=by simpa [okY] using h
  obtain ⟨⟨b,f,w,p,C,y,B,z⟩,t,v⟩:=h;refine ⟨x.toNat,s.toNat,by omega,by omega,b,by intro e;subst e;simp at f,?_,z,by omega⟩;cases d with
  | nil=>simp at f
  | cons c r=>
   have hc:=(cv c).1 (b c (by simp));have m:c≠48:=by simpa using p
   have j:1<=vv 0 c:=by
    have:c.toNat≠48:=λe=>m (gv.1 e);show 1<=0*10+(c.toNat - 48);omega
   have A:=Jf r (vv 0 c);rw [<-oM] at A;have t:10 ^ r.length<=dval 0 (c::r):=by
    have:=ot (10 ^ r.length) j;omega
   have o:=ot (10 ^ x.toNat) t;rw [<-Nat.pow_add] at o;rcases aH (r.length+x.toNat) 17 with a | n
   ·simp only [aC];omega
   ·have:=SA n;omega
 | false=>
  have h:okS g d x s:=by simpa [okY] using h
  obtain ⟨b,f,w,p,C,y,B⟩:=h;have u:∀c∈d,bv c=true:=by
   intro c hc;rcases f c hc with h | h
   ·exact h
   ·exfalso;unfold hasX at i;rw [sc] at i;exact i c hc (bI.2 h)
  have a:=uU d 0 0 u (by simp);rw [b] at a;refine ⟨0,s.toNat,by omega,by omega,u,by intro e;subst e;simp at b,by omega,?_,by omega⟩;have p:(10:Nat) ^ (4+0)=10000:=by decide
  unfold E16;simp only [AE,qD];omega
def val (d:aa) (k:Nat):Nat:=dval 0 d*10 ^ k
theorem Au (n:Nat) (g l:Bool) (d:aa) (x s:Int) (e:200<n) (b:d.length<=100):
  eN n g l d x s=some (if okY g l d x s/\hasX d=false then (if g then -((val d x.toNat:Nat):Int) else ((val d x.toNat:Nat):Int),0) else (0,6)):=by
 unfold eN;rw [AS n g l d x s e b,tz];simp only [ob];by_cases h:okY g l d x s
 ·rw [ae h];cases c:hasX d with
  | true=>rw [ab (by simp)];rfl
  | false=>
   rw [ae ⟨h,rfl⟩];obtain ⟨k,q,rfl,rfl,a⟩:=tD h c;rw [MY n g l d k q a.dig a.ne (by have:=a.wide;omega) (by have:=a.wide;omega) (by omega),ae a.small];have hs:=a.small;unfold E16 at hs;cases g with
   | true=>
    simp only [dJ,af,ah,cf,val,aJ];rw [wrap_i64 _ (by omega) (by omega),yQ]
   | false=>simp [val]
 ·rw [ab h,ab (λq=>h q.1)];rfl
theorem cb {a b:aa} (h:a.length+b.length<=1000000):cat a b=some (a++b):=by
 unfold cat;rw [ae (by omega)]
theorem cut1 {l:aa} {i:Nat} {c:UInt8} (h:l[i]?=some c):List.drop i (List.take (i+1) l)=[c]:=by
 have a:=tt h;rw [qc,h,Da (by rw [da];omega)];rfl
theorem RX {l:aa} {i:Nat} {c:UInt8} (h:l[i]?=some c):List.take (i+1) l=List.take i l++[c]:=by
 rw [qc,h];rfl
theorem qw {g l:Bool} {d:aa} {x s:Int} (h:okY g l d x s) (a:hasX d=true):l=false/\x=0/\s=0/\d.length=4/\∀c∈d,bv c=true\/c=88:=by
 cases l with
 | true=>
  have h:okL d x s:=by simpa [okY] using h
  rw [Ic h.1.1] at a;cases a
 | false=>
  have h:okS g d x s:=by simpa [okY] using h
  obtain ⟨f,j,b,n,m,k,i⟩:=h;refine ⟨rfl,b,?_,f,j⟩;have:¬0<s:=λe=>i ⟨e,a⟩;omega
theorem kb {g l:Bool} {d:aa} {x s:Int} (h:okY g l d x s):0<=x/\x<=16/\0<=s/\s<=17/\1<=d.length/\d.length<=17:=by
 cases b:hasX d with
 | true=>
  obtain ⟨rfl,rfl,rfl,i,_⟩:=qw h b;omega
 | false=>
  obtain ⟨k,q,rfl,rfl,a⟩:=tD h b;have f:=a.wide;have j:=a.sig;have e:1<=d.length:=by
   cases d with
   | nil=>exact absurd rfl a.ne
   | cons c r=>simp
  omega
theorem KW {g l:Bool} {d:aa} {x s:Int} (h:okY g l d x s):vh d x s=true:=by
 obtain ⟨b,f,a,i,e,c⟩:=kb h;unfold vh;rw [am (by omega),cZ (by omega)];rfl
def numU (d:UInt8):aa->Nat⊕(Nat×Nat)
 | []=>.inr (d.toNat - 48,2)
 | e::_=>if bv e=true then .inr (10*(d.toNat - 48)+(e.toNat - 48),3) else .inr (d.toNat - 48,2)
def numT:aa->Nat⊕(Nat×Nat)
 | []=>.inl 1
 | d::r=>if 49<=d.toNat/\d.toNat<=57 then numU d r else .inl 1
def numS (letter:UInt8):aa->Nat⊕(Nat×Nat)
 | []=>.inr (0,0)
 | c::r=>if c=letter then numT r else .inr (0,0)
theorem vE (letter:UInt8):numS letter []=.inr (0,0):=rfl
theorem nJ (letter c:UInt8) (r:aa):numS letter (c::r)=if c=letter then numT r else .inr (0,0):=rfl
theorem A8:numT []=.inl 1:=rfl
theorem oU (d:UInt8) (r:aa):numT (d::r)=if 49<=d.toNat/\d.toNat<=57 then numU d r else .inl 1:=rfl
theorem uk (d:UInt8):numU d []=.inr (d.toNat - 48,2):=rfl
theorem nL (d e:UInt8) (r:aa):numU d (e::r)=if bv e=true then .inr (10*(d.toNat - 48)+(e.toNat - 48),3) else .inr (d.toNat - 48,2):=rfl
theorem zh (c:UInt8) (h:c.toNat<128):(Utf8.encode ((c.toNat:Nat):Int)).data.toList=[c]:=by
 have:=iS (λc=>(decide (128<=c.toNat))||(Utf8.encode ((c.toNat:Nat):Int)).data.toList==[c]) (by decide +kernel) c;simp only [iO,cj,bI] at this;rcases this with a | a
 ·omega
 ·exact a
theorem qV {c:UInt8} (h:48<=c.toNat/\c.toNat<=57):Lib.digitVal c=some (c.toNat - 48):=by
 unfold Lib.digitVal;rw [ae h]
theorem zJ {c:UInt8} (h:48<=c.toNat/\c.toNat<=57) (r:aa):Lib.atoi (c::r)=(Lib.decNat (c::r)).map λ(m:Nat)=>(m:Int):=by
 have b:(c==45)=false:=by
  rw [aM];rintro rfl;exact absurd h.1 (by decide)
 have a:(c==43)=false:=by
  rw [aM];rintro rfl;exact absurd h.1 (by decide)
 simp only [Lib.atoi,b,a,br,aA]
theorem N8 {c:UInt8} (h:48<=c.toNat/\c.toNat<=57):Lib.atoi [c]=some ((c.toNat - 48:Nat):Int):=by
 rw [zJ h];simp only [Lib.decNat,List.isEmpty_cons,br,aA,Lib.decFrom,qV h,eX,Aw,dq]
theorem Gx {c e:UInt8} (h:48<=c.toNat/\c.toNat<=57) (a:48<=e.toNat/\e.toNat<=57):Lib.atoi [c,e]=some ((10*(c.toNat - 48)+(e.toNat - 48):Nat):Int):=by
 rw [zJ h];simp only [Lib.decNat,List.isEmpty_cons,br,aA,Lib.decFrom,qV h,qV a,eX,Aw,dq];rw [uw]
theorem yV (c:UInt8):hasB [49,50,51,52,53,54,55,56,57] c=decide (49<=c.toNat/\c.toNat<=57):=by
 have:=iS (λc=>hasB [49,50,51,52,53,54,55,56,57] c==decide (49<=c.toNat/\c.toNat<=57)) (by decide +kernel) c;simpa using this
theorem kv {p q:UInt8->Bool} (h:∀c,p c=q c):∀(k:Nat) (l:aa),bD p k l=bD q k l
 | 0,_=>by simp [bD]
 | _+1,[]=>by simp [bD]
 | k+1,c::l=>by simp only [bD,h c,kv h k l]
theorem nz {S:aa} {a:Nat} {c:UInt8} {r:aa} (h:S.drop a=c::r):a<S.length/\S[a]?=some c/\S.drop (a+1)=r:=by
 have b:a<S.length:=by
  rcases aH a S.length with q | q
  ·exact q
  ·rw [jm q] at h;cases h
 have e:S[a]?=some S[a]:=be b;have d:=bU e;rw [h] at d;injection d with h1 h2;exact ⟨b,by rw [e,h1],h2.symm⟩
theorem Jz (n:Nat) (letter:UInt8) (S:aa) (a:Nat) (h:a<=S.length) (E:S.length<100000) (C:S.length<n):
  de n [letter] S (a:Int)=some (match numS letter (S.drop a) with | .inl k=>.inr (((a+k:Nat):Int),5,S,((a+k:Nat):Int)) | .inr (v,k)=>.inl ((v:Int),S,((a+k:Nat):Int))):=by
 unfold de;rw [m6 n [letter] S a h (by omega)];cases A:S.drop a with
 | nil=>simp [vE]
 | cons c r=>
  obtain ⟨y,F,t⟩:=nz A;rw [nJ];by_cases hc:c=letter
  ·have g:List.take [letter].length (c::r)=[letter]:=by simp [hc]
   have o:a+[letter].length=a+1:=rfl;rw [ae g,o,ae hc];clear g;simp only [ob,co,af];rw [AU n _ S (a+1) (by omega) (by omega),t];cases r with
   | nil=>simp [A8]
   | cons d x=>
    obtain ⟨u,B,m⟩:=nz t;rw [oU];simp only [yV,cj];by_cases b:49<=d.toNat/\d.toNat<=57
    ·rw [ae b,ae b];simp only [];rw [vX n _ 0 1 S (a+1+1) (by omega) (by omega) C,m];have D:=lW (hasB [48,49,50,51,52,53,54,55,56,57]) (1:Int).toNat x;rw [ab (by omega)];rw [kv yb];simp only [];rw [zh d (by omega)];have i:Nat.ble ([d]:aa).length 18=true:=rfl;have q:∀e:UInt8,Nat.ble ([d,e]:aa).length 18=true:=λ_=>rfl;have s:a+1+1=a+2:=rfl;have z:a+2+1=a+3:=rfl;have w:=N8 (show 48<=d.toNat/\d.toNat<=57 by omega);cases x with
     | nil=>
      have hs:bD bv (1:Int).toNat []=0:=rfl;rw [hs,uk];rw [cb (by simp)];simp only [List.take_nil,nP,cN,i,ah,w,opt,s]
     | cons e f=>
      by_cases j:bv e=true
      ·have hs:bD bv (1:Int).toNat (e::f)=1:=by
        show bD bv (0+1) (e::f)=1;simp [bD,j]
       have p:=Gx (show 48<=d.toNat/\d.toNat<=57 by omega) ((cv e).1 j);rw [hs,nL,ae j];have l:List.take 1 (e::f)=[e]:=rfl;rw [l,cb (by simp)];simp only [eI,eK,q,ah,p,opt,s,z]
      ·have hs:bD bv (1:Int).toNat (e::f)=0:=by
        show bD bv (0+1) (e::f)=0;simp [bD,j]
       rw [hs,nL,ab j];have l:List.take 0 (e::f)=[]:=rfl;rw [l,cb (by simp)];simp only [nP,i,ah,w,opt,cN,s]
    ·rw [ab b,ab b]
  ·have e:¬List.take [letter].length (c::r)=[letter]:=by simp [hc]
   rw [ab e,ab hc];simp
theorem Ks (n:Nat) (letter:UInt8) (S:aa) (a:Nat) (h:a<=S.length) (I:S.length<100000):
  aj n S (a:Int) ((letter.toNat:Nat):Int)=some (match numS letter (S.drop a) with | .inl k=>(-1,((a+k:Nat):Int)) | .inr (v,k)=>((v:Int),((a+k:Nat):Int))):=by
 unfold aj;rw [lC];cases m:S.drop a with
 | nil=>
  have:S.length<=a:=by
   rcases aH a S.length with q | q
   ·rw [bU (be q)] at m;cases m
   ·exact q
  rw [am this];simp [vE]
 | cons c r=>
  obtain ⟨y,D,i⟩:=nz m;have B:IntKind.wrap .i64 ((a:Int)+1)=((a+1:Nat):Int):=by rw [wrap_i64 _ (by omega) (by omega)];omega
  have E:IntKind.wrap .i64 (((a+1:Nat):Int)+1)=((a+2:Nat):Int):=by rw [wrap_i64 _ (by omega) (by omega)];omega
  have C:IntKind.wrap .i64 (((a+2:Nat):Int)+1)=((a+3:Nat):Int):=by rw [wrap_i64 _ (by omega) (by omega)];omega
  rw [aq (show ¬S.length<=a by omega),af,dL D];simp only [ob,B,E,C,lC,iY];have s:(((c.toNat:Nat):Int) != ((letter.toNat:Nat):Int))=!(c==letter):=by rw [bne,nE]
  rw [s,nJ];by_cases hc:c=letter
  ·have e:(!(c==letter))=false:=by rw [hc];simp
   rw [e,af,ae hc];cases r with
   | nil=>
    have:S.length<=a+1:=by
     rcases aH (a+1) S.length with q | q
     ·rw [bU (be q)] at i;cases i
     ·exact q
    rw [am this];rfl
   | cons d G=>
    obtain ⟨w,t,b⟩:=nz i;rw [oU];rw [aq (show ¬S.length<=a+1 by omega),af,dL t];simp only [];by_cases H:d.toNat<49
    ·have o:decide (((d.toNat:Nat):Int)<49)=true:=am (by omega);rw [o,ah,ab (by omega)]
    ·have o:decide (((d.toNat:Nat):Int)<49)=false:=aq (by omega);rw [o,af];by_cases K:d.toNat>57
     ·have j:decide (((d.toNat:Nat):Int)>57)=true:=am (by omega);rw [j,ah,ab (by omega)]
     ·have j:decide (((d.toNat:Nat):Int)>57)=false:=aq (by omega);rw [j,af,ae (by omega)];have z:IntKind.wrap .i64 (IntKind.wrap .u8 (((d.toNat:Nat):Int) - 48))=((d.toNat - 48:Nat):Int):=by
       rw [ks _ (by omega) (by omega),wrap_i64 _ (by omega) (by omega)];omega
      rw [z];cases G with
      | nil=>
       have:¬a+2<S.length:=by
        intro q;rw [bU (be (show a+1+1<S.length from q))] at b;cases b
       rw [aq this,uk];rfl
      | cons e J=>
       obtain ⟨f,p,_⟩:=nz b;rw [nL];rw [am (show a+2<S.length from f),ah,dL p];simp only [];by_cases u:e.toNat>=48
       ·have l:decide (((e.toNat:Nat):Int)>=48)=true:=am (by omega);rw [l,ah];by_cases x:e.toNat<=57
        ·have g:decide (((e.toNat:Nat):Int)<=57)=true:=am (by omega);have F:IntKind.wrap .i64 (IntKind.wrap .u8 (((e.toNat:Nat):Int) - 48))=((e.toNat - 48:Nat):Int):=by
          rw [ks _ (by omega) (by omega),wrap_i64 _ (by omega) (by omega)];omega
         have A:IntKind.wrap .i64 (10*((d.toNat - 48:Nat):Int))=((10*(d.toNat - 48):Nat):Int):=by rw [wrap_i64 _ (by omega) (by omega)];omega
         have ws:IntKind.wrap .i64 (((10*(d.toNat - 48):Nat):Int)+((e.toNat - 48:Nat):Int))=((10*(d.toNat - 48)+(e.toNat - 48):Nat):Int):=by rw [wrap_i64 _ (by omega) (by omega)];omega
         rw [g,ah,ae ((cv e).2 ⟨u,x⟩),F,A,ws]
        ·have g:decide (((e.toNat:Nat):Int)<=57)=false:=aq (by omega);rw [g,af,ab (λq=>x ((cv e).1 q).2)]
       ·have l:decide (((e.toNat:Nat):Int)>=48)=false:=aq (by omega);rw [l,af,ab (λq=>u ((cv e).1 q).1)]
  ·have e:(!(c==letter))=true:=by rw [aM.2 hc];rfl
   rw [e,ah,ab hc];rfl
def isDX (c:UInt8):Bool:=bv c||c==88
abbrev YR:=Bool×Bool×aa×Nat×Nat×Nat
def tH (g:Bool) (o:Nat):aa->Nat⊕YR
 | []=>.inl o
 | c::r=>if 49<=c.toNat/\c.toNat<=57 then
   (match numS 69 ((c::r).drop (1+bD bv 16 r)) with
   | .inl j=>.inl (o+(1+bD bv 16 r)+j)
   | .inr (x,j)=>(match numS 83 ((c::r).drop (1+bD bv 16 r+j)) with
    | .inl i=>.inl (o+(1+bD bv 16 r)+j+i)
    | .inr (s,i)=>.inr (g,true,(c::r).take (1+bD bv 16 r),x,s,o+(1+bD bv 16 r)+j+i)))
  else .inl o
def vc (g:Bool) (o:Nat) (l:aa):Nat⊕YR:=
 if bD isDX 4 l<4 then .inl (o+bD isDX 4 l) else
  (match numS 83 (l.drop 4) with
  | .inl i=>.inl (o+4+i)
  | .inr (s,i)=>.inr (g,false,l.take 4,0,s,o+4+i))
def ft (c:UInt8) (l:aa):Nat:=if l.take 1=[c] then 1 else 0
def pS (l:aa):Nat⊕YR:=
 if ft 89 l=1 then tH (ft 45 (l.drop 1)==1) (1+ft 45 (l.drop 1)) (l.drop (1+ft 45 (l.drop 1)))
 else vc (ft 45 l==1) (ft 45 l) (l.drop (ft 45 l))
theorem lB (c:UInt8) (l:aa):ft c l=0\/ft c l=1:=by
 unfold ft;split
 ·exact .inr rfl
 ·exact .inl rfl
theorem Ap (c:UInt8) (l:aa):ft c l<=l.length:=by
 unfold ft;split
 ·rename_i h;cases l with
  | nil=>simp at h
  | cons a l=>simp
 ·omega
theorem tP (n:Nat) (c:UInt8) (S:aa) (a:Nat) (h:a<=S.length) (b:S.length<100000):
  aB n [c] S (a:Int)=some (ft c (S.drop a)==1,S,((a+ft c (S.drop a):Nat):Int)):=by
 rw [m6 n [c] S a h (by omega)];unfold ft;have e:[c].length=1:=rfl;rw [e];split<;>rfl
def yK (S:aa) (a:Nat):Nat⊕YR->(Int×Int×aa×Int)⊕(Bool×Bool×aa×Int×Int×aa×Int)
 | .inl k=>.inl (((a+k:Nat):Int),5,S,((a+k:Nat):Int))
 | .inr (g,l,d,x,s,k)=>.inr (g,l,d,(x:Int),(s:Int),S,((a+k:Nat):Int))
def oz (a:Nat):Nat⊕YR->Bool×Bool×aa×Int×Int×Int×Int
 | .inl k=>(false,false,[],0,0,((a+k:Nat):Int),5)
 | .inr (g,l,d,x,s,k)=>(g,l,d,(x:Int),(s:Int),((a+k:Nat):Int),0)
theorem Sz (letter:UInt8) (l:aa):(match numS letter l with | .inl k=>k<=l.length | .inr (_,k)=>k<=l.length):=by
 cases l with
 | nil=>simp [vE]
 | cons c r=>
  rw [nJ];by_cases hc:c=letter
  ·rw [ae hc];cases r with
   | nil=>simp [A8]
   | cons d f=>
    rw [oU];by_cases a:49<=d.toNat/\d.toNat<=57
    ·rw [ae a];cases f with
     | nil=>simp [uk]
     | cons e g=>
      rw [nL];by_cases b:bv e=true
      ·rw [ae b];simp
      ·rw [ab b];simp
    ·rw [ab a];simp
  ·rw [ab hc];simp
theorem zD {letter:UInt8} {S:aa} {a:Nat} (h:a<=S.length) {v k:Nat} (b:numS letter (S.drop a)=.inr (v,k)):a+k<=S.length:=by
 have:=Sz letter (S.drop a);rw [b,bR] at this;simp only at this;omega
theorem TX (n:Nat) (S:aa) (a o:Nat) (g:Bool) (h:a+o<=S.length) (I:S.length<100000) (G:S.length<n):
  (ob (cu n [49,50,51,52,53,54,55,56,57] S ((a+o:Nat):Int)) λA=>(Sum.casesOn (motive:=λ_=>Option ((Int×Int×aa×Int)⊕(Bool×Bool×aa×Int×Int×aa×Int))) A (λf=>(some (.inl (f.1,f.2.1,f.2.2.1,f.2.2.2)))) (λm=>(ob (bY n [48,49,50,51,52,53,54,55,56,57] 0 16 m.2.1 m.2.2) λv=>(Sum.casesOn (motive:=λ_=>Option _) v (λb=>(some (.inl (b.1,b.2.1,b.2.2.1,b.2.2.2)))) (λl=>(ob (cat (Utf8.encode m.1).data.toList l.1) λu=>(ob (de n [69] l.2.1 l.2.2) λB=>(Sum.casesOn (motive:=λ_=>Option _) B (λt=>(ob (de n [83] t.2.1 t.2.2) λC=>(Sum.casesOn (motive:=λ_=>Option _) C (λq=>(some (.inr (g,true,u,t.1,q.1,q.2.1,q.2.2)))) (λd=>(some (.inl (d.1,d.2.1,d.2.2.1,d.2.2.2))))))) (λe=>(some (.inl (e.1,e.2.1,e.2.2.1,e.2.2.2)))))))))))))=some (yK S a (tH g o (S.drop (a+o)))):=by
 rw [AU n _ S (a+o) h (by omega)];cases F:S.drop (a+o) with
 | nil=>simp [tH,yK,ob]
 | cons c r=>
  obtain ⟨K,T,J⟩:=nz F;simp only [yV,cj];by_cases hc:49<=c.toNat/\c.toNat<=57
  ·rw [ae hc];simp only [ob];rw [vX n _ 0 16 S (a+o+1) (by omega) (by omega) G,J];rw [ab (by omega),kv yb];simp only [];rw [zh c (by omega)];have E:(16:Int).toNat=16:=rfl;rw [E];have M:=lW bv 16 r;have P:r.length+(a+o+1)=S.length:=by
    have:=ch List.length J;rw [bR] at this;omega
   rw [cb (by simp only [aC,ba,da];omega)];simp only [tH];rw [ae hc];generalize R:bD bv 16 r=k at M ⊢;have O:[c]++List.take k r=List.take (1+k) (c::r):=by rw [pi];rfl
   rw [O];have z:a+o+1+k<=S.length:=by omega
   have w:List.drop (1+k) (c::r)=S.drop (a+o+1+k):=by
    rw [<-F,iR];congr 1;omega
   rw [Jz n 69 S (a+o+1+k) z I G,<-w];cases L:numS 69 (List.drop (1+k) (c::r)) with
   | inl j=>
    simp only [yK];have:a+o+1+k+j=a+(o+(1+k)+j):=by omega
    rw [this]
   | inr p=>
    obtain ⟨x,j⟩:=p;have H:=L;rw [w] at H;have D:=zD z H;have y:List.drop (1+k+j) (c::r)=S.drop (a+o+1+k+j):=by
     rw [<-F,iR];congr 1;omega
    simp only [];rw [Jz n 83 S (a+o+1+k+j) D I G,<-y];cases N:numS 83 (List.drop (1+k+j) (c::r)) with
    | inl i=>
     simp only [yK];have:a+o+1+k+j+i=a+(o+(1+k)+j+i):=by omega
     rw [this]
    | inr Q=>
     obtain ⟨s,i⟩:=Q;simp only [yK];have:a+o+1+k+j+i=a+(o+(1+k)+j+i):=by omega
     rw [this]
  ·rw [ab hc];simp only [ob,tH];rw [ab hc];rfl
theorem P4 (n:Nat) (S:aa) (a o:Nat) (g:Bool) (h:a+o<=S.length) (w:S.length<100000) (v:S.length<n):
  (ob (bY n [88,48,49,50,51,52,53,54,55,56,57] 4 4 S ((a+o:Nat):Int)) λj=>(Sum.casesOn (motive:=λ_=>Option ((Int×Int×aa×Int)⊕(Bool×Bool×aa×Int×Int×aa×Int))) j (λb=>(some (.inl (b.1,b.2.1,b.2.2.1,b.2.2.2)))) (λe=>(ob (de n [83] e.2.1 e.2.2) λq=>(Sum.casesOn (motive:=λ_=>Option _) q (λf=>(some (.inr (g,false,e.1,0,f.1,f.2.1,f.2.2)))) (λd=>(some (.inl (d.1,d.2.1,d.2.2.1,d.2.2.2)))))))))=some (yK S a (vc g o (S.drop (a+o)))):=by
 rw [vX n _ 4 4 S (a+o) h (by omega) v];have r:∀c,hasB [88,48,49,50,51,52,53,54,55,56,57] c=isDX c:=uR;have y:(4:Int).toNat=4:=rfl;rw [kv r,y];unfold vc;have u:=lW isDX 4 (S.drop (a+o));rw [bR] at u;by_cases m:bD isDX 4 (S.drop (a+o))<4
 ·rw [ae (by omega),ae m];simp only [ob,yK];rw [gY]
 ·rw [ab (by omega),ab m];have t:∀(k:Nat) (l:aa),bD isDX k l<=k:=by
   intro k
   induction k with
   | zero=>intro l;simp [bD]
   | succ k ih=>
    intro l;cases l with
    | nil=>simp [bD]
    | cons c l=>
     have:=ih l;simp only [bD];split<;>omega
  have x:bD isDX 4 (S.drop (a+o))=4:=by have:=t 4 (S.drop (a+o));omega
  rw [x] at u ⊢;simp only [ob];have hp:a+o+4<=S.length:=by omega
  rw [Jz n 83 S (a+o+4) hp w v,iR];cases z:numS 83 (S.drop (a+o+4)) with
  | inl i=>
   simp only [yK];have:a+o+4+i=a+(o+4+i):=by omega
   rw [this]
  | inr p=>
   obtain ⟨s,i⟩:=p;simp only [yK];have:a+o+4+i=a+(o+4+i):=by omega
   rw [this];rfl
theorem Sv (n:Nat) (S:aa) (a:Nat) (h:a<=S.length) (d:S.length<100000) (f:S.length<n):
  lV n S (a:Int)=some (yK S a (pS (S.drop a))):=by
 unfold lV;rw [tP n 89 S a h d];have c:=Ap 89 (S.drop a);rw [bR] at c;simp only [ob];rw [tP n 45 S (a+ft 89 (S.drop a)) (by omega) d];have b:=Ap 45 (S.drop (a+ft 89 (S.drop a)));rw [bR] at b;simp only [];unfold pS;rcases lB 89 (S.drop a) with e | e
 ·rw [e] at b ⊢;simp only [cN,show ((0:Nat)==1)=false from rfl,af,show ¬((0:Nat)=1) from by decide,aA,iR] at b ⊢;have:=P4 n S a (ft 45 (S.drop a)) (ft 45 (S.drop a)==1) (by omega) d f;exact this
 ·rw [e] at b ⊢;simp only [show ((1:Nat)==1)=true from rfl,ah,aJ,iR] at b ⊢;have:=TX n S a (1+ft 45 (S.drop (a+1))) (ft 45 (S.drop (a+1))==1) (by omega) d f;rw [<-gY] at this;rw [<-gY];exact this
abbrev stR (S:aa) (a b M:Int) (g L:Bool):aa×Int×Int×Int×Bool×Bool×aa×Int×Int×Bool×Bool×aa×Int×Int:=(S,a,b,M,false,false,[],0,0,g,L,[],0,0)
def isYB (L:Bool) (c:UInt8):Bool:=bv c||(c==88&&!L)
theorem NL (n:Nat) (S:aa) (b M:Nat) (g:Bool) (j:0<M) (k:S.length<100000) (a:S[b]?=some 48):ar (ax (n+1)) (n+1) (stR S (b:Int) (b:Int) (M:Int) g true)=some (.inl ((b:Int),5,false,false,[],0,0)):=by
 have c:=tt a;have d:decide ((b:Int)<((S.length:Nat):Int))=true:=am (by omega);have i:IntKind.wrap .i64 ((b:Int) - (b:Int))=0:=by rw [Int.sub_self];rfl
 have d2:decide ((0:Int)<(M:Int))=true:=am (by omega);have h:decide ((((48:UInt8).toNat:Nat):Int)>=48)=true:=rfl;have e:decide ((((48:UInt8).toNat:Nat):Int)<=57)=true:=rfl;have f:((((48:UInt8).toNat:Nat):Int)==48)=true:=rfl;simp only [ar,ax,d,ah,i,d2,dL a,ob,h,e,f,vb]
theorem Ao (n:Nat) (S:aa) (b M:Nat) (g L:Bool) (Q:b<=S.length) (O:S.length<100000) (R:S.length<n) (z:¬(L=true/\S[b]?=some 48)):
  ar (ax n) n (stR S (b:Int) (b:Int) (M:Int) g L)=some (.inr (S,((b+bD (isYB L) M (S.drop b):Nat):Int),(b:Int),false,false,[],0,0,g,L,[],0,0)):=by
 have:=fJ (step:=ax n) (λx=>∃j:Nat,b+j<=S.length/\x=stR S ((b+j:Nat):Int) (b:Int) (M:Int) g L) (λx=>S.length - x.2.1.toNat)
  (λx=>.inr (S,((x.2.1.toNat+bD (isYB L) (M - (x.2.1.toNat - b)) (S.drop x.2.1.toNat):Nat):Int),(b:Int),false,false,[],0,0,g,L,[],0,0)) ?_ n (stR S (b:Int) (b:Int) (M:Int) g L) ⟨0,by omega,rfl⟩ (by simp;omega)
 ·rw [this];simp
 rintro x ⟨j,N,rfl⟩;simp only [cf];rcases aH (b+j) S.length with s | A
 ·obtain ⟨c,hc⟩:∃c,S[b+j]?=some c:=⟨S[b+j],be s⟩;have d:decide (((b+j:Nat):Int)<((S.length:Nat):Int))=true:=am (by omega);have o:IntKind.wrap .i64 (((b+j:Nat):Int) - (b:Int))=(j:Int):=by rw [wrap_i64 _ (by omega) (by omega)];omega
  have B:IntKind.wrap .i64 (((b+j:Nat):Int)+1)=((b+(j+1):Nat):Int):=by rw [wrap_i64 _ (by omega) (by omega)];omega
  have r:b+j - b=j:=by omega
  rw [bU hc,r];by_cases P:j<M
  ·have d2:decide ((j:Int)<(M:Int))=true:=am (by omega);obtain ⟨q,C⟩:∃q,M - j=q+1:=⟨M - j - 1,by omega⟩;have w:M - (j+1)=q:=by omega
   rw [C];simp only [bD];have D:isYB L c=true->ax n (stR S ((b+j:Nat):Int) (b:Int) (M:Int) g L)=some (.inl (stR S ((b+(j+1):Nat):Int) (b:Int) (M:Int) g L)):=by
    intro hy;by_cases i:bv c=true
    ·have E:=(cv c).1 i;have f:decide (((c.toNat:Nat):Int)>=48)=true:=am (by omega);have k:decide (((c.toNat:Nat):Int)<=57)=true:=am (by omega);simp only [ax,d,ah,o,d2,dL hc,ob,f,k,B];cases L with
     | false=>rfl
     | true=>
      by_cases u:j=0
      ·subst u;have l:c≠48:=by
        intro e;exact z ⟨rfl,by rw [<-e];exact hc⟩
       have v:(((c.toNat:Nat):Int)==48)=false:=by rw [Ub];exact aM.2 l
       simp only [cN,vb,ah,v,af]
      ·have F:(((b+j:Nat):Int)==(b:Int))=false:=aM.2 (by omega);simp only [F,af,ah]
    ·have a:bv c=false:=by cases h:bv c with | false=>rfl | true=>exact absurd h i
     unfold isYB at hy;rw [a] at hy;simp only [o8,az,bI,kW] at hy;obtain ⟨rfl,rfl⟩:=hy;have f:decide ((((88:UInt8).toNat:Nat):Int)>=48)=true:=rfl;have k:decide ((((88:UInt8).toNat:Nat):Int)<=57)=false:=rfl;have v:((((88:UInt8).toNat:Nat):Int)==88)=true:=rfl;simp only [ax,d,ah,o,d2,dL hc,ob,f,k,v,B,af,ij]
   have m:isYB L c=false->ax n (stR S ((b+j:Nat):Int) (b:Int) (M:Int) g L)=some (.inr (.inr (S,((b+j:Nat):Int),(b:Int),false,false,[],0,0,g,L,[],0,0))):=by
    intro hy;unfold isYB at hy;simp only [oV,CQ] at hy;obtain ⟨a,y⟩:=hy;have G:¬(48<=c.toNat/\c.toNat<=57):=λq=>by rw [(cv c).2 q] at a;cases a
    have p:(((c.toNat:Nat):Int)==88)=(c==88):=nE c 88;have H:(cond (c==88) (cond (!L) (0:Nat) 1) 1)=1:=by
     rcases y with h | h
     ·rw [h];rfl
     ·have:L=true:=by simpa using h
      rw [this];cases c==88<;>rfl
    by_cases K:c.toNat>=48
    ·have f:decide (((c.toNat:Nat):Int)>=48)=true:=am (by omega);have k:decide (((c.toNat:Nat):Int)<=57)=false:=aq (by omega);simp only [ax,d,ah,o,d2,dL hc,ob,f,k,af,p];rcases y with h | h
     ·rw [h];rfl
     ·have:L=true:=by simpa using h
      rw [this];cases c==88<;>rfl
    ·have f:decide (((c.toNat:Nat):Int)>=48)=false:=aq (by omega);simp only [ax,d,ah,o,d2,dL hc,ob,f,af,p];rcases y with h | h
     ·rw [h];rfl
     ·have:L=true:=by simpa using h
      rw [this];cases c==88<;>rfl
   cases hy:isYB L c with
   | true=>
    refine .inl ⟨_,D hy,⟨j+1,by omega,rfl⟩,by simp only [cf];omega,?_⟩;simp only [cf,aJ];have I:b+(j+1) - b=j+1:=by omega
    rw [I,w,show b+(j+1)=b+j+1 by omega];have J:b+j+1+bD (isYB L) q (S.drop (b+j+1))=b+j+(bD (isYB L) q (S.drop (b+j+1))+1):=by omega
    rw [J]
   | false=>
    refine .inr ?_;rw [m hy];simp
  ·have d2:decide ((j:Int)<(M:Int))=false:=aq (by omega);have t:M - j=0:=by omega
   refine .inr ?_;rw [t];simp only [ax,d,ah,o,d2,af,bD,cN]
 ·have d:decide (((b+j:Nat):Int)<((S.length:Nat):Int))=false:=aq (by omega);refine .inr ?_;rw [jm A];have t:∀q,bD (isYB L) q []=0:=λq=>by cases q<;>rfl
  simp only [ax,d,af,t,cN]
theorem JZ (n:Nat) (S:aa) (a:Nat) (h:a<=S.length) (b:S.length<100000):
  aj n S (a:Int) 69=some (match numS 69 (S.drop a) with | .inl k=>(-1,((a+k:Nat):Int)) | .inr (v,k)=>((v:Int),((a+k:Nat):Int))):=Ks n 69 S a h b
theorem Ds (n:Nat) (S:aa) (a:Nat) (h:a<=S.length) (b:S.length<100000):
  aj n S (a:Int) 83=some (match numS 83 (S.drop a) with | .inl k=>(-1,((a+k:Nat):Int)) | .inr (v,k)=>((v:Int),((a+k:Nat):Int))):=Ks n 83 S a h b
noncomputable def LU (n:Nat) (a0:aa) (B M:Int) (g L:Bool):Option (Bool×Bool×aa×Int×Int×Int×Int):=
 (ob (ar (ax n) n (a0,B,B,M,false,false,[],0,0,g,L,[],0,0)) λo=>(Sum.casesOn (motive:=λ_=>Option (Bool×Bool×aa×Int×Int×Int×Int)) o (λb=>(some (b.2.2.1,b.2.2.2.1,b.2.2.2.2.1,b.2.2.2.2.2.1,b.2.2.2.2.2.2,b.1,b.2.1))) (λa=>(cond (decide ((IntKind.wrap .i64 (a.2.1 - a.2.2.1))<1)) (some (false,false,[],0,0,a.2.1,5)) (cond (!a.2.2.2.2.2.2.2.2.2.1) (cond (decide ((IntKind.wrap .i64 (a.2.1 - a.2.2.1))<4)) (some (false,false,[],0,0,a.2.1,5)) (ob (bx (List.length a.1) a.2.1) λk=>(ob (bx k a.2.2.1) λm=>(cond a.2.2.2.2.2.2.2.2.2.1 (ob (aj n a.1 a.2.1 69) λd=>(cond (decide (d.1<0)) (some (false,false,[],0,0,d.2,5)) (ob (aj n a.1 d.2 83) λi=>(cond (decide (i.1<0)) (some (false,false,[],0,0,i.2,5)) (some (a.2.2.2.2.2.2.2.2.1,a.2.2.2.2.2.2.2.2.2.1,(List.drop m (List.take k a.1)),d.1,i.1,i.2,0)))))) (ob (aj n a.1 a.2.1 83) λh=>(cond (decide (h.1<0)) (some (false,false,[],0,0,h.2,5)) (some (a.2.2.2.2.2.2.2.2.1,a.2.2.2.2.2.2.2.2.2.1,(List.drop m (List.take k a.1)),a.2.2.2.2.2.2.2.2.2.2.2.1,h.1,h.2,0)))))))) (ob (bx (List.length a.1) a.2.1) λj=>(ob (bx j a.2.2.1) λl=>(cond a.2.2.2.2.2.2.2.2.2.1 (ob (aj n a.1 a.2.1 69) λc=>(cond (decide (c.1<0)) (some (false,false,[],0,0,c.2,5)) (ob (aj n a.1 c.2 83) λf=>(cond (decide (f.1<0)) (some (false,false,[],0,0,f.2,5)) (some (a.2.2.2.2.2.2.2.2.1,a.2.2.2.2.2.2.2.2.2.1,(List.drop l (List.take j a.1)),c.1,f.1,f.2,0)))))) (ob (aj n a.1 a.2.1 83) λe=>(cond (decide (e.1<0)) (some (false,false,[],0,0,e.2,5)) (some (a.2.2.2.2.2.2.2.2.1,a.2.2.2.2.2.2.2.2.2.1,(List.drop l (List.take j a.1)),a.2.2.2.2.2.2.2.2.2.2.2.1,e.1,e.2,0))))))))))))
theorem LD (c:UInt8):isYB true c=bv c:=by unfold isYB;cases bv c<;>simp
theorem IJ (c:UInt8):isYB false c=isDX c:=by unfold isYB isDX;simp
theorem qW (p:UInt8->Bool):∀(k:Nat) (l:aa),bD p k l<=k
 | 0,l=>by simp [bD]
 | k+1,[]=>by simp [bD]
 | k+1,c::l=>by
  have:=qW p k l;simp only [bD];split<;>omega
theorem FB:decide ((-1:Int)<0)=true:=rfl
theorem FG (x:Nat):decide (((x:Nat):Int)<0)=false:=aq (by omega)
theorem JE (n:Nat) (S:aa) (a o:Nat) (g:Bool) (h:a+o<=S.length) (v:S.length<100000) (I:S.length<n):
  LU n S ((a+o:Nat):Int) 17 g true=some (oz a (tH g o (S.drop (a+o)))):=by
 unfold LU;cases f:S.drop (a+o) with
 | nil=>
  have t:¬(true=true/\S[a+o]?=some 48):=by
   rintro ⟨_,q⟩;rw [bU q] at f;cases f
  have l:=Ao n S (a+o) 17 g true h v I t;rw [f] at l;have N:bD (isYB true) 17 []=0:=rfl;rw [N,cN] at l;have hl':ar (ax n) n (S,((a+o:Nat):Int),((a+o:Nat):Int),(17:Int),false,false,[],0,0,g,true,[],0,0)=_:=l;rw [hl'];have w:IntKind.wrap .i64 (((a+o:Nat):Int) - ((a+o:Nat):Int))=0:=by rw [Int.sub_self];rfl
  simp only [ob,w,tH,oz];rfl
 | cons c r=>
  obtain ⟨J,G,R⟩:=nz f;by_cases hc:c=48
  ·subst hc;obtain ⟨D,rfl⟩:∃q,n=q+1:=⟨n - 1,by omega⟩;have l:=NL D S (a+o) 17 g (by omega) v G;have hl':ar (ax (D+1)) (D+1) (S,((a+o:Nat):Int),((a+o:Nat):Int),(17:Int),false,false,[],0,0,g,true,[],0,0)=_:=l;rw [hl'];have m:¬(49<=(48:UInt8).toNat/\(48:UInt8).toNat<=57):=by decide
   simp only [ob,tH,oz];rw [ab m]
  ·have m:¬(true=true/\S[a+o]?=some 48):=by
    rintro ⟨_,q⟩;rw [G] at q;exact hc (by simpa using q)
   have l:=Ao n S (a+o) 17 g true h v I m;rw [f,kv LD] at l;have F:=lW bv 17 (c::r);have P:(c::r).length+(a+o)=S.length:=by
    have:=ch List.length f;rw [bR] at this;omega
   have hl':ar (ax n) n (S,((a+o:Nat):Int),((a+o:Nat):Int),(17:Int),false,false,[],0,0,g,true,[],0,0)=_:=l;rw [hl'];have w:∀k:Nat,k<=17->IntKind.wrap .i64 (((a+o+k:Nat):Int) - ((a+o:Nat):Int))=(k:Int):=by
    intro k H;rw [wrap_i64 _ (by omega) (by omega)];omega
   by_cases d:bv c=true
   ·have M:=(cv c).1 d;have u:49<=c.toNat/\c.toNat<=57:=by
     have:c.toNat≠48:=λe=>hc (gv.1 e);omega
    have b:bD bv 17 (c::r)=1+bD bv 16 r:=by
     show bD bv (16+1) (c::r)=_;simp only [bD,d,aJ];omega
    rw [b] at F ⊢;have B:=qW bv 16 r;simp only [tH];rw [ae u];generalize bD bv 16 r=k at F B ⊢;have L:decide (((1+k:Nat):Int)<1)=false:=aq (by omega);simp only [ob,w (1+k) (by omega),L,af,co,ah,dY (show a+o+(1+k)<=S.length by omega),dY (show a+o<=a+o+(1+k) by omega)];have A:a+o+(1+k)<=S.length:=by omega
    have y:S.drop (a+o+(1+k))=List.drop (1+k) (c::r):=by rw [<-f,iR]
    rw [JZ n S (a+o+(1+k)) A v,y,m7,f];cases K:numS 69 (List.drop (1+k) (c::r)) with
    | inl j=>
     simp only [FB,ah,oz];have:a+o+(1+k)+j=a+(o+(1+k)+j):=by omega
     rw [this]
    | inr p=>
     obtain ⟨x,j⟩:=p;have E:=K;rw [<-y] at E;have C:=zD A E;have z:S.drop (a+o+(1+k)+j)=List.drop (1+k+j) (c::r):=by rw [<-f,iR];congr 1;omega
     simp only [FG,af];rw [Ds n S (a+o+(1+k)+j) C v,z];cases O:numS 83 (List.drop (1+k+j) (c::r)) with
     | inl i=>
      simp only [FB,ah,oz];have:a+o+(1+k)+j+i=a+(o+(1+k)+j+i):=by omega
      rw [this]
     | inr Q=>
      obtain ⟨s,i⟩:=Q;simp only [FG,af,oz];have:a+o+(1+k)+j+i=a+(o+(1+k)+j+i):=by omega
      rw [this]
   ·have b:bD bv 17 (c::r)=0:=by
     show bD bv (16+1) (c::r)=0;simp only [bD];rw [ab d]
    have u:¬(49<=c.toNat/\c.toNat<=57):=λq=>d ((cv c).2 (by omega));rw [b];simp only [tH];rw [ab u];simp only [ob,w 0 (by omega),oz];rfl
theorem IA (n:Nat) (S:aa) (a o:Nat) (g:Bool) (h:a+o<=S.length) (l:S.length<100000) (r:S.length<n):
  LU n S ((a+o:Nat):Int) 4 g false=some (oz a (vc g o (S.drop (a+o)))):=by
 unfold LU;have f:=Ao n S (a+o) 4 g false h l r (by rintro ⟨q,_⟩;cases q);rw [kv IJ] at f;have j:=lW isDX 4 (S.drop (a+o));have b:=qW isDX 4 (S.drop (a+o));rw [bR] at j;have hl':ar (ax n) n (S,((a+o:Nat):Int),((a+o:Nat):Int),(4:Int),false,false,[],0,0,g,false,[],0,0)=_:=f;rw [hl'];unfold vc;generalize t:bD isDX 4 (S.drop (a+o))=k at j b ⊢;have w:IntKind.wrap .i64 (((a+o+k:Nat):Int) - ((a+o:Nat):Int))=(k:Int):=by rw [wrap_i64 _ (by omega) (by omega)];omega
 simp only [ob,w,ij,ah,af];by_cases m:k<4
 ·rw [ae m];have e:decide ((k:Int)<4)=true:=am (by omega);rw [e];have c:a+o+k=a+(o+k):=by omega
  simp only [ah,oz,c];cases decide ((k:Int)<1)<;>rfl
 ·rw [ab m];have d:k=4:=by omega
  subst d;have e:decide (((4:Nat):Int)<4)=false:=rfl;have c:decide (((4:Nat):Int)<1)=false:=rfl;have hp:a+o+4<=S.length:=by omega
  simp only [e,c,af,dY hp,dY (show a+o<=a+o+4 by omega)];rw [Ds n S (a+o+4) hp l,m7,iR];cases u:numS 83 (S.drop (a+o+4)) with
  | inl i=>
   simp only [FB,ah,oz];have:a+o+4+i=a+(o+4+i):=by omega
   rw [this]
  | inr p=>
   obtain ⟨s,i⟩:=p;simp only [FG,af,oz];have:a+o+4+i=a+(o+4+i):=by omega
   rw [this];rfl
theorem kE (c a:UInt8) (l:aa):ft c (a::l)=if a=c then 1 else 0:=by
 unfold ft;simp
theorem yh (c:UInt8):ft c []=0:=by unfold ft;simp
theorem Oa (n:Nat) (S:aa) (a:Nat) (h:a<=S.length) (E:S.length<100000) (F:S.length<n):
  lc n S (a:Int)=some (oz a (pS (S.drop a))):=by
 have A:=λo g q=>JE n S a o g q E F;have B:=λo g q=>IA n S a o g q E F;unfold LU at A B;have G:IntKind.wrap .i64 ((a:Int)+1)=((a+1:Nat):Int):=by rw [wrap_i64 _ (by omega) (by omega)];omega
 have I:IntKind.wrap .i64 (((a+1:Nat):Int)+1)=((a+2:Nat):Int):=by rw [wrap_i64 _ (by omega) (by omega)];omega
 unfold lc pS;rw [G,I];have x:=B 0 false (by omega);simp only [cN] at x;cases t:S.drop a with
 | nil=>
  have k:¬a<S.length:=by
   intro q;rw [bU (be q)] at t;cases t
  rw [iY,aq k,af,af,x,t];rfl
 | cons c r=>
  obtain ⟨y,H,i⟩:=nz t;have p:(((c.toNat:Nat):Int)==89)=(c==89):=nE c 89;have v:(((c.toNat:Nat):Int)==45)=(c==45):=nE c 45;rw [iY,am y,ah,dL H];simp only [ob];rw [p,v,kE];by_cases f:c=89
  ·have e:(c==89)=true:=bI.2 f;rw [e,ah,ae f,ae rfl,iY];have C:List.drop 1 (c::r)=r:=rfl;rw [C];have w:=A 1 false (by omega);cases m:r with
   | nil=>
    rw [m] at i;have k:¬a+1<S.length:=by
     intro q;rw [bU (be q)] at i;cases i
    simp only [ob] at w;rw [aq k,af,w,i,yh];rfl
   | cons d J=>
    rw [m] at i;obtain ⟨s,D,z⟩:=nz i;have u:(((d.toNat:Nat):Int)==45)=(d==45):=nE d 45;rw [am s,ah,dL D];simp only [];rw [u,kE];by_cases b:d=45
    ·have j:(d==45)=true:=bI.2 b;have l:=A 2 true (by omega);simp only [ob] at l;rw [j,ah,ae b,l];rw [show a+2=a+1+1 from rfl,z];rfl
    ·have j:(d==45)=false:=aM.2 b;simp only [ob] at w;rw [j,af,ab b,w,i];rfl
  ·have e:(c==89)=false:=aM.2 f;rw [e,af,ab f,ab (by decide),kE];by_cases b:c=45
   ·have j:(c==45)=true:=bI.2 b;have l:=B 1 true (by omega);simp only [ob] at l;rw [j,ae b];simp only [ah];rw [l,i];rfl
   ·have j:(c==45)=false:=aM.2 b;simp only [ob] at x;rw [j,ab b];simp only [af];rw [x,t];rfl
def wint (c:Int):Bool:=c==24||c==28||c==30
def uA (g:Bool) (d:aa) (x:Int):Bool:=!hasX d&&!g&&decide (val d x.toNat=E16)
def yrB (g:Bool) (d:aa) (x s:Int) (m:aa):Bool:=!(decide (0<s)&&!(m==[]))&&!(wint (sea m)&&uA g d x)
theorem BX (n:Nat) (t:200<n) (g l:Bool) (dg:aa) (x q:Int) (m d:aa) (k0 k1 k2:Int) (C:m.length<=18) (s:dg.length<=100):
  fN n g l dg x q m d k0 k1 k2=some (if okY g l dg x q then yrB g dg x q m else false):=by
 unfold fN;rw [AS n g l dg x q t s,qz n g l dg x q m d k0 k1 k2 C,tz,Au n g l dg x q t s];by_cases h:okY g l dg x q
 rotate_left
 ·rw [ab h,ab h];rfl
 rw [ae h,ae h];have body:(ob (some (sea m,decide (0<sea m))) λr=>(cond (!r.2) (some true) (ob (some (hasX dg)) λB=>(cond B (some true) (ob (some (if okY g l dg x q/\hasX dg=false then (if g then -((val dg x.toNat:Nat):Int) else ((val dg x.toNat:Nat):Int),(0:Int)) else (0,6))) λF=>(ob (iE n F.1 r.1) λA=>(some (A.2.2.2.2==0))))))))=some (!(wint (sea m)&&uA g dg x)):=by
  rcases pa m with v | ⟨j,p,rfl⟩
  ·rw [v];rfl
  ·have hs:=lL p;rw [hs];have hp:decide (0<((21+j:Nat):Int))=true:=by simp;omega
   rw [hp];cases o:hasX dg with
   | true=>
    have:uA g dg x=false:=by unfold uA;rw [o];rfl
    rw [this,wg];rfl
   | false=>
    rw [ae ⟨h,rfl⟩];obtain ⟨k,G,rfl,rfl,u⟩:=tD h o;have D:val dg k<=E16:=u.small;unfold E16 at D;have hc:dX (if g then -((val dg k:Nat):Int) else ((val dg k:Nat):Int)):=by
     unfold dX;cases g<;>simp<;>omega
    obtain ⟨a,b,c,e,w⟩:=WQ n (by omega) hc p;simp only [ob,co,af,cf];rw [w];simp only [au];have E:wint ((21+j:Nat):Int)=decide (j=3\/j=7\/j=9):=by
     unfold wint;rw [tN];simp only [iO,bI,cj];omega
    have y:uA g dg (k:Int)=decide ((if g then -((val dg k:Nat):Int) else ((val dg k:Nat):Int))=10000000000000000):=by
     unfold uA E16;rw [o,cf];cases g
     ·simp only [ij,nI,br,aA,nU];omega
     ·simp;omega
    rw [E,y];by_cases f:(if g then -((val dg k:Nat):Int) else ((val dg k:Nat):Int))=10000000000000000<;>by_cases i:j=3\/j=7\/j=9
    ·rw [ae ⟨f,i⟩,am f,am i];rfl
    ·rw [ab (λz=>i z.2),aq i];rfl
    ·rw [ab (λz=>f z.1),aq f,wg];rfl
    ·rw [ab (λz=>f z.1),aq f,wg];rfl
 show cond (decide (q>0)) (cond (!(m==[])) (some false) _) _=_;unfold yrB;rw [show (decide (q>0))=decide (0<q) from rfl];cases decide (0<q) with
 | false=>exact body
 | true=>
  cases (m==[]) with
  | false=>rfl
  | true=>exact body
theorem N2 (n:Nat) (i:200<n) (g l:Bool) (dg:aa) (x q:Int) (m d:aa) (k0 k1 k2:Int) (f:dg.length<=100):
  ji n g l dg x q m d k0 k1 k2=some (if okY g l dg x q/\yrB g dg x q m=true then 1 else 0):=by
 unfold ji;rw [Kv n g l dg x q i f,oN n (by omega) g l dg x q m d k0 k1 k2,oH n g l dg x q (by omega) (by omega)];by_cases h:okY g l dg x q
 rotate_left
 ·rw [ab h,ab (show ¬(okY g l dg x q/\yrB g dg x q m=true) from λz=>h z.1)];rfl
 rw [ae h];have T:(ob (some (if hasX dg then (1:Int) else 0)) λr=>(cond (r==1) (some (1:Int)) (ob (ak n dg x) λv=>(cond (v.1==10000000000000000) (cond (!g) (some 0) (some 1)) (some 1)))))=some (if uA g dg x then 0 else 1):=by
  cases b:hasX dg with
  | true=>
   have:uA g dg x=false:=by unfold uA;rw [b];rfl
   rw [this];rfl
  | false=>
   obtain ⟨k,p,rfl,rfl,a⟩:=tD h b;have j:=a.small;have o:=a.wide;have c:=jy n dg k a.dig (by omega) (by omega) (by omega);rw [ae j] at c;show ob (ak n dg (k:Int)) _=_;rw [c];show cond (((dval 0 dg*10 ^ k:Nat):Int)==10000000000000000) _ _=_;unfold uA val;rw [b,cf];have e:(((dval 0 dg*10 ^ k:Nat):Int)==10000000000000000)=decide (dval 0 dg*10 ^ k=E16):=by
    generalize dval 0 dg*10 ^ k=v;unfold E16;rw [tN];simp only [bI,cj];omega
   rw [e];cases decide (dval 0 dg*10 ^ k=E16)<;>cases g<;>rfl
 have body:(ob (some (sea m)) λr=>(cond (r != 24) (cond (r != 28) (cond (r != 30) (some (1:Int)) (ob (some (if hasX dg then (1:Int) else 0)) λr=>(cond (r==1) (some (1:Int)) (ob (ak n dg x) λv=>(cond (v.1==10000000000000000) (cond (!g) (some 0) (some 1)) (some 1)))))) (ob (some (if hasX dg then (1:Int) else 0)) λr=>(cond (r==1) (some (1:Int)) (ob (ak n dg x) λv=>(cond (v.1==10000000000000000) (cond (!g) (some 0) (some 1)) (some 1)))))) (ob (some (if hasX dg then (1:Int) else 0)) λr=>(cond (r==1) (some (1:Int)) (ob (ak n dg x) λv=>(cond (v.1==10000000000000000) (cond (!g) (some 0) (some 1)) (some 1)))))))=some (if (!(wint (sea m)&&uA g dg x))=true then 1 else 0):=by
  rw [T];show cond (sea m != 24) _ _=_;unfold wint;simp only [bne];cases (sea m==24)<;>cases (sea m==28)<;>cases (sea m==30)<;>cases uA g dg x<;>rfl
 unfold yrB;show cond (decide (q>0)) (cond (!(m==[])) (some 0) _) _=_;rw [show (decide (q>0))=decide (0<q) from rfl];simp only [h,jI];cases decide (0<q) with
 | false=>exact body
 | true=>
  cases (m==[]) with
  | false=>rfl
  | true=>exact body
def dB (m d:aa):Nat:=1+(if m==[] then 0 else 1)+(if d==[] then 0 else 1)
theorem tK (n:Nat) (e:100<n) (g l:Bool) (dg:aa) (x q:Int) (m d:aa) (k0 k1 k2:Int):bA n g l dg x q m d k0 k1 k2=some ((dB m d:Nat):Int):=by
 obtain ⟨n,rfl⟩:∃j,n=j+3:=⟨n - 3,by omega⟩;unfold bA dB;have s0:∀a:Int,bX (n+3) (a,m,d,0)=some (.inl (if m==[] then a else IntKind.wrap .i64 (a+1),m,d,1)):=λa=>by
  unfold bX;show cond (!(m==[])) _ _=_;cases (m==[])<;>rfl
 have c:∀a:Int,bX (n+3) (a,m,d,1)=some (.inl (if d==[] then a else IntKind.wrap .i64 (a+1),m,d,2)):=λa=>by
  unfold bX;show cond (!(d==[])) _ _=_;cases (d==[])<;>rfl
 have b:∀a:Int,bX (n+3) (a,m,d,2)=some (.inr a):=λa=>rfl;rw [ar,s0];show ob (ar _ (n+2) _) _=_;rw [ar,c];show ob (ar _ (n+1) _) _=_;rw [ar,b];cases (m==[])<;>cases (d==[])<;>rfl
theorem ox (n:Nat) (g l:Bool) (dg:aa) (x q:Int) (m d:aa) (k0 k1 k2:Int):aF n g l dg x q m d k0 k1 k2=some ((dB m d:Nat):Int):=by
 unfold aF dB;cases (m==[])<;>cases (d==[])<;>rfl
def allM (a b c:Int) (k:Nat):Int:=if 3<a\/3<b\/3<c\/(k<2/\b≠0)\/(k<3/\c≠0) then 9 else 0
theorem Hv (n:Nat) (w:3<n) (a b c:Int) (k:Nat) (u:1<=k/\k<=3) (v:0<=a) (t:0<=b) (hc:0<=c):
  dN n [a,b,c] (k:Int)=some (allM a b c k)/\bV n [a,b,c] (k:Int)=some (allM a b c k):=by
 obtain ⟨j,rfl⟩:∃j,n=j+4:=⟨n - 4,by omega⟩;have m:IntKind.wrap .i64 1=1:=rfl;have f:IntKind.wrap .i64 2=2:=rfl;have e:IntKind.wrap .i64 3=3:=rfl;have g:ix 3 0=some 0:=rfl;have i:ix 3 1=some 1:=rfl;have l:ix 3 2=some 2:=rfl;have hk':k=1\/k=2\/k=3:=by omega
 unfold allM;by_cases h:a>3
 ·rcases hk' with rfl | rfl | rfl<;>constructor<;>simp [bV,dN,ar,dC,ii,ip,ob,m,f,e,g,i,l,h]
 by_cases o:b>3
 ·rcases hk' with rfl | rfl | rfl<;>constructor<;>simp [bV,dN,ar,dC,ii,ip,ob,m,f,e,g,i,l,h,o]
 by_cases d:k=1/\b≠0
 ·obtain ⟨rfl,d⟩:=d;have q:b>0:=by omega
  have s:(b != 0)=true:=by simp [d]
  constructor<;>simp [bV,dN,ar,dC,ii,ip,ob,m,f,e,g,i,l,h,o,q,d,s]
 by_cases r:c>3
 ·rcases hk' with rfl | rfl | rfl<;>(try (simp at d;subst d))<;>constructor<;>simp [bV,dN,ar,dC,ii,ip,ob,m,f,e,g,i,l,h,o,r]
 by_cases p:k<3/\c≠0
 ·have q:c>0:=by omega
  have s:(c != 0)=true:=by simp [p.2]
  rcases hk' with rfl | rfl | rfl<;>(try (simp at d;subst d))<;>simp at p<;>constructor<;>simp [bV,dN,ar,dC,ii,ip,ob,m,f,e,g,i,l,h,o,r,q,p,s]
 rcases hk' with rfl | rfl | rfl<;>(try (simp at d;subst d))<;>(try (simp at p;subst p))<;>constructor<;>simp [bV,dN,ar,dC,ii,ip,ob,m,f,e,g,i,l,h,o,r]
theorem uc (m d:aa):1<=dB m d/\dB m d<=3:=by
 unfold dB;cases (m==[])<;>cases (d==[])<;>simp
def yrD (g l:Bool) (dg:aa) (x q:Int) (m:aa):Bool:=if okY g l dg x q then yrB g dg x q m else false
def chkD (g l:Bool) (dg:aa) (x q:Int) (m d:aa) (k0 k1 k2:Int):Int:=
 cond (!(yrD g l dg x q m)) 6 (cond (!(m==[])&&(!(decide (0<sea m))&&!(gI m 12))) 7
  (cond (!(d==[])&&((m==[])||(decide (0<sea m)||!(gI d 31)))) 8 (allM k0 k1 k2 (dB m d))))
theorem QE (m:aa):0<=sea m:=by
 rcases pa m with h | ⟨j,a,rfl⟩
 ·omega
 ·rw [lL a];omega
theorem Uc (m:aa):(sea m==0)=!(decide (0<sea m)):=by
 have:=QE m;by_cases h:sea m=0
 ·rw [h];rfl
 ·have a:0<sea m:=by omega
  rw [aM.2 h,am a];rfl
theorem BK (n:Nat) (k:200<n) (g l:Bool) (dg:aa) (x q:Int) (m d:aa) (k0 k1 k2:Int) (a:m.length<=18) (i:dg.length<=100) (c:0<=k0) (b:0<=k1) (p:0<=k2):
  jr n g l dg x q m d k0 k1 k2=some (chkD g l dg x q m d k0 k1 k2):=by
 have hy:fN n g l dg x q m d k0 k1 k2=some (yrD g l dg x q m):=BX n k g l dg x q m d k0 k1 k2 a i;have a1:dc n m 12=some (gI m 12):=Db n (by omega) m 12 (by omega);have a2:dc n d 31=some (gI d 31):=Db n (by omega) d 31 (by omega);have j:=(Hv n (by omega) k0 k1 k2 (dB m d) (uc m d) c b p).1;unfold jr chkD;rw [qz n g l dg x q m d k0 k1 k2 a,hy,a1,a2,tK n (by omega)];simp only [ob];rw [j];generalize yrD g l dg x q m=b1;generalize (m==[])=b2;generalize decide (0<sea m)=o;generalize gI m 12=f;generalize (d==[])=e;generalize gI d 31=h;cases b1<;>cases b2<;>cases o<;>cases f<;>cases e<;>cases h<;>rfl
theorem E0 (n:Nat) (k:200<n) (g l:Bool) (dg:aa) (x q:Int) (m d:aa) (k0 k1 k2:Int) (i:dg.length<=100) (b:0<=k0) (a:0<=k1) (p:0<=k2):
  kh n g l dg x q m d k0 k1 k2=some (chkD g l dg x q m d k0 k1 k2):=by
 have hy:ji n g l dg x q m d k0 k1 k2=some (if yrD g l dg x q m then 1 else 0):=by
  rw [N2 n k g l dg x q m d k0 k1 k2 i];unfold yrD;by_cases h:okY g l dg x q
  ·simp only [h,jI,aJ]
  ·simp only [h,wQ,aA];rfl
 have a1:dM n m 12=some (if gI m 12 then 1 else 0):=HJ n (by omega) m 12 (by omega);have a2:dM n d 31=some (if gI d 31 then 1 else 0):=HJ n (by omega) d 31 (by omega);have j:=(Hv n (by omega) k0 k1 k2 (dB m d) (uc m d) b a p).2;unfold kh chkD;rw [oN n (by omega) g l dg x q m d k0 k1 k2,hy,a1,a2,ox n];simp only [ob];rw [j,Uc];show cond ((if yrD g l dg x q m then (1:Int) else 0)==0) _ (cond _ (cond _ (cond _ _ (cond _ (cond _ _ (cond (decide (0<sea m)) _ _)) _)) (cond _ (cond _ _ (cond (decide (0<sea m)) _ _)) _)) (cond _ (cond _ _ (cond (decide (0<sea m)) _ _)) _))=_;generalize yrD g l dg x q m=b1;generalize (m==[])=b2;generalize decide (0<sea m)=o;generalize gI m 12=e;generalize (d==[])=c;generalize gI d 31=f;cases b1<;>cases b2<;>cases o<;>cases e<;>cases c<;>cases f<;>rfl
theorem NK {g l:Bool} {dg:aa} {x q:Int} {m d:aa} {k0 k1 k2:Int} (h:chkD g l dg x q m d k0 k1 k2=0):yrD g l dg x q m=true/\(m=[]\/0<sea m\/gI m 12=true)/\(d=[]\/(m≠[]/\sea m=0/\gI d 31=true))/\allM k0 k1 k2 (dB m d)=0:=by
 have hs:=QE m;unfold chkD at h;cases b1:yrD g l dg x q m with
 | false=>rw [b1] at h;exact absurd h (by simp)
 | true=>
  rw [b1] at h;simp only [co,af] at h;cases b2:(!(m==[])&&(!(decide (0<sea m))&&!(gI m 12))) with
  | true=>rw [b2] at h;exact absurd h (by simp)
  | false=>
   rw [b2] at h;simp only [af] at h;cases c:(!(d==[])&&((m==[])||(decide (0<sea m)||!(gI d 31)))) with
   | true=>rw [c] at h;exact absurd h (by simp)
   | false=>
    rw [c] at h;simp only [af] at h;refine ⟨rfl,?_,?_,h⟩
    ·by_cases a:m=[]
     ·exact .inl a
     ·by_cases b:0<sea m
      ·exact .inr (.inl b)
      ·simp [a,b] at b2;exact .inr (.inr b2)
    ·by_cases a:d=[]
     ·exact .inl a
     ·by_cases b:m=[]
      ·simp [a,b] at c
      ·by_cases e:0<sea m
       ·simp [a,b,e] at c
       ·simp [a,b,e] at c;exact .inr ⟨b,by omega,c⟩
theorem ru {s:aa} {g:Nat} (m:g<=31) (h:gI s g=true):s.length=2/\∀c∈s,isDX c=true:=by
 unfold gI at h;obtain ⟨i,l,hi⟩:=ui.1 h;have e:i<g:=kR.1 l;have dig:∀k:Nat,k<10->isDX (UInt8.ofNat (48+k))=true:=by decide
 have d:isDX 88=true:=by decide
 match s,hi with
 | [],hi=>simp [agr] at hi
 | [_],hi=>simp [agr] at hi
 | [a,b],hi=>
  refine ⟨rfl,?_⟩;simp only [agr,az,iO,bI] at hi;obtain ⟨j,f⟩:=hi;intro c hc;simp only [dr,sW,uz] at hc;rcases hc with rfl | rfl
  ·rcases j with rfl | rfl
   ·exact d
   ·exact dig _ (by omega)
  ·rcases f with rfl | rfl
   ·exact d
   ·exact dig _ (by omega)
 | _::_::_::_,hi=>simp [agr] at hi
theorem J7 {m:aa} (h:0<sea m):m.length=2/\∀c∈m,isDX c=true:=by
 rcases pa m with b | ⟨j,a,rfl⟩
 ·omega
 ·refine ⟨rfl,?_⟩;have:((List.range 21).all λj=>(two (21+j)).all isDX)=true:=by decide +kernel
  have:=(cL.1 this) j (by simpa using a);exact cL.1 this
def mt (k:Nat):aa:=if k=1 then [63] else if k=2 then [126] else if k=3 then [37] else []
def mkOf (c:UInt8):Nat:=if c=63 then 1 else if c=126 then 2 else if c=37 then 3 else 0
def VD (k a b c:Nat):Bool:=(decide (k<2)||b==a)&&(decide (k<3)||c==a)
def plA (k a b c:Nat):Nat×Nat×Nat:=if VD k a b c then (0,0,0) else (a,b,c)
def plB (k a b c:Nat):Nat×Nat×Nat:=if VD k a b c then (if k=1 then (a,0,0) else if k=2 then (0,a,0) else (0,0,a)) else (0,0,0)
def l3 (p:Nat×Nat×Nat):List Int:=[(p.1:Int),(p.2.1:Int),(p.2.2:Int)]
def spM (A B:Nat×Nat×Nat):Nat×Nat×Nat:=(A.1 ||| B.1 ||| B.2.1 ||| B.2.2,A.2.1 ||| B.2.1 ||| B.2.2,A.2.2 ||| B.2.2)
theorem DI (n k:Nat) (h:k<4):rE n (k:Int)=some (mt k,0)/\cD n (k:Int)=some (mt k):=by
 have:k=0\/k=1\/k=2\/k=3:=by omega
 rcases this with rfl | rfl | rfl | rfl<;>exact ⟨rfl,rfl⟩
noncomputable def Xe (m j:Nat):Bool:=
 (pG (m+300) (j:Int)==some (((mkOf (UInt8.ofNat j):Nat):Int),decide (0<mkOf (UInt8.ofNat j))))&&(dO (m+300) (j:Int)==some ((mkOf (UInt8.ofNat j):Nat):Int))
theorem Qn (m:Nat):(List.range 256).all (Xe m)=true:=by kernel_rfl
theorem ET (m:Nat) (c:UInt8):pG (m+300) ((c.toNat:Nat):Int)=some (((mkOf c:Nat):Int),decide (0<mkOf c))/\dO (m+300) ((c.toNat:Nat):Int)=some ((mkOf c:Nat):Int):=by
 have h:=(cL.1 (Qn m)) c.toNat (kR.2 c.toNat_lt);unfold Xe at h;rw [show UInt8.ofNat c.toNat=c by simp] at h;simp only [az,bI] at h;exact h
noncomputable def NM (m k a b c:Nat):Bool:=
 (pN (m+300) [(a:Int),(b:Int),(c:Int)] (k:Int)==some (l3 (plA k a b c),l3 (plB k a b c),0))&&(kj (m+300) [(a:Int),(b:Int),(c:Int)] (k:Int)==some (l3 (plA k a b c),l3 (plB k a b c)))
theorem U8 (m:Nat):((List.range 4).all λa=>NM m 1 a 0 0)=true:=by kernel_rfl
theorem Wy (m:Nat):((List.range 4).all λa=>(List.range 4).all λb=>NM m 2 a b 0)=true:=by kernel_rfl
theorem Xl (m:Nat):((List.range 4).all λa=>(List.range 4).all λb=>(List.range 4).all λc=>NM m 3 a b c)=true:=by kernel_rfl
theorem r4 {p:Nat->Bool} (h:(List.range 4).all p=true) {a:Nat} (b:a<4):p a=true:=(cL.1 h) a (kR.2 b)
theorem Uo (m k a b c:Nat) (i:1<=k/\k<=3) (d:a<4) (e:b<4) (hc:c<4) (g:k<2->b=0) (f:k<3->c=0):
  pN (m+300) [(a:Int),(b:Int),(c:Int)] (k:Int)=some (l3 (plA k a b c),l3 (plB k a b c),0)/\kj (m+300) [(a:Int),(b:Int),(c:Int)] (k:Int)=some (l3 (plA k a b c),l3 (plB k a b c)):=by
 have h:NM m k a b c=true:=by
  have:k=1\/k=2\/k=3:=by omega
  rcases this with rfl | rfl | rfl
  ·rw [g (by omega),f (by omega)];exact r4 (U8 m) d
  ·rw [f (by omega)];exact r4 (r4 (Wy m) d) e
  ·exact r4 (r4 (r4 (Xl m) d) e) hc
 unfold NM at h;simp only [az,bI] at h;exact h
theorem UH {k a b c:Nat} (d:a<4) (e:b<4) (hc:c<4):(plA k a b c).1<4/\(plA k a b c).2.1<4/\(plA k a b c).2.2<4/\(plB k a b c).1<4/\(plB k a b c).2.1<4/\(plB k a b c).2.2<4:=by
 unfold plA plB;split
 ·split
  ·simp [d]
  ·split<;>simp [d]
 ·simp [d,e,hc]
def inM (k:Nat) (A:Nat×Nat×Nat):Prop:=A.1<4/\A.2.1<4/\A.2.2<4/\(k<2->A.2.1=0)/\(k<3->A.2.2=0)
theorem uF {k:Nat} {A:Nat×Nat×Nat} (h:inM k A):allM (A.1:Int) (A.2.1:Int) (A.2.2:Int) k=0:=by
 obtain ⟨c,b,d,a,e⟩:=h;unfold allM;rw [ab (by omega)]
theorem or4 {a b:Nat} (c:a<4) (d:b<4):bits .or .u8 (a:Int) (b:Int)=((a ||| b:Nat):Int)/\a ||| b<4:=by
 have:((List.range 4).all λa=>(List.range 4).all λb=>bits .or .u8 (a:Int) (b:Int)==((a ||| b:Nat):Int)&&decide (a ||| b<4))=true:=by decide +kernel
 have:=r4 (r4 this c) d;simpa using this
theorem xZ (n:Nat) (w:9<n) (k:Nat) (A B:Nat×Nat×Nat) (l:1<=k/\k<=3) (r:inM k A) (q:inM k B):eH n (l3 A) (l3 B) (k:Int)=some (l3 (spM A B),0):=by
 obtain ⟨n,rfl⟩:∃j,n=j+5:=⟨n - 5,by omega⟩;have m:=(Hv (n+5) (by omega) (A.1:Int) (A.2.1:Int) (A.2.2:Int) k l (by omega) (by omega) (by omega)).1;have o:=(Hv (n+5) (by omega) (B.1:Int) (B.2.1:Int) (B.2.2:Int) k l (by omega) (by omega) (by omega)).1;rw [uF r] at m;rw [uF q] at o;have i:∀x:Nat,x<4->bits .or .u8 0 (x:Int)=(x:Int):=λx hx=>by
  have:=(or4 (show 0<4 by omega) hx).1;simpa using this
 have a:∀x y:Nat,x<4->y<4->bits .or .u8 (x:Int) (y:Int)=((x ||| y:Nat):Int):=λx y hx hy=>(or4 hx hy).1;have e:∀x y:Nat,x<4->y<4->x ||| y<4:=λx y hx hy=>(or4 hx hy).2;unfold eH;show ob (dN (n+5) [(A.1:Int),(A.2.1:Int),(A.2.2:Int)] (k:Int)) _=_;rw [m];show ob (dN (n+5) [(B.1:Int),(B.2.1:Int),(B.2.2:Int)] (k:Int)) _=_;rw [o];obtain ⟨a0,a1,a2⟩:=A;obtain ⟨b0,b1,b2⟩:=B;obtain ⟨g0,g,s,p,h⟩:=r;obtain ⟨c,b,d,t,f⟩:=q;simp only at g0 g s p h c b d t f;have hk':k=1\/k=2\/k=3:=by omega
 rcases hk' with rfl | rfl | rfl
 ·obtain rfl:=p (by omega);obtain rfl:=h (by omega);obtain rfl:=t (by omega);obtain rfl:=f (by omega);show some (([bits .or .u8 (a0:Int) (bits .or .u8 0 (b0:Int)),0,0]:List Int),(0:Int))=_;rw [i b0 c,a _ _ g0 c];simp [l3,spM]
 ·obtain rfl:=h (by omega);obtain rfl:=f (by omega);show some (([bits .or .u8 (a0:Int) (bits .or .u8 (bits .or .u8 0 (b1:Int)) (b0:Int)),bits .or .u8 (a1:Int) (bits .or .u8 0 (b1:Int)),0]:List Int),(0:Int))=_;rw [i b1 b,a _ _ b c,a _ _ g0 (e _ _ b c),a _ _ g b];simp [l3,spM,Nat.or_assoc,AL b1 b0]
 ·show some (([bits .or .u8 (a0:Int) (bits .or .u8 (bits .or .u8 (bits .or .u8 0 (b2:Int)) (b1:Int)) (b0:Int)),bits .or .u8 (a1:Int) (bits .or .u8 (bits .or .u8 0 (b2:Int)) (b1:Int)),bits .or .u8 (a2:Int) (bits .or .u8 0 (b2:Int))]:List Int),(0:Int))=_;rw [i b2 d,a _ _ d b,a _ _ (e _ _ d b) c,a _ _ g0 (e _ _ (e _ _ d b) c),a _ _ g (e _ _ d b),a _ _ s d];have v:a0 ||| (b2 ||| b1 ||| b0)=a0 ||| b0 ||| b1 ||| b2:=by rw [AL (b2 ||| b1) b0,AL b2 b1];simp only [Nat.or_assoc]
  have u:a1 ||| (b2 ||| b1)=a1 ||| b1 ||| b2:=by rw [AL b2 b1];simp only [Nat.or_assoc]
  rw [v,u];rfl
abbrev cI (x:Nat):Int:=(x:Int)
def bt (b a:Nat):Nat:=if b=1 then a%2 else a / 2%2
theorem QP (n:Nat) {a b:Nat} (d:a<4) (c:b=1\/b=2):iU n (a:Int) (b:Int)=some ((bt b a:Nat):Int):=by
 have h:a=0\/a=1\/a=2\/a=3:=by omega
 rcases h with rfl | rfl | rfl | rfl<;>rcases c with rfl | rfl<;>rfl
theorem Rl (b a:Nat):bt b a<=1:=by unfold bt;split<;>omega
def bts (b:Nat):List Nat->Nat
 | []=>0
 | x::l=>bt b x+bts b l
theorem XH (n k b i:Nat) (m:b=1\/b=2) (t:k<=3) (A X Y:List Int) (c:List Nat) (u:c.length=3) (q:∀x∈c,x<4):∀(r j a:Nat),j+r=k->a<=j+1->∀N,r<N->
  ar (ci n) N ((k:Int),(b:Int),(i:Int),(a:Int),(j:Int),A,c.map cI,X,Y)=some ((k:Int),(b:Int),(i:Int),((a+bts b ((c.take k).drop j):Nat):Int),A,c.map cI,X,Y):=by
 intro r
 induction r with
 | zero=>
  intro j a o d N l;obtain ⟨N,rfl⟩:∃k,N=k+1:=⟨N - 1,by omega⟩;have s:ci n ((k:Int),(b:Int),(i:Int),(a:Int),(j:Int),A,c.map cI,X,Y)=some (.inr ((k:Int),(b:Int),(i:Int),(a:Int),A,c.map cI,X,Y)):=by
   unfold ci;rw [bz,ab (show ¬((j:Int)<(k:Int)) by omega)]
  have e:(c.take k).drop j=[]:=jm (by rw [da];omega);rw [ar,s,e];rfl
 | succ r ih=>
  intro j a o d N l;obtain ⟨N,rfl⟩:∃k,N=k+1:=⟨N - 1,by omega⟩;have g:j<c.length:=by omega
  obtain ⟨x,hx⟩:∃x,c[j]?=some x:=⟨c[j],be g⟩;have h:(c.map cI)[j]?=some (x:Int):=by rw [mO,hx];rfl
  have f:=q x (fZ hx);have w:IntKind.wrap .i64 ((a:Int)+((bt b x:Nat):Int))=((a+bt b x:Nat):Int):=by have:=Rl b x;rw [wrap_i64 _ (by omega) (by omega)];omega
  have p:IntKind.wrap .i64 ((j:Int)+1)=((j+1:Nat):Int):=by rw [wrap_i64 _ (by omega) (by omega)];omega
  have s:ci n ((k:Int),(b:Int),(i:Int),(a:Int),(j:Int),A,c.map cI,X,Y)=some (.inl ((k:Int),(b:Int),(i:Int),((a+bt b x:Nat):Int),((j+1:Nat):Int),A,c.map cI,X,Y)):=by
   unfold ci;rw [bz,ae (show (j:Int)<(k:Int) by omega)];show ob (ix 3 (j:Int)) _=_;rw [dl (show j<3 by omega)];show ob ((c.map cI)[j]?) _=_;rw [h];show ob (iU n (x:Int) (b:Int)) _=_;rw [QP n f m];show some (Sum.inl ((k:Int),(b:Int),(i:Int),IntKind.wrap .i64 ((a:Int)+((bt b x:Nat):Int)),IntKind.wrap .i64 ((j:Int)+1),_))=_;rw [w,p]
  have e:(c.take k).drop j=x::(c.take k).drop (j+1):=bU (by rw [qf (by omega)];exact hx);rw [ar,s];have:=Rl b x;show ar _ N _=_;rw [ih (j+1) (a+bt b x) (by omega) (by omega) N (by omega),e];simp only [bts,gY]
def hit (k b i:Nat) (c a:List Nat):Bool:=decide (0<bt b (c.getD i 0)+bts b ((a.take k).drop i))
theorem Yr (n k b i:Nat) (w:9<n) (h:b=1\/b=2) (q:k<=3) (hi:i<k) (X:List Int) (a c:List Nat) (v:a.length=3) (s:c.length=3) (p:∀x∈a,x<4) (u:∀x∈c,x<4) (out:List Int) (o:Int) (l:out[i]?=some o):
  bB n ((k:Int),(b:Int),(i:Int),a.map cI,c.map cI,X,out)=some (.inl ((k:Int),(b:Int),((i+1:Nat):Int),a.map cI,c.map cI,X,cond (hit k b i a c) (out.set i (IntKind.wrap .u8 (o+(b:Int)))) out)):=by
 obtain ⟨x,hx⟩:∃x,a[i]?=some x:=⟨a[i],be (by omega)⟩;have g:(a.map cI)[i]?=some (x:Int):=by rw [mO,hx];rfl
 have d:=p x (fZ hx);have r:=Rl b x;have t:IntKind.wrap .i64 ((i:Int)+1)=((i+1:Nat):Int):=by rw [wrap_i64 _ (by omega) (by omega)];omega
 have f:=XH n k b i h q (a.map cI) X out c s u (k - i) i (bt b x) (by omega) (by omega) n (by omega);unfold bB;rw [bz,ae (show (i:Int)<(k:Int) by omega)];show ob (ix 3 (i:Int)) _=_;rw [dl (show i<3 by omega)];show ob ((a.map cI)[i]?) _=_;rw [g];show ob (iU n (x:Int) (b:Int)) _=_;rw [QP n d h];show ob (ar (ci n) n ((k:Int),(b:Int),(i:Int),((bt b x:Nat):Int),(i:Int),a.map cI,c.map cI,X,out)) _=_;rw [f];have m:hit k b i a c=decide (((bt b x+bts b ((c.take k).drop i):Nat):Int)>0):=by
  unfold hit;rw [BS,hx];rw [nU];simp only [yf];omega
 rw [m];show cond (decide (((bt b x+bts b ((c.take k).drop i):Nat):Int)>0)) (ob (ix 3 (i:Int)) λj=>ob (out[j]?) λy=>ob (ix 3 (i:Int)) λj2=>cond (Nat.blt j2 3) (some (Sum.inl ((k:Int),(b:Int),IntKind.wrap .i64 ((i:Int)+1),a.map cI,c.map cI,X,out.set j2 (IntKind.wrap .u8 (y+(b:Int)))))) none) (some (Sum.inl ((k:Int),(b:Int),IntKind.wrap .i64 ((i:Int)+1),a.map cI,c.map cI,X,out)))=_;rw [dl (show i<3 by omega),t];have e:Nat.blt i 3=true:=cZ (by omega);simp only [ob,l,e,ah];cases decide (((bt b x+bts b ((c.take k).drop i):Nat):Int)>0)<;>rfl
def addB (k b:Nat) (c a:List Nat) (o:List Int):List Int:=[cond (decide (0<k)&&hit k b 0 c a) (IntKind.wrap .u8 (o.getD 0 0+(b:Int))) (o.getD 0 0),cond (decide (1<k)&&hit k b 1 c a) (IntKind.wrap .u8 (o.getD 1 0+(b:Int))) (o.getD 1 0),cond (decide (2<k)&&hit k b 2 c a) (IntKind.wrap .u8 (o.getD 2 0+(b:Int))) (o.getD 2 0)]
theorem Of (n k b:Nat) (s:9<n) (l:b=1\/b=2) (p:1<=k/\k<=3) (X:List Int) (a c:List Nat) (r:a.length=3) (q:c.length=3) (m:∀x∈a,x<4) (t:∀x∈c,x<4) (f o1 g:Int):
  ar (bB n) n ((k:Int),(b:Int),0,a.map cI,c.map cI,X,[f,o1,g])=some ((k:Int),(b:Int),a.map cI,c.map cI,X,addB k b a c [f,o1,g]):=by
 obtain ⟨n,rfl⟩:∃j,n=j+5:=⟨n - 5,by omega⟩;have d:∀(N:Nat) (out:List Int),ar (bB (n+5)) (N+1) ((k:Int),(b:Int),((k:Nat):Int),a.map cI,c.map cI,X,out)=some ((k:Int),(b:Int),a.map cI,c.map cI,X,out):=λN out=>by
  rw [ar];have:bB (n+5) ((k:Int),(b:Int),((k:Nat):Int),a.map cI,c.map cI,X,out)=some (.inr ((k:Int),(b:Int),a.map cI,c.map cI,X,out)):=by
   unfold bB;rw [bz,ab (show ¬((k:Int)<(k:Int)) by omega)]
  rw [this]
 have h:=λ(i:Nat) (hi:i<k) (out:List Int) (o:Int) (ho:out[i]?=some o)=>Yr (n+5) k b i s l p.2 hi X a c r q m t out o ho;have hk':k=1\/k=2\/k=3:=by omega
 have e:=h 0 (by omega) [f,o1,g] f rfl;rcases hk' with rfl | rfl | rfl
 ·rw [ar];rw [show ((0:Nat):Int)=0 from rfl] at e;rw [e];show ar _ (n+3+1) (((1:Nat):Int),(b:Int),((1:Nat):Int),_)=_;rw [d];unfold addB;cases hit 1 b 0 a c<;>rfl
 ·rw [ar];rw [show ((0:Nat):Int)=0 from rfl] at e;rw [e];show ar _ (n+4) (((2:Nat):Int),(b:Int),((1:Nat):Int),_)=_;rw [ar,h 1 (by omega) _ o1 (by cases hit 2 b 0 a c<;>rfl)];show ar _ (n+2+1) (((2:Nat):Int),(b:Int),((2:Nat):Int),_)=_;rw [d];unfold addB;cases hit 2 b 0 a c<;>cases hit 2 b 1 a c<;>rfl
 ·rw [ar];rw [show ((0:Nat):Int)=0 from rfl] at e;rw [e];show ar _ (n+4) (((3:Nat):Int),(b:Int),((1:Nat):Int),_)=_;rw [ar,h 1 (by omega) _ o1 (by cases hit 3 b 0 a c<;>rfl)];show ar _ (n+3) (((3:Nat):Int),(b:Int),((2:Nat):Int),_)=_;rw [ar,h 2 (by omega) _ g (by cases hit 3 b 0 a c<;>cases hit 3 b 1 a c<;>rfl)];show ar _ (n+1+1) (((3:Nat):Int),(b:Int),((3:Nat):Int),_)=_;rw [d];unfold addB;cases hit 3 b 0 a c<;>cases hit 3 b 1 a c<;>cases hit 3 b 2 a c<;>rfl
def lN (p:Nat×Nat×Nat):List Nat:=[p.1,p.2.1,p.2.2]
theorem qF {x y:Nat} (hx:x<4) (hy:y<4) (b:Nat) (d:b=1\/b=2):decide (0<bt b (x ||| y))=decide (0<bt b x+bt b y):=by
 have:((List.range 4).all λa=>(List.range 4).all λc=>(decide (0<bt 1 (a ||| c))==decide (0<bt 1 a+bt 1 c))&&(decide (0<bt 2 (a ||| c))==decide (0<bt 2 a+bt 2 c)))=true:=by decide +kernel
 have:=r4 (r4 this hx) hy;simp only [az,bI] at this;rcases d with rfl | rfl
 ·exact this.1
 ·exact this.2
theorem rC {x:Nat} (hx:x<4):cond (decide (0<bt 2 x)) (IntKind.wrap .u8 (cond (decide (0<bt 1 x)) (IntKind.wrap .u8 (0+((1:Nat):Int))) 0+((2:Nat):Int))) (cond (decide (0<bt 1 x)) (IntKind.wrap .u8 (0+((1:Nat):Int))) 0)=(x:Int):=by
 have h:x=0\/x=1\/x=2\/x=3:=by omega
 rcases h with rfl | rfl | rfl | rfl<;>decide
theorem uO (n:Nat) (N:9<n) (k:Nat) (A B:Nat×Nat×Nat) (G:1<=k/\k<=3) (I:inM k A) (J:inM k B):eu n (l3 A) (l3 B) (k:Int)=some (l3 (spM A B)):=by
 obtain ⟨a0,a1,a2⟩:=A;obtain ⟨b0,b1,b2⟩:=B;obtain ⟨g0,m,u,v,t⟩:=I;obtain ⟨f,d,l,C,s⟩:=J;simp only at g0 m u v t f d l C s;have c:∀x y:Nat,x<4->y<4->x ||| y<4:=λx y hx hy=>(or4 hx hy).2;have E:∀x∈lN (a0,a1,a2),x<4:=by
  intro x hx;simp only [lN,dr,sW,uz] at hx;rcases hx with rfl | rfl | rfl<;>assumption
 have L:∀x∈lN (b0,b1,b2),x<4:=by
  intro x hx;simp only [lN,dr,sW,uz] at hx;rcases hx with rfl | rfl | rfl<;>assumption
 have run:=λ(b:Nat) (a:b=1\/b=2) (o0 o1 o2:Int)=>Of n k b N a G [0,0,0] (lN (a0,a1,a2)) (lN (b0,b1,b2)) rfl rfl E L o0 o1 o2;have z:=run 1 (.inl rfl) 0 0 0;obtain ⟨g,h,i,hp⟩:∃g h i,addB k 1 (lN (a0,a1,a2)) (lN (b0,b1,b2)) [0,0,0]=[g,h,i]:=⟨_,_,_,rfl⟩;have O:=run 2 (.inr rfl) g h i;rw [hp] at z;obtain ⟨n,rfl⟩:∃j,n=j+5:=⟨n - 5,by omega⟩;have F:cR (n+5) ((k:Int),1,l3 (a0,a1,a2),l3 (b0,b1,b2),[0,0,0],[0,0,0])=some (.inl ((k:Int),2,l3 (a0,a1,a2),l3 (b0,b1,b2),[0,0,0],[g,h,i])):=by
  unfold cR;show cond (decide ((1:Int)<=2)) (ob (ar (bB (n+5)) (n+5) ((k:Int),((1:Nat):Int),0,(lN (a0,a1,a2)).map cI,(lN (b0,b1,b2)).map cI,[0,0,0],[0,0,0])) _) _=_;rw [z];rfl
 have D:cR (n+5) ((k:Int),2,l3 (a0,a1,a2),l3 (b0,b1,b2),[0,0,0],[g,h,i])=some (.inl ((k:Int),3,l3 (a0,a1,a2),l3 (b0,b1,b2),[0,0,0],addB k 2 (lN (a0,a1,a2)) (lN (b0,b1,b2)) [g,h,i])):=by
  unfold cR;show cond (decide ((2:Int)<=2)) (ob (ar (bB (n+5)) (n+5) ((k:Int),((2:Nat):Int),0,(lN (a0,a1,a2)).map cI,(lN (b0,b1,b2)).map cI,[0,0,0],[g,h,i])) _) _=_;rw [O];rfl
 have M:∀out:List Int,cR (n+5) ((k:Int),3,l3 (a0,a1,a2),l3 (b0,b1,b2),[0,0,0],out)=some (.inr ([0,0,0],out)):=λout=>rfl;unfold eu;rw [ar,F];show ob (ar _ (n+4) _) _=_;rw [ar,D];show ob (ar _ (n+3) _) _=_;rw [ar,M];show some (addB k 2 (lN (a0,a1,a2)) (lN (b0,b1,b2)) [g,h,i])=_;rw [<-hp];have hk':k=1\/k=2\/k=3:=by omega
 have H:=λ(x y:Nat) (hx:x<4) (hy:y<4) (b:Nat) (a:b=1\/b=2)=>qF hx hy b a;rcases hk' with rfl | rfl | rfl
 ·obtain rfl:=v (by omega);obtain rfl:=t (by omega);obtain rfl:=C (by omega);obtain rfl:=s (by omega);have e:∀b,b=1\/b=2->hit 1 b 0 (lN (a0,0,0)) (lN (b0,0,0))=decide (0<bt b (a0 ||| b0)):=λb a=>by rw [qF g0 f b a];rfl
  show some [cond (hit 1 2 0 (lN (a0,0,0)) (lN (b0,0,0))) (IntKind.wrap .u8 (cond (hit 1 1 0 (lN (a0,0,0)) (lN (b0,0,0))) (IntKind.wrap .u8 (0+((1:Nat):Int))) 0+((2:Nat):Int))) (cond (hit 1 1 0 (lN (a0,0,0)) (lN (b0,0,0))) (IntKind.wrap .u8 (0+((1:Nat):Int))) 0),0,0]=_;rw [e 1 (.inl rfl),e 2 (.inr rfl),rC (c _ _ g0 f)];simp [l3,spM]
 ·obtain rfl:=t (by omega);obtain rfl:=s (by omega);have q:∀b,b=1\/b=2->hit 2 b 1 (lN (a0,a1,0)) (lN (b0,b1,0))=decide (0<bt b (a1 ||| b1)):=λb a=>by rw [qF m d b a];rfl
  have o:∀b,b=1\/b=2->hit 2 b 0 (lN (a0,a1,0)) (lN (b0,b1,0))=decide (0<bt b (a0 ||| b0 ||| b1)):=λb a=>by
   have r:=qF (c _ _ g0 f) d b a;have p:=qF g0 f b a;rw [r];have:hit 2 b 0 (lN (a0,a1,0)) (lN (b0,b1,0))=decide (0<bt b a0+(bt b b0+(bt b b1+0))):=rfl;rw [this];simp only [nU] at p ⊢;omega
  show some [cond (hit 2 2 0 (lN (a0,a1,0)) (lN (b0,b1,0))) (IntKind.wrap .u8 (cond (hit 2 1 0 (lN (a0,a1,0)) (lN (b0,b1,0))) (IntKind.wrap .u8 (0+((1:Nat):Int))) 0+((2:Nat):Int))) (cond (hit 2 1 0 (lN (a0,a1,0)) (lN (b0,b1,0))) (IntKind.wrap .u8 (0+((1:Nat):Int))) 0),cond (hit 2 2 1 (lN (a0,a1,0)) (lN (b0,b1,0))) (IntKind.wrap .u8 (cond (hit 2 1 1 (lN (a0,a1,0)) (lN (b0,b1,0))) (IntKind.wrap .u8 (0+((1:Nat):Int))) 0+((2:Nat):Int))) (cond (hit 2 1 1 (lN (a0,a1,0)) (lN (b0,b1,0))) (IntKind.wrap .u8 (0+((1:Nat):Int))) 0),0]=_;rw [o 1 (.inl rfl),o 2 (.inr rfl),q 1 (.inl rfl),q 2 (.inr rfl),rC (c _ _ (c _ _ g0 f) d),rC (c _ _ m d)];simp [l3,spM]
 ·have w:∀b,b=1\/b=2->hit 3 b 2 (lN (a0,a1,a2)) (lN (b0,b1,b2))=decide (0<bt b (a2 ||| b2)):=λb a=>by rw [qF u l b a];rfl
  have q:∀b,b=1\/b=2->hit 3 b 1 (lN (a0,a1,a2)) (lN (b0,b1,b2))=decide (0<bt b (a1 ||| b1 ||| b2)):=λb a=>by
   have r:=qF (c _ _ m d) l b a;have p:=qF m d b a;rw [r];have:hit 3 b 1 (lN (a0,a1,a2)) (lN (b0,b1,b2))=decide (0<bt b a1+(bt b b1+(bt b b2+0))):=rfl;rw [this];simp only [nU] at p ⊢;omega
  have o:∀b,b=1\/b=2->hit 3 b 0 (lN (a0,a1,a2)) (lN (b0,b1,b2))=decide (0<bt b (a0 ||| b0 ||| b1 ||| b2)):=λb a=>by
   have r:=qF (c _ _ (c _ _ g0 f) d) l b a;have p:=qF (c _ _ g0 f) d b a;have K:=qF g0 f b a;rw [r];have:hit 3 b 0 (lN (a0,a1,a2)) (lN (b0,b1,b2))=decide (0<bt b a0+(bt b b0+(bt b b1+(bt b b2+0)))):=rfl;rw [this];simp only [nU] at p K ⊢;omega
  show some [cond (hit 3 2 0 (lN (a0,a1,a2)) (lN (b0,b1,b2))) (IntKind.wrap .u8 (cond (hit 3 1 0 (lN (a0,a1,a2)) (lN (b0,b1,b2))) (IntKind.wrap .u8 (0+((1:Nat):Int))) 0+((2:Nat):Int))) (cond (hit 3 1 0 (lN (a0,a1,a2)) (lN (b0,b1,b2))) (IntKind.wrap .u8 (0+((1:Nat):Int))) 0),cond (hit 3 2 1 (lN (a0,a1,a2)) (lN (b0,b1,b2))) (IntKind.wrap .u8 (cond (hit 3 1 1 (lN (a0,a1,a2)) (lN (b0,b1,b2))) (IntKind.wrap .u8 (0+((1:Nat):Int))) 0+((2:Nat):Int))) (cond (hit 3 1 1 (lN (a0,a1,a2)) (lN (b0,b1,b2))) (IntKind.wrap .u8 (0+((1:Nat):Int))) 0),cond (hit 3 2 2 (lN (a0,a1,a2)) (lN (b0,b1,b2))) (IntKind.wrap .u8 (cond (hit 3 1 2 (lN (a0,a1,a2)) (lN (b0,b1,b2))) (IntKind.wrap .u8 (0+((1:Nat):Int))) 0+((2:Nat):Int))) (cond (hit 3 1 2 (lN (a0,a1,a2)) (lN (b0,b1,b2))) (IntKind.wrap .u8 (0+((1:Nat):Int))) 0)]=_;rw [o 1 (.inl rfl),o 2 (.inr rfl),q 1 (.inl rfl),q 2 (.inr rfl),w 1 (.inl rfl),w 2 (.inr rfl),rC (c _ _ (c _ _ (c _ _ g0 f) d) l),rC (c _ _ (c _ _ m d) l),rC (c _ _ u l)];rfl
def mkS (l:aa):Nat:=match l with | []=>0 | c::_=>mkOf c
def mkN (l:aa):Nat:=if mkS l=0 then 0 else 1
def twoN (l:aa):Nat:=bD isDX 2 l
theorem Rt (c:UInt8):mkOf c<4:=by
 unfold mkOf;split
 ·omega
 ·split
  ·omega
  ·split<;>omega
theorem DZ (l:aa):mkS l<4:=by
 cases l with
 | nil=>show 0<4;omega
 | cons c r=>exact Rt c
theorem We (l:aa):mkN l<=l.length:=by
 cases l with
 | nil=>exact aY 0
 | cons c r=>
  unfold mkN;split<;>simp
theorem RR (c:UInt8):hasB [63,126,37] c=decide (0<mkOf c):=by
 have:=iS (λc=>hasB [63,126,37] c==decide (0<mkOf c)) (by decide +kernel) c;simpa using this
theorem SO (m:Nat) (S:aa) (a:Nat) (h:a<=S.length) (i:S.length<100000):
  cJ (m+300) S (a:Int)=some (.inr (((mkS (S.drop a):Nat):Int),S,((a+mkN (S.drop a):Nat):Int))):=by
 unfold cJ;rw [pg (m+300) S a h];cases g:S.drop a with
 | nil=>
  have f:pG (m+300) 0=some (0,false):=by kernel_rfl
  show ob (pG (m+300) 0) _=_;rw [f];rfl
 | cons c r=>
  show ob (pG (m+300) ((c.toNat:Nat):Int)) _=_;rw [(ET m c).1];show cond (decide (0<mkOf c)) _ _=_;have b:mkS (c::r)=mkOf c:=rfl;by_cases hc:0<mkOf c
  ·rw [am hc];show ob (cu (m+300) [63,126,37] S (a:Int)) _=_;rw [AU (m+300) _ S a h (by omega),g];have e:hasB [63,126,37] c=true:=by rw [RR,am hc]
   have d:mkN (c::r)=1:=by unfold mkN;rw [b,ab (by omega)]
   rw [b,d];simp only [e,aJ,ob]
  ·rw [aq hc];have d:mkN (c::r)=0:=by unfold mkN;rw [b,ae (by omega)]
   rw [b,d];rfl
theorem Bg (m:Nat) (S:aa) (a:Nat) (h:a<=S.length) (j:S.length<100000) (e:Int):
  eO (m+300) S (a:Int) e=some (((mkS (S.drop a):Nat):Int),S,((a+mkN (S.drop a):Nat):Int),e):=by
 unfold eO;rw [lC];rcases aH a S.length with d | g
 ·have:decide (S.length<=a)=false:=by simp;omega
  rw [this];obtain ⟨c,hc⟩:∃c,S[a]?=some c:=⟨S[a],be d⟩;rw [dL hc,bU hc];show ob (dO (m+300) ((c.toNat:Nat):Int)) _=_;rw [(ET m c).2];have b:mkS (c::S.drop (a+1))=mkOf c:=rfl;show cond (decide (((mkOf c:Nat):Int)>0)) _ _=_;by_cases i:0<mkOf c
  ·have f:mkN (c::S.drop (a+1))=1:=by unfold mkN;rw [b,ab (by omega)]
   have:decide (((mkOf c:Nat):Int)>0)=true:=by simp;omega
   rw [this,b,f,ah];have w:IntKind.wrap .i64 ((a:Int)+1)=((a+1:Nat):Int):=by rw [wrap_i64 _ (by omega) (by omega)];omega
   rw [w]
  ·have f:mkN (c::S.drop (a+1))=0:=by unfold mkN;rw [b,ae (by omega)]
   have:decide (((mkOf c:Nat):Int)>0)=false:=by simp;omega
   rw [this,b,f,af];rfl
 ·have:decide (S.length<=a)=true:=by simp;omega
  rw [this,jm g];rfl
theorem Q5 (n:Nat) (S:aa) (a:Nat) (h:a<=S.length) (i:S.length<100000) (g:S.length<n):
  iP n S (a:Int)=some (if twoN (S.drop a)<2 then .inl (((a+twoN (S.drop a):Nat):Int),5,S,((a+twoN (S.drop a):Nat):Int)) else .inr ((S.drop a).take 2,S,((a+2:Nat):Int))):=by
 unfold iP;rw [vX n _ 2 2 S a h (by omega) g];have e:bD (hasB [88,48,49,50,51,52,53,54,55,56,57]) (2:Int).toNat (S.drop a)=twoN (S.drop a):=by
  unfold twoN;have f:(2:Int).toNat=2:=rfl;rw [f];exact kv (λc=>by rw [uR];rfl) _ _
 rw [e];by_cases b:twoN (S.drop a)<2
 ·rw [ae b,ae (by omega)];rfl
 ·have d:twoN (S.drop a)=2:=by
   have:=qW isDX 2 (S.drop a);unfold twoN at b ⊢;omega
  rw [ab b,ab (by omega),d];rfl
theorem Wb (c:UInt8):isDX c=((decide (48<=c.toNat)&&decide (c.toNat<=57))||c==88):=by
 unfold isDX;congr 1;rw [tN,cv];simp
theorem Hw (n:Nat) (S:aa) (a b i e:Int) (j:Nat) (t:S.length<100000) (hi:i<2) (s:j<=S.length) (u:0<=i):
  gX n (b,i,S,(j:Int),e,[],0,0)=some (match S.drop j with
   | []=>.inr (.inl ([],S,(j:Int),5))
   | c::_=>if isDX c then .inl (b,i+1,S,((j+1:Nat):Int),e,[],0,0) else .inr (.inl ([],S,(j:Int),5))):=by
 unfold gX;have o:decide (i<2)=true:=am hi;show cond (decide (i<2)) (cond (decide ((j:Int)>=((S.length:Nat):Int))) _ _) _=_;rw [o,lC];rcases aH j S.length with f | m
 ·have:decide (S.length<=j)=false:=by simp;omega
  rw [this];obtain ⟨c,hc⟩:∃c,S[j]?=some c:=⟨S[j],be f⟩;have q:IntKind.wrap .i64 (i+1)=i+1:=wrap_i64 _ (by omega) (by omega);have p:IntKind.wrap .i64 ((j:Int)+1)=((j+1:Nat):Int):=by rw [wrap_i64 _ (by omega) (by omega)];omega
  rw [bU hc];simp only [dL hc,ob,ah,af,q,p];rw [Wb];have d:(((c.toNat:Nat):Int) != 88)=!(c==88):=by rw [bne];congr 1;exact nE c 88
  rw [d];by_cases r:c.toNat<48
  ·have k:decide (((c.toNat:Nat):Int)<48)=true:=by simp;omega
   have g:decide (48<=c.toNat)=false:=by simp;omega
   rw [k,g];cases (c==88)<;>rfl
  ·have k:decide (((c.toNat:Nat):Int)<48)=false:=by simp;omega
   have g:decide (48<=c.toNat)=true:=by simp;omega
   rw [k,g];by_cases v:c.toNat<=57
   ·have h:decide (((c.toNat:Nat):Int)>57)=false:=by simp;omega
    have l:decide (c.toNat<=57)=true:=by simp;omega
    rw [h,l];rfl
   ·have h:decide (((c.toNat:Nat):Int)>57)=true:=by simp;omega
    have l:decide (c.toNat<=57)=false:=by simp;omega
    rw [h,l];cases (c==88)<;>rfl
 ·have:decide (S.length<=j)=true:=by simp;omega
  rw [this,jm m];rfl
theorem Np (n:Nat) (t:10<n) (S:aa) (a:Nat) (h:a<=S.length) (i:S.length<100000) (e:Int):
  jV n S (a:Int) e=some (if twoN (S.drop a)<2 then ([],S,((a+twoN (S.drop a):Nat):Int),5) else ((S.drop a).take 2,S,((a+2:Nat):Int),e)):=by
 obtain ⟨n,rfl⟩:∃j,n=j+3:=⟨n - 3,by omega⟩;unfold jV;rw [ar,Hw (n+3) S 0 (a:Int) 0 e a i (by omega) h (by omega)];cases k:S.drop a with
 | nil=>rfl
 | cons c r=>
  obtain ⟨m,s,f⟩:=nz k;cases hc:isDX c with
  | false=>
   have:twoN (c::r)=0:=by unfold twoN;simp [bD,hc]
   rw [this];simp [hc,ob]
  | true=>
   simp only [hc,aJ];rw [ar,Hw (n+3) S 0 (a:Int) (0+1) e (a+1) i (by omega) (by omega) (by omega),f];cases r with
   | nil=>
    have:twoN [c]=1:=by unfold twoN;simp [bD,hc]
    rw [this];rfl
   | cons d l=>
    obtain ⟨g,p,o⟩:=nz f;cases b:isDX d with
    | false=>
     have:twoN (c::d::l)=1:=by unfold twoN;simp [bD,hc,b]
     rw [this];simp [b,ob]
    | true=>
     have:twoN (c::d::l)=2:=by unfold twoN;simp [bD,hc,b]
     rw [this];simp only [b,aJ];have q:gX (n+3) ((a:Int),0+1+1,S,((a+1+1:Nat):Int),e,[],0,0)=some (.inr (.inr ((a:Int),S,((a+1+1:Nat):Int),e,[],0,0))):=rfl;rw [ar,q];show ob (bx S.length ((a+1+1:Nat):Int)) _=_;rw [dY (show a+1+1<=S.length by omega)];show ob (bx (a+1+1) (a:Int)) _=_;rw [dY (show a<=a+1+1 by omega)];have:List.drop a (List.take (a+1+1) S)=[c,d]:=by
      rw [wu,k];have:a+1+1 - a=2:=by omega
      rw [this];rfl
     show some (List.drop a (List.take (a+1+1) S),S,((a+1+1:Nat):Int),e)=_;rw [this];rfl
theorem cutD (r:Nat) (h:r<10):List.drop r (List.take (r+1) ([48,49,50,51,52,53,54,55,56,57]:aa))=[UInt8.ofNat (48+r)]:=by
 have:∀r,r<10->List.drop r (List.take (r+1) ([48,49,50,51,52,53,54,55,56,57]:aa))=[UInt8.ofNat (48+r)]:=by decide
 exact this r h
theorem CJ {k:Nat} (h:k<10):Lib.decDigits k=[UInt8.ofNat (48+k)]:=by
 rw [Lib.decDigits,dif_pos h]
theorem AH {k:Nat} (h:¬k<10) (a:k<100):Lib.decDigits k=[UInt8.ofNat (48+k / 10),UInt8.ofNat (48+k%10)]:=by
 rw [Lib.decDigits,dif_neg h,CJ (by omega)];rfl
theorem Jq (n k:Nat) (h:k<100):aG n (k:Int)=some (Lib.decDigits k):=by
 have f:Int.tmod (k:Int) 10=((k%10:Nat):Int):=rfl;have b:Int.tdiv (k:Int) 10=((k / 10:Nat):Int):=rfl;have g:IntKind.wrap .i64 (((k%10:Nat):Int)+1)=((k%10+1:Nat):Int):=by rw [wrap_i64 _ (by omega) (by omega)];omega
 have d:IntKind.wrap .i64 ((k / 10:Nat):Int)=((k / 10:Nat):Int):=wrap_i64 _ (by omega) (by omega);have c:IntKind.wrap .i64 (((k / 10:Nat):Int)+1)=((k / 10+1:Nat):Int):=by rw [wrap_i64 _ (by omega) (by omega)];omega
 simp only [aG,f,b,g,d,c,dY (show k%10+1<=10 by omega),dY (show k%10<=k%10+1 by omega),ob,cutD (k%10) (by omega)];by_cases a:k<10
 ·have e:decide ((k:Int)>=10)=false:=aq (by omega);rw [e,af,CJ a,rj a]
 ·have e:decide ((k:Int)>=10)=true:=am (by omega);rw [e,ah,dY (show k / 10+1<=10 by omega)];simp only [];rw [dY (show k / 10<=k / 10+1 by omega)];simp only [cutD (k / 10) (by omega)];rw [cb (by simp),AH a h];rfl
def ee (letter:UInt8) (v:Nat):aa:=if 0<v then letter::Lib.decDigits v else []
theorem MA {k:Nat} (h:k<100):1<=(Lib.decDigits k).length/\(Lib.decDigits k).length<=2:=by
 by_cases a:k<10
 ·rw [CJ a];simp
 ·rw [AH a h];simp
theorem xx (letter:UInt8) {k:Nat} (h:k<100):(ee letter k).length<=3:=by
 unfold ee;split
 ·have:=MA h;simp only [aC];omega
 ·simp
theorem kw (g l:Bool) (d:aa) (x s:Nat):gk g l d (x:Int) (s:Int)=(if l then [89] else [])++(if g then [45] else [])++d++ee 69 x++ee 83 s:=by
 unfold gk ee;simp only [cf];have b:(0<(x:Int))=(0<x):=by simp
 have a:(0<(s:Int))=(0<s):=by simp
 simp only [b,a]
theorem PK (n:Nat) (g l:Bool) (d:aa) (x s:Nat) (hx:x<100) (hs:s<100) (m:d.length<=1000):kZ n g l d (x:Int) (s:Int)=some (gk g l d (x:Int) (s:Int)):=by
 have t:=MA hx;have o:=MA hs;have ex:decide ((x:Int)>0)=decide (0<x):=by simp
 have i:decide ((s:Int)>0)=decide (0<s):=by simp
 have j:∀a:aa,a.length<=1100->(cond (decide (0<x)) (ob (aG n (x:Int)) λr=>(ob (cat ([69]:aa) r) λp=>(cat a p))) (some a))=some (a++ee 69 x):=by
  intro a e;unfold ee;by_cases h:0<x
  ·rw [am h,ah,ae h,Jq n x hx];simp only [ob];rw [cb (by simp;omega)];simp only [];rw [cb (by simp;omega)];rfl
  ·rw [aq h,ab h];simp
 have f:∀a:aa,a.length<=1200->(cond (decide (0<s)) (ob (aG n (s:Int)) λr=>(ob (cat ([83]:aa) r) λp=>(ob (cat a p) λq=>(some q)))) (some a))=some (a++ee 83 s):=by
  intro a e;unfold ee;by_cases h:0<s
  ·rw [am h,ah,ae h,Jq n s hs];simp only [ob];rw [cb (by simp;omega)];simp only [];rw [cb (by simp;omega)];rfl
  ·rw [aq h,ab h];simp
 have b:∀a:aa,a.length<=1100->(cond (decide (0<x)) (ob (aG n (x:Int)) λr=>(ob (cat ([69]:aa) r) λp=>(ob (cat a p) λz=>(cond (decide (0<s)) (ob (aG n (s:Int)) λr=>(ob (cat ([83]:aa) r) λp=>(ob (cat z p) λq=>(some q)))) (some z))))) (cond (decide (0<s)) (ob (aG n (s:Int)) λr=>(ob (cat ([83]:aa) r) λp=>(ob (cat a p) λq=>(some q)))) (some a)))=some (a++ee 69 x++ee 83 s):=by
  intro a e;have c:=j a e;by_cases h:0<x
  ·rw [am h,ah] at c ⊢;rw [Jq n x hx] at c ⊢;simp only [ob] at c ⊢;rw [cb (a:=[69]) (by simp;omega)] at c ⊢;simp only [] at c ⊢;rw [c];simp only [];have:=f (a++ee 69 x) (by have:=xx 69 hx;simp only [aL];omega);simp only [ob] at this;exact this
  ·rw [aq h,af];have k:ee 69 x=[]:=by unfold ee;rw [ab h]
   rw [k,nP];exact f a (by omega)
 rw [kw];unfold kZ;rw [ex,i];cases l<;>cases g
 ·rw [af,af,cb (by simp;omega)];exact b d (by omega)
 ·rw [af,ah,cb (by simp;omega)];exact b ([45]++d) (by simp;omega)
 ·rw [ah,af,cb (by simp;omega)];exact b ([89]++d) (by simp;omega)
 ·rw [ah,ah,cb (by simp;omega)];exact b ([89,45]++d) (by simp;omega)
def dG (p:UInt8->Bool) (l:aa):Prop:=∀c,l.head?=some c->p c=false
theorem rl {k:Nat} (h:k<10):(UInt8.ofNat (48+k)).toNat=48+k:=by
 rw [EX];exact rj (by omega)
theorem D8 (letter:UInt8) (v:Nat) (post:aa) (j:v<100) (i:dG bv post) (k:dG (λc=>c==letter) post):numS letter (ee letter v++post)=.inr (v,(ee letter v).length):=by
 unfold ee;by_cases h:0<v
 ·rw [ae h];by_cases f:v<10
  ·rw [CJ f];have b:=rl f;simp only [eI,eK];rw [nJ,ae rfl,oU,ae (by omega)];have a:48+v - 48=v:=by omega
   cases post with
   | nil=>
    rw [uk,b,a];rfl
   | cons e r=>
    have g:¬bv e=true:=by rw [i e rfl];simp
    rw [nL,ab g,b,a];rfl
  ·rw [AH f j];have b:=rl (show v / 10<10 by omega);have g:=rl (show v%10<10 by omega);simp only [eI,eK];rw [nJ,ae rfl,oU,ae (by omega),nL,ae ((cv _).2 (by omega)),b,g];rw [show 10*(48+v / 10 - 48)+(48+v%10 - 48)=v by omega];rfl
 ·rw [ab h];have d:v=0:=by omega
  subst d;cases post with
  | nil=>rfl
  | cons c r=>
   have hc:c≠letter:=by
    have:=k c rfl;simpa using this
   rw [eK,nJ,ab hc];rfl
theorem wx (letter:UInt8) (l:aa) (v k:Nat) (h:numS letter l=.inr (v,k)):v<100/\l.take k=ee letter v/\k<=l.length:=by
 cases l with
 | nil=>
  simp only [vE,om,bC] at h;obtain ⟨rfl,rfl⟩:=h;exact ⟨by omega,rfl,by simp⟩
 | cons c r=>
  rw [nJ] at h;by_cases hc:c=letter
  ·rw [ae hc] at h;cases r with
   | nil=>simp [A8] at h
   | cons d j=>
    rw [oU] at h;by_cases i:49<=d.toNat/\d.toNat<=57
    ·rw [ae i] at h;have g:d.toNat - 48<10:=by omega
     have a:UInt8.ofNat (48+(d.toNat - 48))=d:=by
      apply gv.1;rw [rl g];omega
     have one:(c::d::j).take 2=ee letter (d.toNat - 48):=by
      unfold ee;rw [ae (by omega),CJ g,a,hc];rfl
     cases j with
     | nil=>
      simp only [uk,om,bC] at h;obtain ⟨rfl,rfl⟩:=h;exact ⟨by omega,one,by simp⟩
     | cons e p=>
      rw [nL] at h;by_cases f:bv e=true
      ·rw [ae f] at h;simp only [om,bC] at h;obtain ⟨rfl,rfl⟩:=h;have n:=(cv e).1 f;refine ⟨by omega,?_,by simp⟩;unfold ee;have m:(10*(d.toNat - 48)+(e.toNat - 48)) / 10=d.toNat - 48:=by omega
       have o:(10*(d.toNat - 48)+(e.toNat - 48))%10=e.toNat - 48:=by omega
       have b:UInt8.ofNat (48+(e.toNat - 48))=e:=by
        apply gv.1;rw [rl (by omega)];omega
       rw [ae (by omega),AH (by omega) (by omega),m,o,a,b,hc];rfl
      ·rw [ab f] at h;simp only [om,bC] at h;obtain ⟨rfl,rfl⟩:=h;exact ⟨by omega,one,by simp⟩
    ·rw [ab i] at h;cases h
  ·rw [ab hc] at h;simp only [om,bC] at h;obtain ⟨rfl,rfl⟩:=h;exact ⟨by omega,rfl,by simp⟩
theorem wX {p:UInt8->Bool}:∀(r:aa) (k:Nat) (post:aa),(∀c∈r,p c=true)->r.length<=k->(dG p post\/r.length=k)->bD p k (r++post)=r.length
 | [],0,post,_,_,_=>by simp [bD]
 | [],k+1,post,_,_,h=>by
  cases post with
  | nil=>simp [bD]
  | cons c q=>
   rcases h with h | h
   ·have:=h c rfl;simp [bD,this]
   ·simp at h
 | c::r,0,post,_,h,_=>by simp at h
 | c::r,k+1,post,hp,b,h=>by
  have ih:=wX r k post (λd a=>hp d (by simp [a])) (by simpa using b) (by
   rcases h with h | h
   ·exact .inl h
   ·exact .inr (by simpa using h))
  simp only [eI,bD,hp c (by simp),aJ,ih,aC]
theorem zq {p:UInt8->Bool}:∀(k:Nat) (l:aa),∀c∈l.take (bD p k l),p c=true
 | 0,l=>by simp [bD]
 | k+1,[]=>by simp [bD]
 | k+1,c::l=>by
  simp only [bD];by_cases h:p c=true
  ·rw [ae h];intro d a;rw [nF,dr] at a;rcases a with rfl | a
   ·exact h
   ·exact zq k l d a
  ·rw [ab h];simp
theorem rH {letter:UInt8} {v:Nat} {post:aa} {p:UInt8->Bool} (a:p letter=false) (b:dG p post):dG p (ee letter v++post):=by
 unfold ee;intro c hc;by_cases h:0<v
 ·rw [ae h] at hc;simp only [eI,qZ,au] at hc;rw [<-hc];exact a
 ·rw [ab h] at hc;exact b c hc
def isYC (c:UInt8):Bool:=isDX c||c==69||c==83
theorem QX {l:aa} (h:dG isYC l):dG bv l:=λc hc=>by
 have:=h c hc;unfold isYC isDX at this;simp only [oV] at this;exact this.1.1.1
theorem XZ {l:aa} (h:dG isYC l):dG isDX l:=λc hc=>by
 have:=h c hc;unfold isYC at this;simp only [oV] at this;exact this.1.1
theorem Xv {l:aa} (h:dG isYC l):dG (λc=>c==69) l:=λc hc=>by
 have:=h c hc;unfold isYC at this;simp only [oV] at this;exact this.1.2
theorem XI {l:aa} (h:dG isYC l):dG (λc=>c==83) l:=λc hc=>by
 have:=h c hc;unfold isYC at this;simp only [oV] at this;exact this.2
theorem nV (c:UInt8) (l:aa):ft c (c::l)=1:=by rw [kE,ae rfl]
theorem oY {c a:UInt8} (h:a≠c) (l:aa):ft c (a::l)=0:=by rw [kE,ab h]
theorem Jt {g l:Bool} {d:aa} {x s:Nat} (h:okY g l d (x:Int) (s:Int)) (post:aa) (hp:dG isYC post):pS (gk g l d (x:Int) (s:Int)++post)=.inr (g,l,d,x,s,(gk g l d (x:Int) (s:Int)).length):=by
 have E:=kb h;have p:numS 83 (ee 83 s++post)=.inr (s,(ee 83 s).length):=D8 83 s post (by omega) (QX hp) (XI hp);have k:dG bv (ee 83 s++post):=rH (by decide) (QX hp);have H:dG isDX (ee 83 s++post):=rH (by decide) (XZ hp);rw [kw];cases l with
 | true=>
  have C:okL d (x:Int) (s:Int):=by simpa [okY] using h
  obtain ⟨⟨b,m,z,A,F,I,D,N⟩,O,B⟩:=C;obtain ⟨c,r,rfl⟩:∃c r,d=c::r:=by
   cases d with
   | nil=>simp at m
   | cons c r=>exact ⟨c,r,rfl⟩
  have u:=(cv c).1 (b c (by simp));have j:49<=c.toNat/\c.toNat<=57:=by
   have:c.toNat≠48:=λe=>A (by rw [show c=48 from gv.1 e];rfl);omega
  have a:c≠45:=by rintro rfl;exact absurd u.1 (by decide)
  have t:numS 69 (ee 69 x++(ee 83 s++post))=.inr (x,(ee 69 x).length):=D8 69 x _ (by omega) k (rH (by decide) (Xv hp));have f:bD bv 16 (r++(ee 69 x++(ee 83 s++post)))=r.length:=by
   refine wX r 16 _ (λe M=>b e (by simp [M])) (by simp only [aC] at z;omega) (.inl ?_);exact rH (by decide) k
  have body:∀o:Nat,tH g o ((c::r)++(ee 69 x++(ee 83 s++post)))=.inr (g,true,c::r,x,s,o+(1+r.length)+(ee 69 x).length+(ee 83 s).length):=by
   intro o;simp only [eI,tH];rw [ae j,f];have L:List.drop (1+r.length) (c::(r++(ee 69 x++(ee 83 s++post))))=ee 69 x++(ee 83 s++post):=by
    rw [pi,oJ,Da rfl]
   have J:List.drop (1+r.length+(ee 69 x).length) (c::(r++(ee 69 x++(ee 83 s++post))))=ee 83 s++post:=by
    rw [show 1+r.length+(ee 69 x).length=(r.length+(ee 69 x).length)+1 by omega,oJ,<-iQ,Da (by simp)]
   have K:List.take (1+r.length) (c::(r++(ee 69 x++(ee 83 s++post))))=c::r:=by
    rw [pi,nF,List.take_left' rfl]
   rw [L,t];simp only [];rw [J,p,K]
  unfold pS;cases g with
  | true=>
   simp only [aJ,eI,eK,iQ];rw [nV,ae rfl,oJ,cM,nV];have:=body 2;simp only [eI] at this;simp only [oJ,cM,show ((1:Nat)==1)=true from rfl,show 1+1=2 from rfl];rw [this];simp only [aC,aL];congr 6;omega
  | false=>
   simp only [aJ,br,aA,eI,eK,iQ];rw [nV,ae rfl,oJ,cM,oY a];have:=body 1;simp only [eI] at this;simp only [oJ,cM,show ((0:Nat)==1)=false from rfl,cN];rw [this];simp only [aC,aL];congr 6;omega
 | false=>
  have G:okS g d (x:Int) (s:Int):=by simpa [okY] using h
  obtain ⟨b,m,z,A,F,I,D⟩:=G;have w:x=0:=by omega
  subst w;have v:ee 69 0=[]:=rfl;have y:∀c∈d,isDX c=true:=λc hc=>by
   unfold isDX;rcases m c hc with q | q
   ·rw [q];rfl
   ·rw [q];simp
  have f:bD isDX 4 (d++(ee 83 s++post))=d.length:=wX d 4 _ y (by omega) (.inr b);have body:∀o:Nat,vc g o (d++(ee 83 s++post))=.inr (g,false,d,0,s,o+4+(ee 83 s).length):=by
   intro o;unfold vc;rw [f,b,ab (by omega),Da b,p,List.take_left' b]
  obtain ⟨c,r,rfl⟩:∃c r,d=c::r:=by
   cases d with
   | nil=>simp at b
   | cons c r=>exact ⟨c,r,rfl⟩
  have a:c≠45:=by
   rintro rfl;rcases m 45 (by simp) with q | q
   ·exact absurd ((cv _).1 q).1 (by decide)
   ·exact absurd q (by decide)
  have n:c≠89:=by
   rintro rfl;rcases m 89 (by simp) with q | q
   ·exact absurd ((cv _).1 q).2 (by decide)
   ·exact absurd q (by decide)
  have i:(45:UInt8)≠89:=by decide
  unfold pS;rw [v];cases g with
  | true=>
   simp only [aJ,br,aA,eI,eK,iQ];rw [oY i,ab (by decide),nV,oJ,cM];have:=body 1;simp only [eI] at this;rw [show ((1:Nat)==1)=true from rfl,this];simp only [aC,aL] at b ⊢;congr 6;omega
  | false=>
   simp only [br,aA,eI,eK,iQ];rw [oY n,ab (by decide),oY a,cM];have:=body 0;simp only [eI] at this;rw [show ((0:Nat)==1)=false from rfl,this];simp only [aC,aL] at b ⊢;congr 6;omega
theorem us (c:UInt8) (l:aa):l.take (ft c l)=if ft c l=1 then [c] else []:=by
 rcases lB c l with h | h
 ·rw [h];simp
 ·rw [h,ae rfl];unfold ft at h;split at h
  ·assumption
  ·cases h
theorem oO (l:aa) (i j:Nat):l.take (i+j)=l.take i++(l.drop i).take j:=by
 rw [List.take_add]
theorem qT {l:aa} {g o:Bool} {d:aa} {x s k:Nat} (h:pS l=.inr (g,o,d,x,s,k)):l.take k=gk g o d (x:Int) (s:Int)/\k<=l.length/\x<100/\s<100/\d.length<=17:=by
 rw [kw];unfold pS at h;by_cases f:ft 89 l=1
 ·rw [ae f] at h;have n:=us 89 l;rw [f,ae rfl] at n;have e:=us 45 (l.drop 1);have c45:=lB 45 (l.drop 1);generalize C:ft 45 (l.drop 1)=u at *;have a:l.take (1+u)=[89]++(if (u==1)=true then [45] else []):=by
   rw [oO,n,e];rcases c45 with rfl | rfl<;>rfl
  cases q:l.drop (1+u) with
  | nil=>rw [q] at h;simp [tH] at h
  | cons c r=>
   rw [q] at h;simp only [tH] at h;by_cases hc:49<=c.toNat/\c.toNat<=57
   ·rw [ae hc] at h;have z:=qW bv 16 r;have D:1+bD bv 16 r<=(c::r).length:=by have:=lW bv 16 r;simp only [aC];omega
    generalize G:1+bD bv 16 r=K at *;cases b:numS 69 (List.drop K (c::r)) with
    | inl j=>rw [b] at h;simp at h
    | inr p=>
     obtain ⟨F,j⟩:=p;rw [b] at h;simp only at h;cases m:numS 83 (List.drop (K+j) (c::r)) with
     | inl i=>rw [m] at h;simp at h
     | inr w=>
      obtain ⟨s',i⟩:=w;rw [m] at h;simp only [om,bC] at h;obtain ⟨rfl,rfl,rfl,rfl,rfl,rfl⟩:=h;obtain ⟨a1,a2,E⟩:=wx _ _ _ _ b;obtain ⟨b1,b2,y⟩:=wx _ _ _ _ m;rw [bR] at E y;have B:l.length=1+u+(c::r).length:=by
       have:=ch List.length q;rw [bR] at this;simp only [aC] at this ⊢;omega
      refine ⟨?_,by simp only [aC] at *;omega,a1,b1,by rw [da];omega⟩;rw [show 1+u+K+j+i=(1+u)+(K+(j+i)) by omega,oO,a,q,oO _ K,oO _ j,a2,iR,b2];simp
   ·rw [ab hc] at h;simp at h
 ·rw [ab f] at h;have e:=us 45 l;have c45:=lB 45 l;generalize C:ft 45 l=u at *;have a:l.take u=(if (u==1)=true then [45] else []):=by
   rw [e];rcases c45 with rfl | rfl<;>rfl
  unfold vc at h;by_cases A:bD isDX 4 (l.drop u)<4
  ·rw [ae A] at h;simp at h
  ·rw [ab A] at h;have v:=lW isDX 4 (l.drop u);rw [bR] at v;cases b:numS 83 (List.drop 4 (l.drop u)) with
   | inl i=>rw [b] at h;simp at h
   | inr w=>
    obtain ⟨s',i⟩:=w;rw [b] at h;simp only [om,bC] at h;obtain ⟨rfl,rfl,rfl,rfl,rfl,rfl⟩:=h;obtain ⟨b1,b2,y⟩:=wx _ _ _ _ b;rw [bR,bR] at y;refine ⟨?_,by omega,by omega,b1,by rw [da];omega⟩;rw [show u+4+i=u+(4+i) by omega,oO,a,oO _ 4,b2];have t:ee 69 0=[]:=rfl;rw [t];simp
abbrev DR:=Bool×Bool×aa×Nat×Nat×aa×aa×(Nat×Nat×Nat)×(Nat×Nat×Nat)×Nat
def mkE (S:aa) (p:Nat):Nat:=p+mkN (S.drop p)
def rd3 (S:aa) (y:YR) (d f g b h c a:Nat) (e:aa):Nat⊕DR:=
 if twoN (S.drop (mkE S (a+1)))<2 then .inl (mkE S (a+1)+twoN (S.drop (mkE S (a+1))))
 else .inr (y.1,y.2.1,y.2.2.1,y.2.2.2.1,y.2.2.2.2.1,e,(S.drop (mkE S (a+1))).take 2,spM (d,g,mkS (S.drop (a+1))) (f,b,mkS (S.drop (mkE S (a+1)+2))),(h,c,mkE S (a+1)),mkE S (mkE S (a+1)+2))
def rd2 (S:aa) (y:YR) (d c b a:Nat):Nat⊕DR:=
 if twoN (S.drop (mkE S (a+1)))<2 then .inl (mkE S (a+1)+twoN (S.drop (mkE S (a+1))))
 else if ft 45 (S.drop (mkE S (mkE S (a+1)+2)))=0 then .inr (y.1,y.2.1,y.2.2.1,y.2.2.2.1,y.2.2.2.2.1,(S.drop (mkE S (a+1))).take 2,[],spM (d,mkS (S.drop (a+1)),0) (c,mkS (S.drop (mkE S (a+1)+2)),0),(b,mkE S (a+1),0),mkE S (mkE S (a+1)+2))
 else rd3 S y d c (mkS (S.drop (a+1))) (mkS (S.drop (mkE S (a+1)+2))) b (mkE S (a+1)) (mkE S (mkE S (a+1)+2)) ((S.drop (mkE S (a+1))).take 2)
def qp (S:aa) (a:Nat):Nat⊕DR:=match pS (S.drop (mkE S a)) with
 | .inl k=>.inl (mkE S a+k)
 | .inr y=>if 0<y.2.2.2.2.1\/ft 45 (S.drop (mkE S (mkE S a+y.2.2.2.2.2)))=0
  then .inr (y.1,y.2.1,y.2.2.1,y.2.2.2.1,y.2.2.2.2.1,[],[],spM (mkS (S.drop a),0,0) (mkS (S.drop (mkE S a+y.2.2.2.2.2)),0,0),(mkE S a,0,0),mkE S (mkE S a+y.2.2.2.2.2))
  else rd2 S y (mkS (S.drop a)) (mkS (S.drop (mkE S a+y.2.2.2.2.2))) (mkE S a) (mkE S (mkE S a+y.2.2.2.2.2))
def WM (S:aa):Nat⊕DR->(Int×Int×aa×Int)⊕(Bool×Bool×aa×Int×Int×aa×aa×Int×Int×Int×List Int×aa×Int)
 | .inl k=>.inl ((k:Int),5,S,(k:Int))
 | .inr (g,l,dg,x,s,m,d,M,P,e)=>.inr (g,l,dg,(x:Int),(s:Int),m,d,(M.1:Int),(M.2.1:Int),(M.2.2:Int),l3 P,S,(e:Int))
theorem kX {S:aa} {p:Nat} (h:p<=S.length):mkE S p<=S.length:=by
 have:=We (S.drop p);rw [bR] at this;unfold mkE;omega
theorem vd {S:aa} {p:Nat} (a:¬twoN (S.drop p)<2):p+2<=S.length:=by
 have:=lW isDX 2 (S.drop p);unfold twoN at a;rw [bR] at this;omega
theorem rP {S:aa} {p:Nat} (h:¬ft 45 (S.drop p)=0):p+1<=S.length:=by
 have:=Ap 45 (S.drop p);rw [bR] at this;omega
theorem P8 (n:Nat) (g l:Bool) (d:aa) (x s:Int) (b a:aa) (k0 k1 k2:Int) (S:aa) (p:Nat) (h:p<=S.length) (e:S.length<100000) (c:S.length<n):
  kg n g l d x s b a k0 k1 k2 S (p:Int)=some (match pS (S.drop p) with
   | .inl k=>.inl (((p+k:Nat):Int),5,g,l,d,x,s,b,a,k0,k1,k2,S,((p+k:Nat):Int))
   | .inr y=>.inr (y.1,y.2.1,y.2.2.1,(y.2.2.2.1:Int),(y.2.2.2.2.1:Int),b,a,k0,k1,k2,S,((p+y.2.2.2.2.2:Nat):Int))):=by
 unfold kg;rw [Sv n S p h e c];cases pS (S.drop p) with
 | inl k=>rfl
 | inr y=>rfl
theorem Qc (n:Nat) (g l:Bool) (d:aa) (x s:Int) (c b:aa) (k0 k1 k2:Int) (S:aa) (p:Nat) (h:p<=S.length) (e:S.length<100000) (f:S.length<n):
  ka n g l d x s c b k0 k1 k2 S (p:Int)=some (if twoN (S.drop p)<2
   then .inl (((p+twoN (S.drop p):Nat):Int),5,g,l,d,x,s,c,b,k0,k1,k2,S,((p+twoN (S.drop p):Nat):Int))
   else .inr (g,l,d,x,s,(S.drop p).take 2,b,k0,k1,k2,S,((p+2:Nat):Int))):=by
 unfold ka;rw [Q5 n S p h e f];by_cases a:twoN (S.drop p)<2
 ·rw [ae a,ae a];rfl
 ·rw [ab a,ab a];rfl
theorem PC (n:Nat) (g l:Bool) (d:aa) (x s:Int) (b c:aa) (k0 k1 k2:Int) (S:aa) (p:Nat) (h:p<=S.length) (e:S.length<100000) (f:S.length<n):
  ki n g l d x s b c k0 k1 k2 S (p:Int)=some (if twoN (S.drop p)<2
   then .inl (((p+twoN (S.drop p):Nat):Int),5,g,l,d,x,s,b,c,k0,k1,k2,S,((p+twoN (S.drop p):Nat):Int))
   else .inr (g,l,d,x,s,b,(S.drop p).take 2,k0,k1,k2,S,((p+2:Nat):Int))):=by
 unfold ki;rw [Q5 n S p h e f];by_cases a:twoN (S.drop p)<2
 ·rw [ae a,ae a];rfl
 ·rw [ab a,ab a];rfl
theorem Su (m:Nat) (S:aa) (a:Nat) (h:a<=S.length) (j:S.length<100000) (F:S.length<m+300):
  jQ (m+300) S (a:Int)=some (WM S (qp S a)):=by
 have n:∀p,p<=S.length->cJ (m+300) S (p:Int)=some (.inr (((mkS (S.drop p):Nat):Int),S,((mkE S p:Nat):Int))):=λp hp=>SO m S p hp j;have b:∀p,mkS (S.drop p)<4:=λp=>DZ _;have A:∀p q,eH (m+300) [((mkS (S.drop p):Nat):Int),0,0] [((mkS (S.drop q):Nat):Int),0,0] 1=some (l3 (spM (mkS (S.drop p),0,0) (mkS (S.drop q),0,0)),0):=λp q=>
  xZ (m+300) (by omega) 1 (mkS (S.drop p),0,0) (mkS (S.drop q),0,0) (by omega) ⟨b p,by simp,by simp,by simp,by simp⟩ ⟨b q,by simp,by simp,by simp,by simp⟩
 have D:∀p q i d,eH (m+300) [((mkS (S.drop p):Nat):Int),((mkS (S.drop i):Nat):Int),0] [((mkS (S.drop q):Nat):Int),((mkS (S.drop d):Nat):Int),0] 2=some (l3 (spM (mkS (S.drop p),mkS (S.drop i),0) (mkS (S.drop q),mkS (S.drop d),0)),0):=λp q i d=>
  xZ (m+300) (by omega) 2 (mkS (S.drop p),mkS (S.drop i),0) (mkS (S.drop q),mkS (S.drop d),0) (by omega) ⟨b p,b i,by simp,by simp,by simp⟩ ⟨b q,b d,by simp,by simp,by simp⟩
 have B:∀p q i d e f,eH (m+300) [((mkS (S.drop p):Nat):Int),((mkS (S.drop i):Nat):Int),((mkS (S.drop e):Nat):Int)] [((mkS (S.drop q):Nat):Int),((mkS (S.drop d):Nat):Int),((mkS (S.drop f):Nat):Int)] 3=some (l3 (spM (mkS (S.drop p),mkS (S.drop i),mkS (S.drop e)) (mkS (S.drop q),mkS (S.drop d),mkS (S.drop f))),0):=λp q i d e f=>
  xZ (m+300) (by omega) 3 (mkS (S.drop p),mkS (S.drop i),mkS (S.drop e)) (mkS (S.drop q),mkS (S.drop d),mkS (S.drop f)) (by omega) ⟨b p,b i,b e,by simp,by simp⟩ ⟨b q,b d,b f,by simp,by simp⟩
 have b0:=kX h;unfold jQ qp;rw [n a h];simp only [ob,D9];rw [P8 _ _ _ _ _ _ _ _ _ _ _ S (mkE S a) b0 j F];cases H:pS (S.drop (mkE S a)) with
 | inl k=>rfl
 | inr y=>
  obtain ⟨g,l,dg,x,s,k⟩:=y;have bk:mkE S a+k<=S.length:=by
   have:=(qT H).2.1;rw [bR] at this;omega
  have b1:=kX bk;simp only [ob,d4,d8];rw [n (mkE S a+k) bk];simp only [ob];by_cases hs:0<s
  ·have:decide (((s:Nat):Int)>0)=true:=by simp;omega
   rw [this,ae (.inl hs)];simp only [ah];rw [A];rfl
  ·have:decide (((s:Nat):Int)>0)=false:=by simp;omega
   rw [this];simp only [af];rw [tP (m+300) 45 S _ b1 j];simp only [ob];by_cases o:ft 45 (S.drop (mkE S (mkE S a+k)))=0
   ·rw [ae (.inr o),o];simp only [show ((0:Nat)==1)=false from rfl,ij,ah,cN];rw [A];rfl
   ·have C:ft 45 (S.drop (mkE S (mkE S a+k)))=1:=(lB 45 _).resolve_left o;have w:=rP o;rw [ab (λz=>z.elim hs o),C];simp only [show ((1:Nat)==1)=true from rfl,co,af];unfold rd2;rw [n _ w];simp only [ob];have G:=kX w;rw [Qc _ _ _ _ _ _ _ _ _ _ _ S _ G j F];by_cases r:twoN (S.drop (mkE S (mkE S (mkE S a+k)+1)))<2
    ·rw [ae r,ae r];rfl
    ·rw [ab r,ab r];have b2:=vd r;simp only [ob,d4,d8];rw [n _ b2];simp only [ob];rw [this];simp only [af];have J:=kX b2;rw [tP (m+300) 45 S _ J j];simp only [ob];by_cases c:ft 45 (S.drop (mkE S (mkE S (mkE S (mkE S a+k)+1)+2)))=0
     ·rw [ae c,c];simp only [show ((0:Nat)==1)=false from rfl,ij,ah,cN];rw [D];rfl
     ·have v:=(lB 45 (S.drop (mkE S (mkE S (mkE S (mkE S a+k)+1)+2)))).resolve_left c;have t:=rP c;rw [ab c,v];simp only [show ((1:Nat)==1)=true from rfl,co,af];unfold rd3;rw [n _ t];simp only [ob];have E:=kX t;rw [PC _ _ _ _ _ _ _ _ _ _ _ S _ E j F];by_cases u:twoN (S.drop (mkE S (mkE S (mkE S (mkE S (mkE S a+k)+1)+2)+1)))<2
      ·rw [ae u,ae u];rfl
      ·rw [ab u,ab u];have I:=vd u;simp only [ob,d4,d8];rw [n _ I];simp only [ob];rw [B];rfl
def RE (S:aa) (P:List Int):Nat⊕DR->Bool×Bool×aa×Int×Int×aa×aa×Int×Int×Int×List Int×aa×Int×Int
 | .inl k=>(false,false,[],0,0,[],[],0,0,0,P,S,(k:Int),5)
 | .inr (g,l,dg,x,s,m,d,M,Q,e)=>(g,l,dg,(x:Int),(s:Int),m,d,(M.1:Int),(M.2.1:Int),(M.2.2:Int),l3 Q,S,(e:Int),0)
abbrev RdSt:=aa×Int×Int×List Int×Bool×Bool×aa×Int×Int×aa×aa×List Int×List Int×List Int×aa×Int×Int
def rdSt (S:aa) (i:Int) (g l:Bool) (dg:aa) (x s:Int) (b a:aa) (P A B:List Int) (p:Nat):RdSt:=
 (S,i,i,[0,0,0],g,l,dg,x,s,b,a,P,A,B,S,(p:Int),0)
theorem Ye (m:Nat) (S:aa) (a:Nat) (h:a<=S.length) (c:S.length<100000) (d:S.length<m+300):
  bf (m+300) (rdSt S 0 false false [] 0 0 [] [] [0,0,0] [0,0,0] [0,0,0] a)=some (match pS (S.drop (mkE S a)) with
   | .inl k=>.inr (.inr (false,false,[],0,0,[],[],0,0,0,[((mkE S a:Nat):Int),0,0],S,((mkE S a+k:Nat):Int),5))
   | .inr y=>.inl (rdSt S 1 y.1 y.2.1 y.2.2.1 (y.2.2.2.1:Int) (y.2.2.2.2.1:Int) [] [] [((mkE S a:Nat):Int),0,0] [((mkS (S.drop a):Nat):Int),0,0] [((mkS (S.drop (mkE S a+y.2.2.2.2.2)):Nat):Int),0,0] (mkE S (mkE S a+y.2.2.2.2.2)))):=by
 have b:∀p,p<=S.length->eO (m+300) S (p:Int) 0=some (((mkS (S.drop p):Nat):Int),S,((mkE S p:Nat):Int),0):=λp hp=>Bg m S p hp c 0;have b0:=kX h;unfold bf rdSt;simp only [d4,d8,d16,fQ,show (decide ((0:Int)<3))=true from rfl,show (decide ((0:Int)>0))=false from rfl,ah,af,ob];rw [b a h];simp only [ob,show ix 3 0=some 0 from rfl,show Nat.blt 0 3=true from rfl,ah,fL,show ((0:Int)==0)=true from rfl];rw [Oa (m+300) S (mkE S a) b0 c d];cases e:pS (S.drop (mkE S a)) with
 | inl k=>rfl
 | inr y=>
  obtain ⟨g,l,dg,x,s,k⟩:=y;have bk:mkE S a+k<=S.length:=by
   have:=(qT e).2.1;rw [bR] at this;omega
  simp only [oz,ob,d4,d8,d16,show ((0:Int) != 0)=false from rfl,af];rw [b _ bk];rfl
theorem XJ (m:Nat) (S:aa) (g l:Bool) (dg:aa) (x s:Nat) (e i k:Int) (q:Nat) (h:q<=S.length) (o:S.length<100000) (t:S.length<m+300):
  bf (m+300) (rdSt S 1 g l dg (x:Int) (s:Int) [] [] [e,0,0] [i,0,0] [k,0,0] q)=some (
   if 0<s\/ft 45 (S.drop q)=0 then .inr (.inl (1,false,false,[],0,0,[],[],0,0,0,[0,0,0],[],0,0,g,l,dg,(x:Int),(s:Int),[],[],0,0,0,[e,0,0],[i,0,0],[k,0,0],S,(q:Int),0))
   else if twoN (S.drop (mkE S (q+1)))<2 then .inr (.inr (false,false,[],0,0,[],[],0,0,0,[e,((mkE S (q+1):Nat):Int),0],S,((mkE S (q+1)+twoN (S.drop (mkE S (q+1))):Nat):Int),5))
   else .inl (rdSt S 2 g l dg (x:Int) (s:Int) ((S.drop (mkE S (q+1))).take 2) [] [e,((mkE S (q+1):Nat):Int),0] [i,((mkS (S.drop (q+1)):Nat):Int),0] [k,((mkS (S.drop (mkE S (q+1)+2)):Nat):Int),0] (mkE S (mkE S (q+1)+2)))):=by
 have r:∀p,p<=S.length->eO (m+300) S (p:Int) 0=some (((mkS (S.drop p):Nat):Int),S,((mkE S p:Nat):Int),0):=λp hp=>Bg m S p hp o 0;unfold bf rdSt;simp only [d4,d8,d16,fQ,iH,show (decide ((1:Int)<3))=true from rfl,show (decide ((1:Int)>0))=true from rfl,ah,af,ob,lC];by_cases hs:0<s
 ·have:decide (((s:Nat):Int)>0)=true:=by simp;omega
  rw [this,ae (.inl hs)];rfl
 ·have:decide (((s:Nat):Int)>0)=false:=by simp;omega
  rw [this];simp only [af];rcases aH q S.length with f | n
  ·obtain ⟨c,hc⟩:∃c,S[q]?=some c:=⟨S[q],be f⟩;have b:decide (S.length<=q)=false:=by simp;omega
   rw [b];simp only [af,dL hc,ob];have j:(((c.toNat:Nat):Int) != 45)=!(c==45):=by rw [bne];congr 1;exact nE c 45
   rw [j,bU hc,kE];by_cases a:c=45
   ·have w:IntKind.wrap .i64 ((q:Int)+1)=((q+1:Nat):Int):=by rw [wrap_i64 _ (by omega) (by omega)];omega
    rw [ae a,ab (show ¬(0<s\/(1:Nat)=0) from λz=>z.elim hs (by omega)),a];simp only [vb,co,af,ob,w];rw [r _ (by omega)];simp only [ob,show ix 3 1=some 1 from rfl,show Nat.blt 1 3=true from rfl,ah,fL,iI,show ((1:Int)==0)=false from rfl,show ((1:Int)==1)=true from rfl,af];have b1:=kX (show q+1<=S.length by omega);rw [Np (m+300) (by omega) S _ b1 o 0];by_cases d:twoN (S.drop (mkE S (q+1)))<2
    ·rw [ae d,ae d];rfl
    ·rw [ab d,ab d];simp only [ob,d4,d8,d16,show ((0:Int) != 0)=false from rfl,af];rw [r _ (vd d)];rfl
   ·have:(c==45)=false:=aM.2 a;rw [ab a,ae (.inr rfl),this];rfl
  ·have b:decide (S.length<=q)=true:=by simp;omega
   rw [b,jm n,yh,ae (.inr rfl)];rfl
theorem XG (m:Nat) (S:aa) (g l:Bool) (dg:aa) (x s:Nat) (k:aa) (f n r e t j:Int) (q:Nat) (h:q<=S.length) (v:S.length<100000) (z:S.length<m+300) (hs:¬0<s):
  bf (m+300) (rdSt S 2 g l dg (x:Int) (s:Int) k [] [f,e,0] [n,t,0] [r,j,0] q)=some (
   if ft 45 (S.drop q)=0 then .inr (.inl (2,false,false,[],0,0,[],[],0,0,0,[0,0,0],[],0,0,g,l,dg,(x:Int),(s:Int),k,[],0,0,0,[f,e,0],[n,t,0],[r,j,0],S,(q:Int),0))
   else if twoN (S.drop (mkE S (q+1)))<2 then .inr (.inr (false,false,[],0,0,[],[],0,0,0,[f,e,((mkE S (q+1):Nat):Int)],S,((mkE S (q+1)+twoN (S.drop (mkE S (q+1))):Nat):Int),5))
   else .inl (rdSt S 3 g l dg (x:Int) (s:Int) k ((S.drop (mkE S (q+1))).take 2) [f,e,((mkE S (q+1):Nat):Int)] [n,t,((mkS (S.drop (q+1)):Nat):Int)] [r,j,((mkS (S.drop (mkE S (q+1)+2)):Nat):Int)] (mkE S (mkE S (q+1)+2)))):=by
 have y:∀p,p<=S.length->eO (m+300) S (p:Int) 0=some (((mkS (S.drop p):Nat):Int),S,((mkE S p:Nat):Int),0):=λp hp=>Bg m S p hp v 0;unfold bf rdSt;simp only [d4,d8,d16,fQ,iH,show (decide ((2:Int)<3))=true from rfl,show (decide ((2:Int)>0))=true from rfl,ah,af,ob,lC];have:decide (((s:Nat):Int)>0)=false:=by simp;omega
 rw [this];simp only [af];rcases aH q S.length with i | u
 ·obtain ⟨c,hc⟩:∃c,S[q]?=some c:=⟨S[q],be i⟩;have b:decide (S.length<=q)=false:=by simp;omega
  rw [b];simp only [af,dL hc,ob];have o:(((c.toNat:Nat):Int) != 45)=!(c==45):=by rw [bne];congr 1;exact nE c 45
  rw [o,bU hc,kE];by_cases a:c=45
  ·have w:IntKind.wrap .i64 ((q:Int)+1)=((q+1:Nat):Int):=by rw [wrap_i64 _ (by omega) (by omega)];omega
   rw [ae a,ab (show ¬((1:Nat)=0) by omega),a];simp only [vb,co,af,ob,w];rw [y _ (by omega)];simp only [ob,show ix 3 2=some 2 from rfl,show Nat.blt 2 3=true from rfl,ah,fL,iI,show ((2:Int)==0)=false from rfl,show ((2:Int)==1)=false from rfl,af];have b1:=kX (show q+1<=S.length by omega);rw [Np (m+300) (by omega) S _ b1 v 0];by_cases d:twoN (S.drop (mkE S (q+1)))<2
   ·rw [ae d,ae d];rfl
   ·rw [ab d,ab d];simp only [ob,d4,d8,d16,show ((0:Int) != 0)=false from rfl,af];rw [y _ (vd d)];rfl
  ·have:(c==45)=false:=aM.2 a;rw [ab a,ae rfl,this];rfl
 ·have b:decide (S.length<=q)=true:=by simp;omega
  rw [b,jm u,yh,ae rfl];rfl
theorem wi (m:Nat) (S:aa) (a:Nat) (h:a<=S.length) (o:S.length<100000) (C:S.length<m+300):
  ∃P:List Int,P.length=3/\jp (m+300) S (a:Int)=some (RE S P (qp S a)):=by
 have b:∀p,mkS (S.drop p)<4:=λp=>DZ _;have w:∀p q,eu (m+300) [((mkS (S.drop p):Nat):Int),0,0] [((mkS (S.drop q):Nat):Int),0,0] 1=some (l3 (spM (mkS (S.drop p),0,0) (mkS (S.drop q),0,0))):=λp q=>
  uO (m+300) (by omega) 1 (mkS (S.drop p),0,0) (mkS (S.drop q),0,0) (by omega) ⟨b p,by simp,by simp,by simp,by simp⟩ ⟨b q,by simp,by simp,by simp,by simp⟩
 have u:∀p q i d,eu (m+300) [((mkS (S.drop p):Nat):Int),((mkS (S.drop i):Nat):Int),0] [((mkS (S.drop q):Nat):Int),((mkS (S.drop d):Nat):Int),0] 2=some (l3 (spM (mkS (S.drop p),mkS (S.drop i),0) (mkS (S.drop q),mkS (S.drop d),0))):=λp q i d=>
  uO (m+300) (by omega) 2 (mkS (S.drop p),mkS (S.drop i),0) (mkS (S.drop q),mkS (S.drop d),0) (by omega) ⟨b p,b i,by simp,by simp,by simp⟩ ⟨b q,b d,by simp,by simp,by simp⟩
 have r:∀p q i d e f,eu (m+300) [((mkS (S.drop p):Nat):Int),((mkS (S.drop i):Nat):Int),((mkS (S.drop e):Nat):Int)] [((mkS (S.drop q):Nat):Int),((mkS (S.drop d):Nat):Int),((mkS (S.drop f):Nat):Int)] 3=some (l3 (spM (mkS (S.drop p),mkS (S.drop i),mkS (S.drop e)) (mkS (S.drop q),mkS (S.drop d),mkS (S.drop f)))):=λp q i d e f=>
  uO (m+300) (by omega) 3 (mkS (S.drop p),mkS (S.drop i),mkS (S.drop e)) (mkS (S.drop q),mkS (S.drop d),mkS (S.drop f)) (by omega) ⟨b p,b i,b e,by simp,by simp⟩ ⟨b q,b d,b f,by simp,by simp⟩
 have b0:=kX h;unfold jp qp;show ∃P:List Int,P.length=3/\ob (ar (bf (m+300)) (m+299+1) (rdSt S 0 false false [] 0 0 [] [] [0,0,0] [0,0,0] [0,0,0] a)) _=_;rw [ar,Ye m S a h o C];cases F:pS (S.drop (mkE S a)) with
 | inl k=>(refine ⟨_,?_,rfl⟩;rfl)
 | inr y=>
  obtain ⟨g,l,dg,x,s,k⟩:=y;have bk:mkE S a+k<=S.length:=by
   have:=(qT F).2.1;rw [bR] at this;omega
  have b1:=kX bk;show ∃P:List Int,P.length=3/\ob (ar (bf (m+300)) (m+298+1) (rdSt S 1 g l dg (x:Int) (s:Int) [] [] [((mkE S a:Nat):Int),0,0] [((mkS (S.drop a):Nat):Int),0,0] [((mkS (S.drop (mkE S a+k)):Nat):Int),0,0] (mkE S (mkE S a+k)))) _=_;rw [ar,XJ m S g l dg x s _ _ _ _ b1 o C];simp only [];by_cases hc:0<s\/ft 45 (S.drop (mkE S (mkE S a+k)))=0
  ·rw [ae hc,ae hc];refine ⟨[0,0,0],rfl,?_⟩;simp only [ob,d4,d8,d16];rw [w];rfl
  ·rw [ab hc,ab hc];have hs:¬0<s:=λz=>hc (.inl z);have v:=rP (λz=>hc (.inr z));have J:=kX v;unfold rd2;by_cases j:twoN (S.drop (mkE S (mkE S (mkE S a+k)+1)))<2
   ·rw [ae j,ae j];(refine ⟨_,?_,rfl⟩;rfl)
   ·rw [ab j,ab j];have b2:=vd j;have I:=kX b2;show ∃P:List Int,P.length=3/\ob (ar (bf (m+300)) (m+297+1) (rdSt S 2 g l dg (x:Int) (s:Int) _ [] [_,_,0] [_,_,0] [_,_,0] (mkE S (mkE S (mkE S (mkE S a+k)+1)+2)))) _=_;rw [ar,XG m S g l dg x s _ _ _ _ _ _ _ _ I o C hs];by_cases c:ft 45 (S.drop (mkE S (mkE S (mkE S (mkE S a+k)+1)+2)))=0
    ·rw [ae c,ae c];refine ⟨[0,0,0],rfl,?_⟩;simp only [ob,d4,d8,d16];rw [u];rfl
    ·rw [ab c,ab c];have t:=rP c;have H:=kX t;unfold rd3;by_cases n:twoN (S.drop (mkE S (mkE S (mkE S (mkE S (mkE S a+k)+1)+2)+1)))<2
     ·rw [ae n,ae n];(refine ⟨_,?_,rfl⟩;rfl)
     ·rw [ab n,ab n];have G:∀(D E:aa) (P A B:List Int) (p:Nat),bf (m+300) (rdSt S 3 g l dg (x:Int) (s:Int) D E P A B p)=some (.inr (.inl (3,false,false,[],0,0,[],[],0,0,0,[0,0,0],[],0,0,g,l,dg,(x:Int),(s:Int),D,E,0,0,0,P,A,B,S,(p:Int),0))):=λ_ _ _ _ _ _=>rfl;show ∃P:List Int,P.length=3/\ob (ar (bf (m+300)) (m+296+1) (rdSt S 3 g l dg (x:Int) (s:Int) _ _ _ _ _ _)) _=_;rw [ar,G];refine ⟨[0,0,0],rfl,?_⟩;simp only [ob,d4,d8,d16];rw [r];rfl
theorem uf {g l:Bool} {d:aa} {x s:Nat} (h:okY g l d (x:Int) (s:Int)):(gk g l d (x:Int) (s:Int)).length<=25:=by
 have hs:=kb h;have c:=xx 69 (show x<100 by omega);have e:=xx 83 (show s<100 by omega);rw [kw];simp only [aL];have b:(if l=true then ([89]:aa) else []).length<=1:=by split<;>simp
 have a:(if g=true then ([45]:aa) else []).length<=1:=by split<;>simp
 omega
end Go.Sh
