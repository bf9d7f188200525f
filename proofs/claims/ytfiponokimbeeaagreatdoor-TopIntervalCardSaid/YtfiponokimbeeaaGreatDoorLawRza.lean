
/- Plain proofs, kept as far as they are needed here (printed by prune.py).
   Conditions: none. -/
import Derived.Laws.RangeString
import Derived.Laws.RangeAny
import Derived.Test.YtfiponokimbeeaaGreatDoorShR
import Derived.Lib.IndexLaws
import Derived.Test.YtfiponokimbeeaaGreatDoorAbsZ
set_option linter.unusedVariables false
set_option linter.unusedSimpArgs false
set_option maxRecDepth 100000
namespace Go.Sh
open Go.Abs
theorem fq {X Y:Type} {step:X->Option (X⊕Y)} (I:X->Prop) (b:X->Nat) (G:X->Y)
  (h:∀x,I x->(∃a,step x=some (.inl a)/\I a/\b a<b x/\G a=G x)\/step x=some (.inr (G x))):
  ∀(n:Nat) (x:X),I x->b x<n->ar step n x=some (G x)
 | 0,x,_,d=>by omega
 | n+1,x,hx,d=>by
  rcases h x hx with ⟨a,c,f,g,e⟩ | c
  ·simp only [ar,c];rw [fq I b G h n a f (by omega),e]
  ·simp only [ar,c]
theorem nk {X Y:Type} {step:X->Option (X⊕Y)} (I:X->Prop) (b:X->Nat) (Q:Y->Prop)
  (h:∀x,I x->(∃a,step x=some (.inl a)/\I a/\b a<b x)\/∃y,step x=some (.inr y)/\Q y):
  ∀(n:Nat) (x:X),I x->b x<n->∃y,ar step n x=some y/\Q y
 | 0,x,_,e=>by omega
 | n+1,x,hx,e=>by
  rcases h x hx with ⟨a,c,d,f⟩ | ⟨y,c,d⟩
  ·simp only [ar,c];exact nk I b Q h n a d (by omega)
  ·exact ⟨y,by simp only [ar,c],d⟩
theorem yP (x:Int):0<=IntKind.wrap .u8 x/\IntKind.wrap .u8 x<256:=by
 show 0<=x%256/\x%256<256;omega
theorem gh (x:Int) (a:0<=x) (b:x<256):IntKind.wrap .u8 x=x:=by
 show x%256=x;omega
theorem GP (x:Int):IntKind.wrap .u8 x=x%256:=rfl
theorem wrap_i64 (x:Int) (a:-9223372036854775808<=x) (b:x<9223372036854775808):IntKind.wrap .i64 x=x:=by
 simp only [IntKind.wrap,IntKind.signed,IntKind.bits];simp;omega
theorem dK {l:aa} {i:Nat} {c:UInt8} (h:l[i]?=some c):sx l (i:Int)=some c:=by
 simp [sx,h]
theorem fb {n i:Nat} (h:i<n):ix n (i:Int)=some i:=by
 simp [ix];omega
theorem da {n i:Nat} (h:i<=n):bx n (i:Int)=some i:=by
 simp [bx];omega
theorem zq {l:aa} {i:Nat} {c:UInt8} (h:l[i]?=some c) (hc:c.toNat<128):dec l i=(c.toNat,1):=by
 have a:i<l.length:=by
  rcases aF i l.length with b | b
  ·exact b
  ·rw [fX b] at h;cases h
 have hs:i<(ByteArray.mk l.toArray).size:=a;have d:(ByteArray.mk l.toArray)[i]'hs=c:=by
  rw [bn a] at h;simp only [ak] at h;exact h
 unfold dec;rw [decode_ascii _ i hs (by rw [d];exact hc),d]
theorem EY {l:aa} {i:Nat} {c:UInt8} (h:l[i]?=some c) (hc:128<=c.toNat):128<=(dec l i).1/\1<=(dec l i).2:=by
 have a:i<l.length:=by
  rcases aF i l.length with b | b
  ·exact b
  ·rw [fX b] at h;cases h
 have hs:i<(ByteArray.mk l.toArray).size:=a;have d:(ByteArray.mk l.toArray)[i]'hs=c:=by
  rw [bn a] at h;simp only [ak] at h;exact h
 unfold dec;exact decode_high _ i hs (by rw [d];exact hc)
theorem rY {α:Type} {l:List α} {i:Nat} {c:α} (h:l[i]?=some c):i<l.length:=by
 rcases aF i l.length with a | a
 ·exact a
 ·rw [fX a] at h;cases h
theorem bS {α:Type} {l:List α} {i:Nat} {c:α} (h:l[i]?=some c):l.drop i=c::l.drop (i+1):=by
 have a:=rY h;rw [bn a] at h;simp only [ak] at h;rw [<-h,rz a]
theorem ii {α β:Type} [BEq α] [LawfulBEq α] [DecidableEq α] (a b:α) (x y:β):(cond (a==b) x y)=if a=b then x else y:=by
 by_cases h:a=b
 ·subst h;simp
 ·rw [aL.2 h];simp [h]
theorem ua {α β:Type} [BEq α] [LawfulBEq α] [DecidableEq α] (a b:α) (x y:β):(cond (a != b) x y)=if a=b then y else x:=by
 by_cases h:a=b
 ·subst h;simp
 ·rw [bne,aL.2 h];simp [h]
theorem bC {β:Type} (p:Prop) [Decidable p] (x y:β):(cond (decide p) x y)=if p then x else y:=by
 by_cases h:p<;>simp [h]
theorem Fo {β:Type} (b:Bool) (x y:β):(cond (!b) x y)=cond b y x:=by cases b<;>rfl
theorem gK (a b:Nat):(decide (((a:Nat):Int)<((b:Nat):Int)))=decide (a<b):=by
 by_cases h:a<b<;>simp [h]
theorem kl (a b:Nat):(decide (((a:Nat):Int)>=((b:Nat):Int)))=decide (b<=a):=by
 by_cases h:b<=a<;>simp [h]
theorem na (c d:UInt8):((((c.toNat:Nat):Int))==((d.toNat:Nat):Int))=(c==d):=by
 by_cases h:c=d
 ·subst h;simp
 ·have b:c.toNat≠d.toNat:=λe=>h (fZ.1 e);have a:((c.toNat:Nat):Int)≠((d.toNat:Nat):Int):=by omega
  rw [aL.2 a,aL.2 h]
theorem U1 (c:UInt8):UInt8.ofNat (Int.toNat ((c.toNat:Nat):Int))=c:=by simp
def two (c:Nat):aa:=[UInt8.ofNat (48+c / 10),UInt8.ofNat (48+c%10)]
def sea (m:aa):Int:=match (List.range 21).find? (λj=>m==two (21+j)) with | some j=>((21+j:Nat):Int) | none=>0
theorem ma {j:Nat} (a:j<21):sea (two (21+j))=((21+j:Nat):Int):=by
 have:((List.range 21).all λj=>sea (two (21+j))==((21+j:Nat):Int))=true:=by decide +kernel
 simpa using (List.all_eq_true.1 this) j (by simpa using a)
theorem nu (m:aa):sea m=0\/∃j,j<21/\m=two (21+j):=by
 unfold sea;split
 ·rename_i j h;have b:=List.find?_some h;have a:=List.mem_of_find?_eq_some h;exact .inr ⟨j,by simpa using a,by simpa using b⟩
 ·exact .inl rfl
theorem oc {b:UInt8} {d:Nat} (h:Lib.digitVal b=some d):d<10/\b.toNat=48+d:=by
 unfold Lib.digitVal at h;split at h
 ·cases h;omega
 ·cases h
theorem L9 {a b:UInt8} {v:Int} (h:Lib.atoi [a,b]=some v) (p:21<=v) (q:v<42):∃j,j<21/\[a,b]=two (21+j)/\v=((21+j:Nat):Int):=by
 obtain ⟨b0,r,e,l⟩:=Lib.atoi_cases h;cases e;rcases l with ⟨_,m,_,_,i⟩ | ⟨_,m,_,c,i⟩ | ⟨_,_,m,c,i⟩
 ·omega
 ·simp only [Lib.decFrom] at c;split at c
  ·rename_i d g;have:=(oc g).1;simp only [ak] at c;omega
  ·cases c
 ·simp only [Lib.decFrom] at c;split at c
  ·rename_i d g;split at c
   ·rename_i d' f;obtain ⟨k1,k2⟩:=oc g;obtain ⟨o,k4⟩:=oc f;simp only [ak] at c;refine ⟨m - 21,by omega,?_,by omega⟩;have n:(21+(m - 21)) / 10=d:=by omega
    have k:(21+(m - 21))%10=d':=by omega
    unfold two;rw [n,k,<-k2,<-k4];simp
   ·cases c
  ·cases c
theorem vA {j:Nat} (a:j<21):Lib.atoi (two (21+j))=some ((21+j:Nat):Int):=by
 have:((List.range 21).all λj=>Lib.atoi (two (21+j))==some ((21+j:Nat):Int))=true:=by decide +kernel
 simpa using (List.all_eq_true.1 this) j (by simpa using a)
theorem pt (n:Nat) (g l:Bool) (dg:aa) (x q:Int) (m d:aa) (k0 k1 k2:Int) (k:m.length<=18):bg n g l dg x q m d k0 k1 k2=some (sea m,decide (0<sea m)):=by
 have i:Nat.ble m.length 18=true:=cG k;rcases nu m with h | ⟨j,c,rfl⟩
 ·unfold bg;rw [i,h];show opt (Lib.atoi m) _ _=_;cases o:Lib.atoi m with
  | none=>rfl
  | some v=>
   show cond _ _ _=_;by_cases f:m.length=2
   ·rw [f];obtain ⟨a,b,rfl⟩:∃a b,m=[a,b]:=by
     match m,f with
     | [a,b],_=>exact ⟨a,b,rfl⟩
    show ob (cY n v) _=_;unfold cY;rw [bC,bC];split
    ·rfl
    ·split
     ·rfl
     ·exfalso;obtain ⟨j,c,e,_⟩:=L9 o (by omega) (by omega);rw [e,ma c] at h;omega
   ·rw [show (((m.length:Nat):Int) != 2)=true by simp;omega];rfl
 ·rw [ma c];have e:bg n g l dg x q (two (21+j)) d k0 k1 k2=some (((21+j:Nat):Int),true):=by
   unfold bg;rw [i,vA c];show ob (cY n ((21+j:Nat):Int)) _=_;unfold cY;rw [bC,bC,ab (by omega),ab (by omega)];rfl
  rw [e];have:decide (0<((21+j:Nat):Int))=true:=by simp;omega
  rw [this]
theorem Oi (n:Nat) {c:Nat} (hc:c<100):aU n (c:Int)=some (two c):=by
 have i:Int.tdiv (c:Int) 10=((c / 10:Nat):Int):=by
  rw [show (10:Int)=((10:Nat):Int) from rfl,<-Int.ofNat_tdiv]
 have e:Int.tmod (c:Int) 10=((c%10:Nat):Int):=by
  rw [show (10:Int)=((10:Nat):Int) from rfl,<-Int.ofNat_tmod]
 have g:c / 10<10:=by omega
 have j:c%10<10:=by omega
 unfold aU;rw [i,e];have f:IntKind.wrap .i64 ((c / 10:Nat):Int)=((c / 10:Nat):Int):=wrap_i64 _ (by omega) (by omega);have d:IntKind.wrap .i64 (((c / 10:Nat):Int)+1)=((c / 10+1:Nat):Int):=by rw [wrap_i64 _ (by omega) (by omega)];omega
 have h:IntKind.wrap .i64 (((c%10:Nat):Int)+1)=((c%10+1:Nat):Int):=by rw [wrap_i64 _ (by omega) (by omega)];omega
 rw [f,d,h,da (by omega),da (by omega)];show ob (bx (c / 10+1) ((c / 10:Nat):Int)) _=_;rw [da (by omega)];show ob (bx (c%10+1) ((c%10:Nat):Int)) _=_;rw [da (by omega)];unfold two;generalize c / 10=a at *;generalize c%10=b at *;have:((List.range 10).all λa=>(List.range 10).all λb=>ob (cat (List.drop a (List.take (a+1) ([48,49,50,51,52,53,54,55,56,57]:aa))) (List.drop b (List.take (b+1) ([48,49,50,51,52,53,54,55,56,57]:aa)))) (λs=>some s)==some [UInt8.ofNat (48+a),UInt8.ofNat (48+b)])=true:=by decide +kernel
 have k:=(bG.1 ((bG.1 this) a (by simpa using g))) b (by simpa using j);simpa using k
theorem Lt {m:aa} (h:∀j,j<21->m≠two (21+j)):sea m=0:=by
 rcases nu m with a | ⟨j,b,e⟩
 ·exact a
 ·exact absurd e (h j b)
theorem uw (n:Nat) (g l:Bool) (dg:aa) (x q:Int) (m d:aa) (k0 k1 k2:Int):∀(r j:Nat),j+r=21->(∀i,i<j->m≠two (21+i))->∀N,r<N->
  ar (bD n) N (((21+j:Nat):Int),g,l,dg,x,q,m,d,k0,k1,k2)=some (if sea m=0 then .inr () else .inl (sea m)):=by
 intro r
 induction r with
 | zero=>
  intro j c a N e;obtain ⟨N,rfl⟩:∃k,N=k+1:=⟨N - 1,by omega⟩;have hs:sea m=0:=Lt (λi hi=>a i (by omega));rw [ar];have:bD n (((21+j:Nat):Int),g,l,dg,x,q,m,d,k0,k1,k2)=some (.inr (.inr ())):=by
   unfold bD;rw [bC,ab (by show ¬(((21+j:Nat):Int)<=41);omega)]
  rw [this,ae hs]
 | succ r ih=>
  intro j c a N e;obtain ⟨N,rfl⟩:∃k,N=k+1:=⟨N - 1,by omega⟩;rw [ar];by_cases b:m=two (21+j)
  ·have hs:sea m=((21+j:Nat):Int):=by rw [b];exact ma (by omega)
   have:bD n (((21+j:Nat):Int),g,l,dg,x,q,m,d,k0,k1,k2)=some (.inr (.inl ((21+j:Nat):Int))):=by
    unfold bD;rw [bC,ae (by show ((21+j:Nat):Int)<=41;omega)];show ob (aU n ((21+j:Nat):Int)) _=_;rw [Oi n (by omega)];show cond (m==two (21+j)) _ _=_;rw [ii,ae b]
   rw [this,hs,ab (by omega)]
  ·have:bD n (((21+j:Nat):Int),g,l,dg,x,q,m,d,k0,k1,k2)=some (.inl (((21+(j+1):Nat):Int),g,l,dg,x,q,m,d,k0,k1,k2)):=by
    unfold bD;rw [bC,ae (by show ((21+j:Nat):Int)<=41;omega)];show ob (aU n ((21+j:Nat):Int)) _=_;rw [Oi n (by omega)];show cond (m==two (21+j)) _ _=_;rw [ii,ab b];have:IntKind.wrap .i64 (((21+j:Nat):Int)+1)=((21+(j+1):Nat):Int):=by rw [wrap_i64 _ (by omega) (by omega)];omega
    show some (Sum.inl (IntKind.wrap .i64 (((21+j:Nat):Int)+1),_))=_;rw [this]
   rw [this]
   exact ih (j+1) (by omega) (λi hi=>by
    rcases aF i j with h | h
    ·exact a i h
    ·have:i=j:=by omega
     rw [this];exact b) N (by omega)
theorem wZ (n:Nat) (a:100<n) (g l:Bool) (dg:aa) (x q:Int) (m d:aa) (k0 k1 k2:Int):cV n g l dg x q m d k0 k1 k2=some (sea m):=by
 unfold cV;have:=uw n g l dg x q m d k0 k1 k2 21 0 rfl (λi hi=>absurd hi (by omega)) n (by omega);rw [show ((21+0:Nat):Int)=21 from rfl] at this;rw [this];by_cases h:sea m=0
 ·rw [ae h,h];rfl
 ·rw [ab h];rfl
def agr (s:aa) (k:Nat):Bool:=match s with
 | [a,b]=>(a==88||a==UInt8.ofNat (48+k / 10))&&(b==88||b==UInt8.ofNat (48+k%10))
 | _=>false
def eZ (s:aa) (g:Nat):Bool:=(List.range g).any λi=>agr s (i+1)
theorem MY {X Y:Type} {step:X->Option (X⊕Y)} {f:Nat->X} {p:Nat->Bool} {g:Nat} {yes no:Y} (h:∀k,1<=k->k<=g->step (f k)=some (if p k then .inr yes else .inl (f (k+1)))) (d:step (f (g+1))=some (.inr no)) {N:Nat} (b:g<N):
  ar step N (f 1)=some (if (List.range g).any (λi=>p (i+1)) then yes else no):=by
 have c:∀(r j:Nat),j+r=g->(∀i,i<j->p (i+1)=false)->∀N,r<N->ar step N (f (j+1))=some (if (List.range g).any (λi=>p (i+1)) then yes else no):=by
  intro r
  induction r with
  | zero=>
   intro j e a N b;obtain ⟨N,rfl⟩:∃k,N=k+1:=⟨N - 1,by omega⟩;have:(List.range g).any (λi=>p (i+1))=false:=by
    rw [qk];intro i hi;rw [a i (by have:=iH.1 hi;omega)];simp
   rw [ar,show j+1=g+1 by omega,d,this];rfl
  | succ r ih=>
   intro j e a N b;obtain ⟨N,rfl⟩:∃k,N=k+1:=⟨N - 1,by omega⟩;rw [ar,h (j+1) (by omega) (by omega)];cases hp:p (j+1) with
   | true=>
    have:(List.range g).any (λi=>p (i+1))=true:=qw.2 ⟨j,iH.2 (by omega),hp⟩;rw [this];rfl
   | false=>
    exact ih (j+1) (by omega) (λi hi=>by
     rcases aF i j with h | h
     ·exact a i h
     ·have:i=j:=by omega
      rw [this];exact hp) N (by omega)
 exact c g 0 (by omega) (λi hi=>absurd hi (by omega)) N b
theorem xo {a:UInt8} {k:Nat} (b:k<256):((((a.toNat:Nat):Int))==((k:Nat):Int))=(a==UInt8.ofNat k):=by
 have h:(UInt8.ofNat k).toNat=k:=by simp;omega
 rw [<-na,h]
theorem MH (n:Nat) (a b:UInt8) {g k:Nat} (q:1<=k) (r:k<=g) (s:g<=31):
  cQ n ([a,b],(g:Int),(k:Int))=some (if agr [a,b] k then .inr (.inl true) else .inl ([a,b],(g:Int),((k+1:Nat):Int))):=by
 have o:Int.tdiv (k:Int) 10=((k / 10:Nat):Int):=by
  rw [show (10:Int)=((10:Nat):Int) from rfl,<-Int.ofNat_tdiv]
 have e:Int.tmod (k:Int) 10=((k%10:Nat):Int):=by
  rw [show (10:Int)=((10:Nat):Int) from rfl,<-Int.ofNat_tmod]
 have i:IntKind.wrap .u8 (48+IntKind.wrap .u8 (IntKind.wrap .i64 (Int.tdiv (k:Int) 10)))=((48+k / 10:Nat):Int):=by
  rw [o,wrap_i64 _ (by omega) (by omega),gh ((k / 10:Nat):Int) (by omega) (by omega),gh _ (by omega) (by omega)];omega
 have d:IntKind.wrap .u8 (48+IntKind.wrap .u8 (Int.tmod (k:Int) 10))=((48+k%10:Nat):Int):=by
  rw [e,gh ((k%10:Nat):Int) (by omega) (by omega),gh _ (by omega) (by omega)];omega
 have m:IntKind.wrap .i64 ((k:Int)+1)=((k+1:Nat):Int):=by rw [wrap_i64 _ (by omega) (by omega)];omega
 have c:(88:Int)=((88:Nat):Int):=rfl;have s0:sx [a,b] 0=some a:=rfl;have j:sx [a,b] 1=some b:=rfl;unfold cQ;rw [bC,ae (show (k:Int)<=(g:Int) by omega)];simp only [s0,j,ob,i,d,m];rw [c,xo (by omega),xo (by omega),xo (by omega),xo (by omega)];show _=some (if ((a==UInt8.ofNat 88||a==UInt8.ofNat (48+k / 10))&&(b==UInt8.ofNat 88||b==UInt8.ofNat (48+k%10)))=true then _ else _);generalize (a==UInt8.ofNat 88)=l;generalize (b==UInt8.ofNat 88)=h;generalize (a==UInt8.ofNat (48+k / 10))=f;generalize (b==UInt8.ofNat (48+k%10))=p;cases l<;>cases h<;>cases f<;>cases p<;>rfl
theorem Ax (n:Nat) (m:100<n) (s:aa) (g:Nat) (j:g<=31):cL n s (g:Int)=some (eZ s g):=by
 unfold cL;by_cases c:s.length=2
 ·obtain ⟨a,b,rfl⟩:∃a b,s=[a,b]:=by
   match s,c with
   | [a,b],_=>exact ⟨a,b,rfl⟩
  have d:cQ n ([a,b],(g:Int),((g+1:Nat):Int))=some (.inr (.inr ())):=by
   unfold cQ;rw [bC,ab (show ¬((g+1:Nat):Int)<=(g:Int) by omega)]
  have:=MY (f:=λk=>([a,b],(g:Int),((k:Nat):Int))) (p:=agr [a,b]) (g:=g) (N:=n) (λk e l=>MH n a b e l j) d (by omega);show ob (ar (cQ n) n ([a,b],(g:Int),((1:Nat):Int))) _=_;rw [this];unfold eZ;split<;>simp_all [ob]
 ·rw [show (((s.length:Nat):Int) != 2)=true by simp;omega];have:eZ s g=false:=by
   unfold eZ;rw [qk];intro i _
   match s,c with
   | [],_=>simp [agr]
   | [_],_=>simp [agr]
   | [_,_],h=>exact absurd rfl h
   | _::_::_::_,_=>simp [agr]
  rw [this];rfl
theorem wc (n:Nat) {a b:Int} (t:1<b) (o:b<1000) (v:-4611686018427387904<=a) (m:a<4611686018427387904):kD n a b=some (a / b,0):=by
 have l:(b==0)=false:=by simp;omega
 have r:(b==-1)=false:=by simp;omega
 unfold kD;simp only [l,r,af];have u:a / b*b+a%b=a:=Int.ediv_mul_add_emod a b;have s:=Int.emod_nonneg a (show b≠0 by omega);have k:=Int.emod_lt_of_pos a (show 0<b by omega);have q:-4611686018427387904<=a / b:=by
  rw [Int.le_ediv_iff_mul_le (by omega)];have:(-4611686018427387904:Int)*b<=-4611686018427387904*1:=Int.mul_le_mul_of_nonpos_left (by omega) (by omega);omega
 have p:a / b<4611686018427387904:=by
  rw [Int.ediv_lt_iff_lt_mul (by omega)];have:(4611686018427387904:Int)*1<=4611686018427387904*b:=Int.mul_le_mul_of_nonneg_left (by omega) (by omega);omega
 by_cases g:0<=a
 ·have d:Int.tdiv a b=a / b:=Ox g;have f:decide (a<0)=false:=by simp;omega
  have d2:decide (b<0)=false:=by simp;omega
  rw [d,f,d2,wrap_i64 (a / b) (by omega) (by omega)];cases (Int.tmod a b != 0)<;>rfl
 ·have f:decide (a<0)=true:=by simp;omega
  have d2:decide (b<0)=false:=by simp;omega
  have d:=Int.tdiv_eq_ediv (a:=a) (b:=b);have i:=Int.tmod_eq_emod (a:=a) (b:=b);rw [f,d2];by_cases c:b∣a
  ·have e:Int.tmod a b=0:=by
    rw [i,ae (.inr c)];have:=Int.emod_eq_zero_of_dvd c;omega
   rw [e,d,ae (.inr c)];rw [Int.add_zero,wrap_i64 (a / b) (by omega) (by omega)];rfl
  ·have j:a%b≠0:=λh=>c (N7 h);have e:(Int.tmod a b != 0)=true:=by
    rw [i,ab (by rintro (h | h);exact g h;exact c h)];simp;omega
   have hs:b.sign=1:=Int.sign_eq_one_of_pos (by omega);rw [e,d,ab (by rintro (h | h);exact g h;exact c h),hs];rw [wrap_i64 (a / b+1) (by omega) (by omega),Int.add_sub_cancel,wrap_i64 (a / b) (by omega) (by omega)];rfl
theorem TT (n:Nat) {a b:Int} (o:1<b) (k:b<1000):us n a b=some (a%b,0):=by
 have j:(b==0)=false:=by simp;omega
 have l:(b==-1)=false:=by simp;omega
 unfold us;simp only [j,l,af];have m:=Int.emod_nonneg a (show b≠0 by omega);have g:=Int.emod_lt_of_pos a (show 0<b by omega);have c:=Int.tmod_eq_emod (a:=a) (b:=b);have d2:decide (b<0)=false:=by simp;omega
 by_cases hc:0<=a\/b∣a
 ·rw [ae hc] at c;have:Int.tmod a b=a%b:=by omega
  rw [this,d2];have d:decide (a%b<0)=false:=by simp;omega
  rw [d];cases h:(a%b != 0)
  ·rfl
  ·rfl
 ·rw [ab hc] at c;have i:(b.natAbs:Int)=b:=by omega
  rw [i] at c;have e:a%b≠0:=λh=>hc (.inr (N7 h));have f:(Int.tmod a b != 0)=true:=by simp;omega
  have d:decide (Int.tmod a b<0)=true:=by simp;omega
  rw [f,d,d2,c,wrap_i64 _ (by omega) (by omega),Hm];rfl
def du (y:Int):Prop:=-10000000000000000<=y/\y<=10000000000000000
instance (y:Int):Decidable (du y):=by unfold du;infer_instance
theorem fJ (n:Nat) (y:Int):gX n y=some (if du y then 0 else 6):=by
 unfold gX;rw [bC,bC];by_cases a:y < -10000000000000000
 ·rw [ae a,ab (show ¬du y by unfold du;omega)]
 ·by_cases b:y>10000000000000000
  ·rw [ab a,ae b,ab (show ¬du y by unfold du;omega)]
  ·rw [ab a,ab b,ae (show du y by unfold du;omega)]
theorem rh (n:Nat) {y:Int} (h:-20000000000000000<=y/\y<=20000000000000000):∃z,eJ n y=some z:=by
 unfold eJ;rw [wrap_i64 (y - 1) (by omega) (by omega),wc n (by omega) (by omega) (by omega) (by omega),wc n (by omega) (by omega) (by omega) (by omega),wc n (by omega) (by omega) (by omega) (by omega)];exact ⟨_,rfl⟩
theorem HU (n:Nat) {y:Int} (h:du y):∃b e,jl n y=some (b,e):=by
 unfold jl;have h':=h;unfold du at h';obtain ⟨z1,c⟩:=rh n (y:=y+1) (by omega);obtain ⟨z2,a⟩:=rh n (y:=y) (by omega);rw [fJ,ae h,wrap_i64 (y+1) (by omega) (by omega),c,a];exact ⟨_,_,rfl⟩
theorem qH (n:Nat) {y:Int} (h:du y) {m:Nat} (d:1<=m) (c:m<=12):∃v,dE n y (m:Int)=some v:=by
 unfold dE;obtain ⟨b,e,a⟩:=HU n h;rw [a];show ∃v,cond (b&&((m:Int)==2)) _ _=some v;cases (b&&((m:Int)==2)) with
 | true=>exact ⟨_,rfl⟩
 | false=>
  have:IntKind.wrap .i64 ((m:Int) - 1)=((m - 1:Nat):Int):=by rw [wrap_i64 _ (by omega) (by omega)];omega
  rw [this,fb (by omega)];have a:ui.length=12:=rfl;exact ⟨_,bn (show m - 1<ui.length by omega)⟩
theorem FO (n:Nat) {y:Int} (h:du y) {m:Nat} (b:1<=m) (a:m<=12):jk n y (m:Int)=some 0:=by
 unfold jk;rw [fJ,ae h];show cond (decide ((m:Int)<1)) _ _=_;rw [bC,bC,ab (by omega),ab (by omega)]
theorem GA (n:Nat) {y:Int} (h:du y) {m:Nat} (e:m<=11):∀(r j:Nat),j+r=m->∀(a:Int) (N:Nat),r<N->∃v,ar (bw n) N (y,a,(m:Int),(j:Int))=some v:=by
 intro r
 induction r with
 | zero=>
  intro j b a N c;obtain ⟨N,rfl⟩:∃k,N=k+1:=⟨N - 1,by omega⟩;have:bw n (y,a,(m:Int),(j:Int))=some (.inr a):=by
   unfold bw;rw [bC,ab (show ¬((j:Int)<(m:Int)) by omega)]
  rw [ar,this];exact ⟨_,rfl⟩
 | succ r ih=>
  intro j b a N c;obtain ⟨N,rfl⟩:∃k,N=k+1:=⟨N - 1,by omega⟩;obtain ⟨v,d⟩:=qH n h (m:=j+1) (by omega) (by omega);have w:IntKind.wrap .i64 ((j:Int)+1)=((j+1:Nat):Int):=by rw [wrap_i64 _ (by omega) (by omega)];omega
  have:bw n (y,a,(m:Int),(j:Int))=some (.inl (y,IntKind.wrap .i64 (a+v),(m:Int),((j+1:Nat):Int))):=by
   unfold bw;rw [bC,ae (show ((j:Int)<(m:Int)) by omega)];simp only [w,d,ob]
  rw [ar,this];exact ih (j+1) (by omega) _ N (by omega)
theorem J1 (n:Nat) (d:100<n) {y:Int} (h:du y) {m:Nat} (b:1<=m) (a:m<=12):∃v,eK n y (m:Int)=some (v,0):=by
 unfold eK kh jW;have h':=h;unfold du at h';obtain ⟨z,e⟩:=rh n (y:=y) (by omega);have w:IntKind.wrap .i64 ((m:Int) - 1)=((m - 1:Nat):Int):=by rw [wrap_i64 _ (by omega) (by omega)];omega
 rw [FO n h b a,fJ,ae h,e,w];obtain ⟨v,c⟩:=GA n h (m:=m - 1) (by omega) (m - 1) 0 (by omega) (IntKind.wrap .i64 (IntKind.wrap .i64 (365*y)+z)) n (by omega);refine ⟨v,?_⟩;show ob (ar (bw n) n (y,IntKind.wrap .i64 (IntKind.wrap .i64 (365*y)+z),((m - 1:Nat):Int),((0:Nat):Int))) _=_;rw [c];rfl
theorem madd (n:Nat) {y:Int} (h:du y) {m c:Nat} (i:1<=m) (j:m<=12) (hc:1<=c) (g:c<=6):nj n y (m:Int) (IntKind.wrap .i64 ((c:Int) - 1)) =
  some (if 12<m+c - 1 then (if y=10000000000000000 then (0,0,6) else (y+1,((m+c - 1 - 12:Nat):Int),0)) else (y,((m+c - 1:Nat):Int),0)):=by
 have h':=h;unfold du at h';unfold nj;rw [FO n h i j,wrap_i64 (12*y) (by omega) (by omega),wrap_i64 ((m:Int) - 1) (by omega) (by omega),wrap_i64 (12*y+((m:Int) - 1)) (by omega) (by omega),wrap_i64 ((c:Int) - 1) (by omega) (by omega)];have k:pY n (12*y+((m:Int) - 1)) ((c:Int) - 1)=some (12*y+((m:Int) - 1)+((c:Int) - 1),0):=by
  unfold pY;rw [wrap_i64 (12*y+((m:Int) - 1)+((c:Int) - 1)) (by omega) (by omega),ii];by_cases d:(c:Int) - 1=0
  ·rw [ae d];have b:decide (12*y+((m:Int) - 1)>12*y+((m:Int) - 1))=false:=by simp
   have d2:decide ((c:Int) - 1>0)=false:=by simp;omega
   rw [b,d2,d,Int.add_zero];rfl
  ·rw [ab d];have b:decide (12*y+((m:Int) - 1)+((c:Int) - 1)>12*y+((m:Int) - 1))=true:=by simp;omega
   have d2:decide ((c:Int) - 1>0)=true:=by simp;omega
   rw [b,d2];rfl
 simp only [ob,k,fD,af];rw [wc n (by omega) (by omega) (by omega) (by omega),TT n (by omega) (by omega)];simp only [fJ];by_cases f:12<m+c - 1
 ·have e:(12*y+((m:Int) - 1)+((c:Int) - 1)) / 12=y+1:=by omega
  have a:(12*y+((m:Int) - 1)+((c:Int) - 1))%12=((m+c - 1 - 12:Nat):Int) - 1:=by omega
  rw [e,a,ae f];by_cases hy:y=10000000000000000
  ·rw [ae hy,ab (show ¬du (y+1) by unfold du;omega)];rfl
  ·rw [ab hy,ae (show du (y+1) by unfold du;omega),wrap_i64 (((m+c - 1 - 12:Nat):Int) - 1+1) (by omega) (by omega),Hm];rfl
 ·have e:(12*y+((m:Int) - 1)+((c:Int) - 1)) / 12=y:=by omega
  have a:(12*y+((m:Int) - 1)+((c:Int) - 1))%12=((m+c - 1:Nat):Int) - 1:=by omega
  rw [e,a,ab f,ae h,wrap_i64 (((m+c - 1:Nat):Int) - 1+1) (by omega) (by omega),Hm];rfl
theorem D9 {j:Nat} (l:j<21):∃m c:Nat,mz[j]?=some ((m:Int),(c:Int))/\1<=m/\m<=12/\1<=c/\c<=6/\(12<m+c - 1↔j=3\/j=7\/j=9):=by
 have:((List.range 21).all λj=>match mz[j]? with
  | some (m,c)=>decide (0<=m)&&decide (0<=c)&&decide (1<=m.toNat)&&decide (m.toNat<=12)&&decide (1<=c.toNat)&&decide (c.toNat<=6)&&(decide (12<m.toNat+c.toNat - 1)==decide (j=3\/j=7\/j=9))
  | none=>false)=true:=by decide +kernel
 have h:=(bG.1 this) j (by simpa using l);split at h
 ·rename_i m c e;simp only [aB,bV,bp,nY] at h;obtain ⟨⟨⟨⟨⟨⟨g,k⟩,f⟩,a⟩,b⟩,i⟩,d⟩:=h;exact ⟨m.toNat,c.toNat,by rw [e,E4 g,E4 k],f,a,b,i,d⟩
 ·cases h
theorem SC (n:Nat) (k:100<n) {y:Int} (h:du y) {j:Nat} (s:j<21):
  ∃a b c d,gx n y ((21+j:Nat):Int)=some (a,b,c,d,if y=10000000000000000/\(j=3\/j=7\/j=9) then 6 else 0):=by
 obtain ⟨m,c,e,t,w,B,z,q⟩:=D9 s;have C:eI n ((21+j:Nat):Int)=some ((m:Int),(c:Int),0):=by
  unfold eI cY;rw [bC,bC,ab (by omega),ab (by omega)];have:IntKind.wrap .i64 (((21+j:Nat):Int) - 21)=(j:Int):=by rw [wrap_i64 _ (by omega) (by omega)];omega
  rw [this,fb s];show ob (mz[j]?) _=_;rw [e];rfl
 obtain ⟨v,A⟩:=J1 n k h t w;unfold gx;rw [C];show ∃a b c d,ob (eK n y (m:Int)) _=_;rw [A];show ∃a b r d,ob (nj n y (m:Int) (IntKind.wrap .i64 ((c:Int) - 1))) _=_;rw [madd n h t w B z];have h':=h;unfold du at h';by_cases i:12<m+c - 1
 ·rw [ae i];by_cases hy:y=10000000000000000
  ·rw [ae hy,ae ⟨hy,q.1 i⟩];exact ⟨_,_,_,_,rfl⟩
  ·rw [ab hy,ab (λx=>hy x.1)];have g:du (y+1):=by unfold du;omega
   obtain ⟨l,f⟩:=J1 n k g (m:=m+c - 1 - 12) (by omega) (by omega);obtain ⟨u,o⟩:=qH n g (m:=m+c - 1 - 12) (by omega) (by omega);have p:fU n (y+1) ((m+c - 1 - 12:Nat):Int)=some (IntKind.wrap .i64 (IntKind.wrap .i64 (l+u) - 1),0):=by
    unfold fU;rw [f,o];rfl
   show ∃a b r d,ob (fU n (y+1) ((m+c - 1 - 12:Nat):Int)) _=_;rw [p];exact ⟨_,_,_,_,rfl⟩
 ·rw [ab i,ab (λx=>i (q.2 x.2))];obtain ⟨l,f⟩:=J1 n k h (m:=m+c - 1) (by omega) (by omega);obtain ⟨u,o⟩:=qH n h (m:=m+c - 1) (by omega) (by omega);have p:fU n y ((m+c - 1:Nat):Int)=some (IntKind.wrap .i64 (IntKind.wrap .i64 (l+u) - 1),0):=by
   unfold fU;rw [f,o];rfl
  show ∃a b r d,ob (fU n y ((m+c - 1:Nat):Int)) _=_;rw [p];exact ⟨_,_,_,_,rfl⟩
def hasB (set:aa) (c:UInt8):Bool:=set.any λd=>d==c
theorem oq (set:aa) (c:UInt8):(decide (Lib.indexByte set c<0))=!hasB set c:=by
 induction set with
 | nil=>simp [Lib.indexByte,hasB]
 | cons d l ih=>
  have e:=Lib.indexByte_ge l c;simp only [hasB,pG] at ih ⊢;unfold Lib.indexByte;by_cases h:d=c
  ·simp [h]
  ·have f:(d==c)=false:=by simpa using h
   simp only [f,bj,aE,mY];rw [<-ih];by_cases b:Lib.indexByte l c=-1
   ·simp [b]
   ·have a:(Lib.indexByte l c==-1)=false:=by simpa using b
    simp only [a,bj,aE];have:¬Lib.indexByte l c+1<0:=by omega
    have:¬Lib.indexByte l c<0:=by omega
    simp [*]
theorem od (set:aa) (c:UInt8):(decide (Lib.indexByte set c>=0))=hasB set c:=by
 have:=oq set c;by_cases h:Lib.indexByte set c<0
 ·have a:¬Lib.indexByte set c>=0:=by omega
  simp only [h,a,mN,mb] at this ⊢;revert this;cases hasB set c<;>simp
 ·have a:Lib.indexByte set c>=0:=by omega
  simp only [h,a,mN,mb] at this ⊢;revert this;cases hasB set c<;>simp
def lcp:aa->aa->Nat
 | c::s,d::t=>if c==d then lcp s t+1 else 0
 | _,_=>0
theorem vj:∀s t:aa,lcp s t<=s.length
 | [],_=>by simp [lcp]
 | _::_,[]=>by simp [lcp]
 | c::s,d::t=>by
  have:=vj s t;simp only [lcp,aJ];split<;>omega
def br (p:UInt8->Bool):Nat->aa->Nat
 | 0,_=>0
 | _+1,[]=>0
 | k+1,c::l=>if p c then br p k l+1 else 0
theorem ky (p:UInt8->Bool):∀(k:Nat) (l:aa),br p k l<=l.length
 | 0,_=>by simp [br]
 | _+1,[]=>by simp [br]
 | k+1,c::l=>by
  have:=ky p k l;simp only [br,aJ];split<;>omega
theorem rJ (n:Nat) (S:aa) (a:Nat) (h:a<=S.length):bX n S (a:Int)=some (S.drop a):=by
 simp [bX,ob,da h]
theorem Ad (n:Nat) (s p:aa):iy n s p=some (s.take p.length==p):=by
 simp only [iy,fC,kl];by_cases h:p.length<=s.length
 ·simp [h,ob,da h]
 ·have:(s.take p.length==p)=false:=by
   rw [aL];intro e;have:=bO List.length e;rw [e7] at this;omega
  simp [h,ob,this]
theorem KN (n:Nat) (t S:aa) (a:Nat) (h:a<=S.length):eO n t S (a:Int)=some ((S.drop a).take t.length==t):=by
 simp [eO,rJ n S a h,ob,Ad]
theorem lq (n:Nat) (t S:aa) (a:Nat) (h:a<=S.length) (c:S.length<4611686018427387904):
  aC n t S (a:Int)=some (if (S.drop a).take t.length=t then (true,S,((a+t.length:Nat):Int)) else (false,S,(a:Int))):=by
 simp only [aC,KN n t S a h,ob];by_cases hp:(S.drop a).take t.length=t
 ·have d:t.length<=S.length - a:=by
   have:=bO List.length hp;simp at this;omega
  have b:IntKind.wrap .i64 ((a:Int)+((t.length:Nat):Int))=((a+t.length:Nat):Int):=by rw [wrap_i64 _ (by omega) (by omega)];omega
  simp [hp,b]
 ·simp only [Fo,ii,hp,aE]
theorem AM (n:Nat) (S:aa) (i:Int):bv n S i=some i:=rfl
def peek (l:aa):Int×Bool:=match l with | c::_=>(((c.toNat:Nat):Int),true) | []=>(0,false)
theorem nM (n:Nat) (S:aa) (a:Nat) (h:a<=S.length):aY n S (a:Int)=some (peek (S.drop a)):=by
 simp only [aY,rJ n S a h,ob];rcases aF a S.length with b | d
 ·obtain ⟨c,hc⟩:∃c,S[a]?=some c:=⟨S[a],bn b⟩;rw [bS hc];simp [dK hc,peek]
 ·rw [iD d];simp [peek]
theorem tW (n:Nat) (a e:Int) (S:aa) (i:Int):aH n a e S i=some (a,if e=0 then 5 else e):=by
 simp only [aH,ii];by_cases h:e=0<;>simp [h]
theorem fS (n:Nat) (set:aa) (c:UInt8):cS n set ((c.toNat:Nat):Int)=some (Lib.indexByte set c):=by
 simp only [cS,cE,ob,U1]
theorem zI (n:Nat) (set S:aa) (a:Nat) (h:a<=S.length) (f:S.length<4611686018427387904):
  bQ n set S (a:Int)=some (match S.drop a with | c::_=>if hasB set c then .inr (((c.toNat:Nat):Int),S,((a+1:Nat):Int)) else .inl ((a:Int),5,S,(a:Int)) | []=>.inl ((a:Int),5,S,(a:Int))):=by
 simp only [bQ,nM n S a h,ob];rcases aF a S.length with b | d
 ·obtain ⟨c,hc⟩:∃c,S[a]?=some c:=⟨S[a],bn b⟩;have e:IntKind.wrap .i64 ((a:Int)+1)=((a+1:Nat):Int):=by rw [wrap_i64 _ (by omega) (by omega)];omega
  rw [bS hc];simp only [peek,cN,af,fS,oq,AM,tW,ob,e];cases hasB set c<;>simp
 ·rw [iD d];simp [peek,AM,tW,ob]
theorem nK (S:aa) (a k:Nat):List.drop a (List.take (a+k) S)=(S.drop a).take k:=by
 rw [wu];congr 1;omega
theorem zf (n:Nat) (set:aa) (b most:Int) (S:aa) (a:Nat) (h:a<=S.length) (p:S.length<4611686018427387904) (m:S.length<n):
  ar (cD n) n (set,b,most,(a:Int),(peek (S.drop a)).1,(peek (S.drop a)).2,S,(a:Int)) =
   some (b,(a:Int),S,((a+br (hasB set) most.toNat (S.drop a):Nat):Int)):=by
 have:=fq (step:=cD n)
  (λx=>∃j:Nat,a+j<=S.length/\x=(set,b,most,(a:Int),(peek (S.drop (a+j))).1,(peek (S.drop (a+j))).2,S,((a+j:Nat):Int)))
  (λx=>S.length - x.2.2.2.2.2.2.2.toNat)
  (λx=>(b,(a:Int),S,((x.2.2.2.2.2.2.2.toNat+br (hasB set) (most.toNat - (x.2.2.2.2.2.2.2.toNat - a)) (S.drop x.2.2.2.2.2.2.2.toNat):Nat):Int))) ?_ n
  (set,b,most,(a:Int),(peek (S.drop a)).1,(peek (S.drop a)).2,S,(a:Int)) ⟨0,by omega,by simp⟩ (by simp;omega)
 ·simpa using this
 rintro x ⟨j,q,rfl⟩;simp only [bR];have d:IntKind.wrap .i64 (((a+j:Nat):Int) - (a:Int))=(j:Int):=by rw [wrap_i64 _ (by omega) (by omega)];omega
 rcases aF (a+j) S.length with e | f
 ·obtain ⟨c,hc⟩:∃c,S[a+j]?=some c:=⟨S[a+j],bn e⟩;have l:IntKind.wrap .i64 (((a+j:Nat):Int)+1)=((a+(j+1):Nat):Int):=by rw [wrap_i64 _ (by omega) (by omega)];omega
  simp only [cD,bS hc,peek,aj,d];by_cases g:(j:Int)<most
  ·obtain ⟨k,i⟩:∃k,most.toNat - (a+j - a)=k+1:=⟨most.toNat - j - 1,by omega⟩;simp only [g,mN,aj,fS,ob,od,i,br];cases o:hasB set c with
   | true=>
    simp only [l,nM n S (a+(j+1)) (by omega),aj];refine .inl ⟨_,rfl,⟨j+1,by omega,rfl⟩,?_,?_⟩
    ·simp only [bR];omega
    ·simp only [bR,bz,ku,aI];have:most.toNat - (a+(j+1) - a)=k:=by omega
     rw [this,show a+(j+1)=a+j+1 by omega];omega
   | false=>exact .inr (by simp)
  ·refine .inr ?_;have:most.toNat - (a+j - a)=0:=by omega
   simp only [g,mb,af,this,br,bZ]
 ·refine .inr ?_;simp only [cD,iD f,peek,af];have:br (hasB set) (most.toNat - (a+j - a)) []=0:=by cases most.toNat - (a+j - a)<;>rfl
  simp only [this,bZ]
theorem ug (n:Nat) (set:aa) (b most:Int) (S:aa) (a:Nat) (h:a<=S.length) (g:S.length<4611686018427387904) (f:S.length<n):
  bM n set b most S (a:Int)=some (if ((br (hasB set) most.toNat (S.drop a):Nat):Int)<b
   then .inl (((a+br (hasB set) most.toNat (S.drop a):Nat):Int),5,S,((a+br (hasB set) most.toNat (S.drop a):Nat):Int))
   else .inr ((S.drop a).take (br (hasB set) most.toNat (S.drop a)),S,((a+br (hasB set) most.toNat (S.drop a):Nat):Int))):=by
 have e:=ky (hasB set) most.toNat (S.drop a);rw [cu] at e;simp only [bM,AM,nM n S a h,ob];rw [zf n set b most S a h g f];generalize br (hasB set) most.toNat (S.drop a)=k at e ⊢;have c:IntKind.wrap .i64 (((a+k:Nat):Int) - (a:Int))=(k:Int):=by rw [wrap_i64 _ (by omega) (by omega)];omega
 simp only [c,tW];by_cases d:(k:Int)<b
 ·simp [d]
 ·simp only [d,mb,af,aE];rw [da (by omega)];simp only;rw [da (by omega)];simp only [nK]
theorem O6 (a b:Nat):(cond (decide (((a:Nat):Int)<((b:Nat):Int))) ((a:Nat):Int) ((b:Nat):Int))=((min a b:Nat):Int):=by
 by_cases h:a<b
 ·simp [h];omega
 ·simp [h];omega
def asc (l:aa):Prop:=∀c∈l,c.toNat<128
theorem HB (r:Int) (h:128<=r):∃p e,(Utf8.encode r).data.toList=p++[e]/\1<=p.length/\p.length<=3/\128<=e.toNat:=by
 unfold Utf8.encode;have hc:128<=(if Utf8.valid r then r.toNat else Utf8.runeError):=by
  split
  ·omega
  ·decide
 generalize (if Utf8.valid r then r.toNat else Utf8.runeError)=c at hc;have a:128<=(UInt8.ofNat (0x80+c%64)).toNat:=by
  simp only [CU];omega
 simp only;split
 ·omega
 ·split
  ·exact ⟨[_],_,rfl,by simp,by simp,a⟩
  ·split
   ·exact ⟨[_,_],_,rfl,by simp,by simp,a⟩
   ·exact ⟨[_,_,_],_,rfl,by simp,by simp,a⟩
theorem IR {l:aa} (h:asc l) {i:Nat} {c:UInt8} (hi:l[i]?=some c):c.toNat<128:=h c (fH hi)
theorem AO (n:Nat) (set:aa) (h:asc set) (e:set.length<n):ar (dh n) n (set,0)=some (.inr ()):=by
 refine fq (step:=dh n) (λx=>x.1=set) (λx=>set.length - x.2) (λx=>.inr ()) ?_ n _ rfl (by simp;omega);rintro ⟨s,i⟩ rfl;simp only [dh];by_cases hi:i<s.length
 ·have b:Nat.blt i s.length=true:=cG hi;obtain ⟨c,hc⟩:∃c,s[i]?=some c:=⟨s[i],bn hi⟩;have a:=IR h hc;have d:(((c.toNat:Nat):Int)==65533)=false:=by rw [aL];omega
  simp only [b,aj,zq hc a,d,af];exact .inl ⟨_,rfl,rfl,by simp only;omega,trivial⟩
 ·have b:Nat.blt i s.length=false:=by
   cases b:Nat.blt i s.length with
   | false=>rfl
   | true=>exact absurd (aG b) (by omega)
  simp only [b,af];exact .inr trivial
theorem wM {l:aa} {c:UInt8} (h:c∉l):Lib.indexByte l c<0:=by
 have b:=oq l c;have d:hasB l c=false:=by
  unfold hasB;rw [qk];intro x hx a;simp only [bp] at a;exact h (a▸hx)
 rw [d] at b;simpa using b
theorem BH (n:Nat) (set:aa) (h:asc set) (x:set.length<n) (hs:set.length<=100) (r:Int) (s:128<=r):dw n set r=some (-1):=by
 have y:decide ((0:Int)<=r)=true:=am (by omega);have A:decide (r<128)=false:=aq (by omega);simp only [dw,y,A,aj,af];by_cases d:r=65533
 ·have:(r==65533)=true:=bp.2 d;simp only [this,aj,AO n set h x,ob]
 ·have:(r==65533)=false:=aL.2 d;simp only [this,af];obtain ⟨v,u⟩:∃v,dp n r=some v:=by
   unfold dp;generalize decide ((0:Int)<=r)=q;generalize decide (r<55296)=d2;generalize decide ((57343:Int)<r)=l;generalize decide (r<=1114111)=d4;cases q<;>cases d2<;>cases l<;>cases d4<;>exact ⟨_,rfl⟩
  simp only [u,ob];cases v with
  | false=>rfl
  | true=>
   simp only [cN,af];obtain ⟨p,e,hp,z,t,B⟩:=HB r s;simp only [hp];have w:IntKind.wrap .i64 (((p++[e]).length:Nat) - 1:Int)=(p.length:Int):=by
    rw [wrap_i64 _ (by simp<;>omega) (by simp<;>omega)];simp
   rw [w];obtain ⟨m,rfl⟩:∃m,n=m+1:=⟨n - 1,by omega⟩;have a:dk (m+1) (set,p++[e],(p.length:Int),(p.length:Int))=some (.inr (.inl (-1)))\/dk (m+1) (set,p++[e],(p.length:Int),(p.length:Int))=some (.inr (.inr ())):=by
    simp only [dk,gK];by_cases f:p.length<set.length
    ·obtain ⟨c,hc⟩:∃c,set[p.length]?=some c:=⟨set[p.length],bn f⟩;have k:=IR h hc;have j:(p++[e])[p.length]?=some e:=by simp
     have g:(((c.toNat:Nat):Int) != ((e.toNat:Nat):Int))=true:=by simp only [bne,kU,aL];omega
     have i:IntKind.wrap .i64 ((p.length:Int)+1)=((p.length+1:Nat):Int):=by rw [wrap_i64 _ (by omega) (by omega)];omega
     have hx:e∉List.drop (p.length+1) (List.take set.length set):=by
      intro o;have:=h e (by simpa using List.mem_of_mem_drop o);omega
     left;simp only [f,mN,aj,dK hc,dK j,ob,g,i,da (show p.length+1<=set.length by omega),fS,wM hx]
    ·right;simp only [f,mb,af]
   rcases a with b | b<;>simp only [ar,b,ob]
theorem wL (n:Nat) (set:aa) (c:UInt8) (r:Int) (b:r=((c.toNat:Nat):Int)) (hc:c.toNat<128):dw n set r=some (Lib.indexByte set c):=by
 have a:decide ((0:Int)<=r)=true:=am (by omega);have e:decide (r<128)=true:=am (by omega);have f:IntKind.wrap .u8 r=r:=gh _ (by omega) (by omega);have d:cS n set r=some (Lib.indexByte set c):=by rw [b];exact fS n set c
 simp only [dw,a,e,aj,f,d,ob]
theorem yy (n:Nat) (set:aa) (c:UInt8) (hc:c.toNat<128):dw n set ((c.toNat:Nat):Int)=some (Lib.indexByte set c):=wL n set c _ rfl hc
theorem tC (n:Nat) (set:aa) (c:UInt8) (hc:c.toNat<128):dj n set ((c.toNat:Nat):Int)=some (hasB set c):=by
 simp only [dj,yy n set c hc,ob,od]
theorem vc (n:Nat) (set:aa) (h:asc set) (b:set.length<n) (hs:set.length<=100) (r:Int) (a:128<=r):dj n set r=some false:=by
 simp only [dj,BH n set h b hs r a,ob];rfl
theorem tZ (x:Int) (a:0<=x) (b:x<65536):IntKind.wrap .u16 x=x:=by
 show x%65536=x;omega
theorem AN (w a:Nat):BitVec.ofInt w (a:Int)=BitVec.ofNat w a:=by
 apply BitVec.eq_of_toNat_eq;simp
theorem Qa (k:Nat):(2:Int) ^ k=((2 ^ k:Nat):Int):=by simp
theorem M9 (a k:Nat):Int.fdiv (a:Int) (2 ^ k)=((a / 2 ^ k:Nat):Int):=by
 rw [Qa k,Int.fdiv_eq_ediv_of_nonneg _ (Int.natCast_nonneg _)];rfl
def inR (lo hi:Int) (c:UInt8):Bool:=decide (((c.toNat:Nat):Int)>=lo)&&decide (((c.toNat:Nat):Int)<=hi)
def cnt (lo hi:Int) (l:aa):Nat:=l.countP (inR lo hi)
theorem KR (lo hi:Int) (l:aa):cnt lo hi l<=l.length:=List.countP_le_length
theorem MR (lo hi:Int) {l:aa} {i:Nat} {c:UInt8} (h:l[i]?=some c):cnt lo hi (l.take (i+1))=cnt lo hi (l.take i)+if inR lo hi c then 1 else 0:=by
 unfold cnt;rw [oL,h,List.countP_append];simp [Jx]
theorem Ic (n:Nat) (s:aa) (lo hi:Int) (hs:s.length<n) (l:s.length<100000):gL n s lo hi=some ((cnt lo hi s:Nat):Int):=by
 have:=fq (step:=fV n) (λx=>∃i:Nat,i<=s.length/\x=(s,lo,hi,((cnt lo hi (s.take i):Nat):Int),(i:Int))) (λx=>s.length - x.2.2.2.2.toNat) (λ_=>((cnt lo hi s:Nat):Int)) ?_ n (s,lo,hi,0,0) ⟨0,by omega,by simp [cnt]⟩ (by simp;omega)
 ·simp only [gL,this,ob]
 rintro x ⟨i,k,rfl⟩;rcases aF i s.length with a | j
 ·obtain ⟨c,hc⟩:∃c,s[i]?=some c:=⟨s[i],bn a⟩;have b:=MR lo hi hc;have e:=KR lo hi (s.take i);rw [e7] at e;have h:IntKind.wrap .i64 ((i:Int)+1)=((i+1:Nat):Int):=by rw [wrap_i64 _ (by omega) (by omega)];omega
  have g:IntKind.wrap .i64 (((cnt lo hi (s.take i):Nat):Int)+1)=((cnt lo hi (s.take i)+1:Nat):Int):=by rw [wrap_i64 _ (by omega) (by omega)];omega
  refine .inl ⟨(s,lo,hi,((cnt lo hi (s.take (i+1)):Nat):Int),((i+1:Nat):Int)),?_,⟨i+1,a,rfl⟩,by simp only [bR];omega,rfl⟩;simp only [fV,gK,a,mN,aj,dK hc,ob,h,g];rw [b];by_cases d:((c.toNat:Nat):Int)>=lo
  ·by_cases f:((c.toNat:Nat):Int)<=hi
   ·simp [d,f,inR]
   ·simp [d,f,inR]
  ·simp [d,inR]
 ·have:i=s.length:=by omega
  subst this;refine .inr ?_;simp only [fV,gK,CL,mb,af,mf]
theorem JC (lo hi:Int) (l:aa):cnt lo hi l=l.length↔∀c∈l,inR lo hi c=true:=by
 unfold cnt;rw [List.countP_eq_length]
theorem LO (lo hi:Int) (l:aa):cnt lo hi l=0↔∀c∈l,inR lo hi c=false:=by
 unfold cnt;rw [List.countP_eq_zero];simp
def aS (c:UInt8):Bool:=inR 48 57 c
theorem bJ (c:UInt8):aS c=true↔48<=c.toNat/\c.toNat<=57:=by
 unfold aS inR;simp only [aB,bV];omega
theorem ze (c:UInt8):inR 88 88 c=true↔c=88:=by
 unfold inR;simp only [aB,bV];constructor
 ·intro h;apply fZ.1;show c.toNat=88;omega
 ·rintro rfl;decide
theorem JE (c:UInt8):inR 48 48 c=true↔c=48:=by
 unfold inR;simp only [aB,bV];constructor
 ·intro h;apply fZ.1;show c.toNat=48;omega
 ·rintro rfl;decide
theorem It:∀l:aa,cnt 48 57 l+cnt 88 88 l<=l.length/\(cnt 48 57 l+cnt 88 88 l=l.length↔∀c∈l,aS c=true\/c=88)
 | []=>by simp [cnt]
 | c::l=>by
  have ih:=It l;have f:cnt 48 57 (c::l)=cnt 48 57 l+if inR 48 57 c then 1 else 0:=by simp [cnt,Jx]
  have d:cnt 88 88 (c::l)=cnt 88 88 l+if inR 88 88 c then 1 else 0:=by simp [cnt,Jx]
  have h:¬(inR 48 57 c=true/\inR 88 88 c=true):=by
   rintro ⟨a,b⟩;have:=(bJ c).1 a;rw [(ze c).1 b] at this;exact absurd this.2 (by decide)
  rw [f,d,aJ];simp only [cf,zU];have hx:=ze c;have g:aS c=inR 48 57 c:=rfl;rw [g];cases a:inR 48 57 c<;>cases b:inR 88 88 c
  ·simp only [a,b] at hx ⊢;have:c≠88:=λe=>by simpa using hx.2 e
   simp [this];omega
  ·simp only [a,b] at hx ⊢;have:c=88:=hx.1 trivial;simp only [this,bj,aI,aE,false_or,ku];rw [<-ih.2];omega
  ·simp only [a,b] at hx ⊢;simp only [bj,aI,aE,true_or,ku];rw [<-ih.2];omega
  ·exact absurd ⟨a,b⟩ h
theorem JG (n:Nat) (s set:aa) (q:asc set) (u:set.length<n) (t:set.length<=100) (hs:s.length<n):
  ∃y,ar (ck n) n (true,set,s,0)=some y/\((y=.inr ()/\s.all (hasB set)=true)\/∃i:Nat,y=.inl (i:Int)/\s.all (hasB set)=false):=by
 refine nk (step:=ck n) (λx=>x.1=true/\x.2.1=set/\x.2.2.1=s/\s.all (hasB set)=(s.drop x.2.2.2).all (hasB set)) (λx=>s.length - x.2.2.2) _ ?_ n _ ⟨rfl,rfl,rfl,rfl⟩ (by simp only;omega);rintro ⟨b,st,s',p⟩ ⟨j,f,g,a⟩;simp only at j f g a;rw [j,f,g];clear j f g b st s';rcases aF p s.length with h | l
 ·obtain ⟨c,hc⟩:∃c,s[p]?=some c:=⟨s[p],bn h⟩;have e:Nat.blt p s.length=true:=cG h;rw [bS hc,lg] at a;rcases aF c.toNat 128 with d | d
  ·have r:=zq hc d;simp only [ck,e,aj,i7,r,tC n set c d,ob];cases k:hasB set c with
   | true=>
    rw [k,qm] at a;exact .inl ⟨_,rfl,⟨rfl,rfl,rfl,a⟩,by simp only;omega⟩
   | false=>
    rw [k,xz] at a;exact .inr ⟨_,rfl,.inr ⟨p,rfl,a⟩⟩
  ·have r:=EY hc d;have k:hasB set c=false:=by
    unfold hasB;rw [qk];intro x hx o;simp only [bp] at o;have:=q x hx;rw [o] at this;omega
   rw [k,xz] at a;have m:=vc n set q u t (((dec s p).1:Nat):Int) (by omega);simp only [ck,e,aj,i7,m,ob];exact .inr ⟨_,rfl,.inr ⟨p,rfl,a⟩⟩
 ·have e:Nat.blt p s.length=false:=by
   cases j:Nat.blt p s.length with
   | false=>rfl
   | true=>exact absurd (aG j) (by omega)
  simp only [ck,e,af];rw [iD l] at a;exact .inr ⟨_,rfl,.inl ⟨rfl,by rw [a];rfl⟩⟩
theorem Jh (n:Nat) (s set:aa) (f:asc set) (b:set.length<n) (c:set.length<=100) (hs:s.length<n):fM n s set=some (s.all (hasB set)):=by
 obtain ⟨y,d,e⟩:=JG n s set f b c hs;simp only [fM,jX,kg,d,ob];rcases e with ⟨rfl,a⟩ | ⟨i,rfl,a⟩
 ·rw [a];rfl
 ·rw [a];simp only [ak,so];omega
theorem NM:asc [48,49,50,51,52,53,54,55,56,57]:=by unfold asc;decide
theorem HN:asc [88,48,49,50,51,52,53,54,55,56,57]:=by unfold asc;decide
theorem gH (p:UInt8->Bool) (h:∀i:Fin 256,p (UInt8.ofNat i.val)=true) (c:UInt8):p c=true:=by
 have:=h ⟨c.toNat,c.toNat_lt⟩;simpa using this
theorem vE (c:UInt8):hasB [48,49,50,51,52,53,54,55,56,57] c=aS c:=by
 have:=gH (λc=>hasB [48,49,50,51,52,53,54,55,56,57] c==aS c) (by decide +kernel) c;simpa using this
theorem sR (c:UInt8):hasB [88,48,49,50,51,52,53,54,55,56,57] c=(aS c||c==88):=by
 have:=gH (λc=>hasB [88,48,49,50,51,52,53,54,55,56,57] c==(aS c||c==88)) (by decide +kernel) c;simpa using this
theorem K4 (n:Nat) (s:aa) (a:100<n) (hs:s.length<n):fM n s [48,49,50,51,52,53,54,55,56,57]=some (s.all aS):=by
 rw [Jh n s _ NM (by simp;omega) (by simp) hs];congr 2;funext c;exact vE c
theorem Gw (n:Nat) (s:aa) (a:100<n) (hs:s.length<n):fM n s [88,48,49,50,51,52,53,54,55,56,57]=some (s.all λc=>aS c||c==88):=by
 rw [Jh n s _ HN (by simp;omega) (by simp) hs];congr 2;funext c;exact sR c
def all0 (s:aa):Bool:=s.all λc=>c==48
theorem U6 (n:Nat) (s:aa) (hs:s.length<n) (m:s.length<100000):∃y,ft n s 48=some y/\all0 s=all0 y/\y.length<=s.length:=by
 obtain ⟨y,j,a⟩:=nk (step:=cT n) (λx=>x.2=48/\all0 s=all0 x.1/\x.1.length<=s.length) (λx=>x.1.length) (λy=>all0 s=all0 y/\y.length<=s.length) (by
  rintro ⟨l,c⟩ ⟨rfl,h,b⟩;simp only at h b;by_cases k:l.length>0
  ·have d0:decide (((l.length:Nat):Int)>0)=true:=am (by omega);have g:IntKind.wrap .i64 (((l.length:Nat):Int) - 1)=((l.length - 1:Nat):Int):=by rw [wrap_i64 _ (by omega) (by omega)];omega
   obtain ⟨c,hc⟩:∃c,l[l.length - 1]?=some c:=⟨l[l.length - 1],bn (by omega)⟩;simp only [cT,d0,aj,g,dK hc,ob];by_cases d:c=48
   ·have f:(((c.toNat:Nat):Int)==48)=true:=by rw [d];rfl
    simp only [f,aj,da (show l.length - 1<=l.length by omega),cg];refine .inl ⟨(List.take (l.length - 1) l,48),rfl,⟨rfl,?_,by show (List.take (l.length - 1) l).length<=s.length;rw [e7];omega⟩,by show (List.take (l.length - 1) l).length<l.length;rw [e7];omega⟩;rw [h];have:l=l.take (l.length - 1)++[c]:=by
     have a:=oL (l:=l) (i:=l.length - 1);rw [hc,show l.length - 1+1=l.length by omega,mf] at a;exact a
    rw [this];simp only [all0,A9,lg,List.all_nil,d];simp
   ·have f:(((c.toNat:Nat):Int)==48)=false:=by
     rw [aL];intro e;exact d (fZ.1 (by show c.toNat=48;omega))
    simp only [f,af];exact .inr ⟨_,rfl,h,b⟩
  ·have d0:decide (((l.length:Nat):Int)>0)=false:=aq (by omega);simp only [cT,d0,af];exact .inr ⟨_,rfl,h,b⟩) n (s,48) ⟨rfl,rfl,aQ _⟩ hs
 exact ⟨y,by simp only [ft,j,ob],a⟩
theorem Ul (n:Nat) (s:aa) (hs:s.length<n) (m:s.length<100000):∃y,fP n s 48=some y/\all0 s=(y==[]):=by
 obtain ⟨y,j,k⟩:=nk (step:=eG n) (λx=>x.2=48/\all0 s=all0 x.1/\x.1.length<=s.length) (λx=>x.1.length) (λy=>all0 s=(y==[])) (by
  rintro ⟨l,c⟩ ⟨rfl,h,f⟩;simp only at h f;cases l with
  | nil=>exact .inr ⟨[],rfl,by rw [h];rfl⟩
  | cons c l=>
   have d0:decide ((((c::l).length:Nat):Int)>0)=true:=am (by simp only [aJ];omega);have hc:sx (c::l) 0=some c:=by simp [sx]
   simp only [eG,d0,aj,hc,ob];by_cases a:c=48
   ·have d:(((c.toNat:Nat):Int)==48)=true:=by rw [a];rfl
    have b:bx (c::l).length 1=some 1:=da (i:=1) (by simp);simp only [d,aj,b,mf,mq,cg];refine .inl ⟨_,rfl,⟨rfl,?_,by show l.length<=s.length;simp only [aJ] at f;omega⟩,by simp⟩;rw [h];simp [all0,a]
   ·have d:(((c.toNat:Nat):Int)==48)=false:=by
     rw [aL];intro e;exact a (fZ.1 (by show c.toNat=48;omega))
    simp only [d,af];refine .inr ⟨_,rfl,?_⟩;rw [h];have g:(c==48)=false:=aL.2 a;simp [all0,g]) n (s,48) ⟨rfl,rfl,aQ _⟩ hs
 exact ⟨y,by simp only [fP,j,ob],k⟩
theorem QD (n:Nat) (s:aa) (hs:s.length<n) (c:s.length<100000):∃y,mu n s=some y/\(y==[])=all0 s:=by
 unfold mu;by_cases h:s=[]
 ·subst h;exact ⟨[],rfl,rfl⟩
 ·have:(s==([]:aa))=false:=aL.2 h;obtain ⟨y,d,e,f⟩:=U6 n s hs c;obtain ⟨z,a,b⟩:=Ul n y (by omega) (by omega);exact ⟨z,by simp only [this,af,d,a,ob],by rw [e,b]⟩
theorem NA (s:aa):all0 s=true↔cnt 48 48 s=s.length:=by
 rw [JC];unfold all0;rw [bG];constructor
 ·intro h c hc;have:=h c hc;rw [bp] at this;exact (JE c).2 this
 ·intro h c hc;rw [bp];exact (JE c).1 (h c hc)
def hasX (s:aa):Bool:=s.any λc=>c==88
theorem LG (s:aa):hasX s=decide (0<cnt 88 88 s):=by
 have:=LO 88 88 s;unfold hasX;cases h:s.any λc=>c==88 with
 | true=>
  obtain ⟨c,hc,b⟩:=qw.1 h;rw [bp] at b;symm;rw [bV];rcases yB (cnt 88 88 s) with a | a
  ·have:=this.1 a c hc;rw [(ze c).2 b] at this;cases this
  ·exact a
 | false=>
  symm;rw [so];intro a;have:cnt 88 88 s=0:=this.2 λc hc=>by
   cases hx:inR 88 88 c with
   | false=>rfl
   | true=>
    rw [qk] at h;exact absurd (bp.2 ((ze c).1 hx)) (h c hc)
  omega
theorem Ae (n:Nat) (s:aa):gG n s=some (hasX s):=by
 have e:UInt8.ofNat (Int.toNat 88)=(88:UInt8):=rfl;have hi:lH n s=some (Lib.indexByte s 88):=by
  simp only [lH,ib,cE,ob,e];by_cases h:([88]:aa)=s
  ·subst h;rfl
  ·have:(([88]:aa)==s)=false:=aL.2 h;simp only [this,af]
 simp only [gG,hi,ob,od];rfl
theorem rS (n:Nat) (g l:Bool) (d:aa) (x q:Int):cb n g l d x q=some (hasX d):=by
 simp only [cb,Ae,ob]
def tD (a:Nat) (c:UInt8):Nat:=a*10+(c.toNat - 48)
def dval (a:Nat) (l:aa):Nat:=l.foldl tD a
theorem nZ (a:Nat):dval a []=a:=by unfold dval;rw [Fp]
theorem mV (a:Nat) (c:UInt8) (l:aa):dval a (c::l)=dval (tD a c) l:=by
 unfold dval;rw [tz]
theorem EV (l:aa) (a:Nat) (c:UInt8):dval a (l++[c])=dval a l*10+(c.toNat - 48):=by
 have:dval a (l++[c])=tD (dval a l) c:=by
  unfold dval;rw [E8,tz,Fp]
 rw [this];rfl
theorem Qb (M:Nat) (j:10000000000000000000<=M) (l:aa):∀(a k:Nat),(∀c∈l,aS c=true)->a<10 ^ k->l.length+k<=18->Lib.parseUintM M a l=.ok (dval a l)/\dval a l<10 ^ (l.length+k):=by
 induction l with
 | nil=>
  intro a k _ e _;rw [nZ];refine ⟨rfl,?_⟩;simpa using e
 | cons c l ih=>
  intro a k h e g;have hc:=(bJ c).1 (h c (by simp));simp only [aJ] at g;have hp:(10:Nat) ^ (k+1)=10 ^ k*10:=sC 10 k;have i:(10:Nat) ^ (k+1)<=10 ^ 18:=k9 (by decide) (by omega);have f:(10:Nat) ^ 18=1000000000000000000:=by decide
  have b:tD a c=a*10+(c.toNat - 48):=rfl;have ih:=ih (tD a c) (k+1) (λd b=>h d (by simp [b])) (by omega) (by omega);refine ⟨?_,?_⟩
  ·simp only [Lib.parseUintM];rw [ae hc,ab (by omega),ab (by omega),<-b,ih.1,mV]
  ·rw [mV,aJ,show l.length+1+k=l.length+(k+1) by omega];exact ih.2
theorem G2 {l:aa} (h:∀c∈l,aS c=true) (b:l≠[]) (k:l.length<=18):wB l=some ((dval 0 l:Nat):Int)/\dval 0 l<10 ^ l.length:=by
 obtain ⟨i,d⟩:=Qb (2 ^ 64 - 1) (by decide) l 0 0 h (by simp) (by omega);refine ⟨?_,by simpa using d⟩;have e:dval 0 l<10 ^ 18:=mI d (k9 (by decide) (by omega));cases l with
 | nil=>exact absurd rfl b
 | cons c r=>
  have hc:=(bJ c).1 (h c (by simp));have j:Lib.parseUintB 64 (c::r)=.ok (dval 0 (c::r)):=by
   unfold Lib.parseUintB;rw [ab b,i]
  have hs:¬(c.toNat=43\/c.toNat=45):=by omega
  simp only [wB,Lib.parseIntB,hs,aE,j];have g:(10:Nat) ^ 18=1000000000000000000:=by decide
  have a:(2:Nat) ^ (64 - 1)=9223372036854775808:=by decide
  have f:¬c.toNat=45:=by omega
  simp only [f,Ce,ku,false_and,aE];rw [a,ab (by omega)]
theorem NE (n k:Nat) (j:k<=18) (h:18<n):mT n (k:Int)=some (((10 ^ k:Nat):Int),0):=by
 have f:(10:Nat) ^ 18=1000000000000000000:=by decide
 have:=fq (step:=jx n) (λx=>∃i:Nat,i<=k/\x=(((10 ^ i:Nat):Int),(k:Int),(i:Int))) (λx=>k - x.2.2.toNat) (λ_=>((10 ^ k:Nat):Int)) (by
  rintro x ⟨i,hi,rfl⟩;rcases aF i k with a | e
  ·have g:(10:Nat) ^ (i+1)<=10 ^ 18:=k9 (by decide) (by omega);have hp:(10:Nat) ^ (i+1)=10 ^ i*10:=sC 10 i;have d:IntKind.wrap .i64 (((10 ^ i:Nat):Int)*10)=((10 ^ (i+1):Nat):Int):=by rw [wrap_i64 _ (by omega) (by omega)];omega
   have b:IntKind.wrap .i64 ((i:Int)+1)=((i+1:Nat):Int):=by rw [wrap_i64 _ (by omega) (by omega)];omega
   refine .inl ⟨_,?_,⟨i+1,a,rfl⟩,by simp only [bR];omega,rfl⟩;simp only [jx,gK,a,mN,aj,d,b]
  ·have:i=k:=by omega
   subst this;refine .inr ?_;simp only [jx,gK,CL,mb,af]) n (1,(k:Int),0) ⟨0,by omega,rfl⟩ (by simp;omega)
 have c:decide ((k:Int)<0)=false:=aq (by omega);have d2:decide ((k:Int)>18)=false:=aq (by omega);simp only [mT,c,d2,af,this,ob]
theorem jp (x:Int) (a:0<=x) (b:x<18446744073709551616):IntKind.wrap .u64 x=x:=by
 show x%18446744073709551616=x;omega
theorem DO (x:Int):IntKind.wrap .u64 x=x%18446744073709551616:=rfl
theorem Jo {a:Nat} (b:a<18446744073709551616):bits .and .u64 (a:Int) 4294967295=((a%4294967296:Nat):Int):=by
 show IntKind.wrap .u64 ((BitVec.ofInt 64 (a:Int) &&& BitVec.ofInt 64 ((4294967295:Nat):Int)).toNat:Int)=_;rw [AN,AN,BitVec.toNat_and,BitVec.toNat_ofNat,BitVec.toNat_ofNat,re (show a<2 ^ 64 from b),re (by decide)];have:=Nat.and_two_pow_sub_one_eq_mod a 32;rw [show (2:Nat) ^ 32 - 1=4294967295 from by decide,show (2:Nat) ^ 32=4294967296 from by decide] at this;rw [this];exact jp _ (by omega) (by omega)
theorem MQ (a:Nat):Int.fdiv (a:Int) (2 ^ 32)=((a / 4294967296:Nat):Int):=by
 rw [M9]
theorem DY {a b A B:Nat} (c:a<=A) (d:b<=B):a*b<=A*B:=uK c d
theorem IZ (a b:Nat):a*b=(a / 4294967296)*(b / 4294967296)*18446744073709551616+((a / 4294967296)*(b%4294967296)+(a%4294967296)*(b / 4294967296))*4294967296+(a%4294967296)*(b%4294967296):=by
 have f:a=(a / 4294967296)*4294967296+a%4294967296:=by omega
 have e:b=(b / 4294967296)*4294967296+b%4294967296:=by omega
 generalize a / 4294967296=c at f ⊢;generalize a%4294967296=g at f ⊢;generalize b / 4294967296=d at e ⊢;generalize b%4294967296=h at e ⊢;subst f e;rw [fY,Nat.mul_add,Nat.mul_add];have i:c*4294967296*(d*4294967296)=c*d*18446744073709551616:=by
  rw [Nat.mul_mul_mul_comm]
 have j:c*4294967296*h=c*h*4294967296:=by rw [Nat.mul_right_comm]
 have k:g*(d*4294967296)=g*d*4294967296:=by rw [B7]
 rw [i,j,k,fY];omega
theorem Ue (n a b:Nat) (p:a<18446744073709551616) (w:b<18446744073709551616):jt n (a:Int) (b:Int)=some (((a*b / 18446744073709551616:Nat):Int),((a*b%18446744073709551616:Nat):Int)):=by
 have q:=IZ a b;have j:a / 4294967296<=4294967295:=by omega
 have i:a%4294967296<=4294967295:=by omega
 have g:b / 4294967296<=4294967295:=by omega
 have h:b%4294967296<=4294967295:=by omega
 have r:=DY i h;have x:=DY i g;have z:=DY j h;have m:=DY j g;have k:IntKind.wrap .u64 ((a:Int)*(b:Int))=((a*b%18446744073709551616:Nat):Int):=by
  rw [DO,<-K9];omega
 simp only [jt,MQ,Jo p,Jo w,k];simp only [<-K9];generalize (a / 4294967296)*(b / 4294967296)=f at *;generalize (a / 4294967296)*(b%4294967296)=d at *;generalize (a%4294967296)*(b / 4294967296)=e at *;generalize (a%4294967296)*(b%4294967296)=c at *;generalize a*b=N at *;have v:IntKind.wrap .u64 ((c:Nat):Int)=((c:Nat):Int):=jp _ (by omega) (by omega);have y:IntKind.wrap .u64 ((d:Nat):Int)=((d:Nat):Int):=jp _ (by omega) (by omega);have o:IntKind.wrap .u64 ((e:Nat):Int)=((e:Nat):Int):=jp _ (by omega) (by omega);have s:IntKind.wrap .u64 ((f:Nat):Int)=((f:Nat):Int):=jp _ (by omega) (by omega);rw [v,y,o,s,MQ c];have l:IntKind.wrap .u64 (((d:Nat):Int)+((c / 4294967296:Nat):Int))=((d+c / 4294967296:Nat):Int):=by rw [jp _ (by omega) (by omega)];omega
 rw [l,MQ,Jo (by omega)];have t:IntKind.wrap .u64 (((f:Nat):Int)+(((d+c / 4294967296) / 4294967296:Nat):Int))=((f+(d+c / 4294967296) / 4294967296:Nat):Int):=by rw [jp _ (by omega) (by omega)];omega
 have u:IntKind.wrap .u64 ((((d+c / 4294967296)%4294967296:Nat):Int)+((e:Nat):Int))=(((d+c / 4294967296)%4294967296+e:Nat):Int):=by rw [jp _ (by omega) (by omega)];omega
 rw [t,u,MQ];have w8:IntKind.wrap .u64 (((f+(d+c / 4294967296) / 4294967296:Nat):Int)+((((d+c / 4294967296)%4294967296+e) / 4294967296:Nat):Int))=((N / 18446744073709551616:Nat):Int):=by
  rw [jp _ (by omega) (by omega)];omega
 rw [w8]
theorem TQ (n a b:Nat) (k:a<9223372036854775808) (j:b<9223372036854775808):ub n (a:Int) (b:Int)=some (if a*b<9223372036854775808 then (((a*b:Nat):Int),0) else (0,15)):=by
 have g:decide ((a:Int)<0)=false:=aq (by omega);have d2:decide ((b:Int)<0)=false:=aq (by omega);have i:IntKind.wrap .u64 (a:Int)=a:=jp _ (by omega) (by omega);have f:IntKind.wrap .u64 (b:Int)=b:=jp _ (by omega) (by omega);simp only [ub,rP,g,d2,af,i,f,ob,Ue n a b (by omega) (by omega)];generalize a*b=N;by_cases h:18446744073709551616<=N
 ·have c:decide (((N / 18446744073709551616:Nat):Int)>0)=true:=am (by omega);rw [c,ab (by omega)];rfl
 ·have c:decide (((N / 18446744073709551616:Nat):Int)>0)=false:=aq (by omega);have e:N%18446744073709551616=N:=re (by omega);rw [c,e];simp only [af,xj,cN,qT,g9,aj];by_cases d:N<9223372036854775808
  ·have d4:decide (((N:Nat):Int)<=9223372036854775807)=true:=am (by omega);rw [d4,ae d,aj,wrap_i64 _ (by omega) (by omega)]
  ·have d4:decide (((N:Nat):Int)<=9223372036854775807)=false:=aq (by omega);rw [d4,ab d,af]
def E16:Nat:=10000000000000000
theorem Pq {x:Nat} (hx:17<=x):E16<10 ^ x:=by
 have:(10:Nat) ^ 17<=10 ^ x:=k9 (by decide) hx;have a:(10:Nat) ^ 17=100000000000000000:=by decide
 unfold E16;omega
theorem J0 (n:Nat) (g l:Bool) (d:aa) (x:Nat) (s:Int) (q:∀c∈d,aS c=true) (j:d≠[]) (f:d.length<=17) (hx:x<=18) (i:18<n):
  dC n g l d (x:Int) s=some (if dval 0 d*10 ^ x<=E16 then (((dval 0 d*10 ^ x:Nat):Int),0) else (0,6)):=by
 obtain ⟨o,k⟩:=G2 q j (by omega);have r:dval 0 d<10 ^ 17:=mI k (k9 (by decide) f);have hp:(10:Nat) ^ x<=10 ^ 18:=k9 (by decide) hx;have e:(10:Nat) ^ 17=100000000000000000:=by decide
 have p:(10:Nat) ^ 18=1000000000000000000:=by decide
 have m:Nat.ble d.length 9223372036854775806=true:=cG (by omega);simp only [dC,m,aj,o,ob,NE n x hx i,fD,af,TQ n _ _ (show dval 0 d<9223372036854775808 by omega) (show 10 ^ x<9223372036854775808 by omega)];generalize dval 0 d*10 ^ x=N;unfold E16;by_cases h:N<9223372036854775808
 ·rw [ae h];simp only [fD,af];by_cases b:N<=10000000000000000
  ·have a:decide (((N:Nat):Int)>10000000000000000)=false:=aq (by omega);rw [a,ae b,af]
  ·have a:decide (((N:Nat):Int)>10000000000000000)=true:=am (by omega);rw [a,ab b,aj]
 ·rw [ab h,ab (by omega)];rfl
def pre (d:aa) (i:Nat):Nat:=dval 0 (d.take i)*10 ^ (i - d.length)
theorem Ob {d:aa} {i:Nat} {c:UInt8} (h:d[i]?=some c):pre d (i+1)=10*pre d i+(c.toNat - 48):=by
 have a:=rY h;unfold pre;rw [oL,h,show i+1 - d.length=0 by omega,show i - d.length=0 by omega];simp only [Option.toList,EV,Nat.pow_zero,sT];omega
theorem N4 {d:aa} {i:Nat} (h:d.length<=i):pre d (i+1)=10*pre d i:=by
 unfold pre;rw [jc (show d.length<=i+1 by omega),jc h,show i+1 - d.length=(i - d.length)+1 by omega,sC];rw [<-B7];omega
theorem Ek (d:aa):∀k i,pre d i<=pre d (i+k)
 | 0,i=>aQ _
 | k+1,i=>by
  have ih:=Ek d k i;rcases aF (i+k) d.length with a | b
  ·have:=Ob (bn a);rw [show i+(k+1)=i+k+1 by omega,this];omega
  ·have:=N4 b;rw [show i+(k+1)=i+k+1 by omega,this];omega
theorem G4 (n:Nat) (d:aa) (x:Nat) (u:∀c∈d,aS c=true) (v:d.length<=100) (hx:x<=100) (w:d.length+x<n):
  dY n d (x:Int)=some (if dval 0 d*10 ^ x<=E16 then (((dval 0 d*10 ^ x:Nat):Int),1) else (0,0)):=by
 have a:pre d (d.length+x)=dval 0 d*10 ^ x:=by
  unfold pre;rw [jc (by omega),show d.length+x - d.length=x by omega]
 have w0:IntKind.wrap .i64 (((d.length:Nat):Int)+(x:Int))=((d.length+x:Nat):Int):=by rw [wrap_i64 _ (by omega) (by omega)];omega
 have:=fq (step:=ej n) (λq=>∃i:Nat,i<=d.length+x/\pre d i<=E16/\q=(d,(x:Int),((pre d i:Nat):Int),(i:Int))) (λq=>d.length+x - q.2.2.2.toNat) (λ_=>if dval 0 d*10 ^ x<=E16 then .inr ((dval 0 d*10 ^ x:Nat):Int) else .inl (0,0)) (by
  rintro q ⟨i,hi,hp,rfl⟩;simp only [ej,w0,gK];unfold E16 at hp ⊢;have p:IntKind.wrap .i64 ((i:Int)+1)=((i+1:Nat):Int):=by rw [wrap_i64 _ (by omega) (by omega)];omega
  have o:IntKind.wrap .i64 (10*((pre d i:Nat):Int))=((10*pre d i:Nat):Int):=by rw [wrap_i64 _ (by omega) (by omega)];omega
  by_cases j:i<d.length+x
  ·have m:=Ek d (d.length+x - (i+1)) (i+1);rw [show i+1+(d.length+x - (i+1))=d.length+x by omega,a] at m;simp only [j,mN,aj,p,o];rcases aF i d.length with e | g
   ·obtain ⟨c,hc⟩:∃c,d[i]?=some c:=⟨d[i],bn e⟩;have l:=(bJ c).1 (u c (fH hc));have hs:=Ob hc;have t:IntKind.wrap .u8 (((c.toNat:Nat):Int) - 48)=((c.toNat - 48:Nat):Int):=by rw [gh _ (by omega) (by omega)];omega
    have r:IntKind.wrap .i64 ((c.toNat - 48:Nat):Int)=((c.toNat - 48:Nat):Int):=wrap_i64 _ (by omega) (by omega);have s:IntKind.wrap .i64 (((10*pre d i:Nat):Int)+((c.toNat - 48:Nat):Int))=((pre d (i+1):Nat):Int):=by rw [wrap_i64 _ (by omega) (by omega)];omega
    simp only [e,mN,aj,dK hc,ob,t,r,s];by_cases k:pre d (i+1)<=10000000000000000
    ·have b:decide (((pre d (i+1):Nat):Int)>10000000000000000)=false:=aq (by omega);simp only [b,af];exact .inl ⟨_,rfl,⟨i+1,j,k,rfl⟩,by simp only [bR];omega,trivial⟩
    ·have b:decide (((pre d (i+1):Nat):Int)>10000000000000000)=true:=am (by omega);simp only [b,aj];rw [ab (by omega)];exact .inr rfl
   ·have hs:=N4 g;have f:¬i<d.length:=by omega
    simp only [f,mb,af];rw [<-hs];by_cases k:pre d (i+1)<=10000000000000000
    ·have b:decide (((pre d (i+1):Nat):Int)>10000000000000000)=false:=aq (by omega);simp only [b,af];exact .inl ⟨_,rfl,⟨i+1,j,k,rfl⟩,by simp only [bR];omega,trivial⟩
    ·have b:decide (((pre d (i+1):Nat):Int)>10000000000000000)=true:=am (by omega);simp only [b,aj];rw [ab (by omega)];exact .inr rfl
  ·have:i=d.length+x:=by omega
   subst this;simp only [CL,mb,af];rw [a] at hp ⊢;rw [ae hp];exact .inr rfl) n (d,(x:Int),0,0) ⟨0,by omega,by unfold pre E16;simp [nZ],by unfold pre;simp [nZ]⟩ (by simp;omega)
 simp only [dY,this,ob];by_cases h:dval 0 d*10 ^ x<=E16
 ·rw [ae h,ae h]
 ·rw [ab h,ab h]
def okM (d:aa) (x:Int):Prop:=(∀c∈d,aS c=true)/\1<=d.length/\d.length<=17/\d.head?≠some 48/\0<=x/\x<=16/\¬(x=0/\d.length<5)/\dval 0 d*10 ^ x.toNat<=E16
def okL (d:aa) (x s:Int):Prop:=okM d x/\0<=s/\s<=(d.length:Int)+x
def okS (g:Bool) (d:aa) (x s:Int):Prop:=d.length=4/\(∀c∈d,aS c=true\/c=88)/\x=0/\¬(g=true/\all0 d=true)/\0<=s/\s<=4/\¬(0<s/\hasX d=true)
def okY (g l:Bool) (d:aa) (x s:Int):Prop:=if l=true then okL d x s else okS g d x s
instance (d:aa) (x:Int):Decidable (okM d x):=by unfold okM;infer_instance
instance (d:aa) (x s:Int):Decidable (okL d x s):=by unfold okL;infer_instance
instance (g:Bool) (d:aa) (x s:Int):Decidable (okS g d x s):=by unfold okS;infer_instance
instance (g l:Bool) (d:aa) (x s:Int):Decidable (okY g l d x s):=by unfold okY;infer_instance
theorem KY (d:aa):d.all aS=true↔∀c∈d,aS c=true:=bG
theorem Ea (d:aa):(d.all λc=>aS c||c==88)=true↔∀c∈d,aS c=true\/c=88:=by
 rw [bG];constructor
 ·intro h c hc;have:=h c hc;simpa using this
 ·intro h c hc;have:=h c hc;simpa using this
theorem OV (c:UInt8):(((c.toNat:Nat):Int)==48)=(c==48):=na c 48
theorem O3 (n:Nat) (g l:Bool) (d:aa) (x s:Int) (z:200<n) (B:d.length<=100):aP n g l d x s=some (decide (okM d x)):=by
 unfold aP;by_cases y:d.length<1
 ·have e:decide (((d.length:Nat):Int)<1)=true:=am (by omega);rw [e,aq (λh:okM d x=>by have:=h.2.1;omega)];rfl
 ·have e:decide (((d.length:Nat):Int)<1)=false:=aq (by omega);rw [e,af];by_cases A:d.length>17
  ·have e:decide (((d.length:Nat):Int)>17)=true:=am (by omega);rw [e,aq (λh:okM d x=>by have:=h.2.2.1;omega)];rfl
  ·have e:decide (((d.length:Nat):Int)>17)=false:=aq (by omega);rw [e,af,K4 n d (by omega) (by omega)];simp only [ob];cases t:d.all aS with
   | false=>
    rw [aq (λh:okM d x=>by rw [(KY d).2 h.1] at t;cases t)];rfl
   | true=>
    have a:=(KY d).1 t;obtain ⟨c,r,rfl⟩:∃c r,d=c::r:=by
     cases d with
     | nil=>simp at y
     | cons c r=>exact ⟨c,r,rfl⟩
    have p:sx (c::r) 0=some c:=by simp [sx]
    simp only [cN,af,p,OV];by_cases f:c=48
    ·rw [aq (λh:okM (c::r) x=>h.2.2.2.1 (by rw [f];rfl)),f];rfl
    ·have e:(c==48)=false:=aL.2 f;rw [e,af];by_cases u:x<0
     ·rw [am u,aq (λh:okM (c::r) x=>by have:=h.2.2.2.2.1;omega)];rfl
     ·rw [aq u,af];by_cases w:x>16
      ·rw [am w,aq (λh:okM (c::r) x=>by have:=h.2.2.2.2.2.1;omega)];rfl
      ·rw [aq w,af];obtain ⟨k,rfl⟩:∃k:Nat,x=(k:Int):=⟨x.toNat,by omega⟩;have o:=J0 n g l (c::r) k s a (by simp) (by omega) (by omega) (by omega);rw [o];have key:¬((k:Int)=0/\(c::r).length<5)->(okM (c::r) (k:Int)↔dval 0 (c::r)*10 ^ k<=E16):=by
        intro m;constructor
        ·intro h;simpa using h.2.2.2.2.2.2.2
        ·intro h;exact ⟨a,by omega,by omega,by simpa using f,by omega,by omega,m,by simpa using h⟩
       have b:¬((k:Int)=0/\(c::r).length<5)->(ob (some (if dval 0 (c::r)*10 ^ k<=E16 then (((dval 0 (c::r)*10 ^ k:Nat):Int),(0:Int)) else (0,6))) λq=>(some (q.2==0)))=some (decide (okM (c::r) (k:Int))):=by
        intro m;by_cases i:dval 0 (c::r)*10 ^ k<=E16
        ·rw [ae i,am ((key m).2 i)];rfl
        ·rw [ab i,aq (λh=>i ((key m).1 h))];rfl
       by_cases j:(k:Int)=0
       ·have e:((k:Int)==0)=true:=bp.2 j;rw [e,aj];by_cases v:(c::r).length<5
        ·have e:decide ((((c::r).length:Nat):Int)<5)=true:=am (by omega);rw [e,aq (λh:okM (c::r) (k:Int)=>h.2.2.2.2.2.2.1 ⟨j,v⟩)];rfl
        ·have e:decide ((((c::r).length:Nat):Int)<5)=false:=aq (by omega);rw [e,af];exact b (λh=>v h.2)
       ·have e:((k:Int)==0)=false:=aL.2 j;rw [e,af];exact b (λh=>j h.1)
theorem MC (n:Nat) (g l:Bool) (d:aa) (x s:Int) (e:200<n) (c:d.length<=100):
  (ob (aP n g l d x s) λr=>(cond (!r) (some (6:Int)) (cond (decide (s<0)) (some 6) (cond (decide (s>(IntKind.wrap .i64 (((d.length:Nat):Int)+x)))) (some 6) (some 0)))))=some (if okL d x s then 0 else 6):=by
 rw [O3 n g l d x s e c];simp only [ob];by_cases h:okM d x
 ·rw [am h];have hx:=h.2.2.2.2;have w:IntKind.wrap .i64 (((d.length:Nat):Int)+x)=((d.length:Nat):Int)+x:=wrap_i64 _ (by omega) (by omega);rw [w];simp only [cN,af,bC];by_cases b:s<0
  ·rw [ae b,ab (λq:okL d x s=>by have:=q.2.1;omega)]
  ·rw [ab b];by_cases a:s>((d.length:Nat):Int)+x
   ·rw [ae a,ab (λq:okL d x s=>by have:=q.2.2;omega)]
   ·rw [ab a,ae ⟨h,by omega,by omega⟩]
 ·rw [aq h,ab (λq:okL d x s=>h q.1)];rfl
theorem zu (n:Nat) (g l:Bool) (d:aa) (x s:Int) (z:200<n) (A:d.length<=100):bW n g l d x s=some (if okY g l d x s then 0 else 6):=by
 obtain ⟨y,v,hy⟩:=QD n d (by omega) (by omega);unfold bW;rw [Gw n d (by omega) (by omega),v,rS];cases l with
 | true=>
  have b:(if okY g true d x s then (0:Int) else 6)=if okL d x s then 0 else 6:=by simp only [okY,aI]
  rw [b];have st:=MC n g true d x s z A;simp only [aj];generalize (ob (aP n g true d x s) λr=>(cond (!r) (some (6:Int)) (cond (decide (s<0)) (some 6) (cond (decide (s>(IntKind.wrap .i64 (((d.length:Nat):Int)+x)))) (some 6) (some 0)))))=T at st ⊢;simp only [ob];rw [st];cases (((d.length:Nat):Int)==4)<;>cases (d.all λc=>aS c||c==88)<;>cases (x==0)<;>cases g<;>cases (y==[])<;>cases (s != 0)<;>rfl
 | false=>
  have b:(if okY g false d x s then (0:Int) else 6)=if okS g d x s then 0 else 6:=by simp only [okY,bj,aE]
  rw [b];simp only [af,ob];by_cases f:d.length=4
  ·have k:(((d.length:Nat):Int)==4)=true:=bp.2 (by omega);rw [k,aj];cases h:(d.all λc=>aS c||c==88) with
   | false=>
    rw [ab (λq:okS g d x s=>by rw [(Ea d).2 q.2.1] at h;cases h)];rfl
   | true=>
    have e:=(Ea d).1 h;rw [aj];by_cases m:x=0
    ·subst m;have w:IntKind.wrap .i64 (((d.length:Nat):Int)+0)=4:=by rw [f];decide
     rw [w];have a:¬(g=true/\all0 d=true)->(cond (s != 0) (cond (!(!hasX d)) (some (6:Int)) (cond (decide (s<0)) (some 6) (cond (decide (s>4)) (some 6) (some 0)))) (cond (decide (s<0)) (some 6) (cond (decide (s>4)) (some 6) (some 0))))=some (if okS g d 0 s then 0 else 6):=by
      intro t;simp only [bC,ua,Bool.not_not];by_cases s0:s=0
      ·subst s0;rw [ae rfl,ab (by omega),ab (by omega),ae ⟨f,e,rfl,t,by omega,by omega,by omega⟩]
      ·rw [ab s0];cases u:hasX d with
       | true=>
        by_cases i:s<0
        ·rw [ab (λq:okS g d 0 s=>by have:=q.2.2.2.2.1;omega)];rfl
        ·rw [ab (λq:okS g d 0 s=>q.2.2.2.2.2.2 ⟨by omega,u⟩)];rfl
       | false=>
        rw [af];by_cases i:s<0
        ·rw [ae i,ab (λq:okS g d 0 s=>by have:=q.2.2.2.2.1;omega)]
        ·rw [ab i];by_cases p:s>4
         ·rw [ae p,ab (λq:okS g d 0 s=>by have:=q.2.2.2.2.2.1;omega)]
         ·rw [ab p,ae ⟨f,e,rfl,t,by omega,by omega,λq=>by rw [u] at q;cases q.2⟩]
     have j:((0:Int)==0)=true:=rfl;rw [j,aj];cases g with
     | false=>
      simp only [af];exact a (by simp)
     | true=>
      simp only [aj];rw [hy];cases o:all0 d with
      | true=>rw [ab (λq:okS true d 0 s=>q.2.2.2.1 ⟨rfl,o⟩)];rfl
      | false=>
       simp only [g9,aj];exact a (by rw [o];simp)
    ·have j:(x==0)=false:=aL.2 m;rw [j,ab (λq:okS g d x s=>m q.2.2.1)];rfl
  ·have k:(((d.length:Nat):Int)==4)=false:=aL.2 (by omega);rw [k,ab (λq:okS g d x s=>f q.1)];rfl
theorem OW (d:aa):cnt 48 57 d=d.length↔∀c∈d,aS c=true:=JC 48 57 d
theorem Jm (n:Nat) (g l:Bool) (d:aa) (x s:Int) (M:200<n) (J:d.length<=100):cH n g l d x s=some (if okY g l d x s then 1 else 0):=by
 have hs:=It d;have u:=LG d;have p:=NA d;have o:=OW d;unfold cH;rw [Ic n d 48 57 (by omega) (by omega),Ic n d 88 88 (by omega) (by omega),Ic n d 48 48 (by omega) (by omega)];simp only [ob];generalize L:cnt 48 57 d=A at *;generalize N:cnt 88 88 d=B at *;have w0:IntKind.wrap .i64 (((A:Nat):Int)+((B:Nat):Int))=((A+B:Nat):Int):=by rw [wrap_i64 _ (by omega) (by omega)];omega
 rw [w0];simp only [ua,bC,Fo];by_cases z:A+B=d.length
 ·rw [ae (by omega)];have v:=hs.2.1 z;by_cases H:s<0
  ·rw [ae H,ab];intro q;unfold okY at q;split at q
   ·have:=q.2.1;omega
   ·have:=q.2.2.2.2.1;omega
  ·rw [ab H];cases l with
   | false=>
    have i:(if okY g false d x s then (1:Int) else 0)=if okS g d x s then 1 else 0:=by simp only [okY,bj,aE]
    rw [i,af];by_cases j:d.length=4
    ·rw [ae (by omega)];by_cases f:x=0
     ·rw [ae f];have a:¬(g=true/\all0 d=true)->(if s>4 then some (0:Int) else if s>0 then (if ((B:Nat):Int)>0 then some 0 else some 1) else some 1)=some (if okS g d x s then 1 else 0):=by
       intro E;by_cases m:s>4
       ·rw [ae m,ab (λq:okS g d x s=>by have:=q.2.2.2.2.2.1;omega)]
       ·rw [ab m];by_cases F:s>0
        ·rw [ae F];by_cases t:((B:Nat):Int)>0
         ·rw [ae t,ab (λq:okS g d x s=>q.2.2.2.2.2.2 ⟨by omega,by rw [u];exact am (by omega)⟩)]
         ·rw [ab t,ae ⟨j,v,f,E,by omega,by omega,λq=>by
           have:=q.2;rw [u,bV] at this;omega⟩]
        ·rw [ab F,ae ⟨j,v,f,E,by omega,by omega,λq=>by omega⟩]
      cases g with
      | false=>rw [af];exact a (by simp)
      | true=>
       rw [aj,ii];by_cases b:all0 d=true
       ·rw [ae (by have:=p.1 b;omega),ab (λq:okS true d x s=>q.2.2.2.1 ⟨rfl,b⟩)]
       ·rw [ab (λq=>b (p.2 (by omega)))];exact a (λq=>b q.2)
     ·rw [ab f,ab (λq:okS g d x s=>f q.2.2.1)]
    ·rw [ab (by omega),ab (λq:okS g d x s=>j q.1)]
   | true=>
    have i:(if okY g true d x s then (1:Int) else 0)=if okL d x s then 1 else 0:=by simp only [okY,aI]
    rw [i,aj];by_cases t:((B:Nat):Int)>0
    ·rw [ae t,ab];intro q;have:=o.2 q.1.1;omega
    ·rw [ab t];have h:=o.1 (by omega);by_cases j:((A:Nat):Int)<1
     ·rw [ae j,ab (λq:okL d x s=>by have:=q.1.2.1;omega)]
     ·rw [ab j];by_cases f:((A:Nat):Int)>17
      ·rw [ae f,ab (λq:okL d x s=>by have:=q.1.2.2.1;omega)]
      ·rw [ab f];obtain ⟨c,r,rfl⟩:∃c r,d=c::r:=by
        cases d with
        | nil=>simp at z;omega
        | cons c r=>exact ⟨c,r,rfl⟩
       have y:sx (c::r) 0=some c:=by simp [sx]
       simp only [y,OV,ii];by_cases b:c=48
       ·rw [ae b,ab (λq:okL (c::r) x s=>q.1.2.2.2.1 (by rw [b];rfl))]
       ·rw [ab b];by_cases G:x<0
        ·rw [ae G,ab (λq:okL (c::r) x s=>by have:=q.1.2.2.2.2.1;omega)]
        ·rw [ab G];by_cases C:x>16
         ·rw [ae C,ab (λq:okL (c::r) x s=>by have:=q.1.2.2.2.2.2.1;omega)]
         ·rw [ab C];obtain ⟨k,rfl⟩:∃k:Nat,x=(k:Int):=⟨x.toNat,by omega⟩;have I:IntKind.wrap .i64 (((A:Nat):Int)+(k:Int))=((A+k:Nat):Int):=by rw [wrap_i64 _ (by omega) (by omega)];omega
          rw [I,G4 n (c::r) k h J (by omega) (by omega)];have w:(c::r).length=A:=by omega
          have a:¬((k:Int)=0/\(c::r).length<5)->(if s>((A+k:Nat):Int) then some (0:Int) else some (if dval 0 (c::r)*10 ^ k<=E16 then (((dval 0 (c::r)*10 ^ k:Nat):Int),(1:Int)) else (0,0)).2)=some (if okL (c::r) (k:Int) s then 1 else 0):=by
           intro K;by_cases m:s>((A+k:Nat):Int)
           ·rw [ae m,ab (λq:okL (c::r) (k:Int) s=>by have:=q.2.2;rw [w] at this;omega)]
           ·rw [ab m];by_cases e:dval 0 (c::r)*10 ^ k<=E16
            ·rw [ae e,ae ⟨⟨h,by omega,by omega,by simpa using b,by omega,by omega,K,by simpa using e⟩,by omega,by omega⟩]
            ·rw [ab e,ab (λq:okL (c::r) (k:Int) s=>e (by simpa using q.1.2.2.2.2.2.2.2))]
          by_cases e:(k:Int)=0
          ·rw [ae e];by_cases D:((A:Nat):Int)<5
           ·rw [ae D,ab (λq:okL (c::r) (k:Int) s=>q.1.2.2.2.2.2.2.1 ⟨e,by omega⟩)]
           ·rw [ab D];exact a (λq=>by omega)
          ·rw [ab e];exact a (λq=>e q.1)
 ·rw [ab (by omega),ab];intro q;apply z;rw [hs.2];unfold okY at q;split at q
  ·exact λc hc=>.inl (q.1.1 c hc)
  ·exact q.2.1
theorem KD:∀(l:aa) (a:Nat),a*10 ^ l.length<=dval a l
 | [],a=>by rw [nZ];simp
 | c::l,a=>by
  have ih:=KD l (tD a c);rw [mV,aJ,sC];have h:a*10<=tD a c:=yV _ _;have b:=mH (10 ^ l.length) h;have d:a*(10 ^ l.length*10)=a*10*10 ^ l.length:=by rw [wE (10 ^ l.length) 10,B7]
  omega
theorem sI:∀(l:aa) (a k:Nat),(∀c∈l,aS c=true)->a<10 ^ k->dval a l<10 ^ (l.length+k)
 | [],a,k,_,h=>by rw [nZ];simpa using h
 | c::l,a,k,e,h=>by
  have hc:=(bJ c).1 (e c (by simp));have hp:(10:Nat) ^ (k+1)=10 ^ k*10:=sC 10 k;have hs:tD a c=a*10+(c.toNat - 48):=rfl;have ih:=sI l (tD a c) (k+1) (λd b=>e d (by simp [b])) (by omega);rw [mV,aJ,show l.length+1+k=l.length+(k+1) by omega];exact ih
structure Num (d:aa) (k q:Nat):Prop where
 dig:∀c∈d,aS c=true
 ne:d≠[]
 wide:d.length+k<=17
 small:dval 0 d*10 ^ k<=E16
 sig:q<=d.length+k
theorem ul {d:aa} (h:∀c∈d,aS c=true):hasX d=false:=by
 unfold hasX;rw [qk];intro c hc a;rw [bp] at a;have:=(bJ c).1 (h c hc);rw [a] at this;exact absurd this.2 (by decide)
theorem xM {g l:Bool} {d:aa} {x s:Int} (h:okY g l d x s) (p:hasX d=false):∃k q:Nat,x=(k:Int)/\s=(q:Int)/\Num d k q:=by
 cases l with
 | true=>
  have h:okL d x s:=by simpa [okY] using h
  obtain ⟨⟨b,f,C,j,w,A,v,y⟩,t,z⟩:=h;refine ⟨x.toNat,s.toNat,by omega,by omega,b,by intro e;subst e;simp at f,?_,y,by omega⟩;cases d with
  | nil=>simp at f
  | cons c r=>
   have hc:=(bJ c).1 (b c (by simp));have m:c≠48:=by simpa using j
   have i:1<=tD 0 c:=by
    have:c.toNat≠48:=λe=>m (fZ.1 e);show 1<=0*10+(c.toNat - 48);omega
   have B:=KD r (tD 0 c);rw [<-mV] at B;have t:10 ^ r.length<=dval 0 (c::r):=by
    have:=mH (10 ^ r.length) i;omega
   have n:=mH (10 ^ x.toNat) t;rw [<-Nat.pow_add] at n;rcases aF (r.length+x.toNat) 17 with a | o
   ·simp only [aJ];omega
   ·have:=Pq o;omega
 | false=>
  have h:okS g d x s:=by simpa [okY] using h
  obtain ⟨b,f,C,j,w,A,v⟩:=h;have u:∀c∈d,aS c=true:=by
   intro c hc;rcases f c hc with h | h
   ·exact h
   ·exfalso;unfold hasX at p;rw [qk] at p;exact p c hc (bp.2 h)
  have a:=sI d 0 0 u (by simp);rw [b] at a;refine ⟨0,s.toNat,by omega,by omega,u,by intro e;subst e;simp at b,by omega,?_,by omega⟩;have j:(10:Nat) ^ (4+0)=10000:=by decide
  unfold E16;simp only [Nat.pow_zero,sT];omega
def val (d:aa) (k:Nat):Nat:=dval 0 d*10 ^ k
theorem yL (n:Nat) (g l:Bool) (d:aa) (x s:Int) (e:200<n) (b:d.length<=100):
  dN n g l d x s=some (if okY g l d x s/\hasX d=false then (if g then -((val d x.toNat:Nat):Int) else ((val d x.toNat:Nat):Int),0) else (0,6)):=by
 unfold dN;rw [zu n g l d x s e b,rS];simp only [ob];by_cases h:okY g l d x s
 ·rw [ae h];cases c:hasX d with
  | true=>rw [ab (by simp)];rfl
  | false=>
   rw [ae ⟨h,rfl⟩];obtain ⟨k,q,rfl,rfl,a⟩:=xM h c;rw [J0 n g l d k q a.dig a.ne (by have:=a.wide;omega) (by have:=a.wide;omega) (by omega),ae a.small];have hs:=a.small;unfold E16 at hs;cases g with
   | true=>
    simp only [fD,af,aj,bR,val,aI];rw [wrap_i64 _ (by omega) (by omega),Int.zero_sub]
   | false=>simp [val]
 ·rw [ab h,ab (λq=>h q.1)];rfl
theorem dR {a b:aa} (h:a.length+b.length<=1000000):cat a b=some (a++b):=by
 unfold cat;rw [ae (by omega)]
theorem cut1 {l:aa} {i:Nat} {c:UInt8} (h:l[i]?=some c):List.drop i (List.take (i+1) l)=[c]:=by
 have a:=rY h;rw [oL,h,Br (by rw [e7];omega)];rfl
theorem Uj {l:aa} {i:Nat} {c:UInt8} (h:l[i]?=some c):List.take (i+1) l=List.take i l++[c]:=by
 rw [oL,h];rfl
theorem vF {g l:Bool} {d:aa} {x s:Int} (h:okY g l d x s) (a:hasX d=true):l=false/\x=0/\s=0/\d.length=4/\∀c∈d,aS c=true\/c=88:=by
 cases l with
 | true=>
  have h:okL d x s:=by simpa [okY] using h
  rw [ul h.1.1] at a;cases a
 | false=>
  have h:okS g d x s:=by simpa [okY] using h
  obtain ⟨f,i,j,k,m,n,b⟩:=h;refine ⟨rfl,j,?_,f,i⟩;have:¬0<s:=λe=>b ⟨e,a⟩;omega
theorem kA {g l:Bool} {d:aa} {x s:Int} (h:okY g l d x s):0<=x/\x<=16/\0<=s/\s<=17/\1<=d.length/\d.length<=17:=by
 cases b:hasX d with
 | true=>
  obtain ⟨rfl,rfl,rfl,e,_⟩:=vF h b;omega
 | false=>
  obtain ⟨k,q,rfl,rfl,a⟩:=xM h b;have f:=a.wide;have i:=a.sig;have j:1<=d.length:=by
   cases d with
   | nil=>exact absurd rfl a.ne
   | cons c r=>simp
  omega
theorem Kx {g l:Bool} {d:aa} {x s:Int} (h:okY g l d x s):th d x s=true:=by
 obtain ⟨c,f,i,a,b,e⟩:=kA h;unfold th;rw [am (by omega),cG (by omega)];rfl
def numU (d:UInt8):aa->Nat⊕(Nat×Nat)
 | []=>.inr (d.toNat - 48,2)
 | e::_=>if aS e=true then .inr (10*(d.toNat - 48)+(e.toNat - 48),3) else .inr (d.toNat - 48,2)
def numT:aa->Nat⊕(Nat×Nat)
 | []=>.inl 1
 | d::r=>if 49<=d.toNat/\d.toNat<=57 then numU d r else .inl 1
def numS (letter:UInt8):aa->Nat⊕(Nat×Nat)
 | []=>.inr (0,0)
 | c::r=>if c=letter then numT r else .inr (0,0)
theorem ud (letter:UInt8):numS letter []=.inr (0,0):=rfl
theorem lV (letter c:UInt8) (r:aa):numS letter (c::r)=if c=letter then numT r else .inr (0,0):=rfl
theorem yu:numT []=.inl 1:=rfl
theorem nz (d:UInt8) (r:aa):numT (d::r)=if 49<=d.toNat/\d.toNat<=57 then numU d r else .inl 1:=rfl
theorem rn (d:UInt8):numU d []=.inr (d.toNat - 48,2):=rfl
theorem lU (d e:UInt8) (r:aa):numU d (e::r)=if aS e=true then .inr (10*(d.toNat - 48)+(e.toNat - 48),3) else .inr (d.toNat - 48,2):=rfl
theorem xZ (c:UInt8) (h:c.toNat<128):(Utf8.encode ((c.toNat:Nat):Int)).data.toList=[c]:=by
 have:=gH (λc=>(decide (128<=c.toNat))||(Utf8.encode ((c.toNat:Nat):Int)).data.toList==[c]) (by decide +kernel) c;simp only [f8,bV,bp] at this;rcases this with a | a
 ·omega
 ·exact a
theorem oM {c:UInt8} (h:48<=c.toNat/\c.toNat<=57):Lib.digitVal c=some (c.toNat - 48):=by
 unfold Lib.digitVal;rw [ae h]
theorem xf {c:UInt8} (h:48<=c.toNat/\c.toNat<=57) (r:aa):Lib.atoi (c::r)=(Lib.decNat (c::r)).map λ(m:Nat)=>(m:Int):=by
 have b:(c==45)=false:=by
  rw [aL];rintro rfl;exact absurd h.1 (by decide)
 have a:(c==43)=false:=by
  rw [aL];rintro rfl;exact absurd h.1 (by decide)
 simp only [Lib.atoi,b,a,bj,aE]
theorem MZ {c:UInt8} (h:48<=c.toNat/\c.toNat<=57):Lib.atoi [c]=some ((c.toNat - 48:Nat):Int):=by
 rw [xf h];simp only [Lib.decNat,List.isEmpty_cons,bj,aE,Lib.decFrom,oM h,dU,yk,cj]
theorem EL {c e:UInt8} (h:48<=c.toNat/\c.toNat<=57) (a:48<=e.toNat/\e.toNat<=57):Lib.atoi [c,e]=some ((10*(c.toNat - 48)+(e.toNat - 48):Nat):Int):=by
 rw [xf h];simp only [Lib.decNat,List.isEmpty_cons,bj,aE,Lib.decFrom,oM h,oM a,dU,yk,cj];rw [wE]
theorem xp (c:UInt8):hasB [49,50,51,52,53,54,55,56,57] c=decide (49<=c.toNat/\c.toNat<=57):=by
 have:=gH (λc=>hasB [49,50,51,52,53,54,55,56,57] c==decide (49<=c.toNat/\c.toNat<=57)) (by decide +kernel) c;simpa using this
theorem jf {p q:UInt8->Bool} (h:∀c,p c=q c):∀(k:Nat) (l:aa),br p k l=br q k l
 | 0,_=>by simp [br]
 | _+1,[]=>by simp [br]
 | k+1,c::l=>by simp only [br,h c,jf h k l]
theorem lS {S:aa} {a:Nat} {c:UInt8} {r:aa} (h:S.drop a=c::r):a<S.length/\S[a]?=some c/\S.drop (a+1)=r:=by
 have b:a<S.length:=by
  rcases aF a S.length with q | q
  ·exact q
  ·rw [iD q] at h;cases h
 have e:S[a]?=some S[a]:=bn b;have d:=bS e;rw [h] at d;injection d with h1 h2;exact ⟨b,by rw [e,h1],h2.symm⟩
theorem Io (n:Nat) (letter:UInt8) (S:aa) (a:Nat) (h:a<=S.length) (E:S.length<100000) (B:S.length<n):
  cM n [letter] S (a:Int)=some (match numS letter (S.drop a) with | .inl k=>.inr (((a+k:Nat):Int),5,S,((a+k:Nat):Int)) | .inr (v,k)=>.inl ((v:Int),S,((a+k:Nat):Int))):=by
 unfold cM;rw [lq n [letter] S a h (by omega)];cases z:S.drop a with
 | nil=>simp [ud]
 | cons c r=>
  obtain ⟨A,D,x⟩:=lS z;rw [lV];by_cases hc:c=letter
  ·have j:List.take [letter].length (c::r)=[letter]:=by simp [hc]
   have o:a+[letter].length=a+1:=rfl;rw [ae j,o,ae hc];clear j;simp only [ob,cN,af];rw [zI n _ S (a+1) (by omega) (by omega),x];cases r with
   | nil=>simp [yu]
   | cons d t=>
    obtain ⟨u,y,l⟩:=lS x;rw [nz];simp only [xp,bV];by_cases b:49<=d.toNat/\d.toNat<=57
    ·rw [ae b,ae b];simp only [];rw [ug n _ 0 1 S (a+1+1) (by omega) (by omega) B,l];have F:=ky (hasB [48,49,50,51,52,53,54,55,56,57]) (1:Int).toNat t;rw [ab (by omega)];rw [jf vE];simp only [];rw [xZ d (by omega)];have g:Nat.ble ([d]:aa).length 18=true:=rfl;have q:∀e:UInt8,Nat.ble ([d,e]:aa).length 18=true:=λ_=>rfl;have m:a+1+1=a+2:=rfl;have C:a+2+1=a+3:=rfl;have w:=MZ (show 48<=d.toNat/\d.toNat<=57 by omega);cases t with
     | nil=>
      have hs:br aS (1:Int).toNat []=0:=rfl;rw [hs,rn];rw [dR (by simp)];simp only [List.take_nil,jP,bZ,g,aj,w,opt,m]
     | cons e f=>
      by_cases i:aS e=true
      ·have hs:br aS (1:Int).toNat (e::f)=1:=by
        show br aS (0+1) (e::f)=1;simp [br,i]
       have s:=EL (show 48<=d.toNat/\d.toNat<=57 by omega) ((bJ e).1 i);rw [hs,lU,ae i];have p:List.take 1 (e::f)=[e]:=rfl;rw [p,dR (by simp)];simp only [dQ,dn,q,aj,s,opt,m,C]
      ·have hs:br aS (1:Int).toNat (e::f)=0:=by
        show br aS (0+1) (e::f)=0;simp [br,i]
       rw [hs,lU,ab i];have p:List.take 0 (e::f)=[]:=rfl;rw [p,dR (by simp)];simp only [jP,g,aj,w,opt,bZ,m]
    ·rw [ab b,ab b]
  ·have e:¬List.take [letter].length (c::r)=[letter]:=by simp [hc]
   rw [ab e,ab hc];simp
theorem Hl (n:Nat) (letter:UInt8) (S:aa) (a:Nat) (h:a<=S.length) (J:S.length<100000):
  ah n S (a:Int) ((letter.toNat:Nat):Int)=some (match numS letter (S.drop a) with | .inl k=>(-1,((a+k:Nat):Int)) | .inr (v,k)=>((v:Int),((a+k:Nat):Int))):=by
 unfold ah;rw [kl];cases p:S.drop a with
 | nil=>
  have:S.length<=a:=by
   rcases aF a S.length with q | q
   ·rw [bS (bn q)] at p;cases p
   ·exact q
  rw [am this];simp [ud]
 | cons c r=>
  obtain ⟨F,B,i⟩:=lS p;have D:IntKind.wrap .i64 ((a:Int)+1)=((a+1:Nat):Int):=by rw [wrap_i64 _ (by omega) (by omega)];omega
  have E:IntKind.wrap .i64 (((a+1:Nat):Int)+1)=((a+2:Nat):Int):=by rw [wrap_i64 _ (by omega) (by omega)];omega
  have A:IntKind.wrap .i64 (((a+2:Nat):Int)+1)=((a+3:Nat):Int):=by rw [wrap_i64 _ (by omega) (by omega)];omega
  rw [aq (show ¬S.length<=a by omega),af,dK B];simp only [ob,D,E,A,kl,gK];have m:(((c.toNat:Nat):Int) != ((letter.toNat:Nat):Int))=!(c==letter):=by rw [bne,na]
  rw [m,lV];by_cases hc:c=letter
  ·have e:(!(c==letter))=false:=by rw [hc];simp
   rw [e,af,ae hc];cases r with
   | nil=>
    have:S.length<=a+1:=by
     rcases aF (a+1) S.length with q | q
     ·rw [bS (bn q)] at i;cases i
     ·exact q
    rw [am this];rfl
   | cons d y=>
    obtain ⟨u,l,b⟩:=lS i;rw [nz];rw [aq (show ¬S.length<=a+1 by omega),af,dK l];simp only [];by_cases K:d.toNat<49
    ·have t:decide (((d.toNat:Nat):Int)<49)=true:=am (by omega);rw [t,aj,ab (by omega)]
    ·have t:decide (((d.toNat:Nat):Int)<49)=false:=aq (by omega);rw [t,af];by_cases I:d.toNat>57
     ·have j:decide (((d.toNat:Nat):Int)>57)=true:=am (by omega);rw [j,aj,ab (by omega)]
     ·have j:decide (((d.toNat:Nat):Int)>57)=false:=aq (by omega);rw [j,af,ae (by omega)];have z:IntKind.wrap .i64 (IntKind.wrap .u8 (((d.toNat:Nat):Int) - 48))=((d.toNat - 48:Nat):Int):=by
       rw [gh _ (by omega) (by omega),wrap_i64 _ (by omega) (by omega)];omega
      rw [z];cases y with
      | nil=>
       have:¬a+2<S.length:=by
        intro q;rw [bS (bn (show a+1+1<S.length from q))] at b;cases b
       rw [aq this,rn];rfl
      | cons e H=>
       obtain ⟨f,s,_⟩:=lS b;rw [lU];rw [am (show a+2<S.length from f),aj,dK s];simp only [];by_cases x:e.toNat>=48
       ·have g:decide (((e.toNat:Nat):Int)>=48)=true:=am (by omega);rw [g,aj];by_cases w:e.toNat<=57
        ·have o:decide (((e.toNat:Nat):Int)<=57)=true:=am (by omega);have C:IntKind.wrap .i64 (IntKind.wrap .u8 (((e.toNat:Nat):Int) - 48))=((e.toNat - 48:Nat):Int):=by
          rw [gh _ (by omega) (by omega),wrap_i64 _ (by omega) (by omega)];omega
         have G:IntKind.wrap .i64 (10*((d.toNat - 48:Nat):Int))=((10*(d.toNat - 48):Nat):Int):=by rw [wrap_i64 _ (by omega) (by omega)];omega
         have ws:IntKind.wrap .i64 (((10*(d.toNat - 48):Nat):Int)+((e.toNat - 48:Nat):Int))=((10*(d.toNat - 48)+(e.toNat - 48):Nat):Int):=by rw [wrap_i64 _ (by omega) (by omega)];omega
         rw [o,aj,ae ((bJ e).2 ⟨x,w⟩),C,G,ws]
        ·have o:decide (((e.toNat:Nat):Int)<=57)=false:=aq (by omega);rw [o,af,ab (λq=>w ((bJ e).1 q).2)]
       ·have g:decide (((e.toNat:Nat):Int)>=48)=false:=aq (by omega);rw [g,af,ab (λq=>x ((bJ e).1 q).1)]
  ·have e:(!(c==letter))=true:=by rw [aL.2 hc];rfl
   rw [e,aj,ab hc];rfl
def isDX (c:UInt8):Bool:=aS c||c==88
abbrev YR:=Bool×Bool×aa×Nat×Nat×Nat
def se (g:Bool) (o:Nat):aa->Nat⊕YR
 | []=>.inl o
 | c::r=>if 49<=c.toNat/\c.toNat<=57 then
   (match numS 69 ((c::r).drop (1+br aS 16 r)) with
   | .inl j=>.inl (o+(1+br aS 16 r)+j)
   | .inr (x,j)=>(match numS 83 ((c::r).drop (1+br aS 16 r+j)) with
    | .inl i=>.inl (o+(1+br aS 16 r)+j+i)
    | .inr (s,i)=>.inr (g,true,(c::r).take (1+br aS 16 r),x,s,o+(1+br aS 16 r)+j+i)))
  else .inl o
def tw (g:Bool) (o:Nat) (l:aa):Nat⊕YR:=
 if br isDX 4 l<4 then .inl (o+br isDX 4 l) else
  (match numS 83 (l.drop 4) with
  | .inl i=>.inl (o+4+i)
  | .inr (s,i)=>.inr (g,false,l.take 4,0,s,o+4+i))
def eC (c:UInt8) (l:aa):Nat:=if l.take 1=[c] then 1 else 0
def nU (l:aa):Nat⊕YR:=
 if eC 89 l=1 then se (eC 45 (l.drop 1)==1) (1+eC 45 (l.drop 1)) (l.drop (1+eC 45 (l.drop 1)))
 else tw (eC 45 l==1) (eC 45 l) (l.drop (eC 45 l))
theorem km (c:UInt8) (l:aa):eC c l=0\/eC c l=1:=by
 unfold eC;split
 ·exact .inr rfl
 ·exact .inl rfl
theorem yS (c:UInt8) (l:aa):eC c l<=l.length:=by
 unfold eC;split
 ·rename_i h;cases l with
  | nil=>simp at h
  | cons a l=>simp
 ·omega
theorem rM (n:Nat) (c:UInt8) (S:aa) (a:Nat) (h:a<=S.length) (b:S.length<100000):
  aC n [c] S (a:Int)=some (eC c (S.drop a)==1,S,((a+eC c (S.drop a):Nat):Int)):=by
 rw [lq n [c] S a h (by omega)];unfold eC;have e:[c].length=1:=rfl;rw [e];split<;>rfl
def wP (S:aa) (a:Nat):Nat⊕YR->(Int×Int×aa×Int)⊕(Bool×Bool×aa×Int×Int×aa×Int)
 | .inl k=>.inl (((a+k:Nat):Int),5,S,((a+k:Nat):Int))
 | .inr (g,l,d,x,s,k)=>.inr (g,l,d,(x:Int),(s:Int),S,((a+k:Nat):Int))
def m9 (a:Nat):Nat⊕YR->Bool×Bool×aa×Int×Int×Int×Int
 | .inl k=>(false,false,[],0,0,((a+k:Nat):Int),5)
 | .inr (g,l,d,x,s,k)=>(g,l,d,(x:Int),(s:Int),((a+k:Nat):Int),0)
theorem PU (letter:UInt8) (l:aa):(match numS letter l with | .inl k=>k<=l.length | .inr (_,k)=>k<=l.length):=by
 cases l with
 | nil=>simp [ud]
 | cons c r=>
  rw [lV];by_cases hc:c=letter
  ·rw [ae hc];cases r with
   | nil=>simp [yu]
   | cons d f=>
    rw [nz];by_cases b:49<=d.toNat/\d.toNat<=57
    ·rw [ae b];cases f with
     | nil=>simp [rn]
     | cons e g=>
      rw [lU];by_cases a:aS e=true
      ·rw [ae a];simp
      ·rw [ab a];simp
    ·rw [ab b];simp
  ·rw [ab hc];simp
theorem xU {letter:UInt8} {S:aa} {a:Nat} (h:a<=S.length) {v k:Nat} (b:numS letter (S.drop a)=.inr (v,k)):a+k<=S.length:=by
 have:=PU letter (S.drop a);rw [b,cu] at this;simp only at this;omega
theorem P6 (n:Nat) (S:aa) (a o:Nat) (g:Bool) (h:a+o<=S.length) (I:S.length<100000) (G:S.length<n):
  (ob (bQ n [49,50,51,52,53,54,55,56,57] S ((a+o:Nat):Int)) λv=>(Sum.casesOn (motive:=λ_=>Option ((Int×Int×aa×Int)⊕(Bool×Bool×aa×Int×Int×aa×Int))) v (λf=>(some (.inl (f.1,f.2.1,f.2.2.1,f.2.2.2)))) (λq=>(ob (bM n [48,49,50,51,52,53,54,55,56,57] 0 16 q.2.1 q.2.2) λA=>(Sum.casesOn (motive:=λ_=>Option _) A (λd=>(some (.inl (d.1,d.2.1,d.2.2.1,d.2.2.2)))) (λm=>(ob (cat (Utf8.encode q.1).data.toList m.1) λw=>(ob (cM n [69] m.2.1 m.2.2) λz=>(Sum.casesOn (motive:=λ_=>Option _) z (λl=>(ob (cM n [83] l.2.1 l.2.2) λu=>(Sum.casesOn (motive:=λ_=>Option _) u (λt=>(some (.inr (g,true,w,l.1,t.1,t.2.1,t.2.2)))) (λb=>(some (.inl (b.1,b.2.1,b.2.2.1,b.2.2.2))))))) (λe=>(some (.inl (e.1,e.2.1,e.2.2.1,e.2.2.2)))))))))))))=some (wP S a (se g o (S.drop (a+o)))):=by
 rw [zI n _ S (a+o) h (by omega)];cases F:S.drop (a+o) with
 | nil=>simp [se,wP,ob]
 | cons c r=>
  obtain ⟨O,R,H⟩:=lS F;simp only [xp,bV];by_cases hc:49<=c.toNat/\c.toNat<=57
  ·rw [ae hc];simp only [ob];rw [ug n _ 0 16 S (a+o+1) (by omega) (by omega) G,H];rw [ab (by omega),jf vE];simp only [];rw [xZ c (by omega)];have E:(16:Int).toNat=16:=rfl;rw [E];have P:=ky aS 16 r;have K:r.length+(a+o+1)=S.length:=by
    have:=bO List.length H;rw [cu] at this;omega
   rw [dR (by simp only [aJ,dm,e7];omega)];simp only [se];rw [ae hc];generalize T:br aS 16 r=k at P ⊢;have Q:[c]++List.take k r=List.take (1+k) (c::r):=by rw [nL];rfl
   rw [Q];have C:a+o+1+k<=S.length:=by omega
   have y:List.drop (1+k) (c::r)=S.drop (a+o+1+k):=by
    rw [<-F,gV];congr 1;omega
   rw [Io n 69 S (a+o+1+k) C I G,<-y];cases N:numS 69 (List.drop (1+k) (c::r)) with
   | inl j=>
    simp only [wP];have:a+o+1+k+j=a+(o+(1+k)+j):=by omega
    rw [this]
   | inr p=>
    obtain ⟨x,j⟩:=p;have J:=N;rw [y] at J;have D:=xU C J;have B:List.drop (1+k+j) (c::r)=S.drop (a+o+1+k+j):=by
     rw [<-F,gV];congr 1;omega
    simp only [];rw [Io n 83 S (a+o+1+k+j) D I G,<-B];cases L:numS 83 (List.drop (1+k+j) (c::r)) with
    | inl i=>
     simp only [wP];have:a+o+1+k+j+i=a+(o+(1+k)+j+i):=by omega
     rw [this]
    | inr M=>
     obtain ⟨s,i⟩:=M;simp only [wP];have:a+o+1+k+j+i=a+(o+(1+k)+j+i):=by omega
     rw [this]
  ·rw [ab hc];simp only [ob,se];rw [ab hc];rfl
theorem LS (n:Nat) (S:aa) (a o:Nat) (g:Bool) (h:a+o<=S.length) (x:S.length<100000) (u:S.length<n):
  (ob (bM n [88,48,49,50,51,52,53,54,55,56,57] 4 4 S ((a+o:Nat):Int)) λq=>(Sum.casesOn (motive:=λ_=>Option ((Int×Int×aa×Int)⊕(Bool×Bool×aa×Int×Int×aa×Int))) q (λd=>(some (.inl (d.1,d.2.1,d.2.2.1,d.2.2.2)))) (λf=>(ob (cM n [83] f.2.1 f.2.2) λm=>(Sum.casesOn (motive:=λ_=>Option _) m (λe=>(some (.inr (g,false,f.1,0,e.1,e.2.1,e.2.2)))) (λb=>(some (.inl (b.1,b.2.1,b.2.2.1,b.2.2.2)))))))))=some (wP S a (tw g o (S.drop (a+o)))):=by
 rw [ug n _ 4 4 S (a+o) h (by omega) u];have r:∀c,hasB [88,48,49,50,51,52,53,54,55,56,57] c=isDX c:=sR;have w:(4:Int).toNat=4:=rfl;rw [jf r,w];unfold tw;have v:=ky isDX 4 (S.drop (a+o));rw [cu] at v;by_cases j:br isDX 4 (S.drop (a+o))<4
 ·rw [ae (by omega),ae j];simp only [ob,wP];rw [gj]
 ·rw [ab (by omega),ab j];have t:∀(k:Nat) (l:aa),br isDX k l<=k:=by
   intro k
   induction k with
   | zero=>intro l;simp [br]
   | succ k ih=>
    intro l;cases l with
    | nil=>simp [br]
    | cons c l=>
     have:=ih l;simp only [br];split<;>omega
  have y:br isDX 4 (S.drop (a+o))=4:=by have:=t 4 (S.drop (a+o));omega
  rw [y] at v ⊢;simp only [ob];have hp:a+o+4<=S.length:=by omega
  rw [Io n 83 S (a+o+4) hp x u,gV];cases z:numS 83 (S.drop (a+o+4)) with
  | inl i=>
   simp only [wP];have:a+o+4+i=a+(o+4+i):=by omega
   rw [this]
  | inr p=>
   obtain ⟨s,i⟩:=p;simp only [wP];have:a+o+4+i=a+(o+4+i):=by omega
   rw [this];rfl
theorem Qf (n:Nat) (S:aa) (a:Nat) (h:a<=S.length) (d:S.length<100000) (f:S.length<n):
  kv n S (a:Int)=some (wP S a (nU (S.drop a))):=by
 unfold kv;rw [rM n 89 S a h d];have c:=yS 89 (S.drop a);rw [cu] at c;simp only [ob];rw [rM n 45 S (a+eC 89 (S.drop a)) (by omega) d];have b:=yS 45 (S.drop (a+eC 89 (S.drop a)));rw [cu] at b;simp only [];unfold nU;rcases km 89 (S.drop a) with e | e
 ·rw [e] at b ⊢;simp only [bZ,show ((0:Nat)==1)=false from rfl,af,show ¬((0:Nat)=1) from by decide,aE,gV] at b ⊢;have:=LS n S a (eC 45 (S.drop a)) (eC 45 (S.drop a)==1) (by omega) d f;exact this
 ·rw [e] at b ⊢;simp only [show ((1:Nat)==1)=true from rfl,aj,aI,gV] at b ⊢;have:=P6 n S a (1+eC 45 (S.drop (a+1))) (eC 45 (S.drop (a+1))==1) (by omega) d f;rw [<-gj] at this;rw [<-gj];exact this
abbrev stR (S:aa) (a b M:Int) (g L:Bool):aa×Int×Int×Int×Bool×Bool×aa×Int×Int×Bool×Bool×aa×Int×Int:=(S,a,b,M,false,false,[],0,0,g,L,[],0,0)
def isYB (L:Bool) (c:UInt8):Bool:=aS c||(c==88&&!L)
theorem H8 (n:Nat) (S:aa) (b M:Nat) (g:Bool) (k:0<M) (j:S.length<100000) (a:S[b]?=some 48):ar (aA (n+1)) (n+1) (stR S (b:Int) (b:Int) (M:Int) g true)=some (.inl ((b:Int),5,false,false,[],0,0)):=by
 have d:=rY a;have e:decide ((b:Int)<((S.length:Nat):Int))=true:=am (by omega);have f:IntKind.wrap .i64 ((b:Int) - (b:Int))=0:=by rw [Int.sub_self];rfl
 have d2:decide ((0:Int)<(M:Int))=true:=am (by omega);have i:decide ((((48:UInt8).toNat:Nat):Int)>=48)=true:=rfl;have c:decide ((((48:UInt8).toNat:Nat):Int)<=57)=true:=rfl;have h:((((48:UInt8).toNat:Nat):Int)==48)=true:=rfl;simp only [ar,aA,e,aj,f,d2,dK a,ob,i,c,h,xj]
theorem zp (n:Nat) (S:aa) (b M:Nat) (g L:Bool) (K:b<=S.length) (N:S.length<100000) (Q:S.length<n) (y:¬(L=true/\S[b]?=some 48)):
  ar (aA n) n (stR S (b:Int) (b:Int) (M:Int) g L)=some (.inr (S,((b+br (isYB L) M (S.drop b):Nat):Int),(b:Int),false,false,[],0,0,g,L,[],0,0)):=by
 have:=fq (step:=aA n) (λx=>∃j:Nat,b+j<=S.length/\x=stR S ((b+j:Nat):Int) (b:Int) (M:Int) g L) (λx=>S.length - x.2.1.toNat)
  (λx=>.inr (S,((x.2.1.toNat+br (isYB L) (M - (x.2.1.toNat - b)) (S.drop x.2.1.toNat):Nat):Int),(b:Int),false,false,[],0,0,g,L,[],0,0)) ?_ n (stR S (b:Int) (b:Int) (M:Int) g L) ⟨0,by omega,rfl⟩ (by simp;omega)
 ·rw [this];simp
 rintro x ⟨j,O,rfl⟩;simp only [bR];rcases aF (b+j) S.length with A | z
 ·obtain ⟨c,hc⟩:∃c,S[b+j]?=some c:=⟨S[b+j],bn A⟩;have d:decide (((b+j:Nat):Int)<((S.length:Nat):Int))=true:=am (by omega);have l:IntKind.wrap .i64 (((b+j:Nat):Int) - (b:Int))=(j:Int):=by rw [wrap_i64 _ (by omega) (by omega)];omega
  have B:IntKind.wrap .i64 (((b+j:Nat):Int)+1)=((b+(j+1):Nat):Int):=by rw [wrap_i64 _ (by omega) (by omega)];omega
  have p:b+j - b=j:=by omega
  rw [bS hc,p];by_cases P:j<M
  ·have d2:decide ((j:Int)<(M:Int))=true:=am (by omega);obtain ⟨q,E⟩:∃q,M - j=q+1:=⟨M - j - 1,by omega⟩;have u:M - (j+1)=q:=by omega
   rw [E];simp only [br];have J:isYB L c=true->aA n (stR S ((b+j:Nat):Int) (b:Int) (M:Int) g L)=some (.inl (stR S ((b+(j+1):Nat):Int) (b:Int) (M:Int) g L)):=by
    intro hy;by_cases k:aS c=true
    ·have G:=(bJ c).1 k;have f:decide (((c.toNat:Nat):Int)>=48)=true:=am (by omega);have i:decide (((c.toNat:Nat):Int)<=57)=true:=am (by omega);simp only [aA,d,aj,l,d2,dK hc,ob,f,i,B];cases L with
     | false=>rfl
     | true=>
      by_cases w:j=0
      ·subst w;have r:c≠48:=by
        intro e;exact y ⟨rfl,by rw [<-e];exact hc⟩
       have t:(((c.toNat:Nat):Int)==48)=false:=by rw [OV];exact aL.2 r
       simp only [bZ,xj,aj,t,af]
      ·have I:(((b+j:Nat):Int)==(b:Int))=false:=aL.2 (by omega);simp only [I,af,aj]
    ·have a:aS c=false:=by cases h:aS c with | false=>rfl | true=>exact absurd h k
     unfold isYB at hy;rw [a] at hy;simp only [mY,aB,bp,kU] at hy;obtain ⟨rfl,rfl⟩:=hy;have f:decide ((((88:UInt8).toNat:Nat):Int)>=48)=true:=rfl;have i:decide ((((88:UInt8).toNat:Nat):Int)<=57)=false:=rfl;have t:((((88:UInt8).toNat:Nat):Int)==88)=true:=rfl;simp only [aA,d,aj,l,d2,dK hc,ob,f,i,t,B,af,g9]
   have m:isYB L c=false->aA n (stR S ((b+j:Nat):Int) (b:Int) (M:Int) g L)=some (.inr (.inr (S,((b+j:Nat):Int),(b:Int),false,false,[],0,0,g,L,[],0,0))):=by
    intro hy;unfold isYB at hy;simp only [mW,BJ] at hy;obtain ⟨a,v⟩:=hy;have C:¬(48<=c.toNat/\c.toNat<=57):=λq=>by rw [(bJ c).2 q] at a;cases a
    have o:(((c.toNat:Nat):Int)==88)=(c==88):=na c 88;have D:(cond (c==88) (cond (!L) (0:Nat) 1) 1)=1:=by
     rcases v with h | h
     ·rw [h];rfl
     ·have:L=true:=by simpa using h
      rw [this];cases c==88<;>rfl
    by_cases R:c.toNat>=48
    ·have f:decide (((c.toNat:Nat):Int)>=48)=true:=am (by omega);have i:decide (((c.toNat:Nat):Int)<=57)=false:=aq (by omega);simp only [aA,d,aj,l,d2,dK hc,ob,f,i,af,o];rcases v with h | h
     ·rw [h];rfl
     ·have:L=true:=by simpa using h
      rw [this];cases c==88<;>rfl
    ·have f:decide (((c.toNat:Nat):Int)>=48)=false:=aq (by omega);simp only [aA,d,aj,l,d2,dK hc,ob,f,af,o];rcases v with h | h
     ·rw [h];rfl
     ·have:L=true:=by simpa using h
      rw [this];cases c==88<;>rfl
   cases hy:isYB L c with
   | true=>
    refine .inl ⟨_,J hy,⟨j+1,by omega,rfl⟩,by simp only [bR];omega,?_⟩;simp only [bR,aI];have F:b+(j+1) - b=j+1:=by omega
    rw [F,u,show b+(j+1)=b+j+1 by omega];have H:b+j+1+br (isYB L) q (S.drop (b+j+1))=b+j+(br (isYB L) q (S.drop (b+j+1))+1):=by omega
    rw [H]
   | false=>
    refine .inr ?_;rw [m hy];simp
  ·have d2:decide ((j:Int)<(M:Int))=false:=aq (by omega);have s:M - j=0:=by omega
   refine .inr ?_;rw [s];simp only [aA,d,aj,l,d2,af,br,bZ]
 ·have d:decide (((b+j:Nat):Int)<((S.length:Nat):Int))=false:=aq (by omega);refine .inr ?_;rw [iD z];have s:∀q,br (isYB L) q []=0:=λq=>by cases q<;>rfl
  simp only [aA,d,af,s,bZ]
theorem IB (n:Nat) (S:aa) (a:Nat) (h:a<=S.length) (b:S.length<100000):
  ah n S (a:Int) 69=some (match numS 69 (S.drop a) with | .inl k=>(-1,((a+k:Nat):Int)) | .inr (v,k)=>((v:Int),((a+k:Nat):Int))):=Hl n 69 S a h b
theorem A7 (n:Nat) (S:aa) (a:Nat) (h:a<=S.length) (b:S.length<100000):
  ah n S (a:Int) 83=some (match numS 83 (S.drop a) with | .inl k=>(-1,((a+k:Nat):Int)) | .inr (v,k)=>((v:Int),((a+k:Nat):Int))):=Hl n 83 S a h b
noncomputable def Je (n:Nat) (a0:aa) (B M:Int) (g L:Bool):Option (Bool×Bool×aa×Int×Int×Int×Int):=
 (ob (ar (aA n) n (a0,B,B,M,false,false,[],0,0,g,L,[],0,0)) λo=>(Sum.casesOn (motive:=λ_=>Option (Bool×Bool×aa×Int×Int×Int×Int)) o (λb=>(some (b.2.2.1,b.2.2.2.1,b.2.2.2.2.1,b.2.2.2.2.2.1,b.2.2.2.2.2.2,b.1,b.2.1))) (λa=>(cond (decide ((IntKind.wrap .i64 (a.2.1 - a.2.2.1))<1)) (some (false,false,[],0,0,a.2.1,5)) (cond (!a.2.2.2.2.2.2.2.2.2.1) (cond (decide ((IntKind.wrap .i64 (a.2.1 - a.2.2.1))<4)) (some (false,false,[],0,0,a.2.1,5)) (ob (bx (List.length a.1) a.2.1) λj=>(ob (bx j a.2.2.1) λm=>(cond a.2.2.2.2.2.2.2.2.2.1 (ob (ah n a.1 a.2.1 69) λf=>(cond (decide (f.1<0)) (some (false,false,[],0,0,f.2,5)) (ob (ah n a.1 f.2 83) λd=>(cond (decide (d.1<0)) (some (false,false,[],0,0,d.2,5)) (some (a.2.2.2.2.2.2.2.2.1,a.2.2.2.2.2.2.2.2.2.1,(List.drop m (List.take j a.1)),f.1,d.1,d.2,0)))))) (ob (ah n a.1 a.2.1 83) λi=>(cond (decide (i.1<0)) (some (false,false,[],0,0,i.2,5)) (some (a.2.2.2.2.2.2.2.2.1,a.2.2.2.2.2.2.2.2.2.1,(List.drop m (List.take j a.1)),a.2.2.2.2.2.2.2.2.2.2.2.1,i.1,i.2,0)))))))) (ob (bx (List.length a.1) a.2.1) λk=>(ob (bx k a.2.2.1) λl=>(cond a.2.2.2.2.2.2.2.2.2.1 (ob (ah n a.1 a.2.1 69) λh=>(cond (decide (h.1<0)) (some (false,false,[],0,0,h.2,5)) (ob (ah n a.1 h.2 83) λe=>(cond (decide (e.1<0)) (some (false,false,[],0,0,e.2,5)) (some (a.2.2.2.2.2.2.2.2.1,a.2.2.2.2.2.2.2.2.2.1,(List.drop l (List.take k a.1)),h.1,e.1,e.2,0)))))) (ob (ah n a.1 a.2.1 83) λc=>(cond (decide (c.1<0)) (some (false,false,[],0,0,c.2,5)) (some (a.2.2.2.2.2.2.2.2.1,a.2.2.2.2.2.2.2.2.2.1,(List.drop l (List.take k a.1)),a.2.2.2.2.2.2.2.2.2.2.2.1,c.1,c.2,0))))))))))))
theorem Ih (c:UInt8):isYB true c=aS c:=by unfold isYB;cases aS c<;>simp
theorem F8 (c:UInt8):isYB false c=isDX c:=by unfold isYB isDX;simp
theorem oY (p:UInt8->Bool):∀(k:Nat) (l:aa),br p k l<=k
 | 0,l=>by simp [br]
 | k+1,[]=>by simp [br]
 | k+1,c::l=>by
  have:=oY p k l;simp only [br];split<;>omega
theorem Dh:decide ((-1:Int)<0)=true:=rfl
theorem DD (x:Nat):decide (((x:Nat):Int)<0)=false:=aq (by omega)
theorem Hh (n:Nat) (S:aa) (a o:Nat) (g:Bool) (h:a+o<=S.length) (z:S.length<100000) (H:S.length<n):
  Je n S ((a+o:Nat):Int) 17 g true=some (m9 a (se g o (S.drop (a+o)))):=by
 unfold Je;cases f:S.drop (a+o) with
 | nil=>
  have m:¬(true=true/\S[a+o]?=some 48):=by
   rintro ⟨_,q⟩;rw [bS q] at f;cases f
  have l:=zp n S (a+o) 17 g true h z H m;rw [f] at l;have J:br (isYB true) 17 []=0:=rfl;rw [J,bZ] at l;have hl':ar (aA n) n (S,((a+o:Nat):Int),((a+o:Nat):Int),(17:Int),false,false,[],0,0,g,true,[],0,0)=_:=l;rw [hl'];have w:IntKind.wrap .i64 (((a+o:Nat):Int) - ((a+o:Nat):Int))=0:=by rw [Int.sub_self];rfl
  simp only [ob,w,se,m9];rfl
 | cons c r=>
  obtain ⟨Q,E,R⟩:=lS f;by_cases hc:c=48
  ·subst hc;obtain ⟨C,rfl⟩:∃q,n=q+1:=⟨n - 1,by omega⟩;have l:=H8 C S (a+o) 17 g (by omega) z E;have hl':ar (aA (C+1)) (C+1) (S,((a+o:Nat):Int),((a+o:Nat):Int),(17:Int),false,false,[],0,0,g,true,[],0,0)=_:=l;rw [hl'];have t:¬(49<=(48:UInt8).toNat/\(48:UInt8).toNat<=57):=by decide
   simp only [ob,se,m9];rw [ab t]
  ·have t:¬(true=true/\S[a+o]?=some 48):=by
    rintro ⟨_,q⟩;rw [E] at q;exact hc (by simpa using q)
   have l:=zp n S (a+o) 17 g true h z H t;rw [f,jf Ih] at l;have I:=ky aS 17 (c::r);have K:(c::r).length+(a+o)=S.length:=by
    have:=bO List.length f;rw [cu] at this;omega
   have hl':ar (aA n) n (S,((a+o:Nat):Int),((a+o:Nat):Int),(17:Int),false,false,[],0,0,g,true,[],0,0)=_:=l;rw [hl'];have w:∀k:Nat,k<=17->IntKind.wrap .i64 (((a+o+k:Nat):Int) - ((a+o:Nat):Int))=(k:Int):=by
    intro k F;rw [wrap_i64 _ (by omega) (by omega)];omega
   by_cases d:aS c=true
   ·have P:=(bJ c).1 d;have u:49<=c.toNat/\c.toNat<=57:=by
     have:c.toNat≠48:=λe=>hc (fZ.1 e);omega
    have b:br aS 17 (c::r)=1+br aS 16 r:=by
     show br aS (16+1) (c::r)=_;simp only [br,d,aI];omega
    rw [b] at I ⊢;have y:=oY aS 16 r;simp only [se];rw [ae u];generalize br aS 16 r=k at I y ⊢;have M:decide (((1+k:Nat):Int)<1)=false:=aq (by omega);simp only [ob,w (1+k) (by omega),M,af,cN,aj,da (show a+o+(1+k)<=S.length by omega),da (show a+o<=a+o+(1+k) by omega)];have B:a+o+(1+k)<=S.length:=by omega
    have v:S.drop (a+o+(1+k))=List.drop (1+k) (c::r):=by rw [<-f,gV]
    rw [IB n S (a+o+(1+k)) B z,v,nK,f];cases O:numS 69 (List.drop (1+k) (c::r)) with
    | inl j=>
     simp only [Dh,aj,m9];have:a+o+(1+k)+j=a+(o+(1+k)+j):=by omega
     rw [this]
    | inr p=>
     obtain ⟨x,j⟩:=p;have G:=O;rw [<-v] at G;have D:=xU B G;have A:S.drop (a+o+(1+k)+j)=List.drop (1+k+j) (c::r):=by rw [<-f,gV];congr 1;omega
     simp only [DD,af];rw [A7 n S (a+o+(1+k)+j) D z,A];cases L:numS 83 (List.drop (1+k+j) (c::r)) with
     | inl i=>
      simp only [Dh,aj,m9];have:a+o+(1+k)+j+i=a+(o+(1+k)+j+i):=by omega
      rw [this]
     | inr N=>
      obtain ⟨s,i⟩:=N;simp only [DD,af,m9];have:a+o+(1+k)+j+i=a+(o+(1+k)+j+i):=by omega
      rw [this]
   ·have b:br aS 17 (c::r)=0:=by
     show br aS (16+1) (c::r)=0;simp only [br];rw [ab d]
    have u:¬(49<=c.toNat/\c.toNat<=57):=λq=>d ((bJ c).2 (by omega));rw [b];simp only [se];rw [ab u];simp only [ob,w 0 (by omega),m9];rfl
theorem Gt (n:Nat) (S:aa) (a o:Nat) (g:Bool) (h:a+o<=S.length) (m:S.length<100000) (r:S.length<n):
  Je n S ((a+o:Nat):Int) 4 g false=some (m9 a (tw g o (S.drop (a+o)))):=by
 unfold Je;have j:=zp n S (a+o) 4 g false h m r (by rintro ⟨q,_⟩;cases q);rw [jf F8] at j;have l:=ky isDX 4 (S.drop (a+o));have b:=oY isDX 4 (S.drop (a+o));rw [cu] at l;have hl':ar (aA n) n (S,((a+o:Nat):Int),((a+o:Nat):Int),(4:Int),false,false,[],0,0,g,false,[],0,0)=_:=j;rw [hl'];unfold tw;generalize t:br isDX 4 (S.drop (a+o))=k at l b ⊢;have w:IntKind.wrap .i64 (((a+o+k:Nat):Int) - ((a+o:Nat):Int))=(k:Int):=by rw [wrap_i64 _ (by omega) (by omega)];omega
 simp only [ob,w,g9,aj,af];by_cases f:k<4
 ·rw [ae f];have e:decide ((k:Int)<4)=true:=am (by omega);rw [e];have c:a+o+k=a+(o+k):=by omega
  simp only [aj,m9,c];cases decide ((k:Int)<1)<;>rfl
 ·rw [ab f];have d:k=4:=by omega
  subst d;have e:decide (((4:Nat):Int)<4)=false:=rfl;have c:decide (((4:Nat):Int)<1)=false:=rfl;have hp:a+o+4<=S.length:=by omega
  simp only [e,c,af,da hp,da (show a+o<=a+o+4 by omega)];rw [A7 n S (a+o+4) hp m,nK,gV];cases u:numS 83 (S.drop (a+o+4)) with
  | inl i=>
   simp only [Dh,aj,m9];have:a+o+4+i=a+(o+4+i):=by omega
   rw [this]
  | inr p=>
   obtain ⟨s,i⟩:=p;simp only [DD,af,m9];have:a+o+4+i=a+(o+4+i):=by omega
   rw [this];rfl
theorem ji (c a:UInt8) (l:aa):eC c (a::l)=if a=c then 1 else 0:=by
 unfold eC;simp
theorem vM (c:UInt8):eC c []=0:=by unfold eC;simp
theorem Nc (n:Nat) (S:aa) (a:Nat) (h:a<=S.length) (E:S.length<100000) (F:S.length<n):
  md n S (a:Int)=some (m9 a (nU (S.drop a))):=by
 have z:=λo g q=>Hh n S a o g q E F;have D:=λo g q=>Gt n S a o g q E F;unfold Je at z D;have H:IntKind.wrap .i64 ((a:Int)+1)=((a+1:Nat):Int):=by rw [wrap_i64 _ (by omega) (by omega)];omega
 have I:IntKind.wrap .i64 (((a+1:Nat):Int)+1)=((a+2:Nat):Int):=by rw [wrap_i64 _ (by omega) (by omega)];omega
 unfold md nU;rw [H,I];have w:=D 0 false (by omega);simp only [bZ] at w;cases u:S.drop a with
 | nil=>
  have k:¬a<S.length:=by
   intro q;rw [bS (bn q)] at u;cases u
  rw [gK,aq k,af,af,w,u];rfl
 | cons c r=>
  obtain ⟨C,G,i⟩:=lS u;have p:(((c.toNat:Nat):Int)==89)=(c==89):=na c 89;have m:(((c.toNat:Nat):Int)==45)=(c==45):=na c 45;rw [gK,am C,aj,dK G];simp only [ob];rw [p,m,ji];by_cases f:c=89
  ·have e:(c==89)=true:=bp.2 f;rw [e,aj,ae f,ae rfl,gK];have B:List.drop 1 (c::r)=r:=rfl;rw [B];have x:=z 1 false (by omega);cases v:r with
   | nil=>
    rw [v] at i;have k:¬a+1<S.length:=by
     intro q;rw [bS (bn q)] at i;cases i
    simp only [ob] at x;rw [aq k,af,x,i,vM];rfl
   | cons d J=>
    rw [v] at i;obtain ⟨l,A,y⟩:=lS i;have s:(((d.toNat:Nat):Int)==45)=(d==45):=na d 45;rw [am l,aj,dK A];simp only [];rw [s,ji];by_cases b:d=45
    ·have j:(d==45)=true:=bp.2 b;have t:=z 2 true (by omega);simp only [ob] at t;rw [j,aj,ae b,t];rw [show a+2=a+1+1 from rfl,y];rfl
    ·have j:(d==45)=false:=aL.2 b;simp only [ob] at x;rw [j,af,ab b,x,i];rfl
  ·have e:(c==89)=false:=aL.2 f;rw [e,af,ab f,ab (by decide),ji];by_cases b:c=45
   ·have j:(c==45)=true:=bp.2 b;have t:=D 1 true (by omega);simp only [ob] at t;rw [j,ae b];simp only [aj];rw [t,i];rfl
   ·have j:(c==45)=false:=aL.2 b;simp only [ob] at w;rw [j,ab b];simp only [af];rw [w,u];rfl
def wint (c:Int):Bool:=c==24||c==28||c==30
def wv (g:Bool) (d:aa) (x:Int):Bool:=!hasX d&&!g&&decide (val d x.toNat=E16)
def yrB (g:Bool) (d:aa) (x s:Int) (m:aa):Bool:=!(decide (0<s)&&!(m==[]))&&!(wint (sea m)&&wv g d x)
theorem A8 (n:Nat) (p:200<n) (g l:Bool) (dg:aa) (x q:Int) (m d:aa) (k0 k1 k2:Int) (u:m.length<=18) (t:dg.length<=100):
  eU n g l dg x q m d k0 k1 k2=some (if okY g l dg x q then yrB g dg x q m else false):=by
 unfold eU;rw [zu n g l dg x q p t,pt n g l dg x q m d k0 k1 k2 u,rS,yL n g l dg x q p t];by_cases h:okY g l dg x q
 rotate_left
 ·rw [ab h,ab h];rfl
 rw [ae h,ae h];have body:(ob (some (sea m,decide (0<sea m))) λr=>(cond (!r.2) (some true) (ob (some (hasX dg)) λy=>(cond y (some true) (ob (some (if okY g l dg x q/\hasX dg=false then (if g then -((val dg x.toNat:Nat):Int) else ((val dg x.toNat:Nat):Int),(0:Int)) else (0,6))) λv=>(ob (gx n v.1 r.1) λD=>(some (D.2.2.2.2==0))))))))=some (!(wint (sea m)&&wv g dg x)):=by
  rcases nu m with A | ⟨j,s,rfl⟩
  ·rw [A];rfl
  ·have hs:=ma s;rw [hs];have hp:decide (0<((21+j:Nat):Int))=true:=by simp;omega
   rw [hp];cases o:hasX dg with
   | true=>
    have:wv g dg x=false:=by unfold wv;rw [o];rfl
    rw [this,xJ];rfl
   | false=>
    rw [ae ⟨h,rfl⟩];obtain ⟨k,G,rfl,rfl,B⟩:=xM h o;have E:val dg k<=E16:=B.small;unfold E16 at E;have hc:du (if g then -((val dg k:Nat):Int) else ((val dg k:Nat):Int)):=by
     unfold du;cases g<;>simp<;>omega
    obtain ⟨a,b,c,e,C⟩:=SC n (by omega) hc s;simp only [ob,cN,af,bR];rw [C];simp only [ak];have F:wint ((21+j:Nat):Int)=decide (j=3\/j=7\/j=9):=by
     unfold wint;rw [ux];simp only [f8,bp,bV];omega
    have w:wv g dg (k:Int)=decide ((if g then -((val dg k:Nat):Int) else ((val dg k:Nat):Int))=10000000000000000):=by
     unfold wv E16;rw [o,bR];cases g
     ·simp only [g9,qm,bj,aE,nY];omega
     ·simp;omega
    rw [F,w];by_cases f:(if g then -((val dg k:Nat):Int) else ((val dg k:Nat):Int))=10000000000000000<;>by_cases i:j=3\/j=7\/j=9
    ·rw [ae ⟨f,i⟩,am f,am i];rfl
    ·rw [ab (λz=>i z.2),aq i];rfl
    ·rw [ab (λz=>f z.1),aq f,xJ];rfl
    ·rw [ab (λz=>f z.1),aq f,xJ];rfl
 show cond (decide (q>0)) (cond (!(m==[])) (some false) _) _=_;unfold yrB;rw [show (decide (q>0))=decide (0<q) from rfl];cases decide (0<q) with
 | false=>exact body
 | true=>
  cases (m==[]) with
  | false=>rfl
  | true=>exact body
def cw (m d:aa):Nat:=1+(if m==[] then 0 else 1)+(if d==[] then 0 else 1)
theorem rj (n:Nat) (e:100<n) (g l:Bool) (dg:aa) (x q:Int) (m d:aa) (k0 k1 k2:Int):aT n g l dg x q m d k0 k1 k2=some ((cw m d:Nat):Int):=by
 obtain ⟨n,rfl⟩:∃j,n=j+3:=⟨n - 3,by omega⟩;unfold aT cw;have s0:∀a:Int,bK (n+3) (a,m,d,0)=some (.inl (if m==[] then a else IntKind.wrap .i64 (a+1),m,d,1)):=λa=>by
  unfold bK;show cond (!(m==[])) _ _=_;cases (m==[])<;>rfl
 have b:∀a:Int,bK (n+3) (a,m,d,1)=some (.inl (if d==[] then a else IntKind.wrap .i64 (a+1),m,d,2)):=λa=>by
  unfold bK;show cond (!(d==[])) _ _=_;cases (d==[])<;>rfl
 have c:∀a:Int,bK (n+3) (a,m,d,2)=some (.inr a):=λa=>rfl;rw [ar,s0];show ob (ar _ (n+2) _) _=_;rw [ar,b];show ob (ar _ (n+1) _) _=_;rw [ar,c];cases (m==[])<;>cases (d==[])<;>rfl
theorem kC (n:Nat) (g l:Bool) (dg:aa) (x q:Int) (m d:aa) (k0 k1 k2:Int):ax n g l dg x q m d k0 k1 k2=some ((cw m d:Nat):Int):=by
 unfold ax cw;cases (m==[])<;>cases (d==[])<;>rfl
def allM (a b c:Int) (k:Nat):Int:=if 3<a\/3<b\/3<c\/(k<2/\b≠0)\/(k<3/\c≠0) then 9 else 0
theorem JD (n:Nat) (t:3<n) (a b c:Int) (k:Nat) (u:1<=k/\k<=3) (w:0<=a) (v:0<=b) (hc:0<=c):
  cZ n [a,b,c] (k:Int)=some (allM a b c k)/\fL n [a,b,c] (k:Int)=some (allM a b c k):=by
 obtain ⟨j,rfl⟩:∃j,n=j+4:=⟨n - 4,by omega⟩;have i:IntKind.wrap .i64 1=1:=rfl;have e:IntKind.wrap .i64 2=2:=rfl;have m:IntKind.wrap .i64 3=3:=rfl;have h:ix 3 0=some 0:=rfl;have g:ix 3 1=some 1:=rfl;have f:ix 3 2=some 2:=rfl;have hk':k=1\/k=2\/k=3:=by omega
 unfold allM;by_cases l:a>3
 ·rcases hk' with rfl | rfl | rfl<;>constructor<;>simp [fL,cZ,ar,dB,ge,gA,ob,i,e,m,h,g,f,l]
 by_cases p:b>3
 ·rcases hk' with rfl | rfl | rfl<;>constructor<;>simp [fL,cZ,ar,dB,ge,gA,ob,i,e,m,h,g,f,l,p]
 by_cases d:k=1/\b≠0
 ·obtain ⟨rfl,d⟩:=d;have q:b>0:=by omega
  have r:(b != 0)=true:=by simp [d]
  constructor<;>simp [fL,cZ,ar,dB,ge,gA,ob,i,e,m,h,g,f,l,p,q,d,r]
 by_cases s:c>3
 ·rcases hk' with rfl | rfl | rfl<;>(try (simp at d;subst d))<;>constructor<;>simp [fL,cZ,ar,dB,ge,gA,ob,i,e,m,h,g,f,l,p,s]
 by_cases o:k<3/\c≠0
 ·have q:c>0:=by omega
  have r:(c != 0)=true:=by simp [o.2]
  rcases hk' with rfl | rfl | rfl<;>(try (simp at d;subst d))<;>simp at o<;>constructor<;>simp [fL,cZ,ar,dB,ge,gA,ob,i,e,m,h,g,f,l,p,s,q,o,r]
 rcases hk' with rfl | rfl | rfl<;>(try (simp at d;subst d))<;>(try (simp at o;subst o))<;>constructor<;>simp [fL,cZ,ar,dB,ge,gA,ob,i,e,m,h,g,f,l,p,s]
theorem oQ (m d:aa):1<=cw m d/\cw m d<=3:=by
 unfold cw;cases (m==[])<;>cases (d==[])<;>simp
def yrD (g l:Bool) (dg:aa) (x q:Int) (m:aa):Bool:=if okY g l dg x q then yrB g dg x q m else false
def chkD (g l:Bool) (dg:aa) (x q:Int) (m d:aa) (k0 k1 k2:Int):Int:=
 cond (!(yrD g l dg x q m)) 6 (cond (!(m==[])&&(!(decide (0<sea m))&&!(eZ m 12))) 7
  (cond (!(d==[])&&((m==[])||(decide (0<sea m)||!(eZ d 31)))) 8 (allM k0 k1 k2 (cw m d))))
theorem RD (m:aa):0<=sea m:=by
 rcases nu m with h | ⟨j,a,rfl⟩
 ·omega
 ·rw [ma a];omega
theorem ym (n:Nat) (c:200<n) (g l:Bool) (dg:aa) (x q:Int) (m d:aa) (k0 k1 k2:Int) (a:m.length<=18) (p:dg.length<=100) (e:0<=k0) (j:0<=k1) (k:0<=k2):
  gY n g l dg x q m d k0 k1 k2=some (chkD g l dg x q m d k0 k1 k2):=by
 have hy:eU n g l dg x q m d k0 k1 k2=some (yrD g l dg x q m):=A8 n c g l dg x q m d k0 k1 k2 a p;have a1:cL n m 12=some (eZ m 12):=Ax n (by omega) m 12 (by omega);have a2:cL n d 31=some (eZ d 31):=Ax n (by omega) d 31 (by omega);have o:=(JD n (by omega) k0 k1 k2 (cw m d) (oQ m d) e j k).1;unfold gY chkD;rw [pt n g l dg x q m d k0 k1 k2 a,hy,a1,a2,rj n (by omega)];simp only [ob];rw [o];generalize yrD g l dg x q m=b1;generalize (m==[])=b2;generalize decide (0<sea m)=f;generalize eZ m 12=i;generalize (d==[])=h;generalize eZ d 31=b;cases b1<;>cases b2<;>cases f<;>cases i<;>cases h<;>cases b<;>rfl
theorem IQ {g l:Bool} {dg:aa} {x q:Int} {m d:aa} {k0 k1 k2:Int} (h:chkD g l dg x q m d k0 k1 k2=0):yrD g l dg x q m=true/\(m=[]\/0<sea m\/eZ m 12=true)/\(d=[]\/(m≠[]/\sea m=0/\eZ d 31=true))/\allM k0 k1 k2 (cw m d)=0:=by
 have hs:=RD m;unfold chkD at h;cases b1:yrD g l dg x q m with
 | false=>rw [b1] at h;exact absurd h (by simp)
 | true=>
  rw [b1] at h;simp only [cN,af] at h;cases b2:(!(m==[])&&(!(decide (0<sea m))&&!(eZ m 12))) with
  | true=>rw [b2] at h;exact absurd h (by simp)
  | false=>
   rw [b2] at h;simp only [af] at h;cases c:(!(d==[])&&((m==[])||(decide (0<sea m)||!(eZ d 31)))) with
   | true=>rw [c] at h;exact absurd h (by simp)
   | false=>
    rw [c] at h;simp only [af] at h;refine ⟨rfl,?_,?_,h⟩
    ·by_cases a:m=[]
     ·exact .inl a
     ·by_cases b:0<sea m
      ·exact .inr (.inl b)
      ·simp [a,b] at b2;exact .inr (.inr b2)
    ·by_cases a:d=[]
     ·exact .inl a
     ·by_cases b:m=[]
      ·simp [a,b] at c
      ·by_cases e:0<sea m
       ·simp [a,b,e] at c
       ·simp [a,b,e] at c;exact .inr ⟨b,by omega,c⟩
theorem lO {s:aa} {g:Nat} (m:g<=31) (h:eZ s g=true):s.length=2/\∀c∈s,isDX c=true:=by
 unfold eZ at h;obtain ⟨i,f,hi⟩:=qw.1 h;have e:i<g:=iH.1 f;have dig:∀k:Nat,k<10->isDX (UInt8.ofNat (48+k))=true:=by decide
 have d:isDX 88=true:=by decide
 match s,hi with
 | [],hi=>simp [agr] at hi
 | [_],hi=>simp [agr] at hi
 | [a,b],hi=>
  refine ⟨rfl,?_⟩;simp only [agr,aB,f8,bp] at hi;obtain ⟨l,j⟩:=hi;intro c hc;simp only [cf,n7,o7] at hc;rcases hc with rfl | rfl
  ·rcases l with rfl | rfl
   ·exact d
   ·exact dig _ (by omega)
  ·rcases j with rfl | rfl
   ·exact d
   ·exact dig _ (by omega)
 | _::_::_::_,hi=>simp [agr] at hi
theorem DN {m:aa} (h:0<sea m):m.length=2/\∀c∈m,isDX c=true:=by
 rcases nu m with b | ⟨j,a,rfl⟩
 ·omega
 ·refine ⟨rfl,?_⟩;have:((List.range 21).all λj=>(two (21+j)).all isDX)=true:=by decide +kernel
  have:=(bG.1 this) j (by simpa using a);exact bG.1 this
def mt (k:Nat):aa:=if k=1 then [63] else if k=2 then [126] else if k=3 then [37] else []
def mkOf (c:UInt8):Nat:=if c=63 then 1 else if c=126 then 2 else if c=37 then 3 else 0
def SZ (k a b c:Nat):Bool:=(decide (k<2)||b==a)&&(decide (k<3)||c==a)
def plA (k a b c:Nat):Nat×Nat×Nat:=if SZ k a b c then (0,0,0) else (a,b,c)
def plB (k a b c:Nat):Nat×Nat×Nat:=if SZ k a b c then (if k=1 then (a,0,0) else if k=2 then (0,a,0) else (0,0,a)) else (0,0,0)
def l3 (p:Nat×Nat×Nat):List Int:=[(p.1:Int),(p.2.1:Int),(p.2.2:Int)]
def spM (A B:Nat×Nat×Nat):Nat×Nat×Nat:=(A.1 ||| B.1 ||| B.2.1 ||| B.2.2,A.2.1 ||| B.2.1 ||| B.2.2,A.2.2 ||| B.2.2)
theorem RO (n k:Nat) (h:k<4):pM n (k:Int)=some (mt k,0)/\pi n (k:Int)=some (mt k):=by
 have:k=0\/k=1\/k=2\/k=3:=by omega
 rcases this with rfl | rfl | rfl | rfl<;>exact ⟨rfl,rfl⟩
noncomputable def To (m j:Nat):Bool:=
 (kG (m+300) (j:Int)==some (((mkOf (UInt8.ofNat j):Nat):Int),decide (0<mkOf (UInt8.ofNat j))))&&(dF (m+300) (j:Int)==some ((mkOf (UInt8.ofNat j):Nat):Int))
theorem LE (m:Nat):(List.range 256).all (To m)=true:=by kernel_rfl
theorem zh (m:Nat) (c:UInt8):kG (m+300) ((c.toNat:Nat):Int)=some (((mkOf c:Nat):Int),decide (0<mkOf c))/\dF (m+300) ((c.toNat:Nat):Int)=some ((mkOf c:Nat):Int):=by
 have h:=(bG.1 (LE m)) c.toNat (iH.2 c.toNat_lt);unfold To at h;rw [show UInt8.ofNat c.toNat=c by simp] at h;simp only [aB,bp] at h;exact h
noncomputable def I1 (m k a b c:Nat):Bool:=
 (nF (m+300) [(a:Int),(b:Int),(c:Int)] (k:Int)==some (l3 (plA k a b c),l3 (plB k a b c),0))&&(oy (m+300) [(a:Int),(b:Int),(c:Int)] (k:Int)==some (l3 (plA k a b c),l3 (plB k a b c)))
theorem Rm (m:Nat):((List.range 4).all λa=>I1 m 1 a 0 0)=true:=by kernel_rfl
theorem S7 (m:Nat):((List.range 4).all λa=>(List.range 4).all λb=>I1 m 2 a b 0)=true:=by kernel_rfl
theorem SI (m:Nat):((List.range 4).all λa=>(List.range 4).all λb=>(List.range 4).all λc=>I1 m 3 a b c)=true:=by kernel_rfl
theorem r4 {p:Nat->Bool} (h:(List.range 4).all p=true) {a:Nat} (b:a<4):p a=true:=(bG.1 h) a (iH.2 b)
theorem Un (m k a b c:Nat) (i:1<=k/\k<=3) (d:a<4) (e:b<4) (hc:c<4) (g:k<2->b=0) (f:k<3->c=0):
  nF (m+300) [(a:Int),(b:Int),(c:Int)] (k:Int)=some (l3 (plA k a b c),l3 (plB k a b c),0)/\oy (m+300) [(a:Int),(b:Int),(c:Int)] (k:Int)=some (l3 (plA k a b c),l3 (plB k a b c)):=by
 have h:I1 m k a b c=true:=by
  have:k=1\/k=2\/k=3:=by omega
  rcases this with rfl | rfl | rfl
  ·rw [g (by omega),f (by omega)];exact r4 (Rm m) d
  ·rw [f (by omega)];exact r4 (r4 (S7 m) d) e
  ·exact r4 (r4 (r4 (SI m) d) e) hc
 unfold I1 at h;simp only [aB,bp] at h;exact h
theorem RI {k a b c:Nat} (d:a<4) (e:b<4) (hc:c<4):(plA k a b c).1<4/\(plA k a b c).2.1<4/\(plA k a b c).2.2<4/\(plB k a b c).1<4/\(plB k a b c).2.1<4/\(plB k a b c).2.2<4:=by
 unfold plA plB;split
 ·split
  ·simp [d]
  ·split<;>simp [d]
 ·simp [d,e,hc]
def inM (k:Nat) (A:Nat×Nat×Nat):Prop:=A.1<4/\A.2.1<4/\A.2.2<4/\(k<2->A.2.1=0)/\(k<3->A.2.2=0)
theorem vt {k:Nat} {A:Nat×Nat×Nat} (h:inM k A):allM (A.1:Int) (A.2.1:Int) (A.2.2:Int) k=0:=by
 obtain ⟨b,c,d,e,a⟩:=h;unfold allM;rw [ab (by omega)]
theorem or4 {a b:Nat} (c:a<4) (d:b<4):bits .or .u8 (a:Int) (b:Int)=((a ||| b:Nat):Int)/\a ||| b<4:=by
 have:((List.range 4).all λa=>(List.range 4).all λb=>bits .or .u8 (a:Int) (b:Int)==((a ||| b:Nat):Int)&&decide (a ||| b<4))=true:=by decide +kernel
 have:=r4 (r4 this c) d;simpa using this
theorem wk (n:Nat) (w:9<n) (k:Nat) (A B:Nat×Nat×Nat) (r:1<=k/\k<=3) (p:inM k A) (s:inM k B):dO n (l3 A) (l3 B) (k:Int)=some (l3 (spM A B),0):=by
 obtain ⟨n,rfl⟩:∃j,n=j+5:=⟨n - 5,by omega⟩;have l:=(JD (n+5) (by omega) (A.1:Int) (A.2.1:Int) (A.2.2:Int) k r (by omega) (by omega) (by omega)).1;have m:=(JD (n+5) (by omega) (B.1:Int) (B.2.1:Int) (B.2.2:Int) k r (by omega) (by omega) (by omega)).1;rw [vt p] at l;rw [vt s] at m;have i:∀x:Nat,x<4->bits .or .u8 0 (x:Int)=(x:Int):=λx hx=>by
  have:=(or4 (show 0<4 by omega) hx).1;simpa using this
 have b:∀x y:Nat,x<4->y<4->bits .or .u8 (x:Int) (y:Int)=((x ||| y:Nat):Int):=λx y hx hy=>(or4 hx hy).1;have e:∀x y:Nat,x<4->y<4->x ||| y<4:=λx y hx hy=>(or4 hx hy).2;unfold dO;show ob (cZ (n+5) [(A.1:Int),(A.2.1:Int),(A.2.2:Int)] (k:Int)) _=_;rw [l];show ob (cZ (n+5) [(B.1:Int),(B.2.1:Int),(B.2.2:Int)] (k:Int)) _=_;rw [m];obtain ⟨a0,a1,a2⟩:=A;obtain ⟨b0,b1,b2⟩:=B;obtain ⟨g0,f,q,o,g⟩:=p;obtain ⟨d,a,c,t,h⟩:=s;simp only at g0 f q o g d a c t h;have hk':k=1\/k=2\/k=3:=by omega
 rcases hk' with rfl | rfl | rfl
 ·obtain rfl:=o (by omega);obtain rfl:=g (by omega);obtain rfl:=t (by omega);obtain rfl:=h (by omega);show some (([bits .or .u8 (a0:Int) (bits .or .u8 0 (b0:Int)),0,0]:List Int),(0:Int))=_;rw [i b0 d,b _ _ g0 d];simp [l3,spM]
 ·obtain rfl:=g (by omega);obtain rfl:=h (by omega);show some (([bits .or .u8 (a0:Int) (bits .or .u8 (bits .or .u8 0 (b1:Int)) (b0:Int)),bits .or .u8 (a1:Int) (bits .or .u8 0 (b1:Int)),0]:List Int),(0:Int))=_;rw [i b1 a,b _ _ a d,b _ _ g0 (e _ _ a d),b _ _ f a];simp [l3,spM,Nat.or_assoc,yC b1 b0]
 ·show some (([bits .or .u8 (a0:Int) (bits .or .u8 (bits .or .u8 (bits .or .u8 0 (b2:Int)) (b1:Int)) (b0:Int)),bits .or .u8 (a1:Int) (bits .or .u8 (bits .or .u8 0 (b2:Int)) (b1:Int)),bits .or .u8 (a2:Int) (bits .or .u8 0 (b2:Int))]:List Int),(0:Int))=_;rw [i b2 c,b _ _ c a,b _ _ (e _ _ c a) d,b _ _ g0 (e _ _ (e _ _ c a) d),b _ _ f (e _ _ c a),b _ _ q c];have v:a0 ||| (b2 ||| b1 ||| b0)=a0 ||| b0 ||| b1 ||| b2:=by rw [yC (b2 ||| b1) b0,yC b2 b1];simp only [Nat.or_assoc]
  have u:a1 ||| (b2 ||| b1)=a1 ||| b1 ||| b2:=by rw [yC b2 b1];simp only [Nat.or_assoc]
  rw [v,u];rfl
abbrev cI (x:Nat):Int:=(x:Int)
def bt (b a:Nat):Nat:=if b=1 then a%2 else a / 2%2
theorem Ol (n:Nat) {a b:Nat} (d:a<4) (c:b=1\/b=2):iL n (a:Int) (b:Int)=some ((bt b a:Nat):Int):=by
 have h:a=0\/a=1\/a=2\/a=3:=by omega
 rcases h with rfl | rfl | rfl | rfl<;>rcases c with rfl | rfl<;>rfl
theorem Qp (b a:Nat):bt b a<=1:=by unfold bt;split<;>omega
def bts (b:Nat):List Nat->Nat
 | []=>0
 | x::l=>bt b x+bts b l
theorem Uu (n k b i:Nat) (p:b=1\/b=2) (u:k<=3) (A X Y:List Int) (c:List Nat) (t:c.length=3) (m:∀x∈c,x<4):∀(r j a:Nat),j+r=k->a<=j+1->∀N,r<N->
  ar (ch n) N ((k:Int),(b:Int),(i:Int),(a:Int),(j:Int),A,c.map cI,X,Y)=some ((k:Int),(b:Int),(i:Int),((a+bts b ((c.take k).drop j):Nat):Int),A,c.map cI,X,Y):=by
 intro r
 induction r with
 | zero=>
  intro j a q d N o;obtain ⟨N,rfl⟩:∃k,N=k+1:=⟨N - 1,by omega⟩;have s:ch n ((k:Int),(b:Int),(i:Int),(a:Int),(j:Int),A,c.map cI,X,Y)=some (.inr ((k:Int),(b:Int),(i:Int),(a:Int),A,c.map cI,X,Y)):=by
   unfold ch;rw [bC,ab (show ¬((j:Int)<(k:Int)) by omega)]
  have e:(c.take k).drop j=[]:=iD (by rw [e7];omega);rw [ar,s,e];rfl
 | succ r ih=>
  intro j a q d N o;obtain ⟨N,rfl⟩:∃k,N=k+1:=⟨N - 1,by omega⟩;have g:j<c.length:=by omega
  obtain ⟨x,hx⟩:∃x,c[j]?=some x:=⟨c[j],bn g⟩;have h:(c.map cI)[j]?=some (x:Int):=by rw [lX,hx];rfl
  have f:=m x (fH hx);have w:IntKind.wrap .i64 ((a:Int)+((bt b x:Nat):Int))=((a+bt b x:Nat):Int):=by have:=Qp b x;rw [wrap_i64 _ (by omega) (by omega)];omega
  have l:IntKind.wrap .i64 ((j:Int)+1)=((j+1:Nat):Int):=by rw [wrap_i64 _ (by omega) (by omega)];omega
  have s:ch n ((k:Int),(b:Int),(i:Int),(a:Int),(j:Int),A,c.map cI,X,Y)=some (.inl ((k:Int),(b:Int),(i:Int),((a+bt b x:Nat):Int),((j+1:Nat):Int),A,c.map cI,X,Y)):=by
   unfold ch;rw [bC,ae (show (j:Int)<(k:Int) by omega)];show ob (ix 3 (j:Int)) _=_;rw [fb (show j<3 by omega)];show ob ((c.map cI)[j]?) _=_;rw [h];show ob (iL n (x:Int) (b:Int)) _=_;rw [Ol n f p];show some (Sum.inl ((k:Int),(b:Int),(i:Int),IntKind.wrap .i64 ((a:Int)+((bt b x:Nat):Int)),IntKind.wrap .i64 ((j:Int)+1),_))=_;rw [w,l]
  have e:(c.take k).drop j=x::(c.take k).drop (j+1):=bS (by rw [ov (by omega)];exact hx);rw [ar,s];have:=Qp b x;show ar _ N _=_;rw [ih (j+1) (a+bt b x) (by omega) (by omega) N (by omega),e];simp only [bts,gj]
def hit (k b i:Nat) (a c:List Nat):Bool:=decide (0<bt b (a.getD i 0)+bts b ((c.take k).drop i))
theorem UP (n k b i:Nat) (v:9<n) (h:b=1\/b=2) (t:k<=3) (hi:i<k) (X:List Int) (a c:List Nat) (w:a.length=3) (r:c.length=3) (l:∀x∈a,x<4) (q:∀x∈c,x<4) (out:List Int) (o:Int) (u:out[i]?=some o):
  bB n ((k:Int),(b:Int),(i:Int),a.map cI,c.map cI,X,out)=some (.inl ((k:Int),(b:Int),((i+1:Nat):Int),a.map cI,c.map cI,X,cond (hit k b i a c) (out.set i (IntKind.wrap .u8 (o+(b:Int)))) out)):=by
 obtain ⟨x,hx⟩:∃x,a[i]?=some x:=⟨a[i],bn (by omega)⟩;have g:(a.map cI)[i]?=some (x:Int):=by rw [lX,hx];rfl
 have d:=l x (fH hx);have m:=Qp b x;have p:IntKind.wrap .i64 ((i:Int)+1)=((i+1:Nat):Int):=by rw [wrap_i64 _ (by omega) (by omega)];omega
 have e:=Uu n k b i h t (a.map cI) X out c r q (k - i) i (bt b x) (by omega) (by omega) n (by omega);unfold bB;rw [bC,ae (show (i:Int)<(k:Int) by omega)];show ob (ix 3 (i:Int)) _=_;rw [fb (show i<3 by omega)];show ob ((a.map cI)[i]?) _=_;rw [g];show ob (iL n (x:Int) (b:Int)) _=_;rw [Ol n d h];show ob (ar (ch n) n ((k:Int),(b:Int),(i:Int),((bt b x:Nat):Int),(i:Int),a.map cI,c.map cI,X,out)) _=_;rw [e];have s:hit k b i a c=decide (((bt b x+bts b ((c.take k).drop i):Nat):Int)>0):=by
  unfold hit;rw [B6,hx];rw [nY];simp only [wg];omega
 rw [s];show cond (decide (((bt b x+bts b ((c.take k).drop i):Nat):Int)>0)) (ob (ix 3 (i:Int)) λj=>ob (out[j]?) λy=>ob (ix 3 (i:Int)) λj2=>cond (Nat.blt j2 3) (some (Sum.inl ((k:Int),(b:Int),IntKind.wrap .i64 ((i:Int)+1),a.map cI,c.map cI,X,out.set j2 (IntKind.wrap .u8 (y+(b:Int)))))) none) (some (Sum.inl ((k:Int),(b:Int),IntKind.wrap .i64 ((i:Int)+1),a.map cI,c.map cI,X,out)))=_;rw [fb (show i<3 by omega),p];have f:Nat.blt i 3=true:=cG (by omega);simp only [ob,u,f,aj];cases decide (((bt b x+bts b ((c.take k).drop i):Nat):Int)>0)<;>rfl
def addB (k b:Nat) (a c:List Nat) (o:List Int):List Int:=[cond (decide (0<k)&&hit k b 0 a c) (IntKind.wrap .u8 (o.getD 0 0+(b:Int))) (o.getD 0 0),cond (decide (1<k)&&hit k b 1 a c) (IntKind.wrap .u8 (o.getD 1 0+(b:Int))) (o.getD 1 0),cond (decide (2<k)&&hit k b 2 a c) (IntKind.wrap .u8 (o.getD 2 0+(b:Int))) (o.getD 2 0)]
theorem M1 (n k b:Nat) (q:9<n) (s:b=1\/b=2) (r:1<=k/\k<=3) (X:List Int) (c a:List Nat) (t:c.length=3) (p:a.length=3) (l:∀x∈c,x<4) (m:∀x∈a,x<4) (g o1 h:Int):
  ar (bB n) n ((k:Int),(b:Int),0,c.map cI,a.map cI,X,[g,o1,h])=some ((k:Int),(b:Int),c.map cI,a.map cI,X,addB k b c a [g,o1,h]):=by
 obtain ⟨n,rfl⟩:∃j,n=j+5:=⟨n - 5,by omega⟩;have d:∀(N:Nat) (out:List Int),ar (bB (n+5)) (N+1) ((k:Int),(b:Int),((k:Nat):Int),c.map cI,a.map cI,X,out)=some ((k:Int),(b:Int),c.map cI,a.map cI,X,out):=λN out=>by
  rw [ar];have:bB (n+5) ((k:Int),(b:Int),((k:Nat):Int),c.map cI,a.map cI,X,out)=some (.inr ((k:Int),(b:Int),c.map cI,a.map cI,X,out)):=by
   unfold bB;rw [bC,ab (show ¬((k:Int)<(k:Int)) by omega)]
  rw [this]
 have f:=λ(i:Nat) (hi:i<k) (out:List Int) (o:Int) (ho:out[i]?=some o)=>UP (n+5) k b i q s r.2 hi X c a t p l m out o ho;have hk':k=1\/k=2\/k=3:=by omega
 have e:=f 0 (by omega) [g,o1,h] g rfl;rcases hk' with rfl | rfl | rfl
 ·rw [ar];rw [show ((0:Nat):Int)=0 from rfl] at e;rw [e];show ar _ (n+3+1) (((1:Nat):Int),(b:Int),((1:Nat):Int),_)=_;rw [d];unfold addB;cases hit 1 b 0 c a<;>rfl
 ·rw [ar];rw [show ((0:Nat):Int)=0 from rfl] at e;rw [e];show ar _ (n+4) (((2:Nat):Int),(b:Int),((1:Nat):Int),_)=_;rw [ar,f 1 (by omega) _ o1 (by cases hit 2 b 0 c a<;>rfl)];show ar _ (n+2+1) (((2:Nat):Int),(b:Int),((2:Nat):Int),_)=_;rw [d];unfold addB;cases hit 2 b 0 c a<;>cases hit 2 b 1 c a<;>rfl
 ·rw [ar];rw [show ((0:Nat):Int)=0 from rfl] at e;rw [e];show ar _ (n+4) (((3:Nat):Int),(b:Int),((1:Nat):Int),_)=_;rw [ar,f 1 (by omega) _ o1 (by cases hit 3 b 0 c a<;>rfl)];show ar _ (n+3) (((3:Nat):Int),(b:Int),((2:Nat):Int),_)=_;rw [ar,f 2 (by omega) _ h (by cases hit 3 b 0 c a<;>cases hit 3 b 1 c a<;>rfl)];show ar _ (n+1+1) (((3:Nat):Int),(b:Int),((3:Nat):Int),_)=_;rw [d];unfold addB;cases hit 3 b 0 c a<;>cases hit 3 b 1 c a<;>cases hit 3 b 2 c a<;>rfl
def lN (p:Nat×Nat×Nat):List Nat:=[p.1,p.2.1,p.2.2]
theorem pE {x y:Nat} (hx:x<4) (hy:y<4) (b:Nat) (d:b=1\/b=2):decide (0<bt b (x ||| y))=decide (0<bt b x+bt b y):=by
 have:((List.range 4).all λa=>(List.range 4).all λc=>(decide (0<bt 1 (a ||| c))==decide (0<bt 1 a+bt 1 c))&&(decide (0<bt 2 (a ||| c))==decide (0<bt 2 a+bt 2 c)))=true:=by decide +kernel
 have:=r4 (r4 this hx) hy;simp only [aB,bp] at this;rcases d with rfl | rfl
 ·exact this.1
 ·exact this.2
theorem qf {x:Nat} (hx:x<4):cond (decide (0<bt 2 x)) (IntKind.wrap .u8 (cond (decide (0<bt 1 x)) (IntKind.wrap .u8 (0+((1:Nat):Int))) 0+((2:Nat):Int))) (cond (decide (0<bt 1 x)) (IntKind.wrap .u8 (0+((1:Nat):Int))) 0)=(x:Int):=by
 have h:x=0\/x=1\/x=2\/x=3:=by omega
 rcases h with rfl | rfl | rfl | rfl<;>decide
theorem sP (n:Nat) (K:9<n) (k:Nat) (A B:Nat×Nat×Nat) (L:1<=k/\k<=3) (G:inM k A) (M:inM k B):eN n (l3 A) (l3 B) (k:Int)=some (l3 (spM A B)):=by
 obtain ⟨a0,a1,a2⟩:=A;obtain ⟨b0,b1,b2⟩:=B;obtain ⟨g0,m,t,v,s⟩:=G;obtain ⟨f,d,l,C,u⟩:=M;simp only at g0 m t v s f d l C u;have c:∀x y:Nat,x<4->y<4->x ||| y<4:=λx y hx hy=>(or4 hx hy).2;have J:∀x∈lN (a0,a1,a2),x<4:=by
  intro x hx;simp only [lN,cf,n7,o7] at hx;rcases hx with rfl | rfl | rfl<;>assumption
 have E:∀x∈lN (b0,b1,b2),x<4:=by
  intro x hx;simp only [lN,cf,n7,o7] at hx;rcases hx with rfl | rfl | rfl<;>assumption
 have run:=λ(b:Nat) (a:b=1\/b=2) (o0 o1 o2:Int)=>M1 n k b K a L [0,0,0] (lN (a0,a1,a2)) (lN (b0,b1,b2)) rfl rfl J E o0 o1 o2;have z:=run 1 (.inl rfl) 0 0 0;obtain ⟨i,g,h,hp⟩:∃i g h,addB k 1 (lN (a0,a1,a2)) (lN (b0,b1,b2)) [0,0,0]=[i,g,h]:=⟨_,_,_,rfl⟩;have D:=run 2 (.inr rfl) i g h;rw [hp] at z;obtain ⟨n,rfl⟩:∃j,n=j+5:=⟨n - 5,by omega⟩;have N:de (n+5) ((k:Int),1,l3 (a0,a1,a2),l3 (b0,b1,b2),[0,0,0],[0,0,0])=some (.inl ((k:Int),2,l3 (a0,a1,a2),l3 (b0,b1,b2),[0,0,0],[i,g,h])):=by
  unfold de;show cond (decide ((1:Int)<=2)) (ob (ar (bB (n+5)) (n+5) ((k:Int),((1:Nat):Int),0,(lN (a0,a1,a2)).map cI,(lN (b0,b1,b2)).map cI,[0,0,0],[0,0,0])) _) _=_;rw [z];rfl
 have H:de (n+5) ((k:Int),2,l3 (a0,a1,a2),l3 (b0,b1,b2),[0,0,0],[i,g,h])=some (.inl ((k:Int),3,l3 (a0,a1,a2),l3 (b0,b1,b2),[0,0,0],addB k 2 (lN (a0,a1,a2)) (lN (b0,b1,b2)) [i,g,h])):=by
  unfold de;show cond (decide ((2:Int)<=2)) (ob (ar (bB (n+5)) (n+5) ((k:Int),((2:Nat):Int),0,(lN (a0,a1,a2)).map cI,(lN (b0,b1,b2)).map cI,[0,0,0],[i,g,h])) _) _=_;rw [D];rfl
 have I:∀out:List Int,de (n+5) ((k:Int),3,l3 (a0,a1,a2),l3 (b0,b1,b2),[0,0,0],out)=some (.inr ([0,0,0],out)):=λout=>rfl;unfold eN;rw [ar,N];show ob (ar _ (n+4) _) _=_;rw [ar,H];show ob (ar _ (n+3) _) _=_;rw [ar,I];show some (addB k 2 (lN (a0,a1,a2)) (lN (b0,b1,b2)) [i,g,h])=_;rw [<-hp];have hk':k=1\/k=2\/k=3:=by omega
 have F:=λ(x y:Nat) (hx:x<4) (hy:y<4) (b:Nat) (a:b=1\/b=2)=>pE hx hy b a;rcases hk' with rfl | rfl | rfl
 ·obtain rfl:=v (by omega);obtain rfl:=s (by omega);obtain rfl:=C (by omega);obtain rfl:=u (by omega);have e:∀b,b=1\/b=2->hit 1 b 0 (lN (a0,0,0)) (lN (b0,0,0))=decide (0<bt b (a0 ||| b0)):=λb a=>by rw [pE g0 f b a];rfl
  show some [cond (hit 1 2 0 (lN (a0,0,0)) (lN (b0,0,0))) (IntKind.wrap .u8 (cond (hit 1 1 0 (lN (a0,0,0)) (lN (b0,0,0))) (IntKind.wrap .u8 (0+((1:Nat):Int))) 0+((2:Nat):Int))) (cond (hit 1 1 0 (lN (a0,0,0)) (lN (b0,0,0))) (IntKind.wrap .u8 (0+((1:Nat):Int))) 0),0,0]=_;rw [e 1 (.inl rfl),e 2 (.inr rfl),qf (c _ _ g0 f)];simp [l3,spM]
 ·obtain rfl:=s (by omega);obtain rfl:=u (by omega);have r:∀b,b=1\/b=2->hit 2 b 1 (lN (a0,a1,0)) (lN (b0,b1,0))=decide (0<bt b (a1 ||| b1)):=λb a=>by rw [pE m d b a];rfl
  have q:∀b,b=1\/b=2->hit 2 b 0 (lN (a0,a1,0)) (lN (b0,b1,0))=decide (0<bt b (a0 ||| b0 ||| b1)):=λb a=>by
   have p:=pE (c _ _ g0 f) d b a;have o:=pE g0 f b a;rw [p];have:hit 2 b 0 (lN (a0,a1,0)) (lN (b0,b1,0))=decide (0<bt b a0+(bt b b0+(bt b b1+0))):=rfl;rw [this];simp only [nY] at o ⊢;omega
  show some [cond (hit 2 2 0 (lN (a0,a1,0)) (lN (b0,b1,0))) (IntKind.wrap .u8 (cond (hit 2 1 0 (lN (a0,a1,0)) (lN (b0,b1,0))) (IntKind.wrap .u8 (0+((1:Nat):Int))) 0+((2:Nat):Int))) (cond (hit 2 1 0 (lN (a0,a1,0)) (lN (b0,b1,0))) (IntKind.wrap .u8 (0+((1:Nat):Int))) 0),cond (hit 2 2 1 (lN (a0,a1,0)) (lN (b0,b1,0))) (IntKind.wrap .u8 (cond (hit 2 1 1 (lN (a0,a1,0)) (lN (b0,b1,0))) (IntKind.wrap .u8 (0+((1:Nat):Int))) 0+((2:Nat):Int))) (cond (hit 2 1 1 (lN (a0,a1,0)) (lN (b0,b1,0))) (IntKind.wrap .u8 (0+((1:Nat):Int))) 0),0]=_;rw [q 1 (.inl rfl),q 2 (.inr rfl),r 1 (.inl rfl),r 2 (.inr rfl),qf (c _ _ (c _ _ g0 f) d),qf (c _ _ m d)];simp [l3,spM]
 ·have w:∀b,b=1\/b=2->hit 3 b 2 (lN (a0,a1,a2)) (lN (b0,b1,b2))=decide (0<bt b (a2 ||| b2)):=λb a=>by rw [pE t l b a];rfl
  have r:∀b,b=1\/b=2->hit 3 b 1 (lN (a0,a1,a2)) (lN (b0,b1,b2))=decide (0<bt b (a1 ||| b1 ||| b2)):=λb a=>by
   have p:=pE (c _ _ m d) l b a;have o:=pE m d b a;rw [p];have:hit 3 b 1 (lN (a0,a1,a2)) (lN (b0,b1,b2))=decide (0<bt b a1+(bt b b1+(bt b b2+0))):=rfl;rw [this];simp only [nY] at o ⊢;omega
  have q:∀b,b=1\/b=2->hit 3 b 0 (lN (a0,a1,a2)) (lN (b0,b1,b2))=decide (0<bt b (a0 ||| b0 ||| b1 ||| b2)):=λb a=>by
   have p:=pE (c _ _ (c _ _ g0 f) d) l b a;have o:=pE (c _ _ g0 f) d b a;have O:=pE g0 f b a;rw [p];have:hit 3 b 0 (lN (a0,a1,a2)) (lN (b0,b1,b2))=decide (0<bt b a0+(bt b b0+(bt b b1+(bt b b2+0)))):=rfl;rw [this];simp only [nY] at o O ⊢;omega
  show some [cond (hit 3 2 0 (lN (a0,a1,a2)) (lN (b0,b1,b2))) (IntKind.wrap .u8 (cond (hit 3 1 0 (lN (a0,a1,a2)) (lN (b0,b1,b2))) (IntKind.wrap .u8 (0+((1:Nat):Int))) 0+((2:Nat):Int))) (cond (hit 3 1 0 (lN (a0,a1,a2)) (lN (b0,b1,b2))) (IntKind.wrap .u8 (0+((1:Nat):Int))) 0),cond (hit 3 2 1 (lN (a0,a1,a2)) (lN (b0,b1,b2))) (IntKind.wrap .u8 (cond (hit 3 1 1 (lN (a0,a1,a2)) (lN (b0,b1,b2))) (IntKind.wrap .u8 (0+((1:Nat):Int))) 0+((2:Nat):Int))) (cond (hit 3 1 1 (lN (a0,a1,a2)) (lN (b0,b1,b2))) (IntKind.wrap .u8 (0+((1:Nat):Int))) 0),cond (hit 3 2 2 (lN (a0,a1,a2)) (lN (b0,b1,b2))) (IntKind.wrap .u8 (cond (hit 3 1 2 (lN (a0,a1,a2)) (lN (b0,b1,b2))) (IntKind.wrap .u8 (0+((1:Nat):Int))) 0+((2:Nat):Int))) (cond (hit 3 1 2 (lN (a0,a1,a2)) (lN (b0,b1,b2))) (IntKind.wrap .u8 (0+((1:Nat):Int))) 0)]=_;rw [q 1 (.inl rfl),q 2 (.inr rfl),r 1 (.inl rfl),r 2 (.inr rfl),w 1 (.inl rfl),w 2 (.inr rfl),qf (c _ _ (c _ _ (c _ _ g0 f) d) l),qf (c _ _ (c _ _ m d) l),qf (c _ _ t l)];rfl
def Ix (k a b c:Nat):Bool:=spM (plA k a b c) (plB k a b c)==(a,b,c)
theorem RV:((List.range 4).all λa=>Ix 1 a 0 0)=true:=by decide +kernel
theorem TC:((List.range 4).all λa=>(List.range 4).all λb=>Ix 2 a b 0)=true:=by decide +kernel
theorem Rx:((List.range 4).all λa=>(List.range 4).all λb=>(List.range 4).all λc=>Ix 3 a b c)=true:=by decide +kernel
theorem UI (k a b c:Nat) (i:1<=k/\k<=3) (d:a<4) (e:b<4) (hc:c<4) (g:k<2->b=0) (f:k<3->c=0):spM (plA k a b c) (plB k a b c)=(a,b,c):=by
 have h:Ix k a b c=true:=by
  have:k=1\/k=2\/k=3:=by omega
  rcases this with rfl | rfl | rfl
  ·rw [g (by omega),f (by omega)];exact r4 RV d
  ·rw [f (by omega)];exact r4 (r4 TC d) e
  ·exact r4 (r4 (r4 Rx d) e) hc
 unfold Ix at h;exact bp.1 h
def mkS (l:aa):Nat:=match l with | []=>0 | c::_=>mkOf c
def mkN (l:aa):Nat:=if mkS l=0 then 0 else 1
def twoN (l:aa):Nat:=br isDX 2 l
theorem QL (c:UInt8):mkOf c<4:=by
 unfold mkOf;split
 ·omega
 ·split
  ·omega
  ·split<;>omega
theorem AV (l:aa):mkS l<4:=by
 cases l with
 | nil=>show 0<4;omega
 | cons c r=>exact QL c
theorem Rq (l:aa):mkN l<=l.length:=by
 cases l with
 | nil=>exact aQ 0
 | cons c r=>
  unfold mkN;split<;>simp
theorem PT (c:UInt8):hasB [63,126,37] c=decide (0<mkOf c):=by
 have:=gH (λc=>hasB [63,126,37] c==decide (0<mkOf c)) (by decide +kernel) c;simpa using this
theorem Qz (m:Nat) (S:aa) (a:Nat) (h:a<=S.length) (i:S.length<100000):
  ca (m+300) S (a:Int)=some (.inr (((mkS (S.drop a):Nat):Int),S,((a+mkN (S.drop a):Nat):Int))):=by
 unfold ca;rw [nM (m+300) S a h];cases g:S.drop a with
 | nil=>
  have e:kG (m+300) 0=some (0,false):=by kernel_rfl
  show ob (kG (m+300) 0) _=_;rw [e];rfl
 | cons c r=>
  show ob (kG (m+300) ((c.toNat:Nat):Int)) _=_;rw [(zh m c).1];show cond (decide (0<mkOf c)) _ _=_;have b:mkS (c::r)=mkOf c:=rfl;by_cases hc:0<mkOf c
  ·rw [am hc];show ob (bQ (m+300) [63,126,37] S (a:Int)) _=_;rw [zI (m+300) _ S a h (by omega),g];have f:hasB [63,126,37] c=true:=by rw [PT,am hc]
   have d:mkN (c::r)=1:=by unfold mkN;rw [b,ab (by omega)]
   rw [b,d];simp only [f,aI,ob]
  ·rw [aq hc];have d:mkN (c::r)=0:=by unfold mkN;rw [b,ae (by omega)]
   rw [b,d];rfl
theorem yZ (m:Nat) (S:aa) (a:Nat) (h:a<=S.length) (j:S.length<100000) (e:Int):
  eQ (m+300) S (a:Int) e=some (((mkS (S.drop a):Nat):Int),S,((a+mkN (S.drop a):Nat):Int),e):=by
 unfold eQ;rw [kl];rcases aF a S.length with f | g
 ·have:decide (S.length<=a)=false:=by simp;omega
  rw [this];obtain ⟨c,hc⟩:∃c,S[a]?=some c:=⟨S[a],bn f⟩;rw [dK hc,bS hc];show ob (dF (m+300) ((c.toNat:Nat):Int)) _=_;rw [(zh m c).2];have b:mkS (c::S.drop (a+1))=mkOf c:=rfl;show cond (decide (((mkOf c:Nat):Int)>0)) _ _=_;by_cases i:0<mkOf c
  ·have d:mkN (c::S.drop (a+1))=1:=by unfold mkN;rw [b,ab (by omega)]
   have:decide (((mkOf c:Nat):Int)>0)=true:=by simp;omega
   rw [this,b,d,aj];have w:IntKind.wrap .i64 ((a:Int)+1)=((a+1:Nat):Int):=by rw [wrap_i64 _ (by omega) (by omega)];omega
   rw [w]
  ·have d:mkN (c::S.drop (a+1))=0:=by unfold mkN;rw [b,ae (by omega)]
   have:decide (((mkOf c:Nat):Int)>0)=false:=by simp;omega
   rw [this,b,d,af];rfl
 ·have:decide (S.length<=a)=true:=by simp;omega
  rw [this,iD g];rfl
theorem NU (n:Nat) (S:aa) (a:Nat) (h:a<=S.length) (i:S.length<100000) (f:S.length<n):
  gJ n S (a:Int)=some (if twoN (S.drop a)<2 then .inl (((a+twoN (S.drop a):Nat):Int),5,S,((a+twoN (S.drop a):Nat):Int)) else .inr ((S.drop a).take 2,S,((a+2:Nat):Int))):=by
 unfold gJ;rw [ug n _ 2 2 S a h (by omega) f];have e:br (hasB [88,48,49,50,51,52,53,54,55,56,57]) (2:Int).toNat (S.drop a)=twoN (S.drop a):=by
  unfold twoN;have d:(2:Int).toNat=2:=rfl;rw [d];exact jf (λc=>by rw [sR];rfl) _ _
 rw [e];by_cases b:twoN (S.drop a)<2
 ·rw [ae b,ae (by omega)];rfl
 ·have g:twoN (S.drop a)=2:=by
   have:=oY isDX 2 (S.drop a);unfold twoN at b ⊢;omega
  rw [ab b,ab (by omega),g];rfl
theorem Q2 (c:UInt8):isDX c=((decide (48<=c.toNat)&&decide (c.toNat<=57))||c==88):=by
 unfold isDX;congr 1;rw [ux,bJ];simp
theorem E1 (n:Nat) (S:aa) (a b i e:Int) (j:Nat) (r:S.length<100000) (hi:i<2) (v:j<=S.length) (t:0<=i):
  il n (b,i,S,(j:Int),e,[],0,0)=some (match S.drop j with
   | []=>.inr (.inl ([],S,(j:Int),5))
   | c::_=>if isDX c then .inl (b,i+1,S,((j+1:Nat):Int),e,[],0,0) else .inr (.inl ([],S,(j:Int),5))):=by
 unfold il;have p:decide (i<2)=true:=am hi;show cond (decide (i<2)) (cond (decide ((j:Int)>=((S.length:Nat):Int))) _ _) _=_;rw [p,kl];rcases aF j S.length with d | l
 ·have:decide (S.length<=j)=false:=by simp;omega
  rw [this];obtain ⟨c,hc⟩:∃c,S[j]?=some c:=⟨S[j],bn d⟩;have q:IntKind.wrap .i64 (i+1)=i+1:=wrap_i64 _ (by omega) (by omega);have o:IntKind.wrap .i64 ((j:Int)+1)=((j+1:Nat):Int):=by rw [wrap_i64 _ (by omega) (by omega)];omega
  rw [bS hc];simp only [dK hc,ob,aj,af,q,o];rw [Q2];have m:(((c.toNat:Nat):Int) != 88)=!(c==88):=by rw [bne];congr 1;exact na c 88
  rw [m];by_cases s:c.toNat<48
  ·have f:decide (((c.toNat:Nat):Int)<48)=true:=by simp;omega
   have g:decide (48<=c.toNat)=false:=by simp;omega
   rw [f,g];cases (c==88)<;>rfl
  ·have f:decide (((c.toNat:Nat):Int)<48)=false:=by simp;omega
   have g:decide (48<=c.toNat)=true:=by simp;omega
   rw [f,g];by_cases u:c.toNat<=57
   ·have k:decide (((c.toNat:Nat):Int)>57)=false:=by simp;omega
    have h:decide (c.toNat<=57)=true:=by simp;omega
    rw [k,h];rfl
   ·have k:decide (((c.toNat:Nat):Int)>57)=true:=by simp;omega
    have h:decide (c.toNat<=57)=false:=by simp;omega
    rw [k,h];cases (c==88)<;>rfl
 ·have:decide (S.length<=j)=true:=by simp;omega
  rw [this,iD l];rfl
theorem HW (n:Nat) (s:10<n) (S:aa) (a:Nat) (h:a<=S.length) (k:S.length<100000) (e:Int):
  kB n S (a:Int) e=some (if twoN (S.drop a)<2 then ([],S,((a+twoN (S.drop a):Nat):Int),5) else ((S.drop a).take 2,S,((a+2:Nat):Int),e)):=by
 obtain ⟨n,rfl⟩:∃j,n=j+3:=⟨n - 3,by omega⟩;unfold kB;rw [ar,E1 (n+3) S 0 (a:Int) 0 e a k (by omega) h (by omega)];cases l:S.drop a with
 | nil=>rfl
 | cons c r=>
  obtain ⟨o,t,i⟩:=lS l;cases hc:isDX c with
  | false=>
   have:twoN (c::r)=0:=by unfold twoN;simp [br,hc]
   rw [this];simp [hc,ob]
  | true=>
   simp only [hc,aI];rw [ar,E1 (n+3) S 0 (a:Int) (0+1) e (a+1) k (by omega) (by omega) (by omega),i];cases r with
   | nil=>
    have:twoN [c]=1:=by unfold twoN;simp [br,hc]
    rw [this];rfl
   | cons d f=>
    obtain ⟨g,m,p⟩:=lS i;cases b:isDX d with
    | false=>
     have:twoN (c::d::f)=1:=by unfold twoN;simp [br,hc,b]
     rw [this];simp [b,ob]
    | true=>
     have:twoN (c::d::f)=2:=by unfold twoN;simp [br,hc,b]
     rw [this];simp only [b,aI];have q:il (n+3) ((a:Int),0+1+1,S,((a+1+1:Nat):Int),e,[],0,0)=some (.inr (.inr ((a:Int),S,((a+1+1:Nat):Int),e,[],0,0))):=rfl;rw [ar,q];show ob (bx S.length ((a+1+1:Nat):Int)) _=_;rw [da (show a+1+1<=S.length by omega)];show ob (bx (a+1+1) (a:Int)) _=_;rw [da (show a<=a+1+1 by omega)];have:List.drop a (List.take (a+1+1) S)=[c,d]:=by
      rw [wu,l];have:a+1+1 - a=2:=by omega
      rw [this];rfl
     show some (List.drop a (List.take (a+1+1) S),S,((a+1+1:Nat):Int),e)=_;rw [this];rfl
theorem cutD (r:Nat) (h:r<10):List.drop r (List.take (r+1) ([48,49,50,51,52,53,54,55,56,57]:aa))=[UInt8.ofNat (48+r)]:=by
 have:∀r,r<10->List.drop r (List.take (r+1) ([48,49,50,51,52,53,54,55,56,57]:aa))=[UInt8.ofNat (48+r)]:=by decide
 exact this r h
theorem Fz {k:Nat} (h:k<10):Lib.decDigits k=[UInt8.ofNat (48+k)]:=by
 rw [Lib.decDigits,dif_pos h]
theorem B9 {k:Nat} (h:¬k<10) (a:k<100):Lib.decDigits k=[UInt8.ofNat (48+k / 10),UInt8.ofNat (48+k%10)]:=by
 rw [Lib.decDigits,dif_neg h,Fz (by omega)];rfl
def eY (letter:UInt8) (v:Nat):aa:=if 0<v then letter::Lib.decDigits v else []
theorem Ry {k:Nat} (h:k<100):1<=(Lib.decDigits k).length/\(Lib.decDigits k).length<=2:=by
 by_cases a:k<10
 ·rw [Fz a];simp
 ·rw [B9 a h];simp
theorem Ai (letter:UInt8) {k:Nat} (h:k<100):(eY letter k).length<=3:=by
 unfold eY;split
 ·have:=Ry h;simp only [aJ];omega
 ·simp
theorem jV (g l:Bool) (d:aa) (x s:Nat):fj g l d (x:Int) (s:Int)=(if l then [89] else [])++(if g then [45] else [])++d++eY 69 x++eY 83 s:=by
 unfold fj eY;simp only [bR];have b:(0<(x:Int))=(0<x):=by simp
 have a:(0<(s:Int))=(0<s):=by simp
 simp only [b,a]
def cv (p:UInt8->Bool) (l:aa):Prop:=∀c,l.head?=some c->p c=false
theorem kS {k:Nat} (h:k<10):(UInt8.ofNat (48+k)).toNat=48+k:=by
 rw [CU];exact re (by omega)
theorem Aw (letter:UInt8) (v:Nat) (post:aa) (j:v<100) (i:cv aS post) (k:cv (λc=>c==letter) post):numS letter (eY letter v++post)=.inr (v,(eY letter v).length):=by
 unfold eY;by_cases h:0<v
 ·rw [ae h];by_cases f:v<10
  ·rw [Fz f];have b:=kS f;simp only [dQ,dn];rw [lV,ae rfl,nz,ae (by omega)];have a:48+v - 48=v:=by omega
   cases post with
   | nil=>
    rw [rn,b,a];rfl
   | cons e r=>
    have g:¬aS e=true:=by rw [i e rfl];simp
    rw [lU,ab g,b,a];rfl
  ·rw [B9 f j];have b:=kS (show v / 10<10 by omega);have g:=kS (show v%10<10 by omega);simp only [dQ,dn];rw [lV,ae rfl,nz,ae (by omega),lU,ae ((bJ _).2 (by omega)),b,g];rw [show 10*(48+v / 10 - 48)+(48+v%10 - 48)=v by omega];rfl
 ·rw [ab h];have d:v=0:=by omega
  subst d;cases post with
  | nil=>rfl
  | cons c r=>
   have hc:c≠letter:=by
    have:=k c rfl;simpa using this
   rw [dn,lV,ab hc];rfl
theorem uM (letter:UInt8) (l:aa) (v k:Nat) (h:numS letter l=.inr (v,k)):v<100/\l.take k=eY letter v/\k<=l.length:=by
 cases l with
 | nil=>
  simp only [ud,mK,bz] at h;obtain ⟨rfl,rfl⟩:=h;exact ⟨by omega,rfl,by simp⟩
 | cons c r=>
  rw [lV] at h;by_cases hc:c=letter
  ·rw [ae hc] at h;cases r with
   | nil=>simp [yu] at h
   | cons d g=>
    rw [nz] at h;by_cases j:49<=d.toNat/\d.toNat<=57
    ·rw [ae j] at h;have i:d.toNat - 48<10:=by omega
     have a:UInt8.ofNat (48+(d.toNat - 48))=d:=by
      apply fZ.1;rw [kS i];omega
     have one:(c::d::g).take 2=eY letter (d.toNat - 48):=by
      unfold eY;rw [ae (by omega),Fz i,a,hc];rfl
     cases g with
     | nil=>
      simp only [rn,mK,bz] at h;obtain ⟨rfl,rfl⟩:=h;exact ⟨by omega,one,by simp⟩
     | cons e p=>
      rw [lU] at h;by_cases f:aS e=true
      ·rw [ae f] at h;simp only [mK,bz] at h;obtain ⟨rfl,rfl⟩:=h;have m:=(bJ e).1 f;refine ⟨by omega,?_,by simp⟩;unfold eY;have n:(10*(d.toNat - 48)+(e.toNat - 48)) / 10=d.toNat - 48:=by omega
       have o:(10*(d.toNat - 48)+(e.toNat - 48))%10=e.toNat - 48:=by omega
       have b:UInt8.ofNat (48+(e.toNat - 48))=e:=by
        apply fZ.1;rw [kS (by omega)];omega
       rw [ae (by omega),B9 (by omega) (by omega),n,o,a,b,hc];rfl
      ·rw [ab f] at h;simp only [mK,bz] at h;obtain ⟨rfl,rfl⟩:=h;exact ⟨by omega,one,by simp⟩
    ·rw [ab j] at h;cases h
  ·rw [ab hc] at h;simp only [mK,bz] at h;obtain ⟨rfl,rfl⟩:=h;exact ⟨by omega,rfl,by simp⟩
theorem vG {p:UInt8->Bool}:∀(r:aa) (k:Nat) (post:aa),(∀c∈r,p c=true)->r.length<=k->(cv p post\/r.length=k)->br p k (r++post)=r.length
 | [],0,post,_,_,_=>by simp [br]
 | [],k+1,post,_,_,h=>by
  cases post with
  | nil=>simp [br]
  | cons c q=>
   rcases h with h | h
   ·have:=h c rfl;simp [br,this]
   ·simp at h
 | c::r,0,post,_,h,_=>by simp at h
 | c::r,k+1,post,hp,a,h=>by
  have ih:=vG r k post (λd b=>hp d (by simp [b])) (by simpa using a) (by
   rcases h with h | h
   ·exact .inl h
   ·exact .inr (by simpa using h))
  simp only [dQ,br,hp c (by simp),aI,ih,aJ]
theorem yf {p:UInt8->Bool}:∀(k:Nat) (l:aa),∀c∈l.take (br p k l),p c=true
 | 0,l=>by simp [br]
 | k+1,[]=>by simp [br]
 | k+1,c::l=>by
  simp only [br];by_cases h:p c=true
  ·rw [ae h];intro d a;rw [kn,cf] at a;rcases a with rfl | a
   ·exact h
   ·exact yf k l d a
  ·rw [ab h];simp
theorem pU {letter:UInt8} {v:Nat} {post:aa} {p:UInt8->Bool} (b:p letter=false) (a:cv p post):cv p (eY letter v++post):=by
 unfold eY;intro c hc;by_cases h:0<v
 ·rw [ae h] at hc;simp only [dQ,oK,ak] at hc;rw [<-hc];exact b
 ·rw [ab h] at hc;exact a c hc
def isYC (c:UInt8):Bool:=isDX c||c==69||c==83
theorem Oj {l:aa} (h:cv isYC l):cv aS l:=λc hc=>by
 have:=h c hc;unfold isYC isDX at this;simp only [mW] at this;exact this.1.1.1
theorem UV {l:aa} (h:cv isYC l):cv isDX l:=λc hc=>by
 have:=h c hc;unfold isYC at this;simp only [mW] at this;exact this.1.1
theorem U2 {l:aa} (h:cv isYC l):cv (λc=>c==69) l:=λc hc=>by
 have:=h c hc;unfold isYC at this;simp only [mW] at this;exact this.1.2
theorem Uo {l:aa} (h:cv isYC l):cv (λc=>c==83) l:=λc hc=>by
 have:=h c hc;unfold isYC at this;simp only [mW] at this;exact this.2
theorem mr (c:UInt8) (l:aa):eC c (c::l)=1:=by rw [ji,ae rfl]
theorem nq {c a:UInt8} (h:a≠c) (l:aa):eC c (a::l)=0:=by rw [ji,ab h]
theorem G7 {g l:Bool} {d:aa} {x s:Nat} (h:okY g l d (x:Int) (s:Int)) (post:aa) (hp:cv isYC post):nU (fj g l d (x:Int) (s:Int)++post)=.inr (g,l,d,x,s,(fj g l d (x:Int) (s:Int)).length):=by
 have F:=kA h;have j:numS 83 (eY 83 s++post)=.inr (s,(eY 83 s).length):=Aw 83 s post (by omega) (Oj hp) (Uo hp);have m:cv aS (eY 83 s++post):=pU (by decide) (Oj hp);have E:cv isDX (eY 83 s++post):=pU (by decide) (UV hp);rw [jV];cases l with
 | true=>
  have K:okL d (x:Int) (s:Int):=by simpa [okY] using h
  obtain ⟨⟨b,p,A,z,C,L,B,O⟩,N,H⟩:=K;obtain ⟨c,r,rfl⟩:∃c r,d=c::r:=by
   cases d with
   | nil=>simp at p
   | cons c r=>exact ⟨c,r,rfl⟩
  have u:=(bJ c).1 (b c (by simp));have n:49<=c.toNat/\c.toNat<=57:=by
   have:c.toNat≠48:=λe=>z (by rw [show c=48 from fZ.1 e];rfl);omega
  have a:c≠45:=by rintro rfl;exact absurd u.1 (by decide)
  have v:numS 69 (eY 69 x++(eY 83 s++post))=.inr (x,(eY 69 x).length):=Aw 69 x _ (by omega) m (pU (by decide) (U2 hp));have i:br aS 16 (r++(eY 69 x++(eY 83 s++post)))=r.length:=by
   refine vG r 16 _ (λe I=>b e (by simp [I])) (by simp only [aJ] at A;omega) (.inl ?_);exact pU (by decide) m
  have body:∀o:Nat,se g o ((c::r)++(eY 69 x++(eY 83 s++post)))=.inr (g,true,c::r,x,s,o+(1+r.length)+(eY 69 x).length+(eY 83 s).length):=by
   intro o;simp only [dQ,se];rw [ae n,i];have M:List.drop (1+r.length) (c::(r++(eY 69 x++(eY 83 s++post))))=eY 69 x++(eY 83 s++post):=by
    rw [nL,mq,Br rfl]
   have G:List.drop (1+r.length+(eY 69 x).length) (c::(r++(eY 69 x++(eY 83 s++post))))=eY 83 s++post:=by
    rw [show 1+r.length+(eY 69 x).length=(r.length+(eY 69 x).length)+1 by omega,mq,<-fN,Br (by simp)]
   have D:List.take (1+r.length) (c::(r++(eY 69 x++(eY 83 s++post))))=c::r:=by
    rw [nL,kn,List.take_left' rfl]
   rw [M,v];simp only [];rw [G,j,D]
  unfold nU;cases g with
  | true=>
   simp only [aI,dQ,dn,fN];rw [mr,ae rfl,mq,cg,mr];have:=body 2;simp only [dQ] at this;simp only [mq,cg,show ((1:Nat)==1)=true from rfl,show 1+1=2 from rfl];rw [this];simp only [aJ,bE];congr 6;omega
  | false=>
   simp only [aI,bj,aE,dQ,dn,fN];rw [mr,ae rfl,mq,cg,nq a];have:=body 1;simp only [dQ] at this;simp only [mq,cg,show ((0:Nat)==1)=false from rfl,bZ];rw [this];simp only [aJ,bE];congr 6;omega
 | false=>
  have J:okS g d (x:Int) (s:Int):=by simpa [okY] using h
  obtain ⟨b,p,A,z,C,L,B⟩:=J;have t:x=0:=by omega
  subst t;have w:eY 69 0=[]:=rfl;have y:∀c∈d,isDX c=true:=λc hc=>by
   unfold isDX;rcases p c hc with q | q
   ·rw [q];rfl
   ·rw [q];simp
  have i:br isDX 4 (d++(eY 83 s++post))=d.length:=vG d 4 _ y (by omega) (.inr b);have body:∀o:Nat,tw g o (d++(eY 83 s++post))=.inr (g,false,d,0,s,o+4+(eY 83 s).length):=by
   intro o;unfold tw;rw [i,b,ab (by omega),Br b,j,List.take_left' b]
  obtain ⟨c,r,rfl⟩:∃c r,d=c::r:=by
   cases d with
   | nil=>simp at b
   | cons c r=>exact ⟨c,r,rfl⟩
  have a:c≠45:=by
   rintro rfl;rcases p 45 (by simp) with q | q
   ·exact absurd ((bJ _).1 q).1 (by decide)
   ·exact absurd q (by decide)
  have k:c≠89:=by
   rintro rfl;rcases p 89 (by simp) with q | q
   ·exact absurd ((bJ _).1 q).2 (by decide)
   ·exact absurd q (by decide)
  have f:(45:UInt8)≠89:=by decide
  unfold nU;rw [w];cases g with
  | true=>
   simp only [aI,bj,aE,dQ,dn,fN];rw [nq f,ab (by decide),mr,mq,cg];have:=body 1;simp only [dQ] at this;rw [show ((1:Nat)==1)=true from rfl,this];simp only [aJ,bE] at b ⊢;congr 6;omega
  | false=>
   simp only [bj,aE,dQ,dn,fN];rw [nq k,ab (by decide),nq a,cg];have:=body 0;simp only [dQ] at this;rw [show ((0:Nat)==1)=false from rfl,this];simp only [aJ,bE] at b ⊢;congr 6;omega
theorem sW (c:UInt8) (l:aa):l.take (eC c l)=if eC c l=1 then [c] else []:=by
 rcases km c l with h | h
 ·rw [h];simp
 ·rw [h,ae rfl];unfold eC at h;split at h
  ·assumption
  ·cases h
theorem mZ (l:aa) (i j:Nat):l.take (i+j)=l.take i++(l.drop i).take j:=by
 rw [List.take_add]
theorem pH {l:aa} {g q:Bool} {d:aa} {x s k:Nat} (h:nU l=.inr (g,q,d,x,s,k)):l.take k=fj g q d (x:Int) (s:Int)/\k<=l.length/\x<100/\s<100/\d.length<=17:=by
 rw [jV];unfold nU at h;by_cases e:eC 89 l=1
 ·rw [ae e] at h;have o:=sW 89 l;rw [e,ae rfl] at o;have n:=sW 45 (l.drop 1);have f:=km 45 (l.drop 1);generalize E:eC 45 (l.drop 1)=u at *;have a:l.take (1+u)=[89]++(if (u==1)=true then [45] else []):=by
   rw [mZ,o,n];rcases f with rfl | rfl<;>rfl
  cases t:l.drop (1+u) with
  | nil=>rw [t] at h;simp [se] at h
  | cons c r=>
   rw [t] at h;simp only [se] at h;by_cases hc:49<=c.toNat/\c.toNat<=57
   ·rw [ae hc] at h;have B:=oY aS 16 r;have D:1+br aS 16 r<=(c::r).length:=by have:=ky aS 16 r;simp only [aJ];omega
    generalize G:1+br aS 16 r=K at *;cases m:numS 69 (List.drop K (c::r)) with
    | inl j=>rw [m] at h;simp at h
    | inr p=>
     obtain ⟨H,j⟩:=p;rw [m] at h;simp only at h;cases b:numS 83 (List.drop (K+j) (c::r)) with
     | inl i=>rw [b] at h;simp at h
     | inr w=>
      obtain ⟨s',i⟩:=w;rw [b] at h;simp only [mK,bz] at h;obtain ⟨rfl,rfl,rfl,rfl,rfl,rfl⟩:=h;obtain ⟨a1,a2,F⟩:=uM _ _ _ _ m;obtain ⟨b1,b2,v⟩:=uM _ _ _ _ b;rw [cu] at F v;have C:l.length=1+u+(c::r).length:=by
       have:=bO List.length t;rw [cu] at this;simp only [aJ] at this ⊢;omega
      refine ⟨?_,by simp only [aJ] at *;omega,a1,b1,by rw [e7];omega⟩;rw [show 1+u+K+j+i=(1+u)+(K+(j+i)) by omega,mZ,a,t,mZ _ K,mZ _ j,a2,gV,b2];simp
   ·rw [ab hc] at h;simp at h
 ·rw [ab e] at h;have n:=sW 45 l;have f:=km 45 l;generalize E:eC 45 l=u at *;have a:l.take u=(if (u==1)=true then [45] else []):=by
   rw [n];rcases f with rfl | rfl<;>rfl
  unfold tw at h;by_cases A:br isDX 4 (l.drop u)<4
  ·rw [ae A] at h;simp at h
  ·rw [ab A] at h;have z:=ky isDX 4 (l.drop u);rw [cu] at z;cases m:numS 83 (List.drop 4 (l.drop u)) with
   | inl i=>rw [m] at h;simp at h
   | inr w=>
    obtain ⟨s',i⟩:=w;rw [m] at h;simp only [mK,bz] at h;obtain ⟨rfl,rfl,rfl,rfl,rfl,rfl⟩:=h;obtain ⟨b1,b2,v⟩:=uM _ _ _ _ m;rw [cu,cu] at v;refine ⟨?_,by omega,by omega,b1,by rw [e7];omega⟩;rw [show u+4+i=u+(4+i) by omega,mZ,a,mZ _ 4,b2];have y:eY 69 0=[]:=rfl;rw [y];simp
abbrev DR:=Bool×Bool×aa×Nat×Nat×aa×aa×(Nat×Nat×Nat)×(Nat×Nat×Nat)×Nat
def mkE (S:aa) (p:Nat):Nat:=p+mkN (S.drop p)
def rd3 (S:aa) (y:YR) (b d c h g e a:Nat) (f:aa):Nat⊕DR:=
 if twoN (S.drop (mkE S (a+1)))<2 then .inl (mkE S (a+1)+twoN (S.drop (mkE S (a+1))))
 else .inr (y.1,y.2.1,y.2.2.1,y.2.2.2.1,y.2.2.2.2.1,f,(S.drop (mkE S (a+1))).take 2,spM (b,c,mkS (S.drop (a+1))) (d,h,mkS (S.drop (mkE S (a+1)+2))),(g,e,mkE S (a+1)),mkE S (mkE S (a+1)+2))
def rd2 (S:aa) (y:YR) (b c d a:Nat):Nat⊕DR:=
 if twoN (S.drop (mkE S (a+1)))<2 then .inl (mkE S (a+1)+twoN (S.drop (mkE S (a+1))))
 else if eC 45 (S.drop (mkE S (mkE S (a+1)+2)))=0 then .inr (y.1,y.2.1,y.2.2.1,y.2.2.2.1,y.2.2.2.2.1,(S.drop (mkE S (a+1))).take 2,[],spM (b,mkS (S.drop (a+1)),0) (c,mkS (S.drop (mkE S (a+1)+2)),0),(d,mkE S (a+1),0),mkE S (mkE S (a+1)+2))
 else rd3 S y b c (mkS (S.drop (a+1))) (mkS (S.drop (mkE S (a+1)+2))) d (mkE S (a+1)) (mkE S (mkE S (a+1)+2)) ((S.drop (mkE S (a+1))).take 2)
def pw (S:aa) (a:Nat):Nat⊕DR:=match nU (S.drop (mkE S a)) with
 | .inl k=>.inl (mkE S a+k)
 | .inr y=>if 0<y.2.2.2.2.1\/eC 45 (S.drop (mkE S (mkE S a+y.2.2.2.2.2)))=0
  then .inr (y.1,y.2.1,y.2.2.1,y.2.2.2.1,y.2.2.2.2.1,[],[],spM (mkS (S.drop a),0,0) (mkS (S.drop (mkE S a+y.2.2.2.2.2)),0,0),(mkE S a,0,0),mkE S (mkE S a+y.2.2.2.2.2))
  else rd2 S y (mkS (S.drop a)) (mkS (S.drop (mkE S a+y.2.2.2.2.2))) (mkE S a) (mkE S (mkE S a+y.2.2.2.2.2))
def Tf (S:aa):Nat⊕DR->(Int×Int×aa×Int)⊕(Bool×Bool×aa×Int×Int×aa×aa×Int×Int×Int×List Int×aa×Int)
 | .inl k=>.inl ((k:Int),5,S,(k:Int))
 | .inr (g,l,dg,x,s,m,d,M,P,e)=>.inr (g,l,dg,(x:Int),(s:Int),m,d,(M.1:Int),(M.2.1:Int),(M.2.2:Int),l3 P,S,(e:Int))
theorem js {S:aa} {p:Nat} (h:p<=S.length):mkE S p<=S.length:=by
 have:=Rq (S.drop p);rw [cu] at this;unfold mkE;omega
theorem tg {S:aa} {p:Nat} (a:¬twoN (S.drop p)<2):p+2<=S.length:=by
 have:=ky isDX 2 (S.drop p);unfold twoN at a;rw [cu] at this;omega
theorem pX {S:aa} {p:Nat} (h:¬eC 45 (S.drop p)=0):p+1<=S.length:=by
 have:=yS 45 (S.drop p);rw [cu] at this;omega
theorem L8 (n:Nat) (g l:Bool) (d:aa) (x s:Int) (a b:aa) (k0 k1 k2:Int) (S:aa) (p:Nat) (h:p<=S.length) (c:S.length<100000) (e:S.length<n):
  i6 n g l d x s a b k0 k1 k2 S (p:Int)=some (match nU (S.drop p) with
   | .inl k=>.inl (((p+k:Nat):Int),5,g,l,d,x,s,a,b,k0,k1,k2,S,((p+k:Nat):Int))
   | .inr y=>.inr (y.1,y.2.1,y.2.2.1,(y.2.2.2.1:Int),(y.2.2.2.2.1:Int),a,b,k0,k1,k2,S,((p+y.2.2.2.2.2:Nat):Int))):=by
 unfold i6;rw [Qf n S p h c e];cases nU (S.drop p) with
 | inl k=>rfl
 | inr y=>rfl
theorem MD (n:Nat) (g l:Bool) (d:aa) (x s:Int) (c b:aa) (k0 k1 k2:Int) (S:aa) (p:Nat) (h:p<=S.length) (f:S.length<100000) (e:S.length<n):
  iZ n g l d x s c b k0 k1 k2 S (p:Int)=some (if twoN (S.drop p)<2
   then .inl (((p+twoN (S.drop p):Nat):Int),5,g,l,d,x,s,c,b,k0,k1,k2,S,((p+twoN (S.drop p):Nat):Int))
   else .inr (g,l,d,x,s,(S.drop p).take 2,b,k0,k1,k2,S,((p+2:Nat):Int))):=by
 unfold iZ;rw [NU n S p h f e];by_cases a:twoN (S.drop p)<2
 ·rw [ae a,ae a];rfl
 ·rw [ab a,ab a];rfl
theorem Lj (n:Nat) (g l:Bool) (d:aa) (x s:Int) (b c:aa) (k0 k1 k2:Int) (S:aa) (p:Nat) (h:p<=S.length) (f:S.length<100000) (e:S.length<n):
  ja n g l d x s b c k0 k1 k2 S (p:Int)=some (if twoN (S.drop p)<2
   then .inl (((p+twoN (S.drop p):Nat):Int),5,g,l,d,x,s,b,c,k0,k1,k2,S,((p+twoN (S.drop p):Nat):Int))
   else .inr (g,l,d,x,s,b,(S.drop p).take 2,k0,k1,k2,S,((p+2:Nat):Int))):=by
 unfold ja;rw [NU n S p h f e];by_cases a:twoN (S.drop p)<2
 ·rw [ae a,ae a];rfl
 ·rw [ab a,ab a];rfl
theorem OM (m:Nat) (S:aa) (a:Nat) (h:a<=S.length) (n:S.length<100000) (D:S.length<m+300):
  iS (m+300) S (a:Int)=some (Tf S (pw S a)):=by
 have j:∀p,p<=S.length->ca (m+300) S (p:Int)=some (.inr (((mkS (S.drop p):Nat):Int),S,((mkE S p:Nat):Int))):=λp hp=>Qz m S p hp n;have b:∀p,mkS (S.drop p)<4:=λp=>AV _;have r:∀p q,dO (m+300) [((mkS (S.drop p):Nat):Int),0,0] [((mkS (S.drop q):Nat):Int),0,0] 1=some (l3 (spM (mkS (S.drop p),0,0) (mkS (S.drop q),0,0)),0):=λp q=>
  wk (m+300) (by omega) 1 (mkS (S.drop p),0,0) (mkS (S.drop q),0,0) (by omega) ⟨b p,by simp,by simp,by simp,by simp⟩ ⟨b q,by simp,by simp,by simp,by simp⟩
 have B:∀p q f e,dO (m+300) [((mkS (S.drop p):Nat):Int),((mkS (S.drop f):Nat):Int),0] [((mkS (S.drop q):Nat):Int),((mkS (S.drop e):Nat):Int),0] 2=some (l3 (spM (mkS (S.drop p),mkS (S.drop f),0) (mkS (S.drop q),mkS (S.drop e),0)),0):=λp q f e=>
  wk (m+300) (by omega) 2 (mkS (S.drop p),mkS (S.drop f),0) (mkS (S.drop q),mkS (S.drop e),0) (by omega) ⟨b p,b f,by simp,by simp,by simp⟩ ⟨b q,b e,by simp,by simp,by simp⟩
 have F:∀p q f e d c,dO (m+300) [((mkS (S.drop p):Nat):Int),((mkS (S.drop f):Nat):Int),((mkS (S.drop d):Nat):Int)] [((mkS (S.drop q):Nat):Int),((mkS (S.drop e):Nat):Int),((mkS (S.drop c):Nat):Int)] 3=some (l3 (spM (mkS (S.drop p),mkS (S.drop f),mkS (S.drop d)) (mkS (S.drop q),mkS (S.drop e),mkS (S.drop c))),0):=λp q f e d c=>
  wk (m+300) (by omega) 3 (mkS (S.drop p),mkS (S.drop f),mkS (S.drop d)) (mkS (S.drop q),mkS (S.drop e),mkS (S.drop c)) (by omega) ⟨b p,b f,b d,by simp,by simp⟩ ⟨b q,b e,b c,by simp,by simp⟩
 have b0:=js h;unfold iS pw;rw [j a h];simp only [ob,AM];rw [L8 _ _ _ _ _ _ _ _ _ _ _ S (mkE S a) b0 n D];cases I:nU (S.drop (mkE S a)) with
 | inl k=>rfl
 | inr y=>
  obtain ⟨g,l,dg,x,s,k⟩:=y;have bk:mkE S a+k<=S.length:=by
   have:=(pH I).2.1;rw [cu] at this;omega
  have b1:=js bk;simp only [ob,d4,d8];rw [j (mkE S a+k) bk];simp only [ob];by_cases hs:0<s
  ·have:decide (((s:Nat):Int)>0)=true:=by simp;omega
   rw [this,ae (.inl hs)];simp only [aj];rw [r];rfl
  ·have:decide (((s:Nat):Int)>0)=false:=by simp;omega
   rw [this];simp only [af];rw [rM (m+300) 45 S _ b1 n];simp only [ob];by_cases u:eC 45 (S.drop (mkE S (mkE S a+k)))=0
   ·rw [ae (.inr u),u];simp only [show ((0:Nat)==1)=false from rfl,g9,aj,bZ];rw [r];rfl
   ·have C:eC 45 (S.drop (mkE S (mkE S a+k)))=1:=(km 45 _).resolve_left u;have o:=pX u;rw [ab (λz=>z.elim hs u),C];simp only [show ((1:Nat)==1)=true from rfl,cN,af];unfold rd2;rw [j _ o];simp only [ob];have J:=js o;rw [MD _ _ _ _ _ _ _ _ _ _ _ S _ J n D];by_cases A:twoN (S.drop (mkE S (mkE S (mkE S a+k)+1)))<2
    ·rw [ae A,ae A];rfl
    ·rw [ab A,ab A];have b2:=tg A;simp only [ob,d4,d8];rw [j _ b2];simp only [ob];rw [this];simp only [af];have H:=js b2;rw [rM (m+300) 45 S _ H n];simp only [ob];by_cases i:eC 45 (S.drop (mkE S (mkE S (mkE S (mkE S a+k)+1)+2)))=0
     ·rw [ae i,i];simp only [show ((0:Nat)==1)=false from rfl,g9,aj,bZ];rw [B];rfl
     ·have w:=(km 45 (S.drop (mkE S (mkE S (mkE S (mkE S a+k)+1)+2)))).resolve_left i;have v:=pX i;rw [ab i,w];simp only [show ((1:Nat)==1)=true from rfl,cN,af];unfold rd3;rw [j _ v];simp only [ob];have E:=js v;rw [Lj _ _ _ _ _ _ _ _ _ _ _ S _ E n D];by_cases t:twoN (S.drop (mkE S (mkE S (mkE S (mkE S (mkE S a+k)+1)+2)+1)))<2
      ·rw [ae t,ae t];rfl
      ·rw [ab t,ab t];have G:=tg t;simp only [ob,d4,d8];rw [j _ G];simp only [ob];rw [F];rfl
def RN (S:aa) (P:List Int):Nat⊕DR->Bool×Bool×aa×Int×Int×aa×aa×Int×Int×Int×List Int×aa×Int×Int
 | .inl k=>(false,false,[],0,0,[],[],0,0,0,P,S,(k:Int),5)
 | .inr (g,l,dg,x,s,m,d,M,Q,e)=>(g,l,dg,(x:Int),(s:Int),m,d,(M.1:Int),(M.2.1:Int),(M.2.2:Int),l3 Q,S,(e:Int),0)
abbrev RdSt:=aa×Int×Int×List Int×Bool×Bool×aa×Int×Int×aa×aa×List Int×List Int×List Int×aa×Int×Int
def rdSt (S:aa) (i:Int) (g l:Bool) (dg:aa) (x s:Int) (a b:aa) (P A B:List Int) (p:Nat):RdSt:=
 (S,i,i,[0,0,0],g,l,dg,x,s,a,b,P,A,B,S,(p:Int),0)
theorem UR (m:Nat) (S:aa) (a:Nat) (h:a<=S.length) (c:S.length<100000) (d:S.length<m+300):
  bi (m+300) (rdSt S 0 false false [] 0 0 [] [] [0,0,0] [0,0,0] [0,0,0] a)=some (match nU (S.drop (mkE S a)) with
   | .inl k=>.inr (.inr (false,false,[],0,0,[],[],0,0,0,[((mkE S a:Nat):Int),0,0],S,((mkE S a+k:Nat):Int),5))
   | .inr y=>.inl (rdSt S 1 y.1 y.2.1 y.2.2.1 (y.2.2.2.1:Int) (y.2.2.2.2.1:Int) [] [] [((mkE S a:Nat):Int),0,0] [((mkS (S.drop a):Nat):Int),0,0] [((mkS (S.drop (mkE S a+y.2.2.2.2.2)):Nat):Int),0,0] (mkE S (mkE S a+y.2.2.2.2.2)))):=by
 have b:∀p,p<=S.length->eQ (m+300) S (p:Int) 0=some (((mkS (S.drop p):Nat):Int),S,((mkE S p:Nat):Int),0):=λp hp=>yZ m S p hp c 0;have b0:=js h;unfold bi rdSt;simp only [d4,d8,d16,gv,show (decide ((0:Int)<3))=true from rfl,show (decide ((0:Int)>0))=false from rfl,aj,af,ob];rw [b a h];simp only [ob,show ix 3 0=some 0 from rfl,show Nat.blt 0 3=true from rfl,aj,gi,show ((0:Int)==0)=true from rfl];rw [Nc (m+300) S (mkE S a) b0 c d];cases e:nU (S.drop (mkE S a)) with
 | inl k=>rfl
 | inr y=>
  obtain ⟨g,l,dg,x,s,k⟩:=y;have bk:mkE S a+k<=S.length:=by
   have:=(pH e).2.1;rw [cu] at this;omega
  simp only [m9,ob,d4,d8,d16,show ((0:Int) != 0)=false from rfl,af];rw [b _ bk];rfl
theorem UB (m:Nat) (S:aa) (g l:Bool) (dg:aa) (x s:Nat) (e f j:Int) (q:Nat) (h:q<=S.length) (r:S.length<100000) (t:S.length<m+300):
  bi (m+300) (rdSt S 1 g l dg (x:Int) (s:Int) [] [] [e,0,0] [f,0,0] [j,0,0] q)=some (
   if 0<s\/eC 45 (S.drop q)=0 then .inr (.inl (1,false,false,[],0,0,[],[],0,0,0,[0,0,0],[],0,0,g,l,dg,(x:Int),(s:Int),[],[],0,0,0,[e,0,0],[f,0,0],[j,0,0],S,(q:Int),0))
   else if twoN (S.drop (mkE S (q+1)))<2 then .inr (.inr (false,false,[],0,0,[],[],0,0,0,[e,((mkE S (q+1):Nat):Int),0],S,((mkE S (q+1)+twoN (S.drop (mkE S (q+1))):Nat):Int),5))
   else .inl (rdSt S 2 g l dg (x:Int) (s:Int) ((S.drop (mkE S (q+1))).take 2) [] [e,((mkE S (q+1):Nat):Int),0] [f,((mkS (S.drop (q+1)):Nat):Int),0] [j,((mkS (S.drop (mkE S (q+1)+2)):Nat):Int),0] (mkE S (mkE S (q+1)+2)))):=by
 have o:∀p,p<=S.length->eQ (m+300) S (p:Int) 0=some (((mkS (S.drop p):Nat):Int),S,((mkE S p:Nat):Int),0):=λp hp=>yZ m S p hp r 0;unfold bi rdSt;simp only [d4,d8,d16,gv,jd,show (decide ((1:Int)<3))=true from rfl,show (decide ((1:Int)>0))=true from rfl,aj,af,ob,kl];by_cases hs:0<s
 ·have:decide (((s:Nat):Int)>0)=true:=by simp;omega
  rw [this,ae (.inl hs)];rfl
 ·have:decide (((s:Nat):Int)>0)=false:=by simp;omega
  rw [this];simp only [af];rcases aF q S.length with i | n
  ·obtain ⟨c,hc⟩:∃c,S[q]?=some c:=⟨S[q],bn i⟩;have b:decide (S.length<=q)=false:=by simp;omega
   rw [b];simp only [af,dK hc,ob];have k:(((c.toNat:Nat):Int) != 45)=!(c==45):=by rw [bne];congr 1;exact na c 45
   rw [k,bS hc,ji];by_cases a:c=45
   ·have w:IntKind.wrap .i64 ((q:Int)+1)=((q+1:Nat):Int):=by rw [wrap_i64 _ (by omega) (by omega)];omega
    rw [ae a,ab (show ¬(0<s\/(1:Nat)=0) from λz=>z.elim hs (by omega)),a];simp only [xj,cN,af,ob,w];rw [o _ (by omega)];simp only [ob,show ix 3 1=some 1 from rfl,show Nat.blt 1 3=true from rfl,aj,gi,jb,show ((1:Int)==0)=false from rfl,show ((1:Int)==1)=true from rfl,af];have b1:=js (show q+1<=S.length by omega);rw [HW (m+300) (by omega) S _ b1 r 0];by_cases d:twoN (S.drop (mkE S (q+1)))<2
    ·rw [ae d,ae d];rfl
    ·rw [ab d,ab d];simp only [ob,d4,d8,d16,show ((0:Int) != 0)=false from rfl,af];rw [o _ (tg d)];rfl
   ·have:(c==45)=false:=aL.2 a;rw [ab a,ae (.inr rfl),this];rfl
  ·have b:decide (S.length<=q)=true:=by simp;omega
   rw [b,iD n,vM,ae (.inr rfl)];rfl
theorem U7 (m:Nat) (S:aa) (g l:Bool) (dg:aa) (x s:Nat) (t:aa) (f i n e k u:Int) (q:Nat) (h:q<=S.length) (y:S.length<100000) (z:S.length<m+300) (hs:¬0<s):
  bi (m+300) (rdSt S 2 g l dg (x:Int) (s:Int) t [] [f,e,0] [i,k,0] [n,u,0] q)=some (
   if eC 45 (S.drop q)=0 then .inr (.inl (2,false,false,[],0,0,[],[],0,0,0,[0,0,0],[],0,0,g,l,dg,(x:Int),(s:Int),t,[],0,0,0,[f,e,0],[i,k,0],[n,u,0],S,(q:Int),0))
   else if twoN (S.drop (mkE S (q+1)))<2 then .inr (.inr (false,false,[],0,0,[],[],0,0,0,[f,e,((mkE S (q+1):Nat):Int)],S,((mkE S (q+1)+twoN (S.drop (mkE S (q+1))):Nat):Int),5))
   else .inl (rdSt S 3 g l dg (x:Int) (s:Int) t ((S.drop (mkE S (q+1))).take 2) [f,e,((mkE S (q+1):Nat):Int)] [i,k,((mkS (S.drop (q+1)):Nat):Int)] [n,u,((mkS (S.drop (mkE S (q+1)+2)):Nat):Int)] (mkE S (mkE S (q+1)+2)))):=by
 have v:∀p,p<=S.length->eQ (m+300) S (p:Int) 0=some (((mkS (S.drop p):Nat):Int),S,((mkE S p:Nat):Int),0):=λp hp=>yZ m S p hp y 0;unfold bi rdSt;simp only [d4,d8,d16,gv,jd,show (decide ((2:Int)<3))=true from rfl,show (decide ((2:Int)>0))=true from rfl,aj,af,ob,kl];have:decide (((s:Nat):Int)>0)=false:=by simp;omega
 rw [this];simp only [af];rcases aF q S.length with j | r
 ·obtain ⟨c,hc⟩:∃c,S[q]?=some c:=⟨S[q],bn j⟩;have b:decide (S.length<=q)=false:=by simp;omega
  rw [b];simp only [af,dK hc,ob];have o:(((c.toNat:Nat):Int) != 45)=!(c==45):=by rw [bne];congr 1;exact na c 45
  rw [o,bS hc,ji];by_cases a:c=45
  ·have w:IntKind.wrap .i64 ((q:Int)+1)=((q+1:Nat):Int):=by rw [wrap_i64 _ (by omega) (by omega)];omega
   rw [ae a,ab (show ¬((1:Nat)=0) by omega),a];simp only [xj,cN,af,ob,w];rw [v _ (by omega)];simp only [ob,show ix 3 2=some 2 from rfl,show Nat.blt 2 3=true from rfl,aj,gi,jb,show ((2:Int)==0)=false from rfl,show ((2:Int)==1)=false from rfl,af];have b1:=js (show q+1<=S.length by omega);rw [HW (m+300) (by omega) S _ b1 y 0];by_cases d:twoN (S.drop (mkE S (q+1)))<2
   ·rw [ae d,ae d];rfl
   ·rw [ab d,ab d];simp only [ob,d4,d8,d16,show ((0:Int) != 0)=false from rfl,af];rw [v _ (tg d)];rfl
  ·have:(c==45)=false:=aL.2 a;rw [ab a,ae rfl,this];rfl
 ·have b:decide (S.length<=q)=true:=by simp;omega
  rw [b,iD r,vM,ae rfl];rfl
theorem Dl (m:Nat) (S:aa) (a:Nat) (h:a<=S.length) (u:S.length<100000) (w:S.length<m+300):
  ∃P:List Int,P.length=3/\mc (m+300) S (a:Int)=some (RN S P (pw S a)):=by
 have b:∀p,mkS (S.drop p)<4:=λp=>AV _;have r:∀p q,eN (m+300) [((mkS (S.drop p):Nat):Int),0,0] [((mkS (S.drop q):Nat):Int),0,0] 1=some (l3 (spM (mkS (S.drop p),0,0) (mkS (S.drop q),0,0))):=λp q=>
  sP (m+300) (by omega) 1 (mkS (S.drop p),0,0) (mkS (S.drop q),0,0) (by omega) ⟨b p,by simp,by simp,by simp,by simp⟩ ⟨b q,by simp,by simp,by simp,by simp⟩
 have v:∀p q f e,eN (m+300) [((mkS (S.drop p):Nat):Int),((mkS (S.drop f):Nat):Int),0] [((mkS (S.drop q):Nat):Int),((mkS (S.drop e):Nat):Int),0] 2=some (l3 (spM (mkS (S.drop p),mkS (S.drop f),0) (mkS (S.drop q),mkS (S.drop e),0))):=λp q f e=>
  sP (m+300) (by omega) 2 (mkS (S.drop p),mkS (S.drop f),0) (mkS (S.drop q),mkS (S.drop e),0) (by omega) ⟨b p,b f,by simp,by simp,by simp⟩ ⟨b q,b e,by simp,by simp,by simp⟩
 have C:∀p q f e d c,eN (m+300) [((mkS (S.drop p):Nat):Int),((mkS (S.drop f):Nat):Int),((mkS (S.drop d):Nat):Int)] [((mkS (S.drop q):Nat):Int),((mkS (S.drop e):Nat):Int),((mkS (S.drop c):Nat):Int)] 3=some (l3 (spM (mkS (S.drop p),mkS (S.drop f),mkS (S.drop d)) (mkS (S.drop q),mkS (S.drop e),mkS (S.drop c)))):=λp q f e d c=>
  sP (m+300) (by omega) 3 (mkS (S.drop p),mkS (S.drop f),mkS (S.drop d)) (mkS (S.drop q),mkS (S.drop e),mkS (S.drop c)) (by omega) ⟨b p,b f,b d,by simp,by simp⟩ ⟨b q,b e,b c,by simp,by simp⟩
 have b0:=js h;unfold mc pw;show ∃P:List Int,P.length=3/\ob (ar (bi (m+300)) (m+299+1) (rdSt S 0 false false [] 0 0 [] [] [0,0,0] [0,0,0] [0,0,0] a)) _=_;rw [ar,UR m S a h u w];cases G:nU (S.drop (mkE S a)) with
 | inl k=>(refine ⟨_,?_,rfl⟩;rfl)
 | inr y=>
  obtain ⟨g,l,dg,x,s,k⟩:=y;have bk:mkE S a+k<=S.length:=by
   have:=(pH G).2.1;rw [cu] at this;omega
  have b1:=js bk;show ∃P:List Int,P.length=3/\ob (ar (bi (m+300)) (m+298+1) (rdSt S 1 g l dg (x:Int) (s:Int) [] [] [((mkE S a:Nat):Int),0,0] [((mkS (S.drop a):Nat):Int),0,0] [((mkS (S.drop (mkE S a+k)):Nat):Int),0,0] (mkE S (mkE S a+k)))) _=_;rw [ar,UB m S g l dg x s _ _ _ _ b1 u w];simp only [];by_cases hc:0<s\/eC 45 (S.drop (mkE S (mkE S a+k)))=0
  ·rw [ae hc,ae hc];refine ⟨[0,0,0],rfl,?_⟩;simp only [ob,d4,d8,d16];rw [r];rfl
  ·rw [ab hc,ab hc];have hs:¬0<s:=λz=>hc (.inl z);have o:=pX (λz=>hc (.inr z));have J:=js o;unfold rd2;by_cases j:twoN (S.drop (mkE S (mkE S (mkE S a+k)+1)))<2
   ·rw [ae j,ae j];(refine ⟨_,?_,rfl⟩;rfl)
   ·rw [ab j,ab j];have b2:=tg j;have F:=js b2;show ∃P:List Int,P.length=3/\ob (ar (bi (m+300)) (m+297+1) (rdSt S 2 g l dg (x:Int) (s:Int) _ [] [_,_,0] [_,_,0] [_,_,0] (mkE S (mkE S (mkE S (mkE S a+k)+1)+2)))) _=_;rw [ar,U7 m S g l dg x s _ _ _ _ _ _ _ _ F u w hs];by_cases i:eC 45 (S.drop (mkE S (mkE S (mkE S (mkE S a+k)+1)+2)))=0
    ·rw [ae i,ae i];refine ⟨[0,0,0],rfl,?_⟩;simp only [ob,d4,d8,d16];rw [v];rfl
    ·rw [ab i,ab i];have t:=pX i;have I:=js t;unfold rd3;by_cases n:twoN (S.drop (mkE S (mkE S (mkE S (mkE S (mkE S a+k)+1)+2)+1)))<2
     ·rw [ae n,ae n];(refine ⟨_,?_,rfl⟩;rfl)
     ·rw [ab n,ab n];have H:∀(D E:aa) (P A B:List Int) (p:Nat),bi (m+300) (rdSt S 3 g l dg (x:Int) (s:Int) D E P A B p)=some (.inr (.inl (3,false,false,[],0,0,[],[],0,0,0,[0,0,0],[],0,0,g,l,dg,(x:Int),(s:Int),D,E,0,0,0,P,A,B,S,(p:Int),0))):=λ_ _ _ _ _ _=>rfl;show ∃P:List Int,P.length=3/\ob (ar (bi (m+300)) (m+296+1) (rdSt S 3 g l dg (x:Int) (s:Int) _ _ _ _ _ _)) _=_;rw [ar,H];refine ⟨[0,0,0],rfl,?_⟩;simp only [ob,d4,d8,d16];rw [C];rfl
theorem OT (n a:Nat) (q:a<65536):∃d,jI n (a:Int)=some d/\d.length=4/\∀c∈d,aS c=true:=by
 have i:Int.tmod (a:Int) 10000=((a%10000:Nat):Int):=rfl;have k:a%10000<10000:=qS _ (by decide);generalize a%10000=N at *;have o:Int.tdiv (N:Int) 1000=((N / 1000:Nat):Int):=rfl;have g:Int.tdiv (N:Int) 100=((N / 100:Nat):Int):=rfl;have l:Int.tdiv (N:Int) 10=((N / 10:Nat):Int):=rfl;have j:IntKind.wrap .u16 ((N / 1000:Nat):Int)=((N / 1000:Nat):Int):=tZ _ (by omega) (by omega);have f:IntKind.wrap .u16 ((N / 100:Nat):Int)=((N / 100:Nat):Int):=tZ _ (by omega) (by omega);have m:IntKind.wrap .u16 ((N / 10:Nat):Int)=((N / 10:Nat):Int):=tZ _ (by omega) (by omega);have m2:Int.tmod ((N / 100:Nat):Int) 10=((N / 100%10:Nat):Int):=rfl;have p:Int.tmod ((N / 10:Nat):Int) 10=((N / 10%10:Nat):Int):=rfl;have h:Int.tmod (N:Int) 10=((N%10:Nat):Int):=rfl;have s:∀r:Nat,r<10->IntKind.wrap .u16 ((r:Int)+1)=((r+1:Nat):Int):=λr e=>by rw [tZ _ (by omega) (by omega)];omega
 refine ⟨[UInt8.ofNat (48+N / 1000),UInt8.ofNat (48+N / 100%10),UInt8.ofNat (48+N / 10%10),UInt8.ofNat (48+N%10)],?_,rfl,?_⟩
 ·simp only [jI,i,o,g,l,j,f,m,m2,p,h,s (N / 1000) (by omega),s (N / 100%10) (by omega),s (N / 10%10) (by omega),s (N%10) (by omega),da (show N / 1000+1<=10 by omega),da (show N / 1000<=N / 1000+1 by omega),da (show N / 100%10+1<=10 by omega),da (show N / 100%10<=N / 100%10+1 by omega),da (show N / 10%10+1<=10 by omega),da (show N / 10%10<=N / 10%10+1 by omega),da (show N%10+1<=10 by omega),da (show N%10<=N%10+1 by omega),ob,cutD (N / 1000) (by omega),cutD (N / 100%10) (by omega),cutD (N / 10%10) (by omega),cutD (N%10) (by omega)];rw [dR (by simp)];simp only [];rw [dR (by simp)];simp only [];rw [dR (by simp)];rfl
 ·have b:∀r:Nat,r<10->aS (UInt8.ofNat (48+r))=true:=λr e=>(bJ _).2 (by rw [kS e];omega);simp only [cf,n7,o7,zU,forall_eq];exact ⟨b _ (by omega),b _ (by omega),b _ (by omega),b _ (by omega)⟩
theorem vr (n:Nat) (g l:Bool) (d:aa) (x s:Int) (e:200<n) (c:d.length<=100) (h:okY false l d x s):∃b,(ob (cH n g l d x s) λr=>(cond (r==0) (some (false,l,d,x,s)) (some (g,l,d,x,s))))=some (b,l,d,x,s)/\okY b l d x s:=by
 rw [Jm n g l d x s e c];by_cases a:okY g l d x s
 ·rw [ae a];exact ⟨g,rfl,a⟩
 ·rw [ab a];exact ⟨false,rfl,h⟩
theorem wK {d:aa} {s:Int} (e:d.length=4) (f:∀c∈d,aS c=true\/c=88) (g:0<=s) (a:s<=4) (b:¬(0<s/\hasX d=true)):okY false false d 0 s:=by
 have:okS false d 0 s:=⟨e,f,rfl,by simp,g,a,b⟩;simpa [okY] using this
theorem Qq (n:Nat) (a b:Int) (g:Bool) (d:aa) (A:d.length=4) (l:∀c∈d,aS c=true) (B:4<n):
  ∃s:aa,ar (fp n) n (a,b,[],0,false,false,[],0,0,g,false,d,0,0)=some (s,false,false,[],0,0,g,false,d,0,0)/\s.length=4/\∀c∈s,aS c=true\/c=88:=by
 obtain ⟨y,u,s,w,z,o⟩:=nk (step:=fp n) (λx=>∃(i:Nat) (s:aa),i<=4/\s.length=i/\(∀c∈s,aS c=true\/c=88)/\x=(a,b,s,(i:Int),false,false,[],0,0,g,false,d,0,0)) (λx=>4 - x.2.2.2.1.toNat) (λy=>∃s:aa,y=(s,false,false,[],0,0,g,false,d,0,0)/\s.length=4/\∀c∈s,aS c=true\/c=88) (by
  rintro x ⟨i,s,hi,hs,hc,rfl⟩;rcases aF i 4 with h | v
  ·obtain ⟨c,f⟩:∃c,d[i]?=some c:=⟨d[i],bn (by omega)⟩;have m:decide ((i:Int)<4)=true:=am (by omega);have r:IntKind.wrap .i64 ((i:Int)+1)=((i+1:Nat):Int):=by rw [wrap_i64 _ (by omega) (by omega)];omega
   have next:∀e:UInt8,(aS e=true\/e=88)->∃j,some (Sum.inl (a,b,s++[e],((i+1:Nat):Int),false,false,([]:aa),(0:Int),(0:Int),g,false,d,(0:Int),(0:Int)))=some (Sum.inl (β:=aa×Bool×Bool×aa×Int×Int×Bool×Bool×aa×Int×Int) j)/\(∃(i:Nat) (s:aa),i<=4/\s.length=i/\(∀c∈s,aS c=true\/c=88)/\j=(a,b,s,(i:Int),false,false,[],0,0,g,false,d,0,0))/\4 - j.2.2.2.1.toNat<4 - i:=by
    intro e t;refine ⟨_,rfl,⟨i+1,s++[e],h,by simp [hs],?_,rfl⟩,by simp only [bR];omega⟩;intro p k;rcases kX.1 k with q | q
    ·exact hc p q
    ·simp only [cf,n7,o7] at q;rw [q];exact t
   simp only [fp,m,aj,r,bR,da (show i+1<=d.length by omega),da (show i<=i+1 by omega),ob,cut1 f];rw [dR (a:=s) (b:=[88]) (by simp;omega),dR (a:=s) (b:=[c]) (by simp;omega)];simp only [];left;cases ((i:Int)==a)
   ·cases ((i:Int)==b)
    ·exact next c (.inl (l c (fH f)))
    ·exact next 88 (.inr rfl)
   ·exact next 88 (.inr rfl)
  ·have:i=4:=by omega
   subst this;exact .inr ⟨_,rfl,s,rfl,hs,hc⟩) n (a,b,[],0,false,false,[],0,0,g,false,d,0,0) ⟨0,[],by omega,rfl,by simp,rfl⟩ (by simp;omega)
 exact ⟨s,by rw [u,w],z,o⟩
theorem cut9 (r:Nat) (h:r<9):List.drop r (List.take (r+1) ([49,50,51,52,53,54,55,56,57]:aa))=[UInt8.ofNat (49+r)]:=by
 have:∀r,r<9->List.drop r (List.take (r+1) ([49,50,51,52,53,54,55,56,57]:aa))=[UInt8.ofNat (49+r)]:=by decide
 exact this r h
theorem FN {d:aa} {x s:Nat} (b:∀c∈d,aS c=true) (j:1<=d.length) (o:d.length<=5) (f:d.head?≠some 48) (g:x<=11) (h:x=0->d.length=5) (l:s<=d.length+x):okY false true d (x:Int) (s:Int):=by
 have a:=sI d 0 0 b (by simp);have hp:(10:Nat) ^ (d.length+0)<=10 ^ 5:=k9 (by decide) (by omega);have i:(10:Nat) ^ x<=10 ^ 11:=k9 (by decide) g;have k:=uK (Nat.le_of_lt (mI a hp)) i;have e:(10:Nat) ^ 5*10 ^ 11=E16:=by decide
 have:okL d (x:Int) (s:Int):=⟨⟨b,j,by omega,f,by omega,by omega,by rintro ⟨m,n⟩;have:=h (by omega);omega,by simp only [bR];omega⟩,by omega,by omega⟩;simpa [okY] using this
theorem OK (m a0 a2 a b:Nat) (g:Bool) (h2:a2<65536) (Y:a<256) (h4:b<256):∃f l d x s,jJ (m+300) (a0:Int) g (a2:Int) (a:Int) (b:Int)=some (f,l,d,x,s)/\okY f l d x s/\d.length<=5/\x<=11/\(a0%6≠3->hasX d=false):=by
 obtain ⟨d,W,i,h⟩:=OT (m+300) a2 h2;have A:∀c∈d,aS c=true\/c=88:=λc hc=>.inl (h c hc);have u:=ul h;unfold jJ;rw [W];simp only [ob];cases P:(Int.tmod (a0:Int) 6==3) with
 | true=>
  simp only [aj];obtain ⟨s,C,I,U⟩:=Qq (m+300) (IntKind.wrap .i64 (Int.tmod (a:Int) 4)) (IntKind.wrap .i64 (Int.tmod (b:Int) 4)) g d i h (by omega);rw [C];obtain ⟨f,k,j⟩:=vr (m+300) g false s 0 0 (by omega) (by omega) (wK I U (by omega) (by omega) (by omega))
  exact ⟨f,false,s,0,0,k,j,by omega,by omega,λY=>absurd (by
   have e:=bp.1 P;have e2:Int.tmod (a0:Int) 6=((a0%6:Nat):Int):=rfl;omega) Y⟩
 | false=>
  simp only [af];cases (Int.tmod (a0:Int) 6==4) with
  | true=>
   simp only [aj];have e:Int.tmod (a:Int) 4=((a%4:Nat):Int):=rfl;have w1:IntKind.wrap .i64 ((a%4:Nat):Int)=((a%4:Nat):Int):=wrap_i64 _ (by omega) (by omega);have w2:IntKind.wrap .i64 (1+((a%4:Nat):Int))=((1+a%4:Nat):Int):=by rw [wrap_i64 _ (by omega) (by omega)];omega
   rw [e,w1,w2];obtain ⟨f,k,j⟩:=vr (m+300) g false d 0 ((1+a%4:Nat):Int) (by omega) (by omega) (wK i A (by omega) (by omega) (by rw [u];simp));exact ⟨f,false,d,0,_,k,j,by omega,by omega,λ_=>u⟩
  | false=>
   simp only [af];cases (Int.tmod (a0:Int) 6==5) with
   | false=>
    simp only [af];obtain ⟨f,k,j⟩:=vr (m+300) g false d 0 0 (by omega) (by omega) (wK i A (by omega) (by omega) (by omega));exact ⟨f,false,d,0,0,k,j,by omega,by omega,λ_=>u⟩
   | true=>
    simp only [aj];have e9:Int.tmod (a:Int) 9=((a%9:Nat):Int):=rfl;have w9:IntKind.wrap .u8 (((a%9:Nat):Int)+1)=((a%9+1:Nat):Int):=by rw [gh _ (by omega) (by omega)];omega
    have Z:Int.tmod (b:Int) 3=((b%3:Nat):Int):=rfl;have e5:Int.tmod (b:Int) 5=((b%5:Nat):Int):=rfl;have w5:IntKind.wrap .u8 (1+((b%5:Nat):Int))=((1+b%5:Nat):Int):=by rw [gh _ (by omega) (by omega)];omega
    have T:Int.tdiv (b:Int) 16=((b / 16:Nat):Int):=rfl;have R:IntKind.wrap .u8 ((b / 16:Nat):Int)=((b / 16:Nat):Int):=gh _ (by omega) (by omega);have B:Int.tmod ((b / 16:Nat):Int) 11=((b / 16%11:Nat):Int):=rfl;have N:IntKind.wrap .i64 ((b / 16%11:Nat):Int)=((b / 16%11:Nat):Int):=wrap_i64 _ (by omega) (by omega);have V:IntKind.wrap .i64 (1+((b / 16%11:Nat):Int))=((1+b / 16%11:Nat):Int):=by rw [wrap_i64 _ (by omega) (by omega)];omega
    have O:Int.tdiv (a:Int) 16=((a / 16:Nat):Int):=rfl;have Q:IntKind.wrap .u8 ((a / 16:Nat):Int)=((a / 16:Nat):Int):=gh _ (by omega) (by omega);have G:IntKind.wrap .i64 ((a / 16:Nat):Int)=((a / 16:Nat):Int):=wrap_i64 _ (by omega) (by omega);have L:UInt8.ofNat (49+a%9)≠48:=by
     intro q;have:=bO UInt8.toNat q;rw [show 49+a%9=48+(1+a%9) by omega,kS (by omega)] at this;exact absurd this (by show ¬48+(1+a%9)=48;omega)
    have p:aS (UInt8.ofNat (49+a%9))=true:=(bJ _).2 (by rw [show 49+a%9=48+(1+a%9) by omega,kS (by omega)];omega);rw [e9,w9,da (show a%9+1<=9 by omega)];simp only [];rw [da (show a%9<=a%9+1 by omega)];simp only [];rw [cut9 (a%9) (by omega),dR (by simp;omega)];simp only [];generalize H:[UInt8.ofNat (49+a%9)]++d=D;have y:D.length=5:=by rw [<-H];simp [i]
    have t:∀c∈D,aS c=true:=by
     rw [<-H];intro c hc;simp only [dQ,dn,cf] at hc;rcases hc with rfl | hc
     ·exact p
     ·exact h c hc
    have w:D.head?≠some 48:=by rw [<-H];simpa using L
    rw [Z,e5,w5,T,R,B,N,V,O,Q,G];by_cases h33:0<b%3
    ·have J:decide (((b%3:Nat):Int)>0)=true:=am (by omega);rw [J,aj,da (show 1+b%5<=D.length by omega)];simp only [cg];generalize M:List.take (1+b%5) D=E;have hEl:E.length=1+b%5:=by rw [<-M,e7];omega
     have z:∀c∈E,aS c=true:=by rw [<-M];exact λc hc=>t c (List.mem_of_mem_take hc)
     have K:E.head?≠some 48:=by
      rw [<-M];cases D with
      | nil=>simp at y
      | cons c r=>rw [nL,kn];simpa using w
     generalize hX:1+b / 16%11=X;have v:X<=11:=by omega
     have hX1:1<=X:=by omega
     have F:IntKind.wrap .i64 (IntKind.wrap .i64 (((E.length:Nat):Int)+((X:Nat):Int))+1)=((E.length+X+1:Nat):Int):=by
      rw [wrap_i64 (((E.length:Nat):Int)+((X:Nat):Int)) (by omega) (by omega),wrap_i64 _ (by omega) (by omega)];omega
     have n:(((E.length+X+1:Nat):Int)==0)=false:=aL.2 (by omega);rw [F,n,af];have S:Int.tmod ((a / 16:Nat):Int) ((E.length+X+1:Nat):Int)=((a / 16%(E.length+X+1):Nat):Int):=rfl;rw [S];have o:a / 16%(E.length+X+1)<E.length+X+1:=qS _ (by omega);generalize a / 16%(E.length+X+1)=s at o ⊢;obtain ⟨f,k,j⟩:=vr (m+300) g true E ((X:Nat):Int) ((s:Nat):Int) (by omega) (by omega) (FN z (by omega) (by omega) K v (by omega) (by omega));exact ⟨f,true,E,_,_,k,j,by omega,by omega,λ_=>ul z⟩
    ·have J:decide (((b%3:Nat):Int)>0)=false:=aq (by omega);rw [J,af,y];have F:IntKind.wrap .i64 (IntKind.wrap .i64 (((5:Nat):Int)+0)+1)=((6:Nat):Int):=by decide
     have n:(((6:Nat):Int)==0)=false:=rfl;rw [F,n,af];have S:Int.tmod ((a / 16:Nat):Int) ((6:Nat):Int)=((a / 16%6:Nat):Int):=rfl;rw [S];have o:a / 16%6<6:=qS _ (by omega);generalize a / 16%6=s at o ⊢;obtain ⟨f,k,j⟩:=vr (m+300) g true D ((0:Nat):Int) ((s:Nat):Int) (by omega) (by omega) (FN t (by omega) (by omega) w (by omega) (by omega) (by omega));exact ⟨f,true,D,_,_,k,j,by omega,by omega,λ_=>ul t⟩
theorem uT {g l:Bool} {d:aa} {x s:Nat} (h:okY g l d (x:Int) (s:Int)):(fj g l d (x:Int) (s:Int)).length<=25:=by
 have hs:=kA h;have b:=Ai 69 (show x<100 by omega);have c:=Ai 83 (show s<100 by omega);rw [jV];simp only [bE];have e:(if l=true then ([89]:aa) else []).length<=1:=by split<;>simp
 have a:(if g=true then ([45]:aa) else []).length<=1:=by split<;>simp
 omega
end Go.Sh
