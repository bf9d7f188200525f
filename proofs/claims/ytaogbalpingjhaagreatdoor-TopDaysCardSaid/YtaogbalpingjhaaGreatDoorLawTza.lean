
/- Plain proofs, kept as far as they are needed here (printed by prune.py).
   Conditions: none. -/
import Derived.Laws.RangeString
import Derived.Laws.RangeAny
import Derived.Test.YtaogbalpingjhaaGreatDoorShT
import Derived.Lib.IndexLaws
import Derived.Test.YtaogbalpingjhaaGreatDoorAbsZ
set_option linter.unusedVariables false
set_option linter.unusedSimpArgs false
set_option maxRecDepth 100000
namespace Go.Sh
open Go.Abs
theorem eO {X Y:Type} {step:X->Option (X⊕Y)} (I:X->Prop) (b:X->Nat) (G:X->Y)
  (h:∀x,I x->(∃a,step x=some (.inl a)/\I a/\b a<b x/\G a=G x)\/step x=some (.inr (G x))):
  ∀(n:Nat) (x:X),I x->b x<n->aw step n x=some (G x)
 | 0,x,_,d=>by omega
 | n+1,x,g,d=>by
  rcases h x g with ⟨a,c,f,i,e⟩ | c
  ·simp only [aw,c];rw [eO I b G h n a f (by omega),e]
  ·simp only [aw,c]
theorem kl {X Y:Type} {step:X->Option (X⊕Y)} (I:X->Prop) (b:X->Nat) (Q:Y->Prop)
  (h:∀x,I x->(∃a,step x=some (.inl a)/\I a/\b a<b x)\/∃y,step x=some (.inr y)/\Q y):
  ∀(n:Nat) (x:X),I x->b x<n->∃y,aw step n x=some y/\Q y
 | 0,x,_,e=>by omega
 | n+1,x,f,e=>by
  rcases h x f with ⟨a,c,d,g⟩ | ⟨y,c,d⟩
  ·simp only [aw,c];exact kl I b Q h n a d (by omega)
  ·exact ⟨y,by simp only [aw,c],d⟩
theorem tO (x:Int):0<=IntKind.wrap .u8 x/\IntKind.wrap .u8 x<256:=by
 show 0<=x%256/\x%256<256;omega
theorem fi (x:Int) (a:0<=x) (b:x<256):IntKind.wrap .u8 x=x:=by
 show x%256=x;omega
theorem zO (x:Int):IntKind.wrap .u8 x=x%256:=rfl
theorem wrap_i64 (x:Int) (a:-9223372036854775808<=x) (b:x<9223372036854775808):IntKind.wrap .i64 x=x:=by
 simp only [IntKind.wrap,IntKind.signed,IntKind.bits];simp;omega
theorem jI {l:aa} {i:Nat} {c:UInt8} (h:l[i]?=some c):sx l (i:Int)=some c:=by
 simp [sx,h]
theorem gj {n i:Nat} (h:i<n):ix n (i:Int)=some i:=by
 simp [ix];omega
theorem fC {n i:Nat} (h:i<=n):bx n (i:Int)=some i:=by
 simp [bx];omega
theorem xi {l:aa} {i:Nat} {c:UInt8} (h:l[i]?=some c) (hc:c.toNat<128):dec l i=(c.toNat,1):=by
 have hlt:i<l.length:=by
  rcases aA i l.length with h' | h'
  ·exact h'
  ·rw [dx h'] at h;cases h
 have hs:i<(ByteArray.mk l.toArray).size:=hlt;have hg:(ByteArray.mk l.toArray)[i]'hs=c:=by
  rw [cn hlt] at h;simp only [ae] at h;exact h
 unfold dec;rw [decode_ascii _ i hs (by rw [hg];exact hc),hg]
theorem xX {l:aa} {i:Nat} {c:UInt8} (h:l[i]?=some c) (hc:128<=c.toNat):128<=(dec l i).1/\1<=(dec l i).2:=by
 have hlt:i<l.length:=by
  rcases aA i l.length with h' | h'
  ·exact h'
  ·rw [dx h'] at h;cases h
 have hs:i<(ByteArray.mk l.toArray).size:=hlt;have hg:(ByteArray.mk l.toArray)[i]'hs=c:=by
  rw [cn hlt] at h;simp only [ae] at h;exact h
 unfold dec;exact decode_high _ i hs (by rw [hg];exact hc)
theorem qb {α:Type} {l:List α} {i:Nat} {c:α} (h:l[i]?=some c):i<l.length:=by
 rcases aA i l.length with a | a
 ·exact a
 ·rw [dx a] at h;cases h
theorem gX {α:Type} {l:List α} {i:Nat} {c:α} (h:l[i]?=some c):l.drop i=c::l.drop (i+1):=by
 have a:=qb h;rw [cn a] at h;simp only [ae] at h;rw [<-h,xN a]
theorem hO {α β:Type} [BEq α] [LawfulBEq α] [DecidableEq α] (a b:α) (x y:β):(cond (a==b) x y)=if a=b then x else y:=by
 by_cases h:a=b
 ·subst h;simp
 ·rw [bW.2 h];simp [h]
theorem yW {α β:Type} [BEq α] [LawfulBEq α] [DecidableEq α] (a b:α) (x y:β):(cond (a != b) x y)=if a=b then y else x:=by
 by_cases h:a=b
 ·subst h;simp
 ·rw [bne,bW.2 h];simp [h]
theorem bA {β:Type} (p:Prop) [Decidable p] (x y:β):(cond (decide p) x y)=if p then x else y:=by
 by_cases h:p<;>simp [h]
theorem Es {β:Type} (b:Bool) (x y:β):(cond (!b) x y)=cond b y x:=by cases b<;>rfl
theorem jh (a b:Nat):(decide (((a:Nat):Int)<((b:Nat):Int)))=decide (a<b):=by
 by_cases h:a<b<;>simp [h]
theorem Gk (c d:UInt8):((((c.toNat:Nat):Int))==((d.toNat:Nat):Int))=(c==d):=by
 by_cases h:c=d
 ·subst h;simp
 ·have b:c.toNat≠d.toNat:=λe=>h (gU.1 e);have a:((c.toNat:Nat):Int)≠((d.toNat:Nat):Int):=by omega
  rw [bW.2 a,bW.2 h]
theorem J2 (c:UInt8):UInt8.ofNat (Int.toNat ((c.toNat:Nat):Int))=c:=by simp
def two (c:Nat):aa:=[UInt8.ofNat (48+c / 10),UInt8.ofNat (48+c%10)]
def sea (m:aa):Int:=match (List.range 21).find? (λj=>m==two (21+j)) with | some j=>((21+j:Nat):Int) | none=>0
theorem iD {j:Nat} (a:j<21):sea (two (21+j))=((21+j:Nat):Int):=by
 have:((List.range 21).all λj=>sea (two (21+j))==((21+j:Nat):Int))=true:=by decide +kernel
 simpa using (List.all_eq_true.1 this) j (by simpa using a)
theorem ka (m:aa):sea m=0\/∃j,j<21/\m=two (21+j):=by
 unfold sea;split
 ·rename_i j h;have b:=List.find?_some h;have a:=List.mem_of_find?_eq_some h;exact .inr ⟨j,by simpa using a,by simpa using b⟩
 ·exact .inl rfl
theorem kK {b:UInt8} {d:Nat} (h:Lib.digitVal b=some d):d<10/\b.toNat=48+d:=by
 unfold Lib.digitVal at h;split at h
 ·cases h;omega
 ·cases h
theorem Ff {a b:UInt8} {v:Int} (h:Lib.atoi [a,b]=some v) (q:21<=v) (s:v<42):∃j,j<21/\[a,b]=two (21+j)/\v=((21+j:Nat):Int):=by
 obtain ⟨p,r,e,k⟩:=Lib.atoi_cases h;cases e;rcases k with ⟨_,m,_,_,i⟩ | ⟨_,m,_,c,i⟩ | ⟨_,_,m,c,i⟩
 ·omega
 ·simp only [Lib.decFrom] at c;split at c
  ·rename_i d g;have:=(kK g).1;simp only [ae] at c;omega
  ·cases c
 ·simp only [Lib.decFrom] at c;split at c
  ·rename_i d g;split at c
   ·rename_i d' f;obtain ⟨k1,k2⟩:=kK g;obtain ⟨t,l⟩:=kK f;simp only [ae] at c;refine ⟨m - 21,by omega,?_,by omega⟩;have o:(21+(m - 21)) / 10=d:=by omega
    have n:(21+(m - 21))%10=d':=by omega
    unfold two;rw [o,n,<-k2,<-l];simp
   ·cases c
  ·cases c
theorem rk {j:Nat} (a:j<21):Lib.atoi (two (21+j))=some ((21+j:Nat):Int):=by
 have:((List.range 21).all λj=>Lib.atoi (two (21+j))==some ((21+j:Nat):Int))=true:=by decide +kernel
 simpa using (List.all_eq_true.1 this) j (by simpa using a)
theorem nX (n:Nat) (g l:Bool) (dg:aa) (x q:Int) (m d:aa) (k0 k1 k2:Int) (k:m.length<=18):aU n g l dg x q m d k0 k1 k2=some (sea m,decide (0<sea m)):=by
 have f:Nat.ble m.length 18=true:=cZ k;rcases ka m with h | ⟨j,c,rfl⟩
 ·unfold aU;rw [f,h];show opt (Lib.atoi m) _ _=_;cases o:Lib.atoi m with
  | none=>rfl
  | some v=>
   show cond _ _ _=_;by_cases i:m.length=2
   ·rw [i];obtain ⟨a,b,rfl⟩:∃a b,m=[a,b]:=by
     match m,i with
     | [a,b],_=>exact ⟨a,b,rfl⟩
    show ob (bN n v) _=_;unfold bN;rw [bA,bA];split
    ·rfl
    ·split
     ·rfl
     ·exfalso;obtain ⟨j,c,e,_⟩:=Ff o (by omega) (by omega);rw [e,iD c] at h;omega
   ·rw [show (((m.length:Nat):Int) != 2)=true by simp;omega];rfl
 ·rw [iD c];have e:aU n g l dg x q (two (21+j)) d k0 k1 k2=some (((21+j:Nat):Int),true):=by
   unfold aU;rw [f,rk c];show ob (bN n ((21+j:Nat):Int)) _=_;unfold bN;rw [bA,bA,ab (by omega),ab (by omega)];rfl
  rw [e];have:decide (0<((21+j:Nat):Int))=true:=by simp;omega
  rw [this]
theorem GI (n:Nat) {c:Nat} (hc:c<100):aJ n (c:Int)=some (two c):=by
 have k:Int.tdiv (c:Int) 10=((c / 10:Nat):Int):=by
  rw [show (10:Int)=((10:Nat):Int) from rfl,<-Int.ofNat_tdiv]
 have i:Int.tmod (c:Int) 10=((c%10:Nat):Int):=by
  rw [show (10:Int)=((10:Nat):Int) from rfl,<-Int.ofNat_tmod]
 have f:c / 10<10:=by omega
 have h:c%10<10:=by omega
 unfold aJ;rw [k,i];have g:IntKind.wrap .i64 ((c / 10:Nat):Int)=((c / 10:Nat):Int):=wrap_i64 _ (by omega) (by omega);have j:IntKind.wrap .i64 (((c / 10:Nat):Int)+1)=((c / 10+1:Nat):Int):=by rw [wrap_i64 _ (by omega) (by omega)];omega
 have e:IntKind.wrap .i64 (((c%10:Nat):Int)+1)=((c%10+1:Nat):Int):=by rw [wrap_i64 _ (by omega) (by omega)];omega
 rw [g,j,e,fC (by omega),fC (by omega)];show ob (bx (c / 10+1) ((c / 10:Nat):Int)) _=_;rw [fC (by omega)];show ob (bx (c%10+1) ((c%10:Nat):Int)) _=_;rw [fC (by omega)];unfold two;generalize c / 10=a at *;generalize c%10=b at *;have:((List.range 10).all λa=>(List.range 10).all λb=>ob (cat (List.drop a (List.take (a+1) ([48,49,50,51,52,53,54,55,56,57]:aa))) (List.drop b (List.take (b+1) ([48,49,50,51,52,53,54,55,56,57]:aa)))) (λs=>some s)==some [UInt8.ofNat (48+a),UInt8.ofNat (48+b)])=true:=by decide +kernel
 have d:=(bz.1 ((bz.1 this) a (by simpa using f))) b (by simpa using h);simpa using d
theorem EW {m:aa} (h:∀j,j<21->m≠two (21+j)):sea m=0:=by
 rcases ka m with b | ⟨j,a,e⟩
 ·exact b
 ·exact absurd e (h j a)
theorem ql (n:Nat) (g l:Bool) (dg:aa) (x q:Int) (m d:aa) (k0 k1 k2:Int):∀(r j:Nat),j+r=21->(∀i,i<j->m≠two (21+i))->∀N,r<N->
  aw (aX n) N (((21+j:Nat):Int),g,l,dg,x,q,m,d,k0,k1,k2)=some (if sea m=0 then .inr () else .inl (sea m)):=by
 intro r
 induction r with
 | zero=>
  intro j f a N e;obtain ⟨N,rfl⟩:∃k,N=k+1:=⟨N - 1,by omega⟩;have c:sea m=0:=EW (λi hi=>a i (by omega));rw [aw];have:aX n (((21+j:Nat):Int),g,l,dg,x,q,m,d,k0,k1,k2)=some (.inr (.inr ())):=by
   unfold aX;rw [bA,ab (by show ¬(((21+j:Nat):Int)<=41);omega)]
  rw [this,ad c]
 | succ r ih=>
  intro j f a N e;obtain ⟨N,rfl⟩:∃k,N=k+1:=⟨N - 1,by omega⟩;rw [aw];by_cases b:m=two (21+j)
  ·have c:sea m=((21+j:Nat):Int):=by rw [b];exact iD (by omega)
   have:aX n (((21+j:Nat):Int),g,l,dg,x,q,m,d,k0,k1,k2)=some (.inr (.inl ((21+j:Nat):Int))):=by
    unfold aX;rw [bA,ad (by show ((21+j:Nat):Int)<=41;omega)];show ob (aJ n ((21+j:Nat):Int)) _=_;rw [GI n (by omega)];show cond (m==two (21+j)) _ _=_;rw [hO,ad b]
   rw [this,c,ab (by omega)]
  ·have:aX n (((21+j:Nat):Int),g,l,dg,x,q,m,d,k0,k1,k2)=some (.inl (((21+(j+1):Nat):Int),g,l,dg,x,q,m,d,k0,k1,k2)):=by
    unfold aX;rw [bA,ad (by show ((21+j:Nat):Int)<=41;omega)];show ob (aJ n ((21+j:Nat):Int)) _=_;rw [GI n (by omega)];show cond (m==two (21+j)) _ _=_;rw [hO,ab b];have:IntKind.wrap .i64 (((21+j:Nat):Int)+1)=((21+(j+1):Nat):Int):=by rw [wrap_i64 _ (by omega) (by omega)];omega
    show some (Sum.inl (IntKind.wrap .i64 (((21+j:Nat):Int)+1),_))=_;rw [this]
   rw [this]
   exact ih (j+1) (by omega) (λi hi=>by
    rcases aA i j with h | h
    ·exact a i h
    ·have:i=j:=by omega
     rw [this];exact b) N (by omega)
theorem zR (n:Nat) (a:100<n) (g l:Bool) (dg:aa) (x q:Int) (m d:aa) (k0 k1 k2:Int):dA n g l dg x q m d k0 k1 k2=some (sea m):=by
 unfold dA;have:=ql n g l dg x q m d k0 k1 k2 21 0 rfl (λi hi=>absurd hi (by omega)) n (by omega);rw [show ((21+0:Nat):Int)=21 from rfl] at this;rw [this];by_cases h:sea m=0
 ·rw [ad h,h];rfl
 ·rw [ab h];rfl
def agr (s:aa) (k:Nat):Bool:=match s with
 | [a,b]=>(a==88||a==UInt8.ofNat (48+k / 10))&&(b==88||b==UInt8.ofNat (48+k%10))
 | _=>false
def cX (s:aa) (g:Nat):Bool:=(List.range g).any λi=>agr s (i+1)
theorem E2 {X Y:Type} {step:X->Option (X⊕Y)} {f:Nat->X} {p:Nat->Bool} {g:Nat} {a c:Y} (h:∀k,1<=k->k<=g->step (f k)=some (if p k then .inr a else .inl (f (k+1)))) (m:step (f (g+1))=some (.inr c)) {N:Nat} (d:g<N):
  aw step N (f 1)=some (if (List.range g).any (λi=>p (i+1)) then a else c):=by
 have l:∀(r j:Nat),j+r=g->(∀i,i<j->p (i+1)=false)->∀N,r<N->aw step N (f (j+1))=some (if (List.range g).any (λi=>p (i+1)) then a else c):=by
  intro r
  induction r with
  | zero=>
   intro j n b N d;obtain ⟨N,rfl⟩:∃k,N=k+1:=⟨N - 1,by omega⟩;have:(List.range g).any (λi=>p (i+1))=false:=by
    rw [nQ];intro i hi;rw [b i (by have:=jZ.1 hi;omega)];simp
   rw [aw,show j+1=g+1 by omega,m,this];rfl
  | succ r ih=>
   intro j n b N d;obtain ⟨N,rfl⟩:∃k,N=k+1:=⟨N - 1,by omega⟩;rw [aw,h (j+1) (by omega) (by omega)];cases e:p (j+1) with
   | true=>
    have:(List.range g).any (λi=>p (i+1))=true:=mC.2 ⟨j,jZ.2 (by omega),e⟩;rw [this];rfl
   | false=>
    exact ih (j+1) (by omega) (λi hi=>by
     rcases aA i j with h | h
     ·exact b i h
     ·have:i=j:=by omega
      rw [this];exact e) N (by omega)
 exact l g 0 (by omega) (λi hi=>absurd hi (by omega)) N d
theorem sO {a:UInt8} {k:Nat} (b:k<256):((((a.toNat:Nat):Int))==((k:Nat):Int))=(a==UInt8.ofNat k):=by
 have h:(UInt8.ofNat k).toNat=k:=by simp;omega
 rw [<-Gk,h]
theorem Ef (n:Nat) (a b:UInt8) {g k:Nat} (r:1<=k) (s:k<=g) (q:g<=31):
  bD n ([a,b],(g:Int),(k:Int))=some (if agr [a,b] k then .inr (.inl true) else .inl ([a,b],(g:Int),((k+1:Nat):Int))):=by
 have m:Int.tdiv (k:Int) 10=((k / 10:Nat):Int):=by
  rw [show (10:Int)=((10:Nat):Int) from rfl,<-Int.ofNat_tdiv]
 have o:Int.tmod (k:Int) 10=((k%10:Nat):Int):=by
  rw [show (10:Int)=((10:Nat):Int) from rfl,<-Int.ofNat_tmod]
 have h:IntKind.wrap .u8 (48+IntKind.wrap .u8 (IntKind.wrap .i64 (Int.tdiv (k:Int) 10)))=((48+k / 10:Nat):Int):=by
  rw [m,wrap_i64 _ (by omega) (by omega),fi ((k / 10:Nat):Int) (by omega) (by omega),fi _ (by omega) (by omega)];omega
 have l:IntKind.wrap .u8 (48+IntKind.wrap .u8 (Int.tmod (k:Int) 10))=((48+k%10:Nat):Int):=by
  rw [o,fi ((k%10:Nat):Int) (by omega) (by omega),fi _ (by omega) (by omega)];omega
 have d:IntKind.wrap .i64 ((k:Int)+1)=((k+1:Nat):Int):=by rw [wrap_i64 _ (by omega) (by omega)];omega
 have c:(88:Int)=((88:Nat):Int):=rfl;have s0:sx [a,b] 0=some a:=rfl;have e:sx [a,b] 1=some b:=rfl;unfold bD;rw [bA,ad (show (k:Int)<=(g:Int) by omega)];simp only [s0,e,ob,h,l,d];rw [c,sO (by omega),sO (by omega),sO (by omega),sO (by omega)];show _=some (if ((a==UInt8.ofNat 88||a==UInt8.ofNat (48+k / 10))&&(b==UInt8.ofNat 88||b==UInt8.ofNat (48+k%10)))=true then _ else _);generalize (a==UInt8.ofNat 88)=j;generalize (b==UInt8.ofNat 88)=f;generalize (a==UInt8.ofNat (48+k / 10))=i;generalize (b==UInt8.ofNat (48+k%10))=p;cases j<;>cases f<;>cases i<;>cases p<;>rfl
theorem uV (n:Nat) (m:100<n) (s:aa) (g:Nat) (e:g<=31):bB n s (g:Int)=some (cX s g):=by
 unfold bB;by_cases c:s.length=2
 ·obtain ⟨a,b,rfl⟩:∃a b,s=[a,b]:=by
   match s,c with
   | [a,b],_=>exact ⟨a,b,rfl⟩
  have l:bD n ([a,b],(g:Int),((g+1:Nat):Int))=some (.inr (.inr ())):=by
   unfold bD;rw [bA,ab (show ¬((g+1:Nat):Int)<=(g:Int) by omega)]
  have:=E2 (f:=λk=>([a,b],(g:Int),((k:Nat):Int))) (p:=agr [a,b]) (g:=g) (N:=n) (λk d j=>Ef n a b d j e) l (by omega);show ob (aw (bD n) n ([a,b],(g:Int),((1:Nat):Int))) _=_;rw [this];unfold cX;split<;>simp_all [ob]
 ·rw [show (((s.length:Nat):Int) != 2)=true by simp;omega];have:cX s g=false:=by
   unfold cX;rw [nQ];intro i _
   match s,c with
   | [],_=>simp [agr]
   | [_],_=>simp [agr]
   | [_,_],h=>exact absurd rfl h
   | _::_::_::_,_=>simp [agr]
  rw [this];rfl
theorem qh (n:Nat) {a b:Int} (v:1<b) (m:b<1000) (w:-4611686018427387904<=a) (s:a<4611686018427387904):g9 n a b=some (a / b,0):=by
 have p:(b==0)=false:=by simp;omega
 have r:(b==-1)=false:=by simp;omega
 unfold g9;simp only [p,r,af];have x:a / b*b+a%b=a:=Int.ediv_mul_add_emod a b;have u:=Int.emod_nonneg a (show b≠0 by omega);have k:=Int.emod_lt_of_pos a (show 0<b by omega);have o:-4611686018427387904<=a / b:=by
  rw [Int.le_ediv_iff_mul_le (by omega)];have:(-4611686018427387904:Int)*b<=-4611686018427387904*1:=Int.mul_le_mul_of_nonpos_left (by omega) (by omega);omega
 have q:a / b<4611686018427387904:=by
  rw [Int.ediv_lt_iff_lt_mul (by omega)];have:(4611686018427387904:Int)*1<=4611686018427387904*b:=Int.mul_le_mul_of_nonneg_left (by omega) (by omega);omega
 by_cases g:0<=a
 ·have d:Int.tdiv a b=a / b:=Gw g;have e:decide (a<0)=false:=by simp;omega
  have i:decide (b<0)=false:=by simp;omega
  rw [d,e,i,wrap_i64 (a / b) (by omega) (by omega)];cases (Int.tmod a b != 0)<;>rfl
 ·have e:decide (a<0)=true:=by simp;omega
  have i:decide (b<0)=false:=by simp;omega
  have d:=Int.tdiv_eq_ediv (a:=a) (b:=b);have j:=Int.tmod_eq_emod (a:=a) (b:=b);rw [e,i];by_cases c:b∣a
  ·have f:Int.tmod a b=0:=by
    rw [j,ad (.inr c)];have:=Int.emod_eq_zero_of_dvd c;omega
   rw [f,d,ad (.inr c)];rw [Int.add_zero,wrap_i64 (a / b) (by omega) (by omega)];rfl
  ·have t:a%b≠0:=λh=>c (Gx h);have f:(Int.tmod a b != 0)=true:=by
    rw [j,ab (by rintro (h | h);exact g h;exact c h)];simp;omega
   have l:b.sign=1:=Int.sign_eq_one_of_pos (by omega);rw [f,d,ab (by rintro (h | h);exact g h;exact c h),l];rw [wrap_i64 (a / b+1) (by omega) (by omega),Int.add_sub_cancel,wrap_i64 (a / b) (by omega) (by omega)];rfl
theorem IK (n:Nat) {a b:Int} (p:1<b) (m:b<1000):pN n a b=some (a%b,0):=by
 have j:(b==0)=false:=by simp;omega
 have f:(b==-1)=false:=by simp;omega
 unfold pN;simp only [j,f,af];have o:=Int.emod_nonneg a (show b≠0 by omega);have g:=Int.emod_lt_of_pos a (show 0<b by omega);have c:=Int.tmod_eq_emod (a:=a) (b:=b);have e:decide (b<0)=false:=by simp;omega
 by_cases hc:0<=a\/b∣a
 ·rw [ad hc] at c;have:Int.tmod a b=a%b:=by omega
  rw [this,e];have d:decide (a%b<0)=false:=by simp;omega
  rw [d];cases h:(a%b != 0)
  ·rfl
  ·rfl
 ·rw [ab hc] at c;have k:(b.natAbs:Int)=b:=by omega
  rw [k] at c;have l:a%b≠0:=λh=>hc (.inr (Gx h));have i:(Int.tmod a b != 0)=true:=by simp;omega
  have d:decide (Int.tmod a b<0)=true:=by simp;omega
  rw [i,d,e,c,wrap_i64 _ (by omega) (by omega),vN];rfl
def bL (y:Int):Prop:=-10000000000000000<=y/\y<=10000000000000000
instance (y:Int):Decidable (bL y):=by unfold bL;infer_instance
theorem cO (n:Nat) (y:Int):dP n y=some (if bL y then 0 else 6):=by
 unfold dP;rw [bA,bA];by_cases a:y < -10000000000000000
 ·rw [ad a,ab (show ¬bL y by unfold bL;omega)]
 ·by_cases b:y>10000000000000000
  ·rw [ab a,ad b,ab (show ¬bL y by unfold bL;omega)]
  ·rw [ab a,ab b,ad (show bL y by unfold bL;omega)]
theorem mS (n:Nat) {y:Int} (h:-20000000000000000<=y/\y<=20000000000000000):∃z,cN n y=some z:=by
 unfold cN;rw [wrap_i64 (y - 1) (by omega) (by omega),qh n (by omega) (by omega) (by omega) (by omega),qh n (by omega) (by omega) (by omega) (by omega),qh n (by omega) (by omega) (by omega) (by omega)];exact ⟨_,rfl⟩
theorem Cj (n:Nat) {y:Int} (h:bL y):∃b e,fX n y=some (b,e):=by
 unfold fX;have h':=h;unfold bL at h';obtain ⟨d,a⟩:=mS n (y:=y+1) (by omega);obtain ⟨f,c⟩:=mS n (y:=y) (by omega);rw [cO,ad h,wrap_i64 (y+1) (by omega) (by omega),a,c];exact ⟨_,_,rfl⟩
theorem nl (n:Nat) {y:Int} (h:bL y) {m:Nat} (d:1<=m) (c:m<=12):∃v,cj n y (m:Int)=some v:=by
 unfold cj;obtain ⟨b,e,a⟩:=Cj n h;rw [a];show ∃v,cond (b&&((m:Int)==2)) _ _=some v;cases (b&&((m:Int)==2)) with
 | true=>exact ⟨_,rfl⟩
 | false=>
  have:IntKind.wrap .i64 ((m:Int) - 1)=((m - 1:Nat):Int):=by rw [wrap_i64 _ (by omega) (by omega)];omega
  rw [this,gj (by omega)];have a:pT.length=12:=rfl;exact ⟨_,cn (show m - 1<pT.length by omega)⟩
theorem ze (n:Nat) {y:Int} (h:bL y) {m:Nat} (b:1<=m) (a:m<=12):fP n y (m:Int)=some 0:=by
 unfold fP;rw [cO,ad h];show cond (decide ((m:Int)<1)) _ _=_;rw [bA,bA,ab (by omega),ab (by omega)]
theorem zy (n:Nat) {y:Int} (h:bL y) {m:Nat} (e:m<=11):∀(r j:Nat),j+r=m->∀(a:Int) (N:Nat),r<N->∃v,aw (aV n) N (y,a,(m:Int),(j:Int))=some v:=by
 intro r
 induction r with
 | zero=>
  intro j d a N c;obtain ⟨N,rfl⟩:∃k,N=k+1:=⟨N - 1,by omega⟩;have:aV n (y,a,(m:Int),(j:Int))=some (.inr a):=by
   unfold aV;rw [bA,ab (show ¬((j:Int)<(m:Int)) by omega)]
  rw [aw,this];exact ⟨_,rfl⟩
 | succ r ih=>
  intro j d a N c;obtain ⟨N,rfl⟩:∃k,N=k+1:=⟨N - 1,by omega⟩;obtain ⟨v,b⟩:=nl n h (m:=j+1) (by omega) (by omega);have w:IntKind.wrap .i64 ((j:Int)+1)=((j+1:Nat):Int):=by rw [wrap_i64 _ (by omega) (by omega)];omega
  have:aV n (y,a,(m:Int),(j:Int))=some (.inl (y,IntKind.wrap .i64 (a+v),(m:Int),((j+1:Nat):Int))):=by
   unfold aV;rw [bA,ad (show ((j:Int)<(m:Int)) by omega)];simp only [w,b,ob]
  rw [aw,this];exact ih (j+1) (by omega) _ N (by omega)
theorem Ap (n:Nat) (d:100<n) {y:Int} (h:bL y) {m:Nat} (c:1<=m) (a:m<=12):∃v,cP n y (m:Int)=some (v,0):=by
 unfold cP gN dS;have h':=h;unfold bL at h';obtain ⟨z,e⟩:=mS n (y:=y) (by omega);have w:IntKind.wrap .i64 ((m:Int) - 1)=((m - 1:Nat):Int):=by rw [wrap_i64 _ (by omega) (by omega)];omega
 rw [ze n h c a,cO,ad h,e,w];obtain ⟨v,b⟩:=zy n h (m:=m - 1) (by omega) (m - 1) 0 (by omega) (IntKind.wrap .i64 (IntKind.wrap .i64 (365*y)+z)) n (by omega);refine ⟨v,?_⟩;show ob (aw (aV n) n (y,IntKind.wrap .i64 (IntKind.wrap .i64 (365*y)+z),((m - 1:Nat):Int),((0:Nat):Int))) _=_;rw [b];rfl
theorem madd (n:Nat) {y:Int} (h:bL y) {m c:Nat} (j:1<=m) (o:m<=12) (hc:1<=c) (k:c<=6):kb n y (m:Int) (IntKind.wrap .i64 ((c:Int) - 1)) =
  some (if 12<m+c - 1 then (if y=10000000000000000 then (0,0,6) else (y+1,((m+c - 1 - 12:Nat):Int),0)) else (y,((m+c - 1:Nat):Int),0)):=by
 have h':=h;unfold bL at h';unfold kb;rw [ze n h j o,wrap_i64 (12*y) (by omega) (by omega),wrap_i64 ((m:Int) - 1) (by omega) (by omega),wrap_i64 (12*y+((m:Int) - 1)) (by omega) (by omega),wrap_i64 ((c:Int) - 1) (by omega) (by omega)];have l:fM n (12*y+((m:Int) - 1)) ((c:Int) - 1)=some (12*y+((m:Int) - 1)+((c:Int) - 1),0):=by
  unfold fM;rw [wrap_i64 (12*y+((m:Int) - 1)+((c:Int) - 1)) (by omega) (by omega),hO];by_cases b:(c:Int) - 1=0
  ·rw [ad b];have a:decide (12*y+((m:Int) - 1)>12*y+((m:Int) - 1))=false:=by simp
   have f:decide ((c:Int) - 1>0)=false:=by simp;omega
   rw [a,f,b,Int.add_zero];rfl
  ·rw [ab b];have a:decide (12*y+((m:Int) - 1)+((c:Int) - 1)>12*y+((m:Int) - 1))=true:=by simp;omega
   have f:decide ((c:Int) - 1>0)=true:=by simp;omega
   rw [a,f];rfl
 simp only [ob,l,fh,af];rw [qh n (by omega) (by omega) (by omega) (by omega),IK n (by omega) (by omega)];simp only [cO];by_cases i:12<m+c - 1
 ·have e:(12*y+((m:Int) - 1)+((c:Int) - 1)) / 12=y+1:=by omega
  have d:(12*y+((m:Int) - 1)+((c:Int) - 1))%12=((m+c - 1 - 12:Nat):Int) - 1:=by omega
  rw [e,d,ad i];by_cases g:y=10000000000000000
  ·rw [ad g,ab (show ¬bL (y+1) by unfold bL;omega)];rfl
  ·rw [ab g,ad (show bL (y+1) by unfold bL;omega),wrap_i64 (((m+c - 1 - 12:Nat):Int) - 1+1) (by omega) (by omega),vN];rfl
 ·have e:(12*y+((m:Int) - 1)+((c:Int) - 1)) / 12=y:=by omega
  have d:(12*y+((m:Int) - 1)+((c:Int) - 1))%12=((m+c - 1:Nat):Int) - 1:=by omega
  rw [e,d,ab i,ad h,wrap_i64 (((m+c - 1:Nat):Int) - 1+1) (by omega) (by omega),vN];rfl
theorem yD {j:Nat} (l:j<21):∃m c:Nat,jL[j]?=some ((m:Int),(c:Int))/\1<=m/\m<=12/\1<=c/\c<=6/\(12<m+c - 1↔j=3\/j=7\/j=9):=by
 have:((List.range 21).all λj=>match jL[j]? with
  | some (m,c)=>decide (0<=m)&&decide (0<=c)&&decide (1<=m.toNat)&&decide (m.toNat<=12)&&decide (1<=c.toNat)&&decide (c.toNat<=6)&&(decide (12<m.toNat+c.toNat - 1)==decide (j=3\/j=7\/j=9))
  | none=>false)=true:=by decide +kernel
 have h:=(bz.1 this) j (by simpa using l);split at h
 ·rename_i m c e;simp only [av,bY,bu,oL] at h;obtain ⟨⟨⟨⟨⟨⟨b,i⟩,a⟩,g⟩,f⟩,d⟩,k⟩:=h;exact ⟨m.toNat,c.toNat,by rw [e,Int.toNat_of_nonneg b,Int.toNat_of_nonneg i],a,g,f,d,k⟩
 ·cases h
theorem Ja (n:Nat) (o:100<n) {y:Int} (h:bL y) {j:Nat} (z:j<21):
  ∃a b c d,dO n y ((21+j:Nat):Int)=some (a,b,c,d,if y=10000000000000000/\(j=3\/j=7\/j=9) then 6 else 0):=by
 obtain ⟨m,c,e,r,w,A,C,s⟩:=yD z;have D:cQ n ((21+j:Nat):Int)=some ((m:Int),(c:Int),0):=by
  unfold cQ bN;rw [bA,bA,ab (by omega),ab (by omega)];have:IntKind.wrap .i64 (((21+j:Nat):Int) - 21)=(j:Int):=by rw [wrap_i64 _ (by omega) (by omega)];omega
  rw [this,gj z];show ob (jL[j]?) _=_;rw [e];rfl
 obtain ⟨v,B⟩:=Ap n o h r w;unfold dO;rw [D];show ∃a b c d,ob (cP n y (m:Int)) _=_;rw [B];show ∃a b t d,ob (kb n y (m:Int) (IntKind.wrap .i64 ((c:Int) - 1))) _=_;rw [madd n h r w A C];have h':=h;unfold bL at h';by_cases k:12<m+c - 1
 ·rw [ad k];by_cases i:y=10000000000000000
  ·rw [ad i,ad ⟨i,s.1 k⟩];exact ⟨_,_,_,_,rfl⟩
  ·rw [ab i,ab (λx=>i x.1)];have g:bL (y+1):=by unfold bL;omega
   obtain ⟨l,f⟩:=Ap n o g (m:=m+c - 1 - 12) (by omega) (by omega);obtain ⟨u,q⟩:=nl n g (m:=m+c - 1 - 12) (by omega) (by omega);have p:dE n (y+1) ((m+c - 1 - 12:Nat):Int)=some (IntKind.wrap .i64 (IntKind.wrap .i64 (l+u) - 1),0):=by
    unfold dE;rw [f,q];rfl
   show ∃a b t d,ob (dE n (y+1) ((m+c - 1 - 12:Nat):Int)) _=_;rw [p];exact ⟨_,_,_,_,rfl⟩
 ·rw [ab k,ab (λx=>k (s.2 x.2))];obtain ⟨l,f⟩:=Ap n o h (m:=m+c - 1) (by omega) (by omega);obtain ⟨u,q⟩:=nl n h (m:=m+c - 1) (by omega) (by omega);have p:dE n y ((m+c - 1:Nat):Int)=some (IntKind.wrap .i64 (IntKind.wrap .i64 (l+u) - 1),0):=by
   unfold dE;rw [f,q];rfl
  show ∃a b t d,ob (dE n y ((m+c - 1:Nat):Int)) _=_;rw [p];exact ⟨_,_,_,_,rfl⟩
def hasB (set:aa) (c:UInt8):Bool:=set.any λd=>d==c
theorem n8 (set:aa) (c:UInt8):(decide (Lib.indexByte set c<0))=!hasB set c:=by
 induction set with
 | nil=>simp [Lib.indexByte,hasB]
 | cons d l ih=>
  have e:=Lib.indexByte_ge l c;simp only [hasB,List.any_cons] at ih ⊢;unfold Lib.indexByte;by_cases h:d=c
  ·simp [h]
  ·have f:(d==c)=false:=by simpa using h
   simp only [f,bT,aE,xH];rw [<-ih];by_cases b:Lib.indexByte l c=-1
   ·simp [b]
   ·have a:(Lib.indexByte l c==-1)=false:=by simpa using b
    simp only [a,bT,aE];have:¬Lib.indexByte l c+1<0:=by omega
    have:¬Lib.indexByte l c<0:=by omega
    simp [*]
theorem oh (set:aa) (c:UInt8):(decide (Lib.indexByte set c>=0))=hasB set c:=by
 have:=n8 set c;by_cases h:Lib.indexByte set c<0
 ·have a:¬Lib.indexByte set c>=0:=by omega
  simp only [h,a,kA,kP] at this ⊢;revert this;cases hasB set c<;>simp
 ·have a:Lib.indexByte set c>=0:=by omega
  simp only [h,a,kA,kP] at this ⊢;revert this;cases hasB set c<;>simp
theorem iN (n:Nat) (set:aa) (c:UInt8):bI n set ((c.toNat:Nat):Int)=some (Lib.indexByte set c):=by
 simp only [bI,bv,ob,J2]
def asc (l:aa):Prop:=∀c∈l,c.toNat<128
theorem B2 (r:Int) (h:128<=r):∃p e,(Utf8.encode r).data.toList=p++[e]/\1<=p.length/\p.length<=3/\128<=e.toNat:=by
 unfold Utf8.encode;have hc:128<=(if Utf8.valid r then r.toNat else Utf8.runeError):=by
  split
  ·omega
  ·decide
 generalize (if Utf8.valid r then r.toNat else Utf8.runeError)=c at hc;have a:128<=(UInt8.ofNat (0x80+c%64)).toNat:=by
  simp only [wN];omega
 simp only;split
 ·omega
 ·split
  ·exact ⟨[_],_,rfl,by simp,by simp,a⟩
  ·split
   ·exact ⟨[_,_],_,rfl,by simp,by simp,a⟩
   ·exact ⟨[_,_,_],_,rfl,by simp,by simp,a⟩
theorem AK {l:aa} (h:asc l) {i:Nat} {c:UInt8} (hi:l[i]?=some c):c.toNat<128:=h c (gD hi)
theorem wn (n:Nat) (set:aa) (h:asc set) (e:set.length<n):aw (bS n) n (set,0)=some (.inr ()):=by
 refine eO (step:=bS n) (λx=>x.1=set) (λx=>set.length - x.2) (λx=>.inr ()) ?_ n _ rfl (by simp;omega);rintro ⟨s,i⟩ rfl;simp only [bS];by_cases hi:i<s.length
 ·have b:Nat.blt i s.length=true:=cZ hi;obtain ⟨c,hc⟩:∃c,s[i]?=some c:=⟨s[i],cn hi⟩;have a:=AK h hc;have d:(((c.toNat:Nat):Int)==65533)=false:=by rw [bW];omega
  simp only [b,ar,xi hc a,d,af];exact .inl ⟨_,rfl,rfl,by simp only;omega,trivial⟩
 ·have b:Nat.blt i s.length=false:=by
   cases b:Nat.blt i s.length with
   | false=>rfl
   | true=>exact absurd (ax b) (by omega)
  simp only [b,af];exact .inr trivial
theorem se {l:aa} {c:UInt8} (h:c∉l):Lib.indexByte l c<0:=by
 have b:=n8 l c;have e:hasB l c=false:=by
  unfold hasB;rw [nQ];intro x d a;simp only [bu] at a;exact h (a▸d)
 rw [e] at b;simpa using b
theorem vg (n:Nat) (set:aa) (h:asc set) (w:set.length<n) (E:set.length<=100) (r:Int) (o:128<=r):cc n set r=some (-1):=by
 have C:decide ((0:Int)<=r)=true:=az (by omega);have B:decide (r<128)=false:=ay (by omega);simp only [cc,C,B,ar,af];by_cases d:r=65533
 ·have:(r==65533)=true:=bu.2 d;simp only [this,ar,wn n set h w,ob]
 ·have:(r==65533)=false:=bW.2 d;simp only [this,af];obtain ⟨v,z⟩:∃v,bZ n r=some v:=by
   unfold bZ;generalize decide ((0:Int)<=r)=u;generalize decide (r<55296)=D;generalize decide ((57343:Int)<r)=x;generalize decide (r<=1114111)=d4;cases u<;>cases D<;>cases x<;>cases d4<;>exact ⟨_,rfl⟩
  simp only [z,ob];cases v with
  | false=>rfl
  | true=>
   simp only [dJ,af];obtain ⟨p,e,A,q,s,F⟩:=B2 r o;simp only [A];have l:IntKind.wrap .i64 (((p++[e]).length:Nat) - 1:Int)=(p.length:Int):=by
    rw [wrap_i64 _ (by simp<;>omega) (by simp<;>omega)];simp
   rw [l];obtain ⟨m,rfl⟩:∃m,n=m+1:=⟨n - 1,by omega⟩;have a:bP (m+1) (set,p++[e],(p.length:Int),(p.length:Int))=some (.inr (.inl (-1)))\/bP (m+1) (set,p++[e],(p.length:Int),(p.length:Int))=some (.inr (.inr ())):=by
    simp only [bP,jh];by_cases j:p.length<set.length
    ·obtain ⟨c,hc⟩:∃c,set[p.length]?=some c:=⟨set[p.length],cn j⟩;have k:=AK h hc;have i:(p++[e])[p.length]?=some e:=by simp
     have f:(((c.toNat:Nat):Int) != ((e.toNat:Nat):Int))=true:=by simp only [bne,kj,bW];omega
     have g:IntKind.wrap .i64 ((p.length:Int)+1)=((p.length+1:Nat):Int):=by rw [wrap_i64 _ (by omega) (by omega)];omega
     have y:e∉List.drop (p.length+1) (List.take set.length set):=by
      intro t;have:=h e (by simpa using List.mem_of_mem_drop t);omega
     left;simp only [j,kA,ar,jI hc,jI i,ob,f,g,fC (show p.length+1<=set.length by omega),iN,se y]
    ·right;simp only [j,kP,af]
   rcases a with b | b<;>simp only [aw,b,ob]
theorem sj (n:Nat) (set:aa) (c:UInt8) (r:Int) (b:r=((c.toNat:Nat):Int)) (hc:c.toNat<128):cc n set r=some (Lib.indexByte set c):=by
 have f:decide ((0:Int)<=r)=true:=az (by omega);have d:decide (r<128)=true:=az (by omega);have a:IntKind.wrap .u8 r=r:=fi _ (by omega) (by omega);have e:bI n set r=some (Lib.indexByte set c):=by rw [b];exact iN n set c
 simp only [cc,f,d,ar,a,e,ob]
theorem uD (n:Nat) (set:aa) (c:UInt8) (hc:c.toNat<128):cc n set ((c.toNat:Nat):Int)=some (Lib.indexByte set c):=sj n set c _ rfl hc
theorem pG (n:Nat) (set:aa) (c:UInt8) (hc:c.toNat<128):bQ n set ((c.toNat:Nat):Int)=some (hasB set c):=by
 simp only [bQ,uD n set c hc,ob,oh]
theorem qQ (n:Nat) (set:aa) (h:asc set) (a:set.length<n) (c:set.length<=100) (r:Int) (b:128<=r):bQ n set r=some false:=by
 simp only [bQ,vg n set h a c r b,ob];rfl
theorem pK (x:Int) (a:0<=x) (b:x<65536):IntKind.wrap .u16 x=x:=by
 show x%65536=x;omega
theorem vf (w a:Nat):BitVec.ofInt w (a:Int)=BitVec.ofNat w a:=by
 apply BitVec.eq_of_toNat_eq;simp
theorem Hr (k:Nat):(2:Int) ^ k=((2 ^ k:Nat):Int):=by simp
theorem ET (a k:Nat):Int.fdiv (a:Int) (2 ^ k)=((a / 2 ^ k:Nat):Int):=by
 rw [Hr k,Int.fdiv_eq_ediv_of_nonneg _ (Int.natCast_nonneg _)];rfl
def inR (lo hi:Int) (c:UInt8):Bool:=decide (((c.toNat:Nat):Int)>=lo)&&decide (((c.toNat:Nat):Int)<=hi)
def cnt (lo hi:Int) (l:aa):Nat:=l.countP (inR lo hi)
theorem DN (lo hi:Int) (l:aa):cnt lo hi l<=l.length:=List.countP_le_length
theorem EX (lo hi:Int) {l:aa} {i:Nat} {c:UInt8} (h:l[i]?=some c):cnt lo hi (l.take (i+1))=cnt lo hi (l.take i)+if inR lo hi c then 1 else 0:=by
 unfold cnt;rw [m8,h,List.countP_append];simp [Cc]
theorem DU (n:Nat) (s:aa) (lo hi:Int) (m:s.length<n) (l:s.length<100000):en n s lo hi=some ((cnt lo hi s:Nat):Int):=by
 have:=eO (step:=dD n) (λx=>∃i:Nat,i<=s.length/\x=(s,lo,hi,((cnt lo hi (s.take i):Nat):Int),(i:Int))) (λx=>s.length - x.2.2.2.2.toNat) (λ_=>((cnt lo hi s:Nat):Int)) ?_ n (s,lo,hi,0,0) ⟨0,by omega,by simp [cnt]⟩ (by simp;omega)
 ·simp only [en,this,ob]
 rintro x ⟨i,h,rfl⟩;rcases aA i s.length with a | j
 ·obtain ⟨c,hc⟩:∃c,s[i]?=some c:=⟨s[i],cn a⟩;have e:=EX lo hi hc;have b:=DN lo hi (s.take i);rw [eH] at b;have g:IntKind.wrap .i64 ((i:Int)+1)=((i+1:Nat):Int):=by rw [wrap_i64 _ (by omega) (by omega)];omega
  have k:IntKind.wrap .i64 (((cnt lo hi (s.take i):Nat):Int)+1)=((cnt lo hi (s.take i)+1:Nat):Int):=by rw [wrap_i64 _ (by omega) (by omega)];omega
  refine .inl ⟨(s,lo,hi,((cnt lo hi (s.take (i+1)):Nat):Int),((i+1:Nat):Int)),?_,⟨i+1,a,rfl⟩,by simp only [bV];omega,rfl⟩;simp only [dD,jh,a,kA,ar,jI hc,ob,g,k];rw [e];by_cases d:((c.toNat:Nat):Int)>=lo
  ·by_cases f:((c.toNat:Nat):Int)<=hi
   ·simp [d,f,inR]
   ·simp [d,f,inR]
  ·simp [d,inR]
 ·have:i=s.length:=by omega
  subst this;refine .inr ?_;simp only [dD,jh,wy,kP,af,mZ]
theorem C5 (lo hi:Int) (l:aa):cnt lo hi l=l.length↔∀c∈l,inR lo hi c=true:=by
 unfold cnt;rw [List.countP_eq_length]
theorem D8 (lo hi:Int) (l:aa):cnt lo hi l=0↔∀c∈l,inR lo hi c=false:=by
 unfold cnt;rw [List.countP_eq_zero];simp
def bG (c:UInt8):Bool:=inR 48 57 c
theorem ec (c:UInt8):bG c=true↔48<=c.toNat/\c.toNat<=57:=by
 unfold bG inR;simp only [av,bY];omega
theorem ue (c:UInt8):inR 88 88 c=true↔c=88:=by
 unfold inR;simp only [av,bY];constructor
 ·intro h;apply gU.1;show c.toNat=88;omega
 ·rintro rfl;decide
theorem Du (c:UInt8):inR 48 48 c=true↔c=48:=by
 unfold inR;simp only [av,bY];constructor
 ·intro h;apply gU.1;show c.toNat=48;omega
 ·rintro rfl;decide
theorem CW:∀l:aa,cnt 48 57 l+cnt 88 88 l<=l.length/\(cnt 48 57 l+cnt 88 88 l=l.length↔∀c∈l,bG c=true\/c=88)
 | []=>by simp [cnt]
 | c::l=>by
  have ih:=CW l;have h:cnt 48 57 (c::l)=cnt 48 57 l+if inR 48 57 c then 1 else 0:=by simp [cnt,Cc]
  have g:cnt 88 88 (c::l)=cnt 88 88 l+if inR 88 88 c then 1 else 0:=by simp [cnt,Cc]
  have i:¬(inR 48 57 c=true/\inR 88 88 c=true):=by
   rintro ⟨a,b⟩;have:=(ec c).1 a;rw [(ue c).1 b] at this;exact absurd this.2 (by decide)
  rw [h,g,ci];simp only [cY,tG];have d:=ue c;have f:bG c=inR 48 57 c:=rfl;rw [f];cases a:inR 48 57 c<;>cases b:inR 88 88 c
  ·simp only [a,b] at d ⊢;have:c≠88:=λe=>by simpa using d.2 e
   simp [this];omega
  ·simp only [a,b] at d ⊢;have:c=88:=d.1 trivial;simp only [this,bT,aY,aE,false_or,kT];rw [<-ih.2];omega
  ·simp only [a,b] at d ⊢;simp only [bT,aY,aE,true_or,kT];rw [<-ih.2];omega
  ·exact absurd ⟨a,b⟩ i
theorem AN (n:Nat) (s set:aa) (o:asc set) (u:set.length<n) (v:set.length<=100) (z:s.length<n):
  ∃y,aw (bp n) n (true,set,s,0)=some y/\((y=.inr ()/\s.all (hasB set)=true)\/∃i:Nat,y=.inl (i:Int)/\s.all (hasB set)=false):=by
 refine kl (step:=bp n) (λx=>x.1=true/\x.2.1=set/\x.2.2.1=s/\s.all (hasB set)=(s.drop x.2.2.2).all (hasB set)) (λx=>s.length - x.2.2.2) _ ?_ n _ ⟨rfl,rfl,rfl,rfl⟩ (by simp only;omega);rintro ⟨b,st,t,p⟩ ⟨h,g,f,a⟩;simp only at h g f a;rw [h,g,f];clear h g f b st t;rcases aA p s.length with j | l
 ·obtain ⟨c,hc⟩:∃c,s[p]?=some c:=⟨s[p],cn j⟩;have e:Nat.blt p s.length=true:=cZ j;rw [gX hc,kg] at a;rcases aA c.toNat 128 with d | d
  ·have r:=xi hc d;simp only [bp,e,ar,fH,r,pG n set c d,ob];cases k:hasB set c with
   | true=>
    rw [k,qL] at a;exact .inl ⟨_,rfl,⟨rfl,rfl,rfl,a⟩,by simp only;omega⟩
   | false=>
    rw [k,DW] at a;exact .inr ⟨_,rfl,.inr ⟨p,rfl,a⟩⟩
  ·have r:=xX hc d;have k:hasB set c=false:=by
    unfold hasB;rw [nQ];intro x w q;simp only [bu] at q;have:=o x w;rw [q] at this;omega
   rw [k,DW] at a;have m:=qQ n set o u v (((dec s p).1:Nat):Int) (by omega);simp only [bp,e,ar,fH,m,ob];exact .inr ⟨_,rfl,.inr ⟨p,rfl,a⟩⟩
 ·have e:Nat.blt p s.length=false:=by
   cases h:Nat.blt p s.length with
   | false=>rfl
   | true=>exact absurd (ax h) (by omega)
  simp only [bp,e,af];rw [nv l] at a;exact .inr ⟨_,rfl,.inl ⟨rfl,by rw [a];rfl⟩⟩
theorem Bv (n:Nat) (s set:aa) (e:asc set) (c:set.length<n) (g:set.length<=100) (d:s.length<n):dq n s set=some (s.all (hasB set)):=by
 obtain ⟨y,b,f⟩:=AN n s set e c g d;simp only [dq,gQ,gV,b,ob];rcases f with ⟨rfl,a⟩ | ⟨i,rfl,a⟩
 ·rw [a];rfl
 ·rw [a];simp only [ae,ug];omega
theorem FM:asc [48,49,50,51,52,53,54,55,56,57]:=by unfold asc;decide
theorem Cb:asc [88,48,49,50,51,52,53,54,55,56,57]:=by unfold asc;decide
theorem wi (p:UInt8->Bool) (h:∀i:Fin 256,p (UInt8.ofNat i.val)=true) (c:UInt8):p c=true:=by
 have:=h ⟨c.toNat,c.toNat_lt⟩;simpa using this
theorem Dx (c:UInt8):hasB [48,49,50,51,52,53,54,55,56,57] c=bG c:=by
 have:=wi (λc=>hasB [48,49,50,51,52,53,54,55,56,57] c==bG c) (by decide +kernel) c;simpa using this
theorem Ai (c:UInt8):hasB [88,48,49,50,51,52,53,54,55,56,57] c=(bG c||c==88):=by
 have:=wi (λc=>hasB [88,48,49,50,51,52,53,54,55,56,57] c==(bG c||c==88)) (by decide +kernel) c;simpa using this
theorem AO (n:Nat) (s:aa) (b:100<n) (a:s.length<n):dq n s [48,49,50,51,52,53,54,55,56,57]=some (s.all bG):=by
 rw [Bv n s _ FM (by simp;omega) (by simp) a];congr 2;funext c;exact Dx c
theorem zu (n:Nat) (s:aa) (b:100<n) (a:s.length<n):dq n s [88,48,49,50,51,52,53,54,55,56,57]=some (s.all λc=>bG c||c==88):=by
 rw [Bv n s _ Cb (by simp;omega) (by simp) a];congr 2;funext c;exact Ai c
def all0 (s:aa):Bool:=s.all λc=>c==48
theorem KH (n:Nat) (s:aa) (k:s.length<n) (m:s.length<100000):∃y,de n s 48=some y/\all0 s=all0 y/\y.length<=s.length:=by
 obtain ⟨y,g,a⟩:=kl (step:=bJ n) (λx=>x.2=48/\all0 s=all0 x.1/\x.1.length<=s.length) (λx=>x.1.length) (λy=>all0 s=all0 y/\y.length<=s.length) (by
  rintro ⟨l,c⟩ ⟨rfl,h,b⟩;simp only at h b;by_cases o:l.length>0
  ·have d0:decide (((l.length:Nat):Int)>0)=true:=az (by omega);have j:IntKind.wrap .i64 (((l.length:Nat):Int) - 1)=((l.length - 1:Nat):Int):=by rw [wrap_i64 _ (by omega) (by omega)];omega
   obtain ⟨c,hc⟩:∃c,l[l.length - 1]?=some c:=⟨l[l.length - 1],cn (by omega)⟩;simp only [bJ,d0,ar,j,jI hc,ob];by_cases d:c=48
   ·have f:(((c.toNat:Nat):Int)==48)=true:=by rw [d];rfl
    simp only [f,ar,fC (show l.length - 1<=l.length by omega),ie];refine .inl ⟨(List.take (l.length - 1) l,48),rfl,⟨rfl,?_,by show (List.take (l.length - 1) l).length<=s.length;rw [eH];omega⟩,by show (List.take (l.length - 1) l).length<l.length;rw [eH];omega⟩;rw [h];have:l=l.take (l.length - 1)++[c]:=by
     have a:=m8 (l:=l) (i:=l.length - 1);rw [hc,show l.length - 1+1=l.length by omega,mZ] at a;exact a
    rw [this];simp only [all0,List.all_append,kg,List.all_nil,d];simp
   ·have f:(((c.toNat:Nat):Int)==48)=false:=by
     rw [bW];intro e;exact d (gU.1 (by show c.toNat=48;omega))
    simp only [f,af];exact .inr ⟨_,rfl,h,b⟩
  ·have d0:decide (((l.length:Nat):Int)>0)=false:=ay (by omega);simp only [bJ,d0,af];exact .inr ⟨_,rfl,h,b⟩) n (s,48) ⟨rfl,rfl,aL _⟩ k
 exact ⟨y,by simp only [de,g,ob],a⟩
theorem Kv (n:Nat) (s:aa) (j:s.length<n) (o:s.length<100000):∃y,dw n s 48=some y/\all0 s=(y==[]):=by
 obtain ⟨y,g,k⟩:=kl (step:=cL n) (λx=>x.2=48/\all0 s=all0 x.1/\x.1.length<=s.length) (λx=>x.1.length) (λy=>all0 s=(y==[])) (by
  rintro ⟨l,c⟩ ⟨rfl,h,f⟩;simp only at h f;cases l with
  | nil=>exact .inr ⟨[],rfl,by rw [h];rfl⟩
  | cons c l=>
   have d0:decide ((((c::l).length:Nat):Int)>0)=true:=az (by simp only [ci];omega);have hc:sx (c::l) 0=some c:=by simp [sx]
   simp only [cL,d0,ar,hc,ob];by_cases a:c=48
   ·have d:(((c.toNat:Nat):Int)==48)=true:=by rw [a];rfl
    have b:bx (c::l).length 1=some 1:=fC (i:=1) (by simp);simp only [d,ar,b,mZ,sZ,ie];refine .inl ⟨_,rfl,⟨rfl,?_,by show l.length<=s.length;simp only [ci] at f;omega⟩,by simp⟩;rw [h];simp [all0,a]
   ·have d:(((c.toNat:Nat):Int)==48)=false:=by
     rw [bW];intro e;exact a (gU.1 (by show c.toNat=48;omega))
    simp only [d,af];refine .inr ⟨_,rfl,?_⟩;rw [h];have m:(c==48)=false:=bW.2 a;simp [all0,m]) n (s,48) ⟨rfl,rfl,aL _⟩ j
 exact ⟨y,by simp only [dw,g,ob],k⟩
theorem H3 (n:Nat) (s:aa) (e:s.length<n) (c:s.length<100000):∃y,jJ n s=some y/\(y==[])=all0 s:=by
 unfold jJ;by_cases h:s=[]
 ·subst h;exact ⟨[],rfl,rfl⟩
 ·have:(s==([]:aa))=false:=bW.2 h;obtain ⟨y,a,f,g⟩:=KH n s e c;obtain ⟨z,d,b⟩:=Kv n y (by omega) (by omega);exact ⟨z,by simp only [this,af,a,d,ob],by rw [f,b]⟩
theorem ER (s:aa):all0 s=true↔cnt 48 48 s=s.length:=by
 rw [C5];unfold all0;rw [bz];constructor
 ·intro h c hc;have:=h c hc;rw [bu] at this;exact (Du c).2 this
 ·intro h c hc;rw [bu];exact (Du c).1 (h c hc)
def hasX (s:aa):Bool:=s.any λc=>c==88
theorem FB (s:aa):hasX s=decide (0<cnt 88 88 s):=by
 have:=D8 88 88 s;unfold hasX;cases h:s.any λc=>c==88 with
 | true=>
  obtain ⟨c,hc,b⟩:=mC.1 h;rw [bu] at b;symm;rw [bY];rcases uz (cnt 88 88 s) with a | a
  ·have:=this.1 a c hc;rw [(ue c).2 b] at this;cases this
  ·exact a
 | false=>
  symm;rw [ug];intro a;have:cnt 88 88 s=0:=this.2 λc hc=>by
   cases d:inR 88 88 c with
   | false=>rfl
   | true=>
    rw [nQ] at h;exact absurd (bu.2 ((ue c).1 d)) (h c hc)
  omega
theorem vW (n:Nat) (s:aa):ed n s=some (hasX s):=by
 have e:UInt8.ofNat (Int.toNat 88)=(88:UInt8):=rfl;have hi:iW n s=some (Lib.indexByte s 88):=by
  simp only [iW,eQ,bv,ob,e];by_cases h:([88]:aa)=s
  ·subst h;rfl
  ·have:(([88]:aa)==s)=false:=bW.2 h;simp only [this,af]
 simp only [ed,hi,ob,oh];rfl
theorem nE (n:Nat) (g l:Bool) (d:aa) (x q:Int):bm n g l d x q=some (hasX d):=by
 simp only [bm,vW,ob]
def pF (a:Nat) (c:UInt8):Nat:=a*10+(c.toNat - 48)
def dval (a:Nat) (l:aa):Nat:=l.foldl pF a
theorem kG (a:Nat):dval a []=a:=by unfold dval;rw [ye]
theorem kq (a:Nat) (c:UInt8) (l:aa):dval a (c::l)=dval (pF a c) l:=by
 unfold dval;rw [pd]
theorem yn (l:aa) (a:Nat) (c:UInt8):dval a (l++[c])=dval a l*10+(c.toNat - 48):=by
 have:dval a (l++[c])=pF (dval a l) c:=by
  unfold dval;rw [yJ,pd,ye]
 rw [this];rfl
theorem Ii (M:Nat) (j:10000000000000000000<=M) (l:aa):∀(a k:Nat),(∀c∈l,bG c=true)->a<10 ^ k->l.length+k<=18->Lib.parseUintM M a l=.ok (dval a l)/\dval a l<10 ^ (l.length+k):=by
 induction l with
 | nil=>
  intro a k _ e _;rw [kG];refine ⟨rfl,?_⟩;simpa using e
 | cons c l ih=>
  intro a k h e g;have hc:=(ec c).1 (h c (by simp));simp only [ci] at g;have m:(10:Nat) ^ (k+1)=10 ^ k*10:=oY 10 k;have f:(10:Nat) ^ (k+1)<=10 ^ 18:=iE (by decide) (by omega);have i:(10:Nat) ^ 18=1000000000000000000:=by decide
  have b:pF a c=a*10+(c.toNat - 48):=rfl;have ih:=ih (pF a c) (k+1) (λd b=>h d (by simp [b])) (by omega) (by omega);refine ⟨?_,?_⟩
  ·simp only [Lib.parseUintM];rw [ad hc,ab (by omega),ab (by omega),<-b,ih.1,kq]
  ·rw [kq,ci,show l.length+1+k=l.length+(k+1) by omega];exact ih.2
theorem zV {l:aa} (h:∀c∈l,bG c=true) (b:l≠[]) (m:l.length<=18):rF l=some ((dval 0 l:Nat):Int)/\dval 0 l<10 ^ l.length:=by
 obtain ⟨e,d⟩:=Ii (2 ^ 64 - 1) (by decide) l 0 0 h (by simp) (by omega);refine ⟨?_,by simpa using d⟩;have i:dval 0 l<10 ^ 18:=jQ d (iE (by decide) (by omega));cases l with
 | nil=>exact absurd rfl b
 | cons c r=>
  have hc:=(ec c).1 (h c (by simp));have j:Lib.parseUintB 64 (c::r)=.ok (dval 0 (c::r)):=by
   unfold Lib.parseUintB;rw [ab b,e]
  have g:¬(c.toNat=43\/c.toNat=45):=by omega
  simp only [rF,Lib.parseIntB,g,aE,j];have k:(10:Nat) ^ 18=1000000000000000000:=by decide
  have a:(2:Nat) ^ (64 - 1)=9223372036854775808:=by decide
  have f:¬c.toNat=45:=by omega
  simp only [f,wM,kT,false_and,aE];rw [a,ab (by omega)]
theorem D9 (n k:Nat) (l:k<=18) (j:18<n):kw n (k:Int)=some (((10 ^ k:Nat):Int),0):=by
 have h:(10:Nat) ^ 18=1000000000000000000:=by decide
 have:=eO (step:=fZ n) (λx=>∃i:Nat,i<=k/\x=(((10 ^ i:Nat):Int),(k:Int),(i:Int))) (λx=>k - x.2.2.toNat) (λ_=>((10 ^ k:Nat):Int)) (by
  rintro x ⟨i,hi,rfl⟩;rcases aA i k with a | f
  ·have c:(10:Nat) ^ (i+1)<=10 ^ 18:=iE (by decide) (by omega);have m:(10:Nat) ^ (i+1)=10 ^ i*10:=oY 10 i;have d:IntKind.wrap .i64 (((10 ^ i:Nat):Int)*10)=((10 ^ (i+1):Nat):Int):=by rw [wrap_i64 _ (by omega) (by omega)];omega
   have g:IntKind.wrap .i64 ((i:Int)+1)=((i+1:Nat):Int):=by rw [wrap_i64 _ (by omega) (by omega)];omega
   refine .inl ⟨_,?_,⟨i+1,a,rfl⟩,by simp only [bV];omega,rfl⟩;simp only [fZ,jh,a,kA,ar,d,g]
  ·have:i=k:=by omega
   subst this;refine .inr ?_;simp only [fZ,jh,wy,kP,af]) n (1,(k:Int),0) ⟨0,by omega,rfl⟩ (by simp;omega)
 have b:decide ((k:Int)<0)=false:=ay (by omega);have e:decide ((k:Int)>18)=false:=ay (by omega);simp only [kw,b,e,af,this,ob]
theorem gp (x:Int) (a:0<=x) (b:x<18446744073709551616):IntKind.wrap .u64 x=x:=by
 show x%18446744073709551616=x;omega
theorem xd (x:Int):IntKind.wrap .u64 x=x%18446744073709551616:=rfl
theorem Ci {a:Nat} (b:a<18446744073709551616):bits .and .u64 (a:Int) 4294967295=((a%4294967296:Nat):Int):=by
 show IntKind.wrap .u64 ((BitVec.ofInt 64 (a:Int) &&& BitVec.ofInt 64 ((4294967295:Nat):Int)).toNat:Int)=_;rw [vf,vf,BitVec.toNat_and,BitVec.toNat_ofNat,BitVec.toNat_ofNat,nh (show a<2 ^ 64 from b),nh (by decide)];have:=Nat.and_two_pow_sub_one_eq_mod a 32;rw [show (2:Nat) ^ 32 - 1=4294967295 from by decide,show (2:Nat) ^ 32=4294967296 from by decide] at this;rw [this];exact gp _ (by omega) (by omega)
theorem E5 (a:Nat):Int.fdiv (a:Int) (2 ^ 32)=((a / 4294967296:Nat):Int):=by
 rw [ET]
theorem zi {a b A B:Nat} (c:a<=A) (d:b<=B):a*b<=A*B:=qY c d
theorem Bm (a b:Nat):a*b=(a / 4294967296)*(b / 4294967296)*18446744073709551616+((a / 4294967296)*(b%4294967296)+(a%4294967296)*(b / 4294967296))*4294967296+(a%4294967296)*(b%4294967296):=by
 have f:a=(a / 4294967296)*4294967296+a%4294967296:=by omega
 have e:b=(b / 4294967296)*4294967296+b%4294967296:=by omega
 generalize a / 4294967296=c at f ⊢;generalize a%4294967296=g at f ⊢;generalize b / 4294967296=d at e ⊢;generalize b%4294967296=h at e ⊢;subst f e;rw [dB,Nat.mul_add,Nat.mul_add];have j:c*4294967296*(d*4294967296)=c*d*18446744073709551616:=by
  rw [Nat.mul_mul_mul_comm]
 have k:c*4294967296*h=c*h*4294967296:=by rw [Nat.mul_right_comm]
 have i:g*(d*4294967296)=g*d*4294967296:=by rw [xx]
 rw [j,k,i,dB];omega
theorem J5 (n a b:Nat) (r:a<18446744073709551616) (m:b<18446744073709551616):gy n (a:Int) (b:Int)=some (((a*b / 18446744073709551616:Nat):Int),((a*b%18446744073709551616:Nat):Int)):=by
 have u:=Bm a b;have g:a / 4294967296<=4294967295:=by omega
 have j:a%4294967296<=4294967295:=by omega
 have i:b / 4294967296<=4294967295:=by omega
 have h:b%4294967296<=4294967295:=by omega
 have w:=zi j h;have l:=zi j i;have q:=zi g h;have x:=zi g i;have k:IntKind.wrap .u64 ((a:Int)*(b:Int))=((a*b%18446744073709551616:Nat):Int):=by
  rw [xd,<-Bc];omega
 simp only [gy,E5,Ci r,Ci m,k];simp only [<-Bc];generalize (a / 4294967296)*(b / 4294967296)=f at *;generalize (a / 4294967296)*(b%4294967296)=d at *;generalize (a%4294967296)*(b / 4294967296)=e at *;generalize (a%4294967296)*(b%4294967296)=c at *;generalize a*b=N at *;have s:IntKind.wrap .u64 ((c:Nat):Int)=((c:Nat):Int):=gp _ (by omega) (by omega);have z:IntKind.wrap .u64 ((d:Nat):Int)=((d:Nat):Int):=gp _ (by omega) (by omega);have t:IntKind.wrap .u64 ((e:Nat):Int)=((e:Nat):Int):=gp _ (by omega) (by omega);have v:IntKind.wrap .u64 ((f:Nat):Int)=((f:Nat):Int):=gp _ (by omega) (by omega);rw [s,z,t,v,E5 c];have y:IntKind.wrap .u64 (((d:Nat):Int)+((c / 4294967296:Nat):Int))=((d+c / 4294967296:Nat):Int):=by rw [gp _ (by omega) (by omega)];omega
 rw [y,E5,Ci (by omega)];have p:IntKind.wrap .u64 (((f:Nat):Int)+(((d+c / 4294967296) / 4294967296:Nat):Int))=((f+(d+c / 4294967296) / 4294967296:Nat):Int):=by rw [gp _ (by omega) (by omega)];omega
 have o:IntKind.wrap .u64 ((((d+c / 4294967296)%4294967296:Nat):Int)+((e:Nat):Int))=(((d+c / 4294967296)%4294967296+e:Nat):Int):=by rw [gp _ (by omega) (by omega)];omega
 rw [p,o,E5];have w8:IntKind.wrap .u64 (((f+(d+c / 4294967296) / 4294967296:Nat):Int)+((((d+c / 4294967296)%4294967296+e) / 4294967296:Nat):Int))=((N / 18446744073709551616:Nat):Int):=by
  rw [gp _ (by omega) (by omega)];omega
 rw [w8]
theorem IS (n a b:Nat) (l:a<9223372036854775808) (k:b<9223372036854775808):pO n (a:Int) (b:Int)=some (if a*b<9223372036854775808 then (((a*b:Nat):Int),0) else (0,15)):=by
 have f:decide ((a:Int)<0)=false:=ay (by omega);have j:decide ((b:Int)<0)=false:=ay (by omega);have g:IntKind.wrap .u64 (a:Int)=a:=gp _ (by omega) (by omega);have i:IntKind.wrap .u64 (b:Int)=b:=gp _ (by omega) (by omega);simp only [pO,od,f,j,af,g,i,ob,J5 n a b (by omega) (by omega)];generalize a*b=N;by_cases h:18446744073709551616<=N
 ·have c:decide (((N / 18446744073709551616:Nat):Int)>0)=true:=az (by omega);rw [c,ab (by omega)];rfl
 ·have c:decide (((N / 18446744073709551616:Nat):Int)>0)=false:=ay (by omega);have e:N%18446744073709551616=N:=nh (by omega);rw [c,e];simp only [af,BEq.rfl,dJ,mX,iJ,ar];by_cases d:N<9223372036854775808
  ·have d4:decide (((N:Nat):Int)<=9223372036854775807)=true:=az (by omega);rw [d4,ad d,ar,wrap_i64 _ (by omega) (by omega)]
  ·have d4:decide (((N:Nat):Int)<=9223372036854775807)=false:=ay (by omega);rw [d4,ab d,af]
def E16:Nat:=10000000000000000
theorem Hq {x:Nat} (b:17<=x):E16<10 ^ x:=by
 have:(10:Nat) ^ 17<=10 ^ x:=iE (by decide) b;have a:(10:Nat) ^ 17=100000000000000000:=by decide
 unfold E16;omega
theorem BB (n:Nat) (g l:Bool) (d:aa) (x:Nat) (s:Int) (r:∀c∈d,bG c=true) (m:d≠[]) (p:d.length<=17) (e:x<=18) (j:18<n):
  cf n g l d (x:Int) s=some (if dval 0 d*10 ^ x<=E16 then (((dval 0 d*10 ^ x:Nat):Int),0) else (0,6)):=by
 obtain ⟨i,o⟩:=zV r m (by omega);have t:dval 0 d<10 ^ 17:=jQ o (iE (by decide) p);have u:(10:Nat) ^ x<=10 ^ 18:=iE (by decide) e;have f:(10:Nat) ^ 17=100000000000000000:=by decide
 have q:(10:Nat) ^ 18=1000000000000000000:=by decide
 have k:Nat.ble d.length 9223372036854775806=true:=cZ (by omega);simp only [cf,k,ar,i,ob,D9 n x e j,fh,af,IS n _ _ (show dval 0 d<9223372036854775808 by omega) (show 10 ^ x<9223372036854775808 by omega)];generalize dval 0 d*10 ^ x=N;unfold E16;by_cases h:N<9223372036854775808
 ·rw [ad h];simp only [fh,af];by_cases b:N<=10000000000000000
  ·have a:decide (((N:Nat):Int)>10000000000000000)=false:=ay (by omega);rw [a,ad b,af]
  ·have a:decide (((N:Nat):Int)>10000000000000000)=true:=az (by omega);rw [a,ab b,ar]
 ·rw [ab h,ab (by omega)];rfl
def pre (d:aa) (i:Nat):Nat:=dval 0 (d.take i)*10 ^ (i - d.length)
theorem F8 {d:aa} {i:Nat} {c:UInt8} (h:d[i]?=some c):pre d (i+1)=10*pre d i+(c.toNat - 48):=by
 have a:=qb h;unfold pre;rw [m8,h,show i+1 - d.length=0 by omega,show i - d.length=0 by omega];simp only [Option.toList,yn,Nat.pow_zero,o0];omega
theorem F5 {d:aa} {i:Nat} (h:d.length<=i):pre d (i+1)=10*pre d i:=by
 unfold pre;rw [fO (show d.length<=i+1 by omega),fO h,show i+1 - d.length=(i - d.length)+1 by omega,oY];rw [<-xx];omega
theorem yA (d:aa):∀k i,pre d i<=pre d (i+k)
 | 0,i=>aL _
 | k+1,i=>by
  have ih:=yA d k i;rcases aA (i+k) d.length with a | b
  ·have:=F8 (cn a);rw [show i+(k+1)=i+k+1 by omega,this];omega
  ·have:=F5 b;rw [show i+(k+1)=i+k+1 by omega,this];omega
theorem zM (n:Nat) (d:aa) (x:Nat) (p:∀c∈d,bG c=true) (z:d.length<=100) (A:x<=100) (y:d.length+x<n):
  ct n d (x:Int)=some (if dval 0 d*10 ^ x<=E16 then (((dval 0 d*10 ^ x:Nat):Int),1) else (0,0)):=by
 have a:pre d (d.length+x)=dval 0 d*10 ^ x:=by
  unfold pre;rw [fO (by omega),show d.length+x - d.length=x by omega]
 have w0:IntKind.wrap .i64 (((d.length:Nat):Int)+(x:Int))=((d.length+x:Nat):Int):=by rw [wrap_i64 _ (by omega) (by omega)];omega
 have:=eO (step:=cJ n) (λq=>∃i:Nat,i<=d.length+x/\pre d i<=E16/\q=(d,(x:Int),((pre d i:Nat):Int),(i:Int))) (λq=>d.length+x - q.2.2.2.toNat) (λ_=>if dval 0 d*10 ^ x<=E16 then .inr ((dval 0 d*10 ^ x:Nat):Int) else .inl (0,0)) (by
  rintro q ⟨i,hi,j,rfl⟩;simp only [cJ,w0,jh];unfold E16 at j ⊢;have s:IntKind.wrap .i64 ((i:Int)+1)=((i+1:Nat):Int):=by rw [wrap_i64 _ (by omega) (by omega)];omega
  have w:IntKind.wrap .i64 (10*((pre d i:Nat):Int))=((10*pre d i:Nat):Int):=by rw [wrap_i64 _ (by omega) (by omega)];omega
  by_cases k:i<d.length+x
  ·have r:=yA d (d.length+x - (i+1)) (i+1);rw [show i+1+(d.length+x - (i+1))=d.length+x by omega,a] at r;simp only [k,kA,ar,s,w];rcases aA i d.length with e | l
   ·obtain ⟨c,hc⟩:∃c,d[i]?=some c:=⟨d[i],cn e⟩;have m:=(ec c).1 (p c (gD hc));have o:=F8 hc;have t:IntKind.wrap .u8 (((c.toNat:Nat):Int) - 48)=((c.toNat - 48:Nat):Int):=by rw [fi _ (by omega) (by omega)];omega
    have u:IntKind.wrap .i64 ((c.toNat - 48:Nat):Int)=((c.toNat - 48:Nat):Int):=wrap_i64 _ (by omega) (by omega);have v:IntKind.wrap .i64 (((10*pre d i:Nat):Int)+((c.toNat - 48:Nat):Int))=((pre d (i+1):Nat):Int):=by rw [wrap_i64 _ (by omega) (by omega)];omega
    simp only [e,kA,ar,jI hc,ob,t,u,v];by_cases f:pre d (i+1)<=10000000000000000
    ·have b:decide (((pre d (i+1):Nat):Int)>10000000000000000)=false:=ay (by omega);simp only [b,af];exact .inl ⟨_,rfl,⟨i+1,k,f,rfl⟩,by simp only [bV];omega,trivial⟩
    ·have b:decide (((pre d (i+1):Nat):Int)>10000000000000000)=true:=az (by omega);simp only [b,ar];rw [ab (by omega)];exact .inr rfl
   ·have o:=F5 l;have g:¬i<d.length:=by omega
    simp only [g,kP,af];rw [<-o];by_cases f:pre d (i+1)<=10000000000000000
    ·have b:decide (((pre d (i+1):Nat):Int)>10000000000000000)=false:=ay (by omega);simp only [b,af];exact .inl ⟨_,rfl,⟨i+1,k,f,rfl⟩,by simp only [bV];omega,trivial⟩
    ·have b:decide (((pre d (i+1):Nat):Int)>10000000000000000)=true:=az (by omega);simp only [b,ar];rw [ab (by omega)];exact .inr rfl
  ·have:i=d.length+x:=by omega
   subst this;simp only [wy,kP,af];rw [a] at j ⊢;rw [ad j];exact .inr rfl) n (d,(x:Int),0,0) ⟨0,by omega,by unfold pre E16;simp [kG],by unfold pre;simp [kG]⟩ (by simp;omega)
 simp only [ct,this,ob];by_cases h:dval 0 d*10 ^ x<=E16
 ·rw [ad h,ad h]
 ·rw [ab h,ab h]
def okM (d:aa) (x:Int):Prop:=(∀c∈d,bG c=true)/\1<=d.length/\d.length<=17/\d.head?≠some 48/\0<=x/\x<=16/\¬(x=0/\d.length<5)/\dval 0 d*10 ^ x.toNat<=E16
def okL (d:aa) (x s:Int):Prop:=okM d x/\0<=s/\s<=(d.length:Int)+x
def okS (g:Bool) (d:aa) (x s:Int):Prop:=d.length=4/\(∀c∈d,bG c=true\/c=88)/\x=0/\¬(g=true/\all0 d=true)/\0<=s/\s<=4/\¬(0<s/\hasX d=true)
def okY (g l:Bool) (d:aa) (x s:Int):Prop:=if l=true then okL d x s else okS g d x s
instance (d:aa) (x:Int):Decidable (okM d x):=by unfold okM;infer_instance
instance (d:aa) (x s:Int):Decidable (okL d x s):=by unfold okL;infer_instance
instance (g:Bool) (d:aa) (x s:Int):Decidable (okS g d x s):=by unfold okS;infer_instance
instance (g l:Bool) (d:aa) (x s:Int):Decidable (okY g l d x s):=by unfold okY;infer_instance
theorem Df (d:aa):d.all bG=true↔∀c∈d,bG c=true:=bz
theorem yT (d:aa):(d.all λc=>bG c||c==88)=true↔∀c∈d,bG c=true\/c=88:=by
 rw [bz];constructor
 ·intro h c hc;have:=h c hc;simpa using this
 ·intro h c hc;have:=h c hc;simpa using this
theorem Jn (c:UInt8):(((c.toNat:Nat):Int)==48)=(c==48):=Gk c 48
theorem HF (n:Nat) (g l:Bool) (d:aa) (x s:Int) (z:200<n) (B:d.length<=100):aG n g l d x s=some (decide (okM d x)):=by
 unfold aG;by_cases y:d.length<1
 ·have e:decide (((d.length:Nat):Int)<1)=true:=az (by omega);rw [e,ay (λh:okM d x=>by have:=h.2.1;omega)];rfl
 ·have e:decide (((d.length:Nat):Int)<1)=false:=ay (by omega);rw [e,af];by_cases A:d.length>17
  ·have e:decide (((d.length:Nat):Int)>17)=true:=az (by omega);rw [e,ay (λh:okM d x=>by have:=h.2.2.1;omega)];rfl
  ·have e:decide (((d.length:Nat):Int)>17)=false:=ay (by omega);rw [e,af,AO n d (by omega) (by omega)];simp only [ob];cases o:d.all bG with
   | false=>
    rw [ay (λh:okM d x=>by rw [(Df d).2 h.1] at o;cases o)];rfl
   | true=>
    have a:=(Df d).1 o;obtain ⟨c,r,rfl⟩:∃c r,d=c::r:=by
     cases d with
     | nil=>simp at y
     | cons c r=>exact ⟨c,r,rfl⟩
    have t:sx (c::r) 0=some c:=by simp [sx]
    simp only [dJ,af,t,Jn];by_cases f:c=48
    ·rw [ay (λh:okM (c::r) x=>h.2.2.2.1 (by rw [f];rfl)),f];rfl
    ·have e:(c==48)=false:=bW.2 f;rw [e,af];by_cases v:x<0
     ·rw [az v,ay (λh:okM (c::r) x=>by have:=h.2.2.2.2.1;omega)];rfl
     ·rw [ay v,af];by_cases u:x>16
      ·rw [az u,ay (λh:okM (c::r) x=>by have:=h.2.2.2.2.2.1;omega)];rfl
      ·rw [ay u,af];obtain ⟨k,rfl⟩:∃k:Nat,x=(k:Int):=⟨x.toNat,by omega⟩;have p:=BB n g l (c::r) k s a (by simp) (by omega) (by omega) (by omega);rw [p];have key:¬((k:Int)=0/\(c::r).length<5)->(okM (c::r) (k:Int)↔dval 0 (c::r)*10 ^ k<=E16):=by
        intro i;constructor
        ·intro h;simpa using h.2.2.2.2.2.2.2
        ·intro h;exact ⟨a,by omega,by omega,by simpa using f,by omega,by omega,i,by simpa using h⟩
       have b:¬((k:Int)=0/\(c::r).length<5)->(ob (some (if dval 0 (c::r)*10 ^ k<=E16 then (((dval 0 (c::r)*10 ^ k:Nat):Int),(0:Int)) else (0,6))) λq=>(some (q.2==0)))=some (decide (okM (c::r) (k:Int))):=by
        intro i;by_cases j:dval 0 (c::r)*10 ^ k<=E16
        ·rw [ad j,az ((key i).2 j)];rfl
        ·rw [ab j,ay (λh=>j ((key i).1 h))];rfl
       by_cases m:(k:Int)=0
       ·have e:((k:Int)==0)=true:=bu.2 m;rw [e,ar];by_cases w:(c::r).length<5
        ·have e:decide ((((c::r).length:Nat):Int)<5)=true:=az (by omega);rw [e,ay (λh:okM (c::r) (k:Int)=>h.2.2.2.2.2.2.1 ⟨m,w⟩)];rfl
        ·have e:decide ((((c::r).length:Nat):Int)<5)=false:=ay (by omega);rw [e,af];exact b (λh=>w h.2)
       ·have e:((k:Int)==0)=false:=bW.2 m;rw [e,af];exact b (λh=>m h.1)
theorem EG (n:Nat) (g l:Bool) (d:aa) (x s:Int) (c:200<n) (e:d.length<=100):
  (ob (aG n g l d x s) λr=>(cond (!r) (some (6:Int)) (cond (decide (s<0)) (some 6) (cond (decide (s>(IntKind.wrap .i64 (((d.length:Nat):Int)+x)))) (some 6) (some 0)))))=some (if okL d x s then 0 else 6):=by
 rw [HF n g l d x s c e];simp only [ob];by_cases h:okM d x
 ·rw [az h];have f:=h.2.2.2.2;have w:IntKind.wrap .i64 (((d.length:Nat):Int)+x)=((d.length:Nat):Int)+x:=wrap_i64 _ (by omega) (by omega);rw [w];simp only [dJ,af,bA];by_cases a:s<0
  ·rw [ad a,ab (λq:okL d x s=>by have:=q.2.1;omega)]
  ·rw [ab a];by_cases b:s>((d.length:Nat):Int)+x
   ·rw [ad b,ab (λq:okL d x s=>by have:=q.2.2;omega)]
   ·rw [ab b,ad ⟨h,by omega,by omega⟩]
 ·rw [ay h,ab (λq:okL d x s=>h q.1)];rfl
theorem yj (n:Nat) (g l:Bool) (d:aa) (x s:Int) (z:200<n) (B:d.length<=100):bi n g l d x s=some (if okY g l d x s then 0 else 6):=by
 obtain ⟨y,A,v⟩:=H3 n d (by omega) (by omega);unfold bi;rw [zu n d (by omega) (by omega),A,nE];cases l with
 | true=>
  have b:(if okY g true d x s then (0:Int) else 6)=if okL d x s then 0 else 6:=by simp only [okY,aY]
  rw [b];have st:=EG n g true d x s z B;simp only [ar];generalize (ob (aG n g true d x s) λr=>(cond (!r) (some (6:Int)) (cond (decide (s<0)) (some 6) (cond (decide (s>(IntKind.wrap .i64 (((d.length:Nat):Int)+x)))) (some 6) (some 0)))))=T at st ⊢;simp only [ob];rw [st];cases (((d.length:Nat):Int)==4)<;>cases (d.all λc=>bG c||c==88)<;>cases (x==0)<;>cases g<;>cases (y==[])<;>cases (s != 0)<;>rfl
 | false=>
  have b:(if okY g false d x s then (0:Int) else 6)=if okS g d x s then 0 else 6:=by simp only [okY,bT,aE]
  rw [b];simp only [af,ob];by_cases f:d.length=4
  ·have m:(((d.length:Nat):Int)==4)=true:=bu.2 (by omega);rw [m,ar];cases k:(d.all λc=>bG c||c==88) with
   | false=>
    rw [ab (λq:okS g d x s=>by rw [(yT d).2 q.2.1] at k;cases k)];rfl
   | true=>
    have e:=(yT d).1 k;rw [ar];by_cases h:x=0
    ·subst h;have w:IntKind.wrap .i64 (((d.length:Nat):Int)+0)=4:=by rw [f];decide
     rw [w];have a:¬(g=true/\all0 d=true)->(cond (s != 0) (cond (!(!hasX d)) (some (6:Int)) (cond (decide (s<0)) (some 6) (cond (decide (s>4)) (some 6) (some 0)))) (cond (decide (s<0)) (some 6) (cond (decide (s>4)) (some 6) (some 0))))=some (if okS g d 0 s then 0 else 6):=by
      intro o;simp only [bA,yW,Bool.not_not];by_cases s0:s=0
      ·subst s0;rw [ad rfl,ab (by omega),ab (by omega),ad ⟨f,e,rfl,o,by omega,by omega,by omega⟩]
      ·rw [ab s0];cases u:hasX d with
       | true=>
        by_cases i:s<0
        ·rw [ab (λq:okS g d 0 s=>by have:=q.2.2.2.2.1;omega)];rfl
        ·rw [ab (λq:okS g d 0 s=>q.2.2.2.2.2.2 ⟨by omega,u⟩)];rfl
       | false=>
        rw [af];by_cases i:s<0
        ·rw [ad i,ab (λq:okS g d 0 s=>by have:=q.2.2.2.2.1;omega)]
        ·rw [ab i];by_cases t:s>4
         ·rw [ad t,ab (λq:okS g d 0 s=>by have:=q.2.2.2.2.2.1;omega)]
         ·rw [ab t,ad ⟨f,e,rfl,o,by omega,by omega,λq=>by rw [u] at q;cases q.2⟩]
     have j:((0:Int)==0)=true:=rfl;rw [j,ar];cases g with
     | false=>
      simp only [af];exact a (by simp)
     | true=>
      simp only [ar];rw [v];cases p:all0 d with
      | true=>rw [ab (λq:okS true d 0 s=>q.2.2.2.1 ⟨rfl,p⟩)];rfl
      | false=>
       simp only [iJ,ar];exact a (by rw [p];simp)
    ·have j:(x==0)=false:=bW.2 h;rw [j,ab (λq:okS g d x s=>h q.2.2.1)];rfl
  ·have m:(((d.length:Nat):Int)==4)=false:=bW.2 (by omega);rw [m,ab (λq:okS g d x s=>f q.1)];rfl
theorem HZ (d:aa):cnt 48 57 d=d.length↔∀c∈d,bG c=true:=C5 48 57 d
theorem BS (n:Nat) (g l:Bool) (d:aa) (x s:Int) (N:200<n) (J:d.length<=100):bC n g l d x s=some (if okY g l d x s then 1 else 0):=by
 have C:=CW d;have o:=FB d;have p:=ER d;have u:=HZ d;unfold bC;rw [DU n d 48 57 (by omega) (by omega),DU n d 88 88 (by omega) (by omega),DU n d 48 48 (by omega) (by omega)];simp only [ob];generalize M:cnt 48 57 d=A at *;generalize O:cnt 88 88 d=B at *;have w0:IntKind.wrap .i64 (((A:Nat):Int)+((B:Nat):Int))=((A+B:Nat):Int):=by rw [wrap_i64 _ (by omega) (by omega)];omega
 rw [w0];simp only [yW,bA,Es];by_cases z:A+B=d.length
 ·rw [ad (by omega)];have v:=C.2.1 z;by_cases H:s<0
  ·rw [ad H,ab];intro q;unfold okY at q;split at q
   ·have:=q.2.1;omega
   ·have:=q.2.2.2.2.1;omega
  ·rw [ab H];cases l with
   | false=>
    have i:(if okY g false d x s then (1:Int) else 0)=if okS g d x s then 1 else 0:=by simp only [okY,bT,aE]
    rw [i,af];by_cases j:d.length=4
    ·rw [ad (by omega)];by_cases h:x=0
     ·rw [ad h];have a:¬(g=true/\all0 d=true)->(if s>4 then some (0:Int) else if s>0 then (if ((B:Nat):Int)>0 then some 0 else some 1) else some 1)=some (if okS g d x s then 1 else 0):=by
       intro D;by_cases w:s>4
       ·rw [ad w,ab (λq:okS g d x s=>by have:=q.2.2.2.2.2.1;omega)]
       ·rw [ab w];by_cases F:s>0
        ·rw [ad F];by_cases m:((B:Nat):Int)>0
         ·rw [ad m,ab (λq:okS g d x s=>q.2.2.2.2.2.2 ⟨by omega,by rw [o];exact az (by omega)⟩)]
         ·rw [ab m,ad ⟨j,v,h,D,by omega,by omega,λq=>by
           have:=q.2;rw [o,bY] at this;omega⟩]
        ·rw [ab F,ad ⟨j,v,h,D,by omega,by omega,λq=>by omega⟩]
      cases g with
      | false=>rw [af];exact a (by simp)
      | true=>
       rw [ar,hO];by_cases e:all0 d=true
       ·rw [ad (by have:=p.1 e;omega),ab (λq:okS true d x s=>q.2.2.2.1 ⟨rfl,e⟩)]
       ·rw [ab (λq=>e (p.2 (by omega)))];exact a (λq=>e q.2)
     ·rw [ab h,ab (λq:okS g d x s=>h q.2.2.1)]
    ·rw [ab (by omega),ab (λq:okS g d x s=>j q.1)]
   | true=>
    have i:(if okY g true d x s then (1:Int) else 0)=if okL d x s then 1 else 0:=by simp only [okY,aY]
    rw [i,ar];by_cases m:((B:Nat):Int)>0
    ·rw [ad m,ab];intro q;have:=u.2 q.1.1;omega
    ·rw [ab m];have f:=u.1 (by omega);by_cases j:((A:Nat):Int)<1
     ·rw [ad j,ab (λq:okL d x s=>by have:=q.1.2.1;omega)]
     ·rw [ab j];by_cases h:((A:Nat):Int)>17
      ·rw [ad h,ab (λq:okL d x s=>by have:=q.1.2.2.1;omega)]
      ·rw [ab h];obtain ⟨c,r,rfl⟩:∃c r,d=c::r:=by
        cases d with
        | nil=>simp at z;omega
        | cons c r=>exact ⟨c,r,rfl⟩
       have y:sx (c::r) 0=some c:=by simp [sx]
       simp only [y,Jn,hO];by_cases e:c=48
       ·rw [ad e,ab (λq:okL (c::r) x s=>q.1.2.2.2.1 (by rw [e];rfl))]
       ·rw [ab e];by_cases E:x<0
        ·rw [ad E,ab (λq:okL (c::r) x s=>by have:=q.1.2.2.2.2.1;omega)]
        ·rw [ab E];by_cases G:x>16
         ·rw [ad G,ab (λq:okL (c::r) x s=>by have:=q.1.2.2.2.2.2.1;omega)]
         ·rw [ab G];obtain ⟨k,rfl⟩:∃k:Nat,x=(k:Int):=⟨x.toNat,by omega⟩;have L:IntKind.wrap .i64 (((A:Nat):Int)+(k:Int))=((A+k:Nat):Int):=by rw [wrap_i64 _ (by omega) (by omega)];omega
          rw [L,zM n (c::r) k f J (by omega) (by omega)];have t:(c::r).length=A:=by omega
          have a:¬((k:Int)=0/\(c::r).length<5)->(if s>((A+k:Nat):Int) then some (0:Int) else some (if dval 0 (c::r)*10 ^ k<=E16 then (((dval 0 (c::r)*10 ^ k:Nat):Int),(1:Int)) else (0,0)).2)=some (if okL (c::r) (k:Int) s then 1 else 0):=by
           intro K;by_cases w:s>((A+k:Nat):Int)
           ·rw [ad w,ab (λq:okL (c::r) (k:Int) s=>by have:=q.2.2;rw [t] at this;omega)]
           ·rw [ab w];by_cases b:dval 0 (c::r)*10 ^ k<=E16
            ·rw [ad b,ad ⟨⟨f,by omega,by omega,by simpa using e,by omega,by omega,K,by simpa using b⟩,by omega,by omega⟩]
            ·rw [ab b,ab (λq:okL (c::r) (k:Int) s=>b (by simpa using q.1.2.2.2.2.2.2.2))]
          by_cases b:(k:Int)=0
          ·rw [ad b];by_cases I:((A:Nat):Int)<5
           ·rw [ad I,ab (λq:okL (c::r) (k:Int) s=>q.1.2.2.2.2.2.2.1 ⟨b,by omega⟩)]
           ·rw [ab I];exact a (λq=>by omega)
          ·rw [ab b];exact a (λq=>b q.1)
 ·rw [ab (by omega),ab];intro q;apply z;rw [C.2];unfold okY at q;split at q
  ·exact λc hc=>.inl (q.1.1 c hc)
  ·exact q.2.1
theorem CZ:∀(l:aa) (a:Nat),a*10 ^ l.length<=dval a l
 | [],a=>by rw [kG];simp
 | c::l,a=>by
  have ih:=CZ l (pF a c);rw [kq,ci,oY];have h:a*10<=pF a c:=Nat.le_add_right _ _;have d:=jV (10 ^ l.length) h;have b:a*(10 ^ l.length*10)=a*10*10 ^ l.length:=by rw [qE (10 ^ l.length) 10,xx]
  omega
theorem ou:∀(l:aa) (a k:Nat),(∀c∈l,bG c=true)->a<10 ^ k->dval a l<10 ^ (l.length+k)
 | [],a,k,_,h=>by rw [kG];simpa using h
 | c::l,a,k,e,h=>by
  have hc:=(ec c).1 (e c (by simp));have g:(10:Nat) ^ (k+1)=10 ^ k*10:=oY 10 k;have f:pF a c=a*10+(c.toNat - 48):=rfl;have ih:=ou l (pF a c) (k+1) (λd b=>e d (by simp [b])) (by omega);rw [kq,ci,show l.length+1+k=l.length+(k+1) by omega];exact ih
structure Num (d:aa) (k q:Nat):Prop where
 dig:∀c∈d,bG c=true
 ne:d≠[]
 wide:d.length+k<=17
 small:dval 0 d*10 ^ k<=E16
 sig:q<=d.length+k
theorem pL {d:aa} (h:∀c∈d,bG c=true):hasX d=false:=by
 unfold hasX;rw [nQ];intro c hc a;rw [bu] at a;have:=(ec c).1 (h c hc);rw [a] at this;exact absurd this.2 (by decide)
theorem th {g l:Bool} {d:aa} {x s:Int} (h:okY g l d x s) (n:hasX d=false):∃k q:Nat,x=(k:Int)/\s=(q:Int)/\Num d k q:=by
 cases l with
 | true=>
  have h:okL d x s:=by simpa [okY] using h
  obtain ⟨⟨a,f,v,j,z,y,A,B⟩,u,C⟩:=h;refine ⟨x.toNat,s.toNat,by omega,by omega,a,by intro e;subst e;simp at f,?_,B,by omega⟩;cases d with
  | nil=>simp at f
  | cons c r=>
   have hc:=(ec c).1 (a c (by simp));have i:c≠48:=by simpa using j
   have p:1<=pF 0 c:=by
    have:c.toNat≠48:=λe=>i (gU.1 e);show 1<=0*10+(c.toNat - 48);omega
   have w:=CZ r (pF 0 c);rw [<-kq] at w;have u:10 ^ r.length<=dval 0 (c::r):=by
    have:=jV (10 ^ r.length) p;omega
   have m:=jV (10 ^ x.toNat) u;rw [<-Nat.pow_add] at m;rcases aA (r.length+x.toNat) 17 with b | o
   ·simp only [ci];omega
   ·have:=Hq o;omega
 | false=>
  have h:okS g d x s:=by simpa [okY] using h
  obtain ⟨a,f,v,j,z,y,A⟩:=h;have t:∀c∈d,bG c=true:=by
   intro c hc;rcases f c hc with h | h
   ·exact h
   ·exfalso;unfold hasX at n;rw [nQ] at n;exact n c hc (bu.2 h)
  have b:=ou d 0 0 t (by simp);rw [a] at b;refine ⟨0,s.toNat,by omega,by omega,t,by intro e;subst e;simp at a,by omega,?_,by omega⟩;have j:(10:Nat) ^ (4+0)=10000:=by decide
  unfold E16;simp only [Nat.pow_zero,o0];omega
def val (d:aa) (k:Nat):Nat:=dval 0 d*10 ^ k
theorem pM (n:Nat) (g l:Bool) (d:aa) (x s:Int) (b:200<n) (f:d.length<=100):
  bw n g l d x s=some (if okY g l d x s/\hasX d=false then (if g then -((val d x.toNat:Nat):Int) else ((val d x.toNat:Nat):Int),0) else (0,6)):=by
 unfold bw;rw [yj n g l d x s b f,nE];simp only [ob];by_cases h:okY g l d x s
 ·rw [ad h];cases e:hasX d with
  | true=>rw [ab (by simp)];rfl
  | false=>
   rw [ad ⟨h,rfl⟩];obtain ⟨k,q,rfl,rfl,a⟩:=th h e;rw [BB n g l d k q a.dig a.ne (by have:=a.wide;omega) (by have:=a.wide;omega) (by omega),ad a.small];have c:=a.small;unfold E16 at c;cases g with
   | true=>
    simp only [fh,af,ar,bV,val,aY];rw [wrap_i64 _ (by omega) (by omega),Int.zero_sub]
   | false=>simp [val]
 ·rw [ab h,ab (λq=>h q.1)];rfl
theorem pq {a b:aa} (h:a.length+b.length<=1000000):cat a b=some (a++b):=by
 unfold cat;rw [ad (by omega)]
theorem cut1 {l:aa} {i:Nat} {c:UInt8} (h:l[i]?=some c):List.drop i (List.take (i+1) l)=[c]:=by
 have a:=qb h;rw [m8,h,List.drop_left' (by rw [eH];omega)];rfl
theorem Kz {l:aa} {i:Nat} {c:UInt8} (h:l[i]?=some c):List.take (i+1) l=List.take i l++[c]:=by
 rw [m8,h];rfl
theorem qK {g l:Bool} {d:aa} {x s:Int} (h:okY g l d x s) (a:hasX d=true):l=false/\x=0/\s=0/\d.length=4/\∀c∈d,bG c=true\/c=88:=by
 cases l with
 | true=>
  have h:okL d x s:=by simpa [okY] using h
  rw [pL h.1.1] at a;cases a
 | false=>
  have h:okS g d x s:=by simpa [okY] using h
  obtain ⟨f,i,b,n,m,k,j⟩:=h;refine ⟨rfl,b,?_,f,i⟩;have:¬0<s:=λe=>j ⟨e,a⟩;omega
theorem tK {g l:Bool} {d:aa} {x s:Int} (h:okY g l d x s):0<=x/\x<=16/\0<=s/\s<=17/\1<=d.length/\d.length<=17:=by
 cases b:hasX d with
 | true=>
  obtain ⟨rfl,rfl,rfl,j,_⟩:=qK h b;omega
 | false=>
  obtain ⟨k,q,rfl,rfl,a⟩:=th h b;have f:=a.wide;have i:=a.sig;have e:1<=d.length:=by
   cases d with
   | nil=>exact absurd rfl a.ne
   | cons c r=>simp
  omega
theorem pw {c:UInt8} (h:48<=c.toNat/\c.toNat<=57):Lib.digitVal c=some (c.toNat - 48):=by
 unfold Lib.digitVal;rw [ad h]
theorem Ag {c:UInt8} (h:48<=c.toNat/\c.toNat<=57) (r:aa):Lib.atoi (c::r)=(Lib.decNat (c::r)).map λ(m:Nat)=>(m:Int):=by
 have b:(c==45)=false:=by
  rw [bW];rintro rfl;exact absurd h.1 (by decide)
 have a:(c==43)=false:=by
  rw [bW];rintro rfl;exact absurd h.1 (by decide)
 simp only [Lib.atoi,b,a,bT,aE]
theorem E4 {c e:UInt8} (h:48<=c.toNat/\c.toNat<=57) (a:48<=e.toNat/\e.toNat<=57):Lib.atoi [c,e]=some ((10*(c.toNat - 48)+(e.toNat - 48):Nat):Int):=by
 rw [Ag h];simp only [Lib.decNat,List.isEmpty_cons,bT,aE,Lib.decFrom,pw h,pw a,cK,Nat.zero_mul,bM];rw [qE]
def isDX (c:UInt8):Bool:=bG c||c==88
def wint (c:Int):Bool:=c==24||c==28||c==30
def sa (g:Bool) (d:aa) (x:Int):Bool:=!hasX d&&!g&&decide (val d x.toNat=E16)
def yrB (g:Bool) (d:aa) (x s:Int) (m:aa):Bool:=!(decide (0<s)&&!(m==[]))&&!(wint (sea m)&&sa g d x)
theorem vZ (n:Nat) (s:200<n) (g l:Bool) (dg:aa) (x q:Int) (m d:aa) (k0 k1 k2:Int) (y:m.length<=18) (p:dg.length<=100):
  cU n g l dg x q m d k0 k1 k2=some (if okY g l dg x q then yrB g dg x q m else false):=by
 unfold cU;rw [yj n g l dg x q s p,nX n g l dg x q m d k0 k1 k2 y,nE,pM n g l dg x q s p];by_cases h:okY g l dg x q
 rotate_left
 ·rw [ab h,ab h];rfl
 rw [ad h,ad h];have body:(ob (some (sea m,decide (0<sea m))) λr=>(cond (!r.2) (some true) (ob (some (hasX dg)) λB=>(cond B (some true) (ob (some (if okY g l dg x q/\hasX dg=false then (if g then -((val dg x.toNat:Nat):Int) else ((val dg x.toNat:Nat):Int),(0:Int)) else (0,6))) λE=>(ob (dO n E.1 r.1) λA=>(some (A.2.2.2.2==0))))))))=some (!(wint (sea m)&&sa g dg x)):=by
  rcases ka m with H | ⟨j,t,rfl⟩
  ·rw [H];rfl
  ·have w:=iD t;rw [w];have G:decide (0<((21+j:Nat):Int))=true:=by simp;omega
   rw [G];cases o:hasX dg with
   | true=>
    have:sa g dg x=false:=by unfold sa;rw [o];rfl
    rw [this,CC];rfl
   | false=>
    rw [ad ⟨h,rfl⟩];obtain ⟨k,I,rfl,rfl,D⟩:=th h o;have C:val dg k<=E16:=D.small;unfold E16 at C;have hc:bL (if g then -((val dg k:Nat):Int) else ((val dg k:Nat):Int)):=by
     unfold bL;cases g<;>simp<;>omega
    obtain ⟨a,b,c,e,v⟩:=Ja n (by omega) hc t;simp only [ob,dJ,af,bV];rw [v];simp only [ae];have u:wint ((21+j:Nat):Int)=decide (j=3\/j=7\/j=9):=by
     unfold wint;rw [Bool.eq_iff_iff];simp only [eT,bu,bY];omega
    have F:sa g dg (k:Int)=decide ((if g then -((val dg k:Nat):Int) else ((val dg k:Nat):Int))=10000000000000000):=by
     unfold sa E16;rw [o,bV];cases g
     ·simp only [iJ,qL,bT,aE,oL];omega
     ·simp;omega
    rw [u,F];by_cases f:(if g then -((val dg k:Nat):Int) else ((val dg k:Nat):Int))=10000000000000000<;>by_cases i:j=3\/j=7\/j=9
    ·rw [ad ⟨f,i⟩,az f,az i];rfl
    ·rw [ab (λz=>i z.2),ay i];rfl
    ·rw [ab (λz=>f z.1),ay f,CC];rfl
    ·rw [ab (λz=>f z.1),ay f,CC];rfl
 show cond (decide (q>0)) (cond (!(m==[])) (some false) _) _=_;unfold yrB;rw [show (decide (q>0))=decide (0<q) from rfl];cases decide (0<q) with
 | false=>exact body
 | true=>
  cases (m==[]) with
  | false=>rfl
  | true=>exact body
def ju (m d:aa):Nat:=1+(if m==[] then 0 else 1)+(if d==[] then 0 else 1)
theorem tq (n:Nat) (e:100<n) (g l:Bool) (dg:aa) (x q:Int) (m d:aa) (k0 k1 k2:Int):aI n g l dg x q m d k0 k1 k2=some ((ju m d:Nat):Int):=by
 obtain ⟨n,rfl⟩:∃j,n=j+3:=⟨n - 3,by omega⟩;unfold aI ju;have s0:∀a:Int,bf (n+3) (a,m,d,0)=some (.inl (if m==[] then a else IntKind.wrap .i64 (a+1),m,d,1)):=λa=>by
  unfold bf;show cond (!(m==[])) _ _=_;cases (m==[])<;>rfl
 have b:∀a:Int,bf (n+3) (a,m,d,1)=some (.inl (if d==[] then a else IntKind.wrap .i64 (a+1),m,d,2)):=λa=>by
  unfold bf;show cond (!(d==[])) _ _=_;cases (d==[])<;>rfl
 have c:∀a:Int,bf (n+3) (a,m,d,2)=some (.inr a):=λa=>rfl;rw [aw,s0];show ob (aw _ (n+2) _) _=_;rw [aw,b];show ob (aw _ (n+1) _) _=_;rw [aw,c];cases (m==[])<;>cases (d==[])<;>rfl
theorem gY (n:Nat) (g l:Bool) (dg:aa) (x q:Int) (m d:aa) (k0 k1 k2:Int):al n g l dg x q m d k0 k1 k2=some ((ju m d:Nat):Int):=by
 unfold al ju;cases (m==[])<;>cases (d==[])<;>rfl
def allM (a b c:Int) (k:Nat):Int:=if 3<a\/3<b\/3<c\/(k<2/\b≠0)\/(k<3/\c≠0) then 9 else 0
theorem HD (n:Nat) (t:3<n) (a b c:Int) (k:Nat) (v:1<=k/\k<=3) (w:0<=a) (u:0<=b) (hc:0<=c):
  ck n [a,b,c] (k:Int)=some (allM a b c k):=by
 obtain ⟨j,rfl⟩:∃j,n=j+4:=⟨n - 4,by omega⟩;have g:IntKind.wrap .i64 1=1:=rfl;have h:IntKind.wrap .i64 2=2:=rfl;have e:IntKind.wrap .i64 3=3:=rfl;have f:ix 3 0=some 0:=rfl;have i:ix 3 1=some 1:=rfl;have l:ix 3 2=some 2:=rfl;have hk':k=1\/k=2\/k=3:=by omega
 unfold allM;by_cases m:a>3
 ·rcases hk' with rfl | rfl | rfl<;>simp [ck,aw,dI,dQ,ob,g,h,e,f,i,l,m]
 by_cases p:b>3
 ·rcases hk' with rfl | rfl | rfl<;>simp [ck,aw,dI,dQ,ob,g,h,e,f,i,l,m,p]
 by_cases d:k=1/\b≠0
 ·obtain ⟨rfl,d⟩:=d;have r:b>0:=by omega
  have q:(b != 0)=true:=by simp [d]
  simp [ck,aw,dI,dQ,ob,g,h,e,f,i,l,m,p,r,d,q]
 by_cases s:c>3
 ·rcases hk' with rfl | rfl | rfl<;>(try (simp at d;subst d))<;>simp [ck,aw,dI,dQ,ob,g,h,e,f,i,l,m,p,s]
 by_cases o:k<3/\c≠0
 ·have r:c>0:=by omega
  have q:(c != 0)=true:=by simp [o.2]
  rcases hk' with rfl | rfl | rfl<;>(try (simp at d;subst d))<;>simp at o<;>simp [ck,aw,dI,dQ,ob,g,h,e,f,i,l,m,p,s,r,o,q]
 rcases hk' with rfl | rfl | rfl<;>(try (simp at d;subst d))<;>(try (simp at o;subst o))<;>simp [ck,aw,dI,dQ,ob,g,h,e,f,i,l,m,p,s]
theorem vS (m d:aa):1<=ju m d/\ju m d<=3:=by
 unfold ju;cases (m==[])<;>cases (d==[])<;>simp
def yrD (g l:Bool) (dg:aa) (x q:Int) (m:aa):Bool:=if okY g l dg x q then yrB g dg x q m else false
def chkD (g l:Bool) (dg:aa) (x q:Int) (m d:aa) (k0 k1 k2:Int):Int:=
 cond (!(yrD g l dg x q m)) 6 (cond (!(m==[])&&(!(decide (0<sea m))&&!(cX m 12))) 7
  (cond (!(d==[])&&((m==[])||(decide (0<sea m)||!(cX d 31)))) 8 (allM k0 k1 k2 (ju m d))))
theorem I4 (m:aa):0<=sea m:=by
 rcases ka m with h | ⟨j,a,rfl⟩
 ·omega
 ·rw [iD a];omega
theorem FV (n:Nat) (e:200<n) (g l:Bool) (dg:aa) (x q:Int) (m d:aa) (k0 k1 k2:Int) (a:m.length<=18) (v:dg.length<=100) (k:0<=k0) (i:0<=k1) (t:0<=k2):
  eG n g l dg x q m d k0 k1 k2=some (chkD g l dg x q m d k0 k1 k2):=by
 have b:cU n g l dg x q m d k0 k1 k2=some (yrD g l dg x q m):=vZ n e g l dg x q m d k0 k1 k2 a v;have u:bB n m 12=some (cX m 12):=uV n (by omega) m 12 (by omega);have c:bB n d 31=some (cX d 31):=uV n (by omega) d 31 (by omega);have s:=HD n (by omega) k0 k1 k2 (ju m d) (vS m d) k i t;unfold eG chkD;rw [nX n g l dg x q m d k0 k1 k2 a,b,u,c,tq n (by omega)];simp only [ob];rw [s];generalize yrD g l dg x q m=r;generalize (m==[])=j;generalize decide (0<sea m)=f;generalize cX m 12=h;generalize (d==[])=o;generalize cX d 31=p;cases r<;>cases j<;>cases f<;>cases h<;>cases o<;>cases p<;>rfl
theorem BI {g l:Bool} {dg:aa} {x q:Int} {m d:aa} {k0 k1 k2:Int} (h:chkD g l dg x q m d k0 k1 k2=0):yrD g l dg x q m=true/\(m=[]\/0<sea m\/cX m 12=true)/\(d=[]\/(m≠[]/\sea m=0/\cX d 31=true))/\allM k0 k1 k2 (ju m d)=0:=by
 have j:=I4 m;unfold chkD at h;cases i:yrD g l dg x q m with
 | false=>rw [i] at h;exact absurd h (by simp)
 | true=>
  rw [i] at h;simp only [dJ,af] at h;cases e:(!(m==[])&&(!(decide (0<sea m))&&!(cX m 12))) with
  | true=>rw [e] at h;exact absurd h (by simp)
  | false=>
   rw [e] at h;simp only [af] at h;cases c:(!(d==[])&&((m==[])||(decide (0<sea m)||!(cX d 31)))) with
   | true=>rw [c] at h;exact absurd h (by simp)
   | false=>
    rw [c] at h;simp only [af] at h;refine ⟨rfl,?_,?_,h⟩
    ·by_cases a:m=[]
     ·exact .inl a
     ·by_cases b:0<sea m
      ·exact .inr (.inl b)
      ·simp [a,b] at e;exact .inr (.inr e)
    ·by_cases a:d=[]
     ·exact .inl a
     ·by_cases b:m=[]
      ·simp [a,b] at c
      ·by_cases f:0<sea m
       ·simp [a,b,f] at c
       ·simp [a,b,f] at c;exact .inr ⟨b,by omega,c⟩
theorem l4 {s:aa} {g:Nat} (m:g<=31) (h:cX s g=true):s.length=2/\∀c∈s,isDX c=true:=by
 unfold cX at h;obtain ⟨i,f,hi⟩:=mC.1 h;have e:i<g:=jZ.1 f;have dig:∀k:Nat,k<10->isDX (UInt8.ofNat (48+k))=true:=by decide
 have d:isDX 88=true:=by decide
 match s,hi with
 | [],hi=>simp [agr] at hi
 | [_],hi=>simp [agr] at hi
 | [a,b],hi=>
  refine ⟨rfl,?_⟩;simp only [agr,av,eT,bu] at hi;obtain ⟨l,j⟩:=hi;intro c hc;simp only [cY,mR,oI] at hc;rcases hc with rfl | rfl
  ·rcases l with rfl | rfl
   ·exact d
   ·exact dig _ (by omega)
  ·rcases j with rfl | rfl
   ·exact d
   ·exact dig _ (by omega)
 | _::_::_::_,hi=>simp [agr] at hi
theorem BU {m:aa} (h:0<sea m):m.length=2/\∀c∈m,isDX c=true:=by
 rcases ka m with b | ⟨j,a,rfl⟩
 ·omega
 ·refine ⟨rfl,?_⟩;have:((List.range 21).all λj=>(two (21+j)).all isDX)=true:=by decide +kernel
  have:=(bz.1 this) j (by simpa using a);exact bz.1 this
theorem r4 {p:Nat->Bool} (h:(List.range 4).all p=true) {a:Nat} (b:a<4):p a=true:=(bz.1 h) a (jZ.2 b)
def inM (k:Nat) (A:Nat×Nat×Nat):Prop:=A.1<4/\A.2.1<4/\A.2.2<4/\(k<2->A.2.1=0)/\(k<3->A.2.2=0)
theorem wu {k:Nat} {A:Nat×Nat×Nat} (h:inM k A):allM (A.1:Int) (A.2.1:Int) (A.2.2:Int) k=0:=by
 obtain ⟨c,b,e,a,d⟩:=h;unfold allM;rw [ab (by omega)]
theorem cutD (r:Nat) (h:r<10):List.drop r (List.take (r+1) ([48,49,50,51,52,53,54,55,56,57]:aa))=[UInt8.ofNat (48+r)]:=by
 have:∀r,r<10->List.drop r (List.take (r+1) ([48,49,50,51,52,53,54,55,56,57]:aa))=[UInt8.ofNat (48+r)]:=by decide
 exact this r h
theorem qF {k:Nat} (h:k<10):(UInt8.ofNat (48+k)).toNat=48+k:=by
 rw [wN];exact nh (by omega)
theorem HQ (n a:Nat) (t:a<65536):∃d,gq n (a:Int)=some d/\d.length=4/\∀c∈d,bG c=true:=by
 have i:Int.tmod (a:Int) 10000=((a%10000:Nat):Int):=rfl;have g:a%10000<10000:=na _ (by decide);generalize a%10000=N at *;have q:Int.tdiv (N:Int) 1000=((N / 1000:Nat):Int):=rfl;have m:Int.tdiv (N:Int) 100=((N / 100:Nat):Int):=rfl;have h:Int.tdiv (N:Int) 10=((N / 10:Nat):Int):=rfl;have j:IntKind.wrap .u16 ((N / 1000:Nat):Int)=((N / 1000:Nat):Int):=pK _ (by omega) (by omega);have p:IntKind.wrap .u16 ((N / 100:Nat):Int)=((N / 100:Nat):Int):=pK _ (by omega) (by omega);have f:IntKind.wrap .u16 ((N / 10:Nat):Int)=((N / 10:Nat):Int):=pK _ (by omega) (by omega);have o:Int.tmod ((N / 100:Nat):Int) 10=((N / 100%10:Nat):Int):=rfl;have l:Int.tmod ((N / 10:Nat):Int) 10=((N / 10%10:Nat):Int):=rfl;have k:Int.tmod (N:Int) 10=((N%10:Nat):Int):=rfl;have s:∀r:Nat,r<10->IntKind.wrap .u16 ((r:Int)+1)=((r+1:Nat):Int):=λr e=>by rw [pK _ (by omega) (by omega)];omega
 refine ⟨[UInt8.ofNat (48+N / 1000),UInt8.ofNat (48+N / 100%10),UInt8.ofNat (48+N / 10%10),UInt8.ofNat (48+N%10)],?_,rfl,?_⟩
 ·simp only [gq,i,q,m,h,j,p,f,o,l,k,s (N / 1000) (by omega),s (N / 100%10) (by omega),s (N / 10%10) (by omega),s (N%10) (by omega),fC (show N / 1000+1<=10 by omega),fC (show N / 1000<=N / 1000+1 by omega),fC (show N / 100%10+1<=10 by omega),fC (show N / 100%10<=N / 100%10+1 by omega),fC (show N / 10%10+1<=10 by omega),fC (show N / 10%10<=N / 10%10+1 by omega),fC (show N%10+1<=10 by omega),fC (show N%10<=N%10+1 by omega),ob,cutD (N / 1000) (by omega),cutD (N / 100%10) (by omega),cutD (N / 10%10) (by omega),cutD (N%10) (by omega)];rw [pq (by simp)];simp only [];rw [pq (by simp)];simp only [];rw [pq (by simp)];rfl
 ·have b:∀r:Nat,r<10->bG (UInt8.ofNat (48+r))=true:=λr e=>(ec _).2 (by rw [qF e];omega);simp only [cY,mR,oI,tG,forall_eq];exact ⟨b _ (by omega),b _ (by omega),b _ (by omega),b _ (by omega)⟩
theorem qs (n:Nat) (g l:Bool) (d:aa) (x s:Int) (c:200<n) (e:d.length<=100) (h:okY false l d x s):∃b,(ob (bC n g l d x s) λr=>(cond (r==0) (some (false,l,d,x,s)) (some (g,l,d,x,s))))=some (b,l,d,x,s)/\okY b l d x s:=by
 rw [BS n g l d x s c e];by_cases a:okY g l d x s
 ·rw [ad a];exact ⟨g,rfl,a⟩
 ·rw [ab a];exact ⟨false,rfl,h⟩
theorem rE {d:aa} {s:Int} (b:d.length=4) (g:∀c∈d,bG c=true\/c=88) (a:0<=s) (f:s<=4) (e:¬(0<s/\hasX d=true)):okY false false d 0 s:=by
 have:okS false d 0 s:=⟨b,g,rfl,by simp,a,f,e⟩;simpa [okY] using this
theorem Im (n:Nat) (a b:Int) (g:Bool) (d:aa) (C:d.length=4) (z:∀c∈d,bG c=true) (B:4<n):
  ∃s:aa,aw (dh n) n (a,b,[],0,false,false,[],0,0,g,false,d,0,0)=some (s,false,false,[],0,0,g,false,d,0,0)/\s.length=4/\∀c∈s,bG c=true\/c=88:=by
 obtain ⟨y,p,s,v,m,r⟩:=kl (step:=dh n) (λx=>∃(i:Nat) (s:aa),i<=4/\s.length=i/\(∀c∈s,bG c=true\/c=88)/\x=(a,b,s,(i:Int),false,false,[],0,0,g,false,d,0,0)) (λx=>4 - x.2.2.2.1.toNat) (λy=>∃s:aa,y=(s,false,false,[],0,0,g,false,d,0,0)/\s.length=4/\∀c∈s,bG c=true\/c=88) (by
  rintro x ⟨i,s,hi,l,hc,rfl⟩;rcases aA i 4 with j | A
  ·obtain ⟨c,f⟩:∃c,d[i]?=some c:=⟨d[i],cn (by omega)⟩;have o:decide ((i:Int)<4)=true:=az (by omega);have t:IntKind.wrap .i64 ((i:Int)+1)=((i+1:Nat):Int):=by rw [wrap_i64 _ (by omega) (by omega)];omega
   have next:∀e:UInt8,(bG e=true\/e=88)->∃h,some (Sum.inl (a,b,s++[e],((i+1:Nat):Int),false,false,([]:aa),(0:Int),(0:Int),g,false,d,(0:Int),(0:Int)))=some (Sum.inl (β:=aa×Bool×Bool×aa×Int×Int×Bool×Bool×aa×Int×Int) h)/\(∃(i:Nat) (s:aa),i<=4/\s.length=i/\(∀c∈s,bG c=true\/c=88)/\h=(a,b,s,(i:Int),false,false,[],0,0,g,false,d,0,0))/\4 - h.2.2.2.1.toNat<4 - i:=by
    intro e w;refine ⟨_,rfl,⟨i+1,s++[e],j,by simp [l],?_,rfl⟩,by simp only [bV];omega⟩;intro u k;rcases mN.1 k with q | q
    ·exact hc u q
    ·simp only [cY,mR,oI] at q;rw [q];exact w
   simp only [dh,o,ar,t,bV,fC (show i+1<=d.length by omega),fC (show i<=i+1 by omega),ob,cut1 f];rw [pq (a:=s) (b:=[88]) (by simp;omega),pq (a:=s) (b:=[c]) (by simp;omega)];simp only [];left;cases ((i:Int)==a)
   ·cases ((i:Int)==b)
    ·exact next c (.inl (z c (gD f)))
    ·exact next 88 (.inr rfl)
   ·exact next 88 (.inr rfl)
  ·have:i=4:=by omega
   subst this;exact .inr ⟨_,rfl,s,rfl,l,hc⟩) n (a,b,[],0,false,false,[],0,0,g,false,d,0,0) ⟨0,[],by omega,rfl,by simp,rfl⟩ (by simp;omega)
 exact ⟨s,by rw [p,v],m,r⟩
theorem cut9 (r:Nat) (h:r<9):List.drop r (List.take (r+1) ([49,50,51,52,53,54,55,56,57]:aa))=[UInt8.ofNat (49+r)]:=by
 have:∀r,r<9->List.drop r (List.take (r+1) ([49,50,51,52,53,54,55,56,57]:aa))=[UInt8.ofNat (49+r)]:=by decide
 exact this r h
theorem xJ {d:aa} {x s:Nat} (b:∀c∈d,bG c=true) (j:1<=d.length) (m:d.length<=5) (i:d.head?≠some 48) (h:x<=11) (g:x=0->d.length=5) (o:s<=d.length+x):okY false true d (x:Int) (s:Int):=by
 have a:=ou d 0 0 b (by simp);have f:(10:Nat) ^ (d.length+0)<=10 ^ 5:=iE (by decide) (by omega);have k:(10:Nat) ^ x<=10 ^ 11:=iE (by decide) h;have n:=qY (Nat.le_of_lt (jQ a f)) k;have e:(10:Nat) ^ 5*10 ^ 11=E16:=by decide
 have:okL d (x:Int) (s:Int):=⟨⟨b,j,by omega,i,by omega,by omega,by rintro ⟨p,l⟩;have:=g (by omega);omega,by simp only [bV];omega⟩,by omega,by omega⟩;simpa [okY] using this
theorem GO (m t F a b:Nat) (g:Bool) (h2:F<65536) (h3:a<256) (h4:b<256):∃f l d x s,ga (m+300) (t:Int) g (F:Int) (a:Int) (b:Int)=some (f,l,d,x,s)/\okY f l d x s/\d.length<=5/\x<=11/\(t%6≠3->hasX d=false):=by
 obtain ⟨d,C,h,j⟩:=HQ (m+300) F h2;have z:∀c∈d,bG c=true\/c=88:=λc hc=>.inl (j c hc);have n:=pL j;unfold ga;rw [C];simp only [ob];cases R:(Int.tmod (t:Int) 6==3) with
 | true=>
  simp only [ar];obtain ⟨s,P,Y,O⟩:=Im (m+300) (IntKind.wrap .i64 (Int.tmod (a:Int) 4)) (IntKind.wrap .i64 (Int.tmod (b:Int) 4)) g d h j (by omega);rw [P];obtain ⟨f,k,i⟩:=qs (m+300) g false s 0 0 (by omega) (by omega) (rE Y O (by omega) (by omega) (by omega))
  exact ⟨f,false,s,0,0,k,i,by omega,by omega,λh3=>absurd (by
   have e:=bu.1 R;have e2:Int.tmod (t:Int) 6=((t%6:Nat):Int):=rfl;omega) h3⟩
 | false=>
  simp only [af];cases (Int.tmod (t:Int) 6==4) with
  | true=>
   simp only [ar];have e:Int.tmod (a:Int) 4=((a%4:Nat):Int):=rfl;have w1:IntKind.wrap .i64 ((a%4:Nat):Int)=((a%4:Nat):Int):=wrap_i64 _ (by omega) (by omega);have w2:IntKind.wrap .i64 (1+((a%4:Nat):Int))=((1+a%4:Nat):Int):=by rw [wrap_i64 _ (by omega) (by omega)];omega
   rw [e,w1,w2];obtain ⟨f,k,i⟩:=qs (m+300) g false d 0 ((1+a%4:Nat):Int) (by omega) (by omega) (rE h z (by omega) (by omega) (by rw [n];simp));exact ⟨f,false,d,0,_,k,i,by omega,by omega,λ_=>n⟩
  | false=>
   simp only [af];cases (Int.tmod (t:Int) 6==5) with
   | false=>
    simp only [af];obtain ⟨f,k,i⟩:=qs (m+300) g false d 0 0 (by omega) (by omega) (rE h z (by omega) (by omega) (by omega));exact ⟨f,false,d,0,0,k,i,by omega,by omega,λ_=>n⟩
   | true=>
    simp only [ar];have e9:Int.tmod (a:Int) 9=((a%9:Nat):Int):=rfl;have w9:IntKind.wrap .u8 (((a%9:Nat):Int)+1)=((a%9+1:Nat):Int):=by rw [fi _ (by omega) (by omega)];omega
    have e3:Int.tmod (b:Int) 3=((b%3:Nat):Int):=rfl;have e5:Int.tmod (b:Int) 5=((b%5:Nat):Int):=rfl;have w5:IntKind.wrap .u8 (1+((b%5:Nat):Int))=((1+b%5:Nat):Int):=by rw [fi _ (by omega) (by omega)];omega
    have M:Int.tdiv (b:Int) 16=((b / 16:Nat):Int):=rfl;have K:IntKind.wrap .u8 ((b / 16:Nat):Int)=((b / 16:Nat):Int):=fi _ (by omega) (by omega);have Z:Int.tmod ((b / 16:Nat):Int) 11=((b / 16%11:Nat):Int):=rfl;have T:IntKind.wrap .i64 ((b / 16%11:Nat):Int)=((b / 16%11:Nat):Int):=wrap_i64 _ (by omega) (by omega);have U:IntKind.wrap .i64 (1+((b / 16%11:Nat):Int))=((1+b / 16%11:Nat):Int):=by rw [wrap_i64 _ (by omega) (by omega)];omega
    have Q:Int.tdiv (a:Int) 16=((a / 16:Nat):Int):=rfl;have V:IntKind.wrap .u8 ((a / 16:Nat):Int)=((a / 16:Nat):Int):=fi _ (by omega) (by omega);have I:IntKind.wrap .i64 ((a / 16:Nat):Int)=((a / 16:Nat):Int):=wrap_i64 _ (by omega) (by omega);have G:UInt8.ofNat (49+a%9)≠48:=by
     intro q;have:=eN UInt8.toNat q;rw [show 49+a%9=48+(1+a%9) by omega,qF (by omega)] at this;exact absurd this (by show ¬48+(1+a%9)=48;omega)
    have o:bG (UInt8.ofNat (49+a%9))=true:=(ec _).2 (by rw [show 49+a%9=48+(1+a%9) by omega,qF (by omega)];omega);rw [e9,w9,fC (show a%9+1<=9 by omega)];simp only [];rw [fC (show a%9<=a%9+1 by omega)];simp only [];rw [cut9 (a%9) (by omega),pq (by simp;omega)];simp only [];generalize N:[UInt8.ofNat (49+a%9)]++d=D;have y:D.length=5:=by rw [<-N];simp [h]
    have u:∀c∈D,bG c=true:=by
     rw [<-N];intro c hc;simp only [jr,jt,cY] at hc;rcases hc with rfl | hc
     ·exact o
     ·exact j c hc
    have B:D.head?≠some 48:=by rw [<-N];simpa using G
    rw [e3,e5,w5,M,K,Z,T,U,Q,V,I];by_cases h33:0<b%3
    ·have L:decide (((b%3:Nat):Int)>0)=true:=az (by omega);rw [L,ar,fC (show 1+b%5<=D.length by omega)];simp only [ie];generalize H:List.take (1+b%5) D=E;have hEl:E.length=1+b%5:=by rw [<-H,eH];omega
     have w:∀c∈E,bG c=true:=by rw [<-H];exact λc hc=>u c (List.mem_of_mem_take hc)
     have J:E.head?≠some 48:=by
      rw [<-H];cases D with
      | nil=>simp at y
      | cons c r=>rw [oq,lz];simpa using B
     generalize hX:1+b / 16%11=X;have A:X<=11:=by omega
     have hX1:1<=X:=by omega
     have S:IntKind.wrap .i64 (IntKind.wrap .i64 (((E.length:Nat):Int)+((X:Nat):Int))+1)=((E.length+X+1:Nat):Int):=by
      rw [wrap_i64 (((E.length:Nat):Int)+((X:Nat):Int)) (by omega) (by omega),wrap_i64 _ (by omega) (by omega)];omega
     have p:(((E.length+X+1:Nat):Int)==0)=false:=bW.2 (by omega);rw [S,p,af];have W:Int.tmod ((a / 16:Nat):Int) ((E.length+X+1:Nat):Int)=((a / 16%(E.length+X+1):Nat):Int):=rfl;rw [W];have v:a / 16%(E.length+X+1)<E.length+X+1:=na _ (by omega);generalize a / 16%(E.length+X+1)=s at v ⊢;obtain ⟨f,k,i⟩:=qs (m+300) g true E ((X:Nat):Int) ((s:Nat):Int) (by omega) (by omega) (xJ w (by omega) (by omega) J A (by omega) (by omega));exact ⟨f,true,E,_,_,k,i,by omega,by omega,λ_=>pL w⟩
    ·have L:decide (((b%3:Nat):Int)>0)=false:=ay (by omega);rw [L,af,y];have S:IntKind.wrap .i64 (IntKind.wrap .i64 (((5:Nat):Int)+0)+1)=((6:Nat):Int):=by decide
     have p:(((6:Nat):Int)==0)=false:=rfl;rw [S,p,af];have W:Int.tmod ((a / 16:Nat):Int) ((6:Nat):Int)=((a / 16%6:Nat):Int):=rfl;rw [W];have v:a / 16%6<6:=na _ (by omega);generalize a / 16%6=s at v ⊢;obtain ⟨f,k,i⟩:=qs (m+300) g true D ((0:Nat):Int) ((s:Nat):Int) (by omega) (by omega) (xJ u (by omega) (by omega) B (by omega) (by omega) (by omega));exact ⟨f,true,D,_,_,k,i,by omega,by omega,λ_=>pL u⟩
def monT (j:Nat):aa:=if j=0 then [] else if j<=12 then two j else if j<=33 then two (j+8) else ([[48,88],[49,88],[88,50],[88,88],[88,48],[88,57]]:List (aa)).getD (j - 34) []
def Ku (m:aa):Nat:=if m=[48,50] then 28 else if m=[48,52]\/m=[48,54]\/m=[48,57]\/m=[49,49]\/m=[88,57] then 30 else 31
def dayT (j:Nat) (m:aa):aa:=if j=0 then [] else if j<=31 then two (min j (Ku m)) else if m=[48,50]/\j=35 then [50,88] else ([[48,88],[49,88],[50,88],[51,88],[88,48],[88,49],[88,88],[88,56]]:List (aa)).getD (j - 32) []
theorem r40 {p:Nat->Bool} (h:(List.range 40).all p=true) {a:Nat} (b:a<40):p a=true:=(bz.1 h) a (jZ.2 b)
noncomputable def GK (m:Nat) (e:Int) (h:Bool) (a i d c b f g:Int) (j:Nat):Bool:=df (m+300) e h a i d (j:Int) c b f g==some (monT j)
theorem Dz (m:Nat) (e:Int) (h:Bool) (a i d c b f g:Int):((List.range 40).all λj=>GK m e h a i d c b f g j)=true:=by kernel_rfl
theorem Ha (a:Nat) (h:a<256):IntKind.wrap .i64 (Int.tmod (a:Int) 40)=((a%40:Nat):Int):=by
 have:Int.tmod (a:Int) 40=((a%40:Nat):Int):=rfl;rw [this,wrap_i64 _ (by omega) (by omega)]
theorem GG (j:Nat) (h:j<40):IntKind.wrap .i64 (Int.tmod (j:Int) 40)=((j:Nat):Int):=by
 rw [Ha j (by omega)];have:j%40=j:=by omega
 rw [this]
theorem zD (m:Nat) (g:Int) (j:Bool) (c n l:Int) (b:Nat) (d e i k:Int) (h:b<256):df (m+300) g j c n l (b:Int) d e i k=some (monT (b%40)):=by
 have f:b%40<40:=by omega
 have a:=r40 (Dz m g j c n l d e i k) f;unfold GK at a;have a:=bu.1 a;unfold df at a ⊢;rw [GG _ f] at a;rw [Ha _ h];exact a
theorem Hf {j:Nat} (h:j<40):monT j=[]\/0<sea (monT j)\/(sea (monT j)=0/\cX (monT j) 12=true):=by
 have:((List.range 40).all λj=>decide (monT j=[])||(decide (0<sea (monT j))||(decide (sea (monT j)=0)&&cX (monT j) 12)))=true:=by decide +kernel
 have:=r40 this h;simpa using this
theorem Dw {j:Nat} (h:j<40) (a:sea (monT j)=0) (b:monT j≠[]):monT j∈((List.range 12).map λi=>two (i+1))++[[48,88],[49,88],[88,50],[88,88],[88,48],[88,57]]:=by
 have:((List.range 40).all λj=>!decide (sea (monT j)=0)||(decide (monT j=[])||decide (monT j∈((List.range 12).map λi=>two (i+1))++[[48,88],[49,88],[88,50],[88,88],[88,48],[88,57]])))=true:=by decide +kernel
 have:=r40 this h;rw [az a,ay b] at this;simpa using this
noncomputable def Gu (m:Nat) (f:Int) (i:Bool) (b k d e c g h:Int) (a:aa) (j:Nat):Bool:=dZ (m+300) f i b k d e (j:Int) c g h a==some (dayT j a)
theorem BL (m:Nat) (f:Int) (k:Bool) (a l c e b g h:Int):((((List.range 12).map λi=>two (i+1))++[[48,88],[49,88],[88,50],[88,88],[88,48],[88,57]]).all λd=>(List.range 40).all λj=>Gu m f k a l c e b g h d j)=true:=by kernel_rfl
theorem D5 (m:Nat) (j:Int) (l:Bool) (d p o g:Int) (b:Nat) (e k n:Int) (c:aa) (q:c∈((List.range 12).map λi=>two (i+1))++[[48,88],[49,88],[88,50],[88,88],[88,48],[88,57]]) (h:b<256):dZ (m+300) j l d p o g (b:Int) e k n c=some (dayT (b%40) c):=by
 have f:b%40<40:=by omega
 have a:=r40 ((bz.1 (BL m j l d p o g e k n)) c q) f;unfold Gu at a;have a:=bu.1 a;unfold dZ at a ⊢;rw [GG _ f] at a;rw [Ha _ h];exact a
theorem Hh {j:Nat} (h:j<40) {a:aa} (b:a∈((List.range 12).map λi=>two (i+1))++[[48,88],[49,88],[88,50],[88,88],[88,48],[88,57]]):dayT j a=[]\/cX (dayT j a) 31=true:=by
 have:((((List.range 12).map λi=>two (i+1))++[[48,88],[49,88],[88,50],[88,88],[88,48],[88,57]]).all λa=>(List.range 40).all λj=>decide (dayT j a=[])||cX (dayT j a) 31)=true:=by decide +kernel
 have:=r40 ((bz.1 this) a b) h;simpa using this
def mksT (k a b c:Nat):Nat×Nat×Nat:=(a%4,if 1<k then b%4 else 0,if 2<k then c%4 else 0)
theorem G2 (k a b c:Nat):allM ((mksT k a b c).1:Int) ((mksT k a b c).2.1:Int) ((mksT k a b c).2.2:Int) k=0:=by
 apply wu;refine ⟨by simp only [mksT];omega,?_,?_,?_,?_⟩
 ·simp only [mksT];split<;>omega
 ·simp only [mksT];split<;>omega
 ·intro h;simp only [mksT];rw [ab (by omega)]
 ·intro h;simp only [mksT];rw [ab (by omega)]
theorem EU {g l:Bool} {d:aa} {x s:Int} (h:okY g l d x s) (c:d.length<=5) (i:x<=11):sa g d x=false:=by
 unfold sa;cases j:hasX d with
 | true=>rfl
 | false=>
  obtain ⟨k,q,rfl,rfl,e⟩:=th h j;have a:=ou d 0 0 e.dig (by decide);rw [dG] at a;have m:dval 0 d<10 ^ 5:=jQ a (iE (by omega) c);have b:10 ^ k<=10 ^ 11:=iE (by omega) (by omega);have f:val d k≠E16:=by
   unfold val E16;have:dval 0 d*10 ^ k<=99999*10 ^ 11:=qY (by omega) b;omega
  rw [bV,ay f];simp
theorem Iw {g l:Bool} {dg:aa} {x q:Int} {m d:aa} {k0 k1 k2:Int} (h:okY g l dg x q) (o:sa g dg x=false) (p:0<q->m=[]) (c:m=[]\/0<sea m\/(sea m=0/\cX m 12=true)) (r:d=[]\/(m≠[]/\sea m=0/\cX d 31=true)) (i:allM k0 k1 k2 (ju m d)=0):chkD g l dg x q m d k0 k1 k2=0:=by
 have e:yrD g l dg x q m=true:=by
  unfold yrD yrB;rw [ad h,o];by_cases a:0<q
  ·rw [p a];simp
  ·simp [a]
 unfold chkD;rw [e,i];have j:(!(m==[])&&(!(decide (0<sea m))&&!(cX m 12)))=false:=by
  rcases c with h | h | ⟨_,h⟩
  ·rw [h];rfl
  ·rw [az h];simp
  ·rw [h];simp
 have n:(!(d==[])&&((m==[])||(decide (0<sea m)||!(cX d 31))))=false:=by
  rcases r with h | ⟨f,k,b⟩
  ·rw [h];rfl
  ·rw [bW.2 f,k,b];simp
 rw [j,n];rfl
def minL (a:Nat):Nat:=if a=2 then 28 else if a=4\/a=6\/a=9\/a=11 then 30 else 31
def fitD (a d:aa):Bool:=(List.range' 1 12).any λi=>agr a i&&(List.range' 1 (minL i)).any (agr d)
theorem Ig:((((List.range 12).map λi=>two (i+1))++[[48,88],[49,88],[88,50],[88,88],[88,48],[88,57]]).all λa=>(List.range 40).all λj=>(dayT j a==[])||fitD a (dayT j a))=true:=by decide +kernel
theorem Fj {j:Nat} (h:j<40) {a:aa} (b:a∈((List.range 12).map λi=>two (i+1))++[[48,88],[49,88],[88,50],[88,88],[88,48],[88,57]]):dayT j a=[]\/fitD a (dayT j a)=true:=by
 have:=r40 ((bz.1 Ig) a b) h;simp only [eT,bu] at this;exact this
theorem Dv (n:Nat) (g l:Bool) (dg:aa) (x q:Int) (m d:aa) (k0 k1 k2:Int) (a:m.length<=18):aC n g l dg x q m d k0 k1 k2=some (if d=[] then (if 0<sea m then 0 else if m=[] then 1 else 2) else 3):=by
 unfold aC;rw [nX n g l dg x q m d k0 k1 k2 a];by_cases c:d=[]
 ·rw [ad c,c];show cond (decide (0<sea m)) _ _=_;rw [bA];by_cases b:0<sea m
  ·rw [ad b,ad b]
  ·rw [ab b,ab b];by_cases a:m=[]
   ·rw [ad a,a];rfl
   ·rw [ab a,bW.2 a];rfl
 ·rw [ab c,bW.2 c];rfl
theorem yF (a b:aa):hasX (a++b)=(hasX a||hasX b):=by unfold hasX;rw [List.any_append]
theorem BF (n:Nat) (g l:Bool) (dg:aa) (x q:Int) (m d:aa) (k0 k1 k2:Int) (a:m.length<=1000) (b:dg.length<=1000) (h:d.length<=1000):
  bU n g l dg x q m d k0 k1 k2=some (hasX dg||(hasX m||hasX d)):=by
 unfold bU;rw [pq (by omega)];simp only [ob];rw [pq (by simp only [iQ];omega)];simp only [ob];rw [vW,yF,yF,Bool.or_assoc]
def zE (d:aa) (k q:Nat):Nat×Nat:=if 0<q then (val d k / 10 ^ (d.length+k - q)*10 ^ (d.length+k - q),min (val d k / 10 ^ (d.length+k - q)*10 ^ (d.length+k - q)+10 ^ (d.length+k - q) - 1) E16) else (val d k,val d k)
def sgn (g:Bool) (p:Nat×Nat):Int×Int:=if g then (-(p.2:Int),-(p.1:Int)) else ((p.1:Int),(p.2:Int))
def fY (z:UInt8) (d:aa):aa:=d.map λc=>if c=88 then z else c
theorem oa (z:UInt8) (d:aa):(fY z d).length=d.length:=by simp [fY]
theorem qg {z:UInt8} (e:bG z=true) {d:aa} (h:∀c∈d,bG c=true\/c=88):∀c∈fY z d,bG c=true:=by
 intro c hc;obtain ⟨b,f,rfl⟩:=eC.1 hc;by_cases a:b=88
 ·rw [ad a];exact e
 ·rw [ab a];exact (h b f).resolve_right a
theorem Aq {z:UInt8} {d:aa} {i:Nat} {c:UInt8} (h:d[i]?=some c):(fY z d)[i]?=some (if c=88 then z else c):=by
 simp [fY,h]
def nB (d:aa):Nat:=10 ^ (d.reverse.takeWhile (λc=>c != 88)).length
def sg (g:Bool) (d:aa):Nat×Nat:=(if g=true/\dval 0 (fY 48 d)=0 then nB d else dval 0 (fY 48 d),dval 0 (fY 57 d))
theorem Bf {d:aa} (m:d.length=4) (h:∀c∈d,bG c=true\/c=88) (j:dval 0 (fY 48 d)=0):∀c∈d,c=48\/c=88:=by
 match d,m with
 | [a,b,c,e],_=>
  have g:=qg (z:=48) (by decide) h;have l:dval 0 (fY 48 [a,b,c,e])=((((0*10+((if a=88 then (48:UInt8) else a).toNat - 48))*10+((if b=88 then (48:UInt8) else b).toNat - 48))*10+((if c=88 then (48:UInt8) else c).toNat - 48))*10+((if e=88 then (48:UInt8) else e).toNat - 48)):=by
   simp only [fY,fU,List.map_nil,kq,kG,pF]
  rw [l] at j;have key:∀x:UInt8,bG (if x=88 then (48:UInt8) else x)=true->(if x=88 then (48:UInt8) else x).toNat - 48=0->x=48\/x=88:=by
   intro x i k;by_cases f:x=88
   ·exact .inr f
   ·rw [ab f] at i k;have:=(ec x).1 i;exact .inl (gU.1 (by show x.toNat=48;omega))
  simp only [fY,fU,List.map_nil,cY,mR,oI,tG,forall_eq] at g ⊢;exact ⟨key a g.1 (by omega),key b g.2.1 (by omega),key c g.2.2.1 (by omega),key e g.2.2.2 (by omega)⟩
theorem zW {d:aa} (v:d.length=4) (h:∀c∈d,c=48\/c=88) (m:hasX d=true) (P:aa->Prop) (y:P [48,48,48,88]) (w:P [48,48,88,48]) (u:P [48,48,88,88]) (s:P [48,88,48,48]) (t:P [48,88,48,88]) (x:P [48,88,88,48]) (o:P [48,88,88,88]) (q:P [88,48,48,48]) (n:P [88,48,48,88]) (z:P [88,48,88,48]) (k:P [88,48,88,88]) (j:P [88,88,48,48]) (i:P [88,88,48,88]) (f:P [88,88,88,48]) (g:P [88,88,88,88]):P d:=by
 match d,v with
 | [a,b,c,e],_=>
  simp only [cY,mR,oI,tG,forall_eq] at h;obtain ⟨p,l,hc,r⟩:=h;rcases p with rfl | rfl<;>rcases l with rfl | rfl<;>rcases hc with rfl | rfl<;>rcases r with rfl | rfl
  ·exact absurd m (by decide)
  ·exact y
  ·exact w
  ·exact u
  ·exact s
  ·exact t
  ·exact x
  ·exact o
  ·exact q
  ·exact n
  ·exact z
  ·exact k
  ·exact j
  ·exact i
  ·exact f
  ·exact g
def kU (g:Bool) (d:aa) (x s:Int):Nat×Nat:=if hasX d then sg g d else zE d x.toNat s.toNat
theorem Il {d:aa} {k q:Nat} (h:Num d k q):(zE d k q).1<=val d k/\val d k<=(zE d k q).2/\(zE d k q).2<=E16:=by
 have a:=h.small;have e:dval 0 d*10 ^ k=val d k:=rfl;rw [e] at a;unfold zE;split
 ·have b:1<=10 ^ (d.length+k - q):=Nat.one_le_pow _ _ (by decide);generalize 10 ^ (d.length+k - q)=u at b ⊢;generalize val d k=v at a ⊢;have c:=Nat.div_mul_le_self v u;have f:v<v / u*u+u:=by
   have h:=Nat.div_add_mod v u;have:=na v b;rw [qE] at h;omega
  refine ⟨c,?_,Nat.min_le_right _ _⟩;rw [Nat.le_min];omega
 ·exact ⟨aL _,aL _,a⟩
def mtk (d:aa):Nat->Nat->Bool
 | 0,_=>true
 | k+1,w=>(decide (d.getD k 0=88)||decide ((d.getD k 0).toNat=48+w%10))&&mtk d k (w / 10)
theorem xG (d:aa) (k w:Nat):mtk d (k+1) w=((decide (d.getD k 0=88)||decide ((d.getD k 0).toNat=48+w%10))&&mtk d k (w / 10)):=rfl
theorem yY {d:aa} {k:Nat} {c:UInt8} (h:d[k]?=some c):d.getD k 0=c:=by
 rw [yI,h];rfl
def zJ (d:aa) (k q:Nat):Nat:=if 0<q then 10 ^ (d.length+k - q) else 1
def memP (d:aa) (x s:Int) (w:Nat):Prop:=if hasX d=true then mtk d 4 w=true/\w / 10 ^ 4=0 else val d x.toNat / zJ d x.toNat s.toNat=w / zJ d x.toNat s.toNat
instance (d:aa) (x s:Int) (w:Nat):Decidable (memP d x s w):=by unfold memP;infer_instance
def wOf (g:Bool) (v:Int):Int:=if g then -v else v
def inP (g:Bool) (d:aa) (x s v:Int):Prop:=-10000000000000000<=v/\v<=10000000000000000/\0<=wOf g v/\¬(hasX d=true/\g=true/\wOf g v=0)/\memP d x s (wOf g v).toNat
instance (g:Bool) (d:aa) (x s v:Int):Decidable (inP g d x s v):=by unfold inP;infer_instance
theorem Jg {d:aa} {x s:Int} {w:Nat} (a:hasX d=true):memP d x s w↔mtk d 4 w=true/\w / 10 ^ 4=0:=by unfold memP;rw [ad a]
theorem Iq {d:aa} {x s:Int} {w:Nat} (a:hasX d=false):memP d x s w↔val d x.toNat / zJ d x.toNat s.toNat=w / zJ d x.toNat s.toNat:=by unfold memP;rw [ab (by rw [a];simp)]
def loK (d:aa) (k:Nat):Nat:=dval 0 ((fY 48 d).take k)
def hiK (d:aa) (k:Nat):Nat:=dval 0 ((fY 57 d).take k)
theorem rP (z:UInt8) {d:aa} {k:Nat} {c:UInt8} (h:d[k]?=some c):dval 0 ((fY z d).take (k+1))=dval 0 ((fY z d).take k)*10+((if c=88 then z else c).toNat - 48):=by
 rw [Kz (Aq h),yn]
theorem uS (d:aa) (j:d.length=4) (m:∀c∈d,bG c=true\/c=88):∀(k w:Nat),k<=4->w<10 ^ k->mtk d k w=true->loK d k<=w/\w<=hiK d k
 | 0,w,g,e,b=>by
  simp at e;subst e;simp [loK,hiK,kG]
 | k+1,w,g,e,b=>by
  obtain ⟨c,hc⟩:∃c,d[k]?=some c:=⟨d[k],cn (by omega)⟩;rw [xG,yY hc,av,eT,bY,bY] at b;have n:(10:Nat) ^ (k+1)=10 ^ k*10:=oY 10 k;have ih:=uS d j m k (w / 10) (by omega) (by omega) b.2;have f:=rP 48 hc;have h:=rP 57 hc;unfold loK hiK at ih ⊢;rw [f,h];by_cases a:c=88
  ·rw [ad a,ad a];have l:(48:UInt8).toNat - 48=0:=rfl;have i:(57:UInt8).toNat - 48=9:=rfl;rw [l,i];omega
  ·rw [ab a,ab a];have:=b.1.resolve_left a;omega
theorem tM (z:UInt8) (g:bG z=true) (d:aa) (m:d.length=4) (i:∀c∈d,bG c=true\/c=88):∀k,k<=4->mtk d k (dval 0 ((fY z d).take k))=true
 | 0,_=>rfl
 | k+1,o=>by
  obtain ⟨c,hc⟩:∃c,d[k]?=some c:=⟨d[k],cn (by omega)⟩;have ih:=tM z g d m i k (by omega);have f:bG (if c=88 then z else c)=true:=by
   by_cases e:c=88
   ·rw [ad e];exact g
   ·rw [ab e];exact (i c (gD hc)).resolve_right e
  have j:=(ec _).1 f;rw [xG,yY hc,rP z hc];generalize h:(if c=88 then z else c)=b at j ⊢;generalize dval 0 ((fY z d).take k)=a at ih ⊢;have n:(a*10+(b.toNat - 48)) / 10=a:=by omega
  have l:(a*10+(b.toNat - 48))%10=b.toNat - 48:=by omega
  rw [n,l,ih,AV];by_cases e:c=88
  ·rw [az e];rfl
  ·rw [ab e] at h;rw [h,az (show b.toNat=48+(b.toNat - 48) by omega),Bool.or_true]
def tU:List (aa):=[[48,48,48,88],[48,48,88,48],[48,48,88,88],[48,88,48,48],[48,88,48,88],[48,88,88,48],[48,88,88,88],[88,48,48,48],[88,48,48,88],[88,48,88,48],[88,48,88,88],[88,88,48,48],[88,88,48,88],[88,88,88,48],[88,88,88,88]]
theorem KE:tU.all (λd=>mtk d 4 (nB d)&&decide (1<=nB d)&&decide (nB d<=1000)&&(List.range 1000).all (λw=>decide (w=0)||!mtk d 4 w||decide (nB d<=w)))=true:=by decide +kernel
theorem vv {d:aa} (j:d∈tU):mtk d 4 (nB d)=true/\1<=nB d/\nB d<=1000/\∀w,1<=w->mtk d 4 w=true->nB d<=w:=by
 have h:=bz.1 KE d j;simp only [av,bY,bz,jZ,eT,kj] at h;obtain ⟨⟨⟨e,g⟩,b⟩,f⟩:=h;refine ⟨e,g,b,λw k c=>?_⟩;rcases aA w 1000 with a | i
 ·rcases f w a with (h | h) | h
  ·omega
  ·rw [c] at h;cases h
  ·exact h
 ·omega
theorem vT {d:aa} (a:d.length=4) (f:∀c∈d,bG c=true\/c=88) (e:hasX d=true) (b:dval 0 (fY 48 d)=0):d∈tU:=
 zW a (Bf a f b) e (λd=>d∈tU) (by decide) (by decide) (by decide) (by decide) (by decide) (by decide) (by decide) (by decide) (by decide) (by decide) (by decide) (by decide) (by decide) (by decide) (by decide)
theorem G9 {d:aa} (a:d.length=4):loK d 4=dval 0 (fY 48 d):=by
 unfold loK;rw [fO (by rw [oa];omega)]
theorem HV {d:aa} (a:d.length=4):hiK d 4=dval 0 (fY 57 d):=by
 unfold hiK;rw [fO (by rw [oa];omega)]
theorem Fb {g:Bool} {d:aa} (b:d.length=4) (e:∀c∈d,bG c=true\/c=88) (u:hasX d=true):
  (sg g d).1<10000/\(sg g d).2<10000/\mtk d 4 (sg g d).1=true/\mtk d 4 (sg g d).2=true/\1<=(sg g d).2/\(g=true->1<=(sg g d).1)/\∀w,w<10000->mtk d 4 w=true->(g=true->1<=w)->(sg g d).1<=w/\w<=(sg g d).2:=by
 have v:(10:Nat) ^ 4=10000:=by decide
 have p:=qg (z:=48) (by decide) e;have t:=qg (z:=57) (by decide) e;have q:=ou (fY 48 d) 0 0 p (by simp);have s:=ou (fY 57 d) 0 0 t (by simp);rw [oa,b,dG,v] at q s;have r:=tM 48 (by decide) d b e 4 (by omega);have o:=tM 57 (by decide) d b e 4 (by omega);rw [fO (by rw [oa];omega)] at r o;have l:∀w,w<10000->mtk d 4 w=true->dval 0 (fY 48 d)<=w/\w<=dval 0 (fY 57 d):=λw k h=>by
  have:=uS d b e 4 w (by omega) (by omega) h;rw [G9 b,HV b] at this;exact this
 have j:1<=dval 0 (fY 57 d):=by
  rcases uz (dval 0 (fY 57 d)) with i | i
  ·exfalso;have f:dval 0 (fY 48 d)=0:=by
    have:=(l _ q r).2;omega
   have n:=vT b e u f;have a:=vv n;have:=(l _ (by omega) a.1).2;omega
  ·exact i
 unfold sg;by_cases f:g=true/\dval 0 (fY 48 d)=0
 ·rw [ad f];have a:=vv (vT b e u f.2);refine ⟨by simp only;omega,s,a.1,o,j,λ_=>a.2.1,λw k h m=>⟨a.2.2.2 w (m f.1) h,(l w k h).2⟩⟩
 ·rw [ab f];refine ⟨q,s,r,o,j,λm=>?_,λw k h m=>l w k h⟩;simp only;rcases uz (dval 0 (fY 48 d)) with i | i
  ·exact absurd ⟨m,i⟩ f
  ·exact i
theorem EL {g l:Bool} {d:aa} {x s:Int} (e:okY g l d x s):(kU g d x s).1<=10000000000000000/\(kU g d x s).2<=10000000000000000/\memP d x s (kU g d x s).1/\memP d x s (kU g d x s).2/\(hasX d=true->1<=(kU g d x s).2/\(g=true->1<=(kU g d x s).1))/\
  ∀w,w<=10000000000000000->memP d x s w->(hasX d=true->g=true->1<=w)->(kU g d x s).1<=w/\w<=(kU g d x s).2:=by
 unfold kU memP;cases n:hasX d with
 | true=>
  obtain ⟨rfl,rfl,rfl,P,I⟩:=qK e n;obtain ⟨G,L,O,K,H,D,C⟩:=Fb (g:=g) P I n;have N:(10:Nat) ^ 4=10000:=by decide
  simp only [aY,N];refine ⟨by omega,by omega,⟨O,Nat.div_eq_of_lt G⟩,⟨K,Nat.div_eq_of_lt L⟩,λ_=>⟨H,D⟩,λw t j J=>C w (by omega) j.1 (J trivial)⟩
 | false=>
  obtain ⟨k,q,rfl,rfl,z⟩:=th e n;have E:=z.small;have M:dval 0 d*10 ^ k=val d k:=rfl;rw [M] at E;obtain ⟨f,i,b⟩:=Il z;unfold E16 at b;simp only [bT,aE,bV];unfold zJ;unfold zE at f i b ⊢;by_cases m:0<q
  ·rw [ad m] at f i b ⊢;rw [ad m];have y:1<=10 ^ (d.length+k - q):=Nat.one_le_pow _ _ (by decide);generalize 10 ^ (d.length+k - q)=u at *;generalize val d k=v at *;simp only at f i b ⊢;have c:v / u*u / u=v / u:=Nat.mul_div_cancel _ y;have o:∀w,v / u*u<=w->w<v / u*u+u->w / u=v / u:=by
    intro w B r;apply Nat.div_eq_of_lt_le
    ·exact B
    ·rw [Nat.succ_mul];exact r
   have a:∀w,v / u=w / u->v / u*u<=w/\w<v / u*u+u:=by
    intro w h;rw [h];have B:=Nat.div_mul_le_self w u;have r:=Nat.div_add_mod w u;have Q:=na w y;rw [qE] at r;omega
   have A:min (v / u*u+u - 1) E16<=v / u*u+u - 1:=Nat.min_le_left _ _;have p:=a v rfl;refine ⟨by omega,b,c.symm,(o _ (by omega) (by omega)).symm,λq=>(by cases q),λw t j _=>?_⟩;obtain ⟨F,R⟩:=a w j;refine ⟨F,?_⟩;rw [Nat.le_min];unfold E16;omega
  ·rw [ab m] at f i b ⊢;rw [ab m];simp only [um] at f i b ⊢;refine ⟨b,b,trivial,trivial,λq=>(by cases q),λw t j _=>by omega⟩
theorem Ce {g l:Bool} {d:aa} {x s:Int} (k:okY g l d x s):inP g d x s (sgn g (kU g d x s)).1/\inP g d x s (sgn g (kU g d x s)).2/\∀v,inP g d x s v->(sgn g (kU g d x s)).1<=v/\v<=(sgn g (kU g d x s)).2:=by
 obtain ⟨i,o,t,m,j,f⟩:=EL k;generalize kU g d x s=y at *;obtain ⟨lo,hi⟩:=y;simp only at i o t m j f;cases g with
 | true=>
  have b:∀a:Nat,wOf true (-(a:Int))=(a:Int):=λa=>by unfold wOf;simp
  have mk:∀a:Nat,a<=10000000000000000->memP d x s a->(hasX d=true->1<=a)->inP true d x s (-(a:Int)):=by
   intro a C r z;refine ⟨by omega,by omega,by rw [b];omega,λq=>?_,by rw [b,bV];exact r⟩;have:=z q.1;have B:=q.2.2;rw [b] at B;omega
  simp only [sgn,aY];refine ⟨mk hi o m (λh=>(j h).1),mk lo i t (λh=>(j h).2 rfl),λv n=>?_⟩;obtain ⟨D,A,w,p,c⟩:=n;have u:wOf true v=-v:=rfl;rw [u] at w p c
  have:=f (-v).toNat (by omega) c (λE _=>by
   have:¬-v=0:=λe=>p ⟨E,rfl,e⟩;omega)
  omega
 | false=>
  have b:∀a:Int,wOf false a=a:=λa=>rfl;have mk:∀a:Nat,a<=10000000000000000->memP d x s a->inP false d x s (a:Int):=by
   intro a C r;exact ⟨by omega,by omega,by rw [b];omega,λq=>(by cases q.2.1),by rw [b,bV];exact r⟩
  simp only [sgn,bT,aE];refine ⟨mk lo i t,mk hi o m,λv n=>?_⟩;obtain ⟨D,A,w,p,c⟩:=n;rw [b] at w c;have:=f v.toNat (by omega) c (λ_ q=>by cases q);omega
end Go.Sh
namespace Go.Sh.Mk
open Go.Abs
def okB (c:UInt8):Bool:=c.toNat==88||(decide (48<=c.toNat)&&decide (c.toNat<=57))
def chk (s:aa):Int:=if 18<s.length then 3 else if s.all okB then (if s=[] then 5 else 0) else 5
theorem pH (n:Nat) (s0 s:aa) (t:s.length+1<n):
  aw (ei n) n (s0,s,0)=some (if s.all okB then .inr s0 else .inl 5):=by
 have:=eO (step:=ei n) (λx=>x.1=s0/\x.2.1=s/\x.2.2<=s.length) (λx=>s.length - x.2.2)
  (λx=>if (s.drop x.2.2).all okB then .inr s0 else .inl 5) ?_ n (s0,s,0) ⟨rfl,rfl,mQ _⟩ (by simp;omega)
 ·simpa using this
 rintro ⟨a,b,i⟩ ⟨rfl,rfl,hi⟩;simp only at hi ⊢;rcases aA i b.length with g | o
 ·obtain ⟨c,hc⟩:∃c,b[i]?=some c:=⟨b[i],cn g⟩;have m:Nat.blt i b.length=true:=cZ g;rw [gX hc,kg];simp only [ei,m,ar];by_cases k:c.toNat<128
  ·rw [xi hc k];by_cases l:c.toNat=88
   ·refine .inl ⟨(a,b,i+1),by simp [l],⟨rfl,rfl,by simp only;omega⟩,by simp only;omega,?_⟩;simp [okB,l]
   ·by_cases p:c.toNat<48
    ·refine .inr ?_;have f:(((c.toNat:Nat):Int) != 88)=true:=by simp;omega
     have e:(decide (((c.toNat:Nat):Int)<48))=true:=by simp;omega
     have d:okB c=false:=by simp [okB];omega
     simp [f,e,d]
    ·by_cases q:57<c.toNat
     ·refine .inr ?_;have f:(((c.toNat:Nat):Int) != 88)=true:=by simp;omega
      have e:(decide (((c.toNat:Nat):Int)<48))=false:=by simp;omega
      have j:(decide (((c.toNat:Nat):Int)>57))=true:=by simp;omega
      have d:okB c=false:=by simp [okB];omega
      simp [f,e,d,j]
     ·have f:(((c.toNat:Nat):Int) != 88)=true:=by simp;omega
      have e:(decide (((c.toNat:Nat):Int)<48))=false:=by simp;omega
      have j:(decide (((c.toNat:Nat):Int)>57))=false:=by simp;omega
      have d:okB c=true:=by simp [okB];omega
      refine .inl ⟨(a,b,i+1),by simp only [f,e,j,ar,af],⟨rfl,rfl,by simp only;omega⟩,by simp only;omega,?_⟩;simp [d]
  ·obtain ⟨r,u⟩:=xX hc (by omega);refine .inr ?_;have f:((((dec b i).1:Nat):Int) != 88)=true:=by simp;omega
   have e:(decide ((((dec b i).1:Nat):Int)<48))=false:=by simp;omega
   have j:(decide ((((dec b i).1:Nat):Int)>57))=true:=by simp;omega
   have d:okB c=false:=by simp [okB];omega
   simp [f,e,d,j]
 ·have m:Nat.blt i b.length=false:=by
   cases h:Nat.blt i b.length with
   | false=>rfl
   | true=>have:i<b.length:=ax h;omega
  refine .inr ?_;simp only [ei,m,af];rw [nv o];rfl
theorem ib (n:Nat) (s:aa) (c:30<=n):eP n s=some (chk s):=by
 unfold eP chk;by_cases h:18<s.length
 ·have:(decide (((List.length s:Nat):Int)>18))=true:=by simp;omega
  simp [this,h]
 ·have e:(decide (((List.length s:Nat):Int)>18))=false:=by simp;omega
  simp only [e,af,h,aE];rw [pH n s s (by omega)];by_cases b:s.all okB=true
  ·simp only [b,aY,ob];by_cases a:s=[]
   ·simp [a]
   ·have:(s==([]:aa))=false:=by simpa using a
    simp [this,a]
  ·simp [b,ob]
theorem jw {s:aa} (h:chk s=0):s.length<=18/\s≠[]/\∀c∈s,okB c=true:=by
 unfold chk at h;split at h
 ·simp at h
 ·split at h
  ·rename_i a;split at h
   ·simp at h
   ·rename_i b;exact ⟨by omega,b,by simpa using a⟩
  ·simp at h
def nums (l:aa):List Int:=l.map λb=>((b.toNat:Nat):Int)
def over (d:List Int) (i:Nat) (l:List Int):List Int:=d.take i++(l++d.drop (i+l.length))
theorem uG (d:List Int) (i:Nat) (x:Int) (l:List Int) (h:i<d.length):over (d.set i x) (i+1) l=over d i (x::l):=by
 unfold over;rw [show (d.set i x).take (i+1)=d.take i++[x] from by
  rw [AS (by simpa using h)];simp [List.take_set_of_le]]
 rw [List.drop_set_of_lt (by omega)];simp [fN,oq 1]
theorem yL (d:List Int) (i:Nat):over d i []=d:=by simp [over]
theorem EO (d:List Int) (i:Nat) (l:List Int) (h:i+l.length<=d.length):(over d i l).length=d.length:=by
 unfold over;simp;omega
theorem D6 {x y:UInt8}:(((x.toNat:Nat):Int)==((y.toNat:Nat):Int))=decide (x=y):=by
 by_cases h:x=y
 ·simp [h]
 ·have:x.toNat≠y.toNat:=λe=>h (gU.1 e);simp [h];omega
theorem tw {x:UInt8}:(((x.toNat:Nat):Int)==88)=decide (x=88):=by
 have:=D6 (x:=x) (y:=88);simpa using this
def dg:Nat->Int->List Int
 | 0,_=>[]
 | L+1,k=>dg L (k / 10)++[48+k%10]
theorem qH:∀(L:Nat) (k:Int),(dg L k).length=L
 | 0,_=>rfl
 | L+1,k=>by simp [dg,qH L]
theorem nr:∀(L:Nat) (k:Int),∀x∈dg L k,48<=x/\x<58
 | 0,_,x,h=>by simp [dg] at h
 | L+1,k,x,h=>by
  simp only [dg,mN,List.mem_singleton] at h;rcases h with h | rfl
  ·exact nr L _ x h
  ·omega
def eV:aa->List Int->Bool
 | c::m,d::l=>(c==88||decide (((c.toNat:Nat):Int)=d))&&eV m l
 | _,_=>true
theorem pf:∀{a c:aa} {b d:List Int},a.length=b.length->eV (a++c) (b++d)=(eV a b&&eV c d)
 | [],c,[],d,_=>by simp [eV]
 | x::a,c,y::b,d,h=>by
  simp only [ci,rR] at h;simp only [jr,eV,pf h,Bool.and_assoc]
def hasM (m:aa) (k:Int):Bool:=decide (0<=k)&&(decide (k<10 ^ m.length)&&eV m (dg m.length k))
theorem Fe (L:Nat) (h:L<=18):jD 20000000 ((L:Nat):Int)=some (10 ^ L):=by
 have b:allN (λi=>match jD 20000000 ((i:Nat):Int) with | some r=>decide (r=10 ^ i) | none=>false) 19=true:=by kernel_rfl
 have:=xk b L (by omega);split at this
 ·rename_i r a;rw [a];simpa using this
 ·cases this
theorem vV (L:Nat) (h:L<=18):(10:Int) ^ L<=1000000000000000000:=by
 have a:allN (λi=>decide ((10:Int) ^ i<=1000000000000000000)) 19=true:=by kernel_rfl
 simpa using xk a L (by omega)
theorem Jv {k:Int} (h:0<=k):Int.tmod k 10=k%10:=Int.tmod_eq_emod_of_nonneg h
theorem Jk {k:Int} (h:0<=k):Int.tdiv k 10=k / 10:=Gw h
theorem zA (k:Int) (i:Nat) (d:List Int) (a:0<=k) (c:k<9223372036854775808) (hi:i<=18) (b:d.length=18):
  aw (eo 20000000) 20000000 (k,(i:Int) - 1,d)=some (over d 0 (dg i k)):=by
 have:=eO (step:=eo 20000000) (λx=>(0<=x.1/\x.1<9223372036854775808)/\(-1<=x.2.1/\x.2.1<=17)/\x.2.2.length=18) (λx=>(x.2.1+1).toNat)
  (λx=>over x.2.2 0 (dg (x.2.1+1).toNat x.1)) ?_ 20000000 (k,(i:Int) - 1,d) ⟨⟨a,c⟩,⟨by simp only;omega,by simp only;omega⟩,b⟩ (by simp only;omega)
 ·simpa using this
 rintro ⟨k,i,d⟩ ⟨⟨a,c⟩,⟨o,g⟩,b⟩;simp only at a c o g b ⊢;by_cases hi:0<=i
 ·obtain ⟨j,rfl⟩:∃j:Nat,i=j:=⟨i.toNat,by omega⟩;have f:j<18:=by omega
  have e:decide ((j:Int)>=0)=true:=by simp
  have p:Nat.blt j 18=true:=cZ f;have n:IntKind.wrap .i64 ((j:Int) - 1)=(j:Int) - 1:=wrap_i64 _ (by omega) (by omega);have q:IntKind.wrap .i64 (Int.tdiv k 10)=k / 10:=by rw [Jk a];exact wrap_i64 _ (by omega) (by omega)
  have h:IntKind.wrap .u8 (IntKind.wrap .i64 (48+Int.tmod k 10))=48+k%10:=by rw [Jv a,wrap_i64 _ (by omega) (by omega),fi _ (by omega) (by omega)]
  refine .inl ⟨(k / 10,(j:Int) - 1,d.set j (48+k%10)),by simp only [eo,e,ar,gj f,ob,p,n,q,h],⟨⟨by simp only;omega,by simp only;omega⟩,⟨by simp only;omega,by simp only;omega⟩,by simpa using b⟩,by simp only;omega,?_⟩;have l:((j:Int) - 1+1).toNat=j:=by omega
  have m:((j:Int)+1).toNat=j+1:=by omega
  simp only [l,m,over,jR,jt,qH,bM,dg,AA];congr 1;rw [List.drop_set,ab (by omega),Nat.sub_self,xN (by omega)];simp only [List.set_cons_zero,iQ,qH,ci,jC,jr,jt,bM]
 ·have e:decide (i>=0)=false:=by simp;omega
  have s:(i+1).toNat=0:=by omega
  refine .inr ?_;simp only [eo,e,af,s,dg,yL]
theorem EY (m:aa) (k:Int) (a:m.length<=18) (b:0<=k) (c:k<9223372036854775808):
  gK 20000000 m k=some (over [0,0,0,0,0,0,0,0,0,0,0,0,0,0,0,0,0,0] 0 (dg m.length k)):=by
 have w:IntKind.wrap .i64 (((List.length m:Nat):Int) - 1)=(m.length:Int) - 1:=wrap_i64 _ (by omega) (by omega);simp only [gK,w,zA k m.length [0,0,0,0,0,0,0,0,0,0,0,0,0,0,0,0,0,0] b c a (by rfl),ob]
theorem pZ {d l:List Int} {i:Nat} (h:i<l.length):(over d 0 l)[i]?=l[i]?:=by
 unfold over;simp only [jR,jt];rw [jl h]
theorem sL:∀(l:List Int),(∀x∈l,0<=x/\x<256)->nums (dM l)=l
 | [],_=>rfl
 | x::l,h=>by
  have ih:=sL l λy a=>h y (iL _ a);obtain ⟨d,c⟩:=h x (by simp);have e:(((UInt8.ofNat x.toNat).toNat:Nat):Int)=x:=by
   rw [wN,nh (by omega)];omega
  simp only [nums,dM,uX] at ih ⊢;simp only [fU,Function.comp,e];rw [show List.map ((λb:UInt8=>((b.toNat:Nat):Int)) ∘ λn:Int=>UInt8.ofNat n.toNat) l=l from ih]
theorem Ee (l:aa):(nums l).length=l.length:=by simp [nums]
def cnt:aa->Nat
 | []=>0
 | c::r=>if c=88 then cnt r+1 else cnt r
def dv (c:UInt8):Int:=((c.toNat:Nat):Int) - 48
def nth:aa->Int->Int
 | [],_=>0
 | c::r,i=>if c=88 then 10*nth r (i / 10)+i%10 else 10*nth r i+dv c
def ag:aa->Int->Bool
 | [],_=>true
 | c::r,k=>ag r (k / 10)&&(decide (c=88)||decide (dv c=k%10))
def idx:aa->Int->Int
 | [],_=>0
 | c::r,k=>if c=88 then 10*idx r (k / 10)+k%10 else idx r (k / 10)
def okR (r:aa):Prop:=∀c∈r,c=88\/(0<=dv c/\dv c<10)
theorem sI {m:aa} (h:∀c∈m,okB c=true):okR m.reverse:=by
 intro c hc;have:=h c (List.mem_reverse.1 hc);simp only [okB,eT,bu,av,bY] at this;rcases this with h | h
 ·exact .inl (gU.1 (by simpa using h))
 ·exact .inr (by unfold dv;omega)
theorem l6 {c:UInt8} {r:aa} (h:okR (c::r)):okR r:=λx a=>h x (iL _ a)
theorem ep (n:Nat):(10:Int) ^ (n+1)=10*10 ^ n:=by rw [Int.pow_succ,Int.mul_comm]
theorem nF (n:Nat):(0:Int)<10 ^ n:=Int.pow_pos (by omega)
theorem lW:∀{r:aa},okR r->∀i,0<=i->0<=nth r i/\nth r i<10 ^ r.length
 | [],_,i,_=>by simp [nth]
 | c::r,h,i,hi=>by
  simp only [nth,ci,ep];split
  ·have:=lW (l6 h) (i / 10) (by omega);omega
  ·rename_i hc;have:=lW (l6 h) i hi;have:=(h c (by simp)).resolve_left hc;omega
theorem BP:∀{r:aa},okR r->∀i,0<=i->ag r (nth r i)=true
 | [],_,_,_=>rfl
 | c::r,h,i,hi=>by
  simp only [nth,ag];split
  ·rename_i hc;have e:(10*nth r (i / 10)+i%10) / 10=nth r (i / 10):=by omega
   rw [e,BP (l6 h) (i / 10) (by omega)];simp [hc]
  ·rename_i hc;have b:=(h c (by simp)).resolve_left hc;have e:(10*nth r i+dv c) / 10=nth r i:=by omega
   have a:(10*nth r i+dv c)%10=dv c:=by omega
   rw [e,a,BP (l6 h) i hi];simp
theorem qo:∀(r:aa) (k:Int),0<=k->0<=idx r k/\idx r k<10 ^ cnt r
 | [],k,_=>by simp [idx,cnt]
 | c::r,k,a=>by
  have:=qo r (k / 10) (by omega);simp only [idx,cnt];split
  ·rw [ep];omega
  ·exact this
theorem A4:∀{r:aa} {k:Int},0<=k->k<10 ^ r.length->ag r k=true->nth r (idx r k)=k
 | [],k,f,b,_=>by simp at b;simp [nth];omega
 | c::r,k,f,b,a=>by
  simp only [ag,av,eT,bY] at a;rw [ci,ep] at b;have ih:=A4 (r:=r) (k:=k / 10) (by omega) (by omega) a.1;simp only [nth,idx];split
  ·have:=qo r (k / 10) (by omega);have e:(10*idx r (k / 10)+k%10) / 10=idx r (k / 10):=by omega
   have d:(10*idx r (k / 10)+k%10)%10=k%10:=by omega
   rw [e,d,ih];omega
  ·rename_i hc;rw [ih];have:=a.2.resolve_left hc;omega
theorem tQ:∀{r:aa},okR r->∀i j,0<=i->i<j->j<10 ^ cnt r->nth r i<nth r j
 | [],_,i,j,b,d,a=>by simp [cnt] at a;omega
 | c::r,h,i,j,b,d,a=>by
  simp only [nth,cnt] at a ⊢;split
  ·rename_i hc;rw [ad hc,ep] at a;by_cases e:i / 10=j / 10
   ·rw [e];omega
   ·have:=tQ (l6 h) (i / 10) (j / 10) (by omega) (by omega) (by omega);omega
  ·rename_i hc;rw [ab hc] at a;have:=tQ (l6 h) i j b d a;omega
theorem yl:∀(r:aa),∀k,eV r.reverse (dg r.length k)=ag r k
 | [],k=>rfl
 | c::r,k=>by
  simp only [List.reverse_cons,ci,dg,ag];rw [pf (by rw [tg,qH]),yl r];have b:decide (((c.toNat:Nat):Int)=48+k%10)=decide (dv c=k%10):=oL.2 (by unfold dv;omega);have a:(c==88)=decide (c=88):=by by_cases h:c=88<;>simp [h]
  simp only [eV,AV,b,a]
theorem wC (m:aa) (k:Int):hasM m k=(decide (0<=k)&&(decide (k<10 ^ m.length)&&ag m.reverse k)):=by
 have:=yl m.reverse k;rw [rG,tg] at this;unfold hasM;rw [this]
theorem rJ:∀(m:aa),cnt m=m.count 88
 | []=>rfl
 | c::m=>by
  simp only [cnt,rJ m,List.count_cons];by_cases h:c=88<;>simp [h]
theorem mW (m:aa):cnt m.reverse=cnt m:=by rw [rJ,rJ,List.count_reverse]
theorem DN:∀(m:aa),cnt m<=m.length
 | []=>by simp [cnt]
 | c::m=>by
  have:=DN m;simp only [cnt,ci];split<;>omega
def fd (x y:Int):Int:=(if y=88 then x else y) - 48
def fval (x:Int) (l:List Int):Int:=l.foldl (λn y=>10*n+fd x y) 0
theorem uw (x:Int):∀(l:List Int) (n:Int),l.foldl (λn y=>10*n+fd x y) n=n*10 ^ l.length+fval x l
 | [],n=>by simp [fval]
 | y::l,n=>by
  have e:=uw x l (10*n+fd x y);have a:=uw x l (10*0+fd x y);simp only [fval,pd,ci,ep] at e a ⊢;rw [e,a,Int.add_mul,Int.add_mul];have:10*n*10 ^ l.length=n*(10*10 ^ l.length):=by rw [Int.mul_comm 10 n,Int.mul_assoc]
  omega
theorem qM (s:aa) (x:Int) (h18:s.length<=18) (hs:∀c∈s,0<=fd x ((c.toNat:Nat):Int)/\fd x ((c.toNat:Nat):Int)<10):ir 20000000 s x=some (fval x (nums s)):=by
 have hs':∀y∈nums s,0<=fd x y/\fd x y<10:=by
  intro y hy;obtain ⟨c,hc,rfl⟩:=eC.1 hy;exact hs c hc
 have hl:(nums s).length=s.length:=Ee s;have:=eO (step:=dC 20000000)
  (λst=>st.1=x/\st.2.2.1=((s.length:Nat):Int)/\st.2.2.2.2=nums s/\(0<=st.2.2.2.1/\st.2.2.2.1<=s.length)/\0<=st.2.1/\st.2.1<10 ^ st.2.2.2.1.toNat) (λst=>s.length - st.2.2.2.1.toNat)
  (λst=>((nums s).drop st.2.2.2.1.toNat).foldl (λn y=>10*n+fd x y) st.2.1) ?_ 20000000 (x,0,((s.length:Nat):Int),0,nums s) ⟨rfl,rfl,rfl,⟨by simp,by simp⟩,by simp,by simp⟩ (by simp;omega)
 ·show (ob (aw (dC 20000000) 20000000 (x,0,((List.length (nums s):Nat):Int),0,nums s)) λy30=>some y30)=_;rw [hl,this];rfl
 rintro ⟨x',n,len,i,l⟩ ⟨q1,q2,q3,⟨h0,hi⟩,n0,n1⟩;simp only at q1 q2 q3 h0 hi n0 n1 ⊢;subst q1 q2 q3;obtain ⟨j,rfl⟩:∃j:Nat,i=j:=⟨i.toNat,by omega⟩;simp only [bV] at n1 ⊢;rcases aA j s.length with hlt | hge
 ·obtain ⟨y,hy⟩:∃c,(nums s)[j]?=some c:=⟨(nums s)[j]'(by omega),cn (by omega)⟩;obtain ⟨d0,d1⟩:=hs' y (gD hy);have hb:(decide ((j:Int)<((s.length:Nat):Int)))=true:=by simp;omega
  have hw:IntKind.wrap .i64 ((j:Int)+1)=((j+1:Nat):Int):=by rw [wrap_i64 _ (by omega) (by omega)];omega
  have hb1:=vV (j+1) (by omega);rw [ep] at hb1;have w1:IntKind.wrap .i64 (10*n)=10*n:=wrap_i64 _ (by omega) (by omega);have w2:∀z:Int,0<=z->z<10->IntKind.wrap .i64 (10*n+IntKind.wrap .i64 (IntKind.wrap .u8 z))=10*n+z:=λz z0 z1=>by
   rw [fi z (by omega) (by omega),wrap_i64 z (by omega) (by omega),wrap_i64 _ (by omega) (by omega)]
  rw [gX hy,pd];simp only [dC,hb,ar,gj (show j<(nums s).length by omega),ob,hy,hw,w1];have next:0<=10*n+fd x' y/\10*n+fd x' y<10 ^ (j+1):=by rw [ep];omega
  by_cases h88:y=88
  ·have e1:(y==88)=true:=by simpa using h88
   have hd:fd x' y=x' - 48:=by simp [fd,h88]
   rw [hd] at d0 d1 next ⊢;refine .inl ⟨(x',10*n+(x' - 48),((s.length:Nat):Int),((j+1:Nat):Int),nums s),by simp only [e1,ar,w2 _ d0 d1],⟨rfl,rfl,rfl,⟨by simp only;omega,by simp only;omega⟩,next.1,by simpa only [bV] using next.2⟩,by simp only [bV];omega,by simp only [bV]⟩
  ·have e1:(y==88)=false:=by simpa using h88
   have hd:fd x' y=y - 48:=by simp [fd,h88]
   rw [hd] at d0 d1 next ⊢;refine .inl ⟨(x',10*n+(y - 48),((s.length:Nat):Int),((j+1:Nat):Int),nums s),by simp only [e1,af,w2 _ d0 d1],⟨rfl,rfl,rfl,⟨by simp only;omega,by simp only;omega⟩,next.1,by simpa only [bV] using next.2⟩,by simp only [bV];omega,by simp only [bV]⟩
 ·have hb:(decide ((j:Int)<((s.length:Nat):Int)))=false:=by simp;omega
  refine .inr ?_;simp only [dC,hb,af];rw [nv (by omega)];rfl
theorem qZ (x:Int) (l:List Int) (y:Int):fval x (l++[y])=10*fval x l+fd x y:=by simp [fval,yJ]
theorem vO (r:aa) (c:UInt8):nums ((c::r).reverse)=nums r.reverse++[((c.toNat:Nat):Int)]:=by simp [nums]
theorem xo (x:Int) (c:UInt8):fd x ((c.toNat:Nat):Int)=if c=88 then x - 48 else dv c:=by
 unfold fd dv;by_cases h:c=88
 ·simp [h]
 ·have:¬((c.toNat:Nat):Int)=88:=λe=>h (gU.1 (by simpa using (by omega:c.toNat=88)));rw [ab this,ab h]
theorem s7:∀(r:aa),fval 48 (nums r.reverse)=nth r 0
 | []=>rfl
 | c::r=>by
  rw [vO,qZ,s7 r,xo];simp only [nth];split<;>simp
theorem nP:∀(r:aa),fval 57 (nums r.reverse)=nth r (10 ^ cnt r - 1)
 | []=>rfl
 | c::r=>by
  have d:=nF (cnt r);rw [vO,qZ,nP r,xo];simp only [nth,cnt];split
  ·rw [ep];have b:(10*(10:Int) ^ cnt r - 1) / 10=10 ^ cnt r - 1:=by omega
   have a:(10*(10:Int) ^ cnt r - 1)%10=9:=by omega
   rw [b,a];omega
  ·rfl
theorem II {m:aa} (a:∀c∈m,okB c=true) {x:Int} (b:48<=x/\x<58):∀c∈m,0<=fd x ((c.toNat:Nat):Int)/\fd x ((c.toNat:Nat):Int)<10:=by
 intro c hc;rw [xo];have:=sI a c (List.mem_reverse.2 hc);split
 ·omega
 ·rename_i h;exact this.resolve_left h
theorem D1 {m:aa} (c:chk m=0):kB 20000000 m=some (nth m.reverse 0,0):=by
 obtain ⟨b,_,a⟩:=jw c;have d:((0:Int) != 0)=false:=by simp
 have:=s7 m.reverse;rw [rG] at this;simp only [kB,ib 20000000 m (by omega),c,ob,d,af,qM m 48 b (II a (by omega)),this]
theorem xe {m:aa} (c:chk m=0):hS 20000000 m=some (nth m.reverse (10 ^ cnt m - 1),0):=by
 obtain ⟨b,_,a⟩:=jw c;have d:((0:Int) != 0)=false:=by simp
 have:=nP m.reverse;rw [rG,mW] at this;simp only [hS,ib 20000000 m (by omega),c,ob,d,af,qM m 57 b (II a (by omega)),this]
theorem EM {m:aa} {l:List Int} (z:List Int) (b:m.length<=18) (h:l.length=m.length) (d:∀y∈l,48<=y/\y<58):dm 20000000 m (over z 0 l)=some (fval 0 l):=by
 have g:List.take m.length (over z 0 l)=l:=by
  unfold over;rw [jR,jt,o5 (by omega),fO (by omega)]
 have e:nums (dM l)=l:=sL l λy f=>by have:=d y f;omega
 have i:(dM l).length=m.length:=by simp [dM,h]
 simp only [dm,fC b,ob,bM,show Nat.ble m.length 18=true from cZ b,ar,ie,g];rw [qM (dM l) 0 (by omega) ?_,e];intro c hc;have a:((c.toNat:Nat):Int)∈l:=by rw [<-e];exact eC.2 ⟨c,hc,rfl⟩
 have:=d _ a;unfold fd;rw [ab (by omega)];omega
theorem xW {m:aa} (d:chk m=0) {i:Int} (c:0<=i):hasM m (nth m.reverse i)=true:=by
 obtain ⟨e,_,a⟩:=jw d;have b:=lW (sI a) i c;rw [tg] at b;rw [wC,BP (sI a) i c,az b.1,az b.2];rfl
def vl:List Int->Int
 | []=>0
 | y::l=>(y - 48)*10 ^ l.length+vl l
def digl (l:List Int):Prop:=∀y∈l,48<=y/\y<58
theorem bH {y:Int} {l:List Int} (h:digl (y::l)):digl l:=λx a=>h x (iL _ a)
theorem pR:∀{l:List Int},digl l->0<=vl l/\vl l<10 ^ l.length
 | [],_=>by simp [vl]
 | y::l,h=>by
  have ih:=pR (bH h);have d:=h y (by simp);have c:=nF l.length;simp only [vl,ci,ep];have b:0<=(y - 48)*10 ^ l.length:=Int.mul_nonneg (by omega) (by omega);have a:(y - 48)*10 ^ l.length<=9*10 ^ l.length:=GM (by omega) (by omega);omega
theorem G5 {y z:Int} {a b:List Int} (g:a.length=b.length) (e:digl a) (d:digl b) (h:y<z):vl (y::a)<vl (z::b):=by
 have i:=pR e;have f:=pR d;have j:=nF a.length;simp only [vl];rw [<-g] at f ⊢;have c:(y - 48+1)*10 ^ a.length<=(z - 48)*10 ^ a.length:=GM (by omega) (by omega);rw [Int.add_mul] at c;omega
theorem uK:∀{l:List Int},digl l->fval 0 l=vl l
 | [],_=>rfl
 | y::l,h=>by
  have b:=h y (by simp);have e:fval 0 (y::l)=l.foldl (λn y=>10*n+fd 0 y) (10*0+fd 0 y):=rfl;have a:fd 0 y=y - 48:=by unfold fd;rw [ab (by omega)]
  rw [e,uw,uK (bH h),a];simp only [vl,Int.mul_zero,Int.zero_add]
theorem C6 {l:List Int} {y:Int} (h:digl (l++[y])):vl (l++[y])=10*vl l+(y - 48):=by
 have c:=h y (by simp);have a:digl l:=λx b=>h x (by simp [b]);rw [<-uK h,<-uK a,qZ];unfold fd;rw [ab (by omega)]
theorem FY:∀(L:Nat) (k:Int),0<=k->k<10 ^ L->vl (dg L k)=k
 | 0,k,c,a=>by simp at a;simp [dg,vl];omega
 | L+1,k,c,a=>by
  rw [ep] at a;have:=FY L (k / 10) (by omega) (by omega);have b:=nr (L+1) k;simp only [dg] at b ⊢;rw [C6 b,this];omega
theorem Kw {l:List Int} (h:digl l):dg l.length (vl l)=l:=by
 have a:∀(r:List Int),digl r.reverse->dg r.length (vl r.reverse)=r.reverse:=by
  intro r
  induction r with
  | nil=>intro _;rfl
  | cons y r ih=>
   intro h;simp only [List.reverse_cons,ci] at h ⊢;have e:=h y (by simp);rw [C6 h];simp only [dg];have c:(10*vl r.reverse+(y - 48)) / 10=vl r.reverse:=by omega
   have b:48+(10*vl r.reverse+(y - 48))%10=y:=by omega
   rw [c,b,ih λx d=>h x (mN.2 (.inl d))]
 have:=a l.reverse (by rw [rG];exact h);rwa [rG,tg] at this
def fst (up:Bool):Int:=cond up 48 57
def lst (up:Bool):Int:=cond up 57 48
def stp (up:Bool) (y:Int):Int:=cond up (y+1) (y - 1)
def fil (up:Bool) (m:aa):List Int:=m.map λc=>cond (decide (c=88)) (fst up) ((c.toNat:Nat):Int)
def nx (up:Bool):aa->List Int->Option (List Int)
 | c::m,y::l=>
  if c=88 then
   match nx up m l with
   | some r=>some (y::r)
   | none=>if y=lst up then none else some (stp up y::fil up m)
  else if ((c.toNat:Nat):Int)=y then (nx up m l).map λr=>y::r
  else if decide (((c.toNat:Nat):Int)>y)=up then some (((c.toNat:Nat):Int)::fil up m) else none
 | _,_=>some []
def okM (m:aa):Prop:=∀c∈m,okB c=true
theorem mj {c:UInt8} {m:aa} (h:okM (c::m)):okM m:=λx a=>h x (iL _ a)
theorem yC {c:UInt8} (h:okB c=true) (a:¬c=88):48<=((c.toNat:Nat):Int)/\((c.toNat:Nat):Int)<58:=by
 simp only [okB,eT,bu,av,bY] at h;have:¬c.toNat=88:=λe=>a (gU.1 (by simpa using e));omega
theorem uC (up:Bool) (m:aa):(fil up m).length=m.length:=by simp [fil]
theorem CX (up:Bool) {m:aa} (h:okM m):digl (fil up m):=by
 intro y b;obtain ⟨c,hc,rfl⟩:=eC.1 b;by_cases a:c=88
 ·simp only [az a,ar];cases up<;>simp [fst]
 ·simp only [ay a,af];exact yC (h c hc) a
theorem rU (up:Bool):∀(m:aa),eV m (fil up m)=true
 | []=>rfl
 | c::m=>by
  have:=rU up m;simp only [fil,fU,eV] at this ⊢;rw [this];by_cases a:c=88
  ·simp [a]
  ·simp [a]
def cA (up:Bool) (a b:Int):Prop:=match up with | true=>a<=b | false=>b<=a
theorem uB (up:Bool):∀{m:aa} {e:List Int},okM m->m.length=e.length->digl e->eV m e=true->cA up (vl (fil up m)) (vl e)
 | [],[],_,_,_,_=>by cases up<;>simp [fil,vl,cA]
 | c::m,y::e,l,i,j,k=>by
  simp only [ci,rR] at i;simp only [eV,av,eT,bu,bY] at k;have ih:=uB up (mj l) i (bH j) k.2;have o:=j y (by simp);have b:=uC up m;have n:=CX up (mj l);have a:∀z:Int,vl (z::fil up m)=(z - 48)*10 ^ m.length+vl (fil up m):=λz=>by rw [vl,b]
  have d:fil up (c::m)=(cond (decide (c=88)) (fst up) ((c.toNat:Nat):Int))::fil up m:=rfl;rw [d];by_cases g:c=88
  ·simp only [az g,ar];by_cases f:y=fst up
   ·rw [<-f,a,vl,<-i];cases up<;>simp only [cA] at ih ⊢<;>omega
   ·cases up
    ·exact Int.le_of_lt (G5 (by rw [b,i]) (bH j) n (by simp [fst] at f ⊢;omega))
    ·exact Int.le_of_lt (G5 (by rw [b,i]) n (bH j) (by simp [fst] at f ⊢;omega))
  ·simp only [ay g,af];rw [k.1.resolve_left g,a,vl,<-i];cases up<;>simp only [cA] at ih ⊢<;>omega
 | [],_::_,_,h,_,_=>by simp at h
 | _::_,[],_,h,_,_=>by simp at h
theorem Hi (up:Bool):∀{m:aa} {l:List Int},okM m->m.length=l.length->digl l->
  match nx up m l with
  | some r=>r.length=m.length/\digl r/\eV m r=true/\cA up (vl l) (vl r)/\∀e,e.length=m.length->digl e->eV m e=true->cA up (vl l) (vl e)->cA up (vl r) (vl e)
  | none=>∀e,e.length=m.length->digl e->eV m e=true->¬cA up (vl l) (vl e)
 | [],[],_,_,_=>by
  simp only [nx];refine ⟨rfl,by intro y N;simp at N,rfl,by cases up<;>simp [cA],?_⟩;intro e E _ _ _;simp only [jC] at E;rw [sH E];cases up<;>simp [cA]
 | c::m,y::l,L,u,S=>by
  simp only [ci,rR] at u;have ih:=Hi up (mj L) u (bH S);have N:=S y (by simp);have x:=bH S;have t:=uC up m;have B:=CX up (mj L);have M:∀{z w:Int} {a b:List Int},a.length=m.length->b.length=m.length->digl a->digl b->z<w->vl (z::a)<vl (w::b):=λE J O P W=>G5 (by rw [E,J]) O P W;have d:∀(z:Int) {a b:List Int},a.length=m.length->b.length=m.length->(cA up (vl (z::a)) (vl (z::b))↔cA up (vl a) (vl b)):=λz a b E J=>by
   simp only [vl,E,J];cases up<;>simp only [cA]<;>omega
  have q:∀{z w:Int} {a b:List Int},a.length=m.length->b.length=m.length->digl a->digl b->z≠w->(cA up (vl (z::a)) (vl (w::b))↔cA up z w):=λ{z w a b} E J O P W=>by
   rcases Int.lt_trichotomy z w with h | h | h
   ·have:=M E J O P h;cases up<;>simp only [cA]<;>omega
   ·exact absurd h W
   ·have:=M J E P O h;cases up<;>simp only [cA]<;>omega
  have f:∀e:List Int,e.length=(c::m).length->∃w a,e=w::a/\a.length=m.length:=λe h=>by
   match e,h with
   | w::a,h=>exact ⟨w,a,rfl,by simpa using h⟩
  by_cases g:c=88
  ·cases D:nx up m l with
   | some r=>
    rw [D] at ih;obtain ⟨I,Q,T,V,R⟩:=ih;simp only [nx,ad g,D];refine ⟨by simp [I],λz s=>?_,by simp [eV,g,T],(d y u.symm I).2 V,λe A j p o=>?_⟩
    ·rcases cY.1 s with rfl | s
     ·exact N
     ·exact Q z s
    ·obtain ⟨w,a,rfl,i⟩:=f e A;simp only [eV,g,lU,Bool.true_or,qL] at p;by_cases C:y=w
     ·subst C;exact (d y I i).2 (R a i (bH j) p ((d y u.symm i).1 o))
     ·exact (q I i Q (bH j) C).2 ((q u.symm i x (bH j) C).1 o)
   | none=>
    rw [D] at ih;by_cases k:y=lst up
    ·simp only [nx,ad g,D,ad k];intro e A j p o;obtain ⟨w,a,rfl,i⟩:=f e A;simp only [eV,g,lU,Bool.true_or,qL] at p;have X:=j w (by simp);by_cases C:y=w
     ·subst C;exact ih a i (bH j) p ((d y u.symm i).1 o)
     ·have:=(q u.symm i x (bH j) C).1 o;cases up<;>simp only [cA,lst,ar,af] at this k<;>omega
    ·simp only [nx,ad g,D,ab k];have Y:48<=stp up y/\stp up y<58/\y≠stp up y/\cA up y (stp up y)/\∀w,w≠y->cA up y w->cA up (stp up y) w:=by
      cases up<;>simp only [cA,lst,stp,ar,af] at k ⊢<;>exact ⟨by omega,by omega,by omega,by omega,λw E J=>by omega⟩
     obtain ⟨s1,s2,s3,Z,s5⟩:=Y;refine ⟨by simp [t],λz s=>?_,by simp [eV,g,rU],(q u.symm t x B s3).2 Z,λe A j p o=>?_⟩
     ·rcases cY.1 s with rfl | s
      ·exact ⟨s1,s2⟩
      ·exact B z s
     ·obtain ⟨w,a,rfl,i⟩:=f e A;simp only [eV,g,lU,Bool.true_or,qL] at p;by_cases C:y=w
      ·subst C;exact absurd ((d y u.symm i).1 o) (ih a i (bH j) p)
      ·have h9:=s5 w (λh=>C h.symm) ((q u.symm i x (bH j) C).1 o);by_cases K:stp up y=w
       ·rw [K];exact (d w t i).2 (uB up (mj L) i.symm (bH j) p)
       ·exact (q t i B (bH j) K).2 h9
  ·have U:=yC (L c (by simp)) g;have G:∀w a,eV (c::m) (w::a)=true->w=((c.toNat:Nat):Int)/\eV m a=true:=λw a h=>by
    simp only [eV,av,eT,bu,bY] at h;exact ⟨(h.1.resolve_left g).symm,h.2⟩
   by_cases n:((c.toNat:Nat):Int)=y
   ·cases D:nx up m l with
    | some r=>
     rw [D] at ih;obtain ⟨I,Q,T,V,R⟩:=ih;simp only [nx,ab g,ad n,D,cK];refine ⟨by simp [I],λz s=>?_,by simp [eV,n,T],(d y u.symm I).2 V,λe A j p o=>?_⟩
     ·rcases cY.1 s with rfl | s
      ·exact N
      ·exact Q z s
     ·obtain ⟨w,a,rfl,i⟩:=f e A;obtain ⟨rfl,v⟩:=G w a p;rw [n] at o ⊢;exact (d y I i).2 (R a i (bH j) v ((d y u.symm i).1 o))
    | none=>
     rw [D] at ih;simp only [nx,ab g,ad n,D,ew];intro e A j p o;obtain ⟨w,a,rfl,i⟩:=f e A;obtain ⟨rfl,v⟩:=G w a p;rw [n] at o;exact ih a i (bH j) v ((d y u.symm i).1 o)
   ·have H:decide (((c.toNat:Nat):Int)>y)=up↔cA up y ((c.toNat:Nat):Int):=by
     cases up
     ·simp only [ug,cA];omega
     ·simp only [bY,cA];omega
    by_cases F:decide (((c.toNat:Nat):Int)>y)=up
    ·simp only [nx,ab g,ab n,ad F];refine ⟨by simp [t],λz s=>?_,by simp [eV,rU],(q u.symm t x B (λh=>n h.symm)).2 (H.1 F),λe A j p o=>?_⟩
     ·rcases cY.1 s with rfl | s
      ·exact U
      ·exact B z s
     ·obtain ⟨w,a,rfl,i⟩:=f e A;obtain ⟨rfl,v⟩:=G w a p;exact (d _ t i).2 (uB up (mj L) i.symm (bH j) v)
    ·simp only [nx,ab g,ab n,ab F];intro e A j p o;obtain ⟨w,a,rfl,i⟩:=f e A;obtain ⟨rfl,v⟩:=G w a p;exact F (H.2 ((q u.symm i x (bH j) (λh=>n h.symm)).1 o))
 | [],_::_,_,h,_=>by simp at h
 | _::_,[],_,h,_=>by simp at h
def ap:aa->List Int->Nat
 | c::m,y::l=>if c=88\/((c.toNat:Nat):Int)=y then ap m l+1 else 0
 | _,_=>0
theorem JA:∀(m:aa) (l:List Int),ap m l<=m.length
 | [],_=>by simp [ap]
 | c::m,[]=>by simp [ap]
 | c::m,y::l=>by
  have:=JA m l;simp only [ap,ci];split<;>omega
theorem CO:∀(m:aa) (l:List Int),eV (m.take (ap m l)) (l.take (ap m l))=true
 | [],_=>by simp [ap,eV]
 | c::m,[]=>by simp [ap,eV]
 | c::m,y::l=>by
  have:=CO m l;simp only [ap];split
  ·rename_i h;simp only [lz,eV,this,AV,eT,bu,bY];exact h
  ·rfl
theorem DV:∀{m:aa} {l:List Int} {c:UInt8} {y:Int},m[ap m l]?=some c->l[ap m l]?=some y->¬c=88/\¬((c.toNat:Nat):Int)=y
 | [],_,c,y,h,_=>by simp at h
 | x::m,[],c,y,_,h=>by simp at h
 | x::m,z::l,c,y,b,a=>by
  by_cases h:x=88\/((x.toNat:Nat):Int)=z
  ·simp only [ap,ad h,xQ] at b a;exact DV b a
  ·simp only [ap,ab h,il,ae] at b a;subst b a;exact ⟨λe=>h (.inl e),λe=>h (.inr e)⟩
def bkn (up:Bool):aa->List Int->aa->Option (List Int)
 | c::m,y::d,m'=>
  match bkn up m d m' with
  | some r=>some (y::r)
  | none=>if c=88/\y≠lst up then some (stp up y::fil up (m++m')) else none
 | _,_,_=>none
theorem vM (up:Bool):∀{m m':aa} {d d':List Int},m.length=d.length->eV m d=true->
  nx up (m++m') (d++d')=match nx up m' d' with | some r=>some (d++r) | none=>bkn up m d m'
 | [],m',[],d',_,_=>by
  simp only [jt];cases nx up m' d'<;>rfl
 | c::m,m',y::d,d',e,b=>by
  simp only [ci,rR] at e;simp only [eV,av,eT,bu,bY] at b;have ih:=vM up (m':=m') (d':=d') e b.2;simp only [jr,nx,ih,bkn];by_cases a:c=88
  ·simp only [ad a];cases nx up m' d' with
   | some r=>rfl
   | none=>
    cases bkn up m d m' with
    | some r=>rfl
    | none=>
     by_cases f:y=lst up
     ·simp [f]
     ·simp [f,a]
  ·simp only [ab a,ad (b.1.resolve_left a)];cases nx up m' d' with
   | some r=>rfl
   | none=>
    cases bkn up m d m' with
    | some r=>rfl
    | none=>simp [a]
 | [],_,_::_,_,h,_=>by simp at h
 | _::_,_,[],_,h,_=>by simp at h
theorem zf (up:Bool) (c:UInt8) (y:Int):∀{m m':aa} {d:List Int},m.length=d.length->
  bkn up (m++[c]) (d++[y]) m'=if c=88/\y≠lst up then some (d++stp up y::fil up m') else bkn up m d (c::m')
 | [],m',[],_=>by simp [bkn]
 | x::m,m',z::d,a=>by
  simp only [ci,rR] at a;have ih:=zf up c y (m':=m') a;simp only [jr,bkn,ih];by_cases h:c=88/\y≠lst up
  ·simp only [ad h]
  ·simp only [ab h,AA,jr,jt]
 | [],_,_::_,h=>by simp at h
 | _::_,_,[],h=>by simp at h
def bki (up:Bool) (m:aa) (l:List Int):Nat->Option Nat
 | 0=>none
 | j+1=>if m[j]?=some 88/\l[j]?≠some (lst up) then some j else bki up m l j
theorem Gi (up:Bool) (m:aa) (l:List Int):∀{j a:Nat},bki up m l j=some a->a<j
 | 0,a,h=>by simp [bki] at h
 | j+1,a,h=>by
  simp only [bki] at h;split at h
  ·simp only [ae] at h;omega
  ·have:=Gi up m l h;omega
theorem zh (up:Bool) (m:aa) (l:List Int) (hl:m.length=l.length):∀j,j<=m.length->
  bkn up (m.take j) (l.take j) (m.drop j)=(bki up m l j).map λa=>l.take a++stp up (l.getD a 0)::fil up (m.drop (a+1))
 | 0,_=>by simp [bkn,bki]
 | j+1,h=>by
  obtain ⟨c,hc⟩:∃c,m[j]?=some c:=⟨m[j]'(by omega),cn (by omega)⟩;obtain ⟨y,hy⟩:∃c,l[j]?=some c:=⟨l[j]'(by omega),cn (by omega)⟩;have ih:=zh up m l hl j (by omega);rw [gX hc] at ih;rw [m8,m8,hc,hy];simp only [Option.toList_some];rw [zf up c y (by simp;omega),ih];have hg:l.getD j 0=y:=by rw [yI,hy];rfl
  simp only [bki,hc,hy,ne_eq,ae];by_cases hh:c=88/\¬y=lst up
  ·rw [ad hh,ad hh,cK,hg]
  ·rw [ab hh,ab hh]
section
variable {m:List UInt8} {l z:List Int}
theorem ic (hl:m.length=l.length) (h18:m.length<=18) (k f g:Int) (up:Bool):
  aw (cT 20000000) 20000000 (m,k,up,f,g,0,over z 0 l,over z 0 l)=some (m,k,up,f,g,((ap m l:Nat):Int),over z 0 l,over z 0 l):=by
 have:=eO (step:=cT 20000000) (λx=>x.1=m/\(0<=x.2.2.2.2.2.1/\x.2.2.2.2.2.1<=m.length)/\x.2.2.2.2.2.2.1=over z 0 l) (λx=>m.length - x.2.2.2.2.2.1.toNat)
  (λx=>(x.1,x.2.1,x.2.2.1,x.2.2.2.1,x.2.2.2.2.1,x.2.2.2.2.2.1+((ap (m.drop x.2.2.2.2.2.1.toNat) (l.drop x.2.2.2.2.2.1.toNat):Nat):Int),x.2.2.2.2.2.2.1,x.2.2.2.2.2.2.2)) ?_ 20000000 (m,k,up,f,g,0,over z 0 l,over z 0 l) ⟨rfl,⟨by simp,by simp⟩,rfl⟩ (by simp;omega)
 ·simpa using this
 rintro ⟨m',k,up,f,g,i,d,o⟩ ⟨q1,⟨h0,hi⟩,q2⟩;simp only at q1 h0 hi q2 ⊢;subst q1 q2;obtain ⟨j,rfl⟩:∃j:Nat,i=j:=⟨i.toNat,by omega⟩;simp only [bV];rcases aA j m'.length with hlt | hge
 ·obtain ⟨c,hc⟩:∃c,m'[j]?=some c:=⟨m'[j],cn hlt⟩;obtain ⟨y,hy⟩:∃c,l[j]?=some c:=⟨l[j]'(by omega),cn (by omega)⟩;have hg:(over z 0 l)[j]?=some y:=by rw [pZ (by omega)];exact hy
  have hb:(decide ((j:Int)<((List.length m':Nat):Int)))=true:=by simp;omega
  have hw:IntKind.wrap .i64 ((j:Int)+1)=((j+1:Nat):Int):=by rw [wrap_i64 _ (by omega) (by omega)];omega
  rw [gX hc,gX hy];simp only [cT,hb,ar,jI hc,ob,tw,hw,gj (show j<18 by omega),hg,ap];by_cases h88:c=88
  ·refine .inl ⟨(m',k,up,f,g,((j+1:Nat):Int),over z 0 l,o),by simp only [az h88,ar],⟨rfl,⟨by simp only;omega,by simp only;omega⟩,rfl⟩,by simp only [bV];omega,?_⟩;simp only [bV,ad (show c=88\/((c.toNat:Nat):Int)=y from .inl h88)];congr 6;omega
  ·simp only [ay h88,af];by_cases hcy:((c.toNat:Nat):Int)=y
   ·have e:(((c.toNat:Nat):Int)==y)=true:=by simpa using hcy
    refine .inl ⟨(m',k,up,f,g,((j+1:Nat):Int),over z 0 l,o),by simp only [e,ar],⟨rfl,⟨by simp only;omega,by simp only;omega⟩,rfl⟩,by simp only [bV];omega,?_⟩;simp only [bV,ad (show c=88\/((c.toNat:Nat):Int)=y from .inr hcy)];congr 6;omega
   ·have e:(((c.toNat:Nat):Int)==y)=false:=by simpa using hcy
    refine .inr ?_;simp only [e,af,ab (show ¬(c=88\/((c.toNat:Nat):Int)=y) from λh=>h.elim h88 hcy),Int.ofNat_zero,Int.add_zero,Int.natCast_zero]
 ·have hb:(decide ((j:Int)<((List.length m':Nat):Int)))=false:=by simp;omega
  refine .inr ?_;simp only [cT,hb,af];rw [nv hge];simp [ap]
theorem BX (hl:m.length=l.length) (h18:m.length<=18) (f:Int) (up:Bool) (o:List Int) (i:Nat) (hi:i<=m.length):
  aw (bj 20000000) 20000000 (m,up,f,lst up,(i:Int),over z 0 l,o) =
   some (match bki up m l i with | none=>.inl (0,16) | some a=>.inr (m,up,f,((a:Nat):Int),o)):=by
 have:=eO (step:=bj 20000000) (λx=>x.1=m/\x.2.2.2.1=lst up/\(0<=x.2.2.2.2.1/\x.2.2.2.2.1<=m.length)/\x.2.2.2.2.2.1=over z 0 l) (λx=>x.2.2.2.2.1.toNat)
  (λx=>match bki up m l x.2.2.2.2.1.toNat with | none=>.inl (0,16) | some a=>.inr (x.1,x.2.1,x.2.2.1,((a:Nat):Int),x.2.2.2.2.2.2)) ?_ 20000000 (m,up,f,lst up,(i:Int),over z 0 l,o) ⟨rfl,rfl,⟨by simp only;omega,by simp only;omega⟩,rfl⟩ (by simp;omega)
 ·simpa using this
 rintro ⟨m',up',f,g,i,d,o⟩ ⟨q1,q3,⟨h0,hi⟩,q2⟩;simp only at q1 q3 h0 hi q2 ⊢;subst q1 q2 q3;obtain ⟨j,rfl⟩:∃j:Nat,i=j:=⟨i.toNat,by omega⟩;simp only [bV];rcases j with _ | j
 ·refine .inr ?_;have w:IntKind.wrap .i64 (((0:Nat):Int) - 1)=-1:=wrap_i64 _ (by omega) (by omega);simp only [bj,w,show decide ((-1:Int)<0)=true from rfl,ar,bki]
 ·have w:IntKind.wrap .i64 (((j+1:Nat):Int) - 1)=(j:Int):=by rw [wrap_i64 _ (by omega) (by omega)];omega
  have e0:decide ((j:Int)<0)=false:=by simp
  obtain ⟨c,hc⟩:∃c,m'[j]?=some c:=⟨m'[j]'(by omega),cn (by omega)⟩;obtain ⟨y,hy⟩:∃c,l[j]?=some c:=⟨l[j]'(by omega),cn (by omega)⟩;have hg:(over z 0 l)[j]?=some y:=by rw [pZ (by omega)];exact hy
  simp only [bj,w,e0,af,jI hc,ob,tw,gj (show j<18 by omega),hg,bki,hc,hy,ae,ne_eq];by_cases h88:c=88
  ·by_cases hy9:y=lst up
   ·have e:(y != lst up)=false:=by simpa using hy9
    refine .inl ⟨(m',up',f,lst up,(j:Int),over z 0 l,o),by simp only [az h88,ar,e,af],⟨rfl,rfl,⟨by simp only;omega,by simp only;omega⟩,rfl⟩,by simp only [bV];omega,?_⟩;simp only [bV,ab (show ¬(c=88/\¬y=lst up) from λh=>h.2 hy9)]
   ·have e:(y != lst up)=true:=by simpa using hy9
    refine .inr ?_;simp only [az h88,ar,e,ad (show c=88/\¬y=lst up from ⟨h88,hy9⟩)]
  ·refine .inl ⟨(m',up',f,lst up,(j:Int),over z 0 l,o),by simp only [ay h88,af],⟨rfl,rfl,⟨by simp only;omega,by simp only;omega⟩,rfl⟩,by simp only [bV];omega,?_⟩;simp only [bV,ab (show ¬(c=88/\¬y=lst up) from λh=>h88 h.1)]
theorem vq (s:m.length<=18) (up:Bool) (d:List Int) (e:d.length=18) (i:Nat) (hi:i<=m.length):
  aw (aQ 20000000) 20000000 (m,fst up,(i:Int),d)=some (m,over d i (fil up (m.drop i))):=by
 have:=eO (step:=aQ 20000000) (λx=>x.1=m/\x.2.1=fst up/\(0<=x.2.2.1/\x.2.2.1<=m.length)/\x.2.2.2.length=18) (λx=>m.length - x.2.2.1.toNat)
  (λx=>(m,over x.2.2.2 x.2.2.1.toNat (fil up (m.drop x.2.2.1.toNat)))) ?_ 20000000 (m,fst up,(i:Int),d) ⟨rfl,rfl,⟨by simp only;omega,by simp only;omega⟩,e⟩ (by simp;omega)
 ·simpa using this
 rintro ⟨m',f,i,d⟩ ⟨o,l,⟨q,hi⟩,e⟩;simp only at o l q hi e ⊢;subst o l;obtain ⟨j,rfl⟩:∃j:Nat,i=j:=⟨i.toNat,by omega⟩;simp only [bV];rcases aA j m'.length with h | k
 ·obtain ⟨c,hc⟩:∃c,m'[j]?=some c:=⟨m'[j],cn h⟩;have n:j<18:=by omega
  have g:(decide ((j:Int)<((List.length m':Nat):Int)))=true:=by simp;omega
  have p:IntKind.wrap .i64 ((j:Int)+1)=((j+1:Nat):Int):=by rw [wrap_i64 _ (by omega) (by omega)];omega
  have r:Nat.blt j 18=true:=cZ n;have b:∀c:UInt8,fil up (c::m'.drop (j+1))=(cond (decide (c=88)) (fst up) ((c.toNat:Nat):Int))::fil up (m'.drop (j+1)):=λ_=>rfl;rw [gX hc,b];simp only [aQ,g,ar,jI hc,ob,tw,gj n,r,p];by_cases a:c=88
  ·refine .inl ⟨(m',fst up,((j+1:Nat):Int),(d.set j ((c.toNat:Nat):Int)).set j (fst up)),by simp only [az a,ar],⟨rfl,rfl,⟨by simp only;omega,by simp only;omega⟩,by simpa using e⟩,by simp only [bV];omega,?_⟩;simp only [bV,az a,ar];rw [List.set_set,uG _ _ _ _ (by omega)]
  ·refine .inl ⟨(m',fst up,((j+1:Nat):Int),d.set j ((c.toNat:Nat):Int)),by simp only [ay a,af],⟨rfl,rfl,⟨by simp only;omega,by simp only;omega⟩,by simpa using e⟩,by simp only [bV];omega,?_⟩;simp only [bV,ay a,af];rw [uG _ _ _ _ (by omega)]
 ·have g:(decide ((j:Int)<((List.length m':Nat):Int)))=false:=by simp;omega
  refine .inr ?_;simp only [aQ,g,af];rw [nv k];simp [fil,yL]
theorem va (z l F:List Int) (i:Nat) (h:i+F.length=l.length):over (over z 0 l) i F=over z 0 (l.take i++F):=by
 unfold over;simp only [jR,jt,bM,iQ,eH,mY (show i<=l.length by omega),h];rw [o5 (by omega),List.drop_append_of_le_length (by omega),List.drop_of_length_le (aL l.length)];simp
end
theorem C7 {m:aa} (hm:chk m=0) (up:Bool) (k:Int) (h0:0<=k) (h1:k<10 ^ m.length):
  bF 20000000 m k up=some (match nx up m (dg m.length k) with | some r=>(vl r,0) | none=>(0,16)):=by
 obtain ⟨h18,_,hok⟩:=jw hm;have hp:=vV m.length h18;have hlen:=qH m.length k;have hrng:=nr m.length k;have hv:=FY m.length k h0 h1;have hn:=Hi up hok hlen.symm hrng;have hsplit:=EY m k h18 h0 (by omega);generalize dg m.length k=l at hlen hrng hv hn hsplit ⊢;have hout:(over [0,0,0,0,0,0,0,0,0,0,0,0,0,0,0,0,0,0] 0 l).length=18:=by rw [EO _ _ _ (by simp;omega)];rfl
 have fin:∀r:List Int,nx up m l=some r->dm 20000000 m (over [0,0,0,0,0,0,0,0,0,0,0,0,0,0,0,0,0,0] 0 r)=some (vl r):=by
  intro r hr;rw [hr] at hn;obtain ⟨i1,i2,_⟩:=hn;rw [EM _ h18 i1 i2,uK i2]
 have hap:=JA m l;have hagr:=CO m l;have happ:=vM up (m:=m.take (ap m l)) (m':=m.drop (ap m l)) (d:=l.take (ap m l)) (d':=l.drop (ap m l)) (by simp;omega) hagr;rw [qd,qd] at happ;have hz0:gK 20000000 m k=some (over [0,0,0,0,0,0,0,0,0,0,0,0,0,0,0,0,0,0] 0 l):=hsplit;generalize hzz:([0,0,0,0,0,0,0,0,0,0,0,0,0,0,0,0,0,0]:List Int)=z at hout fin hz0;rcases aA (ap m l) m.length with hlt | hge
 ·obtain ⟨c,hc⟩:∃c,m[ap m l]?=some c:=⟨m[ap m l],cn hlt⟩;obtain ⟨y,hy⟩:∃c,l[ap m l]?=some c:=⟨l[ap m l]'(by omega),cn (by omega)⟩;obtain ⟨h88,hcy⟩:=DV hc hy;have hg:(over z 0 l)[ap m l]?=some y:=by rw [pZ (by omega)];exact hy
  have eL:(((ap m l:Nat):Int)==((List.length m:Nat):Int))=false:=by simp;omega
  have hj:ap m l<18:=by omega
  have hfc:fil up (m.drop (ap m l))=((c.toNat:Nat):Int)::fil up (m.drop (ap m l+1)):=by
   rw [gX hc];simp [fil,h88]
  have hbk:=zh up m l hlen.symm (ap m l) hap;have hnx:nx up (m.drop (ap m l)) (l.drop (ap m l))=if decide (((c.toNat:Nat):Int)>y)=up then some (fil up (m.drop (ap m l))) else none:=by
   rw [hfc,gX hc,gX hy];simp only [nx,ab h88,ab hcy]
  rw [hnx] at happ;by_cases hup:decide (((c.toNat:Nat):Int)>y)=up
  ·rw [ad hup] at happ;simp only at happ;have f2:=fin _ happ;rw [happ];simp only [];rw [<-va z l _ _ (by rw [uC,km];omega)] at f2;have l2:=vq h18 up _ hout (ap m l) hap;cases up
   ·have l0:=ic (z:=z) hlen.symm h18 k 57 48 false;have l2':aw (aQ 20000000) 20000000 (m,57,((ap m l:Nat):Int),over z 0 l)=_:=l2;simp only [bF,iJ,ar,hz0,ob,l0,eL,af,jI hc,gj hj,hg,hup,lU,dJ,l2',f2]
   ·have l0:=ic (z:=z) hlen.symm h18 k 48 57 true;have l2':aw (aQ 20000000) 20000000 (m,48,((ap m l:Nat):Int),over z 0 l)=_:=l2;simp only [bF,dJ,ar,hz0,ob,l0,eL,af,jI hc,gj hj,hg,hup,lU,l2',f2]
  ·rw [ab hup] at happ;simp only [hbk] at happ;have hne:(!(decide (((c.toNat:Nat):Int)>y)==up))=true:=by
    cases up<;>cases hh:decide (((c.toNat:Nat):Int)>y)<;>simp_all
   have l1:=BX (z:=z) hlen.symm h18 (fst up) up (over z 0 l) (ap m l) hap;cases hb:bki up m l (ap m l) with
   | none=>
    rw [hb] at happ l1;simp only [ew] at happ;rw [happ];simp only [] at l1 ⊢;cases up
    ·have l0:=ic (z:=z) hlen.symm h18 k 57 48 false;have l1':aw (bj 20000000) 20000000 (m,false,57,48,((ap m l:Nat):Int),over z 0 l,over z 0 l)=_:=l1;simp only [bF,iJ,ar,hz0,ob,l0,eL,af,jI hc,gj hj,hg,hne,l1']
    ·have l0:=ic (z:=z) hlen.symm h18 k 48 57 true;have l1':aw (bj 20000000) 20000000 (m,true,48,57,((ap m l:Nat):Int),over z 0 l,over z 0 l)=_:=l1;simp only [bF,dJ,ar,hz0,ob,l0,eL,af,jI hc,gj hj,hg,hne,l1']
   | some a=>
    have ha:=Gi up m l hb;obtain ⟨w,hw⟩:∃c,l[a]?=some c:=⟨l[a]'(by omega),cn (by omega)⟩;have hga:(over z 0 l)[a]?=some w:=by rw [pZ (by omega)];exact hw
    have hgd:l.getD a 0=w:=by rw [yI,hw];rfl
    have hwr:=hrng w (gD hw);have haj:a<18:=by omega
    have e2:Nat.blt a 18=true:=cZ haj;have w1:IntKind.wrap .i64 ((a:Int)+1)=((a+1:Nat):Int):=by rw [wrap_i64 _ (by omega) (by omega)];omega
    rw [hb] at happ l1;simp only [cK,hgd] at happ;have f2:=fin _ happ;rw [happ];simp only [] at l1 ⊢;rw [<-va z l _ _ (by rw [ci,uC,km];omega),<-uG _ _ _ _ (by omega)] at f2;have l2:=vq h18 up ((over z 0 l).set a (stp up w)) (by simpa using hout) (a+1) (by omega);cases up
    ·have l0:=ic (z:=z) hlen.symm h18 k 57 48 false;have l1':aw (bj 20000000) 20000000 (m,false,57,48,((ap m l:Nat):Int),over z 0 l,over z 0 l)=some (.inr (m,false,57,((a:Nat):Int),over z 0 l)):=l1;have l2':aw (aQ 20000000) 20000000 (m,57,((a+1:Nat):Int),(over z 0 l).set a (w - 1))=_:=l2;have w2:IntKind.wrap .u8 (w - 1)=w - 1:=fi _ (by omega) (by omega);simp only [bF,iJ,ar,hz0,ob,l0,eL,af,jI hc,gj hj,hg,hne,l1',gj haj,hga,e2,w1,w2,l2',f2]
    ·have l0:=ic (z:=z) hlen.symm h18 k 48 57 true;have l1':aw (bj 20000000) 20000000 (m,true,48,57,((ap m l:Nat):Int),over z 0 l,over z 0 l)=some (.inr (m,true,48,((a:Nat):Int),over z 0 l)):=l1;have l2':aw (aQ 20000000) 20000000 (m,48,((a+1:Nat):Int),(over z 0 l).set a (w+1))=_:=l2;have w2:IntKind.wrap .u8 (w+1)=w+1:=fi _ (by omega) (by omega);simp only [bF,dJ,ar,hz0,ob,l0,eL,af,jI hc,gj hj,hg,hne,l1',gj haj,hga,e2,w1,w2,l2',f2]
 ·have e:ap m l=m.length:=by omega
  rw [e,List.drop_length,<-hlen,List.drop_length,mZ] at happ;simp only [nx,xZ] at happ;have eL:(((ap m l:Nat):Int)==((List.length m:Nat):Int))=true:=by rw [e];simp
  rw [happ];simp only [hv];cases up
  ·have l0:=ic (z:=z) hlen.symm h18 k 57 48 false;simp only [bF,iJ,ar,hz0,ob,l0,eL]
  ·have l0:=ic (z:=z) hlen.symm h18 k 48 57 true;simp only [bF,dJ,af,hz0,ob,l0,eL,ar]
def near (up:Bool) (m:aa) (k:Int):Option Int->Prop
 | some R=>hasM m R=true/\cA up k R/\∀e,hasM m e=true->cA up k e->cA up R e
 | none=>∀e,hasM m e=true->¬cA up k e
def res (o:Option Int):Int×Int:=match o with | some r=>(r,0) | none=>(0,16)
theorem jW {m:aa} {e:Int} (h:hasM m e=true):(dg m.length e).length=m.length/\digl (dg m.length e)/\eV m (dg m.length e)=true/\vl (dg m.length e)=e/\0<=e/\e<10 ^ m.length:=by
 unfold hasM at h;simp only [av,bY] at h;exact ⟨qH _ _,nr _ _,h.2.2,FY _ _ h.1 h.2.1,h.1,h.2.1⟩
theorem G4 {m:aa} {r:List Int} (e:r.length=m.length) (b:digl r) (d:eV m r=true):hasM m (vl r)=true:=by
 have a:=pR b;have c:=Kw b;rw [e] at a c;unfold hasM;rw [c,d,az a.1,az a.2];rfl
theorem ra {m:aa} (l:chk m=0) (up:Bool) (k:Int) (q:0<=k) (p:k<10 ^ m.length):∃o,bF 20000000 m k up=some (res o)/\near up m k o:=by
 obtain ⟨u,_,c⟩:=jw l;have b:=Hi up c (qH m.length k).symm (nr m.length k);have h:=FY m.length k q p;refine ⟨(nx up m (dg m.length k)).map vl,?_,?_⟩
 ·rw [C7 l up k q p];cases nx up m (dg m.length k)<;>rfl
 ·cases s:nx up m (dg m.length k) with
  | none=>
   rw [s] at b;intro e g d;obtain ⟨j,f,i,a,_⟩:=jW g;exact b _ j f i (by rw [h,a];exact d)
  | some r=>
   rw [s] at b;obtain ⟨w,x,v,n,t⟩:=b;refine ⟨G4 w x v,by rw [h] at n;exact n,λe g d=>?_⟩;obtain ⟨j,f,i,a,_⟩:=jW g;have:=t _ j f i (by rw [h,a];exact d);rwa [a] at this
theorem xE {m:aa} {e:Int} (h:hasM m e=true):0<=idx m.reverse e/\idx m.reverse e<10 ^ cnt m/\nth m.reverse (idx m.reverse e)=e:=by
 rw [wC] at h;simp only [av,bY] at h;obtain ⟨k0,k1,k2⟩:=h;have:=qo m.reverse e k0;rw [mW] at this;exact ⟨this.1,this.2,A4 k0 (by rw [tg];exact k1) k2⟩
section
variable {m:List UInt8} (hm:chk m=0)
include hm
theorem AI {i j:Int} (c:0<=i) (b:i<=j) (d:j<10 ^ cnt m):nth m.reverse i<=nth m.reverse j:=by
 obtain ⟨e,_,a⟩:=jw hm;rcases Int.lt_or_eq_of_le b with h | rfl
 ·exact Int.le_of_lt (tQ (sI a) i j c h (by rw [mW];exact d))
 ·exact lT _
theorem vR (k:Int):iv 20000000 m k=some (decide (0<=k/\k<10 ^ m.length)):=by
 obtain ⟨b,_,c⟩:=jw hm;simp only [iv,Fe m.length b,ob];by_cases a:0<=k
 ·have d0:decide (k>=0)=true:=by simpa using a
  simp only [d0,ar,a,kT,kA]
 ·have d0:decide (k>=0)=false:=by simpa using a
  simp only [d0,af,a,false_and,kP]
theorem Da (k:Int):∃o,ml 20000000 m k=some (res o)/\near true m k o:=by
 obtain ⟨l,_,c⟩:=jw hm;have p:((0:Int) != 0)=false:=by simp
 simp only [ml,ib 20000000 m (by omega),hm,iO,p,af,vR hm];by_cases b:k<0
 ·refine ⟨some (nth m.reverse 0),by simp only [az b,ar,D1 hm,iO,res],xW hm (by omega),?_,λe d f=>?_⟩
  ·have:=(lW (sI c) 0 (by omega)).1;simp only [cA];omega
  ·obtain ⟨j,q,r⟩:=xE d;have:=AI hm (lT 0) j q;simp only [cA];omega
 ·by_cases a:k<10 ^ m.length
  ·obtain ⟨o,n,g⟩:=ra hm true k (by omega) a;exact ⟨o,by simp only [ay b,af,az (show 0<=k/\k<10 ^ m.length from ⟨by omega,a⟩),dJ,n,iO],g⟩
  ·refine ⟨none,by simp only [ay b,af,ay (show ¬(0<=k/\k<10 ^ m.length) from λh=>a h.2),iJ,ar,res],λe d f=>?_⟩;obtain ⟨_,_,_,_,_,i⟩:=jW d;simp only [cA] at f;omega
theorem Bz (k:Int):∃o,ma 20000000 m k=some (res o)/\near false m k o:=by
 obtain ⟨l,_,c⟩:=jw hm;have q:((0:Int) != 0)=false:=by simp
 simp only [ma,ib 20000000 m (by omega),hm,iO,q,af,vR hm];by_cases b:k<0
 ·refine ⟨none,by simp only [az b,ar,res],λe d f=>?_⟩;obtain ⟨_,_,_,_,i,_⟩:=jW d;simp only [cA] at f;omega
 ·by_cases a:k<10 ^ m.length
  ·obtain ⟨o,n,g⟩:=ra hm false k (by omega) a;exact ⟨o,by simp only [ay b,af,az (show 0<=k/\k<10 ^ m.length from ⟨by omega,a⟩),dJ,n,iO],g⟩
  ·have p:=nF (cnt m);refine ⟨some (nth m.reverse (10 ^ cnt m - 1)),by simp only [ay b,af,ay (show ¬(0<=k/\k<10 ^ m.length) from λh=>a h.2),iJ,ar,xe hm,iO,res],xW hm (by omega),?_,λe d f=>?_⟩
   ·have:=(lW (sI c) (10 ^ cnt m - 1) (by omega)).2;rw [tg] at this;simp only [cA];omega
   ·obtain ⟨j,s,r⟩:=xE d;have:=AI hm j (show idx m.reverse e<=10 ^ cnt m - 1 by omega) (by omega);simp only [cA];omega
end
end Go.Sh.Mk
namespace Go.Sh
open Go.Abs
def fitN (s:aa) (g:Nat):List Nat:=(List.range' 1 g).filter (agr s)
def sd (l:List Nat):List Int:=l.map λk:Nat=>(k:Int)
theorem uP (l:List Nat):(sd l).length=l.length:=by simp [sd]
theorem uT (c:UInt8) {j:Nat} (d:j<10):(IntKind.wrap .i64 (IntKind.wrap .u8 (((c.toNat:Nat):Int) - 48))==((j:Nat):Int))=(c==UInt8.ofNat (48+j)):=by
 have hc:=c.toNat_lt;have b:=tO (((c.toNat:Nat):Int) - 48);rw [wrap_i64 _ (by omega) (by omega),zO,Bool.eq_iff_iff,bu,bu];have a:(UInt8.ofNat (48+j)).toNat=48+j:=by simp;omega
 constructor
 ·intro h;apply gU.1;omega
 ·rintro rfl;omega
theorem DY (n:Nat) (a b:UInt8) {k:Nat} (l:k<=31):gv n [a,b] (k:Int)=some (agr [a,b] k):=by
 have h:IntKind.wrap .i64 (Int.tdiv (k:Int) 10)=((k / 10:Nat):Int):=by
  rw [show Int.tdiv (k:Int) 10=((k / 10:Nat):Int) from rfl,wrap_i64 _ (by omega) (by omega)]
 have i:Int.tmod (k:Int) 10=((k%10:Nat):Int):=rfl;have s0:sx [a,b] 0=some a:=rfl;have d:sx [a,b] 1=some b:=rfl;have c:(88:Int)=((88:Nat):Int):=rfl;unfold gv;simp only [s0,d,ob,h,i];rw [uT a (show k / 10<10 by omega),uT b (show k%10<10 by omega),c,sO (by omega),sO (by omega)];show _=some ((a==UInt8.ofNat 88||a==UInt8.ofNat (48+k / 10))&&(b==UInt8.ofNat 88||b==UInt8.ofNat (48+k%10)));generalize (a==UInt8.ofNat 88)=g;generalize (b==UInt8.ofNat 88)=e;generalize (a==UInt8.ofNat (48+k / 10))=f;generalize (b==UInt8.ofNat (48+k%10))=j;cases g<;>cases e<;>cases f<;>cases j<;>rfl
theorem room {k:Nat} (h:k<=60000000):Nat.ble (k+1) eY=true:=cZ (by unfold eY;omega)
theorem Fv {X Y:Type} {step:X->Option (X⊕Y)} {f:Nat->List Int->X} {y:List Int->Y} {p:Nat->Bool} {g:Nat} (j:g<=1000)
  (h:∀i out,i<g->out.length<=1000->step (f i out)=some (.inl (f (i+1) (if p (i+1) then out++[((i+1:Nat):Int)] else out))))
  (e:∀out,step (f g out)=some (.inr (y out))) {N:Nat} (b:g<N):aw step N (f 0 [])=some (y (sd ((List.range' 1 g).filter p))):=by
 have c:∀(r i:Nat) (out:List Int),i+r=g->out.length<=i->∀N,r<N->aw step N (f i out)=some (y (out++sd ((List.range' (i+1) r).filter p))):=by
  intro r
  induction r with
  | zero=>
   intro i out hi d N b;obtain ⟨N,rfl⟩:∃q,N=q+1:=⟨N - 1,by omega⟩;obtain rfl:i=g:=by omega
   rw [aw,e];simp [sd]
  | succ r ih=>
   intro i out hi d N b;obtain ⟨N,rfl⟩:∃q,N=q+1:=⟨N - 1,by omega⟩;rw [aw,h i out (by omega) (by omega)];show aw step N _=_;by_cases a:p (i+1)=true
   ·rw [ad a,ih (i+1) _ (by omega) (by simp;omega) N (by omega),wv,List.filter_cons_of_pos a];simp [sd]
   ·rw [ab a,ih (i+1) _ (by omega) (by omega) N (by omega),wv,List.filter_cons_of_neg a]
 have:=c g 0 [] (by omega) (by simp) N b;simpa using this
theorem DC (n:Nat) (j:100<n) (a b:UInt8) {g:Nat} (h:g<=31):cG n [a,b] (g:Int)=some (sd (fitN [a,b] g)):=by
 unfold cG
 have:=Fv (step:=da n) (f:=λi out=>([a,b],(g:Int),(i:Int),out)) (y:=λl=>l) (p:=agr [a,b]) (g:=g) (by omega)
  (λi out hi k=>by
   have e:IntKind.wrap .i64 ((i:Int)+1)=((i+1:Nat):Int):=by rw [wrap_i64 _ (by omega) (by omega)];omega
   unfold da;simp only [e];rw [az (show (i:Int)<(g:Int) by omega),DY n a b (by omega),room (by omega)];by_cases c:agr [a,b] (i+1)=true
   ·rw [ad c];simp only [ob,c,ar]
   ·rw [ab c];rw [A1] at c;simp only [ob,c,ar,af])
  (λout=>by
   unfold da;simp only [ay (show ¬(g:Int)<(g:Int) by omega),af])
  (N:=n) (by omega)
 have d:aw (da n) n ([a,b],(g:Int),0,([]:List Int))=_:=this;rw [d];rfl
def monI (m:aa):List Int:=if m=[] then [0] else if 0<sea m then [sea m] else sd (fitN m 12)
def dayI (d:aa):List Int:=if d=[] then [0] else sd (fitN d 31)
theorem gP {l:aa} (h:l≠[]):(l==([]:aa))=false:=bW.2 h
theorem len2 {s:aa} (h:s.length=2):∃a b,s=[a,b]:=by
 match s,h with
 | [a,b],_=>exact ⟨a,b,rfl⟩
theorem JW (n:Nat) (o:100<n) (g l:Bool) (dg:aa) (x q:Int) (m d:aa) (k0 k1 k2:Int) (k:m=[]\/m.length=2) (r:d=[]\/d.length=2):
  jq n g l dg x q m d k0 k1 k2=some (g,l,dg,x,q,m,d,k0,k1,k2,monI m,dayI d):=by
 have i:m.length<=18:=by rcases k with h | h;(rw [h];simp);omega
 have j:d≠[]->cG n d 31=some (dayI d):=λh=>by
  obtain ⟨a,b,rfl⟩:=len2 (r.resolve_left h);rw [show (31:Int)=((31:Nat):Int) from rfl,DC n o a b (by omega)];unfold dayI;rw [ab h]
 have f:d=[]->dayI d=[0]:=λh=>by unfold dayI;rw [ad h]
 have p:m≠[]->¬0<sea m->cG n m 12=some (monI m):=λh e=>by
  obtain ⟨a,b,rfl⟩:=len2 (k.resolve_left h);rw [show (12:Int)=((12:Nat):Int) from rfl,DC n o a b (by omega)];unfold monI;rw [ab h,ab e]
 unfold jq;rw [nX n g l dg x q m d k0 k1 k2 i];simp only [ob];by_cases e:0<sea m
 ·have c:m≠[]:=by rintro rfl;exact absurd e (by decide)
  have hm':monI m=[sea m]:=by unfold monI;rw [ab c,ad e]
  rw [az e];by_cases h:d=[]
  ·rw [h,<-h,f h,hm',h];rfl
  ·rw [gP h,j h,hm'];rfl
 ·rw [ay e];by_cases c:m=[]
  ·have hm':monI m=[0]:=by unfold monI;rw [ad c]
   by_cases h:d=[]
   ·rw [f h,hm',h,c];rfl
   ·rw [gP h,j h,hm',c];rfl
  ·rw [gP c,p c e];by_cases h:d=[]
   ·rw [f h,h];rfl
   ·rw [gP h,j h];rfl
def qe (y:Int):Bool:=decide (y%4=0)&&(decide (y%100≠0)||decide (y%400=0))
def lenI (y m:Int):Int:=if m=4\/m=6\/m=9\/m=11 then 30 else if m=2 then (if qe y then 29 else 28) else 31
theorem qk (n:Nat) {y:Int} (h:-20000000000000000<=y/\y<=20000000000000000):cN n y=some (1+(y - 1) / 4 - (y - 1) / 100+(y - 1) / 400):=by
 unfold cN;rw [wrap_i64 (y - 1) (by omega) (by omega),qh n (by omega) (by omega) (by omega) (by omega),qh n (by omega) (by omega) (by omega) (by omega),qh n (by omega) (by omega) (by omega) (by omega)];show some _=some _;have f:-5000000000000001<=(y - 1) / 4/\(y - 1) / 4<=5000000000000001:=by omega
 have e:-5000000000000001<=(y - 1) / 100/\(y - 1) / 100<=5000000000000001:=by omega
 have d:-5000000000000001<=(y - 1) / 400/\(y - 1) / 400<=5000000000000001:=by omega
 generalize (y - 1) / 4=a at *;generalize (y - 1) / 100=b at *;generalize (y - 1) / 400=c at *;simp only [];rw [wrap_i64 (1*a) (by omega) (by omega),wrap_i64 (-1*b) (by omega) (by omega),wrap_i64 (1*c) (by omega) (by omega),wrap_i64 (1+1*a) (by omega) (by omega),wrap_i64 (1+1*a+-1*b) (by omega) (by omega),wrap_i64 _ (by omega) (by omega)];congr 1;omega
theorem Fq (y:Int):(1+y / 4 - y / 100+y / 400>1+(y - 1) / 4 - (y - 1) / 100+(y - 1) / 400)↔qe y=true:=by
 unfold qe;simp only [av,eT,bY];omega
theorem Ih (n:Nat) {y:Int} (h:bL y):fX n y=some (qe y,0):=by
 unfold fX;have h':=h;unfold bL at h';rw [cO,ad h,wrap_i64 (y+1) (by omega) (by omega),qk n (by omega),qk n (by omega),show y+1 - 1=y by omega];have b:=Fq y;show some (decide (1+y / 4 - y / 100+y / 400>1+(y - 1) / 4 - (y - 1) / 100+(y - 1) / 400),(0:Int))=_;by_cases a:qe y=true
 ·rw [a,az (b.2 a)]
 ·rw [A1] at a;rw [a,ay (λe=>by rw [b.1 e] at a;cases a)]
theorem qV (n:Nat) {y:Int} (h:bL y) {m:Nat} (d:1<=m) (c:m<=12):cj n y (m:Int)=some (lenI y (m:Int)):=by
 unfold cj;rw [Ih n h];show cond (qe y&&((m:Int)==2)) _ _=_;have a:IntKind.wrap .i64 ((m:Int) - 1)=((m - 1:Nat):Int):=by rw [wrap_i64 _ (by omega) (by omega)];omega
 rw [a,gj (show m - 1<12 by omega)];have b:m=1\/m=2\/m=3\/m=4\/m=5\/m=6\/m=7\/m=8\/m=9\/m=10\/m=11\/m=12:=by omega
 rcases b with rfl | rfl | rfl | rfl | rfl | rfl | rfl | rfl | rfl | rfl | rfl | rfl<;>unfold lenI<;>cases qe y<;>rfl
theorem xw (n:Nat) {y:Int} (h:bL y) {m:Nat} (b:1<=m) (a:m<=12):jf n y (m:Int)=some (lenI y (m:Int),0):=by
 unfold jf;rw [ze n h b a,qV n h b a];rfl
theorem gJ (y m:Int):28<=lenI y m/\lenI y m<=31:=by
 unfold lenI;split
 ·omega
 ·split
  ·split<;>omega
  ·omega
def rz (d:aa) (y m:Int):Int:=if d=[] then 0 else lenI y m
def Gy (d:aa) (y a:Int):List (Int×Int×Int):=((dayI d).filter λk=>decide (k<=rz d y a)).map λk=>(y,a,k)
def B9 (m d:aa) (y:Int):List (Int×Int×Int):=(monI m).flatMap (Gy d y)
theorem xC (s:aa) (g:Nat):(fitN s g).length<=g:=by
 have:=Bi (agr s) (List.range' 1 g);rw [List.length_range'] at this;exact this
theorem Ei (d:aa):(dayI d).length<=31:=by
 unfold dayI;split
 ·simp
 ·rw [uP];exact xC d 31
theorem Fo (m:aa):(monI m).length<=12:=by
 unfold monI;split
 ·simp
 ·split
  ·simp
  ·rw [uP];exact xC m 12
theorem JG {a b c e:UInt8} (k:bG a=true\/a=88) (j:bG b=true\/b=88) (hc:bG c=true\/c=88) (l:bG e=true\/e=88) (w:Nat):
  mtk [a,b,c,e] 4 w=Mk.ag [e,c,b,a] (w:Int):=by
 have one:∀(z:UInt8) (v:Nat),(decide (z=88)||decide (z.toNat=48+v%10))=(decide (z=88)||decide (Mk.dv z=(v:Int)%10)):=by
  intro z v;have:(z.toNat=48+v%10)↔(Mk.dv z=(v:Int)%10):=by unfold Mk.dv;omega
  rw [oL.2 this]
 have d:∀v:Nat,(v:Int) / 10=((v / 10:Nat):Int):=λv=>by omega
 show ((decide (e=88)||decide (e.toNat=48+w%10))&&((decide (c=88)||decide (c.toNat=48+w / 10%10))&&((decide (b=88)||decide (b.toNat=48+w / 10 / 10%10))&&((decide (a=88)||decide (a.toNat=48+w / 10 / 10 / 10%10))&&true))))
  = ((((true&&(decide (a=88)||decide (Mk.dv a=(w:Int) / 10 / 10 / 10%10)))&&(decide (b=88)||decide (Mk.dv b=(w:Int) / 10 / 10%10)))&&(decide (c=88)||decide (Mk.dv c=(w:Int) / 10%10)))&&(decide (e=88)||decide (Mk.dv e=(w:Int)%10)))
 rw [one e w,one c (w / 10),one b (w / 10 / 10),one a (w / 10 / 10 / 10),d w,d (w / 10),d (w / 10 / 10)];generalize (decide (e=88)||decide (Mk.dv e=(w:Int)%10))=h;generalize (decide (c=88)||decide (Mk.dv c=((w / 10:Nat):Int)%10))=f;generalize (decide (b=88)||decide (Mk.dv b=((w / 10 / 10:Nat):Int)%10))=g;generalize (decide (a=88)||decide (Mk.dv a=((w / 10 / 10 / 10:Nat):Int)%10))=i;cases h<;>cases f<;>cases g<;>cases i<;>rfl
theorem GP {c:UInt8} (h:bG c=true\/c=88):Mk.okB c=true:=by
 rcases h with h | h
 ·have h:=(ec c).1 h;unfold Mk.okB;simp only [eT,av,bY];right
  first | omega | (obtain ⟨b,a⟩:=h;constructor<;>omega)
 ·subst h;decide
theorem EV {d:aa} (a:d.length=4) (h:∀c∈d,bG c=true\/c=88):Mk.chk d=0:=by
 unfold Mk.chk;have:d.all Mk.okB=true:=bz.2 λc hc=>GP (h c hc);rw [ab (by omega),ad this,ab (by rintro rfl;simp at a)]
theorem zl {d:aa} (g:d.length=4) (h:∀c∈d,bG c=true\/c=88) (w:Nat):Mk.hasM d (w:Int)=true↔mtk d 4 w=true/\w / 10 ^ 4=0:=by
 obtain ⟨a,b,c,e,rfl⟩:∃a b c e,d=[a,b,c,e]:=by
  match d,g with
  | [a,b,c,e],_=>exact ⟨a,b,c,e,rfl⟩
 rw [Mk.wC,JG (h a (by simp)) (h b (by simp)) (h c (by simp)) (h e (by simp)) w];simp only [av,bY];show 0<=(w:Int)/\(w:Int)<10 ^ 4/\Mk.ag [e,c,b,a] (w:Int)=true↔Mk.ag [e,c,b,a] (w:Int)=true/\w / 10 ^ 4=0;have j:(10:Int) ^ 4=10000:=by decide
 have e4':(10:Nat) ^ 4=10000:=by decide
 rw [j,e4'];constructor
 ·rintro ⟨_,i,f⟩;exact ⟨f,by omega⟩
 ·rintro ⟨f,i⟩;exact ⟨by omega,by omega,f⟩
theorem yz {g l:Bool} {d:aa} {x q:Int} (c:okY g l d x q) (f:hasX d=true) (v:Int):inP g d x q v↔(Mk.hasM d (wOf g v)=true/\(g=true->1<=wOf g v)):=by
 obtain ⟨rfl,rfl,rfl,h,j⟩:=qK c f;unfold inP;rw [Jg f];have m:∀k:Int,Mk.hasM d k=true->0<=k/\k<10000:=λk r=>by
  have:=(Mk.jW r).2.2.2.2;rw [h] at this;have w:(10:Int) ^ 4=10000:=by decide
  omega
 constructor
 ·rintro ⟨a,i,s,p,o⟩;have:=(zl h j (wOf g v).toNat).2 o;rw [show (((wOf g v).toNat:Nat):Int)=wOf g v by omega] at this;refine ⟨this,λb=>?_⟩;have u:¬wOf g v=0:=λe=>p ⟨f,b,e⟩;omega
 ·rintro ⟨a,i⟩;have hr':=m _ a;have n:=(zl h j (wOf g v).toNat).1 (by rw [show (((wOf g v).toNat:Nat):Int)=wOf g v by omega];exact a);have t:v=wOf g v\/v=- wOf g v:=by
   unfold wOf;split
   ·right;omega
   ·left;rfl
  refine ⟨by omega,by omega,hr'.1,?_,n⟩;rintro ⟨_,b,e⟩;have:=i b;omega
theorem wV {g l:Bool} {d:aa} {x:Int} (a:okY g l d x 0) (b:hasX d=false) (v:Int):inP g d x 0 v↔v=(if g then -((val d x.toNat:Nat):Int) else ((val d x.toNat:Nat):Int)):=by
 obtain ⟨k,q,rfl,o,j⟩:=th a b;have c:=j.small;have i:dval 0 d*10 ^ k=val d k:=rfl;rw [i] at c;unfold E16 at c;unfold inP;rw [Iq b];have n:zJ d (k:Int).toNat (0:Int).toNat=1:=rfl;rw [n,bV,um,um,b];unfold wOf;cases g with
 | true=>
  simp only [aY];constructor
  ·rintro ⟨f,m,e,_,h⟩;omega
  ·rintro rfl;refine ⟨by omega,by omega,by omega,by simp,by omega⟩
 | false=>
  simp only [bT,aE];constructor
  ·rintro ⟨f,m,e,_,h⟩;omega
  ·rintro rfl;refine ⟨by omega,by omega,by omega,by simp,by omega⟩
def xu (up:Bool) (Y:Int->Prop) (v w:Int) (a:Bool):Prop:=
 (a=true->Y w/\Mk.cA up v w/\∀e,Y e->Mk.cA up v e->Mk.cA up w e)/\(a=false->∀e,Y e->¬Mk.cA up v e)
theorem cw (a b:Int):Mk.cA true a b↔a<=b:=Iff.rfl
theorem dR (a b:Int):Mk.cA false a b↔b<=a:=Iff.rfl
theorem Gf (o:Option Int):(Mk.res o).2=0/\(∃r,o=some r/\(Mk.res o).1=r)\/(Mk.res o).2=16/\o=none/\(Mk.res o).1=0:=by
 cases o with
 | none=>exact .inr ⟨rfl,rfl,rfl⟩
 | some r=>exact .inl ⟨rfl,r,rfl,rfl⟩
theorem pt {m:aa} (j:Mk.chk m=0) (v a:Int) (t:0<=a):∃w f,cV 20000000 m v true a=some (w,f)/\xu true (λe=>Mk.hasM m e=true/\a<=e) v w f/\(0<=w/\w<1000000000000000000):=by
 obtain ⟨o,k,c⟩:=Mk.Da j (cond (decide (a>v)) a v);unfold cV;rw [k];simp only [ob,ar];have hc:(cond (decide (a>v)) a v)=max v a:=by
  by_cases h:a>v
  ·rw [az h];show a=_;omega
  ·rw [ay h];show v=_;omega
 rw [hc] at c;rcases Gf o with ⟨i,r,rfl,d⟩ | ⟨i,rfl,d⟩
 ·refine ⟨_,_,rfl,?_,?_⟩
  ·rw [i,d];obtain ⟨q,l,n⟩:=c;rw [cw] at l;refine ⟨λ_=>⟨⟨q,by omega⟩,?_,λe b g=>?_⟩,λh=>by cases h⟩
   ·rw [cw];omega
   ·rw [cw] at g;exact n e b.1 (by rw [cw];have:=b.2;omega)
  ·have:=(Mk.jW c.1).2.2.2.2;have p:=Mk.jw j;have u:(10:Int) ^ m.length<=10 ^ 18:=by
    have:=iE (show 0<10 by decide) p.1
    exact_mod_cast this
   have s:(10:Int) ^ 18=1000000000000000000:=by decide
   rw [d];omega
 ·refine ⟨_,_,rfl,?_,by rw [d];omega⟩;rw [i];refine ⟨(λh=>by cases h),λ_ e b g=>?_⟩;rw [cw] at g;exact c e b.1 (by rw [cw];have:=b.2;omega)
theorem pp {m:aa} (j:Mk.chk m=0) (v a:Int) (x:0<=a):∃w f,cV 20000000 m v false a=some (w,f)/\xu false (λe=>Mk.hasM m e=true/\a<=e) v w f/\(0<=w/\w<1000000000000000000):=by
 obtain ⟨o,p,k⟩:=Mk.Bz j v;unfold cV;rw [p];simp only [ob,af];rcases Gf o with ⟨g,r,rfl,i⟩ | ⟨g,rfl,i⟩
 ·rw [g,i];obtain ⟨n,q,l⟩:=k;rw [dR] at q;have u:=(Mk.jW n).2.2.2.2;have s:=Mk.jw j;have y:(10:Int) ^ m.length<=10 ^ 18:=by
   have:=iE (show 0<10 by decide) s.1
   exact_mod_cast this
  have t:(10:Int) ^ 18=1000000000000000000:=by decide
  refine ⟨_,_,rfl,?_,by omega⟩;by_cases c:r>=a
  ·rw [az c];refine ⟨λ_=>⟨⟨n,by omega⟩,by rw [dR];omega,λe b d=>l e b.1 d⟩,λh=>by cases h⟩
  ·rw [ay c];refine ⟨(λh=>by cases h),λ_ e b d=>?_⟩;have:=l e b.1 d;rw [dR] at this;have:=b.2;omega
 ·rw [g,i];refine ⟨_,_,rfl,?_,by omega⟩;refine ⟨(λh=>by cases h),λ_ e b d=>k e b.1 d⟩
theorem BA {g l:Bool} {dg:aa} {x:Int} (j:okY g l dg x 0) (m d:aa) (k0 k1 k2:Int) (v:Int) (J:-9223372036854775808<=v/\v<9223372036854775808) (up:Bool) (G E:List Int):
  ∃w f,aM 20000000 g l dg x 0 m d k0 k1 k2 v up G E=some (w,f)/\xu up (inP g dg x 0) v w f:=by
 have H:=tK j;unfold aM;rw [nE];simp only [ob];cases u:hasX dg with
 | false=>
  have c:=wV j u;rw [pM 20000000 g l dg x 0 (by omega) (by omega),ad ⟨j,u⟩];simp only [iJ,ar];generalize (if g then -((val dg x.toNat:Nat):Int) else ((val dg x.toNat:Nat):Int))=w at *;cases up with
  | true=>
   by_cases h:w>=v
   ·refine ⟨w,true,?_,?_⟩
    ·simp only [az h,ar]
    ·refine ⟨λ_=>⟨(c w).2 rfl,h,λe b _=>?_⟩,λh=>by cases h⟩;rw [(c e).1 b];exact lT _
   ·refine ⟨w,false,?_,?_⟩
    ·simp only [ay h,ar,af,dJ]
    ·refine ⟨(λh=>by cases h),λ_ e b n=>?_⟩;rw [(c e).1 b,cw] at n;omega
  | false=>
   by_cases h:w<=v
   ·refine ⟨w,true,?_,?_⟩
    ·simp only [az h,ar,af,iJ]
    ·refine ⟨λ_=>⟨(c w).2 rfl,h,λe b _=>?_⟩,λh=>by cases h⟩;rw [(c e).1 b];exact lT _
   ·refine ⟨w,false,?_,?_⟩
    ·simp only [ay h,ar,af,iJ]
    ·refine ⟨(λh=>by cases h),λ_ e b n=>?_⟩;rw [(c e).1 b,dR] at n;omega
 | true=>
  have c:=yz j u;obtain ⟨rfl,rfl,_,C,F⟩:=qK j u;have y:=EV C F;simp only [dJ,af];cases g with
  | false=>
   simp only [iJ,ar];have q:∀w f,xu up (λe=>Mk.hasM dg e=true/\0<=e) v w f->xu up (inP false dg 0 0) v w f:=λw f h=>by
    have a:∀e,(Mk.hasM dg e=true/\0<=e)↔inP false dg 0 0 e:=λe=>by
     rw [c e];constructor
     ·rintro ⟨i,_⟩;exact ⟨i,λh=>by cases h⟩
     ·rintro ⟨i,_⟩;exact ⟨i,(Mk.jW i).2.2.2.2.1⟩
    refine ⟨λk=>?_,λk e b=>h.2 k e ((a e).2 b)⟩;obtain ⟨r,t,s⟩:=h.1 k;exact ⟨(a w).1 r,t,λe b=>s e ((a e).2 b)⟩
   cases up with
   | true=>
    obtain ⟨w,f,i,p,_⟩:=pt y v 0 (by omega);exact ⟨w,f,by rw [i],q w f p⟩
   | false=>
    obtain ⟨w,f,i,p,_⟩:=pp y v 0 (by omega);exact ⟨w,f,by rw [i],q w f p⟩
  | true=>
   simp only [dJ,af];have hc:IntKind.wrap .i64 (0 - (cond (decide (((-9223372036854775807):Int)>v)) (-9223372036854775807) v))=min (-v) 9223372036854775807:=by
    by_cases h:((-9223372036854775807):Int)>v
    ·rw [az h,ar,wrap_i64 _ (by omega) (by omega)];omega
    ·rw [ay h,af,wrap_i64 _ (by omega) (by omega)];omega
   rw [hc];have z:∀e,Mk.hasM dg e=true->0<=e/\e<10000:=λe b=>by
    have:=(Mk.jW b).2.2.2.2;rw [C] at this;have I:(10:Int) ^ 4=10000:=by decide
    omega
   have a:∀e,inP true dg 0 0 e↔(Mk.hasM dg (-e)=true/\1<=-e):=λe=>by
    rw [c e];exact ⟨λh=>⟨h.1,h.2 rfl⟩,λh=>⟨h.1,λ_=>h.2⟩⟩
   have B:∀w:Int,0<=w/\w<1000000000000000000->IntKind.wrap .i64 (0 - w)=-w:=λw h=>by rw [wrap_i64 _ (by omega) (by omega)];omega
   cases up with
   | true=>
    obtain ⟨w,f,i,p,A⟩:=pp y (min (-v) 9223372036854775807) 1 (by omega);refine ⟨-w,f,by rw [dJ,i];simp only [B w A],?_,?_⟩
    ·intro k;obtain ⟨r,t,s⟩:=p.1 k;rw [dR] at t;refine ⟨(a _).2 (by rw [Int.neg_neg];exact r),by rw [cw];omega,λe b n=>?_⟩;rw [cw] at n;have o:=(a e).1 b;have:=s (-e) o (by rw [dR];have:=z _ o.1;omega);rw [dR] at this;rw [cw];omega
    ·intro k e b n;rw [cw] at n;have o:=(a e).1 b;exact p.2 k (-e) o (by rw [dR];have:=z _ o.1;omega)
   | false=>
    obtain ⟨w,f,i,p,A⟩:=pt y (min (-v) 9223372036854775807) 1 (by omega);refine ⟨-w,f,by rw [iJ,i];simp only [B w A],?_,?_⟩
    ·intro k;obtain ⟨r,t,s⟩:=p.1 k;rw [cw] at t;have D:=z _ r.1;refine ⟨(a _).2 (by rw [Int.neg_neg];exact r),by rw [dR];omega,λe b n=>?_⟩;rw [dR] at n;have o:=(a e).1 b;have:=s (-e) o (by rw [cw];omega);rw [cw] at this;rw [dR];omega
    ·intro k e b n;rw [dR] at n;have o:=(a e).1 b;exact p.2 k (-e) o (by rw [cw];omega)
theorem uL {X Y A:Type} {step:X->Option (X⊕Y)} {f:Nat->X} {L:List A} {G:A->Option Y} {e:Y}
  (h:∀i a,L[i]?=some a->step (f i)=some ((G a).elim (.inl (f (i+1))) Sum.inr)) (g:step (f L.length)=some (.inr e)) {N:Nat} (b:L.length<N):
  aw step N (f 0)=some ((L.findSome? G).getD e):=by
 have d:∀(r i:Nat),i+r=L.length->∀N,r<N->aw step N (f i)=some (((L.drop i).findSome? G).getD e):=by
  intro r
  induction r with
  | zero=>
   intro i hi N b;obtain ⟨N,rfl⟩:∃q,N=q+1:=⟨N - 1,by omega⟩;obtain rfl:i=L.length:=by omega
   rw [aw,g];simp
  | succ r ih=>
   intro i hi N b;obtain ⟨N,rfl⟩:∃q,N=q+1:=⟨N - 1,by omega⟩;have c:L[i]?=some L[i]:=cn (by omega);rw [aw,h i L[i] c,xN (show i<L.length by omega),xY];cases j:G L[i] with
   | some y=>rfl
   | none=>exact ih (i+1) (by omega) N (by omega)
 have:=d L.length 0 (by omega) N b;simpa using this
def ahd (up:Bool) (a b:Int):Bool:=cond up (decide (a<b)) (decide (a>b))
theorem ya (n:Nat) (a b:Int) (up:Bool):bn n a b up=some (ahd up a b):=by
 unfold bn ahd;cases up
 ·rfl
 ·simp only [ar,dJ,af];cases decide (a<b)<;>rfl
def ur (up b:Bool) (d:aa) (c a k:Int):Bool:=decide (k<=a)&&!(b&&(!(d==([]:aa))&&ahd up k c))
def Au (up:Bool) (m:aa) (a b y c:Int):Bool:=(y==a)&&(!(m==([]:aa))&&ahd up c b)
def Aa (m:aa) (a b y c:Int):Bool:=(y==a)&&((m==([]:aa))||(c==b))
def xp (up:Bool) (m d:aa) (c b f y:Int) (e:List Int) (a:Int):Option (Int×Int×Int):=
 if Au up m c b y a then none else (e.find? (ur up (Aa m c b y a) d f (rz d y a))).map λk=>(y,a,k)
def wq (up:Bool) (m d:aa) (c b f:Int) (e a:List Int) (y:Int):Option (Int×Int×Int):=e.findSome? (xp up m d c b f y a)
def Db (d:aa) (a:List Int):Prop:=a.length<=31/\(d≠[]->∀b∈a,1<=b/\b<=12)
theorem Az (n:Nat) (g l:Bool) (dg:aa) (x q:Int) (m d:aa) (k0 k1 k2:Int) {y:Int} (e:bL y) {a:Int} (c:d≠[]->1<=a/\a<=12) (h f:List Int):
  bR n g l dg x q m d k0 k1 k2 y a h f=some (rz d y a):=by
 unfold bR rz;by_cases b:d=[]
 ·subst b;rfl
 ·rw [gP b,ab b];have:=c b;obtain ⟨k,rfl⟩:∃k:Nat,a=(k:Int):=⟨a.toNat,by omega⟩;rw [af,xw n e (by omega) (by omega)];rfl
theorem G6 {A B Y:Type} (L:List A) (p:A->Bool) (F:A->B) (J:B->Y) (e:Y):(L.findSome? λa=>if p a then some (J (F a)) else none).getD e=((L.find? p).map F).elim e J:=by
 induction L with
 | nil=>rfl
 | cons a L ih=>
  rw [List.find?_cons,xY];cases h:p a
  ·simpa using ih
  ·simp
theorem IQ {A B Y:Type} (L:List A) (G:A->Option B) (J:B->Y) (e:Y):(L.findSome? λa=>(G a).map J).getD e=(L.findSome? G).elim e J:=by
 induction L with
 | nil=>rfl
 | cons a L ih=>
  rw [xY,xY];cases h:G a
  ·simpa using ih
  ·simp
theorem FG (n:Nat) (s y f:Int) (a:Bool) (b j o:Int) (u c:List Int) (g l:Bool) (dg:aa) (x q:Int) (m d:aa) (k0 k1 k2 t r e:Int) (up:Bool) (w p rd:Int) (i:Nat) (k:Int) (hi:c[i]?=some k) (z:i<1000):
  aW n (s,y,f,a,b,j,o,((c.length:Nat):Int),(i:Int),u,c,g,l,dg,x,q,m,d,k0,k1,k2,t,r,e,up,w,p,rd)=some ((if ur up a d e b k then some (.inl (true,y,f,k)) else none).elim (.inl (s,y,f,a,b,j,o,((c.length:Nat):Int),((i+1:Nat):Int),u,c,g,l,dg,x,q,m,d,k0,k1,k2,t,r,e,up,w,p,rd)) Sum.inr):=by
 have h:i<c.length:=(zq.1 hi).1;have v:IntKind.wrap .i64 ((i:Int)+1)=((i+1:Nat):Int):=by rw [wrap_i64 _ (by omega) (by omega)];omega
 unfold aW dW ur;simp only [d4,d8,d16,gj h,hi,ob,v,ya];rw [az (show (i:Int)<((c.length:Nat):Int) by omega)];simp only [ar];cases decide (k<=b)<;>cases a<;>cases (d==([]:aa))<;>cases ahd up k e<;>simp only [dJ,iJ,ar,af,v]<;>rfl
theorem Ie (n:Nat) (s y r:Int) (b:Bool) (c e f:Int) (k a:List Int) (g l:Bool) (dg:aa) (x q:Int) (m d:aa) (k0 k1 k2 j i p:Int) (up:Bool) (o h rd:Int):
  aW n (s,y,r,b,c,e,f,((a.length:Nat):Int),((a.length:Nat):Int),k,a,g,l,dg,x,q,m,d,k0,k1,k2,j,i,p,up,o,h,rd)=some (.inr (.inr (s,y,e,f,k,a,g,l,dg,x,q,m,d,k0,k1,k2,j,i,p,up,o,h,rd))):=by
 unfold aW;simp only [d4,d8,d16];rw [ay (show ¬((a.length:Nat):Int)<((a.length:Nat):Int) by omega)];rfl
theorem Hm (n:Nat) (B:1000<n) (s y j:Int) (a:Bool) (b o p:Int) (v c:List Int) (g l:Bool) (dg:aa) (x q:Int) (m d:aa) (k0 k1 k2 u t h:Int) (up:Bool) (w r rd:Int) (C:c.length<=31):
  aw (aW n) n (s,y,j,a,b,o,p,((c.length:Nat):Int),0,v,c,g,l,dg,x,q,m,d,k0,k1,k2,u,t,h,up,w,r,rd)=some (((c.find? (ur up a d h b)).map (λk=>(y,j,k))).elim (.inr (s,y,o,p,v,c,g,l,dg,x,q,m,d,k0,k1,k2,u,t,h,up,w,r,rd)) (λz=>.inl (true,z))):=by
 have:=uL (step:=aW n) (f:=λi=>(s,y,j,a,b,o,p,((c.length:Nat):Int),(i:Int),v,c,g,l,dg,x,q,m,d,k0,k1,k2,u,t,h,up,w,r,rd)) (L:=c) (G:=λk=>if ur up a d h b k then some (.inl (true,y,j,k)) else none) (e:=.inr (s,y,o,p,v,c,g,l,dg,x,q,m,d,k0,k1,k2,u,t,h,up,w,r,rd))
  (λi k hi=>by
   have A:i<c.length:=(zq.1 hi).1;exact FG n s y j a b o p v c g l dg x q m d k0 k1 k2 u t h up w r rd i k hi (by omega))
  (Ie n s y j a b o p v c g l dg x q m d k0 k1 k2 u t h up w r rd) (N:=n) (by omega)
 exact this.trans (eN some (G6 c (ur up a d h b) (λk=>(y,j,k)) (λz=>Sum.inl (true,z)) _))
theorem Eh (n:Nat) (D:1000<n) (s y:Int) (C:bL y) (o p:List Int) (g l:Bool) (dg:aa) (x q:Int) (m d:aa) (k0 k1 k2 e j r:Int) (up:Bool) (u t rd:Int) (A:Db d o) (F:p.length<=31) (i:Nat) (f:Int) (hi:o[i]?=some f):
  bh n (s,y,((o.length:Nat):Int),(i:Int),o,p,g,l,dg,x,q,m,d,k0,k1,k2,e,j,r,up,u,t,rd)=some (((xp up m d e j r y p f).map (λz=>(.inl (true,z):(Bool×Int×Int×Int)⊕_))).elim (.inl (s,y,((o.length:Nat):Int),((i+1:Nat):Int),o,p,g,l,dg,x,q,m,d,k0,k1,k2,e,j,r,up,u,t,rd)) Sum.inr):=by
 have w:i<o.length:=(zq.1 hi).1;have E:=A.1;have B:IntKind.wrap .i64 ((i:Int)+1)=((i+1:Nat):Int):=by rw [wrap_i64 _ (by omega) (by omega)];omega
 have v:d≠[]->1<=f/\f<=12:=λh=>A.2 h f (gD hi);have j20:∀a b:Int,cH n s y f (y==e) a b o p g l dg x q m d k0 k1 k2 e j r up u t rd=some (s,y,f,(y==e),a,b,Au up m e j y f,o,p,g,l,dg,x,q,m,d,k0,k1,k2,e,j,r,up,u,t,rd):=by
  intro a b;unfold cH Au;simp only [ya,ob];cases (y==e)<;>cases (m==([]:aa))<;>rfl
 have j23:∀a b c:Int,cM n s y f (y==e) a b c o p g l dg x q m d k0 k1 k2 e j r up u t rd=some (s,y,f,Aa m e j y f,a,b,c,o,p,g,l,dg,x,q,m,d,k0,k1,k2,e,j,r,up,u,t,rd):=by
  intro a b c;unfold cM Aa;cases (y==e)<;>cases (m==([]:aa))<;>rfl
 unfold bh dN xp;simp only [d4,d8,d16,gj w,hi,ob,j20];rw [az (show (i:Int)<((o.length:Nat):Int) by omega)];simp only [ar];cases G:Au up m e j y f with
 | true=>simp only [ar,aY,ew,B];rfl
 | false=>
  simp only [af,bT,aE,Az n g l dg x q m d k0 k1 k2 C v,j23,Hm n D s y f (Aa m e j y f) (rz d y f) _ _ o p g l dg x q m d k0 k1 k2 e j r up u t rd F];cases p.find? (ur up (Aa m e j y f) d r (rz d y f)) with
  | some k=>rfl
  | none=>simp only [ew,Option.elim_none,B]
theorem Ij (n:Nat) (u:1000<n) (s y:Int) (t:bL y) (a b:List Int) (g l:Bool) (dg:aa) (x q:Int) (m d:aa) (k0 k1 k2 h c j:Int) (up:Bool) (o k rd:Int) (r:Db d a) (w:b.length<=31):
  aw (bh n) n (s,y,((a.length:Nat):Int),0,a,b,g,l,dg,x,q,m,d,k0,k1,k2,h,c,j,up,o,k,rd)=some ((wq up m d h c j a b y).elim (.inr (s,y,a,b,g,l,dg,x,q,m,d,k0,k1,k2,h,c,j,up,o,k,rd)) (λz=>.inl (true,z))):=by
 have v:=r.1;have:=uL (step:=bh n) (f:=λi=>(s,y,((a.length:Nat):Int),(i:Int),a,b,g,l,dg,x,q,m,d,k0,k1,k2,h,c,j,up,o,k,rd)) (L:=a) (G:=λp=>(xp up m d h c j y b p).map (λz=>(.inl (true,z):(Bool×Int×Int×Int)⊕_))) (e:=.inr (s,y,a,b,g,l,dg,x,q,m,d,k0,k1,k2,h,c,j,up,o,k,rd))
  (λi p hi=>Eh n u s y t a b g l dg x q m d k0 k1 k2 h c j up o k rd r w i p hi)
  (by
   unfold bh;simp only [d4,d8,d16];rw [ay (show ¬((a.length:Nat):Int)<((a.length:Nat):Int) by omega)];rfl)
  (N:=n) (by omega)
 exact this.trans (eN some (IQ a (xp up m d h c j y b) (λz=>Sum.inl (true,z)) _))
theorem Fp (n:Nat) (o:1000<n) (s y:Int) (k:bL y) (b a:List Int) (g l:Bool) (dg:aa) (x q:Int) (m d:aa) (k0 k1 k2 e c f:Int) (up:Bool) (i h rd:Int) (j:Db d b) (p:a.length<=31):
  br n (s,y,true,b,a,g,l,dg,x,q,m,d,k0,k1,k2,e,c,f,up,i,h,rd)=(wq up m d e c f b a y).elim (ob (aM n g l dg x q m d k0 k1 k2 (IntKind.wrap .i64 (y+s)) up b a) λr=>some (.inl (s,r.1,r.2,b,a,g,l,dg,x,q,m,d,k0,k1,k2,e,c,f,up,i,h,rd))) (λz=>some (.inr (.inl (true,z)))):=by
 unfold br;simp only [d4,d8,d16,ar,ob,Ij n o s y k b a g l dg x q m d k0 k1 k2 e c f up i h rd j p];cases wq up m d e c f b a y<;>rfl
def yG (up:Bool) (Y:Int->Prop) (F:Int->Option (Int×Int×Int)) (v:Int):Option (Int×Int×Int)->Prop
 | some z=>∃e,Y e/\Mk.cA up v e/\F e=some z/\∀a,Y a->Mk.cA up v a->¬Mk.cA up e a->F a=none
 | none=>∀e,Y e->Mk.cA up v e->F e=none
theorem An {X:Type} {step:X->Option (X⊕((Bool×Int×Int×Int)⊕(Int×Int×Int)))} {st:Int->Bool->X} {F:Int->Option (Int×Int×Int)} {Y:Int->Prop} {up:Bool} {s lo hi:Int} {E:Int×Int×Int} {fy:Int->Option (Int×Bool)}
  (c:s=if up then 1 else -1) (H:∀e,Y e->lo<=e/\e<=hi) (T:-10000000000000000<=lo) (g:hi<=10000000000000000)
  (b:∀y,Y y->step (st y true)=(F y).elim (ob (fy (IntKind.wrap .i64 (y+s))) λr=>some (.inl (st r.1 r.2))) (λz=>some (.inr (.inl (true,z)))))
  (d:∀y,step (st y false)=some (.inr (.inr E)))
  (x:∀v,-9223372036854775808<=v/\v<9223372036854775808->∃w f,fy v=some (w,f)/\xu up Y v w f):
  ∀(r:Nat) (v y:Int) (f:Bool),xu up Y v y f->(f=true->(if up then hi - y else y - lo)<(r:Int))->∀N,r<N->
   ∃o,aw step N (st y f)=some (o.elim (.inr E) (λz=>.inl (true,z)))/\yG up Y F v o:=by
 intro r
 induction r with
 | zero=>
  intro v y f l t N O;obtain ⟨N,rfl⟩:∃q,N=q+1:=⟨N - 1,by omega⟩;cases f with
  | true=>
   obtain ⟨j,_,_⟩:=l.1 rfl;have:=H y j;have:=t rfl;cases up<;>simp at this<;>omega
  | false=>
   refine ⟨none,by rw [aw,d];rfl,λe i m=>absurd m (l.2 rfl e i)⟩
 | succ r ih=>
  intro v y f l t N O;obtain ⟨N,rfl⟩:∃q,N=q+1:=⟨N - 1,by omega⟩;cases f with
  | false=>
   refine ⟨none,by rw [aw,d];rfl,λe i m=>absurd m (l.2 rfl e i)⟩
  | true=>
   obtain ⟨j,u,I⟩:=l.1 rfl;have R:=H y j;cases p:F y with
   | some z=>
    refine ⟨some z,?_,y,j,u,p,λa g n k=>absurd (I a g n) k⟩;rw [aw,b y j,p];rfl
   | none=>
    have J:IntKind.wrap .i64 (y+s)=y+s:=by
     have:-1<=s/\s<=1:=by rw [c];cases up<;>simp
     exact wrap_i64 _ (by omega) (by omega)
    obtain ⟨w,B,Q,A⟩:=x (y+s) (by
     have:-1<=s/\s<=1:=by rw [c];cases up<;>simp
     omega)
    have hstep':step (st y true)=some (.inl (st w B)):=by
     rw [b y j,p,J];show ob (fy (y+s)) _=_;rw [Q];rfl
    obtain ⟨o,P,D⟩:=ih (y+s) w B A (λL=>by
     obtain ⟨S,G,_⟩:=A.1 L;have:=t rfl;cases up
     ·rw [dR] at G;simp only [bT,aE] at c this ⊢;omega
     ·rw [cw] at G;simp only [aY] at c this ⊢;omega) N (by omega)
    refine ⟨o,by rw [aw,hstep'];exact P,?_⟩;have split:∀a,Y a->Mk.cA up v a->a=y\/Mk.cA up (y+s) a:=λa g n=>by
     have k:=I a g n;cases up
     ·rw [dR] at k ⊢;simp only [bT,aE] at c;omega
     ·rw [cw] at k ⊢;simp only [aY] at c;omega
    cases o with
    | none=>
     intro e i m;rcases split e i m with rfl | h
     ·exact p
     ·exact D e i h
    | some z=>
     obtain ⟨e,K,C,M,c4⟩:=D;refine ⟨e,K,?_,M,λa g n k=>?_⟩
     ·cases up
      ·rw [dR] at C u ⊢;simp only [bT,aE] at c;omega
      ·rw [cw] at C u ⊢;simp only [aY] at c;omega
     ·rcases split a g n with rfl | h
      ·exact p
      ·exact c4 a g h k
theorem zX {g l:Bool} {dg:aa} {x:Int} (c:okY g l dg x 0):∃lo hi:Int,(∀e,inP g dg x 0 e->lo<=e/\e<=hi)/\hi - lo<=10000/\-10000000000000000<=lo/\hi<=10000000000000000:=by
 cases f:hasX dg with
 | false=>
  have a:=wV c f;by_cases d:-10000000000000000<=(if g then -((val dg x.toNat:Nat):Int) else ((val dg x.toNat:Nat):Int))/\(if g then -((val dg x.toNat:Nat):Int) else ((val dg x.toNat:Nat):Int))<=10000000000000000
  ·refine ⟨_,_,λe b=>?_,?_,d.1,d.2⟩
   ·rw [(a e).1 b];exact ⟨lT _,lT _⟩
   ·omega
  ·refine ⟨0,0,λe b=>?_,by omega,by omega,by omega⟩;exfalso;have:=(a e).1 b;unfold inP at b;exact d ⟨by rw [<-this];exact b.1,by rw [<-this];exact b.2.1⟩
 | true=>
  have a:=yz c f;obtain ⟨_,_,_,i,k⟩:=qK c f;refine ⟨if g then -9999 else 0,if g then 0 else 9999,λe b=>?_,by cases g<;>simp,by cases g<;>simp,by cases g<;>simp⟩;have h:=((a e).1 b).1;have:=(Mk.jW h).2.2.2.2;rw [i] at this;have j:(10:Int) ^ 4=10000:=by decide
  unfold wOf at this;cases g
  ·simp at this ⊢;omega
  ·simp at this ⊢;omega
theorem uE {g:Bool} {dg:aa} {x q e:Int} (h:inP g dg x q e):bL e:=⟨h.1,h.2.1⟩
theorem zZ {g l:Bool} {dg:aa} {x:Int} (e:okY g l dg x 0) (m d:aa) (k0 k1 k2:Int) (a i h:Int) (j:-9223372036854775808<=a/\a<9223372036854775808) (c b:List Int) (u:Db d c) (t:b.length<=31):
  ∃o,eB 20000000 g l dg x 0 m d k0 k1 k2 a i h true c b=some (o.elim (0,0,0,false) λz=>(z.1,z.2.1,z.2.2,true))/\yG true (inP g dg x 0) (wq true m d a i h c b) a o:=by
 obtain ⟨lo,hi,p,H,k,n⟩:=zX e;obtain ⟨w,f,G,q⟩:=BA e m d k0 k1 k2 a j true c b;obtain ⟨o,C,D⟩:=An (step:=br 20000000) (st:=λy f=>(1,y,f,c,b,g,l,dg,x,0,m,d,k0,k1,k2,a,i,h,true,0,0,0)) (F:=wq true m d a i h c b) (Y:=inP g dg x 0) (up:=true) (s:=1) (lo:=lo) (hi:=hi) (E:=(0,0,0)) (fy:=λv=>aM 20000000 g l dg x 0 m d k0 k1 k2 v true c b)
  rfl p k n
  (λy r=>Fp 20000000 (by omega) 1 y (uE r) c b g l dg x 0 m d k0 k1 k2 a i h true 0 0 0 u t)
  (λy=>rfl)
  (λv B=>BA e m d k0 k1 k2 v B true c b)
  10002 a w f q (λA=>by have:=p w (q.1 A).1;simp;omega) 20000000 (by omega)
 refine ⟨o,?_,D⟩;unfold eB eS;simp only [dJ,af,ob,d4,d8,d16,G];have i1':aw (br 20000000) 20000000 (1,w,f,c,b,g,l,dg,x,0,m,d,k0,k1,k2,a,i,h,true,0,0,0)=_:=C;rw [i1'];cases o<;>rfl
theorem zm (m d:aa) (l o:Int) {g e:Int} (h:e≠g) (n f:List Int):wq true m d g l o n f e=none↔(n.flatMap λa=>(f.filter λk=>decide (k<=rz d e a)).map λk=>(e,a,k))=[]:=by
 have i:(e==g)=false:=bW.2 h;unfold wq;rw [List.findSome?_eq_none_iff,List.flatMap_eq_nil_iff];have:∀a,xp true m d g l o e f a=none↔((f.filter λk=>decide (k<=rz d e a)).map λk=>(e,a,k))=[]:=by
  intro a;unfold xp Au Aa;rw [i];simp only [DW,bT,aE,Option.map_eq_none_iff,List.find?_eq_none,List.map_eq_nil_iff,List.filter_eq_nil_iff];constructor
  ·intro c k j;have:=c k j;unfold ur at this;simpa using this
  ·intro c k j;have:=c k j;unfold ur;simpa using this
 exact ⟨λc a b=>(this a).1 (c a b),λc a b=>(this a).2 (c a b)⟩
def hasF (g:Bool) (dg:aa) (x:Int) (m d:aa):Prop:=∃e,inP g dg x 0 e/\B9 m d e≠[]
open Classical in
noncomputable def chkF (g l:Bool) (dg:aa) (x q:Int) (m d:aa) (k0 k1 k2:Int):Int:=
 if chkD g l dg x q m d k0 k1 k2=0/\d≠[]/\¬hasF g dg x m d then 8 else chkD g l dg x q m d k0 k1 k2
theorem rZ {g l:Bool} {dg:aa} {x q:Int} {m d:aa} {k0 k1 k2:Int} (h:chkD g l dg x q m d k0 k1 k2=0):okY g l dg x q/\(m=[]\/m.length=2)/\(d=[]\/d.length=2)/\(0<q->m=[])/\(d≠[]->m≠[]/\sea m=0):=by
 obtain ⟨b,i,e,c4⟩:=BI h;unfold yrD at b;by_cases a:okY g l dg x q
 ·rw [ad a] at b;refine ⟨a,?_,?_,λk=>?_,λn=>?_⟩
  ·rcases i with h | h | h
   ·exact .inl h
   ·exact .inr (BU h).1
   ·exact .inr (l4 (by omega) h).1
  ·rcases e with h | ⟨_,_,h⟩
   ·exact .inl h
   ·exact .inr (l4 (by omega) h).1
  ·unfold yrB at b;simp only [av,kj] at b;have:=b.1;rw [az k,qL] at this;by_cases c:m=[]
   ·exact c
   ·rw [gP c] at this;cases this
  ·rcases e with h | ⟨f,j,_⟩
   ·exact absurd h n
   ·exact ⟨f,j⟩
 ·rw [ab a] at b;cases b
theorem HH {g l:Bool} {dg:aa} {x q:Int} (h:okY g l dg x q):0<=q:=(tK h).2.2.1
theorem BG {m d:aa} (h:d≠[]->m≠[]/\sea m=0):Db d (monI m):=by
 refine ⟨mT (Fo m) (by omega),λe f a=>?_⟩;obtain ⟨b,g⟩:=h e;unfold monI at a;rw [ab b,ab (by omega)] at a;obtain ⟨k,c,rfl⟩:=eC.1 a;have:=vI.1 (lM.1 c).1;omega
theorem EF {g l:Bool} {dg:aa} {x q:Int} {m d:aa} {k0 k1 k2:Int} (s:m.length<=18) (k:dg.length<=100) (F:0<=k0) (E:0<=k1) (B:0<=k2):
  ba 20000000 g l dg x q m d k0 k1 k2=some (chkF g l dg x q m d k0 k1 k2):=by
 unfold ba chkF;rw [FV 20000000 (by omega) g l dg x q m d k0 k1 k2 s k F E B];simp only [ob];by_cases hc:chkD g l dg x q m d k0 k1 k2=0
 ·obtain ⟨c,r,n,A,f⟩:=rZ hc;rw [hc];simp only [fh,af];by_cases i:d=[]
  ·subst i;rw [ab (by simp)];rfl
  ·rw [gP i,af];have t:q=0:=by
    have:=HH c;by_cases h:0<q
    ·exact absurd (A h) (f i).1
    ·omega
   subst t;have e:=JW 20000000 (by omega) g l dg x 0 m d k0 k1 k2 r n;have p:=BG f;obtain ⟨o,o1,u⟩:=zZ c m d k0 k1 k2 (-9223372036854775808) 0 0 (by omega) (monI m) (dayI d) p (Ei d);have b:∀e,inP g dg x 0 e->e≠-9223372036854775808:=λe y=>by have:=uE y;unfold bL at this;omega
   have key:(∃z,o=some z)↔hasF g dg x m d:=by
    constructor
    ·rintro ⟨z,rfl⟩;obtain ⟨e,a,_,v,_⟩:=u;refine ⟨e,a,λw=>?_⟩;have:=(zm m d 0 0 (b e a) (monI m) (dayI d)).2 w;rw [this] at v;cases v
    ·rintro ⟨e,a,C⟩;cases o with
     | some z=>exact ⟨z,rfl⟩
     | none=>
      have:=u e a (by rw [cw];have:=uE a;unfold bL at this;omega);exact absurd ((zm m d 0 0 (b e a) (monI m) (dayI d)).1 this) C
   rw [e];by_cases j:hasF g dg x m d
   ·obtain ⟨z,rfl⟩:=key.2 j;rw [ab (λh=>h.2.2 j)]
    all_goals
     simp only [d4,d8,o1];rfl
   ·have D:o=none:=by
     cases o with
     | none=>rfl
     | some z=>exact absurd (key.1 ⟨z,rfl⟩) j
    subst D;rw [ad ⟨rfl,i,j⟩]
    all_goals
     simp only [d4,d8,o1];rfl
 ·rw [ab (λh=>hc h.1)];have:(chkD g l dg x q m d k0 k1 k2 != 0)=true:=by simp [hc]
  rw [this];rfl
theorem wa {g l:Bool} {dg:aa} {x q:Int} {m d:aa} {k0 k1 k2:Int} (h:chkF g l dg x q m d k0 k1 k2=0):chkD g l dg x q m d k0 k1 k2=0:=by
 unfold chkF at h;split at h
 ·cases h
 ·exact h
theorem bne0 {e:Int} (h:e≠0):(e != 0)=true:=by simp [h]
theorem yy {m d:aa} {y:Int} {z:Int×Int×Int}:z∈B9 m d y↔z.1=y/\z.2.1∈monI m/\z.2.2∈dayI d/\z.2.2<=rz d y z.2.1:=by
 unfold B9 Gy;simp only [List.mem_flatMap,eC,lM,bY];constructor
 ·rintro ⟨f,b,k,⟨c,a⟩,rfl⟩;exact ⟨rfl,b,c,a⟩
 ·rintro ⟨e,b,c,a⟩;exact ⟨z.2.1,b,z.2.2,⟨c,a⟩,by rw [<-e]⟩
theorem Hv (y:Int) (i:Nat):(minL i:Int)<=lenI y (i:Int):=by
 unfold minL lenI
 repeat' split
 all_goals omega
theorem D4 {g l:Bool} {dg:aa} {x:Int} (b:okY g l dg x 0) {m d:aa} (j:m≠[]) (r:sea m=0) (h:d≠[]) (c:fitD m d=true):hasF g dg x m d:=by
 obtain ⟨n,_,_⟩:=Ce b;refine ⟨_,n,?_⟩;unfold fitD at c;simp only [mC,av] at c;obtain ⟨i,hi,p,k,o,a⟩:=c;have hi':=vI.1 hi;have hk':=vI.1 o;have q:minL i<=31:=by
  unfold minL
  repeat' split
  all_goals omega
 have f:((sgn g (kU g dg x 0)).1,(i:Int),(k:Int))∈B9 m d (sgn g (kU g dg x 0)).1:=by
  rw [yy];refine ⟨rfl,?_,?_,?_⟩
  ·unfold monI;rw [ab j,ab (by omega)];exact eC.2 ⟨i,lM.2 ⟨hi,p⟩,rfl⟩
  ·unfold dayI;rw [ab h];exact eC.2 ⟨k,lM.2 ⟨vI.2 (by omega),a⟩,rfl⟩
  ·unfold rz;rw [ab h];have:=Hv (sgn g (kU g dg x 0)).1 i;show (k:Int)<=lenI (sgn g (kU g dg x 0)).1 (i:Int);omega
 intro e;rw [e] at f;cases f
theorem E9 {g l:Bool} {dg:aa} {x q:Int} {m d:aa} {k0 k1 k2:Int} (hc:chkD g l dg x q m d k0 k1 k2=0) (n:d=[]\/fitD m d=true):chkF g l dg x q m d k0 k1 k2=0:=by
 obtain ⟨a,i,j,p,c⟩:=rZ hc;unfold chkF;rw [ab,hc];rintro ⟨_,e,k⟩;obtain ⟨f,o⟩:=c e;have b:q=0:=by
  have:=HH a;by_cases h:0<q
  ·exact absurd (p h) f
  ·omega
 subst b;exact k (D4 a f o e (n.resolve_left e))
def dayY (y:Int):Int:=365*y+(1+(y - 1) / 4 - (y - 1) / 100+(y - 1) / 400)
def cumM (y:Int):Nat->Int
 | 0=>0
 | k+1=>cumM y k+lenI y ((k+1:Nat):Int)
def dayM (y:Int) (m:Nat):Int:=if m<=12 then dayY y+cumM y (m - 1) else dayY (y+1)+cumM (y+1) (m - 13)
theorem ly (y:Int):dayY (y+1)=dayY y+365+(if qe y then 1 else 0):=by
 unfold dayY qe;simp only [av,eT,bY];split<;>omega
theorem eU {y:Int} (h:-20000000000000000<=y/\y<=20000000000000000):-8000000000000000000<=dayY y/\dayY y<=8000000000000000000:=by
 unfold dayY;omega
theorem JK (y:Int):cumM y 12=365+(if qe y then 1 else 0):=by
 have e:∀k:Nat,cumM y (k+1)=cumM y k+lenI y ((k+1:Nat):Int):=λ_=>rfl;have z:cumM y 0=0:=rfl;rw [e 11,e 10,e 9,e 8,e 7,e 6,e 5,e 4,e 3,e 2,e 1,e 0,z];unfold lenI;cases qe y<;>rfl
theorem lq (y:Int):∀k:Nat,0<=cumM y k/\cumM y k<=31*(k:Int)
 | 0=>by simp [cumM]
 | k+1=>by
  have b:=lq y k;have a:=gJ y ((k+1:Nat):Int);show 0<=cumM y k+lenI y ((k+1:Nat):Int)/\cumM y k+lenI y ((k+1:Nat):Int)<=_;omega
theorem l7 {y:Int} (h:bL y) {m:Nat} (a:m<=24):-8100000000000000000<=dayM y m/\dayM y m<=8100000000000000000:=by
 unfold bL at h;unfold dayM;split
 ·have:=lq y (m - 1);have:=eU (y:=y) (by omega);omega
 ·have:=lq (y+1) (m - 13);have:=eU (y:=y+1) (by omega);omega
theorem I3 (y:Int):dayM y 1=dayY y:=by
 unfold dayM;rw [ad (by omega)];simp [cumM]
theorem wF (y:Int):dayM y 13=dayY (y+1):=by
 unfold dayM;rw [ab (by omega)];simp [cumM]
theorem qu (y:Int) {m:Nat} (b:1<=m) (a:m<=12):dayM y (m+1)=dayM y m+lenI y (m:Int):=by
 obtain ⟨k,rfl⟩:∃k,m=k+1:=⟨m - 1,by omega⟩;have e:dayM y (k+1)=dayY y+cumM y k:=by unfold dayM;rw [ad (by omega)];rfl
 rw [e];by_cases h:k+1=12
 ·obtain rfl:k=11:=by omega
  rw [wF,ly];have:=JK y;have e:cumM y 12=cumM y 11+lenI y ((11+1:Nat):Int):=rfl;omega
 ·have:dayM y (k+1+1)=dayY y+cumM y (k+1):=by unfold dayM;rw [ad (by omega)];rfl
  rw [this];show dayY y+(cumM y k+lenI y ((k+1:Nat):Int))=_;omega
theorem Bl (y:Int) {m:Nat} (b:1<=m) (a:m<=12):dayM y (m+12)=dayM (y+1) m:=by
 unfold dayM;rw [ab (by omega),ad a];congr 2
theorem hZ (n:Nat) {y:Int} (h:-10000000000000001<=y/\y<=10000000000000001):dS n y=some (dayY y):=by
 have a:=eU (y:=y) (by omega);unfold dS;rw [qk n (by omega),wrap_i64 (365*y) (by omega) (by omega)];show some (IntKind.wrap .i64 (dayY y))=_;rw [wrap_i64 _ (by omega) (by omega)]
theorem mM (n:Nat) {y:Int} (h:bL y):gN n y=some (dayY y,0):=by
 unfold gN;have h':=h;unfold bL at h';rw [cO,ad h,hZ n (by omega)];rfl
theorem vk (n:Nat) {y:Int} (h:bL y):oc n y=some (dayY (y+1) - 1,0):=by
 unfold oc;have h':=h;unfold bL at h';have a:=eU (y:=y+1) (by omega);rw [cO,ad h,wrap_i64 (y+1) (by omega) (by omega),hZ n (by omega)];show some (IntKind.wrap .i64 (dayY (y+1) - 1),(0:Int))=_;rw [wrap_i64 _ (by omega) (by omega)]
theorem wI (n:Nat) {y:Int} (h:bL y) {m:Nat} (d:m<=11):∀(r j:Nat),j+r=m->∀N,r<N->aw (aV n) N (y,dayY y+cumM y j,(m:Int),(j:Int))=some (dayY y+cumM y m):=by
 have h':=h;unfold bL at h';have c:=eU (y:=y) (by omega);intro r
 induction r with
 | zero=>
  intro j b N a;obtain ⟨N,rfl⟩:∃k,N=k+1:=⟨N - 1,by omega⟩;obtain rfl:j=m:=by omega
  have:aV n (y,dayY y+cumM y j,(j:Int),(j:Int))=some (.inr (dayY y+cumM y j)):=by
   unfold aV;rw [bA,ab (show ¬((j:Int)<(j:Int)) by omega)]
  rw [aw,this]
 | succ r ih=>
  intro j b N a;obtain ⟨N,rfl⟩:∃k,N=k+1:=⟨N - 1,by omega⟩;have w:IntKind.wrap .i64 ((j:Int)+1)=((j+1:Nat):Int):=by rw [wrap_i64 _ (by omega) (by omega)];omega
  have hc:=lq y j;have e:=gJ y ((j+1:Nat):Int);have:aV n (y,dayY y+cumM y j,(m:Int),(j:Int))=some (.inl (y,dayY y+cumM y (j+1),(m:Int),((j+1:Nat):Int))):=by
   unfold aV;rw [bA,ad (show ((j:Int)<(m:Int)) by omega)];simp only [w,qV n h (show 1<=j+1 by omega) (show j+1<=12 by omega),ob];rw [wrap_i64 (dayY y+cumM y j+lenI y ((j+1:Nat):Int)) (by omega) (by omega),Int.add_assoc];rfl
  rw [aw,this];exact ih (j+1) (by omega) N (by omega)
theorem og (n:Nat) (c:100<n) {y:Int} (h:bL y) {m:Nat} (b:1<=m) (a:m<=12):cP n y (m:Int)=some (dayM y m,0):=by
 unfold cP;have w:IntKind.wrap .i64 ((m:Int) - 1)=((m - 1:Nat):Int):=by rw [wrap_i64 _ (by omega) (by omega)];omega
 rw [ze n h b a,mM n h,w];have:=wI n h (m:=m - 1) (by omega) (m - 1) 0 (by omega) n (by omega);rw [show dayY y+cumM y 0=dayY y by simp [cumM]] at this;show ob (aw (aV n) n (y,dayY y,((m - 1:Nat):Int),((0:Nat):Int))) _=_;rw [this];unfold dayM;rw [ad a];rfl
theorem wK (n:Nat) (c:100<n) {y:Int} (h:bL y) {m:Nat} (a:1<=m) (b:m<=12):dE n y (m:Int)=some (dayM y (m+1) - 1,0):=by
 unfold dE;have d:=l7 h (m:=m) (by omega);have e:=gJ y (m:Int);rw [og n c h a b,qV n h a b,qu y a b];show some (IntKind.wrap .i64 (IntKind.wrap .i64 (dayM y m+lenI y (m:Int)) - 1),(0:Int))=_;rw [wrap_i64 (dayM y m+lenI y (m:Int)) (by omega) (by omega),wrap_i64 _ (by omega) (by omega)]
theorem zF (n:Nat) (b:100<n) {y:Int} (h:bL y) {j m c:Nat} (p:j<21) (e:jL[j]?=some ((m:Int),(c:Int))) (g:1<=m) (i:m<=12) (k:1<=c) (l:c<=6) (f:12<m+c - 1->y≠10000000000000000):
  dO n y ((21+j:Nat):Int)=some (0,dayM y m,0,dayM y (m+c) - 1,0):=by
 have o:cQ n ((21+j:Nat):Int)=some ((m:Int),(c:Int),0):=by
  unfold cQ bN;rw [bA,bA,ab (by omega),ab (by omega)];have:IntKind.wrap .i64 (((21+j:Nat):Int) - 21)=(j:Int):=by rw [wrap_i64 _ (by omega) (by omega)];omega
  rw [this,gj p];show ob (jL[j]?) _=_;rw [e];rfl
 unfold dO;rw [o];simp only [ob,fh,af];rw [og n b h g i];simp only [ob,fh,af];rw [madd n h g i k l];have h':=h;unfold bL at h';by_cases a:12<m+c - 1
 ·rw [ad a,ab (f a)];have d:bL (y+1):=by unfold bL;have:=f a;omega
  simp only [ob,fh,af];rw [wK n b d (m:=m+c - 1 - 12) (by omega) (by omega)];have:=Bl y (m:=m+c - 1 - 12+1) (by omega) (by omega);rw [show m+c - 1 - 12+1+12=m+c by omega] at this;rw [this]
 ·rw [ab a];simp only [ob,fh,af];rw [wK n b h (m:=m+c - 1) (by omega) (by omega),show m+c - 1+1=m+c by omega]
end Go.Sh
