
/- Plain proofs, kept as far as they are needed here (printed by prune.py).
   Conditions: none. -/
import Derived.Laws.RangeString
import Derived.Laws.RangeAny
import Derived.Test.YtfiponokimbeeaaGreatDoorShR
import Derived.Lib.IndexLaws
import Derived.Test.YtfiponokimbeeaaGreatDoorAbsZ
set_option linter.unusedVariables false
set_option linter.unusedSimpArgs false
set_option maxRecDepth 100000
namespace Go.Sh
open Go.Abs
theorem gO {X Y:Type} {step:X->Option (X⊕Y)} (I:X->Prop) (b:X->Nat) (G:X->Y)
  (h:∀x,I x->(∃a,step x=some (.inl a)/\I a/\b a<b x/\G a=G x)\/step x=some (.inr (G x))):
  ∀(n:Nat) (x:X),I x->b x<n->aq step n x=some (G x)
 | 0,x,_,d=>by omega
 | n+1,x,hx,d=>by
  rcases h x hx with ⟨a,c,f,g,e⟩ | c
  ·simp only [aq,c];rw [gO I b G h n a f (by omega),e]
  ·simp only [aq,c]
theorem ri {X Y:Type} {step:X->Option (X⊕Y)} (I:X->Prop) (b:X->Nat) (Q:Y->Prop)
  (h:∀x,I x->(∃a,step x=some (.inl a)/\I a/\b a<b x)\/∃y,step x=some (.inr y)/\Q y):
  ∀(n:Nat) (x:X),I x->b x<n->∃y,aq step n x=some y/\Q y
 | 0,x,_,e=>by omega
 | n+1,x,hx,e=>by
  rcases h x hx with ⟨a,c,d,f⟩ | ⟨y,c,d⟩
  ·simp only [aq,c];exact ri I b Q h n a d (by omega)
  ·exact ⟨y,by simp only [aq,c],d⟩
theorem zu (x:Int):0<=IntKind.wrap .u8 x/\IntKind.wrap .u8 x<256:=by
 show 0<=x%256/\x%256<256;omega
theorem mr (x:Int) (a:0<=x) (b:x<256):IntKind.wrap .u8 x=x:=by
 show x%256=x;omega
theorem HI (x:Int):IntKind.wrap .u8 x=x%256:=rfl
theorem wrap_i64 (x:Int) (a:-9223372036854775808<=x) (b:x<9223372036854775808):IntKind.wrap .i64 x=x:=by
 simp only [IntKind.wrap,IntKind.signed,IntKind.bits];simp;omega
theorem ew {l:aa} {i:Nat} {c:UInt8} (h:l[i]?=some c):sx l (i:Int)=some c:=by
 simp [sx,h]
theorem eu {n i:Nat} (h:i<n):ix n (i:Int)=some i:=by
 simp [ix];omega
theorem fQ {n i:Nat} (h:i<=n):bx n (i:Int)=some i:=by
 simp [bx];omega
theorem zB {l:aa} {i:Nat} {c:UInt8} (h:l[i]?=some c) (hc:c.toNat<128):dec l i=(c.toNat,1):=by
 have a:i<l.length:=by
  rcases aF i l.length with b | b
  ·exact b
  ·rw [fW b] at h;cases h
 have hs:i<(ByteArray.mk l.toArray).size:=a;have d:(ByteArray.mk l.toArray)[i]'hs=c:=by
  rw [bn a] at h;simp only [ak] at h;exact h
 unfold dec;rw [decode_ascii _ i hs (by rw [d];exact hc),d]
theorem Fj {l:aa} {i:Nat} {c:UInt8} (h:l[i]?=some c) (hc:128<=c.toNat):128<=(dec l i).1/\1<=(dec l i).2:=by
 have a:i<l.length:=by
  rcases aF i l.length with b | b
  ·exact b
  ·rw [fW b] at h;cases h
 have hs:i<(ByteArray.mk l.toArray).size:=a;have d:(ByteArray.mk l.toArray)[i]'hs=c:=by
  rw [bn a] at h;simp only [ak] at h;exact h
 unfold dec;exact decode_high _ i hs (by rw [d];exact hc)
theorem A8 {α:Type} {l:List α} {i:Nat} {c:α} (h:l[i]?=some c):i<l.length:=by
 rcases aF i l.length with a | a
 ·exact a
 ·rw [fW a] at h;cases h
theorem bY {α:Type} {l:List α} {i:Nat} {c:α} (h:l[i]?=some c):l.drop i=c::l.drop (i+1):=by
 have a:=A8 h;rw [bn a] at h;simp only [ak] at h;rw [<-h,pR a]
theorem mf {α c:Type} [BEq α] [LawfulBEq α] [DecidableEq α] (a b:α) (x y:c):(cond (a==b) x y)=if a=b then x else y:=by
 by_cases h:a=b
 ·subst h;simp
 ·rw [aW.2 h];simp [h]
theorem An {α c:Type} [BEq α] [LawfulBEq α] [DecidableEq α] (a b:α) (x y:c):(cond (a != b) x y)=if a=b then y else x:=by
 by_cases h:a=b
 ·subst h;simp
 ·rw [bne,aW.2 h];simp [h]
theorem bL {a:Type} (p:Prop) [Decidable p] (x y:a):(cond (decide p) x y)=if p then x else y:=by
 by_cases h:p<;>simp [h]
theorem N2 {a:Type} (b:Bool) (x y:a):(cond (!b) x y)=cond b y x:=by cases b<;>rfl
theorem ky (a b:Nat):(decide (((a:Nat):Int)<((b:Nat):Int)))=decide (a<b):=by
 by_cases h:a<b<;>simp [h]
theorem ku (a b:Nat):(decide (((a:Nat):Int)>=((b:Nat):Int)))=decide (b<=a):=by
 by_cases h:b<=a<;>simp [h]
theorem od (c d:UInt8):((((c.toNat:Nat):Int))==((d.toNat:Nat):Int))=(c==d):=by
 by_cases h:c=d
 ·subst h;simp
 ·have b:c.toNat≠d.toNat:=λe=>h (gZ.1 e);have a:((c.toNat:Nat):Int)≠((d.toNat:Nat):Int):=by omega
  rw [aW.2 a,aW.2 h]
theorem Vd (c:UInt8):UInt8.ofNat (Int.toNat ((c.toNat:Nat):Int))=c:=by simp
def two (c:Nat):aa:=[UInt8.ofNat (48+c / 10),UInt8.ofNat (48+c%10)]
def sea (m:aa):Int:=match (List.range 21).find? (λj=>m==two (21+j)) with | some j=>((21+j:Nat):Int) | none=>0
theorem mS {j:Nat} (a:j<21):sea (two (21+j))=((21+j:Nat):Int):=by
 have:((List.range 21).all λj=>sea (two (21+j))==((21+j:Nat):Int))=true:=by decide +kernel
 simpa using (List.all_eq_true.1 this) j (by simpa using a)
theorem n7 (m:aa):sea m=0\/∃j,j<21/\m=two (21+j):=by
 unfold sea;split
 ·rename_i j h;have b:=List.find?_some h;have a:=List.mem_of_find?_eq_some h;exact .inr ⟨j,by simpa using a,by simpa using b⟩
 ·exact .inl rfl
theorem pm {b:UInt8} {d:Nat} (h:Lib.digitVal b=some d):d<10/\b.toNat=48+d:=by
 unfold Lib.digitVal at h;split at h
 ·cases h;omega
 ·cases h
theorem L0 {a b:UInt8} {v:Int} (h:Lib.atoi [a,b]=some v) (o:21<=v) (q:v<42):∃j,j<21/\[a,b]=two (21+j)/\v=((21+j:Nat):Int):=by
 obtain ⟨b0,r,e,n⟩:=Lib.atoi_cases h;cases e;rcases n with ⟨_,m,_,_,i⟩ | ⟨_,m,_,c,i⟩ | ⟨_,_,m,c,i⟩
 ·omega
 ·simp only [Lib.decFrom] at c;split at c
  ·rename_i d g;have:=(pm g).1;simp only [ak] at c;omega
  ·cases c
 ·simp only [Lib.decFrom] at c;split at c
  ·rename_i d g;split at c
   ·rename_i d' f;obtain ⟨k1,k2⟩:=pm g;obtain ⟨p,k4⟩:=pm f;simp only [ak] at c;refine ⟨m - 21,by omega,?_,by omega⟩;have l:(21+(m - 21)) / 10=d:=by omega
    have k:(21+(m - 21))%10=d':=by omega
    unfold two;rw [l,k,<-k2,<-k4];simp
   ·cases c
  ·cases c
theorem wo {j:Nat} (a:j<21):Lib.atoi (two (21+j))=some ((21+j:Nat):Int):=by
 have:((List.range 21).all λj=>Lib.atoi (two (21+j))==some ((21+j:Nat):Int))=true:=by decide +kernel
 simpa using (List.all_eq_true.1 this) j (by simpa using a)
theorem ow (n:Nat) (g l:Bool) (dg:aa) (x q:Int) (m d:aa) (k0 k1 k2:Int) (k:m.length<=18):bh n g l dg x q m d k0 k1 k2=some (sea m,decide (0<sea m)):=by
 have i:Nat.ble m.length 18=true:=cr k;rcases n7 m with f | ⟨j,c,rfl⟩
 ·unfold bh;rw [i,f];show opt (Lib.atoi m) _ _=_;cases o:Lib.atoi m with
  | none=>rfl
  | some v=>
   show cond _ _ _=_;by_cases h:m.length=2
   ·rw [h];obtain ⟨a,b,rfl⟩:∃a b,m=[a,b]:=by
     match m,h with
     | [a,b],_=>exact ⟨a,b,rfl⟩
    show ob (dp n v) _=_;unfold dp;rw [bL,bL];split
    ·rfl
    ·split
     ·rfl
     ·exfalso;obtain ⟨j,c,e,_⟩:=L0 o (by omega) (by omega);rw [e,mS c] at f;omega
   ·rw [show (((m.length:Nat):Int) != 2)=true by simp;omega];rfl
 ·rw [mS c];have e:bh n g l dg x q (two (21+j)) d k0 k1 k2=some (((21+j:Nat):Int),true):=by
   unfold bh;rw [i,wo c];show ob (dp n ((21+j:Nat):Int)) _=_;unfold dp;rw [bL,bL,ab (by omega),ab (by omega)];rfl
  rw [e];have:decide (0<((21+j:Nat):Int))=true:=by simp;omega
  rw [this]
theorem OO (n:Nat) {c:Nat} (hc:c<100):fG n (c:Int)=some (two c):=by
 have d:Int.tdiv (c:Int) 10=((c / 10:Nat):Int):=by
  rw [show (10:Int)=((10:Nat):Int) from rfl,<-Int.ofNat_tdiv]
 have f:Int.tmod (c:Int) 10=((c%10:Nat):Int):=by
  rw [show (10:Int)=((10:Nat):Int) from rfl,<-Int.ofNat_tmod]
 have g:c / 10<10:=by omega
 have i:c%10<10:=by omega
 unfold fG;rw [d,f];have e:IntKind.wrap .i64 ((c / 10:Nat):Int)=((c / 10:Nat):Int):=wrap_i64 _ (by omega) (by omega);have h:IntKind.wrap .i64 (((c / 10:Nat):Int)+1)=((c / 10+1:Nat):Int):=by rw [wrap_i64 _ (by omega) (by omega)];omega
 have k:IntKind.wrap .i64 (((c%10:Nat):Int)+1)=((c%10+1:Nat):Int):=by rw [wrap_i64 _ (by omega) (by omega)];omega
 rw [e,h,k,fQ (by omega),fQ (by omega)];show ob (bx (c / 10+1) ((c / 10:Nat):Int)) _=_;rw [fQ (by omega)];show ob (bx (c%10+1) ((c%10:Nat):Int)) _=_;rw [fQ (by omega)];unfold two;generalize c / 10=a at *;generalize c%10=b at *;have:((List.range 10).all λa=>(List.range 10).all λb=>ob (cat (List.drop a (List.take (a+1) ([48,49,50,51,52,53,54,55,56,57]:aa))) (List.drop b (List.take (b+1) ([48,49,50,51,52,53,54,55,56,57]:aa)))) (λs=>some s)==some [UInt8.ofNat (48+a),UInt8.ofNat (48+b)])=true:=by decide +kernel
 have j:=(co.1 ((co.1 this) a (by simpa using g))) b (by simpa using i);simpa using j
theorem LK {m:aa} (h:∀j,j<21->m≠two (21+j)):sea m=0:=by
 rcases n7 m with b | ⟨j,a,e⟩
 ·exact b
 ·exact absurd e (h j a)
theorem vQ (n:Nat) (g l:Bool) (dg:aa) (x q:Int) (m d:aa) (k0 k1 k2:Int):∀(r j:Nat),j+r=21->(∀i,i<j->m≠two (21+i))->∀N,r<N->
  aq (bD n) N (((21+j:Nat):Int),g,l,dg,x,q,m,d,k0,k1,k2)=some (if sea m=0 then .inr () else .inl (sea m)):=by
 intro r
 induction r with
 | zero=>
  intro j c a N e;obtain ⟨N,rfl⟩:∃k,N=k+1:=⟨N - 1,by omega⟩;have hs:sea m=0:=LK (λi hi=>a i (by omega));rw [aq];have:bD n (((21+j:Nat):Int),g,l,dg,x,q,m,d,k0,k1,k2)=some (.inr (.inr ())):=by
   unfold bD;rw [bL,ab (by show ¬(((21+j:Nat):Int)<=41);omega)]
  rw [this,ae hs]
 | succ r ih=>
  intro j c a N e;obtain ⟨N,rfl⟩:∃k,N=k+1:=⟨N - 1,by omega⟩;rw [aq];by_cases b:m=two (21+j)
  ·have hs:sea m=((21+j:Nat):Int):=by rw [b];exact mS (by omega)
   have:bD n (((21+j:Nat):Int),g,l,dg,x,q,m,d,k0,k1,k2)=some (.inr (.inl ((21+j:Nat):Int))):=by
    unfold bD;rw [bL,ae (by show ((21+j:Nat):Int)<=41;omega)];show ob (fG n ((21+j:Nat):Int)) _=_;rw [OO n (by omega)];show cond (m==two (21+j)) _ _=_;rw [mf,ae b]
   rw [this,hs,ab (by omega)]
  ·have:bD n (((21+j:Nat):Int),g,l,dg,x,q,m,d,k0,k1,k2)=some (.inl (((21+(j+1):Nat):Int),g,l,dg,x,q,m,d,k0,k1,k2)):=by
    unfold bD;rw [bL,ae (by show ((21+j:Nat):Int)<=41;omega)];show ob (fG n ((21+j:Nat):Int)) _=_;rw [OO n (by omega)];show cond (m==two (21+j)) _ _=_;rw [mf,ab b];have:IntKind.wrap .i64 (((21+j:Nat):Int)+1)=((21+(j+1):Nat):Int):=by rw [wrap_i64 _ (by omega) (by omega)];omega
    show some (Sum.inl (IntKind.wrap .i64 (((21+j:Nat):Int)+1),_))=_;rw [this]
   rw [this]
   exact ih (j+1) (by omega) (λi hi=>by
    rcases aF i j with h | h
    ·exact a i h
    ·have:i=j:=by omega
     rw [this];exact b) N (by omega)
theorem Hm (n:Nat) (a:100<n) (g l:Bool) (dg:aa) (x q:Int) (m d:aa) (k0 k1 k2:Int):aL n g l dg x q m d k0 k1 k2=some (sea m):=by
 unfold aL;have:=vQ n g l dg x q m d k0 k1 k2 21 0 rfl (λi hi=>absurd hi (by omega)) n (by omega);rw [show ((21+0:Nat):Int)=21 from rfl] at this;rw [this];by_cases h:sea m=0
 ·rw [ae h,h];rfl
 ·rw [ab h];rfl
def agr (s:aa) (k:Nat):Bool:=match s with
 | [a,b]=>(a==88||a==UInt8.ofNat (48+k / 10))&&(b==88||b==UInt8.ofNat (48+k%10))
 | _=>false
def ju (s:aa) (g:Nat):Bool:=(List.range g).any λi=>agr s (i+1)
theorem LR {X Y:Type} {step:X->Option (X⊕Y)} {f:Nat->X} {p:Nat->Bool} {g:Nat} {yes no:Y} (h:∀k,1<=k->k<=g->step (f k)=some (if p k then .inr yes else .inl (f (k+1)))) (c:step (f (g+1))=some (.inr no)) {N:Nat} (b:g<N):
  aq step N (f 1)=some (if (List.range g).any (λi=>p (i+1)) then yes else no):=by
 have d:∀(r j:Nat),j+r=g->(∀i,i<j->p (i+1)=false)->∀N,r<N->aq step N (f (j+1))=some (if (List.range g).any (λi=>p (i+1)) then yes else no):=by
  intro r
  induction r with
  | zero=>
   intro j e a N b;obtain ⟨N,rfl⟩:∃k,N=k+1:=⟨N - 1,by omega⟩;have:(List.range g).any (λi=>p (i+1))=false:=by
    rw [s9];intro i hi;rw [a i (by have:=kj.1 hi;omega)];simp
   rw [aq,show j+1=g+1 by omega,c,this];rfl
  | succ r ih=>
   intro j e a N b;obtain ⟨N,rfl⟩:∃k,N=k+1:=⟨N - 1,by omega⟩;rw [aq,h (j+1) (by omega) (by omega)];cases hp:p (j+1) with
   | true=>
    have:(List.range g).any (λi=>p (i+1))=true:=uz.2 ⟨j,kj.2 (by omega),hp⟩;rw [this];rfl
   | false=>
    exact ih (j+1) (by omega) (λi hi=>by
     rcases aF i j with h | h
     ·exact a i h
     ·have:i=j:=by omega
      rw [this];exact hp) N (by omega)
 exact d g 0 (by omega) (λi hi=>absurd hi (by omega)) N b
theorem yd {a:UInt8} {k:Nat} (b:k<256):((((a.toNat:Nat):Int))==((k:Nat):Int))=(a==UInt8.ofNat k):=by
 have h:(UInt8.ofNat k).toNat=k:=by simp;omega
 rw [<-od,h]
theorem MC (n:Nat) (a b:UInt8) {g k:Nat} (q:1<=k) (r:k<=g) (s:g<=31):
  cZ n ([a,b],(g:Int),(k:Int))=some (if agr [a,b] k then .inr (.inl true) else .inl ([a,b],(g:Int),((k+1:Nat):Int))):=by
 have d:Int.tdiv (k:Int) 10=((k / 10:Nat):Int):=by
  rw [show (10:Int)=((10:Nat):Int) from rfl,<-Int.ofNat_tdiv]
 have i:Int.tmod (k:Int) 10=((k%10:Nat):Int):=by
  rw [show (10:Int)=((10:Nat):Int) from rfl,<-Int.ofNat_tmod]
 have h:IntKind.wrap .u8 (48+IntKind.wrap .u8 (IntKind.wrap .i64 (Int.tdiv (k:Int) 10)))=((48+k / 10:Nat):Int):=by
  rw [d,wrap_i64 _ (by omega) (by omega),mr ((k / 10:Nat):Int) (by omega) (by omega),mr _ (by omega) (by omega)];omega
 have j:IntKind.wrap .u8 (48+IntKind.wrap .u8 (Int.tmod (k:Int) 10))=((48+k%10:Nat):Int):=by
  rw [i,mr ((k%10:Nat):Int) (by omega) (by omega),mr _ (by omega) (by omega)];omega
 have l:IntKind.wrap .i64 ((k:Int)+1)=((k+1:Nat):Int):=by rw [wrap_i64 _ (by omega) (by omega)];omega
 have c:(88:Int)=((88:Nat):Int):=rfl;have s0:sx [a,b] 0=some a:=rfl;have f:sx [a,b] 1=some b:=rfl;unfold cZ;rw [bL,ae (show (k:Int)<=(g:Int) by omega)];simp only [s0,f,ob,h,j,l];rw [c,yd (by omega),yd (by omega),yd (by omega),yd (by omega)];show _=some (if ((a==UInt8.ofNat 88||a==UInt8.ofNat (48+k / 10))&&(b==UInt8.ofNat 88||b==UInt8.ofNat (48+k%10)))=true then _ else _);generalize (a==UInt8.ofNat 88)=o;generalize (b==UInt8.ofNat 88)=m;generalize (a==UInt8.ofNat (48+k / 10))=e;generalize (b==UInt8.ofNat (48+k%10))=p;cases o<;>cases m<;>cases e<;>cases p<;>rfl
theorem BI (n:Nat) (m:100<n) (s:aa) (g:Nat) (j:g<=31):cR n s (g:Int)=some (ju s g):=by
 unfold cR;by_cases c:s.length=2
 ·obtain ⟨a,b,rfl⟩:∃a b,s=[a,b]:=by
   match s,c with
   | [a,b],_=>exact ⟨a,b,rfl⟩
  have d:cZ n ([a,b],(g:Int),((g+1:Nat):Int))=some (.inr (.inr ())):=by
   unfold cZ;rw [bL,ab (show ¬((g+1:Nat):Int)<=(g:Int) by omega)]
  have:=LR (f:=λk=>([a,b],(g:Int),((k:Nat):Int))) (p:=agr [a,b]) (g:=g) (N:=n) (λk e l=>MC n a b e l j) d (by omega);show ob (aq (cZ n) n ([a,b],(g:Int),((1:Nat):Int))) _=_;rw [this];unfold ju;split<;>simp_all [ob]
 ·rw [show (((s.length:Nat):Int) != 2)=true by simp;omega];have:ju s g=false:=by
   unfold ju;rw [s9];intro i _
   match s,c with
   | [],_=>simp [agr]
   | [_],_=>simp [agr]
   | [_,_],h=>exact absurd rfl h
   | _::_::_::_,_=>simp [agr]
  rw [this];rfl
theorem vt (n:Nat) {a b:Int} (t:1<b) (p:b<1000) (u:-4611686018427387904<=a) (m:a<4611686018427387904):kG n a b=some (a / b,0):=by
 have q:(b==0)=false:=by simp;omega
 have r:(b==-1)=false:=by simp;omega
 unfold kG;simp only [q,r,ah];have v:a / b*b+a%b=a:=Int.ediv_mul_add_emod a b;have s:=Int.emod_nonneg a (show b≠0 by omega);have j:=Int.emod_lt_of_pos a (show 0<b by omega);have k:-4611686018427387904<=a / b:=by
  rw [Int.le_ediv_iff_mul_le (by omega)];have:(-4611686018427387904:Int)*b<=-4611686018427387904*1:=Int.mul_le_mul_of_nonpos_left (by omega) (by omega);omega
 have l:a / b<4611686018427387904:=by
  rw [Int.ediv_lt_iff_lt_mul (by omega)];have:(4611686018427387904:Int)*1<=4611686018427387904*b:=Int.mul_le_mul_of_nonneg_left (by omega) (by omega);omega
 by_cases e:0<=a
 ·have d:Int.tdiv a b=a / b:=OU e;have g:decide (a<0)=false:=by simp;omega
  have d2:decide (b<0)=false:=by simp;omega
  rw [d,g,d2,wrap_i64 (a / b) (by omega) (by omega)];cases (Int.tmod a b != 0)<;>rfl
 ·have g:decide (a<0)=true:=by simp;omega
  have d2:decide (b<0)=false:=by simp;omega
  have d:=Int.tdiv_eq_ediv (a:=a) (b:=b);have i:=Int.tmod_eq_emod (a:=a) (b:=b);rw [g,d2];by_cases c:b∣a
  ·have f:Int.tmod a b=0:=by
    rw [i,ae (.inr c)];have:=Int.emod_eq_zero_of_dvd c;omega
   rw [f,d,ae (.inr c)];rw [Int.add_zero,wrap_i64 (a / b) (by omega) (by omega)];rfl
  ·have o:a%b≠0:=λh=>c (Ol h);have f:(Int.tmod a b != 0)=true:=by
    rw [i,ab (by rintro (h | h);exact e h;exact c h)];simp;omega
   have hs:b.sign=1:=Int.sign_eq_one_of_pos (by omega);rw [f,d,ab (by rintro (h | h);exact e h;exact c h),hs];rw [wrap_i64 (a / b+1) (by omega) (by omega),Int.add_sub_cancel,wrap_i64 (a / b) (by omega) (by omega)];rfl
theorem Tj (n:Nat) {a b:Int} (o:1<b) (i:b<1000):va n a b=some (a%b,0):=by
 have j:(b==0)=false:=by simp;omega
 have k:(b==-1)=false:=by simp;omega
 unfold va;simp only [j,k,ah];have m:=Int.emod_nonneg a (show b≠0 by omega);have e:=Int.emod_lt_of_pos a (show 0<b by omega);have c:=Int.tmod_eq_emod (a:=a) (b:=b);have d2:decide (b<0)=false:=by simp;omega
 by_cases hc:0<=a\/b∣a
 ·rw [ae hc] at c;have:Int.tmod a b=a%b:=by omega
  rw [this,d2];have d:decide (a%b<0)=false:=by simp;omega
  rw [d];cases h:(a%b != 0)
  ·rfl
  ·rfl
 ·rw [ab hc] at c;have l:(b.natAbs:Int)=b:=by omega
  rw [l] at c;have f:a%b≠0:=λh=>hc (.inr (Ol h));have g:(Int.tmod a b != 0)=true:=by simp;omega
  have d:decide (Int.tmod a b<0)=true:=by simp;omega
  rw [g,d,d2,c,wrap_i64 _ (by omega) (by omega),Ll];rfl
def dI (y:Int):Prop:=-10000000000000000<=y/\y<=10000000000000000
instance (y:Int):Decidable (dI y):=by unfold dI;infer_instance
theorem fN (n:Nat) (y:Int):iy n y=some (if dI y then 0 else 6):=by
 unfold iy;rw [bL,bL];by_cases a:y < -10000000000000000
 ·rw [ae a,ab (show ¬dI y by unfold dI;omega)]
 ·by_cases b:y>10000000000000000
  ·rw [ab a,ae b,ab (show ¬dI y by unfold dI;omega)]
  ·rw [ab a,ab b,ae (show dI y by unfold dI;omega)]
theorem sB (n:Nat) {y:Int} (h:-20000000000000000<=y/\y<=20000000000000000):∃z,eS n y=some z:=by
 unfold eS;rw [wrap_i64 (y - 1) (by omega) (by omega),vt n (by omega) (by omega) (by omega) (by omega),vt n (by omega) (by omega) (by omega) (by omega),vt n (by omega) (by omega) (by omega) (by omega)];exact ⟨_,rfl⟩
theorem Iw (n:Nat) {y:Int} (h:dI y):∃b e,jr n y=some (b,e):=by
 unfold jr;have h':=h;unfold dI at h';obtain ⟨z1,a⟩:=sB n (y:=y+1) (by omega);obtain ⟨z2,c⟩:=sB n (y:=y) (by omega);rw [fN,ae h,wrap_i64 (y+1) (by omega) (by omega),a,c];exact ⟨_,_,rfl⟩
theorem sF (n:Nat) {y:Int} (h:dI y) {m:Nat} (d:1<=m) (c:m<=12):∃v,dS n y (m:Int)=some v:=by
 unfold dS;obtain ⟨b,e,a⟩:=Iw n h;rw [a];show ∃v,cond (b&&((m:Int)==2)) _ _=some v;cases (b&&((m:Int)==2)) with
 | true=>exact ⟨_,rfl⟩
 | false=>
  have:IntKind.wrap .i64 ((m:Int) - 1)=((m - 1:Nat):Int):=by rw [wrap_i64 _ (by omega) (by omega)];omega
  rw [this,eu (by omega)];have a:uN.length=12:=rfl;exact ⟨_,bn (show m - 1<uN.length by omega)⟩
theorem Gv (n:Nat) {y:Int} (h:dI y) {m:Nat} (b:1<=m) (a:m<=12):jo n y (m:Int)=some 0:=by
 unfold jo;rw [fN,ae h];show cond (decide ((m:Int)<1)) _ _=_;rw [bL,bL,ab (by omega),ab (by omega)]
theorem G3 (n:Nat) {y:Int} (h:dI y) {m:Nat} (e:m<=11):∀(r j:Nat),j+r=m->∀(a:Int) (N:Nat),r<N->∃v,aq (bz n) N (y,a,(m:Int),(j:Int))=some v:=by
 intro r
 induction r with
 | zero=>
  intro j b a N d;obtain ⟨N,rfl⟩:∃k,N=k+1:=⟨N - 1,by omega⟩;have:bz n (y,a,(m:Int),(j:Int))=some (.inr a):=by
   unfold bz;rw [bL,ab (show ¬((j:Int)<(m:Int)) by omega)]
  rw [aq,this];exact ⟨_,rfl⟩
 | succ r ih=>
  intro j b a N d;obtain ⟨N,rfl⟩:∃k,N=k+1:=⟨N - 1,by omega⟩;obtain ⟨v,c⟩:=sF n h (m:=j+1) (by omega) (by omega);have w:IntKind.wrap .i64 ((j:Int)+1)=((j+1:Nat):Int):=by rw [wrap_i64 _ (by omega) (by omega)];omega
  have:bz n (y,a,(m:Int),(j:Int))=some (.inl (y,IntKind.wrap .i64 (a+v),(m:Int),((j+1:Nat):Int))):=by
   unfold bz;rw [bL,ae (show ((j:Int)<(m:Int)) by omega)];simp only [w,c,ob]
  rw [aq,this];exact ih (j+1) (by omega) _ N (by omega)
theorem Jw (n:Nat) (d:100<n) {y:Int} (h:dI y) {m:Nat} (c:1<=m) (b:m<=12):∃v,eV n y (m:Int)=some (v,0):=by
 unfold eV ke kA;have h':=h;unfold dI at h';obtain ⟨z,e⟩:=sB n (y:=y) (by omega);have w:IntKind.wrap .i64 ((m:Int) - 1)=((m - 1:Nat):Int):=by rw [wrap_i64 _ (by omega) (by omega)];omega
 rw [Gv n h c b,fN,ae h,e,w];obtain ⟨v,a⟩:=G3 n h (m:=m - 1) (by omega) (m - 1) 0 (by omega) (IntKind.wrap .i64 (IntKind.wrap .i64 (365*y)+z)) n (by omega);refine ⟨v,?_⟩;show ob (aq (bz n) n (y,IntKind.wrap .i64 (IntKind.wrap .i64 (365*y)+z),((m - 1:Nat):Int),((0:Nat):Int))) _=_;rw [a];rfl
theorem madd (n:Nat) {y:Int} (h:dI y) {m c:Nat} (g:1<=m) (j:m<=12) (hc:1<=c) (i:c<=6):nT n y (m:Int) (IntKind.wrap .i64 ((c:Int) - 1)) =
  some (if 12<m+c - 1 then (if y=10000000000000000 then (0,0,6) else (y+1,((m+c - 1 - 12:Nat):Int),0)) else (y,((m+c - 1:Nat):Int),0)):=by
 have h':=h;unfold dI at h';unfold nT;rw [Gv n h g j,wrap_i64 (12*y) (by omega) (by omega),wrap_i64 ((m:Int) - 1) (by omega) (by omega),wrap_i64 (12*y+((m:Int) - 1)) (by omega) (by omega),wrap_i64 ((c:Int) - 1) (by omega) (by omega)];have k:rr n (12*y+((m:Int) - 1)) ((c:Int) - 1)=some (12*y+((m:Int) - 1)+((c:Int) - 1),0):=by
  unfold rr;rw [wrap_i64 (12*y+((m:Int) - 1)+((c:Int) - 1)) (by omega) (by omega),mf];by_cases b:(c:Int) - 1=0
  ·rw [ae b];have e:decide (12*y+((m:Int) - 1)>12*y+((m:Int) - 1))=false:=by simp
   have d2:decide ((c:Int) - 1>0)=false:=by simp;omega
   rw [e,d2,b,Int.add_zero];rfl
  ·rw [ab b];have e:decide (12*y+((m:Int) - 1)+((c:Int) - 1)>12*y+((m:Int) - 1))=true:=by simp;omega
   have d2:decide ((c:Int) - 1>0)=true:=by simp;omega
   rw [e,d2];rfl
 simp only [ob,k,fj,ah];rw [vt n (by omega) (by omega) (by omega) (by omega),Tj n (by omega) (by omega)];simp only [fN];by_cases f:12<m+c - 1
 ·have a:(12*y+((m:Int) - 1)+((c:Int) - 1)) / 12=y+1:=by omega
  have d:(12*y+((m:Int) - 1)+((c:Int) - 1))%12=((m+c - 1 - 12:Nat):Int) - 1:=by omega
  rw [a,d,ae f];by_cases hy:y=10000000000000000
  ·rw [ae hy,ab (show ¬dI (y+1) by unfold dI;omega)];rfl
  ·rw [ab hy,ae (show dI (y+1) by unfold dI;omega),wrap_i64 (((m+c - 1 - 12:Nat):Int) - 1+1) (by omega) (by omega),Ll];rfl
 ·have a:(12*y+((m:Int) - 1)+((c:Int) - 1)) / 12=y:=by omega
  have d:(12*y+((m:Int) - 1)+((c:Int) - 1))%12=((m+c - 1:Nat):Int) - 1:=by omega
  rw [a,d,ab f,ae h,wrap_i64 (((m+c - 1:Nat):Int) - 1+1) (by omega) (by omega),Ll];rfl
theorem EQ {j:Nat} (b:j<21):∃m c:Nat,ng[j]?=some ((m:Int),(c:Int))/\1<=m/\m<=12/\1<=c/\c<=6/\(12<m+c - 1↔j=3\/j=7\/j=9):=by
 have:((List.range 21).all λj=>match ng[j]? with
  | some (m,c)=>decide (0<=m)&&decide (0<=c)&&decide (1<=m.toNat)&&decide (m.toNat<=12)&&decide (1<=c.toNat)&&decide (c.toNat<=6)&&(decide (12<m.toNat+c.toNat - 1)==decide (j=3\/j=7\/j=9))
  | none=>false)=true:=by decide +kernel
 have h:=(co.1 this) j (by simpa using b);split at h
 ·rename_i m c e;simp only [az,dl,bQ,nI] at h;obtain ⟨⟨⟨⟨⟨⟨a,i⟩,k⟩,f⟩,d⟩,l⟩,g⟩:=h;exact ⟨m.toNat,c.toNat,by rw [e,FN a,FN i],k,f,d,l,g⟩
 ·cases h
theorem S4 (n:Nat) (o:100<n) {y:Int} (h:dI y) {j:Nat} (s:j<21):
  ∃a b c d,gz n y ((21+j:Nat):Int)=some (a,b,c,d,if y=10000000000000000/\(j=3\/j=7\/j=9) then 6 else 0):=by
 obtain ⟨m,c,e,q,w,A,z,r⟩:=EQ s;have C:eW n ((21+j:Nat):Int)=some ((m:Int),(c:Int),0):=by
  unfold eW dp;rw [bL,bL,ab (by omega),ab (by omega)];have:IntKind.wrap .i64 (((21+j:Nat):Int) - 21)=(j:Int):=by rw [wrap_i64 _ (by omega) (by omega)];omega
  rw [this,eu s];show ob (ng[j]?) _=_;rw [e];rfl
 obtain ⟨v,B⟩:=Jw n o h q w;unfold gz;rw [C];show ∃a b c d,ob (eV n y (m:Int)) _=_;rw [B];show ∃a b t d,ob (nT n y (m:Int) (IntKind.wrap .i64 ((c:Int) - 1))) _=_;rw [madd n h q w A z];have h':=h;unfold dI at h';by_cases i:12<m+c - 1
 ·rw [ae i];by_cases hy:y=10000000000000000
  ·rw [ae hy,ae ⟨hy,r.1 i⟩];exact ⟨_,_,_,_,rfl⟩
  ·rw [ab hy,ab (λx=>hy x.1)];have g:dI (y+1):=by unfold dI;omega
   obtain ⟨k,f⟩:=Jw n o g (m:=m+c - 1 - 12) (by omega) (by omega);obtain ⟨u,l⟩:=sF n g (m:=m+c - 1 - 12) (by omega) (by omega);have p:f8 n (y+1) ((m+c - 1 - 12:Nat):Int)=some (IntKind.wrap .i64 (IntKind.wrap .i64 (k+u) - 1),0):=by
    unfold f8;rw [f,l];rfl
   show ∃a b t d,ob (f8 n (y+1) ((m+c - 1 - 12:Nat):Int)) _=_;rw [p];exact ⟨_,_,_,_,rfl⟩
 ·rw [ab i,ab (λx=>i (r.2 x.2))];obtain ⟨k,f⟩:=Jw n o h (m:=m+c - 1) (by omega) (by omega);obtain ⟨u,l⟩:=sF n h (m:=m+c - 1) (by omega) (by omega);have p:f8 n y ((m+c - 1:Nat):Int)=some (IntKind.wrap .i64 (IntKind.wrap .i64 (k+u) - 1),0):=by
   unfold f8;rw [f,l];rfl
  show ∃a b t d,ob (f8 n y ((m+c - 1:Nat):Int)) _=_;rw [p];exact ⟨_,_,_,_,rfl⟩
def hasB (set:aa) (c:UInt8):Bool:=set.any λd=>d==c
theorem pj (set:aa) (c:UInt8):(decide (Lib.indexByte set c<0))=!hasB set c:=by
 induction set with
 | nil=>simp [Lib.indexByte,hasB]
 | cons d l ih=>
  have e:=Lib.indexByte_ge l c;simp only [hasB,qm] at ih ⊢;unfold Lib.indexByte;by_cases h:d=c
  ·simp [h]
  ·have f:(d==c)=false:=by simpa using h
   simp only [f,bA,aC,pP];rw [<-ih];by_cases b:Lib.indexByte l c=-1
   ·simp [b]
   ·have a:(Lib.indexByte l c==-1)=false:=by simpa using b
    simp only [a,bA,aC];have:¬Lib.indexByte l c+1<0:=by omega
    have:¬Lib.indexByte l c<0:=by omega
    simp [*]
theorem pg (set:aa) (c:UInt8):(decide (Lib.indexByte set c>=0))=hasB set c:=by
 have:=pj set c;by_cases h:Lib.indexByte set c<0
 ·have a:¬Lib.indexByte set c>=0:=by omega
  simp only [h,a,sD,pV] at this ⊢;revert this;cases hasB set c<;>simp
 ·have a:Lib.indexByte set c>=0:=by omega
  simp only [h,a,sD,pV] at this ⊢;revert this;cases hasB set c<;>simp
def lcp:aa->aa->Nat
 | c::s,d::t=>if c==d then lcp s t+1 else 0
 | _,_=>0
theorem vY:∀s t:aa,lcp s t<=s.length
 | [],_=>by simp [lcp]
 | _::_,[]=>by simp [lcp]
 | c::s,d::t=>by
  have:=vY s t;simp only [lcp,aM];split<;>omega
def bq (p:UInt8->Bool):Nat->aa->Nat
 | 0,_=>0
 | _+1,[]=>0
 | k+1,c::l=>if p c then bq p k l+1 else 0
theorem kE (p:UInt8->Bool):∀(k:Nat) (l:aa),bq p k l<=l.length
 | 0,_=>by simp [bq]
 | _+1,[]=>by simp [bq]
 | k+1,c::l=>by
  have:=kE p k l;simp only [bq,aM];split<;>omega
theorem sJ (n:Nat) (S:aa) (a:Nat) (h:a<=S.length):cc n S (a:Int)=some (S.drop a):=by
 simp [cc,ob,fQ h]
theorem CP (n:Nat) (s p:aa):iD n s p=some (s.take p.length==p):=by
 simp only [iD,fF,ku];by_cases h:p.length<=s.length
 ·simp [h,ob,fQ h]
 ·have:(s.take p.length==p)=false:=by
   rw [aW];intro e;have:=ci List.length e;rw [fZ] at this;omega
  simp [h,ob,this]
theorem IY (n:Nat) (t S:aa) (a:Nat) (h:a<=S.length):eZ n t S (a:Int)=some ((S.drop a).take t.length==t):=by
 simp [eZ,sJ n S a h,ob,CP]
theorem l7 (n:Nat) (t S:aa) (a:Nat) (h:a<=S.length) (d:S.length<4611686018427387904):
  aA n t S (a:Int)=some (if (S.drop a).take t.length=t then (true,S,((a+t.length:Nat):Int)) else (false,S,(a:Int))):=by
 simp only [aA,IY n t S a h,ob];by_cases hp:(S.drop a).take t.length=t
 ·have c:t.length<=S.length - a:=by
   have:=ci List.length hp;simp at this;omega
  have b:IntKind.wrap .i64 ((a:Int)+((t.length:Nat):Int))=((a+t.length:Nat):Int):=by rw [wrap_i64 _ (by omega) (by omega)];omega
  simp [hp,b]
 ·simp only [N2,mf,hp,aC]
theorem AS (n:Nat) (S:aa) (i:Int):br n S i=some i:=rfl
def peek (l:aa):Int×Bool:=match l with | c::_=>(((c.toNat:Nat):Int),true) | []=>(0,false)
theorem oG (n:Nat) (S:aa) (a:Nat) (h:a<=S.length):aZ n S (a:Int)=some (peek (S.drop a)):=by
 simp only [aZ,sJ n S a h,ob];rcases aF a S.length with b | d
 ·obtain ⟨c,hc⟩:∃c,S[a]?=some c:=⟨S[a],bn b⟩;rw [bY hc];simp [ew hc,peek]
 ·rw [iP d];simp [peek]
theorem uK (n:Nat) (a e:Int) (S:aa) (i:Int):aJ n a e S i=some (a,if e=0 then 5 else e):=by
 simp only [aJ,mf];by_cases h:e=0<;>simp [h]
theorem fV (n:Nat) (set:aa) (c:UInt8):dc n set ((c.toNat:Nat):Int)=some (Lib.indexByte set c):=by
 simp only [dc,cL,ob,Vd]
theorem yU (n:Nat) (set S:aa) (a:Nat) (h:a<=S.length) (f:S.length<4611686018427387904):
  bV n set S (a:Int)=some (match S.drop a with | c::_=>if hasB set c then .inr (((c.toNat:Nat):Int),S,((a+1:Nat):Int)) else .inl ((a:Int),5,S,(a:Int)) | []=>.inl ((a:Int),5,S,(a:Int))):=by
 simp only [bV,oG n S a h,ob];rcases aF a S.length with b | d
 ·obtain ⟨c,hc⟩:∃c,S[a]?=some c:=⟨S[a],bn b⟩;have e:IntKind.wrap .i64 ((a:Int)+1)=((a+1:Nat):Int):=by rw [wrap_i64 _ (by omega) (by omega)];omega
  rw [bY hc];simp only [peek,cX,ah,fV,pj,AS,uK,ob,e];cases hasB set c<;>simp
 ·rw [iP d];simp [peek,AS,uK,ob]
theorem oM (S:aa) (a k:Nat):List.drop a (List.take (a+k) S)=(S.drop a).take k:=by
 rw [wP];congr 1;omega
theorem yV (n:Nat) (set:aa) (b most:Int) (S:aa) (a:Nat) (h:a<=S.length) (m:S.length<4611686018427387904) (p:S.length<n):
  aq (cJ n) n (set,b,most,(a:Int),(peek (S.drop a)).1,(peek (S.drop a)).2,S,(a:Int)) =
   some (b,(a:Int),S,((a+bq (hasB set) most.toNat (S.drop a):Nat):Int)):=by
 have:=gO (step:=cJ n)
  (λx=>∃j:Nat,a+j<=S.length/\x=(set,b,most,(a:Int),(peek (S.drop (a+j))).1,(peek (S.drop (a+j))).2,S,((a+j:Nat):Int)))
  (λx=>S.length - x.2.2.2.2.2.2.2.toNat)
  (λx=>(b,(a:Int),S,((x.2.2.2.2.2.2.2.toNat+bq (hasB set) (most.toNat - (x.2.2.2.2.2.2.2.toNat - a)) (S.drop x.2.2.2.2.2.2.2.toNat):Nat):Int))) ?_ n
  (set,b,most,(a:Int),(peek (S.drop a)).1,(peek (S.drop a)).2,S,(a:Int)) ⟨0,by omega,by simp⟩ (by simp;omega)
 ·simpa using this
 rintro x ⟨j,o,rfl⟩;simp only [cV];have d:IntKind.wrap .i64 (((a+j:Nat):Int) - (a:Int))=(j:Int):=by rw [wrap_i64 _ (by omega) (by omega)];omega
 rcases aF (a+j) S.length with e | f
 ·obtain ⟨c,hc⟩:∃c,S[a+j]?=some c:=⟨S[a+j],bn e⟩;have i:IntKind.wrap .i64 (((a+j:Nat):Int)+1)=((a+(j+1):Nat):Int):=by rw [wrap_i64 _ (by omega) (by omega)];omega
  simp only [cJ,bY hc,peek,aj,d];by_cases g:(j:Int)<most
  ·obtain ⟨k,l⟩:∃k,most.toNat - (a+j - a)=k+1:=⟨most.toNat - j - 1,by omega⟩;simp only [g,sD,aj,fV,ob,pg,l,bq];cases q:hasB set c with
   | true=>
    simp only [i,oG n S (a+(j+1)) (by omega),aj];refine .inl ⟨_,rfl,⟨j+1,by omega,rfl⟩,?_,?_⟩
    ·simp only [cV];omega
    ·simp only [cV,bE,mN,aK];have:most.toNat - (a+(j+1) - a)=k:=by omega
     rw [this,show a+(j+1)=a+j+1 by omega];omega
   | false=>exact .inr (by simp)
  ·refine .inr ?_;have:most.toNat - (a+j - a)=0:=by omega
   simp only [g,pV,ah,this,bq,cn]
 ·refine .inr ?_;simp only [cJ,iP f,peek,ah];have:bq (hasB set) (most.toNat - (a+j - a)) []=0:=by cases most.toNat - (a+j - a)<;>rfl
  simp only [this,cn]
theorem uM (n:Nat) (set:aa) (b most:Int) (S:aa) (a:Nat) (h:a<=S.length) (f:S.length<4611686018427387904) (g:S.length<n):
  bO n set b most S (a:Int)=some (if ((bq (hasB set) most.toNat (S.drop a):Nat):Int)<b
   then .inl (((a+bq (hasB set) most.toNat (S.drop a):Nat):Int),5,S,((a+bq (hasB set) most.toNat (S.drop a):Nat):Int))
   else .inr ((S.drop a).take (bq (hasB set) most.toNat (S.drop a)),S,((a+bq (hasB set) most.toNat (S.drop a):Nat):Int))):=by
 have e:=kE (hasB set) most.toNat (S.drop a);rw [cY] at e;simp only [bO,AS,oG n S a h,ob];rw [yV n set b most S a h f g];generalize bq (hasB set) most.toNat (S.drop a)=k at e ⊢;have c:IntKind.wrap .i64 (((a+k:Nat):Int) - (a:Int))=(k:Int):=by rw [wrap_i64 _ (by omega) (by omega)];omega
 simp only [c,uK];by_cases d:(k:Int)<b
 ·simp [d]
 ·simp only [d,pV,ah,aC];rw [fQ (by omega)];simp only;rw [fQ (by omega)];simp only [oM]
theorem PL (a b:Nat):(cond (decide (((a:Nat):Int)<((b:Nat):Int))) ((a:Nat):Int) ((b:Nat):Int))=((min a b:Nat):Int):=by
 by_cases h:a<b
 ·simp [h];omega
 ·simp [h];omega
def asc (l:aa):Prop:=∀c∈l,c.toNat<128
theorem JY (r:Int) (h:128<=r):∃p e,(Utf8.encode r).data.toList=p++[e]/\1<=p.length/\p.length<=3/\128<=e.toNat:=by
 unfold Utf8.encode;have hc:128<=(if Utf8.valid r then r.toNat else Utf8.runeError):=by
  split
  ·omega
  ·decide
 generalize (if Utf8.valid r then r.toNat else Utf8.runeError)=c at hc;have a:128<=(UInt8.ofNat (0x80+c%64)).toNat:=by
  simp only [Dk];omega
 simp only;split
 ·omega
 ·split
  ·exact ⟨[_],_,rfl,by simp,by simp,a⟩
  ·split
   ·exact ⟨[_,_],_,rfl,by simp,by simp,a⟩
   ·exact ⟨[_,_,_],_,rfl,by simp,by simp,a⟩
theorem I9 {l:aa} (h:asc l) {i:Nat} {c:UInt8} (hi:l[i]?=some c):c.toNat<128:=h c (f7 hi)
theorem B7 (n:Nat) (set:aa) (h:asc set) (e:set.length<n):aq (dw n) n (set,0)=some (.inr ()):=by
 refine gO (step:=dw n) (λx=>x.1=set) (λx=>set.length - x.2) (λx=>.inr ()) ?_ n _ rfl (by simp;omega);rintro ⟨s,i⟩ rfl;simp only [dw];by_cases hi:i<s.length
 ·have b:Nat.blt i s.length=true:=cr hi;obtain ⟨c,hc⟩:∃c,s[i]?=some c:=⟨s[i],bn hi⟩;have a:=I9 h hc;have d:(((c.toNat:Nat):Int)==65533)=false:=by rw [aW];omega
  simp only [b,aj,zB hc a,d,ah];exact .inl ⟨_,rfl,rfl,by simp only;omega,trivial⟩
 ·have b:Nat.blt i s.length=false:=by
   cases b:Nat.blt i s.length with
   | false=>rfl
   | true=>exact absurd (aE b) (by omega)
  simp only [b,ah];exact .inr trivial
theorem xI {l:aa} {c:UInt8} (h:c∉l):Lib.indexByte l c<0:=by
 have b:=pj l c;have d:hasB l c=false:=by
  unfold hasB;rw [s9];intro x hx a;simp only [bQ] at a;exact h (a▸hx)
 rw [d] at b;simpa using b
theorem B9 (n:Nat) (set:aa) (h:asc set) (s:set.length<n) (hs:set.length<=100) (r:Int) (l:128<=r):dK n set r=some (-1):=by
 have x:decide ((0:Int)<=r)=true:=au (by omega);have q:decide (r<128)=false:=av (by omega);simp only [dK,x,q,aj,ah];by_cases d:r=65533
 ·have:(r==65533)=true:=bQ.2 d;simp only [this,aj,B7 n set h s,ob]
 ·have:(r==65533)=false:=aW.2 d;simp only [this,ah];obtain ⟨v,w⟩:∃v,dH n r=some v:=by
   unfold dH;generalize decide ((0:Int)<=r)=u;generalize decide (r<55296)=d2;generalize decide ((57343:Int)<r)=A;generalize decide (r<=1114111)=d4;cases u<;>cases d2<;>cases A<;>cases d4<;>exact ⟨_,rfl⟩
  simp only [w,ob];cases v with
  | false=>rfl
  | true=>
   simp only [cX,ah];obtain ⟨p,e,hp,t,o,B⟩:=JY r l;simp only [hp];have z:IntKind.wrap .i64 (((p++[e]).length:Nat) - 1:Int)=(p.length:Int):=by
    rw [wrap_i64 _ (by simp<;>omega) (by simp<;>omega)];simp
   rw [z];obtain ⟨m,rfl⟩:∃m,n=m+1:=⟨n - 1,by omega⟩;have a:du (m+1) (set,p++[e],(p.length:Int),(p.length:Int))=some (.inr (.inl (-1)))\/du (m+1) (set,p++[e],(p.length:Int),(p.length:Int))=some (.inr (.inr ())):=by
    simp only [du,ky];by_cases i:p.length<set.length
    ·obtain ⟨c,hc⟩:∃c,set[p.length]?=some c:=⟨set[p.length],bn i⟩;have k:=I9 h hc;have j:(p++[e])[p.length]?=some e:=by simp
     have g:(((c.toNat:Nat):Int) != ((e.toNat:Nat):Int))=true:=by simp only [bne,kP,aW];omega
     have f:IntKind.wrap .i64 ((p.length:Int)+1)=((p.length+1:Nat):Int):=by rw [wrap_i64 _ (by omega) (by omega)];omega
     have hx:e∉List.drop (p.length+1) (List.take set.length set):=by
      intro y;have:=h e (by simpa using List.mem_of_mem_drop y);omega
     left;simp only [i,sD,aj,ew hc,ew j,ob,g,f,fQ (show p.length+1<=set.length by omega),fV,xI hx]
    ·right;simp only [i,pV,ah]
   rcases a with b | b<;>simp only [aq,b,ob]
theorem xH (n:Nat) (set:aa) (c:UInt8) (r:Int) (b:r=((c.toNat:Nat):Int)) (hc:c.toNat<128):dK n set r=some (Lib.indexByte set c):=by
 have a:decide ((0:Int)<=r)=true:=au (by omega);have d:decide (r<128)=true:=au (by omega);have e:IntKind.wrap .u8 r=r:=mr _ (by omega) (by omega);have f:dc n set r=some (Lib.indexByte set c):=by rw [b];exact fV n set c
 simp only [dK,a,d,aj,e,f,ob]
theorem zJ (n:Nat) (set:aa) (c:UInt8) (hc:c.toNat<128):dK n set ((c.toNat:Nat):Int)=some (Lib.indexByte set c):=xH n set c _ rfl hc
theorem uC (n:Nat) (set:aa) (c:UInt8) (hc:c.toNat<128):dA n set ((c.toNat:Nat):Int)=some (hasB set c):=by
 simp only [dA,zJ n set c hc,ob,pg]
theorem vV (n:Nat) (set:aa) (h:asc set) (a:set.length<n) (hs:set.length<=100) (r:Int) (b:128<=r):dA n set r=some false:=by
 simp only [dA,B9 n set h a hs r b,ob];rfl
theorem tj (w a:Nat):BitVec.ofInt w (a:Int)=BitVec.ofNat w a:=by
 apply BitVec.eq_of_toNat_eq;simp
theorem O0 (k:Nat):(2:Int) ^ k=((2 ^ k:Nat):Int):=by simp
theorem NV (a k:Nat):Int.fdiv (a:Int) (2 ^ k)=((a / 2 ^ k:Nat):Int):=by
 rw [O0 k,Int.fdiv_eq_ediv_of_nonneg _ (Int.natCast_nonneg _)];rfl
def inR (lo hi:Int) (c:UInt8):Bool:=decide (((c.toNat:Nat):Int)>=lo)&&decide (((c.toNat:Nat):Int)<=hi)
def cnt (lo hi:Int) (l:aa):Nat:=l.countP (inR lo hi)
def bp (c:UInt8):Bool:=inR 48 57 c
theorem cq (c:UInt8):bp c=true↔48<=c.toNat/\c.toNat<=57:=by
 unfold bp inR;simp only [az,dl];omega
theorem Lm (n:Nat) (s set:aa) (r:asc set) (u:set.length<n) (t:set.length<=100) (hs:s.length<n):
  ∃y,aq (cu n) n (true,set,s,0)=some y/\((y=.inr ()/\s.all (hasB set)=true)\/∃i:Nat,y=.inl (i:Int)/\s.all (hasB set)=false):=by
 refine ri (step:=cu n) (λx=>x.1=true/\x.2.1=set/\x.2.2.1=s/\s.all (hasB set)=(s.drop x.2.2.2).all (hasB set)) (λx=>s.length - x.2.2.2) _ ?_ n _ ⟨rfl,rfl,rfl,rfl⟩ (by simp only;omega);rintro ⟨b,st,s',p⟩ ⟨h,g,f,a⟩;simp only at h g f a;rw [h,g,f];clear h g f b st s';rcases aF p s.length with j | m
 ·obtain ⟨c,hc⟩:∃c,s[p]?=some c:=⟨s[p],bn j⟩;have e:Nat.blt p s.length=true:=cr j;rw [bY hc,lA] at a;rcases aF c.toNat 128 with d | d
  ·have q:=zB hc d;simp only [cu,e,aj,jg,q,uC n set c d,ob];cases k:hasB set c with
   | true=>
    rw [k,qo] at a;exact .inl ⟨_,rfl,⟨rfl,rfl,rfl,a⟩,by simp only;omega⟩
   | false=>
    rw [k,wQ] at a;exact .inr ⟨_,rfl,.inr ⟨p,rfl,a⟩⟩
  ·have q:=Fj hc d;have k:hasB set c=false:=by
    unfold hasB;rw [s9];intro x hx o;simp only [bQ] at o;have:=r x hx;rw [o] at this;omega
   rw [k,wQ] at a;have l:=vV n set r u t (((dec s p).1:Nat):Int) (by omega);simp only [cu,e,aj,jg,l,ob];exact .inr ⟨_,rfl,.inr ⟨p,rfl,a⟩⟩
 ·have e:Nat.blt p s.length=false:=by
   cases h:Nat.blt p s.length with
   | false=>rfl
   | true=>exact absurd (aE h) (by omega)
  simp only [cu,e,ah];rw [iP m] at a;exact .inr ⟨_,rfl,.inl ⟨rfl,by rw [a];rfl⟩⟩
theorem JS (n:Nat) (s set:aa) (f:asc set) (d:set.length<n) (b:set.length<=100) (hs:s.length<n):fC n s set=some (s.all (hasB set)):=by
 obtain ⟨y,c,e⟩:=Lm n s set f d b hs;simp only [fC,kw,kb,c,ob];rcases e with ⟨rfl,a⟩ | ⟨i,rfl,a⟩
 ·rw [a];rfl
 ·rw [a];simp only [ak,vX];omega
theorem Nn:asc [48,49,50,51,52,53,54,55,56,57]:=by unfold asc;decide
theorem KY:asc [88,48,49,50,51,52,53,54,55,56,57]:=by unfold asc;decide
theorem gN (p:UInt8->Bool) (h:∀i:Fin 256,p (UInt8.ofNat i.val)=true) (c:UInt8):p c=true:=by
 have:=h ⟨c.toNat,c.toNat_lt⟩;simpa using this
theorem vL (c:UInt8):hasB [48,49,50,51,52,53,54,55,56,57] c=bp c:=by
 have:=gN (λc=>hasB [48,49,50,51,52,53,54,55,56,57] c==bp c) (by decide +kernel) c;simpa using this
theorem t8 (c:UInt8):hasB [88,48,49,50,51,52,53,54,55,56,57] c=(bp c||c==88):=by
 have:=gN (λc=>hasB [88,48,49,50,51,52,53,54,55,56,57] c==(bp c||c==88)) (by decide +kernel) c;simpa using this
theorem J3 (n:Nat) (s:aa) (a:100<n) (hs:s.length<n):fC n s [48,49,50,51,52,53,54,55,56,57]=some (s.all bp):=by
 rw [JS n s _ Nn (by simp;omega) (by simp) hs];congr 2;funext c;exact vL c
theorem G1 (n:Nat) (s:aa) (a:100<n) (hs:s.length<n):fC n s [88,48,49,50,51,52,53,54,55,56,57]=some (s.all λc=>bp c||c==88):=by
 rw [JS n s _ KY (by simp;omega) (by simp) hs];congr 2;funext c;exact t8 c
def all0 (s:aa):Bool:=s.all λc=>c==48
theorem Vy (n:Nat) (s:aa) (hs:s.length<n) (m:s.length<100000):∃y,fB n s 48=some y/\all0 s=all0 y/\y.length<=s.length:=by
 obtain ⟨y,j,a⟩:=ri (step:=di n) (λx=>x.2=48/\all0 s=all0 x.1/\x.1.length<=s.length) (λx=>x.1.length) (λy=>all0 s=all0 y/\y.length<=s.length) (by
  rintro ⟨l,c⟩ ⟨rfl,h,d⟩;simp only at h d;by_cases k:l.length>0
  ·have d0:decide (((l.length:Nat):Int)>0)=true:=au (by omega);have g:IntKind.wrap .i64 (((l.length:Nat):Int) - 1)=((l.length - 1:Nat):Int):=by rw [wrap_i64 _ (by omega) (by omega)];omega
   obtain ⟨c,hc⟩:∃c,l[l.length - 1]?=some c:=⟨l[l.length - 1],bn (by omega)⟩;simp only [di,d0,aj,g,ew hc,ob];by_cases f:c=48
   ·have b:(((c.toNat:Nat):Int)==48)=true:=by rw [f];rfl
    simp only [b,aj,fQ (show l.length - 1<=l.length by omega),ch];refine .inl ⟨(List.take (l.length - 1) l,48),rfl,⟨rfl,?_,by show (List.take (l.length - 1) l).length<=s.length;rw [fZ];omega⟩,by show (List.take (l.length - 1) l).length<l.length;rw [fZ];omega⟩;rw [h];have:l=l.take (l.length - 1)++[c]:=by
     have a:=wj (l:=l) (i:=l.length - 1);rw [hc,show l.length - 1+1=l.length by omega,nM] at a;exact a
    rw [this];simp only [all0,B6,lA,List.all_nil,f];simp
   ·have b:(((c.toNat:Nat):Int)==48)=false:=by
     rw [aW];intro e;exact f (gZ.1 (by show c.toNat=48;omega))
    simp only [b,ah];exact .inr ⟨_,rfl,h,d⟩
  ·have d0:decide (((l.length:Nat):Int)>0)=false:=av (by omega);simp only [di,d0,ah];exact .inr ⟨_,rfl,h,d⟩) n (s,48) ⟨rfl,rfl,aP _⟩ hs
 exact ⟨y,by simp only [fB,j,ob],a⟩
theorem VN (n:Nat) (s:aa) (hs:s.length<n) (m:s.length<100000):∃y,fU n s 48=some y/\all0 s=(y==[]):=by
 obtain ⟨y,j,k⟩:=ri (step:=eM n) (λx=>x.2=48/\all0 s=all0 x.1/\x.1.length<=s.length) (λx=>x.1.length) (λy=>all0 s=(y==[])) (by
  rintro ⟨l,c⟩ ⟨rfl,h,f⟩;simp only at h f;cases l with
  | nil=>exact .inr ⟨[],rfl,by rw [h];rfl⟩
  | cons c l=>
   have d0:decide ((((c::l).length:Nat):Int)>0)=true:=au (by simp only [aM];omega);have hc:sx (c::l) 0=some c:=by simp [sx]
   simp only [eM,d0,aj,hc,ob];by_cases a:c=48
   ·have b:(((c.toNat:Nat):Int)==48)=true:=by rw [a];rfl
    have d:bx (c::l).length 1=some 1:=fQ (i:=1) (by simp);simp only [b,aj,d,nM,mU,ch];refine .inl ⟨_,rfl,⟨rfl,?_,by show l.length<=s.length;simp only [aM] at f;omega⟩,by simp⟩;rw [h];simp [all0,a]
   ·have b:(((c.toNat:Nat):Int)==48)=false:=by
     rw [aW];intro e;exact a (gZ.1 (by show c.toNat=48;omega))
    simp only [b,ah];refine .inr ⟨_,rfl,?_⟩;rw [h];have g:(c==48)=false:=aW.2 a;simp [all0,g]) n (s,48) ⟨rfl,rfl,aP _⟩ hs
 exact ⟨y,by simp only [fU,j,ob],k⟩
theorem Qq (n:Nat) (s:aa) (hs:s.length<n) (e:s.length<100000):∃y,nq n s=some y/\(y==[])=all0 s:=by
 unfold nq;by_cases h:s=[]
 ·subst h;exact ⟨[],rfl,rfl⟩
 ·have:(s==([]:aa))=false:=aW.2 h;obtain ⟨y,a,d,f⟩:=Vy n s hs e;obtain ⟨z,c,b⟩:=VN n y (by omega) (by omega);exact ⟨z,by simp only [this,ah,a,c,ob],by rw [d,b]⟩
def hasX (s:aa):Bool:=s.any λc=>c==88
theorem Bm (n:Nat) (s:aa):gL n s=some (hasX s):=by
 have e:UInt8.ofNat (Int.toNat 88)=(88:UInt8):=rfl;have hi:l6 n s=some (Lib.indexByte s 88):=by
  simp only [l6,iw,cL,ob,e];by_cases h:([88]:aa)=s
  ·subst h;rfl
  ·have:(([88]:aa)==s)=false:=aW.2 h;simp only [this,ah]
 simp only [gL,hi,ob,pg];rfl
theorem tG (n:Nat) (g l:Bool) (d:aa) (x q:Int):cT n g l d x q=some (hasX d):=by
 simp only [cT,Bm,ob]
def uD (acc:Nat) (c:UInt8):Nat:=acc*10+(c.toNat - 48)
def dval (acc:Nat) (l:aa):Nat:=l.foldl uD acc
theorem tA (acc:Nat):dval acc []=acc:=by unfold dval;rw [Fg]
theorem nY (acc:Nat) (c:UInt8) (l:aa):dval acc (c::l)=dval (uD acc c) l:=by
 unfold dval;rw [uq]
theorem N1 (l:aa) (acc:Nat) (c:UInt8):dval acc (l++[c])=dval acc l*10+(c.toNat - 48):=by
 have:dval acc (l++[c])=uD (dval acc l) c:=by
  unfold dval;rw [E1,uq,Fg]
 rw [this];rfl
theorem PW (M:Nat) (i:10000000000000000000<=M) (l:aa):∀(acc k:Nat),(∀c∈l,bp c=true)->acc<10 ^ k->l.length+k<=18->Lib.parseUintM M acc l=.ok (dval acc l)/\dval acc l<10 ^ (l.length+k):=by
 induction l with
 | nil=>
  intro acc k _ b _;rw [tA];refine ⟨rfl,?_⟩;simpa using b
 | cons c l ih=>
  intro acc k h b g;have hc:=(cq c).1 (h c (by simp));simp only [aM] at g;have hp:(10:Nat) ^ (k+1)=10 ^ k*10:=wR 10 k;have f:(10:Nat) ^ (k+1)<=10 ^ 18:=qD (by decide) (by omega);have e:(10:Nat) ^ 18=1000000000000000000:=by decide
  have a:uD acc c=acc*10+(c.toNat - 48):=rfl;have ih:=ih (uD acc c) (k+1) (λd a=>h d (by simp [a])) (by omega) (by omega);refine ⟨?_,?_⟩
  ·simp only [Lib.parseUintM];rw [ae hc,ab (by omega),ab (by omega),<-a,ih.1,nY]
  ·rw [nY,aM,show l.length+1+k=l.length+(k+1) by omega];exact ih.2
theorem Hk {l:aa} (h:∀c∈l,bp c=true) (b:l≠[]) (k:l.length<=18):xw l=some ((dval 0 l:Nat):Int)/\dval 0 l<10 ^ l.length:=by
 obtain ⟨f,d⟩:=PW (2 ^ 64 - 1) (by decide) l 0 0 h (by simp) (by omega);refine ⟨?_,by simpa using d⟩;have j:dval 0 l<10 ^ 18:=qb d (qD (by decide) (by omega));cases l with
 | nil=>exact absurd rfl b
 | cons c r=>
  have hc:=(cq c).1 (h c (by simp));have g:Lib.parseUintB 64 (c::r)=.ok (dval 0 (c::r)):=by
   unfold Lib.parseUintB;rw [ab b,f]
  have hs:¬(c.toNat=43\/c.toNat=45):=by omega
  simp only [xw,Lib.parseIntB,hs,aC,g];have e:(10:Nat) ^ 18=1000000000000000000:=by decide
  have a:(2:Nat) ^ (64 - 1)=9223372036854775808:=by decide
  have i:¬c.toNat=45:=by omega
  simp only [i,Eb,mN,false_and,aC];rw [a,ab (by omega)]
theorem LY (n k:Nat) (j:k<=18) (h:18<n):oa n (k:Int)=some (((10 ^ k:Nat):Int),0):=by
 have b:(10:Nat) ^ 18=1000000000000000000:=by decide
 have:=gO (step:=jC n) (λx=>∃i:Nat,i<=k/\x=(((10 ^ i:Nat):Int),(k:Int),(i:Int))) (λx=>k - x.2.2.toNat) (λ_=>((10 ^ k:Nat):Int)) (by
  rintro x ⟨i,hi,rfl⟩;rcases aF i k with a | g
  ·have e:(10:Nat) ^ (i+1)<=10 ^ 18:=qD (by decide) (by omega);have hp:(10:Nat) ^ (i+1)=10 ^ i*10:=wR 10 i;have c:IntKind.wrap .i64 (((10 ^ i:Nat):Int)*10)=((10 ^ (i+1):Nat):Int):=by rw [wrap_i64 _ (by omega) (by omega)];omega
   have d:IntKind.wrap .i64 ((i:Int)+1)=((i+1:Nat):Int):=by rw [wrap_i64 _ (by omega) (by omega)];omega
   refine .inl ⟨_,?_,⟨i+1,a,rfl⟩,by simp only [cV];omega,rfl⟩;simp only [jC,ky,a,sD,aj,c,d]
  ·have:i=k:=by omega
   subst this;refine .inr ?_;simp only [jC,ky,Nat.lt_irrefl,pV,ah]) n (1,(k:Int),0) ⟨0,by omega,rfl⟩ (by simp;omega)
 have f:decide ((k:Int)<0)=false:=av (by omega);have d2:decide ((k:Int)>18)=false:=av (by omega);simp only [oa,f,d2,ah,this,ob]
theorem jJ (x:Int) (a:0<=x) (b:x<18446744073709551616):IntKind.wrap .u64 x=x:=by
 show x%18446744073709551616=x;omega
theorem Ew (x:Int):IntKind.wrap .u64 x=x%18446744073709551616:=rfl
theorem Lc {a:Nat} (b:a<18446744073709551616):bits .and .u64 (a:Int) 4294967295=((a%4294967296:Nat):Int):=by
 show IntKind.wrap .u64 ((BitVec.ofInt 64 (a:Int) &&& BitVec.ofInt 64 ((4294967295:Nat):Int)).toNat:Int)=_;rw [tj,tj,BitVec.toNat_and,EV,EV,o6 (show a<2 ^ 64 from b),o6 (by decide)];have:=Nat.and_two_pow_sub_one_eq_mod a 32;rw [show (2:Nat) ^ 32 - 1=4294967295 from by decide,show (2:Nat) ^ 32=4294967296 from by decide] at this;rw [this];exact jJ _ (by omega) (by omega)
theorem Nb (a:Nat):Int.fdiv (a:Int) (2 ^ 32)=((a / 4294967296:Nat):Int):=by
 rw [NV]
theorem E2 {a b A B:Nat} (c:a<=A) (d:b<=B):a*b<=A*B:=C4 c d
theorem J6 (a b:Nat):a*b=(a / 4294967296)*(b / 4294967296)*18446744073709551616+((a / 4294967296)*(b%4294967296)+(a%4294967296)*(b / 4294967296))*4294967296+(a%4294967296)*(b%4294967296):=by
 have e:a=(a / 4294967296)*4294967296+a%4294967296:=by omega
 have f:b=(b / 4294967296)*4294967296+b%4294967296:=by omega
 generalize a / 4294967296=c at e ⊢;generalize a%4294967296=g at e ⊢;generalize b / 4294967296=d at f ⊢;generalize b%4294967296=h at f ⊢;subst e f;rw [f9,Nat.mul_add,Nat.mul_add];have i:c*4294967296*(d*4294967296)=c*d*18446744073709551616:=by
  rw [Nat.mul_mul_mul_comm]
 have j:c*4294967296*h=c*h*4294967296:=by rw [Nat.mul_right_comm]
 have k:g*(d*4294967296)=g*d*4294967296:=by rw [Nat.mul_assoc]
 rw [i,j,k,f9];omega
theorem VH (n a b:Nat) (z:a<18446744073709551616) (q:b<18446744073709551616):jI n (a:Int) (b:Int)=some (((a*b / 18446744073709551616:Nat):Int),((a*b%18446744073709551616:Nat):Int)):=by
 have v:=J6 a b;have j:a / 4294967296<=4294967295:=by omega
 have i:a%4294967296<=4294967295:=by omega
 have h:b / 4294967296<=4294967295:=by omega
 have g:b%4294967296<=4294967295:=by omega
 have s:=E2 i g;have o:=E2 i h;have y:=E2 j g;have x:=E2 j h;have k:IntKind.wrap .u64 ((a:Int)*(b:Int))=((a*b%18446744073709551616:Nat):Int):=by
  rw [Ew,<-KZ];omega
 simp only [jI,Nb,Lc z,Lc q,k];simp only [<-KZ];generalize (a / 4294967296)*(b / 4294967296)=f at *;generalize (a / 4294967296)*(b%4294967296)=d at *;generalize (a%4294967296)*(b / 4294967296)=e at *;generalize (a%4294967296)*(b%4294967296)=c at *;generalize a*b=N at *;have w:IntKind.wrap .u64 ((c:Nat):Int)=((c:Nat):Int):=jJ _ (by omega) (by omega);have p:IntKind.wrap .u64 ((d:Nat):Int)=((d:Nat):Int):=jJ _ (by omega) (by omega);have r:IntKind.wrap .u64 ((e:Nat):Int)=((e:Nat):Int):=jJ _ (by omega) (by omega);have m:IntKind.wrap .u64 ((f:Nat):Int)=((f:Nat):Int):=jJ _ (by omega) (by omega);rw [w,p,r,m,Nb c];have u:IntKind.wrap .u64 (((d:Nat):Int)+((c / 4294967296:Nat):Int))=((d+c / 4294967296:Nat):Int):=by rw [jJ _ (by omega) (by omega)];omega
 rw [u,Nb,Lc (by omega)];have l:IntKind.wrap .u64 (((f:Nat):Int)+(((d+c / 4294967296) / 4294967296:Nat):Int))=((f+(d+c / 4294967296) / 4294967296:Nat):Int):=by rw [jJ _ (by omega) (by omega)];omega
 have t:IntKind.wrap .u64 ((((d+c / 4294967296)%4294967296:Nat):Int)+((e:Nat):Int))=(((d+c / 4294967296)%4294967296+e:Nat):Int):=by rw [jJ _ (by omega) (by omega)];omega
 rw [l,t,Nb];have w8:IntKind.wrap .u64 (((f+(d+c / 4294967296) / 4294967296:Nat):Int)+((((d+c / 4294967296)%4294967296+e) / 4294967296:Nat):Int))=((N / 18446744073709551616:Nat):Int):=by
  rw [jJ _ (by omega) (by omega)];omega
 rw [w8]
theorem Q7 (n a b:Nat) (j:a<9223372036854775808) (k:b<9223372036854775808):uL n (a:Int) (b:Int)=some (if a*b<9223372036854775808 then (((a*b:Nat):Int),0) else (0,15)):=by
 have i:decide ((a:Int)<0)=false:=av (by omega);have d2:decide ((b:Int)<0)=false:=av (by omega);have f:IntKind.wrap .u64 (a:Int)=a:=jJ _ (by omega) (by omega);have g:IntKind.wrap .u64 (b:Int)=b:=jJ _ (by omega) (by omega);simp only [uL,tK,i,d2,ah,f,g,ob,VH n a b (by omega) (by omega)];generalize a*b=N;by_cases h:18446744073709551616<=N
 ·have c:decide (((N / 18446744073709551616:Nat):Int)>0)=true:=au (by omega);rw [c,ab (by omega)];rfl
 ·have c:decide (((N / 18446744073709551616:Nat):Int)>0)=false:=av (by omega);have e:N%18446744073709551616=N:=o6 (by omega);rw [c,e];simp only [ah,yp,cX,sC,iv,aj];by_cases d:N<9223372036854775808
  ·have d4:decide (((N:Nat):Int)<=9223372036854775807)=true:=au (by omega);rw [d4,ae d,aj,wrap_i64 _ (by omega) (by omega)]
  ·have d4:decide (((N:Nat):Int)<=9223372036854775807)=false:=av (by omega);rw [d4,ab d,ah]
def E16:Nat:=10000000000000000
theorem Q4 {x:Nat} (hx:17<=x):E16<10 ^ x:=by
 have:(10:Nat) ^ 17<=10 ^ x:=qD (by decide) hx;have a:(10:Nat) ^ 17=100000000000000000:=by decide
 unfold E16;omega
theorem Jk (n:Nat) (g l:Bool) (d:aa) (x:Nat) (s:Int) (q:∀c∈d,bp c=true) (e:d≠[]) (f:d.length<=17) (hx:x<=18) (m:18<n):
  dM n g l d (x:Int) s=some (if dval 0 d*10 ^ x<=E16 then (((dval 0 d*10 ^ x:Nat):Int),0) else (0,6)):=by
 obtain ⟨j,o⟩:=Hk q e (by omega);have r:dval 0 d<10 ^ 17:=qb o (qD (by decide) f);have hp:(10:Nat) ^ x<=10 ^ 18:=qD (by decide) hx;have k:(10:Nat) ^ 17=100000000000000000:=by decide
 have i:(10:Nat) ^ 18=1000000000000000000:=by decide
 have p:Nat.ble d.length 9223372036854775806=true:=cr (by omega);simp only [dM,p,aj,j,ob,LY n x hx m,fj,ah,Q7 n _ _ (show dval 0 d<9223372036854775808 by omega) (show 10 ^ x<9223372036854775808 by omega)];generalize dval 0 d*10 ^ x=N;unfold E16;by_cases h:N<9223372036854775808
 ·rw [ae h];simp only [fj,ah];by_cases b:N<=10000000000000000
  ·have a:decide (((N:Nat):Int)>10000000000000000)=false:=av (by omega);rw [a,ae b,ah]
  ·have a:decide (((N:Nat):Int)>10000000000000000)=true:=au (by omega);rw [a,ab b,aj]
 ·rw [ab h,ab (by omega)];rfl
def pre (d:aa) (i:Nat):Nat:=dval 0 (d.take i)*10 ^ (i - d.length)
def okM (d:aa) (x:Int):Prop:=(∀c∈d,bp c=true)/\1<=d.length/\d.length<=17/\d.head?≠some 48/\0<=x/\x<=16/\¬(x=0/\d.length<5)/\dval 0 d*10 ^ x.toNat<=E16
def okL (d:aa) (x s:Int):Prop:=okM d x/\0<=s/\s<=(d.length:Int)+x
def okS (g:Bool) (d:aa) (x s:Int):Prop:=d.length=4/\(∀c∈d,bp c=true\/c=88)/\x=0/\¬(g=true/\all0 d=true)/\0<=s/\s<=4/\¬(0<s/\hasX d=true)
def okY (g l:Bool) (d:aa) (x s:Int):Prop:=if l=true then okL d x s else okS g d x s
instance (d:aa) (x:Int):Decidable (okM d x):=by unfold okM;infer_instance
instance (d:aa) (x s:Int):Decidable (okL d x s):=by unfold okL;infer_instance
instance (g:Bool) (d:aa) (x s:Int):Decidable (okS g d x s):=by unfold okS;infer_instance
instance (g l:Bool) (d:aa) (x s:Int):Decidable (okY g l d x s):=by unfold okY;infer_instance
theorem Ji (d:aa):d.all bp=true↔∀c∈d,bp c=true:=co
theorem FO (d:aa):(d.all λc=>bp c||c==88)=true↔∀c∈d,bp c=true\/c=88:=by
 rw [co];constructor
 ·intro h c hc;have:=h c hc;simpa using this
 ·intro h c hc;have:=h c hc;simpa using this
theorem UF (c:UInt8):(((c.toNat:Nat):Int)==48)=(c==48):=od c 48
theorem QG (n:Nat) (g l:Bool) (d:aa) (x s:Int) (y:200<n) (A:d.length<=100):aS n g l d x s=some (decide (okM d x)):=by
 unfold aS;by_cases w:d.length<1
 ·have e:decide (((d.length:Nat):Int)<1)=true:=au (by omega);rw [e,av (λh:okM d x=>by have:=h.2.1;omega)];rfl
 ·have e:decide (((d.length:Nat):Int)<1)=false:=av (by omega);rw [e,ah];by_cases z:d.length>17
  ·have e:decide (((d.length:Nat):Int)>17)=true:=au (by omega);rw [e,av (λh:okM d x=>by have:=h.2.2.1;omega)];rfl
  ·have e:decide (((d.length:Nat):Int)>17)=false:=av (by omega);rw [e,ah,J3 n d (by omega) (by omega)];simp only [ob];cases m:d.all bp with
   | false=>
    rw [av (λh:okM d x=>by rw [(Ji d).2 h.1] at m;cases m)];rfl
   | true=>
    have a:=(Ji d).1 m;obtain ⟨c,r,rfl⟩:∃c r,d=c::r:=by
     cases d with
     | nil=>simp at w
     | cons c r=>exact ⟨c,r,rfl⟩
    have p:sx (c::r) 0=some c:=by simp [sx]
    simp only [cX,ah,p,UF];by_cases f:c=48
    ·rw [av (λh:okM (c::r) x=>h.2.2.2.1 (by rw [f];rfl)),f];rfl
    ·have e:(c==48)=false:=aW.2 f;rw [e,ah];by_cases u:x<0
     ·rw [au u,av (λh:okM (c::r) x=>by have:=h.2.2.2.2.1;omega)];rfl
     ·rw [av u,ah];by_cases v:x>16
      ·rw [au v,av (λh:okM (c::r) x=>by have:=h.2.2.2.2.2.1;omega)];rfl
      ·rw [av v,ah];obtain ⟨k,rfl⟩:∃k:Nat,x=(k:Int):=⟨x.toNat,by omega⟩;have o:=Jk n g l (c::r) k s a (by simp) (by omega) (by omega) (by omega);rw [o];have key:¬((k:Int)=0/\(c::r).length<5)->(okM (c::r) (k:Int)↔dval 0 (c::r)*10 ^ k<=E16):=by
        intro j;constructor
        ·intro h;simpa using h.2.2.2.2.2.2.2
        ·intro h;exact ⟨a,by omega,by omega,by simpa using f,by omega,by omega,j,by simpa using h⟩
       have fin:¬((k:Int)=0/\(c::r).length<5)->(ob (some (if dval 0 (c::r)*10 ^ k<=E16 then (((dval 0 (c::r)*10 ^ k:Nat):Int),(0:Int)) else (0,6))) λq=>(some (q.2==0)))=some (decide (okM (c::r) (k:Int))):=by
        intro j;by_cases i:dval 0 (c::r)*10 ^ k<=E16
        ·rw [ae i,au ((key j).2 i)];rfl
        ·rw [ab i,av (λh=>i ((key j).1 h))];rfl
       by_cases b:(k:Int)=0
       ·have e:((k:Int)==0)=true:=bQ.2 b;rw [e,aj];by_cases t:(c::r).length<5
        ·have e:decide ((((c::r).length:Nat):Int)<5)=true:=au (by omega);rw [e,av (λh:okM (c::r) (k:Int)=>h.2.2.2.2.2.2.1 ⟨b,t⟩)];rfl
        ·have e:decide ((((c::r).length:Nat):Int)<5)=false:=av (by omega);rw [e,ah];exact fin (λh=>t h.2)
       ·have e:((k:Int)==0)=false:=aW.2 b;rw [e,ah];exact fin (λh=>b h.1)
theorem N7 (n:Nat) (g l:Bool) (d:aa) (x s:Int) (c:200<n) (e:d.length<=100):
  (ob (aS n g l d x s) λr=>(cond (!r) (some (6:Int)) (cond (decide (s<0)) (some 6) (cond (decide (s>(IntKind.wrap .i64 (((d.length:Nat):Int)+x)))) (some 6) (some 0)))))=some (if okL d x s then 0 else 6):=by
 rw [QG n g l d x s c e];simp only [ob];by_cases h:okM d x
 ·rw [au h];have hx:=h.2.2.2.2;have w:IntKind.wrap .i64 (((d.length:Nat):Int)+x)=((d.length:Nat):Int)+x:=wrap_i64 _ (by omega) (by omega);rw [w];simp only [cX,ah,bL];by_cases b:s<0
  ·rw [ae b,ab (λq:okL d x s=>by have:=q.2.1;omega)]
  ·rw [ab b];by_cases a:s>((d.length:Nat):Int)+x
   ·rw [ae a,ab (λq:okL d x s=>by have:=q.2.2;omega)]
   ·rw [ab a,ae ⟨h,by omega,by omega⟩]
 ·rw [av h,ab (λq:okL d x s=>h q.1)];rfl
theorem zr (n:Nat) (g l:Bool) (d:aa) (x s:Int) (v:200<n) (A:d.length<=100):cb n g l d x s=some (if okY g l d x s then 0 else 6):=by
 obtain ⟨y,z,hy⟩:=Qq n d (by omega) (by omega);unfold cb;rw [G1 n d (by omega) (by omega),z,tG];cases l with
 | true=>
  have b:(if okY g true d x s then (0:Int) else 6)=if okL d x s then 0 else 6:=by simp only [okY,aK]
  rw [b];have st:=N7 n g true d x s v A;simp only [aj];generalize (ob (aS n g true d x s) λr=>(cond (!r) (some (6:Int)) (cond (decide (s<0)) (some 6) (cond (decide (s>(IntKind.wrap .i64 (((d.length:Nat):Int)+x)))) (some 6) (some 0)))))=T at st ⊢;simp only [ob];rw [st];cases (((d.length:Nat):Int)==4)<;>cases (d.all λc=>bp c||c==88)<;>cases (x==0)<;>cases g<;>cases (y==[])<;>cases (s != 0)<;>rfl
 | false=>
  have b:(if okY g false d x s then (0:Int) else 6)=if okS g d x s then 0 else 6:=by simp only [okY,bA,aC]
  rw [b];simp only [ah,ob];by_cases f:d.length=4
  ·have h:(((d.length:Nat):Int)==4)=true:=bQ.2 (by omega);rw [h,aj];cases k:(d.all λc=>bp c||c==88) with
   | false=>
    rw [ab (λq:okS g d x s=>by rw [(FO d).2 q.2.1] at k;cases k)];rfl
   | true=>
    have e:=(FO d).1 k;rw [aj];by_cases m:x=0
    ·subst m;have w:IntKind.wrap .i64 (((d.length:Nat):Int)+0)=4:=by rw [f];decide
     rw [w];have a:¬(g=true/\all0 d=true)->(cond (s != 0) (cond (!(!hasX d)) (some (6:Int)) (cond (decide (s<0)) (some 6) (cond (decide (s>4)) (some 6) (some 0)))) (cond (decide (s<0)) (some 6) (cond (decide (s>4)) (some 6) (some 0))))=some (if okS g d 0 s then 0 else 6):=by
      intro t;simp only [bL,An,Bool.not_not];by_cases s0:s=0
      ·subst s0;rw [ae rfl,ab (by omega),ab (by omega),ae ⟨f,e,rfl,t,by omega,by omega,by omega⟩]
      ·rw [ab s0];cases p:hasX d with
       | true=>
        by_cases j:s<0
        ·rw [ab (λq:okS g d 0 s=>by have:=q.2.2.2.2.1;omega)];rfl
        ·rw [ab (λq:okS g d 0 s=>q.2.2.2.2.2.2 ⟨by omega,p⟩)];rfl
       | false=>
        rw [ah];by_cases j:s<0
        ·rw [ae j,ab (λq:okS g d 0 s=>by have:=q.2.2.2.2.1;omega)]
        ·rw [ab j];by_cases u:s>4
         ·rw [ae u,ab (λq:okS g d 0 s=>by have:=q.2.2.2.2.2.1;omega)]
         ·rw [ab u,ae ⟨f,e,rfl,t,by omega,by omega,λq=>by rw [p] at q;cases q.2⟩]
     have i:((0:Int)==0)=true:=rfl;rw [i,aj];cases g with
     | false=>
      simp only [ah];exact a (by simp)
     | true=>
      simp only [aj];rw [hy];cases o:all0 d with
      | true=>rw [ab (λq:okS true d 0 s=>q.2.2.2.1 ⟨rfl,o⟩)];rfl
      | false=>
       simp only [iv,aj];exact a (by rw [o];simp)
    ·have i:(x==0)=false:=aW.2 m;rw [i,ab (λq:okS g d x s=>m q.2.2.1)];rfl
  ·have h:(((d.length:Nat):Int)==4)=false:=aW.2 (by omega);rw [h,ab (λq:okS g d x s=>f q.1)];rfl
theorem JJ:∀(l:aa) (acc:Nat),acc*10 ^ l.length<=dval acc l
 | [],acc=>by rw [tA];simp
 | c::l,acc=>by
  have ih:=JJ l (uD acc c);rw [nY,aM,wR];have h:acc*10<=uD acc c:=za _ _;have a:=nF (10 ^ l.length) h;have b:acc*(10 ^ l.length*10)=acc*10*10 ^ l.length:=by rw [wJ (10 ^ l.length) 10,Nat.mul_assoc]
  omega
theorem AH:∀(l:aa) (acc k:Nat),(∀c∈l,bp c=true)->acc<10 ^ k->dval acc l<10 ^ (l.length+k)
 | [],acc,k,_,h=>by rw [tA];simpa using h
 | c::l,acc,k,b,h=>by
  have hc:=(cq c).1 (b c (by simp));have hp:(10:Nat) ^ (k+1)=10 ^ k*10:=wR 10 k;have hs:uD acc c=acc*10+(c.toNat - 48):=rfl;have ih:=AH l (uD acc c) (k+1) (λd a=>b d (by simp [a])) (by omega);rw [nY,aM,show l.length+1+k=l.length+(k+1) by omega];exact ih
structure Num (d:aa) (k q:Nat):Prop where
 dig:∀c∈d,bp c=true
 ne:d≠[]
 wide:d.length+k<=17
 small:dval 0 d*10 ^ k<=E16
 sig:q<=d.length+k
theorem NL {d:aa} (h:∀c∈d,bp c=true):hasX d=false:=by
 unfold hasX;rw [s9];intro c hc a;rw [bQ] at a;have:=(cq c).1 (h c hc);rw [a] at this;exact absurd this.2 (by decide)
theorem BJ {g l:Bool} {d:aa} {x s:Int} (h:okY g l d x s) (n:hasX d=false):∃k q:Nat,x=(k:Int)/\s=(q:Int)/\Num d k q:=by
 cases l with
 | true=>
  have h:okL d x s:=by simpa [okY] using h
  obtain ⟨⟨a,f,B,j,y,C,z,v⟩,t,w⟩:=h;refine ⟨x.toNat,s.toNat,by omega,by omega,a,by intro e;subst e;simp at f,?_,v,by omega⟩;cases d with
  | nil=>simp at f
  | cons c r=>
   have hc:=(cq c).1 (a c (by simp));have m:c≠48:=by simpa using j
   have i:1<=uD 0 c:=by
    have:c.toNat≠48:=λe=>m (gZ.1 e);show 1<=0*10+(c.toNat - 48);omega
   have A:=JJ r (uD 0 c);rw [<-nY] at A;have t:10 ^ r.length<=dval 0 (c::r):=by
    have:=nF (10 ^ r.length) i;omega
   have o:=nF (10 ^ x.toNat) t;rw [<-Nat.pow_add] at o;rcases aF (r.length+x.toNat) 17 with b | p
   ·simp only [aM];omega
   ·have:=Q4 p;omega
 | false=>
  have h:okS g d x s:=by simpa [okY] using h
  obtain ⟨a,f,B,j,y,C,z⟩:=h;have u:∀c∈d,bp c=true:=by
   intro c hc;rcases f c hc with h | h
   ·exact h
   ·exfalso;unfold hasX at n;rw [s9] at n;exact n c hc (bQ.2 h)
  have b:=AH d 0 0 u (by simp);rw [a] at b;refine ⟨0,s.toNat,by omega,by omega,u,by intro e;subst e;simp at a,by omega,?_,by omega⟩;have j:(10:Nat) ^ (4+0)=10000:=by decide
  unfold E16;simp only [Nat.pow_zero,vr];omega
def val (d:aa) (k:Nat):Nat:=dval 0 d*10 ^ k
theorem AK (n:Nat) (g l:Bool) (d:aa) (x s:Int) (b:200<n) (e:d.length<=100):
  dX n g l d x s=some (if okY g l d x s/\hasX d=false then (if g then -((val d x.toNat:Nat):Int) else ((val d x.toNat:Nat):Int),0) else (0,6)):=by
 unfold dX;rw [zr n g l d x s b e,tG];simp only [ob];by_cases h:okY g l d x s
 ·rw [ae h];cases c:hasX d with
  | true=>rw [ab (by simp)];rfl
  | false=>
   rw [ae ⟨h,rfl⟩];obtain ⟨k,q,rfl,rfl,a⟩:=BJ h c;rw [Jk n g l d k q a.dig a.ne (by have:=a.wide;omega) (by have:=a.wide;omega) (by omega),ae a.small];have hs:=a.small;unfold E16 at hs;cases g with
   | true=>
    simp only [fj,ah,aj,cV,val,aK];rw [wrap_i64 _ (by omega) (by omega),Int.zero_sub]
   | false=>simp [val]
 ·rw [ab h,ab (λq=>h q.1)];rfl
theorem gj {a b:aa} (h:a.length+b.length<=1000000):cat a b=some (a++b):=by
 unfold cat;rw [ae (by omega)]
theorem VG {l:aa} {i:Nat} {c:UInt8} (h:l[i]?=some c):List.take (i+1) l=List.take i l++[c]:=by
 rw [wj,h];rfl
theorem wL {g l:Bool} {d:aa} {x s:Int} (h:okY g l d x s) (a:hasX d=true):l=false/\x=0/\s=0/\d.length=4/\∀c∈d,bp c=true\/c=88:=by
 cases l with
 | true=>
  have h:okL d x s:=by simpa [okY] using h
  rw [NL h.1.1] at a;cases a
 | false=>
  have h:okS g d x s:=by simpa [okY] using h
  obtain ⟨b,i,j,m,k,n,f⟩:=h;refine ⟨rfl,j,?_,b,i⟩;have:¬0<s:=λe=>f ⟨e,a⟩;omega
theorem ma {g l:Bool} {d:aa} {x s:Int} (h:okY g l d x s):0<=x/\x<=16/\0<=s/\s<=17/\1<=d.length/\d.length<=17:=by
 cases b:hasX d with
 | true=>
  obtain ⟨rfl,rfl,rfl,e,_⟩:=wL h b;omega
 | false=>
  obtain ⟨k,q,rfl,rfl,a⟩:=BJ h b;have f:=a.wide;have i:=a.sig;have j:1<=d.length:=by
   cases d with
   | nil=>exact absurd rfl a.ne
   | cons c r=>simp
  omega
theorem KC {g l:Bool} {d:aa} {x s:Int} (h:okY g l d x s):uo d x s=true:=by
 obtain ⟨a,e,f,c,b,i⟩:=ma h;unfold uo;rw [au (by omega),cr (by omega)];rfl
def numU (d:UInt8):aa->Nat⊕(Nat×Nat)
 | []=>.inr (d.toNat - 48,2)
 | e::_=>if bp e=true then .inr (10*(d.toNat - 48)+(e.toNat - 48),3) else .inr (d.toNat - 48,2)
def numT:aa->Nat⊕(Nat×Nat)
 | []=>.inl 1
 | d::r=>if 49<=d.toNat/\d.toNat<=57 then numU d r else .inl 1
def numS (letter:UInt8):aa->Nat⊕(Nat×Nat)
 | []=>.inr (0,0)
 | c::r=>if c=letter then numT r else .inr (0,0)
theorem uO (letter:UInt8):numS letter []=.inr (0,0):=rfl
theorem mJ (letter c:UInt8) (r:aa):numS letter (c::r)=if c=letter then numT r else .inr (0,0):=rfl
theorem zt:numT []=.inl 1:=rfl
theorem oq (d:UInt8) (r:aa):numT (d::r)=if 49<=d.toNat/\d.toNat<=57 then numU d r else .inl 1:=rfl
theorem tf (d:UInt8):numU d []=.inr (d.toNat - 48,2):=rfl
theorem mI (d e:UInt8) (r:aa):numU d (e::r)=if bp e=true then .inr (10*(d.toNat - 48)+(e.toNat - 48),3) else .inr (d.toNat - 48,2):=rfl
theorem yy (c:UInt8) (h:c.toNat<128):(Utf8.encode ((c.toNat:Nat):Int)).data.toList=[c]:=by
 have:=gN (λc=>(decide (128<=c.toNat))||(Utf8.encode ((c.toNat:Nat):Int)).data.toList==[c]) (by decide +kernel) c;simp only [gM,dl,bQ] at this;rcases this with a | a
 ·omega
 ·exact a
theorem qk {c:UInt8} (h:48<=c.toNat/\c.toNat<=57):Lib.digitVal c=some (c.toNat - 48):=by
 unfold Lib.digitVal;rw [ae h]
theorem yb {c:UInt8} (h:48<=c.toNat/\c.toNat<=57) (r:aa):Lib.atoi (c::r)=(Lib.decNat (c::r)).map λ(m:Nat)=>(m:Int):=by
 have a:(c==45)=false:=by
  rw [aW];rintro rfl;exact absurd h.1 (by decide)
 have b:(c==43)=false:=by
  rw [aW];rintro rfl;exact absurd h.1 (by decide)
 simp only [Lib.atoi,a,b,bA,aC]
theorem MV {c:UInt8} (h:48<=c.toNat/\c.toNat<=57):Lib.atoi [c]=some ((c.toNat - 48:Nat):Int):=by
 rw [yb h];simp only [Lib.decNat,List.isEmpty_cons,bA,aC,Lib.decFrom,qk h,eo,zH,cP]
theorem EJ {c e:UInt8} (h:48<=c.toNat/\c.toNat<=57) (a:48<=e.toNat/\e.toNat<=57):Lib.atoi [c,e]=some ((10*(c.toNat - 48)+(e.toNat - 48):Nat):Int):=by
 rw [yb h];simp only [Lib.decNat,List.isEmpty_cons,bA,aC,Lib.decFrom,qk h,qk a,eo,zH,cP];rw [wJ]
theorem yJ (c:UInt8):hasB [49,50,51,52,53,54,55,56,57] c=decide (49<=c.toNat/\c.toNat<=57):=by
 have:=gN (λc=>hasB [49,50,51,52,53,54,55,56,57] c==decide (49<=c.toNat/\c.toNat<=57)) (by decide +kernel) c;simpa using this
theorem ji {p q:UInt8->Bool} (h:∀c,p c=q c):∀(k:Nat) (l:aa),bq p k l=bq q k l
 | 0,_=>by simp [bq]
 | _+1,[]=>by simp [bq]
 | k+1,c::l=>by simp only [bq,h c,ji h k l]
theorem mY {S:aa} {a:Nat} {c:UInt8} {r:aa} (h:S.drop a=c::r):a<S.length/\S[a]?=some c/\S.drop (a+1)=r:=by
 have b:a<S.length:=by
  rcases aF a S.length with q | q
  ·exact q
  ·rw [iP q] at h;cases h
 have d:S[a]?=some S[a]:=bn b;have e:=bY d;rw [h] at e;injection e with h1 h2;exact ⟨b,by rw [d,h1],h2.symm⟩
theorem HW (n:Nat) (letter:UInt8) (S:aa) (a:Nat) (h:a<=S.length) (D:S.length<100000) (y:S.length<n):
  cS n [letter] S (a:Int)=some (match numS letter (S.drop a) with | .inl k=>.inr (((a+k:Nat):Int),5,S,((a+k:Nat):Int)) | .inr (v,k)=>.inl ((v:Int),S,((a+k:Nat):Int))):=by
 unfold cS;rw [l7 n [letter] S a h (by omega)];cases B:S.drop a with
 | nil=>simp [uO]
 | cons c r=>
  obtain ⟨C,E,u⟩:=mY B;rw [mJ];by_cases hc:c=letter
  ·have i:List.take [letter].length (c::r)=[letter]:=by simp [hc]
   have m:a+[letter].length=a+1:=rfl;rw [ae i,m,ae hc];clear i;simp only [ob,cX,ah];rw [yU n _ S (a+1) (by omega) (by omega),u];cases r with
   | nil=>simp [zt]
   | cons d t=>
    obtain ⟨x,A,q⟩:=mY u;rw [oq];simp only [yJ,dl];by_cases b:49<=d.toNat/\d.toNat<=57
    ·rw [ae b,ae b];simp only [];rw [uM n _ 0 1 S (a+1+1) (by omega) (by omega) y,q];have F:=kE (hasB [48,49,50,51,52,53,54,55,56,57]) (1:Int).toNat t;rw [ab (by omega)];rw [ji vL];simp only [];rw [yy d (by omega)];have j:Nat.ble ([d]:aa).length 18=true:=rfl;have s:∀e:UInt8,Nat.ble ([d,e]:aa).length 18=true:=λ_=>rfl;have p:a+1+1=a+2:=rfl;have z:a+2+1=a+3:=rfl;have w:=MV (show 48<=d.toNat/\d.toNat<=57 by omega);cases t with
     | nil=>
      have hs:bq bp (1:Int).toNat []=0:=rfl;rw [hs,tf];rw [gj (by simp)];simp only [List.take_nil,lL,cn,j,aj,w,opt,p]
     | cons e f=>
      by_cases g:bp e=true
      ·have hs:bq bp (1:Int).toNat (e::f)=1:=by
        show bq bp (0+1) (e::f)=1;simp [bq,g]
       have l:=EJ (show 48<=d.toNat/\d.toNat<=57 by omega) ((cq e).1 g);rw [hs,mI,ae g];have o:List.take 1 (e::f)=[e]:=rfl;rw [o,gj (by simp)];simp only [ep,dD,s,aj,l,opt,p,z]
      ·have hs:bq bp (1:Int).toNat (e::f)=0:=by
        show bq bp (0+1) (e::f)=0;simp [bq,g]
       rw [hs,mI,ab g];have o:List.take 0 (e::f)=[]:=rfl;rw [o,gj (by simp)];simp only [lL,j,aj,w,opt,cn,p]
    ·rw [ab b,ab b]
  ·have e:¬List.take [letter].length (c::r)=[letter]:=by simp [hc]
   rw [ab e,ab hc];simp
theorem KQ (n:Nat) (letter:UInt8) (S:aa) (a:Nat) (h:a<=S.length) (J:S.length<100000):
  af n S (a:Int) ((letter.toNat:Nat):Int)=some (match numS letter (S.drop a) with | .inl k=>(-1,((a+k:Nat):Int)) | .inr (v,k)=>((v:Int),((a+k:Nat):Int))):=by
 unfold af;rw [ku];cases s:S.drop a with
 | nil=>
  have:S.length<=a:=by
   rcases aF a S.length with q | q
   ·rw [bY (bn q)] at s;cases s
   ·exact q
  rw [au this];simp [uO]
 | cons c r=>
  obtain ⟨D,F,j⟩:=mY s;have E:IntKind.wrap .i64 ((a:Int)+1)=((a+1:Nat):Int):=by rw [wrap_i64 _ (by omega) (by omega)];omega
  have A:IntKind.wrap .i64 (((a+1:Nat):Int)+1)=((a+2:Nat):Int):=by rw [wrap_i64 _ (by omega) (by omega)];omega
  have B:IntKind.wrap .i64 (((a+2:Nat):Int)+1)=((a+3:Nat):Int):=by rw [wrap_i64 _ (by omega) (by omega)];omega
  rw [av (show ¬S.length<=a by omega),ah,ew F];simp only [ob,E,A,B,ku,ky];have m:(((c.toNat:Nat):Int) != ((letter.toNat:Nat):Int))=!(c==letter):=by rw [bne,od]
  rw [m,mJ];by_cases hc:c=letter
  ·have e:(!(c==letter))=false:=by rw [hc];simp
   rw [e,ah,ae hc];cases r with
   | nil=>
    have:S.length<=a+1:=by
     rcases aF (a+1) S.length with q | q
     ·rw [bY (bn q)] at j;cases j
     ·exact q
    rw [au this];rfl
   | cons d y=>
    obtain ⟨x,p,b⟩:=mY j;rw [oq];rw [av (show ¬S.length<=a+1 by omega),ah,ew p];simp only [];by_cases I:d.toNat<49
    ·have g:decide (((d.toNat:Nat):Int)<49)=true:=au (by omega);rw [g,aj,ab (by omega)]
    ·have g:decide (((d.toNat:Nat):Int)<49)=false:=av (by omega);rw [g,ah];by_cases H:d.toNat>57
     ·have l:decide (((d.toNat:Nat):Int)>57)=true:=au (by omega);rw [l,aj,ab (by omega)]
     ·have l:decide (((d.toNat:Nat):Int)>57)=false:=av (by omega);rw [l,ah,ae (by omega)];have C:IntKind.wrap .i64 (IntKind.wrap .u8 (((d.toNat:Nat):Int) - 48))=((d.toNat - 48:Nat):Int):=by
       rw [mr _ (by omega) (by omega),wrap_i64 _ (by omega) (by omega)];omega
      rw [C];cases y with
      | nil=>
       have:¬a+2<S.length:=by
        intro q;rw [bY (bn (show a+1+1<S.length from q))] at b;cases b
       rw [av this,tf];rfl
      | cons e K=>
       obtain ⟨f,t,_⟩:=mY b;rw [mI];rw [au (show a+2<S.length from f),aj,ew t];simp only [];by_cases u:e.toNat>=48
       ·have i:decide (((e.toNat:Nat):Int)>=48)=true:=au (by omega);rw [i,aj];by_cases w:e.toNat<=57
        ·have o:decide (((e.toNat:Nat):Int)<=57)=true:=au (by omega);have z:IntKind.wrap .i64 (IntKind.wrap .u8 (((e.toNat:Nat):Int) - 48))=((e.toNat - 48:Nat):Int):=by
          rw [mr _ (by omega) (by omega),wrap_i64 _ (by omega) (by omega)];omega
         have G:IntKind.wrap .i64 (10*((d.toNat - 48:Nat):Int))=((10*(d.toNat - 48):Nat):Int):=by rw [wrap_i64 _ (by omega) (by omega)];omega
         have ws:IntKind.wrap .i64 (((10*(d.toNat - 48):Nat):Int)+((e.toNat - 48:Nat):Int))=((10*(d.toNat - 48)+(e.toNat - 48):Nat):Int):=by rw [wrap_i64 _ (by omega) (by omega)];omega
         rw [o,aj,ae ((cq e).2 ⟨u,w⟩),z,G,ws]
        ·have o:decide (((e.toNat:Nat):Int)<=57)=false:=av (by omega);rw [o,ah,ab (λq=>w ((cq e).1 q).2)]
       ·have i:decide (((e.toNat:Nat):Int)>=48)=false:=av (by omega);rw [i,ah,ab (λq=>u ((cq e).1 q).1)]
  ·have e:(!(c==letter))=true:=by rw [aW.2 hc];rfl
   rw [e,aj,ab hc];rfl
def isDX (c:UInt8):Bool:=bp c||c==88
abbrev YR:=Bool×Bool×aa×Nat×Nat×Nat
def sK (g:Bool) (o:Nat):aa->Nat⊕YR
 | []=>.inl o
 | c::r=>if 49<=c.toNat/\c.toNat<=57 then
   (match numS 69 ((c::r).drop (1+bq bp 16 r)) with
   | .inl j=>.inl (o+(1+bq bp 16 r)+j)
   | .inr (x,j)=>(match numS 83 ((c::r).drop (1+bq bp 16 r+j)) with
    | .inl i=>.inl (o+(1+bq bp 16 r)+j+i)
    | .inr (s,i)=>.inr (g,true,(c::r).take (1+bq bp 16 r),x,s,o+(1+bq bp 16 r)+j+i)))
  else .inl o
def uu (g:Bool) (o:Nat) (l:aa):Nat⊕YR:=
 if bq isDX 4 l<4 then .inl (o+bq isDX 4 l) else
  (match numS 83 (l.drop 4) with
  | .inl i=>.inl (o+4+i)
  | .inr (s,i)=>.inr (g,false,l.take 4,0,s,o+4+i))
def eK (c:UInt8) (l:aa):Nat:=if l.take 1=[c] then 1 else 0
def o5 (l:aa):Nat⊕YR:=
 if eK 89 l=1 then sK (eK 45 (l.drop 1)==1) (1+eK 45 (l.drop 1)) (l.drop (1+eK 45 (l.drop 1)))
 else uu (eK 45 l==1) (eK 45 l) (l.drop (eK 45 l))
theorem ki (c:UInt8) (l:aa):eK c l=0\/eK c l=1:=by
 unfold eK;split
 ·exact .inr rfl
 ·exact .inl rfl
theorem Ap (c:UInt8) (l:aa):eK c l<=l.length:=by
 unfold eK;split
 ·rename_i h;cases l with
  | nil=>simp at h
  | cons a l=>simp
 ·omega
theorem sN (n:Nat) (c:UInt8) (S:aa) (a:Nat) (h:a<=S.length) (b:S.length<100000):
  aA n [c] S (a:Int)=some (eK c (S.drop a)==1,S,((a+eK c (S.drop a):Nat):Int)):=by
 rw [l7 n [c] S a h (by omega)];unfold eK;have e:[c].length=1:=rfl;rw [e];split<;>rfl
def xO (S:aa) (a:Nat):Nat⊕YR->(Int×Int×aa×Int)⊕(Bool×Bool×aa×Int×Int×aa×Int)
 | .inl k=>.inl (((a+k:Nat):Int),5,S,((a+k:Nat):Int))
 | .inr (g,l,d,x,s,k)=>.inr (g,l,d,(x:Int),(s:Int),S,((a+k:Nat):Int))
def oc (a:Nat):Nat⊕YR->Bool×Bool×aa×Int×Int×Int×Int
 | .inl k=>(false,false,[],0,0,((a+k:Nat):Int),5)
 | .inr (g,l,d,x,s,k)=>(g,l,d,(x:Int),(s:Int),((a+k:Nat):Int),0)
theorem OY (letter:UInt8) (l:aa):(match numS letter l with | .inl k=>k<=l.length | .inr (_,k)=>k<=l.length):=by
 cases l with
 | nil=>simp [uO]
 | cons c r=>
  rw [mJ];by_cases hc:c=letter
  ·rw [ae hc];cases r with
   | nil=>simp [zt]
   | cons d f=>
    rw [oq];by_cases b:49<=d.toNat/\d.toNat<=57
    ·rw [ae b];cases f with
     | nil=>simp [tf]
     | cons e g=>
      rw [mI];by_cases a:bp e=true
      ·rw [ae a];simp
      ·rw [ab a];simp
    ·rw [ab b];simp
  ·rw [ab hc];simp
theorem xX {letter:UInt8} {S:aa} {a:Nat} (h:a<=S.length) {v k:Nat} (b:numS letter (S.drop a)=.inr (v,k)):a+k<=S.length:=by
 have:=OY letter (S.drop a);rw [b,cY] at this;simp only at this;omega
theorem PG (n:Nat) (S:aa) (a o:Nat) (g:Bool) (h:a+o<=S.length) (J:S.length<100000) (D:S.length<n):
  (ob (bV n [49,50,51,52,53,54,55,56,57] S ((a+o:Nat):Int)) λA=>(Sum.casesOn (motive:=λ_=>Option ((Int×Int×aa×Int)⊕(Bool×Bool×aa×Int×Int×aa×Int))) A (λe=>(some (.inl (e.1,e.2.1,e.2.2.1,e.2.2.2)))) (λm=>(ob (bO n [48,49,50,51,52,53,54,55,56,57] 0 16 m.2.1 m.2.2) λv=>(Sum.casesOn (motive:=λ_=>Option _) v (λb=>(some (.inl (b.1,b.2.1,b.2.2.1,b.2.2.2)))) (λt=>(ob (cat (Utf8.encode m.1).data.toList t.1) λu=>(ob (cS n [69] t.2.1 t.2.2) λz=>(Sum.casesOn (motive:=λ_=>Option _) z (λl=>(ob (cS n [83] l.2.1 l.2.2) λw=>(Sum.casesOn (motive:=λ_=>Option _) w (λq=>(some (.inr (g,true,u,l.1,q.1,q.2.1,q.2.2)))) (λf=>(some (.inl (f.1,f.2.1,f.2.2.1,f.2.2.2))))))) (λd=>(some (.inl (d.1,d.2.1,d.2.2.1,d.2.2.2)))))))))))))=some (xO S a (sK g o (S.drop (a+o)))):=by
 rw [yU n _ S (a+o) h (by omega)];cases G:S.drop (a+o) with
 | nil=>simp [sK,xO,ob]
 | cons c r=>
  obtain ⟨P,T,H⟩:=mY G;simp only [yJ,dl];by_cases hc:49<=c.toNat/\c.toNat<=57
  ·rw [ae hc];simp only [ob];rw [uM n _ 0 16 S (a+o+1) (by omega) (by omega) D,H];rw [ab (by omega),ji vL];simp only [];rw [yy c (by omega)];have F:(16:Int).toNat=16:=rfl;rw [F];have M:=kE bp 16 r;have L:r.length+(a+o+1)=S.length:=by
    have:=ci List.length H;rw [cY] at this;omega
   rw [gj (by simp only [aM,dP,fZ];omega)];simp only [sK];rw [ae hc];generalize R:bq bp 16 r=k at M ⊢;have K:[c]++List.take k r=List.take (1+k) (c::r):=by rw [oN];rfl
   rw [K];have y:a+o+1+k<=S.length:=by omega
   have B:List.drop (1+k) (c::r)=S.drop (a+o+1+k):=by
    rw [<-G,iL];congr 1;omega
   rw [HW n 69 S (a+o+1+k) y J D,<-B];cases N:numS 69 (List.drop (1+k) (c::r)) with
   | inl j=>
    simp only [xO];have:a+o+1+k+j=a+(o+(1+k)+j):=by omega
    rw [this]
   | inr p=>
    obtain ⟨x,j⟩:=p;have I:=N;rw [B] at I;have E:=xX y I;have C:List.drop (1+k+j) (c::r)=S.drop (a+o+1+k+j):=by
     rw [<-G,iL];congr 1;omega
    simp only [];rw [HW n 83 S (a+o+1+k+j) E J D,<-C];cases Q:numS 83 (List.drop (1+k+j) (c::r)) with
    | inl i=>
     simp only [xO];have:a+o+1+k+j+i=a+(o+(1+k)+j+i):=by omega
     rw [this]
    | inr O=>
     obtain ⟨s,i⟩:=O;simp only [xO];have:a+o+1+k+j+i=a+(o+(1+k)+j+i):=by omega
     rw [this]
  ·rw [ab hc];simp only [ob,sK];rw [ab hc];rfl
theorem Nv (n:Nat) (S:aa) (a o:Nat) (g:Bool) (h:a+o<=S.length) (w:S.length<100000) (u:S.length<n):
  (ob (bO n [88,48,49,50,51,52,53,54,55,56,57] 4 4 S ((a+o:Nat):Int)) λm=>(Sum.casesOn (motive:=λ_=>Option ((Int×Int×aa×Int)⊕(Bool×Bool×aa×Int×Int×aa×Int))) m (λd=>(some (.inl (d.1,d.2.1,d.2.2.1,d.2.2.2)))) (λe=>(ob (cS n [83] e.2.1 e.2.2) λj=>(Sum.casesOn (motive:=λ_=>Option _) j (λf=>(some (.inr (g,false,e.1,0,f.1,f.2.1,f.2.2)))) (λb=>(some (.inl (b.1,b.2.1,b.2.2.1,b.2.2.2)))))))))=some (xO S a (uu g o (S.drop (a+o)))):=by
 rw [uM n _ 4 4 S (a+o) h (by omega) u];have t:∀c,hasB [88,48,49,50,51,52,53,54,55,56,57] c=isDX c:=t8;have y:(4:Int).toNat=4:=rfl;rw [ji t,y];unfold uu;have v:=kE isDX 4 (S.drop (a+o));rw [cY] at v;by_cases q:bq isDX 4 (S.drop (a+o))<4
 ·rw [ae (by omega),ae q];simp only [ob,xO];rw [fY]
 ·rw [ab (by omega),ab q];have r:∀(k:Nat) (l:aa),bq isDX k l<=k:=by
   intro k
   induction k with
   | zero=>intro l;simp [bq]
   | succ k ih=>
    intro l;cases l with
    | nil=>simp [bq]
    | cons c l=>
     have:=ih l;simp only [bq];split<;>omega
  have x:bq isDX 4 (S.drop (a+o))=4:=by have:=r 4 (S.drop (a+o));omega
  rw [x] at v ⊢;simp only [ob];have hp:a+o+4<=S.length:=by omega
  rw [HW n 83 S (a+o+4) hp w u,iL];cases z:numS 83 (S.drop (a+o+4)) with
  | inl i=>
   simp only [xO];have:a+o+4+i=a+(o+4+i):=by omega
   rw [this]
  | inr p=>
   obtain ⟨s,i⟩:=p;simp only [xO];have:a+o+4+i=a+(o+4+i):=by omega
   rw [this];rfl
theorem Qo (n:Nat) (S:aa) (a:Nat) (h:a<=S.length) (d:S.length<100000) (f:S.length<n):
  kI n S (a:Int)=some (xO S a (o5 (S.drop a))):=by
 unfold kI;rw [sN n 89 S a h d];have c:=Ap 89 (S.drop a);rw [cY] at c;simp only [ob];rw [sN n 45 S (a+eK 89 (S.drop a)) (by omega) d];have b:=Ap 45 (S.drop (a+eK 89 (S.drop a)));rw [cY] at b;simp only [];unfold o5;rcases ki 89 (S.drop a) with e | e
 ·rw [e] at b ⊢;simp only [cn,show ((0:Nat)==1)=false from rfl,ah,show ¬((0:Nat)=1) from by decide,aC,iL] at b ⊢;have:=Nv n S a (eK 45 (S.drop a)) (eK 45 (S.drop a)==1) (by omega) d f;exact this
 ·rw [e] at b ⊢;simp only [show ((1:Nat)==1)=true from rfl,aj,aK,iL] at b ⊢;have:=PG n S a (1+eK 45 (S.drop (a+1))) (eK 45 (S.drop (a+1))==1) (by omega) d f;rw [<-fY] at this;rw [<-fY];exact this
abbrev stR (S:aa) (a b M:Int) (g L:Bool):aa×Int×Int×Int×Bool×Bool×aa×Int×Int×Bool×Bool×aa×Int×Int:=(S,a,b,M,false,false,[],0,0,g,L,[],0,0)
def isYB (L:Bool) (c:UInt8):Bool:=bp c||(c==88&&!L)
theorem KN (n:Nat) (S:aa) (b M:Nat) (g:Bool) (k:0<M) (j:S.length<100000) (a:S[b]?=some 48):aq (ax (n+1)) (n+1) (stR S (b:Int) (b:Int) (M:Int) g true)=some (.inl ((b:Int),5,false,false,[],0,0)):=by
 have h:=A8 a;have i:decide ((b:Int)<((S.length:Nat):Int))=true:=au (by omega);have e:IntKind.wrap .i64 ((b:Int) - (b:Int))=0:=by rw [Int.sub_self];rfl
 have d2:decide ((0:Int)<(M:Int))=true:=au (by omega);have c:decide ((((48:UInt8).toNat:Nat):Int)>=48)=true:=rfl;have f:decide ((((48:UInt8).toNat:Nat):Int)<=57)=true:=rfl;have d:((((48:UInt8).toNat:Nat):Int)==48)=true:=rfl;simp only [aq,ax,i,aj,e,d2,ew a,ob,c,f,d,yp]
theorem yX (n:Nat) (S:aa) (b M:Nat) (g L:Bool) (O:b<=S.length) (P:S.length<100000) (N:S.length<n) (y:¬(L=true/\S[b]?=some 48)):
  aq (ax n) n (stR S (b:Int) (b:Int) (M:Int) g L)=some (.inr (S,((b+bq (isYB L) M (S.drop b):Nat):Int),(b:Int),false,false,[],0,0,g,L,[],0,0)):=by
 have:=gO (step:=ax n) (λx=>∃j:Nat,b+j<=S.length/\x=stR S ((b+j:Nat):Int) (b:Int) (M:Int) g L) (λx=>S.length - x.2.1.toNat)
  (λx=>.inr (S,((x.2.1.toNat+bq (isYB L) (M - (x.2.1.toNat - b)) (S.drop x.2.1.toNat):Nat):Int),(b:Int),false,false,[],0,0,g,L,[],0,0)) ?_ n (stR S (b:Int) (b:Int) (M:Int) g L) ⟨0,by omega,rfl⟩ (by simp;omega)
 ·rw [this];simp
 rintro x ⟨j,K,rfl⟩;simp only [cV];rcases aF (b+j) S.length with v | A
 ·obtain ⟨c,hc⟩:∃c,S[b+j]?=some c:=⟨S[b+j],bn v⟩;have f:decide (((b+j:Nat):Int)<((S.length:Nat):Int))=true:=au (by omega);have p:IntKind.wrap .i64 (((b+j:Nat):Int) - (b:Int))=(j:Int):=by rw [wrap_i64 _ (by omega) (by omega)];omega
  have B:IntKind.wrap .i64 (((b+j:Nat):Int)+1)=((b+(j+1):Nat):Int):=by rw [wrap_i64 _ (by omega) (by omega)];omega
  have l:b+j - b=j:=by omega
  rw [bY hc,l];by_cases Q:j<M
  ·have d2:decide ((j:Int)<(M:Int))=true:=au (by omega);obtain ⟨q,E⟩:∃q,M - j=q+1:=⟨M - j - 1,by omega⟩;have w:M - (j+1)=q:=by omega
   rw [E];simp only [bq];have C:isYB L c=true->ax n (stR S ((b+j:Nat):Int) (b:Int) (M:Int) g L)=some (.inl (stR S ((b+(j+1):Nat):Int) (b:Int) (M:Int) g L)):=by
    intro hy;by_cases r:bp c=true
    ·have F:=(cq c).1 r;have d:decide (((c.toNat:Nat):Int)>=48)=true:=au (by omega);have i:decide (((c.toNat:Nat):Int)<=57)=true:=au (by omega);simp only [ax,f,aj,p,d2,ew hc,ob,d,i,B];cases L with
     | false=>rfl
     | true=>
      by_cases z:j=0
      ·subst z;have k:c≠48:=by
        intro e;exact y ⟨rfl,by rw [<-e];exact hc⟩
       have s:(((c.toNat:Nat):Int)==48)=false:=by rw [UF];exact aW.2 k
       simp only [cn,yp,aj,s,ah]
      ·have D:(((b+j:Nat):Int)==(b:Int))=false:=aW.2 (by omega);simp only [D,ah,aj]
    ·have a:bp c=false:=by cases h:bp c with | false=>rfl | true=>exact absurd h r
     unfold isYB at hy;rw [a] at hy;simp only [pP,az,bQ,kP] at hy;obtain ⟨rfl,rfl⟩:=hy;have d:decide ((((88:UInt8).toNat:Nat):Int)>=48)=true:=rfl;have i:decide ((((88:UInt8).toNat:Nat):Int)<=57)=false:=rfl;have s:((((88:UInt8).toNat:Nat):Int)==88)=true:=rfl;simp only [ax,f,aj,p,d2,ew hc,ob,d,i,s,B,ah,iv]
   have m:isYB L c=false->ax n (stR S ((b+j:Nat):Int) (b:Int) (M:Int) g L)=some (.inr (.inr (S,((b+j:Nat):Int),(b:Int),false,false,[],0,0,g,L,[],0,0))):=by
    intro hy;unfold isYB at hy;simp only [n8,BV] at hy;obtain ⟨a,u⟩:=hy;have H:¬(48<=c.toNat/\c.toNat<=57):=λq=>by rw [(cq c).2 q] at a;cases a
    have o:(((c.toNat:Nat):Int)==88)=(c==88):=od c 88;have fin:(cond (c==88) (cond (!L) (0:Nat) 1) 1)=1:=by
     rcases u with h | h
     ·rw [h];rfl
     ·have:L=true:=by simpa using h
      rw [this];cases c==88<;>rfl
    by_cases J:c.toNat>=48
    ·have d:decide (((c.toNat:Nat):Int)>=48)=true:=au (by omega);have i:decide (((c.toNat:Nat):Int)<=57)=false:=av (by omega);simp only [ax,f,aj,p,d2,ew hc,ob,d,i,ah,o];rcases u with h | h
     ·rw [h];rfl
     ·have:L=true:=by simpa using h
      rw [this];cases c==88<;>rfl
    ·have d:decide (((c.toNat:Nat):Int)>=48)=false:=av (by omega);simp only [ax,f,aj,p,d2,ew hc,ob,d,ah,o];rcases u with h | h
     ·rw [h];rfl
     ·have:L=true:=by simpa using h
      rw [this];cases c==88<;>rfl
   cases hy:isYB L c with
   | true=>
    refine .inl ⟨_,C hy,⟨j+1,by omega,rfl⟩,by simp only [cV];omega,?_⟩;simp only [cV,aK];have G:b+(j+1) - b=j+1:=by omega
    rw [G,w,show b+(j+1)=b+j+1 by omega];have I:b+j+1+bq (isYB L) q (S.drop (b+j+1))=b+j+(bq (isYB L) q (S.drop (b+j+1))+1):=by omega
    rw [I]
   | false=>
    refine .inr ?_;rw [m hy];simp
  ·have d2:decide ((j:Int)<(M:Int))=false:=av (by omega);have t:M - j=0:=by omega
   refine .inr ?_;rw [t];simp only [ax,f,aj,p,d2,ah,bq,cn]
 ·have f:decide (((b+j:Nat):Int)<((S.length:Nat):Int))=false:=av (by omega);refine .inr ?_;rw [iP A];have t:∀q,bq (isYB L) q []=0:=λq=>by cases q<;>rfl
  simp only [ax,f,ah,t,cn]
theorem IT (n:Nat) (S:aa) (a:Nat) (h:a<=S.length) (b:S.length<100000):
  af n S (a:Int) 69=some (match numS 69 (S.drop a) with | .inl k=>(-1,((a+k:Nat):Int)) | .inr (v,k)=>((v:Int),((a+k:Nat):Int))):=KQ n 69 S a h b
theorem AM (n:Nat) (S:aa) (a:Nat) (h:a<=S.length) (b:S.length<100000):
  af n S (a:Int) 83=some (match numS 83 (S.drop a) with | .inl k=>(-1,((a+k:Nat):Int)) | .inr (v,k)=>((v:Int),((a+k:Nat):Int))):=KQ n 83 S a h b
noncomputable def J5 (n:Nat) (a0:aa) (B M:Int) (g L:Bool):Option (Bool×Bool×aa×Int×Int×Int×Int):=
 (ob (aq (ax n) n (a0,B,B,M,false,false,[],0,0,g,L,[],0,0)) λo=>(Sum.casesOn (motive:=λ_=>Option (Bool×Bool×aa×Int×Int×Int×Int)) o (λb=>(some (b.2.2.1,b.2.2.2.1,b.2.2.2.2.1,b.2.2.2.2.2.1,b.2.2.2.2.2.2,b.1,b.2.1))) (λa=>(cond (decide ((IntKind.wrap .i64 (a.2.1 - a.2.2.1))<1)) (some (false,false,[],0,0,a.2.1,5)) (cond (!a.2.2.2.2.2.2.2.2.2.1) (cond (decide ((IntKind.wrap .i64 (a.2.1 - a.2.2.1))<4)) (some (false,false,[],0,0,a.2.1,5)) (ob (bx (List.length a.1) a.2.1) λk=>(ob (bx k a.2.2.1) λm=>(cond a.2.2.2.2.2.2.2.2.2.1 (ob (af n a.1 a.2.1 69) λh=>(cond (decide (h.1<0)) (some (false,false,[],0,0,h.2,5)) (ob (af n a.1 h.2 83) λi=>(cond (decide (i.1<0)) (some (false,false,[],0,0,i.2,5)) (some (a.2.2.2.2.2.2.2.2.1,a.2.2.2.2.2.2.2.2.2.1,(List.drop m (List.take k a.1)),h.1,i.1,i.2,0)))))) (ob (af n a.1 a.2.1 83) λe=>(cond (decide (e.1<0)) (some (false,false,[],0,0,e.2,5)) (some (a.2.2.2.2.2.2.2.2.1,a.2.2.2.2.2.2.2.2.2.1,(List.drop m (List.take k a.1)),a.2.2.2.2.2.2.2.2.2.2.2.1,e.1,e.2,0)))))))) (ob (bx (List.length a.1) a.2.1) λj=>(ob (bx j a.2.2.1) λl=>(cond a.2.2.2.2.2.2.2.2.2.1 (ob (af n a.1 a.2.1 69) λf=>(cond (decide (f.1<0)) (some (false,false,[],0,0,f.2,5)) (ob (af n a.1 f.2 83) λd=>(cond (decide (d.1<0)) (some (false,false,[],0,0,d.2,5)) (some (a.2.2.2.2.2.2.2.2.1,a.2.2.2.2.2.2.2.2.2.1,(List.drop l (List.take j a.1)),f.1,d.1,d.2,0)))))) (ob (af n a.1 a.2.1 83) λc=>(cond (decide (c.1<0)) (some (false,false,[],0,0,c.2,5)) (some (a.2.2.2.2.2.2.2.2.1,a.2.2.2.2.2.2.2.2.2.1,(List.drop l (List.take j a.1)),a.2.2.2.2.2.2.2.2.2.2.2.1,c.1,c.2,0))))))))))))
theorem KG (c:UInt8):isYB true c=bp c:=by unfold isYB;cases bp c<;>simp
theorem HE (c:UInt8):isYB false c=isDX c:=by unfold isYB isDX;simp
theorem qB (p:UInt8->Bool):∀(k:Nat) (l:aa),bq p k l<=k
 | 0,l=>by simp [bq]
 | k+1,[]=>by simp [bq]
 | k+1,c::l=>by
  have:=qB p k l;simp only [bq];split<;>omega
theorem Dw:decide ((-1:Int)<0)=true:=rfl
theorem Ej (x:Nat):decide (((x:Nat):Int)<0)=false:=av (by omega)
theorem HV (n:Nat) (S:aa) (a o:Nat) (g:Bool) (h:a+o<=S.length) (z:S.length<100000) (G:S.length<n):
  J5 n S ((a+o:Nat):Int) 17 g true=some (oc a (sK g o (S.drop (a+o)))):=by
 unfold J5;cases d:S.drop (a+o) with
 | nil=>
  have t:¬(true=true/\S[a+o]?=some 48):=by
   rintro ⟨_,q⟩;rw [bY q] at d;cases d
  have l:=yX n S (a+o) 17 g true h z G t;rw [d] at l;have J:bq (isYB true) 17 []=0:=rfl;rw [J,cn] at l;have hl':aq (ax n) n (S,((a+o:Nat):Int),((a+o:Nat):Int),(17:Int),false,false,[],0,0,g,true,[],0,0)=_:=l;rw [hl'];have w:IntKind.wrap .i64 (((a+o:Nat):Int) - ((a+o:Nat):Int))=0:=by rw [Int.sub_self];rfl
  simp only [ob,w,sK,oc];rfl
 | cons c r=>
  obtain ⟨O,H,R⟩:=mY d;by_cases hc:c=48
  ·subst hc;obtain ⟨C,rfl⟩:∃q,n=q+1:=⟨n - 1,by omega⟩;have l:=KN C S (a+o) 17 g (by omega) z H;have hl':aq (ax (C+1)) (C+1) (S,((a+o:Nat):Int),((a+o:Nat):Int),(17:Int),false,false,[],0,0,g,true,[],0,0)=_:=l;rw [hl'];have u:¬(49<=(48:UInt8).toNat/\(48:UInt8).toNat<=57):=by decide
   simp only [ob,sK,oc];rw [ab u]
  ·have u:¬(true=true/\S[a+o]?=some 48):=by
    rintro ⟨_,q⟩;rw [H] at q;exact hc (by simpa using q)
   have l:=yX n S (a+o) 17 g true h z G u;rw [d,ji KG] at l;have I:=kE bp 17 (c::r);have K:(c::r).length+(a+o)=S.length:=by
    have:=ci List.length d;rw [cY] at this;omega
   have hl':aq (ax n) n (S,((a+o:Nat):Int),((a+o:Nat):Int),(17:Int),false,false,[],0,0,g,true,[],0,0)=_:=l;rw [hl'];have w:∀k:Nat,k<=17->IntKind.wrap .i64 (((a+o+k:Nat):Int) - ((a+o:Nat):Int))=(k:Int):=by
    intro k E;rw [wrap_i64 _ (by omega) (by omega)];omega
   by_cases f:bp c=true
   ·have Q:=(cq c).1 f;have m:49<=c.toNat/\c.toNat<=57:=by
     have:c.toNat≠48:=λe=>hc (gZ.1 e);omega
    have b:bq bp 17 (c::r)=1+bq bp 16 r:=by
     show bq bp (16+1) (c::r)=_;simp only [bq,f,aK];omega
    rw [b] at I ⊢;have v:=qB bp 16 r;simp only [sK];rw [ae m];generalize bq bp 16 r=k at I v ⊢;have L:decide (((1+k:Nat):Int)<1)=false:=av (by omega);simp only [ob,w (1+k) (by omega),L,ah,cX,aj,fQ (show a+o+(1+k)<=S.length by omega),fQ (show a+o<=a+o+(1+k) by omega)];have y:a+o+(1+k)<=S.length:=by omega
    have A:S.drop (a+o+(1+k))=List.drop (1+k) (c::r):=by rw [<-d,iL]
    rw [IT n S (a+o+(1+k)) y z,A,oM,d];cases M:numS 69 (List.drop (1+k) (c::r)) with
    | inl j=>
     simp only [Dw,aj,oc];have:a+o+(1+k)+j=a+(o+(1+k)+j):=by omega
     rw [this]
    | inr p=>
     obtain ⟨x,j⟩:=p;have F:=M;rw [<-A] at F;have D:=xX y F;have B:S.drop (a+o+(1+k)+j)=List.drop (1+k+j) (c::r):=by rw [<-d,iL];congr 1;omega
     simp only [Ej,ah];rw [AM n S (a+o+(1+k)+j) D z,B];cases P:numS 83 (List.drop (1+k+j) (c::r)) with
     | inl i=>
      simp only [Dw,aj,oc];have:a+o+(1+k)+j+i=a+(o+(1+k)+j+i):=by omega
      rw [this]
     | inr N=>
      obtain ⟨s,i⟩:=N;simp only [Ej,ah,oc];have:a+o+(1+k)+j+i=a+(o+(1+k)+j+i):=by omega
      rw [this]
   ·have b:bq bp 17 (c::r)=0:=by
     show bq bp (16+1) (c::r)=0;simp only [bq];rw [ab f]
    have m:¬(49<=c.toNat/\c.toNat<=57):=λq=>f ((cq c).2 (by omega));rw [b];simp only [sK];rw [ab m];simp only [ob,w 0 (by omega),oc];rfl
theorem Ho (n:Nat) (S:aa) (a o:Nat) (g:Bool) (h:a+o<=S.length) (j:S.length<100000) (r:S.length<n):
  J5 n S ((a+o:Nat):Int) 4 g false=some (oc a (uu g o (S.drop (a+o)))):=by
 unfold J5;have f:=yX n S (a+o) 4 g false h j r (by rintro ⟨q,_⟩;cases q);rw [ji HE] at f;have m:=kE isDX 4 (S.drop (a+o));have b:=qB isDX 4 (S.drop (a+o));rw [cY] at m;have hl':aq (ax n) n (S,((a+o:Nat):Int),((a+o:Nat):Int),(4:Int),false,false,[],0,0,g,false,[],0,0)=_:=f;rw [hl'];unfold uu;generalize t:bq isDX 4 (S.drop (a+o))=k at m b ⊢;have w:IntKind.wrap .i64 (((a+o+k:Nat):Int) - ((a+o:Nat):Int))=(k:Int):=by rw [wrap_i64 _ (by omega) (by omega)];omega
 simp only [ob,w,iv,aj,ah];by_cases l:k<4
 ·rw [ae l];have c:decide ((k:Int)<4)=true:=au (by omega);rw [c];have d:a+o+k=a+(o+k):=by omega
  simp only [aj,oc,d];cases decide ((k:Int)<1)<;>rfl
 ·rw [ab l];have e:k=4:=by omega
  subst e;have c:decide (((4:Nat):Int)<4)=false:=rfl;have d:decide (((4:Nat):Int)<1)=false:=rfl;have hp:a+o+4<=S.length:=by omega
  simp only [c,d,ah,fQ hp,fQ (show a+o<=a+o+4 by omega)];rw [AM n S (a+o+4) hp j,oM,iL];cases u:numS 83 (S.drop (a+o+4)) with
  | inl i=>
   simp only [Dw,aj,oc];have:a+o+4+i=a+(o+4+i):=by omega
   rw [this]
  | inr p=>
   obtain ⟨s,i⟩:=p;simp only [Ej,ah,oc];have:a+o+4+i=a+(o+4+i):=by omega
   rw [this];rfl
theorem jn (c a:UInt8) (l:aa):eK c (a::l)=if a=c then 1 else 0:=by
 unfold eK;simp
theorem wx (c:UInt8):eK c []=0:=by unfold eK;simp
theorem MA (n:Nat) (S:aa) (a:Nat) (h:a<=S.length) (F:S.length<100000) (E:S.length<n):
  jO n S (a:Int)=some (oc a (o5 (S.drop a))):=by
 have A:=λo g q=>HV n S a o g q F E;have y:=λo g q=>Ho n S a o g q F E;unfold J5 at A y;have H:IntKind.wrap .i64 ((a:Int)+1)=((a+1:Nat):Int):=by rw [wrap_i64 _ (by omega) (by omega)];omega
 have G:IntKind.wrap .i64 (((a+1:Nat):Int)+1)=((a+2:Nat):Int):=by rw [wrap_i64 _ (by omega) (by omega)];omega
 unfold jO o5;rw [H,G];have x:=y 0 false (by omega);simp only [cn] at x;cases u:S.drop a with
 | nil=>
  have k:¬a<S.length:=by
   intro q;rw [bY (bn q)] at u;cases u
  rw [ky,av k,ah,ah,x,u];rfl
 | cons c r=>
  obtain ⟨C,I,i⟩:=mY u;have p:(((c.toNat:Nat):Int)==89)=(c==89):=od c 89;have m:(((c.toNat:Nat):Int)==45)=(c==45):=od c 45;rw [ky,au C,aj,ew I];simp only [ob];rw [p,m,jn];by_cases f:c=89
  ·have e:(c==89)=true:=bQ.2 f;rw [e,aj,ae f,ae rfl,ky];have z:List.drop 1 (c::r)=r:=rfl;rw [z];have w:=A 1 false (by omega);cases t:r with
   | nil=>
    rw [t] at i;have k:¬a+1<S.length:=by
     intro q;rw [bY (bn q)] at i;cases i
    simp only [ob] at w;rw [av k,ah,w,i,wx];rfl
   | cons d J=>
    rw [t] at i;obtain ⟨v,B,D⟩:=mY i;have l:(((d.toNat:Nat):Int)==45)=(d==45):=od d 45;rw [au v,aj,ew B];simp only [];rw [l,jn];by_cases b:d=45
    ·have j:(d==45)=true:=bQ.2 b;have s:=A 2 true (by omega);simp only [ob] at s;rw [j,aj,ae b,s];rw [show a+2=a+1+1 from rfl,D];rfl
    ·have j:(d==45)=false:=aW.2 b;simp only [ob] at w;rw [j,ah,ab b,w,i];rfl
  ·have e:(c==89)=false:=aW.2 f;rw [e,ah,ab f,ab (by decide),jn];by_cases b:c=45
   ·have j:(c==45)=true:=bQ.2 b;have s:=y 1 true (by omega);simp only [ob] at s;rw [j,ae b];simp only [aj];rw [s,i];rfl
   ·have j:(c==45)=false:=aW.2 b;simp only [ob] at x;rw [j,ab b];simp only [ah];rw [x,u];rfl
def wint (c:Int):Bool:=c==24||c==28||c==30
def Dc (g:Bool) (d:aa) (x:Int):Bool:=!hasX d&&!g&&decide (val d x.toNat=E16)
def yrB (g:Bool) (d:aa) (x s:Int) (m:aa):Bool:=!(decide (0<s)&&!(m==[]))&&!(wint (sea m)&&Dc g d x)
theorem A9 (n:Nat) (s:200<n) (g l:Bool) (dg:aa) (x q:Int) (m d:aa) (k0 k1 k2:Int) (A:m.length<=18) (t:dg.length<=100):
  fb n g l dg x q m d k0 k1 k2=some (if okY g l dg x q then yrB g dg x q m else false):=by
 unfold fb;rw [zr n g l dg x q s t,ow n g l dg x q m d k0 k1 k2 A,tG,AK n g l dg x q s t];by_cases h:okY g l dg x q
 rotate_left
 ·rw [ab h,ab h];rfl
 rw [ae h,ae h];have body:(ob (some (sea m,decide (0<sea m))) λr=>(cond (!r.2) (some true) (ob (some (hasX dg)) λB=>(cond B (some true) (ob (some (if okY g l dg x q/\hasX dg=false then (if g then -((val dg x.toNat:Nat):Int) else ((val dg x.toNat:Nat):Int),(0:Int)) else (0,6))) λv=>(ob (gz n v.1 r.1) λC=>(some (C.2.2.2.2==0))))))))=some (!(wint (sea m)&&Dc g dg x)):=by
  rcases n7 m with u | ⟨j,p,rfl⟩
  ·rw [u];rfl
  ·have hs:=mS p;rw [hs];have hp:decide (0<((21+j:Nat):Int))=true:=by simp;omega
   rw [hp];cases o:hasX dg with
   | true=>
    have:Dc g dg x=false:=by unfold Dc;rw [o];rfl
    rw [this,xT];rfl
   | false=>
    rw [ae ⟨h,rfl⟩];obtain ⟨k,G,rfl,rfl,F⟩:=BJ h o;have E:val dg k<=E16:=F.small;unfold E16 at E;have hc:dI (if g then -((val dg k:Nat):Int) else ((val dg k:Nat):Int)):=by
     unfold dI;cases g<;>simp<;>omega
    obtain ⟨a,b,c,e,y⟩:=S4 n (by omega) hc p;simp only [ob,cX,ah,cV];rw [y];simp only [ak];have D:wint ((21+j:Nat):Int)=decide (j=3\/j=7\/j=9):=by
     unfold wint;rw [xh];simp only [gM,bQ,dl];omega
    have w:Dc g dg (k:Int)=decide ((if g then -((val dg k:Nat):Int) else ((val dg k:Nat):Int))=10000000000000000):=by
     unfold Dc E16;rw [o,cV];cases g
     ·simp only [iv,qo,bA,aC,nI];omega
     ·simp;omega
    rw [D,w];by_cases f:(if g then -((val dg k:Nat):Int) else ((val dg k:Nat):Int))=10000000000000000<;>by_cases i:j=3\/j=7\/j=9
    ·rw [ae ⟨f,i⟩,au f,au i];rfl
    ·rw [ab (λz=>i z.2),av i];rfl
    ·rw [ab (λz=>f z.1),av f,xT];rfl
    ·rw [ab (λz=>f z.1),av f,xT];rfl
 show cond (decide (q>0)) (cond (!(m==[])) (some false) _) _=_;unfold yrB;rw [show (decide (q>0))=decide (0<q) from rfl];cases decide (0<q) with
 | false=>exact body
 | true=>
  cases (m==[]) with
  | false=>rfl
  | true=>exact body
def ei (m d:aa):Nat:=1+(if m==[] then 0 else 1)+(if d==[] then 0 else 1)
theorem oS (n:Nat) (e:100<n) (g l:Bool) (dg:aa) (x q:Int) (m d:aa) (k0 k1 k2:Int):aV n g l dg x q m d k0 k1 k2=some ((ei m d:Nat):Int):=by
 obtain ⟨n,rfl⟩:∃j,n=j+3:=⟨n - 3,by omega⟩;unfold aV ei;have s0:∀a:Int,bN (n+3) (a,m,d,0)=some (.inl (if m==[] then a else IntKind.wrap .i64 (a+1),m,d,1)):=λa=>by
  unfold bN;show cond (!(m==[])) _ _=_;cases (m==[])<;>rfl
 have b:∀a:Int,bN (n+3) (a,m,d,1)=some (.inl (if d==[] then a else IntKind.wrap .i64 (a+1),m,d,2)):=λa=>by
  unfold bN;show cond (!(d==[])) _ _=_;cases (d==[])<;>rfl
 have c:∀a:Int,bN (n+3) (a,m,d,2)=some (.inr a):=λa=>rfl;rw [aq,s0];show ob (aq _ (n+2) _) _=_;rw [aq,b];show ob (aq _ (n+1) _) _=_;rw [aq,c];cases (m==[])<;>cases (d==[])<;>rfl
def allM (a b c:Int) (k:Nat):Int:=if 3<a\/3<b\/3<c\/(k<2/\b≠0)\/(k<3/\c≠0) then 9 else 0
theorem KJ (n:Nat) (t:3<n) (a b c:Int) (k:Nat) (u:1<=k/\k<=3) (w:0<=a) (v:0<=b) (hc:0<=c):
  dq n [a,b,c] (k:Int)=some (allM a b c k)/\bI n [a,b,c] (k:Int)=some (allM a b c k):=by
 obtain ⟨j,rfl⟩:∃j,n=j+4:=⟨n - 4,by omega⟩;have e:IntKind.wrap .i64 1=1:=rfl;have h:IntKind.wrap .i64 2=2:=rfl;have l:IntKind.wrap .i64 3=3:=rfl;have i:ix 3 0=some 0:=rfl;have m:ix 3 1=some 1:=rfl;have g:ix 3 2=some 2:=rfl;have hk':k=1\/k=2\/k=3:=by omega
 unfold allM;by_cases f:a>3
 ·rcases hk' with rfl | rfl | rfl<;>constructor<;>simp [bI,dq,aq,dh,gi,gD,ob,e,h,l,i,m,g,f]
 by_cases p:b>3
 ·rcases hk' with rfl | rfl | rfl<;>constructor<;>simp [bI,dq,aq,dh,gi,gD,ob,e,h,l,i,m,g,f,p]
 by_cases d:k=1/\b≠0
 ·obtain ⟨rfl,d⟩:=d;have q:b>0:=by omega
  have r:(b != 0)=true:=by simp [d]
  constructor<;>simp [bI,dq,aq,dh,gi,gD,ob,e,h,l,i,m,g,f,p,q,d,r]
 by_cases s:c>3
 ·rcases hk' with rfl | rfl | rfl<;>(try (simp at d;subst d))<;>constructor<;>simp [bI,dq,aq,dh,gi,gD,ob,e,h,l,i,m,g,f,p,s]
 by_cases o:k<3/\c≠0
 ·have q:c>0:=by omega
  have r:(c != 0)=true:=by simp [o.2]
  rcases hk' with rfl | rfl | rfl<;>(try (simp at d;subst d))<;>simp at o<;>constructor<;>simp [bI,dq,aq,dh,gi,gD,ob,e,h,l,i,m,g,f,p,s,q,o,r]
 rcases hk' with rfl | rfl | rfl<;>(try (simp at d;subst d))<;>(try (simp at o;subst o))<;>constructor<;>simp [bI,dq,aq,dh,gi,gD,ob,e,h,l,i,m,g,f,p,s]
theorem ql (m d:aa):1<=ei m d/\ei m d<=3:=by
 unfold ei;cases (m==[])<;>cases (d==[])<;>simp
def yrD (g l:Bool) (dg:aa) (x q:Int) (m:aa):Bool:=if okY g l dg x q then yrB g dg x q m else false
def chkD (g l:Bool) (dg:aa) (x q:Int) (m d:aa) (k0 k1 k2:Int):Int:=
 cond (!(yrD g l dg x q m)) 6 (cond (!(m==[])&&(!(decide (0<sea m))&&!(ju m 12))) 7
  (cond (!(d==[])&&((m==[])||(decide (0<sea m)||!(ju d 31)))) 8 (allM k0 k1 k2 (ei m d))))
theorem Uc (m:aa):0<=sea m:=by
 rcases n7 m with h | ⟨j,a,rfl⟩
 ·omega
 ·rw [mS a];omega
theorem zE (n:Nat) (h:200<n) (g l:Bool) (dg:aa) (x q:Int) (m d:aa) (k0 k1 k2:Int) (a:m.length<=18) (j:dg.length<=100) (b:0<=k0) (e:0<=k1) (i:0<=k2):
  ig n g l dg x q m d k0 k1 k2=some (chkD g l dg x q m d k0 k1 k2):=by
 have hy:fb n g l dg x q m d k0 k1 k2=some (yrD g l dg x q m):=A9 n h g l dg x q m d k0 k1 k2 a j;have a1:cR n m 12=some (ju m 12):=BI n (by omega) m 12 (by omega);have a2:cR n d 31=some (ju d 31):=BI n (by omega) d 31 (by omega);have k:=(KJ n (by omega) k0 k1 k2 (ei m d) (ql m d) b e i).1;unfold ig chkD;rw [ow n g l dg x q m d k0 k1 k2 a,hy,a1,a2,oS n (by omega)];simp only [ob];rw [k];generalize yrD g l dg x q m=b1;generalize (m==[])=b2;generalize decide (0<sea m)=f;generalize ju m 12=c;generalize (d==[])=p;generalize ju d 31=o;cases b1<;>cases b2<;>cases f<;>cases c<;>cases p<;>cases o<;>rfl
theorem IC {g l:Bool} {dg:aa} {x q:Int} {m d:aa} {k0 k1 k2:Int} (h:chkD g l dg x q m d k0 k1 k2=0):yrD g l dg x q m=true/\(m=[]\/0<sea m\/ju m 12=true)/\(d=[]\/(m≠[]/\sea m=0/\ju d 31=true))/\allM k0 k1 k2 (ei m d)=0:=by
 have hs:=Uc m;unfold chkD at h;cases b1:yrD g l dg x q m with
 | false=>rw [b1] at h;exact absurd h (by simp)
 | true=>
  rw [b1] at h;simp only [cX,ah] at h;cases b2:(!(m==[])&&(!(decide (0<sea m))&&!(ju m 12))) with
  | true=>rw [b2] at h;exact absurd h (by simp)
  | false=>
   rw [b2] at h;simp only [ah] at h;cases c:(!(d==[])&&((m==[])||(decide (0<sea m)||!(ju d 31)))) with
   | true=>rw [c] at h;exact absurd h (by simp)
   | false=>
    rw [c] at h;simp only [ah] at h;refine ⟨rfl,?_,?_,h⟩
    ·by_cases b:m=[]
     ·exact .inl b
     ·by_cases a:0<sea m
      ·exact .inr (.inl a)
      ·simp [b,a] at b2;exact .inr (.inr b2)
    ·by_cases b:d=[]
     ·exact .inl b
     ·by_cases a:m=[]
      ·simp [b,a] at c
      ·by_cases e:0<sea m
       ·simp [b,a,e] at c
       ·simp [b,a,e] at c;exact .inr ⟨a,by omega,c⟩
theorem rz {s:aa} {g:Nat} (m:g<=31) (h:ju s g=true):s.length=2/\∀c∈s,isDX c=true:=by
 unfold ju at h;obtain ⟨i,f,hi⟩:=uz.1 h;have e:i<g:=kj.1 f;have dig:∀k:Nat,k<10->isDX (UInt8.ofNat (48+k))=true:=by decide
 have d:isDX 88=true:=by decide
 match s,hi with
 | [],hi=>simp [agr] at hi
 | [_],hi=>simp [agr] at hi
 | [a,b],hi=>
  refine ⟨rfl,?_⟩;simp only [agr,az,gM,bQ] at hi;obtain ⟨j,l⟩:=hi;intro c hc;simp only [cf,nD,o7] at hc;rcases hc with rfl | rfl
  ·rcases j with rfl | rfl
   ·exact d
   ·exact dig _ (by omega)
  ·rcases l with rfl | rfl
   ·exact d
   ·exact dig _ (by omega)
 | _::_::_::_,hi=>simp [agr] at hi
theorem Ic {m:aa} (h:0<sea m):m.length=2/\∀c∈m,isDX c=true:=by
 rcases n7 m with b | ⟨j,a,rfl⟩
 ·omega
 ·refine ⟨rfl,?_⟩;have:((List.range 21).all λj=>(two (21+j)).all isDX)=true:=by decide +kernel
  have:=(co.1 this) j (by simpa using a);exact co.1 this
def mt (k:Nat):aa:=if k=1 then [63] else if k=2 then [126] else if k=3 then [37] else []
def mkOf (c:UInt8):Nat:=if c=63 then 1 else if c=126 then 2 else if c=37 then 3 else 0
def Tf (k a b c:Nat):Bool:=(decide (k<2)||b==a)&&(decide (k<3)||c==a)
def plA (k a b c:Nat):Nat×Nat×Nat:=if Tf k a b c then (0,0,0) else (a,b,c)
def plB (k a b c:Nat):Nat×Nat×Nat:=if Tf k a b c then (if k=1 then (a,0,0) else if k=2 then (0,a,0) else (0,0,a)) else (0,0,0)
def l3 (p:Nat×Nat×Nat):List Int:=[(p.1:Int),(p.2.1:Int),(p.2.2:Int)]
def spM (A B:Nat×Nat×Nat):Nat×Nat×Nat:=(A.1 ||| B.1 ||| B.2.1 ||| B.2.2,A.2.1 ||| B.2.1 ||| B.2.2,A.2.2 ||| B.2.2)
theorem S1 (n k:Nat) (h:k<4):qU n (k:Int)=some (mt k,0)/\mG n (k:Int)=some (mt k):=by
 have:k=0\/k=1\/k=2\/k=3:=by omega
 rcases this with rfl | rfl | rfl | rfl<;>exact ⟨rfl,rfl⟩
noncomputable def Ui (m j:Nat):Bool:=
 (pt (m+300) (j:Int)==some (((mkOf (UInt8.ofNat j):Nat):Int),decide (0<mkOf (UInt8.ofNat j))))&&(dr (m+300) (j:Int)==some ((mkOf (UInt8.ofNat j):Nat):Int))
theorem Ni (m:Nat):(List.range 256).all (Ui m)=true:=by kernel_rfl
theorem C5 (m:Nat) (c:UInt8):pt (m+300) ((c.toNat:Nat):Int)=some (((mkOf c:Nat):Int),decide (0<mkOf c))/\dr (m+300) ((c.toNat:Nat):Int)=some ((mkOf c:Nat):Int):=by
 have h:=(co.1 (Ni m)) c.toNat (kj.2 c.toNat_lt);unfold Ui at h;rw [show UInt8.ofNat c.toNat=c by simp] at h;simp only [az,bQ] at h;exact h
noncomputable def K0 (m k a b c:Nat):Bool:=
 (pA (m+300) [(a:Int),(b:Int),(c:Int)] (k:Int)==some (l3 (plA k a b c),l3 (plB k a b c),0))&&(pG (m+300) [(a:Int),(b:Int),(c:Int)] (k:Int)==some (l3 (plA k a b c),l3 (plB k a b c)))
theorem Rt (m:Nat):((List.range 4).all λa=>K0 m 1 a 0 0)=true:=by kernel_rfl
theorem S8 (m:Nat):((List.range 4).all λa=>(List.range 4).all λb=>K0 m 2 a b 0)=true:=by kernel_rfl
theorem Su (m:Nat):((List.range 4).all λa=>(List.range 4).all λb=>(List.range 4).all λc=>K0 m 3 a b c)=true:=by kernel_rfl
theorem r4 {p:Nat->Bool} (h:(List.range 4).all p=true) {a:Nat} (b:a<4):p a=true:=(co.1 h) a (kj.2 b)
theorem Vs (m k a b c:Nat) (i:1<=k/\k<=3) (d:a<4) (f:b<4) (hc:c<4) (g:k<2->b=0) (e:k<3->c=0):
  pA (m+300) [(a:Int),(b:Int),(c:Int)] (k:Int)=some (l3 (plA k a b c),l3 (plB k a b c),0)/\pG (m+300) [(a:Int),(b:Int),(c:Int)] (k:Int)=some (l3 (plA k a b c),l3 (plB k a b c)):=by
 have h:K0 m k a b c=true:=by
  have:k=1\/k=2\/k=3:=by omega
  rcases this with rfl | rfl | rfl
  ·rw [g (by omega),e (by omega)];exact r4 (Rt m) d
  ·rw [e (by omega)];exact r4 (r4 (S8 m) d) f
  ·exact r4 (r4 (r4 (Su m) d) f) hc
 unfold K0 at h;simp only [az,bQ] at h;exact h
theorem UD {k a b c:Nat} (d:a<4) (e:b<4) (hc:c<4):(plA k a b c).1<4/\(plA k a b c).2.1<4/\(plA k a b c).2.2<4/\(plB k a b c).1<4/\(plB k a b c).2.1<4/\(plB k a b c).2.2<4:=by
 unfold plA plB;split
 ·split
  ·simp [d]
  ·split<;>simp [d]
 ·simp [d,e,hc]
def inM (k:Nat) (A:Nat×Nat×Nat):Prop:=A.1<4/\A.2.1<4/\A.2.2<4/\(k<2->A.2.1=0)/\(k<3->A.2.2=0)
theorem Aw {k:Nat} {A:Nat×Nat×Nat} (h:inM k A):allM (A.1:Int) (A.2.1:Int) (A.2.2:Int) k=0:=by
 obtain ⟨a,b,d,e,c⟩:=h;unfold allM;rw [ab (by omega)]
theorem or4 {a b:Nat} (c:a<4) (d:b<4):bits .or .u8 (a:Int) (b:Int)=((a ||| b:Nat):Int)/\a ||| b<4:=by
 have:((List.range 4).all λa=>(List.range 4).all λb=>bits .or .u8 (a:Int) (b:Int)==((a ||| b:Nat):Int)&&decide (a ||| b<4))=true:=by decide +kernel
 have:=r4 (r4 this c) d;simpa using this
theorem vB (n:Nat) (w:9<n) (k:Nat) (A B:Nat×Nat×Nat) (t:1<=k/\k<=3) (l:inM k A) (r:inM k B):dW n (l3 A) (l3 B) (k:Int)=some (l3 (spM A B),0):=by
 obtain ⟨n,rfl⟩:∃j,n=j+5:=⟨n - 5,by omega⟩;have s:=(KJ (n+5) (by omega) (A.1:Int) (A.2.1:Int) (A.2.2:Int) k t (by omega) (by omega) (by omega)).1;have p:=(KJ (n+5) (by omega) (B.1:Int) (B.2.1:Int) (B.2.2:Int) k t (by omega) (by omega) (by omega)).1;rw [Aw l] at s;rw [Aw r] at p;have i:∀x:Nat,x<4->bits .or .u8 0 (x:Int)=(x:Int):=λx hx=>by
  have:=(or4 (show 0<4 by omega) hx).1;simpa using this
 have a:∀x y:Nat,x<4->y<4->bits .or .u8 (x:Int) (y:Int)=((x ||| y:Nat):Int):=λx y hx hy=>(or4 hx hy).1;have e:∀x y:Nat,x<4->y<4->x ||| y<4:=λx y hx hy=>(or4 hx hy).2;unfold dW;show ob (dq (n+5) [(A.1:Int),(A.2.1:Int),(A.2.2:Int)] (k:Int)) _=_;rw [s];show ob (dq (n+5) [(B.1:Int),(B.2.1:Int),(B.2.2:Int)] (k:Int)) _=_;rw [p];obtain ⟨a0,a1,a2⟩:=A;obtain ⟨b0,b1,b2⟩:=B;obtain ⟨g0,f,m,q,h⟩:=l;obtain ⟨d,b,c,o,g⟩:=r;simp only at g0 f m q h d b c o g;have hk':k=1\/k=2\/k=3:=by omega
 rcases hk' with rfl | rfl | rfl
 ·obtain rfl:=q (by omega);obtain rfl:=h (by omega);obtain rfl:=o (by omega);obtain rfl:=g (by omega);show some (([bits .or .u8 (a0:Int) (bits .or .u8 0 (b0:Int)),0,0]:List Int),(0:Int))=_;rw [i b0 d,a _ _ g0 d];simp [l3,spM]
 ·obtain rfl:=h (by omega);obtain rfl:=g (by omega);show some (([bits .or .u8 (a0:Int) (bits .or .u8 (bits .or .u8 0 (b1:Int)) (b0:Int)),bits .or .u8 (a1:Int) (bits .or .u8 0 (b1:Int)),0]:List Int),(0:Int))=_;rw [i b1 b,a _ _ b d,a _ _ g0 (e _ _ b d),a _ _ f b];simp [l3,spM,xn,Aa b1 b0]
 ·show some (([bits .or .u8 (a0:Int) (bits .or .u8 (bits .or .u8 (bits .or .u8 0 (b2:Int)) (b1:Int)) (b0:Int)),bits .or .u8 (a1:Int) (bits .or .u8 (bits .or .u8 0 (b2:Int)) (b1:Int)),bits .or .u8 (a2:Int) (bits .or .u8 0 (b2:Int))]:List Int),(0:Int))=_;rw [i b2 c,a _ _ c b,a _ _ (e _ _ c b) d,a _ _ g0 (e _ _ (e _ _ c b) d),a _ _ f (e _ _ c b),a _ _ m c];have u:a0 ||| (b2 ||| b1 ||| b0)=a0 ||| b0 ||| b1 ||| b2:=by rw [Aa (b2 ||| b1) b0,Aa b2 b1];simp only [xn]
  have v:a1 ||| (b2 ||| b1)=a1 ||| b1 ||| b2:=by rw [Aa b2 b1];simp only [xn]
  rw [u,v];rfl
abbrev cI (x:Nat):Int:=(x:Int)
def bt (b a:Nat):Nat:=if b=1 then a%2 else a / 2%2
theorem ON (n:Nat) {a b:Nat} (d:a<4) (c:b=1\/b=2):gU n (a:Int) (b:Int)=some ((bt b a:Nat):Int):=by
 have h:a=0\/a=1\/a=2\/a=3:=by omega
 rcases h with rfl | rfl | rfl | rfl<;>rcases c with rfl | rfl<;>rfl
theorem Pn (b a:Nat):bt b a<=1:=by unfold bt;split<;>omega
def bts (b:Nat):List Nat->Nat
 | []=>0
 | x::l=>bt b x+bts b l
theorem Wj (n k b i:Nat) (o:b=1\/b=2) (t:k<=3) (A X Y:List Int) (a:List Nat) (q:a.length=3) (m:∀x∈a,x<4):∀(r j acc:Nat),j+r=k->acc<=j+1->∀N,r<N->
  aq (bS n) N ((k:Int),(b:Int),(i:Int),(acc:Int),(j:Int),A,a.map cI,X,Y)=some ((k:Int),(b:Int),(i:Int),((acc+bts b ((a.take k).drop j):Nat):Int),A,a.map cI,X,Y):=by
 intro r
 induction r with
 | zero=>
  intro j acc h c N p;obtain ⟨N,rfl⟩:∃k,N=k+1:=⟨N - 1,by omega⟩;have s:bS n ((k:Int),(b:Int),(i:Int),(acc:Int),(j:Int),A,a.map cI,X,Y)=some (.inr ((k:Int),(b:Int),(i:Int),(acc:Int),A,a.map cI,X,Y)):=by
   unfold bS;rw [bL,ab (show ¬((j:Int)<(k:Int)) by omega)]
  have e:(a.take k).drop j=[]:=iP (by rw [fZ];omega);rw [aq,s,e];rfl
 | succ r ih=>
  intro j acc h c N p;obtain ⟨N,rfl⟩:∃k,N=k+1:=⟨N - 1,by omega⟩;have g:j<a.length:=by omega
  obtain ⟨x,hx⟩:∃x,a[j]?=some x:=⟨a[j],bn g⟩;have f:(a.map cI)[j]?=some (x:Int):=by rw [lG,hx];rfl
  have d:=m x (f7 hx);have w:IntKind.wrap .i64 ((acc:Int)+((bt b x:Nat):Int))=((acc+bt b x:Nat):Int):=by have:=Pn b x;rw [wrap_i64 _ (by omega) (by omega)];omega
  have l:IntKind.wrap .i64 ((j:Int)+1)=((j+1:Nat):Int):=by rw [wrap_i64 _ (by omega) (by omega)];omega
  have s:bS n ((k:Int),(b:Int),(i:Int),(acc:Int),(j:Int),A,a.map cI,X,Y)=some (.inl ((k:Int),(b:Int),(i:Int),((acc+bt b x:Nat):Int),((j+1:Nat):Int),A,a.map cI,X,Y)):=by
   unfold bS;rw [bL,ae (show (j:Int)<(k:Int) by omega)];show ob (ix 3 (j:Int)) _=_;rw [eu (show j<3 by omega)];show ob ((a.map cI)[j]?) _=_;rw [f];show ob (gU n (x:Int) (b:Int)) _=_;rw [ON n d o];show some (Sum.inl ((k:Int),(b:Int),(i:Int),IntKind.wrap .i64 ((acc:Int)+((bt b x:Nat):Int)),IntKind.wrap .i64 ((j:Int)+1),_))=_;rw [w,l]
  have e:(a.take k).drop j=x::(a.take k).drop (j+1):=bY (by rw [pS (by omega)];exact hx);rw [aq,s];have:=Pn b x;show aq _ N _=_;rw [ih (j+1) (acc+bt b x) (by omega) (by omega) N (by omega),e];simp only [bts,fY]
def hit (k b i:Nat) (a c:List Nat):Bool:=decide (0<bt b (a.getD i 0)+bts b ((c.take k).drop i))
theorem V8 (n k b i:Nat) (v:9<n) (h:b=1\/b=2) (t:k<=3) (hi:i<k) (X:List Int) (a c:List Nat) (w:a.length=3) (l:c.length=3) (r:∀x∈a,x<4) (q:∀x∈c,x<4) (out:List Int) (o:Int) (m:out[i]?=some o):
  bm n ((k:Int),(b:Int),(i:Int),a.map cI,c.map cI,X,out)=some (.inl ((k:Int),(b:Int),((i+1:Nat):Int),a.map cI,c.map cI,X,cond (hit k b i a c) (out.set i (IntKind.wrap .u8 (o+(b:Int)))) out)):=by
 obtain ⟨x,hx⟩:∃x,a[i]?=some x:=⟨a[i],bn (by omega)⟩;have f:(a.map cI)[i]?=some (x:Int):=by rw [lG,hx];rfl
 have d:=r x (f7 hx);have u:=Pn b x;have p:IntKind.wrap .i64 ((i:Int)+1)=((i+1:Nat):Int):=by rw [wrap_i64 _ (by omega) (by omega)];omega
 have g:=Wj n k b i h t (a.map cI) X out c l q (k - i) i (bt b x) (by omega) (by omega) n (by omega);unfold bm;rw [bL,ae (show (i:Int)<(k:Int) by omega)];show ob (ix 3 (i:Int)) _=_;rw [eu (show i<3 by omega)];show ob ((a.map cI)[i]?) _=_;rw [f];show ob (gU n (x:Int) (b:Int)) _=_;rw [ON n d h];show ob (aq (bS n) n ((k:Int),(b:Int),(i:Int),((bt b x:Nat):Int),(i:Int),a.map cI,c.map cI,X,out)) _=_;rw [g];have s:hit k b i a c=decide (((bt b x+bts b ((c.take k).drop i):Nat):Int)>0):=by
  unfold hit;rw [BP,hx];rw [nI];simp only [wH];omega
 rw [s];show cond (decide (((bt b x+bts b ((c.take k).drop i):Nat):Int)>0)) (ob (ix 3 (i:Int)) λj=>ob (out[j]?) λy=>ob (ix 3 (i:Int)) λj2=>cond (Nat.blt j2 3) (some (Sum.inl ((k:Int),(b:Int),IntKind.wrap .i64 ((i:Int)+1),a.map cI,c.map cI,X,out.set j2 (IntKind.wrap .u8 (y+(b:Int)))))) none) (some (Sum.inl ((k:Int),(b:Int),IntKind.wrap .i64 ((i:Int)+1),a.map cI,c.map cI,X,out)))=_;rw [eu (show i<3 by omega),p];have e:Nat.blt i 3=true:=cr (by omega);simp only [ob,m,e,aj];cases decide (((bt b x+bts b ((c.take k).drop i):Nat):Int)>0)<;>rfl
def addB (k b:Nat) (a c:List Nat) (o:List Int):List Int:=[cond (decide (0<k)&&hit k b 0 a c) (IntKind.wrap .u8 (o.getD 0 0+(b:Int))) (o.getD 0 0),cond (decide (1<k)&&hit k b 1 a c) (IntKind.wrap .u8 (o.getD 1 0+(b:Int))) (o.getD 1 0),cond (decide (2<k)&&hit k b 2 a c) (IntKind.wrap .u8 (o.getD 2 0+(b:Int))) (o.getD 2 0)]
theorem LN (n k b:Nat) (m:9<n) (s:b=1\/b=2) (q:1<=k/\k<=3) (X:List Int) (a c:List Nat) (r:a.length=3) (h:c.length=3) (p:∀x∈a,x<4) (l:∀x∈c,x<4) (g o1 f:Int):
  aq (bm n) n ((k:Int),(b:Int),0,a.map cI,c.map cI,X,[g,o1,f])=some ((k:Int),(b:Int),a.map cI,c.map cI,X,addB k b a c [g,o1,f]):=by
 obtain ⟨n,rfl⟩:∃j,n=j+5:=⟨n - 5,by omega⟩;have fin:∀(N:Nat) (out:List Int),aq (bm (n+5)) (N+1) ((k:Int),(b:Int),((k:Nat):Int),a.map cI,c.map cI,X,out)=some ((k:Int),(b:Int),a.map cI,c.map cI,X,out):=λN out=>by
  rw [aq];have:bm (n+5) ((k:Int),(b:Int),((k:Nat):Int),a.map cI,c.map cI,X,out)=some (.inr ((k:Int),(b:Int),a.map cI,c.map cI,X,out)):=by
   unfold bm;rw [bL,ab (show ¬((k:Int)<(k:Int)) by omega)]
  rw [this]
 have e:=λ(i:Nat) (hi:i<k) (out:List Int) (o:Int) (ho:out[i]?=some o)=>V8 (n+5) k b i m s q.2 hi X a c r h p l out o ho;have hk':k=1\/k=2\/k=3:=by omega
 have d:=e 0 (by omega) [g,o1,f] g rfl;rcases hk' with rfl | rfl | rfl
 ·rw [aq];rw [show ((0:Nat):Int)=0 from rfl] at d;rw [d];show aq _ (n+3+1) (((1:Nat):Int),(b:Int),((1:Nat):Int),_)=_;rw [fin];unfold addB;cases hit 1 b 0 a c<;>rfl
 ·rw [aq];rw [show ((0:Nat):Int)=0 from rfl] at d;rw [d];show aq _ (n+4) (((2:Nat):Int),(b:Int),((1:Nat):Int),_)=_;rw [aq,e 1 (by omega) _ o1 (by cases hit 2 b 0 a c<;>rfl)];show aq _ (n+2+1) (((2:Nat):Int),(b:Int),((2:Nat):Int),_)=_;rw [fin];unfold addB;cases hit 2 b 0 a c<;>cases hit 2 b 1 a c<;>rfl
 ·rw [aq];rw [show ((0:Nat):Int)=0 from rfl] at d;rw [d];show aq _ (n+4) (((3:Nat):Int),(b:Int),((1:Nat):Int),_)=_;rw [aq,e 1 (by omega) _ o1 (by cases hit 3 b 0 a c<;>rfl)];show aq _ (n+3) (((3:Nat):Int),(b:Int),((2:Nat):Int),_)=_;rw [aq,e 2 (by omega) _ f (by cases hit 3 b 0 a c<;>cases hit 3 b 1 a c<;>rfl)];show aq _ (n+1+1) (((3:Nat):Int),(b:Int),((3:Nat):Int),_)=_;rw [fin];unfold addB;cases hit 3 b 0 a c<;>cases hit 3 b 1 a c<;>cases hit 3 b 2 a c<;>rfl
def lN (p:Nat×Nat×Nat):List Nat:=[p.1,p.2.1,p.2.2]
theorem qI {x y:Nat} (hx:x<4) (hy:y<4) (b:Nat) (d:b=1\/b=2):decide (0<bt b (x ||| y))=decide (0<bt b x+bt b y):=by
 have:((List.range 4).all λa=>(List.range 4).all λc=>(decide (0<bt 1 (a ||| c))==decide (0<bt 1 a+bt 1 c))&&(decide (0<bt 2 (a ||| c))==decide (0<bt 2 a+bt 2 c)))=true:=by decide +kernel
 have:=r4 (r4 this hx) hy;simp only [az,bQ] at this;rcases d with rfl | rfl
 ·exact this.1
 ·exact this.2
theorem rj {x:Nat} (hx:x<4):cond (decide (0<bt 2 x)) (IntKind.wrap .u8 (cond (decide (0<bt 1 x)) (IntKind.wrap .u8 (0+((1:Nat):Int))) 0+((2:Nat):Int))) (cond (decide (0<bt 1 x)) (IntKind.wrap .u8 (0+((1:Nat):Int))) 0)=(x:Int):=by
 have h:x=0\/x=1\/x=2\/x=3:=by omega
 rcases h with rfl | rfl | rfl | rfl<;>decide
theorem tU (n:Nat) (I:9<n) (k:Nat) (A B:Nat×Nat×Nat) (O:1<=k/\k<=3) (H:inM k A) (J:inM k B):dJ n (l3 A) (l3 B) (k:Int)=some (l3 (spM A B)):=by
 obtain ⟨a0,a1,a2⟩:=A;obtain ⟨b0,b1,b2⟩:=B;obtain ⟨g0,m,s,z,u⟩:=H;obtain ⟨f,d,l,w,t⟩:=J;simp only at g0 m s z u f d l w t;have c:∀x y:Nat,x<4->y<4->x ||| y<4:=λx y hx hy=>(or4 hx hy).2;have M:∀x∈lN (a0,a1,a2),x<4:=by
  intro x hx;simp only [lN,cf,nD,o7] at hx;rcases hx with rfl | rfl | rfl<;>assumption
 have F:∀x∈lN (b0,b1,b2),x<4:=by
  intro x hx;simp only [lN,cf,nD,o7] at hx;rcases hx with rfl | rfl | rfl<;>assumption
 have run:=λ(b:Nat) (a:b=1\/b=2) (o0 o1 o2:Int)=>LN n k b I a O [0,0,0] (lN (a0,a1,a2)) (lN (b0,b1,b2)) rfl rfl M F o0 o1 o2;have C:=run 1 (.inl rfl) 0 0 0;obtain ⟨g,i,h,hp⟩:∃g i h,addB k 1 (lN (a0,a1,a2)) (lN (b0,b1,b2)) [0,0,0]=[g,i,h]:=⟨_,_,_,rfl⟩;have E:=run 2 (.inr rfl) g i h;rw [hp] at C;obtain ⟨n,rfl⟩:∃j,n=j+5:=⟨n - 5,by omega⟩;have L:cD (n+5) ((k:Int),1,l3 (a0,a1,a2),l3 (b0,b1,b2),[0,0,0],[0,0,0])=some (.inl ((k:Int),2,l3 (a0,a1,a2),l3 (b0,b1,b2),[0,0,0],[g,i,h])):=by
  unfold cD;show cond (decide ((1:Int)<=2)) (ob (aq (bm (n+5)) (n+5) ((k:Int),((1:Nat):Int),0,(lN (a0,a1,a2)).map cI,(lN (b0,b1,b2)).map cI,[0,0,0],[0,0,0])) _) _=_;rw [C];rfl
 have K:cD (n+5) ((k:Int),2,l3 (a0,a1,a2),l3 (b0,b1,b2),[0,0,0],[g,i,h])=some (.inl ((k:Int),3,l3 (a0,a1,a2),l3 (b0,b1,b2),[0,0,0],addB k 2 (lN (a0,a1,a2)) (lN (b0,b1,b2)) [g,i,h])):=by
  unfold cD;show cond (decide ((2:Int)<=2)) (ob (aq (bm (n+5)) (n+5) ((k:Int),((2:Nat):Int),0,(lN (a0,a1,a2)).map cI,(lN (b0,b1,b2)).map cI,[0,0,0],[g,i,h])) _) _=_;rw [E];rfl
 have N:∀out:List Int,cD (n+5) ((k:Int),3,l3 (a0,a1,a2),l3 (b0,b1,b2),[0,0,0],out)=some (.inr ([0,0,0],out)):=λout=>rfl;unfold dJ;rw [aq,L];show ob (aq _ (n+4) _) _=_;rw [aq,K];show ob (aq _ (n+3) _) _=_;rw [aq,N];show some (addB k 2 (lN (a0,a1,a2)) (lN (b0,b1,b2)) [g,i,h])=_;rw [<-hp];have hk':k=1\/k=2\/k=3:=by omega
 have G:=λ(x y:Nat) (hx:x<4) (hy:y<4) (b:Nat) (a:b=1\/b=2)=>qI hx hy b a;rcases hk' with rfl | rfl | rfl
 ·obtain rfl:=z (by omega);obtain rfl:=u (by omega);obtain rfl:=w (by omega);obtain rfl:=t (by omega);have e:∀b,b=1\/b=2->hit 1 b 0 (lN (a0,0,0)) (lN (b0,0,0))=decide (0<bt b (a0 ||| b0)):=λb a=>by rw [qI g0 f b a];rfl
  show some [cond (hit 1 2 0 (lN (a0,0,0)) (lN (b0,0,0))) (IntKind.wrap .u8 (cond (hit 1 1 0 (lN (a0,0,0)) (lN (b0,0,0))) (IntKind.wrap .u8 (0+((1:Nat):Int))) 0+((2:Nat):Int))) (cond (hit 1 1 0 (lN (a0,0,0)) (lN (b0,0,0))) (IntKind.wrap .u8 (0+((1:Nat):Int))) 0),0,0]=_;rw [e 1 (.inl rfl),e 2 (.inr rfl),rj (c _ _ g0 f)];simp [l3,spM]
 ·obtain rfl:=u (by omega);obtain rfl:=t (by omega);have o:∀b,b=1\/b=2->hit 2 b 1 (lN (a0,a1,0)) (lN (b0,b1,0))=decide (0<bt b (a1 ||| b1)):=λb a=>by rw [qI m d b a];rfl
  have p:∀b,b=1\/b=2->hit 2 b 0 (lN (a0,a1,0)) (lN (b0,b1,0))=decide (0<bt b (a0 ||| b0 ||| b1)):=λb a=>by
   have q:=qI (c _ _ g0 f) d b a;have r:=qI g0 f b a;rw [q];have:hit 2 b 0 (lN (a0,a1,0)) (lN (b0,b1,0))=decide (0<bt b a0+(bt b b0+(bt b b1+0))):=rfl;rw [this];simp only [nI] at r ⊢;omega
  show some [cond (hit 2 2 0 (lN (a0,a1,0)) (lN (b0,b1,0))) (IntKind.wrap .u8 (cond (hit 2 1 0 (lN (a0,a1,0)) (lN (b0,b1,0))) (IntKind.wrap .u8 (0+((1:Nat):Int))) 0+((2:Nat):Int))) (cond (hit 2 1 0 (lN (a0,a1,0)) (lN (b0,b1,0))) (IntKind.wrap .u8 (0+((1:Nat):Int))) 0),cond (hit 2 2 1 (lN (a0,a1,0)) (lN (b0,b1,0))) (IntKind.wrap .u8 (cond (hit 2 1 1 (lN (a0,a1,0)) (lN (b0,b1,0))) (IntKind.wrap .u8 (0+((1:Nat):Int))) 0+((2:Nat):Int))) (cond (hit 2 1 1 (lN (a0,a1,0)) (lN (b0,b1,0))) (IntKind.wrap .u8 (0+((1:Nat):Int))) 0),0]=_;rw [p 1 (.inl rfl),p 2 (.inr rfl),o 1 (.inl rfl),o 2 (.inr rfl),rj (c _ _ (c _ _ g0 f) d),rj (c _ _ m d)];simp [l3,spM]
 ·have v:∀b,b=1\/b=2->hit 3 b 2 (lN (a0,a1,a2)) (lN (b0,b1,b2))=decide (0<bt b (a2 ||| b2)):=λb a=>by rw [qI s l b a];rfl
  have o:∀b,b=1\/b=2->hit 3 b 1 (lN (a0,a1,a2)) (lN (b0,b1,b2))=decide (0<bt b (a1 ||| b1 ||| b2)):=λb a=>by
   have q:=qI (c _ _ m d) l b a;have r:=qI m d b a;rw [q];have:hit 3 b 1 (lN (a0,a1,a2)) (lN (b0,b1,b2))=decide (0<bt b a1+(bt b b1+(bt b b2+0))):=rfl;rw [this];simp only [nI] at r ⊢;omega
  have p:∀b,b=1\/b=2->hit 3 b 0 (lN (a0,a1,a2)) (lN (b0,b1,b2))=decide (0<bt b (a0 ||| b0 ||| b1 ||| b2)):=λb a=>by
   have q:=qI (c _ _ (c _ _ g0 f) d) l b a;have r:=qI (c _ _ g0 f) d b a;have D:=qI g0 f b a;rw [q];have:hit 3 b 0 (lN (a0,a1,a2)) (lN (b0,b1,b2))=decide (0<bt b a0+(bt b b0+(bt b b1+(bt b b2+0)))):=rfl;rw [this];simp only [nI] at r D ⊢;omega
  show some [cond (hit 3 2 0 (lN (a0,a1,a2)) (lN (b0,b1,b2))) (IntKind.wrap .u8 (cond (hit 3 1 0 (lN (a0,a1,a2)) (lN (b0,b1,b2))) (IntKind.wrap .u8 (0+((1:Nat):Int))) 0+((2:Nat):Int))) (cond (hit 3 1 0 (lN (a0,a1,a2)) (lN (b0,b1,b2))) (IntKind.wrap .u8 (0+((1:Nat):Int))) 0),cond (hit 3 2 1 (lN (a0,a1,a2)) (lN (b0,b1,b2))) (IntKind.wrap .u8 (cond (hit 3 1 1 (lN (a0,a1,a2)) (lN (b0,b1,b2))) (IntKind.wrap .u8 (0+((1:Nat):Int))) 0+((2:Nat):Int))) (cond (hit 3 1 1 (lN (a0,a1,a2)) (lN (b0,b1,b2))) (IntKind.wrap .u8 (0+((1:Nat):Int))) 0),cond (hit 3 2 2 (lN (a0,a1,a2)) (lN (b0,b1,b2))) (IntKind.wrap .u8 (cond (hit 3 1 2 (lN (a0,a1,a2)) (lN (b0,b1,b2))) (IntKind.wrap .u8 (0+((1:Nat):Int))) 0+((2:Nat):Int))) (cond (hit 3 1 2 (lN (a0,a1,a2)) (lN (b0,b1,b2))) (IntKind.wrap .u8 (0+((1:Nat):Int))) 0)]=_;rw [p 1 (.inl rfl),p 2 (.inr rfl),o 1 (.inl rfl),o 2 (.inr rfl),v 1 (.inl rfl),v 2 (.inr rfl),rj (c _ _ (c _ _ (c _ _ g0 f) d) l),rj (c _ _ (c _ _ m d) l),rj (c _ _ s l)];rfl
def KO (k a b c:Nat):Bool:=spM (plA k a b c) (plB k a b c)==(a,b,c)
theorem UN:((List.range 4).all λa=>KO 1 a 0 0)=true:=by decide +kernel
theorem Us:((List.range 4).all λa=>(List.range 4).all λb=>KO 2 a b 0)=true:=by decide +kernel
theorem Uf:((List.range 4).all λa=>(List.range 4).all λb=>(List.range 4).all λc=>KO 3 a b c)=true:=by decide +kernel
theorem VS (k a b c:Nat) (i:1<=k/\k<=3) (d:a<4) (f:b<4) (hc:c<4) (g:k<2->b=0) (e:k<3->c=0):spM (plA k a b c) (plB k a b c)=(a,b,c):=by
 have h:KO k a b c=true:=by
  have:k=1\/k=2\/k=3:=by omega
  rcases this with rfl | rfl | rfl
  ·rw [g (by omega),e (by omega)];exact r4 UN d
  ·rw [e (by omega)];exact r4 (r4 Us d) f
  ·exact r4 (r4 (r4 Uf d) f) hc
 unfold KO at h;exact bQ.1 h
def mkS (l:aa):Nat:=match l with | []=>0 | c::_=>mkOf c
def mkN (l:aa):Nat:=if mkS l=0 then 0 else 1
def twoN (l:aa):Nat:=bq isDX 2 l
theorem Q0 (c:UInt8):mkOf c<4:=by
 unfold mkOf;split
 ·omega
 ·split
  ·omega
  ·split<;>omega
theorem Cc (l:aa):mkS l<4:=by
 cases l with
 | nil=>show 0<4;omega
 | cons c r=>exact Q0 c
theorem Un (l:aa):mkN l<=l.length:=by
 cases l with
 | nil=>exact aP 0
 | cons c r=>
  unfold mkN;split<;>simp
theorem Qs (c:UInt8):hasB [63,126,37] c=decide (0<mkOf c):=by
 have:=gN (λc=>hasB [63,126,37] c==decide (0<mkOf c)) (by decide +kernel) c;simpa using this
theorem PN (m:Nat) (S:aa) (a:Nat) (h:a<=S.length) (i:S.length<100000):
  cg (m+300) S (a:Int)=some (.inr (((mkS (S.drop a):Nat):Int),S,((a+mkN (S.drop a):Nat):Int))):=by
 unfold cg;rw [oG (m+300) S a h];cases f:S.drop a with
 | nil=>
  have e:pt (m+300) 0=some (0,false):=by kernel_rfl
  show ob (pt (m+300) 0) _=_;rw [e];rfl
 | cons c r=>
  show ob (pt (m+300) ((c.toNat:Nat):Int)) _=_;rw [(C5 m c).1];show cond (decide (0<mkOf c)) _ _=_;have b:mkS (c::r)=mkOf c:=rfl;by_cases hc:0<mkOf c
  ·rw [au hc];show ob (bV (m+300) [63,126,37] S (a:Int)) _=_;rw [yU (m+300) _ S a h (by omega),f];have g:hasB [63,126,37] c=true:=by rw [Qs,au hc]
   have d:mkN (c::r)=1:=by unfold mkN;rw [b,ab (by omega)]
   rw [b,d];simp only [g,aK,ob]
  ·rw [av hc];have d:mkN (c::r)=0:=by unfold mkN;rw [b,ae (by omega)]
   rw [b,d];rfl
theorem zq (m:Nat) (S:aa) (a:Nat) (h:a<=S.length) (j:S.length<100000) (e:Int):
  dU (m+300) S (a:Int) e=some (((mkS (S.drop a):Nat):Int),S,((a+mkN (S.drop a):Nat):Int),e):=by
 unfold dU;rw [ku];rcases aF a S.length with f | g
 ·have:decide (S.length<=a)=false:=by simp;omega
  rw [this];obtain ⟨c,hc⟩:∃c,S[a]?=some c:=⟨S[a],bn f⟩;rw [ew hc,bY hc];show ob (dr (m+300) ((c.toNat:Nat):Int)) _=_;rw [(C5 m c).2];have b:mkS (c::S.drop (a+1))=mkOf c:=rfl;show cond (decide (((mkOf c:Nat):Int)>0)) _ _=_;by_cases i:0<mkOf c
  ·have d:mkN (c::S.drop (a+1))=1:=by unfold mkN;rw [b,ab (by omega)]
   have:decide (((mkOf c:Nat):Int)>0)=true:=by simp;omega
   rw [this,b,d,aj];have w:IntKind.wrap .i64 ((a:Int)+1)=((a+1:Nat):Int):=by rw [wrap_i64 _ (by omega) (by omega)];omega
   rw [w]
  ·have d:mkN (c::S.drop (a+1))=0:=by unfold mkN;rw [b,ae (by omega)]
   have:decide (((mkOf c:Nat):Int)>0)=false:=by simp;omega
   rw [this,b,d,ah];rfl
 ·have:decide (S.length<=a)=true:=by simp;omega
  rw [this,iP g];rfl
theorem OK (n:Nat) (S:aa) (a:Nat) (h:a<=S.length) (i:S.length<100000) (f:S.length<n):
  gS n S (a:Int)=some (if twoN (S.drop a)<2 then .inl (((a+twoN (S.drop a):Nat):Int),5,S,((a+twoN (S.drop a):Nat):Int)) else .inr ((S.drop a).take 2,S,((a+2:Nat):Int))):=by
 unfold gS;rw [uM n _ 2 2 S a h (by omega) f];have e:bq (hasB [88,48,49,50,51,52,53,54,55,56,57]) (2:Int).toNat (S.drop a)=twoN (S.drop a):=by
  unfold twoN;have d:(2:Int).toNat=2:=rfl;rw [d];exact ji (λc=>by rw [t8];rfl) _ _
 rw [e];by_cases b:twoN (S.drop a)<2
 ·rw [ae b,ae (by omega)];rfl
 ·have g:twoN (S.drop a)=2:=by
   have:=qB isDX 2 (S.drop a);unfold twoN at b ⊢;omega
  rw [ab b,ab (by omega),g];rfl
theorem SZ (c:UInt8):isDX c=((decide (48<=c.toNat)&&decide (c.toNat<=57))||c==88):=by
 unfold isDX;congr 1;rw [xh,cq];simp
theorem F3 (n:Nat) (S:aa) (a b i e:Int) (j:Nat) (r:S.length<100000) (hi:i<2) (t:j<=S.length) (u:0<=i):
  ga n (b,i,S,(j:Int),e,[],0,0)=some (match S.drop j with
   | []=>.inr (.inl ([],S,(j:Int),5))
   | c::_=>if isDX c then .inl (b,i+1,S,((j+1:Nat):Int),e,[],0,0) else .inr (.inl ([],S,(j:Int),5))):=by
 unfold ga;have q:decide (i<2)=true:=au hi;show cond (decide (i<2)) (cond (decide ((j:Int)>=((S.length:Nat):Int))) _ _) _=_;rw [q,ku];rcases aF j S.length with l | m
 ·have:decide (S.length<=j)=false:=by simp;omega
  rw [this];obtain ⟨c,hc⟩:∃c,S[j]?=some c:=⟨S[j],bn l⟩;have o:IntKind.wrap .i64 (i+1)=i+1:=wrap_i64 _ (by omega) (by omega);have p:IntKind.wrap .i64 ((j:Int)+1)=((j+1:Nat):Int):=by rw [wrap_i64 _ (by omega) (by omega)];omega
  rw [bY hc];simp only [ew hc,ob,aj,ah,o,p];rw [SZ];have h:(((c.toNat:Nat):Int) != 88)=!(c==88):=by rw [bne];congr 1;exact od c 88
  rw [h];by_cases s:c.toNat<48
  ·have g:decide (((c.toNat:Nat):Int)<48)=true:=by simp;omega
   have k:decide (48<=c.toNat)=false:=by simp;omega
   rw [g,k];cases (c==88)<;>rfl
  ·have g:decide (((c.toNat:Nat):Int)<48)=false:=by simp;omega
   have k:decide (48<=c.toNat)=true:=by simp;omega
   rw [g,k];by_cases v:c.toNat<=57
   ·have d:decide (((c.toNat:Nat):Int)>57)=false:=by simp;omega
    have f:decide (c.toNat<=57)=true:=by simp;omega
    rw [d,f];rfl
   ·have d:decide (((c.toNat:Nat):Int)>57)=true:=by simp;omega
    have f:decide (c.toNat<=57)=false:=by simp;omega
    rw [d,f];cases (c==88)<;>rfl
 ·have:decide (S.length<=j)=true:=by simp;omega
  rw [this,iP m];rfl
theorem Jx (n:Nat) (s:10<n) (S:aa) (a:Nat) (h:a<=S.length) (g:S.length<100000) (e:Int):
  iN n S (a:Int) e=some (if twoN (S.drop a)<2 then ([],S,((a+twoN (S.drop a):Nat):Int),5) else ((S.drop a).take 2,S,((a+2:Nat):Int),e)):=by
 obtain ⟨n,rfl⟩:∃j,n=j+3:=⟨n - 3,by omega⟩;unfold iN;rw [aq,F3 (n+3) S 0 (a:Int) 0 e a g (by omega) h (by omega)];cases l:S.drop a with
 | nil=>rfl
 | cons c r=>
  obtain ⟨q,t,i⟩:=mY l;cases hc:isDX c with
  | false=>
   have:twoN (c::r)=0:=by unfold twoN;simp [bq,hc]
   rw [this];simp [hc,ob]
  | true=>
   simp only [hc,aK];rw [aq,F3 (n+3) S 0 (a:Int) (0+1) e (a+1) g (by omega) (by omega) (by omega),i];cases r with
   | nil=>
    have:twoN [c]=1:=by unfold twoN;simp [bq,hc]
    rw [this];rfl
   | cons d f=>
    obtain ⟨k,o,m⟩:=mY i;cases b:isDX d with
    | false=>
     have:twoN (c::d::f)=1:=by unfold twoN;simp [bq,hc,b]
     rw [this];simp [b,ob]
    | true=>
     have:twoN (c::d::f)=2:=by unfold twoN;simp [bq,hc,b]
     rw [this];simp only [b,aK];have p:ga (n+3) ((a:Int),0+1+1,S,((a+1+1:Nat):Int),e,[],0,0)=some (.inr (.inr ((a:Int),S,((a+1+1:Nat):Int),e,[],0,0))):=rfl;rw [aq,p];show ob (bx S.length ((a+1+1:Nat):Int)) _=_;rw [fQ (show a+1+1<=S.length by omega)];show ob (bx (a+1+1) (a:Int)) _=_;rw [fQ (show a<=a+1+1 by omega)];have:List.drop a (List.take (a+1+1) S)=[c,d]:=by
      rw [wP,l];have:a+1+1 - a=2:=by omega
      rw [this];rfl
     show some (List.drop a (List.take (a+1+1) S),S,((a+1+1:Nat):Int),e)=_;rw [this];rfl
theorem Gl {k:Nat} (h:k<10):Lib.decDigits k=[UInt8.ofNat (48+k)]:=by
 rw [Lib.decDigits,dif_pos h]
theorem C6 {k:Nat} (h:¬k<10) (a:k<100):Lib.decDigits k=[UInt8.ofNat (48+k / 10),UInt8.ofNat (48+k%10)]:=by
 rw [Lib.decDigits,dif_neg h,Gl (by omega)];rfl
def fh (letter:UInt8) (v:Nat):aa:=if 0<v then letter::Lib.decDigits v else []
theorem Ub {k:Nat} (h:k<100):1<=(Lib.decDigits k).length/\(Lib.decDigits k).length<=2:=by
 by_cases a:k<10
 ·rw [Gl a];simp
 ·rw [C6 a h];simp
theorem CL (letter:UInt8) {k:Nat} (h:k<100):(fh letter k).length<=3:=by
 unfold fh;split
 ·have:=Ub h;simp only [aM];omega
 ·simp
theorem kx (g l:Bool) (d:aa) (x s:Nat):gh g l d (x:Int) (s:Int)=(if l then [89] else [])++(if g then [45] else [])++d++fh 69 x++fh 83 s:=by
 unfold gh fh;simp only [cV];have a:(0<(x:Int))=(0<x):=by simp
 have b:(0<(s:Int))=(0<s):=by simp
 simp only [a,b]
def cG (p:UInt8->Bool) (l:aa):Prop:=∀c,l.head?=some c->p c=false
theorem qK {k:Nat} (h:k<10):(UInt8.ofNat (48+k)).toNat=48+k:=by
 rw [Dk];exact o6 (by omega)
theorem CU (letter:UInt8) (v:Nat) (post:aa) (k:v<100) (i:cG bp post) (j:cG (λc=>c==letter) post):numS letter (fh letter v++post)=.inr (v,(fh letter v).length):=by
 unfold fh;by_cases h:0<v
 ·rw [ae h];by_cases d:v<10
  ·rw [Gl d];have b:=qK d;simp only [ep,dD];rw [mJ,ae rfl,oq,ae (by omega)];have a:48+v - 48=v:=by omega
   cases post with
   | nil=>
    rw [tf,b,a];rfl
   | cons e r=>
    have f:¬bp e=true:=by rw [i e rfl];simp
    rw [mI,ab f,b,a];rfl
  ·rw [C6 d k];have b:=qK (show v / 10<10 by omega);have f:=qK (show v%10<10 by omega);simp only [ep,dD];rw [mJ,ae rfl,oq,ae (by omega),mI,ae ((cq _).2 (by omega)),b,f];rw [show 10*(48+v / 10 - 48)+(48+v%10 - 48)=v by omega];rfl
 ·rw [ab h];have g:v=0:=by omega
  subst g;cases post with
  | nil=>rfl
  | cons c r=>
   have hc:c≠letter:=by
    have:=j c rfl;simpa using this
   rw [dD,mJ,ab hc];rfl
theorem vZ (letter:UInt8) (l:aa) (v k:Nat) (h:numS letter l=.inr (v,k)):v<100/\l.take k=fh letter v/\k<=l.length:=by
 cases l with
 | nil=>
  simp only [uO,nB,bE] at h;obtain ⟨rfl,rfl⟩:=h;exact ⟨by omega,rfl,by simp⟩
 | cons c r=>
  rw [mJ] at h;by_cases hc:c=letter
  ·rw [ae hc] at h;cases r with
   | nil=>simp [zt] at h
   | cons d g=>
    rw [oq] at h;by_cases j:49<=d.toNat/\d.toNat<=57
    ·rw [ae j] at h;have i:d.toNat - 48<10:=by omega
     have a:UInt8.ofNat (48+(d.toNat - 48))=d:=by
      apply gZ.1;rw [qK i];omega
     have one:(c::d::g).take 2=fh letter (d.toNat - 48):=by
      unfold fh;rw [ae (by omega),Gl i,a,hc];rfl
     cases g with
     | nil=>
      simp only [tf,nB,bE] at h;obtain ⟨rfl,rfl⟩:=h;exact ⟨by omega,one,by simp⟩
     | cons e p=>
      rw [mI] at h;by_cases b:bp e=true
      ·rw [ae b] at h;simp only [nB,bE] at h;obtain ⟨rfl,rfl⟩:=h;have n:=(cq e).1 b;refine ⟨by omega,?_,by simp⟩;unfold fh;have m:(10*(d.toNat - 48)+(e.toNat - 48)) / 10=d.toNat - 48:=by omega
       have o:(10*(d.toNat - 48)+(e.toNat - 48))%10=e.toNat - 48:=by omega
       have f:UInt8.ofNat (48+(e.toNat - 48))=e:=by
        apply gZ.1;rw [qK (by omega)];omega
       rw [ae (by omega),C6 (by omega) (by omega),m,o,a,f,hc];rfl
      ·rw [ab b] at h;simp only [nB,bE] at h;obtain ⟨rfl,rfl⟩:=h;exact ⟨by omega,one,by simp⟩
    ·rw [ab j] at h;cases h
  ·rw [ab hc] at h;simp only [nB,bE] at h;obtain ⟨rfl,rfl⟩:=h;exact ⟨by omega,rfl,by simp⟩
theorem wc {p:UInt8->Bool}:∀(r:aa) (k:Nat) (post:aa),(∀c∈r,p c=true)->r.length<=k->(cG p post\/r.length=k)->bq p k (r++post)=r.length
 | [],0,post,_,_,_=>by simp [bq]
 | [],k+1,post,_,_,h=>by
  cases post with
  | nil=>simp [bq]
  | cons c q=>
   rcases h with h | h
   ·have:=h c rfl;simp [bq,this]
   ·simp at h
 | c::r,0,post,_,h,_=>by simp at h
 | c::r,k+1,post,hp,b,h=>by
  have ih:=wc r k post (λd a=>hp d (by simp [a])) (by simpa using b) (by
   rcases h with h | h
   ·exact .inl h
   ·exact .inr (by simpa using h))
  simp only [ep,bq,hp c (by simp),aK,ih,aM]
theorem xP {p:UInt8->Bool}:∀(k:Nat) (l:aa),∀c∈l.take (bq p k l),p c=true
 | 0,l=>by simp [bq]
 | k+1,[]=>by simp [bq]
 | k+1,c::l=>by
  simp only [bq];by_cases h:p c=true
  ·rw [ae h];intro d a;rw [mz,cf] at a;rcases a with rfl | a
   ·exact h
   ·exact xP k l d a
  ·rw [ab h];simp
theorem ra {letter:UInt8} {v:Nat} {post:aa} {p:UInt8->Bool} (b:p letter=false) (a:cG p post):cG p (fh letter v++post):=by
 unfold fh;intro c hc;by_cases h:0<v
 ·rw [ae h] at hc;simp only [ep,rE,ak] at hc;rw [<-hc];exact b
 ·rw [ab h] at hc;exact a c hc
def isYC (c:UInt8):Bool:=isDX c||c==69||c==83
theorem OM {l:aa} (h:cG isYC l):cG bp l:=λc hc=>by
 have:=h c hc;unfold isYC isDX at this;simp only [n8] at this;exact this.1.1.1
theorem Vx {l:aa} (h:cG isYC l):cG isDX l:=λc hc=>by
 have:=h c hc;unfold isYC at this;simp only [n8] at this;exact this.1.1
theorem V4 {l:aa} (h:cG isYC l):cG (λc=>c==69) l:=λc hc=>by
 have:=h c hc;unfold isYC at this;simp only [n8] at this;exact this.1.2
theorem We {l:aa} (h:cG isYC l):cG (λc=>c==83) l:=λc hc=>by
 have:=h c hc;unfold isYC at this;simp only [n8] at this;exact this.2
theorem mT (c:UInt8) (l:aa):eK c (c::l)=1:=by rw [jn,ae rfl]
theorem nP {c a:UInt8} (h:a≠c) (l:aa):eK c (a::l)=0:=by rw [jn,ab h]
theorem J4 {g l:Bool} {d:aa} {x s:Nat} (h:okY g l d (x:Int) (s:Int)) (post:aa) (hp:cG isYC post):o5 (gh g l d (x:Int) (s:Int)++post)=.inr (g,l,d,x,s,(gh g l d (x:Int) (s:Int)).length):=by
 have J:=ma h;have p:numS 83 (fh 83 s++post)=.inr (s,(fh 83 s).length):=CU 83 s post (by omega) (OM hp) (We hp);have n:cG bp (fh 83 s++post):=ra (by decide) (OM hp);have F:cG isDX (fh 83 s++post):=ra (by decide) (Vx hp);rw [kx];cases l with
 | true=>
  have G:okL d (x:Int) (s:Int):=by simpa [okY] using h
  obtain ⟨⟨b,j,z,A,E,I,H,N⟩,O,L⟩:=G;obtain ⟨c,r,rfl⟩:∃c r,d=c::r:=by
   cases d with
   | nil=>simp at j
   | cons c r=>exact ⟨c,r,rfl⟩
  have y:=(cq c).1 (b c (by simp));have m:49<=c.toNat/\c.toNat<=57:=by
   have:c.toNat≠48:=λe=>A (by rw [show c=48 from gZ.1 e];rfl);omega
  have a:c≠45:=by rintro rfl;exact absurd y.1 (by decide)
  have t:numS 69 (fh 69 x++(fh 83 s++post))=.inr (x,(fh 69 x).length):=CU 69 x _ (by omega) n (ra (by decide) (V4 hp));have f:bq bp 16 (r++(fh 69 x++(fh 83 s++post)))=r.length:=by
   refine wc r 16 _ (λe M=>b e (by simp [M])) (by simp only [aM] at z;omega) (.inl ?_);exact ra (by decide) n
  have body:∀o:Nat,sK g o ((c::r)++(fh 69 x++(fh 83 s++post)))=.inr (g,true,c::r,x,s,o+(1+r.length)+(fh 69 x).length+(fh 83 s).length):=by
   intro o;simp only [ep,sK];rw [ae m,f];have B:List.drop (1+r.length) (c::(r++(fh 69 x++(fh 83 s++post))))=fh 69 x++(fh 83 s++post):=by
    rw [oN,mU,GA rfl]
   have D:List.drop (1+r.length+(fh 69 x).length) (c::(r++(fh 69 x++(fh 83 s++post))))=fh 83 s++post:=by
    rw [show 1+r.length+(fh 69 x).length=(r.length+(fh 69 x).length)+1 by omega,mU,<-fi,GA (by simp)]
   have C:List.take (1+r.length) (c::(r++(fh 69 x++(fh 83 s++post))))=c::r:=by
    rw [oN,mz,List.take_left' rfl]
   rw [B,t];simp only [];rw [D,p,C]
  unfold o5;cases g with
  | true=>
   simp only [aK,ep,dD,fi];rw [mT,ae rfl,mU,ch,mT];have:=body 2;simp only [ep] at this;simp only [mU,ch,show ((1:Nat)==1)=true from rfl,show 1+1=2 from rfl];rw [this];simp only [aM,bH];congr 6;omega
  | false=>
   simp only [aK,bA,aC,ep,dD,fi];rw [mT,ae rfl,mU,ch,nP a];have:=body 1;simp only [ep] at this;simp only [mU,ch,show ((0:Nat)==1)=false from rfl,cn];rw [this];simp only [aM,bH];congr 6;omega
 | false=>
  have K:okS g d (x:Int) (s:Int):=by simpa [okY] using h
  obtain ⟨b,j,z,A,E,I,H⟩:=K;have u:x=0:=by omega
  subst u;have v:fh 69 0=[]:=rfl;have w:∀c∈d,isDX c=true:=λc hc=>by
   unfold isDX;rcases j c hc with q | q
   ·rw [q];rfl
   ·rw [q];simp
  have f:bq isDX 4 (d++(fh 83 s++post))=d.length:=wc d 4 _ w (by omega) (.inr b);have body:∀o:Nat,uu g o (d++(fh 83 s++post))=.inr (g,false,d,0,s,o+4+(fh 83 s).length):=by
   intro o;unfold uu;rw [f,b,ab (by omega),GA b,p,List.take_left' b]
  obtain ⟨c,r,rfl⟩:∃c r,d=c::r:=by
   cases d with
   | nil=>simp at b
   | cons c r=>exact ⟨c,r,rfl⟩
  have a:c≠45:=by
   rintro rfl;rcases j 45 (by simp) with q | q
   ·exact absurd ((cq _).1 q).1 (by decide)
   ·exact absurd q (by decide)
  have k:c≠89:=by
   rintro rfl;rcases j 89 (by simp) with q | q
   ·exact absurd ((cq _).1 q).2 (by decide)
   ·exact absurd q (by decide)
  have i:(45:UInt8)≠89:=by decide
  unfold o5;rw [v];cases g with
  | true=>
   simp only [aK,bA,aC,ep,dD,fi];rw [nP i,ab (by decide),mT,mU,ch];have:=body 1;simp only [ep] at this;rw [show ((1:Nat)==1)=true from rfl,this];simp only [aM,bH] at b ⊢;congr 6;omega
  | false=>
   simp only [bA,aC,ep,dD,fi];rw [nP k,ab (by decide),nP a,ch];have:=body 0;simp only [ep] at this;rw [show ((0:Nat)==1)=false from rfl,this];simp only [aM,bH] at b ⊢;congr 6;omega
theorem tZ (c:UInt8) (l:aa):l.take (eK c l)=if eK c l=1 then [c] else []:=by
 rcases ki c l with h | h
 ·rw [h];simp
 ·rw [h,ae rfl];unfold eK at h;split at h
  ·assumption
  ·cases h
theorem oy (l:aa) (i j:Nat):l.take (i+j)=l.take i++(l.drop i).take j:=by
 rw [List.take_add]
theorem qt {l:aa} {g o:Bool} {d:aa} {x s k:Nat} (h:o5 l=.inr (g,o,d,x,s,k)):l.take k=gh g o d (x:Int) (s:Int)/\k<=l.length/\x<100/\s<100/\d.length<=17:=by
 rw [kx];unfold o5 at h;by_cases f:eK 89 l=1
 ·rw [ae f] at h;have n:=tZ 89 l;rw [f,ae rfl] at n;have b:=tZ 45 (l.drop 1);have c45:=ki 45 (l.drop 1);generalize E:eK 45 (l.drop 1)=u at *;have a:l.take (1+u)=[89]++(if (u==1)=true then [45] else []):=by
   rw [oy,n,b];rcases c45 with rfl | rfl<;>rfl
  cases q:l.drop (1+u) with
  | nil=>rw [q] at h;simp [sK] at h
  | cons c r=>
   rw [q] at h;simp only [sK] at h;by_cases hc:49<=c.toNat/\c.toNat<=57
   ·rw [ae hc] at h;have z:=qB bp 16 r;have D:1+bq bp 16 r<=(c::r).length:=by have:=kE bp 16 r;simp only [aM];omega
    generalize F:1+bq bp 16 r=K at *;cases e:numS 69 (List.drop K (c::r)) with
    | inl j=>rw [e] at h;simp at h
    | inr p=>
     obtain ⟨G,j⟩:=p;rw [e] at h;simp only at h;cases m:numS 83 (List.drop (K+j) (c::r)) with
     | inl i=>rw [m] at h;simp at h
     | inr v=>
      obtain ⟨s',i⟩:=v;rw [m] at h;simp only [nB,bE] at h;obtain ⟨rfl,rfl,rfl,rfl,rfl,rfl⟩:=h;obtain ⟨a1,a2,B⟩:=vZ _ _ _ _ e;obtain ⟨b1,b2,y⟩:=vZ _ _ _ _ m;rw [cY] at B y;have C:l.length=1+u+(c::r).length:=by
       have:=ci List.length q;rw [cY] at this;simp only [aM] at this ⊢;omega
      refine ⟨?_,by simp only [aM] at *;omega,a1,b1,by rw [fZ];omega⟩;rw [show 1+u+K+j+i=(1+u)+(K+(j+i)) by omega,oy,a,q,oy _ K,oy _ j,a2,iL,b2];simp
   ·rw [ab hc] at h;simp at h
 ·rw [ab f] at h;have b:=tZ 45 l;have c45:=ki 45 l;generalize E:eK 45 l=u at *;have a:l.take u=(if (u==1)=true then [45] else []):=by
   rw [b];rcases c45 with rfl | rfl<;>rfl
  unfold uu at h;by_cases A:bq isDX 4 (l.drop u)<4
  ·rw [ae A] at h;simp at h
  ·rw [ab A] at h;have w:=kE isDX 4 (l.drop u);rw [cY] at w;cases e:numS 83 (List.drop 4 (l.drop u)) with
   | inl i=>rw [e] at h;simp at h
   | inr v=>
    obtain ⟨s',i⟩:=v;rw [e] at h;simp only [nB,bE] at h;obtain ⟨rfl,rfl,rfl,rfl,rfl,rfl⟩:=h;obtain ⟨b1,b2,y⟩:=vZ _ _ _ _ e;rw [cY,cY] at y;refine ⟨?_,by omega,by omega,b1,by rw [fZ];omega⟩;rw [show u+4+i=u+(4+i) by omega,oy,a,oy _ 4,b2];have t:fh 69 0=[]:=rfl;rw [t];simp
abbrev DR:=Bool×Bool×aa×Nat×Nat×aa×aa×(Nat×Nat×Nat)×(Nat×Nat×Nat)×Nat
def mkE (S:aa) (p:Nat):Nat:=p+mkN (S.drop p)
def rd3 (S:aa) (y:YR) (h d g c e f a:Nat) (b:aa):Nat⊕DR:=
 if twoN (S.drop (mkE S (a+1)))<2 then .inl (mkE S (a+1)+twoN (S.drop (mkE S (a+1))))
 else .inr (y.1,y.2.1,y.2.2.1,y.2.2.2.1,y.2.2.2.2.1,b,(S.drop (mkE S (a+1))).take 2,spM (h,g,mkS (S.drop (a+1))) (d,c,mkS (S.drop (mkE S (a+1)+2))),(e,f,mkE S (a+1)),mkE S (mkE S (a+1)+2))
def rd2 (S:aa) (y:YR) (c b d a:Nat):Nat⊕DR:=
 if twoN (S.drop (mkE S (a+1)))<2 then .inl (mkE S (a+1)+twoN (S.drop (mkE S (a+1))))
 else if eK 45 (S.drop (mkE S (mkE S (a+1)+2)))=0 then .inr (y.1,y.2.1,y.2.2.1,y.2.2.2.1,y.2.2.2.2.1,(S.drop (mkE S (a+1))).take 2,[],spM (c,mkS (S.drop (a+1)),0) (b,mkS (S.drop (mkE S (a+1)+2)),0),(d,mkE S (a+1),0),mkE S (mkE S (a+1)+2))
 else rd3 S y c b (mkS (S.drop (a+1))) (mkS (S.drop (mkE S (a+1)+2))) d (mkE S (a+1)) (mkE S (mkE S (a+1)+2)) ((S.drop (mkE S (a+1))).take 2)
def qM (S:aa) (a:Nat):Nat⊕DR:=match o5 (S.drop (mkE S a)) with
 | .inl k=>.inl (mkE S a+k)
 | .inr y=>if 0<y.2.2.2.2.1\/eK 45 (S.drop (mkE S (mkE S a+y.2.2.2.2.2)))=0
  then .inr (y.1,y.2.1,y.2.2.1,y.2.2.2.1,y.2.2.2.2.1,[],[],spM (mkS (S.drop a),0,0) (mkS (S.drop (mkE S a+y.2.2.2.2.2)),0,0),(mkE S a,0,0),mkE S (mkE S a+y.2.2.2.2.2))
  else rd2 S y (mkS (S.drop a)) (mkS (S.drop (mkE S a+y.2.2.2.2.2))) (mkE S a) (mkE S (mkE S a+y.2.2.2.2.2))
def Sm (S:aa):Nat⊕DR->(Int×Int×aa×Int)⊕(Bool×Bool×aa×Int×Int×aa×aa×Int×Int×Int×List Int×aa×Int)
 | .inl k=>.inl ((k:Int),5,S,(k:Int))
 | .inr (g,l,dg,x,s,m,d,M,P,e)=>.inr (g,l,dg,(x:Int),(s:Int),m,d,(M.1:Int),(M.2.1:Int),(M.2.2:Int),l3 P,S,(e:Int))
theorem jz {S:aa} {p:Nat} (h:p<=S.length):mkE S p<=S.length:=by
 have:=Un (S.drop p);rw [cY] at this;unfold mkE;omega
theorem uA {S:aa} {p:Nat} (a:¬twoN (S.drop p)<2):p+2<=S.length:=by
 have:=kE isDX 2 (S.drop p);unfold twoN at a;rw [cY] at this;omega
theorem qR {S:aa} {p:Nat} (h:¬eK 45 (S.drop p)=0):p+1<=S.length:=by
 have:=Ap 45 (S.drop p);rw [cY] at this;omega
theorem Nk (n:Nat) (g l:Bool) (d:aa) (x s:Int) (a b:aa) (k0 k1 k2:Int) (S:aa) (p:Nat) (h:p<=S.length) (e:S.length<100000) (c:S.length<n):
  jb n g l d x s a b k0 k1 k2 S (p:Int)=some (match o5 (S.drop p) with
   | .inl k=>.inl (((p+k:Nat):Int),5,g,l,d,x,s,a,b,k0,k1,k2,S,((p+k:Nat):Int))
   | .inr y=>.inr (y.1,y.2.1,y.2.2.1,(y.2.2.2.1:Int),(y.2.2.2.2.1:Int),a,b,k0,k1,k2,S,((p+y.2.2.2.2.2:Nat):Int))):=by
 unfold jb;rw [Qo n S p h e c];cases o5 (S.drop p) with
 | inl k=>rfl
 | inr y=>rfl
theorem Nj (n:Nat) (g l:Bool) (d:aa) (x s:Int) (c b:aa) (k0 k1 k2:Int) (S:aa) (p:Nat) (h:p<=S.length) (e:S.length<100000) (f:S.length<n):
  jd n g l d x s c b k0 k1 k2 S (p:Int)=some (if twoN (S.drop p)<2
   then .inl (((p+twoN (S.drop p):Nat):Int),5,g,l,d,x,s,c,b,k0,k1,k2,S,((p+twoN (S.drop p):Nat):Int))
   else .inr (g,l,d,x,s,(S.drop p).take 2,b,k0,k1,k2,S,((p+2:Nat):Int))):=by
 unfold jd;rw [OK n S p h e f];by_cases a:twoN (S.drop p)<2
 ·rw [ae a,ae a];rfl
 ·rw [ab a,ab a];rfl
theorem NK (n:Nat) (g l:Bool) (d:aa) (x s:Int) (b c:aa) (k0 k1 k2:Int) (S:aa) (p:Nat) (h:p<=S.length) (e:S.length<100000) (f:S.length<n):
  je n g l d x s b c k0 k1 k2 S (p:Int)=some (if twoN (S.drop p)<2
   then .inl (((p+twoN (S.drop p):Nat):Int),5,g,l,d,x,s,b,c,k0,k1,k2,S,((p+twoN (S.drop p):Nat):Int))
   else .inr (g,l,d,x,s,b,(S.drop p).take 2,k0,k1,k2,S,((p+2:Nat):Int))):=by
 unfold je;rw [OK n S p h e f];by_cases a:twoN (S.drop p)<2
 ·rw [ae a,ae a];rfl
 ·rw [ab a,ab a];rfl
theorem QT (m:Nat) (S:aa) (a:Nat) (h:a<=S.length) (j:S.length<100000) (C:S.length<m+300):
  iU (m+300) S (a:Int)=some (Sm S (qM S a)):=by
 have n:∀p,p<=S.length->cg (m+300) S (p:Int)=some (.inr (((mkS (S.drop p):Nat):Int),S,((mkE S p:Nat):Int))):=λp hp=>PN m S p hp j;have b:∀p,mkS (S.drop p)<4:=λp=>Cc _;have w:∀p q,dW (m+300) [((mkS (S.drop p):Nat):Int),0,0] [((mkS (S.drop q):Nat):Int),0,0] 1=some (l3 (spM (mkS (S.drop p),0,0) (mkS (S.drop q),0,0)),0):=λp q=>
  vB (m+300) (by omega) 1 (mkS (S.drop p),0,0) (mkS (S.drop q),0,0) (by omega) ⟨b p,by simp,by simp,by simp,by simp⟩ ⟨b q,by simp,by simp,by simp,by simp⟩
 have E:∀p q f c,dW (m+300) [((mkS (S.drop p):Nat):Int),((mkS (S.drop f):Nat):Int),0] [((mkS (S.drop q):Nat):Int),((mkS (S.drop c):Nat):Int),0] 2=some (l3 (spM (mkS (S.drop p),mkS (S.drop f),0) (mkS (S.drop q),mkS (S.drop c),0)),0):=λp q f c=>
  vB (m+300) (by omega) 2 (mkS (S.drop p),mkS (S.drop f),0) (mkS (S.drop q),mkS (S.drop c),0) (by omega) ⟨b p,b f,by simp,by simp,by simp⟩ ⟨b q,b c,by simp,by simp,by simp⟩
 have D:∀p q f c e d,dW (m+300) [((mkS (S.drop p):Nat):Int),((mkS (S.drop f):Nat):Int),((mkS (S.drop e):Nat):Int)] [((mkS (S.drop q):Nat):Int),((mkS (S.drop c):Nat):Int),((mkS (S.drop d):Nat):Int)] 3=some (l3 (spM (mkS (S.drop p),mkS (S.drop f),mkS (S.drop e)) (mkS (S.drop q),mkS (S.drop c),mkS (S.drop d))),0):=λp q f c e d=>
  vB (m+300) (by omega) 3 (mkS (S.drop p),mkS (S.drop f),mkS (S.drop e)) (mkS (S.drop q),mkS (S.drop c),mkS (S.drop d)) (by omega) ⟨b p,b f,b e,by simp,by simp⟩ ⟨b q,b c,b d,by simp,by simp⟩
 have b0:=jz h;unfold iU qM;rw [n a h];simp only [ob,AS];rw [Nk _ _ _ _ _ _ _ _ _ _ _ S (mkE S a) b0 j C];cases G:o5 (S.drop (mkE S a)) with
 | inl k=>rfl
 | inr y=>
  obtain ⟨g,l,dg,x,s,k⟩:=y;have bk:mkE S a+k<=S.length:=by
   have:=(qt G).2.1;rw [cY] at this;omega
  have b1:=jz bk;simp only [ob,d4,d8];rw [n (mkE S a+k) bk];simp only [ob];by_cases hs:0<s
  ·have:decide (((s:Nat):Int)>0)=true:=by simp;omega
   rw [this,ae (.inl hs)];simp only [aj];rw [w];rfl
  ·have:decide (((s:Nat):Int)>0)=false:=by simp;omega
   rw [this];simp only [ah];rw [sN (m+300) 45 S _ b1 j];simp only [ob];by_cases v:eK 45 (S.drop (mkE S (mkE S a+k)))=0
   ·rw [ae (.inr v),v];simp only [show ((0:Nat)==1)=false from rfl,iv,aj,cn];rw [w];rfl
   ·have B:eK 45 (S.drop (mkE S (mkE S a+k)))=1:=(ki 45 _).resolve_left v;have A:=qR v;rw [ab (λz=>z.elim hs v),B];simp only [show ((1:Nat)==1)=true from rfl,cX,ah];unfold rd2;rw [n _ A];simp only [ob];have J:=jz A;rw [Nj _ _ _ _ _ _ _ _ _ _ _ S _ J j C];by_cases t:twoN (S.drop (mkE S (mkE S (mkE S a+k)+1)))<2
    ·rw [ae t,ae t];rfl
    ·rw [ab t,ab t];have b2:=uA t;simp only [ob,d4,d8];rw [n _ b2];simp only [ob];rw [this];simp only [ah];have I:=jz b2;rw [sN (m+300) 45 S _ I j];simp only [ob];by_cases i:eK 45 (S.drop (mkE S (mkE S (mkE S (mkE S a+k)+1)+2)))=0
     ·rw [ae i,i];simp only [show ((0:Nat)==1)=false from rfl,iv,aj,cn];rw [E];rfl
     ·have r:=(ki 45 (S.drop (mkE S (mkE S (mkE S (mkE S a+k)+1)+2)))).resolve_left i;have o:=qR i;rw [ab i,r];simp only [show ((1:Nat)==1)=true from rfl,cX,ah];unfold rd3;rw [n _ o];simp only [ob];have F:=jz o;rw [NK _ _ _ _ _ _ _ _ _ _ _ S _ F j C];by_cases u:twoN (S.drop (mkE S (mkE S (mkE S (mkE S (mkE S a+k)+1)+2)+1)))<2
      ·rw [ae u,ae u];rfl
      ·rw [ab u,ab u];have H:=uA u;simp only [ob,d4,d8];rw [n _ H];simp only [ob];rw [D];rfl
def S9 (S:aa) (P:List Int):Nat⊕DR->Bool×Bool×aa×Int×Int×aa×aa×Int×Int×Int×List Int×aa×Int×Int
 | .inl k=>(false,false,[],0,0,[],[],0,0,0,P,S,(k:Int),5)
 | .inr (g,l,dg,x,s,m,d,M,Q,e)=>(g,l,dg,(x:Int),(s:Int),m,d,(M.1:Int),(M.2.1:Int),(M.2.2:Int),l3 Q,S,(e:Int),0)
abbrev RdSt:=aa×Int×Int×List Int×Bool×Bool×aa×Int×Int×aa×aa×List Int×List Int×List Int×aa×Int×Int
def rdSt (S:aa) (i:Int) (g l:Bool) (dg:aa) (x s:Int) (a b:aa) (P A B:List Int) (p:Nat):RdSt:=
 (S,i,i,[0,0,0],g,l,dg,x,s,a,b,P,A,B,S,(p:Int),0)
theorem Vp (m:Nat) (S:aa) (a:Nat) (h:a<=S.length) (b:S.length<100000) (d:S.length<m+300):
  aX (m+300) (rdSt S 0 false false [] 0 0 [] [] [0,0,0] [0,0,0] [0,0,0] a)=some (match o5 (S.drop (mkE S a)) with
   | .inl k=>.inr (.inr (false,false,[],0,0,[],[],0,0,0,[((mkE S a:Nat):Int),0,0],S,((mkE S a+k:Nat):Int),5))
   | .inr y=>.inl (rdSt S 1 y.1 y.2.1 y.2.2.1 (y.2.2.2.1:Int) (y.2.2.2.2.1:Int) [] [] [((mkE S a:Nat):Int),0,0] [((mkS (S.drop a):Nat):Int),0,0] [((mkS (S.drop (mkE S a+y.2.2.2.2.2)):Nat):Int),0,0] (mkE S (mkE S a+y.2.2.2.2.2)))):=by
 have c:∀p,p<=S.length->dU (m+300) S (p:Int) 0=some (((mkS (S.drop p):Nat):Int),S,((mkE S p:Nat):Int),0):=λp hp=>zq m S p hp b 0;have b0:=jz h;unfold aX rdSt;simp only [d4,d8,d16,e7,show (decide ((0:Int)<3))=true from rfl,show (decide ((0:Int)>0))=false from rfl,aj,ah,ob];rw [c a h];simp only [ob,show ix 3 0=some 0 from rfl,show Nat.blt 0 3=true from rfl,aj,fa,show ((0:Int)==0)=true from rfl];rw [MA (m+300) S (mkE S a) b0 b d];cases e:o5 (S.drop (mkE S a)) with
 | inl k=>rfl
 | inr y=>
  obtain ⟨g,l,dg,x,s,k⟩:=y;have bk:mkE S a+k<=S.length:=by
   have:=(qt e).2.1;rw [cY] at this;omega
  simp only [oc,ob,d4,d8,d16,show ((0:Int) != 0)=false from rfl,ah];rw [c _ bk];rfl
theorem VO (m:Nat) (S:aa) (g l:Bool) (dg:aa) (x s:Nat) (e n i:Int) (q:Nat) (h:q<=S.length) (o:S.length<100000) (t:S.length<m+300):
  aX (m+300) (rdSt S 1 g l dg (x:Int) (s:Int) [] [] [e,0,0] [n,0,0] [i,0,0] q)=some (
   if 0<s\/eK 45 (S.drop q)=0 then .inr (.inl (1,false,false,[],0,0,[],[],0,0,0,[0,0,0],[],0,0,g,l,dg,(x:Int),(s:Int),[],[],0,0,0,[e,0,0],[n,0,0],[i,0,0],S,(q:Int),0))
   else if twoN (S.drop (mkE S (q+1)))<2 then .inr (.inr (false,false,[],0,0,[],[],0,0,0,[e,((mkE S (q+1):Nat):Int),0],S,((mkE S (q+1)+twoN (S.drop (mkE S (q+1))):Nat):Int),5))
   else .inl (rdSt S 2 g l dg (x:Int) (s:Int) ((S.drop (mkE S (q+1))).take 2) [] [e,((mkE S (q+1):Nat):Int),0] [n,((mkS (S.drop (q+1)):Nat):Int),0] [i,((mkS (S.drop (mkE S (q+1)+2)):Nat):Int),0] (mkE S (mkE S (q+1)+2)))):=by
 have r:∀p,p<=S.length->dU (m+300) S (p:Int) 0=some (((mkS (S.drop p):Nat):Int),S,((mkE S p:Nat):Int),0):=λp hp=>zq m S p hp o 0;unfold aX rdSt;simp only [d4,d8,d16,e7,gA,show (decide ((1:Int)<3))=true from rfl,show (decide ((1:Int)>0))=true from rfl,aj,ah,ob,ku];by_cases hs:0<s
 ·have:decide (((s:Nat):Int)>0)=true:=by simp;omega
  rw [this,ae (.inl hs)];rfl
 ·have:decide (((s:Nat):Int)>0)=false:=by simp;omega
  rw [this];simp only [ah];rcases aF q S.length with k | f
  ·obtain ⟨c,hc⟩:∃c,S[q]?=some c:=⟨S[q],bn k⟩;have b:decide (S.length<=q)=false:=by simp;omega
   rw [b];simp only [ah,ew hc,ob];have j:(((c.toNat:Nat):Int) != 45)=!(c==45):=by rw [bne];congr 1;exact od c 45
   rw [j,bY hc,jn];by_cases a:c=45
   ·have w:IntKind.wrap .i64 ((q:Int)+1)=((q+1:Nat):Int):=by rw [wrap_i64 _ (by omega) (by omega)];omega
    rw [ae a,ab (show ¬(0<s\/(1:Nat)=0) from λz=>z.elim hs (by omega)),a];simp only [yp,cX,ah,ob,w];rw [r _ (by omega)];simp only [ob,show ix 3 1=some 1 from rfl,show Nat.blt 1 3=true from rfl,aj,fa,gB,show ((1:Int)==0)=false from rfl,show ((1:Int)==1)=true from rfl,ah];have b1:=jz (show q+1<=S.length by omega);rw [Jx (m+300) (by omega) S _ b1 o 0];by_cases d:twoN (S.drop (mkE S (q+1)))<2
    ·rw [ae d,ae d];rfl
    ·rw [ab d,ab d];simp only [ob,d4,d8,d16,show ((0:Int) != 0)=false from rfl,ah];rw [r _ (uA d)];rfl
   ·have:(c==45)=false:=aW.2 a;rw [ab a,ae (.inr rfl),this];rfl
  ·have b:decide (S.length<=q)=true:=by simp;omega
   rw [b,iP f,wx,ae (.inr rfl)];rfl
theorem Wb (m:Nat) (S:aa) (g l:Bool) (dg:aa) (x s:Nat) (j:aa) (f u n e t k:Int) (q:Nat) (h:q<=S.length) (v:S.length<100000) (z:S.length<m+300) (hs:¬0<s):
  aX (m+300) (rdSt S 2 g l dg (x:Int) (s:Int) j [] [f,e,0] [u,t,0] [n,k,0] q)=some (
   if eK 45 (S.drop q)=0 then .inr (.inl (2,false,false,[],0,0,[],[],0,0,0,[0,0,0],[],0,0,g,l,dg,(x:Int),(s:Int),j,[],0,0,0,[f,e,0],[u,t,0],[n,k,0],S,(q:Int),0))
   else if twoN (S.drop (mkE S (q+1)))<2 then .inr (.inr (false,false,[],0,0,[],[],0,0,0,[f,e,((mkE S (q+1):Nat):Int)],S,((mkE S (q+1)+twoN (S.drop (mkE S (q+1))):Nat):Int),5))
   else .inl (rdSt S 3 g l dg (x:Int) (s:Int) j ((S.drop (mkE S (q+1))).take 2) [f,e,((mkE S (q+1):Nat):Int)] [u,t,((mkS (S.drop (q+1)):Nat):Int)] [n,k,((mkS (S.drop (mkE S (q+1)+2)):Nat):Int)] (mkE S (mkE S (q+1)+2)))):=by
 have y:∀p,p<=S.length->dU (m+300) S (p:Int) 0=some (((mkS (S.drop p):Nat):Int),S,((mkE S p:Nat):Int),0):=λp hp=>zq m S p hp v 0;unfold aX rdSt;simp only [d4,d8,d16,e7,gA,show (decide ((2:Int)<3))=true from rfl,show (decide ((2:Int)>0))=true from rfl,aj,ah,ob,ku];have:decide (((s:Nat):Int)>0)=false:=by simp;omega
 rw [this];simp only [ah];rcases aF q S.length with r | i
 ·obtain ⟨c,hc⟩:∃c,S[q]?=some c:=⟨S[q],bn r⟩;have b:decide (S.length<=q)=false:=by simp;omega
  rw [b];simp only [ah,ew hc,ob];have o:(((c.toNat:Nat):Int) != 45)=!(c==45):=by rw [bne];congr 1;exact od c 45
  rw [o,bY hc,jn];by_cases a:c=45
  ·have w:IntKind.wrap .i64 ((q:Int)+1)=((q+1:Nat):Int):=by rw [wrap_i64 _ (by omega) (by omega)];omega
   rw [ae a,ab (show ¬((1:Nat)=0) by omega),a];simp only [yp,cX,ah,ob,w];rw [y _ (by omega)];simp only [ob,show ix 3 2=some 2 from rfl,show Nat.blt 2 3=true from rfl,aj,fa,gB,show ((2:Int)==0)=false from rfl,show ((2:Int)==1)=false from rfl,ah];have b1:=jz (show q+1<=S.length by omega);rw [Jx (m+300) (by omega) S _ b1 v 0];by_cases d:twoN (S.drop (mkE S (q+1)))<2
   ·rw [ae d,ae d];rfl
   ·rw [ab d,ab d];simp only [ob,d4,d8,d16,show ((0:Int) != 0)=false from rfl,ah];rw [y _ (uA d)];rfl
  ·have:(c==45)=false:=aW.2 a;rw [ab a,ae rfl,this];rfl
 ·have b:decide (S.length<=q)=true:=by simp;omega
  rw [b,iP i,wx,ae rfl];rfl
theorem Ee (m:Nat) (S:aa) (a:Nat) (h:a<=S.length) (v:S.length<100000) (r:S.length<m+300):
  ∃P:List Int,P.length=3/\ip (m+300) S (a:Int)=some (S9 S P (qM S a)):=by
 have b:∀p,mkS (S.drop p)<4:=λp=>Cc _;have t:∀p q,dJ (m+300) [((mkS (S.drop p):Nat):Int),0,0] [((mkS (S.drop q):Nat):Int),0,0] 1=some (l3 (spM (mkS (S.drop p),0,0) (mkS (S.drop q),0,0))):=λp q=>
  tU (m+300) (by omega) 1 (mkS (S.drop p),0,0) (mkS (S.drop q),0,0) (by omega) ⟨b p,by simp,by simp,by simp,by simp⟩ ⟨b q,by simp,by simp,by simp,by simp⟩
 have C:∀p q f c,dJ (m+300) [((mkS (S.drop p):Nat):Int),((mkS (S.drop f):Nat):Int),0] [((mkS (S.drop q):Nat):Int),((mkS (S.drop c):Nat):Int),0] 2=some (l3 (spM (mkS (S.drop p),mkS (S.drop f),0) (mkS (S.drop q),mkS (S.drop c),0))):=λp q f c=>
  tU (m+300) (by omega) 2 (mkS (S.drop p),mkS (S.drop f),0) (mkS (S.drop q),mkS (S.drop c),0) (by omega) ⟨b p,b f,by simp,by simp,by simp⟩ ⟨b q,b c,by simp,by simp,by simp⟩
 have u:∀p q f c e d,dJ (m+300) [((mkS (S.drop p):Nat):Int),((mkS (S.drop f):Nat):Int),((mkS (S.drop e):Nat):Int)] [((mkS (S.drop q):Nat):Int),((mkS (S.drop c):Nat):Int),((mkS (S.drop d):Nat):Int)] 3=some (l3 (spM (mkS (S.drop p),mkS (S.drop f),mkS (S.drop e)) (mkS (S.drop q),mkS (S.drop c),mkS (S.drop d)))):=λp q f c e d=>
  tU (m+300) (by omega) 3 (mkS (S.drop p),mkS (S.drop f),mkS (S.drop e)) (mkS (S.drop q),mkS (S.drop c),mkS (S.drop d)) (by omega) ⟨b p,b f,b e,by simp,by simp⟩ ⟨b q,b c,b d,by simp,by simp⟩
 have b0:=jz h;unfold ip qM;show ∃P:List Int,P.length=3/\ob (aq (aX (m+300)) (m+299+1) (rdSt S 0 false false [] 0 0 [] [] [0,0,0] [0,0,0] [0,0,0] a)) _=_;rw [aq,Vp m S a h v r];cases F:o5 (S.drop (mkE S a)) with
 | inl k=>(refine ⟨_,?_,rfl⟩;rfl)
 | inr y=>
  obtain ⟨g,l,dg,x,s,k⟩:=y;have bk:mkE S a+k<=S.length:=by
   have:=(qt F).2.1;rw [cY] at this;omega
  have b1:=jz bk;show ∃P:List Int,P.length=3/\ob (aq (aX (m+300)) (m+298+1) (rdSt S 1 g l dg (x:Int) (s:Int) [] [] [((mkE S a:Nat):Int),0,0] [((mkS (S.drop a):Nat):Int),0,0] [((mkS (S.drop (mkE S a+k)):Nat):Int),0,0] (mkE S (mkE S a+k)))) _=_;rw [aq,VO m S g l dg x s _ _ _ _ b1 v r];simp only [];by_cases hc:0<s\/eK 45 (S.drop (mkE S (mkE S a+k)))=0
  ·rw [ae hc,ae hc];refine ⟨[0,0,0],rfl,?_⟩;simp only [ob,d4,d8,d16];rw [t];rfl
  ·rw [ab hc,ab hc];have hs:¬0<s:=λz=>hc (.inl z);have w:=qR (λz=>hc (.inr z));have J:=jz w;unfold rd2;by_cases j:twoN (S.drop (mkE S (mkE S (mkE S a+k)+1)))<2
   ·rw [ae j,ae j];(refine ⟨_,?_,rfl⟩;rfl)
   ·rw [ab j,ab j];have b2:=uA j;have G:=jz b2;show ∃P:List Int,P.length=3/\ob (aq (aX (m+300)) (m+297+1) (rdSt S 2 g l dg (x:Int) (s:Int) _ [] [_,_,0] [_,_,0] [_,_,0] (mkE S (mkE S (mkE S (mkE S a+k)+1)+2)))) _=_;rw [aq,Wb m S g l dg x s _ _ _ _ _ _ _ _ G v r hs];by_cases i:eK 45 (S.drop (mkE S (mkE S (mkE S (mkE S a+k)+1)+2)))=0
    ·rw [ae i,ae i];refine ⟨[0,0,0],rfl,?_⟩;simp only [ob,d4,d8,d16];rw [C];rfl
    ·rw [ab i,ab i];have o:=qR i;have I:=jz o;unfold rd3;by_cases n:twoN (S.drop (mkE S (mkE S (mkE S (mkE S (mkE S a+k)+1)+2)+1)))<2
     ·rw [ae n,ae n];(refine ⟨_,?_,rfl⟩;rfl)
     ·rw [ab n,ab n];have H:∀(E D:aa) (P A B:List Int) (p:Nat),aX (m+300) (rdSt S 3 g l dg (x:Int) (s:Int) E D P A B p)=some (.inr (.inl (3,false,false,[],0,0,[],[],0,0,0,[0,0,0],[],0,0,g,l,dg,(x:Int),(s:Int),E,D,0,0,0,P,A,B,S,(p:Int),0))):=λ_ _ _ _ _ _=>rfl;show ∃P:List Int,P.length=3/\ob (aq (aX (m+300)) (m+296+1) (rdSt S 3 g l dg (x:Int) (s:Int) _ _ _ _ _ _)) _=_;rw [aq,H];refine ⟨[0,0,0],rfl,?_⟩;simp only [ob,d4,d8,d16];rw [u];rfl
theorem xj {g l:Bool} {d:aa} {x s:Nat} (h:okY g l d (x:Int) (s:Int)):(gh g l d (x:Int) (s:Int)).length<=25:=by
 have hs:=ma h;have e:=CL 69 (show x<100 by omega);have b:=CL 83 (show s<100 by omega);rw [kx];simp only [bH];have a:(if l=true then ([89]:aa) else []).length<=1:=by split<;>simp
 have c:(if g=true then ([45]:aa) else []).length<=1:=by split<;>simp
 omega
end Go.Sh
