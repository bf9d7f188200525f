
/- Plain proofs, kept as far as they are needed here (printed by prune.py).
   Conditions: none. -/
import Derived.Laws.RangeString
import Derived.Laws.RangeAny
import Derived.Test.YtaogbalpingjhaaGreatDoorShS
import Derived.Lib.IndexLaws
import Derived.Test.YtaogbalpingjhaaGreatDoorAbsZ
set_option linter.unusedVariables false
set_option linter.unusedSimpArgs false
set_option maxRecDepth 100000
namespace Go.Sh
open Go.Abs
theorem fE {X Y:Type} {step:X->Option (X⊕Y)} (I:X->Prop) (b:X->Nat) (G:X->Y)
  (h:∀x,I x->(∃a,step x=some (.inl a)/\I a/\b a<b x/\G a=G x)\/step x=some (.inr (G x))):
  ∀(n:Nat) (x:X),I x->b x<n->au step n x=some (G x)
 | 0,x,_,f=>by omega
 | n+1,x,hx,f=>by
  rcases h x hx with ⟨a,c,e,g,d⟩ | c
  ·simp only [au,c];rw [fE I b G h n a e (by omega),d]
  ·simp only [au,c]
theorem mJ {X Y:Type} {step:X->Option (X⊕Y)} (I:X->Prop) (b:X->Nat) (Q:Y->Prop)
  (h:∀x,I x->(∃a,step x=some (.inl a)/\I a/\b a<b x)\/∃y,step x=some (.inr y)/\Q y):
  ∀(n:Nat) (x:X),I x->b x<n->∃y,au step n x=some y/\Q y
 | 0,x,_,e=>by omega
 | n+1,x,hx,e=>by
  rcases h x hx with ⟨a,c,d,f⟩ | ⟨y,c,d⟩
  ·simp only [au,c];exact mJ I b Q h n a d (by omega)
  ·exact ⟨y,by simp only [au,c],d⟩
theorem xj (x:Int):0<=IntKind.wrap .u8 x/\IntKind.wrap .u8 x<256:=by
 show 0<=x%256/\x%256<256;omega
theorem jf (x:Int) (a:0<=x) (b:x<256):IntKind.wrap .u8 x=x:=by
 show x%256=x;omega
theorem F7 (x:Int):IntKind.wrap .u8 x=x%256:=rfl
theorem wrap_i64 (x:Int) (a:-9223372036854775808<=x) (b:x<9223372036854775808):IntKind.wrap .i64 x=x:=by
 simp only [IntKind.wrap,IntKind.signed,IntKind.bits];simp;omega
theorem km {l:aa} {i:Nat} {c:UInt8} (h:l[i]?=some c):sx l (i:Int)=some c:=by
 simp [sx,h]
theorem eY {n i:Nat} (h:i<n):ix n (i:Int)=some i:=by
 simp [ix];omega
theorem eD {n i:Nat} (h:i<=n):bx n (i:Int)=some i:=by
 simp [bx];omega
theorem xG {l:aa} {i:Nat} {c:UInt8} (h:l[i]?=some c) (hc:c.toNat<128):dec l i=(c.toNat,1):=by
 have a:i<l.length:=by
  rcases aE i l.length with b | b
  ·exact b
  ·rw [eX b] at h;cases h
 have hs:i<(ByteArray.mk l.toArray).size:=a;have d:(ByteArray.mk l.toArray)[i]'hs=c:=by
  rw [bG a] at h;simp only [ah] at h;exact h
 unfold dec;rw [decode_ascii _ i hs (by rw [d];exact hc),d]
theorem E9 {l:aa} {i:Nat} {c:UInt8} (h:l[i]?=some c) (hc:128<=c.toNat):128<=(dec l i).1/\1<=(dec l i).2:=by
 have a:i<l.length:=by
  rcases aE i l.length with b | b
  ·exact b
  ·rw [eX b] at h;cases h
 have hs:i<(ByteArray.mk l.toArray).size:=a;have d:(ByteArray.mk l.toArray)[i]'hs=c:=by
  rw [bG a] at h;simp only [ah] at h;exact h
 unfold dec;exact decode_high _ i hs (by rw [d];exact hc)
theorem us {α:Type} {l:List α} {i:Nat} {c:α} (h:l[i]?=some c):i<l.length:=by
 rcases aE i l.length with a | a
 ·exact a
 ·rw [eX a] at h;cases h
theorem eS {α:Type} {l:List α} {i:Nat} {c:α} (h:l[i]?=some c):l.drop i=c::l.drop (i+1):=by
 have a:=us h;rw [bG a] at h;simp only [ah] at h;rw [<-h,wZ a]
theorem ig {α β:Type} [BEq α] [LawfulBEq α] [DecidableEq α] (a b:α) (x y:β):(cond (a==b) x y)=if a=b then x else y:=by
 by_cases h:a=b
 ·subst h;simp
 ·rw [br.2 h];simp [h]
theorem sJ {α β:Type} [BEq α] [LawfulBEq α] [DecidableEq α] (a b:α) (x y:β):(cond (a != b) x y)=if a=b then y else x:=by
 by_cases h:a=b
 ·subst h;simp
 ·rw [bne,br.2 h];simp [h]
theorem bM {β:Type} (p:Prop) [Decidable p] (x y:β):(cond (decide p) x y)=if p then x else y:=by
 by_cases h:p<;>simp [h]
theorem EK {β:Type} (b:Bool) (x y:β):(cond (!b) x y)=cond b y x:=by cases b<;>rfl
theorem jS (a b:Nat):(decide (((a:Nat):Int)<((b:Nat):Int)))=decide (a<b):=by
 by_cases h:a<b<;>simp [h]
theorem FQ (a b:Nat):(decide (((a:Nat):Int)>=((b:Nat):Int)))=decide (b<=a):=by
 by_cases h:b<=a<;>simp [h]
theorem DW (c d:UInt8):((((c.toNat:Nat):Int))==((d.toNat:Nat):Int))=(c==d):=by
 by_cases h:c=d
 ·subst h;simp
 ·have b:c.toNat≠d.toNat:=λe=>h (gM.1 e);have a:((c.toNat:Nat):Int)≠((d.toNat:Nat):Int):=by omega
  rw [br.2 a,br.2 h]
theorem S3 (c:UInt8):UInt8.ofNat (Int.toNat ((c.toNat:Nat):Int))=c:=by simp
def two (c:Nat):aa:=[UInt8.ofNat (48+c / 10),UInt8.ofNat (48+c%10)]
def sea (m:aa):Int:=match (List.range 21).find? (λj=>m==two (21+j)) with | some j=>((21+j:Nat):Int) | none=>0
theorem lL {j:Nat} (a:j<21):sea (two (21+j))=((21+j:Nat):Int):=by
 have:((List.range 21).all λj=>sea (two (21+j))==((21+j:Nat):Int))=true:=by decide +kernel
 simpa using (List.all_eq_true.1 this) j (by simpa using a)
theorem mB (m:aa):sea m=0\/∃j,j<21/\m=two (21+j):=by
 unfold sea;split
 ·rename_i j h;have a:=List.find?_some h;have b:=List.mem_of_find?_eq_some h;exact .inr ⟨j,by simpa using b,by simpa using a⟩
 ·exact .inl rfl
theorem nJ {b:UInt8} {d:Nat} (h:Lib.digitVal b=some d):d<10/\b.toNat=48+d:=by
 unfold Lib.digitVal at h;split at h
 ·cases h;omega
 ·cases h
theorem KO {a b:UInt8} {v:Int} (h:Lib.atoi [a,b]=some v) (p:21<=v) (q:v<42):∃j,j<21/\[a,b]=two (21+j)/\v=((21+j:Nat):Int):=by
 obtain ⟨b0,r,e,l⟩:=Lib.atoi_cases h;cases e;rcases l with ⟨_,m,_,_,i⟩ | ⟨_,m,_,c,i⟩ | ⟨_,_,m,c,i⟩
 ·omega
 ·simp only [Lib.decFrom] at c;split at c
  ·rename_i d g;have:=(nJ g).1;simp only [ah] at c;omega
  ·cases c
 ·simp only [Lib.decFrom] at c;split at c
  ·rename_i d g;split at c
   ·rename_i d' f;obtain ⟨k1,k2⟩:=nJ g;obtain ⟨o,k4⟩:=nJ f;simp only [ah] at c;refine ⟨m - 21,by omega,?_,by omega⟩;have k:(21+(m - 21)) / 10=d:=by omega
    have n:(21+(m - 21))%10=d':=by omega
    unfold two;rw [k,n,<-k2,<-k4];simp
   ·cases c
  ·cases c
theorem vw {j:Nat} (a:j<21):Lib.atoi (two (21+j))=some ((21+j:Nat):Int):=by
 have:((List.range 21).all λj=>Lib.atoi (two (21+j))==some ((21+j:Nat):Int))=true:=by decide +kernel
 simpa using (List.all_eq_true.1 this) j (by simpa using a)
theorem n9 (n:Nat) (g l:Bool) (dg:aa) (x q:Int) (m d:aa) (k0 k1 k2:Int) (o:m.length<=18):aY n g l dg x q m d k0 k1 k2=some (sea m,decide (0<sea m)):=by
 have h:Nat.ble m.length 18=true:=co o;rcases mB m with f | ⟨j,c,rfl⟩
 ·unfold aY;rw [h,f];show opt (Lib.atoi m) _ _=_;cases k:Lib.atoi m with
  | none=>rfl
  | some v=>
   show cond _ _ _=_;by_cases i:m.length=2
   ·rw [i];obtain ⟨a,b,rfl⟩:∃a b,m=[a,b]:=by
     match m,i with
     | [a,b],_=>exact ⟨a,b,rfl⟩
    show ob (cT n v) _=_;unfold cT;rw [bM,bM];split
    ·rfl
    ·split
     ·rfl
     ·exfalso;obtain ⟨j,c,e,_⟩:=KO k (by omega) (by omega);rw [e,lL c] at f;omega
   ·rw [show (((m.length:Nat):Int) != 2)=true by simp;omega];rfl
 ·rw [lL c];have e:aY n g l dg x q (two (21+j)) d k0 k1 k2=some (((21+j:Nat):Int),true):=by
   unfold aY;rw [h,vw c];show ob (cT n ((21+j:Nat):Int)) _=_;unfold cT;rw [bM,bM,ab (by omega),ab (by omega)];rfl
  rw [e];have:decide (0<((21+j:Nat):Int))=true:=by simp;omega
  rw [this]
theorem NJ (n:Nat) {c:Nat} (hc:c<100):aP n (c:Int)=some (two c):=by
 have j:Int.tdiv (c:Int) 10=((c / 10:Nat):Int):=by
  rw [show (10:Int)=((10:Nat):Int) from rfl,<-Int.ofNat_tdiv]
 have i:Int.tmod (c:Int) 10=((c%10:Nat):Int):=by
  rw [show (10:Int)=((10:Nat):Int) from rfl,<-Int.ofNat_tmod]
 have g:c / 10<10:=by omega
 have h:c%10<10:=by omega
 unfold aP;rw [j,i];have k:IntKind.wrap .i64 ((c / 10:Nat):Int)=((c / 10:Nat):Int):=wrap_i64 _ (by omega) (by omega);have f:IntKind.wrap .i64 (((c / 10:Nat):Int)+1)=((c / 10+1:Nat):Int):=by rw [wrap_i64 _ (by omega) (by omega)];omega
 have d:IntKind.wrap .i64 (((c%10:Nat):Int)+1)=((c%10+1:Nat):Int):=by rw [wrap_i64 _ (by omega) (by omega)];omega
 rw [k,f,d,eD (by omega),eD (by omega)];show ob (bx (c / 10+1) ((c / 10:Nat):Int)) _=_;rw [eD (by omega)];show ob (bx (c%10+1) ((c%10:Nat):Int)) _=_;rw [eD (by omega)];unfold two;generalize c / 10=a at *;generalize c%10=b at *;have:((List.range 10).all λa=>(List.range 10).all λb=>ob (cat (List.drop a (List.take (a+1) ([48,49,50,51,52,53,54,55,56,57]:aa))) (List.drop b (List.take (b+1) ([48,49,50,51,52,53,54,55,56,57]:aa)))) (λs=>some s)==some [UInt8.ofNat (48+a),UInt8.ofNat (48+b)])=true:=by decide +kernel
 have e:=(bL.1 ((bL.1 this) a (by simpa using g))) b (by simpa using h);simpa using e
theorem J8 {m:aa} (h:∀j,j<21->m≠two (21+j)):sea m=0:=by
 rcases mB m with b | ⟨j,a,e⟩
 ·exact b
 ·exact absurd e (h j a)
theorem tN (n:Nat) (g l:Bool) (dg:aa) (x q:Int) (m d:aa) (k0 k1 k2:Int):∀(r j:Nat),j+r=21->(∀i,i<j->m≠two (21+i))->∀N,r<N->
  au (bq n) N (((21+j:Nat):Int),g,l,dg,x,q,m,d,k0,k1,k2)=some (if sea m=0 then .inr () else .inl (sea m)):=by
 intro r
 induction r with
 | zero=>
  intro j e a N c;obtain ⟨N,rfl⟩:∃k,N=k+1:=⟨N - 1,by omega⟩;have hs:sea m=0:=J8 (λi hi=>a i (by omega));rw [au];have:bq n (((21+j:Nat):Int),g,l,dg,x,q,m,d,k0,k1,k2)=some (.inr (.inr ())):=by
   unfold bq;rw [bM,ab (by show ¬(((21+j:Nat):Int)<=41);omega)]
  rw [this,ae hs]
 | succ r ih=>
  intro j e a N c;obtain ⟨N,rfl⟩:∃k,N=k+1:=⟨N - 1,by omega⟩;rw [au];by_cases b:m=two (21+j)
  ·have hs:sea m=((21+j:Nat):Int):=by rw [b];exact lL (by omega)
   have:bq n (((21+j:Nat):Int),g,l,dg,x,q,m,d,k0,k1,k2)=some (.inr (.inl ((21+j:Nat):Int))):=by
    unfold bq;rw [bM,ae (by show ((21+j:Nat):Int)<=41;omega)];show ob (aP n ((21+j:Nat):Int)) _=_;rw [NJ n (by omega)];show cond (m==two (21+j)) _ _=_;rw [ig,ae b]
   rw [this,hs,ab (by omega)]
  ·have:bq n (((21+j:Nat):Int),g,l,dg,x,q,m,d,k0,k1,k2)=some (.inl (((21+(j+1):Nat):Int),g,l,dg,x,q,m,d,k0,k1,k2)):=by
    unfold bq;rw [bM,ae (by show ((21+j:Nat):Int)<=41;omega)];show ob (aP n ((21+j:Nat):Int)) _=_;rw [NJ n (by omega)];show cond (m==two (21+j)) _ _=_;rw [ig,ab b];have:IntKind.wrap .i64 (((21+j:Nat):Int)+1)=((21+(j+1):Nat):Int):=by rw [wrap_i64 _ (by omega) (by omega)];omega
    show some (Sum.inl (IntKind.wrap .i64 (((21+j:Nat):Int)+1),_))=_;rw [this]
   rw [this]
   exact ih (j+1) (by omega) (λi hi=>by
    rcases aE i j with h | h
    ·exact a i h
    ·have:i=j:=by omega
     rw [this];exact b) N (by omega)
theorem Gs (n:Nat) (a:100<n) (g l:Bool) (dg:aa) (x q:Int) (m d:aa) (k0 k1 k2:Int):fL n g l dg x q m d k0 k1 k2=some (sea m):=by
 unfold fL;have:=tN n g l dg x q m d k0 k1 k2 21 0 rfl (λi hi=>absurd hi (by omega)) n (by omega);rw [show ((21+0:Nat):Int)=21 from rfl] at this;rw [this];by_cases h:sea m=0
 ·rw [ae h,h];rfl
 ·rw [ab h];rfl
def agr (s:aa) (k:Nat):Bool:=match s with
 | [a,b]=>(a==88||a==UInt8.ofNat (48+k / 10))&&(b==88||b==UInt8.ofNat (48+k%10))
 | _=>false
def eI (s:aa) (g:Nat):Bool:=(List.range g).any λi=>agr s (i+1)
theorem KD {X Y:Type} {step:X->Option (X⊕Y)} {f:Nat->X} {p:Nat->Bool} {g:Nat} {yes no:Y} (h:∀k,1<=k->k<=g->step (f k)=some (if p k then .inr yes else .inl (f (k+1)))) (c:step (f (g+1))=some (.inr no)) {N:Nat} (b:g<N):
  au step N (f 1)=some (if (List.range g).any (λi=>p (i+1)) then yes else no):=by
 have e:∀(r j:Nat),j+r=g->(∀i,i<j->p (i+1)=false)->∀N,r<N->au step N (f (j+1))=some (if (List.range g).any (λi=>p (i+1)) then yes else no):=by
  intro r
  induction r with
  | zero=>
   intro j d a N b;obtain ⟨N,rfl⟩:∃k,N=k+1:=⟨N - 1,by omega⟩;have:(List.range g).any (λi=>p (i+1))=false:=by
    rw [pM];intro i hi;rw [a i (by have:=jP.1 hi;omega)];simp
   rw [au,show j+1=g+1 by omega,c,this];rfl
  | succ r ih=>
   intro j d a N b;obtain ⟨N,rfl⟩:∃k,N=k+1:=⟨N - 1,by omega⟩;rw [au,h (j+1) (by omega) (by omega)];cases hp:p (j+1) with
   | true=>
    have:(List.range g).any (λi=>p (i+1))=true:=pD.2 ⟨j,jP.2 (by omega),hp⟩;rw [this];rfl
   | false=>
    exact ih (j+1) (by omega) (λi hi=>by
     rcases aE i j with h | h
     ·exact a i h
     ·have:i=j:=by omega
      rw [this];exact hp) N (by omega)
 exact e g 0 (by omega) (λi hi=>absurd hi (by omega)) N b
theorem wU {a:UInt8} {k:Nat} (b:k<256):((((a.toNat:Nat):Int))==((k:Nat):Int))=(a==UInt8.ofNat k):=by
 have h:(UInt8.ofNat k).toNat=k:=by simp;omega
 rw [<-DW,h]
theorem LA (n:Nat) (a b:UInt8) {g k:Nat} (r:1<=k) (s:k<=g) (q:g<=31):
  cG n ([a,b],(g:Int),(k:Int))=some (if agr [a,b] k then .inr (.inl true) else .inl ([a,b],(g:Int),((k+1:Nat):Int))):=by
 have o:Int.tdiv (k:Int) 10=((k / 10:Nat):Int):=by
  rw [show (10:Int)=((10:Nat):Int) from rfl,<-Int.ofNat_tdiv]
 have m:Int.tmod (k:Int) 10=((k%10:Nat):Int):=by
  rw [show (10:Int)=((10:Nat):Int) from rfl,<-Int.ofNat_tmod]
 have p:IntKind.wrap .u8 (48+IntKind.wrap .u8 (IntKind.wrap .i64 (Int.tdiv (k:Int) 10)))=((48+k / 10:Nat):Int):=by
  rw [o,wrap_i64 _ (by omega) (by omega),jf ((k / 10:Nat):Int) (by omega) (by omega),jf _ (by omega) (by omega)];omega
 have j:IntKind.wrap .u8 (48+IntKind.wrap .u8 (Int.tmod (k:Int) 10))=((48+k%10:Nat):Int):=by
  rw [m,jf ((k%10:Nat):Int) (by omega) (by omega),jf _ (by omega) (by omega)];omega
 have f:IntKind.wrap .i64 ((k:Int)+1)=((k+1:Nat):Int):=by rw [wrap_i64 _ (by omega) (by omega)];omega
 have c:(88:Int)=((88:Nat):Int):=rfl;have s0:sx [a,b] 0=some a:=rfl;have l:sx [a,b] 1=some b:=rfl;unfold cG;rw [bM,ae (show (k:Int)<=(g:Int) by omega)];simp only [s0,l,ob,p,j,f];rw [c,wU (by omega),wU (by omega),wU (by omega),wU (by omega)];show _=some (if ((a==UInt8.ofNat 88||a==UInt8.ofNat (48+k / 10))&&(b==UInt8.ofNat 88||b==UInt8.ofNat (48+k%10)))=true then _ else _);generalize (a==UInt8.ofNat 88)=d;generalize (b==UInt8.ofNat 88)=i;generalize (a==UInt8.ofNat (48+k / 10))=e;generalize (b==UInt8.ofNat (48+k%10))=h;cases d<;>cases i<;>cases e<;>cases h<;>rfl
theorem zt (n:Nat) (m:100<n) (s:aa) (g:Nat) (l:g<=31):cw n s (g:Int)=some (eI s g):=by
 unfold cw;by_cases c:s.length=2
 ·obtain ⟨a,b,rfl⟩:∃a b,s=[a,b]:=by
   match s,c with
   | [a,b],_=>exact ⟨a,b,rfl⟩
  have d:cG n ([a,b],(g:Int),((g+1:Nat):Int))=some (.inr (.inr ())):=by
   unfold cG;rw [bM,ab (show ¬((g+1:Nat):Int)<=(g:Int) by omega)]
  have:=KD (f:=λk=>([a,b],(g:Int),((k:Nat):Int))) (p:=agr [a,b]) (g:=g) (N:=n) (λk e j=>LA n a b e j l) d (by omega);show ob (au (cG n) n ([a,b],(g:Int),((1:Nat):Int))) _=_;rw [this];unfold eI;split<;>simp_all [ob]
 ·rw [show (((s.length:Nat):Int) != 2)=true by simp;omega];have:eI s g=false:=by
   unfold eI;rw [pM];intro i _
   match s,c with
   | [],_=>simp [agr]
   | [_],_=>simp [agr]
   | [_,_],h=>exact absurd rfl h
   | _::_::_::_,_=>simp [agr]
  rw [this];rfl
theorem ua (n:Nat) {a b:Int} (s:1<b) (j:b<1000) (u:-4611686018427387904<=a) (l:a<4611686018427387904):jY n a b=some (a / b,0):=by
 have p:(b==0)=false:=by simp;omega
 have k:(b==-1)=false:=by simp;omega
 unfold jY;simp only [p,k,af];have v:a / b*b+a%b=a:=Int.ediv_mul_add_emod a b;have t:=Int.emod_nonneg a (show b≠0 by omega);have m:=Int.emod_lt_of_pos a (show 0<b by omega);have r:-4611686018427387904<=a / b:=by
  rw [Int.le_ediv_iff_mul_le (by omega)];have:(-4611686018427387904:Int)*b<=-4611686018427387904*1:=Int.mul_le_mul_of_nonpos_left (by omega) (by omega);omega
 have o:a / b<4611686018427387904:=by
  rw [Int.ediv_lt_iff_lt_mul (by omega)];have:(4611686018427387904:Int)*1<=4611686018427387904*b:=Int.mul_le_mul_of_nonneg_left (by omega) (by omega);omega
 by_cases e:0<=a
 ·have d:Int.tdiv a b=a / b:=Ni e;have g:decide (a<0)=false:=by simp;omega
  have d2:decide (b<0)=false:=by simp;omega
  rw [d,g,d2,wrap_i64 (a / b) (by omega) (by omega)];cases (Int.tmod a b != 0)<;>rfl
 ·have g:decide (a<0)=true:=by simp;omega
  have d2:decide (b<0)=false:=by simp;omega
  have d:=Int.tdiv_eq_ediv (a:=a) (b:=b);have i:=Int.tmod_eq_emod (a:=a) (b:=b);rw [g,d2];by_cases c:b∣a
  ·have f:Int.tmod a b=0:=by
    rw [i,ae (.inr c)];have:=Int.emod_eq_zero_of_dvd c;omega
   rw [f,d,ae (.inr c)];rw [Int.add_zero,wrap_i64 (a / b) (by omega) (by omega)];rfl
  ·have q:a%b≠0:=λh=>c (NA h);have f:(Int.tmod a b != 0)=true:=by
    rw [i,ab (by rintro (h | h);exact e h;exact c h)];simp;omega
   have hs:b.sign=1:=Int.sign_eq_one_of_pos (by omega);rw [f,d,ab (by rintro (h | h);exact e h;exact c h),hs];rw [wrap_i64 (a / b+1) (by omega) (by omega),Int.add_sub_cancel,wrap_i64 (a / b) (by omega) (by omega)];rfl
theorem Qo (n:Nat) {a b:Int} (m:1<b) (f:b<1000):th n a b=some (a%b,0):=by
 have k:(b==0)=false:=by simp;omega
 have g:(b==-1)=false:=by simp;omega
 unfold th;simp only [k,g,af];have o:=Int.emod_nonneg a (show b≠0 by omega);have i:=Int.emod_lt_of_pos a (show 0<b by omega);have c:=Int.tmod_eq_emod (a:=a) (b:=b);have d2:decide (b<0)=false:=by simp;omega
 by_cases hc:0<=a\/b∣a
 ·rw [ae hc] at c;have:Int.tmod a b=a%b:=by omega
  rw [this,d2];have d:decide (a%b<0)=false:=by simp;omega
  rw [d];cases h:(a%b != 0)
  ·rfl
  ·rfl
 ·rw [ab hc] at c;have l:(b.natAbs:Int)=b:=by omega
  rw [l] at c;have e:a%b≠0:=λh=>hc (.inr (NA h));have j:(Int.tmod a b != 0)=true:=by simp;omega
  have d:decide (Int.tmod a b<0)=true:=by simp;omega
  rw [j,d,d2,c,wrap_i64 _ (by omega) (by omega),IH];rfl
def dr (y:Int):Prop:=-10000000000000000<=y/\y<=10000000000000000
instance (y:Int):Decidable (dr y):=by unfold dr;infer_instance
theorem fp (n:Nat) (y:Int):gQ n y=some (if dr y then 0 else 6):=by
 unfold gQ;rw [bM,bM];by_cases a:y < -10000000000000000
 ·rw [ae a,ab (show ¬dr y by unfold dr;omega)]
 ·by_cases b:y>10000000000000000
  ·rw [ab a,ae b,ab (show ¬dr y by unfold dr;omega)]
  ·rw [ab a,ab b,ae (show dr y by unfold dr;omega)]
theorem qf (n:Nat) {y:Int} (h:-20000000000000000<=y/\y<=20000000000000000):∃z,ef n y=some z:=by
 unfold ef;rw [wrap_i64 (y - 1) (by omega) (by omega),ua n (by omega) (by omega) (by omega) (by omega),ua n (by omega) (by omega) (by omega) (by omega),ua n (by omega) (by omega) (by omega) (by omega)];exact ⟨_,rfl⟩
theorem IM (n:Nat) {y:Int} (h:dr y):∃b e,iQ n y=some (b,e):=by
 unfold iQ;have h':=h;unfold dr at h';obtain ⟨z1,a⟩:=qf n (y:=y+1) (by omega);obtain ⟨z2,c⟩:=qf n (y:=y) (by omega);rw [fp,ae h,wrap_i64 (y+1) (by omega) (by omega),a,c];exact ⟨_,_,rfl⟩
theorem qt (n:Nat) {y:Int} (h:dr y) {m:Nat} (c:1<=m) (d:m<=12):∃v,dw n y (m:Int)=some v:=by
 unfold dw;obtain ⟨b,e,a⟩:=IM n h;rw [a];show ∃v,cond (b&&((m:Int)==2)) _ _=some v;cases (b&&((m:Int)==2)) with
 | true=>exact ⟨_,rfl⟩
 | false=>
  have:IntKind.wrap .i64 ((m:Int) - 1)=((m - 1:Nat):Int):=by rw [wrap_i64 _ (by omega) (by omega)];omega
  rw [this,eY (by omega)];have a:sS.length=12:=rfl;exact ⟨_,bG (show m - 1<sS.length by omega)⟩
theorem DV (n:Nat) {y:Int} (h:dr y) {m:Nat} (a:1<=m) (b:m<=12):iR n y (m:Int)=some 0:=by
 unfold iR;rw [fp,ae h];show cond (decide ((m:Int)<1)) _ _=_;rw [bM,bM,ab (by omega),ab (by omega)]
theorem Fj (n:Nat) {y:Int} (h:dr y) {m:Nat} (e:m<=11):∀(r j:Nat),j+r=m->∀(a:Int) (N:Nat),r<N->∃v,au (bm n) N (y,a,(m:Int),(j:Int))=some v:=by
 intro r
 induction r with
 | zero=>
  intro j c a N b;obtain ⟨N,rfl⟩:∃k,N=k+1:=⟨N - 1,by omega⟩;have:bm n (y,a,(m:Int),(j:Int))=some (.inr a):=by
   unfold bm;rw [bM,ab (show ¬((j:Int)<(m:Int)) by omega)]
  rw [au,this];exact ⟨_,rfl⟩
 | succ r ih=>
  intro j c a N b;obtain ⟨N,rfl⟩:∃k,N=k+1:=⟨N - 1,by omega⟩;obtain ⟨v,d⟩:=qt n h (m:=j+1) (by omega) (by omega);have w:IntKind.wrap .i64 ((j:Int)+1)=((j+1:Nat):Int):=by rw [wrap_i64 _ (by omega) (by omega)];omega
  have:bm n (y,a,(m:Int),(j:Int))=some (.inl (y,IntKind.wrap .i64 (a+v),(m:Int),((j+1:Nat):Int))):=by
   unfold bm;rw [bM,ae (show ((j:Int)<(m:Int)) by omega)];simp only [w,d,ob]
  rw [au,this];exact ih (j+1) (by omega) _ N (by omega)
theorem Hi (n:Nat) (d:100<n) {y:Int} (h:dr y) {m:Nat} (a:1<=m) (c:m<=12):∃v,dZ n y (m:Int)=some (v,0):=by
 unfold dZ jQ jI;have h':=h;unfold dr at h';obtain ⟨z,e⟩:=qf n (y:=y) (by omega);have w:IntKind.wrap .i64 ((m:Int) - 1)=((m - 1:Nat):Int):=by rw [wrap_i64 _ (by omega) (by omega)];omega
 rw [DV n h a c,fp,ae h,e,w];obtain ⟨v,b⟩:=Fj n h (m:=m - 1) (by omega) (m - 1) 0 (by omega) (IntKind.wrap .i64 (IntKind.wrap .i64 (365*y)+z)) n (by omega);refine ⟨v,?_⟩;show ob (au (bm n) n (y,IntKind.wrap .i64 (IntKind.wrap .i64 (365*y)+z),((m - 1:Nat):Int),((0:Nat):Int))) _=_;rw [b];rfl
theorem madd (n:Nat) {y:Int} (h:dr y) {m c:Nat} (j:1<=m) (k:m<=12) (hc:1<=c) (g:c<=6):my n y (m:Int) (IntKind.wrap .i64 ((c:Int) - 1)) =
  some (if 12<m+c - 1 then (if y=10000000000000000 then (0,0,6) else (y+1,((m+c - 1 - 12:Nat):Int),0)) else (y,((m+c - 1:Nat):Int),0)):=by
 have h':=h;unfold dr at h';unfold my;rw [DV n h j k,wrap_i64 (12*y) (by omega) (by omega),wrap_i64 ((m:Int) - 1) (by omega) (by omega),wrap_i64 (12*y+((m:Int) - 1)) (by omega) (by omega),wrap_i64 ((c:Int) - 1) (by omega) (by omega)];have i:oO n (12*y+((m:Int) - 1)) ((c:Int) - 1)=some (12*y+((m:Int) - 1)+((c:Int) - 1),0):=by
  unfold oO;rw [wrap_i64 (12*y+((m:Int) - 1)+((c:Int) - 1)) (by omega) (by omega),ig];by_cases a:(c:Int) - 1=0
  ·rw [ae a];have e:decide (12*y+((m:Int) - 1)>12*y+((m:Int) - 1))=false:=by simp
   have d2:decide ((c:Int) - 1>0)=false:=by simp;omega
   rw [e,d2,a,Int.add_zero];rfl
  ·rw [ab a];have e:decide (12*y+((m:Int) - 1)+((c:Int) - 1)>12*y+((m:Int) - 1))=true:=by simp;omega
   have d2:decide ((c:Int) - 1>0)=true:=by simp;omega
   rw [e,d2];rfl
 simp only [ob,i,eF,af];rw [ua n (by omega) (by omega) (by omega) (by omega),Qo n (by omega) (by omega)];simp only [fp];by_cases f:12<m+c - 1
 ·have d:(12*y+((m:Int) - 1)+((c:Int) - 1)) / 12=y+1:=by omega
  have b:(12*y+((m:Int) - 1)+((c:Int) - 1))%12=((m+c - 1 - 12:Nat):Int) - 1:=by omega
  rw [d,b,ae f];by_cases hy:y=10000000000000000
  ·rw [ae hy,ab (show ¬dr (y+1) by unfold dr;omega)];rfl
  ·rw [ab hy,ae (show dr (y+1) by unfold dr;omega),wrap_i64 (((m+c - 1 - 12:Nat):Int) - 1+1) (by omega) (by omega),IH];rfl
 ·have d:(12*y+((m:Int) - 1)+((c:Int) - 1)) / 12=y:=by omega
  have b:(12*y+((m:Int) - 1)+((c:Int) - 1))%12=((m+c - 1:Nat):Int) - 1:=by omega
  rw [d,b,ab f,ae h,wrap_i64 (((m+c - 1:Nat):Int) - 1+1) (by omega) (by omega),IH];rfl
theorem EY {j:Nat} (b:j<21):∃m c:Nat,lX[j]?=some ((m:Int),(c:Int))/\1<=m/\m<=12/\1<=c/\c<=6/\(12<m+c - 1↔j=3\/j=7\/j=9):=by
 have:((List.range 21).all λj=>match lX[j]? with
  | some (m,c)=>decide (0<=m)&&decide (0<=c)&&decide (1<=m.toNat)&&decide (m.toNat<=12)&&decide (1<=c.toNat)&&decide (c.toNat<=6)&&(decide (12<m.toNat+c.toNat - 1)==decide (j=3\/j=7\/j=9))
  | none=>false)=true:=by decide +kernel
 have h:=(bL.1 this) j (by simpa using b);split at h
 ·rename_i m c e;simp only [az,bX,bA,uc] at h;obtain ⟨⟨⟨⟨⟨⟨i,k⟩,g⟩,d⟩,a⟩,l⟩,f⟩:=h;exact ⟨m.toNat,c.toNat,by rw [e,EH i,EH k],g,d,a,l,f⟩
 ·cases h
theorem Rt (n:Nat) (p:100<n) {y:Int} (h:dr y) {j:Nat} (r:j<21):
  ∃a b c d,gh n y ((21+j:Nat):Int)=some (a,b,c,d,if y=10000000000000000/\(j=3\/j=7\/j=9) then 6 else 0):=by
 obtain ⟨m,c,e,s,t,B,z,q⟩:=EY r;have C:dY n ((21+j:Nat):Int)=some ((m:Int),(c:Int),0):=by
  unfold dY cT;rw [bM,bM,ab (by omega),ab (by omega)];have:IntKind.wrap .i64 (((21+j:Nat):Int) - 21)=(j:Int):=by rw [wrap_i64 _ (by omega) (by omega)];omega
  rw [this,eY r];show ob (lX[j]?) _=_;rw [e];rfl
 obtain ⟨v,A⟩:=Hi n p h s t;unfold gh;rw [C];show ∃a b c d,ob (dZ n y (m:Int)) _=_;rw [A];show ∃a b w d,ob (my n y (m:Int) (IntKind.wrap .i64 ((c:Int) - 1))) _=_;rw [madd n h s t B z];have h':=h;unfold dr at h';by_cases i:12<m+c - 1
 ·rw [ae i];by_cases hy:y=10000000000000000
  ·rw [ae hy,ae ⟨hy,q.1 i⟩];exact ⟨_,_,_,_,rfl⟩
  ·rw [ab hy,ab (λx=>hy x.1)];have g:dr (y+1):=by unfold dr;omega
   obtain ⟨k,f⟩:=Hi n p g (m:=m+c - 1 - 12) (by omega) (by omega);obtain ⟨u,o⟩:=qt n g (m:=m+c - 1 - 12) (by omega) (by omega);have l:fD n (y+1) ((m+c - 1 - 12:Nat):Int)=some (IntKind.wrap .i64 (IntKind.wrap .i64 (k+u) - 1),0):=by
    unfold fD;rw [f,o];rfl
   show ∃a b w d,ob (fD n (y+1) ((m+c - 1 - 12:Nat):Int)) _=_;rw [l];exact ⟨_,_,_,_,rfl⟩
 ·rw [ab i,ab (λx=>i (q.2 x.2))];obtain ⟨k,f⟩:=Hi n p h (m:=m+c - 1) (by omega) (by omega);obtain ⟨u,o⟩:=qt n h (m:=m+c - 1) (by omega) (by omega);have l:fD n y ((m+c - 1:Nat):Int)=some (IntKind.wrap .i64 (IntKind.wrap .i64 (k+u) - 1),0):=by
   unfold fD;rw [f,o];rfl
  show ∃a b w d,ob (fD n y ((m+c - 1:Nat):Int)) _=_;rw [l];exact ⟨_,_,_,_,rfl⟩
def hasB (set:aa) (c:UInt8):Bool:=set.any λd=>d==c
theorem nk (set:aa) (c:UInt8):(decide (Lib.indexByte set c<0))=!hasB set c:=by
 induction set with
 | nil=>simp [Lib.indexByte,hasB]
 | cons d l ih=>
  have e:=Lib.indexByte_ge l c;simp only [hasB,um] at ih ⊢;unfold Lib.indexByte;by_cases h:d=c
  ·simp [h]
  ·have f:(d==c)=false:=by simpa using h
   simp only [f,bE,aC,vB];rw [<-ih];by_cases b:Lib.indexByte l c=-1
   ·simp [b]
   ·have a:(Lib.indexByte l c==-1)=false:=by simpa using b
    simp only [a,bE,aC];have:¬Lib.indexByte l c+1<0:=by omega
    have:¬Lib.indexByte l c<0:=by omega
    simp [*]
theorem m9 (set:aa) (c:UInt8):(decide (Lib.indexByte set c>=0))=hasB set c:=by
 have:=nk set c;by_cases h:Lib.indexByte set c<0
 ·have a:¬Lib.indexByte set c>=0:=by omega
  simp only [h,a,mj,lO] at this ⊢;revert this;cases hasB set c<;>simp
 ·have a:Lib.indexByte set c>=0:=by omega
  simp only [h,a,mj,lO] at this ⊢;revert this;cases hasB set c<;>simp
def lcp:aa->aa->Nat
 | c::s,d::t=>if c==d then lcp s t+1 else 0
 | _,_=>0
theorem vH:∀s t:aa,lcp s t<=s.length
 | [],_=>by simp [lcp]
 | _::_,[]=>by simp [lcp]
 | c::s,d::t=>by
  have:=vH s t;simp only [lcp,aG];split<;>omega
def bV (p:UInt8->Bool):Nat->aa->Nat
 | 0,_=>0
 | _+1,[]=>0
 | k+1,c::l=>if p c then bV p k l+1 else 0
theorem lZ (p:UInt8->Bool):∀(k:Nat) (l:aa),bV p k l<=l.length
 | 0,_=>by simp [bV]
 | _+1,[]=>by simp [bV]
 | k+1,c::l=>by
  have:=lZ p k l;simp only [bV,aG];split<;>omega
theorem qA (n:Nat) (S:aa) (a:Nat) (h:a<=S.length):bQ n S (a:Int)=some (S.drop a):=by
 simp [bQ,ob,eD h]
theorem Aa (n:Nat) (s p:aa):ic n s p=some (s.take p.length==p):=by
 simp only [ic,fb,FQ];by_cases h:p.length<=s.length
 ·simp [h,ob,eD h]
 ·have:(s.take p.length==p)=false:=by
   rw [br];intro e;have:=ck List.length e;rw [eT] at this;omega
  simp [h,ob,this]
theorem GX (n:Nat) (t S:aa) (a:Nat) (h:a<=S.length):ei n t S (a:Int)=some ((S.drop a).take t.length==t):=by
 simp [ei,qA n S a h,ob,Aa]
theorem kZ (n:Nat) (t S:aa) (a:Nat) (h:a<=S.length) (d:S.length<4611686018427387904):
  aA n t S (a:Int)=some (if (S.drop a).take t.length=t then (true,S,((a+t.length:Nat):Int)) else (false,S,(a:Int))):=by
 simp only [aA,GX n t S a h,ob];by_cases hp:(S.drop a).take t.length=t
 ·have c:t.length<=S.length - a:=by
   have:=ck List.length hp;simp at this;omega
  have b:IntKind.wrap .i64 ((a:Int)+((t.length:Nat):Int))=((a+t.length:Nat):Int):=by rw [wrap_i64 _ (by omega) (by omega)];omega
  simp [hp,b]
 ·simp only [EK,ig,hp,aC]
theorem AU (n:Nat) (S:aa) (i:Int):bj n S i=some i:=rfl
def peek (l:aa):Int×Bool:=match l with | c::_=>(((c.toNat:Nat):Int),true) | []=>(0,false)
theorem nB (n:Nat) (S:aa) (a:Nat) (h:a<=S.length):aS n S (a:Int)=some (peek (S.drop a)):=by
 simp only [aS,qA n S a h,ob];rcases aE a S.length with b | d
 ·obtain ⟨c,hc⟩:∃c,S[a]?=some c:=⟨S[a],bG b⟩;rw [eS hc];simp [km hc,peek]
 ·rw [kP d];simp [peek]
theorem sX (n:Nat) (a e:Int) (S:aa) (i:Int):aF n a e S i=some (a,if e=0 then 5 else e):=by
 simp only [aF,ig];by_cases h:e=0<;>simp [h]
theorem fA (n:Nat) (set:aa) (c:UInt8):cM n set ((c.toNat:Nat):Int)=some (Lib.indexByte set c):=by
 simp only [cM,cn,ob,S3]
theorem yV (n:Nat) (set S:aa) (a:Nat) (h:a<=S.length) (f:S.length<4611686018427387904):
  bK n set S (a:Int)=some (match S.drop a with | c::_=>if hasB set c then .inr (((c.toNat:Nat):Int),S,((a+1:Nat):Int)) else .inl ((a:Int),5,S,(a:Int)) | []=>.inl ((a:Int),5,S,(a:Int))):=by
 simp only [bK,nB n S a h,ob];rcases aE a S.length with b | d
 ·obtain ⟨c,hc⟩:∃c,S[a]?=some c:=⟨S[a],bG b⟩;have e:IntKind.wrap .i64 ((a:Int)+1)=((a+1:Nat):Int):=by rw [wrap_i64 _ (by omega) (by omega)];omega
  rw [eS hc];simp only [peek,dc,af,fA,nk,AU,sX,ob,e];cases hasB set c<;>simp
 ·rw [kP d];simp [peek,AU,sX,ob]
theorem yL (S:aa) (a k:Nat):List.drop a (List.take (a+k) S)=(S.drop a).take k:=by
 rw [wt];congr 1;omega
theorem yy (n:Nat) (set:aa) (b most:Int) (S:aa) (a:Nat) (h:a<=S.length) (p:S.length<4611686018427387904) (q:S.length<n):
  au (ci n) n (set,b,most,(a:Int),(peek (S.drop a)).1,(peek (S.drop a)).2,S,(a:Int)) =
   some (b,(a:Int),S,((a+bV (hasB set) most.toNat (S.drop a):Nat):Int)):=by
 have:=fE (step:=ci n)
  (λx=>∃j:Nat,a+j<=S.length/\x=(set,b,most,(a:Int),(peek (S.drop (a+j))).1,(peek (S.drop (a+j))).2,S,((a+j:Nat):Int)))
  (λx=>S.length - x.2.2.2.2.2.2.2.toNat)
  (λx=>(b,(a:Int),S,((x.2.2.2.2.2.2.2.toNat+bV (hasB set) (most.toNat - (x.2.2.2.2.2.2.2.toNat - a)) (S.drop x.2.2.2.2.2.2.2.toNat):Nat):Int))) ?_ n
  (set,b,most,(a:Int),(peek (S.drop a)).1,(peek (S.drop a)).2,S,(a:Int)) ⟨0,by omega,by simp⟩ (by simp;omega)
 ·simpa using this
 rintro x ⟨j,o,rfl⟩;simp only [bW];have d:IntKind.wrap .i64 (((a+j:Nat):Int) - (a:Int))=(j:Int):=by rw [wrap_i64 _ (by omega) (by omega)];omega
 rcases aE (a+j) S.length with e | f
 ·obtain ⟨c,hc⟩:∃c,S[a+j]?=some c:=⟨S[a+j],bG e⟩;have i:IntKind.wrap .i64 (((a+j:Nat):Int)+1)=((a+(j+1):Nat):Int):=by rw [wrap_i64 _ (by omega) (by omega)];omega
  simp only [ci,eS hc,peek,aj,d];by_cases g:(j:Int)<most
  ·obtain ⟨k,l⟩:∃k,most.toNat - (a+j - a)=k+1:=⟨most.toNat - j - 1,by omega⟩;simp only [g,mj,aj,fA,ob,m9,l,bV];cases m:hasB set c with
   | true=>
    simp only [i,nB n S (a+(j+1)) (by omega),aj];refine .inl ⟨_,rfl,⟨j+1,by omega,rfl⟩,?_,?_⟩
    ·simp only [bW];omega
    ·simp only [bW,bf,jD,aI];have:most.toNat - (a+(j+1) - a)=k:=by omega
     rw [this,show a+(j+1)=a+j+1 by omega];omega
   | false=>exact .inr (by simp)
  ·refine .inr ?_;have:most.toNat - (a+j - a)=0:=by omega
   simp only [g,lO,af,this,bV,cP]
 ·refine .inr ?_;simp only [ci,kP f,peek,af];have:bV (hasB set) (most.toNat - (a+j - a)) []=0:=by cases most.toNat - (a+j - a)<;>rfl
  simp only [this,cP]
theorem sK (n:Nat) (set:aa) (b most:Int) (S:aa) (a:Nat) (h:a<=S.length) (f:S.length<4611686018427387904) (g:S.length<n):
  bC n set b most S (a:Int)=some (if ((bV (hasB set) most.toNat (S.drop a):Nat):Int)<b
   then .inl (((a+bV (hasB set) most.toNat (S.drop a):Nat):Int),5,S,((a+bV (hasB set) most.toNat (S.drop a):Nat):Int))
   else .inr ((S.drop a).take (bV (hasB set) most.toNat (S.drop a)),S,((a+bV (hasB set) most.toNat (S.drop a):Nat):Int))):=by
 have d:=lZ (hasB set) most.toNat (S.drop a);rw [cZ] at d;simp only [bC,AU,nB n S a h,ob];rw [yy n set b most S a h f g];generalize bV (hasB set) most.toNat (S.drop a)=k at d ⊢;have c:IntKind.wrap .i64 (((a+k:Nat):Int) - (a:Int))=(k:Int):=by rw [wrap_i64 _ (by omega) (by omega)];omega
 simp only [c,sX];by_cases e:(k:Int)<b
 ·simp [e]
 ·simp only [e,lO,af,aC];rw [eD (by omega)];simp only;rw [eD (by omega)];simp only [yL]
theorem OI (a b:Nat):(cond (decide (((a:Nat):Int)<((b:Nat):Int))) ((a:Nat):Int) ((b:Nat):Int))=((min a b:Nat):Int):=by
 by_cases h:a<b
 ·simp [h];omega
 ·simp [h];omega
def asc (l:aa):Prop:=∀c∈l,c.toNat<128
theorem Ii (r:Int) (h:128<=r):∃p e,(Utf8.encode r).data.toList=p++[e]/\1<=p.length/\p.length<=3/\128<=e.toNat:=by
 unfold Utf8.encode;have hc:128<=(if Utf8.valid r then r.toNat else Utf8.runeError):=by
  split
  ·omega
  ·decide
 generalize (if Utf8.valid r then r.toNat else Utf8.runeError)=c at hc;have a:128<=(UInt8.ofNat (0x80+c%64)).toNat:=by
  simp only [CH];omega
 simp only;split
 ·omega
 ·split
  ·exact ⟨[_],_,rfl,by simp,by simp,a⟩
  ·split
   ·exact ⟨[_,_],_,rfl,by simp,by simp,a⟩
   ·exact ⟨[_,_,_],_,rfl,by simp,by simp,a⟩
theorem Ib {l:aa} (h:asc l) {i:Nat} {c:UInt8} (hi:l[i]?=some c):c.toNat<128:=h c (fY hi)
theorem AA (n:Nat) (set:aa) (h:asc set) (e:set.length<n):au (cX n) n (set,0)=some (.inr ()):=by
 refine fE (step:=cX n) (λx=>x.1=set) (λx=>set.length - x.2) (λx=>.inr ()) ?_ n _ rfl (by simp;omega);rintro ⟨s,i⟩ rfl;simp only [cX];by_cases hi:i<s.length
 ·have b:Nat.blt i s.length=true:=co hi;obtain ⟨c,hc⟩:∃c,s[i]?=some c:=⟨s[i],bG hi⟩;have a:=Ib h hc;have d:(((c.toNat:Nat):Int)==65533)=false:=by rw [br];omega
  simp only [b,aj,xG hc a,d,af];exact .inl ⟨_,rfl,rfl,by simp only;omega,trivial⟩
 ·have b:Nat.blt i s.length=false:=by
   cases b:Nat.blt i s.length with
   | false=>rfl
   | true=>exact absurd (aD b) (by omega)
  simp only [b,af];exact .inr trivial
theorem vY {l:aa} {c:UInt8} (h:c∉l):Lib.indexByte l c<0:=by
 have a:=nk l c;have d:hasB l c=false:=by
  unfold hasB;rw [pM];intro x hx b;simp only [bA] at b;exact h (b▸hx)
 rw [d] at a;simpa using a
theorem AZ (n:Nat) (set:aa) (h:asc set) (A:set.length<n) (hs:set.length<=100) (r:Int) (x:128<=r):dq n set r=some (-1):=by
 have t:decide ((0:Int)<=r)=true:=aw (by omega);have l:decide (r<128)=false:=ay (by omega);simp only [dq,t,l,aj,af];by_cases d:r=65533
 ·have:(r==65533)=true:=bA.2 d;simp only [this,aj,AA n set h A,ob]
 ·have:(r==65533)=false:=br.2 d;simp only [this,af];obtain ⟨v,u⟩:∃v,de n r=some v:=by
   unfold de;generalize decide ((0:Int)<=r)=z;generalize decide (r<55296)=d2;generalize decide ((57343:Int)<r)=s;generalize decide (r<=1114111)=d4;cases z<;>cases d2<;>cases s<;>cases d4<;>exact ⟨_,rfl⟩
  simp only [u,ob];cases v with
  | false=>rfl
  | true=>
   simp only [dc,af];obtain ⟨p,e,hp,q,o,B⟩:=Ii r x;simp only [hp];have w:IntKind.wrap .i64 (((p++[e]).length:Nat) - 1:Int)=(p.length:Int):=by
    rw [wrap_i64 _ (by simp<;>omega) (by simp<;>omega)];simp
   rw [w];obtain ⟨m,rfl⟩:∃m,n=m+1:=⟨n - 1,by omega⟩;have a:cV (m+1) (set,p++[e],(p.length:Int),(p.length:Int))=some (.inr (.inl (-1)))\/cV (m+1) (set,p++[e],(p.length:Int),(p.length:Int))=some (.inr (.inr ())):=by
    simp only [cV,jS];by_cases i:p.length<set.length
    ·obtain ⟨c,hc⟩:∃c,set[p.length]?=some c:=⟨set[p.length],bG i⟩;have k:=Ib h hc;have f:(p++[e])[p.length]?=some e:=by simp
     have j:(((c.toNat:Nat):Int) != ((e.toNat:Nat):Int))=true:=by simp only [bne,kN,br];omega
     have g:IntKind.wrap .i64 ((p.length:Int)+1)=((p.length+1:Nat):Int):=by rw [wrap_i64 _ (by omega) (by omega)];omega
     have hx:e∉List.drop (p.length+1) (List.take set.length set):=by
      intro y;have:=h e (by simpa using List.mem_of_mem_drop y);omega
     left;simp only [i,mj,aj,km hc,km f,ob,j,g,eD (show p.length+1<=set.length by omega),fA,vY hx]
    ·right;simp only [i,lO,af]
   rcases a with b | b<;>simp only [au,b,ob]
theorem vQ (n:Nat) (set:aa) (c:UInt8) (r:Int) (f:r=((c.toNat:Nat):Int)) (hc:c.toNat<128):dq n set r=some (Lib.indexByte set c):=by
 have a:decide ((0:Int)<=r)=true:=aw (by omega);have e:decide (r<128)=true:=aw (by omega);have d:IntKind.wrap .u8 r=r:=jf _ (by omega) (by omega);have b:cM n set r=some (Lib.indexByte set c):=by rw [f];exact fA n set c
 simp only [dq,a,e,aj,d,b,ob]
theorem yU (n:Nat) (set:aa) (c:UInt8) (hc:c.toNat<128):dq n set ((c.toNat:Nat):Int)=some (Lib.indexByte set c):=vQ n set c _ rfl hc
theorem sF (n:Nat) (set:aa) (c:UInt8) (hc:c.toNat<128):cU n set ((c.toNat:Nat):Int)=some (hasB set c):=by
 simp only [cU,yU n set c hc,ob,m9]
theorem uK (n:Nat) (set:aa) (h:asc set) (a:set.length<n) (hs:set.length<=100) (r:Int) (b:128<=r):cU n set r=some false:=by
 simp only [cU,AZ n set h a hs r b,ob];rfl
theorem tj (x:Int) (a:0<=x) (b:x<65536):IntKind.wrap .u16 x=x:=by
 show x%65536=x;omega
theorem zQ (w a:Nat):BitVec.ofInt w (a:Int)=BitVec.ofNat w a:=by
 apply BitVec.eq_of_toNat_eq;simp
theorem OQ (k:Nat):(2:Int) ^ k=((2 ^ k:Nat):Int):=by simp
theorem K7 (a k:Nat):Int.fdiv (a:Int) (2 ^ k)=((a / 2 ^ k:Nat):Int):=by
 rw [OQ k,Int.fdiv_eq_ediv_of_nonneg _ (D2 _)];rfl
def inR (lo hi:Int) (c:UInt8):Bool:=decide (((c.toNat:Nat):Int)>=lo)&&decide (((c.toNat:Nat):Int)<=hi)
def cnt (lo hi:Int) (l:aa):Nat:=l.countP (inR lo hi)
theorem HK (lo hi:Int) (l:aa):cnt lo hi l<=l.length:=List.countP_le_length
theorem MC (lo hi:Int) {l:aa} {i:Nat} {c:UInt8} (h:l[i]?=some c):cnt lo hi (l.take (i+1))=cnt lo hi (l.take i)+if inR lo hi c then 1 else 0:=by
 unfold cnt;rw [ox,h,List.countP_append];simp [If]
theorem IA (n:Nat) (s:aa) (lo hi:Int) (hs:s.length<n) (l:s.length<100000):gA n s lo hi=some ((cnt lo hi s:Nat):Int):=by
 have:=fE (step:=fG n) (λx=>∃i:Nat,i<=s.length/\x=(s,lo,hi,((cnt lo hi (s.take i):Nat):Int),(i:Int))) (λx=>s.length - x.2.2.2.2.toNat) (λ_=>((cnt lo hi s:Nat):Int)) ?_ n (s,lo,hi,0,0) ⟨0,by omega,by simp [cnt]⟩ (by simp;omega)
 ·simp only [gA,this,ob]
 rintro x ⟨i,h,rfl⟩;rcases aE i s.length with a | k
 ·obtain ⟨c,hc⟩:∃c,s[i]?=some c:=⟨s[i],bG a⟩;have d:=MC lo hi hc;have e:=HK lo hi (s.take i);rw [eT] at e;have g:IntKind.wrap .i64 ((i:Int)+1)=((i+1:Nat):Int):=by rw [wrap_i64 _ (by omega) (by omega)];omega
  have j:IntKind.wrap .i64 (((cnt lo hi (s.take i):Nat):Int)+1)=((cnt lo hi (s.take i)+1:Nat):Int):=by rw [wrap_i64 _ (by omega) (by omega)];omega
  refine .inl ⟨(s,lo,hi,((cnt lo hi (s.take (i+1)):Nat):Int),((i+1:Nat):Int)),?_,⟨i+1,a,rfl⟩,by simp only [bW];omega,rfl⟩;simp only [fG,jS,a,mj,aj,km hc,ob,g,j];rw [d];by_cases b:((c.toNat:Nat):Int)>=lo
  ·by_cases f:((c.toNat:Nat):Int)<=hi
   ·simp [b,f,inR]
   ·simp [b,f,inR]
  ·simp [b,inR]
 ·have:i=s.length:=by omega
  subst this;refine .inr ?_;simp only [fG,jS,yZ,lO,af,me]
theorem Hm (lo hi:Int) (l:aa):cnt lo hi l=l.length↔∀c∈l,inR lo hi c=true:=by
 unfold cnt;rw [List.countP_eq_length]
theorem Lu (lo hi:Int) (l:aa):cnt lo hi l=0↔∀c∈l,inR lo hi c=false:=by
 unfold cnt;rw [List.countP_eq_zero];simp
def bg (c:UInt8):Bool:=inR 48 57 c
theorem dj (c:UInt8):bg c=true↔48<=c.toNat/\c.toNat<=57:=by
 unfold bg inR;simp only [az,bX];omega
theorem xJ (c:UInt8):inR 88 88 c=true↔c=88:=by
 unfold inR;simp only [az,bX];constructor
 ·intro h;apply gM.1;show c.toNat=88;omega
 ·rintro rfl;decide
theorem HV (c:UInt8):inR 48 48 c=true↔c=48:=by
 unfold inR;simp only [az,bX];constructor
 ·intro h;apply gM.1;show c.toNat=48;omega
 ·rintro rfl;decide
theorem I2:∀l:aa,cnt 48 57 l+cnt 88 88 l<=l.length/\(cnt 48 57 l+cnt 88 88 l=l.length↔∀c∈l,bg c=true\/c=88)
 | []=>by simp [cnt]
 | c::l=>by
  have ih:=I2 l;have g:cnt 48 57 (c::l)=cnt 48 57 l+if inR 48 57 c then 1 else 0:=by simp [cnt,If]
  have d:cnt 88 88 (c::l)=cnt 88 88 l+if inR 88 88 c then 1 else 0:=by simp [cnt,If]
  have h:¬(inR 48 57 c=true/\inR 88 88 c=true):=by
   rintro ⟨a,b⟩;have:=(dj c).1 a;rw [(xJ c).1 b] at this;exact absurd this.2 (by decide)
  rw [g,d,aG];simp only [cq,xm];have hx:=xJ c;have f:bg c=inR 48 57 c:=rfl;rw [f];cases a:inR 48 57 c<;>cases b:inR 88 88 c
  ·simp only [a,b] at hx ⊢;have:c≠88:=λe=>by simpa using hx.2 e
   simp [this];omega
  ·simp only [a,b] at hx ⊢;have:c=88:=hx.1 trivial;simp only [this,bE,aI,aC,false_or,jD];rw [<-ih.2];omega
  ·simp only [a,b] at hx ⊢;simp only [bE,aI,aC,true_or,jD];rw [<-ih.2];omega
  ·exact absurd ⟨a,b⟩ h
theorem II (n:Nat) (s set:aa) (r:asc set) (t:set.length<n) (u:set.length<=100) (hs:s.length<n):
  ∃y,au (ca n) n (true,set,s,0)=some y/\((y=.inr ()/\s.all (hasB set)=true)\/∃i:Nat,y=.inl (i:Int)/\s.all (hasB set)=false):=by
 refine mJ (step:=ca n) (λx=>x.1=true/\x.2.1=set/\x.2.2.1=s/\s.all (hasB set)=(s.drop x.2.2.2).all (hasB set)) (λx=>s.length - x.2.2.2) _ ?_ n _ ⟨rfl,rfl,rfl,rfl⟩ (by simp only;omega);rintro ⟨b,st,s',p⟩ ⟨h,g,f,a⟩;simp only at h g f a;rw [h,g,f];clear h g f b st s';rcases aE p s.length with j | m
 ·obtain ⟨c,hc⟩:∃c,s[p]?=some c:=⟨s[p],bG j⟩;have e:Nat.blt p s.length=true:=co j;rw [eS hc,kM] at a;rcases aE c.toNat 128 with d | d
  ·have q:=xG hc d;simp only [ca,e,aj,iH,q,sF n set c d,ob];cases k:hasB set c with
   | true=>
    rw [k,rn] at a;exact .inl ⟨_,rfl,⟨rfl,rfl,rfl,a⟩,by simp only;omega⟩
   | false=>
    rw [k,EW] at a;exact .inr ⟨_,rfl,.inr ⟨p,rfl,a⟩⟩
  ·have q:=E9 hc d;have k:hasB set c=false:=by
    unfold hasB;rw [pM];intro x hx o;simp only [bA] at o;have:=r x hx;rw [o] at this;omega
   rw [k,EW] at a;have l:=uK n set r t u (((dec s p).1:Nat):Int) (by omega);simp only [ca,e,aj,iH,l,ob];exact .inr ⟨_,rfl,.inr ⟨p,rfl,a⟩⟩
 ·have e:Nat.blt p s.length=false:=by
   cases h:Nat.blt p s.length with
   | false=>rfl
   | true=>exact absurd (aD h) (by omega)
  simp only [ca,e,af];rw [kP m] at a;exact .inr ⟨_,rfl,.inl ⟨rfl,by rw [a];rfl⟩⟩
theorem I6 (n:Nat) (s set:aa) (b:asc set) (f:set.length<n) (e:set.length<=100) (hs:s.length<n):fj n s set=some (s.all (hasB set)):=by
 obtain ⟨y,c,d⟩:=II n s set b f e hs;simp only [fj,jG,jU,c,ob];rcases d with ⟨rfl,a⟩ | ⟨i,rfl,a⟩
 ·rw [a];rfl
 ·rw [a];simp only [ah,rr];omega
theorem K9:asc [48,49,50,51,52,53,54,55,56,57]:=by unfold asc;decide
theorem Ip:asc [88,48,49,50,51,52,53,54,55,56,57]:=by unfold asc;decide
theorem gN (p:UInt8->Bool) (h:∀i:Fin 256,p (UInt8.ofNat i.val)=true) (c:UInt8):p c=true:=by
 have:=h ⟨c.toNat,c.toNat_lt⟩;simpa using this
theorem ux (c:UInt8):hasB [48,49,50,51,52,53,54,55,56,57] c=bg c:=by
 have:=gN (λc=>hasB [48,49,50,51,52,53,54,55,56,57] c==bg c) (by decide +kernel) c;simpa using this
theorem rS (c:UInt8):hasB [88,48,49,50,51,52,53,54,55,56,57] c=(bg c||c==88):=by
 have:=gN (λc=>hasB [88,48,49,50,51,52,53,54,55,56,57] c==(bg c||c==88)) (by decide +kernel) c;simpa using this
theorem Ia (n:Nat) (s:aa) (a:100<n) (hs:s.length<n):fj n s [48,49,50,51,52,53,54,55,56,57]=some (s.all bg):=by
 rw [I6 n s _ K9 (by simp;omega) (by simp) hs];congr 2;funext c;exact ux c
theorem Fv (n:Nat) (s:aa) (a:100<n) (hs:s.length<n):fj n s [88,48,49,50,51,52,53,54,55,56,57]=some (s.all λc=>bg c||c==88):=by
 rw [I6 n s _ Ip (by simp;omega) (by simp) hs];congr 2;funext c;exact rS c
def all0 (s:aa):Bool:=s.all λc=>c==48
theorem TC (n:Nat) (s:aa) (hs:s.length<n) (m:s.length<100000):∃y,eO n s 48=some y/\all0 s=all0 y/\y.length<=s.length:=by
 obtain ⟨y,j,a⟩:=mJ (step:=cJ n) (λx=>x.2=48/\all0 s=all0 x.1/\x.1.length<=s.length) (λx=>x.1.length) (λy=>all0 s=all0 y/\y.length<=s.length) (by
  rintro ⟨l,c⟩ ⟨rfl,h,f⟩;simp only at h f;by_cases k:l.length>0
  ·have d0:decide (((l.length:Nat):Int)>0)=true:=aw (by omega);have g:IntKind.wrap .i64 (((l.length:Nat):Int) - 1)=((l.length - 1:Nat):Int):=by rw [wrap_i64 _ (by omega) (by omega)];omega
   obtain ⟨c,hc⟩:∃c,l[l.length - 1]?=some c:=⟨l[l.length - 1],bG (by omega)⟩;simp only [cJ,d0,aj,g,km hc,ob];by_cases b:c=48
   ·have d:(((c.toNat:Nat):Int)==48)=true:=by rw [b];rfl
    simp only [d,aj,eD (show l.length - 1<=l.length by omega),cH];refine .inl ⟨(List.take (l.length - 1) l,48),rfl,⟨rfl,?_,by show (List.take (l.length - 1) l).length<=s.length;rw [eT];omega⟩,by show (List.take (l.length - 1) l).length<l.length;rw [eT];omega⟩;rw [h];have:l=l.take (l.length - 1)++[c]:=by
     have a:=ox (l:=l) (i:=l.length - 1);rw [hc,show l.length - 1+1=l.length by omega,me] at a;exact a
    rw [this];simp only [all0,zy,kM,List.all_nil,b];simp
   ·have d:(((c.toNat:Nat):Int)==48)=false:=by
     rw [br];intro e;exact b (gM.1 (by show c.toNat=48;omega))
    simp only [d,af];exact .inr ⟨_,rfl,h,f⟩
  ·have d0:decide (((l.length:Nat):Int)>0)=false:=ay (by omega);simp only [cJ,d0,af];exact .inr ⟨_,rfl,h,f⟩) n (s,48) ⟨rfl,rfl,aM _⟩ hs
 exact ⟨y,by simp only [eO,j,ob],a⟩
theorem S5 (n:Nat) (s:aa) (hs:s.length<n) (m:s.length<100000):∃y,fB n s 48=some y/\all0 s=(y==[]):=by
 obtain ⟨y,g,j⟩:=mJ (step:=dV n) (λx=>x.2=48/\all0 s=all0 x.1/\x.1.length<=s.length) (λx=>x.1.length) (λy=>all0 s=(y==[])) (by
  rintro ⟨l,c⟩ ⟨rfl,h,f⟩;simp only at h f;cases l with
  | nil=>exact .inr ⟨[],rfl,by rw [h];rfl⟩
  | cons c l=>
   have d0:decide ((((c::l).length:Nat):Int)>0)=true:=aw (by simp only [aG];omega);have hc:sx (c::l) 0=some c:=by simp [sx]
   simp only [dV,d0,aj,hc,ob];by_cases a:c=48
   ·have d:(((c.toNat:Nat):Int)==48)=true:=by rw [a];rfl
    have b:bx (c::l).length 1=some 1:=eD (i:=1) (by simp);simp only [d,aj,b,me,lE,cH];refine .inl ⟨_,rfl,⟨rfl,?_,by show l.length<=s.length;simp only [aG] at f;omega⟩,by simp⟩;rw [h];simp [all0,a]
   ·have d:(((c.toNat:Nat):Int)==48)=false:=by
     rw [br];intro e;exact a (gM.1 (by show c.toNat=48;omega))
    simp only [d,af];refine .inr ⟨_,rfl,?_⟩;rw [h];have k:(c==48)=false:=br.2 a;simp [all0,k]) n (s,48) ⟨rfl,rfl,aM _⟩ hs
 exact ⟨y,by simp only [fB,g,ob],j⟩
theorem PP (n:Nat) (s:aa) (hs:s.length<n) (b:s.length<100000):∃y,lW n s=some y/\(y==[])=all0 s:=by
 unfold lW;by_cases h:s=[]
 ·subst h;exact ⟨[],rfl,rfl⟩
 ·have:(s==([]:aa))=false:=br.2 h;obtain ⟨y,d,e,f⟩:=TC n s hs b;obtain ⟨z,c,a⟩:=S5 n y (by omega) (by omega);exact ⟨z,by simp only [this,af,d,c,ob],by rw [e,a]⟩
theorem Lt (s:aa):all0 s=true↔cnt 48 48 s=s.length:=by
 rw [Hm];unfold all0;rw [bL];constructor
 ·intro h c hc;have:=h c hc;rw [bA] at this;exact (HV c).2 this
 ·intro h c hc;rw [bA];exact (HV c).1 (h c hc)
def hasX (s:aa):Bool:=s.any λc=>c==88
theorem MK (s:aa):hasX s=decide (0<cnt 88 88 s):=by
 have:=Lu 88 88 s;unfold hasX;cases h:s.any λc=>c==88 with
 | true=>
  obtain ⟨c,hc,b⟩:=pD.1 h;rw [bA] at b;symm;rw [bX];rcases xA (cnt 88 88 s) with a | a
  ·have:=this.1 a c hc;rw [(xJ c).2 b] at this;cases this
  ·exact a
 | false=>
  symm;rw [rr];intro a;have:cnt 88 88 s=0:=this.2 λc hc=>by
   cases hx:inR 88 88 c with
   | false=>rfl
   | true=>
    rw [pM] at h;exact absurd (bA.2 ((xJ c).1 hx)) (h c hc)
  omega
theorem A6 (n:Nat) (s:aa):gq n s=some (hasX s):=by
 have e:UInt8.ofNat (Int.toNat 88)=(88:UInt8):=rfl;have hi:kU n s=some (Lib.indexByte s 88):=by
  simp only [kU,gX,cn,ob,e];by_cases h:([88]:aa)=s
  ·subst h;rfl
  ·have:(([88]:aa)==s)=false:=br.2 h;simp only [this,af]
 simp only [gq,hi,ob,m9];rfl
theorem rq (n:Nat) (g l:Bool) (d:aa) (x q:Int):bU n g l d x q=some (hasX d):=by
 simp only [bU,A6,ob]
def sE (acc:Nat) (c:UInt8):Nat:=acc*10+(c.toNat - 48)
def dval (acc:Nat) (l:aa):Nat:=l.foldl sE acc
theorem nL (acc:Nat):dval acc []=acc:=by unfold dval;rw [Ea]
theorem mE (acc:Nat) (c:UInt8) (l:aa):dval acc (c::l)=dval (sE acc c) l:=by
 unfold dval;rw [sq]
theorem DJ (l:aa) (acc:Nat) (c:UInt8):dval acc (l++[c])=dval acc l*10+(c.toNat - 48):=by
 have:dval acc (l++[c])=sE (dval acc l) c:=by
  unfold dval;rw [Dt,sq,Ea]
 rw [this];rfl
theorem N5 (M:Nat) (i:10000000000000000000<=M) (l:aa):∀(acc k:Nat),(∀c∈l,bg c=true)->acc<10 ^ k->l.length+k<=18->Lib.parseUintM M acc l=.ok (dval acc l)/\dval acc l<10 ^ (l.length+k):=by
 induction l with
 | nil=>
  intro acc k _ b _;rw [nL];refine ⟨rfl,?_⟩;simpa using b
 | cons c l ih=>
  intro acc k h b e;have hc:=(dj c).1 (h c (by simp));simp only [aG] at e;have hp:(10:Nat) ^ (k+1)=10 ^ k*10:=rZ 10 k;have g:(10:Nat) ^ (k+1)<=10 ^ 18:=kI (by decide) (by omega);have f:(10:Nat) ^ 18=1000000000000000000:=by decide
  have a:sE acc c=acc*10+(c.toNat - 48):=rfl;have ih:=ih (sE acc c) (k+1) (λd a=>h d (by simp [a])) (by omega) (by omega);refine ⟨?_,?_⟩
  ·simp only [Lib.parseUintM];rw [ae hc,ab (by omega),ab (by omega),<-a,ih.1,mE]
  ·rw [mE,aG,show l.length+1+k=l.length+(k+1) by omega];exact ih.2
theorem Gt {l:aa} (h:∀c∈l,bg c=true) (b:l≠[]) (k:l.length<=18):uP l=some ((dval 0 l:Nat):Int)/\dval 0 l<10 ^ l.length:=by
 obtain ⟨e,d⟩:=N5 (2 ^ 64 - 1) (by decide) l 0 0 h (by simp) (by omega);refine ⟨?_,by simpa using d⟩;have g:dval 0 l<10 ^ 18:=mi d (kI (by decide) (by omega));cases l with
 | nil=>exact absurd rfl b
 | cons c r=>
  have hc:=(dj c).1 (h c (by simp));have i:Lib.parseUintB 64 (c::r)=.ok (dval 0 (c::r)):=by
   unfold Lib.parseUintB;rw [ab b,e]
  have hs:¬(c.toNat=43\/c.toNat=45):=by omega
  simp only [uP,Lib.parseIntB,hs,aC,i];have f:(10:Nat) ^ 18=1000000000000000000:=by decide
  have a:(2:Nat) ^ (64 - 1)=9223372036854775808:=by decide
  have j:¬c.toNat=45:=by omega
  simp only [j,BY,jD,false_and,aC];rw [a,ab (by omega)]
theorem KG (n k:Nat) (h:k<=18) (j:18<n):mI n (k:Int)=some (((10 ^ k:Nat):Int),0):=by
 have e:(10:Nat) ^ 18=1000000000000000000:=by decide
 have:=fE (step:=jt n) (λx=>∃i:Nat,i<=k/\x=(((10 ^ i:Nat):Int),(k:Int),(i:Int))) (λx=>k - x.2.2.toNat) (λ_=>((10 ^ k:Nat):Int)) (by
  rintro x ⟨i,hi,rfl⟩;rcases aE i k with a | b
  ·have c:(10:Nat) ^ (i+1)<=10 ^ 18:=kI (by decide) (by omega);have hp:(10:Nat) ^ (i+1)=10 ^ i*10:=rZ 10 i;have f:IntKind.wrap .i64 (((10 ^ i:Nat):Int)*10)=((10 ^ (i+1):Nat):Int):=by rw [wrap_i64 _ (by omega) (by omega)];omega
   have d:IntKind.wrap .i64 ((i:Int)+1)=((i+1:Nat):Int):=by rw [wrap_i64 _ (by omega) (by omega)];omega
   refine .inl ⟨_,?_,⟨i+1,a,rfl⟩,by simp only [bW];omega,rfl⟩;simp only [jt,jS,a,mj,aj,f,d]
  ·have:i=k:=by omega
   subst this;refine .inr ?_;simp only [jt,jS,yZ,lO,af]) n (1,(k:Int),0) ⟨0,by omega,rfl⟩ (by simp;omega)
 have g:decide ((k:Int)<0)=false:=ay (by omega);have d2:decide ((k:Int)>18)=false:=ay (by omega);simp only [mI,g,d2,af,this,ob]
theorem jn (x:Int) (a:0<=x) (b:x<18446744073709551616):IntKind.wrap .u64 x=x:=by
 show x%18446744073709551616=x;omega
theorem CO (x:Int):IntKind.wrap .u64 x=x%18446744073709551616:=rfl
theorem IU {a:Nat} (b:a<18446744073709551616):bits .and .u64 (a:Int) 4294967295=((a%4294967296:Nat):Int):=by
 show IntKind.wrap .u64 ((BitVec.ofInt 64 (a:Int) &&& BitVec.ofInt 64 ((4294967295:Nat):Int)).toNat:Int)=_;rw [zQ,zQ,BitVec.toNat_and,BitVec.toNat_ofNat,BitVec.toNat_ofNat,pV (show a<2 ^ 64 from b),pV (by decide)];have:=Nat.and_two_pow_sub_one_eq_mod a 32;rw [show (2:Nat) ^ 32 - 1=4294967295 from by decide,show (2:Nat) ^ 32=4294967296 from by decide] at this;rw [this];exact jn _ (by omega) (by omega)
theorem LV (a:Nat):Int.fdiv (a:Int) (2 ^ 32)=((a / 4294967296:Nat):Int):=by
 rw [K7]
theorem D7 {a b A B:Nat} (c:a<=A) (d:b<=B):a*b<=A*B:=vj c d
theorem IL (a b:Nat):a*b=(a / 4294967296)*(b / 4294967296)*18446744073709551616+((a / 4294967296)*(b%4294967296)+(a%4294967296)*(b / 4294967296))*4294967296+(a%4294967296)*(b%4294967296):=by
 have f:a=(a / 4294967296)*4294967296+a%4294967296:=by omega
 have e:b=(b / 4294967296)*4294967296+b%4294967296:=by omega
 generalize a / 4294967296=d at f ⊢;generalize a%4294967296=h at f ⊢;generalize b / 4294967296=c at e ⊢;generalize b%4294967296=g at e ⊢;subst f e;rw [fM,Nat.mul_add,Nat.mul_add];have j:d*4294967296*(c*4294967296)=d*c*18446744073709551616:=by
  rw [Nat.mul_mul_mul_comm]
 have k:d*4294967296*g=d*g*4294967296:=by rw [Nat.mul_right_comm]
 have i:h*(c*4294967296)=h*c*4294967296:=by rw [Bf]
 rw [j,k,i,fM];omega
theorem Tv (n a b:Nat) (l:a<18446744073709551616) (s:b<18446744073709551616):jq n (a:Int) (b:Int)=some (((a*b / 18446744073709551616:Nat):Int),((a*b%18446744073709551616:Nat):Int)):=by
 have q:=IL a b;have g:a / 4294967296<=4294967295:=by omega
 have h:a%4294967296<=4294967295:=by omega
 have j:b / 4294967296<=4294967295:=by omega
 have i:b%4294967296<=4294967295:=by omega
 have x:=D7 h i;have y:=D7 h j;have t:=D7 g i;have m:=D7 g j;have k:IntKind.wrap .u64 ((a:Int)*(b:Int))=((a*b%18446744073709551616:Nat):Int):=by
  rw [CO,<-G4];omega
 simp only [jq,LV,IU l,IU s,k];simp only [<-G4];generalize (a / 4294967296)*(b / 4294967296)=e at *;generalize (a / 4294967296)*(b%4294967296)=d at *;generalize (a%4294967296)*(b / 4294967296)=f at *;generalize (a%4294967296)*(b%4294967296)=c at *;generalize a*b=N at *;have z:IntKind.wrap .u64 ((c:Nat):Int)=((c:Nat):Int):=jn _ (by omega) (by omega);have p:IntKind.wrap .u64 ((d:Nat):Int)=((d:Nat):Int):=jn _ (by omega) (by omega);have r:IntKind.wrap .u64 ((f:Nat):Int)=((f:Nat):Int):=jn _ (by omega) (by omega);have u:IntKind.wrap .u64 ((e:Nat):Int)=((e:Nat):Int):=jn _ (by omega) (by omega);rw [z,p,r,u,LV c];have v:IntKind.wrap .u64 (((d:Nat):Int)+((c / 4294967296:Nat):Int))=((d+c / 4294967296:Nat):Int):=by rw [jn _ (by omega) (by omega)];omega
 rw [v,LV,IU (by omega)];have w:IntKind.wrap .u64 (((e:Nat):Int)+(((d+c / 4294967296) / 4294967296:Nat):Int))=((e+(d+c / 4294967296) / 4294967296:Nat):Int):=by rw [jn _ (by omega) (by omega)];omega
 have o:IntKind.wrap .u64 ((((d+c / 4294967296)%4294967296:Nat):Int)+((f:Nat):Int))=(((d+c / 4294967296)%4294967296+f:Nat):Int):=by rw [jn _ (by omega) (by omega)];omega
 rw [w,o,LV];have w8:IntKind.wrap .u64 (((e+(d+c / 4294967296) / 4294967296:Nat):Int)+((((d+c / 4294967296)%4294967296+f) / 4294967296:Nat):Int))=((N / 18446744073709551616:Nat):Int):=by
  rw [jn _ (by omega) (by omega)];omega
 rw [w8]
theorem QU (n a b:Nat) (k:a<9223372036854775808) (j:b<9223372036854775808):sW n (a:Int) (b:Int)=some (if a*b<9223372036854775808 then (((a*b:Nat):Int),0) else (0,15)):=by
 have i:decide ((a:Int)<0)=false:=ay (by omega);have d2:decide ((b:Int)<0)=false:=ay (by omega);have g:IntKind.wrap .u64 (a:Int)=a:=jn _ (by omega) (by omega);have f:IntKind.wrap .u64 (b:Int)=b:=jn _ (by omega) (by omega);simp only [sW,qz,i,d2,af,g,f,ob,Tv n a b (by omega) (by omega)];generalize a*b=N;by_cases h:18446744073709551616<=N
 ·have c:decide (((N / 18446744073709551616:Nat):Int)>0)=true:=aw (by omega);rw [c,ab (by omega)];rfl
 ·have c:decide (((N / 18446744073709551616:Nat):Int)>0)=false:=ay (by omega);have e:N%18446744073709551616=N:=pV (by omega);rw [c,e];simp only [af,BEq.rfl,dc,pT,jb,aj];by_cases d:N<9223372036854775808
  ·have d4:decide (((N:Nat):Int)<=9223372036854775807)=true:=aw (by omega);rw [d4,ae d,aj,wrap_i64 _ (by omega) (by omega)]
  ·have d4:decide (((N:Nat):Int)<=9223372036854775807)=false:=ay (by omega);rw [d4,ab d,af]
def E16:Nat:=10000000000000000
theorem O6 {x:Nat} (hx:17<=x):E16<10 ^ x:=by
 have:(10:Nat) ^ 17<=10 ^ x:=kI (by decide) hx;have a:(10:Nat) ^ 17=100000000000000000:=by decide
 unfold E16;omega
theorem Iy (n:Nat) (g l:Bool) (d:aa) (x:Nat) (s:Int) (j:∀c∈d,bg c=true) (e:d≠[]) (p:d.length<=17) (hx:x<=18) (f:18<n):
  dk n g l d (x:Int) s=some (if dval 0 d*10 ^ x<=E16 then (((dval 0 d*10 ^ x:Nat):Int),0) else (0,6)):=by
 obtain ⟨k,m⟩:=Gt j e (by omega);have r:dval 0 d<10 ^ 17:=mi m (kI (by decide) p);have hp:(10:Nat) ^ x<=10 ^ 18:=kI (by decide) hx;have q:(10:Nat) ^ 17=100000000000000000:=by decide
 have o:(10:Nat) ^ 18=1000000000000000000:=by decide
 have i:Nat.ble d.length 9223372036854775806=true:=co (by omega);simp only [dk,i,aj,k,ob,KG n x hx f,eF,af,QU n _ _ (show dval 0 d<9223372036854775808 by omega) (show 10 ^ x<9223372036854775808 by omega)];generalize dval 0 d*10 ^ x=N;unfold E16;by_cases h:N<9223372036854775808
 ·rw [ae h];simp only [eF,af];by_cases b:N<=10000000000000000
  ·have a:decide (((N:Nat):Int)>10000000000000000)=false:=ay (by omega);rw [a,ae b,af]
  ·have a:decide (((N:Nat):Int)>10000000000000000)=true:=aw (by omega);rw [a,ab b,aj]
 ·rw [ab h,ab (by omega)];rfl
def pre (d:aa) (i:Nat):Nat:=dval 0 (d.take i)*10 ^ (i - d.length)
theorem Nn {d:aa} {i:Nat} {c:UInt8} (h:d[i]?=some c):pre d (i+1)=10*pre d i+(c.toNat - 48):=by
 have a:=us h;unfold pre;rw [ox,h,show i+1 - d.length=0 by omega,show i - d.length=0 by omega];simp only [Option.toList,DJ,Nat.pow_zero,qo];omega
theorem Nu {d:aa} {i:Nat} (h:d.length<=i):pre d (i+1)=10*pre d i:=by
 unfold pre;rw [iP (show d.length<=i+1 by omega),iP h,show i+1 - d.length=(i - d.length)+1 by omega,rZ];rw [<-Bf];omega
theorem EZ (d:aa):∀k i,pre d i<=pre d (i+k)
 | 0,i=>aM _
 | k+1,i=>by
  have ih:=EZ d k i;rcases aE (i+k) d.length with a | b
  ·have:=Nn (bG a);rw [show i+(k+1)=i+k+1 by omega,this];omega
  ·have:=Nu b;rw [show i+(k+1)=i+k+1 by omega,this];omega
theorem FU (n:Nat) (d:aa) (x:Nat) (t:∀c∈d,bg c=true) (w:d.length<=100) (hx:x<=100) (v:d.length+x<n):
  dK n d (x:Int)=some (if dval 0 d*10 ^ x<=E16 then (((dval 0 d*10 ^ x:Nat):Int),1) else (0,0)):=by
 have a:pre d (d.length+x)=dval 0 d*10 ^ x:=by
  unfold pre;rw [iP (by omega),show d.length+x - d.length=x by omega]
 have w0:IntKind.wrap .i64 (((d.length:Nat):Int)+(x:Int))=((d.length+x:Nat):Int):=by rw [wrap_i64 _ (by omega) (by omega)];omega
 have:=fE (step:=dS n) (λq=>∃i:Nat,i<=d.length+x/\pre d i<=E16/\q=(d,(x:Int),((pre d i:Nat):Int),(i:Int))) (λq=>d.length+x - q.2.2.2.toNat) (λ_=>if dval 0 d*10 ^ x<=E16 then .inr ((dval 0 d*10 ^ x:Nat):Int) else .inl (0,0)) (by
  rintro q ⟨i,hi,hp,rfl⟩;simp only [dS,w0,jS];unfold E16 at hp ⊢;have o:IntKind.wrap .i64 ((i:Int)+1)=((i+1:Nat):Int):=by rw [wrap_i64 _ (by omega) (by omega)];omega
  have r:IntKind.wrap .i64 (10*((pre d i:Nat):Int))=((10*pre d i:Nat):Int):=by rw [wrap_i64 _ (by omega) (by omega)];omega
  by_cases f:i<d.length+x
  ·have s:=EZ d (d.length+x - (i+1)) (i+1);rw [show i+1+(d.length+x - (i+1))=d.length+x by omega,a] at s;simp only [f,mj,aj,o,r];rcases aE i d.length with e | j
   ·obtain ⟨c,hc⟩:∃c,d[i]?=some c:=⟨d[i],bG e⟩;have l:=(dj c).1 (t c (fY hc));have hs:=Nn hc;have m:IntKind.wrap .u8 (((c.toNat:Nat):Int) - 48)=((c.toNat - 48:Nat):Int):=by rw [jf _ (by omega) (by omega)];omega
    have p:IntKind.wrap .i64 ((c.toNat - 48:Nat):Int)=((c.toNat - 48:Nat):Int):=wrap_i64 _ (by omega) (by omega);have u:IntKind.wrap .i64 (((10*pre d i:Nat):Int)+((c.toNat - 48:Nat):Int))=((pre d (i+1):Nat):Int):=by rw [wrap_i64 _ (by omega) (by omega)];omega
    simp only [e,mj,aj,km hc,ob,m,p,u];by_cases k:pre d (i+1)<=10000000000000000
    ·have b:decide (((pre d (i+1):Nat):Int)>10000000000000000)=false:=ay (by omega);simp only [b,af];exact .inl ⟨_,rfl,⟨i+1,f,k,rfl⟩,by simp only [bW];omega,trivial⟩
    ·have b:decide (((pre d (i+1):Nat):Int)>10000000000000000)=true:=aw (by omega);simp only [b,aj];rw [ab (by omega)];exact .inr rfl
   ·have hs:=Nu j;have g:¬i<d.length:=by omega
    simp only [g,lO,af];rw [<-hs];by_cases k:pre d (i+1)<=10000000000000000
    ·have b:decide (((pre d (i+1):Nat):Int)>10000000000000000)=false:=ay (by omega);simp only [b,af];exact .inl ⟨_,rfl,⟨i+1,f,k,rfl⟩,by simp only [bW];omega,trivial⟩
    ·have b:decide (((pre d (i+1):Nat):Int)>10000000000000000)=true:=aw (by omega);simp only [b,aj];rw [ab (by omega)];exact .inr rfl
  ·have:i=d.length+x:=by omega
   subst this;simp only [yZ,lO,af];rw [a] at hp ⊢;rw [ae hp];exact .inr rfl) n (d,(x:Int),0,0) ⟨0,by omega,by unfold pre E16;simp [nL],by unfold pre;simp [nL]⟩ (by simp;omega)
 simp only [dK,this,ob];by_cases h:dval 0 d*10 ^ x<=E16
 ·rw [ae h,ae h]
 ·rw [ab h,ab h]
def okM (d:aa) (x:Int):Prop:=(∀c∈d,bg c=true)/\1<=d.length/\d.length<=17/\d.head?≠some 48/\0<=x/\x<=16/\¬(x=0/\d.length<5)/\dval 0 d*10 ^ x.toNat<=E16
def okL (d:aa) (x s:Int):Prop:=okM d x/\0<=s/\s<=(d.length:Int)+x
def okS (g:Bool) (d:aa) (x s:Int):Prop:=d.length=4/\(∀c∈d,bg c=true\/c=88)/\x=0/\¬(g=true/\all0 d=true)/\0<=s/\s<=4/\¬(0<s/\hasX d=true)
def okY (g l:Bool) (d:aa) (x s:Int):Prop:=if l=true then okL d x s else okS g d x s
instance (d:aa) (x:Int):Decidable (okM d x):=by unfold okM;infer_instance
instance (d:aa) (x s:Int):Decidable (okL d x s):=by unfold okL;infer_instance
instance (g:Bool) (d:aa) (x s:Int):Decidable (okS g d x s):=by unfold okS;infer_instance
instance (g l:Bool) (d:aa) (x s:Int):Decidable (okY g l d x s):=by unfold okY;infer_instance
theorem GF (d:aa):d.all bg=true↔∀c∈d,bg c=true:=bL
theorem C3 (d:aa):(d.all λc=>bg c||c==88)=true↔∀c∈d,bg c=true\/c=88:=by
 rw [bL];constructor
 ·intro h c hc;have:=h c hc;simpa using this
 ·intro h c hc;have:=h c hc;simpa using this
theorem RF (c:UInt8):(((c.toNat:Nat):Int)==48)=(c==48):=DW c 48
theorem Ov (n:Nat) (g l:Bool) (d:aa) (x s:Int) (z:200<n) (B:d.length<=100):aO n g l d x s=some (decide (okM d x)):=by
 unfold aO;by_cases y:d.length<1
 ·have e:decide (((d.length:Nat):Int)<1)=true:=aw (by omega);rw [e,ay (λh:okM d x=>by have:=h.2.1;omega)];rfl
 ·have e:decide (((d.length:Nat):Int)<1)=false:=ay (by omega);rw [e,af];by_cases A:d.length>17
  ·have e:decide (((d.length:Nat):Int)>17)=true:=aw (by omega);rw [e,ay (λh:okM d x=>by have:=h.2.2.1;omega)];rfl
  ·have e:decide (((d.length:Nat):Int)>17)=false:=ay (by omega);rw [e,af,Ia n d (by omega) (by omega)];simp only [ob];cases o:d.all bg with
   | false=>
    rw [ay (λh:okM d x=>by rw [(GF d).2 h.1] at o;cases o)];rfl
   | true=>
    have a:=(GF d).1 o;obtain ⟨c,r,rfl⟩:∃c r,d=c::r:=by
     cases d with
     | nil=>simp at y
     | cons c r=>exact ⟨c,r,rfl⟩
    have t:sx (c::r) 0=some c:=by simp [sx]
    simp only [dc,af,t,RF];by_cases f:c=48
    ·rw [ay (λh:okM (c::r) x=>h.2.2.2.1 (by rw [f];rfl)),f];rfl
    ·have e:(c==48)=false:=br.2 f;rw [e,af];by_cases v:x<0
     ·rw [aw v,ay (λh:okM (c::r) x=>by have:=h.2.2.2.2.1;omega)];rfl
     ·rw [ay v,af];by_cases w:x>16
      ·rw [aw w,ay (λh:okM (c::r) x=>by have:=h.2.2.2.2.2.1;omega)];rfl
      ·rw [ay w,af];obtain ⟨k,rfl⟩:∃k:Nat,x=(k:Int):=⟨x.toNat,by omega⟩;have p:=Iy n g l (c::r) k s a (by simp) (by omega) (by omega) (by omega);rw [p];have key:¬((k:Int)=0/\(c::r).length<5)->(okM (c::r) (k:Int)↔dval 0 (c::r)*10 ^ k<=E16):=by
        intro m;constructor
        ·intro h;simpa using h.2.2.2.2.2.2.2
        ·intro h;exact ⟨a,by omega,by omega,by simpa using f,by omega,by omega,m,by simpa using h⟩
       have b:¬((k:Int)=0/\(c::r).length<5)->(ob (some (if dval 0 (c::r)*10 ^ k<=E16 then (((dval 0 (c::r)*10 ^ k:Nat):Int),(0:Int)) else (0,6))) λq=>(some (q.2==0)))=some (decide (okM (c::r) (k:Int))):=by
        intro m;by_cases i:dval 0 (c::r)*10 ^ k<=E16
        ·rw [ae i,aw ((key m).2 i)];rfl
        ·rw [ab i,ay (λh=>i ((key m).1 h))];rfl
       by_cases j:(k:Int)=0
       ·have e:((k:Int)==0)=true:=bA.2 j;rw [e,aj];by_cases u:(c::r).length<5
        ·have e:decide ((((c::r).length:Nat):Int)<5)=true:=aw (by omega);rw [e,ay (λh:okM (c::r) (k:Int)=>h.2.2.2.2.2.2.1 ⟨j,u⟩)];rfl
        ·have e:decide ((((c::r).length:Nat):Int)<5)=false:=ay (by omega);rw [e,af];exact b (λh=>u h.2)
       ·have e:((k:Int)==0)=false:=br.2 j;rw [e,af];exact b (λh=>j h.1)
theorem K4 (n:Nat) (g l:Bool) (d:aa) (x s:Int) (e:200<n) (c:d.length<=100):
  (ob (aO n g l d x s) λr=>(cond (!r) (some (6:Int)) (cond (decide (s<0)) (some 6) (cond (decide (s>(IntKind.wrap .i64 (((d.length:Nat):Int)+x)))) (some 6) (some 0)))))=some (if okL d x s then 0 else 6):=by
 rw [Ov n g l d x s e c];simp only [ob];by_cases h:okM d x
 ·rw [aw h];have hx:=h.2.2.2.2;have w:IntKind.wrap .i64 (((d.length:Nat):Int)+x)=((d.length:Nat):Int)+x:=wrap_i64 _ (by omega) (by omega);rw [w];simp only [dc,af,bM];by_cases a:s<0
  ·rw [ae a,ab (λq:okL d x s=>by have:=q.2.1;omega)]
  ·rw [ab a];by_cases b:s>((d.length:Nat):Int)+x
   ·rw [ae b,ab (λq:okL d x s=>by have:=q.2.2;omega)]
   ·rw [ab b,ae ⟨h,by omega,by omega⟩]
 ·rw [ay h,ab (λq:okL d x s=>h q.1)];rfl
theorem sU (n:Nat) (g l:Bool) (d:aa) (x s:Int) (z:200<n) (A:d.length<=100):bu n g l d x s=some (if okY g l d x s then 0 else 6):=by
 obtain ⟨y,v,hy⟩:=PP n d (by omega) (by omega);unfold bu;rw [Fv n d (by omega) (by omega),v,rq];cases l with
 | true=>
  have b:(if okY g true d x s then (0:Int) else 6)=if okL d x s then 0 else 6:=by simp only [okY,aI]
  rw [b];have st:=K4 n g true d x s z A;simp only [aj];generalize (ob (aO n g true d x s) λr=>(cond (!r) (some (6:Int)) (cond (decide (s<0)) (some 6) (cond (decide (s>(IntKind.wrap .i64 (((d.length:Nat):Int)+x)))) (some 6) (some 0)))))=T at st ⊢;simp only [ob];rw [st];cases (((d.length:Nat):Int)==4)<;>cases (d.all λc=>bg c||c==88)<;>cases (x==0)<;>cases g<;>cases (y==[])<;>cases (s != 0)<;>rfl
 | false=>
  have b:(if okY g false d x s then (0:Int) else 6)=if okS g d x s then 0 else 6:=by simp only [okY,bE,aC]
  rw [b];simp only [af,ob];by_cases f:d.length=4
  ·have m:(((d.length:Nat):Int)==4)=true:=bA.2 (by omega);rw [m,aj];cases k:(d.all λc=>bg c||c==88) with
   | false=>
    rw [ab (λq:okS g d x s=>by rw [(C3 d).2 q.2.1] at k;cases k)];rfl
   | true=>
    have e:=(C3 d).1 k;rw [aj];by_cases i:x=0
    ·subst i;have w:IntKind.wrap .i64 (((d.length:Nat):Int)+0)=4:=by rw [f];decide
     rw [w];have a:¬(g=true/\all0 d=true)->(cond (s != 0) (cond (!(!hasX d)) (some (6:Int)) (cond (decide (s<0)) (some 6) (cond (decide (s>4)) (some 6) (some 0)))) (cond (decide (s<0)) (some 6) (cond (decide (s>4)) (some 6) (some 0))))=some (if okS g d 0 s then 0 else 6):=by
      intro t;simp only [bM,sJ,Bool.not_not];by_cases s0:s=0
      ·subst s0;rw [ae rfl,ab (by omega),ab (by omega),ae ⟨f,e,rfl,t,by omega,by omega,by omega⟩]
      ·rw [ab s0];cases o:hasX d with
       | true=>
        by_cases j:s<0
        ·rw [ab (λq:okS g d 0 s=>by have:=q.2.2.2.2.1;omega)];rfl
        ·rw [ab (λq:okS g d 0 s=>q.2.2.2.2.2.2 ⟨by omega,o⟩)];rfl
       | false=>
        rw [af];by_cases j:s<0
        ·rw [ae j,ab (λq:okS g d 0 s=>by have:=q.2.2.2.2.1;omega)]
        ·rw [ab j];by_cases u:s>4
         ·rw [ae u,ab (λq:okS g d 0 s=>by have:=q.2.2.2.2.2.1;omega)]
         ·rw [ab u,ae ⟨f,e,rfl,t,by omega,by omega,λq=>by rw [o] at q;cases q.2⟩]
     have h:((0:Int)==0)=true:=rfl;rw [h,aj];cases g with
     | false=>
      simp only [af];exact a (by simp)
     | true=>
      simp only [aj];rw [hy];cases p:all0 d with
      | true=>rw [ab (λq:okS true d 0 s=>q.2.2.2.1 ⟨rfl,p⟩)];rfl
      | false=>
       simp only [jb,aj];exact a (by rw [p];simp)
    ·have h:(x==0)=false:=br.2 i;rw [h,ab (λq:okS g d x s=>i q.2.2.1)];rfl
  ·have m:(((d.length:Nat):Int)==4)=false:=br.2 (by omega);rw [m,ab (λq:okS g d x s=>f q.1)];rfl
theorem P1 (d:aa):cnt 48 57 d=d.length↔∀c∈d,bg c=true:=Hm 48 57 d
theorem Hh (n:Nat) (g l:Bool) (d:aa) (x s:Int) (N:200<n) (I:d.length<=100):cr n g l d x s=some (if okY g l d x s then 1 else 0):=by
 have hs:=I2 d;have v:=MK d;have u:=Lt d;have w:=P1 d;unfold cr;rw [IA n d 48 57 (by omega) (by omega),IA n d 88 88 (by omega) (by omega),IA n d 48 48 (by omega) (by omega)];simp only [ob];generalize M:cnt 48 57 d=A at *;generalize L:cnt 88 88 d=B at *;have w0:IntKind.wrap .i64 (((A:Nat):Int)+((B:Nat):Int))=((A+B:Nat):Int):=by rw [wrap_i64 _ (by omega) (by omega)];omega
 rw [w0];simp only [sJ,bM,EK];by_cases y:A+B=d.length
 ·rw [ae (by omega)];have m:=hs.2.1 y;by_cases G:s<0
  ·rw [ae G,ab];intro q;unfold okY at q;split at q
   ·have:=q.2.1;omega
   ·have:=q.2.2.2.2.1;omega
  ·rw [ab G];cases l with
   | false=>
    have i:(if okY g false d x s then (1:Int) else 0)=if okS g d x s then 1 else 0:=by simp only [okY,bE,aC]
    rw [i,af];by_cases j:d.length=4
    ·rw [ae (by omega)];by_cases h:x=0
     ·rw [ae h];have a:¬(g=true/\all0 d=true)->(if s>4 then some (0:Int) else if s>0 then (if ((B:Nat):Int)>0 then some 0 else some 1) else some 1)=some (if okS g d x s then 1 else 0):=by
       intro C;by_cases o:s>4
       ·rw [ae o,ab (λq:okS g d x s=>by have:=q.2.2.2.2.2.1;omega)]
       ·rw [ab o];by_cases F:s>0
        ·rw [ae F];by_cases t:((B:Nat):Int)>0
         ·rw [ae t,ab (λq:okS g d x s=>q.2.2.2.2.2.2 ⟨by omega,by rw [v];exact aw (by omega)⟩)]
         ·rw [ab t,ae ⟨j,m,h,C,by omega,by omega,λq=>by
           have:=q.2;rw [v,bX] at this;omega⟩]
        ·rw [ab F,ae ⟨j,m,h,C,by omega,by omega,λq=>by omega⟩]
      cases g with
      | false=>rw [af];exact a (by simp)
      | true=>
       rw [aj,ig];by_cases b:all0 d=true
       ·rw [ae (by have:=u.1 b;omega),ab (λq:okS true d x s=>q.2.2.2.1 ⟨rfl,b⟩)]
       ·rw [ab (λq=>b (u.2 (by omega)))];exact a (λq=>b q.2)
     ·rw [ab h,ab (λq:okS g d x s=>h q.2.2.1)]
    ·rw [ab (by omega),ab (λq:okS g d x s=>j q.1)]
   | true=>
    have i:(if okY g true d x s then (1:Int) else 0)=if okL d x s then 1 else 0:=by simp only [okY,aI]
    rw [i,aj];by_cases t:((B:Nat):Int)>0
    ·rw [ae t,ab];intro q;have:=w.2 q.1.1;omega
    ·rw [ab t];have f:=w.1 (by omega);by_cases j:((A:Nat):Int)<1
     ·rw [ae j,ab (λq:okL d x s=>by have:=q.1.2.1;omega)]
     ·rw [ab j];by_cases h:((A:Nat):Int)>17
      ·rw [ae h,ab (λq:okL d x s=>by have:=q.1.2.2.1;omega)]
      ·rw [ab h];obtain ⟨c,r,rfl⟩:∃c r,d=c::r:=by
        cases d with
        | nil=>simp at y;omega
        | cons c r=>exact ⟨c,r,rfl⟩
       have z:sx (c::r) 0=some c:=by simp [sx]
       simp only [z,RF,ig];by_cases b:c=48
       ·rw [ae b,ab (λq:okL (c::r) x s=>q.1.2.2.2.1 (by rw [b];rfl))]
       ·rw [ab b];by_cases H:x<0
        ·rw [ae H,ab (λq:okL (c::r) x s=>by have:=q.1.2.2.2.2.1;omega)]
        ·rw [ab H];by_cases D:x>16
         ·rw [ae D,ab (λq:okL (c::r) x s=>by have:=q.1.2.2.2.2.2.1;omega)]
         ·rw [ab D];obtain ⟨k,rfl⟩:∃k:Nat,x=(k:Int):=⟨x.toNat,by omega⟩;have K:IntKind.wrap .i64 (((A:Nat):Int)+(k:Int))=((A+k:Nat):Int):=by rw [wrap_i64 _ (by omega) (by omega)];omega
          rw [K,FU n (c::r) k f I (by omega) (by omega)];have p:(c::r).length=A:=by omega
          have a:¬((k:Int)=0/\(c::r).length<5)->(if s>((A+k:Nat):Int) then some (0:Int) else some (if dval 0 (c::r)*10 ^ k<=E16 then (((dval 0 (c::r)*10 ^ k:Nat):Int),(1:Int)) else (0,0)).2)=some (if okL (c::r) (k:Int) s then 1 else 0):=by
           intro J;by_cases o:s>((A+k:Nat):Int)
           ·rw [ae o,ab (λq:okL (c::r) (k:Int) s=>by have:=q.2.2;rw [p] at this;omega)]
           ·rw [ab o];by_cases e:dval 0 (c::r)*10 ^ k<=E16
            ·rw [ae e,ae ⟨⟨f,by omega,by omega,by simpa using b,by omega,by omega,J,by simpa using e⟩,by omega,by omega⟩]
            ·rw [ab e,ab (λq:okL (c::r) (k:Int) s=>e (by simpa using q.1.2.2.2.2.2.2.2))]
          by_cases e:(k:Int)=0
          ·rw [ae e];by_cases E:((A:Nat):Int)<5
           ·rw [ae E,ab (λq:okL (c::r) (k:Int) s=>q.1.2.2.2.2.2.2.1 ⟨e,by omega⟩)]
           ·rw [ab E];exact a (λq=>by omega)
          ·rw [ab e];exact a (λq=>e q.1)
 ·rw [ab (by omega),ab];intro q;apply y;rw [hs.2];unfold okY at q;split at q
  ·exact λc hc=>.inl (q.1.1 c hc)
  ·exact q.2.1
theorem J3:∀(l:aa) (acc:Nat),acc*10 ^ l.length<=dval acc l
 | [],acc=>by rw [nL];simp
 | c::l,acc=>by
  have ih:=J3 l (sE acc c);rw [mE,aG,rZ];have h:acc*10<=sE acc c:=yK _ _;have b:=l7 (10 ^ l.length) h;have a:acc*(10 ^ l.length*10)=acc*10*10 ^ l.length:=by rw [uA (10 ^ l.length) 10,Bf]
  omega
theorem sa:∀(l:aa) (acc k:Nat),(∀c∈l,bg c=true)->acc<10 ^ k->dval acc l<10 ^ (l.length+k)
 | [],acc,k,_,h=>by rw [nL];simpa using h
 | c::l,acc,k,b,h=>by
  have hc:=(dj c).1 (b c (by simp));have hp:(10:Nat) ^ (k+1)=10 ^ k*10:=rZ 10 k;have hs:sE acc c=acc*10+(c.toNat - 48):=rfl;have ih:=sa l (sE acc c) (k+1) (λd a=>b d (by simp [a])) (by omega);rw [mE,aG,show l.length+1+k=l.length+(k+1) by omega];exact ih
structure Num (d:aa) (k q:Nat):Prop where
 dig:∀c∈d,bg c=true
 ne:d≠[]
 wide:d.length+k<=17
 small:dval 0 d*10 ^ k<=E16
 sig:q<=d.length+k
theorem sO {d:aa} (h:∀c∈d,bg c=true):hasX d=false:=by
 unfold hasX;rw [pM];intro c hc a;rw [bA] at a;have:=(dj c).1 (h c hc);rw [a] at this;exact absurd this.2 (by decide)
theorem wA {g l:Bool} {d:aa} {x s:Int} (h:okY g l d x s) (j:hasX d=false):∃k q:Nat,x=(k:Int)/\s=(q:Int)/\Num d k q:=by
 cases l with
 | true=>
  have h:okL d x s:=by simpa [okY] using h
  obtain ⟨⟨a,f,A,m,v,B,y,z⟩,t,w⟩:=h;refine ⟨x.toNat,s.toNat,by omega,by omega,a,by intro e;subst e;simp at f,?_,z,by omega⟩;cases d with
  | nil=>simp at f
  | cons c r=>
   have hc:=(dj c).1 (a c (by simp));have p:c≠48:=by simpa using m
   have o:1<=sE 0 c:=by
    have:c.toNat≠48:=λe=>p (gM.1 e);show 1<=0*10+(c.toNat - 48);omega
   have C:=J3 r (sE 0 c);rw [<-mE] at C;have t:10 ^ r.length<=dval 0 (c::r):=by
    have:=l7 (10 ^ r.length) o;omega
   have i:=l7 (10 ^ x.toNat) t;rw [<-Nat.pow_add] at i;rcases aE (r.length+x.toNat) 17 with b | n
   ·simp only [aG];omega
   ·have:=O6 n;omega
 | false=>
  have h:okS g d x s:=by simpa [okY] using h
  obtain ⟨a,f,A,m,v,B,y⟩:=h;have u:∀c∈d,bg c=true:=by
   intro c hc;rcases f c hc with h | h
   ·exact h
   ·exfalso;unfold hasX at j;rw [pM] at j;exact j c hc (bA.2 h)
  have b:=sa d 0 0 u (by simp);rw [a] at b;refine ⟨0,s.toNat,by omega,by omega,u,by intro e;subst e;simp at a,by omega,?_,by omega⟩;have m:(10:Nat) ^ (4+0)=10000:=by decide
  unfold E16;simp only [Nat.pow_zero,qo];omega
def val (d:aa) (k:Nat):Nat:=dval 0 d*10 ^ k
theorem xM (n:Nat) (g l:Bool) (d:aa) (x s:Int) (e:200<n) (c:d.length<=100):
  dB n g l d x s=some (if okY g l d x s/\hasX d=false then (if g then -((val d x.toNat:Nat):Int) else ((val d x.toNat:Nat):Int),0) else (0,6)):=by
 unfold dB;rw [sU n g l d x s e c,rq];simp only [ob];by_cases h:okY g l d x s
 ·rw [ae h];cases b:hasX d with
  | true=>rw [ab (by simp)];rfl
  | false=>
   rw [ae ⟨h,rfl⟩];obtain ⟨k,q,rfl,rfl,a⟩:=wA h b;rw [Iy n g l d k q a.dig a.ne (by have:=a.wide;omega) (by have:=a.wide;omega) (by omega),ae a.small];have hs:=a.small;unfold E16 at hs;cases g with
   | true=>
    simp only [eF,af,aj,bW,val,aI];rw [wrap_i64 _ (by omega) (by omega),Int.zero_sub]
   | false=>simp [val]
 ·rw [ab h,ab (λq=>h q.1)];rfl
theorem dE {a b:aa} (h:a.length+b.length<=1000000):cat a b=some (a++b):=by
 unfold cat;rw [ae (by omega)]
theorem cut1 {l:aa} {i:Nat} {c:UInt8} (h:l[i]?=some c):List.drop i (List.take (i+1) l)=[c]:=by
 have a:=us h;rw [ox,h,Ad (by rw [eT];omega)];rfl
theorem TA {l:aa} {i:Nat} {c:UInt8} (h:l[i]?=some c):List.take (i+1) l=List.take i l++[c]:=by
 rw [ox,h];rfl
theorem vA {g l:Bool} {d:aa} {x s:Int} (h:okY g l d x s) (a:hasX d=true):l=false/\x=0/\s=0/\d.length=4/\∀c∈d,bg c=true\/c=88:=by
 cases l with
 | true=>
  have h:okL d x s:=by simpa [okY] using h
  rw [sO h.1.1] at a;cases a
 | false=>
  have h:okS g d x s:=by simpa [okY] using h
  obtain ⟨i,j,f,m,k,n,b⟩:=h;refine ⟨rfl,f,?_,i,j⟩;have:¬0<s:=λe=>b ⟨e,a⟩;omega
theorem je {g l:Bool} {d:aa} {x s:Int} (h:okY g l d x s):0<=x/\x<=16/\0<=s/\s<=17/\1<=d.length/\d.length<=17:=by
 cases b:hasX d with
 | true=>
  obtain ⟨rfl,rfl,rfl,j,_⟩:=vA h b;omega
 | false=>
  obtain ⟨k,q,rfl,rfl,a⟩:=wA h b;have f:=a.wide;have i:=a.sig;have e:1<=d.length:=by
   cases d with
   | nil=>exact absurd rfl a.ne
   | cons c r=>simp
  omega
theorem Av {g l:Bool} {d:aa} {x s:Int} (h:okY g l d x s):pE d x s=true:=by
 obtain ⟨e,f,c,b,a,i⟩:=je h;unfold pE;rw [aw (by omega),co (by omega)];rfl
def numU (d:UInt8):aa->Nat⊕(Nat×Nat)
 | []=>.inr (d.toNat - 48,2)
 | e::_=>if bg e=true then .inr (10*(d.toNat - 48)+(e.toNat - 48),3) else .inr (d.toNat - 48,2)
def numT:aa->Nat⊕(Nat×Nat)
 | []=>.inl 1
 | d::r=>if 49<=d.toNat/\d.toNat<=57 then numU d r else .inl 1
def numS (letter:UInt8):aa->Nat⊕(Nat×Nat)
 | []=>.inr (0,0)
 | c::r=>if c=letter then numT r else .inr (0,0)
theorem yP (letter:UInt8):numS letter []=.inr (0,0):=rfl
theorem mF (letter c:UInt8) (r:aa):numS letter (c::r)=if c=letter then numT r else .inr (0,0):=rfl
theorem xU:numT []=.inl 1:=rfl
theorem od (d:UInt8) (r:aa):numT (d::r)=if 49<=d.toNat/\d.toNat<=57 then numU d r else .inl 1:=rfl
theorem sN (d:UInt8):numU d []=.inr (d.toNat - 48,2):=rfl
theorem mu (d e:UInt8) (r:aa):numU d (e::r)=if bg e=true then .inr (10*(d.toNat - 48)+(e.toNat - 48),3) else .inr (d.toNat - 48,2):=rfl
theorem wj (c:UInt8) (h:c.toNat<128):(Utf8.encode ((c.toNat:Nat):Int)).data.toList=[c]:=by
 have:=gN (λc=>(decide (128<=c.toNat))||(Utf8.encode ((c.toNat:Nat):Int)).data.toList==[c]) (by decide +kernel) c;simp only [gu,bX,bA] at this;rcases this with a | a
 ·omega
 ·exact a
theorem n8 {c:UInt8} (h:48<=c.toNat/\c.toNat<=57):Lib.digitVal c=some (c.toNat - 48):=by
 unfold Lib.digitVal;rw [ae h]
theorem wh {c:UInt8} (h:48<=c.toNat/\c.toNat<=57) (r:aa):Lib.atoi (c::r)=(Lib.decNat (c::r)).map λ(m:Nat)=>(m:Int):=by
 have a:(c==45)=false:=by
  rw [br];rintro rfl;exact absurd h.1 (by decide)
 have b:(c==43)=false:=by
  rw [br];rintro rfl;exact absurd h.1 (by decide)
 simp only [Lib.atoi,a,b,bE,aC]
theorem Kv {c:UInt8} (h:48<=c.toNat/\c.toNat<=57):Lib.atoi [c]=some ((c.toNat - 48:Nat):Int):=by
 rw [wh h];simp only [Lib.decNat,List.isEmpty_cons,bE,aC,Lib.decFrom,n8 h,dC,yw,cb]
theorem Di {c e:UInt8} (h:48<=c.toNat/\c.toNat<=57) (a:48<=e.toNat/\e.toNat<=57):Lib.atoi [c,e]=some ((10*(c.toNat - 48)+(e.toNat - 48):Nat):Int):=by
 rw [wh h];simp only [Lib.decNat,List.isEmpty_cons,bE,aC,Lib.decFrom,n8 h,n8 a,dC,yw,cb];rw [uA]
theorem wg (c:UInt8):hasB [49,50,51,52,53,54,55,56,57] c=decide (49<=c.toNat/\c.toNat<=57):=by
 have:=gN (λc=>hasB [49,50,51,52,53,54,55,56,57] c==decide (49<=c.toNat/\c.toNat<=57)) (by decide +kernel) c;simpa using this
theorem lF {p q:UInt8->Bool} (h:∀c,p c=q c):∀(k:Nat) (l:aa),bV p k l=bV q k l
 | 0,_=>by simp [bV]
 | _+1,[]=>by simp [bV]
 | k+1,c::l=>by simp only [bV,h c,lF h k l]
theorem CG {S:aa} {a:Nat} {c:UInt8} {r:aa} (h:S.drop a=c::r):a<S.length/\S[a]?=some c/\S.drop (a+1)=r:=by
 have b:a<S.length:=by
  rcases aE a S.length with q | q
  ·exact q
  ·rw [kP q] at h;cases h
 have e:S[a]?=some S[a]:=bG b;have d:=eS e;rw [h] at d;injection d with h1 h2;exact ⟨b,by rw [e,h1],h2.symm⟩
theorem GT (n:Nat) (letter:UInt8) (S:aa) (a:Nat) (h:a<=S.length) (D:S.length<100000) (C:S.length<n):
  cv n [letter] S (a:Int)=some (match numS letter (S.drop a) with | .inl k=>.inr (((a+k:Nat):Int),5,S,((a+k:Nat):Int)) | .inr (v,k)=>.inl ((v:Int),S,((a+k:Nat):Int))):=by
 unfold cv;rw [kZ n [letter] S a h (by omega)];cases y:S.drop a with
 | nil=>simp [yP]
 | cons c r=>
  obtain ⟨B,E,w⟩:=CG y;rw [mF];by_cases hc:c=letter
  ·have i:List.take [letter].length (c::r)=[letter]:=by simp [hc]
   have s:a+[letter].length=a+1:=rfl;rw [ae i,s,ae hc];clear i;simp only [ob,dc,af];rw [yV n _ S (a+1) (by omega) (by omega),w];cases r with
   | nil=>simp [xU]
   | cons d u=>
    obtain ⟨x,A,l⟩:=CG w;rw [od];simp only [wg,bX];by_cases b:49<=d.toNat/\d.toNat<=57
    ·rw [ae b,ae b];simp only [];rw [sK n _ 0 1 S (a+1+1) (by omega) (by omega) C,l];have F:=lZ (hasB [48,49,50,51,52,53,54,55,56,57]) (1:Int).toNat u;rw [ab (by omega)];rw [lF ux];simp only [];rw [wj d (by omega)];have g:Nat.ble ([d]:aa).length 18=true:=rfl;have m:∀e:UInt8,Nat.ble ([d,e]:aa).length 18=true:=λ_=>rfl;have q:a+1+1=a+2:=rfl;have z:a+2+1=a+3:=rfl;have t:=Kv (show 48<=d.toNat/\d.toNat<=57 by omega);cases u with
     | nil=>
      have hs:bV bg (1:Int).toNat []=0:=rfl;rw [hs,sN];rw [dE (by simp)];simp only [List.take_nil,kx,cP,g,aj,t,opt,q]
     | cons e f=>
      by_cases j:bg e=true
      ·have hs:bV bg (1:Int).toNat (e::f)=1:=by
        show bV bg (0+1) (e::f)=1;simp [bV,j]
       have p:=Di (show 48<=d.toNat/\d.toNat<=57 by omega) ((dj e).1 j);rw [hs,mu,ae j];have o:List.take 1 (e::f)=[e]:=rfl;rw [o,dE (by simp)];simp only [dL,da,m,aj,p,opt,q,z]
      ·have hs:bV bg (1:Int).toNat (e::f)=0:=by
        show bV bg (0+1) (e::f)=0;simp [bV,j]
       rw [hs,mu,ab j];have o:List.take 0 (e::f)=[]:=rfl;rw [o,dE (by simp)];simp only [kx,g,aj,t,opt,cP,q]
    ·rw [ab b,ab b]
  ·have e:¬List.take [letter].length (c::r)=[letter]:=by simp [hc]
   rw [ab e,ab hc];simp
def isDX (c:UInt8):Bool:=bg c||c==88
abbrev YR:=Bool×Bool×aa×Nat×Nat×Nat
def xq (g:Bool) (o:Nat):aa->Nat⊕YR
 | []=>.inl o
 | c::r=>if 49<=c.toNat/\c.toNat<=57 then
   (match numS 69 ((c::r).drop (1+bV bg 16 r)) with
   | .inl j=>.inl (o+(1+bV bg 16 r)+j)
   | .inr (x,j)=>(match numS 83 ((c::r).drop (1+bV bg 16 r+j)) with
    | .inl i=>.inl (o+(1+bV bg 16 r)+j+i)
    | .inr (s,i)=>.inr (g,true,(c::r).take (1+bV bg 16 r),x,s,o+(1+bV bg 16 r)+j+i)))
  else .inl o
def xa (g:Bool) (o:Nat) (l:aa):Nat⊕YR:=
 if bV isDX 4 l<4 then .inl (o+bV isDX 4 l) else
  (match numS 83 (l.drop 4) with
  | .inl i=>.inl (o+4+i)
  | .inr (s,i)=>.inr (g,false,l.take 4,0,s,o+4+i))
def eZ (c:UInt8) (l:aa):Nat:=if l.take 1=[c] then 1 else 0
def qC (l:aa):Nat⊕YR:=
 if eZ 89 l=1 then xq (eZ 45 (l.drop 1)==1) (1+eZ 45 (l.drop 1)) (l.drop (1+eZ 45 (l.drop 1)))
 else xa (eZ 45 l==1) (eZ 45 l) (l.drop (eZ 45 l))
theorem jL (c:UInt8) (l:aa):eZ c l=0\/eZ c l=1:=by
 unfold eZ;split
 ·exact .inr rfl
 ·exact .inl rfl
theorem xl (c:UInt8) (l:aa):eZ c l<=l.length:=by
 unfold eZ;split
 ·rename_i h;cases l with
  | nil=>simp at h
  | cons a l=>simp
 ·omega
theorem rk (n:Nat) (c:UInt8) (S:aa) (a:Nat) (h:a<=S.length) (b:S.length<100000):
  aA n [c] S (a:Int)=some (eZ c (S.drop a)==1,S,((a+eZ c (S.drop a):Nat):Int)):=by
 rw [kZ n [c] S a h (by omega)];unfold eZ;have e:[c].length=1:=rfl;rw [e];split<;>rfl
def vW (S:aa) (a:Nat):Nat⊕YR->(Int×Int×aa×Int)⊕(Bool×Bool×aa×Int×Int×aa×Int)
 | .inl k=>.inl (((a+k:Nat):Int),5,S,((a+k:Nat):Int))
 | .inr (g,l,d,x,s,k)=>.inr (g,l,d,(x:Int),(s:Int),S,((a+k:Nat):Int))
theorem PT (letter:UInt8) (l:aa):(match numS letter l with | .inl k=>k<=l.length | .inr (_,k)=>k<=l.length):=by
 cases l with
 | nil=>simp [yP]
 | cons c r=>
  rw [mF];by_cases hc:c=letter
  ·rw [ae hc];cases r with
   | nil=>simp [xU]
   | cons d f=>
    rw [od];by_cases a:49<=d.toNat/\d.toNat<=57
    ·rw [ae a];cases f with
     | nil=>simp [sN]
     | cons e g=>
      rw [mu];by_cases b:bg e=true
      ·rw [ae b];simp
      ·rw [ab b];simp
    ·rw [ab a];simp
  ·rw [ab hc];simp
theorem FZ {letter:UInt8} {S:aa} {a:Nat} (h:a<=S.length) {v k:Nat} (b:numS letter (S.drop a)=.inr (v,k)):a+k<=S.length:=by
 have:=PT letter (S.drop a);rw [b,cZ] at this;simp only at this;omega
theorem N7 (n:Nat) (S:aa) (a o:Nat) (g:Bool) (h:a+o<=S.length) (H:S.length<100000) (G:S.length<n):
  (ob (bK n [49,50,51,52,53,54,55,56,57] S ((a+o:Nat):Int)) λu=>(Sum.casesOn (motive:=λ_=>Option ((Int×Int×aa×Int)⊕(Bool×Bool×aa×Int×Int×aa×Int))) u (λf=>(some (.inl (f.1,f.2.1,f.2.2.1,f.2.2.2)))) (λm=>(ob (bC n [48,49,50,51,52,53,54,55,56,57] 0 16 m.2.1 m.2.2) λC=>(Sum.casesOn (motive:=λ_=>Option _) C (λe=>(some (.inl (e.1,e.2.1,e.2.2.1,e.2.2.2)))) (λt=>(ob (cat (Utf8.encode m.1).data.toList t.1) λB=>(ob (cv n [69] t.2.1 t.2.2) λy=>(Sum.casesOn (motive:=λ_=>Option _) y (λq=>(ob (cv n [83] q.2.1 q.2.2) λz=>(Sum.casesOn (motive:=λ_=>Option _) z (λl=>(some (.inr (g,true,B,q.1,l.1,l.2.1,l.2.2)))) (λd=>(some (.inl (d.1,d.2.1,d.2.2.1,d.2.2.2))))))) (λb=>(some (.inl (b.1,b.2.1,b.2.2.1,b.2.2.2)))))))))))))=some (vW S a (xq g o (S.drop (a+o)))):=by
 rw [yV n _ S (a+o) h (by omega)];cases D:S.drop (a+o) with
 | nil=>simp [xq,vW,ob]
 | cons c r=>
  obtain ⟨O,R,I⟩:=CG D;simp only [wg,bX];by_cases hc:49<=c.toNat/\c.toNat<=57
  ·rw [ae hc];simp only [ob];rw [sK n _ 0 16 S (a+o+1) (by omega) (by omega) G,I];rw [ab (by omega),lF ux];simp only [];rw [wj c (by omega)];have E:(16:Int).toNat=16:=rfl;rw [E];have P:=lZ bg 16 r;have N:r.length+(a+o+1)=S.length:=by
    have:=ck List.length I;rw [cZ] at this;omega
   rw [dE (by simp only [aG,cA,eT];omega)];simp only [xq];rw [ae hc];generalize T:bV bg 16 r=k at P ⊢;have L:[c]++List.take k r=List.take (1+k) (c::r):=by rw [nz];rfl
   rw [L];have w:a+o+1+k<=S.length:=by omega
   have v:List.drop (1+k) (c::r)=S.drop (a+o+1+k):=by
    rw [<-D,iV];congr 1;omega
   rw [GT n 69 S (a+o+1+k) w H G,<-v];cases M:numS 69 (List.drop (1+k) (c::r)) with
   | inl j=>
    simp only [vW];have:a+o+1+k+j=a+(o+(1+k)+j):=by omega
    rw [this]
   | inr p=>
    obtain ⟨x,j⟩:=p;have J:=M;rw [v] at J;have F:=FZ w J;have A:List.drop (1+k+j) (c::r)=S.drop (a+o+1+k+j):=by
     rw [<-D,iV];congr 1;omega
    simp only [];rw [GT n 83 S (a+o+1+k+j) F H G,<-A];cases K:numS 83 (List.drop (1+k+j) (c::r)) with
    | inl i=>
     simp only [vW];have:a+o+1+k+j+i=a+(o+(1+k)+j+i):=by omega
     rw [this]
    | inr Q=>
     obtain ⟨s,i⟩:=Q;simp only [vW];have:a+o+1+k+j+i=a+(o+(1+k)+j+i):=by omega
     rw [this]
  ·rw [ab hc];simp only [ob,xq];rw [ab hc];rfl
theorem LI (n:Nat) (S:aa) (a o:Nat) (g:Bool) (h:a+o<=S.length) (y:S.length<100000) (u:S.length<n):
  (ob (bC n [88,48,49,50,51,52,53,54,55,56,57] 4 4 S ((a+o:Nat):Int)) λm=>(Sum.casesOn (motive:=λ_=>Option ((Int×Int×aa×Int)⊕(Bool×Bool×aa×Int×Int×aa×Int))) m (λb=>(some (.inl (b.1,b.2.1,b.2.2.1,b.2.2.2)))) (λe=>(ob (cv n [83] e.2.1 e.2.2) λq=>(Sum.casesOn (motive:=λ_=>Option _) q (λf=>(some (.inr (g,false,e.1,0,f.1,f.2.1,f.2.2)))) (λd=>(some (.inl (d.1,d.2.1,d.2.2.1,d.2.2.2)))))))))=some (vW S a (xa g o (S.drop (a+o)))):=by
 rw [sK n _ 4 4 S (a+o) h (by omega) u];have r:∀c,hasB [88,48,49,50,51,52,53,54,55,56,57] c=isDX c:=rS;have x:(4:Int).toNat=4:=rfl;rw [lF r,x];unfold xa;have v:=lZ isDX 4 (S.drop (a+o));rw [cZ] at v;by_cases j:bV isDX 4 (S.drop (a+o))<4
 ·rw [ae (by omega),ae j];simp only [ob,vW];rw [gG]
 ·rw [ab (by omega),ab j];have t:∀(k:Nat) (l:aa),bV isDX k l<=k:=by
   intro k
   induction k with
   | zero=>intro l;simp [bV]
   | succ k ih=>
    intro l;cases l with
    | nil=>simp [bV]
    | cons c l=>
     have:=ih l;simp only [bV];split<;>omega
  have w:bV isDX 4 (S.drop (a+o))=4:=by have:=t 4 (S.drop (a+o));omega
  rw [w] at v ⊢;simp only [ob];have hp:a+o+4<=S.length:=by omega
  rw [GT n 83 S (a+o+4) hp y u,iV];cases z:numS 83 (S.drop (a+o+4)) with
  | inl i=>
   simp only [vW];have:a+o+4+i=a+(o+4+i):=by omega
   rw [this]
  | inr p=>
   obtain ⟨s,i⟩:=p;simp only [vW];have:a+o+4+i=a+(o+4+i):=by omega
   rw [this];rfl
theorem PN (n:Nat) (S:aa) (a:Nat) (h:a<=S.length) (d:S.length<100000) (f:S.length<n):
  ka n S (a:Int)=some (vW S a (qC (S.drop a))):=by
 unfold ka;rw [rk n 89 S a h d];have c:=xl 89 (S.drop a);rw [cZ] at c;simp only [ob];rw [rk n 45 S (a+eZ 89 (S.drop a)) (by omega) d];have b:=xl 45 (S.drop (a+eZ 89 (S.drop a)));rw [cZ] at b;simp only [];unfold qC;rcases jL 89 (S.drop a) with e | e
 ·rw [e] at b ⊢;simp only [cP,show ((0:Nat)==1)=false from rfl,af,show ¬((0:Nat)=1) from by decide,aC,iV] at b ⊢;have:=LI n S a (eZ 45 (S.drop a)) (eZ 45 (S.drop a)==1) (by omega) d f;exact this
 ·rw [e] at b ⊢;simp only [show ((1:Nat)==1)=true from rfl,aj,aI,iV] at b ⊢;have:=N7 n S a (1+eZ 45 (S.drop (a+1))) (eZ 45 (S.drop (a+1))==1) (by omega) d f;rw [<-gG] at this;rw [<-gG];exact this
theorem tH (p:UInt8->Bool):∀(k:Nat) (l:aa),bV p k l<=k
 | 0,l=>by simp [bV]
 | k+1,[]=>by simp [bV]
 | k+1,c::l=>by
  have:=tH p k l;simp only [bV];split<;>omega
theorem rL (c a:UInt8) (l:aa):eZ c (a::l)=if a=c then 1 else 0:=by
 unfold eZ;simp
def wint (c:Int):Bool:=c==24||c==28||c==30
def vT (g:Bool) (d:aa) (x:Int):Bool:=!hasX d&&!g&&decide (val d x.toNat=E16)
def yrB (g:Bool) (d:aa) (x s:Int) (m:aa):Bool:=!(decide (0<s)&&!(m==[]))&&!(wint (sea m)&&vT g d x)
theorem AN (n:Nat) (t:200<n) (g l:Bool) (dg:aa) (x q:Int) (m d:aa) (k0 k1 k2:Int) (C:m.length<=18) (p:dg.length<=100):
  ep n g l dg x q m d k0 k1 k2=some (if okY g l dg x q then yrB g dg x q m else false):=by
 unfold ep;rw [sU n g l dg x q t p,n9 n g l dg x q m d k0 k1 k2 C,rq,xM n g l dg x q t p];by_cases h:okY g l dg x q
 rotate_left
 ·rw [ab h,ab h];rfl
 rw [ae h,ae h];have body:(ob (some (sea m,decide (0<sea m))) λr=>(cond (!r.2) (some true) (ob (some (hasX dg)) λu=>(cond u (some true) (ob (some (if okY g l dg x q/\hasX dg=false then (if g then -((val dg x.toNat:Nat):Int) else ((val dg x.toNat:Nat):Int),(0:Int)) else (0,6))) λA=>(ob (gh n A.1 r.1) λE=>(some (E.2.2.2.2==0))))))))=some (!(wint (sea m)&&vT g dg x)):=by
  rcases mB m with v | ⟨j,s,rfl⟩
  ·rw [v];rfl
  ·have hs:=lL s;rw [hs];have hp:decide (0<((21+j:Nat):Int))=true:=by simp;omega
   rw [hp];cases o:hasX dg with
   | true=>
    have:vT g dg x=false:=by unfold vT;rw [o];rfl
    rw [this,D5];rfl
   | false=>
    rw [ae ⟨h,rfl⟩];obtain ⟨k,G,rfl,rfl,w⟩:=wA h o;have y:val dg k<=E16:=w.small;unfold E16 at y;have hc:dr (if g then -((val dg k:Nat):Int) else ((val dg k:Nat):Int)):=by
     unfold dr;cases g<;>simp<;>omega
    obtain ⟨a,b,c,e,D⟩:=Rt n (by omega) hc s;simp only [ob,dc,af,bW];rw [D];simp only [ah];have B:wint ((21+j:Nat):Int)=decide (j=3\/j=7\/j=9):=by
     unfold wint;rw [AS];simp only [gu,bA,bX];omega
    have F:vT g dg (k:Int)=decide ((if g then -((val dg k:Nat):Int) else ((val dg k:Nat):Int))=10000000000000000):=by
     unfold vT E16;rw [o,bW];cases g
     ·simp only [jb,rn,bE,aC,uc];omega
     ·simp;omega
    rw [B,F];by_cases f:(if g then -((val dg k:Nat):Int) else ((val dg k:Nat):Int))=10000000000000000<;>by_cases i:j=3\/j=7\/j=9
    ·rw [ae ⟨f,i⟩,aw f,aw i];rfl
    ·rw [ab (λz=>i z.2),ay i];rfl
    ·rw [ab (λz=>f z.1),ay f,D5];rfl
    ·rw [ab (λz=>f z.1),ay f,D5];rfl
 show cond (decide (q>0)) (cond (!(m==[])) (some false) _) _=_;unfold yrB;rw [show (decide (q>0))=decide (0<q) from rfl];cases decide (0<q) with
 | false=>exact body
 | true=>
  cases (m==[]) with
  | false=>rfl
  | true=>exact body
def bp (m d:aa):Nat:=1+(if m==[] then 0 else 1)+(if d==[] then 0 else 1)
theorem nD (n:Nat) (e:100<n) (g l:Bool) (dg:aa) (x q:Int) (m d:aa) (k0 k1 k2:Int):aH n g l dg x q m d k0 k1 k2=some ((bp m d:Nat):Int):=by
 obtain ⟨n,rfl⟩:∃j,n=j+3:=⟨n - 3,by omega⟩;unfold aH bp;have s0:∀a:Int,bB (n+3) (a,m,d,0)=some (.inl (if m==[] then a else IntKind.wrap .i64 (a+1),m,d,1)):=λa=>by
  unfold bB;show cond (!(m==[])) _ _=_;cases (m==[])<;>rfl
 have c:∀a:Int,bB (n+3) (a,m,d,1)=some (.inl (if d==[] then a else IntKind.wrap .i64 (a+1),m,d,2)):=λa=>by
  unfold bB;show cond (!(d==[])) _ _=_;cases (d==[])<;>rfl
 have b:∀a:Int,bB (n+3) (a,m,d,2)=some (.inr a):=λa=>rfl;rw [au,s0];show ob (au _ (n+2) _) _=_;rw [au,c];show ob (au _ (n+1) _) _=_;rw [au,b];cases (m==[])<;>cases (d==[])<;>rfl
theorem jZ (n:Nat) (g l:Bool) (dg:aa) (x q:Int) (m d:aa) (k0 k1 k2:Int):ar n g l dg x q m d k0 k1 k2=some ((bp m d:Nat):Int):=by
 unfold ar bp;cases (m==[])<;>cases (d==[])<;>rfl
def allM (a b c:Int) (k:Nat):Int:=if 3<a\/3<b\/3<c\/(k<2/\b≠0)\/(k<3/\c≠0) then 9 else 0
theorem BL (n:Nat) (u:3<n) (a b c:Int) (k:Nat) (w:1<=k/\k<=3) (v:0<=a) (t:0<=b) (hc:0<=c):
  cQ n [a,b,c] (k:Int)=some (allM a b c k):=by
 obtain ⟨j,rfl⟩:∃j,n=j+4:=⟨n - 4,by omega⟩;have l:IntKind.wrap .i64 1=1:=rfl;have i:IntKind.wrap .i64 2=2:=rfl;have f:IntKind.wrap .i64 3=3:=rfl;have g:ix 3 0=some 0:=rfl;have h:ix 3 1=some 1:=rfl;have e:ix 3 2=some 2:=rfl;have hk':k=1\/k=2\/k=3:=by omega
 unfold allM;by_cases m:a>3
 ·rcases hk' with rfl | rfl | rfl<;>simp [cQ,au,fQ,fX,ob,l,i,f,g,h,e,m]
 by_cases p:b>3
 ·rcases hk' with rfl | rfl | rfl<;>simp [cQ,au,fQ,fX,ob,l,i,f,g,h,e,m,p]
 by_cases d:k=1/\b≠0
 ·obtain ⟨rfl,d⟩:=d;have q:b>0:=by omega
  have s:(b != 0)=true:=by simp [d]
  simp [cQ,au,fQ,fX,ob,l,i,f,g,h,e,m,p,q,d,s]
 by_cases r:c>3
 ·rcases hk' with rfl | rfl | rfl<;>(try (simp at d;subst d))<;>simp [cQ,au,fQ,fX,ob,l,i,f,g,h,e,m,p,r]
 by_cases o:k<3/\c≠0
 ·have q:c>0:=by omega
  have s:(c != 0)=true:=by simp [o.2]
  rcases hk' with rfl | rfl | rfl<;>(try (simp at d;subst d))<;>simp at o<;>simp [cQ,au,fQ,fX,ob,l,i,f,g,h,e,m,p,r,q,o,s]
 rcases hk' with rfl | rfl | rfl<;>(try (simp at d;subst d))<;>(try (simp at o;subst o))<;>simp [cQ,au,fQ,fX,ob,l,i,f,g,h,e,m,p,r]
theorem mP (m d:aa):1<=bp m d/\bp m d<=3:=by
 unfold bp;cases (m==[])<;>cases (d==[])<;>simp
def yrD (g l:Bool) (dg:aa) (x q:Int) (m:aa):Bool:=if okY g l dg x q then yrB g dg x q m else false
def chkD (g l:Bool) (dg:aa) (x q:Int) (m d:aa) (k0 k1 k2:Int):Int:=
 cond (!(yrD g l dg x q m)) 6 (cond (!(m==[])&&(!(decide (0<sea m))&&!(eI m 12))) 7
  (cond (!(d==[])&&((m==[])||(decide (0<sea m)||!(eI d 31)))) 8 (allM k0 k1 k2 (bp m d))))
theorem QI (m:aa):0<=sea m:=by
 rcases mB m with h | ⟨j,a,rfl⟩
 ·omega
 ·rw [lL a];omega
theorem sV (n:Nat) (e:200<n) (g l:Bool) (dg:aa) (x q:Int) (m d:aa) (k0 k1 k2:Int) (a:m.length<=18) (p:dg.length<=100) (c:0<=k0) (j:0<=k1) (o:0<=k2):
  fF n g l dg x q m d k0 k1 k2=some (chkD g l dg x q m d k0 k1 k2):=by
 have hy:ep n g l dg x q m d k0 k1 k2=some (yrD g l dg x q m):=AN n e g l dg x q m d k0 k1 k2 a p;have a1:cw n m 12=some (eI m 12):=zt n (by omega) m 12 (by omega);have a2:cw n d 31=some (eI d 31):=zt n (by omega) d 31 (by omega);have i:=BL n (by omega) k0 k1 k2 (bp m d) (mP m d) c j o;unfold fF chkD;rw [n9 n g l dg x q m d k0 k1 k2 a,hy,a1,a2,nD n (by omega)];simp only [ob];rw [i];generalize yrD g l dg x q m=b1;generalize (m==[])=b2;generalize decide (0<sea m)=k;generalize eI m 12=h;generalize (d==[])=f;generalize eI d 31=b;cases b1<;>cases b2<;>cases k<;>cases h<;>cases f<;>cases b<;>rfl
theorem HO {g l:Bool} {dg:aa} {x q:Int} {m d:aa} {k0 k1 k2:Int} (h:chkD g l dg x q m d k0 k1 k2=0):yrD g l dg x q m=true/\(m=[]\/0<sea m\/eI m 12=true)/\(d=[]\/(m≠[]/\sea m=0/\eI d 31=true))/\allM k0 k1 k2 (bp m d)=0:=by
 have hs:=QI m;unfold chkD at h;cases b1:yrD g l dg x q m with
 | false=>rw [b1] at h;exact absurd h (by simp)
 | true=>
  rw [b1] at h;simp only [dc,af] at h;cases b2:(!(m==[])&&(!(decide (0<sea m))&&!(eI m 12))) with
  | true=>rw [b2] at h;exact absurd h (by simp)
  | false=>
   rw [b2] at h;simp only [af] at h;cases c:(!(d==[])&&((m==[])||(decide (0<sea m)||!(eI d 31)))) with
   | true=>rw [c] at h;exact absurd h (by simp)
   | false=>
    rw [c] at h;simp only [af] at h;refine ⟨rfl,?_,?_,h⟩
    ·by_cases a:m=[]
     ·exact .inl a
     ·by_cases b:0<sea m
      ·exact .inr (.inl b)
      ·simp [a,b] at b2;exact .inr (.inr b2)
    ·by_cases a:d=[]
     ·exact .inl a
     ·by_cases b:m=[]
      ·simp [a,b] at c
      ·by_cases e:0<sea m
       ·simp [a,b,e] at c
       ·simp [a,b,e] at c;exact .inr ⟨b,by omega,c⟩
theorem pf {s:aa} {g:Nat} (m:g<=31) (h:eI s g=true):s.length=2/\∀c∈s,isDX c=true:=by
 unfold eI at h;obtain ⟨i,l,hi⟩:=pD.1 h;have e:i<g:=jP.1 l;have dig:∀k:Nat,k<10->isDX (UInt8.ofNat (48+k))=true:=by decide
 have d:isDX 88=true:=by decide
 match s,hi with
 | [],hi=>simp [agr] at hi
 | [_],hi=>simp [agr] at hi
 | [a,b],hi=>
  refine ⟨rfl,?_⟩;simp only [agr,az,gu,bA] at hi;obtain ⟨j,f⟩:=hi;intro c hc;simp only [cq,qs,rX] at hc;rcases hc with rfl | rfl
  ·rcases j with rfl | rfl
   ·exact d
   ·exact dig _ (by omega)
  ·rcases f with rfl | rfl
   ·exact d
   ·exact dig _ (by omega)
 | _::_::_::_,hi=>simp [agr] at hi
theorem Ji {m:aa} (h:0<sea m):m.length=2/\∀c∈m,isDX c=true:=by
 rcases mB m with b | ⟨j,a,rfl⟩
 ·omega
 ·refine ⟨rfl,?_⟩;have:((List.range 21).all λj=>(two (21+j)).all isDX)=true:=by decide +kernel
  have:=(bL.1 this) j (by simpa using a);exact bL.1 this
def mt (k:Nat):aa:=if k=1 then [63] else if k=2 then [126] else if k=3 then [37] else []
def mkOf (c:UInt8):Nat:=if c=63 then 1 else if c=126 then 2 else if c=37 then 3 else 0
def QD (k a b c:Nat):Bool:=(decide (k<2)||b==a)&&(decide (k<3)||c==a)
def plA (k a b c:Nat):Nat×Nat×Nat:=if QD k a b c then (0,0,0) else (a,b,c)
def plB (k a b c:Nat):Nat×Nat×Nat:=if QD k a b c then (if k=1 then (a,0,0) else if k=2 then (0,a,0) else (0,0,a)) else (0,0,0)
def l3 (p:Nat×Nat×Nat):List Int:=[(p.1:Int),(p.2.1:Int),(p.2.2:Int)]
def spM (A B:Nat×Nat×Nat):Nat×Nat×Nat:=(A.1 ||| B.1 ||| B.2.1 ||| B.2.2,A.2.1 ||| B.2.1 ||| B.2.2,A.2.2 ||| B.2.2)
theorem EV (n k:Nat) (h:k<4):iY n (k:Int)=some (mt k,0):=by
 have:k=0\/k=1\/k=2\/k=3:=by omega
 rcases this with rfl | rfl | rfl | rfl<;>exact rfl
noncomputable def NK (m j:Nat):Bool:=
 m8 (m+300) (j:Int)==some (((mkOf (UInt8.ofNat j):Nat):Int),decide (0<mkOf (UInt8.ofNat j)))
theorem JJ (m:Nat):(List.range 256).all (NK m)=true:=by kernel_rfl
theorem Kp (m:Nat) (c:UInt8):m8 (m+300) ((c.toNat:Nat):Int)=some (((mkOf c:Nat):Int),decide (0<mkOf c)):=by
 have h:=(bL.1 (JJ m)) c.toNat (jP.2 c.toNat_lt);unfold NK at h;rw [show UInt8.ofNat c.toNat=c by simp] at h;simp only [bA] at h;exact h
theorem r4 {p:Nat->Bool} (h:(List.range 4).all p=true) {a:Nat} (b:a<4):p a=true:=(bL.1 h) a (jP.2 b)
noncomputable def Af (m k a b c:Nat):Bool:=
 nr (m+300) [(a:Int),(b:Int),(c:Int)] (k:Int)==some (l3 (plA k a b c),l3 (plB k a b c),0)
theorem O5 (m:Nat):((List.range 4).all λa=>Af m 1 a 0 0)=true:=by kernel_rfl
theorem OR (m:Nat):((List.range 4).all λa=>(List.range 4).all λb=>Af m 2 a b 0)=true:=by kernel_rfl
theorem P0 (m:Nat):((List.range 4).all λa=>(List.range 4).all λb=>(List.range 4).all λc=>Af m 3 a b c)=true:=by kernel_rfl
theorem P7 (m k a b c:Nat) (i:1<=k/\k<=3) (d:a<4) (e:b<4) (hc:c<4) (g:k<2->b=0) (f:k<3->c=0):
  nr (m+300) [(a:Int),(b:Int),(c:Int)] (k:Int)=some (l3 (plA k a b c),l3 (plB k a b c),0):=by
 have h:Af m k a b c=true:=by
  have:k=1\/k=2\/k=3:=by omega
  rcases this with rfl | rfl | rfl
  ·rw [g (by omega),f (by omega)];exact r4 (O5 m) d
  ·rw [f (by omega)];exact r4 (r4 (OR m) d) e
  ·exact r4 (r4 (r4 (P0 m) d) e) hc
 unfold Af at h;simp only [bA] at h;exact h
theorem Q8 {k a b c:Nat} (d:a<4) (e:b<4) (hc:c<4):(plA k a b c).1<4/\(plA k a b c).2.1<4/\(plA k a b c).2.2<4/\(plB k a b c).1<4/\(plB k a b c).2.1<4/\(plB k a b c).2.2<4:=by
 unfold plA plB;split
 ·split
  ·simp [d]
  ·split<;>simp [d]
 ·simp [d,e,hc]
def inM (k:Nat) (A:Nat×Nat×Nat):Prop:=A.1<4/\A.2.1<4/\A.2.2<4/\(k<2->A.2.1=0)/\(k<3->A.2.2=0)
theorem qu {k:Nat} {A:Nat×Nat×Nat} (h:inM k A):allM (A.1:Int) (A.2.1:Int) (A.2.2:Int) k=0:=by
 obtain ⟨a,d,e,c,b⟩:=h;unfold allM;rw [ab (by omega)]
theorem or4 {a b:Nat} (c:a<4) (d:b<4):bits .or .u8 (a:Int) (b:Int)=((a ||| b:Nat):Int)/\a ||| b<4:=by
 have:((List.range 4).all λa=>(List.range 4).all λb=>bits .or .u8 (a:Int) (b:Int)==((a ||| b:Nat):Int)&&decide (a ||| b<4))=true:=by decide +kernel
 have:=r4 (r4 this c) d;simpa using this
theorem ri (n:Nat) (w:9<n) (k:Nat) (A B:Nat×Nat×Nat) (r:1<=k/\k<=3) (p:inM k A) (l:inM k B):cN n (l3 A) (l3 B) (k:Int)=some (l3 (spM A B),0):=by
 obtain ⟨n,rfl⟩:∃j,n=j+5:=⟨n - 5,by omega⟩;have s:=BL (n+5) (by omega) (A.1:Int) (A.2.1:Int) (A.2.2:Int) k r (by omega) (by omega) (by omega);have o:=BL (n+5) (by omega) (B.1:Int) (B.2.1:Int) (B.2.2:Int) k r (by omega) (by omega) (by omega);rw [qu p] at s;rw [qu l] at o;have h:∀x:Nat,x<4->bits .or .u8 0 (x:Int)=(x:Int):=λx hx=>by
  have:=(or4 (show 0<4 by omega) hx).1;simpa using this
 have b:∀x y:Nat,x<4->y<4->bits .or .u8 (x:Int) (y:Int)=((x ||| y:Nat):Int):=λx y hx hy=>(or4 hx hy).1;have e:∀x y:Nat,x<4->y<4->x ||| y<4:=λx y hx hy=>(or4 hx hy).2;unfold cN;show ob (cQ (n+5) [(A.1:Int),(A.2.1:Int),(A.2.2:Int)] (k:Int)) _=_;rw [s];show ob (cQ (n+5) [(B.1:Int),(B.2.1:Int),(B.2.2:Int)] (k:Int)) _=_;rw [o];obtain ⟨a0,a1,a2⟩:=A;obtain ⟨b0,b1,b2⟩:=B;obtain ⟨g0,g,m,q,f⟩:=p;obtain ⟨d,a,c,t,i⟩:=l;simp only at g0 g m q f d a c t i;have hk':k=1\/k=2\/k=3:=by omega
 rcases hk' with rfl | rfl | rfl
 ·obtain rfl:=q (by omega);obtain rfl:=f (by omega);obtain rfl:=t (by omega);obtain rfl:=i (by omega);show some (([bits .or .u8 (a0:Int) (bits .or .u8 0 (b0:Int)),0,0]:List Int),(0:Int))=_;rw [h b0 d,b _ _ g0 d];simp [l3,spM]
 ·obtain rfl:=f (by omega);obtain rfl:=i (by omega);show some (([bits .or .u8 (a0:Int) (bits .or .u8 (bits .or .u8 0 (b1:Int)) (b0:Int)),bits .or .u8 (a1:Int) (bits .or .u8 0 (b1:Int)),0]:List Int),(0:Int))=_;rw [h b1 a,b _ _ a d,b _ _ g0 (e _ _ a d),b _ _ g a];simp [l3,spM,Nat.or_assoc,yx b1 b0]
 ·show some (([bits .or .u8 (a0:Int) (bits .or .u8 (bits .or .u8 (bits .or .u8 0 (b2:Int)) (b1:Int)) (b0:Int)),bits .or .u8 (a1:Int) (bits .or .u8 (bits .or .u8 0 (b2:Int)) (b1:Int)),bits .or .u8 (a2:Int) (bits .or .u8 0 (b2:Int))]:List Int),(0:Int))=_;rw [h b2 c,b _ _ c a,b _ _ (e _ _ c a) d,b _ _ g0 (e _ _ (e _ _ c a) d),b _ _ g (e _ _ c a),b _ _ m c];have v:a0 ||| (b2 ||| b1 ||| b0)=a0 ||| b0 ||| b1 ||| b2:=by rw [yx (b2 ||| b1) b0,yx b2 b1];simp only [Nat.or_assoc]
  have u:a1 ||| (b2 ||| b1)=a1 ||| b1 ||| b2:=by rw [yx b2 b1];simp only [Nat.or_assoc]
  rw [v,u];rfl
abbrev cI (x:Nat):Int:=(x:Int)
def Jh (k a b c:Nat):Bool:=spM (plA k a b c) (plB k a b c)==(a,b,c)
theorem RV:((List.range 4).all λa=>Jh 1 a 0 0)=true:=by decide +kernel
theorem Rq:((List.range 4).all λa=>(List.range 4).all λb=>Jh 2 a b 0)=true:=by decide +kernel
theorem P9:((List.range 4).all λa=>(List.range 4).all λb=>(List.range 4).all λc=>Jh 3 a b c)=true:=by decide +kernel
theorem SU (k a b c:Nat) (i:1<=k/\k<=3) (d:a<4) (e:b<4) (hc:c<4) (g:k<2->b=0) (f:k<3->c=0):spM (plA k a b c) (plB k a b c)=(a,b,c):=by
 have h:Jh k a b c=true:=by
  have:k=1\/k=2\/k=3:=by omega
  rcases this with rfl | rfl | rfl
  ·rw [g (by omega),f (by omega)];exact r4 RV d
  ·rw [f (by omega)];exact r4 (r4 Rq d) e
  ·exact r4 (r4 (r4 P9 d) e) hc
 unfold Jh at h;exact bA.1 h
def mkS (l:aa):Nat:=match l with | []=>0 | c::_=>mkOf c
def mkN (l:aa):Nat:=if mkS l=0 then 0 else 1
def twoN (l:aa):Nat:=bV isDX 2 l
theorem Py (c:UInt8):mkOf c<4:=by
 unfold mkOf;split
 ·omega
 ·split
  ·omega
  ·split<;>omega
theorem DD (l:aa):mkS l<4:=by
 cases l with
 | nil=>show 0<4;omega
 | cons c r=>exact Py c
theorem Qq (l:aa):mkN l<=l.length:=by
 cases l with
 | nil=>exact aM 0
 | cons c r=>
  unfold mkN;split<;>simp
theorem N4 (c:UInt8):hasB [63,126,37] c=decide (0<mkOf c):=by
 have:=gN (λc=>hasB [63,126,37] c==decide (0<mkOf c)) (by decide +kernel) c;simpa using this
theorem PS (m:Nat) (S:aa) (a:Nat) (h:a<=S.length) (i:S.length<100000):
  bS (m+300) S (a:Int)=some (.inr (((mkS (S.drop a):Nat):Int),S,((a+mkN (S.drop a):Nat):Int))):=by
 unfold bS;rw [nB (m+300) S a h];cases g:S.drop a with
 | nil=>
  have e:m8 (m+300) 0=some (0,false):=by kernel_rfl
  show ob (m8 (m+300) 0) _=_;rw [e];rfl
 | cons c r=>
  show ob (m8 (m+300) ((c.toNat:Nat):Int)) _=_;rw [Kp m c];show cond (decide (0<mkOf c)) _ _=_;have b:mkS (c::r)=mkOf c:=rfl;by_cases hc:0<mkOf c
  ·rw [aw hc];show ob (bK (m+300) [63,126,37] S (a:Int)) _=_;rw [yV (m+300) _ S a h (by omega),g];have f:hasB [63,126,37] c=true:=by rw [N4,aw hc]
   have d:mkN (c::r)=1:=by unfold mkN;rw [b,ab (by omega)]
   rw [b,d];simp only [f,aI,ob]
  ·rw [ay hc];have d:mkN (c::r)=0:=by unfold mkN;rw [b,ae (by omega)]
   rw [b,d];rfl
theorem M4 (n:Nat) (S:aa) (a:Nat) (h:a<=S.length) (i:S.length<100000) (g:S.length<n):
  gy n S (a:Int)=some (if twoN (S.drop a)<2 then .inl (((a+twoN (S.drop a):Nat):Int),5,S,((a+twoN (S.drop a):Nat):Int)) else .inr ((S.drop a).take 2,S,((a+2:Nat):Int))):=by
 unfold gy;rw [sK n _ 2 2 S a h (by omega) g];have e:bV (hasB [88,48,49,50,51,52,53,54,55,56,57]) (2:Int).toNat (S.drop a)=twoN (S.drop a):=by
  unfold twoN;have f:(2:Int).toNat=2:=rfl;rw [f];exact lF (λc=>by rw [rS];rfl) _ _
 rw [e];by_cases b:twoN (S.drop a)<2
 ·rw [ae b,ae (by omega)];rfl
 ·have d:twoN (S.drop a)=2:=by
   have:=tH isDX 2 (S.drop a);unfold twoN at b ⊢;omega
  rw [ab b,ab (by omega),d];rfl
theorem cutD (r:Nat) (h:r<10):List.drop r (List.take (r+1) ([48,49,50,51,52,53,54,55,56,57]:aa))=[UInt8.ofNat (48+r)]:=by
 have:∀r,r<10->List.drop r (List.take (r+1) ([48,49,50,51,52,53,54,55,56,57]:aa))=[UInt8.ofNat (48+r)]:=by decide
 exact this r h
theorem DK {k:Nat} (h:k<10):Lib.decDigits k=[UInt8.ofNat (48+k)]:=by
 rw [Lib.decDigits,dif_pos h]
theorem CP {k:Nat} (h:¬k<10) (a:k<100):Lib.decDigits k=[UInt8.ofNat (48+k / 10),UInt8.ofNat (48+k%10)]:=by
 rw [Lib.decDigits,dif_neg h,DK (by omega)];rfl
def eH (letter:UInt8) (v:Nat):aa:=if 0<v then letter::Lib.decDigits v else []
theorem RQ {k:Nat} (h:k<100):1<=(Lib.decDigits k).length/\(Lib.decDigits k).length<=2:=by
 by_cases a:k<10
 ·rw [DK a];simp
 ·rw [CP a h];simp
theorem zX (letter:UInt8) {k:Nat} (h:k<100):(eH letter k).length<=3:=by
 unfold eH;split
 ·have:=RQ h;simp only [aG];omega
 ·simp
theorem jM (g l:Bool) (d:aa) (x s:Nat):eh g l d (x:Int) (s:Int)=(if l then [89] else [])++(if g then [45] else [])++d++eH 69 x++eH 83 s:=by
 unfold eh eH;simp only [bW];have a:(0<(x:Int))=(0<x):=by simp
 have b:(0<(s:Int))=(0<s):=by simp
 simp only [a,b]
def bY (p:UInt8->Bool) (l:aa):Prop:=∀c,l.head?=some c->p c=false
theorem ky {k:Nat} (h:k<10):(UInt8.ofNat (48+k)).toNat=48+k:=by
 rw [CH];exact pV (by omega)
theorem Ax (letter:UInt8) (v:Nat) (post:aa) (i:v<100) (j:bY bg post) (k:bY (λc=>c==letter) post):numS letter (eH letter v++post)=.inr (v,(eH letter v).length):=by
 unfold eH;by_cases h:0<v
 ·rw [ae h];by_cases d:v<10
  ·rw [DK d];have b:=ky d;simp only [dL,da];rw [mF,ae rfl,od,ae (by omega)];have a:48+v - 48=v:=by omega
   cases post with
   | nil=>
    rw [sN,b,a];rfl
   | cons e r=>
    have f:¬bg e=true:=by rw [j e rfl];simp
    rw [mu,ab f,b,a];rfl
  ·rw [CP d i];have b:=ky (show v / 10<10 by omega);have f:=ky (show v%10<10 by omega);simp only [dL,da];rw [mF,ae rfl,od,ae (by omega),mu,ae ((dj _).2 (by omega)),b,f];rw [show 10*(48+v / 10 - 48)+(48+v%10 - 48)=v by omega];rfl
 ·rw [ab h];have g:v=0:=by omega
  subst g;cases post with
  | nil=>rfl
  | cons c r=>
   have hc:c≠letter:=by
    have:=k c rfl;simpa using this
   rw [da,mF,ab hc];rfl
theorem ul (letter:UInt8) (l:aa) (v k:Nat) (h:numS letter l=.inr (v,k)):v<100/\l.take k=eH letter v/\k<=l.length:=by
 cases l with
 | nil=>
  simp only [yP,mf,bf] at h;obtain ⟨rfl,rfl⟩:=h;exact ⟨by omega,rfl,by simp⟩
 | cons c r=>
  rw [mF] at h;by_cases hc:c=letter
  ·rw [ae hc] at h;cases r with
   | nil=>simp [xU] at h
   | cons d i=>
    rw [od] at h;by_cases g:49<=d.toNat/\d.toNat<=57
    ·rw [ae g] at h;have j:d.toNat - 48<10:=by omega
     have a:UInt8.ofNat (48+(d.toNat - 48))=d:=by
      apply gM.1;rw [ky j];omega
     have one:(c::d::i).take 2=eH letter (d.toNat - 48):=by
      unfold eH;rw [ae (by omega),DK j,a,hc];rfl
     cases i with
     | nil=>
      simp only [sN,mf,bf] at h;obtain ⟨rfl,rfl⟩:=h;exact ⟨by omega,one,by simp⟩
     | cons e p=>
      rw [mu] at h;by_cases b:bg e=true
      ·rw [ae b] at h;simp only [mf,bf] at h;obtain ⟨rfl,rfl⟩:=h;have o:=(dj e).1 b;refine ⟨by omega,?_,by simp⟩;unfold eH;have m:(10*(d.toNat - 48)+(e.toNat - 48)) / 10=d.toNat - 48:=by omega
       have n:(10*(d.toNat - 48)+(e.toNat - 48))%10=e.toNat - 48:=by omega
       have f:UInt8.ofNat (48+(e.toNat - 48))=e:=by
        apply gM.1;rw [ky (by omega)];omega
       rw [ae (by omega),CP (by omega) (by omega),m,n,a,f,hc];rfl
      ·rw [ab b] at h;simp only [mf,bf] at h;obtain ⟨rfl,rfl⟩:=h;exact ⟨by omega,one,by simp⟩
    ·rw [ab g] at h;cases h
  ·rw [ab hc] at h;simp only [mf,bf] at h;obtain ⟨rfl,rfl⟩:=h;exact ⟨by omega,rfl,by simp⟩
theorem vn {p:UInt8->Bool}:∀(r:aa) (k:Nat) (post:aa),(∀c∈r,p c=true)->r.length<=k->(bY p post\/r.length=k)->bV p k (r++post)=r.length
 | [],0,post,_,_,_=>by simp [bV]
 | [],k+1,post,_,_,h=>by
  cases post with
  | nil=>simp [bV]
  | cons c q=>
   rcases h with h | h
   ·have:=h c rfl;simp [bV,this]
   ·simp at h
 | c::r,0,post,_,h,_=>by simp at h
 | c::r,k+1,post,hp,a,h=>by
  have ih:=vn r k post (λd b=>hp d (by simp [b])) (by simpa using a) (by
   rcases h with h | h
   ·exact .inl h
   ·exact .inr (by simpa using h))
  simp only [dL,bV,hp c (by simp),aI,ih,aG]
theorem wd {p:UInt8->Bool}:∀(k:Nat) (l:aa),∀c∈l.take (bV p k l),p c=true
 | 0,l=>by simp [bV]
 | k+1,[]=>by simp [bV]
 | k+1,c::l=>by
  simp only [bV];by_cases h:p c=true
  ·rw [ae h];intro d a;rw [kE,cq] at a;rcases a with rfl | a
   ·exact h
   ·exact wd k l d a
  ·rw [ab h];simp
theorem oV {letter:UInt8} {v:Nat} {post:aa} {p:UInt8->Bool} (a:p letter=false) (b:bY p post):bY p (eH letter v++post):=by
 unfold eH;intro c hc;by_cases h:0<v
 ·rw [ae h] at hc;simp only [dL,pH,ah] at hc;rw [<-hc];exact a
 ·rw [ab h] at hc;exact b c hc
def isYC (c:UInt8):Bool:=isDX c||c==69||c==83
theorem Nh {l:aa} (h:bY isYC l):bY bg l:=λc hc=>by
 have:=h c hc;unfold isYC isDX at this;simp only [ov] at this;exact this.1.1.1
theorem SC {l:aa} (h:bY isYC l):bY isDX l:=λc hc=>by
 have:=h c hc;unfold isYC at this;simp only [ov] at this;exact this.1.1
theorem SZ {l:aa} (h:bY isYC l):bY (λc=>c==69) l:=λc hc=>by
 have:=h c hc;unfold isYC at this;simp only [ov] at this;exact this.1.2
theorem SO {l:aa} (h:bY isYC l):bY (λc=>c==83) l:=λc hc=>by
 have:=h c hc;unfold isYC at this;simp only [ov] at this;exact this.2
theorem lR (c:UInt8) (l:aa):eZ c (c::l)=1:=by rw [rL,ae rfl]
theorem mR {c a:UInt8} (h:a≠c) (l:aa):eZ c (a::l)=0:=by rw [rL,ab h]
theorem JC {g l:Bool} {d:aa} {x s:Nat} (h:okY g l d (x:Int) (s:Int)) (post:aa) (hp:bY isYC post):qC (eh g l d (x:Int) (s:Int)++post)=.inr (g,l,d,x,s,(eh g l d (x:Int) (s:Int)).length):=by
 have I:=je h;have k:numS 83 (eH 83 s++post)=.inr (s,(eH 83 s).length):=Ax 83 s post (by omega) (Nh hp) (SO hp);have n:bY bg (eH 83 s++post):=oV (by decide) (Nh hp);have E:bY isDX (eH 83 s++post):=oV (by decide) (SC hp);rw [jM];cases l with
 | true=>
  have B:okL d (x:Int) (s:Int):=by simpa [okY] using h
  obtain ⟨⟨b,p,A,z,F,L,G,N⟩,O,J⟩:=B;obtain ⟨c,r,rfl⟩:∃c r,d=c::r:=by
   cases d with
   | nil=>simp at p
   | cons c r=>exact ⟨c,r,rfl⟩
  have w:=(dj c).1 (b c (by simp));have j:49<=c.toNat/\c.toNat<=57:=by
   have:c.toNat≠48:=λe=>z (by rw [show c=48 from gM.1 e];rfl);omega
  have a:c≠45:=by rintro rfl;exact absurd w.1 (by decide)
  have y:numS 69 (eH 69 x++(eH 83 s++post))=.inr (x,(eH 69 x).length):=Ax 69 x _ (by omega) n (oV (by decide) (SZ hp));have i:bV bg 16 (r++(eH 69 x++(eH 83 s++post)))=r.length:=by
   refine vn r 16 _ (λe K=>b e (by simp [K])) (by simp only [aG] at A;omega) (.inl ?_);exact oV (by decide) n
  have body:∀o:Nat,xq g o ((c::r)++(eH 69 x++(eH 83 s++post)))=.inr (g,true,c::r,x,s,o+(1+r.length)+(eH 69 x).length+(eH 83 s).length):=by
   intro o;simp only [dL,xq];rw [ae j,i];have H:List.drop (1+r.length) (c::(r++(eH 69 x++(eH 83 s++post))))=eH 69 x++(eH 83 s++post):=by
    rw [nz,lE,Ad rfl]
   have D:List.drop (1+r.length+(eH 69 x).length) (c::(r++(eH 69 x++(eH 83 s++post))))=eH 83 s++post:=by
    rw [show 1+r.length+(eH 69 x).length=(r.length+(eH 69 x).length)+1 by omega,lE,<-eJ,Ad (by simp)]
   have M:List.take (1+r.length) (c::(r++(eH 69 x++(eH 83 s++post))))=c::r:=by
    rw [nz,kE,List.take_left' rfl]
   rw [H,y];simp only [];rw [D,k,M]
  unfold qC;cases g with
  | true=>
   simp only [aI,dL,da,eJ];rw [lR,ae rfl,lE,cH,lR];have:=body 2;simp only [dL] at this;simp only [lE,cH,show ((1:Nat)==1)=true from rfl,show 1+1=2 from rfl];rw [this];simp only [aG,bv];congr 6;omega
  | false=>
   simp only [aI,bE,aC,dL,da,eJ];rw [lR,ae rfl,lE,cH,mR a];have:=body 1;simp only [dL] at this;simp only [lE,cH,show ((0:Nat)==1)=false from rfl,cP];rw [this];simp only [aG,bv];congr 6;omega
 | false=>
  have C:okS g d (x:Int) (s:Int):=by simpa [okY] using h
  obtain ⟨b,p,A,z,F,L,G⟩:=C;have u:x=0:=by omega
  subst u;have v:eH 69 0=[]:=rfl;have t:∀c∈d,isDX c=true:=λc hc=>by
   unfold isDX;rcases p c hc with q | q
   ·rw [q];rfl
   ·rw [q];simp
  have i:bV isDX 4 (d++(eH 83 s++post))=d.length:=vn d 4 _ t (by omega) (.inr b);have body:∀o:Nat,xa g o (d++(eH 83 s++post))=.inr (g,false,d,0,s,o+4+(eH 83 s).length):=by
   intro o;unfold xa;rw [i,b,ab (by omega),Ad b,k,List.take_left' b]
  obtain ⟨c,r,rfl⟩:∃c r,d=c::r:=by
   cases d with
   | nil=>simp at b
   | cons c r=>exact ⟨c,r,rfl⟩
  have a:c≠45:=by
   rintro rfl;rcases p 45 (by simp) with q | q
   ·exact absurd ((dj _).1 q).1 (by decide)
   ·exact absurd q (by decide)
  have m:c≠89:=by
   rintro rfl;rcases p 89 (by simp) with q | q
   ·exact absurd ((dj _).1 q).2 (by decide)
   ·exact absurd q (by decide)
  have f:(45:UInt8)≠89:=by decide
  unfold qC;rw [v];cases g with
  | true=>
   simp only [aI,bE,aC,dL,da,eJ];rw [mR f,ab (by decide),lR,lE,cH];have:=body 1;simp only [dL] at this;rw [show ((1:Nat)==1)=true from rfl,this];simp only [aG,bv] at b ⊢;congr 6;omega
  | false=>
   simp only [bE,aC,dL,da,eJ];rw [mR m,ab (by decide),mR a,cH];have:=body 0;simp only [dL] at this;rw [show ((0:Nat)==1)=false from rfl,this];simp only [aG,bv] at b ⊢;congr 6;omega
theorem rH (c:UInt8) (l:aa):l.take (eZ c l)=if eZ c l=1 then [c] else []:=by
 rcases jL c l with h | h
 ·rw [h];simp
 ·rw [h,ae rfl];unfold eZ at h;split at h
  ·assumption
  ·cases h
theorem mT (l:aa) (i j:Nat):l.take (i+j)=l.take i++(l.drop i).take j:=by
 rw [List.take_add]
theorem vd {l:aa} {g n:Bool} {d:aa} {x s k:Nat} (h:qC l=.inr (g,n,d,x,s,k)):l.take k=eh g n d (x:Int) (s:Int)/\k<=l.length/\x<100/\s<100/\d.length<=17:=by
 rw [jM];unfold qC at h;by_cases f:eZ 89 l=1
 ·rw [ae f] at h;have o:=rH 89 l;rw [f,ae rfl] at o;have b:=rH 45 (l.drop 1);have c45:=jL 45 (l.drop 1);generalize C:eZ 45 (l.drop 1)=u at *;have a:l.take (1+u)=[89]++(if (u==1)=true then [45] else []):=by
   rw [mT,o,b];rcases c45 with rfl | rfl<;>rfl
  cases q:l.drop (1+u) with
  | nil=>rw [q] at h;simp [xq] at h
  | cons c r=>
   rw [q] at h;simp only [xq] at h;by_cases hc:49<=c.toNat/\c.toNat<=57
   ·rw [ae hc] at h;have z:=tH bg 16 r;have D:1+bV bg 16 r<=(c::r).length:=by have:=lZ bg 16 r;simp only [aG];omega
    generalize G:1+bV bg 16 r=K at *;cases m:numS 69 (List.drop K (c::r)) with
    | inl j=>rw [m] at h;simp at h
    | inr p=>
     obtain ⟨F,j⟩:=p;rw [m] at h;simp only at h;cases e:numS 83 (List.drop (K+j) (c::r)) with
     | inl i=>rw [e] at h;simp at h
     | inr y=>
      obtain ⟨s',i⟩:=y;rw [e] at h;simp only [mf,bf] at h;obtain ⟨rfl,rfl,rfl,rfl,rfl,rfl⟩:=h;obtain ⟨a1,a2,B⟩:=ul _ _ _ _ m;obtain ⟨b1,b2,v⟩:=ul _ _ _ _ e;rw [cZ] at B v;have E:l.length=1+u+(c::r).length:=by
       have:=ck List.length q;rw [cZ] at this;simp only [aG] at this ⊢;omega
      refine ⟨?_,by simp only [aG] at *;omega,a1,b1,by rw [eT];omega⟩;rw [show 1+u+K+j+i=(1+u)+(K+(j+i)) by omega,mT,a,q,mT _ K,mT _ j,a2,iV,b2];simp
   ·rw [ab hc] at h;simp at h
 ·rw [ab f] at h;have b:=rH 45 l;have c45:=jL 45 l;generalize C:eZ 45 l=u at *;have a:l.take u=(if (u==1)=true then [45] else []):=by
   rw [b];rcases c45 with rfl | rfl<;>rfl
  unfold xa at h;by_cases A:bV isDX 4 (l.drop u)<4
  ·rw [ae A] at h;simp at h
  ·rw [ab A] at h;have w:=lZ isDX 4 (l.drop u);rw [cZ] at w;cases m:numS 83 (List.drop 4 (l.drop u)) with
   | inl i=>rw [m] at h;simp at h
   | inr y=>
    obtain ⟨s',i⟩:=y;rw [m] at h;simp only [mf,bf] at h;obtain ⟨rfl,rfl,rfl,rfl,rfl,rfl⟩:=h;obtain ⟨b1,b2,v⟩:=ul _ _ _ _ m;rw [cZ,cZ] at v;refine ⟨?_,by omega,by omega,b1,by rw [eT];omega⟩;rw [show u+4+i=u+(4+i) by omega,mT,a,mT _ 4,b2];have t:eH 69 0=[]:=rfl;rw [t];simp
abbrev DR:=Bool×Bool×aa×Nat×Nat×aa×aa×(Nat×Nat×Nat)×(Nat×Nat×Nat)×Nat
def mkE (S:aa) (p:Nat):Nat:=p+mkN (S.drop p)
def rd3 (S:aa) (y:YR) (b f h d g c a:Nat) (e:aa):Nat⊕DR:=
 if twoN (S.drop (mkE S (a+1)))<2 then .inl (mkE S (a+1)+twoN (S.drop (mkE S (a+1))))
 else .inr (y.1,y.2.1,y.2.2.1,y.2.2.2.1,y.2.2.2.2.1,e,(S.drop (mkE S (a+1))).take 2,spM (b,h,mkS (S.drop (a+1))) (f,d,mkS (S.drop (mkE S (a+1)+2))),(g,c,mkE S (a+1)),mkE S (mkE S (a+1)+2))
def rd2 (S:aa) (y:YR) (c d b a:Nat):Nat⊕DR:=
 if twoN (S.drop (mkE S (a+1)))<2 then .inl (mkE S (a+1)+twoN (S.drop (mkE S (a+1))))
 else if eZ 45 (S.drop (mkE S (mkE S (a+1)+2)))=0 then .inr (y.1,y.2.1,y.2.2.1,y.2.2.2.1,y.2.2.2.2.1,(S.drop (mkE S (a+1))).take 2,[],spM (c,mkS (S.drop (a+1)),0) (d,mkS (S.drop (mkE S (a+1)+2)),0),(b,mkE S (a+1),0),mkE S (mkE S (a+1)+2))
 else rd3 S y c d (mkS (S.drop (a+1))) (mkS (S.drop (mkE S (a+1)+2))) b (mkE S (a+1)) (mkE S (mkE S (a+1)+2)) ((S.drop (mkE S (a+1))).take 2)
def pq (S:aa) (a:Nat):Nat⊕DR:=match qC (S.drop (mkE S a)) with
 | .inl k=>.inl (mkE S a+k)
 | .inr y=>if 0<y.2.2.2.2.1\/eZ 45 (S.drop (mkE S (mkE S a+y.2.2.2.2.2)))=0
  then .inr (y.1,y.2.1,y.2.2.1,y.2.2.2.1,y.2.2.2.2.1,[],[],spM (mkS (S.drop a),0,0) (mkS (S.drop (mkE S a+y.2.2.2.2.2)),0,0),(mkE S a,0,0),mkE S (mkE S a+y.2.2.2.2.2))
  else rd2 S y (mkS (S.drop a)) (mkS (S.drop (mkE S a+y.2.2.2.2.2))) (mkE S a) (mkE S (mkE S a+y.2.2.2.2.2))
def N2 (S:aa):Nat⊕DR->(Int×Int×aa×Int)⊕(Bool×Bool×aa×Int×Int×aa×aa×Int×Int×Int×List Int×aa×Int)
 | .inl k=>.inl ((k:Int),5,S,(k:Int))
 | .inr (g,l,dg,x,s,m,d,M,P,e)=>.inr (g,l,dg,(x:Int),(s:Int),m,d,(M.1:Int),(M.2.1:Int),(M.2.2:Int),l3 P,S,(e:Int))
theorem oy {S:aa} {p:Nat} (h:p<=S.length):mkE S p<=S.length:=by
 have:=Qq (S.drop p);rw [cZ] at this;unfold mkE;omega
theorem Ag {S:aa} {p:Nat} (a:¬twoN (S.drop p)<2):p+2<=S.length:=by
 have:=lZ isDX 2 (S.drop p);unfold twoN at a;rw [cZ] at this;omega
theorem sI {S:aa} {p:Nat} (h:¬eZ 45 (S.drop p)=0):p+1<=S.length:=by
 have:=xl 45 (S.drop p);rw [cZ] at this;omega
theorem KB (n:Nat) (g l:Bool) (d:aa) (x s:Int) (a b:aa) (k0 k1 k2:Int) (S:aa) (p:Nat) (h:p<=S.length) (e:S.length<100000) (c:S.length<n):
  iG n g l d x s a b k0 k1 k2 S (p:Int)=some (match qC (S.drop p) with
   | .inl k=>.inl (((p+k:Nat):Int),5,g,l,d,x,s,a,b,k0,k1,k2,S,((p+k:Nat):Int))
   | .inr y=>.inr (y.1,y.2.1,y.2.2.1,(y.2.2.2.1:Int),(y.2.2.2.2.1:Int),a,b,k0,k1,k2,S,((p+y.2.2.2.2.2:Nat):Int))):=by
 unfold iG;rw [PN n S p h e c];cases qC (S.drop p) with
 | inl k=>rfl
 | inr y=>rfl
theorem MU (n:Nat) (g l:Bool) (d:aa) (x s:Int) (c b:aa) (k0 k1 k2:Int) (S:aa) (p:Nat) (h:p<=S.length) (e:S.length<100000) (f:S.length<n):
  iJ n g l d x s c b k0 k1 k2 S (p:Int)=some (if twoN (S.drop p)<2
   then .inl (((p+twoN (S.drop p):Nat):Int),5,g,l,d,x,s,c,b,k0,k1,k2,S,((p+twoN (S.drop p):Nat):Int))
   else .inr (g,l,d,x,s,(S.drop p).take 2,b,k0,k1,k2,S,((p+2:Nat):Int))):=by
 unfold iJ;rw [M4 n S p h e f];by_cases a:twoN (S.drop p)<2
 ·rw [ae a,ae a];rfl
 ·rw [ab a,ab a];rfl
theorem MV (n:Nat) (g l:Bool) (d:aa) (x s:Int) (b c:aa) (k0 k1 k2:Int) (S:aa) (p:Nat) (h:p<=S.length) (e:S.length<100000) (f:S.length<n):
  iL n g l d x s b c k0 k1 k2 S (p:Int)=some (if twoN (S.drop p)<2
   then .inl (((p+twoN (S.drop p):Nat):Int),5,g,l,d,x,s,b,c,k0,k1,k2,S,((p+twoN (S.drop p):Nat):Int))
   else .inr (g,l,d,x,s,b,(S.drop p).take 2,k0,k1,k2,S,((p+2:Nat):Int))):=by
 unfold iL;rw [M4 n S p h e f];by_cases a:twoN (S.drop p)<2
 ·rw [ae a,ae a];rfl
 ·rw [ab a,ab a];rfl
theorem Ih (m:Nat) (S:aa) (a:Nat) (h:a<=S.length) (j:S.length<100000) (F:S.length<m+300):
  gB (m+300) S (a:Int)=some (N2 S (pq S a)):=by
 have n:∀p,p<=S.length->bS (m+300) S (p:Int)=some (.inr (((mkS (S.drop p):Nat):Int),S,((mkE S p:Nat):Int))):=λp hp=>PS m S p hp j;have b:∀p,mkS (S.drop p)<4:=λp=>DD _;have t:∀p q,cN (m+300) [((mkS (S.drop p):Nat):Int),0,0] [((mkS (S.drop q):Nat):Int),0,0] 1=some (l3 (spM (mkS (S.drop p),0,0) (mkS (S.drop q),0,0)),0):=λp q=>
  ri (m+300) (by omega) 1 (mkS (S.drop p),0,0) (mkS (S.drop q),0,0) (by omega) ⟨b p,by simp,by simp,by simp,by simp⟩ ⟨b q,by simp,by simp,by simp,by simp⟩
 have E:∀p q f c,cN (m+300) [((mkS (S.drop p):Nat):Int),((mkS (S.drop f):Nat):Int),0] [((mkS (S.drop q):Nat):Int),((mkS (S.drop c):Nat):Int),0] 2=some (l3 (spM (mkS (S.drop p),mkS (S.drop f),0) (mkS (S.drop q),mkS (S.drop c),0)),0):=λp q f c=>
  ri (m+300) (by omega) 2 (mkS (S.drop p),mkS (S.drop f),0) (mkS (S.drop q),mkS (S.drop c),0) (by omega) ⟨b p,b f,by simp,by simp,by simp⟩ ⟨b q,b c,by simp,by simp,by simp⟩
 have C:∀p q f c i e,cN (m+300) [((mkS (S.drop p):Nat):Int),((mkS (S.drop f):Nat):Int),((mkS (S.drop i):Nat):Int)] [((mkS (S.drop q):Nat):Int),((mkS (S.drop c):Nat):Int),((mkS (S.drop e):Nat):Int)] 3=some (l3 (spM (mkS (S.drop p),mkS (S.drop f),mkS (S.drop i)) (mkS (S.drop q),mkS (S.drop c),mkS (S.drop e))),0):=λp q f c i e=>
  ri (m+300) (by omega) 3 (mkS (S.drop p),mkS (S.drop f),mkS (S.drop i)) (mkS (S.drop q),mkS (S.drop c),mkS (S.drop e)) (by omega) ⟨b p,b f,b i,by simp,by simp⟩ ⟨b q,b c,b e,by simp,by simp⟩
 have b0:=oy h;unfold gB pq;rw [n a h];simp only [ob,AU];rw [KB _ _ _ _ _ _ _ _ _ _ _ S (mkE S a) b0 j F];cases H:qC (S.drop (mkE S a)) with
 | inl k=>rfl
 | inr y=>
  obtain ⟨g,l,dg,x,s,k⟩:=y;have bk:mkE S a+k<=S.length:=by
   have:=(vd H).2.1;rw [cZ] at this;omega
  have b1:=oy bk;simp only [ob,d4,d8];rw [n (mkE S a+k) bk];simp only [ob];by_cases hs:0<s
  ·have:decide (((s:Nat):Int)>0)=true:=by simp;omega
   rw [this,ae (.inl hs)];simp only [aj];rw [t];rfl
  ·have:decide (((s:Nat):Int)>0)=false:=by simp;omega
   rw [this];simp only [af];rw [rk (m+300) 45 S _ b1 j];simp only [ob];by_cases r:eZ 45 (S.drop (mkE S (mkE S a+k)))=0
   ·rw [ae (.inr r),r];simp only [show ((0:Nat)==1)=false from rfl,jb,aj,cP];rw [t];rfl
   ·have B:eZ 45 (S.drop (mkE S (mkE S a+k)))=1:=(jL 45 _).resolve_left r;have u:=sI r;rw [ab (λz=>z.elim hs r),B];simp only [show ((1:Nat)==1)=true from rfl,dc,af];unfold rd2;rw [n _ u];simp only [ob];have I:=oy u;rw [MU _ _ _ _ _ _ _ _ _ _ _ S _ I j F];by_cases A:twoN (S.drop (mkE S (mkE S (mkE S a+k)+1)))<2
    ·rw [ae A,ae A];rfl
    ·rw [ab A,ab A];have b2:=Ag A;simp only [ob,d4,d8];rw [n _ b2];simp only [ob];rw [this];simp only [af];have G:=oy b2;rw [rk (m+300) 45 S _ G j];simp only [ob];by_cases d:eZ 45 (S.drop (mkE S (mkE S (mkE S (mkE S a+k)+1)+2)))=0
     ·rw [ae d,d];simp only [show ((0:Nat)==1)=false from rfl,jb,aj,cP];rw [E];rfl
     ·have v:=(jL 45 (S.drop (mkE S (mkE S (mkE S (mkE S a+k)+1)+2)))).resolve_left d;have o:=sI d;rw [ab d,v];simp only [show ((1:Nat)==1)=true from rfl,dc,af];unfold rd3;rw [n _ o];simp only [ob];have D:=oy o;rw [MV _ _ _ _ _ _ _ _ _ _ _ S _ D j F];by_cases w:twoN (S.drop (mkE S (mkE S (mkE S (mkE S (mkE S a+k)+1)+2)+1)))<2
      ·rw [ae w,ae w];rfl
      ·rw [ab w,ab w];have J:=Ag w;simp only [ob,d4,d8];rw [n _ J];simp only [ob];rw [C];rfl
theorem PZ (n a:Nat) (q:a<65536):∃d,jm n (a:Int)=some d/\d.length=4/\∀c∈d,bg c=true:=by
 have g:Int.tmod (a:Int) 10000=((a%10000:Nat):Int):=rfl;have i:a%10000<10000:=pU _ (by decide);generalize a%10000=N at *;have o:Int.tdiv (N:Int) 1000=((N / 1000:Nat):Int):=rfl;have l:Int.tdiv (N:Int) 100=((N / 100:Nat):Int):=rfl;have m:Int.tdiv (N:Int) 10=((N / 10:Nat):Int):=rfl;have p:IntKind.wrap .u16 ((N / 1000:Nat):Int)=((N / 1000:Nat):Int):=tj _ (by omega) (by omega);have j:IntKind.wrap .u16 ((N / 100:Nat):Int)=((N / 100:Nat):Int):=tj _ (by omega) (by omega);have f:IntKind.wrap .u16 ((N / 10:Nat):Int)=((N / 10:Nat):Int):=tj _ (by omega) (by omega);have m2:Int.tmod ((N / 100:Nat):Int) 10=((N / 100%10:Nat):Int):=rfl;have k:Int.tmod ((N / 10:Nat):Int) 10=((N / 10%10:Nat):Int):=rfl;have h:Int.tmod (N:Int) 10=((N%10:Nat):Int):=rfl;have s:∀r:Nat,r<10->IntKind.wrap .u16 ((r:Int)+1)=((r+1:Nat):Int):=λr e=>by rw [tj _ (by omega) (by omega)];omega
 refine ⟨[UInt8.ofNat (48+N / 1000),UInt8.ofNat (48+N / 100%10),UInt8.ofNat (48+N / 10%10),UInt8.ofNat (48+N%10)],?_,rfl,?_⟩
 ·simp only [jm,g,o,l,m,p,j,f,m2,k,h,s (N / 1000) (by omega),s (N / 100%10) (by omega),s (N / 10%10) (by omega),s (N%10) (by omega),eD (show N / 1000+1<=10 by omega),eD (show N / 1000<=N / 1000+1 by omega),eD (show N / 100%10+1<=10 by omega),eD (show N / 100%10<=N / 100%10+1 by omega),eD (show N / 10%10+1<=10 by omega),eD (show N / 10%10<=N / 10%10+1 by omega),eD (show N%10+1<=10 by omega),eD (show N%10<=N%10+1 by omega),ob,cutD (N / 1000) (by omega),cutD (N / 100%10) (by omega),cutD (N / 10%10) (by omega),cutD (N%10) (by omega)];rw [dE (by simp)];simp only [];rw [dE (by simp)];simp only [];rw [dE (by simp)];rfl
 ·have b:∀r:Nat,r<10->bg (UInt8.ofNat (48+r))=true:=λr e=>(dj _).2 (by rw [ky e];omega);simp only [cq,qs,rX,xm,forall_eq];exact ⟨b _ (by omega),b _ (by omega),b _ (by omega),b _ (by omega)⟩
theorem vo (n:Nat) (g l:Bool) (d:aa) (x s:Int) (e:200<n) (c:d.length<=100) (h:okY false l d x s):∃b,(ob (cr n g l d x s) λr=>(cond (r==0) (some (false,l,d,x,s)) (some (g,l,d,x,s))))=some (b,l,d,x,s)/\okY b l d x s:=by
 rw [Hh n g l d x s e c];by_cases a:okY g l d x s
 ·rw [ae a];exact ⟨g,rfl,a⟩
 ·rw [ab a];exact ⟨false,rfl,h⟩
theorem tG {d:aa} {s:Int} (f:d.length=4) (g:∀c∈d,bg c=true\/c=88) (e:0<=s) (b:s<=4) (a:¬(0<s/\hasX d=true)):okY false false d 0 s:=by
 have:okS false d 0 s:=⟨f,g,rfl,by simp,e,b,a⟩;simpa [okY] using this
theorem Ou (n:Nat) (a b:Int) (g:Bool) (d:aa) (B:d.length=4) (m:∀c∈d,bg c=true) (A:4<n):
  ∃s:aa,au (eW n) n (a,b,[],0,false,false,[],0,0,g,false,d,0,0)=some (s,false,false,[],0,0,g,false,d,0,0)/\s.length=4/\∀c∈s,bg c=true\/c=88:=by
 obtain ⟨y,u,s,v,t,p⟩:=mJ (step:=eW n) (λx=>∃(i:Nat) (s:aa),i<=4/\s.length=i/\(∀c∈s,bg c=true\/c=88)/\x=(a,b,s,(i:Int),false,false,[],0,0,g,false,d,0,0)) (λx=>4 - x.2.2.2.1.toNat) (λy=>∃s:aa,y=(s,false,false,[],0,0,g,false,d,0,0)/\s.length=4/\∀c∈s,bg c=true\/c=88) (by
  rintro x ⟨i,s,hi,hs,hc,rfl⟩;rcases aE i 4 with h | z
  ·obtain ⟨c,f⟩:∃c,d[i]?=some c:=⟨d[i],bG (by omega)⟩;have o:decide ((i:Int)<4)=true:=aw (by omega);have r:IntKind.wrap .i64 ((i:Int)+1)=((i+1:Nat):Int):=by rw [wrap_i64 _ (by omega) (by omega)];omega
   have next:∀e:UInt8,(bg e=true\/e=88)->∃j,some (Sum.inl (a,b,s++[e],((i+1:Nat):Int),false,false,([]:aa),(0:Int),(0:Int),g,false,d,(0:Int),(0:Int)))=some (Sum.inl (β:=aa×Bool×Bool×aa×Int×Int×Bool×Bool×aa×Int×Int) j)/\(∃(i:Nat) (s:aa),i<=4/\s.length=i/\(∀c∈s,bg c=true\/c=88)/\j=(a,b,s,(i:Int),false,false,[],0,0,g,false,d,0,0))/\4 - j.2.2.2.1.toNat<4 - i:=by
    intro e l;refine ⟨_,rfl,⟨i+1,s++[e],h,by simp [hs],?_,rfl⟩,by simp only [bW];omega⟩;intro w k;rcases kF.1 k with q | q
    ·exact hc w q
    ·simp only [cq,qs,rX] at q;rw [q];exact l
   simp only [eW,o,aj,r,bW,eD (show i+1<=d.length by omega),eD (show i<=i+1 by omega),ob,cut1 f];rw [dE (a:=s) (b:=[88]) (by simp;omega),dE (a:=s) (b:=[c]) (by simp;omega)];simp only [];left;cases ((i:Int)==a)
   ·cases ((i:Int)==b)
    ·exact next c (.inl (m c (fY f)))
    ·exact next 88 (.inr rfl)
   ·exact next 88 (.inr rfl)
  ·have:i=4:=by omega
   subst this;exact .inr ⟨_,rfl,s,rfl,hs,hc⟩) n (a,b,[],0,false,false,[],0,0,g,false,d,0,0) ⟨0,[],by omega,rfl,by simp,rfl⟩ (by simp;omega)
 exact ⟨s,by rw [u,v],t,p⟩
theorem cut9 (r:Nat) (h:r<9):List.drop r (List.take (r+1) ([49,50,51,52,53,54,55,56,57]:aa))=[UInt8.ofNat (49+r)]:=by
 have:∀r,r<9->List.drop r (List.take (r+1) ([49,50,51,52,53,54,55,56,57]:aa))=[UInt8.ofNat (49+r)]:=by decide
 exact this r h
theorem DN {d:aa} {x s:Nat} (b:∀c∈d,bg c=true) (i:1<=d.length) (m:d.length<=5) (g:d.head?≠some 48) (f:x<=11) (j:x=0->d.length=5) (l:s<=d.length+x):okY false true d (x:Int) (s:Int):=by
 have a:=sa d 0 0 b (by simp);have hp:(10:Nat) ^ (d.length+0)<=10 ^ 5:=kI (by decide) (by omega);have h:(10:Nat) ^ x<=10 ^ 11:=kI (by decide) f;have o:=vj (Nat.le_of_lt (mi a hp)) h;have e:(10:Nat) ^ 5*10 ^ 11=E16:=by decide
 have:okL d (x:Int) (s:Int):=⟨⟨b,i,by omega,g,by omega,by omega,by rintro ⟨k,n⟩;have:=j (by omega);omega,by simp only [bW];omega⟩,by omega,by omega⟩;simpa [okY] using this
theorem N6 (m a0 a2 a b:Nat) (g:Bool) (h2:a2<65536) (Y:a<256) (h4:b<256):∃f l d x s,gS (m+300) (a0:Int) g (a2:Int) (a:Int) (b:Int)=some (f,l,d,x,s)/\okY f l d x s/\d.length<=5/\x<=11/\(a0%6≠3->hasX d=false):=by
 obtain ⟨d,F,h,j⟩:=PZ (m+300) a2 h2;have v:∀c∈d,bg c=true\/c=88:=λc hc=>.inl (j c hc);have p:=sO j;unfold gS;rw [F];simp only [ob];cases R:(Int.tmod (a0:Int) 6==3) with
 | true=>
  simp only [aj];obtain ⟨s,G,O,L⟩:=Ou (m+300) (IntKind.wrap .i64 (Int.tmod (a:Int) 4)) (IntKind.wrap .i64 (Int.tmod (b:Int) 4)) g d h j (by omega);rw [G];obtain ⟨f,i,k⟩:=vo (m+300) g false s 0 0 (by omega) (by omega) (tG O L (by omega) (by omega) (by omega))
  exact ⟨f,false,s,0,0,i,k,by omega,by omega,λY=>absurd (by
   have e:=bA.1 R;have e2:Int.tmod (a0:Int) 6=((a0%6:Nat):Int):=rfl;omega) Y⟩
 | false=>
  simp only [af];cases (Int.tmod (a0:Int) 6==4) with
  | true=>
   simp only [aj];have e:Int.tmod (a:Int) 4=((a%4:Nat):Int):=rfl;have w1:IntKind.wrap .i64 ((a%4:Nat):Int)=((a%4:Nat):Int):=wrap_i64 _ (by omega) (by omega);have w2:IntKind.wrap .i64 (1+((a%4:Nat):Int))=((1+a%4:Nat):Int):=by rw [wrap_i64 _ (by omega) (by omega)];omega
   rw [e,w1,w2];obtain ⟨f,i,k⟩:=vo (m+300) g false d 0 ((1+a%4:Nat):Int) (by omega) (by omega) (tG h v (by omega) (by omega) (by rw [p];simp));exact ⟨f,false,d,0,_,i,k,by omega,by omega,λ_=>p⟩
  | false=>
   simp only [af];cases (Int.tmod (a0:Int) 6==5) with
   | false=>
    simp only [af];obtain ⟨f,i,k⟩:=vo (m+300) g false d 0 0 (by omega) (by omega) (tG h v (by omega) (by omega) (by omega));exact ⟨f,false,d,0,0,i,k,by omega,by omega,λ_=>p⟩
   | true=>
    simp only [aj];have e9:Int.tmod (a:Int) 9=((a%9:Nat):Int):=rfl;have Z:IntKind.wrap .u8 (((a%9:Nat):Int)+1)=((a%9+1:Nat):Int):=by rw [jf _ (by omega) (by omega)];omega
    have e3:Int.tmod (b:Int) 3=((b%3:Nat):Int):=rfl;have e5:Int.tmod (b:Int) 5=((b%5:Nat):Int):=rfl;have w5:IntKind.wrap .u8 (1+((b%5:Nat):Int))=((1+b%5:Nat):Int):=by rw [jf _ (by omega) (by omega)];omega
    have C:Int.tdiv (b:Int) 16=((b / 16:Nat):Int):=rfl;have Q:IntKind.wrap .u8 ((b / 16:Nat):Int)=((b / 16:Nat):Int):=jf _ (by omega) (by omega);have W:Int.tmod ((b / 16:Nat):Int) 11=((b / 16%11:Nat):Int):=rfl;have N:IntKind.wrap .i64 ((b / 16%11:Nat):Int)=((b / 16%11:Nat):Int):=wrap_i64 _ (by omega) (by omega);have U:IntKind.wrap .i64 (1+((b / 16%11:Nat):Int))=((1+b / 16%11:Nat):Int):=by rw [wrap_i64 _ (by omega) (by omega)];omega
    have M:Int.tdiv (a:Int) 16=((a / 16:Nat):Int):=rfl;have B:IntKind.wrap .u8 ((a / 16:Nat):Int)=((a / 16:Nat):Int):=jf _ (by omega) (by omega);have I:IntKind.wrap .i64 ((a / 16:Nat):Int)=((a / 16:Nat):Int):=wrap_i64 _ (by omega) (by omega);have P:UInt8.ofNat (49+a%9)≠48:=by
     intro q;have:=ck UInt8.toNat q;rw [show 49+a%9=48+(1+a%9) by omega,ky (by omega)] at this;exact absurd this (by show ¬48+(1+a%9)=48;omega)
    have n:bg (UInt8.ofNat (49+a%9))=true:=(dj _).2 (by rw [show 49+a%9=48+(1+a%9) by omega,ky (by omega)];omega);rw [e9,Z,eD (show a%9+1<=9 by omega)];simp only [];rw [eD (show a%9<=a%9+1 by omega)];simp only [];rw [cut9 (a%9) (by omega),dE (by simp;omega)];simp only [];generalize H:[UInt8.ofNat (49+a%9)]++d=D;have A:D.length=5:=by rw [<-H];simp [h]
    have t:∀c∈D,bg c=true:=by
     rw [<-H];intro c hc;simp only [dL,da,cq] at hc;rcases hc with rfl | hc
     ·exact n
     ·exact j c hc
    have y:D.head?≠some 48:=by rw [<-H];simpa using P
    rw [e3,e5,w5,C,Q,W,N,U,M,B,I];by_cases h33:0<b%3
    ·have T:decide (((b%3:Nat):Int)>0)=true:=aw (by omega);rw [T,aj,eD (show 1+b%5<=D.length by omega)];simp only [cH];generalize S:List.take (1+b%5) D=E;have hEl:E.length=1+b%5:=by rw [<-S,eT];omega
     have z:∀c∈E,bg c=true:=by rw [<-S];exact λc hc=>t c (List.mem_of_mem_take hc)
     have K:E.head?≠some 48:=by
      rw [<-S];cases D with
      | nil=>simp at A
      | cons c r=>rw [nz,kE];simpa using y
     generalize hX:1+b / 16%11=X;have w:X<=11:=by omega
     have hX1:1<=X:=by omega
     have J:IntKind.wrap .i64 (IntKind.wrap .i64 (((E.length:Nat):Int)+((X:Nat):Int))+1)=((E.length+X+1:Nat):Int):=by
      rw [wrap_i64 (((E.length:Nat):Int)+((X:Nat):Int)) (by omega) (by omega),wrap_i64 _ (by omega) (by omega)];omega
     have u:(((E.length+X+1:Nat):Int)==0)=false:=br.2 (by omega);rw [J,u,af];have V:Int.tmod ((a / 16:Nat):Int) ((E.length+X+1:Nat):Int)=((a / 16%(E.length+X+1):Nat):Int):=rfl;rw [V];have o:a / 16%(E.length+X+1)<E.length+X+1:=pU _ (by omega);generalize a / 16%(E.length+X+1)=s at o ⊢;obtain ⟨f,i,k⟩:=vo (m+300) g true E ((X:Nat):Int) ((s:Nat):Int) (by omega) (by omega) (DN z (by omega) (by omega) K w (by omega) (by omega));exact ⟨f,true,E,_,_,i,k,by omega,by omega,λ_=>sO z⟩
    ·have T:decide (((b%3:Nat):Int)>0)=false:=ay (by omega);rw [T,af,A];have J:IntKind.wrap .i64 (IntKind.wrap .i64 (((5:Nat):Int)+0)+1)=((6:Nat):Int):=by decide
     have u:(((6:Nat):Int)==0)=false:=rfl;rw [J,u,af];have V:Int.tmod ((a / 16:Nat):Int) ((6:Nat):Int)=((a / 16%6:Nat):Int):=rfl;rw [V];have o:a / 16%6<6:=pU _ (by omega);generalize a / 16%6=s at o ⊢;obtain ⟨f,i,k⟩:=vo (m+300) g true D ((0:Nat):Int) ((s:Nat):Int) (by omega) (by omega) (DN t (by omega) (by omega) y (by omega) (by omega) (by omega));exact ⟨f,true,D,_,_,i,k,by omega,by omega,λ_=>sO t⟩
theorem Sv (m a0 a2 b f:Nat) (g:Bool) (c:a2<65536) (j:b<256) (i:f<256):∃a l d x s,gS (m+300) (a0:Int) g (a2:Int) (b:Int) (f:Int)=some (a,l,d,x,s)/\okY a l d x s/\d.length<=5/\x<=11:=by
 obtain ⟨a,l,d,x,s,e,h,k,c,_⟩:=N6 m a0 a2 b f g c j i;exact ⟨a,l,d,x,s,e,h,k,c⟩
theorem qT {g l:Bool} {d:aa} {x s:Nat} (h:okY g l d (x:Int) (s:Int)):(eh g l d (x:Int) (s:Int)).length<=25:=by
 have hs:=je h;have b:=zX 69 (show x<100 by omega);have c:=zX 83 (show s<100 by omega);rw [jM];simp only [bv];have a:(if l=true then ([89]:aa) else []).length<=1:=by split<;>simp
 have e:(if g=true then ([45]:aa) else []).length<=1:=by split<;>simp
 omega
def bO (A B:Nat) (w:aa):aa:=mt A++w++mt B
def pW (g l:Bool) (dg:aa) (x q:Int) (m d:aa) (k0 k1 k2:Nat):aa:=
 bO (plA (bp m d) k0 k1 k2).1 (plB (bp m d) k0 k1 k2).1 (eh g l dg x q)
  ++ ((if m=[] then [] else 45::bO (plA (bp m d) k0 k1 k2).2.1 (plB (bp m d) k0 k1 k2).2.1 m)
  ++ (if d=[] then [] else 45::bO (plA (bp m d) k0 k1 k2).2.2 (plB (bp m d) k0 k1 k2).2.2 d))
structure OkD (g l:Bool) (dg:aa) (x q:Nat) (m d:aa) (k0 k1 k2:Nat):Prop where
 yr:okY g l dg (x:Int) (q:Int)
 x16:x<=16
 q17:q<=17
 dg17:dg.length<=17
 noM:0<q->m=[]
 mon:m=[]\/(m.length=2/\∀c∈m,isDX c=true)
 day:d=[]\/(m≠[]/\d.length=2/\∀c∈d,isDX c=true)
 m0:k0<4
 m1:k1<4
 m2:k2<4
 z1:bp m d<2->k1=0
 z2:bp m d<3->k2=0
theorem E5 {g l:Bool} {dg:aa} {x q:Int} {m d:aa} {k0 k1 k2:Int} (B:0<=k0) (u:0<=k1) (A:0<=k2) (h:chkD g l dg x q m d k0 k1 k2=0):
  ∃p o a b c:Nat,x=(p:Int)/\q=(o:Int)/\k0=(a:Int)/\k1=(b:Int)/\k2=(c:Int)/\OkD g l dg p o m d a b c:=by
 obtain ⟨hy,f,j,k⟩:=HO h;unfold yrD at hy;by_cases e:okY g l dg x q
 rotate_left
 ·rw [ab e] at hy;cases hy
 rw [ae e] at hy;obtain ⟨s,w,r,v,y,t⟩:=je e;have hk':¬(3<k0\/3<k1\/3<k2\/(bp m d<2/\k1≠0)\/(bp m d<3/\k2≠0)):=by
  intro z;unfold allM at k;rw [ae z] at k;exact absurd k (by decide)
 refine ⟨x.toNat,q.toNat,k0.toNat,k1.toNat,k2.toNat,by omega,by omega,by omega,by omega,by omega,?_⟩;rw [<-EH s,<-EH r] at e;refine ⟨e,by omega,by omega,t,?_,?_,?_,by omega,by omega,by omega,by omega,by omega⟩
 ·intro C;unfold yrB at hy;have hq':decide (0<q)=true:=by simp;omega
  rw [hq'] at hy;by_cases i:m=[]
  ·exact i
  ·have:(m==[])=false:=br.2 i;rw [this] at hy;simp at hy
 ·rcases f with f | f | f
  ·exact .inl f
  ·exact .inr (Ji f)
  ·exact .inr (pf (by omega) f)
 ·rcases j with j | ⟨j,_,n⟩
  ·exact .inl j
  ·have:=pf (show 31<=31 by omega) n;exact .inr ⟨j,this.1,this.2⟩
theorem K6 (n k i:Nat) (hi:i<k) (y:k<=3) (A B:List Nat) (a b:Nat) (j:A[i]?=some a) (q:B[i]?=some b) (f:a<4) (g:b<4) (ws:List (aa)) (C:ws.length=k) (w:aa) (w0 e d:aa) (r:[w0,e,d][i]?=some w) (p:w.length<=1000):
  aJ n (k,(k:Int),(i:Int),A.map cI,B.map cI,ws,[w0,e,d])=some (.inl (k,(k:Int),((i+1:Nat):Int),A.map cI,B.map cI,ws.set i (bO a b w),[w0,e,d])):=by
 have w2':IntKind.wrap .i64 ((i:Int)+1)=((i+1:Nat):Int):=by rw [wrap_i64 _ (by omega) (by omega)];omega
 have o:(A.map cI)[i]?=some (a:Int):=by rw [l6,j];rfl
 have h:(B.map cI)[i]?=some (b:Int):=by rw [l6,q];rfl
 have c:∀z:Nat,z<4->(mt z).length<=1:=λz u=>by
  unfold mt;split
  ·simp
  ·split
   ·simp
   ·split<;>simp
 unfold aJ;rw [bM,ae (show (i:Int)<(k:Int) by omega)];simp only [eY hi,eY (show i<3 by omega),ob,r,d4,o,h,EV n a f,EV n b g];have x:=c a f;have t:=c b g;have l:cat (mt a) w=some (mt a++w):=dE (by omega);have s:cat (mt a++w) (mt b)=some (mt a++w++mt b):=dE (by rw [bv];omega);rw [l];simp only [ob];rw [s];simp only [ob];have hi':i<ws.length:=by omega
 obtain ⟨v,m⟩:∃v,ws[i]?=some v:=⟨ws[i],bG hi'⟩;rw [eY hi'];simp only [ob,m,w2'];rfl
theorem CU (n k:Nat) (A B:List Int) (ws V:List (aa)):aJ n (k,(k:Int),(k:Int),A,B,ws,V)=some (.inr ws):=by
 unfold aJ;rw [bM,ab (show ¬((k:Int)<(k:Int)) by omega)]
theorem lj (a b:Nat) (w:aa):(bO a b w).length<=w.length+2:=by
 have c:∀z:Nat,(mt z).length<=1:=λz=>by
  unfold mt;split
  ·simp
  ·split
   ·simp
   ·split<;>simp
 have:=c a;have:=c b;unfold bO;simp only [bv];omega
theorem Ef:bp [] []=1:=rfl
theorem xb {m:aa} (h:m≠[]):bp m []=2:=by unfold bp;rw [br.2 h];rfl
theorem vu {m d:aa} (h:m≠[]) (a:d≠[]):bp m d=3:=by unfold bp;rw [br.2 h,br.2 a];rfl
theorem mQ {d:aa} (h:d.length=2):d≠[]:=by rintro rfl;simp at h
theorem Pj (n:Nat) (g l:Bool) (dg:aa) (x q:Nat) (m d:aa) (k0 k1 k2:Nat) (V:m.length<=18) (P:dg.length<=100):
  bR (n+300) g l dg (x:Int) (q:Int) m d (k0:Int) (k1:Int) (k2:Int)=some (if chkD g l dg (x:Int) (q:Int) m d (k0:Int) (k1:Int) (k2:Int)=0 then (pW g l dg (x:Int) (q:Int) m d k0 k1 k2,0) else ([],chkD g l dg (x:Int) (q:Int) m d (k0:Int) (k1:Int) (k2:Int))):=by
 unfold bR;rw [sV (n+300) (by omega) g l dg _ _ m d _ _ _ V P (by omega) (by omega) (by omega)];show cond (chkD g l dg (x:Int) (q:Int) m d (k0:Int) (k1:Int) (k2:Int) != 0) _ _=_;rw [sJ];by_cases C:chkD g l dg (x:Int) (q:Int) m d (k0:Int) (k1:Int) (k2:Int)=0
 rotate_left
 ·rw [ab C,ab C]
 rw [ae C,ae C];obtain ⟨R,T,a,b,c,e1,e2,e3,e4,e5,o⟩:=E5 (by omega) (by omega) (by omega) C;obtain rfl:x=R:=by omega
 obtain rfl:q=T:=by omega
 obtain rfl:k0=a:=by omega
 obtain rfl:k1=b:=by omega
 obtain rfl:k2=c:=by omega
 have hc:=mP m d;have K:=P7 n (bp m d) k0 k1 k2 hc o.m0 o.m1 o.m2 o.z1 o.z2;obtain ⟨F,I,O,y,M,N⟩:=Q8 (k:=bp m d) o.m0 o.m1 o.m2;rw [nD (n+300) (by omega)];simp only [ob];rw [K,sU (n+300) g l dg _ _ (by omega) P,ae o.yr];simp only [ob,eF,af,Av o.yr,aj];have B:(decide ((0:Int)<=((bp m d:Nat):Int))&&(decide (((bp m d:Nat):Int)<=((bp m d:Nat):Int))&&decide (((bp m d:Nat):Int)<=(67108864:Int))))=true:=by
  rw [aw (by omega),aw (by omega),aw (by omega)];rfl
 rw [B,eD (show bp m d<=3 by omega)];simp only [ob,aj,bW];have J:=qT o.yr;have S:Nat.ble 1 140737488355328=true:=rfl;have W:Nat.ble 2 140737488355328=true:=rfl;have q3:Nat.ble 3 140737488355328=true:=rfl;unfold pW;generalize eh g l dg (x:Int) (q:Int)=Y at J;generalize E:plA (bp m d) k0 k1 k2=Q at *;generalize D:plB (bp m d) k0 k1 k2=PB at *;obtain ⟨j,r,s⟩:=Q;obtain ⟨f,p,t⟩:=PB;simp only at F I O y M N;have st:=λ(k i:Nat) (hi:i<k) (hk:k<=3) (a b:Nat) (ha:[j,r,s][i]?=some a) (hb:[f,p,t][i]?=some b) (a4:a<4) (b4:b<4) (ws:List (aa)) (hl:ws.length=k) (w:aa) (w0 w1 w2:aa) (G:[w0,w1,w2][i]?=some w) (hwl:w.length<=1000)=>K6 (n+300) k i hi hk [j,r,s] [f,p,t] a b ha hb a4 b4 ws hl w w0 w1 w2 G hwl;have A:∀L:aa,L.length<=1000->Nat.ble L.length 140737488355328=true:=λL h=>co (by omega);by_cases u:m=[]
 ·have v:d=[]:=o.day.resolve_right (λz=>z.1 u);subst u v;show ob (au (aJ (n+300)) (n+299+1) (1,((1:Nat):Int),((0:Nat):Int),[j,r,s].map cI,[f,p,t].map cI,[[]],[Y,[],[]])) _=_;rw [au,st 1 0 (by omega) (by omega) j f rfl rfl F y [[]] rfl Y Y [] [] rfl (by omega)];show ob (au (aJ (n+300)) (n+298+1) (1,((1:Nat):Int),((1:Nat):Int),[j,r,s].map cI,[f,p,t].map cI,[bO j f Y],[Y,[],[]])) _=_;rw [au,CU];simp only [ob];have e:Lib.join [bO j f Y] [45]=bO j f Y:=Lib.join_one _ _;have G:=lj j f Y;rw [e,A _ (by omega)];simp [S]
 ·have U:m.length=2:=(o.mon.resolve_left u).1;by_cases v:d=[]
  ·subst v;rw [xb u] at E D ⊢;show ob (au (aJ (n+300)) (n+299+1) (2,((2:Nat):Int),((0:Nat):Int),[j,r,s].map cI,[f,p,t].map cI,[[],[]],[Y,m,[]])) _=_;rw [au,st 2 0 (by omega) (by omega) j f rfl rfl F y [[],[]] rfl Y Y m [] rfl (by omega)];show ob (au (aJ (n+300)) (n+298+1) (2,((2:Nat):Int),((1:Nat):Int),[j,r,s].map cI,[f,p,t].map cI,[bO j f Y,[]],[Y,m,[]])) _=_;rw [au,st 2 1 (by omega) (by omega) r p rfl rfl I M [bO j f Y,[]] rfl m Y m [] rfl (by omega)];show ob (au (aJ (n+300)) (n+297+1) (2,((2:Nat):Int),((2:Nat):Int),[j,r,s].map cI,[f,p,t].map cI,[bO j f Y,bO r p m],[Y,m,[]])) _=_;rw [au,CU];simp only [ob];have e:Lib.join [bO j f Y,bO r p m] [45]=bO j f Y++(45::bO r p m):=by rw [Lib.join_cons];simp [Lib.joinTail]
   have G:=lj j f Y;have H:=lj r p m;rw [e,A _ (by simp only [bv,aG];omega)];rw [ab u];simp [W]
  ·have Z:d.length=2:=(o.day.resolve_left v).2.1;rw [vu u v] at E D ⊢;show ob (au (aJ (n+300)) (n+299+1) (3,((3:Nat):Int),((0:Nat):Int),[j,r,s].map cI,[f,p,t].map cI,[[],[],[]],[Y,m,d])) _=_;rw [au,st 3 0 (by omega) (by omega) j f rfl rfl F y [[],[],[]] rfl Y Y m d rfl (by omega)];show ob (au (aJ (n+300)) (n+298+1) (3,((3:Nat):Int),((1:Nat):Int),[j,r,s].map cI,[f,p,t].map cI,[bO j f Y,[],[]],[Y,m,d])) _=_;rw [au,st 3 1 (by omega) (by omega) r p rfl rfl I M [bO j f Y,[],[]] rfl m Y m d rfl (by omega)];show ob (au (aJ (n+300)) (n+297+1) (3,((3:Nat):Int),((2:Nat):Int),[j,r,s].map cI,[f,p,t].map cI,[bO j f Y,bO r p m,[]],[Y,m,d])) _=_;rw [au,st 3 2 (by omega) (by omega) s t rfl rfl O N [bO j f Y,bO r p m,[]] rfl d Y m d rfl (by omega)];show ob (au (aJ (n+300)) (n+296+1) (3,((3:Nat):Int),((3:Nat):Int),[j,r,s].map cI,[f,p,t].map cI,[bO j f Y,bO r p m,bO s t d],[Y,m,d])) _=_;rw [au,CU];simp only [ob];have e:Lib.join [bO j f Y,bO r p m,bO s t d] [45]=bO j f Y++(45::bO r p m++(45::bO s t d)):=by rw [Lib.join_cons];simp [Lib.joinTail]
   have G:=lj j f Y;have H:=lj r p m;have X:=lj s t d;rw [e,A _ (by simp only [bv,aG];omega)];rw [ab u,ab v];simp [q3]
def isMk (c:UInt8):Bool:=decide (0<mkOf c)
theorem fC {S u v:aa} {a:Nat} (h:S.drop a=u++v):S.drop (a+u.length)=v:=by
 rw [<-iV,h,Ad];rfl
theorem G0 {A:Nat} (d:A<4) {r:aa} (b:bY isMk r):mkS (mt A++r)=A/\mkN (mt A++r)=(mt A).length:=by
 have a:mkS r=0:=by
  cases r with
  | nil=>rfl
  | cons c r=>
   have:=b c rfl;unfold isMk at this;have:=of_decide_eq_false this;show mkOf c=0;omega
 have h:A=0\/A=1\/A=2\/A=3:=by omega
 rcases h with rfl | rfl | rfl | rfl
 ·refine ⟨a,?_⟩;show mkN r=0;unfold mkN;rw [ae a]
 ·exact ⟨rfl,rfl⟩
 ·exact ⟨rfl,rfl⟩
 ·exact ⟨rfl,rfl⟩
theorem dm {p:UInt8->Bool} {c:UInt8} {r:aa} (h:p c=false):bY p (c::r):=λa hc=>by
 simp only [pH,ah] at hc;rw [<-hc];exact h
theorem BE {p:UInt8->Bool} (B:Nat) {r:aa} (b:p 63=false) (c:p 126=false) (a:p 37=false) (d:bY p r):bY p (mt B++r):=by
 unfold mt;split
 ·exact dm b
 ·split
  ·exact dm c
  ·split
   ·exact dm a
   ·exact d
theorem FG {c:UInt8} (h:isDX c=true):isMk c=false:=by
 have:=gN (λc=>!(isDX c)||!(isMk c)) (by decide +kernel) c;rw [h] at this;simpa using this
theorem sL {p q:UInt8->Bool} {w r:aa} (b:w≠[]) (h:∀c∈w,p c=true) (a:∀c,p c=true->q c=false):bY q (w++r):=by
 cases w with
 | nil=>exact absurd rfl b
 | cons c w=>exact dm (a c (h c kK))
theorem Jd {g l:Bool} {d:aa} {x s:Int} (h:okY g l d x s):∀c∈d,isDX c=true:=by
 intro c hc;unfold okY at h;have:bg c=true\/c=88:=by
  split at h
  ·exact .inl (h.1.1 c hc)
  ·exact h.2.1 c hc
 unfold isDX;rcases this with a | a
 ·rw [a];rfl
 ·rw [a];decide
theorem F8 {g l:Bool} {d:aa} {x s:Nat} (h:okY g l d (x:Int) (s:Int)) (r:aa):bY isMk (eh g l d (x:Int) (s:Int)++r):=by
 have a:d≠[]:=by
  have:=(je h).2.2.2.2.1;rintro rfl;simp at this
 rw [jM];cases l with
 | true=>exact dm (by decide)
 | false=>
  cases g with
  | true=>exact dm (by decide)
  | false=>
   simp only [bE,aC,da,eJ];exact sL a (Jd h) (λc=>FG)
theorem qF {S:aa} {p A B:Nat} {w R:aa} (h:S.drop p=bO A B w++R) (f:A<4) (e:B<4) (g:bY isMk (w++(mt B++R))) (i:bY isMk R):
  mkS (S.drop p)=A/\S.drop (mkE S p)=w++(mt B++R)/\mkS (S.drop (mkE S p+w.length))=B/\S.drop (mkE S (mkE S p+w.length))=R/\mkE S (mkE S p+w.length)=p+(bO A B w).length:=by
 have h':S.drop p=mt A++(w++(mt B++R)):=by rw [h];unfold bO;simp
 obtain ⟨l,j⟩:=G0 f g;obtain ⟨k,m⟩:=G0 e i;have c:mkE S p=p+(mt A).length:=by unfold mkE;rw [h',j]
 have d:S.drop (mkE S p)=w++(mt B++R):=by rw [c];exact fC h'
 have b:S.drop (mkE S p+w.length)=mt B++R:=fC d;have a:mkE S (mkE S p+w.length)=mkE S p+w.length+(mt B).length:=by
  show mkE S p+w.length+mkN (S.drop (mkE S p+w.length))=_;rw [b,m]
 refine ⟨by rw [h',l],d,by rw [b,k],by rw [a];exact fC b,?_⟩;rw [a,c];unfold bO;simp only [bv];omega
theorem yH {m r:aa} (d:m.length=2) (h:∀c∈m,isDX c=true):twoN (m++r)=2/\(m++r).take 2=m:=by
 match m,d with
 | [a,b],_=>
  have e:=h a (by simp);have f:=h b (by simp);refine ⟨?_,rfl⟩;unfold twoN;show bV isDX 2 (a::b::r)=2;simp [bV,e,f]
theorem O2 {k a b c:Nat} (d:k<2->b=0) (e:k<3->c=0) (f:1<=k):(k<2->(plA k a b c).2.1=0/\(plB k a b c).2.1=0)/\(k<3->(plA k a b c).2.2=0/\(plB k a b c).2.2=0):=by
 unfold plA plB;constructor
 ·intro h;have:k=1:=by omega
  subst this;have:=d h;split
  ·simp
  ·simp [this]
 ·intro h;have:=e h;split
  ·split
   ·simp
   ·have:k=2:=by omega
    simp [this]
  ·simp [this]
def rawD (A B:Nat×Nat×Nat) (g l:Bool) (dg:aa) (x q:Int) (m d:aa):aa:=
 bO A.1 B.1 (eh g l dg x q)++((if m=[] then [] else 45::bO A.2.1 B.2.1 m)++(if d=[] then [] else 45::bO A.2.2 B.2.2 d))
structure MkD (A B:Nat×Nat×Nat) (m d:aa):Prop where
 a0:A.1<4
 a1:A.2.1<4
 a2:A.2.2<4
 b0:B.1<4
 b1:B.2.1<4
 b2:B.2.2<4
 zm:m=[]->A.2.1=0/\B.2.1=0
 zd:d=[]->A.2.2=0/\B.2.2=0
structure ShD (g l:Bool) (dg:aa) (x q:Nat) (m d:aa):Prop where
 yr:okY g l dg (x:Int) (q:Int)
 noM:0<q->m=[]
 mon:m=[]\/(m.length=2/\∀c∈m,isDX c=true)
 day:d=[]\/(m≠[]/\d.length=2/\∀c∈d,isDX c=true)
theorem OkD.sh {g l:Bool} {dg:aa} {x q:Nat} {m d:aa} {k0 k1 k2:Nat} (h:OkD g l dg x q m d k0 k1 k2):ShD g l dg x q m d:=⟨h.yr,h.noM,h.mon,h.day⟩
theorem OkD.marks {g l:Bool} {dg:aa} {x q:Nat} {m d:aa} {k0 k1 k2:Nat} (h:OkD g l dg x q m d k0 k1 k2):MkD (plA (bp m d) k0 k1 k2) (plB (bp m d) k0 k1 k2) m d:=by
 obtain ⟨X,U,W,E,Q,O⟩:=Q8 (k:=bp m d) h.m0 h.m1 h.m2;obtain ⟨J,G⟩:=O2 (a:=k0) h.z1 h.z2 (mP m d).1;refine ⟨X,U,W,E,Q,O,λC=>J ?_,λY=>G ?_⟩
 ·have F:d=[]:=h.day.resolve_right (λz=>z.1 C);subst C F;rw [Ef];omega
 ·subst Y;by_cases C:m=[]
  ·subst C;rw [Ef];omega
  ·rw [xb C];omega
theorem xo {A B:Nat×Nat×Nat} {g l:Bool} {dg:aa} {x q:Nat} {m d:aa} (f:ShD g l dg x q m d) (p:MkD A B m d) {S:aa} {a:Nat} {post:aa} (h:S.drop a=rawD A B g l dg (x:Int) (q:Int) m d++post)
  (hp1:bY isYC post) (v:bY isMk post) (N:bY (λc=>c==45) post):
  ∃P:Nat×Nat×Nat,P.1=a+(mt A.1).length/\pq S a=.inr (g,l,dg,x,q,m,d,spM A B,P,a+(rawD A B g l dg (x:Int) (q:Int) m d).length):=by
 obtain ⟨l0,l1,l2,U,l4,l5,hz1,y⟩:=p;obtain ⟨k,t,J⟩:=A;obtain ⟨j,n,C⟩:=B;simp only at l0 l1 l2 U l4 l5 hz1 y h;unfold rawD at h ⊢;simp only at h ⊢;have H:isMk 45=false:=by decide
 have Q:isYC 45=false:=by decide
 have M:∀r:aa,bY (λc=>c==45) r->eZ 45 r=0:=λr hr=>by
  cases r with
  | nil=>rfl
  | cons c r=>
   have:=hr c rfl;exact mR (λe=>by rw [e] at this;exact absurd this (by decide)) r
 have hyx:=JC f.yr;have O:=F8 f.yr;generalize hY:eh g l dg (x:Int) (q:Int)=Y at *;have E:∀R:aa,S.drop a=bO k j Y++R->bY isYC R->bY isMk R->
   mkE S a=a+(mt k).length/\mkS (S.drop a)=k/\qC (S.drop (mkE S a))=.inr (g,l,dg,x,q,Y.length)/\mkS (S.drop (mkE S a+Y.length))=j/\S.drop (mkE S (mkE S a+Y.length))=R/\mkE S (mkE S a+Y.length)=a+(bO k j Y).length:=by
  intro R hR h1 Z;obtain ⟨I,w,D,s,G⟩:=qF hR l0 U (O _) Z;refine ⟨?_,I,?_,D,s,G⟩
  ·have hR':S.drop a=mt k++(Y++(mt j++R)):=by rw [hR];unfold bO;simp
   unfold mkE;rw [hR',(G0 l0 (O _)).2]
  rw [w];exact hyx _ (BE j (by decide) (by decide) (by decide) h1)
 unfold pq;by_cases b:m=[]
 ·have i:d=[]:=f.day.resolve_right (λz=>z.1 b);subst b i;simp only [aI,kx] at h ⊢;obtain ⟨w0,I,w,D,s,G⟩:=E post h hp1 v;rw [w];simp only [];rw [s,ae (.inr (M post N)),I,D,G];obtain ⟨rfl,rfl⟩:=hz1 rfl;obtain ⟨rfl,rfl⟩:=y rfl;exact ⟨_,w0,rfl⟩
 ·have W:¬0<q:=λz=>b (f.noM z);obtain ⟨o,F⟩:=f.mon.resolve_left b;rw [ab b] at h ⊢;have p:∀r,bY isMk (m++r):=λr=>sL b F (λc=>FG);by_cases i:d=[]
  ·subst i;rw [ae rfl,kx] at h ⊢;have h':S.drop a=bO k j Y++(45::(bO t n m++post)):=by rw [h];simp
   obtain ⟨w0,I,w,D,s,G⟩:=E _ h' (dm Q) (dm H);rw [w];simp only [];rw [s,lR,ab (λz=>z.elim W (by omega)),I,D];unfold rd2;have Z:S.drop (mkE S (mkE S a+Y.length)+1)=bO t n m++post:=fC (u:=[45]) s;obtain ⟨v1,v2,V,K,v5⟩:=qF Z l1 l4 (p _) v;obtain ⟨T,u2⟩:=yH (r:=mt n++post) o F;rw [<-v2] at T u2;rw [o] at V K v5;rw [T,ab (by omega),K,M post N,ae rfl,u2,v1,V,v5,G];obtain ⟨rfl,rfl⟩:=y rfl;have:a+(bO k j Y).length+1+(bO t n m).length=a+(bO k j Y++45::bO t n m).length:=by simp only [bv,aG];omega
   rw [this];exact ⟨_,w0,rfl⟩
  ·obtain ⟨_,X,L⟩:=f.day.resolve_left i;rw [ab i] at h ⊢;have hdk:∀r,bY isMk (d++r):=λr=>sL i L (λc=>FG);have h':S.drop a=bO k j Y++(45::(bO t n m++(45::(bO J C d++post)))):=by rw [h];simp
   obtain ⟨w0,I,w,D,s,G⟩:=E _ h' (dm Q) (dm H);rw [w];simp only [];rw [s,lR,ab (λz=>z.elim W (by omega)),I,D];unfold rd2;have Z:S.drop (mkE S (mkE S a+Y.length)+1)=bO t n m++(45::(bO J C d++post)):=fC (u:=[45]) s;obtain ⟨v1,v2,V,K,v5⟩:=qF Z l1 l4 (p _) (dm H);obtain ⟨T,u2⟩:=yH (r:=mt n++(45::(bO J C d++post))) o F;rw [<-v2] at T u2;rw [o] at V K v5;rw [T,ab (by omega),K,lR,ab (by omega),u2,v1,V];unfold rd3;have h3:S.drop (mkE S (mkE S (mkE S (mkE S a+Y.length)+1)+2)+1)=bO J C d++post:=fC (u:=[45]) K;obtain ⟨x1,x2,x3,x4,x5⟩:=qF h3 l2 l5 (hdk _) v;obtain ⟨s1,s2⟩:=yH (r:=mt C++post) X L;rw [<-x2] at s1 s2;rw [X] at x3 x4 x5;rw [s1,ab (by omega),s2,x1,x3,x5,v5,G];have:a+(bO k j Y).length+1+(bO t n m).length+1+(bO J C d).length=a+(bO k j Y++(45::bO t n m++45::bO J C d)).length:=by simp only [bv,aG];omega
   rw [this];exact ⟨_,w0,rfl⟩
theorem Gu {g l:Bool} {dg:aa} {x q:Nat} {m d:aa} {k0 k1 k2:Nat} (b:OkD g l dg x q m d k0 k1 k2) {S:aa} {a:Nat} {post:aa} (h:S.drop a=pW g l dg (x:Int) (q:Int) m d k0 k1 k2++post)
  (i:bY isYC post) (e:bY isMk post) (f:bY (λc=>c==45) post):
  ∃P,pq S a=.inr (g,l,dg,x,q,m,d,(k0,k1,k2),P,a+(pW g l dg (x:Int) (q:Int) m d k0 k1 k2).length):=by
 obtain ⟨P,_,j⟩:=xo b.sh b.marks (S:=S) (a:=a) (post:=post) h i e f;rw [SU (bp m d) k0 k1 k2 (mP m d) b.m0 b.m1 b.m2 b.z1 b.z2] at j;exact ⟨P,j⟩
theorem Jv {g l:Bool} {dg:aa} {x q:Nat} {m d:aa} {k0 k1 k2:Nat} (a:OkD g l dg x q m d k0 k1 k2):(pW g l dg (x:Int) (q:Int) m d k0 k1 k2).length<=37:=by
 have hy:=qT a.yr;have e:=lj (plA (bp m d) k0 k1 k2).1 (plB (bp m d) k0 k1 k2).1 (eh g l dg (x:Int) (q:Int));have f:=lj (plA (bp m d) k0 k1 k2).2.1 (plB (bp m d) k0 k1 k2).2.1 m;have i:=lj (plA (bp m d) k0 k1 k2).2.2 (plB (bp m d) k0 k1 k2).2.2 d;have c:m.length<=2:=by
  rcases a.mon with h | h
  ·rw [h];simp
  ·omega
 have b:d.length<=2:=by
  rcases a.day with h | h
  ·rw [h];simp
  ·omega
 unfold pW;simp only [bv];have a1:(if m=[] then [] else 45::bO (plA (bp m d) k0 k1 k2).2.1 (plB (bp m d) k0 k1 k2).2.1 m).length<=5:=by
  split
  ·simp
  ·simp only [aG];omega
 have a2:(if d=[] then [] else 45::bO (plA (bp m d) k0 k1 k2).2.2 (plB (bp m d) k0 k1 k2).2.2 d).length<=5:=by
  split
  ·simp
  ·simp only [aG];omega
 omega
abbrev PD:=Bool×Bool×aa×Int×Int×aa×aa×Int×Int×Int×Int×Int
def pz (a e:Int):PD:=(false,false,[],0,0,[],[],0,0,0,a,e)
def JL (S:aa):Nat⊕DR->PD
 | .inl k=>pz (k:Int) 5
 | .inr (g,l,dg,x,s,m,d,M,P,e)=>if e<S.length then pz (e:Int) 5 else
   if chkD g l dg (x:Int) (s:Int) m d (M.1:Int) (M.2.1:Int) (M.2.2:Int)=0 then (g,l,dg,(x:Int),(s:Int),m,d,(M.1:Int),(M.2.1:Int),(M.2.2:Int),0,0)
   else pz ((l3 P).getD (chkD g l dg (x:Int) (s:Int) m d (M.1:Int) (M.2.1:Int) (M.2.2:Int) - 6).toNat 0) (chkD g l dg (x:Int) (s:Int) m d (M.1:Int) (M.2.1:Int) (M.2.2:Int))
def AY (S:aa):PD:=JL S (pq S 0)
theorem N3 {A B:Nat×Nat×Nat} (d:A.1<4) (e:A.2.1<4) (f:A.2.2<4) (g0:B.1<4) (c:B.2.1<4) (b:B.2.2<4):(spM A B).1<4/\(spM A B).2.1<4/\(spM A B).2.2<4:=by
 have a:∀x y:Nat,x<4->y<4->x ||| y<4:=λx y hx hy=>(or4 hx hy).2;exact ⟨a _ _ (a _ _ (a _ _ d g0) c) b,a _ _ (a _ _ e c) b,a _ _ f b⟩
structure RdOK (S:aa) (a:Nat) (dg m d:aa) (M:Nat×Nat×Nat) (e:Nat):Prop where
 dg17:dg.length<=17
 m2:m.length<=2
 d2:d.length<=2
 all:inM (bp m d) M
 le:a<=e
 end_:e<=S.length
theorem yX {S:aa} {a:Nat} (h:a<=S.length) {g l:Bool} {dg:aa} {x s:Nat} {m d:aa} {M P:Nat×Nat×Nat} {e:Nat} (b:pq S a=.inr (g,l,dg,x,s,m,d,M,P,e)):RdOK S a dg m d M e:=by
 have c:∀p,mkS (S.drop p)<4:=λp=>DD _;have o:0<4:=by omega
 have b0:=oy h;have g0:a<=mkE S a:=yK _ _;have n:∀p,p<=mkE S p:=λp=>yK _ _;unfold pq at b;cases hy:qC (S.drop (mkE S a)) with
 | inl k=>rw [hy] at b;cases b
 | inr y=>
  obtain ⟨K,Q,C,I,s',k⟩:=y;obtain ⟨_,bk,_,_,i⟩:=vd hy;have bk:mkE S a+k<=S.length:=by
   rw [cZ] at bk;omega
  have b1:=oy bk;rw [hy] at b;simp only [] at b;by_cases hc:0<s'\/eZ 45 (S.drop (mkE S (mkE S a+k)))=0
  ·rw [ae hc] at b;cases b;have:=N3 (A:=(mkS (S.drop a),0,0)) (B:=(mkS (S.drop (mkE S a+k)),0,0)) (c _) o o (c _) o o;refine ⟨i,by simp,by simp,⟨this.1,this.2.1,this.2.2,λ_=>by simp [spM],λ_=>by simp [spM]⟩,?_,b1⟩;have:=n (mkE S a+k);omega
  ·rw [ab hc] at b;have t:=sI (λz=>hc (.inr z));have N:=oy t;unfold rd2 at b;by_cases v:twoN (S.drop (mkE S (mkE S (mkE S a+k)+1)))<2
   ·rw [ae v] at b;cases b
   ·rw [ab v] at b;have b2:=Ag v;have E:=oy b2;have f:(List.take 2 (S.drop (mkE S (mkE S (mkE S a+k)+1)))).length=2:=by rw [eT,cZ];omega
    have J:=n (mkE S a+k);have G:=n (mkE S (mkE S a+k)+1);have L:=n (mkE S (mkE S (mkE S a+k)+1)+2);by_cases j:eZ 45 (S.drop (mkE S (mkE S (mkE S (mkE S a+k)+1)+2)))=0
    ·rw [ae j] at b;cases b;have:=N3 (A:=(mkS (S.drop a),mkS (S.drop (mkE S (mkE S a+k)+1)),0)) (B:=(mkS (S.drop (mkE S a+k)),mkS (S.drop (mkE S (mkE S (mkE S a+k)+1)+2)),0)) (c _) (c _) o (c _) (c _) o;refine ⟨i,by omega,by simp,⟨this.1,this.2.1,this.2.2,λz=>?_,λ_=>by simp [spM]⟩,by omega,E⟩;rw [xb (mQ f)] at z;omega
    ·rw [ab j] at b;have r:=sI j;have D:=oy r;unfold rd3 at b;by_cases u:twoN (S.drop (mkE S (mkE S (mkE S (mkE S (mkE S a+k)+1)+2)+1)))<2
     ·rw [ae u] at b;cases b
     ·rw [ab u] at b;have F:=Ag u;have w:=oy F;have q:(List.take 2 (S.drop (mkE S (mkE S (mkE S (mkE S (mkE S a+k)+1)+2)+1)))).length=2:=by rw [eT,cZ];omega
      cases b;have H:=n (mkE S (mkE S (mkE S (mkE S a+k)+1)+2)+1);have O:=n (mkE S (mkE S (mkE S (mkE S (mkE S a+k)+1)+2)+1)+2);have:=N3 (A:=(mkS (S.drop a),mkS (S.drop (mkE S (mkE S a+k)+1)),mkS (S.drop (mkE S (mkE S (mkE S (mkE S a+k)+1)+2)+1)))) (B:=(mkS (S.drop (mkE S a+k)),mkS (S.drop (mkE S (mkE S (mkE S a+k)+1)+2)),mkS (S.drop (mkE S (mkE S (mkE S (mkE S (mkE S a+k)+1)+2)+1)+2)))) (c _) (c _) (c _) (c _) (c _) (c _);refine ⟨i,by omega,by omega,⟨this.1,this.2.1,this.2.2,λz=>?_,λz=>?_⟩,by omega,w⟩
      ·rw [vu (mQ f) (mQ q)] at z;omega
      ·rw [vu (mQ f) (mQ q)] at z;omega
theorem AP {g l:Bool} {dg:aa} {x q:Int} {m d:aa} {k0 k1 k2:Int} (a:allM k0 k1 k2 (bp m d)=0):chkD g l dg x q m d k0 k1 k2=0\/chkD g l dg x q m d k0 k1 k2=6\/chkD g l dg x q m d k0 k1 k2=7\/chkD g l dg x q m d k0 k1 k2=8:=by
 unfold chkD;rw [a];generalize yrD g l dg x q m=b1;generalize (!(m==[])&&(!(decide (0<sea m))&&!(eI m 12)))=b2;generalize (!(d==[])&&((m==[])||(decide (0<sea m)||!(eI d 31))))=b;cases b1<;>cases b2<;>cases b<;>simp
theorem KA (m:Nat) (S:aa) (n:S.length<100000) (i:S.length<m+300):fH (m+300) S=some (AY S):=by
 have h:=Ih m S 0 (by omega) n i;rw [show ((0:Nat):Int)=0 from rfl] at h;unfold fH dI jO AY;rw [h];cases j:pq S 0 with
 | inl k=>rfl
 | inr r=>
  obtain ⟨g,l,dg,x,s,f,d,M,P,e⟩:=r;have a:=yX (by omega) j;have p:=a.all;simp only [ob,N2,d4,d8,JL,jS];by_cases b:e<S.length
  ·rw [aw b,ae b];rfl
  ·rw [ay b,ab b];simp only [af,show ((0:Int)==0)=true from rfl,aj];have t:=a.m2;have o:=a.dg17;rw [sV (m+300) (by omega) g l dg _ _ f d _ _ _ (by omega) (by omega) (by omega) (by omega) (by omega)];simp only [ob];have c:=AP (g:=g) (l:=l) (dg:=dg) (x:=(x:Int)) (q:=(s:Int)) (m:=f) (d:=d) (k0:=(M.1:Int)) (k1:=(M.2.1:Int)) (k2:=(M.2.2:Int)) (qu p);rcases c with hc | hc | hc | hc<;>rw [hc]<;>rfl
def monT (j:Nat):aa:=if j=0 then [] else if j<=12 then two j else if j<=33 then two (j+8) else ([[48,88],[49,88],[88,50],[88,88],[88,48],[88,57]]:List (aa)).getD (j - 34) []
def Tc (m:aa):Nat:=if m=[48,50] then 28 else if m=[48,52]\/m=[48,54]\/m=[48,57]\/m=[49,49]\/m=[88,57] then 30 else 31
def dayT (j:Nat) (m:aa):aa:=if j=0 then [] else if j<=31 then two (min j (Tc m)) else if m=[48,50]/\j=35 then [50,88] else ([[48,88],[49,88],[50,88],[51,88],[88,48],[88,49],[88,88],[88,56]]:List (aa)).getD (j - 32) []
theorem r40 {p:Nat->Bool} (h:(List.range 40).all p=true) {a:Nat} (b:a<40):p a=true:=(bL.1 h) a (jP.2 b)
noncomputable def NQ (m:Nat) (a0:Int) (a1:Bool) (a2 c e f b a d:Int) (j:Nat):Bool:=eP (m+300) a0 a1 a2 c e (j:Int) f b a d==some (monT j)
theorem IF (m:Nat) (a0:Int) (a1:Bool) (a2 c e f b a d:Int):((List.range 40).all λj=>NQ m a0 a1 a2 c e f b a d j)=true:=by kernel_rfl
theorem OM (a:Nat) (h:a<256):IntKind.wrap .i64 (Int.tmod (a:Int) 40)=((a%40:Nat):Int):=by
 have:Int.tmod (a:Int) 40=((a%40:Nat):Int):=rfl;rw [this,wrap_i64 _ (by omega) (by omega)]
theorem ND (j:Nat) (h:j<40):IntKind.wrap .i64 (Int.tmod (j:Int) 40)=((j:Nat):Int):=by
 rw [OM j (by omega)];have:j%40=j:=by omega
 rw [this]
theorem Gm (m:Nat) (a0:Int) (a1:Bool) (a2 e i:Int) (b:Nat) (f j c g:Int) (h:b<256):eP (m+300) a0 a1 a2 e i (b:Int) f j c g=some (monT (b%40)):=by
 have d:b%40<40:=by omega
 have a:=r40 (IF m a0 a1 a2 e i f j c g) d;unfold NQ at a;have a:=bA.1 a;unfold eP at a ⊢;rw [ND _ d] at a;rw [OM _ h];exact a
theorem O3 {j:Nat} (h:j<40):monT j=[]\/0<sea (monT j)\/(sea (monT j)=0/\eI (monT j) 12=true):=by
 have:((List.range 40).all λj=>decide (monT j=[])||(decide (0<sea (monT j))||(decide (sea (monT j)=0)&&eI (monT j) 12)))=true:=by decide +kernel
 have:=r40 this h;simpa using this
theorem GP {j:Nat} (h:j<40) (hs:sea (monT j)=0) (a:monT j≠[]):monT j∈((List.range 12).map λi=>two (i+1))++[[48,88],[49,88],[88,50],[88,88],[88,48],[88,57]]:=by
 have:((List.range 40).all λj=>!decide (sea (monT j)=0)||(decide (monT j=[])||decide (monT j∈((List.range 12).map λi=>two (i+1))++[[48,88],[49,88],[88,50],[88,88],[88,48],[88,57]])))=true:=by decide +kernel
 have:=r40 this h;rw [aw hs,ay a] at this;simpa using this
noncomputable def Nk (m:Nat) (a0:Int) (a1:Bool) (a2 c e f g b d:Int) (a:aa) (j:Nat):Bool:=gx (m+300) a0 a1 a2 c e f (j:Int) g b d a==some (dayT j a)
theorem Jp (m:Nat) (a0:Int) (a1:Bool) (a2 b e f g a c:Int):((((List.range 12).map λi=>two (i+1))++[[48,88],[49,88],[88,50],[88,88],[88,48],[88,57]]).all λd=>(List.range 40).all λj=>Nk m a0 a1 a2 b e f g a c d j)=true:=by kernel_rfl
theorem Kq (m:Nat) (a0:Int) (a1:Bool) (a2 g k l:Int) (c:Nat) (f d j:Int) (b:aa) (n:b∈((List.range 12).map λi=>two (i+1))++[[48,88],[49,88],[88,50],[88,88],[88,48],[88,57]]) (h:c<256):gx (m+300) a0 a1 a2 g k l (c:Int) f d j b=some (dayT (c%40) b):=by
 have e:c%40<40:=by omega
 have a:=r40 ((bL.1 (Jp m a0 a1 a2 g k l f d j)) b n) e;unfold Nk at a;have a:=bA.1 a;unfold gx at a ⊢;rw [ND _ e] at a;rw [OM _ h];exact a
theorem P3 {j:Nat} (h:j<40) {a:aa} (b:a∈((List.range 12).map λi=>two (i+1))++[[48,88],[49,88],[88,50],[88,88],[88,48],[88,57]]):dayT j a=[]\/eI (dayT j a) 31=true:=by
 have:((((List.range 12).map λi=>two (i+1))++[[48,88],[49,88],[88,50],[88,88],[88,48],[88,57]]).all λa=>(List.range 40).all λj=>decide (dayT j a=[])||eI (dayT j a) 31)=true:=by decide +kernel
 have:=r40 ((bL.1 this) a b) h;simpa using this
def mksT (k a b c:Nat):Nat×Nat×Nat:=(a%4,if 1<k then b%4 else 0,if 2<k then c%4 else 0)
theorem xu (k a b c:Nat):allM ((mksT k a b c).1:Int) ((mksT k a b c).2.1:Int) ((mksT k a b c).2.2:Int) k=0:=by
 apply qu;refine ⟨by simp only [mksT];omega,?_,?_,?_,?_⟩
 ·simp only [mksT];split<;>omega
 ·simp only [mksT];split<;>omega
 ·intro h;simp only [mksT];rw [ab (by omega)]
 ·intro h;simp only [mksT];rw [ab (by omega)]
theorem Ll {g l:Bool} {d:aa} {x s:Int} (h:okY g l d x s) (b:d.length<=5) (i:x<=11):vT g d x=false:=by
 unfold vT;cases j:hasX d with
 | true=>rfl
 | false=>
  obtain ⟨k,q,rfl,rfl,c⟩:=wA h j;have a:=sa d 0 0 c.dig (by decide);rw [cP] at a;have m:dval 0 d<10 ^ 5:=mi a (kI (by omega) b);have f:10 ^ k<=10 ^ 11:=kI (by omega) (by omega);have e:val d k≠E16:=by
   unfold val E16;have:dval 0 d*10 ^ k<=99999*10 ^ 11:=vj (by omega) f;omega
  rw [bW,ay e];simp
theorem CV {g l:Bool} {dg:aa} {x q:Int} {m d:aa} {k0 k1 k2:Int} (h:okY g l dg x q) (o:vT g dg x=false) (e:0<q->m=[]) (k:m=[]\/0<sea m\/(sea m=0/\eI m 12=true)) (p:d=[]\/(m≠[]/\sea m=0/\eI d 31=true)) (n:allM k0 k1 k2 (bp m d)=0):chkD g l dg x q m d k0 k1 k2=0:=by
 have hy:yrD g l dg x q m=true:=by
  unfold yrD yrB;rw [ae h,o];by_cases a:0<q
  ·rw [e a];simp
  ·simp [a]
 unfold chkD;rw [hy,n];have b:(!(m==[])&&(!(decide (0<sea m))&&!(eI m 12)))=false:=by
  rcases k with h | h | ⟨_,h⟩
  ·rw [h];rfl
  ·rw [aw h];simp
  ·rw [h];simp
 have c:(!(d==[])&&((m==[])||(decide (0<sea m)||!(eI d 31))))=false:=by
  rcases p with h | ⟨f,j,i⟩
  ·rw [h];rfl
  ·rw [br.2 f,j,i];simp
 rw [b,c];rfl
def minL (a:Nat):Nat:=if a=2 then 28 else if a=4\/a=6\/a=9\/a=11 then 30 else 31
def fitD (a d:aa):Bool:=(List.range' 1 12).any λi=>agr a i&&(List.range' 1 (minL i)).any (agr d)
theorem Pv:((((List.range 12).map λi=>two (i+1))++[[48,88],[49,88],[88,50],[88,88],[88,48],[88,57]]).all λa=>(List.range 40).all λj=>(dayT j a==[])||fitD a (dayT j a))=true:=by decide +kernel
theorem Ks {j:Nat} (h:j<40) {a:aa} (b:a∈((List.range 12).map λi=>two (i+1))++[[48,88],[49,88],[88,50],[88,88],[88,48],[88,57]]):dayT j a=[]\/fitD a (dayT j a)=true:=by
 have:=r40 ((bL.1 Pv) a b) h;simp only [gu,bA] at this;exact this
theorem Ru (m a0 a2 I J B w i j n:Nat) (g:Bool) (K:a2<65536) (Y:I<256) (V:J<256) (U:B<256) (Z:w<256) (h7:i<256) (h8:j<256) (h9:n<256):
  ∃k l dg x q f d k0 k1 k2,fK (m+300) (a0:Int) g (a2:Int) (I:Int) (J:Int) (B:Int) (w:Int) (i:Int) (j:Int) (n:Int)=some (k,l,dg,((x:Nat):Int),((q:Nat):Int),f,d,((k0:Nat):Int),((k1:Nat):Int),((k2:Nat):Int))/\chkD k l dg (x:Int) (q:Int) f d (k0:Int) (k1:Int) (k2:Int)=0/\OkD k l dg x q f d k0 k1 k2/\(d=[]\/fitD f d=true):=by
 obtain ⟨k,l,dg,x,q,e,A,M,F⟩:=Sv m a0 a2 I J g K Y V;have G:=Ll A M F;obtain ⟨s1,s2,s3,s4,s5,s6⟩:=je A
 suffices H:∃f d,fK (m+300) (a0:Int) g (a2:Int) (I:Int) (J:Int) (B:Int) (w:Int) (i:Int) (j:Int) (n:Int)=some (k,l,dg,x,q,f,d,((mksT (bp f d) i j n).1:Int),((mksT (bp f d) i j n).2.1:Int),((mksT (bp f d) i j n).2.2:Int))/\chkD k l dg x q f d ((mksT (bp f d) i j n).1:Int) ((mksT (bp f d) i j n).2.1:Int) ((mksT (bp f d) i j n).2.2:Int)=0/\(d=[]\/fitD f d=true) by
  obtain ⟨f,d,R,K,hf⟩:=H;obtain ⟨T,W,a,b,c,X,S,Q,N,O,L⟩:=E5 (by omega) (by omega) (by omega) K;subst X S;refine ⟨k,l,dg,T,W,f,d,a,b,c,?_,?_,L,hf⟩
  ·rw [R,Q,N,O]
  ·rw [<-Q,<-N,<-O];exact K
 have t7:Int.tmod (i:Int) 4=((i%4:Nat):Int):=rfl;have t8:Int.tmod (j:Int) 4=((j%4:Nat):Int):=rfl;have t9:Int.tmod (n:Int) 4=((n%4:Nat):Int):=rfl;have p:∀(f d:aa) (o:Option (Bool×Bool×aa×Int×Int×aa×aa×Int×Int×Int)),
   (ob (ar (m+300) k l dg x q f d 0 0 0) λr=>(cond (decide ((0:Int)<r)) (ob (ar (m+300) k l dg x q f d (Int.tmod (i:Int) 4) 0 0) λr=>(cond (decide ((1:Int)<r)) (ob (ar (m+300) k l dg x q f d (Int.tmod (i:Int) 4) (Int.tmod (j:Int) 4) 0) λr=>(cond (decide ((2:Int)<r)) (ob (ar (m+300) k l dg x q f d (Int.tmod (i:Int) 4) (Int.tmod (j:Int) 4) (Int.tmod (n:Int) 4)) λr=>(cond (decide ((3:Int)<r)) none (some (k,l,dg,x,q,f,d,(Int.tmod (i:Int) 4),(Int.tmod (j:Int) 4),(Int.tmod (n:Int) 4))))) (some (k,l,dg,x,q,f,d,(Int.tmod (i:Int) 4),(Int.tmod (j:Int) 4),0)))) (some (k,l,dg,x,q,f,d,(Int.tmod (i:Int) 4),0,0)))) (some (k,l,dg,x,q,f,d,0,0,0))))=some (k,l,dg,x,q,f,d,((mksT (bp f d) i j n).1:Int),((mksT (bp f d) i j n).2.1:Int),((mksT (bp f d) i j n).2.2:Int)):=by
  intro f d _;have hc:=mP f d;have:bp f d=1\/bp f d=2\/bp f d=3:=by omega
  rw [jZ,jZ,jZ,jZ];rcases this with h | h | h<;>rw [h]<;>rfl
 unfold fK;rw [e];simp only [ob,d4];rw [ig];by_cases P:q=0
 ·rw [ae P];rw [Gm m _ _ _ _ _ B _ _ _ _ U];have E:B%40<40:=by omega
  have v:=O3 E;have D:=GP E;generalize monT (B%40)=f at v D ⊢;show ∃u d,cond (!(f==[])) _ _=_/\_;by_cases s:f=[]
  ·subst s;refine ⟨[],[],p [] [] none,?_,.inl rfl⟩;exact CV A G (λ_=>rfl) (.inl rfl) (.inl rfl) (xu _ _ _ _)
  ·rw [br.2 s];show ∃u d,ob (fL (m+300) k l dg x q f [] 0 0 0) _=_/\_;rw [Gs (m+300) (by omega)];show ∃u d,cond (sea f==0) _ _=_/\_;rw [ig];by_cases hs:sea f=0
   ·rw [ae hs];have y:=D hs s;rw [Kq m _ _ _ _ _ _ w _ _ _ f y Z];have C:=P3 (show w%40<40 by omega) y;have t:=Ks (show w%40<40 by omega) y;generalize dayT (w%40) f=d at C t ⊢;refine ⟨f,d,p f d none,?_,t⟩;refine CV A G (λz=>by omega) v ?_ (xu _ _ _ _);rcases C with C | C
    ·exact .inl C
    ·exact .inr ⟨s,hs,C⟩
   ·rw [ab hs];refine ⟨f,[],p f [] none,?_,.inl rfl⟩;exact CV A G (λz=>by omega) v (.inl rfl) (xu _ _ _ _)
 ·rw [ab P];refine ⟨[],[],p [] [] none,?_,.inl rfl⟩;exact CV A G (λ_=>rfl) (.inl rfl) (.inl rfl) (xu _ _ _ _)
theorem H4 (n:Nat) (g l:Bool) (dg:aa) (x q:Int) (m d:aa) (k0 k1 k2:Int) (a:m.length<=18):aR n g l dg x q m d k0 k1 k2=some (if d=[] then (if 0<sea m then 0 else if m=[] then 1 else 2) else 3):=by
 unfold aR;rw [n9 n g l dg x q m d k0 k1 k2 a];by_cases b:d=[]
 ·rw [ae b,b];show cond (decide (0<sea m)) _ _=_;rw [bM];by_cases hs:0<sea m
  ·rw [ae hs,ae hs]
  ·rw [ab hs,ab hs];by_cases a:m=[]
   ·rw [ae a,a];rfl
   ·rw [ab a,br.2 a];rfl
 ·rw [ab b,br.2 b];rfl
theorem EE (n:Nat) (g l:Bool) (dg:aa) (x q:Int) (m d:aa) (k0 k1 k2:Int) (i:m.length<=18) (j:dg.length<=100) (e:0<=k0) (f:0<=k1) (h:0<=k2):
  bR (n+300) g l dg x q m d k0 k1 k2=some (if chkD g l dg x q m d k0 k1 k2=0 then (pW g l dg x q m d k0.toNat k1.toNat k2.toNat,0) else ([],chkD g l dg x q m d k0 k1 k2)):=by
 by_cases hc:chkD g l dg x q m d k0 k1 k2=0
 ·obtain ⟨t,r,a,b,c,u,s,k,v,o,p⟩:=E5 e f h hc;subst u s k v o;exact Pj n g l dg t r m d a b c i j
 ·rw [ab hc];unfold bR;rw [sV (n+300) (by omega) g l dg _ _ m d _ _ _ i j e f h];show cond (chkD g l dg x q m d k0 k1 k2 != 0) _ _=_;rw [sJ,ab hc]
theorem C9 (a b:aa):hasX (a++b)=(hasX a||hasX b):=by unfold hasX;rw [si]
theorem AE (n:Nat) (g l:Bool) (dg:aa) (x q:Int) (m d:aa) (k0 k1 k2:Int) (b:m.length<=1000) (a:dg.length<=1000) (h:d.length<=1000):
  ct n g l dg x q m d k0 k1 k2=some (hasX dg||(hasX m||hasX d)):=by
 unfold ct;rw [dE (by omega)];simp only [ob];rw [dE (by simp only [bv];omega)];simp only [ob];rw [A6,C9,C9,Bool.or_assoc]
def Gj (d:aa) (k q:Nat):Nat×Nat:=if 0<q then (val d k / 10 ^ (d.length+k - q)*10 ^ (d.length+k - q),min (val d k / 10 ^ (d.length+k - q)*10 ^ (d.length+k - q)+10 ^ (d.length+k - q) - 1) E16) else (val d k,val d k)
def sgn (g:Bool) (p:Nat×Nat):Int×Int:=if g then (-(p.2:Int),-(p.1:Int)) else ((p.1:Int),(p.2:Int))
def ja (z:UInt8) (d:aa):aa:=d.map λc=>if c=88 then z else c
theorem ra (z:UInt8) (d:aa):(ja z d).length=d.length:=by simp [ja]
theorem vK {z:UInt8} (a:bg z=true) {d:aa} (h:∀c∈d,bg c=true\/c=88):∀c∈ja z d,bg c=true:=by
 intro c hc;obtain ⟨b,e,rfl⟩:=dH.1 hc;by_cases hx:b=88
 ·rw [ae hx];exact a
 ·rw [ab hx];exact (h b e).resolve_right hx
theorem Im {z:UInt8} {d:aa} {i:Nat} {c:UInt8} (h:d[i]?=some c):(ja z d)[i]?=some (if c=88 then z else c):=by
 simp [ja,h]
def qD (d:aa):Nat:=10 ^ (d.reverse.takeWhile (λc=>c != 88)).length
def vS (g:Bool) (d:aa):Nat×Nat:=(if g=true/\dval 0 (ja 48 d)=0 then qD d else dval 0 (ja 48 d),dval 0 (ja 57 d))
theorem Jw {d:aa} (k:d.length=4) (h:∀c∈d,bg c=true\/c=88) (l:dval 0 (ja 48 d)=0):∀c∈d,c=48\/c=88:=by
 match d,k with
 | [a,b,c,e],_=>
  have f:=vK (z:=48) (by decide) h;have j:dval 0 (ja 48 [a,b,c,e])=((((0*10+((if a=88 then (48:UInt8) else a).toNat - 48))*10+((if b=88 then (48:UInt8) else b).toNat - 48))*10+((if c=88 then (48:UInt8) else c).toNat - 48))*10+((if e=88 then (48:UInt8) else e).toNat - 48)):=by
   simp only [ja,fg,List.map_nil,mE,nL,sE]
  rw [j] at l;have key:∀x:UInt8,bg (if x=88 then (48:UInt8) else x)=true->(if x=88 then (48:UInt8) else x).toNat - 48=0->x=48\/x=88:=by
   intro x hx i;by_cases g:x=88
   ·exact .inr g
   ·rw [ab g] at hx i;have:=(dj x).1 hx;exact .inl (gM.1 (by show x.toNat=48;omega))
  simp only [ja,fg,List.map_nil,cq,qs,rX,xm,forall_eq] at f ⊢;exact ⟨key a f.1 (by omega),key b f.2.1 (by omega),key c f.2.2.1 (by omega),key e f.2.2.2 (by omega)⟩
theorem fS9 {d:aa} (u:d.length=4) (h:∀c∈d,c=48\/c=88) (z:hasX d=true) (P:aa->Prop) (n:P [48,48,48,88]) (m:P [48,48,88,48]) (x:P [48,48,88,88]) (w:P [48,88,48,48]) (p:P [48,88,48,88]) (o:P [48,88,88,48]) (y:P [48,88,88,88]) (q:P [88,48,48,48]) (r:P [88,48,48,88]) (s:P [88,48,88,48]) (j:P [88,48,88,88]) (k:P [88,88,48,48]) (g:P [88,88,48,88]) (f:P [88,88,88,48]) (i:P [88,88,88,88]):P d:=by
 match d,u with
 | [a,b,c,e],_=>
  simp only [cq,qs,rX,xm,forall_eq] at h;obtain ⟨l,t,hc,v⟩:=h;rcases l with rfl | rfl<;>rcases t with rfl | rfl<;>rcases hc with rfl | rfl<;>rcases v with rfl | rfl
  ·exact absurd z (by decide)
  ·exact n
  ·exact m
  ·exact x
  ·exact w
  ·exact p
  ·exact o
  ·exact y
  ·exact q
  ·exact r
  ·exact s
  ·exact j
  ·exact k
  ·exact g
  ·exact f
  ·exact i
def nK (g:Bool) (d:aa) (x s:Int):Nat×Nat:=if hasX d then vS g d else Gj d x.toNat s.toNat
theorem PR {d:aa} {k q:Nat} (h:Num d k q):(Gj d k q).1<=val d k/\val d k<=(Gj d k q).2/\(Gj d k q).2<=E16:=by
 have hs:=h.small;have c:dval 0 d*10 ^ k=val d k:=rfl;rw [c] at hs;unfold Gj;split
 ·have a:1<=10 ^ (d.length+k - q):=Nat.one_le_pow _ _ (by decide);generalize 10 ^ (d.length+k - q)=u at a ⊢;generalize val d k=v at hs ⊢;have b:=Nat.div_mul_le_self v u;have e:v<v / u*u+u:=by
   have h:=Nat.div_add_mod v u;have:=pU v a;rw [uA] at h;omega
  refine ⟨b,?_,Nat.min_le_right _ _⟩;rw [Nat.le_min];omega
 ·exact ⟨aM _,aM _,hs⟩
def mtk (d:aa):Nat->Nat->Bool
 | 0,_=>true
 | k+1,w=>(decide (d.getD k 0=88)||decide ((d.getD k 0).toNat=48+w%10))&&mtk d k (w / 10)
theorem Eo (d:aa) (k w:Nat):mtk d (k+1) w=((decide (d.getD k 0=88)||decide ((d.getD k 0).toNat=48+w%10))&&mtk d k (w / 10)):=rfl
theorem EJ {d:aa} {k:Nat} {c:UInt8} (h:d[k]?=some c):d.getD k 0=c:=by
 rw [Dv,h];rfl
def Gx (d:aa) (k q:Nat):Nat:=if 0<q then 10 ^ (d.length+k - q) else 1
def memP (d:aa) (x s:Int) (w:Nat):Prop:=if hasX d=true then mtk d 4 w=true/\w / 10 ^ 4=0 else val d x.toNat / Gx d x.toNat s.toNat=w / Gx d x.toNat s.toNat
instance (d:aa) (x s:Int) (w:Nat):Decidable (memP d x s w):=by unfold memP;infer_instance
def wOf (g:Bool) (v:Int):Int:=if g then -v else v
def inP (g:Bool) (d:aa) (x s v:Int):Prop:=-10000000000000000<=v/\v<=10000000000000000/\0<=wOf g v/\¬(hasX d=true/\g=true/\wOf g v=0)/\memP d x s (wOf g v).toNat
instance (g:Bool) (d:aa) (x s v:Int):Decidable (inP g d x s v):=by unfold inP;infer_instance
theorem Qr {d:aa} {x s:Int} {w:Nat} (a:hasX d=true):memP d x s w↔mtk d 4 w=true/\w / 10 ^ 4=0:=by unfold memP;rw [ae a]
theorem QO {d:aa} {x s:Int} {w:Nat} (a:hasX d=false):memP d x s w↔val d x.toNat / Gx d x.toNat s.toNat=w / Gx d x.toNat s.toNat:=by unfold memP;rw [ab (by rw [a];simp)]
def loK (d:aa) (k:Nat):Nat:=dval 0 ((ja 48 d).take k)
def hiK (d:aa) (k:Nat):Nat:=dval 0 ((ja 57 d).take k)
theorem uU (z:UInt8) {d:aa} {k:Nat} {c:UInt8} (h:d[k]?=some c):dval 0 ((ja z d).take (k+1))=dval 0 ((ja z d).take k)*10+((if c=88 then z else c).toNat - 48):=by
 rw [TA (Im h),DJ]
theorem zr (d:aa) (j:d.length=4) (l:∀c∈d,bg c=true\/c=88):∀(k w:Nat),k<=4->w<10 ^ k->mtk d k w=true->loK d k<=w/\w<=hiK d k
 | 0,w,h,b,a=>by
  simp at b;subst b;simp [loK,hiK,nL]
 | k+1,w,h,b,a=>by
  obtain ⟨c,hc⟩:∃c,d[k]?=some c:=⟨d[k],bG (by omega)⟩;rw [Eo,EJ hc,az,gu,bX,bX] at a;have hp:(10:Nat) ^ (k+1)=10 ^ k*10:=rZ 10 k;have ih:=zr d j l k (w / 10) (by omega) (by omega) a.2;have e:=uU 48 hc;have f:=uU 57 hc;unfold loK hiK at ih ⊢;rw [e,f];by_cases hx:c=88
  ·rw [ae hx,ae hx];have i:(48:UInt8).toNat - 48=0:=rfl;have g:(57:UInt8).toNat - 48=9:=rfl;rw [i,g];omega
  ·rw [ab hx,ab hx];have:=a.1.resolve_left hx;omega
theorem xC (z:UInt8) (g:bg z=true) (d:aa) (m:d.length=4) (h:∀c∈d,bg c=true\/c=88):∀k,k<=4->mtk d k (dval 0 ((ja z d).take k))=true
 | 0,_=>rfl
 | k+1,n=>by
  obtain ⟨c,hc⟩:∃c,d[k]?=some c:=⟨d[k],bG (by omega)⟩;have ih:=xC z g d m h k (by omega);have e:bg (if c=88 then z else c)=true:=by
   by_cases hx:c=88
   ·rw [ae hx];exact g
   ·rw [ab hx];exact (h c (fY hc)).resolve_right hx
  have j:=(dj _).1 e;rw [Eo,EJ hc,uU z hc];generalize f:(if c=88 then z else c)=b at j ⊢;generalize dval 0 ((ja z d).take k)=a at ih ⊢;have l:(a*10+(b.toNat - 48)) / 10=a:=by omega
  have i:(a*10+(b.toNat - 48))%10=b.toNat - 48:=by omega
  rw [l,i,ih,ET];by_cases hx:c=88
  ·rw [aw hx];rfl
  ·rw [ab hx] at f;rw [f,aw (show b.toNat=48+(b.toNat - 48) by omega),Bool.or_true]
def ya:List (aa):=[[48,48,48,88],[48,48,88,48],[48,48,88,88],[48,88,48,48],[48,88,48,88],[48,88,88,48],[48,88,88,88],[88,48,48,48],[88,48,48,88],[88,48,88,48],[88,48,88,88],[88,88,48,48],[88,88,48,88],[88,88,88,48],[88,88,88,88]]
theorem S4:ya.all (λd=>mtk d 4 (qD d)&&decide (1<=qD d)&&decide (qD d<=1000)&&(List.range 1000).all (λw=>decide (w=0)||!mtk d 4 w||decide (qD d<=w)))=true:=by decide +kernel
theorem zI {d:aa} (j:d∈ya):mtk d 4 (qD d)=true/\1<=qD d/\qD d<=1000/\∀w,1<=w->mtk d 4 w=true->qD d<=w:=by
 have h:=bL.1 S4 d j;simp only [az,bX,bL,jP,gu,kN] at h;obtain ⟨⟨⟨e,f⟩,c⟩,b⟩:=h;refine ⟨e,f,c,λw k g=>?_⟩;rcases aE w 1000 with a | i
 ·rcases b w a with (h | h) | h
  ·omega
  ·rw [g] at h;cases h
  ·exact h
 ·omega
theorem Ap {d:aa} (a:d.length=4) (f:∀c∈d,bg c=true\/c=88) (b:hasX d=true) (e:dval 0 (ja 48 d)=0):d∈ya:=
 fS9 a (Jw a f e) b (λd=>d∈ya) (by decide) (by decide) (by decide) (by decide) (by decide) (by decide) (by decide) (by decide) (by decide) (by decide) (by decide) (by decide) (by decide) (by decide) (by decide)
theorem OO {d:aa} (a:d.length=4):loK d 4=dval 0 (ja 48 d):=by
 unfold loK;rw [iP (by rw [ra];omega)]
theorem PY {d:aa} (a:d.length=4):hiK d 4=dval 0 (ja 57 d):=by
 unfold hiK;rw [iP (by rw [ra];omega)]
theorem LY {g:Bool} {d:aa} (b:d.length=4) (e:∀c∈d,bg c=true\/c=88) (q:hasX d=true):
  (vS g d).1<10000/\(vS g d).2<10000/\mtk d 4 (vS g d).1=true/\mtk d 4 (vS g d).2=true/\1<=(vS g d).2/\(g=true->1<=(vS g d).1)/\∀w,w<10000->mtk d 4 w=true->(g=true->1<=w)->(vS g d).1<=w/\w<=(vS g d).2:=by
 have r:(10:Nat) ^ 4=10000:=by decide
 have p:=vK (z:=48) (by decide) e;have o:=vK (z:=57) (by decide) e;have b1:=sa (ja 48 d) 0 0 p (by simp);have b2:=sa (ja 57 d) 0 0 o (by simp);rw [ra,b,cP,r] at b1 b2;have m1:=xC 48 (by decide) d b e 4 (by omega);have m2:=xC 57 (by decide) d b e 4 (by omega);rw [iP (by rw [ra];omega)] at m1 m2;have k:∀w,w<10000->mtk d 4 w=true->dval 0 (ja 48 d)<=w/\w<=dval 0 (ja 57 d):=λw l i=>by
  have:=zr d b e 4 w (by omega) (by omega) i;rw [OO b,PY b] at this;exact this
 have j:1<=dval 0 (ja 57 d):=by
  rcases xA (dval 0 (ja 57 d)) with h | h
  ·exfalso;have f:dval 0 (ja 48 d)=0:=by
    have:=(k _ b1 m1).2;omega
   have n:=Ap b e q f;have a:=zI n;have:=(k _ (by omega) a.1).2;omega
  ·exact h
 unfold vS;by_cases f:g=true/\dval 0 (ja 48 d)=0
 ·rw [ae f];have a:=zI (Ap b e q f.2);refine ⟨by simp only;omega,b2,a.1,m2,j,λ_=>a.2.1,λw l i m=>⟨a.2.2.2 w (m f.1) i,(k w l i).2⟩⟩
 ·rw [ab f];refine ⟨b1,b2,m1,m2,j,λm=>?_,λw l i m=>k w l i⟩;simp only;rcases xA (dval 0 (ja 48 d)) with h | h
  ·exact absurd ⟨m,h⟩ f
  ·exact h
theorem KE {g l:Bool} {d:aa} {x s:Int} (i:okY g l d x s):(nK g d x s).1<=10000000000000000/\(nK g d x s).2<=10000000000000000/\memP d x s (nK g d x s).1/\memP d x s (nK g d x s).2/\(hasX d=true->1<=(nK g d x s).2/\(g=true->1<=(nK g d x s).1))/\
  ∀w,w<=10000000000000000->memP d x s w->(hasX d=true->g=true->1<=w)->(nK g d x s).1<=w/\w<=(nK g d x s).2:=by
 unfold nK memP;cases r:hasX d with
 | true=>
  obtain ⟨rfl,rfl,rfl,M,O⟩:=vA i r;obtain ⟨E,N,J,F,L,I,C⟩:=LY (g:=g) M O r;have G:(10:Nat) ^ 4=10000:=by decide
  simp only [aI,G];refine ⟨by omega,by omega,⟨J,Nat.div_eq_of_lt E⟩,⟨F,Nat.div_eq_of_lt N⟩,λ_=>⟨L,I⟩,λw z m D=>C w (by omega) m.1 (D trivial)⟩
 | false=>
  obtain ⟨k,q,rfl,rfl,A⟩:=wA i r;have hs:=A.small;have H:dval 0 d*10 ^ k=val d k:=rfl;rw [H] at hs;obtain ⟨f,e,b⟩:=PR A;unfold E16 at b;simp only [bE,aC,bW];unfold Gx;unfold Gj at f e b ⊢;by_cases j:0<q
  ·rw [ae j] at f e b ⊢;rw [ae j];have y:1<=10 ^ (d.length+k - q):=Nat.one_le_pow _ _ (by decide);generalize 10 ^ (d.length+k - q)=u at *;generalize val d k=v at *;simp only at f e b ⊢;have c:v / u*u / u=v / u:=Nat.mul_div_cancel _ y;have o:∀w,v / u*u<=w->w<v / u*u+u->w / u=v / u:=by
    intro w t p;apply Nat.div_eq_of_lt_le
    ·exact t
    ·rw [Nat.succ_mul];exact p
   have a:∀w,v / u=w / u->v / u*u<=w/\w<v / u*u+u:=by
    intro w h;rw [h];have t:=Nat.div_mul_le_self w u;have p:=Nat.div_add_mod w u;have Q:=pU w y;rw [uA] at p;omega
   have B:min (v / u*u+u - 1) E16<=v / u*u+u - 1:=Nat.min_le_left _ _;have n:=a v rfl;refine ⟨by omega,b,c.symm,(o _ (by omega) (by omega)).symm,λq=>(by cases q),λw z m _=>?_⟩;obtain ⟨K,P⟩:=a w m;refine ⟨K,?_⟩;rw [Nat.le_min];unfold E16;omega
  ·rw [ab j] at f e b ⊢;rw [ab j];simp only [y6] at f e b ⊢;refine ⟨b,b,trivial,trivial,λq=>(by cases q),λw z m _=>by omega⟩
theorem HZ {g l:Bool} {d:aa} {x s:Int} (j:okY g l d x s):inP g d x s (sgn g (nK g d x s)).1/\inP g d x s (sgn g (nK g d x s)).2/\∀v,inP g d x s v->(sgn g (nK g d x s)).1<=v/\v<=(sgn g (nK g d x s)).2:=by
 obtain ⟨i,t,o,k,r,n⟩:=KE j;generalize nK g d x s=C at *;obtain ⟨lo,hi⟩:=C;simp only at i t o k r n;cases g with
 | true=>
  have b:∀a:Nat,wOf true (-(a:Int))=(a:Int):=λa=>by unfold wOf;simp
  have mk:∀a:Nat,a<=10000000000000000->memP d x s a->(hasX d=true->1<=a)->inP true d x s (-(a:Int)):=by
   intro a z u D;refine ⟨by omega,by omega,by rw [b];omega,λq=>?_,by rw [b,bW];exact u⟩;have:=D q.1;have B:=q.2.2;rw [b] at B;omega
  simp only [sgn,aI];refine ⟨mk hi t k (λh=>(r h).1),mk lo i o (λh=>(r h).2 rfl),λv m=>?_⟩;obtain ⟨y,A,p,w,c⟩:=m;have f:wOf true v=-v:=rfl;rw [f] at p w c
  have:=n (-v).toNat (by omega) c (λhx _=>by
   have:¬-v=0:=λe=>w ⟨hx,rfl,e⟩;omega)
  omega
 | false=>
  have b:∀a:Int,wOf false a=a:=λa=>rfl;have mk:∀a:Nat,a<=10000000000000000->memP d x s a->inP false d x s (a:Int):=by
   intro a z u;exact ⟨by omega,by omega,by rw [b];omega,λq=>(by cases q.2.1),by rw [b,bW];exact u⟩
  simp only [sgn,bE,aC];refine ⟨mk lo i o,mk hi t k,λv m=>?_⟩;obtain ⟨y,A,p,w,c⟩:=m;rw [b] at p c;have:=n v.toNat (by omega) c (λ_ q=>by cases q);omega
end Go.Sh
