
/- Plain proofs, kept as far as they are needed here (printed by prune.py).
   Conditions: none. -/
import Derived.Laws.RangeString
import Derived.Laws.RangeAny
import Derived.Test.YthemneooekobkaaGreatDoorShP
import Derived.Lib.IndexLaws
import Derived.Test.YthemneooekobkaaGreatDoorAbsZ
set_option linter.unusedVariables false
set_option linter.unusedSimpArgs false
set_option maxRecDepth 100000
namespace Go.Sh
open Go.Abs
theorem gv {X Y:Type} {step:X->Option (X⊕Y)} (I:X->Prop) (b:X->Nat) (G:X->Y)
  (h:∀x,I x->(∃a,step x=some (.inl a)/\I a/\b a<b x/\G a=G x)\/step x=some (.inr (G x))):
  ∀(n:Nat) (x:X),I x->b x<n->aw step n x=some (G x)
 | 0,x,_,e=>by omega
 | n+1,x,hx,e=>by
  rcases h x hx with ⟨a,c,d,g,f⟩ | c
  ·simp only [aw,c];rw [gv I b G h n a d (by omega),f]
  ·simp only [aw,c]
theorem nj {X Y:Type} {step:X->Option (X⊕Y)} (I:X->Prop) (b:X->Nat) (Q:Y->Prop)
  (h:∀x,I x->(∃a,step x=some (.inl a)/\I a/\b a<b x)\/∃y,step x=some (.inr y)/\Q y):
  ∀(n:Nat) (x:X),I x->b x<n->∃y,aw step n x=some y/\Q y
 | 0,x,_,e=>by omega
 | n+1,x,hx,e=>by
  rcases h x hx with ⟨a,d,c,f⟩ | ⟨y,d,c⟩
  ·simp only [aw,d];exact nj I b Q h n a c (by omega)
  ·exact ⟨y,by simp only [aw,d],c⟩
theorem yZ (x:Int):0<=IntKind.wrap .u8 x/\IntKind.wrap .u8 x<256:=by
 show 0<=x%256/\x%256<256;omega
theorem eY (x:Int) (b:0<=x) (a:x<256):IntKind.wrap .u8 x=x:=by
 show x%256=x;omega
theorem F3 (x:Int):IntKind.wrap .u8 x=x%256:=rfl
theorem wrap_i64 (x:Int) (b:-9223372036854775808<=x) (a:x<9223372036854775808):IntKind.wrap .i64 x=x:=by
 simp only [IntKind.wrap,IntKind.signed,IntKind.bits];simp;omega
theorem lr {l:aa} {i:Nat} {c:UInt8} (h:l[i]?=some c):sx l (i:Int)=some c:=by
 simp [sx,h]
theorem di {n i:Nat} (h:i<n):ix n (i:Int)=some i:=by
 simp [ix];omega
theorem eM {n i:Nat} (h:i<=n):bx n (i:Int)=some i:=by
 simp [bx];omega
theorem Cb {l:aa} {i:Nat} {c:UInt8} (h:l[i]?=some c) (hc:c.toNat<128):dec l i=(c.toNat,1):=by
 have a:i<l.length:=by
  rcases aH i l.length with b | b
  ·exact b
  ·rw [eF b] at h;cases h
 have hs:i<(ByteArray.mk l.toArray).size:=a;have d:(ByteArray.mk l.toArray)[i]'hs=c:=by
  rw [bH a] at h;simp only [am] at h;exact h
 unfold dec;rw [decode_ascii _ i hs (by rw [d];exact hc),d]
theorem Eu {l:aa} {i:Nat} {c:UInt8} (h:l[i]?=some c) (hc:128<=c.toNat):128<=(dec l i).1/\1<=(dec l i).2:=by
 have a:i<l.length:=by
  rcases aH i l.length with b | b
  ·exact b
  ·rw [eF b] at h;cases h
 have hs:i<(ByteArray.mk l.toArray).size:=a;have d:(ByteArray.mk l.toArray)[i]'hs=c:=by
  rw [bH a] at h;simp only [am] at h;exact h
 unfold dec;exact decode_high _ i hs (by rw [d];exact hc)
theorem wg {α:Type} {l:List α} {i:Nat} {c:α} (h:l[i]?=some c):i<l.length:=by
 rcases aH i l.length with a | a
 ·exact a
 ·rw [eF a] at h;cases h
theorem kM {α:Type} {l:List α} {i:Nat} {c:α} (h:l[i]?=some c):l.drop i=c::l.drop (i+1):=by
 have a:=wg h;rw [bH a] at h;simp only [am] at h;rw [<-h,wK a]
theorem iH {α β:Type} [BEq α] [LawfulBEq α] [DecidableEq α] (a b:α) (x y:β):(cond (a==b) x y)=if a=b then x else y:=by
 by_cases h:a=b
 ·subst h;simp
 ·rw [aL.2 h];simp [h]
theorem tJ {α β:Type} [BEq α] [LawfulBEq α] [DecidableEq α] (a b:α) (x y:β):(cond (a != b) x y)=if a=b then y else x:=by
 by_cases h:a=b
 ·subst h;simp
 ·rw [bne,aL.2 h];simp [h]
theorem bM {β:Type} (p:Prop) [Decidable p] (x y:β):(cond (decide p) x y)=if p then x else y:=by
 by_cases h:p<;>simp [h]
theorem L6 {β:Type} (b:Bool) (x y:β):(cond (!b) x y)=cond b y x:=by cases b<;>rfl
theorem lT (a b:Nat):(decide (((a:Nat):Int)<((b:Nat):Int)))=decide (a<b):=by
 by_cases h:a<b<;>simp [h]
theorem DD (c d:UInt8):((((c.toNat:Nat):Int))==((d.toNat:Nat):Int))=(c==d):=by
 by_cases h:c=d
 ·subst h;simp
 ·have b:c.toNat≠d.toNat:=λe=>h (jf.1 e);have a:((c.toNat:Nat):Int)≠((d.toNat:Nat):Int):=by omega
  rw [aL.2 a,aL.2 h]
theorem Tv (c:UInt8):UInt8.ofNat (Int.toNat ((c.toNat:Nat):Int))=c:=by simp
def two (c:Nat):aa:=[UInt8.ofNat (48+c / 10),UInt8.ofNat (48+c%10)]
def sea (m:aa):Int:=match (List.range 21).find? (λj=>m==two (21+j)) with | some j=>((21+j:Nat):Int) | none=>0
theorem jB {j:Nat} (a:j<21):sea (two (21+j))=((21+j:Nat):Int):=by
 have:((List.range 21).all λj=>sea (two (21+j))==((21+j:Nat):Int))=true:=by decide +kernel
 simpa using (List.all_eq_true.1 this) j (by simpa using a)
theorem mM (m:aa):sea m=0\/∃j,j<21/\m=two (21+j):=by
 unfold sea;split
 ·rename_i j h;have b:=List.find?_some h;have a:=List.mem_of_find?_eq_some h;exact .inr ⟨j,by simpa using a,by simpa using b⟩
 ·exact .inl rfl
theorem n9 {b:UInt8} {d:Nat} (h:Lib.digitVal b=some d):d<10/\b.toNat=48+d:=by
 unfold Lib.digitVal at h;split at h
 ·cases h;omega
 ·cases h
theorem Lm {a b:UInt8} {v:Int} (h:Lib.atoi [a,b]=some v) (s:21<=v) (p:v<42):∃j,j<21/\[a,b]=two (21+j)/\v=((21+j:Nat):Int):=by
 obtain ⟨q,r,e,k⟩:=Lib.atoi_cases h;cases e;rcases k with ⟨_,m,_,_,i⟩ | ⟨_,m,_,c,i⟩ | ⟨_,_,m,c,i⟩
 ·omega
 ·simp only [Lib.decFrom] at c;split at c
  ·rename_i d f;have:=(n9 f).1;simp only [am] at c;omega
  ·cases c
 ·simp only [Lib.decFrom] at c;split at c
  ·rename_i d f;split at c
   ·rename_i d' g;obtain ⟨k1,k2⟩:=n9 f;obtain ⟨k3,l⟩:=n9 g;simp only [am] at c;refine ⟨m - 21,by omega,?_,by omega⟩;have n:(21+(m - 21)) / 10=d:=by omega
    have o:(21+(m - 21))%10=d':=by omega
    unfold two;rw [n,o,<-k2,<-l];simp
   ·cases c
  ·cases c
theorem vb {j:Nat} (a:j<21):Lib.atoi (two (21+j))=some ((21+j:Nat):Int):=by
 have:((List.range 21).all λj=>Lib.atoi (two (21+j))==some ((21+j:Nat):Int))=true:=by decide +kernel
 simpa using (List.all_eq_true.1 this) j (by simpa using a)
theorem rh (n:Nat) (g l:Bool) (dg:aa) (x q:Int) (m d:aa) (k0 k1 k2:Int) (k:m.length<=18):bR n g l dg x q m d k0 k1 k2=some (sea m,decide (0<sea m)):=by
 have i:Nat.ble m.length 18=true:=cU k;rcases mM m with h | ⟨j,c,rfl⟩
 ·unfold bR;rw [i,h];show opt (Lib.atoi m) _ _=_;cases o:Lib.atoi m with
  | none=>rfl
  | some v=>
   show cond _ _ _=_;by_cases f:m.length=2
   ·rw [f];obtain ⟨a,b,rfl⟩:∃a b,m=[a,b]:=by
     match m,f with
     | [a,b],_=>exact ⟨a,b,rfl⟩
    show ob (da n v) _=_;unfold da;rw [bM,bM];split
    ·rfl
    ·split
     ·rfl
     ·exfalso;obtain ⟨j,c,e,_⟩:=Lm o (by omega) (by omega);rw [e,jB c] at h;omega
   ·rw [show (((m.length:Nat):Int) != 2)=true by simp;omega];rfl
 ·rw [jB c];have e:bR n g l dg x q (two (21+j)) d k0 k1 k2=some (((21+j:Nat):Int),true):=by
   unfold bR;rw [i,vb c];show ob (da n ((21+j:Nat):Int)) _=_;unfold da;rw [bM,bM,ab (by omega),ab (by omega)];rfl
  rw [e];have:decide (0<((21+j:Nat):Int))=true:=by simp;omega
  rw [this]
theorem JA (n:Nat) {c:Nat} (hc:c<100):aQ n (c:Int)=some (two c):=by
 have j:Int.tdiv (c:Int) 10=((c / 10:Nat):Int):=by
  rw [show (10:Int)=((10:Nat):Int) from rfl,<-Int.ofNat_tdiv]
 have d:Int.tmod (c:Int) 10=((c%10:Nat):Int):=by
  rw [show (10:Int)=((10:Nat):Int) from rfl,<-Int.ofNat_tmod]
 have k:c / 10<10:=by omega
 have e:c%10<10:=by omega
 unfold aQ;rw [j,d];have g:IntKind.wrap .i64 ((c / 10:Nat):Int)=((c / 10:Nat):Int):=wrap_i64 _ (by omega) (by omega);have i:IntKind.wrap .i64 (((c / 10:Nat):Int)+1)=((c / 10+1:Nat):Int):=by rw [wrap_i64 _ (by omega) (by omega)];omega
 have h:IntKind.wrap .i64 (((c%10:Nat):Int)+1)=((c%10+1:Nat):Int):=by rw [wrap_i64 _ (by omega) (by omega)];omega
 rw [g,i,h,eM (by omega),eM (by omega)];show ob (bx (c / 10+1) ((c / 10:Nat):Int)) _=_;rw [eM (by omega)];show ob (bx (c%10+1) ((c%10:Nat):Int)) _=_;rw [eM (by omega)];unfold two;generalize c / 10=a at *;generalize c%10=b at *;have:((List.range 10).all λa=>(List.range 10).all λb=>ob (cat (List.drop a (List.take (a+1) ([48,49,50,51,52,53,54,55,56,57]:aa))) (List.drop b (List.take (b+1) ([48,49,50,51,52,53,54,55,56,57]:aa)))) (λs=>some s)==some [UInt8.ofNat (48+a),UInt8.ofNat (48+b)])=true:=by decide +kernel
 have f:=(cr.1 ((cr.1 this) a (by simpa using k))) b (by simpa using e);simpa using f
theorem KL {m:aa} (h:∀j,j<21->m≠two (21+j)):sea m=0:=by
 rcases mM m with b | ⟨j,a,e⟩
 ·exact b
 ·exact absurd e (h j a)
theorem vD (n:Nat) (g l:Bool) (dg:aa) (x q:Int) (m d:aa) (k0 k1 k2:Int):∀(r j:Nat),j+r=21->(∀i,i<j->m≠two (21+i))->∀N,r<N->
  aw (bz n) N (((21+j:Nat):Int),g,l,dg,x,q,m,d,k0,k1,k2)=some (if sea m=0 then .inr () else .inl (sea m)):=by
 intro r
 induction r with
 | zero=>
  intro j c a N e;obtain ⟨N,rfl⟩:∃k,N=k+1:=⟨N - 1,by omega⟩;have hs:sea m=0:=KL (λi hi=>a i (by omega));rw [aw];have:bz n (((21+j:Nat):Int),g,l,dg,x,q,m,d,k0,k1,k2)=some (.inr (.inr ())):=by
   unfold bz;rw [bM,ab (by show ¬(((21+j:Nat):Int)<=41);omega)]
  rw [this,ad hs]
 | succ r ih=>
  intro j c a N e;obtain ⟨N,rfl⟩:∃k,N=k+1:=⟨N - 1,by omega⟩;rw [aw];by_cases b:m=two (21+j)
  ·have hs:sea m=((21+j:Nat):Int):=by rw [b];exact jB (by omega)
   have:bz n (((21+j:Nat):Int),g,l,dg,x,q,m,d,k0,k1,k2)=some (.inr (.inl ((21+j:Nat):Int))):=by
    unfold bz;rw [bM,ad (by show ((21+j:Nat):Int)<=41;omega)];show ob (aQ n ((21+j:Nat):Int)) _=_;rw [JA n (by omega)];show cond (m==two (21+j)) _ _=_;rw [iH,ad b]
   rw [this,hs,ab (by omega)]
  ·have:bz n (((21+j:Nat):Int),g,l,dg,x,q,m,d,k0,k1,k2)=some (.inl (((21+(j+1):Nat):Int),g,l,dg,x,q,m,d,k0,k1,k2)):=by
    unfold bz;rw [bM,ad (by show ((21+j:Nat):Int)<=41;omega)];show ob (aQ n ((21+j:Nat):Int)) _=_;rw [JA n (by omega)];show cond (m==two (21+j)) _ _=_;rw [iH,ab b];have:IntKind.wrap .i64 (((21+j:Nat):Int)+1)=((21+(j+1):Nat):Int):=by rw [wrap_i64 _ (by omega) (by omega)];omega
    show some (Sum.inl (IntKind.wrap .i64 (((21+j:Nat):Int)+1),_))=_;rw [this]
   rw [this]
   exact ih (j+1) (by omega) (λi hi=>by
    rcases aH i j with h | h
    ·exact a i h
    ·have:i=j:=by omega
     rw [this];exact b) N (by omega)
theorem kF (n:Nat) (a:100<n) (g l:Bool) (dg:aa) (x q:Int) (m d:aa) (k0 k1 k2:Int):aJ n g l dg x q m d k0 k1 k2=some (sea m):=by
 unfold aJ;have:=vD n g l dg x q m d k0 k1 k2 21 0 rfl (λi hi=>absurd hi (by omega)) n (by omega);rw [show ((21+0:Nat):Int)=21 from rfl] at this;rw [this];by_cases h:sea m=0
 ·rw [ad h,h];rfl
 ·rw [ab h];rfl
def agr (s:aa) (k:Nat):Bool:=match s with
 | [a,b]=>(a==88||a==UInt8.ofNat (48+k / 10))&&(b==88||b==UInt8.ofNat (48+k%10))
 | _=>false
def dG (s:aa) (g:Nat):Bool:=(List.range g).any λi=>agr s (i+1)
theorem C5 {X Y:Type} {step:X->Option (X⊕Y)} {f:Nat->X} {p:Nat->Bool} {g:Nat} {yes no:Y} (h:∀k,1<=k->k<=g->step (f k)=some (if p k then .inr yes else .inl (f (k+1)))) (d:step (f (g+1))=some (.inr no)) {N:Nat} (b:g<N):
  aw step N (f 1)=some (if (List.range g).any (λi=>p (i+1)) then yes else no):=by
 have c:∀(r j:Nat),j+r=g->(∀i,i<j->p (i+1)=false)->∀N,r<N->aw step N (f (j+1))=some (if (List.range g).any (λi=>p (i+1)) then yes else no):=by
  intro r
  induction r with
  | zero=>
   intro j e a N b;obtain ⟨N,rfl⟩:∃k,N=k+1:=⟨N - 1,by omega⟩;have:(List.range g).any (λi=>p (i+1))=false:=by
    rw [qY];intro i hi;rw [a i (by have:=jk.1 hi;omega)];simp
   rw [aw,show j+1=g+1 by omega,d,this];rfl
  | succ r ih=>
   intro j e a N b;obtain ⟨N,rfl⟩:∃k,N=k+1:=⟨N - 1,by omega⟩;rw [aw,h (j+1) (by omega) (by omega)];cases hp:p (j+1) with
   | true=>
    have:(List.range g).any (λi=>p (i+1))=true:=qe.2 ⟨j,jk.2 (by omega),hp⟩;rw [this];rfl
   | false=>
    exact ih (j+1) (by omega) (λi hi=>by
     rcases aH i j with h | h
     ·exact a i h
     ·have:i=j:=by omega
      rw [this];exact hp) N (by omega)
 exact c g 0 (by omega) (λi hi=>absurd hi (by omega)) N b
theorem tg {a:UInt8} {k:Nat} (b:k<256):((((a.toNat:Nat):Int))==((k:Nat):Int))=(a==UInt8.ofNat k):=by
 have h:(UInt8.ofNat k).toNat=k:=by simp;omega
 rw [<-DD,h]
theorem LJ (n:Nat) (a b:UInt8) {g k:Nat} (s:1<=k) (q:k<=g) (r:g<=31):
  cL n ([a,b],(g:Int),(k:Int))=some (if agr [a,b] k then .inr (.inl true) else .inl ([a,b],(g:Int),((k+1:Nat):Int))):=by
 have p:Int.tdiv (k:Int) 10=((k / 10:Nat):Int):=by
  rw [show (10:Int)=((10:Nat):Int) from rfl,<-Int.ofNat_tdiv]
 have d:Int.tmod (k:Int) 10=((k%10:Nat):Int):=by
  rw [show (10:Int)=((10:Nat):Int) from rfl,<-Int.ofNat_tmod]
 have o:IntKind.wrap .u8 (48+IntKind.wrap .u8 (IntKind.wrap .i64 (Int.tdiv (k:Int) 10)))=((48+k / 10:Nat):Int):=by
  rw [p,wrap_i64 _ (by omega) (by omega),eY ((k / 10:Nat):Int) (by omega) (by omega),eY _ (by omega) (by omega)];omega
 have l:IntKind.wrap .u8 (48+IntKind.wrap .u8 (Int.tmod (k:Int) 10))=((48+k%10:Nat):Int):=by
  rw [d,eY ((k%10:Nat):Int) (by omega) (by omega),eY _ (by omega) (by omega)];omega
 have f:IntKind.wrap .i64 ((k:Int)+1)=((k+1:Nat):Int):=by rw [wrap_i64 _ (by omega) (by omega)];omega
 have c:(88:Int)=((88:Nat):Int):=rfl;have s0:sx [a,b] 0=some a:=rfl;have e:sx [a,b] 1=some b:=rfl;unfold cL;rw [bM,ad (show (k:Int)<=(g:Int) by omega)];simp only [s0,e,ob,o,l,f];rw [c,tg (by omega),tg (by omega),tg (by omega),tg (by omega)];show _=some (if ((a==UInt8.ofNat 88||a==UInt8.ofNat (48+k / 10))&&(b==UInt8.ofNat 88||b==UInt8.ofNat (48+k%10)))=true then _ else _);generalize (a==UInt8.ofNat 88)=j;generalize (b==UInt8.ofNat 88)=i;generalize (a==UInt8.ofNat (48+k / 10))=h;generalize (b==UInt8.ofNat (48+k%10))=m;cases j<;>cases i<;>cases h<;>cases m<;>rfl
theorem Ai (n:Nat) (m:100<n) (s:aa) (g:Nat) (j:g<=31):cK n s (g:Int)=some (dG s g):=by
 unfold cK;by_cases c:s.length=2
 ·obtain ⟨a,b,rfl⟩:∃a b,s=[a,b]:=by
   match s,c with
   | [a,b],_=>exact ⟨a,b,rfl⟩
  have e:cL n ([a,b],(g:Int),((g+1:Nat):Int))=some (.inr (.inr ())):=by
   unfold cL;rw [bM,ab (show ¬((g+1:Nat):Int)<=(g:Int) by omega)]
  have:=C5 (f:=λk=>([a,b],(g:Int),((k:Nat):Int))) (p:=agr [a,b]) (g:=g) (N:=n) (λk l d=>LJ n a b l d j) e (by omega);show ob (aw (cL n) n ([a,b],(g:Int),((1:Nat):Int))) _=_;rw [this];unfold dG;split<;>simp_all [ob]
 ·rw [show (((s.length:Nat):Int) != 2)=true by simp;omega];have:dG s g=false:=by
   unfold dG;rw [qY];intro i _
   match s,c with
   | [],_=>simp [agr]
   | [_],_=>simp [agr]
   | [_,_],h=>exact absurd rfl h
   | _::_::_::_,_=>simp [agr]
  rw [this];rfl
theorem sE (n:Nat) (s:aa) (k:Nat) (m:k<100):dm n s (k:Int)=some (if agr s k then 1 else 0):=by
 unfold dm;rw [JA n m];show cond _ _ _=_;by_cases d:s.length=2
 ·obtain ⟨a,b,rfl⟩:∃a b,s=[a,b]:=by
   match s,d with
   | [a,b],_=>exact ⟨a,b,rfl⟩
  have s0:sx [a,b] 0=some a:=rfl;have e:sx [a,b] 1=some b:=rfl;have o:sx (two k) 0=some (UInt8.ofNat (48+k / 10)):=rfl;have g:sx (two k) 1=some (UInt8.ofNat (48+k%10)):=rfl;have c:(88:Int)=((88:Nat):Int):=rfl;rw [show (((([a,b]:aa).length:Nat):Int)==2)=true from rfl];simp only [s0,e,o,g,ob,aj];rw [c,tg (by omega),tg (by omega),DD,DD];show _=some (if ((a==UInt8.ofNat 88||a==UInt8.ofNat (48+k / 10))&&(b==UInt8.ofNat 88||b==UInt8.ofNat (48+k%10)))=true then _ else _);generalize (a==UInt8.ofNat 88)=j;generalize (b==UInt8.ofNat 88)=i;generalize (a==UInt8.ofNat (48+k / 10))=f;generalize (b==UInt8.ofNat (48+k%10))=l;cases j<;>cases i<;>cases f<;>cases l<;>rfl
 ·rw [show (((s.length:Nat):Int)==2)=false by simp;omega];have:agr s k=false:=by
   match s,d with
   | [],_=>rfl
   | [_],_=>rfl
   | [_,_],h=>exact absurd rfl h
   | _::_::_::_,_=>rfl
  rw [this];rfl
theorem D4 (n:Nat) (d:100<n) (s:aa) (g:Nat) (e:g<=31):cX n s (g:Int)=some (if dG s g then 1 else 0):=by
 unfold cX;have b:cY n (s,(g:Int),((g+1:Nat):Int))=some (.inr (.inr ())):=by
  unfold cY;rw [bM,ab (show ¬((g+1:Nat):Int)<=(g:Int) by omega)]
 have:=C5 (f:=λk=>(s,(g:Int),((k:Nat):Int))) (p:=agr s) (g:=g) (N:=n) (step:=cY n) (yes:=.inl 1) (no:=.inr ()) (λk h c=>by
  unfold cY;rw [bM,ad (show (k:Int)<=(g:Int) by omega)];show ob (dm n s (k:Int)) _=_;rw [sE n s k (by omega)];have a:IntKind.wrap .i64 ((k:Int)+1)=((k+1:Nat):Int):=by rw [wrap_i64 _ (by omega) (by omega)];omega
  simp only [ob,a];cases agr s k<;>rfl) b (by omega)
 show ob (aw (cY n) n (s,(g:Int),((1:Nat):Int))) _=_;rw [this];unfold dG;split<;>simp_all [ob]
theorem vt (n:Nat) {a b:Int} (v:1<b) (o:b<1000) (w:-4611686018427387904<=a) (l:a<4611686018427387904):kI n a b=some (a / b,0):=by
 have p:(b==0)=false:=by simp;omega
 have k:(b==-1)=false:=by simp;omega
 unfold kI;simp only [p,k,ae];have t:a / b*b+a%b=a:=Int.ediv_mul_add_emod a b;have u:=GK a (show b≠0 by omega);have m:=GO a (show 0<b by omega);have s:-4611686018427387904<=a / b:=by
  rw [Int.le_ediv_iff_mul_le (by omega)];have:(-4611686018427387904:Int)*b<=-4611686018427387904*1:=Int.mul_le_mul_of_nonpos_left (by omega) (by omega);omega
 have r:a / b<4611686018427387904:=by
  rw [Int.ediv_lt_iff_lt_mul (by omega)];have:(4611686018427387904:Int)*1<=4611686018427387904*b:=Int.mul_le_mul_of_nonneg_left (by omega) (by omega);omega
 by_cases i:0<=a
 ·have d:Int.tdiv a b=a / b:=Np i;have e:decide (a<0)=false:=by simp;omega
  have f:decide (b<0)=false:=by simp;omega
  rw [d,e,f,wrap_i64 (a / b) (by omega) (by omega)];cases (Int.tmod a b != 0)<;>rfl
 ·have e:decide (a<0)=true:=by simp;omega
  have f:decide (b<0)=false:=by simp;omega
  have d:=Int.tdiv_eq_ediv (a:=a) (b:=b);have j:=JD (a:=a) (b:=b);rw [e,f];by_cases c:b∣a
  ·have g:Int.tmod a b=0:=by
    rw [j,ad (.inr c)];have:=Int.emod_eq_zero_of_dvd c;omega
   rw [g,d,ad (.inr c)];rw [Int.add_zero,wrap_i64 (a / b) (by omega) (by omega)];rfl
  ·have q:a%b≠0:=λh=>c (H3 h);have g:(Int.tmod a b != 0)=true:=by
    rw [j,ab (by rintro (h | h);exact i h;exact c h)];simp;omega
   have hs:b.sign=1:=Int.sign_eq_one_of_pos (by omega);rw [g,d,ab (by rintro (h | h);exact i h;exact c h),hs];rw [wrap_i64 (a / b+1) (by omega) (by omega),Int.add_sub_cancel,wrap_i64 (a / b) (by omega) (by omega)];rfl
theorem Sm (n:Nat) {a b:Int} (p:1<b) (l:b<1000):ua n a b=some (a%b,0):=by
 have j:(b==0)=false:=by simp;omega
 have g:(b==-1)=false:=by simp;omega
 unfold ua;simp only [j,g,ae];have o:=GK a (show b≠0 by omega);have f:=GO a (show 0<b by omega);have c:=JD (a:=a) (b:=b);have e:decide (b<0)=false:=by simp;omega
 by_cases hc:0<=a\/b∣a
 ·rw [ad hc] at c;have:Int.tmod a b=a%b:=by omega
  rw [this,e];have d:decide (a%b<0)=false:=by simp;omega
  rw [d];cases h:(a%b != 0)
  ·rfl
  ·rfl
 ·rw [ab hc] at c;have k:(b.natAbs:Int)=b:=by omega
  rw [k] at c;have m:a%b≠0:=λh=>hc (.inr (H3 h));have i:(Int.tmod a b != 0)=true:=by simp;omega
  have d:decide (Int.tmod a b<0)=true:=by simp;omega
  rw [i,d,e,c,wrap_i64 _ (by omega) (by omega),JK];rfl
def dl (y:Int):Prop:=-10000000000000000<=y/\y<=10000000000000000
instance (y:Int):Decidable (dl y):=by unfold dl;infer_instance
theorem fc (n:Nat) (y:Int):ig n y=some (if dl y then 0 else 6):=by
 unfold ig;rw [bM,bM];by_cases a:y < -10000000000000000
 ·rw [ad a,ab (show ¬dl y by unfold dl;omega)]
 ·by_cases b:y>10000000000000000
  ·rw [ab a,ad b,ab (show ¬dl y by unfold dl;omega)]
  ·rw [ab a,ab b,ad (show dl y by unfold dl;omega)]
theorem qE (n:Nat) {y:Int} (h:-20000000000000000<=y/\y<=20000000000000000):∃z,ef n y=some z:=by
 unfold ef;rw [wrap_i64 (y - 1) (by omega) (by omega),vt n (by omega) (by omega) (by omega) (by omega),vt n (by omega) (by omega) (by omega) (by omega),vt n (by omega) (by omega) (by omega) (by omega)];exact ⟨_,rfl⟩
theorem Jo (n:Nat) {y:Int} (h:dl y):∃b e,jp n y=some (b,e):=by
 unfold jp;have h':=h;unfold dl at h';obtain ⟨z1,c⟩:=qE n (y:=y+1) (by omega);obtain ⟨z2,a⟩:=qE n (y:=y) (by omega);rw [fc,ad h,wrap_i64 (y+1) (by omega) (by omega),c,a];exact ⟨_,_,rfl⟩
theorem qQ (n:Nat) {y:Int} (h:dl y) {m:Nat} (d:1<=m) (c:m<=12):∃v,dC n y (m:Int)=some v:=by
 unfold dC;obtain ⟨b,e,a⟩:=Jo n h;rw [a];show ∃v,cond (b&&((m:Int)==2)) _ _=some v;cases (b&&((m:Int)==2)) with
 | true=>exact ⟨_,rfl⟩
 | false=>
  have:IntKind.wrap .i64 ((m:Int) - 1)=((m - 1:Nat):Int):=by rw [wrap_i64 _ (by omega) (by omega)];omega
  rw [this,di (by omega)];have a:tX.length=12:=rfl;exact ⟨_,bH (show m - 1<tX.length by omega)⟩
theorem DY (n:Nat) {y:Int} (h:dl y) {m:Nat} (b:1<=m) (a:m<=12):ju n y (m:Int)=some 0:=by
 unfold ju;rw [fc,ad h];show cond (decide ((m:Int)<1)) _ _=_;rw [bM,bM,ab (by omega),ab (by omega)]
theorem FQ (n:Nat) {y:Int} (h:dl y) {m:Nat} (e:m<=11):∀(r j:Nat),j+r=m->∀(a:Int) (N:Nat),r<N->∃v,aw (bu n) N (y,a,(m:Int),(j:Int))=some v:=by
 intro r
 induction r with
 | zero=>
  intro j b a N d;obtain ⟨N,rfl⟩:∃k,N=k+1:=⟨N - 1,by omega⟩;have:bu n (y,a,(m:Int),(j:Int))=some (.inr a):=by
   unfold bu;rw [bM,ab (show ¬((j:Int)<(m:Int)) by omega)]
  rw [aw,this];exact ⟨_,rfl⟩
 | succ r ih=>
  intro j b a N d;obtain ⟨N,rfl⟩:∃k,N=k+1:=⟨N - 1,by omega⟩;obtain ⟨v,c⟩:=qQ n h (m:=j+1) (by omega) (by omega);have w:IntKind.wrap .i64 ((j:Int)+1)=((j+1:Nat):Int):=by rw [wrap_i64 _ (by omega) (by omega)];omega
  have:bu n (y,a,(m:Int),(j:Int))=some (.inl (y,IntKind.wrap .i64 (a+v),(m:Int),((j+1:Nat):Int))):=by
   unfold bu;rw [bM,ad (show ((j:Int)<(m:Int)) by omega)];simp only [w,c,ob]
  rw [aw,this];exact ih (j+1) (by omega) _ N (by omega)
theorem Gz (n:Nat) (d:100<n) {y:Int} (h:dl y) {m:Nat} (c:1<=m) (b:m<=12):∃v,ei n y (m:Int)=some (v,0):=by
 unfold ei kx ku;have h':=h;unfold dl at h';obtain ⟨z,e⟩:=qE n (y:=y) (by omega);have w:IntKind.wrap .i64 ((m:Int) - 1)=((m - 1:Nat):Int):=by rw [wrap_i64 _ (by omega) (by omega)];omega
 rw [DY n h c b,fc,ad h,e,w];obtain ⟨v,a⟩:=FQ n h (m:=m - 1) (by omega) (m - 1) 0 (by omega) (IntKind.wrap .i64 (IntKind.wrap .i64 (365*y)+z)) n (by omega);refine ⟨v,?_⟩;show ob (aw (bu n) n (y,IntKind.wrap .i64 (IntKind.wrap .i64 (365*y)+z),((m - 1:Nat):Int),((0:Nat):Int))) _=_;rw [a];rfl
theorem madd (n:Nat) {y:Int} (h:dl y) {m c:Nat} (l:1<=m) (i:m<=12) (hc:1<=c) (j:c<=6):na n y (m:Int) (IntKind.wrap .i64 ((c:Int) - 1)) =
  some (if 12<m+c - 1 then (if y=10000000000000000 then (0,0,6) else (y+1,((m+c - 1 - 12:Nat):Int),0)) else (y,((m+c - 1:Nat):Int),0)):=by
 have h':=h;unfold dl at h';unfold na;rw [DY n h l i,wrap_i64 (12*y) (by omega) (by omega),wrap_i64 ((m:Int) - 1) (by omega) (by omega),wrap_i64 (12*y+((m:Int) - 1)) (by omega) (by omega),wrap_i64 ((c:Int) - 1) (by omega) (by omega)];have k:pC n (12*y+((m:Int) - 1)) ((c:Int) - 1)=some (12*y+((m:Int) - 1)+((c:Int) - 1),0):=by
  unfold pC;rw [wrap_i64 (12*y+((m:Int) - 1)+((c:Int) - 1)) (by omega) (by omega),iH];by_cases d:(c:Int) - 1=0
  ·rw [ad d];have b:decide (12*y+((m:Int) - 1)>12*y+((m:Int) - 1))=false:=by simp
   have e:decide ((c:Int) - 1>0)=false:=by simp;omega
   rw [b,e,d,Int.add_zero];rfl
  ·rw [ab d];have b:decide (12*y+((m:Int) - 1)+((c:Int) - 1)>12*y+((m:Int) - 1))=true:=by simp;omega
   have e:decide ((c:Int) - 1>0)=true:=by simp;omega
   rw [b,e];rfl
 simp only [ob,k,eH,ae];rw [vt n (by omega) (by omega) (by omega) (by omega),Sm n (by omega) (by omega)];simp only [fc];by_cases g:12<m+c - 1
 ·have f:(12*y+((m:Int) - 1)+((c:Int) - 1)) / 12=y+1:=by omega
  have a:(12*y+((m:Int) - 1)+((c:Int) - 1))%12=((m+c - 1 - 12:Nat):Int) - 1:=by omega
  rw [f,a,ad g];by_cases hy:y=10000000000000000
  ·rw [ad hy,ab (show ¬dl (y+1) by unfold dl;omega)];rfl
  ·rw [ab hy,ad (show dl (y+1) by unfold dl;omega),wrap_i64 (((m+c - 1 - 12:Nat):Int) - 1+1) (by omega) (by omega),JK];rfl
 ·have f:(12*y+((m:Int) - 1)+((c:Int) - 1)) / 12=y:=by omega
  have a:(12*y+((m:Int) - 1)+((c:Int) - 1))%12=((m+c - 1:Nat):Int) - 1:=by omega
  rw [f,a,ab g,ad h,wrap_i64 (((m+c - 1:Nat):Int) - 1+1) (by omega) (by omega),JK];rfl
theorem DI {j:Nat} (i:j<21):∃m c:Nat,md[j]?=some ((m:Int),(c:Int))/\1<=m/\m<=12/\1<=c/\c<=6/\(12<m+c - 1↔j=3\/j=7\/j=9):=by
 have:((List.range 21).all λj=>match md[j]? with
  | some (m,c)=>decide (0<=m)&&decide (0<=c)&&decide (1<=m.toNat)&&decide (m.toNat<=12)&&decide (1<=c.toNat)&&decide (c.toNat<=6)&&(decide (12<m.toNat+c.toNat - 1)==decide (j=3\/j=7\/j=9))
  | none=>false)=true:=by decide +kernel
 have h:=(cr.1 this) j (by simpa using i);split at h
 ·rename_i m c e;simp only [ay,cj,bU,qA] at h;obtain ⟨⟨⟨⟨⟨⟨l,a⟩,b⟩,k⟩,d⟩,f⟩,g⟩:=h;exact ⟨m.toNat,c.toNat,by rw [e,Ec l,Ec a],b,k,d,f,g⟩
 ·cases h
theorem R9 (n:Nat) (l:100<n) {y:Int} (h:dl y) {j:Nat} (t:j<21):
  ∃a b c d,gq n y ((21+j:Nat):Int)=some (a,b,c,d,if y=10000000000000000/\(j=3\/j=7\/j=9) then 6 else 0):=by
 obtain ⟨m,c,e,w,q,z,C,s⟩:=DI t;have A:eh n ((21+j:Nat):Int)=some ((m:Int),(c:Int),0):=by
  unfold eh da;rw [bM,bM,ab (by omega),ab (by omega)];have:IntKind.wrap .i64 (((21+j:Nat):Int) - 21)=(j:Int):=by rw [wrap_i64 _ (by omega) (by omega)];omega
  rw [this,di t];show ob (md[j]?) _=_;rw [e];rfl
 obtain ⟨v,B⟩:=Gz n l h w q;unfold gq;rw [A];show ∃a b c d,ob (ei n y (m:Int)) _=_;rw [B];show ∃a b r d,ob (na n y (m:Int) (IntKind.wrap .i64 ((c:Int) - 1))) _=_;rw [madd n h w q z C];have h':=h;unfold dl at h';by_cases i:12<m+c - 1
 ·rw [ad i];by_cases hy:y=10000000000000000
  ·rw [ad hy,ad ⟨hy,s.1 i⟩];exact ⟨_,_,_,_,rfl⟩
  ·rw [ab hy,ab (λx=>hy x.1)];have g:dl (y+1):=by unfold dl;omega
   obtain ⟨o,f⟩:=Gz n l g (m:=m+c - 1 - 12) (by omega) (by omega);obtain ⟨u,k⟩:=qQ n g (m:=m+c - 1 - 12) (by omega) (by omega);have p:fQ n (y+1) ((m+c - 1 - 12:Nat):Int)=some (IntKind.wrap .i64 (IntKind.wrap .i64 (o+u) - 1),0):=by
    unfold fQ;rw [f,k];rfl
   show ∃a b r d,ob (fQ n (y+1) ((m+c - 1 - 12:Nat):Int)) _=_;rw [p];exact ⟨_,_,_,_,rfl⟩
 ·rw [ab i,ab (λx=>i (s.2 x.2))];obtain ⟨o,f⟩:=Gz n l h (m:=m+c - 1) (by omega) (by omega);obtain ⟨u,k⟩:=qQ n h (m:=m+c - 1) (by omega) (by omega);have p:fQ n y ((m+c - 1:Nat):Int)=some (IntKind.wrap .i64 (IntKind.wrap .i64 (o+u) - 1),0):=by
   unfold fQ;rw [f,k];rfl
  show ∃a b r d,ob (fQ n y ((m+c - 1:Nat):Int)) _=_;rw [p];exact ⟨_,_,_,_,rfl⟩
def hasB (set:aa) (c:UInt8):Bool:=set.any λd=>d==c
theorem rV (set:aa) (c:UInt8):(decide (Lib.indexByte set c<0))=!hasB set c:=by
 induction set with
 | nil=>simp [Lib.indexByte,hasB]
 | cons d l ih=>
  have f:=Lib.indexByte_ge l c;simp only [hasB,List.any_cons] at ih ⊢;unfold Lib.indexByte;by_cases h:d=c
  ·simp [h]
  ·have e:(d==c)=false:=by simpa using h
   simp only [e,cE,aG,vC];rw [<-ih];by_cases b:Lib.indexByte l c=-1
   ·simp [b]
   ·have a:(Lib.indexByte l c==-1)=false:=by simpa using b
    simp only [a,cE,aG];have:¬Lib.indexByte l c+1<0:=by omega
    have:¬Lib.indexByte l c<0:=by omega
    simp [*]
theorem rO (set:aa) (c:UInt8):(decide (Lib.indexByte set c>=0))=hasB set c:=by
 have:=rV set c;by_cases h:Lib.indexByte set c<0
 ·have a:¬Lib.indexByte set c>=0:=by omega
  simp only [h,a,np,ny] at this ⊢;revert this;cases hasB set c<;>simp
 ·have a:Lib.indexByte set c>=0:=by omega
  simp only [h,a,np,ny] at this ⊢;revert this;cases hasB set c<;>simp
theorem lA (n:Nat) (set:aa) (c:UInt8):cP n set ((c.toNat:Nat):Int)=some (Lib.indexByte set c):=by
 simp only [cP,cw,ob,Tv]
def asc (l:aa):Prop:=∀c∈l,c.toNat<128
theorem GI (r:Int) (h:128<=r):∃p e,(Utf8.encode r).data.toList=p++[e]/\1<=p.length/\p.length<=3/\128<=e.toNat:=by
 unfold Utf8.encode;have hc:128<=(if Utf8.valid r then r.toNat else Utf8.runeError):=by
  split
  ·omega
  ·decide
 generalize (if Utf8.valid r then r.toNat else Utf8.runeError)=c at hc;have a:128<=(UInt8.ofNat (0x80+c%64)).toNat:=by
  simp only [BD];omega
 simp only;split
 ·omega
 ·split
  ·exact ⟨[_],_,rfl,by simp,by simp,a⟩
  ·split
   ·exact ⟨[_,_],_,rfl,by simp,by simp,a⟩
   ·exact ⟨[_,_,_],_,rfl,by simp,by simp,a⟩
theorem GV {l:aa} (h:asc l) {i:Nat} {c:UInt8} (hi:l[i]?=some c):c.toNat<128:=h c (dT hi)
theorem AT (n:Nat) (set:aa) (h:asc set) (e:set.length<n):aw (dh n) n (set,0)=some (.inr ()):=by
 refine gv (step:=dh n) (λx=>x.1=set) (λx=>set.length - x.2) (λx=>.inr ()) ?_ n _ rfl (by simp;omega);rintro ⟨s,i⟩ rfl;simp only [dh];by_cases hi:i<s.length
 ·have a:Nat.blt i s.length=true:=cU hi;obtain ⟨c,hc⟩:∃c,s[i]?=some c:=⟨s[i],bH hi⟩;have b:=GV h hc;have d:(((c.toNat:Nat):Int)==65533)=false:=by rw [aL];omega
  simp only [a,aj,Cb hc b,d,ae];exact .inl ⟨_,rfl,rfl,by simp only;omega,trivial⟩
 ·have a:Nat.blt i s.length=false:=by
   cases a:Nat.blt i s.length with
   | false=>rfl
   | true=>exact absurd (aD a) (by omega)
  simp only [a,ae];exact .inr trivial
theorem wm {l:aa} {c:UInt8} (h:c∉l):Lib.indexByte l c<0:=by
 have a:=rV l c;have d:hasB l c=false:=by
  unfold hasB;rw [qY];intro x hx b;simp only [bU] at b;exact h (b▸hx)
 rw [d] at a;simpa using a
theorem AO (n:Nat) (set:aa) (h:asc set) (o:set.length<n) (hs:set.length<=100) (r:Int) (y:128<=r):dp n set r=some (-1):=by
 have A:decide ((0:Int)<=r)=true:=ar (by omega);have B:decide (r<128)=false:=aq (by omega);simp only [dp,A,B,aj,ae];by_cases b:r=65533
 ·have:(r==65533)=true:=bU.2 b;simp only [this,aj,AT n set h o,ob]
 ·have:(r==65533)=false:=aL.2 b;simp only [this,ae];obtain ⟨v,w⟩:∃v,dj n r=some v:=by
   unfold dj;generalize decide ((0:Int)<=r)=l;generalize decide (r<55296)=x;generalize decide ((57343:Int)<r)=u;generalize decide (r<=1114111)=d4;cases l<;>cases x<;>cases u<;>cases d4<;>exact ⟨_,rfl⟩
  simp only [w,ob];cases v with
  | false=>rfl
  | true=>
   simp only [eG,ae];obtain ⟨p,e,hp,q,t,C⟩:=GI r y;simp only [hp];have s:IntKind.wrap .i64 (((p++[e]).length:Nat) - 1:Int)=(p.length:Int):=by
    rw [wrap_i64 _ (by simp<;>omega) (by simp<;>omega)];simp
   rw [s];obtain ⟨m,rfl⟩:∃m,n=m+1:=⟨n - 1,by omega⟩;have a:dc (m+1) (set,p++[e],(p.length:Int),(p.length:Int))=some (.inr (.inl (-1)))\/dc (m+1) (set,p++[e],(p.length:Int),(p.length:Int))=some (.inr (.inr ())):=by
    simp only [dc,lT];by_cases i:p.length<set.length
    ·obtain ⟨c,hc⟩:∃c,set[p.length]?=some c:=⟨set[p.length],bH i⟩;have k:=GV h hc;have g:(p++[e])[p.length]?=some e:=by simp
     have f:(((c.toNat:Nat):Int) != ((e.toNat:Nat):Int))=true:=by simp only [bne,kn,aL];omega
     have j:IntKind.wrap .i64 ((p.length:Int)+1)=((p.length+1:Nat):Int):=by rw [wrap_i64 _ (by omega) (by omega)];omega
     have hx:e∉List.drop (p.length+1) (List.take set.length set):=by
      intro z;have:=h e (by simpa using List.mem_of_mem_drop z);omega
     left;simp only [i,np,aj,lr hc,lr g,ob,f,j,eM (show p.length+1<=set.length by omega),lA,wm hx]
    ·right;simp only [i,ny,ae]
   rcases a with d | d<;>simp only [aw,d,ob]
theorem wn (n:Nat) (set:aa) (c:UInt8) (r:Int) (d:r=((c.toNat:Nat):Int)) (hc:c.toNat<128):dp n set r=some (Lib.indexByte set c):=by
 have b:decide ((0:Int)<=r)=true:=ar (by omega);have f:decide (r<128)=true:=ar (by omega);have a:IntKind.wrap .u8 r=r:=eY _ (by omega) (by omega);have e:cP n set r=some (Lib.indexByte set c):=by rw [d];exact lA n set c
 simp only [dp,b,f,aj,a,e,ob]
theorem yy (n:Nat) (set:aa) (c:UInt8) (hc:c.toNat<128):dp n set ((c.toNat:Nat):Int)=some (Lib.indexByte set c):=wn n set c _ rfl hc
theorem tu (n:Nat) (set:aa) (c:UInt8) (hc:c.toNat<128):de n set ((c.toNat:Nat):Int)=some (hasB set c):=by
 simp only [de,yy n set c hc,ob,rO]
theorem vc (n:Nat) (set:aa) (h:asc set) (b:set.length<n) (hs:set.length<=100) (r:Int) (a:128<=r):de n set r=some false:=by
 simp only [de,AO n set h b hs r a,ob];rfl
theorem tM (x:Int) (b:0<=x) (a:x<65536):IntKind.wrap .u16 x=x:=by
 show x%65536=x;omega
theorem AL (w a:Nat):BitVec.ofInt w (a:Int)=BitVec.ofNat w a:=by
 apply BitVec.eq_of_toNat_eq;simp
theorem PH (k:Nat):(2:Int) ^ k=((2 ^ k:Nat):Int):=by simp
theorem MA (a k:Nat):Int.fdiv (a:Int) (2 ^ k)=((a / 2 ^ k:Nat):Int):=by
 rw [PH k,Int.fdiv_eq_ediv_of_nonneg _ (Int.natCast_nonneg _)];rfl
def inR (lo hi:Int) (c:UInt8):Bool:=decide (((c.toNat:Nat):Int)>=lo)&&decide (((c.toNat:Nat):Int)<=hi)
def cnt (lo hi:Int) (l:aa):Nat:=l.countP (inR lo hi)
theorem GW (lo hi:Int) (l:aa):cnt lo hi l<=l.length:=List.countP_le_length
theorem KE (lo hi:Int) {l:aa} {i:Nat} {c:UInt8} (h:l[i]?=some c):cnt lo hi (l.take (i+1))=cnt lo hi (l.take i)+if inR lo hi c then 1 else 0:=by
 unfold cnt;rw [nT,h,List.countP_append];simp [H9]
theorem Eh (n:Nat) (s:aa) (lo hi:Int) (hs:s.length<n) (l:s.length<100000):eV n s lo hi=some ((cnt lo hi s:Nat):Int):=by
 have:=gv (step:=fK n) (λx=>∃i:Nat,i<=s.length/\x=(s,lo,hi,((cnt lo hi (s.take i):Nat):Int),(i:Int))) (λx=>s.length - x.2.2.2.2.toNat) (λ_=>((cnt lo hi s:Nat):Int)) ?_ n (s,lo,hi,0,0) ⟨0,by omega,by simp [cnt]⟩ (by simp;omega)
 ·simp only [eV,this,ob]
 rintro x ⟨i,g,rfl⟩;rcases aH i s.length with a | j
 ·obtain ⟨c,hc⟩:∃c,s[i]?=some c:=⟨s[i],bH a⟩;have d:=KE lo hi hc;have b:=GW lo hi (s.take i);rw [dx] at b;have k:IntKind.wrap .i64 ((i:Int)+1)=((i+1:Nat):Int):=by rw [wrap_i64 _ (by omega) (by omega)];omega
  have h:IntKind.wrap .i64 (((cnt lo hi (s.take i):Nat):Int)+1)=((cnt lo hi (s.take i)+1:Nat):Int):=by rw [wrap_i64 _ (by omega) (by omega)];omega
  refine .inl ⟨(s,lo,hi,((cnt lo hi (s.take (i+1)):Nat):Int),((i+1:Nat):Int)),?_,⟨i+1,a,rfl⟩,by simp only [bY];omega,rfl⟩;simp only [fK,lT,a,np,aj,lr hc,ob,k,h];rw [d];by_cases e:((c.toNat:Nat):Int)>=lo
  ·by_cases f:((c.toNat:Nat):Int)<=hi
   ·simp [e,f,inR]
   ·simp [e,f,inR]
  ·simp [e,inR]
 ·have:i=s.length:=by omega
  subst this;refine .inr ?_;simp only [fK,lT,BN,ny,ae,nU]
theorem HU (lo hi:Int) (l:aa):cnt lo hi l=l.length↔∀c∈l,inR lo hi c=true:=by
 unfold cnt;rw [List.countP_eq_length]
theorem KR (lo hi:Int) (l:aa):cnt lo hi l=0↔∀c∈l,inR lo hi c=false:=by
 unfold cnt;rw [List.countP_eq_zero];simp
def cM (c:UInt8):Bool:=inR 48 57 c
theorem gx (c:UInt8):cM c=true↔48<=c.toNat/\c.toNat<=57:=by
 unfold cM inR;simp only [ay,cj];omega
theorem xZ (c:UInt8):inR 88 88 c=true↔c=88:=by
 unfold inR;simp only [ay,cj];constructor
 ·intro h;apply jf.1;show c.toNat=88;omega
 ·rintro rfl;decide
theorem iO9 (c:UInt8):inR 48 48 c=true↔c=48:=by
 unfold inR;simp only [ay,cj];constructor
 ·intro h;apply jf.1;show c.toNat=48;omega
 ·rintro rfl;decide
theorem Iu:∀l:aa,cnt 48 57 l+cnt 88 88 l<=l.length/\(cnt 48 57 l+cnt 88 88 l=l.length↔∀c∈l,cM c=true\/c=88)
 | []=>by simp [cnt]
 | c::l=>by
  have ih:=Iu l;have h:cnt 48 57 (c::l)=cnt 48 57 l+if inR 48 57 c then 1 else 0:=by simp [cnt,H9]
  have d:cnt 88 88 (c::l)=cnt 88 88 l+if inR 88 88 c then 1 else 0:=by simp [cnt,H9]
  have f:¬(inR 48 57 c=true/\inR 88 88 c=true):=by
   rintro ⟨b,a⟩;have:=(gx c).1 b;rw [(xZ c).1 a] at this;exact absurd this.2 (by decide)
  rw [h,d,aS];simp only [cA,yA];have hx:=xZ c;have g:cM c=inR 48 57 c:=rfl;rw [g];cases b:inR 48 57 c<;>cases a:inR 88 88 c
  ·simp only [b,a] at hx ⊢;have:c≠88:=λe=>by simpa using hx.2 e
   simp [this];omega
  ·simp only [b,a] at hx ⊢;have:c=88:=hx.1 trivial;simp only [this,cE,aY,aG,false_or,jm];rw [<-ih.2];omega
  ·simp only [b,a] at hx ⊢;simp only [cE,aY,aG,true_or,jm];rw [<-ih.2];omega
  ·exact absurd ⟨b,a⟩ f
theorem Ib (n:Nat) (s set:aa) (r:asc set) (u:set.length<n) (t:set.length<=100) (hs:s.length<n):
  ∃y,aw (ck n) n (true,set,s,0)=some y/\((y=.inr ()/\s.all (hasB set)=true)\/∃i:Nat,y=.inl (i:Int)/\s.all (hasB set)=false):=by
 refine nj (step:=ck n) (λx=>x.1=true/\x.2.1=set/\x.2.2.1=s/\s.all (hasB set)=(s.drop x.2.2.2).all (hasB set)) (λx=>s.length - x.2.2.2) _ ?_ n _ ⟨rfl,rfl,rfl,rfl⟩ (by simp only;omega);rintro ⟨b,st,v,p⟩ ⟨j,g,f,a⟩;simp only at j g f a;rw [j,g,f];clear j g f b st v;rcases aH p s.length with h | l
 ·obtain ⟨c,hc⟩:∃c,s[p]?=some c:=⟨s[p],bH h⟩;have e:Nat.blt p s.length=true:=cU h;rw [kM hc,mV] at a;rcases aH c.toNat 128 with d | d
  ·have o:=Cb hc d;simp only [ck,e,aj,ja,o,tu n set c d,ob];cases k:hasB set c with
   | true=>
    rw [k,lZ] at a;exact .inl ⟨_,rfl,⟨rfl,rfl,rfl,a⟩,by simp only;omega⟩
   | false=>
    rw [k,Dv] at a;exact .inr ⟨_,rfl,.inr ⟨p,rfl,a⟩⟩
  ·have o:=Eu hc d;have k:hasB set c=false:=by
    unfold hasB;rw [qY];intro x hx q;simp only [bU] at q;have:=r x hx;rw [q] at this;omega
   rw [k,Dv] at a;have m:=vc n set r u t (((dec s p).1:Nat):Int) (by omega);simp only [ck,e,aj,ja,m,ob];exact .inr ⟨_,rfl,.inr ⟨p,rfl,a⟩⟩
 ·have e:Nat.blt p s.length=false:=by
   cases j:Nat.blt p s.length with
   | false=>rfl
   | true=>exact absurd (aD j) (by omega)
  simp only [ck,e,ae];rw [rl l] at a;exact .inr ⟨_,rfl,.inl ⟨rfl,by rw [a];rfl⟩⟩
theorem GH (n:Nat) (s set:aa) (e:asc set) (d:set.length<n) (c:set.length<=100) (hs:s.length<n):fe n s set=some (s.all (hasB set)):=by
 obtain ⟨y,f,b⟩:=Ib n s set e d c hs;simp only [fe,ky,kv,f,ob];rcases b with ⟨rfl,a⟩ | ⟨i,rfl,a⟩
 ·rw [a];rfl
 ·rw [a];simp only [am,vT];omega
theorem L0:asc [48,49,50,51,52,53,54,55,56,57]:=by unfold asc;decide
theorem GU:asc [88,48,49,50,51,52,53,54,55,56,57]:=by unfold asc;decide
theorem AX (p:UInt8->Bool) (h:∀i:Fin 256,p (UInt8.ofNat i.val)=true) (c:UInt8):p c=true:=by
 have:=h ⟨c.toNat,c.toNat_lt⟩;simpa using this
theorem GF (c:UInt8):hasB [48,49,50,51,52,53,54,55,56,57] c=cM c:=by
 have:=AX (λc=>hasB [48,49,50,51,52,53,54,55,56,57] c==cM c) (by decide +kernel) c;simpa using this
theorem Gl (c:UInt8):hasB [88,48,49,50,51,52,53,54,55,56,57] c=(cM c||c==88):=by
 have:=AX (λc=>hasB [88,48,49,50,51,52,53,54,55,56,57] c==(cM c||c==88)) (by decide +kernel) c;simpa using this
theorem HN (n:Nat) (s:aa) (a:100<n) (hs:s.length<n):fe n s [48,49,50,51,52,53,54,55,56,57]=some (s.all cM):=by
 rw [GH n s _ L0 (by simp;omega) (by simp) hs];congr 2;funext c;exact GF c
theorem FM (n:Nat) (s:aa) (a:100<n) (hs:s.length<n):fe n s [88,48,49,50,51,52,53,54,55,56,57]=some (s.all λc=>cM c||c==88):=by
 rw [GH n s _ GU (by simp;omega) (by simp) hs];congr 2;funext c;exact Gl c
def all0 (s:aa):Bool:=s.all λc=>c==48
theorem Tj (n:Nat) (s:aa) (hs:s.length<n) (m:s.length<100000):∃y,eU n s 48=some y/\all0 s=all0 y/\y.length<=s.length:=by
 obtain ⟨y,j,a⟩:=nj (step:=cO n) (λx=>x.2=48/\all0 s=all0 x.1/\x.1.length<=s.length) (λx=>x.1.length) (λy=>all0 s=all0 y/\y.length<=s.length) (by
  rintro ⟨l,c⟩ ⟨rfl,h,b⟩;simp only at h b;by_cases k:l.length>0
  ·have d0:decide (((l.length:Nat):Int)>0)=true:=ar (by omega);have g:IntKind.wrap .i64 (((l.length:Nat):Int) - 1)=((l.length - 1:Nat):Int):=by rw [wrap_i64 _ (by omega) (by omega)];omega
   obtain ⟨c,hc⟩:∃c,l[l.length - 1]?=some c:=⟨l[l.length - 1],bH (by omega)⟩;simp only [cO,d0,aj,g,lr hc,ob];by_cases d:c=48
   ·have f:(((c.toNat:Nat):Int)==48)=true:=by rw [d];rfl
    simp only [f,aj,eM (show l.length - 1<=l.length by omega),jO];refine .inl ⟨(List.take (l.length - 1) l,48),rfl,⟨rfl,?_,by show (List.take (l.length - 1) l).length<=s.length;rw [dx];omega⟩,by show (List.take (l.length - 1) l).length<l.length;rw [dx];omega⟩;rw [h];have:l=l.take (l.length - 1)++[c]:=by
     have a:=nT (l:=l) (i:=l.length - 1);rw [hc,show l.length - 1+1=l.length by omega,nU] at a;exact a
    rw [this];simp only [all0,List.all_append,mV,List.all_nil,d];simp
   ·have f:(((c.toNat:Nat):Int)==48)=false:=by
     rw [aL];intro e;exact d (jf.1 (by show c.toNat=48;omega))
    simp only [f,ae];exact .inr ⟨_,rfl,h,b⟩
  ·have d0:decide (((l.length:Nat):Int)>0)=false:=aq (by omega);simp only [cO,d0,ae];exact .inr ⟨_,rfl,h,b⟩) n (s,48) ⟨rfl,rfl,aW _⟩ hs
 exact ⟨y,by simp only [eU,j,ob],a⟩
theorem Tc (n:Nat) (s:aa) (hs:s.length<n) (m:s.length<100000):∃y,fw n s 48=some y/\all0 s=(y==[]):=by
 obtain ⟨y,k,j⟩:=nj (step:=dW n) (λx=>x.2=48/\all0 s=all0 x.1/\x.1.length<=s.length) (λx=>x.1.length) (λy=>all0 s=(y==[])) (by
  rintro ⟨l,c⟩ ⟨rfl,h,f⟩;simp only at h f;cases l with
  | nil=>exact .inr ⟨[],rfl,by rw [h];rfl⟩
  | cons c l=>
   have d0:decide ((((c::l).length:Nat):Int)>0)=true:=ar (by simp only [aS];omega);have hc:sx (c::l) 0=some c:=by simp [sx]
   simp only [dW,d0,aj,hc,ob];by_cases a:c=48
   ·have d:(((c.toNat:Nat):Int)==48)=true:=by rw [a];rfl
    have b:bx (c::l).length 1=some 1:=eM (i:=1) (by simp);simp only [d,aj,b,nU,xG,jO];refine .inl ⟨_,rfl,⟨rfl,?_,by show l.length<=s.length;simp only [aS] at f;omega⟩,by simp⟩;rw [h];simp [all0,a]
   ·have d:(((c.toNat:Nat):Int)==48)=false:=by
     rw [aL];intro e;exact a (jf.1 (by show c.toNat=48;omega))
    simp only [d,ae];refine .inr ⟨_,rfl,?_⟩;rw [h];have g:(c==48)=false:=aL.2 a;simp [all0,g]) n (s,48) ⟨rfl,rfl,aW _⟩ hs
 exact ⟨y,by simp only [fw,k,ob],j⟩
theorem Px (n:Nat) (s:aa) (hs:s.length<n) (d:s.length<100000):∃y,mu n s=some y/\(y==[])=all0 s:=by
 unfold mu;by_cases h:s=[]
 ·subst h;exact ⟨[],rfl,rfl⟩
 ·have:(s==([]:aa))=false:=aL.2 h;obtain ⟨y,e,a,f⟩:=Tj n s hs d;obtain ⟨z,c,b⟩:=Tc n y (by omega) (by omega);exact ⟨z,by simp only [this,ae,e,c,ob],by rw [a,b]⟩
theorem Kw (s:aa):all0 s=true↔cnt 48 48 s=s.length:=by
 rw [HU];unfold all0;rw [cr];constructor
 ·intro h c hc;have:=h c hc;rw [bU] at this;exact (iO9 c).2 this
 ·intro h c hc;rw [bU];exact (iO9 c).1 (h c hc)
def hasX (s:aa):Bool:=s.any λc=>c==88
theorem Do (s:aa):hasX s=decide (0<cnt 88 88 s):=by
 have:=KR 88 88 s;unfold hasX;cases h:s.any λc=>c==88 with
 | true=>
  obtain ⟨c,hc,b⟩:=qe.1 h;rw [bU] at b;symm;rw [cj];rcases yV (cnt 88 88 s) with a | a
  ·have:=this.1 a c hc;rw [(xZ c).2 b] at this;cases this
  ·exact a
 | false=>
  symm;rw [vT];intro a;have:cnt 88 88 s=0:=this.2 λc hc=>by
   cases hx:inR 88 88 c with
   | false=>rfl
   | true=>
    rw [qY] at h;exact absurd (bU.2 ((xZ c).1 hx)) (h c hc)
  omega
theorem zA (n:Nat) (s:aa):gE n s=some (hasX s):=by
 have e:UInt8.ofNat (Int.toNat 88)=(88:UInt8):=rfl;have hi:lE n s=some (Lib.indexByte s 88):=by
  simp only [lE,hS,cw,ob,e];by_cases h:([88]:aa)=s
  ·subst h;rfl
  ·have:(([88]:aa)==s)=false:=aL.2 h;simp only [this,ae]
 simp only [gE,hi,ob,rO];rfl
theorem rE (n:Nat) (g l:Bool) (d:aa) (x q:Int):cJ n g l d x q=some (hasX d):=by
 simp only [cJ,zA,ob]
theorem ng (n:Nat) (g l:Bool) (d:aa) (x q:Int) (hs:d.length<n) (a:d.length<100000):aA n g l d x q=some (if hasX d then 1 else 0):=by
 simp only [aA,Eh n d 88 88 hs a,ob,Do,cj];by_cases h:0<cnt 88 88 d
 ·have:decide (((cnt 88 88 d:Nat):Int)<1)=false:=aq (by omega);simp [this,h]
 ·have:decide (((cnt 88 88 d:Nat):Int)<1)=true:=ar (by omega);have b:cnt 88 88 d=0:=by omega
  simp [this,b]
def tC (a:Nat) (c:UInt8):Nat:=a*10+(c.toNat - 48)
def dval (a:Nat) (l:aa):Nat:=l.foldl tC a
theorem nB (a:Nat):dval a []=a:=by unfold dval;rw [Dp]
theorem mZ (a:Nat) (c:UInt8) (l:aa):dval a (c::l)=dval (tC a c) l:=by
 unfold dval;rw [tc]
theorem Ea (l:aa) (a:Nat) (c:UInt8):dval a (l++[c])=dval a l*10+(c.toNat - 48):=by
 have:dval a (l++[c])=tC (dval a l) c:=by
  unfold dval;rw [Dz,tc,Dp]
 rw [this];rfl
theorem N6 (M:Nat) (j:10000000000000000000<=M) (l:aa):∀(a k:Nat),(∀c∈l,cM c=true)->a<10 ^ k->l.length+k<=18->Lib.parseUintM M a l=.ok (dval a l)/\dval a l<10 ^ (l.length+k):=by
 induction l with
 | nil=>
  intro a k _ e _;rw [nB];refine ⟨rfl,?_⟩;simpa using e
 | cons c l ih=>
  intro a k h e f;have hc:=(gx c).1 (h c (by simp));simp only [aS] at f;have hp:(10:Nat) ^ (k+1)=10 ^ k*10:=qt 10 k;have g:(10:Nat) ^ (k+1)<=10 ^ 18:=jI (by decide) (by omega);have i:(10:Nat) ^ 18=1000000000000000000:=by decide
  have b:tC a c=a*10+(c.toNat - 48):=rfl;have ih:=ih (tC a c) (k+1) (λd b=>h d (by simp [b])) (by omega) (by omega);refine ⟨?_,?_⟩
  ·simp only [Lib.parseUintM];rw [ad hc,ab (by omega),ab (by omega),<-b,ih.1,mZ]
  ·rw [mZ,aS,show l.length+1+k=l.length+(k+1) by omega];exact ih.2
theorem FA {l:aa} (h:∀c∈l,cM c=true) (d:l≠[]) (k:l.length<=18):ve l=some ((dval 0 l:Nat):Int)/\dval 0 l<10 ^ l.length:=by
 obtain ⟨j,b⟩:=N6 (2 ^ 64 - 1) (by decide) l 0 0 h (by simp) (by omega);refine ⟨?_,by simpa using b⟩;have e:dval 0 l<10 ^ 18:=mH b (jI (by decide) (by omega));cases l with
 | nil=>exact absurd rfl d
 | cons c r=>
  have hc:=(gx c).1 (h c (by simp));have i:Lib.parseUintB 64 (c::r)=.ok (dval 0 (c::r)):=by
   unfold Lib.parseUintB;rw [ab d,j]
  have hs:¬(c.toNat=43\/c.toNat=45):=by omega
  simp only [ve,Lib.parseIntB,hs,aG,i];have f:(10:Nat) ^ 18=1000000000000000000:=by decide
  have a:(2:Nat) ^ (64 - 1)=9223372036854775808:=by decide
  have g:¬c.toNat=45:=by omega
  simp only [g,CH,jm,uh,aG];rw [a,ab (by omega)]
theorem J5 (n k:Nat) (l:k<=18) (j:18<n):m7 n (k:Int)=some (((10 ^ k:Nat):Int),0):=by
 have f:(10:Nat) ^ 18=1000000000000000000:=by decide
 have:=gv (step:=jz n) (λx=>∃i:Nat,i<=k/\x=(((10 ^ i:Nat):Int),(k:Int),(i:Int))) (λx=>k - x.2.2.toNat) (λ_=>((10 ^ k:Nat):Int)) (by
  rintro x ⟨i,hi,rfl⟩;rcases aH i k with a | e
  ·have c:(10:Nat) ^ (i+1)<=10 ^ 18:=jI (by decide) (by omega);have hp:(10:Nat) ^ (i+1)=10 ^ i*10:=qt 10 i;have h:IntKind.wrap .i64 (((10 ^ i:Nat):Int)*10)=((10 ^ (i+1):Nat):Int):=by rw [wrap_i64 _ (by omega) (by omega)];omega
   have d:IntKind.wrap .i64 ((i:Int)+1)=((i+1:Nat):Int):=by rw [wrap_i64 _ (by omega) (by omega)];omega
   refine .inl ⟨_,?_,⟨i+1,a,rfl⟩,by simp only [bY];omega,rfl⟩;simp only [jz,lT,a,np,aj,h,d]
  ·have:i=k:=by omega
   subst this;refine .inr ?_;simp only [jz,lT,BN,ny,ae]) n (1,(k:Int),0) ⟨0,by omega,rfl⟩ (by simp;omega)
 have b:decide ((k:Int)<0)=false:=aq (by omega);have g:decide ((k:Int)>18)=false:=aq (by omega);simp only [m7,b,g,ae,this,ob]
theorem jW (x:Int) (b:0<=x) (a:x<18446744073709551616):IntKind.wrap .u64 x=x:=by
 show x%18446744073709551616=x;omega
theorem A5 (x:Int):IntKind.wrap .u64 x=x%18446744073709551616:=rfl
theorem IN {a:Nat} (b:a<18446744073709551616):bits .and .u64 (a:Int) 4294967295=((a%4294967296:Nat):Int):=by
 show IntKind.wrap .u64 ((BitVec.ofInt 64 (a:Int) &&& BitVec.ofInt 64 ((4294967295:Nat):Int)).toNat:Int)=_;rw [AL,AL,BitVec.toNat_and,BitVec.toNat_ofNat,BitVec.toNat_ofNat,ov (show a<2 ^ 64 from b),ov (by decide)];have:=Nat.and_two_pow_sub_one_eq_mod a 32;rw [show (2:Nat) ^ 32 - 1=4294967295 from by decide,show (2:Nat) ^ 32=4294967296 from by decide] at this;rw [this];exact jW _ (by omega) (by omega)
theorem Lt (a:Nat):Int.fdiv (a:Int) (2 ^ 32)=((a / 4294967296:Nat):Int):=by
 rw [MA]
theorem EF {a b A B:Nat} (d:a<=A) (c:b<=B):a*b<=A*B:=ui d c
theorem JE (a b:Nat):a*b=(a / 4294967296)*(b / 4294967296)*18446744073709551616+((a / 4294967296)*(b%4294967296)+(a%4294967296)*(b / 4294967296))*4294967296+(a%4294967296)*(b%4294967296):=by
 have f:a=(a / 4294967296)*4294967296+a%4294967296:=by omega
 have e:b=(b / 4294967296)*4294967296+b%4294967296:=by omega
 generalize a / 4294967296=c at f ⊢;generalize a%4294967296=x0 at f ⊢;generalize b / 4294967296=d at e ⊢;generalize b%4294967296=g at e ⊢;subst f e;rw [fL,Nat.mul_add,Nat.mul_add];have j:c*4294967296*(d*4294967296)=c*d*18446744073709551616:=by
  rw [Nat.mul_mul_mul_comm]
 have h:c*4294967296*g=c*g*4294967296:=by rw [Nat.mul_right_comm]
 have i:x0*(d*4294967296)=x0*d*4294967296:=by rw [Bj]
 rw [j,h,i,fL];omega
theorem SL (n a b:Nat) (z:a<18446744073709551616) (v:b<18446744073709551616):jx n (a:Int) (b:Int)=some (((a*b / 18446744073709551616:Nat):Int),((a*b%18446744073709551616:Nat):Int)):=by
 have p:=JE a b;have j:a / 4294967296<=4294967295:=by omega
 have h:a%4294967296<=4294967295:=by omega
 have g:b / 4294967296<=4294967295:=by omega
 have i:b%4294967296<=4294967295:=by omega
 have m:=EF h i;have r:=EF h g;have t:=EF j i;have o:=EF j g;have k:IntKind.wrap .u64 ((a:Int)*(b:Int))=((a*b%18446744073709551616:Nat):Int):=by
  rw [A5,<-D5];omega
 simp only [jx,Lt,IN z,IN v,k];simp only [<-D5];generalize (a / 4294967296)*(b / 4294967296)=f at *;generalize (a / 4294967296)*(b%4294967296)=d at *;generalize (a%4294967296)*(b / 4294967296)=e at *;generalize (a%4294967296)*(b%4294967296)=c at *;generalize a*b=N at *;have w:IntKind.wrap .u64 ((c:Nat):Int)=((c:Nat):Int):=jW _ (by omega) (by omega);have y:IntKind.wrap .u64 ((d:Nat):Int)=((d:Nat):Int):=jW _ (by omega) (by omega);have l:IntKind.wrap .u64 ((e:Nat):Int)=((e:Nat):Int):=jW _ (by omega) (by omega);have u:IntKind.wrap .u64 ((f:Nat):Int)=((f:Nat):Int):=jW _ (by omega) (by omega);rw [w,y,l,u,Lt c];have q:IntKind.wrap .u64 (((d:Nat):Int)+((c / 4294967296:Nat):Int))=((d+c / 4294967296:Nat):Int):=by rw [jW _ (by omega) (by omega)];omega
 rw [q,Lt,IN (by omega)];have x:IntKind.wrap .u64 (((f:Nat):Int)+(((d+c / 4294967296) / 4294967296:Nat):Int))=((f+(d+c / 4294967296) / 4294967296:Nat):Int):=by rw [jW _ (by omega) (by omega)];omega
 have s:IntKind.wrap .u64 ((((d+c / 4294967296)%4294967296:Nat):Int)+((e:Nat):Int))=(((d+c / 4294967296)%4294967296+e:Nat):Int):=by rw [jW _ (by omega) (by omega)];omega
 rw [x,s,Lt];have w8:IntKind.wrap .u64 (((f+(d+c / 4294967296) / 4294967296:Nat):Int)+((((d+c / 4294967296)%4294967296+e) / 4294967296:Nat):Int))=((N / 18446744073709551616:Nat):Int):=by
  rw [jW _ (by omega) (by omega)];omega
 rw [w8]
theorem RP (n a b:Nat) (l:a<9223372036854775808) (k:b<9223372036854775808):tK n (a:Int) (b:Int)=some (if a*b<9223372036854775808 then (((a*b:Nat):Int),0) else (0,15)):=by
 have f:decide ((a:Int)<0)=false:=aq (by omega);have i:decide ((b:Int)<0)=false:=aq (by omega);have j:IntKind.wrap .u64 (a:Int)=a:=jW _ (by omega) (by omega);have g:IntKind.wrap .u64 (b:Int)=b:=jW _ (by omega) (by omega);simp only [tK,ru,f,i,ae,j,g,ob,SL n a b (by omega) (by omega)];generalize a*b=N;by_cases h:18446744073709551616<=N
 ·have c:decide (((N / 18446744073709551616:Nat):Int)>0)=true:=ar (by omega);rw [c,ab (by omega)];rfl
 ·have c:decide (((N / 18446744073709551616:Nat):Int)>0)=false:=aq (by omega);have e:N%18446744073709551616=N:=ov (by omega);rw [c,e];simp only [ae,BEq.rfl,eG,qD,ko,aj];by_cases d:N<9223372036854775808
  ·have d4:decide (((N:Nat):Int)<=9223372036854775807)=true:=ar (by omega);rw [d4,ad d,aj,wrap_i64 _ (by omega) (by omega)]
  ·have d4:decide (((N:Nat):Int)<=9223372036854775807)=false:=aq (by omega);rw [d4,ab d,ae]
def E16:Nat:=10000000000000000
theorem OE {x:Nat} (hx:17<=x):E16<10 ^ x:=by
 have:(10:Nat) ^ 17<=10 ^ x:=jI (by decide) hx;have a:(10:Nat) ^ 17=100000000000000000:=by decide
 unfold E16;omega
theorem HW (n:Nat) (g l:Bool) (d:aa) (x:Nat) (s:Int) (f:∀c∈d,cM c=true) (m:d≠[]) (i:d.length<=17) (hx:x<=18) (j:18<n):
  dw n g l d (x:Int) s=some (if dval 0 d*10 ^ x<=E16 then (((dval 0 d*10 ^ x:Nat):Int),0) else (0,6)):=by
 obtain ⟨q,e⟩:=FA f m (by omega);have r:dval 0 d<10 ^ 17:=mH e (jI (by decide) i);have hp:(10:Nat) ^ x<=10 ^ 18:=jI (by decide) hx;have o:(10:Nat) ^ 17=100000000000000000:=by decide
 have k:(10:Nat) ^ 18=1000000000000000000:=by decide
 have p:Nat.ble d.length 9223372036854775806=true:=cU (by omega);simp only [dw,p,aj,q,ob,J5 n x hx j,eH,ae,RP n _ _ (show dval 0 d<9223372036854775808 by omega) (show 10 ^ x<9223372036854775808 by omega)];generalize dval 0 d*10 ^ x=N;unfold E16;by_cases h:N<9223372036854775808
 ·rw [ad h];simp only [eH,ae];by_cases b:N<=10000000000000000
  ·have a:decide (((N:Nat):Int)>10000000000000000)=false:=aq (by omega);rw [a,ad b,ae]
  ·have a:decide (((N:Nat):Int)>10000000000000000)=true:=ar (by omega);rw [a,ab b,aj]
 ·rw [ab h,ab (by omega)];rfl
def pre (d:aa) (i:Nat):Nat:=dval 0 (d.take i)*10 ^ (i - d.length)
theorem Nn {d:aa} {i:Nat} {c:UInt8} (h:d[i]?=some c):pre d (i+1)=10*pre d i+(c.toNat - 48):=by
 have a:=wg h;unfold pre;rw [nT,h,show i+1 - d.length=0 by omega,show i - d.length=0 by omega];simp only [Option.toList,Ea,yl,ow];omega
theorem MZ {d:aa} {i:Nat} (h:d.length<=i):pre d (i+1)=10*pre d i:=by
 unfold pre;rw [gX (show d.length<=i+1 by omega),gX h,show i+1 - d.length=(i - d.length)+1 by omega,qt];rw [<-Bj];omega
theorem EO (d:aa):∀k i,pre d i<=pre d (i+k)
 | 0,i=>aW _
 | k+1,i=>by
  have ih:=EO d k i;rcases aH (i+k) d.length with a | b
  ·have:=Nn (bH a);rw [show i+(k+1)=i+k+1 by omega,this];omega
  ·have:=MZ b;rw [show i+(k+1)=i+k+1 by omega,this];omega
theorem iG (n:Nat) (d:aa) (x:Nat) (o:∀c∈d,cM c=true) (v:d.length<=100) (hx:x<=100) (w:d.length+x<n):
  ak n d (x:Int)=some (if dval 0 d*10 ^ x<=E16 then (((dval 0 d*10 ^ x:Nat):Int),1) else (0,0)):=by
 have a:pre d (d.length+x)=dval 0 d*10 ^ x:=by
  unfold pre;rw [gX (by omega),show d.length+x - d.length=x by omega]
 have w0:IntKind.wrap .i64 (((d.length:Nat):Int)+(x:Int))=((d.length+x:Nat):Int):=by rw [wrap_i64 _ (by omega) (by omega)];omega
 have:=gv (step:=ed n) (λq=>∃i:Nat,i<=d.length+x/\pre d i<=E16/\q=(d,(x:Int),((pre d i:Nat):Int),(i:Int))) (λq=>d.length+x - q.2.2.2.toNat) (λ_=>if dval 0 d*10 ^ x<=E16 then .inr ((dval 0 d*10 ^ x:Nat):Int) else .inl (0,0)) (by
  rintro q ⟨i,hi,hp,rfl⟩;simp only [ed,w0,lT];unfold E16 at hp ⊢;have t:IntKind.wrap .i64 ((i:Int)+1)=((i+1:Nat):Int):=by rw [wrap_i64 _ (by omega) (by omega)];omega
  have r:IntKind.wrap .i64 (10*((pre d i:Nat):Int))=((10*pre d i:Nat):Int):=by rw [wrap_i64 _ (by omega) (by omega)];omega
  by_cases g:i<d.length+x
  ·have s:=EO d (d.length+x - (i+1)) (i+1);rw [show i+1+(d.length+x - (i+1))=d.length+x by omega,a] at s;simp only [g,np,aj,t,r];rcases aH i d.length with e | k
   ·obtain ⟨c,hc⟩:∃c,d[i]?=some c:=⟨d[i],bH e⟩;have l:=(gx c).1 (o c (dT hc));have hs:=Nn hc;have p:IntKind.wrap .u8 (((c.toNat:Nat):Int) - 48)=((c.toNat - 48:Nat):Int):=by rw [eY _ (by omega) (by omega)];omega
    have m:IntKind.wrap .i64 ((c.toNat - 48:Nat):Int)=((c.toNat - 48:Nat):Int):=wrap_i64 _ (by omega) (by omega);have u:IntKind.wrap .i64 (((10*pre d i:Nat):Int)+((c.toNat - 48:Nat):Int))=((pre d (i+1):Nat):Int):=by rw [wrap_i64 _ (by omega) (by omega)];omega
    simp only [e,np,aj,lr hc,ob,p,m,u];by_cases f:pre d (i+1)<=10000000000000000
    ·have b:decide (((pre d (i+1):Nat):Int)>10000000000000000)=false:=aq (by omega);simp only [b,ae];exact .inl ⟨_,rfl,⟨i+1,g,f,rfl⟩,by simp only [bY];omega,trivial⟩
    ·have b:decide (((pre d (i+1):Nat):Int)>10000000000000000)=true:=ar (by omega);simp only [b,aj];rw [ab (by omega)];exact .inr rfl
   ·have hs:=MZ k;have j:¬i<d.length:=by omega
    simp only [j,ny,ae];rw [<-hs];by_cases f:pre d (i+1)<=10000000000000000
    ·have b:decide (((pre d (i+1):Nat):Int)>10000000000000000)=false:=aq (by omega);simp only [b,ae];exact .inl ⟨_,rfl,⟨i+1,g,f,rfl⟩,by simp only [bY];omega,trivial⟩
    ·have b:decide (((pre d (i+1):Nat):Int)>10000000000000000)=true:=ar (by omega);simp only [b,aj];rw [ab (by omega)];exact .inr rfl
  ·have:i=d.length+x:=by omega
   subst this;simp only [BN,ny,ae];rw [a] at hp ⊢;rw [ad hp];exact .inr rfl) n (d,(x:Int),0,0) ⟨0,by omega,by unfold pre E16;simp [nB],by unfold pre;simp [nB]⟩ (by simp;omega)
 simp only [ak,this,ob];by_cases h:dval 0 d*10 ^ x<=E16
 ·rw [ad h,ad h]
 ·rw [ab h,ab h]
def okM (d:aa) (x:Int):Prop:=(∀c∈d,cM c=true)/\1<=d.length/\d.length<=17/\d.head?≠some 48/\0<=x/\x<=16/\¬(x=0/\d.length<5)/\dval 0 d*10 ^ x.toNat<=E16
def okL (d:aa) (x s:Int):Prop:=okM d x/\0<=s/\s<=(d.length:Int)+x
def okS (g:Bool) (d:aa) (x s:Int):Prop:=d.length=4/\(∀c∈d,cM c=true\/c=88)/\x=0/\¬(g=true/\all0 d=true)/\0<=s/\s<=4/\¬(0<s/\hasX d=true)
def okY (g l:Bool) (d:aa) (x s:Int):Prop:=if l=true then okL d x s else okS g d x s
instance (d:aa) (x:Int):Decidable (okM d x):=by unfold okM;infer_instance
instance (d:aa) (x s:Int):Decidable (okL d x s):=by unfold okL;infer_instance
instance (g:Bool) (d:aa) (x s:Int):Decidable (okS g d x s):=by unfold okS;infer_instance
instance (g l:Bool) (d:aa) (x s:Int):Decidable (okY g l d x s):=by unfold okY;infer_instance
theorem IC (d:aa):d.all cM=true↔∀c∈d,cM c=true:=cr
theorem C7 (d:aa):(d.all λc=>cM c||c==88)=true↔∀c∈d,cM c=true\/c=88:=by
 rw [cr];constructor
 ·intro h c hc;have:=h c hc;simpa using this
 ·intro h c hc;have:=h c hc;simpa using this
theorem Qy (c:UInt8):(((c.toNat:Nat):Int)==48)=(c==48):=DD c 48
theorem OX (n:Nat) (g l:Bool) (d:aa) (x s:Int) (B:200<n) (A:d.length<=100):aU n g l d x s=some (decide (okM d x)):=by
 unfold aU;by_cases y:d.length<1
 ·have e:decide (((d.length:Nat):Int)<1)=true:=ar (by omega);rw [e,aq (λh:okM d x=>by have:=h.2.1;omega)];rfl
 ·have e:decide (((d.length:Nat):Int)<1)=false:=aq (by omega);rw [e,ae];by_cases z:d.length>17
  ·have e:decide (((d.length:Nat):Int)>17)=true:=ar (by omega);rw [e,aq (λh:okM d x=>by have:=h.2.2.1;omega)];rfl
  ·have e:decide (((d.length:Nat):Int)>17)=false:=aq (by omega);rw [e,ae,HN n d (by omega) (by omega)];simp only [ob];cases o:d.all cM with
   | false=>
    rw [aq (λh:okM d x=>by rw [(IC d).2 h.1] at o;cases o)];rfl
   | true=>
    have a:=(IC d).1 o;obtain ⟨c,r,rfl⟩:∃c r,d=c::r:=by
     cases d with
     | nil=>simp at y
     | cons c r=>exact ⟨c,r,rfl⟩
    have t:sx (c::r) 0=some c:=by simp [sx]
    simp only [eG,ae,t,Qy];by_cases m:c=48
    ·rw [aq (λh:okM (c::r) x=>h.2.2.2.1 (by rw [m];rfl)),m];rfl
    ·have e:(c==48)=false:=aL.2 m;rw [e,ae];by_cases u:x<0
     ·rw [ar u,aq (λh:okM (c::r) x=>by have:=h.2.2.2.2.1;omega)];rfl
     ·rw [aq u,ae];by_cases w:x>16
      ·rw [ar w,aq (λh:okM (c::r) x=>by have:=h.2.2.2.2.2.1;omega)];rfl
      ·rw [aq w,ae];obtain ⟨k,rfl⟩:∃k:Nat,x=(k:Int):=⟨x.toNat,by omega⟩;have p:=HW n g l (c::r) k s a (by simp) (by omega) (by omega) (by omega);rw [p];have key:¬((k:Int)=0/\(c::r).length<5)->(okM (c::r) (k:Int)↔dval 0 (c::r)*10 ^ k<=E16):=by
        intro f;constructor
        ·intro h;simpa using h.2.2.2.2.2.2.2
        ·intro h;exact ⟨a,by omega,by omega,by simpa using m,by omega,by omega,f,by simpa using h⟩
       have b:¬((k:Int)=0/\(c::r).length<5)->(ob (some (if dval 0 (c::r)*10 ^ k<=E16 then (((dval 0 (c::r)*10 ^ k:Nat):Int),(0:Int)) else (0,6))) λq=>(some (q.2==0)))=some (decide (okM (c::r) (k:Int))):=by
        intro f;by_cases j:dval 0 (c::r)*10 ^ k<=E16
        ·rw [ad j,ar ((key f).2 j)];rfl
        ·rw [ab j,aq (λh=>j ((key f).1 h))];rfl
       by_cases i:(k:Int)=0
       ·have e:((k:Int)==0)=true:=bU.2 i;rw [e,aj];by_cases v:(c::r).length<5
        ·have e:decide ((((c::r).length:Nat):Int)<5)=true:=ar (by omega);rw [e,aq (λh:okM (c::r) (k:Int)=>h.2.2.2.2.2.2.1 ⟨i,v⟩)];rfl
        ·have e:decide ((((c::r).length:Nat):Int)<5)=false:=aq (by omega);rw [e,ae];exact b (λh=>v h.2)
       ·have e:((k:Int)==0)=false:=aL.2 i;rw [e,ae];exact b (λh=>i h.1)
theorem Lo (n:Nat) (g l:Bool) (d:aa) (x s:Int) (e:200<n) (c:d.length<=100):
  (ob (aU n g l d x s) λr=>(cond (!r) (some (6:Int)) (cond (decide (s<0)) (some 6) (cond (decide (s>(IntKind.wrap .i64 (((d.length:Nat):Int)+x)))) (some 6) (some 0)))))=some (if okL d x s then 0 else 6):=by
 rw [OX n g l d x s e c];simp only [ob];by_cases h:okM d x
 ·rw [ar h];have hx:=h.2.2.2.2;have w:IntKind.wrap .i64 (((d.length:Nat):Int)+x)=((d.length:Nat):Int)+x:=wrap_i64 _ (by omega) (by omega);rw [w];simp only [eG,ae,bM];by_cases b:s<0
  ·rw [ad b,ab (λq:okL d x s=>by have:=q.2.1;omega)]
  ·rw [ab b];by_cases a:s>((d.length:Nat):Int)+x
   ·rw [ad a,ab (λq:okL d x s=>by have:=q.2.2;omega)]
   ·rw [ab a,ad ⟨h,by omega,by omega⟩]
 ·rw [aq h,ab (λq:okL d x s=>h q.1)];rfl
theorem yH (n:Nat) (g l:Bool) (d:aa) (x s:Int) (A:200<n) (v:d.length<=100):cf n g l d x s=some (if okY g l d x s then 0 else 6):=by
 obtain ⟨y,z,hy⟩:=Px n d (by omega) (by omega);unfold cf;rw [FM n d (by omega) (by omega),z,rE];cases l with
 | true=>
  have b:(if okY g true d x s then (0:Int) else 6)=if okL d x s then 0 else 6:=by simp only [okY,aY]
  rw [b];have st:=Lo n g true d x s A v;simp only [aj];generalize (ob (aU n g true d x s) λr=>(cond (!r) (some (6:Int)) (cond (decide (s<0)) (some 6) (cond (decide (s>(IntKind.wrap .i64 (((d.length:Nat):Int)+x)))) (some 6) (some 0)))))=T at st ⊢;simp only [ob];rw [st];cases (((d.length:Nat):Int)==4)<;>cases (d.all λc=>cM c||c==88)<;>cases (x==0)<;>cases g<;>cases (y==[])<;>cases (s != 0)<;>rfl
 | false=>
  have b:(if okY g false d x s then (0:Int) else 6)=if okS g d x s then 0 else 6:=by simp only [okY,cE,aG]
  rw [b];simp only [ae,ob];by_cases f:d.length=4
  ·have m:(((d.length:Nat):Int)==4)=true:=bU.2 (by omega);rw [m,aj];cases h:(d.all λc=>cM c||c==88) with
   | false=>
    rw [ab (λq:okS g d x s=>by rw [(C7 d).2 q.2.1] at h;cases h)];rfl
   | true=>
    have e:=(C7 d).1 h;rw [aj];by_cases i:x=0
    ·subst i;have w:IntKind.wrap .i64 (((d.length:Nat):Int)+0)=4:=by rw [f];decide
     rw [w];have a:¬(g=true/\all0 d=true)->(cond (s != 0) (cond (!(!hasX d)) (some (6:Int)) (cond (decide (s<0)) (some 6) (cond (decide (s>4)) (some 6) (some 0)))) (cond (decide (s<0)) (some 6) (cond (decide (s>4)) (some 6) (some 0))))=some (if okS g d 0 s then 0 else 6):=by
      intro p;simp only [bM,tJ,Bool.not_not];by_cases s0:s=0
      ·subst s0;rw [ad rfl,ab (by omega),ab (by omega),ad ⟨f,e,rfl,p,by omega,by omega,by omega⟩]
      ·rw [ab s0];cases u:hasX d with
       | true=>
        by_cases j:s<0
        ·rw [ab (λq:okS g d 0 s=>by have:=q.2.2.2.2.1;omega)];rfl
        ·rw [ab (λq:okS g d 0 s=>q.2.2.2.2.2.2 ⟨by omega,u⟩)];rfl
       | false=>
        rw [ae];by_cases j:s<0
        ·rw [ad j,ab (λq:okS g d 0 s=>by have:=q.2.2.2.2.1;omega)]
        ·rw [ab j];by_cases o:s>4
         ·rw [ad o,ab (λq:okS g d 0 s=>by have:=q.2.2.2.2.2.1;omega)]
         ·rw [ab o,ad ⟨f,e,rfl,p,by omega,by omega,λq=>by rw [u] at q;cases q.2⟩]
     have k:((0:Int)==0)=true:=rfl;rw [k,aj];cases g with
     | false=>
      simp only [ae];exact a (by simp)
     | true=>
      simp only [aj];rw [hy];cases t:all0 d with
      | true=>rw [ab (λq:okS true d 0 s=>q.2.2.2.1 ⟨rfl,t⟩)];rfl
      | false=>
       simp only [ko,aj];exact a (by rw [t];simp)
    ·have k:(x==0)=false:=aL.2 i;rw [k,ab (λq:okS g d x s=>i q.2.2.1)];rfl
  ·have m:(((d.length:Nat):Int)==4)=false:=aL.2 (by omega);rw [m,ab (λq:okS g d x s=>f q.1)];rfl
theorem OK (d:aa):cnt 48 57 d=d.length↔∀c∈d,cM c=true:=HU 48 57 d
theorem zj (n:Nat) (g l:Bool) (d:aa) (x s:Int) (L:200<n) (I:d.length<=100):cg n g l d x s=some (if okY g l d x s then 1 else 0):=by
 have hs:=Iu d;have w:=Do d;have u:=Kw d;have p:=OK d;unfold cg;rw [Eh n d 48 57 (by omega) (by omega),Eh n d 88 88 (by omega) (by omega),Eh n d 48 48 (by omega) (by omega)];simp only [ob];generalize N:cnt 48 57 d=A at *;generalize M:cnt 88 88 d=B at *;have w0:IntKind.wrap .i64 (((A:Nat):Int)+((B:Nat):Int))=((A+B:Nat):Int):=by rw [wrap_i64 _ (by omega) (by omega)];omega
 rw [w0];simp only [tJ,bM,L6];by_cases z:A+B=d.length
 ·rw [ad (by omega)];have m:=hs.2.1 z;by_cases G:s<0
  ·rw [ad G,ab];intro q;unfold okY at q;split at q
   ·have:=q.2.1;omega
   ·have:=q.2.2.2.2.1;omega
  ·rw [ab G];cases l with
   | false=>
    have i:(if okY g false d x s then (1:Int) else 0)=if okS g d x s then 1 else 0:=by simp only [okY,cE,aG]
    rw [i,ae];by_cases j:d.length=4
    ·rw [ad (by omega)];by_cases f:x=0
     ·rw [ad f];have a:¬(g=true/\all0 d=true)->(if s>4 then some (0:Int) else if s>0 then (if ((B:Nat):Int)>0 then some 0 else some 1) else some 1)=some (if okS g d x s then 1 else 0):=by
       intro E;by_cases o:s>4
       ·rw [ad o,ab (λq:okS g d x s=>by have:=q.2.2.2.2.2.1;omega)]
       ·rw [ab o];by_cases D:s>0
        ·rw [ad D];by_cases v:((B:Nat):Int)>0
         ·rw [ad v,ab (λq:okS g d x s=>q.2.2.2.2.2.2 ⟨by omega,by rw [w];exact ar (by omega)⟩)]
         ·rw [ab v,ad ⟨j,m,f,E,by omega,by omega,λq=>by
           have:=q.2;rw [w,cj] at this;omega⟩]
        ·rw [ab D,ad ⟨j,m,f,E,by omega,by omega,λq=>by omega⟩]
      cases g with
      | false=>rw [ae];exact a (by simp)
      | true=>
       rw [aj,iH];by_cases b:all0 d=true
       ·rw [ad (by have:=u.1 b;omega),ab (λq:okS true d x s=>q.2.2.2.1 ⟨rfl,b⟩)]
       ·rw [ab (λq=>b (u.2 (by omega)))];exact a (λq=>b q.2)
     ·rw [ab f,ab (λq:okS g d x s=>f q.2.2.1)]
    ·rw [ab (by omega),ab (λq:okS g d x s=>j q.1)]
   | true=>
    have i:(if okY g true d x s then (1:Int) else 0)=if okL d x s then 1 else 0:=by simp only [okY,aY]
    rw [i,aj];by_cases v:((B:Nat):Int)>0
    ·rw [ad v,ab];intro q;have:=p.2 q.1.1;omega
    ·rw [ab v];have h:=p.1 (by omega);by_cases j:((A:Nat):Int)<1
     ·rw [ad j,ab (λq:okL d x s=>by have:=q.1.2.1;omega)]
     ·rw [ab j];by_cases f:((A:Nat):Int)>17
      ·rw [ad f,ab (λq:okL d x s=>by have:=q.1.2.2.1;omega)]
      ·rw [ab f];obtain ⟨c,r,rfl⟩:∃c r,d=c::r:=by
        cases d with
        | nil=>simp at z;omega
        | cons c r=>exact ⟨c,r,rfl⟩
       have y:sx (c::r) 0=some c:=by simp [sx]
       simp only [y,Qy,iH];by_cases b:c=48
       ·rw [ad b,ab (λq:okL (c::r) x s=>q.1.2.2.2.1 (by rw [b];rfl))]
       ·rw [ab b];by_cases F:x<0
        ·rw [ad F,ab (λq:okL (c::r) x s=>by have:=q.1.2.2.2.2.1;omega)]
        ·rw [ab F];by_cases H:x>16
         ·rw [ad H,ab (λq:okL (c::r) x s=>by have:=q.1.2.2.2.2.2.1;omega)]
         ·rw [ab H];obtain ⟨k,rfl⟩:∃k:Nat,x=(k:Int):=⟨x.toNat,by omega⟩;have K:IntKind.wrap .i64 (((A:Nat):Int)+(k:Int))=((A+k:Nat):Int):=by rw [wrap_i64 _ (by omega) (by omega)];omega
          rw [K,iG n (c::r) k h I (by omega) (by omega)];have t:(c::r).length=A:=by omega
          have a:¬((k:Int)=0/\(c::r).length<5)->(if s>((A+k:Nat):Int) then some (0:Int) else some (if dval 0 (c::r)*10 ^ k<=E16 then (((dval 0 (c::r)*10 ^ k:Nat):Int),(1:Int)) else (0,0)).2)=some (if okL (c::r) (k:Int) s then 1 else 0):=by
           intro J;by_cases o:s>((A+k:Nat):Int)
           ·rw [ad o,ab (λq:okL (c::r) (k:Int) s=>by have:=q.2.2;rw [t] at this;omega)]
           ·rw [ab o];by_cases e:dval 0 (c::r)*10 ^ k<=E16
            ·rw [ad e,ad ⟨⟨h,by omega,by omega,by simpa using b,by omega,by omega,J,by simpa using e⟩,by omega,by omega⟩]
            ·rw [ab e,ab (λq:okL (c::r) (k:Int) s=>e (by simpa using q.1.2.2.2.2.2.2.2))]
          by_cases e:(k:Int)=0
          ·rw [ad e];by_cases C:((A:Nat):Int)<5
           ·rw [ad C,ab (λq:okL (c::r) (k:Int) s=>q.1.2.2.2.2.2.2.1 ⟨e,by omega⟩)]
           ·rw [ab C];exact a (λq=>by omega)
          ·rw [ab e];exact a (λq=>e q.1)
 ·rw [ab (by omega),ab];intro q;apply z;rw [hs.2];unfold okY at q;split at q
  ·exact λc hc=>.inl (q.1.1 c hc)
  ·exact q.2.1
theorem GT:∀(l:aa) (a:Nat),a*10 ^ l.length<=dval a l
 | [],a=>by rw [nB];simp
 | c::l,a=>by
  have ih:=GT l (tC a c);rw [mZ,aS,qt];have h:a*10<=tC a c:=Nat.le_add_right _ _;have b:=mK (10 ^ l.length) h;have d:a*(10 ^ l.length*10)=a*10*10 ^ l.length:=by rw [sQ (10 ^ l.length) 10,Bj]
  omega
theorem oy:∀(l:aa) (a k:Nat),(∀c∈l,cM c=true)->a<10 ^ k->dval a l<10 ^ (l.length+k)
 | [],a,k,_,h=>by rw [nB];simpa using h
 | c::l,a,k,e,h=>by
  have hc:=(gx c).1 (e c (by simp));have hp:(10:Nat) ^ (k+1)=10 ^ k*10:=qt 10 k;have hs:tC a c=a*10+(c.toNat - 48):=rfl;have ih:=oy l (tC a c) (k+1) (λd b=>e d (by simp [b])) (by omega);rw [mZ,aS,show l.length+1+k=l.length+(k+1) by omega];exact ih
structure Num (d:aa) (k q:Nat):Prop where
 dig:∀c∈d,cM c=true
 ne:d≠[]
 wide:d.length+k<=17
 small:dval 0 d*10 ^ k<=E16
 sig:q<=d.length+k
theorem rF {d:aa} (h:∀c∈d,cM c=true):hasX d=false:=by
 unfold hasX;rw [qY];intro c hc a;rw [bU] at a;have:=(gx c).1 (h c hc);rw [a] at this;exact absurd this.2 (by decide)
theorem qj {g l:Bool} {d:aa} {x s:Int} (h:okY g l d x s) (p:hasX d=false):∃k q:Nat,x=(k:Int)/\s=(q:Int)/\Num d k q:=by
 cases l with
 | true=>
  have h:okL d x s:=by simpa [okY] using h
  obtain ⟨⟨b,f,v,o,z,A,C,B⟩,u,w⟩:=h;refine ⟨x.toNat,s.toNat,by omega,by omega,b,by intro e;subst e;simp at f,?_,B,by omega⟩;cases d with
  | nil=>simp at f
  | cons c r=>
   have hc:=(gx c).1 (b c (by simp));have j:c≠48:=by simpa using o
   have i:1<=tC 0 c:=by
    have:c.toNat≠48:=λe=>j (jf.1 e);show 1<=0*10+(c.toNat - 48);omega
   have y:=GT r (tC 0 c);rw [<-mZ] at y;have u:10 ^ r.length<=dval 0 (c::r):=by
    have:=mK (10 ^ r.length) i;omega
   have n:=mK (10 ^ x.toNat) u;rw [<-Nat.pow_add] at n;rcases aH (r.length+x.toNat) 17 with a | m
   ·simp only [aS];omega
   ·have:=OE m;omega
 | false=>
  have h:okS g d x s:=by simpa [okY] using h
  obtain ⟨b,f,v,o,z,A,C⟩:=h;have t:∀c∈d,cM c=true:=by
   intro c hc;rcases f c hc with h | h
   ·exact h
   ·exfalso;unfold hasX at p;rw [qY] at p;exact p c hc (bU.2 h)
  have a:=oy d 0 0 t (by simp);rw [b] at a;refine ⟨0,s.toNat,by omega,by omega,t,by intro e;subst e;simp at b,by omega,?_,by omega⟩;have o:(10:Nat) ^ (4+0)=10000:=by decide
  unfold E16;simp only [yl,ow];omega
def val (d:aa) (k:Nat):Nat:=dval 0 d*10 ^ k
theorem xR (n:Nat) (g l:Bool) (d:aa) (x s:Int) (e:200<n) (c:d.length<=100):
  dF n g l d x s=some (if okY g l d x s/\hasX d=false then (if g then -((val d x.toNat:Nat):Int) else ((val d x.toNat:Nat):Int),0) else (0,6)):=by
 unfold dF;rw [yH n g l d x s e c,rE];simp only [ob];by_cases h:okY g l d x s
 ·rw [ad h];cases b:hasX d with
  | true=>rw [ab (by simp)];rfl
  | false=>
   rw [ad ⟨h,rfl⟩];obtain ⟨k,q,rfl,rfl,a⟩:=qj h b;rw [HW n g l d k q a.dig a.ne (by have:=a.wide;omega) (by have:=a.wide;omega) (by omega),ad a.small];have hs:=a.small;unfold E16 at hs;cases g with
   | true=>
    simp only [eH,ae,aj,bY,val,aY];rw [wrap_i64 _ (by omega) (by omega),wV]
   | false=>simp [val]
 ·rw [ab h,ab (λq=>h q.1)];rfl
theorem bN {a b:aa} (h:a.length+b.length<=1000000):cat a b=some (a++b):=by
 unfold cat;rw [ad (by omega)]
theorem cut1 {l:aa} {i:Nat} {c:UInt8} (h:l[i]?=some c):List.drop i (List.take (i+1) l)=[c]:=by
 have a:=wg h;rw [nT,h,List.drop_left' (by rw [dx];omega)];rfl
theorem NE {l:aa} {i:Nat} {c:UInt8} (h:l[i]?=some c):List.take (i+1) l=List.take i l++[c]:=by
 rw [nT,h];rfl
theorem oz {g l:Bool} {d:aa} {x s:Int} (h:okY g l d x s) (a:hasX d=true):l=false/\x=0/\s=0/\d.length=4/\∀c∈d,cM c=true\/c=88:=by
 cases l with
 | true=>
  have h:okL d x s:=by simpa [okY] using h
  rw [rF h.1.1] at a;cases a
 | false=>
  have h:okS g d x s:=by simpa [okY] using h
  obtain ⟨j,b,f,n,k,m,i⟩:=h;refine ⟨rfl,f,?_,j,b⟩;have:¬0<s:=λe=>i ⟨e,a⟩;omega
theorem jF {g l:Bool} {d:aa} {x s:Int} (h:okY g l d x s):0<=x/\x<=16/\0<=s/\s<=17/\1<=d.length/\d.length<=17:=by
 cases b:hasX d with
 | true=>
  obtain ⟨rfl,rfl,rfl,i,_⟩:=oz h b;omega
 | false=>
  obtain ⟨k,q,rfl,rfl,a⟩:=qj h b;have j:=a.wide;have e:=a.sig;have f:1<=d.length:=by
   cases d with
   | nil=>exact absurd rfl a.ne
   | cons c r=>simp
  omega
theorem ID {g l:Bool} {d:aa} {x s:Int} (h:okY g l d x s):th d x s=true:=by
 obtain ⟨i,a,b,f,c,e⟩:=jF h;unfold th;rw [ar (by omega),cU (by omega)];rfl
theorem sY {c:UInt8} (h:48<=c.toNat/\c.toNat<=57):Lib.digitVal c=some (c.toNat - 48):=by
 unfold Lib.digitVal;rw [ad h]
theorem Gh {c:UInt8} (h:48<=c.toNat/\c.toNat<=57) (r:aa):Lib.atoi (c::r)=(Lib.decNat (c::r)).map λ(m:Nat)=>(m:Int):=by
 have b:(c==45)=false:=by
  rw [aL];rintro rfl;exact absurd h.1 (by decide)
 have a:(c==43)=false:=by
  rw [aL];rintro rfl;exact absurd h.1 (by decide)
 simp only [Lib.atoi,b,a,cE,aG]
theorem Ko {c e:UInt8} (h:48<=c.toNat/\c.toNat<=57) (a:48<=e.toNat/\e.toNat<=57):Lib.atoi [c,e]=some ((10*(c.toNat - 48)+(e.toNat - 48):Nat):Int):=by
 rw [Gh h];simp only [Lib.decNat,List.isEmpty_cons,cE,aG,Lib.decFrom,sY h,sY a,ee,Nat.zero_mul,cV];rw [sQ]
def isDX (c:UInt8):Bool:=cM c||c==88
def wint (c:Int):Bool:=c==24||c==28||c==30
def pg (g:Bool) (d:aa) (x:Int):Bool:=!hasX d&&!g&&decide (val d x.toNat=E16)
def yrB (g:Bool) (d:aa) (x s:Int) (m:aa):Bool:=!(decide (0<s)&&!(m==[]))&&!(wint (sea m)&&pg g d x)
theorem zP (n:Nat) (s:200<n) (g l:Bool) (dg:aa) (x q:Int) (m d:aa) (k0 k1 k2:Int) (v:m.length<=18) (p:dg.length<=100):
  ew n g l dg x q m d k0 k1 k2=some (if okY g l dg x q then yrB g dg x q m else false):=by
 unfold ew;rw [yH n g l dg x q s p,rh n g l dg x q m d k0 k1 k2 v,rE,xR n g l dg x q s p];by_cases h:okY g l dg x q
 rotate_left
 ·rw [ab h,ab h];rfl
 rw [ad h,ad h];have body:(ob (some (sea m,decide (0<sea m))) λr=>(cond (!r.2) (some true) (ob (some (hasX dg)) λy=>(cond y (some true) (ob (some (if okY g l dg x q/\hasX dg=false then (if g then -((val dg x.toNat:Nat):Int) else ((val dg x.toNat:Nat):Int),(0:Int)) else (0,6))) λD=>(ob (gq n D.1 r.1) λF=>(some (F.2.2.2.2==0))))))))=some (!(wint (sea m)&&pg g dg x)):=by
  rcases mM m with A | ⟨j,t,rfl⟩
  ·rw [A];rfl
  ·have hs:=jB t;rw [hs];have hp:decide (0<((21+j:Nat):Int))=true:=by simp;omega
   rw [hp];cases o:hasX dg with
   | true=>
    have:pg g dg x=false:=by unfold pg;rw [o];rfl
    rw [this,EM];rfl
   | false=>
    rw [ad ⟨h,rfl⟩];obtain ⟨k,G,rfl,rfl,E⟩:=qj h o;have B:val dg k<=E16:=E.small;unfold E16 at B;have hc:dl (if g then -((val dg k:Nat):Int) else ((val dg k:Nat):Int)):=by
     unfold dl;cases g<;>simp<;>omega
    obtain ⟨a,b,c,e,C⟩:=R9 n (by omega) hc t;simp only [ob,eG,ae,bY];rw [C];simp only [am];have u:wint ((21+j:Nat):Int)=decide (j=3\/j=7\/j=9):=by
     unfold wint;rw [Eg];simp only [gC,bU,cj];omega
    have w:pg g dg (k:Int)=decide ((if g then -((val dg k:Nat):Int) else ((val dg k:Nat):Int))=10000000000000000):=by
     unfold pg E16;rw [o,bY];cases g
     ·simp only [ko,lZ,cE,aG,qA];omega
     ·simp;omega
    rw [u,w];by_cases f:(if g then -((val dg k:Nat):Int) else ((val dg k:Nat):Int))=10000000000000000<;>by_cases i:j=3\/j=7\/j=9
    ·rw [ad ⟨f,i⟩,ar f,ar i];rfl
    ·rw [ab (λz=>i z.2),aq i];rfl
    ·rw [ab (λz=>f z.1),aq f,EM];rfl
    ·rw [ab (λz=>f z.1),aq f,EM];rfl
 show cond (decide (q>0)) (cond (!(m==[])) (some false) _) _=_;unfold yrB;rw [show (decide (q>0))=decide (0<q) from rfl];cases decide (0<q) with
 | false=>exact body
 | true=>
  cases (m==[]) with
  | false=>rfl
  | true=>exact body
theorem JY (n:Nat) (i:200<n) (g l:Bool) (dg:aa) (x q:Int) (m d:aa) (k0 k1 k2:Int) (f:dg.length<=100):
  ic n g l dg x q m d k0 k1 k2=some (if okY g l dg x q/\yrB g dg x q m=true then 1 else 0):=by
 unfold ic;rw [zj n g l dg x q i f,kF n (by omega) g l dg x q m d k0 k1 k2,ng n g l dg x q (by omega) (by omega)];by_cases h:okY g l dg x q
 rotate_left
 ·rw [ab h,ab (show ¬(okY g l dg x q/\yrB g dg x q m=true) from λz=>h z.1)];rfl
 rw [ad h];have T:(ob (some (if hasX dg then (1:Int) else 0)) λr=>(cond (r==1) (some (1:Int)) (ob (ak n dg x) λv=>(cond (v.1==10000000000000000) (cond (!g) (some 0) (some 1)) (some 1)))))=some (if pg g dg x then 0 else 1):=by
  cases b:hasX dg with
  | true=>
   have:pg g dg x=false:=by unfold pg;rw [b];rfl
   rw [this];rfl
  | false=>
   obtain ⟨k,p,rfl,rfl,a⟩:=qj h b;have j:=a.small;have o:=a.wide;have c:=iG n dg k a.dig (by omega) (by omega) (by omega);rw [ad j] at c;show ob (ak n dg (k:Int)) _=_;rw [c];show cond (((dval 0 dg*10 ^ k:Nat):Int)==10000000000000000) _ _=_;unfold pg val;rw [b,bY];have e:(((dval 0 dg*10 ^ k:Nat):Int)==10000000000000000)=decide (dval 0 dg*10 ^ k=E16):=by
    generalize dval 0 dg*10 ^ k=v;unfold E16;rw [Eg];simp only [bU,cj];omega
   rw [e];cases decide (dval 0 dg*10 ^ k=E16)<;>cases g<;>rfl
 have body:(ob (some (sea m)) λr=>(cond (r != 24) (cond (r != 28) (cond (r != 30) (some (1:Int)) (ob (some (if hasX dg then (1:Int) else 0)) λr=>(cond (r==1) (some (1:Int)) (ob (ak n dg x) λv=>(cond (v.1==10000000000000000) (cond (!g) (some 0) (some 1)) (some 1)))))) (ob (some (if hasX dg then (1:Int) else 0)) λr=>(cond (r==1) (some (1:Int)) (ob (ak n dg x) λv=>(cond (v.1==10000000000000000) (cond (!g) (some 0) (some 1)) (some 1)))))) (ob (some (if hasX dg then (1:Int) else 0)) λr=>(cond (r==1) (some (1:Int)) (ob (ak n dg x) λv=>(cond (v.1==10000000000000000) (cond (!g) (some 0) (some 1)) (some 1)))))))=some (if (!(wint (sea m)&&pg g dg x))=true then 1 else 0):=by
  rw [T];show cond (sea m != 24) _ _=_;unfold wint;simp only [bne];cases (sea m==24)<;>cases (sea m==28)<;>cases (sea m==30)<;>cases pg g dg x<;>rfl
 unfold yrB;show cond (decide (q>0)) (cond (!(m==[])) (some 0) _) _=_;rw [show (decide (q>0))=decide (0<q) from rfl];simp only [h,jm];cases decide (0<q) with
 | false=>exact body
 | true=>
  cases (m==[]) with
  | false=>rfl
  | true=>exact body
def bq (m d:aa):Nat:=1+(if m==[] then 0 else 1)+(if d==[] then 0 else 1)
theorem rr (n:Nat) (e:100<n) (g l:Bool) (dg:aa) (x q:Int) (m d:aa) (k0 k1 k2:Int):bn n g l dg x q m d k0 k1 k2=some ((bq m d:Nat):Int):=by
 obtain ⟨n,rfl⟩:∃j,n=j+3:=⟨n - 3,by omega⟩;unfold bn bq;have s0:∀a:Int,bI (n+3) (a,m,d,0)=some (.inl (if m==[] then a else IntKind.wrap .i64 (a+1),m,d,1)):=λa=>by
  unfold bI;show cond (!(m==[])) _ _=_;cases (m==[])<;>rfl
 have c:∀a:Int,bI (n+3) (a,m,d,1)=some (.inl (if d==[] then a else IntKind.wrap .i64 (a+1),m,d,2)):=λa=>by
  unfold bI;show cond (!(d==[])) _ _=_;cases (d==[])<;>rfl
 have b:∀a:Int,bI (n+3) (a,m,d,2)=some (.inr a):=λa=>rfl;rw [aw,s0];show ob (aw _ (n+2) _) _=_;rw [aw,c];show ob (aw _ (n+1) _) _=_;rw [aw,b];cases (m==[])<;>cases (d==[])<;>rfl
theorem cG (n:Nat) (g l:Bool) (dg:aa) (x q:Int) (m d:aa) (k0 k1 k2:Int):ah n g l dg x q m d k0 k1 k2=some ((bq m d:Nat):Int):=by
 unfold ah bq;cases (m==[])<;>cases (d==[])<;>rfl
def allM (a b c:Int) (k:Nat):Int:=if 3<a\/3<b\/3<c\/(k<2/\b≠0)\/(k<3/\c≠0) then 9 else 0
theorem MU (n:Nat) (t:3<n) (a b c:Int) (k:Nat) (u:1<=k/\k<=3) (w:0<=a) (v:0<=b) (hc:0<=c):
  dH n [a,b,c] (k:Int)=some (allM a b c k)/\bE n [a,b,c] (k:Int)=some (allM a b c k):=by
 obtain ⟨j,rfl⟩:∃j,n=j+4:=⟨n - 4,by omega⟩;have f:IntKind.wrap .i64 1=1:=rfl;have i:IntKind.wrap .i64 2=2:=rfl;have g:IntKind.wrap .i64 3=3:=rfl;have m:ix 3 0=some 0:=rfl;have e:ix 3 1=some 1:=rfl;have h:ix 3 2=some 2:=rfl;have hk':k=1\/k=2\/k=3:=by omega
 unfold allM;by_cases l:a>3
 ·rcases hk' with rfl | rfl | rfl<;>constructor<;>simp [bE,dH,aw,cS,fV,gp,ob,f,i,g,m,e,h,l]
 by_cases p:b>3
 ·rcases hk' with rfl | rfl | rfl<;>constructor<;>simp [bE,dH,aw,cS,fV,gp,ob,f,i,g,m,e,h,l,p]
 by_cases d:k=1/\b≠0
 ·obtain ⟨rfl,d⟩:=d;have r:b>0:=by omega
  have q:(b != 0)=true:=by simp [d]
  constructor<;>simp [bE,dH,aw,cS,fV,gp,ob,f,i,g,m,e,h,l,p,r,d,q]
 by_cases s:c>3
 ·rcases hk' with rfl | rfl | rfl<;>(try (simp at d;subst d))<;>constructor<;>simp [bE,dH,aw,cS,fV,gp,ob,f,i,g,m,e,h,l,p,s]
 by_cases o:k<3/\c≠0
 ·have r:c>0:=by omega
  have q:(c != 0)=true:=by simp [o.2]
  rcases hk' with rfl | rfl | rfl<;>(try (simp at d;subst d))<;>simp at o<;>constructor<;>simp [bE,dH,aw,cS,fV,gp,ob,f,i,g,m,e,h,l,p,s,r,o,q]
 rcases hk' with rfl | rfl | rfl<;>(try (simp at d;subst d))<;>(try (simp at o;subst o))<;>constructor<;>simp [bE,dH,aw,cS,fV,gp,ob,f,i,g,m,e,h,l,p,s]
theorem mg (m d:aa):1<=bq m d/\bq m d<=3:=by
 unfold bq;cases (m==[])<;>cases (d==[])<;>simp
def yrD (g l:Bool) (dg:aa) (x q:Int) (m:aa):Bool:=if okY g l dg x q then yrB g dg x q m else false
def chkD (g l:Bool) (dg:aa) (x q:Int) (m d:aa) (k0 k1 k2:Int):Int:=
 cond (!(yrD g l dg x q m)) 6 (cond (!(m==[])&&(!(decide (0<sea m))&&!(dG m 12))) 7
  (cond (!(d==[])&&((m==[])||(decide (0<sea m)||!(dG d 31)))) 8 (allM k0 k1 k2 (bq m d))))
theorem M5 (m:aa):0<=sea m:=by
 rcases mM m with h | ⟨j,a,rfl⟩
 ·omega
 ·rw [jB a];omega
theorem N7 (m:aa):(sea m==0)=!(decide (0<sea m)):=by
 have:=M5 m;by_cases h:sea m=0
 ·rw [h];rfl
 ·have a:0<sea m:=by omega
  rw [aL.2 h,ar a];rfl
theorem yF (n:Nat) (j:200<n) (g l:Bool) (dg:aa) (x q:Int) (m d:aa) (k0 k1 k2:Int) (a:m.length<=18) (c:dg.length<=100) (k:0<=k0) (u:0<=k1) (b:0<=k2):
  ib n g l dg x q m d k0 k1 k2=some (chkD g l dg x q m d k0 k1 k2):=by
 have hy:ew n g l dg x q m d k0 k1 k2=some (yrD g l dg x q m):=zP n j g l dg x q m d k0 k1 k2 a c;have h:cK n m 12=some (dG m 12):=Ai n (by omega) m 12 (by omega);have f:cK n d 31=some (dG d 31):=Ai n (by omega) d 31 (by omega);have t:=(MU n (by omega) k0 k1 k2 (bq m d) (mg m d) k u b).1;unfold ib chkD;rw [rh n g l dg x q m d k0 k1 k2 a,hy,h,f,rr n (by omega)];simp only [ob];rw [t];generalize yrD g l dg x q m=s;generalize (m==[])=r;generalize decide (0<sea m)=o;generalize dG m 12=p;generalize (d==[])=e;generalize dG d 31=i;cases s<;>cases r<;>cases o<;>cases p<;>cases e<;>cases i<;>rfl
theorem Cj (n:Nat) (j:200<n) (g l:Bool) (dg:aa) (x q:Int) (m d:aa) (k0 k1 k2:Int) (b:dg.length<=100) (k:0<=k0) (u:0<=k1) (a:0<=k2):
  jc n g l dg x q m d k0 k1 k2=some (chkD g l dg x q m d k0 k1 k2):=by
 have hy:ic n g l dg x q m d k0 k1 k2=some (if yrD g l dg x q m then 1 else 0):=by
  rw [JY n j g l dg x q m d k0 k1 k2 b];unfold yrD;by_cases h:okY g l dg x q
  ·simp only [h,jm,aY]
  ·simp only [h,uh,aG];rfl
 have f:cX n m 12=some (if dG m 12 then 1 else 0):=D4 n (by omega) m 12 (by omega);have e:cX n d 31=some (if dG d 31 then 1 else 0):=D4 n (by omega) d 31 (by omega);have t:=(MU n (by omega) k0 k1 k2 (bq m d) (mg m d) k u a).2;unfold jc chkD;rw [kF n (by omega) g l dg x q m d k0 k1 k2,hy,f,e,cG n];simp only [ob];rw [t,N7];show cond ((if yrD g l dg x q m then (1:Int) else 0)==0) _ (cond _ (cond _ (cond _ _ (cond _ (cond _ _ (cond (decide (0<sea m)) _ _)) _)) (cond _ (cond _ _ (cond (decide (0<sea m)) _ _)) _)) (cond _ (cond _ _ (cond (decide (0<sea m)) _ _)) _))=_;generalize yrD g l dg x q m=s;generalize (m==[])=r;generalize decide (0<sea m)=o;generalize dG m 12=p;generalize (d==[])=c;generalize dG d 31=i;cases s<;>cases r<;>cases o<;>cases p<;>cases c<;>cases i<;>rfl
theorem Ah {g l:Bool} {dg:aa} {x q:Int} {m d:aa} {k0 k1 k2:Int} (h:chkD g l dg x q m d k0 k1 k2=0):yrD g l dg x q m=true/\(m=[]\/0<sea m\/dG m 12=true)/\(d=[]\/(m≠[]/\sea m=0/\dG d 31=true))/\allM k0 k1 k2 (bq m d)=0:=by
 have hs:=M5 m;unfold chkD at h;cases i:yrD g l dg x q m with
 | false=>rw [i] at h;exact absurd h (by simp)
 | true=>
  rw [i] at h;simp only [eG,ae] at h;cases e:(!(m==[])&&(!(decide (0<sea m))&&!(dG m 12))) with
  | true=>rw [e] at h;exact absurd h (by simp)
  | false=>
   rw [e] at h;simp only [ae] at h;cases c:(!(d==[])&&((m==[])||(decide (0<sea m)||!(dG d 31)))) with
   | true=>rw [c] at h;exact absurd h (by simp)
   | false=>
    rw [c] at h;simp only [ae] at h;refine ⟨rfl,?_,?_,h⟩
    ·by_cases b:m=[]
     ·exact .inl b
     ·by_cases a:0<sea m
      ·exact .inr (.inl a)
      ·simp [b,a] at e;exact .inr (.inr e)
    ·by_cases b:d=[]
     ·exact .inl b
     ·by_cases a:m=[]
      ·simp [b,a] at c
      ·by_cases f:0<sea m
       ·simp [b,a,f] at c
       ·simp [b,a,f] at c;exact .inr ⟨a,by omega,c⟩
theorem lU {s:aa} {g:Nat} (m:g<=31) (h:dG s g=true):s.length=2/\∀c∈s,isDX c=true:=by
 unfold dG at h;obtain ⟨i,f,hi⟩:=qe.1 h;have e:i<g:=jk.1 f;have dig:∀k:Nat,k<10->isDX (UInt8.ofNat (48+k))=true:=by decide
 have d:isDX 88=true:=by decide
 match s,hi with
 | [],hi=>simp [agr] at hi
 | [_],hi=>simp [agr] at hi
 | [a,b],hi=>
  refine ⟨rfl,?_⟩;simp only [agr,ay,gC,bU] at hi;obtain ⟨l,j⟩:=hi;intro c hc;simp only [cA,pi,qm] at hc;rcases hc with rfl | rfl
  ·rcases l with rfl | rfl
   ·exact d
   ·exact dig _ (by omega)
  ·rcases j with rfl | rfl
   ·exact d
   ·exact dig _ (by omega)
 | _::_::_::_,hi=>simp [agr] at hi
theorem BI {m:aa} (h:0<sea m):m.length=2/\∀c∈m,isDX c=true:=by
 rcases mM m with b | ⟨j,a,rfl⟩
 ·omega
 ·refine ⟨rfl,?_⟩;have:((List.range 21).all λj=>(two (21+j)).all isDX)=true:=by decide +kernel
  have:=(cr.1 this) j (by simpa using a);exact cr.1 this
def mt (k:Nat):aa:=if k=1 then [63] else if k=2 then [126] else if k=3 then [37] else []
def mkOf (c:UInt8):Nat:=if c=63 then 1 else if c=126 then 2 else if c=37 then 3 else 0
def Qc (k a b c:Nat):Bool:=(decide (k<2)||b==a)&&(decide (k<3)||c==a)
def plA (k a b c:Nat):Nat×Nat×Nat:=if Qc k a b c then (0,0,0) else (a,b,c)
def plB (k a b c:Nat):Nat×Nat×Nat:=if Qc k a b c then (if k=1 then (a,0,0) else if k=2 then (0,a,0) else (0,0,a)) else (0,0,0)
def l3 (p:Nat×Nat×Nat):List Int:=[(p.1:Int),(p.2.1:Int),(p.2.2:Int)]
theorem zJ (n k:Nat) (h:k<4):pt n (k:Int)=some (mt k,0)/\cH n (k:Int)=some (mt k):=by
 have:k=0\/k=1\/k=2\/k=3:=by omega
 rcases this with rfl | rfl | rfl | rfl<;>exact ⟨rfl,rfl⟩
noncomputable def Hq (m k a b c:Nat):Bool:=
 (nO (m+300) [(a:Int),(b:Int),(c:Int)] (k:Int)==some (l3 (plA k a b c),l3 (plB k a b c),0))&&(i7 (m+300) [(a:Int),(b:Int),(c:Int)] (k:Int)==some (l3 (plA k a b c),l3 (plB k a b c)))
theorem Ru (m:Nat):((List.range 4).all λa=>Hq m 1 a 0 0)=true:=by kernel_rfl
theorem Sr (m:Nat):((List.range 4).all λa=>(List.range 4).all λb=>Hq m 2 a b 0)=true:=by kernel_rfl
theorem Sl (m:Nat):((List.range 4).all λa=>(List.range 4).all λb=>(List.range 4).all λc=>Hq m 3 a b c)=true:=by kernel_rfl
theorem r4 {p:Nat->Bool} (h:(List.range 4).all p=true) {a:Nat} (b:a<4):p a=true:=(cr.1 h) a (jk.2 b)
theorem Q9 (m k a b c:Nat) (i:1<=k/\k<=3) (d:a<4) (f:b<4) (hc:c<4) (g:k<2->b=0) (e:k<3->c=0):
  nO (m+300) [(a:Int),(b:Int),(c:Int)] (k:Int)=some (l3 (plA k a b c),l3 (plB k a b c),0)/\i7 (m+300) [(a:Int),(b:Int),(c:Int)] (k:Int)=some (l3 (plA k a b c),l3 (plB k a b c)):=by
 have h:Hq m k a b c=true:=by
  have:k=1\/k=2\/k=3:=by omega
  rcases this with rfl | rfl | rfl
  ·rw [g (by omega),e (by omega)];exact r4 (Ru m) d
  ·rw [e (by omega)];exact r4 (r4 (Sr m) d) f
  ·exact r4 (r4 (r4 (Sl m) d) f) hc
 unfold Hq at h;simp only [ay,bU] at h;exact h
theorem RS {k a b c:Nat} (d:a<4) (e:b<4) (hc:c<4):(plA k a b c).1<4/\(plA k a b c).2.1<4/\(plA k a b c).2.2<4/\(plB k a b c).1<4/\(plB k a b c).2.1<4/\(plB k a b c).2.2<4:=by
 unfold plA plB;split
 ·split
  ·simp [d]
  ·split<;>simp [d]
 ·simp [d,e,hc]
def inM (k:Nat) (A:Nat×Nat×Nat):Prop:=A.1<4/\A.2.1<4/\A.2.2<4/\(k<2->A.2.1=0)/\(k<3->A.2.2=0)
theorem PL {k:Nat} {A:Nat×Nat×Nat} (h:inM k A):allM (A.1:Int) (A.2.1:Int) (A.2.2:Int) k=0:=by
 obtain ⟨c,e,a,b,d⟩:=h;unfold allM;rw [ab (by omega)]
abbrev cI (x:Nat):Int:=(x:Int)
def bt (b a:Nat):Nat:=if b=1 then a%2 else a / 2%2
def bts (b:Nat):List Nat->Nat
 | []=>0
 | x::l=>bt b x+bts b l
def hit (k b i:Nat) (c a:List Nat):Bool:=decide (0<bt b (c.getD i 0)+bts b ((a.take k).drop i))
def addB (k b:Nat) (c a:List Nat) (o:List Int):List Int:=[cond (decide (0<k)&&hit k b 0 c a) (IntKind.wrap .u8 (o.getD 0 0+(b:Int))) (o.getD 0 0),cond (decide (1<k)&&hit k b 1 c a) (IntKind.wrap .u8 (o.getD 1 0+(b:Int))) (o.getD 1 0),cond (decide (2<k)&&hit k b 2 c a) (IntKind.wrap .u8 (o.getD 2 0+(b:Int))) (o.getD 2 0)]
theorem cutD (r:Nat) (h:r<10):List.drop r (List.take (r+1) ([48,49,50,51,52,53,54,55,56,57]:aa))=[UInt8.ofNat (48+r)]:=by
 have:∀r,r<10->List.drop r (List.take (r+1) ([48,49,50,51,52,53,54,55,56,57]:aa))=[UInt8.ofNat (48+r)]:=by decide
 exact this r h
theorem HZ {k:Nat} (h:k<10):Lib.decDigits k=[UInt8.ofNat (48+k)]:=by
 rw [Lib.decDigits,dif_pos h]
theorem HS {k:Nat} (h:¬k<10) (a:k<100):Lib.decDigits k=[UInt8.ofNat (48+k / 10),UInt8.ofNat (48+k%10)]:=by
 rw [Lib.decDigits,dif_neg h,HZ (by omega)];rfl
theorem Jp (n k:Nat) (h:k<100):aB n (k:Int)=some (Lib.decDigits k):=by
 have c:Int.tmod (k:Int) 10=((k%10:Nat):Int):=rfl;have f:Int.tdiv (k:Int) 10=((k / 10:Nat):Int):=rfl;have g:IntKind.wrap .i64 (((k%10:Nat):Int)+1)=((k%10+1:Nat):Int):=by rw [wrap_i64 _ (by omega) (by omega)];omega
 have d:IntKind.wrap .i64 ((k / 10:Nat):Int)=((k / 10:Nat):Int):=wrap_i64 _ (by omega) (by omega);have b:IntKind.wrap .i64 (((k / 10:Nat):Int)+1)=((k / 10+1:Nat):Int):=by rw [wrap_i64 _ (by omega) (by omega)];omega
 simp only [aB,c,f,g,d,b,eM (show k%10+1<=10 by omega),eM (show k%10<=k%10+1 by omega),ob,cutD (k%10) (by omega)];by_cases a:k<10
 ·have e:decide ((k:Int)>=10)=false:=aq (by omega);rw [e,ae,HZ a,ov a]
 ·have e:decide ((k:Int)>=10)=true:=ar (by omega);rw [e,aj,eM (show k / 10+1<=10 by omega)];simp only [];rw [eM (show k / 10<=k / 10+1 by omega)];simp only [cutD (k / 10) (by omega)];rw [bN (by simp),HS a h];rfl
def rn (a:UInt8) (v:Nat):aa:=if 0<v then a::Lib.decDigits v else []
theorem G4 {k:Nat} (h:k<100):1<=(Lib.decDigits k).length/\(Lib.decDigits k).length<=2:=by
 by_cases a:k<10
 ·rw [HZ a];simp
 ·rw [HS a h];simp
theorem vq (a:UInt8) {k:Nat} (h:k<100):(rn a k).length<=3:=by
 unfold rn;split
 ·have:=G4 h;simp only [aS];omega
 ·simp
theorem vX (g l:Bool) (d:aa) (x s:Nat):lu g l d (x:Int) (s:Int)=(if l then [89] else [])++(if g then [45] else [])++d++rn 69 x++rn 83 s:=by
 unfold lu rn;simp only [bY];have b:(0<(x:Int))=(0<x):=by simp
 have a:(0<(s:Int))=(0<s):=by simp
 simp only [b,a]
theorem Ld (n:Nat) (g l:Bool) (d:aa) (x s:Nat) (hx:x<100) (hs:s<100) (m:d.length<=1000):jX n g l d (x:Int) (s:Int)=some (lu g l d (x:Int) (s:Int)):=by
 have o:=G4 hx;have t:=G4 hs;have ex:decide ((x:Int)>0)=decide (0<x):=by simp
 have i:decide ((s:Int)>0)=decide (0<s):=by simp
 have k:∀a:aa,a.length<=1100->(cond (decide (0<x)) (ob (aB n (x:Int)) λr=>(ob (cat ([69]:aa) r) λp=>(cat a p))) (some a))=some (a++rn 69 x):=by
  intro a e;unfold rn;by_cases h:0<x
  ·rw [ar h,aj,ad h,Jp n x hx];simp only [ob];rw [bN (by simp;omega)];simp only [];rw [bN (by simp;omega)];rfl
  ·rw [aq h,ab h];simp
 have f:∀a:aa,a.length<=1200->(cond (decide (0<s)) (ob (aB n (s:Int)) λr=>(ob (cat ([83]:aa) r) λp=>(ob (cat a p) λq=>(some q)))) (some a))=some (a++rn 83 s):=by
  intro a e;unfold rn;by_cases h:0<s
  ·rw [ar h,aj,ad h,Jp n s hs];simp only [ob];rw [bN (by simp;omega)];simp only [];rw [bN (by simp;omega)];rfl
  ·rw [aq h,ab h];simp
 have b:∀a:aa,a.length<=1100->(cond (decide (0<x)) (ob (aB n (x:Int)) λr=>(ob (cat ([69]:aa) r) λp=>(ob (cat a p) λz=>(cond (decide (0<s)) (ob (aB n (s:Int)) λr=>(ob (cat ([83]:aa) r) λp=>(ob (cat z p) λq=>(some q)))) (some z))))) (cond (decide (0<s)) (ob (aB n (s:Int)) λr=>(ob (cat ([83]:aa) r) λp=>(ob (cat a p) λq=>(some q)))) (some a)))=some (a++rn 69 x++rn 83 s):=by
  intro a e;have c:=k a e;by_cases h:0<x
  ·rw [ar h,aj] at c ⊢;rw [Jp n x hx] at c ⊢;simp only [ob] at c ⊢;rw [bN (a:=[69]) (by simp;omega)] at c ⊢;simp only [] at c ⊢;rw [c];simp only [];have:=f (a++rn 69 x) (by have:=vq 69 hx;simp only [bB];omega);simp only [ob] at this;exact this
  ·rw [aq h,ae];have j:rn 69 x=[]:=by unfold rn;rw [ab h]
   rw [j,tn];exact f a (by omega)
 rw [vX];unfold jX;rw [ex,i];cases l<;>cases g
 ·rw [ae,ae,bN (by simp;omega)];exact b d (by omega)
 ·rw [ae,aj,bN (by simp;omega)];exact b ([45]++d) (by simp;omega)
 ·rw [aj,ae,bN (by simp;omega)];exact b ([89]++d) (by simp;omega)
 ·rw [aj,aj,bN (by simp;omega)];exact b ([89,45]++d) (by simp;omega)
theorem uP {k:Nat} (h:k<10):(UInt8.ofNat (48+k)).toNat=48+k:=by
 rw [BD];exact ov (by omega)
abbrev DR:=Bool×Bool×aa×Nat×Nat×aa×aa×(Nat×Nat×Nat)×(Nat×Nat×Nat)×Nat
theorem O0 (n a:Nat) (q:a<65536):∃d,jV n (a:Int)=some d/\d.length=4/\∀c∈d,cM c=true:=by
 have l:Int.tmod (a:Int) 10000=((a%10000:Nat):Int):=rfl;have g:a%10000<10000:=oI _ (by decide);generalize a%10000=N at *;have p:Int.tdiv (N:Int) 1000=((N / 1000:Nat):Int):=rfl;have f:Int.tdiv (N:Int) 100=((N / 100:Nat):Int):=rfl;have m:Int.tdiv (N:Int) 10=((N / 10:Nat):Int):=rfl;have o:IntKind.wrap .u16 ((N / 1000:Nat):Int)=((N / 1000:Nat):Int):=tM _ (by omega) (by omega);have i:IntKind.wrap .u16 ((N / 100:Nat):Int)=((N / 100:Nat):Int):=tM _ (by omega) (by omega);have h:IntKind.wrap .u16 ((N / 10:Nat):Int)=((N / 10:Nat):Int):=tM _ (by omega) (by omega);have m2:Int.tmod ((N / 100:Nat):Int) 10=((N / 100%10:Nat):Int):=rfl;have j:Int.tmod ((N / 10:Nat):Int) 10=((N / 10%10:Nat):Int):=rfl;have k:Int.tmod (N:Int) 10=((N%10:Nat):Int):=rfl;have s:∀r:Nat,r<10->IntKind.wrap .u16 ((r:Int)+1)=((r+1:Nat):Int):=λr e=>by rw [tM _ (by omega) (by omega)];omega
 refine ⟨[UInt8.ofNat (48+N / 1000),UInt8.ofNat (48+N / 100%10),UInt8.ofNat (48+N / 10%10),UInt8.ofNat (48+N%10)],?_,rfl,?_⟩
 ·simp only [jV,l,p,f,m,o,i,h,m2,j,k,s (N / 1000) (by omega),s (N / 100%10) (by omega),s (N / 10%10) (by omega),s (N%10) (by omega),eM (show N / 1000+1<=10 by omega),eM (show N / 1000<=N / 1000+1 by omega),eM (show N / 100%10+1<=10 by omega),eM (show N / 100%10<=N / 100%10+1 by omega),eM (show N / 10%10+1<=10 by omega),eM (show N / 10%10<=N / 10%10+1 by omega),eM (show N%10+1<=10 by omega),eM (show N%10<=N%10+1 by omega),ob,cutD (N / 1000) (by omega),cutD (N / 100%10) (by omega),cutD (N / 10%10) (by omega),cutD (N%10) (by omega)];rw [bN (by simp)];simp only [];rw [bN (by simp)];simp only [];rw [bN (by simp)];rfl
 ·have b:∀r:Nat,r<10->cM (UInt8.ofNat (48+r))=true:=λr e=>(gx _).2 (by rw [uP e];omega);simp only [cA,pi,qm,yA,forall_eq];exact ⟨b _ (by omega),b _ (by omega),b _ (by omega),b _ (by omega)⟩
theorem uH (n:Nat) (g l:Bool) (d:aa) (x s:Int) (e:200<n) (c:d.length<=100) (h:okY false l d x s):∃b,(ob (cg n g l d x s) λr=>(cond (r==0) (some (false,l,d,x,s)) (some (g,l,d,x,s))))=some (b,l,d,x,s)/\okY b l d x s:=by
 rw [zj n g l d x s e c];by_cases a:okY g l d x s
 ·rw [ad a];exact ⟨g,rfl,a⟩
 ·rw [ab a];exact ⟨false,rfl,h⟩
theorem vv {d:aa} {s:Int} (g:d.length=4) (a:∀c∈d,cM c=true\/c=88) (b:0<=s) (f:s<=4) (e:¬(0<s/\hasX d=true)):okY false false d 0 s:=by
 have:okS false d 0 s:=⟨g,a,rfl,by simp,b,f,e⟩;simpa [okY] using this
theorem N3 (n:Nat) (a b:Int) (g:Bool) (d:aa) (A:d.length=4) (m:∀c∈d,cM c=true) (B:4<n):
  ∃s:aa,aw (eO n) n (a,b,[],0,false,false,[],0,0,g,false,d,0,0)=some (s,false,false,[],0,0,g,false,d,0,0)/\s.length=4/\∀c∈s,cM c=true\/c=88:=by
 obtain ⟨y,z,s,l,o,v⟩:=nj (step:=eO n) (λx=>∃(i:Nat) (s:aa),i<=4/\s.length=i/\(∀c∈s,cM c=true\/c=88)/\x=(a,b,s,(i:Int),false,false,[],0,0,g,false,d,0,0)) (λx=>4 - x.2.2.2.1.toNat) (λy=>∃s:aa,y=(s,false,false,[],0,0,g,false,d,0,0)/\s.length=4/\∀c∈s,cM c=true\/c=88) (by
  rintro x ⟨i,s,hi,hs,hc,rfl⟩;rcases aH i 4 with j | r
  ·obtain ⟨c,f⟩:∃c,d[i]?=some c:=⟨d[i],bH (by omega)⟩;have p:decide ((i:Int)<4)=true:=ar (by omega);have w:IntKind.wrap .i64 ((i:Int)+1)=((i+1:Nat):Int):=by rw [wrap_i64 _ (by omega) (by omega)];omega
   have next:∀e:UInt8,(cM e=true\/e=88)->∃h,some (Sum.inl (a,b,s++[e],((i+1:Nat):Int),false,false,([]:aa),(0:Int),(0:Int),g,false,d,(0:Int),(0:Int)))=some (Sum.inl (β:=aa×Bool×Bool×aa×Int×Int×Bool×Bool×aa×Int×Int) h)/\(∃(i:Nat) (s:aa),i<=4/\s.length=i/\(∀c∈s,cM c=true\/c=88)/\h=(a,b,s,(i:Int),false,false,[],0,0,g,false,d,0,0))/\4 - h.2.2.2.1.toNat<4 - i:=by
    intro e t;refine ⟨_,rfl,⟨i+1,s++[e],j,by simp [hs],?_,rfl⟩,by simp only [bY];omega⟩;intro u k;rcases kA.1 k with q | q
    ·exact hc u q
    ·simp only [cA,pi,qm] at q;rw [q];exact t
   simp only [eO,p,aj,w,bY,eM (show i+1<=d.length by omega),eM (show i<=i+1 by omega),ob,cut1 f];rw [bN (a:=s) (b:=[88]) (by simp;omega),bN (a:=s) (b:=[c]) (by simp;omega)];simp only [];left;cases ((i:Int)==a)
   ·cases ((i:Int)==b)
    ·exact next c (.inl (m c (dT f)))
    ·exact next 88 (.inr rfl)
   ·exact next 88 (.inr rfl)
  ·have:i=4:=by omega
   subst this;exact .inr ⟨_,rfl,s,rfl,hs,hc⟩) n (a,b,[],0,false,false,[],0,0,g,false,d,0,0) ⟨0,[],by omega,rfl,by simp,rfl⟩ (by simp;omega)
 exact ⟨s,by rw [z,l],o,v⟩
theorem cut9 (r:Nat) (h:r<9):List.drop r (List.take (r+1) ([49,50,51,52,53,54,55,56,57]:aa))=[UInt8.ofNat (49+r)]:=by
 have:∀r,r<9->List.drop r (List.take (r+1) ([49,50,51,52,53,54,55,56,57]:aa))=[UInt8.ofNat (49+r)]:=by decide
 exact this r h
theorem DU {d:aa} {x s:Nat} (b:∀c∈d,cM c=true) (f:1<=d.length) (k:d.length<=5) (g:d.head?≠some 48) (h:x<=11) (i:x=0->d.length=5) (m:s<=d.length+x):okY false true d (x:Int) (s:Int):=by
 have a:=oy d 0 0 b (by simp);have hp:(10:Nat) ^ (d.length+0)<=10 ^ 5:=jI (by decide) (by omega);have j:(10:Nat) ^ x<=10 ^ 11:=jI (by decide) h;have l:=ui (Nat.le_of_lt (mH a hp)) j;have e:(10:Nat) ^ 5*10 ^ 11=E16:=by decide
 have:okL d (x:Int) (s:Int):=⟨⟨b,f,by omega,g,by omega,by omega,by rintro ⟨n,o⟩;have:=i (by omega);omega,by simp only [bY];omega⟩,by omega,by omega⟩;simpa [okY] using this
theorem Gt (m o O a b:Nat) (g:Bool) (h2:O<65536) (h3:a<256) (h4:b<256):∃f l d x s,ia (m+300) (o:Int) g (O:Int) (a:Int) (b:Int)=some (f,l,d,x,s)/\okY f l d x s/\d.length<=5/\x<=11/\(o%6≠3->hasX d=false):=by
 obtain ⟨d,V,j,i⟩:=O0 (m+300) O h2;have w:∀c∈d,cM c=true\/c=88:=λc hc=>.inl (i c hc);have n:=rF i;unfold ia;rw [V];simp only [ob];cases W:(Int.tmod (o:Int) 6==3) with
 | true=>
  simp only [aj];obtain ⟨s,Q,K,G⟩:=N3 (m+300) (IntKind.wrap .i64 (Int.tmod (a:Int) 4)) (IntKind.wrap .i64 (Int.tmod (b:Int) 4)) g d j i (by omega);rw [Q];obtain ⟨f,k,h⟩:=uH (m+300) g false s 0 0 (by omega) (by omega) (vv K G (by omega) (by omega) (by omega))
  exact ⟨f,false,s,0,0,k,h,by omega,by omega,λh3=>absurd (by
   have e:=bU.1 W;have e2:Int.tmod (o:Int) 6=((o%6:Nat):Int):=rfl;omega) h3⟩
 | false=>
  simp only [ae];cases (Int.tmod (o:Int) 6==4) with
  | true=>
   simp only [aj];have e:Int.tmod (a:Int) 4=((a%4:Nat):Int):=rfl;have w1:IntKind.wrap .i64 ((a%4:Nat):Int)=((a%4:Nat):Int):=wrap_i64 _ (by omega) (by omega);have w2:IntKind.wrap .i64 (1+((a%4:Nat):Int))=((1+a%4:Nat):Int):=by rw [wrap_i64 _ (by omega) (by omega)];omega
   rw [e,w1,w2];obtain ⟨f,k,h⟩:=uH (m+300) g false d 0 ((1+a%4:Nat):Int) (by omega) (by omega) (vv j w (by omega) (by omega) (by rw [n];simp));exact ⟨f,false,d,0,_,k,h,by omega,by omega,λ_=>n⟩
  | false=>
   simp only [ae];cases (Int.tmod (o:Int) 6==5) with
   | false=>
    simp only [ae];obtain ⟨f,k,h⟩:=uH (m+300) g false d 0 0 (by omega) (by omega) (vv j w (by omega) (by omega) (by omega));exact ⟨f,false,d,0,0,k,h,by omega,by omega,λ_=>n⟩
   | true=>
    simp only [aj];have e9:Int.tmod (a:Int) 9=((a%9:Nat):Int):=rfl;have w9:IntKind.wrap .u8 (((a%9:Nat):Int)+1)=((a%9+1:Nat):Int):=by rw [eY _ (by omega) (by omega)];omega
    have e3:Int.tmod (b:Int) 3=((b%3:Nat):Int):=rfl;have e5:Int.tmod (b:Int) 5=((b%5:Nat):Int):=rfl;have w5:IntKind.wrap .u8 (1+((b%5:Nat):Int))=((1+b%5:Nat):Int):=by rw [eY _ (by omega) (by omega)];omega
    have Y:Int.tdiv (b:Int) 16=((b / 16:Nat):Int):=rfl;have P:IntKind.wrap .u8 ((b / 16:Nat):Int)=((b / 16:Nat):Int):=eY _ (by omega) (by omega);have I:Int.tmod ((b / 16:Nat):Int) 11=((b / 16%11:Nat):Int):=rfl;have T:IntKind.wrap .i64 ((b / 16%11:Nat):Int)=((b / 16%11:Nat):Int):=wrap_i64 _ (by omega) (by omega);have L:IntKind.wrap .i64 (1+((b / 16%11:Nat):Int))=((1+b / 16%11:Nat):Int):=by rw [wrap_i64 _ (by omega) (by omega)];omega
    have C:Int.tdiv (a:Int) 16=((a / 16:Nat):Int):=rfl;have M:IntKind.wrap .u8 ((a / 16:Nat):Int)=((a / 16:Nat):Int):=eY _ (by omega) (by omega);have F:IntKind.wrap .i64 ((a / 16:Nat):Int)=((a / 16:Nat):Int):=wrap_i64 _ (by omega) (by omega);have J:UInt8.ofNat (49+a%9)≠48:=by
     intro q;have:=gf UInt8.toNat q;rw [show 49+a%9=48+(1+a%9) by omega,uP (by omega)] at this;exact absurd this (by show ¬48+(1+a%9)=48;omega)
    have u:cM (UInt8.ofNat (49+a%9))=true:=(gx _).2 (by rw [show 49+a%9=48+(1+a%9) by omega,uP (by omega)];omega);rw [e9,w9,eM (show a%9+1<=9 by omega)];simp only [];rw [eM (show a%9<=a%9+1 by omega)];simp only [];rw [cut9 (a%9) (by omega),bN (by simp;omega)];simp only [];generalize Z:[UInt8.ofNat (49+a%9)]++d=D;have A:D.length=5:=by rw [<-Z];simp [j]
    have p:∀c∈D,cM c=true:=by
     rw [<-Z];intro c hc;simp only [ki,ij,cA] at hc;rcases hc with rfl | hc
     ·exact u
     ·exact i c hc
    have y:D.head?≠some 48:=by rw [<-Z];simpa using J
    rw [e3,e5,w5,Y,P,I,T,L,C,M,F];by_cases h33:0<b%3
    ·have H:decide (((b%3:Nat):Int)>0)=true:=ar (by omega);rw [H,aj,eM (show 1+b%5<=D.length by omega)];simp only [jO];generalize S:List.take (1+b%5) D=E;have hEl:E.length=1+b%5:=by rw [<-S,dx];omega
     have B:∀c∈E,cM c=true:=by rw [<-S];exact λc hc=>p c (List.mem_of_mem_take hc)
     have R:E.head?≠some 48:=by
      rw [<-S];cases D with
      | nil=>simp at A
      | cons c r=>rw [qI,oP];simpa using y
     generalize hX:1+b / 16%11=X;have z:X<=11:=by omega
     have hX1:1<=X:=by omega
     have N:IntKind.wrap .i64 (IntKind.wrap .i64 (((E.length:Nat):Int)+((X:Nat):Int))+1)=((E.length+X+1:Nat):Int):=by
      rw [wrap_i64 (((E.length:Nat):Int)+((X:Nat):Int)) (by omega) (by omega),wrap_i64 _ (by omega) (by omega)];omega
     have v:(((E.length+X+1:Nat):Int)==0)=false:=aL.2 (by omega);rw [N,v,ae];have U:Int.tmod ((a / 16:Nat):Int) ((E.length+X+1:Nat):Int)=((a / 16%(E.length+X+1):Nat):Int):=rfl;rw [U];have t:a / 16%(E.length+X+1)<E.length+X+1:=oI _ (by omega);generalize a / 16%(E.length+X+1)=s at t ⊢;obtain ⟨f,k,h⟩:=uH (m+300) g true E ((X:Nat):Int) ((s:Nat):Int) (by omega) (by omega) (DU B (by omega) (by omega) R z (by omega) (by omega));exact ⟨f,true,E,_,_,k,h,by omega,by omega,λ_=>rF B⟩
    ·have H:decide (((b%3:Nat):Int)>0)=false:=aq (by omega);rw [H,ae,A];have N:IntKind.wrap .i64 (IntKind.wrap .i64 (((5:Nat):Int)+0)+1)=((6:Nat):Int):=by decide
     have v:(((6:Nat):Int)==0)=false:=rfl;rw [N,v,ae];have U:Int.tmod ((a / 16:Nat):Int) ((6:Nat):Int)=((a / 16%6:Nat):Int):=rfl;rw [U];have t:a / 16%6<6:=oI _ (by omega);generalize a / 16%6=s at t ⊢;obtain ⟨f,k,h⟩:=uH (m+300) g true D ((0:Nat):Int) ((s:Nat):Int) (by omega) (by omega) (DU p (by omega) (by omega) y (by omega) (by omega) (by omega));exact ⟨f,true,D,_,_,k,h,by omega,by omega,λ_=>rF p⟩
theorem P6 (m j c f i:Nat) (g:Bool) (b:c<65536) (k:f<256) (n:i<256):∃a l d x s,ia (m+300) (j:Int) g (c:Int) (f:Int) (i:Int)=some (a,l,d,x,s)/\okY a l d x s/\d.length<=5/\x<=11:=by
 obtain ⟨a,l,d,x,s,e,h,o,b,_⟩:=Gt m j c f i g b k n;exact ⟨a,l,d,x,s,e,h,o,b⟩
theorem uv {g l:Bool} {d:aa} {x s:Nat} (h:okY g l d (x:Int) (s:Int)):(lu g l d (x:Int) (s:Int)).length<=25:=by
 have hs:=jF h;have c:=vq 69 (show x<100 by omega);have b:=vq 83 (show s<100 by omega);rw [vX];simp only [bB];have e:(if l=true then ([89]:aa) else []).length<=1:=by split<;>simp
 have a:(if g=true then ([45]:aa) else []).length<=1:=by split<;>simp
 omega
end Go.Sh
