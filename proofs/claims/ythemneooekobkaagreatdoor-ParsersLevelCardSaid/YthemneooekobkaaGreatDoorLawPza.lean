
/- Plain proofs, kept as far as they are needed here (printed by prune.py).
   Conditions: none. -/
import Derived.Laws.RangeString
import Derived.Laws.RangeAny
import Derived.Test.YthemneooekobkaaGreatDoorShP
import Derived.Lib.IndexLaws
import Derived.Test.YthemneooekobkaaGreatDoorAbsZ
set_option linter.unusedVariables false
set_option linter.unusedSimpArgs false
set_option maxRecDepth 100000
namespace Go.Sh
open Go.Abs
theorem eO {X Y:Type} {step:X->Option (X⊕Y)} (I:X->Prop) (b:X->Nat) (G:X->Y)
  (h:∀x,I x->(∃a,step x=some (.inl a)/\I a/\b a<b x/\G a=G x)\/step x=some (.inr (G x))):
  ∀(n:Nat) (x:X),I x->b x<n->aw step n x=some (G x)
 | 0,x,_,g=>by omega
 | n+1,x,f,g=>by
  rcases h x f with ⟨a,c,e,i,d⟩ | c
  ·simp only [aw,c];rw [eO I b G h n a e (by omega),d]
  ·simp only [aw,c]
theorem mA {X Y:Type} {step:X->Option (X⊕Y)} (I:X->Prop) (b:X->Nat) (Q:Y->Prop)
  (h:∀x,I x->(∃a,step x=some (.inl a)/\I a/\b a<b x)\/∃y,step x=some (.inr y)/\Q y):
  ∀(n:Nat) (x:X),I x->b x<n->∃y,aw step n x=some y/\Q y
 | 0,x,_,f=>by omega
 | n+1,x,e,f=>by
  rcases h x e with ⟨a,d,c,g⟩ | ⟨y,d,c⟩
  ·simp only [aw,d];exact mA I b Q h n a c (by omega)
  ·exact ⟨y,by simp only [aw,d],c⟩
theorem xU (x:Int):0<=IntKind.wrap .u8 x/\IntKind.wrap .u8 x<256:=by
 show 0<=x%256/\x%256<256;omega
theorem ig (x:Int) (a:0<=x) (b:x<256):IntKind.wrap .u8 x=x:=by
 show x%256=x;omega
theorem Fp (x:Int):IntKind.wrap .u8 x=x%256:=rfl
theorem wrap_i64 (x:Int) (a:-9223372036854775808<=x) (b:x<9223372036854775808):IntKind.wrap .i64 x=x:=by
 simp only [IntKind.wrap,IntKind.signed,IntKind.bits];simp;omega
theorem dF {l:aa} {i:Nat} {c:UInt8} (h:l[i]?=some c):sx l (i:Int)=some c:=by
 simp [sx,h]
theorem fg {n i:Nat} (h:i<n):ix n (i:Int)=some i:=by
 simp [ix];omega
theorem ct {n i:Nat} (h:i<=n):bx n (i:Int)=some i:=by
 simp [bx];omega
theorem yk {l:aa} {i:Nat} {c:UInt8} (h:l[i]?=some c) (hc:c.toNat<128):dec l i=(c.toNat,1):=by
 have hlt:i<l.length:=by
  rcases aF i l.length with h' | h'
  ·exact h'
  ·rw [fU h'] at h;cases h
 have hs:i<(ByteArray.mk l.toArray).size:=hlt;have hg:(ByteArray.mk l.toArray)[i]'hs=c:=by
  rw [bj hlt] at h;simp only [aq] at h;exact h
 unfold dec;rw [decode_ascii _ i hs (by rw [hg];exact hc),hg]
theorem Eo {l:aa} {i:Nat} {c:UInt8} (h:l[i]?=some c) (hc:128<=c.toNat):128<=(dec l i).1/\1<=(dec l i).2:=by
 have hlt:i<l.length:=by
  rcases aF i l.length with h' | h'
  ·exact h'
  ·rw [fU h'] at h;cases h
 have hs:i<(ByteArray.mk l.toArray).size:=hlt;have hg:(ByteArray.mk l.toArray)[i]'hs=c:=by
  rw [bj hlt] at h;simp only [aq] at h;exact h
 unfold dec;exact decode_high _ i hs (by rw [hg];exact hc)
theorem qL {α:Type} {l:List α} {i:Nat} {c:α} (h:l[i]?=some c):i<l.length:=by
 rcases aF i l.length with a | a
 ·exact a
 ·rw [fU a] at h;cases h
theorem bT {α:Type} {l:List α} {i:Nat} {c:α} (h:l[i]?=some c):l.drop i=c::l.drop (i+1):=by
 have a:=qL h;rw [bj a] at h;simp only [aq] at h;rw [<-h,qb a]
theorem gP {α β:Type} [BEq α] [LawfulBEq α] [DecidableEq α] (a b:α) (x y:β):(cond (a==b) x y)=if a=b then x else y:=by
 by_cases h:a=b
 ·subst h;simp
 ·rw [aM.2 h];simp [h]
theorem D5 {α β:Type} [BEq α] [LawfulBEq α] [DecidableEq α] (a b:α) (x y:β):(cond (a != b) x y)=if a=b then y else x:=by
 by_cases h:a=b
 ·subst h;simp
 ·rw [bne,aM.2 h];simp [h]
theorem bG {β:Type} (p:Prop) [Decidable p] (x y:β):(cond (decide p) x y)=if p then x else y:=by
 by_cases h:p<;>simp [h]
theorem E8 {β:Type} (b:Bool) (x y:β):(cond (!b) x y)=cond b y x:=by cases b<;>rfl
theorem eY (a b:Nat):(decide (((a:Nat):Int)<((b:Nat):Int)))=decide (a<b):=by
 by_cases h:a<b<;>simp [h]
theorem jV (a b:Nat):(decide (((a:Nat):Int)>=((b:Nat):Int)))=decide (b<=a):=by
 by_cases h:b<=a<;>simp [h]
theorem lH (c d:UInt8):((((c.toNat:Nat):Int))==((d.toNat:Nat):Int))=(c==d):=by
 by_cases h:c=d
 ·subst h;simp
 ·have b:c.toNat≠d.toNat:=λe=>h (fF.1 e);have a:((c.toNat:Nat):Int)≠((d.toNat:Nat):Int):=by omega
  rw [aM.2 a,aM.2 h]
theorem Tc (c:UInt8):UInt8.ofNat (Int.toNat ((c.toNat:Nat):Int))=c:=by simp
def two (c:Nat):aa:=[UInt8.ofNat (48+c / 10),UInt8.ofNat (48+c%10)]
def sea (m:aa):Int:=match (List.range 21).find? (λj=>m==two (21+j)) with | some j=>((21+j:Nat):Int) | none=>0
theorem lK {j:Nat} (a:j<21):sea (two (21+j))=((21+j:Nat):Int):=by
 have:((List.range 21).all λj=>sea (two (21+j))==((21+j:Nat):Int))=true:=by decide +kernel
 simpa using (List.all_eq_true.1 this) j (by simpa using a)
theorem mK (m:aa):sea m=0\/∃j,j<21/\m=two (21+j):=by
 unfold sea;split
 ·rename_i j h;have b:=List.find?_some h;have a:=List.mem_of_find?_eq_some h;exact .inr ⟨j,by simpa using a,by simpa using b⟩
 ·exact .inl rfl
theorem m9 {b:UInt8} {d:Nat} (h:Lib.digitVal b=some d):d<10/\b.toNat=48+d:=by
 unfold Lib.digitVal at h;split at h
 ·cases h;omega
 ·cases h
theorem MJ {a b:UInt8} {v:Int} (h:Lib.atoi [a,b]=some v) (q:21<=v) (p:v<42):∃j,j<21/\[a,b]=two (21+j)/\v=((21+j:Nat):Int):=by
 obtain ⟨b0,r,e,k⟩:=Lib.atoi_cases h;cases e;rcases k with ⟨_,m,_,_,i⟩ | ⟨_,m,_,c,i⟩ | ⟨_,_,m,c,i⟩
 ·omega
 ·simp only [Lib.decFrom] at c;split at c
  ·rename_i d f;have:=(m9 f).1;simp only [aq] at c;omega
  ·cases c
 ·simp only [Lib.decFrom] at c;split at c
  ·rename_i d f;split at c
   ·rename_i d' g;obtain ⟨k1,k2⟩:=m9 f;obtain ⟨o,k4⟩:=m9 g;simp only [aq] at c;refine ⟨m - 21,by omega,?_,by omega⟩;have l:(21+(m - 21)) / 10=d:=by omega
    have n:(21+(m - 21))%10=d':=by omega
    unfold two;rw [l,n,<-k2,<-k4];simp
   ·cases c
  ·cases c
theorem um {j:Nat} (a:j<21):Lib.atoi (two (21+j))=some ((21+j:Nat):Int):=by
 have:((List.range 21).all λj=>Lib.atoi (two (21+j))==some ((21+j:Nat):Int))=true:=by decide +kernel
 simpa using (List.all_eq_true.1 this) j (by simpa using a)
theorem oK (n:Nat) (g l:Bool) (dg:aa) (x q:Int) (m d:aa) (k0 k1 k2:Int) (o:m.length<=18):bD n g l dg x q m d k0 k1 k2=some (sea m,decide (0<sea m)):=by
 have h:Nat.ble m.length 18=true:=dn o;rcases mK m with f | ⟨j,c,rfl⟩
 ·unfold bD;rw [h,f];show opt (Lib.atoi m) _ _=_;cases k:Lib.atoi m with
  | none=>rfl
  | some v=>
   show cond _ _ _=_;by_cases i:m.length=2
   ·rw [i];obtain ⟨a,b,rfl⟩:∃a b,m=[a,b]:=by
     match m,i with
     | [a,b],_=>exact ⟨a,b,rfl⟩
    show ob (db n v) _=_;unfold db;rw [bG,bG];split
    ·rfl
    ·split
     ·rfl
     ·exfalso;obtain ⟨j,c,e,_⟩:=MJ k (by omega) (by omega);rw [e,lK c] at f;omega
   ·rw [show (((m.length:Nat):Int) != 2)=true by simp;omega];rfl
 ·rw [lK c];have e:bD n g l dg x q (two (21+j)) d k0 k1 k2=some (((21+j:Nat):Int),true):=by
   unfold bD;rw [h,um c];show ob (db n ((21+j:Nat):Int)) _=_;unfold db;rw [bG,bG,ab (by omega),ab (by omega)];rfl
  rw [e];have:decide (0<((21+j:Nat):Int))=true:=by simp;omega
  rw [this]
theorem G9 (n:Nat) {c:Nat} (hc:c<100):aO n (c:Int)=some (two c):=by
 have k:Int.tdiv (c:Int) 10=((c / 10:Nat):Int):=by
  rw [show (10:Int)=((10:Nat):Int) from rfl,<-Int.ofNat_tdiv]
 have g:Int.tmod (c:Int) 10=((c%10:Nat):Int):=by
  rw [show (10:Int)=((10:Nat):Int) from rfl,<-Int.ofNat_tmod]
 have j:c / 10<10:=by omega
 have f:c%10<10:=by omega
 unfold aO;rw [k,g];have d:IntKind.wrap .i64 ((c / 10:Nat):Int)=((c / 10:Nat):Int):=wrap_i64 _ (by omega) (by omega);have h:IntKind.wrap .i64 (((c / 10:Nat):Int)+1)=((c / 10+1:Nat):Int):=by rw [wrap_i64 _ (by omega) (by omega)];omega
 have e:IntKind.wrap .i64 (((c%10:Nat):Int)+1)=((c%10+1:Nat):Int):=by rw [wrap_i64 _ (by omega) (by omega)];omega
 rw [d,h,e,ct (by omega),ct (by omega)];show ob (bx (c / 10+1) ((c / 10:Nat):Int)) _=_;rw [ct (by omega)];show ob (bx (c%10+1) ((c%10:Nat):Int)) _=_;rw [ct (by omega)];unfold two;generalize c / 10=a at *;generalize c%10=b at *;have:((List.range 10).all λa=>(List.range 10).all λb=>ob (cat (List.drop a (List.take (a+1) ([48,49,50,51,52,53,54,55,56,57]:aa))) (List.drop b (List.take (b+1) ([48,49,50,51,52,53,54,55,56,57]:aa)))) (λs=>some s)==some [UInt8.ofNat (48+a),UInt8.ofNat (48+b)])=true:=by decide +kernel
 have i:=(bS.1 ((bS.1 this) a (by simpa using j))) b (by simpa using f);simpa using i
theorem Lm {m:aa} (h:∀j,j<21->m≠two (21+j)):sea m=0:=by
 rcases mK m with a | ⟨j,b,e⟩
 ·exact a
 ·exact absurd e (h j b)
theorem tP (n:Nat) (g l:Bool) (dg:aa) (x q:Int) (m d:aa) (k0 k1 k2:Int):∀(r j:Nat),j+r=21->(∀i,i<j->m≠two (21+i))->∀N,r<N->
  aw (bC n) N (((21+j:Nat):Int),g,l,dg,x,q,m,d,k0,k1,k2)=some (if sea m=0 then .inr () else .inl (sea m)):=by
 intro r
 induction r with
 | zero=>
  intro j e a N f;obtain ⟨N,rfl⟩:∃k,N=k+1:=⟨N - 1,by omega⟩;have c:sea m=0:=Lm (λi hi=>a i (by omega));rw [aw];have:bC n (((21+j:Nat):Int),g,l,dg,x,q,m,d,k0,k1,k2)=some (.inr (.inr ())):=by
   unfold bC;rw [bG,ab (by show ¬(((21+j:Nat):Int)<=41);omega)]
  rw [this,ae c]
 | succ r ih=>
  intro j e a N f;obtain ⟨N,rfl⟩:∃k,N=k+1:=⟨N - 1,by omega⟩;rw [aw];by_cases b:m=two (21+j)
  ·have c:sea m=((21+j:Nat):Int):=by rw [b];exact lK (by omega)
   have:bC n (((21+j:Nat):Int),g,l,dg,x,q,m,d,k0,k1,k2)=some (.inr (.inl ((21+j:Nat):Int))):=by
    unfold bC;rw [bG,ae (by show ((21+j:Nat):Int)<=41;omega)];show ob (aO n ((21+j:Nat):Int)) _=_;rw [G9 n (by omega)];show cond (m==two (21+j)) _ _=_;rw [gP,ae b]
   rw [this,c,ab (by omega)]
  ·have:bC n (((21+j:Nat):Int),g,l,dg,x,q,m,d,k0,k1,k2)=some (.inl (((21+(j+1):Nat):Int),g,l,dg,x,q,m,d,k0,k1,k2)):=by
    unfold bC;rw [bG,ae (by show ((21+j:Nat):Int)<=41;omega)];show ob (aO n ((21+j:Nat):Int)) _=_;rw [G9 n (by omega)];show cond (m==two (21+j)) _ _=_;rw [gP,ab b];have:IntKind.wrap .i64 (((21+j:Nat):Int)+1)=((21+(j+1):Nat):Int):=by rw [wrap_i64 _ (by omega) (by omega)];omega
    show some (Sum.inl (IntKind.wrap .i64 (((21+j:Nat):Int)+1),_))=_;rw [this]
   rw [this]
   exact ih (j+1) (by omega) (λi hi=>by
    rcases aF i j with h | h
    ·exact a i h
    ·have:i=j:=by omega
     rw [this];exact b) N (by omega)
theorem mU (n:Nat) (a:100<n) (g l:Bool) (dg:aa) (x q:Int) (m d:aa) (k0 k1 k2:Int):aN n g l dg x q m d k0 k1 k2=some (sea m):=by
 unfold aN;have:=tP n g l dg x q m d k0 k1 k2 21 0 rfl (λi hi=>absurd hi (by omega)) n (by omega);rw [show ((21+0:Nat):Int)=21 from rfl] at this;rw [this];by_cases h:sea m=0
 ·rw [ae h,h];rfl
 ·rw [ab h];rfl
def agr (s:aa) (k:Nat):Bool:=match s with
 | [a,b]=>(a==88||a==UInt8.ofNat (48+k / 10))&&(b==88||b==UInt8.ofNat (48+k%10))
 | _=>false
def dN (s:aa) (g:Nat):Bool:=(List.range g).any λi=>agr s (i+1)
theorem Du {X Y:Type} {step:X->Option (X⊕Y)} {f:Nat->X} {p:Nat->Bool} {g:Nat} {yes no:Y} (h:∀k,1<=k->k<=g->step (f k)=some (if p k then .inr yes else .inl (f (k+1)))) (d:step (f (g+1))=some (.inr no)) {N:Nat} (b:g<N):
  aw step N (f 1)=some (if (List.range g).any (λi=>p (i+1)) then yes else no):=by
 have l:∀(r j:Nat),j+r=g->(∀i,i<j->p (i+1)=false)->∀N,r<N->aw step N (f (j+1))=some (if (List.range g).any (λi=>p (i+1)) then yes else no):=by
  intro r
  induction r with
  | zero=>
   intro j e a N b;obtain ⟨N,rfl⟩:∃k,N=k+1:=⟨N - 1,by omega⟩;have:(List.range g).any (λi=>p (i+1))=false:=by
    rw [pZ];intro i hi;rw [a i (by have:=jy.1 hi;omega)];simp
   rw [aw,show j+1=g+1 by omega,d,this];rfl
  | succ r ih=>
   intro j e a N b;obtain ⟨N,rfl⟩:∃k,N=k+1:=⟨N - 1,by omega⟩;rw [aw,h (j+1) (by omega) (by omega)];cases c:p (j+1) with
   | true=>
    have:(List.range g).any (λi=>p (i+1))=true:=pT.2 ⟨j,jy.2 (by omega),c⟩;rw [this];rfl
   | false=>
    exact ih (j+1) (by omega) (λi hi=>by
     rcases aF i j with h | h
     ·exact a i h
     ·have:i=j:=by omega
      rw [this];exact c) N (by omega)
 exact l g 0 (by omega) (λi hi=>absurd hi (by omega)) N b
theorem sM {a:UInt8} {k:Nat} (b:k<256):((((a.toNat:Nat):Int))==((k:Nat):Int))=(a==UInt8.ofNat k):=by
 have h:(UInt8.ofNat k).toNat=k:=by simp;omega
 rw [<-lH,h]
theorem LZ (n:Nat) (a b:UInt8) {g k:Nat} (s:1<=k) (q:k<=g) (r:g<=31):
  cM n ([a,b],(g:Int),(k:Int))=some (if agr [a,b] k then .inr (.inl true) else .inl ([a,b],(g:Int),((k+1:Nat):Int))):=by
 have h:Int.tdiv (k:Int) 10=((k / 10:Nat):Int):=by
  rw [show (10:Int)=((10:Nat):Int) from rfl,<-Int.ofNat_tdiv]
 have j:Int.tmod (k:Int) 10=((k%10:Nat):Int):=by
  rw [show (10:Int)=((10:Nat):Int) from rfl,<-Int.ofNat_tmod]
 have d:IntKind.wrap .u8 (48+IntKind.wrap .u8 (IntKind.wrap .i64 (Int.tdiv (k:Int) 10)))=((48+k / 10:Nat):Int):=by
  rw [h,wrap_i64 _ (by omega) (by omega),ig ((k / 10:Nat):Int) (by omega) (by omega),ig _ (by omega) (by omega)];omega
 have m:IntKind.wrap .u8 (48+IntKind.wrap .u8 (Int.tmod (k:Int) 10))=((48+k%10:Nat):Int):=by
  rw [j,ig ((k%10:Nat):Int) (by omega) (by omega),ig _ (by omega) (by omega)];omega
 have e:IntKind.wrap .i64 ((k:Int)+1)=((k+1:Nat):Int):=by rw [wrap_i64 _ (by omega) (by omega)];omega
 have c:(88:Int)=((88:Nat):Int):=rfl;have s0:sx [a,b] 0=some a:=rfl;have f:sx [a,b] 1=some b:=rfl;unfold cM;rw [bG,ae (show (k:Int)<=(g:Int) by omega)];simp only [s0,f,ob,d,m,e];rw [c,sM (by omega),sM (by omega),sM (by omega),sM (by omega)];show _=some (if ((a==UInt8.ofNat 88||a==UInt8.ofNat (48+k / 10))&&(b==UInt8.ofNat 88||b==UInt8.ofNat (48+k%10)))=true then _ else _);generalize (a==UInt8.ofNat 88)=i;generalize (b==UInt8.ofNat 88)=p;generalize (a==UInt8.ofNat (48+k / 10))=l;generalize (b==UInt8.ofNat (48+k%10))=o;cases i<;>cases p<;>cases l<;>cases o<;>rfl
theorem Aj (n:Nat) (m:100<n) (s:aa) (g:Nat) (e:g<=31):cE n s (g:Int)=some (dN s g):=by
 unfold cE;by_cases c:s.length=2
 ·obtain ⟨a,b,rfl⟩:∃a b,s=[a,b]:=by
   match s,c with
   | [a,b],_=>exact ⟨a,b,rfl⟩
  have d:cM n ([a,b],(g:Int),((g+1:Nat):Int))=some (.inr (.inr ())):=by
   unfold cM;rw [bG,ab (show ¬((g+1:Nat):Int)<=(g:Int) by omega)]
  have:=Du (f:=λk=>([a,b],(g:Int),((k:Nat):Int))) (p:=agr [a,b]) (g:=g) (N:=n) (λk l j=>LZ n a b l j e) d (by omega);show ob (aw (cM n) n ([a,b],(g:Int),((1:Nat):Int))) _=_;rw [this];unfold dN;split<;>simp_all [ob]
 ·rw [show (((s.length:Nat):Int) != 2)=true by simp;omega];have:dN s g=false:=by
   unfold dN;rw [pZ];intro i _
   match s,c with
   | [],_=>simp [agr]
   | [_],_=>simp [agr]
   | [_,_],h=>exact absurd rfl h
   | _::_::_::_,_=>simp [agr]
  rw [this];rfl
theorem sy (n:Nat) (s:aa) (k:Nat) (l:k<100):dA n s (k:Int)=some (if agr s k then 1 else 0):=by
 unfold dA;rw [G9 n l];show cond _ _ _=_;by_cases d:s.length=2
 ·obtain ⟨a,b,rfl⟩:∃a b,s=[a,b]:=by
   match s,d with
   | [a,b],_=>exact ⟨a,b,rfl⟩
  have s0:sx [a,b] 0=some a:=rfl;have e:sx [a,b] 1=some b:=rfl;have i:sx (two k) 0=some (UInt8.ofNat (48+k / 10)):=rfl;have f:sx (two k) 1=some (UInt8.ofNat (48+k%10)):=rfl;have c:(88:Int)=((88:Nat):Int):=rfl;rw [show (((([a,b]:aa).length:Nat):Int)==2)=true from rfl];simp only [s0,e,i,f,ob,aj];rw [c,sM (by omega),sM (by omega),lH,lH];show _=some (if ((a==UInt8.ofNat 88||a==UInt8.ofNat (48+k / 10))&&(b==UInt8.ofNat 88||b==UInt8.ofNat (48+k%10)))=true then _ else _);generalize (a==UInt8.ofNat 88)=g;generalize (b==UInt8.ofNat 88)=o;generalize (a==UInt8.ofNat (48+k / 10))=m;generalize (b==UInt8.ofNat (48+k%10))=j;cases g<;>cases o<;>cases m<;>cases j<;>rfl
 ·rw [show (((s.length:Nat):Int)==2)=false by simp;omega];have:agr s k=false:=by
   match s,d with
   | [],_=>rfl
   | [_],_=>rfl
   | [_,_],h=>exact absurd rfl h
   | _::_::_::_,_=>rfl
  rw [this];rfl
theorem C7 (n:Nat) (e:100<n) (s:aa) (g:Nat) (c:g<=31):dh n s (g:Int)=some (if dN s g then 1 else 0):=by
 unfold dh;have b:da n (s,(g:Int),((g+1:Nat):Int))=some (.inr (.inr ())):=by
  unfold da;rw [bG,ab (show ¬((g+1:Nat):Int)<=(g:Int) by omega)]
 have:=Du (f:=λk=>(s,(g:Int),((k:Nat):Int))) (p:=agr s) (g:=g) (N:=n) (step:=da n) (yes:=.inl 1) (no:=.inr ()) (λk h d=>by
  unfold da;rw [bG,ae (show (k:Int)<=(g:Int) by omega)];show ob (dA n s (k:Int)) _=_;rw [sy n s k (by omega)];have a:IntKind.wrap .i64 ((k:Int)+1)=((k+1:Nat):Int):=by rw [wrap_i64 _ (by omega) (by omega)];omega
  simp only [ob,a];cases agr s k<;>rfl) b (by omega)
 show ob (aw (da n) n (s,(g:Int),((1:Nat):Int))) _=_;rw [this];unfold dN;split<;>simp_all [ob]
theorem uh (n:Nat) {a b:Int} (t:1<b) (s:b<1000) (w:-4611686018427387904<=a) (m:a<4611686018427387904):ki n a b=some (a / b,0):=by
 have p:(b==0)=false:=by simp;omega
 have j:(b==-1)=false:=by simp;omega
 unfold ki;simp only [p,j,af];have v:a / b*b+a%b=a:=Int.ediv_mul_add_emod a b;have u:=IX a (show b≠0 by omega);have r:=HW a (show 0<b by omega);have o:-4611686018427387904<=a / b:=by
  rw [Int.le_ediv_iff_mul_le (by omega)];have:(-4611686018427387904:Int)*b<=-4611686018427387904*1:=Int.mul_le_mul_of_nonpos_left (by omega) (by omega);omega
 have k:a / b<4611686018427387904:=by
  rw [Int.ediv_lt_iff_lt_mul (by omega)];have:(4611686018427387904:Int)*1<=4611686018427387904*b:=Int.mul_le_mul_of_nonneg_left (by omega) (by omega);omega
 by_cases g:0<=a
 ·have d:Int.tdiv a b=a / b:=M7 g;have e:decide (a<0)=false:=by simp;omega
  have d2:decide (b<0)=false:=by simp;omega
  rw [d,e,d2,wrap_i64 (a / b) (by omega) (by omega)];cases (Int.tmod a b != 0)<;>rfl
 ·have e:decide (a<0)=true:=by simp;omega
  have d2:decide (b<0)=false:=by simp;omega
  have d:=Int.tdiv_eq_ediv (a:=a) (b:=b);have i:=GV (a:=a) (b:=b);rw [e,d2];by_cases c:b∣a
  ·have f:Int.tmod a b=0:=by
    rw [i,ae (.inr c)];have:=Int.emod_eq_zero_of_dvd c;omega
   rw [f,d,ae (.inr c)];rw [Int.add_zero,wrap_i64 (a / b) (by omega) (by omega)];rfl
  ·have l:a%b≠0:=λh=>c (IJ h);have f:(Int.tmod a b != 0)=true:=by
    rw [i,ab (by rintro (h | h);exact g h;exact c h)];simp;omega
   have q:b.sign=1:=Int.sign_eq_one_of_pos (by omega);rw [f,d,ab (by rintro (h | h);exact g h;exact c h),q];rw [wrap_i64 (a / b+1) (by omega) (by omega),Int.add_sub_cancel,wrap_i64 (a / b) (by omega) (by omega)];rfl
theorem Q4 (n:Nat) {a b:Int} (o:1<b) (l:b<1000):tg n a b=some (a%b,0):=by
 have e:(b==0)=false:=by simp;omega
 have f:(b==-1)=false:=by simp;omega
 unfold tg;simp only [e,f,af];have m:=IX a (show b≠0 by omega);have k:=HW a (show 0<b by omega);have c:=GV (a:=a) (b:=b);have d2:decide (b<0)=false:=by simp;omega
 by_cases hc:0<=a\/b∣a
 ·rw [ae hc] at c;have:Int.tmod a b=a%b:=by omega
  rw [this,d2];have d:decide (a%b<0)=false:=by simp;omega
  rw [d];cases h:(a%b != 0)
  ·rfl
  ·rfl
 ·rw [ab hc] at c;have g:(b.natAbs:Int)=b:=by omega
  rw [g] at c;have i:a%b≠0:=λh=>hc (.inr (IJ h));have j:(Int.tmod a b != 0)=true:=by simp;omega
  have d:decide (Int.tmod a b<0)=true:=by simp;omega
  rw [j,d,d2,c,wrap_i64 _ (by omega) (by omega),J0];rfl
def dE (y:Int):Prop:=-10000000000000000<=y/\y<=10000000000000000
instance (y:Int):Decidable (dE y):=by unfold dE;infer_instance
theorem fk (n:Nat) (y:Int):g9 n y=some (if dE y then 0 else 6):=by
 unfold g9;rw [bG,bG];by_cases a:y < -10000000000000000
 ·rw [ae a,ab (show ¬dE y by unfold dE;omega)]
 ·by_cases b:y>10000000000000000
  ·rw [ab a,ae b,ab (show ¬dE y by unfold dE;omega)]
  ·rw [ab a,ab b,ae (show dE y by unfold dE;omega)]
theorem qF (n:Nat) {y:Int} (h:-20000000000000000<=y/\y<=20000000000000000):∃z,eI n y=some z:=by
 unfold eI;rw [wrap_i64 (y - 1) (by omega) (by omega),uh n (by omega) (by omega) (by omega) (by omega),uh n (by omega) (by omega) (by omega) (by omega),uh n (by omega) (by omega) (by omega) (by omega)];exact ⟨_,rfl⟩
theorem Ho (n:Nat) {y:Int} (h:dE y):∃b e,jd n y=some (b,e):=by
 unfold jd;have h':=h;unfold dE at h';obtain ⟨z1,c⟩:=qF n (y:=y+1) (by omega);obtain ⟨z2,a⟩:=qF n (y:=y) (by omega);rw [fk,ae h,wrap_i64 (y+1) (by omega) (by omega),c,a];exact ⟨_,_,rfl⟩
theorem ql (n:Nat) {y:Int} (h:dE y) {m:Nat} (d:1<=m) (c:m<=12):∃v,dH n y (m:Int)=some v:=by
 unfold dH;obtain ⟨b,e,a⟩:=Ho n h;rw [a];show ∃v,cond (b&&((m:Int)==2)) _ _=some v;cases (b&&((m:Int)==2)) with
 | true=>exact ⟨_,rfl⟩
 | false=>
  have:IntKind.wrap .i64 ((m:Int) - 1)=((m - 1:Nat):Int):=by rw [wrap_i64 _ (by omega) (by omega)];omega
  rw [this,fg (by omega)];have a:sZ.length=12:=rfl;exact ⟨_,bj (show m - 1<sZ.length by omega)⟩
theorem DG (n:Nat) {y:Int} (h:dE y) {m:Nat} (b:1<=m) (a:m<=12):jf n y (m:Int)=some 0:=by
 unfold jf;rw [fk,ae h];show cond (decide ((m:Int)<1)) _ _=_;rw [bG,bG,ab (by omega),ab (by omega)]
theorem Gn (n:Nat) {y:Int} (h:dE y) {m:Nat} (e:m<=11):∀(r j:Nat),j+r=m->∀(a:Int) (N:Nat),r<N->∃v,aw (bv n) N (y,a,(m:Int),(j:Int))=some v:=by
 intro r
 induction r with
 | zero=>
  intro j d a N c;obtain ⟨N,rfl⟩:∃k,N=k+1:=⟨N - 1,by omega⟩;have:bv n (y,a,(m:Int),(j:Int))=some (.inr a):=by
   unfold bv;rw [bG,ab (show ¬((j:Int)<(m:Int)) by omega)]
  rw [aw,this];exact ⟨_,rfl⟩
 | succ r ih=>
  intro j d a N c;obtain ⟨N,rfl⟩:∃k,N=k+1:=⟨N - 1,by omega⟩;obtain ⟨v,b⟩:=ql n h (m:=j+1) (by omega) (by omega);have w:IntKind.wrap .i64 ((j:Int)+1)=((j+1:Nat):Int):=by rw [wrap_i64 _ (by omega) (by omega)];omega
  have:bv n (y,a,(m:Int),(j:Int))=some (.inl (y,IntKind.wrap .i64 (a+v),(m:Int),((j+1:Nat):Int))):=by
   unfold bv;rw [bG,ae (show ((j:Int)<(m:Int)) by omega)];simp only [w,b,ob]
  rw [aw,this];exact ih (j+1) (by omega) _ N (by omega)
theorem Jk (n:Nat) (d:100<n) {y:Int} (h:dE y) {m:Nat} (b:1<=m) (a:m<=12):∃v,eH n y (m:Int)=some (v,0):=by
 unfold eH jQ ka;have h':=h;unfold dE at h';obtain ⟨z,e⟩:=qF n (y:=y) (by omega);have w:IntKind.wrap .i64 ((m:Int) - 1)=((m - 1:Nat):Int):=by rw [wrap_i64 _ (by omega) (by omega)];omega
 rw [DG n h b a,fk,ae h,e,w];obtain ⟨v,c⟩:=Gn n h (m:=m - 1) (by omega) (m - 1) 0 (by omega) (IntKind.wrap .i64 (IntKind.wrap .i64 (365*y)+z)) n (by omega);refine ⟨v,?_⟩;show ob (aw (bv n) n (y,IntKind.wrap .i64 (IntKind.wrap .i64 (365*y)+z),((m - 1:Nat):Int),((0:Nat):Int))) _=_;rw [c];rfl
theorem madd (n:Nat) {y:Int} (h:dE y) {m c:Nat} (k:1<=m) (i:m<=12) (hc:1<=c) (j:c<=6):mG n y (m:Int) (IntKind.wrap .i64 ((c:Int) - 1)) =
  some (if 12<m+c - 1 then (if y=10000000000000000 then (0,0,6) else (y+1,((m+c - 1 - 12:Nat):Int),0)) else (y,((m+c - 1:Nat):Int),0)):=by
 have h':=h;unfold dE at h';unfold mG;rw [DG n h k i,wrap_i64 (12*y) (by omega) (by omega),wrap_i64 ((m:Int) - 1) (by omega) (by omega),wrap_i64 (12*y+((m:Int) - 1)) (by omega) (by omega),wrap_i64 ((c:Int) - 1) (by omega) (by omega)];have l:pK n (12*y+((m:Int) - 1)) ((c:Int) - 1)=some (12*y+((m:Int) - 1)+((c:Int) - 1),0):=by
  unfold pK;rw [wrap_i64 (12*y+((m:Int) - 1)+((c:Int) - 1)) (by omega) (by omega),gP];by_cases a:(c:Int) - 1=0
  ·rw [ae a];have b:decide (12*y+((m:Int) - 1)>12*y+((m:Int) - 1))=false:=by simp
   have d2:decide ((c:Int) - 1>0)=false:=by simp;omega
   rw [b,d2,a,Int.add_zero];rfl
  ·rw [ab a];have b:decide (12*y+((m:Int) - 1)+((c:Int) - 1)>12*y+((m:Int) - 1))=true:=by simp;omega
   have d2:decide ((c:Int) - 1>0)=true:=by simp;omega
   rw [b,d2];rfl
 simp only [ob,l,gO,af];rw [uh n (by omega) (by omega) (by omega) (by omega),Q4 n (by omega) (by omega)];simp only [fk];by_cases f:12<m+c - 1
 ·have e:(12*y+((m:Int) - 1)+((c:Int) - 1)) / 12=y+1:=by omega
  have d:(12*y+((m:Int) - 1)+((c:Int) - 1))%12=((m+c - 1 - 12:Nat):Int) - 1:=by omega
  rw [e,d,ae f];by_cases g:y=10000000000000000
  ·rw [ae g,ab (show ¬dE (y+1) by unfold dE;omega)];rfl
  ·rw [ab g,ae (show dE (y+1) by unfold dE;omega),wrap_i64 (((m+c - 1 - 12:Nat):Int) - 1+1) (by omega) (by omega),J0];rfl
 ·have e:(12*y+((m:Int) - 1)+((c:Int) - 1)) / 12=y:=by omega
  have d:(12*y+((m:Int) - 1)+((c:Int) - 1))%12=((m+c - 1:Nat):Int) - 1:=by omega
  rw [e,d,ab f,ae h,wrap_i64 (((m+c - 1:Nat):Int) - 1+1) (by omega) (by omega),J0];rfl
theorem D2 {j:Nat} (b:j<21):∃m c:Nat,lV[j]?=some ((m:Int),(c:Int))/\1<=m/\m<=12/\1<=c/\c<=6/\(12<m+c - 1↔j=3\/j=7\/j=9):=by
 have:((List.range 21).all λj=>match lV[j]? with
  | some (m,c)=>decide (0<=m)&&decide (0<=c)&&decide (1<=m.toNat)&&decide (m.toNat<=12)&&decide (1<=c.toNat)&&decide (c.toNat<=6)&&(decide (12<m.toNat+c.toNat - 1)==decide (j=3\/j=7\/j=9))
  | none=>false)=true:=by decide +kernel
 have h:=(bS.1 this) j (by simpa using b);split at h
 ·rename_i m c e;simp only [aA,bZ,bg,lR] at h;obtain ⟨⟨⟨⟨⟨⟨l,f⟩,g⟩,a⟩,k⟩,d⟩,i⟩:=h;exact ⟨m.toNat,c.toNat,by rw [e,Dx l,Dx f],g,a,k,d,i⟩
 ·cases h
theorem Q3 (n:Nat) (p:100<n) {y:Int} (h:dE y) {j:Nat} (s:j<21):
  ∃a b c d,gj n y ((21+j:Nat):Int)=some (a,b,c,d,if y=10000000000000000/\(j=3\/j=7\/j=9) then 6 else 0):=by
 obtain ⟨m,c,e,z,t,C,A,r⟩:=D2 s;have B:eG n ((21+j:Nat):Int)=some ((m:Int),(c:Int),0):=by
  unfold eG db;rw [bG,bG,ab (by omega),ab (by omega)];have:IntKind.wrap .i64 (((21+j:Nat):Int) - 21)=(j:Int):=by rw [wrap_i64 _ (by omega) (by omega)];omega
  rw [this,fg s];show ob (lV[j]?) _=_;rw [e];rfl
 obtain ⟨v,D⟩:=Jk n p h z t;unfold gj;rw [B];show ∃a b c d,ob (eH n y (m:Int)) _=_;rw [D];show ∃a b w d,ob (mG n y (m:Int) (IntKind.wrap .i64 ((c:Int) - 1))) _=_;rw [madd n h z t C A];have h':=h;unfold dE at h';by_cases k:12<m+c - 1
 ·rw [ae k];by_cases i:y=10000000000000000
  ·rw [ae i,ae ⟨i,r.1 k⟩];exact ⟨_,_,_,_,rfl⟩
  ·rw [ab i,ab (λx=>i x.1)];have g:dE (y+1):=by unfold dE;omega
   obtain ⟨l,f⟩:=Jk n p g (m:=m+c - 1 - 12) (by omega) (by omega);obtain ⟨u,q⟩:=ql n g (m:=m+c - 1 - 12) (by omega) (by omega);have o:fW n (y+1) ((m+c - 1 - 12:Nat):Int)=some (IntKind.wrap .i64 (IntKind.wrap .i64 (l+u) - 1),0):=by
    unfold fW;rw [f,q];rfl
   show ∃a b w d,ob (fW n (y+1) ((m+c - 1 - 12:Nat):Int)) _=_;rw [o];exact ⟨_,_,_,_,rfl⟩
 ·rw [ab k,ab (λx=>k (r.2 x.2))];obtain ⟨l,f⟩:=Jk n p h (m:=m+c - 1) (by omega) (by omega);obtain ⟨u,q⟩:=ql n h (m:=m+c - 1) (by omega) (by omega);have o:fW n y ((m+c - 1:Nat):Int)=some (IntKind.wrap .i64 (IntKind.wrap .i64 (l+u) - 1),0):=by
   unfold fW;rw [f,q];rfl
  show ∃a b w d,ob (fW n y ((m+c - 1:Nat):Int)) _=_;rw [o];exact ⟨_,_,_,_,rfl⟩
def hasB (set:aa) (c:UInt8):Bool:=set.any λd=>d==c
theorem nF (set:aa) (c:UInt8):(decide (Lib.indexByte set c<0))=!hasB set c:=by
 induction set with
 | nil=>simp [Lib.indexByte,hasB]
 | cons d l ih=>
  have e:=Lib.indexByte_ge l c;simp only [hasB,oh] at ih ⊢;unfold Lib.indexByte;by_cases h:d=c
  ·simp [h]
  ·have f:(d==c)=false:=by simpa using h
   simp only [f,bq,aE,nP];rw [<-ih];by_cases b:Lib.indexByte l c=-1
   ·simp [b]
   ·have a:(Lib.indexByte l c==-1)=false:=by simpa using b
    simp only [a,bq,aE];have:¬Lib.indexByte l c+1<0:=by omega
    have:¬Lib.indexByte l c<0:=by omega
    simp [*]
theorem nl (set:aa) (c:UInt8):(decide (Lib.indexByte set c>=0))=hasB set c:=by
 have:=nF set c;by_cases h:Lib.indexByte set c<0
 ·have a:¬Lib.indexByte set c>=0:=by omega
  simp only [h,a,me,ly] at this ⊢;revert this;cases hasB set c<;>simp
 ·have a:Lib.indexByte set c>=0:=by omega
  simp only [h,a,me,ly] at this ⊢;revert this;cases hasB set c<;>simp
def lcp:aa->aa->Nat
 | c::s,d::t=>if c==d then lcp s t+1 else 0
 | _,_=>0
theorem uS:∀s t:aa,lcp s t<=s.length
 | [],_=>by simp [lcp]
 | _::_,[]=>by simp [lcp]
 | c::s,d::t=>by
  have:=uS s t;simp only [lcp,bf];split<;>omega
def br (p:UInt8->Bool):Nat->aa->Nat
 | 0,_=>0
 | _+1,[]=>0
 | k+1,c::l=>if p c then br p k l+1 else 0
theorem km (p:UInt8->Bool):∀(k:Nat) (l:aa),br p k l<=l.length
 | 0,_=>by simp [br]
 | _+1,[]=>by simp [br]
 | k+1,c::l=>by
  have:=km p k l;simp only [br,bf];split<;>omega
theorem rx (n:Nat) (S:aa) (a:Nat) (h:a<=S.length):bW n S (a:Int)=some (S.drop a):=by
 simp [bW,ob,ct h]
theorem AX (n:Nat) (s p:aa):iq n s p=some (s.take p.length==p):=by
 simp only [iq,fA,jV];by_cases h:p.length<=s.length
 ·simp [h,ob,ct h]
 ·have:(s.take p.length==p)=false:=by
   rw [aM];intro e;have:=cK List.length e;rw [cN] at this;omega
  simp [h,ob,this]
theorem Jm (n:Nat) (t S:aa) (a:Nat) (h:a<=S.length):eJ n t S (a:Int)=some ((S.drop a).take t.length==t):=by
 simp [eJ,rx n S a h,ob,AX]
theorem li (n:Nat) (t S:aa) (a:Nat) (h:a<=S.length) (d:S.length<4611686018427387904):
  aB n t S (a:Int)=some (if (S.drop a).take t.length=t then (true,S,((a+t.length:Nat):Int)) else (false,S,(a:Int))):=by
 simp only [aB,Jm n t S a h,ob];by_cases b:(S.drop a).take t.length=t
 ·have e:t.length<=S.length - a:=by
   have:=cK List.length b;simp at this;omega
  have c:IntKind.wrap .i64 ((a:Int)+((t.length:Nat):Int))=((a+t.length:Nat):Int):=by rw [wrap_i64 _ (by omega) (by omega)];omega
  simp [b,c]
 ·simp only [E8,gP,b,aE]
theorem zw (n:Nat) (S:aa) (i:Int):bs n S i=some i:=rfl
def peek (l:aa):Int×Bool:=match l with | c::_=>(((c.toNat:Nat):Int),true) | []=>(0,false)
theorem np (n:Nat) (S:aa) (a:Nat) (h:a<=S.length):aX n S (a:Int)=some (peek (S.drop a)):=by
 simp only [aX,rx n S a h,ob];rcases aF a S.length with d | b
 ·obtain ⟨c,hc⟩:∃c,S[a]?=some c:=⟨S[a],bj d⟩;rw [bT hc];simp [dF hc,peek]
 ·rw [iD b];simp [peek]
theorem tw (n:Nat) (a e:Int) (S:aa) (i:Int):aK n a e S i=some (a,if e=0 then 5 else e):=by
 simp only [aK,gP];by_cases h:e=0<;>simp [h]
theorem fL (n:Nat) (set:aa) (c:UInt8):cU n set ((c.toNat:Nat):Int)=some (Lib.indexByte set c):=by
 simp only [cU,cw,ob,Tc]
theorem yA (n:Nat) (set S:aa) (a:Nat) (h:a<=S.length) (f:S.length<4611686018427387904):
  bU n set S (a:Int)=some (match S.drop a with | c::_=>if hasB set c then .inr (((c.toNat:Nat):Int),S,((a+1:Nat):Int)) else .inl ((a:Int),5,S,(a:Int)) | []=>.inl ((a:Int),5,S,(a:Int))):=by
 simp only [bU,np n S a h,ob];rcases aF a S.length with b | d
 ·obtain ⟨c,hc⟩:∃c,S[a]?=some c:=⟨S[a],bj b⟩;have e:IntKind.wrap .i64 ((a:Int)+1)=((a+1:Nat):Int):=by rw [wrap_i64 _ (by omega) (by omega)];omega
  rw [bT hc];simp only [peek,cV,af,fL,nF,zw,tw,ob,e];cases hasB set c<;>simp
 ·rw [iD d];simp [peek,zw,tw,ob]
theorem nE (S:aa) (a k:Nat):List.drop a (List.take (a+k) S)=(S.drop a).take k:=by
 rw [uB];congr 1;omega
theorem yQ (n:Nat) (set:aa) (d b:Int) (S:aa) (a:Nat) (h:a<=S.length) (p:S.length<4611686018427387904) (q:S.length<n):
  aw (cv n) n (set,d,b,(a:Int),(peek (S.drop a)).1,(peek (S.drop a)).2,S,(a:Int)) =
   some (d,(a:Int),S,((a+br (hasB set) b.toNat (S.drop a):Nat):Int)):=by
 have:=eO (step:=cv n)
  (λx=>∃j:Nat,a+j<=S.length/\x=(set,d,b,(a:Int),(peek (S.drop (a+j))).1,(peek (S.drop (a+j))).2,S,((a+j:Nat):Int)))
  (λx=>S.length - x.2.2.2.2.2.2.2.toNat)
  (λx=>(d,(a:Int),S,((x.2.2.2.2.2.2.2.toNat+br (hasB set) (b.toNat - (x.2.2.2.2.2.2.2.toNat - a)) (S.drop x.2.2.2.2.2.2.2.toNat):Nat):Int))) ?_ n
  (set,d,b,(a:Int),(peek (S.drop a)).1,(peek (S.drop a)).2,S,(a:Int)) ⟨0,by omega,by simp⟩ (by simp;omega)
 ·simpa using this
 rintro x ⟨j,o,rfl⟩;simp only [bI];have e:IntKind.wrap .i64 (((a+j:Nat):Int) - (a:Int))=(j:Int):=by rw [wrap_i64 _ (by omega) (by omega)];omega
 rcases aF (a+j) S.length with g | f
 ·obtain ⟨c,hc⟩:∃c,S[a+j]?=some c:=⟨S[a+j],bj g⟩;have m:IntKind.wrap .i64 (((a+j:Nat):Int)+1)=((a+(j+1):Nat):Int):=by rw [wrap_i64 _ (by omega) (by omega)];omega
  simp only [cv,bT hc,peek,aj,e];by_cases i:(j:Int)<b
  ·obtain ⟨k,l⟩:∃k,b.toNat - (a+j - a)=k+1:=⟨b.toNat - j - 1,by omega⟩;simp only [i,me,aj,fL,ob,nl,l,br];cases r:hasB set c with
   | true=>
    simp only [m,np n S (a+(j+1)) (by omega),aj];refine .inl ⟨_,rfl,⟨j+1,by omega,rfl⟩,?_,?_⟩
    ·simp only [bI];omega
    ·simp only [bI,bw,ke,aJ];have:b.toNat - (a+(j+1) - a)=k:=by omega
     rw [this,show a+(j+1)=a+j+1 by omega];omega
   | false=>exact .inr (by simp)
  ·refine .inr ?_;have:b.toNat - (a+j - a)=0:=by omega
   simp only [i,ly,af,this,br,cf]
 ·refine .inr ?_;simp only [cv,iD f,peek,af];have:br (hasB set) (b.toNat - (a+j - a)) []=0:=by cases b.toNat - (a+j - a)<;>rfl
  simp only [this,cf]
theorem tz (n:Nat) (set:aa) (c b:Int) (S:aa) (a:Nat) (h:a<=S.length) (g:S.length<4611686018427387904) (i:S.length<n):
  bL n set c b S (a:Int)=some (if ((br (hasB set) b.toNat (S.drop a):Nat):Int)<c
   then .inl (((a+br (hasB set) b.toNat (S.drop a):Nat):Int),5,S,((a+br (hasB set) b.toNat (S.drop a):Nat):Int))
   else .inr ((S.drop a).take (br (hasB set) b.toNat (S.drop a)),S,((a+br (hasB set) b.toNat (S.drop a):Nat):Int))):=by
 have e:=km (hasB set) b.toNat (S.drop a);rw [cZ] at e;simp only [bL,zw,np n S a h,ob];rw [yQ n set c b S a h g i];generalize br (hasB set) b.toNat (S.drop a)=k at e ⊢;have d:IntKind.wrap .i64 (((a+k:Nat):Int) - (a:Int))=(k:Int):=by rw [wrap_i64 _ (by omega) (by omega)];omega
 simp only [d,tw];by_cases f:(k:Int)<c
 ·simp [f]
 ·simp only [f,ly,af,aE];rw [ct (by omega)];simp only;rw [ct (by omega)];simp only [nE]
theorem OG (a b:Nat):(cond (decide (((a:Nat):Int)<((b:Nat):Int))) ((a:Nat):Int) ((b:Nat):Int))=((min a b:Nat):Int):=by
 by_cases h:a<b
 ·simp [h];omega
 ·simp [h];omega
def asc (l:aa):Prop:=∀c∈l,c.toNat<128
theorem HO (r:Int) (h:128<=r):∃p e,(Utf8.encode r).data.toList=p++[e]/\1<=p.length/\p.length<=3/\128<=e.toNat:=by
 unfold Utf8.encode;have hc:128<=(if Utf8.valid r then r.toNat else Utf8.runeError):=by
  split
  ·omega
  ·decide
 generalize (if Utf8.valid r then r.toNat else Utf8.runeError)=c at hc;have a:128<=(UInt8.ofNat (0x80+c%64)).toNat:=by
  simp only [BL];omega
 simp only;split
 ·omega
 ·split
  ·exact ⟨[_],_,rfl,by simp,by simp,a⟩
  ·split
   ·exact ⟨[_,_],_,rfl,by simp,by simp,a⟩
   ·exact ⟨[_,_,_],_,rfl,by simp,by simp,a⟩
theorem I0 {l:aa} (h:asc l) {i:Nat} {c:UInt8} (hi:l[i]?=some c):c.toNat<128:=h c (fD hi)
theorem zB (n:Nat) (set:aa) (h:asc set) (e:set.length<n):aw (dl n) n (set,0)=some (.inr ()):=by
 refine eO (step:=dl n) (λx=>x.1=set) (λx=>set.length - x.2) (λx=>.inr ()) ?_ n _ rfl (by simp;omega);rintro ⟨s,i⟩ rfl;simp only [dl];by_cases hi:i<s.length
 ·have a:Nat.blt i s.length=true:=dn hi;obtain ⟨c,hc⟩:∃c,s[i]?=some c:=⟨s[i],bj hi⟩;have b:=I0 h hc;have d:(((c.toNat:Nat):Int)==65533)=false:=by rw [aM];omega
  simp only [a,aj,yk hc b,d,af];exact .inl ⟨_,rfl,rfl,by simp only;omega,trivial⟩
 ·have a:Nat.blt i s.length=false:=by
   cases a:Nat.blt i s.length with
   | false=>rfl
   | true=>exact absurd (aH a) (by omega)
  simp only [a,af];exact .inr trivial
theorem vZ {l:aa} {c:UInt8} (h:c∉l):Lib.indexByte l c<0:=by
 have a:=nF l c;have e:hasB l c=false:=by
  unfold hasB;rw [pZ];intro x d b;simp only [bg] at b;exact h (b▸d)
 rw [e] at a;simpa using a
theorem zI (n:Nat) (set:aa) (h:asc set) (u:set.length<n) (E:set.length<=100) (r:Int) (s:128<=r):dr n set r=some (-1):=by
 have y:decide ((0:Int)<=r)=true:=am (by omega);have o:decide (r<128)=false:=ar (by omega);simp only [dr,y,o,aj,af];by_cases d:r=65533
 ·have:(r==65533)=true:=bg.2 d;simp only [this,aj,zB n set h u,ob]
 ·have:(r==65533)=false:=aM.2 d;simp only [this,af];obtain ⟨v,w⟩:∃v,dq n r=some v:=by
   unfold dq;generalize decide ((0:Int)<=r)=l;generalize decide (r<55296)=d2;generalize decide ((57343:Int)<r)=B;generalize decide (r<=1114111)=d4;cases l<;>cases d2<;>cases B<;>cases d4<;>exact ⟨_,rfl⟩
  simp only [w,ob];cases v with
  | false=>rfl
  | true=>
   simp only [cV,af];obtain ⟨p,e,z,t,C,D⟩:=HO r s;simp only [z];have q:IntKind.wrap .i64 (((p++[e]).length:Nat) - 1:Int)=(p.length:Int):=by
    rw [wrap_i64 _ (by simp<;>omega) (by simp<;>omega)];simp
   rw [q];obtain ⟨m,rfl⟩:∃m,n=m+1:=⟨n - 1,by omega⟩;have a:dj (m+1) (set,p++[e],(p.length:Int),(p.length:Int))=some (.inr (.inl (-1)))\/dj (m+1) (set,p++[e],(p.length:Int),(p.length:Int))=some (.inr (.inr ())):=by
    simp only [dj,eY];by_cases g:p.length<set.length
    ·obtain ⟨c,hc⟩:∃c,set[p.length]?=some c:=⟨set[p.length],bj g⟩;have k:=I0 h hc;have j:(p++[e])[p.length]?=some e:=by simp
     have f:(((c.toNat:Nat):Int) != ((e.toNat:Nat):Int))=true:=by simp only [bne,jL,aM];omega
     have i:IntKind.wrap .i64 ((p.length:Int)+1)=((p.length+1:Nat):Int):=by rw [wrap_i64 _ (by omega) (by omega)];omega
     have A:e∉List.drop (p.length+1) (List.take set.length set):=by
      intro x;have:=h e (by simpa using List.mem_of_mem_drop x);omega
     left;simp only [g,me,aj,dF hc,dF j,ob,f,i,ct (show p.length+1<=set.length by omega),fL,vZ A]
    ·right;simp only [g,ly,af]
   rcases a with b | b<;>simp only [aw,b,ob]
theorem vY (n:Nat) (set:aa) (c:UInt8) (r:Int) (b:r=((c.toNat:Nat):Int)) (hc:c.toNat<128):dr n set r=some (Lib.indexByte set c):=by
 have a:decide ((0:Int)<=r)=true:=am (by omega);have e:decide (r<128)=true:=am (by omega);have f:IntKind.wrap .u8 r=r:=ig _ (by omega) (by omega);have d:cU n set r=some (Lib.indexByte set c):=by rw [b];exact fL n set c
 simp only [dr,a,e,aj,f,d,ob]
theorem xP (n:Nat) (set:aa) (c:UInt8) (hc:c.toNat<128):dr n set ((c.toNat:Nat):Int)=some (Lib.indexByte set c):=vY n set c _ rfl hc
theorem sW (n:Nat) (set:aa) (c:UInt8) (hc:c.toNat<128):dk n set ((c.toNat:Nat):Int)=some (hasB set c):=by
 simp only [dk,xP n set c hc,ob,nl]
theorem vP (n:Nat) (set:aa) (h:asc set) (a:set.length<n) (c:set.length<=100) (r:Int) (b:128<=r):dk n set r=some false:=by
 simp only [dk,zI n set h a c r b,ob];rfl
theorem s8 (x:Int) (a:0<=x) (b:x<65536):IntKind.wrap .u16 x=x:=by
 show x%65536=x;omega
theorem zG (w a:Nat):BitVec.ofInt w (a:Int)=BitVec.ofNat w a:=by
 apply BitVec.eq_of_toNat_eq;simp
theorem N3 (k:Nat):(2:Int) ^ k=((2 ^ k:Nat):Int):=by simp
theorem Lo (a k:Nat):Int.fdiv (a:Int) (2 ^ k)=((a / 2 ^ k:Nat):Int):=by
 rw [N3 k,Int.fdiv_eq_ediv_of_nonneg _ (Int.natCast_nonneg _)];rfl
def inR (lo hi:Int) (c:UInt8):Bool:=decide (((c.toNat:Nat):Int)>=lo)&&decide (((c.toNat:Nat):Int)<=hi)
def cnt (lo hi:Int) (l:aa):Nat:=l.countP (inR lo hi)
theorem Iw (lo hi:Int) (l:aa):cnt lo hi l<=l.length:=List.countP_le_length
theorem KW (lo hi:Int) {l:aa} {i:Nat} {c:UInt8} (h:l[i]?=some c):cnt lo hi (l.take (i+1))=cnt lo hi (l.take i)+if inR lo hi c then 1 else 0:=by
 unfold cnt;rw [qi,h,List.countP_append];simp [Iq]
theorem Ea (n:Nat) (s:aa) (lo hi:Int) (m:s.length<n) (l:s.length<100000):fw n s lo hi=some ((cnt lo hi s:Nat):Int):=by
 have:=eO (step:=fN n) (λx=>∃i:Nat,i<=s.length/\x=(s,lo,hi,((cnt lo hi (s.take i):Nat):Int),(i:Int))) (λx=>s.length - x.2.2.2.2.toNat) (λ_=>((cnt lo hi s:Nat):Int)) ?_ n (s,lo,hi,0,0) ⟨0,by omega,by simp [cnt]⟩ (by simp;omega)
 ·simp only [fw,this,ob]
 rintro x ⟨i,g,rfl⟩;rcases aF i s.length with a | k
 ·obtain ⟨c,hc⟩:∃c,s[i]?=some c:=⟨s[i],bj a⟩;have b:=KW lo hi hc;have d:=Iw lo hi (s.take i);rw [cN] at d;have h:IntKind.wrap .i64 ((i:Int)+1)=((i+1:Nat):Int):=by rw [wrap_i64 _ (by omega) (by omega)];omega
  have j:IntKind.wrap .i64 (((cnt lo hi (s.take i):Nat):Int)+1)=((cnt lo hi (s.take i)+1:Nat):Int):=by rw [wrap_i64 _ (by omega) (by omega)];omega
  refine .inl ⟨(s,lo,hi,((cnt lo hi (s.take (i+1)):Nat):Int),((i+1:Nat):Int)),?_,⟨i+1,a,rfl⟩,by simp only [bI];omega,rfl⟩;simp only [fN,eY,a,me,aj,dF hc,ob,h,j];rw [b];by_cases e:((c.toNat:Nat):Int)>=lo
  ·by_cases f:((c.toNat:Nat):Int)<=hi
   ·simp [e,f,inR]
   ·simp [e,f,inR]
  ·simp [e,inR]
 ·have:i=s.length:=by omega
  subst this;refine .inr ?_;simp only [fN,eY,CX,ly,af,kN]
theorem JZ (lo hi:Int) (l:aa):cnt lo hi l=l.length↔∀c∈l,inR lo hi c=true:=by
 unfold cnt;rw [List.countP_eq_length]
theorem Lc (lo hi:Int) (l:aa):cnt lo hi l=0↔∀c∈l,inR lo hi c=false:=by
 unfold cnt;rw [List.countP_eq_zero];simp
def aT (c:UInt8):Bool:=inR 48 57 c
theorem bH (c:UInt8):aT c=true↔48<=c.toNat/\c.toNat<=57:=by
 unfold aT inR;simp only [aA,bZ];omega
theorem yJ (c:UInt8):inR 88 88 c=true↔c=88:=by
 unfold inR;simp only [aA,bZ];constructor
 ·intro h;apply fF.1;show c.toNat=88;omega
 ·rintro rfl;decide
theorem G8 (c:UInt8):inR 48 48 c=true↔c=48:=by
 unfold inR;simp only [aA,bZ];constructor
 ·intro h;apply fF.1;show c.toNat=48;omega
 ·rintro rfl;decide
theorem IN:∀l:aa,cnt 48 57 l+cnt 88 88 l<=l.length/\(cnt 48 57 l+cnt 88 88 l=l.length↔∀c∈l,aT c=true\/c=88)
 | []=>by simp [cnt]
 | c::l=>by
  have ih:=IN l;have i:cnt 48 57 (c::l)=cnt 48 57 l+if inR 48 57 c then 1 else 0:=by simp [cnt,Iq]
  have h:cnt 88 88 (c::l)=cnt 88 88 l+if inR 88 88 c then 1 else 0:=by simp [cnt,Iq]
  have f:¬(inR 48 57 c=true/\inR 88 88 c=true):=by
   rintro ⟨b,a⟩;have:=(bH c).1 b;rw [(yJ c).1 a] at this;exact absurd this.2 (by decide)
  rw [i,h,bf];simp only [cq,yF];have d:=yJ c;have g:aT c=inR 48 57 c:=rfl;rw [g];cases b:inR 48 57 c<;>cases a:inR 88 88 c
  ·simp only [b,a] at d ⊢;have:c≠88:=λe=>by simpa using d.2 e
   simp [this];omega
  ·simp only [b,a] at d ⊢;have:c=88:=d.1 trivial;simp only [this,bq,aJ,aE,false_or,ke];rw [<-ih.2];omega
  ·simp only [b,a] at d ⊢;simp only [bq,aJ,aE,true_or,ke];rw [<-ih.2];omega
  ·exact absurd ⟨b,a⟩ f
theorem H7 (n:Nat) (s set:aa) (r:asc set) (t:set.length<n) (v:set.length<=100) (w:s.length<n):
  ∃y,aw (co n) n (true,set,s,0)=some y/\((y=.inr ()/\s.all (hasB set)=true)\/∃i:Nat,y=.inl (i:Int)/\s.all (hasB set)=false):=by
 refine mA (step:=co n) (λx=>x.1=true/\x.2.1=set/\x.2.2.1=s/\s.all (hasB set)=(s.drop x.2.2.2).all (hasB set)) (λx=>s.length - x.2.2.2) _ ?_ n _ ⟨rfl,rfl,rfl,rfl⟩ (by simp only;omega);rintro ⟨b,st,s',p⟩ ⟨j,f,g,a⟩;simp only at j f g a;rw [j,f,g];clear j f g b st s';rcases aF p s.length with h | m
 ·obtain ⟨c,hc⟩:∃c,s[p]?=some c:=⟨s[p],bj h⟩;have e:Nat.blt p s.length=true:=dn h;rw [bT hc,kR] at a;rcases aF c.toNat 128 with d | d
  ·have o:=yk hc d;simp only [co,e,aj,i7,o,sW n set c d,ob];cases k:hasB set c with
   | true=>
    rw [k,nS] at a;exact .inl ⟨_,rfl,⟨rfl,rfl,rfl,a⟩,by simp only;omega⟩
   | false=>
    rw [k,vR] at a;exact .inr ⟨_,rfl,.inr ⟨p,rfl,a⟩⟩
  ·have o:=Eo hc d;have k:hasB set c=false:=by
    unfold hasB;rw [pZ];intro x u q;simp only [bg] at q;have:=r x u;rw [q] at this;omega
   rw [k,vR] at a;have l:=vP n set r t v (((dec s p).1:Nat):Int) (by omega);simp only [co,e,aj,i7,l,ob];exact .inr ⟨_,rfl,.inr ⟨p,rfl,a⟩⟩
 ·have e:Nat.blt p s.length=false:=by
   cases j:Nat.blt p s.length with
   | false=>rfl
   | true=>exact absurd (aH j) (by omega)
  simp only [co,e,af];rw [iD m] at a;exact .inr ⟨_,rfl,.inl ⟨rfl,by rw [a];rfl⟩⟩
theorem GM (n:Nat) (s set:aa) (f:asc set) (c:set.length<n) (d:set.length<=100) (g:s.length<n):fG n s set=some (s.all (hasB set)):=by
 obtain ⟨y,e,b⟩:=H7 n s set f c d g;simp only [fG,kb,jT,e,ob];rcases b with ⟨rfl,a⟩ | ⟨i,rfl,a⟩
 ·rw [a];rfl
 ·rw [a];simp only [aq,rH];omega
theorem LQ:asc [48,49,50,51,52,53,54,55,56,57]:=by unfold asc;decide
theorem I8:asc [88,48,49,50,51,52,53,54,55,56,57]:=by unfold asc;decide
theorem gu (p:UInt8->Bool) (h:∀i:Fin 256,p (UInt8.ofNat i.val)=true) (c:UInt8):p c=true:=by
 have:=h ⟨c.toNat,c.toNat_lt⟩;simpa using this
theorem uk (c:UInt8):hasB [48,49,50,51,52,53,54,55,56,57] c=aT c:=by
 have:=gu (λc=>hasB [48,49,50,51,52,53,54,55,56,57] c==aT c) (by decide +kernel) c;simpa using this
theorem rP (c:UInt8):hasB [88,48,49,50,51,52,53,54,55,56,57] c=(aT c||c==88):=by
 have:=gu (λc=>hasB [88,48,49,50,51,52,53,54,55,56,57] c==(aT c||c==88)) (by decide +kernel) c;simpa using this
theorem HE (n:Nat) (s:aa) (b:100<n) (a:s.length<n):fG n s [48,49,50,51,52,53,54,55,56,57]=some (s.all aT):=by
 rw [GM n s _ LQ (by simp;omega) (by simp) a];congr 2;funext c;exact uk c
theorem FH (n:Nat) (s:aa) (b:100<n) (a:s.length<n):fG n s [88,48,49,50,51,52,53,54,55,56,57]=some (s.all λc=>aT c||c==88):=by
 rw [GM n s _ I8 (by simp;omega) (by simp) a];congr 2;funext c;exact rP c
def all0 (s:aa):Bool:=s.all λc=>c==48
theorem SU (n:Nat) (s:aa) (k:s.length<n) (o:s.length<100000):∃y,fh n s 48=some y/\all0 s=all0 y/\y.length<=s.length:=by
 obtain ⟨y,j,a⟩:=mA (step:=cT n) (λx=>x.2=48/\all0 s=all0 x.1/\x.1.length<=s.length) (λx=>x.1.length) (λy=>all0 s=all0 y/\y.length<=s.length) (by
  rintro ⟨l,c⟩ ⟨rfl,h,f⟩;simp only at h f;by_cases m:l.length>0
  ·have d0:decide (((l.length:Nat):Int)>0)=true:=am (by omega);have g:IntKind.wrap .i64 (((l.length:Nat):Int) - 1)=((l.length - 1:Nat):Int):=by rw [wrap_i64 _ (by omega) (by omega)];omega
   obtain ⟨c,hc⟩:∃c,l[l.length - 1]?=some c:=⟨l[l.length - 1],bj (by omega)⟩;simp only [cT,d0,aj,g,dF hc,ob];by_cases b:c=48
   ·have d:(((c.toNat:Nat):Int)==48)=true:=by rw [b];rfl
    simp only [d,aj,ct (show l.length - 1<=l.length by omega),cP];refine .inl ⟨(List.take (l.length - 1) l,48),rfl,⟨rfl,?_,by show (List.take (l.length - 1) l).length<=s.length;rw [cN];omega⟩,by show (List.take (l.length - 1) l).length<l.length;rw [cN];omega⟩;rw [h];have:l=l.take (l.length - 1)++[c]:=by
     have a:=qi (l:=l) (i:=l.length - 1);rw [hc,show l.length - 1+1=l.length by omega,kN] at a;exact a
    rw [this];simp only [all0,AE,kR,List.all_nil,b];simp
   ·have d:(((c.toNat:Nat):Int)==48)=false:=by
     rw [aM];intro e;exact b (fF.1 (by show c.toNat=48;omega))
    simp only [d,af];exact .inr ⟨_,rfl,h,f⟩
  ·have d0:decide (((l.length:Nat):Int)>0)=false:=ar (by omega);simp only [cT,d0,af];exact .inr ⟨_,rfl,h,f⟩) n (s,48) ⟨rfl,rfl,aU _⟩ k
 exact ⟨y,by simp only [fh,j,ob],a⟩
theorem Td (n:Nat) (s:aa) (m:s.length<n) (o:s.length<100000):∃y,fM n s 48=some y/\all0 s=(y==[]):=by
 obtain ⟨y,k,j⟩:=mA (step:=dZ n) (λx=>x.2=48/\all0 s=all0 x.1/\x.1.length<=s.length) (λx=>x.1.length) (λy=>all0 s=(y==[])) (by
  rintro ⟨l,c⟩ ⟨rfl,h,f⟩;simp only at h f;cases l with
  | nil=>exact .inr ⟨[],rfl,by rw [h];rfl⟩
  | cons c l=>
   have d0:decide ((((c::l).length:Nat):Int)>0)=true:=am (by simp only [bf];omega);have hc:sx (c::l) 0=some c:=by simp [sx]
   simp only [dZ,d0,aj,hc,ob];by_cases a:c=48
   ·have b:(((c.toNat:Nat):Int)==48)=true:=by rw [a];rfl
    have d:bx (c::l).length 1=some 1:=ct (i:=1) (by simp);simp only [b,aj,d,kN,oH,cP];refine .inl ⟨_,rfl,⟨rfl,?_,by show l.length<=s.length;simp only [bf] at f;omega⟩,by simp⟩;rw [h];simp [all0,a]
   ·have b:(((c.toNat:Nat):Int)==48)=false:=by
     rw [aM];intro e;exact a (fF.1 (by show c.toNat=48;omega))
    simp only [b,af];refine .inr ⟨_,rfl,?_⟩;rw [h];have g:(c==48)=false:=aM.2 a;simp [all0,g]) n (s,48) ⟨rfl,rfl,aU _⟩ m
 exact ⟨y,by simp only [fM,k,ob],j⟩
theorem OX (n:Nat) (s:aa) (f:s.length<n) (d:s.length<100000):∃y,lY n s=some y/\(y==[])=all0 s:=by
 unfold lY;by_cases h:s=[]
 ·subst h;exact ⟨[],rfl,rfl⟩
 ·have:(s==([]:aa))=false:=aM.2 h;obtain ⟨y,e,c,g⟩:=SU n s f d;obtain ⟨z,a,b⟩:=Td n y (by omega) (by omega);exact ⟨z,by simp only [this,af,e,a,ob],by rw [c,b]⟩
theorem LE (s:aa):all0 s=true↔cnt 48 48 s=s.length:=by
 rw [JZ];unfold all0;rw [bS];constructor
 ·intro h c hc;have:=h c hc;rw [bg] at this;exact (G8 c).2 this
 ·intro h c hc;rw [bg];exact (G8 c).1 (h c hc)
def hasX (s:aa):Bool:=s.any λc=>c==88
theorem EV (s:aa):hasX s=decide (0<cnt 88 88 s):=by
 have:=Lc 88 88 s;unfold hasX;cases h:s.any λc=>c==88 with
 | true=>
  obtain ⟨c,hc,b⟩:=pT.1 h;rw [bg] at b;symm;rw [bZ];rcases ym (cnt 88 88 s) with a | a
  ·have:=this.1 a c hc;rw [(yJ c).2 b] at this;cases this
  ·exact a
 | false=>
  symm;rw [rH];intro a;have:cnt 88 88 s=0:=this.2 λc hc=>by
   cases d:inR 88 88 c with
   | false=>rfl
   | true=>
    rw [pZ] at h;exact absurd (bg.2 ((yJ c).1 d)) (h c hc)
  omega
theorem AN (n:Nat) (s:aa):gq n s=some (hasX s):=by
 have e:UInt8.ofNat (Int.toNat 88)=(88:UInt8):=rfl;have hi:lh n s=some (Lib.indexByte s 88):=by
  simp only [lh,gX,cw,ob,e];by_cases h:([88]:aa)=s
  ·subst h;rfl
  ·have:(([88]:aa)==s)=false:=aM.2 h;simp only [this,af]
 simp only [gq,hi,ob,nl];rfl
theorem qV (n:Nat) (g l:Bool) (d:aa) (x q:Int):cG n g l d x q=some (hasX d):=by
 simp only [cG,AN,ob]
theorem mn (n:Nat) (g l:Bool) (d:aa) (x q:Int) (c:d.length<n) (b:d.length<100000):aD n g l d x q=some (if hasX d then 1 else 0):=by
 simp only [aD,Ea n d 88 88 c b,ob,EV,bZ];by_cases h:0<cnt 88 88 d
 ·have:decide (((cnt 88 88 d:Nat):Int)<1)=false:=ar (by omega);simp [this,h]
 ·have:decide (((cnt 88 88 d:Nat):Int)<1)=true:=am (by omega);have a:cnt 88 88 d=0:=by omega
  simp [this,a]
def sX (a:Nat) (c:UInt8):Nat:=a*10+(c.toNat - 48)
def dval (a:Nat) (l:aa):Nat:=l.foldl sX a
theorem nh (a:Nat):dval a []=a:=by unfold dval;rw [E3]
theorem mM (a:Nat) (c:UInt8) (l:aa):dval a (c::l)=dval (sX a c) l:=by
 unfold dval;rw [sG]
theorem Da (l:aa) (a:Nat) (c:UInt8):dval a (l++[c])=dval a l*10+(c.toNat - 48):=by
 have:dval a (l++[c])=sX (dval a l) c:=by
  unfold dval;rw [E4,sG,E3]
 rw [this];rfl
theorem NY (M:Nat) (j:10000000000000000000<=M) (l:aa):∀(a k:Nat),(∀c∈l,aT c=true)->a<10 ^ k->l.length+k<=18->Lib.parseUintM M a l=.ok (dval a l)/\dval a l<10 ^ (l.length+k):=by
 induction l with
 | nil=>
  intro a k _ e _;rw [nh];refine ⟨rfl,?_⟩;simpa using e
 | cons c l ih=>
  intro a k h e g;have hc:=(bH c).1 (h c (by simp));simp only [bf] at g;have m:(10:Nat) ^ (k+1)=10 ^ k*10:=qs 10 k;have i:(10:Nat) ^ (k+1)<=10 ^ 18:=jG (by decide) (by omega);have f:(10:Nat) ^ 18=1000000000000000000:=by decide
  have b:sX a c=a*10+(c.toNat - 48):=rfl;have ih:=ih (sX a c) (k+1) (λd b=>h d (by simp [b])) (by omega) (by omega);refine ⟨?_,?_⟩
  ·simp only [Lib.parseUintM];rw [ae hc,ab (by omega),ab (by omega),<-b,ih.1,mM]
  ·rw [mM,bf,show l.length+1+k=l.length+(k+1) by omega];exact ih.2
theorem FV {l:aa} (h:∀c∈l,aT c=true) (b:l≠[]) (m:l.length<=18):ub l=some ((dval 0 l:Nat):Int)/\dval 0 l<10 ^ l.length:=by
 obtain ⟨j,d⟩:=NY (2 ^ 64 - 1) (by decide) l 0 0 h (by simp) (by omega);refine ⟨?_,by simpa using d⟩;have f:dval 0 l<10 ^ 18:=l9 d (jG (by decide) (by omega));cases l with
 | nil=>exact absurd rfl b
 | cons c r=>
  have hc:=(bH c).1 (h c (by simp));have i:Lib.parseUintB 64 (c::r)=.ok (dval 0 (c::r)):=by
   unfold Lib.parseUintB;rw [ab b,j]
  have k:¬(c.toNat=43\/c.toNat=45):=by omega
  simp only [ub,Lib.parseIntB,k,aE,i];have e:(10:Nat) ^ 18=1000000000000000000:=by decide
  have a:(2:Nat) ^ (64 - 1)=9223372036854775808:=by decide
  have g:¬c.toNat=45:=by omega
  simp only [g,Bz,ke,vw,aE];rw [a,ab (by omega)]
theorem Kx (n k:Nat) (l:k<=18) (h:18<n):mS n (k:Int)=some (((10 ^ k:Nat):Int),0):=by
 have d:(10:Nat) ^ 18=1000000000000000000:=by decide
 have:=eO (step:=jA n) (λx=>∃i:Nat,i<=k/\x=(((10 ^ i:Nat):Int),(k:Int),(i:Int))) (λx=>k - x.2.2.toNat) (λ_=>((10 ^ k:Nat):Int)) (by
  rintro x ⟨i,hi,rfl⟩;rcases aF i k with a | g
  ·have e:(10:Nat) ^ (i+1)<=10 ^ 18:=jG (by decide) (by omega);have j:(10:Nat) ^ (i+1)=10 ^ i*10:=qs 10 i;have b:IntKind.wrap .i64 (((10 ^ i:Nat):Int)*10)=((10 ^ (i+1):Nat):Int):=by rw [wrap_i64 _ (by omega) (by omega)];omega
   have f:IntKind.wrap .i64 ((i:Int)+1)=((i+1:Nat):Int):=by rw [wrap_i64 _ (by omega) (by omega)];omega
   refine .inl ⟨_,?_,⟨i+1,a,rfl⟩,by simp only [bI];omega,rfl⟩;simp only [jA,eY,a,me,aj,b,f]
  ·have:i=k:=by omega
   subst this;refine .inr ?_;simp only [jA,eY,CX,ly,af]) n (1,(k:Int),0) ⟨0,by omega,rfl⟩ (by simp;omega)
 have c:decide ((k:Int)<0)=false:=ar (by omega);have d2:decide ((k:Int)>18)=false:=ar (by omega);simp only [mS,c,d2,af,this,ob]
theorem jF (x:Int) (a:0<=x) (b:x<18446744073709551616):IntKind.wrap .u64 x=x:=by
 show x%18446744073709551616=x;omega
theorem BB (x:Int):IntKind.wrap .u64 x=x%18446744073709551616:=rfl
theorem Im {a:Nat} (b:a<18446744073709551616):bits .and .u64 (a:Int) 4294967295=((a%4294967296:Nat):Int):=by
 show IntKind.wrap .u64 ((BitVec.ofInt 64 (a:Int) &&& BitVec.ofInt 64 ((4294967295:Nat):Int)).toNat:Int)=_;rw [zG,zG,BitVec.toNat_and,BitVec.toNat_ofNat,BitVec.toNat_ofNat,od (show a<2 ^ 64 from b),od (by decide)];have:=Nat.and_two_pow_sub_one_eq_mod a 32;rw [show (2:Nat) ^ 32 - 1=4294967295 from by decide,show (2:Nat) ^ 32=4294967296 from by decide] at this;rw [this];exact jF _ (by omega) (by omega)
theorem Lr (a:Nat):Int.fdiv (a:Int) (2 ^ 32)=((a / 4294967296:Nat):Int):=by
 rw [Lo]
theorem Ds {a b A B:Nat} (d:a<=A) (c:b<=B):a*b<=A*B:=ue d c
theorem Jp (a b:Nat):a*b=(a / 4294967296)*(b / 4294967296)*18446744073709551616+((a / 4294967296)*(b%4294967296)+(a%4294967296)*(b / 4294967296))*4294967296+(a%4294967296)*(b%4294967296):=by
 have f:a=(a / 4294967296)*4294967296+a%4294967296:=by omega
 have e:b=(b / 4294967296)*4294967296+b%4294967296:=by omega
 generalize a / 4294967296=d at f ⊢;generalize a%4294967296=g at f ⊢;generalize b / 4294967296=c at e ⊢;generalize b%4294967296=h at e ⊢;subst f e;rw [fV,Nat.mul_add,Nat.mul_add];have k:d*4294967296*(c*4294967296)=d*c*18446744073709551616:=by
  rw [Nat.mul_mul_mul_comm]
 have i:d*4294967296*h=d*h*4294967296:=by rw [Nat.mul_right_comm]
 have j:g*(c*4294967296)=g*c*4294967296:=by rw [Br]
 rw [k,i,j,fV];omega
theorem TY (n a b:Nat) (z:a<18446744073709551616) (m:b<18446744073709551616):jw n (a:Int) (b:Int)=some (((a*b / 18446744073709551616:Nat):Int),((a*b%18446744073709551616:Nat):Int)):=by
 have r:=Jp a b;have i:a / 4294967296<=4294967295:=by omega
 have h:a%4294967296<=4294967295:=by omega
 have g:b / 4294967296<=4294967295:=by omega
 have j:b%4294967296<=4294967295:=by omega
 have v:=Ds h j;have q:=Ds h g;have p:=Ds i j;have l:=Ds i g;have k:IntKind.wrap .u64 ((a:Int)*(b:Int))=((a*b%18446744073709551616:Nat):Int):=by
  rw [BB,<-DD];omega
 simp only [jw,Lr,Im z,Im m,k];simp only [<-DD];generalize (a / 4294967296)*(b / 4294967296)=e at *;generalize (a / 4294967296)*(b%4294967296)=d at *;generalize (a%4294967296)*(b / 4294967296)=f at *;generalize (a%4294967296)*(b%4294967296)=c at *;generalize a*b=N at *;have t:IntKind.wrap .u64 ((c:Nat):Int)=((c:Nat):Int):=jF _ (by omega) (by omega);have s:IntKind.wrap .u64 ((d:Nat):Int)=((d:Nat):Int):=jF _ (by omega) (by omega);have w:IntKind.wrap .u64 ((f:Nat):Int)=((f:Nat):Int):=jF _ (by omega) (by omega);have y:IntKind.wrap .u64 ((e:Nat):Int)=((e:Nat):Int):=jF _ (by omega) (by omega);rw [t,s,w,y,Lr c];have o:IntKind.wrap .u64 (((d:Nat):Int)+((c / 4294967296:Nat):Int))=((d+c / 4294967296:Nat):Int):=by rw [jF _ (by omega) (by omega)];omega
 rw [o,Lr,Im (by omega)];have u:IntKind.wrap .u64 (((e:Nat):Int)+(((d+c / 4294967296) / 4294967296:Nat):Int))=((e+(d+c / 4294967296) / 4294967296:Nat):Int):=by rw [jF _ (by omega) (by omega)];omega
 have x:IntKind.wrap .u64 ((((d+c / 4294967296)%4294967296:Nat):Int)+((f:Nat):Int))=(((d+c / 4294967296)%4294967296+f:Nat):Int):=by rw [jF _ (by omega) (by omega)];omega
 rw [u,x,Lr];have w8:IntKind.wrap .u64 (((e+(d+c / 4294967296) / 4294967296:Nat):Int)+((((d+c / 4294967296)%4294967296+f) / 4294967296:Nat):Int))=((N / 18446744073709551616:Nat):Int):=by
  rw [jF _ (by omega) (by omega)];omega
 rw [w8]
theorem QF (n a b:Nat) (k:a<9223372036854775808) (j:b<9223372036854775808):ta n (a:Int) (b:Int)=some (if a*b<9223372036854775808 then (((a*b:Nat):Int),0) else (0,15)):=by
 have g:decide ((a:Int)<0)=false:=ar (by omega);have d2:decide ((b:Int)<0)=false:=ar (by omega);have f:IntKind.wrap .u64 (a:Int)=a:=jF _ (by omega) (by omega);have i:IntKind.wrap .u64 (b:Int)=b:=jF _ (by omega) (by omega);simp only [ta,qH,g,d2,af,f,i,ob,TY n a b (by omega) (by omega)];generalize a*b=N;by_cases h:18446744073709551616<=N
 ·have c:decide (((N / 18446744073709551616:Nat):Int)>0)=true:=am (by omega);rw [c,ab (by omega)];rfl
 ·have c:decide (((N / 18446744073709551616:Nat):Int)>0)=false:=ar (by omega);have e:N%18446744073709551616=N:=od (by omega);rw [c,e];simp only [af,uw,cV,qy,ie,aj];by_cases d:N<9223372036854775808
  ·have d4:decide (((N:Nat):Int)<=9223372036854775807)=true:=am (by omega);rw [d4,ae d,aj,wrap_i64 _ (by omega) (by omega)]
  ·have d4:decide (((N:Nat):Int)<=9223372036854775807)=false:=ar (by omega);rw [d4,ab d,af]
def E16:Nat:=10000000000000000
theorem PZ {x:Nat} (b:17<=x):E16<10 ^ x:=by
 have:(10:Nat) ^ 17<=10 ^ x:=jG (by decide) b;have a:(10:Nat) ^ 17=100000000000000000:=by decide
 unfold E16;omega
theorem Js (n:Nat) (g l:Bool) (d:aa) (x:Nat) (s:Int) (j:∀c∈d,aT c=true) (f:d≠[]) (r:d.length<=17) (e:x<=18) (o:18<n):
  dw n g l d (x:Int) s=some (if dval 0 d*10 ^ x<=E16 then (((dval 0 d*10 ^ x:Nat):Int),0) else (0,6)):=by
 obtain ⟨q,m⟩:=FV j f (by omega);have u:dval 0 d<10 ^ 17:=l9 m (jG (by decide) r);have t:(10:Nat) ^ x<=10 ^ 18:=jG (by decide) e;have i:(10:Nat) ^ 17=100000000000000000:=by decide
 have k:(10:Nat) ^ 18=1000000000000000000:=by decide
 have p:Nat.ble d.length 9223372036854775806=true:=dn (by omega);simp only [dw,p,aj,q,ob,Kx n x e o,gO,af,QF n _ _ (show dval 0 d<9223372036854775808 by omega) (show 10 ^ x<9223372036854775808 by omega)];generalize dval 0 d*10 ^ x=N;unfold E16;by_cases h:N<9223372036854775808
 ·rw [ae h];simp only [gO,af];by_cases b:N<=10000000000000000
  ·have a:decide (((N:Nat):Int)>10000000000000000)=false:=ar (by omega);rw [a,ae b,af]
  ·have a:decide (((N:Nat):Int)>10000000000000000)=true:=am (by omega);rw [a,ab b,aj]
 ·rw [ab h,ab (by omega)];rfl
def pre (d:aa) (i:Nat):Nat:=dval 0 (d.take i)*10 ^ (i - d.length)
theorem Nq {d:aa} {i:Nat} {c:UInt8} (h:d[i]?=some c):pre d (i+1)=10*pre d i+(c.toNat - 48):=by
 have a:=qL h;unfold pre;rw [qi,h,show i+1 - d.length=0 by omega,show i - d.length=0 by omega];simp only [Option.toList,Da,yO,oU];omega
theorem Nr {d:aa} {i:Nat} (h:d.length<=i):pre d (i+1)=10*pre d i:=by
 unfold pre;rw [hZ (show d.length<=i+1 by omega),hZ h,show i+1 - d.length=(i - d.length)+1 by omega,qs];rw [<-Br];omega
theorem Em (d:aa):∀k i,pre d i<=pre d (i+k)
 | 0,i=>aU _
 | k+1,i=>by
  have ih:=Em d k i;rcases aF (i+k) d.length with b | a
  ·have:=Nq (bj b);rw [show i+(k+1)=i+k+1 by omega,this];omega
  ·have:=Nr a;rw [show i+(k+1)=i+k+1 by omega,this];omega
theorem jh (n:Nat) (d:aa) (x:Nat) (t:∀c∈d,aT c=true) (z:d.length<=100) (A:x<=100) (y:d.length+x<n):
  ak n d (x:Int)=some (if dval 0 d*10 ^ x<=E16 then (((dval 0 d*10 ^ x:Nat):Int),1) else (0,0)):=by
 have a:pre d (d.length+x)=dval 0 d*10 ^ x:=by
  unfold pre;rw [hZ (by omega),show d.length+x - d.length=x by omega]
 have w0:IntKind.wrap .i64 (((d.length:Nat):Int)+(x:Int))=((d.length+x:Nat):Int):=by rw [wrap_i64 _ (by omega) (by omega)];omega
 have:=eO (step:=ed n) (λq=>∃i:Nat,i<=d.length+x/\pre d i<=E16/\q=(d,(x:Int),((pre d i:Nat):Int),(i:Int))) (λq=>d.length+x - q.2.2.2.toNat) (λ_=>if dval 0 d*10 ^ x<=E16 then .inr ((dval 0 d*10 ^ x:Nat):Int) else .inl (0,0)) (by
  rintro q ⟨i,hi,l,rfl⟩;simp only [ed,w0,eY];unfold E16 at l ⊢;have s:IntKind.wrap .i64 ((i:Int)+1)=((i+1:Nat):Int):=by rw [wrap_i64 _ (by omega) (by omega)];omega
  have r:IntKind.wrap .i64 (10*((pre d i:Nat):Int))=((10*pre d i:Nat):Int):=by rw [wrap_i64 _ (by omega) (by omega)];omega
  by_cases j:i<d.length+x
  ·have u:=Em d (d.length+x - (i+1)) (i+1);rw [show i+1+(d.length+x - (i+1))=d.length+x by omega,a] at u;simp only [j,me,aj,s,r];rcases aF i d.length with e | f
   ·obtain ⟨c,hc⟩:∃c,d[i]?=some c:=⟨d[i],bj e⟩;have m:=(bH c).1 (t c (fD hc));have o:=Nq hc;have v:IntKind.wrap .u8 (((c.toNat:Nat):Int) - 48)=((c.toNat - 48:Nat):Int):=by rw [ig _ (by omega) (by omega)];omega
    have w:IntKind.wrap .i64 ((c.toNat - 48:Nat):Int)=((c.toNat - 48:Nat):Int):=wrap_i64 _ (by omega) (by omega);have p:IntKind.wrap .i64 (((10*pre d i:Nat):Int)+((c.toNat - 48:Nat):Int))=((pre d (i+1):Nat):Int):=by rw [wrap_i64 _ (by omega) (by omega)];omega
    simp only [e,me,aj,dF hc,ob,v,w,p];by_cases k:pre d (i+1)<=10000000000000000
    ·have b:decide (((pre d (i+1):Nat):Int)>10000000000000000)=false:=ar (by omega);simp only [b,af];exact .inl ⟨_,rfl,⟨i+1,j,k,rfl⟩,by simp only [bI];omega,trivial⟩
    ·have b:decide (((pre d (i+1):Nat):Int)>10000000000000000)=true:=am (by omega);simp only [b,aj];rw [ab (by omega)];exact .inr rfl
   ·have o:=Nr f;have g:¬i<d.length:=by omega
    simp only [g,ly,af];rw [<-o];by_cases k:pre d (i+1)<=10000000000000000
    ·have b:decide (((pre d (i+1):Nat):Int)>10000000000000000)=false:=ar (by omega);simp only [b,af];exact .inl ⟨_,rfl,⟨i+1,j,k,rfl⟩,by simp only [bI];omega,trivial⟩
    ·have b:decide (((pre d (i+1):Nat):Int)>10000000000000000)=true:=am (by omega);simp only [b,aj];rw [ab (by omega)];exact .inr rfl
  ·have:i=d.length+x:=by omega
   subst this;simp only [CX,ly,af];rw [a] at l ⊢;rw [ae l];exact .inr rfl) n (d,(x:Int),0,0) ⟨0,by omega,by unfold pre E16;simp [nh],by unfold pre;simp [nh]⟩ (by simp;omega)
 simp only [ak,this,ob];by_cases h:dval 0 d*10 ^ x<=E16
 ·rw [ae h,ae h]
 ·rw [ab h,ab h]
def okM (d:aa) (x:Int):Prop:=(∀c∈d,aT c=true)/\1<=d.length/\d.length<=17/\d.head?≠some 48/\0<=x/\x<=16/\¬(x=0/\d.length<5)/\dval 0 d*10 ^ x.toNat<=E16
def okL (d:aa) (x s:Int):Prop:=okM d x/\0<=s/\s<=(d.length:Int)+x
def okS (g:Bool) (d:aa) (x s:Int):Prop:=d.length=4/\(∀c∈d,aT c=true\/c=88)/\x=0/\¬(g=true/\all0 d=true)/\0<=s/\s<=4/\¬(0<s/\hasX d=true)
def okY (g l:Bool) (d:aa) (x s:Int):Prop:=if l=true then okL d x s else okS g d x s
instance (d:aa) (x:Int):Decidable (okM d x):=by unfold okM;infer_instance
instance (d:aa) (x s:Int):Decidable (okL d x s):=by unfold okL;infer_instance
instance (g:Bool) (d:aa) (x s:Int):Decidable (okS g d x s):=by unfold okS;infer_instance
instance (g l:Bool) (d:aa) (x s:Int):Decidable (okY g l d x s):=by unfold okY;infer_instance
theorem GW (d:aa):d.all aT=true↔∀c∈d,aT c=true:=bS
theorem Ei (d:aa):(d.all λc=>aT c||c==88)=true↔∀c∈d,aT c=true\/c=88:=by
 rw [bS];constructor
 ·intro h c hc;have:=h c hc;simpa using this
 ·intro h c hc;have:=h c hc;simpa using this
theorem P7 (c:UInt8):(((c.toNat:Nat):Int)==48)=(c==48):=lH c 48
theorem Pm (n:Nat) (g l:Bool) (d:aa) (x s:Int) (B:200<n) (z:d.length<=100):aR n g l d x s=some (decide (okM d x)):=by
 unfold aR;by_cases y:d.length<1
 ·have e:decide (((d.length:Nat):Int)<1)=true:=am (by omega);rw [e,ar (λh:okM d x=>by have:=h.2.1;omega)];rfl
 ·have e:decide (((d.length:Nat):Int)<1)=false:=ar (by omega);rw [e,af];by_cases A:d.length>17
  ·have e:decide (((d.length:Nat):Int)>17)=true:=am (by omega);rw [e,ar (λh:okM d x=>by have:=h.2.2.1;omega)];rfl
  ·have e:decide (((d.length:Nat):Int)>17)=false:=ar (by omega);rw [e,af,HE n d (by omega) (by omega)];simp only [ob];cases t:d.all aT with
   | false=>
    rw [ar (λh:okM d x=>by rw [(GW d).2 h.1] at t;cases t)];rfl
   | true=>
    have a:=(GW d).1 t;obtain ⟨c,r,rfl⟩:∃c r,d=c::r:=by
     cases d with
     | nil=>simp at y
     | cons c r=>exact ⟨c,r,rfl⟩
    have p:sx (c::r) 0=some c:=by simp [sx]
    simp only [cV,af,p,P7];by_cases f:c=48
    ·rw [ar (λh:okM (c::r) x=>h.2.2.2.1 (by rw [f];rfl)),f];rfl
    ·have e:(c==48)=false:=aM.2 f;rw [e,af];by_cases w:x<0
     ·rw [am w,ar (λh:okM (c::r) x=>by have:=h.2.2.2.2.1;omega)];rfl
     ·rw [ar w,af];by_cases u:x>16
      ·rw [am u,ar (λh:okM (c::r) x=>by have:=h.2.2.2.2.2.1;omega)];rfl
      ·rw [ar u,af];obtain ⟨k,rfl⟩:∃k:Nat,x=(k:Int):=⟨x.toNat,by omega⟩;have o:=Js n g l (c::r) k s a (by simp) (by omega) (by omega) (by omega);rw [o];have key:¬((k:Int)=0/\(c::r).length<5)->(okM (c::r) (k:Int)↔dval 0 (c::r)*10 ^ k<=E16):=by
        intro i;constructor
        ·intro h;simpa using h.2.2.2.2.2.2.2
        ·intro h;exact ⟨a,by omega,by omega,by simpa using f,by omega,by omega,i,by simpa using h⟩
       have b:¬((k:Int)=0/\(c::r).length<5)->(ob (some (if dval 0 (c::r)*10 ^ k<=E16 then (((dval 0 (c::r)*10 ^ k:Nat):Int),(0:Int)) else (0,6))) λq=>(some (q.2==0)))=some (decide (okM (c::r) (k:Int))):=by
        intro i;by_cases m:dval 0 (c::r)*10 ^ k<=E16
        ·rw [ae m,am ((key i).2 m)];rfl
        ·rw [ab m,ar (λh=>m ((key i).1 h))];rfl
       by_cases j:(k:Int)=0
       ·have e:((k:Int)==0)=true:=bg.2 j;rw [e,aj];by_cases v:(c::r).length<5
        ·have e:decide ((((c::r).length:Nat):Int)<5)=true:=am (by omega);rw [e,ar (λh:okM (c::r) (k:Int)=>h.2.2.2.2.2.2.1 ⟨j,v⟩)];rfl
        ·have e:decide ((((c::r).length:Nat):Int)<5)=false:=ar (by omega);rw [e,af];exact b (λh=>v h.2)
       ·have e:((k:Int)==0)=false:=aM.2 j;rw [e,af];exact b (λh=>j h.1)
theorem KH (n:Nat) (g l:Bool) (d:aa) (x s:Int) (e:200<n) (c:d.length<=100):
  (ob (aR n g l d x s) λr=>(cond (!r) (some (6:Int)) (cond (decide (s<0)) (some 6) (cond (decide (s>(IntKind.wrap .i64 (((d.length:Nat):Int)+x)))) (some 6) (some 0)))))=some (if okL d x s then 0 else 6):=by
 rw [Pm n g l d x s e c];simp only [ob];by_cases h:okM d x
 ·rw [am h];have f:=h.2.2.2.2;have w:IntKind.wrap .i64 (((d.length:Nat):Int)+x)=((d.length:Nat):Int)+x:=wrap_i64 _ (by omega) (by omega);rw [w];simp only [cV,af,bG];by_cases b:s<0
  ·rw [ae b,ab (λq:okL d x s=>by have:=q.2.1;omega)]
  ·rw [ab b];by_cases a:s>((d.length:Nat):Int)+x
   ·rw [ae a,ab (λq:okL d x s=>by have:=q.2.2;omega)]
   ·rw [ab a,ae ⟨h,by omega,by omega⟩]
 ·rw [ar h,ab (λq:okL d x s=>h q.1)];rfl
theorem Eq (n:Nat) (g l:Bool) (d:aa) (x s:Int) (A:200<n) (v:d.length<=100):gV n g l d x s=some (if okY g l d x s then 0 else 6):=by
 obtain ⟨y,B,z⟩:=OX n d (by omega) (by omega);unfold gV;rw [FH n d (by omega) (by omega),B,qV];cases l with
 | true=>
  have b:(if okY g true d x s then (0:Int) else 6)=if okL d x s then 0 else 6:=by simp only [okY,aJ]
  rw [b];have st:=KH n g true d x s A v;simp only [aj];generalize (ob (aR n g true d x s) λr=>(cond (!r) (some (6:Int)) (cond (decide (s<0)) (some 6) (cond (decide (s>(IntKind.wrap .i64 (((d.length:Nat):Int)+x)))) (some 6) (some 0)))))=T at st ⊢;simp only [ob];rw [st];cases (((d.length:Nat):Int)==4)<;>cases (d.all λc=>aT c||c==88)<;>cases (x==0)<;>cases g<;>cases (y==[])<;>cases (s != 0)<;>rfl
 | false=>
  have b:(if okY g false d x s then (0:Int) else 6)=if okS g d x s then 0 else 6:=by simp only [okY,bq,aE]
  rw [b];simp only [af,ob];by_cases f:d.length=4
  ·have m:(((d.length:Nat):Int)==4)=true:=bg.2 (by omega);rw [m,aj];cases i:(d.all λc=>aT c||c==88) with
   | false=>
    rw [ab (λq:okS g d x s=>by rw [(Ei d).2 q.2.1] at i;cases i)];rfl
   | true=>
    have e:=(Ei d).1 i;rw [aj];by_cases k:x=0
    ·subst k;have w:IntKind.wrap .i64 (((d.length:Nat):Int)+0)=4:=by rw [f];decide
     rw [w];have a:¬(g=true/\all0 d=true)->(cond (s != 0) (cond (!(!hasX d)) (some (6:Int)) (cond (decide (s<0)) (some 6) (cond (decide (s>4)) (some 6) (some 0)))) (cond (decide (s<0)) (some 6) (cond (decide (s>4)) (some 6) (some 0))))=some (if okS g d 0 s then 0 else 6):=by
      intro p;simp only [bG,D5,Bool.not_not];by_cases s0:s=0
      ·subst s0;rw [ae rfl,ab (by omega),ab (by omega),ae ⟨f,e,rfl,p,by omega,by omega,by omega⟩]
      ·rw [ab s0];cases t:hasX d with
       | true=>
        by_cases h:s<0
        ·rw [ab (λq:okS g d 0 s=>by have:=q.2.2.2.2.1;omega)];rfl
        ·rw [ab (λq:okS g d 0 s=>q.2.2.2.2.2.2 ⟨by omega,t⟩)];rfl
       | false=>
        rw [af];by_cases h:s<0
        ·rw [ae h,ab (λq:okS g d 0 s=>by have:=q.2.2.2.2.1;omega)]
        ·rw [ab h];by_cases u:s>4
         ·rw [ae u,ab (λq:okS g d 0 s=>by have:=q.2.2.2.2.2.1;omega)]
         ·rw [ab u,ae ⟨f,e,rfl,p,by omega,by omega,λq=>by rw [t] at q;cases q.2⟩]
     have j:((0:Int)==0)=true:=rfl;rw [j,aj];cases g with
     | false=>
      simp only [af];exact a (by simp)
     | true=>
      simp only [aj];rw [z];cases o:all0 d with
      | true=>rw [ab (λq:okS true d 0 s=>q.2.2.2.1 ⟨rfl,o⟩)];rfl
      | false=>
       simp only [ie,aj];exact a (by rw [o];simp)
    ·have j:(x==0)=false:=aM.2 k;rw [j,ab (λq:okS g d x s=>k q.2.2.1)];rfl
  ·have m:(((d.length:Nat):Int)==4)=false:=aM.2 (by omega);rw [m,ab (λq:okS g d x s=>f q.1)];rfl
theorem Pe (d:aa):cnt 48 57 d=d.length↔∀c∈d,aT c=true:=JZ 48 57 d
theorem Aw (n:Nat) (g l:Bool) (d:aa) (x s:Int) (N:200<n) (K:d.length<=100):ca n g l d x s=some (if okY g l d x s then 1 else 0):=by
 have G:=IN d;have u:=EV d;have o:=LE d;have m:=Pe d;unfold ca;rw [Ea n d 48 57 (by omega) (by omega),Ea n d 88 88 (by omega) (by omega),Ea n d 48 48 (by omega) (by omega)];simp only [ob];generalize O:cnt 48 57 d=A at *;generalize M:cnt 88 88 d=B at *;have w0:IntKind.wrap .i64 (((A:Nat):Int)+((B:Nat):Int))=((A+B:Nat):Int):=by rw [wrap_i64 _ (by omega) (by omega)];omega
 rw [w0];simp only [D5,bG,E8];by_cases y:A+B=d.length
 ·rw [ae (by omega)];have v:=G.2.1 y;by_cases D:s<0
  ·rw [ae D,ab];intro q;unfold okY at q;split at q
   ·have:=q.2.1;omega
   ·have:=q.2.2.2.2.1;omega
  ·rw [ab D];cases l with
   | false=>
    have i:(if okY g false d x s then (1:Int) else 0)=if okS g d x s then 1 else 0:=by simp only [okY,bq,aE]
    rw [i,af];by_cases j:d.length=4
    ·rw [ae (by omega)];by_cases h:x=0
     ·rw [ae h];have a:¬(g=true/\all0 d=true)->(if s>4 then some (0:Int) else if s>0 then (if ((B:Nat):Int)>0 then some 0 else some 1) else some 1)=some (if okS g d x s then 1 else 0):=by
       intro H;by_cases w:s>4
       ·rw [ae w,ab (λq:okS g d x s=>by have:=q.2.2.2.2.2.1;omega)]
       ·rw [ab w];by_cases I:s>0
        ·rw [ae I];by_cases p:((B:Nat):Int)>0
         ·rw [ae p,ab (λq:okS g d x s=>q.2.2.2.2.2.2 ⟨by omega,by rw [u];exact am (by omega)⟩)]
         ·rw [ab p,ae ⟨j,v,h,H,by omega,by omega,λq=>by
           have:=q.2;rw [u,bZ] at this;omega⟩]
        ·rw [ab I,ae ⟨j,v,h,H,by omega,by omega,λq=>by omega⟩]
      cases g with
      | false=>rw [af];exact a (by simp)
      | true=>
       rw [aj,gP];by_cases e:all0 d=true
       ·rw [ae (by have:=o.1 e;omega),ab (λq:okS true d x s=>q.2.2.2.1 ⟨rfl,e⟩)]
       ·rw [ab (λq=>e (o.2 (by omega)))];exact a (λq=>e q.2)
     ·rw [ab h,ab (λq:okS g d x s=>h q.2.2.1)]
    ·rw [ab (by omega),ab (λq:okS g d x s=>j q.1)]
   | true=>
    have i:(if okY g true d x s then (1:Int) else 0)=if okL d x s then 1 else 0:=by simp only [okY,aJ]
    rw [i,aj];by_cases p:((B:Nat):Int)>0
    ·rw [ae p,ab];intro q;have:=m.2 q.1.1;omega
    ·rw [ab p];have f:=m.1 (by omega);by_cases j:((A:Nat):Int)<1
     ·rw [ae j,ab (λq:okL d x s=>by have:=q.1.2.1;omega)]
     ·rw [ab j];by_cases h:((A:Nat):Int)>17
      ·rw [ae h,ab (λq:okL d x s=>by have:=q.1.2.2.1;omega)]
      ·rw [ab h];obtain ⟨c,r,rfl⟩:∃c r,d=c::r:=by
        cases d with
        | nil=>simp at y;omega
        | cons c r=>exact ⟨c,r,rfl⟩
       have z:sx (c::r) 0=some c:=by simp [sx]
       simp only [z,P7,gP];by_cases e:c=48
       ·rw [ae e,ab (λq:okL (c::r) x s=>q.1.2.2.2.1 (by rw [e];rfl))]
       ·rw [ab e];by_cases C:x<0
        ·rw [ae C,ab (λq:okL (c::r) x s=>by have:=q.1.2.2.2.2.1;omega)]
        ·rw [ab C];by_cases F:x>16
         ·rw [ae F,ab (λq:okL (c::r) x s=>by have:=q.1.2.2.2.2.2.1;omega)]
         ·rw [ab F];obtain ⟨k,rfl⟩:∃k:Nat,x=(k:Int):=⟨x.toNat,by omega⟩;have J:IntKind.wrap .i64 (((A:Nat):Int)+(k:Int))=((A+k:Nat):Int):=by rw [wrap_i64 _ (by omega) (by omega)];omega
          rw [J,jh n (c::r) k f K (by omega) (by omega)];have t:(c::r).length=A:=by omega
          have a:¬((k:Int)=0/\(c::r).length<5)->(if s>((A+k:Nat):Int) then some (0:Int) else some (if dval 0 (c::r)*10 ^ k<=E16 then (((dval 0 (c::r)*10 ^ k:Nat):Int),(1:Int)) else (0,0)).2)=some (if okL (c::r) (k:Int) s then 1 else 0):=by
           intro L;by_cases w:s>((A+k:Nat):Int)
           ·rw [ae w,ab (λq:okL (c::r) (k:Int) s=>by have:=q.2.2;rw [t] at this;omega)]
           ·rw [ab w];by_cases b:dval 0 (c::r)*10 ^ k<=E16
            ·rw [ae b,ae ⟨⟨f,by omega,by omega,by simpa using e,by omega,by omega,L,by simpa using b⟩,by omega,by omega⟩]
            ·rw [ab b,ab (λq:okL (c::r) (k:Int) s=>b (by simpa using q.1.2.2.2.2.2.2.2))]
          by_cases b:(k:Int)=0
          ·rw [ae b];by_cases E:((A:Nat):Int)<5
           ·rw [ae E,ab (λq:okL (c::r) (k:Int) s=>q.1.2.2.2.2.2.2.1 ⟨b,by omega⟩)]
           ·rw [ab E];exact a (λq=>by omega)
          ·rw [ab b];exact a (λq=>b q.1)
 ·rw [ab (by omega),ab];intro q;apply y;rw [G.2];unfold okY at q;split at q
  ·exact λc hc=>.inl (q.1.1 c hc)
  ·exact q.2.1
theorem JX:∀(l:aa) (a:Nat),a*10 ^ l.length<=dval a l
 | [],a=>by rw [nh];simp
 | c::l,a=>by
  have ih:=JX l (sX a c);rw [mM,bf,qs];have h:a*10<=sX a c:=yY _ _;have d:=mc (10 ^ l.length) h;have b:a*(10 ^ l.length*10)=a*10*10 ^ l.length:=by rw [sa (10 ^ l.length) 10,Br]
  omega
theorem o8:∀(l:aa) (a k:Nat),(∀c∈l,aT c=true)->a<10 ^ k->dval a l<10 ^ (l.length+k)
 | [],a,k,_,h=>by rw [nh];simpa using h
 | c::l,a,k,e,h=>by
  have hc:=(bH c).1 (e c (by simp));have f:(10:Nat) ^ (k+1)=10 ^ k*10:=qs 10 k;have g:sX a c=a*10+(c.toNat - 48):=rfl;have ih:=o8 l (sX a c) (k+1) (λd b=>e d (by simp [b])) (by omega);rw [mM,bf,show l.length+1+k=l.length+(k+1) by omega];exact ih
structure Num (d:aa) (k q:Nat):Prop where
 dig:∀c∈d,aT c=true
 ne:d≠[]
 wide:d.length+k<=17
 small:dval 0 d*10 ^ k<=E16
 sig:q<=d.length+k
theorem qZ {d:aa} (h:∀c∈d,aT c=true):hasX d=false:=by
 unfold hasX;rw [pZ];intro c hc a;rw [bg] at a;have:=(bH c).1 (h c hc);rw [a] at this;exact absurd this.2 (by decide)
theorem ru {g l:Bool} {d:aa} {x s:Int} (h:okY g l d x s) (n:hasX d=false):∃k q:Nat,x=(k:Int)/\s=(q:Int)/\Num d k q:=by
 cases l with
 | true=>
  have h:okL d x s:=by simpa [okY] using h
  obtain ⟨⟨b,f,z,i,C,y,B,A⟩,u,v⟩:=h;refine ⟨x.toNat,s.toNat,by omega,by omega,b,by intro e;subst e;simp at f,?_,A,by omega⟩;cases d with
  | nil=>simp at f
  | cons c r=>
   have hc:=(bH c).1 (b c (by simp));have p:c≠48:=by simpa using i
   have m:1<=sX 0 c:=by
    have:c.toNat≠48:=λe=>p (fF.1 e);show 1<=0*10+(c.toNat - 48);omega
   have w:=JX r (sX 0 c);rw [<-mM] at w;have u:10 ^ r.length<=dval 0 (c::r):=by
    have:=mc (10 ^ r.length) m;omega
   have j:=mc (10 ^ x.toNat) u;rw [<-Nat.pow_add] at j;rcases aF (r.length+x.toNat) 17 with a | o
   ·simp only [bf];omega
   ·have:=PZ o;omega
 | false=>
  have h:okS g d x s:=by simpa [okY] using h
  obtain ⟨b,f,z,i,C,y,B⟩:=h;have t:∀c∈d,aT c=true:=by
   intro c hc;rcases f c hc with h | h
   ·exact h
   ·exfalso;unfold hasX at n;rw [pZ] at n;exact n c hc (bg.2 h)
  have a:=o8 d 0 0 t (by simp);rw [b] at a;refine ⟨0,s.toNat,by omega,by omega,t,by intro e;subst e;simp at b,by omega,?_,by omega⟩;have i:(10:Nat) ^ (4+0)=10000:=by decide
  unfold E16;simp only [yO,oU];omega
def val (d:aa) (k:Nat):Nat:=dval 0 d*10 ^ k
theorem yB (n:Nat) (g l:Bool) (d:aa) (x s:Int) (c:200<n) (b:d.length<=100):
  dK n g l d x s=some (if okY g l d x s/\hasX d=false then (if g then -((val d x.toNat:Nat):Int) else ((val d x.toNat:Nat):Int),0) else (0,6)):=by
 unfold dK;rw [Eq n g l d x s c b,qV];simp only [ob];by_cases h:okY g l d x s
 ·rw [ae h];cases e:hasX d with
  | true=>rw [ab (by simp)];rfl
  | false=>
   rw [ae ⟨h,rfl⟩];obtain ⟨k,q,rfl,rfl,a⟩:=ru h e;rw [Js n g l d k q a.dig a.ne (by have:=a.wide;omega) (by have:=a.wide;omega) (by omega),ae a.small];have f:=a.small;unfold E16 at f;cases g with
   | true=>
    simp only [gO,af,aj,bI,val,aJ];rw [wrap_i64 _ (by omega) (by omega),wK]
   | false=>simp [val]
 ·rw [ab h,ab (λq=>h q.1)];rfl
theorem eZ {a b:aa} (h:a.length+b.length<=1000000):cat a b=some (a++b):=by
 unfold cat;rw [ae (by omega)]
theorem cut1 {l:aa} {i:Nat} {c:UInt8} (h:l[i]?=some c):List.drop i (List.take (i+1) l)=[c]:=by
 have a:=qL h;rw [qi,h,AW (by rw [cN];omega)];rfl
theorem O1 {l:aa} {i:Nat} {c:UInt8} (h:l[i]?=some c):List.take (i+1) l=List.take i l++[c]:=by
 rw [qi,h];rfl
theorem ou {g l:Bool} {d:aa} {x s:Int} (h:okY g l d x s) (a:hasX d=true):l=false/\x=0/\s=0/\d.length=4/\∀c∈d,aT c=true\/c=88:=by
 cases l with
 | true=>
  have h:okL d x s:=by simpa [okY] using h
  rw [qZ h.1.1] at a;cases a
 | false=>
  have h:okS g d x s:=by simpa [okY] using h
  obtain ⟨j,b,f,k,n,m,i⟩:=h;refine ⟨rfl,f,?_,j,b⟩;have:¬0<s:=λe=>i ⟨e,a⟩;omega
theorem ir {g l:Bool} {d:aa} {x s:Int} (h:okY g l d x s):0<=x/\x<=16/\0<=s/\s<=17/\1<=d.length/\d.length<=17:=by
 cases b:hasX d with
 | true=>
  obtain ⟨rfl,rfl,rfl,j,_⟩:=ou h b;omega
 | false=>
  obtain ⟨k,q,rfl,rfl,a⟩:=ru h b;have i:=a.wide;have e:=a.sig;have f:1<=d.length:=by
   cases d with
   | nil=>exact absurd rfl a.ne
   | cons c r=>simp
  omega
def numU (d:UInt8):aa->Nat⊕(Nat×Nat)
 | []=>.inr (d.toNat - 48,2)
 | e::_=>if aT e=true then .inr (10*(d.toNat - 48)+(e.toNat - 48),3) else .inr (d.toNat - 48,2)
def numT:aa->Nat⊕(Nat×Nat)
 | []=>.inl 1
 | d::r=>if 49<=d.toNat/\d.toNat<=57 then numU d r else .inl 1
def numS (letter:UInt8):aa->Nat⊕(Nat×Nat)
 | []=>.inr (0,0)
 | c::r=>if c=letter then numT r else .inr (0,0)
theorem tj (letter:UInt8):numS letter []=.inr (0,0):=rfl
theorem lQ (letter c:UInt8) (r:aa):numS letter (c::r)=if c=letter then numT r else .inr (0,0):=rfl
theorem yE:numT []=.inl 1:=rfl
theorem mJ (d:UInt8) (r:aa):numT (d::r)=if 49<=d.toNat/\d.toNat<=57 then numU d r else .inl 1:=rfl
theorem rA (d:UInt8):numU d []=.inr (d.toNat - 48,2):=rfl
theorem lF (d e:UInt8) (r:aa):numU d (e::r)=if aT e=true then .inr (10*(d.toNat - 48)+(e.toNat - 48),3) else .inr (d.toNat - 48,2):=rfl
theorem wG (c:UInt8) (h:c.toNat<128):(Utf8.encode ((c.toNat:Nat):Int)).data.toList=[c]:=by
 have:=gu (λc=>(decide (128<=c.toNat))||(Utf8.encode ((c.toNat:Nat):Int)).data.toList==[c]) (by decide +kernel) c;simp only [gv,bZ,bg] at this;rcases this with a | a
 ·omega
 ·exact a
theorem n7 {c:UInt8} (h:48<=c.toNat/\c.toNat<=57):Lib.digitVal c=some (c.toNat - 48):=by
 unfold Lib.digitVal;rw [ae h]
theorem wE {c:UInt8} (h:48<=c.toNat/\c.toNat<=57) (r:aa):Lib.atoi (c::r)=(Lib.decNat (c::r)).map λ(m:Nat)=>(m:Int):=by
 have b:(c==45)=false:=by
  rw [aM];rintro rfl;exact absurd h.1 (by decide)
 have a:(c==43)=false:=by
  rw [aM];rintro rfl;exact absurd h.1 (by decide)
 simp only [Lib.atoi,b,a,bq,aE]
theorem LW {c:UInt8} (h:48<=c.toNat/\c.toNat<=57):Lib.atoi [c]=some ((c.toNat - 48:Nat):Int):=by
 rw [wE h];simp only [Lib.decNat,List.isEmpty_cons,bq,aE,Lib.decFrom,n7 h,ew,xz,cL]
theorem DI {c e:UInt8} (h:48<=c.toNat/\c.toNat<=57) (a:48<=e.toNat/\e.toNat<=57):Lib.atoi [c,e]=some ((10*(c.toNat - 48)+(e.toNat - 48):Nat):Int):=by
 rw [wE h];simp only [Lib.decNat,List.isEmpty_cons,bq,aE,Lib.decFrom,n7 h,n7 a,ew,xz,cL];rw [sa]
theorem wx (c:UInt8):hasB [49,50,51,52,53,54,55,56,57] c=decide (49<=c.toNat/\c.toNat<=57):=by
 have:=gu (λc=>hasB [49,50,51,52,53,54,55,56,57] c==decide (49<=c.toNat/\c.toNat<=57)) (by decide +kernel) c;simpa using this
theorem ja {p q:UInt8->Bool} (h:∀c,p c=q c):∀(k:Nat) (l:aa),br p k l=br q k l
 | 0,_=>by simp [br]
 | _+1,[]=>by simp [br]
 | k+1,c::l=>by simp only [br,h c,ja h k l]
theorem lG {S:aa} {a:Nat} {c:UInt8} {r:aa} (h:S.drop a=c::r):a<S.length/\S[a]?=some c/\S.drop (a+1)=r:=by
 have b:a<S.length:=by
  rcases aF a S.length with q | q
  ·exact q
  ·rw [iD q] at h;cases h
 have e:S[a]?=some S[a]:=bj b;have d:=bT e;rw [h] at d;injection d with h1 h2;exact ⟨b,by rw [e,h1],h2.symm⟩
theorem Jg (n:Nat) (letter:UInt8) (S:aa) (a:Nat) (h:a<=S.length) (E:S.length<100000) (z:S.length<n):
  cA n [letter] S (a:Int)=some (match numS letter (S.drop a) with | .inl k=>.inr (((a+k:Nat):Int),5,S,((a+k:Nat):Int)) | .inr (v,k)=>.inl ((v:Int),S,((a+k:Nat):Int))):=by
 unfold cA;rw [li n [letter] S a h (by omega)];cases A:S.drop a with
 | nil=>simp [tj]
 | cons c r=>
  obtain ⟨C,G,w⟩:=lG A;rw [lQ];by_cases hc:c=letter
  ·have l:List.take [letter].length (c::r)=[letter]:=by simp [hc]
   have m:a+[letter].length=a+1:=rfl;rw [ae l,m,ae hc];clear l;simp only [ob,cV,af];rw [yA n _ S (a+1) (by omega) (by omega),w];cases r with
   | nil=>simp [yE]
   | cons d y=>
    obtain ⟨x,D,s⟩:=lG w;rw [mJ];simp only [wx,bZ];by_cases b:49<=d.toNat/\d.toNat<=57
    ·rw [ae b,ae b];simp only [];rw [tz n _ 0 1 S (a+1+1) (by omega) (by omega) z,s];have F:=km (hasB [48,49,50,51,52,53,54,55,56,57]) (1:Int).toNat y;rw [ab (by omega)];rw [ja uk];simp only [];rw [wG d (by omega)];have i:Nat.ble ([d]:aa).length 18=true:=rfl;have t:∀e:UInt8,Nat.ble ([d,e]:aa).length 18=true:=λ_=>rfl;have p:a+1+1=a+2:=rfl;have B:a+2+1=a+3:=rfl;have u:=LW (show 48<=d.toNat/\d.toNat<=57 by omega);cases y with
     | nil=>
      have j:br aT (1:Int).toNat []=0:=rfl;rw [j,rA];rw [eZ (by simp)];simp only [List.take_nil,mj,cf,i,aj,u,opt,p]
     | cons e f=>
      by_cases g:aT e=true
      ·have j:br aT (1:Int).toNat (e::f)=1:=by
        show br aT (0+1) (e::f)=1;simp [br,g]
       have o:=DI (show 48<=d.toNat/\d.toNat<=57 by omega) ((bH e).1 g);rw [j,lF,ae g];have q:List.take 1 (e::f)=[e]:=rfl;rw [q,eZ (by simp)];simp only [dY,ek,t,aj,o,opt,p,B]
      ·have j:br aT (1:Int).toNat (e::f)=0:=by
        show br aT (0+1) (e::f)=0;simp [br,g]
       rw [j,lF,ab g];have q:List.take 0 (e::f)=[]:=rfl;rw [q,eZ (by simp)];simp only [mj,i,aj,u,opt,cf,p]
    ·rw [ab b,ab b]
  ·have e:¬List.take [letter].length (c::r)=[letter]:=by simp [hc]
   rw [ab e,ab hc];simp
theorem Jf (n:Nat) (letter:UInt8) (S:aa) (a:Nat) (h:a<=S.length) (K:S.length<100000):
  ah n S (a:Int) ((letter.toNat:Nat):Int)=some (match numS letter (S.drop a) with | .inl k=>(-1,((a+k:Nat):Int)) | .inr (v,k)=>((v:Int),((a+k:Nat):Int))):=by
 unfold ah;rw [jV];cases o:S.drop a with
 | nil=>
  have:S.length<=a:=by
   rcases aF a S.length with q | q
   ·rw [bT (bj q)] at o;cases o
   ·exact q
  rw [am this];simp [tj]
 | cons c r=>
  obtain ⟨F,E,j⟩:=lG o;have B:IntKind.wrap .i64 ((a:Int)+1)=((a+1:Nat):Int):=by rw [wrap_i64 _ (by omega) (by omega)];omega
  have A:IntKind.wrap .i64 (((a+1:Nat):Int)+1)=((a+2:Nat):Int):=by rw [wrap_i64 _ (by omega) (by omega)];omega
  have D:IntKind.wrap .i64 (((a+2:Nat):Int)+1)=((a+3:Nat):Int):=by rw [wrap_i64 _ (by omega) (by omega)];omega
  rw [ar (show ¬S.length<=a by omega),af,dF E];simp only [ob,B,A,D,jV,eY];have m:(((c.toNat:Nat):Int) != ((letter.toNat:Nat):Int))=!(c==letter):=by rw [bne,lH]
  rw [m,lQ];by_cases hc:c=letter
  ·have e:(!(c==letter))=false:=by rw [hc];simp
   rw [e,af,ae hc];cases r with
   | nil=>
    have:S.length<=a+1:=by
     rcases aF (a+1) S.length with q | q
     ·rw [bT (bj q)] at j;cases j
     ·exact q
    rw [am this];rfl
   | cons d G=>
    obtain ⟨x,t,b⟩:=lG j;rw [mJ];rw [ar (show ¬S.length<=a+1 by omega),af,dF t];simp only [];by_cases I:d.toNat<49
    ·have p:decide (((d.toNat:Nat):Int)<49)=true:=am (by omega);rw [p,aj,ab (by omega)]
    ·have p:decide (((d.toNat:Nat):Int)<49)=false:=ar (by omega);rw [p,af];by_cases J:d.toNat>57
     ·have i:decide (((d.toNat:Nat):Int)>57)=true:=am (by omega);rw [i,aj,ab (by omega)]
     ·have i:decide (((d.toNat:Nat):Int)>57)=false:=ar (by omega);rw [i,af,ae (by omega)];have z:IntKind.wrap .i64 (IntKind.wrap .u8 (((d.toNat:Nat):Int) - 48))=((d.toNat - 48:Nat):Int):=by
       rw [ig _ (by omega) (by omega),wrap_i64 _ (by omega) (by omega)];omega
      rw [z];cases G with
      | nil=>
       have:¬a+2<S.length:=by
        intro q;rw [bT (bj (show a+1+1<S.length from q))] at b;cases b
       rw [ar this,rA];rfl
      | cons e H=>
       obtain ⟨f,g,_⟩:=lG b;rw [lF];rw [am (show a+2<S.length from f),aj,dF g];simp only [];by_cases w:e.toNat>=48
       ·have s:decide (((e.toNat:Nat):Int)>=48)=true:=am (by omega);rw [s,aj];by_cases u:e.toNat<=57
        ·have l:decide (((e.toNat:Nat):Int)<=57)=true:=am (by omega);have C:IntKind.wrap .i64 (IntKind.wrap .u8 (((e.toNat:Nat):Int) - 48))=((e.toNat - 48:Nat):Int):=by
          rw [ig _ (by omega) (by omega),wrap_i64 _ (by omega) (by omega)];omega
         have y:IntKind.wrap .i64 (10*((d.toNat - 48:Nat):Int))=((10*(d.toNat - 48):Nat):Int):=by rw [wrap_i64 _ (by omega) (by omega)];omega
         have ws:IntKind.wrap .i64 (((10*(d.toNat - 48):Nat):Int)+((e.toNat - 48:Nat):Int))=((10*(d.toNat - 48)+(e.toNat - 48):Nat):Int):=by rw [wrap_i64 _ (by omega) (by omega)];omega
         rw [l,aj,ae ((bH e).2 ⟨w,u⟩),C,y,ws]
        ·have l:decide (((e.toNat:Nat):Int)<=57)=false:=ar (by omega);rw [l,af,ab (λq=>u ((bH e).1 q).2)]
       ·have s:decide (((e.toNat:Nat):Int)>=48)=false:=ar (by omega);rw [s,af,ab (λq=>w ((bH e).1 q).1)]
  ·have e:(!(c==letter))=true:=by rw [aM.2 hc];rfl
   rw [e,aj,ab hc];rfl
def isDX (c:UInt8):Bool:=aT c||c==88
abbrev YR:=Bool×Bool×aa×Nat×Nat×Nat
def re (g:Bool) (o:Nat):aa->Nat⊕YR
 | []=>.inl o
 | c::r=>if 49<=c.toNat/\c.toNat<=57 then
   (match numS 69 ((c::r).drop (1+br aT 16 r)) with
   | .inl j=>.inl (o+(1+br aT 16 r)+j)
   | .inr (x,j)=>(match numS 83 ((c::r).drop (1+br aT 16 r+j)) with
    | .inl i=>.inl (o+(1+br aT 16 r)+j+i)
    | .inr (s,i)=>.inr (g,true,(c::r).take (1+br aT 16 r),x,s,o+(1+br aT 16 r)+j+i)))
  else .inl o
def sI (g:Bool) (o:Nat) (l:aa):Nat⊕YR:=
 if br isDX 4 l<4 then .inl (o+br isDX 4 l) else
  (match numS 83 (l.drop 4) with
  | .inl i=>.inl (o+4+i)
  | .inr (s,i)=>.inr (g,false,l.take 4,0,s,o+4+i))
def ec (c:UInt8) (l:aa):Nat:=if l.take 1=[c] then 1 else 0
def m6 (l:aa):Nat⊕YR:=
 if ec 89 l=1 then re (ec 45 (l.drop 1)==1) (1+ec 45 (l.drop 1)) (l.drop (1+ec 45 (l.drop 1)))
 else sI (ec 45 l==1) (ec 45 l) (l.drop (ec 45 l))
theorem kf (c:UInt8) (l:aa):ec c l=0\/ec c l=1:=by
 unfold ec;split
 ·exact .inr rfl
 ·exact .inl rfl
theorem xX (c:UInt8) (l:aa):ec c l<=l.length:=by
 unfold ec;split
 ·rename_i h;cases l with
  | nil=>simp at h
  | cons a l=>simp
 ·omega
theorem rF (n:Nat) (c:UInt8) (S:aa) (a:Nat) (h:a<=S.length) (b:S.length<100000):
  aB n [c] S (a:Int)=some (ec c (S.drop a)==1,S,((a+ec c (S.drop a):Nat):Int)):=by
 rw [li n [c] S a h (by omega)];unfold ec;have e:[c].length=1:=rfl;rw [e];split<;>rfl
def wc (S:aa) (a:Nat):Nat⊕YR->(Int×Int×aa×Int)⊕(Bool×Bool×aa×Int×Int×aa×Int)
 | .inl k=>.inl (((a+k:Nat):Int),5,S,((a+k:Nat):Int))
 | .inr (g,l,d,x,s,k)=>.inr (g,l,d,(x:Int),(s:Int),S,((a+k:Nat):Int))
def mu (a:Nat):Nat⊕YR->Bool×Bool×aa×Int×Int×Int×Int
 | .inl k=>(false,false,[],0,0,((a+k:Nat):Int),5)
 | .inr (g,l,d,x,s,k)=>(g,l,d,(x:Int),(s:Int),((a+k:Nat):Int),0)
theorem O9 (letter:UInt8) (l:aa):(match numS letter l with | .inl k=>k<=l.length | .inr (_,k)=>k<=l.length):=by
 cases l with
 | nil=>simp [tj]
 | cons c r=>
  rw [lQ];by_cases hc:c=letter
  ·rw [ae hc];cases r with
   | nil=>simp [yE]
   | cons d f=>
    rw [mJ];by_cases a:49<=d.toNat/\d.toNat<=57
    ·rw [ae a];cases f with
     | nil=>simp [rA]
     | cons e g=>
      rw [lF];by_cases b:aT e=true
      ·rw [ae b];simp
      ·rw [ab b];simp
    ·rw [ab a];simp
  ·rw [ab hc];simp
theorem xh {letter:UInt8} {S:aa} {a:Nat} (h:a<=S.length) {v k:Nat} (b:numS letter (S.drop a)=.inr (v,k)):a+k<=S.length:=by
 have:=O9 letter (S.drop a);rw [b,cZ] at this;simp only at this;omega
theorem NX (n:Nat) (S:aa) (a o:Nat) (g:Bool) (h:a+o<=S.length) (J:S.length<100000) (E:S.length<n):
  (ob (bU n [49,50,51,52,53,54,55,56,57] S ((a+o:Nat):Int)) λC=>(Sum.casesOn (motive:=λ_=>Option ((Int×Int×aa×Int)⊕(Bool×Bool×aa×Int×Int×aa×Int))) C (λd=>(some (.inl (d.1,d.2.1,d.2.2.1,d.2.2.2)))) (λq=>(ob (bL n [48,49,50,51,52,53,54,55,56,57] 0 16 q.2.1 q.2.2) λy=>(Sum.casesOn (motive:=λ_=>Option _) y (λe=>(some (.inl (e.1,e.2.1,e.2.2.1,e.2.2.2)))) (λt=>(ob (cat (Utf8.encode q.1).data.toList t.1) λA=>(ob (cA n [69] t.2.1 t.2.2) λB=>(Sum.casesOn (motive:=λ_=>Option _) B (λm=>(ob (cA n [83] m.2.1 m.2.2) λw=>(Sum.casesOn (motive:=λ_=>Option _) w (λl=>(some (.inr (g,true,A,m.1,l.1,l.2.1,l.2.2)))) (λf=>(some (.inl (f.1,f.2.1,f.2.2.1,f.2.2.2))))))) (λb=>(some (.inl (b.1,b.2.1,b.2.2.1,b.2.2.2)))))))))))))=some (wc S a (re g o (S.drop (a+o)))):=by
 rw [yA n _ S (a+o) h (by omega)];cases F:S.drop (a+o) with
 | nil=>simp [re,wc,ob]
 | cons c r=>
  obtain ⟨Q,T,I⟩:=lG F;simp only [wx,bZ];by_cases hc:49<=c.toNat/\c.toNat<=57
  ·rw [ae hc];simp only [ob];rw [tz n _ 0 16 S (a+o+1) (by omega) (by omega) E,I];rw [ab (by omega),ja uk];simp only [];rw [wG c (by omega)];have D:(16:Int).toNat=16:=rfl;rw [D];have N:=km aT 16 r;have M:r.length+(a+o+1)=S.length:=by
    have:=cK List.length I;rw [cZ] at this;omega
   rw [eZ (by simp only [bf,dR,cN];omega)];simp only [re];rw [ae hc];generalize R:br aT 16 r=k at N ⊢;have P:[c]++List.take k r=List.take (1+k) (c::r):=by rw [nB];rfl
   rw [P];have z:a+o+1+k<=S.length:=by omega
   have u:List.drop (1+k) (c::r)=S.drop (a+o+1+k):=by
    rw [<-F,iL];congr 1;omega
   rw [Jg n 69 S (a+o+1+k) z J E,<-u];cases L:numS 69 (List.drop (1+k) (c::r)) with
   | inl j=>
    simp only [wc];have:a+o+1+k+j=a+(o+(1+k)+j):=by omega
    rw [this]
   | inr p=>
    obtain ⟨x,j⟩:=p;have H:=L;rw [u] at H;have G:=xh z H;have v:List.drop (1+k+j) (c::r)=S.drop (a+o+1+k+j):=by
     rw [<-F,iL];congr 1;omega
    simp only [];rw [Jg n 83 S (a+o+1+k+j) G J E,<-v];cases K:numS 83 (List.drop (1+k+j) (c::r)) with
    | inl i=>
     simp only [wc];have:a+o+1+k+j+i=a+(o+(1+k)+j+i):=by omega
     rw [this]
    | inr O=>
     obtain ⟨s,i⟩:=O;simp only [wc];have:a+o+1+k+j+i=a+(o+(1+k)+j+i):=by omega
     rw [this]
  ·rw [ab hc];simp only [ob,re];rw [ab hc];rfl
theorem Kr (n:Nat) (S:aa) (a o:Nat) (g:Bool) (h:a+o<=S.length) (y:S.length<100000) (u:S.length<n):
  (ob (bL n [88,48,49,50,51,52,53,54,55,56,57] 4 4 S ((a+o:Nat):Int)) λm=>(Sum.casesOn (motive:=λ_=>Option ((Int×Int×aa×Int)⊕(Bool×Bool×aa×Int×Int×aa×Int))) m (λb=>(some (.inl (b.1,b.2.1,b.2.2.1,b.2.2.2)))) (λf=>(ob (cA n [83] f.2.1 f.2.2) λj=>(Sum.casesOn (motive:=λ_=>Option _) j (λe=>(some (.inr (g,false,f.1,0,e.1,e.2.1,e.2.2)))) (λd=>(some (.inl (d.1,d.2.1,d.2.2.1,d.2.2.2)))))))))=some (wc S a (sI g o (S.drop (a+o)))):=by
 rw [tz n _ 4 4 S (a+o) h (by omega) u];have t:∀c,hasB [88,48,49,50,51,52,53,54,55,56,57] c=isDX c:=rP;have w:(4:Int).toNat=4:=rfl;rw [ja t,w];unfold sI;have v:=km isDX 4 (S.drop (a+o));rw [cZ] at v;by_cases q:br isDX 4 (S.drop (a+o))<4
 ·rw [ae (by omega),ae q];simp only [ob,wc];rw [gh]
 ·rw [ab (by omega),ab q];have r:∀(k:Nat) (l:aa),br isDX k l<=k:=by
   intro k
   induction k with
   | zero=>intro l;simp [br]
   | succ k ih=>
    intro l;cases l with
    | nil=>simp [br]
    | cons c l=>
     have:=ih l;simp only [br];split<;>omega
  have x:br isDX 4 (S.drop (a+o))=4:=by have:=r 4 (S.drop (a+o));omega
  rw [x] at v ⊢;simp only [ob];have z:a+o+4<=S.length:=by omega
  rw [Jg n 83 S (a+o+4) z y u,iL];cases A:numS 83 (S.drop (a+o+4)) with
  | inl i=>
   simp only [wc];have:a+o+4+i=a+(o+4+i):=by omega
   rw [this]
  | inr p=>
   obtain ⟨s,i⟩:=p;simp only [wc];have:a+o+4+i=a+(o+4+i):=by omega
   rw [this];rfl
theorem OI (n:Nat) (S:aa) (a:Nat) (h:a<=S.length) (d:S.length<100000) (f:S.length<n):
  kq n S (a:Int)=some (wc S a (m6 (S.drop a))):=by
 unfold kq;rw [rF n 89 S a h d];have c:=xX 89 (S.drop a);rw [cZ] at c;simp only [ob];rw [rF n 45 S (a+ec 89 (S.drop a)) (by omega) d];have b:=xX 45 (S.drop (a+ec 89 (S.drop a)));rw [cZ] at b;simp only [];unfold m6;rcases kf 89 (S.drop a) with e | e
 ·rw [e] at b ⊢;simp only [cf,show ((0:Nat)==1)=false from rfl,af,show ¬((0:Nat)=1) from by decide,aE,iL] at b ⊢;have:=Kr n S a (ec 45 (S.drop a)) (ec 45 (S.drop a)==1) (by omega) d f;exact this
 ·rw [e] at b ⊢;simp only [show ((1:Nat)==1)=true from rfl,aj,aJ,iL] at b ⊢;have:=NX n S a (1+ec 45 (S.drop (a+1))) (ec 45 (S.drop (a+1))==1) (by omega) d f;rw [<-gh] at this;rw [<-gh];exact this
abbrev stR (S:aa) (a b M:Int) (g L:Bool):aa×Int×Int×Int×Bool×Bool×aa×Int×Int×Bool×Bool×aa×Int×Int:=(S,a,b,M,false,false,[],0,0,g,L,[],0,0)
def isYB (L:Bool) (c:UInt8):Bool:=aT c||(c==88&&!L)
theorem HY (n:Nat) (S:aa) (b M:Nat) (g:Bool) (j:0<M) (k:S.length<100000) (a:S[b]?=some 48):aw (ay (n+1)) (n+1) (stR S (b:Int) (b:Int) (M:Int) g true)=some (.inl ((b:Int),5,false,false,[],0,0)):=by
 have f:=qL a;have d:decide ((b:Int)<((S.length:Nat):Int))=true:=am (by omega);have c:IntKind.wrap .i64 ((b:Int) - (b:Int))=0:=by rw [Int.sub_self];rfl
 have d2:decide ((0:Int)<(M:Int))=true:=am (by omega);have i:decide ((((48:UInt8).toNat:Nat):Int)>=48)=true:=rfl;have e:decide ((((48:UInt8).toNat:Nat):Int)<=57)=true:=rfl;have h:((((48:UInt8).toNat:Nat):Int)==48)=true:=rfl;simp only [aw,ay,d,aj,c,d2,dF a,ob,i,e,h,uw]
theorem yb (n:Nat) (S:aa) (b M:Nat) (g L:Bool) (N:b<=S.length) (R:S.length<100000) (Q:S.length<n) (t:¬(L=true/\S[b]?=some 48)):
  aw (ay n) n (stR S (b:Int) (b:Int) (M:Int) g L)=some (.inr (S,((b+br (isYB L) M (S.drop b):Nat):Int),(b:Int),false,false,[],0,0,g,L,[],0,0)):=by
 have:=eO (step:=ay n) (λx=>∃j:Nat,b+j<=S.length/\x=stR S ((b+j:Nat):Int) (b:Int) (M:Int) g L) (λx=>S.length - x.2.1.toNat)
  (λx=>.inr (S,((x.2.1.toNat+br (isYB L) (M - (x.2.1.toNat - b)) (S.drop x.2.1.toNat):Nat):Int),(b:Int),false,false,[],0,0,g,L,[],0,0)) ?_ n (stR S (b:Int) (b:Int) (M:Int) g L) ⟨0,by omega,rfl⟩ (by simp;omega)
 ·rw [this];simp
 rintro x ⟨j,P,rfl⟩;simp only [bI];rcases aF (b+j) S.length with z | v
 ·obtain ⟨c,hc⟩:∃c,S[b+j]?=some c:=⟨S[b+j],bj z⟩;have f:decide (((b+j:Nat):Int)<((S.length:Nat):Int))=true:=am (by omega);have p:IntKind.wrap .i64 (((b+j:Nat):Int) - (b:Int))=(j:Int):=by rw [wrap_i64 _ (by omega) (by omega)];omega
  have C:IntKind.wrap .i64 (((b+j:Nat):Int)+1)=((b+(j+1):Nat):Int):=by rw [wrap_i64 _ (by omega) (by omega)];omega
  have m:b+j - b=j:=by omega
  rw [bT hc,m];by_cases T:j<M
  ·have d2:decide ((j:Int)<(M:Int))=true:=am (by omega);obtain ⟨q,H⟩:∃q,M - j=q+1:=⟨M - j - 1,by omega⟩;have u:M - (j+1)=q:=by omega
   rw [H];simp only [br];have F:isYB L c=true->ay n (stR S ((b+j:Nat):Int) (b:Int) (M:Int) g L)=some (.inl (stR S ((b+(j+1):Nat):Int) (b:Int) (M:Int) g L)):=by
    intro a;by_cases k:aT c=true
    ·have I:=(bH c).1 k;have i:decide (((c.toNat:Nat):Int)>=48)=true:=am (by omega);have o:decide (((c.toNat:Nat):Int)<=57)=true:=am (by omega);simp only [ay,f,aj,p,d2,dF hc,ob,i,o,C];cases L with
     | false=>rfl
     | true=>
      by_cases w:j=0
      ·subst w;have s:c≠48:=by
        intro e;exact t ⟨rfl,by rw [<-e];exact hc⟩
       have A:(((c.toNat:Nat):Int)==48)=false:=by rw [P7];exact aM.2 s
       simp only [cf,uw,aj,A,af]
      ·have G:(((b+j:Nat):Int)==(b:Int))=false:=aM.2 (by omega);simp only [G,af,aj]
    ·have d:aT c=false:=by cases h:aT c with | false=>rfl | true=>exact absurd h k
     unfold isYB at a;rw [d] at a;simp only [nP,aA,bg,jL] at a;obtain ⟨rfl,rfl⟩:=a;have i:decide ((((88:UInt8).toNat:Nat):Int)>=48)=true:=rfl;have o:decide ((((88:UInt8).toNat:Nat):Int)<=57)=false:=rfl;have A:((((88:UInt8).toNat:Nat):Int)==88)=true:=rfl;simp only [ay,f,aj,p,d2,dF hc,ob,i,o,A,C,af,ie]
   have l:isYB L c=false->ay n (stR S ((b+j:Nat):Int) (b:Int) (M:Int) g L)=some (.inr (.inr (S,((b+j:Nat):Int),(b:Int),false,false,[],0,0,g,L,[],0,0))):=by
    intro a;unfold isYB at a;simp only [mB,zq] at a;obtain ⟨d,B⟩:=a;have E:¬(48<=c.toNat/\c.toNat<=57):=λq=>by rw [(bH c).2 q] at d;cases d
    have r:(((c.toNat:Nat):Int)==88)=(c==88):=lH c 88;have J:(cond (c==88) (cond (!L) (0:Nat) 1) 1)=1:=by
     rcases B with h | h
     ·rw [h];rfl
     ·have:L=true:=by simpa using h
      rw [this];cases c==88<;>rfl
    by_cases O:c.toNat>=48
    ·have i:decide (((c.toNat:Nat):Int)>=48)=true:=am (by omega);have o:decide (((c.toNat:Nat):Int)<=57)=false:=ar (by omega);simp only [ay,f,aj,p,d2,dF hc,ob,i,o,af,r];rcases B with h | h
     ·rw [h];rfl
     ·have:L=true:=by simpa using h
      rw [this];cases c==88<;>rfl
    ·have i:decide (((c.toNat:Nat):Int)>=48)=false:=ar (by omega);simp only [ay,f,aj,p,d2,dF hc,ob,i,af,r];rcases B with h | h
     ·rw [h];rfl
     ·have:L=true:=by simpa using h
      rw [this];cases c==88<;>rfl
   cases a:isYB L c with
   | true=>
    refine .inl ⟨_,F a,⟨j+1,by omega,rfl⟩,by simp only [bI];omega,?_⟩;simp only [bI,aJ];have D:b+(j+1) - b=j+1:=by omega
    rw [D,u,show b+(j+1)=b+j+1 by omega];have K:b+j+1+br (isYB L) q (S.drop (b+j+1))=b+j+(br (isYB L) q (S.drop (b+j+1))+1):=by omega
    rw [K]
   | false=>
    refine .inr ?_;rw [l a];simp
  ·have d2:decide ((j:Int)<(M:Int))=false:=ar (by omega);have y:M - j=0:=by omega
   refine .inr ?_;rw [y];simp only [ay,f,aj,p,d2,af,br,cf]
 ·have f:decide (((b+j:Nat):Int)<((S.length:Nat):Int))=false:=ar (by omega);refine .inr ?_;rw [iD v];have y:∀q,br (isYB L) q []=0:=λq=>by cases q<;>rfl
  simp only [ay,f,af,y,cf]
theorem JS (n:Nat) (S:aa) (a:Nat) (h:a<=S.length) (b:S.length<100000):
  ah n S (a:Int) 69=some (match numS 69 (S.drop a) with | .inl k=>(-1,((a+k:Nat):Int)) | .inr (v,k)=>((v:Int),((a+k:Nat):Int))):=Jf n 69 S a h b
theorem zj (n:Nat) (S:aa) (a:Nat) (h:a<=S.length) (b:S.length<100000):
  ah n S (a:Int) 83=some (match numS 83 (S.drop a) with | .inl k=>(-1,((a+k:Nat):Int)) | .inr (v,k)=>((v:Int),((a+k:Nat):Int))):=Jf n 83 S a h b
noncomputable def Gv (n:Nat) (a0:aa) (B M:Int) (g L:Bool):Option (Bool×Bool×aa×Int×Int×Int×Int):=
 (ob (aw (ay n) n (a0,B,B,M,false,false,[],0,0,g,L,[],0,0)) λo=>(Sum.casesOn (motive:=λ_=>Option (Bool×Bool×aa×Int×Int×Int×Int)) o (λb=>(some (b.2.2.1,b.2.2.2.1,b.2.2.2.2.1,b.2.2.2.2.2.1,b.2.2.2.2.2.2,b.1,b.2.1))) (λa=>(cond (decide ((IntKind.wrap .i64 (a.2.1 - a.2.2.1))<1)) (some (false,false,[],0,0,a.2.1,5)) (cond (!a.2.2.2.2.2.2.2.2.2.1) (cond (decide ((IntKind.wrap .i64 (a.2.1 - a.2.2.1))<4)) (some (false,false,[],0,0,a.2.1,5)) (ob (bx (List.length a.1) a.2.1) λk=>(ob (bx k a.2.2.1) λl=>(cond a.2.2.2.2.2.2.2.2.2.1 (ob (ah n a.1 a.2.1 69) λd=>(cond (decide (d.1<0)) (some (false,false,[],0,0,d.2,5)) (ob (ah n a.1 d.2 83) λe=>(cond (decide (e.1<0)) (some (false,false,[],0,0,e.2,5)) (some (a.2.2.2.2.2.2.2.2.1,a.2.2.2.2.2.2.2.2.2.1,(List.drop l (List.take k a.1)),d.1,e.1,e.2,0)))))) (ob (ah n a.1 a.2.1 83) λf=>(cond (decide (f.1<0)) (some (false,false,[],0,0,f.2,5)) (some (a.2.2.2.2.2.2.2.2.1,a.2.2.2.2.2.2.2.2.2.1,(List.drop l (List.take k a.1)),a.2.2.2.2.2.2.2.2.2.2.2.1,f.1,f.2,0)))))))) (ob (bx (List.length a.1) a.2.1) λj=>(ob (bx j a.2.2.1) λm=>(cond a.2.2.2.2.2.2.2.2.2.1 (ob (ah n a.1 a.2.1 69) λh=>(cond (decide (h.1<0)) (some (false,false,[],0,0,h.2,5)) (ob (ah n a.1 h.2 83) λc=>(cond (decide (c.1<0)) (some (false,false,[],0,0,c.2,5)) (some (a.2.2.2.2.2.2.2.2.1,a.2.2.2.2.2.2.2.2.2.1,(List.drop m (List.take j a.1)),h.1,c.1,c.2,0)))))) (ob (ah n a.1 a.2.1 83) λi=>(cond (decide (i.1<0)) (some (false,false,[],0,0,i.2,5)) (some (a.2.2.2.2.2.2.2.2.1,a.2.2.2.2.2.2.2.2.2.1,(List.drop m (List.take j a.1)),a.2.2.2.2.2.2.2.2.2.2.2.1,i.1,i.2,0))))))))))))
theorem Hg (c:UInt8):isYB true c=aT c:=by unfold isYB;cases aT c<;>simp
theorem Gg (c:UInt8):isYB false c=isDX c:=by unfold isYB isDX;simp
theorem o9 (p:UInt8->Bool):∀(k:Nat) (l:aa),br p k l<=k
 | 0,l=>by simp [br]
 | k+1,[]=>by simp [br]
 | k+1,c::l=>by
  have:=o9 p k l;simp only [br];split<;>omega
theorem CQ:decide ((-1:Int)<0)=true:=rfl
theorem Bi (x:Nat):decide (((x:Nat):Int)<0)=false:=ar (by omega)
theorem He (n:Nat) (S:aa) (a o:Nat) (g:Bool) (h:a+o<=S.length) (B:S.length<100000) (F:S.length<n):
  Gv n S ((a+o:Nat):Int) 17 g true=some (mu a (re g o (S.drop (a+o)))):=by
 unfold Gv;cases f:S.drop (a+o) with
 | nil=>
  have t:¬(true=true/\S[a+o]?=some 48):=by
   rintro ⟨_,q⟩;rw [bT q] at f;cases f
  have l:=yb n S (a+o) 17 g true h B F t;rw [f] at l;have L:br (isYB true) 17 []=0:=rfl;rw [L,cf] at l;have hl':aw (ay n) n (S,((a+o:Nat):Int),((a+o:Nat):Int),(17:Int),false,false,[],0,0,g,true,[],0,0)=_:=l;rw [hl'];have w:IntKind.wrap .i64 (((a+o:Nat):Int) - ((a+o:Nat):Int))=0:=by rw [Int.sub_self];rfl
  simp only [ob,w,re,mu];rfl
 | cons c r=>
  obtain ⟨Q,H,R⟩:=lG f;by_cases hc:c=48
  ·subst hc;obtain ⟨C,rfl⟩:∃q,n=q+1:=⟨n - 1,by omega⟩;have l:=HY C S (a+o) 17 g (by omega) B H;have hl':aw (ay (C+1)) (C+1) (S,((a+o:Nat):Int),((a+o:Nat):Int),(17:Int),false,false,[],0,0,g,true,[],0,0)=_:=l;rw [hl'];have m:¬(49<=(48:UInt8).toNat/\(48:UInt8).toNat<=57):=by decide
   simp only [ob,re,mu];rw [ab m]
  ·have m:¬(true=true/\S[a+o]?=some 48):=by
    rintro ⟨_,q⟩;rw [H] at q;exact hc (by simpa using q)
   have l:=yb n S (a+o) 17 g true h B F m;rw [f,ja Hg] at l;have G:=km aT 17 (c::r);have O:(c::r).length+(a+o)=S.length:=by
    have:=cK List.length f;rw [cZ] at this;omega
   have hl':aw (ay n) n (S,((a+o:Nat):Int),((a+o:Nat):Int),(17:Int),false,false,[],0,0,g,true,[],0,0)=_:=l;rw [hl'];have w:∀k:Nat,k<=17->IntKind.wrap .i64 (((a+o+k:Nat):Int) - ((a+o:Nat):Int))=(k:Int):=by
    intro k I;rw [wrap_i64 _ (by omega) (by omega)];omega
   by_cases d:aT c=true
   ·have N:=(bH c).1 d;have u:49<=c.toNat/\c.toNat<=57:=by
     have:c.toNat≠48:=λe=>hc (fF.1 e);omega
    have b:br aT 17 (c::r)=1+br aT 16 r:=by
     show br aT (16+1) (c::r)=_;simp only [br,d,aJ];omega
    rw [b] at G ⊢;have A:=o9 aT 16 r;simp only [re];rw [ae u];generalize br aT 16 r=k at G A ⊢;have J:decide (((1+k:Nat):Int)<1)=false:=ar (by omega);simp only [ob,w (1+k) (by omega),J,af,cV,aj,ct (show a+o+(1+k)<=S.length by omega),ct (show a+o<=a+o+(1+k) by omega)];have z:a+o+(1+k)<=S.length:=by omega
    have v:S.drop (a+o+(1+k))=List.drop (1+k) (c::r):=by rw [<-f,iL]
    rw [JS n S (a+o+(1+k)) z B,v,nE,f];cases M:numS 69 (List.drop (1+k) (c::r)) with
    | inl j=>
     simp only [CQ,aj,mu];have:a+o+(1+k)+j=a+(o+(1+k)+j):=by omega
     rw [this]
    | inr p=>
     obtain ⟨x,j⟩:=p;have E:=M;rw [<-v] at E;have D:=xh z E;have y:S.drop (a+o+(1+k)+j)=List.drop (1+k+j) (c::r):=by rw [<-f,iL];congr 1;omega
     simp only [Bi,af];rw [zj n S (a+o+(1+k)+j) D B,y];cases K:numS 83 (List.drop (1+k+j) (c::r)) with
     | inl i=>
      simp only [CQ,aj,mu];have:a+o+(1+k)+j+i=a+(o+(1+k)+j+i):=by omega
      rw [this]
     | inr P=>
      obtain ⟨s,i⟩:=P;simp only [Bi,af,mu];have:a+o+(1+k)+j+i=a+(o+(1+k)+j+i):=by omega
      rw [this]
   ·have b:br aT 17 (c::r)=0:=by
     show br aT (16+1) (c::r)=0;simp only [br];rw [ab d]
    have u:¬(49<=c.toNat/\c.toNat<=57):=λq=>d ((bH c).2 (by omega));rw [b];simp only [re];rw [ab u];simp only [ob,w 0 (by omega),mu];rfl
theorem F6 (n:Nat) (S:aa) (a o:Nat) (g:Bool) (h:a+o<=S.length) (j:S.length<100000) (t:S.length<n):
  Gv n S ((a+o:Nat):Int) 4 g false=some (mu a (sI g o (S.drop (a+o)))):=by
 unfold Gv;have r:=yb n S (a+o) 4 g false h j t (by rintro ⟨q,_⟩;cases q);rw [ja Gg] at r;have m:=km isDX 4 (S.drop (a+o));have b:=o9 isDX 4 (S.drop (a+o));rw [cZ] at m;have hl':aw (ay n) n (S,((a+o:Nat):Int),((a+o:Nat):Int),(4:Int),false,false,[],0,0,g,false,[],0,0)=_:=r;rw [hl'];unfold sI;generalize u:br isDX 4 (S.drop (a+o))=k at m b ⊢;have w:IntKind.wrap .i64 (((a+o+k:Nat):Int) - ((a+o:Nat):Int))=(k:Int):=by rw [wrap_i64 _ (by omega) (by omega)];omega
 simp only [ob,w,ie,aj,af];by_cases f:k<4
 ·rw [ae f];have e:decide ((k:Int)<4)=true:=am (by omega);rw [e];have d:a+o+k=a+(o+k):=by omega
  simp only [aj,mu,d];cases decide ((k:Int)<1)<;>rfl
 ·rw [ab f];have c:k=4:=by omega
  subst c;have e:decide (((4:Nat):Int)<4)=false:=rfl;have d:decide (((4:Nat):Int)<1)=false:=rfl;have l:a+o+4<=S.length:=by omega
  simp only [e,d,af,ct l,ct (show a+o<=a+o+4 by omega)];rw [zj n S (a+o+4) l j,nE,iL];cases v:numS 83 (S.drop (a+o+4)) with
  | inl i=>
   simp only [CQ,aj,mu];have:a+o+4+i=a+(o+4+i):=by omega
   rw [this]
  | inr p=>
   obtain ⟨s,i⟩:=p;simp only [Bi,af,mu];have:a+o+4+i=a+(o+4+i):=by omega
   rw [this];rfl
theorem ji (c a:UInt8) (l:aa):ec c (a::l)=if a=c then 1 else 0:=by
 unfold ec;simp
theorem uR (c:UInt8):ec c []=0:=by unfold ec;simp
theorem MC (n:Nat) (S:aa) (a:Nat) (h:a<=S.length) (F:S.length<100000) (E:S.length<n):
  jq n S (a:Int)=some (mu a (m6 (S.drop a))):=by
 have A:=λo g q=>He n S a o g q F E;have y:=λo g q=>F6 n S a o g q F E;unfold Gv at A y;have H:IntKind.wrap .i64 ((a:Int)+1)=((a+1:Nat):Int):=by rw [wrap_i64 _ (by omega) (by omega)];omega
 have G:IntKind.wrap .i64 (((a+1:Nat):Int)+1)=((a+2:Nat):Int):=by rw [wrap_i64 _ (by omega) (by omega)];omega
 unfold jq m6;rw [H,G];have x:=y 0 false (by omega);simp only [cf] at x;cases t:S.drop a with
 | nil=>
  have j:¬a<S.length:=by
   intro q;rw [bT (bj q)] at t;cases t
  rw [eY,ar j,af,af,x,t];rfl
 | cons c r=>
  obtain ⟨B,I,i⟩:=lG t;have l:(((c.toNat:Nat):Int)==89)=(c==89):=lH c 89;have v:(((c.toNat:Nat):Int)==45)=(c==45):=lH c 45;rw [eY,am B,aj,dF I];simp only [ob];rw [l,v,ji];by_cases f:c=89
  ·have e:(c==89)=true:=bg.2 f;rw [e,aj,ae f,ae rfl,eY];have z:List.drop 1 (c::r)=r:=rfl;rw [z];have w:=A 1 false (by omega);cases m:r with
   | nil=>
    rw [m] at i;have j:¬a+1<S.length:=by
     intro q;rw [bT (bj q)] at i;cases i
    simp only [ob] at w;rw [ar j,af,w,i,uR];rfl
   | cons d J=>
    rw [m] at i;obtain ⟨s,D,C⟩:=lG i;have p:(((d.toNat:Nat):Int)==45)=(d==45):=lH d 45;rw [am s,aj,dF D];simp only [];rw [p,ji];by_cases b:d=45
    ·have k:(d==45)=true:=bg.2 b;have u:=A 2 true (by omega);simp only [ob] at u;rw [k,aj,ae b,u];rw [show a+2=a+1+1 from rfl,C];rfl
    ·have k:(d==45)=false:=aM.2 b;simp only [ob] at w;rw [k,af,ab b,w,i];rfl
  ·have e:(c==89)=false:=aM.2 f;rw [e,af,ab f,ab (by decide),ji];by_cases b:c=45
   ·have k:(c==45)=true:=bg.2 b;have u:=y 1 true (by omega);simp only [ob] at u;rw [k,ae b];simp only [aj];rw [u,i];rfl
   ·have k:(c==45)=false:=aM.2 b;simp only [ob] at x;rw [k,ab b];simp only [af];rw [x,t];rfl
def wint (c:Int):Bool:=c==24||c==28||c==30
def pM (g:Bool) (d:aa) (x:Int):Bool:=!hasX d&&!g&&decide (val d x.toNat=E16)
def yrB (g:Bool) (d:aa) (x s:Int) (m:aa):Bool:=!(decide (0<s)&&!(m==[]))&&!(wint (sea m)&&pM g d x)
theorem zt (n:Nat) (s:200<n) (g l:Bool) (dg:aa) (x q:Int) (m d:aa) (k0 k1 k2:Int) (D:m.length<=18) (t:dg.length<=100):
  eU n g l dg x q m d k0 k1 k2=some (if okY g l dg x q then yrB g dg x q m else false):=by
 unfold eU;rw [Eq n g l dg x q s t,oK n g l dg x q m d k0 k1 k2 D,qV,yB n g l dg x q s t];by_cases h:okY g l dg x q
 rotate_left
 ·rw [ab h,ab h];rfl
 rw [ae h,ae h];have body:(ob (some (sea m,decide (0<sea m))) λr=>(cond (!r.2) (some true) (ob (some (hasX dg)) λu=>(cond u (some true) (ob (some (if okY g l dg x q/\hasX dg=false then (if g then -((val dg x.toNat:Nat):Int) else ((val dg x.toNat:Nat):Int),(0:Int)) else (0,6))) λG=>(ob (gj n G.1 r.1) λv=>(some (v.2.2.2.2==0))))))))=some (!(wint (sea m)&&pM g dg x)):=by
  rcases mK m with F | ⟨j,p,rfl⟩
  ·rw [F];rfl
  ·have E:=lK p;rw [E];have H:decide (0<((21+j:Nat):Int))=true:=by simp;omega
   rw [H];cases o:hasX dg with
   | true=>
    have:pM g dg x=false:=by unfold pM;rw [o];rfl
    rw [this,xg];rfl
   | false=>
    rw [ae ⟨h,rfl⟩];obtain ⟨k,I,rfl,rfl,w⟩:=ru h o;have C:val dg k<=E16:=w.small;unfold E16 at C;have hc:dE (if g then -((val dg k:Nat):Int) else ((val dg k:Nat):Int)):=by
     unfold dE;cases g<;>simp<;>omega
    obtain ⟨a,b,c,e,A⟩:=Q3 n (by omega) hc p;simp only [ob,cV,af,bI];rw [A];simp only [aq];have y:wint ((21+j:Nat):Int)=decide (j=3\/j=7\/j=9):=by
     unfold wint;rw [qI];simp only [gv,bg,bZ];omega
    have B:pM g dg (k:Int)=decide ((if g then -((val dg k:Nat):Int) else ((val dg k:Nat):Int))=10000000000000000):=by
     unfold pM E16;rw [o,bI];cases g
     ·simp only [ie,nS,bq,aE,lR];omega
     ·simp;omega
    rw [y,B];by_cases f:(if g then -((val dg k:Nat):Int) else ((val dg k:Nat):Int))=10000000000000000<;>by_cases i:j=3\/j=7\/j=9
    ·rw [ae ⟨f,i⟩,am f,am i];rfl
    ·rw [ab (λz=>i z.2),ar i];rfl
    ·rw [ab (λz=>f z.1),ar f,xg];rfl
    ·rw [ab (λz=>f z.1),ar f,xg];rfl
 show cond (decide (q>0)) (cond (!(m==[])) (some false) _) _=_;unfold yrB;rw [show (decide (q>0))=decide (0<q) from rfl];cases decide (0<q) with
 | false=>exact body
 | true=>
  cases (m==[]) with
  | false=>rfl
  | true=>exact body
theorem L6 (n:Nat) (i:200<n) (g l:Bool) (dg:aa) (x q:Int) (m d:aa) (k0 k1 k2:Int) (f:dg.length<=100):
  ib n g l dg x q m d k0 k1 k2=some (if okY g l dg x q/\yrB g dg x q m=true then 1 else 0):=by
 unfold ib;rw [Aw n g l dg x q i f,mU n (by omega) g l dg x q m d k0 k1 k2,mn n g l dg x q (by omega) (by omega)];by_cases h:okY g l dg x q
 rotate_left
 ·rw [ab h,ab (show ¬(okY g l dg x q/\yrB g dg x q m=true) from λz=>h z.1)];rfl
 rw [ae h];have T:(ob (some (if hasX dg then (1:Int) else 0)) λr=>(cond (r==1) (some (1:Int)) (ob (ak n dg x) λv=>(cond (v.1==10000000000000000) (cond (!g) (some 0) (some 1)) (some 1)))))=some (if pM g dg x then 0 else 1):=by
  cases b:hasX dg with
  | true=>
   have:pM g dg x=false:=by unfold pM;rw [b];rfl
   rw [this];rfl
  | false=>
   obtain ⟨k,o,rfl,rfl,a⟩:=ru h b;have j:=a.small;have p:=a.wide;have c:=jh n dg k a.dig (by omega) (by omega) (by omega);rw [ae j] at c;show ob (ak n dg (k:Int)) _=_;rw [c];show cond (((dval 0 dg*10 ^ k:Nat):Int)==10000000000000000) _ _=_;unfold pM val;rw [b,bI];have e:(((dval 0 dg*10 ^ k:Nat):Int)==10000000000000000)=decide (dval 0 dg*10 ^ k=E16):=by
    generalize dval 0 dg*10 ^ k=v;unfold E16;rw [qI];simp only [bg,bZ];omega
   rw [e];cases decide (dval 0 dg*10 ^ k=E16)<;>cases g<;>rfl
 have body:(ob (some (sea m)) λr=>(cond (r != 24) (cond (r != 28) (cond (r != 30) (some (1:Int)) (ob (some (if hasX dg then (1:Int) else 0)) λr=>(cond (r==1) (some (1:Int)) (ob (ak n dg x) λv=>(cond (v.1==10000000000000000) (cond (!g) (some 0) (some 1)) (some 1)))))) (ob (some (if hasX dg then (1:Int) else 0)) λr=>(cond (r==1) (some (1:Int)) (ob (ak n dg x) λv=>(cond (v.1==10000000000000000) (cond (!g) (some 0) (some 1)) (some 1)))))) (ob (some (if hasX dg then (1:Int) else 0)) λr=>(cond (r==1) (some (1:Int)) (ob (ak n dg x) λv=>(cond (v.1==10000000000000000) (cond (!g) (some 0) (some 1)) (some 1)))))))=some (if (!(wint (sea m)&&pM g dg x))=true then 1 else 0):=by
  rw [T];show cond (sea m != 24) _ _=_;unfold wint;simp only [bne];cases (sea m==24)<;>cases (sea m==28)<;>cases (sea m==30)<;>cases pM g dg x<;>rfl
 unfold yrB;show cond (decide (q>0)) (cond (!(m==[])) (some 0) _) _=_;rw [show (decide (q>0))=decide (0<q) from rfl];simp only [h,ke];cases decide (0<q) with
 | false=>exact body
 | true=>
  cases (m==[]) with
  | false=>rfl
  | true=>exact body
def cg (m d:aa):Nat:=1+(if m==[] then 0 else 1)+(if d==[] then 0 else 1)
theorem yG (n:Nat) (e:100<n) (g l:Bool) (dg:aa) (x q:Int) (m d:aa) (k0 k1 k2:Int):bB n g l dg x q m d k0 k1 k2=some ((cg m d:Nat):Int):=by
 obtain ⟨n,rfl⟩:∃j,n=j+3:=⟨n - 3,by omega⟩;unfold bB cg;have s0:∀a:Int,bN (n+3) (a,m,d,0)=some (.inl (if m==[] then a else IntKind.wrap .i64 (a+1),m,d,1)):=λa=>by
  unfold bN;show cond (!(m==[])) _ _=_;cases (m==[])<;>rfl
 have b:∀a:Int,bN (n+3) (a,m,d,1)=some (.inl (if d==[] then a else IntKind.wrap .i64 (a+1),m,d,2)):=λa=>by
  unfold bN;show cond (!(d==[])) _ _=_;cases (d==[])<;>rfl
 have c:∀a:Int,bN (n+3) (a,m,d,2)=some (.inr a):=λa=>rfl;rw [aw,s0];show ob (aw _ (n+2) _) _=_;rw [aw,b];show ob (aw _ (n+1) _) _=_;rw [aw,c];cases (m==[])<;>cases (d==[])<;>rfl
theorem gH (n:Nat) (g l:Bool) (dg:aa) (x q:Int) (m d:aa) (k0 k1 k2:Int):au n g l dg x q m d k0 k1 k2=some ((cg m d:Nat):Int):=by
 unfold au cg;cases (m==[])<;>cases (d==[])<;>rfl
def allM (a b c:Int) (k:Nat):Int:=if 3<a\/3<b\/3<c\/(k<2/\b≠0)\/(k<3/\c≠0) then 9 else 0
theorem EL (n:Nat) (t:3<n) (a b c:Int) (k:Nat) (u:1<=k/\k<=3) (w:0<=a) (v:0<=b) (hc:0<=c):
  df n [a,b,c] (k:Int)=some (allM a b c k)/\bF n [a,b,c] (k:Int)=some (allM a b c k):=by
 obtain ⟨j,rfl⟩:∃j,n=j+4:=⟨n - 4,by omega⟩;have e:IntKind.wrap .i64 1=1:=rfl;have l:IntKind.wrap .i64 2=2:=rfl;have f:IntKind.wrap .i64 3=3:=rfl;have m:ix 3 0=some 0:=rfl;have g:ix 3 1=some 1:=rfl;have i:ix 3 2=some 2:=rfl;have hk':k=1\/k=2\/k=3:=by omega
 unfold allM;by_cases h:a>3
 ·rcases hk' with rfl | rfl | rfl<;>constructor<;>simp [bF,df,aw,cS,fX,gg,ob,e,l,f,m,g,i,h]
 by_cases o:b>3
 ·rcases hk' with rfl | rfl | rfl<;>constructor<;>simp [bF,df,aw,cS,fX,gg,ob,e,l,f,m,g,i,h,o]
 by_cases d:k=1/\b≠0
 ·obtain ⟨rfl,d⟩:=d;have q:b>0:=by omega
  have s:(b != 0)=true:=by simp [d]
  constructor<;>simp [bF,df,aw,cS,fX,gg,ob,e,l,f,m,g,i,h,o,q,d,s]
 by_cases r:c>3
 ·rcases hk' with rfl | rfl | rfl<;>(try (simp at d;subst d))<;>constructor<;>simp [bF,df,aw,cS,fX,gg,ob,e,l,f,m,g,i,h,o,r]
 by_cases p:k<3/\c≠0
 ·have q:c>0:=by omega
  have s:(c != 0)=true:=by simp [p.2]
  rcases hk' with rfl | rfl | rfl<;>(try (simp at d;subst d))<;>simp at p<;>constructor<;>simp [bF,df,aw,cS,fX,gg,ob,e,l,f,m,g,i,h,o,r,q,p,s]
 rcases hk' with rfl | rfl | rfl<;>(try (simp at d;subst d))<;>(try (simp at p;subst p))<;>constructor<;>simp [bF,df,aw,cS,fX,gg,ob,e,l,f,m,g,i,h,o,r]
theorem mz (m d:aa):1<=cg m d/\cg m d<=3:=by
 unfold cg;cases (m==[])<;>cases (d==[])<;>simp
def yrD (g l:Bool) (dg:aa) (x q:Int) (m:aa):Bool:=if okY g l dg x q then yrB g dg x q m else false
def chkD (g l:Bool) (dg:aa) (x q:Int) (m d:aa) (k0 k1 k2:Int):Int:=
 cond (!(yrD g l dg x q m)) 6 (cond (!(m==[])&&(!(decide (0<sea m))&&!(dN m 12))) 7
  (cond (!(d==[])&&((m==[])||(decide (0<sea m)||!(dN d 31)))) 8 (allM k0 k1 k2 (cg m d))))
theorem Nb (m:aa):0<=sea m:=by
 rcases mK m with h | ⟨j,a,rfl⟩
 ·omega
 ·rw [lK a];omega
theorem PC (m:aa):(sea m==0)=!(decide (0<sea m)):=by
 have:=Nb m;by_cases h:sea m=0
 ·rw [h];rfl
 ·have a:0<sea m:=by omega
  rw [aM.2 h,am a];rfl
theorem Fe (n:Nat) (k:200<n) (g l:Bool) (dg:aa) (x q:Int) (m d:aa) (k0 k1 k2:Int) (a:m.length<=18) (c:dg.length<=100) (b:0<=k0) (o:0<=k1) (f:0<=k2):
  gW n g l dg x q m d k0 k1 k2=some (chkD g l dg x q m d k0 k1 k2):=by
 have h:eU n g l dg x q m d k0 k1 k2=some (yrD g l dg x q m):=zt n k g l dg x q m d k0 k1 k2 a c;have a1:cE n m 12=some (dN m 12):=Aj n (by omega) m 12 (by omega);have a2:cE n d 31=some (dN d 31):=Aj n (by omega) d 31 (by omega);have p:=(EL n (by omega) k0 k1 k2 (cg m d) (mz m d) b o f).1;unfold gW chkD;rw [oK n g l dg x q m d k0 k1 k2 a,h,a1,a2,yG n (by omega)];simp only [ob];rw [p];generalize yrD g l dg x q m=b1;generalize (m==[])=b2;generalize decide (0<sea m)=i;generalize dN m 12=r;generalize (d==[])=e;generalize dN d 31=j;cases b1<;>cases b2<;>cases i<;>cases r<;>cases e<;>cases j<;>rfl
theorem vn (n:Nat) (k:200<n) (g l:Bool) (dg:aa) (x q:Int) (m d:aa) (k0 k1 k2:Int) (b:dg.length<=100) (a:0<=k0) (o:0<=k1) (e:0<=k2):
  gz n g l dg x q m d k0 k1 k2=some (chkD g l dg x q m d k0 k1 k2):=by
 have f:ib n g l dg x q m d k0 k1 k2=some (if yrD g l dg x q m then 1 else 0):=by
  rw [L6 n k g l dg x q m d k0 k1 k2 b];unfold yrD;by_cases h:okY g l dg x q
  ·simp only [h,ke,aJ]
  ·simp only [h,vw,aE];rfl
 have a1:dh n m 12=some (if dN m 12 then 1 else 0):=C7 n (by omega) m 12 (by omega);have a2:dh n d 31=some (if dN d 31 then 1 else 0):=C7 n (by omega) d 31 (by omega);have p:=(EL n (by omega) k0 k1 k2 (cg m d) (mz m d) a o e).2;unfold gz chkD;rw [mU n (by omega) g l dg x q m d k0 k1 k2,f,a1,a2,gH n];simp only [ob];rw [p,PC];show cond ((if yrD g l dg x q m then (1:Int) else 0)==0) _ (cond _ (cond _ (cond _ _ (cond _ (cond _ _ (cond (decide (0<sea m)) _ _)) _)) (cond _ (cond _ _ (cond (decide (0<sea m)) _ _)) _)) (cond _ (cond _ _ (cond (decide (0<sea m)) _ _)) _))=_;generalize yrD g l dg x q m=b1;generalize (m==[])=b2;generalize decide (0<sea m)=i;generalize dN m 12=r;generalize (d==[])=c;generalize dN d 31=j;cases b1<;>cases b2<;>cases i<;>cases r<;>cases c<;>cases j<;>rfl
theorem H8 {g l:Bool} {dg:aa} {x q:Int} {m d:aa} {k0 k1 k2:Int} (h:chkD g l dg x q m d k0 k1 k2=0):yrD g l dg x q m=true/\(m=[]\/0<sea m\/dN m 12=true)/\(d=[]\/(m≠[]/\sea m=0/\dN d 31=true))/\allM k0 k1 k2 (cg m d)=0:=by
 have f:=Nb m;unfold chkD at h;cases b1:yrD g l dg x q m with
 | false=>rw [b1] at h;exact absurd h (by simp)
 | true=>
  rw [b1] at h;simp only [cV,af] at h;cases b2:(!(m==[])&&(!(decide (0<sea m))&&!(dN m 12))) with
  | true=>rw [b2] at h;exact absurd h (by simp)
  | false=>
   rw [b2] at h;simp only [af] at h;cases c:(!(d==[])&&((m==[])||(decide (0<sea m)||!(dN d 31)))) with
   | true=>rw [c] at h;exact absurd h (by simp)
   | false=>
    rw [c] at h;simp only [af] at h;refine ⟨rfl,?_,?_,h⟩
    ·by_cases b:m=[]
     ·exact .inl b
     ·by_cases a:0<sea m
      ·exact .inr (.inl a)
      ·simp [b,a] at b2;exact .inr (.inr b2)
    ·by_cases b:d=[]
     ·exact .inl b
     ·by_cases a:m=[]
      ·simp [b,a] at c
      ·by_cases e:0<sea m
       ·simp [b,a,e] at c
       ·simp [b,a,e] at c;exact .inr ⟨a,by omega,c⟩
theorem pq {s:aa} {g:Nat} (m:g<=31) (h:dN s g=true):s.length=2/\∀c∈s,isDX c=true:=by
 unfold dN at h;obtain ⟨i,f,hi⟩:=pT.1 h;have e:i<g:=jy.1 f;have dig:∀k:Nat,k<10->isDX (UInt8.ofNat (48+k))=true:=by decide
 have d:isDX 88=true:=by decide
 match s,hi with
 | [],hi=>simp [agr] at hi
 | [_],hi=>simp [agr] at hi
 | [a,b],hi=>
  refine ⟨rfl,?_⟩;simp only [agr,aA,gv,bg] at hi;obtain ⟨l,j⟩:=hi;intro c hc;simp only [cq,nL,n8] at hc;rcases hc with rfl | rfl
  ·rcases l with rfl | rfl
   ·exact d
   ·exact dig _ (by omega)
  ·rcases j with rfl | rfl
   ·exact d
   ·exact dig _ (by omega)
 | _::_::_::_,hi=>simp [agr] at hi
theorem Hu {m:aa} (h:0<sea m):m.length=2/\∀c∈m,isDX c=true:=by
 rcases mK m with b | ⟨j,a,rfl⟩
 ·omega
 ·refine ⟨rfl,?_⟩;have:((List.range 21).all λj=>(two (21+j)).all isDX)=true:=by decide +kernel
  have:=(bS.1 this) j (by simpa using a);exact bS.1 this
def mt (k:Nat):aa:=if k=1 then [63] else if k=2 then [126] else if k=3 then [37] else []
def mkOf (c:UInt8):Nat:=if c=63 then 1 else if c=126 then 2 else if c=37 then 3 else 0
def Ij (k a b c:Nat):Bool:=(decide (k<2)||b==a)&&(decide (k<3)||c==a)
def plA (k a b c:Nat):Nat×Nat×Nat:=if Ij k a b c then (0,0,0) else (a,b,c)
def plB (k a b c:Nat):Nat×Nat×Nat:=if Ij k a b c then (if k=1 then (a,0,0) else if k=2 then (0,a,0) else (0,0,a)) else (0,0,0)
def l3 (p:Nat×Nat×Nat):List Int:=[(p.1:Int),(p.2.1:Int),(p.2.2:Int)]
def spM (A B:Nat×Nat×Nat):Nat×Nat×Nat:=(A.1 ||| B.1 ||| B.2.1 ||| B.2.2,A.2.1 ||| B.2.1 ||| B.2.2,A.2.2 ||| B.2.2)
theorem FW (n k:Nat) (h:k<4):F5 n (k:Int)=some (mt k,0)/\bY n (k:Int)=some (mt k):=by
 have:k=0\/k=1\/k=2\/k=3:=by omega
 rcases this with rfl | rfl | rfl | rfl<;>exact ⟨rfl,rfl⟩
noncomputable def SC (m j:Nat):Bool:=
 (nj (m+300) (j:Int)==some (((mkOf (UInt8.ofNat j):Nat):Int),decide (0<mkOf (UInt8.ofNat j))))&&(dc (m+300) (j:Int)==some ((mkOf (UInt8.ofNat j):Nat):Int))
theorem MU (m:Nat):(List.range 256).all (SC m)=true:=by kernel_rfl
theorem CE (m:Nat) (c:UInt8):nj (m+300) ((c.toNat:Nat):Int)=some (((mkOf c:Nat):Int),decide (0<mkOf c))/\dc (m+300) ((c.toNat:Nat):Int)=some ((mkOf c:Nat):Int):=by
 have h:=(bS.1 (MU m)) c.toNat (jy.2 c.toNat_lt);unfold SC at h;rw [show UInt8.ofNat c.toNat=c by simp] at h;simp only [aA,bg] at h;exact h
noncomputable def Hi (m k a b c:Nat):Bool:=
 (ug (m+300) [(a:Int),(b:Int),(c:Int)] (k:Int)==some (l3 (plA k a b c),l3 (plB k a b c),0))&&(iS (m+300) [(a:Int),(b:Int),(c:Int)] (k:Int)==some (l3 (plA k a b c),l3 (plB k a b c)))
theorem QN (m:Nat):((List.range 4).all λa=>Hi m 1 a 0 0)=true:=by kernel_rfl
theorem SE (m:Nat):((List.range 4).all λa=>(List.range 4).all λb=>Hi m 2 a b 0)=true:=by kernel_rfl
theorem Qg (m:Nat):((List.range 4).all λa=>(List.range 4).all λb=>(List.range 4).all λc=>Hi m 3 a b c)=true:=by kernel_rfl
theorem r4 {p:Nat->Bool} (h:(List.range 4).all p=true) {a:Nat} (b:a<4):p a=true:=(bS.1 h) a (jy.2 b)
theorem TS (m k a b c:Nat) (i:1<=k/\k<=3) (d:a<4) (f:b<4) (hc:c<4) (g:k<2->b=0) (e:k<3->c=0):
  ug (m+300) [(a:Int),(b:Int),(c:Int)] (k:Int)=some (l3 (plA k a b c),l3 (plB k a b c),0)/\iS (m+300) [(a:Int),(b:Int),(c:Int)] (k:Int)=some (l3 (plA k a b c),l3 (plB k a b c)):=by
 have h:Hi m k a b c=true:=by
  have:k=1\/k=2\/k=3:=by omega
  rcases this with rfl | rfl | rfl
  ·rw [g (by omega),e (by omega)];exact r4 (QN m) d
  ·rw [e (by omega)];exact r4 (r4 (SE m) d) f
  ·exact r4 (r4 (r4 (Qg m) d) f) hc
 unfold Hi at h;simp only [aA,bg] at h;exact h
theorem SH {k a b c:Nat} (d:a<4) (e:b<4) (hc:c<4):(plA k a b c).1<4/\(plA k a b c).2.1<4/\(plA k a b c).2.2<4/\(plB k a b c).1<4/\(plB k a b c).2.1<4/\(plB k a b c).2.2<4:=by
 unfold plA plB;split
 ·split
  ·simp [d]
  ·split<;>simp [d]
 ·simp [d,e,hc]
def inM (k:Nat) (A:Nat×Nat×Nat):Prop:=A.1<4/\A.2.1<4/\A.2.2<4/\(k<2->A.2.1=0)/\(k<3->A.2.2=0)
theorem nu {k:Nat} {A:Nat×Nat×Nat} (h:inM k A):allM (A.1:Int) (A.2.1:Int) (A.2.2:Int) k=0:=by
 obtain ⟨a,e,c,d,b⟩:=h;unfold allM;rw [ab (by omega)]
theorem or4 {a b:Nat} (d:a<4) (c:b<4):bits .or .u8 (a:Int) (b:Int)=((a ||| b:Nat):Int)/\a ||| b<4:=by
 have:((List.range 4).all λa=>(List.range 4).all λb=>bits .or .u8 (a:Int) (b:Int)==((a ||| b:Nat):Int)&&decide (a ||| b<4))=true:=by decide +kernel
 have:=r4 (r4 this d) c;simpa using this
theorem vj (n:Nat) (C:9<n) (k:Nat) (A B:Nat×Nat×Nat) (s:1<=k/\k<=3) (r:inM k A) (p:inM k B):dM n (l3 A) (l3 B) (k:Int)=some (l3 (spM A B),0):=by
 obtain ⟨n,rfl⟩:∃j,n=j+5:=⟨n - 5,by omega⟩;have v:=(EL (n+5) (by omega) (A.1:Int) (A.2.1:Int) (A.2.2:Int) k s (by omega) (by omega) (by omega)).1;have u:=(EL (n+5) (by omega) (B.1:Int) (B.2.1:Int) (B.2.2:Int) k s (by omega) (by omega) (by omega)).1;rw [nu r] at v;rw [nu p] at u;have l:∀x:Nat,x<4->bits .or .u8 0 (x:Int)=(x:Int):=λx f=>by
  have:=(or4 (show 0<4 by omega) f).1;simpa using this
 have b:∀x y:Nat,x<4->y<4->bits .or .u8 (x:Int) (y:Int)=((x ||| y:Nat):Int):=λx y f h=>(or4 f h).1;have e:∀x y:Nat,x<4->y<4->x ||| y<4:=λx y f h=>(or4 f h).2;unfold dM;show ob (df (n+5) [(A.1:Int),(A.2.1:Int),(A.2.2:Int)] (k:Int)) _=_;rw [v];show ob (df (n+5) [(B.1:Int),(B.2.1:Int),(B.2.2:Int)] (k:Int)) _=_;rw [u];obtain ⟨a0,a1,a2⟩:=A;obtain ⟨b0,b1,b2⟩:=B;obtain ⟨g0,i,t,o,g⟩:=r;obtain ⟨d,a,c,q,m⟩:=p;simp only at g0 i t o g d a c q m;have hk':k=1\/k=2\/k=3:=by omega
 rcases hk' with rfl | rfl | rfl
 ·obtain rfl:=o (by omega);obtain rfl:=g (by omega);obtain rfl:=q (by omega);obtain rfl:=m (by omega);show some (([bits .or .u8 (a0:Int) (bits .or .u8 0 (b0:Int)),0,0]:List Int),(0:Int))=_;rw [l b0 d,b _ _ g0 d];simp [l3,spM]
 ·obtain rfl:=g (by omega);obtain rfl:=m (by omega);show some (([bits .or .u8 (a0:Int) (bits .or .u8 (bits .or .u8 0 (b1:Int)) (b0:Int)),bits .or .u8 (a1:Int) (bits .or .u8 0 (b1:Int)),0]:List Int),(0:Int))=_;rw [l b1 a,b _ _ a d,b _ _ g0 (e _ _ a d),b _ _ i a];simp [l3,spM,Nat.or_assoc,xu b1 b0]
 ·show some (([bits .or .u8 (a0:Int) (bits .or .u8 (bits .or .u8 (bits .or .u8 0 (b2:Int)) (b1:Int)) (b0:Int)),bits .or .u8 (a1:Int) (bits .or .u8 (bits .or .u8 0 (b2:Int)) (b1:Int)),bits .or .u8 (a2:Int) (bits .or .u8 0 (b2:Int))]:List Int),(0:Int))=_;rw [l b2 c,b _ _ c a,b _ _ (e _ _ c a) d,b _ _ g0 (e _ _ (e _ _ c a) d),b _ _ i (e _ _ c a),b _ _ t c];have z:a0 ||| (b2 ||| b1 ||| b0)=a0 ||| b0 ||| b1 ||| b2:=by rw [xu (b2 ||| b1) b0,xu b2 b1];simp only [Nat.or_assoc]
  have w:a1 ||| (b2 ||| b1)=a1 ||| b1 ||| b2:=by rw [xu b2 b1];simp only [Nat.or_assoc]
  rw [z,w];rfl
abbrev cI (x:Nat):Int:=(x:Int)
def bt (b a:Nat):Nat:=if b=1 then a%2 else a / 2%2
theorem NJ (n:Nat) {a b:Nat} (d:a<4) (c:b=1\/b=2):gF n (a:Int) (b:Int)=some ((bt b a:Nat):Int):=by
 have h:a=0\/a=1\/a=2\/a=3:=by omega
 rcases h with rfl | rfl | rfl | rfl<;>rcases c with rfl | rfl<;>rfl
theorem Pl (b a:Nat):bt b a<=1:=by unfold bt;split<;>omega
def bts (b:Nat):List Nat->Nat
 | []=>0
 | x::l=>bt b x+bts b l
theorem TX (n k b i:Nat) (q:b=1\/b=2) (u:k<=3) (A X Y:List Int) (c:List Nat) (v:c.length=3) (m:∀x∈c,x<4):∀(r j a:Nat),j+r=k->a<=j+1->∀N,r<N->
  aw (bP n) N ((k:Int),(b:Int),(i:Int),(a:Int),(j:Int),A,c.map cI,X,Y)=some ((k:Int),(b:Int),(i:Int),((a+bts b ((c.take k).drop j):Nat):Int),A,c.map cI,X,Y):=by
 intro r
 induction r with
 | zero=>
  intro j a o d N t;obtain ⟨N,rfl⟩:∃k,N=k+1:=⟨N - 1,by omega⟩;have s:bP n ((k:Int),(b:Int),(i:Int),(a:Int),(j:Int),A,c.map cI,X,Y)=some (.inr ((k:Int),(b:Int),(i:Int),(a:Int),A,c.map cI,X,Y)):=by
   unfold bP;rw [bG,ab (show ¬((j:Int)<(k:Int)) by omega)]
  have e:(c.take k).drop j=[]:=iD (by rw [cN];omega);rw [aw,s,e];rfl
 | succ r ih=>
  intro j a o d N t;obtain ⟨N,rfl⟩:∃k,N=k+1:=⟨N - 1,by omega⟩;have h:j<c.length:=by omega
  obtain ⟨x,l⟩:∃x,c[j]?=some x:=⟨c[j],bj h⟩;have f:(c.map cI)[j]?=some (x:Int):=by rw [nV,l];rfl
  have g:=m x (fD l);have w:IntKind.wrap .i64 ((a:Int)+((bt b x:Nat):Int))=((a+bt b x:Nat):Int):=by have:=Pl b x;rw [wrap_i64 _ (by omega) (by omega)];omega
  have p:IntKind.wrap .i64 ((j:Int)+1)=((j+1:Nat):Int):=by rw [wrap_i64 _ (by omega) (by omega)];omega
  have s:bP n ((k:Int),(b:Int),(i:Int),(a:Int),(j:Int),A,c.map cI,X,Y)=some (.inl ((k:Int),(b:Int),(i:Int),((a+bt b x:Nat):Int),((j+1:Nat):Int),A,c.map cI,X,Y)):=by
   unfold bP;rw [bG,ae (show (j:Int)<(k:Int) by omega)];show ob (ix 3 (j:Int)) _=_;rw [fg (show j<3 by omega)];show ob ((c.map cI)[j]?) _=_;rw [f];show ob (gF n (x:Int) (b:Int)) _=_;rw [NJ n g q];show some (Sum.inl ((k:Int),(b:Int),(i:Int),IntKind.wrap .i64 ((a:Int)+((bt b x:Nat):Int)),IntKind.wrap .i64 ((j:Int)+1),_))=_;rw [w,p]
  have e:(c.take k).drop j=x::(c.take k).drop (j+1):=bT (by rw [oV (by omega)];exact l);rw [aw,s];have:=Pl b x;show aw _ N _=_;rw [ih (j+1) (a+bt b x) (by omega) (by omega) N (by omega),e];simp only [bts,gh]
def hit (k b i:Nat) (c a:List Nat):Bool:=decide (0<bt b (c.getD i 0)+bts b ((a.take k).drop i))
theorem TU (n k b i:Nat) (z:9<n) (l:b=1\/b=2) (u:k<=3) (hi:i<k) (X:List Int) (a c:List Nat) (w:a.length=3) (v:c.length=3) (q:∀x∈a,x<4) (m:∀x∈c,x<4) (out:List Int) (o:Int) (t:out[i]?=some o):
  bn n ((k:Int),(b:Int),(i:Int),a.map cI,c.map cI,X,out)=some (.inl ((k:Int),(b:Int),((i+1:Nat):Int),a.map cI,c.map cI,X,cond (hit k b i a c) (out.set i (IntKind.wrap .u8 (o+(b:Int)))) out)):=by
 obtain ⟨x,g⟩:∃x,a[i]?=some x:=⟨a[i],bj (by omega)⟩;have d:(a.map cI)[i]?=some (x:Int):=by rw [nV,g];rfl
 have e:=q x (fD g);have s:=Pl b x;have r:IntKind.wrap .i64 ((i:Int)+1)=((i+1:Nat):Int):=by rw [wrap_i64 _ (by omega) (by omega)];omega
 have h:=TX n k b i l u (a.map cI) X out c v m (k - i) i (bt b x) (by omega) (by omega) n (by omega);unfold bn;rw [bG,ae (show (i:Int)<(k:Int) by omega)];show ob (ix 3 (i:Int)) _=_;rw [fg (show i<3 by omega)];show ob ((a.map cI)[i]?) _=_;rw [d];show ob (gF n (x:Int) (b:Int)) _=_;rw [NJ n e l];show ob (aw (bP n) n ((k:Int),(b:Int),(i:Int),((bt b x:Nat):Int),(i:Int),a.map cI,c.map cI,X,out)) _=_;rw [h];have p:hit k b i a c=decide (((bt b x+bts b ((c.take k).drop i):Nat):Int)>0):=by
  unfold hit;rw [A7,g];rw [lR];simp only [vv];omega
 rw [p];show cond (decide (((bt b x+bts b ((c.take k).drop i):Nat):Int)>0)) (ob (ix 3 (i:Int)) λj=>ob (out[j]?) λy=>ob (ix 3 (i:Int)) λj2=>cond (Nat.blt j2 3) (some (Sum.inl ((k:Int),(b:Int),IntKind.wrap .i64 ((i:Int)+1),a.map cI,c.map cI,X,out.set j2 (IntKind.wrap .u8 (y+(b:Int)))))) none) (some (Sum.inl ((k:Int),(b:Int),IntKind.wrap .i64 ((i:Int)+1),a.map cI,c.map cI,X,out)))=_;rw [fg (show i<3 by omega),r];have f:Nat.blt i 3=true:=dn (by omega);simp only [ob,t,f,aj];cases decide (((bt b x+bts b ((c.take k).drop i):Nat):Int)>0)<;>rfl
def addB (k b:Nat) (c a:List Nat) (o:List Int):List Int:=[cond (decide (0<k)&&hit k b 0 c a) (IntKind.wrap .u8 (o.getD 0 0+(b:Int))) (o.getD 0 0),cond (decide (1<k)&&hit k b 1 c a) (IntKind.wrap .u8 (o.getD 1 0+(b:Int))) (o.getD 1 0),cond (decide (2<k)&&hit k b 2 c a) (IntKind.wrap .u8 (o.getD 2 0+(b:Int))) (o.getD 2 0)]
theorem MA (n k b:Nat) (q:9<n) (s:b=1\/b=2) (r:1<=k/\k<=3) (X:List Int) (c a:List Nat) (p:c.length=3) (t:a.length=3) (m:∀x∈c,x<4) (l:∀x∈a,x<4) (g o1 h:Int):
  aw (bn n) n ((k:Int),(b:Int),0,c.map cI,a.map cI,X,[g,o1,h])=some ((k:Int),(b:Int),c.map cI,a.map cI,X,addB k b c a [g,o1,h]):=by
 obtain ⟨n,rfl⟩:∃j,n=j+5:=⟨n - 5,by omega⟩;have d:∀(N:Nat) (out:List Int),aw (bn (n+5)) (N+1) ((k:Int),(b:Int),((k:Nat):Int),c.map cI,a.map cI,X,out)=some ((k:Int),(b:Int),c.map cI,a.map cI,X,out):=λN out=>by
  rw [aw];have:bn (n+5) ((k:Int),(b:Int),((k:Nat):Int),c.map cI,a.map cI,X,out)=some (.inr ((k:Int),(b:Int),c.map cI,a.map cI,X,out)):=by
   unfold bn;rw [bG,ab (show ¬((k:Int)<(k:Int)) by omega)]
  rw [this]
 have f:=λ(i:Nat) (hi:i<k) (out:List Int) (o:Int) (ho:out[i]?=some o)=>TU (n+5) k b i q s r.2 hi X c a p t m l out o ho;have hk':k=1\/k=2\/k=3:=by omega
 have e:=f 0 (by omega) [g,o1,h] g rfl;rcases hk' with rfl | rfl | rfl
 ·rw [aw];rw [show ((0:Nat):Int)=0 from rfl] at e;rw [e];show aw _ (n+3+1) (((1:Nat):Int),(b:Int),((1:Nat):Int),_)=_;rw [d];unfold addB;cases hit 1 b 0 c a<;>rfl
 ·rw [aw];rw [show ((0:Nat):Int)=0 from rfl] at e;rw [e];show aw _ (n+4) (((2:Nat):Int),(b:Int),((1:Nat):Int),_)=_;rw [aw,f 1 (by omega) _ o1 (by cases hit 2 b 0 c a<;>rfl)];show aw _ (n+2+1) (((2:Nat):Int),(b:Int),((2:Nat):Int),_)=_;rw [d];unfold addB;cases hit 2 b 0 c a<;>cases hit 2 b 1 c a<;>rfl
 ·rw [aw];rw [show ((0:Nat):Int)=0 from rfl] at e;rw [e];show aw _ (n+4) (((3:Nat):Int),(b:Int),((1:Nat):Int),_)=_;rw [aw,f 1 (by omega) _ o1 (by cases hit 3 b 0 c a<;>rfl)];show aw _ (n+3) (((3:Nat):Int),(b:Int),((2:Nat):Int),_)=_;rw [aw,f 2 (by omega) _ h (by cases hit 3 b 0 c a<;>cases hit 3 b 1 c a<;>rfl)];show aw _ (n+1+1) (((3:Nat):Int),(b:Int),((3:Nat):Int),_)=_;rw [d];unfold addB;cases hit 3 b 0 c a<;>cases hit 3 b 1 c a<;>cases hit 3 b 2 c a<;>rfl
def lN (p:Nat×Nat×Nat):List Nat:=[p.1,p.2.1,p.2.2]
theorem oS {x y:Nat} (e:x<4) (f:y<4) (b:Nat) (d:b=1\/b=2):decide (0<bt b (x ||| y))=decide (0<bt b x+bt b y):=by
 have:((List.range 4).all λa=>(List.range 4).all λc=>(decide (0<bt 1 (a ||| c))==decide (0<bt 1 a+bt 1 c))&&(decide (0<bt 2 (a ||| c))==decide (0<bt 2 a+bt 2 c)))=true:=by decide +kernel
 have:=r4 (r4 this e) f;simp only [aA,bg] at this;rcases d with rfl | rfl
 ·exact this.1
 ·exact this.2
theorem pi {x:Nat} (a:x<4):cond (decide (0<bt 2 x)) (IntKind.wrap .u8 (cond (decide (0<bt 1 x)) (IntKind.wrap .u8 (0+((1:Nat):Int))) 0+((2:Nat):Int))) (cond (decide (0<bt 1 x)) (IntKind.wrap .u8 (0+((1:Nat):Int))) 0)=(x:Int):=by
 have h:x=0\/x=1\/x=2\/x=3:=by omega
 rcases h with rfl | rfl | rfl | rfl<;>decide
theorem se (n:Nat) (J:9<n) (k:Nat) (A B:Nat×Nat×Nat) (N:1<=k/\k<=3) (K:inM k A) (G:inM k B):dB n (l3 A) (l3 B) (k:Int)=some (l3 (spM A B)):=by
 obtain ⟨a0,a1,a2⟩:=A;obtain ⟨b0,b1,b2⟩:=B;obtain ⟨g0,o,v,z,t⟩:=K;obtain ⟨f,d,m,D,w⟩:=G;simp only at g0 o v z t f d m D w;have c:∀x y:Nat,x<4->y<4->x ||| y<4:=λx y g u=>(or4 g u).2;have M:∀x∈lN (a0,a1,a2),x<4:=by
  intro x g;simp only [lN,cq,nL,n8] at g;rcases g with rfl | rfl | rfl<;>assumption
 have I:∀x∈lN (b0,b1,b2),x<4:=by
  intro x g;simp only [lN,cq,nL,n8] at g;rcases g with rfl | rfl | rfl<;>assumption
 have run:=λ(b:Nat) (a:b=1\/b=2) (o0 o1 o2:Int)=>MA n k b J a N [0,0,0] (lN (a0,a1,a2)) (lN (b0,b1,b2)) rfl rfl M I o0 o1 o2;have C:=run 1 (.inl rfl) 0 0 0;obtain ⟨h,i,l,F⟩:∃h i l,addB k 1 (lN (a0,a1,a2)) (lN (b0,b1,b2)) [0,0,0]=[h,i,l]:=⟨_,_,_,rfl⟩;have Q:=run 2 (.inr rfl) h i l;rw [F] at C;obtain ⟨n,rfl⟩:∃j,n=j+5:=⟨n - 5,by omega⟩;have L:ci (n+5) ((k:Int),1,l3 (a0,a1,a2),l3 (b0,b1,b2),[0,0,0],[0,0,0])=some (.inl ((k:Int),2,l3 (a0,a1,a2),l3 (b0,b1,b2),[0,0,0],[h,i,l])):=by
  unfold ci;show cond (decide ((1:Int)<=2)) (ob (aw (bn (n+5)) (n+5) ((k:Int),((1:Nat):Int),0,(lN (a0,a1,a2)).map cI,(lN (b0,b1,b2)).map cI,[0,0,0],[0,0,0])) _) _=_;rw [C];rfl
 have R:ci (n+5) ((k:Int),2,l3 (a0,a1,a2),l3 (b0,b1,b2),[0,0,0],[h,i,l])=some (.inl ((k:Int),3,l3 (a0,a1,a2),l3 (b0,b1,b2),[0,0,0],addB k 2 (lN (a0,a1,a2)) (lN (b0,b1,b2)) [h,i,l])):=by
  unfold ci;show cond (decide ((2:Int)<=2)) (ob (aw (bn (n+5)) (n+5) ((k:Int),((2:Nat):Int),0,(lN (a0,a1,a2)).map cI,(lN (b0,b1,b2)).map cI,[0,0,0],[h,i,l])) _) _=_;rw [Q];rfl
 have P:∀out:List Int,ci (n+5) ((k:Int),3,l3 (a0,a1,a2),l3 (b0,b1,b2),[0,0,0],out)=some (.inr ([0,0,0],out)):=λout=>rfl;unfold dB;rw [aw,L];show ob (aw _ (n+4) _) _=_;rw [aw,R];show ob (aw _ (n+3) _) _=_;rw [aw,P];show some (addB k 2 (lN (a0,a1,a2)) (lN (b0,b1,b2)) [h,i,l])=_;rw [<-F];have hk':k=1\/k=2\/k=3:=by omega
 have H:=λ(x y:Nat) (g:x<4) (u:y<4) (b:Nat) (a:b=1\/b=2)=>oS g u b a;rcases hk' with rfl | rfl | rfl
 ·obtain rfl:=z (by omega);obtain rfl:=t (by omega);obtain rfl:=D (by omega);obtain rfl:=w (by omega);have e:∀b,b=1\/b=2->hit 1 b 0 (lN (a0,0,0)) (lN (b0,0,0))=decide (0<bt b (a0 ||| b0)):=λb a=>by rw [oS g0 f b a];rfl
  show some [cond (hit 1 2 0 (lN (a0,0,0)) (lN (b0,0,0))) (IntKind.wrap .u8 (cond (hit 1 1 0 (lN (a0,0,0)) (lN (b0,0,0))) (IntKind.wrap .u8 (0+((1:Nat):Int))) 0+((2:Nat):Int))) (cond (hit 1 1 0 (lN (a0,0,0)) (lN (b0,0,0))) (IntKind.wrap .u8 (0+((1:Nat):Int))) 0),0,0]=_;rw [e 1 (.inl rfl),e 2 (.inr rfl),pi (c _ _ g0 f)];simp [l3,spM]
 ·obtain rfl:=t (by omega);obtain rfl:=w (by omega);have r:∀b,b=1\/b=2->hit 2 b 1 (lN (a0,a1,0)) (lN (b0,b1,0))=decide (0<bt b (a1 ||| b1)):=λb a=>by rw [oS o d b a];rfl
  have p:∀b,b=1\/b=2->hit 2 b 0 (lN (a0,a1,0)) (lN (b0,b1,0))=decide (0<bt b (a0 ||| b0 ||| b1)):=λb a=>by
   have s:=oS (c _ _ g0 f) d b a;have q:=oS g0 f b a;rw [s];have:hit 2 b 0 (lN (a0,a1,0)) (lN (b0,b1,0))=decide (0<bt b a0+(bt b b0+(bt b b1+0))):=rfl;rw [this];simp only [lR] at q ⊢;omega
  show some [cond (hit 2 2 0 (lN (a0,a1,0)) (lN (b0,b1,0))) (IntKind.wrap .u8 (cond (hit 2 1 0 (lN (a0,a1,0)) (lN (b0,b1,0))) (IntKind.wrap .u8 (0+((1:Nat):Int))) 0+((2:Nat):Int))) (cond (hit 2 1 0 (lN (a0,a1,0)) (lN (b0,b1,0))) (IntKind.wrap .u8 (0+((1:Nat):Int))) 0),cond (hit 2 2 1 (lN (a0,a1,0)) (lN (b0,b1,0))) (IntKind.wrap .u8 (cond (hit 2 1 1 (lN (a0,a1,0)) (lN (b0,b1,0))) (IntKind.wrap .u8 (0+((1:Nat):Int))) 0+((2:Nat):Int))) (cond (hit 2 1 1 (lN (a0,a1,0)) (lN (b0,b1,0))) (IntKind.wrap .u8 (0+((1:Nat):Int))) 0),0]=_;rw [p 1 (.inl rfl),p 2 (.inr rfl),r 1 (.inl rfl),r 2 (.inr rfl),pi (c _ _ (c _ _ g0 f) d),pi (c _ _ o d)];simp [l3,spM]
 ·have E:∀b,b=1\/b=2->hit 3 b 2 (lN (a0,a1,a2)) (lN (b0,b1,b2))=decide (0<bt b (a2 ||| b2)):=λb a=>by rw [oS v m b a];rfl
  have r:∀b,b=1\/b=2->hit 3 b 1 (lN (a0,a1,a2)) (lN (b0,b1,b2))=decide (0<bt b (a1 ||| b1 ||| b2)):=λb a=>by
   have s:=oS (c _ _ o d) m b a;have q:=oS o d b a;rw [s];have:hit 3 b 1 (lN (a0,a1,a2)) (lN (b0,b1,b2))=decide (0<bt b a1+(bt b b1+(bt b b2+0))):=rfl;rw [this];simp only [lR] at q ⊢;omega
  have p:∀b,b=1\/b=2->hit 3 b 0 (lN (a0,a1,a2)) (lN (b0,b1,b2))=decide (0<bt b (a0 ||| b0 ||| b1 ||| b2)):=λb a=>by
   have s:=oS (c _ _ (c _ _ g0 f) d) m b a;have q:=oS (c _ _ g0 f) d b a;have O:=oS g0 f b a;rw [s];have:hit 3 b 0 (lN (a0,a1,a2)) (lN (b0,b1,b2))=decide (0<bt b a0+(bt b b0+(bt b b1+(bt b b2+0)))):=rfl;rw [this];simp only [lR] at q O ⊢;omega
  show some [cond (hit 3 2 0 (lN (a0,a1,a2)) (lN (b0,b1,b2))) (IntKind.wrap .u8 (cond (hit 3 1 0 (lN (a0,a1,a2)) (lN (b0,b1,b2))) (IntKind.wrap .u8 (0+((1:Nat):Int))) 0+((2:Nat):Int))) (cond (hit 3 1 0 (lN (a0,a1,a2)) (lN (b0,b1,b2))) (IntKind.wrap .u8 (0+((1:Nat):Int))) 0),cond (hit 3 2 1 (lN (a0,a1,a2)) (lN (b0,b1,b2))) (IntKind.wrap .u8 (cond (hit 3 1 1 (lN (a0,a1,a2)) (lN (b0,b1,b2))) (IntKind.wrap .u8 (0+((1:Nat):Int))) 0+((2:Nat):Int))) (cond (hit 3 1 1 (lN (a0,a1,a2)) (lN (b0,b1,b2))) (IntKind.wrap .u8 (0+((1:Nat):Int))) 0),cond (hit 3 2 2 (lN (a0,a1,a2)) (lN (b0,b1,b2))) (IntKind.wrap .u8 (cond (hit 3 1 2 (lN (a0,a1,a2)) (lN (b0,b1,b2))) (IntKind.wrap .u8 (0+((1:Nat):Int))) 0+((2:Nat):Int))) (cond (hit 3 1 2 (lN (a0,a1,a2)) (lN (b0,b1,b2))) (IntKind.wrap .u8 (0+((1:Nat):Int))) 0)]=_;rw [p 1 (.inl rfl),p 2 (.inr rfl),r 1 (.inl rfl),r 2 (.inr rfl),E 1 (.inl rfl),E 2 (.inr rfl),pi (c _ _ (c _ _ (c _ _ g0 f) d) m),pi (c _ _ (c _ _ o d) m),pi (c _ _ v m)];rfl
def I2 (k a b c:Nat):Bool:=spM (plA k a b c) (plB k a b c)==(a,b,c)
theorem Rh:((List.range 4).all λa=>I2 1 a 0 0)=true:=by decide +kernel
theorem QJ:((List.range 4).all λa=>(List.range 4).all λb=>I2 2 a b 0)=true:=by decide +kernel
theorem Q9:((List.range 4).all λa=>(List.range 4).all λb=>(List.range 4).all λc=>I2 3 a b c)=true:=by decide +kernel
theorem TM (k a b c:Nat) (i:1<=k/\k<=3) (d:a<4) (f:b<4) (hc:c<4) (g:k<2->b=0) (e:k<3->c=0):spM (plA k a b c) (plB k a b c)=(a,b,c):=by
 have h:I2 k a b c=true:=by
  have:k=1\/k=2\/k=3:=by omega
  rcases this with rfl | rfl | rfl
  ·rw [g (by omega),e (by omega)];exact r4 Rh d
  ·rw [e (by omega)];exact r4 (r4 QJ d) f
  ·exact r4 (r4 (r4 Q9 d) f) hc
 unfold I2 at h;exact bg.1 h
def mkS (l:aa):Nat:=match l with | []=>0 | c::_=>mkOf c
def mkN (l:aa):Nat:=if mkS l=0 then 0 else 1
def twoN (l:aa):Nat:=br isDX 2 l
theorem PY (c:UInt8):mkOf c<4:=by
 unfold mkOf;split
 ·omega
 ·split
  ·omega
  ·split<;>omega
theorem AY (l:aa):mkS l<4:=by
 cases l with
 | nil=>show 0<4;omega
 | cons c r=>exact PY c
theorem SD (l:aa):mkN l<=l.length:=by
 cases l with
 | nil=>exact aU 0
 | cons c r=>
  unfold mkN;split<;>simp
theorem OC (c:UInt8):hasB [63,126,37] c=decide (0<mkOf c):=by
 have:=gu (λc=>hasB [63,126,37] c==decide (0<mkOf c)) (by decide +kernel) c;simpa using this
theorem Ob (m:Nat) (S:aa) (a:Nat) (h:a<=S.length) (i:S.length<100000):
  cb (m+300) S (a:Int)=some (.inr (((mkS (S.drop a):Nat):Int),S,((a+mkN (S.drop a):Nat):Int))):=by
 unfold cb;rw [np (m+300) S a h];cases f:S.drop a with
 | nil=>
  have e:nj (m+300) 0=some (0,false):=by kernel_rfl
  show ob (nj (m+300) 0) _=_;rw [e];rfl
 | cons c r=>
  show ob (nj (m+300) ((c.toNat:Nat):Int)) _=_;rw [(CE m c).1];show cond (decide (0<mkOf c)) _ _=_;have b:mkS (c::r)=mkOf c:=rfl;by_cases hc:0<mkOf c
  ·rw [am hc];show ob (bU (m+300) [63,126,37] S (a:Int)) _=_;rw [yA (m+300) _ S a h (by omega),f];have g:hasB [63,126,37] c=true:=by rw [OC,am hc]
   have d:mkN (c::r)=1:=by unfold mkN;rw [b,ab (by omega)]
   rw [b,d];simp only [g,aJ,ob]
  ·rw [ar hc];have d:mkN (c::r)=0:=by unfold mkN;rw [b,ae (by omega)]
   rw [b,d];rfl
theorem zh (m:Nat) (S:aa) (a:Nat) (h:a<=S.length) (j:S.length<100000) (e:Int):
  dL (m+300) S (a:Int) e=some (((mkS (S.drop a):Nat):Int),S,((a+mkN (S.drop a):Nat):Int),e):=by
 unfold dL;rw [jV];rcases aF a S.length with f | g
 ·have:decide (S.length<=a)=false:=by simp;omega
  rw [this];obtain ⟨c,hc⟩:∃c,S[a]?=some c:=⟨S[a],bj f⟩;rw [dF hc,bT hc];show ob (dc (m+300) ((c.toNat:Nat):Int)) _=_;rw [(CE m c).2];have b:mkS (c::S.drop (a+1))=mkOf c:=rfl;show cond (decide (((mkOf c:Nat):Int)>0)) _ _=_;by_cases i:0<mkOf c
  ·have d:mkN (c::S.drop (a+1))=1:=by unfold mkN;rw [b,ab (by omega)]
   have:decide (((mkOf c:Nat):Int)>0)=true:=by simp;omega
   rw [this,b,d,aj];have w:IntKind.wrap .i64 ((a:Int)+1)=((a+1:Nat):Int):=by rw [wrap_i64 _ (by omega) (by omega)];omega
   rw [w]
  ·have d:mkN (c::S.drop (a+1))=0:=by unfold mkN;rw [b,ae (by omega)]
   have:decide (((mkOf c:Nat):Int)>0)=false:=by simp;omega
   rw [this,b,d,af];rfl
 ·have:decide (S.length<=a)=true:=by simp;omega
  rw [this,iD g];rfl
theorem Ns (n:Nat) (S:aa) (a:Nat) (h:a<=S.length) (i:S.length<100000) (g:S.length<n):
  gx n S (a:Int)=some (if twoN (S.drop a)<2 then .inl (((a+twoN (S.drop a):Nat):Int),5,S,((a+twoN (S.drop a):Nat):Int)) else .inr ((S.drop a).take 2,S,((a+2:Nat):Int))):=by
 unfold gx;rw [tz n _ 2 2 S a h (by omega) g];have e:br (hasB [88,48,49,50,51,52,53,54,55,56,57]) (2:Int).toNat (S.drop a)=twoN (S.drop a):=by
  unfold twoN;have d:(2:Int).toNat=2:=rfl;rw [d];exact ja (λc=>by rw [rP];rfl) _ _
 rw [e];by_cases b:twoN (S.drop a)<2
 ·rw [ae b,ae (by omega)];rfl
 ·have f:twoN (S.drop a)=2:=by
   have:=o9 isDX 2 (S.drop a);unfold twoN at b ⊢;omega
  rw [ab b,ab (by omega),f];rfl
theorem RH (c:UInt8):isDX c=((decide (48<=c.toNat)&&decide (c.toNat<=57))||c==88):=by
 unfold isDX;congr 1;rw [qI,bH];simp
theorem Ey (n:Nat) (S:aa) (a b i e:Int) (j:Nat) (t:S.length<100000) (hi:i<2) (r:j<=S.length) (u:0<=i):
  fS n (b,i,S,(j:Int),e,[],0,0)=some (match S.drop j with
   | []=>.inr (.inl ([],S,(j:Int),5))
   | c::_=>if isDX c then .inl (b,i+1,S,((j+1:Nat):Int),e,[],0,0) else .inr (.inl ([],S,(j:Int),5))):=by
 unfold fS;have p:decide (i<2)=true:=am hi;show cond (decide (i<2)) (cond (decide ((j:Int)>=((S.length:Nat):Int))) _ _) _=_;rw [p,jV];rcases aF j S.length with k | l
 ·have:decide (S.length<=j)=false:=by simp;omega
  rw [this];obtain ⟨c,hc⟩:∃c,S[j]?=some c:=⟨S[j],bj k⟩;have o:IntKind.wrap .i64 (i+1)=i+1:=wrap_i64 _ (by omega) (by omega);have q:IntKind.wrap .i64 ((j:Int)+1)=((j+1:Nat):Int):=by rw [wrap_i64 _ (by omega) (by omega)];omega
  rw [bT hc];simp only [dF hc,ob,aj,af,o,q];rw [RH];have f:(((c.toNat:Nat):Int) != 88)=!(c==88):=by rw [bne];congr 1;exact lH c 88
  rw [f];by_cases v:c.toNat<48
  ·have g:decide (((c.toNat:Nat):Int)<48)=true:=by simp;omega
   have m:decide (48<=c.toNat)=false:=by simp;omega
   rw [g,m];cases (c==88)<;>rfl
  ·have g:decide (((c.toNat:Nat):Int)<48)=false:=by simp;omega
   have m:decide (48<=c.toNat)=true:=by simp;omega
   rw [g,m];by_cases s:c.toNat<=57
   ·have d:decide (((c.toNat:Nat):Int)>57)=false:=by simp;omega
    have h:decide (c.toNat<=57)=true:=by simp;omega
    rw [d,h];rfl
   ·have d:decide (((c.toNat:Nat):Int)>57)=true:=by simp;omega
    have h:decide (c.toNat<=57)=false:=by simp;omega
    rw [d,h];cases (c==88)<;>rfl
 ·have:decide (S.length<=j)=true:=by simp;omega
  rw [this,iD l];rfl
theorem I3 (n:Nat) (t:10<n) (S:aa) (a:Nat) (h:a<=S.length) (i:S.length<100000) (e:Int):
  iI n S (a:Int) e=some (if twoN (S.drop a)<2 then ([],S,((a+twoN (S.drop a):Nat):Int),5) else ((S.drop a).take 2,S,((a+2:Nat):Int),e)):=by
 obtain ⟨n,rfl⟩:∃j,n=j+3:=⟨n - 3,by omega⟩;unfold iI;rw [aw,Ey (n+3) S 0 (a:Int) 0 e a i (by omega) h (by omega)];cases f:S.drop a with
 | nil=>rfl
 | cons c r=>
  obtain ⟨o,s,g⟩:=lG f;cases hc:isDX c with
  | false=>
   have:twoN (c::r)=0:=by unfold twoN;simp [br,hc]
   rw [this];simp [hc,ob]
  | true=>
   simp only [hc,aJ];rw [aw,Ey (n+3) S 0 (a:Int) (0+1) e (a+1) i (by omega) (by omega) (by omega),g];cases r with
   | nil=>
    have:twoN [c]=1:=by unfold twoN;simp [br,hc]
    rw [this];rfl
   | cons d k=>
    obtain ⟨l,q,p⟩:=lG g;cases b:isDX d with
    | false=>
     have:twoN (c::d::k)=1:=by unfold twoN;simp [br,hc,b]
     rw [this];simp [b,ob]
    | true=>
     have:twoN (c::d::k)=2:=by unfold twoN;simp [br,hc,b]
     rw [this];simp only [b,aJ];have m:fS (n+3) ((a:Int),0+1+1,S,((a+1+1:Nat):Int),e,[],0,0)=some (.inr (.inr ((a:Int),S,((a+1+1:Nat):Int),e,[],0,0))):=rfl;rw [aw,m];show ob (bx S.length ((a+1+1:Nat):Int)) _=_;rw [ct (show a+1+1<=S.length by omega)];show ob (bx (a+1+1) (a:Int)) _=_;rw [ct (show a<=a+1+1 by omega)];have:List.drop a (List.take (a+1+1) S)=[c,d]:=by
      rw [uB,f];have:a+1+1 - a=2:=by omega
      rw [this];rfl
     show some (List.drop a (List.take (a+1+1) S),S,((a+1+1:Nat):Int),e)=_;rw [this];rfl
theorem cutD (r:Nat) (h:r<10):List.drop r (List.take (r+1) ([48,49,50,51,52,53,54,55,56,57]:aa))=[UInt8.ofNat (48+r)]:=by
 have:∀r,r<10->List.drop r (List.take (r+1) ([48,49,50,51,52,53,54,55,56,57]:aa))=[UInt8.ofNat (48+r)]:=by decide
 exact this r h
theorem AS {k:Nat} (h:k<10):Lib.decDigits k=[UInt8.ofNat (48+k)]:=by
 rw [Lib.decDigits,dif_pos h]
theorem y7 {k:Nat} (h:¬k<10) (a:k<100):Lib.decDigits k=[UInt8.ofNat (48+k / 10),UInt8.ofNat (48+k%10)]:=by
 rw [Lib.decDigits,dif_neg h,AS (by omega)];rfl
theorem Iz (n k:Nat) (h:k<100):aG n (k:Int)=some (Lib.decDigits k):=by
 have g:Int.tmod (k:Int) 10=((k%10:Nat):Int):=rfl;have d:Int.tdiv (k:Int) 10=((k / 10:Nat):Int):=rfl;have b:IntKind.wrap .i64 (((k%10:Nat):Int)+1)=((k%10+1:Nat):Int):=by rw [wrap_i64 _ (by omega) (by omega)];omega
 have f:IntKind.wrap .i64 ((k / 10:Nat):Int)=((k / 10:Nat):Int):=wrap_i64 _ (by omega) (by omega);have c:IntKind.wrap .i64 (((k / 10:Nat):Int)+1)=((k / 10+1:Nat):Int):=by rw [wrap_i64 _ (by omega) (by omega)];omega
 simp only [aG,g,d,b,f,c,ct (show k%10+1<=10 by omega),ct (show k%10<=k%10+1 by omega),ob,cutD (k%10) (by omega)];by_cases a:k<10
 ·have e:decide ((k:Int)>=10)=false:=ar (by omega);rw [e,af,AS a,od a]
 ·have e:decide ((k:Int)>=10)=true:=am (by omega);rw [e,aj,ct (show k / 10+1<=10 by omega)];simp only [];rw [ct (show k / 10<=k / 10+1 by omega)];simp only [cutD (k / 10) (by omega)];rw [eZ (by simp),y7 a h];rfl
def dD (letter:UInt8) (v:Nat):aa:=if 0<v then letter::Lib.decDigits v else []
theorem Hv {k:Nat} (h:k<100):1<=(Lib.decDigits k).length/\(Lib.decDigits k).length<=2:=by
 by_cases a:k<10
 ·rw [AS a];simp
 ·rw [y7 a h];simp
theorem vf (letter:UInt8) {k:Nat} (h:k<100):(dD letter k).length<=3:=by
 unfold dD;split
 ·have:=Hv h;simp only [bf];omega
 ·simp
theorem jb (g l:Bool) (d:aa) (x s:Nat):jH g l d (x:Int) (s:Int)=(if l then [89] else [])++(if g then [45] else [])++d++dD 69 x++dD 83 s:=by
 unfold jH dD;simp only [bI];have b:(0<(x:Int))=(0<x):=by simp
 have a:(0<(s:Int))=(0<s):=by simp
 simp only [b,a]
theorem Kt (n:Nat) (g l:Bool) (d:aa) (x s:Nat) (e:x<100) (i:s<100) (u:d.length<=1000):ju n g l d (x:Int) (s:Int)=some (jH g l d (x:Int) (s:Int)):=by
 have t:=Hv e;have v:=Hv i;have ex:decide ((x:Int)>0)=decide (0<x):=by simp
 have o:decide ((s:Int)>0)=decide (0<s):=by simp
 have k:∀a:aa,a.length<=1100->(cond (decide (0<x)) (ob (aG n (x:Int)) λr=>(ob (cat ([69]:aa) r) λp=>(cat a p))) (some a))=some (a++dD 69 x):=by
  intro a f;unfold dD;by_cases h:0<x
  ·rw [am h,aj,ae h,Iz n x e];simp only [ob];rw [eZ (by simp;omega)];simp only [];rw [eZ (by simp;omega)];rfl
  ·rw [ar h,ab h];simp
 have j:∀a:aa,a.length<=1200->(cond (decide (0<s)) (ob (aG n (s:Int)) λr=>(ob (cat ([83]:aa) r) λp=>(ob (cat a p) λq=>(some q)))) (some a))=some (a++dD 83 s):=by
  intro a f;unfold dD;by_cases h:0<s
  ·rw [am h,aj,ae h,Iz n s i];simp only [ob];rw [eZ (by simp;omega)];simp only [];rw [eZ (by simp;omega)];rfl
  ·rw [ar h,ab h];simp
 have b:∀a:aa,a.length<=1100->(cond (decide (0<x)) (ob (aG n (x:Int)) λr=>(ob (cat ([69]:aa) r) λp=>(ob (cat a p) λz=>(cond (decide (0<s)) (ob (aG n (s:Int)) λr=>(ob (cat ([83]:aa) r) λp=>(ob (cat z p) λq=>(some q)))) (some z))))) (cond (decide (0<s)) (ob (aG n (s:Int)) λr=>(ob (cat ([83]:aa) r) λp=>(ob (cat a p) λq=>(some q)))) (some a)))=some (a++dD 69 x++dD 83 s):=by
  intro a f;have c:=k a f;by_cases h:0<x
  ·rw [am h,aj] at c ⊢;rw [Iz n x e] at c ⊢;simp only [ob] at c ⊢;rw [eZ (a:=[69]) (by simp;omega)] at c ⊢;simp only [] at c ⊢;rw [c];simp only [];have:=j (a++dD 69 x) (by have:=vf 69 e;simp only [bV];omega);simp only [ob] at this;exact this
  ·rw [ar h,af];have m:dD 69 x=[]:=by unfold dD;rw [ab h]
   rw [m,mj];exact j a (by omega)
 rw [jb];unfold ju;rw [ex,o];cases l<;>cases g
 ·rw [af,af,eZ (by simp;omega)];exact b d (by omega)
 ·rw [af,aj,eZ (by simp;omega)];exact b ([45]++d) (by simp;omega)
 ·rw [aj,af,eZ (by simp;omega)];exact b ([89]++d) (by simp;omega)
 ·rw [aj,aj,eZ (by simp;omega)];exact b ([89,45]++d) (by simp;omega)
def cH (p:UInt8->Bool) (l:aa):Prop:=∀c,l.head?=some c->p c=false
theorem kx {k:Nat} (h:k<10):(UInt8.ofNat (48+k)).toNat=48+k:=by
 rw [BL];exact od (by omega)
theorem Aq (letter:UInt8) (v:Nat) (post:aa) (k:v<100) (j:cH aT post) (i:cH (λc=>c==letter) post):numS letter (dD letter v++post)=.inr (v,(dD letter v).length):=by
 unfold dD;by_cases h:0<v
 ·rw [ae h];by_cases f:v<10
  ·rw [AS f];have b:=kx f;simp only [dY,ek];rw [lQ,ae rfl,mJ,ae (by omega)];have a:48+v - 48=v:=by omega
   cases post with
   | nil=>
    rw [rA,b,a];rfl
   | cons e r=>
    have d:¬aT e=true:=by rw [j e rfl];simp
    rw [lF,ab d,b,a];rfl
  ·rw [y7 f k];have b:=kx (show v / 10<10 by omega);have d:=kx (show v%10<10 by omega);simp only [dY,ek];rw [lQ,ae rfl,mJ,ae (by omega),lF,ae ((bH _).2 (by omega)),b,d];rw [show 10*(48+v / 10 - 48)+(48+v%10 - 48)=v by omega];rfl
 ·rw [ab h];have g:v=0:=by omega
  subst g;cases post with
  | nil=>rfl
  | cons c r=>
   have hc:c≠letter:=by
    have:=i c rfl;simpa using this
   rw [ek,lQ,ab hc];rfl
theorem vH (letter:UInt8) (l:aa) (v k:Nat) (h:numS letter l=.inr (v,k)):v<100/\l.take k=dD letter v/\k<=l.length:=by
 cases l with
 | nil=>
  simp only [tj,md,bw] at h;obtain ⟨rfl,rfl⟩:=h;exact ⟨by omega,rfl,by simp⟩
 | cons c r=>
  rw [lQ] at h;by_cases hc:c=letter
  ·rw [ae hc] at h;cases r with
   | nil=>simp [yE] at h
   | cons d j=>
    rw [mJ] at h;by_cases g:49<=d.toNat/\d.toNat<=57
    ·rw [ae g] at h;have i:d.toNat - 48<10:=by omega
     have a:UInt8.ofNat (48+(d.toNat - 48))=d:=by
      apply fF.1;rw [kx i];omega
     have one:(c::d::j).take 2=dD letter (d.toNat - 48):=by
      unfold dD;rw [ae (by omega),AS i,a,hc];rfl
     cases j with
     | nil=>
      simp only [rA,md,bw] at h;obtain ⟨rfl,rfl⟩:=h;exact ⟨by omega,one,by simp⟩
     | cons e p=>
      rw [lF] at h;by_cases b:aT e=true
      ·rw [ae b] at h;simp only [md,bw] at h;obtain ⟨rfl,rfl⟩:=h;have n:=(bH e).1 b;refine ⟨by omega,?_,by simp⟩;unfold dD;have o:(10*(d.toNat - 48)+(e.toNat - 48)) / 10=d.toNat - 48:=by omega
       have m:(10*(d.toNat - 48)+(e.toNat - 48))%10=e.toNat - 48:=by omega
       have f:UInt8.ofNat (48+(e.toNat - 48))=e:=by
        apply fF.1;rw [kx (by omega)];omega
       rw [ae (by omega),y7 (by omega) (by omega),o,m,a,f,hc];rfl
      ·rw [ab b] at h;simp only [md,bw] at h;obtain ⟨rfl,rfl⟩:=h;exact ⟨by omega,one,by simp⟩
    ·rw [ab g] at h;cases h
  ·rw [ab hc] at h;simp only [md,bw] at h;obtain ⟨rfl,rfl⟩:=h;exact ⟨by omega,rfl,by simp⟩
theorem vG {p:UInt8->Bool}:∀(r:aa) (k:Nat) (post:aa),(∀c∈r,p c=true)->r.length<=k->(cH p post\/r.length=k)->br p k (r++post)=r.length
 | [],0,post,_,_,_=>by simp [br]
 | [],k+1,post,_,_,h=>by
  cases post with
  | nil=>simp [br]
  | cons c q=>
   rcases h with h | h
   ·have:=h c rfl;simp [br,this]
   ·simp at h
 | c::r,0,post,_,h,_=>by simp at h
 | c::r,k+1,post,a,e,h=>by
  have ih:=vG r k post (λd b=>a d (by simp [b])) (by simpa using e) (by
   rcases h with h | h
   ·exact .inl h
   ·exact .inr (by simpa using h))
  simp only [dY,br,a c (by simp),aJ,ih,bf]
theorem wq {p:UInt8->Bool}:∀(k:Nat) (l:aa),∀c∈l.take (br p k l),p c=true
 | 0,l=>by simp [br]
 | k+1,[]=>by simp [br]
 | k+1,c::l=>by
  simp only [br];by_cases h:p c=true
  ·rw [ae h];intro d a;rw [mg,cq] at a;rcases a with rfl | a
   ·exact h
   ·exact wq k l d a
  ·rw [ab h];simp
theorem pB {letter:UInt8} {v:Nat} {post:aa} {p:UInt8->Bool} (b:p letter=false) (a:cH p post):cH p (dD letter v++post):=by
 unfold dD;intro c hc;by_cases h:0<v
 ·rw [ae h] at hc;simp only [dY,zY,aq] at hc;rw [<-hc];exact b
 ·rw [ab h] at hc;exact a c hc
def isYC (c:UInt8):Bool:=isDX c||c==69||c==83
theorem Nl {l:aa} (h:cH isYC l):cH aT l:=λc hc=>by
 have:=h c hc;unfold isYC isDX at this;simp only [mB] at this;exact this.1.1.1
theorem TW {l:aa} (h:cH isYC l):cH isDX l:=λc hc=>by
 have:=h c hc;unfold isYC at this;simp only [mB] at this;exact this.1.1
theorem Tv {l:aa} (h:cH isYC l):cH (λc=>c==69) l:=λc hc=>by
 have:=h c hc;unfold isYC at this;simp only [mB] at this;exact this.1.2
theorem SN {l:aa} (h:cH isYC l):cH (λc=>c==83) l:=λc hc=>by
 have:=h c hc;unfold isYC at this;simp only [mB] at this;exact this.2
theorem ls (c:UInt8) (l:aa):ec c (c::l)=1:=by rw [ji,ae rfl]
theorem mH {c a:UInt8} (h:a≠c) (l:aa):ec c (a::l)=0:=by rw [ji,ab h]
theorem HB {g l:Bool} {d:aa} {x s:Nat} (h:okY g l d (x:Int) (s:Int)) (post:aa) (t:cH isYC post):m6 (jH g l d (x:Int) (s:Int)++post)=.inr (g,l,d,x,s,(jH g l d (x:Int) (s:Int)).length):=by
 have F:=ir h;have n:numS 83 (dD 83 s++post)=.inr (s,(dD 83 s).length):=Aq 83 s post (by omega) (Nl t) (SN t);have p:cH aT (dD 83 s++post):=pB (by decide) (Nl t);have D:cH isDX (dD 83 s++post):=pB (by decide) (TW t);rw [jb];cases l with
 | true=>
  have J:okL d (x:Int) (s:Int):=by simpa [okY] using h
  obtain ⟨⟨b,m,B,A,E,H,L,O⟩,P,G⟩:=J;obtain ⟨c,r,rfl⟩:∃c r,d=c::r:=by
   cases d with
   | nil=>simp at m
   | cons c r=>exact ⟨c,r,rfl⟩
  have w:=(bH c).1 (b c (by simp));have k:49<=c.toNat/\c.toNat<=57:=by
   have:c.toNat≠48:=λe=>A (by rw [show c=48 from fF.1 e];rfl);omega
  have a:c≠45:=by rintro rfl;exact absurd w.1 (by decide)
  have v:numS 69 (dD 69 x++(dD 83 s++post))=.inr (x,(dD 69 x).length):=Aq 69 x _ (by omega) p (pB (by decide) (Tv t));have f:br aT 16 (r++(dD 69 x++(dD 83 s++post)))=r.length:=by
   refine vG r 16 _ (λe C=>b e (by simp [C])) (by simp only [bf] at B;omega) (.inl ?_);exact pB (by decide) p
  have body:∀o:Nat,re g o ((c::r)++(dD 69 x++(dD 83 s++post)))=.inr (g,true,c::r,x,s,o+(1+r.length)+(dD 69 x).length+(dD 83 s).length):=by
   intro o;simp only [dY,re];rw [ae k,f];have M:List.drop (1+r.length) (c::(r++(dD 69 x++(dD 83 s++post))))=dD 69 x++(dD 83 s++post):=by
    rw [nB,oH,AW rfl]
   have I:List.drop (1+r.length+(dD 69 x).length) (c::(r++(dD 69 x++(dD 83 s++post))))=dD 83 s++post:=by
    rw [show 1+r.length+(dD 69 x).length=(r.length+(dD 69 x).length)+1 by omega,oH,<-iN,AW (by simp)]
   have N:List.take (1+r.length) (c::(r++(dD 69 x++(dD 83 s++post))))=c::r:=by
    rw [nB,mg,List.take_left' rfl]
   rw [M,v];simp only [];rw [I,n,N]
  unfold m6;cases g with
  | true=>
   simp only [aJ,dY,ek,iN];rw [ls,ae rfl,oH,cP,ls];have:=body 2;simp only [dY] at this;simp only [oH,cP,show ((1:Nat)==1)=true from rfl,show 1+1=2 from rfl];rw [this];simp only [bf,bV];congr 6;omega
  | false=>
   simp only [aJ,bq,aE,dY,ek,iN];rw [ls,ae rfl,oH,cP,mH a];have:=body 1;simp only [dY] at this;simp only [oH,cP,show ((0:Nat)==1)=false from rfl,cf];rw [this];simp only [bf,bV];congr 6;omega
 | false=>
  have K:okS g d (x:Int) (s:Int):=by simpa [okY] using h
  obtain ⟨b,m,B,A,E,H,L⟩:=K;have y:x=0:=by omega
  subst y;have z:dD 69 0=[]:=rfl;have u:∀c∈d,isDX c=true:=λc hc=>by
   unfold isDX;rcases m c hc with q | q
   ·rw [q];rfl
   ·rw [q];simp
  have f:br isDX 4 (d++(dD 83 s++post))=d.length:=vG d 4 _ u (by omega) (.inr b);have body:∀o:Nat,sI g o (d++(dD 83 s++post))=.inr (g,false,d,0,s,o+4+(dD 83 s).length):=by
   intro o;unfold sI;rw [f,b,ab (by omega),AW b,n,List.take_left' b]
  obtain ⟨c,r,rfl⟩:∃c r,d=c::r:=by
   cases d with
   | nil=>simp at b
   | cons c r=>exact ⟨c,r,rfl⟩
  have a:c≠45:=by
   rintro rfl;rcases m 45 (by simp) with q | q
   ·exact absurd ((bH _).1 q).1 (by decide)
   ·exact absurd q (by decide)
  have j:c≠89:=by
   rintro rfl;rcases m 89 (by simp) with q | q
   ·exact absurd ((bH _).1 q).2 (by decide)
   ·exact absurd q (by decide)
  have i:(45:UInt8)≠89:=by decide
  unfold m6;rw [z];cases g with
  | true=>
   simp only [aJ,bq,aE,dY,ek,iN];rw [mH i,ab (by decide),ls,oH,cP];have:=body 1;simp only [dY] at this;rw [show ((1:Nat)==1)=true from rfl,this];simp only [bf,bV] at b ⊢;congr 6;omega
  | false=>
   simp only [bq,aE,dY,ek,iN];rw [mH j,ab (by decide),mH a,cP];have:=body 0;simp only [dY] at this;rw [show ((0:Nat)==1)=false from rfl,this];simp only [bf,bV] at b ⊢;congr 6;omega
theorem rO (c:UInt8) (l:aa):l.take (ec c l)=if ec c l=1 then [c] else []:=by
 rcases kf c l with h | h
 ·rw [h];simp
 ·rw [h,ae rfl];unfold ec at h;split at h
  ·assumption
  ·cases h
theorem mE (l:aa) (i j:Nat):l.take (i+j)=l.take i++(l.drop i).take j:=by
 rw [List.take_add]
theorem oa {l:aa} {g o:Bool} {d:aa} {x s k:Nat} (h:m6 l=.inr (g,o,d,x,s,k)):l.take k=jH g o d (x:Int) (s:Int)/\k<=l.length/\x<100/\s<100/\d.length<=17:=by
 rw [jb];unfold m6 at h;by_cases n:ec 89 l=1
 ·rw [ae n] at h;have q:=rO 89 l;rw [n,ae rfl] at q;have m:=rO 45 (l.drop 1);have e:=kf 45 (l.drop 1);generalize D:ec 45 (l.drop 1)=u at *;have a:l.take (1+u)=[89]++(if (u==1)=true then [45] else []):=by
   rw [mE,q,m];rcases e with rfl | rfl<;>rfl
  cases t:l.drop (1+u) with
  | nil=>rw [t] at h;simp [re] at h
  | cons c r=>
   rw [t] at h;simp only [re] at h;by_cases hc:49<=c.toNat/\c.toNat<=57
   ·rw [ae hc] at h;have B:=o9 aT 16 r;have F:1+br aT 16 r<=(c::r).length:=by have:=km aT 16 r;simp only [bf];omega
    generalize G:1+br aT 16 r=K at *;cases f:numS 69 (List.drop K (c::r)) with
    | inl j=>rw [f] at h;simp at h
    | inr p=>
     obtain ⟨H,j⟩:=p;rw [f] at h;simp only at h;cases b:numS 83 (List.drop (K+j) (c::r)) with
     | inl i=>rw [b] at h;simp at h
     | inr w=>
      obtain ⟨s',i⟩:=w;rw [b] at h;simp only [md,bw] at h;obtain ⟨rfl,rfl,rfl,rfl,rfl,rfl⟩:=h;obtain ⟨a1,a2,E⟩:=vH _ _ _ _ f;obtain ⟨b1,b2,z⟩:=vH _ _ _ _ b;rw [cZ] at E z;have C:l.length=1+u+(c::r).length:=by
       have:=cK List.length t;rw [cZ] at this;simp only [bf] at this ⊢;omega
      refine ⟨?_,by simp only [bf] at *;omega,a1,b1,by rw [cN];omega⟩;rw [show 1+u+K+j+i=(1+u)+(K+(j+i)) by omega,mE,a,t,mE _ K,mE _ j,a2,iL,b2];simp
   ·rw [ab hc] at h;simp at h
 ·rw [ab n] at h;have m:=rO 45 l;have e:=kf 45 l;generalize D:ec 45 l=u at *;have a:l.take u=(if (u==1)=true then [45] else []):=by
   rw [m];rcases e with rfl | rfl<;>rfl
  unfold sI at h;by_cases A:br isDX 4 (l.drop u)<4
  ·rw [ae A] at h;simp at h
  ·rw [ab A] at h;have y:=km isDX 4 (l.drop u);rw [cZ] at y;cases f:numS 83 (List.drop 4 (l.drop u)) with
   | inl i=>rw [f] at h;simp at h
   | inr w=>
    obtain ⟨s',i⟩:=w;rw [f] at h;simp only [md,bw] at h;obtain ⟨rfl,rfl,rfl,rfl,rfl,rfl⟩:=h;obtain ⟨b1,b2,z⟩:=vH _ _ _ _ f;rw [cZ,cZ] at z;refine ⟨?_,by omega,by omega,b1,by rw [cN];omega⟩;rw [show u+4+i=u+(4+i) by omega,mE,a,mE _ 4,b2];have v:dD 69 0=[]:=rfl;rw [v];simp
abbrev DR:=Bool×Bool×aa×Nat×Nat×aa×aa×(Nat×Nat×Nat)×(Nat×Nat×Nat)×Nat
def mkE (S:aa) (p:Nat):Nat:=p+mkN (S.drop p)
def rd3 (S:aa) (y:YR) (b g f h c d a:Nat) (e:aa):Nat⊕DR:=
 if twoN (S.drop (mkE S (a+1)))<2 then .inl (mkE S (a+1)+twoN (S.drop (mkE S (a+1))))
 else .inr (y.1,y.2.1,y.2.2.1,y.2.2.2.1,y.2.2.2.2.1,e,(S.drop (mkE S (a+1))).take 2,spM (b,f,mkS (S.drop (a+1))) (g,h,mkS (S.drop (mkE S (a+1)+2))),(c,d,mkE S (a+1)),mkE S (mkE S (a+1)+2))
def rd2 (S:aa) (y:YR) (c b d a:Nat):Nat⊕DR:=
 if twoN (S.drop (mkE S (a+1)))<2 then .inl (mkE S (a+1)+twoN (S.drop (mkE S (a+1))))
 else if ec 45 (S.drop (mkE S (mkE S (a+1)+2)))=0 then .inr (y.1,y.2.1,y.2.2.1,y.2.2.2.1,y.2.2.2.2.1,(S.drop (mkE S (a+1))).take 2,[],spM (c,mkS (S.drop (a+1)),0) (b,mkS (S.drop (mkE S (a+1)+2)),0),(d,mkE S (a+1),0),mkE S (mkE S (a+1)+2))
 else rd3 S y c b (mkS (S.drop (a+1))) (mkS (S.drop (mkE S (a+1)+2))) d (mkE S (a+1)) (mkE S (mkE S (a+1)+2)) ((S.drop (mkE S (a+1))).take 2)
def kK (S:aa) (a:Nat):Nat⊕DR:=match m6 (S.drop (mkE S a)) with
 | .inl k=>.inl (mkE S a+k)
 | .inr y=>if 0<y.2.2.2.2.1\/ec 45 (S.drop (mkE S (mkE S a+y.2.2.2.2.2)))=0
  then .inr (y.1,y.2.1,y.2.2.1,y.2.2.2.1,y.2.2.2.2.1,[],[],spM (mkS (S.drop a),0,0) (mkS (S.drop (mkE S a+y.2.2.2.2.2)),0,0),(mkE S a,0,0),mkE S (mkE S a+y.2.2.2.2.2))
  else rd2 S y (mkS (S.drop a)) (mkS (S.drop (mkE S a+y.2.2.2.2.2))) (mkE S a) (mkE S (mkE S a+y.2.2.2.2.2))
def OL (S:aa):Nat⊕DR->(Int×Int×aa×Int)⊕(Bool×Bool×aa×Int×Int×aa×aa×Int×Int×Int×List Int×aa×Int)
 | .inl k=>.inl ((k:Int),5,S,(k:Int))
 | .inr (g,l,dg,x,s,m,d,M,P,e)=>.inr (g,l,dg,(x:Int),(s:Int),m,d,(M.1:Int),(M.2.1:Int),(M.2.2:Int),l3 P,S,(e:Int))
theorem jp {S:aa} {p:Nat} (h:p<=S.length):mkE S p<=S.length:=by
 have:=SD (S.drop p);rw [cZ] at this;unfold mkE;omega
theorem sH {S:aa} {p:Nat} (a:¬twoN (S.drop p)<2):p+2<=S.length:=by
 have:=km isDX 2 (S.drop p);unfold twoN at a;rw [cZ] at this;omega
theorem pG {S:aa} {p:Nat} (h:¬ec 45 (S.drop p)=0):p+1<=S.length:=by
 have:=xX 45 (S.drop p);rw [cZ] at this;omega
theorem J8 (n:Nat) (g l:Bool) (d:aa) (x s:Int) (a b:aa) (k0 k1 k2:Int) (S:aa) (p:Nat) (h:p<=S.length) (e:S.length<100000) (c:S.length<n):
  iY n g l d x s a b k0 k1 k2 S (p:Int)=some (match m6 (S.drop p) with
   | .inl k=>.inl (((p+k:Nat):Int),5,g,l,d,x,s,a,b,k0,k1,k2,S,((p+k:Nat):Int))
   | .inr y=>.inr (y.1,y.2.1,y.2.2.1,(y.2.2.2.1:Int),(y.2.2.2.2.1:Int),a,b,k0,k1,k2,S,((p+y.2.2.2.2.2:Nat):Int))):=by
 unfold iY;rw [OI n S p h e c];cases m6 (S.drop p) with
 | inl k=>rfl
 | inr y=>rfl
theorem KC (n:Nat) (g l:Bool) (d:aa) (x s:Int) (c b:aa) (k0 k1 k2:Int) (S:aa) (p:Nat) (h:p<=S.length) (e:S.length<100000) (f:S.length<n):
  iU n g l d x s c b k0 k1 k2 S (p:Int)=some (if twoN (S.drop p)<2
   then .inl (((p+twoN (S.drop p):Nat):Int),5,g,l,d,x,s,c,b,k0,k1,k2,S,((p+twoN (S.drop p):Nat):Int))
   else .inr (g,l,d,x,s,(S.drop p).take 2,b,k0,k1,k2,S,((p+2:Nat):Int))):=by
 unfold iU;rw [Ns n S p h e f];by_cases a:twoN (S.drop p)<2
 ·rw [ae a,ae a];rfl
 ·rw [ab a,ab a];rfl
theorem KB (n:Nat) (g l:Bool) (d:aa) (x s:Int) (b c:aa) (k0 k1 k2:Int) (S:aa) (p:Nat) (h:p<=S.length) (e:S.length<100000) (f:S.length<n):
  iW n g l d x s b c k0 k1 k2 S (p:Int)=some (if twoN (S.drop p)<2
   then .inl (((p+twoN (S.drop p):Nat):Int),5,g,l,d,x,s,b,c,k0,k1,k2,S,((p+twoN (S.drop p):Nat):Int))
   else .inr (g,l,d,x,s,b,(S.drop p).take 2,k0,k1,k2,S,((p+2:Nat):Int))):=by
 unfold iW;rw [Ns n S p h e f];by_cases a:twoN (S.drop p)<2
 ·rw [ae a,ae a];rfl
 ·rw [ab a,ab a];rfl
theorem I9 (m:Nat) (S:aa) (a:Nat) (h:a<=S.length) (j:S.length<100000) (D:S.length<m+300):
  gD (m+300) S (a:Int)=some (OL S (kK S a)):=by
 have n:∀p,p<=S.length->cb (m+300) S (p:Int)=some (.inr (((mkS (S.drop p):Nat):Int),S,((mkE S p:Nat):Int))):=λp K=>Ob m S p K j;have b:∀p,mkS (S.drop p)<4:=λp=>AY _;have u:∀p q,dM (m+300) [((mkS (S.drop p):Nat):Int),0,0] [((mkS (S.drop q):Nat):Int),0,0] 1=some (l3 (spM (mkS (S.drop p),0,0) (mkS (S.drop q),0,0)),0):=λp q=>
  vj (m+300) (by omega) 1 (mkS (S.drop p),0,0) (mkS (S.drop q),0,0) (by omega) ⟨b p,by simp,by simp,by simp,by simp⟩ ⟨b q,by simp,by simp,by simp,by simp⟩
 have F:∀p q c d,dM (m+300) [((mkS (S.drop p):Nat):Int),((mkS (S.drop c):Nat):Int),0] [((mkS (S.drop q):Nat):Int),((mkS (S.drop d):Nat):Int),0] 2=some (l3 (spM (mkS (S.drop p),mkS (S.drop c),0) (mkS (S.drop q),mkS (S.drop d),0)),0):=λp q c d=>
  vj (m+300) (by omega) 2 (mkS (S.drop p),mkS (S.drop c),0) (mkS (S.drop q),mkS (S.drop d),0) (by omega) ⟨b p,b c,by simp,by simp,by simp⟩ ⟨b q,b d,by simp,by simp,by simp⟩
 have E:∀p q c d i e,dM (m+300) [((mkS (S.drop p):Nat):Int),((mkS (S.drop c):Nat):Int),((mkS (S.drop i):Nat):Int)] [((mkS (S.drop q):Nat):Int),((mkS (S.drop d):Nat):Int),((mkS (S.drop e):Nat):Int)] 3=some (l3 (spM (mkS (S.drop p),mkS (S.drop c),mkS (S.drop i)) (mkS (S.drop q),mkS (S.drop d),mkS (S.drop e))),0):=λp q c d i e=>
  vj (m+300) (by omega) 3 (mkS (S.drop p),mkS (S.drop c),mkS (S.drop i)) (mkS (S.drop q),mkS (S.drop d),mkS (S.drop e)) (by omega) ⟨b p,b c,b i,by simp,by simp⟩ ⟨b q,b d,b e,by simp,by simp⟩
 have b0:=jp h;unfold gD kK;rw [n a h];simp only [ob,zw];rw [J8 _ _ _ _ _ _ _ _ _ _ _ S (mkE S a) b0 j D];cases I:m6 (S.drop (mkE S a)) with
 | inl k=>rfl
 | inr y=>
  obtain ⟨g,l,dg,x,s,k⟩:=y;have bk:mkE S a+k<=S.length:=by
   have:=(oa I).2.1;rw [cZ] at this;omega
  have b1:=jp bk;simp only [ob,d4,d8];rw [n (mkE S a+k) bk];simp only [ob];by_cases G:0<s
  ·have:decide (((s:Nat):Int)>0)=true:=by simp;omega
   rw [this,ae (.inl G)];simp only [aj];rw [u];rfl
  ·have:decide (((s:Nat):Int)>0)=false:=by simp;omega
   rw [this];simp only [af];rw [rF (m+300) 45 S _ b1 j];simp only [ob];by_cases w:ec 45 (S.drop (mkE S (mkE S a+k)))=0
   ·rw [ae (.inr w),w];simp only [show ((0:Nat)==1)=false from rfl,ie,aj,cf];rw [u];rfl
   ·have C:ec 45 (S.drop (mkE S (mkE S a+k)))=1:=(kf 45 _).resolve_left w;have v:=pG w;rw [ab (λz=>z.elim G w),C];simp only [show ((1:Nat)==1)=true from rfl,cV,af];unfold rd2;rw [n _ v];simp only [ob];have J:=jp v;rw [KC _ _ _ _ _ _ _ _ _ _ _ S _ J j D];by_cases t:twoN (S.drop (mkE S (mkE S (mkE S a+k)+1)))<2
    ·rw [ae t,ae t];rfl
    ·rw [ab t,ab t];have b2:=sH t;simp only [ob,d4,d8];rw [n _ b2];simp only [ob];rw [this];simp only [af];have L:=jp b2;rw [rF (m+300) 45 S _ L j];simp only [ob];by_cases f:ec 45 (S.drop (mkE S (mkE S (mkE S (mkE S a+k)+1)+2)))=0
     ·rw [ae f,f];simp only [show ((0:Nat)==1)=false from rfl,ie,aj,cf];rw [F];rfl
     ·have A:=(kf 45 (S.drop (mkE S (mkE S (mkE S (mkE S a+k)+1)+2)))).resolve_left f;have o:=pG f;rw [ab f,A];simp only [show ((1:Nat)==1)=true from rfl,cV,af];unfold rd3;rw [n _ o];simp only [ob];have B:=jp o;rw [KB _ _ _ _ _ _ _ _ _ _ _ S _ B j D];by_cases r:twoN (S.drop (mkE S (mkE S (mkE S (mkE S (mkE S a+k)+1)+2)+1)))<2
      ·rw [ae r,ae r];rfl
      ·rw [ab r,ab r];have H:=sH r;simp only [ob,d4,d8];rw [n _ H];simp only [ob];rw [E];rfl
def LO (S:aa) (P:List Int):Nat⊕DR->Bool×Bool×aa×Int×Int×aa×aa×Int×Int×Int×List Int×aa×Int×Int
 | .inl k=>(false,false,[],0,0,[],[],0,0,0,P,S,(k:Int),5)
 | .inr (g,l,dg,x,s,m,d,M,Q,e)=>(g,l,dg,(x:Int),(s:Int),m,d,(M.1:Int),(M.2.1:Int),(M.2.2:Int),l3 Q,S,(e:Int),0)
abbrev RdSt:=aa×Int×Int×List Int×Bool×Bool×aa×Int×Int×aa×aa×List Int×List Int×List Int×aa×Int×Int
def rdSt (S:aa) (i:Int) (g l:Bool) (dg:aa) (x s:Int) (a b:aa) (P A B:List Int) (p:Nat):RdSt:=
 (S,i,i,[0,0,0],g,l,dg,x,s,a,b,P,A,B,S,(p:Int),0)
theorem SZ (m:Nat) (S:aa) (a:Nat) (h:a<=S.length) (b:S.length<100000) (e:S.length<m+300):
  aV (m+300) (rdSt S 0 false false [] 0 0 [] [] [0,0,0] [0,0,0] [0,0,0] a)=some (match m6 (S.drop (mkE S a)) with
   | .inl k=>.inr (.inr (false,false,[],0,0,[],[],0,0,0,[((mkE S a:Nat):Int),0,0],S,((mkE S a+k:Nat):Int),5))
   | .inr y=>.inl (rdSt S 1 y.1 y.2.1 y.2.2.1 (y.2.2.2.1:Int) (y.2.2.2.2.1:Int) [] [] [((mkE S a:Nat):Int),0,0] [((mkS (S.drop a):Nat):Int),0,0] [((mkS (S.drop (mkE S a+y.2.2.2.2.2)):Nat):Int),0,0] (mkE S (mkE S a+y.2.2.2.2.2)))):=by
 have c:∀p,p<=S.length->dL (m+300) S (p:Int) 0=some (((mkS (S.drop p):Nat):Int),S,((mkE S p:Nat):Int),0):=λp f=>zh m S p f b 0;have b0:=jp h;unfold aV rdSt;simp only [d4,d8,d16,eN,show (decide ((0:Int)<3))=true from rfl,show (decide ((0:Int)>0))=false from rfl,aj,af,ob];rw [c a h];simp only [ob,show ix 3 0=some 0 from rfl,show Nat.blt 0 3=true from rfl,aj,eS,show ((0:Int)==0)=true from rfl];rw [MC (m+300) S (mkE S a) b0 b e];cases d:m6 (S.drop (mkE S a)) with
 | inl k=>rfl
 | inr y=>
  obtain ⟨g,l,dg,x,s,k⟩:=y;have bk:mkE S a+k<=S.length:=by
   have:=(oa d).2.1;rw [cZ] at this;omega
  simp only [mu,ob,d4,d8,d16,show ((0:Int) != 0)=false from rfl,af];rw [c _ bk];rfl
theorem S9 (m:Nat) (S:aa) (g l:Bool) (dg:aa) (x s:Nat) (e f k:Int) (q:Nat) (h:q<=S.length) (o:S.length<100000) (v:S.length<m+300):
  aV (m+300) (rdSt S 1 g l dg (x:Int) (s:Int) [] [] [e,0,0] [f,0,0] [k,0,0] q)=some (
   if 0<s\/ec 45 (S.drop q)=0 then .inr (.inl (1,false,false,[],0,0,[],[],0,0,0,[0,0,0],[],0,0,g,l,dg,(x:Int),(s:Int),[],[],0,0,0,[e,0,0],[f,0,0],[k,0,0],S,(q:Int),0))
   else if twoN (S.drop (mkE S (q+1)))<2 then .inr (.inr (false,false,[],0,0,[],[],0,0,0,[e,((mkE S (q+1):Nat):Int),0],S,((mkE S (q+1)+twoN (S.drop (mkE S (q+1))):Nat):Int),5))
   else .inl (rdSt S 2 g l dg (x:Int) (s:Int) ((S.drop (mkE S (q+1))).take 2) [] [e,((mkE S (q+1):Nat):Int),0] [f,((mkS (S.drop (q+1)):Nat):Int),0] [k,((mkS (S.drop (mkE S (q+1)+2)):Nat):Int),0] (mkE S (mkE S (q+1)+2)))):=by
 have r:∀p,p<=S.length->dL (m+300) S (p:Int) 0=some (((mkS (S.drop p):Nat):Int),S,((mkE S p:Nat):Int),0):=λp u=>zh m S p u o 0;unfold aV rdSt;simp only [d4,d8,d16,eN,gp,show (decide ((1:Int)<3))=true from rfl,show (decide ((1:Int)>0))=true from rfl,aj,af,ob,jV];by_cases t:0<s
 ·have:decide (((s:Nat):Int)>0)=true:=by simp;omega
  rw [this,ae (.inl t)];rfl
 ·have:decide (((s:Nat):Int)>0)=false:=by simp;omega
  rw [this];simp only [af];rcases aF q S.length with j | n
  ·obtain ⟨c,hc⟩:∃c,S[q]?=some c:=⟨S[q],bj j⟩;have b:decide (S.length<=q)=false:=by simp;omega
   rw [b];simp only [af,dF hc,ob];have i:(((c.toNat:Nat):Int) != 45)=!(c==45):=by rw [bne];congr 1;exact lH c 45
   rw [i,bT hc,ji];by_cases a:c=45
   ·have w:IntKind.wrap .i64 ((q:Int)+1)=((q+1:Nat):Int):=by rw [wrap_i64 _ (by omega) (by omega)];omega
    rw [ae a,ab (show ¬(0<s\/(1:Nat)=0) from λz=>z.elim t (by omega)),a];simp only [uw,cV,af,ob,w];rw [r _ (by omega)];simp only [ob,show ix 3 1=some 1 from rfl,show Nat.blt 1 3=true from rfl,aj,eS,fY,show ((1:Int)==0)=false from rfl,show ((1:Int)==1)=true from rfl,af];have b1:=jp (show q+1<=S.length by omega);rw [I3 (m+300) (by omega) S _ b1 o 0];by_cases d:twoN (S.drop (mkE S (q+1)))<2
    ·rw [ae d,ae d];rfl
    ·rw [ab d,ab d];simp only [ob,d4,d8,d16,show ((0:Int) != 0)=false from rfl,af];rw [r _ (sH d)];rfl
   ·have:(c==45)=false:=aM.2 a;rw [ab a,ae (.inr rfl),this];rfl
  ·have b:decide (S.length<=q)=true:=by simp;omega
   rw [b,iD n,uR,ae (.inr rfl)];rfl
theorem SQ (m:Nat) (S:aa) (g l:Bool) (dg:aa) (x s:Nat) (u:aa) (f i r e k o:Int) (q:Nat) (h:q<=S.length) (v:S.length<100000) (A:S.length<m+300) (B:¬0<s):
  aV (m+300) (rdSt S 2 g l dg (x:Int) (s:Int) u [] [f,e,0] [i,k,0] [r,o,0] q)=some (
   if ec 45 (S.drop q)=0 then .inr (.inl (2,false,false,[],0,0,[],[],0,0,0,[0,0,0],[],0,0,g,l,dg,(x:Int),(s:Int),u,[],0,0,0,[f,e,0],[i,k,0],[r,o,0],S,(q:Int),0))
   else if twoN (S.drop (mkE S (q+1)))<2 then .inr (.inr (false,false,[],0,0,[],[],0,0,0,[f,e,((mkE S (q+1):Nat):Int)],S,((mkE S (q+1)+twoN (S.drop (mkE S (q+1))):Nat):Int),5))
   else .inl (rdSt S 3 g l dg (x:Int) (s:Int) u ((S.drop (mkE S (q+1))).take 2) [f,e,((mkE S (q+1):Nat):Int)] [i,k,((mkS (S.drop (q+1)):Nat):Int)] [r,o,((mkS (S.drop (mkE S (q+1)+2)):Nat):Int)] (mkE S (mkE S (q+1)+2)))):=by
 have y:∀p,p<=S.length->dL (m+300) S (p:Int) 0=some (((mkS (S.drop p):Nat):Int),S,((mkE S p:Nat):Int),0):=λp z=>zh m S p z v 0;unfold aV rdSt;simp only [d4,d8,d16,eN,gp,show (decide ((2:Int)<3))=true from rfl,show (decide ((2:Int)>0))=true from rfl,aj,af,ob,jV];have:decide (((s:Nat):Int)>0)=false:=by simp;omega
 rw [this];simp only [af];rcases aF q S.length with n | t
 ·obtain ⟨c,hc⟩:∃c,S[q]?=some c:=⟨S[q],bj n⟩;have b:decide (S.length<=q)=false:=by simp;omega
  rw [b];simp only [af,dF hc,ob];have j:(((c.toNat:Nat):Int) != 45)=!(c==45):=by rw [bne];congr 1;exact lH c 45
  rw [j,bT hc,ji];by_cases a:c=45
  ·have w:IntKind.wrap .i64 ((q:Int)+1)=((q+1:Nat):Int):=by rw [wrap_i64 _ (by omega) (by omega)];omega
   rw [ae a,ab (show ¬((1:Nat)=0) by omega),a];simp only [uw,cV,af,ob,w];rw [y _ (by omega)];simp only [ob,show ix 3 2=some 2 from rfl,show Nat.blt 2 3=true from rfl,aj,eS,fY,show ((2:Int)==0)=false from rfl,show ((2:Int)==1)=false from rfl,af];have b1:=jp (show q+1<=S.length by omega);rw [I3 (m+300) (by omega) S _ b1 v 0];by_cases d:twoN (S.drop (mkE S (q+1)))<2
   ·rw [ae d,ae d];rfl
   ·rw [ab d,ab d];simp only [ob,d4,d8,d16,show ((0:Int) != 0)=false from rfl,af];rw [y _ (sH d)];rfl
  ·have:(c==45)=false:=aM.2 a;rw [ab a,ae rfl,this];rfl
 ·have b:decide (S.length<=q)=true:=by simp;omega
  rw [b,iD t,uR,ae rfl];rfl
theorem uc (m:Nat) (S:aa) (a:Nat) (h:a<=S.length) (u:S.length<100000) (r:S.length<m+300):
  ∃P:List Int,P.length=3/\eT (m+300) S (a:Int)=some (LO S P (kK S a)):=by
 have b:∀p,mkS (S.drop p)<4:=λp=>AY _;have v:∀p q,dB (m+300) [((mkS (S.drop p):Nat):Int),0,0] [((mkS (S.drop q):Nat):Int),0,0] 1=some (l3 (spM (mkS (S.drop p),0,0) (mkS (S.drop q),0,0))):=λp q=>
  se (m+300) (by omega) 1 (mkS (S.drop p),0,0) (mkS (S.drop q),0,0) (by omega) ⟨b p,by simp,by simp,by simp,by simp⟩ ⟨b q,by simp,by simp,by simp,by simp⟩
 have w:∀p q c d,dB (m+300) [((mkS (S.drop p):Nat):Int),((mkS (S.drop c):Nat):Int),0] [((mkS (S.drop q):Nat):Int),((mkS (S.drop d):Nat):Int),0] 2=some (l3 (spM (mkS (S.drop p),mkS (S.drop c),0) (mkS (S.drop q),mkS (S.drop d),0))):=λp q c d=>
  se (m+300) (by omega) 2 (mkS (S.drop p),mkS (S.drop c),0) (mkS (S.drop q),mkS (S.drop d),0) (by omega) ⟨b p,b c,by simp,by simp,by simp⟩ ⟨b q,b d,by simp,by simp,by simp⟩
 have t:∀p q c d i e,dB (m+300) [((mkS (S.drop p):Nat):Int),((mkS (S.drop c):Nat):Int),((mkS (S.drop i):Nat):Int)] [((mkS (S.drop q):Nat):Int),((mkS (S.drop d):Nat):Int),((mkS (S.drop e):Nat):Int)] 3=some (l3 (spM (mkS (S.drop p),mkS (S.drop c),mkS (S.drop i)) (mkS (S.drop q),mkS (S.drop d),mkS (S.drop e)))):=λp q c d i e=>
  se (m+300) (by omega) 3 (mkS (S.drop p),mkS (S.drop c),mkS (S.drop i)) (mkS (S.drop q),mkS (S.drop d),mkS (S.drop e)) (by omega) ⟨b p,b c,b i,by simp,by simp⟩ ⟨b q,b d,b e,by simp,by simp⟩
 have b0:=jp h;unfold eT kK;show ∃P:List Int,P.length=3/\ob (aw (aV (m+300)) (m+299+1) (rdSt S 0 false false [] 0 0 [] [] [0,0,0] [0,0,0] [0,0,0] a)) _=_;rw [aw,SZ m S a h u r];cases G:m6 (S.drop (mkE S a)) with
 | inl k=>(refine ⟨_,?_,rfl⟩;rfl)
 | inr y=>
  obtain ⟨g,l,dg,x,s,k⟩:=y;have bk:mkE S a+k<=S.length:=by
   have:=(oa G).2.1;rw [cZ] at this;omega
  have b1:=jp bk;show ∃P:List Int,P.length=3/\ob (aw (aV (m+300)) (m+298+1) (rdSt S 1 g l dg (x:Int) (s:Int) [] [] [((mkE S a:Nat):Int),0,0] [((mkS (S.drop a):Nat):Int),0,0] [((mkS (S.drop (mkE S a+k)):Nat):Int),0,0] (mkE S (mkE S a+k)))) _=_;rw [aw,S9 m S g l dg x s _ _ _ _ b1 u r];simp only [];by_cases hc:0<s\/ec 45 (S.drop (mkE S (mkE S a+k)))=0
  ·rw [ae hc,ae hc];refine ⟨[0,0,0],rfl,?_⟩;simp only [ob,d4,d8,d16];rw [v];rfl
  ·rw [ab hc,ab hc];have H:¬0<s:=λz=>hc (.inl z);have C:=pG (λz=>hc (.inr z));have K:=jp C;unfold rd2;by_cases j:twoN (S.drop (mkE S (mkE S (mkE S a+k)+1)))<2
   ·rw [ae j,ae j];(refine ⟨_,?_,rfl⟩;rfl)
   ·rw [ab j,ab j];have b2:=sH j;have J:=jp b2;show ∃P:List Int,P.length=3/\ob (aw (aV (m+300)) (m+297+1) (rdSt S 2 g l dg (x:Int) (s:Int) _ [] [_,_,0] [_,_,0] [_,_,0] (mkE S (mkE S (mkE S (mkE S a+k)+1)+2)))) _=_;rw [aw,SQ m S g l dg x s _ _ _ _ _ _ _ _ J u r H];by_cases f:ec 45 (S.drop (mkE S (mkE S (mkE S (mkE S a+k)+1)+2)))=0
    ·rw [ae f,ae f];refine ⟨[0,0,0],rfl,?_⟩;simp only [ob,d4,d8,d16];rw [w];rfl
    ·rw [ab f,ab f];have o:=pG f;have F:=jp o;unfold rd3;by_cases n:twoN (S.drop (mkE S (mkE S (mkE S (mkE S (mkE S a+k)+1)+2)+1)))<2
     ·rw [ae n,ae n];(refine ⟨_,?_,rfl⟩;rfl)
     ·rw [ab n,ab n];have I:∀(E D:aa) (P A B:List Int) (p:Nat),aV (m+300) (rdSt S 3 g l dg (x:Int) (s:Int) E D P A B p)=some (.inr (.inl (3,false,false,[],0,0,[],[],0,0,0,[0,0,0],[],0,0,g,l,dg,(x:Int),(s:Int),E,D,0,0,0,P,A,B,S,(p:Int),0))):=λ_ _ _ _ _ _=>rfl;show ∃P:List Int,P.length=3/\ob (aw (aV (m+300)) (m+296+1) (rdSt S 3 g l dg (x:Int) (s:Int) _ _ _ _ _ _)) _=_;rw [aw,I];refine ⟨[0,0,0],rfl,?_⟩;simp only [ob,d4,d8,d16];rw [t];rfl
theorem xc (m:Nat) (S:aa) (a:Nat) (h:a<=S.length) (c:S.length<100000) (b:S.length<m+300):
  ∃P,eT (m+300) S (a:Int)=some (LO S P (kK S a)):=by
 obtain ⟨P,_,e⟩:=uc m S a h c b;exact ⟨P,e⟩
theorem OS (n a:Nat) (q:a<65536):∃d,jJ n (a:Int)=some d/\d.length=4/\∀c∈d,aT c=true:=by
 have o:Int.tmod (a:Int) 10000=((a%10000:Nat):Int):=rfl;have h:a%10000<10000:=qz _ (by decide);generalize a%10000=N at *;have p:Int.tdiv (N:Int) 1000=((N / 1000:Nat):Int):=rfl;have i:Int.tdiv (N:Int) 100=((N / 100:Nat):Int):=rfl;have k:Int.tdiv (N:Int) 10=((N / 10:Nat):Int):=rfl;have f:IntKind.wrap .u16 ((N / 1000:Nat):Int)=((N / 1000:Nat):Int):=s8 _ (by omega) (by omega);have l:IntKind.wrap .u16 ((N / 100:Nat):Int)=((N / 100:Nat):Int):=s8 _ (by omega) (by omega);have g:IntKind.wrap .u16 ((N / 10:Nat):Int)=((N / 10:Nat):Int):=s8 _ (by omega) (by omega);have m2:Int.tmod ((N / 100:Nat):Int) 10=((N / 100%10:Nat):Int):=rfl;have j:Int.tmod ((N / 10:Nat):Int) 10=((N / 10%10:Nat):Int):=rfl;have m:Int.tmod (N:Int) 10=((N%10:Nat):Int):=rfl;have s:∀r:Nat,r<10->IntKind.wrap .u16 ((r:Int)+1)=((r+1:Nat):Int):=λr e=>by rw [s8 _ (by omega) (by omega)];omega
 refine ⟨[UInt8.ofNat (48+N / 1000),UInt8.ofNat (48+N / 100%10),UInt8.ofNat (48+N / 10%10),UInt8.ofNat (48+N%10)],?_,rfl,?_⟩
 ·simp only [jJ,o,p,i,k,f,l,g,m2,j,m,s (N / 1000) (by omega),s (N / 100%10) (by omega),s (N / 10%10) (by omega),s (N%10) (by omega),ct (show N / 1000+1<=10 by omega),ct (show N / 1000<=N / 1000+1 by omega),ct (show N / 100%10+1<=10 by omega),ct (show N / 100%10<=N / 100%10+1 by omega),ct (show N / 10%10+1<=10 by omega),ct (show N / 10%10<=N / 10%10+1 by omega),ct (show N%10+1<=10 by omega),ct (show N%10<=N%10+1 by omega),ob,cutD (N / 1000) (by omega),cutD (N / 100%10) (by omega),cutD (N / 10%10) (by omega),cutD (N%10) (by omega)];rw [eZ (by simp)];simp only [];rw [eZ (by simp)];simp only [];rw [eZ (by simp)];rfl
 ·have b:∀r:Nat,r<10->aT (UInt8.ofNat (48+r))=true:=λr e=>(bH _).2 (by rw [kx e];omega);simp only [cq,nL,n8,yF,forall_eq];exact ⟨b _ (by omega),b _ (by omega),b _ (by omega),b _ (by omega)⟩
theorem uA (n:Nat) (g l:Bool) (d:aa) (x s:Int) (e:200<n) (c:d.length<=100) (h:okY false l d x s):∃b,(ob (ca n g l d x s) λr=>(cond (r==0) (some (false,l,d,x,s)) (some (g,l,d,x,s))))=some (b,l,d,x,s)/\okY b l d x s:=by
 rw [Aw n g l d x s e c];by_cases a:okY g l d x s
 ·rw [ae a];exact ⟨g,rfl,a⟩
 ·rw [ab a];exact ⟨false,rfl,h⟩
theorem vO {d:aa} {s:Int} (g:d.length=4) (b:∀c∈d,aT c=true\/c=88) (e:0<=s) (a:s<=4) (f:¬(0<s/\hasX d=true)):okY false false d 0 s:=by
 have:okS false d 0 s:=⟨g,b,rfl,by simp,e,a,f⟩;simpa [okY] using this
theorem PP (n:Nat) (a b:Int) (g:Bool) (d:aa) (C:d.length=4) (p:∀c∈d,aT c=true) (B:4<n):
  ∃s:aa,aw (e7 n) n (a,b,[],0,false,false,[],0,0,g,false,d,0,0)=some (s,false,false,[],0,0,g,false,d,0,0)/\s.length=4/\∀c∈s,aT c=true\/c=88:=by
 obtain ⟨y,A,s,u,w,m⟩:=mA (step:=e7 n) (λx=>∃(i:Nat) (s:aa),i<=4/\s.length=i/\(∀c∈s,aT c=true\/c=88)/\x=(a,b,s,(i:Int),false,false,[],0,0,g,false,d,0,0)) (λx=>4 - x.2.2.2.1.toNat) (λy=>∃s:aa,y=(s,false,false,[],0,0,g,false,d,0,0)/\s.length=4/\∀c∈s,aT c=true\/c=88) (by
  rintro x ⟨i,s,hi,l,hc,rfl⟩;rcases aF i 4 with j | z
  ·obtain ⟨c,f⟩:∃c,d[i]?=some c:=⟨d[i],bj (by omega)⟩;have r:decide ((i:Int)<4)=true:=am (by omega);have o:IntKind.wrap .i64 ((i:Int)+1)=((i+1:Nat):Int):=by rw [wrap_i64 _ (by omega) (by omega)];omega
   have next:∀e:UInt8,(aT e=true\/e=88)->∃h,some (Sum.inl (a,b,s++[e],((i+1:Nat):Int),false,false,([]:aa),(0:Int),(0:Int),g,false,d,(0:Int),(0:Int)))=some (Sum.inl (β:=aa×Bool×Bool×aa×Int×Int×Bool×Bool×aa×Int×Int) h)/\(∃(i:Nat) (s:aa),i<=4/\s.length=i/\(∀c∈s,aT c=true\/c=88)/\h=(a,b,s,(i:Int),false,false,[],0,0,g,false,d,0,0))/\4 - h.2.2.2.1.toNat<4 - i:=by
    intro e t;refine ⟨_,rfl,⟨i+1,s++[e],j,by simp [l],?_,rfl⟩,by simp only [bI];omega⟩;intro v k;rcases kL.1 k with q | q
    ·exact hc v q
    ·simp only [cq,nL,n8] at q;rw [q];exact t
   simp only [e7,r,aj,o,bI,ct (show i+1<=d.length by omega),ct (show i<=i+1 by omega),ob,cut1 f];rw [eZ (a:=s) (b:=[88]) (by simp;omega),eZ (a:=s) (b:=[c]) (by simp;omega)];simp only [];left;cases ((i:Int)==a)
   ·cases ((i:Int)==b)
    ·exact next c (.inl (p c (fD f)))
    ·exact next 88 (.inr rfl)
   ·exact next 88 (.inr rfl)
  ·have:i=4:=by omega
   subst this;exact .inr ⟨_,rfl,s,rfl,l,hc⟩) n (a,b,[],0,false,false,[],0,0,g,false,d,0,0) ⟨0,[],by omega,rfl,by simp,rfl⟩ (by simp;omega)
 exact ⟨s,by rw [A,u],w,m⟩
theorem cut9 (r:Nat) (h:r<9):List.drop r (List.take (r+1) ([49,50,51,52,53,54,55,56,57]:aa))=[UInt8.ofNat (49+r)]:=by
 have:∀r,r<9->List.drop r (List.take (r+1) ([49,50,51,52,53,54,55,56,57]:aa))=[UInt8.ofNat (49+r)]:=by decide
 exact this r h
theorem Dm {d:aa} {x s:Nat} (b:∀c∈d,aT c=true) (h:1<=d.length) (m:d.length<=5) (f:d.head?≠some 48) (k:x<=11) (g:x=0->d.length=5) (o:s<=d.length+x):okY false true d (x:Int) (s:Int):=by
 have a:=o8 d 0 0 b (by simp);have j:(10:Nat) ^ (d.length+0)<=10 ^ 5:=jG (by decide) (by omega);have i:(10:Nat) ^ x<=10 ^ 11:=jG (by decide) k;have n:=ue (Nat.le_of_lt (l9 a j)) i;have e:(10:Nat) ^ 5*10 ^ 11=E16:=by decide
 have:okL d (x:Int) (s:Int):=⟨⟨b,h,by omega,f,by omega,by omega,by rintro ⟨l,p⟩;have:=g (by omega);omega,by simp only [bI];omega⟩,by omega,by omega⟩;simpa [okY] using this
theorem OF (m a0 a2 a b:Nat) (g:Bool) (h2:a2<65536) (Y:a<256) (h4:b<256):∃f l d x s,ij (m+300) (a0:Int) g (a2:Int) (a:Int) (b:Int)=some (f,l,d,x,s)/\okY f l d x s/\d.length<=5/\x<=11/\(a0%6≠3->hasX d=false):=by
 obtain ⟨d,H,k,j⟩:=OS (m+300) a2 h2;have z:∀c∈d,aT c=true\/c=88:=λc hc=>.inl (j c hc);have p:=qZ j;unfold ij;rw [H];simp only [ob];cases P:(Int.tmod (a0:Int) 6==3) with
 | true=>
  simp only [aj];obtain ⟨s,F,M,Q⟩:=PP (m+300) (IntKind.wrap .i64 (Int.tmod (a:Int) 4)) (IntKind.wrap .i64 (Int.tmod (b:Int) 4)) g d k j (by omega);rw [F];obtain ⟨f,i,h⟩:=uA (m+300) g false s 0 0 (by omega) (by omega) (vO M Q (by omega) (by omega) (by omega))
  exact ⟨f,false,s,0,0,i,h,by omega,by omega,λY=>absurd (by
   have e:=bg.1 P;have e2:Int.tmod (a0:Int) 6=((a0%6:Nat):Int):=rfl;omega) Y⟩
 | false=>
  simp only [af];cases (Int.tmod (a0:Int) 6==4) with
  | true=>
   simp only [aj];have e:Int.tmod (a:Int) 4=((a%4:Nat):Int):=rfl;have w1:IntKind.wrap .i64 ((a%4:Nat):Int)=((a%4:Nat):Int):=wrap_i64 _ (by omega) (by omega);have w2:IntKind.wrap .i64 (1+((a%4:Nat):Int))=((1+a%4:Nat):Int):=by rw [wrap_i64 _ (by omega) (by omega)];omega
   rw [e,w1,w2];obtain ⟨f,i,h⟩:=uA (m+300) g false d 0 ((1+a%4:Nat):Int) (by omega) (by omega) (vO k z (by omega) (by omega) (by rw [p];simp));exact ⟨f,false,d,0,_,i,h,by omega,by omega,λ_=>p⟩
  | false=>
   simp only [af];cases (Int.tmod (a0:Int) 6==5) with
   | false=>
    simp only [af];obtain ⟨f,i,h⟩:=uA (m+300) g false d 0 0 (by omega) (by omega) (vO k z (by omega) (by omega) (by omega));exact ⟨f,false,d,0,0,i,h,by omega,by omega,λ_=>p⟩
   | true=>
    simp only [aj];have e9:Int.tmod (a:Int) 9=((a%9:Nat):Int):=rfl;have w9:IntKind.wrap .u8 (((a%9:Nat):Int)+1)=((a%9+1:Nat):Int):=by rw [ig _ (by omega) (by omega)];omega
    have e3:Int.tmod (b:Int) 3=((b%3:Nat):Int):=rfl;have Z:Int.tmod (b:Int) 5=((b%5:Nat):Int):=rfl;have w5:IntKind.wrap .u8 (1+((b%5:Nat):Int))=((1+b%5:Nat):Int):=by rw [ig _ (by omega) (by omega)];omega
    have G:Int.tdiv (b:Int) 16=((b / 16:Nat):Int):=rfl;have N:IntKind.wrap .u8 ((b / 16:Nat):Int)=((b / 16:Nat):Int):=ig _ (by omega) (by omega);have J:Int.tmod ((b / 16:Nat):Int) 11=((b / 16%11:Nat):Int):=rfl;have K:IntKind.wrap .i64 ((b / 16%11:Nat):Int)=((b / 16%11:Nat):Int):=wrap_i64 _ (by omega) (by omega);have W:IntKind.wrap .i64 (1+((b / 16%11:Nat):Int))=((1+b / 16%11:Nat):Int):=by rw [wrap_i64 _ (by omega) (by omega)];omega
    have V:Int.tdiv (a:Int) 16=((a / 16:Nat):Int):=rfl;have I:IntKind.wrap .u8 ((a / 16:Nat):Int)=((a / 16:Nat):Int):=ig _ (by omega) (by omega);have R:IntKind.wrap .i64 ((a / 16:Nat):Int)=((a / 16:Nat):Int):=wrap_i64 _ (by omega) (by omega);have C:UInt8.ofNat (49+a%9)≠48:=by
     intro q;have:=cK UInt8.toNat q;rw [show 49+a%9=48+(1+a%9) by omega,kx (by omega)] at this;exact absurd this (by show ¬48+(1+a%9)=48;omega)
    have n:aT (UInt8.ofNat (49+a%9))=true:=(bH _).2 (by rw [show 49+a%9=48+(1+a%9) by omega,kx (by omega)];omega);rw [e9,w9,ct (show a%9+1<=9 by omega)];simp only [];rw [ct (show a%9<=a%9+1 by omega)];simp only [];rw [cut9 (a%9) (by omega),eZ (by simp;omega)];simp only [];generalize U:[UInt8.ofNat (49+a%9)]++d=D;have w:D.length=5:=by rw [<-U];simp [k]
    have t:∀c∈D,aT c=true:=by
     rw [<-U];intro c hc;simp only [dY,ek,cq] at hc;rcases hc with rfl | hc
     ·exact n
     ·exact j c hc
    have A:D.head?≠some 48:=by rw [<-U];simpa using C
    rw [e3,Z,w5,G,N,J,K,W,V,I,R];by_cases h33:0<b%3
    ·have B:decide (((b%3:Nat):Int)>0)=true:=am (by omega);rw [B,aj,ct (show 1+b%5<=D.length by omega)];simp only [cP];generalize O:List.take (1+b%5) D=E;have hEl:E.length=1+b%5:=by rw [<-O,cN];omega
     have y:∀c∈E,aT c=true:=by rw [<-O];exact λc hc=>t c (List.mem_of_mem_take hc)
     have T:E.head?≠some 48:=by
      rw [<-O];cases D with
      | nil=>simp at w
      | cons c r=>rw [nB,mg];simpa using A
     generalize hX:1+b / 16%11=X;have v:X<=11:=by omega
     have hX1:1<=X:=by omega
     have S:IntKind.wrap .i64 (IntKind.wrap .i64 (((E.length:Nat):Int)+((X:Nat):Int))+1)=((E.length+X+1:Nat):Int):=by
      rw [wrap_i64 (((E.length:Nat):Int)+((X:Nat):Int)) (by omega) (by omega),wrap_i64 _ (by omega) (by omega)];omega
     have u:(((E.length+X+1:Nat):Int)==0)=false:=aM.2 (by omega);rw [S,u,af];have L:Int.tmod ((a / 16:Nat):Int) ((E.length+X+1:Nat):Int)=((a / 16%(E.length+X+1):Nat):Int):=rfl;rw [L];have o:a / 16%(E.length+X+1)<E.length+X+1:=qz _ (by omega);generalize a / 16%(E.length+X+1)=s at o ⊢;obtain ⟨f,i,h⟩:=uA (m+300) g true E ((X:Nat):Int) ((s:Nat):Int) (by omega) (by omega) (Dm y (by omega) (by omega) T v (by omega) (by omega));exact ⟨f,true,E,_,_,i,h,by omega,by omega,λ_=>qZ y⟩
    ·have B:decide (((b%3:Nat):Int)>0)=false:=ar (by omega);rw [B,af,w];have S:IntKind.wrap .i64 (IntKind.wrap .i64 (((5:Nat):Int)+0)+1)=((6:Nat):Int):=by decide
     have u:(((6:Nat):Int)==0)=false:=rfl;rw [S,u,af];have L:Int.tmod ((a / 16:Nat):Int) ((6:Nat):Int)=((a / 16%6:Nat):Int):=rfl;rw [L];have o:a / 16%6<6:=qz _ (by omega);generalize a / 16%6=s at o ⊢;obtain ⟨f,i,h⟩:=uA (m+300) g true D ((0:Nat):Int) ((s:Nat):Int) (by omega) (by omega) (Dm t (by omega) (by omega) A (by omega) (by omega) (by omega));exact ⟨f,true,D,_,_,i,h,by omega,by omega,λ_=>qZ t⟩
theorem Qs (m a0 a2 b c:Nat) (g:Bool) (f:a2<65536) (j:b<256) (i:c<256):∃a l d x s,ij (m+300) (a0:Int) g (a2:Int) (b:Int) (c:Int)=some (a,l,d,x,s)/\okY a l d x s/\d.length<=5/\x<=11:=by
 obtain ⟨a,l,d,x,s,e,h,k,f,_⟩:=OF m a0 a2 b c g f j i;exact ⟨a,l,d,x,s,e,h,k,f⟩
theorem uv {g l:Bool} {d:aa} {x s:Nat} (h:okY g l d (x:Int) (s:Int)):(jH g l d (x:Int) (s:Int)).length<=25:=by
 have f:=ir h;have e:=vf 69 (show x<100 by omega);have b:=vf 83 (show s<100 by omega);rw [jb];simp only [bV];have a:(if l=true then ([89]:aa) else []).length<=1:=by split<;>simp
 have c:(if g=true then ([45]:aa) else []).length<=1:=by split<;>simp
 omega
end Go.Sh
