
import Derived.Laws.RangeString
import Derived.Laws.RangeAny
import Derived.Test.YtadejcglcffgbacGreatDoorShF
import Derived.Lib.IndexLaws
import Derived.Lib.ItoaLen
import Derived.Test.YtadejcglcffgbacGreatDoorAbsZ
set_option linter.unusedVariables false
set_option linter.unusedSimpArgs false
set_option maxRecDepth 100000
open Go.IntKind(wrap)
set_option linter.defProp false
namespace Go.Sh
open Go.Abs
def eZ{X Y:Type}{step:X->Option (X⊕Y)}(I:X->Prop)(b:X->Nat)(G:X->Y)
  (h:∀x,I x->(∃a,step x=some (.inl a)/\I a/\b a<b x/\G a=G x)\/step x=some (.inr (G x))):
  ∀(n:Nat) (x:X),I x->b x<n->au step n x=some (G x)
 | 0,x,_,hm=>by omega
 | n+1,x,d,hm=>by
  rcases h x d with⟨a,h1,h2,e,c⟩ | h1
  ·simp only[au,h1];rw[eZ I b G h n a h2 (by omega),c]
  ·simp only[au,h1]
def kV{X Y:Type}{step:X->Option (X⊕Y)}(I:X->Prop)(b:X->Nat)(Q:Y->Prop)
  (h:∀x,I x->(∃a,step x=some (.inl a)/\I a/\b a<b x)\/∃y,step x=some (.inr y)/\Q y):
  ∀(n:Nat) (x:X),I x->b x<n->∃y,au step n x=some y/\Q y
 | 0,x,_,hm=>by omega
 | n+1,x,c,hm=>by
  rcases h x c with⟨a,h1,h2,d⟩ | ⟨y,h1,h2⟩
  ·simp only[au,h1];exact kV I b Q h n a h2 (by omega)
  ·exact⟨y,by simp only[au,h1],h2⟩
def vL(x:Int):0<=wrap .u8 x/\wrap .u8 x<256:=by
 show 0<=x%256/\x%256<256;omega
def gO(x:Int)(h0:0<=x)(h1:x<256):wrap .u8 x=x:=by
 show x%256=x;omega
def Cf(x:Int):wrap .u8 x=x%256:=rfl
def wrap_i64(x:Int)(h0:-9223372036854775808<=x)(h1:x<9223372036854775808):wrap .i64 x=x:=by
 simp only[wrap,IntKind.signed,IntKind.bits];simp;omega
def kD{l:aa}{i:Nat}{c:UInt8}(h:l[i]?=some c):sx l (i:Int)=some c:=by
 simp[sx,h]
def ef{n i:Nat}(h:i<n):ix n (i:Int)=some i:=by
 simp[ix];omega
def ge{n i:Nat}(h:i<=n):bx n (i:Int)=some i:=by
 simp[bx];omega
def vU{l:aa}{i:Nat}{c:UInt8}(h:l[i]?=some c)(hc:c.toNat<128):dec l i=(c.toNat,1):=by
 have hlt:i<l.length:=by
  rcases aA i l.length with h' | h'
  ·exact h'
  ·rw[ec h']at h;cases h
 have hs:i<(ByteArray.mk l.toArray).size:=hlt;have hg:(ByteArray.mk l.toArray)[i]'hs=c:=by
  rw[bN hlt]at h;simp only[af]at h;exact h
 unfold dec;rw[decode_ascii _ i hs (by rw[hg];exact hc),hg]
def AZ{l:aa}{i:Nat}{c:UInt8}(h:l[i]?=some c)(hc:128<=c.toNat):128<=(dec l i).1/\1<=(dec l i).2:=by
 have hlt:i<l.length:=by
  rcases aA i l.length with h' | h'
  ·exact h'
  ·rw[ec h']at h;cases h
 have hs:i<(ByteArray.mk l.toArray).size:=hlt;have hg:(ByteArray.mk l.toArray)[i]'hs=c:=by
  rw[bN hlt]at h;simp only[af]at h;exact h
 unfold dec;exact decode_high _ i hs (by rw[hg];exact hc)
def sP{α:Type}{l:List α}{i:Nat}{c:α}(h:l[i]?=some c):i<l.length:=by
 rcases aA i l.length with a | a
 ·exact a
 ·rw[ec a]at h;cases h
def gE{α:Type}{l:List α}{i:Nat}{c:α}(h:l[i]?=some c):l.drop i=c::l.drop (i+1):=by
 have a:=sP h;rw[bN a]at h;simp only[af]at h;rw[<-h,sw a]
def jd{α β:Type}[BEq α][LawfulBEq α][DecidableEq α](a b:α)(x y:β):(cond (a==b) x y)=if a=b then x else y:=by
 by_cases h:a=b
 ·subst h;simp
 ·rw[bA.2 h];simp[h]
def zM{α β:Type}[BEq α][LawfulBEq α][DecidableEq α](a b:α)(x y:β):(cond (a != b) x y)=if a=b then y else x:=by
 by_cases h:a=b
 ·subst h;simp
 ·rw[bne,bA.2 h];simp[h]
def aY{β:Type}(p:Prop)[Decidable p](x y:β):(cond (decide p) x y)=if p then x else y:=by
 by_cases h:p<;>simp[h]
def G2{β:Type}(b:Bool)(x y:β):(cond (!b) x y)=cond b y x:=by cases b<;>rfl
def jU(a b:Nat):(decide (((a:Nat):Int)<((b:Nat):Int)))=decide (a<b):=by
 by_cases h:a<b<;>simp[h]
def I2(c d:UInt8):((((c.toNat:Nat):Int))==((d.toNat:Nat):Int))=(c==d):=by
 by_cases h:c=d
 ·subst h;simp
 ·have h1:c.toNat≠d.toNat:=λe=>h (iW.1 e);have h2:((c.toNat:Nat):Int)≠((d.toNat:Nat):Int):=by omega
  rw[bA.2 h2,bA.2 h]
def N2(c:UInt8):UInt8.ofNat (Int.toNat ((c.toNat:Nat):Int))=c:=by simp
def two(c:Nat):aa:=[UInt8.ofNat (48+c / 10),UInt8.ofNat (48+c%10)]
def sea(m:aa):Int:=match(List.range 21).find? (λj=>m==two (21+j))with | some j=>((21+j:Nat):Int) | none=>0
def pR{j:Nat}(a:j<21):sea (two (21+j))=((21+j:Nat):Int):=by
 have:((List.range 21).all λj=>sea (two (21+j))==((21+j:Nat):Int))=true:=by decide +kernel
 simpa using(List.all_eq_true.1 this) j (by simpa using a)
def k9(m:aa):sea m=0\/∃j,j<21/\m=two (21+j):=by
 unfold sea;split
 ·rename_i j h;have h1:=List.find?_some h;have h2:=C6 h;exact .inr ⟨j,by simpa using h2,by simpa using h1⟩
 ·exact .inl rfl
def lA{b:UInt8}{d:Nat}(h:Lib.digitVal b=some d):d<10/\b.toNat=48+d:=by
 unfold Lib.digitVal at h;split at h
 ·cases h;omega
 ·cases h
def HF{a b:UInt8}{v:Int}(h:Lib.atoi [a,b]=some v)(h1:21<=v)(h2:v<42):∃j,j<21/\[a,b]=two (21+j)/\v=((21+j:Nat):Int):=by
 obtain⟨q,r,e,o⟩:=Lib.atoi_cases h;cases e;rcases o with⟨_,m,_,_,i⟩ | ⟨_,m,_,c,i⟩ | ⟨_,_,m,c,i⟩
 ·omega
 ·simp only[Lib.decFrom]at c;split at c
  ·rename_i d g;have:=(lA g).1;simp only[af]at c;omega
  ·cases c
 ·simp only[Lib.decFrom]at c;split at c
  ·rename_i d g;split at c
   ·rename_i d' f;obtain⟨k1,k2⟩:=lA g;obtain⟨p,n⟩:=lA f;simp only[af]at c;refine⟨m - 21,by omega,?_,by omega⟩;have l:(21+(m - 21)) / 10=d:=by omega
    have k:(21+(m - 21))%10=d':=by omega
    unfold two;rw[l,k,<-k2,<-n];simp
   ·cases c
  ·cases c
def yC{j:Nat}(a:j<21):Lib.atoi (two (21+j))=some ((21+j:Nat):Int):=by
 have:((List.range 21).all λj=>Lib.atoi (two (21+j))==some ((21+j:Nat):Int))=true:=by decide +kernel
 simpa using(List.all_eq_true.1 this) j (by simpa using a)
def sa(n:Nat)(g l:Bool)(dg:aa)(x q:Int)(m d:aa)(k0 k1 k2:Int)(hm:m.length<=18):aU n g l dg x q m d k0 k1 k2=some (sea m,decide (0<sea m)):=by
 have f:Nat.ble m.length 18=true:=dA hm;rcases k9 m with h0 | ⟨j,c,rfl⟩
 ·unfold aU;rw[f,h0];show opt (Lib.atoi m) _ _=_;cases i:Lib.atoi m with
  | none=>rfl
  | some v=>
   show cond _ _ _=_;by_cases h:m.length=2
   ·rw[h];obtain⟨a,b,rfl⟩:∃a b,m=[a,b]:=by
     match m,h with
     | [a,b],_=>exact⟨a,b,rfl⟩
    show ob (cH n v) _=_;unfold cH;rw[aY,aY];split
    ·rfl
    ·split
     ·rfl
     ·exfalso;obtain⟨j,c,e,_⟩:=HF i (by omega) (by omega);rw[e,pR c]at h0;omega
   ·rw[show(((m.length:Nat):Int) != 2)=true by simp;omega];rfl
 ·rw[pR c];have e:aU n g l dg x q (two (21+j)) d k0 k1 k2=some (((21+j:Nat):Int),true):=by
   unfold aU;rw[f,yC c];show ob (cH n ((21+j:Nat):Int)) _=_;unfold cH;rw[aY,aY,ab (by omega),ab (by omega)];rfl
  rw[e];have:decide (0<((21+j:Nat):Int))=true:=by simp;omega
  rw[this]
def IE(n:Nat){c:Nat}(hc:c<100):aL n (c:Int)=some (two c):=by
 have e:Int.tdiv (c:Int) 10=((c / 10:Nat):Int):=by
  rw[show(10:Int)=((10:Nat):Int)from rfl,<-Int.ofNat_tdiv]
 have d:Int.tmod (c:Int) 10=((c%10:Nat):Int):=by
  rw[show(10:Int)=((10:Nat):Int)from rfl,<-Int.ofNat_tmod]
 have h1:c / 10<10:=by omega
 have h2:c%10<10:=by omega
 unfold aL;rw[e,d];have h:wrap .i64 ((c / 10:Nat):Int)=((c / 10:Nat):Int):=wrap_i64 _ (by omega) (by omega);have f:wrap .i64 (((c / 10:Nat):Int)+1)=((c / 10+1:Nat):Int):=by rw[wrap_i64 _ (by omega) (by omega)];omega
 have g:wrap .i64 (((c%10:Nat):Int)+1)=((c%10+1:Nat):Int):=by rw[wrap_i64 _ (by omega) (by omega)];omega
 rw[h,f,g,ge (by omega),ge (by omega)];show ob (bx (c / 10+1) ((c / 10:Nat):Int)) _=_;rw[ge (by omega)];show ob (bx (c%10+1) ((c%10:Nat):Int)) _=_;rw[ge (by omega)];unfold two;generalize c / 10=a at *;generalize c%10=b at *;have:((List.range 10).all λa=>(List.range 10).all λb=>ob (cat (List.drop a (List.take (a+1) ([48,49,50,51,52,53,54,55,56,57]:aa))) (List.drop b (List.take (b+1) ([48,49,50,51,52,53,54,55,56,57]:aa)))) (λs=>some s)==some [UInt8.ofNat (48+a),UInt8.ofNat (48+b)])=true:=by decide +kernel
 have i:=(ct.1 ((ct.1 this) a (by simpa using h1))) b (by simpa using h2);simpa using i
def Ib{m:aa}(h:∀j,j<21->m≠two (21+j)):sea m=0:=by
 rcases k9 m with h0 | ⟨j,a,e⟩
 ·exact h0
 ·exact absurd e (h j a)
def sd(n:Nat)(g l:Bool)(dg:aa)(x q:Int)(m d:aa)(k0 k1 k2:Int):∀(r j:Nat),j+r=21->(∀i,i<j->m≠two (21+i))->∀N,r<N->
  au (aZ n) N (((21+j:Nat):Int),g,l,dg,x,q,m,d,k0,k1,k2)=some (if sea m=0 then .inr ()else .inl (sea m)):=by
 intro r
 induction r with
 | zero=>
  intro j e a N c;obtain⟨N,rfl⟩:∃k,N=k+1:=⟨N - 1,by omega⟩;have b:sea m=0:=Ib (λi hi=>a i (by omega));rw[au];have:aZ n (((21+j:Nat):Int),g,l,dg,x,q,m,d,k0,k1,k2)=some (.inr (.inr ())):=by
   unfold aZ;rw[aY,ab (by show¬(((21+j:Nat):Int)<=41);omega)]
  rw[this,ad b]
 | succ r ih=>
  intro j e a N c;obtain⟨N,rfl⟩:∃k,N=k+1:=⟨N - 1,by omega⟩;rw[au];by_cases hm:m=two (21+j)
  ·have b:sea m=((21+j:Nat):Int):=by rw[hm];exact pR (by omega)
   have:aZ n (((21+j:Nat):Int),g,l,dg,x,q,m,d,k0,k1,k2)=some (.inr (.inl ((21+j:Nat):Int))):=by
    unfold aZ;rw[aY,ad (by show((21+j:Nat):Int)<=41;omega)];show ob (aL n ((21+j:Nat):Int)) _=_;rw[IE n (by omega)];show cond (m==two (21+j)) _ _=_;rw[jd,ad hm]
   rw[this,b,ab (by omega)]
  ·have:aZ n (((21+j:Nat):Int),g,l,dg,x,q,m,d,k0,k1,k2)=some (.inl (((21+(j+1):Nat):Int),g,l,dg,x,q,m,d,k0,k1,k2)):=by
    unfold aZ;rw[aY,ad (by show((21+j:Nat):Int)<=41;omega)];show ob (aL n ((21+j:Nat):Int)) _=_;rw[IE n (by omega)];show cond (m==two (21+j)) _ _=_;rw[jd,ab hm];have:wrap .i64 (((21+j:Nat):Int)+1)=((21+(j+1):Nat):Int):=by rw[wrap_i64 _ (by omega) (by omega)];omega
    show some (Sum.inl (wrap .i64 (((21+j:Nat):Int)+1),_))=_;rw[this]
   rw[this]
   exact ih (j+1) (by omega) (λi hi=>by
    rcases aA i j with h | h
    ·exact a i h
    ·have:i=j:=by omega
     rw[this];exact hm) N (by omega)
def CP(n:Nat)(a:100<n)(g l:Bool)(dg:aa)(x q:Int)(m d:aa)(k0 k1 k2:Int):eA n g l dg x q m d k0 k1 k2=some (sea m):=by
 unfold eA;have:=sd n g l dg x q m d k0 k1 k2 21 0 rfl (λi hi=>absurd hi (by omega)) n (by omega);rw[show((21+0:Nat):Int)=21 from rfl]at this;rw[this];by_cases h:sea m=0
 ·rw[ad h,h];rfl
 ·rw[ab h];rfl
def agr(s:aa)(k:Nat):Bool:=match s with
 | [a,b]=>(a==88||a==UInt8.ofNat (48+k / 10))&&(b==88||b==UInt8.ofNat (48+k%10))
 | _=>false
def eF(s:aa)(g:Nat):Bool:=(List.range g).any λi=>agr s (i+1)
def HZ{X Y:Type}{step:X->Option (X⊕Y)}{f:Nat->X}{p:Nat->Bool}{g:Nat}{a c:Y}(h:∀k,1<=k->k<=g->step (f k)=some (if p k then .inr a else .inl (f (k+1))))(m:step (f (g+1))=some (.inr c)){N:Nat}(d:g<N):
  au step N (f 1)=some (if(List.range g).any (λi=>p (i+1))then a else c):=by
 have n:∀(r j:Nat),j+r=g->(∀i,i<j->p (i+1)=false)->∀N,r<N->au step N (f (j+1))=some (if(List.range g).any (λi=>p (i+1))then a else c):=by
  intro r
  induction r with
  | zero=>
   intro j l b N d;obtain⟨N,rfl⟩:∃k,N=k+1:=⟨N - 1,by omega⟩;have:(List.range g).any (λi=>p (i+1))=false:=by
    rw[qM];intro i hi;rw[b i (by have:=iN.1 hi;omega)];simp
   rw[au,show j+1=g+1 by omega,m,this];rfl
  | succ r ih=>
   intro j l b N d;obtain⟨N,rfl⟩:∃k,N=k+1:=⟨N - 1,by omega⟩;rw[au,h (j+1) (by omega) (by omega)];cases e:p (j+1)with
   | true=>
    have:(List.range g).any (λi=>p (i+1))=true:=mf.2 ⟨j,iN.2 (by omega),e⟩;rw[this];rfl
   | false=>
    exact ih (j+1) (by omega) (λi hi=>by
     rcases aA i j with h | h
     ·exact b i h
     ·have:i=j:=by omega
      rw[this];exact e) N (by omega)
 exact n g 0 (by omega) (λi hi=>absurd hi (by omega)) N d
def uS{a:UInt8}{k:Nat}(b:k<256):((((a.toNat:Nat):Int))==((k:Nat):Int))=(a==UInt8.ofNat k):=by
 have h:(UInt8.ofNat k).toNat=k:=by simp;omega
 rw[<-I2,h]
def Im(n:Nat)(a b:UInt8){g k:Nat}(h1:1<=k)(h2:k<=g)(q:g<=31):
  bP n ([a,b],(g:Int),(k:Int))=some (if agr [a,b] k then .inr (.inl true)else .inl ([a,b],(g:Int),((k+1:Nat):Int))):=by
 have e:Int.tdiv (k:Int) 10=((k / 10:Nat):Int):=by
  rw[show(10:Int)=((10:Nat):Int)from rfl,<-Int.ofNat_tdiv]
 have d:Int.tmod (k:Int) 10=((k%10:Nat):Int):=by
  rw[show(10:Int)=((10:Nat):Int)from rfl,<-Int.ofNat_tmod]
 have p:wrap .u8 (48+wrap .u8 (wrap .i64 (Int.tdiv (k:Int) 10)))=((48+k / 10:Nat):Int):=by
  rw[e,wrap_i64 _ (by omega) (by omega),gO ((k / 10:Nat):Int) (by omega) (by omega),gO _ (by omega) (by omega)];omega
 have h:wrap .u8 (48+wrap .u8 (Int.tmod (k:Int) 10))=((48+k%10:Nat):Int):=by
  rw[d,gO ((k%10:Nat):Int) (by omega) (by omega),gO _ (by omega) (by omega)];omega
 have j:wrap .i64 ((k:Int)+1)=((k+1:Nat):Int):=by rw[wrap_i64 _ (by omega) (by omega)];omega
 have c:(88:Int)=((88:Nat):Int):=rfl;have s0:sx [a,b] 0=some a:=rfl;have l:sx [a,b] 1=some b:=rfl;unfold bP;rw[aY,ad (show(k:Int)<=(g:Int)by omega)];simp only[s0,l,ob,p,h,j];rw[c,uS (by omega),uS (by omega),uS (by omega),uS (by omega)];show _=some (if((a==UInt8.ofNat 88||a==UInt8.ofNat (48+k / 10))&&(b==UInt8.ofNat 88||b==UInt8.ofNat (48+k%10)))=true then _ else _);generalize(a==UInt8.ofNat 88)=m;generalize(b==UInt8.ofNat 88)=f;generalize(a==UInt8.ofNat (48+k / 10))=i;generalize(b==UInt8.ofNat (48+k%10))=o;cases m<;>cases f<;>cases i<;>cases o<;>rfl
def yj(n:Nat)(j:100<n)(s:aa)(g:Nat)(e:g<=31):bM n s (g:Int)=some (eF s g):=by
 unfold bM;by_cases c:s.length=2
 ·obtain⟨a,b,rfl⟩:∃a b,s=[a,b]:=by
   match s,c with
   | [a,b],_=>exact⟨a,b,rfl⟩
  have d:bP n ([a,b],(g:Int),((g+1:Nat):Int))=some (.inr (.inr ())):=by
   unfold bP;rw[aY,ab (show¬((g+1:Nat):Int)<=(g:Int)by omega)]
  have:=HZ (f:=λk=>([a,b],(g:Int),((k:Nat):Int))) (p:=agr [a,b]) (g:=g) (N:=n) (λk h1 h2=>Im n a b h1 h2 e) d (by omega);show ob (au (bP n) n ([a,b],(g:Int),((1:Nat):Int))) _=_;rw[this];unfold eF;split<;>simp_all[ob]
 ·rw[show(((s.length:Nat):Int) != 2)=true by simp;omega];have:eF s g=false:=by
   unfold eF;rw[qM];intro i _
   match s,c with
   | [],_=>simp[agr]
   | [_],_=>simp[agr]
   | [_,_],h=>exact absurd rfl h
   | _::_::_::_,_=>simp[agr]
  rw[this];rfl
def qG(n:Nat){a b:Int}(s:1<b)(p:b<1000000)(t:-4611686018427387904<=a)(m:a<4611686018427387904):iv n a b=some (a / b,0):=by
 have o:(b==0)=false:=by simp;omega
 have i:(b==-1)=false:=by simp;omega
 unfold iv;simp only[o,i,ae];have u:a / b*b+a%b=a:=Int.ediv_mul_add_emod a b;have r:=Int.emod_nonneg a (show b≠0 by omega);have j:=Int.emod_lt_of_pos a (show 0<b by omega);have k:-4611686018427387904<=a / b:=by
  rw[Int.le_ediv_iff_mul_le (by omega)];have:(-4611686018427387904:Int)*b<=-4611686018427387904*1:=Int.mul_le_mul_of_nonpos_left (by omega) (by omega);omega
 have q:a / b<4611686018427387904:=by
  rw[Int.ediv_lt_iff_lt_mul (by omega)];have:(4611686018427387904:Int)*1<=4611686018427387904*b:=Int.mul_le_mul_of_nonneg_left (by omega) (by omega);omega
 by_cases h0:0<=a
 ·have d:Int.tdiv a b=a / b:=I6 h0;have e:decide (a<0)=false:=by simp;omega
  have d2:decide (b<0)=false:=by simp;omega
  rw[d,e,d2,wrap_i64 (a / b) (by omega) (by omega)];cases(Int.tmod a b != 0)<;>rfl
 ·have e:decide (a<0)=true:=by simp;omega
  have d2:decide (b<0)=false:=by simp;omega
  have d:=Int.tdiv_eq_ediv (a:=a) (b:=b);have f:=Int.tmod_eq_emod (a:=a) (b:=b);rw[e,d2];by_cases c:b∣a
  ·have hm:Int.tmod a b=0:=by
    rw[f,ad (.inr c)];have:=Int.emod_eq_zero_of_dvd c;omega
   rw[hm,d,ad (.inr c)];rw[Int.add_zero,wrap_i64 (a / b) (by omega) (by omega)];rfl
  ·have l:a%b≠0:=λh=>c (IU h);have hm:(Int.tmod a b != 0)=true:=by
    rw[f,ab (by rintro(h | h);exact h0 h;exact c h)];simp;omega
   have g:b.sign=1:=Int.sign_eq_one_of_pos (by omega);rw[hm,d,ab (by rintro(h | h);exact h0 h;exact c h),g];rw[wrap_i64 (a / b+1) (by omega) (by omega),Int.add_sub_cancel,wrap_i64 (a / b) (by omega) (by omega)];rfl
def Iw(n:Nat){a b:Int}(m:1<b)(k:b<1000000):oY n a b=some (a%b,0):=by
 have i:(b==0)=false:=by simp;omega
 have e:(b==-1)=false:=by simp;omega
 unfold oY;simp only[i,e,ae];have l:=Int.emod_nonneg a (show b≠0 by omega);have f:=Int.emod_lt_of_pos a (show 0<b by omega);have c:=Int.tmod_eq_emod (a:=a) (b:=b);have d2:decide (b<0)=false:=by simp;omega
 by_cases hc:0<=a\/b∣a
 ·rw[ad hc]at c;have:Int.tmod a b=a%b:=by omega
  rw[this,d2];have d:decide (a%b<0)=false:=by simp;omega
  rw[d];cases h:(a%b != 0)
  ·rfl
  ·rfl
 ·rw[ab hc]at c;have g:(b.natAbs:Int)=b:=by omega
  rw[g]at c;have j:a%b≠0:=λh=>hc (.inr (IU h));have hm:(Int.tmod a b != 0)=true:=by simp;omega
  have d:decide (Int.tmod a b<0)=true:=by simp;omega
  rw[hm,d,d2,c,wrap_i64 _ (by omega) (by omega),EB];rfl
def bU(y:Int):Prop:=-10000000000000000<=y/\y<=10000000000000000
instance (y:Int):Decidable (bU y):=by unfold bU;infer_instance
def dW(n:Nat)(y:Int):eP n y=some (if bU y then 0 else 6):=by
 unfold eP;rw[aY,aY];by_cases h1:y < -10000000000000000
 ·rw[ad h1,ab (show¬bU y by unfold bU;omega)]
 ·by_cases h2:y>10000000000000000
  ·rw[ab h1,ad h2,ab (show¬bU y by unfold bU;omega)]
  ·rw[ab h1,ab h2,ad (show bU y by unfold bU;omega)]
def oy(n:Nat){y:Int}(h:-20000000000000000<=y/\y<=20000000000000000):∃z,dq n y=some z:=by
 unfold dq;rw[wrap_i64 (y - 1) (by omega) (by omega),qG n (by omega) (by omega) (by omega) (by omega),qG n (by omega) (by omega) (by omega) (by omega),qG n (by omega) (by omega) (by omega) (by omega)];exact⟨_,rfl⟩
def F9(n:Nat){y:Int}(h:bU y):∃b e,gS n y=some (b,e):=by
 unfold gS;have h':=h;unfold bU at h';obtain⟨z1,c⟩:=oy n (y:=y+1) (by omega);obtain⟨z2,a⟩:=oy n (y:=y) (by omega);rw[dW,ad h,wrap_i64 (y+1) (by omega) (by omega),c,a];exact⟨_,_,rfl⟩
def n9(n:Nat){y:Int}(h:bU y){m:Nat}(h1:1<=m)(h2:m<=12):∃v,cf n y (m:Int)=some v:=by
 unfold cf;obtain⟨b,e,a⟩:=F9 n h;rw[a];show ∃v,cond (b&&((m:Int)==2)) _ _=some v;cases(b&&((m:Int)==2))with
 | true=>exact⟨_,rfl⟩
 | false=>
  have:wrap .i64 ((m:Int) - 1)=((m - 1:Nat):Int):=by rw[wrap_i64 _ (by omega) (by omega)];omega
  rw[this,ef (by omega)];have a:rk.length=12:=rfl;exact⟨_,bN (show m - 1<rk.length by omega)⟩
def BF(n:Nat){y:Int}(h:bU y){m:Nat}(h1:1<=m)(h2:m<=12):gW n y (m:Int)=some 0:=by
 unfold gW;rw[dW,ad h];show cond (decide ((m:Int)<1)) _ _=_;rw[aY,aY,ab (by omega),ab (by omega)]
def B5(n:Nat){y:Int}(h:bU y){m:Nat}(hm:m<=11):∀(r j:Nat),j+r=m->∀(a:Int) (N:Nat),r<N->∃v,au (aV n) N (y,a,(m:Int),(j:Int))=some v:=by
 intro r
 induction r with
 | zero=>
  intro j c a N d;obtain⟨N,rfl⟩:∃k,N=k+1:=⟨N - 1,by omega⟩;have:aV n (y,a,(m:Int),(j:Int))=some (.inr a):=by
   unfold aV;rw[aY,ab (show¬((j:Int)<(m:Int))by omega)]
  rw[au,this];exact⟨_,rfl⟩
 | succ r ih=>
  intro j c a N d;obtain⟨N,rfl⟩:∃k,N=k+1:=⟨N - 1,by omega⟩;obtain⟨v,b⟩:=n9 n h (m:=j+1) (by omega) (by omega);have w:wrap .i64 ((j:Int)+1)=((j+1:Nat):Int):=by rw[wrap_i64 _ (by omega) (by omega)];omega
  have:aV n (y,a,(m:Int),(j:Int))=some (.inl (y,wrap .i64 (a+v),(m:Int),((j+1:Nat):Int))):=by
   unfold aV;rw[aY,ad (show((j:Int)<(m:Int))by omega)];simp only[w,b,ob]
  rw[au,this];exact ih (j+1) (by omega) _ N (by omega)
def Gf(n:Nat)(b:100<n){y:Int}(h:bU y){m:Nat}(h1:1<=m)(h2:m<=12):∃v,cL n y (m:Int)=some (v,0):=by
 unfold cL gR gP;have h':=h;unfold bU at h';obtain⟨z,e⟩:=oy n (y:=y) (by omega);have w:wrap .i64 ((m:Int) - 1)=((m - 1:Nat):Int):=by rw[wrap_i64 _ (by omega) (by omega)];omega
 rw[BF n h h1 h2,dW,ad h,e,w];obtain⟨v,a⟩:=B5 n h (m:=m - 1) (by omega) (m - 1) 0 (by omega) (wrap .i64 (wrap .i64 (365*y)+z)) n (by omega);refine⟨v,?_⟩;show ob (au (aV n) n (y,wrap .i64 (wrap .i64 (365*y)+z),((m - 1:Nat):Int),((0:Nat):Int))) _=_;rw[a];rfl
def madd(n:Nat){y:Int}(h:bU y){m c:Nat}(h1:1<=m)(h2:m<=12)(hc:1<=c)(g:c<=6):kU n y (m:Int) (wrap .i64 ((c:Int) - 1)) =
  some (if 12<m+c - 1 then(if y=10000000000000000 then(0,0,6)else(y+1,((m+c - 1 - 12:Nat):Int),0))else(y,((m+c - 1:Nat):Int),0)):=by
 have h':=h;unfold bU at h';unfold kU;rw[BF n h h1 h2,wrap_i64 (12*y) (by omega) (by omega),wrap_i64 ((m:Int) - 1) (by omega) (by omega),wrap_i64 (12*y+((m:Int) - 1)) (by omega) (by omega),wrap_i64 ((c:Int) - 1) (by omega) (by omega)];have i:nq n (12*y+((m:Int) - 1)) ((c:Int) - 1)=some (12*y+((m:Int) - 1)+((c:Int) - 1),0):=by
  unfold nq;rw[wrap_i64 (12*y+((m:Int) - 1)+((c:Int) - 1)) (by omega) (by omega),jd];by_cases h0:(c:Int) - 1=0
  ·rw[ad h0];have d:decide (12*y+((m:Int) - 1)>12*y+((m:Int) - 1))=false:=by simp
   have d2:decide ((c:Int) - 1>0)=false:=by simp;omega
   rw[d,d2,h0,Int.add_zero];rfl
  ·rw[ab h0];have d:decide (12*y+((m:Int) - 1)+((c:Int) - 1)>12*y+((m:Int) - 1))=true:=by simp;omega
   have d2:decide ((c:Int) - 1>0)=true:=by simp;omega
   rw[d,d2];rfl
 simp only[ob,i,ek,ae];rw[qG n (by omega) (by omega) (by omega) (by omega),Iw n (by omega) (by omega)];simp only[dW];by_cases f:12<m+c - 1
 ·have b:(12*y+((m:Int) - 1)+((c:Int) - 1)) / 12=y+1:=by omega
  have a:(12*y+((m:Int) - 1)+((c:Int) - 1))%12=((m+c - 1 - 12:Nat):Int) - 1:=by omega
  rw[b,a,ad f];by_cases e:y=10000000000000000
  ·rw[ad e,ab (show¬bU (y+1)by unfold bU;omega)];rfl
  ·rw[ab e,ad (show bU (y+1)by unfold bU;omega),wrap_i64 (((m+c - 1 - 12:Nat):Int) - 1+1) (by omega) (by omega),EB];rfl
 ·have b:(12*y+((m:Int) - 1)+((c:Int) - 1)) / 12=y:=by omega
  have a:(12*y+((m:Int) - 1)+((c:Int) - 1))%12=((m+c - 1:Nat):Int) - 1:=by omega
  rw[b,a,ab f,ad h,wrap_i64 (((m+c - 1:Nat):Int) - 1+1) (by omega) (by omega),EB];rfl
def HY{j:Nat}(d:j<21):∃m c:Nat,qQ[j]?=some ((m:Int),(c:Int))/\1<=m/\m<=12/\1<=c/\c<=6/\(12<m+c - 1↔j=3\/j=7\/j=9):=by
 have:((List.range 21).all λj=>match qQ[j]? with
  | some (m,c)=>decide (0<=m)&&decide (0<=c)&&decide (1<=m.toNat)&&decide (m.toNat<=12)&&decide (1<=c.toNat)&&decide (c.toNat<=6)&&(decide (12<m.toNat+c.toNat - 1)==decide (j=3\/j=7\/j=9))
  | none=>false)=true:=by decide +kernel
 have h:=(ct.1 this) j (by simpa using d);split at h
 ·rename_i m c e;simp only[aw,aT,bI,sX]at h;obtain⟨⟨⟨⟨⟨⟨h1,h2⟩,i⟩,g⟩,a⟩,f⟩,b⟩:=h;exact⟨m.toNat,c.toNat,by rw[e,xe h1,xe h2],i,g,a,f,b⟩
 ·cases h
def Ns(n:Nat)(p:100<n){y:Int}(h:bU y){j:Nat}(s:j<21):
  ∃a b c d,gM n y ((21+j:Nat):Int)=some (a,b,c,d,if y=10000000000000000/\(j=3\/j=7\/j=9)then 6 else 0):=by
 obtain⟨m,c,e,h1,h2,B,A,r⟩:=HY s;have z:fq n ((21+j:Nat):Int)=some ((m:Int),(c:Int),0):=by
  unfold fq cH;rw[aY,aY,ab (by omega),ab (by omega)];have:wrap .i64 (((21+j:Nat):Int) - 21)=(j:Int):=by rw[wrap_i64 _ (by omega) (by omega)];omega
  rw[this,ef s];show ob (qQ[j]?) _=_;rw[e];rfl
 obtain⟨v,w⟩:=Gf n p h h1 h2;unfold gM;rw[z];show ∃a b c d,ob (cL n y (m:Int)) _=_;rw[w];show ∃a b t d,ob (kU n y (m:Int) (wrap .i64 ((c:Int) - 1))) _=_;rw[madd n h h1 h2 B A];have h':=h;unfold bU at h';by_cases k:12<m+c - 1
 ·rw[ad k];by_cases i:y=10000000000000000
  ·rw[ad i,ad ⟨i,r.1 k⟩];exact⟨_,_,_,_,rfl⟩
  ·rw[ab i,ab (λx=>i x.1)];have g:bU (y+1):=by unfold bU;omega
   obtain⟨o,f⟩:=Gf n p g (m:=m+c - 1 - 12) (by omega) (by omega);obtain⟨u,l⟩:=n9 n g (m:=m+c - 1 - 12) (by omega) (by omega);have q:fY n (y+1) ((m+c - 1 - 12:Nat):Int)=some (wrap .i64 (wrap .i64 (o+u) - 1),0):=by
    unfold fY;rw[f,l];rfl
   show ∃a b t d,ob (fY n (y+1) ((m+c - 1 - 12:Nat):Int)) _=_;rw[q];exact⟨_,_,_,_,rfl⟩
 ·rw[ab k,ab (λx=>k (r.2 x.2))];obtain⟨o,f⟩:=Gf n p h (m:=m+c - 1) (by omega) (by omega);obtain⟨u,l⟩:=n9 n h (m:=m+c - 1) (by omega) (by omega);have q:fY n y ((m+c - 1:Nat):Int)=some (wrap .i64 (wrap .i64 (o+u) - 1),0):=by
   unfold fY;rw[f,l];rfl
  show ∃a b t d,ob (fY n y ((m+c - 1:Nat):Int)) _=_;rw[q];exact⟨_,_,_,_,rfl⟩
def hasB(set:aa)(c:UInt8):Bool:=set.any λd=>d==c
def pi(set:aa)(c:UInt8):(decide (Lib.indexByte set c<0))=!hasB set c:=by
 induction set with
 | nil=>simp[Lib.indexByte,hasB]
 | cons d l ih=>
  have e:=Lib.indexByte_ge l c;simp only[hasB,List.any_cons]at ih ⊢;unfold Lib.indexByte;by_cases h:d=c
  ·simp[h]
  ·have b:(d==c)=false:=by simpa using h
   simp only[b,cb,aD,vk];rw[<-ih];by_cases h1:Lib.indexByte l c=-1
   ·simp[h1]
   ·have a:(Lib.indexByte l c==-1)=false:=by simpa using h1
    simp only[a,cb,aD];have:¬Lib.indexByte l c+1<0:=by omega
    have:¬Lib.indexByte l c<0:=by omega
    simp[*]
def oL(set:aa)(c:UInt8):(decide (Lib.indexByte set c>=0))=hasB set c:=by
 have:=pi set c;by_cases h:Lib.indexByte set c<0
 ·have h2:¬Lib.indexByte set c>=0:=by omega
  simp only[h,h2,lZ,lC]at this ⊢;revert this;cases hasB set c<;>simp
 ·have h2:Lib.indexByte set c>=0:=by omega
  simp only[h,h2,lZ,lC]at this ⊢;revert this;cases hasB set c<;>simp
def jC(n:Nat)(set:aa)(c:UInt8):bT n set ((c.toNat:Nat):Int)=some (Lib.indexByte set c):=by
 simp only[bT,bK,ob,N2]
def asc(l:aa):Prop:=∀c∈l,c.toNat<128
def D7(r:Int)(h:128<=r):∃p e,(Utf8.encode r).data.toList=p++[e]/\1<=p.length/\p.length<=3/\128<=e.toNat:=by
 unfold Utf8.encode;have hc:128<=(if Utf8.valid r then r.toNat else Utf8.runeError):=by
  split
  ·omega
  ·decide
 generalize(if Utf8.valid r then r.toNat else Utf8.runeError)=c at hc;have a:128<=(UInt8.ofNat (0x80+c%64)).toNat:=by
  simp only[zF];omega
 simp only;split
 ·omega
 ·split
  ·exact⟨[_],_,rfl,by simp,by simp,a⟩
  ·split
   ·exact⟨[_,_],_,rfl,by simp,by simp,a⟩
   ·exact⟨[_,_,_],_,rfl,by simp,by simp,a⟩
def ET{l:aa}(h:asc l){i:Nat}{c:UInt8}(hi:l[i]?=some c):c.toNat<128:=h c (dK hi)
def xE(n:Nat)(set:aa)(h:asc set)(e:set.length<n):au (ck n) n (set,0)=some (.inr ()):=by
 refine eZ (step:=ck n) (λx=>x.1=set) (λx=>set.length - x.2) (λx=>.inr ()) ?_ n _ rfl (by simp;omega);rintro⟨s,i⟩ rfl;simp only[ck];by_cases hi:i<s.length
 ·have b:Nat.blt i s.length=true:=dA hi;obtain⟨c,hc⟩:∃c,s[i]?=some c:=⟨s[i],bN hi⟩;have a:=ET h hc;have d:(((c.toNat:Nat):Int)==65533)=false:=by rw[bA];omega
  simp only[b,aj,vU hc a,d,ae];exact .inl ⟨_,rfl,rfl,by simp only;omega,trivial⟩
 ·have b:Nat.blt i s.length=false:=by
   cases b:Nat.blt i s.length with
   | false=>rfl
   | true=>exact absurd (az b) (by omega)
  simp only[b,ae];exact .inr trivial
def uf{l:aa}{c:UInt8}(h:c∉l):Lib.indexByte l c<0:=by
 have h1:=pi l c;have h2:hasB l c=false:=by
  unfold hasB;rw[qM];intro x b a;simp only[bI]at a;exact h (a▸b)
 rw[h2]at h1;simpa using h1
def yo(n:Nat)(set:aa)(h:asc set)(u:set.length<n)(B:set.length<=100)(r:Int)(q:128<=r):cG n set r=some (-1):=by
 have h0:decide ((0:Int)<=r)=true:=ay (by omega);have h1:decide (r<128)=false:=ax (by omega);simp only[cG,h0,h1,aj,ae];by_cases d:r=65533
 ·have:(r==65533)=true:=bI.2 d;simp only[this,aj,xE n set h u,ob]
 ·have:(r==65533)=false:=bA.2 d;simp only[this,ae];obtain⟨v,o⟩:∃v,cw n r=some v:=by
   unfold cw;generalize decide ((0:Int)<=r)=w;generalize decide (r<55296)=d2;generalize decide ((57343:Int)<r)=x;generalize decide (r<=1114111)=d4;cases w<;>cases d2<;>cases x<;>cases d4<;>exact⟨_,rfl⟩
  simp only[o,ob];cases v with
  | false=>rfl
  | true=>
   simp only[da,ae];obtain⟨p,e,l,s,t,A⟩:=D7 r q;simp only[l];have y:wrap .i64 (((p++[e]).length:Nat) - 1:Int)=(p.length:Int):=by
    rw[wrap_i64 _ (by simp<;>omega) (by simp<;>omega)];simp
   rw[y];obtain⟨m,rfl⟩:∃m,n=m+1:=⟨n - 1,by omega⟩;have a:cq (m+1) (set,p++[e],(p.length:Int),(p.length:Int))=some (.inr (.inl (-1)))\/cq (m+1) (set,p++[e],(p.length:Int),(p.length:Int))=some (.inr (.inr ())):=by
    simp only[cq,jU];by_cases j:p.length<set.length
    ·obtain⟨c,hc⟩:∃c,set[p.length]?=some c:=⟨set[p.length],bN j⟩;have k:=ET h hc;have g:(p++[e])[p.length]?=some e:=by simp
     have i:(((c.toNat:Nat):Int) != ((e.toNat:Nat):Int))=true:=by simp only[bne,ld,bA];omega
     have f:wrap .i64 ((p.length:Int)+1)=((p.length+1:Nat):Int):=by rw[wrap_i64 _ (by omega) (by omega)];omega
     have z:e∉List.drop (p.length+1) (List.take set.length set):=by
      intro hm;have:=h e (by simpa using List.mem_of_mem_drop hm);omega
     left;simp only[j,lZ,aj,kD hc,kD g,ob,i,f,ge (show p.length+1<=set.length by omega),jC,uf z]
    ·right;simp only[j,lC,ae]
   rcases a with b | b<;>simp only[au,b,ob]
def uo(n:Nat)(set:aa)(c:UInt8)(r:Int)(a:r=((c.toNat:Nat):Int))(hc:c.toNat<128):cG n set r=some (Lib.indexByte set c):=by
 have h0:decide ((0:Int)<=r)=true:=ay (by omega);have h1:decide (r<128)=true:=ay (by omega);have d:wrap .u8 r=r:=gO _ (by omega) (by omega);have b:bT n set r=some (Lib.indexByte set c):=by rw[a];exact jC n set c
 simp only[cG,h0,h1,aj,d,b,ob]
def wK(n:Nat)(set:aa)(c:UInt8)(hc:c.toNat<128):cG n set ((c.toNat:Nat):Int)=some (Lib.indexByte set c):=uo n set c _ rfl hc
def re(n:Nat)(set:aa)(c:UInt8)(hc:c.toNat<128):cn n set ((c.toNat:Nat):Int)=some (hasB set c):=by
 simp only[cn,wK n set c hc,ob,oL]
def tD(n:Nat)(set:aa)(h:asc set)(c:set.length<n)(a:set.length<=100)(r:Int)(b:128<=r):cn n set r=some false:=by
 simp only[cn,yo n set h c a r b,ob];rfl
def rA(x:Int)(h0:0<=x)(h1:x<65536):wrap .u16 x=x:=by
 show x%65536=x;omega
def wT(w a:Nat):BitVec.ofInt w (a:Int)=BitVec.ofNat w a:=by
 apply BitVec.eq_of_toNat_eq;simp
def Jz(k:Nat):(2:Int) ^ k=((2 ^ k:Nat):Int):=by simp
def H5(a k:Nat):Int.fdiv (a:Int) (2 ^ k)=((a / 2 ^ k:Nat):Int):=by
 rw[Jz k,Ja _ (Int.natCast_nonneg _)];rfl
def inR(lo hi:Int)(c:UInt8):Bool:=decide (((c.toNat:Nat):Int)>=lo)&&decide (((c.toNat:Nat):Int)<=hi)
def cnt(lo hi:Int)(l:aa):Nat:=l.countP (inR lo hi)
def AD(lo hi:Int)(l:aa):cnt lo hi l<=l.length:=List.countP_le_length
def Hh(lo hi:Int){l:aa}{i:Nat}{c:UInt8}(h:l[i]?=some c):cnt lo hi (l.take (i+1))=cnt lo hi (l.take i)+if inR lo hi c then 1 else 0:=by
 unfold cnt;rw[oa,h,List.countP_append];simp[EG]
def Dm(n:Nat)(s:aa)(lo hi:Int)(j:s.length<n)(k:s.length<100000):ft n s lo hi=some ((cnt lo hi s:Nat):Int):=by
 have:=eZ (step:=eB n) (λx=>∃i:Nat,i<=s.length/\x=(s,lo,hi,((cnt lo hi (s.take i):Nat):Int),(i:Int))) (λx=>s.length - x.2.2.2.2.toNat) (λ_=>((cnt lo hi s:Nat):Int)) ?_ n (s,lo,hi,0,0) ⟨0,by omega,by simp[cnt]⟩ (by simp;omega)
 ·simp only[ft,this,ob]
 rintro x ⟨i,g,rfl⟩;rcases aA i s.length with a | e
 ·obtain⟨c,hc⟩:∃c,s[i]?=some c:=⟨s[i],bN a⟩;have b:=Hh lo hi hc;have d:=AD lo hi (s.take i);rw[dj]at d;have h:wrap .i64 ((i:Int)+1)=((i+1:Nat):Int):=by rw[wrap_i64 _ (by omega) (by omega)];omega
  have f:wrap .i64 (((cnt lo hi (s.take i):Nat):Int)+1)=((cnt lo hi (s.take i)+1:Nat):Int):=by rw[wrap_i64 _ (by omega) (by omega)];omega
  refine .inl ⟨(s,lo,hi,((cnt lo hi (s.take (i+1)):Nat):Int),((i+1:Nat):Int)),?_,⟨i+1,a,rfl⟩,by simp only[cc];omega,rfl⟩;simp only[eB,jU,a,lZ,aj,kD hc,ob,h,f];rw[b];by_cases h1:((c.toNat:Nat):Int)>=lo
  ·by_cases h2:((c.toNat:Nat):Int)<=hi
   ·simp[h1,h2,inR]
   ·simp[h1,h2,inR]
  ·simp[h1,inR]
 ·have:i=s.length:=by omega
  subst this;refine .inr ?_;simp only[eB,jU,zl,lC,ae,oz]
def Dw(lo hi:Int)(l:aa):cnt lo hi l=l.length↔∀c∈l,inR lo hi c=true:=by
 unfold cnt;rw[List.countP_eq_length]
def G9(lo hi:Int)(l:aa):cnt lo hi l=0↔∀c∈l,inR lo hi c=false:=by
 unfold cnt;rw[List.countP_eq_zero];simp
def bS(c:UInt8):Bool:=inR 48 57 c
def fg(c:UInt8):bS c=true↔48<=c.toNat/\c.toNat<=57:=by
 unfold bS inR;simp only[aw,aT];omega
def wj(c:UInt8):inR 88 88 c=true↔c=88:=by
 unfold inR;simp only[aw,aT];constructor
 ·intro h;apply iW.1;show c.toNat=88;omega
 ·rintro rfl;decide
def Ek(c:UInt8):inR 48 48 c=true↔c=48:=by
 unfold inR;simp only[aw,aT];constructor
 ·intro h;apply iW.1;show c.toNat=48;omega
 ·rintro rfl;decide
def Ed:∀l:aa,cnt 48 57 l+cnt 88 88 l<=l.length/\(cnt 48 57 l+cnt 88 88 l=l.length↔∀c∈l,bS c=true\/c=88)
 | []=>by simp[cnt]
 | c::l=>by
  have ih:=Ed l;have d:cnt 48 57 (c::l)=cnt 48 57 l+if inR 48 57 c then 1 else 0:=by simp[cnt,EG]
  have b:cnt 88 88 (c::l)=cnt 88 88 l+if inR 88 88 c then 1 else 0:=by simp[cnt,EG]
  have g:¬(inR 48 57 c=true/\inR 88 88 c=true):=by
   rintro⟨h1,h2⟩;have:=(fg c).1 h1;rw[(wj c).1 h2]at this;exact absurd this.2 (by decide)
  rw[d,b,bp];simp only[bv,vI];have a:=wj c;have f:bS c=inR 48 57 c:=rfl;rw[f];cases h1:inR 48 57 c<;>cases h2:inR 88 88 c
  ·simp only[h1,h2]at a ⊢;have:c≠88:=λe=>by simpa using a.2 e
   simp[this];omega
  ·simp only[h1,h2]at a ⊢;have:c=88:=a.1 trivial;simp only[this,cb,be,aD,false_or,lW];rw[<-ih.2];omega
  ·simp only[h1,h2]at a ⊢;simp only[cb,be,aD,true_or,lW];rw[<-ih.2];omega
  ·exact absurd ⟨h1,h2⟩ g
def Ds(n:Nat)(s set:aa)(q:asc set)(u:set.length<n)(w:set.length<=100)(z:s.length<n):
  ∃y,au (bG n) n (true,set,s,0)=some y/\((y=.inr ()/\s.all (hasB set)=true)\/∃i:Nat,y=.inl (i:Int)/\s.all (hasB set)=false):=by
 refine kV (step:=bG n) (λx=>x.1=true/\x.2.1=set/\x.2.2.1=s/\s.all (hasB set)=(s.drop x.2.2.2).all (hasB set)) (λx=>s.length - x.2.2.2) _ ?_ n _ ⟨rfl,rfl,rfl,rfl⟩ (by simp only;omega);rintro⟨b,st,t,p⟩ ⟨h,g,f,a⟩;simp only at h g f a;rw[h,g,f];clear h g f b st t;rcases aA p s.length with j | m
 ·obtain⟨c,hc⟩:∃c,s[p]?=some c:=⟨s[p],bN j⟩;have e:Nat.blt p s.length=true:=dA j;rw[gE hc,ln]at a;rcases aA c.toNat 128 with d | d
  ·have r:=vU hc d;simp only[bG,e,aj,gH,r,re n set c d,ob];cases k:hasB set c with
   | true=>
    rw[k,kB]at a;exact .inl ⟨_,rfl,⟨rfl,rfl,rfl,a⟩,by simp only;omega⟩
   | false=>
    rw[k,qR]at a;exact .inr ⟨_,rfl,.inr ⟨p,rfl,a⟩⟩
  ·have r:=AZ hc d;have k:hasB set c=false:=by
    unfold hasB;rw[qM];intro x v o;simp only[bI]at o;have:=q x v;rw[o]at this;omega
   rw[k,qR]at a;have l:=tD n set q u w (((dec s p).1:Nat):Int) (by omega);simp only[bG,e,aj,gH,l,ob];exact .inr ⟨_,rfl,.inr ⟨p,rfl,a⟩⟩
 ·have e:Nat.blt p s.length=false:=by
   cases h:Nat.blt p s.length with
   | false=>rfl
   | true=>exact absurd (az h) (by omega)
  simp only[bG,e,ae];rw[nL m]at a;exact .inr ⟨_,rfl,.inl ⟨rfl,by rw[a];rfl⟩⟩
def EN(n:Nat)(s set:aa)(e:asc set)(d:set.length<n)(c:set.length<=100)(b:s.length<n):dZ n s set=some (s.all (hasB set)):=by
 obtain⟨y,h1,h2⟩:=Ds n s set e d c b;simp only[dZ,iM,iJ,h1,ob];rcases h2 with⟨rfl,a⟩ | ⟨i,rfl,a⟩
 ·rw[a];rfl
 ·rw[a];simp only[af,jt];omega
def Ho:asc [48,49,50,51,52,53,54,55,56,57]:=by unfold asc;decide
def Gh:asc [88,48,49,50,51,52,53,54,55,56,57]:=by unfold asc;decide
def xI(p:UInt8->Bool)(h:∀i:Fin 256,p (UInt8.ofNat i.val)=true)(c:UInt8):p c=true:=by
 have:=h ⟨c.toNat,c.toNat_lt⟩;simpa using this
def EO(c:UInt8):hasB [48,49,50,51,52,53,54,55,56,57] c=bS c:=by
 have:=xI (λc=>hasB [48,49,50,51,52,53,54,55,56,57] c==bS c) (by decide +kernel) c;simpa using this
def BJ(c:UInt8):hasB [88,48,49,50,51,52,53,54,55,56,57] c=(bS c||c==88):=by
 have:=xI (λc=>hasB [88,48,49,50,51,52,53,54,55,56,57] c==(bS c||c==88)) (by decide +kernel) c;simpa using this
def Dv(n:Nat)(s:aa)(b:100<n)(a:s.length<n):dZ n s [48,49,50,51,52,53,54,55,56,57]=some (s.all bS):=by
 rw[EN n s _ Ho (by simp;omega) (by simp) a];congr 2;funext c;exact EO c
def CQ(n:Nat)(s:aa)(b:100<n)(a:s.length<n):dZ n s [88,48,49,50,51,52,53,54,55,56,57]=some (s.all λc=>bS c||c==88):=by
 rw[EN n s _ Gh (by simp;omega) (by simp) a];congr 2;funext c;exact BJ c
def all0(s:aa):Bool:=s.all λc=>c==48
def NN(n:Nat)(s:aa)(f:s.length<n)(j:s.length<100000):∃y,dQ n s 48=some y/\all0 s=all0 y/\y.length<=s.length:=by
 obtain⟨y,h1,h2⟩:=kV (step:=bV n) (λx=>x.2=48/\all0 s=all0 x.1/\x.1.length<=s.length) (λx=>x.1.length) (λy=>all0 s=all0 y/\y.length<=s.length) (by
  rintro⟨l,c⟩ ⟨rfl,h,d⟩;simp only at h d;by_cases h0:l.length>0
  ·have d0:decide (((l.length:Nat):Int)>0)=true:=ay (by omega);have g:wrap .i64 (((l.length:Nat):Int) - 1)=((l.length - 1:Nat):Int):=by rw[wrap_i64 _ (by omega) (by omega)];omega
   obtain⟨c,hc⟩:∃c,l[l.length - 1]?=some c:=⟨l[l.length - 1],bN (by omega)⟩;simp only[bV,d0,aj,g,kD hc,ob];by_cases b:c=48
   ·have a:(((c.toNat:Nat):Int)==48)=true:=by rw[b];rfl
    simp only[a,aj,ge (show l.length - 1<=l.length by omega),iE];refine .inl ⟨(List.take (l.length - 1) l,48),rfl,⟨rfl,?_,by show(List.take (l.length - 1) l).length<=s.length;rw[dj];omega⟩,by show(List.take (l.length - 1) l).length<l.length;rw[dj];omega⟩;rw[h];have:l=l.take (l.length - 1)++[c]:=by
     have h2:=oa (l:=l) (i:=l.length - 1);rw[hc,show l.length - 1+1=l.length by omega,oz]at h2;exact h2
    rw[this];simp only[all0,List.all_append,ln,List.all_nil,b];simp
   ·have a:(((c.toNat:Nat):Int)==48)=false:=by
     rw[bA];intro e;exact b (iW.1 (by show c.toNat=48;omega))
    simp only[a,ae];exact .inr ⟨_,rfl,h,d⟩
  ·have d0:decide (((l.length:Nat):Int)>0)=false:=ax (by omega);simp only[bV,d0,ae];exact .inr ⟨_,rfl,h,d⟩) n (s,48) ⟨rfl,rfl,aI _⟩ f
 exact⟨y,by simp only[dQ,h1,ob],h2⟩
def Nu(n:Nat)(s:aa)(j:s.length<n)(k:s.length<100000):∃y,ei n s 48=some y/\all0 s=(y==[]):=by
 obtain⟨y,h1,h2⟩:=kV (step:=dl n) (λx=>x.2=48/\all0 s=all0 x.1/\x.1.length<=s.length) (λx=>x.1.length) (λy=>all0 s=(y==[])) (by
  rintro⟨l,c⟩ ⟨rfl,h,f⟩;simp only at h f;cases l with
  | nil=>exact .inr ⟨[],rfl,by rw[h];rfl⟩
  | cons c l=>
   have d0:decide ((((c::l).length:Nat):Int)>0)=true:=ay (by simp only[bp];omega);have hc:sx (c::l) 0=some c:=by simp[sx]
   simp only[dl,d0,aj,hc,ob];by_cases a:c=48
   ·have b:(((c.toNat:Nat):Int)==48)=true:=by rw[a];rfl
    have d:bx (c::l).length 1=some 1:=ge (i:=1) (by simp);simp only[b,aj,d,oz,uu,iE];refine .inl ⟨_,rfl,⟨rfl,?_,by show l.length<=s.length;simp only[bp]at f;omega⟩,by simp⟩;rw[h];simp[all0,a]
   ·have b:(((c.toNat:Nat):Int)==48)=false:=by
     rw[bA];intro e;exact a (iW.1 (by show c.toNat=48;omega))
    simp only[b,ae];refine .inr ⟨_,rfl,?_⟩;rw[h];have g:(c==48)=false:=bA.2 a;simp[all0,g]) n (s,48) ⟨rfl,rfl,aI _⟩ j
 exact⟨y,by simp only[ei,h1,ob],h2⟩
def Kq(n:Nat)(s:aa)(b:s.length<n)(c:s.length<100000):∃y,kA n s=some y/\(y==[])=all0 s:=by
 unfold kA;by_cases h:s=[]
 ·subst h;exact⟨[],rfl,rfl⟩
 ·have:(s==([]:aa))=false:=bA.2 h;obtain⟨y,h1,h2,e⟩:=NN n s b c;obtain⟨z,d,a⟩:=Nu n y (by omega) (by omega);exact⟨z,by simp only[this,ae,h1,d,ob],by rw[h2,a]⟩
def Hw(s:aa):all0 s=true↔cnt 48 48 s=s.length:=by
 rw[Dw];unfold all0;rw[ct];constructor
 ·intro h c hc;have:=h c hc;rw[bI]at this;exact(Ek c).2 this
 ·intro h c hc;rw[bI];exact(Ek c).1 (h c hc)
def hasX(s:aa):Bool:=s.any λc=>c==88
def GK(s:aa):hasX s=decide (0<cnt 88 88 s):=by
 have:=G9 88 88 s;unfold hasX;cases h:s.any λc=>c==88 with
 | true=>
  obtain⟨c,hc,a⟩:=mf.1 h;rw[bI]at a;symm;rw[aT];rcases vv (cnt 88 88 s)with h0 | h0
  ·have:=this.1 h0 c hc;rw[(wj c).2 a]at this;cases this
  ·exact h0
 | false=>
  symm;rw[jt];intro h0;have:cnt 88 88 s=0:=this.2 λc hc=>by
   cases b:inR 88 88 c with
   | false=>rfl
   | true=>
    rw[qM]at h;exact absurd (bI.2 ((wj c).1 b)) (h c hc)
  omega
def DV(n:Nat)(s:aa):eY n s=some (hasX s):=by
 have e:UInt8.ofNat (Int.toNat 88)=(88:UInt8):=rfl;have hi:jE n s=some (Lib.indexByte s 88):=by
  simp only[jE,fM,bK,ob,e];by_cases h:([88]:aa)=s
  ·subst h;rfl
  ·have:(([88]:aa)==s)=false:=bA.2 h;simp only[this,ae]
 simp only[eY,hi,ob,oL];rfl
def kY(n:Nat)(g l:Bool)(d:aa)(x q:Int):ba n g l d x q=some (hasX d):=by
 simp only[ba,DV,ob]
def rc(a:Nat)(c:UInt8):Nat:=a*10+(c.toNat - 48)
def dval(a:Nat)(l:aa):Nat:=l.foldl rc a
def lE(a:Nat):dval a []=a:=by unfold dval;rw[Ab]
def lh(a:Nat)(c:UInt8)(l:aa):dval a (c::l)=dval (rc a c) l:=by
 unfold dval;rw[qO]
def Ad(l:aa)(a:Nat)(c:UInt8):dval a (l++[c])=dval a l*10+(c.toNat - 48):=by
 have:dval a (l++[c])=rc (dval a l) c:=by
  unfold dval;rw[zL,qO,Ab]
 rw[this];rfl
def J2(M:Nat)(i:10000000000000000000<=M)(l:aa):∀(a k:Nat),(∀c∈l,bS c=true)->a<10 ^ k->l.length+k<=18->Lib.parseUintM M a l=.ok (dval a l)/\dval a l<10 ^ (l.length+k):=by
 induction l with
 | nil=>
  intro a k _ h1 _;rw[lE];refine⟨rfl,?_⟩;simpa using h1
 | cons c l ih=>
  intro a k h h1 h2;have hc:=(fg c).1 (h c (by simp));simp only[bp]at h2;have g:(10:Nat) ^ (k+1)=10 ^ k*10:=pL 10 k;have f:(10:Nat) ^ (k+1)<=10 ^ 18:=js (by decide) (by omega);have e:(10:Nat) ^ 18=1000000000000000000:=by decide
  have b:rc a c=a*10+(c.toNat - 48):=rfl;have ih:=ih (rc a c) (k+1) (λd b=>h d (by simp[b])) (by omega) (by omega);refine⟨?_,?_⟩
  ·simp only[Lib.parseUintM];rw[ad hc,ab (by omega),ab (by omega),<-b,ih.1,lh]
  ·rw[lh,bp,show l.length+1+k=l.length+(k+1)by omega];exact ih.2
def B1{l:aa}(h:∀c∈l,bS c=true)(h0:l≠[])(i:l.length<=18):tZ l=some ((dval 0 l:Nat):Int)/\dval 0 l<10 ^ l.length:=by
 obtain⟨h1,h2⟩:=J2 (2 ^ 64 - 1) (by decide) l 0 0 h (by simp) (by omega);refine⟨?_,by simpa using h2⟩;have g:dval 0 l<10 ^ 18:=kK h2 (js (by decide) (by omega));cases l with
 | nil=>exact absurd rfl h0
 | cons c r=>
  have hc:=(fg c).1 (h c (by simp));have b:Lib.parseUintB 64 (c::r)=.ok (dval 0 (c::r)):=by
   unfold Lib.parseUintB;rw[ab h0,h1]
  have d:¬(c.toNat=43\/c.toNat=45):=by omega
  simp only[tZ,Lib.parseIntB,d,aD,b];have e:(10:Nat) ^ 18=1000000000000000000:=by decide
  have a:(2:Nat) ^ (64 - 1)=9223372036854775808:=by decide
  have f:¬c.toNat=45:=by omega
  simp only[f,zk,lW,false_and,aD];rw[a,ab (by omega)]
def Ic(n k:Nat)(j:k<=18)(l:18<n):kW n (k:Int)=some (((10 ^ k:Nat):Int),0):=by
 have b:(10:Nat) ^ 18=1000000000000000000:=by decide
 have:=eZ (step:=ia n) (λx=>∃i:Nat,i<=k/\x=(((10 ^ i:Nat):Int),(k:Int),(i:Int))) (λx=>k - x.2.2.toNat) (λ_=>((10 ^ k:Nat):Int)) (by
  rintro x ⟨i,hi,rfl⟩;rcases aA i k with a | c
  ·have e:(10:Nat) ^ (i+1)<=10 ^ 18:=js (by decide) (by omega);have h:(10:Nat) ^ (i+1)=10 ^ i*10:=pL 10 i;have g:wrap .i64 (((10 ^ i:Nat):Int)*10)=((10 ^ (i+1):Nat):Int):=by rw[wrap_i64 _ (by omega) (by omega)];omega
   have d:wrap .i64 ((i:Int)+1)=((i+1:Nat):Int):=by rw[wrap_i64 _ (by omega) (by omega)];omega
   refine .inl ⟨_,?_,⟨i+1,a,rfl⟩,by simp only[cc];omega,rfl⟩;simp only[ia,jU,a,lZ,aj,g,d]
  ·have:i=k:=by omega
   subst this;refine .inr ?_;simp only[ia,jU,zl,lC,ae]) n (1,(k:Int),0) ⟨0,by omega,rfl⟩ (by simp;omega)
 have f:decide ((k:Int)<0)=false:=ax (by omega);have d2:decide ((k:Int)>18)=false:=ax (by omega);simp only[kW,f,d2,ae,this,ob]
def gG(x:Int)(h0:0<=x)(h1:x<18446744073709551616):wrap .u64 x=x:=by
 show x%18446744073709551616=x;omega
def zy(x:Int):wrap .u64 x=x%18446744073709551616:=rfl
def D1{a:Nat}(b:a<18446744073709551616):bits .and .u64 (a:Int) 4294967295=((a%4294967296:Nat):Int):=by
 show wrap .u64 ((BitVec.ofInt 64 (a:Int) &&& BitVec.ofInt 64 ((4294967295:Nat):Int)).toNat:Int)=_;rw[wT,wT,BitVec.toNat_and,BitVec.toNat_ofNat,BitVec.toNat_ofNat,n7 (show a<2 ^ 64 from b),n7 (by decide)];have:=Nat.and_two_pow_sub_one_eq_mod a 32;rw[show(2:Nat) ^ 32 - 1=4294967295 from by decide,show(2:Nat) ^ 32=4294967296 from by decide]at this;rw[this];exact gG _ (by omega) (by omega)
def Gn(a:Nat):Int.fdiv (a:Int) (2 ^ 32)=((a / 4294967296:Nat):Int):=by
 rw[H5]
def zJ{a b A B:Nat}(c:a<=A)(d:b<=B):a*b<=A*B:=rX c d
def Eb(a b:Nat):a*b=(a / 4294967296)*(b / 4294967296)*18446744073709551616+((a / 4294967296)*(b%4294967296)+(a%4294967296)*(b / 4294967296))*4294967296+(a%4294967296)*(b%4294967296):=by
 have f:a=(a / 4294967296)*4294967296+a%4294967296:=by omega
 have e:b=(b / 4294967296)*4294967296+b%4294967296:=by omega
 generalize a / 4294967296=c at f ⊢;generalize a%4294967296=g at f ⊢;generalize b / 4294967296=d at e ⊢;generalize b%4294967296=h at e ⊢;subst f e;rw[ea,Nat.mul_add,Nat.mul_add];have h1:c*4294967296*(d*4294967296)=c*d*18446744073709551616:=by
  rw[Nat.mul_mul_mul_comm]
 have h2:c*4294967296*h=c*h*4294967296:=by rw[Nat.mul_right_comm]
 have i:g*(d*4294967296)=g*d*4294967296:=by rw[y6]
 rw[h1,h2,i,ea];omega
def NH(n a b:Nat)(y:a<18446744073709551616)(m:b<18446744073709551616):ig n (a:Int) (b:Int)=some (((a*b / 18446744073709551616:Nat):Int),((a*b%18446744073709551616:Nat):Int)):=by
 have z:=Eb a b;have h:a / 4294967296<=4294967295:=by omega
 have i:a%4294967296<=4294967295:=by omega
 have g:b / 4294967296<=4294967295:=by omega
 have j:b%4294967296<=4294967295:=by omega
 have x:=zJ i j;have p:=zJ i g;have t:=zJ h j;have s:=zJ h g;have k:wrap .u64 ((a:Int)*(b:Int))=((a*b%18446744073709551616:Nat):Int):=by
  rw[zy,<-Bc];omega
 simp only[ig,Gn,D1 y,D1 m,k];simp only[<-Bc];generalize(a / 4294967296)*(b / 4294967296)=e at *;generalize(a / 4294967296)*(b%4294967296)=d at *;generalize(a%4294967296)*(b / 4294967296)=f at *;generalize(a%4294967296)*(b%4294967296)=c at *;generalize a*b=N at *;have o:wrap .u64 ((c:Nat):Int)=((c:Nat):Int):=gG _ (by omega) (by omega);have w:wrap .u64 ((d:Nat):Int)=((d:Nat):Int):=gG _ (by omega) (by omega);have u:wrap .u64 ((f:Nat):Int)=((f:Nat):Int):=gG _ (by omega) (by omega);have l:wrap .u64 ((e:Nat):Int)=((e:Nat):Int):=gG _ (by omega) (by omega);rw[o,w,u,l,Gn c];have r:wrap .u64 (((d:Nat):Int)+((c / 4294967296:Nat):Int))=((d+c / 4294967296:Nat):Int):=by rw[gG _ (by omega) (by omega)];omega
 rw[r,Gn,D1 (by omega)];have v:wrap .u64 (((e:Nat):Int)+(((d+c / 4294967296) / 4294967296:Nat):Int))=((e+(d+c / 4294967296) / 4294967296:Nat):Int):=by rw[gG _ (by omega) (by omega)];omega
 have q:wrap .u64 ((((d+c / 4294967296)%4294967296:Nat):Int)+((f:Nat):Int))=(((d+c / 4294967296)%4294967296+f:Nat):Int):=by rw[gG _ (by omega) (by omega)];omega
 rw[v,q,Gn];have w8:wrap .u64 (((e+(d+c / 4294967296) / 4294967296:Nat):Int)+((((d+c / 4294967296)%4294967296+f) / 4294967296:Nat):Int))=((N / 18446744073709551616:Nat):Int):=by
  rw[gG _ (by omega) (by omega)];omega
 rw[w8]
def Md(n a b:Nat)(j:a<9223372036854775808)(i:b<9223372036854775808):rE n (a:Int) (b:Int)=some (if a*b<9223372036854775808 then(((a*b:Nat):Int),0)else(0,15)):=by
 have f:decide ((a:Int)<0)=false:=ax (by omega);have d2:decide ((b:Int)<0)=false:=ax (by omega);have g:wrap .u64 (a:Int)=a:=gG _ (by omega) (by omega);have d:wrap .u64 (b:Int)=b:=gG _ (by omega) (by omega);simp only[rE,pw,f,d2,ae,g,d,ob,NH n a b (by omega) (by omega)];generalize a*b=N;by_cases h:18446744073709551616<=N
 ·have c:decide (((N / 18446744073709551616:Nat):Int)>0)=true:=ay (by omega);rw[c,ab (by omega)];rfl
 ·have c:decide (((N / 18446744073709551616:Nat):Int)>0)=false:=ax (by omega);have e:N%18446744073709551616=N:=n7 (by omega);rw[c,e];simp only[ae,us,da,ow,dU,aj];by_cases h2:N<9223372036854775808
  ·have d4:decide (((N:Nat):Int)<=9223372036854775807)=true:=ay (by omega);rw[d4,ad h2,aj,wrap_i64 _ (by omega) (by omega)]
  ·have d4:decide (((N:Nat):Int)<=9223372036854775807)=false:=ax (by omega);rw[d4,ab h2,ae]
def E16:Nat:=10000000000000000
def JR{x:Nat}(b:17<=x):E16<10 ^ x:=by
 have:(10:Nat) ^ 17<=10 ^ x:=js (by decide) b;have a:(10:Nat) ^ 17=100000000000000000:=by decide
 unfold E16;omega
def D6(n:Nat)(g l:Bool)(d:aa)(x:Nat)(s:Int)(o:∀c∈d,bS c=true)(h0:d≠[])(j:d.length<=17)(b:x<=18)(m:18<n):
  cD n g l d (x:Int) s=some (if dval 0 d*10 ^ x<=E16 then(((dval 0 d*10 ^ x:Nat):Int),0)else(0,6)):=by
 obtain⟨h1,h2⟩:=B1 o h0 (by omega);have q:dval 0 d<10 ^ 17:=kK h2 (js (by decide) j);have p:(10:Nat) ^ x<=10 ^ 18:=js (by decide) b;have f:(10:Nat) ^ 17=100000000000000000:=by decide
 have i:(10:Nat) ^ 18=1000000000000000000:=by decide
 have k:Nat.ble d.length 9223372036854775806=true:=dA (by omega);simp only[cD,k,aj,h1,ob,Ic n x b m,ek,ae,Md n _ _ (show dval 0 d<9223372036854775808 by omega) (show 10 ^ x<9223372036854775808 by omega)];generalize dval 0 d*10 ^ x=N;unfold E16;by_cases h:N<9223372036854775808
 ·rw[ad h];simp only[ek,ae];by_cases e:N<=10000000000000000
  ·have a:decide (((N:Nat):Int)>10000000000000000)=false:=ax (by omega);rw[a,ad e,ae]
  ·have a:decide (((N:Nat):Int)>10000000000000000)=true:=ay (by omega);rw[a,ab e,aj]
 ·rw[ab h,ab (by omega)];rfl
def pre(d:aa)(i:Nat):Nat:=dval 0 (d.take i)*10 ^ (i - d.length)
def IA{d:aa}{i:Nat}{c:UInt8}(h:d[i]?=some c):pre d (i+1)=10*pre d i+(c.toNat - 48):=by
 have a:=sP h;unfold pre;rw[oa,h,show i+1 - d.length=0 by omega,show i - d.length=0 by omega];simp only[Option.toList,Ad,Nat.pow_zero,qx];omega
def Iu{d:aa}{i:Nat}(h:d.length<=i):pre d (i+1)=10*pre d i:=by
 unfold pre;rw[gI (show d.length<=i+1 by omega),gI h,show i+1 - d.length=(i - d.length)+1 by omega,pL];rw[<-y6];omega
def An(d:aa):∀k i,pre d i<=pre d (i+k)
 | 0,i=>aI _
 | k+1,i=>by
  have ih:=An d k i;rcases aA (i+k) d.length with a | b
  ·have:=IA (bN a);rw[show i+(k+1)=i+k+1 by omega,this];omega
  ·have:=Iu b;rw[show i+(k+1)=i+k+1 by omega,this];omega
def Cc(n:Nat)(d:aa)(x:Nat)(s:∀c∈d,bS c=true)(w:d.length<=100)(v:x<=100)(u:d.length+x<n):
  dc n d (x:Int)=some (if dval 0 d*10 ^ x<=E16 then(((dval 0 d*10 ^ x:Nat):Int),1)else(0,0)):=by
 have a:pre d (d.length+x)=dval 0 d*10 ^ x:=by
  unfold pre;rw[gI (by omega),show d.length+x - d.length=x by omega]
 have w0:wrap .i64 (((d.length:Nat):Int)+(x:Int))=((d.length+x:Nat):Int):=by rw[wrap_i64 _ (by omega) (by omega)];omega
 have:=eZ (step:=dh n) (λq=>∃i:Nat,i<=d.length+x/\pre d i<=E16/\q=(d,(x:Int),((pre d i:Nat):Int),(i:Int))) (λq=>d.length+x - q.2.2.2.toNat) (λ_=>if dval 0 d*10 ^ x<=E16 then .inr ((dval 0 d*10 ^ x:Nat):Int)else .inl (0,0)) (by
  rintro q ⟨i,hi,f,rfl⟩;simp only[dh,w0,jU];unfold E16 at f ⊢;have t:wrap .i64 ((i:Int)+1)=((i+1:Nat):Int):=by rw[wrap_i64 _ (by omega) (by omega)];omega
  have o:wrap .i64 (10*((pre d i:Nat):Int))=((10*pre d i:Nat):Int):=by rw[wrap_i64 _ (by omega) (by omega)];omega
  by_cases h1:i<d.length+x
  ·have hm:=An d (d.length+x - (i+1)) (i+1);rw[show i+1+(d.length+x - (i+1))=d.length+x by omega,a]at hm;simp only[h1,lZ,aj,t,o];rcases aA i d.length with e | g
   ·obtain⟨c,hc⟩:∃c,d[i]?=some c:=⟨d[i],bN e⟩;have l:=(fg c).1 (s c (dK hc));have k:=IA hc;have p:wrap .u8 (((c.toNat:Nat):Int) - 48)=((c.toNat - 48:Nat):Int):=by rw[gO _ (by omega) (by omega)];omega
    have m:wrap .i64 ((c.toNat - 48:Nat):Int)=((c.toNat - 48:Nat):Int):=wrap_i64 _ (by omega) (by omega);have r:wrap .i64 (((10*pre d i:Nat):Int)+((c.toNat - 48:Nat):Int))=((pre d (i+1):Nat):Int):=by rw[wrap_i64 _ (by omega) (by omega)];omega
    simp only[e,lZ,aj,kD hc,ob,p,m,r];by_cases h2:pre d (i+1)<=10000000000000000
    ·have b:decide (((pre d (i+1):Nat):Int)>10000000000000000)=false:=ax (by omega);simp only[b,ae];exact .inl ⟨_,rfl,⟨i+1,h1,h2,rfl⟩,by simp only[cc];omega,trivial⟩
    ·have b:decide (((pre d (i+1):Nat):Int)>10000000000000000)=true:=ay (by omega);simp only[b,aj];rw[ab (by omega)];exact .inr rfl
   ·have k:=Iu g;have j:¬i<d.length:=by omega
    simp only[j,lC,ae];rw[<-k];by_cases h2:pre d (i+1)<=10000000000000000
    ·have b:decide (((pre d (i+1):Nat):Int)>10000000000000000)=false:=ax (by omega);simp only[b,ae];exact .inl ⟨_,rfl,⟨i+1,h1,h2,rfl⟩,by simp only[cc];omega,trivial⟩
    ·have b:decide (((pre d (i+1):Nat):Int)>10000000000000000)=true:=ay (by omega);simp only[b,aj];rw[ab (by omega)];exact .inr rfl
  ·have:i=d.length+x:=by omega
   subst this;simp only[zl,lC,ae];rw[a]at f ⊢;rw[ad f];exact .inr rfl) n (d,(x:Int),0,0) ⟨0,by omega,by unfold pre E16;simp[lE],by unfold pre;simp[lE]⟩ (by simp;omega)
 simp only[dc,this,ob];by_cases h:dval 0 d*10 ^ x<=E16
 ·rw[ad h,ad h]
 ·rw[ab h,ab h]
def okM(d:aa)(x:Int):Prop:=(∀c∈d,bS c=true)/\1<=d.length/\d.length<=17/\d.head?≠some 48/\0<=x/\x<=16/\¬(x=0/\d.length<5)/\dval 0 d*10 ^ x.toNat<=E16
def okL(d:aa)(x s:Int):Prop:=okM d x/\0<=s/\s<=(d.length:Int)+x
def okS(g:Bool)(d:aa)(x s:Int):Prop:=d.length=4/\(∀c∈d,bS c=true\/c=88)/\x=0/\¬(g=true/\all0 d=true)/\0<=s/\s<=4/\¬(0<s/\hasX d=true)
def okY(g l:Bool)(d:aa)(x s:Int):Prop:=if l=true then okL d x s else okS g d x s
instance (d:aa)(x:Int):Decidable (okM d x):=by unfold okM;infer_instance
instance (d:aa)(x s:Int):Decidable (okL d x s):=by unfold okL;infer_instance
instance (g:Bool)(d:aa)(x s:Int):Decidable (okS g d x s):=by unfold okS;infer_instance
instance (g l:Bool)(d:aa)(x s:Int):Decidable (okY g l d x s):=by unfold okY;infer_instance
def F8(d:aa):d.all bS=true↔∀c∈d,bS c=true:=ct
def BB(d:aa):(d.all λc=>bS c||c==88)=true↔∀c∈d,bS c=true\/c=88:=by
 rw[ct];constructor
 ·intro h c hc;have:=h c hc;simpa using this
 ·intro h c hc;have:=h c hc;simpa using this
def LE(c:UInt8):(((c.toNat:Nat):Int)==48)=(c==48):=I2 c 48
def KF(n:Nat)(g l:Bool)(d:aa)(x s:Int)(y:200<n)(z:d.length<=100):aH n g l d x s=some (decide (okM d x)):=by
 unfold aH;by_cases h1:d.length<1
 ·have e:decide (((d.length:Nat):Int)<1)=true:=ay (by omega);rw[e,ax (λh:okM d x=>by have:=h.2.1;omega)];rfl
 ·have e:decide (((d.length:Nat):Int)<1)=false:=ax (by omega);rw[e,ae];by_cases h2:d.length>17
  ·have e:decide (((d.length:Nat):Int)>17)=true:=ay (by omega);rw[e,ax (λh:okM d x=>by have:=h.2.2.1;omega)];rfl
  ·have e:decide (((d.length:Nat):Int)>17)=false:=ax (by omega);rw[e,ae,Dv n d (by omega) (by omega)];simp only[ob];cases t:d.all bS with
   | false=>
    rw[ax (λh:okM d x=>by rw[(F8 d).2 h.1]at t;cases t)];rfl
   | true=>
    have a:=(F8 d).1 t;obtain⟨c,r,rfl⟩:∃c r,d=c::r:=by
     cases d with
     | nil=>simp at h1
     | cons c r=>exact⟨c,r,rfl⟩
    have o:sx (c::r) 0=some c:=by simp[sx]
    simp only[da,ae,o,LE];by_cases m:c=48
    ·rw[ax (λh:okM (c::r) x=>h.2.2.2.1 (by rw[m];rfl)),m];rfl
    ·have e:(c==48)=false:=bA.2 m;rw[e,ae];by_cases u:x<0
     ·rw[ay u,ax (λh:okM (c::r) x=>by have:=h.2.2.2.2.1;omega)];rfl
     ·rw[ax u,ae];by_cases w:x>16
      ·rw[ay w,ax (λh:okM (c::r) x=>by have:=h.2.2.2.2.2.1;omega)];rfl
      ·rw[ax w,ae];obtain⟨k,rfl⟩:∃k:Nat,x=(k:Int):=⟨x.toNat,by omega⟩;have p:=D6 n g l (c::r) k s a (by simp) (by omega) (by omega) (by omega);rw[p];have key:¬((k:Int)=0/\(c::r).length<5)->(okM (c::r) (k:Int)↔dval 0 (c::r)*10 ^ k<=E16):=by
        intro i;constructor
        ·intro h;simpa using h.2.2.2.2.2.2.2
        ·intro h;exact⟨a,by omega,by omega,by simpa using m,by omega,by omega,i,by simpa using h⟩
       have b:¬((k:Int)=0/\(c::r).length<5)->(ob (some (if dval 0 (c::r)*10 ^ k<=E16 then(((dval 0 (c::r)*10 ^ k:Nat):Int),(0:Int))else(0,6))) λq=>(some (q.2==0)))=some (decide (okM (c::r) (k:Int))):=by
        intro i;by_cases j:dval 0 (c::r)*10 ^ k<=E16
        ·rw[ad j,ay ((key i).2 j)];rfl
        ·rw[ab j,ax (λh=>j ((key i).1 h))];rfl
       by_cases f:(k:Int)=0
       ·have e:((k:Int)==0)=true:=bI.2 f;rw[e,aj];by_cases v:(c::r).length<5
        ·have e:decide ((((c::r).length:Nat):Int)<5)=true:=ay (by omega);rw[e,ax (λh:okM (c::r) (k:Int)=>h.2.2.2.2.2.2.1 ⟨f,v⟩)];rfl
        ·have e:decide ((((c::r).length:Nat):Int)<5)=false:=ax (by omega);rw[e,ae];exact b (λh=>v h.2)
       ·have e:((k:Int)==0)=false:=bA.2 f;rw[e,ae];exact b (λh=>f h.1)
def H4(n:Nat)(g l:Bool)(d:aa)(x s:Int)(b:200<n)(a:d.length<=100):
  (ob (aH n g l d x s) λr=>(cond (!r) (some (6:Int)) (cond (decide (s<0)) (some 6) (cond (decide (s>(wrap .i64 (((d.length:Nat):Int)+x)))) (some 6) (some 0)))))=some (if okL d x s then 0 else 6):=by
 rw[KF n g l d x s b a];simp only[ob];by_cases h:okM d x
 ·rw[ay h];have c:=h.2.2.2.2;have w:wrap .i64 (((d.length:Nat):Int)+x)=((d.length:Nat):Int)+x:=wrap_i64 _ (by omega) (by omega);rw[w];simp only[da,ae,aY];by_cases h1:s<0
  ·rw[ad h1,ab (λq:okL d x s=>by have:=q.2.1;omega)]
  ·rw[ab h1];by_cases h2:s>((d.length:Nat):Int)+x
   ·rw[ad h2,ab (λq:okL d x s=>by have:=q.2.2;omega)]
   ·rw[ab h2,ad ⟨h,by omega,by omega⟩]
 ·rw[ax h,ab (λq:okL d x s=>h q.1)];rfl
def Ag(n:Nat)(g l:Bool)(d:aa)(x s:Int)(u:200<n)(v:d.length<=100):bw n g l d x s=some (if okY g l d x s then 0 else 6):=by
 obtain⟨y,z,t⟩:=Kq n d (by omega) (by omega);unfold bw;rw[CQ n d (by omega) (by omega),z,kY];cases l with
 | true=>
  have b:(if okY g true d x s then(0:Int)else 6)=if okL d x s then 0 else 6:=by simp only[okY,be]
  rw[b];have st:=H4 n g true d x s u v;simp only[aj];generalize(ob (aH n g true d x s) λr=>(cond (!r) (some (6:Int)) (cond (decide (s<0)) (some 6) (cond (decide (s>(wrap .i64 (((d.length:Nat):Int)+x)))) (some 6) (some 0)))))=T at st ⊢;simp only[ob];rw[st];cases(((d.length:Nat):Int)==4)<;>cases(d.all λc=>bS c||c==88)<;>cases(x==0)<;>cases g<;>cases(y==[])<;>cases(s != 0)<;>rfl
 | false=>
  have b:(if okY g false d x s then(0:Int)else 6)=if okS g d x s then 0 else 6:=by simp only[okY,cb,aD]
  rw[b];simp only[ae,ob];by_cases h1:d.length=4
  ·have f:(((d.length:Nat):Int)==4)=true:=bI.2 (by omega);rw[f,aj];cases h2:(d.all λc=>bS c||c==88)with
   | false=>
    rw[ab (λq:okS g d x s=>by rw[(BB d).2 q.2.1]at h2;cases h2)];rfl
   | true=>
    have e:=(BB d).1 h2;rw[aj];by_cases j:x=0
    ·subst j;have w:wrap .i64 (((d.length:Nat):Int)+0)=4:=by rw[h1];decide
     rw[w];have a:¬(g=true/\all0 d=true)->(cond (s != 0) (cond (!(!hasX d)) (some (6:Int)) (cond (decide (s<0)) (some 6) (cond (decide (s>4)) (some 6) (some 0)))) (cond (decide (s<0)) (some 6) (cond (decide (s>4)) (some 6) (some 0))))=some (if okS g d 0 s then 0 else 6):=by
      intro k;simp only[aY,zM,Bool.not_not];by_cases s0:s=0
      ·subst s0;rw[ad rfl,ab (by omega),ab (by omega),ad ⟨h1,e,rfl,k,by omega,by omega,by omega⟩]
      ·rw[ab s0];cases o:hasX d with
       | true=>
        by_cases i:s<0
        ·rw[ab (λq:okS g d 0 s=>by have:=q.2.2.2.2.1;omega)];rfl
        ·rw[ab (λq:okS g d 0 s=>q.2.2.2.2.2.2 ⟨by omega,o⟩)];rfl
       | false=>
        rw[ae];by_cases i:s<0
        ·rw[ad i,ab (λq:okS g d 0 s=>by have:=q.2.2.2.2.1;omega)]
        ·rw[ab i];by_cases p:s>4
         ·rw[ad p,ab (λq:okS g d 0 s=>by have:=q.2.2.2.2.2.1;omega)]
         ·rw[ab p,ad ⟨h1,e,rfl,k,by omega,by omega,λq=>by rw[o]at q;cases q.2⟩]
     have h:((0:Int)==0)=true:=rfl;rw[h,aj];cases g with
     | false=>
      simp only[ae];exact a (by simp)
     | true=>
      simp only[aj];rw[t];cases m:all0 d with
      | true=>rw[ab (λq:okS true d 0 s=>q.2.2.2.1 ⟨rfl,m⟩)];rfl
      | false=>
       simp only[dU,aj];exact a (by rw[m];simp)
    ·have h:(x==0)=false:=bA.2 j;rw[h,ab (λq:okS g d x s=>j q.2.2.1)];rfl
  ·have f:(((d.length:Nat):Int)==4)=false:=bA.2 (by omega);rw[f,ab (λq:okS g d x s=>h1 q.1)];rfl
def JB(d:aa):cnt 48 57 d=d.length↔∀c∈d,bS c=true:=Dw 48 57 d
def Ei(n:Nat)(g l:Bool)(d:aa)(x s:Int)(M:200<n)(J:d.length<=100):bL n g l d x s=some (if okY g l d x s then 1 else 0):=by
 have C:=Ed d;have v:=GK d;have t:=Hw d;have m:=JB d;unfold bL;rw[Dm n d 48 57 (by omega) (by omega),Dm n d 88 88 (by omega) (by omega),Dm n d 48 48 (by omega) (by omega)];simp only[ob];generalize L:cnt 48 57 d=A at *;generalize K:cnt 88 88 d=B at *;have w0:wrap .i64 (((A:Nat):Int)+((B:Nat):Int))=((A+B:Nat):Int):=by rw[wrap_i64 _ (by omega) (by omega)];omega
 rw[w0];simp only[zM,aY,G2];by_cases h1:A+B=d.length
 ·rw[ad (by omega)];have p:=C.2.1 h1;by_cases h2:s<0
  ·rw[ad h2,ab];intro q;unfold okY at q;split at q
   ·have:=q.2.1;omega
   ·have:=q.2.2.2.2.1;omega
  ·rw[ab h2];cases l with
   | false=>
    have i:(if okY g false d x s then(1:Int)else 0)=if okS g d x s then 1 else 0:=by simp only[okY,cb,aD]
    rw[i,ae];by_cases j:d.length=4
    ·rw[ad (by omega)];by_cases f:x=0
     ·rw[ad f];have a:¬(g=true/\all0 d=true)->(if s>4 then some (0:Int)else if s>0 then(if((B:Nat):Int)>0 then some 0 else some 1)else some 1)=some (if okS g d x s then 1 else 0):=by
       intro D;by_cases w:s>4
       ·rw[ad w,ab (λq:okS g d x s=>by have:=q.2.2.2.2.2.1;omega)]
       ·rw[ab w];by_cases z:s>0
        ·rw[ad z];by_cases o:((B:Nat):Int)>0
         ·rw[ad o,ab (λq:okS g d x s=>q.2.2.2.2.2.2 ⟨by omega,by rw[v];exact ay (by omega)⟩)]
         ·rw[ab o,ad ⟨j,p,f,D,by omega,by omega,λq=>by
           have:=q.2;rw[v,aT]at this;omega⟩]
        ·rw[ab z,ad ⟨j,p,f,D,by omega,by omega,λq=>by omega⟩]
      cases g with
      | false=>rw[ae];exact a (by simp)
      | true=>
       rw[aj,jd];by_cases e:all0 d=true
       ·rw[ad (by have:=t.1 e;omega),ab (λq:okS true d x s=>q.2.2.2.1 ⟨rfl,e⟩)]
       ·rw[ab (λq=>e (t.2 (by omega)))];exact a (λq=>e q.2)
     ·rw[ab f,ab (λq:okS g d x s=>f q.2.2.1)]
    ·rw[ab (by omega),ab (λq:okS g d x s=>j q.1)]
   | true=>
    have i:(if okY g true d x s then(1:Int)else 0)=if okL d x s then 1 else 0:=by simp only[okY,be]
    rw[i,aj];by_cases o:((B:Nat):Int)>0
    ·rw[ad o,ab];intro q;have:=m.2 q.1.1;omega
    ·rw[ab o];have h:=m.1 (by omega);by_cases j:((A:Nat):Int)<1
     ·rw[ad j,ab (λq:okL d x s=>by have:=q.1.2.1;omega)]
     ·rw[ab j];by_cases f:((A:Nat):Int)>17
      ·rw[ad f,ab (λq:okL d x s=>by have:=q.1.2.2.1;omega)]
      ·rw[ab f];obtain⟨c,r,rfl⟩:∃c r,d=c::r:=by
        cases d with
        | nil=>simp at h1;omega
        | cons c r=>exact⟨c,r,rfl⟩
       have y:sx (c::r) 0=some c:=by simp[sx]
       simp only[y,LE,jd];by_cases e:c=48
       ·rw[ad e,ab (λq:okL (c::r) x s=>q.1.2.2.2.1 (by rw[e];rfl))]
       ·rw[ab e];by_cases E:x<0
        ·rw[ad E,ab (λq:okL (c::r) x s=>by have:=q.1.2.2.2.2.1;omega)]
        ·rw[ab E];by_cases G:x>16
         ·rw[ad G,ab (λq:okL (c::r) x s=>by have:=q.1.2.2.2.2.2.1;omega)]
         ·rw[ab G];obtain⟨k,rfl⟩:∃k:Nat,x=(k:Int):=⟨x.toNat,by omega⟩;have H:wrap .i64 (((A:Nat):Int)+(k:Int))=((A+k:Nat):Int):=by rw[wrap_i64 _ (by omega) (by omega)];omega
          rw[H,Cc n (c::r) k h J (by omega) (by omega)];have u:(c::r).length=A:=by omega
          have a:¬((k:Int)=0/\(c::r).length<5)->(if s>((A+k:Nat):Int)then some (0:Int)else some (if dval 0 (c::r)*10 ^ k<=E16 then(((dval 0 (c::r)*10 ^ k:Nat):Int),(1:Int))else(0,0)).2)=some (if okL (c::r) (k:Int) s then 1 else 0):=by
           intro I;by_cases w:s>((A+k:Nat):Int)
           ·rw[ad w,ab (λq:okL (c::r) (k:Int) s=>by have:=q.2.2;rw[u]at this;omega)]
           ·rw[ab w];by_cases b:dval 0 (c::r)*10 ^ k<=E16
            ·rw[ad b,ad ⟨⟨h,by omega,by omega,by simpa using e,by omega,by omega,I,by simpa using b⟩,by omega,by omega⟩]
            ·rw[ab b,ab (λq:okL (c::r) (k:Int) s=>b (by simpa using q.1.2.2.2.2.2.2.2))]
          by_cases b:(k:Int)=0
          ·rw[ad b];by_cases F:((A:Nat):Int)<5
           ·rw[ad F,ab (λq:okL (c::r) (k:Int) s=>q.1.2.2.2.2.2.2.1 ⟨b,by omega⟩)]
           ·rw[ab F];exact a (λq=>by omega)
          ·rw[ab b];exact a (λq=>b q.1)
 ·rw[ab (by omega),ab];intro q;apply h1;rw[C.2];unfold okY at q;split at q
  ·exactλc hc=>.inl (q.1.1 c hc)
  ·exact q.2.1
def EM:∀(l:aa) (a:Nat),a*10 ^ l.length<=dval a l
 | [],a=>by rw[lE];simp
 | c::l,a=>by
  have ih:=EM l (rc a c);rw[lh,bp,pL];have h:a*10<=rc a c:=Nat.le_add_right _ _;have h2:=kH (10 ^ l.length) h;have b:a*(10 ^ l.length*10)=a*10*10 ^ l.length:=by rw[vJ (10 ^ l.length) 10,y6]
  omega
def qz:∀(l:aa) (a k:Nat),(∀c∈l,bS c=true)->a<10 ^ k->dval a l<10 ^ (l.length+k)
 | [],a,k,_,h=>by rw[lE];simpa using h
 | c::l,a,k,e,h=>by
  have hc:=(fg c).1 (e c (by simp));have f:(10:Nat) ^ (k+1)=10 ^ k*10:=pL 10 k;have g:rc a c=a*10+(c.toNat - 48):=rfl;have ih:=qz l (rc a c) (k+1) (λd b=>e d (by simp[b])) (by omega);rw[lh,bp,show l.length+1+k=l.length+(k+1)by omega];exact ih
structure Num(d:aa)(k q:Nat):Prop where
 dig:∀c∈d,bS c=true
 ne:d≠[]
 wide:d.length+k<=17
 small:dval 0 d*10 ^ k<=E16
 sig:q<=d.length+k
def rq{d:aa}(h:∀c∈d,bS c=true):hasX d=false:=by
 unfold hasX;rw[qM];intro c hc a;rw[bI]at a;have:=(fg c).1 (h c hc);rw[a]at this;exact absurd this.2 (by decide)
def uZ{g l:Bool}{d:aa}{x s:Int}(h:okY g l d x s)(n:hasX d=false):∃k q:Nat,x=(k:Int)/\s=(q:Int)/\Num d k q:=by
 cases l with
 | true=>
  have h:okL d x s:=by simpa[okY]using h
  obtain⟨⟨h1,h2,A,m,t,z,v,u⟩,o,w⟩:=h;refine⟨x.toNat,s.toNat,by omega,by omega,h1,by intro e;subst e;simp at h2,?_,u,by omega⟩;cases d with
  | nil=>simp at h2
  | cons c r=>
   have hc:=(fg c).1 (h1 c (by simp));have j:c≠48:=by simpa using m
   have i:1<=rc 0 c:=by
    have:c.toNat≠48:=λe=>j (iW.1 e);show 1<=0*10+(c.toNat - 48);omega
   have y:=EM r (rc 0 c);rw[<-lh]at y;have o:10 ^ r.length<=dval 0 (c::r):=by
    have:=kH (10 ^ r.length) i;omega
   have f:=kH (10 ^ x.toNat) o;rw[<-Nat.pow_add]at f;rcases aA (r.length+x.toNat) 17 with a | b
   ·simp only[bp];omega
   ·have:=JR b;omega
 | false=>
  have h:okS g d x s:=by simpa[okY]using h
  obtain⟨h1,h2,A,m,t,z,v⟩:=h;have p:∀c∈d,bS c=true:=by
   intro c hc;rcases h2 c hc with h | h
   ·exact h
   ·exfalso;unfold hasX at n;rw[qM]at n;exact n c hc (bI.2 h)
  have a:=qz d 0 0 p (by simp);rw[h1]at a;refine⟨0,s.toNat,by omega,by omega,p,by intro e;subst e;simp at h1,by omega,?_,by omega⟩;have m:(10:Nat) ^ (4+0)=10000:=by decide
  unfold E16;simp only[Nat.pow_zero,qx];omega
def val(d:aa)(k:Nat):Nat:=dval 0 d*10 ^ k
def A5(n:Nat)(g l:Bool)(d:aa)(x s:Int)(c:200<n)(e:d.length<=100):
  dE n g l d x s=some (if okY g l d x s/\hasX d=false then(if g then -((val d x.toNat:Nat):Int)else((val d x.toNat:Nat):Int),0)else(0,6)):=by
 unfold dE;rw[Ag n g l d x s c e,kY];simp only[ob];by_cases h:okY g l d x s
 ·rw[ad h];cases f:hasX d with
  | true=>rw[ab (by simp)];rfl
  | false=>
   rw[ad ⟨h,rfl⟩];obtain⟨k,q,rfl,rfl,a⟩:=uZ h f;rw[D6 n g l d k q a.dig a.ne (by have:=a.wide;omega) (by have:=a.wide;omega) (by omega),ad a.small];have b:=a.small;unfold E16 at b;cases g with
   | true=>
    simp only[ek,ae,aj,cc,val,be];rw[wrap_i64 _ (by omega) (by omega),Int.zero_sub]
   | false=>simp[val]
 ·rw[ab h,ab (λq=>h q.1)];rfl
def oG{a b:aa}(h:a.length+b.length<=1000000):cat a b=some (a++b):=by
 unfold cat;rw[ad (by omega)]
def cut1{l:aa}{i:Nat}{c:UInt8}(h:l[i]?=some c):List.drop i (List.take (i+1) l)=[c]:=by
 have a:=sP h;rw[oa,h,List.drop_left' (by rw[dj];omega)];rfl
def NV{l:aa}{i:Nat}{c:UInt8}(h:l[i]?=some c):List.take (i+1) l=List.take i l++[c]:=by
 rw[oa,h];rfl
def mm{g l:Bool}{d:aa}{x s:Int}(h:okY g l d x s)(a:hasX d=true):l=false/\x=0/\s=0/\d.length=4/\∀c∈d,bS c=true\/c=88:=by
 cases l with
 | true=>
  have h:okL d x s:=by simpa[okY]using h
  rw[rq h.1.1]at a;cases a
 | false=>
  have h:okS g d x s:=by simpa[okY]using h
  obtain⟨h1,h2,f,k,i,j,b⟩:=h;refine⟨rfl,f,?_,h1,h2⟩;have:¬0<s:=λe=>b ⟨e,a⟩;omega
def rM{g l:Bool}{d:aa}{x s:Int}(h:okY g l d x s):0<=x/\x<=16/\0<=s/\s<=17/\1<=d.length/\d.length<=17:=by
 cases b:hasX d with
 | true=>
  obtain⟨rfl,rfl,rfl,e,_⟩:=mm h b;omega
 | false=>
  obtain⟨k,q,rfl,rfl,a⟩:=uZ h b;have h1:=a.wide;have h2:=a.sig;have f:1<=d.length:=by
   cases d with
   | nil=>exact absurd rfl a.ne
   | cons c r=>simp
  omega
def isDX(c:UInt8):Bool:=bS c||c==88
def wint(c:Int):Bool:=c==24||c==28||c==30
def vD(g:Bool)(d:aa)(x:Int):Bool:=!hasX d&&!g&&decide (val d x.toNat=E16)
def yrB(g:Bool)(d:aa)(x s:Int)(m:aa):Bool:=!(decide (0<s)&&!(m==[]))&&!(wint (sea m)&&vD g d x)
def xK(n:Nat)(p:200<n)(g l:Bool)(dg:aa)(x q:Int)(m d:aa)(k0 k1 k2:Int)(hm:m.length<=18)(i:dg.length<=100):
  dF n g l dg x q m d k0 k1 k2=some (if okY g l dg x q then yrB g dg x q m else false):=by
 unfold dF;rw[Ag n g l dg x q p i,sa n g l dg x q m d k0 k1 k2 hm,kY,A5 n g l dg x q p i];by_cases h:okY g l dg x q
 rotate_left
 ·rw[ab h,ab h];rfl
 rw[ad h,ad h];have body:(ob (some (sea m,decide (0<sea m))) λr=>(cond (!r.2) (some true) (ob (some (hasX dg)) λw=>(cond w (some true) (ob (some (if okY g l dg x q/\hasX dg=false then(if g then -((val dg x.toNat:Nat):Int)else((val dg x.toNat:Nat):Int),(0:Int))else(0,6))) λB=>(ob (gM n B.1 r.1) λA=>(some (A.2.2.2.2==0))))))))=some (!(wint (sea m)&&vD g dg x)):=by
  rcases k9 m with h0 | ⟨j,o,rfl⟩
  ·rw[h0];rfl
  ·have u:=pR o;rw[u];have s:decide (0<((21+j:Nat):Int))=true:=by simp;omega
   rw[s];cases f:hasX dg with
   | true=>
    have:vD g dg x=false:=by unfold vD;rw[f];rfl
    rw[this,qH];rfl
   | false=>
    rw[ad ⟨h,rfl⟩];obtain⟨k,E,rfl,rfl,y⟩:=uZ h f;have t:val dg k<=E16:=y.small;unfold E16 at t;have hc:bU (if g then -((val dg k:Nat):Int)else((val dg k:Nat):Int)):=by
     unfold bU;cases g<;>simp<;>omega
    obtain⟨a,b,c,e,v⟩:=Ns n (by omega) hc o;simp only[ob,da,ae,cc];rw[v];simp only[af];have C:wint ((21+j:Nat):Int)=decide (j=3\/j=7\/j=9):=by
     unfold wint;rw[Bq];simp only[fH,bI,aT];omega
    have D:vD g dg (k:Int)=decide ((if g then -((val dg k:Nat):Int)else((val dg k:Nat):Int))=10000000000000000):=by
     unfold vD E16;rw[f,cc];cases g
     ·simp only[dU,kB,cb,aD,sX];omega
     ·simp;omega
    rw[C,D];by_cases h1:(if g then -((val dg k:Nat):Int)else((val dg k:Nat):Int))=10000000000000000<;>by_cases h2:j=3\/j=7\/j=9
    ·rw[ad ⟨h1,h2⟩,ay h1,ay h2];rfl
    ·rw[ab (λz=>h2 z.2),ax h2];rfl
    ·rw[ab (λz=>h1 z.1),ax h1,qH];rfl
    ·rw[ab (λz=>h1 z.1),ax h1,qH];rfl
 show cond (decide (q>0)) (cond (!(m==[])) (some false) _) _=_;unfold yrB;rw[show(decide (q>0))=decide (0<q)from rfl];cases decide (0<q)with
 | false=>exact body
 | true=>
  cases(m==[])with
  | false=>rfl
  | true=>exact body
def bH(m d:aa):Nat:=1+(if m==[]then 0 else 1)+(if d==[]then 0 else 1)
def wL(n:Nat)(e:100<n)(g l:Bool)(dg:aa)(x q:Int)(m d:aa)(k0 k1 k2:Int):aK n g l dg x q m d k0 k1 k2=some ((bH m d:Nat):Int):=by
 obtain⟨n,rfl⟩:∃j,n=j+3:=⟨n - 3,by omega⟩;unfold aK bH;have s0:∀a:Int,bj (n+3) (a,m,d,0)=some (.inl (if m==[]then a else wrap .i64 (a+1),m,d,1)):=λa=>by
  unfold bj;show cond (!(m==[])) _ _=_;cases(m==[])<;>rfl
 have c:∀a:Int,bj (n+3) (a,m,d,1)=some (.inl (if d==[]then a else wrap .i64 (a+1),m,d,2)):=λa=>by
  unfold bj;show cond (!(d==[])) _ _=_;cases(d==[])<;>rfl
 have b:∀a:Int,bj (n+3) (a,m,d,2)=some (.inr a):=λa=>rfl;rw[au,s0];show ob (au _ (n+2) _) _=_;rw[au,c];show ob (au _ (n+1) _) _=_;rw[au,b];cases(m==[])<;>cases(d==[])<;>rfl
def jb(n:Nat)(g l:Bool)(dg:aa)(x q:Int)(m d:aa)(k0 k1 k2:Int):am n g l dg x q m d k0 k1 k2=some ((bH m d:Nat):Int):=by
 unfold am bH;cases(m==[])<;>cases(d==[])<;>rfl
def allM(a b c:Int)(k:Nat):Int:=if 3<a\/3<b\/3<c\/(k<2/\b≠0)\/(k<3/\c≠0)then 9 else 0
def Jw(n:Nat)(u:3<n)(a b c:Int)(k:Nat)(s:1<=k/\k<=3)(v:0<=a)(t:0<=b)(hc:0<=c):
  cM n [a,b,c] (k:Int)=some (allM a b c k):=by
 obtain⟨j,rfl⟩:∃j,n=j+4:=⟨n - 4,by omega⟩;have l:wrap .i64 1=1:=rfl;have e:wrap .i64 2=2:=rfl;have g:wrap .i64 3=3:=rfl;have h:ix 3 0=some 0:=rfl;have f:ix 3 1=some 1:=rfl;have m:ix 3 2=some 2:=rfl;have hk':k=1\/k=2\/k=3:=by omega
 unfold allM;by_cases i:a>3
 ·rcases hk' with rfl | rfl | rfl<;>simp[cM,au,eC,eI,ob,l,e,g,h,f,m,i]
 by_cases o:b>3
 ·rcases hk' with rfl | rfl | rfl<;>simp[cM,au,eC,eI,ob,l,e,g,h,f,m,i,o]
 by_cases d:k=1/\b≠0
 ·obtain⟨rfl,d⟩:=d;have h0:b>0:=by omega
  have q:(b != 0)=true:=by simp[d]
  simp[cM,au,eC,eI,ob,l,e,g,h,f,m,i,o,h0,d,q]
 by_cases r:c>3
 ·rcases hk' with rfl | rfl | rfl<;>(try (simp at d;subst d))<;>simp[cM,au,eC,eI,ob,l,e,g,h,f,m,i,o,r]
 by_cases p:k<3/\c≠0
 ·have h0:c>0:=by omega
  have q:(c != 0)=true:=by simp[p.2]
  rcases hk' with rfl | rfl | rfl<;>(try (simp at d;subst d))<;>simp at p<;>simp[cM,au,eC,eI,ob,l,e,g,h,f,m,i,o,r,h0,p,q]
 rcases hk' with rfl | rfl | rfl<;>(try (simp at d;subst d))<;>(try (simp at p;subst p))<;>simp[cM,au,eC,eI,ob,l,e,g,h,f,m,i,o,r]
def tN(m d:aa):1<=bH m d/\bH m d<=3:=by
 unfold bH;cases(m==[])<;>cases(d==[])<;>simp
def yrD(g l:Bool)(dg:aa)(x q:Int)(m:aa):Bool:=if okY g l dg x q then yrB g dg x q m else false
def chkD(g l:Bool)(dg:aa)(x q:Int)(m d:aa)(k0 k1 k2:Int):Int:=
 cond (!(yrD g l dg x q m)) 6 (cond (!(m==[])&&(!(decide (0<sea m))&&!(eF m 12))) 7
  (cond (!(d==[])&&((m==[])||(decide (0<sea m)||!(eF d 31)))) 8 (allM k0 k1 k2 (bH m d))))
def KX(m:aa):0<=sea m:=by
 rcases k9 m with h | ⟨j,a,rfl⟩
 ·omega
 ·rw[pR a];omega
def Hf(n:Nat)(j:200<n)(g l:Bool)(dg:aa)(x q:Int)(m d:aa)(k0 k1 k2:Int)(hm:m.length<=18)(e:dg.length<=100)(h0:0<=k0)(h1:0<=k1)(h2:0<=k2):
  fS n g l dg x q m d k0 k1 k2=some (chkD g l dg x q m d k0 k1 k2):=by
 have c:dF n g l dg x q m d k0 k1 k2=some (yrD g l dg x q m):=xK n j g l dg x q m d k0 k1 k2 hm e;have f:bM n m 12=some (eF m 12):=yj n (by omega) m 12 (by omega);have h:bM n d 31=some (eF d 31):=yj n (by omega) d 31 (by omega);have k:=Jw n (by omega) k0 k1 k2 (bH m d) (tN m d) h0 h1 h2;unfold fS chkD;rw[sa n g l dg x q m d k0 k1 k2 hm,c,f,h,wL n (by omega)];simp only[ob];rw[k];generalize yrD g l dg x q m=r;generalize(m==[])=i;generalize decide (0<sea m)=p;generalize eF m 12=o;generalize(d==[])=a;generalize eF d 31=b;cases r<;>cases i<;>cases p<;>cases o<;>cases a<;>cases b<;>rfl
def E1{g l:Bool}{dg:aa}{x q:Int}{m d:aa}{k0 k1 k2:Int}(h:chkD g l dg x q m d k0 k1 k2=0):yrD g l dg x q m=true/\(m=[]\/0<sea m\/eF m 12=true)/\(d=[]\/(m≠[]/\sea m=0/\eF d 31=true))/\allM k0 k1 k2 (bH m d)=0:=by
 have f:=KX m;unfold chkD at h;cases c:yrD g l dg x q m with
 | false=>rw[c]at h;exact absurd h (by simp)
 | true=>
  rw[c]at h;simp only[da,ae]at h;cases b:(!(m==[])&&(!(decide (0<sea m))&&!(eF m 12)))with
  | true=>rw[b]at h;exact absurd h (by simp)
  | false=>
   rw[b]at h;simp only[ae]at h;cases a:(!(d==[])&&((m==[])||(decide (0<sea m)||!(eF d 31))))with
   | true=>rw[a]at h;exact absurd h (by simp)
   | false=>
    rw[a]at h;simp only[ae]at h;refine⟨rfl,?_,?_,h⟩
    ·by_cases h1:m=[]
     ·exact .inl h1
     ·by_cases h2:0<sea m
      ·exact .inr (.inl h2)
      ·simp[h1,h2]at b;exact .inr (.inr b)
    ·by_cases h1:d=[]
     ·exact .inl h1
     ·by_cases h2:m=[]
      ·simp[h1,h2]at a
      ·by_cases e:0<sea m
       ·simp[h1,h2,e]at a
       ·simp[h1,h2,e]at a;exact .inr ⟨h2,by omega,a⟩
def m8{s:aa}{g:Nat}(l:g<=31)(h:eF s g=true):s.length=2/\∀c∈s,isDX c=true:=by
 unfold eF at h;obtain⟨i,hm,hi⟩:=mf.1 h;have e:i<g:=iN.1 hm;have dig:∀k:Nat,k<10->isDX (UInt8.ofNat (48+k))=true:=by decide
 have d:isDX 88=true:=by decide
 match s,hi with
 | [],hi=>simp[agr]at hi
 | [_],hi=>simp[agr]at hi
 | [a,b],hi=>
  refine⟨rfl,?_⟩;simp only[agr,aw,fH,bI]at hi;obtain⟨j,f⟩:=hi;intro c hc;simp only[bv,n8,qs]at hc;rcases hc with rfl | rfl
  ·rcases j with rfl | rfl
   ·exact d
   ·exact dig _ (by omega)
  ·rcases f with rfl | rfl
   ·exact d
   ·exact dig _ (by omega)
 | _::_::_::_,hi=>simp[agr]at hi
def FB{m:aa}(h:0<sea m):m.length=2/\∀c∈m,isDX c=true:=by
 rcases k9 m with h0 | ⟨j,a,rfl⟩
 ·omega
 ·refine⟨rfl,?_⟩;have:((List.range 21).all λj=>(two (21+j)).all isDX)=true:=by decide +kernel
  have:=(ct.1 this) j (by simpa using a);exact ct.1 this
def inM(k:Nat)(A:Nat×Nat×Nat):Prop:=A.1<4/\A.2.1<4/\A.2.2<4/\(k<2->A.2.1=0)/\(k<3->A.2.2=0)
def Kr{k:Nat}{A:Nat×Nat×Nat}(h:inM k A):allM (A.1:Int) (A.2.1:Int) (A.2.2:Int) k=0:=by
 obtain⟨h0,h1,h2,b,a⟩:=h;unfold allM;rw[ab (by omega)]
def cutD(r:Nat)(h:r<10):List.drop r (List.take (r+1) ([48,49,50,51,52,53,54,55,56,57]:aa))=[UInt8.ofNat (48+r)]:=by
 have:∀r,r<10->List.drop r (List.take (r+1) ([48,49,50,51,52,53,54,55,56,57]:aa))=[UInt8.ofNat (48+r)]:=by decide
 exact this r h
def tC{k:Nat}(h:k<10):(UInt8.ofNat (48+k)).toNat=48+k:=by
 rw[zF];exact n7 (by omega)
def JD(n a:Nat)(q:a<65536):∃d,iu n (a:Int)=some d/\d.length=4/\∀c∈d,bS c=true:=by
 have l:Int.tmod (a:Int) 10000=((a%10000:Nat):Int):=rfl;have j:a%10000<10000:=mB _ (by decide);generalize a%10000=N at *;have g:Int.tdiv (N:Int) 1000=((N / 1000:Nat):Int):=rfl;have f:Int.tdiv (N:Int) 100=((N / 100:Nat):Int):=rfl;have o:Int.tdiv (N:Int) 10=((N / 10:Nat):Int):=rfl;have p:wrap .u16 ((N / 1000:Nat):Int)=((N / 1000:Nat):Int):=rA _ (by omega) (by omega);have h:wrap .u16 ((N / 100:Nat):Int)=((N / 100:Nat):Int):=rA _ (by omega) (by omega);have k:wrap .u16 ((N / 10:Nat):Int)=((N / 10:Nat):Int):=rA _ (by omega) (by omega);have m2:Int.tmod ((N / 100:Nat):Int) 10=((N / 100%10:Nat):Int):=rfl;have m:Int.tmod ((N / 10:Nat):Int) 10=((N / 10%10:Nat):Int):=rfl;have i:Int.tmod (N:Int) 10=((N%10:Nat):Int):=rfl;have s:∀r:Nat,r<10->wrap .u16 ((r:Int)+1)=((r+1:Nat):Int):=λr e=>by rw[rA _ (by omega) (by omega)];omega
 refine⟨[UInt8.ofNat (48+N / 1000),UInt8.ofNat (48+N / 100%10),UInt8.ofNat (48+N / 10%10),UInt8.ofNat (48+N%10)],?_,rfl,?_⟩
 ·simp only[iu,l,g,f,o,p,h,k,m2,m,i,s (N / 1000) (by omega),s (N / 100%10) (by omega),s (N / 10%10) (by omega),s (N%10) (by omega),ge (show N / 1000+1<=10 by omega),ge (show N / 1000<=N / 1000+1 by omega),ge (show N / 100%10+1<=10 by omega),ge (show N / 100%10<=N / 100%10+1 by omega),ge (show N / 10%10+1<=10 by omega),ge (show N / 10%10<=N / 10%10+1 by omega),ge (show N%10+1<=10 by omega),ge (show N%10<=N%10+1 by omega),ob,cutD (N / 1000) (by omega),cutD (N / 100%10) (by omega),cutD (N / 10%10) (by omega),cutD (N%10) (by omega)];rw[oG (by simp)];simp only[];rw[oG (by simp)];simp only[];rw[oG (by simp)];rfl
 ·have b:∀r:Nat,r<10->bS (UInt8.ofNat (48+r))=true:=λr e=>(fg _).2 (by rw[tC e];omega);simp only[bv,n8,qs,vI,forall_eq];exact⟨b _ (by omega),b _ (by omega),b _ (by omega),b _ (by omega)⟩
def sI(n:Nat)(g l:Bool)(d:aa)(x s:Int)(e:200<n)(c:d.length<=100)(h:okY false l d x s):∃b,(ob (bL n g l d x s) λr=>(cond (r==0) (some (false,l,d,x,s)) (some (g,l,d,x,s))))=some (b,l,d,x,s)/\okY b l d x s:=by
 rw[Ei n g l d x s e c];by_cases a:okY g l d x s
 ·rw[ad a];exact⟨g,rfl,a⟩
 ·rw[ab a];exact⟨false,rfl,h⟩
def uc{d:aa}{s:Int}(h1:d.length=4)(h2:∀c∈d,bS c=true\/c=88)(e:0<=s)(b:s<=4)(a:¬(0<s/\hasX d=true)):okY false false d 0 s:=by
 have:okS false d 0 s:=⟨h1,h2,rfl,by simp,e,b,a⟩;simpa[okY]using this
def JO(n:Nat)(a b:Int)(g:Bool)(d:aa)(z:d.length=4)(t:∀c∈d,bS c=true)(A:4<n):
  ∃s:aa,au (dT n) n (a,b,[],0,false,false,[],0,0,g,false,d,0,0)=some (s,false,false,[],0,0,g,false,d,0,0)/\s.length=4/\∀c∈s,bS c=true\/c=88:=by
 obtain⟨y,h1,s,h2,w,r⟩:=kV (step:=dT n) (λx=>∃(i:Nat) (s:aa),i<=4/\s.length=i/\(∀c∈s,bS c=true\/c=88)/\x=(a,b,s,(i:Int),false,false,[],0,0,g,false,d,0,0)) (λx=>4 - x.2.2.2.1.toNat) (λy=>∃s:aa,y=(s,false,false,[],0,0,g,false,d,0,0)/\s.length=4/\∀c∈s,bS c=true\/c=88) (by
  rintro x ⟨i,s,hi,l,hc,rfl⟩;rcases aA i 4 with k | m
  ·obtain⟨c,f⟩:∃c,d[i]?=some c:=⟨d[i],bN (by omega)⟩;have p:decide ((i:Int)<4)=true:=ay (by omega);have u:wrap .i64 ((i:Int)+1)=((i+1:Nat):Int):=by rw[wrap_i64 _ (by omega) (by omega)];omega
   have next:∀e:UInt8,(bS e=true\/e=88)->∃h,some (Sum.inl (a,b,s++[e],((i+1:Nat):Int),false,false,([]:aa),(0:Int),(0:Int),g,false,d,(0:Int),(0:Int)))=some (Sum.inl (β:=aa×Bool×Bool×aa×Int×Int×Bool×Bool×aa×Int×Int) h)/\(∃(i:Nat) (s:aa),i<=4/\s.length=i/\(∀c∈s,bS c=true\/c=88)/\h=(a,b,s,(i:Int),false,false,[],0,0,g,false,d,0,0))/\4 - h.2.2.2.1.toNat<4 - i:=by
    intro e o;refine⟨_,rfl,⟨i+1,s++[e],k,by simp[l],?_,rfl⟩,by simp only[cc];omega⟩;intro v j;rcases kn.1 j with q | q
    ·exact hc v q
    ·simp only[bv,n8,qs]at q;rw[q];exact o
   simp only[dT,p,aj,u,cc,ge (show i+1<=d.length by omega),ge (show i<=i+1 by omega),ob,cut1 f];rw[oG (a:=s) (b:=[88]) (by simp;omega),oG (a:=s) (b:=[c]) (by simp;omega)];simp only[];left;cases((i:Int)==a)
   ·cases((i:Int)==b)
    ·exact next c (.inl (t c (dK f)))
    ·exact next 88 (.inr rfl)
   ·exact next 88 (.inr rfl)
  ·have:i=4:=by omega
   subst this;exact .inr ⟨_,rfl,s,rfl,l,hc⟩) n (a,b,[],0,false,false,[],0,0,g,false,d,0,0) ⟨0,[],by omega,rfl,by simp,rfl⟩ (by simp;omega)
 exact⟨s,by rw[h1,h2],w,r⟩
def cut9(r:Nat)(h:r<9):List.drop r (List.take (r+1) ([49,50,51,52,53,54,55,56,57]:aa))=[UInt8.ofNat (49+r)]:=by
 have:∀r,r<9->List.drop r (List.take (r+1) ([49,50,51,52,53,54,55,56,57]:aa))=[UInt8.ofNat (49+r)]:=by decide
 exact this r h
def Au{d:aa}{x s:Nat}(h1:∀c∈d,bS c=true)(h2:1<=d.length)(m:d.length<=5)(h:d.head?≠some 48)(b:x<=11)(g:x=0->d.length=5)(j:s<=d.length+x):okY false true d (x:Int) (s:Int):=by
 have a:=qz d 0 0 h1 (by simp);have f:(10:Nat) ^ (d.length+0)<=10 ^ 5:=js (by decide) (by omega);have i:(10:Nat) ^ x<=10 ^ 11:=js (by decide) b;have hm:=rX (Nat.le_of_lt (kK a f)) i;have e:(10:Nat) ^ 5*10 ^ 11=E16:=by decide
 have:okL d (x:Int) (s:Int):=⟨⟨h1,h2,by omega,h,by omega,by omega,by rintro⟨l,k⟩;have:=g (by omega);omega,by simp only[cc];omega⟩,by omega,by omega⟩;simpa[okY]using this
def Kp(m u C a b:Nat)(g:Bool)(h2:C<65536)(Z:a<256)(h4:b<256):∃f l d x s,fU (m+300) (u:Int) g (C:Int) (a:Int) (b:Int)=some (f,l,d,x,s)/\okY f l d x s/\d.length<=5/\x<=11/\(u%6≠3->hasX d=false):=by
 obtain⟨d,I,k,j⟩:=JD (m+300) C h2;have v:∀c∈d,bS c=true\/c=88:=λc hc=>.inl (j c hc);have p:=rq j;unfold fU;rw[I];simp only[ob];cases Y:(Int.tmod (u:Int) 6==3)with
 | true=>
  simp only[aj];obtain⟨s,K,Q,H⟩:=JO (m+300) (wrap .i64 (Int.tmod (a:Int) 4)) (wrap .i64 (Int.tmod (b:Int) 4)) g d k j (by omega);rw[K];obtain⟨f,i,h⟩:=sI (m+300) g false s 0 0 (by omega) (by omega) (uc Q H (by omega) (by omega) (by omega))
  exact⟨f,false,s,0,0,i,h,by omega,by omega,λZ=>absurd (by
   have e:=bI.1 Y;have e2:Int.tmod (u:Int) 6=((u%6:Nat):Int):=rfl;omega) Z⟩
 | false=>
  simp only[ae];cases(Int.tmod (u:Int) 6==4)with
  | true=>
   simp only[aj];have e:Int.tmod (a:Int) 4=((a%4:Nat):Int):=rfl;have w1:wrap .i64 ((a%4:Nat):Int)=((a%4:Nat):Int):=wrap_i64 _ (by omega) (by omega);have w2:wrap .i64 (1+((a%4:Nat):Int))=((1+a%4:Nat):Int):=by rw[wrap_i64 _ (by omega) (by omega)];omega
   rw[e,w1,w2];obtain⟨f,i,h⟩:=sI (m+300) g false d 0 ((1+a%4:Nat):Int) (by omega) (by omega) (uc k v (by omega) (by omega) (by rw[p];simp));exact⟨f,false,d,0,_,i,h,by omega,by omega,λ_=>p⟩
  | false=>
   simp only[ae];cases(Int.tmod (u:Int) 6==5)with
   | false=>
    simp only[ae];obtain⟨f,i,h⟩:=sI (m+300) g false d 0 0 (by omega) (by omega) (uc k v (by omega) (by omega) (by omega));exact⟨f,false,d,0,0,i,h,by omega,by omega,λ_=>p⟩
   | true=>
    simp only[aj];have e9:Int.tmod (a:Int) 9=((a%9:Nat):Int):=rfl;have w9:wrap .u8 (((a%9:Nat):Int)+1)=((a%9+1:Nat):Int):=by rw[gO _ (by omega) (by omega)];omega
    have e3:Int.tmod (b:Int) 3=((b%3:Nat):Int):=rfl;have e5:Int.tmod (b:Int) 5=((b%5:Nat):Int):=rfl;have w5:wrap .u8 (1+((b%5:Nat):Int))=((1+b%5:Nat):Int):=by rw[gO _ (by omega) (by omega)];omega
    have L:Int.tdiv (b:Int) 16=((b / 16:Nat):Int):=rfl;have G:wrap .u8 ((b / 16:Nat):Int)=((b / 16:Nat):Int):=gO _ (by omega) (by omega);have J:Int.tmod ((b / 16:Nat):Int) 11=((b / 16%11:Nat):Int):=rfl;have R:wrap .i64 ((b / 16%11:Nat):Int)=((b / 16%11:Nat):Int):=wrap_i64 _ (by omega) (by omega);have T:wrap .i64 (1+((b / 16%11:Nat):Int))=((1+b / 16%11:Nat):Int):=by rw[wrap_i64 _ (by omega) (by omega)];omega
    have V:Int.tdiv (a:Int) 16=((a / 16:Nat):Int):=rfl;have N:wrap .u8 ((a / 16:Nat):Int)=((a / 16:Nat):Int):=gO _ (by omega) (by omega);have P:wrap .i64 ((a / 16:Nat):Int)=((a / 16:Nat):Int):=wrap_i64 _ (by omega) (by omega);have S:UInt8.ofNat (49+a%9)≠48:=by
     intro q;have:=eK UInt8.toNat q;rw[show 49+a%9=48+(1+a%9)by omega,tC (by omega)]at this;exact absurd this (by show¬48+(1+a%9)=48;omega)
    have t:bS (UInt8.ofNat (49+a%9))=true:=(fg _).2 (by rw[show 49+a%9=48+(1+a%9)by omega,tC (by omega)];omega);rw[e9,w9,ge (show a%9+1<=9 by omega)];simp only[];rw[ge (show a%9<=a%9+1 by omega)];simp only[];rw[cut9 (a%9) (by omega),oG (by simp;omega)];simp only[];generalize W:[UInt8.ofNat (49+a%9)]++d=D;have w:D.length=5:=by rw[<-W];simp[k]
    have o:∀c∈D,bS c=true:=by
     rw[<-W];intro c hc;simp only[jX,gh,bv]at hc;rcases hc with rfl | hc
     ·exact t
     ·exact j c hc
    have z:D.head?≠some 48:=by rw[<-W];simpa using S
    rw[e3,e5,w5,L,G,J,R,T,V,N,P];by_cases h33:0<b%3
    ·have O:decide (((b%3:Nat):Int)>0)=true:=ay (by omega);rw[O,aj,ge (show 1+b%5<=D.length by omega)];simp only[iE];generalize U:List.take (1+b%5) D=E;have hEl:E.length=1+b%5:=by rw[<-U,dj];omega
     have y:∀c∈E,bS c=true:=by rw[<-U];exactλc hc=>o c (List.mem_of_mem_take hc)
     have B:E.head?≠some 48:=by
      rw[<-U];cases D with
      | nil=>simp at w
      | cons c r=>rw[pO,mC];simpa using z
     generalize hX:1+b / 16%11=X;have A:X<=11:=by omega
     have hX1:1<=X:=by omega
     have F:wrap .i64 (wrap .i64 (((E.length:Nat):Int)+((X:Nat):Int))+1)=((E.length+X+1:Nat):Int):=by
      rw[wrap_i64 (((E.length:Nat):Int)+((X:Nat):Int)) (by omega) (by omega),wrap_i64 _ (by omega) (by omega)];omega
     have n:(((E.length+X+1:Nat):Int)==0)=false:=bA.2 (by omega);rw[F,n,ae];have M:Int.tmod ((a / 16:Nat):Int) ((E.length+X+1:Nat):Int)=((a / 16%(E.length+X+1):Nat):Int):=rfl;rw[M];have hml:a / 16%(E.length+X+1)<E.length+X+1:=mB _ (by omega);generalize a / 16%(E.length+X+1)=s at hml ⊢;obtain⟨f,i,h⟩:=sI (m+300) g true E ((X:Nat):Int) ((s:Nat):Int) (by omega) (by omega) (Au y (by omega) (by omega) B A (by omega) (by omega));exact⟨f,true,E,_,_,i,h,by omega,by omega,λ_=>rq y⟩
    ·have O:decide (((b%3:Nat):Int)>0)=false:=ax (by omega);rw[O,ae,w];have F:wrap .i64 (wrap .i64 (((5:Nat):Int)+0)+1)=((6:Nat):Int):=by decide
     have n:(((6:Nat):Int)==0)=false:=rfl;rw[F,n,ae];have M:Int.tmod ((a / 16:Nat):Int) ((6:Nat):Int)=((a / 16%6:Nat):Int):=rfl;rw[M];have hml:a / 16%6<6:=mB _ (by omega);generalize a / 16%6=s at hml ⊢;obtain⟨f,i,h⟩:=sI (m+300) g true D ((0:Nat):Int) ((s:Nat):Int) (by omega) (by omega) (Au o (by omega) (by omega) z (by omega) (by omega) (by omega));exact⟨f,true,D,_,_,i,h,by omega,by omega,λ_=>rq o⟩
def Le(m i b f c:Nat)(g:Bool)(h2:b<65536)(k:f<256)(j:c<256):∃a l d x s,fU (m+300) (i:Int) g (b:Int) (f:Int) (c:Int)=some (a,l,d,x,s)/\okY a l d x s/\d.length<=5/\x<=11:=by
 obtain⟨a,l,d,x,s,e,h,h1,h2,_⟩:=Kp m i b f c g h2 k j;exact⟨a,l,d,x,s,e,h,h1,h2⟩
structure OkD(g l:Bool)(dg:aa)(x q:Nat)(m d:aa)(k0 k1 k2:Nat):Prop where
 yr:okY g l dg (x:Int) (q:Int)
 x16:x<=16
 q17:q<=17
 dg17:dg.length<=17
 noM:0<q->m=[]
 mon:m=[]\/(m.length=2/\∀c∈m,isDX c=true)
 day:d=[]\/(m≠[]/\d.length=2/\∀c∈d,isDX c=true)
 m0:k0<4
 m1:k1<4
 m2:k2<4
 z1:bH m d<2->k1=0
 z2:bH m d<3->k2=0
def K7{g l:Bool}{dg:aa}{x q:Int}{m d:aa}{k0 k1 k2:Int}(w:0<=k0)(B:0<=k1)(u:0<=k2)(h:chkD g l dg x q m d k0 k1 k2=0):
  ∃o p a b c:Nat,x=(o:Int)/\q=(p:Int)/\k0=(a:Int)/\k1=(b:Int)/\k2=(c:Int)/\OkD g l dg o p m d a b c:=by
 obtain⟨f,hm,i,k⟩:=E1 h;unfold yrD at f;by_cases e:okY g l dg x q
 rotate_left
 ·rw[ab e]at f;cases f
 rw[ad e]at f;obtain⟨s,C,t,A,y,r⟩:=rM e;have hk':¬(3<k0\/3<k1\/3<k2\/(bH m d<2/\k1≠0)\/(bH m d<3/\k2≠0)):=by
  intro z;unfold allM at k;rw[ad z]at k;exact absurd k (by decide)
 refine⟨x.toNat,q.toNat,k0.toNat,k1.toNat,k2.toNat,by omega,by omega,by omega,by omega,by omega,?_⟩;rw[<-xe s,<-xe t]at e;refine⟨e,by omega,by omega,r,?_,?_,?_,by omega,by omega,by omega,by omega,by omega⟩
 ·intro v;unfold yrB at f;have hq':decide (0<q)=true:=by simp;omega
  rw[hq']at f;by_cases j:m=[]
  ·exact j
  ·have:(m==[])=false:=bA.2 j;rw[this]at f;simp at f
 ·rcases hm with hm | hm | hm
  ·exact .inl hm
  ·exact .inr (FB hm)
  ·exact .inr (m8 (by omega) hm)
 ·rcases i with i | ⟨i,_,n⟩
  ·exact .inl i
  ·have:=m8 (show 31<=31 by omega) n;exact .inr ⟨i,this.1,this.2⟩
def Jc{m:aa}(h:m≠[]):bH m []=2:=by unfold bH;rw[bA.2 h];rfl
def I5{m d:aa}(h:m≠[])(h2:d≠[]):bH m d=3:=by unfold bH;rw[bA.2 h,bA.2 h2];rfl
def monT(j:Nat):aa:=if j=0 then[]else if j<=12 then two j else if j<=33 then two (j+8)else([[48,88],[49,88],[88,50],[88,88],[88,48],[88,57]]:List (aa)).getD (j - 34) []
def NQ(m:aa):Nat:=if m=[48,50]then 28 else if m=[48,52]\/m=[48,54]\/m=[48,57]\/m=[49,49]\/m=[88,57]then 30 else 31
def dayT(j:Nat)(m:aa):aa:=if j=0 then[]else if j<=31 then two (min j (NQ m))else if m=[48,50]/\j=35 then[50,88]else([[48,88],[49,88],[50,88],[51,88],[88,48],[88,49],[88,88],[88,56]]:List (aa)).getD (j - 32) []
def r40{p:Nat->Bool}(h:(List.range 40).all p=true){a:Nat}(b:a<40):p a=true:=(ct.1 h) a (iN.2 b)
noncomputable def IN(m:Nat)(g:Int)(d:Bool)(e i h c f b a:Int)(j:Nat):Bool:=dR (m+300) g d e i h (j:Int) c f b a==some (monT j)
def Ee(m:Nat)(g:Int)(d:Bool)(e i h c f b a:Int):((List.range 40).all λj=>IN m g d e i h c f b a j)=true:=by kernel_rfl
def JE(a:Nat)(h:a<256):wrap .i64 (Int.tmod (a:Int) 40)=((a%40:Nat):Int):=by
 have:Int.tmod (a:Int) 40=((a%40:Nat):Int):=rfl;rw[this,wrap_i64 _ (by omega) (by omega)]
def Jf(j:Nat)(h:j<40):wrap .i64 (Int.tmod (j:Int) 40)=((j:Nat):Int):=by
 rw[JE j (by omega)];have:j%40=j:=by omega
 rw[this]
def CC(m:Nat)(j:Int)(e:Bool)(f l k:Int)(a:Nat)(d i c b:Int)(h:a<256):dR (m+300) j e f l k (a:Int) d i c b=some (monT (a%40)):=by
 have g:a%40<40:=by omega
 have h1:=r40 (Ee m j e f l k d i c b) g;unfold IN at h1;have h1:=bI.1 h1;unfold dR at h1 ⊢;rw[Jf _ g]at h1;rw[JE _ h];exact h1
def JY{j:Nat}(h:j<40):monT j=[]\/0<sea (monT j)\/(sea (monT j)=0/\eF (monT j) 12=true):=by
 have:((List.range 40).all λj=>decide (monT j=[])||(decide (0<sea (monT j))||(decide (sea (monT j)=0)&&eF (monT j) 12)))=true:=by decide +kernel
 have:=r40 this h;simpa using this
def FR{j:Nat}(h:j<40)(a:sea (monT j)=0)(h0:monT j≠[]):monT j∈((List.range 12).map λi=>two (i+1))++[[48,88],[49,88],[88,50],[88,88],[88,48],[88,57]]:=by
 have:((List.range 40).all λj=>!decide (sea (monT j)=0)||(decide (monT j=[])||decide (monT j∈((List.range 12).map λi=>two (i+1))++[[48,88],[49,88],[88,50],[88,88],[88,48],[88,57]])))=true:=by decide +kernel
 have:=r40 this h;rw[ay a,ax h0]at this;simpa using this
noncomputable def IM(m:Nat)(g:Int)(d:Bool)(e k i h f c b:Int)(a:aa)(j:Nat):Bool:=fe (m+300) g d e k i h (j:Int) f c b a==some (dayT j a)
def Ef(m:Nat)(f:Int)(c:Bool)(d l k g e b a:Int):((((List.range 12).map λi=>two (i+1))++[[48,88],[49,88],[88,50],[88,88],[88,48],[88,57]]).all λh=>(List.range 40).all λj=>IM m f c d l k g e b a h j)=true:=by kernel_rfl
def Hk(m:Nat)(k:Int)(e:Bool)(f o n l:Int)(a:Nat)(j d c:Int)(b:aa)(hm:b∈((List.range 12).map λi=>two (i+1))++[[48,88],[49,88],[88,50],[88,88],[88,48],[88,57]])(h:a<256):fe (m+300) k e f o n l (a:Int) j d c b=some (dayT (a%40) b):=by
 have g:a%40<40:=by omega
 have h1:=r40 ((ct.1 (Ef m k e f o n l j d c)) b hm) g;unfold IM at h1;have h1:=bI.1 h1;unfold fe at h1 ⊢;rw[Jf _ g]at h1;rw[JE _ h];exact h1
def KN{j:Nat}(h:j<40){a:aa}(hm:a∈((List.range 12).map λi=>two (i+1))++[[48,88],[49,88],[88,50],[88,88],[88,48],[88,57]]):dayT j a=[]\/eF (dayT j a) 31=true:=by
 have:((((List.range 12).map λi=>two (i+1))++[[48,88],[49,88],[88,50],[88,88],[88,48],[88,57]]).all λa=>(List.range 40).all λj=>decide (dayT j a=[])||eF (dayT j a) 31)=true:=by decide +kernel
 have:=r40 ((ct.1 this) a hm) h;simpa using this
def mksT(k a b c:Nat):Nat×Nat×Nat:=(a%4,if 1<k then b%4 else 0,if 2<k then c%4 else 0)
def vQ(k a b c:Nat):allM ((mksT k a b c).1:Int) ((mksT k a b c).2.1:Int) ((mksT k a b c).2.2:Int) k=0:=by
 apply Kr;refine⟨by simp only[mksT];omega,?_,?_,?_,?_⟩
 ·simp only[mksT];split<;>omega
 ·simp only[mksT];split<;>omega
 ·intro h;simp only[mksT];rw[ab (by omega)]
 ·intro h;simp only[mksT];rw[ab (by omega)]
def HQ{g l:Bool}{d:aa}{x s:Int}(h:okY g l d x s)(a:d.length<=5)(b:x<=11):vD g d x=false:=by
 unfold vD;cases e:hasX d with
 | true=>rfl
 | false=>
  obtain⟨k,q,rfl,rfl,f⟩:=uZ h e;have h1:=qz d 0 0 f.dig (by decide);rw[eu]at h1;have h2:dval 0 d<10 ^ 5:=kK h1 (js (by omega) a);have i:10 ^ k<=10 ^ 11:=js (by omega) (by omega);have c:val d k≠E16:=by
   unfold val E16;have:dval 0 d*10 ^ k<=99999*10 ^ 11:=rX (by omega) i;omega
  rw[cc,ax c];simp
def zR{g l:Bool}{dg:aa}{x q:Int}{m d:aa}{k0 k1 k2:Int}(h:okY g l dg x q)(k:vD g dg x=false)(j:0<q->m=[])(hm:m=[]\/0<sea m\/(sea m=0/\eF m 12=true))(i:d=[]\/(m≠[]/\sea m=0/\eF d 31=true))(b:allM k0 k1 k2 (bH m d)=0):chkD g l dg x q m d k0 k1 k2=0:=by
 have e:yrD g l dg x q m=true:=by
  unfold yrD yrB;rw[ad h,k];by_cases h0:0<q
  ·rw[j h0];simp
  ·simp[h0]
 unfold chkD;rw[e,b];have f:(!(m==[])&&(!(decide (0<sea m))&&!(eF m 12)))=false:=by
  rcases hm with h | h | ⟨_,h⟩
  ·rw[h];rfl
  ·rw[ay h];simp
  ·rw[h];simp
 have c:(!(d==[])&&((m==[])||(decide (0<sea m)||!(eF d 31))))=false:=by
  rcases i with h | ⟨h1,h2,a⟩
  ·rw[h];rfl
  ·rw[bA.2 h1,h2,a];simp
 rw[f,c];rfl
def minL(a:Nat):Nat:=if a=2 then 28 else if a=4\/a=6\/a=9\/a=11 then 30 else 31
def fitD(a d:aa):Bool:=(List.range' 1 12).any λi=>agr a i&&(List.range' 1 (minL i)).any (agr d)
def J6:((((List.range 12).map λi=>two (i+1))++[[48,88],[49,88],[88,50],[88,88],[88,48],[88,57]]).all λa=>(List.range 40).all λj=>(dayT j a==[])||fitD a (dayT j a))=true:=by decide +kernel
def Gk{j:Nat}(h:j<40){a:aa}(hm:a∈((List.range 12).map λi=>two (i+1))++[[48,88],[49,88],[88,50],[88,88],[88,48],[88,57]]):dayT j a=[]\/fitD a (dayT j a)=true:=by
 have:=r40 ((ct.1 J6) a hm) h;simp only[fH,bI]at this;exact this
def LX(m N F K G A v i j n:Nat)(g:Bool)(h2:F<65536)(V:K<256)(Y:G<256)(Z:A<256)(X:v<256)(h7:i<256)(h8:j<256)(h9:n<256):
  ∃k l dg x q f d k0 k1 k2,fV (m+300) (N:Int) g (F:Int) (K:Int) (G:Int) (A:Int) (v:Int) (i:Int) (j:Int) (n:Int)=some (k,l,dg,((x:Nat):Int),((q:Nat):Int),f,d,((k0:Nat):Int),((k1:Nat):Int),((k2:Nat):Int))/\chkD k l dg (x:Int) (q:Int) f d (k0:Int) (k1:Int) (k2:Int)=0/\OkD k l dg x q f d k0 k1 k2/\(d=[]\/fitD f d=true):=by
 obtain⟨k,l,dg,x,q,e,C,L,D⟩:=Le m N F K G g h2 V Y;have I:=HQ C L D;obtain⟨s1,s2,s3,s4,s5,s6⟩:=rM C
 suffices H:∃f d,fV (m+300) (N:Int) g (F:Int) (K:Int) (G:Int) (A:Int) (v:Int) (i:Int) (j:Int) (n:Int)=some (k,l,dg,x,q,f,d,((mksT (bH f d) i j n).1:Int),((mksT (bH f d) i j n).2.1:Int),((mksT (bH f d) i j n).2.2:Int))/\chkD k l dg x q f d ((mksT (bH f d) i j n).1:Int) ((mksT (bH f d) i j n).2.1:Int) ((mksT (bH f d) i j n).2.2:Int)=0/\(d=[]\/fitD f d=true)by
  obtain⟨f,d,h1,h2,hf⟩:=H;obtain⟨T,U,a,b,c,W,S,O,Q,P,M⟩:=K7 (by omega) (by omega) (by omega) h2;subst W S;refine⟨k,l,dg,T,U,f,d,a,b,c,?_,?_,M,hf⟩
  ·rw[h1,O,Q,P]
  ·rw[<-O,<-Q,<-P];exact h2
 have t7:Int.tmod (i:Int) 4=((i%4:Nat):Int):=rfl;have t8:Int.tmod (j:Int) 4=((j%4:Nat):Int):=rfl;have t9:Int.tmod (n:Int) 4=((n%4:Nat):Int):=rfl;have p:∀(f d:aa) (o:Option (Bool×Bool×aa×Int×Int×aa×aa×Int×Int×Int)),
   (ob (am (m+300) k l dg x q f d 0 0 0) λr=>(cond (decide ((0:Int)<r)) (ob (am (m+300) k l dg x q f d (Int.tmod (i:Int) 4) 0 0) λr=>(cond (decide ((1:Int)<r)) (ob (am (m+300) k l dg x q f d (Int.tmod (i:Int) 4) (Int.tmod (j:Int) 4) 0) λr=>(cond (decide ((2:Int)<r)) (ob (am (m+300) k l dg x q f d (Int.tmod (i:Int) 4) (Int.tmod (j:Int) 4) (Int.tmod (n:Int) 4)) λr=>(cond (decide ((3:Int)<r)) none (some (k,l,dg,x,q,f,d,(Int.tmod (i:Int) 4),(Int.tmod (j:Int) 4),(Int.tmod (n:Int) 4))))) (some (k,l,dg,x,q,f,d,(Int.tmod (i:Int) 4),(Int.tmod (j:Int) 4),0)))) (some (k,l,dg,x,q,f,d,(Int.tmod (i:Int) 4),0,0)))) (some (k,l,dg,x,q,f,d,0,0,0))))=some (k,l,dg,x,q,f,d,((mksT (bH f d) i j n).1:Int),((mksT (bH f d) i j n).2.1:Int),((mksT (bH f d) i j n).2.2:Int)):=by
  intro f d _;have hc:=tN f d;have:bH f d=1\/bH f d=2\/bH f d=3:=by omega
  rw[jb,jb,jb,jb];rcases this with h | h | h<;>rw[h]<;>rfl
 unfold fV;rw[e];simp only[ob,d4];rw[jd];by_cases R:q=0
 ·rw[ad R];rw[CC m _ _ _ _ _ A _ _ _ _ Z];have E:A%40<40:=by omega
  have w:=JY E;have hml:=FR E;generalize monT (A%40)=f at w hml ⊢;show ∃t d,cond (!(f==[])) _ _=_/\_;by_cases s:f=[]
  ·subst s;refine⟨[],[],p [] [] none,?_,.inl rfl⟩;exact zR C I (λ_=>rfl) (.inl rfl) (.inl rfl) (vQ _ _ _ _)
  ·rw[bA.2 s];show ∃t d,ob (eA (m+300) k l dg x q f [] 0 0 0) _=_/\_;rw[CP (m+300) (by omega)];show ∃t d,cond (sea f==0) _ _=_/\_;rw[jd];by_cases J:sea f=0
   ·rw[ad J];have y:=hml J s;rw[Hk m _ _ _ _ _ _ v _ _ _ f y X];have B:=KN (show v%40<40 by omega) y;have u:=Gk (show v%40<40 by omega) y;generalize dayT (v%40) f=d at B u ⊢;refine⟨f,d,p f d none,?_,u⟩;refine zR C I (λz=>by omega) w ?_ (vQ _ _ _ _);rcases B with B | B
    ·exact .inl B
    ·exact .inr ⟨s,J,B⟩
   ·rw[ab J];refine⟨f,[],p f [] none,?_,.inl rfl⟩;exact zR C I (λz=>by omega) w (.inl rfl) (vQ _ _ _ _)
 ·rw[ab R];refine⟨[],[],p [] [] none,?_,.inl rfl⟩;exact zR C I (λ_=>rfl) (.inl rfl) (.inl rfl) (vQ _ _ _ _)
def B7(d:aa)(k q:Nat):Nat×Nat:=if 0<q then(val d k / 10 ^ (d.length+k - q)*10 ^ (d.length+k - q),min (val d k / 10 ^ (d.length+k - q)*10 ^ (d.length+k - q)+10 ^ (d.length+k - q) - 1) E16)else(val d k,val d k)
def sgn(g:Bool)(p:Nat×Nat):Int×Int:=if g then(-(p.2:Int),-(p.1:Int))else((p.1:Int),(p.2:Int))
def hZ(z:UInt8)(d:aa):aa:=d.map λc=>if c=88 then z else c
def oH(z:UInt8)(d:aa):(hZ z d).length=d.length:=by simp[hZ]
def tH{z:UInt8}(e:bS z=true){d:aa}(h:∀c∈d,bS c=true\/c=88):∀c∈hZ z d,bS c=true:=by
 intro c hc;obtain⟨b,f,rfl⟩:=ch.1 hc;by_cases a:b=88
 ·rw[ad a];exact e
 ·rw[ab a];exact(h b f).resolve_right a
def DW{z:UInt8}{d:aa}{i:Nat}{c:UInt8}(h:d[i]?=some c):(hZ z d)[i]?=some (if c=88 then z else c):=by
 simp[hZ,h]
def pD(d:aa):Nat:=10 ^ (d.reverse.takeWhile (λc=>c != 88)).length
def ui(g:Bool)(d:aa):Nat×Nat:=(if g=true/\dval 0 (hZ 48 d)=0 then pD d else dval 0 (hZ 48 d),dval 0 (hZ 57 d))
def C9{d:aa}(k:d.length=4)(h:∀c∈d,bS c=true\/c=88)(j:dval 0 (hZ 48 d)=0):∀c∈d,c=48\/c=88:=by
 match d,k with
 | [a,b,c,e],_=>
  have g:=tH (z:=48) (by decide) h;have h2:dval 0 (hZ 48 [a,b,c,e])=((((0*10+((if a=88 then(48:UInt8)else a).toNat - 48))*10+((if b=88 then(48:UInt8)else b).toNat - 48))*10+((if c=88 then(48:UInt8)else c).toNat - 48))*10+((if e=88 then(48:UInt8)else e).toNat - 48)):=by
   simp only[hZ,cU,List.map_nil,lh,lE,rc]
  rw[h2]at j;have key:∀x:UInt8,bS (if x=88 then(48:UInt8)else x)=true->(if x=88 then(48:UInt8)else x).toNat - 48=0->x=48\/x=88:=by
   intro x i h0;by_cases f:x=88
   ·exact .inr f
   ·rw[ab f]at i h0;have:=(fg x).1 i;exact .inl (iW.1 (by show x.toNat=48;omega))
  simp only[hZ,cU,List.map_nil,bv,n8,qs,vI,forall_eq]at g ⊢;exact⟨key a g.1 (by omega),key b g.2.1 (by omega),key c g.2.2.1 (by omega),key e g.2.2.2 (by omega)⟩
def BP{d:aa}(n:d.length=4)(h:∀c∈d,c=48\/c=88)(v:hasX d=true)(P:aa->Prop)(h0:P [48,48,48,88])(h1:P [48,48,88,48])(h2:P [48,48,88,88])(w:P [48,88,48,48])(t:P [48,88,48,88])(l:P [48,88,88,48])(s:P [48,88,88,88])(p:P [88,48,48,48])(m:P [88,48,48,88])(o:P [88,48,88,48])(i:P [88,48,88,88])(g:P [88,88,48,48])(k:P [88,88,48,88])(j:P [88,88,88,48])(f:P [88,88,88,88]):P d:=by
 match d,n with
 | [a,b,c,e],_=>
  simp only[bv,n8,qs,vI,forall_eq]at h;obtain⟨u,r,hc,q⟩:=h;rcases u with rfl | rfl<;>rcases r with rfl | rfl<;>rcases hc with rfl | rfl<;>rcases q with rfl | rfl
  ·exact absurd v (by decide)
  ·exact h0
  ·exact h1
  ·exact h2
  ·exact w
  ·exact t
  ·exact l
  ·exact s
  ·exact p
  ·exact m
  ·exact o
  ·exact i
  ·exact g
  ·exact k
  ·exact j
  ·exact f
def iC(g:Bool)(d:aa)(x s:Int):Nat×Nat:=if hasX d then ui g d else B7 d x.toNat s.toNat
def J3{d:aa}{k q:Nat}(h:Num d k q):(B7 d k q).1<=val d k/\val d k<=(B7 d k q).2/\(B7 d k q).2<=E16:=by
 have a:=h.small;have c:dval 0 d*10 ^ k=val d k:=rfl;rw[c]at a;unfold B7;split
 ·have b:1<=10 ^ (d.length+k - q):=Nat.one_le_pow _ _ (by decide);generalize 10 ^ (d.length+k - q)=u at b ⊢;generalize val d k=v at a ⊢;have h1:=Nat.div_mul_le_self v u;have h2:v<v / u*u+u:=by
   have h:=Nat.div_add_mod v u;have:=mB v b;rw[vJ]at h;omega
  refine⟨h1,?_,Nat.min_le_right _ _⟩;rw[Nat.le_min];omega
 ·exact⟨aI _,aI _,a⟩
def mtk(d:aa):Nat->Nat->Bool
 | 0,_=>true
 | k+1,w=>(decide (d.getD k 0=88)||decide ((d.getD k 0).toNat=48+w%10))&&mtk d k (w / 10)
def AQ(d:aa)(k w:Nat):mtk d (k+1) w=((decide (d.getD k 0=88)||decide ((d.getD k 0).toNat=48+w%10))&&mtk d k (w / 10)):=rfl
def AH{d:aa}{k:Nat}{c:UInt8}(h:d[k]?=some c):d.getD k 0=c:=by
 rw[Fe,h];rfl
def Cj(d:aa)(k q:Nat):Nat:=if 0<q then 10 ^ (d.length+k - q)else 1
def memP(d:aa)(x s:Int)(w:Nat):Prop:=if hasX d=true then mtk d 4 w=true/\w / 10 ^ 4=0 else val d x.toNat / Cj d x.toNat s.toNat=w / Cj d x.toNat s.toNat
instance (d:aa)(x s:Int)(w:Nat):Decidable (memP d x s w):=by unfold memP;infer_instance
def wOf(g:Bool)(v:Int):Int:=if g then -v else v
def inP(g:Bool)(d:aa)(x s v:Int):Prop:=-10000000000000000<=v/\v<=10000000000000000/\0<=wOf g v/\¬(hasX d=true/\g=true/\wOf g v=0)/\memP d x s (wOf g v).toNat
instance (g:Bool)(d:aa)(x s v:Int):Decidable (inP g d x s v):=by unfold inP;infer_instance
def Nh{d:aa}{x s:Int}{w:Nat}(a:hasX d=true):memP d x s w↔mtk d 4 w=true/\w / 10 ^ 4=0:=by unfold memP;rw[ad a]
def MR{d:aa}{x s:Int}{w:Nat}(a:hasX d=false):memP d x s w↔val d x.toNat / Cj d x.toNat s.toNat=w / Cj d x.toNat s.toNat:=by unfold memP;rw[ab (by rw[a];simp)]
def loK(d:aa)(k:Nat):Nat:=dval 0 ((hZ 48 d).take k)
def hiK(d:aa)(k:Nat):Nat:=dval 0 ((hZ 57 d).take k)
def tL(z:UInt8){d:aa}{k:Nat}{c:UInt8}(h:d[k]?=some c):dval 0 ((hZ z d).take (k+1))=dval 0 ((hZ z d).take k)*10+((if c=88 then z else c).toNat - 48):=by
 rw[NV (DW h),Ad]
def yn(d:aa)(i:d.length=4)(h:∀c∈d,bS c=true\/c=88):∀(k w:Nat),k<=4->w<10 ^ k->mtk d k w=true->loK d k<=w/\w<=hiK d k
 | 0,w,g,b,hm=>by
  simp at b;subst b;simp[loK,hiK,lE]
 | k+1,w,g,b,hm=>by
  obtain⟨c,hc⟩:∃c,d[k]?=some c:=⟨d[k],bN (by omega)⟩;rw[AQ,AH hc,aw,fH,aT,aT]at hm;have j:(10:Nat) ^ (k+1)=10 ^ k*10:=pL 10 k;have ih:=yn d i h k (w / 10) (by omega) (by omega) hm.2;have h1:=tL 48 hc;have h2:=tL 57 hc;unfold loK hiK at ih ⊢;rw[h1,h2];by_cases a:c=88
  ·rw[ad a,ad a];have f:(48:UInt8).toNat - 48=0:=rfl;have e:(57:UInt8).toNat - 48=9:=rfl;rw[f,e];omega
  ·rw[ab a,ab a];have:=hm.1.resolve_left a;omega
def vV(z:UInt8)(g:bS z=true)(d:aa)(n:d.length=4)(i:∀c∈d,bS c=true\/c=88):∀k,k<=4->mtk d k (dval 0 ((hZ z d).take k))=true
 | 0,_=>rfl
 | k+1,o=>by
  obtain⟨c,hc⟩:∃c,d[k]?=some c:=⟨d[k],bN (by omega)⟩;have ih:=vV z g d n i k (by omega);have f:bS (if c=88 then z else c)=true:=by
   by_cases e:c=88
   ·rw[ad e];exact g
   ·rw[ab e];exact(i c (dK hc)).resolve_right e
  have m:=(fg _).1 f;rw[AQ,AH hc,tL z hc];generalize h:(if c=88 then z else c)=b at m ⊢;generalize dval 0 ((hZ z d).take k)=a at ih ⊢;have l:(a*10+(b.toNat - 48)) / 10=a:=by omega
  have j:(a*10+(b.toNat - 48))%10=b.toNat - 48:=by omega
  rw[l,j,ih,Eg];by_cases e:c=88
  ·rw[ay e];rfl
  ·rw[ab e]at h;rw[h,ay (show b.toNat=48+(b.toNat - 48)by omega),Bool.or_true]
def wI:List (aa):=[[48,48,48,88],[48,48,88,48],[48,48,88,88],[48,88,48,48],[48,88,48,88],[48,88,88,48],[48,88,88,88],[88,48,48,48],[88,48,48,88],[88,48,88,48],[88,48,88,88],[88,88,48,48],[88,88,48,88],[88,88,88,48],[88,88,88,88]]
def NX:wI.all (λd=>mtk d 4 (pD d)&&decide (1<=pD d)&&decide (pD d<=1000)&&(List.range 1000).all (λw=>decide (w=0)||!mtk d 4 w||decide (pD d<=w)))=true:=by decide +kernel
def xB{d:aa}(e:d∈wI):mtk d 4 (pD d)=true/\1<=pD d/\pD d<=1000/\∀w,1<=w->mtk d 4 w=true->pD d<=w:=by
 have h:=ct.1 NX d e;simp only[aw,aT,ct,iN,fH,ld]at h;obtain⟨⟨⟨h1,h2⟩,f⟩,c⟩:=h;refine⟨h1,h2,f,λw g hm=>?_⟩;rcases aA w 1000 with a | b
 ·rcases c w a with(h | h) | h
  ·omega
  ·rw[hm]at h;cases h
  ·exact h
 ·omega
def xc{d:aa}(a:d.length=4)(f:∀c∈d,bS c=true\/c=88)(b:hasX d=true)(e:dval 0 (hZ 48 d)=0):d∈wI:=
 BP a (C9 a f e) b (λd=>d∈wI) (by decide) (by decide) (by decide) (by decide) (by decide) (by decide) (by decide) (by decide) (by decide) (by decide) (by decide) (by decide) (by decide) (by decide) (by decide)
def KR{d:aa}(a:d.length=4):loK d 4=dval 0 (hZ 48 d):=by
 unfold loK;rw[gI (by rw[oH];omega)]
def Jn{d:aa}(a:d.length=4):hiK d 4=dval 0 (hZ 57 d):=by
 unfold hiK;rw[gI (by rw[oH];omega)]
def G7{g:Bool}{d:aa}(b:d.length=4)(f:∀c∈d,bS c=true\/c=88)(q:hasX d=true):
  (ui g d).1<10000/\(ui g d).2<10000/\mtk d 4 (ui g d).1=true/\mtk d 4 (ui g d).2=true/\1<=(ui g d).2/\(g=true->1<=(ui g d).1)/\∀w,w<10000->mtk d 4 w=true->(g=true->1<=w)->(ui g d).1<=w/\w<=(ui g d).2:=by
 have r:(10:Nat) ^ 4=10000:=by decide
 have p:=tH (z:=48) (by decide) f;have o:=tH (z:=57) (by decide) f;have m:=qz (hZ 48 d) 0 0 p (by simp);have l:=qz (hZ 57 d) 0 0 o (by simp);rw[oH,b,eu,r]at m l;have m1:=vV 48 (by decide) d b f 4 (by omega);have m2:=vV 57 (by decide) d b f 4 (by omega);rw[gI (by rw[oH];omega)]at m1 m2;have i:∀w,w<10000->mtk d 4 w=true->dval 0 (hZ 48 d)<=w/\w<=dval 0 (hZ 57 d):=λw k hm=>by
  have:=yn d b f 4 w (by omega) (by omega) hm;rw[KR b,Jn b]at this;exact this
 have h:1<=dval 0 (hZ 57 d):=by
  rcases vv (dval 0 (hZ 57 d))with h0 | h0
  ·exfalso;have e:dval 0 (hZ 48 d)=0:=by
    have:=(i _ m m1).2;omega
   have n:=xc b f q e;have a:=xB n;have:=(i _ (by omega) a.1).2;omega
  ·exact h0
 unfold ui;by_cases e:g=true/\dval 0 (hZ 48 d)=0
 ·rw[ad e];have a:=xB (xc b f q e.2);refine⟨by simp only;omega,l,a.1,m2,h,λ_=>a.2.1,λw k hm j=>⟨a.2.2.2 w (j e.1) hm,(i w k hm).2⟩⟩
 ·rw[ab e];refine⟨m,l,m1,m2,h,λj=>?_,λw k hm j=>i w k hm⟩;simp only;rcases vv (dval 0 (hZ 48 d))with h0 | h0
  ·exact absurd ⟨j,h0⟩ e
  ·exact h0
def HH{g l:Bool}{d:aa}{x s:Int}(c:okY g l d x s):(iC g d x s).1<=10000000000000000/\(iC g d x s).2<=10000000000000000/\memP d x s (iC g d x s).1/\memP d x s (iC g d x s).2/\(hasX d=true->1<=(iC g d x s).2/\(g=true->1<=(iC g d x s).1))/\
  ∀w,w<=10000000000000000->memP d x s w->(hasX d=true->g=true->1<=w)->(iC g d x s).1<=w/\w<=(iC g d x s).2:=by
 unfold iC memP;cases m:hasX d with
 | true=>
  obtain⟨rfl,rfl,rfl,L,I⟩:=mm c m;obtain⟨B,J,D,C,z,A,K⟩:=G7 (g:=g) L I m;have H:(10:Nat) ^ 4=10000:=by decide
  simp only[be,H];refine⟨by omega,by omega,⟨D,Nat.div_eq_of_lt B⟩,⟨C,Nat.div_eq_of_lt J⟩,λ_=>⟨z,A⟩,λw r hm G=>K w (by omega) hm.1 (G trivial)⟩
 | false=>
  obtain⟨k,q,rfl,rfl,t⟩:=uZ c m;have F:=t.small;have y:dval 0 d*10 ^ k=val d k:=rfl;rw[y]at F;obtain⟨f,i,b⟩:=J3 t;unfold E16 at b;simp only[cb,aD,cc];unfold Cj;unfold B7 at f i b ⊢;by_cases h0:0<q
  ·rw[ad h0]at f i b ⊢;rw[ad h0];have o:1<=10 ^ (d.length+k - q):=Nat.one_le_pow _ _ (by decide);generalize 10 ^ (d.length+k - q)=u at *;generalize val d k=v at *;simp only at f i b ⊢;have e:v / u*u / u=v / u:=Nat.mul_div_cancel _ o;have j:∀w,v / u*u<=w->w<v / u*u+u->w / u=v / u:=by
    intro w h1 h2;apply Nat.div_eq_of_lt_le
    ·exact h1
    ·rw[Nat.succ_mul];exact h2
   have a:∀w,v / u=w / u->v / u*u<=w/\w<v / u*u+u:=by
    intro w h;rw[h];have h1:=Nat.div_mul_le_self w u;have h2:=Nat.div_add_mod w u;have N:=mB w o;rw[vJ]at h2;omega
   have p:min (v / u*u+u - 1) E16<=v / u*u+u - 1:=Nat.min_le_left _ _;have n:=a v rfl;refine⟨by omega,b,e.symm,(j _ (by omega) (by omega)).symm,λq=>(by cases q),λw r hm _=>?_⟩;obtain⟨E,M⟩:=a w hm;refine⟨E,?_⟩;rw[Nat.le_min];unfold E16;omega
  ·rw[ab h0]at f i b ⊢;rw[ab h0];simp only[wJ]at f i b ⊢;refine⟨b,b,trivial,trivial,λq=>(by cases q),λw r hm _=>by omega⟩
def vF{g l:Bool}{d:aa}{x s:Int}(n:okY g l d x s):inP g d x s (sgn g (iC g d x s)).1/\inP g d x s (sgn g (iC g d x s)).2/\∀v,inP g d x s v->(sgn g (iC g d x s)).1<=v/\v<=(sgn g (iC g d x s)).2:=by
 obtain⟨k,t,o,m,i,j⟩:=HH n;generalize iC g d x s=y at *;obtain⟨lo,hi⟩:=y;simp only at k t o m i j;cases g with
 | true=>
  have b:∀a:Nat,wOf true (-(a:Int))=(a:Int):=λa=>by unfold wOf;simp
  have mk:∀a:Nat,a<=10000000000000000->memP d x s a->(hasX d=true->1<=a)->inP true d x s (-(a:Int)):=by
   intro a h1 h2 z;refine⟨by omega,by omega,by rw[b];omega,λq=>?_,by rw[b,cc];exact h2⟩;have:=z q.1;have A:=q.2.2;rw[b]at A;omega
  simp only[sgn,be];refine⟨mk hi t m (λh=>(i h).1),mk lo k o (λh=>(i h).2 rfl),λv f=>?_⟩;obtain⟨w,B,u,p,c⟩:=f;have r:wOf true v=-v:=rfl;rw[r]at u p c
  have:=j (-v).toNat (by omega) c (λC _=>by
   have:¬-v=0:=λe=>p ⟨C,rfl,e⟩;omega)
  omega
 | false=>
  have b:∀a:Int,wOf false a=a:=λa=>rfl;have mk:∀a:Nat,a<=10000000000000000->memP d x s a->inP false d x s (a:Int):=by
   intro a h1 h2;exact⟨by omega,by omega,by rw[b];omega,λq=>(by cases q.2.1),by rw[b,cc];exact h2⟩
  simp only[sgn,cb,aD];refine⟨mk lo k o,mk hi t m,λv f=>?_⟩;obtain⟨w,B,u,p,c⟩:=f;rw[b]at u c;have:=j v.toNat (by omega) c (λ_ q=>by cases q);omega
end Go.Sh
namespace Go.Sh.Mk
open Go.Abs
def okB(c:UInt8):Bool:=c.toNat==88||(decide (48<=c.toNat)&&decide (c.toNat<=57))
def chk(s:aa):Int:=if 18<s.length then 3 else if s.all okB then(if s=[]then 5 else 0)else 5
def qX(n:Nat)(s0 s:aa)(r:s.length+1<n):
  au (fm n) n (s0,s,0)=some (if s.all okB then .inr s0 else .inl 5):=by
 have:=eZ (step:=fm n) (λx=>x.1=s0/\x.2.1=s/\x.2.2<=s.length) (λx=>s.length - x.2.2)
  (λx=>if(s.drop x.2.2).all okB then .inr s0 else .inl 5) ?_ n (s0,s,0) ⟨rfl,rfl,mT _⟩ (by simp;omega)
 ·simpa using this
 rintro⟨a,b,i⟩ ⟨rfl,rfl,hi⟩;simp only at hi ⊢;rcases aA i b.length with k | m
 ·obtain⟨c,hc⟩:∃c,b[i]?=some c:=⟨b[i],bN k⟩;have o:Nat.blt i b.length=true:=dA k;rw[gE hc,ln];simp only[fm,o,aj];by_cases g:c.toNat<128
  ·rw[vU hc g];by_cases j:c.toNat=88
   ·refine .inl ⟨(a,b,i+1),by simp[j],⟨rfl,rfl,by simp only;omega⟩,by simp only;omega,?_⟩;simp[okB,j]
   ·by_cases p:c.toNat<48
    ·refine .inr ?_;have e:(((c.toNat:Nat):Int) != 88)=true:=by simp;omega
     have d:(decide (((c.toNat:Nat):Int)<48))=true:=by simp;omega
     have f:okB c=false:=by simp[okB];omega
     simp[e,d,f]
    ·by_cases q:57<c.toNat
     ·refine .inr ?_;have e:(((c.toNat:Nat):Int) != 88)=true:=by simp;omega
      have d:(decide (((c.toNat:Nat):Int)<48))=false:=by simp;omega
      have l:(decide (((c.toNat:Nat):Int)>57))=true:=by simp;omega
      have f:okB c=false:=by simp[okB];omega
      simp[e,d,f,l]
     ·have e:(((c.toNat:Nat):Int) != 88)=true:=by simp;omega
      have d:(decide (((c.toNat:Nat):Int)<48))=false:=by simp;omega
      have l:(decide (((c.toNat:Nat):Int)>57))=false:=by simp;omega
      have f:okB c=true:=by simp[okB];omega
      refine .inl ⟨(a,b,i+1),by simp only[e,d,l,aj,ae],⟨rfl,rfl,by simp only;omega⟩,by simp only;omega,?_⟩;simp[f]
  ·obtain⟨h1,h2⟩:=AZ hc (by omega);refine .inr ?_;have e:((((dec b i).1:Nat):Int) != 88)=true:=by simp;omega
   have d:(decide ((((dec b i).1:Nat):Int)<48))=false:=by simp;omega
   have l:(decide ((((dec b i).1:Nat):Int)>57))=true:=by simp;omega
   have f:okB c=false:=by simp[okB];omega
   simp[e,d,f,l]
 ·have o:Nat.blt i b.length=false:=by
   cases h:Nat.blt i b.length with
   | false=>rfl
   | true=>have:i<b.length:=az h;omega
  refine .inr ?_;simp only[fm,o,ae];rw[nL m];rfl
def fB(n:Nat)(s:aa)(c:30<=n):eU n s=some (chk s):=by
 unfold eU chk;by_cases h:18<s.length
 ·have:(decide (((List.length s:Nat):Int)>18))=true:=by simp;omega
  simp[this,h]
 ·have e:(decide (((List.length s:Nat):Int)>18))=false:=by simp;omega
  simp only[e,ae,h,aD];rw[qX n s s (by omega)];by_cases b:s.all okB=true
  ·simp only[b,be,ob];by_cases a:s=[]
   ·simp[a]
   ·have:(s==([]:aa))=false:=by simpa using a
    simp[this,a]
  ·simp[b,ob]
def iy{s:aa}(h:chk s=0):s.length<=18/\s≠[]/\∀c∈s,okB c=true:=by
 unfold chk at h;split at h
 ·simp at h
 ·split at h
  ·rename_i a;split at h
   ·simp at h
   ·rename_i b;exact⟨by omega,b,by simpa using a⟩
  ·simp at h
def nums(l:aa):List Int:=l.map λb=>((b.toNat:Nat):Int)
def over(d:List Int)(i:Nat)(l:List Int):List Int:=d.take i++(l++d.drop (i+l.length))
def wg(d:List Int)(i:Nat)(x:Int)(l:List Int)(h:i<d.length):over (d.set i x) (i+1) l=over d i (x::l):=by
 unfold over;rw[show(d.set i x).take (i+1)=d.take i++[x]from by
  rw[C5 (by simpa using h)];simp[List.take_set_of_le]]
 rw[List.drop_set_of_lt (by omega)];simp[gL,pO 1]
def zU(d:List Int)(i:Nat):over d i []=d:=by simp[over]
def Gx(d:List Int)(i:Nat)(l:List Int)(h:i+l.length<=d.length):(over d i l).length=d.length:=by
 unfold over;simp;omega
def Gl{x y:UInt8}:(((x.toNat:Nat):Int)==((y.toNat:Nat):Int))=decide (x=y):=by
 by_cases h:x=y
 ·simp[h]
 ·have:x.toNat≠y.toNat:=λe=>h (iW.1 e);simp[h];omega
def rG{x:UInt8}:(((x.toNat:Nat):Int)==88)=decide (x=88):=by
 have:=Gl (x:=x) (y:=88);simpa using this
def dg:Nat->Int->List Int
 | 0,_=>[]
 | L+1,k=>dg L (k / 10)++[48+k%10]
def qN:∀(L:Nat) (k:Int),(dg L k).length=L
 | 0,_=>rfl
 | L+1,k=>by simp[dg,qN L]
def pG:∀(L:Nat) (k:Int),∀x∈dg L k,48<=x/\x<58
 | 0,_,x,h=>by simp[dg]at h
 | L+1,k,x,h=>by
  simp only[dg,kn,ou]at h;rcases h with h | rfl
  ·exact pG L _ x h
  ·omega
def eX:aa->List Int->Bool
 | c::m,d::l=>(c==88||decide (((c.toNat:Nat):Int)=d))&&eX m l
 | _,_=>true
def qC:∀{a c:aa} {b d:List Int},a.length=b.length->eX (a++c) (b++d)=(eX a b&&eX c d)
 | [],c,[],d,_=>by simp[eX]
 | x::a,c,y::b,d,h=>by
  simp only[bp,sB]at h;simp only[jX,eX,qC h,Bool.and_assoc]
def hasM(m:aa)(k:Int):Bool:=decide (0<=k)&&(decide (k<10 ^ m.length)&&eX m (dg m.length k))
def wd(L:Nat)(h:L<=18):km 20000000 ((L:Nat):Int)=some (10 ^ L):=by
 have b:allN (λi=>match km 20000000 ((i:Nat):Int)with | some r=>decide (r=10 ^ i) | none=>false) 19=true:=by kernel_rfl
 have:=zH b L (by omega);split at this
 ·rename_i r a;rw[a];simpa using this
 ·cases this
def yh(L:Nat)(h:L<=18):(10:Int) ^ L<=1000000000000000000:=by
 have a:allN (λi=>decide ((10:Int) ^ i<=1000000000000000000)) 19=true:=by kernel_rfl
 simpa using zH a L (by omega)
def Np{k:Int}(h:0<=k):Int.tmod k 10=k%10:=Int.tmod_eq_emod_of_nonneg h
def K1{k:Int}(h:0<=k):Int.tdiv k 10=k / 10:=I6 h
def B8(k:Int)(i:Nat)(d:List Int)(h0:0<=k)(h1:k<9223372036854775808)(hi:i<=18)(a:d.length=18):
  au (fp 20000000) 20000000 (k,(i:Int) - 1,d)=some (over d 0 (dg i k)):=by
 have:=eZ (step:=fp 20000000) (λx=>(0<=x.1/\x.1<9223372036854775808)/\(-1<=x.2.1/\x.2.1<=17)/\x.2.2.length=18) (λx=>(x.2.1+1).toNat)
  (λx=>over x.2.2 0 (dg (x.2.1+1).toNat x.1)) ?_ 20000000 (k,(i:Int) - 1,d) ⟨⟨h0,h1⟩,⟨by simp only;omega,by simp only;omega⟩,a⟩ (by simp only;omega)
 ·simpa using this
 rintro⟨k,i,d⟩ ⟨⟨h0,h1⟩,⟨h2,n⟩,a⟩;simp only at h0 h1 h2 n a ⊢;by_cases hi:0<=i
 ·obtain⟨j,rfl⟩:∃j:Nat,i=j:=⟨i.toNat,by omega⟩;have c:j<18:=by omega
  have b:decide ((j:Int)>=0)=true:=by simp
  have e:Nat.blt j 18=true:=dA c;have m:wrap .i64 ((j:Int) - 1)=(j:Int) - 1:=wrap_i64 _ (by omega) (by omega);have f:wrap .i64 (Int.tdiv k 10)=k / 10:=by rw[K1 h0];exact wrap_i64 _ (by omega) (by omega)
  have g:wrap .u8 (wrap .i64 (48+Int.tmod k 10))=48+k%10:=by rw[Np h0,wrap_i64 _ (by omega) (by omega),gO _ (by omega) (by omega)]
  refine .inl ⟨(k / 10,(j:Int) - 1,d.set j (48+k%10)),by simp only[fp,b,aj,ef c,ob,e,m,f,g],⟨⟨by simp only;omega,by simp only;omega⟩,⟨by simp only;omega,by simp only;omega⟩,by simpa using a⟩,by simp only;omega,?_⟩;have h:((j:Int) - 1+1).toNat=j:=by omega
  have l:((j:Int)+1).toNat=j+1:=by omega
  simp only[h,l,over,kR,gh,qN,ci,dg,o7];congr 1;rw[List.drop_set,ab (by omega),wt,sw (by omega)];simp only[List.set_cons_zero,cR,qN,bp,cP,jX,gh,ci]
 ·have b:decide (i>=0)=false:=by simp;omega
  have s:(i+1).toNat=0:=by omega
  refine .inr ?_;simp only[fp,b,ae,s,dg,zU]
def A3(m:aa)(k:Int)(hm:m.length<=18)(h0:0<=k)(h1:k<9223372036854775808):
  gJ 20000000 m k=some (over [0,0,0,0,0,0,0,0,0,0,0,0,0,0,0,0,0,0] 0 (dg m.length k)):=by
 have w:wrap .i64 (((List.length m:Nat):Int) - 1)=(m.length:Int) - 1:=wrap_i64 _ (by omega) (by omega);simp only[gJ,w,B8 k m.length [0,0,0,0,0,0,0,0,0,0,0,0,0,0,0,0,0,0] h0 h1 hm (by rfl),ob]
def oI{d l:List Int}{i:Nat}(h:i<l.length):(over d 0 l)[i]?=l[i]?:=by
 unfold over;simp only[kR,gh];rw[ka h]
def uG:∀(l:List Int),(∀x∈l,0<=x/\x<256)->nums (eH l)=l
 | [],_=>rfl
 | x::l,h=>by
  have ih:=uG l λy a=>h y (fE _ a);obtain⟨h0,h1⟩:=h x (by simp);have e:(((UInt8.ofNat x.toNat).toNat:Nat):Int)=x:=by
   rw[zF,n7 (by omega)];omega
  simp only[nums,eH,pI]at ih ⊢;simp only[cU,Function.comp,e];rw[show List.map ((λb:UInt8=>((b.toNat:Nat):Int)) ∘ λn:Int=>UInt8.ofNat n.toNat) l=l from ih]
def Gs(l:aa):(nums l).length=l.length:=by simp[nums]
def cnt:aa->Nat
 | []=>0
 | c::r=>if c=88 then cnt r+1 else cnt r
def dv(c:UInt8):Int:=((c.toNat:Nat):Int) - 48
def nth:aa->Int->Int
 | [],_=>0
 | c::r,i=>if c=88 then 10*nth r (i / 10)+i%10 else 10*nth r i+dv c
def ag:aa->Int->Bool
 | [],_=>true
 | c::r,k=>ag r (k / 10)&&(decide (c=88)||decide (dv c=k%10))
def idx:aa->Int->Int
 | [],_=>0
 | c::r,k=>if c=88 then 10*idx r (k / 10)+k%10 else idx r (k / 10)
def okR(r:aa):Prop:=∀c∈r,c=88\/(0<=dv c/\dv c<10)
def tw{m:aa}(h:∀c∈m,okB c=true):okR m.reverse:=by
 intro c hc;have:=h c (rQ.1 hc);simp only[okB,fH,bI,aw,aT]at this;rcases this with h | h
 ·exact .inl (iW.1 (by simpa using h))
 ·exact .inr (by unfold dv;omega)
def nl{c:UInt8}{r:aa}(h:okR (c::r)):okR r:=λx a=>h x (fE _ a)
def fA(n:Nat):(10:Int) ^ (n+1)=10*10 ^ n:=by rw[Int.pow_succ,Int.mul_comm]
def pE(n:Nat):(0:Int)<10 ^ n:=Int.pow_pos (by omega)
def lg:∀{r:aa},okR r->∀i,0<=i->0<=nth r i/\nth r i<10 ^ r.length
 | [],_,i,_=>by simp[nth]
 | c::r,h,i,hi=>by
  simp only[nth,bp,fA];split
  ·have:=lg (nl h) (i / 10) (by omega);omega
  ·rename_i hc;have:=lg (nl h) i hi;have:=(h c (by simp)).resolve_left hc;omega
def Ai:∀{r:aa},okR r->∀i,0<=i->ag r (nth r i)=true
 | [],_,_,_=>rfl
 | c::r,h,i,hi=>by
  simp only[nth,ag];split
  ·rename_i hc;have e:(10*nth r (i / 10)+i%10) / 10=nth r (i / 10):=by omega
   rw[e,Ai (nl h) (i / 10) (by omega)];simp[hc]
  ·rename_i hc;have b:=(h c (by simp)).resolve_left hc;have e:(10*nth r i+dv c) / 10=nth r i:=by omega
   have a:(10*nth r i+dv c)%10=dv c:=by omega
   rw[e,a,Ai (nl h) i hi];simp
def rV:∀(r:aa) (k:Int),0<=k->0<=idx r k/\idx r k<10 ^ cnt r
 | [],k,_=>by simp[idx,cnt]
 | c::r,k,a=>by
  have:=rV r (k / 10) (by omega);simp only[idx,cnt];split
  ·rw[fA];omega
  ·exact this
def Fj:∀{r:aa} {k:Int},0<=k->k<10 ^ r.length->ag r k=true->nth r (idx r k)=k
 | [],k,h0,h1,_=>by simp at h1;simp[nth];omega
 | c::r,k,h0,h1,a=>by
  simp only[ag,aw,fH,aT]at a;rw[bp,fA]at h1;have ih:=Fj (r:=r) (k:=k / 10) (by omega) (by omega) a.1;simp only[nth,idx];split
  ·have:=rV r (k / 10) (by omega);have e:(10*idx r (k / 10)+k%10) / 10=idx r (k / 10):=by omega
   have b:(10*idx r (k / 10)+k%10)%10=k%10:=by omega
   rw[e,b,ih];omega
  ·rename_i hc;rw[ih];have:=a.2.resolve_left hc;omega
def rr:∀{r:aa},okR r->∀i j,0<=i->i<j->j<10 ^ cnt r->nth r i<nth r j
 | [],_,i,j,h0,h1,h2=>by simp[cnt]at h2;omega
 | c::r,h,i,j,h0,h1,h2=>by
  simp only[nth,cnt]at h2 ⊢;split
  ·rename_i hc;rw[ad hc,fA]at h2;by_cases a:i / 10=j / 10
   ·rw[a];omega
   ·have:=rr (nl h) (i / 10) (j / 10) (by omega) (by omega) (by omega);omega
  ·rename_i hc;rw[ab hc]at h2;have:=rr (nl h) i j h0 h1 h2;omega
def A4:∀(r:aa),∀k,eX r.reverse (dg r.length k)=ag r k
 | [],k=>rfl
 | c::r,k=>by
  simp only[zq,bp,dg,ag];rw[qC (by rw[lB,qN]),A4 r];have b:decide (((c.toNat:Nat):Int)=48+k%10)=decide (dv c=k%10):=sX.2 (by unfold dv;omega);have a:(c==88)=decide (c=88):=by by_cases h:c=88<;>simp[h]
  simp only[eX,Eg,b,a]
def vY(m:aa)(k:Int):hasM m k=(decide (0<=k)&&(decide (k<10 ^ m.length)&&ag m.reverse k)):=by
 have:=A4 m.reverse k;rw[tK,lB]at this;unfold hasM;rw[this]
def oP:∀(m:aa),cnt m=m.count 88
 | []=>rfl
 | c::m=>by
  simp only[cnt,oP m,List.count_cons];by_cases h:c=88<;>simp[h]
def lL(m:aa):cnt m.reverse=cnt m:=by rw[oP,oP,List.count_reverse]
def AD:∀(m:aa),cnt m<=m.length
 | []=>by simp[cnt]
 | c::m=>by
  have:=AD m;simp only[cnt,bp];split<;>omega
def GF{m:aa}(hm:chk m=0):l5 20000000 m=some (10 ^ cnt m,0):=by
 obtain⟨b,_,_⟩:=iy hm;have a:((0:Int) != 0)=false:=by simp
 have hc:(Lib.countByte m (UInt8.ofNat (Int.toNat 88)):Nat)=cnt m:=by rw[oP];rfl
 have:=AD m;simp only[l5,fB 20000000 m (by omega),hm,ob,a,ae,lV,hc,wd (cnt m) (by omega)]
def fd(x y:Int):Int:=(if y=88 then x else y) - 48
def fval(x:Int)(l:List Int):Int:=l.foldl (λn y=>10*n+fd x y) 0
def vG(x:Int):∀(l:List Int) (n:Int),l.foldl (λn y=>10*n+fd x y) n=n*10 ^ l.length+fval x l
 | [],n=>by simp[fval]
 | y::l,n=>by
  have e:=vG x l (10*n+fd x y);have a:=vG x l (10*0+fd x y);simp only[fval,qO,bp,fA]at e a ⊢;rw[e,a,Int.add_mul,Int.add_mul];have:10*n*10 ^ l.length=n*(10*10 ^ l.length):=by rw[Int.mul_comm 10 n,Int.mul_assoc]
  omega
def tW(s:aa)(x:Int)(h18:s.length<=18)(hs:∀c∈s,0<=fd x ((c.toNat:Nat):Int)/\fd x ((c.toNat:Nat):Int)<10):ji 20000000 s x=some (fval x (nums s)):=by
 have hs':∀y∈nums s,0<=fd x y/\fd x y<10:=by
  intro y hy;obtain⟨c,hc,rfl⟩:=ch.1 hy;exact hs c hc
 have hl:(nums s).length=s.length:=Gs s;have:=eZ (step:=eo 20000000)
  (λst=>st.1=x/\st.2.2.1=((s.length:Nat):Int)/\st.2.2.2.2=nums s/\(0<=st.2.2.2.1/\st.2.2.2.1<=s.length)/\0<=st.2.1/\st.2.1<10 ^ st.2.2.2.1.toNat) (λst=>s.length - st.2.2.2.1.toNat)
  (λst=>((nums s).drop st.2.2.2.1.toNat).foldl (λn y=>10*n+fd x y) st.2.1) ?_ 20000000 (x,0,((s.length:Nat):Int),0,nums s) ⟨rfl,rfl,rfl,⟨by simp,by simp⟩,by simp,by simp⟩ (by simp;omega)
 ·show(ob (au (eo 20000000) 20000000 (x,0,((List.length (nums s):Nat):Int),0,nums s)) λy30=>some y30)=_;rw[hl,this];rfl
 rintro⟨x',n,len,i,l⟩ ⟨q1,q2,q3,⟨h0,hi⟩,n0,n1⟩;simp only at q1 q2 q3 h0 hi n0 n1 ⊢;subst q1 q2 q3;obtain⟨j,rfl⟩:∃j:Nat,i=j:=⟨i.toNat,by omega⟩;simp only[cc]at n1 ⊢;rcases aA j s.length with hlt | hge
 ·obtain⟨y,hy⟩:∃c,(nums s)[j]?=some c:=⟨(nums s)[j]'(by omega),bN (by omega)⟩;obtain⟨d0,d1⟩:=hs' y (dK hy);have hb:(decide ((j:Int)<((s.length:Nat):Int)))=true:=by simp;omega
  have hw:wrap .i64 ((j:Int)+1)=((j+1:Nat):Int):=by rw[wrap_i64 _ (by omega) (by omega)];omega
  have hb1:=yh (j+1) (by omega);rw[fA]at hb1;have w1:wrap .i64 (10*n)=10*n:=wrap_i64 _ (by omega) (by omega);have w2:∀z:Int,0<=z->z<10->wrap .i64 (10*n+wrap .i64 (wrap .u8 z))=10*n+z:=λz z0 z1=>by
   rw[gO z (by omega) (by omega),wrap_i64 z (by omega) (by omega),wrap_i64 _ (by omega) (by omega)]
  rw[gE hy,qO];simp only[eo,hb,aj,ef (show j<(nums s).length by omega),ob,hy,hw,w1];have next:0<=10*n+fd x' y/\10*n+fd x' y<10 ^ (j+1):=by rw[fA];omega
  by_cases h88:y=88
  ·have e1:(y==88)=true:=by simpa using h88
   have hd:fd x' y=x' - 48:=by simp[fd,h88]
   rw[hd]at d0 d1 next ⊢;refine .inl ⟨(x',10*n+(x' - 48),((s.length:Nat):Int),((j+1:Nat):Int),nums s),by simp only[e1,aj,w2 _ d0 d1],⟨rfl,rfl,rfl,⟨by simp only;omega,by simp only;omega⟩,next.1,by simpa only[cc]using next.2⟩,by simp only[cc];omega,by simp only[cc]⟩
  ·have e1:(y==88)=false:=by simpa using h88
   have hd:fd x' y=y - 48:=by simp[fd,h88]
   rw[hd]at d0 d1 next ⊢;refine .inl ⟨(x',10*n+(y - 48),((s.length:Nat):Int),((j+1:Nat):Int),nums s),by simp only[e1,ae,w2 _ d0 d1],⟨rfl,rfl,rfl,⟨by simp only;omega,by simp only;omega⟩,next.1,by simpa only[cc]using next.2⟩,by simp only[cc];omega,by simp only[cc]⟩
 ·have hb:(decide ((j:Int)<((s.length:Nat):Int)))=false:=by simp;omega
  refine .inr ?_;simp only[eo,hb,ae];rw[nL (by omega)];rfl
def rR(x:Int)(l:List Int)(y:Int):fval x (l++[y])=10*fval x l+fd x y:=by simp[fval,zL]
def wV(r:aa)(c:UInt8):nums ((c::r).reverse)=nums r.reverse++[((c.toNat:Nat):Int)]:=by simp[nums]
def zj(x:Int)(c:UInt8):fd x ((c.toNat:Nat):Int)=if c=88 then x - 48 else dv c:=by
 unfold fd dv;by_cases h:c=88
 ·simp[h]
 ·have:¬((c.toNat:Nat):Int)=88:=λe=>h (iW.1 (by simpa using(by omega:c.toNat=88)));rw[ab this,ab h]
def uM:∀(r:aa),fval 48 (nums r.reverse)=nth r 0
 | []=>rfl
 | c::r=>by
  rw[wV,rR,uM r,zj];simp only[nth];split<;>simp
def pj:∀(r:aa),fval 57 (nums r.reverse)=nth r (10 ^ cnt r - 1)
 | []=>rfl
 | c::r=>by
  have d:=pE (cnt r);rw[wV,rR,pj r,zj];simp only[nth,cnt];split
  ·rw[fA];have b:(10*(10:Int) ^ cnt r - 1) / 10=10 ^ cnt r - 1:=by omega
   have a:(10*(10:Int) ^ cnt r - 1)%10=9:=by omega
   rw[b,a];omega
  ·rfl
def ME{m:aa}(a:∀c∈m,okB c=true){x:Int}(b:48<=x/\x<58):∀c∈m,0<=fd x ((c.toNat:Nat):Int)/\fd x ((c.toNat:Nat):Int)<10:=by
 intro c hc;rw[zj];have:=tw a c (rQ.2 hc);split
 ·omega
 ·rename_i h;exact this.resolve_left h
def Hm{m:aa}(hm:chk m=0):lw 20000000 m=some (nth m.reverse 0,0):=by
 obtain⟨a,_,b⟩:=iy hm;have c:((0:Int) != 0)=false:=by simp
 have:=uM m.reverse;rw[tK]at this;simp only[lw,fB 20000000 m (by omega),hm,ob,c,ae,tW m 48 a (ME b (by omega)),this]
def zG{m:aa}(hm:chk m=0):ja 20000000 m=some (nth m.reverse (10 ^ cnt m - 1),0):=by
 obtain⟨a,_,b⟩:=iy hm;have c:((0:Int) != 0)=false:=by simp
 have:=pj m.reverse;rw[tK,lL]at this;simp only[ja,fB 20000000 m (by omega),hm,ob,c,ae,tW m 57 a (ME b (by omega)),this]
def GO{m:aa}{l:List Int}(z:List Int)(a:m.length<=18)(h:l.length=m.length)(d:∀y∈l,48<=y/\y<58):dX 20000000 m (over z 0 l)=some (fval 0 l):=by
 have g:List.take m.length (over z 0 l)=l:=by
  unfold over;rw[kR,gh,qB (by omega),gI (by omega)]
 have e:nums (eH l)=l:=uG l λy f=>by have:=d y f;omega
 have i:(eH l).length=m.length:=by simp[eH,h]
 simp only[dX,ge a,ob,ci,show Nat.ble m.length 18=true from dA a,aj,iE,g];rw[tW (eH l) 0 (by omega) ?_,e];intro c hc;have b:((c.toNat:Nat):Int)∈l:=by rw[<-e];exact ch.2 ⟨c,hc,rfl⟩
 have:=d _ b;unfold fd;rw[ab (by omega)];omega
def Ar{m:aa}(hm:chk m=0){i:Int}(h0:0<=i):hasM m (nth m.reverse i)=true:=by
 obtain⟨c,_,a⟩:=iy hm;have b:=lg (tw a) i h0;rw[lB]at b;rw[vY,Ai (tw a) i h0,ay b.1,ay b.2];rfl
def vl:List Int->Int
 | []=>0
 | y::l=>(y - 48)*10 ^ l.length+vl l
def digl(l:List Int):Prop:=∀y∈l,48<=y/\y<58
def bQ{y:Int}{l:List Int}(h:digl (y::l)):digl l:=λx a=>h x (fE _ a)
def rL:∀{l:List Int},digl l->0<=vl l/\vl l<10 ^ l.length
 | [],_=>by simp[vl]
 | y::l,h=>by
  have ih:=rL (bQ h);have b:=h y (by simp);have a:=pE l.length;simp only[vl,bp,fA];have c:0<=(y - 48)*10 ^ l.length:=Int.mul_nonneg (by omega) (by omega);have d:(y - 48)*10 ^ l.length<=9*10 ^ l.length:=I1 (by omega) (by omega);omega
def JL{y z:Int}{a b:List Int}(f:a.length=b.length)(e:digl a)(d:digl b)(h:y<z):vl (y::a)<vl (z::b):=by
 have h1:=rL e;have h2:=rL d;have g:=pE a.length;simp only[vl];rw[<-f]at h2 ⊢;have c:(y - 48+1)*10 ^ a.length<=(z - 48)*10 ^ a.length:=I1 (by omega) (by omega);rw[Int.add_mul]at c;omega
def vB:∀{l:List Int},digl l->fval 0 l=vl l
 | [],_=>rfl
 | y::l,h=>by
  have b:=h y (by simp);have e:fval 0 (y::l)=l.foldl (λn y=>10*n+fd 0 y) (10*0+fd 0 y):=rfl;have a:fd 0 y=y - 48:=by unfold fd;rw[ab (by omega)]
  rw[e,vG,vB (bQ h),a];simp only[vl,Int.mul_zero,AT]
def DT{l:List Int}{y:Int}(h:digl (l++[y])):vl (l++[y])=10*vl l+(y - 48):=by
 have c:=h y (by simp);have b:digl l:=λx a=>h x (by simp[a]);rw[<-vB h,<-vB b,rR];unfold fd;rw[ab (by omega)]
def Gm:∀(L:Nat) (k:Int),0<=k->k<10 ^ L->vl (dg L k)=k
 | 0,k,h0,h1=>by simp at h1;simp[dg,vl];omega
 | L+1,k,h0,h1=>by
  rw[fA]at h1;have:=Gm L (k / 10) (by omega) (by omega);have a:=pG (L+1) k;simp only[dg]at a ⊢;rw[DT a,this];omega
def NB{l:List Int}(h:digl l):dg l.length (vl l)=l:=by
 have d:∀(r:List Int),digl r.reverse->dg r.length (vl r.reverse)=r.reverse:=by
  intro r
  induction r with
  | nil=>intro _;rfl
  | cons y r ih=>
   intro h;simp only[zq,bp]at h ⊢;have e:=h y (by simp);rw[DT h];simp only[dg];have b:(10*vl r.reverse+(y - 48)) / 10=vl r.reverse:=by omega
   have a:48+(10*vl r.reverse+(y - 48))%10=y:=by omega
   rw[b,a,ih λx c=>h x (kn.2 (.inl c))]
 have:=d l.reverse (by rw[tK];exact h);rwa[tK,lB]at this
def fst(up:Bool):Int:=cond up 48 57
def lst(up:Bool):Int:=cond up 57 48
def stp(up:Bool)(y:Int):Int:=cond up (y+1) (y - 1)
def fil(up:Bool)(m:aa):List Int:=m.map λc=>cond (decide (c=88)) (fst up) ((c.toNat:Nat):Int)
def nx(up:Bool):aa->List Int->Option (List Int)
 | c::m,y::l=>
  if c=88 then
   match nx up m l with
   | some r=>some (y::r)
   | none=>if y=lst up then none else some (stp up y::fil up m)
  else if((c.toNat:Nat):Int)=y then(nx up m l).map λr=>y::r
  else if decide (((c.toNat:Nat):Int)>y)=up then some (((c.toNat:Nat):Int)::fil up m)else none
 | _,_=>some []
def okM(m:aa):Prop:=∀c∈m,okB c=true
def nr{c:UInt8}{m:aa}(h:okM (c::m)):okM m:=λx a=>h x (fE _ a)
def Bh{c:UInt8}(h:okB c=true)(a:¬c=88):48<=((c.toNat:Nat):Int)/\((c.toNat:Nat):Int)<58:=by
 simp only[okB,fH,bI,aw,aT]at h;have:¬c.toNat=88:=λe=>a (iW.1 (by simpa using e));omega
def vw(up:Bool)(m:aa):(fil up m).length=m.length:=by simp[fil]
def EE(up:Bool){m:aa}(h:okM m):digl (fil up m):=by
 intro y b;obtain⟨c,hc,rfl⟩:=ch.1 b;by_cases a:c=88
 ·simp only[ay a,aj];cases up<;>simp[fst]
 ·simp only[ax a,ae];exact Bh (h c hc) a
def tn(up:Bool):∀(m:aa),eX m (fil up m)=true
 | []=>rfl
 | c::m=>by
  have:=tn up m;simp only[fil,cU,eX]at this ⊢;rw[this];by_cases a:c=88
  ·simp[a]
  ·simp[a]
def cu(up:Bool)(a b:Int):Prop:=match up with | true=>a<=b | false=>b<=a
def vX(up:Bool):∀{m:aa} {e:List Int},okM m->m.length=e.length->digl e->eX m e=true->cu up (vl (fil up m)) (vl e)
 | [],[],_,_,_,_=>by cases up<;>simp[fil,vl,cu]
 | c::m,y::e,hm,i,j,k=>by
  simp only[bp,sB]at i;simp only[eX,aw,fH,bI,aT]at k;have ih:=vX up (nr hm) i (bQ j) k.2;have l:=j y (by simp);have f:=vw up m;have h1:=EE up (nr hm);have a:∀z:Int,vl (z::fil up m)=(z - 48)*10 ^ m.length+vl (fil up m):=λz=>by rw[vl,f]
  have d:fil up (c::m)=(cond (decide (c=88)) (fst up) ((c.toNat:Nat):Int))::fil up m:=rfl;rw[d];by_cases g:c=88
  ·simp only[ay g,aj];by_cases b:y=fst up
   ·rw[<-b,a,vl,<-i];cases up<;>simp only[cu]at ih ⊢<;>omega
   ·cases up
    ·exact wZ (JL (by rw[f,i]) (bQ j) h1 (by simp[fst]at b ⊢;omega))
    ·exact wZ (JL (by rw[f,i]) h1 (bQ j) (by simp[fst]at b ⊢;omega))
  ·simp only[ax g,ae];rw[k.1.resolve_left g,a,vl,<-i];cases up<;>simp only[cu]at ih ⊢<;>omega
 | [],_::_,_,h,_,_=>by simp at h
 | _::_,[],_,h,_,_=>by simp at h
def JW(up:Bool):∀{m:aa} {l:List Int},okM m->m.length=l.length->digl l->
  match nx up m l with
  | some r=>r.length=m.length/\digl r/\eX m r=true/\cu up (vl l) (vl r)/\∀e,e.length=m.length->digl e->eX m e=true->cu up (vl l) (vl e)->cu up (vl r) (vl e)
  | none=>∀e,e.length=m.length->digl e->eX m e=true->¬cu up (vl l) (vl e)
 | [],[],_,_,_=>by
  simp only[nx];refine⟨rfl,by intro y L;simp at L,rfl,by cases up<;>simp[cu],?_⟩;intro e h1 _ _ _;simp only[cP]at h1;rw[ta h1];cases up<;>simp[cu]
 | c::m,y::l,hm,u,P=>by
  simp only[bp,sB]at u;have ih:=JW up (nr hm) u (bQ P);have L:=P y (by simp);have hdl:=bQ P;have t:=vw up m;have A:=EE up (nr hm);have I:∀{z w:Int} {a b:List Int},a.length=m.length->b.length=m.length->digl a->digl b->z<w->vl (z::a)<vl (w::b):=λh1 h2 K M R=>JL (by rw[h1,h2]) K M R;have f:∀(z:Int) {a b:List Int},a.length=m.length->b.length=m.length->(cu up (vl (z::a)) (vl (z::b))↔cu up (vl a) (vl b)):=λz a b h1 h2=>by
   simp only[vl,h1,h2];cases up<;>simp only[cu]<;>omega
  have p:∀{z w:Int} {a b:List Int},a.length=m.length->b.length=m.length->digl a->digl b->z≠w->(cu up (vl (z::a)) (vl (w::b))↔cu up z w):=λ{z w a b} h1 h2 K M R=>by
   rcases Int.lt_trichotomy z w with h | h | h
   ·have:=I h1 h2 K M h;cases up<;>simp only[cu]<;>omega
   ·exact absurd h R
   ·have:=I h2 h1 M K h;cases up<;>simp only[cu]<;>omega
  have d:∀e:List Int,e.length=(c::m).length->∃w a,e=w::a/\a.length=m.length:=λe h=>by
   match e,h with
   | w::a,h=>exact⟨w,a,rfl,by simpa using h⟩
  by_cases g:c=88
  ·cases B:nx up m l with
   | some r=>
    rw[B]at ih;obtain⟨G,J,O,S,Q⟩:=ih;simp only[nx,ad g,B];refine⟨by simp[G],λz s=>?_,by simp[eX,g,O],(f y u.symm G).2 S,λe v j o q=>?_⟩
    ·rcases bv.1 s with rfl | s
     ·exact L
     ·exact J z s
    ·obtain⟨w,a,rfl,i⟩:=d e v;simp only[eX,g,qj,Bool.true_or,kB]at o;by_cases C:y=w
     ·subst C;exact(f y G i).2 (Q a i (bQ j) o ((f y u.symm i).1 q))
     ·exact(p G i J (bQ j) C).2 ((p u.symm i hdl (bQ j) C).1 q)
   | none=>
    rw[B]at ih;by_cases n:y=lst up
    ·simp only[nx,ad g,B,ad n];intro e v j o q;obtain⟨w,a,rfl,i⟩:=d e v;simp only[eX,g,qj,Bool.true_or,kB]at o;have V:=j w (by simp);by_cases C:y=w
     ·subst C;exact ih a i (bQ j) o ((f y u.symm i).1 q)
     ·have:=(p u.symm i hdl (bQ j) C).1 q;cases up<;>simp only[cu,lst,aj,ae]at this n<;>omega
    ·simp only[nx,ad g,B,ab n];have X:48<=stp up y/\stp up y<58/\y≠stp up y/\cu up y (stp up y)/\∀w,w≠y->cu up y w->cu up (stp up y) w:=by
      cases up<;>simp only[cu,lst,stp,aj,ae]at n ⊢<;>exact⟨by omega,by omega,by omega,by omega,λw h1 h2=>by omega⟩
     obtain⟨Y,s2,W,U,T⟩:=X;refine⟨by simp[t],λz s=>?_,by simp[eX,g,tn],(p u.symm t hdl A W).2 U,λe v j o q=>?_⟩
     ·rcases bv.1 s with rfl | s
      ·exact⟨Y,s2⟩
      ·exact A z s
     ·obtain⟨w,a,rfl,i⟩:=d e v;simp only[eX,g,qj,Bool.true_or,kB]at o;by_cases C:y=w
      ·subst C;exact absurd ((f y u.symm i).1 q) (ih a i (bQ j) o)
      ·have Z:=T w (λh=>C h.symm) ((p u.symm i hdl (bQ j) C).1 q);by_cases H:stp up y=w
       ·rw[H];exact(f w t i).2 (vX up (nr hm) i.symm (bQ j) o)
       ·exact(p t i A (bQ j) H).2 Z
  ·have N:=Bh (hm c (by simp)) g;have E:∀w a,eX (c::m) (w::a)=true->w=((c.toNat:Nat):Int)/\eX m a=true:=λw a h=>by
    simp only[eX,aw,fH,bI,aT]at h;exact⟨(h.1.resolve_left g).symm,h.2⟩
   by_cases k:((c.toNat:Nat):Int)=y
   ·cases B:nx up m l with
    | some r=>
     rw[B]at ih;obtain⟨G,J,O,S,Q⟩:=ih;simp only[nx,ab g,ad k,B,dB];refine⟨by simp[G],λz s=>?_,by simp[eX,k,O],(f y u.symm G).2 S,λe v j o q=>?_⟩
     ·rcases bv.1 s with rfl | s
      ·exact L
      ·exact J z s
     ·obtain⟨w,a,rfl,i⟩:=d e v;obtain⟨rfl,x⟩:=E w a o;rw[k]at q ⊢;exact(f y G i).2 (Q a i (bQ j) x ((f y u.symm i).1 q))
    | none=>
     rw[B]at ih;simp only[nx,ab g,ad k,B,en];intro e v j o q;obtain⟨w,a,rfl,i⟩:=d e v;obtain⟨rfl,x⟩:=E w a o;rw[k]at q;exact ih a i (bQ j) x ((f y u.symm i).1 q)
   ·have F:decide (((c.toNat:Nat):Int)>y)=up↔cu up y ((c.toNat:Nat):Int):=by
     cases up
     ·simp only[jt,cu];omega
     ·simp only[aT,cu];omega
    by_cases D:decide (((c.toNat:Nat):Int)>y)=up
    ·simp only[nx,ab g,ab k,ad D];refine⟨by simp[t],λz s=>?_,by simp[eX,tn],(p u.symm t hdl A (λh=>k h.symm)).2 (F.1 D),λe v j o q=>?_⟩
     ·rcases bv.1 s with rfl | s
      ·exact N
      ·exact A z s
     ·obtain⟨w,a,rfl,i⟩:=d e v;obtain⟨rfl,x⟩:=E w a o;exact(f _ t i).2 (vX up (nr hm) i.symm (bQ j) x)
    ·simp only[nx,ab g,ab k,ab D];intro e v j o q;obtain⟨w,a,rfl,i⟩:=d e v;obtain⟨rfl,x⟩:=E w a o;exact D (F.2 ((p u.symm i hdl (bQ j) (λh=>k h.symm)).1 q))
 | [],_::_,_,h,_=>by simp at h
 | _::_,[],_,h,_=>by simp at h
def ap:aa->List Int->Nat
 | c::m,y::l=>if c=88\/((c.toNat:Nat):Int)=y then ap m l+1 else 0
 | _,_=>0
def Nj:∀(m:aa) (l:List Int),ap m l<=m.length
 | [],_=>by simp[ap]
 | c::m,[]=>by simp[ap]
 | c::m,y::l=>by
  have:=Nj m l;simp only[ap,bp];split<;>omega
def Ez:∀(m:aa) (l:List Int),eX (m.take (ap m l)) (l.take (ap m l))=true
 | [],_=>by simp[ap,eX]
 | c::m,[]=>by simp[ap,eX]
 | c::m,y::l=>by
  have:=Ez m l;simp only[ap];split
  ·rename_i h;simp only[mC,eX,this,Eg,fH,bI,aT];exact h
  ·rfl
def DK:∀{m:aa} {l:List Int} {c:UInt8} {y:Int},m[ap m l]?=some c->l[ap m l]?=some y->¬c=88/\¬((c.toNat:Nat):Int)=y
 | [],_,c,y,h,_=>by simp at h
 | x::m,[],c,y,_,h=>by simp at h
 | x::m,z::l,c,y,h1,h2=>by
  by_cases h:x=88\/((x.toNat:Nat):Int)=z
  ·simp only[ap,ad h,zI]at h1 h2;exact DK h1 h2
  ·simp only[ap,ab h,jr,af]at h1 h2;subst h1 h2;exact⟨λe=>h (.inl e),λe=>h (.inr e)⟩
def bkn(up:Bool):aa->List Int->aa->Option (List Int)
 | c::m,y::d,m'=>
  match bkn up m d m' with
  | some r=>some (y::r)
  | none=>if c=88/\y≠lst up then some (stp up y::fil up (m++m'))else none
 | _,_,_=>none
def xZ(up:Bool):∀{m m':aa} {d d':List Int},m.length=d.length->eX m d=true->
  nx up (m++m') (d++d')=match nx up m' d' with | some r=>some (d++r) | none=>bkn up m d m'
 | [],m',[],d',_,_=>by
  simp only[gh];cases nx up m' d'<;>rfl
 | c::m,m',y::d,d',f,b=>by
  simp only[bp,sB]at f;simp only[eX,aw,fH,bI,aT]at b;have ih:=xZ up (m':=m') (d':=d') f b.2;simp only[jX,nx,ih,bkn];by_cases a:c=88
  ·simp only[ad a];cases nx up m' d' with
   | some r=>rfl
   | none=>
    cases bkn up m d m' with
    | some r=>rfl
    | none=>
     by_cases e:y=lst up
     ·simp[e]
     ·simp[e,a]
  ·simp only[ab a,ad (b.1.resolve_left a)];cases nx up m' d' with
   | some r=>rfl
   | none=>
    cases bkn up m d m' with
    | some r=>rfl
    | none=>simp[a]
 | [],_,_::_,_,h,_=>by simp at h
 | _::_,_,[],_,h,_=>by simp at h
def BC(up:Bool)(c:UInt8)(y:Int):∀{m m':aa} {d:List Int},m.length=d.length->
  bkn up (m++[c]) (d++[y]) m'=if c=88/\y≠lst up then some (d++stp up y::fil up m')else bkn up m d (c::m')
 | [],m',[],_=>by simp[bkn]
 | x::m,m',z::d,a=>by
  simp only[bp,sB]at a;have ih:=BC up c y (m':=m') a;simp only[jX,bkn,ih];by_cases h:c=88/\y≠lst up
  ·simp only[ad h]
  ·simp only[ab h,o7,jX,gh]
 | [],_,_::_,h=>by simp at h
 | _::_,_,[],h=>by simp at h
def bki(up:Bool)(m:aa)(l:List Int):Nat->Option Nat
 | 0=>none
 | j+1=>if m[j]?=some 88/\l[j]?≠some (lst up)then some j else bki up m l j
def iO9(up:Bool)(m:aa)(l:List Int):∀{j a:Nat},bki up m l j=some a->a<j
 | 0,a,h=>by simp[bki]at h
 | j+1,a,h=>by
  simp only[bki]at h;split at h
  ·simp only[af]at h;omega
  ·have:=iO9 up m l h;omega
def zY(up:Bool)(m:aa)(l:List Int)(hl:m.length=l.length):∀j,j<=m.length->
  bkn up (m.take j) (l.take j) (m.drop j)=(bki up m l j).map λa=>l.take a++stp up (l.getD a 0)::fil up (m.drop (a+1))
 | 0,_=>by simp[bkn,bki]
 | j+1,h=>by
  obtain⟨c,hc⟩:∃c,m[j]?=some c:=⟨m[j]'(by omega),bN (by omega)⟩;obtain⟨y,hy⟩:∃c,l[j]?=some c:=⟨l[j]'(by omega),bN (by omega)⟩;have ih:=zY up m l hl j (by omega);rw[gE hc]at ih;rw[oa,oa,hc,hy];simp only[Option.toList_some];rw[BC up c y (by simp;omega),ih];have hg:l.getD j 0=y:=by rw[Fe,hy];rfl
  simp only[bki,hc,hy,ne_eq,af];by_cases hh:c=88/\¬y=lst up
  ·rw[ad hh,ad hh,dB,hg]
  ·rw[ab hh,ab hh]
section
variable {m:List UInt8} {l z:List Int}
def jf(hl:m.length=l.length)(h18:m.length<=18)(k f g:Int)(up:Bool):
  au (dC 20000000) 20000000 (m,k,up,f,g,0,over z 0 l,over z 0 l)=some (m,k,up,f,g,((ap m l:Nat):Int),over z 0 l,over z 0 l):=by
 have:=eZ (step:=dC 20000000) (λx=>x.1=m/\(0<=x.2.2.2.2.2.1/\x.2.2.2.2.2.1<=m.length)/\x.2.2.2.2.2.2.1=over z 0 l) (λx=>m.length - x.2.2.2.2.2.1.toNat)
  (λx=>(x.1,x.2.1,x.2.2.1,x.2.2.2.1,x.2.2.2.2.1,x.2.2.2.2.2.1+((ap (m.drop x.2.2.2.2.2.1.toNat) (l.drop x.2.2.2.2.2.1.toNat):Nat):Int),x.2.2.2.2.2.2.1,x.2.2.2.2.2.2.2)) ?_ 20000000 (m,k,up,f,g,0,over z 0 l,over z 0 l) ⟨rfl,⟨by simp,by simp⟩,rfl⟩ (by simp;omega)
 ·simpa using this
 rintro⟨m',k,up,f,g,i,d,o⟩ ⟨q1,⟨h0,hi⟩,q2⟩;simp only at q1 h0 hi q2 ⊢;subst q1 q2;obtain⟨j,rfl⟩:∃j:Nat,i=j:=⟨i.toNat,by omega⟩;simp only[cc];rcases aA j m'.length with hlt | hge
 ·obtain⟨c,hc⟩:∃c,m'[j]?=some c:=⟨m'[j],bN hlt⟩;obtain⟨y,hy⟩:∃c,l[j]?=some c:=⟨l[j]'(by omega),bN (by omega)⟩;have hg:(over z 0 l)[j]?=some y:=by rw[oI (by omega)];exact hy
  have hb:(decide ((j:Int)<((List.length m':Nat):Int)))=true:=by simp;omega
  have hw:wrap .i64 ((j:Int)+1)=((j+1:Nat):Int):=by rw[wrap_i64 _ (by omega) (by omega)];omega
  rw[gE hc,gE hy];simp only[dC,hb,aj,kD hc,ob,rG,hw,ef (show j<18 by omega),hg,ap];by_cases h88:c=88
  ·refine .inl ⟨(m',k,up,f,g,((j+1:Nat):Int),over z 0 l,o),by simp only[ay h88,aj],⟨rfl,⟨by simp only;omega,by simp only;omega⟩,rfl⟩,by simp only[cc];omega,?_⟩;simp only[cc,ad (show c=88\/((c.toNat:Nat):Int)=y from .inl h88)];congr 6;omega
  ·simp only[ax h88,ae];by_cases hcy:((c.toNat:Nat):Int)=y
   ·have e:(((c.toNat:Nat):Int)==y)=true:=by simpa using hcy
    refine .inl ⟨(m',k,up,f,g,((j+1:Nat):Int),over z 0 l,o),by simp only[e,aj],⟨rfl,⟨by simp only;omega,by simp only;omega⟩,rfl⟩,by simp only[cc];omega,?_⟩;simp only[cc,ad (show c=88\/((c.toNat:Nat):Int)=y from .inr hcy)];congr 6;omega
   ·have e:(((c.toNat:Nat):Int)==y)=false:=by simpa using hcy
    refine .inr ?_;simp only[e,ae,ab (show¬(c=88\/((c.toNat:Nat):Int)=y)fromλh=>h.elim h88 hcy),Int.ofNat_zero,Int.add_zero,Int.natCast_zero]
 ·have hb:(decide ((j:Int)<((List.length m':Nat):Int)))=false:=by simp;omega
  refine .inr ?_;simp only[dC,hb,ae];rw[nL hge];simp[ap]
def Ej(hl:m.length=l.length)(h18:m.length<=18)(f:Int)(up:Bool)(o:List Int)(i:Nat)(hi:i<=m.length):
  au (bz 20000000) 20000000 (m,up,f,lst up,(i:Int),over z 0 l,o) =
   some (match bki up m l i with | none=>.inl (0,16) | some a=>.inr (m,up,f,((a:Nat):Int),o)):=by
 have:=eZ (step:=bz 20000000) (λx=>x.1=m/\x.2.2.2.1=lst up/\(0<=x.2.2.2.2.1/\x.2.2.2.2.1<=m.length)/\x.2.2.2.2.2.1=over z 0 l) (λx=>x.2.2.2.2.1.toNat)
  (λx=>match bki up m l x.2.2.2.2.1.toNat with | none=>.inl (0,16) | some a=>.inr (x.1,x.2.1,x.2.2.1,((a:Nat):Int),x.2.2.2.2.2.2)) ?_ 20000000 (m,up,f,lst up,(i:Int),over z 0 l,o) ⟨rfl,rfl,⟨by simp only;omega,by simp only;omega⟩,rfl⟩ (by simp;omega)
 ·simpa using this
 rintro⟨m',up',f,g,i,d,o⟩ ⟨q1,q3,⟨h0,hi⟩,q2⟩;simp only at q1 q3 h0 hi q2 ⊢;subst q1 q2 q3;obtain⟨j,rfl⟩:∃j:Nat,i=j:=⟨i.toNat,by omega⟩;simp only[cc];rcases j with _ | j
 ·refine .inr ?_;have w:wrap .i64 (((0:Nat):Int) - 1)=-1:=wrap_i64 _ (by omega) (by omega);simp only[bz,w,show decide ((-1:Int)<0)=true from rfl,aj,bki]
 ·have w:wrap .i64 (((j+1:Nat):Int) - 1)=(j:Int):=by rw[wrap_i64 _ (by omega) (by omega)];omega
  have e0:decide ((j:Int)<0)=false:=by simp
  obtain⟨c,hc⟩:∃c,m'[j]?=some c:=⟨m'[j]'(by omega),bN (by omega)⟩;obtain⟨y,hy⟩:∃c,l[j]?=some c:=⟨l[j]'(by omega),bN (by omega)⟩;have hg:(over z 0 l)[j]?=some y:=by rw[oI (by omega)];exact hy
  simp only[bz,w,e0,ae,kD hc,ob,rG,ef (show j<18 by omega),hg,bki,hc,hy,af,ne_eq];by_cases h88:c=88
  ·by_cases hy9:y=lst up
   ·have e:(y != lst up)=false:=by simpa using hy9
    refine .inl ⟨(m',up',f,lst up,(j:Int),over z 0 l,o),by simp only[ay h88,aj,e,ae],⟨rfl,rfl,⟨by simp only;omega,by simp only;omega⟩,rfl⟩,by simp only[cc];omega,?_⟩;simp only[cc,ab (show¬(c=88/\¬y=lst up)fromλh=>h.2 hy9)]
   ·have e:(y != lst up)=true:=by simpa using hy9
    refine .inr ?_;simp only[ay h88,aj,e,ad (show c=88/\¬y=lst up from⟨h88,hy9⟩)]
  ·refine .inl ⟨(m',up',f,lst up,(j:Int),over z 0 l,o),by simp only[ax h88,ae],⟨rfl,rfl,⟨by simp only;omega,by simp only;omega⟩,rfl⟩,by simp only[cc];omega,?_⟩;simp only[cc,ab (show¬(c=88/\¬y=lst up)fromλh=>h88 h.1)]
def xk(q:m.length<=18)(up:Bool)(d:List Int)(e:d.length=18)(i:Nat)(hi:i<=m.length):
  au (aR 20000000) 20000000 (m,fst up,(i:Int),d)=some (m,over d i (fil up (m.drop i))):=by
 have:=eZ (step:=aR 20000000) (λx=>x.1=m/\x.2.1=fst up/\(0<=x.2.2.1/\x.2.2.1<=m.length)/\x.2.2.2.length=18) (λx=>m.length - x.2.2.1.toNat)
  (λx=>(m,over x.2.2.2 x.2.2.1.toNat (fil up (m.drop x.2.2.1.toNat)))) ?_ 20000000 (m,fst up,(i:Int),d) ⟨rfl,rfl,⟨by simp only;omega,by simp only;omega⟩,e⟩ (by simp;omega)
 ·simpa using this
 rintro⟨m',f,i,d⟩ ⟨o,l,⟨h0,hi⟩,e⟩;simp only at o l h0 hi e ⊢;subst o l;obtain⟨j,rfl⟩:∃j:Nat,i=j:=⟨i.toNat,by omega⟩;simp only[cc];rcases aA j m'.length with k | g
 ·obtain⟨c,hc⟩:∃c,m'[j]?=some c:=⟨m'[j],bN k⟩;have n:j<18:=by omega
  have h:(decide ((j:Int)<((List.length m':Nat):Int)))=true:=by simp;omega
  have r:wrap .i64 ((j:Int)+1)=((j+1:Nat):Int):=by rw[wrap_i64 _ (by omega) (by omega)];omega
  have p:Nat.blt j 18=true:=dA n;have b:∀c:UInt8,fil up (c::m'.drop (j+1))=(cond (decide (c=88)) (fst up) ((c.toNat:Nat):Int))::fil up (m'.drop (j+1)):=λ_=>rfl;rw[gE hc,b];simp only[aR,h,aj,kD hc,ob,rG,ef n,p,r];by_cases a:c=88
  ·refine .inl ⟨(m',fst up,((j+1:Nat):Int),(d.set j ((c.toNat:Nat):Int)).set j (fst up)),by simp only[ay a,aj],⟨rfl,rfl,⟨by simp only;omega,by simp only;omega⟩,by simpa using e⟩,by simp only[cc];omega,?_⟩;simp only[cc,ay a,aj];rw[List.set_set,wg _ _ _ _ (by omega)]
  ·refine .inl ⟨(m',fst up,((j+1:Nat):Int),d.set j ((c.toNat:Nat):Int)),by simp only[ax a,ae],⟨rfl,rfl,⟨by simp only;omega,by simp only;omega⟩,by simpa using e⟩,by simp only[cc];omega,?_⟩;simp only[cc,ax a,ae];rw[wg _ _ _ _ (by omega)]
 ·have h:(decide ((j:Int)<((List.length m':Nat):Int)))=false:=by simp;omega
  refine .inr ?_;simp only[aR,h,ae];rw[nL g];simp[fil,zU]
def yk(z l F:List Int)(i:Nat)(h:i+F.length=l.length):over (over z 0 l) i F=over z 0 (l.take i++F):=by
 unfold over;simp only[kR,gh,ci,cR,dj,om (show i<=l.length by omega),h];rw[qB (by omega),List.drop_append_of_le_length (by omega),List.drop_of_length_le (aI l.length)];simp
end
def CV{m:aa}(hm:chk m=0)(up:Bool)(k:Int)(h0:0<=k)(h1:k<10 ^ m.length):
  bX 20000000 m k up=some (match nx up m (dg m.length k)with | some r=>(vl r,0) | none=>(0,16)):=by
 obtain⟨h18,_,hok⟩:=iy hm;have hp:=yh m.length h18;have hlen:=qN m.length k;have hrng:=pG m.length k;have hv:=Gm m.length k h0 h1;have hn:=JW up hok hlen.symm hrng;have hsplit:=A3 m k h18 h0 (by omega);generalize dg m.length k=l at hlen hrng hv hn hsplit ⊢;have hout:(over [0,0,0,0,0,0,0,0,0,0,0,0,0,0,0,0,0,0] 0 l).length=18:=by rw[Gx _ _ _ (by simp;omega)];rfl
 have fin:∀r:List Int,nx up m l=some r->dX 20000000 m (over [0,0,0,0,0,0,0,0,0,0,0,0,0,0,0,0,0,0] 0 r)=some (vl r):=by
  intro r hr;rw[hr]at hn;obtain⟨i1,i2,_⟩:=hn;rw[GO _ h18 i1 i2,vB i2]
 have hap:=Nj m l;have hagr:=Ez m l;have happ:=xZ up (m:=m.take (ap m l)) (m':=m.drop (ap m l)) (d:=l.take (ap m l)) (d':=l.drop (ap m l)) (by simp;omega) hagr;rw[qw,qw]at happ;have hz0:gJ 20000000 m k=some (over [0,0,0,0,0,0,0,0,0,0,0,0,0,0,0,0,0,0] 0 l):=hsplit;generalize hzz:([0,0,0,0,0,0,0,0,0,0,0,0,0,0,0,0,0,0]:List Int)=z at hout fin hz0;rcases aA (ap m l) m.length with hlt | hge
 ·obtain⟨c,hc⟩:∃c,m[ap m l]?=some c:=⟨m[ap m l],bN hlt⟩;obtain⟨y,hy⟩:∃c,l[ap m l]?=some c:=⟨l[ap m l]'(by omega),bN (by omega)⟩;obtain⟨h88,hcy⟩:=DK hc hy;have hg:(over z 0 l)[ap m l]?=some y:=by rw[oI (by omega)];exact hy
  have eL:(((ap m l:Nat):Int)==((List.length m:Nat):Int))=false:=by simp;omega
  have hj:ap m l<18:=by omega
  have hfc:fil up (m.drop (ap m l))=((c.toNat:Nat):Int)::fil up (m.drop (ap m l+1)):=by
   rw[gE hc];simp[fil,h88]
  have hbk:=zY up m l hlen.symm (ap m l) hap;have hnx:nx up (m.drop (ap m l)) (l.drop (ap m l))=if decide (((c.toNat:Nat):Int)>y)=up then some (fil up (m.drop (ap m l)))else none:=by
   rw[hfc,gE hc,gE hy];simp only[nx,ab h88,ab hcy]
  rw[hnx]at happ;by_cases hup:decide (((c.toNat:Nat):Int)>y)=up
  ·rw[ad hup]at happ;simp only at happ;have f2:=fin _ happ;rw[happ];simp only[];rw[<-yk z l _ _ (by rw[vw,k7];omega)]at f2;have l2:=xk h18 up _ hout (ap m l) hap;cases up
   ·have l0:=jf (z:=z) hlen.symm h18 k 57 48 false;have l2':au (aR 20000000) 20000000 (m,57,((ap m l:Nat):Int),over z 0 l)=_:=l2;simp only[bX,dU,aj,hz0,ob,l0,eL,ae,kD hc,ef hj,hg,hup,qj,da,l2',f2]
   ·have l0:=jf (z:=z) hlen.symm h18 k 48 57 true;have l2':au (aR 20000000) 20000000 (m,48,((ap m l:Nat):Int),over z 0 l)=_:=l2;simp only[bX,da,aj,hz0,ob,l0,eL,ae,kD hc,ef hj,hg,hup,qj,l2',f2]
  ·rw[ab hup]at happ;simp only[hbk]at happ;have hne:(!(decide (((c.toNat:Nat):Int)>y)==up))=true:=by
    cases up<;>cases hh:decide (((c.toNat:Nat):Int)>y)<;>simp_all
   have l1:=Ej (z:=z) hlen.symm h18 (fst up) up (over z 0 l) (ap m l) hap;cases hb:bki up m l (ap m l)with
   | none=>
    rw[hb]at happ l1;simp only[en]at happ;rw[happ];simp only[]at l1 ⊢;cases up
    ·have l0:=jf (z:=z) hlen.symm h18 k 57 48 false;have l1':au (bz 20000000) 20000000 (m,false,57,48,((ap m l:Nat):Int),over z 0 l,over z 0 l)=_:=l1;simp only[bX,dU,aj,hz0,ob,l0,eL,ae,kD hc,ef hj,hg,hne,l1']
    ·have l0:=jf (z:=z) hlen.symm h18 k 48 57 true;have l1':au (bz 20000000) 20000000 (m,true,48,57,((ap m l:Nat):Int),over z 0 l,over z 0 l)=_:=l1;simp only[bX,da,aj,hz0,ob,l0,eL,ae,kD hc,ef hj,hg,hne,l1']
   | some a=>
    have ha:=iO9 up m l hb;obtain⟨w,hw⟩:∃c,l[a]?=some c:=⟨l[a]'(by omega),bN (by omega)⟩;have hga:(over z 0 l)[a]?=some w:=by rw[oI (by omega)];exact hw
    have hgd:l.getD a 0=w:=by rw[Fe,hw];rfl
    have hwr:=hrng w (dK hw);have haj:a<18:=by omega
    have e2:Nat.blt a 18=true:=dA haj;have w1:wrap .i64 ((a:Int)+1)=((a+1:Nat):Int):=by rw[wrap_i64 _ (by omega) (by omega)];omega
    rw[hb]at happ l1;simp only[dB,hgd]at happ;have f2:=fin _ happ;rw[happ];simp only[]at l1 ⊢;rw[<-yk z l _ _ (by rw[bp,vw,k7];omega),<-wg _ _ _ _ (by omega)]at f2;have l2:=xk h18 up ((over z 0 l).set a (stp up w)) (by simpa using hout) (a+1) (by omega);cases up
    ·have l0:=jf (z:=z) hlen.symm h18 k 57 48 false;have l1':au (bz 20000000) 20000000 (m,false,57,48,((ap m l:Nat):Int),over z 0 l,over z 0 l)=some (.inr (m,false,57,((a:Nat):Int),over z 0 l)):=l1;have l2':au (aR 20000000) 20000000 (m,57,((a+1:Nat):Int),(over z 0 l).set a (w - 1))=_:=l2;have w2:wrap .u8 (w - 1)=w - 1:=gO _ (by omega) (by omega);simp only[bX,dU,aj,hz0,ob,l0,eL,ae,kD hc,ef hj,hg,hne,l1',ef haj,hga,e2,w1,w2,l2',f2]
    ·have l0:=jf (z:=z) hlen.symm h18 k 48 57 true;have l1':au (bz 20000000) 20000000 (m,true,48,57,((ap m l:Nat):Int),over z 0 l,over z 0 l)=some (.inr (m,true,48,((a:Nat):Int),over z 0 l)):=l1;have l2':au (aR 20000000) 20000000 (m,48,((a+1:Nat):Int),(over z 0 l).set a (w+1))=_:=l2;have w2:wrap .u8 (w+1)=w+1:=gO _ (by omega) (by omega);simp only[bX,da,aj,hz0,ob,l0,eL,ae,kD hc,ef hj,hg,hne,l1',ef haj,hga,e2,w1,w2,l2',f2]
 ·have e:ap m l=m.length:=by omega
  rw[e,fS9,<-hlen,fS9,oz]at happ;simp only[nx,uR]at happ;have eL:(((ap m l:Nat):Int)==((List.length m:Nat):Int))=true:=by rw[e];simp
  rw[happ];simp only[hv];cases up
  ·have l0:=jf (z:=z) hlen.symm h18 k 57 48 false;simp only[bX,dU,aj,hz0,ob,l0,eL]
  ·have l0:=jf (z:=z) hlen.symm h18 k 48 57 true;simp only[bX,da,ae,hz0,ob,l0,eL,aj]
def near(up:Bool)(m:aa)(k:Int):Option Int->Prop
 | some R=>hasM m R=true/\cu up k R/\∀e,hasM m e=true->cu up k e->cu up R e
 | none=>∀e,hasM m e=true->¬cu up k e
def res(o:Option Int):Int×Int:=match o with | some r=>(r,0) | none=>(0,16)
def kq{m:aa}{e:Int}(h:hasM m e=true):(dg m.length e).length=m.length/\digl (dg m.length e)/\eX m (dg m.length e)=true/\vl (dg m.length e)=e/\0<=e/\e<10 ^ m.length:=by
 unfold hasM at h;simp only[aw,aT]at h;exact⟨qN _ _,pG _ _,h.2.2,Gm _ _ h.1 h.2.1,h.1,h.2.1⟩
def KQ{m:aa}{r:List Int}(h1:r.length=m.length)(h2:digl r)(c:eX m r=true):hasM m (vl r)=true:=by
 have a:=rL h2;have b:=NB h2;rw[h1]at a b;unfold hasM;rw[b,c,ay a.1,ay a.2];rfl
def sg{m:aa}(hm:chk m=0)(up:Bool)(k:Int)(h0:0<=k)(h1:k<10 ^ m.length):∃o,bX 20000000 m k up=some (res o)/\near up m k o:=by
 obtain⟨p,_,j⟩:=iy hm;have a:=JW up j (qN m.length k).symm (pG m.length k);have d:=Gm m.length k h0 h1;refine⟨(nx up m (dg m.length k)).map vl,?_,?_⟩
 ·rw[CV hm up k h0 h1];cases nx up m (dg m.length k)<;>rfl
 ·cases n:nx up m (dg m.length k)with
  | none=>
   rw[n]at a;intro e g h;obtain⟨f,c,i,b,_⟩:=kq g;exact a _ f c i (by rw[d,b];exact h)
  | some r=>
   rw[n]at a;obtain⟨q,t,s,l,u⟩:=a;refine⟨KQ q t s,by rw[d]at l;exact l,λe g h=>?_⟩;obtain⟨f,c,i,b,_⟩:=kq g;have:=u _ f c i (by rw[d,b];exact h);rwa[b]at this
def wC{m:aa}{e:Int}(h:hasM m e=true):0<=idx m.reverse e/\idx m.reverse e<10 ^ cnt m/\nth m.reverse (idx m.reverse e)=e:=by
 rw[vY]at h;simp only[aw,aT]at h;obtain⟨k0,k1,k2⟩:=h;have:=rV m.reverse e k0;rw[lL]at this;exact⟨this.1,this.2,Fj k0 (by rw[lB];exact k1) k2⟩
section
variable {m:List UInt8} (hm:chk m=0)
include hm
def Ge{i j:Int}(h0:0<=i)(h1:i<=j)(h2:j<10 ^ cnt m):nth m.reverse i<=nth m.reverse j:=by
 obtain⟨b,_,a⟩:=iy hm;rcases ER h1 with h | rfl
 ·exact wZ (rr (tw a) i j h0 h (by rw[lL];exact h2))
 ·exact kg _
def xN(k:Int):fQ 20000000 m k=some (decide (0<=k/\k<10 ^ m.length)):=by
 obtain⟨a,_,b⟩:=iy hm;simp only[fQ,wd m.length a,ob];by_cases h0:0<=k
 ·have d0:decide (k>=0)=true:=by simpa using h0
  simp only[d0,aj,h0,lW,lZ]
 ·have d0:decide (k>=0)=false:=by simpa using h0
  simp only[d0,ae,h0,false_and,lC]
def FH(k:Int):∃o,nA 20000000 m k=some (res o)/\near true m k o:=by
 obtain⟨d,_,b⟩:=iy hm;have g:((0:Int) != 0)=false:=by simp
 simp only[nA,fB 20000000 m (by omega),hm,jB,g,ae,xN hm];by_cases h0:k<0
 ·refine⟨some (nth m.reverse 0),by simp only[ay h0,aj,Hm hm,jB,res],Ar hm (by omega),?_,λe a c=>?_⟩
  ·have:=(lg (tw b) 0 (by omega)).1;simp only[cu];omega
  ·obtain⟨j,f,n⟩:=wC a;have:=Ge hm (kg 0) j f;simp only[cu];omega
 ·by_cases h1:k<10 ^ m.length
  ·obtain⟨o,h2,l⟩:=sg hm true k (by omega) h1;exact⟨o,by simp only[ax h0,ae,ay (show 0<=k/\k<10 ^ m.length from⟨by omega,h1⟩),da,h2,jB],l⟩
  ·refine⟨none,by simp only[ax h0,ae,ax (show¬(0<=k/\k<10 ^ m.length)fromλh=>h1 h.2),dU,aj,res],λe a c=>?_⟩;obtain⟨_,_,_,_,_,i⟩:=kq a;simp only[cu]at c;omega
def DZ(k:Int):∃o,m7 20000000 m k=some (res o)/\near false m k o:=by
 obtain⟨d,_,b⟩:=iy hm;have f:((0:Int) != 0)=false:=by simp
 simp only[m7,fB 20000000 m (by omega),hm,jB,f,ae,xN hm];by_cases h0:k<0
 ·refine⟨none,by simp only[ay h0,aj,res],λe a c=>?_⟩;obtain⟨_,_,_,_,i,_⟩:=kq a;simp only[cu]at c;omega
 ·by_cases h1:k<10 ^ m.length
  ·obtain⟨o,h2,l⟩:=sg hm false k (by omega) h1;exact⟨o,by simp only[ax h0,ae,ay (show 0<=k/\k<10 ^ m.length from⟨by omega,h1⟩),da,h2,jB],l⟩
  ·have j:=pE (cnt m);refine⟨some (nth m.reverse (10 ^ cnt m - 1)),by simp only[ax h0,ae,ax (show¬(0<=k/\k<10 ^ m.length)fromλh=>h1 h.2),dU,aj,zG hm,jB,res],Ar hm (by omega),?_,λe a c=>?_⟩
   ·have:=(lg (tw b) (10 ^ cnt m - 1) (by omega)).2;rw[lB]at this;simp only[cu];omega
   ·obtain⟨g,n,p⟩:=wC a;have:=Ge hm g (show idx m.reverse e<=10 ^ cnt m - 1 by omega) (by omega);simp only[cu];omega
end
end Go.Sh.Mk
namespace Go.Sh
open Go.Abs
def fitN(s:aa)(g:Nat):List Nat:=(List.range' 1 g).filter (agr s)
def qu(l:List Nat):List Int:=l.map λk:Nat=>(k:Int)
def yv(l:List Nat):(qu l).length=l.length:=by simp[qu]
def yd(c:UInt8){j:Nat}(b:j<10):(wrap .i64 (wrap .u8 (((c.toNat:Nat):Int) - 48))==((j:Nat):Int))=(c==UInt8.ofNat (48+j)):=by
 have hc:=c.toNat_lt;have a:=vL (((c.toNat:Nat):Int) - 48);rw[wrap_i64 _ (by omega) (by omega),Cf,Bq,bI,bI];have d:(UInt8.ofNat (48+j)).toNat=48+j:=by simp;omega
 constructor
 ·intro h;apply iW.1;omega
 ·rintro rfl;omega
def Es(n:Nat)(a b:UInt8){k:Nat}(h2:k<=31):ij n [a,b] (k:Int)=some (agr [a,b] k):=by
 have f:wrap .i64 (Int.tdiv (k:Int) 10)=((k / 10:Nat):Int):=by
  rw[show Int.tdiv (k:Int) 10=((k / 10:Nat):Int)from rfl,wrap_i64 _ (by omega) (by omega)]
 have d:Int.tmod (k:Int) 10=((k%10:Nat):Int):=rfl;have s0:sx [a,b] 0=some a:=rfl;have h:sx [a,b] 1=some b:=rfl;have c:(88:Int)=((88:Nat):Int):=rfl;unfold ij;simp only[s0,h,ob,f,d];rw[yd a (show k / 10<10 by omega),yd b (show k%10<10 by omega),c,uS (by omega),uS (by omega)];show _=some ((a==UInt8.ofNat 88||a==UInt8.ofNat (48+k / 10))&&(b==UInt8.ofNat 88||b==UInt8.ofNat (48+k%10)));generalize(a==UInt8.ofNat 88)=i;generalize(b==UInt8.ofNat 88)=e;generalize(a==UInt8.ofNat (48+k / 10))=g;generalize(b==UInt8.ofNat (48+k%10))=j;cases i<;>cases e<;>cases g<;>cases j<;>rfl
def room{k:Nat}(h:k<=60000000):Nat.ble (k+1) eO=true:=dA (by unfold eO;omega)
def GX{X Y:Type}{step:X->Option (X⊕Y)}{f:Nat->List Int->X}{y:List Int->Y}{p:Nat->Bool}{g:Nat}(j:g<=1000)
  (h:∀i out,i<g->out.length<=1000->step (f i out)=some (.inl (f (i+1) (if p (i+1)then out++[((i+1:Nat):Int)]else out))))
  (c:∀out,step (f g out)=some (.inr (y out))) {N:Nat} (b:g<N):au step N (f 0 [])=some (y (qu ((List.range' 1 g).filter p))):=by
 have d:∀(r i:Nat) (out:List Int),i+r=g->out.length<=i->∀N,r<N->au step N (f i out)=some (y (out++qu ((List.range' (i+1) r).filter p))):=by
  intro r
  induction r with
  | zero=>
   intro i out hi e N b;obtain⟨N,rfl⟩:∃q,N=q+1:=⟨N - 1,by omega⟩;obtain rfl:i=g:=by omega
   rw[au,c];simp[qu]
  | succ r ih=>
   intro i out hi e N b;obtain⟨N,rfl⟩:∃q,N=q+1:=⟨N - 1,by omega⟩;rw[au,h i out (by omega) (by omega)];show au step N _=_;by_cases a:p (i+1)=true
   ·rw[ad a,ih (i+1) _ (by omega) (by simp;omega) N (by omega),we,zV a];simp[qu]
   ·rw[ab a,ih (i+1) _ (by omega) (by omega) N (by omega),we,Br a]
 have:=d g 0 [] (by omega) (by simp) N b;simpa using this
def EY (n:Nat) (h:100<n) (a b:UInt8) {g:Nat} (e:g<=31):di n [a,b] (g:Int)=some (qu (fitN [a,b] g)):=by
 unfold di
 have:=GX (step:=dL n) (f:=λi out=>([a,b],(g:Int),(i:Int),out)) (y:=λl=>l) (p:=agr [a,b]) (g:=g) (by omega)
  (λi out hi j=>by
   have d:wrap .i64 ((i:Int)+1)=((i+1:Nat):Int):=by rw [wrap_i64 _ (by omega) (by omega)];omega
   unfold dL;simp only [d];rw [ay (show (i:Int)<(g:Int) by omega),Es n a b (by omega),room (by omega)];by_cases c:agr [a,b] (i+1)=true
   ·rw [ad c];simp only [ob,c,aj]
   ·rw [ab c];rw [Ao] at c;simp only [ob,c,aj,ae])
  (λout=>by
   unfold dL;simp only [ax (show ¬(g:Int)<(g:Int) by omega),ae])
  (N:=n) (by omega)
 have h0:au (dL n) n ([a,b],(g:Int),0,([]:List Int))=_:=this;rw [h0];rfl
def monI(m:aa):List Int:=if m=[]then[0]else if 0<sea m then[sea m]else qu (fitN m 12)
def dayI(d:aa):List Int:=if d=[]then[0]else qu (fitN d 31)
def cj{l:aa}(h:l≠[]):(l==([]:aa))=false:=bA.2 h
def len2{s:aa}(h:s.length=2):∃a b,s=[a,b]:=by
 match s,h with
 | [a,b],_=>exact⟨a,b,rfl⟩
def Gz(n:Nat)(i:100<n)(g l:Bool)(dg:aa)(x q:Int)(m d:aa)(k0 k1 k2:Int)(hm:m=[]\/m.length=2)(k:d=[]\/d.length=2):
  gN n g l dg x q m d k0 k1 k2=some (g,l,dg,x,q,m,d,k0,k1,k2,monI m,dayI d):=by
 have hml:m.length<=18:=by rcases hm with h | h;(rw[h];simp);omega
 have f:d≠[]->di n d 31=some (dayI d):=λh=>by
  obtain⟨a,b,rfl⟩:=len2 (k.resolve_left h);rw[show(31:Int)=((31:Nat):Int)from rfl,EY n i a b (by omega)];unfold dayI;rw[ab h]
 have e:d=[]->dayI d=[0]:=λh=>by unfold dayI;rw[ad h]
 have j:m≠[]->¬0<sea m->di n m 12=some (monI m):=λh c=>by
  obtain⟨a,b,rfl⟩:=len2 (hm.resolve_left h);rw[show(12:Int)=((12:Nat):Int)from rfl,EY n i a b (by omega)];unfold monI;rw[ab h,ab c]
 unfold gN;rw[sa n g l dg x q m d k0 k1 k2 hml];simp only[ob];by_cases c:0<sea m
 ·have h0:m≠[]:=by rintro rfl;exact absurd c (by decide)
  have hm':monI m=[sea m]:=by unfold monI;rw[ab h0,ad c]
  rw[ay c];by_cases h:d=[]
  ·rw[h,<-h,e h,hm',h];rfl
  ·rw[cj h,f h,hm'];rfl
 ·rw[ax c];by_cases h0:m=[]
  ·have hm':monI m=[0]:=by unfold monI;rw[ad h0]
   by_cases h:d=[]
   ·rw[e h,hm',h,h0];rfl
   ·rw[cj h,f h,hm',h0];rfl
  ·rw[cj h0,j h0 c];by_cases h:d=[]
   ·rw[e h,h];rfl
   ·rw[cj h,f h];rfl
def so(y:Int):Bool:=decide (y%4=0)&&(decide (y%100≠0)||decide (y%400=0))
def lenI(y m:Int):Int:=if m=4\/m=6\/m=9\/m=11 then 30 else if m=2 then(if so y then 29 else 28)else 31
def tz(n:Nat){y:Int}(h:-20000000000000000<=y/\y<=20000000000000000):dq n y=some (1+(y - 1) / 4 - (y - 1) / 100+(y - 1) / 400):=by
 unfold dq;rw[wrap_i64 (y - 1) (by omega) (by omega),qG n (by omega) (by omega) (by omega) (by omega),qG n (by omega) (by omega) (by omega) (by omega),qG n (by omega) (by omega) (by omega) (by omega)];show some _=some _;have f:-5000000000000001<=(y - 1) / 4/\(y - 1) / 4<=5000000000000001:=by omega
 have e:-5000000000000001<=(y - 1) / 100/\(y - 1) / 100<=5000000000000001:=by omega
 have d:-5000000000000001<=(y - 1) / 400/\(y - 1) / 400<=5000000000000001:=by omega
 generalize(y - 1) / 4=a at *;generalize(y - 1) / 100=b at *;generalize(y - 1) / 400=c at *;simp only[];rw[wrap_i64 (1*a) (by omega) (by omega),wrap_i64 (-1*b) (by omega) (by omega),wrap_i64 (1*c) (by omega) (by omega),wrap_i64 (1+1*a) (by omega) (by omega),wrap_i64 (1+1*a+-1*b) (by omega) (by omega),wrap_i64 _ (by omega) (by omega)];congr 1;omega
def GB(y:Int):(1+y / 4 - y / 100+y / 400>1+(y - 1) / 4 - (y - 1) / 100+(y - 1) / 400)↔so y=true:=by
 unfold so;simp only[aw,fH,aT];omega
def Jv(n:Nat){y:Int}(h:bU y):gS n y=some (so y,0):=by
 unfold gS;have h':=h;unfold bU at h';rw[dW,ad h,wrap_i64 (y+1) (by omega) (by omega),tz n (by omega),tz n (by omega),show y+1 - 1=y by omega];have b:=GB y;show some (decide (1+y / 4 - y / 100+y / 400>1+(y - 1) / 4 - (y - 1) / 100+(y - 1) / 400),(0:Int))=_;by_cases a:so y=true
 ·rw[a,ay (b.2 a)]
 ·rw[Ao]at a;rw[a,ax (λe=>by rw[b.1 e]at a;cases a)]
def pA(n:Nat){y:Int}(h:bU y){m:Nat}(h1:1<=m)(h2:m<=12):cf n y (m:Int)=some (lenI y (m:Int)):=by
 unfold cf;rw[Jv n h];show cond (so y&&((m:Int)==2)) _ _=_;have a:wrap .i64 ((m:Int) - 1)=((m - 1:Nat):Int):=by rw[wrap_i64 _ (by omega) (by omega)];omega
 rw[a,ef (show m - 1<12 by omega)];have hm:m=1\/m=2\/m=3\/m=4\/m=5\/m=6\/m=7\/m=8\/m=9\/m=10\/m=11\/m=12:=by omega
 rcases hm with rfl | rfl | rfl | rfl | rfl | rfl | rfl | rfl | rfl | rfl | rfl | rfl<;>unfold lenI<;>cases so y<;>rfl
def FI(n:Nat){y:Int}(h:bU y){m:Nat}(h1:1<=m)(h2:m<=12):kX n y (m:Int)=some (lenI y (m:Int),0):=by
 unfold kX;rw[BF n h h1 h2,pA n h h1 h2];rfl
def gY(y m:Int):28<=lenI y m/\lenI y m<=31:=by
 unfold lenI;split
 ·omega
 ·split
  ·split<;>omega
  ·omega
def jk(d:aa)(y m:Int):Int:=if d=[]then 0 else lenI y m
def mu(d:aa)(y a:Int):List (Int×Int×Int):=((dayI d).filter λk=>decide (k<=jk d y a)).map λk=>(y,a,k)
def gv(m d:aa)(y:Int):List (Int×Int×Int):=(monI m).flatMap (mu d y)
def zO(s:aa)(g:Nat):(fitN s g).length<=g:=by
 have:=uN (agr s) (List.range' 1 g);rw[List.length_range']at this;exact this
def ng(d:aa):(dayI d).length<=31:=by
 unfold dayI;split
 ·simp
 ·rw[yv];exact zO d 31
def Aa(m:aa):(monI m).length<=12:=by
 unfold monI;split
 ·simp
 ·split
  ·simp
  ·rw[yv];exact zO m 12
def BZ(d:aa)(y a:Int):(mu d y a).length<=31:=by
 unfold mu;rw[mw];exact lT (uN _ _) (ng d)
def tu(y a:Int):mu [] y a=[(y,a,0)]:=rfl
def MS{a b c e:UInt8}(l:bS a=true\/a=88)(k:bS b=true\/b=88)(hc:bS c=true\/c=88)(j:bS e=true\/e=88)(w:Nat):
  mtk [a,b,c,e] 4 w=Mk.ag [e,c,b,a] (w:Int):=by
 have one:∀(z:UInt8) (v:Nat),(decide (z=88)||decide (z.toNat=48+v%10))=(decide (z=88)||decide (Mk.dv z=(v:Int)%10)):=by
  intro z v;have:(z.toNat=48+v%10)↔(Mk.dv z=(v:Int)%10):=by unfold Mk.dv;omega
  rw[sX.2 this]
 have d:∀v:Nat,(v:Int) / 10=((v / 10:Nat):Int):=λv=>by omega
 show((decide (e=88)||decide (e.toNat=48+w%10))&&((decide (c=88)||decide (c.toNat=48+w / 10%10))&&((decide (b=88)||decide (b.toNat=48+w / 10 / 10%10))&&((decide (a=88)||decide (a.toNat=48+w / 10 / 10 / 10%10))&&true))))
  = ((((true&&(decide (a=88)||decide (Mk.dv a=(w:Int) / 10 / 10 / 10%10)))&&(decide (b=88)||decide (Mk.dv b=(w:Int) / 10 / 10%10)))&&(decide (c=88)||decide (Mk.dv c=(w:Int) / 10%10)))&&(decide (e=88)||decide (Mk.dv e=(w:Int)%10)))
 rw[one e w,one c (w / 10),one b (w / 10 / 10),one a (w / 10 / 10 / 10),d w,d (w / 10),d (w / 10 / 10)];generalize(decide (e=88)||decide (Mk.dv e=(w:Int)%10))=h;generalize(decide (c=88)||decide (Mk.dv c=((w / 10:Nat):Int)%10))=f;generalize(decide (b=88)||decide (Mk.dv b=((w / 10 / 10:Nat):Int)%10))=g;generalize(decide (a=88)||decide (Mk.dv a=((w / 10 / 10 / 10:Nat):Int)%10))=i;cases h<;>cases f<;>cases g<;>cases i<;>rfl
def Jh{c:UInt8}(h:bS c=true\/c=88):Mk.okB c=true:=by
 rcases h with h | h
 ·have h:=(fg c).1 h;unfold Mk.okB;simp only[fH,aw,aT];right
  first | omega | (obtain⟨h1,h2⟩:=h;constructor<;>omega)
 ·subst h;decide
def rl{d:aa}(a:d.length=4)(h:∀c∈d,bS c=true\/c=88):Mk.chk d=0:=by
 unfold Mk.chk;have:d.all Mk.okB=true:=ct.2 λc hc=>Jh (h c hc);rw[ab (by omega),ad this,ab (by rintro rfl;simp at a)]
def Bg{d:aa}(i:d.length=4)(h:∀c∈d,bS c=true\/c=88)(w:Nat):Mk.hasM d (w:Int)=true↔mtk d 4 w=true/\w / 10 ^ 4=0:=by
 obtain⟨a,b,c,e,rfl⟩:∃a b c e,d=[a,b,c,e]:=by
  match d,i with
  | [a,b,c,e],_=>exact⟨a,b,c,e,rfl⟩
 rw[Mk.vY,MS (h a (by simp)) (h b (by simp)) (h c (by simp)) (h e (by simp)) w];simp only[aw,aT];show 0<=(w:Int)/\(w:Int)<10 ^ 4/\Mk.ag [e,c,b,a] (w:Int)=true↔Mk.ag [e,c,b,a] (w:Int)=true/\w / 10 ^ 4=0;have g:(10:Int) ^ 4=10000:=by decide
 have e4':(10:Nat) ^ 4=10000:=by decide
 rw[g,e4'];constructor
 ·rintro⟨_,h2,f⟩;exact⟨f,by omega⟩
 ·rintro⟨f,h2⟩;exact⟨by omega,by omega,f⟩
def rC{g l:Bool}{d:aa}{x q:Int}(f:okY g l d x q)(c:hasX d=true)(v:Int):inP g d x q v↔(Mk.hasM d (wOf g v)=true/\(g=true->1<=wOf g v)):=by
 obtain⟨rfl,rfl,rfl,a,h⟩:=mm f c;unfold inP;rw[Nh c];have j:∀k:Int,Mk.hasM d k=true->0<=k/\k<10000:=λk m=>by
  have:=(Mk.kq m).2.2.2.2;rw[a]at this;have p:(10:Int) ^ 4=10000:=by decide
  omega
 constructor
 ·rintro⟨h1,h2,r,n,i⟩;have:=(Bg a h (wOf g v).toNat).2 i;rw[show(((wOf g v).toNat:Nat):Int)=wOf g v by omega]at this;refine⟨this,λb=>?_⟩;have h0:¬wOf g v=0:=λe=>n ⟨c,b,e⟩;omega
 ·rintro⟨h1,h2⟩;have hr':=j _ h1;have hm:=(Bg a h (wOf g v).toNat).1 (by rw[show(((wOf g v).toNat:Nat):Int)=wOf g v by omega];exact h1);have o:v=wOf g v\/v=- wOf g v:=by
   unfold wOf;split
   ·right;omega
   ·left;rfl
  refine⟨by omega,by omega,hr'.1,?_,hm⟩;rintro⟨_,b,e⟩;have:=h2 b;omega
def EL{g l:Bool}{d:aa}{x:Int}(b:okY g l d x 0)(a:hasX d=false)(v:Int):inP g d x 0 v↔v=(if g then -((val d x.toNat:Nat):Int)else((val d x.toNat:Nat):Int)):=by
 obtain⟨k,q,rfl,m,i⟩:=uZ b a;have c:=i.small;have h:dval 0 d*10 ^ k=val d k:=rfl;rw[h]at c;unfold E16 at c;unfold inP;rw[MR a];have f:Cj d (k:Int).toNat (0:Int).toNat=1:=rfl;rw[f,cc,wJ,wJ,a];unfold wOf;cases g with
 | true=>
  simp only[be];constructor
  ·rintro⟨h1,h2,j,_,e⟩;omega
  ·rintro rfl;refine⟨by omega,by omega,by omega,by simp,by omega⟩
 | false=>
  simp only[cb,aD];constructor
  ·rintro⟨h1,h2,j,_,e⟩;omega
  ·rintro rfl;refine⟨by omega,by omega,by omega,by simp,by omega⟩
def ur(up:Bool)(Y:Int->Prop)(v w:Int)(a:Bool):Prop:=
 (a=true->Y w/\Mk.cu up v w/\∀e,Y e->Mk.cu up v e->Mk.cu up w e)/\(a=false->∀e,Y e->¬Mk.cu up v e)
def aW(a b:Int):Mk.cu true a b↔a<=b:=Iff.rfl
def cQ(a b:Int):Mk.cu false a b↔b<=a:=Iff.rfl
def Je(o:Option Int):(Mk.res o).2=0/\(∃r,o=some r/\(Mk.res o).1=r)\/(Mk.res o).2=16/\o=none/\(Mk.res o).1=0:=by
 cases o with
 | none=>exact .inr ⟨rfl,rfl,rfl⟩
 | some r=>exact .inl ⟨rfl,r,rfl,rfl⟩
def qK{m:aa}(hm:Mk.chk m=0)(v a:Int)(h0:0<=a):∃w f,dG 20000000 m v true a=some (w,f)/\ur true (λe=>Mk.hasM m e=true/\a<=e) v w f/\(0<=w/\w<1000000000000000000):=by
 obtain⟨o,h1,h2⟩:=Mk.FH hm (cond (decide (a>v)) a v);unfold dG;rw[h1];simp only[ob,aj];have hc:(cond (decide (a>v)) a v)=max v a:=by
  by_cases h:a>v
  ·rw[ay h];show a=_;omega
  ·rw[ax h];show v=_;omega
 rw[hc]at h2;rcases Je o with⟨g,r,rfl,c⟩ | ⟨g,rfl,c⟩
 ·refine⟨_,_,rfl,?_,?_⟩
  ·rw[g,c];obtain⟨j,k,l⟩:=h2;rw[aW]at k;refine⟨λ_=>⟨⟨j,by omega⟩,?_,λe b d=>?_⟩,λh=>by cases h⟩
   ·rw[aW];omega
   ·rw[aW]at d;exact l e b.1 (by rw[aW];have:=b.2;omega)
  ·have:=(Mk.kq h2.1).2.2.2.2;have i:=Mk.iy hm;have p:(10:Int) ^ m.length<=10 ^ 18:=by
    have:=js (show 0<10 by decide) i.1
    exact_mod_cast this
   have n:(10:Int) ^ 18=1000000000000000000:=by decide
   rw[c];omega
 ·refine⟨_,_,rfl,?_,by rw[c];omega⟩;rw[g];refine⟨(λh=>by cases h),λ_ e b d=>?_⟩;rw[aW]at d;exact h2 e b.1 (by rw[aW];have:=b.2;omega)
def qL{m:aa}(hm:Mk.chk m=0)(v a:Int)(h0:0<=a):∃w f,dG 20000000 m v false a=some (w,f)/\ur false (λe=>Mk.hasM m e=true/\a<=e) v w f/\(0<=w/\w<1000000000000000000):=by
 obtain⟨o,h1,h2⟩:=Mk.DZ hm v;unfold dG;rw[h1];simp only[ob,ae];rcases Je o with⟨i,r,rfl,g⟩ | ⟨i,rfl,g⟩
 ·rw[i,g];obtain⟨j,n,k⟩:=h2;rw[cQ]at n;have s:=(Mk.kq j).2.2.2.2;have l:=Mk.iy hm;have q:(10:Int) ^ m.length<=10 ^ 18:=by
   have:=js (show 0<10 by decide) l.1
   exact_mod_cast this
  have p:(10:Int) ^ 18=1000000000000000000:=by decide
  refine⟨_,_,rfl,?_,by omega⟩;by_cases d:r>=a
  ·rw[ay d];refine⟨λ_=>⟨⟨j,by omega⟩,by rw[cQ];omega,λe b c=>k e b.1 c⟩,λh=>by cases h⟩
  ·rw[ax d];refine⟨(λh=>by cases h),λ_ e b c=>?_⟩;have:=k e b.1 c;rw[cQ]at this;have:=b.2;omega
 ·rw[i,g];refine⟨_,_,rfl,?_,by omega⟩;refine⟨(λh=>by cases h),λ_ e b c=>h2 e b.1 c⟩
def qt{g l:Bool}{dg:aa}{x:Int}(i:okY g l dg x 0)(m d:aa)(k0 k1 k2:Int)(v:Int)(F:-9223372036854775808<=v/\v<9223372036854775808)(up:Bool)(E B:List Int):
  ∃w f,aC 20000000 g l dg x 0 m d k0 k1 k2 v up E B=some (w,f)/\ur up (inP g dg x 0) v w f:=by
 have C:=rM i;unfold aC;rw[kY];simp only[ob];cases s:hasX dg with
 | false=>
  have c:=EL i s;rw[A5 20000000 g l dg x 0 (by omega) (by omega),ad ⟨i,s⟩];simp only[dU,aj];generalize(if g then -((val dg x.toNat:Nat):Int)else((val dg x.toNat:Nat):Int))=w at *;cases up with
  | true=>
   by_cases h:w>=v
   ·refine⟨w,true,?_,?_⟩
    ·simp only[ay h,aj]
    ·refine⟨λ_=>⟨(c w).2 rfl,h,λe b _=>?_⟩,λh=>by cases h⟩;rw[(c e).1 b];exact kg _
   ·refine⟨w,false,?_,?_⟩
    ·simp only[ax h,aj,ae,da]
    ·refine⟨(λh=>by cases h),λ_ e b j=>?_⟩;rw[(c e).1 b,aW]at j;omega
  | false=>
   by_cases h:w<=v
   ·refine⟨w,true,?_,?_⟩
    ·simp only[ay h,aj,ae,dU]
    ·refine⟨λ_=>⟨(c w).2 rfl,h,λe b _=>?_⟩,λh=>by cases h⟩;rw[(c e).1 b];exact kg _
   ·refine⟨w,false,?_,?_⟩
    ·simp only[ax h,aj,ae,dU]
    ·refine⟨(λh=>by cases h),λ_ e b j=>?_⟩;rw[(c e).1 b,cQ]at j;omega
 | true=>
  have c:=rC i s;obtain⟨rfl,rfl,_,z,D⟩:=mm i s;have hm:=rl z D;simp only[da,ae];cases g with
  | false=>
   simp only[dU,aj];have o:∀w f,ur up (λe=>Mk.hasM dg e=true/\0<=e) v w f->ur up (inP false dg 0 0) v w f:=λw f h=>by
    have a:∀e,(Mk.hasM dg e=true/\0<=e)↔inP false dg 0 0 e:=λe=>by
     rw[c e];constructor
     ·rintro⟨h1,_⟩;exact⟨h1,λh=>by cases h⟩
     ·rintro⟨h1,_⟩;exact⟨h1,(Mk.kq h1).2.2.2.2.1⟩
    refine⟨λk=>?_,λk e b=>h.2 k e ((a e).2 b)⟩;obtain⟨p,q,r⟩:=h.1 k;exact⟨(a w).1 p,q,λe b=>r e ((a e).2 b)⟩
   cases up with
   | true=>
    obtain⟨w,f,h1,h2,_⟩:=qK hm v 0 (by omega);exact⟨w,f,by rw[h1],o w f h2⟩
   | false=>
    obtain⟨w,f,h1,h2,_⟩:=qL hm v 0 (by omega);exact⟨w,f,by rw[h1],o w f h2⟩
  | true=>
   simp only[da,ae];have hc:wrap .i64 (0 - (cond (decide (((-9223372036854775807):Int)>v)) (-9223372036854775807) v))=min (-v) 9223372036854775807:=by
    by_cases h:((-9223372036854775807):Int)>v
    ·rw[ay h,aj,wrap_i64 _ (by omega) (by omega)];omega
    ·rw[ax h,ae,wrap_i64 _ (by omega) (by omega)];omega
   rw[hc];have t:∀e,Mk.hasM dg e=true->0<=e/\e<10000:=λe b=>by
    have:=(Mk.kq b).2.2.2.2;rw[z]at this;have G:(10:Int) ^ 4=10000:=by decide
    omega
   have a:∀e,inP true dg 0 0 e↔(Mk.hasM dg (-e)=true/\1<=-e):=λe=>by
    rw[c e];exact⟨λh=>⟨h.1,h.2 rfl⟩,λh=>⟨h.1,λ_=>h.2⟩⟩
   have y:∀w:Int,0<=w/\w<1000000000000000000->wrap .i64 (0 - w)=-w:=λw h=>by rw[wrap_i64 _ (by omega) (by omega)];omega
   cases up with
   | true=>
    obtain⟨w,f,h1,h2,u⟩:=qL hm (min (-v) 9223372036854775807) 1 (by omega);refine⟨-w,f,by rw[da,h1];simp only[y w u],?_,?_⟩
    ·intro k;obtain⟨p,q,r⟩:=h2.1 k;rw[cQ]at q;refine⟨(a _).2 (by rw[Int.neg_neg];exact p),by rw[aW];omega,λe b j=>?_⟩;rw[aW]at j;have n:=(a e).1 b;have:=r (-e) n (by rw[cQ];have:=t _ n.1;omega);rw[cQ]at this;rw[aW];omega
    ·intro k e b j;rw[aW]at j;have n:=(a e).1 b;exact h2.2 k (-e) n (by rw[cQ];have:=t _ n.1;omega)
   | false=>
    obtain⟨w,f,h1,h2,u⟩:=qK hm (min (-v) 9223372036854775807) 1 (by omega);refine⟨-w,f,by rw[dU,h1];simp only[y w u],?_,?_⟩
    ·intro k;obtain⟨p,q,r⟩:=h2.1 k;rw[aW]at q;have A:=t _ p.1;refine⟨(a _).2 (by rw[Int.neg_neg];exact p),by rw[cQ];omega,λe b j=>?_⟩;rw[cQ]at j;have n:=(a e).1 b;have:=r (-e) n (by rw[aW];omega);rw[aW]at this;rw[cQ];omega
    ·intro k e b j;rw[cQ]at j;have n:=(a e).1 b;exact h2.2 k (-e) n (by rw[aW];omega)
def pB{X Y A:Type}{step:X->Option (X⊕Y)}{f:Nat->X}{L:List A}{G:A->Option Y}{e:Y}
  (h:∀i a,L[i]?=some a->step (f i)=some ((G a).elim (.inl (f (i+1))) Sum.inr)) (c:step (f L.length)=some (.inr e)) {N:Nat} (b:L.length<N):
  au step N (f 0)=some ((L.findSome? G).getD e):=by
 have g:∀(r i:Nat),i+r=L.length->∀N,r<N->au step N (f i)=some (((L.drop i).findSome? G).getD e):=by
  intro r
  induction r with
  | zero=>
   intro i hi N b;obtain⟨N,rfl⟩:∃q,N=q+1:=⟨N - 1,by omega⟩;obtain rfl:i=L.length:=by omega
   rw[au,c];simp
  | succ r ih=>
   intro i hi N b;obtain⟨N,rfl⟩:∃q,N=q+1:=⟨N - 1,by omega⟩;have d:L[i]?=some L[i]:=bN (by omega);rw[au,h i L[i] d,sw (show i<L.length by omega),xM];cases j:G L[i]with
   | some y=>rfl
   | none=>exact ih (i+1) (by omega) N (by omega)
 have:=g L.length 0 (by omega) N b;simpa using this
def ahd(up:Bool)(a b:Int):Bool:=cond up (decide (a<b)) (decide (a>b))
def rB(n:Nat)(a b:Int)(up:Bool):bE n a b up=some (ahd up a b):=by
 unfold bE ahd;cases up
 ·rfl
 ·simp only[aj,da,ae];cases decide (a<b)<;>rfl
def kw(up a:Bool)(d:aa)(c b k:Int):Bool:=decide (k<=b)&&!(a&&(!(d==([]:aa))&&ahd up k c))
def mq(up:Bool)(m:aa)(c b y a:Int):Bool:=(y==c)&&(!(m==([]:aa))&&ahd up a b)
def nD(m:aa)(c b y a:Int):Bool:=(y==c)&&((m==([]:aa))||(a==b))
def mi(up:Bool)(m d:aa)(b c f y:Int)(e:List Int)(a:Int):Option (Int×Int×Int):=
 if mq up m b c y a then none else(e.find? (kw up (nD m b c y a) d f (jk d y a))).map λk=>(y,a,k)
def jp(up:Bool)(m d:aa)(c e b:Int)(f a:List Int)(y:Int):Option (Int×Int×Int):=f.findSome? (mi up m d c e b y a)
def ra(d:aa)(b:List Int):Prop:=b.length<=31/\(d≠[]->∀a∈b,1<=a/\a<=12)
def tf(n:Nat)(g l:Bool)(dg:aa)(x q:Int)(m d:aa)(k0 k1 k2:Int){y:Int}(e:bU y){a:Int}(c:d≠[]->1<=a/\a<=12)(h f:List Int):
  co n g l dg x q m d k0 k1 k2 y a h f=some (jk d y a):=by
 unfold co jk;by_cases b:d=[]
 ·subst b;rfl
 ·rw[cj b,ab b];have:=c b;obtain⟨k,rfl⟩:∃k:Nat,a=(k:Int):=⟨a.toNat,by omega⟩;rw[ae,FI n e (by omega) (by omega)];rfl
def Ew{A B Y:Type}(L:List A)(p:A->Bool)(F:A->B)(J:B->Y)(e:Y):(L.findSome? λa=>if p a then some (J (F a))else none).getD e=((L.find? p).map F).elim e J:=by
 induction L with
 | nil=>rfl
 | cons a L ih=>
  rw[Bn,xM];cases h:p a
  ·simpa using ih
  ·simp
def Jg{A B Y:Type}(L:List A)(G:A->Option B)(J:B->Y)(e:Y):(L.findSome? λa=>(G a).map J).getD e=(L.findSome? G).elim e J:=by
 induction L with
 | nil=>rfl
 | cons a L ih=>
  rw[xM,xM];cases h:G a
  ·simpa using ih
  ·simp
def He(n:Nat)(s y h:Int)(b:Bool)(a u o:Int)(p c:List Int)(g l:Bool)(dg:aa)(x q:Int)(m d:aa)(k0 k1 k2 r v e:Int)(up:Bool)(t j rd:Int)(i:Nat)(k:Int)(hi:c[i]?=some k)(z:i<1000):
  aX n (s,y,h,b,a,u,o,((c.length:Nat):Int),(i:Int),p,c,g,l,dg,x,q,m,d,k0,k1,k2,r,v,e,up,t,j,rd)=some ((if kw up b d e a k then some (.inl (true,y,h,k))else none).elim (.inl (s,y,h,b,a,u,o,((c.length:Nat):Int),((i+1:Nat):Int),p,c,g,l,dg,x,q,m,d,k0,k1,k2,r,v,e,up,t,j,rd)) Sum.inr):=by
 have f:i<c.length:=(o9.1 hi).1;have w:wrap .i64 ((i:Int)+1)=((i+1:Nat):Int):=by rw[wrap_i64 _ (by omega) (by omega)];omega
 unfold aX eJ kw;simp only[d4,d8,d16,ef f,hi,ob,w,rB];rw[ay (show(i:Int)<((c.length:Nat):Int)by omega)];simp only[aj];cases decide (k<=a)<;>cases b<;>cases(d==([]:aa))<;>cases ahd up k e<;>simp only[da,dU,aj,ae,w]<;>rfl
def J0(n:Nat)(s y r:Int)(c:Bool)(b k f:Int)(p a:List Int)(g l:Bool)(dg:aa)(x q:Int)(m d:aa)(k0 k1 k2 j o h:Int)(up:Bool)(i e rd:Int):
  aX n (s,y,r,c,b,k,f,((a.length:Nat):Int),((a.length:Nat):Int),p,a,g,l,dg,x,q,m,d,k0,k1,k2,j,o,h,up,i,e,rd)=some (.inr (.inr (s,y,k,f,p,a,g,l,dg,x,q,m,d,k0,k1,k2,j,o,h,up,i,e,rd))):=by
 unfold aX;simp only[d4,d8,d16];rw[ax (show¬((a.length:Nat):Int)<((a.length:Nat):Int)by omega)];rfl
def Jk (n:Nat) (B:1000<n) (s y j:Int) (b:Bool) (a u p:Int) (w c:List Int) (g l:Bool) (dg:aa) (x q:Int) (m d:aa) (k0 k1 k2 t v h:Int) (up:Bool) (r o rd:Int) (C:c.length<=31):
  au (aX n) n (s,y,j,b,a,u,p,((c.length:Nat):Int),0,w,c,g,l,dg,x,q,m,d,k0,k1,k2,t,v,h,up,r,o,rd)=some (((c.find? (kw up b d h a)).map (λk=>(y,j,k))).elim (.inr (s,y,u,p,w,c,g,l,dg,x,q,m,d,k0,k1,k2,t,v,h,up,r,o,rd)) (λz=>.inl (true,z))):=by
 have:=pB (step:=aX n) (f:=λi=>(s,y,j,b,a,u,p,((c.length:Nat):Int),(i:Int),w,c,g,l,dg,x,q,m,d,k0,k1,k2,t,v,h,up,r,o,rd)) (L:=c) (G:=λk=>if kw up b d h a k then some (.inl (true,y,j,k)) else none) (e:=.inr (s,y,u,p,w,c,g,l,dg,x,q,m,d,k0,k1,k2,t,v,h,up,r,o,rd))
  (λi k hi=>by
   have A:i<c.length:=(o9.1 hi).1;exact He n s y j b a u p w c g l dg x q m d k0 k1 k2 t v h up r o rd i k hi (by omega))
  (J0 n s y j b a u p w c g l dg x q m d k0 k1 k2 t v h up r o rd) (N:=n) (by omega)
 exact this.trans (eK some (Ew c (kw up b d h a) (λk=>(y,j,k)) (λz=>Sum.inl (true,z)) _))
def GT(n:Nat)(D:1000<n)(s y:Int)(C:bU y)(j p:List Int)(g l:Bool)(dg:aa)(x q:Int)(m d:aa)(k0 k1 k2 e o r:Int)(up:Bool)(u t rd:Int)(hm:ra d j)(E:p.length<=31)(i:Nat)(f:Int)(hi:j[i]?=some f):
  bq n (s,y,((j.length:Nat):Int),(i:Int),j,p,g,l,dg,x,q,m,d,k0,k1,k2,e,o,r,up,u,t,rd)=some (((mi up m d e o r y p f).map (λz=>(.inl (true,z):(Bool×Int×Int×Int)⊕_))).elim (.inl (s,y,((j.length:Nat):Int),((i+1:Nat):Int),j,p,g,l,dg,x,q,m,d,k0,k1,k2,e,o,r,up,u,t,rd)) Sum.inr):=by
 have w:i<j.length:=(o9.1 hi).1;have B:=hm.1;have A:wrap .i64 ((i:Int)+1)=((i+1:Nat):Int):=by rw[wrap_i64 _ (by omega) (by omega)];omega
 have v:d≠[]->1<=f/\f<=12:=λh=>hm.2 h f (dK hi);have j20:∀a b:Int,dk n s y f (y==e) a b j p g l dg x q m d k0 k1 k2 e o r up u t rd=some (s,y,f,(y==e),a,b,mq up m e o y f,j,p,g,l,dg,x,q,m,d,k0,k1,k2,e,o,r,up,u,t,rd):=by
  intro a b;unfold dk mq;simp only[rB,ob];cases(y==e)<;>cases(m==([]:aa))<;>rfl
 have j23:∀a b c:Int,de n s y f (y==e) a b c j p g l dg x q m d k0 k1 k2 e o r up u t rd=some (s,y,f,nD m e o y f,a,b,c,j,p,g,l,dg,x,q,m,d,k0,k1,k2,e,o,r,up,u,t,rd):=by
  intro a b c;unfold de nD;cases(y==e)<;>cases(m==([]:aa))<;>rfl
 unfold bq eM mi;simp only[d4,d8,d16,ef w,hi,ob,j20];rw[ay (show(i:Int)<((j.length:Nat):Int)by omega)];simp only[aj];cases F:mq up m e o y f with
 | true=>simp only[aj,be,en,A];rfl
 | false=>
  simp only[ae,cb,aD,tf n g l dg x q m d k0 k1 k2 C v,j23,Jk n D s y f (nD m e o y f) (jk d y f) _ _ j p g l dg x q m d k0 k1 k2 e o r up u t rd E];cases p.find? (kw up (nD m e o y f) d r (jk d y f))with
  | some k=>rfl
  | none=>simp only[en,Option.elim_none,A]
def JH (n:Nat) (u:1000<n) (s y:Int) (t:bU y) (a b:List Int) (g l:Bool) (dg:aa) (x q:Int) (m d:aa) (k0 k1 k2 h j c:Int) (up:Bool) (o k rd:Int) (hm:ra d a) (v:b.length<=31):
  au (bq n) n (s,y,((a.length:Nat):Int),0,a,b,g,l,dg,x,q,m,d,k0,k1,k2,h,j,c,up,o,k,rd)=some ((jp up m d h j c a b y).elim (.inr (s,y,a,b,g,l,dg,x,q,m,d,k0,k1,k2,h,j,c,up,o,k,rd)) (λz=>.inl (true,z))):=by
 have r:=hm.1;have:=pB (step:=bq n) (f:=λi=>(s,y,((a.length:Nat):Int),(i:Int),a,b,g,l,dg,x,q,m,d,k0,k1,k2,h,j,c,up,o,k,rd)) (L:=a) (G:=λp=>(mi up m d h j c y b p).map (λz=>(.inl (true,z):(Bool×Int×Int×Int)⊕_))) (e:=.inr (s,y,a,b,g,l,dg,x,q,m,d,k0,k1,k2,h,j,c,up,o,k,rd))
  (λi p hi=>GT n u s y t a b g l dg x q m d k0 k1 k2 h j c up o k rd hm v i p hi)
  (by
   unfold bq;simp only [d4,d8,d16];rw [ax (show ¬((a.length:Nat):Int)<((a.length:Nat):Int) by omega)];rfl)
  (N:=n) (by omega)
 exact this.trans (eK some (Jg a (mi up m d h j c y b) (λz=>Sum.inl (true,z)) _))
def G4(n:Nat)(k:1000<n)(s y:Int)(j:bU y)(b a:List Int)(g l:Bool)(dg:aa)(x q:Int)(m d:aa)(k0 k1 k2 e f c:Int)(up:Bool)(i h rd:Int)(hm:ra d b)(o:a.length<=31):
  bJ n (s,y,true,b,a,g,l,dg,x,q,m,d,k0,k1,k2,e,f,c,up,i,h,rd)=(jp up m d e f c b a y).elim (ob (aC n g l dg x q m d k0 k1 k2 (wrap .i64 (y+s)) up b a) λr=>some (.inl (s,r.1,r.2,b,a,g,l,dg,x,q,m,d,k0,k1,k2,e,f,c,up,i,h,rd))) (λz=>some (.inr (.inl (true,z)))):=by
 unfold bJ;simp only[d4,d8,d16,aj,ob,JH n k s y j b a g l dg x q m d k0 k1 k2 e f c up i h rd hm o];cases jp up m d e f c b a y<;>rfl
def Ku(n:Nat)(s y h:Int)(b:Bool)(a v o:Int)(r p:List Int)(g l:Bool)(dg:aa)(x q:Int)(m d:aa)(k0 k1 k2 t z e:Int)(up:Bool)(u j rd:Int)(w c:List Int)(i:Nat)(k:Int)(hi:c[i]?=some k)(B:i<1000):
  bh n (s,y,h,b,a,v,o,((c.length:Nat):Int),(i:Int),r,p,g,l,dg,x,q,m,d,k0,k1,k2,t,z,e,up,u,j,rd,w,c)=some ((if kw up b d e a k then some (.inl (true,y,h,k))else none).elim (.inl (s,y,h,b,a,v,o,((c.length:Nat):Int),((i+1:Nat):Int),r,p,g,l,dg,x,q,m,d,k0,k1,k2,t,z,e,up,u,j,rd,w,c)) Sum.inr):=by
 have f:i<c.length:=(o9.1 hi).1;have A:wrap .i64 ((i:Int)+1)=((i+1:Nat):Int):=by rw[wrap_i64 _ (by omega) (by omega)];omega
 unfold bh fG kw;simp only[d4,d8,d16,ef f,hi,ob,A,rB];rw[ay (show(i:Int)<((c.length:Nat):Int)by omega)];simp only[aj];cases decide (k<=a)<;>cases b<;>cases(d==([]:aa))<;>cases ahd up k e<;>simp only[da,dU,aj,ae,A]<;>rfl
def MD(n:Nat)(s y u:Int)(c:Bool)(b o f:Int)(t h:List Int)(g l:Bool)(dg:aa)(x q:Int)(m d:aa)(k0 k1 k2 k r i:Int)(up:Bool)(j e rd:Int)(p a:List Int):
  bh n (s,y,u,c,b,o,f,((a.length:Nat):Int),((a.length:Nat):Int),t,h,g,l,dg,x,q,m,d,k0,k1,k2,k,r,i,up,j,e,rd,p,a)=some (.inr (.inr (s,y,o,f,t,h,g,l,dg,x,q,m,d,k0,k1,k2,k,r,i,up,j,e,rd,p,a))):=by
 unfold bh;simp only[d4,d8,d16];rw[ax (show¬((a.length:Nat):Int)<((a.length:Nat):Int)by omega)];rfl
def LH (n:Nat) (E:1000<n) (s y j:Int) (b:Bool) (a v p:Int) (B r:List Int) (g l:Bool) (dg:aa) (x q:Int) (m d:aa) (k0 k1 k2 u A h:Int) (up:Bool) (t o rd:Int) (w c:List Int) (D:c.length<=31):
  au (bh n) n (s,y,j,b,a,v,p,((c.length:Nat):Int),0,B,r,g,l,dg,x,q,m,d,k0,k1,k2,u,A,h,up,t,o,rd,w,c)=some (((c.find? (kw up b d h a)).map (λk=>(y,j,k))).elim (.inr (s,y,v,p,B,r,g,l,dg,x,q,m,d,k0,k1,k2,u,A,h,up,t,o,rd,w,c)) (λz=>.inl (true,z))):=by
 have:=pB (step:=bh n) (f:=λi=>(s,y,j,b,a,v,p,((c.length:Nat):Int),(i:Int),B,r,g,l,dg,x,q,m,d,k0,k1,k2,u,A,h,up,t,o,rd,w,c)) (L:=c) (G:=λk=>if kw up b d h a k then some (.inl (true,y,j,k)) else none) (e:=.inr (s,y,v,p,B,r,g,l,dg,x,q,m,d,k0,k1,k2,u,A,h,up,t,o,rd,w,c))
  (λi k hi=>by
   have C:i<c.length:=(o9.1 hi).1;exact Ku n s y j b a v p B r g l dg x q m d k0 k1 k2 u A h up t o rd w c i k hi (by omega))
  (MD n s y j b a v p B r g l dg x q m d k0 k1 k2 u A h up t o rd w c) (N:=n) (by omega)
 exact this.trans (eK some (Ew c (kw up b d h a) (λk=>(y,j,k)) (λz=>Sum.inl (true,z)) _))
def JS(n:Nat)(G:1000<n)(s y:Int)(E:bU y)(v u:List Int)(g l:Bool)(dg:aa)(x q:Int)(m d:aa)(k0 k1 k2 e o r:Int)(up:Bool)(w t rd:Int)(j p:List Int)(hm:ra d j)(F:p.length<=31)(i:Nat)(f:Int)(hi:j[i]?=some f):
  bB n (s,y,((j.length:Nat):Int),(i:Int),v,u,g,l,dg,x,q,m,d,k0,k1,k2,e,o,r,up,w,t,rd,j,p)=some (((mi up m d e o r y p f).map (λz=>(.inl (true,z):(Bool×Int×Int×Int)⊕_))).elim (.inl (s,y,((j.length:Nat):Int),((i+1:Nat):Int),v,u,g,l,dg,x,q,m,d,k0,k1,k2,e,o,r,up,w,t,rd,j,p)) Sum.inr):=by
 have B:i<j.length:=(o9.1 hi).1;have D:=hm.1;have C:wrap .i64 ((i:Int)+1)=((i+1:Nat):Int):=by rw[wrap_i64 _ (by omega) (by omega)];omega
 have A:d≠[]->1<=f/\f<=12:=λh=>hm.2 h f (dK hi);have j20:∀a b:Int,dJ n s y f (y==e) a b v u g l dg x q m d k0 k1 k2 e o r up w t rd j p=some (s,y,f,(y==e),a,b,mq up m e o y f,v,u,g,l,dg,x,q,m,d,k0,k1,k2,e,o,r,up,w,t,rd,j,p):=by
  intro a b;unfold dJ mq;simp only[rB,ob];cases(y==e)<;>cases(m==([]:aa))<;>rfl
 have j23:∀a b c:Int,dI n s y f (y==e) a b c v u g l dg x q m d k0 k1 k2 e o r up w t rd j p=some (s,y,f,nD m e o y f,a,b,c,v,u,g,l,dg,x,q,m,d,k0,k1,k2,e,o,r,up,w,t,rd,j,p):=by
  intro a b c;unfold dI nD;cases(y==e)<;>cases(m==([]:aa))<;>rfl
 unfold bB fD mi;simp only[d4,d8,d16,ef B,hi,ob,j20];rw[ay (show(i:Int)<((j.length:Nat):Int)by omega)];simp only[aj];cases H:mq up m e o y f with
 | true=>simp only[aj,be,en,C];rfl
 | false=>
  simp only[ae,cb,aD,tf n g l dg x q m d k0 k1 k2 E A,j23,LH n G s y f (nD m e o y f) (jk d y f) _ _ v u g l dg x q m d k0 k1 k2 e o r up w t rd j p F];cases p.find? (kw up (nD m e o y f) d r (jk d y f))with
  | some k=>rfl
  | none=>simp only[en,Option.elim_none,C]
def Ll (n:Nat) (A:1000<n) (s y:Int) (v:bU y) (r o:List Int) (g l:Bool) (dg:aa) (x q:Int) (m d:aa) (k0 k1 k2 h j c:Int) (up:Bool) (p k rd:Int) (a b:List Int) (hm:ra d a) (w:b.length<=31):
  au (bB n) n (s,y,((a.length:Nat):Int),0,r,o,g,l,dg,x,q,m,d,k0,k1,k2,h,j,c,up,p,k,rd,a,b)=some ((jp up m d h j c a b y).elim (.inr (s,y,r,o,g,l,dg,x,q,m,d,k0,k1,k2,h,j,c,up,p,k,rd,a,b)) (λz=>.inl (true,z))):=by
 have u:=hm.1;have:=pB (step:=bB n) (f:=λi=>(s,y,((a.length:Nat):Int),(i:Int),r,o,g,l,dg,x,q,m,d,k0,k1,k2,h,j,c,up,p,k,rd,a,b)) (L:=a) (G:=λt=>(mi up m d h j c y b t).map (λz=>(.inl (true,z):(Bool×Int×Int×Int)⊕_))) (e:=.inr (s,y,r,o,g,l,dg,x,q,m,d,k0,k1,k2,h,j,c,up,p,k,rd,a,b))
  (λi t hi=>JS n A s y v r o g l dg x q m d k0 k1 k2 h j c up p k rd a b hm w i t hi)
  (by
   unfold bB;simp only [d4,d8,d16];rw [ax (show ¬((a.length:Nat):Int)<((a.length:Nat):Int) by omega)];rfl)
  (N:=n) (by omega)
 exact this.trans (eK some (Jg a (mi up m d h j c y b) (λz=>Sum.inl (true,z)) _))
def JZ(n:Nat)(t:1000<n)(s y:Int)(o:bU y)(i h:List Int)(g l:Bool)(dg:aa)(x q:Int)(m d:aa)(k0 k1 k2 e f c:Int)(up:Bool)(k j rd:Int)(b a:List Int)(hm:ra d b)(p:a.length<=31):
  bW n (s,y,true,i,h,g,l,dg,x,q,m,d,k0,k1,k2,e,f,c,up,k,j,rd,b,a)=(jp up m d e f c b a y).elim (ob (aC n g l dg x q m d k0 k1 k2 (wrap .i64 (y+s)) up i h) λr=>some (.inl (s,r.1,r.2,i,h,g,l,dg,x,q,m,d,k0,k1,k2,e,f,c,up,k,j,rd,b,a))) (λz=>some (.inr (.inl (true,z)))):=by
 unfold bW;simp only[d4,d8,d16,aj,ob,Ll n t s y o i h g l dg x q m d k0 k1 k2 e f c up k j rd b a hm p];cases jp up m d e f c b a y<;>rfl
end Go.Sh
