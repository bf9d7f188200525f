
import Derived.Laws.RangeString
import Derived.Laws.RangeAny
import Derived.Test.YtadejcglcffgbabGreatDoorShX
import Derived.Lib.IndexLaws
import Derived.Test.YtadejcglcffgbabGreatDoorAbsZ
set_option linter.unusedVariables false
set_option linter.unusedSimpArgs false
set_option maxRecDepth 100000
open Go.IntKind(wrap)
set_option linter.defProp false
namespace Go.Sh
open Go.Abs
def fL{X Y:Type}{step:X->Option (X⊕Y)}(I:X->Prop)(b:X->Nat)(G:X->Y)
  (h:∀x,I x->(∃a,step x=some (.inl a)/\I a/\b a<b x/\G a=G x)\/step x=some (.inr (G x))):
  ∀(n:Nat) (x:X),I x->b x<n->aw step n x=some (G x)
 | 0,x,_,f=>by omega
 | n+1,x,hx,f=>by
  rcases h x hx with⟨a,c,e,g,d⟩ | c
  ·simp only[aw,c];rw[fL I b G h n a e (by omega),d]
  ·simp only[aw,c]
def lZ{X Y:Type}{step:X->Option (X⊕Y)}(I:X->Prop)(b:X->Nat)(Q:Y->Prop)
  (h:∀x,I x->(∃a,step x=some (.inl a)/\I a/\b a<b x)\/∃y,step x=some (.inr y)/\Q y):
  ∀(n:Nat) (x:X),I x->b x<n->∃y,aw step n x=some y/\Q y
 | 0,x,_,e=>by omega
 | n+1,x,hx,e=>by
  rcases h x hx with⟨a,d,c,f⟩ | ⟨y,d,c⟩
  ·simp only[aw,d];exact lZ I b Q h n a c (by omega)
  ·exact⟨y,by simp only[aw,d],c⟩
def vA(x:Int):0<=wrap .u8 x/\wrap .u8 x<256:=by
 show 0<=x%256/\x%256<256;omega
def en(x:Int)(a:0<=x)(b:x<256):wrap .u8 x=x:=by
 show x%256=x;omega
def Dk(x:Int):wrap .u8 x=x%256:=rfl
def wrap_i64(x:Int)(a:-9223372036854775808<=x)(b:x<9223372036854775808):wrap .i64 x=x:=by
 simp only[wrap,IntKind.signed,IntKind.bits];simp;omega
def kl{l:aa}{i:Nat}{c:UInt8}(h:l[i]?=some c):sx l (i:Int)=some c:=by
 simp[sx,h]
def cK{n i:Nat}(h:i<n):ix n (i:Int)=some i:=by
 simp[ix];omega
def eN{n i:Nat}(h:i<=n):bx n (i:Int)=some i:=by
 simp[bx];omega
def yW{l:aa}{i:Nat}{c:UInt8}(h:l[i]?=some c)(hc:c.toNat<128):dec l i=(c.toNat,1):=by
 have hlt:i<l.length:=by
  rcases aI i l.length with h' | h'
  ·exact h'
  ·rw[dX h']at h;cases h
 have hs:i<(ByteArray.mk l.toArray).size:=hlt;have hg:(ByteArray.mk l.toArray)[i]'hs=c:=by
  rw[bj hlt]at h;simp only[aq]at h;exact h
 unfold dec;rw[decode_ascii _ i hs (by rw[hg];exact hc),hg]
def Cd{l:aa}{i:Nat}{c:UInt8}(h:l[i]?=some c)(hc:128<=c.toNat):128<=(dec l i).1/\1<=(dec l i).2:=by
 have hlt:i<l.length:=by
  rcases aI i l.length with h' | h'
  ·exact h'
  ·rw[dX h']at h;cases h
 have hs:i<(ByteArray.mk l.toArray).size:=hlt;have hg:(ByteArray.mk l.toArray)[i]'hs=c:=by
  rw[bj hlt]at h;simp only[aq]at h;exact h
 unfold dec;exact decode_high _ i hs (by rw[hg];exact hc)
def tw{α:Type}{l:List α}{i:Nat}{c:α}(h:l[i]?=some c):i<l.length:=by
 rcases aI i l.length with a | a
 ·exact a
 ·rw[dX a]at h;cases h
def ju{α:Type}{l:List α}{i:Nat}{c:α}(h:l[i]?=some c):l.drop i=c::l.drop (i+1):=by
 have a:=tw h;rw[bj a]at h;simp only[aq]at h;rw[<-h,pF a]
def gH{α β:Type}[BEq α][LawfulBEq α][DecidableEq α](a b:α)(x y:β):(cond (a==b) x y)=if a=b then x else y:=by
 by_cases h:a=b
 ·subst h;simp
 ·rw[aN.2 h];simp[h]
def Cj{α β:Type}[BEq α][LawfulBEq α][DecidableEq α](a b:α)(x y:β):(cond (a != b) x y)=if a=b then y else x:=by
 by_cases h:a=b
 ·subst h;simp
 ·rw[bne,aN.2 h];simp[h]
def bP{β:Type}(p:Prop)[Decidable p](x y:β):(cond (decide p) x y)=if p then x else y:=by
 by_cases h:p<;>simp[h]
def HW{β:Type}(b:Bool)(x y:β):(cond (!b) x y)=cond b y x:=by cases b<;>rfl
def kA(a b:Nat):(decide (((a:Nat):Int)<((b:Nat):Int)))=decide (a<b):=by
 by_cases h:a<b<;>simp[h]
def BA(c d:UInt8):((((c.toNat:Nat):Int))==((d.toNat:Nat):Int))=(c==d):=by
 by_cases h:c=d
 ·subst h;simp
 ·have b:c.toNat≠d.toNat:=λe=>h (hZ.1 e);have a:((c.toNat:Nat):Int)≠((d.toNat:Nat):Int):=by omega
  rw[aN.2 a,aN.2 h]
def OQ(c:UInt8):UInt8.ofNat (Int.toNat ((c.toNat:Nat):Int))=c:=by simp
def two(c:Nat):aa:=[UInt8.ofNat (48+c / 10),UInt8.ofNat (48+c%10)]
def sea(m:aa):Int:=match(List.range 21).find? (λj=>m==two (21+j))with | some j=>((21+j:Nat):Int) | none=>0
def iJ{j:Nat}(a:j<21):sea (two (21+j))=((21+j:Nat):Int):=by
 have:((List.range 21).all λj=>sea (two (21+j))==((21+j:Nat):Int))=true:=by decide +kernel
 simpa using(List.all_eq_true.1 this) j (by simpa using a)
def lO(m:aa):sea m=0\/∃j,j<21/\m=two (21+j):=by
 unfold sea;split
 ·rename_i j h;have b:=List.find?_some h;have a:=List.mem_of_find?_eq_some h;exact .inr ⟨j,by simpa using a,by simpa using b⟩
 ·exact .inl rfl
def my{b:UInt8}{d:Nat}(h:Lib.digitVal b=some d):d<10/\b.toNat=48+d:=by
 unfold Lib.digitVal at h;split at h
 ·cases h;omega
 ·cases h
def Io{a b:UInt8}{v:Int}(h:Lib.atoi [a,b]=some v)(s:21<=v)(p:v<42):∃j,j<21/\[a,b]=two (21+j)/\v=((21+j:Nat):Int):=by
 obtain⟨q,r,e,k⟩:=Lib.atoi_cases h;cases e;rcases k with⟨_,m,_,_,i⟩ | ⟨_,m,_,c,i⟩ | ⟨_,_,m,c,i⟩
 ·omega
 ·simp only[Lib.decFrom]at c;split at c
  ·rename_i d g;have:=(my g).1;simp only[aq]at c;omega
  ·cases c
 ·simp only[Lib.decFrom]at c;split at c
  ·rename_i d g;split at c
   ·rename_i d' f;obtain⟨k1,k2⟩:=my g;obtain⟨k3,l⟩:=my f;simp only[aq]at c;refine⟨m - 21,by omega,?_,by omega⟩;have o:(21+(m - 21)) / 10=d:=by omega
    have n:(21+(m - 21))%10=d':=by omega
    unfold two;rw[o,n,<-k2,<-l];simp
   ·cases c
  ·cases c
def rO{j:Nat}(a:j<21):Lib.atoi (two (21+j))=some ((21+j:Nat):Int):=by
 have:((List.range 21).all λj=>Lib.atoi (two (21+j))==some ((21+j:Nat):Int))=true:=by decide +kernel
 simpa using(List.all_eq_true.1 this) j (by simpa using a)
def pK(n:Nat)(g l:Bool)(dg:aa)(x q:Int)(m d:aa)(k0 k1 k2:Int)(k:m.length<=18):bS n g l dg x q m d k0 k1 k2=some (sea m,decide (0<sea m)):=by
 have f:Nat.ble m.length 18=true:=dl k;rcases lO m with i | ⟨j,c,rfl⟩
 ·unfold bS;rw[f,i];show opt (Lib.atoi m) _ _=_;cases o:Lib.atoi m with
  | none=>rfl
  | some v=>
   show cond _ _ _=_;by_cases h:m.length=2
   ·rw[h];obtain⟨a,b,rfl⟩:∃a b,m=[a,b]:=by
     match m,h with
     | [a,b],_=>exact⟨a,b,rfl⟩
    show ob (cO n v) _=_;unfold cO;rw[bP,bP];split
    ·rfl
    ·split
     ·rfl
     ·exfalso;obtain⟨j,c,e,_⟩:=Io o (by omega) (by omega);rw[e,iJ c]at i;omega
   ·rw[show(((m.length:Nat):Int) != 2)=true by simp;omega];rfl
 ·rw[iJ c];have e:bS n g l dg x q (two (21+j)) d k0 k1 k2=some (((21+j:Nat):Int),true):=by
   unfold bS;rw[f,rO c];show ob (cO n ((21+j:Nat):Int)) _=_;unfold cO;rw[bP,bP,ab (by omega),ab (by omega)];rfl
  rw[e];have:decide (0<((21+j:Nat):Int))=true:=by simp;omega
  rw[this]
def fS9(n:Nat){c:Nat}(hc:c<100):aP n (c:Int)=some (two c):=by
 have k:Int.tdiv (c:Int) 10=((c / 10:Nat):Int):=by
  rw[show(10:Int)=((10:Nat):Int)from rfl,<-Int.ofNat_tdiv]
 have e:Int.tmod (c:Int) 10=((c%10:Nat):Int):=by
  rw[show(10:Int)=((10:Nat):Int)from rfl,<-Int.ofNat_tmod]
 have j:c / 10<10:=by omega
 have g:c%10<10:=by omega
 unfold aP;rw[k,e];have i:wrap .i64 ((c / 10:Nat):Int)=((c / 10:Nat):Int):=wrap_i64 _ (by omega) (by omega);have h:wrap .i64 (((c / 10:Nat):Int)+1)=((c / 10+1:Nat):Int):=by rw[wrap_i64 _ (by omega) (by omega)];omega
 have f:wrap .i64 (((c%10:Nat):Int)+1)=((c%10+1:Nat):Int):=by rw[wrap_i64 _ (by omega) (by omega)];omega
 rw[i,h,f,eN (by omega),eN (by omega)];show ob (bx (c / 10+1) ((c / 10:Nat):Int)) _=_;rw[eN (by omega)];show ob (bx (c%10+1) ((c%10:Nat):Int)) _=_;rw[eN (by omega)];unfold two;generalize c / 10=a at *;generalize c%10=b at *;have:((List.range 10).all λa=>(List.range 10).all λb=>ob (cat (List.drop a (List.take (a+1) ([48,49,50,51,52,53,54,55,56,57]:aa))) (List.drop b (List.take (b+1) ([48,49,50,51,52,53,54,55,56,57]:aa)))) (λs=>some s)==some [UInt8.ofNat (48+a),UInt8.ofNat (48+b)])=true:=by decide +kernel
 have d:=(ch.1 ((ch.1 this) a (by simpa using j))) b (by simpa using g);simpa using d
def IG{m:aa}(h:∀j,j<21->m≠two (21+j)):sea m=0:=by
 rcases lO m with a | ⟨j,b,e⟩
 ·exact a
 ·exact absurd e (h j b)
def uc(n:Nat)(g l:Bool)(dg:aa)(x q:Int)(m d:aa)(k0 k1 k2:Int):∀(r j:Nat),j+r=21->(∀i,i<j->m≠two (21+i))->∀N,r<N->
  aw (bn n) N (((21+j:Nat):Int),g,l,dg,x,q,m,d,k0,k1,k2)=some (if sea m=0 then .inr ()else .inl (sea m)):=by
 intro r
 induction r with
 | zero=>
  intro j c a N e;obtain⟨N,rfl⟩:∃k,N=k+1:=⟨N - 1,by omega⟩;have hs:sea m=0:=IG (λi hi=>a i (by omega));rw[aw];have:bn n (((21+j:Nat):Int),g,l,dg,x,q,m,d,k0,k1,k2)=some (.inr (.inr ())):=by
   unfold bn;rw[bP,ab (by show¬(((21+j:Nat):Int)<=41);omega)]
  rw[this,ad hs]
 | succ r ih=>
  intro j c a N e;obtain⟨N,rfl⟩:∃k,N=k+1:=⟨N - 1,by omega⟩;rw[aw];by_cases b:m=two (21+j)
  ·have hs:sea m=((21+j:Nat):Int):=by rw[b];exact iJ (by omega)
   have:bn n (((21+j:Nat):Int),g,l,dg,x,q,m,d,k0,k1,k2)=some (.inr (.inl ((21+j:Nat):Int))):=by
    unfold bn;rw[bP,ad (by show((21+j:Nat):Int)<=41;omega)];show ob (aP n ((21+j:Nat):Int)) _=_;rw[fS9 n (by omega)];show cond (m==two (21+j)) _ _=_;rw[gH,ad b]
   rw[this,hs,ab (by omega)]
  ·have:bn n (((21+j:Nat):Int),g,l,dg,x,q,m,d,k0,k1,k2)=some (.inl (((21+(j+1):Nat):Int),g,l,dg,x,q,m,d,k0,k1,k2)):=by
    unfold bn;rw[bP,ad (by show((21+j:Nat):Int)<=41;omega)];show ob (aP n ((21+j:Nat):Int)) _=_;rw[fS9 n (by omega)];show cond (m==two (21+j)) _ _=_;rw[gH,ab b];have:wrap .i64 (((21+j:Nat):Int)+1)=((21+(j+1):Nat):Int):=by rw[wrap_i64 _ (by omega) (by omega)];omega
    show some (Sum.inl (wrap .i64 (((21+j:Nat):Int)+1),_))=_;rw[this]
   rw[this]
   exact ih (j+1) (by omega) (λi hi=>by
    rcases aI i j with h | h
    ·exact a i h
    ·have:i=j:=by omega
     rw[this];exact b) N (by omega)
def jp(n:Nat)(a:100<n)(g l:Bool)(dg:aa)(x q:Int)(m d:aa)(k0 k1 k2:Int):aH n g l dg x q m d k0 k1 k2=some (sea m):=by
 unfold aH;have:=uc n g l dg x q m d k0 k1 k2 21 0 rfl (λi hi=>absurd hi (by omega)) n (by omega);rw[show((21+0:Nat):Int)=21 from rfl]at this;rw[this];by_cases h:sea m=0
 ·rw[ad h,h];rfl
 ·rw[ab h];rfl
def agr(s:aa)(k:Nat):Bool:=match s with
 | [a,b]=>(a==88||a==UInt8.ofNat (48+k / 10))&&(b==88||b==UInt8.ofNat (48+k%10))
 | _=>false
def dq(s:aa)(g:Nat):Bool:=(List.range g).any λi=>agr s (i+1)
def CE{X Y:Type}{step:X->Option (X⊕Y)}{f:Nat->X}{p:Nat->Bool}{g:Nat}{yes no:Y}(h:∀k,1<=k->k<=g->step (f k)=some (if p k then .inr yes else .inl (f (k+1))))(c:step (f (g+1))=some (.inr no)){N:Nat}(b:g<N):
  aw step N (f 1)=some (if(List.range g).any (λi=>p (i+1))then yes else no):=by
 have e:∀(r j:Nat),j+r=g->(∀i,i<j->p (i+1)=false)->∀N,r<N->aw step N (f (j+1))=some (if(List.range g).any (λi=>p (i+1))then yes else no):=by
  intro r
  induction r with
  | zero=>
   intro j d a N b;obtain⟨N,rfl⟩:∃k,N=k+1:=⟨N - 1,by omega⟩;have:(List.range g).any (λi=>p (i+1))=false:=by
    rw[pT];intro i hi;rw[a i (by have:=ij.1 hi;omega)];simp
   rw[aw,show j+1=g+1 by omega,c,this];rfl
  | succ r ih=>
   intro j d a N b;obtain⟨N,rfl⟩:∃k,N=k+1:=⟨N - 1,by omega⟩;rw[aw,h (j+1) (by omega) (by omega)];cases hp:p (j+1)with
   | true=>
    have:(List.range g).any (λi=>p (i+1))=true:=oh.2 ⟨j,ij.2 (by omega),hp⟩;rw[this];rfl
   | false=>
    exact ih (j+1) (by omega) (λi hi=>by
     rcases aI i j with h | h
     ·exact a i h
     ·have:i=j:=by omega
      rw[this];exact hp) N (by omega)
 exact e g 0 (by omega) (λi hi=>absurd hi (by omega)) N b
def qL{a:UInt8}{k:Nat}(b:k<256):((((a.toNat:Nat):Int))==((k:Nat):Int))=(a==UInt8.ofNat k):=by
 have h:(UInt8.ofNat k).toNat=k:=by simp;omega
 rw[<-BA,h]
def HQ(n:Nat)(a b:UInt8){g k:Nat}(s:1<=k)(r:k<=g)(q:g<=31):
  cr n ([a,b],(g:Int),(k:Int))=some (if agr [a,b] k then .inr (.inl true)else .inl ([a,b],(g:Int),((k+1:Nat):Int))):=by
 have o:Int.tdiv (k:Int) 10=((k / 10:Nat):Int):=by
  rw[show(10:Int)=((10:Nat):Int)from rfl,<-Int.ofNat_tdiv]
 have f:Int.tmod (k:Int) 10=((k%10:Nat):Int):=by
  rw[show(10:Int)=((10:Nat):Int)from rfl,<-Int.ofNat_tmod]
 have l:wrap .u8 (48+wrap .u8 (wrap .i64 (Int.tdiv (k:Int) 10)))=((48+k / 10:Nat):Int):=by
  rw[o,wrap_i64 _ (by omega) (by omega),en ((k / 10:Nat):Int) (by omega) (by omega),en _ (by omega) (by omega)];omega
 have j:wrap .u8 (48+wrap .u8 (Int.tmod (k:Int) 10))=((48+k%10:Nat):Int):=by
  rw[f,en ((k%10:Nat):Int) (by omega) (by omega),en _ (by omega) (by omega)];omega
 have i:wrap .i64 ((k:Int)+1)=((k+1:Nat):Int):=by rw[wrap_i64 _ (by omega) (by omega)];omega
 have c:(88:Int)=((88:Nat):Int):=rfl;have s0:sx [a,b] 0=some a:=rfl;have d:sx [a,b] 1=some b:=rfl;unfold cr;rw[bP,ad (show(k:Int)<=(g:Int)by omega)];simp only[s0,d,ob,l,j,i];rw[c,qL (by omega),qL (by omega),qL (by omega),qL (by omega)];show _=some (if((a==UInt8.ofNat 88||a==UInt8.ofNat (48+k / 10))&&(b==UInt8.ofNat 88||b==UInt8.ofNat (48+k%10)))=true then _ else _);generalize(a==UInt8.ofNat 88)=e;generalize(b==UInt8.ofNat 88)=m;generalize(a==UInt8.ofNat (48+k / 10))=p;generalize(b==UInt8.ofNat (48+k%10))=h;cases e<;>cases m<;>cases p<;>cases h<;>rfl
def yn(n:Nat)(m:100<n)(s:aa)(g:Nat)(e:g<=31):co n s (g:Int)=some (dq s g):=by
 unfold co;by_cases c:s.length=2
 ·obtain⟨a,b,rfl⟩:∃a b,s=[a,b]:=by
   match s,c with
   | [a,b],_=>exact⟨a,b,rfl⟩
  have j:cr n ([a,b],(g:Int),((g+1:Nat):Int))=some (.inr (.inr ())):=by
   unfold cr;rw[bP,ab (show¬((g+1:Nat):Int)<=(g:Int)by omega)]
  have:=CE (f:=λk=>([a,b],(g:Int),((k:Nat):Int))) (p:=agr [a,b]) (g:=g) (N:=n) (λk l d=>HQ n a b l d e) j (by omega);show ob (aw (cr n) n ([a,b],(g:Int),((1:Nat):Int))) _=_;rw[this];unfold dq;split<;>simp_all[ob]
 ·rw[show(((s.length:Nat):Int) != 2)=true by simp;omega];have:dq s g=false:=by
   unfold dq;rw[pT];intro i _
   match s,c with
   | [],_=>simp[agr]
   | [_],_=>simp[agr]
   | [_,_],h=>exact absurd rfl h
   | _::_::_::_,_=>simp[agr]
  rw[this];rfl
def qz(n:Nat)(s:aa)(k:Nat)(i:k<100):cZ n s (k:Int)=some (if agr s k then 1 else 0):=by
 unfold cZ;rw[fS9 n i];show cond _ _ _=_;by_cases d:s.length=2
 ·obtain⟨a,b,rfl⟩:∃a b,s=[a,b]:=by
   match s,d with
   | [a,b],_=>exact⟨a,b,rfl⟩
  have s0:sx [a,b] 0=some a:=rfl;have e:sx [a,b] 1=some b:=rfl;have o:sx (two k) 0=some (UInt8.ofNat (48+k / 10)):=rfl;have j:sx (two k) 1=some (UInt8.ofNat (48+k%10)):=rfl;have c:(88:Int)=((88:Nat):Int):=rfl;rw[show(((([a,b]:aa).length:Nat):Int)==2)=true from rfl];simp only[s0,e,o,j,ob,am];rw[c,qL (by omega),qL (by omega),BA,BA];show _=some (if((a==UInt8.ofNat 88||a==UInt8.ofNat (48+k / 10))&&(b==UInt8.ofNat 88||b==UInt8.ofNat (48+k%10)))=true then _ else _);generalize(a==UInt8.ofNat 88)=f;generalize(b==UInt8.ofNat 88)=l;generalize(a==UInt8.ofNat (48+k / 10))=m;generalize(b==UInt8.ofNat (48+k%10))=g;cases f<;>cases l<;>cases m<;>cases g<;>rfl
 ·rw[show(((s.length:Nat):Int)==2)=false by simp;omega];have:agr s k=false:=by
   match s,d with
   | [],_=>rfl
   | [_],_=>rfl
   | [_,_],h=>exact absurd rfl h
   | _::_::_::_,_=>rfl
  rw[this];rfl
def Bl(n:Nat)(h:100<n)(s:aa)(g:Nat)(d:g<=31):cM n s (g:Int)=some (if dq s g then 1 else 0):=by
 unfold cM;have b:cN n (s,(g:Int),((g+1:Nat):Int))=some (.inr (.inr ())):=by
  unfold cN;rw[bP,ab (show¬((g+1:Nat):Int)<=(g:Int)by omega)]
 have:=CE (f:=λk=>(s,(g:Int),((k:Nat):Int))) (p:=agr s) (g:=g) (N:=n) (step:=cN n) (yes:=.inl 1) (no:=.inr ()) (λk e c=>by
  unfold cN;rw[bP,ad (show(k:Int)<=(g:Int)by omega)];show ob (cZ n s (k:Int)) _=_;rw[qz n s k (by omega)];have a:wrap .i64 ((k:Int)+1)=((k+1:Nat):Int):=by rw[wrap_i64 _ (by omega) (by omega)];omega
  simp only[ob,a];cases agr s k<;>rfl) b (by omega)
 show ob (aw (cN n) n (s,(g:Int),((1:Nat):Int))) _=_;rw[this];unfold dq;split<;>simp_all[ob]
def sK(n:Nat){a b:Int}(w:1<b)(p:b<1000000)(u:-4611686018427387904<=a)(k:a<4611686018427387904):jw n a b=some (a / b,0):=by
 have l:(b==0)=false:=by simp;omega
 have q:(b==-1)=false:=by simp;omega
 unfold jw;simp only[l,q,af];have t:a / b*b+a%b=a:=Int.ediv_mul_add_emod a b;have v:=G4 a (show b≠0 by omega);have r:=D3 a (show 0<b by omega);have s:-4611686018427387904<=a / b:=by
  rw[Int.le_ediv_iff_mul_le (by omega)];have:(-4611686018427387904:Int)*b<=-4611686018427387904*1:=Int.mul_le_mul_of_nonpos_left (by omega) (by omega);omega
 have m:a / b<4611686018427387904:=by
  rw[Int.ediv_lt_iff_lt_mul (by omega)];have:(4611686018427387904:Int)*1<=4611686018427387904*b:=Int.mul_le_mul_of_nonneg_left (by omega) (by omega);omega
 by_cases g:0<=a
 ·have d:Int.tdiv a b=a / b:=IZ g;have i:decide (a<0)=false:=by simp;omega
  have e:decide (b<0)=false:=by simp;omega
  rw[d,i,e,wrap_i64 (a / b) (by omega) (by omega)];cases(Int.tmod a b != 0)<;>rfl
 ·have i:decide (a<0)=true:=by simp;omega
  have e:decide (b<0)=false:=by simp;omega
  have d:=Int.tdiv_eq_ediv (a:=a) (b:=b);have j:=GW (a:=a) (b:=b);rw[i,e];by_cases c:b∣a
  ·have f:Int.tmod a b=0:=by
    rw[j,ad (.inr c)];have:=Int.emod_eq_zero_of_dvd c;omega
   rw[f,d,ad (.inr c)];rw[Int.add_zero,wrap_i64 (a / b) (by omega) (by omega)];rfl
  ·have o:a%b≠0:=λh=>c (FQ h);have f:(Int.tmod a b != 0)=true:=by
    rw[j,ab (by rintro(h | h);exact g h;exact c h)];simp;omega
   have hs:b.sign=1:=Int.sign_eq_one_of_pos (by omega);rw[f,d,ab (by rintro(h | h);exact g h;exact c h),hs];rw[wrap_i64 (a / b+1) (by omega) (by omega),Int.add_sub_cancel,wrap_i64 (a / b) (by omega) (by omega)];rfl
def LU(n:Nat){a b:Int}(o:1<b)(g:b<1000000):rn n a b=some (a%b,0):=by
 have f:(b==0)=false:=by simp;omega
 have i:(b==-1)=false:=by simp;omega
 unfold rn;simp only[f,i,af];have p:=G4 a (show b≠0 by omega);have k:=D3 a (show 0<b by omega);have c:=GW (a:=a) (b:=b);have e:decide (b<0)=false:=by simp;omega
 by_cases hc:0<=a\/b∣a
 ·rw[ad hc]at c;have:Int.tmod a b=a%b:=by omega
  rw[this,e];have d:decide (a%b<0)=false:=by simp;omega
  rw[d];cases h:(a%b != 0)
  ·rfl
  ·rfl
 ·rw[ab hc]at c;have l:(b.natAbs:Int)=b:=by omega
  rw[l]at c;have m:a%b≠0:=λh=>hc (.inr (FQ h));have j:(Int.tmod a b != 0)=true:=by simp;omega
  have d:decide (Int.tmod a b<0)=true:=by simp;omega
  rw[j,d,e,c,wrap_i64 _ (by omega) (by omega),FX];rfl
def cV(y:Int):Prop:=-10000000000000000<=y/\y<=10000000000000000
instance (y:Int):Decidable (cV y):=by unfold cV;infer_instance
def eA(n:Nat)(y:Int):gp n y=some (if cV y then 0 else 6):=by
 unfold gp;rw[bP,bP];by_cases a:y < -10000000000000000
 ·rw[ad a,ab (show¬cV y by unfold cV;omega)]
 ·by_cases b:y>10000000000000000
  ·rw[ab a,ad b,ab (show¬cV y by unfold cV;omega)]
  ·rw[ab a,ab b,ad (show cV y by unfold cV;omega)]
def o5(n:Nat){y:Int}(h:-20000000000000000<=y/\y<=20000000000000000):∃z,dM n y=some z:=by
 unfold dM;rw[wrap_i64 (y - 1) (by omega) (by omega),sK n (by omega) (by omega) (by omega) (by omega),sK n (by omega) (by omega) (by omega) (by omega),sK n (by omega) (by omega) (by omega) (by omega)];exact⟨_,rfl⟩
def Et(n:Nat){y:Int}(h:cV y):∃b e,iv n y=some (b,e):=by
 unfold iv;have h':=h;unfold cV at h';obtain⟨z1,a⟩:=o5 n (y:=y+1) (by omega);obtain⟨z2,c⟩:=o5 n (y:=y) (by omega);rw[eA,ad h,wrap_i64 (y+1) (by omega) (by omega),a,c];exact⟨_,_,rfl⟩
def oW(n:Nat){y:Int}(h:cV y){m:Nat}(d:1<=m)(c:m<=12):∃v,dj n y (m:Int)=some v:=by
 unfold dj;obtain⟨b,e,a⟩:=Et n h;rw[a];show ∃v,cond (b&&((m:Int)==2)) _ _=some v;cases(b&&((m:Int)==2))with
 | true=>exact⟨_,rfl⟩
 | false=>
  have:wrap .i64 ((m:Int) - 1)=((m - 1:Nat):Int):=by rw[wrap_i64 _ (by omega) (by omega)];omega
  rw[this,cK (by omega)];have a:rD.length=12:=rfl;exact⟨_,bj (show m - 1<rD.length by omega)⟩
def A8(n:Nat){y:Int}(h:cV y){m:Nat}(b:1<=m)(a:m<=12):ip n y (m:Int)=some 0:=by
 unfold ip;rw[eA,ad h];show cond (decide ((m:Int)<1)) _ _=_;rw[bP,bP,ab (by omega),ab (by omega)]
def DX(n:Nat){y:Int}(h:cV y){m:Nat}(e:m<=11):∀(r j:Nat),j+r=m->∀(a:Int) (N:Nat),r<N->∃v,aw (bh n) N (y,a,(m:Int),(j:Int))=some v:=by
 intro r
 induction r with
 | zero=>
  intro j b a N d;obtain⟨N,rfl⟩:∃k,N=k+1:=⟨N - 1,by omega⟩;have:bh n (y,a,(m:Int),(j:Int))=some (.inr a):=by
   unfold bh;rw[bP,ab (show¬((j:Int)<(m:Int))by omega)]
  rw[aw,this];exact⟨_,rfl⟩
 | succ r ih=>
  intro j b a N d;obtain⟨N,rfl⟩:∃k,N=k+1:=⟨N - 1,by omega⟩;obtain⟨v,c⟩:=oW n h (m:=j+1) (by omega) (by omega);have w:wrap .i64 ((j:Int)+1)=((j+1:Nat):Int):=by rw[wrap_i64 _ (by omega) (by omega)];omega
  have:bh n (y,a,(m:Int),(j:Int))=some (.inl (y,wrap .i64 (a+v),(m:Int),((j+1:Nat):Int))):=by
   unfold bh;rw[bP,ad (show((j:Int)<(m:Int))by omega)];simp only[w,c,ob]
  rw[aw,this];exact ih (j+1) (by omega) _ N (by omega)
def G1(n:Nat)(d:100<n){y:Int}(h:cV y){m:Nat}(b:1<=m)(a:m<=12):∃v,dN n y (m:Int)=some (v,0):=by
 unfold dN jq ji;have h':=h;unfold cV at h';obtain⟨z,e⟩:=o5 n (y:=y) (by omega);have w:wrap .i64 ((m:Int) - 1)=((m - 1:Nat):Int):=by rw[wrap_i64 _ (by omega) (by omega)];omega
 rw[A8 n h b a,eA,ad h,e,w];obtain⟨v,c⟩:=DX n h (m:=m - 1) (by omega) (m - 1) 0 (by omega) (wrap .i64 (wrap .i64 (365*y)+z)) n (by omega);refine⟨v,?_⟩;show ob (aw (bh n) n (y,wrap .i64 (wrap .i64 (365*y)+z),((m - 1:Nat):Int),((0:Nat):Int))) _=_;rw[c];rfl
def madd(n:Nat){y:Int}(h:cV y){m c:Nat}(k:1<=m)(j:m<=12)(hc:1<=c)(i:c<=6):lQ n y (m:Int) (wrap .i64 ((c:Int) - 1)) =
  some (if 12<m+c - 1 then(if y=10000000000000000 then(0,0,6)else(y+1,((m+c - 1 - 12:Nat):Int),0))else(y,((m+c - 1:Nat):Int),0)):=by
 have h':=h;unfold cV at h';unfold lQ;rw[A8 n h k j,wrap_i64 (12*y) (by omega) (by omega),wrap_i64 ((m:Int) - 1) (by omega) (by omega),wrap_i64 (12*y+((m:Int) - 1)) (by omega) (by omega),wrap_i64 ((c:Int) - 1) (by omega) (by omega)];have l:nQ n (12*y+((m:Int) - 1)) ((c:Int) - 1)=some (12*y+((m:Int) - 1)+((c:Int) - 1),0):=by
  unfold nQ;rw[wrap_i64 (12*y+((m:Int) - 1)+((c:Int) - 1)) (by omega) (by omega),gH];by_cases d:(c:Int) - 1=0
  ·rw[ad d];have e:decide (12*y+((m:Int) - 1)>12*y+((m:Int) - 1))=false:=by simp
   have b:decide ((c:Int) - 1>0)=false:=by simp;omega
   rw[e,b,d,Int.add_zero];rfl
  ·rw[ab d];have e:decide (12*y+((m:Int) - 1)+((c:Int) - 1)>12*y+((m:Int) - 1))=true:=by simp;omega
   have b:decide ((c:Int) - 1>0)=true:=by simp;omega
   rw[e,b];rfl
 simp only[ob,l,eG,af];rw[sK n (by omega) (by omega) (by omega) (by omega),LU n (by omega) (by omega)];simp only[eA];by_cases g:12<m+c - 1
 ·have f:(12*y+((m:Int) - 1)+((c:Int) - 1)) / 12=y+1:=by omega
  have a:(12*y+((m:Int) - 1)+((c:Int) - 1))%12=((m+c - 1 - 12:Nat):Int) - 1:=by omega
  rw[f,a,ad g];by_cases hy:y=10000000000000000
  ·rw[ad hy,ab (show¬cV (y+1)by unfold cV;omega)];rfl
  ·rw[ab hy,ad (show cV (y+1)by unfold cV;omega),wrap_i64 (((m+c - 1 - 12:Nat):Int) - 1+1) (by omega) (by omega),FX];rfl
 ·have f:(12*y+((m:Int) - 1)+((c:Int) - 1)) / 12=y:=by omega
  have a:(12*y+((m:Int) - 1)+((c:Int) - 1))%12=((m+c - 1:Nat):Int) - 1:=by omega
  rw[f,a,ab g,ad h,wrap_i64 (((m+c - 1:Nat):Int) - 1+1) (by omega) (by omega),FX];rfl
def CV{j:Nat}(k:j<21):∃m c:Nat,kQ[j]?=some ((m:Int),(c:Int))/\1<=m/\m<=12/\1<=c/\c<=6/\(12<m+c - 1↔j=3\/j=7\/j=9):=by
 have:((List.range 21).all λj=>match kQ[j]? with
  | some (m,c)=>decide (0<=m)&&decide (0<=c)&&decide (1<=m.toNat)&&decide (m.toNat<=12)&&decide (1<=c.toNat)&&decide (c.toNat<=6)&&(decide (12<m.toNat+c.toNat - 1)==decide (j=3\/j=7\/j=9))
  | none=>false)=true:=by decide +kernel
 have h:=(ch.1 this) j (by simpa using k);split at h
 ·rename_i m c e;simp only[aC,cA,bI,tO]at h;obtain⟨⟨⟨⟨⟨⟨g,f⟩,a⟩,d⟩,b⟩,l⟩,i⟩:=h;exact⟨m.toNat,c.toNat,by rw[e,BC g,BC f],a,d,b,l,i⟩
 ·cases h
def M4(n:Nat)(p:100<n){y:Int}(h:cV y){j:Nat}(t:j<21):
  ∃a b c d,fC n y ((21+j:Nat):Int)=some (a,b,c,d,if y=10000000000000000/\(j=3\/j=7\/j=9)then 6 else 0):=by
 obtain⟨m,c,e,s,r,z,A,q⟩:=CV t;have B:dO n ((21+j:Nat):Int)=some ((m:Int),(c:Int),0):=by
  unfold dO cO;rw[bP,bP,ab (by omega),ab (by omega)];have:wrap .i64 (((21+j:Nat):Int) - 21)=(j:Int):=by rw[wrap_i64 _ (by omega) (by omega)];omega
  rw[this,cK t];show ob (kQ[j]?) _=_;rw[e];rfl
 obtain⟨v,C⟩:=G1 n p h s r;unfold fC;rw[B];show ∃a b c d,ob (dN n y (m:Int)) _=_;rw[C];show ∃a b w d,ob (lQ n y (m:Int) (wrap .i64 ((c:Int) - 1))) _=_;rw[madd n h s r z A];have h':=h;unfold cV at h';by_cases i:12<m+c - 1
 ·rw[ad i];by_cases hy:y=10000000000000000
  ·rw[ad hy,ad ⟨hy,q.1 i⟩];exact⟨_,_,_,_,rfl⟩
  ·rw[ab hy,ab (λx=>hy x.1)];have g:cV (y+1):=by unfold cV;omega
   obtain⟨l,f⟩:=G1 n p g (m:=m+c - 1 - 12) (by omega) (by omega);obtain⟨u,o⟩:=oW n g (m:=m+c - 1 - 12) (by omega) (by omega);have k:fj n (y+1) ((m+c - 1 - 12:Nat):Int)=some (wrap .i64 (wrap .i64 (l+u) - 1),0):=by
    unfold fj;rw[f,o];rfl
   show ∃a b w d,ob (fj n (y+1) ((m+c - 1 - 12:Nat):Int)) _=_;rw[k];exact⟨_,_,_,_,rfl⟩
 ·rw[ab i,ab (λx=>i (q.2 x.2))];obtain⟨l,f⟩:=G1 n p h (m:=m+c - 1) (by omega) (by omega);obtain⟨u,o⟩:=oW n h (m:=m+c - 1) (by omega) (by omega);have k:fj n y ((m+c - 1:Nat):Int)=some (wrap .i64 (wrap .i64 (l+u) - 1),0):=by
   unfold fj;rw[f,o];rfl
  show ∃a b w d,ob (fj n y ((m+c - 1:Nat):Int)) _=_;rw[k];exact⟨_,_,_,_,rfl⟩
def hasB(set:aa)(c:UInt8):Bool:=set.any λd=>d==c
def pm(set:aa)(c:UInt8):(decide (Lib.indexByte set c<0))=!hasB set c:=by
 induction set with
 | nil=>simp[Lib.indexByte,hasB]
 | cons d l ih=>
  have f:=Lib.indexByte_ge l c;simp only[hasB,List.any_cons]at ih ⊢;unfold Lib.indexByte;by_cases h:d=c
  ·simp[h]
  ·have e:(d==c)=false:=by simpa using h
   simp only[e,cj,aG,sU];rw[<-ih];by_cases b:Lib.indexByte l c=-1
   ·simp[b]
   ·have a:(Lib.indexByte l c==-1)=false:=by simpa using b
    simp only[a,cj,aG];have:¬Lib.indexByte l c+1<0:=by omega
    have:¬Lib.indexByte l c<0:=by omega
    simp[*]
def pJ(set:aa)(c:UInt8):(decide (Lib.indexByte set c>=0))=hasB set c:=by
 have:=pm set c;by_cases h:Lib.indexByte set c<0
 ·have a:¬Lib.indexByte set c>=0:=by omega
  simp only[h,a,mu,ml]at this ⊢;revert this;cases hasB set c<;>simp
 ·have a:Lib.indexByte set c>=0:=by omega
  simp only[h,a,mu,ml]at this ⊢;revert this;cases hasB set c<;>simp
def kj(n:Nat)(set:aa)(c:UInt8):dP n set ((c.toNat:Nat):Int)=some (Lib.indexByte set c):=by
 simp only[dP,ck,ob,OQ]
def asc(l:aa):Prop:=∀c∈l,c.toNat<128
def Gu(r:Int)(h:128<=r):∃p e,(Utf8.encode r).data.toList=p++[e]/\1<=p.length/\p.length<=3/\128<=e.toNat:=by
 unfold Utf8.encode;have hc:128<=(if Utf8.valid r then r.toNat else Utf8.runeError):=by
  split
  ·omega
  ·decide
 generalize(if Utf8.valid r then r.toNat else Utf8.runeError)=c at hc;have a:128<=(UInt8.ofNat (0x80+c%64)).toNat:=by
  simp only[Ag];omega
 simp only;split
 ·omega
 ·split
  ·exact⟨[_],_,rfl,by simp,by simp,a⟩
  ·split
   ·exact⟨[_,_],_,rfl,by simp,by simp,a⟩
   ·exact⟨[_,_,_],_,rfl,by simp,by simp,a⟩
def Gs{l:aa}(h:asc l){i:Nat}{c:UInt8}(hi:l[i]?=some c):c.toNat<128:=h c (dY hi)
def xJ(n:Nat)(set:aa)(h:asc set)(e:set.length<n):aw (cS n) n (set,0)=some (.inr ()):=by
 refine fL (step:=cS n) (λx=>x.1=set) (λx=>set.length - x.2) (λx=>.inr ()) ?_ n _ rfl (by simp;omega);rintro⟨s,i⟩ rfl;simp only[cS];by_cases hi:i<s.length
 ·have b:Nat.blt i s.length=true:=dl hi;obtain⟨c,hc⟩:∃c,s[i]?=some c:=⟨s[i],bj hi⟩;have a:=Gs h hc;have d:(((c.toNat:Nat):Int)==65533)=false:=by rw[aN];omega
  simp only[b,am,yW hc a,d,af];exact .inl ⟨_,rfl,rfl,by simp only;omega,trivial⟩
 ·have b:Nat.blt i s.length=false:=by
   cases b:Nat.blt i s.length with
   | false=>rfl
   | true=>exact absurd (aJ b) (by omega)
  simp only[b,af];exact .inr trivial
def us{l:aa}{c:UInt8}(h:c∉l):Lib.indexByte l c<0:=by
 have a:=pm l c;have d:hasB l c=false:=by
  unfold hasB;rw[pT];intro x hx b;simp only[bI]at b;exact h (b▸hx)
 rw[d]at a;simpa using a
def xH(n:Nat)(set:aa)(h:asc set)(z:set.length<n)(hs:set.length<=100)(r:Int)(l:128<=r):cY n set r=some (-1):=by
 have x:decide ((0:Int)<=r)=true:=au (by omega);have A:decide (r<128)=false:=ar (by omega);simp only[cY,x,A,am,af];by_cases d:r=65533
 ·have:(r==65533)=true:=bI.2 d;simp only[this,am,xJ n set h z,ob]
 ·have:(r==65533)=false:=aN.2 d;simp only[this,af];obtain⟨v,q⟩:∃v,cX n r=some v:=by
   unfold cX;generalize decide ((0:Int)<=r)=y;generalize decide (r<55296)=t;generalize decide ((57343:Int)<r)=B;generalize decide (r<=1114111)=d4;cases y<;>cases t<;>cases B<;>cases d4<;>exact⟨_,rfl⟩
  simp only[q,ob];cases v with
  | false=>rfl
  | true=>
   simp only[dD,af];obtain⟨p,e,hp,s,o,C⟩:=Gu r l;simp only[hp];have u:wrap .i64 (((p++[e]).length:Nat) - 1:Int)=(p.length:Int):=by
    rw[wrap_i64 _ (by simp<;>omega) (by simp<;>omega)];simp
   rw[u];obtain⟨m,rfl⟩:∃m,n=m+1:=⟨n - 1,by omega⟩;have a:cT (m+1) (set,p++[e],(p.length:Int),(p.length:Int))=some (.inr (.inl (-1)))\/cT (m+1) (set,p++[e],(p.length:Int),(p.length:Int))=some (.inr (.inr ())):=by
    simp only[cT,kA];by_cases g:p.length<set.length
    ·obtain⟨c,hc⟩:∃c,set[p.length]?=some c:=⟨set[p.length],bj g⟩;have k:=Gs h hc;have j:(p++[e])[p.length]?=some e:=by simp
     have i:(((c.toNat:Nat):Int) != ((e.toNat:Nat):Int))=true:=by simp only[bne,jd,aN];omega
     have f:wrap .i64 ((p.length:Int)+1)=((p.length+1:Nat):Int):=by rw[wrap_i64 _ (by omega) (by omega)];omega
     have hx:e∉List.drop (p.length+1) (List.take set.length set):=by
      intro w;have:=h e (by simpa using List.mem_of_mem_drop w);omega
     left;simp only[g,mu,am,kl hc,kl j,ob,i,f,eN (show p.length+1<=set.length by omega),kj,us hx]
    ·right;simp only[g,ml,af]
   rcases a with b | b<;>simp only[aw,b,ob]
def uq(n:Nat)(set:aa)(c:UInt8)(r:Int)(d:r=((c.toNat:Nat):Int))(hc:c.toNat<128):cY n set r=some (Lib.indexByte set c):=by
 have e:decide ((0:Int)<=r)=true:=au (by omega);have f:decide (r<128)=true:=au (by omega);have b:wrap .u8 r=r:=en _ (by omega) (by omega);have a:dP n set r=some (Lib.indexByte set c):=by rw[d];exact kj n set c
 simp only[cY,e,f,am,b,a,ob]
def wA(n:Nat)(set:aa)(c:UInt8)(hc:c.toNat<128):cY n set ((c.toNat:Nat):Int)=some (Lib.indexByte set c):=uq n set c _ rfl hc
def qX(n:Nat)(set:aa)(c:UInt8)(hc:c.toNat<128):cR n set ((c.toNat:Nat):Int)=some (hasB set c):=by
 simp only[cR,wA n set c hc,ob,pJ]
def rX(n:Nat)(set:aa)(h:asc set)(a:set.length<n)(hs:set.length<=100)(r:Int)(b:128<=r):cR n set r=some false:=by
 simp only[cR,xH n set h a hs r b,ob];rfl
def rk(x:Int)(a:0<=x)(b:x<65536):wrap .u16 x=x:=by
 show x%65536=x;omega
def yi(w a:Nat):BitVec.ofInt w (a:Int)=BitVec.ofNat w a:=by
 apply BitVec.eq_of_toNat_eq;simp
def LM(k:Nat):(2:Int) ^ k=((2 ^ k:Nat):Int):=by simp
def HG(a k:Nat):Int.fdiv (a:Int) (2 ^ k)=((a / 2 ^ k:Nat):Int):=by
 rw[LM k,Int.fdiv_eq_ediv_of_nonneg _ (Int.natCast_nonneg _)];rfl
def inR(lo hi:Int)(c:UInt8):Bool:=decide (((c.toNat:Nat):Int)>=lo)&&decide (((c.toNat:Nat):Int)<=hi)
def cnt(lo hi:Int)(l:aa):Nat:=l.countP (inR lo hi)
def EH(lo hi:Int)(l:aa):cnt lo hi l<=l.length:=List.countP_le_length
def HD(lo hi:Int){l:aa}{i:Nat}{c:UInt8}(h:l[i]?=some c):cnt lo hi (l.take (i+1))=cnt lo hi (l.take i)+if inR lo hi c then 1 else 0:=by
 unfold cnt;rw[oO,h,List.countP_append];simp[EP]
def AV(n:Nat)(s:aa)(lo hi:Int)(hs:s.length<n)(l:s.length<100000):eB n s lo hi=some ((cnt lo hi s:Nat):Int):=by
 have:=fL (step:=ff n) (λx=>∃i:Nat,i<=s.length/\x=(s,lo,hi,((cnt lo hi (s.take i):Nat):Int),(i:Int))) (λx=>s.length - x.2.2.2.2.toNat) (λ_=>((cnt lo hi s:Nat):Int)) ?_ n (s,lo,hi,0,0) ⟨0,by omega,by simp[cnt]⟩ (by simp;omega)
 ·simp only[eB,this,ob]
 rintro x ⟨i,g,rfl⟩;rcases aI i s.length with a | k
 ·obtain⟨c,hc⟩:∃c,s[i]?=some c:=⟨s[i],bj a⟩;have d:=HD lo hi hc;have b:=EH lo hi (s.take i);rw[dx]at b;have j:wrap .i64 ((i:Int)+1)=((i+1:Nat):Int):=by rw[wrap_i64 _ (by omega) (by omega)];omega
  have h:wrap .i64 (((cnt lo hi (s.take i):Nat):Int)+1)=((cnt lo hi (s.take i)+1:Nat):Int):=by rw[wrap_i64 _ (by omega) (by omega)];omega
  refine .inl ⟨(s,lo,hi,((cnt lo hi (s.take (i+1)):Nat):Int),((i+1:Nat):Int)),?_,⟨i+1,a,rfl⟩,by simp only[cf];omega,rfl⟩;simp only[ff,kA,a,mu,am,kl hc,ob,j,h];rw[d];by_cases e:((c.toNat:Nat):Int)>=lo
  ·by_cases f:((c.toNat:Nat):Int)<=hi
   ·simp[e,f,inR]
   ·simp[e,f,inR]
  ·simp[e,inR]
 ·have:i=s.length:=by omega
  subst this;refine .inr ?_;simp only[ff,kA,zj,ml,af,oM]
def E4(lo hi:Int)(l:aa):cnt lo hi l=l.length↔∀c∈l,inR lo hi c=true:=by
 unfold cnt;rw[List.countP_eq_length]
def IQ(lo hi:Int)(l:aa):cnt lo hi l=0↔∀c∈l,inR lo hi c=false:=by
 unfold cnt;rw[List.countP_eq_zero];simp
def cD(c:UInt8):Bool:=inR 48 57 c
def fR(c:UInt8):cD c=true↔48<=c.toNat/\c.toNat<=57:=by
 unfold cD inR;simp only[aC,cA];omega
def wL(c:UInt8):inR 88 88 c=true↔c=88:=by
 unfold inR;simp only[aC,cA];constructor
 ·intro h;apply hZ.1;show c.toNat=88;omega
 ·rintro rfl;decide
def E5(c:UInt8):inR 48 48 c=true↔c=48:=by
 unfold inR;simp only[aC,cA];constructor
 ·intro h;apply hZ.1;show c.toNat=48;omega
 ·rintro rfl;decide
def FV:∀l:aa,cnt 48 57 l+cnt 88 88 l<=l.length/\(cnt 48 57 l+cnt 88 88 l=l.length↔∀c∈l,cD c=true\/c=88)
 | []=>by simp[cnt]
 | c::l=>by
  have ih:=FV l;have h:cnt 48 57 (c::l)=cnt 48 57 l+if inR 48 57 c then 1 else 0:=by simp[cnt,EP]
  have d:cnt 88 88 (c::l)=cnt 88 88 l+if inR 88 88 c then 1 else 0:=by simp[cnt,EP]
  have g:¬(inR 48 57 c=true/\inR 88 88 c=true):=by
   rintro⟨b,a⟩;have:=(fR c).1 b;rw[(wL c).1 a]at this;exact absurd this.2 (by decide)
  rw[h,d,cU];simp only[bX,wI];have hx:=wL c;have f:cD c=inR 48 57 c:=rfl;rw[f];cases b:inR 48 57 c<;>cases a:inR 88 88 c
  ·simp only[b,a]at hx ⊢;have:c≠88:=λe=>by simpa using hx.2 e
   simp[this];omega
  ·simp only[b,a]at hx ⊢;have:c=88:=hx.1 trivial;simp only[this,cj,bc,aG,false_or,ie];rw[<-ih.2];omega
  ·simp only[b,a]at hx ⊢;simp only[cj,bc,aG,true_or,ie];rw[<-ih.2];omega
  ·exact absurd ⟨b,a⟩ g
def F9(n:Nat)(s set:aa)(r:asc set)(u:set.length<n)(t:set.length<=100)(hs:s.length<n):
  ∃y,aw (bY n) n (true,set,s,0)=some y/\((y=.inr ()/\s.all (hasB set)=true)\/∃i:Nat,y=.inl (i:Int)/\s.all (hasB set)=false):=by
 refine lZ (step:=bY n) (λx=>x.1=true/\x.2.1=set/\x.2.2.1=s/\s.all (hasB set)=(s.drop x.2.2.2).all (hasB set)) (λx=>s.length - x.2.2.2) _ ?_ n _ ⟨rfl,rfl,rfl,rfl⟩ (by simp only;omega);rintro⟨b,st,s',p⟩ ⟨h,g,f,a⟩;simp only at h g f a;rw[h,g,f];clear h g f b st s';rcases aI p s.length with j | m
 ·obtain⟨c,hc⟩:∃c,s[p]?=some c:=⟨s[p],bj j⟩;have e:Nat.blt p s.length=true:=dl j;rw[ju hc,lw]at a;rcases aI c.toNat 128 with d | d
  ·have q:=yW hc d;simp only[bY,e,am,g9,q,qX n set c d,ob];cases k:hasB set c with
   | true=>
    rw[k,kP]at a;exact .inl ⟨_,rfl,⟨rfl,rfl,rfl,a⟩,by simp only;omega⟩
   | false=>
    rw[k,BM]at a;exact .inr ⟨_,rfl,.inr ⟨p,rfl,a⟩⟩
  ·have q:=Cd hc d;have k:hasB set c=false:=by
    unfold hasB;rw[pT];intro x hx o;simp only[bI]at o;have:=r x hx;rw[o]at this;omega
   rw[k,BM]at a;have l:=rX n set r u t (((dec s p).1:Nat):Int) (by omega);simp only[bY,e,am,g9,l,ob];exact .inr ⟨_,rfl,.inr ⟨p,rfl,a⟩⟩
 ·have e:Nat.blt p s.length=false:=by
   cases h:Nat.blt p s.length with
   | false=>rfl
   | true=>exact absurd (aJ h) (by omega)
  simp only[bY,e,af];rw[oi m]at a;exact .inr ⟨_,rfl,.inl ⟨rfl,by rw[a];rfl⟩⟩
def D8(n:Nat)(s set:aa)(f:asc set)(e:set.length<n)(b:set.length<=100)(hs:s.length<n):ew n s set=some (s.all (hasB set)):=by
 obtain⟨y,d,c⟩:=F9 n s set f e b hs;simp only[ew,jg,jl,d,ob];rcases c with⟨rfl,a⟩ | ⟨i,rfl,a⟩
 ·rw[a];rfl
 ·rw[a];simp only[aq,sI];omega
def ID:asc [48,49,50,51,52,53,54,55,56,57]:=by unfold asc;decide
def Eg:asc [88,48,49,50,51,52,53,54,55,56,57]:=by unfold asc;decide
def yB(p:UInt8->Bool)(h:∀i:Fin 256,p (UInt8.ofNat i.val)=true)(c:UInt8):p c=true:=by
 have:=h ⟨c.toNat,c.toNat_lt⟩;simpa using this
def Gz(c:UInt8):hasB [48,49,50,51,52,53,54,55,56,57] c=cD c:=by
 have:=yB (λc=>hasB [48,49,50,51,52,53,54,55,56,57] c==cD c) (by decide +kernel) c;simpa using this
def Dp(c:UInt8):hasB [88,48,49,50,51,52,53,54,55,56,57] c=(cD c||c==88):=by
 have:=yB (λc=>hasB [88,48,49,50,51,52,53,54,55,56,57] c==(cD c||c==88)) (by decide +kernel) c;simpa using this
def Gq(n:Nat)(s:aa)(a:100<n)(hs:s.length<n):ew n s [48,49,50,51,52,53,54,55,56,57]=some (s.all cD):=by
 rw[D8 n s _ ID (by simp;omega) (by simp) hs];congr 2;funext c;exact Gz c
def CZ(n:Nat)(s:aa)(a:100<n)(hs:s.length<n):ew n s [88,48,49,50,51,52,53,54,55,56,57]=some (s.all λc=>cD c||c==88):=by
 rw[D8 n s _ Eg (by simp;omega) (by simp) hs];congr 2;funext c;exact Dp c
def all0(s:aa):Bool:=s.all λc=>c==48
def Pg(n:Nat)(s:aa)(hs:s.length<n)(k:s.length<100000):∃y,ed n s 48=some y/\all0 s=all0 y/\y.length<=s.length:=by
 obtain⟨y,j,a⟩:=lZ (step:=cG n) (λx=>x.2=48/\all0 s=all0 x.1/\x.1.length<=s.length) (λx=>x.1.length) (λy=>all0 s=all0 y/\y.length<=s.length) (by
  rintro⟨l,c⟩ ⟨rfl,h,b⟩;simp only at h b;by_cases m:l.length>0
  ·have d0:decide (((l.length:Nat):Int)>0)=true:=au (by omega);have g:wrap .i64 (((l.length:Nat):Int) - 1)=((l.length - 1:Nat):Int):=by rw[wrap_i64 _ (by omega) (by omega)];omega
   obtain⟨c,hc⟩:∃c,l[l.length - 1]?=some c:=⟨l[l.length - 1],bj (by omega)⟩;simp only[cG,d0,am,g,kl hc,ob];by_cases d:c=48
   ·have f:(((c.toNat:Nat):Int)==48)=true:=by rw[d];rfl
    simp only[f,am,eN (show l.length - 1<=l.length by omega),gk];refine .inl ⟨(List.take (l.length - 1) l,48),rfl,⟨rfl,?_,by show(List.take (l.length - 1) l).length<=s.length;rw[dx];omega⟩,by show(List.take (l.length - 1) l).length<l.length;rw[dx];omega⟩;rw[h];have:l=l.take (l.length - 1)++[c]:=by
     have a:=oO (l:=l) (i:=l.length - 1);rw[hc,show l.length - 1+1=l.length by omega,oM]at a;exact a
    rw[this];simp only[all0,List.all_append,lw,List.all_nil,d];simp
   ·have f:(((c.toNat:Nat):Int)==48)=false:=by
     rw[aN];intro e;exact d (hZ.1 (by show c.toNat=48;omega))
    simp only[f,af];exact .inr ⟨_,rfl,h,b⟩
  ·have d0:decide (((l.length:Nat):Int)>0)=false:=ar (by omega);simp only[cG,d0,af];exact .inr ⟨_,rfl,h,b⟩) n (s,48) ⟨rfl,rfl,aV _⟩ hs
 exact⟨y,by simp only[ed,j,ob],a⟩
def OT(n:Nat)(s:aa)(hs:s.length<n)(m:s.length<100000):∃y,eY n s 48=some y/\all0 s=(y==[]):=by
 obtain⟨y,k,j⟩:=lZ (step:=dJ n) (λx=>x.2=48/\all0 s=all0 x.1/\x.1.length<=s.length) (λx=>x.1.length) (λy=>all0 s=(y==[])) (by
  rintro⟨l,c⟩ ⟨rfl,h,f⟩;simp only at h f;cases l with
  | nil=>exact .inr ⟨[],rfl,by rw[h];rfl⟩
  | cons c l=>
   have d0:decide ((((c::l).length:Nat):Int)>0)=true:=au (by simp only[cU];omega);have hc:sx (c::l) 0=some c:=by simp[sx]
   simp only[dJ,d0,am,hc,ob];by_cases a:c=48
   ·have d:(((c.toNat:Nat):Int)==48)=true:=by rw[a];rfl
    have b:bx (c::l).length 1=some 1:=eN (i:=1) (by simp);simp only[d,am,b,oM,B2,gk];refine .inl ⟨_,rfl,⟨rfl,?_,by show l.length<=s.length;simp only[cU]at f;omega⟩,by simp⟩;rw[h];simp[all0,a]
   ·have d:(((c.toNat:Nat):Int)==48)=false:=by
     rw[aN];intro e;exact a (hZ.1 (by show c.toNat=48;omega))
    simp only[d,af];refine .inr ⟨_,rfl,?_⟩;rw[h];have g:(c==48)=false:=aN.2 a;simp[all0,g]) n (s,48) ⟨rfl,rfl,aV _⟩ hs
 exact⟨y,by simp only[eY,k,ob],j⟩
def KL(n:Nat)(s:aa)(hs:s.length<n)(b:s.length<100000):∃y,lq n s=some y/\(y==[])=all0 s:=by
 unfold lq;by_cases h:s=[]
 ·subst h;exact⟨[],rfl,rfl⟩
 ·have:(s==([]:aa))=false:=aN.2 h;obtain⟨y,e,d,f⟩:=Pg n s hs b;obtain⟨z,c,a⟩:=OT n y (by omega) (by omega);exact⟨z,by simp only[this,af,e,c,ob],by rw[d,a]⟩
def Ha(s:aa):all0 s=true↔cnt 48 48 s=s.length:=by
 rw[E4];unfold all0;rw[ch];constructor
 ·intro h c hc;have:=h c hc;rw[bI]at this;exact(E5 c).2 this
 ·intro h c hc;rw[bI];exact(E5 c).1 (h c hc)
def hasX(s:aa):Bool:=s.any λc=>c==88
def AM(s:aa):hasX s=decide (0<cnt 88 88 s):=by
 have:=IQ 88 88 s;unfold hasX;cases h:s.any λc=>c==88 with
 | true=>
  obtain⟨c,hc,b⟩:=oh.1 h;rw[bI]at b;symm;rw[cA];rcases wG (cnt 88 88 s)with a | a
  ·have:=this.1 a c hc;rw[(wL c).2 b]at this;cases this
  ·exact a
 | false=>
  symm;rw[sI];intro a;have:cnt 88 88 s=0:=this.2 λc hc=>by
   cases hx:inR 88 88 c with
   | false=>rfl
   | true=>
    rw[pT]at h;exact absurd (bI.2 ((wL c).1 hx)) (h c hc)
  omega
def yc(n:Nat)(s:aa):fN n s=some (hasX s):=by
 have e:UInt8.ofNat (Int.toNat 88)=(88:UInt8):=rfl;have hi:ks n s=some (Lib.indexByte s 88):=by
  simp only[ks,gn,ck,ob,e];by_cases h:([88]:aa)=s
  ·subst h;rfl
  ·have:(([88]:aa)==s)=false:=aN.2 h;simp only[this,af]
 simp only[fN,hi,ob,pJ];rfl
def pD(n:Nat)(g l:Bool)(d:aa)(x q:Int):cn n g l d x q=some (hasX d):=by
 simp only[cn,yc,ob]
def l4(n:Nat)(g l:Bool)(d:aa)(x q:Int)(hs:d.length<n)(b:d.length<100000):aB n g l d x q=some (if hasX d then 1 else 0):=by
 simp only[aB,AV n d 88 88 hs b,ob,AM,cA];by_cases h:0<cnt 88 88 d
 ·have:decide (((cnt 88 88 d:Nat):Int)<1)=false:=ar (by omega);simp[this,h]
 ·have:decide (((cnt 88 88 d:Nat):Int)<1)=true:=au (by omega);have a:cnt 88 88 d=0:=by omega
  simp[this,a]
def qW(acc:Nat)(c:UInt8):Nat:=acc*10+(c.toNat - 48)
def dval(acc:Nat)(l:aa):Nat:=l.foldl qW acc
def me(acc:Nat):dval acc []=acc:=by unfold dval;rw[AN]
def l7(acc:Nat)(c:UInt8)(l:aa):dval acc (c::l)=dval (qW acc c) l:=by
 unfold dval;rw[qM]
def Ar(l:aa)(acc:Nat)(c:UInt8):dval acc (l++[c])=dval acc l*10+(c.toNat - 48):=by
 have:dval acc (l++[c])=qW (dval acc l) c:=by
  unfold dval;rw[Ax,qM,AN]
 rw[this];rfl
def Ls(M:Nat)(i:10000000000000000000<=M)(l:aa):∀(acc k:Nat),(∀c∈l,cD c=true)->acc<10 ^ k->l.length+k<=18->Lib.parseUintM M acc l=.ok (dval acc l)/\dval acc l<10 ^ (l.length+k):=by
 induction l with
 | nil=>
  intro acc k _ b _;rw[me];refine⟨rfl,?_⟩;simpa using b
 | cons c l ih=>
  intro acc k h b f;have hc:=(fR c).1 (h c (by simp));simp only[cU]at f;have hp:(10:Nat) ^ (k+1)=10 ^ k*10:=oy 10 k;have g:(10:Nat) ^ (k+1)<=10 ^ 18:=iH (by decide) (by omega);have e:(10:Nat) ^ 18=1000000000000000000:=by decide
  have a:qW acc c=acc*10+(c.toNat - 48):=rfl;have ih:=ih (qW acc c) (k+1) (λd a=>h d (by simp[a])) (by omega) (by omega);refine⟨?_,?_⟩
  ·simp only[Lib.parseUintM];rw[ad hc,ab (by omega),ab (by omega),<-a,ih.1,l7]
  ·rw[l7,cU,show l.length+1+k=l.length+(k+1)by omega];exact ih.2
def Dw{l:aa}(h:∀c∈l,cD c=true)(d:l≠[])(k:l.length<=18):ub l=some ((dval 0 l:Nat):Int)/\dval 0 l<10 ^ l.length:=by
 obtain⟨i,b⟩:=Ls (2 ^ 64 - 1) (by decide) l 0 0 h (by simp) (by omega);refine⟨?_,by simpa using b⟩;have g:dval 0 l<10 ^ 18:=lH b (iH (by decide) (by omega));cases l with
 | nil=>exact absurd rfl d
 | cons c r=>
  have hc:=(fR c).1 (h c (by simp));have f:Lib.parseUintB 64 (c::r)=.ok (dval 0 (c::r)):=by
   unfold Lib.parseUintB;rw[ab d,i]
  have hs:¬(c.toNat=43\/c.toNat=45):=by omega
  simp only[ub,Lib.parseIntB,hs,aG,f];have e:(10:Nat) ^ 18=1000000000000000000:=by decide
  have a:(2:Nat) ^ (64 - 1)=9223372036854775808:=by decide
  have j:¬c.toNat=45:=by omega
  simp only[j,yU,ie,tD,aG];rw[a,ab (by omega)]
def Ir(n k:Nat)(j:k<=18)(l:18<n):lU n (k:Int)=some (((10 ^ k:Nat):Int),0):=by
 have b:(10:Nat) ^ 18=1000000000000000000:=by decide
 have:=fL (step:=iQ n) (λx=>∃i:Nat,i<=k/\x=(((10 ^ i:Nat):Int),(k:Int),(i:Int))) (λx=>k - x.2.2.toNat) (λ_=>((10 ^ k:Nat):Int)) (by
  rintro x ⟨i,hi,rfl⟩;rcases aI i k with a | h
  ·have d:(10:Nat) ^ (i+1)<=10 ^ 18:=iH (by decide) (by omega);have hp:(10:Nat) ^ (i+1)=10 ^ i*10:=oy 10 i;have e:wrap .i64 (((10 ^ i:Nat):Int)*10)=((10 ^ (i+1):Nat):Int):=by rw[wrap_i64 _ (by omega) (by omega)];omega
   have f:wrap .i64 ((i:Int)+1)=((i+1:Nat):Int):=by rw[wrap_i64 _ (by omega) (by omega)];omega
   refine .inl ⟨_,?_,⟨i+1,a,rfl⟩,by simp only[cf];omega,rfl⟩;simp only[iQ,kA,a,mu,am,e,f]
  ·have:i=k:=by omega
   subst this;refine .inr ?_;simp only[iQ,kA,zj,ml,af]) n (1,(k:Int),0) ⟨0,by omega,rfl⟩ (by simp;omega)
 have g:decide ((k:Int)<0)=false:=ar (by omega);have c:decide ((k:Int)>18)=false:=ar (by omega);simp only[lU,g,c,af,this,ob]
def iI(x:Int)(a:0<=x)(b:x<18446744073709551616):wrap .u64 x=x:=by
 show x%18446744073709551616=x;omega
def zb(x:Int):wrap .u64 x=x%18446744073709551616:=rfl
def Ff{a:Nat}(b:a<18446744073709551616):bits .and .u64 (a:Int) 4294967295=((a%4294967296:Nat):Int):=by
 show wrap .u64 ((BitVec.ofInt 64 (a:Int) &&& BitVec.ofInt 64 ((4294967295:Nat):Int)).toNat:Int)=_;rw[yi,yi,BitVec.toNat_and,BitVec.toNat_ofNat,BitVec.toNat_ofNat,oH (show a<2 ^ 64 from b),oH (by decide)];have:=Nat.and_two_pow_sub_one_eq_mod a 32;rw[show(2:Nat) ^ 32 - 1=4294967295 from by decide,show(2:Nat) ^ 32=4294967296 from by decide]at this;rw[this];exact iI _ (by omega) (by omega)
def Hi(a:Nat):Int.fdiv (a:Int) (2 ^ 32)=((a / 4294967296:Nat):Int):=by
 rw[HG]
def AW{a b A B:Nat}(d:a<=A)(c:b<=B):a*b<=A*B:=ul d c
def FA(a b:Nat):a*b=(a / 4294967296)*(b / 4294967296)*18446744073709551616+((a / 4294967296)*(b%4294967296)+(a%4294967296)*(b / 4294967296))*4294967296+(a%4294967296)*(b%4294967296):=by
 have f:a=(a / 4294967296)*4294967296+a%4294967296:=by omega
 have e:b=(b / 4294967296)*4294967296+b%4294967296:=by omega
 generalize a / 4294967296=d at f ⊢;generalize a%4294967296=x0 at f ⊢;generalize b / 4294967296=c at e ⊢;generalize b%4294967296=g at e ⊢;subst f e;rw[fh,Nat.mul_add,Nat.mul_add];have j:d*4294967296*(c*4294967296)=d*c*18446744073709551616:=by
  rw[Nat.mul_mul_mul_comm]
 have i:d*4294967296*g=d*g*4294967296:=by rw[Nat.mul_right_comm]
 have h:x0*(c*4294967296)=x0*c*4294967296:=by rw[yS]
 rw[j,i,h,fh];omega
def OI(n a b:Nat)(o:a<18446744073709551616)(v:b<18446744073709551616):iV n (a:Int) (b:Int)=some (((a*b / 18446744073709551616:Nat):Int),((a*b%18446744073709551616:Nat):Int)):=by
 have l:=FA a b;have h:a / 4294967296<=4294967295:=by omega
 have i:a%4294967296<=4294967295:=by omega
 have j:b / 4294967296<=4294967295:=by omega
 have g:b%4294967296<=4294967295:=by omega
 have w:=AW i g;have q:=AW i j;have s:=AW h g;have r:=AW h j;have k:wrap .u64 ((a:Int)*(b:Int))=((a*b%18446744073709551616:Nat):Int):=by
  rw[zb,<-Au];omega
 simp only[iV,Hi,Ff o,Ff v,k];simp only[<-Au];generalize(a / 4294967296)*(b / 4294967296)=f at *;generalize(a / 4294967296)*(b%4294967296)=d at *;generalize(a%4294967296)*(b / 4294967296)=e at *;generalize(a%4294967296)*(b%4294967296)=c at *;generalize a*b=N at *;have y:wrap .u64 ((c:Nat):Int)=((c:Nat):Int):=iI _ (by omega) (by omega);have m:wrap .u64 ((d:Nat):Int)=((d:Nat):Int):=iI _ (by omega) (by omega);have x:wrap .u64 ((e:Nat):Int)=((e:Nat):Int):=iI _ (by omega) (by omega);have t:wrap .u64 ((f:Nat):Int)=((f:Nat):Int):=iI _ (by omega) (by omega);rw[y,m,x,t,Hi c];have z:wrap .u64 (((d:Nat):Int)+((c / 4294967296:Nat):Int))=((d+c / 4294967296:Nat):Int):=by rw[iI _ (by omega) (by omega)];omega
 rw[z,Hi,Ff (by omega)];have p:wrap .u64 (((f:Nat):Int)+(((d+c / 4294967296) / 4294967296:Nat):Int))=((f+(d+c / 4294967296) / 4294967296:Nat):Int):=by rw[iI _ (by omega) (by omega)];omega
 have u:wrap .u64 ((((d+c / 4294967296)%4294967296:Nat):Int)+((e:Nat):Int))=(((d+c / 4294967296)%4294967296+e:Nat):Int):=by rw[iI _ (by omega) (by omega)];omega
 rw[p,u,Hi];have w8:wrap .u64 (((f+(d+c / 4294967296) / 4294967296:Nat):Int)+((((d+c / 4294967296)%4294967296+e) / 4294967296:Nat):Int))=((N / 18446744073709551616:Nat):Int):=by
  rw[iI _ (by omega) (by omega)];omega
 rw[w8]
def Nl(n a b:Nat)(l:a<9223372036854775808)(k:b<9223372036854775808):ri n (a:Int) (b:Int)=some (if a*b<9223372036854775808 then(((a*b:Nat):Int),0)else(0,15)):=by
 have j:decide ((a:Int)<0)=false:=ar (by omega);have f:decide ((b:Int)<0)=false:=ar (by omega);have g:wrap .u64 (a:Int)=a:=iI _ (by omega) (by omega);have i:wrap .u64 (b:Int)=b:=iI _ (by omega) (by omega);simp only[ri,pN,j,f,af,g,i,ob,OI n a b (by omega) (by omega)];generalize a*b=N;by_cases h:18446744073709551616<=N
 ·have c:decide (((N / 18446744073709551616:Nat):Int)>0)=true:=au (by omega);rw[c,ab (by omega)];rfl
 ·have c:decide (((N / 18446744073709551616:Nat):Int)>0)=false:=ar (by omega);have e:N%18446744073709551616=N:=oH (by omega);rw[c,e];simp only[af,BEq.rfl,dD,oG,jc,am];by_cases d:N<9223372036854775808
  ·have d4:decide (((N:Nat):Int)<=9223372036854775807)=true:=au (by omega);rw[d4,ad d,am,wrap_i64 _ (by omega) (by omega)]
  ·have d4:decide (((N:Nat):Int)<=9223372036854775807)=false:=ar (by omega);rw[d4,ab d,af]
def E16:Nat:=10000000000000000
def Ku{x:Nat}(hx:17<=x):E16<10 ^ x:=by
 have:(10:Nat) ^ 17<=10 ^ x:=iH (by decide) hx;have a:(10:Nat) ^ 17=100000000000000000:=by decide
 unfold E16;omega
def Ep(n:Nat)(g l:Bool)(d:aa)(x:Nat)(s:Int)(m:∀c∈d,cD c=true)(o:d≠[])(i:d.length<=17)(hx:x<=18)(q:18<n):
  dc n g l d (x:Int) s=some (if dval 0 d*10 ^ x<=E16 then(((dval 0 d*10 ^ x:Nat):Int),0)else(0,6)):=by
 obtain⟨p,j⟩:=Dw m o (by omega);have r:dval 0 d<10 ^ 17:=lH j (iH (by decide) i);have hp:(10:Nat) ^ x<=10 ^ 18:=iH (by decide) hx;have k:(10:Nat) ^ 17=100000000000000000:=by decide
 have e:(10:Nat) ^ 18=1000000000000000000:=by decide
 have f:Nat.ble d.length 9223372036854775806=true:=dl (by omega);simp only[dc,f,am,p,ob,Ir n x hx q,eG,af,Nl n _ _ (show dval 0 d<9223372036854775808 by omega) (show 10 ^ x<9223372036854775808 by omega)];generalize dval 0 d*10 ^ x=N;unfold E16;by_cases h:N<9223372036854775808
 ·rw[ad h];simp only[eG,af];by_cases b:N<=10000000000000000
  ·have a:decide (((N:Nat):Int)>10000000000000000)=false:=ar (by omega);rw[a,ad b,af]
  ·have a:decide (((N:Nat):Int)>10000000000000000)=true:=au (by omega);rw[a,ab b,am]
 ·rw[ab h,ab (by omega)];rfl
def pre(d:aa)(i:Nat):Nat:=dval 0 (d.take i)*10 ^ (i - d.length)
def Jc{d:aa}{i:Nat}{c:UInt8}(h:d[i]?=some c):pre d (i+1)=10*pre d i+(c.toNat - 48):=by
 have a:=tw h;unfold pre;rw[oO,h,show i+1 - d.length=0 by omega,show i - d.length=0 by omega];simp only[Option.toList,Ar,vZ,na];omega
def I0{d:aa}{i:Nat}(h:d.length<=i):pre d (i+1)=10*pre d i:=by
 unfold pre;rw[gg (show d.length<=i+1 by omega),gg h,show i+1 - d.length=(i - d.length)+1 by omega,oy];rw[<-yS];omega
def Cf(d:aa):∀k i,pre d i<=pre d (i+k)
 | 0,i=>aV _
 | k+1,i=>by
  have ih:=Cf d k i;rcases aI (i+k) d.length with b | a
  ·have:=Jc (bj b);rw[show i+(k+1)=i+k+1 by omega,this];omega
  ·have:=I0 a;rw[show i+(k+1)=i+k+1 by omega,this];omega
def gJ(n:Nat)(d:aa)(x:Nat)(o:∀c∈d,cD c=true)(v:d.length<=100)(hx:x<=100)(w:d.length+x<n):
  aj n d (x:Int)=some (if dval 0 d*10 ^ x<=E16 then(((dval 0 d*10 ^ x:Nat):Int),1)else(0,0)):=by
 have a:pre d (d.length+x)=dval 0 d*10 ^ x:=by
  unfold pre;rw[gg (by omega),show d.length+x - d.length=x by omega]
 have w0:wrap .i64 (((d.length:Nat):Int)+(x:Int))=((d.length+x:Nat):Int):=by rw[wrap_i64 _ (by omega) (by omega)];omega
 have:=fL (step:=dK n) (λq=>∃i:Nat,i<=d.length+x/\pre d i<=E16/\q=(d,(x:Int),((pre d i:Nat):Int),(i:Int))) (λq=>d.length+x - q.2.2.2.toNat) (λ_=>if dval 0 d*10 ^ x<=E16 then .inr ((dval 0 d*10 ^ x:Nat):Int)else .inl (0,0)) (by
  rintro q ⟨i,hi,hp,rfl⟩;simp only[dK,w0,kA];unfold E16 at hp ⊢;have s:wrap .i64 ((i:Int)+1)=((i+1:Nat):Int):=by rw[wrap_i64 _ (by omega) (by omega)];omega
  have p:wrap .i64 (10*((pre d i:Nat):Int))=((10*pre d i:Nat):Int):=by rw[wrap_i64 _ (by omega) (by omega)];omega
  by_cases k:i<d.length+x
  ·have r:=Cf d (d.length+x - (i+1)) (i+1);rw[show i+1+(d.length+x - (i+1))=d.length+x by omega,a]at r;simp only[k,mu,am,s,p];rcases aI i d.length with e | j
   ·obtain⟨c,hc⟩:∃c,d[i]?=some c:=⟨d[i],bj e⟩;have l:=(fR c).1 (o c (dY hc));have hs:=Jc hc;have m:wrap .u8 (((c.toNat:Nat):Int) - 48)=((c.toNat - 48:Nat):Int):=by rw[en _ (by omega) (by omega)];omega
    have u:wrap .i64 ((c.toNat - 48:Nat):Int)=((c.toNat - 48:Nat):Int):=wrap_i64 _ (by omega) (by omega);have t:wrap .i64 (((10*pre d i:Nat):Int)+((c.toNat - 48:Nat):Int))=((pre d (i+1):Nat):Int):=by rw[wrap_i64 _ (by omega) (by omega)];omega
    simp only[e,mu,am,kl hc,ob,m,u,t];by_cases g:pre d (i+1)<=10000000000000000
    ·have b:decide (((pre d (i+1):Nat):Int)>10000000000000000)=false:=ar (by omega);simp only[b,af];exact .inl ⟨_,rfl,⟨i+1,k,g,rfl⟩,by simp only[cf];omega,trivial⟩
    ·have b:decide (((pre d (i+1):Nat):Int)>10000000000000000)=true:=au (by omega);simp only[b,am];rw[ab (by omega)];exact .inr rfl
   ·have hs:=I0 j;have f:¬i<d.length:=by omega
    simp only[f,ml,af];rw[<-hs];by_cases g:pre d (i+1)<=10000000000000000
    ·have b:decide (((pre d (i+1):Nat):Int)>10000000000000000)=false:=ar (by omega);simp only[b,af];exact .inl ⟨_,rfl,⟨i+1,k,g,rfl⟩,by simp only[cf];omega,trivial⟩
    ·have b:decide (((pre d (i+1):Nat):Int)>10000000000000000)=true:=au (by omega);simp only[b,am];rw[ab (by omega)];exact .inr rfl
  ·have:i=d.length+x:=by omega
   subst this;simp only[zj,ml,af];rw[a]at hp ⊢;rw[ad hp];exact .inr rfl) n (d,(x:Int),0,0) ⟨0,by omega,by unfold pre E16;simp[me],by unfold pre;simp[me]⟩ (by simp;omega)
 simp only[aj,this,ob];by_cases h:dval 0 d*10 ^ x<=E16
 ·rw[ad h,ad h]
 ·rw[ab h,ab h]
def okM(d:aa)(x:Int):Prop:=(∀c∈d,cD c=true)/\1<=d.length/\d.length<=17/\d.head?≠some 48/\0<=x/\x<=16/\¬(x=0/\d.length<5)/\dval 0 d*10 ^ x.toNat<=E16
def okL(d:aa)(x s:Int):Prop:=okM d x/\0<=s/\s<=(d.length:Int)+x
def okS(g:Bool)(d:aa)(x s:Int):Prop:=d.length=4/\(∀c∈d,cD c=true\/c=88)/\x=0/\¬(g=true/\all0 d=true)/\0<=s/\s<=4/\¬(0<s/\hasX d=true)
def okY(g l:Bool)(d:aa)(x s:Int):Prop:=if l=true then okL d x s else okS g d x s
instance (d:aa)(x:Int):Decidable (okM d x):=by unfold okM;infer_instance
instance (d:aa)(x s:Int):Decidable (okL d x s):=by unfold okL;infer_instance
instance (g:Bool)(d:aa)(x s:Int):Decidable (okS g d x s):=by unfold okS;infer_instance
instance (g l:Bool)(d:aa)(x s:Int):Decidable (okY g l d x s):=by unfold okY;infer_instance
def GM(d:aa):d.all cD=true↔∀c∈d,cD c=true:=ch
def Bt(d:aa):(d.all λc=>cD c||c==88)=true↔∀c∈d,cD c=true\/c=88:=by
 rw[ch];constructor
 ·intro h c hc;have:=h c hc;simpa using this
 ·intro h c hc;have:=h c hc;simpa using this
def NG(c:UInt8):(((c.toNat:Nat):Int)==48)=(c==48):=BA c 48
def J1(n:Nat)(g l:Bool)(d:aa)(x s:Int)(A:200<n)(z:d.length<=100):aS n g l d x s=some (decide (okM d x)):=by
 unfold aS;by_cases w:d.length<1
 ·have e:decide (((d.length:Nat):Int)<1)=true:=au (by omega);rw[e,ar (λh:okM d x=>by have:=h.2.1;omega)];rfl
 ·have e:decide (((d.length:Nat):Int)<1)=false:=ar (by omega);rw[e,af];by_cases y:d.length>17
  ·have e:decide (((d.length:Nat):Int)>17)=true:=au (by omega);rw[e,ar (λh:okM d x=>by have:=h.2.2.1;omega)];rfl
  ·have e:decide (((d.length:Nat):Int)>17)=false:=ar (by omega);rw[e,af,Gq n d (by omega) (by omega)];simp only[ob];cases m:d.all cD with
   | false=>
    rw[ar (λh:okM d x=>by rw[(GM d).2 h.1]at m;cases m)];rfl
   | true=>
    have a:=(GM d).1 m;obtain⟨c,r,rfl⟩:∃c r,d=c::r:=by
     cases d with
     | nil=>simp at w
     | cons c r=>exact⟨c,r,rfl⟩
    have p:sx (c::r) 0=some c:=by simp[sx]
    simp only[dD,af,p,NG];by_cases f:c=48
    ·rw[ar (λh:okM (c::r) x=>h.2.2.2.1 (by rw[f];rfl)),f];rfl
    ·have e:(c==48)=false:=aN.2 f;rw[e,af];by_cases t:x<0
     ·rw[au t,ar (λh:okM (c::r) x=>by have:=h.2.2.2.2.1;omega)];rfl
     ·rw[ar t,af];by_cases v:x>16
      ·rw[au v,ar (λh:okM (c::r) x=>by have:=h.2.2.2.2.2.1;omega)];rfl
      ·rw[ar v,af];obtain⟨k,rfl⟩:∃k:Nat,x=(k:Int):=⟨x.toNat,by omega⟩;have o:=Ep n g l (c::r) k s a (by simp) (by omega) (by omega) (by omega);rw[o];have key:¬((k:Int)=0/\(c::r).length<5)->(okM (c::r) (k:Int)↔dval 0 (c::r)*10 ^ k<=E16):=by
        intro b;constructor
        ·intro h;simpa using h.2.2.2.2.2.2.2
        ·intro h;exact⟨a,by omega,by omega,by simpa using f,by omega,by omega,b,by simpa using h⟩
       have fin:¬((k:Int)=0/\(c::r).length<5)->(ob (some (if dval 0 (c::r)*10 ^ k<=E16 then(((dval 0 (c::r)*10 ^ k:Nat):Int),(0:Int))else(0,6))) λq=>(some (q.2==0)))=some (decide (okM (c::r) (k:Int))):=by
        intro b;by_cases j:dval 0 (c::r)*10 ^ k<=E16
        ·rw[ad j,au ((key b).2 j)];rfl
        ·rw[ab j,ar (λh=>j ((key b).1 h))];rfl
       by_cases i:(k:Int)=0
       ·have e:((k:Int)==0)=true:=bI.2 i;rw[e,am];by_cases u:(c::r).length<5
        ·have e:decide ((((c::r).length:Nat):Int)<5)=true:=au (by omega);rw[e,ar (λh:okM (c::r) (k:Int)=>h.2.2.2.2.2.2.1 ⟨i,u⟩)];rfl
        ·have e:decide ((((c::r).length:Nat):Int)<5)=false:=ar (by omega);rw[e,af];exact fin (λh=>u h.2)
       ·have e:((k:Int)==0)=false:=aN.2 i;rw[e,af];exact fin (λh=>i h.1)
def HZ(n:Nat)(g l:Bool)(d:aa)(x s:Int)(c:200<n)(e:d.length<=100):
  (ob (aS n g l d x s) λr=>(cond (!r) (some (6:Int)) (cond (decide (s<0)) (some 6) (cond (decide (s>(wrap .i64 (((d.length:Nat):Int)+x)))) (some 6) (some 0)))))=some (if okL d x s then 0 else 6):=by
 rw[J1 n g l d x s c e];simp only[ob];by_cases h:okM d x
 ·rw[au h];have hx:=h.2.2.2.2;have w:wrap .i64 (((d.length:Nat):Int)+x)=((d.length:Nat):Int)+x:=wrap_i64 _ (by omega) (by omega);rw[w];simp only[dD,af,bP];by_cases b:s<0
  ·rw[ad b,ab (λq:okL d x s=>by have:=q.2.1;omega)]
  ·rw[ab b];by_cases a:s>((d.length:Nat):Int)+x
   ·rw[ad a,ab (λq:okL d x s=>by have:=q.2.2;omega)]
   ·rw[ab a,ad ⟨h,by omega,by omega⟩]
 ·rw[ar h,ab (λq:okL d x s=>h q.1)];rfl
def AE(n:Nat)(g l:Bool)(d:aa)(x s:Int)(z:200<n)(v:d.length<=100):gm n g l d x s=some (if okY g l d x s then 0 else 6):=by
 obtain⟨y,A,hy⟩:=KL n d (by omega) (by omega);unfold gm;rw[CZ n d (by omega) (by omega),A,pD];cases l with
 | true=>
  have b:(if okY g true d x s then(0:Int)else 6)=if okL d x s then 0 else 6:=by simp only[okY,bc]
  rw[b];have st:=HZ n g true d x s z v;simp only[am];generalize(ob (aS n g true d x s) λr=>(cond (!r) (some (6:Int)) (cond (decide (s<0)) (some 6) (cond (decide (s>(wrap .i64 (((d.length:Nat):Int)+x)))) (some 6) (some 0)))))=T at st ⊢;simp only[ob];rw[st];cases(((d.length:Nat):Int)==4)<;>cases(d.all λc=>cD c||c==88)<;>cases(x==0)<;>cases g<;>cases(y==[])<;>cases(s != 0)<;>rfl
 | false=>
  have b:(if okY g false d x s then(0:Int)else 6)=if okS g d x s then 0 else 6:=by simp only[okY,cj,aG]
  rw[b];simp only[af,ob];by_cases f:d.length=4
  ·have k:(((d.length:Nat):Int)==4)=true:=bI.2 (by omega);rw[k,am];cases j:(d.all λc=>cD c||c==88)with
   | false=>
    rw[ab (λq:okS g d x s=>by rw[(Bt d).2 q.2.1]at j;cases j)];rfl
   | true=>
    have e:=(Bt d).1 j;rw[am];by_cases h:x=0
    ·subst h;have w:wrap .i64 (((d.length:Nat):Int)+0)=4:=by rw[f];decide
     rw[w];have a:¬(g=true/\all0 d=true)->(cond (s != 0) (cond (!(!hasX d)) (some (6:Int)) (cond (decide (s<0)) (some 6) (cond (decide (s>4)) (some 6) (some 0)))) (cond (decide (s<0)) (some 6) (cond (decide (s>4)) (some 6) (some 0))))=some (if okS g d 0 s then 0 else 6):=by
      intro p;simp only[bP,Cj,Bool.not_not];by_cases s0:s=0
      ·subst s0;rw[ad rfl,ab (by omega),ab (by omega),ad ⟨f,e,rfl,p,by omega,by omega,by omega⟩]
      ·rw[ab s0];cases u:hasX d with
       | true=>
        by_cases i:s<0
        ·rw[ab (λq:okS g d 0 s=>by have:=q.2.2.2.2.1;omega)];rfl
        ·rw[ab (λq:okS g d 0 s=>q.2.2.2.2.2.2 ⟨by omega,u⟩)];rfl
       | false=>
        rw[af];by_cases i:s<0
        ·rw[ad i,ab (λq:okS g d 0 s=>by have:=q.2.2.2.2.1;omega)]
        ·rw[ab i];by_cases t:s>4
         ·rw[ad t,ab (λq:okS g d 0 s=>by have:=q.2.2.2.2.2.1;omega)]
         ·rw[ab t,ad ⟨f,e,rfl,p,by omega,by omega,λq=>by rw[u]at q;cases q.2⟩]
     have m:((0:Int)==0)=true:=rfl;rw[m,am];cases g with
     | false=>
      simp only[af];exact a (by simp)
     | true=>
      simp only[am];rw[hy];cases o:all0 d with
      | true=>rw[ab (λq:okS true d 0 s=>q.2.2.2.1 ⟨rfl,o⟩)];rfl
      | false=>
       simp only[jc,am];exact a (by rw[o];simp)
    ·have m:(x==0)=false:=aN.2 h;rw[m,ab (λq:okS g d x s=>h q.2.2.1)];rfl
  ·have k:(((d.length:Nat):Int)==4)=false:=aN.2 (by omega);rw[k,ab (λq:okS g d x s=>f q.1)];rfl
def Lx(d:aa):cnt 48 57 d=d.length↔∀c∈d,cD c=true:=E4 48 57 d
def xU(n:Nat)(g l:Bool)(d:aa)(x s:Int)(N:200<n)(I:d.length<=100):bU n g l d x s=some (if okY g l d x s then 1 else 0):=by
 have hs:=FV d;have v:=AM d;have o:=Ha d;have u:=Lx d;unfold bU;rw[AV n d 48 57 (by omega) (by omega),AV n d 88 88 (by omega) (by omega),AV n d 48 48 (by omega) (by omega)];simp only[ob];generalize M:cnt 48 57 d=A at *;generalize L:cnt 88 88 d=B at *;have w0:wrap .i64 (((A:Nat):Int)+((B:Nat):Int))=((A+B:Nat):Int):=by rw[wrap_i64 _ (by omega) (by omega)];omega
 rw[w0];simp only[Cj,bP,HW];by_cases z:A+B=d.length
 ·rw[ad (by omega)];have m:=hs.2.1 z;by_cases D:s<0
  ·rw[ad D,ab];intro q;unfold okY at q;split at q
   ·have:=q.2.1;omega
   ·have:=q.2.2.2.2.1;omega
  ·rw[ab D];cases l with
   | false=>
    have i:(if okY g false d x s then(1:Int)else 0)=if okS g d x s then 1 else 0:=by simp only[okY,cj,aG]
    rw[i,af];by_cases j:d.length=4
    ·rw[ad (by omega)];by_cases h:x=0
     ·rw[ad h];have a:¬(g=true/\all0 d=true)->(if s>4 then some (0:Int)else if s>0 then(if((B:Nat):Int)>0 then some 0 else some 1)else some 1)=some (if okS g d x s then 1 else 0):=by
       intro E;by_cases t:s>4
       ·rw[ad t,ab (λq:okS g d x s=>by have:=q.2.2.2.2.2.1;omega)]
       ·rw[ab t];by_cases H:s>0
        ·rw[ad H];by_cases w:((B:Nat):Int)>0
         ·rw[ad w,ab (λq:okS g d x s=>q.2.2.2.2.2.2 ⟨by omega,by rw[v];exact au (by omega)⟩)]
         ·rw[ab w,ad ⟨j,m,h,E,by omega,by omega,λq=>by
           have:=q.2;rw[v,cA]at this;omega⟩]
        ·rw[ab H,ad ⟨j,m,h,E,by omega,by omega,λq=>by omega⟩]
      cases g with
      | false=>rw[af];exact a (by simp)
      | true=>
       rw[am,gH];by_cases e:all0 d=true
       ·rw[ad (by have:=o.1 e;omega),ab (λq:okS true d x s=>q.2.2.2.1 ⟨rfl,e⟩)]
       ·rw[ab (λq=>e (o.2 (by omega)))];exact a (λq=>e q.2)
     ·rw[ab h,ab (λq:okS g d x s=>h q.2.2.1)]
    ·rw[ab (by omega),ab (λq:okS g d x s=>j q.1)]
   | true=>
    have i:(if okY g true d x s then(1:Int)else 0)=if okL d x s then 1 else 0:=by simp only[okY,bc]
    rw[i,am];by_cases w:((B:Nat):Int)>0
    ·rw[ad w,ab];intro q;have:=u.2 q.1.1;omega
    ·rw[ab w];have f:=u.1 (by omega);by_cases j:((A:Nat):Int)<1
     ·rw[ad j,ab (λq:okL d x s=>by have:=q.1.2.1;omega)]
     ·rw[ab j];by_cases h:((A:Nat):Int)>17
      ·rw[ad h,ab (λq:okL d x s=>by have:=q.1.2.2.1;omega)]
      ·rw[ab h];obtain⟨c,r,rfl⟩:∃c r,d=c::r:=by
        cases d with
        | nil=>simp at z;omega
        | cons c r=>exact⟨c,r,rfl⟩
       have y:sx (c::r) 0=some c:=by simp[sx]
       simp only[y,NG,gH];by_cases e:c=48
       ·rw[ad e,ab (λq:okL (c::r) x s=>q.1.2.2.2.1 (by rw[e];rfl))]
       ·rw[ab e];by_cases F:x<0
        ·rw[ad F,ab (λq:okL (c::r) x s=>by have:=q.1.2.2.2.2.1;omega)]
        ·rw[ab F];by_cases G:x>16
         ·rw[ad G,ab (λq:okL (c::r) x s=>by have:=q.1.2.2.2.2.2.1;omega)]
         ·rw[ab G];obtain⟨k,rfl⟩:∃k:Nat,x=(k:Int):=⟨x.toNat,by omega⟩;have K:wrap .i64 (((A:Nat):Int)+(k:Int))=((A+k:Nat):Int):=by rw[wrap_i64 _ (by omega) (by omega)];omega
          rw[K,gJ n (c::r) k f I (by omega) (by omega)];have p:(c::r).length=A:=by omega
          have a:¬((k:Int)=0/\(c::r).length<5)->(if s>((A+k:Nat):Int)then some (0:Int)else some (if dval 0 (c::r)*10 ^ k<=E16 then(((dval 0 (c::r)*10 ^ k:Nat):Int),(1:Int))else(0,0)).2)=some (if okL (c::r) (k:Int) s then 1 else 0):=by
           intro J;by_cases t:s>((A+k:Nat):Int)
           ·rw[ad t,ab (λq:okL (c::r) (k:Int) s=>by have:=q.2.2;rw[p]at this;omega)]
           ·rw[ab t];by_cases b:dval 0 (c::r)*10 ^ k<=E16
            ·rw[ad b,ad ⟨⟨f,by omega,by omega,by simpa using e,by omega,by omega,J,by simpa using b⟩,by omega,by omega⟩]
            ·rw[ab b,ab (λq:okL (c::r) (k:Int) s=>b (by simpa using q.1.2.2.2.2.2.2.2))]
          by_cases b:(k:Int)=0
          ·rw[ad b];by_cases C:((A:Nat):Int)<5
           ·rw[ad C,ab (λq:okL (c::r) (k:Int) s=>q.1.2.2.2.2.2.2.1 ⟨b,by omega⟩)]
           ·rw[ab C];exact a (λq=>by omega)
          ·rw[ab b];exact a (λq=>b q.1)
 ·rw[ab (by omega),ab];intro q;apply z;rw[hs.2];unfold okY at q;split at q
  ·exactλc hc=>.inl (q.1.1 c hc)
  ·exact q.2.1
def ER:∀(l:aa) (acc:Nat),acc*10 ^ l.length<=dval acc l
 | [],acc=>by rw[me];simp
 | c::l,acc=>by
  have ih:=ER l (qW acc c);rw[l7,cU,oy];have h:acc*10<=qW acc c:=Nat.le_add_right _ _;have b:=lz (10 ^ l.length) h;have a:acc*(10 ^ l.length*10)=acc*10*10 ^ l.length:=by rw[tH (10 ^ l.length) 10,yS]
  omega
def nF:∀(l:aa) (acc k:Nat),(∀c∈l,cD c=true)->acc<10 ^ k->dval acc l<10 ^ (l.length+k)
 | [],acc,k,_,h=>by rw[me];simpa using h
 | c::l,acc,k,b,h=>by
  have hc:=(fR c).1 (b c (by simp));have hp:(10:Nat) ^ (k+1)=10 ^ k*10:=oy 10 k;have hs:qW acc c=acc*10+(c.toNat - 48):=rfl;have ih:=nF l (qW acc c) (k+1) (λd a=>b d (by simp[a])) (by omega);rw[l7,cU,show l.length+1+k=l.length+(k+1)by omega];exact ih
structure Num(d:aa)(k q:Nat):Prop where
 dig:∀c∈d,cD c=true
 ne:d≠[]
 wide:d.length+k<=17
 small:dval 0 d*10 ^ k<=E16
 sig:q<=d.length+k
def pR{d:aa}(h:∀c∈d,cD c=true):hasX d=false:=by
 unfold hasX;rw[pT];intro c hc a;rw[bI]at a;have:=(fR c).1 (h c hc);rw[a]at this;exact absurd this.2 (by decide)
def oq{g l:Bool}{d:aa}{x s:Int}(h:okY g l d x s)(m:hasX d=false):∃k q:Nat,x=(k:Int)/\s=(q:Int)/\Num d k q:=by
 cases l with
 | true=>
  have h:okL d x s:=by simpa[okY]using h
  obtain⟨⟨b,f,v,i,w,C,B,A⟩,u,y⟩:=h;refine⟨x.toNat,s.toNat,by omega,by omega,b,by intro e;subst e;simp at f,?_,A,by omega⟩;cases d with
  | nil=>simp at f
  | cons c r=>
   have hc:=(fR c).1 (b c (by simp));have j:c≠48:=by simpa using i
   have p:1<=qW 0 c:=by
    have:c.toNat≠48:=λe=>j (hZ.1 e);show 1<=0*10+(c.toNat - 48);omega
   have z:=ER r (qW 0 c);rw[<-l7]at z;have u:10 ^ r.length<=dval 0 (c::r):=by
    have:=lz (10 ^ r.length) p;omega
   have o:=lz (10 ^ x.toNat) u;rw[<-Nat.pow_add]at o;rcases aI (r.length+x.toNat) 17 with a | n
   ·simp only[cU];omega
   ·have:=Ku n;omega
 | false=>
  have h:okS g d x s:=by simpa[okY]using h
  obtain⟨b,f,v,i,w,C,B⟩:=h;have t:∀c∈d,cD c=true:=by
   intro c hc;rcases f c hc with h | h
   ·exact h
   ·exfalso;unfold hasX at m;rw[pT]at m;exact m c hc (bI.2 h)
  have a:=nF d 0 0 t (by simp);rw[b]at a;refine⟨0,s.toNat,by omega,by omega,t,by intro e;subst e;simp at b,by omega,?_,by omega⟩;have i:(10:Nat) ^ (4+0)=10000:=by decide
  unfold E16;simp only[vZ,na];omega
def val(d:aa)(k:Nat):Nat:=dval 0 d*10 ^ k
def wk(n:Nat)(g l:Bool)(d:aa)(x s:Int)(b:200<n)(e:d.length<=100):
  dk n g l d x s=some (if okY g l d x s/\hasX d=false then(if g then -((val d x.toNat:Nat):Int)else((val d x.toNat:Nat):Int),0)else(0,6)):=by
 unfold dk;rw[AE n g l d x s b e,pD];simp only[ob];by_cases h:okY g l d x s
 ·rw[ad h];cases c:hasX d with
  | true=>rw[ab (by simp)];rfl
  | false=>
   rw[ad ⟨h,rfl⟩];obtain⟨k,q,rfl,rfl,a⟩:=oq h c;rw[Ep n g l d k q a.dig a.ne (by have:=a.wide;omega) (by have:=a.wide;omega) (by omega),ad a.small];have hs:=a.small;unfold E16 at hs;cases g with
   | true=>
    simp only[eG,af,am,cf,val,bc];rw[wrap_i64 _ (by omega) (by omega),uS]
   | false=>simp[val]
 ·rw[ab h,ab (λq=>h q.1)];rfl
def lp{a b:aa}(h:a.length+b.length<=1000000):cat a b=some (a++b):=by
 unfold cat;rw[ad (by omega)]
def cut1{l:aa}{i:Nat}{c:UInt8}(h:l[i]?=some c):List.drop i (List.take (i+1) l)=[c]:=by
 have a:=tw h;rw[oO,h,List.drop_left' (by rw[dx];omega)];rfl
def LI{l:aa}{i:Nat}{c:UInt8}(h:l[i]?=some c):List.take (i+1) l=List.take i l++[c]:=by
 rw[oO,h];rfl
def nG{g l:Bool}{d:aa}{x s:Int}(h:okY g l d x s)(a:hasX d=true):l=false/\x=0/\s=0/\d.length=4/\∀c∈d,cD c=true\/c=88:=by
 cases l with
 | true=>
  have h:okL d x s:=by simpa[okY]using h
  rw[pR h.1.1]at a;cases a
 | false=>
  have h:okS g d x s:=by simpa[okY]using h
  obtain⟨i,f,b,m,k,n,j⟩:=h;refine⟨rfl,b,?_,i,f⟩;have:¬0<s:=λe=>j ⟨e,a⟩;omega
def ko{g l:Bool}{d:aa}{x s:Int}(h:okY g l d x s):0<=x/\x<=16/\0<=s/\s<=17/\1<=d.length/\d.length<=17:=by
 cases b:hasX d with
 | true=>
  obtain⟨rfl,rfl,rfl,f,_⟩:=nG h b;omega
 | false=>
  obtain⟨k,q,rfl,rfl,a⟩:=oq h b;have j:=a.wide;have i:=a.sig;have e:1<=d.length:=by
   cases d with
   | nil=>exact absurd rfl a.ne
   | cons c r=>simp
  omega
def qP{c:UInt8}(h:48<=c.toNat/\c.toNat<=57):Lib.digitVal c=some (c.toNat - 48):=by
 unfold Lib.digitVal;rw[ad h]
def C5{c:UInt8}(h:48<=c.toNat/\c.toNat<=57)(r:aa):Lib.atoi (c::r)=(Lib.decNat (c::r)).map λ(m:Nat)=>(m:Int):=by
 have a:(c==45)=false:=by
  rw[aN];rintro rfl;exact absurd h.1 (by decide)
 have b:(c==43)=false:=by
  rw[aN];rintro rfl;exact absurd h.1 (by decide)
 simp only[Lib.atoi,a,b,cj,aG]
def Hh{c e:UInt8}(h:48<=c.toNat/\c.toNat<=57)(a:48<=e.toNat/\e.toNat<=57):Lib.atoi [c,e]=some ((10*(c.toNat - 48)+(e.toNat - 48):Nat):Int):=by
 rw[C5 h];simp only[Lib.decNat,List.isEmpty_cons,cj,aG,Lib.decFrom,qP h,qP a,ek,Nat.zero_mul,bV];rw[tH]
def isDX(c:UInt8):Bool:=cD c||c==88
def wint(c:Int):Bool:=c==24||c==28||c==30
def mT(g:Bool)(d:aa)(x:Int):Bool:=!hasX d&&!g&&decide (val d x.toNat=E16)
def yrB(g:Bool)(d:aa)(x s:Int)(m:aa):Bool:=!(decide (0<s)&&!(m==[]))&&!(wint (sea m)&&mT g d x)
def xf(n:Nat)(t:200<n)(g l:Bool)(dg:aa)(x q:Int)(m d:aa)(k0 k1 k2:Int)(A:m.length<=18)(s:dg.length<=100):
  dT n g l dg x q m d k0 k1 k2=some (if okY g l dg x q then yrB g dg x q m else false):=by
 unfold dT;rw[AE n g l dg x q t s,pK n g l dg x q m d k0 k1 k2 A,pD,wk n g l dg x q t s];by_cases h:okY g l dg x q
 rotate_left
 ·rw[ab h,ab h];rfl
 rw[ad h,ad h];have body:(ob (some (sea m,decide (0<sea m))) λr=>(cond (!r.2) (some true) (ob (some (hasX dg)) λD=>(cond D (some true) (ob (some (if okY g l dg x q/\hasX dg=false then(if g then -((val dg x.toNat:Nat):Int)else((val dg x.toNat:Nat):Int),(0:Int))else(0,6))) λv=>(ob (fC n v.1 r.1) λE=>(some (E.2.2.2.2==0))))))))=some (!(wint (sea m)&&mT g dg x)):=by
  rcases lO m with B | ⟨j,p,rfl⟩
  ·rw[B];rfl
  ·have hs:=iJ p;rw[hs];have hp:decide (0<((21+j:Nat):Int))=true:=by simp;omega
   rw[hp];cases o:hasX dg with
   | true=>
    have:mT g dg x=false:=by unfold mT;rw[o];rfl
    rw[this,AP];rfl
   | false=>
    rw[ad ⟨h,rfl⟩];obtain⟨k,G,rfl,rfl,F⟩:=oq h o;have C:val dg k<=E16:=F.small;unfold E16 at C;have hc:cV (if g then -((val dg k:Nat):Int)else((val dg k:Nat):Int)):=by
     unfold cV;cases g<;>simp<;>omega
    obtain⟨a,b,c,e,y⟩:=M4 n (by omega) hc p;simp only[ob,dD,af,cf];rw[y];simp only[aq];have w:wint ((21+j:Nat):Int)=decide (j=3\/j=7\/j=9):=by
     unfold wint;rw[uB];simp only[fP,bI,cA];omega
    have u:mT g dg (k:Int)=decide ((if g then -((val dg k:Nat):Int)else((val dg k:Nat):Int))=10000000000000000):=by
     unfold mT E16;rw[o,cf];cases g
     ·simp only[jc,kP,cj,aG,tO];omega
     ·simp;omega
    rw[w,u];by_cases f:(if g then -((val dg k:Nat):Int)else((val dg k:Nat):Int))=10000000000000000<;>by_cases i:j=3\/j=7\/j=9
    ·rw[ad ⟨f,i⟩,au f,au i];rfl
    ·rw[ab (λz=>i z.2),ar i];rfl
    ·rw[ab (λz=>f z.1),ar f,AP];rfl
    ·rw[ab (λz=>f z.1),ar f,AP];rfl
 show cond (decide (q>0)) (cond (!(m==[])) (some false) _) _=_;unfold yrB;rw[show(decide (q>0))=decide (0<q)from rfl];cases decide (0<q)with
 | false=>exact body
 | true=>
  cases(m==[])with
  | false=>rfl
  | true=>exact body
def IJ(n:Nat)(j:200<n)(g l:Bool)(dg:aa)(x q:Int)(m d:aa)(k0 k1 k2:Int)(f:dg.length<=100):
  gC n g l dg x q m d k0 k1 k2=some (if okY g l dg x q/\yrB g dg x q m=true then 1 else 0):=by
 unfold gC;rw[xU n g l dg x q j f,jp n (by omega) g l dg x q m d k0 k1 k2,l4 n g l dg x q (by omega) (by omega)];by_cases h:okY g l dg x q
 rotate_left
 ·rw[ab h,ab (show¬(okY g l dg x q/\yrB g dg x q m=true)fromλz=>h z.1)];rfl
 rw[ad h];have T:(ob (some (if hasX dg then(1:Int)else 0)) λr=>(cond (r==1) (some (1:Int)) (ob (aj n dg x) λv=>(cond (v.1==10000000000000000) (cond (!g) (some 0) (some 1)) (some 1)))))=some (if mT g dg x then 0 else 1):=by
  cases a:hasX dg with
  | true=>
   have:mT g dg x=false:=by unfold mT;rw[a];rfl
   rw[this];rfl
  | false=>
   obtain⟨k,p,rfl,rfl,b⟩:=oq h a;have i:=b.small;have o:=b.wide;have c:=gJ n dg k b.dig (by omega) (by omega) (by omega);rw[ad i]at c;show ob (aj n dg (k:Int)) _=_;rw[c];show cond (((dval 0 dg*10 ^ k:Nat):Int)==10000000000000000) _ _=_;unfold mT val;rw[a,cf];have e:(((dval 0 dg*10 ^ k:Nat):Int)==10000000000000000)=decide (dval 0 dg*10 ^ k=E16):=by
    generalize dval 0 dg*10 ^ k=v;unfold E16;rw[uB];simp only[bI,cA];omega
   rw[e];cases decide (dval 0 dg*10 ^ k=E16)<;>cases g<;>rfl
 have body:(ob (some (sea m)) λr=>(cond (r != 24) (cond (r != 28) (cond (r != 30) (some (1:Int)) (ob (some (if hasX dg then(1:Int)else 0)) λr=>(cond (r==1) (some (1:Int)) (ob (aj n dg x) λv=>(cond (v.1==10000000000000000) (cond (!g) (some 0) (some 1)) (some 1)))))) (ob (some (if hasX dg then(1:Int)else 0)) λr=>(cond (r==1) (some (1:Int)) (ob (aj n dg x) λv=>(cond (v.1==10000000000000000) (cond (!g) (some 0) (some 1)) (some 1)))))) (ob (some (if hasX dg then(1:Int)else 0)) λr=>(cond (r==1) (some (1:Int)) (ob (aj n dg x) λv=>(cond (v.1==10000000000000000) (cond (!g) (some 0) (some 1)) (some 1)))))))=some (if(!(wint (sea m)&&mT g dg x))=true then 1 else 0):=by
  rw[T];show cond (sea m != 24) _ _=_;unfold wint;simp only[bne];cases(sea m==24)<;>cases(sea m==28)<;>cases(sea m==30)<;>cases mT g dg x<;>rfl
 unfold yrB;show cond (decide (q>0)) (cond (!(m==[])) (some 0) _) _=_;rw[show(decide (q>0))=decide (0<q)from rfl];simp only[h,ie];cases decide (0<q)with
 | false=>exact body
 | true=>
  cases(m==[])with
  | false=>rfl
  | true=>exact body
def dm(m d:aa):Nat:=1+(if m==[]then 0 else 1)+(if d==[]then 0 else 1)
def wt(n:Nat)(e:100<n)(g l:Bool)(dg:aa)(x q:Int)(m d:aa)(k0 k1 k2:Int):bp n g l dg x q m d k0 k1 k2=some ((dm m d:Nat):Int):=by
 obtain⟨n,rfl⟩:∃j,n=j+3:=⟨n - 3,by omega⟩;unfold bp dm;have s0:∀a:Int,bD (n+3) (a,m,d,0)=some (.inl (if m==[]then a else wrap .i64 (a+1),m,d,1)):=λa=>by
  unfold bD;show cond (!(m==[])) _ _=_;cases(m==[])<;>rfl
 have c:∀a:Int,bD (n+3) (a,m,d,1)=some (.inl (if d==[]then a else wrap .i64 (a+1),m,d,2)):=λa=>by
  unfold bD;show cond (!(d==[])) _ _=_;cases(d==[])<;>rfl
 have b:∀a:Int,bD (n+3) (a,m,d,2)=some (.inr a):=λa=>rfl;rw[aw,s0];show ob (aw _ (n+2) _) _=_;rw[aw,c];show ob (aw _ (n+1) _) _=_;rw[aw,b];cases(m==[])<;>cases(d==[])<;>rfl
def cL(n:Nat)(g l:Bool)(dg:aa)(x q:Int)(m d:aa)(k0 k1 k2:Int):ah n g l dg x q m d k0 k1 k2=some ((dm m d:Nat):Int):=by
 unfold ah dm;cases(m==[])<;>cases(d==[])<;>rfl
def allM(a b c:Int)(k:Nat):Int:=if 3<a\/3<b\/3<c\/(k<2/\b≠0)\/(k<3/\c≠0)then 9 else 0
def J2(n:Nat)(v:3<n)(a b c:Int)(k:Nat)(t:1<=k/\k<=3)(w:0<=a)(u:0<=b)(hc:0<=c):
  ci n [a,b,c] (k:Int)=some (allM a b c k):=by
 obtain⟨j,rfl⟩:∃j,n=j+4:=⟨n - 4,by omega⟩;have m:wrap .i64 1=1:=rfl;have i:wrap .i64 2=2:=rfl;have g:wrap .i64 3=3:=rfl;have f:ix 3 0=some 0:=rfl;have e:ix 3 1=some 1:=rfl;have l:ix 3 2=some 2:=rfl;have hk':k=1\/k=2\/k=3:=by omega
 unfold allM;by_cases h:a>3
 ·rcases hk' with rfl | rfl | rfl<;>simp[ci,aw,cc,cP,ob,m,i,g,f,e,l,h]
 by_cases p:b>3
 ·rcases hk' with rfl | rfl | rfl<;>simp[ci,aw,cc,cP,ob,m,i,g,f,e,l,h,p]
 by_cases d:k=1/\b≠0
 ·obtain⟨rfl,d⟩:=d;have q:b>0:=by omega
  have r:(b != 0)=true:=by simp[d]
  simp[ci,aw,cc,cP,ob,m,i,g,f,e,l,h,p,q,d,r]
 by_cases s:c>3
 ·rcases hk' with rfl | rfl | rfl<;>(try (simp at d;subst d))<;>simp[ci,aw,cc,cP,ob,m,i,g,f,e,l,h,p,s]
 by_cases o:k<3/\c≠0
 ·have q:c>0:=by omega
  have r:(c != 0)=true:=by simp[o.2]
  rcases hk' with rfl | rfl | rfl<;>(try (simp at d;subst d))<;>simp at o<;>simp[ci,aw,cc,cP,ob,m,i,g,f,e,l,h,p,s,q,o,r]
 rcases hk' with rfl | rfl | rfl<;>(try (simp at d;subst d))<;>(try (simp at o;subst o))<;>simp[ci,aw,cc,cP,ob,m,i,g,f,e,l,h,p,s]
def LW(n:Nat)(v:3<n)(a b c:Int)(k:Nat)(t:1<=k/\k<=3)(w:0<=a)(u:0<=b)(hc:0<=c):
  ci n [a,b,c] (k:Int)=some (allM a b c k)/\bv n [a,b,c] (k:Int)=some (allM a b c k):=by
 obtain⟨j,rfl⟩:∃j,n=j+4:=⟨n - 4,by omega⟩;have m:wrap .i64 1=1:=rfl;have i:wrap .i64 2=2:=rfl;have g:wrap .i64 3=3:=rfl;have f:ix 3 0=some 0:=rfl;have e:ix 3 1=some 1:=rfl;have l:ix 3 2=some 2:=rfl;have hk':k=1\/k=2\/k=3:=by omega
 unfold allM;by_cases h:a>3
 ·rcases hk' with rfl | rfl | rfl<;>constructor<;>simp[bv,ci,aw,cB,cc,cP,ob,m,i,g,f,e,l,h]
 by_cases p:b>3
 ·rcases hk' with rfl | rfl | rfl<;>constructor<;>simp[bv,ci,aw,cB,cc,cP,ob,m,i,g,f,e,l,h,p]
 by_cases d:k=1/\b≠0
 ·obtain⟨rfl,d⟩:=d;have q:b>0:=by omega
  have r:(b != 0)=true:=by simp[d]
  constructor<;>simp[bv,ci,aw,cB,cc,cP,ob,m,i,g,f,e,l,h,p,q,d,r]
 by_cases s:c>3
 ·rcases hk' with rfl | rfl | rfl<;>(try (simp at d;subst d))<;>constructor<;>simp[bv,ci,aw,cB,cc,cP,ob,m,i,g,f,e,l,h,p,s]
 by_cases o:k<3/\c≠0
 ·have q:c>0:=by omega
  have r:(c != 0)=true:=by simp[o.2]
  rcases hk' with rfl | rfl | rfl<;>(try (simp at d;subst d))<;>simp at o<;>constructor<;>simp[bv,ci,aw,cB,cc,cP,ob,m,i,g,f,e,l,h,p,s,q,o,r]
 rcases hk' with rfl | rfl | rfl<;>(try (simp at d;subst d))<;>(try (simp at o;subst o))<;>constructor<;>simp[bv,ci,aw,cB,cc,cP,ob,m,i,g,f,e,l,h,p,s]
def ng(m d:aa):1<=dm m d/\dm m d<=3:=by
 unfold dm;cases(m==[])<;>cases(d==[])<;>simp
def yrD(g l:Bool)(dg:aa)(x q:Int)(m:aa):Bool:=if okY g l dg x q then yrB g dg x q m else false
def chkD(g l:Bool)(dg:aa)(x q:Int)(m d:aa)(k0 k1 k2:Int):Int:=
 cond (!(yrD g l dg x q m)) 6 (cond (!(m==[])&&(!(decide (0<sea m))&&!(dq m 12))) 7
  (cond (!(d==[])&&((m==[])||(decide (0<sea m)||!(dq d 31)))) 8 (allM k0 k1 k2 (dm m d))))
def Jo(m:aa):0<=sea m:=by
 rcases lO m with h | ⟨j,a,rfl⟩
 ·omega
 ·rw[iJ a];omega
def LL(m:aa):(sea m==0)=!(decide (0<sea m)):=by
 have:=Jo m;by_cases h:sea m=0
 ·rw[h];rfl
 ·have a:0<sea m:=by omega
  rw[aN.2 h,au a];rfl
def HH(n:Nat)(r:200<n)(g l:Bool)(dg:aa)(x q:Int)(m d:aa)(k0 k1 k2:Int)(a:m.length<=18)(i:dg.length<=100)(j:0<=k0)(o:0<=k1)(c:0<=k2):
  iG n g l dg x q m d k0 k1 k2=some (chkD g l dg x q m d k0 k1 k2):=by
 have hy:dT n g l dg x q m d k0 k1 k2=some (yrD g l dg x q m):=xf n r g l dg x q m d k0 k1 k2 a i;have f:co n m 12=some (dq m 12):=yn n (by omega) m 12 (by omega);have s:co n d 31=some (dq d 31):=yn n (by omega) d 31 (by omega);have u:=J2 n (by omega) k0 k1 k2 (dm m d) (ng m d) j o c;unfold iG chkD;rw[pK n g l dg x q m d k0 k1 k2 a,hy,f,s,wt n (by omega)];simp only[ob];rw[u];generalize yrD g l dg x q m=e;generalize(m==[])=k;generalize decide (0<sea m)=b;generalize dq m 12=h;generalize(d==[])=t;generalize dq d 31=p;cases e<;>cases k<;>cases b<;>cases h<;>cases t<;>cases p<;>rfl
def y4(n:Nat)(r:200<n)(g l:Bool)(dg:aa)(x q:Int)(m d:aa)(k0 k1 k2:Int)(i:dg.length<=100)(j:0<=k0)(o:0<=k1)(b:0<=k2):
  fQ n g l dg x q m d k0 k1 k2=some (chkD g l dg x q m d k0 k1 k2):=by
 have hy:gC n g l dg x q m d k0 k1 k2=some (if yrD g l dg x q m then 1 else 0):=by
  rw[IJ n r g l dg x q m d k0 k1 k2 i];unfold yrD;by_cases h:okY g l dg x q
  ·simp only[h,ie,bc]
  ·simp only[h,tD,aG];rfl
 have e:cM n m 12=some (if dq m 12 then 1 else 0):=Bl n (by omega) m 12 (by omega);have s:cM n d 31=some (if dq d 31 then 1 else 0):=Bl n (by omega) d 31 (by omega);have u:=(LW n (by omega) k0 k1 k2 (dm m d) (ng m d) j o b).2;unfold fQ chkD;rw[jp n (by omega) g l dg x q m d k0 k1 k2,hy,e,s,cL n];simp only[ob];rw[u,LL];show cond ((if yrD g l dg x q m then(1:Int)else 0)==0) _ (cond _ (cond _ (cond _ _ (cond _ (cond _ _ (cond (decide (0<sea m)) _ _)) _)) (cond _ (cond _ _ (cond (decide (0<sea m)) _ _)) _)) (cond _ (cond _ _ (cond (decide (0<sea m)) _ _)) _))=_;generalize yrD g l dg x q m=c;generalize(m==[])=k;generalize decide (0<sea m)=a;generalize dq m 12=f;generalize(d==[])=t;generalize dq d 31=p;cases c<;>cases k<;>cases a<;>cases f<;>cases t<;>cases p<;>rfl
def ym{g l:Bool}{dg:aa}{x q:Int}{m d:aa}{k0 k1 k2:Int}(h:chkD g l dg x q m d k0 k1 k2=0):yrD g l dg x q m=true/\(m=[]\/0<sea m\/dq m 12=true)/\(d=[]\/(m≠[]/\sea m=0/\dq d 31=true))/\allM k0 k1 k2 (dm m d)=0:=by
 have hs:=Jo m;unfold chkD at h;cases i:yrD g l dg x q m with
 | false=>rw[i]at h;exact absurd h (by simp)
 | true=>
  rw[i]at h;simp only[dD,af]at h;cases e:(!(m==[])&&(!(decide (0<sea m))&&!(dq m 12)))with
  | true=>rw[e]at h;exact absurd h (by simp)
  | false=>
   rw[e]at h;simp only[af]at h;cases c:(!(d==[])&&((m==[])||(decide (0<sea m)||!(dq d 31))))with
   | true=>rw[c]at h;exact absurd h (by simp)
   | false=>
    rw[c]at h;simp only[af]at h;refine⟨rfl,?_,?_,h⟩
    ·by_cases b:m=[]
     ·exact .inl b
     ·by_cases a:0<sea m
      ·exact .inr (.inl a)
      ·simp[b,a]at e;exact .inr (.inr e)
    ·by_cases b:d=[]
     ·exact .inl b
     ·by_cases a:m=[]
      ·simp[b,a]at c
      ·by_cases f:0<sea m
       ·simp[b,a,f]at c
       ·simp[b,a,f]at c;exact .inr ⟨a,by omega,c⟩
def kD{s:aa}{g:Nat}(m:g<=31)(h:dq s g=true):s.length=2/\∀c∈s,isDX c=true:=by
 unfold dq at h;obtain⟨i,j,hi⟩:=oh.1 h;have e:i<g:=ij.1 j;have dig:∀k:Nat,k<10->isDX (UInt8.ofNat (48+k))=true:=by decide
 have d:isDX 88=true:=by decide
 match s,hi with
 | [],hi=>simp[agr]at hi
 | [_],hi=>simp[agr]at hi
 | [a,b],hi=>
  refine⟨rfl,?_⟩;simp only[agr,aC,fP,bI]at hi;obtain⟨l,f⟩:=hi;intro c hc;simp only[bX,m6,oR]at hc;rcases hc with rfl | rfl
  ·rcases l with rfl | rfl
   ·exact d
   ·exact dig _ (by omega)
  ·rcases f with rfl | rfl
   ·exact d
   ·exact dig _ (by omega)
 | _::_::_::_,hi=>simp[agr]at hi
def zP{m:aa}(h:0<sea m):m.length=2/\∀c∈m,isDX c=true:=by
 rcases lO m with b | ⟨j,a,rfl⟩
 ·omega
 ·refine⟨rfl,?_⟩;have:((List.range 21).all λj=>(two (21+j)).all isDX)=true:=by decide +kernel
  have:=(ch.1 this) j (by simpa using a);exact ch.1 this
def r4{p:Nat->Bool}(h:(List.range 4).all p=true){a:Nat}(b:a<4):p a=true:=(ch.1 h) a (ij.2 b)
def inM(k:Nat)(A:Nat×Nat×Nat):Prop:=A.1<4/\A.2.1<4/\A.2.2<4/\(k<2->A.2.1=0)/\(k<3->A.2.2=0)
def LC{k:Nat}{A:Nat×Nat×Nat}(h:inM k A):allM (A.1:Int) (A.2.1:Int) (A.2.2:Int) k=0:=by
 obtain⟨d,e,c,a,b⟩:=h;unfold allM;rw[ab (by omega)]
def bt(b a:Nat):Nat:=if b=1 then a%2 else a / 2%2
def bts(b:Nat):List Nat->Nat
 | []=>0
 | x::l=>bt b x+bts b l
def hit(k b i:Nat)(c a:List Nat):Bool:=decide (0<bt b (c.getD i 0)+bts b ((a.take k).drop i))
def cutD(r:Nat)(h:r<10):List.drop r (List.take (r+1) ([48,49,50,51,52,53,54,55,56,57]:aa))=[UInt8.ofNat (48+r)]:=by
 have:∀r,r<10->List.drop r (List.take (r+1) ([48,49,50,51,52,53,54,55,56,57]:aa))=[UInt8.ofNat (48+r)]:=by decide
 exact this r h
def sH{k:Nat}(h:k<10):(UInt8.ofNat (48+k)).toNat=48+k:=by
 rw[Ag];exact oH (by omega)
def Kq(n a:Nat)(q:a<65536):∃d,iP n (a:Int)=some d/\d.length=4/\∀c∈d,cD c=true:=by
 have p:Int.tmod (a:Int) 10000=((a%10000:Nat):Int):=rfl;have h:a%10000<10000:=m9 _ (by decide);generalize a%10000=N at *;have l:Int.tdiv (N:Int) 1000=((N / 1000:Nat):Int):=rfl;have f:Int.tdiv (N:Int) 100=((N / 100:Nat):Int):=rfl;have m:Int.tdiv (N:Int) 10=((N / 10:Nat):Int):=rfl;have k:wrap .u16 ((N / 1000:Nat):Int)=((N / 1000:Nat):Int):=rk _ (by omega) (by omega);have i:wrap .u16 ((N / 100:Nat):Int)=((N / 100:Nat):Int):=rk _ (by omega) (by omega);have g:wrap .u16 ((N / 10:Nat):Int)=((N / 10:Nat):Int):=rk _ (by omega) (by omega);have m2:Int.tmod ((N / 100:Nat):Int) 10=((N / 100%10:Nat):Int):=rfl;have j:Int.tmod ((N / 10:Nat):Int) 10=((N / 10%10:Nat):Int):=rfl;have o:Int.tmod (N:Int) 10=((N%10:Nat):Int):=rfl;have s:∀r:Nat,r<10->wrap .u16 ((r:Int)+1)=((r+1:Nat):Int):=λr e=>by rw[rk _ (by omega) (by omega)];omega
 refine⟨[UInt8.ofNat (48+N / 1000),UInt8.ofNat (48+N / 100%10),UInt8.ofNat (48+N / 10%10),UInt8.ofNat (48+N%10)],?_,rfl,?_⟩
 ·simp only[iP,p,l,f,m,k,i,g,m2,j,o,s (N / 1000) (by omega),s (N / 100%10) (by omega),s (N / 10%10) (by omega),s (N%10) (by omega),eN (show N / 1000+1<=10 by omega),eN (show N / 1000<=N / 1000+1 by omega),eN (show N / 100%10+1<=10 by omega),eN (show N / 100%10<=N / 100%10+1 by omega),eN (show N / 10%10+1<=10 by omega),eN (show N / 10%10<=N / 10%10+1 by omega),eN (show N%10+1<=10 by omega),eN (show N%10<=N%10+1 by omega),ob,cutD (N / 1000) (by omega),cutD (N / 100%10) (by omega),cutD (N / 10%10) (by omega),cutD (N%10) (by omega)];rw[lp (by simp)];simp only[];rw[lp (by simp)];simp only[];rw[lp (by simp)];rfl
 ·have b:∀r:Nat,r<10->cD (UInt8.ofNat (48+r))=true:=λr e=>(fR _).2 (by rw[sH e];omega);simp only[bX,m6,oR,wI,forall_eq];exact⟨b _ (by omega),b _ (by omega),b _ (by omega),b _ (by omega)⟩
def tu(n:Nat)(g l:Bool)(d:aa)(x s:Int)(c:200<n)(e:d.length<=100)(h:okY false l d x s):∃b,(ob (bU n g l d x s) λr=>(cond (r==0) (some (false,l,d,x,s)) (some (g,l,d,x,s))))=some (b,l,d,x,s)/\okY b l d x s:=by
 rw[xU n g l d x s c e];by_cases a:okY g l d x s
 ·rw[ad a];exact⟨g,rfl,a⟩
 ·rw[ab a];exact⟨false,rfl,h⟩
def sC{d:aa}{s:Int}(g:d.length=4)(f:∀c∈d,cD c=true\/c=88)(a:0<=s)(e:s<=4)(b:¬(0<s/\hasX d=true)):okY false false d 0 s:=by
 have:okS false d 0 s:=⟨g,f,rfl,by simp,a,e,b⟩;simpa[okY]using this
def LK(n:Nat)(a b:Int)(g:Bool)(d:aa)(A:d.length=4)(r:∀c∈d,cD c=true)(B:4<n):
  ∃s:aa,aw (eg n) n (a,b,[],0,false,false,[],0,0,g,false,d,0,0)=some (s,false,false,[],0,0,g,false,d,0,0)/\s.length=4/\∀c∈s,cD c=true\/c=88:=by
 obtain⟨y,v,s,o,l,m⟩:=lZ (step:=eg n) (λx=>∃(i:Nat) (s:aa),i<=4/\s.length=i/\(∀c∈s,cD c=true\/c=88)/\x=(a,b,s,(i:Int),false,false,[],0,0,g,false,d,0,0)) (λx=>4 - x.2.2.2.1.toNat) (λy=>∃s:aa,y=(s,false,false,[],0,0,g,false,d,0,0)/\s.length=4/\∀c∈s,cD c=true\/c=88) (by
  rintro x ⟨i,s,hi,hs,hc,rfl⟩;rcases aI i 4 with j | w
  ·obtain⟨c,f⟩:∃c,d[i]?=some c:=⟨d[i],bj (by omega)⟩;have u:decide ((i:Int)<4)=true:=au (by omega);have t:wrap .i64 ((i:Int)+1)=((i+1:Nat):Int):=by rw[wrap_i64 _ (by omega) (by omega)];omega
   have next:∀e:UInt8,(cD e=true\/e=88)->∃k,some (Sum.inl (a,b,s++[e],((i+1:Nat):Int),false,false,([]:aa),(0:Int),(0:Int),g,false,d,(0:Int),(0:Int)))=some (Sum.inl (β:=aa×Bool×Bool×aa×Int×Int×Bool×Bool×aa×Int×Int) k)/\(∃(i:Nat) (s:aa),i<=4/\s.length=i/\(∀c∈s,cD c=true\/c=88)/\k=(a,b,s,(i:Int),false,false,[],0,0,g,false,d,0,0))/\4 - k.2.2.2.1.toNat<4 - i:=by
    intro e p;refine⟨_,rfl,⟨i+1,s++[e],j,by simp[hs],?_,rfl⟩,by simp only[cf];omega⟩;intro z h;rcases jW.1 h with q | q
    ·exact hc z q
    ·simp only[bX,m6,oR]at q;rw[q];exact p
   simp only[eg,u,am,t,cf,eN (show i+1<=d.length by omega),eN (show i<=i+1 by omega),ob,cut1 f];rw[lp (a:=s) (b:=[88]) (by simp;omega),lp (a:=s) (b:=[c]) (by simp;omega)];simp only[];left;cases((i:Int)==a)
   ·cases((i:Int)==b)
    ·exact next c (.inl (r c (dY f)))
    ·exact next 88 (.inr rfl)
   ·exact next 88 (.inr rfl)
  ·have:i=4:=by omega
   subst this;exact .inr ⟨_,rfl,s,rfl,hs,hc⟩) n (a,b,[],0,false,false,[],0,0,g,false,d,0,0) ⟨0,[],by omega,rfl,by simp,rfl⟩ (by simp;omega)
 exact⟨s,by rw[v,o],l,m⟩
def cut9(r:Nat)(h:r<9):List.drop r (List.take (r+1) ([49,50,51,52,53,54,55,56,57]:aa))=[UInt8.ofNat (49+r)]:=by
 have:∀r,r<9->List.drop r (List.take (r+1) ([49,50,51,52,53,54,55,56,57]:aa))=[UInt8.ofNat (49+r)]:=by decide
 exact this r h
def AG{d:aa}{x s:Nat}(b:∀c∈d,cD c=true)(h:1<=d.length)(k:d.length<=5)(g:d.head?≠some 48)(f:x<=11)(j:x=0->d.length=5)(o:s<=d.length+x):okY false true d (x:Int) (s:Int):=by
 have a:=nF d 0 0 b (by simp);have hp:(10:Nat) ^ (d.length+0)<=10 ^ 5:=iH (by decide) (by omega);have i:(10:Nat) ^ x<=10 ^ 11:=iH (by decide) f;have n:=ul (Nat.le_of_lt (lH a hp)) i;have e:(10:Nat) ^ 5*10 ^ 11=E16:=by decide
 have:okL d (x:Int) (s:Int):=⟨⟨b,h,by omega,g,by omega,by omega,by rintro⟨l,m⟩;have:=j (by omega);omega,by simp only[cf];omega⟩,by omega,by omega⟩;simpa[okY]using this
def Ei(m u K a b:Nat)(g:Bool)(h2:K<65536)(h3:a<256)(h4:b<256):∃f l d x s,gu (m+300) (u:Int) g (K:Int) (a:Int) (b:Int)=some (f,l,d,x,s)/\okY f l d x s/\d.length<=5/\x<=11/\(u%6≠3->hasX d=false):=by
 obtain⟨d,Y,h,j⟩:=Kq (m+300) K h2;have w:∀c∈d,cD c=true\/c=88:=λc hc=>.inl (j c hc);have p:=pR j;unfold gu;rw[Y];simp only[ob];cases I:(Int.tmod (u:Int) 6==3)with
 | true=>
  simp only[am];obtain⟨s,R,Q,Z⟩:=LK (m+300) (wrap .i64 (Int.tmod (a:Int) 4)) (wrap .i64 (Int.tmod (b:Int) 4)) g d h j (by omega);rw[R];obtain⟨f,k,i⟩:=tu (m+300) g false s 0 0 (by omega) (by omega) (sC Q Z (by omega) (by omega) (by omega))
  exact⟨f,false,s,0,0,k,i,by omega,by omega,λh3=>absurd (by
   have e:=bI.1 I;have e2:Int.tmod (u:Int) 6=((u%6:Nat):Int):=rfl;omega) h3⟩
 | false=>
  simp only[af];cases(Int.tmod (u:Int) 6==4)with
  | true=>
   simp only[am];have e:Int.tmod (a:Int) 4=((a%4:Nat):Int):=rfl;have w1:wrap .i64 ((a%4:Nat):Int)=((a%4:Nat):Int):=wrap_i64 _ (by omega) (by omega);have w2:wrap .i64 (1+((a%4:Nat):Int))=((1+a%4:Nat):Int):=by rw[wrap_i64 _ (by omega) (by omega)];omega
   rw[e,w1,w2];obtain⟨f,k,i⟩:=tu (m+300) g false d 0 ((1+a%4:Nat):Int) (by omega) (by omega) (sC h w (by omega) (by omega) (by rw[p];simp));exact⟨f,false,d,0,_,k,i,by omega,by omega,λ_=>p⟩
  | false=>
   simp only[af];cases(Int.tmod (u:Int) 6==5)with
   | false=>
    simp only[af];obtain⟨f,k,i⟩:=tu (m+300) g false d 0 0 (by omega) (by omega) (sC h w (by omega) (by omega) (by omega));exact⟨f,false,d,0,0,k,i,by omega,by omega,λ_=>p⟩
   | true=>
    simp only[am];have e9:Int.tmod (a:Int) 9=((a%9:Nat):Int):=rfl;have w9:wrap .u8 (((a%9:Nat):Int)+1)=((a%9+1:Nat):Int):=by rw[en _ (by omega) (by omega)];omega
    have e3:Int.tmod (b:Int) 3=((b%3:Nat):Int):=rfl;have e5:Int.tmod (b:Int) 5=((b%5:Nat):Int):=rfl;have w5:wrap .u8 (1+((b%5:Nat):Int))=((1+b%5:Nat):Int):=by rw[en _ (by omega) (by omega)];omega
    have M:Int.tdiv (b:Int) 16=((b / 16:Nat):Int):=rfl;have P:wrap .u8 ((b / 16:Nat):Int)=((b / 16:Nat):Int):=en _ (by omega) (by omega);have V:Int.tmod ((b / 16:Nat):Int) 11=((b / 16%11:Nat):Int):=rfl;have O:wrap .i64 ((b / 16%11:Nat):Int)=((b / 16%11:Nat):Int):=wrap_i64 _ (by omega) (by omega);have W:wrap .i64 (1+((b / 16%11:Nat):Int))=((1+b / 16%11:Nat):Int):=by rw[wrap_i64 _ (by omega) (by omega)];omega
    have G:Int.tdiv (a:Int) 16=((a / 16:Nat):Int):=rfl;have S:wrap .u8 ((a / 16:Nat):Int)=((a / 16:Nat):Int):=en _ (by omega) (by omega);have N:wrap .i64 ((a / 16:Nat):Int)=((a / 16:Nat):Int):=wrap_i64 _ (by omega) (by omega);have L:UInt8.ofNat (49+a%9)≠48:=by
     intro q;have:=fc UInt8.toNat q;rw[show 49+a%9=48+(1+a%9)by omega,sH (by omega)]at this;exact absurd this (by show¬48+(1+a%9)=48;omega)
    have v:cD (UInt8.ofNat (49+a%9))=true:=(fR _).2 (by rw[show 49+a%9=48+(1+a%9)by omega,sH (by omega)];omega);rw[e9,w9,eN (show a%9+1<=9 by omega)];simp only[];rw[eN (show a%9<=a%9+1 by omega)];simp only[];rw[cut9 (a%9) (by omega),lp (by simp;omega)];simp only[];generalize T:[UInt8.ofNat (49+a%9)]++d=D;have A:D.length=5:=by rw[<-T];simp[h]
    have n:∀c∈D,cD c=true:=by
     rw[<-T];intro c hc;simp only[kL,gP,bX]at hc;rcases hc with rfl | hc
     ·exact v
     ·exact j c hc
    have y:D.head?≠some 48:=by rw[<-T];simpa using L
    rw[e3,e5,w5,M,P,V,O,W,G,S,N];by_cases h33:0<b%3
    ·have U:decide (((b%3:Nat):Int)>0)=true:=au (by omega);rw[U,am,eN (show 1+b%5<=D.length by omega)];simp only[gk];generalize J:List.take (1+b%5) D=E;have hEl:E.length=1+b%5:=by rw[<-J,dx];omega
     have B:∀c∈E,cD c=true:=by rw[<-J];exactλc hc=>n c (List.mem_of_mem_take hc)
     have F:E.head?≠some 48:=by
      rw[<-J];cases D with
      | nil=>simp at A
      | cons c r=>rw[oN,qi];simpa using y
     generalize hX:1+b / 16%11=X;have z:X<=11:=by omega
     have hX1:1<=X:=by omega
     have C:wrap .i64 (wrap .i64 (((E.length:Nat):Int)+((X:Nat):Int))+1)=((E.length+X+1:Nat):Int):=by
      rw[wrap_i64 (((E.length:Nat):Int)+((X:Nat):Int)) (by omega) (by omega),wrap_i64 _ (by omega) (by omega)];omega
     have o:(((E.length+X+1:Nat):Int)==0)=false:=aN.2 (by omega);rw[C,o,af];have H:Int.tmod ((a / 16:Nat):Int) ((E.length+X+1:Nat):Int)=((a / 16%(E.length+X+1):Nat):Int):=rfl;rw[H];have t:a / 16%(E.length+X+1)<E.length+X+1:=m9 _ (by omega);generalize a / 16%(E.length+X+1)=s at t ⊢;obtain⟨f,k,i⟩:=tu (m+300) g true E ((X:Nat):Int) ((s:Nat):Int) (by omega) (by omega) (AG B (by omega) (by omega) F z (by omega) (by omega));exact⟨f,true,E,_,_,k,i,by omega,by omega,λ_=>pR B⟩
    ·have U:decide (((b%3:Nat):Int)>0)=false:=ar (by omega);rw[U,af,A];have C:wrap .i64 (wrap .i64 (((5:Nat):Int)+0)+1)=((6:Nat):Int):=by decide
     have o:(((6:Nat):Int)==0)=false:=rfl;rw[C,o,af];have H:Int.tmod ((a / 16:Nat):Int) ((6:Nat):Int)=((a / 16%6:Nat):Int):=rfl;rw[H];have t:a / 16%6<6:=m9 _ (by omega);generalize a / 16%6=s at t ⊢;obtain⟨f,k,i⟩:=tu (m+300) g true D ((0:Nat):Int) ((s:Nat):Int) (by omega) (by omega) (AG n (by omega) (by omega) y (by omega) (by omega) (by omega));exact⟨f,true,D,_,_,k,i,by omega,by omega,λ_=>pR n⟩
def LQ(m j i b f:Nat)(g:Bool)(c:i<65536)(k:b<256)(n:f<256):∃a l d x s,gu (m+300) (j:Int) g (i:Int) (b:Int) (f:Int)=some (a,l,d,x,s)/\okY a l d x s/\d.length<=5/\x<=11:=by
 obtain⟨a,l,d,x,s,e,h,o,c,_⟩:=Ei m j i b f g c k n;exact⟨a,l,d,x,s,e,h,o,c⟩
structure OkD(g l:Bool)(dg:aa)(x q:Nat)(m d:aa)(k0 k1 k2:Nat):Prop where
 yr:okY g l dg (x:Int) (q:Int)
 x16:x<=16
 q17:q<=17
 dg17:dg.length<=17
 noM:0<q->m=[]
 mon:m=[]\/(m.length=2/\∀c∈m,isDX c=true)
 day:d=[]\/(m≠[]/\d.length=2/\∀c∈d,isDX c=true)
 m0:k0<4
 m1:k1<4
 m2:k2<4
 z1:dm m d<2->k1=0
 z2:dm m d<3->k2=0
def N8{g l:Bool}{dg:aa}{x q:Int}{m d:aa}{k0 k1 k2:Int}(w:0<=k0)(v:0<=k1)(B:0<=k2)(h:chkD g l dg x q m d k0 k1 k2=0):
  ∃o p a b c:Nat,x=(o:Int)/\q=(p:Int)/\k0=(a:Int)/\k1=(b:Int)/\k2=(c:Int)/\OkD g l dg o p m d a b c:=by
 obtain⟨hy,f,i,n⟩:=ym h;unfold yrD at hy;by_cases e:okY g l dg x q
 rotate_left
 ·rw[ab e]at hy;cases hy
 rw[ad e]at hy;obtain⟨r,y,t,A,u,s⟩:=ko e;have hk':¬(3<k0\/3<k1\/3<k2\/(dm m d<2/\k1≠0)\/(dm m d<3/\k2≠0)):=by
  intro z;unfold allM at n;rw[ad z]at n;exact absurd n (by decide)
 refine⟨x.toNat,q.toNat,k0.toNat,k1.toNat,k2.toNat,by omega,by omega,by omega,by omega,by omega,?_⟩;rw[<-BC r,<-BC t]at e;refine⟨e,by omega,by omega,s,?_,?_,?_,by omega,by omega,by omega,by omega,by omega⟩
 ·intro C;unfold yrB at hy;have hq':decide (0<q)=true:=by simp;omega
  rw[hq']at hy;by_cases j:m=[]
  ·exact j
  ·have:(m==[])=false:=aN.2 j;rw[this]at hy;simp at hy
 ·rcases f with f | f | f
  ·exact .inl f
  ·exact .inr (zP f)
  ·exact .inr (kD (by omega) f)
 ·rcases i with i | ⟨i,_,k⟩
  ·exact .inl i
  ·have:=kD (show 31<=31 by omega) k;exact .inr ⟨i,this.1,this.2⟩
def monT(j:Nat):aa:=if j=0 then[]else if j<=12 then two j else if j<=33 then two (j+8)else([[48,88],[49,88],[88,50],[88,88],[88,48],[88,57]]:List (aa)).getD (j - 34) []
def OW(m:aa):Nat:=if m=[48,50]then 28 else if m=[48,52]\/m=[48,54]\/m=[48,57]\/m=[49,49]\/m=[88,57]then 30 else 31
def dayT(j:Nat)(m:aa):aa:=if j=0 then[]else if j<=31 then two (min j (OW m))else if m=[48,50]/\j=35 then[50,88]else([[48,88],[49,88],[50,88],[51,88],[88,48],[88,49],[88,88],[88,56]]:List (aa)).getD (j - 32) []
def r40{p:Nat->Bool}(h:(List.range 40).all p=true){a:Nat}(b:a<40):p a=true:=(ch.1 h) a (ij.2 b)
noncomputable def JA(m:Nat)(g:Int)(c:Bool)(i b d a h f e:Int)(j:Nat):Bool:=ee (m+300) g c i b d (j:Int) a h f e==some (monT j)
def En(m:Nat)(g:Int)(c:Bool)(i b d a h f e:Int):((List.range 40).all λj=>JA m g c i b d a h f e j)=true:=by kernel_rfl
def K8(a:Nat)(h:a<256):wrap .i64 (Int.tmod (a:Int) 40)=((a%40:Nat):Int):=by
 have:Int.tmod (a:Int) 40=((a%40:Nat):Int):=rfl;rw[this,wrap_i64 _ (by omega) (by omega)]
def I7(j:Nat)(h:j<40):wrap .i64 (Int.tmod (j:Int) 40)=((j:Nat):Int):=by
 rw[K8 j (by omega)];have:j%40=j:=by omega
 rw[this]
def uK(m:Nat)(n:Int)(e:Bool)(l d f:Int)(b:Nat)(c k i g:Int)(h:b<256):ee (m+300) n e l d f (b:Int) c k i g=some (monT (b%40)):=by
 have j:b%40<40:=by omega
 have a:=r40 (En m n e l d f c k i g) j;unfold JA at a;have a:=bI.1 a;unfold ee at a ⊢;rw[I7 _ j]at a;rw[K8 _ h];exact a
def GG{j:Nat}(h:j<40):monT j=[]\/0<sea (monT j)\/(sea (monT j)=0/\dq (monT j) 12=true):=by
 have:((List.range 40).all λj=>decide (monT j=[])||(decide (0<sea (monT j))||(decide (sea (monT j)=0)&&dq (monT j) 12)))=true:=by decide +kernel
 have:=r40 this h;simpa using this
def xF{j:Nat}(h:j<40)(hs:sea (monT j)=0)(a:monT j≠[]):monT j∈((List.range 12).map λi=>two (i+1))++[[48,88],[49,88],[88,50],[88,88],[88,48],[88,57]]:=by
 have:((List.range 40).all λj=>!decide (sea (monT j)=0)||(decide (monT j=[])||decide (monT j∈((List.range 12).map λi=>two (i+1))++[[48,88],[49,88],[88,50],[88,88],[88,48],[88,57]])))=true:=by decide +kernel
 have:=r40 this h;rw[au hs,ar a]at this;simpa using this
noncomputable def Jb(m:Nat)(h:Int)(d:Bool)(k c e b i g f:Int)(a:aa)(j:Nat):Bool:=fM (m+300) h d k c e b (j:Int) i g f a==some (dayT j a)
def FP(m:Nat)(h:Int)(d:Bool)(l b e a k g f:Int):((((List.range 12).map λi=>two (i+1))++[[48,88],[49,88],[88,50],[88,88],[88,48],[88,57]]).all λc=>(List.range 40).all λj=>Jb m h d l b e a k g f c j)=true:=by kernel_rfl
def CS(m:Nat)(p:Int)(f:Bool)(o e g d:Int)(b:Nat)(n k j:Int)(c:aa)(q:c∈((List.range 12).map λi=>two (i+1))++[[48,88],[49,88],[88,50],[88,88],[88,48],[88,57]])(h:b<256):fM (m+300) p f o e g d (b:Int) n k j c=some (dayT (b%40) c):=by
 have l:b%40<40:=by omega
 have a:=r40 ((ch.1 (FP m p f o e g d n k j)) c q) l;unfold Jb at a;have a:=bI.1 a;unfold fM at a ⊢;rw[I7 _ l]at a;rw[K8 _ h];exact a
def EA{j:Nat}(h:j<40){a:aa}(b:a∈((List.range 12).map λi=>two (i+1))++[[48,88],[49,88],[88,50],[88,88],[88,48],[88,57]]):dayT j a=[]\/dq (dayT j a) 31=true:=by
 have:((((List.range 12).map λi=>two (i+1))++[[48,88],[49,88],[88,50],[88,88],[88,48],[88,57]]).all λa=>(List.range 40).all λj=>decide (dayT j a=[])||dq (dayT j a) 31)=true:=by decide +kernel
 have:=r40 ((ch.1 this) a b) h;simpa using this
def mksT(k a b c:Nat):Nat×Nat×Nat:=(a%4,if 1<k then b%4 else 0,if 2<k then c%4 else 0)
def tf(k a b c:Nat):allM ((mksT k a b c).1:Int) ((mksT k a b c).2.1:Int) ((mksT k a b c).2.2:Int) k=0:=by
 apply LC;refine⟨by simp only[mksT];omega,?_,?_,?_,?_⟩
 ·simp only[mksT];split<;>omega
 ·simp only[mksT];split<;>omega
 ·intro h;simp only[mksT];rw[ab (by omega)]
 ·intro h;simp only[mksT];rw[ab (by omega)]
def Bf{g l:Bool}{d:aa}{x s:Int}(h:okY g l d x s)(c:d.length<=5)(i:x<=11):mT g d x=false:=by
 unfold mT;cases f:hasX d with
 | true=>rfl
 | false=>
  obtain⟨k,q,rfl,rfl,j⟩:=oq h f;have a:=nF d 0 0 j.dig (by decide);rw[eJ]at a;have m:dval 0 d<10 ^ 5:=lH a (iH (by omega) c);have b:10 ^ k<=10 ^ 11:=iH (by omega) (by omega);have e:val d k≠E16:=by
   unfold val E16;have:dval 0 d*10 ^ k<=99999*10 ^ 11:=ul (by omega) b;omega
  rw[cf,ar e];simp
def yy{g l:Bool}{dg:aa}{x q:Int}{m d:aa}{k0 k1 k2:Int}(h:okY g l dg x q)(e:mT g dg x=false)(o:0<q->m=[])(k:m=[]\/0<sea m\/(sea m=0/\dq m 12=true))(j:d=[]\/(m≠[]/\sea m=0/\dq d 31=true))(c:allM k0 k1 k2 (dm m d)=0):chkD g l dg x q m d k0 k1 k2=0:=by
 have hy:yrD g l dg x q m=true:=by
  unfold yrD yrB;rw[ad h,e];by_cases a:0<q
  ·rw[o a];simp
  ·simp[a]
 unfold chkD;rw[hy,c];have i:(!(m==[])&&(!(decide (0<sea m))&&!(dq m 12)))=false:=by
  rcases k with h | h | ⟨_,h⟩
  ·rw[h];rfl
  ·rw[au h];simp
  ·rw[h];simp
 have p:(!(d==[])&&((m==[])||(decide (0<sea m)||!(dq d 31))))=false:=by
  rcases j with h | ⟨n,f,b⟩
  ·rw[h];rfl
  ·rw[aN.2 n,f,b];simp
 rw[i,p];rfl
def minL(a:Nat):Nat:=if a=2 then 28 else if a=4\/a=6\/a=9\/a=11 then 30 else 31
def fitD(a d:aa):Bool:=(List.range' 1 12).any λi=>agr a i&&(List.range' 1 (minL i)).any (agr d)
def KC:((((List.range 12).map λi=>two (i+1))++[[48,88],[49,88],[88,50],[88,88],[88,48],[88,57]]).all λa=>(List.range 40).all λj=>(dayT j a==[])||fitD a (dayT j a))=true:=by decide +kernel
def Az{j:Nat}(h:j<40){a:aa}(b:a∈((List.range 12).map λi=>two (i+1))++[[48,88],[49,88],[88,50],[88,88],[88,48],[88,57]]):dayT j a=[]\/fitD a (dayT j a)=true:=by
 have:=r40 ((ch.1 KC) a b) h;simp only[fP,bI]at this;exact this
def Nh(m O K G J A y i j n:Nat)(g:Bool)(I:K<65536)(Z:G<256)(X:J<256)(h5:A<256)(Y:y<256)(h7:i<256)(h8:j<256)(h9:n<256):
  ∃k l dg x q f d k0 k1 k2,aE (m+300) (O:Int) g (K:Int) (G:Int) (J:Int) (A:Int) (y:Int) (i:Int) (j:Int) (n:Int)=some (k,l,dg,((x:Nat):Int),((q:Nat):Int),f,d,((k0:Nat):Int),((k1:Nat):Int),((k2:Nat):Int))/\chkD k l dg (x:Int) (q:Int) f d (k0:Int) (k1:Int) (k2:Int)=0/\OkD k l dg x q f d k0 k1 k2/\(d=[]\/fitD f d=true):=by
 obtain⟨k,l,dg,x,q,e,C,N,F⟩:=LQ m O K G J g I Z X;have L:=Bf C N F;obtain⟨s1,s2,s3,s4,s5,s6⟩:=ko C
 suffices H:∃f d,aE (m+300) (O:Int) g (K:Int) (G:Int) (J:Int) (A:Int) (y:Int) (i:Int) (j:Int) (n:Int)=some (k,l,dg,x,q,f,d,((mksT (dm f d) i j n).1:Int),((mksT (dm f d) i j n).2.1:Int),((mksT (dm f d) i j n).2.2:Int))/\chkD k l dg x q f d ((mksT (dm f d) i j n).1:Int) ((mksT (dm f d) i j n).2.1:Int) ((mksT (dm f d) i j n).2.2:Int)=0/\(d=[]\/fitD f d=true)by
  obtain⟨f,d,h1,I,V⟩:=H;obtain⟨x',W,a,b,c,U,T,R,P,S,M⟩:=N8 (by omega) (by omega) (by omega) I;subst U T;refine⟨k,l,dg,x',W,f,d,a,b,c,?_,?_,M,V⟩
  ·rw[h1,R,P,S]
  ·rw[<-R,<-P,<-S];exact I
 have t7:Int.tmod (i:Int) 4=((i%4:Nat):Int):=rfl;have t8:Int.tmod (j:Int) 4=((j%4:Nat):Int):=rfl;have t9:Int.tmod (n:Int) 4=((n%4:Nat):Int):=rfl;have p:∀(f d:aa) (o:Option (Bool×Bool×aa×Int×Int×aa×aa×Int×Int×Int)),
   (ob (ah (m+300) k l dg x q f d 0 0 0) λr=>(cond (decide ((0:Int)<r)) (ob (ah (m+300) k l dg x q f d (Int.tmod (i:Int) 4) 0 0) λr=>(cond (decide ((1:Int)<r)) (ob (ah (m+300) k l dg x q f d (Int.tmod (i:Int) 4) (Int.tmod (j:Int) 4) 0) λr=>(cond (decide ((2:Int)<r)) (ob (ah (m+300) k l dg x q f d (Int.tmod (i:Int) 4) (Int.tmod (j:Int) 4) (Int.tmod (n:Int) 4)) λr=>(cond (decide ((3:Int)<r)) none (some (k,l,dg,x,q,f,d,(Int.tmod (i:Int) 4),(Int.tmod (j:Int) 4),(Int.tmod (n:Int) 4))))) (some (k,l,dg,x,q,f,d,(Int.tmod (i:Int) 4),(Int.tmod (j:Int) 4),0)))) (some (k,l,dg,x,q,f,d,(Int.tmod (i:Int) 4),0,0)))) (some (k,l,dg,x,q,f,d,0,0,0))))=some (k,l,dg,x,q,f,d,((mksT (dm f d) i j n).1:Int),((mksT (dm f d) i j n).2.1:Int),((mksT (dm f d) i j n).2.2:Int)):=by
  intro f d _;have hc:=ng f d;have:dm f d=1\/dm f d=2\/dm f d=3:=by omega
  rw[cL,cL,cL,cL];rcases this with h | h | h<;>rw[h]<;>rfl
 unfold aE;rw[e];simp only[ob,d4];rw[gH];by_cases Q:q=0
 ·rw[ad Q];rw[uK m _ _ _ _ _ A _ _ _ _ h5];have D:A%40<40:=by omega
  have w:=GG D;have E:=xF D;generalize monT (A%40)=f at w E ⊢;show ∃u d,cond (!(f==[])) _ _=_/\_;by_cases s:f=[]
  ·subst s;refine⟨[],[],p [] [] none,?_,.inl rfl⟩;exact yy C L (λ_=>rfl) (.inl rfl) (.inl rfl) (tf _ _ _ _)
  ·rw[aN.2 s];show ∃u d,ob (aH (m+300) k l dg x q f [] 0 0 0) _=_/\_;rw[jp (m+300) (by omega)];show ∃u d,cond (sea f==0) _ _=_/\_;rw[gH];by_cases hs:sea f=0
   ·rw[ad hs];have v:=E hs s;rw[CS m _ _ _ _ _ _ y _ _ _ f v Y];have B:=EA (show y%40<40 by omega) v;have t:=Az (show y%40<40 by omega) v;generalize dayT (y%40) f=d at B t ⊢;refine⟨f,d,p f d none,?_,t⟩;refine yy C L (λz=>by omega) w ?_ (tf _ _ _ _);rcases B with B | B
    ·exact .inl B
    ·exact .inr ⟨s,hs,B⟩
   ·rw[ab hs];refine⟨f,[],p f [] none,?_,.inl rfl⟩;exact yy C L (λz=>by omega) w (.inl rfl) (tf _ _ _ _)
 ·rw[ab Q];refine⟨[],[],p [] [] none,?_,.inl rfl⟩;exact yy C L (λ_=>rfl) (.inl rfl) (.inl rfl) (tf _ _ _ _)
def Fh(n:Nat)(g l:Bool)(dg:aa)(x q:Int)(m d:aa)(k0 k1 k2:Int)(a:m.length<=18):aX n g l dg x q m d k0 k1 k2=some (if d=[]then(if 0<sea m then 0 else if m=[]then 1 else 2)else 3):=by
 unfold aX;rw[pK n g l dg x q m d k0 k1 k2 a];by_cases b:d=[]
 ·rw[ad b,b];show cond (decide (0<sea m)) _ _=_;rw[bP];by_cases hs:0<sea m
  ·rw[ad hs,ad hs]
  ·rw[ab hs,ab hs];by_cases a:m=[]
   ·rw[ad a,a];rfl
   ·rw[ab a,aN.2 a];rfl
 ·rw[ab b,aN.2 b];rfl
def rJ(a b:aa):hasX (a++b)=(hasX a||hasX b):=by unfold hasX;rw[List.any_append]
def yC(n:Nat)(g l:Bool)(dg:aa)(x q:Int)(m d:aa)(k0 k1 k2:Int)(b:m.length<=1000)(a:dg.length<=1000)(h:d.length<=1000):
  d5 n g l dg x q m d k0 k1 k2=some (hasX dg||(hasX m||hasX d)):=by
 unfold d5;rw[lp (by omega)];simp only[ob];rw[lp (by simp only[gv];omega)];simp only[ob];rw[yc,rJ,rJ,Bool.or_assoc]
def wy(d:aa)(k q:Nat):Nat×Nat:=if 0<q then(val d k / 10 ^ (d.length+k - q)*10 ^ (d.length+k - q),min (val d k / 10 ^ (d.length+k - q)*10 ^ (d.length+k - q)+10 ^ (d.length+k - q) - 1) E16)else(val d k,val d k)
def sgn(g:Bool)(p:Nat×Nat):Int×Int:=if g then(-(p.2:Int),-(p.1:Int))else((p.1:Int),(p.2:Int))
def yJ(n:Nat)(g l:Bool)(d:aa)(k q:Nat)(F:200<n)(r:d.length<=100)(e:Num d k q):
  aF n g l d (k:Int) (q:Int)=some (sgn g (wy d k q)):=by
 have E:=e.wide;have hs:=e.small;have C:=e.sig;unfold aF;rw[l4 n g l d k q (by omega) (by omega),pR e.dig,gJ n d k e.dig r (by omega) (by omega),ad hs];have w:dval 0 d*10 ^ k=val d k:=rfl;rw[w]at hs ⊢;unfold E16 at hs;have h:((if false=true then(1:Int)else 0)==1)=false:=rfl;simp only[ob,h,af];by_cases m:0<q
 ·have f:decide ((q:Int)>0)=true:=au (by omega);have w0:wrap .i64 (wrap .i64 (((d.length:Nat):Int)+(k:Int)) - (q:Int))=((d.length+k - q:Nat):Int):=by
   rw[wrap_i64 (((d.length:Nat):Int)+(k:Int)) (by omega) (by omega),wrap_i64 _ (by omega) (by omega)];omega
  have s:10 ^ (d.length+k - q)<=10 ^ 16:=iH (by decide) (by omega);have z:(10:Nat) ^ 16=10000000000000000:=by decide
  have one:dval 0 [49]=1:=by decide
  have a:dval 0 [49]*10 ^ (d.length+k - q)<=E16:=by rw[one];unfold E16;omega
  rw[f,w0,gJ n [49] (d.length+k - q) (by decide) (by decide) (by omega) (by simp;omega),ad a,one,rL];simp only[am];have D:1<=10 ^ (d.length+k - q):=vQ _ _ (by decide);unfold sgn wy;rw[ad m];clear a;generalize 10 ^ (d.length+k - q)=u at *;generalize val d k=v at *;have x:(((u:Nat):Int)==0)=false:=aN.2 (by omega);have b:Int.tdiv ((v:Nat):Int) ((u:Nat):Int)=((v / u:Nat):Int):=rfl;have y:v / u*u<=v:=zu v u;have i:v / u<=v:=Aa v u;have B:wrap .i64 ((v / u:Nat):Int)=((v / u:Nat):Int):=by
   generalize v / u=t at *;exact wrap_i64 _ (by omega) (by omega)
  have p:wrap .i64 (((v / u:Nat):Int)*((u:Nat):Int))=((v / u*u:Nat):Int):=by
   rw[<-Au];exact wrap_i64 _ (by omega) (by omega)
  rw[x,af,b,B,p];generalize v / u*u=lo at *;have A:wrap .i64 (wrap .i64 (((lo:Nat):Int)+((u:Nat):Int)) - 1)=((lo+u - 1:Nat):Int):=by
   rw[wrap_i64 (((lo:Nat):Int)+((u:Nat):Int)) (by omega) (by omega),wrap_i64 _ (by omega) (by omega)];omega
  rw[A];have c:(cond (decide ((10000000000000000:Int)<((lo+u - 1:Nat):Int))) (10000000000000000:Int) ((lo+u - 1:Nat):Int))=((min (lo+u - 1) E16:Nat):Int):=by
   unfold E16;by_cases j:(10000000000000000:Int)<((lo+u - 1:Nat):Int)
   ·rw[au j,am];omega
   ·rw[ar j,af];omega
  rw[c];have o:min (lo+u - 1) E16<=10000000000000000:=zW _ _;generalize min (lo+u - 1) E16=hi at *;cases g with
  | true=>
   simp only[am,bc];rw[wrap_i64 _ (by omega) (by omega),wrap_i64 _ (by omega) (by omega),uS,uS]
  | false=>simp
 ·have f:decide ((q:Int)>0)=false:=ar (by omega);rw[f,af];unfold sgn wy;rw[ab m];cases g with
  | true=>
   simp only[am,bc];rw[wrap_i64 _ (by omega) (by omega),uS]
  | false=>simp
def dn(z:UInt8)(d:aa):aa:=d.map λc=>if c=88 then z else c
def gq(z:UInt8)(d:aa):(dn z d).length=d.length:=by simp[dn]
def ny{z:UInt8}(e:cD z=true){d:aa}(h:∀c∈d,cD c=true\/c=88):∀c∈dn z d,cD c=true:=by
 intro c hc;obtain⟨b,a,rfl⟩:=da.1 hc;by_cases hx:b=88
 ·rw[ad hx];exact e
 ·rw[ab hx];exact(h b a).resolve_right hx
def rN{z:UInt8}{d:aa}{i:Nat}{c:UInt8}(h:d[i]?=some c):(dn z d)[i]?=some (if c=88 then z else c):=by
 simp[dn,h]
def pS(d:aa):Nat:=10 ^ (d.reverse.takeWhile (λc=>c != 88)).length
def iy(g:Bool)(d:aa):Nat×Nat:=(if g=true/\dval 0 (dn 48 d)=0 then pS d else dval 0 (dn 48 d),dval 0 (dn 57 d))
def JS(m:Nat):aF (m+300) true false [48,48,48,88] 0 0=some (sgn true (iy true [48,48,48,88])):=by kernel_rfl
def Lj(m:Nat):aF (m+300) true false [48,48,88,48] 0 0=some (sgn true (iy true [48,48,88,48])):=by kernel_rfl
def KJ(m:Nat):aF (m+300) true false [48,48,88,88] 0 0=some (sgn true (iy true [48,48,88,88])):=by kernel_rfl
def JW(m:Nat):aF (m+300) true false [48,88,48,48] 0 0=some (sgn true (iy true [48,88,48,48])):=by kernel_rfl
def J5(m:Nat):aF (m+300) true false [48,88,48,88] 0 0=some (sgn true (iy true [48,88,48,88])):=by kernel_rfl
def LD(m:Nat):aF (m+300) true false [48,88,88,48] 0 0=some (sgn true (iy true [48,88,88,48])):=by kernel_rfl
def Lo(m:Nat):aF (m+300) true false [48,88,88,88] 0 0=some (sgn true (iy true [48,88,88,88])):=by kernel_rfl
def JM(m:Nat):aF (m+300) true false [88,48,48,48] 0 0=some (sgn true (iy true [88,48,48,48])):=by kernel_rfl
def Ll(m:Nat):aF (m+300) true false [88,48,48,88] 0 0=some (sgn true (iy true [88,48,48,88])):=by kernel_rfl
def KA(m:Nat):aF (m+300) true false [88,48,88,48] 0 0=some (sgn true (iy true [88,48,88,48])):=by kernel_rfl
def H4(m:Nat):aF (m+300) true false [88,48,88,88] 0 0=some (sgn true (iy true [88,48,88,88])):=by kernel_rfl
def HM(m:Nat):aF (m+300) true false [88,88,48,48] 0 0=some (sgn true (iy true [88,88,48,48])):=by kernel_rfl
def Ip(m:Nat):aF (m+300) true false [88,88,48,88] 0 0=some (sgn true (iy true [88,88,48,88])):=by kernel_rfl
def Ij(m:Nat):aF (m+300) true false [88,88,88,48] 0 0=some (sgn true (iy true [88,88,88,48])):=by kernel_rfl
def Il(m:Nat):aF (m+300) true false [88,88,88,88] 0 0=some (sgn true (iy true [88,88,88,88])):=by kernel_rfl
def xy{d:aa}(j:d.length=4)(h:∀c∈d,cD c=true\/c=88)(i:dval 0 (dn 48 d)=0):∀c∈d,c=48\/c=88:=by
 match d,j with
 | [a,b,c,e],_=>
  have f:=ny (z:=48) (by decide) h;have k:dval 0 (dn 48 [a,b,c,e])=((((0*10+((if a=88 then(48:UInt8)else a).toNat - 48))*10+((if b=88 then(48:UInt8)else b).toNat - 48))*10+((if c=88 then(48:UInt8)else c).toNat - 48))*10+((if e=88 then(48:UInt8)else e).toNat - 48)):=by
   simp only[dn,fb,List.map_nil,l7,me,qW]
  rw[k]at i;have key:∀x:UInt8,cD (if x=88 then(48:UInt8)else x)=true->(if x=88 then(48:UInt8)else x).toNat - 48=0->x=48\/x=88:=by
   intro x hx l;by_cases g:x=88
   ·exact .inr g
   ·rw[ab g]at hx l;have:=(fR x).1 hx;exact .inl (hZ.1 (by show x.toNat=48;omega))
  simp only[dn,fb,List.map_nil,bX,m6,oR,wI,forall_eq]at f ⊢;exact⟨key a f.1 (by omega),key b f.2.1 (by omega),key c f.2.2.1 (by omega),key e f.2.2.2 (by omega)⟩
def uA{d:aa}(l:d.length=4)(h:∀c∈d,c=48\/c=88)(q:hasX d=true)(P:aa->Prop)(s:P [48,48,48,88])(y:P [48,48,88,48])(p:P [48,48,88,88])(u:P [48,88,48,48])(r:P [48,88,48,88])(v:P [48,88,88,48])(t:P [48,88,88,88])(z:P [88,48,48,48])(m:P [88,48,48,88])(n:P [88,48,88,48])(i:P [88,48,88,88])(k:P [88,88,48,48])(j:P [88,88,48,88])(g:P [88,88,88,48])(f:P [88,88,88,88]):P d:=by
 match d,l with
 | [a,b,c,e],_=>
  simp only[bX,m6,oR,wI,forall_eq]at h;obtain⟨o,w,hc,x⟩:=h;rcases o with rfl | rfl<;>rcases w with rfl | rfl<;>rcases hc with rfl | rfl<;>rcases x with rfl | rfl
  ·exact absurd q (by decide)
  ·exact s
  ·exact y
  ·exact p
  ·exact u
  ·exact r
  ·exact v
  ·exact t
  ·exact z
  ·exact m
  ·exact n
  ·exact i
  ·exact k
  ·exact j
  ·exact g
  ·exact f
def zi(n:Nat)(g l:Bool)(d:aa)(x s:Int)(o:d.length=4)(p:4<n):aw (ec n) n ([],[],0,g,l,d,x,s)=some (dn 48 d,dn 57 d,g,l,d,x,s):=by
 refine fL (step:=ec n) (λq=>∃i:Nat,i<=4/\q=((dn 48 d).take i,(dn 57 d).take i,(i:Int),g,l,d,x,s)) (λq=>4 - q.2.2.1.toNat) (λ_=>(dn 48 d,dn 57 d,g,l,d,x,s)) ?_ n _ ⟨0,by omega,by simp⟩ (by simp;omega);rintro q ⟨i,hi,rfl⟩;rcases aI i 4 with h | m
 ·obtain⟨c,hc⟩:∃c,d[i]?=some c:=⟨d[i],bj (by omega)⟩;have b:=LI (rN (z:=48) hc);have f:=LI (rN (z:=57) hc);have k:decide ((i:Int)<4)=true:=au (by omega);have j:wrap .i64 ((i:Int)+1)=((i+1:Nat):Int):=by rw[wrap_i64 _ (by omega) (by omega)];omega
  refine .inl ⟨((dn 48 d).take (i+1),(dn 57 d).take (i+1),((i+1:Nat):Int),g,l,d,x,s),?_,⟨i+1,by omega,rfl⟩,by simp only[cf];omega,rfl⟩;simp only[ec,k,am,j,eN (show i+1<=d.length by omega),eN (show i<=i+1 by omega),ob,cut1 hc];have a:∀z:UInt8,((dn z d).take i).length<=4:=λz=>by rw[dx];omega
  rw[b,f];by_cases hx:c=88
  ·have e:(([c]:aa)==[88])=true:=by rw[hx];rfl
   rw[e,am,ad hx,ad hx,lp (by have:=a 48;simp;omega),lp (by have:=a 57;simp;omega)]
  ·have e:(([c]:aa)==[88])=false:=by
    rw[aN];intro e;exact hx (by simpa using e)
   rw[e,af,ab hx,ab hx,lp (by have:=a 48;simp;omega),lp (by have:=a 57;simp;omega)]
 ·have:i=4:=by omega
  subst this;refine .inr ?_;rw[gg (by rw[gq];omega),gg (by rw[gq];omega)];rfl
def Dh{d:aa}(h:d=[48,48,48,48]):dval 0 d=0:=by rw[h];decide
def wq(m:Nat)(g:Bool)(d:aa)(h:okY g false d 0 0)(l:hasX d=true):aF (m+300) g false d 0 0=some (sgn g (iy g d)):=by
 obtain⟨_,_,_,j,k⟩:=nG h l;by_cases f:g=true/\dval 0 (dn 48 d)=0
 ·obtain⟨rfl,f⟩:=f;exact uA j (xy j k f) l (λd=>aF (m+300) true false d 0 0=some (sgn true (iy true d))) (JS m) (Lj m) (KJ m) (JW m) (J5 m) (LD m) (Lo m) (JM m) (Ll m) (KA m) (H4 m) (HM m) (Ip m) (Ij m) (Il m)
 ·have hs:iy g d=(dval 0 (dn 48 d),dval 0 (dn 57 d)):=by unfold iy;rw[ab f]
  have i:=ny (z:=48) (by decide) k;have c:=ny (z:=57) (by decide) k;have p:=nF (dn 48 d) 0 0 i (by simp);have o:=nF (dn 57 d) 0 0 c (by simp);rw[gq,j]at p o;have r:(10:Nat) ^ (4+0)=10000:=by decide
  have m1:aj (m+300) (dn 48 d) 0=some (((dval 0 (dn 48 d):Nat):Int),1):=by
   have:=gJ (m+300) (dn 48 d) 0 i (by rw[gq];omega) (by omega) (by rw[gq];omega);rw[ad (by unfold E16;simp only[vZ,na];omega)]at this;simpa using this
  have m2:aj (m+300) (dn 57 d) 0=some (((dval 0 (dn 57 d):Nat):Int),1):=by
   have:=gJ (m+300) (dn 57 d) 0 c (by rw[gq];omega) (by omega) (by rw[gq];omega);rw[ad (by unfold E16;simp only[vZ,na];omega)]at this;simpa using this
  have q:((if true=true then(1:Int)else 0)==1)=true:=rfl;have n:decide ((0:Int)>0)=false:=rfl;unfold aF;rw[l4 _ g false d 0 0 (by omega) (by omega),l,zi _ g false d 0 0 j (by omega),hs];simp only[ob,bc,BEq.rfl,am];cases g with
  | true=>
   have e:(dn 48 d==([48,48,48,48]:aa))=false:=by
    rw[aN];intro e;exact f ⟨rfl,Dh e⟩
   simp only[am,e,af,m1,m2,n,sgn,bc];generalize dval 0 (dn 48 d)=a at *;generalize dval 0 (dn 57 d)=b at *;rw[wrap_i64 _ (by omega) (by omega),wrap_i64 _ (by omega) (by omega),uS,uS]
  | false=>simp only[af,m1,m2,n,sgn,cj,aG]
def kJ(g:Bool)(d:aa)(x s:Int):Nat×Nat:=if hasX d then iy g d else wy d x.toNat s.toNat
def G8(m:Nat)(g l:Bool)(d:aa)(x s:Int)(c:d.length<=100)(h:okY g l d x s):aF (m+300) g l d x s=some (sgn g (kJ g d x s)):=by
 unfold kJ;cases a:hasX d with
 | true=>
  obtain⟨rfl,rfl,rfl,f,b⟩:=nG h a;exact wq m g d h a
 | false=>
  obtain⟨k,q,rfl,rfl,e⟩:=oq h a;exact yJ _ g l d k q (by omega) c e
def K6{d:aa}{k q:Nat}(h:Num d k q):(wy d k q).1<=val d k/\val d k<=(wy d k q).2/\(wy d k q).2<=E16:=by
 have hs:=h.small;have c:dval 0 d*10 ^ k=val d k:=rfl;rw[c]at hs;unfold wy;split
 ·have a:1<=10 ^ (d.length+k - q):=vQ _ _ (by decide);generalize 10 ^ (d.length+k - q)=u at a ⊢;generalize val d k=v at hs ⊢;have b:=zu v u;have e:v<v / u*u+u:=by
   have h:=Nat.div_add_mod v u;have:=m9 v a;rw[tH]at h;omega
  refine⟨b,?_,zW _ _⟩;rw[Nat.le_min];omega
 ·exact⟨aV _,aV _,hs⟩
def mtk(d:aa):Nat->Nat->Bool
 | 0,_=>true
 | k+1,w=>(decide (d.getD k 0=88)||decide ((d.getD k 0).toNat=48+w%10))&&mtk d k (w / 10)
def vC(d:aa)(k w:Nat):mtk d (k+1) w=((decide (d.getD k 0=88)||decide ((d.getD k 0).toNat=48+w%10))&&mtk d k (w / 10)):=rfl
def vN{d:aa}{k:Nat}{c:UInt8}(h:d[k]?=some c):d.getD k 0=c:=by
 rw[Bh,h];rfl
def FB(n:Nat)(g l:Bool)(d:aa)(x s:Int)(r:d.length=4):∀(k w:Nat),k<=4->w<100000000000000000->∀q,k<q->
  aw (br n) q ((w:Int),(k:Int) - 1,g,l,d,x,s)=some (if mtk d k w=true then .inr ((w / 10 ^ k:Nat):Int)else .inl 0)
 | 0,w,m,t,q,A=>by
  obtain⟨q,rfl⟩:∃p,q=p+1:=⟨q - 1,by omega⟩;have i:decide (((0:Nat):Int) - 1>=0)=false:=rfl;have h:mtk d 0 w=true:=rfl;simp only[aw,br,i,af];rw[ad h];simp
 | k+1,w,m,t,q,A=>by
  obtain⟨q,rfl⟩:∃p,q=p+1:=⟨q - 1,by omega⟩;have ih:=FB n g l d x s r k (w / 10) (by omega) (by omega) q (by omega);obtain⟨c,hc⟩:∃c,d[k]?=some c:=⟨d[k],bj (by omega)⟩;have y:((k+1:Nat):Int) - 1=(k:Int):=by omega
  have i:decide ((k:Int)>=0)=true:=au (by omega);have z:Int.tmod (w:Int) 10=((w%10:Nat):Int):=rfl;have eq':Int.tdiv (w:Int) 10=((w / 10:Nat):Int):=rfl;have v:wrap .i64 (48+((w%10:Nat):Int))=((48+w%10:Nat):Int):=by rw[wrap_i64 _ (by omega) (by omega)];omega
  have u:wrap .u8 ((48+w%10:Nat):Int)=((48+w%10:Nat):Int):=en _ (by omega) (by omega);have o:wrap .i64 ((w / 10:Nat):Int)=((w / 10:Nat):Int):=wrap_i64 _ (by omega) (by omega);have B:wrap .i64 ((k:Int) - 1)=(k:Int) - 1:=wrap_i64 _ (by omega) (by omega);have a:w / 10 ^ (k+1)=w / 10 / 10 ^ k:=by rw[oy,tH,Nat.div_div_eq_div_mul]
  rw[vC,vN hc,a,y];simp only[aw,br,i,am,kl hc,ob,z,eq',v,u,o,B];by_cases hx:c=88
  ·have j:(((c.toNat:Nat):Int) != 88)=false:=by rw[hx];rfl
   rw[j,au hx];simp only[af,BF,kP];exact ih
  ·have j:(((c.toNat:Nat):Int) != 88)=true:=by
    simp only[bne,jd,aN];intro e;exact hx (hZ.1 (by show c.toNat=88;omega))
   rw[j,ar hx];simp only[am,sU];by_cases f:c.toNat=48+w%10
   ·have b:(((c.toNat:Nat):Int) != ((48+w%10:Nat):Int))=false:=by rw[f];simp
    rw[b,au f];simp only[af,kP];exact ih
   ·have b:(((c.toNat:Nat):Int) != ((48+w%10:Nat):Int))=true:=by
     simp only[bne,jd,aN];omega
    rw[b,ar f];simp only[am,BM];rfl
def zV(d:aa)(k q:Nat):Nat:=if 0<q then 10 ^ (d.length+k - q)else 1
def memP(d:aa)(x s:Int)(w:Nat):Prop:=if hasX d=true then mtk d 4 w=true/\w / 10 ^ 4=0 else val d x.toNat / zV d x.toNat s.toNat=w / zV d x.toNat s.toNat
instance (d:aa)(x s:Int)(w:Nat):Decidable (memP d x s w):=by unfold memP;infer_instance
def wOf(g:Bool)(v:Int):Int:=if g then -v else v
def inP(g:Bool)(d:aa)(x s v:Int):Prop:=-10000000000000000<=v/\v<=10000000000000000/\0<=wOf g v/\¬(hasX d=true/\g=true/\wOf g v=0)/\memP d x s (wOf g v).toNat
instance (g:Bool)(d:aa)(x s v:Int):Decidable (inP g d x s v):=by unfold inP;infer_instance
noncomputable def inT(n:Nat)(k j:Bool)(i:aa)(g h W:Int):Option Int:=
 (ob (aB n k j i g h) λe=>(cond (e==1) (ob (aw (br n) n (W,3,k,j,i,g,h)) λc=>(Sum.casesOn (motive:=λ_=>Option _) c (λd=>(some d)) (λf=>(cond (decide (f>0)) (some 0) (some 1))))) (ob (aj n i g) λb=>(cond (decide (h>0)) (ob (aj n [49] (wrap .i64 ((wrap .i64 (((List.length i:Nat):Int)+g)) - h))) λa=>(cond (a.1==0) none (cond (a.1==0) none (cond ((wrap .i64 (Int.tdiv b.1 a.1))==(wrap .i64 (Int.tdiv W a.1))) (some 1) (some 0))))) (cond ((wrap .i64 (Int.tdiv b.1 1))==(wrap .i64 (Int.tdiv W 1))) (some 1) (some 0))))))
def D5(a b:Nat):(((a:Nat):Int)==((b:Nat):Int))=decide (a=b):=by
 by_cases h:a=b
 ·subst h;simp
 ·rw[ar h,aN];omega
def As{d:aa}{x s:Int}{w:Nat}(a:hasX d=true):memP d x s w↔mtk d 4 w=true/\w / 10 ^ 4=0:=by unfold memP;rw[ad a]
def Ju{d:aa}{x s:Int}{w:Nat}(a:hasX d=false):memP d x s w↔val d x.toNat / zV d x.toNat s.toNat=w / zV d x.toNat s.toNat:=by unfold memP;rw[ab (by rw[a];simp)]
def in_T(m:Nat){g l:Bool}{d:aa}{x s:Int}(j:okY g l d x s)(w:Nat)(T:w<=10000000000000000):inT (m+300) g l d x s (w:Int)=some (if memP d x s w then 1 else 0):=by
 have R:=ko j;have G:=l4 (m+300) g l d x s (by omega) (by omega);unfold inT;cases i:hasX d with
 | true=>
  obtain⟨rfl,rfl,rfl,K,_⟩:=nG j i;have B:=FB (m+300) g false d 0 0 K 4 w (by omega) (by omega) (m+300) (by omega);have hlp':aw (br (m+300)) (m+300) ((w:Int),3,g,false,d,0,0)=_:=B;have D:((1:Int)==1)=true:=rfl;have n:aB (m+300) g false d 0 0=some 1:=by rw[G,i];rfl
  rw[n];simp only[ob,D,am,hlp'];by_cases A:mtk d 4 w=true
  ·rw[ad A];by_cases z:w / 10 ^ 4=0
   ·have e:decide (((w / 10 ^ 4:Nat):Int)>0)=false:=ar (by rw[z];decide);rw[ad ((As i).2 ⟨A,z⟩)];simp only[e,af]
   ·have e:decide (((w / 10 ^ 4:Nat):Int)>0)=true:=au (by
     generalize w / 10 ^ 4=t at z ⊢;omega)
    rw[ab (λq=>z ((As i).1 q).2)];simp only[e,am]
  ·rw[ab A,ab (λq=>A ((As i).1 q).1)]
 | false=>
  obtain⟨k,q,rfl,rfl,y⟩:=oq j i;have hw':=y.wide;have hs:=y.small;have S:=y.sig;have H:dval 0 d*10 ^ k=val d k:=rfl;have I:=gJ (m+300) d k y.dig (by omega) (by omega) (by omega);rw[ad hs,H]at I;rw[H]at hs;unfold E16 at hs;have F:((0:Int)==1)=false:=rfl;have n:aB (m+300) g l d k q=some 0:=by rw[G,i];rfl
  have c:=Ju (x:=(k:Int)) (s:=(q:Int)) (w:=w) i;rw[cf,cf]at c;unfold zV at c;rw[n];simp only[ob,F,af,I];by_cases J:0<q
  ·have E:decide ((q:Int)>0)=true:=au (by omega);have w0:wrap .i64 (wrap .i64 (((d.length:Nat):Int)+(k:Int)) - (q:Int))=((d.length+k - q:Nat):Int):=by
    rw[wrap_i64 (((d.length:Nat):Int)+(k:Int)) (by omega) (by omega),wrap_i64 _ (by omega) (by omega)];omega
   have C:10 ^ (d.length+k - q)<=10 ^ 16:=iH (by decide) (by omega);have P:(10:Nat) ^ 16=10000000000000000:=by decide
   have one:dval 0 [49]=1:=by decide
   have h:dval 0 [49]*10 ^ (d.length+k - q)<=E16:=by rw[one];unfold E16;omega
   have o:=gJ (m+300) [49] (d.length+k - q) (by decide) (by decide) (by omega) (by simp;omega);rw[ad h,one,rL]at o;have N:1<=10 ^ (d.length+k - q):=vQ _ _ (by decide);rw[E,w0,o];rw[ad J]at c;clear h o;generalize 10 ^ (d.length+k - q)=u at N C c ⊢;generalize val d k=v at hs c ⊢;have O:(((u:Nat):Int)==0)=false:=aN.2 (by omega);have p:Int.tdiv ((v:Nat):Int) ((u:Nat):Int)=((v / u:Nat):Int):=rfl;have r:Int.tdiv ((w:Nat):Int) ((u:Nat):Int)=((w / u:Nat):Int):=rfl;have Q:v / u<=v:=Aa v u;have L:w / u<=w:=Aa w u;simp only[am,O,af,p,r];generalize v / u=a at Q c ⊢;generalize w / u=b at L c ⊢;rw[wrap_i64 _ (by omega) (by omega),wrap_i64 _ (by omega) (by omega),D5];by_cases f:a=b
   ·rw[au f,ad (c.2 f)];rfl
   ·rw[ar f,ab (λq=>f (c.1 q))];rfl
  ·have E:decide ((q:Int)>0)=false:=ar (by omega);have M:∀a:Nat,Int.tdiv ((a:Nat):Int) 1=((a:Nat):Int):=λa=>by
    have:Int.tdiv ((a:Nat):Int) 1=((a / 1:Nat):Int):=rfl;rw[this,oJ]
   rw[ab J,oJ,oJ]at c;rw[E];simp only[af,M];rw[wrap_i64 _ (by omega) (by omega),wrap_i64 _ (by omega) (by omega),D5];by_cases f:val d k=w
   ·rw[au f,ad (c.2 f)];rfl
   ·rw[ar f,ab (λq=>f (c.1 q))];rfl
def Of(m:Nat){g l:Bool}{d:aa}{x s:Int}(n:okY g l d x s)(v:Int):kr (m+300) g l d x s v=some (if inP g d x s v then 1 else 0):=by
 have y:=ko n;have a:=λw o=>in_T m n w o;have p:=l4 (m+300) g l d x s (by omega) (by omega);unfold inT at a;unfold kr;by_cases u:v < -10000000000000000
 ·rw[au u,ab (λq=>by have:=q.1;omega)];rfl
 ·rw[ar u,af];by_cases t:v>10000000000000000
  ·rw[au t,ab (λq=>by have:=q.2.1;omega)];rfl
  ·rw[ar t,af];cases g with
   | true=>
    have w0:wrap .i64 (0 - v)=-v:=by rw[wrap_i64 _ (by omega) (by omega)];omega
    simp only[am,w0];by_cases k:-v<0
    ·rw[au k,ab (λq=>by have:=q.2.2.1;unfold wOf at this;simp only[bc]at this;omega)];rfl
    ·rw[ar k,af];obtain⟨w,o⟩:∃w:Nat,-v=(w:Int):=⟨(-v).toNat,by omega⟩;have a:=a w (by omega);have f:wOf true v=(w:Int):=by unfold wOf;simpa using o
     have c:¬(hasX d=true/\w=0)->(inP true d x s v↔memP d x s w):=by
      intro r;unfold inP;rw[f,cf];constructor
      ·exactλq=>q.2.2.2.2
      ·exactλq=>⟨by omega,by omega,by omega,λq=>r ⟨q.1,by omega⟩,q⟩
     rw[o];cases j:hasX d with
     | true=>
      have b:aB (m+300) true l d x s=some 1:=by rw[p,j];rfl
      rw[b];have h:((1:Int)==1)=true:=rfl;simp only[ob,h,am];by_cases r:w=0
      ·have e:(((w:Nat):Int)==0)=true:=bI.2 (by omega);rw[e,ab (λq=>q.2.2.2.1 ⟨j,rfl,by rw[f];omega⟩)];rfl
      ·have e:(((w:Nat):Int)==0)=false:=aN.2 (by omega);rw[b]at a;simp only[ob,h,am]at a;rw[e,af,a];have:=c (λq=>r q.2);by_cases hp:memP d x s w
       ·rw[ad hp,ad (this.2 hp)]
       ·rw[ab hp,ab (λq=>hp (this.1 q))]
     | false=>
      have b:aB (m+300) true l d x s=some 0:=by rw[p,j];rfl
      have i:((0:Int)==1)=false:=rfl;rw[b]at a ⊢;simp only[ob,i,af]at a ⊢;rw[a];have:=c (λq=>by rw[j]at q;cases q.1);by_cases hp:memP d x s w
      ·rw[ad hp,ad (this.2 hp)]
      ·rw[ab hp,ab (λq=>hp (this.1 q))]
   | false=>
    simp only[af];by_cases k:v<0
    ·rw[au k,ab (λq=>by have:=q.2.2.1;unfold wOf at this;simp only[cj,aG]at this;omega)];rfl
    ·rw[ar k,af];obtain⟨w,rfl⟩:∃w:Nat,v=(w:Int):=⟨v.toNat,by omega⟩;have a:=a w (by omega);have f:wOf false (w:Int)=(w:Int):=rfl;have c:inP false d x s (w:Int)↔memP d x s w:=by
      unfold inP;rw[f,cf];constructor
      ·exactλq=>q.2.2.2.2
      ·exactλq=>⟨by omega,by omega,by omega,λq=>(by cases q.2.1),q⟩
     cases j:hasX d with
     | true=>
      have b:aB (m+300) false l d x s=some 1:=by rw[p,j];rfl
      rw[b]at a ⊢;have h:((1:Int)==1)=true:=rfl;simp only[ob,h,am]at a ⊢;rw[a];by_cases hp:memP d x s w
      ·rw[ad hp,ad (c.2 hp)]
      ·rw[ab hp,ab (λq=>hp (c.1 q))]
     | false=>
      have b:aB (m+300) false l d x s=some 0:=by rw[p,j];rfl
      rw[b]at a ⊢;have i:((0:Int)==1)=false:=rfl;simp only[ob,i,af]at a ⊢;rw[a];by_cases hp:memP d x s w
      ·rw[ad hp,ad (c.2 hp)]
      ·rw[ab hp,ab (λq=>hp (c.1 q))]
def loK(d:aa)(k:Nat):Nat:=dval 0 ((dn 48 d).take k)
def hiK(d:aa)(k:Nat):Nat:=dval 0 ((dn 57 d).take k)
def ts(z:UInt8){d:aa}{k:Nat}{c:UInt8}(h:d[k]?=some c):dval 0 ((dn z d).take (k+1))=dval 0 ((dn z d).take k)*10+((if c=88 then z else c).toNat - 48):=by
 rw[LI (rN h),Ar]
def xg(d:aa)(g:d.length=4)(i:∀c∈d,cD c=true\/c=88):∀(k w:Nat),k<=4->w<10 ^ k->mtk d k w=true->loK d k<=w/\w<=hiK d k
 | 0,w,e,b,a=>by
  simp at b;subst b;simp[loK,hiK,me]
 | k+1,w,e,b,a=>by
  obtain⟨c,hc⟩:∃c,d[k]?=some c:=⟨d[k],bj (by omega)⟩;rw[vC,vN hc,aC,fP,cA,cA]at a;have hp:(10:Nat) ^ (k+1)=10 ^ k*10:=oy 10 k;have ih:=xg d g i k (w / 10) (by omega) (by omega) a.2;have j:=ts 48 hc;have h:=ts 57 hc;unfold loK hiK at ih ⊢;rw[j,h];by_cases hx:c=88
  ·rw[ad hx,ad hx];have l:(48:UInt8).toNat - 48=0:=rfl;have f:(57:UInt8).toNat - 48=9:=rfl;rw[l,f];omega
  ·rw[ab hx,ab hx];have:=a.1.resolve_left hx;omega
def wd(z:UInt8)(g:cD z=true)(d:aa)(j:d.length=4)(h:∀c∈d,cD c=true\/c=88):∀k,k<=4->mtk d k (dval 0 ((dn z d).take k))=true
 | 0,_=>rfl
 | k+1,n=>by
  obtain⟨c,hc⟩:∃c,d[k]?=some c:=⟨d[k],bj (by omega)⟩;have ih:=wd z g d j h k (by omega);have e:cD (if c=88 then z else c)=true:=by
   by_cases hx:c=88
   ·rw[ad hx];exact g
   ·rw[ab hx];exact(h c (dY hc)).resolve_right hx
  have l:=(fR _).1 e;rw[vC,vN hc,ts z hc];generalize f:(if c=88 then z else c)=b at l ⊢;generalize dval 0 ((dn z d).take k)=a at ih ⊢;have m:(a*10+(b.toNat - 48)) / 10=a:=by omega
  have i:(a*10+(b.toNat - 48))%10=b.toNat - 48:=by omega
  rw[m,i,ih,uQ];by_cases hx:c=88
  ·rw[au hx];rfl
  ·rw[ab hx]at f;rw[f,au (show b.toNat=48+(b.toNat - 48)by omega),Bool.or_true]
def wK:List (aa):=[[48,48,48,88],[48,48,88,48],[48,48,88,88],[48,88,48,48],[48,88,48,88],[48,88,88,48],[48,88,88,88],[88,48,48,48],[88,48,48,88],[88,48,88,48],[88,48,88,88],[88,88,48,48],[88,88,48,88],[88,88,88,48],[88,88,88,88]]
def Pn:wK.all (λd=>mtk d 4 (pS d)&&decide (1<=pS d)&&decide (pS d<=1000)&&(List.range 1000).all (λw=>decide (w=0)||!mtk d 4 w||decide (pS d<=w)))=true:=by decide +kernel
def xl{d:aa}(g:d∈wK):mtk d 4 (pS d)=true/\1<=pS d/\pS d<=1000/\∀w,1<=w->mtk d 4 w=true->pS d<=w:=by
 have h:=ch.1 Pn d g;simp only[aC,cA,ch,ij,fP,jd]at h;obtain⟨⟨⟨i,e⟩,b⟩,c⟩:=h;refine⟨i,e,b,λw k f=>?_⟩;rcases aI w 1000 with a | j
 ·rcases c w a with(h | h) | h
  ·omega
  ·rw[f]at h;cases h
  ·exact h
 ·omega
def xM{d:aa}(a:d.length=4)(e:∀c∈d,cD c=true\/c=88)(b:hasX d=true)(f:dval 0 (dn 48 d)=0):d∈wK:=
 uA a (xy a e f) b (λd=>d∈wK) (by decide) (by decide) (by decide) (by decide) (by decide) (by decide) (by decide) (by decide) (by decide) (by decide) (by decide) (by decide) (by decide) (by decide) (by decide)
def Lu{d:aa}(a:d.length=4):loK d 4=dval 0 (dn 48 d):=by
 unfold loK;rw[gg (by rw[gq];omega)]
def JU{d:aa}(a:d.length=4):hiK d 4=dval 0 (dn 57 d):=by
 unfold hiK;rw[gg (by rw[gq];omega)]
def H8{g:Bool}{d:aa}(b:d.length=4)(f:∀c∈d,cD c=true\/c=88)(s:hasX d=true):
  (iy g d).1<10000/\(iy g d).2<10000/\mtk d 4 (iy g d).1=true/\mtk d 4 (iy g d).2=true/\1<=(iy g d).2/\(g=true->1<=(iy g d).1)/\∀w,w<10000->mtk d 4 w=true->(g=true->1<=w)->(iy g d).1<=w/\w<=(iy g d).2:=by
 have t:(10:Nat) ^ 4=10000:=by decide
 have r:=ny (z:=48) (by decide) f;have n:=ny (z:=57) (by decide) f;have o:=nF (dn 48 d) 0 0 r (by simp);have q:=nF (dn 57 d) 0 0 n (by simp);rw[gq,b,eJ,t]at o q;have m1:=wd 48 (by decide) d b f 4 (by omega);have m2:=wd 57 (by decide) d b f 4 (by omega);rw[gg (by rw[gq];omega)]at m1 m2;have l:∀w,w<10000->mtk d 4 w=true->dval 0 (dn 48 d)<=w/\w<=dval 0 (dn 57 d):=λw m h=>by
  have:=xg d b f 4 w (by omega) (by omega) h;rw[Lu b,JU b]at this;exact this
 have j:1<=dval 0 (dn 57 d):=by
  rcases wG (dval 0 (dn 57 d))with i | i
  ·exfalso;have e:dval 0 (dn 48 d)=0:=by
    have:=(l _ o m1).2;omega
   have p:=xM b f s e;have a:=xl p;have:=(l _ (by omega) a.1).2;omega
  ·exact i
 unfold iy;by_cases e:g=true/\dval 0 (dn 48 d)=0
 ·rw[ad e];have a:=xl (xM b f s e.2);refine⟨by simp only;omega,q,a.1,m2,j,λ_=>a.2.1,λw m h k=>⟨a.2.2.2 w (k e.1) h,(l w m h).2⟩⟩
 ·rw[ab e];refine⟨o,q,m1,m2,j,λk=>?_,λw m h k=>l w m h⟩;simp only;rcases wG (dval 0 (dn 48 d))with i | i
  ·exact absurd ⟨k,i⟩ e
  ·exact i
def Ix{g l:Bool}{d:aa}{x s:Int}(c:okY g l d x s):(kJ g d x s).1<=10000000000000000/\(kJ g d x s).2<=10000000000000000/\memP d x s (kJ g d x s).1/\memP d x s (kJ g d x s).2/\(hasX d=true->1<=(kJ g d x s).2/\(g=true->1<=(kJ g d x s).1))/\
  ∀w,w<=10000000000000000->memP d x s w->(hasX d=true->g=true->1<=w)->(kJ g d x s).1<=w/\w<=(kJ g d x s).2:=by
 unfold kJ memP;cases r:hasX d with
 | true=>
  obtain⟨rfl,rfl,rfl,E,F⟩:=nG c r;obtain⟨C,M,G,D,N,J,I⟩:=H8 (g:=g) E F r;have L:(10:Nat) ^ 4=10000:=by decide
  simp only[bc,L];refine⟨by omega,by omega,⟨G,Nat.div_eq_of_lt C⟩,⟨D,Nat.div_eq_of_lt M⟩,λ_=>⟨N,J⟩,λw A j H=>I w (by omega) j.1 (H trivial)⟩
 | false=>
  obtain⟨k,q,rfl,rfl,y⟩:=oq c r;have hs:=y.small;have K:dval 0 d*10 ^ k=val d k:=rfl;rw[K]at hs;obtain⟨e,i,b⟩:=K6 y;unfold E16 at b;simp only[cj,aG,cf];unfold zV;unfold wy at e i b ⊢;by_cases m:0<q
  ·rw[ad m]at e i b ⊢;rw[ad m];have z:1<=10 ^ (d.length+k - q):=vQ _ _ (by decide);generalize 10 ^ (d.length+k - q)=u at *;generalize val d k=v at *;simp only at e i b ⊢;have f:v / u*u / u=v / u:=Nat.mul_div_cancel _ z;have p:∀w,v / u*u<=w->w<v / u*u+u->w / u=v / u:=by
    intro w B o;apply Nat.div_eq_of_lt_le
    ·exact B
    ·rw[wh];exact o
   have a:∀w,v / u=w / u->v / u*u<=w/\w<v / u*u+u:=by
    intro w h;rw[h];have B:=zu w u;have o:=Nat.div_add_mod w u;have Q:=m9 w z;rw[tH]at o;omega
   have t:min (v / u*u+u - 1) E16<=v / u*u+u - 1:=Nat.min_le_left _ _;have n:=a v rfl;refine⟨by omega,b,f.symm,(p _ (by omega) (by omega)).symm,λq=>(by cases q),λw A j _=>?_⟩;obtain⟨O,P⟩:=a w j;refine⟨O,?_⟩;rw[Nat.le_min];unfold E16;omega
  ·rw[ab m]at e i b ⊢;rw[ab m];simp only[oJ]at e i b ⊢;refine⟨b,b,trivial,trivial,λq=>(by cases q),λw A j _=>by omega⟩
def zf{g l:Bool}{d:aa}{x s:Int}(j:okY g l d x s):inP g d x s (sgn g (kJ g d x s)).1/\inP g d x s (sgn g (kJ g d x s)).2/\∀v,inP g d x s v->(sgn g (kJ g d x s)).1<=v/\v<=(sgn g (kJ g d x s)).2:=by
 obtain⟨f,u,k,i,w,p⟩:=Ix j;generalize kJ g d x s=y at *;obtain⟨lo,hi⟩:=y;simp only at f u k i w p;cases g with
 | true=>
  have b:∀a:Nat,wOf true (-(a:Int))=(a:Int):=λa=>by unfold wOf;simp
  have mk:∀a:Nat,a<=10000000000000000->memP d x s a->(hasX d=true->1<=a)->inP true d x s (-(a:Int)):=by
   intro a C m A;refine⟨by omega,by omega,by rw[b];omega,λq=>?_,by rw[b,cf];exact m⟩;have:=A q.1;have z:=q.2.2;rw[b]at z;omega
  simp only[sgn,bc];refine⟨mk hi u i (λh=>(w h).1),mk lo f k (λh=>(w h).2 rfl),λv r=>?_⟩;obtain⟨D,B,n,o,c⟩:=r;have t:wOf true v=-v:=rfl;rw[t]at n o c
  have:=p (-v).toNat (by omega) c (λhx _=>by
   have:¬-v=0:=λe=>o ⟨hx,rfl,e⟩;omega)
  omega
 | false=>
  have b:∀a:Int,wOf false a=a:=λa=>rfl;have mk:∀a:Nat,a<=10000000000000000->memP d x s a->inP false d x s (a:Int):=by
   intro a C m;exact⟨by omega,by omega,by rw[b];omega,λq=>(by cases q.2.1),by rw[b,cf];exact m⟩
  simp only[sgn,cj,aG];refine⟨mk lo f k,mk hi u i,λv r=>?_⟩;obtain⟨D,B,n,o,c⟩:=r;rw[b]at n c;have:=p v.toNat (by omega) c (λ_ q=>by cases q);omega
end Go.Sh
namespace Go.Sh.Mk
open Go.Abs
def okB(c:UInt8):Bool:=c.toNat==88||(decide (48<=c.toNat)&&decide (c.toNat<=57))
def chk(s:aa):Int:=if 18<s.length then 3 else if s.all okB then(if s=[]then 5 else 0)else 5
def ra(n:Nat)(s0 s:aa)(u:s.length+1<n):
  aw (fW n) n (s0,s,0)=some (if s.all okB then .inr s0 else .inl 5):=by
 have:=fL (step:=fW n) (λx=>x.1=s0/\x.2.1=s/\x.2.2<=s.length) (λx=>s.length - x.2.2)
  (λx=>if(s.drop x.2.2).all okB then .inr s0 else .inl 5) ?_ n (s0,s,0) ⟨rfl,rfl,oL _⟩ (by simp;omega)
 ·simpa using this
 rintro⟨a,b,i⟩ ⟨rfl,rfl,hi⟩;simp only at hi ⊢;rcases aI i b.length with l | o
 ·obtain⟨c,hc⟩:∃c,b[i]?=some c:=⟨b[i],bj l⟩;have m:Nat.blt i b.length=true:=dl l;rw[ju hc,lw];simp only[fW,m,am];by_cases g:c.toNat<128
  ·rw[yW hc g];by_cases j:c.toNat=88
   ·refine .inl ⟨(a,b,i+1),by simp[j],⟨rfl,rfl,by simp only;omega⟩,by simp only;omega,?_⟩;simp[okB,j]
   ·by_cases q:c.toNat<48
    ·refine .inr ?_;have e:(((c.toNat:Nat):Int) != 88)=true:=by simp;omega
     have d:(decide (((c.toNat:Nat):Int)<48))=true:=by simp;omega
     have f:okB c=false:=by simp[okB];omega
     simp[e,d,f]
    ·by_cases p:57<c.toNat
     ·refine .inr ?_;have e:(((c.toNat:Nat):Int) != 88)=true:=by simp;omega
      have d:(decide (((c.toNat:Nat):Int)<48))=false:=by simp;omega
      have k:(decide (((c.toNat:Nat):Int)>57))=true:=by simp;omega
      have f:okB c=false:=by simp[okB];omega
      simp[e,d,f,k]
     ·have e:(((c.toNat:Nat):Int) != 88)=true:=by simp;omega
      have d:(decide (((c.toNat:Nat):Int)<48))=false:=by simp;omega
      have k:(decide (((c.toNat:Nat):Int)>57))=false:=by simp;omega
      have f:okB c=true:=by simp[okB];omega
      refine .inl ⟨(a,b,i+1),by simp only[e,d,k,am,af],⟨rfl,rfl,by simp only;omega⟩,by simp only;omega,?_⟩;simp[f]
  ·obtain⟨t,r⟩:=Cd hc (by omega);refine .inr ?_;have e:((((dec b i).1:Nat):Int) != 88)=true:=by simp;omega
   have d:(decide ((((dec b i).1:Nat):Int)<48))=false:=by simp;omega
   have k:(decide ((((dec b i).1:Nat):Int)>57))=true:=by simp;omega
   have f:okB c=false:=by simp[okB];omega
   simp[e,d,f,k]
 ·have m:Nat.blt i b.length=false:=by
   cases h:Nat.blt i b.length with
   | false=>rfl
   | true=>have:i<b.length:=aJ h;omega
  refine .inr ?_;simp only[fW,m,af];rw[oi o];rfl
def js(n:Nat)(s:aa)(b:30<=n):hP n s=some (chk s):=by
 unfold hP chk;by_cases h:18<s.length
 ·have:(decide (((List.length s:Nat):Int)>18))=true:=by simp;omega
  simp[this,h]
 ·have e:(decide (((List.length s:Nat):Int)>18))=false:=by simp;omega
  simp only[e,af,h,aG];rw[ra n s s (by omega)];by_cases a:s.all okB=true
  ·simp only[a,bc,ob];by_cases hs:s=[]
   ·simp[hs]
   ·have:(s==([]:aa))=false:=by simpa using hs
    simp[this,hs]
  ·simp[a,ob]
def kW{s:aa}(h:chk s=0):s.length<=18/\s≠[]/\∀c∈s,okB c=true:=by
 unfold chk at h;split at h
 ·simp at h
 ·split at h
  ·rename_i a;split at h
   ·simp at h
   ·rename_i hs;exact⟨by omega,hs,by simpa using a⟩
  ·simp at h
def nums(l:aa):List Int:=l.map λb=>((b.toNat:Nat):Int)
def over(d:List Int)(i:Nat)(l:List Int):List Int:=d.take i++(l++d.drop (i+l.length))
def vU(d:List Int)(i:Nat)(x:Int)(l:List Int)(h:i<d.length):over (d.set i x) (i+1) l=over d i (x::l):=by
 unfold over;rw[show(d.set i x).take (i+1)=d.take i++[x]from by
  rw[G5 (by simpa using h)];simp[List.take_set_of_le]]
 rw[List.drop_set_of_lt (by omega)];simp[gh,oN 1]
def A7(d:List Int)(i:Nat):over d i []=d:=by simp[over]
def HO(d:List Int)(i:Nat)(l:List Int)(h:i+l.length<=d.length):(over d i l).length=d.length:=by
 unfold over;simp;omega
def IK{x y:UInt8}:(((x.toNat:Nat):Int)==((y.toNat:Nat):Int))=decide (x=y):=by
 by_cases h:x=y
 ·simp[h]
 ·have:x.toNat≠y.toNat:=λe=>h (hZ.1 e);simp[h];omega
def vK{x:UInt8}:(((x.toNat:Nat):Int)==88)=decide (x=88):=by
 have:=IK (x:=x) (y:=88);simpa using this
def dg:Nat->Int->List Int
 | 0,_=>[]
 | L+1,k=>dg L (k / 10)++[48+k%10]
def tg:∀(L:Nat) (k:Int),(dg L k).length=L
 | 0,_=>rfl
 | L+1,k=>by simp[dg,tg L]
def pB:∀(L:Nat) (k:Int),∀x∈dg L k,48<=x/\x<58
 | 0,_,x,h=>by simp[dg]at h
 | L+1,k,x,h=>by
  simp only[dg,jW,lx]at h;rcases h with h | rfl
  ·exact pB L _ x h
  ·omega
def gE:aa->List Int->Bool
 | c::m,d::l=>(c==88||decide (((c.toNat:Nat):Int)=d))&&gE m l
 | _,_=>true
def qU:∀{a c:aa} {b d:List Int},a.length=b.length->gE (a++c) (b++d)=(gE a b&&gE c d)
 | [],c,[],d,_=>by simp[gE]
 | x::a,c,y::b,d,h=>by
  simp only[cU,rZ]at h;simp only[kL,gE,qU h,Bool.and_assoc]
def hasM(m:aa)(k:Int):Bool:=decide (0<=k)&&(decide (k<10 ^ m.length)&&gE m (dg m.length k))
def IU(L:Nat)(h:L<=18):mz 20000000 ((L:Nat):Int)=some (10 ^ L):=by
 have a:allN (λi=>match mz 20000000 ((i:Nat):Int)with | some r=>decide (r=10 ^ i) | none=>false) 19=true:=by kernel_rfl
 have:=zd a L (by omega);split at this
 ·rename_i r b;rw[b];simpa using this
 ·cases this
def yl(L:Nat)(h:L<=18):(10:Int) ^ L<=1000000000000000000:=by
 have a:allN (λi=>decide ((10:Int) ^ i<=1000000000000000000)) 19=true:=by kernel_rfl
 simpa using zd a L (by omega)
def MY{k:Int}(h:0<=k):Int.tmod k 10=k%10:=Fz h
def MH{k:Int}(h:0<=k):Int.tdiv k 10=k / 10:=IZ h
def Db(k:Int)(i:Nat)(d:List Int)(a:0<=k)(c:k<9223372036854775808)(hi:i<=18)(b:d.length=18):
  aw (fU 20000000) 20000000 (k,(i:Int) - 1,d)=some (over d 0 (dg i k)):=by
 have:=fL (step:=fU 20000000) (λx=>(0<=x.1/\x.1<9223372036854775808)/\(-1<=x.2.1/\x.2.1<=17)/\x.2.2.length=18) (λx=>(x.2.1+1).toNat)
  (λx=>over x.2.2 0 (dg (x.2.1+1).toNat x.1)) ?_ 20000000 (k,(i:Int) - 1,d) ⟨⟨a,c⟩,⟨by simp only;omega,by simp only;omega⟩,b⟩ (by simp only;omega)
 ·simpa using this
 rintro⟨k,i,d⟩ ⟨⟨a,c⟩,⟨n,g⟩,b⟩;simp only at a c n g b ⊢;by_cases hi:0<=i
 ·obtain⟨j,rfl⟩:∃j:Nat,i=j:=⟨i.toNat,by omega⟩;have f:j<18:=by omega
  have e:decide ((j:Int)>=0)=true:=by simp
  have l:Nat.blt j 18=true:=dl f;have q:wrap .i64 ((j:Int) - 1)=(j:Int) - 1:=wrap_i64 _ (by omega) (by omega);have p:wrap .i64 (Int.tdiv k 10)=k / 10:=by rw[MH a];exact wrap_i64 _ (by omega) (by omega)
  have m:wrap .u8 (wrap .i64 (48+Int.tmod k 10))=48+k%10:=by rw[MY a,wrap_i64 _ (by omega) (by omega),en _ (by omega) (by omega)]
  refine .inl ⟨(k / 10,(j:Int) - 1,d.set j (48+k%10)),by simp only[fU,e,am,cK f,ob,l,q,p,m],⟨⟨by simp only;omega,by simp only;omega⟩,⟨by simp only;omega,by simp only;omega⟩,by simpa using b⟩,by simp only;omega,?_⟩;have h:((j:Int) - 1+1).toNat=j:=by omega
  have o:((j:Int)+1).toNat=j+1:=by omega
  simp only[h,o,over,nE,gP,tg,bV,dg,rU];congr 1;rw[List.drop_set,ab (by omega),Nat.sub_self,pF (by omega)];simp only[List.set_cons_zero,gv,tg,cU,iN,kL,gP,bV]
 ·have e:decide (i>=0)=false:=by simp;omega
  have s:(i+1).toNat=0:=by omega
  refine .inr ?_;simp only[fU,e,af,s,dg,A7]
def IN(m:aa)(k:Int)(c:m.length<=18)(a:0<=k)(b:k<9223372036854775808):
  jn 20000000 m k=some (over [0,0,0,0,0,0,0,0,0,0,0,0,0,0,0,0,0,0] 0 (dg m.length k)):=by
 have w:wrap .i64 (((List.length m:Nat):Int) - 1)=(m.length:Int) - 1:=wrap_i64 _ (by omega) (by omega);simp only[jn,w,Db k m.length [0,0,0,0,0,0,0,0,0,0,0,0,0,0,0,0,0,0] a b c (by rfl),ob]
def rf{d l:List Int}{i:Nat}(h:i<l.length):(over d 0 l)[i]?=l[i]?:=by
 unfold over;simp only[nE,gP];rw[lb h]
def vq:∀(l:List Int),(∀x∈l,0<=x/\x<256)->nums (ft l)=l
 | [],_=>rfl
 | x::l,h=>by
  have ih:=vq l λy hy=>h y (gN _ hy);obtain⟨a,c⟩:=h x (by simp);have e:(((UInt8.ofNat x.toNat).toNat:Nat):Int)=x:=by
   rw[Ag,oH (by omega)];omega
  simp only[nums,ft,sA]at ih ⊢;simp only[fb,Function.comp,e];rw[show List.map ((λb:UInt8=>((b.toNat:Nat):Int)) ∘ λn:Int=>UInt8.ofNat n.toNat) l=l from ih]
def It(l:aa):(nums l).length=l.length:=by simp[nums]
def cnt:aa->Nat
 | []=>0
 | c::r=>if c=88 then cnt r+1 else cnt r
def dv(c:UInt8):Int:=((c.toNat:Nat):Int) - 48
def nth:aa->Int->Int
 | [],_=>0
 | c::r,i=>if c=88 then 10*nth r (i / 10)+i%10 else 10*nth r i+dv c
def ag:aa->Int->Bool
 | [],_=>true
 | c::r,k=>ag r (k / 10)&&(decide (c=88)||decide (dv c=k%10))
def idx:aa->Int->Int
 | [],_=>0
 | c::r,k=>if c=88 then 10*idx r (k / 10)+k%10 else idx r (k / 10)
def okR(r:aa):Prop:=∀c∈r,c=88\/(0<=dv c/\dv c<10)
def uH{m:aa}(h:∀c∈m,okB c=true):okR m.reverse:=by
 intro c hc;have:=h c (List.mem_reverse.1 hc);simp only[okB,fP,bI,aC,cA]at this;rcases this with h | h
 ·exact .inl (hZ.1 (by simpa using h))
 ·exact .inr (by unfold dv;omega)
def nP{c:UInt8}{r:aa}(h:okR (c::r)):okR r:=λx hx=>h x (gN _ hx)
def fV(n:Nat):(10:Int) ^ (n+1)=10*10 ^ n:=by rw[Int.pow_succ,vw]
def pL(n:Nat):(0:Int)<10 ^ n:=Int.pow_pos (by omega)
def mZ:∀{r:aa},okR r->∀i,0<=i->0<=nth r i/\nth r i<10 ^ r.length
 | [],_,i,_=>by simp[nth]
 | c::r,h,i,hi=>by
  simp only[nth,cU,fV];split
  ·have:=mZ (nP h) (i / 10) (by omega);omega
  ·rename_i hc;have:=mZ (nP h) i hi;have:=(h c (by simp)).resolve_left hc;omega
def Fp:∀{r:aa},okR r->∀i,0<=i->ag r (nth r i)=true
 | [],_,_,_=>rfl
 | c::r,h,i,hi=>by
  simp only[nth,ag];split
  ·rename_i hc;have e:(10*nth r (i / 10)+i%10) / 10=nth r (i / 10):=by omega
   rw[e,Fp (nP h) (i / 10) (by omega)];simp[hc]
  ·rename_i hc;have b:=(h c (by simp)).resolve_left hc;have e:(10*nth r i+dv c) / 10=nth r i:=by omega
   have a:(10*nth r i+dv c)%10=dv c:=by omega
   rw[e,a,Fp (nP h) i hi];simp
def ue:∀(r:aa) (k:Int),0<=k->0<=idx r k/\idx r k<10 ^ cnt r
 | [],k,_=>by simp[idx,cnt]
 | c::r,k,a=>by
  have:=ue r (k / 10) (by omega);simp only[idx,cnt];split
  ·rw[fV];omega
  ·exact this
def F7:∀{r:aa} {k:Int},0<=k->k<10 ^ r.length->ag r k=true->nth r (idx r k)=k
 | [],k,d,a,_=>by simp at a;simp[nth];omega
 | c::r,k,d,a,b=>by
  simp only[ag,aC,fP,cA]at b;rw[cU,fV]at a;have ih:=F7 (r:=r) (k:=k / 10) (by omega) (by omega) b.1;simp only[nth,idx];split
  ·have:=ue r (k / 10) (by omega);have e:(10*idx r (k / 10)+k%10) / 10=idx r (k / 10):=by omega
   have f:(10*idx r (k / 10)+k%10)%10=k%10:=by omega
   rw[e,f,ih];omega
  ·rename_i hc;rw[ih];have:=b.2.resolve_left hc;omega
def vO:∀{r:aa},okR r->∀i j,0<=i->i<j->j<10 ^ cnt r->nth r i<nth r j
 | [],_,i,j,b,d,a=>by simp[cnt]at a;omega
 | c::r,h,i,j,b,d,a=>by
  simp only[nth,cnt]at a ⊢;split
  ·rename_i hc;rw[ad hc,fV]at a;by_cases e:i / 10=j / 10
   ·rw[e];omega
   ·have:=vO (nP h) (i / 10) (j / 10) (by omega) (by omega) (by omega);omega
  ·rename_i hc;rw[ab hc]at a;have:=vO (nP h) i j b d a;omega
def BE:∀(r:aa),∀k,gE r.reverse (dg r.length k)=ag r k
 | [],k=>rfl
 | c::r,k=>by
  simp only[List.reverse_cons,cU,dg,ag];rw[qU (by rw[qH,tg]),BE r];have a:decide (((c.toNat:Nat):Int)=48+k%10)=decide (dv c=k%10):=tO.2 (by unfold dv;omega);have b:(c==88)=decide (c=88):=by by_cases h:c=88<;>simp[h]
  simp only[gE,uQ,a,b]
def zn(m:aa)(k:Int):hasM m k=(decide (0<=k)&&(decide (k<10 ^ m.length)&&ag m.reverse k)):=by
 have:=BE m.reverse k;rw[sJ,qH]at this;unfold hasM;rw[this]
def tV:∀(m:aa),cnt m=m.count 88
 | []=>rfl
 | c::m=>by
  simp only[cnt,tV m,List.count_cons];by_cases h:c=88<;>simp[h]
def oY(m:aa):cnt m.reverse=cnt m:=by rw[tV,tV,List.count_reverse]
def EH:∀(m:aa),cnt m<=m.length
 | []=>by simp[cnt]
 | c::m=>by
  have:=EH m;simp only[cnt,cU];split<;>omega
def fd(x y:Int):Int:=(if y=88 then x else y) - 48
def fval(x:Int)(l:List Int):Int:=l.foldl (λn y=>10*n+fd x y) 0
def vR(x:Int):∀(l:List Int) (n:Int),l.foldl (λn y=>10*n+fd x y) n=n*10 ^ l.length+fval x l
 | [],n=>by simp[fval]
 | y::l,n=>by
  have e:=vR x l (10*n+fd x y);have a:=vR x l (10*0+fd x y);simp only[fval,qM,cU,fV]at e a ⊢;rw[e,a,Int.add_mul,Int.add_mul];have:10*n*10 ^ l.length=n*(10*10 ^ l.length):=by rw[vw 10 n,Int.mul_assoc]
  omega
def tl(s:aa)(x:Int)(h18:s.length<=18)(hs:∀c∈s,0<=fd x ((c.toNat:Nat):Int)/\fd x ((c.toNat:Nat):Int)<10):jV 20000000 s x=some (fval x (nums s)):=by
 have hs':∀y∈nums s,0<=fd x y/\fd x y<10:=by
  intro y hy;obtain⟨c,hc,rfl⟩:=da.1 hy;exact hs c hc
 have hl:(nums s).length=s.length:=It s;have:=fL (step:=fi 20000000)
  (λst=>st.1=x/\st.2.2.1=((s.length:Nat):Int)/\st.2.2.2.2=nums s/\(0<=st.2.2.2.1/\st.2.2.2.1<=s.length)/\0<=st.2.1/\st.2.1<10 ^ st.2.2.2.1.toNat) (λst=>s.length - st.2.2.2.1.toNat)
  (λst=>((nums s).drop st.2.2.2.1.toNat).foldl (λn y=>10*n+fd x y) st.2.1) ?_ 20000000 (x,0,((s.length:Nat):Int),0,nums s) ⟨rfl,rfl,rfl,⟨by simp,by simp⟩,by simp,by simp⟩ (by simp;omega)
 ·show(ob (aw (fi 20000000) 20000000 (x,0,((List.length (nums s):Nat):Int),0,nums s)) λy30=>some y30)=_;rw[hl,this];rfl
 rintro⟨x',n,len,i,l⟩ ⟨q1,q2,q3,⟨h0,hi⟩,n0,n1⟩;simp only at q1 q2 q3 h0 hi n0 n1 ⊢;subst q1 q2 q3;obtain⟨j,rfl⟩:∃j:Nat,i=j:=⟨i.toNat,by omega⟩;simp only[cf]at n1 ⊢;rcases aI j s.length with hlt | hge
 ·obtain⟨y,hy⟩:∃c,(nums s)[j]?=some c:=⟨(nums s)[j]'(by omega),bj (by omega)⟩;obtain⟨d0,d1⟩:=hs' y (dY hy);have hb:(decide ((j:Int)<((s.length:Nat):Int)))=true:=by simp;omega
  have hw:wrap .i64 ((j:Int)+1)=((j+1:Nat):Int):=by rw[wrap_i64 _ (by omega) (by omega)];omega
  have hb1:=yl (j+1) (by omega);rw[fV]at hb1;have w1:wrap .i64 (10*n)=10*n:=wrap_i64 _ (by omega) (by omega);have w2:∀z:Int,0<=z->z<10->wrap .i64 (10*n+wrap .i64 (wrap .u8 z))=10*n+z:=λz z0 z1=>by
   rw[en z (by omega) (by omega),wrap_i64 z (by omega) (by omega),wrap_i64 _ (by omega) (by omega)]
  rw[ju hy,qM];simp only[fi,hb,am,cK (show j<(nums s).length by omega),ob,hy,hw,w1];have next:0<=10*n+fd x' y/\10*n+fd x' y<10 ^ (j+1):=by rw[fV];omega
  by_cases h88:y=88
  ·have e1:(y==88)=true:=by simpa using h88
   have hd:fd x' y=x' - 48:=by simp[fd,h88]
   rw[hd]at d0 d1 next ⊢;refine .inl ⟨(x',10*n+(x' - 48),((s.length:Nat):Int),((j+1:Nat):Int),nums s),by simp only[e1,am,w2 _ d0 d1],⟨rfl,rfl,rfl,⟨by simp only;omega,by simp only;omega⟩,next.1,by simpa only[cf]using next.2⟩,by simp only[cf];omega,by simp only[cf]⟩
  ·have e1:(y==88)=false:=by simpa using h88
   have hd:fd x' y=y - 48:=by simp[fd,h88]
   rw[hd]at d0 d1 next ⊢;refine .inl ⟨(x',10*n+(y - 48),((s.length:Nat):Int),((j+1:Nat):Int),nums s),by simp only[e1,af,w2 _ d0 d1],⟨rfl,rfl,rfl,⟨by simp only;omega,by simp only;omega⟩,next.1,by simpa only[cf]using next.2⟩,by simp only[cf];omega,by simp only[cf]⟩
 ·have hb:(decide ((j:Int)<((s.length:Nat):Int)))=false:=by simp;omega
  refine .inr ?_;simp only[fi,hb,af];rw[oi (by omega)];rfl
def rW(x:Int)(l:List Int)(y:Int):fval x (l++[y])=10*fval x l+fd x y:=by simp[fval,Ax]
def yI(r:aa)(c:UInt8):nums ((c::r).reverse)=nums r.reverse++[((c.toNat:Nat):Int)]:=by simp[nums]
def zw(x:Int)(c:UInt8):fd x ((c.toNat:Nat):Int)=if c=88 then x - 48 else dv c:=by
 unfold fd dv;by_cases h:c=88
 ·simp[h]
 ·have:¬((c.toNat:Nat):Int)=88:=λe=>h (hZ.1 (by simpa using(by omega:c.toNat=88)));rw[ab this,ab h]
def uy:∀(r:aa),fval 48 (nums r.reverse)=nth r 0
 | []=>rfl
 | c::r=>by
  rw[yI,rW,uy r,zw];simp only[nth];split<;>simp
def pP:∀(r:aa),fval 57 (nums r.reverse)=nth r (10 ^ cnt r - 1)
 | []=>rfl
 | c::r=>by
  have hp:=pL (cnt r);rw[yI,rW,pP r,zw];simp only[nth,cnt];split
  ·rw[fV];have a:(10*(10:Int) ^ cnt r - 1) / 10=10 ^ cnt r - 1:=by omega
   have b:(10*(10:Int) ^ cnt r - 1)%10=9:=by omega
   rw[a,b];omega
  ·rfl
def Oa{m:aa}(a:∀c∈m,okB c=true){x:Int}(hx:48<=x/\x<58):∀c∈m,0<=fd x ((c.toNat:Nat):Int)/\fd x ((c.toNat:Nat):Int)<10:=by
 intro c hc;rw[zw];have:=uH a c (List.mem_reverse.2 hc);split
 ·omega
 ·rename_i h;exact this.resolve_left h
def He{m:aa}(c:chk m=0):mn 20000000 m=some (nth m.reverse 0,0):=by
 obtain⟨a,_,b⟩:=kW c;have d:((0:Int) != 0)=false:=by simp
 have:=uy m.reverse;rw[sJ]at this;simp only[mn,js 20000000 m (by omega),c,ob,d,af,tl m 48 a (Oa b (by omega)),this]
def zx{m:aa}(c:chk m=0):jx 20000000 m=some (nth m.reverse (10 ^ cnt m - 1),0):=by
 obtain⟨a,_,b⟩:=kW c;have d:((0:Int) != 0)=false:=by simp
 have:=pP m.reverse;rw[sJ,oY]at this;simp only[jx,js 20000000 m (by omega),c,ob,d,af,tl m 57 a (Oa b (by omega)),this]
def HU{m:aa}{l:List Int}(z:List Int)(a:m.length<=18)(f:l.length=m.length)(d:∀y∈l,48<=y/\y<58):eF 20000000 m (over z 0 l)=some (fval 0 l):=by
 have g:List.take m.length (over z 0 l)=l:=by
  unfold over;rw[nE,gP,qG (by omega),gg (by omega)]
 have e:nums (ft l)=l:=vq l λy hy=>by have:=d y hy;omega
 have h:(ft l).length=m.length:=by simp[ft,f]
 simp only[eF,eN a,ob,bV,show Nat.ble m.length 18=true from dl a,am,gk,g];rw[tl (ft l) 0 (by omega) ?_,e];intro c hc;have b:((c.toNat:Nat):Int)∈l:=by rw[<-e];exact da.2 ⟨c,hc,rfl⟩
 have:=d _ b;unfold fd;rw[ab (by omega)];omega
def BO{m:aa}(e:chk m=0){i:Int}(c:0<=i):hasM m (nth m.reverse i)=true:=by
 obtain⟨d,_,a⟩:=kW e;have b:=mZ (uH a) i c;rw[qH]at b;rw[zn,Fp (uH a) i c,au b.1,au b.2];rfl
def vl:List Int->Int
 | []=>0
 | y::l=>(y - 48)*10 ^ l.length+vl l
def digl(l:List Int):Prop:=∀y∈l,48<=y/\y<58
def cE{y:Int}{l:List Int}(h:digl (y::l)):digl l:=λx hx=>h x (gN _ hx)
def rF:∀{l:List Int},digl l->0<=vl l/\vl l<10 ^ l.length
 | [],_=>by simp[vl]
 | y::l,h=>by
  have ih:=rF (cE h);have hy:=h y (by simp);have hp:=pL l.length;simp only[vl,cU,fV];have b:0<=(y - 48)*10 ^ l.length:=Int.mul_nonneg (by omega) (by omega);have a:(y - 48)*10 ^ l.length<=9*10 ^ l.length:=Jl (by omega) (by omega);omega
def Lc{y z:Int}{a b:List Int}(d:a.length=b.length)(g:digl a)(c:digl b)(h:y<z):vl (y::a)<vl (z::b):=by
 have i:=rF g;have e:=rF c;have hp:=pL a.length;simp only[vl];rw[<-d]at e ⊢;have f:(y - 48+1)*10 ^ a.length<=(z - 48)*10 ^ a.length:=Jl (by omega) (by omega);rw[Int.add_mul]at f;omega
def vX:∀{l:List Int},digl l->fval 0 l=vl l
 | [],_=>rfl
 | y::l,h=>by
  have hy:=h y (by simp);have e:fval 0 (y::l)=l.foldl (λn y=>10*n+fd 0 y) (10*0+fd 0 y):=rfl;have a:fd 0 y=y - 48:=by unfold fd;rw[ab (by omega)]
  rw[e,vR,vX (cE h),a];simp only[vl,Int.mul_zero,Int.zero_add]
def Gm{l:List Int}{y:Int}(h:digl (l++[y])):vl (l++[y])=10*vl l+(y - 48):=by
 have hy:=h y (by simp);have a:digl l:=λx hx=>h x (by simp[hx]);rw[<-vX h,<-vX a,rW];unfold fd;rw[ab (by omega)]
def If:∀(L:Nat) (k:Int),0<=k->k<10 ^ L->vl (dg L k)=k
 | 0,k,c,a=>by simp at a;simp[dg,vl];omega
 | L+1,k,c,a=>by
  rw[fV]at a;have:=If L (k / 10) (by omega) (by omega);have b:=pB (L+1) k;simp only[dg]at b ⊢;rw[Gm b,this];omega
def O5{l:List Int}(h:digl l):dg l.length (vl l)=l:=by
 have b:∀(r:List Int),digl r.reverse->dg r.length (vl r.reverse)=r.reverse:=by
  intro r
  induction r with
  | nil=>intro _;rfl
  | cons y r ih=>
   intro h;simp only[List.reverse_cons,cU]at h ⊢;have hy:=h y (by simp);rw[Gm h];simp only[dg];have a:(10*vl r.reverse+(y - 48)) / 10=vl r.reverse:=by omega
   have c:48+(10*vl r.reverse+(y - 48))%10=y:=by omega
   rw[a,c,ih λx hx=>h x (jW.2 (.inl hx))]
 have:=b l.reverse (by rw[sJ];exact h);rwa[sJ,qH]at this
def fst(up:Bool):Int:=cond up 48 57
def lst(up:Bool):Int:=cond up 57 48
def stp(up:Bool)(y:Int):Int:=cond up (y+1) (y - 1)
def fil(up:Bool)(m:aa):List Int:=m.map λc=>cond (decide (c=88)) (fst up) ((c.toNat:Nat):Int)
def nx(up:Bool):aa->List Int->Option (List Int)
 | c::m,y::l=>
  if c=88 then
   match nx up m l with
   | some r=>some (y::r)
   | none=>if y=lst up then none else some (stp up y::fil up m)
  else if((c.toNat:Nat):Int)=y then(nx up m l).map λr=>y::r
  else if decide (((c.toNat:Nat):Int)>y)=up then some (((c.toNat:Nat):Int)::fil up m)else none
 | _,_=>some []
def okM(m:aa):Prop:=∀c∈m,okB c=true
def nM{c:UInt8}{m:aa}(h:okM (c::m)):okM m:=λx hx=>h x (gN _ hx)
def CC{c:UInt8}(h:okB c=true)(a:¬c=88):48<=((c.toNat:Nat):Int)/\((c.toNat:Nat):Int)<58:=by
 simp only[okB,fP,bI,aC,cA]at h;have:¬c.toNat=88:=λe=>a (hZ.1 (by simpa using e));omega
def wg(up:Bool)(m:aa):(fil up m).length=m.length:=by simp[fil]
def FW(up:Bool){m:aa}(h:okM m):digl (fil up m):=by
 intro y hy;obtain⟨c,hc,rfl⟩:=da.1 hy;by_cases a:c=88
 ·simp only[au a,am];cases up<;>simp[fst]
 ·simp only[ar a,af];exact CC (h c hc) a
def tn(up:Bool):∀(m:aa),gE m (fil up m)=true
 | []=>rfl
 | c::m=>by
  have:=tn up m;simp only[fil,fb,gE]at this ⊢;rw[this];by_cases a:c=88
  ·simp[a]
  ·simp[a]
def dI(up:Bool)(a b:Int):Prop:=match up with | true=>a<=b | false=>b<=a
def vE(up:Bool):∀{m:aa} {e:List Int},okM m->m.length=e.length->digl e->gE m e=true->dI up (vl (fil up m)) (vl e)
 | [],[],_,_,_,_=>by cases up<;>simp[fil,vl,dI]
 | c::m,y::e,l,i,j,k=>by
  simp only[cU,rZ]at i;simp only[gE,aC,fP,bI,cA]at k;have ih:=vE up (nM l) i (cE j) k.2;have hy:=j y (by simp);have d:=wg up m;have n:=FW up (nM l);have a:∀z:Int,vl (z::fil up m)=(z - 48)*10 ^ m.length+vl (fil up m):=λz=>by rw[vl,d]
  have b:fil up (c::m)=(cond (decide (c=88)) (fst up) ((c.toNat:Nat):Int))::fil up m:=rfl;rw[b];by_cases f:c=88
  ·simp only[au f,am];by_cases g:y=fst up
   ·rw[<-g,a,vl,<-i];cases up<;>simp only[dI]at ih ⊢<;>omega
   ·cases up
    ·exact Int.le_of_lt (Lc (by rw[d,i]) (cE j) n (by simp[fst]at g ⊢;omega))
    ·exact Int.le_of_lt (Lc (by rw[d,i]) n (cE j) (by simp[fst]at g ⊢;omega))
  ·simp only[ar f,af];rw[k.1.resolve_left f,a,vl,<-i];cases up<;>simp only[dI]at ih ⊢<;>omega
 | [],_::_,_,h,_,_=>by simp at h
 | _::_,[],_,h,_,_=>by simp at h
def J7(up:Bool):∀{m:aa} {l:List Int},okM m->m.length=l.length->digl l->
  match nx up m l with
  | some r=>r.length=m.length/\digl r/\gE m r=true/\dI up (vl l) (vl r)/\∀e,e.length=m.length->digl e->gE m e=true->dI up (vl l) (vl e)->dI up (vl r) (vl e)
  | none=>∀e,e.length=m.length->digl e->gE m e=true->¬dI up (vl l) (vl e)
 | [],[],_,_,_=>by
  simp only[nx];refine⟨rfl,by intro y hy;simp at hy,rfl,by cases up<;>simp[dI],?_⟩;intro e E _ _ _;simp only[iN]at E;rw[sN E];cases up<;>simp[dI]
 | c::m,y::l,M,t,R=>by
  simp only[cU,rZ]at t;have ih:=J7 up (nM M) t (cE R);have hy:=R y (by simp);have A:=cE R;have u:=wg up m;have B:=FW up (nM M);have L:∀{z w:Int} {a b:List Int},a.length=m.length->b.length=m.length->digl a->digl b->z<w->vl (z::a)<vl (w::b):=λE J P N V=>Lc (by rw[E,J]) P N V;have d:∀(z:Int) {a b:List Int},a.length=m.length->b.length=m.length->(dI up (vl (z::a)) (vl (z::b))↔dI up (vl a) (vl b)):=λz a b E J=>by
   simp only[vl,E,J];cases up<;>simp only[dI]<;>omega
  have q:∀{z w:Int} {a b:List Int},a.length=m.length->b.length=m.length->digl a->digl b->z≠w->(dI up (vl (z::a)) (vl (w::b))↔dI up z w):=λ{z w a b} E J P N V=>by
   rcases Int.lt_trichotomy z w with h | h | h
   ·have:=L E J P N h;cases up<;>simp only[dI]<;>omega
   ·exact absurd h V
   ·have:=L J E N P h;cases up<;>simp only[dI]<;>omega
  have f:∀e:List Int,e.length=(c::m).length->∃w a,e=w::a/\a.length=m.length:=λe h=>by
   match e,h with
   | w::a,h=>exact⟨w,a,rfl,by simpa using h⟩
  by_cases g:c=88
  ·cases D:nx up m l with
   | some r=>
    rw[D]at ih;obtain⟨H,O,T,Q,U⟩:=ih;simp only[nx,ad g,D];refine⟨by simp[H],λz s=>?_,by simp[gE,g,T],(d y t.symm H).2 Q,λe v j p o=>?_⟩
    ·rcases bX.1 s with rfl | s
     ·exact hy
     ·exact O z s
    ·obtain⟨w,a,rfl,i⟩:=f e v;simp only[gE,g,o9,BF,kP]at p;by_cases C:y=w
     ·subst C;exact(d y H i).2 (U a i (cE j) p ((d y t.symm i).1 o))
     ·exact(q H i O (cE j) C).2 ((q t.symm i A (cE j) C).1 o)
   | none=>
    rw[D]at ih;by_cases k:y=lst up
    ·simp only[nx,ad g,D,ad k];intro e v j p o;obtain⟨w,a,rfl,i⟩:=f e v;simp only[gE,g,o9,BF,kP]at p;have hw9:=j w (by simp);by_cases C:y=w
     ·subst C;exact ih a i (cE j) p ((d y t.symm i).1 o)
     ·have:=(q t.symm i A (cE j) C).1 o;cases up<;>simp only[dI,lst,am,af]at this k<;>omega
    ·simp only[nx,ad g,D,ab k];have hs:48<=stp up y/\stp up y<58/\y≠stp up y/\dI up y (stp up y)/\∀w,w≠y->dI up y w->dI up (stp up y) w:=by
      cases up<;>simp only[dI,lst,stp,am,af]at k ⊢<;>exact⟨by omega,by omega,by omega,by omega,λw E J=>by omega⟩
     obtain⟨Y,s2,s3,Z,W⟩:=hs;refine⟨by simp[u],λz s=>?_,by simp[gE,g,tn],(q t.symm u A B s3).2 Z,λe v j p o=>?_⟩
     ·rcases bX.1 s with rfl | s
      ·exact⟨Y,s2⟩
      ·exact B z s
     ·obtain⟨w,a,rfl,i⟩:=f e v;simp only[gE,g,o9,BF,kP]at p;by_cases C:y=w
      ·subst C;exact absurd ((d y t.symm i).1 o) (ih a i (cE j) p)
      ·have X:=W w (λh=>C h.symm) ((q t.symm i A (cE j) C).1 o);by_cases K:stp up y=w
       ·rw[K];exact(d w u i).2 (vE up (nM M) i.symm (cE j) p)
       ·exact(q u i B (cE j) K).2 X
  ·have S:=CC (M c (by simp)) g;have F:∀w a,gE (c::m) (w::a)=true->w=((c.toNat:Nat):Int)/\gE m a=true:=λw a h=>by
    simp only[gE,aC,fP,bI,cA]at h;exact⟨(h.1.resolve_left g).symm,h.2⟩
   by_cases n:((c.toNat:Nat):Int)=y
   ·cases D:nx up m l with
    | some r=>
     rw[D]at ih;obtain⟨H,O,T,Q,U⟩:=ih;simp only[nx,ab g,ad n,D,ek];refine⟨by simp[H],λz s=>?_,by simp[gE,n,T],(d y t.symm H).2 Q,λe v j p o=>?_⟩
     ·rcases bX.1 s with rfl | s
      ·exact hy
      ·exact O z s
     ·obtain⟨w,a,rfl,i⟩:=f e v;obtain⟨rfl,x⟩:=F w a p;rw[n]at o ⊢;exact(d y H i).2 (U a i (cE j) x ((d y t.symm i).1 o))
    | none=>
     rw[D]at ih;simp only[nx,ab g,ad n,D,fY];intro e v j p o;obtain⟨w,a,rfl,i⟩:=f e v;obtain⟨rfl,x⟩:=F w a p;rw[n]at o;exact ih a i (cE j) x ((d y t.symm i).1 o)
   ·have I:decide (((c.toNat:Nat):Int)>y)=up↔dI up y ((c.toNat:Nat):Int):=by
     cases up
     ·simp only[sI,dI];omega
     ·simp only[cA,dI];omega
    by_cases G:decide (((c.toNat:Nat):Int)>y)=up
    ·simp only[nx,ab g,ab n,ad G];refine⟨by simp[u],λz s=>?_,by simp[gE,tn],(q t.symm u A B (λh=>n h.symm)).2 (I.1 G),λe v j p o=>?_⟩
     ·rcases bX.1 s with rfl | s
      ·exact S
      ·exact B z s
     ·obtain⟨w,a,rfl,i⟩:=f e v;obtain⟨rfl,x⟩:=F w a p;exact(d _ u i).2 (vE up (nM M) i.symm (cE j) x)
    ·simp only[nx,ab g,ab n,ab G];intro e v j p o;obtain⟨w,a,rfl,i⟩:=f e v;obtain⟨rfl,x⟩:=F w a p;exact G (I.2 ((q t.symm i A (cE j) (λh=>n h.symm)).1 o))
 | [],_::_,_,h,_=>by simp at h
 | _::_,[],_,h,_=>by simp at h
def ap:aa->List Int->Nat
 | c::m,y::l=>if c=88\/((c.toNat:Nat):Int)=y then ap m l+1 else 0
 | _,_=>0
def NL:∀(m:aa) (l:List Int),ap m l<=m.length
 | [],_=>by simp[ap]
 | c::m,[]=>by simp[ap]
 | c::m,y::l=>by
  have:=NL m l;simp only[ap,cU];split<;>omega
def GQ:∀(m:aa) (l:List Int),gE (m.take (ap m l)) (l.take (ap m l))=true
 | [],_=>by simp[ap,gE]
 | c::m,[]=>by simp[ap,gE]
 | c::m,y::l=>by
  have:=GQ m l;simp only[ap];split
  ·rename_i h;simp only[qi,gE,this,uQ,fP,bI,cA];exact h
  ·rfl
def Ey:∀{m:aa} {l:List Int} {c:UInt8} {y:Int},m[ap m l]?=some c->l[ap m l]?=some y->¬c=88/\¬((c.toNat:Nat):Int)=y
 | [],_,c,y,h,_=>by simp at h
 | x::m,[],c,y,_,h=>by simp at h
 | x::m,z::l,c,y,b,a=>by
  by_cases h:x=88\/((x.toNat:Nat):Int)=z
  ·simp only[ap,ad h,An]at b a;exact Ey b a
  ·simp only[ap,ab h,iE,aq]at b a;subst b a;exact⟨λe=>h (.inl e),λe=>h (.inr e)⟩
def bkn(up:Bool):aa->List Int->aa->Option (List Int)
 | c::m,y::d,m'=>
  match bkn up m d m' with
  | some r=>some (y::r)
  | none=>if c=88/\y≠lst up then some (stp up y::fil up (m++m'))else none
 | _,_,_=>none
def xi(up:Bool):∀{m m':aa} {d d':List Int},m.length=d.length->gE m d=true->
  nx up (m++m') (d++d')=match nx up m' d' with | some r=>some (d++r) | none=>bkn up m d m'
 | [],m',[],d',_,_=>by
  simp only[gP];cases nx up m' d'<;>rfl
 | c::m,m',y::d,d',e,b=>by
  simp only[cU,rZ]at e;simp only[gE,aC,fP,bI,cA]at b;have ih:=xi up (m':=m') (d':=d') e b.2;simp only[kL,nx,ih,bkn];by_cases a:c=88
  ·simp only[ad a];cases nx up m' d' with
   | some r=>rfl
   | none=>
    cases bkn up m d m' with
    | some r=>rfl
    | none=>
     by_cases hy:y=lst up
     ·simp[hy]
     ·simp[hy,a]
  ·simp only[ab a,ad (b.1.resolve_left a)];cases nx up m' d' with
   | some r=>rfl
   | none=>
    cases bkn up m d m' with
    | some r=>rfl
    | none=>simp[a]
 | [],_,_::_,_,h,_=>by simp at h
 | _::_,_,[],_,h,_=>by simp at h
def BL(up:Bool)(c:UInt8)(y:Int):∀{m m':aa} {d:List Int},m.length=d.length->
  bkn up (m++[c]) (d++[y]) m'=if c=88/\y≠lst up then some (d++stp up y::fil up m')else bkn up m d (c::m')
 | [],m',[],_=>by simp[bkn]
 | x::m,m',z::d,a=>by
  simp only[cU,rZ]at a;have ih:=BL up c y (m':=m') a;simp only[kL,bkn,ih];by_cases h:c=88/\y≠lst up
  ·simp only[ad h]
  ·simp only[ab h,rU,kL,gP]
 | [],_,_::_,h=>by simp at h
 | _::_,_,[],h=>by simp at h
def bki(up:Bool)(m:aa)(l:List Int):Nat->Option Nat
 | 0=>none
 | j+1=>if m[j]?=some 88/\l[j]?≠some (lst up)then some j else bki up m l j
def Ja(up:Bool)(m:aa)(l:List Int):∀{j a:Nat},bki up m l j=some a->a<j
 | 0,a,h=>by simp[bki]at h
 | j+1,a,h=>by
  simp only[bki]at h;split at h
  ·simp only[aq]at h;omega
  ·have:=Ja up m l h;omega
def BX(up:Bool)(m:aa)(l:List Int)(hl:m.length=l.length):∀j,j<=m.length->
  bkn up (m.take j) (l.take j) (m.drop j)=(bki up m l j).map λa=>l.take a++stp up (l.getD a 0)::fil up (m.drop (a+1))
 | 0,_=>by simp[bkn,bki]
 | j+1,h=>by
  obtain⟨c,hc⟩:∃c,m[j]?=some c:=⟨m[j]'(by omega),bj (by omega)⟩;obtain⟨y,hy⟩:∃c,l[j]?=some c:=⟨l[j]'(by omega),bj (by omega)⟩;have ih:=BX up m l hl j (by omega);rw[ju hc]at ih;rw[oO,oO,hc,hy];simp only[Option.toList_some];rw[BL up c y (by simp;omega),ih];have hg:l.getD j 0=y:=by rw[Bh,hy];rfl
  simp only[bki,hc,hy,ne_eq,aq];by_cases hh:c=88/\¬y=lst up
  ·rw[ad hh,ad hh,ek,hg]
  ·rw[ab hh,ab hh]
section
variable {m:List UInt8} {l z:List Int}
def jU(hl:m.length=l.length)(h18:m.length<=18)(k f g:Int)(up:Bool):
  aw (dR 20000000) 20000000 (m,k,up,f,g,0,over z 0 l,over z 0 l)=some (m,k,up,f,g,((ap m l:Nat):Int),over z 0 l,over z 0 l):=by
 have:=fL (step:=dR 20000000) (λx=>x.1=m/\(0<=x.2.2.2.2.2.1/\x.2.2.2.2.2.1<=m.length)/\x.2.2.2.2.2.2.1=over z 0 l) (λx=>m.length - x.2.2.2.2.2.1.toNat)
  (λx=>(x.1,x.2.1,x.2.2.1,x.2.2.2.1,x.2.2.2.2.1,x.2.2.2.2.2.1+((ap (m.drop x.2.2.2.2.2.1.toNat) (l.drop x.2.2.2.2.2.1.toNat):Nat):Int),x.2.2.2.2.2.2.1,x.2.2.2.2.2.2.2)) ?_ 20000000 (m,k,up,f,g,0,over z 0 l,over z 0 l) ⟨rfl,⟨by simp,by simp⟩,rfl⟩ (by simp;omega)
 ·simpa using this
 rintro⟨m',k,up,f,g,i,d,o⟩ ⟨q1,⟨h0,hi⟩,q2⟩;simp only at q1 h0 hi q2 ⊢;subst q1 q2;obtain⟨j,rfl⟩:∃j:Nat,i=j:=⟨i.toNat,by omega⟩;simp only[cf];rcases aI j m'.length with hlt | hge
 ·obtain⟨c,hc⟩:∃c,m'[j]?=some c:=⟨m'[j],bj hlt⟩;obtain⟨y,hy⟩:∃c,l[j]?=some c:=⟨l[j]'(by omega),bj (by omega)⟩;have hg:(over z 0 l)[j]?=some y:=by rw[rf (by omega)];exact hy
  have hb:(decide ((j:Int)<((List.length m':Nat):Int)))=true:=by simp;omega
  have hw:wrap .i64 ((j:Int)+1)=((j+1:Nat):Int):=by rw[wrap_i64 _ (by omega) (by omega)];omega
  rw[ju hc,ju hy];simp only[dR,hb,am,kl hc,ob,vK,hw,cK (show j<18 by omega),hg,ap];by_cases h88:c=88
  ·refine .inl ⟨(m',k,up,f,g,((j+1:Nat):Int),over z 0 l,o),by simp only[au h88,am],⟨rfl,⟨by simp only;omega,by simp only;omega⟩,rfl⟩,by simp only[cf];omega,?_⟩;simp only[cf,ad (show c=88\/((c.toNat:Nat):Int)=y from .inl h88)];congr 6;omega
  ·simp only[ar h88,af];by_cases hcy:((c.toNat:Nat):Int)=y
   ·have e:(((c.toNat:Nat):Int)==y)=true:=by simpa using hcy
    refine .inl ⟨(m',k,up,f,g,((j+1:Nat):Int),over z 0 l,o),by simp only[e,am],⟨rfl,⟨by simp only;omega,by simp only;omega⟩,rfl⟩,by simp only[cf];omega,?_⟩;simp only[cf,ad (show c=88\/((c.toNat:Nat):Int)=y from .inr hcy)];congr 6;omega
   ·have e:(((c.toNat:Nat):Int)==y)=false:=by simpa using hcy
    refine .inr ?_;simp only[e,af,ab (show¬(c=88\/((c.toNat:Nat):Int)=y)fromλh=>h.elim h88 hcy),Int.ofNat_zero,Int.add_zero,Int.natCast_zero]
 ·have hb:(decide ((j:Int)<((List.length m':Nat):Int)))=false:=by simp;omega
  refine .inr ?_;simp only[dR,hb,af];rw[oi hge];simp[ap]
def EW(hl:m.length=l.length)(h18:m.length<=18)(f:Int)(up:Bool)(o:List Int)(i:Nat)(hi:i<=m.length):
  aw (bR 20000000) 20000000 (m,up,f,lst up,(i:Int),over z 0 l,o) =
   some (match bki up m l i with | none=>.inl (0,16) | some a=>.inr (m,up,f,((a:Nat):Int),o)):=by
 have:=fL (step:=bR 20000000) (λx=>x.1=m/\x.2.2.2.1=lst up/\(0<=x.2.2.2.2.1/\x.2.2.2.2.1<=m.length)/\x.2.2.2.2.2.1=over z 0 l) (λx=>x.2.2.2.2.1.toNat)
  (λx=>match bki up m l x.2.2.2.2.1.toNat with | none=>.inl (0,16) | some a=>.inr (x.1,x.2.1,x.2.2.1,((a:Nat):Int),x.2.2.2.2.2.2)) ?_ 20000000 (m,up,f,lst up,(i:Int),over z 0 l,o) ⟨rfl,rfl,⟨by simp only;omega,by simp only;omega⟩,rfl⟩ (by simp;omega)
 ·simpa using this
 rintro⟨m',up',f,g,i,d,o⟩ ⟨q1,q3,⟨h0,hi⟩,q2⟩;simp only at q1 q3 h0 hi q2 ⊢;subst q1 q2 q3;obtain⟨j,rfl⟩:∃j:Nat,i=j:=⟨i.toNat,by omega⟩;simp only[cf];rcases j with _ | j
 ·refine .inr ?_;have w:wrap .i64 (((0:Nat):Int) - 1)=-1:=wrap_i64 _ (by omega) (by omega);simp only[bR,w,show decide ((-1:Int)<0)=true from rfl,am,bki]
 ·have w:wrap .i64 (((j+1:Nat):Int) - 1)=(j:Int):=by rw[wrap_i64 _ (by omega) (by omega)];omega
  have e0:decide ((j:Int)<0)=false:=by simp
  obtain⟨c,hc⟩:∃c,m'[j]?=some c:=⟨m'[j]'(by omega),bj (by omega)⟩;obtain⟨y,hy⟩:∃c,l[j]?=some c:=⟨l[j]'(by omega),bj (by omega)⟩;have hg:(over z 0 l)[j]?=some y:=by rw[rf (by omega)];exact hy
  simp only[bR,w,e0,af,kl hc,ob,vK,cK (show j<18 by omega),hg,bki,hc,hy,aq,ne_eq];by_cases h88:c=88
  ·by_cases hy9:y=lst up
   ·have e:(y != lst up)=false:=by simpa using hy9
    refine .inl ⟨(m',up',f,lst up,(j:Int),over z 0 l,o),by simp only[au h88,am,e,af],⟨rfl,rfl,⟨by simp only;omega,by simp only;omega⟩,rfl⟩,by simp only[cf];omega,?_⟩;simp only[cf,ab (show¬(c=88/\¬y=lst up)fromλh=>h.2 hy9)]
   ·have e:(y != lst up)=true:=by simpa using hy9
    refine .inr ?_;simp only[au h88,am,e,ad (show c=88/\¬y=lst up from⟨h88,hy9⟩)]
  ·refine .inl ⟨(m',up',f,lst up,(j:Int),over z 0 l,o),by simp only[ar h88,af],⟨rfl,rfl,⟨by simp only;omega,by simp only;omega⟩,rfl⟩,by simp only[cf];omega,?_⟩;simp only[cf,ab (show¬(c=88/\¬y=lst up)fromλh=>h88 h.1)]
def xY(p:m.length<=18)(up:Bool)(d:List Int)(e:d.length=18)(i:Nat)(hi:i<=m.length):
  aw (ba 20000000) 20000000 (m,fst up,(i:Int),d)=some (m,over d i (fil up (m.drop i))):=by
 have:=fL (step:=ba 20000000) (λx=>x.1=m/\x.2.1=fst up/\(0<=x.2.2.1/\x.2.2.1<=m.length)/\x.2.2.2.length=18) (λx=>m.length - x.2.2.1.toNat)
  (λx=>(m,over x.2.2.2 x.2.2.1.toNat (fil up (m.drop x.2.2.1.toNat)))) ?_ 20000000 (m,fst up,(i:Int),d) ⟨rfl,rfl,⟨by simp only;omega,by simp only;omega⟩,e⟩ (by simp;omega)
 ·simpa using this
 rintro⟨m',f,i,d⟩ ⟨l,n,⟨s,hi⟩,e⟩;simp only at l n s hi e ⊢;subst l n;obtain⟨j,rfl⟩:∃j:Nat,i=j:=⟨i.toNat,by omega⟩;simp only[cf];rcases aI j m'.length with h | k
 ·obtain⟨c,hc⟩:∃c,m'[j]?=some c:=⟨m'[j],bj h⟩;have o:j<18:=by omega
  have g:(decide ((j:Int)<((List.length m':Nat):Int)))=true:=by simp;omega
  have r:wrap .i64 ((j:Int)+1)=((j+1:Nat):Int):=by rw[wrap_i64 _ (by omega) (by omega)];omega
  have q:Nat.blt j 18=true:=dl o;have b:∀c:UInt8,fil up (c::m'.drop (j+1))=(cond (decide (c=88)) (fst up) ((c.toNat:Nat):Int))::fil up (m'.drop (j+1)):=λ_=>rfl;rw[ju hc,b];simp only[ba,g,am,kl hc,ob,vK,cK o,q,r];by_cases a:c=88
  ·refine .inl ⟨(m',fst up,((j+1:Nat):Int),(d.set j ((c.toNat:Nat):Int)).set j (fst up)),by simp only[au a,am],⟨rfl,rfl,⟨by simp only;omega,by simp only;omega⟩,by simpa using e⟩,by simp only[cf];omega,?_⟩;simp only[cf,au a,am];rw[List.set_set,vU _ _ _ _ (by omega)]
  ·refine .inl ⟨(m',fst up,((j+1:Nat):Int),d.set j ((c.toNat:Nat):Int)),by simp only[ar a,af],⟨rfl,rfl,⟨by simp only;omega,by simp only;omega⟩,by simpa using e⟩,by simp only[cf];omega,?_⟩;simp only[cf,ar a,af];rw[vU _ _ _ _ (by omega)]
 ·have g:(decide ((j:Int)<((List.length m':Nat):Int)))=false:=by simp;omega
  refine .inr ?_;simp only[ba,g,af];rw[oi k];simp[fil,A7]
def xQ(z l F:List Int)(i:Nat)(h:i+F.length=l.length):over (over z 0 l) i F=over z 0 (l.take i++F):=by
 unfold over;simp only[nE,gP,bV,gv,dx,o7 (show i<=l.length by omega),h];rw[qG (by omega),List.drop_append_of_le_length (by omega),List.drop_of_length_le (aV l.length)];simp
end
def Ef{m:aa}(hm:chk m=0)(up:Bool)(k:Int)(h0:0<=k)(h1:k<10 ^ m.length):
  cC 20000000 m k up=some (match nx up m (dg m.length k)with | some r=>(vl r,0) | none=>(0,16)):=by
 obtain⟨h18,_,hok⟩:=kW hm;have hp:=yl m.length h18;have hlen:=tg m.length k;have hrng:=pB m.length k;have hv:=If m.length k h0 h1;have hn:=J7 up hok hlen.symm hrng;have hsplit:=IN m k h18 h0 (by omega);generalize dg m.length k=l at hlen hrng hv hn hsplit ⊢;have hout:(over [0,0,0,0,0,0,0,0,0,0,0,0,0,0,0,0,0,0] 0 l).length=18:=by rw[HO _ _ _ (by simp;omega)];rfl
 have fin:∀r:List Int,nx up m l=some r->eF 20000000 m (over [0,0,0,0,0,0,0,0,0,0,0,0,0,0,0,0,0,0] 0 r)=some (vl r):=by
  intro r hr;rw[hr]at hn;obtain⟨i1,i2,_⟩:=hn;rw[HU _ h18 i1 i2,vX i2]
 have hap:=NL m l;have hagr:=GQ m l;have happ:=xi up (m:=m.take (ap m l)) (m':=m.drop (ap m l)) (d:=l.take (ap m l)) (d':=l.drop (ap m l)) (by simp;omega) hagr;rw[ui,ui]at happ;have hz0:jn 20000000 m k=some (over [0,0,0,0,0,0,0,0,0,0,0,0,0,0,0,0,0,0] 0 l):=hsplit;generalize hzz:([0,0,0,0,0,0,0,0,0,0,0,0,0,0,0,0,0,0]:List Int)=z at hout fin hz0;rcases aI (ap m l) m.length with hlt | hge
 ·obtain⟨c,hc⟩:∃c,m[ap m l]?=some c:=⟨m[ap m l],bj hlt⟩;obtain⟨y,hy⟩:∃c,l[ap m l]?=some c:=⟨l[ap m l]'(by omega),bj (by omega)⟩;obtain⟨h88,hcy⟩:=Ey hc hy;have hg:(over z 0 l)[ap m l]?=some y:=by rw[rf (by omega)];exact hy
  have eL:(((ap m l:Nat):Int)==((List.length m:Nat):Int))=false:=by simp;omega
  have hj:ap m l<18:=by omega
  have hfc:fil up (m.drop (ap m l))=((c.toNat:Nat):Int)::fil up (m.drop (ap m l+1)):=by
   rw[ju hc];simp[fil,h88]
  have hbk:=BX up m l hlen.symm (ap m l) hap;have hnx:nx up (m.drop (ap m l)) (l.drop (ap m l))=if decide (((c.toNat:Nat):Int)>y)=up then some (fil up (m.drop (ap m l)))else none:=by
   rw[hfc,ju hc,ju hy];simp only[nx,ab h88,ab hcy]
  rw[hnx]at happ;by_cases hup:decide (((c.toNat:Nat):Int)>y)=up
  ·rw[ad hup]at happ;simp only at happ;have f2:=fin _ happ;rw[happ];simp only[];rw[<-xQ z l _ _ (by rw[wg,lY];omega)]at f2;have l2:=xY h18 up _ hout (ap m l) hap;cases up
   ·have l0:=jU (z:=z) hlen.symm h18 k 57 48 false;have l2':aw (ba 20000000) 20000000 (m,57,((ap m l:Nat):Int),over z 0 l)=_:=l2;simp only[cC,jc,am,hz0,ob,l0,eL,af,kl hc,cK hj,hg,hup,o9,dD,l2',f2]
   ·have l0:=jU (z:=z) hlen.symm h18 k 48 57 true;have l2':aw (ba 20000000) 20000000 (m,48,((ap m l:Nat):Int),over z 0 l)=_:=l2;simp only[cC,dD,am,hz0,ob,l0,eL,af,kl hc,cK hj,hg,hup,o9,l2',f2]
  ·rw[ab hup]at happ;simp only[hbk]at happ;have hne:(!(decide (((c.toNat:Nat):Int)>y)==up))=true:=by
    cases up<;>cases hh:decide (((c.toNat:Nat):Int)>y)<;>simp_all
   have l1:=EW (z:=z) hlen.symm h18 (fst up) up (over z 0 l) (ap m l) hap;cases hb:bki up m l (ap m l)with
   | none=>
    rw[hb]at happ l1;simp only[fY]at happ;rw[happ];simp only[]at l1 ⊢;cases up
    ·have l0:=jU (z:=z) hlen.symm h18 k 57 48 false;have l1':aw (bR 20000000) 20000000 (m,false,57,48,((ap m l:Nat):Int),over z 0 l,over z 0 l)=_:=l1;simp only[cC,jc,am,hz0,ob,l0,eL,af,kl hc,cK hj,hg,hne,l1']
    ·have l0:=jU (z:=z) hlen.symm h18 k 48 57 true;have l1':aw (bR 20000000) 20000000 (m,true,48,57,((ap m l:Nat):Int),over z 0 l,over z 0 l)=_:=l1;simp only[cC,dD,am,hz0,ob,l0,eL,af,kl hc,cK hj,hg,hne,l1']
   | some a=>
    have ha:=Ja up m l hb;obtain⟨w,hw⟩:∃c,l[a]?=some c:=⟨l[a]'(by omega),bj (by omega)⟩;have hga:(over z 0 l)[a]?=some w:=by rw[rf (by omega)];exact hw
    have hgd:l.getD a 0=w:=by rw[Bh,hw];rfl
    have hwr:=hrng w (dY hw);have haj:a<18:=by omega
    have e2:Nat.blt a 18=true:=dl haj;have w1:wrap .i64 ((a:Int)+1)=((a+1:Nat):Int):=by rw[wrap_i64 _ (by omega) (by omega)];omega
    rw[hb]at happ l1;simp only[ek,hgd]at happ;have f2:=fin _ happ;rw[happ];simp only[]at l1 ⊢;rw[<-xQ z l _ _ (by rw[cU,wg,lY];omega),<-vU _ _ _ _ (by omega)]at f2;have l2:=xY h18 up ((over z 0 l).set a (stp up w)) (by simpa using hout) (a+1) (by omega);cases up
    ·have l0:=jU (z:=z) hlen.symm h18 k 57 48 false;have l1':aw (bR 20000000) 20000000 (m,false,57,48,((ap m l:Nat):Int),over z 0 l,over z 0 l)=some (.inr (m,false,57,((a:Nat):Int),over z 0 l)):=l1;have l2':aw (ba 20000000) 20000000 (m,57,((a+1:Nat):Int),(over z 0 l).set a (w - 1))=_:=l2;have w2:wrap .u8 (w - 1)=w - 1:=en _ (by omega) (by omega);simp only[cC,jc,am,hz0,ob,l0,eL,af,kl hc,cK hj,hg,hne,l1',cK haj,hga,e2,w1,w2,l2',f2]
    ·have l0:=jU (z:=z) hlen.symm h18 k 48 57 true;have l1':aw (bR 20000000) 20000000 (m,true,48,57,((ap m l:Nat):Int),over z 0 l,over z 0 l)=some (.inr (m,true,48,((a:Nat):Int),over z 0 l)):=l1;have l2':aw (ba 20000000) 20000000 (m,48,((a+1:Nat):Int),(over z 0 l).set a (w+1))=_:=l2;have w2:wrap .u8 (w+1)=w+1:=en _ (by omega) (by omega);simp only[cC,dD,am,hz0,ob,l0,eL,af,kl hc,cK hj,hg,hne,l1',cK haj,hga,e2,w1,w2,l2',f2]
 ·have e:ap m l=m.length:=by omega
  rw[e,yP,<-hlen,yP,oM]at happ;simp only[nx,vv]at happ;have eL:(((ap m l:Nat):Int)==((List.length m:Nat):Int))=true:=by rw[e];simp
  rw[happ];simp only[hv];cases up
  ·have l0:=jU (z:=z) hlen.symm h18 k 57 48 false;simp only[cC,jc,am,hz0,ob,l0,eL]
  ·have l0:=jU (z:=z) hlen.symm h18 k 48 57 true;simp only[cC,dD,af,hz0,ob,l0,eL,am]
def near(up:Bool)(m:aa)(k:Int):Option Int->Prop
 | some R=>hasM m R=true/\dI up k R/\∀e,hasM m e=true->dI up k e->dI up R e
 | none=>∀e,hasM m e=true->¬dI up k e
def res(o:Option Int):Int×Int:=match o with | some r=>(r,0) | none=>(0,16)
def lF{m:aa}{e:Int}(h:hasM m e=true):(dg m.length e).length=m.length/\digl (dg m.length e)/\gE m (dg m.length e)=true/\vl (dg m.length e)=e/\0<=e/\e<10 ^ m.length:=by
 unfold hasM at h;simp only[aC,cA]at h;exact⟨tg _ _,pB _ _,h.2.2,If _ _ h.1 h.2.1,h.1,h.2.1⟩
def J6{m:aa}{r:List Int}(e:r.length=m.length)(b:digl r)(d:gE m r=true):hasM m (vl r)=true:=by
 have a:=rF b;have c:=O5 b;rw[e]at a c;unfold hasM;rw[c,d,au a.1,au a.2];rfl
def tz{m:aa}(n:chk m=0)(up:Bool)(k:Int)(p:0<=k)(q:k<10 ^ m.length):∃o,cC 20000000 m k up=some (res o)/\near up m k o:=by
 obtain⟨t,_,d⟩:=kW n;have b:=J7 up d (tg m.length k).symm (pB m.length k);have h:=If m.length k p q;refine⟨(nx up m (dg m.length k)).map vl,?_,?_⟩
 ·rw[Ef n up k p q];cases nx up m (dg m.length k)<;>rfl
 ·cases hx:nx up m (dg m.length k)with
  | none=>
   rw[hx]at b;intro e f j;obtain⟨g,c,i,a,_⟩:=lF f;exact b _ g c i (by rw[h,a];exact j)
  | some r=>
   rw[hx]at b;obtain⟨s,v,w,l,u⟩:=b;refine⟨J6 s v w,by rw[h]at l;exact l,λe f j=>?_⟩;obtain⟨g,c,i,a,_⟩:=lF f;have:=u _ g c i (by rw[h,a];exact j);rwa[a]at this
def Aq{m:aa}{e:Int}(h:hasM m e=true):0<=idx m.reverse e/\idx m.reverse e<10 ^ cnt m/\nth m.reverse (idx m.reverse e)=e:=by
 rw[zn]at h;simp only[aC,cA]at h;obtain⟨k0,k1,k2⟩:=h;have:=ue m.reverse e k0;rw[oY]at this;exact⟨this.1,this.2,F7 k0 (by rw[qH];exact k1) k2⟩
section
variable {m:List UInt8} (hm:chk m=0)
include hm
def Ft{i j:Int}(d:0<=i)(e:i<=j)(c:j<10 ^ cnt m):nth m.reverse i<=nth m.reverse j:=by
 obtain⟨b,_,a⟩:=kW hm;rcases Int.lt_or_eq_of_le e with h | rfl
 ·exact Int.le_of_lt (vO (uH a) i j d h (by rw[oY];exact c))
 ·exact pX _
def yO(k:Int):jR 20000000 m k=some (decide (0<=k/\k<10 ^ m.length)):=by
 obtain⟨b,_,c⟩:=kW hm;simp only[jR,IU m.length b,ob];by_cases a:0<=k
 ·have d0:decide (k>=0)=true:=by simpa using a
  simp only[d0,am,a,ie,mu]
 ·have d0:decide (k>=0)=false:=by simpa using a
  simp only[d0,af,a,tD,ml]
def E8(k:Int):∃o,nK 20000000 m k=some (res o)/\near true m k o:=by
 obtain⟨l,_,a⟩:=kW hm;have q:((0:Int) != 0)=false:=by simp
 simp only[nK,js 20000000 m (by omega),hm,ke,q,af,yO hm];by_cases c:k<0
 ·refine⟨some (nth m.reverse 0),by simp only[au c,am,He hm,ke,res],BO hm (by omega),?_,λe b f=>?_⟩
  ·have:=(mZ (uH a) 0 (by omega)).1;simp only[dI];omega
  ·obtain⟨n,g,r⟩:=Aq b;have:=Ft hm (pX 0) n g;simp only[dI];omega
 ·by_cases d:k<10 ^ m.length
  ·obtain⟨o,p,j⟩:=tz hm true k (by omega) d;exact⟨o,by simp only[ar c,af,au (show 0<=k/\k<10 ^ m.length from⟨by omega,d⟩),dD,p,ke],j⟩
  ·refine⟨none,by simp only[ar c,af,ar (show¬(0<=k/\k<10 ^ m.length)fromλh=>d h.2),jc,am,res],λe b f=>?_⟩;obtain⟨_,_,_,_,_,i⟩:=lF b;simp only[dI]at f;omega
def D2(k:Int):∃o,nL 20000000 m k=some (res o)/\near false m k o:=by
 obtain⟨j,_,a⟩:=kW hm;have q:((0:Int) != 0)=false:=by simp
 simp only[nL,js 20000000 m (by omega),hm,ke,q,af,yO hm];by_cases c:k<0
 ·refine⟨none,by simp only[au c,am,res],λe b f=>?_⟩;obtain⟨_,_,_,_,i,_⟩:=lF b;simp only[dI]at f;omega
 ·by_cases d:k<10 ^ m.length
  ·obtain⟨o,n,g⟩:=tz hm false k (by omega) d;exact⟨o,by simp only[ar c,af,au (show 0<=k/\k<10 ^ m.length from⟨by omega,d⟩),dD,n,ke],g⟩
  ·have p:=pL (cnt m);refine⟨some (nth m.reverse (10 ^ cnt m - 1)),by simp only[ar c,af,ar (show¬(0<=k/\k<10 ^ m.length)fromλh=>d h.2),jc,am,zx hm,ke,res],BO hm (by omega),?_,λe b f=>?_⟩
   ·have:=(mZ (uH a) (10 ^ cnt m - 1) (by omega)).2;rw[qH]at this;simp only[dI];omega
   ·obtain⟨l,r,s⟩:=Aq b;have:=Ft hm l (show idx m.reverse e<=10 ^ cnt m - 1 by omega) (by omega);simp only[dI];omega
end
end Go.Sh.Mk
namespace Go.Sh
open Go.Abs
def fitN(s:aa)(g:Nat):List Nat:=(List.range' 1 g).filter (agr s)
def pV(l:List Nat):List Int:=l.map λk:Nat=>(k:Int)
def yv(l:List Nat):(pV l).length=l.length:=by simp[pV]
def xd(c:UInt8){j:Nat}(b:j<10):(wrap .i64 (wrap .u8 (((c.toNat:Nat):Int) - 48))==((j:Nat):Int))=(c==UInt8.ofNat (48+j)):=by
 have hc:=c.toNat_lt;have d:=vA (((c.toNat:Nat):Int) - 48);rw[wrap_i64 _ (by omega) (by omega),Dk,uB,bI,bI];have a:(UInt8.ofNat (48+j)).toNat=48+j:=by simp;omega
 constructor
 ·intro h;apply hZ.1;omega
 ·rintro rfl;omega
def F8(n:Nat)(a b:UInt8){k:Nat}(l:k<=31):iY n [a,b] (k:Int)=some (agr [a,b] k):=by
 have i:wrap .i64 (Int.tdiv (k:Int) 10)=((k / 10:Nat):Int):=by
  rw[show Int.tdiv (k:Int) 10=((k / 10:Nat):Int)from rfl,wrap_i64 _ (by omega) (by omega)]
 have f:Int.tmod (k:Int) 10=((k%10:Nat):Int):=rfl;have s0:sx [a,b] 0=some a:=rfl;have d:sx [a,b] 1=some b:=rfl;have c:(88:Int)=((88:Nat):Int):=rfl;unfold iY;simp only[s0,d,ob,i,f];rw[xd a (show k / 10<10 by omega),xd b (show k%10<10 by omega),c,qL (by omega),qL (by omega)];show _=some ((a==UInt8.ofNat 88||a==UInt8.ofNat (48+k / 10))&&(b==UInt8.ofNat 88||b==UInt8.ofNat (48+k%10)));generalize(a==UInt8.ofNat 88)=e;generalize(b==UInt8.ofNat 88)=h;generalize(a==UInt8.ofNat (48+k / 10))=j;generalize(b==UInt8.ofNat (48+k%10))=g;cases e<;>cases h<;>cases j<;>cases g<;>rfl
def room{k:Nat}(h:k<=60000000):Nat.ble (k+1) bE=true:=dl (by unfold bE;omega)
def Br{X Y:Type}{step:X->Option (X⊕Y)}{f:Nat->List Int->X}{y:List Int->Y}{p:Nat->Bool}{g:Nat}(e:g<=1000)
  (h:∀i out,i<g->out.length<=1000->step (f i out)=some (.inl (f (i+1) (if p (i+1)then out++[((i+1:Nat):Int)]else out))))
  (b:∀out,step (f g out)=some (.inr (y out))) {N:Nat} (a:g<N):aw step N (f 0 [])=some (y (pV ((List.range' 1 g).filter p))):=by
 have d:∀(r i:Nat) (out:List Int),i+r=g->out.length<=i->∀N,r<N->aw step N (f i out)=some (y (out++pV ((List.range' (i+1) r).filter p))):=by
  intro r
  induction r with
  | zero=>
   intro i out hi c N a;obtain⟨N,rfl⟩:∃q,N=q+1:=⟨N - 1,by omega⟩;obtain rfl:i=g:=by omega
   rw[aw,b];simp[pV]
  | succ r ih=>
   intro i out hi c N a;obtain⟨N,rfl⟩:∃q,N=q+1:=⟨N - 1,by omega⟩;rw[aw,h i out (by omega) (by omega)];show aw step N _=_;by_cases hp:p (i+1)=true
   ·rw[ad hp,ih (i+1) _ (by omega) (by simp;omega) N (by omega),si,Jv hp];simp[pV]
   ·rw[ab hp,ih (i+1) _ (by omega) (by omega) N (by omega),si,I5 hp]
 have:=d g 0 [] (by omega) (by simp) N a;simpa using this
def Ew (n:Nat) (h:100<n) (a b:UInt8) {g:Nat} (e:g<=31):dL n [a,b] (g:Int)=some (pV (fitN [a,b] g)):=by
 unfold dL
 have:=Br (step:=d6 n) (f:=λi out=>([a,b],(g:Int),(i:Int),out)) (y:=λl=>l) (p:=agr [a,b]) (g:=g) (by omega)
  (λi out hi j=>by
   have c:wrap .i64 ((i:Int)+1)=((i+1:Nat):Int):=by rw [wrap_i64 _ (by omega) (by omega)];omega
   unfold d6;simp only [c];rw [au (show (i:Int)<(g:Int) by omega),F8 n a b (by omega),room (by omega)];by_cases hp:agr [a,b] (i+1)=true
   ·rw [ad hp];simp only [ob,hp,am]
   ·rw [ab hp];rw [Bg] at hp;simp only [ob,hp,am,af])
  (λout=>by
   unfold d6;simp only [ar (show ¬(g:Int)<(g:Int) by omega),af])
  (N:=n) (by omega)
 have d:aw (d6 n) n ([a,b],(g:Int),0,([]:List Int))=_:=this;rw [d];rfl
def monI(m:aa):List Int:=if m=[]then[0]else if 0<sea m then[sea m]else pV (fitN m 12)
def dayI(d:aa):List Int:=if d=[]then[0]else pV (fitN d 31)
def dZ{l:aa}(h:l≠[]):(l==([]:aa))=false:=aN.2 h
def len2{s:aa}(h:s.length=2):∃a b,s=[a,b]:=by
 match s,h with
 | [a,b],_=>exact⟨a,b,rfl⟩
def O2(n:Nat)(k:100<n)(g l:Bool)(dg:aa)(x q:Int)(m d:aa)(k0 k1 k2:Int)(j:m=[]\/m.length=2)(p:d=[]\/d.length=2):
  mD n g l dg x q m d k0 k1 k2=some (g,l,dg,x,q,m,d,k0,k1,k2,monI m,dayI d):=by
 have f:m.length<=18:=by rcases j with h | h;(rw[h];simp);omega
 have i:d≠[]->dL n d 31=some (dayI d):=λh=>by
  obtain⟨a,b,rfl⟩:=len2 (p.resolve_left h);rw[show(31:Int)=((31:Nat):Int)from rfl,Ew n k a b (by omega)];unfold dayI;rw[ab h]
 have c:d=[]->dayI d=[0]:=λh=>by unfold dayI;rw[ad h]
 have o:m≠[]->¬0<sea m->dL n m 12=some (monI m):=λh hs=>by
  obtain⟨a,b,rfl⟩:=len2 (j.resolve_left h);rw[show(12:Int)=((12:Nat):Int)from rfl,Ew n k a b (by omega)];unfold monI;rw[ab h,ab hs]
 unfold mD;rw[pK n g l dg x q m d k0 k1 k2 f];simp only[ob];by_cases hs:0<sea m
 ·have e:m≠[]:=by rintro rfl;exact absurd hs (by decide)
  have hm':monI m=[sea m]:=by unfold monI;rw[ab e,ad hs]
  rw[au hs];by_cases h:d=[]
  ·rw[h,<-h,c h,hm',h];rfl
  ·rw[dZ h,i h,hm'];rfl
 ·rw[ar hs];by_cases e:m=[]
  ·have hm':monI m=[0]:=by unfold monI;rw[ad e]
   by_cases h:d=[]
   ·rw[c h,hm',h,e];rfl
   ·rw[dZ h,i h,hm',e];rfl
  ·rw[dZ e,o e hs];by_cases h:d=[]
   ·rw[c h,h];rfl
   ·rw[dZ h,i h];rfl
def DN (n:Nat) (e:100<n) (g l:Bool) (dg:aa) (x q:Int) (m d:aa) (k0 k1 k2:Int):gL n g l dg x q m d k0 k1 k2=some (monI m):=by
 unfold gL;by_cases a:m=[]
 ·unfold monI;rw [ad a,a];rfl
 ·rw [dZ a,jp n e];simp only [ob,af];unfold monI;rw [ab a];by_cases hs:0<sea m
  ·rw [ad hs,au (show sea m>0 from hs)];rfl
  ·rw [ab hs,ar (show ¬sea m>0 from hs)]
   have:=Br (step:=cQ n) (f:=λi out=>(((i+1:Nat):Int),g,l,dg,x,q,m,d,k0,k1,k2,out)) (y:=λl=>l) (p:=agr m) (g:=12) (by omega)
    (λi out hi h=>by
     have b:wrap .i64 (((i+1:Nat):Int)+1)=((i+1+1:Nat):Int):=by rw [wrap_i64 _ (by omega) (by omega)];omega
     unfold cQ;simp only [d4,d8,b];rw [au (show ((i+1:Nat):Int)<=12 by omega),qz n m (i+1) (by omega),room (by omega)];by_cases hp:agr m (i+1)=true
     ·rw [ad hp,ad hp];rfl
     ·rw [ab hp,ab hp];rfl)
    (λout=>by
     unfold cQ;simp only [d4,d8,ar (show ¬((12+1:Nat):Int)<=12 by omega),af])
    (N:=n) (by omega)
   have c:aw (cQ n) n (1,g,l,dg,x,q,m,d,k0,k1,k2,([]:List Int))=_:=this;rw [c];rfl
def oV(y:Int):Bool:=decide (y%4=0)&&(decide (y%100≠0)||decide (y%400=0))
def lenI(y m:Int):Int:=if m=4\/m=6\/m=9\/m=11 then 30 else if m=2 then(if oV y then 29 else 28)else 31
def Eo(y:Int){b:Int}(c:0<b):(Int.tmod y b==0)=decide (y%b=0):=by
 rw[uB,bI,decide_eq_true_iff];have h:=GW (a:=y) (b:=b);have g:=G4 y (show b≠0 by omega);have f:=D3 y c;by_cases hc:0<=y\/b∣y
 ·rw[ad hc]at h;omega
 ·rw[ab hc]at h;have d:¬b∣y:=λe=>hc (.inr e);have:y%b≠0:=λe=>d (FQ e);omega
def xb(n:Nat)(y m:Int):dh n y m=some (lenI y m):=by
 have a:(Int.tmod y 100 != 0)=decide (y%100≠0):=by
  rw[bne,Eo y (by omega)];by_cases h:y%100=0<;>simp[h]
 unfold dh;rw[Eo y (by omega),Eo y (by omega),a];have body:(cond (m==2) (cond (decide (y%4=0)) (cond (decide (y%100≠0)) (some (29:Int)) (cond (decide (y%400=0)) (some 29) (some 28))) (some 28)) (some 31))=some (if m=2 then(if oV y=true then 29 else 28)else 31):=by
  rw[gH];by_cases c:m=2
  ·rw[ad c,ad c];unfold oV;cases decide (y%4=0)<;>cases decide (y%100≠0)<;>cases decide (y%400=0)<;>rfl
  ·rw[ab c,ab c]
 rw[body];unfold lenI;by_cases d:m=4
 ·subst d;rfl
 ·by_cases f:m=6
  ·subst f;rfl
  ·by_cases e:m=9
   ·subst e;rfl
   ·by_cases b:m=11
    ·subst b;rfl
    ·rw[aN.2 d,aN.2 f,aN.2 e,aN.2 b,ab (show¬(m=4\/m=6\/m=9\/m=11)by omega)];rfl
def tY(n:Nat){y:Int}(h:-20000000000000000<=y/\y<=20000000000000000):dM n y=some (1+(y - 1) / 4 - (y - 1) / 100+(y - 1) / 400):=by
 unfold dM;rw[wrap_i64 (y - 1) (by omega) (by omega),sK n (by omega) (by omega) (by omega) (by omega),sK n (by omega) (by omega) (by omega) (by omega),sK n (by omega) (by omega) (by omega) (by omega)];show some _=some _;have f:-5000000000000001<=(y - 1) / 4/\(y - 1) / 4<=5000000000000001:=by omega
 have e:-5000000000000001<=(y - 1) / 100/\(y - 1) / 100<=5000000000000001:=by omega
 have d:-5000000000000001<=(y - 1) / 400/\(y - 1) / 400<=5000000000000001:=by omega
 generalize(y - 1) / 4=a at *;generalize(y - 1) / 100=b at *;generalize(y - 1) / 400=c at *;simp only[];rw[wrap_i64 (1*a) (by omega) (by omega),wrap_i64 (-1*b) (by omega) (by omega),wrap_i64 (1*c) (by omega) (by omega),wrap_i64 (1+1*a) (by omega) (by omega),wrap_i64 (1+1*a+-1*b) (by omega) (by omega),wrap_i64 _ (by omega) (by omega)];congr 1;omega
def HE(y:Int):(1+y / 4 - y / 100+y / 400>1+(y - 1) / 4 - (y - 1) / 100+(y - 1) / 400)↔oV y=true:=by
 unfold oV;simp only[aC,fP,cA];omega
def Lq(n:Nat){y:Int}(h:cV y):iv n y=some (oV y,0):=by
 unfold iv;have h':=h;unfold cV at h';rw[eA,ad h,wrap_i64 (y+1) (by omega) (by omega),tY n (by omega),tY n (by omega),show y+1 - 1=y by omega];have b:=HE y;show some (decide (1+y / 4 - y / 100+y / 400>1+(y - 1) / 4 - (y - 1) / 100+(y - 1) / 400),(0:Int))=_;by_cases a:oV y=true
 ·rw[a,au (b.2 a)]
 ·rw[Bg]at a;rw[a,ar (λe=>by rw[b.1 e]at a;cases a)]
def se(n:Nat){y:Int}(h:cV y){m:Nat}(d:1<=m)(c:m<=12):dj n y (m:Int)=some (lenI y (m:Int)):=by
 unfold dj;rw[Lq n h];show cond (oV y&&((m:Int)==2)) _ _=_;have a:wrap .i64 ((m:Int) - 1)=((m - 1:Nat):Int):=by rw[wrap_i64 _ (by omega) (by omega)];omega
 rw[a,cK (show m - 1<12 by omega)];have b:m=1\/m=2\/m=3\/m=4\/m=5\/m=6\/m=7\/m=8\/m=9\/m=10\/m=11\/m=12:=by omega
 rcases b with rfl | rfl | rfl | rfl | rfl | rfl | rfl | rfl | rfl | rfl | rfl | rfl<;>unfold lenI<;>cases oV y<;>rfl
def Gf(n:Nat){y:Int}(h:cV y){m:Nat}(b:1<=m)(a:m<=12):lW n y (m:Int)=some (lenI y (m:Int),0):=by
 unfold lW;rw[A8 n h b a,se n h b a];rfl
def gG(y m:Int):28<=lenI y m/\lenI y m<=31:=by
 unfold lenI;split
 ·omega
 ·split
  ·split<;>omega
  ·omega
end Go.Sh
