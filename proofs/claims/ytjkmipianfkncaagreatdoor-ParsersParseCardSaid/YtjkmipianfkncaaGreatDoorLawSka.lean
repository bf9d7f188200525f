
import Derived.Laws.RangeString
import Derived.Laws.RangeAny
import Derived.Test.YtjkmipianfkncaaGreatDoorShK
import Derived.Lib.IndexLaws
import Derived.Test.YtjkmipianfkncaaGreatDoorAbsZ
set_option linter.unusedVariables false
set_option linter.unusedSimpArgs false
set_option maxRecDepth 100000
open Go.IntKind(wrap)
set_option linter.defProp false
namespace Go.Sh
open Go.Abs
def fm{X Y:Type}{step:X->Option (X⊕Y)}(I:X->Prop)(b:X->Nat)(G:X->Y)
  (h:∀x,I x->(∃a,step x=some (.inl a)/\I a/\b a<b x/\G a=G x)\/step x=some (.inr (G x))):
  ∀(n:Nat) (x:X),I x->b x<n->au step n x=some (G x)
 | 0,x,_,e=>by omega
 | n+1,x,hx,e=>by
  rcases h x hx with⟨a,c,d,g,f⟩ | c
  ·simp only[au,c];rw[fm I b G h n a d (by omega),f]
  ·simp only[au,c]
def qI{X Y:Type}{step:X->Option (X⊕Y)}(I:X->Prop)(b:X->Nat)(Q:Y->Prop)
  (h:∀x,I x->(∃a,step x=some (.inl a)/\I a/\b a<b x)\/∃y,step x=some (.inr y)/\Q y):
  ∀(n:Nat) (x:X),I x->b x<n->∃y,au step n x=some y/\Q y
 | 0,x,_,e=>by omega
 | n+1,x,hx,e=>by
  rcases h x hx with⟨a,d,c,f⟩ | ⟨y,d,c⟩
  ·simp only[au,d];exact qI I b Q h n a c (by omega)
  ·exact⟨y,by simp only[au,d],c⟩
def Au(x:Int):0<=wrap .u8 x/\wrap .u8 x<256:=by
 show 0<=x%256/\x%256<256;omega
def jI(x:Int)(a:0<=x)(b:x<256):wrap .u8 x=x:=by
 show x%256=x;omega
def He(x:Int):wrap .u8 x=x%256:=rfl
def wrap_i64(x:Int)(a:-9223372036854775808<=x)(b:x<9223372036854775808):wrap .i64 x=x:=by
 simp only[wrap,IntKind.signed,IntKind.bits];simp;omega
def dw{l:aa}{i:Nat}{c:UInt8}(h:l[i]?=some c):sx l (i:Int)=some c:=by
 simp[sx,h]
def eZ{n i:Nat}(h:i<n):ix n (i:Int)=some i:=by
 simp[ix];omega
def fe{n i:Nat}(h:i<=n):bx n (i:Int)=some i:=by
 simp[bx];omega
def Ao{l:aa}{i:Nat}{c:UInt8}(h:l[i]?=some c)(hc:c.toNat<128):dec l i=(c.toNat,1):=by
 have hlt:i<l.length:=by
  rcases aF i l.length with h' | h'
  ·exact h'
  ·rw[gC h']at h;cases h
 have hs:i<(ByteArray.mk l.toArray).size:=hlt;have hg:(ByteArray.mk l.toArray)[i]'hs=c:=by
  rw[bg hlt]at h;simp only[ar]at h;exact h
 unfold dec;rw[decode_ascii _ i hs (by rw[hg];exact hc),hg]
def GP{l:aa}{i:Nat}{c:UInt8}(h:l[i]?=some c)(hc:128<=c.toNat):128<=(dec l i).1/\1<=(dec l i).2:=by
 have hlt:i<l.length:=by
  rcases aF i l.length with h' | h'
  ·exact h'
  ·rw[gC h']at h;cases h
 have hs:i<(ByteArray.mk l.toArray).size:=hlt;have hg:(ByteArray.mk l.toArray)[i]'hs=c:=by
  rw[bg hlt]at h;simp only[ar]at h;exact h
 unfold dec;exact decode_high _ i hs (by rw[hg];exact hc)
def sC{α:Type}{l:List α}{i:Nat}{c:α}(h:l[i]?=some c):i<l.length:=by
 rcases aF i l.length with a | a
 ·exact a
 ·rw[gC a]at h;cases h
def bK{α:Type}{l:List α}{i:Nat}{c:α}(h:l[i]?=some c):l.drop i=c::l.drop (i+1):=by
 have a:=sC h;rw[bg a]at h;simp only[ar]at h;rw[<-h,qd a]
def jy{α c:Type}[BEq α][LawfulBEq α][DecidableEq α](a b:α)(x y:c):(cond (a==b) x y)=if a=b then x else y:=by
 by_cases h:a=b
 ·subst h;simp
 ·rw[aK.2 h];simp[h]
def GK{α c:Type}[BEq α][LawfulBEq α][DecidableEq α](a b:α)(x y:c):(cond (a != b) x y)=if a=b then y else x:=by
 by_cases h:a=b
 ·subst h;simp
 ·rw[bne,aK.2 h];simp[h]
def bB{a:Type}(p:Prop)[Decidable p](x y:a):(cond (decide p) x y)=if p then x else y:=by
 by_cases h:p<;>simp[h]
def GQ{a:Type}(b:Bool)(x y:a):(cond (!b) x y)=cond b y x:=by cases b<;>rfl
def ii(a b:Nat):(decide (((a:Nat):Int)<((b:Nat):Int)))=decide (a<b):=by
 by_cases h:a<b<;>simp[h]
def kR(a b:Nat):(decide (((a:Nat):Int)>=((b:Nat):Int)))=decide (b<=a):=by
 by_cases h:b<=a<;>simp[h]
def nc(c d:UInt8):((((c.toNat:Nat):Int))==((d.toNat:Nat):Int))=(c==d):=by
 by_cases h:c=d
 ·subst h;simp
 ·have b:c.toNat≠d.toNat:=λe=>h (ga.1 e);have a:((c.toNat:Nat):Int)≠((d.toNat:Nat):Int):=by omega
  rw[aK.2 a,aK.2 h]
def VZ(c:UInt8):UInt8.ofNat (Int.toNat ((c.toNat:Nat):Int))=c:=by simp
def two(c:Nat):aa:=[UInt8.ofNat (48+c / 10),UInt8.ofNat (48+c%10)]
def sea(m:aa):Int:=match(List.range 21).find? (λj=>m==two (21+j))with | some j=>((21+j:Nat):Int) | none=>0
def kW{j:Nat}(a:j<21):sea (two (21+j))=((21+j:Nat):Int):=by
 have:((List.range 21).all λj=>sea (two (21+j))==((21+j:Nat):Int))=true:=by decide +kernel
 simpa using(List.all_eq_true.1 this) j (by simpa using a)
def n9(m:aa):sea m=0\/∃j,j<21/\m=two (21+j):=by
 unfold sea;split
 ·rename_i j h;have b:=List.find?_some h;have a:=List.mem_of_find?_eq_some h;exact .inr ⟨j,by simpa using a,by simpa using b⟩
 ·exact .inl rfl
def oS{b:UInt8}{d:Nat}(h:Lib.digitVal b=some d):d<10/\b.toNat=48+d:=by
 unfold Lib.digitVal at h;split at h
 ·cases h;omega
 ·cases h
def MW{a b:UInt8}{v:Int}(h:Lib.atoi [a,b]=some v)(p:21<=v)(n:v<42):∃j,j<21/\[a,b]=two (21+j)/\v=((21+j:Nat):Int):=by
 obtain⟨b0,r,e,l⟩:=Lib.atoi_cases h;cases e;rcases l with⟨_,m,_,_,g⟩ | ⟨_,m,_,c,g⟩ | ⟨_,_,m,c,g⟩
 ·omega
 ·simp only[Lib.decFrom]at c;split at c
  ·rename_i d hd;have:=(oS hd).1;simp only[ar]at c;omega
  ·cases c
 ·simp only[Lib.decFrom]at c;split at c
  ·rename_i d hd;split at c
   ·rename_i d' f;obtain⟨k1,k2⟩:=oS hd;obtain⟨o,k4⟩:=oS f;simp only[ar]at c;refine⟨m - 21,by omega,?_,by omega⟩;have i:(21+(m - 21)) / 10=d:=by omega
    have k:(21+(m - 21))%10=d':=by omega
    unfold two;rw[i,k,<-k2,<-k4];simp
   ·cases c
  ·cases c
def vj{j:Nat}(a:j<21):Lib.atoi (two (21+j))=some ((21+j:Nat):Int):=by
 have:((List.range 21).all λj=>Lib.atoi (two (21+j))==some ((21+j:Nat):Int))=true:=by decide +kernel
 simpa using(List.all_eq_true.1 this) j (by simpa using a)
def qk(n:Nat)(g l:Bool)(dg:aa)(x q:Int)(m d:aa)(k0 k1 k2:Int)(k:m.length<=18):bH n g l dg x q m d k0 k1 k2=some (sea m,decide (0<sea m)):=by
 have h:Nat.ble m.length 18=true:=dF k;rcases n9 m with i | ⟨j,c,rfl⟩
 ·unfold bH;rw[h,i];show opt (Lib.atoi m) _ _=_;cases o:Lib.atoi m with
  | none=>rfl
  | some v=>
   show cond _ _ _=_;by_cases f:m.length=2
   ·rw[f];obtain⟨a,b,rfl⟩:∃a b,m=[a,b]:=by
     match m,f with
     | [a,b],_=>exact⟨a,b,rfl⟩
    show ob (dn n v) _=_;unfold dn;rw[bB,bB];split
    ·rfl
    ·split
     ·rfl
     ·exfalso;obtain⟨j,c,e,_⟩:=MW o (by omega) (by omega);rw[e,kW c]at i;omega
   ·rw[show(((m.length:Nat):Int) != 2)=true by simp;omega];rfl
 ·rw[kW c];have e:bH n g l dg x q (two (21+j)) d k0 k1 k2=some (((21+j:Nat):Int),true):=by
   unfold bH;rw[h,vj c];show ob (dn n ((21+j:Nat):Int)) _=_;unfold dn;rw[bB,bB,ab (by omega),ab (by omega)];rfl
  rw[e];have:decide (0<((21+j:Nat):Int))=true:=by simp;omega
  rw[this]
def J0(n:Nat){c:Nat}(hc:c<100):fW n (c:Int)=some (two c):=by
 have i:Int.tdiv (c:Int) 10=((c / 10:Nat):Int):=by
  rw[show(10:Int)=((10:Nat):Int)from rfl,<-Int.ofNat_tdiv]
 have f:Int.tmod (c:Int) 10=((c%10:Nat):Int):=by
  rw[show(10:Int)=((10:Nat):Int)from rfl,<-Int.ofNat_tmod]
 have j:c / 10<10:=by omega
 have e:c%10<10:=by omega
 unfold fW;rw[i,f];have g:wrap .i64 ((c / 10:Nat):Int)=((c / 10:Nat):Int):=wrap_i64 _ (by omega) (by omega);have d:wrap .i64 (((c / 10:Nat):Int)+1)=((c / 10+1:Nat):Int):=by rw[wrap_i64 _ (by omega) (by omega)];omega
 have h:wrap .i64 (((c%10:Nat):Int)+1)=((c%10+1:Nat):Int):=by rw[wrap_i64 _ (by omega) (by omega)];omega
 rw[g,d,h,fe (by omega),fe (by omega)];show ob (bx (c / 10+1) ((c / 10:Nat):Int)) _=_;rw[fe (by omega)];show ob (bx (c%10+1) ((c%10:Nat):Int)) _=_;rw[fe (by omega)];unfold two;generalize c / 10=a at *;generalize c%10=b at *;have:((List.range 10).all λa=>(List.range 10).all λb=>ob (cat (List.drop a (List.take (a+1) ([48,49,50,51,52,53,54,55,56,57]:aa))) (List.drop b (List.take (b+1) ([48,49,50,51,52,53,54,55,56,57]:aa)))) (λs=>some s)==some [UInt8.ofNat (48+a),UInt8.ofNat (48+b)])=true:=by decide +kernel
 have k:=(cq.1 ((cq.1 this) a (by simpa using j))) b (by simpa using e);simpa using k
def Og{m:aa}(h:∀j,j<21->m≠two (21+j)):sea m=0:=by
 rcases n9 m with b | ⟨j,a,e⟩
 ·exact b
 ·exact absurd e (h j a)
def xh(n:Nat)(g l:Bool)(dg:aa)(x q:Int)(m d:aa)(k0 k1 k2:Int):∀(r j:Nat),j+r=21->(∀i,i<j->m≠two (21+i))->∀N,r<N->
  au (bF n) N (((21+j:Nat):Int),g,l,dg,x,q,m,d,k0,k1,k2)=some (if sea m=0 then .inr ()else .inl (sea m)):=by
 intro r
 induction r with
 | zero=>
  intro j c a N e;obtain⟨N,rfl⟩:∃k,N=k+1:=⟨N - 1,by omega⟩;have hs:sea m=0:=Og (λi hi=>a i (by omega));rw[au];have:bF n (((21+j:Nat):Int),g,l,dg,x,q,m,d,k0,k1,k2)=some (.inr (.inr ())):=by
   unfold bF;rw[bB,ab (by show¬(((21+j:Nat):Int)<=41);omega)]
  rw[this,ae hs]
 | succ r ih=>
  intro j c a N e;obtain⟨N,rfl⟩:∃k,N=k+1:=⟨N - 1,by omega⟩;rw[au];by_cases b:m=two (21+j)
  ·have hs:sea m=((21+j:Nat):Int):=by rw[b];exact kW (by omega)
   have:bF n (((21+j:Nat):Int),g,l,dg,x,q,m,d,k0,k1,k2)=some (.inr (.inl ((21+j:Nat):Int))):=by
    unfold bF;rw[bB,ae (by show((21+j:Nat):Int)<=41;omega)];show ob (fW n ((21+j:Nat):Int)) _=_;rw[J0 n (by omega)];show cond (m==two (21+j)) _ _=_;rw[jy,ae b]
   rw[this,hs,ab (by omega)]
  ·have:bF n (((21+j:Nat):Int),g,l,dg,x,q,m,d,k0,k1,k2)=some (.inl (((21+(j+1):Nat):Int),g,l,dg,x,q,m,d,k0,k1,k2)):=by
    unfold bF;rw[bB,ae (by show((21+j:Nat):Int)<=41;omega)];show ob (fW n ((21+j:Nat):Int)) _=_;rw[J0 n (by omega)];show cond (m==two (21+j)) _ _=_;rw[jy,ab b];have:wrap .i64 (((21+j:Nat):Int)+1)=((21+(j+1):Nat):Int):=by rw[wrap_i64 _ (by omega) (by omega)];omega
    show some (Sum.inl (wrap .i64 (((21+j:Nat):Int)+1),_))=_;rw[this]
   rw[this]
   exact ih (j+1) (by omega) (λi hi=>by
    rcases aF i j with h | h
    ·exact a i h
    ·have:i=j:=by omega
     rw[this];exact b) N (by omega)
def nZ(n:Nat)(a:100<n)(g l:Bool)(dg:aa)(x q:Int)(m d:aa)(k0 k1 k2:Int):aN n g l dg x q m d k0 k1 k2=some (sea m):=by
 unfold aN;have:=xh n g l dg x q m d k0 k1 k2 21 0 rfl (λi hi=>absurd hi (by omega)) n (by omega);rw[show((21+0:Nat):Int)=21 from rfl]at this;rw[this];by_cases h:sea m=0
 ·rw[ae h,h];rfl
 ·rw[ab h];rfl
def agr(s:aa)(k:Nat):Bool:=match s with
 | [a,b]=>(a==88||a==UInt8.ofNat (48+k / 10))&&(b==88||b==UInt8.ofNat (48+k%10))
 | _=>false
def gK(s:aa)(g:Nat):Bool:=(List.range g).any λi=>agr s (i+1)
def GN{X Y:Type}{step:X->Option (X⊕Y)}{f:Nat->X}{p:Nat->Bool}{g:Nat}{yes no:Y}(h:∀k,1<=k->k<=g->step (f k)=some (if p k then .inr yes else .inl (f (k+1))))(e:step (f (g+1))=some (.inr no)){N:Nat}(b:g<N):
  au step N (f 1)=some (if(List.range g).any (λi=>p (i+1))then yes else no):=by
 have d:∀(r j:Nat),j+r=g->(∀i,i<j->p (i+1)=false)->∀N,r<N->au step N (f (j+1))=some (if(List.range g).any (λi=>p (i+1))then yes else no):=by
  intro r
  induction r with
  | zero=>
   intro j c a N b;obtain⟨N,rfl⟩:∃k,N=k+1:=⟨N - 1,by omega⟩;have:(List.range g).any (λi=>p (i+1))=false:=by
    rw[rc];intro i hi;rw[a i (by have:=kx.1 hi;omega)];simp
   rw[au,show j+1=g+1 by omega,e,this];rfl
  | succ r ih=>
   intro j c a N b;obtain⟨N,rfl⟩:∃k,N=k+1:=⟨N - 1,by omega⟩;rw[au,h (j+1) (by omega) (by omega)];cases hp:p (j+1)with
   | true=>
    have:(List.range g).any (λi=>p (i+1))=true:=sS.2 ⟨j,kx.2 (by omega),hp⟩;rw[this];rfl
   | false=>
    exact ih (j+1) (by omega) (λi hi=>by
     rcases aF i j with h | h
     ·exact a i h
     ·have:i=j:=by omega
      rw[this];exact hp) N (by omega)
 exact d g 0 (by omega) (λi hi=>absurd hi (by omega)) N b
def uq{a:UInt8}{k:Nat}(b:k<256):((((a.toNat:Nat):Int))==((k:Nat):Int))=(a==UInt8.ofNat k):=by
 have h:(UInt8.ofNat k).toNat=k:=by simp;omega
 rw[<-nc,h]
def Ob(n:Nat)(a b:UInt8){g k:Nat}(r:1<=k)(q:k<=g)(s:g<=31):
  cU n ([a,b],(g:Int),(k:Int))=some (if agr [a,b] k then .inr (.inl true)else .inl ([a,b],(g:Int),((k+1:Nat):Int))):=by
 have j:Int.tdiv (k:Int) 10=((k / 10:Nat):Int):=by
  rw[show(10:Int)=((10:Nat):Int)from rfl,<-Int.ofNat_tdiv]
 have f:Int.tmod (k:Int) 10=((k%10:Nat):Int):=by
  rw[show(10:Int)=((10:Nat):Int)from rfl,<-Int.ofNat_tmod]
 have h:wrap .u8 (48+wrap .u8 (wrap .i64 (Int.tdiv (k:Int) 10)))=((48+k / 10:Nat):Int):=by
  rw[j,wrap_i64 _ (by omega) (by omega),jI ((k / 10:Nat):Int) (by omega) (by omega),jI _ (by omega) (by omega)];omega
 have e:wrap .u8 (48+wrap .u8 (Int.tmod (k:Int) 10))=((48+k%10:Nat):Int):=by
  rw[f,jI ((k%10:Nat):Int) (by omega) (by omega),jI _ (by omega) (by omega)];omega
 have i:wrap .i64 ((k:Int)+1)=((k+1:Nat):Int):=by rw[wrap_i64 _ (by omega) (by omega)];omega
 have c:(88:Int)=((88:Nat):Int):=rfl;have s0:sx [a,b] 0=some a:=rfl;have d:sx [a,b] 1=some b:=rfl;unfold cU;rw[bB,ae (show(k:Int)<=(g:Int)by omega)];simp only[s0,d,ob,h,e,i];rw[c,uq (by omega),uq (by omega),uq (by omega),uq (by omega)];show _=some (if((a==UInt8.ofNat 88||a==UInt8.ofNat (48+k / 10))&&(b==UInt8.ofNat 88||b==UInt8.ofNat (48+k%10)))=true then _ else _);generalize(a==UInt8.ofNat 88)=p;generalize(b==UInt8.ofNat 88)=m;generalize(a==UInt8.ofNat (48+k / 10))=o;generalize(b==UInt8.ofNat (48+k%10))=l;cases p<;>cases m<;>cases o<;>cases l<;>rfl
def CU(n:Nat)(m:100<n)(s:aa)(g:Nat)(j:g<=31):cQ n s (g:Int)=some (gK s g):=by
 unfold cQ;by_cases c:s.length=2
 ·obtain⟨a,b,rfl⟩:∃a b,s=[a,b]:=by
   match s,c with
   | [a,b],_=>exact⟨a,b,rfl⟩
  have e:cU n ([a,b],(g:Int),((g+1:Nat):Int))=some (.inr (.inr ())):=by
   unfold cU;rw[bB,ab (show¬((g+1:Nat):Int)<=(g:Int)by omega)]
  have:=GN (f:=λk=>([a,b],(g:Int),((k:Nat):Int))) (p:=agr [a,b]) (g:=g) (N:=n) (λk l d=>Ob n a b l d j) e (by omega);show ob (au (cU n) n ([a,b],(g:Int),((1:Nat):Int))) _=_;rw[this];unfold gK;split<;>simp_all[ob]
 ·rw[show(((s.length:Nat):Int) != 2)=true by simp;omega];have:gK s g=false:=by
   unfold gK;rw[rc];intro i _
   match s,c with
   | [],_=>simp[agr]
   | [_],_=>simp[agr]
   | [_,_],h=>exact absurd rfl h
   | _::_::_::_,_=>simp[agr]
  rw[this];rfl
def th(n:Nat)(s:aa)(k:Nat)(l:k<100):dP n s (k:Int)=some (if agr s k then 1 else 0):=by
 unfold dP;rw[J0 n l];show cond _ _ _=_;by_cases d:s.length=2
 ·obtain⟨a,b,rfl⟩:∃a b,s=[a,b]:=by
   match s,d with
   | [a,b],_=>exact⟨a,b,rfl⟩
  have s0:sx [a,b] 0=some a:=rfl;have f:sx [a,b] 1=some b:=rfl;have g:sx (two k) 0=some (UInt8.ofNat (48+k / 10)):=rfl;have e:sx (two k) 1=some (UInt8.ofNat (48+k%10)):=rfl;have c:(88:Int)=((88:Nat):Int):=rfl;rw[show(((([a,b]:aa).length:Nat):Int)==2)=true from rfl];simp only[s0,f,g,e,ob,aj];rw[c,uq (by omega),uq (by omega),nc,nc];show _=some (if((a==UInt8.ofNat 88||a==UInt8.ofNat (48+k / 10))&&(b==UInt8.ofNat 88||b==UInt8.ofNat (48+k%10)))=true then _ else _);generalize(a==UInt8.ofNat 88)=o;generalize(b==UInt8.ofNat 88)=j;generalize(a==UInt8.ofNat (48+k / 10))=m;generalize(b==UInt8.ofNat (48+k%10))=i;cases o<;>cases j<;>cases m<;>cases i<;>rfl
 ·rw[show(((s.length:Nat):Int)==2)=false by simp;omega];have:agr s k=false:=by
   match s,d with
   | [],_=>rfl
   | [_],_=>rfl
   | [_,_],h=>exact absurd rfl h
   | _::_::_::_,_=>rfl
  rw[this];rfl
def Ff(n:Nat)(h:100<n)(s:aa)(g:Nat)(d:g<=31):dl n s (g:Int)=some (if gK s g then 1 else 0):=by
 unfold dl;have a:di n (s,(g:Int),((g+1:Nat):Int))=some (.inr (.inr ())):=by
  unfold di;rw[bB,ab (show¬((g+1:Nat):Int)<=(g:Int)by omega)]
 have:=GN (f:=λk=>(s,(g:Int),((k:Nat):Int))) (p:=agr s) (g:=g) (N:=n) (step:=di n) (yes:=.inl 1) (no:=.inr ()) (λk e c=>by
  unfold di;rw[bB,ae (show(k:Int)<=(g:Int)by omega)];show ob (dP n s (k:Int)) _=_;rw[th n s k (by omega)];have b:wrap .i64 ((k:Int)+1)=((k+1:Nat):Int):=by rw[wrap_i64 _ (by omega) (by omega)];omega
  simp only[ob,b];cases agr s k<;>rfl) a (by omega)
 show ob (au (di n) n (s,(g:Int),((1:Nat):Int))) _=_;rw[this];unfold gK;split<;>simp_all[ob]
def wm(n:Nat){a b:Int}(r:1<b)(o:b<1000)(t:-4611686018427387904<=a)(l:a<4611686018427387904):lg n a b=some (a / b,0):=by
 have i:(b==0)=false:=by simp;omega
 have k:(b==-1)=false:=by simp;omega
 unfold lg;simp only[i,k,af];have u:a / b*b+a%b=a:=Int.ediv_mul_add_emod a b;have s:=Jv a (show b≠0 by omega);have j:=Ij a (show 0<b by omega);have m:-4611686018427387904<=a / b:=by
  rw[Int.le_ediv_iff_mul_le (by omega)];have:(-4611686018427387904:Int)*b<=-4611686018427387904*1:=Int.mul_le_mul_of_nonpos_left (by omega) (by omega);omega
 have q:a / b<4611686018427387904:=by
  rw[Int.ediv_lt_iff_lt_mul (by omega)];have:(4611686018427387904:Int)*1<=4611686018427387904*b:=Int.mul_le_mul_of_nonneg_left (by omega) (by omega);omega
 by_cases e:0<=a
 ·have c:Int.tdiv a b=a / b:=OQ e;have d:decide (a<0)=false:=by simp;omega
  have d2:decide (b<0)=false:=by simp;omega
  rw[c,d,d2,wrap_i64 (a / b) (by omega) (by omega)];cases(Int.tmod a b != 0)<;>rfl
 ·have d:decide (a<0)=true:=by simp;omega
  have d2:decide (b<0)=false:=by simp;omega
  have c:=Int.tdiv_eq_ediv (a:=a) (b:=b);have g:=LD (a:=a) (b:=b);rw[d,d2];by_cases hd:b∣a
  ·have f:Int.tmod a b=0:=by
    rw[g,ae (.inr hd)];have:=Int.emod_eq_zero_of_dvd hd;omega
   rw[f,c,ae (.inr hd)];rw[Int.add_zero,wrap_i64 (a / b) (by omega) (by omega)];rfl
  ·have p:a%b≠0:=λh=>hd (I9 h);have f:(Int.tmod a b != 0)=true:=by
    rw[g,ab (by rintro(h | h);exact e h;exact hd h)];simp;omega
   have hs:b.sign=1:=Int.sign_eq_one_of_pos (by omega);rw[f,c,ab (by rintro(h | h);exact e h;exact hd h),hs];rw[wrap_i64 (a / b+1) (by omega) (by omega),Int.add_sub_cancel,wrap_i64 (a / b) (by omega) (by omega)];rfl
def TA(n:Nat){a b:Int}(o:1<b)(i:b<1000):uT n a b=some (a%b,0):=by
 have e:(b==0)=false:=by simp;omega
 have j:(b==-1)=false:=by simp;omega
 unfold uT;simp only[e,j,af];have m:=Jv a (show b≠0 by omega);have g:=Ij a (show 0<b by omega);have c:=LD (a:=a) (b:=b);have d2:decide (b<0)=false:=by simp;omega
 by_cases hc:0<=a\/b∣a
 ·rw[ae hc]at c;have:Int.tmod a b=a%b:=by omega
  rw[this,d2];have d:decide (a%b<0)=false:=by simp;omega
  rw[d];cases h:(a%b != 0)
  ·rfl
  ·rfl
 ·rw[ab hc]at c;have l:(b.natAbs:Int)=b:=by omega
  rw[l]at c;have k:a%b≠0:=λh=>hc (.inr (I9 h));have f:(Int.tmod a b != 0)=true:=by simp;omega
  have d:decide (Int.tmod a b<0)=true:=by simp;omega
  rw[f,d,d2,c,wrap_i64 _ (by omega) (by omega),Ln];rfl
def dJ(y:Int):Prop:=-10000000000000000<=y/\y<=10000000000000000
instance (y:Int):Decidable (dJ y):=by unfold dJ;infer_instance
def fV(n:Nat)(y:Int):iQ n y=some (if dJ y then 0 else 6):=by
 unfold iQ;rw[bB,bB];by_cases a:y < -10000000000000000
 ·rw[ae a,ab (show¬dJ y by unfold dJ;omega)]
 ·by_cases b:y>10000000000000000
  ·rw[ab a,ae b,ab (show¬dJ y by unfold dJ;omega)]
  ·rw[ab a,ab b,ae (show dJ y by unfold dJ;omega)]
def rJ(n:Nat){y:Int}(h:-20000000000000000<=y/\y<=20000000000000000):∃z,fa n y=some z:=by
 unfold fa;rw[wrap_i64 (y - 1) (by omega) (by omega),wm n (by omega) (by omega) (by omega) (by omega),wm n (by omega) (by omega) (by omega) (by omega),wm n (by omega) (by omega) (by omega) (by omega)];exact⟨_,rfl⟩
def Ip(n:Nat){y:Int}(h:dJ y):∃b e,jU n y=some (b,e):=by
 unfold jU;have h':=h;unfold dJ at h';obtain⟨z1,a⟩:=rJ n (y:=y+1) (by omega);obtain⟨z2,c⟩:=rJ n (y:=y) (by omega);rw[fV,ae h,wrap_i64 (y+1) (by omega) (by omega),a,c];exact⟨_,_,rfl⟩
def rA(n:Nat){y:Int}(h:dJ y){m:Nat}(d:1<=m)(c:m<=12):∃v,dR n y (m:Int)=some v:=by
 unfold dR;obtain⟨b,e,a⟩:=Ip n h;rw[a];show ∃v,cond (b&&((m:Int)==2)) _ _=some v;cases(b&&((m:Int)==2))with
 | true=>exact⟨_,rfl⟩
 | false=>
  have:wrap .i64 ((m:Int) - 1)=((m - 1:Nat):Int):=by rw[wrap_i64 _ (by omega) (by omega)];omega
  rw[this,eZ (by omega)];have a:vc.length=12:=rfl;exact⟨_,bg (show m - 1<vc.length by omega)⟩
def FX(n:Nat){y:Int}(h:dJ y){m:Nat}(b:1<=m)(a:m<=12):jO n y (m:Int)=some 0:=by
 unfold jO;rw[fV,ae h];show cond (decide ((m:Int)<1)) _ _=_;rw[bB,bB,ab (by omega),ab (by omega)]
def GZ(n:Nat){y:Int}(h:dJ y){m:Nat}(e:m<=11):∀(r j:Nat),j+r=m->∀(a:Int) (N:Nat),r<N->∃v,au (bA n) N (y,a,(m:Int),(j:Int))=some v:=by
 intro r
 induction r with
 | zero=>
  intro j b a N d;obtain⟨N,rfl⟩:∃k,N=k+1:=⟨N - 1,by omega⟩;have:bA n (y,a,(m:Int),(j:Int))=some (.inr a):=by
   unfold bA;rw[bB,ab (show¬((j:Int)<(m:Int))by omega)]
  rw[au,this];exact⟨_,rfl⟩
 | succ r ih=>
  intro j b a N d;obtain⟨N,rfl⟩:∃k,N=k+1:=⟨N - 1,by omega⟩;obtain⟨v,c⟩:=rA n h (m:=j+1) (by omega) (by omega);have w:wrap .i64 ((j:Int)+1)=((j+1:Nat):Int):=by rw[wrap_i64 _ (by omega) (by omega)];omega
  have:bA n (y,a,(m:Int),(j:Int))=some (.inl (y,wrap .i64 (a+v),(m:Int),((j+1:Nat):Int))):=by
   unfold bA;rw[bB,ae (show((j:Int)<(m:Int))by omega)];simp only[w,c,ob]
  rw[au,this];exact ih (j+1) (by omega) _ N (by omega)
def JE(n:Nat)(d:100<n){y:Int}(h:dJ y){m:Nat}(c:1<=m)(b:m<=12):∃v,fc n y (m:Int)=some (v,0):=by
 unfold fc kO kN;have h':=h;unfold dJ at h';obtain⟨z,e⟩:=rJ n (y:=y) (by omega);have w:wrap .i64 ((m:Int) - 1)=((m - 1:Nat):Int):=by rw[wrap_i64 _ (by omega) (by omega)];omega
 rw[FX n h c b,fV,ae h,e,w];obtain⟨v,a⟩:=GZ n h (m:=m - 1) (by omega) (m - 1) 0 (by omega) (wrap .i64 (wrap .i64 (365*y)+z)) n (by omega);refine⟨v,?_⟩;show ob (au (bA n) n (y,wrap .i64 (wrap .i64 (365*y)+z),((m - 1:Nat):Int),((0:Nat):Int))) _=_;rw[a];rfl
def madd(n:Nat){y:Int}(h:dJ y){m c:Nat}(j:1<=m)(g:m<=12)(hc:1<=c)(i:c<=6):oe n y (m:Int) (wrap .i64 ((c:Int) - 1)) =
  some (if 12<m+c - 1 then(if y=10000000000000000 then(0,0,6)else(y+1,((m+c - 1 - 12:Nat):Int),0))else(y,((m+c - 1:Nat):Int),0)):=by
 have h':=h;unfold dJ at h';unfold oe;rw[FX n h j g,wrap_i64 (12*y) (by omega) (by omega),wrap_i64 ((m:Int) - 1) (by omega) (by omega),wrap_i64 (12*y+((m:Int) - 1)) (by omega) (by omega),wrap_i64 ((c:Int) - 1) (by omega) (by omega)];have k:qO n (12*y+((m:Int) - 1)) ((c:Int) - 1)=some (12*y+((m:Int) - 1)+((c:Int) - 1),0):=by
  unfold qO;rw[wrap_i64 (12*y+((m:Int) - 1)+((c:Int) - 1)) (by omega) (by omega),jy];by_cases d:(c:Int) - 1=0
  ·rw[ae d];have a:decide (12*y+((m:Int) - 1)>12*y+((m:Int) - 1))=false:=by simp
   have d2:decide ((c:Int) - 1>0)=false:=by simp;omega
   rw[a,d2,d,Int.add_zero];rfl
  ·rw[ab d];have a:decide (12*y+((m:Int) - 1)+((c:Int) - 1)>12*y+((m:Int) - 1))=true:=by simp;omega
   have d2:decide ((c:Int) - 1>0)=true:=by simp;omega
   rw[a,d2];rfl
 simp only[ob,k,dX,af];rw[wm n (by omega) (by omega) (by omega) (by omega),TA n (by omega) (by omega)];simp only[fV];by_cases f:12<m+c - 1
 ·have e:(12*y+((m:Int) - 1)+((c:Int) - 1)) / 12=y+1:=by omega
  have b:(12*y+((m:Int) - 1)+((c:Int) - 1))%12=((m+c - 1 - 12:Nat):Int) - 1:=by omega
  rw[e,b,ae f];by_cases hy:y=10000000000000000
  ·rw[ae hy,ab (show¬dJ (y+1)by unfold dJ;omega)];rfl
  ·rw[ab hy,ae (show dJ (y+1)by unfold dJ;omega),wrap_i64 (((m+c - 1 - 12:Nat):Int) - 1+1) (by omega) (by omega),Ln];rfl
 ·have e:(12*y+((m:Int) - 1)+((c:Int) - 1)) / 12=y:=by omega
  have b:(12*y+((m:Int) - 1)+((c:Int) - 1))%12=((m+c - 1:Nat):Int) - 1:=by omega
  rw[e,b,ab f,ae h,wrap_i64 (((m+c - 1:Nat):Int) - 1+1) (by omega) (by omega),Ln];rfl
def EN{j:Nat}(a:j<21):∃m c:Nat,m9[j]?=some ((m:Int),(c:Int))/\1<=m/\m<=12/\1<=c/\c<=6/\(12<m+c - 1↔j=3\/j=7\/j=9):=by
 have:((List.range 21).all λj=>match m9[j]? with
  | some (m,c)=>decide (0<=m)&&decide (0<=c)&&decide (1<=m.toNat)&&decide (m.toNat<=12)&&decide (1<=c.toNat)&&decide (c.toNat<=6)&&(decide (12<m.toNat+c.toNat - 1)==decide (j=3\/j=7\/j=9))
  | none=>false)=true:=by decide +kernel
 have h:=(cq.1 this) j (by simpa using a);split at h
 ·rename_i m c e;simp only[aB,ci,bv,oC]at h;obtain⟨⟨⟨⟨⟨⟨k,b⟩,l⟩,g⟩,d⟩,f⟩,i⟩:=h;exact⟨m.toNat,c.toNat,by rw[e,Gs k,Gs b],l,g,d,f,i⟩
 ·cases h
def Rz(n:Nat)(p:100<n){y:Int}(h:dJ y){j:Nat}(q:j<21):
  ∃a b c d,gS n y ((21+j:Nat):Int)=some (a,b,c,d,if y=10000000000000000/\(j=3\/j=7\/j=9)then 6 else 0):=by
 obtain⟨m,c,e,t,r,C,A,s⟩:=EN q;have B:fb n ((21+j:Nat):Int)=some ((m:Int),(c:Int),0):=by
  unfold fb dn;rw[bB,bB,ab (by omega),ab (by omega)];have:wrap .i64 (((21+j:Nat):Int) - 21)=(j:Int):=by rw[wrap_i64 _ (by omega) (by omega)];omega
  rw[this,eZ q];show ob (m9[j]?) _=_;rw[e];rfl
 obtain⟨v,z⟩:=JE n p h t r;unfold gS;rw[B];show ∃a b c d,ob (fc n y (m:Int)) _=_;rw[z];show ∃a b w d,ob (oe n y (m:Int) (wrap .i64 ((c:Int) - 1))) _=_;rw[madd n h t r C A];have h':=h;unfold dJ at h';by_cases i:12<m+c - 1
 ·rw[ae i];by_cases hy:y=10000000000000000
  ·rw[ae hy,ae ⟨hy,s.1 i⟩];exact⟨_,_,_,_,rfl⟩
  ·rw[ab hy,ab (λx=>hy x.1)];have g:dJ (y+1):=by unfold dJ;omega
   obtain⟨k,f⟩:=JE n p g (m:=m+c - 1 - 12) (by omega) (by omega);obtain⟨u,o⟩:=rA n g (m:=m+c - 1 - 12) (by omega) (by omega);have l:gB n (y+1) ((m+c - 1 - 12:Nat):Int)=some (wrap .i64 (wrap .i64 (k+u) - 1),0):=by
    unfold gB;rw[f,o];rfl
   show ∃a b w d,ob (gB n (y+1) ((m+c - 1 - 12:Nat):Int)) _=_;rw[l];exact⟨_,_,_,_,rfl⟩
 ·rw[ab i,ab (λx=>i (s.2 x.2))];obtain⟨k,f⟩:=JE n p h (m:=m+c - 1) (by omega) (by omega);obtain⟨u,o⟩:=rA n h (m:=m+c - 1) (by omega) (by omega);have l:gB n y ((m+c - 1:Nat):Int)=some (wrap .i64 (wrap .i64 (k+u) - 1),0):=by
   unfold gB;rw[f,o];rfl
  show ∃a b w d,ob (gB n y ((m+c - 1:Nat):Int)) _=_;rw[l];exact⟨_,_,_,_,rfl⟩
def hasB(set:aa)(c:UInt8):Bool:=set.any λd=>d==c
def oM(set:aa)(c:UInt8):(decide (Lib.indexByte set c<0))=!hasB set c:=by
 induction set with
 | nil=>simp[Lib.indexByte,hasB]
 | cons d l ih=>
  have f:=Lib.indexByte_ge l c;simp only[hasB,qx]at ih ⊢;unfold Lib.indexByte;by_cases h:d=c
  ·simp[h]
  ·have e:(d==c)=false:=by simpa using h
   simp only[e,bs,aC,od];rw[<-ih];by_cases b:Lib.indexByte l c=-1
   ·simp[b]
   ·have a:(Lib.indexByte l c==-1)=false:=by simpa using b
    simp only[a,bs,aC];have:¬Lib.indexByte l c+1<0:=by omega
    have:¬Lib.indexByte l c<0:=by omega
    simp[*]
def o5(set:aa)(c:UInt8):(decide (Lib.indexByte set c>=0))=hasB set c:=by
 have:=oM set c;by_cases h:Lib.indexByte set c<0
 ·have a:¬Lib.indexByte set c>=0:=by omega
  simp only[h,a,nJ,mY]at this ⊢;revert this;cases hasB set c<;>simp
 ·have a:Lib.indexByte set c>=0:=by omega
  simp only[h,a,nJ,mY]at this ⊢;revert this;cases hasB set c<;>simp
def lcp:aa->aa->Nat
 | c::s,d::t=>if c==d then lcp s t+1 else 0
 | _,_=>0
def wB:∀s t:aa,lcp s t<=s.length
 | [],_=>by simp[lcp]
 | _::_,[]=>by simp[lcp]
 | c::s,d::t=>by
  have:=wB s t;simp only[lcp,aP];split<;>omega
def bq(p:UInt8->Bool):Nat->aa->Nat
 | 0,_=>0
 | _+1,[]=>0
 | k+1,c::l=>if p c then bq p k l+1 else 0
def k7(p:UInt8->Bool):∀(k:Nat) (l:aa),bq p k l<=l.length
 | 0,_=>by simp[bq]
 | _+1,[]=>by simp[bq]
 | k+1,c::l=>by
  have:=k7 p k l;simp only[bq,aP];split<;>omega
def tc(n:Nat)(S:aa)(a:Nat)(h:a<=S.length):cn n S (a:Int)=some (S.drop a):=by
 simp[cn,ob,fe h]
def B7(n:Nat)(s p:aa):jb n s p=some (s.take p.length==p):=by
 simp only[jb,fU,kR];by_cases h:p.length<=s.length
 ·simp[h,ob,fe h]
 ·have:(s.take p.length==p)=false:=by
   rw[aK];intro e;have:=ck List.length e;rw[de]at this;omega
  simp[h,ob,this]
def JC(n:Nat)(t S:aa)(a:Nat)(h:a<=S.length):fg n t S (a:Int)=some ((S.drop a).take t.length==t):=by
 simp[fg,tc n S a h,ob,B7]
def mr(n:Nat)(t S:aa)(a:Nat)(h:a<=S.length)(d:S.length<4611686018427387904):
  az n t S (a:Int)=some (if(S.drop a).take t.length=t then(true,S,((a+t.length:Nat):Int))else(false,S,(a:Int))):=by
 simp only[az,JC n t S a h,ob];by_cases hp:(S.drop a).take t.length=t
 ·have c:t.length<=S.length - a:=by
   have:=ck List.length hp;simp at this;omega
  have b:wrap .i64 ((a:Int)+((t.length:Nat):Int))=((a+t.length:Nat):Int):=by rw[wrap_i64 _ (by omega) (by omega)];omega
  simp[hp,b]
 ·simp only[GQ,jy,hp,aC]
def AT(n:Nat)(S:aa)(i:Int):bz n S i=some i:=rfl
def peek(l:aa):Int×Bool:=match l with | c::_=>(((c.toNat:Nat):Int),true) | []=>(0,false)
def oz(n:Nat)(S:aa)(a:Nat)(h:a<=S.length):aY n S (a:Int)=some (peek (S.drop a)):=by
 simp only[aY,tc n S a h,ob];rcases aF a S.length with d | b
 ·obtain⟨c,hc⟩:∃c,S[a]?=some c:=⟨S[a],bg d⟩;rw[bK hc];simp[dw hc,peek]
 ·rw[iD b];simp[peek]
def uY(n:Nat)(a e:Int)(S:aa)(i:Int):aM n a e S i=some (a,if e=0 then 5 else e):=by
 simp only[aM,jy];by_cases h:e=0<;>simp[h]
def gv(n:Nat)(set:aa)(c:UInt8):cX n set ((c.toNat:Nat):Int)=some (Lib.indexByte set c):=by
 simp only[cX,cM,ob,VZ]
def AK(n:Nat)(set S:aa)(a:Nat)(h:a<=S.length)(f:S.length<4611686018427387904):
  cb n set S (a:Int)=some (match S.drop a with | c::_=>if hasB set c then .inr (((c.toNat:Nat):Int),S,((a+1:Nat):Int))else .inl ((a:Int),5,S,(a:Int)) | []=>.inl ((a:Int),5,S,(a:Int))):=by
 simp only[cb,oz n S a h,ob];rcases aF a S.length with d | b
 ·obtain⟨c,hc⟩:∃c,S[a]?=some c:=⟨S[a],bg d⟩;have e:wrap .i64 ((a:Int)+1)=((a+1:Nat):Int):=by rw[wrap_i64 _ (by omega) (by omega)];omega
  rw[bK hc];simp only[peek,bV,af,gv,oM,AT,uY,ob,e];cases hasB set c<;>simp
 ·rw[iD b];simp[peek,AT,uY,ob]
def mF(S:aa)(a k:Nat):List.drop a (List.take (a+k) S)=(S.drop a).take k:=by
 rw[wh];congr 1;omega
def AA(n:Nat)(set:aa)(b most:Int)(S:aa)(a:Nat)(h:a<=S.length)(o:S.length<4611686018427387904)(q:S.length<n):
  au (cK n) n (set,b,most,(a:Int),(peek (S.drop a)).1,(peek (S.drop a)).2,S,(a:Int)) =
   some (b,(a:Int),S,((a+bq (hasB set) most.toNat (S.drop a):Nat):Int)):=by
 have:=fm (step:=cK n)
  (λx=>∃j:Nat,a+j<=S.length/\x=(set,b,most,(a:Int),(peek (S.drop (a+j))).1,(peek (S.drop (a+j))).2,S,((a+j:Nat):Int)))
  (λx=>S.length - x.2.2.2.2.2.2.2.toNat)
  (λx=>(b,(a:Int),S,((x.2.2.2.2.2.2.2.toNat+bq (hasB set) (most.toNat - (x.2.2.2.2.2.2.2.toNat - a)) (S.drop x.2.2.2.2.2.2.2.toNat):Nat):Int))) ?_ n
  (set,b,most,(a:Int),(peek (S.drop a)).1,(peek (S.drop a)).2,S,(a:Int)) ⟨0,by omega,by simp⟩ (by simp;omega)
 ·simpa using this
 rintro x ⟨j,m,rfl⟩;simp only[bT];have d:wrap .i64 (((a+j:Nat):Int) - (a:Int))=(j:Int):=by rw[wrap_i64 _ (by omega) (by omega)];omega
 rcases aF (a+j) S.length with f | e
 ·obtain⟨c,hc⟩:∃c,S[a+j]?=some c:=⟨S[a+j],bg f⟩;have i:wrap .i64 (((a+j:Nat):Int)+1)=((a+(j+1):Nat):Int):=by rw[wrap_i64 _ (by omega) (by omega)];omega
  simp only[cK,bK hc,peek,aj,d];by_cases g:(j:Int)<most
  ·obtain⟨k,l⟩:∃k,most.toNat - (a+j - a)=k+1:=⟨most.toNat - j - 1,by omega⟩;simp only[g,nJ,aj,gv,ob,o5,l,bq];cases p:hasB set c with
   | true=>
    simp only[i,oz n S (a+(j+1)) (by omega),aj];refine .inl ⟨_,rfl,⟨j+1,by omega,rfl⟩,?_,?_⟩
    ·simp only[bT];omega
    ·simp only[bT,bi,jg,aH];have:most.toNat - (a+(j+1) - a)=k:=by omega
     rw[this,show a+(j+1)=a+j+1 by omega];omega
   | false=>exact .inr (by simp)
  ·refine .inr ?_;have:most.toNat - (a+j - a)=0:=by omega
   simp only[g,mY,af,this,bq,ct]
 ·refine .inr ?_;simp only[cK,iD e,peek,af];have:bq (hasB set) (most.toNat - (a+j - a)) []=0:=by cases most.toNat - (a+j - a)<;>rfl
  simp only[this,ct]
def uS(n:Nat)(set:aa)(b most:Int)(S:aa)(a:Nat)(h:a<=S.length)(f:S.length<4611686018427387904)(g:S.length<n):
  bO n set b most S (a:Int)=some (if((bq (hasB set) most.toNat (S.drop a):Nat):Int)<b
   then .inl (((a+bq (hasB set) most.toNat (S.drop a):Nat):Int),5,S,((a+bq (hasB set) most.toNat (S.drop a):Nat):Int))
   else .inr ((S.drop a).take (bq (hasB set) most.toNat (S.drop a)),S,((a+bq (hasB set) most.toNat (S.drop a):Nat):Int))):=by
 have e:=k7 (hasB set) most.toNat (S.drop a);rw[bj]at e;simp only[bO,AT,oz n S a h,ob];rw[AA n set b most S a h f g];generalize bq (hasB set) most.toNat (S.drop a)=k at e ⊢;have c:wrap .i64 (((a+k:Nat):Int) - (a:Int))=(k:Int):=by rw[wrap_i64 _ (by omega) (by omega)];omega
 simp only[c,uY];by_cases d:(k:Int)<b
 ·simp[d]
 ·simp only[d,mY,af,aC];rw[fe (by omega)];simp only;rw[fe (by omega)];simp only[mF]
def QC(a b:Nat):(cond (decide (((a:Nat):Int)<((b:Nat):Int))) ((a:Nat):Int) ((b:Nat):Int))=((min a b:Nat):Int):=by
 by_cases h:a<b
 ·simp[h];omega
 ·simp[h];omega
def asc(l:aa):Prop:=∀c∈l,c.toNat<128
def I5(r:Int)(h:128<=r):∃p e,(Utf8.encode r).data.toList=p++[e]/\1<=p.length/\p.length<=3/\128<=e.toNat:=by
 unfold Utf8.encode;have hc:128<=(if Utf8.valid r then r.toNat else Utf8.runeError):=by
  split
  ·omega
  ·decide
 generalize(if Utf8.valid r then r.toNat else Utf8.runeError)=c at hc;have a:128<=(UInt8.ofNat (0x80+c%64)).toNat:=by
  simp only[D1];omega
 simp only;split
 ·omega
 ·split
  ·exact⟨[_],_,rfl,by simp,by simp,a⟩
  ·split
   ·exact⟨[_,_],_,rfl,by simp,by simp,a⟩
   ·exact⟨[_,_,_],_,rfl,by simp,by simp,a⟩
def Jm{l:aa}(h:asc l){i:Nat}{c:UInt8}(hi:l[i]?=some c):c.toNat<128:=h c (fE hi)
def CL(n:Nat)(set:aa)(h:asc set)(e:set.length<n):au (dC n) n (set,0)=some (.inr ()):=by
 refine fm (step:=dC n) (λx=>x.1=set) (λx=>set.length - x.2) (λx=>.inr ()) ?_ n _ rfl (by simp;omega);rintro⟨s,i⟩ rfl;simp only[dC];by_cases hi:i<s.length
 ·have a:Nat.blt i s.length=true:=dF hi;obtain⟨c,hc⟩:∃c,s[i]?=some c:=⟨s[i],bg hi⟩;have b:=Jm h hc;have d:(((c.toNat:Nat):Int)==65533)=false:=by rw[aK];omega
  simp only[a,aj,Ao hc b,d,af];exact .inl ⟨_,rfl,rfl,by simp only;omega,trivial⟩
 ·have a:Nat.blt i s.length=false:=by
   cases a:Nat.blt i s.length with
   | false=>rfl
   | true=>exact absurd (aG a) (by omega)
  simp only[a,af];exact .inr trivial
def xG{l:aa}{c:UInt8}(h:c∉l):Lib.indexByte l c<0:=by
 have b:=oM l c;have d:hasB l c=false:=by
  unfold hasB;rw[rc];intro x hx a;simp only[bv]at a;exact h (a▸hx)
 rw[d]at b;simpa using b
def By(n:Nat)(set:aa)(h:asc set)(y:set.length<n)(hs:set.length<=100)(r:Int)(x:128<=r):dL n set r=some (-1):=by
 have s:decide ((0:Int)<=r)=true:=aq (by omega);have u:decide (r<128)=false:=am (by omega);simp only[dL,s,u,aj,af];by_cases b:r=65533
 ·have:(r==65533)=true:=bv.2 b;simp only[this,aj,CL n set h y,ob]
 ·have:(r==65533)=false:=aK.2 b;simp only[this,af];obtain⟨v,A⟩:∃v,dK n r=some v:=by
   unfold dK;generalize decide ((0:Int)<=r)=o;generalize decide (r<55296)=d2;generalize decide ((57343:Int)<r)=q;generalize decide (r<=1114111)=d4;cases o<;>cases d2<;>cases q<;>cases d4<;>exact⟨_,rfl⟩
  simp only[A,ob];cases v with
  | false=>rfl
  | true=>
   simp only[bV,af];obtain⟨p,e,hp,t,l,B⟩:=I5 r x;simp only[hp];have z:wrap .i64 (((p++[e]).length:Nat) - 1:Int)=(p.length:Int):=by
    rw[wrap_i64 _ (by simp<;>omega) (by simp<;>omega)];simp
   rw[z];obtain⟨m,rfl⟩:∃m,n=m+1:=⟨n - 1,by omega⟩;have a:dD (m+1) (set,p++[e],(p.length:Int),(p.length:Int))=some (.inr (.inl (-1)))\/dD (m+1) (set,p++[e],(p.length:Int),(p.length:Int))=some (.inr (.inr ())):=by
    simp only[dD,ii];by_cases i:p.length<set.length
    ·obtain⟨c,hc⟩:∃c,set[p.length]?=some c:=⟨set[p.length],bg i⟩;have k:=Jm h hc;have f:(p++[e])[p.length]?=some e:=by simp
     have j:(((c.toNat:Nat):Int) != ((e.toNat:Nat):Int))=true:=by simp only[bne,kC,aK];omega
     have g:wrap .i64 ((p.length:Int)+1)=((p.length+1:Nat):Int):=by rw[wrap_i64 _ (by omega) (by omega)];omega
     have hx:e∉List.drop (p.length+1) (List.take set.length set):=by
      intro w;have:=h e (by simpa using List.mem_of_mem_drop w);omega
     left;simp only[i,nJ,aj,dw hc,dw f,ob,j,g,fe (show p.length+1<=set.length by omega),gv,xG hx]
    ·right;simp only[i,mY,af]
   rcases a with d | d<;>simp only[au,d,ob]
def xA(n:Nat)(set:aa)(c:UInt8)(r:Int)(b:r=((c.toNat:Nat):Int))(hc:c.toNat<128):dL n set r=some (Lib.indexByte set c):=by
 have a:decide ((0:Int)<=r)=true:=aq (by omega);have e:decide (r<128)=true:=aq (by omega);have d:wrap .u8 r=r:=jI _ (by omega) (by omega);have f:cX n set r=some (Lib.indexByte set c):=by rw[b];exact gv n set c
 simp only[dL,a,e,aj,d,f,ob]
def yS(n:Nat)(set:aa)(c:UInt8)(hc:c.toNat<128):dL n set ((c.toNat:Nat):Int)=some (Lib.indexByte set c):=xA n set c _ rfl hc
def uH(n:Nat)(set:aa)(c:UInt8)(hc:c.toNat<128):dA n set ((c.toNat:Nat):Int)=some (hasB set c):=by
 simp only[dA,yS n set c hc,ob,o5]
def w9(n:Nat)(set:aa)(h:asc set)(b:set.length<n)(hs:set.length<=100)(r:Int)(a:128<=r):dA n set r=some false:=by
 simp only[dA,By n set h b hs r a,ob];rfl
def Bf(w a:Nat):BitVec.ofInt w (a:Int)=BitVec.ofNat w a:=by
 apply BitVec.eq_of_toNat_eq;simp
def Q7(k:Nat):(2:Int) ^ k=((2 ^ k:Nat):Int):=by simp
def NY(a k:Nat):Int.fdiv (a:Int) (2 ^ k)=((a / 2 ^ k:Nat):Int):=by
 rw[Q7 k,Int.fdiv_eq_ediv_of_nonneg _ (Int.natCast_nonneg _)];rfl
def inR(lo hi:Int)(c:UInt8):Bool:=decide (((c.toNat:Nat):Int)>=lo)&&decide (((c.toNat:Nat):Int)<=hi)
def cnt(lo hi:Int)(l:aa):Nat:=l.countP (inR lo hi)
def KP(lo hi:Int)(l:aa):cnt lo hi l<=l.length:=List.countP_le_length
def ML(lo hi:Int){l:aa}{i:Nat}{c:UInt8}(h:l[i]?=some c):cnt lo hi (l.take (i+1))=cnt lo hi (l.take i)+if inR lo hi c then 1 else 0:=by
 unfold cnt;rw[rS,h,List.countP_append];simp[J3]
def GO(n:Nat)(s:aa)(lo hi:Int)(hs:s.length<n)(l:s.length<100000):gf n s lo hi=some ((cnt lo hi s:Nat):Int):=by
 have:=fm (step:=gG n) (λx=>∃i:Nat,i<=s.length/\x=(s,lo,hi,((cnt lo hi (s.take i):Nat):Int),(i:Int))) (λx=>s.length - x.2.2.2.2.toNat) (λ_=>((cnt lo hi s:Nat):Int)) ?_ n (s,lo,hi,0,0) ⟨0,by omega,by simp[cnt]⟩ (by simp;omega)
 ·simp only[gf,this,ob]
 rintro x ⟨i,k,rfl⟩;rcases aF i s.length with a | g
 ·obtain⟨c,hc⟩:∃c,s[i]?=some c:=⟨s[i],bg a⟩;have e:=ML lo hi hc;have b:=KP lo hi (s.take i);rw[de]at b;have j:wrap .i64 ((i:Int)+1)=((i+1:Nat):Int):=by rw[wrap_i64 _ (by omega) (by omega)];omega
  have h:wrap .i64 (((cnt lo hi (s.take i):Nat):Int)+1)=((cnt lo hi (s.take i)+1:Nat):Int):=by rw[wrap_i64 _ (by omega) (by omega)];omega
  refine .inl ⟨(s,lo,hi,((cnt lo hi (s.take (i+1)):Nat):Int),((i+1:Nat):Int)),?_,⟨i+1,a,rfl⟩,by simp only[bT];omega,rfl⟩;simp only[gG,ii,a,nJ,aj,dw hc,ob,j,h];rw[e];by_cases d:((c.toNat:Nat):Int)>=lo
  ·by_cases f:((c.toNat:Nat):Int)<=hi
   ·simp[d,f,inR]
   ·simp[d,f,inR]
  ·simp[d,inR]
 ·have:i=s.length:=by omega
  subst this;refine .inr ?_;simp only[gG,ii,D9,mY,af,ox]
def Io(lo hi:Int)(l:aa):cnt lo hi l=l.length↔∀c∈l,inR lo hi c=true:=by
 unfold cnt;rw[List.countP_eq_length]
def NE(lo hi:Int)(l:aa):cnt lo hi l=0↔∀c∈l,inR lo hi c=false:=by
 unfold cnt;rw[List.countP_eq_zero];simp
def bm(c:UInt8):Bool:=inR 48 57 c
def bZ(c:UInt8):bm c=true↔48<=c.toNat/\c.toNat<=57:=by
 unfold bm inR;simp only[aB,ci];omega
def zA(c:UInt8):inR 88 88 c=true↔c=88:=by
 unfold inR;simp only[aB,ci];constructor
 ·intro h;apply ga.1;show c.toNat=88;omega
 ·rintro rfl;decide
def Ls(c:UInt8):inR 48 48 c=true↔c=48:=by
 unfold inR;simp only[aB,ci];constructor
 ·intro h;apply ga.1;show c.toNat=48;omega
 ·rintro rfl;decide
def Lq:∀l:aa,cnt 48 57 l+cnt 88 88 l<=l.length/\(cnt 48 57 l+cnt 88 88 l=l.length↔∀c∈l,bm c=true\/c=88)
 | []=>by simp[cnt]
 | c::l=>by
  have ih:=Lq l;have g:cnt 48 57 (c::l)=cnt 48 57 l+if inR 48 57 c then 1 else 0:=by simp[cnt,J3]
  have d:cnt 88 88 (c::l)=cnt 88 88 l+if inR 88 88 c then 1 else 0:=by simp[cnt,J3]
  have hd:¬(inR 48 57 c=true/\inR 88 88 c=true):=by
   rintro⟨b,a⟩;have:=(bZ c).1 b;rw[(zA c).1 a]at this;exact absurd this.2 (by decide)
  rw[g,d,aP];simp only[cT,DC];have hx:=zA c;have f:bm c=inR 48 57 c:=rfl;rw[f];cases b:inR 48 57 c<;>cases a:inR 88 88 c
  ·simp only[b,a]at hx ⊢;have:c≠88:=λe=>by simpa using hx.2 e
   simp[this];omega
  ·simp only[b,a]at hx ⊢;have:c=88:=hx.1 trivial;simp only[this,bs,aH,aC,false_or,jg];rw[<-ih.2];omega
  ·simp only[b,a]at hx ⊢;simp only[bs,aH,aC,true_or,jg];rw[<-ih.2];omega
  ·exact absurd ⟨b,a⟩ hd
def LJ(n:Nat)(s set:aa)(q:asc set)(t:set.length<n)(r:set.length<=100)(hs:s.length<n):
  ∃y,au (cu n) n (true,set,s,0)=some y/\((y=.inr ()/\s.all (hasB set)=true)\/∃i:Nat,y=.inl (i:Int)/\s.all (hasB set)=false):=by
 refine qI (step:=cu n) (λx=>x.1=true/\x.2.1=set/\x.2.2.1=s/\s.all (hasB set)=(s.drop x.2.2.2).all (hasB set)) (λx=>s.length - x.2.2.2) _ ?_ n _ ⟨rfl,rfl,rfl,rfl⟩ (by simp only;omega);rintro⟨b,st,s',p⟩ ⟨h,f,g,a⟩;simp only at h f g a;rw[h,f,g];clear h f g b st s';rcases aF p s.length with j | m
 ·obtain⟨c,hc⟩:∃c,s[p]?=some c:=⟨s[p],bg j⟩;have e:Nat.blt p s.length=true:=dF j;rw[bK hc,md]at a;rcases aF c.toNat 128 with d | d
  ·have hd:=Ao hc d;simp only[cu,e,aj,jE,hd,uH n set c d,ob];cases k:hasB set c with
   | true=>
    rw[k,m8]at a;exact .inl ⟨_,rfl,⟨rfl,rfl,rfl,a⟩,by simp only;omega⟩
   | false=>
    rw[k,vz]at a;exact .inr ⟨_,rfl,.inr ⟨p,rfl,a⟩⟩
  ·have hd:=GP hc d;have k:hasB set c=false:=by
    unfold hasB;rw[rc];intro x hx o;simp only[bv]at o;have:=q x hx;rw[o]at this;omega
   rw[k,vz]at a;have l:=w9 n set q t r (((dec s p).1:Nat):Int) (by omega);simp only[cu,e,aj,jE,l,ob];exact .inr ⟨_,rfl,.inr ⟨p,rfl,a⟩⟩
 ·have e:Nat.blt p s.length=false:=by
   cases h:Nat.blt p s.length with
   | false=>rfl
   | true=>exact absurd (aG h) (by omega)
  simp only[cu,e,af];rw[iD m]at a;exact .inr ⟨_,rfl,.inl ⟨rfl,by rw[a];rfl⟩⟩
def IK(n:Nat)(s set:aa)(e:asc set)(f:set.length<n)(b:set.length<=100)(hs:s.length<n):f9 n s set=some (s.all (hasB set)):=by
 obtain⟨y,d,c⟩:=LJ n s set e f b hs;simp only[f9,kZ,kS,d,ob];rcases c with⟨rfl,a⟩ | ⟨i,rfl,a⟩
 ·rw[a];rfl
 ·rw[a];simp only[ar,uk];omega
def L8:asc [48,49,50,51,52,53,54,55,56,57]:=by unfold asc;decide
def IY:asc [88,48,49,50,51,52,53,54,55,56,57]:=by unfold asc;decide
def iJ(p:UInt8->Bool)(h:∀i:Fin 256,p (UInt8.ofNat i.val)=true)(c:UInt8):p c=true:=by
 have:=h ⟨c.toNat,c.toNat_lt⟩;simpa using this
def vQ(c:UInt8):hasB [48,49,50,51,52,53,54,55,56,57] c=bm c:=by
 have:=iJ (λc=>hasB [48,49,50,51,52,53,54,55,56,57] c==bm c) (by decide +kernel) c;simpa using this
def tX(c:UInt8):hasB [88,48,49,50,51,52,53,54,55,56,57] c=(bm c||c==88):=by
 have:=iJ (λc=>hasB [88,48,49,50,51,52,53,54,55,56,57] c==(bm c||c==88)) (by decide +kernel) c;simpa using this
def Lj(n:Nat)(s:aa)(a:100<n)(hs:s.length<n):f9 n s [48,49,50,51,52,53,54,55,56,57]=some (s.all bm):=by
 rw[IK n s _ L8 (by simp;omega) (by simp) hs];congr 2;funext c;exact vQ c
def HM(n:Nat)(s:aa)(a:100<n)(hs:s.length<n):f9 n s [88,48,49,50,51,52,53,54,55,56,57]=some (s.all λc=>bm c||c==88):=by
 rw[IK n s _ IY (by simp;omega) (by simp) hs];congr 2;funext c;exact tX c
def all0(s:aa):Bool:=s.all λc=>c==48
def VO(n:Nat)(s:aa)(hs:s.length<n)(m:s.length<100000):∃y,fL n s 48=some y/\all0 s=all0 y/\y.length<=s.length:=by
 obtain⟨y,j,a⟩:=qI (step:=cV n) (λx=>x.2=48/\all0 s=all0 x.1/\x.1.length<=s.length) (λx=>x.1.length) (λy=>all0 s=all0 y/\y.length<=s.length) (by
  rintro⟨l,c⟩ ⟨rfl,h,b⟩;simp only at h b;by_cases k:l.length>0
  ·have d0:decide (((l.length:Nat):Int)>0)=true:=aq (by omega);have g:wrap .i64 (((l.length:Nat):Int) - 1)=((l.length - 1:Nat):Int):=by rw[wrap_i64 _ (by omega) (by omega)];omega
   obtain⟨c,hc⟩:∃c,l[l.length - 1]?=some c:=⟨l[l.length - 1],bg (by omega)⟩;simp only[cV,d0,aj,g,dw hc,ob];by_cases d:c=48
   ·have f:(((c.toNat:Nat):Int)==48)=true:=by rw[d];rfl
    simp only[f,aj,fe (show l.length - 1<=l.length by omega),cg];refine .inl ⟨(List.take (l.length - 1) l,48),rfl,⟨rfl,?_,by show(List.take (l.length - 1) l).length<=s.length;rw[de];omega⟩,by show(List.take (l.length - 1) l).length<l.length;rw[de];omega⟩;rw[h];have:l=l.take (l.length - 1)++[c]:=by
     have a:=rS (l:=l) (i:=l.length - 1);rw[hc,show l.length - 1+1=l.length by omega,ox]at a;exact a
    rw[this];simp only[all0,AV,md,List.all_nil,d];simp
   ·have f:(((c.toNat:Nat):Int)==48)=false:=by
     rw[aK];intro e;exact d (ga.1 (by show c.toNat=48;omega))
    simp only[f,af];exact .inr ⟨_,rfl,h,b⟩
  ·have d0:decide (((l.length:Nat):Int)>0)=false:=am (by omega);simp only[cV,d0,af];exact .inr ⟨_,rfl,h,b⟩) n (s,48) ⟨rfl,rfl,aQ _⟩ hs
 exact⟨y,by simp only[fL,j,ob],a⟩
def Ve(n:Nat)(s:aa)(hs:s.length<n)(m:s.length<100000):∃y,gp n s 48=some y/\all0 s=(y==[]):=by
 obtain⟨y,k,g⟩:=qI (step:=eM n) (λx=>x.2=48/\all0 s=all0 x.1/\x.1.length<=s.length) (λx=>x.1.length) (λy=>all0 s=(y==[])) (by
  rintro⟨l,c⟩ ⟨rfl,h,f⟩;simp only at h f;cases l with
  | nil=>exact .inr ⟨[],rfl,by rw[h];rfl⟩
  | cons c l=>
   have d0:decide ((((c::l).length:Nat):Int)>0)=true:=aq (by simp only[aP];omega);have hc:sx (c::l) 0=some c:=by simp[sx]
   simp only[eM,d0,aj,hc,ob];by_cases a:c=48
   ·have b:(((c.toNat:Nat):Int)==48)=true:=by rw[a];rfl
    have d:bx (c::l).length 1=some 1:=fe (i:=1) (by simp);simp only[b,aj,d,ox,pU,cg];refine .inl ⟨_,rfl,⟨rfl,?_,by show l.length<=s.length;simp only[aP]at f;omega⟩,by simp⟩;rw[h];simp[all0,a]
   ·have b:(((c.toNat:Nat):Int)==48)=false:=by
     rw[aK];intro e;exact a (ga.1 (by show c.toNat=48;omega))
    simp only[b,af];refine .inr ⟨_,rfl,?_⟩;rw[h];have j:(c==48)=false:=aK.2 a;simp[all0,j]) n (s,48) ⟨rfl,rfl,aQ _⟩ hs
 exact⟨y,by simp only[gp,k,ob],g⟩
def QP(n:Nat)(s:aa)(hs:s.length<n)(e:s.length<100000):∃y,nh n s=some y/\(y==[])=all0 s:=by
 unfold nh;by_cases h:s=[]
 ·subst h;exact⟨[],rfl,rfl⟩
 ·have:(s==([]:aa))=false:=aK.2 h;obtain⟨y,d,a,f⟩:=VO n s hs e;obtain⟨z,c,b⟩:=Ve n y (by omega) (by omega);exact⟨z,by simp only[this,af,d,c,ob],by rw[a,b]⟩
def MV(s:aa):all0 s=true↔cnt 48 48 s=s.length:=by
 rw[Io];unfold all0;rw[cq];constructor
 ·intro h c hc;have:=h c hc;rw[bv]at this;exact(Ls c).2 this
 ·intro h c hc;rw[bv];exact(Ls c).1 (h c hc)
def hasX(s:aa):Bool:=s.any λc=>c==88
def Fp(s:aa):hasX s=decide (0<cnt 88 88 s):=by
 have:=NE 88 88 s;unfold hasX;cases h:s.any λc=>c==88 with
 | true=>
  obtain⟨c,hc,b⟩:=sS.1 h;rw[bv]at b;symm;rw[ci];rcases zl (cnt 88 88 s)with a | a
  ·have:=this.1 a c hc;rw[(zA c).2 b]at this;cases this
  ·exact a
 | false=>
  symm;rw[uk];intro a;have:cnt 88 88 s=0:=this.2 λc hc=>by
   cases hx:inR 88 88 c with
   | false=>rfl
   | true=>
    rw[rc]at h;exact absurd (bv.2 ((zA c).1 hx)) (h c hc)
  omega
def CH(n:Nat)(s:aa):ig n s=some (hasX s):=by
 have e:UInt8.ofNat (Int.toNat 88)=(88:UInt8):=rfl;have hi:mj n s=some (Lib.indexByte s 88):=by
  simp only[mj,iS,cM,ob,e];by_cases h:([88]:aa)=s
  ·subst h;rfl
  ·have:(([88]:aa)==s)=false:=aK.2 h;simp only[this,af]
 simp only[ig,hi,ob,o5];rfl
def sM(n:Nat)(g l:Bool)(d:aa)(x q:Int):cO n g l d x q=some (hasX d):=by
 simp only[cO,CH,ob]
def nK(n:Nat)(g l:Bool)(d:aa)(x q:Int)(hs:d.length<n)(a:d.length<100000):aD n g l d x q=some (if hasX d then 1 else 0):=by
 simp only[aD,GO n d 88 88 hs a,ob,Fp,ci];by_cases h:0<cnt 88 88 d
 ·have:decide (((cnt 88 88 d:Nat):Int)<1)=false:=am (by omega);simp[this,h]
 ·have:decide (((cnt 88 88 d:Nat):Int)<1)=true:=aq (by omega);have b:cnt 88 88 d=0:=by omega
  simp[this,b]
def uG(a:Nat)(c:UInt8):Nat:=a*10+(c.toNat - 48)
def dval(a:Nat)(l:aa):Nat:=l.foldl uG a
def oU(a:Nat):dval a []=a:=by unfold dval;rw[ER]
def nM(a:Nat)(c:UInt8)(l:aa):dval a (c::l)=dval (uG a c) l:=by
 unfold dval;rw[ux]
def F7(l:aa)(a:Nat)(c:UInt8):dval a (l++[c])=dval a l*10+(c.toNat - 48):=by
 have:dval a (l++[c])=uG (dval a l) c:=by
  unfold dval;rw[Gk,ux,ER]
 rw[this];rfl
def QU(M:Nat)(i:10000000000000000000<=M)(l:aa):∀(a k:Nat),(∀c∈l,bm c=true)->a<10 ^ k->l.length+k<=18->Lib.parseUintM M a l=.ok (dval a l)/\dval a l<10 ^ (l.length+k):=by
 induction l with
 | nil=>
  intro a k _ b _;rw[oU];refine⟨rfl,?_⟩;simpa using b
 | cons c l ih=>
  intro a k h b e;have hc:=(bZ c).1 (h c (by simp));simp only[aP]at e;have hp:(10:Nat) ^ (k+1)=10 ^ k*10:=rX 10 k;have f:(10:Nat) ^ (k+1)<=10 ^ 18:=nG (by decide) (by omega);have g:(10:Nat) ^ 18=1000000000000000000:=by decide
  have hd:uG a c=a*10+(c.toNat - 48):=rfl;have ih:=ih (uG a c) (k+1) (λd hd=>h d (by simp[hd])) (by omega) (by omega);refine⟨?_,?_⟩
  ·simp only[Lib.parseUintM];rw[ae hc,ab (by omega),ab (by omega),<-hd,ih.1,nM]
  ·rw[nM,aP,show l.length+1+k=l.length+(k+1)by omega];exact ih.2
def Hl{l:aa}(h:∀c∈l,bm c=true)(d:l≠[])(k:l.length<=18):wV l=some ((dval 0 l:Nat):Int)/\dval 0 l<10 ^ l.length:=by
 obtain⟨f,b⟩:=QU (2 ^ 64 - 1) (by decide) l 0 0 h (by simp) (by omega);refine⟨?_,by simpa using b⟩;have e:dval 0 l<10 ^ 18:=pK b (nG (by decide) (by omega));cases l with
 | nil=>exact absurd rfl d
 | cons c r=>
  have hc:=(bZ c).1 (h c (by simp));have g:Lib.parseUintB 64 (c::r)=.ok (dval 0 (c::r)):=by
   unfold Lib.parseUintB;rw[ab d,f]
  have hs:¬(c.toNat=43\/c.toNat=45):=by omega
  simp only[wV,Lib.parseIntB,hs,aC,g];have i:(10:Nat) ^ 18=1000000000000000000:=by decide
  have a:(2:Nat) ^ (64 - 1)=9223372036854775808:=by decide
  have j:¬c.toNat=45:=by omega
  simp only[j,EK,jg,xc,aC];rw[a,ab (by omega)]
def N7(n k:Nat)(h:k<=18)(j:18<n):n6 n (k:Int)=some (((10 ^ k:Nat):Int),0):=by
 have g:(10:Nat) ^ 18=1000000000000000000:=by decide
 have:=fm (step:=kh n) (λx=>∃i:Nat,i<=k/\x=(((10 ^ i:Nat):Int),(k:Int),(i:Int))) (λx=>k - x.2.2.toNat) (λ_=>((10 ^ k:Nat):Int)) (by
  rintro x ⟨i,hi,rfl⟩;rcases aF i k with a | b
  ·have f:(10:Nat) ^ (i+1)<=10 ^ 18:=nG (by decide) (by omega);have hp:(10:Nat) ^ (i+1)=10 ^ i*10:=rX 10 i;have e:wrap .i64 (((10 ^ i:Nat):Int)*10)=((10 ^ (i+1):Nat):Int):=by rw[wrap_i64 _ (by omega) (by omega)];omega
   have d:wrap .i64 ((i:Int)+1)=((i+1:Nat):Int):=by rw[wrap_i64 _ (by omega) (by omega)];omega
   refine .inl ⟨_,?_,⟨i+1,a,rfl⟩,by simp only[bT];omega,rfl⟩;simp only[kh,ii,a,nJ,aj,e,d]
  ·have:i=k:=by omega
   subst this;refine .inr ?_;simp only[kh,ii,D9,mY,af]) n (1,(k:Int),0) ⟨0,by omega,rfl⟩ (by simp;omega)
 have c:decide ((k:Int)<0)=false:=am (by omega);have d2:decide ((k:Int)>18)=false:=am (by omega);simp only[n6,c,d2,af,this,ob]
def kz(x:Int)(a:0<=x)(b:x<18446744073709551616):wrap .u64 x=x:=by
 show x%18446744073709551616=x;omega
def DG(x:Int):wrap .u64 x=x%18446744073709551616:=rfl
def Ix{a:Nat}(b:a<18446744073709551616):bits .and .u64 (a:Int) 4294967295=((a%4294967296:Nat):Int):=by
 show wrap .u64 ((BitVec.ofInt 64 (a:Int) &&& BitVec.ofInt 64 ((4294967295:Nat):Int)).toNat:Int)=_;rw[Bf,Bf,BitVec.toNat_and,BitVec.toNat_ofNat,BitVec.toNat_ofNat,rG (show a<2 ^ 64 from b),rG (by decide)];have:=Nat.and_two_pow_sub_one_eq_mod a 32;rw[show(2:Nat) ^ 32 - 1=4294967295 from by decide,show(2:Nat) ^ 32=4294967296 from by decide]at this;rw[this];exact kz _ (by omega) (by omega)
def MY(a:Nat):Int.fdiv (a:Int) (2 ^ 32)=((a / 4294967296:Nat):Int):=by
 rw[NY]
def GG{a b A B:Nat}(c:a<=A)(d:b<=B):a*b<=A*B:=Es c d
def IU(a b:Nat):a*b=(a / 4294967296)*(b / 4294967296)*18446744073709551616+((a / 4294967296)*(b%4294967296)+(a%4294967296)*(b / 4294967296))*4294967296+(a%4294967296)*(b%4294967296):=by
 have f:a=(a / 4294967296)*4294967296+a%4294967296:=by omega
 have e:b=(b / 4294967296)*4294967296+b%4294967296:=by omega
 generalize a / 4294967296=c at f ⊢;generalize a%4294967296=g at f ⊢;generalize b / 4294967296=d at e ⊢;generalize b%4294967296=h at e ⊢;subst f e;rw[gD,Nat.mul_add,Nat.mul_add];have j:c*4294967296*(d*4294967296)=c*d*18446744073709551616:=by
  rw[Nat.mul_mul_mul_comm]
 have i:c*4294967296*h=c*h*4294967296:=by rw[Nat.mul_right_comm]
 have k:g*(d*4294967296)=g*d*4294967296:=by rw[EH]
 rw[j,i,k,gD];omega
def VD(n a b:Nat)(q:a<18446744073709551616)(v:b<18446744073709551616):ky n (a:Int) (b:Int)=some (((a*b / 18446744073709551616:Nat):Int),((a*b%18446744073709551616:Nat):Int)):=by
 have x:=IU a b;have i:a / 4294967296<=4294967295:=by omega
 have h:a%4294967296<=4294967295:=by omega
 have g:b / 4294967296<=4294967295:=by omega
 have j:b%4294967296<=4294967295:=by omega
 have w:=GG h j;have p:=GG h g;have o:=GG i j;have l:=GG i g;have k:wrap .u64 ((a:Int)*(b:Int))=((a*b%18446744073709551616:Nat):Int):=by
  rw[DG,<-Fb];omega
 simp only[ky,MY,Ix q,Ix v,k];simp only[<-Fb];generalize(a / 4294967296)*(b / 4294967296)=f at *;generalize(a / 4294967296)*(b%4294967296)=d at *;generalize(a%4294967296)*(b / 4294967296)=e at *;generalize(a%4294967296)*(b%4294967296)=c at *;generalize a*b=N at *;have s:wrap .u64 ((c:Nat):Int)=((c:Nat):Int):=kz _ (by omega) (by omega);have y:wrap .u64 ((d:Nat):Int)=((d:Nat):Int):=kz _ (by omega) (by omega);have t:wrap .u64 ((e:Nat):Int)=((e:Nat):Int):=kz _ (by omega) (by omega);have u:wrap .u64 ((f:Nat):Int)=((f:Nat):Int):=kz _ (by omega) (by omega);rw[s,y,t,u,MY c];have r:wrap .u64 (((d:Nat):Int)+((c / 4294967296:Nat):Int))=((d+c / 4294967296:Nat):Int):=by rw[kz _ (by omega) (by omega)];omega
 rw[r,MY,Ix (by omega)];have z:wrap .u64 (((f:Nat):Int)+(((d+c / 4294967296) / 4294967296:Nat):Int))=((f+(d+c / 4294967296) / 4294967296:Nat):Int):=by rw[kz _ (by omega) (by omega)];omega
 have m:wrap .u64 ((((d+c / 4294967296)%4294967296:Nat):Int)+((e:Nat):Int))=(((d+c / 4294967296)%4294967296+e:Nat):Int):=by rw[kz _ (by omega) (by omega)];omega
 rw[z,m,MY];have w8:wrap .u64 (((f+(d+c / 4294967296) / 4294967296:Nat):Int)+((((d+c / 4294967296)%4294967296+e) / 4294967296:Nat):Int))=((N / 18446744073709551616:Nat):Int):=by
  rw[kz _ (by omega) (by omega)];omega
 rw[w8]
def Ry(n a b:Nat)(k:a<9223372036854775808)(j:b<9223372036854775808):vd n (a:Int) (b:Int)=some (if a*b<9223372036854775808 then(((a*b:Nat):Int),0)else(0,15)):=by
 have f:decide ((a:Int)<0)=false:=am (by omega);have d2:decide ((b:Int)<0)=false:=am (by omega);have i:wrap .u64 (a:Int)=a:=kz _ (by omega) (by omega);have g:wrap .u64 (b:Int)=b:=kz _ (by omega) (by omega);simp only[vd,sW,f,d2,af,i,g,ob,VD n a b (by omega) (by omega)];generalize a*b=N;by_cases h:18446744073709551616<=N
 ·have c:decide (((N / 18446744073709551616:Nat):Int)>0)=true:=aq (by omega);rw[c,ab (by omega)];rfl
 ·have c:decide (((N / 18446744073709551616:Nat):Int)>0)=false:=am (by omega);have e:N%18446744073709551616=N:=rG (by omega);rw[c,e];simp only[af,ur,bV,rK,gJ,aj];by_cases d:N<9223372036854775808
  ·have d4:decide (((N:Nat):Int)<=9223372036854775807)=true:=aq (by omega);rw[d4,ae d,aj,wrap_i64 _ (by omega) (by omega)]
  ·have d4:decide (((N:Nat):Int)<=9223372036854775807)=false:=am (by omega);rw[d4,ab d,af]
def E16:Nat:=10000000000000000
def Qp{x:Nat}(hx:17<=x):E16<10 ^ x:=by
 have:(10:Nat) ^ 17<=10 ^ x:=nG (by decide) hx;have a:(10:Nat) ^ 17=100000000000000000:=by decide
 unfold E16;omega
def Ia(n:Nat)(g l:Bool)(d:aa)(x:Nat)(s:Int)(hd:∀c∈d,bm c=true)(i:d≠[])(e:d.length<=17)(hx:x<=18)(p:18<n):
  dQ n g l d (x:Int) s=some (if dval 0 d*10 ^ x<=E16 then(((dval 0 d*10 ^ x:Nat):Int),0)else(0,6)):=by
 obtain⟨k,f⟩:=Hl hd i (by omega);have q:dval 0 d<10 ^ 17:=pK f (nG (by decide) e);have hp:(10:Nat) ^ x<=10 ^ 18:=nG (by decide) hx;have j:(10:Nat) ^ 17=100000000000000000:=by decide
 have m:(10:Nat) ^ 18=1000000000000000000:=by decide
 have o:Nat.ble d.length 9223372036854775806=true:=dF (by omega);simp only[dQ,o,aj,k,ob,N7 n x hx p,dX,af,Ry n _ _ (show dval 0 d<9223372036854775808 by omega) (show 10 ^ x<9223372036854775808 by omega)];generalize dval 0 d*10 ^ x=N;unfold E16;by_cases h:N<9223372036854775808
 ·rw[ae h];simp only[dX,af];by_cases b:N<=10000000000000000
  ·have a:decide (((N:Nat):Int)>10000000000000000)=false:=am (by omega);rw[a,ae b,af]
  ·have a:decide (((N:Nat):Int)>10000000000000000)=true:=aq (by omega);rw[a,ab b,aj]
 ·rw[ab h,ab (by omega)];rfl
def pre(d:aa)(i:Nat):Nat:=dval 0 (d.take i)*10 ^ (i - d.length)
def OG{d:aa}{i:Nat}{c:UInt8}(h:d[i]?=some c):pre d (i+1)=10*pre d i+(c.toNat - 48):=by
 have a:=sC h;unfold pre;rw[rS,h,show i+1 - d.length=0 by omega,show i - d.length=0 by omega];simp only[Option.toList,F7,Ac,qo];omega
def OP{d:aa}{i:Nat}(h:d.length<=i):pre d (i+1)=10*pre d i:=by
 unfold pre;rw[iv (show d.length<=i+1 by omega),iv h,show i+1 - d.length=(i - d.length)+1 by omega,rX];rw[<-EH];omega
def Ge(d:aa):∀k i,pre d i<=pre d (i+k)
 | 0,i=>aQ _
 | k+1,i=>by
  have ih:=Ge d k i;rcases aF (i+k) d.length with b | a
  ·have:=OG (bg b);rw[show i+(k+1)=i+k+1 by omega,this];omega
  ·have:=OP a;rw[show i+(k+1)=i+k+1 by omega,this];omega
def iW(n:Nat)(d:aa)(x:Nat)(hd:∀c∈d,bm c=true)(u:d.length<=100)(hx:x<=100)(v:d.length+x<n):
  ak n d (x:Int)=some (if dval 0 d*10 ^ x<=E16 then(((dval 0 d*10 ^ x:Nat):Int),1)else(0,0)):=by
 have a:pre d (d.length+x)=dval 0 d*10 ^ x:=by
  unfold pre;rw[iv (by omega),show d.length+x - d.length=x by omega]
 have w0:wrap .i64 (((d.length:Nat):Int)+(x:Int))=((d.length+x:Nat):Int):=by rw[wrap_i64 _ (by omega) (by omega)];omega
 have:=fm (step:=eS n) (λq=>∃i:Nat,i<=d.length+x/\pre d i<=E16/\q=(d,(x:Int),((pre d i:Nat):Int),(i:Int))) (λq=>d.length+x - q.2.2.2.toNat) (λ_=>if dval 0 d*10 ^ x<=E16 then .inr ((dval 0 d*10 ^ x:Nat):Int)else .inl (0,0)) (by
  rintro q ⟨i,hi,hp,rfl⟩;simp only[eS,w0,ii];unfold E16 at hp ⊢;have r:wrap .i64 ((i:Int)+1)=((i+1:Nat):Int):=by rw[wrap_i64 _ (by omega) (by omega)];omega
  have o:wrap .i64 (10*((pre d i:Nat):Int))=((10*pre d i:Nat):Int):=by rw[wrap_i64 _ (by omega) (by omega)];omega
  by_cases j:i<d.length+x
  ·have p:=Ge d (d.length+x - (i+1)) (i+1);rw[show i+1+(d.length+x - (i+1))=d.length+x by omega,a]at p;simp only[j,nJ,aj,r,o];rcases aF i d.length with e | f
   ·obtain⟨c,hc⟩:∃c,d[i]?=some c:=⟨d[i],bg e⟩;have l:=(bZ c).1 (hd c (fE hc));have hs:=OG hc;have s:wrap .u8 (((c.toNat:Nat):Int) - 48)=((c.toNat - 48:Nat):Int):=by rw[jI _ (by omega) (by omega)];omega
    have t:wrap .i64 ((c.toNat - 48:Nat):Int)=((c.toNat - 48:Nat):Int):=wrap_i64 _ (by omega) (by omega);have m:wrap .i64 (((10*pre d i:Nat):Int)+((c.toNat - 48:Nat):Int))=((pre d (i+1):Nat):Int):=by rw[wrap_i64 _ (by omega) (by omega)];omega
    simp only[e,nJ,aj,dw hc,ob,s,t,m];by_cases g:pre d (i+1)<=10000000000000000
    ·have b:decide (((pre d (i+1):Nat):Int)>10000000000000000)=false:=am (by omega);simp only[b,af];exact .inl ⟨_,rfl,⟨i+1,j,g,rfl⟩,by simp only[bT];omega,trivial⟩
    ·have b:decide (((pre d (i+1):Nat):Int)>10000000000000000)=true:=aq (by omega);simp only[b,aj];rw[ab (by omega)];exact .inr rfl
   ·have hs:=OP f;have k:¬i<d.length:=by omega
    simp only[k,mY,af];rw[<-hs];by_cases g:pre d (i+1)<=10000000000000000
    ·have b:decide (((pre d (i+1):Nat):Int)>10000000000000000)=false:=am (by omega);simp only[b,af];exact .inl ⟨_,rfl,⟨i+1,j,g,rfl⟩,by simp only[bT];omega,trivial⟩
    ·have b:decide (((pre d (i+1):Nat):Int)>10000000000000000)=true:=aq (by omega);simp only[b,aj];rw[ab (by omega)];exact .inr rfl
  ·have:i=d.length+x:=by omega
   subst this;simp only[D9,mY,af];rw[a]at hp ⊢;rw[ae hp];exact .inr rfl) n (d,(x:Int),0,0) ⟨0,by omega,by unfold pre E16;simp[oU],by unfold pre;simp[oU]⟩ (by simp;omega)
 simp only[ak,this,ob];by_cases h:dval 0 d*10 ^ x<=E16
 ·rw[ae h,ae h]
 ·rw[ab h,ab h]
def okM(d:aa)(x:Int):Prop:=(∀c∈d,bm c=true)/\1<=d.length/\d.length<=17/\d.head?≠some 48/\0<=x/\x<=16/\¬(x=0/\d.length<5)/\dval 0 d*10 ^ x.toNat<=E16
def okL(d:aa)(x s:Int):Prop:=okM d x/\0<=s/\s<=(d.length:Int)+x
def okS(g:Bool)(d:aa)(x s:Int):Prop:=d.length=4/\(∀c∈d,bm c=true\/c=88)/\x=0/\¬(g=true/\all0 d=true)/\0<=s/\s<=4/\¬(0<s/\hasX d=true)
def okY(g l:Bool)(d:aa)(x s:Int):Prop:=if l=true then okL d x s else okS g d x s
instance (d:aa)(x:Int):Decidable (okM d x):=by unfold okM;infer_instance
instance (d:aa)(x s:Int):Decidable (okL d x s):=by unfold okL;infer_instance
instance (g:Bool)(d:aa)(x s:Int):Decidable (okS g d x s):=by unfold okS;infer_instance
instance (g l:Bool)(d:aa)(x s:Int):Decidable (okY g l d x s):=by unfold okY;infer_instance
def J7(d:aa):d.all bm=true↔∀c∈d,bm c=true:=cq
def EP(d:aa):(d.all λc=>bm c||c==88)=true↔∀c∈d,bm c=true\/c=88:=by
 rw[cq];constructor
 ·intro h c hc;have:=h c hc;simpa using this
 ·intro h c hc;have:=h c hc;simpa using this
def Qj(c:UInt8):(((c.toNat:Nat):Int)==48)=(c==48):=nc c 48
def QG(n:Nat)(g l:Bool)(d:aa)(x s:Int)(A:200<n)(hd:d.length<=100):aV n g l d x s=some (decide (okM d x)):=by
 unfold aV;by_cases y:d.length<1
 ·have e:decide (((d.length:Nat):Int)<1)=true:=aq (by omega);rw[e,am (λh:okM d x=>by have:=h.2.1;omega)];rfl
 ·have e:decide (((d.length:Nat):Int)<1)=false:=am (by omega);rw[e,af];by_cases z:d.length>17
  ·have e:decide (((d.length:Nat):Int)>17)=true:=aq (by omega);rw[e,am (λh:okM d x=>by have:=h.2.2.1;omega)];rfl
  ·have e:decide (((d.length:Nat):Int)>17)=false:=am (by omega);rw[e,af,Lj n d (by omega) (by omega)];simp only[ob];cases t:d.all bm with
   | false=>
    rw[am (λh:okM d x=>by rw[(J7 d).2 h.1]at t;cases t)];rfl
   | true=>
    have a:=(J7 d).1 t;obtain⟨c,r,rfl⟩:∃c r,d=c::r:=by
     cases d with
     | nil=>simp at y
     | cons c r=>exact⟨c,r,rfl⟩
    have p:sx (c::r) 0=some c:=by simp[sx]
    simp only[bV,af,p,Qj];by_cases i:c=48
    ·rw[am (λh:okM (c::r) x=>h.2.2.2.1 (by rw[i];rfl)),i];rfl
    ·have e:(c==48)=false:=aK.2 i;rw[e,af];by_cases v:x<0
     ·rw[aq v,am (λh:okM (c::r) x=>by have:=h.2.2.2.2.1;omega)];rfl
     ·rw[am v,af];by_cases w:x>16
      ·rw[aq w,am (λh:okM (c::r) x=>by have:=h.2.2.2.2.2.1;omega)];rfl
      ·rw[am w,af];obtain⟨k,rfl⟩:∃k:Nat,x=(k:Int):=⟨x.toNat,by omega⟩;have o:=Ia n g l (c::r) k s a (by simp) (by omega) (by omega) (by omega);rw[o];have key:¬((k:Int)=0/\(c::r).length<5)->(okM (c::r) (k:Int)↔dval 0 (c::r)*10 ^ k<=E16):=by
        intro m;constructor
        ·intro h;simpa using h.2.2.2.2.2.2.2
        ·intro h;exact⟨a,by omega,by omega,by simpa using i,by omega,by omega,m,by simpa using h⟩
       have b:¬((k:Int)=0/\(c::r).length<5)->(ob (some (if dval 0 (c::r)*10 ^ k<=E16 then(((dval 0 (c::r)*10 ^ k:Nat):Int),(0:Int))else(0,6))) λq=>(some (q.2==0)))=some (decide (okM (c::r) (k:Int))):=by
        intro m;by_cases j:dval 0 (c::r)*10 ^ k<=E16
        ·rw[ae j,aq ((key m).2 j)];rfl
        ·rw[ab j,am (λh=>j ((key m).1 h))];rfl
       by_cases f:(k:Int)=0
       ·have e:((k:Int)==0)=true:=bv.2 f;rw[e,aj];by_cases u:(c::r).length<5
        ·have e:decide ((((c::r).length:Nat):Int)<5)=true:=aq (by omega);rw[e,am (λh:okM (c::r) (k:Int)=>h.2.2.2.2.2.2.1 ⟨f,u⟩)];rfl
        ·have e:decide ((((c::r).length:Nat):Int)<5)=false:=am (by omega);rw[e,af];exact b (λh=>u h.2)
       ·have e:((k:Int)==0)=false:=aK.2 f;rw[e,af];exact b (λh=>f h.1)
def M5(n:Nat)(g l:Bool)(d:aa)(x s:Int)(c:200<n)(hd:d.length<=100):
  (ob (aV n g l d x s) λr=>(cond (!r) (some (6:Int)) (cond (decide (s<0)) (some 6) (cond (decide (s>(wrap .i64 (((d.length:Nat):Int)+x)))) (some 6) (some 0)))))=some (if okL d x s then 0 else 6):=by
 rw[QG n g l d x s c hd];simp only[ob];by_cases h:okM d x
 ·rw[aq h];have hx:=h.2.2.2.2;have w:wrap .i64 (((d.length:Nat):Int)+x)=((d.length:Nat):Int)+x:=wrap_i64 _ (by omega) (by omega);rw[w];simp only[bV,af,bB];by_cases b:s<0
  ·rw[ae b,ab (λq:okL d x s=>by have:=q.2.1;omega)]
  ·rw[ab b];by_cases a:s>((d.length:Nat):Int)+x
   ·rw[ae a,ab (λq:okL d x s=>by have:=q.2.2;omega)]
   ·rw[ab a,ae ⟨h,by omega,by omega⟩]
 ·rw[am h,ab (λq:okL d x s=>h q.1)];rfl
def Fv(n:Nat)(g l:Bool)(d:aa)(x s:Int)(v:200<n)(hd:d.length<=100):iH n g l d x s=some (if okY g l d x s then 0 else 6):=by
 obtain⟨y,z,hy⟩:=QP n d (by omega) (by omega);unfold iH;rw[HM n d (by omega) (by omega),z,sM];cases l with
 | true=>
  have b:(if okY g true d x s then(0:Int)else 6)=if okL d x s then 0 else 6:=by simp only[okY,aH]
  rw[b];have st:=M5 n g true d x s v hd;simp only[aj];generalize(ob (aV n g true d x s) λr=>(cond (!r) (some (6:Int)) (cond (decide (s<0)) (some 6) (cond (decide (s>(wrap .i64 (((d.length:Nat):Int)+x)))) (some 6) (some 0)))))=T at st ⊢;simp only[ob];rw[st];cases(((d.length:Nat):Int)==4)<;>cases(d.all λc=>bm c||c==88)<;>cases(x==0)<;>cases g<;>cases(y==[])<;>cases(s != 0)<;>rfl
 | false=>
  have b:(if okY g false d x s then(0:Int)else 6)=if okS g d x s then 0 else 6:=by simp only[okY,bs,aC]
  rw[b];simp only[af,ob];by_cases f:d.length=4
  ·have k:(((d.length:Nat):Int)==4)=true:=bv.2 (by omega);rw[k,aj];cases j:(d.all λc=>bm c||c==88)with
   | false=>
    rw[ab (λq:okS g d x s=>by rw[(EP d).2 q.2.1]at j;cases j)];rfl
   | true=>
    have e:=(EP d).1 j;rw[aj];by_cases m:x=0
    ·subst m;have w:wrap .i64 (((d.length:Nat):Int)+0)=4:=by rw[f];decide
     rw[w];have a:¬(g=true/\all0 d=true)->(cond (s != 0) (cond (!(!hasX d)) (some (6:Int)) (cond (decide (s<0)) (some 6) (cond (decide (s>4)) (some 6) (some 0)))) (cond (decide (s<0)) (some 6) (cond (decide (s>4)) (some 6) (some 0))))=some (if okS g d 0 s then 0 else 6):=by
      intro p;simp only[bB,GK,Bool.not_not];by_cases s0:s=0
      ·subst s0;rw[ae rfl,ab (by omega),ab (by omega),ae ⟨f,e,rfl,p,by omega,by omega,by omega⟩]
      ·rw[ab s0];cases u:hasX d with
       | true=>
        by_cases h:s<0
        ·rw[ab (λq:okS g d 0 s=>by have:=q.2.2.2.2.1;omega)];rfl
        ·rw[ab (λq:okS g d 0 s=>q.2.2.2.2.2.2 ⟨by omega,u⟩)];rfl
       | false=>
        rw[af];by_cases h:s<0
        ·rw[ae h,ab (λq:okS g d 0 s=>by have:=q.2.2.2.2.1;omega)]
        ·rw[ab h];by_cases o:s>4
         ·rw[ae o,ab (λq:okS g d 0 s=>by have:=q.2.2.2.2.2.1;omega)]
         ·rw[ab o,ae ⟨f,e,rfl,p,by omega,by omega,λq=>by rw[u]at q;cases q.2⟩]
     have i:((0:Int)==0)=true:=rfl;rw[i,aj];cases g with
     | false=>
      simp only[af];exact a (by simp)
     | true=>
      simp only[aj];rw[hy];cases t:all0 d with
      | true=>rw[ab (λq:okS true d 0 s=>q.2.2.2.1 ⟨rfl,t⟩)];rfl
      | false=>
       simp only[gJ,aj];exact a (by rw[t];simp)
    ·have i:(x==0)=false:=aK.2 m;rw[i,ab (λq:okS g d x s=>m q.2.2.1)];rfl
  ·have k:(((d.length:Nat):Int)==4)=false:=aK.2 (by omega);rw[k,ab (λq:okS g d x s=>f q.1)];rfl
def Qb(d:aa):cnt 48 57 d=d.length↔∀c∈d,bm c=true:=Io 48 57 d
def KJ(n:Nat)(g l:Bool)(d:aa)(x s:Int)(M:200<n)(hd:d.length<=100):jz n g l d x s=some (if okY g l d x s then 1 else 0):=by
 have hs:=Lq d;have t:=Fp d;have p:=MV d;have o:=Qb d;unfold jz;rw[GO n d 48 57 (by omega) (by omega),GO n d 88 88 (by omega) (by omega),GO n d 48 48 (by omega) (by omega)];simp only[ob];generalize K:cnt 48 57 d=A at *;generalize L:cnt 88 88 d=B at *;have w0:wrap .i64 (((A:Nat):Int)+((B:Nat):Int))=((A+B:Nat):Int):=by rw[wrap_i64 _ (by omega) (by omega)];omega
 rw[w0];simp only[GK,bB,GQ];by_cases y:A+B=d.length
 ·rw[ae (by omega)];have m:=hs.2.1 y;by_cases G:s<0
  ·rw[ae G,ab];intro q;unfold okY at q;split at q
   ·have:=q.2.1;omega
   ·have:=q.2.2.2.2.1;omega
  ·rw[ab G];cases l with
   | false=>
    have i:(if okY g false d x s then(1:Int)else 0)=if okS g d x s then 1 else 0:=by simp only[okY,bs,aC]
    rw[i,af];by_cases j:d.length=4
    ·rw[ae (by omega)];by_cases h:x=0
     ·rw[ae h];have a:¬(g=true/\all0 d=true)->(if s>4 then some (0:Int)else if s>0 then(if((B:Nat):Int)>0 then some 0 else some 1)else some 1)=some (if okS g d x s then 1 else 0):=by
       intro F;by_cases w:s>4
       ·rw[ae w,ab (λq:okS g d x s=>by have:=q.2.2.2.2.2.1;omega)]
       ·rw[ab w];by_cases C:s>0
        ·rw[ae C];by_cases v:((B:Nat):Int)>0
         ·rw[ae v,ab (λq:okS g d x s=>q.2.2.2.2.2.2 ⟨by omega,by rw[t];exact aq (by omega)⟩)]
         ·rw[ab v,ae ⟨j,m,h,F,by omega,by omega,λq=>by
           have:=q.2;rw[t,ci]at this;omega⟩]
        ·rw[ab C,ae ⟨j,m,h,F,by omega,by omega,λq=>by omega⟩]
      cases g with
      | false=>rw[af];exact a (by simp)
      | true=>
       rw[aj,jy];by_cases b:all0 d=true
       ·rw[ae (by have:=p.1 b;omega),ab (λq:okS true d x s=>q.2.2.2.1 ⟨rfl,b⟩)]
       ·rw[ab (λq=>b (p.2 (by omega)))];exact a (λq=>b q.2)
     ·rw[ab h,ab (λq:okS g d x s=>h q.2.2.1)]
    ·rw[ab (by omega),ab (λq:okS g d x s=>j q.1)]
   | true=>
    have i:(if okY g true d x s then(1:Int)else 0)=if okL d x s then 1 else 0:=by simp only[okY,aH]
    rw[i,aj];by_cases v:((B:Nat):Int)>0
    ·rw[ae v,ab];intro q;have:=o.2 q.1.1;omega
    ·rw[ab v];have f:=o.1 (by omega);by_cases j:((A:Nat):Int)<1
     ·rw[ae j,ab (λq:okL d x s=>by have:=q.1.2.1;omega)]
     ·rw[ab j];by_cases h:((A:Nat):Int)>17
      ·rw[ae h,ab (λq:okL d x s=>by have:=q.1.2.2.1;omega)]
      ·rw[ab h];obtain⟨c,r,rfl⟩:∃c r,d=c::r:=by
        cases d with
        | nil=>simp at y;omega
        | cons c r=>exact⟨c,r,rfl⟩
       have z:sx (c::r) 0=some c:=by simp[sx]
       simp only[z,Qj,jy];by_cases b:c=48
       ·rw[ae b,ab (λq:okL (c::r) x s=>q.1.2.2.2.1 (by rw[b];rfl))]
       ·rw[ab b];by_cases H:x<0
        ·rw[ae H,ab (λq:okL (c::r) x s=>by have:=q.1.2.2.2.2.1;omega)]
        ·rw[ab H];by_cases E:x>16
         ·rw[ae E,ab (λq:okL (c::r) x s=>by have:=q.1.2.2.2.2.2.1;omega)]
         ·rw[ab E];obtain⟨k,rfl⟩:∃k:Nat,x=(k:Int):=⟨x.toNat,by omega⟩;have I:wrap .i64 (((A:Nat):Int)+(k:Int))=((A+k:Nat):Int):=by rw[wrap_i64 _ (by omega) (by omega)];omega
          rw[I,iW n (c::r) k f hd (by omega) (by omega)];have u:(c::r).length=A:=by omega
          have a:¬((k:Int)=0/\(c::r).length<5)->(if s>((A+k:Nat):Int)then some (0:Int)else some (if dval 0 (c::r)*10 ^ k<=E16 then(((dval 0 (c::r)*10 ^ k:Nat):Int),(1:Int))else(0,0)).2)=some (if okL (c::r) (k:Int) s then 1 else 0):=by
           intro J;by_cases w:s>((A+k:Nat):Int)
           ·rw[ae w,ab (λq:okL (c::r) (k:Int) s=>by have:=q.2.2;rw[u]at this;omega)]
           ·rw[ab w];by_cases e:dval 0 (c::r)*10 ^ k<=E16
            ·rw[ae e,ae ⟨⟨f,by omega,by omega,by simpa using b,by omega,by omega,J,by simpa using e⟩,by omega,by omega⟩]
            ·rw[ab e,ab (λq:okL (c::r) (k:Int) s=>e (by simpa using q.1.2.2.2.2.2.2.2))]
          by_cases e:(k:Int)=0
          ·rw[ae e];by_cases D:((A:Nat):Int)<5
           ·rw[ae D,ab (λq:okL (c::r) (k:Int) s=>q.1.2.2.2.2.2.2.1 ⟨e,by omega⟩)]
           ·rw[ab D];exact a (λq=>by omega)
          ·rw[ab e];exact a (λq=>e q.1)
 ·rw[ab (by omega),ab];intro q;apply y;rw[hs.2];unfold okY at q;split at q
  ·exactλc hc=>.inl (q.1.1 c hc)
  ·exact q.2.1
def Jb:∀(l:aa) (a:Nat),a*10 ^ l.length<=dval a l
 | [],a=>by rw[oU];simp
 | c::l,a=>by
  have ih:=Jb l (uG a c);rw[nM,aP,rX];have h:a*10<=uG a c:=zJ _ _;have b:=nE (10 ^ l.length) h;have d:a*(10 ^ l.length*10)=a*10*10 ^ l.length:=by rw[tq (10 ^ l.length) 10,EH]
  omega
def tK:∀(l:aa) (a k:Nat),(∀c∈l,bm c=true)->a<10 ^ k->dval a l<10 ^ (l.length+k)
 | [],a,k,_,h=>by rw[oU];simpa using h
 | c::l,a,k,hd,h=>by
  have hc:=(bZ c).1 (hd c (by simp));have hp:(10:Nat) ^ (k+1)=10 ^ k*10:=rX 10 k;have hs:uG a c=a*10+(c.toNat - 48):=rfl;have ih:=tK l (uG a c) (k+1) (λd b=>hd d (by simp[b])) (by omega);rw[nM,aP,show l.length+1+k=l.length+(k+1)by omega];exact ih
structure Num(d:aa)(k q:Nat):Prop where
 dig:∀c∈d,bm c=true
 ne:d≠[]
 wide:d.length+k<=17
 small:dval 0 d*10 ^ k<=E16
 sig:q<=d.length+k
def EW{d:aa}(h:∀c∈d,bm c=true):hasX d=false:=by
 unfold hasX;rw[rc];intro c hc a;rw[bv]at a;have:=(bZ c).1 (h c hc);rw[a]at this;exact absurd this.2 (by decide)
def sA{g l:Bool}{d:aa}{x s:Int}(h:okY g l d x s)(p:hasX d=false):∃k q:Nat,x=(k:Int)/\s=(q:Int)/\Num d k q:=by
 cases l with
 | true=>
  have h:okL d x s:=by simpa[okY]using h
  obtain⟨⟨b,f,B,o,v,w,z,y⟩,t,u⟩:=h;refine⟨x.toNat,s.toNat,by omega,by omega,b,by intro e;subst e;simp at f,?_,y,by omega⟩;cases d with
  | nil=>simp at f
  | cons c r=>
   have hc:=(bZ c).1 (b c (by simp));have j:c≠48:=by simpa using o
   have n:1<=uG 0 c:=by
    have:c.toNat≠48:=λe=>j (ga.1 e);show 1<=0*10+(c.toNat - 48);omega
   have A:=Jb r (uG 0 c);rw[<-nM]at A;have t:10 ^ r.length<=dval 0 (c::r):=by
    have:=nE (10 ^ r.length) n;omega
   have m:=nE (10 ^ x.toNat) t;rw[<-Nat.pow_add]at m;rcases aF (r.length+x.toNat) 17 with a | i
   ·simp only[aP];omega
   ·have:=Qp i;omega
 | false=>
  have h:okS g d x s:=by simpa[okY]using h
  obtain⟨b,f,B,o,v,w,z⟩:=h;have hd:∀c∈d,bm c=true:=by
   intro c hc;rcases f c hc with h | h
   ·exact h
   ·exfalso;unfold hasX at p;rw[rc]at p;exact p c hc (bv.2 h)
  have a:=tK d 0 0 hd (by simp);rw[b]at a;refine⟨0,s.toNat,by omega,by omega,hd,by intro e;subst e;simp at b,by omega,?_,by omega⟩;have o:(10:Nat) ^ (4+0)=10000:=by decide
  unfold E16;simp only[Ac,qo];omega
def val(d:aa)(k:Nat):Nat:=dval 0 d*10 ^ k
def yX(n:Nat)(g l:Bool)(d:aa)(x s:Int)(c:200<n)(hd:d.length<=100):
  dZ n g l d x s=some (if okY g l d x s/\hasX d=false then(if g then -((val d x.toNat:Nat):Int)else((val d x.toNat:Nat):Int),0)else(0,6)):=by
 unfold dZ;rw[Fv n g l d x s c hd,sM];simp only[ob];by_cases h:okY g l d x s
 ·rw[ae h];cases b:hasX d with
  | true=>rw[ab (by simp)];rfl
  | false=>
   rw[ae ⟨h,rfl⟩];obtain⟨k,q,rfl,rfl,a⟩:=sA h b;rw[Ia n g l d k q a.dig a.ne (by have:=a.wide;omega) (by have:=a.wide;omega) (by omega),ae a.small];have hs:=a.small;unfold E16 at hs;cases g with
   | true=>
    simp only[dX,af,aj,bT,val,aH];rw[wrap_i64 _ (by omega) (by omega),yE]
   | false=>simp[val]
 ·rw[ab h,ab (λq=>h q.1)];rfl
def nV{a b:aa}(h:a.length+b.length<=1000000):cat a b=some (a++b):=by
 unfold cat;rw[ae (by omega)]
def cut1{l:aa}{i:Nat}{c:UInt8}(h:l[i]?=some c):List.drop i (List.take (i+1) l)=[c]:=by
 have a:=sC h;rw[rS,h,Cm (by rw[de];omega)];rfl
def Qz{l:aa}{i:Nat}{c:UInt8}(h:l[i]?=some c):List.take (i+1) l=List.take i l++[c]:=by
 rw[rS,h];rfl
def qt{g l:Bool}{d:aa}{x s:Int}(h:okY g l d x s)(a:hasX d=true):l=false/\x=0/\s=0/\d.length=4/\∀c∈d,bm c=true\/c=88:=by
 cases l with
 | true=>
  have h:okL d x s:=by simpa[okY]using h
  rw[EW h.1.1]at a;cases a
 | false=>
  have h:okS g d x s:=by simpa[okY]using h
  obtain⟨i,b,j,n,k,m,f⟩:=h;refine⟨rfl,j,?_,i,b⟩;have:¬0<s:=λe=>f ⟨e,a⟩;omega
def lh{g l:Bool}{d:aa}{x s:Int}(h:okY g l d x s):0<=x/\x<=16/\0<=s/\s<=17/\1<=d.length/\d.length<=17:=by
 cases b:hasX d with
 | true=>
  obtain⟨rfl,rfl,rfl,e,_⟩:=qt h b;omega
 | false=>
  obtain⟨k,q,rfl,rfl,a⟩:=sA h b;have i:=a.wide;have f:=a.sig;have j:1<=d.length:=by
   cases d with
   | nil=>exact absurd rfl a.ne
   | cons c r=>simp
  omega
def numU(d:UInt8):aa->Nat⊕(Nat×Nat)
 | []=>.inr (d.toNat - 48,2)
 | e::_=>if bm e=true then .inr (10*(d.toNat - 48)+(e.toNat - 48),3)else .inr (d.toNat - 48,2)
def numT:aa->Nat⊕(Nat×Nat)
 | []=>.inl 1
 | d::r=>if 49<=d.toNat/\d.toNat<=57 then numU d r else .inl 1
def numS(letter:UInt8):aa->Nat⊕(Nat×Nat)
 | []=>.inr (0,0)
 | c::r=>if c=letter then numT r else .inr (0,0)
def si(letter:UInt8):numS letter []=.inr (0,0):=rfl
def ks(letter c:UInt8)(r:aa):numS letter (c::r)=if c=letter then numT r else .inr (0,0):=rfl
def uV:numT []=.inl 1:=rfl
def lG(d:UInt8)(r:aa):numT (d::r)=if 49<=d.toNat/\d.toNat<=57 then numU d r else .inl 1:=rfl
def qX(d:UInt8):numU d []=.inr (d.toNat - 48,2):=rfl
def ko(d e:UInt8)(r:aa):numU d (e::r)=if bm e=true then .inr (10*(d.toNat - 48)+(e.toNat - 48),3)else .inr (d.toNat - 48,2):=rfl
def xX(c:UInt8)(h:c.toNat<128):(Utf8.encode ((c.toNat:Nat):Int)).data.toList=[c]:=by
 have:=iJ (λc=>(decide (128<=c.toNat))||(Utf8.encode ((c.toNat:Nat):Int)).data.toList==[c]) (by decide +kernel) c;simp only[ie,ci,bv]at this;rcases this with a | a
 ·omega
 ·exact a
def pJ{c:UInt8}(h:48<=c.toNat/\c.toNat<=57):Lib.digitVal c=some (c.toNat - 48):=by
 unfold Lib.digitVal;rw[ae h]
def xT{c:UInt8}(h:48<=c.toNat/\c.toNat<=57)(r:aa):Lib.atoi (c::r)=(Lib.decNat (c::r)).map λ(m:Nat)=>(m:Int):=by
 have a:(c==45)=false:=by
  rw[aK];rintro rfl;exact absurd h.1 (by decide)
 have b:(c==43)=false:=by
  rw[aK];rintro rfl;exact absurd h.1 (by decide)
 simp only[Lib.atoi,a,b,bs,aC]
def L6{c:UInt8}(h:48<=c.toNat/\c.toNat<=57):Lib.atoi [c]=some ((c.toNat - 48:Nat):Int):=by
 rw[xT h];simp only[Lib.decNat,List.isEmpty_cons,bs,aC,Lib.decFrom,pJ h,eO,Ak,dc]
def FZ{c e:UInt8}(h:48<=c.toNat/\c.toNat<=57)(a:48<=e.toNat/\e.toNat<=57):Lib.atoi [c,e]=some ((10*(c.toNat - 48)+(e.toNat - 48):Nat):Int):=by
 rw[xT h];simp only[Lib.decNat,List.isEmpty_cons,bs,aC,Lib.decFrom,pJ h,pJ a,eO,Ak,dc];rw[tq]
def yD(c:UInt8):hasB [49,50,51,52,53,54,55,56,57] c=decide (49<=c.toNat/\c.toNat<=57):=by
 have:=iJ (λc=>hasB [49,50,51,52,53,54,55,56,57] c==decide (49<=c.toNat/\c.toNat<=57)) (by decide +kernel) c;simpa using this
def jM{p q:UInt8->Bool}(h:∀c,p c=q c):∀(k:Nat) (l:aa),bq p k l=bq q k l
 | 0,_=>by simp[bq]
 | _+1,[]=>by simp[bq]
 | k+1,c::l=>by simp only[bq,h c,jM h k l]
def mN{S:aa}{a:Nat}{c:UInt8}{r:aa}(h:S.drop a=c::r):a<S.length/\S[a]?=some c/\S.drop (a+1)=r:=by
 have b:a<S.length:=by
  rcases aF a S.length with q | q
  ·exact q
  ·rw[iD q]at h;cases h
 have d:S[a]?=some S[a]:=bg b;have hd:=bK d;rw[h]at hd;injection hd with h1 h2;exact⟨b,by rw[d,h1],h2.symm⟩
def Ib(n:Nat)(letter:UInt8)(S:aa)(a:Nat)(h:a<=S.length)(D:S.length<100000)(B:S.length<n):
  cP n [letter] S (a:Int)=some (match numS letter (S.drop a)with | .inl k=>.inr (((a+k:Nat):Int),5,S,((a+k:Nat):Int)) | .inr (v,k)=>.inl ((v:Int),S,((a+k:Nat):Int))):=by
 unfold cP;rw[mr n [letter] S a h (by omega)];cases hd:S.drop a with
 | nil=>simp[si]
 | cons c r=>
  obtain⟨z,C,w⟩:=mN hd;rw[ks];by_cases hc:c=letter
  ·have i:List.take [letter].length (c::r)=[letter]:=by simp[hc]
   have p:a+[letter].length=a+1:=rfl;rw[ae i,p,ae hc];clear i;simp only[ob,bV,af];rw[AK n _ S (a+1) (by omega) (by omega),w];cases r with
   | nil=>simp[uV]
   | cons d x=>
    obtain⟨u,y,s⟩:=mN w;rw[lG];simp only[yD,ci];by_cases b:49<=d.toNat/\d.toNat<=57
    ·rw[ae b,ae b];simp only[];rw[uS n _ 0 1 S (a+1+1) (by omega) (by omega) B,s];have E:=k7 (hasB [48,49,50,51,52,53,54,55,56,57]) (1:Int).toNat x;rw[ab (by omega)];rw[jM vQ];simp only[];rw[xX d (by omega)];have g:Nat.ble ([d]:aa).length 18=true:=rfl;have m:∀e:UInt8,Nat.ble ([d,e]:aa).length 18=true:=λ_=>rfl;have q:a+1+1=a+2:=rfl;have A:a+2+1=a+3:=rfl;have t:=L6 (show 48<=d.toNat/\d.toNat<=57 by omega);cases x with
     | nil=>
      have hs:bq bm (1:Int).toNat []=0:=rfl;rw[hs,qX];rw[nV (by simp)];simp only[List.take_nil,nW,ct,g,aj,t,opt,q]
     | cons e f=>
      by_cases j:bm e=true
      ·have hs:bq bm (1:Int).toNat (e::f)=1:=by
        show bq bm (0+1) (e::f)=1;simp[bq,j]
       have l:=FZ (show 48<=d.toNat/\d.toNat<=57 by omega) ((bZ e).1 j);rw[hs,ko,ae j];have o:List.take 1 (e::f)=[e]:=rfl;rw[o,nV (by simp)];simp only[dq,dW,m,aj,l,opt,q,A]
      ·have hs:bq bm (1:Int).toNat (e::f)=0:=by
        show bq bm (0+1) (e::f)=0;simp[bq,j]
       rw[hs,ko,ab j];have o:List.take 0 (e::f)=[]:=rfl;rw[o,nV (by simp)];simp only[nW,g,aj,t,opt,ct,q]
    ·rw[ab b,ab b]
  ·have e:¬List.take [letter].length (c::r)=[letter]:=by simp[hc]
   rw[ab e,ab hc];simp
def IS(n:Nat)(letter:UInt8)(S:aa)(a:Nat)(h:a<=S.length)(I:S.length<100000):
  ah n S (a:Int) ((letter.toNat:Nat):Int)=some (match numS letter (S.drop a)with | .inl k=>(-1,((a+k:Nat):Int)) | .inr (v,k)=>((v:Int),((a+k:Nat):Int))):=by
 unfold ah;rw[kR];cases hd:S.drop a with
 | nil=>
  have:S.length<=a:=by
   rcases aF a S.length with q | q
   ·rw[bK (bg q)]at hd;cases hd
   ·exact q
  rw[aq this];simp[si]
 | cons c r=>
  obtain⟨A,C,s⟩:=mN hd;have z:wrap .i64 ((a:Int)+1)=((a+1:Nat):Int):=by rw[wrap_i64 _ (by omega) (by omega)];omega
  have F:wrap .i64 (((a+1:Nat):Int)+1)=((a+2:Nat):Int):=by rw[wrap_i64 _ (by omega) (by omega)];omega
  have D:wrap .i64 (((a+2:Nat):Int)+1)=((a+3:Nat):Int):=by rw[wrap_i64 _ (by omega) (by omega)];omega
  rw[am (show¬S.length<=a by omega),af,dw C];simp only[ob,z,F,D,kR,ii];have o:(((c.toNat:Nat):Int) != ((letter.toNat:Nat):Int))=!(c==letter):=by rw[bne,nc]
  rw[o,ks];by_cases hc:c=letter
  ·have e:(!(c==letter))=false:=by rw[hc];simp
   rw[e,af,ae hc];cases r with
   | nil=>
    have:S.length<=a+1:=by
     rcases aF (a+1) S.length with q | q
     ·rw[bK (bg q)]at s;cases s
     ·exact q
    rw[aq this];rfl
   | cons d B=>
    obtain⟨t,m,b⟩:=mN s;rw[lG];rw[am (show¬S.length<=a+1 by omega),af,dw m];simp only[];by_cases H:d.toNat<49
    ·have l:decide (((d.toNat:Nat):Int)<49)=true:=aq (by omega);rw[l,aj,ab (by omega)]
    ·have l:decide (((d.toNat:Nat):Int)<49)=false:=am (by omega);rw[l,af];by_cases J:d.toNat>57
     ·have j:decide (((d.toNat:Nat):Int)>57)=true:=aq (by omega);rw[j,aj,ab (by omega)]
     ·have j:decide (((d.toNat:Nat):Int)>57)=false:=am (by omega);rw[j,af,ae (by omega)];have y:wrap .i64 (wrap .u8 (((d.toNat:Nat):Int) - 48))=((d.toNat - 48:Nat):Int):=by
       rw[jI _ (by omega) (by omega),wrap_i64 _ (by omega) (by omega)];omega
      rw[y];cases B with
      | nil=>
       have:¬a+2<S.length:=by
        intro q;rw[bK (bg (show a+1+1<S.length from q))]at b;cases b
       rw[am this,qX];rfl
      | cons e G=>
       obtain⟨f,p,_⟩:=mN b;rw[ko];rw[aq (show a+2<S.length from f),aj,dw p];simp only[];by_cases u:e.toNat>=48
       ·have g:decide (((e.toNat:Nat):Int)>=48)=true:=aq (by omega);rw[g,aj];by_cases w:e.toNat<=57
        ·have i:decide (((e.toNat:Nat):Int)<=57)=true:=aq (by omega);have x:wrap .i64 (wrap .u8 (((e.toNat:Nat):Int) - 48))=((e.toNat - 48:Nat):Int):=by
          rw[jI _ (by omega) (by omega),wrap_i64 _ (by omega) (by omega)];omega
         have E:wrap .i64 (10*((d.toNat - 48:Nat):Int))=((10*(d.toNat - 48):Nat):Int):=by rw[wrap_i64 _ (by omega) (by omega)];omega
         have ws:wrap .i64 (((10*(d.toNat - 48):Nat):Int)+((e.toNat - 48:Nat):Int))=((10*(d.toNat - 48)+(e.toNat - 48):Nat):Int):=by rw[wrap_i64 _ (by omega) (by omega)];omega
         rw[i,aj,ae ((bZ e).2 ⟨u,w⟩),x,E,ws]
        ·have i:decide (((e.toNat:Nat):Int)<=57)=false:=am (by omega);rw[i,af,ab (λq=>w ((bZ e).1 q).2)]
       ·have g:decide (((e.toNat:Nat):Int)>=48)=false:=am (by omega);rw[g,af,ab (λq=>u ((bZ e).1 q).1)]
  ·have e:(!(c==letter))=true:=by rw[aK.2 hc];rfl
   rw[e,aj,ab hc];rfl
def isDX(c:UInt8):Bool:=bm c||c==88
abbrev YR:=Bool×Bool×aa×Nat×Nat×Nat
def pX(g:Bool)(o:Nat):aa->Nat⊕YR
 | []=>.inl o
 | c::r=>if 49<=c.toNat/\c.toNat<=57 then
   (match numS 69 ((c::r).drop (1+bq bm 16 r))with
   | .inl j=>.inl (o+(1+bq bm 16 r)+j)
   | .inr (x,j)=>(match numS 83 ((c::r).drop (1+bq bm 16 r+j))with
    | .inl i=>.inl (o+(1+bq bm 16 r)+j+i)
    | .inr (s,i)=>.inr (g,true,(c::r).take (1+bq bm 16 r),x,s,o+(1+bq bm 16 r)+j+i)))
  else .inl o
def qZ(g:Bool)(o:Nat)(l:aa):Nat⊕YR:=
 if bq isDX 4 l<4 then .inl (o+bq isDX 4 l)else
  (match numS 83 (l.drop 4)with
  | .inl i=>.inl (o+4+i)
  | .inr (s,i)=>.inr (g,false,l.take 4,0,s,o+4+i))
def dI(c:UInt8)(l:aa):Nat:=if l.take 1=[c]then 1 else 0
def mO(l:aa):Nat⊕YR:=
 if dI 89 l=1 then pX (dI 45 (l.drop 1)==1) (1+dI 45 (l.drop 1)) (l.drop (1+dI 45 (l.drop 1)))
 else qZ (dI 45 l==1) (dI 45 l) (l.drop (dI 45 l))
def jH(c:UInt8)(l:aa):dI c l=0\/dI c l=1:=by
 unfold dI;split
 ·exact .inr rfl
 ·exact .inl rfl
def zM(c:UInt8)(l:aa):dI c l<=l.length:=by
 unfold dI;split
 ·rename_i h;cases l with
  | nil=>simp at h
  | cons a l=>simp
 ·omega
def s8(n:Nat)(c:UInt8)(S:aa)(a:Nat)(h:a<=S.length)(b:S.length<100000):
  az n [c] S (a:Int)=some (dI c (S.drop a)==1,S,((a+dI c (S.drop a):Nat):Int)):=by
 rw[mr n [c] S a h (by omega)];unfold dI;have e:[c].length=1:=rfl;rw[e];split<;>rfl
def xF(S:aa)(a:Nat):Nat⊕YR->(Int×Int×aa×Int)⊕(Bool×Bool×aa×Int×Int×aa×Int)
 | .inl k=>.inl (((a+k:Nat):Int),5,S,((a+k:Nat):Int))
 | .inr (g,l,d,x,s,k)=>.inr (g,l,d,(x:Int),(s:Int),S,((a+k:Nat):Int))
def n7(a:Nat):Nat⊕YR->Bool×Bool×aa×Int×Int×Int×Int
 | .inl k=>(false,false,[],0,0,((a+k:Nat):Int),5)
 | .inr (g,l,d,x,s,k)=>(g,l,d,(x:Int),(s:Int),((a+k:Nat):Int),0)
def Qa(letter:UInt8)(l:aa):(match numS letter l with | .inl k=>k<=l.length | .inr (_,k)=>k<=l.length):=by
 cases l with
 | nil=>simp[si]
 | cons c r=>
  rw[ks];by_cases hc:c=letter
  ·rw[ae hc];cases r with
   | nil=>simp[uV]
   | cons d b=>
    rw[lG];by_cases hd:49<=d.toNat/\d.toNat<=57
    ·rw[ae hd];cases b with
     | nil=>simp[qX]
     | cons e f=>
      rw[ko];by_cases a:bm e=true
      ·rw[ae a];simp
      ·rw[ab a];simp
    ·rw[ab hd];simp
  ·rw[ab hc];simp
def yf{letter:UInt8}{S:aa}{a:Nat}(h:a<=S.length){v k:Nat}(b:numS letter (S.drop a)=.inr (v,k)):a+k<=S.length:=by
 have:=Qa letter (S.drop a);rw[b,bj]at this;simp only at this;omega
def PQ(n:Nat)(S:aa)(a o:Nat)(g:Bool)(h:a+o<=S.length)(I:S.length<100000)(F:S.length<n):
  (ob (cb n [49,50,51,52,53,54,55,56,57] S ((a+o:Nat):Int)) λu=>(Sum.casesOn (motive:=λ_=>Option ((Int×Int×aa×Int)⊕(Bool×Bool×aa×Int×Int×aa×Int))) u (λe=>(some (.inl (e.1,e.2.1,e.2.2.1,e.2.2.2)))) (λl=>(ob (bO n [48,49,50,51,52,53,54,55,56,57] 0 16 l.2.1 l.2.2) λy=>(Sum.casesOn (motive:=λ_=>Option _) y (λb=>(some (.inl (b.1,b.2.1,b.2.2.1,b.2.2.2)))) (λq=>(ob (cat (Utf8.encode l.1).data.toList q.1) λA=>(ob (cP n [69] q.2.1 q.2.2) λv=>(Sum.casesOn (motive:=λ_=>Option _) v (λm=>(ob (cP n [83] m.2.1 m.2.2) λB=>(Sum.casesOn (motive:=λ_=>Option _) B (λt=>(some (.inr (g,true,A,m.1,t.1,t.2.1,t.2.2)))) (λd=>(some (.inl (d.1,d.2.1,d.2.2.1,d.2.2.2))))))) (λf=>(some (.inl (f.1,f.2.1,f.2.2.1,f.2.2.2)))))))))))))=some (xF S a (pX g o (S.drop (a+o)))):=by
 rw[AK n _ S (a+o) h (by omega)];cases hd:S.drop (a+o)with
 | nil=>simp[pX,xF,ob]
 | cons c r=>
  obtain⟨N,R,H⟩:=mN hd;simp only[yD,ci];by_cases hc:49<=c.toNat/\c.toNat<=57
  ·rw[ae hc];simp only[ob];rw[uS n _ 0 16 S (a+o+1) (by omega) (by omega) F,H];rw[ab (by omega),jM vQ];simp only[];rw[xX c (by omega)];have D:(16:Int).toNat=16:=rfl;rw[D];have P:=k7 bm 16 r;have M:r.length+(a+o+1)=S.length:=by
    have:=ck List.length H;rw[bj]at this;omega
   rw[nV (by simp only[aP,iy,de];omega)];simp only[pX];rw[ae hc];generalize Q:bq bm 16 r=k at P ⊢;have K:[c]++List.take k r=List.take (1+k) (c::r):=by rw[pV];rfl
   rw[K];have w:a+o+1+k<=S.length:=by omega
   have C:List.drop (1+k) (c::r)=S.drop (a+o+1+k):=by
    rw[<-hd,jr];congr 1;omega
   rw[Ib n 69 S (a+o+1+k) w I F,<-C];cases L:numS 69 (List.drop (1+k) (c::r))with
   | inl j=>
    simp only[xF];have:a+o+1+k+j=a+(o+(1+k)+j):=by omega
    rw[this]
   | inr p=>
    obtain⟨x,j⟩:=p;have G:=L;rw[C]at G;have E:=yf w G;have z:List.drop (1+k+j) (c::r)=S.drop (a+o+1+k+j):=by
     rw[<-hd,jr];congr 1;omega
    simp only[];rw[Ib n 83 S (a+o+1+k+j) E I F,<-z];cases J:numS 83 (List.drop (1+k+j) (c::r))with
    | inl i=>
     simp only[xF];have:a+o+1+k+j+i=a+(o+(1+k)+j+i):=by omega
     rw[this]
    | inr O=>
     obtain⟨s,i⟩:=O;simp only[xF];have:a+o+1+k+j+i=a+(o+(1+k)+j+i):=by omega
     rw[this]
  ·rw[ab hc];simp only[ob,pX];rw[ab hc];rfl
def M6(n:Nat)(S:aa)(a o:Nat)(g:Bool)(h:a+o<=S.length)(y:S.length<100000)(v:S.length<n):
  (ob (bO n [88,48,49,50,51,52,53,54,55,56,57] 4 4 S ((a+o:Nat):Int)) λq=>(Sum.casesOn (motive:=λ_=>Option ((Int×Int×aa×Int)⊕(Bool×Bool×aa×Int×Int×aa×Int))) q (λd=>(some (.inl (d.1,d.2.1,d.2.2.1,d.2.2.2)))) (λf=>(ob (cP n [83] f.2.1 f.2.2) λj=>(Sum.casesOn (motive:=λ_=>Option _) j (λe=>(some (.inr (g,false,f.1,0,e.1,e.2.1,e.2.2)))) (λb=>(some (.inl (b.1,b.2.1,b.2.2.1,b.2.2.2)))))))))=some (xF S a (qZ g o (S.drop (a+o)))):=by
 rw[uS n _ 4 4 S (a+o) h (by omega) v];have t:∀c,hasB [88,48,49,50,51,52,53,54,55,56,57] c=isDX c:=tX;have x:(4:Int).toNat=4:=rfl;rw[jM t,x];unfold qZ;have u:=k7 isDX 4 (S.drop (a+o));rw[bj]at u;by_cases m:bq isDX 4 (S.drop (a+o))<4
 ·rw[ae (by omega),ae m];simp only[ob,xF];rw[gN]
 ·rw[ab (by omega),ab m];have r:∀(k:Nat) (l:aa),bq isDX k l<=k:=by
   intro k
   induction k with
   | zero=>intro l;simp[bq]
   | succ k ih=>
    intro l;cases l with
    | nil=>simp[bq]
    | cons c l=>
     have:=ih l;simp only[bq];split<;>omega
  have w:bq isDX 4 (S.drop (a+o))=4:=by have:=r 4 (S.drop (a+o));omega
  rw[w]at u ⊢;simp only[ob];have hp:a+o+4<=S.length:=by omega
  rw[Ib n 83 S (a+o+4) hp y v,jr];cases z:numS 83 (S.drop (a+o+4))with
  | inl i=>
   simp only[xF];have:a+o+4+i=a+(o+4+i):=by omega
   rw[this]
  | inr p=>
   obtain⟨s,i⟩:=p;simp only[xF];have:a+o+4+i=a+(o+4+i):=by omega
   rw[this];rfl
def QM(n:Nat)(S:aa)(a:Nat)(h:a<=S.length)(d:S.length<100000)(f:S.length<n):
  lk n S (a:Int)=some (xF S a (mO (S.drop a))):=by
 unfold lk;rw[s8 n 89 S a h d];have c:=zM 89 (S.drop a);rw[bj]at c;simp only[ob];rw[s8 n 45 S (a+dI 89 (S.drop a)) (by omega) d];have b:=zM 45 (S.drop (a+dI 89 (S.drop a)));rw[bj]at b;simp only[];unfold mO;rcases jH 89 (S.drop a)with e | e
 ·rw[e]at b ⊢;simp only[ct,show((0:Nat)==1)=false from rfl,af,show¬((0:Nat)=1)from by decide,aC,jr]at b ⊢;have:=M6 n S a (dI 45 (S.drop a)) (dI 45 (S.drop a)==1) (by omega) d f;exact this
 ·rw[e]at b ⊢;simp only[show((1:Nat)==1)=true from rfl,aj,aH,jr]at b ⊢;have:=PQ n S a (1+dI 45 (S.drop (a+1))) (dI 45 (S.drop (a+1))==1) (by omega) d f;rw[<-gN]at this;rw[<-gN];exact this
abbrev stR(S:aa)(a b M:Int)(g L:Bool):aa×Int×Int×Int×Bool×Bool×aa×Int×Int×Bool×Bool×aa×Int×Int:=(S,a,b,M,false,false,[],0,0,g,L,[],0,0)
def isYB(L:Bool)(c:UInt8):Bool:=bm c||(c==88&&!L)
def I7(n:Nat)(S:aa)(b M:Nat)(g:Bool)(j:0<M)(k:S.length<100000)(a:S[b]?=some 48):au (ax (n+1)) (n+1) (stR S (b:Int) (b:Int) (M:Int) g true)=some (.inl ((b:Int),5,false,false,[],0,0)):=by
 have h:=sC a;have c:decide ((b:Int)<((S.length:Nat):Int))=true:=aq (by omega);have f:wrap .i64 ((b:Int) - (b:Int))=0:=by rw[Int.sub_self];rfl
 have d2:decide ((0:Int)<(M:Int))=true:=aq (by omega);have i:decide ((((48:UInt8).toNat:Nat):Int)>=48)=true:=rfl;have e:decide ((((48:UInt8).toNat:Nat):Int)<=57)=true:=rfl;have d:((((48:UInt8).toNat:Nat):Int)==48)=true:=rfl;simp only[au,ax,c,aj,f,d2,dw a,ob,i,e,d,ur]
def za(n:Nat)(S:aa)(b M:Nat)(g L:Bool)(P:b<=S.length)(O:S.length<100000)(Q:S.length<n)(y:¬(L=true/\S[b]?=some 48)):
  au (ax n) n (stR S (b:Int) (b:Int) (M:Int) g L)=some (.inr (S,((b+bq (isYB L) M (S.drop b):Nat):Int),(b:Int),false,false,[],0,0,g,L,[],0,0)):=by
 have:=fm (step:=ax n) (λx=>∃j:Nat,b+j<=S.length/\x=stR S ((b+j:Nat):Int) (b:Int) (M:Int) g L) (λx=>S.length - x.2.1.toNat)
  (λx=>.inr (S,((x.2.1.toNat+bq (isYB L) (M - (x.2.1.toNat - b)) (S.drop x.2.1.toNat):Nat):Int),(b:Int),false,false,[],0,0,g,L,[],0,0)) ?_ n (stR S (b:Int) (b:Int) (M:Int) g L) ⟨0,by omega,rfl⟩ (by simp;omega)
 ·rw[this];simp
 rintro x ⟨j,K,rfl⟩;simp only[bT];rcases aF (b+j) S.length with v | z
 ·obtain⟨c,hc⟩:∃c,S[b+j]?=some c:=⟨S[b+j],bg v⟩;have d:decide (((b+j:Nat):Int)<((S.length:Nat):Int))=true:=aq (by omega);have p:wrap .i64 (((b+j:Nat):Int) - (b:Int))=(j:Int):=by rw[wrap_i64 _ (by omega) (by omega)];omega
  have B:wrap .i64 (((b+j:Nat):Int)+1)=((b+(j+1):Nat):Int):=by rw[wrap_i64 _ (by omega) (by omega)];omega
  have m:b+j - b=j:=by omega
  rw[bK hc,m];by_cases R:j<M
  ·have d2:decide ((j:Int)<(M:Int))=true:=aq (by omega);obtain⟨q,H⟩:∃q,M - j=q+1:=⟨M - j - 1,by omega⟩;have t:M - (j+1)=q:=by omega
   rw[H];simp only[bq];have C:isYB L c=true->ax n (stR S ((b+j:Nat):Int) (b:Int) (M:Int) g L)=some (.inl (stR S ((b+(j+1):Nat):Int) (b:Int) (M:Int) g L)):=by
    intro hy;by_cases l:bm c=true
    ·have J:=(bZ c).1 l;have f:decide (((c.toNat:Nat):Int)>=48)=true:=aq (by omega);have k:decide (((c.toNat:Nat):Int)<=57)=true:=aq (by omega);simp only[ax,d,aj,p,d2,dw hc,ob,f,k,B];cases L with
     | false=>rfl
     | true=>
      by_cases w:j=0
      ·subst w;have i:c≠48:=by
        intro e;exact y ⟨rfl,by rw[<-e];exact hc⟩
       have s:(((c.toNat:Nat):Int)==48)=false:=by rw[Qj];exact aK.2 i
       simp only[ct,ur,aj,s,af]
      ·have E:(((b+j:Nat):Int)==(b:Int))=false:=aK.2 (by omega);simp only[E,af,aj]
    ·have a:bm c=false:=by cases h:bm c with | false=>rfl | true=>exact absurd h l
     unfold isYB at hy;rw[a]at hy;simp only[od,aB,bv,kC]at hy;obtain⟨rfl,rfl⟩:=hy;have f:decide ((((88:UInt8).toNat:Nat):Int)>=48)=true:=rfl;have k:decide ((((88:UInt8).toNat:Nat):Int)<=57)=false:=rfl;have s:((((88:UInt8).toNat:Nat):Int)==88)=true:=rfl;simp only[ax,d,aj,p,d2,dw hc,ob,f,k,s,B,af,gJ]
   have o:isYB L c=false->ax n (stR S ((b+j:Nat):Int) (b:Int) (M:Int) g L)=some (.inr (.inr (S,((b+j:Nat):Int),(b:Int),false,false,[],0,0,g,L,[],0,0))):=by
    intro hy;unfold isYB at hy;simp only[nL,C5]at hy;obtain⟨a,A⟩:=hy;have I:¬(48<=c.toNat/\c.toNat<=57):=λq=>by rw[(bZ c).2 q]at a;cases a
    have r:(((c.toNat:Nat):Int)==88)=(c==88):=nc c 88;have F:(cond (c==88) (cond (!L) (0:Nat) 1) 1)=1:=by
     rcases A with h | h
     ·rw[h];rfl
     ·have:L=true:=by simpa using h
      rw[this];cases c==88<;>rfl
    by_cases N:c.toNat>=48
    ·have f:decide (((c.toNat:Nat):Int)>=48)=true:=aq (by omega);have k:decide (((c.toNat:Nat):Int)<=57)=false:=am (by omega);simp only[ax,d,aj,p,d2,dw hc,ob,f,k,af,r];rcases A with h | h
     ·rw[h];rfl
     ·have:L=true:=by simpa using h
      rw[this];cases c==88<;>rfl
    ·have f:decide (((c.toNat:Nat):Int)>=48)=false:=am (by omega);simp only[ax,d,aj,p,d2,dw hc,ob,f,af,r];rcases A with h | h
     ·rw[h];rfl
     ·have:L=true:=by simpa using h
      rw[this];cases c==88<;>rfl
   cases hy:isYB L c with
   | true=>
    refine .inl ⟨_,C hy,⟨j+1,by omega,rfl⟩,by simp only[bT];omega,?_⟩;simp only[bT,aH];have D:b+(j+1) - b=j+1:=by omega
    rw[D,t,show b+(j+1)=b+j+1 by omega];have G:b+j+1+bq (isYB L) q (S.drop (b+j+1))=b+j+(bq (isYB L) q (S.drop (b+j+1))+1):=by omega
    rw[G]
   | false=>
    refine .inr ?_;rw[o hy];simp
  ·have d2:decide ((j:Int)<(M:Int))=false:=am (by omega);have u:M - j=0:=by omega
   refine .inr ?_;rw[u];simp only[ax,d,aj,p,d2,af,bq,ct]
 ·have d:decide (((b+j:Nat):Int)<((S.length:Nat):Int))=false:=am (by omega);refine .inr ?_;rw[iD z];have u:∀q,bq (isYB L) q []=0:=λq=>by cases q<;>rfl
  simp only[ax,d,af,u,ct]
def I2(n:Nat)(S:aa)(a:Nat)(h:a<=S.length)(b:S.length<100000):
  ah n S (a:Int) 69=some (match numS 69 (S.drop a)with | .inl k=>(-1,((a+k:Nat):Int)) | .inr (v,k)=>((v:Int),((a+k:Nat):Int))):=IS n 69 S a h b
def A4(n:Nat)(S:aa)(a:Nat)(h:a<=S.length)(b:S.length<100000):
  ah n S (a:Int) 83=some (match numS 83 (S.drop a)with | .inl k=>(-1,((a+k:Nat):Int)) | .inr (v,k)=>((v:Int),((a+k:Nat):Int))):=IS n 83 S a h b
noncomputable def JJ(n:Nat)(a0:aa)(B M:Int)(g L:Bool):Option (Bool×Bool×aa×Int×Int×Int×Int):=
 (ob (au (ax n) n (a0,B,B,M,false,false,[],0,0,g,L,[],0,0)) λo=>(Sum.casesOn (motive:=λ_=>Option (Bool×Bool×aa×Int×Int×Int×Int)) o (λb=>(some (b.2.2.1,b.2.2.2.1,b.2.2.2.2.1,b.2.2.2.2.2.1,b.2.2.2.2.2.2,b.1,b.2.1))) (λa=>(cond (decide ((wrap .i64 (a.2.1 - a.2.2.1))<1)) (some (false,false,[],0,0,a.2.1,5)) (cond (!a.2.2.2.2.2.2.2.2.2.1) (cond (decide ((wrap .i64 (a.2.1 - a.2.2.1))<4)) (some (false,false,[],0,0,a.2.1,5)) (ob (bx (List.length a.1) a.2.1) λj=>(ob (bx j a.2.2.1) λl=>(cond a.2.2.2.2.2.2.2.2.2.1 (ob (ah n a.1 a.2.1 69) λh=>(cond (decide (h.1<0)) (some (false,false,[],0,0,h.2,5)) (ob (ah n a.1 h.2 83) λd=>(cond (decide (d.1<0)) (some (false,false,[],0,0,d.2,5)) (some (a.2.2.2.2.2.2.2.2.1,a.2.2.2.2.2.2.2.2.2.1,(List.drop l (List.take j a.1)),h.1,d.1,d.2,0)))))) (ob (ah n a.1 a.2.1 83) λc=>(cond (decide (c.1<0)) (some (false,false,[],0,0,c.2,5)) (some (a.2.2.2.2.2.2.2.2.1,a.2.2.2.2.2.2.2.2.2.1,(List.drop l (List.take j a.1)),a.2.2.2.2.2.2.2.2.2.2.2.1,c.1,c.2,0)))))))) (ob (bx (List.length a.1) a.2.1) λk=>(ob (bx k a.2.2.1) λm=>(cond a.2.2.2.2.2.2.2.2.2.1 (ob (ah n a.1 a.2.1 69) λe=>(cond (decide (e.1<0)) (some (false,false,[],0,0,e.2,5)) (ob (ah n a.1 e.2 83) λf=>(cond (decide (f.1<0)) (some (false,false,[],0,0,f.2,5)) (some (a.2.2.2.2.2.2.2.2.1,a.2.2.2.2.2.2.2.2.2.1,(List.drop m (List.take k a.1)),e.1,f.1,f.2,0)))))) (ob (ah n a.1 a.2.1 83) λi=>(cond (decide (i.1<0)) (some (false,false,[],0,0,i.2,5)) (some (a.2.2.2.2.2.2.2.2.1,a.2.2.2.2.2.2.2.2.2.1,(List.drop m (List.take k a.1)),a.2.2.2.2.2.2.2.2.2.2.2.1,i.1,i.2,0))))))))))))
def JM(c:UInt8):isYB true c=bm c:=by unfold isYB;cases bm c<;>simp
def Hz(c:UInt8):isYB false c=isDX c:=by unfold isYB isDX;simp
def qh(p:UInt8->Bool):∀(k:Nat) (l:aa),bq p k l<=k
 | 0,l=>by simp[bq]
 | k+1,[]=>by simp[bq]
 | k+1,c::l=>by
  have:=qh p k l;simp only[bq];split<;>omega
def DW:decide ((-1:Int)<0)=true:=rfl
def DY(x:Nat):decide (((x:Nat):Int)<0)=false:=am (by omega)
def I3(n:Nat)(S:aa)(a o:Nat)(g:Bool)(h:a+o<=S.length)(y:S.length<100000)(G:S.length<n):
  JJ n S ((a+o:Nat):Int) 17 g true=some (n7 a (pX g o (S.drop (a+o)))):=by
 unfold JJ;cases hd:S.drop (a+o)with
 | nil=>
  have t:¬(true=true/\S[a+o]?=some 48):=by
   rintro⟨_,q⟩;rw[bK q]at hd;cases hd
  have f:=za n S (a+o) 17 g true h y G t;rw[hd]at f;have L:bq (isYB true) 17 []=0:=rfl;rw[L,ct]at f;have hl':au (ax n) n (S,((a+o:Nat):Int),((a+o:Nat):Int),(17:Int),false,false,[],0,0,g,true,[],0,0)=_:=f;rw[hl'];have w:wrap .i64 (((a+o:Nat):Int) - ((a+o:Nat):Int))=0:=by rw[Int.sub_self];rfl
  simp only[ob,w,pX,n7];rfl
 | cons c r=>
  obtain⟨N,F,Q⟩:=mN hd;by_cases hc:c=48
  ·subst hc;obtain⟨B,rfl⟩:∃q,n=q+1:=⟨n - 1,by omega⟩;have f:=I7 B S (a+o) 17 g (by omega) y F;have hl':au (ax (B+1)) (B+1) (S,((a+o:Nat):Int),((a+o:Nat):Int),(17:Int),false,false,[],0,0,g,true,[],0,0)=_:=f;rw[hl'];have l:¬(49<=(48:UInt8).toNat/\(48:UInt8).toNat<=57):=by decide
   simp only[ob,pX,n7];rw[ab l]
  ·have l:¬(true=true/\S[a+o]?=some 48):=by
    rintro⟨_,q⟩;rw[F]at q;exact hc (by simpa using q)
   have f:=za n S (a+o) 17 g true h y G l;rw[hd,jM JM]at f;have H:=k7 bm 17 (c::r);have M:(c::r).length+(a+o)=S.length:=by
    have:=ck List.length hd;rw[bj]at this;omega
   have hl':au (ax n) n (S,((a+o:Nat):Int),((a+o:Nat):Int),(17:Int),false,false,[],0,0,g,true,[],0,0)=_:=f;rw[hl'];have w:∀k:Nat,k<=17->wrap .i64 (((a+o+k:Nat):Int) - ((a+o:Nat):Int))=(k:Int):=by
    intro k E;rw[wrap_i64 _ (by omega) (by omega)];omega
   by_cases d:bm c=true
   ·have O:=(bZ c).1 d;have m:49<=c.toNat/\c.toNat<=57:=by
     have:c.toNat≠48:=λe=>hc (ga.1 e);omega
    have b:bq bm 17 (c::r)=1+bq bm 16 r:=by
     show bq bm (16+1) (c::r)=_;simp only[bq,d,aH];omega
    rw[b]at H ⊢;have A:=qh bm 16 r;simp only[pX];rw[ae m];generalize bq bm 16 r=k at H A ⊢;have J:decide (((1+k:Nat):Int)<1)=false:=am (by omega);simp only[ob,w (1+k) (by omega),J,af,bV,aj,fe (show a+o+(1+k)<=S.length by omega),fe (show a+o<=a+o+(1+k)by omega)];have u:a+o+(1+k)<=S.length:=by omega
    have z:S.drop (a+o+(1+k))=List.drop (1+k) (c::r):=by rw[<-hd,jr]
    rw[I2 n S (a+o+(1+k)) u y,z,mF,hd];cases K:numS 69 (List.drop (1+k) (c::r))with
    | inl j=>
     simp only[DW,aj,n7];have:a+o+(1+k)+j=a+(o+(1+k)+j):=by omega
     rw[this]
    | inr p=>
     obtain⟨x,j⟩:=p;have D:=K;rw[<-z]at D;have C:=yf u D;have v:S.drop (a+o+(1+k)+j)=List.drop (1+k+j) (c::r):=by rw[<-hd,jr];congr 1;omega
     simp only[DY,af];rw[A4 n S (a+o+(1+k)+j) C y,v];cases I:numS 83 (List.drop (1+k+j) (c::r))with
     | inl i=>
      simp only[DW,aj,n7];have:a+o+(1+k)+j+i=a+(o+(1+k)+j+i):=by omega
      rw[this]
     | inr P=>
      obtain⟨s,i⟩:=P;simp only[DY,af,n7];have:a+o+(1+k)+j+i=a+(o+(1+k)+j+i):=by omega
      rw[this]
   ·have b:bq bm 17 (c::r)=0:=by
     show bq bm (16+1) (c::r)=0;simp only[bq];rw[ab d]
    have m:¬(49<=c.toNat/\c.toNat<=57):=λq=>d ((bZ c).2 (by omega));rw[b];simp only[pX];rw[ab m];simp only[ob,w 0 (by omega),n7];rfl
def G2(n:Nat)(S:aa)(a o:Nat)(g:Bool)(h:a+o<=S.length)(l:S.length<100000)(r:S.length<n):
  JJ n S ((a+o:Nat):Int) 4 g false=some (n7 a (qZ g o (S.drop (a+o)))):=by
 unfold JJ;have f:=za n S (a+o) 4 g false h l r (by rintro⟨q,_⟩;cases q);rw[jM Hz]at f;have m:=k7 isDX 4 (S.drop (a+o));have b:=qh isDX 4 (S.drop (a+o));rw[bj]at m;have hl':au (ax n) n (S,((a+o:Nat):Int),((a+o:Nat):Int),(4:Int),false,false,[],0,0,g,false,[],0,0)=_:=f;rw[hl'];unfold qZ;generalize t:bq isDX 4 (S.drop (a+o))=k at m b ⊢;have w:wrap .i64 (((a+o+k:Nat):Int) - ((a+o:Nat):Int))=(k:Int):=by rw[wrap_i64 _ (by omega) (by omega)];omega
 simp only[ob,w,gJ,aj,af];by_cases j:k<4
 ·rw[ae j];have e:decide ((k:Int)<4)=true:=aq (by omega);rw[e];have c:a+o+k=a+(o+k):=by omega
  simp only[aj,n7,c];cases decide ((k:Int)<1)<;>rfl
 ·rw[ab j];have d:k=4:=by omega
  subst d;have e:decide (((4:Nat):Int)<4)=false:=rfl;have c:decide (((4:Nat):Int)<1)=false:=rfl;have hp:a+o+4<=S.length:=by omega
  simp only[e,c,af,fe hp,fe (show a+o<=a+o+4 by omega)];rw[A4 n S (a+o+4) hp l,mF,jr];cases u:numS 83 (S.drop (a+o+4))with
  | inl i=>
   simp only[DW,aj,n7];have:a+o+4+i=a+(o+4+i):=by omega
   rw[this]
  | inr p=>
   obtain⟨s,i⟩:=p;simp only[DY,af,n7];have:a+o+4+i=a+(o+4+i):=by omega
   rw[this];rfl
def jP(c a:UInt8)(l:aa):dI c (a::l)=if a=c then 1 else 0:=by
 unfold dI;simp
def vE(c:UInt8):dI c []=0:=by unfold dI;simp
def LS(n:Nat)(S:aa)(a:Nat)(h:a<=S.length)(D:S.length<100000)(E:S.length<n):
  kj n S (a:Int)=some (n7 a (mO (S.drop a))):=by
 have A:=λo g q=>I3 n S a o g q D E;have C:=λo g q=>G2 n S a o g q D E;unfold JJ at A C;have F:wrap .i64 ((a:Int)+1)=((a+1:Nat):Int):=by rw[wrap_i64 _ (by omega) (by omega)];omega
 have H:wrap .i64 (((a+1:Nat):Int)+1)=((a+2:Nat):Int):=by rw[wrap_i64 _ (by omega) (by omega)];omega
 unfold kj mO;rw[F,H];have w:=C 0 false (by omega);simp only[ct]at w;cases hd:S.drop a with
 | nil=>
  have k:¬a<S.length:=by
   intro q;rw[bK (bg q)]at hd;cases hd
  rw[ii,am k,af,af,w,hd];rfl
 | cons c r=>
  obtain⟨y,G,i⟩:=mN hd;have s:(((c.toNat:Nat):Int)==89)=(c==89):=nc c 89;have p:(((c.toNat:Nat):Int)==45)=(c==45):=nc c 45;rw[ii,aq y,aj,dw G];simp only[ob];rw[s,p,jP];by_cases f:c=89
  ·have e:(c==89)=true:=bv.2 f;rw[e,aj,ae f,ae rfl,ii];have z:List.drop 1 (c::r)=r:=rfl;rw[z];have v:=A 1 false (by omega);cases u:r with
   | nil=>
    rw[u]at i;have k:¬a+1<S.length:=by
     intro q;rw[bK (bg q)]at i;cases i
    simp only[ob]at v;rw[am k,af,v,i,vE];rfl
   | cons d I=>
    rw[u]at i;obtain⟨m,x,B⟩:=mN i;have l:(((d.toNat:Nat):Int)==45)=(d==45):=nc d 45;rw[aq m,aj,dw x];simp only[];rw[l,jP];by_cases b:d=45
    ·have j:(d==45)=true:=bv.2 b;have t:=A 2 true (by omega);simp only[ob]at t;rw[j,aj,ae b,t];rw[show a+2=a+1+1 from rfl,B];rfl
    ·have j:(d==45)=false:=aK.2 b;simp only[ob]at v;rw[j,af,ab b,v,i];rfl
  ·have e:(c==89)=false:=aK.2 f;rw[e,af,ab f,ab (by decide),jP];by_cases b:c=45
   ·have j:(c==45)=true:=bv.2 b;have t:=C 1 true (by omega);simp only[ob]at t;rw[j,ae b];simp only[aj];rw[t,i];rfl
   ·have j:(c==45)=false:=aK.2 b;simp only[ob]at w;rw[j,ab b];simp only[af];rw[w,hd];rfl
def wint(c:Int):Bool:=c==24||c==28||c==30
def tC(g:Bool)(d:aa)(x:Int):Bool:=!hasX d&&!g&&decide (val d x.toNat=E16)
def yrB(g:Bool)(d:aa)(x s:Int)(m:aa):Bool:=!(decide (0<s)&&!(m==[]))&&!(wint (sea m)&&tC g d x)
def CB(n:Nat)(s:200<n)(g l:Bool)(dg:aa)(x q:Int)(m d:aa)(k0 k1 k2:Int)(y:m.length<=18)(hd:dg.length<=100):
  fq n g l dg x q m d k0 k1 k2=some (if okY g l dg x q then yrB g dg x q m else false):=by
 unfold fq;rw[Fv n g l dg x q s hd,qk n g l dg x q m d k0 k1 k2 y,sM,yX n g l dg x q s hd];by_cases h:okY g l dg x q
 rotate_left
 ·rw[ab h,ab h];rfl
 rw[ae h,ae h];have body:(ob (some (sea m,decide (0<sea m))) λr=>(cond (!r.2) (some true) (ob (some (hasX dg)) λD=>(cond D (some true) (ob (some (if okY g l dg x q/\hasX dg=false then(if g then -((val dg x.toNat:Nat):Int)else((val dg x.toNat:Nat):Int),(0:Int))else(0,6))) λB=>(ob (gS n B.1 r.1) λt=>(some (t.2.2.2.2==0))))))))=some (!(wint (sea m)&&tC g dg x)):=by
  rcases n9 m with v | ⟨j,p,rfl⟩
  ·rw[v];rfl
  ·have hs:=kW p;rw[hs];have hp:decide (0<((21+j:Nat):Int))=true:=by simp;omega
   rw[hp];cases o:hasX dg with
   | true=>
    have:tC g dg x=false:=by unfold tC;rw[o];rfl
    rw[this,vG];rfl
   | false=>
    rw[ae ⟨h,rfl⟩];obtain⟨k,F,rfl,rfl,E⟩:=sA h o;have w:val dg k<=E16:=E.small;unfold E16 at w;have hc:dJ (if g then -((val dg k:Nat):Int)else((val dg k:Nat):Int)):=by
     unfold dJ;cases g<;>simp<;>omega
    obtain⟨a,b,c,e,A⟩:=Rz n (by omega) hc p;simp only[ob,bV,af,bT];rw[A];simp only[ar];have C:wint ((21+j:Nat):Int)=decide (j=3\/j=7\/j=9):=by
     unfold wint;rw[re];simp only[ie,bv,ci];omega
    have u:tC g dg (k:Int)=decide ((if g then -((val dg k:Nat):Int)else((val dg k:Nat):Int))=10000000000000000):=by
     unfold tC E16;rw[o,bT];cases g
     ·simp only[gJ,m8,bs,aC,oC];omega
     ·simp;omega
    rw[C,u];by_cases f:(if g then -((val dg k:Nat):Int)else((val dg k:Nat):Int))=10000000000000000<;>by_cases i:j=3\/j=7\/j=9
    ·rw[ae ⟨f,i⟩,aq f,aq i];rfl
    ·rw[ab (λz=>i z.2),am i];rfl
    ·rw[ab (λz=>f z.1),am f,vG];rfl
    ·rw[ab (λz=>f z.1),am f,vG];rfl
 show cond (decide (q>0)) (cond (!(m==[])) (some false) _) _=_;unfold yrB;rw[show(decide (q>0))=decide (0<q)from rfl];cases decide (0<q)with
 | false=>exact body
 | true=>
  cases(m==[])with
  | false=>rfl
  | true=>exact body
def On(n:Nat)(i:200<n)(g l:Bool)(dg:aa)(x q:Int)(m d:aa)(k0 k1 k2:Int)(hd:dg.length<=100):
  iL n g l dg x q m d k0 k1 k2=some (if okY g l dg x q/\yrB g dg x q m=true then 1 else 0):=by
 unfold iL;rw[KJ n g l dg x q i hd,nZ n (by omega) g l dg x q m d k0 k1 k2,nK n g l dg x q (by omega) (by omega)];by_cases h:okY g l dg x q
 rotate_left
 ·rw[ab h,ab (show¬(okY g l dg x q/\yrB g dg x q m=true)fromλz=>h z.1)];rfl
 rw[ae h];have T:(ob (some (if hasX dg then(1:Int)else 0)) λr=>(cond (r==1) (some (1:Int)) (ob (ak n dg x) λv=>(cond (v.1==10000000000000000) (cond (!g) (some 0) (some 1)) (some 1)))))=some (if tC g dg x then 0 else 1):=by
  cases a:hasX dg with
  | true=>
   have:tC g dg x=false:=by unfold tC;rw[a];rfl
   rw[this];rfl
  | false=>
   obtain⟨k,j,rfl,rfl,b⟩:=sA h a;have f:=b.small;have o:=b.wide;have c:=iW n dg k b.dig (by omega) (by omega) (by omega);rw[ae f]at c;show ob (ak n dg (k:Int)) _=_;rw[c];show cond (((dval 0 dg*10 ^ k:Nat):Int)==10000000000000000) _ _=_;unfold tC val;rw[a,bT];have e:(((dval 0 dg*10 ^ k:Nat):Int)==10000000000000000)=decide (dval 0 dg*10 ^ k=E16):=by
    generalize dval 0 dg*10 ^ k=v;unfold E16;rw[re];simp only[bv,ci];omega
   rw[e];cases decide (dval 0 dg*10 ^ k=E16)<;>cases g<;>rfl
 have body:(ob (some (sea m)) λr=>(cond (r != 24) (cond (r != 28) (cond (r != 30) (some (1:Int)) (ob (some (if hasX dg then(1:Int)else 0)) λr=>(cond (r==1) (some (1:Int)) (ob (ak n dg x) λv=>(cond (v.1==10000000000000000) (cond (!g) (some 0) (some 1)) (some 1)))))) (ob (some (if hasX dg then(1:Int)else 0)) λr=>(cond (r==1) (some (1:Int)) (ob (ak n dg x) λv=>(cond (v.1==10000000000000000) (cond (!g) (some 0) (some 1)) (some 1)))))) (ob (some (if hasX dg then(1:Int)else 0)) λr=>(cond (r==1) (some (1:Int)) (ob (ak n dg x) λv=>(cond (v.1==10000000000000000) (cond (!g) (some 0) (some 1)) (some 1)))))))=some (if(!(wint (sea m)&&tC g dg x))=true then 1 else 0):=by
  rw[T];show cond (sea m != 24) _ _=_;unfold wint;simp only[bne];cases(sea m==24)<;>cases(sea m==28)<;>cases(sea m==30)<;>cases tC g dg x<;>rfl
 unfold yrB;show cond (decide (q>0)) (cond (!(m==[])) (some 0) _) _=_;rw[show(decide (q>0))=decide (0<q)from rfl];simp only[h,jg];cases decide (0<q)with
 | false=>exact body
 | true=>
  cases(m==[])with
  | false=>rfl
  | true=>exact body
def mC(m d:aa):Nat:=1+(if m==[]then 0 else 1)+(if d==[]then 0 else 1)
def yQ(n:Nat)(e:100<n)(g l:Bool)(dg:aa)(x q:Int)(m d:aa)(k0 k1 k2:Int):bG n g l dg x q m d k0 k1 k2=some ((mC m d:Nat):Int):=by
 obtain⟨n,rfl⟩:∃j,n=j+3:=⟨n - 3,by omega⟩;unfold bG mC;have s0:∀a:Int,bP (n+3) (a,m,d,0)=some (.inl (if m==[]then a else wrap .i64 (a+1),m,d,1)):=λa=>by
  unfold bP;show cond (!(m==[])) _ _=_;cases(m==[])<;>rfl
 have b:∀a:Int,bP (n+3) (a,m,d,1)=some (.inl (if d==[]then a else wrap .i64 (a+1),m,d,2)):=λa=>by
  unfold bP;show cond (!(d==[])) _ _=_;cases(d==[])<;>rfl
 have c:∀a:Int,bP (n+3) (a,m,d,2)=some (.inr a):=λa=>rfl;rw[au,s0];show ob (au _ (n+2) _) _=_;rw[au,b];show ob (au _ (n+1) _) _=_;rw[au,c];cases(m==[])<;>cases(d==[])<;>rfl
def qY(n:Nat)(g l:Bool)(dg:aa)(x q:Int)(m d:aa)(k0 k1 k2:Int):aE n g l dg x q m d k0 k1 k2=some ((mC m d:Nat):Int):=by
 unfold aE mC;cases(m==[])<;>cases(d==[])<;>rfl
def allM(a b c:Int)(k:Nat):Int:=if 3<a\/3<b\/3<c\/(k<2/\b≠0)\/(k<3/\c≠0)then 9 else 0
def DV(n:Nat)(w:3<n)(a b c:Int)(k:Nat)(u:1<=k/\k<=3)(v:0<=a)(t:0<=b)(hc:0<=c):
  bR n [a,b,c] (k:Int)=some (allM a b c k):=by
 obtain⟨j,rfl⟩:∃j,n=j+4:=⟨n - 4,by omega⟩;have f:wrap .i64 1=1:=rfl;have e:wrap .i64 2=2:=rfl;have i:wrap .i64 3=3:=rfl;have l:ix 3 0=some 0:=rfl;have m:ix 3 1=some 1:=rfl;have g:ix 3 2=some 2:=rfl;have hk':k=1\/k=2\/k=3:=by omega
 unfold allM;by_cases h:a>3
 ·rcases hk' with rfl | rfl | rfl<;>simp[bR,au,cG,du,ob,f,e,i,l,m,g,h]
 by_cases o:b>3
 ·rcases hk' with rfl | rfl | rfl<;>simp[bR,au,cG,du,ob,f,e,i,l,m,g,h,o]
 by_cases d:k=1/\b≠0
 ·obtain⟨rfl,d⟩:=d;have q:b>0:=by omega
  have s:(b != 0)=true:=by simp[d]
  simp[bR,au,cG,du,ob,f,e,i,l,m,g,h,o,q,d,s]
 by_cases r:c>3
 ·rcases hk' with rfl | rfl | rfl<;>(try (simp at d;subst d))<;>simp[bR,au,cG,du,ob,f,e,i,l,m,g,h,o,r]
 by_cases p:k<3/\c≠0
 ·have q:c>0:=by omega
  have s:(c != 0)=true:=by simp[p.2]
  rcases hk' with rfl | rfl | rfl<;>(try (simp at d;subst d))<;>simp at p<;>simp[bR,au,cG,du,ob,f,e,i,l,m,g,h,o,r,q,p,s]
 rcases hk' with rfl | rfl | rfl<;>(try (simp at d;subst d))<;>(try (simp at p;subst p))<;>simp[bR,au,cG,du,ob,f,e,i,l,m,g,h,o,r]
def TM(n:Nat)(w:3<n)(a b c:Int)(k:Nat)(u:1<=k/\k<=3)(v:0<=a)(t:0<=b)(hc:0<=c):
  bR n [a,b,c] (k:Int)=some (allM a b c k)/\bL n [a,b,c] (k:Int)=some (allM a b c k):=by
 obtain⟨j,rfl⟩:∃j,n=j+4:=⟨n - 4,by omega⟩;have f:wrap .i64 1=1:=rfl;have e:wrap .i64 2=2:=rfl;have i:wrap .i64 3=3:=rfl;have l:ix 3 0=some 0:=rfl;have m:ix 3 1=some 1:=rfl;have g:ix 3 2=some 2:=rfl;have hk':k=1\/k=2\/k=3:=by omega
 unfold allM;by_cases h:a>3
 ·rcases hk' with rfl | rfl | rfl<;>constructor<;>simp[bL,bR,au,da,cG,du,ob,f,e,i,l,m,g,h]
 by_cases o:b>3
 ·rcases hk' with rfl | rfl | rfl<;>constructor<;>simp[bL,bR,au,da,cG,du,ob,f,e,i,l,m,g,h,o]
 by_cases d:k=1/\b≠0
 ·obtain⟨rfl,d⟩:=d;have q:b>0:=by omega
  have s:(b != 0)=true:=by simp[d]
  constructor<;>simp[bL,bR,au,da,cG,du,ob,f,e,i,l,m,g,h,o,q,d,s]
 by_cases r:c>3
 ·rcases hk' with rfl | rfl | rfl<;>(try (simp at d;subst d))<;>constructor<;>simp[bL,bR,au,da,cG,du,ob,f,e,i,l,m,g,h,o,r]
 by_cases p:k<3/\c≠0
 ·have q:c>0:=by omega
  have s:(c != 0)=true:=by simp[p.2]
  rcases hk' with rfl | rfl | rfl<;>(try (simp at d;subst d))<;>simp at p<;>constructor<;>simp[bL,bR,au,da,cG,du,ob,f,e,i,l,m,g,h,o,r,q,p,s]
 rcases hk' with rfl | rfl | rfl<;>(try (simp at d;subst d))<;>(try (simp at p;subst p))<;>constructor<;>simp[bL,bR,au,da,cG,du,ob,f,e,i,l,m,g,h,o,r]
def Bv(m d:aa):1<=mC m d/\mC m d<=3:=by
 unfold mC;cases(m==[])<;>cases(d==[])<;>simp
def yrD(g l:Bool)(dg:aa)(x q:Int)(m:aa):Bool:=if okY g l dg x q then yrB g dg x q m else false
def chkD(g l:Bool)(dg:aa)(x q:Int)(m d:aa)(k0 k1 k2:Int):Int:=
 cond (!(yrD g l dg x q m)) 6 (cond (!(m==[])&&(!(decide (0<sea m))&&!(gK m 12))) 7
  (cond (!(d==[])&&((m==[])||(decide (0<sea m)||!(gK d 31)))) 8 (allM k0 k1 k2 (mC m d))))
def OL(m:aa):0<=sea m:=by
 rcases n9 m with h | ⟨j,a,rfl⟩
 ·omega
 ·rw[kW a];omega
def Q4(m:aa):(sea m==0)=!(decide (0<sea m)):=by
 have:=OL m;by_cases h:sea m=0
 ·rw[h];rfl
 ·have a:0<sea m:=by omega
  rw[aK.2 h,aq a];rfl
def Oc(n:Nat)(o:200<n)(g l:Bool)(dg:aa)(x q:Int)(m d:aa)(k0 k1 k2:Int)(a:m.length<=18)(hd:dg.length<=100)(c:0<=k0)(h:0<=k1)(b:0<=k2):
  kB n g l dg x q m d k0 k1 k2=some (chkD g l dg x q m d k0 k1 k2):=by
 have hy:fq n g l dg x q m d k0 k1 k2=some (yrD g l dg x q m):=CB n o g l dg x q m d k0 k1 k2 a hd;have a1:cQ n m 12=some (gK m 12):=CU n (by omega) m 12 (by omega);have a2:cQ n d 31=some (gK d 31):=CU n (by omega) d 31 (by omega);have i:=DV n (by omega) k0 k1 k2 (mC m d) (Bv m d) c h b;unfold kB chkD;rw[qk n g l dg x q m d k0 k1 k2 a,hy,a1,a2,yQ n (by omega)];simp only[ob];rw[i];generalize yrD g l dg x q m=b1;generalize(m==[])=b2;generalize decide (0<sea m)=k;generalize gK m 12=j;generalize(d==[])=f;generalize gK d 31=e;cases b1<;>cases b2<;>cases k<;>cases j<;>cases f<;>cases e<;>rfl
def Et(n:Nat)(o:200<n)(g l:Bool)(dg:aa)(x q:Int)(m d:aa)(k0 k1 k2:Int)(hd:dg.length<=100)(b:0<=k0)(f:0<=k1)(a:0<=k2):
  jx n g l dg x q m d k0 k1 k2=some (chkD g l dg x q m d k0 k1 k2):=by
 have hy:iL n g l dg x q m d k0 k1 k2=some (if yrD g l dg x q m then 1 else 0):=by
  rw[On n o g l dg x q m d k0 k1 k2 hd];unfold yrD;by_cases h:okY g l dg x q
  ·simp only[h,jg,aH]
  ·simp only[h,xc,aC];rfl
 have a1:dl n m 12=some (if gK m 12 then 1 else 0):=Ff n (by omega) m 12 (by omega);have a2:dl n d 31=some (if gK d 31 then 1 else 0):=Ff n (by omega) d 31 (by omega);have i:=(TM n (by omega) k0 k1 k2 (mC m d) (Bv m d) b f a).2;unfold jx chkD;rw[nZ n (by omega) g l dg x q m d k0 k1 k2,hy,a1,a2,qY n];simp only[ob];rw[i,Q4];show cond ((if yrD g l dg x q m then(1:Int)else 0)==0) _ (cond _ (cond _ (cond _ _ (cond _ (cond _ _ (cond (decide (0<sea m)) _ _)) _)) (cond _ (cond _ _ (cond (decide (0<sea m)) _ _)) _)) (cond _ (cond _ _ (cond (decide (0<sea m)) _ _)) _))=_;generalize yrD g l dg x q m=b1;generalize(m==[])=b2;generalize decide (0<sea m)=k;generalize gK m 12=j;generalize(d==[])=e;generalize gK d 31=c;cases b1<;>cases b2<;>cases k<;>cases j<;>cases e<;>cases c<;>rfl
def KW{g l:Bool}{dg:aa}{x q:Int}{m d:aa}{k0 k1 k2:Int}(h:chkD g l dg x q m d k0 k1 k2=0):yrD g l dg x q m=true/\(m=[]\/0<sea m\/gK m 12=true)/\(d=[]\/(m≠[]/\sea m=0/\gK d 31=true))/\allM k0 k1 k2 (mC m d)=0:=by
 have hs:=OL m;unfold chkD at h;cases b1:yrD g l dg x q m with
 | false=>rw[b1]at h;exact absurd h (by simp)
 | true=>
  rw[b1]at h;simp only[bV,af]at h;cases b2:(!(m==[])&&(!(decide (0<sea m))&&!(gK m 12)))with
  | true=>rw[b2]at h;exact absurd h (by simp)
  | false=>
   rw[b2]at h;simp only[af]at h;cases c:(!(d==[])&&((m==[])||(decide (0<sea m)||!(gK d 31))))with
   | true=>rw[c]at h;exact absurd h (by simp)
   | false=>
    rw[c]at h;simp only[af]at h;refine⟨rfl,?_,?_,h⟩
    ·by_cases b:m=[]
     ·exact .inl b
     ·by_cases a:0<sea m
      ·exact .inr (.inl a)
      ·simp[b,a]at b2;exact .inr (.inr b2)
    ·by_cases b:d=[]
     ·exact .inl b
     ·by_cases a:m=[]
      ·simp[b,a]at c
      ·by_cases e:0<sea m
       ·simp[b,a,e]at c
       ·simp[b,a,e]at c;exact .inr ⟨a,by omega,c⟩
def qG{s:aa}{g:Nat}(m:g<=31)(h:gK s g=true):s.length=2/\∀c∈s,isDX c=true:=by
 unfold gK at h;obtain⟨i,f,hi⟩:=sS.1 h;have e:i<g:=kx.1 f;have dig:∀k:Nat,k<10->isDX (UInt8.ofNat (48+k))=true:=by decide
 have d:isDX 88=true:=by decide
 match s,hi with
 | [],hi=>simp[agr]at hi
 | [_],hi=>simp[agr]at hi
 | [a,b],hi=>
  refine⟨rfl,?_⟩;simp only[agr,aB,ie,bv]at hi;obtain⟨j,l⟩:=hi;intro c hc;simp only[cT,rR,t8]at hc;rcases hc with rfl | rfl
  ·rcases j with rfl | rfl
   ·exact d
   ·exact dig _ (by omega)
  ·rcases l with rfl | rfl
   ·exact d
   ·exact dig _ (by omega)
 | _::_::_::_,hi=>simp[agr]at hi
def I1{m:aa}(h:0<sea m):m.length=2/\∀c∈m,isDX c=true:=by
 rcases n9 m with b | ⟨j,a,rfl⟩
 ·omega
 ·refine⟨rfl,?_⟩;have:((List.range 21).all λj=>(two (21+j)).all isDX)=true:=by decide +kernel
  have:=(cq.1 this) j (by simpa using a);exact cq.1 this
def mt(k:Nat):aa:=if k=1 then[63]else if k=2 then[126]else if k=3 then[37]else[]
def mkOf(c:UInt8):Nat:=if c=63 then 1 else if c=126 then 2 else if c=37 then 3 else 0
def l3(p:Nat×Nat×Nat):List Int:=[(p.1:Int),(p.2.1:Int),(p.2.2:Int)]
def spM(A B:Nat×Nat×Nat):Nat×Nat×Nat:=(A.1 ||| B.1 ||| B.2.1 ||| B.2.2,A.2.1 ||| B.2.1 ||| B.2.2,A.2.2 ||| B.2.2)
noncomputable def O4(m j:Nat):Bool:=
 mA (m+300) (j:Int)==some (((mkOf (UInt8.ofNat j):Nat):Int),decide (0<mkOf (UInt8.ofNat j)))
def Je(m:Nat):(List.range 256).all (O4 m)=true:=by kernel_rfl
def LW(m:Nat)(c:UInt8):mA (m+300) ((c.toNat:Nat):Int)=some (((mkOf c:Nat):Int),decide (0<mkOf c)):=by
 have h:=(cq.1 (Je m)) c.toNat (kx.2 c.toNat_lt);unfold O4 at h;rw[show UInt8.ofNat c.toNat=c by simp]at h;simp only[bv]at h;exact h
noncomputable def Ug(m j:Nat):Bool:=
 (mA (m+300) (j:Int)==some (((mkOf (UInt8.ofNat j):Nat):Int),decide (0<mkOf (UInt8.ofNat j))))&&(dp (m+300) (j:Int)==some ((mkOf (UInt8.ofNat j):Nat):Int))
def M4(m:Nat):(List.range 256).all (Ug m)=true:=by kernel_rfl
def K7(m:Nat)(c:UInt8):mA (m+300) ((c.toNat:Nat):Int)=some (((mkOf c:Nat):Int),decide (0<mkOf c))/\dp (m+300) ((c.toNat:Nat):Int)=some ((mkOf c:Nat):Int):=by
 have h:=(cq.1 (M4 m)) c.toNat (kx.2 c.toNat_lt);unfold Ug at h;rw[show UInt8.ofNat c.toNat=c by simp]at h;simp only[aB,bv]at h;exact h
def r4{p:Nat->Bool}(h:(List.range 4).all p=true){a:Nat}(b:a<4):p a=true:=(cq.1 h) a (kx.2 b)
def inM(k:Nat)(A:Nat×Nat×Nat):Prop:=A.1<4/\A.2.1<4/\A.2.2<4/\(k<2->A.2.1=0)/\(k<3->A.2.2=0)
def wb{k:Nat}{A:Nat×Nat×Nat}(h:inM k A):allM (A.1:Int) (A.2.1:Int) (A.2.2:Int) k=0:=by
 obtain⟨b,d,a,e,c⟩:=h;unfold allM;rw[ab (by omega)]
def or4{a b:Nat}(c:a<4)(d:b<4):bits .or .u8 (a:Int) (b:Int)=((a ||| b:Nat):Int)/\a ||| b<4:=by
 have:((List.range 4).all λa=>(List.range 4).all λb=>bits .or .u8 (a:Int) (b:Int)==((a ||| b:Nat):Int)&&decide (a ||| b<4))=true:=by decide +kernel
 have:=r4 (r4 this c) d;simpa using this
def vA(n:Nat)(w:9<n)(k:Nat)(A B:Nat×Nat×Nat)(r:1<=k/\k<=3)(l:inM k A)(o:inM k B):dV n (l3 A) (l3 B) (k:Int)=some (l3 (spM A B),0):=by
 obtain⟨n,rfl⟩:∃j,n=j+5:=⟨n - 5,by omega⟩;have q:=DV (n+5) (by omega) (A.1:Int) (A.2.1:Int) (A.2.2:Int) k r (by omega) (by omega) (by omega);have s:=DV (n+5) (by omega) (B.1:Int) (B.2.1:Int) (B.2.2:Int) k r (by omega) (by omega) (by omega);rw[wb l]at q;rw[wb o]at s;have f:∀x:Nat,x<4->bits .or .u8 0 (x:Int)=(x:Int):=λx hx=>by
  have:=(or4 (show 0<4 by omega) hx).1;simpa using this
 have a:∀x y:Nat,x<4->y<4->bits .or .u8 (x:Int) (y:Int)=((x ||| y:Nat):Int):=λx y hx hy=>(or4 hx hy).1;have e:∀x y:Nat,x<4->y<4->x ||| y<4:=λx y hx hy=>(or4 hx hy).2;unfold dV;show ob (bR (n+5) [(A.1:Int),(A.2.1:Int),(A.2.2:Int)] (k:Int)) _=_;rw[q];show ob (bR (n+5) [(B.1:Int),(B.2.1:Int),(B.2.2:Int)] (k:Int)) _=_;rw[s];obtain⟨a0,a1,a2⟩:=A;obtain⟨b0,b1,b2⟩:=B;obtain⟨g0,h,m,t,i⟩:=l;obtain⟨d,b,c,p,g⟩:=o;simp only at g0 h m t i d b c p g;have hk':k=1\/k=2\/k=3:=by omega
 rcases hk' with rfl | rfl | rfl
 ·obtain rfl:=t (by omega);obtain rfl:=i (by omega);obtain rfl:=p (by omega);obtain rfl:=g (by omega);show some (([bits .or .u8 (a0:Int) (bits .or .u8 0 (b0:Int)),0,0]:List Int),(0:Int))=_;rw[f b0 d,a _ _ g0 d];simp[l3,spM]
 ·obtain rfl:=i (by omega);obtain rfl:=g (by omega);show some (([bits .or .u8 (a0:Int) (bits .or .u8 (bits .or .u8 0 (b1:Int)) (b0:Int)),bits .or .u8 (a1:Int) (bits .or .u8 0 (b1:Int)),0]:List Int),(0:Int))=_;rw[f b1 b,a _ _ b d,a _ _ g0 (e _ _ b d),a _ _ h b];simp[l3,spM,Nat.or_assoc,zj b1 b0]
 ·show some (([bits .or .u8 (a0:Int) (bits .or .u8 (bits .or .u8 (bits .or .u8 0 (b2:Int)) (b1:Int)) (b0:Int)),bits .or .u8 (a1:Int) (bits .or .u8 (bits .or .u8 0 (b2:Int)) (b1:Int)),bits .or .u8 (a2:Int) (bits .or .u8 0 (b2:Int))]:List Int),(0:Int))=_;rw[f b2 c,a _ _ c b,a _ _ (e _ _ c b) d,a _ _ g0 (e _ _ (e _ _ c b) d),a _ _ h (e _ _ c b),a _ _ m c];have v:a0 ||| (b2 ||| b1 ||| b0)=a0 ||| b0 ||| b1 ||| b2:=by rw[zj (b2 ||| b1) b0,zj b2 b1];simp only[Nat.or_assoc]
  have u:a1 ||| (b2 ||| b1)=a1 ||| b1 ||| b2:=by rw[zj b2 b1];simp only[Nat.or_assoc]
  rw[v,u];rfl
abbrev cI(x:Nat):Int:=(x:Int)
def bt(b a:Nat):Nat:=if b=1 then a%2 else a / 2%2
def OR(n:Nat){a b:Nat}(d:a<4)(c:b=1\/b=2):io n (a:Int) (b:Int)=some ((bt b a:Nat):Int):=by
 have h:a=0\/a=1\/a=2\/a=3:=by omega
 rcases h with rfl | rfl | rfl | rfl<;>rcases c with rfl | rfl<;>rfl
def Rb(b a:Nat):bt b a<=1:=by unfold bt;split<;>omega
def bts(b:Nat):List Nat->Nat
 | []=>0
 | x::l=>bt b x+bts b l
def UK(n k b i:Nat)(o:b=1\/b=2)(u:k<=3)(A X Y:List Int)(c:List Nat)(t:c.length=3)(p:∀x∈c,x<4):∀(r j a:Nat),j+r=k->a<=j+1->∀N,r<N->
  au (bU n) N ((k:Int),(b:Int),(i:Int),(a:Int),(j:Int),A,c.map cI,X,Y)=some ((k:Int),(b:Int),(i:Int),((a+bts b ((c.take k).drop j):Nat):Int),A,c.map cI,X,Y):=by
 intro r
 induction r with
 | zero=>
  intro j a l d N q;obtain⟨N,rfl⟩:∃k,N=k+1:=⟨N - 1,by omega⟩;have s:bU n ((k:Int),(b:Int),(i:Int),(a:Int),(j:Int),A,c.map cI,X,Y)=some (.inr ((k:Int),(b:Int),(i:Int),(a:Int),A,c.map cI,X,Y)):=by
   unfold bU;rw[bB,ab (show¬((j:Int)<(k:Int))by omega)]
  have e:(c.take k).drop j=[]:=iD (by rw[de];omega);rw[au,s,e];rfl
 | succ r ih=>
  intro j a l d N q;obtain⟨N,rfl⟩:∃k,N=k+1:=⟨N - 1,by omega⟩;have h:j<c.length:=by omega
  obtain⟨x,hx⟩:∃x,c[j]?=some x:=⟨c[j],bg h⟩;have g:(c.map cI)[j]?=some (x:Int):=by rw[pg,hx];rfl
  have f:=p x (fE hx);have w:wrap .i64 ((a:Int)+((bt b x:Nat):Int))=((a+bt b x:Nat):Int):=by have:=Rb b x;rw[wrap_i64 _ (by omega) (by omega)];omega
  have m:wrap .i64 ((j:Int)+1)=((j+1:Nat):Int):=by rw[wrap_i64 _ (by omega) (by omega)];omega
  have s:bU n ((k:Int),(b:Int),(i:Int),(a:Int),(j:Int),A,c.map cI,X,Y)=some (.inl ((k:Int),(b:Int),(i:Int),((a+bt b x:Nat):Int),((j+1:Nat):Int),A,c.map cI,X,Y)):=by
   unfold bU;rw[bB,ae (show(j:Int)<(k:Int)by omega)];show ob (ix 3 (j:Int)) _=_;rw[eZ (show j<3 by omega)];show ob ((c.map cI)[j]?) _=_;rw[g];show ob (io n (x:Int) (b:Int)) _=_;rw[OR n f o];show some (Sum.inl ((k:Int),(b:Int),(i:Int),wrap .i64 ((a:Int)+((bt b x:Nat):Int)),wrap .i64 ((j:Int)+1),_))=_;rw[w,m]
  have e:(c.take k).drop j=x::(c.take k).drop (j+1):=bK (by rw[pS (by omega)];exact hx);rw[au,s];have:=Rb b x;show au _ N _=_;rw[ih (j+1) (a+bt b x) (by omega) (by omega) N (by omega),e];simp only[bts,gN]
def hit(k b i:Nat)(a c:List Nat):Bool:=decide (0<bt b (a.getD i 0)+bts b ((c.take k).drop i))
def Vd(n k b i:Nat)(w:9<n)(h:b=1\/b=2)(s:k<=3)(hi:i<k)(X:List Int)(a c:List Nat)(v:a.length=3)(l:c.length=3)(t:∀x∈a,x<4)(r:∀x∈c,x<4)(out:List Int)(o:Int)(q:out[i]?=some o):
  bu n ((k:Int),(b:Int),(i:Int),a.map cI,c.map cI,X,out)=some (.inl ((k:Int),(b:Int),((i+1:Nat):Int),a.map cI,c.map cI,X,cond (hit k b i a c) (out.set i (wrap .u8 (o+(b:Int)))) out)):=by
 obtain⟨x,hx⟩:∃x,a[i]?=some x:=⟨a[i],bg (by omega)⟩;have f:(a.map cI)[i]?=some (x:Int):=by rw[pg,hx];rfl
 have e:=t x (fE hx);have u:=Rb b x;have m:wrap .i64 ((i:Int)+1)=((i+1:Nat):Int):=by rw[wrap_i64 _ (by omega) (by omega)];omega
 have g:=UK n k b i h s (a.map cI) X out c l r (k - i) i (bt b x) (by omega) (by omega) n (by omega);unfold bu;rw[bB,ae (show(i:Int)<(k:Int)by omega)];show ob (ix 3 (i:Int)) _=_;rw[eZ (show i<3 by omega)];show ob ((a.map cI)[i]?) _=_;rw[f];show ob (io n (x:Int) (b:Int)) _=_;rw[OR n e h];show ob (au (bU n) n ((k:Int),(b:Int),(i:Int),((bt b x:Nat):Int),(i:Int),a.map cI,c.map cI,X,out)) _=_;rw[g];have p:hit k b i a c=decide (((bt b x+bts b ((c.take k).drop i):Nat):Int)>0):=by
  unfold hit;rw[yI,hx];rw[oC];simp only[wn];omega
 rw[p];show cond (decide (((bt b x+bts b ((c.take k).drop i):Nat):Int)>0)) (ob (ix 3 (i:Int)) λj=>ob (out[j]?) λy=>ob (ix 3 (i:Int)) λj2=>cond (Nat.blt j2 3) (some (Sum.inl ((k:Int),(b:Int),wrap .i64 ((i:Int)+1),a.map cI,c.map cI,X,out.set j2 (wrap .u8 (y+(b:Int)))))) none) (some (Sum.inl ((k:Int),(b:Int),wrap .i64 ((i:Int)+1),a.map cI,c.map cI,X,out)))=_;rw[eZ (show i<3 by omega),m];have d:Nat.blt i 3=true:=dF (by omega);simp only[ob,q,d,aj];cases decide (((bt b x+bts b ((c.take k).drop i):Nat):Int)>0)<;>rfl
def addB(k b:Nat)(a c:List Nat)(o:List Int):List Int:=[cond (decide (0<k)&&hit k b 0 a c) (wrap .u8 (o.getD 0 0+(b:Int))) (o.getD 0 0),cond (decide (1<k)&&hit k b 1 a c) (wrap .u8 (o.getD 1 0+(b:Int))) (o.getD 1 0),cond (decide (2<k)&&hit k b 2 a c) (wrap .u8 (o.getD 2 0+(b:Int))) (o.getD 2 0)]
def NX(n k b:Nat)(t:9<n)(m:b=1\/b=2)(q:1<=k/\k<=3)(X:List Int)(c a:List Nat)(s:c.length=3)(l:a.length=3)(r:∀x∈c,x<4)(p:∀x∈a,x<4)(h o1 f:Int):
  au (bu n) n ((k:Int),(b:Int),0,c.map cI,a.map cI,X,[h,o1,f])=some ((k:Int),(b:Int),c.map cI,a.map cI,X,addB k b c a [h,o1,f]):=by
 obtain⟨n,rfl⟩:∃j,n=j+5:=⟨n - 5,by omega⟩;have d:∀(N:Nat) (out:List Int),au (bu (n+5)) (N+1) ((k:Int),(b:Int),((k:Nat):Int),c.map cI,a.map cI,X,out)=some ((k:Int),(b:Int),c.map cI,a.map cI,X,out):=λN out=>by
  rw[au];have:bu (n+5) ((k:Int),(b:Int),((k:Nat):Int),c.map cI,a.map cI,X,out)=some (.inr ((k:Int),(b:Int),c.map cI,a.map cI,X,out)):=by
   unfold bu;rw[bB,ab (show¬((k:Int)<(k:Int))by omega)]
  rw[this]
 have g:=λ(i:Nat) (hi:i<k) (out:List Int) (o:Int) (ho:out[i]?=some o)=>Vd (n+5) k b i t m q.2 hi X c a s l r p out o ho;have hk':k=1\/k=2\/k=3:=by omega
 have e:=g 0 (by omega) [h,o1,f] h rfl;rcases hk' with rfl | rfl | rfl
 ·rw[au];rw[show((0:Nat):Int)=0 from rfl]at e;rw[e];show au _ (n+3+1) (((1:Nat):Int),(b:Int),((1:Nat):Int),_)=_;rw[d];unfold addB;cases hit 1 b 0 c a<;>rfl
 ·rw[au];rw[show((0:Nat):Int)=0 from rfl]at e;rw[e];show au _ (n+4) (((2:Nat):Int),(b:Int),((1:Nat):Int),_)=_;rw[au,g 1 (by omega) _ o1 (by cases hit 2 b 0 c a<;>rfl)];show au _ (n+2+1) (((2:Nat):Int),(b:Int),((2:Nat):Int),_)=_;rw[d];unfold addB;cases hit 2 b 0 c a<;>cases hit 2 b 1 c a<;>rfl
 ·rw[au];rw[show((0:Nat):Int)=0 from rfl]at e;rw[e];show au _ (n+4) (((3:Nat):Int),(b:Int),((1:Nat):Int),_)=_;rw[au,g 1 (by omega) _ o1 (by cases hit 3 b 0 c a<;>rfl)];show au _ (n+3) (((3:Nat):Int),(b:Int),((2:Nat):Int),_)=_;rw[au,g 2 (by omega) _ f (by cases hit 3 b 0 c a<;>cases hit 3 b 1 c a<;>rfl)];show au _ (n+1+1) (((3:Nat):Int),(b:Int),((3:Nat):Int),_)=_;rw[d];unfold addB;cases hit 3 b 0 c a<;>cases hit 3 b 1 c a<;>cases hit 3 b 2 c a<;>rfl
def lN(p:Nat×Nat×Nat):List Nat:=[p.1,p.2.1,p.2.2]
def pu{x y:Nat}(hx:x<4)(hy:y<4)(b:Nat)(d:b=1\/b=2):decide (0<bt b (x ||| y))=decide (0<bt b x+bt b y):=by
 have:((List.range 4).all λa=>(List.range 4).all λc=>(decide (0<bt 1 (a ||| c))==decide (0<bt 1 a+bt 1 c))&&(decide (0<bt 2 (a ||| c))==decide (0<bt 2 a+bt 2 c)))=true:=by decide +kernel
 have:=r4 (r4 this hx) hy;simp only[aB,bv]at this;rcases d with rfl | rfl
 ·exact this.1
 ·exact this.2
def qW{x:Nat}(hx:x<4):cond (decide (0<bt 2 x)) (wrap .u8 (cond (decide (0<bt 1 x)) (wrap .u8 (0+((1:Nat):Int))) 0+((2:Nat):Int))) (cond (decide (0<bt 1 x)) (wrap .u8 (0+((1:Nat):Int))) 0)=(x:Int):=by
 have h:x=0\/x=1\/x=2\/x=3:=by omega
 rcases h with rfl | rfl | rfl | rfl<;>decide
def ui(n:Nat)(K:9<n)(k:Nat)(A B:Nat×Nat×Nat)(M:1<=k/\k<=3)(F:inM k A)(G:inM k B):dO n (l3 A) (l3 B) (k:Int)=some (l3 (spM A B)):=by
 obtain⟨a0,a1,a2⟩:=A;obtain⟨b0,b1,b2⟩:=B;obtain⟨g0,m,s,C,u⟩:=F;obtain⟨f,d,l,z,t⟩:=G;simp only at g0 m s C u f d l z t;have c:∀x y:Nat,x<4->y<4->x ||| y<4:=λx y hx hy=>(or4 hx hy).2;have O:∀x∈lN (a0,a1,a2),x<4:=by
  intro x hx;simp only[lN,cT,rR,t8]at hx;rcases hx with rfl | rfl | rfl<;>assumption
 have E:∀x∈lN (b0,b1,b2),x<4:=by
  intro x hx;simp only[lN,cT,rR,t8]at hx;rcases hx with rfl | rfl | rfl<;>assumption
 have run:=λ(b:Nat) (a:b=1\/b=2) (o0 o1 o2:Int)=>NX n k b K a M [0,0,0] (lN (a0,a1,a2)) (lN (b0,b1,b2)) rfl rfl O E o0 o1 o2;have v:=run 1 (.inl rfl) 0 0 0;obtain⟨i,g,h,hp⟩:∃i g h,addB k 1 (lN (a0,a1,a2)) (lN (b0,b1,b2)) [0,0,0]=[i,g,h]:=⟨_,_,_,rfl⟩;have I:=run 2 (.inr rfl) i g h;rw[hp]at v;obtain⟨n,rfl⟩:∃j,n=j+5:=⟨n - 5,by omega⟩;have H:cv (n+5) ((k:Int),1,l3 (a0,a1,a2),l3 (b0,b1,b2),[0,0,0],[0,0,0])=some (.inl ((k:Int),2,l3 (a0,a1,a2),l3 (b0,b1,b2),[0,0,0],[i,g,h])):=by
  unfold cv;show cond (decide ((1:Int)<=2)) (ob (au (bu (n+5)) (n+5) ((k:Int),((1:Nat):Int),0,(lN (a0,a1,a2)).map cI,(lN (b0,b1,b2)).map cI,[0,0,0],[0,0,0])) _) _=_;rw[v];rfl
 have L:cv (n+5) ((k:Int),2,l3 (a0,a1,a2),l3 (b0,b1,b2),[0,0,0],[i,g,h])=some (.inl ((k:Int),3,l3 (a0,a1,a2),l3 (b0,b1,b2),[0,0,0],addB k 2 (lN (a0,a1,a2)) (lN (b0,b1,b2)) [i,g,h])):=by
  unfold cv;show cond (decide ((2:Int)<=2)) (ob (au (bu (n+5)) (n+5) ((k:Int),((2:Nat):Int),0,(lN (a0,a1,a2)).map cI,(lN (b0,b1,b2)).map cI,[0,0,0],[i,g,h])) _) _=_;rw[I];rfl
 have D:∀out:List Int,cv (n+5) ((k:Int),3,l3 (a0,a1,a2),l3 (b0,b1,b2),[0,0,0],out)=some (.inr ([0,0,0],out)):=λout=>rfl;unfold dO;rw[au,H];show ob (au _ (n+4) _) _=_;rw[au,L];show ob (au _ (n+3) _) _=_;rw[au,D];show some (addB k 2 (lN (a0,a1,a2)) (lN (b0,b1,b2)) [i,g,h])=_;rw[<-hp];have hk':k=1\/k=2\/k=3:=by omega
 have N:=λ(x y:Nat) (hx:x<4) (hy:y<4) (b:Nat) (a:b=1\/b=2)=>pu hx hy b a;rcases hk' with rfl | rfl | rfl
 ·obtain rfl:=C (by omega);obtain rfl:=u (by omega);obtain rfl:=z (by omega);obtain rfl:=t (by omega);have e:∀b,b=1\/b=2->hit 1 b 0 (lN (a0,0,0)) (lN (b0,0,0))=decide (0<bt b (a0 ||| b0)):=λb a=>by rw[pu g0 f b a];rfl
  show some [cond (hit 1 2 0 (lN (a0,0,0)) (lN (b0,0,0))) (wrap .u8 (cond (hit 1 1 0 (lN (a0,0,0)) (lN (b0,0,0))) (wrap .u8 (0+((1:Nat):Int))) 0+((2:Nat):Int))) (cond (hit 1 1 0 (lN (a0,0,0)) (lN (b0,0,0))) (wrap .u8 (0+((1:Nat):Int))) 0),0,0]=_;rw[e 1 (.inl rfl),e 2 (.inr rfl),qW (c _ _ g0 f)];simp[l3,spM]
 ·obtain rfl:=u (by omega);obtain rfl:=t (by omega);have r:∀b,b=1\/b=2->hit 2 b 1 (lN (a0,a1,0)) (lN (b0,b1,0))=decide (0<bt b (a1 ||| b1)):=λb a=>by rw[pu m d b a];rfl
  have q:∀b,b=1\/b=2->hit 2 b 0 (lN (a0,a1,0)) (lN (b0,b1,0))=decide (0<bt b (a0 ||| b0 ||| b1)):=λb a=>by
   have o:=pu (c _ _ g0 f) d b a;have p:=pu g0 f b a;rw[o];have:hit 2 b 0 (lN (a0,a1,0)) (lN (b0,b1,0))=decide (0<bt b a0+(bt b b0+(bt b b1+0))):=rfl;rw[this];simp only[oC]at p ⊢;omega
  show some [cond (hit 2 2 0 (lN (a0,a1,0)) (lN (b0,b1,0))) (wrap .u8 (cond (hit 2 1 0 (lN (a0,a1,0)) (lN (b0,b1,0))) (wrap .u8 (0+((1:Nat):Int))) 0+((2:Nat):Int))) (cond (hit 2 1 0 (lN (a0,a1,0)) (lN (b0,b1,0))) (wrap .u8 (0+((1:Nat):Int))) 0),cond (hit 2 2 1 (lN (a0,a1,0)) (lN (b0,b1,0))) (wrap .u8 (cond (hit 2 1 1 (lN (a0,a1,0)) (lN (b0,b1,0))) (wrap .u8 (0+((1:Nat):Int))) 0+((2:Nat):Int))) (cond (hit 2 1 1 (lN (a0,a1,0)) (lN (b0,b1,0))) (wrap .u8 (0+((1:Nat):Int))) 0),0]=_;rw[q 1 (.inl rfl),q 2 (.inr rfl),r 1 (.inl rfl),r 2 (.inr rfl),qW (c _ _ (c _ _ g0 f) d),qW (c _ _ m d)];simp[l3,spM]
 ·have w:∀b,b=1\/b=2->hit 3 b 2 (lN (a0,a1,a2)) (lN (b0,b1,b2))=decide (0<bt b (a2 ||| b2)):=λb a=>by rw[pu s l b a];rfl
  have r:∀b,b=1\/b=2->hit 3 b 1 (lN (a0,a1,a2)) (lN (b0,b1,b2))=decide (0<bt b (a1 ||| b1 ||| b2)):=λb a=>by
   have o:=pu (c _ _ m d) l b a;have p:=pu m d b a;rw[o];have:hit 3 b 1 (lN (a0,a1,a2)) (lN (b0,b1,b2))=decide (0<bt b a1+(bt b b1+(bt b b2+0))):=rfl;rw[this];simp only[oC]at p ⊢;omega
  have q:∀b,b=1\/b=2->hit 3 b 0 (lN (a0,a1,a2)) (lN (b0,b1,b2))=decide (0<bt b (a0 ||| b0 ||| b1 ||| b2)):=λb a=>by
   have o:=pu (c _ _ (c _ _ g0 f) d) l b a;have p:=pu (c _ _ g0 f) d b a;have J:=pu g0 f b a;rw[o];have:hit 3 b 0 (lN (a0,a1,a2)) (lN (b0,b1,b2))=decide (0<bt b a0+(bt b b0+(bt b b1+(bt b b2+0)))):=rfl;rw[this];simp only[oC]at p J ⊢;omega
  show some [cond (hit 3 2 0 (lN (a0,a1,a2)) (lN (b0,b1,b2))) (wrap .u8 (cond (hit 3 1 0 (lN (a0,a1,a2)) (lN (b0,b1,b2))) (wrap .u8 (0+((1:Nat):Int))) 0+((2:Nat):Int))) (cond (hit 3 1 0 (lN (a0,a1,a2)) (lN (b0,b1,b2))) (wrap .u8 (0+((1:Nat):Int))) 0),cond (hit 3 2 1 (lN (a0,a1,a2)) (lN (b0,b1,b2))) (wrap .u8 (cond (hit 3 1 1 (lN (a0,a1,a2)) (lN (b0,b1,b2))) (wrap .u8 (0+((1:Nat):Int))) 0+((2:Nat):Int))) (cond (hit 3 1 1 (lN (a0,a1,a2)) (lN (b0,b1,b2))) (wrap .u8 (0+((1:Nat):Int))) 0),cond (hit 3 2 2 (lN (a0,a1,a2)) (lN (b0,b1,b2))) (wrap .u8 (cond (hit 3 1 2 (lN (a0,a1,a2)) (lN (b0,b1,b2))) (wrap .u8 (0+((1:Nat):Int))) 0+((2:Nat):Int))) (cond (hit 3 1 2 (lN (a0,a1,a2)) (lN (b0,b1,b2))) (wrap .u8 (0+((1:Nat):Int))) 0)]=_;rw[q 1 (.inl rfl),q 2 (.inr rfl),r 1 (.inl rfl),r 2 (.inr rfl),w 1 (.inl rfl),w 2 (.inr rfl),qW (c _ _ (c _ _ (c _ _ g0 f) d) l),qW (c _ _ (c _ _ m d) l),qW (c _ _ s l)];rfl
def mkS(l:aa):Nat:=match l with | []=>0 | c::_=>mkOf c
def mkN(l:aa):Nat:=if mkS l=0 then 0 else 1
def twoN(l:aa):Nat:=bq isDX 2 l
def QT(c:UInt8):mkOf c<4:=by
 unfold mkOf;split
 ·omega
 ·split
  ·omega
  ·split<;>omega
def BC(l:aa):mkS l<4:=by
 cases l with
 | nil=>show 0<4;omega
 | cons c r=>exact QT c
def R1(l:aa):mkN l<=l.length:=by
 cases l with
 | nil=>exact aQ 0
 | cons c r=>
  unfold mkN;split<;>simp
def Qc(l:aa):mkN l<=1:=by unfold mkN;split<;>omega
def QK(c:UInt8):hasB [63,126,37] c=decide (0<mkOf c):=by
 have:=iJ (λc=>hasB [63,126,37] c==decide (0<mkOf c)) (by decide +kernel) c;simpa using this
def PZ(m:Nat)(S:aa)(a:Nat)(h:a<=S.length)(g:S.length<100000):
  co (m+300) S (a:Int)=some (.inr (((mkS (S.drop a):Nat):Int),S,((a+mkN (S.drop a):Nat):Int))):=by
 unfold co;rw[oz (m+300) S a h];cases hd:S.drop a with
 | nil=>
  have e:mA (m+300) 0=some (0,false):=by kernel_rfl
  show ob (mA (m+300) 0) _=_;rw[e];rfl
 | cons c r=>
  show ob (mA (m+300) ((c.toNat:Nat):Int)) _=_;rw[LW m c];show cond (decide (0<mkOf c)) _ _=_;have b:mkS (c::r)=mkOf c:=rfl;by_cases hc:0<mkOf c
  ·rw[aq hc];show ob (cb (m+300) [63,126,37] S (a:Int)) _=_;rw[AK (m+300) _ S a h (by omega),hd];have f:hasB [63,126,37] c=true:=by rw[QK,aq hc]
   have d:mkN (c::r)=1:=by unfold mkN;rw[b,ab (by omega)]
   rw[b,d];simp only[f,aH,ob]
  ·rw[am hc];have d:mkN (c::r)=0:=by unfold mkN;rw[b,ae (by omega)]
   rw[b,d];rfl
def AM(m:Nat)(S:aa)(a:Nat)(h:a<=S.length)(j:S.length<100000)(e:Int):
  ed (m+300) S (a:Int) e=some (((mkS (S.drop a):Nat):Int),S,((a+mkN (S.drop a):Nat):Int),e):=by
 unfold ed;rw[kR];rcases aF a S.length with g | d
 ·have:decide (S.length<=a)=false:=by simp;omega
  rw[this];obtain⟨c,hc⟩:∃c,S[a]?=some c:=⟨S[a],bg g⟩;rw[dw hc,bK hc];show ob (dp (m+300) ((c.toNat:Nat):Int)) _=_;rw[(K7 m c).2];have b:mkS (c::S.drop (a+1))=mkOf c:=rfl;show cond (decide (((mkOf c:Nat):Int)>0)) _ _=_;by_cases i:0<mkOf c
  ·have f:mkN (c::S.drop (a+1))=1:=by unfold mkN;rw[b,ab (by omega)]
   have:decide (((mkOf c:Nat):Int)>0)=true:=by simp;omega
   rw[this,b,f,aj];have w:wrap .i64 ((a:Int)+1)=((a+1:Nat):Int):=by rw[wrap_i64 _ (by omega) (by omega)];omega
   rw[w]
  ·have f:mkN (c::S.drop (a+1))=0:=by unfold mkN;rw[b,ae (by omega)]
   have:decide (((mkOf c:Nat):Int)>0)=false:=by simp;omega
   rw[this,b,f,af];rfl
 ·have:decide (S.length<=a)=true:=by simp;omega
  rw[this,iD d];rfl
def O0(n:Nat)(S:aa)(a:Nat)(h:a<=S.length)(i:S.length<100000)(g:S.length<n):
  ib n S (a:Int)=some (if twoN (S.drop a)<2 then .inl (((a+twoN (S.drop a):Nat):Int),5,S,((a+twoN (S.drop a):Nat):Int))else .inr ((S.drop a).take 2,S,((a+2:Nat):Int))):=by
 unfold ib;rw[uS n _ 2 2 S a h (by omega) g];have e:bq (hasB [88,48,49,50,51,52,53,54,55,56,57]) (2:Int).toNat (S.drop a)=twoN (S.drop a):=by
  unfold twoN;have d:(2:Int).toNat=2:=rfl;rw[d];exact jM (λc=>by rw[tX];rfl) _ _
 rw[e];by_cases b:twoN (S.drop a)<2
 ·rw[ae b,ae (by omega)];rfl
 ·have f:twoN (S.drop a)=2:=by
   have:=qh isDX 2 (S.drop a);unfold twoN at b ⊢;omega
  rw[ab b,ab (by omega),f];rfl
def RA(c:UInt8):isDX c=((decide (48<=c.toNat)&&decide (c.toNat<=57))||c==88):=by
 unfold isDX;congr 1;rw[re,bZ];simp
def GB(n:Nat)(S:aa)(a b i e:Int)(j:Nat)(u:S.length<100000)(hi:i<2)(r:j<=S.length)(t:0<=i):
  gA n (b,i,S,(j:Int),e,[],0,0)=some (match S.drop j with
   | []=>.inr (.inl ([],S,(j:Int),5))
   | c::_=>if isDX c then .inl (b,i+1,S,((j+1:Nat):Int),e,[],0,0)else .inr (.inl ([],S,(j:Int),5))):=by
 unfold gA;have o:decide (i<2)=true:=aq hi;show cond (decide (i<2)) (cond (decide ((j:Int)>=((S.length:Nat):Int))) _ _) _=_;rw[o,kR];rcases aF j S.length with h | d
 ·have:decide (S.length<=j)=false:=by simp;omega
  rw[this];obtain⟨c,hc⟩:∃c,S[j]?=some c:=⟨S[j],bg h⟩;have q:wrap .i64 (i+1)=i+1:=wrap_i64 _ (by omega) (by omega);have p:wrap .i64 ((j:Int)+1)=((j+1:Nat):Int):=by rw[wrap_i64 _ (by omega) (by omega)];omega
  rw[bK hc];simp only[dw hc,ob,aj,af,q,p];rw[RA];have l:(((c.toNat:Nat):Int) != 88)=!(c==88):=by rw[bne];congr 1;exact nc c 88
  rw[l];by_cases v:c.toNat<48
  ·have f:decide (((c.toNat:Nat):Int)<48)=true:=by simp;omega
   have g:decide (48<=c.toNat)=false:=by simp;omega
   rw[f,g];cases(c==88)<;>rfl
  ·have f:decide (((c.toNat:Nat):Int)<48)=false:=by simp;omega
   have g:decide (48<=c.toNat)=true:=by simp;omega
   rw[f,g];by_cases s:c.toNat<=57
   ·have k:decide (((c.toNat:Nat):Int)>57)=false:=by simp;omega
    have m:decide (c.toNat<=57)=true:=by simp;omega
    rw[k,m];rfl
   ·have k:decide (((c.toNat:Nat):Int)>57)=true:=by simp;omega
    have m:decide (c.toNat<=57)=false:=by simp;omega
    rw[k,m];cases(c==88)<;>rfl
 ·have:decide (S.length<=j)=true:=by simp;omega
  rw[this,iD d];rfl
def Kv(n:Nat)(s:10<n)(S:aa)(a:Nat)(h:a<=S.length)(k:S.length<100000)(e:Int):
  ju n S (a:Int) e=some (if twoN (S.drop a)<2 then([],S,((a+twoN (S.drop a):Nat):Int),5)else((S.drop a).take 2,S,((a+2:Nat):Int),e)):=by
 obtain⟨n,rfl⟩:∃j,n=j+3:=⟨n - 3,by omega⟩;unfold ju;rw[au,GB (n+3) S 0 (a:Int) 0 e a k (by omega) h (by omega)];cases hd:S.drop a with
 | nil=>rfl
 | cons c r=>
  obtain⟨o,q,g⟩:=mN hd;cases hc:isDX c with
  | false=>
   have:twoN (c::r)=0:=by unfold twoN;simp[bq,hc]
   rw[this];simp[hc,ob]
  | true=>
   simp only[hc,aH];rw[au,GB (n+3) S 0 (a:Int) (0+1) e (a+1) k (by omega) (by omega) (by omega),g];cases r with
   | nil=>
    have:twoN [c]=1:=by unfold twoN;simp[bq,hc]
    rw[this];rfl
   | cons d i=>
    obtain⟨f,l,m⟩:=mN g;cases b:isDX d with
    | false=>
     have:twoN (c::d::i)=1:=by unfold twoN;simp[bq,hc,b]
     rw[this];simp[b,ob]
    | true=>
     have:twoN (c::d::i)=2:=by unfold twoN;simp[bq,hc,b]
     rw[this];simp only[b,aH];have p:gA (n+3) ((a:Int),0+1+1,S,((a+1+1:Nat):Int),e,[],0,0)=some (.inr (.inr ((a:Int),S,((a+1+1:Nat):Int),e,[],0,0))):=rfl;rw[au,p];show ob (bx S.length ((a+1+1:Nat):Int)) _=_;rw[fe (show a+1+1<=S.length by omega)];show ob (bx (a+1+1) (a:Int)) _=_;rw[fe (show a<=a+1+1 by omega)];have:List.drop a (List.take (a+1+1) S)=[c,d]:=by
      rw[wh,hd];have:a+1+1 - a=2:=by omega
      rw[this];rfl
     show some (List.drop a (List.take (a+1+1) S),S,((a+1+1:Nat):Int),e)=_;rw[this];rfl
def FR{k:Nat}(h:k<10):Lib.decDigits k=[UInt8.ofNat (48+k)]:=by
 rw[Lib.decDigits,dif_pos h]
def Ed{k:Nat}(h:¬k<10)(a:k<100):Lib.decDigits k=[UInt8.ofNat (48+k / 10),UInt8.ofNat (48+k%10)]:=by
 rw[Lib.decDigits,dif_neg h,FR (by omega)];rfl
def fB(letter:UInt8)(v:Nat):aa:=if 0<v then letter::Lib.decDigits v else[]
def Si{k:Nat}(h:k<100):1<=(Lib.decDigits k).length/\(Lib.decDigits k).length<=2:=by
 by_cases a:k<10
 ·rw[FR a];simp
 ·rw[Ed a h];simp
def BM(letter:UInt8){k:Nat}(h:k<100):(fB letter k).length<=3:=by
 unfold fB;split
 ·have:=Si h;simp only[aP];omega
 ·simp
def na(g l:Bool)(d:aa)(x s:Nat):nq g l d (x:Int) (s:Int)=(if l then[89]else[])++(if g then[45]else[])++d++fB 69 x++fB 83 s:=by
 unfold nq fB;simp only[bT];have a:(0<(x:Int))=(0<x):=by simp
 have b:(0<(s:Int))=(0<s):=by simp
 simp only[a,b]
def eI(p:UInt8->Bool)(l:aa):Prop:=∀c,l.head?=some c->p c=false
def pZ{k:Nat}(h:k<10):(UInt8.ofNat (48+k)).toNat=48+k:=by
 rw[D1];exact rG (by omega)
def BA(letter:UInt8)(v:Nat)(post:aa)(j:v<100)(i:eI bm post)(h:eI (λc=>c==letter) post):numS letter (fB letter v++post)=.inr (v,(fB letter v).length):=by
 unfold fB;by_cases g:0<v
 ·rw[ae g];by_cases b:v<10
  ·rw[FR b];have hd:=pZ b;simp only[dq,dW];rw[ks,ae rfl,lG,ae (by omega)];have a:48+v - 48=v:=by omega
   cases post with
   | nil=>
    rw[qX,hd,a];rfl
   | cons e r=>
    have d:¬bm e=true:=by rw[i e rfl];simp
    rw[ko,ab d,hd,a];rfl
  ·rw[Ed b j];have hd:=pZ (show v / 10<10 by omega);have d:=pZ (show v%10<10 by omega);simp only[dq,dW];rw[ks,ae rfl,lG,ae (by omega),ko,ae ((bZ _).2 (by omega)),hd,d];rw[show 10*(48+v / 10 - 48)+(48+v%10 - 48)=v by omega];rfl
 ·rw[ab g];have f:v=0:=by omega
  subst f;cases post with
  | nil=>rfl
  | cons c r=>
   have hc:c≠letter:=by
    have:=h c rfl;simpa using this
   rw[dW,ks,ab hc];rfl
def vX(letter:UInt8)(l:aa)(v k:Nat)(h:numS letter l=.inr (v,k)):v<100/\l.take k=fB letter v/\k<=l.length:=by
 cases l with
 | nil=>
  simp only[si,nI,bi]at h;obtain⟨rfl,rfl⟩:=h;exact⟨by omega,rfl,by simp⟩
 | cons c r=>
  rw[ks]at h;by_cases hc:c=letter
  ·rw[ae hc]at h;cases r with
   | nil=>simp[uV]at h
   | cons d g=>
    rw[lG]at h;by_cases hd:49<=d.toNat/\d.toNat<=57
    ·rw[ae hd]at h;have i:d.toNat - 48<10:=by omega
     have a:UInt8.ofNat (48+(d.toNat - 48))=d:=by
      apply ga.1;rw[pZ i];omega
     have one:(c::d::g).take 2=fB letter (d.toNat - 48):=by
      unfold fB;rw[ae (by omega),FR i,a,hc];rfl
     cases g with
     | nil=>
      simp only[qX,nI,bi]at h;obtain⟨rfl,rfl⟩:=h;exact⟨by omega,one,by simp⟩
     | cons e o=>
      rw[ko]at h;by_cases b:bm e=true
      ·rw[ae b]at h;simp only[nI,bi]at h;obtain⟨rfl,rfl⟩:=h;have m:=(bZ e).1 b;refine⟨by omega,?_,by simp⟩;unfold fB;have n:(10*(d.toNat - 48)+(e.toNat - 48)) / 10=d.toNat - 48:=by omega
       have j:(10*(d.toNat - 48)+(e.toNat - 48))%10=e.toNat - 48:=by omega
       have f:UInt8.ofNat (48+(e.toNat - 48))=e:=by
        apply ga.1;rw[pZ (by omega)];omega
       rw[ae (by omega),Ed (by omega) (by omega),n,j,a,f,hc];rfl
      ·rw[ab b]at h;simp only[nI,bi]at h;obtain⟨rfl,rfl⟩:=h;exact⟨by omega,one,by simp⟩
    ·rw[ab hd]at h;cases h
  ·rw[ab hc]at h;simp only[nI,bi]at h;obtain⟨rfl,rfl⟩:=h;exact⟨by omega,rfl,by simp⟩
def wv{p:UInt8->Bool}:∀(r:aa) (k:Nat) (post:aa),(∀c∈r,p c=true)->r.length<=k->(eI p post\/r.length=k)->bq p k (r++post)=r.length
 | [],0,post,_,_,_=>by simp[bq]
 | [],k+1,post,_,_,h=>by
  cases post with
  | nil=>simp[bq]
  | cons c q=>
   rcases h with h | h
   ·have:=h c rfl;simp[bq,this]
   ·simp at h
 | c::r,0,post,_,h,_=>by simp at h
 | c::r,k+1,post,hp,a,h=>by
  have ih:=wv r k post (λd hd=>hp d (by simp[hd])) (by simpa using a) (by
   rcases h with h | h
   ·exact .inl h
   ·exact .inr (by simpa using h))
  simp only[dq,bq,hp c (by simp),aH,ih,aP]
def ya{p:UInt8->Bool}:∀(k:Nat) (l:aa),∀c∈l.take (bq p k l),p c=true
 | 0,l=>by simp[bq]
 | k+1,[]=>by simp[bq]
 | k+1,c::l=>by
  simp only[bq];by_cases h:p c=true
  ·rw[ae h];intro d hd;rw[oI,cT]at hd;rcases hd with rfl | hd
   ·exact h
   ·exact ya k l d hd
  ·rw[ab h];simp
def qV{letter:UInt8}{v:Nat}{post:aa}{p:UInt8->Bool}(b:p letter=false)(a:eI p post):eI p (fB letter v++post):=by
 unfold fB;intro c hc;by_cases h:0<v
 ·rw[ae h]at hc;simp only[dq,uB,ar]at hc;rw[<-hc];exact b
 ·rw[ab h]at hc;exact a c hc
def isYC(c:UInt8):Bool:=isDX c||c==69||c==83
def O2{l:aa}(h:eI isYC l):eI bm l:=λc hc=>by
 have:=h c hc;unfold isYC isDX at this;simp only[nL]at this;exact this.1.1.1
def Vj{l:aa}(h:eI isYC l):eI isDX l:=λc hc=>by
 have:=h c hc;unfold isYC at this;simp only[nL]at this;exact this.1.1
def VN{l:aa}(h:eI isYC l):eI (λc=>c==69) l:=λc hc=>by
 have:=h c hc;unfold isYC at this;simp only[nL]at this;exact this.1.2
def Vk{l:aa}(h:eI isYC l):eI (λc=>c==83) l:=λc hc=>by
 have:=h c hc;unfold isYC at this;simp only[nL]at this;exact this.2
def mL(c:UInt8)(l:aa):dI c (c::l)=1:=by rw[jP,ae rfl]
def nQ{c a:UInt8}(h:a≠c)(l:aa):dI c (a::l)=0:=by rw[jP,ab h]
def KN{g l:Bool}{d:aa}{x s:Nat}(h:okY g l d (x:Int) (s:Int))(post:aa)(hp:eI isYC post):mO (nq g l d (x:Int) (s:Int)++post)=.inr (g,l,d,x,s,(nq g l d (x:Int) (s:Int)).length):=by
 have L:=lh h;have j:numS 83 (fB 83 s++post)=.inr (s,(fB 83 s).length):=BA 83 s post (by omega) (O2 hp) (Vk hp);have k:eI bm (fB 83 s++post):=qV (by decide) (O2 hp);have M:eI isDX (fB 83 s++post):=qV (by decide) (Vj hp);rw[na];cases l with
 | true=>
  have B:okL d (x:Int) (s:Int):=by simpa[okY]using h
  obtain⟨⟨b,p,z,A,D,K,G,O⟩,N,I⟩:=B;obtain⟨c,r,rfl⟩:∃c r,d=c::r:=by
   cases d with
   | nil=>simp at p
   | cons c r=>exact⟨c,r,rfl⟩
  have w:=(bZ c).1 (b c (by simp));have m:49<=c.toNat/\c.toNat<=57:=by
   have:c.toNat≠48:=λe=>A (by rw[show c=48 from ga.1 e];rfl);omega
  have a:c≠45:=by rintro rfl;exact absurd w.1 (by decide)
  have u:numS 69 (fB 69 x++(fB 83 s++post))=.inr (x,(fB 69 x).length):=BA 69 x _ (by omega) k (qV (by decide) (VN hp));have i:bq bm 16 (r++(fB 69 x++(fB 83 s++post)))=r.length:=by
   refine wv r 16 _ (λe F=>b e (by simp[F])) (by simp only[aP]at z;omega) (.inl ?_);exact qV (by decide) k
  have body:∀o:Nat,pX g o ((c::r)++(fB 69 x++(fB 83 s++post)))=.inr (g,true,c::r,x,s,o+(1+r.length)+(fB 69 x).length+(fB 83 s).length):=by
   intro o;simp only[dq,pX];rw[ae m,i];have H:List.drop (1+r.length) (c::(r++(fB 69 x++(fB 83 s++post))))=fB 69 x++(fB 83 s++post):=by
    rw[pV,pU,Cm rfl]
   have E:List.drop (1+r.length+(fB 69 x).length) (c::(r++(fB 69 x++(fB 83 s++post))))=fB 83 s++post:=by
    rw[show 1+r.length+(fB 69 x).length=(r.length+(fB 69 x).length)+1 by omega,pU,<-lK,Cm (by simp)]
   have C:List.take (1+r.length) (c::(r++(fB 69 x++(fB 83 s++post))))=c::r:=by
    rw[pV,oI,List.take_left' rfl]
   rw[H,u];simp only[];rw[E,j,C]
  unfold mO;cases g with
  | true=>
   simp only[aH,dq,dW,lK];rw[mL,ae rfl,pU,cg,mL];have:=body 2;simp only[dq]at this;simp only[pU,cg,show((1:Nat)==1)=true from rfl,show 1+1=2 from rfl];rw[this];simp only[aP,bW];congr 6;omega
  | false=>
   simp only[aH,bs,aC,dq,dW,lK];rw[mL,ae rfl,pU,cg,nQ a];have:=body 1;simp only[dq]at this;simp only[pU,cg,show((0:Nat)==1)=false from rfl,ct];rw[this];simp only[aP,bW];congr 6;omega
 | false=>
  have J:okS g d (x:Int) (s:Int):=by simpa[okY]using h
  obtain⟨b,p,z,A,D,K,G⟩:=J;have y:x=0:=by omega
  subst y;have t:fB 69 0=[]:=rfl;have v:∀c∈d,isDX c=true:=λc hc=>by
   unfold isDX;rcases p c hc with q | q
   ·rw[q];rfl
   ·rw[q];simp
  have i:bq isDX 4 (d++(fB 83 s++post))=d.length:=wv d 4 _ v (by omega) (.inr b);have body:∀o:Nat,qZ g o (d++(fB 83 s++post))=.inr (g,false,d,0,s,o+4+(fB 83 s).length):=by
   intro o;unfold qZ;rw[i,b,ab (by omega),Cm b,j,List.take_left' b]
  obtain⟨c,r,rfl⟩:∃c r,d=c::r:=by
   cases d with
   | nil=>simp at b
   | cons c r=>exact⟨c,r,rfl⟩
  have a:c≠45:=by
   rintro rfl;rcases p 45 (by simp)with q | q
   ·exact absurd ((bZ _).1 q).1 (by decide)
   ·exact absurd q (by decide)
  have n:c≠89:=by
   rintro rfl;rcases p 89 (by simp)with q | q
   ·exact absurd ((bZ _).1 q).2 (by decide)
   ·exact absurd q (by decide)
  have f:(45:UInt8)≠89:=by decide
  unfold mO;rw[t];cases g with
  | true=>
   simp only[aH,bs,aC,dq,dW,lK];rw[nQ f,ab (by decide),mL,pU,cg];have:=body 1;simp only[dq]at this;rw[show((1:Nat)==1)=true from rfl,this];simp only[aP,bW]at b ⊢;congr 6;omega
  | false=>
   simp only[bs,aC,dq,dW,lK];rw[nQ n,ab (by decide),nQ a,cg];have:=body 0;simp only[dq]at this;rw[show((0:Nat)==1)=false from rfl,this];simp only[aP,bW]at b ⊢;congr 6;omega
def ua(c:UInt8)(l:aa):l.take (dI c l)=if dI c l=1 then[c]else[]:=by
 rcases jH c l with h | h
 ·rw[h];simp
 ·rw[h,ae rfl];unfold dI at h;split at h
  ·assumption
  ·cases h
def oa(l:aa)(i j:Nat):l.take (i+j)=l.take i++(l.drop i).take j:=by
 rw[List.take_add]
def pT{l:aa}{g o:Bool}{d:aa}{x s k:Nat}(h:mO l=.inr (g,o,d,x,s,k)):l.take k=nq g o d (x:Int) (s:Int)/\k<=l.length/\x<100/\s<100/\d.length<=17:=by
 rw[na];unfold mO at h;by_cases m:dI 89 l=1
 ·rw[ae m]at h;have n:=ua 89 l;rw[m,ae rfl]at n;have b:=ua 45 (l.drop 1);have c45:=jH 45 (l.drop 1);generalize B:dI 45 (l.drop 1)=u at *;have a:l.take (1+u)=[89]++(if(u==1)=true then[45]else[]):=by
   rw[oa,n,b];rcases c45 with rfl | rfl<;>rfl
  cases hd:l.drop (1+u)with
  | nil=>rw[hd]at h;simp[pX]at h
  | cons c r=>
   rw[hd]at h;simp only[pX]at h;by_cases hc:49<=c.toNat/\c.toNat<=57
   ·rw[ae hc]at h;have y:=qh bm 16 r;have A:1+bq bm 16 r<=(c::r).length:=by have:=k7 bm 16 r;simp only[aP];omega
    generalize E:1+bq bm 16 r=K at *;cases f:numS 69 (List.drop K (c::r))with
    | inl j=>rw[f]at h;simp at h
    | inr p=>
     obtain⟨F,j⟩:=p;rw[f]at h;simp only at h;cases e:numS 83 (List.drop (K+j) (c::r))with
     | inl i=>rw[e]at h;simp at h
     | inr t=>
      obtain⟨s',i⟩:=t;rw[e]at h;simp only[nI,bi]at h;obtain⟨rfl,rfl,rfl,rfl,rfl,rfl⟩:=h;obtain⟨a1,a2,D⟩:=vX _ _ _ _ f;obtain⟨b1,b2,v⟩:=vX _ _ _ _ e;rw[bj]at D v;have C:l.length=1+u+(c::r).length:=by
       have:=ck List.length hd;rw[bj]at this;simp only[aP]at this ⊢;omega
      refine⟨?_,by simp only[aP]at *;omega,a1,b1,by rw[de];omega⟩;rw[show 1+u+K+j+i=(1+u)+(K+(j+i))by omega,oa,a,hd,oa _ K,oa _ j,a2,jr,b2];simp
   ·rw[ab hc]at h;simp at h
 ·rw[ab m]at h;have b:=ua 45 l;have c45:=jH 45 l;generalize B:dI 45 l=u at *;have a:l.take u=(if(u==1)=true then[45]else[]):=by
   rw[b];rcases c45 with rfl | rfl<;>rfl
  unfold qZ at h;by_cases z:bq isDX 4 (l.drop u)<4
  ·rw[ae z]at h;simp at h
  ·rw[ab z]at h;have w:=k7 isDX 4 (l.drop u);rw[bj]at w;cases f:numS 83 (List.drop 4 (l.drop u))with
   | inl i=>rw[f]at h;simp at h
   | inr t=>
    obtain⟨s',i⟩:=t;rw[f]at h;simp only[nI,bi]at h;obtain⟨rfl,rfl,rfl,rfl,rfl,rfl⟩:=h;obtain⟨b1,b2,v⟩:=vX _ _ _ _ f;rw[bj,bj]at v;refine⟨?_,by omega,by omega,b1,by rw[de];omega⟩;rw[show u+4+i=u+(4+i)by omega,oa,a,oa _ 4,b2];have q:fB 69 0=[]:=rfl;rw[q];simp
abbrev DR:=Bool×Bool×aa×Nat×Nat×aa×aa×(Nat×Nat×Nat)×(Nat×Nat×Nat)×Nat
def mkE(S:aa)(p:Nat):Nat:=p+mkN (S.drop p)
def rd3(S:aa)(y:YR)(f e g b d c a:Nat)(h:aa):Nat⊕DR:=
 if twoN (S.drop (mkE S (a+1)))<2 then .inl (mkE S (a+1)+twoN (S.drop (mkE S (a+1))))
 else .inr (y.1,y.2.1,y.2.2.1,y.2.2.2.1,y.2.2.2.2.1,h,(S.drop (mkE S (a+1))).take 2,spM (f,g,mkS (S.drop (a+1))) (e,b,mkS (S.drop (mkE S (a+1)+2))),(d,c,mkE S (a+1)),mkE S (mkE S (a+1)+2))
def rd2(S:aa)(y:YR)(d c b a:Nat):Nat⊕DR:=
 if twoN (S.drop (mkE S (a+1)))<2 then .inl (mkE S (a+1)+twoN (S.drop (mkE S (a+1))))
 else if dI 45 (S.drop (mkE S (mkE S (a+1)+2)))=0 then .inr (y.1,y.2.1,y.2.2.1,y.2.2.2.1,y.2.2.2.2.1,(S.drop (mkE S (a+1))).take 2,[],spM (d,mkS (S.drop (a+1)),0) (c,mkS (S.drop (mkE S (a+1)+2)),0),(b,mkE S (a+1),0),mkE S (mkE S (a+1)+2))
 else rd3 S y d c (mkS (S.drop (a+1))) (mkS (S.drop (mkE S (a+1)+2))) b (mkE S (a+1)) (mkE S (mkE S (a+1)+2)) ((S.drop (mkE S (a+1))).take 2)
def oh(S:aa)(a:Nat):Nat⊕DR:=match mO (S.drop (mkE S a))with
 | .inl k=>.inl (mkE S a+k)
 | .inr y=>if 0<y.2.2.2.2.1\/dI 45 (S.drop (mkE S (mkE S a+y.2.2.2.2.2)))=0
  then .inr (y.1,y.2.1,y.2.2.1,y.2.2.2.1,y.2.2.2.2.1,[],[],spM (mkS (S.drop a),0,0) (mkS (S.drop (mkE S a+y.2.2.2.2.2)),0,0),(mkE S a,0,0),mkE S (mkE S a+y.2.2.2.2.2))
  else rd2 S y (mkS (S.drop a)) (mkS (S.drop (mkE S a+y.2.2.2.2.2))) (mkE S a) (mkE S (mkE S a+y.2.2.2.2.2))
def SV(S:aa):Nat⊕DR->(Int×Int×aa×Int)⊕(Bool×Bool×aa×Int×Int×aa×aa×Int×Int×Int×List Int×aa×Int)
 | .inl k=>.inl ((k:Int),5,S,(k:Int))
 | .inr (g,l,dg,x,s,m,d,M,P,e)=>.inr (g,l,dg,(x:Int),(s:Int),m,d,(M.1:Int),(M.2.1:Int),(M.2.2:Int),l3 P,S,(e:Int))
def ke{S:aa}{p:Nat}(h:p<=S.length):mkE S p<=S.length:=by
 have:=R1 (S.drop p);rw[bj]at this;unfold mkE;omega
def uA{S:aa}{p:Nat}(a:¬twoN (S.drop p)<2):p+2<=S.length:=by
 have:=k7 isDX 2 (S.drop p);unfold twoN at a;rw[bj]at this;omega
def qR{S:aa}{p:Nat}(h:¬dI 45 (S.drop p)=0):p+1<=S.length:=by
 have:=zM 45 (S.drop p);rw[bj]at this;omega
def Oe(n:Nat)(g l:Bool)(d:aa)(x s:Int)(a b:aa)(k0 k1 k2:Int)(S:aa)(p:Nat)(h:p<=S.length)(c:S.length<100000)(e:S.length<n):
  jw n g l d x s a b k0 k1 k2 S (p:Int)=some (match mO (S.drop p)with
   | .inl k=>.inl (((p+k:Nat):Int),5,g,l,d,x,s,a,b,k0,k1,k2,S,((p+k:Nat):Int))
   | .inr y=>.inr (y.1,y.2.1,y.2.2.1,(y.2.2.2.1:Int),(y.2.2.2.2.1:Int),a,b,k0,k1,k2,S,((p+y.2.2.2.2.2:Nat):Int))):=by
 unfold jw;rw[QM n S p h c e];cases mO (S.drop p)with
 | inl k=>rfl
 | inr y=>rfl
def MN(n:Nat)(g l:Bool)(d:aa)(x s:Int)(c b:aa)(k0 k1 k2:Int)(S:aa)(p:Nat)(h:p<=S.length)(e:S.length<100000)(f:S.length<n):
  jG n g l d x s c b k0 k1 k2 S (p:Int)=some (if twoN (S.drop p)<2
   then .inl (((p+twoN (S.drop p):Nat):Int),5,g,l,d,x,s,c,b,k0,k1,k2,S,((p+twoN (S.drop p):Nat):Int))
   else .inr (g,l,d,x,s,(S.drop p).take 2,b,k0,k1,k2,S,((p+2:Nat):Int))):=by
 unfold jG;rw[O0 n S p h e f];by_cases a:twoN (S.drop p)<2
 ·rw[ae a,ae a];rfl
 ·rw[ab a,ab a];rfl
def LO(n:Nat)(g l:Bool)(d:aa)(x s:Int)(b c:aa)(k0 k1 k2:Int)(S:aa)(p:Nat)(h:p<=S.length)(e:S.length<100000)(f:S.length<n):
  jD n g l d x s b c k0 k1 k2 S (p:Int)=some (if twoN (S.drop p)<2
   then .inl (((p+twoN (S.drop p):Nat):Int),5,g,l,d,x,s,b,c,k0,k1,k2,S,((p+twoN (S.drop p):Nat):Int))
   else .inr (g,l,d,x,s,b,(S.drop p).take 2,k0,k1,k2,S,((p+2:Nat):Int))):=by
 unfold jD;rw[O0 n S p h e f];by_cases a:twoN (S.drop p)<2
 ·rw[ae a,ae a];rfl
 ·rw[ab a,ab a];rfl
def Pq(m:Nat)(S:aa)(a:Nat)(h:a<=S.length)(n:S.length<100000)(C:S.length<m+300):
  jm (m+300) S (a:Int)=some (SV S (oh S a)):=by
 have j:∀p,p<=S.length->co (m+300) S (p:Int)=some (.inr (((mkS (S.drop p):Nat):Int),S,((mkE S p:Nat):Int))):=λp hp=>PZ m S p hp n;have b:∀p,mkS (S.drop p)<4:=λp=>BC _;have r:∀p q,dV (m+300) [((mkS (S.drop p):Nat):Int),0,0] [((mkS (S.drop q):Nat):Int),0,0] 1=some (l3 (spM (mkS (S.drop p),0,0) (mkS (S.drop q),0,0)),0):=λp q=>
  vA (m+300) (by omega) 1 (mkS (S.drop p),0,0) (mkS (S.drop q),0,0) (by omega) ⟨b p,by simp,by simp,by simp,by simp⟩ ⟨b q,by simp,by simp,by simp,by simp⟩
 have D:∀p q c e,dV (m+300) [((mkS (S.drop p):Nat):Int),((mkS (S.drop c):Nat):Int),0] [((mkS (S.drop q):Nat):Int),((mkS (S.drop e):Nat):Int),0] 2=some (l3 (spM (mkS (S.drop p),mkS (S.drop c),0) (mkS (S.drop q),mkS (S.drop e),0)),0):=λp q c e=>
  vA (m+300) (by omega) 2 (mkS (S.drop p),mkS (S.drop c),0) (mkS (S.drop q),mkS (S.drop e),0) (by omega) ⟨b p,b c,by simp,by simp,by simp⟩ ⟨b q,b e,by simp,by simp,by simp⟩
 have F:∀p q c e d f,dV (m+300) [((mkS (S.drop p):Nat):Int),((mkS (S.drop c):Nat):Int),((mkS (S.drop d):Nat):Int)] [((mkS (S.drop q):Nat):Int),((mkS (S.drop e):Nat):Int),((mkS (S.drop f):Nat):Int)] 3=some (l3 (spM (mkS (S.drop p),mkS (S.drop c),mkS (S.drop d)) (mkS (S.drop q),mkS (S.drop e),mkS (S.drop f))),0):=λp q c e d f=>
  vA (m+300) (by omega) 3 (mkS (S.drop p),mkS (S.drop c),mkS (S.drop d)) (mkS (S.drop q),mkS (S.drop e),mkS (S.drop f)) (by omega) ⟨b p,b c,b d,by simp,by simp⟩ ⟨b q,b e,b f,by simp,by simp⟩
 have b0:=ke h;unfold jm oh;rw[j a h];simp only[ob,AT];rw[Oe _ _ _ _ _ _ _ _ _ _ _ S (mkE S a) b0 n C];cases I:mO (S.drop (mkE S a))with
 | inl k=>rfl
 | inr y=>
  obtain⟨g,l,dg,x,s,k⟩:=y;have bk:mkE S a+k<=S.length:=by
   have:=(pT I).2.1;rw[bj]at this;omega
  have b1:=ke bk;simp only[ob,d4,d8];rw[j (mkE S a+k) bk];simp only[ob];by_cases hs:0<s
  ·have:decide (((s:Nat):Int)>0)=true:=by simp;omega
   rw[this,ae (.inl hs)];simp only[aj];rw[r];rfl
  ·have:decide (((s:Nat):Int)>0)=false:=by simp;omega
   rw[this];simp only[af];rw[s8 (m+300) 45 S _ b1 n];simp only[ob];by_cases t:dI 45 (S.drop (mkE S (mkE S a+k)))=0
   ·rw[ae (.inr t),t];simp only[show((0:Nat)==1)=false from rfl,gJ,aj,ct];rw[r];rfl
   ·have B:dI 45 (S.drop (mkE S (mkE S a+k)))=1:=(jH 45 _).resolve_left t;have v:=qR t;rw[ab (λz=>z.elim hs t),B];simp only[show((1:Nat)==1)=true from rfl,bV,af];unfold rd2;rw[j _ v];simp only[ob];have H:=ke v;rw[MN _ _ _ _ _ _ _ _ _ _ _ S _ H n C];by_cases w:twoN (S.drop (mkE S (mkE S (mkE S a+k)+1)))<2
    ·rw[ae w,ae w];rfl
    ·rw[ab w,ab w];have b2:=uA w;simp only[ob,d4,d8];rw[j _ b2];simp only[ob];rw[this];simp only[af];have J:=ke b2;rw[s8 (m+300) 45 S _ J n];simp only[ob];by_cases i:dI 45 (S.drop (mkE S (mkE S (mkE S (mkE S a+k)+1)+2)))=0
     ·rw[ae i,i];simp only[show((0:Nat)==1)=false from rfl,gJ,aj,ct];rw[D];rfl
     ·have o:=(jH 45 (S.drop (mkE S (mkE S (mkE S (mkE S a+k)+1)+2)))).resolve_left i;have A:=qR i;rw[ab i,o];simp only[show((1:Nat)==1)=true from rfl,bV,af];unfold rd3;rw[j _ A];simp only[ob];have E:=ke A;rw[LO _ _ _ _ _ _ _ _ _ _ _ S _ E n C];by_cases u:twoN (S.drop (mkE S (mkE S (mkE S (mkE S (mkE S a+k)+1)+2)+1)))<2
      ·rw[ae u,ae u];rfl
      ·rw[ab u,ab u];have G:=uA u;simp only[ob,d4,d8];rw[j _ G];simp only[ob];rw[F];rfl
def PR(S:aa)(P:List Int):Nat⊕DR->Bool×Bool×aa×Int×Int×aa×aa×Int×Int×Int×List Int×aa×Int×Int
 | .inl k=>(false,false,[],0,0,[],[],0,0,0,P,S,(k:Int),5)
 | .inr (g,l,dg,x,s,m,d,M,Q,e)=>(g,l,dg,(x:Int),(s:Int),m,d,(M.1:Int),(M.2.1:Int),(M.2.2:Int),l3 Q,S,(e:Int),0)
abbrev RdSt:=aa×Int×Int×List Int×Bool×Bool×aa×Int×Int×aa×aa×List Int×List Int×List Int×aa×Int×Int
def rdSt(S:aa)(i:Int)(g l:Bool)(dg:aa)(x s:Int)(a b:aa)(P A B:List Int)(p:Nat):RdSt:=
 (S,i,i,[0,0,0],g,l,dg,x,s,a,b,P,A,B,S,(p:Int),0)
def Vz(m:Nat)(S:aa)(a:Nat)(h:a<=S.length)(c:S.length<100000)(e:S.length<m+300):
  aW (m+300) (rdSt S 0 false false [] 0 0 [] [] [0,0,0] [0,0,0] [0,0,0] a)=some (match mO (S.drop (mkE S a))with
   | .inl k=>.inr (.inr (false,false,[],0,0,[],[],0,0,0,[((mkE S a:Nat):Int),0,0],S,((mkE S a+k:Nat):Int),5))
   | .inr y=>.inl (rdSt S 1 y.1 y.2.1 y.2.2.1 (y.2.2.2.1:Int) (y.2.2.2.2.1:Int) [] [] [((mkE S a:Nat):Int),0,0] [((mkS (S.drop a):Nat):Int),0,0] [((mkS (S.drop (mkE S a+y.2.2.2.2.2)):Nat):Int),0,0] (mkE S (mkE S a+y.2.2.2.2.2)))):=by
 have b:∀p,p<=S.length->ed (m+300) S (p:Int) 0=some (((mkS (S.drop p):Nat):Int),S,((mkE S p:Nat):Int),0):=λp hp=>AM m S p hp c 0;have b0:=ke h;unfold aW rdSt;simp only[d4,d8,d16,fA,show(decide ((0:Int)<3))=true from rfl,show(decide ((0:Int)>0))=false from rfl,aj,af,ob];rw[b a h];simp only[ob,show ix 3 0=some 0 from rfl,show Nat.blt 0 3=true from rfl,aj,ft,show((0:Int)==0)=true from rfl];rw[LS (m+300) S (mkE S a) b0 c e];cases d:mO (S.drop (mkE S a))with
 | inl k=>rfl
 | inr y=>
  obtain⟨g,l,dg,x,s,k⟩:=y;have bk:mkE S a+k<=S.length:=by
   have:=(pT d).2.1;rw[bj]at this;omega
  simp only[n7,ob,d4,d8,d16,show((0:Int) != 0)=false from rfl,af];rw[b _ bk];rfl
def Vw(m:Nat)(S:aa)(g l:Bool)(dg:aa)(x s:Nat)(e k j:Int)(q:Nat)(h:q<=S.length)(r:S.length<100000)(t:S.length<m+300):
  aW (m+300) (rdSt S 1 g l dg (x:Int) (s:Int) [] [] [e,0,0] [k,0,0] [j,0,0] q)=some (
   if 0<s\/dI 45 (S.drop q)=0 then .inr (.inl (1,false,false,[],0,0,[],[],0,0,0,[0,0,0],[],0,0,g,l,dg,(x:Int),(s:Int),[],[],0,0,0,[e,0,0],[k,0,0],[j,0,0],S,(q:Int),0))
   else if twoN (S.drop (mkE S (q+1)))<2 then .inr (.inr (false,false,[],0,0,[],[],0,0,0,[e,((mkE S (q+1):Nat):Int),0],S,((mkE S (q+1)+twoN (S.drop (mkE S (q+1))):Nat):Int),5))
   else .inl (rdSt S 2 g l dg (x:Int) (s:Int) ((S.drop (mkE S (q+1))).take 2) [] [e,((mkE S (q+1):Nat):Int),0] [k,((mkS (S.drop (q+1)):Nat):Int),0] [j,((mkS (S.drop (mkE S (q+1)+2)):Nat):Int),0] (mkE S (mkE S (q+1)+2)))):=by
 have o:∀p,p<=S.length->ed (m+300) S (p:Int) 0=some (((mkS (S.drop p):Nat):Int),S,((mkE S p:Nat):Int),0):=λp hp=>AM m S p hp r 0;unfold aW rdSt;simp only[d4,d8,d16,fA,hO,show(decide ((1:Int)<3))=true from rfl,show(decide ((1:Int)>0))=true from rfl,aj,af,ob,kR];by_cases hs:0<s
 ·have:decide (((s:Nat):Int)>0)=true:=by simp;omega
  rw[this,ae (.inl hs)];rfl
 ·have:decide (((s:Nat):Int)>0)=false:=by simp;omega
  rw[this];simp only[af];rcases aF q S.length with i | f
  ·obtain⟨c,hc⟩:∃c,S[q]?=some c:=⟨S[q],bg i⟩;have b:decide (S.length<=q)=false:=by simp;omega
   rw[b];simp only[af,dw hc,ob];have n:(((c.toNat:Nat):Int) != 45)=!(c==45):=by rw[bne];congr 1;exact nc c 45
   rw[n,bK hc,jP];by_cases a:c=45
   ·have w:wrap .i64 ((q:Int)+1)=((q+1:Nat):Int):=by rw[wrap_i64 _ (by omega) (by omega)];omega
    rw[ae a,ab (show¬(0<s\/(1:Nat)=0)fromλz=>z.elim hs (by omega)),a];simp only[ur,bV,af,ob,w];rw[o _ (by omega)];simp only[ob,show ix 3 1=some 1 from rfl,show Nat.blt 1 3=true from rfl,aj,ft,gO,show((1:Int)==0)=false from rfl,show((1:Int)==1)=true from rfl,af];have b1:=ke (show q+1<=S.length by omega);rw[Kv (m+300) (by omega) S _ b1 r 0];by_cases d:twoN (S.drop (mkE S (q+1)))<2
    ·rw[ae d,ae d];rfl
    ·rw[ab d,ab d];simp only[ob,d4,d8,d16,show((0:Int) != 0)=false from rfl,af];rw[o _ (uA d)];rfl
   ·have:(c==45)=false:=aK.2 a;rw[ab a,ae (.inr rfl),this];rfl
  ·have b:decide (S.length<=q)=true:=by simp;omega
   rw[b,iD f,vE,ae (.inr rfl)];rfl
def Vi(m:Nat)(S:aa)(g l:Bool)(dg:aa)(x s:Nat)(t:aa)(f o n e r j:Int)(q:Nat)(h:q<=S.length)(y:S.length<100000)(z:S.length<m+300)(hs:¬0<s):
  aW (m+300) (rdSt S 2 g l dg (x:Int) (s:Int) t [] [f,e,0] [o,r,0] [n,j,0] q)=some (
   if dI 45 (S.drop q)=0 then .inr (.inl (2,false,false,[],0,0,[],[],0,0,0,[0,0,0],[],0,0,g,l,dg,(x:Int),(s:Int),t,[],0,0,0,[f,e,0],[o,r,0],[n,j,0],S,(q:Int),0))
   else if twoN (S.drop (mkE S (q+1)))<2 then .inr (.inr (false,false,[],0,0,[],[],0,0,0,[f,e,((mkE S (q+1):Nat):Int)],S,((mkE S (q+1)+twoN (S.drop (mkE S (q+1))):Nat):Int),5))
   else .inl (rdSt S 3 g l dg (x:Int) (s:Int) t ((S.drop (mkE S (q+1))).take 2) [f,e,((mkE S (q+1):Nat):Int)] [o,r,((mkS (S.drop (q+1)):Nat):Int)] [n,j,((mkS (S.drop (mkE S (q+1)+2)):Nat):Int)] (mkE S (mkE S (q+1)+2)))):=by
 have v:∀p,p<=S.length->ed (m+300) S (p:Int) 0=some (((mkS (S.drop p):Nat):Int),S,((mkE S p:Nat):Int),0):=λp hp=>AM m S p hp y 0;unfold aW rdSt;simp only[d4,d8,d16,fA,hO,show(decide ((2:Int)<3))=true from rfl,show(decide ((2:Int)>0))=true from rfl,aj,af,ob,kR];have:decide (((s:Nat):Int)>0)=false:=by simp;omega
 rw[this];simp only[af];rcases aF q S.length with k | i
 ·obtain⟨c,hc⟩:∃c,S[q]?=some c:=⟨S[q],bg k⟩;have b:decide (S.length<=q)=false:=by simp;omega
  rw[b];simp only[af,dw hc,ob];have u:(((c.toNat:Nat):Int) != 45)=!(c==45):=by rw[bne];congr 1;exact nc c 45
  rw[u,bK hc,jP];by_cases a:c=45
  ·have w:wrap .i64 ((q:Int)+1)=((q+1:Nat):Int):=by rw[wrap_i64 _ (by omega) (by omega)];omega
   rw[ae a,ab (show¬((1:Nat)=0)by omega),a];simp only[ur,bV,af,ob,w];rw[v _ (by omega)];simp only[ob,show ix 3 2=some 2 from rfl,show Nat.blt 2 3=true from rfl,aj,ft,gO,show((2:Int)==0)=false from rfl,show((2:Int)==1)=false from rfl,af];have b1:=ke (show q+1<=S.length by omega);rw[Kv (m+300) (by omega) S _ b1 y 0];by_cases d:twoN (S.drop (mkE S (q+1)))<2
   ·rw[ae d,ae d];rfl
   ·rw[ab d,ab d];simp only[ob,d4,d8,d16,show((0:Int) != 0)=false from rfl,af];rw[v _ (uA d)];rfl
  ·have:(c==45)=false:=aK.2 a;rw[ab a,ae rfl,this];rfl
 ·have b:decide (S.length<=q)=true:=by simp;omega
  rw[b,iD i,vE,ae rfl];rfl
def wR(m:Nat)(S:aa)(a:Nat)(h:a<=S.length)(t:S.length<100000)(u:S.length<m+300):
  ∃P:List Int,P.length=3/\iO (m+300) S (a:Int)=some (PR S P (oh S a)):=by
 have b:∀p,mkS (S.drop p)<4:=λp=>BC _;have o:∀p q,dO (m+300) [((mkS (S.drop p):Nat):Int),0,0] [((mkS (S.drop q):Nat):Int),0,0] 1=some (l3 (spM (mkS (S.drop p),0,0) (mkS (S.drop q),0,0))):=λp q=>
  ui (m+300) (by omega) 1 (mkS (S.drop p),0,0) (mkS (S.drop q),0,0) (by omega) ⟨b p,by simp,by simp,by simp,by simp⟩ ⟨b q,by simp,by simp,by simp,by simp⟩
 have v:∀p q c e,dO (m+300) [((mkS (S.drop p):Nat):Int),((mkS (S.drop c):Nat):Int),0] [((mkS (S.drop q):Nat):Int),((mkS (S.drop e):Nat):Int),0] 2=some (l3 (spM (mkS (S.drop p),mkS (S.drop c),0) (mkS (S.drop q),mkS (S.drop e),0))):=λp q c e=>
  ui (m+300) (by omega) 2 (mkS (S.drop p),mkS (S.drop c),0) (mkS (S.drop q),mkS (S.drop e),0) (by omega) ⟨b p,b c,by simp,by simp,by simp⟩ ⟨b q,b e,by simp,by simp,by simp⟩
 have C:∀p q c e d f,dO (m+300) [((mkS (S.drop p):Nat):Int),((mkS (S.drop c):Nat):Int),((mkS (S.drop d):Nat):Int)] [((mkS (S.drop q):Nat):Int),((mkS (S.drop e):Nat):Int),((mkS (S.drop f):Nat):Int)] 3=some (l3 (spM (mkS (S.drop p),mkS (S.drop c),mkS (S.drop d)) (mkS (S.drop q),mkS (S.drop e),mkS (S.drop f)))):=λp q c e d f=>
  ui (m+300) (by omega) 3 (mkS (S.drop p),mkS (S.drop c),mkS (S.drop d)) (mkS (S.drop q),mkS (S.drop e),mkS (S.drop f)) (by omega) ⟨b p,b c,b d,by simp,by simp⟩ ⟨b q,b e,b f,by simp,by simp⟩
 have b0:=ke h;unfold iO oh;show ∃P:List Int,P.length=3/\ob (au (aW (m+300)) (m+299+1) (rdSt S 0 false false [] 0 0 [] [] [0,0,0] [0,0,0] [0,0,0] a)) _=_;rw[au,Vz m S a h t u];cases G:mO (S.drop (mkE S a))with
 | inl k=>(refine⟨_,?_,rfl⟩;rfl)
 | inr y=>
  obtain⟨g,l,dg,x,s,k⟩:=y;have bk:mkE S a+k<=S.length:=by
   have:=(pT G).2.1;rw[bj]at this;omega
  have b1:=ke bk;show ∃P:List Int,P.length=3/\ob (au (aW (m+300)) (m+298+1) (rdSt S 1 g l dg (x:Int) (s:Int) [] [] [((mkE S a:Nat):Int),0,0] [((mkS (S.drop a):Nat):Int),0,0] [((mkS (S.drop (mkE S a+k)):Nat):Int),0,0] (mkE S (mkE S a+k)))) _=_;rw[au,Vw m S g l dg x s _ _ _ _ b1 t u];simp only[];by_cases hc:0<s\/dI 45 (S.drop (mkE S (mkE S a+k)))=0
  ·rw[ae hc,ae hc];refine⟨[0,0,0],rfl,?_⟩;simp only[ob,d4,d8,d16];rw[o];rfl
  ·rw[ab hc,ab hc];have hs:¬0<s:=λz=>hc (.inl z);have r:=qR (λz=>hc (.inr z));have J:=ke r;unfold rd2;by_cases j:twoN (S.drop (mkE S (mkE S (mkE S a+k)+1)))<2
   ·rw[ae j,ae j];(refine⟨_,?_,rfl⟩;rfl)
   ·rw[ab j,ab j];have b2:=uA j;have H:=ke b2;show ∃P:List Int,P.length=3/\ob (au (aW (m+300)) (m+297+1) (rdSt S 2 g l dg (x:Int) (s:Int) _ [] [_,_,0] [_,_,0] [_,_,0] (mkE S (mkE S (mkE S (mkE S a+k)+1)+2)))) _=_;rw[au,Vi m S g l dg x s _ _ _ _ _ _ _ _ H t u hs];by_cases i:dI 45 (S.drop (mkE S (mkE S (mkE S (mkE S a+k)+1)+2)))=0
    ·rw[ae i,ae i];refine⟨[0,0,0],rfl,?_⟩;simp only[ob,d4,d8,d16];rw[v];rfl
    ·rw[ab i,ab i];have w:=qR i;have I:=ke w;unfold rd3;by_cases n:twoN (S.drop (mkE S (mkE S (mkE S (mkE S (mkE S a+k)+1)+2)+1)))<2
     ·rw[ae n,ae n];(refine⟨_,?_,rfl⟩;rfl)
     ·rw[ab n,ab n];have F:∀(E D:aa) (P A B:List Int) (p:Nat),aW (m+300) (rdSt S 3 g l dg (x:Int) (s:Int) E D P A B p)=some (.inr (.inl (3,false,false,[],0,0,[],[],0,0,0,[0,0,0],[],0,0,g,l,dg,(x:Int),(s:Int),E,D,0,0,0,P,A,B,S,(p:Int),0))):=λ_ _ _ _ _ _=>rfl;show ∃P:List Int,P.length=3/\ob (au (aW (m+300)) (m+296+1) (rdSt S 3 g l dg (x:Int) (s:Int) _ _ _ _ _ _)) _=_;rw[au,F];refine⟨[0,0,0],rfl,?_⟩;simp only[ob,d4,d8,d16];rw[C];rfl
def KI{g l:Bool}{d:aa}{x s:Nat}(h:okY g l d (x:Int) (s:Int)):(nq g l d (x:Int) (s:Int)).length<=25:=by
 have hs:=lh h;have e:=BM 69 (show x<100 by omega);have b:=BM 83 (show s<100 by omega);rw[na];simp only[bW];have a:(if l=true then([89]:aa)else[]).length<=1:=by split<;>simp
 have c:(if g=true then([45]:aa)else[]).length<=1:=by split<;>simp
 omega
def jh(A B:Nat)(w:aa):aa:=mt A++w++mt B
structure OkD(g l:Bool)(dg:aa)(x q:Nat)(m d:aa)(k0 k1 k2:Nat):Prop where
 yr:okY g l dg (x:Int) (q:Int)
 x16:x<=16
 q17:q<=17
 dg17:dg.length<=17
 noM:0<q->m=[]
 mon:m=[]\/(m.length=2/\∀c∈m,isDX c=true)
 day:d=[]\/(m≠[]/\d.length=2/\∀c∈d,isDX c=true)
 m0:k0<4
 m1:k1<4
 m2:k2<4
 z1:mC m d<2->k1=0
 z2:mC m d<3->k2=0
def Ut{g l:Bool}{dg:aa}{x q:Int}{m d:aa}{k0 k1 k2:Int}(y:0<=k0)(B:0<=k1)(w:0<=k2)(h:chkD g l dg x q m d k0 k1 k2=0):
  ∃o n a b c:Nat,x=(o:Int)/\q=(n:Int)/\k0=(a:Int)/\k1=(b:Int)/\k2=(c:Int)/\OkD g l dg o n m d a b c:=by
 obtain⟨hy,f,hd,j⟩:=KW h;unfold yrD at hy;by_cases e:okY g l dg x q
 rotate_left
 ·rw[ab e]at hy;cases hy
 rw[ae e]at hy;obtain⟨p,t,s,u,v,r⟩:=lh e;have hk':¬(3<k0\/3<k1\/3<k2\/(mC m d<2/\k1≠0)\/(mC m d<3/\k2≠0)):=by
  intro z;unfold allM at j;rw[ae z]at j;exact absurd j (by decide)
 refine⟨x.toNat,q.toNat,k0.toNat,k1.toNat,k2.toNat,by omega,by omega,by omega,by omega,by omega,?_⟩;rw[<-Gs p,<-Gs s]at e;refine⟨e,by omega,by omega,r,?_,?_,?_,by omega,by omega,by omega,by omega,by omega⟩
 ·intro A;unfold yrB at hy;have hq':decide (0<q)=true:=by simp;omega
  rw[hq']at hy;by_cases i:m=[]
  ·exact i
  ·have:(m==[])=false:=aK.2 i;rw[this]at hy;simp at hy
 ·rcases f with f | f | f
  ·exact .inl f
  ·exact .inr (I1 f)
  ·exact .inr (qG (by omega) f)
 ·rcases hd with hd | ⟨hd,_,k⟩
  ·exact .inl hd
  ·have:=qG (show 31<=31 by omega) k;exact .inr ⟨hd,this.1,this.2⟩
def Tj{m:aa}(h:m≠[]):mC m []=2:=by unfold mC;rw[aK.2 h];rfl
def O6{m d:aa}(h:m≠[])(a:d≠[]):mC m d=3:=by unfold mC;rw[aK.2 h,aK.2 a];rfl
def nU{d:aa}(h:d.length=2):d≠[]:=by rintro rfl;simp at h
def isMk(c:UInt8):Bool:=decide (0<mkOf c)
def qJ{S u v:aa}{a:Nat}(h:S.drop a=u++v):S.drop (a+u.length)=v:=by
 rw[<-jr,h,Cm];rfl
def Lx{A:Nat}(d:A<4){r:aa}(b:eI isMk r):mkS (mt A++r)=A/\mkN (mt A++r)=(mt A).length:=by
 have a:mkS r=0:=by
  cases r with
  | nil=>rfl
  | cons c r=>
   have:=b c rfl;unfold isMk at this;have:=of_decide_eq_false this;show mkOf c=0;omega
 have h:A=0\/A=1\/A=2\/A=3:=by omega
 rcases h with rfl | rfl | rfl | rfl
 ·refine⟨a,?_⟩;show mkN r=0;unfold mkN;rw[ae a]
 ·exact⟨rfl,rfl⟩
 ·exact⟨rfl,rfl⟩
 ·exact⟨rfl,rfl⟩
def fp{p:UInt8->Bool}{c:UInt8}{r:aa}(h:p c=false):eI p (c::r):=λa hc=>by
 simp only[uB,ar]at hc;rw[<-hc];exact h
def QQ{p:UInt8->Bool}(B:Nat){r:aa}(b:p 63=false)(a:p 126=false)(d:p 37=false)(c:eI p r):eI p (mt B++r):=by
 unfold mt;split
 ·exact fp b
 ·split
  ·exact fp a
  ·split
   ·exact fp d
   ·exact c
def HS{c:UInt8}(h:isDX c=true):isMk c=false:=by
 have:=iJ (λc=>!(isDX c)||!(isMk c)) (by decide +kernel) c;rw[h]at this;simpa using this
def Am{p q:UInt8->Bool}{w r:aa}(b:w≠[])(h:∀c∈w,p c=true)(a:∀c,p c=true->q c=false):eI q (w++r):=by
 cases w with
 | nil=>exact absurd rfl b
 | cons c w=>exact fp (a c (h c rU))
def OF{g l:Bool}{d:aa}{x s:Int}(h:okY g l d x s):∀c∈d,isDX c=true:=by
 intro c hc;unfold okY at h;have:bm c=true\/c=88:=by
  split at h
  ·exact .inl (h.1.1 c hc)
  ·exact h.2.1 c hc
 unfold isDX;rcases this with a | a
 ·rw[a];rfl
 ·rw[a];decide
def GY{g l:Bool}{d:aa}{x s:Nat}(h:okY g l d (x:Int) (s:Int))(r:aa):eI isMk (nq g l d (x:Int) (s:Int)++r):=by
 have a:d≠[]:=by
  have:=(lh h).2.2.2.2.1;rintro rfl;simp at this
 rw[na];cases l with
 | true=>exact fp (by decide)
 | false=>
  cases g with
  | true=>exact fp (by decide)
  | false=>
   simp only[bs,aC,dW,lK];exact Am a (OF h) (λc=>HS)
def sO{S:aa}{p A B:Nat}{w R:aa}(h:S.drop p=jh A B w++R)(g:A<4)(k:B<4)(m:eI isMk (w++(mt B++R)))(i:eI isMk R):
  mkS (S.drop p)=A/\S.drop (mkE S p)=w++(mt B++R)/\mkS (S.drop (mkE S p+w.length))=B/\S.drop (mkE S (mkE S p+w.length))=R/\mkE S (mkE S p+w.length)=p+(jh A B w).length:=by
 have h':S.drop p=mt A++(w++(mt B++R)):=by rw[h];unfold jh;simp
 obtain⟨l,f⟩:=Lx g m;obtain⟨e,j⟩:=Lx k i;have c:mkE S p=p+(mt A).length:=by unfold mkE;rw[h',f]
 have d:S.drop (mkE S p)=w++(mt B++R):=by rw[c];exact qJ h'
 have b:S.drop (mkE S p+w.length)=mt B++R:=qJ d;have a:mkE S (mkE S p+w.length)=mkE S p+w.length+(mt B).length:=by
  show mkE S p+w.length+mkN (S.drop (mkE S p+w.length))=_;rw[b,j]
 refine⟨by rw[h',l],d,by rw[b,e],by rw[a];exact qJ b,?_⟩;rw[a,c];unfold jh;simp only[bW];omega
def Ae{m r:aa}(d:m.length=2)(h:∀c∈m,isDX c=true):twoN (m++r)=2/\(m++r).take 2=m:=by
 match m,d with
 | [a,b],_=>
  have e:=h a (by simp);have f:=h b (by simp);refine⟨?_,rfl⟩;unfold twoN;show bq isDX 2 (a::b::r)=2;simp[bq,e,f]
def rawD(A B:Nat×Nat×Nat)(g l:Bool)(dg:aa)(x q:Int)(m d:aa):aa:=
 jh A.1 B.1 (nq g l dg x q)++((if m=[]then[]else 45::jh A.2.1 B.2.1 m)++(if d=[]then[]else 45::jh A.2.2 B.2.2 d))
structure MkD(A B:Nat×Nat×Nat)(m d:aa):Prop where
 a0:A.1<4
 a1:A.2.1<4
 a2:A.2.2<4
 b0:B.1<4
 b1:B.2.1<4
 b2:B.2.2<4
 zm:m=[]->A.2.1=0/\B.2.1=0
 zd:d=[]->A.2.2=0/\B.2.2=0
structure ShD(g l:Bool)(dg:aa)(x q:Nat)(m d:aa):Prop where
 yr:okY g l dg (x:Int) (q:Int)
 noM:0<q->m=[]
 mon:m=[]\/(m.length=2/\∀c∈m,isDX c=true)
 day:d=[]\/(m≠[]/\d.length=2/\∀c∈d,isDX c=true)
def OkD.sh{g l:Bool}{dg:aa}{x q:Nat}{m d:aa}{k0 k1 k2:Nat}(h:OkD g l dg x q m d k0 k1 k2):ShD g l dg x q m d:=⟨h.yr,h.noM,h.mon,h.day⟩
def MP{A B:Nat×Nat×Nat}{g l:Bool}{dg:aa}{x q:Nat}{m d:aa}(b:ShD g l dg x q m d)(p:MkD A B m d){S:aa}{a:Nat}{post:aa}(h:S.drop a=rawD A B g l dg (x:Int) (q:Int) m d++post)
  (hp1:eI isYC post) (G:eI isMk post) (M:eI (λc=>c==45) post):
  ∃P:Nat×Nat×Nat,P.1=a+(mt A.1).length/\oh S a=.inr (g,l,dg,x,q,m,d,spM A B,P,a+(rawD A B g l dg (x:Int) (q:Int) m d).length):=by
 obtain⟨l0,l1,l2,N,l4,l5,Q,w⟩:=p;obtain⟨k,t,K⟩:=A;obtain⟨j,n,I⟩:=B;simp only at l0 l1 l2 N l4 l5 Q w h;unfold rawD at h ⊢;simp only at h ⊢;have v:isMk 45=false:=by decide
 have y45:isYC 45=false:=by decide
 have L:∀r:aa,eI (λc=>c==45) r->dI 45 r=0:=λr hr=>by
  cases r with
  | nil=>rfl
  | cons c r=>
   have:=hr c rfl;exact nQ (λe=>by rw[e]at this;exact absurd this (by decide)) r
 have hyx:=KN b.yr;have O:=GY b.yr;generalize hY:nq g l dg (x:Int) (q:Int)=Y at *;have y:∀R:aa,S.drop a=jh k j Y++R->eI isYC R->eI isMk R->
   mkE S a=a+(mt k).length/\mkS (S.drop a)=k/\mO (S.drop (mkE S a))=.inr (g,l,dg,x,q,Y.length)/\mkS (S.drop (mkE S a+Y.length))=j/\S.drop (mkE S (mkE S a+Y.length))=R/\mkE S (mkE S a+Y.length)=a+(jh k j Y).length:=by
  intro R hR h1 Z;obtain⟨D,H,E,s,C⟩:=sO hR l0 N (O _) Z;refine⟨?_,D,?_,E,s,C⟩
  ·have hR':S.drop a=mt k++(Y++(mt j++R)):=by rw[hR];unfold jh;simp
   unfold mkE;rw[hR',(Lx l0 (O _)).2]
  rw[H];exact hyx _ (QQ j (by decide) (by decide) (by decide) h1)
 unfold oh;by_cases f:m=[]
 ·have i:d=[]:=b.day.resolve_right (λz=>z.1 f);subst f i;simp only[aH,nW]at h ⊢;obtain⟨w0,D,H,E,s,C⟩:=y post h hp1 G;rw[H];simp only[];rw[s,ae (.inr (L post M)),D,E,C];obtain⟨rfl,rfl⟩:=Q rfl;obtain⟨rfl,rfl⟩:=w rfl;exact⟨_,w0,rfl⟩
 ·have V:¬0<q:=λz=>f (b.noM z);obtain⟨o,F⟩:=b.mon.resolve_left f;rw[ab f]at h ⊢;have p:∀r,eI isMk (m++r):=λr=>Am f F (λc=>HS);by_cases i:d=[]
  ·subst i;rw[ae rfl,nW]at h ⊢;have h':S.drop a=jh k j Y++(45::(jh t n m++post)):=by rw[h];simp
   obtain⟨w0,D,H,E,s,C⟩:=y _ h' (fp y45) (fp v);rw[H];simp only[];rw[s,mL,ab (λz=>z.elim V (by omega)),D,E];unfold rd2;have Z:S.drop (mkE S (mkE S a+Y.length)+1)=jh t n m++post:=qJ (u:=[45]) s;obtain⟨v1,v2,W,J,X⟩:=sO Z l1 l4 (p _) G;obtain⟨T,u2⟩:=Ae (r:=mt n++post) o F;rw[<-v2]at T u2;rw[o]at W J X;rw[T,ab (by omega),J,L post M,ae rfl,u2,v1,W,X,C];obtain⟨rfl,rfl⟩:=w rfl;have:a+(jh k j Y).length+1+(jh t n m).length=a+(jh k j Y++45::jh t n m).length:=by simp only[bW,aP];omega
   rw[this];exact⟨_,w0,rfl⟩
  ·obtain⟨_,hdl,U⟩:=b.day.resolve_left i;rw[ab i]at h ⊢;have hdk:∀r,eI isMk (d++r):=λr=>Am i U (λc=>HS);have h':S.drop a=jh k j Y++(45::(jh t n m++(45::(jh K I d++post)))):=by rw[h];simp
   obtain⟨w0,D,H,E,s,C⟩:=y _ h' (fp y45) (fp v);rw[H];simp only[];rw[s,mL,ab (λz=>z.elim V (by omega)),D,E];unfold rd2;have Z:S.drop (mkE S (mkE S a+Y.length)+1)=jh t n m++(45::(jh K I d++post)):=qJ (u:=[45]) s;obtain⟨v1,v2,W,J,X⟩:=sO Z l1 l4 (p _) (fp v);obtain⟨T,u2⟩:=Ae (r:=mt n++(45::(jh K I d++post))) o F;rw[<-v2]at T u2;rw[o]at W J X;rw[T,ab (by omega),J,mL,ab (by omega),u2,v1,W];unfold rd3;have h3:S.drop (mkE S (mkE S (mkE S (mkE S a+Y.length)+1)+2)+1)=jh K I d++post:=qJ (u:=[45]) J;obtain⟨x1,x2,x3,x4,x5⟩:=sO h3 l2 l5 (hdk _) G;obtain⟨s1,s2⟩:=Ae (r:=mt I++post) hdl U;rw[<-x2]at s1 s2;rw[hdl]at x3 x4 x5;rw[s1,ab (by omega),s2,x1,x3,x5,X,C];have:a+(jh k j Y).length+1+(jh t n m).length+1+(jh K I d).length=a+(jh k j Y++(45::jh t n m++45::jh K I d)).length:=by simp only[bW,aP];omega
   rw[this];exact⟨_,w0,rfl⟩
def PL{A B:Nat×Nat×Nat}(e:A.1<4)(f:A.2.1<4)(d:A.2.2<4)(g0:B.1<4)(c:B.2.1<4)(b:B.2.2<4):(spM A B).1<4/\(spM A B).2.1<4/\(spM A B).2.2<4:=by
 have a:∀x y:Nat,x<4->y<4->x ||| y<4:=λx y hx hy=>(or4 hx hy).2;exact⟨a _ _ (a _ _ (a _ _ e g0) c) b,a _ _ (a _ _ f c) b,a _ _ d b⟩
structure RdOK(S:aa)(a:Nat)(dg m d:aa)(M:Nat×Nat×Nat)(e:Nat):Prop where
 dg17:dg.length<=17
 m2:m.length<=2
 d2:d.length<=2
 all:inM (mC m d) M
 le:a<=e
 end_:e<=S.length
def Ar{S:aa}{a:Nat}(h:a<=S.length){g l:Bool}{dg:aa}{x s:Nat}{m d:aa}{M P:Nat×Nat×Nat}{e:Nat}(b:oh S a=.inr (g,l,dg,x,s,m,d,M,P,e)):RdOK S a dg m d M e:=by
 have c:∀p,mkS (S.drop p)<4:=λp=>BC _;have n:0<4:=by omega
 have b0:=ke h;have g0:a<=mkE S a:=zJ _ _;have o:∀p,p<=mkE S p:=λp=>zJ _ _;unfold oh at b;cases hy:mO (S.drop (mkE S a))with
 | inl k=>rw[hy]at b;cases b
 | inr y=>
  obtain⟨H,L,E,K,s',k⟩:=y;obtain⟨_,bk,_,_,f⟩:=pT hy;have bk:mkE S a+k<=S.length:=by
   rw[bj]at bk;omega
  have b1:=ke bk;rw[hy]at b;simp only[]at b;by_cases hc:0<s'\/dI 45 (S.drop (mkE S (mkE S a+k)))=0
  ·rw[ae hc]at b;cases b;have:=PL (A:=(mkS (S.drop a),0,0)) (B:=(mkS (S.drop (mkE S a+k)),0,0)) (c _) n n (c _) n n;refine⟨f,by simp,by simp,⟨this.1,this.2.1,this.2.2,λ_=>by simp[spM],λ_=>by simp[spM]⟩,?_,b1⟩;have:=o (mkE S a+k);omega
  ·rw[ab hc]at b;have t:=qR (λz=>hc (.inr z));have I:=ke t;unfold rd2 at b;by_cases u:twoN (S.drop (mkE S (mkE S (mkE S a+k)+1)))<2
   ·rw[ae u]at b;cases b
   ·rw[ab u]at b;have b2:=uA u;have D:=ke b2;have i:(List.take 2 (S.drop (mkE S (mkE S (mkE S a+k)+1)))).length=2:=by rw[de,bj];omega
    have N:=o (mkE S a+k);have J:=o (mkE S (mkE S a+k)+1);have Q:=o (mkE S (mkE S (mkE S a+k)+1)+2);by_cases j:dI 45 (S.drop (mkE S (mkE S (mkE S (mkE S a+k)+1)+2)))=0
    ·rw[ae j]at b;cases b;have:=PL (A:=(mkS (S.drop a),mkS (S.drop (mkE S (mkE S a+k)+1)),0)) (B:=(mkS (S.drop (mkE S a+k)),mkS (S.drop (mkE S (mkE S (mkE S a+k)+1)+2)),0)) (c _) (c _) n (c _) (c _) n;refine⟨f,by omega,by simp,⟨this.1,this.2.1,this.2.2,λz=>?_,λ_=>by simp[spM]⟩,by omega,D⟩;rw[Tj (nU i)]at z;omega
    ·rw[ab j]at b;have v:=qR j;have F:=ke v;unfold rd3 at b;by_cases r:twoN (S.drop (mkE S (mkE S (mkE S (mkE S (mkE S a+k)+1)+2)+1)))<2
     ·rw[ae r]at b;cases b
     ·rw[ab r]at b;have w:=uA r;have C:=ke w;have q:(List.take 2 (S.drop (mkE S (mkE S (mkE S (mkE S (mkE S a+k)+1)+2)+1)))).length=2:=by rw[de,bj];omega
      cases b;have O:=o (mkE S (mkE S (mkE S (mkE S a+k)+1)+2)+1);have G:=o (mkE S (mkE S (mkE S (mkE S (mkE S a+k)+1)+2)+1)+2);have:=PL (A:=(mkS (S.drop a),mkS (S.drop (mkE S (mkE S a+k)+1)),mkS (S.drop (mkE S (mkE S (mkE S (mkE S a+k)+1)+2)+1)))) (B:=(mkS (S.drop (mkE S a+k)),mkS (S.drop (mkE S (mkE S (mkE S a+k)+1)+2)),mkS (S.drop (mkE S (mkE S (mkE S (mkE S (mkE S a+k)+1)+2)+1)+2)))) (c _) (c _) (c _) (c _) (c _) (c _);refine⟨f,by omega,by omega,⟨this.1,this.2.1,this.2.2,λz=>?_,λz=>?_⟩,by omega,C⟩
      ·rw[O6 (nU i) (nU q)]at z;omega
      ·rw[O6 (nU i) (nU q)]at z;omega
def I4{g l:Bool}{dg:aa}{x q:Int}{m d:aa}{k0 k1 k2:Int}(a:allM k0 k1 k2 (mC m d)=0):chkD g l dg x q m d k0 k1 k2=0\/chkD g l dg x q m d k0 k1 k2=6\/chkD g l dg x q m d k0 k1 k2=7\/chkD g l dg x q m d k0 k1 k2=8:=by
 unfold chkD;rw[a];generalize yrD g l dg x q m=b1;generalize(!(m==[])&&(!(decide (0<sea m))&&!(gK m 12)))=b2;generalize(!(d==[])&&((m==[])||(decide (0<sea m)||!(gK d 31))))=b;cases b1<;>cases b2<;>cases b<;>simp
def tD{p:UInt8->Bool}:eI p []:=λc hc=>by cases hc
def Jr(n:Nat)(g l:Bool)(dg:aa)(x q:Int)(m d:aa)(k0 k1 k2:Int)(a:m.length<=18):ba n g l dg x q m d k0 k1 k2=some (if d=[]then(if 0<sea m then 0 else if m=[]then 1 else 2)else 3):=by
 unfold ba;rw[qk n g l dg x q m d k0 k1 k2 a];by_cases hd:d=[]
 ·rw[ae hd,hd];show cond (decide (0<sea m)) _ _=_;rw[bB];by_cases hs:0<sea m
  ·rw[ae hs,ae hs]
  ·rw[ab hs,ab hs];by_cases a:m=[]
   ·rw[ae a,a];rfl
   ·rw[ab a,aK.2 a];rfl
 ·rw[ab hd,aK.2 hd];rfl
def uX(a b:aa):hasX (a++b)=(hasX a||hasX b):=by unfold hasX;rw[rl]
def B8(n:Nat)(g l:Bool)(dg:aa)(x q:Int)(m d:aa)(k0 k1 k2:Int)(a:m.length<=1000)(hd:dg.length<=1000)(h:d.length<=1000):
  eC n g l dg x q m d k0 k1 k2=some (hasX dg||(hasX m||hasX d)):=by
 unfold eC;rw[nV (by omega)];simp only[ob];rw[nV (by simp only[bW];omega)];simp only[ob];rw[CH,uX,uX,Bool.or_assoc]
end Go.Sh
