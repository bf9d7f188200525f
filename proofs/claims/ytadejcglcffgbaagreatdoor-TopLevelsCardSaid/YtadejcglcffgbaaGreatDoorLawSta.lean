
import Derived.Laws.RangeString
import Derived.Laws.RangeAny
import Derived.Test.YtadejcglcffgbaaGreatDoorShT
import Derived.Lib.IndexLaws
import Derived.Test.YtadejcglcffgbaaGreatDoorAbsZ
set_option linter.unusedVariables false
set_option linter.unusedSimpArgs false
set_option maxRecDepth 100000
open Go.IntKind(wrap)
set_option linter.defProp false
namespace Go.Sh
open Go.Abs
def gy{X Y:Type}{step:X->Option (X⊕Y)}(I:X->Prop)(b:X->Nat)(G:X->Y)
  (h:∀x,I x->(∃a,step x=some (.inl a)/\I a/\b a<b x/\G a=G x)\/step x=some (.inr (G x))):
  ∀(n:Nat) (x:X),I x->b x<n->av step n x=some (G x)
 | 0,x,_,e=>by omega
 | n+1,x,hx,e=>by
  rcases h x hx with⟨a,c,d,g,f⟩ | c
  ·simp only[av,c];rw[gy I b G h n a d (by omega),f]
  ·simp only[av,c]
def pQ{X Y:Type}{step:X->Option (X⊕Y)}(I:X->Prop)(b:X->Nat)(Q:Y->Prop)
  (h:∀x,I x->(∃a,step x=some (.inl a)/\I a/\b a<b x)\/∃y,step x=some (.inr y)/\Q y):
  ∀(n:Nat) (x:X),I x->b x<n->∃y,av step n x=some y/\Q y
 | 0,x,_,e=>by omega
 | n+1,x,hx,e=>by
  rcases h x hx with⟨a,d,c,f⟩ | ⟨y,d,c⟩
  ·simp only[av,d];exact pQ I b Q h n a c (by omega)
  ·exact⟨y,by simp only[av,d],c⟩
def AK(x:Int):0<=wrap .u8 x/\wrap .u8 x<256:=by
 show 0<=x%256/\x%256<256;omega
def gK(x:Int)(b:0<=x)(a:x<256):wrap .u8 x=x:=by
 show x%256=x;omega
def JI(x:Int):wrap .u8 x=x%256:=rfl
def wrap_i64(x:Int)(b:-9223372036854775808<=x)(a:x<9223372036854775808):wrap .i64 x=x:=by
 simp only[wrap,IntKind.signed,IntKind.bits];simp;omega
def lj{l:aa}{i:Nat}{c:UInt8}(h:l[i]?=some c):sx l (i:Int)=some c:=by
 simp[sx,h]
def cT{n i:Nat}(h:i<n):ix n (i:Int)=some i:=by
 simp[ix];omega
def eM{n i:Nat}(h:i<=n):bx n (i:Int)=some i:=by
 simp[bx];omega
def Cc{l:aa}{i:Nat}{c:UInt8}(h:l[i]?=some c)(hc:c.toNat<128):dec l i=(c.toNat,1):=by
 have hlt:i<l.length:=by
  rcases aJ i l.length with h' | h'
  ·exact h'
  ·rw[f7 h']at h;cases h
 have hs:i<(ByteArray.mk l.toArray).size:=hlt;have hg:(ByteArray.mk l.toArray)[i]'hs=c:=by
  rw[bu hlt]at h;simp only[aq]at h;exact h
 unfold dec;rw[decode_ascii _ i hs (by rw[hg];exact hc),hg]
def IU{l:aa}{i:Nat}{c:UInt8}(h:l[i]?=some c)(hc:128<=c.toNat):128<=(dec l i).1/\1<=(dec l i).2:=by
 have hlt:i<l.length:=by
  rcases aJ i l.length with h' | h'
  ·exact h'
  ·rw[f7 h']at h;cases h
 have hs:i<(ByteArray.mk l.toArray).size:=hlt;have hg:(ByteArray.mk l.toArray)[i]'hs=c:=by
  rw[bu hlt]at h;simp only[aq]at h;exact h
 unfold dec;exact decode_high _ i hs (by rw[hg];exact hc)
def xx{α:Type}{l:List α}{i:Nat}{c:α}(h:l[i]?=some c):i<l.length:=by
 rcases aJ i l.length with a | a
 ·exact a
 ·rw[f7 a]at h;cases h
def gm{α:Type}{l:List α}{i:Nat}{c:α}(h:l[i]?=some c):l.drop i=c::l.drop (i+1):=by
 have a:=xx h;rw[bu a]at h;simp only[aq]at h;rw[<-h,rD a]
def gZ{α β:Type}[BEq α][LawfulBEq α][DecidableEq α](a b:α)(x y:β):(cond (a==b) x y)=if a=b then x else y:=by
 by_cases h:a=b
 ·subst h;simp
 ·rw[aK.2 h];simp[h]
def wC{α β:Type}[BEq α][LawfulBEq α][DecidableEq α](a b:α)(x y:β):(cond (a != b) x y)=if a=b then y else x:=by
 by_cases h:a=b
 ·subst h;simp
 ·rw[bne,aK.2 h];simp[h]
def bW{β:Type}(p:Prop)[Decidable p](x y:β):(cond (decide p) x y)=if p then x else y:=by
 by_cases h:p<;>simp[h]
def Jh{β:Type}(b:Bool)(x y:β):(cond (!b) x y)=cond b y x:=by cases b<;>rfl
def nR(a b:Nat):(decide (((a:Nat):Int)<((b:Nat):Int)))=decide (a<b):=by
 by_cases h:a<b<;>simp[h]
def Kp(a b:Nat):(decide (((a:Nat):Int)>=((b:Nat):Int)))=decide (b<=a):=by
 by_cases h:b<=a<;>simp[h]
def zr(c d:UInt8):((((c.toNat:Nat):Int))==((d.toNat:Nat):Int))=(c==d):=by
 by_cases h:c=d
 ·subst h;simp
 ·have b:c.toNat≠d.toNat:=λe=>h (iE.1 e);have a:((c.toNat:Nat):Int)≠((d.toNat:Nat):Int):=by omega
  rw[aK.2 a,aK.2 h]
def Zw(c:UInt8):UInt8.ofNat (Int.toNat ((c.toNat:Nat):Int))=c:=by simp
def two(c:Nat):aa:=[UInt8.ofNat (48+c / 10),UInt8.ofNat (48+c%10)]
def sea(m:aa):Int:=match(List.range 21).find? (λj=>m==two (21+j))with | some j=>((21+j:Nat):Int) | none=>0
def ll{j:Nat}(a:j<21):sea (two (21+j))=((21+j:Nat):Int):=by
 have:((List.range 21).all λj=>sea (two (21+j))==((21+j:Nat):Int))=true:=by decide +kernel
 simpa using(List.all_eq_true.1 this) j (by simpa using a)
def pU(m:aa):sea m=0\/∃j,j<21/\m=two (21+j):=by
 unfold sea;split
 ·rename_i j h;have b:=List.find?_some h;have a:=List.mem_of_find?_eq_some h;exact .inr ⟨j,by simpa using a,by simpa using b⟩
 ·exact .inl rfl
def qw{b:UInt8}{d:Nat}(h:Lib.digitVal b=some d):d<10/\b.toNat=48+d:=by
 unfold Lib.digitVal at h;split at h
 ·cases h;omega
 ·cases h
def Pv{a b:UInt8}{v:Int}(h:Lib.atoi [a,b]=some v)(p:21<=v)(o:v<42):∃j,j<21/\[a,b]=two (21+j)/\v=((21+j:Nat):Int):=by
 obtain⟨b0,r,e,l⟩:=Lib.atoi_cases h;cases e;rcases l with⟨_,m,_,_,i⟩ | ⟨_,m,_,c,i⟩ | ⟨_,_,m,c,i⟩
 ·omega
 ·simp only[Lib.decFrom]at c;split at c
  ·rename_i d f;have:=(qw f).1;simp only[aq]at c;omega
  ·cases c
 ·simp only[Lib.decFrom]at c;split at c
  ·rename_i d f;split at c
   ·rename_i d' g;obtain⟨k1,k2⟩:=qw f;obtain⟨k3,k4⟩:=qw g;simp only[aq]at c;refine⟨m - 21,by omega,?_,by omega⟩;have n:(21+(m - 21)) / 10=d:=by omega
    have k:(21+(m - 21))%10=d':=by omega
    unfold two;rw[n,k,<-k2,<-k4];simp
   ·cases c
  ·cases c
def yW{j:Nat}(a:j<21):Lib.atoi (two (21+j))=some ((21+j:Nat):Int):=by
 have:((List.range 21).all λj=>Lib.atoi (two (21+j))==some ((21+j:Nat):Int))=true:=by decide +kernel
 simpa using(List.all_eq_true.1 this) j (by simpa using a)
def o8(n:Nat)(g l:Bool)(dg:aa)(x q:Int)(m d:aa)(k0 k1 k2:Int)(o:m.length<=18):bn n g l dg x q m d k0 k1 k2=some (sea m,decide (0<sea m)):=by
 have f:Nat.ble m.length 18=true:=cD o;rcases pU m with h | ⟨j,c,rfl⟩
 ·unfold bn;rw[f,h];show opt (Lib.atoi m) _ _=_;cases k:Lib.atoi m with
  | none=>rfl
  | some v=>
   show cond _ _ _=_;by_cases i:m.length=2
   ·rw[i];obtain⟨a,b,rfl⟩:∃a b,m=[a,b]:=by
     match m,i with
     | [a,b],_=>exact⟨a,b,rfl⟩
    show ob (dT n v) _=_;unfold dT;rw[bW,bW];split
    ·rfl
    ·split
     ·rfl
     ·exfalso;obtain⟨j,c,e,_⟩:=Pv k (by omega) (by omega);rw[e,ll c]at h;omega
   ·rw[show(((m.length:Nat):Int) != 2)=true by simp;omega];rfl
 ·rw[ll c];have e:bn n g l dg x q (two (21+j)) d k0 k1 k2=some (((21+j:Nat):Int),true):=by
   unfold bn;rw[f,yW c];show ob (dT n ((21+j:Nat):Int)) _=_;unfold dT;rw[bW,bW,ab (by omega),ab (by omega)];rfl
  rw[e];have:decide (0<((21+j:Nat):Int))=true:=by simp;omega
  rw[this]
def NG(n:Nat){c:Nat}(hc:c<100):aX n (c:Int)=some (two c):=by
 have g:Int.tdiv (c:Int) 10=((c / 10:Nat):Int):=by
  rw[show(10:Int)=((10:Nat):Int)from rfl,<-Int.ofNat_tdiv]
 have f:Int.tmod (c:Int) 10=((c%10:Nat):Int):=by
  rw[show(10:Int)=((10:Nat):Int)from rfl,<-Int.ofNat_tmod]
 have i:c / 10<10:=by omega
 have d:c%10<10:=by omega
 unfold aX;rw[g,f];have k:wrap .i64 ((c / 10:Nat):Int)=((c / 10:Nat):Int):=wrap_i64 _ (by omega) (by omega);have e:wrap .i64 (((c / 10:Nat):Int)+1)=((c / 10+1:Nat):Int):=by rw[wrap_i64 _ (by omega) (by omega)];omega
 have h:wrap .i64 (((c%10:Nat):Int)+1)=((c%10+1:Nat):Int):=by rw[wrap_i64 _ (by omega) (by omega)];omega
 rw[k,e,h,eM (by omega),eM (by omega)];show ob (bx (c / 10+1) ((c / 10:Nat):Int)) _=_;rw[eM (by omega)];show ob (bx (c%10+1) ((c%10:Nat):Int)) _=_;rw[eM (by omega)];unfold two;generalize c / 10=a at *;generalize c%10=b at *;have:((List.range 10).all λa=>(List.range 10).all λb=>ob (cat (List.drop a (List.take (a+1) ([48,49,50,51,52,53,54,55,56,57]:aa))) (List.drop b (List.take (b+1) ([48,49,50,51,52,53,54,55,56,57]:aa)))) (λs=>some s)==some [UInt8.ofNat (48+a),UInt8.ofNat (48+b)])=true:=by decide +kernel
 have j:=(bS.1 ((bS.1 this) a (by simpa using i))) b (by simpa using d);simpa using j
def Qv{m:aa}(h:∀j,j<21->m≠two (21+j)):sea m=0:=by
 rcases pU m with b | ⟨j,a,e⟩
 ·exact b
 ·exact absurd e (h j a)
def wJ(n:Nat)(g l:Bool)(dg:aa)(x q:Int)(m d:aa)(k0 k1 k2:Int):∀(r j:Nat),j+r=21->(∀i,i<j->m≠two (21+i))->∀N,r<N->
  av (bN n) N (((21+j:Nat):Int),g,l,dg,x,q,m,d,k0,k1,k2)=some (if sea m=0 then .inr ()else .inl (sea m)):=by
 intro r
 induction r with
 | zero=>
  intro j c a N e;obtain⟨N,rfl⟩:∃k,N=k+1:=⟨N - 1,by omega⟩;have hs:sea m=0:=Qv (λi hi=>a i (by omega));rw[av];have:bN n (((21+j:Nat):Int),g,l,dg,x,q,m,d,k0,k1,k2)=some (.inr (.inr ())):=by
   unfold bN;rw[bW,ab (by show¬(((21+j:Nat):Int)<=41);omega)]
  rw[this,ae hs]
 | succ r ih=>
  intro j c a N e;obtain⟨N,rfl⟩:∃k,N=k+1:=⟨N - 1,by omega⟩;rw[av];by_cases b:m=two (21+j)
  ·have hs:sea m=((21+j:Nat):Int):=by rw[b];exact ll (by omega)
   have:bN n (((21+j:Nat):Int),g,l,dg,x,q,m,d,k0,k1,k2)=some (.inr (.inl ((21+j:Nat):Int))):=by
    unfold bN;rw[bW,ae (by show((21+j:Nat):Int)<=41;omega)];show ob (aX n ((21+j:Nat):Int)) _=_;rw[NG n (by omega)];show cond (m==two (21+j)) _ _=_;rw[gZ,ae b]
   rw[this,hs,ab (by omega)]
  ·have:bN n (((21+j:Nat):Int),g,l,dg,x,q,m,d,k0,k1,k2)=some (.inl (((21+(j+1):Nat):Int),g,l,dg,x,q,m,d,k0,k1,k2)):=by
    unfold bN;rw[bW,ae (by show((21+j:Nat):Int)<=41;omega)];show ob (aX n ((21+j:Nat):Int)) _=_;rw[NG n (by omega)];show cond (m==two (21+j)) _ _=_;rw[gZ,ab b];have:wrap .i64 (((21+j:Nat):Int)+1)=((21+(j+1):Nat):Int):=by rw[wrap_i64 _ (by omega) (by omega)];omega
    show some (Sum.inl (wrap .i64 (((21+j:Nat):Int)+1),_))=_;rw[this]
   rw[this]
   exact ih (j+1) (by omega) (λi hi=>by
    rcases aJ i j with h | h
    ·exact a i h
    ·have:i=j:=by omega
     rw[this];exact b) N (by omega)
def nK(n:Nat)(a:100<n)(g l:Bool)(dg:aa)(x q:Int)(m d:aa)(k0 k1 k2:Int):aQ n g l dg x q m d k0 k1 k2=some (sea m):=by
 unfold aQ;have:=wJ n g l dg x q m d k0 k1 k2 21 0 rfl (λi hi=>absurd hi (by omega)) n (by omega);rw[show((21+0:Nat):Int)=21 from rfl]at this;rw[this];by_cases h:sea m=0
 ·rw[ae h,h];rfl
 ·rw[ab h];rfl
def agr(s:aa)(k:Nat):Bool:=match s with
 | [a,b]=>(a==88||a==UInt8.ofNat (48+k / 10))&&(b==88||b==UInt8.ofNat (48+k%10))
 | _=>false
def ei(s:aa)(g:Nat):Bool:=(List.range g).any λi=>agr s (i+1)
def Ik{X Y:Type}{step:X->Option (X⊕Y)}{f:Nat->X}{p:Nat->Bool}{g:Nat}{yes no:Y}(h:∀k,1<=k->k<=g->step (f k)=some (if p k then .inr yes else .inl (f (k+1))))(d:step (f (g+1))=some (.inr no)){N:Nat}(b:g<N):
  av step N (f 1)=some (if(List.range g).any (λi=>p (i+1))then yes else no):=by
 have e:∀(r j:Nat),j+r=g->(∀i,i<j->p (i+1)=false)->∀N,r<N->av step N (f (j+1))=some (if(List.range g).any (λi=>p (i+1))then yes else no):=by
  intro r
  induction r with
  | zero=>
   intro j c a N b;obtain⟨N,rfl⟩:∃k,N=k+1:=⟨N - 1,by omega⟩;have:(List.range g).any (λi=>p (i+1))=false:=by
    rw[sW];intro i hi;rw[a i (by have:=ju.1 hi;omega)];simp
   rw[av,show j+1=g+1 by omega,d,this];rfl
  | succ r ih=>
   intro j c a N b;obtain⟨N,rfl⟩:∃k,N=k+1:=⟨N - 1,by omega⟩;rw[av,h (j+1) (by omega) (by omega)];cases hp:p (j+1)with
   | true=>
    have:(List.range g).any (λi=>p (i+1))=true:=sX.2 ⟨j,ju.2 (by omega),hp⟩;rw[this];rfl
   | false=>
    exact ih (j+1) (by omega) (λi hi=>by
     rcases aJ i j with h | h
     ·exact a i h
     ·have:i=j:=by omega
      rw[this];exact hp) N (by omega)
 exact e g 0 (by omega) (λi hi=>absurd hi (by omega)) N b
def vB{a:UInt8}{k:Nat}(b:k<256):((((a.toNat:Nat):Int))==((k:Nat):Int))=(a==UInt8.ofNat k):=by
 have h:(UInt8.ofNat k).toNat=k:=by simp;omega
 rw[<-zr,h]
def P2(n:Nat)(a b:UInt8){g k:Nat}(r:1<=k)(q:k<=g)(s:g<=31):
  dC n ([a,b],(g:Int),(k:Int))=some (if agr [a,b] k then .inr (.inl true)else .inl ([a,b],(g:Int),((k+1:Nat):Int))):=by
 have j:Int.tdiv (k:Int) 10=((k / 10:Nat):Int):=by
  rw[show(10:Int)=((10:Nat):Int)from rfl,<-Int.ofNat_tdiv]
 have e:Int.tmod (k:Int) 10=((k%10:Nat):Int):=by
  rw[show(10:Int)=((10:Nat):Int)from rfl,<-Int.ofNat_tmod]
 have o:wrap .u8 (48+wrap .u8 (wrap .i64 (Int.tdiv (k:Int) 10)))=((48+k / 10:Nat):Int):=by
  rw[j,wrap_i64 _ (by omega) (by omega),gK ((k / 10:Nat):Int) (by omega) (by omega),gK _ (by omega) (by omega)];omega
 have d:wrap .u8 (48+wrap .u8 (Int.tmod (k:Int) 10))=((48+k%10:Nat):Int):=by
  rw[e,gK ((k%10:Nat):Int) (by omega) (by omega),gK _ (by omega) (by omega)];omega
 have h:wrap .i64 ((k:Int)+1)=((k+1:Nat):Int):=by rw[wrap_i64 _ (by omega) (by omega)];omega
 have c:(88:Int)=((88:Nat):Int):=rfl;have s0:sx [a,b] 0=some a:=rfl;have i:sx [a,b] 1=some b:=rfl;unfold dC;rw[bW,ae (show(k:Int)<=(g:Int)by omega)];simp only[s0,i,ob,o,d,h];rw[c,vB (by omega),vB (by omega),vB (by omega),vB (by omega)];show _=some (if((a==UInt8.ofNat 88||a==UInt8.ofNat (48+k / 10))&&(b==UInt8.ofNat 88||b==UInt8.ofNat (48+k%10)))=true then _ else _);generalize(a==UInt8.ofNat 88)=l;generalize(b==UInt8.ofNat 88)=p;generalize(a==UInt8.ofNat (48+k / 10))=m;generalize(b==UInt8.ofNat (48+k%10))=f;cases l<;>cases p<;>cases m<;>cases f<;>rfl
def Dz(n:Nat)(m:100<n)(s:aa)(g:Nat)(j:g<=31):dn n s (g:Int)=some (ei s g):=by
 unfold dn;by_cases c:s.length=2
 ·obtain⟨a,b,rfl⟩:∃a b,s=[a,b]:=by
   match s,c with
   | [a,b],_=>exact⟨a,b,rfl⟩
  have l:dC n ([a,b],(g:Int),((g+1:Nat):Int))=some (.inr (.inr ())):=by
   unfold dC;rw[bW,ab (show¬((g+1:Nat):Int)<=(g:Int)by omega)]
  have:=Ik (f:=λk=>([a,b],(g:Int),((k:Nat):Int))) (p:=agr [a,b]) (g:=g) (N:=n) (λk e d=>P2 n a b e d j) l (by omega);show ob (av (dC n) n ([a,b],(g:Int),((1:Nat):Int))) _=_;rw[this];unfold ei;split<;>simp_all[ob]
 ·rw[show(((s.length:Nat):Int) != 2)=true by simp;omega];have:ei s g=false:=by
   unfold ei;rw[sW];intro i _
   match s,c with
   | [],_=>simp[agr]
   | [_],_=>simp[agr]
   | [_,_],h=>exact absurd rfl h
   | _::_::_::_,_=>simp[agr]
  rw[this];rfl
def vo(n:Nat)(s:aa)(k:Nat)(l:k<100):eC n s (k:Int)=some (if agr s k then 1 else 0):=by
 unfold eC;rw[NG n l];show cond _ _ _=_;by_cases d:s.length=2
 ·obtain⟨a,b,rfl⟩:∃a b,s=[a,b]:=by
   match s,d with
   | [a,b],_=>exact⟨a,b,rfl⟩
  have s0:sx [a,b] 0=some a:=rfl;have g:sx [a,b] 1=some b:=rfl;have e:sx (two k) 0=some (UInt8.ofNat (48+k / 10)):=rfl;have m:sx (two k) 1=some (UInt8.ofNat (48+k%10)):=rfl;have c:(88:Int)=((88:Nat):Int):=rfl;rw[show(((([a,b]:aa).length:Nat):Int)==2)=true from rfl];simp only[s0,g,e,m,ob,aj];rw[c,vB (by omega),vB (by omega),zr,zr];show _=some (if((a==UInt8.ofNat 88||a==UInt8.ofNat (48+k / 10))&&(b==UInt8.ofNat 88||b==UInt8.ofNat (48+k%10)))=true then _ else _);generalize(a==UInt8.ofNat 88)=i;generalize(b==UInt8.ofNat 88)=o;generalize(a==UInt8.ofNat (48+k / 10))=j;generalize(b==UInt8.ofNat (48+k%10))=f;cases i<;>cases o<;>cases j<;>cases f<;>rfl
 ·rw[show(((s.length:Nat):Int)==2)=false by simp;omega];have:agr s k=false:=by
   match s,d with
   | [],_=>rfl
   | [_],_=>rfl
   | [_,_],h=>exact absurd rfl h
   | _::_::_::_,_=>rfl
  rw[this];rfl
def Im(n:Nat)(e:100<n)(s:aa)(g:Nat)(h:g<=31):dP n s (g:Int)=some (if ei s g then 1 else 0):=by
 unfold dP;have b:dN n (s,(g:Int),((g+1:Nat):Int))=some (.inr (.inr ())):=by
  unfold dN;rw[bW,ab (show¬((g+1:Nat):Int)<=(g:Int)by omega)]
 have:=Ik (f:=λk=>(s,(g:Int),((k:Nat):Int))) (p:=agr s) (g:=g) (N:=n) (step:=dN n) (yes:=.inl 1) (no:=.inr ()) (λk d c=>by
  unfold dN;rw[bW,ae (show(k:Int)<=(g:Int)by omega)];show ob (eC n s (k:Int)) _=_;rw[vo n s k (by omega)];have a:wrap .i64 ((k:Int)+1)=((k+1:Nat):Int):=by rw[wrap_i64 _ (by omega) (by omega)];omega
  simp only[ob,a];cases agr s k<;>rfl) b (by omega)
 show ob (av (dN n) n (s,(g:Int),((1:Nat):Int))) _=_;rw[this];unfold ei;split<;>simp_all[ob]
def yX(n:Nat){a b:Int}(s:1<b)(m:b<1000000)(t:-4611686018427387904<=a)(r:a<4611686018427387904):mi n a b=some (a / b,0):=by
 have j:(b==0)=false:=by simp;omega
 have o:(b==-1)=false:=by simp;omega
 unfold mi;simp only[j,o,af];have u:a / b*b+a%b=a:=Int.ediv_mul_add_emod a b;have v:=O5 a (show b≠0 by omega);have p:=MB a (show 0<b by omega);have k:-4611686018427387904<=a / b:=by
  rw[Int.le_ediv_iff_mul_le (by omega)];have:(-4611686018427387904:Int)*b<=-4611686018427387904*1:=Int.mul_le_mul_of_nonpos_left (by omega) (by omega);omega
 have q:a / b<4611686018427387904:=by
  rw[Int.ediv_lt_iff_lt_mul (by omega)];have:(4611686018427387904:Int)*1<=4611686018427387904*b:=Int.mul_le_mul_of_nonneg_left (by omega) (by omega);omega
 by_cases f:0<=a
 ·have d:Int.tdiv a b=a / b:=SH f;have e:decide (a<0)=false:=by simp;omega
  have d2:decide (b<0)=false:=by simp;omega
  rw[d,e,d2,wrap_i64 (a / b) (by omega) (by omega)];cases(Int.tmod a b != 0)<;>rfl
 ·have e:decide (a<0)=true:=by simp;omega
  have d2:decide (b<0)=false:=by simp;omega
  have d:=Int.tdiv_eq_ediv (a:=a) (b:=b);have i:=K3 (a:=a) (b:=b);rw[e,d2];by_cases c:b∣a
  ·have g:Int.tmod a b=0:=by
    rw[i,ae (.inr c)];have:=Int.emod_eq_zero_of_dvd c;omega
   rw[g,d,ae (.inr c)];rw[Int.add_zero,wrap_i64 (a / b) (by omega) (by omega)];rfl
  ·have l:a%b≠0:=λh=>c (MV h);have g:(Int.tmod a b != 0)=true:=by
    rw[i,ab (by rintro(h | h);exact f h;exact c h)];simp;omega
   have hs:b.sign=1:=Int.sign_eq_one_of_pos (by omega);rw[g,d,ab (by rintro(h | h);exact f h;exact c h),hs];rw[wrap_i64 (a / b+1) (by omega) (by omega),Int.add_sub_cancel,wrap_i64 (a / b) (by omega) (by omega)];rfl
def Xh(n:Nat){a b:Int}(m:1<b)(i:b<1000000):wu n a b=some (a%b,0):=by
 have e:(b==0)=false:=by simp;omega
 have g:(b==-1)=false:=by simp;omega
 unfold wu;simp only[e,g,af];have o:=O5 a (show b≠0 by omega);have j:=MB a (show 0<b by omega);have c:=K3 (a:=a) (b:=b);have d2:decide (b<0)=false:=by simp;omega
 by_cases hc:0<=a\/b∣a
 ·rw[ae hc]at c;have:Int.tmod a b=a%b:=by omega
  rw[this,d2];have d:decide (a%b<0)=false:=by simp;omega
  rw[d];cases h:(a%b != 0)
  ·rfl
  ·rfl
 ·rw[ab hc]at c;have k:(b.natAbs:Int)=b:=by omega
  rw[k]at c;have f:a%b≠0:=λh=>hc (.inr (MV h));have l:(Int.tmod a b != 0)=true:=by simp;omega
  have d:decide (Int.tmod a b<0)=true:=by simp;omega
  rw[l,d,d2,c,wrap_i64 _ (by omega) (by omega),OF];rfl
def ej(y:Int):Prop:=-10000000000000000<=y/\y<=10000000000000000
instance (y:Int):Decidable (ej y):=by unfold ej;infer_instance
def gG(n:Nat)(y:Int):jt n y=some (if ej y then 0 else 6):=by
 unfold jt;rw[bW,bW];by_cases a:y < -10000000000000000
 ·rw[ae a,ab (show¬ej y by unfold ej;omega)]
 ·by_cases b:y>10000000000000000
  ·rw[ab a,ae b,ab (show¬ej y by unfold ej;omega)]
  ·rw[ab a,ab b,ae (show ej y by unfold ej;omega)]
def tA(n:Nat){y:Int}(h:-20000000000000000<=y/\y<=20000000000000000):∃z,fM n y=some z:=by
 unfold fM;rw[wrap_i64 (y - 1) (by omega) (by omega),yX n (by omega) (by omega) (by omega) (by omega),yX n (by omega) (by omega) (by omega) (by omega),yX n (by omega) (by omega) (by omega) (by omega)];exact⟨_,rfl⟩
def KJ(n:Nat){y:Int}(h:ej y):∃b e,kG n y=some (b,e):=by
 unfold kG;have h':=h;unfold ej at h';obtain⟨z1,c⟩:=tA n (y:=y+1) (by omega);obtain⟨z2,a⟩:=tA n (y:=y) (by omega);rw[gG,ae h,wrap_i64 (y+1) (by omega) (by omega),c,a];exact⟨_,_,rfl⟩
def tj(n:Nat){y:Int}(h:ej y){m:Nat}(d:1<=m)(c:m<=12):∃v,eP n y (m:Int)=some v:=by
 unfold eP;obtain⟨b,e,a⟩:=KJ n h;rw[a];show ∃v,cond (b&&((m:Int)==2)) _ _=some v;cases(b&&((m:Int)==2))with
 | true=>exact⟨_,rfl⟩
 | false=>
  have:wrap .i64 ((m:Int) - 1)=((m - 1:Nat):Int):=by rw[wrap_i64 _ (by omega) (by omega)];omega
  rw[this,cT (by omega)];have a:wB.length=12:=rfl;exact⟨_,bu (show m - 1<wB.length by omega)⟩
def Hj(n:Nat){y:Int}(h:ej y){m:Nat}(b:1<=m)(a:m<=12):kJ n y (m:Int)=some 0:=by
 unfold kJ;rw[gG,ae h];show cond (decide ((m:Int)<1)) _ _=_;rw[bW,bW,ab (by omega),ab (by omega)]
def JX(n:Nat){y:Int}(h:ej y){m:Nat}(e:m<=11):∀(r j:Nat),j+r=m->∀(a:Int) (N:Nat),r<N->∃v,av (bI n) N (y,a,(m:Int),(j:Int))=some v:=by
 intro r
 induction r with
 | zero=>
  intro j b a N c;obtain⟨N,rfl⟩:∃k,N=k+1:=⟨N - 1,by omega⟩;have:bI n (y,a,(m:Int),(j:Int))=some (.inr a):=by
   unfold bI;rw[bW,ab (show¬((j:Int)<(m:Int))by omega)]
  rw[av,this];exact⟨_,rfl⟩
 | succ r ih=>
  intro j b a N c;obtain⟨N,rfl⟩:∃k,N=k+1:=⟨N - 1,by omega⟩;obtain⟨v,d⟩:=tj n h (m:=j+1) (by omega) (by omega);have w:wrap .i64 ((j:Int)+1)=((j+1:Nat):Int):=by rw[wrap_i64 _ (by omega) (by omega)];omega
  have:bI n (y,a,(m:Int),(j:Int))=some (.inl (y,wrap .i64 (a+v),(m:Int),((j+1:Nat):Int))):=by
   unfold bI;rw[bW,ae (show((j:Int)<(m:Int))by omega)];simp only[w,d,ob]
  rw[av,this];exact ih (j+1) (by omega) _ N (by omega)
def N1(n:Nat)(d:100<n){y:Int}(h:ej y){m:Nat}(b:1<=m)(a:m<=12):∃v,fJ n y (m:Int)=some (v,0):=by
 unfold fJ mc lX;have h':=h;unfold ej at h';obtain⟨z,e⟩:=tA n (y:=y) (by omega);have w:wrap .i64 ((m:Int) - 1)=((m - 1:Nat):Int):=by rw[wrap_i64 _ (by omega) (by omega)];omega
 rw[Hj n h b a,gG,ae h,e,w];obtain⟨v,c⟩:=JX n h (m:=m - 1) (by omega) (m - 1) 0 (by omega) (wrap .i64 (wrap .i64 (365*y)+z)) n (by omega);refine⟨v,?_⟩;show ob (av (bI n) n (y,wrap .i64 (wrap .i64 (365*y)+z),((m - 1:Nat):Int),((0:Nat):Int))) _=_;rw[c];rfl
def madd(n:Nat){y:Int}(h:ej y){m c:Nat}(j:1<=m)(g:m<=12)(hc:1<=c)(k:c<=6):pm n y (m:Int) (wrap .i64 ((c:Int) - 1)) =
  some (if 12<m+c - 1 then(if y=10000000000000000 then(0,0,6)else(y+1,((m+c - 1 - 12:Nat):Int),0))else(y,((m+c - 1:Nat):Int),0)):=by
 have h':=h;unfold ej at h';unfold pm;rw[Hj n h j g,wrap_i64 (12*y) (by omega) (by omega),wrap_i64 ((m:Int) - 1) (by omega) (by omega),wrap_i64 (12*y+((m:Int) - 1)) (by omega) (by omega),wrap_i64 ((c:Int) - 1) (by omega) (by omega)];have i:sC n (12*y+((m:Int) - 1)) ((c:Int) - 1)=some (12*y+((m:Int) - 1)+((c:Int) - 1),0):=by
  unfold sC;rw[wrap_i64 (12*y+((m:Int) - 1)+((c:Int) - 1)) (by omega) (by omega),gZ];by_cases e:(c:Int) - 1=0
  ·rw[ae e];have a:decide (12*y+((m:Int) - 1)>12*y+((m:Int) - 1))=false:=by simp
   have d2:decide ((c:Int) - 1>0)=false:=by simp;omega
   rw[a,d2,e,Int.add_zero];rfl
  ·rw[ab e];have a:decide (12*y+((m:Int) - 1)+((c:Int) - 1)>12*y+((m:Int) - 1))=true:=by simp;omega
   have d2:decide ((c:Int) - 1>0)=true:=by simp;omega
   rw[a,d2];rfl
 simp only[ob,i,eT,af];rw[yX n (by omega) (by omega) (by omega) (by omega),Xh n (by omega) (by omega)];simp only[gG];by_cases f:12<m+c - 1
 ·have d:(12*y+((m:Int) - 1)+((c:Int) - 1)) / 12=y+1:=by omega
  have b:(12*y+((m:Int) - 1)+((c:Int) - 1))%12=((m+c - 1 - 12:Nat):Int) - 1:=by omega
  rw[d,b,ae f];by_cases hy:y=10000000000000000
  ·rw[ae hy,ab (show¬ej (y+1)by unfold ej;omega)];rfl
  ·rw[ab hy,ae (show ej (y+1)by unfold ej;omega),wrap_i64 (((m+c - 1 - 12:Nat):Int) - 1+1) (by omega) (by omega),OF];rfl
 ·have d:(12*y+((m:Int) - 1)+((c:Int) - 1)) / 12=y:=by omega
  have b:(12*y+((m:Int) - 1)+((c:Int) - 1))%12=((m+c - 1:Nat):Int) - 1:=by omega
  rw[d,b,ab f,ae h,wrap_i64 (((m+c - 1:Nat):Int) - 1+1) (by omega) (by omega),OF];rfl
def IN{j:Nat}(f:j<21):∃m c:Nat,n8[j]?=some ((m:Int),(c:Int))/\1<=m/\m<=12/\1<=c/\c<=6/\(12<m+c - 1↔j=3\/j=7\/j=9):=by
 have:((List.range 21).all λj=>match n8[j]? with
  | some (m,c)=>decide (0<=m)&&decide (0<=c)&&decide (1<=m.toNat)&&decide (m.toNat<=12)&&decide (1<=c.toNat)&&decide (c.toNat<=6)&&(decide (12<m.toNat+c.toNat - 1)==decide (j=3\/j=7\/j=9))
  | none=>false)=true:=by decide +kernel
 have h:=(bS.1 this) j (by simpa using f);split at h
 ·rename_i m c e;simp only[aB,ch,bL,uR]at h;obtain⟨⟨⟨⟨⟨⟨g,a⟩,k⟩,i⟩,l⟩,b⟩,d⟩:=h;exact⟨m.toNat,c.toNat,by rw[e,HK g,HK a],k,i,l,b,d⟩
 ·cases h
def Xg(n:Nat)(o:100<n){y:Int}(h:ej y){j:Nat}(r:j<21):
  ∃a b c d,iC n y ((21+j:Nat):Int)=some (a,b,c,d,if y=10000000000000000/\(j=3\/j=7\/j=9)then 6 else 0):=by
 obtain⟨m,c,e,s,q,z,B,w⟩:=IN r;have C:fH n ((21+j:Nat):Int)=some ((m:Int),(c:Int),0):=by
  unfold fH dT;rw[bW,bW,ab (by omega),ab (by omega)];have:wrap .i64 (((21+j:Nat):Int) - 21)=(j:Int):=by rw[wrap_i64 _ (by omega) (by omega)];omega
  rw[this,cT r];show ob (n8[j]?) _=_;rw[e];rfl
 obtain⟨v,A⟩:=N1 n o h s q;unfold iC;rw[C];show ∃a b c d,ob (fJ n y (m:Int)) _=_;rw[A];show ∃a b t d,ob (pm n y (m:Int) (wrap .i64 ((c:Int) - 1))) _=_;rw[madd n h s q z B];have h':=h;unfold ej at h';by_cases i:12<m+c - 1
 ·rw[ae i];by_cases hy:y=10000000000000000
  ·rw[ae hy,ae ⟨hy,w.1 i⟩];exact⟨_,_,_,_,rfl⟩
  ·rw[ab hy,ab (λx=>hy x.1)];have g:ej (y+1):=by unfold ej;omega
   obtain⟨k,f⟩:=N1 n o g (m:=m+c - 1 - 12) (by omega) (by omega);obtain⟨u,p⟩:=tj n g (m:=m+c - 1 - 12) (by omega) (by omega);have l:ib n (y+1) ((m+c - 1 - 12:Nat):Int)=some (wrap .i64 (wrap .i64 (k+u) - 1),0):=by
    unfold ib;rw[f,p];rfl
   show ∃a b t d,ob (ib n (y+1) ((m+c - 1 - 12:Nat):Int)) _=_;rw[l];exact⟨_,_,_,_,rfl⟩
 ·rw[ab i,ab (λx=>i (w.2 x.2))];obtain⟨k,f⟩:=N1 n o h (m:=m+c - 1) (by omega) (by omega);obtain⟨u,p⟩:=tj n h (m:=m+c - 1) (by omega) (by omega);have l:ib n y ((m+c - 1:Nat):Int)=some (wrap .i64 (wrap .i64 (k+u) - 1),0):=by
   unfold ib;rw[f,p];rfl
  show ∃a b t d,ob (ib n y ((m+c - 1:Nat):Int)) _=_;rw[l];exact⟨_,_,_,_,rfl⟩
def hasB(set:aa)(c:UInt8):Bool:=set.any λd=>d==c
def qF(set:aa)(c:UInt8):(decide (Lib.indexByte set c<0))=!hasB set c:=by
 induction set with
 | nil=>simp[Lib.indexByte,hasB]
 | cons d l ih=>
  have f:=Lib.indexByte_ge l c;simp only[hasB,vI]at ih ⊢;unfold Lib.indexByte;by_cases h:d=c
  ·simp[h]
  ·have e:(d==c)=false:=by simpa using h
   simp only[e,bQ,aF,sL];rw[<-ih];by_cases b:Lib.indexByte l c=-1
   ·simp[b]
   ·have a:(Lib.indexByte l c==-1)=false:=by simpa using b
    simp only[a,bQ,aF];have:¬Lib.indexByte l c+1<0:=by omega
    have:¬Lib.indexByte l c<0:=by omega
    simp[*]
def qg(set:aa)(c:UInt8):(decide (Lib.indexByte set c>=0))=hasB set c:=by
 have:=qF set c;by_cases h:Lib.indexByte set c<0
 ·have a:¬Lib.indexByte set c>=0:=by omega
  simp only[h,a,o6,og]at this ⊢;revert this;cases hasB set c<;>simp
 ·have a:Lib.indexByte set c>=0:=by omega
  simp only[h,a,o6,og]at this ⊢;revert this;cases hasB set c<;>simp
def lcp:aa->aa->Nat
 | c::s,d::t=>if c==d then lcp s t+1 else 0
 | _,_=>0
def yk:∀s t:aa,lcp s t<=s.length
 | [],_=>by simp[lcp]
 | _::_,[]=>by simp[lcp]
 | c::s,d::t=>by
  have:=yk s t;simp only[lcp,aG];split<;>omega
def cR(p:UInt8->Bool):Nat->aa->Nat
 | 0,_=>0
 | _+1,[]=>0
 | k+1,c::l=>if p c then cR p k l+1 else 0
def oz(p:UInt8->Bool):∀(k:Nat) (l:aa),cR p k l<=l.length
 | 0,_=>by simp[cR]
 | _+1,[]=>by simp[cR]
 | k+1,c::l=>by
  have:=oz p k l;simp only[cR,aG];split<;>omega
def uo(n:Nat)(S:aa)(a:Nat)(h:a<=S.length):cM n S (a:Int)=some (S.drop a):=by
 simp[cM,ob,eM h]
def Ed(n:Nat)(s p:aa):jF n s p=some (s.take p.length==p):=by
 simp only[jF,gP,Kp];by_cases h:p.length<=s.length
 ·simp[h,ob,eM h]
 ·have:(s.take p.length==p)=false:=by
   rw[aK];intro e;have:=co List.length e;rw[dA]at this;omega
  simp[h,ob,this]
def NB(n:Nat)(t S:aa)(a:Nat)(h:a<=S.length):fP n t S (a:Int)=some ((S.drop a).take t.length==t):=by
 simp[fP,uo n S a h,ob,Ed]
def nH(n:Nat)(t S:aa)(a:Nat)(h:a<=S.length)(c:S.length<4611686018427387904):
  aC n t S (a:Int)=some (if(S.drop a).take t.length=t then(true,S,((a+t.length:Nat):Int))else(false,S,(a:Int))):=by
 simp only[aC,NB n t S a h,ob];by_cases hp:(S.drop a).take t.length=t
 ·have d:t.length<=S.length - a:=by
   have:=co List.length hp;simp at this;omega
  have b:wrap .i64 ((a:Int)+((t.length:Nat):Int))=((a+t.length:Nat):Int):=by rw[wrap_i64 _ (by omega) (by omega)];omega
  simp[hp,b]
 ·simp only[Jh,gZ,hp,aF]
def DW(n:Nat)(S:aa)(i:Int):bG n S i=some i:=rfl
def peek(l:aa):Int×Bool:=match l with | c::_=>(((c.toNat:Nat):Int),true) | []=>(0,false)
def pY(n:Nat)(S:aa)(a:Nat)(h:a<=S.length):bm n S (a:Int)=some (peek (S.drop a)):=by
 simp only[bm,uo n S a h,ob];rcases aJ a S.length with d | b
 ·obtain⟨c,hc⟩:∃c,S[a]?=some c:=⟨S[a],bu d⟩;rw[gm hc];simp[lj hc,peek]
 ·rw[mB b];simp[peek]
def wq(n:Nat)(a e:Int)(S:aa)(i:Int):aO n a e S i=some (a,if e=0 then 5 else e):=by
 simp only[aO,gZ];by_cases h:e=0<;>simp[h]
def gV(n:Nat)(set:aa)(c:UInt8):dE n set ((c.toNat:Nat):Int)=some (Lib.indexByte set c):=by
 simp only[dE,dm,ob,Zw]
def C2(n:Nat)(set S:aa)(a:Nat)(h:a<=S.length)(f:S.length<4611686018427387904):
  cr n set S (a:Int)=some (match S.drop a with | c::_=>if hasB set c then .inr (((c.toNat:Nat):Int),S,((a+1:Nat):Int))else .inl ((a:Int),5,S,(a:Int)) | []=>.inl ((a:Int),5,S,(a:Int))):=by
 simp only[cr,pY n S a h,ob];rcases aJ a S.length with d | b
 ·obtain⟨c,hc⟩:∃c,S[a]?=some c:=⟨S[a],bu d⟩;have e:wrap .i64 ((a:Int)+1)=((a+1:Nat):Int):=by rw[wrap_i64 _ (by omega) (by omega)];omega
  rw[gm hc];simp only[peek,dL,af,gV,qF,DW,wq,ob,e];cases hasB set c<;>simp
 ·rw[mB b];simp[peek,DW,wq,ob]
def Bt(S:aa)(a k:Nat):List.drop a (List.take (a+k) S)=(S.drop a).take k:=by
 rw[zG];congr 1;omega
def B7(n:Nat)(set:aa)(b most:Int)(S:aa)(a:Nat)(h:a<=S.length)(o:S.length<4611686018427387904)(q:S.length<n):
  av (di n) n (set,b,most,(a:Int),(peek (S.drop a)).1,(peek (S.drop a)).2,S,(a:Int)) =
   some (b,(a:Int),S,((a+cR (hasB set) most.toNat (S.drop a):Nat):Int)):=by
 have:=gy (step:=di n)
  (λx=>∃j:Nat,a+j<=S.length/\x=(set,b,most,(a:Int),(peek (S.drop (a+j))).1,(peek (S.drop (a+j))).2,S,((a+j:Nat):Int)))
  (λx=>S.length - x.2.2.2.2.2.2.2.toNat)
  (λx=>(b,(a:Int),S,((x.2.2.2.2.2.2.2.toNat+cR (hasB set) (most.toNat - (x.2.2.2.2.2.2.2.toNat - a)) (S.drop x.2.2.2.2.2.2.2.toNat):Nat):Int))) ?_ n
  (set,b,most,(a:Int),(peek (S.drop a)).1,(peek (S.drop a)).2,S,(a:Int)) ⟨0,by omega,by simp⟩ (by simp;omega)
 ·simpa using this
 rintro x ⟨j,p,rfl⟩;simp only[bX];have d:wrap .i64 (((a+j:Nat):Int) - (a:Int))=(j:Int):=by rw[wrap_i64 _ (by omega) (by omega)];omega
 rcases aJ (a+j) S.length with f | e
 ·obtain⟨c,hc⟩:∃c,S[a+j]?=some c:=⟨S[a+j],bu f⟩;have i:wrap .i64 (((a+j:Nat):Int)+1)=((a+(j+1):Nat):Int):=by rw[wrap_i64 _ (by omega) (by omega)];omega
  simp only[di,gm hc,peek,aj,d];by_cases g:(j:Int)<most
  ·obtain⟨k,l⟩:∃k,most.toNat - (a+j - a)=k+1:=⟨most.toNat - j - 1,by omega⟩;simp only[g,o6,aj,gV,ob,qg,l,cR];cases m:hasB set c with
   | true=>
    simp only[i,pY n S (a+(j+1)) (by omega),aj];refine .inl ⟨_,rfl,⟨j+1,by omega,rfl⟩,?_,?_⟩
    ·simp only[bX];omega
    ·simp only[bX,bC,kz,aN];have:most.toNat - (a+(j+1) - a)=k:=by omega
     rw[this,show a+(j+1)=a+j+1 by omega];omega
   | false=>exact .inr (by simp)
  ·refine .inr ?_;have:most.toNat - (a+j - a)=0:=by omega
   simp only[g,og,af,this,cR,dK]
 ·refine .inr ?_;simp only[di,mB e,peek,af];have:cR (hasB set) (most.toNat - (a+j - a)) []=0:=by cases most.toNat - (a+j - a)<;>rfl
  simp only[this,dK]
def wi(n:Nat)(set:aa)(b most:Int)(S:aa)(a:Nat)(h:a<=S.length)(f:S.length<4611686018427387904)(g:S.length<n):
  cc n set b most S (a:Int)=some (if((cR (hasB set) most.toNat (S.drop a):Nat):Int)<b
   then .inl (((a+cR (hasB set) most.toNat (S.drop a):Nat):Int),5,S,((a+cR (hasB set) most.toNat (S.drop a):Nat):Int))
   else .inr ((S.drop a).take (cR (hasB set) most.toNat (S.drop a)),S,((a+cR (hasB set) most.toNat (S.drop a):Nat):Int))):=by
 have d:=oz (hasB set) most.toNat (S.drop a);rw[ci]at d;simp only[cc,DW,pY n S a h,ob];rw[B7 n set b most S a h f g];generalize cR (hasB set) most.toNat (S.drop a)=k at d ⊢;have c:wrap .i64 (((a+k:Nat):Int) - (a:Int))=(k:Int):=by rw[wrap_i64 _ (by omega) (by omega)];omega
 simp only[c,wq];by_cases e:(k:Int)<b
 ·simp[e]
 ·simp only[e,og,af,aF];rw[eM (by omega)];simp only;rw[eM (by omega)];simp only[Bt]
def Ub(a b:Nat):(cond (decide (((a:Nat):Int)<((b:Nat):Int))) ((a:Nat):Int) ((b:Nat):Int))=((min a b:Nat):Int):=by
 by_cases h:a<b
 ·simp[h];omega
 ·simp[h];omega
def asc(l:aa):Prop:=∀c∈l,c.toNat<128
def O6(r:Int)(h:128<=r):∃p e,(Utf8.encode r).data.toList=p++[e]/\1<=p.length/\p.length<=3/\128<=e.toNat:=by
 unfold Utf8.encode;have hc:128<=(if Utf8.valid r then r.toNat else Utf8.runeError):=by
  split
  ·omega
  ·decide
 generalize(if Utf8.valid r then r.toNat else Utf8.runeError)=c at hc;have a:128<=(UInt8.ofNat (0x80+c%64)).toNat:=by
  simp only[G0];omega
 simp only;split
 ·omega
 ·split
  ·exact⟨[_],_,rfl,by simp,by simp,a⟩
  ·split
   ·exact⟨[_,_],_,rfl,by simp,by simp,a⟩
   ·exact⟨[_,_,_],_,rfl,by simp,by simp,a⟩
def Ns{l:aa}(h:asc l){i:Nat}{c:UInt8}(hi:l[i]?=some c):c.toNat<128:=h c (fk hi)
def Es(n:Nat)(set:aa)(h:asc set)(e:set.length<n):av (dY n) n (set,0)=some (.inr ()):=by
 refine gy (step:=dY n) (λx=>x.1=set) (λx=>set.length - x.2) (λx=>.inr ()) ?_ n _ rfl (by simp;omega);rintro⟨s,i⟩ rfl;simp only[dY];by_cases hi:i<s.length
 ·have a:Nat.blt i s.length=true:=cD hi;obtain⟨c,hc⟩:∃c,s[i]?=some c:=⟨s[i],bu hi⟩;have b:=Ns h hc;have d:(((c.toNat:Nat):Int)==65533)=false:=by rw[aK];omega
  simp only[a,aj,Cc hc b,d,af];exact .inl ⟨_,rfl,rfl,by simp only;omega,trivial⟩
 ·have a:Nat.blt i s.length=false:=by
   cases a:Nat.blt i s.length with
   | false=>rfl
   | true=>exact absurd (aI a) (by omega)
  simp only[a,af];exact .inr trivial
def ze{l:aa}{c:UInt8}(h:c∉l):Lib.indexByte l c<0:=by
 have a:=qF l c;have d:hasB l c=false:=by
  unfold hasB;rw[sW];intro x hx b;simp only[bL]at b;exact h (b▸hx)
 rw[d]at a;simpa using a
def EI(n:Nat)(set:aa)(h:asc set)(s:set.length<n)(hs:set.length<=100)(r:Int)(x:128<=r):eJ n set r=some (-1):=by
 have q:decide ((0:Int)<=r)=true:=ar (by omega);have w:decide (r<128)=false:=au (by omega);simp only[eJ,q,w,aj,af];by_cases d:r=65533
 ·have:(r==65533)=true:=bL.2 d;simp only[this,aj,Es n set h s,ob]
 ·have:(r==65533)=false:=aK.2 d;simp only[this,af];obtain⟨v,z⟩:∃v,ek n r=some v:=by
   unfold ek;generalize decide ((0:Int)<=r)=y;generalize decide (r<55296)=d2;generalize decide ((57343:Int)<r)=o;generalize decide (r<=1114111)=d4;cases y<;>cases d2<;>cases o<;>cases d4<;>exact⟨_,rfl⟩
  simp only[z,ob];cases v with
  | false=>rfl
  | true=>
   simp only[dL,af];obtain⟨p,e,hp,l,u,B⟩:=O6 r x;simp only[hp];have A:wrap .i64 (((p++[e]).length:Nat) - 1:Int)=(p.length:Int):=by
    rw[wrap_i64 _ (by simp<;>omega) (by simp<;>omega)];simp
   rw[A];obtain⟨m,rfl⟩:∃m,n=m+1:=⟨n - 1,by omega⟩;have a:ee (m+1) (set,p++[e],(p.length:Int),(p.length:Int))=some (.inr (.inl (-1)))\/ee (m+1) (set,p++[e],(p.length:Int),(p.length:Int))=some (.inr (.inr ())):=by
    simp only[ee,nR];by_cases j:p.length<set.length
    ·obtain⟨c,hc⟩:∃c,set[p.length]?=some c:=⟨set[p.length],bu j⟩;have k:=Ns h hc;have i:(p++[e])[p.length]?=some e:=by simp
     have f:(((c.toNat:Nat):Int) != ((e.toNat:Nat):Int))=true:=by simp only[bne,jX,aK];omega
     have g:wrap .i64 ((p.length:Int)+1)=((p.length+1:Nat):Int):=by rw[wrap_i64 _ (by omega) (by omega)];omega
     have hx:e∉List.drop (p.length+1) (List.take set.length set):=by
      intro t;have:=h e (by simpa using List.mem_of_mem_drop t);omega
     left;simp only[j,o6,aj,lj hc,lj i,ob,f,g,eM (show p.length+1<=set.length by omega),gV,ze hx]
    ·right;simp only[j,og,af]
   rcases a with b | b<;>simp only[av,b,ob]
def zf(n:Nat)(set:aa)(c:UInt8)(r:Int)(f:r=((c.toNat:Nat):Int))(hc:c.toNat<128):eJ n set r=some (Lib.indexByte set c):=by
 have e:decide ((0:Int)<=r)=true:=ar (by omega);have b:decide (r<128)=true:=ar (by omega);have d:wrap .u8 r=r:=gK _ (by omega) (by omega);have a:dE n set r=some (Lib.indexByte set c):=by rw[f];exact gV n set c
 simp only[eJ,e,b,aj,d,a,ob]
def CL(n:Nat)(set:aa)(c:UInt8)(hc:c.toNat<128):eJ n set ((c.toNat:Nat):Int)=some (Lib.indexByte set c):=zf n set c _ rfl hc
def vS(n:Nat)(set:aa)(c:UInt8)(hc:c.toNat<128):dW n set ((c.toNat:Nat):Int)=some (hasB set c):=by
 simp only[dW,CL n set c hc,ob,qg]
def xw(n:Nat)(set:aa)(h:asc set)(a:set.length<n)(hs:set.length<=100)(r:Int)(b:128<=r):dW n set r=some false:=by
 simp only[dW,EI n set h a hs r b,ob];rfl
def we(x:Int)(b:0<=x)(a:x<65536):wrap .u16 x=x:=by
 show x%65536=x;omega
def ug(w a:Nat):BitVec.ofInt w (a:Int)=BitVec.ofNat w a:=by
 apply BitVec.eq_of_toNat_eq;simp
def Ui(k:Nat):(2:Int) ^ k=((2 ^ k:Nat):Int):=by simp
def QT(a k:Nat):Int.fdiv (a:Int) (2 ^ k)=((a / 2 ^ k:Nat):Int):=by
 rw[Ui k,Int.fdiv_eq_ediv_of_nonneg _ (Int.natCast_nonneg _)];rfl
def inR(lo hi:Int)(c:UInt8):Bool:=decide (((c.toNat:Nat):Int)>=lo)&&decide (((c.toNat:Nat):Int)<=hi)
def cnt(lo hi:Int)(l:aa):Nat:=l.countP (inR lo hi)
def MG(lo hi:Int)(l:aa):cnt lo hi l<=l.length:=List.countP_le_length
def P9(lo hi:Int){l:aa}{i:Nat}{c:UInt8}(h:l[i]?=some c):cnt lo hi (l.take (i+1))=cnt lo hi (l.take i)+if inR lo hi c then 1 else 0:=by
 unfold cnt;rw[qX,h,List.countP_append];simp[KV]
def HQ(n:Nat)(s:aa)(lo hi:Int)(hs:s.length<n)(l:s.length<100000):gD n s lo hi=some ((cnt lo hi s:Nat):Int):=by
 have:=gy (step:=ii n) (λx=>∃i:Nat,i<=s.length/\x=(s,lo,hi,((cnt lo hi (s.take i):Nat):Int),(i:Int))) (λx=>s.length - x.2.2.2.2.toNat) (λ_=>((cnt lo hi s:Nat):Int)) ?_ n (s,lo,hi,0,0) ⟨0,by omega,by simp[cnt]⟩ (by simp;omega)
 ·simp only[gD,this,ob]
 rintro x ⟨i,h,rfl⟩;rcases aJ i s.length with a | k
 ·obtain⟨c,hc⟩:∃c,s[i]?=some c:=⟨s[i],bu a⟩;have b:=P9 lo hi hc;have e:=MG lo hi (s.take i);rw[dA]at e;have j:wrap .i64 ((i:Int)+1)=((i+1:Nat):Int):=by rw[wrap_i64 _ (by omega) (by omega)];omega
  have g:wrap .i64 (((cnt lo hi (s.take i):Nat):Int)+1)=((cnt lo hi (s.take i)+1:Nat):Int):=by rw[wrap_i64 _ (by omega) (by omega)];omega
  refine .inl ⟨(s,lo,hi,((cnt lo hi (s.take (i+1)):Nat):Int),((i+1:Nat):Int)),?_,⟨i+1,a,rfl⟩,by simp only[bX];omega,rfl⟩;simp only[ii,nR,a,o6,aj,lj hc,ob,j,g];rw[b];by_cases d:((c.toNat:Nat):Int)>=lo
  ·by_cases f:((c.toNat:Nat):Int)<=hi
   ·simp[d,f,inR]
   ·simp[d,f,inR]
  ·simp[d,inR]
 ·have:i=s.length:=by omega
  subst this;refine .inr ?_;simp only[ii,nR,G5,og,af,oV]
def Ou(lo hi:Int)(l:aa):cnt lo hi l=l.length↔∀c∈l,inR lo hi c=true:=by
 unfold cnt;rw[List.countP_eq_length]
def P5(lo hi:Int)(l:aa):cnt lo hi l=0↔∀c∈l,inR lo hi c=false:=by
 unfold cnt;rw[List.countP_eq_zero];simp
def bD(c:UInt8):Bool:=inR 48 57 c
def eo(c:UInt8):bD c=true↔48<=c.toNat/\c.toNat<=57:=by
 unfold bD inR;simp only[aB,ch];omega
def BZ(c:UInt8):inR 88 88 c=true↔c=88:=by
 unfold inR;simp only[aB,ch];constructor
 ·intro h;apply iE.1;show c.toNat=88;omega
 ·rintro rfl;decide
def N8(c:UInt8):inR 48 48 c=true↔c=48:=by
 unfold inR;simp only[aB,ch];constructor
 ·intro h;apply iE.1;show c.toNat=48;omega
 ·rintro rfl;decide
def Lj:∀l:aa,cnt 48 57 l+cnt 88 88 l<=l.length/\(cnt 48 57 l+cnt 88 88 l=l.length↔∀c∈l,bD c=true\/c=88)
 | []=>by simp[cnt]
 | c::l=>by
  have ih:=Lj l;have g:cnt 48 57 (c::l)=cnt 48 57 l+if inR 48 57 c then 1 else 0:=by simp[cnt,KV]
  have f:cnt 88 88 (c::l)=cnt 88 88 l+if inR 88 88 c then 1 else 0:=by simp[cnt,KV]
  have d:¬(inR 48 57 c=true/\inR 88 88 c=true):=by
   rintro⟨b,a⟩;have:=(eo c).1 b;rw[(BZ c).1 a]at this;exact absurd this.2 (by decide)
  rw[g,f,aG];simp only[cb,Bn];have hx:=BZ c;have h:bD c=inR 48 57 c:=rfl;rw[h];cases b:inR 48 57 c<;>cases a:inR 88 88 c
  ·simp only[b,a]at hx ⊢;have:c≠88:=λe=>by simpa using hx.2 e
   simp[this];omega
  ·simp only[b,a]at hx ⊢;have:c=88:=hx.1 trivial;simp only[this,bQ,aN,aF,false_or,kz];rw[<-ih.2];omega
  ·simp only[b,a]at hx ⊢;simp only[bQ,aN,aF,true_or,kz];rw[<-ih.2];omega
  ·exact absurd ⟨b,a⟩ d
def MP(n:Nat)(s set:aa)(o:asc set)(t:set.length<n)(u:set.length<=100)(hs:s.length<n):
  ∃y,av (cV n) n (true,set,s,0)=some y/\((y=.inr ()/\s.all (hasB set)=true)\/∃i:Nat,y=.inl (i:Int)/\s.all (hasB set)=false):=by
 refine pQ (step:=cV n) (λx=>x.1=true/\x.2.1=set/\x.2.2.1=s/\s.all (hasB set)=(s.drop x.2.2.2).all (hasB set)) (λx=>s.length - x.2.2.2) _ ?_ n _ ⟨rfl,rfl,rfl,rfl⟩ (by simp only;omega);rintro⟨b,st,s',p⟩ ⟨h,g,f,a⟩;simp only at h g f a;rw[h,g,f];clear h g f b st s';rcases aJ p s.length with j | m
 ·obtain⟨c,hc⟩:∃c,s[p]?=some c:=⟨s[p],bu j⟩;have e:Nat.blt p s.length=true:=cD j;rw[gm hc,m7]at a;rcases aJ c.toNat 128 with d | d
  ·have q:=Cc hc d;simp only[cV,e,aj,km,q,vS n set c d,ob];cases k:hasB set c with
   | true=>
    rw[k,pT]at a;exact .inl ⟨_,rfl,⟨rfl,rfl,rfl,a⟩,by simp only;omega⟩
   | false=>
    rw[k,Aq]at a;exact .inr ⟨_,rfl,.inr ⟨p,rfl,a⟩⟩
  ·have q:=IU hc d;have k:hasB set c=false:=by
    unfold hasB;rw[sW];intro x hx r;simp only[bL]at r;have:=o x hx;rw[r]at this;omega
   rw[k,Aq]at a;have l:=xw n set o t u (((dec s p).1:Nat):Int) (by omega);simp only[cV,e,aj,km,l,ob];exact .inr ⟨_,rfl,.inr ⟨p,rfl,a⟩⟩
 ·have e:Nat.blt p s.length=false:=by
   cases h:Nat.blt p s.length with
   | false=>rfl
   | true=>exact absurd (aI h) (by omega)
  simp only[cV,e,af];rw[mB m]at a;exact .inr ⟨_,rfl,.inl ⟨rfl,by rw[a];rfl⟩⟩
def OK(n:Nat)(s set:aa)(c:asc set)(e:set.length<n)(f:set.length<=100)(hs:s.length<n):gM n s set=some (s.all (hasB set)):=by
 obtain⟨y,d,b⟩:=MP n s set c e f hs;simp only[gM,mb,l9,d,ob];rcases b with⟨rfl,a⟩ | ⟨i,rfl,a⟩
 ·rw[a];rfl
 ·rw[a];simp only[aq,tK];omega
def QZ:asc [48,49,50,51,52,53,54,55,56,57]:=by unfold asc;decide
def KY:asc [88,48,49,50,51,52,53,54,55,56,57]:=by unfold asc;decide
def jz(p:UInt8->Bool)(h:∀i:Fin 256,p (UInt8.ofNat i.val)=true)(c:UInt8):p c=true:=by
 have:=h ⟨c.toNat,c.toNat_lt⟩;simpa using this
def yY(c:UInt8):hasB [48,49,50,51,52,53,54,55,56,57] c=bD c:=by
 have:=jz (λc=>hasB [48,49,50,51,52,53,54,55,56,57] c==bD c) (by decide +kernel) c;simpa using this
def vq(c:UInt8):hasB [88,48,49,50,51,52,53,54,55,56,57] c=(bD c||c==88):=by
 have:=jz (λc=>hasB [88,48,49,50,51,52,53,54,55,56,57] c==(bD c||c==88)) (by decide +kernel) c;simpa using this
def Nn(n:Nat)(s:aa)(a:100<n)(hs:s.length<n):gM n s [48,49,50,51,52,53,54,55,56,57]=some (s.all bD):=by
 rw[OK n s _ QZ (by simp;omega) (by simp) hs];congr 2;funext c;exact yY c
def KE(n:Nat)(s:aa)(a:100<n)(hs:s.length<n):gM n s [88,48,49,50,51,52,53,54,55,56,57]=some (s.all λc=>bD c||c==88):=by
 rw[OK n s _ KY (by simp;omega) (by simp) hs];congr 2;funext c;exact vq c
def all0(s:aa):Bool:=s.all λc=>c==48
def Zj(n:Nat)(s:aa)(hs:s.length<n)(k:s.length<100000):∃y,gz n s 48=some y/\all0 s=all0 y/\y.length<=s.length:=by
 obtain⟨y,g,a⟩:=pQ (step:=dG n) (λx=>x.2=48/\all0 s=all0 x.1/\x.1.length<=s.length) (λx=>x.1.length) (λy=>all0 s=all0 y/\y.length<=s.length) (by
  rintro⟨l,c⟩ ⟨rfl,h,f⟩;simp only at h f;by_cases m:l.length>0
  ·have d0:decide (((l.length:Nat):Int)>0)=true:=ar (by omega);have j:wrap .i64 (((l.length:Nat):Int) - 1)=((l.length - 1:Nat):Int):=by rw[wrap_i64 _ (by omega) (by omega)];omega
   obtain⟨c,hc⟩:∃c,l[l.length - 1]?=some c:=⟨l[l.length - 1],bu (by omega)⟩;simp only[dG,d0,aj,j,lj hc,ob];by_cases d:c=48
   ·have b:(((c.toNat:Nat):Int)==48)=true:=by rw[d];rfl
    simp only[b,aj,eM (show l.length - 1<=l.length by omega),cS];refine .inl ⟨(List.take (l.length - 1) l,48),rfl,⟨rfl,?_,by show(List.take (l.length - 1) l).length<=s.length;rw[dA];omega⟩,by show(List.take (l.length - 1) l).length<l.length;rw[dA];omega⟩;rw[h];have:l=l.take (l.length - 1)++[c]:=by
     have a:=qX (l:=l) (i:=l.length - 1);rw[hc,show l.length - 1+1=l.length by omega,oV]at a;exact a
    rw[this];simp only[all0,EK,m7,List.all_nil,d];simp
   ·have b:(((c.toNat:Nat):Int)==48)=false:=by
     rw[aK];intro e;exact d (iE.1 (by show c.toNat=48;omega))
    simp only[b,af];exact .inr ⟨_,rfl,h,f⟩
  ·have d0:decide (((l.length:Nat):Int)>0)=false:=au (by omega);simp only[dG,d0,af];exact .inr ⟨_,rfl,h,f⟩) n (s,48) ⟨rfl,rfl,aU _⟩ hs
 exact⟨y,by simp only[gz,g,ob],a⟩
def Zb(n:Nat)(s:aa)(hs:s.length<n)(m:s.length<100000):∃y,gU n s 48=some y/\all0 s=(y==[]):=by
 obtain⟨y,k,g⟩:=pQ (step:=fG n) (λx=>x.2=48/\all0 s=all0 x.1/\x.1.length<=s.length) (λx=>x.1.length) (λy=>all0 s=(y==[])) (by
  rintro⟨l,c⟩ ⟨rfl,h,f⟩;simp only at h f;cases l with
  | nil=>exact .inr ⟨[],rfl,by rw[h];rfl⟩
  | cons c l=>
   have d0:decide ((((c::l).length:Nat):Int)>0)=true:=ar (by simp only[aG];omega);have hc:sx (c::l) 0=some c:=by simp[sx]
   simp only[fG,d0,aj,hc,ob];by_cases a:c=48
   ·have b:(((c.toNat:Nat):Int)==48)=true:=by rw[a];rfl
    have d:bx (c::l).length 1=some 1:=eM (i:=1) (by simp);simp only[b,aj,d,oV,oi,cS];refine .inl ⟨_,rfl,⟨rfl,?_,by show l.length<=s.length;simp only[aG]at f;omega⟩,by simp⟩;rw[h];simp[all0,a]
   ·have b:(((c.toNat:Nat):Int)==48)=false:=by
     rw[aK];intro e;exact a (iE.1 (by show c.toNat=48;omega))
    simp only[b,af];refine .inr ⟨_,rfl,?_⟩;rw[h];have j:(c==48)=false:=aK.2 a;simp[all0,j]) n (s,48) ⟨rfl,rfl,aU _⟩ hs
 exact⟨y,by simp only[gU,k,ob],g⟩
def Vr(n:Nat)(s:aa)(hs:s.length<n)(a:s.length<100000):∃y,oH n s=some y/\(y==[])=all0 s:=by
 unfold oH;by_cases h:s=[]
 ·subst h;exact⟨[],rfl,rfl⟩
 ·have:(s==([]:aa))=false:=aK.2 h;obtain⟨y,c,b,f⟩:=Zj n s hs a;obtain⟨z,d,e⟩:=Zb n y (by omega) (by omega);exact⟨z,by simp only[this,af,c,d,ob],by rw[b,e]⟩
def QD(s:aa):all0 s=true↔cnt 48 48 s=s.length:=by
 rw[Ou];unfold all0;rw[bS];constructor
 ·intro h c hc;have:=h c hc;rw[bL]at this;exact(N8 c).2 this
 ·intro h c hc;rw[bL];exact(N8 c).1 (h c hc)
def hasX(s:aa):Bool:=s.any λc=>c==88
def Hv(s:aa):hasX s=decide (0<cnt 88 88 s):=by
 have:=P5 88 88 s;unfold hasX;cases h:s.any λc=>c==88 with
 | true=>
  obtain⟨c,hc,b⟩:=sX.1 h;rw[bL]at b;symm;rw[ch];rcases Cd (cnt 88 88 s)with a | a
  ·have:=this.1 a c hc;rw[(BZ c).2 b]at this;cases this
  ·exact a
 | false=>
  symm;rw[tK];intro a;have:cnt 88 88 s=0:=this.2 λc hc=>by
   cases hx:inR 88 88 c with
   | false=>rfl
   | true=>
    rw[sW]at h;exact absurd (bL.2 ((BZ c).1 hx)) (h c hc)
  omega
def Fh(n:Nat)(s:aa):iQ n s=some (hasX s):=by
 have e:UInt8.ofNat (Int.toNat 88)=(88:UInt8):=rfl;have hi:nD n s=some (Lib.indexByte s 88):=by
  simp only[nD,jp,dm,ob,e];by_cases h:([88]:aa)=s
  ·subst h;rfl
  ·have:(([88]:aa)==s)=false:=aK.2 h;simp only[this,af]
 simp only[iQ,hi,ob,qg];rfl
def uw(n:Nat)(g l:Bool)(d:aa)(x q:Int):cP n g l d x q=some (hasX d):=by
 simp only[cP,Fh,ob]
def pj(n:Nat)(g l:Bool)(d:aa)(x q:Int)(hs:d.length<n)(a:d.length<100000):aE n g l d x q=some (if hasX d then 1 else 0):=by
 simp only[aE,HQ n d 88 88 hs a,ob,Hv,ch];by_cases h:0<cnt 88 88 d
 ·have:decide (((cnt 88 88 d:Nat):Int)<1)=false:=au (by omega);simp[this,h]
 ·have:decide (((cnt 88 88 d:Nat):Int)<1)=true:=ar (by omega);have b:cnt 88 88 d=0:=by omega
  simp[this,b]
def vP(acc:Nat)(c:UInt8):Nat:=acc*10+(c.toNat - 48)
def dval(acc:Nat)(l:aa):Nat:=l.foldl vP acc
def qz(acc:Nat):dval acc []=acc:=by unfold dval;rw[Jg]
def pN(acc:Nat)(c:UInt8)(l:aa):dval acc (c::l)=dval (vP acc c) l:=by
 unfold dval;rw[vD]
def Hg(l:aa)(acc:Nat)(c:UInt8):dval acc (l++[c])=dval acc l*10+(c.toNat - 48):=by
 have:dval acc (l++[c])=vP (dval acc l) c:=by
  unfold dval;rw[Hu,vD,Jg]
 rw[this];rfl
def Vb(M:Nat)(i:10000000000000000000<=M)(l:aa):∀(acc k:Nat),(∀c∈l,bD c=true)->acc<10 ^ k->l.length+k<=18->Lib.parseUintM M acc l=.ok (dval acc l)/\dval acc l<10 ^ (l.length+k):=by
 induction l with
 | nil=>
  intro acc k _ b _;rw[qz];refine⟨rfl,?_⟩;simpa using b
 | cons c l ih=>
  intro acc k h b e;have hc:=(eo c).1 (h c (by simp));simp only[aG]at e;have hp:(10:Nat) ^ (k+1)=10 ^ k*10:=ts 10 k;have g:(10:Nat) ^ (k+1)<=10 ^ 18:=lh (by decide) (by omega);have f:(10:Nat) ^ 18=1000000000000000000:=by decide
  have a:vP acc c=acc*10+(c.toNat - 48):=rfl;have ih:=ih (vP acc c) (k+1) (λd a=>h d (by simp[a])) (by omega) (by omega);refine⟨?_,?_⟩
  ·simp only[Lib.parseUintM];rw[ae hc,ab (by omega),ab (by omega),<-a,ih.1,pN]
  ·rw[pN,aG,show l.length+1+k=l.length+(k+1)by omega];exact ih.2
def JD{l:aa}(h:∀c∈l,bD c=true)(d:l≠[])(k:l.length<=18):xm l=some ((dval 0 l:Nat):Int)/\dval 0 l<10 ^ l.length:=by
 obtain⟨e,b⟩:=Vb (2 ^ 64 - 1) (by decide) l 0 0 h (by simp) (by omega);refine⟨?_,by simpa using b⟩;have f:dval 0 l<10 ^ 18:=oQ b (lh (by decide) (by omega));cases l with
 | nil=>exact absurd rfl d
 | cons c r=>
  have hc:=(eo c).1 (h c (by simp));have j:Lib.parseUintB 64 (c::r)=.ok (dval 0 (c::r)):=by
   unfold Lib.parseUintB;rw[ab d,e]
  have hs:¬(c.toNat=43\/c.toNat=45):=by omega
  simp only[xm,Lib.parseIntB,hs,aF,j];have i:(10:Nat) ^ 18=1000000000000000000:=by decide
  have a:(2:Nat) ^ (64 - 1)=9223372036854775808:=by decide
  have g:¬c.toNat=45:=by omega
  simp only[g,FR,kz,yv,aF];rw[a,ab (by omega)]
def P0(n k:Nat)(j:k<=18)(h:18<n):pt n (k:Int)=some (((10 ^ k:Nat):Int),0):=by
 have e:(10:Nat) ^ 18=1000000000000000000:=by decide
 have:=gy (step:=lz n) (λx=>∃i:Nat,i<=k/\x=(((10 ^ i:Nat):Int),(k:Int),(i:Int))) (λx=>k - x.2.2.toNat) (λ_=>((10 ^ k:Nat):Int)) (by
  rintro x ⟨i,hi,rfl⟩;rcases aJ i k with a | g
  ·have d:(10:Nat) ^ (i+1)<=10 ^ 18:=lh (by decide) (by omega);have hp:(10:Nat) ^ (i+1)=10 ^ i*10:=ts 10 i;have f:wrap .i64 (((10 ^ i:Nat):Int)*10)=((10 ^ (i+1):Nat):Int):=by rw[wrap_i64 _ (by omega) (by omega)];omega
   have b:wrap .i64 ((i:Int)+1)=((i+1:Nat):Int):=by rw[wrap_i64 _ (by omega) (by omega)];omega
   refine .inl ⟨_,?_,⟨i+1,a,rfl⟩,by simp only[bX];omega,rfl⟩;simp only[lz,nR,a,o6,aj,f,b]
  ·have:i=k:=by omega
   subst this;refine .inr ?_;simp only[lz,nR,G5,og,af]) n (1,(k:Int),0) ⟨0,by omega,rfl⟩ (by simp;omega)
 have c:decide ((k:Int)<0)=false:=au (by omega);have d2:decide ((k:Int)>18)=false:=au (by omega);simp only[pt,c,d2,af,this,ob]
def kN(x:Int)(b:0<=x)(a:x<18446744073709551616):wrap .u64 x=x:=by
 show x%18446744073709551616=x;omega
def GZ(x:Int):wrap .u64 x=x%18446744073709551616:=rfl
def OY{a:Nat}(b:a<18446744073709551616):bits .and .u64 (a:Int) 4294967295=((a%4294967296:Nat):Int):=by
 show wrap .u64 ((BitVec.ofInt 64 (a:Int) &&& BitVec.ofInt 64 ((4294967295:Nat):Int)).toNat:Int)=_;rw[ug,ug,BitVec.toNat_and,HA,HA,qj (show a<2 ^ 64 from b),qj (by decide)];have:=Nat.and_two_pow_sub_one_eq_mod a 32;rw[show(2:Nat) ^ 32 - 1=4294967295 from by decide,show(2:Nat) ^ 32=4294967296 from by decide]at this;rw[this];exact kN _ (by omega) (by omega)
def Rr(a:Nat):Int.fdiv (a:Int) (2 ^ 32)=((a / 4294967296:Nat):Int):=by
 rw[QT]
def I5{a b A B:Nat}(d:a<=A)(c:b<=B):a*b<=A*B:=xk d c
def NC(a b:Nat):a*b=(a / 4294967296)*(b / 4294967296)*18446744073709551616+((a / 4294967296)*(b%4294967296)+(a%4294967296)*(b / 4294967296))*4294967296+(a%4294967296)*(b%4294967296):=by
 have f:a=(a / 4294967296)*4294967296+a%4294967296:=by omega
 have e:b=(b / 4294967296)*4294967296+b%4294967296:=by omega
 generalize a / 4294967296=c at f ⊢;generalize a%4294967296=x0 at f ⊢;generalize b / 4294967296=d at e ⊢;generalize b%4294967296=g at e ⊢;subst f e;rw[ia,Nat.mul_add,Nat.mul_add];have i:c*4294967296*(d*4294967296)=c*d*18446744073709551616:=by
  rw[Nat.mul_mul_mul_comm]
 have h:c*4294967296*g=c*g*4294967296:=by rw[Nat.mul_right_comm]
 have j:x0*(d*4294967296)=x0*d*4294967296:=by rw[Fo]
 rw[i,h,j,ia];omega
def Ze(n a b:Nat)(m:a<18446744073709551616)(l:b<18446744073709551616):lw n (a:Int) (b:Int)=some (((a*b / 18446744073709551616:Nat):Int),((a*b%18446744073709551616:Nat):Int)):=by
 have q:=NC a b;have g:a / 4294967296<=4294967295:=by omega
 have i:a%4294967296<=4294967295:=by omega
 have h:b / 4294967296<=4294967295:=by omega
 have j:b%4294967296<=4294967295:=by omega
 have y:=I5 i j;have w:=I5 i h;have p:=I5 g j;have z:=I5 g h;have k:wrap .u64 ((a:Int)*(b:Int))=((a*b%18446744073709551616:Nat):Int):=by
  rw[GZ,<-He];omega
 simp only[lw,Rr,OY m,OY l,k];simp only[<-He];generalize(a / 4294967296)*(b / 4294967296)=e at *;generalize(a / 4294967296)*(b%4294967296)=d at *;generalize(a%4294967296)*(b / 4294967296)=f at *;generalize(a%4294967296)*(b%4294967296)=c at *;generalize a*b=N at *;have u:wrap .u64 ((c:Nat):Int)=((c:Nat):Int):=kN _ (by omega) (by omega);have v:wrap .u64 ((d:Nat):Int)=((d:Nat):Int):=kN _ (by omega) (by omega);have x:wrap .u64 ((f:Nat):Int)=((f:Nat):Int):=kN _ (by omega) (by omega);have s:wrap .u64 ((e:Nat):Int)=((e:Nat):Int):=kN _ (by omega) (by omega);rw[u,v,x,s,Rr c];have o:wrap .u64 (((d:Nat):Int)+((c / 4294967296:Nat):Int))=((d+c / 4294967296:Nat):Int):=by rw[kN _ (by omega) (by omega)];omega
 rw[o,Rr,OY (by omega)];have r:wrap .u64 (((e:Nat):Int)+(((d+c / 4294967296) / 4294967296:Nat):Int))=((e+(d+c / 4294967296) / 4294967296:Nat):Int):=by rw[kN _ (by omega) (by omega)];omega
 have t:wrap .u64 ((((d+c / 4294967296)%4294967296:Nat):Int)+((f:Nat):Int))=(((d+c / 4294967296)%4294967296+f:Nat):Int):=by rw[kN _ (by omega) (by omega)];omega
 rw[r,t,Rr];have w8:wrap .u64 (((e+(d+c / 4294967296) / 4294967296:Nat):Int)+((((d+c / 4294967296)%4294967296+f) / 4294967296:Nat):Int))=((N / 18446744073709551616:Nat):Int):=by
  rw[kN _ (by omega) (by omega)];omega
 rw[w8]
def XA(n a b:Nat)(k:a<9223372036854775808)(j:b<9223372036854775808):wE n (a:Int) (b:Int)=some (if a*b<9223372036854775808 then(((a*b:Nat):Int),0)else(0,15)):=by
 have g:decide ((a:Int)<0)=false:=au (by omega);have d2:decide ((b:Int)<0)=false:=au (by omega);have i:wrap .u64 (a:Int)=a:=kN _ (by omega) (by omega);have f:wrap .u64 (b:Int)=b:=kN _ (by omega) (by omega);simp only[wE,uO,g,d2,af,i,f,ob,Ze n a b (by omega) (by omega)];generalize a*b=N;by_cases h:18446744073709551616<=N
 ·have c:decide (((N / 18446744073709551616:Nat):Int)>0)=true:=ar (by omega);rw[c,ab (by omega)];rfl
 ·have c:decide (((N / 18446744073709551616:Nat):Int)>0)=false:=au (by omega);have e:N%18446744073709551616=N:=qj (by omega);rw[c,e];simp only[af,BEq.rfl,dL,tG,kL,aj];by_cases d:N<9223372036854775808
  ·have d4:decide (((N:Nat):Int)<=9223372036854775807)=true:=ar (by omega);rw[d4,ae d,aj,wrap_i64 _ (by omega) (by omega)]
  ·have d4:decide (((N:Nat):Int)<=9223372036854775807)=false:=au (by omega);rw[d4,ab d,af]
def E16:Nat:=10000000000000000
def UX{x:Nat}(hx:17<=x):E16<10 ^ x:=by
 have:(10:Nat) ^ 17<=10 ^ x:=lh (by decide) hx;have a:(10:Nat) ^ 17=100000000000000000:=by decide
 unfold E16;omega
def NI(n:Nat)(g l:Bool)(d:aa)(x:Nat)(s:Int)(i:∀c∈d,bD c=true)(k:d≠[])(q:d.length<=17)(hx:x<=18)(m:18<n):
  ew n g l d (x:Int) s=some (if dval 0 d*10 ^ x<=E16 then(((dval 0 d*10 ^ x:Nat):Int),0)else(0,6)):=by
 obtain⟨j,f⟩:=JD i k (by omega);have r:dval 0 d<10 ^ 17:=oQ f (lh (by decide) q);have hp:(10:Nat) ^ x<=10 ^ 18:=lh (by decide) hx;have o:(10:Nat) ^ 17=100000000000000000:=by decide
 have p:(10:Nat) ^ 18=1000000000000000000:=by decide
 have e:Nat.ble d.length 9223372036854775806=true:=cD (by omega);simp only[ew,e,aj,j,ob,P0 n x hx m,eT,af,XA n _ _ (show dval 0 d<9223372036854775808 by omega) (show 10 ^ x<9223372036854775808 by omega)];generalize dval 0 d*10 ^ x=N;unfold E16;by_cases h:N<9223372036854775808
 ·rw[ae h];simp only[eT,af];by_cases b:N<=10000000000000000
  ·have a:decide (((N:Nat):Int)>10000000000000000)=false:=au (by omega);rw[a,ae b,af]
  ·have a:decide (((N:Nat):Int)>10000000000000000)=true:=ar (by omega);rw[a,ab b,aj]
 ·rw[ab h,ab (by omega)];rfl
def pre(d:aa)(i:Nat):Nat:=dval 0 (d.take i)*10 ^ (i - d.length)
def RP{d:aa}{i:Nat}{c:UInt8}(h:d[i]?=some c):pre d (i+1)=10*pre d i+(c.toNat - 48):=by
 have a:=xx h;unfold pre;rw[qX,h,show i+1 - d.length=0 by omega,show i - d.length=0 by omega];simp only[Option.toList,Hg,C5,rI];omega
def Ss{d:aa}{i:Nat}(h:d.length<=i):pre d (i+1)=10*pre d i:=by
 unfold pre;rw[jw (show d.length<=i+1 by omega),jw h,show i+1 - d.length=(i - d.length)+1 by omega,ts];rw[<-Fo];omega
def Iq(d:aa):∀k i,pre d i<=pre d (i+k)
 | 0,i=>aU _
 | k+1,i=>by
  have ih:=Iq d k i;rcases aJ (i+k) d.length with b | a
  ·have:=RP (bu b);rw[show i+(k+1)=i+k+1 by omega,this];omega
  ·have:=Ss a;rw[show i+(k+1)=i+k+1 by omega,this];omega
def jH(n:Nat)(d:aa)(x:Nat)(o:∀c∈d,bD c=true)(w:d.length<=100)(hx:x<=100)(v:d.length+x<n):
  ak n d (x:Int)=some (if dval 0 d*10 ^ x<=E16 then(((dval 0 d*10 ^ x:Nat):Int),1)else(0,0)):=by
 have a:pre d (d.length+x)=dval 0 d*10 ^ x:=by
  unfold pre;rw[jw (by omega),show d.length+x - d.length=x by omega]
 have w0:wrap .i64 (((d.length:Nat):Int)+(x:Int))=((d.length+x:Nat):Int):=by rw[wrap_i64 _ (by omega) (by omega)];omega
 have:=gy (step:=fq n) (λq=>∃i:Nat,i<=d.length+x/\pre d i<=E16/\q=(d,(x:Int),((pre d i:Nat):Int),(i:Int))) (λq=>d.length+x - q.2.2.2.toNat) (λ_=>if dval 0 d*10 ^ x<=E16 then .inr ((dval 0 d*10 ^ x:Nat):Int)else .inl (0,0)) (by
  rintro q ⟨i,hi,hp,rfl⟩;simp only[fq,w0,nR];unfold E16 at hp ⊢;have u:wrap .i64 ((i:Int)+1)=((i+1:Nat):Int):=by rw[wrap_i64 _ (by omega) (by omega)];omega
  have m:wrap .i64 (10*((pre d i:Nat):Int))=((10*pre d i:Nat):Int):=by rw[wrap_i64 _ (by omega) (by omega)];omega
  by_cases g:i<d.length+x
  ·have s:=Iq d (d.length+x - (i+1)) (i+1);rw[show i+1+(d.length+x - (i+1))=d.length+x by omega,a]at s;simp only[g,o6,aj,u,m];rcases aJ i d.length with e | k
   ·obtain⟨c,hc⟩:∃c,d[i]?=some c:=⟨d[i],bu e⟩;have l:=(eo c).1 (o c (fk hc));have hs:=RP hc;have r:wrap .u8 (((c.toNat:Nat):Int) - 48)=((c.toNat - 48:Nat):Int):=by rw[gK _ (by omega) (by omega)];omega
    have t:wrap .i64 ((c.toNat - 48:Nat):Int)=((c.toNat - 48:Nat):Int):=wrap_i64 _ (by omega) (by omega);have p:wrap .i64 (((10*pre d i:Nat):Int)+((c.toNat - 48:Nat):Int))=((pre d (i+1):Nat):Int):=by rw[wrap_i64 _ (by omega) (by omega)];omega
    simp only[e,o6,aj,lj hc,ob,r,t,p];by_cases f:pre d (i+1)<=10000000000000000
    ·have b:decide (((pre d (i+1):Nat):Int)>10000000000000000)=false:=au (by omega);simp only[b,af];exact .inl ⟨_,rfl,⟨i+1,g,f,rfl⟩,by simp only[bX];omega,trivial⟩
    ·have b:decide (((pre d (i+1):Nat):Int)>10000000000000000)=true:=ar (by omega);simp only[b,aj];rw[ab (by omega)];exact .inr rfl
   ·have hs:=Ss k;have j:¬i<d.length:=by omega
    simp only[j,og,af];rw[<-hs];by_cases f:pre d (i+1)<=10000000000000000
    ·have b:decide (((pre d (i+1):Nat):Int)>10000000000000000)=false:=au (by omega);simp only[b,af];exact .inl ⟨_,rfl,⟨i+1,g,f,rfl⟩,by simp only[bX];omega,trivial⟩
    ·have b:decide (((pre d (i+1):Nat):Int)>10000000000000000)=true:=ar (by omega);simp only[b,aj];rw[ab (by omega)];exact .inr rfl
  ·have:i=d.length+x:=by omega
   subst this;simp only[G5,og,af];rw[a]at hp ⊢;rw[ae hp];exact .inr rfl) n (d,(x:Int),0,0) ⟨0,by omega,by unfold pre E16;simp[qz],by unfold pre;simp[qz]⟩ (by simp;omega)
 simp only[ak,this,ob];by_cases h:dval 0 d*10 ^ x<=E16
 ·rw[ae h,ae h]
 ·rw[ab h,ab h]
def okM(d:aa)(x:Int):Prop:=(∀c∈d,bD c=true)/\1<=d.length/\d.length<=17/\d.head?≠some 48/\0<=x/\x<=16/\¬(x=0/\d.length<5)/\dval 0 d*10 ^ x.toNat<=E16
def okL(d:aa)(x s:Int):Prop:=okM d x/\0<=s/\s<=(d.length:Int)+x
def okS(g:Bool)(d:aa)(x s:Int):Prop:=d.length=4/\(∀c∈d,bD c=true\/c=88)/\x=0/\¬(g=true/\all0 d=true)/\0<=s/\s<=4/\¬(0<s/\hasX d=true)
def okY(g l:Bool)(d:aa)(x s:Int):Prop:=if l=true then okL d x s else okS g d x s
instance (d:aa)(x:Int):Decidable (okM d x):=by unfold okM;infer_instance
instance (d:aa)(x s:Int):Decidable (okL d x s):=by unfold okL;infer_instance
instance (g:Bool)(d:aa)(x s:Int):Decidable (okS g d x s):=by unfold okS;infer_instance
instance (g l:Bool)(d:aa)(x s:Int):Decidable (okY g l d x s):=by unfold okY;infer_instance
def MO(d:aa):d.all bD=true↔∀c∈d,bD c=true:=bS
def Je(d:aa):(d.all λc=>bD c||c==88)=true↔∀c∈d,bD c=true\/c=88:=by
 rw[bS];constructor
 ·intro h c hc;have:=h c hc;simpa using this
 ·intro h c hc;have:=h c hc;simpa using this
def Wh(c:UInt8):(((c.toNat:Nat):Int)==48)=(c==48):=zr c 48
def Vx(n:Nat)(g l:Bool)(d:aa)(x s:Int)(A:200<n)(z:d.length<=100):ba n g l d x s=some (decide (okM d x)):=by
 unfold ba;by_cases w:d.length<1
 ·have e:decide (((d.length:Nat):Int)<1)=true:=ar (by omega);rw[e,au (λh:okM d x=>by have:=h.2.1;omega)];rfl
 ·have e:decide (((d.length:Nat):Int)<1)=false:=au (by omega);rw[e,af];by_cases y:d.length>17
  ·have e:decide (((d.length:Nat):Int)>17)=true:=ar (by omega);rw[e,au (λh:okM d x=>by have:=h.2.2.1;omega)];rfl
  ·have e:decide (((d.length:Nat):Int)>17)=false:=au (by omega);rw[e,af,Nn n d (by omega) (by omega)];simp only[ob];cases p:d.all bD with
   | false=>
    rw[au (λh:okM d x=>by rw[(MO d).2 h.1]at p;cases p)];rfl
   | true=>
    have a:=(MO d).1 p;obtain⟨c,r,rfl⟩:∃c r,d=c::r:=by
     cases d with
     | nil=>simp at w
     | cons c r=>exact⟨c,r,rfl⟩
    have o:sx (c::r) 0=some c:=by simp[sx]
    simp only[dL,af,o,Wh];by_cases j:c=48
    ·rw[au (λh:okM (c::r) x=>h.2.2.2.1 (by rw[j];rfl)),j];rfl
    ·have e:(c==48)=false:=aK.2 j;rw[e,af];by_cases u:x<0
     ·rw[ar u,au (λh:okM (c::r) x=>by have:=h.2.2.2.2.1;omega)];rfl
     ·rw[au u,af];by_cases t:x>16
      ·rw[ar t,au (λh:okM (c::r) x=>by have:=h.2.2.2.2.2.1;omega)];rfl
      ·rw[au t,af];obtain⟨k,rfl⟩:∃k:Nat,x=(k:Int):=⟨x.toNat,by omega⟩;have m:=NI n g l (c::r) k s a (by simp) (by omega) (by omega) (by omega);rw[m];have key:¬((k:Int)=0/\(c::r).length<5)->(okM (c::r) (k:Int)↔dval 0 (c::r)*10 ^ k<=E16):=by
        intro i;constructor
        ·intro h;simpa using h.2.2.2.2.2.2.2
        ·intro h;exact⟨a,by omega,by omega,by simpa using j,by omega,by omega,i,by simpa using h⟩
       have fin:¬((k:Int)=0/\(c::r).length<5)->(ob (some (if dval 0 (c::r)*10 ^ k<=E16 then(((dval 0 (c::r)*10 ^ k:Nat):Int),(0:Int))else(0,6))) λq=>(some (q.2==0)))=some (decide (okM (c::r) (k:Int))):=by
        intro i;by_cases b:dval 0 (c::r)*10 ^ k<=E16
        ·rw[ae b,ar ((key i).2 b)];rfl
        ·rw[ab b,au (λh=>b ((key i).1 h))];rfl
       by_cases f:(k:Int)=0
       ·have e:((k:Int)==0)=true:=bL.2 f;rw[e,aj];by_cases v:(c::r).length<5
        ·have e:decide ((((c::r).length:Nat):Int)<5)=true:=ar (by omega);rw[e,au (λh:okM (c::r) (k:Int)=>h.2.2.2.2.2.2.1 ⟨f,v⟩)];rfl
        ·have e:decide ((((c::r).length:Nat):Int)<5)=false:=au (by omega);rw[e,af];exact fin (λh=>v h.2)
       ·have e:((k:Int)==0)=false:=aK.2 f;rw[e,af];exact fin (λh=>f h.1)
def Qj(n:Nat)(g l:Bool)(d:aa)(x s:Int)(c:200<n)(e:d.length<=100):
  (ob (ba n g l d x s) λr=>(cond (!r) (some (6:Int)) (cond (decide (s<0)) (some 6) (cond (decide (s>(wrap .i64 (((d.length:Nat):Int)+x)))) (some 6) (some 0)))))=some (if okL d x s then 0 else 6):=by
 rw[Vx n g l d x s c e];simp only[ob];by_cases h:okM d x
 ·rw[ar h];have hx:=h.2.2.2.2;have w:wrap .i64 (((d.length:Nat):Int)+x)=((d.length:Nat):Int)+x:=wrap_i64 _ (by omega) (by omega);rw[w];simp only[dL,af,bW];by_cases b:s<0
  ·rw[ae b,ab (λq:okL d x s=>by have:=q.2.1;omega)]
  ·rw[ab b];by_cases a:s>((d.length:Nat):Int)+x
   ·rw[ae a,ab (λq:okL d x s=>by have:=q.2.2;omega)]
   ·rw[ab a,ae ⟨h,by omega,by omega⟩]
 ·rw[au h,ab (λq:okL d x s=>h q.1)];rfl
def BS(n:Nat)(g l:Bool)(d:aa)(x s:Int)(z:200<n)(v:d.length<=100):cL n g l d x s=some (if okY g l d x s then 0 else 6):=by
 obtain⟨y,A,hy⟩:=Vr n d (by omega) (by omega);unfold cL;rw[KE n d (by omega) (by omega),A,uw];cases l with
 | true=>
  have b:(if okY g true d x s then(0:Int)else 6)=if okL d x s then 0 else 6:=by simp only[okY,aN]
  rw[b];have st:=Qj n g true d x s z v;simp only[aj];generalize(ob (ba n g true d x s) λr=>(cond (!r) (some (6:Int)) (cond (decide (s<0)) (some 6) (cond (decide (s>(wrap .i64 (((d.length:Nat):Int)+x)))) (some 6) (some 0)))))=T at st ⊢;simp only[ob];rw[st];cases(((d.length:Nat):Int)==4)<;>cases(d.all λc=>bD c||c==88)<;>cases(x==0)<;>cases g<;>cases(y==[])<;>cases(s != 0)<;>rfl
 | false=>
  have b:(if okY g false d x s then(0:Int)else 6)=if okS g d x s then 0 else 6:=by simp only[okY,bQ,aF]
  rw[b];simp only[af,ob];by_cases f:d.length=4
  ·have i:(((d.length:Nat):Int)==4)=true:=bL.2 (by omega);rw[i,aj];cases h:(d.all λc=>bD c||c==88)with
   | false=>
    rw[ab (λq:okS g d x s=>by rw[(Je d).2 q.2.1]at h;cases h)];rfl
   | true=>
    have e:=(Je d).1 h;rw[aj];by_cases m:x=0
    ·subst m;have w:wrap .i64 (((d.length:Nat):Int)+0)=4:=by rw[f];decide
     rw[w];have a:¬(g=true/\all0 d=true)->(cond (s != 0) (cond (!(!hasX d)) (some (6:Int)) (cond (decide (s<0)) (some 6) (cond (decide (s>4)) (some 6) (some 0)))) (cond (decide (s<0)) (some 6) (cond (decide (s>4)) (some 6) (some 0))))=some (if okS g d 0 s then 0 else 6):=by
      intro t;simp only[bW,wC,Bool.not_not];by_cases s0:s=0
      ·subst s0;rw[ae rfl,ab (by omega),ab (by omega),ae ⟨f,e,rfl,t,by omega,by omega,by omega⟩]
      ·rw[ab s0];cases o:hasX d with
       | true=>
        by_cases j:s<0
        ·rw[ab (λq:okS g d 0 s=>by have:=q.2.2.2.2.1;omega)];rfl
        ·rw[ab (λq:okS g d 0 s=>q.2.2.2.2.2.2 ⟨by omega,o⟩)];rfl
       | false=>
        rw[af];by_cases j:s<0
        ·rw[ae j,ab (λq:okS g d 0 s=>by have:=q.2.2.2.2.1;omega)]
        ·rw[ab j];by_cases u:s>4
         ·rw[ae u,ab (λq:okS g d 0 s=>by have:=q.2.2.2.2.2.1;omega)]
         ·rw[ab u,ae ⟨f,e,rfl,t,by omega,by omega,λq=>by rw[o]at q;cases q.2⟩]
     have k:((0:Int)==0)=true:=rfl;rw[k,aj];cases g with
     | false=>
      simp only[af];exact a (by simp)
     | true=>
      simp only[aj];rw[hy];cases p:all0 d with
      | true=>rw[ab (λq:okS true d 0 s=>q.2.2.2.1 ⟨rfl,p⟩)];rfl
      | false=>
       simp only[kL,aj];exact a (by rw[p];simp)
    ·have k:(x==0)=false:=aK.2 m;rw[k,ab (λq:okS g d x s=>m q.2.2.1)];rfl
  ·have i:(((d.length:Nat):Int)==4)=false:=aK.2 (by omega);rw[i,ab (λq:okS g d x s=>f q.1)];rfl
def Tn(d:aa):cnt 48 57 d=d.length↔∀c∈d,bD c=true:=Ou 48 57 d
def Dx(n:Nat)(g l:Bool)(d:aa)(x s:Int)(L:200<n)(I:d.length<=100):cO n g l d x s=some (if okY g l d x s then 1 else 0):=by
 have hs:=Lj d;have t:=Hv d;have p:=QD d;have u:=Tn d;unfold cO;rw[HQ n d 48 57 (by omega) (by omega),HQ n d 88 88 (by omega) (by omega),HQ n d 48 48 (by omega) (by omega)];simp only[ob];generalize M:cnt 48 57 d=A at *;generalize N:cnt 88 88 d=B at *;have w0:wrap .i64 (((A:Nat):Int)+((B:Nat):Int))=((A+B:Nat):Int):=by rw[wrap_i64 _ (by omega) (by omega)];omega
 rw[w0];simp only[wC,bW,Jh];by_cases z:A+B=d.length
 ·rw[ae (by omega)];have o:=hs.2.1 z;by_cases H:s<0
  ·rw[ae H,ab];intro q;unfold okY at q;split at q
   ·have:=q.2.1;omega
   ·have:=q.2.2.2.2.1;omega
  ·rw[ab H];cases l with
   | false=>
    have i:(if okY g false d x s then(1:Int)else 0)=if okS g d x s then 1 else 0:=by simp only[okY,bQ,aF]
    rw[i,af];by_cases j:d.length=4
    ·rw[ae (by omega)];by_cases h:x=0
     ·rw[ae h];have a:¬(g=true/\all0 d=true)->(if s>4 then some (0:Int)else if s>0 then(if((B:Nat):Int)>0 then some 0 else some 1)else some 1)=some (if okS g d x s then 1 else 0):=by
       intro D;by_cases w:s>4
       ·rw[ae w,ab (λq:okS g d x s=>by have:=q.2.2.2.2.2.1;omega)]
       ·rw[ab w];by_cases G:s>0
        ·rw[ae G];by_cases m:((B:Nat):Int)>0
         ·rw[ae m,ab (λq:okS g d x s=>q.2.2.2.2.2.2 ⟨by omega,by rw[t];exact ar (by omega)⟩)]
         ·rw[ab m,ae ⟨j,o,h,D,by omega,by omega,λq=>by
           have:=q.2;rw[t,ch]at this;omega⟩]
        ·rw[ab G,ae ⟨j,o,h,D,by omega,by omega,λq=>by omega⟩]
      cases g with
      | false=>rw[af];exact a (by simp)
      | true=>
       rw[aj,gZ];by_cases b:all0 d=true
       ·rw[ae (by have:=p.1 b;omega),ab (λq:okS true d x s=>q.2.2.2.1 ⟨rfl,b⟩)]
       ·rw[ab (λq=>b (p.2 (by omega)))];exact a (λq=>b q.2)
     ·rw[ab h,ab (λq:okS g d x s=>h q.2.2.1)]
    ·rw[ab (by omega),ab (λq:okS g d x s=>j q.1)]
   | true=>
    have i:(if okY g true d x s then(1:Int)else 0)=if okL d x s then 1 else 0:=by simp only[okY,aN]
    rw[i,aj];by_cases m:((B:Nat):Int)>0
    ·rw[ae m,ab];intro q;have:=u.2 q.1.1;omega
    ·rw[ab m];have f:=u.1 (by omega);by_cases j:((A:Nat):Int)<1
     ·rw[ae j,ab (λq:okL d x s=>by have:=q.1.2.1;omega)]
     ·rw[ab j];by_cases h:((A:Nat):Int)>17
      ·rw[ae h,ab (λq:okL d x s=>by have:=q.1.2.2.1;omega)]
      ·rw[ab h];obtain⟨c,r,rfl⟩:∃c r,d=c::r:=by
        cases d with
        | nil=>simp at z;omega
        | cons c r=>exact⟨c,r,rfl⟩
       have y:sx (c::r) 0=some c:=by simp[sx]
       simp only[y,Wh,gZ];by_cases b:c=48
       ·rw[ae b,ab (λq:okL (c::r) x s=>q.1.2.2.2.1 (by rw[b];rfl))]
       ·rw[ab b];by_cases C:x<0
        ·rw[ae C,ab (λq:okL (c::r) x s=>by have:=q.1.2.2.2.2.1;omega)]
        ·rw[ab C];by_cases F:x>16
         ·rw[ae F,ab (λq:okL (c::r) x s=>by have:=q.1.2.2.2.2.2.1;omega)]
         ·rw[ab F];obtain⟨k,rfl⟩:∃k:Nat,x=(k:Int):=⟨x.toNat,by omega⟩;have J:wrap .i64 (((A:Nat):Int)+(k:Int))=((A+k:Nat):Int):=by rw[wrap_i64 _ (by omega) (by omega)];omega
          rw[J,jH n (c::r) k f I (by omega) (by omega)];have v:(c::r).length=A:=by omega
          have a:¬((k:Int)=0/\(c::r).length<5)->(if s>((A+k:Nat):Int)then some (0:Int)else some (if dval 0 (c::r)*10 ^ k<=E16 then(((dval 0 (c::r)*10 ^ k:Nat):Int),(1:Int))else(0,0)).2)=some (if okL (c::r) (k:Int) s then 1 else 0):=by
           intro K;by_cases w:s>((A+k:Nat):Int)
           ·rw[ae w,ab (λq:okL (c::r) (k:Int) s=>by have:=q.2.2;rw[v]at this;omega)]
           ·rw[ab w];by_cases e:dval 0 (c::r)*10 ^ k<=E16
            ·rw[ae e,ae ⟨⟨f,by omega,by omega,by simpa using b,by omega,by omega,K,by simpa using e⟩,by omega,by omega⟩]
            ·rw[ab e,ab (λq:okL (c::r) (k:Int) s=>e (by simpa using q.1.2.2.2.2.2.2.2))]
          by_cases e:(k:Int)=0
          ·rw[ae e];by_cases E:((A:Nat):Int)<5
           ·rw[ae E,ab (λq:okL (c::r) (k:Int) s=>q.1.2.2.2.2.2.2.1 ⟨e,by omega⟩)]
           ·rw[ab E];exact a (λq=>by omega)
          ·rw[ab e];exact a (λq=>e q.1)
 ·rw[ab (by omega),ab];intro q;apply z;rw[hs.2];unfold okY at q;split at q
  ·exactλc hc=>.inl (q.1.1 c hc)
  ·exact q.2.1
def Ls:∀(l:aa) (acc:Nat),acc*10 ^ l.length<=dval acc l
 | [],acc=>by rw[qz];simp
 | c::l,acc=>by
  have ih:=Ls l (vP acc c);rw[pN,aG,ts];have h:acc*10<=vP acc c:=AX _ _;have a:=o7 (10 ^ l.length) h;have b:acc*(10 ^ l.length*10)=acc*10*10 ^ l.length:=by rw[uV (10 ^ l.length) 10,Fo]
  omega
def qU:∀(l:aa) (acc k:Nat),(∀c∈l,bD c=true)->acc<10 ^ k->dval acc l<10 ^ (l.length+k)
 | [],acc,k,_,h=>by rw[qz];simpa using h
 | c::l,acc,k,b,h=>by
  have hc:=(eo c).1 (b c (by simp));have hp:(10:Nat) ^ (k+1)=10 ^ k*10:=ts 10 k;have hs:vP acc c=acc*10+(c.toNat - 48):=rfl;have ih:=qU l (vP acc c) (k+1) (λd a=>b d (by simp[a])) (by omega);rw[pN,aG,show l.length+1+k=l.length+(k+1)by omega];exact ih
structure Num(d:aa)(k q:Nat):Prop where
 dig:∀c∈d,bD c=true
 ne:d≠[]
 wide:d.length+k<=17
 small:dval 0 d*10 ^ k<=E16
 sig:q<=d.length+k
def uA{d:aa}(h:∀c∈d,bD c=true):hasX d=false:=by
 unfold hasX;rw[sW];intro c hc a;rw[bL]at a;have:=(eo c).1 (h c hc);rw[a]at this;exact absurd this.2 (by decide)
def sP{g l:Bool}{d:aa}{x s:Int}(h:okY g l d x s)(m:hasX d=false):∃k q:Nat,x=(k:Int)/\s=(q:Int)/\Num d k q:=by
 cases l with
 | true=>
  have h:okL d x s:=by simpa[okY]using h
  obtain⟨⟨a,f,w,n,C,y,z,A⟩,u,v⟩:=h;refine⟨x.toNat,s.toNat,by omega,by omega,a,by intro e;subst e;simp at f,?_,A,by omega⟩;cases d with
  | nil=>simp at f
  | cons c r=>
   have hc:=(eo c).1 (a c (by simp));have j:c≠48:=by simpa using n
   have i:1<=vP 0 c:=by
    have:c.toNat≠48:=λe=>j (iE.1 e);show 1<=0*10+(c.toNat - 48);omega
   have B:=Ls r (vP 0 c);rw[<-pN]at B;have u:10 ^ r.length<=dval 0 (c::r):=by
    have:=o7 (10 ^ r.length) i;omega
   have o:=o7 (10 ^ x.toNat) u;rw[<-Nat.pow_add]at o;rcases aJ (r.length+x.toNat) 17 with b | p
   ·simp only[aG];omega
   ·have:=UX p;omega
 | false=>
  have h:okS g d x s:=by simpa[okY]using h
  obtain⟨a,f,w,n,C,y,z⟩:=h;have t:∀c∈d,bD c=true:=by
   intro c hc;rcases f c hc with h | h
   ·exact h
   ·exfalso;unfold hasX at m;rw[sW]at m;exact m c hc (bL.2 h)
  have b:=qU d 0 0 t (by simp);rw[a]at b;refine⟨0,s.toNat,by omega,by omega,t,by intro e;subst e;simp at a,by omega,?_,by omega⟩;have n:(10:Nat) ^ (4+0)=10000:=by decide
  unfold E16;simp only[C5,rI];omega
def val(d:aa)(k:Nat):Nat:=dval 0 d*10 ^ k
def CG(n:Nat)(g l:Bool)(d:aa)(x s:Int)(b:200<n)(c:d.length<=100):
  eW n g l d x s=some (if okY g l d x s/\hasX d=false then(if g then -((val d x.toNat:Nat):Int)else((val d x.toNat:Nat):Int),0)else(0,6)):=by
 unfold eW;rw[BS n g l d x s b c,uw];simp only[ob];by_cases h:okY g l d x s
 ·rw[ae h];cases e:hasX d with
  | true=>rw[ab (by simp)];rfl
  | false=>
   rw[ae ⟨h,rfl⟩];obtain⟨k,q,rfl,rfl,a⟩:=sP h e;rw[NI n g l d k q a.dig a.ne (by have:=a.wide;omega) (by have:=a.wide;omega) (by omega),ae a.small];have hs:=a.small;unfold E16 at hs;cases g with
   | true=>
    simp only[eT,af,aj,bX,val,aN];rw[wrap_i64 _ (by omega) (by omega),zq]
   | false=>simp[val]
 ·rw[ab h,ab (λq=>h q.1)];rfl
def eK{a b:aa}(h:a.length+b.length<=1000000):cat a b=some (a++b):=by
 unfold cat;rw[ae (by omega)]
def cut1{l:aa}{i:Nat}{c:UInt8}(h:l[i]?=some c):List.drop i (List.take (i+1) l)=[c]:=by
 have a:=xx h;rw[qX,h,EN (by rw[dA];omega)];rfl
def U4{l:aa}{i:Nat}{c:UInt8}(h:l[i]?=some c):List.take (i+1) l=List.take i l++[c]:=by
 rw[qX,h];rfl
def qW{g l:Bool}{d:aa}{x s:Int}(h:okY g l d x s)(a:hasX d=true):l=false/\x=0/\s=0/\d.length=4/\∀c∈d,bD c=true\/c=88:=by
 cases l with
 | true=>
  have h:okL d x s:=by simpa[okY]using h
  rw[uA h.1.1]at a;cases a
 | false=>
  have h:okS g d x s:=by simpa[okY]using h
  obtain⟨i,b,j,m,n,k,f⟩:=h;refine⟨rfl,j,?_,i,b⟩;have:¬0<s:=λe=>f ⟨e,a⟩;omega
def iJ{g l:Bool}{d:aa}{x s:Int}(h:okY g l d x s):0<=x/\x<=16/\0<=s/\s<=17/\1<=d.length/\d.length<=17:=by
 cases b:hasX d with
 | true=>
  obtain⟨rfl,rfl,rfl,j,_⟩:=qW h b;omega
 | false=>
  obtain⟨k,q,rfl,rfl,a⟩:=sP h b;have f:=a.wide;have e:=a.sig;have i:1<=d.length:=by
   cases d with
   | nil=>exact absurd rfl a.ne
   | cons c r=>simp
  omega
def KI{g l:Bool}{d:aa}{x s:Int}(h:okY g l d x s):vK d x s=true:=by
 obtain⟨c,a,f,e,i,b⟩:=iJ h;unfold vK;rw[ar (by omega),cD (by omega)];rfl
def numU(d:UInt8):aa->Nat⊕(Nat×Nat)
 | []=>.inr (d.toNat - 48,2)
 | e::_=>if bD e=true then .inr (10*(d.toNat - 48)+(e.toNat - 48),3)else .inr (d.toNat - 48,2)
def numT:aa->Nat⊕(Nat×Nat)
 | []=>.inl 1
 | d::r=>if 49<=d.toNat/\d.toNat<=57 then numU d r else .inl 1
def numS(letter:UInt8):aa->Nat⊕(Nat×Nat)
 | []=>.inr (0,0)
 | c::r=>if c=letter then numT r else .inr (0,0)
def Bf(letter:UInt8):numS letter []=.inr (0,0):=rfl
def pF(letter c:UInt8)(r:aa):numS letter (c::r)=if c=letter then numT r else .inr (0,0):=rfl
def BK:numT []=.inl 1:=rfl
def rP(d:UInt8)(r:aa):numT (d::r)=if 49<=d.toNat/\d.toNat<=57 then numU d r else .inl 1:=rfl
def wa(d:UInt8):numU d []=.inr (d.toNat - 48,2):=rfl
def pg(d e:UInt8)(r:aa):numU d (e::r)=if bD e=true then .inr (10*(d.toNat - 48)+(e.toNat - 48),3)else .inr (d.toNat - 48,2):=rfl
def zP(c:UInt8)(h:c.toNat<128):(Utf8.encode ((c.toNat:Nat):Int)).data.toList=[c]:=by
 have:=jz (λc=>(decide (128<=c.toNat))||(Utf8.encode ((c.toNat:Nat):Int)).data.toList==[c]) (by decide +kernel) c;simp only[iq,ch,bL]at this;rcases this with a | a
 ·omega
 ·exact a
def rj{c:UInt8}(h:48<=c.toNat/\c.toNat<=57):Lib.digitVal c=some (c.toNat - 48):=by
 unfold Lib.digitVal;rw[ae h]
def zQ{c:UInt8}(h:48<=c.toNat/\c.toNat<=57)(r:aa):Lib.atoi (c::r)=(Lib.decNat (c::r)).map λ(m:Nat)=>(m:Int):=by
 have b:(c==45)=false:=by
  rw[aK];rintro rfl;exact absurd h.1 (by decide)
 have a:(c==43)=false:=by
  rw[aK];rintro rfl;exact absurd h.1 (by decide)
 simp only[Lib.atoi,b,a,bQ,aF]
def Q3{c:UInt8}(h:48<=c.toNat/\c.toNat<=57):Lib.atoi [c]=some ((c.toNat - 48:Nat):Int):=by
 rw[zQ h];simp only[Lib.decNat,List.isEmpty_cons,bQ,aF,Lib.decFrom,rj h,fh,A7,cK]
def HS{c e:UInt8}(h:48<=c.toNat/\c.toNat<=57)(a:48<=e.toNat/\e.toNat<=57):Lib.atoi [c,e]=some ((10*(c.toNat - 48)+(e.toNat - 48):Nat):Int):=by
 rw[zQ h];simp only[Lib.decNat,List.isEmpty_cons,bQ,aF,Lib.decFrom,rj h,rj a,fh,A7,cK];rw[uV]
def zJ(c:UInt8):hasB [49,50,51,52,53,54,55,56,57] c=decide (49<=c.toNat/\c.toNat<=57):=by
 have:=jz (λc=>hasB [49,50,51,52,53,54,55,56,57] c==decide (49<=c.toNat/\c.toNat<=57)) (by decide +kernel) c;simpa using this
def nU{p q:UInt8->Bool}(h:∀c,p c=q c):∀(k:Nat) (l:aa),cR p k l=cR q k l
 | 0,_=>by simp[cR]
 | _+1,[]=>by simp[cR]
 | k+1,c::l=>by simp only[cR,h c,nU h k l]
def GA{S:aa}{a:Nat}{c:UInt8}{r:aa}(h:S.drop a=c::r):a<S.length/\S[a]?=some c/\S.drop (a+1)=r:=by
 have b:a<S.length:=by
  rcases aJ a S.length with q | q
  ·exact q
  ·rw[mB q]at h;cases h
 have d:S[a]?=some S[a]:=bu b;have e:=gm d;rw[h]at e;injection e with h1 h2;exact⟨b,by rw[d,h1],h2.symm⟩
def LX(n:Nat)(letter:UInt8)(S:aa)(a:Nat)(h:a<=S.length)(E:S.length<100000)(A:S.length<n):
  dp n [letter] S (a:Int)=some (match numS letter (S.drop a)with | .inl k=>.inr (((a+k:Nat):Int),5,S,((a+k:Nat):Int)) | .inr (v,k)=>.inl ((v:Int),S,((a+k:Nat):Int))):=by
 unfold dp;rw[nH n [letter] S a h (by omega)];cases z:S.drop a with
 | nil=>simp[Bf]
 | cons c r=>
  obtain⟨B,D,u⟩:=GA z;rw[pF];by_cases hc:c=letter
  ·have i:List.take [letter].length (c::r)=[letter]:=by simp[hc]
   have l:a+[letter].length=a+1:=rfl;rw[ae i,l,ae hc];clear i;simp only[ob,dL,af];rw[C2 n _ S (a+1) (by omega) (by omega),u];cases r with
   | nil=>simp[BK]
   | cons d x=>
    obtain⟨w,y,q⟩:=GA u;rw[rP];simp only[zJ,ch];by_cases b:49<=d.toNat/\d.toNat<=57
    ·rw[ae b,ae b];simp only[];rw[wi n _ 0 1 S (a+1+1) (by omega) (by omega) A,q];have F:=oz (hasB [48,49,50,51,52,53,54,55,56,57]) (1:Int).toNat x;rw[ab (by omega)];rw[nU yY];simp only[];rw[zP d (by omega)];have g:Nat.ble ([d]:aa).length 18=true:=rfl;have o:∀e:UInt8,Nat.ble ([d,e]:aa).length 18=true:=λ_=>rfl;have s:a+1+1=a+2:=rfl;have C:a+2+1=a+3:=rfl;have t:=Q3 (show 48<=d.toNat/\d.toNat<=57 by omega);cases x with
     | nil=>
      have hs:cR bD (1:Int).toNat []=0:=rfl;rw[hs,wa];rw[eK (by simp)];simp only[List.take_nil,lH,dK,g,aj,t,opt,s]
     | cons e f=>
      by_cases j:bD e=true
      ·have hs:cR bD (1:Int).toNat (e::f)=1:=by
        show cR bD (0+1) (e::f)=1;simp[cR,j]
       have p:=HS (show 48<=d.toNat/\d.toNat<=57 by omega) ((eo e).1 j);rw[hs,pg,ae j];have m:List.take 1 (e::f)=[e]:=rfl;rw[m,eK (by simp)];simp only[fi,dO,o,aj,p,opt,s,C]
      ·have hs:cR bD (1:Int).toNat (e::f)=0:=by
        show cR bD (0+1) (e::f)=0;simp[cR,j]
       rw[hs,pg,ab j];have m:List.take 0 (e::f)=[]:=rfl;rw[m,eK (by simp)];simp only[lH,g,aj,t,opt,dK,s]
    ·rw[ab b,ab b]
  ·have e:¬List.take [letter].length (c::r)=[letter]:=by simp[hc]
   rw[ab e,ab hc];simp
def isDX(c:UInt8):Bool:=bD c||c==88
abbrev YR:=Bool×Bool×aa×Nat×Nat×Nat
def CP(g:Bool)(o:Nat):aa->Nat⊕YR
 | []=>.inl o
 | c::r=>if 49<=c.toNat/\c.toNat<=57 then
   (match numS 69 ((c::r).drop (1+cR bD 16 r))with
   | .inl j=>.inl (o+(1+cR bD 16 r)+j)
   | .inr (x,j)=>(match numS 83 ((c::r).drop (1+cR bD 16 r+j))with
    | .inl i=>.inl (o+(1+cR bD 16 r)+j+i)
    | .inr (s,i)=>.inr (g,true,(c::r).take (1+cR bD 16 r),x,s,o+(1+cR bD 16 r)+j+i)))
  else .inl o
def zR(g:Bool)(o:Nat)(l:aa):Nat⊕YR:=
 if cR isDX 4 l<4 then .inl (o+cR isDX 4 l)else
  (match numS 83 (l.drop 4)with
  | .inl i=>.inl (o+4+i)
  | .inr (s,i)=>.inr (g,false,l.take 4,0,s,o+4+i))
def gB(c:UInt8)(l:aa):Nat:=if l.take 1=[c]then 1 else 0
def us(l:aa):Nat⊕YR:=
 if gB 89 l=1 then CP (gB 45 (l.drop 1)==1) (1+gB 45 (l.drop 1)) (l.drop (1+gB 45 (l.drop 1)))
 else zR (gB 45 l==1) (gB 45 l) (l.drop (gB 45 l))
def ma(c:UInt8)(l:aa):gB c l=0\/gB c l=1:=by
 unfold gB;split
 ·exact .inr rfl
 ·exact .inl rfl
def Bo(c:UInt8)(l:aa):gB c l<=l.length:=by
 unfold gB;split
 ·rename_i h;cases l with
  | nil=>simp at h
  | cons a l=>simp
 ·omega
def uH(n:Nat)(c:UInt8)(S:aa)(a:Nat)(h:a<=S.length)(b:S.length<100000):
  aC n [c] S (a:Int)=some (gB c (S.drop a)==1,S,((a+gB c (S.drop a):Nat):Int)):=by
 rw[nH n [c] S a h (by omega)];unfold gB;have e:[c].length=1:=rfl;rw[e];split<;>rfl
def zh(S:aa)(a:Nat):Nat⊕YR->(Int×Int×aa×Int)⊕(Bool×Bool×aa×Int×Int×aa×Int)
 | .inl k=>.inl (((a+k:Nat):Int),5,S,((a+k:Nat):Int))
 | .inr (g,l,d,x,s,k)=>.inr (g,l,d,(x:Int),(s:Int),S,((a+k:Nat):Int))
def TN(letter:UInt8)(l:aa):(match numS letter l with | .inl k=>k<=l.length | .inr (_,k)=>k<=l.length):=by
 cases l with
 | nil=>simp[Bf]
 | cons c r=>
  rw[pF];by_cases hc:c=letter
  ·rw[ae hc];cases r with
   | nil=>simp[BK]
   | cons d f=>
    rw[rP];by_cases a:49<=d.toNat/\d.toNat<=57
    ·rw[ae a];cases f with
     | nil=>simp[wa]
     | cons e g=>
      rw[pg];by_cases b:bD e=true
      ·rw[ae b];simp
      ·rw[ab b];simp
    ·rw[ab a];simp
  ·rw[ab hc];simp
def KB{letter:UInt8}{S:aa}{a:Nat}(h:a<=S.length){v k:Nat}(b:numS letter (S.drop a)=.inr (v,k)):a+k<=S.length:=by
 have:=TN letter (S.drop a);rw[b,ci]at this;simp only at this;omega
def Tq(n:Nat)(S:aa)(a o:Nat)(g:Bool)(h:a+o<=S.length)(I:S.length<100000)(E:S.length<n):
  (ob (cr n [49,50,51,52,53,54,55,56,57] S ((a+o:Nat):Int)) λB=>(Sum.casesOn (motive:=λ_=>Option ((Int×Int×aa×Int)⊕(Bool×Bool×aa×Int×Int×aa×Int))) B (λb=>(some (.inl (b.1,b.2.1,b.2.2.1,b.2.2.2)))) (λq=>(ob (cc n [48,49,50,51,52,53,54,55,56,57] 0 16 q.2.1 q.2.2) λv=>(Sum.casesOn (motive:=λ_=>Option _) v (λd=>(some (.inl (d.1,d.2.1,d.2.2.1,d.2.2.2)))) (λl=>(ob (cat (Utf8.encode q.1).data.toList l.1) λw=>(ob (dp n [69] l.2.1 l.2.2) λz=>(Sum.casesOn (motive:=λ_=>Option _) z (λt=>(ob (dp n [83] t.2.1 t.2.2) λA=>(Sum.casesOn (motive:=λ_=>Option _) A (λm=>(some (.inr (g,true,w,t.1,m.1,m.2.1,m.2.2)))) (λe=>(some (.inl (e.1,e.2.1,e.2.2.1,e.2.2.2))))))) (λf=>(some (.inl (f.1,f.2.1,f.2.2.1,f.2.2.2)))))))))))))=some (zh S a (CP g o (S.drop (a+o)))):=by
 rw[C2 n _ S (a+o) h (by omega)];cases D:S.drop (a+o)with
 | nil=>simp[CP,zh,ob]
 | cons c r=>
  obtain⟨L,R,H⟩:=GA D;simp only[zJ,ch];by_cases hc:49<=c.toNat/\c.toNat<=57
  ·rw[ae hc];simp only[ob];rw[wi n _ 0 16 S (a+o+1) (by omega) (by omega) E,H];rw[ab (by omega),nU yY];simp only[];rw[zP c (by omega)];have F:(16:Int).toNat=16:=rfl;rw[F];have P:=oz bD 16 r;have K:r.length+(a+o+1)=S.length:=by
    have:=co List.length H;rw[ci]at this;omega
   rw[eK (by simp only[aG,cE,dA];omega)];simp only[CP];rw[ae hc];generalize T:cR bD 16 r=k at P ⊢;have N:[c]++List.take k r=List.take (1+k) (c::r):=by rw[oP];rfl
   rw[N];have u:a+o+1+k<=S.length:=by omega
   have C:List.drop (1+k) (c::r)=S.drop (a+o+1+k):=by
    rw[<-D,kK];congr 1;omega
   rw[LX n 69 S (a+o+1+k) u I E,<-C];cases M:numS 69 (List.drop (1+k) (c::r))with
   | inl j=>
    simp only[zh];have:a+o+1+k+j=a+(o+(1+k)+j):=by omega
    rw[this]
   | inr p=>
    obtain⟨x,j⟩:=p;have J:=M;rw[C]at J;have G:=KB u J;have y:List.drop (1+k+j) (c::r)=S.drop (a+o+1+k+j):=by
     rw[<-D,kK];congr 1;omega
    simp only[];rw[LX n 83 S (a+o+1+k+j) G I E,<-y];cases O:numS 83 (List.drop (1+k+j) (c::r))with
    | inl i=>
     simp only[zh];have:a+o+1+k+j+i=a+(o+(1+k)+j+i):=by omega
     rw[this]
    | inr Q=>
     obtain⟨s,i⟩:=Q;simp only[zh];have:a+o+1+k+j+i=a+(o+(1+k)+j+i):=by omega
     rw[this]
  ·rw[ab hc];simp only[ob,CP];rw[ab hc];rfl
def Qf(n:Nat)(S:aa)(a o:Nat)(g:Bool)(h:a+o<=S.length)(w:S.length<100000)(u:S.length<n):
  (ob (cc n [88,48,49,50,51,52,53,54,55,56,57] 4 4 S ((a+o:Nat):Int)) λm=>(Sum.casesOn (motive:=λ_=>Option ((Int×Int×aa×Int)⊕(Bool×Bool×aa×Int×Int×aa×Int))) m (λb=>(some (.inl (b.1,b.2.1,b.2.2.1,b.2.2.2)))) (λe=>(ob (dp n [83] e.2.1 e.2.2) λj=>(Sum.casesOn (motive:=λ_=>Option _) j (λf=>(some (.inr (g,false,e.1,0,f.1,f.2.1,f.2.2)))) (λd=>(some (.inl (d.1,d.2.1,d.2.2.1,d.2.2.2)))))))))=some (zh S a (zR g o (S.drop (a+o)))):=by
 rw[wi n _ 4 4 S (a+o) h (by omega) u];have r:∀c,hasB [88,48,49,50,51,52,53,54,55,56,57] c=isDX c:=vq;have x:(4:Int).toNat=4:=rfl;rw[nU r,x];unfold zR;have v:=oz isDX 4 (S.drop (a+o));rw[ci]at v;by_cases q:cR isDX 4 (S.drop (a+o))<4
 ·rw[ae (by omega),ae q];simp only[ob,zh];rw[ig]
 ·rw[ab (by omega),ab q];have t:∀(k:Nat) (l:aa),cR isDX k l<=k:=by
   intro k
   induction k with
   | zero=>intro l;simp[cR]
   | succ k ih=>
    intro l;cases l with
    | nil=>simp[cR]
    | cons c l=>
     have:=ih l;simp only[cR];split<;>omega
  have y:cR isDX 4 (S.drop (a+o))=4:=by have:=t 4 (S.drop (a+o));omega
  rw[y]at v ⊢;simp only[ob];have hp:a+o+4<=S.length:=by omega
  rw[LX n 83 S (a+o+4) hp w u,kK];cases z:numS 83 (S.drop (a+o+4))with
  | inl i=>
   simp only[zh];have:a+o+4+i=a+(o+4+i):=by omega
   rw[this]
  | inr p=>
   obtain⟨s,i⟩:=p;simp only[zh];have:a+o+4+i=a+(o+4+i):=by omega
   rw[this];rfl
def Ve(n:Nat)(S:aa)(a:Nat)(h:a<=S.length)(d:S.length<100000)(f:S.length<n):
  md n S (a:Int)=some (zh S a (us (S.drop a))):=by
 unfold md;rw[uH n 89 S a h d];have c:=Bo 89 (S.drop a);rw[ci]at c;simp only[ob];rw[uH n 45 S (a+gB 89 (S.drop a)) (by omega) d];have b:=Bo 45 (S.drop (a+gB 89 (S.drop a)));rw[ci]at b;simp only[];unfold us;rcases ma 89 (S.drop a)with e | e
 ·rw[e]at b ⊢;simp only[dK,show((0:Nat)==1)=false from rfl,af,show¬((0:Nat)=1)from by decide,aF,kK]at b ⊢;have:=Qf n S a (gB 45 (S.drop a)) (gB 45 (S.drop a)==1) (by omega) d f;exact this
 ·rw[e]at b ⊢;simp only[show((1:Nat)==1)=true from rfl,aj,aN,kK]at b ⊢;have:=Tq n S a (1+gB 45 (S.drop (a+1))) (gB 45 (S.drop (a+1))==1) (by omega) d f;rw[<-ig]at this;rw[<-ig];exact this
def xp(p:UInt8->Bool):∀(k:Nat) (l:aa),cR p k l<=k
 | 0,l=>by simp[cR]
 | k+1,[]=>by simp[cR]
 | k+1,c::l=>by
  have:=xp p k l;simp only[cR];split<;>omega
def uU(c a:UInt8)(l:aa):gB c (a::l)=if a=c then 1 else 0:=by
 unfold gB;simp
def wint(c:Int):Bool:=c==24||c==28||c==30
def rN(g:Bool)(d:aa)(x:Int):Bool:=!hasX d&&!g&&decide (val d x.toNat=E16)
def yrB(g:Bool)(d:aa)(x s:Int)(m:aa):Bool:=!(decide (0<s)&&!(m==[]))&&!(wint (sea m)&&rN g d x)
def DY(n:Nat)(t:200<n)(g l:Bool)(dg:aa)(x q:Int)(m d:aa)(k0 k1 k2:Int)(F:m.length<=18)(p:dg.length<=100):
  fR n g l dg x q m d k0 k1 k2=some (if okY g l dg x q then yrB g dg x q m else false):=by
 unfold fR;rw[BS n g l dg x q t p,o8 n g l dg x q m d k0 k1 k2 F,uw,CG n g l dg x q t p];by_cases h:okY g l dg x q
 rotate_left
 ·rw[ab h,ab h];rfl
 rw[ae h,ae h];have body:(ob (some (sea m,decide (0<sea m))) λr=>(cond (!r.2) (some true) (ob (some (hasX dg)) λw=>(cond w (some true) (ob (some (if okY g l dg x q/\hasX dg=false then(if g then -((val dg x.toNat:Nat):Int)else((val dg x.toNat:Nat):Int),(0:Int))else(0,6))) λv=>(ob (iC n v.1 r.1) λu=>(some (u.2.2.2.2==0))))))))=some (!(wint (sea m)&&rN g dg x)):=by
  rcases pU m with C | ⟨j,s,rfl⟩
  ·rw[C];rfl
  ·have hs:=ll s;rw[hs];have hp:decide (0<((21+j:Nat):Int))=true:=by simp;omega
   rw[hp];cases o:hasX dg with
   | true=>
    have:rN g dg x=false:=by unfold rN;rw[o];rfl
    rw[this,H8];rfl
   | false=>
    rw[ae ⟨h,rfl⟩];obtain⟨k,G,rfl,rfl,y⟩:=sP h o;have A:val dg k<=E16:=y.small;unfold E16 at A;have hc:ej (if g then -((val dg k:Nat):Int)else((val dg k:Nat):Int)):=by
     unfold ej;cases g<;>simp<;>omega
    obtain⟨a,b,c,e,D⟩:=Xg n (by omega) hc s;simp only[ob,dL,af,bX];rw[D];simp only[aq];have B:wint ((21+j:Nat):Int)=decide (j=3\/j=7\/j=9):=by
     unfold wint;rw[vG];simp only[iq,bL,ch];omega
    have E:rN g dg (k:Int)=decide ((if g then -((val dg k:Nat):Int)else((val dg k:Nat):Int))=10000000000000000):=by
     unfold rN E16;rw[o,bX];cases g
     ·simp only[kL,pT,bQ,aF,uR];omega
     ·simp;omega
    rw[B,E];by_cases f:(if g then -((val dg k:Nat):Int)else((val dg k:Nat):Int))=10000000000000000<;>by_cases i:j=3\/j=7\/j=9
    ·rw[ae ⟨f,i⟩,ar f,ar i];rfl
    ·rw[ab (λz=>i z.2),au i];rfl
    ·rw[ab (λz=>f z.1),au f,H8];rfl
    ·rw[ab (λz=>f z.1),au f,H8];rfl
 show cond (decide (q>0)) (cond (!(m==[])) (some false) _) _=_;unfold yrB;rw[show(decide (q>0))=decide (0<q)from rfl];cases decide (0<q)with
 | false=>exact body
 | true=>
  cases(m==[])with
  | false=>rfl
  | true=>exact body
def QJ(n:Nat)(j:200<n)(g l:Bool)(dg:aa)(x q:Int)(m d:aa)(k0 k1 k2:Int)(f:dg.length<=100):
  ji n g l dg x q m d k0 k1 k2=some (if okY g l dg x q/\yrB g dg x q m=true then 1 else 0):=by
 unfold ji;rw[Dx n g l dg x q j f,nK n (by omega) g l dg x q m d k0 k1 k2,pj n g l dg x q (by omega) (by omega)];by_cases h:okY g l dg x q
 rotate_left
 ·rw[ab h,ab (show¬(okY g l dg x q/\yrB g dg x q m=true)fromλz=>h z.1)];rfl
 rw[ae h];have T:(ob (some (if hasX dg then(1:Int)else 0)) λr=>(cond (r==1) (some (1:Int)) (ob (ak n dg x) λv=>(cond (v.1==10000000000000000) (cond (!g) (some 0) (some 1)) (some 1)))))=some (if rN g dg x then 0 else 1):=by
  cases b:hasX dg with
  | true=>
   have:rN g dg x=false:=by unfold rN;rw[b];rfl
   rw[this];rfl
  | false=>
   obtain⟨k,o,rfl,rfl,a⟩:=sP h b;have i:=a.small;have p:=a.wide;have c:=jH n dg k a.dig (by omega) (by omega) (by omega);rw[ae i]at c;show ob (ak n dg (k:Int)) _=_;rw[c];show cond (((dval 0 dg*10 ^ k:Nat):Int)==10000000000000000) _ _=_;unfold rN val;rw[b,bX];have e:(((dval 0 dg*10 ^ k:Nat):Int)==10000000000000000)=decide (dval 0 dg*10 ^ k=E16):=by
    generalize dval 0 dg*10 ^ k=v;unfold E16;rw[vG];simp only[bL,ch];omega
   rw[e];cases decide (dval 0 dg*10 ^ k=E16)<;>cases g<;>rfl
 have body:(ob (some (sea m)) λr=>(cond (r != 24) (cond (r != 28) (cond (r != 30) (some (1:Int)) (ob (some (if hasX dg then(1:Int)else 0)) λr=>(cond (r==1) (some (1:Int)) (ob (ak n dg x) λv=>(cond (v.1==10000000000000000) (cond (!g) (some 0) (some 1)) (some 1)))))) (ob (some (if hasX dg then(1:Int)else 0)) λr=>(cond (r==1) (some (1:Int)) (ob (ak n dg x) λv=>(cond (v.1==10000000000000000) (cond (!g) (some 0) (some 1)) (some 1)))))) (ob (some (if hasX dg then(1:Int)else 0)) λr=>(cond (r==1) (some (1:Int)) (ob (ak n dg x) λv=>(cond (v.1==10000000000000000) (cond (!g) (some 0) (some 1)) (some 1)))))))=some (if(!(wint (sea m)&&rN g dg x))=true then 1 else 0):=by
  rw[T];show cond (sea m != 24) _ _=_;unfold wint;simp only[bne];cases(sea m==24)<;>cases(sea m==28)<;>cases(sea m==30)<;>cases rN g dg x<;>rfl
 unfold yrB;show cond (decide (q>0)) (cond (!(m==[])) (some 0) _) _=_;rw[show(decide (q>0))=decide (0<q)from rfl];simp only[h,kz];cases decide (0<q)with
 | false=>exact body
 | true=>
  cases(m==[])with
  | false=>rfl
  | true=>exact body
def bH(m d:aa):Nat:=1+(if m==[]then 0 else 1)+(if d==[]then 0 else 1)
def qt(n:Nat)(e:100<n)(g l:Bool)(dg:aa)(x q:Int)(m d:aa)(k0 k1 k2:Int):aV n g l dg x q m d k0 k1 k2=some ((bH m d:Nat):Int):=by
 obtain⟨n,rfl⟩:∃j,n=j+3:=⟨n - 3,by omega⟩;unfold aV bH;have s0:∀a:Int,ca (n+3) (a,m,d,0)=some (.inl (if m==[]then a else wrap .i64 (a+1),m,d,1)):=λa=>by
  unfold ca;show cond (!(m==[])) _ _=_;cases(m==[])<;>rfl
 have b:∀a:Int,ca (n+3) (a,m,d,1)=some (.inl (if d==[]then a else wrap .i64 (a+1),m,d,2)):=λa=>by
  unfold ca;show cond (!(d==[])) _ _=_;cases(d==[])<;>rfl
 have c:∀a:Int,ca (n+3) (a,m,d,2)=some (.inr a):=λa=>rfl;rw[av,s0];show ob (av _ (n+2) _) _=_;rw[av,b];show ob (av _ (n+1) _) _=_;rw[av,c];cases(m==[])<;>cases(d==[])<;>rfl
def dM(n:Nat)(g l:Bool)(dg:aa)(x q:Int)(m d:aa)(k0 k1 k2:Int):am n g l dg x q m d k0 k1 k2=some ((bH m d:Nat):Int):=by
 unfold am bH;cases(m==[])<;>cases(d==[])<;>rfl
def allM(a b c:Int)(k:Nat):Int:=if 3<a\/3<b\/3<c\/(k<2/\b≠0)\/(k<3/\c≠0)then 9 else 0
def GU(n:Nat)(v:3<n)(a b c:Int)(k:Nat)(w:1<=k/\k<=3)(u:0<=a)(t:0<=b)(hc:0<=c):
  bZ n [a,b,c] (k:Int)=some (allM a b c k):=by
 obtain⟨j,rfl⟩:∃j,n=j+4:=⟨n - 4,by omega⟩;have m:wrap .i64 1=1:=rfl;have f:wrap .i64 2=2:=rfl;have h:wrap .i64 3=3:=rfl;have l:ix 3 0=some 0:=rfl;have i:ix 3 1=some 1:=rfl;have g:ix 3 2=some 2:=rfl;have hk':k=1\/k=2\/k=3:=by omega
 unfold allM;by_cases e:a>3
 ·rcases hk' with rfl | rfl | rfl<;>simp[bZ,av,db,dw,ob,m,f,h,l,i,g,e]
 by_cases p:b>3
 ·rcases hk' with rfl | rfl | rfl<;>simp[bZ,av,db,dw,ob,m,f,h,l,i,g,e,p]
 by_cases d:k=1/\b≠0
 ·obtain⟨rfl,d⟩:=d;have q:b>0:=by omega
  have r:(b != 0)=true:=by simp[d]
  simp[bZ,av,db,dw,ob,m,f,h,l,i,g,e,p,q,d,r]
 by_cases s:c>3
 ·rcases hk' with rfl | rfl | rfl<;>(try (simp at d;subst d))<;>simp[bZ,av,db,dw,ob,m,f,h,l,i,g,e,p,s]
 by_cases o:k<3/\c≠0
 ·have q:c>0:=by omega
  have r:(c != 0)=true:=by simp[o.2]
  rcases hk' with rfl | rfl | rfl<;>(try (simp at d;subst d))<;>simp at o<;>simp[bZ,av,db,dw,ob,m,f,h,l,i,g,e,p,s,q,o,r]
 rcases hk' with rfl | rfl | rfl<;>(try (simp at d;subst d))<;>(try (simp at o;subst o))<;>simp[bZ,av,db,dw,ob,m,f,h,l,i,g,e,p,s]
def X3(n:Nat)(v:3<n)(a b c:Int)(k:Nat)(w:1<=k/\k<=3)(u:0<=a)(t:0<=b)(hc:0<=c):
  bZ n [a,b,c] (k:Int)=some (allM a b c k)/\bU n [a,b,c] (k:Int)=some (allM a b c k):=by
 obtain⟨j,rfl⟩:∃j,n=j+4:=⟨n - 4,by omega⟩;have m:wrap .i64 1=1:=rfl;have f:wrap .i64 2=2:=rfl;have h:wrap .i64 3=3:=rfl;have l:ix 3 0=some 0:=rfl;have i:ix 3 1=some 1:=rfl;have g:ix 3 2=some 2:=rfl;have hk':k=1\/k=2\/k=3:=by omega
 unfold allM;by_cases e:a>3
 ·rcases hk' with rfl | rfl | rfl<;>constructor<;>simp[bU,bZ,av,dI,db,dw,ob,m,f,h,l,i,g,e]
 by_cases p:b>3
 ·rcases hk' with rfl | rfl | rfl<;>constructor<;>simp[bU,bZ,av,dI,db,dw,ob,m,f,h,l,i,g,e,p]
 by_cases d:k=1/\b≠0
 ·obtain⟨rfl,d⟩:=d;have q:b>0:=by omega
  have r:(b != 0)=true:=by simp[d]
  constructor<;>simp[bU,bZ,av,dI,db,dw,ob,m,f,h,l,i,g,e,p,q,d,r]
 by_cases s:c>3
 ·rcases hk' with rfl | rfl | rfl<;>(try (simp at d;subst d))<;>constructor<;>simp[bU,bZ,av,dI,db,dw,ob,m,f,h,l,i,g,e,p,s]
 by_cases o:k<3/\c≠0
 ·have q:c>0:=by omega
  have r:(c != 0)=true:=by simp[o.2]
  rcases hk' with rfl | rfl | rfl<;>(try (simp at d;subst d))<;>simp at o<;>constructor<;>simp[bU,bZ,av,dI,db,dw,ob,m,f,h,l,i,g,e,p,s,q,o,r]
 rcases hk' with rfl | rfl | rfl<;>(try (simp at d;subst d))<;>(try (simp at o;subst o))<;>constructor<;>simp[bU,bZ,av,dI,db,dw,ob,m,f,h,l,i,g,e,p,s]
def kX(m d:aa):1<=bH m d/\bH m d<=3:=by
 unfold bH;cases(m==[])<;>cases(d==[])<;>simp
def yrD(g l:Bool)(dg:aa)(x q:Int)(m:aa):Bool:=if okY g l dg x q then yrB g dg x q m else false
def chkD(g l:Bool)(dg:aa)(x q:Int)(m d:aa)(k0 k1 k2:Int):Int:=
 cond (!(yrD g l dg x q m)) 6 (cond (!(m==[])&&(!(decide (0<sea m))&&!(ei m 12))) 7
  (cond (!(d==[])&&((m==[])||(decide (0<sea m)||!(ei d 31)))) 8 (allM k0 k1 k2 (bH m d))))
def SL(m:aa):0<=sea m:=by
 rcases pU m with h | ⟨j,a,rfl⟩
 ·omega
 ·rw[ll a];omega
def TM(m:aa):(sea m==0)=!(decide (0<sea m)):=by
 have:=SL m;by_cases h:sea m=0
 ·rw[h];rfl
 ·have a:0<sea m:=by omega
  rw[aK.2 h,ar a];rfl
def AS(n:Nat)(j:200<n)(g l:Bool)(dg:aa)(x q:Int)(m d:aa)(k0 k1 k2:Int)(a:m.length<=18)(e:dg.length<=100)(h:0<=k0)(f:0<=k1)(b:0<=k2):
  jx n g l dg x q m d k0 k1 k2=some (chkD g l dg x q m d k0 k1 k2):=by
 have hy:fR n g l dg x q m d k0 k1 k2=some (yrD g l dg x q m):=DY n j g l dg x q m d k0 k1 k2 a e;have a1:dn n m 12=some (ei m 12):=Dz n (by omega) m 12 (by omega);have a2:dn n d 31=some (ei d 31):=Dz n (by omega) d 31 (by omega);have c:=GU n (by omega) k0 k1 k2 (bH m d) (kX m d) h f b;unfold jx chkD;rw[o8 n g l dg x q m d k0 k1 k2 a,hy,a1,a2,qt n (by omega)];simp only[ob];rw[c];generalize yrD g l dg x q m=b1;generalize(m==[])=b2;generalize decide (0<sea m)=i;generalize ei m 12=k;generalize(d==[])=o;generalize ei d 31=p;cases b1<;>cases b2<;>cases i<;>cases k<;>cases o<;>cases p<;>rfl
def FC(n:Nat)(i:200<n)(g l:Bool)(dg:aa)(x q:Int)(m d:aa)(k0 k1 k2:Int)(c:dg.length<=100)(f:0<=k0)(e:0<=k1)(a:0<=k2):
  kn n g l dg x q m d k0 k1 k2=some (chkD g l dg x q m d k0 k1 k2):=by
 have hy:ji n g l dg x q m d k0 k1 k2=some (if yrD g l dg x q m then 1 else 0):=by
  rw[QJ n i g l dg x q m d k0 k1 k2 c];unfold yrD;by_cases h:okY g l dg x q
  ·simp only[h,kz,aN]
  ·simp only[h,yv,aF];rfl
 have a1:dP n m 12=some (if ei m 12 then 1 else 0):=Im n (by omega) m 12 (by omega);have a2:dP n d 31=some (if ei d 31 then 1 else 0):=Im n (by omega) d 31 (by omega);have b:=(X3 n (by omega) k0 k1 k2 (bH m d) (kX m d) f e a).2;unfold kn chkD;rw[nK n (by omega) g l dg x q m d k0 k1 k2,hy,a1,a2,dM n];simp only[ob];rw[b,TM];show cond ((if yrD g l dg x q m then(1:Int)else 0)==0) _ (cond _ (cond _ (cond _ _ (cond _ (cond _ _ (cond (decide (0<sea m)) _ _)) _)) (cond _ (cond _ _ (cond (decide (0<sea m)) _ _)) _)) (cond _ (cond _ _ (cond (decide (0<sea m)) _ _)) _))=_;generalize yrD g l dg x q m=b1;generalize(m==[])=b2;generalize decide (0<sea m)=p;generalize ei m 12=j;generalize(d==[])=k;generalize ei d 31=o;cases b1<;>cases b2<;>cases p<;>cases j<;>cases k<;>cases o<;>rfl
def Dj{g l:Bool}{dg:aa}{x q:Int}{m d:aa}{k0 k1 k2:Int}(h:chkD g l dg x q m d k0 k1 k2=0):yrD g l dg x q m=true/\(m=[]\/0<sea m\/ei m 12=true)/\(d=[]\/(m≠[]/\sea m=0/\ei d 31=true))/\allM k0 k1 k2 (bH m d)=0:=by
 have hs:=SL m;unfold chkD at h;cases b1:yrD g l dg x q m with
 | false=>rw[b1]at h;exact absurd h (by simp)
 | true=>
  rw[b1]at h;simp only[dL,af]at h;cases b2:(!(m==[])&&(!(decide (0<sea m))&&!(ei m 12)))with
  | true=>rw[b2]at h;exact absurd h (by simp)
  | false=>
   rw[b2]at h;simp only[af]at h;cases c:(!(d==[])&&((m==[])||(decide (0<sea m)||!(ei d 31))))with
   | true=>rw[c]at h;exact absurd h (by simp)
   | false=>
    rw[c]at h;simp only[af]at h;refine⟨rfl,?_,?_,h⟩
    ·by_cases b:m=[]
     ·exact .inl b
     ·by_cases a:0<sea m
      ·exact .inr (.inl a)
      ·simp[b,a]at b2;exact .inr (.inr b2)
    ·by_cases b:d=[]
     ·exact .inl b
     ·by_cases a:m=[]
      ·simp[b,a]at c
      ·by_cases e:0<sea m
       ·simp[b,a,e]at c
       ·simp[b,a,e]at c;exact .inr ⟨a,by omega,c⟩
def nO{s:aa}{g:Nat}(m:g<=31)(h:ei s g=true):s.length=2/\∀c∈s,isDX c=true:=by
 unfold ei at h;obtain⟨i,l,hi⟩:=sX.1 h;have e:i<g:=ju.1 l;have dig:∀k:Nat,k<10->isDX (UInt8.ofNat (48+k))=true:=by decide
 have d:isDX 88=true:=by decide
 match s,hi with
 | [],hi=>simp[agr]at hi
 | [_],hi=>simp[agr]at hi
 | [a,b],hi=>
  refine⟨rfl,?_⟩;simp only[agr,aB,iq,bL]at hi;obtain⟨j,f⟩:=hi;intro c hc;simp only[cb,ov,oK]at hc;rcases hc with rfl | rfl
  ·rcases j with rfl | rfl
   ·exact d
   ·exact dig _ (by omega)
  ·rcases f with rfl | rfl
   ·exact d
   ·exact dig _ (by omega)
 | _::_::_::_,hi=>simp[agr]at hi
def G6{m:aa}(h:0<sea m):m.length=2/\∀c∈m,isDX c=true:=by
 rcases pU m with b | ⟨j,a,rfl⟩
 ·omega
 ·refine⟨rfl,?_⟩;have:((List.range 21).all λj=>(two (21+j)).all isDX)=true:=by decide +kernel
  have:=(bS.1 this) j (by simpa using a);exact bS.1 this
def mt(k:Nat):aa:=if k=1 then[63]else if k=2 then[126]else if k=3 then[37]else[]
def mkOf(c:UInt8):Nat:=if c=63 then 1 else if c=126 then 2 else if c=37 then 3 else 0
def YA(k a b c:Nat):Bool:=(decide (k<2)||b==a)&&(decide (k<3)||c==a)
def plA(k a b c:Nat):Nat×Nat×Nat:=if YA k a b c then(0,0,0)else(a,b,c)
def plB(k a b c:Nat):Nat×Nat×Nat:=if YA k a b c then(if k=1 then(a,0,0)else if k=2 then(0,a,0)else(0,0,a))else(0,0,0)
def l3(p:Nat×Nat×Nat):List Int:=[(p.1:Int),(p.2.1:Int),(p.2.2:Int)]
def spM(A B:Nat×Nat×Nat):Nat×Nat×Nat:=(A.1 ||| B.1 ||| B.2.1 ||| B.2.2,A.2.1 ||| B.2.1 ||| B.2.2,A.2.2 ||| B.2.2)
def RI(n k:Nat)(h:k<4):rX n (k:Int)=some (mt k,0):=by
 have:k=0\/k=1\/k=2\/k=3:=by omega
 rcases this with rfl | rfl | rfl | rfl<;>exact rfl
noncomputable def S0(m j:Nat):Bool:=
 qJ (m+300) (j:Int)==some (((mkOf (UInt8.ofNat j):Nat):Int),decide (0<mkOf (UInt8.ofNat j)))
def NM(m:Nat):(List.range 256).all (S0 m)=true:=by kernel_rfl
def PM(m:Nat)(c:UInt8):qJ (m+300) ((c.toNat:Nat):Int)=some (((mkOf c:Nat):Int),decide (0<mkOf c)):=by
 have h:=(bS.1 (NM m)) c.toNat (ju.2 c.toNat_lt);unfold S0 at h;rw[show UInt8.ofNat c.toNat=c by simp]at h;simp only[bL]at h;exact h
def r4{p:Nat->Bool}(h:(List.range 4).all p=true){a:Nat}(b:a<4):p a=true:=(bS.1 h) a (ju.2 b)
noncomputable def Dh(m k a b c:Nat):Bool:=
 qy (m+300) [(a:Int),(b:Int),(c:Int)] (k:Int)==some (l3 (plA k a b c),l3 (plB k a b c),0)
def U7(m:Nat):((List.range 4).all λa=>Dh m 1 a 0 0)=true:=by kernel_rfl
def Uk(m:Nat):((List.range 4).all λa=>(List.range 4).all λb=>Dh m 2 a b 0)=true:=by kernel_rfl
def VT(m:Nat):((List.range 4).all λa=>(List.range 4).all λb=>(List.range 4).all λc=>Dh m 3 a b c)=true:=by kernel_rfl
def XZ(m k a b c:Nat)(i:1<=k/\k<=3)(d:a<4)(e:b<4)(hc:c<4)(g:k<2->b=0)(f:k<3->c=0):
  qy (m+300) [(a:Int),(b:Int),(c:Int)] (k:Int)=some (l3 (plA k a b c),l3 (plB k a b c),0):=by
 have h:Dh m k a b c=true:=by
  have:k=1\/k=2\/k=3:=by omega
  rcases this with rfl | rfl | rfl
  ·rw[g (by omega),f (by omega)];exact r4 (U7 m) d
  ·rw[f (by omega)];exact r4 (r4 (Uk m) d) e
  ·exact r4 (r4 (r4 (VT m) d) e) hc
 unfold Dh at h;simp only[bL]at h;exact h
def Yg{k a b c:Nat}(d:a<4)(e:b<4)(hc:c<4):(plA k a b c).1<4/\(plA k a b c).2.1<4/\(plA k a b c).2.2<4/\(plB k a b c).1<4/\(plB k a b c).2.1<4/\(plB k a b c).2.2<4:=by
 unfold plA plB;split
 ·split
  ·simp[d]
  ·split<;>simp[d]
 ·simp[d,e,hc]
def inM(k:Nat)(A:Nat×Nat×Nat):Prop:=A.1<4/\A.2.1<4/\A.2.2<4/\(k<2->A.2.1=0)/\(k<3->A.2.2=0)
def ya{k:Nat}{A:Nat×Nat×Nat}(h:inM k A):allM (A.1:Int) (A.2.1:Int) (A.2.2:Int) k=0:=by
 obtain⟨c,b,a,e,d⟩:=h;unfold allM;rw[ab (by omega)]
def or4{a b:Nat}(d:a<4)(c:b<4):bits .or .u8 (a:Int) (b:Int)=((a ||| b:Nat):Int)/\a ||| b<4:=by
 have:((List.range 4).all λa=>(List.range 4).all λb=>bits .or .u8 (a:Int) (b:Int)==((a ||| b:Nat):Int)&&decide (a ||| b<4))=true:=by decide +kernel
 have:=r4 (r4 this d) c;simpa using this
def yw(n:Nat)(w:9<n)(k:Nat)(A B:Nat×Nat×Nat)(s:1<=k/\k<=3)(o:inM k A)(t:inM k B):eV n (l3 A) (l3 B) (k:Int)=some (l3 (spM A B),0):=by
 obtain⟨n,rfl⟩:∃j,n=j+5:=⟨n - 5,by omega⟩;have p:=GU (n+5) (by omega) (A.1:Int) (A.2.1:Int) (A.2.2:Int) k s (by omega) (by omega) (by omega);have m:=GU (n+5) (by omega) (B.1:Int) (B.2.1:Int) (B.2.2:Int) k s (by omega) (by omega) (by omega);rw[ya o]at p;rw[ya t]at m;have g:∀x:Nat,x<4->bits .or .u8 0 (x:Int)=(x:Int):=λx hx=>by
  have:=(or4 (show 0<4 by omega) hx).1;simpa using this
 have a:∀x y:Nat,x<4->y<4->bits .or .u8 (x:Int) (y:Int)=((x ||| y:Nat):Int):=λx y hx hy=>(or4 hx hy).1;have e:∀x y:Nat,x<4->y<4->x ||| y<4:=λx y hx hy=>(or4 hx hy).2;unfold eV;show ob (bZ (n+5) [(A.1:Int),(A.2.1:Int),(A.2.2:Int)] (k:Int)) _=_;rw[p];show ob (bZ (n+5) [(B.1:Int),(B.2.1:Int),(B.2.2:Int)] (k:Int)) _=_;rw[m];obtain⟨a0,a1,a2⟩:=A;obtain⟨b0,b1,b2⟩:=B;obtain⟨g0,i,q,l,h⟩:=o;obtain⟨d,b,c,r,f⟩:=t;simp only at g0 i q l h d b c r f;have hk':k=1\/k=2\/k=3:=by omega
 rcases hk' with rfl | rfl | rfl
 ·obtain rfl:=l (by omega);obtain rfl:=h (by omega);obtain rfl:=r (by omega);obtain rfl:=f (by omega);show some (([bits .or .u8 (a0:Int) (bits .or .u8 0 (b0:Int)),0,0]:List Int),(0:Int))=_;rw[g b0 d,a _ _ g0 d];simp[l3,spM]
 ·obtain rfl:=h (by omega);obtain rfl:=f (by omega);show some (([bits .or .u8 (a0:Int) (bits .or .u8 (bits .or .u8 0 (b1:Int)) (b0:Int)),bits .or .u8 (a1:Int) (bits .or .u8 0 (b1:Int)),0]:List Int),(0:Int))=_;rw[g b1 b,a _ _ b d,a _ _ g0 (e _ _ b d),a _ _ i b];simp[l3,spM,CH,B9 b1 b0]
 ·show some (([bits .or .u8 (a0:Int) (bits .or .u8 (bits .or .u8 (bits .or .u8 0 (b2:Int)) (b1:Int)) (b0:Int)),bits .or .u8 (a1:Int) (bits .or .u8 (bits .or .u8 0 (b2:Int)) (b1:Int)),bits .or .u8 (a2:Int) (bits .or .u8 0 (b2:Int))]:List Int),(0:Int))=_;rw[g b2 c,a _ _ c b,a _ _ (e _ _ c b) d,a _ _ g0 (e _ _ (e _ _ c b) d),a _ _ i (e _ _ c b),a _ _ q c];have v:a0 ||| (b2 ||| b1 ||| b0)=a0 ||| b0 ||| b1 ||| b2:=by rw[B9 (b2 ||| b1) b0,B9 b2 b1];simp only[CH]
  have u:a1 ||| (b2 ||| b1)=a1 ||| b1 ||| b2:=by rw[B9 b2 b1];simp only[CH]
  rw[v,u];rfl
abbrev cI(x:Nat):Int:=(x:Int)
def bt(b a:Nat):Nat:=if b=1 then a%2 else a / 2%2
def bts(b:Nat):List Nat->Nat
 | []=>0
 | x::l=>bt b x+bts b l
def hit(k b i:Nat)(c a:List Nat):Bool:=decide (0<bt b (c.getD i 0)+bts b ((a.take k).drop i))
def Lr(k a b c:Nat):Bool:=spM (plA k a b c) (plB k a b c)==(a,b,c)
def Ym:((List.range 4).all λa=>Lr 1 a 0 0)=true:=by decide +kernel
def WO:((List.range 4).all λa=>(List.range 4).all λb=>Lr 2 a b 0)=true:=by decide +kernel
def Wp:((List.range 4).all λa=>(List.range 4).all λb=>(List.range 4).all λc=>Lr 3 a b c)=true:=by decide +kernel
def YK(k a b c:Nat)(i:1<=k/\k<=3)(d:a<4)(e:b<4)(hc:c<4)(g:k<2->b=0)(f:k<3->c=0):spM (plA k a b c) (plB k a b c)=(a,b,c):=by
 have h:Lr k a b c=true:=by
  have:k=1\/k=2\/k=3:=by omega
  rcases this with rfl | rfl | rfl
  ·rw[g (by omega),f (by omega)];exact r4 Ym d
  ·rw[f (by omega)];exact r4 (r4 WO d) e
  ·exact r4 (r4 (r4 Wp d) e) hc
 unfold Lr at h;exact bL.1 h
def mkS(l:aa):Nat:=match l with | []=>0 | c::_=>mkOf c
def mkN(l:aa):Nat:=if mkS l=0 then 0 else 1
def twoN(l:aa):Nat:=cR isDX 2 l
def VG(c:UInt8):mkOf c<4:=by
 unfold mkOf;split
 ·omega
 ·split
  ·omega
  ·split<;>omega
def Ir(l:aa):mkS l<4:=by
 cases l with
 | nil=>show 0<4;omega
 | cons c r=>exact VG c
def Yn(l:aa):mkN l<=l.length:=by
 cases l with
 | nil=>exact aU 0
 | cons c r=>
  unfold mkN;split<;>simp
def UI(c:UInt8):hasB [63,126,37] c=decide (0<mkOf c):=by
 have:=jz (λc=>hasB [63,126,37] c==decide (0<mkOf c)) (by decide +kernel) c;simpa using this
def Ux(m:Nat)(S:aa)(a:Nat)(h:a<=S.length)(i:S.length<100000):
  cQ (m+300) S (a:Int)=some (.inr (((mkS (S.drop a):Nat):Int),S,((a+mkN (S.drop a):Nat):Int))):=by
 unfold cQ;rw[pY (m+300) S a h];cases f:S.drop a with
 | nil=>
  have g:qJ (m+300) 0=some (0,false):=by kernel_rfl
  show ob (qJ (m+300) 0) _=_;rw[g];rfl
 | cons c r=>
  show ob (qJ (m+300) ((c.toNat:Nat):Int)) _=_;rw[PM m c];show cond (decide (0<mkOf c)) _ _=_;have b:mkS (c::r)=mkOf c:=rfl;by_cases hc:0<mkOf c
  ·rw[ar hc];show ob (cr (m+300) [63,126,37] S (a:Int)) _=_;rw[C2 (m+300) _ S a h (by omega),f];have e:hasB [63,126,37] c=true:=by rw[UI,ar hc]
   have d:mkN (c::r)=1:=by unfold mkN;rw[b,ab (by omega)]
   rw[b,d];simp only[e,aN,ob]
  ·rw[au hc];have d:mkN (c::r)=0:=by unfold mkN;rw[b,ae (by omega)]
   rw[b,d];rfl
def Sl(n:Nat)(S:aa)(a:Nat)(h:a<=S.length)(i:S.length<100000)(f:S.length<n):
  iS n S (a:Int)=some (if twoN (S.drop a)<2 then .inl (((a+twoN (S.drop a):Nat):Int),5,S,((a+twoN (S.drop a):Nat):Int))else .inr ((S.drop a).take 2,S,((a+2:Nat):Int))):=by
 unfold iS;rw[wi n _ 2 2 S a h (by omega) f];have e:cR (hasB [88,48,49,50,51,52,53,54,55,56,57]) (2:Int).toNat (S.drop a)=twoN (S.drop a):=by
  unfold twoN;have d:(2:Int).toNat=2:=rfl;rw[d];exact nU (λc=>by rw[vq];rfl) _ _
 rw[e];by_cases b:twoN (S.drop a)<2
 ·rw[ae b,ae (by omega)];rfl
 ·have g:twoN (S.drop a)=2:=by
   have:=xp isDX 2 (S.drop a);unfold twoN at b ⊢;omega
  rw[ab b,ab (by omega),g];rfl
def cutD(r:Nat)(h:r<10):List.drop r (List.take (r+1) ([48,49,50,51,52,53,54,55,56,57]:aa))=[UInt8.ofNat (48+r)]:=by
 have:∀r,r<10->List.drop r (List.take (r+1) ([48,49,50,51,52,53,54,55,56,57]:aa))=[UInt8.ofNat (48+r)]:=by decide
 exact this r h
def HD{k:Nat}(h:k<10):Lib.decDigits k=[UInt8.ofNat (48+k)]:=by
 rw[Lib.decDigits,dif_pos h]
def GT{k:Nat}(h:¬k<10)(a:k<100):Lib.decDigits k=[UInt8.ofNat (48+k / 10),UInt8.ofNat (48+k%10)]:=by
 rw[Lib.decDigits,dif_neg h,HD (by omega)];rfl
def fZ(letter:UInt8)(v:Nat):aa:=if 0<v then letter::Lib.decDigits v else[]
def WB{k:Nat}(h:k<100):1<=(Lib.decDigits k).length/\(Lib.decDigits k).length<=2:=by
 by_cases a:k<10
 ·rw[HD a];simp
 ·rw[GT a h];simp
def DO(letter:UInt8){k:Nat}(h:k<100):(fZ letter k).length<=3:=by
 unfold fZ;split
 ·have:=WB h;simp only[aG];omega
 ·simp
def lP(g l:Bool)(d:aa)(x s:Nat):ir g l d (x:Int) (s:Int)=(if l then[89]else[])++(if g then[45]else[])++d++fZ 69 x++fZ 83 s:=by
 unfold ir fZ;simp only[bX];have b:(0<(x:Int))=(0<x):=by simp
 have a:(0<(s:Int))=(0<s):=by simp
 simp only[b,a]
def dl(p:UInt8->Bool)(l:aa):Prop:=∀c,l.head?=some c->p c=false
def mL{k:Nat}(h:k<10):(UInt8.ofNat (48+k)).toNat=48+k:=by
 rw[G0];exact qj (by omega)
def Ew(letter:UInt8)(v:Nat)(post:aa)(k:v<100)(j:dl bD post)(i:dl (λc=>c==letter) post):numS letter (fZ letter v++post)=.inr (v,(fZ letter v).length):=by
 unfold fZ;by_cases h:0<v
 ·rw[ae h];by_cases g:v<10
  ·rw[HD g];have b:=mL g;simp only[fi,dO];rw[pF,ae rfl,rP,ae (by omega)];have a:48+v - 48=v:=by omega
   cases post with
   | nil=>
    rw[wa,b,a];rfl
   | cons e r=>
    have f:¬bD e=true:=by rw[j e rfl];simp
    rw[pg,ab f,b,a];rfl
  ·rw[GT g k];have b:=mL (show v / 10<10 by omega);have f:=mL (show v%10<10 by omega);simp only[fi,dO];rw[pF,ae rfl,rP,ae (by omega),pg,ae ((eo _).2 (by omega)),b,f];rw[show 10*(48+v / 10 - 48)+(48+v%10 - 48)=v by omega];rfl
 ·rw[ab h];have d:v=0:=by omega
  subst d;cases post with
  | nil=>rfl
  | cons c r=>
   have hc:c≠letter:=by
    have:=i c rfl;simpa using this
   rw[dO,pF,ab hc];rfl
def yH(letter:UInt8)(l:aa)(v k:Nat)(h:numS letter l=.inr (v,k)):v<100/\l.take k=fZ letter v/\k<=l.length:=by
 cases l with
 | nil=>
  simp only[Bf,oS,bC]at h;obtain⟨rfl,rfl⟩:=h;exact⟨by omega,rfl,by simp⟩
 | cons c r=>
  rw[pF]at h;by_cases hc:c=letter
  ·rw[ae hc]at h;cases r with
   | nil=>simp[BK]at h
   | cons d i=>
    rw[rP]at h;by_cases g:49<=d.toNat/\d.toNat<=57
    ·rw[ae g]at h;have j:d.toNat - 48<10:=by omega
     have a:UInt8.ofNat (48+(d.toNat - 48))=d:=by
      apply iE.1;rw[mL j];omega
     have one:(c::d::i).take 2=fZ letter (d.toNat - 48):=by
      unfold fZ;rw[ae (by omega),HD j,a,hc];rfl
     cases i with
     | nil=>
      simp only[wa,oS,bC]at h;obtain⟨rfl,rfl⟩:=h;exact⟨by omega,one,by simp⟩
     | cons e p=>
      rw[pg]at h;by_cases f:bD e=true
      ·rw[ae f]at h;simp only[oS,bC]at h;obtain⟨rfl,rfl⟩:=h;have o:=(eo e).1 f;refine⟨by omega,?_,by simp⟩;unfold fZ;have n:(10*(d.toNat - 48)+(e.toNat - 48)) / 10=d.toNat - 48:=by omega
       have m:(10*(d.toNat - 48)+(e.toNat - 48))%10=e.toNat - 48:=by omega
       have b:UInt8.ofNat (48+(e.toNat - 48))=e:=by
        apply iE.1;rw[mL (by omega)];omega
       rw[ae (by omega),GT (by omega) (by omega),n,m,a,b,hc];rfl
      ·rw[ab f]at h;simp only[oS,bC]at h;obtain⟨rfl,rfl⟩:=h;exact⟨by omega,one,by simp⟩
    ·rw[ab g]at h;cases h
  ·rw[ab hc]at h;simp only[oS,bC]at h;obtain⟨rfl,rfl⟩:=h;exact⟨by omega,rfl,by simp⟩
def xH{p:UInt8->Bool}:∀(r:aa) (k:Nat) (post:aa),(∀c∈r,p c=true)->r.length<=k->(dl p post\/r.length=k)->cR p k (r++post)=r.length
 | [],0,post,_,_,_=>by simp[cR]
 | [],k+1,post,_,_,h=>by
  cases post with
  | nil=>simp[cR]
  | cons c q=>
   rcases h with h | h
   ·have:=h c rfl;simp[cR,this]
   ·simp at h
 | c::r,0,post,_,h,_=>by simp at h
 | c::r,k+1,post,hp,a,h=>by
  have ih:=xH r k post (λd b=>hp d (by simp[b])) (by simpa using a) (by
   rcases h with h | h
   ·exact .inl h
   ·exact .inr (by simpa using h))
  simp only[fi,cR,hp c (by simp),aN,ih,aG]
def zN{p:UInt8->Bool}:∀(k:Nat) (l:aa),∀c∈l.take (cR p k l),p c=true
 | 0,l=>by simp[cR]
 | k+1,[]=>by simp[cR]
 | k+1,c::l=>by
  simp only[cR];by_cases h:p c=true
  ·rw[ae h];intro d a;rw[mU,cb]at a;rcases a with rfl | a
   ·exact h
   ·exact zN k l d a
  ·rw[ab h];simp
def sH{letter:UInt8}{v:Nat}{post:aa}{p:UInt8->Bool}(b:p letter=false)(a:dl p post):dl p (fZ letter v++post):=by
 unfold fZ;intro c hc;by_cases h:0<v
 ·rw[ae h]at hc;simp only[fi,oO,aq]at hc;rw[<-hc];exact b
 ·rw[ab h]at hc;exact a c hc
def isYC(c:UInt8):Bool:=isDX c||c==69||c==83
def RQ{l:aa}(h:dl isYC l):dl bD l:=λc hc=>by
 have:=h c hc;unfold isYC isDX at this;simp only[qO]at this;exact this.1.1.1
def ZA{l:aa}(h:dl isYC l):dl isDX l:=λc hc=>by
 have:=h c hc;unfold isYC at this;simp only[qO]at this;exact this.1.1
def Zq{l:aa}(h:dl isYC l):dl (λc=>c==69) l:=λc hc=>by
 have:=h c hc;unfold isYC at this;simp only[qO]at this;exact this.1.2
def YU{l:aa}(h:dl isYC l):dl (λc=>c==83) l:=λc hc=>by
 have:=h c hc;unfold isYC at this;simp only[qO]at this;exact this.2
def om(c:UInt8)(l:aa):gB c (c::l)=1:=by rw[uU,ae rfl]
def pw{c a:UInt8}(h:a≠c)(l:aa):gB c (a::l)=0:=by rw[uU,ab h]
def Oc{g l:Bool}{d:aa}{x s:Nat}(h:okY g l d (x:Int) (s:Int))(post:aa)(hp:dl isYC post):us (ir g l d (x:Int) (s:Int)++post)=.inr (g,l,d,x,s,(ir g l d (x:Int) (s:Int)).length):=by
 have E:=iJ h;have p:numS 83 (fZ 83 s++post)=.inr (s,(fZ 83 s).length):=Ew 83 s post (by omega) (RQ hp) (YU hp);have m:dl bD (fZ 83 s++post):=sH (by decide) (RQ hp);have I:dl isDX (fZ 83 s++post):=sH (by decide) (ZA hp);rw[lP];cases l with
 | true=>
  have H:okL d (x:Int) (s:Int):=by simpa[okY]using h
  obtain⟨⟨b,k,A,z,C,B,D,O⟩,N,G⟩:=H;obtain⟨c,r,rfl⟩:∃c r,d=c::r:=by
   cases d with
   | nil=>simp at k
   | cons c r=>exact⟨c,r,rfl⟩
  have w:=(eo c).1 (b c (by simp));have n:49<=c.toNat/\c.toNat<=57:=by
   have:c.toNat≠48:=λe=>z (by rw[show c=48 from iE.1 e];rfl);omega
  have a:c≠45:=by rintro rfl;exact absurd w.1 (by decide)
  have v:numS 69 (fZ 69 x++(fZ 83 s++post))=.inr (x,(fZ 69 x).length):=Ew 69 x _ (by omega) m (sH (by decide) (Zq hp));have f:cR bD 16 (r++(fZ 69 x++(fZ 83 s++post)))=r.length:=by
   refine xH r 16 _ (λe M=>b e (by simp[M])) (by simp only[aG]at A;omega) (.inl ?_);exact sH (by decide) m
  have body:∀o:Nat,CP g o ((c::r)++(fZ 69 x++(fZ 83 s++post)))=.inr (g,true,c::r,x,s,o+(1+r.length)+(fZ 69 x).length+(fZ 83 s).length):=by
   intro o;simp only[fi,CP];rw[ae n,f];have L:List.drop (1+r.length) (c::(r++(fZ 69 x++(fZ 83 s++post))))=fZ 69 x++(fZ 83 s++post):=by
    rw[oP,oi,EN rfl]
   have J:List.drop (1+r.length+(fZ 69 x).length) (c::(r++(fZ 69 x++(fZ 83 s++post))))=fZ 83 s++post:=by
    rw[show 1+r.length+(fZ 69 x).length=(r.length+(fZ 69 x).length)+1 by omega,oi,<-f8,EN (by simp)]
   have F:List.take (1+r.length) (c::(r++(fZ 69 x++(fZ 83 s++post))))=c::r:=by
    rw[oP,mU,List.take_left' rfl]
   rw[L,v];simp only[];rw[J,p,F]
  unfold us;cases g with
  | true=>
   simp only[aN,fi,dO,f8];rw[om,ae rfl,oi,cS,om];have:=body 2;simp only[fi]at this;simp only[oi,cS,show((1:Nat)==1)=true from rfl,show 1+1=2 from rfl];rw[this];simp only[aG,aZ];congr 6;omega
  | false=>
   simp only[aN,bQ,aF,fi,dO,f8];rw[om,ae rfl,oi,cS,pw a];have:=body 1;simp only[fi]at this;simp only[oi,cS,show((0:Nat)==1)=false from rfl,dK];rw[this];simp only[aG,aZ];congr 6;omega
 | false=>
  have K:okS g d (x:Int) (s:Int):=by simpa[okY]using h
  obtain⟨b,k,A,z,C,B,D⟩:=K;have u:x=0:=by omega
  subst u;have y:fZ 69 0=[]:=rfl;have t:∀c∈d,isDX c=true:=λc hc=>by
   unfold isDX;rcases k c hc with q | q
   ·rw[q];rfl
   ·rw[q];simp
  have f:cR isDX 4 (d++(fZ 83 s++post))=d.length:=xH d 4 _ t (by omega) (.inr b);have body:∀o:Nat,zR g o (d++(fZ 83 s++post))=.inr (g,false,d,0,s,o+4+(fZ 83 s).length):=by
   intro o;unfold zR;rw[f,b,ab (by omega),EN b,p,List.take_left' b]
  obtain⟨c,r,rfl⟩:∃c r,d=c::r:=by
   cases d with
   | nil=>simp at b
   | cons c r=>exact⟨c,r,rfl⟩
  have a:c≠45:=by
   rintro rfl;rcases k 45 (by simp)with q | q
   ·exact absurd ((eo _).1 q).1 (by decide)
   ·exact absurd q (by decide)
  have j:c≠89:=by
   rintro rfl;rcases k 89 (by simp)with q | q
   ·exact absurd ((eo _).1 q).2 (by decide)
   ·exact absurd q (by decide)
  have i:(45:UInt8)≠89:=by decide
  unfold us;rw[y];cases g with
  | true=>
   simp only[aN,bQ,aF,fi,dO,f8];rw[pw i,ab (by decide),om,oi,cS];have:=body 1;simp only[fi]at this;rw[show((1:Nat)==1)=true from rfl,this];simp only[aG,aZ]at b ⊢;congr 6;omega
  | false=>
   simp only[bQ,aF,fi,dO,f8];rw[pw j,ab (by decide),pw a,cS];have:=body 0;simp only[fi]at this;rw[show((0:Nat)==1)=false from rfl,this];simp only[aG,aZ]at b ⊢;congr 6;omega
def vf(c:UInt8)(l:aa):l.take (gB c l)=if gB c l=1 then[c]else[]:=by
 rcases ma c l with h | h
 ·rw[h];simp
 ·rw[h,ae rfl];unfold gB at h;split at h
  ·assumption
  ·cases h
def pS(l:aa)(i j:Nat):l.take (i+j)=l.take i++(l.drop i).take j:=by
 rw[List.take_add]
def yn{l:aa}{g n:Bool}{d:aa}{x s k:Nat}(h:us l=.inr (g,n,d,x,s,k)):l.take k=ir g n d (x:Int) (s:Int)/\k<=l.length/\x<100/\s<100/\d.length<=17:=by
 rw[lP];unfold us at h;by_cases b:gB 89 l=1
 ·rw[ae b]at h;have o:=vf 89 l;rw[b,ae rfl]at o;have f:=vf 45 (l.drop 1);have c45:=ma 45 (l.drop 1);generalize D:gB 45 (l.drop 1)=u at *;have a:l.take (1+u)=[89]++(if(u==1)=true then[45]else[]):=by
   rw[pS,o,f];rcases c45 with rfl | rfl<;>rfl
  cases q:l.drop (1+u)with
  | nil=>rw[q]at h;simp[CP]at h
  | cons c r=>
   rw[q]at h;simp only[CP]at h;by_cases hc:49<=c.toNat/\c.toNat<=57
   ·rw[ae hc]at h;have z:=xp bD 16 r;have B:1+cR bD 16 r<=(c::r).length:=by have:=oz bD 16 r;simp only[aG];omega
    generalize G:1+cR bD 16 r=K at *;cases e:numS 69 (List.drop K (c::r))with
    | inl j=>rw[e]at h;simp at h
    | inr p=>
     obtain⟨F,j⟩:=p;rw[e]at h;simp only at h;cases m:numS 83 (List.drop (K+j) (c::r))with
     | inl i=>rw[m]at h;simp at h
     | inr y=>
      obtain⟨s',i⟩:=y;rw[m]at h;simp only[oS,bC]at h;obtain⟨rfl,rfl,rfl,rfl,rfl,rfl⟩:=h;obtain⟨a1,a2,E⟩:=yH _ _ _ _ e;obtain⟨b1,b2,v⟩:=yH _ _ _ _ m;rw[ci]at E v;have C:l.length=1+u+(c::r).length:=by
       have:=co List.length q;rw[ci]at this;simp only[aG]at this ⊢;omega
      refine⟨?_,by simp only[aG]at *;omega,a1,b1,by rw[dA];omega⟩;rw[show 1+u+K+j+i=(1+u)+(K+(j+i))by omega,pS,a,q,pS _ K,pS _ j,a2,kK,b2];simp
   ·rw[ab hc]at h;simp at h
 ·rw[ab b]at h;have f:=vf 45 l;have c45:=ma 45 l;generalize D:gB 45 l=u at *;have a:l.take u=(if(u==1)=true then[45]else[]):=by
   rw[f];rcases c45 with rfl | rfl<;>rfl
  unfold zR at h;by_cases A:cR isDX 4 (l.drop u)<4
  ·rw[ae A]at h;simp at h
  ·rw[ab A]at h;have t:=oz isDX 4 (l.drop u);rw[ci]at t;cases e:numS 83 (List.drop 4 (l.drop u))with
   | inl i=>rw[e]at h;simp at h
   | inr y=>
    obtain⟨s',i⟩:=y;rw[e]at h;simp only[oS,bC]at h;obtain⟨rfl,rfl,rfl,rfl,rfl,rfl⟩:=h;obtain⟨b1,b2,v⟩:=yH _ _ _ _ e;rw[ci,ci]at v;refine⟨?_,by omega,by omega,b1,by rw[dA];omega⟩;rw[show u+4+i=u+(4+i)by omega,pS,a,pS _ 4,b2];have w:fZ 69 0=[]:=rfl;rw[w];simp
abbrev DR:=Bool×Bool×aa×Nat×Nat×aa×aa×(Nat×Nat×Nat)×(Nat×Nat×Nat)×Nat
def mkE(S:aa)(p:Nat):Nat:=p+mkN (S.drop p)
def rd3(S:aa)(y:YR)(e c b f d h a:Nat)(g:aa):Nat⊕DR:=
 if twoN (S.drop (mkE S (a+1)))<2 then .inl (mkE S (a+1)+twoN (S.drop (mkE S (a+1))))
 else .inr (y.1,y.2.1,y.2.2.1,y.2.2.2.1,y.2.2.2.2.1,g,(S.drop (mkE S (a+1))).take 2,spM (e,b,mkS (S.drop (a+1))) (c,f,mkS (S.drop (mkE S (a+1)+2))),(d,h,mkE S (a+1)),mkE S (mkE S (a+1)+2))
def rd2(S:aa)(y:YR)(c b d a:Nat):Nat⊕DR:=
 if twoN (S.drop (mkE S (a+1)))<2 then .inl (mkE S (a+1)+twoN (S.drop (mkE S (a+1))))
 else if gB 45 (S.drop (mkE S (mkE S (a+1)+2)))=0 then .inr (y.1,y.2.1,y.2.2.1,y.2.2.2.1,y.2.2.2.2.1,(S.drop (mkE S (a+1))).take 2,[],spM (c,mkS (S.drop (a+1)),0) (b,mkS (S.drop (mkE S (a+1)+2)),0),(d,mkE S (a+1),0),mkE S (mkE S (a+1)+2))
 else rd3 S y c b (mkS (S.drop (a+1))) (mkS (S.drop (mkE S (a+1)+2))) d (mkE S (a+1)) (mkE S (mkE S (a+1)+2)) ((S.drop (mkE S (a+1))).take 2)
def uD(S:aa)(a:Nat):Nat⊕DR:=match us (S.drop (mkE S a))with
 | .inl k=>.inl (mkE S a+k)
 | .inr y=>if 0<y.2.2.2.2.1\/gB 45 (S.drop (mkE S (mkE S a+y.2.2.2.2.2)))=0
  then .inr (y.1,y.2.1,y.2.2.1,y.2.2.2.1,y.2.2.2.2.1,[],[],spM (mkS (S.drop a),0,0) (mkS (S.drop (mkE S a+y.2.2.2.2.2)),0,0),(mkE S a,0,0),mkE S (mkE S a+y.2.2.2.2.2))
  else rd2 S y (mkS (S.drop a)) (mkS (S.drop (mkE S a+y.2.2.2.2.2))) (mkE S a) (mkE S (mkE S a+y.2.2.2.2.2))
def Wl(S:aa):Nat⊕DR->(Int×Int×aa×Int)⊕(Bool×Bool×aa×Int×Int×aa×aa×Int×Int×Int×List Int×aa×Int)
 | .inl k=>.inl ((k:Int),5,S,(k:Int))
 | .inr (g,l,dg,x,s,m,d,M,P,e)=>.inr (g,l,dg,(x:Int),(s:Int),m,d,(M.1:Int),(M.2.1:Int),(M.2.2:Int),l3 P,S,(e:Int))
def qT{S:aa}{p:Nat}(h:p<=S.length):mkE S p<=S.length:=by
 have:=Yn (S.drop p);rw[ci]at this;unfold mkE;omega
def DD{S:aa}{p:Nat}(a:¬twoN (S.drop p)<2):p+2<=S.length:=by
 have:=oz isDX 2 (S.drop p);unfold twoN at a;rw[ci]at this;omega
def vZ{S:aa}{p:Nat}(h:¬gB 45 (S.drop p)=0):p+1<=S.length:=by
 have:=Bo 45 (S.drop p);rw[ci]at this;omega
def QS(n:Nat)(g l:Bool)(d:aa)(x s:Int)(b a:aa)(k0 k1 k2:Int)(S:aa)(p:Nat)(h:p<=S.length)(e:S.length<100000)(c:S.length<n):
  kr n g l d x s b a k0 k1 k2 S (p:Int)=some (match us (S.drop p)with
   | .inl k=>.inl (((p+k:Nat):Int),5,g,l,d,x,s,b,a,k0,k1,k2,S,((p+k:Nat):Int))
   | .inr y=>.inr (y.1,y.2.1,y.2.2.1,(y.2.2.2.1:Int),(y.2.2.2.2.1:Int),b,a,k0,k1,k2,S,((p+y.2.2.2.2.2:Nat):Int))):=by
 unfold kr;rw[Ve n S p h e c];cases us (S.drop p)with
 | inl k=>rfl
 | inr y=>rfl
def PN(n:Nat)(g l:Bool)(d:aa)(x s:Int)(c b:aa)(k0 k1 k2:Int)(S:aa)(p:Nat)(h:p<=S.length)(e:S.length<100000)(f:S.length<n):
  ki n g l d x s c b k0 k1 k2 S (p:Int)=some (if twoN (S.drop p)<2
   then .inl (((p+twoN (S.drop p):Nat):Int),5,g,l,d,x,s,c,b,k0,k1,k2,S,((p+twoN (S.drop p):Nat):Int))
   else .inr (g,l,d,x,s,(S.drop p).take 2,b,k0,k1,k2,S,((p+2:Nat):Int))):=by
 unfold ki;rw[Sl n S p h e f];by_cases a:twoN (S.drop p)<2
 ·rw[ae a,ae a];rfl
 ·rw[ab a,ab a];rfl
def PH(n:Nat)(g l:Bool)(d:aa)(x s:Int)(b c:aa)(k0 k1 k2:Int)(S:aa)(p:Nat)(h:p<=S.length)(e:S.length<100000)(f:S.length<n):
  kq n g l d x s b c k0 k1 k2 S (p:Int)=some (if twoN (S.drop p)<2
   then .inl (((p+twoN (S.drop p):Nat):Int),5,g,l,d,x,s,b,c,k0,k1,k2,S,((p+twoN (S.drop p):Nat):Int))
   else .inr (g,l,d,x,s,b,(S.drop p).take 2,k0,k1,k2,S,((p+2:Nat):Int))):=by
 unfold kq;rw[Sl n S p h e f];by_cases a:twoN (S.drop p)<2
 ·rw[ae a,ae a];rfl
 ·rw[ab a,ab a];rfl
def Uy(m:Nat)(S:aa)(a:Nat)(h:a<=S.length)(n:S.length<100000)(B:S.length<m+300):
  jU (m+300) S (a:Int)=some (Wl S (uD S a)):=by
 have j:∀p,p<=S.length->cQ (m+300) S (p:Int)=some (.inr (((mkS (S.drop p):Nat):Int),S,((mkE S p:Nat):Int))):=λp hp=>Ux m S p hp n;have b:∀p,mkS (S.drop p)<4:=λp=>Ir _;have v:∀p q,eV (m+300) [((mkS (S.drop p):Nat):Int),0,0] [((mkS (S.drop q):Nat):Int),0,0] 1=some (l3 (spM (mkS (S.drop p),0,0) (mkS (S.drop q),0,0)),0):=λp q=>
  yw (m+300) (by omega) 1 (mkS (S.drop p),0,0) (mkS (S.drop q),0,0) (by omega) ⟨b p,by simp,by simp,by simp,by simp⟩ ⟨b q,by simp,by simp,by simp,by simp⟩
 have C:∀p q d c,eV (m+300) [((mkS (S.drop p):Nat):Int),((mkS (S.drop d):Nat):Int),0] [((mkS (S.drop q):Nat):Int),((mkS (S.drop c):Nat):Int),0] 2=some (l3 (spM (mkS (S.drop p),mkS (S.drop d),0) (mkS (S.drop q),mkS (S.drop c),0)),0):=λp q d c=>
  yw (m+300) (by omega) 2 (mkS (S.drop p),mkS (S.drop d),0) (mkS (S.drop q),mkS (S.drop c),0) (by omega) ⟨b p,b d,by simp,by simp,by simp⟩ ⟨b q,b c,by simp,by simp,by simp⟩
 have F:∀p q d c e f,eV (m+300) [((mkS (S.drop p):Nat):Int),((mkS (S.drop d):Nat):Int),((mkS (S.drop e):Nat):Int)] [((mkS (S.drop q):Nat):Int),((mkS (S.drop c):Nat):Int),((mkS (S.drop f):Nat):Int)] 3=some (l3 (spM (mkS (S.drop p),mkS (S.drop d),mkS (S.drop e)) (mkS (S.drop q),mkS (S.drop c),mkS (S.drop f))),0):=λp q d c e f=>
  yw (m+300) (by omega) 3 (mkS (S.drop p),mkS (S.drop d),mkS (S.drop e)) (mkS (S.drop q),mkS (S.drop c),mkS (S.drop f)) (by omega) ⟨b p,b d,b e,by simp,by simp⟩ ⟨b q,b c,b f,by simp,by simp⟩
 have b0:=qT h;unfold jU uD;rw[j a h];simp only[ob,DW];rw[QS _ _ _ _ _ _ _ _ _ _ _ S (mkE S a) b0 n B];cases G:us (S.drop (mkE S a))with
 | inl k=>rfl
 | inr y=>
  obtain⟨g,l,dg,x,s,k⟩:=y;have bk:mkE S a+k<=S.length:=by
   have:=(yn G).2.1;rw[ci]at this;omega
  have b1:=qT bk;simp only[ob,d4,d8];rw[j (mkE S a+k) bk];simp only[ob];by_cases hs:0<s
  ·have:decide (((s:Nat):Int)>0)=true:=by simp;omega
   rw[this,ae (.inl hs)];simp only[aj];rw[v];rfl
  ·have:decide (((s:Nat):Int)>0)=false:=by simp;omega
   rw[this];simp only[af];rw[uH (m+300) 45 S _ b1 n];simp only[ob];by_cases r:gB 45 (S.drop (mkE S (mkE S a+k)))=0
   ·rw[ae (.inr r),r];simp only[show((0:Nat)==1)=false from rfl,kL,aj,dK];rw[v];rfl
   ·have D:gB 45 (S.drop (mkE S (mkE S a+k)))=1:=(ma 45 _).resolve_left r;have w:=vZ r;rw[ab (λz=>z.elim hs r),D];simp only[show((1:Nat)==1)=true from rfl,dL,af];unfold rd2;rw[j _ w];simp only[ob];have I:=qT w;rw[PN _ _ _ _ _ _ _ _ _ _ _ S _ I n B];by_cases t:twoN (S.drop (mkE S (mkE S (mkE S a+k)+1)))<2
    ·rw[ae t,ae t];rfl
    ·rw[ab t,ab t];have b2:=DD t;simp only[ob,d4,d8];rw[j _ b2];simp only[ob];rw[this];simp only[af];have H:=qT b2;rw[uH (m+300) 45 S _ H n];simp only[ob];by_cases i:gB 45 (S.drop (mkE S (mkE S (mkE S (mkE S a+k)+1)+2)))=0
     ·rw[ae i,i];simp only[show((0:Nat)==1)=false from rfl,kL,aj,dK];rw[C];rfl
     ·have u:=(ma 45 (S.drop (mkE S (mkE S (mkE S (mkE S a+k)+1)+2)))).resolve_left i;have o:=vZ i;rw[ab i,u];simp only[show((1:Nat)==1)=true from rfl,dL,af];unfold rd3;rw[j _ o];simp only[ob];have E:=qT o;rw[PH _ _ _ _ _ _ _ _ _ _ _ S _ E n B];by_cases A:twoN (S.drop (mkE S (mkE S (mkE S (mkE S (mkE S a+k)+1)+2)+1)))<2
      ·rw[ae A,ae A];rfl
      ·rw[ab A,ab A];have J:=DD A;simp only[ob,d4,d8];rw[j _ J];simp only[ob];rw[F];rfl
def UY(n a:Nat)(q:a<65536):∃d,lc n (a:Int)=some d/\d.length=4/\∀c∈d,bD c=true:=by
 have l:Int.tmod (a:Int) 10000=((a%10000:Nat):Int):=rfl;have f:a%10000<10000:=rt _ (by decide);generalize a%10000=N at *;have j:Int.tdiv (N:Int) 1000=((N / 1000:Nat):Int):=rfl;have h:Int.tdiv (N:Int) 100=((N / 100:Nat):Int):=rfl;have m:Int.tdiv (N:Int) 10=((N / 10:Nat):Int):=rfl;have p:wrap .u16 ((N / 1000:Nat):Int)=((N / 1000:Nat):Int):=we _ (by omega) (by omega);have g:wrap .u16 ((N / 100:Nat):Int)=((N / 100:Nat):Int):=we _ (by omega) (by omega);have i:wrap .u16 ((N / 10:Nat):Int)=((N / 10:Nat):Int):=we _ (by omega) (by omega);have m2:Int.tmod ((N / 100:Nat):Int) 10=((N / 100%10:Nat):Int):=rfl;have o:Int.tmod ((N / 10:Nat):Int) 10=((N / 10%10:Nat):Int):=rfl;have k:Int.tmod (N:Int) 10=((N%10:Nat):Int):=rfl;have s:∀r:Nat,r<10->wrap .u16 ((r:Int)+1)=((r+1:Nat):Int):=λr e=>by rw[we _ (by omega) (by omega)];omega
 refine⟨[UInt8.ofNat (48+N / 1000),UInt8.ofNat (48+N / 100%10),UInt8.ofNat (48+N / 10%10),UInt8.ofNat (48+N%10)],?_,rfl,?_⟩
 ·simp only[lc,l,j,h,m,p,g,i,m2,o,k,s (N / 1000) (by omega),s (N / 100%10) (by omega),s (N / 10%10) (by omega),s (N%10) (by omega),eM (show N / 1000+1<=10 by omega),eM (show N / 1000<=N / 1000+1 by omega),eM (show N / 100%10+1<=10 by omega),eM (show N / 100%10<=N / 100%10+1 by omega),eM (show N / 10%10+1<=10 by omega),eM (show N / 10%10<=N / 10%10+1 by omega),eM (show N%10+1<=10 by omega),eM (show N%10<=N%10+1 by omega),ob,cutD (N / 1000) (by omega),cutD (N / 100%10) (by omega),cutD (N / 10%10) (by omega),cutD (N%10) (by omega)];rw[eK (by simp)];simp only[];rw[eK (by simp)];simp only[];rw[eK (by simp)];rfl
 ·have b:∀r:Nat,r<10->bD (UInt8.ofNat (48+r))=true:=λr e=>(eo _).2 (by rw[mL e];omega);simp only[cb,ov,oK,Bn,forall_eq];exact⟨b _ (by omega),b _ (by omega),b _ (by omega),b _ (by omega)⟩
def yI(n:Nat)(g l:Bool)(d:aa)(x s:Int)(c:200<n)(e:d.length<=100)(h:okY false l d x s):∃b,(ob (cO n g l d x s) λr=>(cond (r==0) (some (false,l,d,x,s)) (some (g,l,d,x,s))))=some (b,l,d,x,s)/\okY b l d x s:=by
 rw[Dx n g l d x s c e];by_cases a:okY g l d x s
 ·rw[ae a];exact⟨g,rfl,a⟩
 ·rw[ab a];exact⟨false,rfl,h⟩
def wV{d:aa}{s:Int}(b:d.length=4)(a:∀c∈d,bD c=true\/c=88)(f:0<=s)(e:s<=4)(g:¬(0<s/\hasX d=true)):okY false false d 0 s:=by
 have:okS false d 0 s:=⟨b,a,rfl,by simp,f,e,g⟩;simpa[okY]using this
def Vk(n:Nat)(a b:Int)(g:Bool)(d:aa)(B:d.length=4)(m:∀c∈d,bD c=true)(A:4<n):
  ∃s:aa,av (gv n) n (a,b,[],0,false,false,[],0,0,g,false,d,0,0)=some (s,false,false,[],0,0,g,false,d,0,0)/\s.length=4/\∀c∈s,bD c=true\/c=88:=by
 obtain⟨y,r,s,l,p,v⟩:=pQ (step:=gv n) (λx=>∃(i:Nat) (s:aa),i<=4/\s.length=i/\(∀c∈s,bD c=true\/c=88)/\x=(a,b,s,(i:Int),false,false,[],0,0,g,false,d,0,0)) (λx=>4 - x.2.2.2.1.toNat) (λy=>∃s:aa,y=(s,false,false,[],0,0,g,false,d,0,0)/\s.length=4/\∀c∈s,bD c=true\/c=88) (by
  rintro x ⟨i,s,hi,hs,hc,rfl⟩;rcases aJ i 4 with k | t
  ·obtain⟨c,f⟩:∃c,d[i]?=some c:=⟨d[i],bu (by omega)⟩;have o:decide ((i:Int)<4)=true:=ar (by omega);have w:wrap .i64 ((i:Int)+1)=((i+1:Nat):Int):=by rw[wrap_i64 _ (by omega) (by omega)];omega
   have next:∀e:UInt8,(bD e=true\/e=88)->∃j,some (Sum.inl (a,b,s++[e],((i+1:Nat):Int),false,false,([]:aa),(0:Int),(0:Int),g,false,d,(0:Int),(0:Int)))=some (Sum.inl (β:=aa×Bool×Bool×aa×Int×Int×Bool×Bool×aa×Int×Int) j)/\(∃(i:Nat) (s:aa),i<=4/\s.length=i/\(∀c∈s,bD c=true\/c=88)/\j=(a,b,s,(i:Int),false,false,[],0,0,g,false,d,0,0))/\4 - j.2.2.2.1.toNat<4 - i:=by
    intro e z;refine⟨_,rfl,⟨i+1,s++[e],k,by simp[hs],?_,rfl⟩,by simp only[bX];omega⟩;intro u h;rcases kQ.1 h with q | q
    ·exact hc u q
    ·simp only[cb,ov,oK]at q;rw[q];exact z
   simp only[gv,o,aj,w,bX,eM (show i+1<=d.length by omega),eM (show i<=i+1 by omega),ob,cut1 f];rw[eK (a:=s) (b:=[88]) (by simp;omega),eK (a:=s) (b:=[c]) (by simp;omega)];simp only[];left;cases((i:Int)==a)
   ·cases((i:Int)==b)
    ·exact next c (.inl (m c (fk f)))
    ·exact next 88 (.inr rfl)
   ·exact next 88 (.inr rfl)
  ·have:i=4:=by omega
   subst this;exact .inr ⟨_,rfl,s,rfl,hs,hc⟩) n (a,b,[],0,false,false,[],0,0,g,false,d,0,0) ⟨0,[],by omega,rfl,by simp,rfl⟩ (by simp;omega)
 exact⟨s,by rw[r,l],p,v⟩
def cut9(r:Nat)(h:r<9):List.drop r (List.take (r+1) ([49,50,51,52,53,54,55,56,57]:aa))=[UInt8.ofNat (49+r)]:=by
 have:∀r,r<9->List.drop r (List.take (r+1) ([49,50,51,52,53,54,55,56,57]:aa))=[UInt8.ofNat (49+r)]:=by decide
 exact this r h
def II{d:aa}{x s:Nat}(b:∀c∈d,bD c=true)(f:1<=d.length)(n:d.length<=5)(i:d.head?≠some 48)(j:x<=11)(h:x=0->d.length=5)(k:s<=d.length+x):okY false true d (x:Int) (s:Int):=by
 have a:=qU d 0 0 b (by simp);have hp:(10:Nat) ^ (d.length+0)<=10 ^ 5:=lh (by decide) (by omega);have g:(10:Nat) ^ x<=10 ^ 11:=lh (by decide) j;have o:=xk (Nat.le_of_lt (oQ a hp)) g;have e:(10:Nat) ^ 5*10 ^ 11=E16:=by decide
 have:okL d (x:Int) (s:Int):=⟨⟨b,f,by omega,i,by omega,by omega,by rintro⟨m,l⟩;have:=h (by omega);omega,by simp only[bX];omega⟩,by omega,by omega⟩;simpa[okY]using this
def MF(m a0 a2 a b:Nat)(g:Bool)(h2:a2<65536)(Y:a<256)(h4:b<256):∃f l d x s,jy (m+300) (a0:Int) g (a2:Int) (a:Int) (b:Int)=some (f,l,d,x,s)/\okY f l d x s/\d.length<=5/\x<=11/\(a0%6≠3->hasX d=false):=by
 obtain⟨d,N,j,k⟩:=UY (m+300) a2 h2;have w:∀c∈d,bD c=true\/c=88:=λc hc=>.inl (k c hc);have n:=uA k;unfold jy;rw[N];simp only[ob];cases W:(Int.tmod (a0:Int) 6==3)with
 | true=>
  simp only[aj];obtain⟨s,F,L,R⟩:=Vk (m+300) (wrap .i64 (Int.tmod (a:Int) 4)) (wrap .i64 (Int.tmod (b:Int) 4)) g d j k (by omega);rw[F];obtain⟨f,i,h⟩:=yI (m+300) g false s 0 0 (by omega) (by omega) (wV L R (by omega) (by omega) (by omega))
  exact⟨f,false,s,0,0,i,h,by omega,by omega,λY=>absurd (by
   have e:=bL.1 W;have e2:Int.tmod (a0:Int) 6=((a0%6:Nat):Int):=rfl;omega) Y⟩
 | false=>
  simp only[af];cases(Int.tmod (a0:Int) 6==4)with
  | true=>
   simp only[aj];have e:Int.tmod (a:Int) 4=((a%4:Nat):Int):=rfl;have w1:wrap .i64 ((a%4:Nat):Int)=((a%4:Nat):Int):=wrap_i64 _ (by omega) (by omega);have w2:wrap .i64 (1+((a%4:Nat):Int))=((1+a%4:Nat):Int):=by rw[wrap_i64 _ (by omega) (by omega)];omega
   rw[e,w1,w2];obtain⟨f,i,h⟩:=yI (m+300) g false d 0 ((1+a%4:Nat):Int) (by omega) (by omega) (wV j w (by omega) (by omega) (by rw[n];simp));exact⟨f,false,d,0,_,i,h,by omega,by omega,λ_=>n⟩
  | false=>
   simp only[af];cases(Int.tmod (a0:Int) 6==5)with
   | false=>
    simp only[af];obtain⟨f,i,h⟩:=yI (m+300) g false d 0 0 (by omega) (by omega) (wV j w (by omega) (by omega) (by omega));exact⟨f,false,d,0,0,i,h,by omega,by omega,λ_=>n⟩
   | true=>
    simp only[aj];have e9:Int.tmod (a:Int) 9=((a%9:Nat):Int):=rfl;have w9:wrap .u8 (((a%9:Nat):Int)+1)=((a%9+1:Nat):Int):=by rw[gK _ (by omega) (by omega)];omega
    have e3:Int.tmod (b:Int) 3=((b%3:Nat):Int):=rfl;have e5:Int.tmod (b:Int) 5=((b%5:Nat):Int):=rfl;have Z:wrap .u8 (1+((b%5:Nat):Int))=((1+b%5:Nat):Int):=by rw[gK _ (by omega) (by omega)];omega
    have G:Int.tdiv (b:Int) 16=((b / 16:Nat):Int):=rfl;have V:wrap .u8 ((b / 16:Nat):Int)=((b / 16:Nat):Int):=gK _ (by omega) (by omega);have I:Int.tmod ((b / 16:Nat):Int) 11=((b / 16%11:Nat):Int):=rfl;have M:wrap .i64 ((b / 16%11:Nat):Int)=((b / 16%11:Nat):Int):=wrap_i64 _ (by omega) (by omega);have P:wrap .i64 (1+((b / 16%11:Nat):Int))=((1+b / 16%11:Nat):Int):=by rw[wrap_i64 _ (by omega) (by omega)];omega
    have U:Int.tdiv (a:Int) 16=((a / 16:Nat):Int):=rfl;have O:wrap .u8 ((a / 16:Nat):Int)=((a / 16:Nat):Int):=gK _ (by omega) (by omega);have B:wrap .i64 ((a / 16:Nat):Int)=((a / 16:Nat):Int):=wrap_i64 _ (by omega) (by omega);have C:UInt8.ofNat (49+a%9)≠48:=by
     intro q;have:=co UInt8.toNat q;rw[show 49+a%9=48+(1+a%9)by omega,mL (by omega)]at this;exact absurd this (by show¬48+(1+a%9)=48;omega)
    have p:bD (UInt8.ofNat (49+a%9))=true:=(eo _).2 (by rw[show 49+a%9=48+(1+a%9)by omega,mL (by omega)];omega);rw[e9,w9,eM (show a%9+1<=9 by omega)];simp only[];rw[eM (show a%9<=a%9+1 by omega)];simp only[];rw[cut9 (a%9) (by omega),eK (by simp;omega)];simp only[];generalize K:[UInt8.ofNat (49+a%9)]++d=D;have A:D.length=5:=by rw[<-K];simp[j]
    have t:∀c∈D,bD c=true:=by
     rw[<-K];intro c hc;simp only[fi,dO,cb]at hc;rcases hc with rfl | hc
     ·exact p
     ·exact k c hc
    have z:D.head?≠some 48:=by rw[<-K];simpa using C
    rw[e3,e5,Z,G,V,I,M,P,U,O,B];by_cases h33:0<b%3
    ·have Q:decide (((b%3:Nat):Int)>0)=true:=ar (by omega);rw[Q,aj,eM (show 1+b%5<=D.length by omega)];simp only[cS];generalize T:List.take (1+b%5) D=E;have hEl:E.length=1+b%5:=by rw[<-T,dA];omega
     have y:∀c∈E,bD c=true:=by rw[<-T];exactλc hc=>t c (List.mem_of_mem_take hc)
     have S:E.head?≠some 48:=by
      rw[<-T];cases D with
      | nil=>simp at A
      | cons c r=>rw[oP,mU];simpa using z
     generalize hX:1+b / 16%11=X;have v:X<=11:=by omega
     have hX1:1<=X:=by omega
     have H:wrap .i64 (wrap .i64 (((E.length:Nat):Int)+((X:Nat):Int))+1)=((E.length+X+1:Nat):Int):=by
      rw[wrap_i64 (((E.length:Nat):Int)+((X:Nat):Int)) (by omega) (by omega),wrap_i64 _ (by omega) (by omega)];omega
     have o:(((E.length+X+1:Nat):Int)==0)=false:=aK.2 (by omega);rw[H,o,af];have J:Int.tmod ((a / 16:Nat):Int) ((E.length+X+1:Nat):Int)=((a / 16%(E.length+X+1):Nat):Int):=rfl;rw[J];have u:a / 16%(E.length+X+1)<E.length+X+1:=rt _ (by omega);generalize a / 16%(E.length+X+1)=s at u ⊢;obtain⟨f,i,h⟩:=yI (m+300) g true E ((X:Nat):Int) ((s:Nat):Int) (by omega) (by omega) (II y (by omega) (by omega) S v (by omega) (by omega));exact⟨f,true,E,_,_,i,h,by omega,by omega,λ_=>uA y⟩
    ·have Q:decide (((b%3:Nat):Int)>0)=false:=au (by omega);rw[Q,af,A];have H:wrap .i64 (wrap .i64 (((5:Nat):Int)+0)+1)=((6:Nat):Int):=by decide
     have o:(((6:Nat):Int)==0)=false:=rfl;rw[H,o,af];have J:Int.tmod ((a / 16:Nat):Int) ((6:Nat):Int)=((a / 16%6:Nat):Int):=rfl;rw[J];have u:a / 16%6<6:=rt _ (by omega);generalize a / 16%6=s at u ⊢;obtain⟨f,i,h⟩:=yI (m+300) g true D ((0:Nat):Int) ((s:Nat):Int) (by omega) (by omega) (II t (by omega) (by omega) z (by omega) (by omega) (by omega));exact⟨f,true,D,_,_,i,h,by omega,by omega,λ_=>uA t⟩
def X9(m a0 a2 f c:Nat)(g:Bool)(b:a2<65536)(k:f<256)(j:c<256):∃a l d x s,jy (m+300) (a0:Int) g (a2:Int) (f:Int) (c:Int)=some (a,l,d,x,s)/\okY a l d x s/\d.length<=5/\x<=11:=by
 obtain⟨a,l,d,x,s,e,h,i,b,_⟩:=MF m a0 a2 f c g b k j;exact⟨a,l,d,x,s,e,h,i,b⟩
def xG{g l:Bool}{d:aa}{x s:Nat}(h:okY g l d (x:Int) (s:Int)):(ir g l d (x:Int) (s:Int)).length<=25:=by
 have hs:=iJ h;have b:=DO 69 (show x<100 by omega);have a:=DO 83 (show s<100 by omega);rw[lP];simp only[aZ];have e:(if l=true then([89]:aa)else[]).length<=1:=by split<;>simp
 have c:(if g=true then([45]:aa)else[]).length<=1:=by split<;>simp
 omega
def cU(A B:Nat)(w:aa):aa:=mt A++w++mt B
def tU(g l:Bool)(dg:aa)(x q:Int)(m d:aa)(k0 k1 k2:Nat):aa:=
 cU (plA (bH m d) k0 k1 k2).1 (plB (bH m d) k0 k1 k2).1 (ir g l dg x q)
  ++ ((if m=[]then[]else 45::cU (plA (bH m d) k0 k1 k2).2.1 (plB (bH m d) k0 k1 k2).2.1 m)
  ++ (if d=[]then[]else 45::cU (plA (bH m d) k0 k1 k2).2.2 (plB (bH m d) k0 k1 k2).2.2 d))
structure OkD(g l:Bool)(dg:aa)(x q:Nat)(m d:aa)(k0 k1 k2:Nat):Prop where
 yr:okY g l dg (x:Int) (q:Int)
 x16:x<=16
 q17:q<=17
 dg17:dg.length<=17
 noM:0<q->m=[]
 mon:m=[]\/(m.length=2/\∀c∈m,isDX c=true)
 day:d=[]\/(m≠[]/\d.length=2/\∀c∈d,isDX c=true)
 m0:k0<4
 m1:k1<4
 m2:k2<4
 z1:bH m d<2->k1=0
 z2:bH m d<3->k2=0
def IZ{g l:Bool}{dg:aa}{x q:Int}{m d:aa}{k0 k1 k2:Int}(w:0<=k0)(A:0<=k1)(B:0<=k2)(h:chkD g l dg x q m d k0 k1 k2=0):
  ∃o p a b c:Nat,x=(o:Int)/\q=(p:Int)/\k0=(a:Int)/\k1=(b:Int)/\k2=(c:Int)/\OkD g l dg o p m d a b c:=by
 obtain⟨hy,f,i,n⟩:=Dj h;unfold yrD at hy;by_cases e:okY g l dg x q
 rotate_left
 ·rw[ab e]at hy;cases hy
 rw[ae e]at hy;obtain⟨r,C,s,y,v,t⟩:=iJ e;have hk':¬(3<k0\/3<k1\/3<k2\/(bH m d<2/\k1≠0)\/(bH m d<3/\k2≠0)):=by
  intro z;unfold allM at n;rw[ae z]at n;exact absurd n (by decide)
 refine⟨x.toNat,q.toNat,k0.toNat,k1.toNat,k2.toNat,by omega,by omega,by omega,by omega,by omega,?_⟩;rw[<-HK r,<-HK s]at e;refine⟨e,by omega,by omega,t,?_,?_,?_,by omega,by omega,by omega,by omega,by omega⟩
 ·intro u;unfold yrB at hy;have hq':decide (0<q)=true:=by simp;omega
  rw[hq']at hy;by_cases j:m=[]
  ·exact j
  ·have:(m==[])=false:=aK.2 j;rw[this]at hy;simp at hy
 ·rcases f with f | f | f
  ·exact .inl f
  ·exact .inr (G6 f)
  ·exact .inr (nO (by omega) f)
 ·rcases i with i | ⟨i,_,k⟩
  ·exact .inl i
  ·have:=nO (show 31<=31 by omega) k;exact .inr ⟨i,this.1,this.2⟩
def PS(n k i:Nat)(hi:i<k)(x:k<=3)(A B:List Nat)(a b:Nat)(j:A[i]?=some a)(h:B[i]?=some b)(f:a<4)(g:b<4)(ws:List (aa))(C:ws.length=k)(w:aa)(w0 d e:aa)(p:[w0,d,e][i]?=some w)(r:w.length<=1000):
  aW n (k,(k:Int),(i:Int),A.map cI,B.map cI,ws,[w0,d,e])=some (.inl (k,(k:Int),((i+1:Nat):Int),A.map cI,B.map cI,ws.set i (cU a b w),[w0,d,e])):=by
 have w2':wrap .i64 ((i:Int)+1)=((i+1:Nat):Int):=by rw[wrap_i64 _ (by omega) (by omega)];omega
 have o:(A.map cI)[i]?=some (a:Int):=by rw[nX,j];rfl
 have s:(B.map cI)[i]?=some (b:Int):=by rw[nX,h];rfl
 have c:∀z:Nat,z<4->(mt z).length<=1:=λz t=>by
  unfold mt;split
  ·simp
  ·split
   ·simp
   ·split<;>simp
 unfold aW;rw[bW,ae (show(i:Int)<(k:Int)by omega)];simp only[cT hi,cT (show i<3 by omega),ob,p,d4,o,s,RI n a f,RI n b g];have y:=c a f;have u:=c b g;have m:cat (mt a) w=some (mt a++w):=eK (by omega);have l:cat (mt a++w) (mt b)=some (mt a++w++mt b):=eK (by rw[aZ];omega);rw[m];simp only[ob];rw[l];simp only[ob];have hi':i<ws.length:=by omega
 obtain⟨v,q⟩:∃v,ws[i]?=some v:=⟨ws[i],bu hi'⟩;rw[cT hi'];simp only[ob,q,w2'];rfl
def FM(n k:Nat)(A B:List Int)(ws V:List (aa)):aW n (k,(k:Int),(k:Int),A,B,ws,V)=some (.inr ws):=by
 unfold aW;rw[bW,ab (show¬((k:Int)<(k:Int))by omega)]
def ny(a b:Nat)(w:aa):(cU a b w).length<=w.length+2:=by
 have c:∀z:Nat,(mt z).length<=1:=λz=>by
  unfold mt;split
  ·simp
  ·split
   ·simp
   ·split<;>simp
 have:=c a;have:=c b;unfold cU;simp only[aZ];omega
def Sr:bH [] []=1:=rfl
def LM{m:aa}(h:m≠[]):bH m []=2:=by unfold bH;rw[aK.2 h];rfl
def O9{m d:aa}(h:m≠[])(a:d≠[]):bH m d=3:=by unfold bH;rw[aK.2 h,aK.2 a];rfl
def pK{d:aa}(h:d.length=2):d≠[]:=by rintro rfl;simp at h
def VO(n:Nat)(g l:Bool)(dg:aa)(x q:Nat)(m d:aa)(k0 k1 k2:Nat)(U:m.length<=18)(N:dg.length<=100):
  bR (n+300) g l dg (x:Int) (q:Int) m d (k0:Int) (k1:Int) (k2:Int)=some (if chkD g l dg (x:Int) (q:Int) m d (k0:Int) (k1:Int) (k2:Int)=0 then(tU g l dg (x:Int) (q:Int) m d k0 k1 k2,0)else([],chkD g l dg (x:Int) (q:Int) m d (k0:Int) (k1:Int) (k2:Int))):=by
 unfold bR;rw[AS (n+300) (by omega) g l dg _ _ m d _ _ _ U N (by omega) (by omega) (by omega)];show cond (chkD g l dg (x:Int) (q:Int) m d (k0:Int) (k1:Int) (k2:Int) != 0) _ _=_;rw[wC];by_cases B:chkD g l dg (x:Int) (q:Int) m d (k0:Int) (k1:Int) (k2:Int)=0
 rotate_left
 ·rw[ab B,ab B]
 rw[ae B,ae B];obtain⟨R,W,a,b,c,e1,e2,e3,e4,e5,o⟩:=IZ (by omega) (by omega) (by omega) B;obtain rfl:x=R:=by omega
 obtain rfl:q=W:=by omega
 obtain rfl:k0=a:=by omega
 obtain rfl:k1=b:=by omega
 obtain rfl:k2=c:=by omega
 have hc:=kX m d;have H:=XZ n (bH m d) k0 k1 k2 hc o.m0 o.m1 o.m2 o.z1 o.z2;obtain⟨F,M,O,y,K,P⟩:=Yg (k:=bH m d) o.m0 o.m1 o.m2;rw[qt (n+300) (by omega)];simp only[ob];rw[H,BS (n+300) g l dg _ _ (by omega) N,ae o.yr];simp only[ob,eT,af,KI o.yr,aj];have E:(decide ((0:Int)<=((bH m d:Nat):Int))&&(decide (((bH m d:Nat):Int)<=((bH m d:Nat):Int))&&decide (((bH m d:Nat):Int)<=(67108864:Int))))=true:=by
  rw[ar (by omega),ar (by omega),ar (by omega)];rfl
 rw[E,eM (show bH m d<=3 by omega)];simp only[ob,aj,bX];have J:=xG o.yr;have T:Nat.ble 1 140737488355328=true:=rfl;have S:Nat.ble 2 140737488355328=true:=rfl;have V:Nat.ble 3 140737488355328=true:=rfl;unfold tU;generalize ir g l dg (x:Int) (q:Int)=Y at J;generalize D:plA (bH m d) k0 k1 k2=Q at *;generalize C:plB (bH m d) k0 k1 k2=PB at *;obtain⟨j,r,t⟩:=Q;obtain⟨f,p,s⟩:=PB;simp only at F M O y K P;have st:=λ(k i:Nat) (hi:i<k) (hk:k<=3) (a b:Nat) (ha:[j,r,t][i]?=some a) (hb:[f,p,s][i]?=some b) (a4:a<4) (b4:b<4) (ws:List (aa)) (hl:ws.length=k) (w:aa) (w0 w1 w2:aa) (G:[w0,w1,w2][i]?=some w) (hwl:w.length<=1000)=>PS (n+300) k i hi hk [j,r,t] [f,p,s] a b ha hb a4 b4 ws hl w w0 w1 w2 G hwl;have A:∀L:aa,L.length<=1000->Nat.ble L.length 140737488355328=true:=λL h=>cD (by omega);by_cases u:m=[]
 ·have v:d=[]:=o.day.resolve_right (λz=>z.1 u);subst u v;show ob (av (aW (n+300)) (n+299+1) (1,((1:Nat):Int),((0:Nat):Int),[j,r,t].map cI,[f,p,s].map cI,[[]],[Y,[],[]])) _=_;rw[av,st 1 0 (by omega) (by omega) j f rfl rfl F y [[]] rfl Y Y [] [] rfl (by omega)];show ob (av (aW (n+300)) (n+298+1) (1,((1:Nat):Int),((1:Nat):Int),[j,r,t].map cI,[f,p,s].map cI,[cU j f Y],[Y,[],[]])) _=_;rw[av,FM];simp only[ob];have e:Lib.join [cU j f Y] [45]=cU j f Y:=Lib.join_one _ _;have G:=ny j f Y;rw[e,A _ (by omega)];simp[T]
 ·have hml:m.length=2:=(o.mon.resolve_left u).1;by_cases v:d=[]
  ·subst v;rw[LM u]at D C ⊢;show ob (av (aW (n+300)) (n+299+1) (2,((2:Nat):Int),((0:Nat):Int),[j,r,t].map cI,[f,p,s].map cI,[[],[]],[Y,m,[]])) _=_;rw[av,st 2 0 (by omega) (by omega) j f rfl rfl F y [[],[]] rfl Y Y m [] rfl (by omega)];show ob (av (aW (n+300)) (n+298+1) (2,((2:Nat):Int),((1:Nat):Int),[j,r,t].map cI,[f,p,s].map cI,[cU j f Y,[]],[Y,m,[]])) _=_;rw[av,st 2 1 (by omega) (by omega) r p rfl rfl M K [cU j f Y,[]] rfl m Y m [] rfl (by omega)];show ob (av (aW (n+300)) (n+297+1) (2,((2:Nat):Int),((2:Nat):Int),[j,r,t].map cI,[f,p,s].map cI,[cU j f Y,cU r p m],[Y,m,[]])) _=_;rw[av,FM];simp only[ob];have e:Lib.join [cU j f Y,cU r p m] [45]=cU j f Y++(45::cU r p m):=by rw[Lib.join_cons];simp[Lib.joinTail]
   have G:=ny j f Y;have I:=ny r p m;rw[e,A _ (by simp only[aZ,aG];omega)];rw[ab u];simp[S]
  ·have X:d.length=2:=(o.day.resolve_left v).2.1;rw[O9 u v]at D C ⊢;show ob (av (aW (n+300)) (n+299+1) (3,((3:Nat):Int),((0:Nat):Int),[j,r,t].map cI,[f,p,s].map cI,[[],[],[]],[Y,m,d])) _=_;rw[av,st 3 0 (by omega) (by omega) j f rfl rfl F y [[],[],[]] rfl Y Y m d rfl (by omega)];show ob (av (aW (n+300)) (n+298+1) (3,((3:Nat):Int),((1:Nat):Int),[j,r,t].map cI,[f,p,s].map cI,[cU j f Y,[],[]],[Y,m,d])) _=_;rw[av,st 3 1 (by omega) (by omega) r p rfl rfl M K [cU j f Y,[],[]] rfl m Y m d rfl (by omega)];show ob (av (aW (n+300)) (n+297+1) (3,((3:Nat):Int),((2:Nat):Int),[j,r,t].map cI,[f,p,s].map cI,[cU j f Y,cU r p m,[]],[Y,m,d])) _=_;rw[av,st 3 2 (by omega) (by omega) t s rfl rfl O P [cU j f Y,cU r p m,[]] rfl d Y m d rfl (by omega)];show ob (av (aW (n+300)) (n+296+1) (3,((3:Nat):Int),((3:Nat):Int),[j,r,t].map cI,[f,p,s].map cI,[cU j f Y,cU r p m,cU t s d],[Y,m,d])) _=_;rw[av,FM];simp only[ob];have e:Lib.join [cU j f Y,cU r p m,cU t s d] [45]=cU j f Y++(45::cU r p m++(45::cU t s d)):=by rw[Lib.join_cons];simp[Lib.joinTail]
   have G:=ny j f Y;have I:=ny r p m;have Z:=ny t s d;rw[e,A _ (by simp only[aZ,aG];omega)];rw[ab u,ab v];simp[V]
def isMk(c:UInt8):Bool:=decide (0<mkOf c)
def hZ{S u v:aa}{a:Nat}(h:S.drop a=u++v):S.drop (a+u.length)=v:=by
 rw[<-kK,h,EN];rfl
def Ol{A:Nat}(d:A<4){r:aa}(b:dl isMk r):mkS (mt A++r)=A/\mkN (mt A++r)=(mt A).length:=by
 have a:mkS r=0:=by
  cases r with
  | nil=>rfl
  | cons c r=>
   have:=b c rfl;unfold isMk at this;have:=of_decide_eq_false this;show mkOf c=0;omega
 have h:A=0\/A=1\/A=2\/A=3:=by omega
 rcases h with rfl | rfl | rfl | rfl
 ·refine⟨a,?_⟩;show mkN r=0;unfold mkN;rw[ae a]
 ·exact⟨rfl,rfl⟩
 ·exact⟨rfl,rfl⟩
 ·exact⟨rfl,rfl⟩
def eG{p:UInt8->Bool}{c:UInt8}{r:aa}(h:p c=false):dl p (c::r):=λa hc=>by
 simp only[oO,aq]at hc;rw[<-hc];exact h
def Md{p:UInt8->Bool}(B:Nat){r:aa}(b:p 63=false)(a:p 126=false)(d:p 37=false)(c:dl p r):dl p (mt B++r):=by
 unfold mt;split
 ·exact eG b
 ·split
  ·exact eG a
  ·split
   ·exact eG d
   ·exact c
def J5{c:UInt8}(h:isDX c=true):isMk c=false:=by
 have:=jz (λc=>!(isDX c)||!(isMk c)) (by decide +kernel) c;rw[h]at this;simpa using this
def wc{p q:UInt8->Bool}{w r:aa}(b:w≠[])(h:∀c∈w,p c=true)(a:∀c,p c=true->q c=false):dl q (w++r):=by
 cases w with
 | nil=>exact absurd rfl b
 | cons c w=>exact eG (a c (h c l7))
def OC{g l:Bool}{d:aa}{x s:Int}(h:okY g l d x s):∀c∈d,isDX c=true:=by
 intro c hc;unfold okY at h;have:bD c=true\/c=88:=by
  split at h
  ·exact .inl (h.1.1 c hc)
  ·exact h.2.1 c hc
 unfold isDX;rcases this with a | a
 ·rw[a];rfl
 ·rw[a];decide
def Ku{g l:Bool}{d:aa}{x s:Nat}(h:okY g l d (x:Int) (s:Int))(r:aa):dl isMk (ir g l d (x:Int) (s:Int)++r):=by
 have a:d≠[]:=by
  have:=(iJ h).2.2.2.2.1;rintro rfl;simp at this
 rw[lP];cases l with
 | true=>exact eG (by decide)
 | false=>
  cases g with
  | true=>exact eG (by decide)
  | false=>
   simp only[bQ,aF,dO,f8];exact wc a (OC h) (λc=>J5)
def uu{S:aa}{p A B:Nat}{w R:aa}(h:S.drop p=cU A B w++R)(m:A<4)(k:B<4)(i:dl isMk (w++(mt B++R)))(l:dl isMk R):
  mkS (S.drop p)=A/\S.drop (mkE S p)=w++(mt B++R)/\mkS (S.drop (mkE S p+w.length))=B/\S.drop (mkE S (mkE S p+w.length))=R/\mkE S (mkE S p+w.length)=p+(cU A B w).length:=by
 have h':S.drop p=mt A++(w++(mt B++R)):=by rw[h];unfold cU;simp
 obtain⟨g,f⟩:=Ol m i;obtain⟨j,e⟩:=Ol k l;have d:mkE S p=p+(mt A).length:=by unfold mkE;rw[h',f]
 have c:S.drop (mkE S p)=w++(mt B++R):=by rw[d];exact hZ h'
 have b:S.drop (mkE S p+w.length)=mt B++R:=hZ c;have a:mkE S (mkE S p+w.length)=mkE S p+w.length+(mt B).length:=by
  show mkE S p+w.length+mkN (S.drop (mkE S p+w.length))=_;rw[b,e]
 refine⟨by rw[h',g],c,by rw[b,j],by rw[a];exact hZ b,?_⟩;rw[a,d];unfold cU;simp only[aZ];omega
def CQ{m r:aa}(f:m.length=2)(h:∀c∈m,isDX c=true):twoN (m++r)=2/\(m++r).take 2=m:=by
 match m,f with
 | [a,b],_=>
  have e:=h a (by simp);have d:=h b (by simp);refine⟨?_,rfl⟩;unfold twoN;show cR isDX 2 (a::b::r)=2;simp[cR,e,d]
def UA{k a b c:Nat}(e:k<2->b=0)(d:k<3->c=0)(f:1<=k):(k<2->(plA k a b c).2.1=0/\(plB k a b c).2.1=0)/\(k<3->(plA k a b c).2.2=0/\(plB k a b c).2.2=0):=by
 unfold plA plB;constructor
 ·intro h;have:k=1:=by omega
  subst this;have:=e h;split
  ·simp
  ·simp[this]
 ·intro h;have:=d h;split
  ·split
   ·simp
   ·have:k=2:=by omega
    simp[this]
  ·simp[this]
def rawD(A B:Nat×Nat×Nat)(g l:Bool)(dg:aa)(x q:Int)(m d:aa):aa:=
 cU A.1 B.1 (ir g l dg x q)++((if m=[]then[]else 45::cU A.2.1 B.2.1 m)++(if d=[]then[]else 45::cU A.2.2 B.2.2 d))
structure MkD(A B:Nat×Nat×Nat)(m d:aa):Prop where
 a0:A.1<4
 a1:A.2.1<4
 a2:A.2.2<4
 b0:B.1<4
 b1:B.2.1<4
 b2:B.2.2<4
 zm:m=[]->A.2.1=0/\B.2.1=0
 zd:d=[]->A.2.2=0/\B.2.2=0
structure ShD(g l:Bool)(dg:aa)(x q:Nat)(m d:aa):Prop where
 yr:okY g l dg (x:Int) (q:Int)
 noM:0<q->m=[]
 mon:m=[]\/(m.length=2/\∀c∈m,isDX c=true)
 day:d=[]\/(m≠[]/\d.length=2/\∀c∈d,isDX c=true)
def OkD.sh{g l:Bool}{dg:aa}{x q:Nat}{m d:aa}{k0 k1 k2:Nat}(h:OkD g l dg x q m d k0 k1 k2):ShD g l dg x q m d:=⟨h.yr,h.noM,h.mon,h.day⟩
def OkD.marks{g l:Bool}{dg:aa}{x q:Nat}{m d:aa}{k0 k1 k2:Nat}(h:OkD g l dg x q m d k0 k1 k2):MkD (plA (bH m d) k0 k1 k2) (plB (bH m d) k0 k1 k2) m d:=by
 obtain⟨O,X,U,J,W,Y⟩:=Yg (k:=bH m d) h.m0 h.m1 h.m2;obtain⟨G,F⟩:=UA (a:=k0) h.z1 h.z2 (kX m d).1;refine⟨O,X,U,J,W,Y,λC=>G ?_,λQ=>F ?_⟩
 ·have E:d=[]:=h.day.resolve_right (λz=>z.1 C);subst C E;rw[Sr];omega
 ·subst Q;by_cases C:m=[]
  ·subst C;rw[Sr];omega
  ·rw[LM C];omega
def P3{A B:Nat×Nat×Nat}{g l:Bool}{dg:aa}{x q:Nat}{m d:aa}(i:ShD g l dg x q m d)(o:MkD A B m d){S:aa}{a:Nat}{post:aa}(h:S.drop a=rawD A B g l dg (x:Int) (q:Int) m d++post)
  (hp1:dl isYC post) (D:dl isMk post) (M:dl (λc=>c==45) post):
  ∃P:Nat×Nat×Nat,P.1=a+(mt A.1).length/\uD S a=.inr (g,l,dg,x,q,m,d,spM A B,P,a+(rawD A B g l dg (x:Int) (q:Int) m d).length):=by
 obtain⟨l0,l1,l2,l3',l4,l5,N,C⟩:=o;obtain⟨k,t,K⟩:=A;obtain⟨j,n,w⟩:=B;simp only at l0 l1 l2 l3' l4 l5 N C h;unfold rawD at h ⊢;simp only at h ⊢;have y:isMk 45=false:=by decide
 have T:isYC 45=false:=by decide
 have X:∀r:aa,dl (λc=>c==45) r->gB 45 r=0:=λr hr=>by
  cases r with
  | nil=>rfl
  | cons c r=>
   have:=hr c rfl;exact pw (λe=>by rw[e]at this;exact absurd this (by decide)) r
 have hyx:=Oc i.yr;have U:=Ku i.yr;generalize hY:ir g l dg (x:Int) (q:Int)=Y at *;have I:∀R:aa,S.drop a=cU k j Y++R->dl isYC R->dl isMk R->
   mkE S a=a+(mt k).length/\mkS (S.drop a)=k/\us (S.drop (mkE S a))=.inr (g,l,dg,x,q,Y.length)/\mkS (S.drop (mkE S a+Y.length))=j/\S.drop (mkE S (mkE S a+Y.length))=R/\mkE S (mkE S a+Y.length)=a+(cU k j Y).length:=by
  intro R hR h1 V;obtain⟨E,F,G,p,v⟩:=uu hR l0 l3' (U _) V;refine⟨?_,E,?_,G,p,v⟩
  ·have hR':S.drop a=mt k++(Y++(mt j++R)):=by rw[hR];unfold cU;simp
   unfold mkE;rw[hR',(Ol l0 (U _)).2]
  rw[F];exact hyx _ (Md j (by decide) (by decide) (by decide) h1)
 unfold uD;by_cases f:m=[]
 ·have b:d=[]:=i.day.resolve_right (λz=>z.1 f);subst f b;simp only[aN,lH]at h ⊢;obtain⟨w0,E,F,G,p,v⟩:=I post h hp1 D;rw[F];simp only[];rw[p,ae (.inr (X post M)),E,G,v];obtain⟨rfl,rfl⟩:=N rfl;obtain⟨rfl,rfl⟩:=C rfl;exact⟨_,w0,rfl⟩
 ·have hq0:¬0<q:=λz=>f (i.noM z);obtain⟨s,H⟩:=i.mon.resolve_left f;rw[ab f]at h ⊢;have o:∀r,dl isMk (m++r):=λr=>wc f H (λc=>J5);by_cases b:d=[]
  ·subst b;rw[ae rfl,lH]at h ⊢;have h':S.drop a=cU k j Y++(45::(cU t n m++post)):=by rw[h];simp
   obtain⟨w0,E,F,G,p,v⟩:=I _ h' (eG T) (eG y);rw[F];simp only[];rw[p,om,ab (λz=>z.elim hq0 (by omega)),E,G];unfold rd2;have V:S.drop (mkE S (mkE S a+Y.length)+1)=cU t n m++post:=hZ (u:=[45]) p;obtain⟨v1,v2,Z,J,O⟩:=uu V l1 l4 (o _) D;obtain⟨Q,u2⟩:=CQ (r:=mt n++post) s H;rw[<-v2]at Q u2;rw[s]at Z J O;rw[Q,ab (by omega),J,X post M,ae rfl,u2,v1,Z,O,v];obtain⟨rfl,rfl⟩:=C rfl;have:a+(cU k j Y).length+1+(cU t n m).length=a+(cU k j Y++45::cU t n m).length:=by simp only[aZ,aG];omega
   rw[this];exact⟨_,w0,rfl⟩
  ·obtain⟨_,W,L⟩:=i.day.resolve_left b;rw[ab b]at h ⊢;have hdk:∀r,dl isMk (d++r):=λr=>wc b L (λc=>J5);have h':S.drop a=cU k j Y++(45::(cU t n m++(45::(cU K w d++post)))):=by rw[h];simp
   obtain⟨w0,E,F,G,p,v⟩:=I _ h' (eG T) (eG y);rw[F];simp only[];rw[p,om,ab (λz=>z.elim hq0 (by omega)),E,G];unfold rd2;have V:S.drop (mkE S (mkE S a+Y.length)+1)=cU t n m++(45::(cU K w d++post)):=hZ (u:=[45]) p;obtain⟨v1,v2,Z,J,O⟩:=uu V l1 l4 (o _) (eG y);obtain⟨Q,u2⟩:=CQ (r:=mt n++(45::(cU K w d++post))) s H;rw[<-v2]at Q u2;rw[s]at Z J O;rw[Q,ab (by omega),J,om,ab (by omega),u2,v1,Z];unfold rd3;have h3:S.drop (mkE S (mkE S (mkE S (mkE S a+Y.length)+1)+2)+1)=cU K w d++post:=hZ (u:=[45]) J;obtain⟨x1,x2,x3,x4,x5⟩:=uu h3 l2 l5 (hdk _) D;obtain⟨s1,s2⟩:=CQ (r:=mt w++post) W L;rw[<-x2]at s1 s2;rw[W]at x3 x4 x5;rw[s1,ab (by omega),s2,x1,x3,x5,O,v];have:a+(cU k j Y).length+1+(cU t n m).length+1+(cU K w d).length=a+(cU k j Y++(45::cU t n m++45::cU K w d)).length:=by simp only[aZ,aG];omega
   rw[this];exact⟨_,w0,rfl⟩
def KC{g l:Bool}{dg:aa}{x q:Nat}{m d:aa}{k0 k1 k2:Nat}(b:OkD g l dg x q m d k0 k1 k2){S:aa}{a:Nat}{post:aa}(h:S.drop a=tU g l dg (x:Int) (q:Int) m d k0 k1 k2++post)
  (e:dl isYC post) (i:dl isMk post) (f:dl (λc=>c==45) post):
  ∃P,uD S a=.inr (g,l,dg,x,q,m,d,(k0,k1,k2),P,a+(tU g l dg (x:Int) (q:Int) m d k0 k1 k2).length):=by
 obtain⟨P,_,j⟩:=P3 b.sh b.marks (S:=S) (a:=a) (post:=post) h e i f;rw[YK (bH m d) k0 k1 k2 (kX m d) b.m0 b.m1 b.m2 b.z1 b.z2]at j;exact⟨P,j⟩
def Nx{g l:Bool}{dg:aa}{x q:Nat}{m d:aa}{k0 k1 k2:Nat}(a:OkD g l dg x q m d k0 k1 k2):(tU g l dg (x:Int) (q:Int) m d k0 k1 k2).length<=37:=by
 have hy:=xG a.yr;have i:=ny (plA (bH m d) k0 k1 k2).1 (plB (bH m d) k0 k1 k2).1 (ir g l dg (x:Int) (q:Int));have f:=ny (plA (bH m d) k0 k1 k2).2.1 (plB (bH m d) k0 k1 k2).2.1 m;have e:=ny (plA (bH m d) k0 k1 k2).2.2 (plB (bH m d) k0 k1 k2).2.2 d;have c:m.length<=2:=by
  rcases a.mon with h | h
  ·rw[h];simp
  ·omega
 have b:d.length<=2:=by
  rcases a.day with h | h
  ·rw[h];simp
  ·omega
 unfold tU;simp only[aZ];have a1:(if m=[]then[]else 45::cU (plA (bH m d) k0 k1 k2).2.1 (plB (bH m d) k0 k1 k2).2.1 m).length<=5:=by
  split
  ·simp
  ·simp only[aG];omega
 have a2:(if d=[]then[]else 45::cU (plA (bH m d) k0 k1 k2).2.2 (plB (bH m d) k0 k1 k2).2.2 d).length<=5:=by
  split
  ·simp
  ·simp only[aG];omega
 omega
def TB{A B:Nat×Nat×Nat}(f:A.1<4)(e:A.2.1<4)(d:A.2.2<4)(g0:B.1<4)(c:B.2.1<4)(b:B.2.2<4):(spM A B).1<4/\(spM A B).2.1<4/\(spM A B).2.2<4:=by
 have a:∀x y:Nat,x<4->y<4->x ||| y<4:=λx y hx hy=>(or4 hx hy).2;exact⟨a _ _ (a _ _ (a _ _ f g0) c) b,a _ _ (a _ _ e c) b,a _ _ d b⟩
structure RdOK(S:aa)(a:Nat)(dg m d:aa)(M:Nat×Nat×Nat)(e:Nat):Prop where
 dg17:dg.length<=17
 m2:m.length<=2
 d2:d.length<=2
 all:inM (bH m d) M
 le:a<=e
 end_:e<=S.length
def HC{S:aa}{a:Nat}(h:a<=S.length){g l:Bool}{dg:aa}{x s:Nat}{m d:aa}{M P:Nat×Nat×Nat}{e:Nat}(b:uD S a=.inr (g,l,dg,x,s,m,d,M,P,e)):RdOK S a dg m d M e:=by
 have c:∀p,mkS (S.drop p)<4:=λp=>Ir _;have o:0<4:=by omega
 have b0:=qT h;have g0:a<=mkE S a:=AX _ _;have n:∀p,p<=mkE S p:=λp=>AX _ _;unfold uD at b;cases hy:us (S.drop (mkE S a))with
 | inl k=>rw[hy]at b;cases b
 | inr y=>
  obtain⟨Q,I,w,G,s',k⟩:=y;obtain⟨_,bk,_,_,i⟩:=yn hy;have bk:mkE S a+k<=S.length:=by
   rw[ci]at bk;omega
  have b1:=qT bk;rw[hy]at b;simp only[]at b;by_cases hc:0<s'\/gB 45 (S.drop (mkE S (mkE S a+k)))=0
  ·rw[ae hc]at b;cases b;have:=TB (A:=(mkS (S.drop a),0,0)) (B:=(mkS (S.drop (mkE S a+k)),0,0)) (c _) o o (c _) o o;refine⟨i,by simp,by simp,⟨this.1,this.2.1,this.2.2,λ_=>by simp[spM],λ_=>by simp[spM]⟩,?_,b1⟩;have:=n (mkE S a+k);omega
  ·rw[ab hc]at b;have u:=vZ (λz=>hc (.inr z));have O:=qT u;unfold rd2 at b;by_cases t:twoN (S.drop (mkE S (mkE S (mkE S a+k)+1)))<2
   ·rw[ae t]at b;cases b
   ·rw[ab t]at b;have b2:=DD t;have E:=qT b2;have j:(List.take 2 (S.drop (mkE S (mkE S (mkE S a+k)+1)))).length=2:=by rw[dA,ci];omega
    have N:=n (mkE S a+k);have L:=n (mkE S (mkE S a+k)+1);have H:=n (mkE S (mkE S (mkE S a+k)+1)+2);by_cases f:gB 45 (S.drop (mkE S (mkE S (mkE S (mkE S a+k)+1)+2)))=0
    ·rw[ae f]at b;cases b;have:=TB (A:=(mkS (S.drop a),mkS (S.drop (mkE S (mkE S a+k)+1)),0)) (B:=(mkS (S.drop (mkE S a+k)),mkS (S.drop (mkE S (mkE S (mkE S a+k)+1)+2)),0)) (c _) (c _) o (c _) (c _) o;refine⟨i,by omega,by simp,⟨this.1,this.2.1,this.2.2,λz=>?_,λ_=>by simp[spM]⟩,by omega,E⟩;rw[LM (pK j)]at z;omega
    ·rw[ab f]at b;have r:=vZ f;have D:=qT r;unfold rd3 at b;by_cases v:twoN (S.drop (mkE S (mkE S (mkE S (mkE S (mkE S a+k)+1)+2)+1)))<2
     ·rw[ae v]at b;cases b
     ·rw[ab v]at b;have F:=DD v;have C:=qT F;have q:(List.take 2 (S.drop (mkE S (mkE S (mkE S (mkE S (mkE S a+k)+1)+2)+1)))).length=2:=by rw[dA,ci];omega
      cases b;have K:=n (mkE S (mkE S (mkE S (mkE S a+k)+1)+2)+1);have J:=n (mkE S (mkE S (mkE S (mkE S (mkE S a+k)+1)+2)+1)+2);have:=TB (A:=(mkS (S.drop a),mkS (S.drop (mkE S (mkE S a+k)+1)),mkS (S.drop (mkE S (mkE S (mkE S (mkE S a+k)+1)+2)+1)))) (B:=(mkS (S.drop (mkE S a+k)),mkS (S.drop (mkE S (mkE S (mkE S a+k)+1)+2)),mkS (S.drop (mkE S (mkE S (mkE S (mkE S (mkE S a+k)+1)+2)+1)+2)))) (c _) (c _) (c _) (c _) (c _) (c _);refine⟨i,by omega,by omega,⟨this.1,this.2.1,this.2.2,λz=>?_,λz=>?_⟩,by omega,C⟩
      ·rw[O9 (pK j) (pK q)]at z;omega
      ·rw[O9 (pK j) (pK q)]at z;omega
def L2{g l:Bool}{dg:aa}{x q:Int}{m d:aa}{k0 k1 k2:Int}(a:allM k0 k1 k2 (bH m d)=0):chkD g l dg x q m d k0 k1 k2=0\/chkD g l dg x q m d k0 k1 k2=6\/chkD g l dg x q m d k0 k1 k2=7\/chkD g l dg x q m d k0 k1 k2=8:=by
 unfold chkD;rw[a];generalize yrD g l dg x q m=b1;generalize(!(m==[])&&(!(decide (0<sea m))&&!(ei m 12)))=b2;generalize(!(d==[])&&((m==[])||(decide (0<sea m)||!(ei d 31))))=b;cases b1<;>cases b2<;>cases b<;>simp
def monT(j:Nat):aa:=if j=0 then[]else if j<=12 then two j else if j<=33 then two (j+8)else([[48,88],[49,88],[88,50],[88,88],[88,48],[88,57]]:List (aa)).getD (j - 34) []
def Zh(m:aa):Nat:=if m=[48,50]then 28 else if m=[48,52]\/m=[48,54]\/m=[48,57]\/m=[49,49]\/m=[88,57]then 30 else 31
def dayT(j:Nat)(m:aa):aa:=if j=0 then[]else if j<=31 then two (min j (Zh m))else if m=[48,50]/\j=35 then[50,88]else([[48,88],[49,88],[50,88],[51,88],[88,48],[88,49],[88,88],[88,56]]:List (aa)).getD (j - 32) []
def r40{p:Nat->Bool}(h:(List.range 40).all p=true){a:Nat}(b:a<40):p a=true:=(bS.1 h) a (ju.2 b)
noncomputable def S7(m:Nat)(a0:Int)(a1:Bool)(a2 c a b f d e:Int)(j:Nat):Bool:=gA (m+300) a0 a1 a2 c a (j:Int) b f d e==some (monT j)
def M6(m:Nat)(a0:Int)(a1:Bool)(a2 c a b f d e:Int):((List.range 40).all λj=>S7 m a0 a1 a2 c a b f d e j)=true:=by kernel_rfl
def Tv(a:Nat)(h:a<256):wrap .i64 (Int.tmod (a:Int) 40)=((a%40:Nat):Int):=by
 have:Int.tmod (a:Int) 40=((a%40:Nat):Int):=rfl;rw[this,wrap_i64 _ (by omega) (by omega)]
def S1(j:Nat)(h:j<40):wrap .i64 (Int.tmod (j:Int) 40)=((j:Nat):Int):=by
 rw[Tv j (by omega)];have:j%40=j:=by omega
 rw[this]
def zK(m:Nat)(a0:Int)(a1:Bool)(a2 e c:Int)(b:Nat)(d j f i:Int)(h:b<256):gA (m+300) a0 a1 a2 e c (b:Int) d j f i=some (monT (b%40)):=by
 have g:b%40<40:=by omega
 have a:=r40 (M6 m a0 a1 a2 e c d j f i) g;unfold S7 at a;have a:=bL.1 a;unfold gA at a ⊢;rw[S1 _ g]at a;rw[Tv _ h];exact a
def OZ{j:Nat}(h:j<40):monT j=[]\/0<sea (monT j)\/(sea (monT j)=0/\ei (monT j) 12=true):=by
 have:((List.range 40).all λj=>decide (monT j=[])||(decide (0<sea (monT j))||(decide (sea (monT j)=0)&&ei (monT j) 12)))=true:=by decide +kernel
 have:=r40 this h;simpa using this
def Ec{j:Nat}(h:j<40)(hs:sea (monT j)=0)(a:monT j≠[]):monT j∈((List.range 12).map λi=>two (i+1))++[[48,88],[49,88],[88,50],[88,88],[88,48],[88,57]]:=by
 have:((List.range 40).all λj=>!decide (sea (monT j)=0)||(decide (monT j=[])||decide (monT j∈((List.range 12).map λi=>two (i+1))++[[48,88],[49,88],[88,50],[88,88],[88,48],[88,57]])))=true:=by decide +kernel
 have:=r40 this h;rw[ar hs,au a]at this;simpa using this
noncomputable def SC(m:Nat)(a0:Int)(a1:Bool)(a2 c b f g d e:Int)(a:aa)(j:Nat):Bool:=iV (m+300) a0 a1 a2 c b f (j:Int) g d e a==some (dayT j a)
def ME(m:Nat)(a0:Int)(a1:Bool)(a2 b a e g c d:Int):((((List.range 12).map λi=>two (i+1))++[[48,88],[49,88],[88,50],[88,88],[88,48],[88,57]]).all λf=>(List.range 40).all λj=>SC m a0 a1 a2 b a e g c d f j)=true:=by kernel_rfl
def Is(m:Nat)(a0:Int)(a1:Bool)(a2 e d k:Int)(b:Nat)(l f j:Int)(c:aa)(n:c∈((List.range 12).map λi=>two (i+1))++[[48,88],[49,88],[88,50],[88,88],[88,48],[88,57]])(h:b<256):iV (m+300) a0 a1 a2 e d k (b:Int) l f j c=some (dayT (b%40) c):=by
 have g:b%40<40:=by omega
 have a:=r40 ((bS.1 (ME m a0 a1 a2 e d k l f j)) c n) g;unfold SC at a;have a:=bL.1 a;unfold iV at a ⊢;rw[S1 _ g]at a;rw[Tv _ h];exact a
def L6{j:Nat}(h:j<40){a:aa}(b:a∈((List.range 12).map λi=>two (i+1))++[[48,88],[49,88],[88,50],[88,88],[88,48],[88,57]]):dayT j a=[]\/ei (dayT j a) 31=true:=by
 have:((((List.range 12).map λi=>two (i+1))++[[48,88],[49,88],[88,50],[88,88],[88,48],[88,57]]).all λa=>(List.range 40).all λj=>decide (dayT j a=[])||ei (dayT j a) 31)=true:=by decide +kernel
 have:=r40 ((bS.1 this) a b) h;simpa using this
def mksT(k a b c:Nat):Nat×Nat×Nat:=(a%4,if 1<k then b%4 else 0,if 2<k then c%4 else 0)
def wW(k a b c:Nat):allM ((mksT k a b c).1:Int) ((mksT k a b c).2.1:Int) ((mksT k a b c).2.2:Int) k=0:=by
 apply ya;refine⟨by simp only[mksT];omega,?_,?_,?_,?_⟩
 ·simp only[mksT];split<;>omega
 ·simp only[mksT];split<;>omega
 ·intro h;simp only[mksT];rw[ab (by omega)]
 ·intro h;simp only[mksT];rw[ab (by omega)]
def I0{g l:Bool}{d:aa}{x s:Int}(h:okY g l d x s)(j:d.length<=5)(i:x<=11):rN g d x=false:=by
 unfold rN;cases e:hasX d with
 | true=>rfl
 | false=>
  obtain⟨k,q,rfl,rfl,c⟩:=sP h e;have a:=qU d 0 0 c.dig (by decide);rw[dK]at a;have m:dval 0 d<10 ^ 5:=oQ a (lh (by omega) j);have b:10 ^ k<=10 ^ 11:=lh (by omega) (by omega);have f:val d k≠E16:=by
   unfold val E16;have:dval 0 d*10 ^ k<=99999*10 ^ 11:=xk (by omega) b;omega
  rw[bX,au f];simp
def E4{g l:Bool}{dg:aa}{x q:Int}{m d:aa}{k0 k1 k2:Int}(h:okY g l dg x q)(o:rN g dg x=false)(e:0<q->m=[])(p:m=[]\/0<sea m\/(sea m=0/\ei m 12=true))(c:d=[]\/(m≠[]/\sea m=0/\ei d 31=true))(i:allM k0 k1 k2 (bH m d)=0):chkD g l dg x q m d k0 k1 k2=0:=by
 have hy:yrD g l dg x q m=true:=by
  unfold yrD yrB;rw[ae h,o];by_cases a:0<q
  ·rw[e a];simp
  ·simp[a]
 unfold chkD;rw[hy,i];have k:(!(m==[])&&(!(decide (0<sea m))&&!(ei m 12)))=false:=by
  rcases p with h | h | ⟨_,h⟩
  ·rw[h];rfl
  ·rw[ar h];simp
  ·rw[h];simp
 have n:(!(d==[])&&((m==[])||(decide (0<sea m)||!(ei d 31))))=false:=by
  rcases c with h | ⟨f,b,j⟩
  ·rw[h];rfl
  ·rw[aK.2 f,b,j];simp
 rw[k,n];rfl
def minL(a:Nat):Nat:=if a=2 then 28 else if a=4\/a=6\/a=9\/a=11 then 30 else 31
def fitD(a d:aa):Bool:=(List.range' 1 12).any λi=>agr a i&&(List.range' 1 (minL i)).any (agr d)
def Ua:((((List.range 12).map λi=>two (i+1))++[[48,88],[49,88],[88,50],[88,88],[88,48],[88,57]]).all λa=>(List.range 40).all λj=>(dayT j a==[])||fitD a (dayT j a))=true:=by decide +kernel
def H9{j:Nat}(h:j<40){a:aa}(b:a∈((List.range 12).map λi=>two (i+1))++[[48,88],[49,88],[88,50],[88,88],[88,48],[88,57]]):dayT j a=[]\/fitD a (dayT j a)=true:=by
 have:=r40 ((bS.1 Ua) a b) h;simp only[iq,bL]at this;exact this
def X1(m a0 a2 K I B v i j n:Nat)(g:Bool)(G:a2<65536)(h3:K<256)(Z:I<256)(U:B<256)(R:v<256)(h7:i<256)(h8:j<256)(h9:n<256):
  ∃k l dg x q f d k0 k1 k2,aH (m+300) (a0:Int) g (a2:Int) (K:Int) (I:Int) (B:Int) (v:Int) (i:Int) (j:Int) (n:Int)=some (k,l,dg,((x:Nat):Int),((q:Nat):Int),f,d,((k0:Nat):Int),((k1:Nat):Int),((k2:Nat):Int))/\chkD k l dg (x:Int) (q:Int) f d (k0:Int) (k1:Int) (k2:Int)=0/\OkD k l dg x q f d k0 k1 k2/\(d=[]\/fitD f d=true):=by
 obtain⟨k,l,dg,x,q,e,C,L,E⟩:=X9 m a0 a2 K I g G h3 Z;have J:=I0 C L E;obtain⟨s1,s2,s3,s4,s5,s6⟩:=iJ C
 suffices H:∃f d,aH (m+300) (a0:Int) g (a2:Int) (K:Int) (I:Int) (B:Int) (v:Int) (i:Int) (j:Int) (n:Int)=some (k,l,dg,x,q,f,d,((mksT (bH f d) i j n).1:Int),((mksT (bH f d) i j n).2.1:Int),((mksT (bH f d) i j n).2.2:Int))/\chkD k l dg x q f d ((mksT (bH f d) i j n).1:Int) ((mksT (bH f d) i j n).2.1:Int) ((mksT (bH f d) i j n).2.2:Int)=0/\(d=[]\/fitD f d=true)by
  obtain⟨f,d,W,G,T⟩:=H;obtain⟨S,V,a,b,c,Y,X,N,O,Q,M⟩:=IZ (by omega) (by omega) (by omega) G;subst Y X;refine⟨k,l,dg,S,V,f,d,a,b,c,?_,?_,M,T⟩
  ·rw[W,N,O,Q]
  ·rw[<-N,<-O,<-Q];exact G
 have t7:Int.tmod (i:Int) 4=((i%4:Nat):Int):=rfl;have t8:Int.tmod (j:Int) 4=((j%4:Nat):Int):=rfl;have t9:Int.tmod (n:Int) 4=((n%4:Nat):Int):=rfl;have p:∀(f d:aa) (o:Option (Bool×Bool×aa×Int×Int×aa×aa×Int×Int×Int)),
   (ob (am (m+300) k l dg x q f d 0 0 0) λr=>(cond (decide ((0:Int)<r)) (ob (am (m+300) k l dg x q f d (Int.tmod (i:Int) 4) 0 0) λr=>(cond (decide ((1:Int)<r)) (ob (am (m+300) k l dg x q f d (Int.tmod (i:Int) 4) (Int.tmod (j:Int) 4) 0) λr=>(cond (decide ((2:Int)<r)) (ob (am (m+300) k l dg x q f d (Int.tmod (i:Int) 4) (Int.tmod (j:Int) 4) (Int.tmod (n:Int) 4)) λr=>(cond (decide ((3:Int)<r)) none (some (k,l,dg,x,q,f,d,(Int.tmod (i:Int) 4),(Int.tmod (j:Int) 4),(Int.tmod (n:Int) 4))))) (some (k,l,dg,x,q,f,d,(Int.tmod (i:Int) 4),(Int.tmod (j:Int) 4),0)))) (some (k,l,dg,x,q,f,d,(Int.tmod (i:Int) 4),0,0)))) (some (k,l,dg,x,q,f,d,0,0,0))))=some (k,l,dg,x,q,f,d,((mksT (bH f d) i j n).1:Int),((mksT (bH f d) i j n).2.1:Int),((mksT (bH f d) i j n).2.2:Int)):=by
  intro f d _;have hc:=kX f d;have:bH f d=1\/bH f d=2\/bH f d=3:=by omega
  rw[dM,dM,dM,dM];rcases this with h | h | h<;>rw[h]<;>rfl
 unfold aH;rw[e];simp only[ob,d4];rw[gZ];by_cases P:q=0
 ·rw[ae P];rw[zK m _ _ _ _ _ B _ _ _ _ U];have D:B%40<40:=by omega
  have w:=OZ D;have F:=Ec D;generalize monT (B%40)=f at w F ⊢;show ∃t d,cond (!(f==[])) _ _=_/\_;by_cases s:f=[]
  ·subst s;refine⟨[],[],p [] [] none,?_,.inl rfl⟩;exact E4 C J (λ_=>rfl) (.inl rfl) (.inl rfl) (wW _ _ _ _)
  ·rw[aK.2 s];show ∃t d,ob (aQ (m+300) k l dg x q f [] 0 0 0) _=_/\_;rw[nK (m+300) (by omega)];show ∃t d,cond (sea f==0) _ _=_/\_;rw[gZ];by_cases hs:sea f=0
   ·rw[ae hs];have y:=F hs s;rw[Is m _ _ _ _ _ _ v _ _ _ f y R];have A:=L6 (show v%40<40 by omega) y;have u:=H9 (show v%40<40 by omega) y;generalize dayT (v%40) f=d at A u ⊢;refine⟨f,d,p f d none,?_,u⟩;refine E4 C J (λz=>by omega) w ?_ (wW _ _ _ _);rcases A with A | A
    ·exact .inl A
    ·exact .inr ⟨s,hs,A⟩
   ·rw[ab hs];refine⟨f,[],p f [] none,?_,.inl rfl⟩;exact E4 C J (λz=>by omega) w (.inl rfl) (wW _ _ _ _)
 ·rw[ab P];refine⟨[],[],p [] [] none,?_,.inl rfl⟩;exact E4 C J (λ_=>rfl) (.inl rfl) (.inl rfl) (wW _ _ _ _)
def NX(n:Nat)(g l:Bool)(dg:aa)(x q:Int)(m d:aa)(k0 k1 k2:Int)(a:m.length<=18):bp n g l dg x q m d k0 k1 k2=some (if d=[]then(if 0<sea m then 0 else if m=[]then 1 else 2)else 3):=by
 unfold bp;rw[o8 n g l dg x q m d k0 k1 k2 a];by_cases b:d=[]
 ·rw[ae b,b];show cond (decide (0<sea m)) _ _=_;rw[bW];by_cases hs:0<sea m
  ·rw[ae hs,ae hs]
  ·rw[ab hs,ab hs];by_cases a:m=[]
   ·rw[ae a,a];rfl
   ·rw[ab a,aK.2 a];rfl
 ·rw[ab b,aK.2 b];rfl
def HG(n:Nat)(g l:Bool)(dg:aa)(x q:Int)(m d:aa)(k0 k1 k2:Int)(j:m.length<=18)(f:dg.length<=100)(i:0<=k0)(h:0<=k1)(e:0<=k2):
  bR (n+300) g l dg x q m d k0 k1 k2=some (if chkD g l dg x q m d k0 k1 k2=0 then(tU g l dg x q m d k0.toNat k1.toNat k2.toNat,0)else([],chkD g l dg x q m d k0 k1 k2)):=by
 by_cases hc:chkD g l dg x q m d k0 k1 k2=0
 ·obtain⟨r,s,a,b,c,p,o,v,k,t,u⟩:=IZ i h e hc;subst p o v k t;exact VO n g l dg r s m d a b c j f
 ·rw[ab hc];unfold bR;rw[AS (n+300) (by omega) g l dg _ _ m d _ _ _ j f i h e];show cond (chkD g l dg x q m d k0 k1 k2 != 0) _ _=_;rw[wC,ab hc]
def ww(a b:aa):hasX (a++b)=(hasX a||hasX b):=by unfold hasX;rw[vM]
def Ef(n:Nat)(g l:Bool)(dg:aa)(x q:Int)(m d:aa)(k0 k1 k2:Int)(b:m.length<=1000)(a:dg.length<=1000)(h:d.length<=1000):
  dr n g l dg x q m d k0 k1 k2=some (hasX dg||(hasX m||hasX d)):=by
 unfold dr;rw[eK (by omega)];simp only[ob];rw[eK (by simp only[aZ];omega)];simp only[ob];rw[Fh,ww,ww,Bool.or_assoc]
end Go.Sh
