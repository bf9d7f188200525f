
import Derived.Laws.RangeString
import Derived.Laws.RangeAny
import Derived.Test.YtibehcmomiplnaaGreatDoorShR
import Derived.Lib.IndexLaws
import Derived.Test.YtibehcmomiplnaaGreatDoorAbsZ
set_option linter.unusedVariables false
set_option linter.unusedSimpArgs false
set_option maxRecDepth 100000
open Go.IntKind(wrap)
set_option linter.defProp false
namespace Go.Sh
open Go.Abs
def gp{X Y:Type}{step:X->Option (X⊕Y)}(I:X->Prop)(b:X->Nat)(G:X->Y)
  (h:∀x,I x->(∃a,step x=some (.inl a)/\I a/\b a<b x/\G a=G x)\/step x=some (.inr (G x))):
  ∀(n:Nat) (x:X),I x->b x<n->av step n x=some (G x)
 | 0,x,_,d=>by omega
 | n+1,x,hx,d=>by
  rcases h x hx with⟨a,c,e,g,f⟩ | c
  ·simp only[av,c];rw[gp I b G h n a e (by omega),f]
  ·simp only[av,c]
def pO{X Y:Type}{step:X->Option (X⊕Y)}(I:X->Prop)(b:X->Nat)(Q:Y->Prop)
  (h:∀x,I x->(∃a,step x=some (.inl a)/\I a/\b a<b x)\/∃y,step x=some (.inr y)/\Q y):
  ∀(n:Nat) (x:X),I x->b x<n->∃y,av step n x=some y/\Q y
 | 0,x,_,e=>by omega
 | n+1,x,hx,e=>by
  rcases h x hx with⟨a,c,d,f⟩ | ⟨y,c,d⟩
  ·simp only[av,c];exact pO I b Q h n a d (by omega)
  ·exact⟨y,by simp only[av,c],d⟩
def Ds(x:Int):0<=wrap .u8 x/\wrap .u8 x<256:=by
 show 0<=x%256/\x%256<256;omega
def gD(x:Int)(a:0<=x)(b:x<256):wrap .u8 x=x:=by
 show x%256=x;omega
def JI(x:Int):wrap .u8 x=x%256:=rfl
def wrap_i64(x:Int)(a:-9223372036854775808<=x)(b:x<9223372036854775808):wrap .i64 x=x:=by
 simp only[wrap,IntKind.signed,IntKind.bits];simp;omega
def lD{l:aa}{i:Nat}{c:UInt8}(h:l[i]?=some c):sx l (i:Int)=some c:=by
 simp[sx,h]
def cG{n i:Nat}(h:i<n):ix n (i:Int)=some i:=by
 simp[ix];omega
def ef{n i:Nat}(h:i<=n):bx n (i:Int)=some i:=by
 simp[bx];omega
def C7{l:aa}{i:Nat}{c:UInt8}(h:l[i]?=some c)(hc:c.toNat<128):dec l i=(c.toNat,1):=by
 have hlt:i<l.length:=by
  rcases aN i l.length with h' | h'
  ·exact h'
  ·rw[gh h']at h;cases h
 have hs:i<(ByteArray.mk l.toArray).size:=hlt;have hg:(ByteArray.mk l.toArray)[i]'hs=c:=by
  rw[bq hlt]at h;simp only[ar]at h;exact h
 unfold dec;rw[decode_ascii _ i hs (by rw[hg];exact hc),hg]
def I6{l:aa}{i:Nat}{c:UInt8}(h:l[i]?=some c)(hc:128<=c.toNat):128<=(dec l i).1/\1<=(dec l i).2:=by
 have hlt:i<l.length:=by
  rcases aN i l.length with h' | h'
  ·exact h'
  ·rw[gh h']at h;cases h
 have hs:i<(ByteArray.mk l.toArray).size:=hlt;have hg:(ByteArray.mk l.toArray)[i]'hs=c:=by
  rw[bq hlt]at h;simp only[ar]at h;exact h
 unfold dec;exact decode_high _ i hs (by rw[hg];exact hc)
def yQ{α:Type}{l:List α}{i:Nat}{c:α}(h:l[i]?=some c):i<l.length:=by
 rcases aN i l.length with a | a
 ·exact a
 ·rw[gh a]at h;cases h
def gg{α:Type}{l:List α}{i:Nat}{c:α}(h:l[i]?=some c):l.drop i=c::l.drop (i+1):=by
 have a:=yQ h;rw[bq a]at h;simp only[ar]at h;rw[<-h,uN a]
def ii{α β:Type}[BEq α][LawfulBEq α][DecidableEq α](a b:α)(x y:β):(cond (a==b) x y)=if a=b then x else y:=by
 by_cases h:a=b
 ·subst h;simp
 ·rw[aL.2 h];simp[h]
def wY{α β:Type}[BEq α][LawfulBEq α][DecidableEq α](a b:α)(x y:β):(cond (a != b) x y)=if a=b then y else x:=by
 by_cases h:a=b
 ·subst h;simp
 ·rw[bne,aL.2 h];simp[h]
def bG{β:Type}(p:Prop)[Decidable p](x y:β):(cond (decide p) x y)=if p then x else y:=by
 by_cases h:p<;>simp[h]
def II{β:Type}(b:Bool)(x y:β):(cond (!b) x y)=cond b y x:=by cases b<;>rfl
def oa(a b:Nat):(decide (((a:Nat):Int)<((b:Nat):Int)))=decide (a<b):=by
 by_cases h:a<b<;>simp[h]
def Kr(a b:Nat):(decide (((a:Nat):Int)>=((b:Nat):Int)))=decide (b<=a):=by
 by_cases h:b<=a<;>simp[h]
def AU(c d:UInt8):((((c.toNat:Nat):Int))==((d.toNat:Nat):Int))=(c==d):=by
 by_cases h:c=d
 ·subst h;simp
 ·have b:c.toNat≠d.toNat:=λe=>h (iL.1 e);have a:((c.toNat:Nat):Int)≠((d.toNat:Nat):Int):=by omega
  rw[aL.2 a,aL.2 h]
def YG(c:UInt8):UInt8.ofNat (Int.toNat ((c.toNat:Nat):Int))=c:=by simp
def two(c:Nat):aa:=[UInt8.ofNat (48+c / 10),UInt8.ofNat (48+c%10)]
def sea(m:aa):Int:=match(List.range 21).find? (λj=>m==two (21+j))with | some j=>((21+j:Nat):Int) | none=>0
def lO{j:Nat}(a:j<21):sea (two (21+j))=((21+j:Nat):Int):=by
 have:((List.range 21).all λj=>sea (two (21+j))==((21+j:Nat):Int))=true:=by decide +kernel
 simpa using(List.all_eq_true.1 this) j (by simpa using a)
def pD(m:aa):sea m=0\/∃j,j<21/\m=two (21+j):=by
 unfold sea;split
 ·rename_i j h;have a:=List.find?_some h;have b:=List.mem_of_find?_eq_some h;exact .inr ⟨j,by simpa using b,by simpa using a⟩
 ·exact .inl rfl
def qy{b:UInt8}{d:Nat}(h:Lib.digitVal b=some d):d<10/\b.toNat=48+d:=by
 unfold Lib.digitVal at h;split at h
 ·cases h;omega
 ·cases h
def Q9{a b:UInt8}{v:Int}(h:Lib.atoi [a,b]=some v)(o:21<=v)(p:v<42):∃j,j<21/\[a,b]=two (21+j)/\v=((21+j:Nat):Int):=by
 obtain⟨b0,r,e,l⟩:=Lib.atoi_cases h;cases e;rcases l with⟨_,m,_,_,i⟩ | ⟨_,m,_,c,i⟩ | ⟨_,_,m,c,i⟩
 ·omega
 ·simp only[Lib.decFrom]at c;split at c
  ·rename_i d g;have:=(qy g).1;simp only[ar]at c;omega
  ·cases c
 ·simp only[Lib.decFrom]at c;split at c
  ·rename_i d g;split at c
   ·rename_i d' f;obtain⟨k1,k2⟩:=qy g;obtain⟨k3,k4⟩:=qy f;simp only[ar]at c;refine⟨m - 21,by omega,?_,by omega⟩;have n:(21+(m - 21)) / 10=d:=by omega
    have k:(21+(m - 21))%10=d':=by omega
    unfold two;rw[n,k,<-k2,<-k4];simp
   ·cases c
  ·cases c
def xf{j:Nat}(a:j<21):Lib.atoi (two (21+j))=some ((21+j:Nat):Int):=by
 have:((List.range 21).all λj=>Lib.atoi (two (21+j))==some ((21+j:Nat):Int))=true:=by decide +kernel
 simpa using(List.all_eq_true.1 this) j (by simpa using a)
def rS(n:Nat)(g l:Bool)(dg:aa)(x q:Int)(m d:aa)(k0 k1 k2:Int)(k:m.length<=18):bS n g l dg x q m d k0 k1 k2=some (sea m,decide (0<sea m)):=by
 have f:Nat.ble m.length 18=true:=cr k;rcases pD m with i | ⟨j,c,rfl⟩
 ·unfold bS;rw[f,i];show opt (Lib.atoi m) _ _=_;cases o:Lib.atoi m with
  | none=>rfl
  | some v=>
   show cond _ _ _=_;by_cases h:m.length=2
   ·rw[h];obtain⟨a,b,rfl⟩:∃a b,m=[a,b]:=by
     match m,h with
     | [a,b],_=>exact⟨a,b,rfl⟩
    show ob (dV n v) _=_;unfold dV;rw[bG,bG];split
    ·rfl
    ·split
     ·rfl
     ·exfalso;obtain⟨j,c,e,_⟩:=Q9 o (by omega) (by omega);rw[e,lO c]at i;omega
   ·rw[show(((m.length:Nat):Int) != 2)=true by simp;omega];rfl
 ·rw[lO c];have e:bS n g l dg x q (two (21+j)) d k0 k1 k2=some (((21+j:Nat):Int),true):=by
   unfold bS;rw[f,xf c];show ob (dV n ((21+j:Nat):Int)) _=_;unfold dV;rw[bG,bG,ae (by omega),ae (by omega)];rfl
  rw[e];have:decide (0<((21+j:Nat):Int))=true:=by simp;omega
  rw[this]
def Nn(n:Nat){c:Nat}(hc:c<100):aY n (c:Int)=some (two c):=by
 have e:Int.tdiv (c:Int) 10=((c / 10:Nat):Int):=by
  rw[show(10:Int)=((10:Nat):Int)from rfl,<-Int.ofNat_tdiv]
 have j:Int.tmod (c:Int) 10=((c%10:Nat):Int):=by
  rw[show(10:Int)=((10:Nat):Int)from rfl,<-Int.ofNat_tmod]
 have g:c / 10<10:=by omega
 have k:c%10<10:=by omega
 unfold aY;rw[e,j];have h:wrap .i64 ((c / 10:Nat):Int)=((c / 10:Nat):Int):=wrap_i64 _ (by omega) (by omega);have f:wrap .i64 (((c / 10:Nat):Int)+1)=((c / 10+1:Nat):Int):=by rw[wrap_i64 _ (by omega) (by omega)];omega
 have d:wrap .i64 (((c%10:Nat):Int)+1)=((c%10+1:Nat):Int):=by rw[wrap_i64 _ (by omega) (by omega)];omega
 rw[h,f,d,ef (by omega),ef (by omega)];show ob (bx (c / 10+1) ((c / 10:Nat):Int)) _=_;rw[ef (by omega)];show ob (bx (c%10+1) ((c%10:Nat):Int)) _=_;rw[ef (by omega)];unfold two;generalize c / 10=a at *;generalize c%10=b at *;have:((List.range 10).all λa=>(List.range 10).all λb=>ob (cat (List.drop a (List.take (a+1) ([48,49,50,51,52,53,54,55,56,57]:aa))) (List.drop b (List.take (b+1) ([48,49,50,51,52,53,54,55,56,57]:aa)))) (λs=>some s)==some [UInt8.ofNat (48+a),UInt8.ofNat (48+b)])=true:=by decide +kernel
 have i:=(bO.1 ((bO.1 this) a (by simpa using g))) b (by simpa using k);simpa using i
def Qh{m:aa}(h:∀j,j<21->m≠two (21+j)):sea m=0:=by
 rcases pD m with a | ⟨j,b,e⟩
 ·exact a
 ·exact absurd e (h j b)
def xA(n:Nat)(g l:Bool)(dg:aa)(x q:Int)(m d:aa)(k0 k1 k2:Int):∀(r j:Nat),j+r=21->(∀i,i<j->m≠two (21+i))->∀N,r<N->
  av (bQ n) N (((21+j:Nat):Int),g,l,dg,x,q,m,d,k0,k1,k2)=some (if sea m=0 then .inr ()else .inl (sea m)):=by
 intro r
 induction r with
 | zero=>
  intro j e a N c;obtain⟨N,rfl⟩:∃k,N=k+1:=⟨N - 1,by omega⟩;have hs:sea m=0:=Qh (λi hi=>a i (by omega));rw[av];have:bQ n (((21+j:Nat):Int),g,l,dg,x,q,m,d,k0,k1,k2)=some (.inr (.inr ())):=by
   unfold bQ;rw[bG,ae (by show¬(((21+j:Nat):Int)<=41);omega)]
  rw[this,af hs]
 | succ r ih=>
  intro j e a N c;obtain⟨N,rfl⟩:∃k,N=k+1:=⟨N - 1,by omega⟩;rw[av];by_cases b:m=two (21+j)
  ·have hs:sea m=((21+j:Nat):Int):=by rw[b];exact lO (by omega)
   have:bQ n (((21+j:Nat):Int),g,l,dg,x,q,m,d,k0,k1,k2)=some (.inr (.inl ((21+j:Nat):Int))):=by
    unfold bQ;rw[bG,af (by show((21+j:Nat):Int)<=41;omega)];show ob (aY n ((21+j:Nat):Int)) _=_;rw[Nn n (by omega)];show cond (m==two (21+j)) _ _=_;rw[ii,af b]
   rw[this,hs,ae (by omega)]
  ·have:bQ n (((21+j:Nat):Int),g,l,dg,x,q,m,d,k0,k1,k2)=some (.inl (((21+(j+1):Nat):Int),g,l,dg,x,q,m,d,k0,k1,k2)):=by
    unfold bQ;rw[bG,af (by show((21+j:Nat):Int)<=41;omega)];show ob (aY n ((21+j:Nat):Int)) _=_;rw[Nn n (by omega)];show cond (m==two (21+j)) _ _=_;rw[ii,ae b];have:wrap .i64 (((21+j:Nat):Int)+1)=((21+(j+1):Nat):Int):=by rw[wrap_i64 _ (by omega) (by omega)];omega
    show some (Sum.inl (wrap .i64 (((21+j:Nat):Int)+1),_))=_;rw[this]
   rw[this]
   exact ih (j+1) (by omega) (λi hi=>by
    rcases aN i j with h | h
    ·exact a i h
    ·have:i=j:=by omega
     rw[this];exact b) N (by omega)
def oc(n:Nat)(a:100<n)(g l:Bool)(dg:aa)(x q:Int)(m d:aa)(k0 k1 k2:Int):aT n g l dg x q m d k0 k1 k2=some (sea m):=by
 unfold aT;have:=xA n g l dg x q m d k0 k1 k2 21 0 rfl (λi hi=>absurd hi (by omega)) n (by omega);rw[show((21+0:Nat):Int)=21 from rfl]at this;rw[this];by_cases h:sea m=0
 ·rw[af h,h];rfl
 ·rw[ae h];rfl
def agr(s:aa)(k:Nat):Bool:=match s with
 | [a,b]=>(a==88||a==UInt8.ofNat (48+k / 10))&&(b==88||b==UInt8.ofNat (48+k%10))
 | _=>false
def dW(s:aa)(g:Nat):Bool:=(List.range g).any λi=>agr s (i+1)
def Ih{X Y:Type}{step:X->Option (X⊕Y)}{f:Nat->X}{p:Nat->Bool}{g:Nat}{yes no:Y}(h:∀k,1<=k->k<=g->step (f k)=some (if p k then .inr yes else .inl (f (k+1))))(d:step (f (g+1))=some (.inr no)){N:Nat}(b:g<N):
  av step N (f 1)=some (if(List.range g).any (λi=>p (i+1))then yes else no):=by
 have c:∀(r j:Nat),j+r=g->(∀i,i<j->p (i+1)=false)->∀N,r<N->av step N (f (j+1))=some (if(List.range g).any (λi=>p (i+1))then yes else no):=by
  intro r
  induction r with
  | zero=>
   intro j e a N b;obtain⟨N,rfl⟩:∃k,N=k+1:=⟨N - 1,by omega⟩;have:(List.range g).any (λi=>p (i+1))=false:=by
    rw[sY];intro i hi;rw[a i (by have:=gS.1 hi;omega)];simp
   rw[av,show j+1=g+1 by omega,d,this];rfl
  | succ r ih=>
   intro j e a N b;obtain⟨N,rfl⟩:∃k,N=k+1:=⟨N - 1,by omega⟩;rw[av,h (j+1) (by omega) (by omega)];cases hp:p (j+1)with
   | true=>
    have:(List.range g).any (λi=>p (i+1))=true:=tj.2 ⟨j,gS.2 (by omega),hp⟩;rw[this];rfl
   | false=>
    exact ih (j+1) (by omega) (λi hi=>by
     rcases aN i j with h | h
     ·exact a i h
     ·have:i=j:=by omega
      rw[this];exact hp) N (by omega)
 exact c g 0 (by omega) (λi hi=>absurd hi (by omega)) N b
def vP{a:UInt8}{k:Nat}(b:k<256):((((a.toNat:Nat):Int))==((k:Nat):Int))=(a==UInt8.ofNat k):=by
 have h:(UInt8.ofNat k).toNat=k:=by simp;omega
 rw[<-AU,h]
def PT(n:Nat)(a b:UInt8){g k:Nat}(q:1<=k)(s:k<=g)(r:g<=31):
  dF n ([a,b],(g:Int),(k:Int))=some (if agr [a,b] k then .inr (.inl true)else .inl ([a,b],(g:Int),((k+1:Nat):Int))):=by
 have e:Int.tdiv (k:Int) 10=((k / 10:Nat):Int):=by
  rw[show(10:Int)=((10:Nat):Int)from rfl,<-Int.ofNat_tdiv]
 have m:Int.tmod (k:Int) 10=((k%10:Nat):Int):=by
  rw[show(10:Int)=((10:Nat):Int)from rfl,<-Int.ofNat_tmod]
 have j:wrap .u8 (48+wrap .u8 (wrap .i64 (Int.tdiv (k:Int) 10)))=((48+k / 10:Nat):Int):=by
  rw[e,wrap_i64 _ (by omega) (by omega),gD ((k / 10:Nat):Int) (by omega) (by omega),gD _ (by omega) (by omega)];omega
 have f:wrap .u8 (48+wrap .u8 (Int.tmod (k:Int) 10))=((48+k%10:Nat):Int):=by
  rw[m,gD ((k%10:Nat):Int) (by omega) (by omega),gD _ (by omega) (by omega)];omega
 have d:wrap .i64 ((k:Int)+1)=((k+1:Nat):Int):=by rw[wrap_i64 _ (by omega) (by omega)];omega
 have c:(88:Int)=((88:Nat):Int):=rfl;have s0:sx [a,b] 0=some a:=rfl;have l:sx [a,b] 1=some b:=rfl;unfold dF;rw[bG,af (show(k:Int)<=(g:Int)by omega)];simp only[s0,l,ob,j,f,d];rw[c,vP (by omega),vP (by omega),vP (by omega),vP (by omega)];show _=some (if((a==UInt8.ofNat 88||a==UInt8.ofNat (48+k / 10))&&(b==UInt8.ofNat 88||b==UInt8.ofNat (48+k%10)))=true then _ else _);generalize(a==UInt8.ofNat 88)=i;generalize(b==UInt8.ofNat 88)=o;generalize(a==UInt8.ofNat (48+k / 10))=p;generalize(b==UInt8.ofNat (48+k%10))=h;cases i<;>cases o<;>cases p<;>cases h<;>rfl
def E8(n:Nat)(m:100<n)(s:aa)(g:Nat)(j:g<=31):dA n s (g:Int)=some (dW s g):=by
 unfold dA;by_cases c:s.length=2
 ·obtain⟨a,b,rfl⟩:∃a b,s=[a,b]:=by
   match s,c with
   | [a,b],_=>exact⟨a,b,rfl⟩
  have d:dF n ([a,b],(g:Int),((g+1:Nat):Int))=some (.inr (.inr ())):=by
   unfold dF;rw[bG,ae (show¬((g+1:Nat):Int)<=(g:Int)by omega)]
  have:=Ih (f:=λk=>([a,b],(g:Int),((k:Nat):Int))) (p:=agr [a,b]) (g:=g) (N:=n) (λk e l=>PT n a b e l j) d (by omega);show ob (av (dF n) n ([a,b],(g:Int),((1:Nat):Int))) _=_;rw[this];unfold dW;split<;>simp_all[ob]
 ·rw[show(((s.length:Nat):Int) != 2)=true by simp;omega];have:dW s g=false:=by
   unfold dW;rw[sY];intro i _
   match s,c with
   | [],_=>simp[agr]
   | [_],_=>simp[agr]
   | [_,_],h=>exact absurd rfl h
   | _::_::_::_,_=>simp[agr]
  rw[this];rfl
def vi(n:Nat)(s:aa)(k:Nat)(e:k<100):eP n s (k:Int)=some (if agr s k then 1 else 0):=by
 unfold eP;rw[Nn n e];show cond _ _ _=_;by_cases d:s.length=2
 ·obtain⟨a,b,rfl⟩:∃a b,s=[a,b]:=by
   match s,d with
   | [a,b],_=>exact⟨a,b,rfl⟩
  have s0:sx [a,b] 0=some a:=rfl;have j:sx [a,b] 1=some b:=rfl;have i:sx (two k) 0=some (UInt8.ofNat (48+k / 10)):=rfl;have l:sx (two k) 1=some (UInt8.ofNat (48+k%10)):=rfl;have c:(88:Int)=((88:Nat):Int):=rfl;rw[show(((([a,b]:aa).length:Nat):Int)==2)=true from rfl];simp only[s0,j,i,l,ob,aj];rw[c,vP (by omega),vP (by omega),AU,AU];show _=some (if((a==UInt8.ofNat 88||a==UInt8.ofNat (48+k / 10))&&(b==UInt8.ofNat 88||b==UInt8.ofNat (48+k%10)))=true then _ else _);generalize(a==UInt8.ofNat 88)=g;generalize(b==UInt8.ofNat 88)=m;generalize(a==UInt8.ofNat (48+k / 10))=o;generalize(b==UInt8.ofNat (48+k%10))=f;cases g<;>cases m<;>cases o<;>cases f<;>rfl
 ·rw[show(((s.length:Nat):Int)==2)=false by simp;omega];have:agr s k=false:=by
   match s,d with
   | [],_=>rfl
   | [_],_=>rfl
   | [_,_],h=>exact absurd rfl h
   | _::_::_::_,_=>rfl
  rw[this];rfl
def Jj(n:Nat)(c:100<n)(s:aa)(g:Nat)(e:g<=31):dU n s (g:Int)=some (if dW s g then 1 else 0):=by
 unfold dU;have b:dS n (s,(g:Int),((g+1:Nat):Int))=some (.inr (.inr ())):=by
  unfold dS;rw[bG,ae (show¬((g+1:Nat):Int)<=(g:Int)by omega)]
 have:=Ih (f:=λk=>(s,(g:Int),((k:Nat):Int))) (p:=agr s) (g:=g) (N:=n) (step:=dS n) (yes:=.inl 1) (no:=.inr ()) (λk d h=>by
  unfold dS;rw[bG,af (show(k:Int)<=(g:Int)by omega)];show ob (eP n s (k:Int)) _=_;rw[vi n s k (by omega)];have a:wrap .i64 ((k:Int)+1)=((k+1:Nat):Int):=by rw[wrap_i64 _ (by omega) (by omega)];omega
  simp only[ob,a];cases agr s k<;>rfl) b (by omega)
 show ob (av (dS n) n (s,(g:Int),((1:Nat):Int))) _=_;rw[this];unfold dW;split<;>simp_all[ob]
def xy(n:Nat){a b:Int}(s:1<b)(k:b<1000)(u:-4611686018427387904<=a)(l:a<4611686018427387904):mJ n a b=some (a / b,0):=by
 have m:(b==0)=false:=by simp;omega
 have r:(b==-1)=false:=by simp;omega
 unfold mJ;simp only[m,r,ah];have v:a / b*b+a%b=a:=Int.ediv_mul_add_emod a b;have t:=Nk a (show b≠0 by omega);have p:=MV a (show 0<b by omega);have j:-4611686018427387904<=a / b:=by
  rw[Int.le_ediv_iff_mul_le (by omega)];have:(-4611686018427387904:Int)*b<=-4611686018427387904*1:=Int.mul_le_mul_of_nonpos_left (by omega) (by omega);omega
 have q:a / b<4611686018427387904:=by
  rw[Int.ediv_lt_iff_lt_mul (by omega)];have:(4611686018427387904:Int)*1<=4611686018427387904*b:=Int.mul_le_mul_of_nonneg_left (by omega) (by omega);omega
 by_cases f:0<=a
 ·have d:Int.tdiv a b=a / b:=Sj f;have g:decide (a<0)=false:=by simp;omega
  have d2:decide (b<0)=false:=by simp;omega
  rw[d,g,d2,wrap_i64 (a / b) (by omega) (by omega)];cases(Int.tmod a b != 0)<;>rfl
 ·have g:decide (a<0)=true:=by simp;omega
  have d2:decide (b<0)=false:=by simp;omega
  have d:=Int.tdiv_eq_ediv (a:=a) (b:=b);have i:=M6 (a:=a) (b:=b);rw[g,d2];by_cases c:b∣a
  ·have e:Int.tmod a b=0:=by
    rw[i,af (.inr c)];have:=Int.emod_eq_zero_of_dvd c;omega
   rw[e,d,af (.inr c)];rw[Int.add_zero,wrap_i64 (a / b) (by omega) (by omega)];rfl
  ·have o:a%b≠0:=λh=>c (MW h);have e:(Int.tmod a b != 0)=true:=by
    rw[i,ae (by rintro(h | h);exact f h;exact c h)];simp;omega
   have hs:b.sign=1:=Int.sign_eq_one_of_pos (by omega);rw[e,d,ae (by rintro(h | h);exact f h;exact c h),hs];rw[wrap_i64 (a / b+1) (by omega) (by omega),Int.add_sub_cancel,wrap_i64 (a / b) (by omega) (by omega)];rfl
def WC(n:Nat){a b:Int}(m:1<b)(k:b<1000):wQ n a b=some (a%b,0):=by
 have g:(b==0)=false:=by simp;omega
 have l:(b==-1)=false:=by simp;omega
 unfold wQ;simp only[g,l,ah];have o:=Nk a (show b≠0 by omega);have j:=MV a (show 0<b by omega);have c:=M6 (a:=a) (b:=b);have d2:decide (b<0)=false:=by simp;omega
 by_cases hc:0<=a\/b∣a
 ·rw[af hc]at c;have:Int.tmod a b=a%b:=by omega
  rw[this,d2];have d:decide (a%b<0)=false:=by simp;omega
  rw[d];cases h:(a%b != 0)
  ·rfl
  ·rfl
 ·rw[ae hc]at c;have e:(b.natAbs:Int)=b:=by omega
  rw[e]at c;have i:a%b≠0:=λh=>hc (.inr (MW h));have f:(Int.tmod a b != 0)=true:=by simp;omega
  have d:decide (Int.tmod a b<0)=true:=by simp;omega
  rw[f,d,d2,c,wrap_i64 _ (by omega) (by omega),Pm];rfl
def eo(y:Int):Prop:=-10000000000000000<=y/\y<=10000000000000000
instance (y:Int):Decidable (eo y):=by unfold eo;infer_instance
def gH(n:Nat)(y:Int):jI n y=some (if eo y then 0 else 6):=by
 unfold jI;rw[bG,bG];by_cases a:y < -10000000000000000
 ·rw[af a,ae (show¬eo y by unfold eo;omega)]
 ·by_cases b:y>10000000000000000
  ·rw[ae a,af b,ae (show¬eo y by unfold eo;omega)]
  ·rw[ae a,ae b,af (show eo y by unfold eo;omega)]
def tO(n:Nat){y:Int}(h:-20000000000000000<=y/\y<=20000000000000000):∃z,fM n y=some z:=by
 unfold fM;rw[wrap_i64 (y - 1) (by omega) (by omega),xy n (by omega) (by omega) (by omega) (by omega),xy n (by omega) (by omega) (by omega) (by omega),xy n (by omega) (by omega) (by omega) (by omega)];exact⟨_,rfl⟩
def O2(n:Nat){y:Int}(h:eo y):∃b e,lg n y=some (b,e):=by
 unfold lg;have h':=h;unfold eo at h';obtain⟨z1,a⟩:=tO n (y:=y+1) (by omega);obtain⟨z2,c⟩:=tO n (y:=y) (by omega);rw[gH,af h,wrap_i64 (y+1) (by omega) (by omega),a,c];exact⟨_,_,rfl⟩
def ub(n:Nat){y:Int}(h:eo y){m:Nat}(c:1<=m)(d:m<=12):∃v,eV n y (m:Int)=some v:=by
 unfold eV;obtain⟨b,e,a⟩:=O2 n h;rw[a];show ∃v,cond (b&&((m:Int)==2)) _ _=some v;cases(b&&((m:Int)==2))with
 | true=>exact⟨_,rfl⟩
 | false=>
  have:wrap .i64 ((m:Int) - 1)=((m - 1:Nat):Int):=by rw[wrap_i64 _ (by omega) (by omega)];omega
  rw[this,cG (by omega)];have a:wL.length=12:=rfl;exact⟨_,bq (show m - 1<wL.length by omega)⟩
def Jl(n:Nat){y:Int}(h:eo y){m:Nat}(a:1<=m)(b:m<=12):kU n y (m:Int)=some 0:=by
 unfold kU;rw[gH,af h];show cond (decide ((m:Int)<1)) _ _=_;rw[bG,bG,ae (by omega),ae (by omega)]
def JD(n:Nat){y:Int}(h:eo y){m:Nat}(e:m<=11):∀(r j:Nat),j+r=m->∀(a:Int) (N:Nat),r<N->∃v,av (bN n) N (y,a,(m:Int),(j:Int))=some v:=by
 intro r
 induction r with
 | zero=>
  intro j d a N c;obtain⟨N,rfl⟩:∃k,N=k+1:=⟨N - 1,by omega⟩;have:bN n (y,a,(m:Int),(j:Int))=some (.inr a):=by
   unfold bN;rw[bG,ae (show¬((j:Int)<(m:Int))by omega)]
  rw[av,this];exact⟨_,rfl⟩
 | succ r ih=>
  intro j d a N c;obtain⟨N,rfl⟩:∃k,N=k+1:=⟨N - 1,by omega⟩;obtain⟨v,b⟩:=ub n h (m:=j+1) (by omega) (by omega);have w:wrap .i64 ((j:Int)+1)=((j+1:Nat):Int):=by rw[wrap_i64 _ (by omega) (by omega)];omega
  have:bN n (y,a,(m:Int),(j:Int))=some (.inl (y,wrap .i64 (a+v),(m:Int),((j+1:Nat):Int))):=by
   unfold bN;rw[bG,af (show((j:Int)<(m:Int))by omega)];simp only[w,b,ob]
  rw[av,this];exact ih (j+1) (by omega) _ N (by omega)
def OM(n:Nat)(d:100<n){y:Int}(h:eo y){m:Nat}(a:1<=m)(c:m<=12):∃v,fL n y (m:Int)=some (v,0):=by
 unfold fL mA mi;have h':=h;unfold eo at h';obtain⟨z,e⟩:=tO n (y:=y) (by omega);have w:wrap .i64 ((m:Int) - 1)=((m - 1:Nat):Int):=by rw[wrap_i64 _ (by omega) (by omega)];omega
 rw[Jl n h a c,gH,af h,e,w];obtain⟨v,b⟩:=JD n h (m:=m - 1) (by omega) (m - 1) 0 (by omega) (wrap .i64 (wrap .i64 (365*y)+z)) n (by omega);refine⟨v,?_⟩;show ob (av (bN n) n (y,wrap .i64 (wrap .i64 (365*y)+z),((m - 1:Nat):Int),((0:Nat):Int))) _=_;rw[b];rfl
def madd(n:Nat){y:Int}(h:eo y){m c:Nat}(i:1<=m)(k:m<=12)(hc:1<=c)(g:c<=6):pX n y (m:Int) (wrap .i64 ((c:Int) - 1)) =
  some (if 12<m+c - 1 then(if y=10000000000000000 then(0,0,6)else(y+1,((m+c - 1 - 12:Nat):Int),0))else(y,((m+c - 1:Nat):Int),0)):=by
 have h':=h;unfold eo at h';unfold pX;rw[Jl n h i k,wrap_i64 (12*y) (by omega) (by omega),wrap_i64 ((m:Int) - 1) (by omega) (by omega),wrap_i64 (12*y+((m:Int) - 1)) (by omega) (by omega),wrap_i64 ((c:Int) - 1) (by omega) (by omega)];have j:sL n (12*y+((m:Int) - 1)) ((c:Int) - 1)=some (12*y+((m:Int) - 1)+((c:Int) - 1),0):=by
  unfold sL;rw[wrap_i64 (12*y+((m:Int) - 1)+((c:Int) - 1)) (by omega) (by omega),ii];by_cases b:(c:Int) - 1=0
  ·rw[af b];have e:decide (12*y+((m:Int) - 1)>12*y+((m:Int) - 1))=false:=by simp
   have d2:decide ((c:Int) - 1>0)=false:=by simp;omega
   rw[e,d2,b,Int.add_zero];rfl
  ·rw[ae b];have e:decide (12*y+((m:Int) - 1)+((c:Int) - 1)>12*y+((m:Int) - 1))=true:=by simp;omega
   have d2:decide ((c:Int) - 1>0)=true:=by simp;omega
   rw[e,d2];rfl
 simp only[ob,j,fG,ah];rw[xy n (by omega) (by omega) (by omega) (by omega),WC n (by omega) (by omega)];simp only[gH];by_cases f:12<m+c - 1
 ·have a:(12*y+((m:Int) - 1)+((c:Int) - 1)) / 12=y+1:=by omega
  have d:(12*y+((m:Int) - 1)+((c:Int) - 1))%12=((m+c - 1 - 12:Nat):Int) - 1:=by omega
  rw[a,d,af f];by_cases hy:y=10000000000000000
  ·rw[af hy,ae (show¬eo (y+1)by unfold eo;omega)];rfl
  ·rw[ae hy,af (show eo (y+1)by unfold eo;omega),wrap_i64 (((m+c - 1 - 12:Nat):Int) - 1+1) (by omega) (by omega),Pm];rfl
 ·have a:(12*y+((m:Int) - 1)+((c:Int) - 1)) / 12=y:=by omega
  have d:(12*y+((m:Int) - 1)+((c:Int) - 1))%12=((m+c - 1:Nat):Int) - 1:=by omega
  rw[a,d,ae f,af h,wrap_i64 (((m+c - 1:Nat):Int) - 1+1) (by omega) (by omega),Pm];rfl
def Jq{j:Nat}(i:j<21):∃m c:Nat,oy[j]?=some ((m:Int),(c:Int))/\1<=m/\m<=12/\1<=c/\c<=6/\(12<m+c - 1↔j=3\/j=7\/j=9):=by
 have:((List.range 21).all λj=>match oy[j]? with
  | some (m,c)=>decide (0<=m)&&decide (0<=c)&&decide (1<=m.toNat)&&decide (m.toNat<=12)&&decide (1<=c.toNat)&&decide (c.toNat<=6)&&(decide (12<m.toNat+c.toNat - 1)==decide (j=3\/j=7\/j=9))
  | none=>false)=true:=by decide +kernel
 have h:=(bO.1 this) j (by simpa using i);split at h
 ·rename_i m c e;simp only[aA,cb,bu,oN]at h;obtain⟨⟨⟨⟨⟨⟨a,k⟩,b⟩,l⟩,f⟩,g⟩,d⟩:=h;exact⟨m.toNat,c.toNat,by rw[e,IN a,IN k],b,l,f,g,d⟩
 ·cases h
def XC(n:Nat)(k:100<n){y:Int}(h:eo y){j:Nat}(t:j<21):
  ∃a b c d,ja n y ((21+j:Nat):Int)=some (a,b,c,d,if y=10000000000000000/\(j=3\/j=7\/j=9)then 6 else 0):=by
 obtain⟨m,c,e,q,w,A,C,s⟩:=Jq t;have z:fN n ((21+j:Nat):Int)=some ((m:Int),(c:Int),0):=by
  unfold fN dV;rw[bG,bG,ae (by omega),ae (by omega)];have:wrap .i64 (((21+j:Nat):Int) - 21)=(j:Int):=by rw[wrap_i64 _ (by omega) (by omega)];omega
  rw[this,cG t];show ob (oy[j]?) _=_;rw[e];rfl
 obtain⟨v,B⟩:=OM n k h q w;unfold ja;rw[z];show ∃a b c d,ob (fL n y (m:Int)) _=_;rw[B];show ∃a b r d,ob (pX n y (m:Int) (wrap .i64 ((c:Int) - 1))) _=_;rw[madd n h q w A C];have h':=h;unfold eo at h';by_cases i:12<m+c - 1
 ·rw[af i];by_cases hy:y=10000000000000000
  ·rw[af hy,af ⟨hy,s.1 i⟩];exact⟨_,_,_,_,rfl⟩
  ·rw[ae hy,ae (λx=>hy x.1)];have g:eo (y+1):=by unfold eo;omega
   obtain⟨p,f⟩:=OM n k g (m:=m+c - 1 - 12) (by omega) (by omega);obtain⟨u,l⟩:=ub n g (m:=m+c - 1 - 12) (by omega) (by omega);have o:iq n (y+1) ((m+c - 1 - 12:Nat):Int)=some (wrap .i64 (wrap .i64 (p+u) - 1),0):=by
    unfold iq;rw[f,l];rfl
   show ∃a b r d,ob (iq n (y+1) ((m+c - 1 - 12:Nat):Int)) _=_;rw[o];exact⟨_,_,_,_,rfl⟩
 ·rw[ae i,ae (λx=>i (s.2 x.2))];obtain⟨p,f⟩:=OM n k h (m:=m+c - 1) (by omega) (by omega);obtain⟨u,l⟩:=ub n h (m:=m+c - 1) (by omega) (by omega);have o:iq n y ((m+c - 1:Nat):Int)=some (wrap .i64 (wrap .i64 (p+u) - 1),0):=by
   unfold iq;rw[f,l];rfl
  show ∃a b r d,ob (iq n y ((m+c - 1:Nat):Int)) _=_;rw[o];exact⟨_,_,_,_,rfl⟩
def hasB(set:aa)(c:UInt8):Bool:=set.any λd=>d==c
def qK(set:aa)(c:UInt8):(decide (Lib.indexByte set c<0))=!hasB set c:=by
 induction set with
 | nil=>simp[Lib.indexByte,hasB]
 | cons d l ih=>
  have f:=Lib.indexByte_ge l c;simp only[hasB,vV]at ih ⊢;unfold Lib.indexByte;by_cases h:d=c
  ·simp[h]
  ·have e:(d==c)=false:=by simpa using h
   simp only[e,bU,aG,tq];rw[<-ih];by_cases b:Lib.indexByte l c=-1
   ·simp[b]
   ·have a:(Lib.indexByte l c==-1)=false:=by simpa using b
    simp only[a,bU,aG];have:¬Lib.indexByte l c+1<0:=by omega
    have:¬Lib.indexByte l c<0:=by omega
    simp[*]
def qu(set:aa)(c:UInt8):(decide (Lib.indexByte set c>=0))=hasB set c:=by
 have:=qK set c;by_cases h:Lib.indexByte set c<0
 ·have a:¬Lib.indexByte set c>=0:=by omega
  simp only[h,a,pg,oJ]at this ⊢;revert this;cases hasB set c<;>simp
 ·have a:Lib.indexByte set c>=0:=by omega
  simp only[h,a,pg,oJ]at this ⊢;revert this;cases hasB set c<;>simp
def lcp:aa->aa->Nat
 | c::s,d::t=>if c==d then lcp s t+1 else 0
 | _,_=>0
def yp:∀s t:aa,lcp s t<=s.length
 | [],_=>by simp[lcp]
 | _::_,[]=>by simp[lcp]
 | c::s,d::t=>by
  have:=yp s t;simp only[lcp,aC];split<;>omega
def cR(p:UInt8->Bool):Nat->aa->Nat
 | 0,_=>0
 | _+1,[]=>0
 | k+1,c::l=>if p c then cR p k l+1 else 0
def oY(p:UInt8->Bool):∀(k:Nat) (l:aa),cR p k l<=l.length
 | 0,_=>by simp[cR]
 | _+1,[]=>by simp[cR]
 | k+1,c::l=>by
  have:=oY p k l;simp only[cR,aC];split<;>omega
def uy(n:Nat)(S:aa)(a:Nat)(h:a<=S.length):cH n S (a:Int)=some (S.drop a):=by
 simp[cH,ob,ef h]
def Fa(n:Nat)(s p:aa):jP n s p=some (s.take p.length==p):=by
 simp only[jP,gI,Kr];by_cases h:p.length<=s.length
 ·simp[h,ob,ef h]
 ·have:(s.take p.length==p)=false:=by
   rw[aL];intro e;have:=cT List.length e;rw[cS]at this;omega
  simp[h,ob,this]
def Ox(n:Nat)(t S:aa)(a:Nat)(h:a<=S.length):fP n t S (a:Int)=some ((S.drop a).take t.length==t):=by
 simp[fP,uy n S a h,ob,Fa]
def nO(n:Nat)(t S:aa)(a:Nat)(h:a<=S.length)(d:S.length<4611686018427387904):
  aD n t S (a:Int)=some (if(S.drop a).take t.length=t then(true,S,((a+t.length:Nat):Int))else(false,S,(a:Int))):=by
 simp only[aD,Ox n t S a h,ob];by_cases hp:(S.drop a).take t.length=t
 ·have c:t.length<=S.length - a:=by
   have:=cT List.length hp;simp at this;omega
  have b:wrap .i64 ((a:Int)+((t.length:Nat):Int))=((a+t.length:Nat):Int):=by rw[wrap_i64 _ (by omega) (by omega)];omega
  simp[hp,b]
 ·simp only[II,ii,hp,aG]
def Fp(n:Nat)(S:aa)(i:Int):bL n S i=some i:=rfl
def peek(l:aa):Int×Bool:=match l with | c::_=>(((c.toNat:Nat):Int),true) | []=>(0,false)
def qI(n:Nat)(S:aa)(a:Nat)(h:a<=S.length):bj n S (a:Int)=some (peek (S.drop a)):=by
 simp only[bj,uy n S a h,ob];rcases aN a S.length with d | b
 ·obtain⟨c,hc⟩:∃c,S[a]?=some c:=⟨S[a],bq d⟩;rw[gg hc];simp[lD hc,peek]
 ·rw[l9 b];simp[peek]
def wB(n:Nat)(a e:Int)(S:aa)(i:Int):aS n a e S i=some (a,if e=0 then 5 else e):=by
 simp only[aS,ii];by_cases h:e=0<;>simp[h]
def hO(n:Nat)(set:aa)(c:UInt8):dJ n set ((c.toNat:Nat):Int)=some (Lib.indexByte set c):=by
 simp only[dJ,dp,ob,YG]
def B9(n:Nat)(set S:aa)(a:Nat)(h:a<=S.length)(f:S.length<4611686018427387904):
  cw n set S (a:Int)=some (match S.drop a with | c::_=>if hasB set c then .inr (((c.toNat:Nat):Int),S,((a+1:Nat):Int))else .inl ((a:Int),5,S,(a:Int)) | []=>.inl ((a:Int),5,S,(a:Int))):=by
 simp only[cw,qI n S a h,ob];rcases aN a S.length with d | b
 ·obtain⟨c,hc⟩:∃c,S[a]?=some c:=⟨S[a],bq d⟩;have e:wrap .i64 ((a:Int)+1)=((a+1:Nat):Int):=by rw[wrap_i64 _ (by omega) (by omega)];omega
  rw[gg hc];simp only[peek,dT,ah,hO,qK,Fp,wB,ob,e];cases hasB set c<;>simp
 ·rw[l9 b];simp[peek,Fp,wB,ob]
def CP(S:aa)(a k:Nat):List.drop a (List.take (a+k) S)=(S.drop a).take k:=by
 rw[zT];congr 1;omega
def BG(n:Nat)(set:aa)(b most:Int)(S:aa)(a:Nat)(h:a<=S.length)(p:S.length<4611686018427387904)(m:S.length<n):
  av (dm n) n (set,b,most,(a:Int),(peek (S.drop a)).1,(peek (S.drop a)).2,S,(a:Int)) =
   some (b,(a:Int),S,((a+cR (hasB set) most.toNat (S.drop a):Nat):Int)):=by
 have:=gp (step:=dm n)
  (λx=>∃j:Nat,a+j<=S.length/\x=(set,b,most,(a:Int),(peek (S.drop (a+j))).1,(peek (S.drop (a+j))).2,S,((a+j:Nat):Int)))
  (λx=>S.length - x.2.2.2.2.2.2.2.toNat)
  (λx=>(b,(a:Int),S,((x.2.2.2.2.2.2.2.toNat+cR (hasB set) (most.toNat - (x.2.2.2.2.2.2.2.toNat - a)) (S.drop x.2.2.2.2.2.2.2.toNat):Nat):Int))) ?_ n
  (set,b,most,(a:Int),(peek (S.drop a)).1,(peek (S.drop a)).2,S,(a:Int)) ⟨0,by omega,by simp⟩ (by simp;omega)
 ·simpa using this
 rintro x ⟨j,q,rfl⟩;simp only[bX];have d:wrap .i64 (((a+j:Nat):Int) - (a:Int))=(j:Int):=by rw[wrap_i64 _ (by omega) (by omega)];omega
 rcases aN (a+j) S.length with f | e
 ·obtain⟨c,hc⟩:∃c,S[a+j]?=some c:=⟨S[a+j],bq f⟩;have i:wrap .i64 (((a+j:Nat):Int)+1)=((a+(j+1):Nat):Int):=by rw[wrap_i64 _ (by omega) (by omega)];omega
  simp only[dm,gg hc,peek,aj,d];by_cases g:(j:Int)<most
  ·obtain⟨k,l⟩:∃k,most.toNat - (a+j - a)=k+1:=⟨most.toNat - j - 1,by omega⟩;simp only[g,pg,aj,hO,ob,qu,l,cR];cases o:hasB set c with
   | true=>
    simp only[i,qI n S (a+(j+1)) (by omega),aj];refine .inl ⟨_,rfl,⟨j+1,by omega,rfl⟩,?_,?_⟩
    ·simp only[bX];omega
    ·simp only[bX,bm,kO,aQ];have:most.toNat - (a+(j+1) - a)=k:=by omega
     rw[this,show a+(j+1)=a+j+1 by omega];omega
   | false=>exact .inr (by simp)
  ·refine .inr ?_;have:most.toNat - (a+j - a)=0:=by omega
   simp only[g,oJ,ah,this,cR,dP]
 ·refine .inr ?_;simp only[dm,l9 e,peek,ah];have:cR (hasB set) (most.toNat - (a+j - a)) []=0:=by cases most.toNat - (a+j - a)<;>rfl
  simp only[this,dP]
def wM(n:Nat)(set:aa)(b most:Int)(S:aa)(a:Nat)(h:a<=S.length)(g:S.length<4611686018427387904)(f:S.length<n):
  ch n set b most S (a:Int)=some (if((cR (hasB set) most.toNat (S.drop a):Nat):Int)<b
   then .inl (((a+cR (hasB set) most.toNat (S.drop a):Nat):Int),5,S,((a+cR (hasB set) most.toNat (S.drop a):Nat):Int))
   else .inr ((S.drop a).take (cR (hasB set) most.toNat (S.drop a)),S,((a+cR (hasB set) most.toNat (S.drop a):Nat):Int))):=by
 have d:=oY (hasB set) most.toNat (S.drop a);rw[cj]at d;simp only[ch,Fp,qI n S a h,ob];rw[BG n set b most S a h g f];generalize cR (hasB set) most.toNat (S.drop a)=k at d ⊢;have c:wrap .i64 (((a+k:Nat):Int) - (a:Int))=(k:Int):=by rw[wrap_i64 _ (by omega) (by omega)];omega
 simp only[c,wB];by_cases e:(k:Int)<b
 ·simp[e]
 ·simp only[e,oJ,ah,aG];rw[ef (by omega)];simp only;rw[ef (by omega)];simp only[CP]
def UF(a b:Nat):(cond (decide (((a:Nat):Int)<((b:Nat):Int))) ((a:Nat):Int) ((b:Nat):Int))=((min a b:Nat):Int):=by
 by_cases h:a<b
 ·simp[h];omega
 ·simp[h];omega
def asc(l:aa):Prop:=∀c∈l,c.toNat<128
def La(r:Int)(h:128<=r):∃p e,(Utf8.encode r).data.toList=p++[e]/\1<=p.length/\p.length<=3/\128<=e.toNat:=by
 unfold Utf8.encode;have hc:128<=(if Utf8.valid r then r.toNat else Utf8.runeError):=by
  split
  ·omega
  ·decide
 generalize(if Utf8.valid r then r.toNat else Utf8.runeError)=c at hc;have a:128<=(UInt8.ofNat (0x80+c%64)).toNat:=by
  simp only[FP];omega
 simp only;split
 ·omega
 ·split
  ·exact⟨[_],_,rfl,by simp,by simp,a⟩
  ·split
   ·exact⟨[_,_],_,rfl,by simp,by simp,a⟩
   ·exact⟨[_,_,_],_,rfl,by simp,by simp,a⟩
def OU{l:aa}(h:asc l){i:Nat}{c:UInt8}(hi:l[i]?=some c):c.toNat<128:=h c (fh hi)
def EK(n:Nat)(set:aa)(h:asc set)(e:set.length<n):av (dY n) n (set,0)=some (.inr ()):=by
 refine gp (step:=dY n) (λx=>x.1=set) (λx=>set.length - x.2) (λx=>.inr ()) ?_ n _ rfl (by simp;omega);rintro⟨s,i⟩ rfl;simp only[dY];by_cases hi:i<s.length
 ·have a:Nat.blt i s.length=true:=cr hi;obtain⟨c,hc⟩:∃c,s[i]?=some c:=⟨s[i],bq hi⟩;have b:=OU h hc;have d:(((c.toNat:Nat):Int)==65533)=false:=by rw[aL];omega
  simp only[a,aj,C7 hc b,d,ah];exact .inl ⟨_,rfl,rfl,by simp only;omega,trivial⟩
 ·have a:Nat.blt i s.length=false:=by
   cases a:Nat.blt i s.length with
   | false=>rfl
   | true=>exact absurd (aM a) (by omega)
  simp only[a,ah];exact .inr trivial
def zF{l:aa}{c:UInt8}(h:c∉l):Lib.indexByte l c<0:=by
 have a:=qK l c;have d:hasB l c=false:=by
  unfold hasB;rw[sY];intro x hx b;simp only[bu]at b;exact h (b▸hx)
 rw[d]at a;simpa using a
def D1(n:Nat)(set:aa)(h:asc set)(z:set.length<n)(hs:set.length<=100)(r:Int)(u:128<=r):eN n set r=some (-1):=by
 have x:decide ((0:Int)<=r)=true:=au (by omega);have o:decide (r<128)=false:=aw (by omega);simp only[eN,x,o,aj,ah];by_cases d:r=65533
 ·have:(r==65533)=true:=bu.2 d;simp only[this,aj,EK n set h z,ob]
 ·have:(r==65533)=false:=aL.2 d;simp only[this,ah];obtain⟨v,A⟩:∃v,ej n r=some v:=by
   unfold ej;generalize decide ((0:Int)<=r)=t;generalize decide (r<55296)=d2;generalize decide ((57343:Int)<r)=y;generalize decide (r<=1114111)=d4;cases t<;>cases d2<;>cases y<;>cases d4<;>exact⟨_,rfl⟩
  simp only[A,ob];cases v with
  | false=>rfl
  | true=>
   simp only[dT,ah];obtain⟨p,e,hp,q,s,B⟩:=La r u;simp only[hp];have l:wrap .i64 (((p++[e]).length:Nat) - 1:Int)=(p.length:Int):=by
    rw[wrap_i64 _ (by simp<;>omega) (by simp<;>omega)];simp
   rw[l];obtain⟨m,rfl⟩:∃m,n=m+1:=⟨n - 1,by omega⟩;have a:dX (m+1) (set,p++[e],(p.length:Int),(p.length:Int))=some (.inr (.inl (-1)))\/dX (m+1) (set,p++[e],(p.length:Int),(p.length:Int))=some (.inr (.inr ())):=by
    simp only[dX,oa];by_cases g:p.length<set.length
    ·obtain⟨c,hc⟩:∃c,set[p.length]?=some c:=⟨set[p.length],bq g⟩;have k:=OU h hc;have i:(p++[e])[p.length]?=some e:=by simp
     have j:(((c.toNat:Nat):Int) != ((e.toNat:Nat):Int))=true:=by simp only[bne,kv,aL];omega
     have f:wrap .i64 ((p.length:Int)+1)=((p.length+1:Nat):Int):=by rw[wrap_i64 _ (by omega) (by omega)];omega
     have hx:e∉List.drop (p.length+1) (List.take set.length set):=by
      intro w;have:=h e (by simpa using List.mem_of_mem_drop w);omega
     left;simp only[g,pg,aj,lD hc,lD i,ob,j,f,ef (show p.length+1<=set.length by omega),hO,zF hx]
    ·right;simp only[g,oJ,ah]
   rcases a with b | b<;>simp only[av,b,ob]
def zG(n:Nat)(set:aa)(c:UInt8)(r:Int)(d:r=((c.toNat:Nat):Int))(hc:c.toNat<128):eN n set r=some (Lib.indexByte set c):=by
 have f:decide ((0:Int)<=r)=true:=au (by omega);have e:decide (r<128)=true:=au (by omega);have b:wrap .u8 r=r:=gD _ (by omega) (by omega);have a:dJ n set r=some (Lib.indexByte set c):=by rw[d];exact hO n set c
 simp only[eN,f,e,aj,b,a,ob]
def Cb(n:Nat)(set:aa)(c:UInt8)(hc:c.toNat<128):eN n set ((c.toNat:Nat):Int)=some (Lib.indexByte set c):=zG n set c _ rfl hc
def wh(n:Nat)(set:aa)(c:UInt8)(hc:c.toNat<128):dZ n set ((c.toNat:Nat):Int)=some (hasB set c):=by
 simp only[dZ,Cb n set c hc,ob,qu]
def yT(n:Nat)(set:aa)(h:asc set)(a:set.length<n)(hs:set.length<=100)(r:Int)(b:128<=r):dZ n set r=some false:=by
 simp only[dZ,D1 n set h a hs r b,ob];rfl
def wP(x:Int)(a:0<=x)(b:x<65536):wrap .u16 x=x:=by
 show x%65536=x;omega
def EL(w a:Nat):BitVec.ofInt w (a:Int)=BitVec.ofNat w a:=by
 apply BitVec.eq_of_toNat_eq;simp
def Vd(k:Nat):(2:Int) ^ k=((2 ^ k:Nat):Int):=by simp
def PY(a k:Nat):Int.fdiv (a:Int) (2 ^ k)=((a / 2 ^ k:Nat):Int):=by
 rw[Vd k,Int.fdiv_eq_ediv_of_nonneg _ (Ib _)];rfl
def inR(lo hi:Int)(c:UInt8):Bool:=decide (((c.toNat:Nat):Int)>=lo)&&decide (((c.toNat:Nat):Int)<=hi)
def cnt(lo hi:Int)(l:aa):Nat:=l.countP (inR lo hi)
def Oe(lo hi:Int)(l:aa):cnt lo hi l<=l.length:=List.countP_le_length
def QH(lo hi:Int){l:aa}{i:Nat}{c:UInt8}(h:l[i]?=some c):cnt lo hi (l.take (i+1))=cnt lo hi (l.take i)+if inR lo hi c then 1 else 0:=by
 unfold cnt;rw[qJ,h,List.countP_append];simp[L2]
def I9(n:Nat)(s:aa)(lo hi:Int)(hs:s.length<n)(l:s.length<100000):gV n s lo hi=some ((cnt lo hi s:Nat):Int):=by
 have:=gp (step:=ip n) (λx=>∃i:Nat,i<=s.length/\x=(s,lo,hi,((cnt lo hi (s.take i):Nat):Int),(i:Int))) (λx=>s.length - x.2.2.2.2.toNat) (λ_=>((cnt lo hi s:Nat):Int)) ?_ n (s,lo,hi,0,0) ⟨0,by omega,by simp[cnt]⟩ (by simp;omega)
 ·simp only[gV,this,ob]
 rintro x ⟨i,k,rfl⟩;rcases aN i s.length with a | h
 ·obtain⟨c,hc⟩:∃c,s[i]?=some c:=⟨s[i],bq a⟩;have e:=QH lo hi hc;have b:=Oe lo hi (s.take i);rw[cS]at b;have j:wrap .i64 ((i:Int)+1)=((i+1:Nat):Int):=by rw[wrap_i64 _ (by omega) (by omega)];omega
  have g:wrap .i64 (((cnt lo hi (s.take i):Nat):Int)+1)=((cnt lo hi (s.take i)+1:Nat):Int):=by rw[wrap_i64 _ (by omega) (by omega)];omega
  refine .inl ⟨(s,lo,hi,((cnt lo hi (s.take (i+1)):Nat):Int),((i+1:Nat):Int)),?_,⟨i+1,a,rfl⟩,by simp only[bX];omega,rfl⟩;simp only[ip,oa,a,pg,aj,lD hc,ob,j,g];rw[e];by_cases d:((c.toNat:Nat):Int)>=lo
  ·by_cases f:((c.toNat:Nat):Int)<=hi
   ·simp[d,f,inR]
   ·simp[d,f,inR]
  ·simp[d,inR]
 ·have:i=s.length:=by omega
  subst this;refine .inr ?_;simp only[ip,oa,Bt,oJ,ah,oq]
def Of(lo hi:Int)(l:aa):cnt lo hi l=l.length↔∀c∈l,inR lo hi c=true:=by
 unfold cnt;rw[List.countP_eq_length]
def QT(lo hi:Int)(l:aa):cnt lo hi l=0↔∀c∈l,inR lo hi c=false:=by
 unfold cnt;rw[List.countP_eq_zero];simp
def bH(c:UInt8):Bool:=inR 48 57 c
def ew(c:UInt8):bH c=true↔48<=c.toNat/\c.toNat<=57:=by
 unfold bH inR;simp only[aA,cb];omega
def Da(c:UInt8):inR 88 88 c=true↔c=88:=by
 unfold inR;simp only[aA,cb];constructor
 ·intro h;apply iL.1;show c.toNat=88;omega
 ·rintro rfl;decide
def M9(c:UInt8):inR 48 48 c=true↔c=48:=by
 unfold inR;simp only[aA,cb];constructor
 ·intro h;apply iL.1;show c.toNat=48;omega
 ·rintro rfl;decide
def Nu:∀l:aa,cnt 48 57 l+cnt 88 88 l<=l.length/\(cnt 48 57 l+cnt 88 88 l=l.length↔∀c∈l,bH c=true\/c=88)
 | []=>by simp[cnt]
 | c::l=>by
  have ih:=Nu l;have d:cnt 48 57 (c::l)=cnt 48 57 l+if inR 48 57 c then 1 else 0:=by simp[cnt,L2]
  have g:cnt 88 88 (c::l)=cnt 88 88 l+if inR 88 88 c then 1 else 0:=by simp[cnt,L2]
  have h:¬(inR 48 57 c=true/\inR 88 88 c=true):=by
   rintro⟨a,b⟩;have:=(ew c).1 a;rw[(Da c).1 b]at this;exact absurd this.2 (by decide)
  rw[d,g,aC];simp only[cN,Bh];have hx:=Da c;have f:bH c=inR 48 57 c:=rfl;rw[f];cases a:inR 48 57 c<;>cases b:inR 88 88 c
  ·simp only[a,b]at hx ⊢;have:c≠88:=λe=>by simpa using hx.2 e
   simp[this];omega
  ·simp only[a,b]at hx ⊢;have:c=88:=hx.1 trivial;simp only[this,bU,aQ,aG,false_or,kO];rw[<-ih.2];omega
  ·simp only[a,b]at hx ⊢;simp only[bU,aQ,aG,true_or,kO];rw[<-ih.2];omega
  ·exact absurd ⟨a,b⟩ h
def K5(n:Nat)(s set:aa)(q:asc set)(t:set.length<n)(u:set.length<=100)(hs:s.length<n):
  ∃y,av (dc n) n (true,set,s,0)=some y/\((y=.inr ()/\s.all (hasB set)=true)\/∃i:Nat,y=.inl (i:Int)/\s.all (hasB set)=false):=by
 refine pO (step:=dc n) (λx=>x.1=true/\x.2.1=set/\x.2.2.1=s/\s.all (hasB set)=(s.drop x.2.2.2).all (hasB set)) (λx=>s.length - x.2.2.2) _ ?_ n _ ⟨rfl,rfl,rfl,rfl⟩ (by simp only;omega);rintro⟨b,st,s',p⟩ ⟨h,f,g,a⟩;simp only at h f g a;rw[h,f,g];clear h f g b st s';rcases aN p s.length with j | m
 ·obtain⟨c,hc⟩:∃c,s[p]?=some c:=⟨s[p],bq j⟩;have e:Nat.blt p s.length=true:=cr j;rw[gg hc,nH]at a;rcases aN c.toNat 128 with d | d
  ·have r:=C7 hc d;simp only[dc,e,aj,kC,r,wh n set c d,ob];cases k:hasB set c with
   | true=>
    rw[k,rc]at a;exact .inl ⟨_,rfl,⟨rfl,rfl,rfl,a⟩,by simp only;omega⟩
   | false=>
    rw[k,EM]at a;exact .inr ⟨_,rfl,.inr ⟨p,rfl,a⟩⟩
  ·have r:=I6 hc d;have k:hasB set c=false:=by
    unfold hasB;rw[sY];intro x hx o;simp only[bu]at o;have:=q x hx;rw[o]at this;omega
   rw[k,EM]at a;have l:=yT n set q t u (((dec s p).1:Nat):Int) (by omega);simp only[dc,e,aj,kC,l,ob];exact .inr ⟨_,rfl,.inr ⟨p,rfl,a⟩⟩
 ·have e:Nat.blt p s.length=false:=by
   cases h:Nat.blt p s.length with
   | false=>rfl
   | true=>exact absurd (aM h) (by omega)
  simp only[dc,e,ah];rw[l9 m]at a;exact .inr ⟨_,rfl,.inl ⟨rfl,by rw[a];rfl⟩⟩
def Nb(n:Nat)(s set:aa)(e:asc set)(b:set.length<n)(d:set.length<=100)(hs:s.length<n):gQ n s set=some (s.all (hasB set)):=by
 obtain⟨y,c,f⟩:=K5 n s set e b d hs;simp only[gQ,my,mj,c,ob];rcases f with⟨rfl,a⟩ | ⟨i,rfl,a⟩
 ·rw[a];rfl
 ·rw[a];simp only[ar,ug];omega
def QV:asc [48,49,50,51,52,53,54,55,56,57]:=by unfold asc;decide
def OB:asc [88,48,49,50,51,52,53,54,55,56,57]:=by unfold asc;decide
def jG(p:UInt8->Bool)(h:∀i:Fin 256,p (UInt8.ofNat i.val)=true)(c:UInt8):p c=true:=by
 have:=h ⟨c.toNat,c.toNat_lt⟩;simpa using this
def yE(c:UInt8):hasB [48,49,50,51,52,53,54,55,56,57] c=bH c:=by
 have:=jG (λc=>hasB [48,49,50,51,52,53,54,55,56,57] c==bH c) (by decide +kernel) c;simpa using this
def vd(c:UInt8):hasB [88,48,49,50,51,52,53,54,55,56,57] c=(bH c||c==88):=by
 have:=jG (λc=>hasB [88,48,49,50,51,52,53,54,55,56,57] c==(bH c||c==88)) (by decide +kernel) c;simpa using this
def Oq(n:Nat)(s:aa)(a:100<n)(hs:s.length<n):gQ n s [48,49,50,51,52,53,54,55,56,57]=some (s.all bH):=by
 rw[Nb n s _ QV (by simp;omega) (by simp) hs];congr 2;funext c;exact yE c
def JK(n:Nat)(s:aa)(a:100<n)(hs:s.length<n):gQ n s [88,48,49,50,51,52,53,54,55,56,57]=some (s.all λc=>bH c||c==88):=by
 rw[Nb n s _ OB (by simp;omega) (by simp) hs];congr 2;funext c;exact vd c
def all0(s:aa):Bool:=s.all λc=>c==48
def YS(n:Nat)(s:aa)(hs:s.length<n)(k:s.length<100000):∃y,gA n s 48=some y/\all0 s=all0 y/\y.length<=s.length:=by
 obtain⟨y,g,a⟩:=pO (step:=dM n) (λx=>x.2=48/\all0 s=all0 x.1/\x.1.length<=s.length) (λx=>x.1.length) (λy=>all0 s=all0 y/\y.length<=s.length) (by
  rintro⟨l,c⟩ ⟨rfl,h,f⟩;simp only at h f;by_cases m:l.length>0
  ·have d0:decide (((l.length:Nat):Int)>0)=true:=au (by omega);have j:wrap .i64 (((l.length:Nat):Int) - 1)=((l.length - 1:Nat):Int):=by rw[wrap_i64 _ (by omega) (by omega)];omega
   obtain⟨c,hc⟩:∃c,l[l.length - 1]?=some c:=⟨l[l.length - 1],bq (by omega)⟩;simp only[dM,d0,aj,j,lD hc,ob];by_cases d:c=48
   ·have b:(((c.toNat:Nat):Int)==48)=true:=by rw[d];rfl
    simp only[b,aj,ef (show l.length - 1<=l.length by omega),dk];refine .inl ⟨(List.take (l.length - 1) l,48),rfl,⟨rfl,?_,by show(List.take (l.length - 1) l).length<=s.length;rw[cS];omega⟩,by show(List.take (l.length - 1) l).length<l.length;rw[cS];omega⟩;rw[h];have:l=l.take (l.length - 1)++[c]:=by
     have a:=qJ (l:=l) (i:=l.length - 1);rw[hc,show l.length - 1+1=l.length by omega,oq]at a;exact a
    rw[this];simp only[all0,E5,nH,List.all_nil,d];simp
   ·have b:(((c.toNat:Nat):Int)==48)=false:=by
     rw[aL];intro e;exact d (iL.1 (by show c.toNat=48;omega))
    simp only[b,ah];exact .inr ⟨_,rfl,h,f⟩
  ·have d0:decide (((l.length:Nat):Int)>0)=false:=aw (by omega);simp only[dM,d0,ah];exact .inr ⟨_,rfl,h,f⟩) n (s,48) ⟨rfl,rfl,bg _⟩ hs
 exact⟨y,by simp only[gA,g,ob],a⟩
def Zl(n:Nat)(s:aa)(hs:s.length<n)(m:s.length<100000):∃y,ic n s 48=some y/\all0 s=(y==[]):=by
 obtain⟨y,g,k⟩:=pO (step:=fB n) (λx=>x.2=48/\all0 s=all0 x.1/\x.1.length<=s.length) (λx=>x.1.length) (λy=>all0 s=(y==[])) (by
  rintro⟨l,c⟩ ⟨rfl,h,f⟩;simp only at h f;cases l with
  | nil=>exact .inr ⟨[],rfl,by rw[h];rfl⟩
  | cons c l=>
   have d0:decide ((((c::l).length:Nat):Int)>0)=true:=au (by simp only[aC];omega);have hc:sx (c::l) 0=some c:=by simp[sx]
   simp only[fB,d0,aj,hc,ob];by_cases a:c=48
   ·have b:(((c.toNat:Nat):Int)==48)=true:=by rw[a];rfl
    have d:bx (c::l).length 1=some 1:=ef (i:=1) (by simp);simp only[b,aj,d,oq,oM,dk];refine .inl ⟨_,rfl,⟨rfl,?_,by show l.length<=s.length;simp only[aC]at f;omega⟩,by simp⟩;rw[h];simp[all0,a]
   ·have b:(((c.toNat:Nat):Int)==48)=false:=by
     rw[aL];intro e;exact a (iL.1 (by show c.toNat=48;omega))
    simp only[b,ah];refine .inr ⟨_,rfl,?_⟩;rw[h];have j:(c==48)=false:=aL.2 a;simp[all0,j]) n (s,48) ⟨rfl,rfl,bg _⟩ hs
 exact⟨y,by simp only[ic,g,ob],k⟩
def TY(n:Nat)(s:aa)(hs:s.length<n)(a:s.length<100000):∃y,oU n s=some y/\(y==[])=all0 s:=by
 unfold oU;by_cases h:s=[]
 ·subst h;exact⟨[],rfl,rfl⟩
 ·have:(s==([]:aa))=false:=aL.2 h;obtain⟨y,b,d,f⟩:=YS n s hs a;obtain⟨z,e,c⟩:=Zl n y (by omega) (by omega);exact⟨z,by simp only[this,ah,b,e,ob],by rw[d,c]⟩
def Rx(s:aa):all0 s=true↔cnt 48 48 s=s.length:=by
 rw[Of];unfold all0;rw[bO];constructor
 ·intro h c hc;have:=h c hc;rw[bu]at this;exact(M9 c).2 this
 ·intro h c hc;rw[bu];exact(M9 c).1 (h c hc)
def hasX(s:aa):Bool:=s.any λc=>c==88
def IE(s:aa):hasX s=decide (0<cnt 88 88 s):=by
 have:=QT 88 88 s;unfold hasX;cases h:s.any λc=>c==88 with
 | true=>
  obtain⟨c,hc,b⟩:=tj.1 h;rw[bu]at b;symm;rw[cb];rcases CY (cnt 88 88 s)with a | a
  ·have:=this.1 a c hc;rw[(Da c).2 b]at this;cases this
  ·exact a
 | false=>
  symm;rw[ug];intro a;have:cnt 88 88 s=0:=this.2 λc hc=>by
   cases hx:inR 88 88 c with
   | false=>rfl
   | true=>
    rw[sY]at h;exact absurd (bu.2 ((Da c).1 hx)) (h c hc)
  omega
def D9(n:Nat)(s:aa):je n s=some (hasX s):=by
 have e:UInt8.ofNat (Int.toNat 88)=(88:UInt8):=rfl;have hi:nL n s=some (Lib.indexByte s 88):=by
  simp only[nL,jz,dp,ob,e];by_cases h:([88]:aa)=s
  ·subst h;rfl
  ·have:(([88]:aa)==s)=false:=aL.2 h;simp only[this,ah]
 simp only[je,hi,ob,qu];rfl
def vc(n:Nat)(g l:Bool)(d:aa)(x q:Int):dC n g l d x q=some (hasX d):=by
 simp only[dC,D9,ob]
def pW(n:Nat)(g l:Bool)(d:aa)(x q:Int)(hs:d.length<n)(b:d.length<100000):aF n g l d x q=some (if hasX d then 1 else 0):=by
 simp only[aF,I9 n d 88 88 hs b,ob,IE,cb];by_cases h:0<cnt 88 88 d
 ·have:decide (((cnt 88 88 d:Nat):Int)<1)=false:=aw (by omega);simp[this,h]
 ·have:decide (((cnt 88 88 d:Nat):Int)<1)=true:=au (by omega);have a:cnt 88 88 d=0:=by omega
  simp[this,a]
def wm(acc:Nat)(c:UInt8):Nat:=acc*10+(c.toNat - 48)
def dval(acc:Nat)(l:aa):Nat:=l.foldl wm acc
def qM(acc:Nat):dval acc []=acc:=by unfold dval;rw[HB]
def pL(acc:Nat)(c:UInt8)(l:aa):dval acc (c::l)=dval (wm acc c) l:=by
 unfold dval;rw[vW]
def Jz(l:aa)(acc:Nat)(c:UInt8):dval acc (l++[c])=dval acc l*10+(c.toNat - 48):=by
 have:dval acc (l++[c])=wm (dval acc l) c:=by
  unfold dval;rw[Ji,vW,HB]
 rw[this];rfl
def TQ(M:Nat)(i:10000000000000000000<=M)(l:aa):∀(acc k:Nat),(∀c∈l,bH c=true)->acc<10 ^ k->l.length+k<=18->Lib.parseUintM M acc l=.ok (dval acc l)/\dval acc l<10 ^ (l.length+k):=by
 induction l with
 | nil=>
  intro acc k _ b _;rw[qM];refine⟨rfl,?_⟩;simpa using b
 | cons c l ih=>
  intro acc k h b f;have hc:=(ew c).1 (h c (by simp));simp only[aC]at f;have hp:(10:Nat) ^ (k+1)=10 ^ k*10:=ua 10 k;have e:(10:Nat) ^ (k+1)<=10 ^ 18:=lL (by decide) (by omega);have g:(10:Nat) ^ 18=1000000000000000000:=by decide
  have a:wm acc c=acc*10+(c.toNat - 48):=rfl;have ih:=ih (wm acc c) (k+1) (λd a=>h d (by simp[a])) (by omega) (by omega);refine⟨?_,?_⟩
  ·simp only[Lib.parseUintM];rw[af hc,ae (by omega),ae (by omega),<-a,ih.1,pL]
  ·rw[pL,aC,show l.length+1+k=l.length+(k+1)by omega];exact ih.2
def JF{l:aa}(h:∀c∈l,bH c=true)(b:l≠[])(k:l.length<=18):yc l=some ((dval 0 l:Nat):Int)/\dval 0 l<10 ^ l.length:=by
 obtain⟨g,d⟩:=TQ (2 ^ 64 - 1) (by decide) l 0 0 h (by simp) (by omega);refine⟨?_,by simpa using d⟩;have j:dval 0 l<10 ^ 18:=pt d (lL (by decide) (by omega));cases l with
 | nil=>exact absurd rfl b
 | cons c r=>
  have hc:=(ew c).1 (h c (by simp));have e:Lib.parseUintB 64 (c::r)=.ok (dval 0 (c::r)):=by
   unfold Lib.parseUintB;rw[ae b,g]
  have hs:¬(c.toNat=43\/c.toNat=45):=by omega
  simp only[yc,Lib.parseIntB,hs,aG,e];have i:(10:Nat) ^ 18=1000000000000000000:=by decide
  have a:(2:Nat) ^ (64 - 1)=9223372036854775808:=by decide
  have f:¬c.toNat=45:=by omega
  simp only[f,Hk,kO,yR,aG];rw[a,ae (by omega)]
def QB(n k:Nat)(j:k<=18)(h:18<n):pF n (k:Int)=some (((10 ^ k:Nat):Int),0):=by
 have f:(10:Nat) ^ 18=1000000000000000000:=by decide
 have:=gp (step:=lK n) (λx=>∃i:Nat,i<=k/\x=(((10 ^ i:Nat):Int),(k:Int),(i:Int))) (λx=>k - x.2.2.toNat) (λ_=>((10 ^ k:Nat):Int)) (by
  rintro x ⟨i,hi,rfl⟩;rcases aN i k with a | c
  ·have d:(10:Nat) ^ (i+1)<=10 ^ 18:=lL (by decide) (by omega);have hp:(10:Nat) ^ (i+1)=10 ^ i*10:=ua 10 i;have e:wrap .i64 (((10 ^ i:Nat):Int)*10)=((10 ^ (i+1):Nat):Int):=by rw[wrap_i64 _ (by omega) (by omega)];omega
   have b:wrap .i64 ((i:Int)+1)=((i+1:Nat):Int):=by rw[wrap_i64 _ (by omega) (by omega)];omega
   refine .inl ⟨_,?_,⟨i+1,a,rfl⟩,by simp only[bX];omega,rfl⟩;simp only[lK,oa,a,pg,aj,e,b]
  ·have:i=k:=by omega
   subst this;refine .inr ?_;simp only[lK,oa,Bt,oJ,ah]) n (1,(k:Int),0) ⟨0,by omega,rfl⟩ (by simp;omega)
 have g:decide ((k:Int)<0)=false:=aw (by omega);have d2:decide ((k:Int)>18)=false:=aw (by omega);simp only[pF,g,d2,ah,this,ob]
def ll(x:Int)(a:0<=x)(b:x<18446744073709551616):wrap .u64 x=x:=by
 show x%18446744073709551616=x;omega
def Gt(x:Int):wrap .u64 x=x%18446744073709551616:=rfl
def N9{a:Nat}(b:a<18446744073709551616):bits .and .u64 (a:Int) 4294967295=((a%4294967296:Nat):Int):=by
 show wrap .u64 ((BitVec.ofInt 64 (a:Int) &&& BitVec.ofInt 64 ((4294967295:Nat):Int)).toNat:Int)=_;rw[EL,EL,BitVec.toNat_and,BitVec.toNat_ofNat,BitVec.toNat_ofNat,rO (show a<2 ^ 64 from b),rO (by decide)];have:=Nat.and_two_pow_sub_one_eq_mod a 32;rw[show(2:Nat) ^ 32 - 1=4294967295 from by decide,show(2:Nat) ^ 32=4294967296 from by decide]at this;rw[this];exact ll _ (by omega) (by omega)
def Qi(a:Nat):Int.fdiv (a:Int) (2 ^ 32)=((a / 4294967296:Nat):Int):=by
 rw[PY]
def HO{a b A B:Nat}(d:a<=A)(c:b<=B):a*b<=A*B:=xw d c
def Oo(a b:Nat):a*b=(a / 4294967296)*(b / 4294967296)*18446744073709551616+((a / 4294967296)*(b%4294967296)+(a%4294967296)*(b / 4294967296))*4294967296+(a%4294967296)*(b%4294967296):=by
 have e:a=(a / 4294967296)*4294967296+a%4294967296:=by omega
 have f:b=(b / 4294967296)*4294967296+b%4294967296:=by omega
 generalize a / 4294967296=c at e ⊢;generalize a%4294967296=x0 at e ⊢;generalize b / 4294967296=d at f ⊢;generalize b%4294967296=g at f ⊢;subst e f;rw[ij,Nat.mul_add,Nat.mul_add];have h:c*4294967296*(d*4294967296)=c*d*18446744073709551616:=by
  rw[Nat.mul_mul_mul_comm]
 have j:c*4294967296*g=c*g*4294967296:=by rw[Nat.mul_right_comm]
 have i:x0*(d*4294967296)=x0*d*4294967296:=by rw[G0]
 rw[h,j,i,ij];omega
def YH(n a b:Nat)(w:a<18446744073709551616)(u:b<18446744073709551616):lq n (a:Int) (b:Int)=some (((a*b / 18446744073709551616:Nat):Int),((a*b%18446744073709551616:Nat):Int)):=by
 have v:=Oo a b;have j:a / 4294967296<=4294967295:=by omega
 have h:a%4294967296<=4294967295:=by omega
 have i:b / 4294967296<=4294967295:=by omega
 have g:b%4294967296<=4294967295:=by omega
 have p:=HO h g;have t:=HO h i;have x:=HO j g;have z:=HO j i;have k:wrap .u64 ((a:Int)*(b:Int))=((a*b%18446744073709551616:Nat):Int):=by
  rw[Gt,<-Iu];omega
 simp only[lq,Qi,N9 w,N9 u,k];simp only[<-Iu];generalize(a / 4294967296)*(b / 4294967296)=f at *;generalize(a / 4294967296)*(b%4294967296)=d at *;generalize(a%4294967296)*(b / 4294967296)=e at *;generalize(a%4294967296)*(b%4294967296)=c at *;generalize a*b=N at *;have q:wrap .u64 ((c:Nat):Int)=((c:Nat):Int):=ll _ (by omega) (by omega);have y:wrap .u64 ((d:Nat):Int)=((d:Nat):Int):=ll _ (by omega) (by omega);have l:wrap .u64 ((e:Nat):Int)=((e:Nat):Int):=ll _ (by omega) (by omega);have s:wrap .u64 ((f:Nat):Int)=((f:Nat):Int):=ll _ (by omega) (by omega);rw[q,y,l,s,Qi c];have r:wrap .u64 (((d:Nat):Int)+((c / 4294967296:Nat):Int))=((d+c / 4294967296:Nat):Int):=by rw[ll _ (by omega) (by omega)];omega
 rw[r,Qi,N9 (by omega)];have m:wrap .u64 (((f:Nat):Int)+(((d+c / 4294967296) / 4294967296:Nat):Int))=((f+(d+c / 4294967296) / 4294967296:Nat):Int):=by rw[ll _ (by omega) (by omega)];omega
 have o:wrap .u64 ((((d+c / 4294967296)%4294967296:Nat):Int)+((e:Nat):Int))=(((d+c / 4294967296)%4294967296+e:Nat):Int):=by rw[ll _ (by omega) (by omega)];omega
 rw[m,o,Qi];have w8:wrap .u64 (((f+(d+c / 4294967296) / 4294967296:Nat):Int)+((((d+c / 4294967296)%4294967296+e) / 4294967296:Nat):Int))=((N / 18446744073709551616:Nat):Int):=by
  rw[ll _ (by omega) (by omega)];omega
 rw[w8]
def Wu(n a b:Nat)(k:a<9223372036854775808)(j:b<9223372036854775808):wS n (a:Int) (b:Int)=some (if a*b<9223372036854775808 then(((a*b:Nat):Int),0)else(0,15)):=by
 have i:decide ((a:Int)<0)=false:=aw (by omega);have d2:decide ((b:Int)<0)=false:=aw (by omega);have g:wrap .u64 (a:Int)=a:=ll _ (by omega) (by omega);have f:wrap .u64 (b:Int)=b:=ll _ (by omega) (by omega);simp only[wS,uX,i,d2,ah,g,f,ob,YH n a b (by omega) (by omega)];generalize a*b=N;by_cases h:18446744073709551616<=N
 ·have c:decide (((N / 18446744073709551616:Nat):Int)>0)=true:=au (by omega);rw[c,ae (by omega)];rfl
 ·have c:decide (((N / 18446744073709551616:Nat):Int)>0)=false:=aw (by omega);have e:N%18446744073709551616=N:=rO (by omega);rw[c,e];simp only[ah,BEq.rfl,dT,ue,kV,aj];by_cases d:N<9223372036854775808
  ·have d4:decide (((N:Nat):Int)<=9223372036854775807)=true:=au (by omega);rw[d4,af d,aj,wrap_i64 _ (by omega) (by omega)]
  ·have d4:decide (((N:Nat):Int)<=9223372036854775807)=false:=aw (by omega);rw[d4,ae d,ah]
def E16:Nat:=10000000000000000
def U4{x:Nat}(hx:17<=x):E16<10 ^ x:=by
 have:(10:Nat) ^ 17<=10 ^ x:=lL (by decide) hx;have a:(10:Nat) ^ 17=100000000000000000:=by decide
 unfold E16;omega
def LE(n:Nat)(g l:Bool)(d:aa)(x:Nat)(s:Int)(q:∀c∈d,bH c=true)(o:d≠[])(j:d.length<=17)(hx:x<=18)(e:18<n):
  eH n g l d (x:Int) s=some (if dval 0 d*10 ^ x<=E16 then(((dval 0 d*10 ^ x:Nat):Int),0)else(0,6)):=by
 obtain⟨i,m⟩:=JF q o (by omega);have r:dval 0 d<10 ^ 17:=pt m (lL (by decide) j);have hp:(10:Nat) ^ x<=10 ^ 18:=lL (by decide) hx;have k:(10:Nat) ^ 17=100000000000000000:=by decide
 have p:(10:Nat) ^ 18=1000000000000000000:=by decide
 have f:Nat.ble d.length 9223372036854775806=true:=cr (by omega);simp only[eH,f,aj,i,ob,QB n x hx e,fG,ah,Wu n _ _ (show dval 0 d<9223372036854775808 by omega) (show 10 ^ x<9223372036854775808 by omega)];generalize dval 0 d*10 ^ x=N;unfold E16;by_cases h:N<9223372036854775808
 ·rw[af h];simp only[fG,ah];by_cases b:N<=10000000000000000
  ·have a:decide (((N:Nat):Int)>10000000000000000)=false:=aw (by omega);rw[a,af b,ah]
  ·have a:decide (((N:Nat):Int)>10000000000000000)=true:=au (by omega);rw[a,ae b,aj]
 ·rw[ae h,ae (by omega)];rfl
def pre(d:aa)(i:Nat):Nat:=dval 0 (d.take i)*10 ^ (i - d.length)
def RU{d:aa}{i:Nat}{c:UInt8}(h:d[i]?=some c):pre d (i+1)=10*pre d i+(c.toNat - 48):=by
 have a:=yQ h;unfold pre;rw[qJ,h,show i+1 - d.length=0 by omega,show i - d.length=0 by omega];simp only[Option.toList,Jz,BO,rr];omega
def SN{d:aa}{i:Nat}(h:d.length<=i):pre d (i+1)=10*pre d i:=by
 unfold pre;rw[jK (show d.length<=i+1 by omega),jK h,show i+1 - d.length=(i - d.length)+1 by omega,ua];rw[<-G0];omega
def IY(d:aa):∀k i,pre d i<=pre d (i+k)
 | 0,i=>bg _
 | k+1,i=>by
  have ih:=IY d k i;rcases aN (i+k) d.length with b | a
  ·have:=RU (bq b);rw[show i+(k+1)=i+k+1 by omega,this];omega
  ·have:=SN a;rw[show i+(k+1)=i+k+1 by omega,this];omega
def jW(n:Nat)(d:aa)(x:Nat)(u:∀c∈d,bH c=true)(w:d.length<=100)(hx:x<=100)(v:d.length+x<n):
  am n d (x:Int)=some (if dval 0 d*10 ^ x<=E16 then(((dval 0 d*10 ^ x:Nat):Int),1)else(0,0)):=by
 have a:pre d (d.length+x)=dval 0 d*10 ^ x:=by
  unfold pre;rw[jK (by omega),show d.length+x - d.length=x by omega]
 have w0:wrap .i64 (((d.length:Nat):Int)+(x:Int))=((d.length+x:Nat):Int):=by rw[wrap_i64 _ (by omega) (by omega)];omega
 have:=gp (step:=fE n) (λq=>∃i:Nat,i<=d.length+x/\pre d i<=E16/\q=(d,(x:Int),((pre d i:Nat):Int),(i:Int))) (λq=>d.length+x - q.2.2.2.toNat) (λ_=>if dval 0 d*10 ^ x<=E16 then .inr ((dval 0 d*10 ^ x:Nat):Int)else .inl (0,0)) (by
  rintro q ⟨i,hi,hp,rfl⟩;simp only[fE,w0,oa];unfold E16 at hp ⊢;have p:wrap .i64 ((i:Int)+1)=((i+1:Nat):Int):=by rw[wrap_i64 _ (by omega) (by omega)];omega
  have o:wrap .i64 (10*((pre d i:Nat):Int))=((10*pre d i:Nat):Int):=by rw[wrap_i64 _ (by omega) (by omega)];omega
  by_cases g:i<d.length+x
  ·have r:=IY d (d.length+x - (i+1)) (i+1);rw[show i+1+(d.length+x - (i+1))=d.length+x by omega,a]at r;simp only[g,pg,aj,p,o];rcases aN i d.length with e | f
   ·obtain⟨c,hc⟩:∃c,d[i]?=some c:=⟨d[i],bq e⟩;have l:=(ew c).1 (u c (fh hc));have hs:=RU hc;have m:wrap .u8 (((c.toNat:Nat):Int) - 48)=((c.toNat - 48:Nat):Int):=by rw[gD _ (by omega) (by omega)];omega
    have t:wrap .i64 ((c.toNat - 48:Nat):Int)=((c.toNat - 48:Nat):Int):=wrap_i64 _ (by omega) (by omega);have s:wrap .i64 (((10*pre d i:Nat):Int)+((c.toNat - 48:Nat):Int))=((pre d (i+1):Nat):Int):=by rw[wrap_i64 _ (by omega) (by omega)];omega
    simp only[e,pg,aj,lD hc,ob,m,t,s];by_cases k:pre d (i+1)<=10000000000000000
    ·have b:decide (((pre d (i+1):Nat):Int)>10000000000000000)=false:=aw (by omega);simp only[b,ah];exact .inl ⟨_,rfl,⟨i+1,g,k,rfl⟩,by simp only[bX];omega,trivial⟩
    ·have b:decide (((pre d (i+1):Nat):Int)>10000000000000000)=true:=au (by omega);simp only[b,aj];rw[ae (by omega)];exact .inr rfl
   ·have hs:=SN f;have j:¬i<d.length:=by omega
    simp only[j,oJ,ah];rw[<-hs];by_cases k:pre d (i+1)<=10000000000000000
    ·have b:decide (((pre d (i+1):Nat):Int)>10000000000000000)=false:=aw (by omega);simp only[b,ah];exact .inl ⟨_,rfl,⟨i+1,g,k,rfl⟩,by simp only[bX];omega,trivial⟩
    ·have b:decide (((pre d (i+1):Nat):Int)>10000000000000000)=true:=au (by omega);simp only[b,aj];rw[ae (by omega)];exact .inr rfl
  ·have:i=d.length+x:=by omega
   subst this;simp only[Bt,oJ,ah];rw[a]at hp ⊢;rw[af hp];exact .inr rfl) n (d,(x:Int),0,0) ⟨0,by omega,by unfold pre E16;simp[qM],by unfold pre;simp[qM]⟩ (by simp;omega)
 simp only[am,this,ob];by_cases h:dval 0 d*10 ^ x<=E16
 ·rw[af h,af h]
 ·rw[ae h,ae h]
def okM(d:aa)(x:Int):Prop:=(∀c∈d,bH c=true)/\1<=d.length/\d.length<=17/\d.head?≠some 48/\0<=x/\x<=16/\¬(x=0/\d.length<5)/\dval 0 d*10 ^ x.toNat<=E16
def okL(d:aa)(x s:Int):Prop:=okM d x/\0<=s/\s<=(d.length:Int)+x
def okS(g:Bool)(d:aa)(x s:Int):Prop:=d.length=4/\(∀c∈d,bH c=true\/c=88)/\x=0/\¬(g=true/\all0 d=true)/\0<=s/\s<=4/\¬(0<s/\hasX d=true)
def okY(g l:Bool)(d:aa)(x s:Int):Prop:=if l=true then okL d x s else okS g d x s
instance (d:aa)(x:Int):Decidable (okM d x):=by unfold okM;infer_instance
instance (d:aa)(x s:Int):Decidable (okL d x s):=by unfold okL;infer_instance
instance (g:Bool)(d:aa)(x s:Int):Decidable (okS g d x s):=by unfold okS;infer_instance
instance (g l:Bool)(d:aa)(x s:Int):Decidable (okY g l d x s):=by unfold okY;infer_instance
def MG(d:aa):d.all bH=true↔∀c∈d,bH c=true:=bO
def Ip(d:aa):(d.all λc=>bH c||c==88)=true↔∀c∈d,bH c=true\/c=88:=by
 rw[bO];constructor
 ·intro h c hc;have:=h c hc;simpa using this
 ·intro h c hc;have:=h c hc;simpa using this
def Xx(c:UInt8):(((c.toNat:Nat):Int)==48)=(c==48):=AU c 48
def Ug(n:Nat)(g l:Bool)(d:aa)(x s:Int)(y:200<n)(z:d.length<=100):aZ n g l d x s=some (decide (okM d x)):=by
 unfold aZ;by_cases w:d.length<1
 ·have e:decide (((d.length:Nat):Int)<1)=true:=au (by omega);rw[e,aw (λh:okM d x=>by have:=h.2.1;omega)];rfl
 ·have e:decide (((d.length:Nat):Int)<1)=false:=aw (by omega);rw[e,ah];by_cases A:d.length>17
  ·have e:decide (((d.length:Nat):Int)>17)=true:=au (by omega);rw[e,aw (λh:okM d x=>by have:=h.2.2.1;omega)];rfl
  ·have e:decide (((d.length:Nat):Int)>17)=false:=aw (by omega);rw[e,ah,Oq n d (by omega) (by omega)];simp only[ob];cases p:d.all bH with
   | false=>
    rw[aw (λh:okM d x=>by rw[(MG d).2 h.1]at p;cases p)];rfl
   | true=>
    have a:=(MG d).1 p;obtain⟨c,r,rfl⟩:∃c r,d=c::r:=by
     cases d with
     | nil=>simp at w
     | cons c r=>exact⟨c,r,rfl⟩
    have o:sx (c::r) 0=some c:=by simp[sx]
    simp only[dT,ah,o,Xx];by_cases j:c=48
    ·rw[aw (λh:okM (c::r) x=>h.2.2.2.1 (by rw[j];rfl)),j];rfl
    ·have e:(c==48)=false:=aL.2 j;rw[e,ah];by_cases t:x<0
     ·rw[au t,aw (λh:okM (c::r) x=>by have:=h.2.2.2.2.1;omega)];rfl
     ·rw[aw t,ah];by_cases u:x>16
      ·rw[au u,aw (λh:okM (c::r) x=>by have:=h.2.2.2.2.2.1;omega)];rfl
      ·rw[aw u,ah];obtain⟨k,rfl⟩:∃k:Nat,x=(k:Int):=⟨x.toNat,by omega⟩;have m:=LE n g l (c::r) k s a (by simp) (by omega) (by omega) (by omega);rw[m];have key:¬((k:Int)=0/\(c::r).length<5)->(okM (c::r) (k:Int)↔dval 0 (c::r)*10 ^ k<=E16):=by
        intro f;constructor
        ·intro h;simpa using h.2.2.2.2.2.2.2
        ·intro h;exact⟨a,by omega,by omega,by simpa using j,by omega,by omega,f,by simpa using h⟩
       have fin:¬((k:Int)=0/\(c::r).length<5)->(ob (some (if dval 0 (c::r)*10 ^ k<=E16 then(((dval 0 (c::r)*10 ^ k:Nat):Int),(0:Int))else(0,6))) λq=>(some (q.2==0)))=some (decide (okM (c::r) (k:Int))):=by
        intro f;by_cases i:dval 0 (c::r)*10 ^ k<=E16
        ·rw[af i,au ((key f).2 i)];rfl
        ·rw[ae i,aw (λh=>i ((key f).1 h))];rfl
       by_cases b:(k:Int)=0
       ·have e:((k:Int)==0)=true:=bu.2 b;rw[e,aj];by_cases v:(c::r).length<5
        ·have e:decide ((((c::r).length:Nat):Int)<5)=true:=au (by omega);rw[e,aw (λh:okM (c::r) (k:Int)=>h.2.2.2.2.2.2.1 ⟨b,v⟩)];rfl
        ·have e:decide ((((c::r).length:Nat):Int)<5)=false:=aw (by omega);rw[e,ah];exact fin (λh=>v h.2)
       ·have e:((k:Int)==0)=false:=aL.2 b;rw[e,ah];exact fin (λh=>b h.1)
def Rb(n:Nat)(g l:Bool)(d:aa)(x s:Int)(c:200<n)(e:d.length<=100):
  (ob (aZ n g l d x s) λr=>(cond (!r) (some (6:Int)) (cond (decide (s<0)) (some 6) (cond (decide (s>(wrap .i64 (((d.length:Nat):Int)+x)))) (some 6) (some 0)))))=some (if okL d x s then 0 else 6):=by
 rw[Ug n g l d x s c e];simp only[ob];by_cases h:okM d x
 ·rw[au h];have hx:=h.2.2.2.2;have w:wrap .i64 (((d.length:Nat):Int)+x)=((d.length:Nat):Int)+x:=wrap_i64 _ (by omega) (by omega);rw[w];simp only[dT,ah,bG];by_cases a:s<0
  ·rw[af a,ae (λq:okL d x s=>by have:=q.2.1;omega)]
  ·rw[ae a];by_cases b:s>((d.length:Nat):Int)+x
   ·rw[af b,ae (λq:okL d x s=>by have:=q.2.2;omega)]
   ·rw[ae b,af ⟨h,by omega,by omega⟩]
 ·rw[aw h,ae (λq:okL d x s=>h q.1)];rfl
def Bv(n:Nat)(g l:Bool)(d:aa)(x s:Int)(v:200<n)(A:d.length<=100):cM n g l d x s=some (if okY g l d x s then 0 else 6):=by
 obtain⟨y,z,hy⟩:=TY n d (by omega) (by omega);unfold cM;rw[JK n d (by omega) (by omega),z,vc];cases l with
 | true=>
  have b:(if okY g true d x s then(0:Int)else 6)=if okL d x s then 0 else 6:=by simp only[okY,aQ]
  rw[b];have st:=Rb n g true d x s v A;simp only[aj];generalize(ob (aZ n g true d x s) λr=>(cond (!r) (some (6:Int)) (cond (decide (s<0)) (some 6) (cond (decide (s>(wrap .i64 (((d.length:Nat):Int)+x)))) (some 6) (some 0)))))=T at st ⊢;simp only[ob];rw[st];cases(((d.length:Nat):Int)==4)<;>cases(d.all λc=>bH c||c==88)<;>cases(x==0)<;>cases g<;>cases(y==[])<;>cases(s != 0)<;>rfl
 | false=>
  have b:(if okY g false d x s then(0:Int)else 6)=if okS g d x s then 0 else 6:=by simp only[okY,bU,aG]
  rw[b];simp only[ah,ob];by_cases f:d.length=4
  ·have h:(((d.length:Nat):Int)==4)=true:=bu.2 (by omega);rw[h,aj];cases k:(d.all λc=>bH c||c==88)with
   | false=>
    rw[ae (λq:okS g d x s=>by rw[(Ip d).2 q.2.1]at k;cases k)];rfl
   | true=>
    have e:=(Ip d).1 k;rw[aj];by_cases i:x=0
    ·subst i;have w:wrap .i64 (((d.length:Nat):Int)+0)=4:=by rw[f];decide
     rw[w];have a:¬(g=true/\all0 d=true)->(cond (s != 0) (cond (!(!hasX d)) (some (6:Int)) (cond (decide (s<0)) (some 6) (cond (decide (s>4)) (some 6) (some 0)))) (cond (decide (s<0)) (some 6) (cond (decide (s>4)) (some 6) (some 0))))=some (if okS g d 0 s then 0 else 6):=by
      intro t;simp only[bG,wY,Bool.not_not];by_cases s0:s=0
      ·subst s0;rw[af rfl,ae (by omega),ae (by omega),af ⟨f,e,rfl,t,by omega,by omega,by omega⟩]
      ·rw[ae s0];cases p:hasX d with
       | true=>
        by_cases j:s<0
        ·rw[ae (λq:okS g d 0 s=>by have:=q.2.2.2.2.1;omega)];rfl
        ·rw[ae (λq:okS g d 0 s=>q.2.2.2.2.2.2 ⟨by omega,p⟩)];rfl
       | false=>
        rw[ah];by_cases j:s<0
        ·rw[af j,ae (λq:okS g d 0 s=>by have:=q.2.2.2.2.1;omega)]
        ·rw[ae j];by_cases o:s>4
         ·rw[af o,ae (λq:okS g d 0 s=>by have:=q.2.2.2.2.2.1;omega)]
         ·rw[ae o,af ⟨f,e,rfl,t,by omega,by omega,λq=>by rw[p]at q;cases q.2⟩]
     have m:((0:Int)==0)=true:=rfl;rw[m,aj];cases g with
     | false=>
      simp only[ah];exact a (by simp)
     | true=>
      simp only[aj];rw[hy];cases u:all0 d with
      | true=>rw[ae (λq:okS true d 0 s=>q.2.2.2.1 ⟨rfl,u⟩)];rfl
      | false=>
       simp only[kV,aj];exact a (by rw[u];simp)
    ·have m:(x==0)=false:=aL.2 i;rw[m,ae (λq:okS g d x s=>i q.2.2.1)];rfl
  ·have h:(((d.length:Nat):Int)==4)=false:=aL.2 (by omega);rw[h,ae (λq:okS g d x s=>f q.1)];rfl
def Uy(d:aa):cnt 48 57 d=d.length↔∀c∈d,bH c=true:=Of 48 57 d
def Ek(n:Nat)(g l:Bool)(d:aa)(x s:Int)(M:200<n)(J:d.length<=100):cO n g l d x s=some (if okY g l d x s then 1 else 0):=by
 have hs:=Nu d;have u:=IE d;have w:=Rx d;have v:=Uy d;unfold cO;rw[I9 n d 48 57 (by omega) (by omega),I9 n d 88 88 (by omega) (by omega),I9 n d 48 48 (by omega) (by omega)];simp only[ob];generalize L:cnt 48 57 d=A at *;generalize N:cnt 88 88 d=B at *;have w0:wrap .i64 (((A:Nat):Int)+((B:Nat):Int))=((A+B:Nat):Int):=by rw[wrap_i64 _ (by omega) (by omega)];omega
 rw[w0];simp only[wY,bG,II];by_cases y:A+B=d.length
 ·rw[af (by omega)];have t:=hs.2.1 y;by_cases G:s<0
  ·rw[af G,ae];intro q;unfold okY at q;split at q
   ·have:=q.2.1;omega
   ·have:=q.2.2.2.2.1;omega
  ·rw[ae G];cases l with
   | false=>
    have i:(if okY g false d x s then(1:Int)else 0)=if okS g d x s then 1 else 0:=by simp only[okY,bU,aG]
    rw[i,ah];by_cases j:d.length=4
    ·rw[af (by omega)];by_cases f:x=0
     ·rw[af f];have a:¬(g=true/\all0 d=true)->(if s>4 then some (0:Int)else if s>0 then(if((B:Nat):Int)>0 then some 0 else some 1)else some 1)=some (if okS g d x s then 1 else 0):=by
       intro F;by_cases p:s>4
       ·rw[af p,ae (λq:okS g d x s=>by have:=q.2.2.2.2.2.1;omega)]
       ·rw[ae p];by_cases D:s>0
        ·rw[af D];by_cases o:((B:Nat):Int)>0
         ·rw[af o,ae (λq:okS g d x s=>q.2.2.2.2.2.2 ⟨by omega,by rw[u];exact au (by omega)⟩)]
         ·rw[ae o,af ⟨j,t,f,F,by omega,by omega,λq=>by
           have:=q.2;rw[u,cb]at this;omega⟩]
        ·rw[ae D,af ⟨j,t,f,F,by omega,by omega,λq=>by omega⟩]
      cases g with
      | false=>rw[ah];exact a (by simp)
      | true=>
       rw[aj,ii];by_cases b:all0 d=true
       ·rw[af (by have:=w.1 b;omega),ae (λq:okS true d x s=>q.2.2.2.1 ⟨rfl,b⟩)]
       ·rw[ae (λq=>b (w.2 (by omega)))];exact a (λq=>b q.2)
     ·rw[ae f,ae (λq:okS g d x s=>f q.2.2.1)]
    ·rw[ae (by omega),ae (λq:okS g d x s=>j q.1)]
   | true=>
    have i:(if okY g true d x s then(1:Int)else 0)=if okL d x s then 1 else 0:=by simp only[okY,aQ]
    rw[i,aj];by_cases o:((B:Nat):Int)>0
    ·rw[af o,ae];intro q;have:=v.2 q.1.1;omega
    ·rw[ae o];have h:=v.1 (by omega);by_cases j:((A:Nat):Int)<1
     ·rw[af j,ae (λq:okL d x s=>by have:=q.1.2.1;omega)]
     ·rw[ae j];by_cases f:((A:Nat):Int)>17
      ·rw[af f,ae (λq:okL d x s=>by have:=q.1.2.2.1;omega)]
      ·rw[ae f];obtain⟨c,r,rfl⟩:∃c r,d=c::r:=by
        cases d with
        | nil=>simp at y;omega
        | cons c r=>exact⟨c,r,rfl⟩
       have z:sx (c::r) 0=some c:=by simp[sx]
       simp only[z,Xx,ii];by_cases b:c=48
       ·rw[af b,ae (λq:okL (c::r) x s=>q.1.2.2.2.1 (by rw[b];rfl))]
       ·rw[ae b];by_cases C:x<0
        ·rw[af C,ae (λq:okL (c::r) x s=>by have:=q.1.2.2.2.2.1;omega)]
        ·rw[ae C];by_cases H:x>16
         ·rw[af H,ae (λq:okL (c::r) x s=>by have:=q.1.2.2.2.2.2.1;omega)]
         ·rw[ae H];obtain⟨k,rfl⟩:∃k:Nat,x=(k:Int):=⟨x.toNat,by omega⟩;have I:wrap .i64 (((A:Nat):Int)+(k:Int))=((A+k:Nat):Int):=by rw[wrap_i64 _ (by omega) (by omega)];omega
          rw[I,jW n (c::r) k h J (by omega) (by omega)];have m:(c::r).length=A:=by omega
          have a:¬((k:Int)=0/\(c::r).length<5)->(if s>((A+k:Nat):Int)then some (0:Int)else some (if dval 0 (c::r)*10 ^ k<=E16 then(((dval 0 (c::r)*10 ^ k:Nat):Int),(1:Int))else(0,0)).2)=some (if okL (c::r) (k:Int) s then 1 else 0):=by
           intro K;by_cases p:s>((A+k:Nat):Int)
           ·rw[af p,ae (λq:okL (c::r) (k:Int) s=>by have:=q.2.2;rw[m]at this;omega)]
           ·rw[ae p];by_cases e:dval 0 (c::r)*10 ^ k<=E16
            ·rw[af e,af ⟨⟨h,by omega,by omega,by simpa using b,by omega,by omega,K,by simpa using e⟩,by omega,by omega⟩]
            ·rw[ae e,ae (λq:okL (c::r) (k:Int) s=>e (by simpa using q.1.2.2.2.2.2.2.2))]
          by_cases e:(k:Int)=0
          ·rw[af e];by_cases E:((A:Nat):Int)<5
           ·rw[af E,ae (λq:okL (c::r) (k:Int) s=>q.1.2.2.2.2.2.2.1 ⟨e,by omega⟩)]
           ·rw[ae E];exact a (λq=>by omega)
          ·rw[ae e];exact a (λq=>e q.1)
 ·rw[ae (by omega),ae];intro q;apply y;rw[hs.2];unfold okY at q;split at q
  ·exactλc hc=>.inl (q.1.1 c hc)
  ·exact q.2.1
def NK:∀(l:aa) (acc:Nat),acc*10 ^ l.length<=dval acc l
 | [],acc=>by rw[qM];simp
 | c::l,acc=>by
  have ih:=NK l (wm acc c);rw[pL,aC,ua];have h:acc*10<=wm acc c:=Bc _ _;have b:=pa (10 ^ l.length) h;have a:acc*(10 ^ l.length*10)=acc*10*10 ^ l.length:=by rw[vj (10 ^ l.length) 10,G0]
  omega
def rF:∀(l:aa) (acc k:Nat),(∀c∈l,bH c=true)->acc<10 ^ k->dval acc l<10 ^ (l.length+k)
 | [],acc,k,_,h=>by rw[qM];simpa using h
 | c::l,acc,k,b,h=>by
  have hc:=(ew c).1 (b c (by simp));have hp:(10:Nat) ^ (k+1)=10 ^ k*10:=ua 10 k;have hs:wm acc c=acc*10+(c.toNat - 48):=rfl;have ih:=rF l (wm acc c) (k+1) (λd a=>b d (by simp[a])) (by omega);rw[pL,aC,show l.length+1+k=l.length+(k+1)by omega];exact ih
structure Num(d:aa)(k q:Nat):Prop where
 dig:∀c∈d,bH c=true
 ne:d≠[]
 wide:d.length+k<=17
 small:dval 0 d*10 ^ k<=E16
 sig:q<=d.length+k
def uY{d:aa}(h:∀c∈d,bH c=true):hasX d=false:=by
 unfold hasX;rw[sY];intro c hc a;rw[bu]at a;have:=(ew c).1 (h c hc);rw[a]at this;exact absurd this.2 (by decide)
def s9{g l:Bool}{d:aa}{x s:Int}(h:okY g l d x s)(m:hasX d=false):∃k q:Nat,x=(k:Int)/\s=(q:Int)/\Num d k q:=by
 cases l with
 | true=>
  have h:okL d x s:=by simpa[okY]using h
  obtain⟨⟨a,f,y,o,B,C,A,w⟩,u,v⟩:=h;refine⟨x.toNat,s.toNat,by omega,by omega,a,by intro e;subst e;simp at f,?_,w,by omega⟩;cases d with
  | nil=>simp at f
  | cons c r=>
   have hc:=(ew c).1 (a c (by simp));have n:c≠48:=by simpa using o
   have p:1<=wm 0 c:=by
    have:c.toNat≠48:=λe=>n (iL.1 e);show 1<=0*10+(c.toNat - 48);omega
   have z:=NK r (wm 0 c);rw[<-pL]at z;have u:10 ^ r.length<=dval 0 (c::r):=by
    have:=pa (10 ^ r.length) p;omega
   have j:=pa (10 ^ x.toNat) u;rw[<-Nat.pow_add]at j;rcases aN (r.length+x.toNat) 17 with b | i
   ·simp only[aC];omega
   ·have:=U4 i;omega
 | false=>
  have h:okS g d x s:=by simpa[okY]using h
  obtain⟨a,f,y,o,B,C,A⟩:=h;have t:∀c∈d,bH c=true:=by
   intro c hc;rcases f c hc with h | h
   ·exact h
   ·exfalso;unfold hasX at m;rw[sY]at m;exact m c hc (bu.2 h)
  have b:=rF d 0 0 t (by simp);rw[a]at b;refine⟨0,s.toNat,by omega,by omega,t,by intro e;subst e;simp at a,by omega,?_,by omega⟩;have o:(10:Nat) ^ (4+0)=10000:=by decide
  unfold E16;simp only[BO,rr];omega
def val(d:aa)(k:Nat):Nat:=dval 0 d*10 ^ k
def Dm(n:Nat)(g l:Bool)(d:aa)(x s:Int)(b:200<n)(c:d.length<=100):
  eY n g l d x s=some (if okY g l d x s/\hasX d=false then(if g then -((val d x.toNat:Nat):Int)else((val d x.toNat:Nat):Int),0)else(0,6)):=by
 unfold eY;rw[Bv n g l d x s b c,vc];simp only[ob];by_cases h:okY g l d x s
 ·rw[af h];cases e:hasX d with
  | true=>rw[ae (by simp)];rfl
  | false=>
   rw[af ⟨h,rfl⟩];obtain⟨k,q,rfl,rfl,a⟩:=s9 h e;rw[LE n g l d k q a.dig a.ne (by have:=a.wide;omega) (by have:=a.wide;omega) (by omega),af a.small];have hs:=a.small;unfold E16 at hs;cases g with
   | true=>
    simp only[fG,ah,aj,bX,val,aQ];rw[wrap_i64 _ (by omega) (by omega),AZ]
   | false=>simp[val]
 ·rw[ae h,ae (λq=>h q.1)];rfl
def bI{a b:aa}(h:a.length+b.length<=1000000):cat a b=some (a++b):=by
 unfold cat;rw[af (by omega)]
def cut1{l:aa}{i:Nat}{c:UInt8}(h:l[i]?=some c):List.drop i (List.take (i+1) l)=[c]:=by
 have a:=yQ h;rw[qJ,h,ES (by rw[cS];omega)];rfl
def Vz{l:aa}{i:Nat}{c:UInt8}(h:l[i]?=some c):List.take (i+1) l=List.take i l++[c]:=by
 rw[qJ,h];rfl
def rJ{g l:Bool}{d:aa}{x s:Int}(h:okY g l d x s)(a:hasX d=true):l=false/\x=0/\s=0/\d.length=4/\∀c∈d,bH c=true\/c=88:=by
 cases l with
 | true=>
  have h:okL d x s:=by simpa[okY]using h
  rw[uY h.1.1]at a;cases a
 | false=>
  have h:okS g d x s:=by simpa[okY]using h
  obtain⟨b,j,f,n,k,m,i⟩:=h;refine⟨rfl,f,?_,b,j⟩;have:¬0<s:=λe=>i ⟨e,a⟩;omega
def jb{g l:Bool}{d:aa}{x s:Int}(h:okY g l d x s):0<=x/\x<=16/\0<=s/\s<=17/\1<=d.length/\d.length<=17:=by
 cases b:hasX d with
 | true=>
  obtain⟨rfl,rfl,rfl,f,_⟩:=rJ h b;omega
 | false=>
  obtain⟨k,q,rfl,rfl,a⟩:=s9 h b;have e:=a.wide;have j:=a.sig;have i:1<=d.length:=by
   cases d with
   | nil=>exact absurd rfl a.ne
   | cons c r=>simp
  omega
def Nl{g l:Bool}{d:aa}{x s:Int}(h:okY g l d x s):vY d x s=true:=by
 obtain⟨a,f,b,i,c,e⟩:=jb h;unfold vY;rw[au (by omega),cr (by omega)];rfl
def numU(d:UInt8):aa->Nat⊕(Nat×Nat)
 | []=>.inr (d.toNat - 48,2)
 | e::_=>if bH e=true then .inr (10*(d.toNat - 48)+(e.toNat - 48),3)else .inr (d.toNat - 48,2)
def numT:aa->Nat⊕(Nat×Nat)
 | []=>.inl 1
 | d::r=>if 49<=d.toNat/\d.toNat<=57 then numU d r else .inl 1
def numS(letter:UInt8):aa->Nat⊕(Nat×Nat)
 | []=>.inr (0,0)
 | c::r=>if c=letter then numT r else .inr (0,0)
def A8(letter:UInt8):numS letter []=.inr (0,0):=rfl
def pK(letter c:UInt8)(r:aa):numS letter (c::r)=if c=letter then numT r else .inr (0,0):=rfl
def CH:numT []=.inl 1:=rfl
def rQ(d:UInt8)(r:aa):numT (d::r)=if 49<=d.toNat/\d.toNat<=57 then numU d r else .inl 1:=rfl
def wC(d:UInt8):numU d []=.inr (d.toNat - 48,2):=rfl
def pV(d e:UInt8)(r:aa):numU d (e::r)=if bH e=true then .inr (10*(d.toNat - 48)+(e.toNat - 48),3)else .inr (d.toNat - 48,2):=rfl
def zR(c:UInt8)(h:c.toNat<128):(Utf8.encode ((c.toNat:Nat):Int)).data.toList=[c]:=by
 have:=jG (λc=>(decide (128<=c.toNat))||(Utf8.encode ((c.toNat:Nat):Int)).data.toList==[c]) (by decide +kernel) c;simp only[iG,cb,bu]at this;rcases this with a | a
 ·omega
 ·exact a
def ru{c:UInt8}(h:48<=c.toNat/\c.toNat<=57):Lib.digitVal c=some (c.toNat - 48):=by
 unfold Lib.digitVal;rw[af h]
def zL{c:UInt8}(h:48<=c.toNat/\c.toNat<=57)(r:aa):Lib.atoi (c::r)=(Lib.decNat (c::r)).map λ(m:Nat)=>(m:Int):=by
 have a:(c==45)=false:=by
  rw[aL];rintro rfl;exact absurd h.1 (by decide)
 have b:(c==43)=false:=by
  rw[aL];rintro rfl;exact absurd h.1 (by decide)
 simp only[Lib.atoi,a,b,bU,aG]
def QY{c:UInt8}(h:48<=c.toNat/\c.toNat<=57):Lib.atoi [c]=some ((c.toNat - 48:Nat):Int):=by
 rw[zL h];simp only[Lib.decNat,List.isEmpty_cons,bU,aG,Lib.decFrom,ru h,fm,CN,cU]
def iO9{c e:UInt8}(h:48<=c.toNat/\c.toNat<=57)(a:48<=e.toNat/\e.toNat<=57):Lib.atoi [c,e]=some ((10*(c.toNat - 48)+(e.toNat - 48):Nat):Int):=by
 rw[zL h];simp only[Lib.decNat,List.isEmpty_cons,bU,aG,Lib.decFrom,ru h,ru a,fm,CN,cU];rw[vj]
def AQ(c:UInt8):hasB [49,50,51,52,53,54,55,56,57] c=decide (49<=c.toNat/\c.toNat<=57):=by
 have:=jG (λc=>hasB [49,50,51,52,53,54,55,56,57] c==decide (49<=c.toNat/\c.toNat<=57)) (by decide +kernel) c;simpa using this
def ou{p q:UInt8->Bool}(h:∀c,p c=q c):∀(k:Nat) (l:aa),cR p k l=cR q k l
 | 0,_=>by simp[cR]
 | _+1,[]=>by simp[cR]
 | k+1,c::l=>by simp only[cR,h c,ou h k l]
def Hi{S:aa}{a:Nat}{c:UInt8}{r:aa}(h:S.drop a=c::r):a<S.length/\S[a]?=some c/\S.drop (a+1)=r:=by
 have b:a<S.length:=by
  rcases aN a S.length with q | q
  ·exact q
  ·rw[l9 q]at h;cases h
 have d:S[a]?=some S[a]:=bq b;have e:=gg d;rw[h]at e;injection e with h1 h2;exact⟨b,by rw[d,h1],h2.symm⟩
def LG(n:Nat)(letter:UInt8)(S:aa)(a:Nat)(h:a<=S.length)(D:S.length<100000)(C:S.length<n):
  dw n [letter] S (a:Int)=some (match numS letter (S.drop a)with | .inl k=>.inr (((a+k:Nat):Int),5,S,((a+k:Nat):Int)) | .inr (v,k)=>.inl ((v:Int),S,((a+k:Nat):Int))):=by
 unfold dw;rw[nO n [letter] S a h (by omega)];cases z:S.drop a with
 | nil=>simp[A8]
 | cons c r=>
  obtain⟨y,F,u⟩:=Hi z;rw[pK];by_cases hc:c=letter
  ·have j:List.take [letter].length (c::r)=[letter]:=by simp[hc]
   have q:a+[letter].length=a+1:=rfl;rw[af j,q,af hc];clear j;simp only[ob,dT,ah];rw[B9 n _ S (a+1) (by omega) (by omega),u];cases r with
   | nil=>simp[CH]
   | cons d t=>
    obtain⟨x,B,o⟩:=Hi u;rw[rQ];simp only[AQ,cb];by_cases b:49<=d.toNat/\d.toNat<=57
    ·rw[af b,af b];simp only[];rw[wM n _ 0 1 S (a+1+1) (by omega) (by omega) C,o];have E:=oY (hasB [48,49,50,51,52,53,54,55,56,57]) (1:Int).toNat t;rw[ae (by omega)];rw[ou yE];simp only[];rw[zR d (by omega)];have i:Nat.ble ([d]:aa).length 18=true:=rfl;have m:∀e:UInt8,Nat.ble ([d,e]:aa).length 18=true:=λ_=>rfl;have s:a+1+1=a+2:=rfl;have A:a+2+1=a+3:=rfl;have w:=QY (show 48<=d.toNat/\d.toNat<=57 by omega);cases t with
     | nil=>
      have hs:cR bH (1:Int).toNat []=0:=rfl;rw[hs,wC];rw[bI (by simp)];simp only[List.take_nil,ko,dP,i,aj,w,opt,s]
     | cons e f=>
      by_cases g:bH e=true
      ·have hs:cR bH (1:Int).toNat (e::f)=1:=by
        show cR bH (0+1) (e::f)=1;simp[cR,g]
       have p:=iO9 (show 48<=d.toNat/\d.toNat<=57 by omega) ((ew e).1 g);rw[hs,pV,af g];have l:List.take 1 (e::f)=[e]:=rfl;rw[l,bI (by simp)];simp only[eX,dQ,m,aj,p,opt,s,A]
      ·have hs:cR bH (1:Int).toNat (e::f)=0:=by
        show cR bH (0+1) (e::f)=0;simp[cR,g]
       rw[hs,pV,ae g];have l:List.take 0 (e::f)=[]:=rfl;rw[l,bI (by simp)];simp only[ko,i,aj,w,opt,dP,s]
    ·rw[ae b,ae b]
  ·have e:¬List.take [letter].length (c::r)=[letter]:=by simp[hc]
   rw[ae e,ae hc];simp
def isDX(c:UInt8):Bool:=bH c||c==88
abbrev YR:=Bool×Bool×aa×Nat×Nat×Nat
def Dh(g:Bool)(o:Nat):aa->Nat⊕YR
 | []=>.inl o
 | c::r=>if 49<=c.toNat/\c.toNat<=57 then
   (match numS 69 ((c::r).drop (1+cR bH 16 r))with
   | .inl j=>.inl (o+(1+cR bH 16 r)+j)
   | .inr (x,j)=>(match numS 83 ((c::r).drop (1+cR bH 16 r+j))with
    | .inl i=>.inl (o+(1+cR bH 16 r)+j+i)
    | .inr (s,i)=>.inr (g,true,(c::r).take (1+cR bH 16 r),x,s,o+(1+cR bH 16 r)+j+i)))
  else .inl o
def zP(g:Bool)(o:Nat)(l:aa):Nat⊕YR:=
 if cR isDX 4 l<4 then .inl (o+cR isDX 4 l)else
  (match numS 83 (l.drop 4)with
  | .inl i=>.inl (o+4+i)
  | .inr (s,i)=>.inr (g,false,l.take 4,0,s,o+4+i))
def gF(c:UInt8)(l:aa):Nat:=if l.take 1=[c]then 1 else 0
def va(l:aa):Nat⊕YR:=
 if gF 89 l=1 then Dh (gF 45 (l.drop 1)==1) (1+gF 45 (l.drop 1)) (l.drop (1+gF 45 (l.drop 1)))
 else zP (gF 45 l==1) (gF 45 l) (l.drop (gF 45 l))
def mh(c:UInt8)(l:aa):gF c l=0\/gF c l=1:=by
 unfold gF;split
 ·exact .inr rfl
 ·exact .inl rfl
def BD(c:UInt8)(l:aa):gF c l<=l.length:=by
 unfold gF;split
 ·rename_i h;cases l with
  | nil=>simp at h
  | cons a l=>simp
 ·omega
def uq(n:Nat)(c:UInt8)(S:aa)(a:Nat)(h:a<=S.length)(b:S.length<100000):
  aD n [c] S (a:Int)=some (gF c (S.drop a)==1,S,((a+gF c (S.drop a):Nat):Int)):=by
 rw[nO n [c] S a h (by omega)];unfold gF;have e:[c].length=1:=rfl;rw[e];split<;>rfl
def zD(S:aa)(a:Nat):Nat⊕YR->(Int×Int×aa×Int)⊕(Bool×Bool×aa×Int×Int×aa×Int)
 | .inl k=>.inl (((a+k:Nat):Int),5,S,((a+k:Nat):Int))
 | .inr (g,l,d,x,s,k)=>.inr (g,l,d,(x:Int),(s:Int),S,((a+k:Nat):Int))
def UP(letter:UInt8)(l:aa):(match numS letter l with | .inl k=>k<=l.length | .inr (_,k)=>k<=l.length):=by
 cases l with
 | nil=>simp[A8]
 | cons c r=>
  rw[pK];by_cases hc:c=letter
  ·rw[af hc];cases r with
   | nil=>simp[CH]
   | cons d f=>
    rw[rQ];by_cases a:49<=d.toNat/\d.toNat<=57
    ·rw[af a];cases f with
     | nil=>simp[wC]
     | cons e g=>
      rw[pV];by_cases b:bH e=true
      ·rw[af b];simp
      ·rw[ae b];simp
    ·rw[ae a];simp
  ·rw[ae hc];simp
def JE{letter:UInt8}{S:aa}{a:Nat}(h:a<=S.length){v k:Nat}(b:numS letter (S.drop a)=.inr (v,k)):a+k<=S.length:=by
 have:=UP letter (S.drop a);rw[b,cj]at this;simp only at this;omega
def TN(n:Nat)(S:aa)(a o:Nat)(g:Bool)(h:a+o<=S.length)(H:S.length<100000)(G:S.length<n):
  (ob (cw n [49,50,51,52,53,54,55,56,57] S ((a+o:Nat):Int)) λu=>(Sum.casesOn (motive:=λ_=>Option ((Int×Int×aa×Int)⊕(Bool×Bool×aa×Int×Int×aa×Int))) u (λe=>(some (.inl (e.1,e.2.1,e.2.2.1,e.2.2.2)))) (λq=>(ob (ch n [48,49,50,51,52,53,54,55,56,57] 0 16 q.2.1 q.2.2) λy=>(Sum.casesOn (motive:=λ_=>Option _) y (λb=>(some (.inl (b.1,b.2.1,b.2.2.1,b.2.2.2)))) (λm=>(ob (cat (Utf8.encode q.1).data.toList m.1) λA=>(ob (dw n [69] m.2.1 m.2.2) λB=>(Sum.casesOn (motive:=λ_=>Option _) B (λt=>(ob (dw n [83] t.2.1 t.2.2) λC=>(Sum.casesOn (motive:=λ_=>Option _) C (λl=>(some (.inr (g,true,A,t.1,l.1,l.2.1,l.2.2)))) (λd=>(some (.inl (d.1,d.2.1,d.2.2.1,d.2.2.2))))))) (λf=>(some (.inl (f.1,f.2.1,f.2.2.1,f.2.2.2)))))))))))))=some (zD S a (Dh g o (S.drop (a+o)))):=by
 rw[B9 n _ S (a+o) h (by omega)];cases F:S.drop (a+o)with
 | nil=>simp[Dh,zD,ob]
 | cons c r=>
  obtain⟨K,R,I⟩:=Hi F;simp only[AQ,cb];by_cases hc:49<=c.toNat/\c.toNat<=57
  ·rw[af hc];simp only[ob];rw[wM n _ 0 16 S (a+o+1) (by omega) (by omega) G,I];rw[ae (by omega),ou yE];simp only[];rw[zR c (by omega)];have D:(16:Int).toNat=16:=rfl;rw[D];have O:=oY bH 16 r;have N:r.length+(a+o+1)=S.length:=by
    have:=cT List.length I;rw[cj]at this;omega
   rw[bI (by simp only[aC,aX,cS];omega)];simp only[Dh];rw[af hc];generalize T:cR bH 16 r=k at O ⊢;have L:[c]++List.take k r=List.take (1+k) (c::r):=by rw[o8];rfl
   rw[L];have w:a+o+1+k<=S.length:=by omega
   have v:List.drop (1+k) (c::r)=S.drop (a+o+1+k):=by
    rw[<-F,kZ];congr 1;omega
   rw[LG n 69 S (a+o+1+k) w H G,<-v];cases M:numS 69 (List.drop (1+k) (c::r))with
   | inl j=>
    simp only[zD];have:a+o+1+k+j=a+(o+(1+k)+j):=by omega
    rw[this]
   | inr p=>
    obtain⟨x,j⟩:=p;have J:=M;rw[v]at J;have E:=JE w J;have z:List.drop (1+k+j) (c::r)=S.drop (a+o+1+k+j):=by
     rw[<-F,kZ];congr 1;omega
    simp only[];rw[LG n 83 S (a+o+1+k+j) E H G,<-z];cases P:numS 83 (List.drop (1+k+j) (c::r))with
    | inl i=>
     simp only[zD];have:a+o+1+k+j+i=a+(o+(1+k)+j+i):=by omega
     rw[this]
    | inr Q=>
     obtain⟨s,i⟩:=Q;simp only[zD];have:a+o+1+k+j+i=a+(o+(1+k)+j+i):=by omega
     rw[this]
  ·rw[ae hc];simp only[ob,Dh];rw[ae hc];rfl
def P7(n:Nat)(S:aa)(a o:Nat)(g:Bool)(h:a+o<=S.length)(x:S.length<100000)(u:S.length<n):
  (ob (ch n [88,48,49,50,51,52,53,54,55,56,57] 4 4 S ((a+o:Nat):Int)) λj=>(Sum.casesOn (motive:=λ_=>Option ((Int×Int×aa×Int)⊕(Bool×Bool×aa×Int×Int×aa×Int))) j (λb=>(some (.inl (b.1,b.2.1,b.2.2.1,b.2.2.2)))) (λf=>(ob (dw n [83] f.2.1 f.2.2) λm=>(Sum.casesOn (motive:=λ_=>Option _) m (λe=>(some (.inr (g,false,f.1,0,e.1,e.2.1,e.2.2)))) (λd=>(some (.inl (d.1,d.2.1,d.2.2.1,d.2.2.2)))))))))=some (zD S a (zP g o (S.drop (a+o)))):=by
 rw[wM n _ 4 4 S (a+o) h (by omega) u];have t:∀c,hasB [88,48,49,50,51,52,53,54,55,56,57] c=isDX c:=vd;have y:(4:Int).toNat=4:=rfl;rw[ou t,y];unfold zP;have v:=oY isDX 4 (S.drop (a+o));rw[cj]at v;by_cases q:cR isDX 4 (S.drop (a+o))<4
 ·rw[af (by omega),af q];simp only[ob,zD];rw[gR]
 ·rw[ae (by omega),ae q];have r:∀(k:Nat) (l:aa),cR isDX k l<=k:=by
   intro k
   induction k with
   | zero=>intro l;simp[cR]
   | succ k ih=>
    intro l;cases l with
    | nil=>simp[cR]
    | cons c l=>
     have:=ih l;simp only[cR];split<;>omega
  have w:cR isDX 4 (S.drop (a+o))=4:=by have:=r 4 (S.drop (a+o));omega
  rw[w]at v ⊢;simp only[ob];have hp:a+o+4<=S.length:=by omega
  rw[LG n 83 S (a+o+4) hp x u,kZ];cases z:numS 83 (S.drop (a+o+4))with
  | inl i=>
   simp only[zD];have:a+o+4+i=a+(o+4+i):=by omega
   rw[this]
  | inr p=>
   obtain⟨s,i⟩:=p;simp only[zD];have:a+o+4+i=a+(o+4+i):=by omega
   rw[this];rfl
def UX(n:Nat)(S:aa)(a:Nat)(h:a<=S.length)(d:S.length<100000)(f:S.length<n):
  mB n S (a:Int)=some (zD S a (va (S.drop a))):=by
 unfold mB;rw[uq n 89 S a h d];have c:=BD 89 (S.drop a);rw[cj]at c;simp only[ob];rw[uq n 45 S (a+gF 89 (S.drop a)) (by omega) d];have b:=BD 45 (S.drop (a+gF 89 (S.drop a)));rw[cj]at b;simp only[];unfold va;rcases mh 89 (S.drop a)with e | e
 ·rw[e]at b ⊢;simp only[dP,show((0:Nat)==1)=false from rfl,ah,show¬((0:Nat)=1)from by decide,aG,kZ]at b ⊢;have:=P7 n S a (gF 45 (S.drop a)) (gF 45 (S.drop a)==1) (by omega) d f;exact this
 ·rw[e]at b ⊢;simp only[show((1:Nat)==1)=true from rfl,aj,aQ,kZ]at b ⊢;have:=TN n S a (1+gF 45 (S.drop (a+1))) (gF 45 (S.drop (a+1))==1) (by omega) d f;rw[<-gR]at this;rw[<-gR];exact this
def yD(p:UInt8->Bool):∀(k:Nat) (l:aa),cR p k l<=k
 | 0,l=>by simp[cR]
 | k+1,[]=>by simp[cR]
 | k+1,c::l=>by
  have:=yD p k l;simp only[cR];split<;>omega
def vp(c a:UInt8)(l:aa):gF c (a::l)=if a=c then 1 else 0:=by
 unfold gF;simp
def wint(c:Int):Bool:=c==24||c==28||c==30
def rC(g:Bool)(d:aa)(x:Int):Bool:=!hasX d&&!g&&decide (val d x.toNat=E16)
def yrB(g:Bool)(d:aa)(x s:Int)(m:aa):Bool:=!(decide (0<s)&&!(m==[]))&&!(wint (sea m)&&rC g d x)
def Fz(n:Nat)(p:200<n)(g l:Bool)(dg:aa)(x q:Int)(m d:aa)(k0 k1 k2:Int)(B:m.length<=18)(t:dg.length<=100):
  ga n g l dg x q m d k0 k1 k2=some (if okY g l dg x q then yrB g dg x q m else false):=by
 unfold ga;rw[Bv n g l dg x q p t,rS n g l dg x q m d k0 k1 k2 B,vc,Dm n g l dg x q p t];by_cases h:okY g l dg x q
 rotate_left
 ·rw[ae h,ae h];rfl
 rw[af h,af h];have body:(ob (some (sea m,decide (0<sea m))) λr=>(cond (!r.2) (some true) (ob (some (hasX dg)) λE=>(cond E (some true) (ob (some (if okY g l dg x q/\hasX dg=false then(if g then -((val dg x.toNat:Nat):Int)else((val dg x.toNat:Nat):Int),(0:Int))else(0,6))) λw=>(ob (ja n w.1 r.1) λF=>(some (F.2.2.2.2==0))))))))=some (!(wint (sea m)&&rC g dg x)):=by
  rcases pD m with D | ⟨j,s,rfl⟩
  ·rw[D];rfl
  ·have hs:=lO s;rw[hs];have hp:decide (0<((21+j:Nat):Int))=true:=by simp;omega
   rw[hp];cases o:hasX dg with
   | true=>
    have:rC g dg x=false:=by unfold rC;rw[o];rfl
    rw[this,I1];rfl
   | false=>
    rw[af ⟨h,rfl⟩];obtain⟨k,G,rfl,rfl,C⟩:=s9 h o;have A:val dg k<=E16:=C.small;unfold E16 at A;have hc:eo (if g then -((val dg k:Nat):Int)else((val dg k:Nat):Int)):=by
     unfold eo;cases g<;>simp<;>omega
    obtain⟨a,b,c,e,v⟩:=XC n (by omega) hc s;simp only[ob,dT,ah,bX];rw[v];simp only[ar];have u:wint ((21+j:Nat):Int)=decide (j=3\/j=7\/j=9):=by
     unfold wint;rw[uJ];simp only[iG,bu,cb];omega
    have y:rC g dg (k:Int)=decide ((if g then -((val dg k:Nat):Int)else((val dg k:Nat):Int))=10000000000000000):=by
     unfold rC E16;rw[o,bX];cases g
     ·simp only[kV,rc,bU,aG,oN];omega
     ·simp;omega
    rw[u,y];by_cases f:(if g then -((val dg k:Nat):Int)else((val dg k:Nat):Int))=10000000000000000<;>by_cases i:j=3\/j=7\/j=9
    ·rw[af ⟨f,i⟩,au f,au i];rfl
    ·rw[ae (λz=>i z.2),aw i];rfl
    ·rw[ae (λz=>f z.1),aw f,I1];rfl
    ·rw[ae (λz=>f z.1),aw f,I1];rfl
 show cond (decide (q>0)) (cond (!(m==[])) (some false) _) _=_;unfold yrB;rw[show(decide (q>0))=decide (0<q)from rfl];cases decide (0<q)with
 | false=>exact body
 | true=>
  cases(m==[])with
  | false=>rfl
  | true=>exact body
def PP(n:Nat)(f:200<n)(g l:Bool)(dg:aa)(x q:Int)(m d:aa)(k0 k1 k2:Int)(j:dg.length<=100):
  jE n g l dg x q m d k0 k1 k2=some (if okY g l dg x q/\yrB g dg x q m=true then 1 else 0):=by
 unfold jE;rw[Ek n g l dg x q f j,oc n (by omega) g l dg x q m d k0 k1 k2,pW n g l dg x q (by omega) (by omega)];by_cases h:okY g l dg x q
 rotate_left
 ·rw[ae h,ae (show¬(okY g l dg x q/\yrB g dg x q m=true)fromλz=>h z.1)];rfl
 rw[af h];have T:(ob (some (if hasX dg then(1:Int)else 0)) λr=>(cond (r==1) (some (1:Int)) (ob (am n dg x) λv=>(cond (v.1==10000000000000000) (cond (!g) (some 0) (some 1)) (some 1)))))=some (if rC g dg x then 0 else 1):=by
  cases b:hasX dg with
  | true=>
   have:rC g dg x=false:=by unfold rC;rw[b];rfl
   rw[this];rfl
  | false=>
   obtain⟨k,o,rfl,rfl,a⟩:=s9 h b;have i:=a.small;have p:=a.wide;have c:=jW n dg k a.dig (by omega) (by omega) (by omega);rw[af i]at c;show ob (am n dg (k:Int)) _=_;rw[c];show cond (((dval 0 dg*10 ^ k:Nat):Int)==10000000000000000) _ _=_;unfold rC val;rw[b,bX];have e:(((dval 0 dg*10 ^ k:Nat):Int)==10000000000000000)=decide (dval 0 dg*10 ^ k=E16):=by
    generalize dval 0 dg*10 ^ k=v;unfold E16;rw[uJ];simp only[bu,cb];omega
   rw[e];cases decide (dval 0 dg*10 ^ k=E16)<;>cases g<;>rfl
 have body:(ob (some (sea m)) λr=>(cond (r != 24) (cond (r != 28) (cond (r != 30) (some (1:Int)) (ob (some (if hasX dg then(1:Int)else 0)) λr=>(cond (r==1) (some (1:Int)) (ob (am n dg x) λv=>(cond (v.1==10000000000000000) (cond (!g) (some 0) (some 1)) (some 1)))))) (ob (some (if hasX dg then(1:Int)else 0)) λr=>(cond (r==1) (some (1:Int)) (ob (am n dg x) λv=>(cond (v.1==10000000000000000) (cond (!g) (some 0) (some 1)) (some 1)))))) (ob (some (if hasX dg then(1:Int)else 0)) λr=>(cond (r==1) (some (1:Int)) (ob (am n dg x) λv=>(cond (v.1==10000000000000000) (cond (!g) (some 0) (some 1)) (some 1)))))))=some (if(!(wint (sea m)&&rC g dg x))=true then 1 else 0):=by
  rw[T];show cond (sea m != 24) _ _=_;unfold wint;simp only[bne];cases(sea m==24)<;>cases(sea m==28)<;>cases(sea m==30)<;>cases rC g dg x<;>rfl
 unfold yrB;show cond (decide (q>0)) (cond (!(m==[])) (some 0) _) _=_;rw[show(decide (q>0))=decide (0<q)from rfl];simp only[h,kO];cases decide (0<q)with
 | false=>exact body
 | true=>
  cases(m==[])with
  | false=>rfl
  | true=>exact body
def aR(m d:aa):Nat:=1+(if m==[]then 0 else 1)+(if d==[]then 0 else 1)
def uo(n:Nat)(e:100<n)(g l:Bool)(dg:aa)(x q:Int)(m d:aa)(k0 k1 k2:Int):bE n g l dg x q m d k0 k1 k2=some ((aR m d:Nat):Int):=by
 obtain⟨n,rfl⟩:∃j,n=j+3:=⟨n - 3,by omega⟩;unfold bE aR;have s0:∀a:Int,ca (n+3) (a,m,d,0)=some (.inl (if m==[]then a else wrap .i64 (a+1),m,d,1)):=λa=>by
  unfold ca;show cond (!(m==[])) _ _=_;cases(m==[])<;>rfl
 have c:∀a:Int,ca (n+3) (a,m,d,1)=some (.inl (if d==[]then a else wrap .i64 (a+1),m,d,2)):=λa=>by
  unfold ca;show cond (!(d==[])) _ _=_;cases(d==[])<;>rfl
 have b:∀a:Int,ca (n+3) (a,m,d,2)=some (.inr a):=λa=>rfl;rw[av,s0];show ob (av _ (n+2) _) _=_;rw[av,c];show ob (av _ (n+1) _) _=_;rw[av,b];cases(m==[])<;>cases(d==[])<;>rfl
def dr(n:Nat)(g l:Bool)(dg:aa)(x q:Int)(m d:aa)(k0 k1 k2:Int):aq n g l dg x q m d k0 k1 k2=some ((aR m d:Nat):Int):=by
 unfold aq aR;cases(m==[])<;>cases(d==[])<;>rfl
def allM(a b c:Int)(k:Nat):Int:=if 3<a\/3<b\/3<c\/(k<2/\b≠0)\/(k<3/\c≠0)then 9 else 0
def GN(n:Nat)(u:3<n)(a b c:Int)(k:Nat)(v:1<=k/\k<=3)(w:0<=a)(t:0<=b)(hc:0<=c):
  bZ n [a,b,c] (k:Int)=some (allM a b c k):=by
 obtain⟨j,rfl⟩:∃j,n=j+4:=⟨n - 4,by omega⟩;have i:wrap .i64 1=1:=rfl;have g:wrap .i64 2=2:=rfl;have f:wrap .i64 3=3:=rfl;have m:ix 3 0=some 0:=rfl;have e:ix 3 1=some 1:=rfl;have l:ix 3 2=some 2:=rfl;have hk':k=1\/k=2\/k=3:=by omega
 unfold allM;by_cases h:a>3
 ·rcases hk' with rfl | rfl | rfl<;>simp[bZ,av,di,dD,ob,i,g,f,m,e,l,h]
 by_cases p:b>3
 ·rcases hk' with rfl | rfl | rfl<;>simp[bZ,av,di,dD,ob,i,g,f,m,e,l,h,p]
 by_cases d:k=1/\b≠0
 ·obtain⟨rfl,d⟩:=d;have q:b>0:=by omega
  have r:(b != 0)=true:=by simp[d]
  simp[bZ,av,di,dD,ob,i,g,f,m,e,l,h,p,q,d,r]
 by_cases s:c>3
 ·rcases hk' with rfl | rfl | rfl<;>(try (simp at d;subst d))<;>simp[bZ,av,di,dD,ob,i,g,f,m,e,l,h,p,s]
 by_cases o:k<3/\c≠0
 ·have q:c>0:=by omega
  have r:(c != 0)=true:=by simp[o.2]
  rcases hk' with rfl | rfl | rfl<;>(try (simp at d;subst d))<;>simp at o<;>simp[bZ,av,di,dD,ob,i,g,f,m,e,l,h,p,s,q,o,r]
 rcases hk' with rfl | rfl | rfl<;>(try (simp at d;subst d))<;>(try (simp at o;subst o))<;>simp[bZ,av,di,dD,ob,i,g,f,m,e,l,h,p,s]
def V6(n:Nat)(u:3<n)(a b c:Int)(k:Nat)(v:1<=k/\k<=3)(w:0<=a)(t:0<=b)(hc:0<=c):
  bZ n [a,b,c] (k:Int)=some (allM a b c k)/\bW n [a,b,c] (k:Int)=some (allM a b c k):=by
 obtain⟨j,rfl⟩:∃j,n=j+4:=⟨n - 4,by omega⟩;have i:wrap .i64 1=1:=rfl;have g:wrap .i64 2=2:=rfl;have f:wrap .i64 3=3:=rfl;have m:ix 3 0=some 0:=rfl;have e:ix 3 1=some 1:=rfl;have l:ix 3 2=some 2:=rfl;have hk':k=1\/k=2\/k=3:=by omega
 unfold allM;by_cases h:a>3
 ·rcases hk' with rfl | rfl | rfl<;>constructor<;>simp[bW,bZ,av,dK,di,dD,ob,i,g,f,m,e,l,h]
 by_cases p:b>3
 ·rcases hk' with rfl | rfl | rfl<;>constructor<;>simp[bW,bZ,av,dK,di,dD,ob,i,g,f,m,e,l,h,p]
 by_cases d:k=1/\b≠0
 ·obtain⟨rfl,d⟩:=d;have q:b>0:=by omega
  have r:(b != 0)=true:=by simp[d]
  constructor<;>simp[bW,bZ,av,dK,di,dD,ob,i,g,f,m,e,l,h,p,q,d,r]
 by_cases s:c>3
 ·rcases hk' with rfl | rfl | rfl<;>(try (simp at d;subst d))<;>constructor<;>simp[bW,bZ,av,dK,di,dD,ob,i,g,f,m,e,l,h,p,s]
 by_cases o:k<3/\c≠0
 ·have q:c>0:=by omega
  have r:(c != 0)=true:=by simp[o.2]
  rcases hk' with rfl | rfl | rfl<;>(try (simp at d;subst d))<;>simp at o<;>constructor<;>simp[bW,bZ,av,dK,di,dD,ob,i,g,f,m,e,l,h,p,s,q,o,r]
 rcases hk' with rfl | rfl | rfl<;>(try (simp at d;subst d))<;>(try (simp at o;subst o))<;>constructor<;>simp[bW,bZ,av,dK,di,dD,ob,i,g,f,m,e,l,h,p,s]
def kx(m d:aa):1<=aR m d/\aR m d<=3:=by
 unfold aR;cases(m==[])<;>cases(d==[])<;>simp
def yrD(g l:Bool)(dg:aa)(x q:Int)(m:aa):Bool:=if okY g l dg x q then yrB g dg x q m else false
def chkD(g l:Bool)(dg:aa)(x q:Int)(m d:aa)(k0 k1 k2:Int):Int:=
 cond (!(yrD g l dg x q m)) 6 (cond (!(m==[])&&(!(decide (0<sea m))&&!(dW m 12))) 7
  (cond (!(d==[])&&((m==[])||(decide (0<sea m)||!(dW d 31)))) 8 (allM k0 k1 k2 (aR m d))))
def Sv(m:aa):0<=sea m:=by
 rcases pD m with h | ⟨j,a,rfl⟩
 ·omega
 ·rw[lO a];omega
def UQ(m:aa):(sea m==0)=!(decide (0<sea m)):=by
 have:=Sv m;by_cases h:sea m=0
 ·rw[h];rfl
 ·have a:0<sea m:=by omega
  rw[aL.2 h,au a];rfl
def Bl(n:Nat)(b:200<n)(g l:Bool)(dg:aa)(x q:Int)(m d:aa)(k0 k1 k2:Int)(a:m.length<=18)(p:dg.length<=100)(j:0<=k0)(e:0<=k1)(k:0<=k2):
  ju n g l dg x q m d k0 k1 k2=some (chkD g l dg x q m d k0 k1 k2):=by
 have hy:ga n g l dg x q m d k0 k1 k2=some (yrD g l dg x q m):=Fz n b g l dg x q m d k0 k1 k2 a p;have a1:dA n m 12=some (dW m 12):=E8 n (by omega) m 12 (by omega);have a2:dA n d 31=some (dW d 31):=E8 n (by omega) d 31 (by omega);have i:=GN n (by omega) k0 k1 k2 (aR m d) (kx m d) j e k;unfold ju chkD;rw[rS n g l dg x q m d k0 k1 k2 a,hy,a1,a2,uo n (by omega)];simp only[ob];rw[i];generalize yrD g l dg x q m=b1;generalize(m==[])=b2;generalize decide (0<sea m)=c;generalize dW m 12=h;generalize(d==[])=o;generalize dW d 31=f;cases b1<;>cases b2<;>cases c<;>cases h<;>cases o<;>cases f<;>rfl
def Gv(n:Nat)(a:200<n)(g l:Bool)(dg:aa)(x q:Int)(m d:aa)(k0 k1 k2:Int)(p:dg.length<=100)(j:0<=k0)(c:0<=k1)(k:0<=k2):
  kA n g l dg x q m d k0 k1 k2=some (chkD g l dg x q m d k0 k1 k2):=by
 have hy:jE n g l dg x q m d k0 k1 k2=some (if yrD g l dg x q m then 1 else 0):=by
  rw[PP n a g l dg x q m d k0 k1 k2 p];unfold yrD;by_cases h:okY g l dg x q
  ·simp only[h,kO,aQ]
  ·simp only[h,yR,aG];rfl
 have a1:dU n m 12=some (if dW m 12 then 1 else 0):=Jj n (by omega) m 12 (by omega);have a2:dU n d 31=some (if dW d 31 then 1 else 0):=Jj n (by omega) d 31 (by omega);have i:=(V6 n (by omega) k0 k1 k2 (aR m d) (kx m d) j c k).2;unfold kA chkD;rw[oc n (by omega) g l dg x q m d k0 k1 k2,hy,a1,a2,dr n];simp only[ob];rw[i,UQ];show cond ((if yrD g l dg x q m then(1:Int)else 0)==0) _ (cond _ (cond _ (cond _ _ (cond _ (cond _ _ (cond (decide (0<sea m)) _ _)) _)) (cond _ (cond _ _ (cond (decide (0<sea m)) _ _)) _)) (cond _ (cond _ _ (cond (decide (0<sea m)) _ _)) _))=_;generalize yrD g l dg x q m=b1;generalize(m==[])=b2;generalize decide (0<sea m)=b;generalize dW m 12=f;generalize(d==[])=o;generalize dW d 31=e;cases b1<;>cases b2<;>cases b<;>cases f<;>cases o<;>cases e<;>rfl
def Eg{g l:Bool}{dg:aa}{x q:Int}{m d:aa}{k0 k1 k2:Int}(h:chkD g l dg x q m d k0 k1 k2=0):yrD g l dg x q m=true/\(m=[]\/0<sea m\/dW m 12=true)/\(d=[]\/(m≠[]/\sea m=0/\dW d 31=true))/\allM k0 k1 k2 (aR m d)=0:=by
 have hs:=Sv m;unfold chkD at h;cases b1:yrD g l dg x q m with
 | false=>rw[b1]at h;exact absurd h (by simp)
 | true=>
  rw[b1]at h;simp only[dT,ah]at h;cases b2:(!(m==[])&&(!(decide (0<sea m))&&!(dW m 12)))with
  | true=>rw[b2]at h;exact absurd h (by simp)
  | false=>
   rw[b2]at h;simp only[ah]at h;cases c:(!(d==[])&&((m==[])||(decide (0<sea m)||!(dW d 31))))with
   | true=>rw[c]at h;exact absurd h (by simp)
   | false=>
    rw[c]at h;simp only[ah]at h;refine⟨rfl,?_,?_,h⟩
    ·by_cases a:m=[]
     ·exact .inl a
     ·by_cases b:0<sea m
      ·exact .inr (.inl b)
      ·simp[a,b]at b2;exact .inr (.inr b2)
    ·by_cases a:d=[]
     ·exact .inl a
     ·by_cases b:m=[]
      ·simp[a,b]at c
      ·by_cases e:0<sea m
       ·simp[a,b,e]at c
       ·simp[a,b,e]at c;exact .inr ⟨b,by omega,c⟩
def n8{s:aa}{g:Nat}(m:g<=31)(h:dW s g=true):s.length=2/\∀c∈s,isDX c=true:=by
 unfold dW at h;obtain⟨i,j,hi⟩:=tj.1 h;have e:i<g:=gS.1 j;have dig:∀k:Nat,k<10->isDX (UInt8.ofNat (48+k))=true:=by decide
 have d:isDX 88=true:=by decide
 match s,hi with
 | [],hi=>simp[agr]at hi
 | [_],hi=>simp[agr]at hi
 | [a,b],hi=>
  refine⟨rfl,?_⟩;simp only[agr,aA,iG,bu]at hi;obtain⟨l,f⟩:=hi;intro c hc;simp only[cN,pC,qw]at hc;rcases hc with rfl | rfl
  ·rcases l with rfl | rfl
   ·exact d
   ·exact dig _ (by omega)
  ·rcases f with rfl | rfl
   ·exact d
   ·exact dig _ (by omega)
 | _::_::_::_,hi=>simp[agr]at hi
def Gh{m:aa}(h:0<sea m):m.length=2/\∀c∈m,isDX c=true:=by
 rcases pD m with b | ⟨j,a,rfl⟩
 ·omega
 ·refine⟨rfl,?_⟩;have:((List.range 21).all λj=>(two (21+j)).all isDX)=true:=by decide +kernel
  have:=(bO.1 this) j (by simpa using a);exact bO.1 this
def mt(k:Nat):aa:=if k=1 then[63]else if k=2 then[126]else if k=3 then[37]else[]
def mkOf(c:UInt8):Nat:=if c=63 then 1 else if c=126 then 2 else if c=37 then 3 else 0
def XK(k a b c:Nat):Bool:=(decide (k<2)||b==a)&&(decide (k<3)||c==a)
def plA(k a b c:Nat):Nat×Nat×Nat:=if XK k a b c then(0,0,0)else(a,b,c)
def plB(k a b c:Nat):Nat×Nat×Nat:=if XK k a b c then(if k=1 then(a,0,0)else if k=2 then(0,a,0)else(0,0,a))else(0,0,0)
def l3(p:Nat×Nat×Nat):List Int:=[(p.1:Int),(p.2.1:Int),(p.2.2:Int)]
def spM(A B:Nat×Nat×Nat):Nat×Nat×Nat:=(A.1 ||| B.1 ||| B.2.1 ||| B.2.2,A.2.1 ||| B.2.1 ||| B.2.2,A.2.2 ||| B.2.2)
def S5(n k:Nat)(h:k<4):qj n (k:Int)=some (mt k,0):=by
 have:k=0\/k=1\/k=2\/k=3:=by omega
 rcases this with rfl | rfl | rfl | rfl<;>exact rfl
def CX(n k:Nat)(h:k<4):qj n (k:Int)=some (mt k,0)/\aJ n (k:Int)=some (mt k):=by
 have:k=0\/k=1\/k=2\/k=3:=by omega
 rcases this with rfl | rfl | rfl | rfl<;>exact⟨rfl,rfl⟩
noncomputable def Sm(m j:Nat):Bool:=
 qO (m+300) (j:Int)==some (((mkOf (UInt8.ofNat j):Nat):Int),decide (0<mkOf (UInt8.ofNat j)))
def OJ(m:Nat):(List.range 256).all (Sm m)=true:=by kernel_rfl
def RR(m:Nat)(c:UInt8):qO (m+300) ((c.toNat:Nat):Int)=some (((mkOf c:Nat):Int),decide (0<mkOf c)):=by
 have h:=(bO.1 (OJ m)) c.toNat (gS.2 c.toNat_lt);unfold Sm at h;rw[show UInt8.ofNat c.toNat=c by simp]at h;simp only[bu]at h;exact h
noncomputable def K8(m k a b c:Nat):Bool:=
 (mg (m+300) [(a:Int),(b:Int),(c:Int)] (k:Int)==some (l3 (plA k a b c),l3 (plB k a b c),0))&&(kG (m+300) [(a:Int),(b:Int),(c:Int)] (k:Int)==some (l3 (plA k a b c),l3 (plB k a b c)))
def Ye(m:Nat):((List.range 4).all λa=>K8 m 1 a 0 0)=true:=by kernel_rfl
def Yi(m:Nat):((List.range 4).all λa=>(List.range 4).all λb=>K8 m 2 a b 0)=true:=by kernel_rfl
def XT(m:Nat):((List.range 4).all λa=>(List.range 4).all λb=>(List.range 4).all λc=>K8 m 3 a b c)=true:=by kernel_rfl
def r4{p:Nat->Bool}(h:(List.range 4).all p=true){a:Nat}(b:a<4):p a=true:=(bO.1 h) a (gS.2 b)
noncomputable def Ey(m k a b c:Nat):Bool:=
 mg (m+300) [(a:Int),(b:Int),(c:Int)] (k:Int)==some (l3 (plA k a b c),l3 (plB k a b c),0)
def VM(m:Nat):((List.range 4).all λa=>Ey m 1 a 0 0)=true:=by kernel_rfl
def TU(m:Nat):((List.range 4).all λa=>(List.range 4).all λb=>Ey m 2 a b 0)=true:=by kernel_rfl
def UE(m:Nat):((List.range 4).all λa=>(List.range 4).all λb=>(List.range 4).all λc=>Ey m 3 a b c)=true:=by kernel_rfl
def WV(m k a b c:Nat)(i:1<=k/\k<=3)(d:a<4)(e:b<4)(hc:c<4)(g:k<2->b=0)(f:k<3->c=0):
  mg (m+300) [(a:Int),(b:Int),(c:Int)] (k:Int)=some (l3 (plA k a b c),l3 (plB k a b c),0):=by
 have h:Ey m k a b c=true:=by
  have:k=1\/k=2\/k=3:=by omega
  rcases this with rfl | rfl | rfl
  ·rw[g (by omega),f (by omega)];exact r4 (VM m) d
  ·rw[f (by omega)];exact r4 (r4 (TU m) d) e
  ·exact r4 (r4 (r4 (UE m) d) e) hc
 unfold Ey at h;simp only[bu]at h;exact h
def Y6(m k a b c:Nat)(i:1<=k/\k<=3)(d:a<4)(e:b<4)(hc:c<4)(g:k<2->b=0)(f:k<3->c=0):
  mg (m+300) [(a:Int),(b:Int),(c:Int)] (k:Int)=some (l3 (plA k a b c),l3 (plB k a b c),0)/\kG (m+300) [(a:Int),(b:Int),(c:Int)] (k:Int)=some (l3 (plA k a b c),l3 (plB k a b c)):=by
 have h:K8 m k a b c=true:=by
  have:k=1\/k=2\/k=3:=by omega
  rcases this with rfl | rfl | rfl
  ·rw[g (by omega),f (by omega)];exact r4 (Ye m) d
  ·rw[f (by omega)];exact r4 (r4 (Yi m) d) e
  ·exact r4 (r4 (r4 (XT m) d) e) hc
 unfold K8 at h;simp only[aA,bu]at h;exact h
def Up{k a b c:Nat}(d:a<4)(e:b<4)(hc:c<4):(plA k a b c).1<4/\(plA k a b c).2.1<4/\(plA k a b c).2.2<4/\(plB k a b c).1<4/\(plB k a b c).2.1<4/\(plB k a b c).2.2<4:=by
 unfold plA plB;split
 ·split
  ·simp[d]
  ·split<;>simp[d]
 ·simp[d,e,hc]
def inM(k:Nat)(A:Nat×Nat×Nat):Prop:=A.1<4/\A.2.1<4/\A.2.2<4/\(k<2->A.2.1=0)/\(k<3->A.2.2=0)
def vk{k:Nat}{A:Nat×Nat×Nat}(h:inM k A):allM (A.1:Int) (A.2.1:Int) (A.2.2:Int) k=0:=by
 obtain⟨c,a,d,b,e⟩:=h;unfold allM;rw[ae (by omega)]
def or4{a b:Nat}(d:a<4)(c:b<4):bits .or .u8 (a:Int) (b:Int)=((a ||| b:Nat):Int)/\a ||| b<4:=by
 have:((List.range 4).all λa=>(List.range 4).all λb=>bits .or .u8 (a:Int) (b:Int)==((a ||| b:Nat):Int)&&decide (a ||| b<4))=true:=by decide +kernel
 have:=r4 (r4 this d) c;simpa using this
def xP(n:Nat)(w:9<n)(k:Nat)(A B:Nat×Nat×Nat)(q:1<=k/\k<=3)(l:inM k A)(s:inM k B):eW n (l3 A) (l3 B) (k:Int)=some (l3 (spM A B),0):=by
 obtain⟨n,rfl⟩:∃j,n=j+5:=⟨n - 5,by omega⟩;have m:=GN (n+5) (by omega) (A.1:Int) (A.2.1:Int) (A.2.2:Int) k q (by omega) (by omega) (by omega);have r:=GN (n+5) (by omega) (B.1:Int) (B.2.1:Int) (B.2.2:Int) k q (by omega) (by omega) (by omega);rw[vk l]at m;rw[vk s]at r;have g:∀x:Nat,x<4->bits .or .u8 0 (x:Int)=(x:Int):=λx hx=>by
  have:=(or4 (show 0<4 by omega) hx).1;simpa using this
 have a:∀x y:Nat,x<4->y<4->bits .or .u8 (x:Int) (y:Int)=((x ||| y:Nat):Int):=λx y hx hy=>(or4 hx hy).1;have e:∀x y:Nat,x<4->y<4->x ||| y<4:=λx y hx hy=>(or4 hx hy).2;unfold eW;show ob (bZ (n+5) [(A.1:Int),(A.2.1:Int),(A.2.2:Int)] (k:Int)) _=_;rw[m];show ob (bZ (n+5) [(B.1:Int),(B.2.1:Int),(B.2.2:Int)] (k:Int)) _=_;rw[r];obtain⟨a0,a1,a2⟩:=A;obtain⟨b0,b1,b2⟩:=B;obtain⟨g0,h,t,o,i⟩:=l;obtain⟨d,b,c,p,f⟩:=s;simp only at g0 h t o i d b c p f;have hk':k=1\/k=2\/k=3:=by omega
 rcases hk' with rfl | rfl | rfl
 ·obtain rfl:=o (by omega);obtain rfl:=i (by omega);obtain rfl:=p (by omega);obtain rfl:=f (by omega);show some (([bits .or .u8 (a0:Int) (bits .or .u8 0 (b0:Int)),0,0]:List Int),(0:Int))=_;rw[g b0 d,a _ _ g0 d];simp[l3,spM]
 ·obtain rfl:=i (by omega);obtain rfl:=f (by omega);show some (([bits .or .u8 (a0:Int) (bits .or .u8 (bits .or .u8 0 (b1:Int)) (b0:Int)),bits .or .u8 (a1:Int) (bits .or .u8 0 (b1:Int)),0]:List Int),(0:Int))=_;rw[g b1 b,a _ _ b d,a _ _ g0 (e _ _ b d),a _ _ h b];simp[l3,spM,Nat.or_assoc,Cf b1 b0]
 ·show some (([bits .or .u8 (a0:Int) (bits .or .u8 (bits .or .u8 (bits .or .u8 0 (b2:Int)) (b1:Int)) (b0:Int)),bits .or .u8 (a1:Int) (bits .or .u8 (bits .or .u8 0 (b2:Int)) (b1:Int)),bits .or .u8 (a2:Int) (bits .or .u8 0 (b2:Int))]:List Int),(0:Int))=_;rw[g b2 c,a _ _ c b,a _ _ (e _ _ c b) d,a _ _ g0 (e _ _ (e _ _ c b) d),a _ _ h (e _ _ c b),a _ _ t c];have u:a0 ||| (b2 ||| b1 ||| b0)=a0 ||| b0 ||| b1 ||| b2:=by rw[Cf (b2 ||| b1) b0,Cf b2 b1];simp only[Nat.or_assoc]
  have v:a1 ||| (b2 ||| b1)=a1 ||| b1 ||| b2:=by rw[Cf b2 b1];simp only[Nat.or_assoc]
  rw[u,v];rfl
abbrev cI(x:Nat):Int:=(x:Int)
def bt(b a:Nat):Nat:=if b=1 then a%2 else a / 2%2
def RX(n:Nat){a b:Nat}(d:a<4)(c:b=1\/b=2):jl n (a:Int) (b:Int)=some ((bt b a:Nat):Int):=by
 have h:a=0\/a=1\/a=2\/a=3:=by omega
 rcases h with rfl | rfl | rfl | rfl<;>rcases c with rfl | rfl<;>rfl
def Us(b a:Nat):bt b a<=1:=by unfold bt;split<;>omega
def bts(b:Nat):List Nat->Nat
 | []=>0
 | x::l=>bt b x+bts b l
def Za(n k b i:Nat)(g:b=1\/b=2)(p:k<=3)(A X Y:List Int)(bl:List Nat)(q:bl.length=3)(o:∀x∈bl,x<4):∀(r j acc:Nat),j+r=k->acc<=j+1->∀N,r<N->
  av (co n) N ((k:Int),(b:Int),(i:Int),(acc:Int),(j:Int),A,bl.map cI,X,Y)=some ((k:Int),(b:Int),(i:Int),((acc+bts b ((bl.take k).drop j):Nat):Int),A,bl.map cI,X,Y):=by
 intro r
 induction r with
 | zero=>
  intro j acc m a N l;obtain⟨N,rfl⟩:∃k,N=k+1:=⟨N - 1,by omega⟩;have s:co n ((k:Int),(b:Int),(i:Int),(acc:Int),(j:Int),A,bl.map cI,X,Y)=some (.inr ((k:Int),(b:Int),(i:Int),(acc:Int),A,bl.map cI,X,Y)):=by
   unfold co;rw[bG,ae (show¬((j:Int)<(k:Int))by omega)]
  have e:(bl.take k).drop j=[]:=l9 (by rw[cS];omega);rw[av,s,e];rfl
 | succ r ih=>
  intro j acc m a N l;obtain⟨N,rfl⟩:∃k,N=k+1:=⟨N - 1,by omega⟩;have c:j<bl.length:=by omega
  obtain⟨x,hx⟩:∃x,bl[j]?=some x:=⟨bl[j],bq c⟩;have d:(bl.map cI)[j]?=some (x:Int):=by rw[nF,hx];rfl
  have f:=o x (fh hx);have w:wrap .i64 ((acc:Int)+((bt b x:Nat):Int))=((acc+bt b x:Nat):Int):=by have:=Us b x;rw[wrap_i64 _ (by omega) (by omega)];omega
  have h:wrap .i64 ((j:Int)+1)=((j+1:Nat):Int):=by rw[wrap_i64 _ (by omega) (by omega)];omega
  have s:co n ((k:Int),(b:Int),(i:Int),(acc:Int),(j:Int),A,bl.map cI,X,Y)=some (.inl ((k:Int),(b:Int),(i:Int),((acc+bt b x:Nat):Int),((j+1:Nat):Int),A,bl.map cI,X,Y)):=by
   unfold co;rw[bG,af (show(j:Int)<(k:Int)by omega)];show ob (ix 3 (j:Int)) _=_;rw[cG (show j<3 by omega)];show ob ((bl.map cI)[j]?) _=_;rw[d];show ob (jl n (x:Int) (b:Int)) _=_;rw[RX n f g];show some (Sum.inl ((k:Int),(b:Int),(i:Int),wrap .i64 ((acc:Int)+((bt b x:Nat):Int)),wrap .i64 ((j:Int)+1),_))=_;rw[w,h]
  have e:(bl.take k).drop j=x::(bl.take k).drop (j+1):=gg (by rw[ma (by omega)];exact hx);rw[av,s];have:=Us b x;show av _ N _=_;rw[ih (j+1) (acc+bt b x) (by omega) (by omega) N (by omega),e];simp only[bts,gR]
def hit(k b i:Nat)(al bl:List Nat):Bool:=decide (0<bt b (al.getD i 0)+bts b ((bl.take k).drop i))
def Zb(n k b i:Nat)(t:9<n)(f:b=1\/b=2)(h:k<=3)(hi:i<k)(X:List Int)(al bl:List Nat)(u:al.length=3)(l:bl.length=3)(s:∀x∈al,x<4)(r:∀x∈bl,x<4)(out:List Int)(o:Int)(q:out[i]?=some o):
  bD n ((k:Int),(b:Int),(i:Int),al.map cI,bl.map cI,X,out)=some (.inl ((k:Int),(b:Int),((i+1:Nat):Int),al.map cI,bl.map cI,X,cond (hit k b i al bl) (out.set i (wrap .u8 (o+(b:Int)))) out)):=by
 obtain⟨x,hx⟩:∃x,al[i]?=some x:=⟨al[i],bq (by omega)⟩;have a:(al.map cI)[i]?=some (x:Int):=by rw[nF,hx];rfl
 have c:=s x (fh hx);have p:=Us b x;have g:wrap .i64 ((i:Int)+1)=((i+1:Nat):Int):=by rw[wrap_i64 _ (by omega) (by omega)];omega
 have d:=Za n k b i f h (al.map cI) X out bl l r (k - i) i (bt b x) (by omega) (by omega) n (by omega);unfold bD;rw[bG,af (show(i:Int)<(k:Int)by omega)];show ob (ix 3 (i:Int)) _=_;rw[cG (show i<3 by omega)];show ob ((al.map cI)[i]?) _=_;rw[a];show ob (jl n (x:Int) (b:Int)) _=_;rw[RX n c f];show ob (av (co n) n ((k:Int),(b:Int),(i:Int),((bt b x:Nat):Int),(i:Int),al.map cI,bl.map cI,X,out)) _=_;rw[d];have m:hit k b i al bl=decide (((bt b x+bts b ((bl.take k).drop i):Nat):Int)>0):=by
  unfold hit;rw[Fo,hx];rw[oN];simp only[yf];omega
 rw[m];show cond (decide (((bt b x+bts b ((bl.take k).drop i):Nat):Int)>0)) (ob (ix 3 (i:Int)) λj=>ob (out[j]?) λy=>ob (ix 3 (i:Int)) λj2=>cond (Nat.blt j2 3) (some (Sum.inl ((k:Int),(b:Int),wrap .i64 ((i:Int)+1),al.map cI,bl.map cI,X,out.set j2 (wrap .u8 (y+(b:Int)))))) none) (some (Sum.inl ((k:Int),(b:Int),wrap .i64 ((i:Int)+1),al.map cI,bl.map cI,X,out)))=_;rw[cG (show i<3 by omega),g];have e:Nat.blt i 3=true:=cr (by omega);simp only[ob,q,e,aj];cases decide (((bt b x+bts b ((bl.take k).drop i):Nat):Int)>0)<;>rfl
def addB(k b:Nat)(al bl:List Nat)(o:List Int):List Int:=[cond (decide (0<k)&&hit k b 0 al bl) (wrap .u8 (o.getD 0 0+(b:Int))) (o.getD 0 0),cond (decide (1<k)&&hit k b 1 al bl) (wrap .u8 (o.getD 1 0+(b:Int))) (o.getD 1 0),cond (decide (2<k)&&hit k b 2 al bl) (wrap .u8 (o.getD 2 0+(b:Int))) (o.getD 2 0)]
def Qr(n k b:Nat)(f:9<n)(g:b=1\/b=2)(h:1<=k/\k<=3)(X:List Int)(al bl:List Nat)(m:al.length=3)(l:bl.length=3)(q:∀x∈al,x<4)(p:∀x∈bl,x<4)(e o1 d:Int):
  av (bD n) n ((k:Int),(b:Int),0,al.map cI,bl.map cI,X,[e,o1,d])=some ((k:Int),(b:Int),al.map cI,bl.map cI,X,addB k b al bl [e,o1,d]):=by
 obtain⟨n,rfl⟩:∃j,n=j+5:=⟨n - 5,by omega⟩;have fin:∀(N:Nat) (out:List Int),av (bD (n+5)) (N+1) ((k:Int),(b:Int),((k:Nat):Int),al.map cI,bl.map cI,X,out)=some ((k:Int),(b:Int),al.map cI,bl.map cI,X,out):=λN out=>by
  rw[av];have:bD (n+5) ((k:Int),(b:Int),((k:Nat):Int),al.map cI,bl.map cI,X,out)=some (.inr ((k:Int),(b:Int),al.map cI,bl.map cI,X,out)):=by
   unfold bD;rw[bG,ae (show¬((k:Int)<(k:Int))by omega)]
  rw[this]
 have c:=λ(i:Nat) (hi:i<k) (out:List Int) (o:Int) (ho:out[i]?=some o)=>Zb (n+5) k b i f g h.2 hi X al bl m l q p out o ho;have hk':k=1\/k=2\/k=3:=by omega
 have a:=c 0 (by omega) [e,o1,d] e rfl;rcases hk' with rfl | rfl | rfl
 ·rw[av];rw[show((0:Nat):Int)=0 from rfl]at a;rw[a];show av _ (n+3+1) (((1:Nat):Int),(b:Int),((1:Nat):Int),_)=_;rw[fin];unfold addB;cases hit 1 b 0 al bl<;>rfl
 ·rw[av];rw[show((0:Nat):Int)=0 from rfl]at a;rw[a];show av _ (n+4) (((2:Nat):Int),(b:Int),((1:Nat):Int),_)=_;rw[av,c 1 (by omega) _ o1 (by cases hit 2 b 0 al bl<;>rfl)];show av _ (n+2+1) (((2:Nat):Int),(b:Int),((2:Nat):Int),_)=_;rw[fin];unfold addB;cases hit 2 b 0 al bl<;>cases hit 2 b 1 al bl<;>rfl
 ·rw[av];rw[show((0:Nat):Int)=0 from rfl]at a;rw[a];show av _ (n+4) (((3:Nat):Int),(b:Int),((1:Nat):Int),_)=_;rw[av,c 1 (by omega) _ o1 (by cases hit 3 b 0 al bl<;>rfl)];show av _ (n+3) (((3:Nat):Int),(b:Int),((2:Nat):Int),_)=_;rw[av,c 2 (by omega) _ d (by cases hit 3 b 0 al bl<;>cases hit 3 b 1 al bl<;>rfl)];show av _ (n+1+1) (((3:Nat):Int),(b:Int),((3:Nat):Int),_)=_;rw[fin];unfold addB;cases hit 3 b 0 al bl<;>cases hit 3 b 1 al bl<;>cases hit 3 b 2 al bl<;>rfl
def lN(p:Nat×Nat×Nat):List Nat:=[p.1,p.2.1,p.2.2]
def rN{x y:Nat}(hx:x<4)(hy:y<4)(b:Nat)(d:b=1\/b=2):decide (0<bt b (x ||| y))=decide (0<bt b x+bt b y):=by
 have:((List.range 4).all λa=>(List.range 4).all λc=>(decide (0<bt 1 (a ||| c))==decide (0<bt 1 a+bt 1 c))&&(decide (0<bt 2 (a ||| c))==decide (0<bt 2 a+bt 2 c)))=true:=by decide +kernel
 have:=r4 (r4 this hx) hy;simp only[aA,bu]at this;rcases d with rfl | rfl
 ·exact this.1
 ·exact this.2
def sC{x:Nat}(hx:x<4):cond (decide (0<bt 2 x)) (wrap .u8 (cond (decide (0<bt 1 x)) (wrap .u8 (0+((1:Nat):Int))) 0+((2:Nat):Int))) (cond (decide (0<bt 1 x)) (wrap .u8 (0+((1:Nat):Int))) 0)=(x:Int):=by
 have h:x=0\/x=1\/x=2\/x=3:=by omega
 rcases h with rfl | rfl | rfl | rfl<;>decide
def J8(n:Nat)(N:9<n)(k:Nat)(A B:Nat×Nat×Nat)(J:1<=k/\k<=3)(E:inM k A)(O:inM k B):eO n (l3 A) (l3 B) (k:Int)=some (l3 (spM A B)):=by
 obtain⟨a0,a1,a2⟩:=A;obtain⟨b0,b1,b2⟩:=B;obtain⟨g0,m,u,v,t⟩:=E;obtain⟨f,d,l,w,s⟩:=O;simp only at g0 m u v t f d l w s;have c:∀x y:Nat,x<4->y<4->x ||| y<4:=λx y hx hy=>(or4 hx hy).2;have F:∀x∈lN (a0,a1,a2),x<4:=by
  intro x hx;simp only[lN,cN,pC,qw]at hx;rcases hx with rfl | rfl | rfl<;>assumption
 have D:∀x∈lN (b0,b1,b2),x<4:=by
  intro x hx;simp only[lN,cN,pC,qw]at hx;rcases hx with rfl | rfl | rfl<;>assumption
 have run:=λ(b:Nat) (a:b=1\/b=2) (o0 o1 o2:Int)=>Qr n k b N a J [0,0,0] (lN (a0,a1,a2)) (lN (b0,b1,b2)) rfl rfl F D o0 o1 o2;have C:=run 1 (.inl rfl) 0 0 0;obtain⟨h,g,i,hp⟩:∃h g i,addB k 1 (lN (a0,a1,a2)) (lN (b0,b1,b2)) [0,0,0]=[h,g,i]:=⟨_,_,_,rfl⟩;have I:=run 2 (.inr rfl) h g i;rw[hp]at C;obtain⟨n,rfl⟩:∃j,n=j+5:=⟨n - 5,by omega⟩;have L:db (n+5) ((k:Int),1,l3 (a0,a1,a2),l3 (b0,b1,b2),[0,0,0],[0,0,0])=some (.inl ((k:Int),2,l3 (a0,a1,a2),l3 (b0,b1,b2),[0,0,0],[h,g,i])):=by
  unfold db;show cond (decide ((1:Int)<=2)) (ob (av (bD (n+5)) (n+5) ((k:Int),((1:Nat):Int),0,(lN (a0,a1,a2)).map cI,(lN (b0,b1,b2)).map cI,[0,0,0],[0,0,0])) _) _=_;rw[C];rfl
 have K:db (n+5) ((k:Int),2,l3 (a0,a1,a2),l3 (b0,b1,b2),[0,0,0],[h,g,i])=some (.inl ((k:Int),3,l3 (a0,a1,a2),l3 (b0,b1,b2),[0,0,0],addB k 2 (lN (a0,a1,a2)) (lN (b0,b1,b2)) [h,g,i])):=by
  unfold db;show cond (decide ((2:Int)<=2)) (ob (av (bD (n+5)) (n+5) ((k:Int),((2:Nat):Int),0,(lN (a0,a1,a2)).map cI,(lN (b0,b1,b2)).map cI,[0,0,0],[h,g,i])) _) _=_;rw[I];rfl
 have H:∀out:List Int,db (n+5) ((k:Int),3,l3 (a0,a1,a2),l3 (b0,b1,b2),[0,0,0],out)=some (.inr ([0,0,0],out)):=λout=>rfl;unfold eO;rw[av,L];show ob (av _ (n+4) _) _=_;rw[av,K];show ob (av _ (n+3) _) _=_;rw[av,H];show some (addB k 2 (lN (a0,a1,a2)) (lN (b0,b1,b2)) [h,g,i])=_;rw[<-hp];have hk':k=1\/k=2\/k=3:=by omega
 have G:=λ(x y:Nat) (hx:x<4) (hy:y<4) (b:Nat) (a:b=1\/b=2)=>rN hx hy b a;rcases hk' with rfl | rfl | rfl
 ·obtain rfl:=v (by omega);obtain rfl:=t (by omega);obtain rfl:=w (by omega);obtain rfl:=s (by omega);have e:∀b,b=1\/b=2->hit 1 b 0 (lN (a0,0,0)) (lN (b0,0,0))=decide (0<bt b (a0 ||| b0)):=λb a=>by rw[rN g0 f b a];rfl
  show some [cond (hit 1 2 0 (lN (a0,0,0)) (lN (b0,0,0))) (wrap .u8 (cond (hit 1 1 0 (lN (a0,0,0)) (lN (b0,0,0))) (wrap .u8 (0+((1:Nat):Int))) 0+((2:Nat):Int))) (cond (hit 1 1 0 (lN (a0,0,0)) (lN (b0,0,0))) (wrap .u8 (0+((1:Nat):Int))) 0),0,0]=_;rw[e 1 (.inl rfl),e 2 (.inr rfl),sC (c _ _ g0 f)];simp[l3,spM]
 ·obtain rfl:=t (by omega);obtain rfl:=s (by omega);have q:∀b,b=1\/b=2->hit 2 b 1 (lN (a0,a1,0)) (lN (b0,b1,0))=decide (0<bt b (a1 ||| b1)):=λb a=>by rw[rN m d b a];rfl
  have o:∀b,b=1\/b=2->hit 2 b 0 (lN (a0,a1,0)) (lN (b0,b1,0))=decide (0<bt b (a0 ||| b0 ||| b1)):=λb a=>by
   have p:=rN (c _ _ g0 f) d b a;have r:=rN g0 f b a;rw[p];have:hit 2 b 0 (lN (a0,a1,0)) (lN (b0,b1,0))=decide (0<bt b a0+(bt b b0+(bt b b1+0))):=rfl;rw[this];simp only[oN]at r ⊢;omega
  show some [cond (hit 2 2 0 (lN (a0,a1,0)) (lN (b0,b1,0))) (wrap .u8 (cond (hit 2 1 0 (lN (a0,a1,0)) (lN (b0,b1,0))) (wrap .u8 (0+((1:Nat):Int))) 0+((2:Nat):Int))) (cond (hit 2 1 0 (lN (a0,a1,0)) (lN (b0,b1,0))) (wrap .u8 (0+((1:Nat):Int))) 0),cond (hit 2 2 1 (lN (a0,a1,0)) (lN (b0,b1,0))) (wrap .u8 (cond (hit 2 1 1 (lN (a0,a1,0)) (lN (b0,b1,0))) (wrap .u8 (0+((1:Nat):Int))) 0+((2:Nat):Int))) (cond (hit 2 1 1 (lN (a0,a1,0)) (lN (b0,b1,0))) (wrap .u8 (0+((1:Nat):Int))) 0),0]=_;rw[o 1 (.inl rfl),o 2 (.inr rfl),q 1 (.inl rfl),q 2 (.inr rfl),sC (c _ _ (c _ _ g0 f) d),sC (c _ _ m d)];simp[l3,spM]
 ·have z:∀b,b=1\/b=2->hit 3 b 2 (lN (a0,a1,a2)) (lN (b0,b1,b2))=decide (0<bt b (a2 ||| b2)):=λb a=>by rw[rN u l b a];rfl
  have q:∀b,b=1\/b=2->hit 3 b 1 (lN (a0,a1,a2)) (lN (b0,b1,b2))=decide (0<bt b (a1 ||| b1 ||| b2)):=λb a=>by
   have p:=rN (c _ _ m d) l b a;have r:=rN m d b a;rw[p];have:hit 3 b 1 (lN (a0,a1,a2)) (lN (b0,b1,b2))=decide (0<bt b a1+(bt b b1+(bt b b2+0))):=rfl;rw[this];simp only[oN]at r ⊢;omega
  have o:∀b,b=1\/b=2->hit 3 b 0 (lN (a0,a1,a2)) (lN (b0,b1,b2))=decide (0<bt b (a0 ||| b0 ||| b1 ||| b2)):=λb a=>by
   have p:=rN (c _ _ (c _ _ g0 f) d) l b a;have r:=rN (c _ _ g0 f) d b a;have M:=rN g0 f b a;rw[p];have:hit 3 b 0 (lN (a0,a1,a2)) (lN (b0,b1,b2))=decide (0<bt b a0+(bt b b0+(bt b b1+(bt b b2+0)))):=rfl;rw[this];simp only[oN]at r M ⊢;omega
  show some [cond (hit 3 2 0 (lN (a0,a1,a2)) (lN (b0,b1,b2))) (wrap .u8 (cond (hit 3 1 0 (lN (a0,a1,a2)) (lN (b0,b1,b2))) (wrap .u8 (0+((1:Nat):Int))) 0+((2:Nat):Int))) (cond (hit 3 1 0 (lN (a0,a1,a2)) (lN (b0,b1,b2))) (wrap .u8 (0+((1:Nat):Int))) 0),cond (hit 3 2 1 (lN (a0,a1,a2)) (lN (b0,b1,b2))) (wrap .u8 (cond (hit 3 1 1 (lN (a0,a1,a2)) (lN (b0,b1,b2))) (wrap .u8 (0+((1:Nat):Int))) 0+((2:Nat):Int))) (cond (hit 3 1 1 (lN (a0,a1,a2)) (lN (b0,b1,b2))) (wrap .u8 (0+((1:Nat):Int))) 0),cond (hit 3 2 2 (lN (a0,a1,a2)) (lN (b0,b1,b2))) (wrap .u8 (cond (hit 3 1 2 (lN (a0,a1,a2)) (lN (b0,b1,b2))) (wrap .u8 (0+((1:Nat):Int))) 0+((2:Nat):Int))) (cond (hit 3 1 2 (lN (a0,a1,a2)) (lN (b0,b1,b2))) (wrap .u8 (0+((1:Nat):Int))) 0)]=_;rw[o 1 (.inl rfl),o 2 (.inr rfl),q 1 (.inl rfl),q 2 (.inr rfl),z 1 (.inl rfl),z 2 (.inr rfl),sC (c _ _ (c _ _ (c _ _ g0 f) d) l),sC (c _ _ (c _ _ m d) l),sC (c _ _ u l)];rfl
def OI(k a b c:Nat):Bool:=spM (plA k a b c) (plB k a b c)==(a,b,c)
def Wp:((List.range 4).all λa=>OI 1 a 0 0)=true:=by decide +kernel
def Xq:((List.range 4).all λa=>(List.range 4).all λb=>OI 2 a b 0)=true:=by decide +kernel
def VS:((List.range 4).all λa=>(List.range 4).all λb=>(List.range 4).all λc=>OI 3 a b c)=true:=by decide +kernel
def Zk(k a b c:Nat)(i:1<=k/\k<=3)(d:a<4)(e:b<4)(hc:c<4)(g:k<2->b=0)(f:k<3->c=0):spM (plA k a b c) (plB k a b c)=(a,b,c):=by
 have h:OI k a b c=true:=by
  have:k=1\/k=2\/k=3:=by omega
  rcases this with rfl | rfl | rfl
  ·rw[g (by omega),f (by omega)];exact r4 Wp d
  ·rw[f (by omega)];exact r4 (r4 Xq d) e
  ·exact r4 (r4 (r4 VS d) e) hc
 unfold OI at h;exact bu.1 h
def mkS(l:aa):Nat:=match l with | []=>0 | c::_=>mkOf c
def mkN(l:aa):Nat:=if mkS l=0 then 0 else 1
def twoN(l:aa):Nat:=cR isDX 2 l
def Ue(c:UInt8):mkOf c<4:=by
 unfold mkOf;split
 ·omega
 ·split
  ·omega
  ·split<;>omega
def HG(l:aa):mkS l<4:=by
 cases l with
 | nil=>show 0<4;omega
 | cons c r=>exact Ue c
def Xc(l:aa):mkN l<=l.length:=by
 cases l with
 | nil=>exact bg 0
 | cons c r=>
  unfold mkN;split<;>simp
def Vo(c:UInt8):hasB [63,126,37] c=decide (0<mkOf c):=by
 have:=jG (λc=>hasB [63,126,37] c==decide (0<mkOf c)) (by decide +kernel) c;simpa using this
def TM(m:Nat)(S:aa)(a:Nat)(h:a<=S.length)(i:S.length<100000):
  cP (m+300) S (a:Int)=some (.inr (((mkS (S.drop a):Nat):Int),S,((a+mkN (S.drop a):Nat):Int))):=by
 unfold cP;rw[qI (m+300) S a h];cases g:S.drop a with
 | nil=>
  have f:qO (m+300) 0=some (0,false):=by kernel_rfl
  show ob (qO (m+300) 0) _=_;rw[f];rfl
 | cons c r=>
  show ob (qO (m+300) ((c.toNat:Nat):Int)) _=_;rw[RR m c];show cond (decide (0<mkOf c)) _ _=_;have b:mkS (c::r)=mkOf c:=rfl;by_cases hc:0<mkOf c
  ·rw[au hc];show ob (cw (m+300) [63,126,37] S (a:Int)) _=_;rw[B9 (m+300) _ S a h (by omega),g];have e:hasB [63,126,37] c=true:=by rw[Vo,au hc]
   have d:mkN (c::r)=1:=by unfold mkN;rw[b,ae (by omega)]
   rw[b,d];simp only[e,aQ,ob]
  ·rw[aw hc];have d:mkN (c::r)=0:=by unfold mkN;rw[b,af (by omega)]
   rw[b,d];rfl
def SL(n:Nat)(S:aa)(a:Nat)(h:a<=S.length)(i:S.length<100000)(d:S.length<n):
  jg n S (a:Int)=some (if twoN (S.drop a)<2 then .inl (((a+twoN (S.drop a):Nat):Int),5,S,((a+twoN (S.drop a):Nat):Int))else .inr ((S.drop a).take 2,S,((a+2:Nat):Int))):=by
 unfold jg;rw[wM n _ 2 2 S a h (by omega) d];have e:cR (hasB [88,48,49,50,51,52,53,54,55,56,57]) (2:Int).toNat (S.drop a)=twoN (S.drop a):=by
  unfold twoN;have g:(2:Int).toNat=2:=rfl;rw[g];exact ou (λc=>by rw[vd];rfl) _ _
 rw[e];by_cases b:twoN (S.drop a)<2
 ·rw[af b,af (by omega)];rfl
 ·have f:twoN (S.drop a)=2:=by
   have:=yD isDX 2 (S.drop a);unfold twoN at b ⊢;omega
  rw[ae b,ae (by omega),f];rfl
def cutD(r:Nat)(h:r<10):List.drop r (List.take (r+1) ([48,49,50,51,52,53,54,55,56,57]:aa))=[UInt8.ofNat (48+r)]:=by
 have:∀r,r<10->List.drop r (List.take (r+1) ([48,49,50,51,52,53,54,55,56,57]:aa))=[UInt8.ofNat (48+r)]:=by decide
 exact this r h
def DL{k:Nat}(h:k<10):Lib.decDigits k=[UInt8.ofNat (48+k)]:=by
 rw[Lib.decDigits,dif_pos h]
def CB{k:Nat}(h:¬k<10)(a:k<100):Lib.decDigits k=[UInt8.ofNat (48+k / 10),UInt8.ofNat (48+k%10)]:=by
 rw[Lib.decDigits,dif_neg h,DL (by omega)];rfl
def NT(n k:Nat)(h:k<100):aI n (k:Int)=some (Lib.decDigits k):=by
 have f:Int.tmod (k:Int) 10=((k%10:Nat):Int):=rfl;have g:Int.tdiv (k:Int) 10=((k / 10:Nat):Int):=rfl;have d:wrap .i64 (((k%10:Nat):Int)+1)=((k%10+1:Nat):Int):=by rw[wrap_i64 _ (by omega) (by omega)];omega
 have c:wrap .i64 ((k / 10:Nat):Int)=((k / 10:Nat):Int):=wrap_i64 _ (by omega) (by omega);have b:wrap .i64 (((k / 10:Nat):Int)+1)=((k / 10+1:Nat):Int):=by rw[wrap_i64 _ (by omega) (by omega)];omega
 simp only[aI,f,g,d,c,b,ef (show k%10+1<=10 by omega),ef (show k%10<=k%10+1 by omega),ob,cutD (k%10) (by omega)];by_cases a:k<10
 ·have e:decide ((k:Int)>=10)=false:=aw (by omega);rw[e,ah,DL a,rO a]
 ·have e:decide ((k:Int)>=10)=true:=au (by omega);rw[e,aj,ef (show k / 10+1<=10 by omega)];simp only[];rw[ef (show k / 10<=k / 10+1 by omega)];simp only[cutD (k / 10) (by omega)];rw[bI (by simp),CB a h];rfl
def eQ(letter:UInt8)(v:Nat):aa:=if 0<v then letter::Lib.decDigits v else[]
def ML{k:Nat}(h:k<100):1<=(Lib.decDigits k).length/\(Lib.decDigits k).length<=2:=by
 by_cases a:k<10
 ·rw[DL a];simp
 ·rw[CB a h];simp
def xH(letter:UInt8){k:Nat}(h:k<100):(eQ letter k).length<=3:=by
 unfold eQ;split
 ·have:=ML h;simp only[aC];omega
 ·simp
def kM(g l:Bool)(d:aa)(x s:Nat):gB g l d (x:Int) (s:Int)=(if l then[89]else[])++(if g then[45]else[])++d++eQ 69 x++eQ 83 s:=by
 unfold gB eQ;simp only[bX];have a:(0<(x:Int))=(0<x):=by simp
 have b:(0<(s:Int))=(0<s):=by simp
 simp only[a,b]
def Jx(n:Nat)(g l:Bool)(d:aa)(x s:Nat)(hx:x<100)(hs:s<100)(o:d.length<=1000):iw n g l d (x:Int) (s:Int)=some (gB g l d (x:Int) (s:Int)):=by
 have t:=ML hx;have m:=ML hs;have ex:decide ((x:Int)>0)=decide (0<x):=by simp
 have k:decide ((s:Int)>0)=decide (0<s):=by simp
 have i:∀a:aa,a.length<=1100->(cond (decide (0<x)) (ob (aI n (x:Int)) λr=>(ob (cat ([69]:aa) r) λp=>(cat a p))) (some a))=some (a++eQ 69 x):=by
  intro a e;unfold eQ;by_cases h:0<x
  ·rw[au h,aj,af h,NT n x hx];simp only[ob];rw[bI (by simp;omega)];simp only[];rw[bI (by simp;omega)];rfl
  ·rw[aw h,ae h];simp
 have f:∀a:aa,a.length<=1200->(cond (decide (0<s)) (ob (aI n (s:Int)) λr=>(ob (cat ([83]:aa) r) λp=>(ob (cat a p) λq=>(some q)))) (some a))=some (a++eQ 83 s):=by
  intro a e;unfold eQ;by_cases h:0<s
  ·rw[au h,aj,af h,NT n s hs];simp only[ob];rw[bI (by simp;omega)];simp only[];rw[bI (by simp;omega)];rfl
  ·rw[aw h,ae h];simp
 have b:∀a:aa,a.length<=1100->(cond (decide (0<x)) (ob (aI n (x:Int)) λr=>(ob (cat ([69]:aa) r) λp=>(ob (cat a p) λz=>(cond (decide (0<s)) (ob (aI n (s:Int)) λr=>(ob (cat ([83]:aa) r) λp=>(ob (cat z p) λq=>(some q)))) (some z))))) (cond (decide (0<s)) (ob (aI n (s:Int)) λr=>(ob (cat ([83]:aa) r) λp=>(ob (cat a p) λq=>(some q)))) (some a)))=some (a++eQ 69 x++eQ 83 s):=by
  intro a e;have c:=i a e;by_cases h:0<x
  ·rw[au h,aj]at c ⊢;rw[NT n x hx]at c ⊢;simp only[ob]at c ⊢;rw[bI (a:=[69]) (by simp;omega)]at c ⊢;simp only[]at c ⊢;rw[c];simp only[];have:=f (a++eQ 69 x) (by have:=xH 69 hx;simp only[aH];omega);simp only[ob]at this;exact this
  ·rw[aw h,ah];have j:eQ 69 x=[]:=by unfold eQ;rw[ae h]
   rw[j,ko];exact f a (by omega)
 rw[kM];unfold iw;rw[ex,k];cases l<;>cases g
 ·rw[ah,ah,bI (by simp;omega)];exact b d (by omega)
 ·rw[ah,aj,bI (by simp;omega)];exact b ([45]++d) (by simp;omega)
 ·rw[aj,ah,bI (by simp;omega)];exact b ([89]++d) (by simp;omega)
 ·rw[aj,aj,bI (by simp;omega)];exact b ([89,45]++d) (by simp;omega)
def cV(p:UInt8->Bool)(l:aa):Prop:=∀c,l.head?=some c->p c=false
def mL{k:Nat}(h:k<10):(UInt8.ofNat (48+k)).toNat=48+k:=by
 rw[FP];exact rO (by omega)
def DO(letter:UInt8)(v:Nat)(post:aa)(j:v<100)(i:cV bH post)(k:cV (λc=>c==letter) post):numS letter (eQ letter v++post)=.inr (v,(eQ letter v).length):=by
 unfold eQ;by_cases h:0<v
 ·rw[af h];by_cases g:v<10
  ·rw[DL g];have b:=mL g;simp only[eX,dQ];rw[pK,af rfl,rQ,af (by omega)];have a:48+v - 48=v:=by omega
   cases post with
   | nil=>
    rw[wC,b,a];rfl
   | cons e r=>
    have d:¬bH e=true:=by rw[i e rfl];simp
    rw[pV,ae d,b,a];rfl
  ·rw[CB g j];have b:=mL (show v / 10<10 by omega);have d:=mL (show v%10<10 by omega);simp only[eX,dQ];rw[pK,af rfl,rQ,af (by omega),pV,af ((ew _).2 (by omega)),b,d];rw[show 10*(48+v / 10 - 48)+(48+v%10 - 48)=v by omega];rfl
 ·rw[ae h];have f:v=0:=by omega
  subst f;cases post with
  | nil=>rfl
  | cons c r=>
   have hc:c≠letter:=by
    have:=k c rfl;simpa using this
   rw[dQ,pK,ae hc];rfl
def yL(letter:UInt8)(l:aa)(v k:Nat)(h:numS letter l=.inr (v,k)):v<100/\l.take k=eQ letter v/\k<=l.length:=by
 cases l with
 | nil=>
  simp only[A8,nh,bm]at h;obtain⟨rfl,rfl⟩:=h;exact⟨by omega,rfl,by simp⟩
 | cons c r=>
  rw[pK]at h;by_cases hc:c=letter
  ·rw[af hc]at h;cases r with
   | nil=>simp[CH]at h
   | cons d j=>
    rw[rQ]at h;by_cases i:49<=d.toNat/\d.toNat<=57
    ·rw[af i]at h;have g:d.toNat - 48<10:=by omega
     have a:UInt8.ofNat (48+(d.toNat - 48))=d:=by
      apply iL.1;rw[mL g];omega
     have one:(c::d::j).take 2=eQ letter (d.toNat - 48):=by
      unfold eQ;rw[af (by omega),DL g,a,hc];rfl
     cases j with
     | nil=>
      simp only[wC,nh,bm]at h;obtain⟨rfl,rfl⟩:=h;exact⟨by omega,one,by simp⟩
     | cons e p=>
      rw[pV]at h;by_cases b:bH e=true
      ·rw[af b]at h;simp only[nh,bm]at h;obtain⟨rfl,rfl⟩:=h;have n:=(ew e).1 b;refine⟨by omega,?_,by simp⟩;unfold eQ;have m:(10*(d.toNat - 48)+(e.toNat - 48)) / 10=d.toNat - 48:=by omega
       have o:(10*(d.toNat - 48)+(e.toNat - 48))%10=e.toNat - 48:=by omega
       have f:UInt8.ofNat (48+(e.toNat - 48))=e:=by
        apply iL.1;rw[mL (by omega)];omega
       rw[af (by omega),CB (by omega) (by omega),m,o,a,f,hc];rfl
      ·rw[ae b]at h;simp only[nh,bm]at h;obtain⟨rfl,rfl⟩:=h;exact⟨by omega,one,by simp⟩
    ·rw[ae i]at h;cases h
  ·rw[ae hc]at h;simp only[nh,bm]at h;obtain⟨rfl,rfl⟩:=h;exact⟨by omega,rfl,by simp⟩
def yx{p:UInt8->Bool}:∀(r:aa) (k:Nat) (post:aa),(∀c∈r,p c=true)->r.length<=k->(cV p post\/r.length=k)->cR p k (r++post)=r.length
 | [],0,post,_,_,_=>by simp[cR]
 | [],k+1,post,_,_,h=>by
  cases post with
  | nil=>simp[cR]
  | cons c q=>
   rcases h with h | h
   ·have:=h c rfl;simp[cR,this]
   ·simp at h
 | c::r,0,post,_,h,_=>by simp at h
 | c::r,k+1,post,hp,b,h=>by
  have ih:=yx r k post (λd a=>hp d (by simp[a])) (by simpa using b) (by
   rcases h with h | h
   ·exact .inl h
   ·exact .inr (by simpa using h))
  simp only[eX,cR,hp c (by simp),aQ,ih,aC]
def AW{p:UInt8->Bool}:∀(k:Nat) (l:aa),∀c∈l.take (cR p k l),p c=true
 | 0,l=>by simp[cR]
 | k+1,[]=>by simp[cR]
 | k+1,c::l=>by
  simp only[cR];by_cases h:p c=true
  ·rw[af h];intro d a;rw[nq,cN]at a;rcases a with rfl | a
   ·exact h
   ·exact AW k l d a
  ·rw[ae h];simp
def sK{letter:UInt8}{v:Nat}{post:aa}{p:UInt8->Bool}(a:p letter=false)(b:cV p post):cV p (eQ letter v++post):=by
 unfold eQ;intro c hc;by_cases h:0<v
 ·rw[af h]at hc;simp only[eX,pA,ar]at hc;rw[<-hc];exact a
 ·rw[ae h]at hc;exact b c hc
def isYC(c:UInt8):Bool:=isDX c||c==69||c==83
def Si{l:aa}(h:cV isYC l):cV bH l:=λc hc=>by
 have:=h c hc;unfold isYC isDX at this;simp only[qZ]at this;exact this.1.1.1
def Yt{l:aa}(h:cV isYC l):cV isDX l:=λc hc=>by
 have:=h c hc;unfold isYC at this;simp only[qZ]at this;exact this.1.1
def Ys{l:aa}(h:cV isYC l):cV (λc=>c==69) l:=λc hc=>by
 have:=h c hc;unfold isYC at this;simp only[qZ]at this;exact this.1.2
def ZI{l:aa}(h:cV isYC l):cV (λc=>c==83) l:=λc hc=>by
 have:=h c hc;unfold isYC at this;simp only[qZ]at this;exact this.2
def oi(c:UInt8)(l:aa):gF c (c::l)=1:=by rw[vp,af rfl]
def qf{c a:UInt8}(h:a≠c)(l:aa):gF c (a::l)=0:=by rw[vp,ae h]
def Pg{g l:Bool}{d:aa}{x s:Nat}(h:okY g l d (x:Int) (s:Int))(post:aa)(hp:cV isYC post):va (gB g l d (x:Int) (s:Int)++post)=.inr (g,l,d,x,s,(gB g l d (x:Int) (s:Int)).length):=by
 have D:=jb h;have j:numS 83 (eQ 83 s++post)=.inr (s,(eQ 83 s).length):=DO 83 s post (by omega) (Si hp) (ZI hp);have k:cV bH (eQ 83 s++post):=sK (by decide) (Si hp);have K:cV isDX (eQ 83 s++post):=sK (by decide) (Yt hp);rw[kM];cases l with
 | true=>
  have M:okL d (x:Int) (s:Int):=by simpa[okY]using h
  obtain⟨⟨b,n,A,z,E,F,L,O⟩,N,H⟩:=M;obtain⟨c,r,rfl⟩:∃c r,d=c::r:=by
   cases d with
   | nil=>simp at n
   | cons c r=>exact⟨c,r,rfl⟩
  have v:=(ew c).1 (b c (by simp));have p:49<=c.toNat/\c.toNat<=57:=by
   have:c.toNat≠48:=λe=>z (by rw[show c=48 from iL.1 e];rfl);omega
  have a:c≠45:=by rintro rfl;exact absurd v.1 (by decide)
  have u:numS 69 (eQ 69 x++(eQ 83 s++post))=.inr (x,(eQ 69 x).length):=DO 69 x _ (by omega) k (sK (by decide) (Ys hp));have f:cR bH 16 (r++(eQ 69 x++(eQ 83 s++post)))=r.length:=by
   refine yx r 16 _ (λe B=>b e (by simp[B])) (by simp only[aC]at A;omega) (.inl ?_);exact sK (by decide) k
  have body:∀o:Nat,Dh g o ((c::r)++(eQ 69 x++(eQ 83 s++post)))=.inr (g,true,c::r,x,s,o+(1+r.length)+(eQ 69 x).length+(eQ 83 s).length):=by
   intro o;simp only[eX,Dh];rw[af p,f];have G:List.drop (1+r.length) (c::(r++(eQ 69 x++(eQ 83 s++post))))=eQ 69 x++(eQ 83 s++post):=by
    rw[o8,oM,ES rfl]
   have I:List.drop (1+r.length+(eQ 69 x).length) (c::(r++(eQ 69 x++(eQ 83 s++post))))=eQ 83 s++post:=by
    rw[show 1+r.length+(eQ 69 x).length=(r.length+(eQ 69 x).length)+1 by omega,oM,<-fa,ES (by simp)]
   have J:List.take (1+r.length) (c::(r++(eQ 69 x++(eQ 83 s++post))))=c::r:=by
    rw[o8,nq,List.take_left' rfl]
   rw[G,u];simp only[];rw[I,j,J]
  unfold va;cases g with
  | true=>
   simp only[aQ,eX,dQ,fa];rw[oi,af rfl,oM,dk,oi];have:=body 2;simp only[eX]at this;simp only[oM,dk,show((1:Nat)==1)=true from rfl,show 1+1=2 from rfl];rw[this];simp only[aC,aH];congr 6;omega
  | false=>
   simp only[aQ,bU,aG,eX,dQ,fa];rw[oi,af rfl,oM,dk,qf a];have:=body 1;simp only[eX]at this;simp only[oM,dk,show((0:Nat)==1)=false from rfl,dP];rw[this];simp only[aC,aH];congr 6;omega
 | false=>
  have C:okS g d (x:Int) (s:Int):=by simpa[okY]using h
  obtain⟨b,n,A,z,E,F,L⟩:=C;have w:x=0:=by omega
  subst w;have t:eQ 69 0=[]:=rfl;have y:∀c∈d,isDX c=true:=λc hc=>by
   unfold isDX;rcases n c hc with q | q
   ·rw[q];rfl
   ·rw[q];simp
  have f:cR isDX 4 (d++(eQ 83 s++post))=d.length:=yx d 4 _ y (by omega) (.inr b);have body:∀o:Nat,zP g o (d++(eQ 83 s++post))=.inr (g,false,d,0,s,o+4+(eQ 83 s).length):=by
   intro o;unfold zP;rw[f,b,ae (by omega),ES b,j,List.take_left' b]
  obtain⟨c,r,rfl⟩:∃c r,d=c::r:=by
   cases d with
   | nil=>simp at b
   | cons c r=>exact⟨c,r,rfl⟩
  have a:c≠45:=by
   rintro rfl;rcases n 45 (by simp)with q | q
   ·exact absurd ((ew _).1 q).1 (by decide)
   ·exact absurd q (by decide)
  have m:c≠89:=by
   rintro rfl;rcases n 89 (by simp)with q | q
   ·exact absurd ((ew _).1 q).2 (by decide)
   ·exact absurd q (by decide)
  have i:(45:UInt8)≠89:=by decide
  unfold va;rw[t];cases g with
  | true=>
   simp only[aQ,bU,aG,eX,dQ,fa];rw[qf i,ae (by decide),oi,oM,dk];have:=body 1;simp only[eX]at this;rw[show((1:Nat)==1)=true from rfl,this];simp only[aC,aH]at b ⊢;congr 6;omega
  | false=>
   simp only[bU,aG,eX,dQ,fa];rw[qf m,ae (by decide),qf a,dk];have:=body 0;simp only[eX]at this;rw[show((0:Nat)==1)=false from rfl,this];simp only[aC,aH]at b ⊢;congr 6;omega
def vO(c:UInt8)(l:aa):l.take (gF c l)=if gF c l=1 then[c]else[]:=by
 rcases mh c l with h | h
 ·rw[h];simp
 ·rw[h,af rfl];unfold gF at h;split at h
  ·assumption
  ·cases h
def pJ(l:aa)(i j:Nat):l.take (i+j)=l.take i++(l.drop i).take j:=by
 rw[List.take_add]
def yj{l:aa}{g o:Bool}{d:aa}{x s k:Nat}(h:va l=.inr (g,o,d,x,s,k)):l.take k=gB g o d (x:Int) (s:Int)/\k<=l.length/\x<100/\s<100/\d.length<=17:=by
 rw[kM];unfold va at h;by_cases e:gF 89 l=1
 ·rw[af e]at h;have n:=vO 89 l;rw[e,af rfl]at n;have f:=vO 45 (l.drop 1);have c45:=mh 45 (l.drop 1);generalize D:gF 45 (l.drop 1)=u at *;have a:l.take (1+u)=[89]++(if(u==1)=true then[45]else[]):=by
   rw[pJ,n,f];rcases c45 with rfl | rfl<;>rfl
  cases q:l.drop (1+u)with
  | nil=>rw[q]at h;simp[Dh]at h
  | cons c r=>
   rw[q]at h;simp only[Dh]at h;by_cases hc:49<=c.toNat/\c.toNat<=57
   ·rw[af hc]at h;have z:=yD bH 16 r;have C:1+cR bH 16 r<=(c::r).length:=by have:=oY bH 16 r;simp only[aC];omega
    generalize G:1+cR bH 16 r=K at *;cases b:numS 69 (List.drop K (c::r))with
    | inl j=>rw[b]at h;simp at h
    | inr p=>
     obtain⟨F,j⟩:=p;rw[b]at h;simp only at h;cases m:numS 83 (List.drop (K+j) (c::r))with
     | inl i=>rw[m]at h;simp at h
     | inr y=>
      obtain⟨s',i⟩:=y;rw[m]at h;simp only[nh,bm]at h;obtain⟨rfl,rfl,rfl,rfl,rfl,rfl⟩:=h;obtain⟨a1,a2,E⟩:=yL _ _ _ _ b;obtain⟨b1,b2,t⟩:=yL _ _ _ _ m;rw[cj]at E t;have B:l.length=1+u+(c::r).length:=by
       have:=cT List.length q;rw[cj]at this;simp only[aC]at this ⊢;omega
      refine⟨?_,by simp only[aC]at *;omega,a1,b1,by rw[cS];omega⟩;rw[show 1+u+K+j+i=(1+u)+(K+(j+i))by omega,pJ,a,q,pJ _ K,pJ _ j,a2,kZ,b2];simp
   ·rw[ae hc]at h;simp at h
 ·rw[ae e]at h;have f:=vO 45 l;have c45:=mh 45 l;generalize D:gF 45 l=u at *;have a:l.take u=(if(u==1)=true then[45]else[]):=by
   rw[f];rcases c45 with rfl | rfl<;>rfl
  unfold zP at h;by_cases A:cR isDX 4 (l.drop u)<4
  ·rw[af A]at h;simp at h
  ·rw[ae A]at h;have w:=oY isDX 4 (l.drop u);rw[cj]at w;cases b:numS 83 (List.drop 4 (l.drop u))with
   | inl i=>rw[b]at h;simp at h
   | inr y=>
    obtain⟨s',i⟩:=y;rw[b]at h;simp only[nh,bm]at h;obtain⟨rfl,rfl,rfl,rfl,rfl,rfl⟩:=h;obtain⟨b1,b2,t⟩:=yL _ _ _ _ b;rw[cj,cj]at t;refine⟨?_,by omega,by omega,b1,by rw[cS];omega⟩;rw[show u+4+i=u+(4+i)by omega,pJ,a,pJ _ 4,b2];have v:eQ 69 0=[]:=rfl;rw[v];simp
abbrev DR:=Bool×Bool×aa×Nat×Nat×aa×aa×(Nat×Nat×Nat)×(Nat×Nat×Nat)×Nat
def mkE(S:aa)(p:Nat):Nat:=p+mkN (S.drop p)
def rd3(S:aa)(y:YR)(f b c g h e a:Nat)(d:aa):Nat⊕DR:=
 if twoN (S.drop (mkE S (a+1)))<2 then .inl (mkE S (a+1)+twoN (S.drop (mkE S (a+1))))
 else .inr (y.1,y.2.1,y.2.2.1,y.2.2.2.1,y.2.2.2.2.1,d,(S.drop (mkE S (a+1))).take 2,spM (f,c,mkS (S.drop (a+1))) (b,g,mkS (S.drop (mkE S (a+1)+2))),(h,e,mkE S (a+1)),mkE S (mkE S (a+1)+2))
def rd2(S:aa)(y:YR)(c b d a:Nat):Nat⊕DR:=
 if twoN (S.drop (mkE S (a+1)))<2 then .inl (mkE S (a+1)+twoN (S.drop (mkE S (a+1))))
 else if gF 45 (S.drop (mkE S (mkE S (a+1)+2)))=0 then .inr (y.1,y.2.1,y.2.2.1,y.2.2.2.1,y.2.2.2.2.1,(S.drop (mkE S (a+1))).take 2,[],spM (c,mkS (S.drop (a+1)),0) (b,mkS (S.drop (mkE S (a+1)+2)),0),(d,mkE S (a+1),0),mkE S (mkE S (a+1)+2))
 else rd3 S y c b (mkS (S.drop (a+1))) (mkS (S.drop (mkE S (a+1)+2))) d (mkE S (a+1)) (mkE S (mkE S (a+1)+2)) ((S.drop (mkE S (a+1))).take 2)
def uu(S:aa)(a:Nat):Nat⊕DR:=match va (S.drop (mkE S a))with
 | .inl k=>.inl (mkE S a+k)
 | .inr y=>if 0<y.2.2.2.2.1\/gF 45 (S.drop (mkE S (mkE S a+y.2.2.2.2.2)))=0
  then .inr (y.1,y.2.1,y.2.2.1,y.2.2.2.1,y.2.2.2.2.1,[],[],spM (mkS (S.drop a),0,0) (mkS (S.drop (mkE S a+y.2.2.2.2.2)),0,0),(mkE S a,0,0),mkE S (mkE S a+y.2.2.2.2.2))
  else rd2 S y (mkS (S.drop a)) (mkS (S.drop (mkE S a+y.2.2.2.2.2))) (mkE S a) (mkE S (mkE S a+y.2.2.2.2.2))
def Xf(S:aa):Nat⊕DR->(Int×Int×aa×Int)⊕(Bool×Bool×aa×Int×Int×aa×aa×Int×Int×Int×List Int×aa×Int)
 | .inl k=>.inl ((k:Int),5,S,(k:Int))
 | .inr (g,l,dg,x,s,m,d,M,P,e)=>.inr (g,l,dg,(x:Int),(s:Int),m,d,(M.1:Int),(M.2.1:Int),(M.2.2:Int),l3 P,S,(e:Int))
def rU{S:aa}{p:Nat}(h:p<=S.length):mkE S p<=S.length:=by
 have:=Xc (S.drop p);rw[cj]at this;unfold mkE;omega
def EB{S:aa}{p:Nat}(a:¬twoN (S.drop p)<2):p+2<=S.length:=by
 have:=oY isDX 2 (S.drop p);unfold twoN at a;rw[cj]at this;omega
def wx{S:aa}{p:Nat}(h:¬gF 45 (S.drop p)=0):p+1<=S.length:=by
 have:=BD 45 (S.drop p);rw[cj]at this;omega
def Qz(n:Nat)(g l:Bool)(d:aa)(x s:Int)(b a:aa)(k0 k1 k2:Int)(S:aa)(p:Nat)(h:p<=S.length)(e:S.length<100000)(c:S.length<n):
  kz n g l d x s b a k0 k1 k2 S (p:Int)=some (match va (S.drop p)with
   | .inl k=>.inl (((p+k:Nat):Int),5,g,l,d,x,s,b,a,k0,k1,k2,S,((p+k:Nat):Int))
   | .inr y=>.inr (y.1,y.2.1,y.2.2.1,(y.2.2.2.1:Int),(y.2.2.2.2.1:Int),b,a,k0,k1,k2,S,((p+y.2.2.2.2.2:Nat):Int))):=by
 unfold kz;rw[UX n S p h e c];cases va (S.drop p)with
 | inl k=>rfl
 | inr y=>rfl
def PH(n:Nat)(g l:Bool)(d:aa)(x s:Int)(c b:aa)(k0 k1 k2:Int)(S:aa)(p:Nat)(h:p<=S.length)(f:S.length<100000)(e:S.length<n):
  kB n g l d x s c b k0 k1 k2 S (p:Int)=some (if twoN (S.drop p)<2
   then .inl (((p+twoN (S.drop p):Nat):Int),5,g,l,d,x,s,c,b,k0,k1,k2,S,((p+twoN (S.drop p):Nat):Int))
   else .inr (g,l,d,x,s,(S.drop p).take 2,b,k0,k1,k2,S,((p+2:Nat):Int))):=by
 unfold kB;rw[SL n S p h f e];by_cases a:twoN (S.drop p)<2
 ·rw[af a,af a];rfl
 ·rw[ae a,ae a];rfl
def PL(n:Nat)(g l:Bool)(d:aa)(x s:Int)(b c:aa)(k0 k1 k2:Int)(S:aa)(p:Nat)(h:p<=S.length)(f:S.length<100000)(e:S.length<n):
  kD n g l d x s b c k0 k1 k2 S (p:Int)=some (if twoN (S.drop p)<2
   then .inl (((p+twoN (S.drop p):Nat):Int),5,g,l,d,x,s,b,c,k0,k1,k2,S,((p+twoN (S.drop p):Nat):Int))
   else .inr (g,l,d,x,s,b,(S.drop p).take 2,k0,k1,k2,S,((p+2:Nat):Int))):=by
 unfold kD;rw[SL n S p h f e];by_cases a:twoN (S.drop p)<2
 ·rw[af a,af a];rfl
 ·rw[ae a,ae a];rfl
def Vy(m:Nat)(S:aa)(a:Nat)(h:a<=S.length)(j:S.length<100000)(F:S.length<m+300):
  ks (m+300) S (a:Int)=some (Xf S (uu S a)):=by
 have n:∀p,p<=S.length->cP (m+300) S (p:Int)=some (.inr (((mkS (S.drop p):Nat):Int),S,((mkE S p:Nat):Int))):=λp hp=>TM m S p hp j;have b:∀p,mkS (S.drop p)<4:=λp=>HG _;have t:∀p q,eW (m+300) [((mkS (S.drop p):Nat):Int),0,0] [((mkS (S.drop q):Nat):Int),0,0] 1=some (l3 (spM (mkS (S.drop p),0,0) (mkS (S.drop q),0,0)),0):=λp q=>
  xP (m+300) (by omega) 1 (mkS (S.drop p),0,0) (mkS (S.drop q),0,0) (by omega) ⟨b p,by simp,by simp,by simp,by simp⟩ ⟨b q,by simp,by simp,by simp,by simp⟩
 have E:∀p q d e,eW (m+300) [((mkS (S.drop p):Nat):Int),((mkS (S.drop d):Nat):Int),0] [((mkS (S.drop q):Nat):Int),((mkS (S.drop e):Nat):Int),0] 2=some (l3 (spM (mkS (S.drop p),mkS (S.drop d),0) (mkS (S.drop q),mkS (S.drop e),0)),0):=λp q d e=>
  xP (m+300) (by omega) 2 (mkS (S.drop p),mkS (S.drop d),0) (mkS (S.drop q),mkS (S.drop e),0) (by omega) ⟨b p,b d,by simp,by simp,by simp⟩ ⟨b q,b e,by simp,by simp,by simp⟩
 have B:∀p q d e c i,eW (m+300) [((mkS (S.drop p):Nat):Int),((mkS (S.drop d):Nat):Int),((mkS (S.drop c):Nat):Int)] [((mkS (S.drop q):Nat):Int),((mkS (S.drop e):Nat):Int),((mkS (S.drop i):Nat):Int)] 3=some (l3 (spM (mkS (S.drop p),mkS (S.drop d),mkS (S.drop c)) (mkS (S.drop q),mkS (S.drop e),mkS (S.drop i))),0):=λp q d e c i=>
  xP (m+300) (by omega) 3 (mkS (S.drop p),mkS (S.drop d),mkS (S.drop c)) (mkS (S.drop q),mkS (S.drop e),mkS (S.drop i)) (by omega) ⟨b p,b d,b c,by simp,by simp⟩ ⟨b q,b e,b i,by simp,by simp⟩
 have b0:=rU h;unfold ks uu;rw[n a h];simp only[ob,Fp];rw[Qz _ _ _ _ _ _ _ _ _ _ _ S (mkE S a) b0 j F];cases I:va (S.drop (mkE S a))with
 | inl k=>rfl
 | inr y=>
  obtain⟨g,l,dg,x,s,k⟩:=y;have bk:mkE S a+k<=S.length:=by
   have:=(yj I).2.1;rw[cj]at this;omega
  have b1:=rU bk;simp only[ob,d4,d8];rw[n (mkE S a+k) bk];simp only[ob];by_cases hs:0<s
  ·have:decide (((s:Nat):Int)>0)=true:=by simp;omega
   rw[this,af (.inl hs)];simp only[aj];rw[t];rfl
  ·have:decide (((s:Nat):Int)>0)=false:=by simp;omega
   rw[this];simp only[ah];rw[uq (m+300) 45 S _ b1 j];simp only[ob];by_cases u:gF 45 (S.drop (mkE S (mkE S a+k)))=0
   ·rw[af (.inr u),u];simp only[show((0:Nat)==1)=false from rfl,kV,aj,dP];rw[t];rfl
   ·have D:gF 45 (S.drop (mkE S (mkE S a+k)))=1:=(mh 45 _).resolve_left u;have r:=wx u;rw[ae (λz=>z.elim hs u),D];simp only[show((1:Nat)==1)=true from rfl,dT,ah];unfold rd2;rw[n _ r];simp only[ob];have J:=rU r;rw[PH _ _ _ _ _ _ _ _ _ _ _ S _ J j F];by_cases v:twoN (S.drop (mkE S (mkE S (mkE S a+k)+1)))<2
    ·rw[af v,af v];rfl
    ·rw[ae v,ae v];have b2:=EB v;simp only[ob,d4,d8];rw[n _ b2];simp only[ob];rw[this];simp only[ah];have G:=rU b2;rw[uq (m+300) 45 S _ G j];simp only[ob];by_cases f:gF 45 (S.drop (mkE S (mkE S (mkE S (mkE S a+k)+1)+2)))=0
     ·rw[af f,f];simp only[show((0:Nat)==1)=false from rfl,kV,aj,dP];rw[E];rfl
     ·have o:=(mh 45 (S.drop (mkE S (mkE S (mkE S (mkE S a+k)+1)+2)))).resolve_left f;have A:=wx f;rw[ae f,o];simp only[show((1:Nat)==1)=true from rfl,dT,ah];unfold rd3;rw[n _ A];simp only[ob];have C:=rU A;rw[PL _ _ _ _ _ _ _ _ _ _ _ S _ C j F];by_cases w:twoN (S.drop (mkE S (mkE S (mkE S (mkE S (mkE S a+k)+1)+2)+1)))<2
      ·rw[af w,af w];rfl
      ·rw[ae w,ae w];have H:=EB w;simp only[ob,d4,d8];rw[n _ H];simp only[ob];rw[B];rfl
def VE(n a:Nat)(q:a<65536):∃d,lj n (a:Int)=some d/\d.length=4/\∀c∈d,bH c=true:=by
 have k:Int.tmod (a:Int) 10000=((a%10000:Nat):Int):=rfl;have g:a%10000<10000:=rk _ (by decide);generalize a%10000=N at *;have h:Int.tdiv (N:Int) 1000=((N / 1000:Nat):Int):=rfl;have m:Int.tdiv (N:Int) 100=((N / 100:Nat):Int):=rfl;have o:Int.tdiv (N:Int) 10=((N / 10:Nat):Int):=rfl;have j:wrap .u16 ((N / 1000:Nat):Int)=((N / 1000:Nat):Int):=wP _ (by omega) (by omega);have i:wrap .u16 ((N / 100:Nat):Int)=((N / 100:Nat):Int):=wP _ (by omega) (by omega);have f:wrap .u16 ((N / 10:Nat):Int)=((N / 10:Nat):Int):=wP _ (by omega) (by omega);have m2:Int.tmod ((N / 100:Nat):Int) 10=((N / 100%10:Nat):Int):=rfl;have p:Int.tmod ((N / 10:Nat):Int) 10=((N / 10%10:Nat):Int):=rfl;have l:Int.tmod (N:Int) 10=((N%10:Nat):Int):=rfl;have s:∀r:Nat,r<10->wrap .u16 ((r:Int)+1)=((r+1:Nat):Int):=λr e=>by rw[wP _ (by omega) (by omega)];omega
 refine⟨[UInt8.ofNat (48+N / 1000),UInt8.ofNat (48+N / 100%10),UInt8.ofNat (48+N / 10%10),UInt8.ofNat (48+N%10)],?_,rfl,?_⟩
 ·simp only[lj,k,h,m,o,j,i,f,m2,p,l,s (N / 1000) (by omega),s (N / 100%10) (by omega),s (N / 10%10) (by omega),s (N%10) (by omega),ef (show N / 1000+1<=10 by omega),ef (show N / 1000<=N / 1000+1 by omega),ef (show N / 100%10+1<=10 by omega),ef (show N / 100%10<=N / 100%10+1 by omega),ef (show N / 10%10+1<=10 by omega),ef (show N / 10%10<=N / 10%10+1 by omega),ef (show N%10+1<=10 by omega),ef (show N%10<=N%10+1 by omega),ob,cutD (N / 1000) (by omega),cutD (N / 100%10) (by omega),cutD (N / 10%10) (by omega),cutD (N%10) (by omega)];rw[bI (by simp)];simp only[];rw[bI (by simp)];simp only[];rw[bI (by simp)];rfl
 ·have b:∀r:Nat,r<10->bH (UInt8.ofNat (48+r))=true:=λr e=>(ew _).2 (by rw[mL e];omega);simp only[cN,pC,qw,Bh,forall_eq];exact⟨b _ (by omega),b _ (by omega),b _ (by omega),b _ (by omega)⟩
def y4(n:Nat)(g l:Bool)(d:aa)(x s:Int)(c:200<n)(e:d.length<=100)(h:okY false l d x s):∃b,(ob (cO n g l d x s) λr=>(cond (r==0) (some (false,l,d,x,s)) (some (g,l,d,x,s))))=some (b,l,d,x,s)/\okY b l d x s:=by
 rw[Ek n g l d x s c e];by_cases a:okY g l d x s
 ·rw[af a];exact⟨g,rfl,a⟩
 ·rw[ae a];exact⟨false,rfl,h⟩
def yY{d:aa}{s:Int}(a:d.length=4)(f:∀c∈d,bH c=true\/c=88)(b:0<=s)(g:s<=4)(e:¬(0<s/\hasX d=true)):okY false false d 0 s:=by
 have:okS false d 0 s:=⟨a,f,rfl,by simp,b,g,e⟩;simpa[okY]using this
def TA(n:Nat)(a b:Int)(g:Bool)(d:aa)(B:d.length=4)(v:∀c∈d,bH c=true)(A:4<n):
  ∃s:aa,av (gu n) n (a,b,[],0,false,false,[],0,0,g,false,d,0,0)=some (s,false,false,[],0,0,g,false,d,0,0)/\s.length=4/\∀c∈s,bH c=true\/c=88:=by
 obtain⟨y,o,s,t,u,z⟩:=pO (step:=gu n) (λx=>∃(i:Nat) (s:aa),i<=4/\s.length=i/\(∀c∈s,bH c=true\/c=88)/\x=(a,b,s,(i:Int),false,false,[],0,0,g,false,d,0,0)) (λx=>4 - x.2.2.2.1.toNat) (λy=>∃s:aa,y=(s,false,false,[],0,0,g,false,d,0,0)/\s.length=4/\∀c∈s,bH c=true\/c=88) (by
  rintro x ⟨i,s,hi,hs,hc,rfl⟩;rcases aN i 4 with j | l
  ·obtain⟨c,f⟩:∃c,d[i]?=some c:=⟨d[i],bq (by omega)⟩;have w:decide ((i:Int)<4)=true:=au (by omega);have p:wrap .i64 ((i:Int)+1)=((i+1:Nat):Int):=by rw[wrap_i64 _ (by omega) (by omega)];omega
   have next:∀e:UInt8,(bH e=true\/e=88)->∃h,some (Sum.inl (a,b,s++[e],((i+1:Nat):Int),false,false,([]:aa),(0:Int),(0:Int),g,false,d,(0:Int),(0:Int)))=some (Sum.inl (β:=aa×Bool×Bool×aa×Int×Int×Bool×Bool×aa×Int×Int) h)/\(∃(i:Nat) (s:aa),i<=4/\s.length=i/\(∀c∈s,bH c=true\/c=88)/\h=(a,b,s,(i:Int),false,false,[],0,0,g,false,d,0,0))/\4 - h.2.2.2.1.toNat<4 - i:=by
    intro e m;refine⟨_,rfl,⟨i+1,s++[e],j,by simp[hs],?_,rfl⟩,by simp only[bX];omega⟩;intro r k;rcases ln.1 k with q | q
    ·exact hc r q
    ·simp only[cN,pC,qw]at q;rw[q];exact m
   simp only[gu,w,aj,p,bX,ef (show i+1<=d.length by omega),ef (show i<=i+1 by omega),ob,cut1 f];rw[bI (a:=s) (b:=[88]) (by simp;omega),bI (a:=s) (b:=[c]) (by simp;omega)];simp only[];left;cases((i:Int)==a)
   ·cases((i:Int)==b)
    ·exact next c (.inl (v c (fh f)))
    ·exact next 88 (.inr rfl)
   ·exact next 88 (.inr rfl)
  ·have:i=4:=by omega
   subst this;exact .inr ⟨_,rfl,s,rfl,hs,hc⟩) n (a,b,[],0,false,false,[],0,0,g,false,d,0,0) ⟨0,[],by omega,rfl,by simp,rfl⟩ (by simp;omega)
 exact⟨s,by rw[o,t],u,z⟩
def cut9(r:Nat)(h:r<9):List.drop r (List.take (r+1) ([49,50,51,52,53,54,55,56,57]:aa))=[UInt8.ofNat (49+r)]:=by
 have:∀r,r<9->List.drop r (List.take (r+1) ([49,50,51,52,53,54,55,56,57]:aa))=[UInt8.ofNat (49+r)]:=by decide
 exact this r h
def IM{d:aa}{x s:Nat}(b:∀c∈d,bH c=true)(i:1<=d.length)(k:d.length<=5)(j:d.head?≠some 48)(g:x<=11)(h:x=0->d.length=5)(n:s<=d.length+x):okY false true d (x:Int) (s:Int):=by
 have a:=rF d 0 0 b (by simp);have hp:(10:Nat) ^ (d.length+0)<=10 ^ 5:=lL (by decide) (by omega);have f:(10:Nat) ^ x<=10 ^ 11:=lL (by decide) g;have l:=xw (Nat.le_of_lt (pt a hp)) f;have e:(10:Nat) ^ 5*10 ^ 11=E16:=by decide
 have:okL d (x:Int) (s:Int):=⟨⟨b,i,by omega,j,by omega,by omega,by rintro⟨o,m⟩;have:=h (by omega);omega,by simp only[bX];omega⟩,by omega,by omega⟩;simpa[okY]using this
def OH(m a0 a2 a b:Nat)(g:Bool)(h2:a2<65536)(Y:a<256)(h4:b<256):∃f l d x s,jJ (m+300) (a0:Int) g (a2:Int) (a:Int) (b:Int)=some (f,l,d,x,s)/\okY f l d x s/\d.length<=5/\x<=11/\(a0%6≠3->hasX d=false):=by
 obtain⟨d,T,h,i⟩:=VE (m+300) a2 h2;have z:∀c∈d,bH c=true\/c=88:=λc hc=>.inl (i c hc);have p:=uY i;unfold jJ;rw[T];simp only[ob];cases U:(Int.tmod (a0:Int) 6==3)with
 | true=>
  simp only[aj];obtain⟨s,G,N,V⟩:=TA (m+300) (wrap .i64 (Int.tmod (a:Int) 4)) (wrap .i64 (Int.tmod (b:Int) 4)) g d h i (by omega);rw[G];obtain⟨f,j,k⟩:=y4 (m+300) g false s 0 0 (by omega) (by omega) (yY N V (by omega) (by omega) (by omega))
  exact⟨f,false,s,0,0,j,k,by omega,by omega,λY=>absurd (by
   have e:=bu.1 U;have e2:Int.tmod (a0:Int) 6=((a0%6:Nat):Int):=rfl;omega) Y⟩
 | false=>
  simp only[ah];cases(Int.tmod (a0:Int) 6==4)with
  | true=>
   simp only[aj];have e:Int.tmod (a:Int) 4=((a%4:Nat):Int):=rfl;have w1:wrap .i64 ((a%4:Nat):Int)=((a%4:Nat):Int):=wrap_i64 _ (by omega) (by omega);have w2:wrap .i64 (1+((a%4:Nat):Int))=((1+a%4:Nat):Int):=by rw[wrap_i64 _ (by omega) (by omega)];omega
   rw[e,w1,w2];obtain⟨f,j,k⟩:=y4 (m+300) g false d 0 ((1+a%4:Nat):Int) (by omega) (by omega) (yY h z (by omega) (by omega) (by rw[p];simp));exact⟨f,false,d,0,_,j,k,by omega,by omega,λ_=>p⟩
  | false=>
   simp only[ah];cases(Int.tmod (a0:Int) 6==5)with
   | false=>
    simp only[ah];obtain⟨f,j,k⟩:=y4 (m+300) g false d 0 0 (by omega) (by omega) (yY h z (by omega) (by omega) (by omega));exact⟨f,false,d,0,0,j,k,by omega,by omega,λ_=>p⟩
   | true=>
    simp only[aj];have e9:Int.tmod (a:Int) 9=((a%9:Nat):Int):=rfl;have w9:wrap .u8 (((a%9:Nat):Int)+1)=((a%9+1:Nat):Int):=by rw[gD _ (by omega) (by omega)];omega
    have e3:Int.tmod (b:Int) 3=((b%3:Nat):Int):=rfl;have e5:Int.tmod (b:Int) 5=((b%5:Nat):Int):=rfl;have w5:wrap .u8 (1+((b%5:Nat):Int))=((1+b%5:Nat):Int):=by rw[gD _ (by omega) (by omega)];omega
    have K:Int.tdiv (b:Int) 16=((b / 16:Nat):Int):=rfl;have R:wrap .u8 ((b / 16:Nat):Int)=((b / 16:Nat):Int):=gD _ (by omega) (by omega);have H:Int.tmod ((b / 16:Nat):Int) 11=((b / 16%11:Nat):Int):=rfl;have P:wrap .i64 ((b / 16%11:Nat):Int)=((b / 16%11:Nat):Int):=wrap_i64 _ (by omega) (by omega);have J:wrap .i64 (1+((b / 16%11:Nat):Int))=((1+b / 16%11:Nat):Int):=by rw[wrap_i64 _ (by omega) (by omega)];omega
    have S:Int.tdiv (a:Int) 16=((a / 16:Nat):Int):=rfl;have C:wrap .u8 ((a / 16:Nat):Int)=((a / 16:Nat):Int):=gD _ (by omega) (by omega);have I:wrap .i64 ((a / 16:Nat):Int)=((a / 16:Nat):Int):=wrap_i64 _ (by omega) (by omega);have W:UInt8.ofNat (49+a%9)≠48:=by
     intro q;have:=cT UInt8.toNat q;rw[show 49+a%9=48+(1+a%9)by omega,mL (by omega)]at this;exact absurd this (by show¬48+(1+a%9)=48;omega)
    have n:bH (UInt8.ofNat (49+a%9))=true:=(ew _).2 (by rw[show 49+a%9=48+(1+a%9)by omega,mL (by omega)];omega);rw[e9,w9,ef (show a%9+1<=9 by omega)];simp only[];rw[ef (show a%9<=a%9+1 by omega)];simp only[];rw[cut9 (a%9) (by omega),bI (by simp;omega)];simp only[];generalize M:[UInt8.ofNat (49+a%9)]++d=D;have A:D.length=5:=by rw[<-M];simp[h]
    have t:∀c∈D,bH c=true:=by
     rw[<-M];intro c hc;simp only[eX,dQ,cN]at hc;rcases hc with rfl | hc
     ·exact n
     ·exact i c hc
    have w:D.head?≠some 48:=by rw[<-M];simpa using W
    rw[e3,e5,w5,K,R,H,P,J,S,C,I];by_cases h33:0<b%3
    ·have L:decide (((b%3:Nat):Int)>0)=true:=au (by omega);rw[L,aj,ef (show 1+b%5<=D.length by omega)];simp only[dk];generalize Q:List.take (1+b%5) D=E;have hEl:E.length=1+b%5:=by rw[<-Q,cS];omega
     have v:∀c∈E,bH c=true:=by rw[<-Q];exactλc hc=>t c (List.mem_of_mem_take hc)
     have F:E.head?≠some 48:=by
      rw[<-Q];cases D with
      | nil=>simp at A
      | cons c r=>rw[o8,nq];simpa using w
     generalize hX:1+b / 16%11=X;have y:X<=11:=by omega
     have Z:1<=X:=by omega
     have O:wrap .i64 (wrap .i64 (((E.length:Nat):Int)+((X:Nat):Int))+1)=((E.length+X+1:Nat):Int):=by
      rw[wrap_i64 (((E.length:Nat):Int)+((X:Nat):Int)) (by omega) (by omega),wrap_i64 _ (by omega) (by omega)];omega
     have o:(((E.length+X+1:Nat):Int)==0)=false:=aL.2 (by omega);rw[O,o,ah];have B:Int.tmod ((a / 16:Nat):Int) ((E.length+X+1:Nat):Int)=((a / 16%(E.length+X+1):Nat):Int):=rfl;rw[B];have u:a / 16%(E.length+X+1)<E.length+X+1:=rk _ (by omega);generalize a / 16%(E.length+X+1)=s at u ⊢;obtain⟨f,j,k⟩:=y4 (m+300) g true E ((X:Nat):Int) ((s:Nat):Int) (by omega) (by omega) (IM v (by omega) (by omega) F y (by omega) (by omega));exact⟨f,true,E,_,_,j,k,by omega,by omega,λ_=>uY v⟩
    ·have L:decide (((b%3:Nat):Int)>0)=false:=aw (by omega);rw[L,ah,A];have O:wrap .i64 (wrap .i64 (((5:Nat):Int)+0)+1)=((6:Nat):Int):=by decide
     have o:(((6:Nat):Int)==0)=false:=rfl;rw[O,o,ah];have B:Int.tmod ((a / 16:Nat):Int) ((6:Nat):Int)=((a / 16%6:Nat):Int):=rfl;rw[B];have u:a / 16%6<6:=rk _ (by omega);generalize a / 16%6=s at u ⊢;obtain⟨f,j,k⟩:=y4 (m+300) g true D ((0:Nat):Int) ((s:Nat):Int) (by omega) (by omega) (IM t (by omega) (by omega) w (by omega) (by omega) (by omega));exact⟨f,true,D,_,_,j,k,by omega,by omega,λ_=>uY t⟩
def WZ(m a0 a2 b f:Nat)(g:Bool)(c:a2<65536)(j:b<256)(k:f<256):∃a l d x s,jJ (m+300) (a0:Int) g (a2:Int) (b:Int) (f:Int)=some (a,l,d,x,s)/\okY a l d x s/\d.length<=5/\x<=11:=by
 obtain⟨a,l,d,x,s,e,h,i,c,_⟩:=OH m a0 a2 b f g c j k;exact⟨a,l,d,x,s,e,h,i,c⟩
def r7{g l:Bool}{d:aa}{x s:Nat}(h:okY g l d (x:Int) (s:Int)):(gB g l d (x:Int) (s:Int)).length<=25:=by
 have hs:=jb h;have a:=xH 69 (show x<100 by omega);have e:=xH 83 (show s<100 by omega);rw[kM];simp only[aH];have b:(if l=true then([89]:aa)else[]).length<=1:=by split<;>simp
 have c:(if g=true then([45]:aa)else[]).length<=1:=by split<;>simp
 omega
def cD(A B:Nat)(w:aa):aa:=mt A++w++mt B
def qG(g l:Bool)(dg:aa)(x q:Int)(m d:aa)(k0 k1 k2:Nat):aa:=
 cD (plA (aR m d) k0 k1 k2).1 (plB (aR m d) k0 k1 k2).1 (gB g l dg x q)
  ++ ((if m=[]then[]else 45::cD (plA (aR m d) k0 k1 k2).2.1 (plB (aR m d) k0 k1 k2).2.1 m)
  ++ (if d=[]then[]else 45::cD (plA (aR m d) k0 k1 k2).2.2 (plB (aR m d) k0 k1 k2).2.2 d))
structure OkD(g l:Bool)(dg:aa)(x q:Nat)(m d:aa)(k0 k1 k2:Nat):Prop where
 yr:okY g l dg (x:Int) (q:Int)
 x16:x<=16
 q17:q<=17
 dg17:dg.length<=17
 noM:0<q->m=[]
 mon:m=[]\/(m.length=2/\∀c∈m,isDX c=true)
 day:d=[]\/(m≠[]/\d.length=2/\∀c∈d,isDX c=true)
 m0:k0<4
 m1:k1<4
 m2:k2<4
 z1:aR m d<2->k1=0
 z2:aR m d<3->k2=0
def EH{g l:Bool}{dg:aa}{x q:Int}{m d:aa}{k0 k1 k2:Int}(C:0<=k0)(y:0<=k1)(v:0<=k2)(h:chkD g l dg x q m d k0 k1 k2=0):
  ∃p o a b c:Nat,x=(p:Int)/\q=(o:Int)/\k0=(a:Int)/\k1=(b:Int)/\k2=(c:Int)/\OkD g l dg p o m d a b c:=by
 obtain⟨hy,f,j,k⟩:=Eg h;unfold yrD at hy;by_cases e:okY g l dg x q
 rotate_left
 ·rw[ae e]at hy;cases hy
 rw[af e]at hy;obtain⟨s,w,t,A,u,r⟩:=jb e;have hk':¬(3<k0\/3<k1\/3<k2\/(aR m d<2/\k1≠0)\/(aR m d<3/\k2≠0)):=by
  intro z;unfold allM at k;rw[af z]at k;exact absurd k (by decide)
 refine⟨x.toNat,q.toNat,k0.toNat,k1.toNat,k2.toNat,by omega,by omega,by omega,by omega,by omega,?_⟩;rw[<-IN s,<-IN t]at e;refine⟨e,by omega,by omega,r,?_,?_,?_,by omega,by omega,by omega,by omega,by omega⟩
 ·intro B;unfold yrB at hy;have hq':decide (0<q)=true:=by simp;omega
  rw[hq']at hy;by_cases i:m=[]
  ·exact i
  ·have:(m==[])=false:=aL.2 i;rw[this]at hy;simp at hy
 ·rcases f with f | f | f
  ·exact .inl f
  ·exact .inr (Gh f)
  ·exact .inr (n8 (by omega) f)
 ·rcases j with j | ⟨j,_,n⟩
  ·exact .inl j
  ·have:=n8 (show 31<=31 by omega) n;exact .inr ⟨j,this.1,this.2⟩
def Rw(n k i:Nat)(hi:i<k)(u:k<=3)(A B:List Nat)(a b:Nat)(o:A[i]?=some a)(m:B[i]?=some b)(g:a<4)(f:b<4)(ws:List (aa))(y:ws.length=k)(w:aa)(w0 d e:aa)(h:[w0,d,e][i]?=some w)(j:w.length<=1000):
  aW n (k,(k:Int),(i:Int),A.map cI,B.map cI,ws,[w0,d,e])=some (.inl (k,(k:Int),((i+1:Nat):Int),A.map cI,B.map cI,ws.set i (cD a b w),[w0,d,e])):=by
 have w2':wrap .i64 ((i:Int)+1)=((i+1:Nat):Int):=by rw[wrap_i64 _ (by omega) (by omega)];omega
 have l:(A.map cI)[i]?=some (a:Int):=by rw[nF,o];rfl
 have r:(B.map cI)[i]?=some (b:Int):=by rw[nF,m];rfl
 have c:∀z:Nat,z<4->(mt z).length<=1:=λz t=>by
  unfold mt;split
  ·simp
  ·split
   ·simp
   ·split<;>simp
 unfold aW;rw[bG,af (show(i:Int)<(k:Int)by omega)];simp only[cG hi,cG (show i<3 by omega),ob,h,d4,l,r,S5 n a g,S5 n b f];have C:=c a g;have x:=c b f;have p:cat (mt a) w=some (mt a++w):=bI (by omega);have s:cat (mt a++w) (mt b)=some (mt a++w++mt b):=bI (by rw[aH];omega);rw[p];simp only[ob];rw[s];simp only[ob];have hi':i<ws.length:=by omega
 obtain⟨v,q⟩:∃v,ws[i]?=some v:=⟨ws[i],bq hi'⟩;rw[cG hi'];simp only[ob,q,w2'];rfl
def G5(n k:Nat)(A B:List Int)(ws V:List (aa)):aW n (k,(k:Int),(k:Int),A,B,ws,V)=some (.inr ws):=by
 unfold aW;rw[bG,ae (show¬((k:Int)<(k:Int))by omega)]
def nN(a b:Nat)(w:aa):(cD a b w).length<=w.length+2:=by
 have c:∀z:Nat,(mt z).length<=1:=λz=>by
  unfold mt;split
  ·simp
  ·split
   ·simp
   ·split<;>simp
 have:=c a;have:=c b;unfold cD;simp only[aH];omega
def Ag:aR [] []=1:=rfl
def vU{m:aa}(h:m≠[]):aR m []=2:=by unfold aR;rw[aL.2 h];rfl
def vZ{m d:aa}(h:m≠[])(a:d≠[]):aR m d=3:=by unfold aR;rw[aL.2 h,aL.2 a];rfl
def pM{d:aa}(h:d.length=2):d≠[]:=by rintro rfl;simp at h
def U2(n:Nat)(g l:Bool)(dg:aa)(x q:Nat)(m d:aa)(k0 k1 k2:Nat)(U:m.length<=18)(N:dg.length<=100):
  cQ (n+300) g l dg (x:Int) (q:Int) m d (k0:Int) (k1:Int) (k2:Int)=some (if chkD g l dg (x:Int) (q:Int) m d (k0:Int) (k1:Int) (k2:Int)=0 then(qG g l dg (x:Int) (q:Int) m d k0 k1 k2,0)else([],chkD g l dg (x:Int) (q:Int) m d (k0:Int) (k1:Int) (k2:Int))):=by
 unfold cQ;rw[Bl (n+300) (by omega) g l dg _ _ m d _ _ _ U N (by omega) (by omega) (by omega)];show cond (chkD g l dg (x:Int) (q:Int) m d (k0:Int) (k1:Int) (k2:Int) != 0) _ _=_;rw[wY];by_cases E:chkD g l dg (x:Int) (q:Int) m d (k0:Int) (k1:Int) (k2:Int)=0
 rotate_left
 ·rw[ae E,ae E]
 rw[af E,af E];obtain⟨Q,S,a,b,c,e1,e2,e3,e4,e5,o⟩:=EH (by omega) (by omega) (by omega) E;obtain rfl:x=Q:=by omega
 obtain rfl:q=S:=by omega
 obtain rfl:k0=a:=by omega
 obtain rfl:k1=b:=by omega
 obtain rfl:k2=c:=by omega
 have hc:=kx m d;have K:=WV n (aR m d) k0 k1 k2 hc o.m0 o.m1 o.m2 o.z1 o.z2;obtain⟨G,M,O,y,I,P⟩:=Up (k:=aR m d) o.m0 o.m1 o.m2;rw[uo (n+300) (by omega)];simp only[ob];rw[K,Bv (n+300) g l dg _ _ (by omega) N,af o.yr];simp only[ob,fG,ah,Nl o.yr,aj];have C:(decide ((0:Int)<=((aR m d:Nat):Int))&&(decide (((aR m d:Nat):Int)<=((aR m d:Nat):Int))&&decide (((aR m d:Nat):Int)<=(67108864:Int))))=true:=by
  rw[au (by omega),au (by omega),au (by omega)];rfl
 rw[C,ef (show aR m d<=3 by omega)];simp only[ob,aj,bX];have H:=r7 o.yr;have W:Nat.ble 1 140737488355328=true:=rfl;have q2:Nat.ble 2 140737488355328=true:=rfl;have X:Nat.ble 3 140737488355328=true:=rfl;unfold qG;generalize gB g l dg (x:Int) (q:Int)=Y at H;generalize D:plA (aR m d) k0 k1 k2=Z at *;generalize B:plB (aR m d) k0 k1 k2=PB at *;obtain⟨j,r,s⟩:=Z;obtain⟨f,p,t⟩:=PB;simp only at G M O y I P;have st:=λ(k i:Nat) (hi:i<k) (hk:k<=3) (a b:Nat) (ha:[j,r,s][i]?=some a) (hb:[f,p,t][i]?=some b) (a4:a<4) (b4:b<4) (ws:List (aa)) (hl:ws.length=k) (w:aa) (w0 w1 w2:aa) (F:[w0,w1,w2][i]?=some w) (hwl:w.length<=1000)=>Rw (n+300) k i hi hk [j,r,s] [f,p,t] a b ha hb a4 b4 ws hl w w0 w1 w2 F hwl;have A:∀L:aa,L.length<=1000->Nat.ble L.length 140737488355328=true:=λL h=>cr (by omega);by_cases u:m=[]
 ·have v:d=[]:=o.day.resolve_right (λz=>z.1 u);subst u v;show ob (av (aW (n+300)) (n+299+1) (1,((1:Nat):Int),((0:Nat):Int),[j,r,s].map cI,[f,p,t].map cI,[[]],[Y,[],[]])) _=_;rw[av,st 1 0 (by omega) (by omega) j f rfl rfl G y [[]] rfl Y Y [] [] rfl (by omega)];show ob (av (aW (n+300)) (n+298+1) (1,((1:Nat):Int),((1:Nat):Int),[j,r,s].map cI,[f,p,t].map cI,[cD j f Y],[Y,[],[]])) _=_;rw[av,G5];simp only[ob];have e:Lib.join [cD j f Y] [45]=cD j f Y:=Lib.join_one _ _;have F:=nN j f Y;rw[e,A _ (by omega)];simp[W]
 ·have R:m.length=2:=(o.mon.resolve_left u).1;by_cases v:d=[]
  ·subst v;rw[vU u]at D B ⊢;show ob (av (aW (n+300)) (n+299+1) (2,((2:Nat):Int),((0:Nat):Int),[j,r,s].map cI,[f,p,t].map cI,[[],[]],[Y,m,[]])) _=_;rw[av,st 2 0 (by omega) (by omega) j f rfl rfl G y [[],[]] rfl Y Y m [] rfl (by omega)];show ob (av (aW (n+300)) (n+298+1) (2,((2:Nat):Int),((1:Nat):Int),[j,r,s].map cI,[f,p,t].map cI,[cD j f Y,[]],[Y,m,[]])) _=_;rw[av,st 2 1 (by omega) (by omega) r p rfl rfl M I [cD j f Y,[]] rfl m Y m [] rfl (by omega)];show ob (av (aW (n+300)) (n+297+1) (2,((2:Nat):Int),((2:Nat):Int),[j,r,s].map cI,[f,p,t].map cI,[cD j f Y,cD r p m],[Y,m,[]])) _=_;rw[av,G5];simp only[ob];have e:Lib.join [cD j f Y,cD r p m] [45]=cD j f Y++(45::cD r p m):=by rw[Lib.join_cons];simp[Lib.joinTail]
   have F:=nN j f Y;have J:=nN r p m;rw[e,A _ (by simp only[aH,aC];omega)];rw[ae u];simp[q2]
  ·have T:d.length=2:=(o.day.resolve_left v).2.1;rw[vZ u v]at D B ⊢;show ob (av (aW (n+300)) (n+299+1) (3,((3:Nat):Int),((0:Nat):Int),[j,r,s].map cI,[f,p,t].map cI,[[],[],[]],[Y,m,d])) _=_;rw[av,st 3 0 (by omega) (by omega) j f rfl rfl G y [[],[],[]] rfl Y Y m d rfl (by omega)];show ob (av (aW (n+300)) (n+298+1) (3,((3:Nat):Int),((1:Nat):Int),[j,r,s].map cI,[f,p,t].map cI,[cD j f Y,[],[]],[Y,m,d])) _=_;rw[av,st 3 1 (by omega) (by omega) r p rfl rfl M I [cD j f Y,[],[]] rfl m Y m d rfl (by omega)];show ob (av (aW (n+300)) (n+297+1) (3,((3:Nat):Int),((2:Nat):Int),[j,r,s].map cI,[f,p,t].map cI,[cD j f Y,cD r p m,[]],[Y,m,d])) _=_;rw[av,st 3 2 (by omega) (by omega) s t rfl rfl O P [cD j f Y,cD r p m,[]] rfl d Y m d rfl (by omega)];show ob (av (aW (n+300)) (n+296+1) (3,((3:Nat):Int),((3:Nat):Int),[j,r,s].map cI,[f,p,t].map cI,[cD j f Y,cD r p m,cD s t d],[Y,m,d])) _=_;rw[av,G5];simp only[ob];have e:Lib.join [cD j f Y,cD r p m,cD s t d] [45]=cD j f Y++(45::cD r p m++(45::cD s t d)):=by rw[Lib.join_cons];simp[Lib.joinTail]
   have F:=nN j f Y;have J:=nN r p m;have V:=nN s t d;rw[e,A _ (by simp only[aH,aC];omega)];rw[ae u,ae v];simp[X]
def JR(n:Nat){g l:Bool}{dg:aa}{x q:Nat}{m d:aa}{k0 k1 k2:Nat}(e:OkD g l dg x q m d k0 k1 k2):
  cL (n+300) g l dg (x:Int) (q:Int) m d (k0:Int) (k1:Int) (k2:Int)=some (qG g l dg (x:Int) (q:Int) m d k0 k1 k2):=by
 have hc:=kx m d;have A:=(Y6 n (aR m d) k0 k1 k2 hc e.m0 e.m1 e.m2 e.z1 e.z2).2;obtain⟨B,F,D,p,C,E⟩:=Up (k:=aR m d) e.m0 e.m1 e.m2;have v:=r7 e.yr;have hx:=e.x16;have V:=e.q17;have L:=e.dg17;unfold cL;rw[dr (n+300)];simp only[ob];rw[A,Jx (n+300) g l dg x q (by omega) (by omega) (by omega)];unfold qG;generalize gB g l dg (x:Int) (q:Int)=Y at v ⊢;generalize O:plA (aR m d) k0 k1 k2=S at *;generalize H:plB (aR m d) k0 k1 k2=PB at *;obtain⟨w,s,t⟩:=S;obtain⟨u,r,y⟩:=PB;simp only at B F D p C E;have j:∀z:Nat,(mt z).length<=1:=λz=>by
  unfold mt;split
  ·simp
  ·split
   ·simp
   ·split<;>simp
 have P:=j w;have I:=j s;have U:=j t;have J:=j u;have M:=j r;have T:=j y;have K:m.length<=2:=by
  rcases e.mon with h | h
  ·rw[h];simp
  ·omega
 have N:d.length<=2:=by
  rcases e.day with h | h
  ·rw[h];simp
  ·omega
 have R:∀a b c:Nat,(l3 (a,b,c))[0]?=some (a:Int):=λ_ _ _=>rfl;have G:∀a b c:Nat,(l3 (a,b,c))[1]?=some (b:Int):=λ_ _ _=>rfl;have Q:∀a b c:Nat,(l3 (a,b,c))[2]?=some (c:Int):=λ_ _ _=>rfl;have f:∀a b:aa,a.length+b.length<=1000000->cat a b=some (a++b):=λa b h=>bI h;simp only[ob,R,G,Q,(CX (n+300) w B).2,(CX (n+300) s F).2,(CX (n+300) t D).2,(CX (n+300) u p).2,(CX (n+300) r C).2,(CX (n+300) y E).2];rw[f (mt w) Y (by omega)];simp only[ob];rw[f _ (mt u) (by simp only[aH];omega)];simp only[ob];have k1':decide (((aR m d:Nat):Int)>1)=decide (1<aR m d):=by rw[oN];omega
 have k2':decide (((aR m d:Nat):Int)>2)=decide (2<aR m d):=by rw[oN];omega
 rw[k1',k2'];by_cases i:m=[]
 ·have o:d=[]:=e.day.resolve_right (λz=>z.1 i);subst i o;rw[Ag];simp[cD]
 ·by_cases o:d=[]
  ·subst o;rw[vU i,ae i];simp only[show decide (1<2)=true from rfl,show decide (2<2)=false from rfl,aj,ah];rw[f [45] (mt s) (by simp;omega)];simp only[ob];rw[f _ m (by simp only[aH,aC,aX];omega)];simp only[ob];rw[f _ (mt r) (by simp only[aH,aC,aX];omega)];simp only[ob];rw[f _ _ (by simp only[aH,aC,aX];omega)];simp[cD]
  ·rw[vZ i o,ae i,ae o];simp only[show decide (1<3)=true from rfl,show decide (2<3)=true from rfl,aj,ah];rw[f [45] (mt s) (by simp;omega)];simp only[ob];rw[f _ m (by simp only[aH,aC,aX];omega)];simp only[ob];rw[f _ (mt r) (by simp only[aH,aC,aX];omega)];simp only[ob];rw[f _ _ (by simp only[aH,aC,aX];omega)];simp only[ob];rw[f [45] (mt t) (by simp;omega)];simp only[ob];rw[f _ d (by simp only[aH,aC,aX];omega)];simp only[ob];rw[f _ (mt y) (by simp only[aH,aC,aX];omega)];simp only[ob];rw[f _ _ (by simp only[aH,aC,aX];omega)];simp[cD]
def isMk(c:UInt8):Bool:=decide (0<mkOf c)
def gZ{S u v:aa}{a:Nat}(h:S.drop a=u++v):S.drop (a+u.length)=v:=by
 rw[<-kZ,h,ES];rfl
def Me{A:Nat}(d:A<4){r:aa}(b:cV isMk r):mkS (mt A++r)=A/\mkN (mt A++r)=(mt A).length:=by
 have a:mkS r=0:=by
  cases r with
  | nil=>rfl
  | cons c r=>
   have:=b c rfl;unfold isMk at this;have:=of_decide_eq_false this;show mkOf c=0;omega
 have h:A=0\/A=1\/A=2\/A=3:=by omega
 rcases h with rfl | rfl | rfl | rfl
 ·refine⟨a,?_⟩;show mkN r=0;unfold mkN;rw[af a]
 ·exact⟨rfl,rfl⟩
 ·exact⟨rfl,rfl⟩
 ·exact⟨rfl,rfl⟩
def eI{p:UInt8->Bool}{c:UInt8}{r:aa}(h:p c=false):cV p (c::r):=λa hc=>by
 simp only[pA,ar]at hc;rw[<-hc];exact h
def Hr{p:UInt8->Bool}(B:Nat){r:aa}(a:p 63=false)(c:p 126=false)(b:p 37=false)(d:cV p r):cV p (mt B++r):=by
 unfold mt;split
 ·exact eI a
 ·split
  ·exact eI c
  ·split
   ·exact eI b
   ·exact d
def JX{c:UInt8}(h:isDX c=true):isMk c=false:=by
 have:=jG (λc=>!(isDX c)||!(isMk c)) (by decide +kernel) c;rw[h]at this;simpa using this
def wy{p q:UInt8->Bool}{w r:aa}(b:w≠[])(h:∀c∈w,p c=true)(a:∀c,p c=true->q c=false):cV q (w++r):=by
 cases w with
 | nil=>exact absurd rfl b
 | cons c w=>exact eI (a c (h c nl))
def Oy{g l:Bool}{d:aa}{x s:Int}(h:okY g l d x s):∀c∈d,isDX c=true:=by
 intro c hc;unfold okY at h;have:bH c=true\/c=88:=by
  split at h
  ·exact .inl (h.1.1 c hc)
  ·exact h.2.1 c hc
 unfold isDX;rcases this with a | a
 ·rw[a];rfl
 ·rw[a];decide
def JG{g l:Bool}{d:aa}{x s:Nat}(h:okY g l d (x:Int) (s:Int))(r:aa):cV isMk (gB g l d (x:Int) (s:Int)++r):=by
 have a:d≠[]:=by
  have:=(jb h).2.2.2.2.1;rintro rfl;simp at this
 rw[kM];cases l with
 | true=>exact eI (by decide)
 | false=>
  cases g with
  | true=>exact eI (by decide)
  | false=>
   simp only[bU,aG,dQ,fa];exact wy a (Oy h) (λc=>JX)
def uA{S:aa}{p A B:Nat}{w R:aa}(h:S.drop p=cD A B w++R)(k:A<4)(g:B<4)(f:cV isMk (w++(mt B++R)))(i:cV isMk R):
  mkS (S.drop p)=A/\S.drop (mkE S p)=w++(mt B++R)/\mkS (S.drop (mkE S p+w.length))=B/\S.drop (mkE S (mkE S p+w.length))=R/\mkE S (mkE S p+w.length)=p+(cD A B w).length:=by
 have h':S.drop p=mt A++(w++(mt B++R)):=by rw[h];unfold cD;simp
 obtain⟨e,l⟩:=Me k f;obtain⟨m,j⟩:=Me g i;have d:mkE S p=p+(mt A).length:=by unfold mkE;rw[h',l]
 have c:S.drop (mkE S p)=w++(mt B++R):=by rw[d];exact gZ h'
 have b:S.drop (mkE S p+w.length)=mt B++R:=gZ c;have a:mkE S (mkE S p+w.length)=mkE S p+w.length+(mt B).length:=by
  show mkE S p+w.length+mkN (S.drop (mkE S p+w.length))=_;rw[b,j]
 refine⟨by rw[h',e],c,by rw[b,m],by rw[a];exact gZ b,?_⟩;rw[a,d];unfold cD;simp only[aH];omega
def Dp{m r:aa}(d:m.length=2)(h:∀c∈m,isDX c=true):twoN (m++r)=2/\(m++r).take 2=m:=by
 match m,d with
 | [a,b],_=>
  have f:=h a (by simp);have e:=h b (by simp);refine⟨?_,rfl⟩;unfold twoN;show cR isDX 2 (a::b::r)=2;simp[cR,f,e]
def UO{k a b c:Nat}(d:k<2->b=0)(e:k<3->c=0)(f:1<=k):(k<2->(plA k a b c).2.1=0/\(plB k a b c).2.1=0)/\(k<3->(plA k a b c).2.2=0/\(plB k a b c).2.2=0):=by
 unfold plA plB;constructor
 ·intro h;have:k=1:=by omega
  subst this;have:=d h;split
  ·simp
  ·simp[this]
 ·intro h;have:=e h;split
  ·split
   ·simp
   ·have:k=2:=by omega
    simp[this]
  ·simp[this]
def rawD(A B:Nat×Nat×Nat)(g l:Bool)(dg:aa)(x q:Int)(m d:aa):aa:=
 cD A.1 B.1 (gB g l dg x q)++((if m=[]then[]else 45::cD A.2.1 B.2.1 m)++(if d=[]then[]else 45::cD A.2.2 B.2.2 d))
structure MkD(A B:Nat×Nat×Nat)(m d:aa):Prop where
 a0:A.1<4
 a1:A.2.1<4
 a2:A.2.2<4
 b0:B.1<4
 b1:B.2.1<4
 b2:B.2.2<4
 zm:m=[]->A.2.1=0/\B.2.1=0
 zd:d=[]->A.2.2=0/\B.2.2=0
structure ShD(g l:Bool)(dg:aa)(x q:Nat)(m d:aa):Prop where
 yr:okY g l dg (x:Int) (q:Int)
 noM:0<q->m=[]
 mon:m=[]\/(m.length=2/\∀c∈m,isDX c=true)
 day:d=[]\/(m≠[]/\d.length=2/\∀c∈d,isDX c=true)
def OkD.sh{g l:Bool}{dg:aa}{x q:Nat}{m d:aa}{k0 k1 k2:Nat}(h:OkD g l dg x q m d k0 k1 k2):ShD g l dg x q m d:=⟨h.yr,h.noM,h.mon,h.day⟩
def OkD.marks{g l:Bool}{dg:aa}{x q:Nat}{m d:aa}{k0 k1 k2:Nat}(h:OkD g l dg x q m d k0 k1 k2):MkD (plA (aR m d) k0 k1 k2) (plB (aR m d) k0 k1 k2) m d:=by
 obtain⟨W,Y,O,E,X,Q⟩:=Up (k:=aR m d) h.m0 h.m1 h.m2;obtain⟨G,J⟩:=UO (a:=k0) h.z1 h.z2 (kx m d).1;refine⟨W,Y,O,E,X,Q,λC=>G ?_,λU=>J ?_⟩
 ·have F:d=[]:=h.day.resolve_right (λz=>z.1 C);subst C F;rw[Ag];omega
 ·subst U;by_cases C:m=[]
  ·subst C;rw[Ag];omega
  ·rw[vU C];omega
def HA{A B:Nat×Nat×Nat}{g l:Bool}{dg:aa}{x q:Nat}{m d:aa}(b:ShD g l dg x q m d)(o:MkD A B m d){S:aa}{a:Nat}{post:aa}(h:S.drop a=rawD A B g l dg (x:Int) (q:Int) m d++post)
  (hp1:cV isYC post) (w:cV isMk post) (O:cV (λc=>c==45) post):
  ∃P:Nat×Nat×Nat,P.1=a+(mt A.1).length/\uu S a=.inr (g,l,dg,x,q,m,d,spM A B,P,a+(rawD A B g l dg (x:Int) (q:Int) m d).length):=by
 obtain⟨l0,l1,l2,l3',l4,l5,M,E⟩:=o;obtain⟨k,t,J⟩:=A;obtain⟨j,n,G⟩:=B;simp only at l0 l1 l2 l3' l4 l5 M E h;unfold rawD at h ⊢;simp only at h ⊢;have H:isMk 45=false:=by decide
 have V:isYC 45=false:=by decide
 have W:∀r:aa,cV (λc=>c==45) r->gF 45 r=0:=λr hr=>by
  cases r with
  | nil=>rfl
  | cons c r=>
   have:=hr c rfl;exact qf (λe=>by rw[e]at this;exact absurd this (by decide)) r
 have hyx:=Pg b.yr;have Q:=JG b.yr;generalize hY:gB g l dg (x:Int) (q:Int)=Y at *;have F:∀R:aa,S.drop a=cD k j Y++R->cV isYC R->cV isMk R->
   mkE S a=a+(mt k).length/\mkS (S.drop a)=k/\va (S.drop (mkE S a))=.inr (g,l,dg,x,q,Y.length)/\mkS (S.drop (mkE S a+Y.length))=j/\S.drop (mkE S (mkE S a+Y.length))=R/\mkE S (mkE S a+Y.length)=a+(cD k j Y).length:=by
  intro R hR h1 Z;obtain⟨C,I,v,s,D⟩:=uA hR l0 l3' (Q _) Z;refine⟨?_,C,?_,v,s,D⟩
  ·have hR':S.drop a=mt k++(Y++(mt j++R)):=by rw[hR];unfold cD;simp
   unfold mkE;rw[hR',(Me l0 (Q _)).2]
  rw[I];exact hyx _ (Hr j (by decide) (by decide) (by decide) h1)
 unfold uu;by_cases f:m=[]
 ·have i:d=[]:=b.day.resolve_right (λz=>z.1 f);subst f i;simp only[aQ,ko]at h ⊢;obtain⟨w0,C,I,v,s,D⟩:=F post h hp1 w;rw[I];simp only[];rw[s,af (.inr (W post O)),C,v,D];obtain⟨rfl,rfl⟩:=M rfl;obtain⟨rfl,rfl⟩:=E rfl;exact⟨_,w0,rfl⟩
 ·have hq0:¬0<q:=λz=>f (b.noM z);obtain⟨p,y⟩:=b.mon.resolve_left f;rw[ae f]at h ⊢;have o:∀r,cV isMk (m++r):=λr=>wy f y (λc=>JX);by_cases i:d=[]
  ·subst i;rw[af rfl,ko]at h ⊢;have h':S.drop a=cD k j Y++(45::(cD t n m++post)):=by rw[h];simp
   obtain⟨w0,C,I,v,s,D⟩:=F _ h' (eI V) (eI H);rw[I];simp only[];rw[s,oi,ae (λz=>z.elim hq0 (by omega)),C,v];unfold rd2;have Z:S.drop (mkE S (mkE S a+Y.length)+1)=cD t n m++post:=gZ (u:=[45]) s;obtain⟨v1,v2,N,K,L⟩:=uA Z l1 l4 (o _) w;obtain⟨T,u2⟩:=Dp (r:=mt n++post) p y;rw[<-v2]at T u2;rw[p]at N K L;rw[T,ae (by omega),K,W post O,af rfl,u2,v1,N,L,D];obtain⟨rfl,rfl⟩:=E rfl;have:a+(cD k j Y).length+1+(cD t n m).length=a+(cD k j Y++45::cD t n m).length:=by simp only[aH,aC];omega
   rw[this];exact⟨_,w0,rfl⟩
  ·obtain⟨_,U,X⟩:=b.day.resolve_left i;rw[ae i]at h ⊢;have hdk:∀r,cV isMk (d++r):=λr=>wy i X (λc=>JX);have h':S.drop a=cD k j Y++(45::(cD t n m++(45::(cD J G d++post)))):=by rw[h];simp
   obtain⟨w0,C,I,v,s,D⟩:=F _ h' (eI V) (eI H);rw[I];simp only[];rw[s,oi,ae (λz=>z.elim hq0 (by omega)),C,v];unfold rd2;have Z:S.drop (mkE S (mkE S a+Y.length)+1)=cD t n m++(45::(cD J G d++post)):=gZ (u:=[45]) s;obtain⟨v1,v2,N,K,L⟩:=uA Z l1 l4 (o _) (eI H);obtain⟨T,u2⟩:=Dp (r:=mt n++(45::(cD J G d++post))) p y;rw[<-v2]at T u2;rw[p]at N K L;rw[T,ae (by omega),K,oi,ae (by omega),u2,v1,N];unfold rd3;have h3:S.drop (mkE S (mkE S (mkE S (mkE S a+Y.length)+1)+2)+1)=cD J G d++post:=gZ (u:=[45]) K;obtain⟨x1,x2,x3,x4,x5⟩:=uA h3 l2 l5 (hdk _) w;obtain⟨s1,s2⟩:=Dp (r:=mt G++post) U X;rw[<-x2]at s1 s2;rw[U]at x3 x4 x5;rw[s1,ae (by omega),s2,x1,x3,x5,L,D];have:a+(cD k j Y).length+1+(cD t n m).length+1+(cD J G d).length=a+(cD k j Y++(45::cD t n m++45::cD J G d)).length:=by simp only[aH,aC];omega
   rw[this];exact⟨_,w0,rfl⟩
def KA{g l:Bool}{dg:aa}{x q:Nat}{m d:aa}{k0 k1 k2:Nat}(b:OkD g l dg x q m d k0 k1 k2){S:aa}{a:Nat}{post:aa}(h:S.drop a=qG g l dg (x:Int) (q:Int) m d k0 k1 k2++post)
  (i:cV isYC post) (f:cV isMk post) (e:cV (λc=>c==45) post):
  ∃P,uu S a=.inr (g,l,dg,x,q,m,d,(k0,k1,k2),P,a+(qG g l dg (x:Int) (q:Int) m d k0 k1 k2).length):=by
 obtain⟨P,_,j⟩:=HA b.sh b.marks (S:=S) (a:=a) (post:=post) h i f e;rw[Zk (aR m d) k0 k1 k2 (kx m d) b.m0 b.m1 b.m2 b.z1 b.z2]at j;exact⟨P,j⟩
def Nw{g l:Bool}{dg:aa}{x q:Nat}{m d:aa}{k0 k1 k2:Nat}(a:OkD g l dg x q m d k0 k1 k2):(qG g l dg (x:Int) (q:Int) m d k0 k1 k2).length<=37:=by
 have hy:=r7 a.yr;have f:=nN (plA (aR m d) k0 k1 k2).1 (plB (aR m d) k0 k1 k2).1 (gB g l dg (x:Int) (q:Int));have e:=nN (plA (aR m d) k0 k1 k2).2.1 (plB (aR m d) k0 k1 k2).2.1 m;have i:=nN (plA (aR m d) k0 k1 k2).2.2 (plB (aR m d) k0 k1 k2).2.2 d;have c:m.length<=2:=by
  rcases a.mon with h | h
  ·rw[h];simp
  ·omega
 have b:d.length<=2:=by
  rcases a.day with h | h
  ·rw[h];simp
  ·omega
 unfold qG;simp only[aH];have a1:(if m=[]then[]else 45::cD (plA (aR m d) k0 k1 k2).2.1 (plB (aR m d) k0 k1 k2).2.1 m).length<=5:=by
  split
  ·simp
  ·simp only[aC];omega
 have a2:(if d=[]then[]else 45::cD (plA (aR m d) k0 k1 k2).2.2 (plB (aR m d) k0 k1 k2).2.2 d).length<=5:=by
  split
  ·simp
  ·simp only[aC];omega
 omega
def Vv{A B:Nat×Nat×Nat}(e:A.1<4)(d:A.2.1<4)(f:A.2.2<4)(g0:B.1<4)(c:B.2.1<4)(b:B.2.2<4):(spM A B).1<4/\(spM A B).2.1<4/\(spM A B).2.2<4:=by
 have a:∀x y:Nat,x<4->y<4->x ||| y<4:=λx y hx hy=>(or4 hx hy).2;exact⟨a _ _ (a _ _ (a _ _ e g0) c) b,a _ _ (a _ _ d c) b,a _ _ f b⟩
structure RdOK(S:aa)(a:Nat)(dg m d:aa)(M:Nat×Nat×Nat)(e:Nat):Prop where
 dg17:dg.length<=17
 m2:m.length<=2
 d2:d.length<=2
 all:inM (aR m d) M
 le:a<=e
 end_:e<=S.length
def Ij{S:aa}{a:Nat}(h:a<=S.length){g l:Bool}{dg:aa}{x s:Nat}{m d:aa}{M P:Nat×Nat×Nat}{e:Nat}(b:uu S a=.inr (g,l,dg,x,s,m,d,M,P,e)):RdOK S a dg m d M e:=by
 have c:∀p,mkS (S.drop p)<4:=λp=>HG _;have n:0<4:=by omega
 have b0:=rU h;have g0:a<=mkE S a:=Bc _ _;have o:∀p,p<=mkE S p:=λp=>Bc _ _;unfold uu at b;cases hy:va (S.drop (mkE S a))with
 | inl k=>rw[hy]at b;cases b
 | inr y=>
  obtain⟨L,K,F,G,s',k⟩:=y;obtain⟨_,bk,_,_,i⟩:=yj hy;have bk:mkE S a+k<=S.length:=by
   rw[cj]at bk;omega
  have b1:=rU bk;rw[hy]at b;simp only[]at b;by_cases hc:0<s'\/gF 45 (S.drop (mkE S (mkE S a+k)))=0
  ·rw[af hc]at b;cases b;have:=Vv (A:=(mkS (S.drop a),0,0)) (B:=(mkS (S.drop (mkE S a+k)),0,0)) (c _) n n (c _) n n;refine⟨i,by simp,by simp,⟨this.1,this.2.1,this.2.2,λ_=>by simp[spM],λ_=>by simp[spM]⟩,?_,b1⟩;have:=o (mkE S a+k);omega
  ·rw[ae hc]at b;have r:=wx (λz=>hc (.inr z));have Q:=rU r;unfold rd2 at b;by_cases t:twoN (S.drop (mkE S (mkE S (mkE S a+k)+1)))<2
   ·rw[af t]at b;cases b
   ·rw[ae t]at b;have b2:=EB t;have w:=rU b2;have f:(List.take 2 (S.drop (mkE S (mkE S (mkE S a+k)+1)))).length=2:=by rw[cS,cj];omega
    have J:=o (mkE S a+k);have O:=o (mkE S (mkE S a+k)+1);have I:=o (mkE S (mkE S (mkE S a+k)+1)+2);by_cases j:gF 45 (S.drop (mkE S (mkE S (mkE S (mkE S a+k)+1)+2)))=0
    ·rw[af j]at b;cases b;have:=Vv (A:=(mkS (S.drop a),mkS (S.drop (mkE S (mkE S a+k)+1)),0)) (B:=(mkS (S.drop (mkE S a+k)),mkS (S.drop (mkE S (mkE S (mkE S a+k)+1)+2)),0)) (c _) (c _) n (c _) (c _) n;refine⟨i,by omega,by simp,⟨this.1,this.2.1,this.2.2,λz=>?_,λ_=>by simp[spM]⟩,by omega,w⟩;rw[vU (pM f)]at z;omega
    ·rw[ae j]at b;have v:=wx j;have D:=rU v;unfold rd3 at b;by_cases u:twoN (S.drop (mkE S (mkE S (mkE S (mkE S (mkE S a+k)+1)+2)+1)))<2
     ·rw[af u]at b;cases b
     ·rw[ae u]at b;have C:=EB u;have E:=rU C;have q:(List.take 2 (S.drop (mkE S (mkE S (mkE S (mkE S (mkE S a+k)+1)+2)+1)))).length=2:=by rw[cS,cj];omega
      cases b;have N:=o (mkE S (mkE S (mkE S (mkE S a+k)+1)+2)+1);have H:=o (mkE S (mkE S (mkE S (mkE S (mkE S a+k)+1)+2)+1)+2);have:=Vv (A:=(mkS (S.drop a),mkS (S.drop (mkE S (mkE S a+k)+1)),mkS (S.drop (mkE S (mkE S (mkE S (mkE S a+k)+1)+2)+1)))) (B:=(mkS (S.drop (mkE S a+k)),mkS (S.drop (mkE S (mkE S (mkE S a+k)+1)+2)),mkS (S.drop (mkE S (mkE S (mkE S (mkE S (mkE S a+k)+1)+2)+1)+2)))) (c _) (c _) (c _) (c _) (c _) (c _);refine⟨i,by omega,by omega,⟨this.1,this.2.1,this.2.2,λz=>?_,λz=>?_⟩,by omega,E⟩
      ·rw[vZ (pM f) (pM q)]at z;omega
      ·rw[vZ (pM f) (pM q)]at z;omega
def Oc{g l:Bool}{dg:aa}{x q:Int}{m d:aa}{k0 k1 k2:Int}(b:allM k0 k1 k2 (aR m d)=0):chkD g l dg x q m d k0 k1 k2=0\/chkD g l dg x q m d k0 k1 k2=6\/chkD g l dg x q m d k0 k1 k2=7\/chkD g l dg x q m d k0 k1 k2=8:=by
 unfold chkD;rw[b];generalize yrD g l dg x q m=b1;generalize(!(m==[])&&(!(decide (0<sea m))&&!(dW m 12)))=b2;generalize(!(d==[])&&((m==[])||(decide (0<sea m)||!(dW d 31))))=a;cases b1<;>cases b2<;>cases a<;>simp
def monT(j:Nat):aa:=if j=0 then[]else if j<=12 then two j else if j<=33 then two (j+8)else([[48,88],[49,88],[88,50],[88,88],[88,48],[88,57]]:List (aa)).getD (j - 34) []
def Zu(m:aa):Nat:=if m=[48,50]then 28 else if m=[48,52]\/m=[48,54]\/m=[48,57]\/m=[49,49]\/m=[88,57]then 30 else 31
def dayT(j:Nat)(m:aa):aa:=if j=0 then[]else if j<=31 then two (min j (Zu m))else if m=[48,50]/\j=35 then[50,88]else([[48,88],[49,88],[50,88],[51,88],[88,48],[88,49],[88,88],[88,56]]:List (aa)).getD (j - 32) []
def r40{p:Nat->Bool}(h:(List.range 40).all p=true){a:Nat}(b:a<40):p a=true:=(bO.1 h) a (gS.2 b)
noncomputable def SG(m:Nat)(a0:Int)(a1:Bool)(a2 b f e a d c:Int)(j:Nat):Bool:=gz (m+300) a0 a1 a2 b f (j:Int) e a d c==some (monT j)
def Oi(m:Nat)(a0:Int)(a1:Bool)(a2 b f e a d c:Int):((List.range 40).all λj=>SG m a0 a1 a2 b f e a d c j)=true:=by kernel_rfl
def Vk(a:Nat)(h:a<256):wrap .i64 (Int.tmod (a:Int) 40)=((a%40:Nat):Int):=by
 have:Int.tmod (a:Int) 40=((a%40:Nat):Int):=rfl;rw[this,wrap_i64 _ (by omega) (by omega)]
def S7(j:Nat)(h:j<40):wrap .i64 (Int.tmod (j:Int) 40)=((j:Nat):Int):=by
 rw[Vk j (by omega)];have:j%40=j:=by omega
 rw[this]
def Af(m:Nat)(a0:Int)(a1:Bool)(a2 d j:Int)(b:Nat)(i c g e:Int)(h:b<256):gz (m+300) a0 a1 a2 d j (b:Int) i c g e=some (monT (b%40)):=by
 have f:b%40<40:=by omega
 have a:=r40 (Oi m a0 a1 a2 d j i c g e) f;unfold SG at a;have a:=bu.1 a;unfold gz at a ⊢;rw[S7 _ f]at a;rw[Vk _ h];exact a
def LI{j:Nat}(h:j<40):monT j=[]\/0<sea (monT j)\/(sea (monT j)=0/\dW (monT j) 12=true):=by
 have:((List.range 40).all λj=>decide (monT j=[])||(decide (0<sea (monT j))||(decide (sea (monT j)=0)&&dW (monT j) 12)))=true:=by decide +kernel
 have:=r40 this h;simpa using this
def DV{j:Nat}(h:j<40)(hs:sea (monT j)=0)(a:monT j≠[]):monT j∈((List.range 12).map λi=>two (i+1))++[[48,88],[49,88],[88,50],[88,88],[88,48],[88,57]]:=by
 have:((List.range 40).all λj=>!decide (sea (monT j)=0)||(decide (monT j=[])||decide (monT j∈((List.range 12).map λi=>two (i+1))++[[48,88],[49,88],[88,50],[88,88],[88,48],[88,57]])))=true:=by decide +kernel
 have:=r40 this h;rw[au hs,aw a]at this;simpa using this
noncomputable def Ss(m:Nat)(a0:Int)(a1:Bool)(a2 d g b c f e:Int)(a:aa)(j:Nat):Bool:=jd (m+300) a0 a1 a2 d g b (j:Int) c f e a==some (dayT j a)
def Ls(m:Nat)(a0:Int)(a1:Bool)(a2 c g a b f e:Int):((((List.range 12).map λi=>two (i+1))++[[48,88],[49,88],[88,50],[88,88],[88,48],[88,57]]).all λd=>(List.range 40).all λj=>Ss m a0 a1 a2 c g a b f e d j)=true:=by kernel_rfl
def Jt(m:Nat)(a0:Int)(a1:Bool)(a2 f l d:Int)(c:Nat)(e k g:Int)(b:aa)(n:b∈((List.range 12).map λi=>two (i+1))++[[48,88],[49,88],[88,50],[88,88],[88,48],[88,57]])(h:c<256):jd (m+300) a0 a1 a2 f l d (c:Int) e k g b=some (dayT (c%40) b):=by
 have j:c%40<40:=by omega
 have a:=r40 ((bO.1 (Ls m a0 a1 a2 f l d e k g)) b n) j;unfold Ss at a;have a:=bu.1 a;unfold jd at a ⊢;rw[S7 _ j]at a;rw[Vk _ h];exact a
def M7{j:Nat}(h:j<40){a:aa}(b:a∈((List.range 12).map λi=>two (i+1))++[[48,88],[49,88],[88,50],[88,88],[88,48],[88,57]]):dayT j a=[]\/dW (dayT j a) 31=true:=by
 have:((((List.range 12).map λi=>two (i+1))++[[48,88],[49,88],[88,50],[88,88],[88,48],[88,57]]).all λa=>(List.range 40).all λj=>decide (dayT j a=[])||dW (dayT j a) 31)=true:=by decide +kernel
 have:=r40 ((bO.1 this) a b) h;simpa using this
def mksT(k a b c:Nat):Nat×Nat×Nat:=(a%4,if 1<k then b%4 else 0,if 2<k then c%4 else 0)
def yI(k a b c:Nat):allM ((mksT k a b c).1:Int) ((mksT k a b c).2.1:Int) ((mksT k a b c).2.2:Int) k=0:=by
 apply vk;refine⟨by simp only[mksT];omega,?_,?_,?_,?_⟩
 ·simp only[mksT];split<;>omega
 ·simp only[mksT];split<;>omega
 ·intro h;simp only[mksT];rw[ae (by omega)]
 ·intro h;simp only[mksT];rw[ae (by omega)]
def HS{g l:Bool}{d:aa}{x s:Int}(h:okY g l d x s)(i:d.length<=5)(b:x<=11):rC g d x=false:=by
 unfold rC;cases f:hasX d with
 | true=>rfl
 | false=>
  obtain⟨k,q,rfl,rfl,e⟩:=s9 h f;have a:=rF d 0 0 e.dig (by decide);rw[dP]at a;have m:dval 0 d<10 ^ 5:=pt a (lL (by omega) i);have c:10 ^ k<=10 ^ 11:=lL (by omega) (by omega);have j:val d k≠E16:=by
   unfold val E16;have:dval 0 d*10 ^ k<=99999*10 ^ 11:=xw (by omega) c;omega
  rw[bX,aw j];simp
def EX{g l:Bool}{dg:aa}{x q:Int}{m d:aa}{k0 k1 k2:Int}(h:okY g l dg x q)(f:rC g dg x=false)(o:0<q->m=[])(j:m=[]\/0<sea m\/(sea m=0/\dW m 12=true))(p:d=[]\/(m≠[]/\sea m=0/\dW d 31=true))(c:allM k0 k1 k2 (aR m d)=0):chkD g l dg x q m d k0 k1 k2=0:=by
 have hy:yrD g l dg x q m=true:=by
  unfold yrD yrB;rw[af h,f];by_cases a:0<q
  ·rw[o a];simp
  ·simp[a]
 unfold chkD;rw[hy,c];have n:(!(m==[])&&(!(decide (0<sea m))&&!(dW m 12)))=false:=by
  rcases j with h | h | ⟨_,h⟩
  ·rw[h];rfl
  ·rw[au h];simp
  ·rw[h];simp
 have b:(!(d==[])&&((m==[])||(decide (0<sea m)||!(dW d 31))))=false:=by
  rcases p with h | ⟨e,k,i⟩
  ·rw[h];rfl
  ·rw[aL.2 e,k,i];simp
 rw[n,b];rfl
def minL(a:Nat):Nat:=if a=2 then 28 else if a=4\/a=6\/a=9\/a=11 then 30 else 31
def fitD(a d:aa):Bool:=(List.range' 1 12).any λi=>agr a i&&(List.range' 1 (minL i)).any (agr d)
def Ub:((((List.range 12).map λi=>two (i+1))++[[48,88],[49,88],[88,50],[88,88],[88,48],[88,57]]).all λa=>(List.range 40).all λj=>(dayT j a==[])||fitD a (dayT j a))=true:=by decide +kernel
def HN{j:Nat}(h:j<40){a:aa}(b:a∈((List.range 12).map λi=>two (i+1))++[[48,88],[49,88],[88,50],[88,88],[88,48],[88,57]]):dayT j a=[]\/fitD a (dayT j a)=true:=by
 have:=r40 ((bO.1 Ub) a b) h;simp only[iG,bu]at this;exact this
def Wz(m a0 a2 J G C y i j n:Nat)(g:Bool)(I:a2<65536)(h3:J<256)(V:G<256)(T:C<256)(U:y<256)(h7:i<256)(h8:j<256)(h9:n<256):
  ∃k l dg x q f d k0 k1 k2,aK (m+300) (a0:Int) g (a2:Int) (J:Int) (G:Int) (C:Int) (y:Int) (i:Int) (j:Int) (n:Int)=some (k,l,dg,((x:Nat):Int),((q:Nat):Int),f,d,((k0:Nat):Int),((k1:Nat):Int),((k2:Nat):Int))/\chkD k l dg (x:Int) (q:Int) f d (k0:Int) (k1:Int) (k2:Int)=0/\OkD k l dg x q f d k0 k1 k2/\(d=[]\/fitD f d=true):=by
 obtain⟨k,l,dg,x,q,e,A,M,D⟩:=WZ m a0 a2 J G g I h3 V;have K:=HS A M D;obtain⟨s1,s2,s3,s4,s5,s6⟩:=jb A
 suffices H:∃f d,aK (m+300) (a0:Int) g (a2:Int) (J:Int) (G:Int) (C:Int) (y:Int) (i:Int) (j:Int) (n:Int)=some (k,l,dg,x,q,f,d,((mksT (aR f d) i j n).1:Int),((mksT (aR f d) i j n).2.1:Int),((mksT (aR f d) i j n).2.2:Int))/\chkD k l dg x q f d ((mksT (aR f d) i j n).1:Int) ((mksT (aR f d) i j n).2.1:Int) ((mksT (aR f d) i j n).2.2:Int)=0/\(d=[]\/fitD f d=true)by
  obtain⟨f,d,R,I,Z⟩:=H;obtain⟨S,Y,a,b,c,W,X,P,N,Q,L⟩:=EH (by omega) (by omega) (by omega) I;subst W X;refine⟨k,l,dg,S,Y,f,d,a,b,c,?_,?_,L,Z⟩
  ·rw[R,P,N,Q]
  ·rw[<-P,<-N,<-Q];exact I
 have t7:Int.tmod (i:Int) 4=((i%4:Nat):Int):=rfl;have t8:Int.tmod (j:Int) 4=((j%4:Nat):Int):=rfl;have t9:Int.tmod (n:Int) 4=((n%4:Nat):Int):=rfl;have p:∀(f d:aa) (o:Option (Bool×Bool×aa×Int×Int×aa×aa×Int×Int×Int)),
   (ob (aq (m+300) k l dg x q f d 0 0 0) λr=>(cond (decide ((0:Int)<r)) (ob (aq (m+300) k l dg x q f d (Int.tmod (i:Int) 4) 0 0) λr=>(cond (decide ((1:Int)<r)) (ob (aq (m+300) k l dg x q f d (Int.tmod (i:Int) 4) (Int.tmod (j:Int) 4) 0) λr=>(cond (decide ((2:Int)<r)) (ob (aq (m+300) k l dg x q f d (Int.tmod (i:Int) 4) (Int.tmod (j:Int) 4) (Int.tmod (n:Int) 4)) λr=>(cond (decide ((3:Int)<r)) none (some (k,l,dg,x,q,f,d,(Int.tmod (i:Int) 4),(Int.tmod (j:Int) 4),(Int.tmod (n:Int) 4))))) (some (k,l,dg,x,q,f,d,(Int.tmod (i:Int) 4),(Int.tmod (j:Int) 4),0)))) (some (k,l,dg,x,q,f,d,(Int.tmod (i:Int) 4),0,0)))) (some (k,l,dg,x,q,f,d,0,0,0))))=some (k,l,dg,x,q,f,d,((mksT (aR f d) i j n).1:Int),((mksT (aR f d) i j n).2.1:Int),((mksT (aR f d) i j n).2.2:Int)):=by
  intro f d _;have hc:=kx f d;have:aR f d=1\/aR f d=2\/aR f d=3:=by omega
  rw[dr,dr,dr,dr];rcases this with h | h | h<;>rw[h]<;>rfl
 unfold aK;rw[e];simp only[ob,d4];rw[ii];by_cases O:q=0
 ·rw[af O];rw[Af m _ _ _ _ _ C _ _ _ _ T];have E:C%40<40:=by omega
  have w:=LI E;have F:=DV E;generalize monT (C%40)=f at w F ⊢;show ∃t d,cond (!(f==[])) _ _=_/\_;by_cases s:f=[]
  ·subst s;refine⟨[],[],p [] [] none,?_,.inl rfl⟩;exact EX A K (λ_=>rfl) (.inl rfl) (.inl rfl) (yI _ _ _ _)
  ·rw[aL.2 s];show ∃t d,ob (aT (m+300) k l dg x q f [] 0 0 0) _=_/\_;rw[oc (m+300) (by omega)];show ∃t d,cond (sea f==0) _ _=_/\_;rw[ii];by_cases hs:sea f=0
   ·rw[af hs];have v:=F hs s;rw[Jt m _ _ _ _ _ _ y _ _ _ f v U];have B:=M7 (show y%40<40 by omega) v;have u:=HN (show y%40<40 by omega) v;generalize dayT (y%40) f=d at B u ⊢;refine⟨f,d,p f d none,?_,u⟩;refine EX A K (λz=>by omega) w ?_ (yI _ _ _ _);rcases B with B | B
    ·exact .inl B
    ·exact .inr ⟨s,hs,B⟩
   ·rw[ae hs];refine⟨f,[],p f [] none,?_,.inl rfl⟩;exact EX A K (λz=>by omega) w (.inl rfl) (yI _ _ _ _)
 ·rw[ae O];refine⟨[],[],p [] [] none,?_,.inl rfl⟩;exact EX A K (λ_=>rfl) (.inl rfl) (.inl rfl) (yI _ _ _ _)
def Px(n:Nat)(g l:Bool)(dg:aa)(x q:Int)(m d:aa)(k0 k1 k2:Int)(a:m.length<=18):bn n g l dg x q m d k0 k1 k2=some (if d=[]then(if 0<sea m then 0 else if m=[]then 1 else 2)else 3):=by
 unfold bn;rw[rS n g l dg x q m d k0 k1 k2 a];by_cases b:d=[]
 ·rw[af b,b];show cond (decide (0<sea m)) _ _=_;rw[bG];by_cases hs:0<sea m
  ·rw[af hs,af hs]
  ·rw[ae hs,ae hs];by_cases a:m=[]
   ·rw[af a,a];rfl
   ·rw[ae a,aL.2 a];rfl
 ·rw[ae b,aL.2 b];rfl
def Ix(n:Nat)(g l:Bool)(dg:aa)(x q:Int)(m d:aa)(k0 k1 k2:Int)(f:m.length<=18)(j:dg.length<=100)(h:0<=k0)(e:0<=k1)(i:0<=k2):
  cQ (n+300) g l dg x q m d k0 k1 k2=some (if chkD g l dg x q m d k0 k1 k2=0 then(qG g l dg x q m d k0.toNat k1.toNat k2.toNat,0)else([],chkD g l dg x q m d k0 k1 k2)):=by
 by_cases hc:chkD g l dg x q m d k0 k1 k2=0
 ·obtain⟨s,p,a,b,c,o,u,v,t,r,k⟩:=EH h e i hc;subst o u v t r;exact U2 n g l dg s p m d a b c f j
 ·rw[ae hc];unfold cQ;rw[Bl (n+300) (by omega) g l dg _ _ m d _ _ _ f j h e i];show cond (chkD g l dg x q m d k0 k1 k2 != 0) _ _=_;rw[wY,ae hc]
def EI(n:Nat){g l:Bool}{dg:aa}{x q:Int}{m d:aa}{k0 k1 k2:Int}(k:0<=k0)(i:0<=k1)(p:0<=k2)(hc:chkD g l dg x q m d k0 k1 k2=0):
  cL (n+300) g l dg x q m d k0 k1 k2=some (qG g l dg x q m d k0.toNat k1.toNat k2.toNat):=by
 obtain⟨t,s,a,b,c,f,o,r,j,h,e⟩:=EH k i p hc;subst f o r j h;exact JR n e
def wZ(a b:aa):hasX (a++b)=(hasX a||hasX b):=by unfold hasX;rw[vR]
def ER(n:Nat)(g l:Bool)(dg:aa)(x q:Int)(m d:aa)(k0 k1 k2:Int)(b:m.length<=1000)(a:dg.length<=1000)(h:d.length<=1000):
  fj n g l dg x q m d k0 k1 k2=some (hasX dg||(hasX m||hasX d)):=by
 unfold fj;rw[bI (by omega)];simp only[ob];rw[bI (by simp only[aH];omega)];simp only[ob];rw[D9,wZ,wZ,Bool.or_assoc]
end Go.Sh
