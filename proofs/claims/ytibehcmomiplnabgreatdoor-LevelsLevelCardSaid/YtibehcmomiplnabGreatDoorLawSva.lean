
import Derived.Laws.RangeString
import Derived.Laws.RangeAny
import Derived.Test.YtibehcmomiplnabGreatDoorShV
import Derived.Lib.IndexLaws
import Derived.Test.YtibehcmomiplnabGreatDoorAbsZ
set_option linter.unusedSimpArgs false
set_option linter.unusedVariables false
set_option linter.defProp false
set_option maxRecDepth 100000
open Go.IntKind(wrap)
namespace Go.Sh
open Go.Abs
theorem rM{p:Prop}{i:Decidable p}(h:p:=by omega):@decide p i=true:=decide_eq_true h
theorem ea{c:Prop}{i:Decidable c}{A:Sort _}{t e:A}(h:c:=by omega):@ite A c i t e=t:=if_pos h
theorem ad{c:Prop}{i:Decidable c}{A:Sort _}{t e:A}(h:¬c:=by omega):@ite A c i t e=e:=if_neg h
def gL{X Y:Type}{step:X->Option (X⊕Y)}(I:X->Prop)(b:X->Nat)(G:X->Y)
  (h:∀x,I x->(∃a,step x=some (.inl a)/\I a/\b a<b x/\G a=G x)\/step x=some (.inr (G x))):
  ∀(n:Nat) (x:X),I x->b x<n->av step n x=some (G x)
 | 0,x,_,e=>by omega
 | n+1,x,hx,e=>by
  rcases h x hx with⟨a,c,f,g,d⟩ | c
  ·simp only[av,c];rw[gL I b G h n a f (by omega),d]
  ·simp only[av,c]
def rI{X Y:Type}{step:X->Option (X⊕Y)}(I:X->Prop)(b:X->Nat)(Q:Y->Prop)
  (h:∀x,I x->(∃a,step x=some (.inl a)/\I a/\b a<b x)\/∃y,step x=some (.inr y)/\Q y):
  ∀(n:Nat) (x:X),I x->b x<n->∃y,av step n x=some y/\Q y
 | 0,x,_,e=>by omega
 | n+1,x,hx,e=>by
  rcases h x hx with⟨a,c,d,f⟩ | ⟨y,c,d⟩
  ·simp only[av,c];exact rI I b Q h n a d (by omega)
  ·exact⟨y,by simp only[av,c],d⟩
def D3(x:Int):0<=wrap .u8 x/\wrap .u8 x<256:=by
 show 0<=x%256/\x%256<256;omega
def gJ(x:Int)(b:0<=x)(a:x<256):wrap .u8 x=x:=by
 show x%256=x;omega
def MZ(x:Int):wrap .u8 x=x%256:=rfl
def wrap_i64(x:Int)(b:-9223372036854775808<=x)(a:x<9223372036854775808):wrap .i64 x=x:=by
 simp only[wrap,IntKind.signed,IntKind.bits];simp;omega
theorem wd{x:Int}(h:-9223372036854775808<=x:=by omega)(k:x<9223372036854775808:=by omega):wrap .i64 x=x:=wrap_i64 x h k
def fh{l:aa}{i:Nat}{c:UInt8}(h:l[i]?=some c):sx l (i:Int)=some c:=by
 simp[sx,h]
def dh{n i:Nat}(h:i<n):ix n (i:Int)=some i:=by
 simp[ix];omega
def de{n i:Nat}(h:i<=n):bx n (i:Int)=some i:=by
 simp[bx];omega
def Dp{l:aa}{i:Nat}{c:UInt8}(h:l[i]?=some c)(hc:c.toNat<128):dec l i=(c.toNat,1):=by
 have hlt:i<l.length:=by
  rcases aN i l.length with h' | h'
  ·exact h'
  ·rw[gS h']at h;cases h
 have hs:i<(ByteArray.mk l.toArray).size:=hlt;have hg:(ByteArray.mk l.toArray)[i]'hs=c:=by
  rw[ba hlt]at h;simp only[aw]at h;exact h
 unfold dec;rw[decode_ascii _ i hs (by rw[hg];exact hc),hg]
def Lo{l:aa}{i:Nat}{c:UInt8}(h:l[i]?=some c)(hc:128<=c.toNat):128<=(dec l i).1/\1<=(dec l i).2:=by
 have hlt:i<l.length:=by
  rcases aN i l.length with h' | h'
  ·exact h'
  ·rw[gS h']at h;cases h
 have hs:i<(ByteArray.mk l.toArray).size:=hlt;have hg:(ByteArray.mk l.toArray)[i]'hs=c:=by
  rw[ba hlt]at h;simp only[aw]at h;exact h
 unfold dec;exact decode_high _ i hs (by rw[hg];exact hc)
def wj{α:Type}{l:List α}{i:Nat}{c:α}(h:l[i]?=some c):i<l.length:=by
 rcases aN i l.length with a | a
 ·exact a
 ·rw[gS a]at h;cases h
def da{α:Type}{l:List α}{i:Nat}{c:α}(h:l[i]?=some c):l.drop i=c::l.drop (i+1):=by
 have a:=wj h;rw[ba a]at h;simp only[aw]at h;rw[<-h,qj a]
def iQ{α β:Type}[BEq α][LawfulBEq α][DecidableEq α](a b:α)(x y:β):(cond (a==b) x y)=if a=b then x else y:=by
 by_cases h:a=b
 ·subst h;simp
 ·rw[aL.2 h];simp[h]
def yA{α β:Type}[BEq α][LawfulBEq α][DecidableEq α](a b:α)(x y:β):(cond (a != b) x y)=if a=b then y else x:=by
 by_cases h:a=b
 ·subst h;simp
 ·rw[bne,aL.2 h];simp[h]
def bN{β:Type}(p:Prop)[Decidable p](x y:β):(cond (decide p) x y)=if p then x else y:=by
 by_cases h:p<;>simp[h]
def KN{β:Type}(b:Bool)(x y:β):(cond (!b) x y)=cond b y x:=by cases b<;>rfl
def jV(a b:Nat):(decide ((a:Int)<(b:Int)))=decide (a<b):=by
 by_cases h:a<b<;>simp[h]
def m8(a b:Nat):(decide ((a:Int)>=(b:Int)))=decide (b<=a):=by
 by_cases h:b<=a<;>simp[h]
def qm(c d:UInt8):((c.toNat:Int)==(d.toNat:Int))=(c==d):=by
 by_cases h:c=d
 ·subst h;simp
 ·have b:c.toNat≠d.toNat:=λe=>h (ii.1 e);have a:(c.toNat:Int)≠(d.toNat:Int):=by omega
  rw[aL.2 a,aL.2 h]
def ac8(c:UInt8):UInt8.ofNat (Int.toNat (c.toNat:Int))=c:=by simp
def two(c:Nat):aa:=[UInt8.ofNat (48+c / 10),UInt8.ofNat (48+c%10)]
def sea(m:aa):Int:=match(List.range 21).find? (λj=>m==two (21+j))with | some j=>((21+j:Nat):Int) | none=>0
def lT{j:Nat}(a:j<21):sea (two (21+j))=((21+j:Nat):Int):=by
 have:((List.range 21).all λj=>sea (two (21+j))==((21+j:Nat):Int))=true:=by decide +kernel
 simpa using(List.all_eq_true.1 this) j (by simpa using a)
def qs(m:aa):sea m=0\/∃j,j<21/\m=two (21+j):=by
 unfold sea;split
 ·rename_i j h;have a:=List.find?_some h;have b:=List.mem_of_find?_eq_some h;exact .inr ⟨j,by simpa using b,by simpa using a⟩
 ·exact .inl rfl
def sF{b:UInt8}{d:Nat}(h:Lib.digitVal b=some d):d<10/\b.toNat=48+d:=by
 unfold Lib.digitVal at h;split at h
 ·cases h;omega
 ·cases h
def Uh{a b:UInt8}{v:Int}(h:Lib.atoi [a,b]=some v)(o:21<=v)(p:v<42):∃j,j<21/\[a,b]=two (21+j)/\v=((21+j:Nat):Int):=by
 obtain⟨b0,r,e,k⟩:=Lib.atoi_cases h;cases e;rcases k with⟨_,m,_,_,i⟩ | ⟨_,m,_,c,i⟩ | ⟨_,_,m,c,i⟩
 ·omega
 ·simp only[Lib.decFrom]at c;split at c
  ·rename_i d g;have:=(sF g).1;simp only[aw]at c;omega
  ·cases c
 ·simp only[Lib.decFrom]at c;split at c
  ·rename_i d g;split at c
   ·rename_i d' f;obtain⟨k1,k2⟩:=sF g;obtain⟨k3,k4⟩:=sF f;simp only[aw]at c;refine⟨m - 21,by omega,?_,by omega⟩;have l:(21+(m - 21)) / 10=d:=by omega
    have n:(21+(m - 21))%10=d':=by omega
    unfold two;rw[l,n,<-k2,<-k4];simp
   ·cases c
  ·cases c
def zq{j:Nat}(a:j<21):Lib.atoi (two (21+j))=some ((21+j:Nat):Int):=by
 have:((List.range 21).all λj=>Lib.atoi (two (21+j))==some ((21+j:Nat):Int))=true:=by decide +kernel
 simpa using(List.all_eq_true.1 this) j (by simpa using a)
def rH(n:Nat)(g l:Bool)(dg:aa)(x q:Int)(m d:aa)(k0 k1 k2:Int)(o:m.length<=18):bJ n g l dg x q m d k0 k1 k2=some (sea m,decide (0<sea m)):=by
 have h:Nat.ble m.length 18=true:=dc o;rcases qs m with i | ⟨j,c,rfl⟩
 ·unfold bJ;rw[h,i];show opt (Lib.atoi m) _ _=_;cases k:Lib.atoi m with
  | none=>rfl
  | some v=>
   show cond _ _ _=_;by_cases f:m.length=2
   ·rw[f];obtain⟨a,b,rfl⟩:∃a b,m=[a,b]:=by
     match m,f with
     | [a,b],_=>exact⟨a,b,rfl⟩
    show ob (eF n v) _=_;unfold eF;rw[bN,bN];split
    ·rfl
    ·split
     ·rfl
     ·exfalso;obtain⟨j,c,e,_⟩:=Uh k (by omega) (by omega);rw[e,lT c]at i;omega
   ·rw[show((m.length:Int) != 2)=true by simp;omega];rfl
 ·rw[lT c];have e:bJ n g l dg x q (two (21+j)) d k0 k1 k2=some (((21+j:Nat):Int),true):=by
   unfold bJ;rw[h,zq c];show ob (eF n ((21+j:Nat):Int)) _=_;unfold eF;rw[bN,bN,ad,ad];rfl
  rw[e];have:decide (0<((21+j:Nat):Int))=true:=by simp;omega
  rw[this]
def O2(n:Nat){c:Nat}(hc:c<100):bj n (c:Int)=some (two c):=by
 have j:Int.tdiv (c:Int) 10=((c / 10:Nat):Int):=by
  rw[show(10:Int)=((10:Nat):Int)from rfl,<-Int.ofNat_tdiv]
 have g:Int.tmod (c:Int) 10=((c%10:Nat):Int):=by
  rw[show(10:Int)=((10:Nat):Int)from rfl,<-Int.ofNat_tmod]
 have i:c / 10<10:=by omega
 have k:c%10<10:=by omega
 unfold bj;rw[j,g];have f:wrap .i64 ((c / 10:Nat):Int)=((c / 10:Nat):Int):=wrap_i64 _ (by omega) (by omega);have h:wrap .i64 (((c / 10:Nat):Int)+1)=((c / 10+1:Nat):Int):=by rw[wd];omega
 have d:wrap .i64 (((c%10:Nat):Int)+1)=((c%10+1:Nat):Int):=by rw[wd];omega
 rw[f,h,d,de (by omega),de (by omega)];show ob (bx (c / 10+1) ((c / 10:Nat):Int)) _=_;rw[de (by omega)];show ob (bx (c%10+1) ((c%10:Nat):Int)) _=_;rw[de (by omega)];unfold two;generalize c / 10=a at *;generalize c%10=b at *;have:((List.range 10).all λa=>(List.range 10).all λb=>ob (cat (List.drop a (List.take (a+1) ([48,49,50,51,52,53,54,55,56,57]:aa))) (List.drop b (List.take (b+1) ([48,49,50,51,52,53,54,55,56,57]:aa)))) (λs=>some s)==some [UInt8.ofNat (48+a),UInt8.ofNat (48+b)])=true:=by decide +kernel
 have e:=(cb.1 ((cb.1 this) a (by simpa using i))) b (by simpa using k);simpa using e
def Um{m:aa}(h:∀j,j<21->m≠two (21+j)):sea m=0:=by
 rcases qs m with b | ⟨j,a,e⟩
 ·exact b
 ·exact absurd e (h j a)
def za(n:Nat)(g l:Bool)(dg:aa)(x q:Int)(m d:aa)(k0 k1 k2:Int):∀(r j:Nat),j+r=21->(∀i,i<j->m≠two (21+i))->∀N,r<N->
  av (cq n) N (((21+j:Nat):Int),g,l,dg,x,q,m,d,k0,k1,k2)=some (if sea m=0 then .inr ()else .inl (sea m)):=by
 intro r
 induction r with
 | zero=>
  intro j e a N c;obtain⟨N,rfl⟩:∃k,N=k+1:=⟨N - 1,by omega⟩;have hs:sea m=0:=Um (λi hi=>a i (by omega));rw[av];have:cq n (((21+j:Nat):Int),g,l,dg,x,q,m,d,k0,k1,k2)=some (.inr (.inr ())):=by
   unfold cq;rw[bN,ab (by show¬(((21+j:Nat):Int)<=41);omega)]
  rw[this,ae hs]
 | succ r ih=>
  intro j e a N c;obtain⟨N,rfl⟩:∃k,N=k+1:=⟨N - 1,by omega⟩;rw[av];by_cases b:m=two (21+j)
  ·have hs:sea m=((21+j:Nat):Int):=by rw[b];exact lT (by omega)
   have:cq n (((21+j:Nat):Int),g,l,dg,x,q,m,d,k0,k1,k2)=some (.inr (.inl ((21+j:Nat):Int))):=by
    unfold cq;rw[bN,ae (by show((21+j:Nat):Int)<=41;omega)];show ob (bj n ((21+j:Nat):Int)) _=_;rw[O2 n (by omega)];show cond (m==two (21+j)) _ _=_;rw[iQ,ae b]
   rw[this,hs,ad]
  ·have:cq n (((21+j:Nat):Int),g,l,dg,x,q,m,d,k0,k1,k2)=some (.inl (((21+(j+1):Nat):Int),g,l,dg,x,q,m,d,k0,k1,k2)):=by
    unfold cq;rw[bN,ae (by show((21+j:Nat):Int)<=41;omega)];show ob (bj n ((21+j:Nat):Int)) _=_;rw[O2 n (by omega)];show cond (m==two (21+j)) _ _=_;rw[iQ,ab b];have:wrap .i64 (((21+j:Nat):Int)+1)=((21+(j+1):Nat):Int):=by rw[wd];omega
    show some (Sum.inl (wrap .i64 (((21+j:Nat):Int)+1),_))=_;rw[this]
   rw[this]
   exact ih (j+1) (by omega) (λi hi=>by
    rcases aN i j with h | h
    ·exact a i h
    ·have:i=j:=by omega
     rw[this];exact b) N (by omega)
def nl(n:Nat)(a:100<n)(g l:Bool)(dg:aa)(x q:Int)(m d:aa)(k0 k1 k2:Int):aC n g l dg x q m d k0 k1 k2=some (sea m):=by
 unfold aC;have:=za n g l dg x q m d k0 k1 k2 21 0 rfl (λi hi=>absurd hi (by omega)) n (by omega);rw[show((21+0:Nat):Int)=21 from rfl]at this;rw[this];by_cases h:sea m=0
 ·rw[ae h,h];rfl
 ·rw[ab h];rfl
def agr(s:aa)(k:Nat):Bool:=match s with
 | [a,b]=>(a==88||a==UInt8.ofNat (48+k / 10))&&(b==88||b==UInt8.ofNat (48+k%10))
 | _=>false
def eW(s:aa)(g:Nat):Bool:=(List.range g).any λi=>agr s (i+1)
def JJ{X Y:Type}{step:X->Option (X⊕Y)}{f:Nat->X}{p:Nat->Bool}{g:Nat}{yes no:Y}(h:∀k,1<=k->k<=g->step (f k)=some (if p k then .inr yes else .inl (f (k+1))))(e:step (f (g+1))=some (.inr no)){N:Nat}(b:g<N):
  av step N (f 1)=some (if(List.range g).any (λi=>p (i+1))then yes else no):=by
 have c:∀(r j:Nat),j+r=g->(∀i,i<j->p (i+1)=false)->∀N,r<N->av step N (f (j+1))=some (if(List.range g).any (λi=>p (i+1))then yes else no):=by
  intro r
  induction r with
  | zero=>
   intro j d a N b;obtain⟨N,rfl⟩:∃k,N=k+1:=⟨N - 1,by omega⟩;have:(List.range g).any (λi=>p (i+1))=false:=by
    rw[ud];intro i hi;rw[a i (by have:=il.1 hi;omega)];simp
   rw[av,show j+1=g+1 by omega,e,this];rfl
  | succ r ih=>
   intro j d a N b;obtain⟨N,rfl⟩:∃k,N=k+1:=⟨N - 1,by omega⟩;rw[av,h (j+1) (by omega) (by omega)];cases hp:p (j+1)with
   | true=>
    have:(List.range g).any (λi=>p (i+1))=true:=vk.2 ⟨j,il.2 (by omega),hp⟩;rw[this];rfl
   | false=>
    exact ih (j+1) (by omega) (λi hi=>by
     rcases aN i j with h | h
     ·exact a i h
     ·have:i=j:=by omega
      rw[this];exact hp) N (by omega)
 exact c g 0 (by omega) (λi hi=>absurd hi (by omega)) N b
def yf{a:UInt8}{k:Nat}(b:k<256):((a.toNat:Int)==(k:Int))=(a==UInt8.ofNat k):=by
 have h:(UInt8.ofNat k).toNat=k:=by simp;omega
 rw[<-qm,h]
def UC(n:Nat)(a b:UInt8){g k:Nat}(r:1<=k)(s:k<=g)(q:g<=31):
  dX n ([a,b],(g:Int),(k:Int))=some (if agr [a,b] k then .inr (.inl true)else .inl ([a,b],(g:Int),((k+1:Nat):Int))):=by
 have p:Int.tdiv (k:Int) 10=((k / 10:Nat):Int):=by
  rw[show(10:Int)=((10:Nat):Int)from rfl,<-Int.ofNat_tdiv]
 have l:Int.tmod (k:Int) 10=((k%10:Nat):Int):=by
  rw[show(10:Int)=((10:Nat):Int)from rfl,<-Int.ofNat_tmod]
 have m:wrap .u8 (48+wrap .u8 (wrap .i64 (Int.tdiv (k:Int) 10)))=((48+k / 10:Nat):Int):=by
  rw[p,wd,gJ ((k / 10:Nat):Int) (by omega) (by omega),gJ _ (by omega) (by omega)];omega
 have o:wrap .u8 (48+wrap .u8 (Int.tmod (k:Int) 10))=((48+k%10:Nat):Int):=by
  rw[l,gJ ((k%10:Nat):Int) (by omega) (by omega),gJ _ (by omega) (by omega)];omega
 have d:wrap .i64 ((k:Int)+1)=((k+1:Nat):Int):=by rw[wd];omega
 have c:(88:Int)=((88:Nat):Int):=rfl;have s0:sx [a,b] 0=some a:=rfl;have i:sx [a,b] 1=some b:=rfl;unfold dX;rw[bN,ae (show(k:Int)<=(g:Int)by omega)];simp only[s0,i,ob,m,o,d];rw[c,yf (by omega),yf (by omega),yf (by omega),yf (by omega)];show _=some (if((a==UInt8.ofNat 88||a==UInt8.ofNat (48+k / 10))&&(b==UInt8.ofNat 88||b==UInt8.ofNat (48+k%10)))=true then _ else _);generalize(a==UInt8.ofNat 88)=f;generalize(b==UInt8.ofNat 88)=e;generalize(a==UInt8.ofNat (48+k / 10))=j;generalize(b==UInt8.ofNat (48+k%10))=h;cases f<;>cases e<;>cases j<;>cases h<;>rfl
def Gs(n:Nat)(m:100<n)(s:aa)(g:Nat)(e:g<=31):dS n s (g:Int)=some (eW s g):=by
 unfold dS;by_cases c:s.length=2
 ·obtain⟨a,b,rfl⟩:∃a b,s=[a,b]:=by
   match s,c with
   | [a,b],_=>exact⟨a,b,rfl⟩
  have d:dX n ([a,b],(g:Int),((g+1:Nat):Int))=some (.inr (.inr ())):=by
   unfold dX;rw[bN,ab (show¬((g+1:Nat):Int)<=(g:Int)by omega)]
  have:=JJ (f:=λk=>([a,b],(g:Int),(k:Int))) (p:=agr [a,b]) (g:=g) (N:=n) (λk j l=>UC n a b j l e) d (by omega);show ob (av (dX n) n ([a,b],(g:Int),((1:Nat):Int))) _=_;rw[this];unfold eW;split<;>simp_all[ob]
 ·rw[show((s.length:Int) != 2)=true by simp;omega];have:eW s g=false:=by
   unfold eW;rw[ud];intro i _
   match s,c with
   | [],_=>simp[agr]
   | [_],_=>simp[agr]
   | [_,_],h=>exact absurd rfl h
   | _::_::_::_,_=>simp[agr]
  rw[this];rfl
def xK(n:Nat)(s:aa)(k:Nat)(o:k<100):fe n s (k:Int)=some (if agr s k then 1 else 0):=by
 unfold fe;rw[O2 n o];show cond _ _ _=_;by_cases d:s.length=2
 ·obtain⟨a,b,rfl⟩:∃a b,s=[a,b]:=by
   match s,d with
   | [a,b],_=>exact⟨a,b,rfl⟩
  have s0:sx [a,b] 0=some a:=rfl;have j:sx [a,b] 1=some b:=rfl;have m:sx (two k) 0=some (UInt8.ofNat (48+k / 10)):=rfl;have f:sx (two k) 1=some (UInt8.ofNat (48+k%10)):=rfl;have c:(88:Int)=((88:Nat):Int):=rfl;rw[show(((([a,b]:aa).length:Nat):Int)==2)=true from rfl];simp only[s0,j,m,f,ob,ah];rw[c,yf (by omega),yf (by omega),qm,qm];show _=some (if((a==UInt8.ofNat 88||a==UInt8.ofNat (48+k / 10))&&(b==UInt8.ofNat 88||b==UInt8.ofNat (48+k%10)))=true then _ else _);generalize(a==UInt8.ofNat 88)=g;generalize(b==UInt8.ofNat 88)=e;generalize(a==UInt8.ofNat (48+k / 10))=l;generalize(b==UInt8.ofNat (48+k%10))=i;cases g<;>cases e<;>cases l<;>cases i<;>rfl
 ·rw[show((s.length:Int)==2)=false by simp;omega];have:agr s k=false:=by
   match s,d with
   | [],_=>rfl
   | [_],_=>rfl
   | [_,_],h=>exact absurd rfl h
   | _::_::_::_,_=>rfl
  rw[this];rfl
def KG(n:Nat)(d:100<n)(s:aa)(g:Nat)(c:g<=31):ew n s (g:Int)=some (if eW s g then 1 else 0):=by
 unfold ew;have b:eH n (s,(g:Int),((g+1:Nat):Int))=some (.inr (.inr ())):=by
  unfold eH;rw[bN,ab (show¬((g+1:Nat):Int)<=(g:Int)by omega)]
 have:=JJ (f:=λk=>(s,(g:Int),(k:Int))) (p:=agr s) (g:=g) (N:=n) (step:=eH n) (yes:=.inl 1) (no:=.inr ()) (λk e h=>by
  unfold eH;rw[bN,ae (show(k:Int)<=(g:Int)by omega)];show ob (fe n s (k:Int)) _=_;rw[xK n s k (by omega)];have a:wrap .i64 ((k:Int)+1)=((k+1:Nat):Int):=by rw[wd];omega
  simp only[ob,a];cases agr s k<;>rfl) b (by omega)
 show ob (av (eH n) n (s,(g:Int),((1:Nat):Int))) _=_;rw[this];unfold eW;split<;>simp_all[ob]
def zf(n:Nat){a b:Int}(t:1<b)(o:b<1000)(s:-4611686018427387904<=a)(q:a<4611686018427387904):nH n a b=some (a / b,0):=by
 have k:(b==0)=false:=by simp;omega
 have l:(b==-1)=false:=by simp;omega
 unfold nH;simp only[k,l,af];have v:a / b*b+a%b=a:=Int.ediv_mul_add_emod a b;have u:=O6 a (show b≠0 by omega);have j:=OU a (show 0<b by omega);have m:-4611686018427387904<=a / b:=by
  rw[Int.le_ediv_iff_mul_le (by omega)];have:(-4611686018427387904:Int)*b<=-4611686018427387904*1:=Int.mul_le_mul_of_nonpos_left (by omega) (by omega);omega
 have p:a / b<4611686018427387904:=by
  rw[Int.ediv_lt_iff_lt_mul (by omega)];have:(4611686018427387904:Int)*1<=4611686018427387904*b:=Int.mul_le_mul_of_nonneg_left (by omega) (by omega);omega
 by_cases g:0<=a
 ·have d:Int.tdiv a b=a / b:=VW g;have e:decide (a<0)=false:=by simp;omega
  have d2:decide (b<0)=false:=by simp;omega
  rw[d,e,d2,wrap_i64 (a / b) (by omega) (by omega)];cases(Int.tmod a b != 0)<;>rfl
 ·have e:decide (a<0)=true:=by simp;omega
  have d2:decide (b<0)=false:=by simp;omega
  have d:=Int.tdiv_eq_ediv (a:=a) (b:=b);have i:=Qz (a:=a) (b:=b);rw[e,d2];by_cases c:b∣a
  ·have f:Int.tmod a b=0:=by
    rw[i,ae (.inr c)];have:=Int.emod_eq_zero_of_dvd c;omega
   rw[f,d,ae (.inr c)];rw[Int.add_zero,wrap_i64 (a / b) (by omega) (by omega)];rfl
  ·have r:a%b≠0:=λh=>c (NN h);have f:(Int.tmod a b != 0)=true:=by
    rw[i,ab (by rintro(h | h);exact g h;exact c h)];simp;omega
   have hs:b.sign=1:=Int.sign_eq_one_of_pos (by omega);rw[f,d,ab (by rintro(h | h);exact g h;exact c h),hs];rw[wrap_i64 (a / b+1) (by omega) (by omega),Int.add_sub_cancel,wrap_i64 (a / b) (by omega) (by omega)];rfl
def Z4(n:Nat){a b:Int}(m:1<b)(i:b<1000):yX n a b=some (a%b,0):=by
 have f:(b==0)=false:=by simp;omega
 have g:(b==-1)=false:=by simp;omega
 unfold yX;simp only[f,g,af];have o:=O6 a (show b≠0 by omega);have e:=OU a (show 0<b by omega);have c:=Qz (a:=a) (b:=b);have d2:decide (b<0)=false:=by simp;omega
 by_cases hc:0<=a\/b∣a
 ·rw[ae hc]at c;have:Int.tmod a b=a%b:=by omega
  rw[this,d2];have d:decide (a%b<0)=false:=by simp;omega
  rw[d];cases h:(a%b != 0)
  ·rfl
  ·rfl
 ·rw[ab hc]at c;have k:(b.natAbs:Int)=b:=by omega
  rw[k]at c;have l:a%b≠0:=λh=>hc (.inr (NN h));have j:(Int.tmod a b != 0)=true:=by simp;omega
  have d:decide (Int.tmod a b<0)=true:=by simp;omega
  rw[j,d,d2,c,wd,Nx];rfl
def eT(y:Int):Prop:=-10000000000000000<=y/\y<=10000000000000000
instance (y:Int):Decidable (eT y):=by unfold eT;infer_instance
def iw(n:Nat)(y:Int):kG n y=some (if eT y then 0 else 6):=by
 unfold kG;rw[bN,bN];by_cases a:y < -10000000000000000
 ·rw[ae a,ab (show¬eT y by unfold eT;omega)]
 ·by_cases b:y>10000000000000000
  ·rw[ab a,ae b,ab (show¬eT y by unfold eT;omega)]
  ·rw[ab a,ab b,ae (show eT y by unfold eT;omega)]
def vq(n:Nat){y:Int}(h:-20000000000000000<=y/\y<=20000000000000000):∃z,gA n y=some z:=by
 unfold gA;rw[wrap_i64 (y - 1) (by omega) (by omega),zf n (by omega) (by omega) (by omega) (by omega),zf n (by omega) (by omega) (by omega) (by omega),zf n (by omega) (by omega) (by omega) (by omega)];exact⟨_,rfl⟩
def PR(n:Nat){y:Int}(h:eT y):∃b e,lX n y=some (b,e):=by
 unfold lX;have h':=h;unfold eT at h';obtain⟨z1,c⟩:=vq n (y:=y+1) (by omega);obtain⟨z2,a⟩:=vq n (y:=y) (by omega);rw[iw,ae h,wrap_i64 (y+1) (by omega) (by omega),c,a];exact⟨_,_,rfl⟩
def vH(n:Nat){y:Int}(h:eT y){m:Nat}(d:1<=m)(c:m<=12):∃v,fj n y (m:Int)=some v:=by
 unfold fj;obtain⟨b,e,a⟩:=PR n h;rw[a];show ∃v,cond (b&&((m:Int)==2)) _ _=some v;cases(b&&((m:Int)==2))with
 | true=>exact⟨_,rfl⟩
 | false=>
  have:wrap .i64 ((m:Int) - 1)=((m - 1:Nat):Int):=by rw[wd];omega
  rw[this,dh (by omega)];have a:yY.length=12:=rfl;exact⟨_,ba (show m - 1<yY.length by omega)⟩
def Lp(n:Nat){y:Int}(h:eT y){m:Nat}(a:1<=m)(b:m<=12):mb n y (m:Int)=some 0:=by
 unfold mb;rw[iw,ae h];show cond (decide ((m:Int)<1)) _ _=_;rw[bN,bN,ad,ad]
def Nl(n:Nat){y:Int}(h:eT y){m:Nat}(e:m<=11):∀(r j:Nat),j+r=m->∀(a:Int) (N:Nat),r<N->∃v,av (ca n) N (y,a,(m:Int),(j:Int))=some v:=by
 intro r
 induction r with
 | zero=>
  intro j b a N d;obtain⟨N,rfl⟩:∃k,N=k+1:=⟨N - 1,by omega⟩;have:ca n (y,a,(m:Int),(j:Int))=some (.inr a):=by
   unfold ca;rw[bN,ab (show¬((j:Int)<(m:Int))by omega)]
  rw[av,this];exact⟨_,rfl⟩
 | succ r ih=>
  intro j b a N d;obtain⟨N,rfl⟩:∃k,N=k+1:=⟨N - 1,by omega⟩;obtain⟨v,c⟩:=vH n h (m:=j+1) (by omega) (by omega);have w:wrap .i64 ((j:Int)+1)=((j+1:Nat):Int):=by rw[wd];omega
  have:ca n (y,a,(m:Int),(j:Int))=some (.inl (y,wrap .i64 (a+v),(m:Int),((j+1:Nat):Int))):=by
   unfold ca;rw[bN,ae (show((j:Int)<(m:Int))by omega)];simp only[w,c,ob]
  rw[av,this];exact ih (j+1) (by omega) _ N (by omega)
def NK(n:Nat)(d:100<n){y:Int}(h:eT y){m:Nat}(c:1<=m)(b:m<=12):∃v,gy n y (m:Int)=some (v,0):=by
 unfold gy nz nq;have h':=h;unfold eT at h';obtain⟨z,e⟩:=vq n (y:=y) (by omega);have w:wrap .i64 ((m:Int) - 1)=((m - 1:Nat):Int):=by rw[wd];omega
 rw[Lp n h c b,iw,ae h,e,w];obtain⟨v,a⟩:=Nl n h (m:=m - 1) (by omega) (m - 1) 0 (by omega) (wrap .i64 (wrap .i64 (365*y)+z)) n (by omega);refine⟨v,?_⟩;show ob (av (ca n) n (y,wrap .i64 (wrap .i64 (365*y)+z),((m - 1:Nat):Int),((0:Nat):Int))) _=_;rw[a];rfl
def madd(n:Nat){y:Int}(h:eT y){m c:Nat}(j:1<=m)(k:m<=12)(hc:1<=c)(i:c<=6):rq n y (m:Int) (wrap .i64 ((c:Int) - 1)) =
  some (if 12<m+c - 1 then(if y=10000000000000000 then(0,0,6)else(y+1,((m+c - 1 - 12:Nat):Int),0))else(y,((m+c - 1:Nat):Int),0)):=by
 have h':=h;unfold eT at h';unfold rq;rw[Lp n h j k,wrap_i64 (12*y) (by omega) (by omega),wrap_i64 ((m:Int) - 1) (by omega) (by omega),wrap_i64 (12*y+((m:Int) - 1)) (by omega) (by omega),wrap_i64 ((c:Int) - 1) (by omega) (by omega)];have g:uE n (12*y+((m:Int) - 1)) ((c:Int) - 1)=some (12*y+((m:Int) - 1)+((c:Int) - 1),0):=by
  unfold uE;rw[wrap_i64 (12*y+((m:Int) - 1)+((c:Int) - 1)) (by omega) (by omega),iQ];by_cases b:(c:Int) - 1=0
  ·rw[ae b];have a:decide (12*y+((m:Int) - 1)>12*y+((m:Int) - 1))=false:=by simp
   have d2:decide ((c:Int) - 1>0)=false:=by simp;omega
   rw[a,d2,b,Int.add_zero];rfl
  ·rw[ab b];have a:decide (12*y+((m:Int) - 1)+((c:Int) - 1)>12*y+((m:Int) - 1))=true:=by simp;omega
   have d2:decide ((c:Int) - 1>0)=true:=by simp;omega
   rw[a,d2];rfl
 simp only[ob,g,fU,af];rw[zf n (by omega) (by omega) (by omega) (by omega),Z4 n (by omega) (by omega)];simp only[iw];by_cases f:12<m+c - 1
 ·have e:(12*y+((m:Int) - 1)+((c:Int) - 1)) / 12=y+1:=by omega
  have d:(12*y+((m:Int) - 1)+((c:Int) - 1))%12=((m+c - 1 - 12:Nat):Int) - 1:=by omega
  rw[e,d,ae f];by_cases hy:y=10000000000000000
  ·rw[ae hy,ab (show¬eT (y+1)by unfold eT;omega)];rfl
  ·rw[ab hy,ae (show eT (y+1)by unfold eT;omega),wrap_i64 (((m+c - 1 - 12:Nat):Int) - 1+1) (by omega) (by omega),Nx];rfl
 ·have e:(12*y+((m:Int) - 1)+((c:Int) - 1)) / 12=y:=by omega
  have d:(12*y+((m:Int) - 1)+((c:Int) - 1))%12=((m+c - 1:Nat):Int) - 1:=by omega
  rw[e,d,ab f,ae h,wrap_i64 (((m+c - 1:Nat):Int) - 1+1) (by omega) (by omega),Nx];rfl
def Lh{j:Nat}(f:j<21):∃m c:Nat,pR[j]?=some ((m:Int),(c:Int))/\1<=m/\m<=12/\1<=c/\c<=6/\(12<m+c - 1↔j=3\/j=7\/j=9):=by
 have:((List.range 21).all λj=>match pR[j]? with
  | some (m,c)=>decide (0<=m)&&decide (0<=c)&&decide (1<=m.toNat)&&decide (m.toNat<=12)&&decide (1<=c.toNat)&&decide (c.toNat<=6)&&(decide (12<m.toNat+c.toNat - 1)==decide (j=3\/j=7\/j=9))
  | none=>false)=true:=by decide +kernel
 have h:=(cb.1 this) j (by simpa using f);split at h
 ·rename_i m c e;simp only[aD,cK,bA,jr]at h;obtain⟨⟨⟨⟨⟨⟨k,l⟩,b⟩,a⟩,i⟩,d⟩,g⟩:=h;exact⟨m.toNat,c.toNat,by rw[e,Ko k,Ko l],b,a,i,d,g⟩
 ·cases h
def aaW(n:Nat)(l:100<n){y:Int}(h:eT y){j:Nat}(r:j<21):
  ∃a b c d,jH n y ((21+j:Nat):Int)=some (a,b,c,d,if y=10000000000000000/\(j=3\/j=7\/j=9)then 6 else 0):=by
 obtain⟨m,c,e,t,w,A,z,s⟩:=Lh r;have C:gv n ((21+j:Nat):Int)=some ((m:Int),(c:Int),0):=by
  unfold gv eF;rw[bN,bN,ad,ad];have:wrap .i64 (((21+j:Nat):Int) - 21)=(j:Int):=by rw[wd];omega
  rw[this,dh r];show ob (pR[j]?) _=_;rw[e];rfl
 obtain⟨v,B⟩:=NK n l h t w;unfold jH;rw[C];show ∃a b c d,ob (gy n y (m:Int)) _=_;rw[B];show ∃a b q d,ob (rq n y (m:Int) (wrap .i64 ((c:Int) - 1))) _=_;rw[madd n h t w A z];have h':=h;unfold eT at h';by_cases i:12<m+c - 1
 ·rw[ae i];by_cases hy:y=10000000000000000
  ·rw[ae hy,ae ⟨hy,s.1 i⟩];exact⟨_,_,_,_,rfl⟩
  ·rw[ab hy,ab (λx=>hy x.1)];have g:eT (y+1):=by unfold eT;omega
   obtain⟨k,f⟩:=NK n l g (m:=m+c - 1 - 12) (by omega) (by omega);obtain⟨u,o⟩:=vH n g (m:=m+c - 1 - 12) (by omega) (by omega);have p:jh n (y+1) ((m+c - 1 - 12:Nat):Int)=some (wrap .i64 (wrap .i64 (k+u) - 1),0):=by
    unfold jh;rw[f,o];rfl
   show ∃a b q d,ob (jh n (y+1) ((m+c - 1 - 12:Nat):Int)) _=_;rw[p];exact⟨_,_,_,_,rfl⟩
 ·rw[ab i,ab (λx=>i (s.2 x.2))];obtain⟨k,f⟩:=NK n l h (m:=m+c - 1) (by omega) (by omega);obtain⟨u,o⟩:=vH n h (m:=m+c - 1) (by omega) (by omega);have p:jh n y ((m+c - 1:Nat):Int)=some (wrap .i64 (wrap .i64 (k+u) - 1),0):=by
   unfold jh;rw[f,o];rfl
  show ∃a b q d,ob (jh n y ((m+c - 1:Nat):Int)) _=_;rw[p];exact⟨_,_,_,_,rfl⟩
def hasB(set:aa)(c:UInt8):Bool:=set.any λd=>d==c
def sK(set:aa)(c:UInt8):(decide (Lib.indexByte set c<0))=!hasB set c:=by
 induction set with
 | nil=>simp[Lib.indexByte,hasB]
 | cons d l ih=>
  have f:=Lib.indexByte_ge l c;simp only[hasB,qG]at ih ⊢;unfold Lib.indexByte;by_cases h:d=c
  ·simp[h]
  ·have e:(d==c)=false:=by simpa using h
   simp only[e,bI,aF,qK];rw[<-ih];by_cases b:Lib.indexByte l c=-1
   ·simp[b]
   ·have a:(Lib.indexByte l c==-1)=false:=by simpa using b
    simp only[a,bI,aF];have:¬Lib.indexByte l c+1<0:=by omega
    have:¬Lib.indexByte l c<0:=by omega
    simp[*]
def sI(set:aa)(c:UInt8):(decide (Lib.indexByte set c>=0))=hasB set c:=by
 have:=sK set c;by_cases h:Lib.indexByte set c<0
 ·have a:¬Lib.indexByte set c>=0:=by omega
  simp only[h,a,qV,pM]at this ⊢;revert this;cases hasB set c<;>simp
 ·have a:Lib.indexByte set c>=0:=by omega
  simp only[h,a,qV,pM]at this ⊢;revert this;cases hasB set c<;>simp
def lcp:aa->aa->Nat
 | c::s,d::t=>if c==d then lcp s t+1 else 0
 | _,_=>0
def Bn:∀s t:aa,lcp s t<=s.length
 | [],_=>by simp[lcp]
 | _::_,[]=>by simp[lcp]
 | c::s,d::t=>by
  have:=Bn s t;simp only[lcp,aI];split<;>omega
def bS(p:UInt8->Bool):Nat->aa->Nat
 | 0,_=>0
 | _+1,[]=>0
 | k+1,c::l=>if p c then bS p k l+1 else 0
def nL(p:UInt8->Bool):∀(k:Nat) (l:aa),bS p k l<=l.length
 | 0,_=>by simp[bS]
 | _+1,[]=>by simp[bS]
 | k+1,c::l=>by
  have:=nL p k l;simp only[bS,aI];split<;>omega
def wS(n:Nat)(S:aa)(a:Nat)(h:a<=S.length):dn n S (a:Int)=some (S.drop a):=by
 simp[dn,ob,de h]
def HE(n:Nat)(s p:aa):kK n s p=some (s.take p.length==p):=by
 simp only[kK,iC,m8];by_cases h:p.length<=s.length
 ·simp[h,ob,de h]
 ·have:(s.take p.length==p)=false:=by
   rw[aL];intro e;have:=cf List.length e;rw[dN]at this;omega
  simp[h,ob,this]
def Ol(n:Nat)(t S:aa)(a:Nat)(h:a<=S.length):gD n t S (a:Int)=some ((S.drop a).take t.length==t):=by
 simp[gD,wS n S a h,ob,HE]
def o5(n:Nat)(t S:aa)(a:Nat)(h:a<=S.length)(d:S.length<4611686018427387904):
  aG n t S (a:Int)=some (if(S.drop a).take t.length=t then(true,S,((a+t.length:Nat):Int))else(false,S,(a:Int))):=by
 simp only[aG,Ol n t S a h,ob];by_cases hp:(S.drop a).take t.length=t
 ·have c:t.length<=S.length - a:=by
   have:=cf List.length hp;simp at this;omega
  have b:wrap .i64 ((a:Int)+(t.length:Int))=((a+t.length:Nat):Int):=by rw[wd];omega
  simp[hp,b]
 ·simp only[KN,iQ,hp,aF]
def GG(n:Nat)(S:aa)(i:Int):bY n S i=some i:=rfl
def peek(l:aa):Int×Bool:=match l with | c::_=>((c.toNat:Int),true) | []=>(0,false)
def sB(n:Nat)(S:aa)(a:Nat)(h:a<=S.length):bG n S (a:Int)=some (peek (S.drop a)):=by
 simp only[bG,wS n S a h,ob];rcases aN a S.length with b | d
 ·obtain⟨c,hc⟩:∃c,S[a]?=some c:=⟨S[a],ba b⟩;rw[da hc];simp[fh hc,peek]
 ·rw[kW d];simp[peek]
def yC(n:Nat)(a e:Int)(S:aa)(i:Int):aW n a e S i=some (a,if e=0 then 5 else e):=by
 simp only[aW,iQ];by_cases h:e=0<;>simp[h]
def iM(n:Nat)(set:aa)(c:UInt8):ee n set (c.toNat:Int)=some (Lib.indexByte set c):=by
 simp only[ee,dP,ob,ac8]
def Ek(n:Nat)(set S:aa)(a:Nat)(h:a<=S.length)(f:S.length<4611686018427387904):
  cZ n set S (a:Int)=some (match S.drop a with | c::_=>if hasB set c then .inr ((c.toNat:Int),S,((a+1:Nat):Int))else .inl ((a:Int),5,S,(a:Int)) | []=>.inl ((a:Int),5,S,(a:Int))):=by
 simp only[cZ,sB n S a h,ob];rcases aN a S.length with d | b
 ·obtain⟨c,hc⟩:∃c,S[a]?=some c:=⟨S[a],ba d⟩;have e:wrap .i64 ((a:Int)+1)=((a+1:Nat):Int):=by rw[wd];omega
  rw[da hc];simp only[peek,dU,af,iM,sK,GG,yC,ob,e];cases hasB set c<;>simp
 ·rw[kW b];simp[peek,GG,yC,ob]
def sc(S:aa)(a k:Nat):List.drop a (List.take (a+k) S)=(S.drop a).take k:=by
 rw[Bi];congr 1;omega
def Du(n:Nat)(set:aa)(b most:Int)(S:aa)(a:Nat)(h:a<=S.length)(q:S.length<4611686018427387904)(p:S.length<n):
  av (dL n) n (set,b,most,(a:Int),(peek (S.drop a)).1,(peek (S.drop a)).2,S,(a:Int)) =
   some (b,(a:Int),S,((a+bS (hasB set) most.toNat (S.drop a):Nat):Int)):=by
 have:=gL (step:=dL n)
  (λx=>∃j:Nat,a+j<=S.length/\x=(set,b,most,(a:Int),(peek (S.drop (a+j))).1,(peek (S.drop (a+j))).2,S,((a+j:Nat):Int)))
  (λx=>S.length - x.2.2.2.2.2.2.2.toNat)
  (λx=>(b,(a:Int),S,((x.2.2.2.2.2.2.2.toNat+bS (hasB set) (most.toNat - (x.2.2.2.2.2.2.2.toNat - a)) (S.drop x.2.2.2.2.2.2.2.toNat):Nat):Int))) ?_ n
  (set,b,most,(a:Int),(peek (S.drop a)).1,(peek (S.drop a)).2,S,(a:Int)) ⟨0,by omega,by simp⟩ (by simp;omega)
 ·simpa using this
 rintro x ⟨j,o,rfl⟩;simp only[co];have d:wrap .i64 (((a+j:Nat):Int) - (a:Int))=(j:Int):=by rw[wd];omega
 rcases aN (a+j) S.length with f | e
 ·obtain⟨c,hc⟩:∃c,S[a+j]?=some c:=⟨S[a+j],ba f⟩;have i:wrap .i64 (((a+j:Nat):Int)+1)=((a+(j+1):Nat):Int):=by rw[wd];omega
  simp only[dL,da hc,peek,ah,d];by_cases g:(j:Int)<most
  ·obtain⟨k,l⟩:∃k,most.toNat - (a+j - a)=k+1:=⟨most.toNat - j - 1,by omega⟩;simp only[g,qV,ah,iM,ob,sI,l,bS];cases m:hasB set c with
   | true=>
    simp only[i,sB n S (a+(j+1)) (by omega),ah];refine .inl ⟨_,rfl,⟨j+1,by omega,rfl⟩,?_,?_⟩
    ·simp only[co];omega
    ·simp only[co,bP,lL,aS];have:most.toNat - (a+(j+1) - a)=k:=by omega
     rw[this,show a+(j+1)=a+j+1 by omega];omega
   | false=>exact .inr (by simp)
  ·refine .inr ?_;have:most.toNat - (a+j - a)=0:=by omega
   simp only[g,pM,af,this,bS,dj]
 ·refine .inr ?_;simp only[dL,kW e,peek,af];have:bS (hasB set) (most.toNat - (a+j - a)) []=0:=by cases most.toNat - (a+j - a)<;>rfl
  simp only[this,dj]
def yH(n:Nat)(set:aa)(b most:Int)(S:aa)(a:Nat)(h:a<=S.length)(g:S.length<4611686018427387904)(f:S.length<n):
  cH n set b most S (a:Int)=some (if((bS (hasB set) most.toNat (S.drop a):Nat):Int)<b
   then .inl (((a+bS (hasB set) most.toNat (S.drop a):Nat):Int),5,S,((a+bS (hasB set) most.toNat (S.drop a):Nat):Int))
   else .inr ((S.drop a).take (bS (hasB set) most.toNat (S.drop a)),S,((a+bS (hasB set) most.toNat (S.drop a):Nat):Int))):=by
 have e:=nL (hasB set) most.toNat (S.drop a);rw[cg]at e;simp only[cH,GG,sB n S a h,ob];rw[Du n set b most S a h g f];generalize bS (hasB set) most.toNat (S.drop a)=k at e ⊢;have c:wrap .i64 (((a+k:Nat):Int) - (a:Int))=(k:Int):=by rw[wd];omega
 simp only[c,yC];by_cases d:(k:Int)<b
 ·simp[d]
 ·simp only[d,pM,af,aF];rw[de (by omega)];simp only;rw[de (by omega)];simp only[sc]
def Wq(a b:Nat):(cond (decide ((a:Int)<(b:Int))) (a:Int) (b:Int))=((min a b:Nat):Int):=by
 by_cases h:a<b
 ·simp[h];omega
 ·simp[h];omega
def asc(l:aa):Prop:=∀c∈l,c.toNat<128
def Oy(r:Int)(h:128<=r):∃p e,(Utf8.encode r).data.toList=p++[e]/\1<=p.length/\p.length<=3/\128<=e.toNat:=by
 unfold Utf8.encode;have hc:128<=(if Utf8.valid r then r.toNat else Utf8.runeError):=by
  split
  ·omega
  ·decide
 generalize(if Utf8.valid r then r.toNat else Utf8.runeError)=c at hc;have a:128<=(UInt8.ofNat (0x80+c%64)).toNat:=by
  simp only[IN];omega
 simp only;split
 ·omega
 ·split
  ·exact⟨[_],_,rfl,by simp,by simp,a⟩
  ·split
   ·exact⟨[_,_],_,rfl,by simp,by simp,a⟩
   ·exact⟨[_,_,_],_,rfl,by simp,by simp,a⟩
def NH{l:aa}(h:asc l){i:Nat}{c:UInt8}(hi:l[i]?=some c):c.toNat<128:=h c (fR hi)
def HF(n:Nat)(set:aa)(h:asc set)(e:set.length<n):av (eJ n) n (set,0)=some (.inr ()):=by
 refine gL (step:=eJ n) (λx=>x.1=set) (λx=>set.length - x.2) (λx=>.inr ()) ?_ n _ rfl (by simp;omega);rintro⟨s,i⟩ rfl;simp only[eJ];by_cases hi:i<s.length
 ·have b:Nat.blt i s.length=true:=dc hi;obtain⟨c,hc⟩:∃c,s[i]?=some c:=⟨s[i],ba hi⟩;have a:=NH h hc;have d:((c.toNat:Int)==65533)=false:=by rw[aL];omega
  simp only[b,ah,Dp hc a,d,af];exact .inl ⟨_,rfl,rfl,by simp only;omega,trivial⟩
 ·have b:Nat.blt i s.length=false:=by
   cases b:Nat.blt i s.length with
   | false=>rfl
   | true=>exact absurd (aR b) (by omega)
  simp only[b,af];exact .inr trivial
def BA{l:aa}{c:UInt8}(h:c∉l):Lib.indexByte l c<0:=by
 have b:=sK l c;have d:hasB l c=false:=by
  unfold hasB;rw[ud];intro x hx a;simp only[bA]at a;exact h (a▸hx)
 rw[d]at b;simpa using b
def GU(n:Nat)(set:aa)(h:asc set)(q:set.length<n)(hs:set.length<=100)(r:Int)(t:128<=r):eZ n set r=some (-1):=by
 have x:decide ((0:Int)<=r)=true:=ar (by omega);have z:decide (r<128)=false:=au (by omega);simp only[eZ,x,z,ah,af];by_cases b:r=65533
 ·have:(r==65533)=true:=bA.2 b;simp only[this,ah,HF n set h q,ob]
 ·have:(r==65533)=false:=aL.2 b;simp only[this,af];obtain⟨v,l⟩:∃v,eS n r=some v:=by
   unfold eS;generalize decide ((0:Int)<=r)=s;generalize decide (r<55296)=d2;generalize decide ((57343:Int)<r)=w;generalize decide (r<=1114111)=d4;cases s<;>cases d2<;>cases w<;>cases d4<;>exact⟨_,rfl⟩
  simp only[l,ob];cases v with
  | false=>rfl
  | true=>
   simp only[dU,af];obtain⟨p,e,hp,A,u,B⟩:=Oy r t;simp only[hp];have y:wrap .i64 (((p++[e]).length:Nat) - 1:Int)=(p.length:Int):=by
    rw[wrap_i64 _ (by simp<;>omega) (by simp<;>omega)];simp
   rw[y];obtain⟨m,rfl⟩:∃m,n=m+1:=⟨n - 1,by omega⟩;have a:eM (m+1) (set,p++[e],(p.length:Int),(p.length:Int))=some (.inr (.inl (-1)))\/eM (m+1) (set,p++[e],(p.length:Int),(p.length:Int))=some (.inr (.inr ())):=by
    simp only[eM,jV];by_cases g:p.length<set.length
    ·obtain⟨c,hc⟩:∃c,set[p.length]?=some c:=⟨set[p.length],ba g⟩;have k:=NH h hc;have j:(p++[e])[p.length]?=some e:=by simp
     have f:((c.toNat:Int) != (e.toNat:Int))=true:=by simp only[bne,ko,aL];omega
     have i:wrap .i64 ((p.length:Int)+1)=((p.length+1:Nat):Int):=by rw[wd];omega
     have hx:e∉List.drop (p.length+1) (List.take set.length set):=by
      intro o;have:=h e (by simpa using List.mem_of_mem_drop o);omega
     left;simp only[g,qV,ah,fh hc,fh j,ob,f,i,de (show p.length+1<=set.length by omega),iM,BA hx]
    ·right;simp only[g,pM,af]
   rcases a with d | d<;>simp only[av,d,ob]
def BE(n:Nat)(set:aa)(c:UInt8)(r:Int)(b:r=(c.toNat:Int))(hc:c.toNat<128):eZ n set r=some (Lib.indexByte set c):=by
 have d:decide ((0:Int)<=r)=true:=ar (by omega);have f:decide (r<128)=true:=ar (by omega);have e:wrap .u8 r=r:=gJ _ (by omega) (by omega);have a:ee n set r=some (Lib.indexByte set c):=by rw[b];exact iM n set c
 simp only[eZ,d,f,ah,e,a,ob]
def EA(n:Nat)(set:aa)(c:UInt8)(hc:c.toNat<128):eZ n set (c.toNat:Int)=some (Lib.indexByte set c):=BE n set c _ rfl hc
def yk(n:Nat)(set:aa)(c:UInt8)(hc:c.toNat<128):eN n set (c.toNat:Int)=some (hasB set c):=by
 simp only[eN,EA n set c hc,ob,sI]
def AG(n:Nat)(set:aa)(h:asc set)(a:set.length<n)(hs:set.length<=100)(r:Int)(b:128<=r):eN n set r=some false:=by
 simp only[eN,GU n set h a hs r b,ob];rfl
def yy(x:Int)(b:0<=x)(a:x<65536):wrap .u16 x=x:=by
 show x%65536=x;omega
def oe(w a:Nat):BitVec.ofInt w (a:Int)=BitVec.ofNat w a:=by
 apply BitVec.eq_of_toNat_eq;simp
def XK(k:Nat):(2:Int) ^ k=((2 ^ k:Nat):Int):=by simp
def TK(a k:Nat):Int.fdiv (a:Int) (2 ^ k)=((a / 2 ^ k:Nat):Int):=by
 rw[XK k,Int.fdiv_eq_ediv_of_nonneg _ (Int.natCast_nonneg _)];rfl
def inR(lo hi:Int)(c:UInt8):Bool:=decide ((c.toNat:Int)>=lo)&&decide ((c.toNat:Int)<=hi)
def cnt(lo hi:Int)(l:aa):Nat:=l.countP (inR lo hi)
def Qj(lo hi:Int)(l:aa):cnt lo hi l<=l.length:=List.countP_le_length
def Tj(lo hi:Int){l:aa}{i:Nat}{c:UInt8}(h:l[i]?=some c):cnt lo hi (l.take (i+1))=cnt lo hi (l.take i)+if inR lo hi c then 1 else 0:=by
 unfold cnt;rw[tu,h,List.countP_append];simp[Q7]
def J7(n:Nat)(s:aa)(lo hi:Int)(hs:s.length<n)(l:s.length<100000):iD n s lo hi=some ((cnt lo hi s:Nat):Int):=by
 have:=gL (step:=jb n) (λx=>∃i:Nat,i<=s.length/\x=(s,lo,hi,((cnt lo hi (s.take i):Nat):Int),(i:Int))) (λx=>s.length - x.2.2.2.2.toNat) (λ_=>((cnt lo hi s:Nat):Int)) ?_ n (s,lo,hi,0,0) ⟨0,by omega,by simp[cnt]⟩ (by simp;omega)
 ·simp only[iD,this,ob]
 rintro x ⟨i,h,rfl⟩;rcases aN i s.length with a | g
 ·obtain⟨c,hc⟩:∃c,s[i]?=some c:=⟨s[i],ba a⟩;have b:=Tj lo hi hc;have e:=Qj lo hi (s.take i);rw[dN]at e;have j:wrap .i64 ((i:Int)+1)=((i+1:Nat):Int):=by rw[wd];omega
  have k:wrap .i64 (((cnt lo hi (s.take i):Nat):Int)+1)=((cnt lo hi (s.take i)+1:Nat):Int):=by rw[wd];omega
  refine .inl ⟨(s,lo,hi,((cnt lo hi (s.take (i+1)):Nat):Int),((i+1:Nat):Int)),?_,⟨i+1,a,rfl⟩,by simp only[co];omega,rfl⟩;simp only[jb,jV,a,qV,ah,fh hc,ob,j,k];rw[b];by_cases d:(c.toNat:Int)>=lo
  ·by_cases f:(c.toNat:Int)<=hi
   ·simp[d,f,inR]
   ·simp[d,f,inR]
  ·simp[d,inR]
 ·have:i=s.length:=by omega
  subst this;refine .inr ?_;simp only[jb,jV,Je,pM,af,oC]
def N5(lo hi:Int)(l:aa):cnt lo hi l=l.length↔∀c∈l,inR lo hi c=true:=by
 unfold cnt;rw[List.countP_eq_length]
def Tt(lo hi:Int)(l:aa):cnt lo hi l=0↔∀c∈l,inR lo hi c=false:=by
 unfold cnt;rw[List.countP_eq_zero];simp
def bv(c:UInt8):Bool:=inR 48 57 c
def cA(c:UInt8):bv c=true↔48<=c.toNat/\c.toNat<=57:=by
 unfold bv inR;simp only[aD,cK];omega
def Fv(c:UInt8):inR 88 88 c=true↔c=88:=by
 unfold inR;simp only[aD,cK];constructor
 ·intro h;apply ii.1;show c.toNat=88;omega
 ·rintro rfl;decide
def Oi(c:UInt8):inR 48 48 c=true↔c=48:=by
 unfold inR;simp only[aD,cK];constructor
 ·intro h;apply ii.1;show c.toNat=48;omega
 ·rintro rfl;decide
def Rl:∀l:aa,cnt 48 57 l+cnt 88 88 l<=l.length/\(cnt 48 57 l+cnt 88 88 l=l.length↔∀c∈l,bv c=true\/c=88)
 | []=>by simp[cnt]
 | c::l=>by
  have ih:=Rl l;have g:cnt 48 57 (c::l)=cnt 48 57 l+if inR 48 57 c then 1 else 0:=by simp[cnt,Q7]
  have f:cnt 88 88 (c::l)=cnt 88 88 l+if inR 88 88 c then 1 else 0:=by simp[cnt,Q7]
  have h:¬(inR 48 57 c=true/\inR 88 88 c=true):=by
   rintro⟨a,b⟩;have:=(cA c).1 a;rw[(Fv c).1 b]at this;exact absurd this.2 (by decide)
  rw[g,f,aI];simp only[ck,Et];have hx:=Fv c;have d:bv c=inR 48 57 c:=rfl;rw[d];cases a:inR 48 57 c<;>cases b:inR 88 88 c
  ·simp only[a,b]at hx ⊢;have:c≠88:=λe=>by simpa using hx.2 e
   simp[this];omega
  ·simp only[a,b]at hx ⊢;have:c=88:=hx.1 trivial;simp only[this,bI,aS,aF,false_or,lL];rw[<-ih.2];omega
  ·simp only[a,b]at hx ⊢;simp only[bI,aS,aF,true_or,lL];rw[<-ih.2];omega
  ·exact absurd ⟨a,b⟩ h
def Rt(n:Nat)(s set:aa)(o:asc set)(u:set.length<n)(t:set.length<=100)(hs:s.length<n):
  ∃y,av (dE n) n (true,set,s,0)=some y/\((y=.inr ()/\s.all (hasB set)=true)\/∃i:Nat,y=.inl (i:Int)/\s.all (hasB set)=false):=by
 refine rI (step:=dE n) (λx=>x.1=true/\x.2.1=set/\x.2.2.1=s/\s.all (hasB set)=(s.drop x.2.2.2).all (hasB set)) (λx=>s.length - x.2.2.2) _ ?_ n _ ⟨rfl,rfl,rfl,rfl⟩ (by simp only;omega);rintro⟨b,st,s',p⟩ ⟨h,g,f,a⟩;simp only at h g f a;rw[h,g,f];clear h g f b st s';rcases aN p s.length with j | l
 ·obtain⟨c,hc⟩:∃c,s[p]?=some c:=⟨s[p],ba j⟩;have e:Nat.blt p s.length=true:=dc j;rw[da hc,oL]at a;rcases aN c.toNat 128 with d | d
  ·have r:=Dp hc d;simp only[dE,e,ah,lI,r,yk n set c d,ob];cases k:hasB set c with
   | true=>
    rw[k,rG]at a;exact .inl ⟨_,rfl,⟨rfl,rfl,rfl,a⟩,by simp only;omega⟩
   | false=>
    rw[k,yh]at a;exact .inr ⟨_,rfl,.inr ⟨p,rfl,a⟩⟩
  ·have r:=Lo hc d;have k:hasB set c=false:=by
    unfold hasB;rw[ud];intro x hx q;simp only[bA]at q;have:=o x hx;rw[q]at this;omega
   rw[k,yh]at a;have m:=AG n set o u t (((dec s p).1:Nat):Int) (by omega);simp only[dE,e,ah,lI,m,ob];exact .inr ⟨_,rfl,.inr ⟨p,rfl,a⟩⟩
 ·have e:Nat.blt p s.length=false:=by
   cases h:Nat.blt p s.length with
   | false=>rfl
   | true=>exact absurd (aR h) (by omega)
  simp only[dE,e,af];rw[kW l]at a;exact .inr ⟨_,rfl,.inl ⟨rfl,by rw[a];rfl⟩⟩
def OD(n:Nat)(s set:aa)(b:asc set)(d:set.length<n)(c:set.length<=100)(hs:s.length<n):iE n s set=some (s.all (hasB set)):=by
 obtain⟨y,e,f⟩:=Rt n s set b d c hs;simp only[iE,nc,m9,e,ob];rcases f with⟨rfl,a⟩ | ⟨i,rfl,a⟩
 ·rw[a];rfl
 ·rw[a];simp only[aw,vX];omega
def SB:asc [48,49,50,51,52,53,54,55,56,57]:=by unfold asc;decide
def O0:asc [88,48,49,50,51,52,53,54,55,56,57]:=by unfold asc;decide
def gO(p:UInt8->Bool)(h:∀i:Fin 256,p (UInt8.ofNat i.val)=true)(c:UInt8):p c=true:=by
 have:=h ⟨c.toNat,c.toNat_lt⟩;simpa using this
def AK(c:UInt8):hasB [48,49,50,51,52,53,54,55,56,57] c=bv c:=by
 have:=gO (λc=>hasB [48,49,50,51,52,53,54,55,56,57] c==bv c) (by decide +kernel) c;simpa using this
def xG(c:UInt8):hasB [88,48,49,50,51,52,53,54,55,56,57] c=(bv c||c==88):=by
 have:=gO (λc=>hasB [88,48,49,50,51,52,53,54,55,56,57] c==(bv c||c==88)) (by decide +kernel) c;simpa using this
def OT(n:Nat)(s:aa)(a:100<n)(hs:s.length<n):iE n s [48,49,50,51,52,53,54,55,56,57]=some (s.all bv):=by
 rw[OD n s _ SB (by simp;omega) (by simp) hs];congr 2;funext c;exact AK c
def Me(n:Nat)(s:aa)(a:100<n)(hs:s.length<n):iE n s [88,48,49,50,51,52,53,54,55,56,57]=some (s.all λc=>bv c||c==88):=by
 rw[OD n s _ O0 (by simp;omega) (by simp) hs];congr 2;funext c;exact xG c
def all0(s:aa):Bool:=s.all λc=>c==48
def acG(n:Nat)(s:aa)(hs:s.length<n)(k:s.length<100000):∃y,ic n s 48=some y/\all0 s=all0 y/\y.length<=s.length:=by
 obtain⟨y,g,a⟩:=rI (step:=ej n) (λx=>x.2=48/\all0 s=all0 x.1/\x.1.length<=s.length) (λx=>x.1.length) (λy=>all0 s=all0 y/\y.length<=s.length) (by
  rintro⟨l,c⟩ ⟨rfl,h,b⟩;simp only at h b;by_cases m:l.length>0
  ·have d0:decide ((l.length:Int)>0)=true:=ar (by omega);have j:wrap .i64 ((l.length:Int) - 1)=((l.length - 1:Nat):Int):=by rw[wd];omega
   obtain⟨c,hc⟩:∃c,l[l.length - 1]?=some c:=⟨l[l.length - 1],ba (by omega)⟩;simp only[ej,d0,ah,j,fh hc,ob];by_cases d:c=48
   ·have f:((c.toNat:Int)==48)=true:=by rw[d];rfl
    simp only[f,ah,de (show l.length - 1<=l.length by omega),cM];refine .inl ⟨(List.take (l.length - 1) l,48),rfl,⟨rfl,?_,by show(List.take (l.length - 1) l).length<=s.length;rw[dN];omega⟩,by show(List.take (l.length - 1) l).length<l.length;rw[dN];omega⟩;rw[h];have:l=l.take (l.length - 1)++[c]:=by
     have a:=tu (l:=l) (i:=l.length - 1);rw[hc,show l.length - 1+1=l.length by omega,oC]at a;exact a
    rw[this];simp only[all0,Hv,oL,List.all_nil,d];simp
   ·have f:((c.toNat:Int)==48)=false:=by
     rw[aL];intro e;exact d (ii.1 (by show c.toNat=48;omega))
    simp only[f,af];exact .inr ⟨_,rfl,h,b⟩
  ·have d0:decide ((l.length:Int)>0)=false:=au (by omega);simp only[ej,d0,af];exact .inr ⟨_,rfl,h,b⟩) n (s,48) ⟨rfl,rfl,bi _⟩ hs
 exact⟨y,by simp only[ic,g,ob],a⟩
def acu(n:Nat)(s:aa)(hs:s.length<n)(m:s.length<100000):∃y,iS n s 48=some y/\all0 s=(y==[]):=by
 obtain⟨y,g,k⟩:=rI (step:=gh n) (λx=>x.2=48/\all0 s=all0 x.1/\x.1.length<=s.length) (λx=>x.1.length) (λy=>all0 s=(y==[])) (by
  rintro⟨l,c⟩ ⟨rfl,h,f⟩;simp only at h f;cases l with
  | nil=>exact .inr ⟨[],rfl,by rw[h];rfl⟩
  | cons c l=>
   have d0:decide ((((c::l).length:Nat):Int)>0)=true:=ar (by simp only[aI];omega);have hc:sx (c::l) 0=some c:=by simp[sx]
   simp only[gh,d0,ah,hc,ob];by_cases a:c=48
   ·have d:((c.toNat:Int)==48)=true:=by rw[a];rfl
    have b:bx (c::l).length 1=some 1:=de (i:=1) (by simp);simp only[d,ah,b,oC,pP,cM];refine .inl ⟨_,rfl,⟨rfl,?_,by show l.length<=s.length;simp only[aI]at f;omega⟩,by simp⟩;rw[h];simp[all0,a]
   ·have d:((c.toNat:Int)==48)=false:=by
     rw[aL];intro e;exact a (ii.1 (by show c.toNat=48;omega))
    simp only[d,af];refine .inr ⟨_,rfl,?_⟩;rw[h];have j:(c==48)=false:=aL.2 a;simp[all0,j]) n (s,48) ⟨rfl,rfl,bi _⟩ hs
 exact⟨y,by simp only[iS,g,ob],k⟩
def Xn(n:Nat)(s:aa)(hs:s.length<n)(b:s.length<100000):∃y,qM n s=some y/\(y==[])=all0 s:=by
 unfold qM;by_cases h:s=[]
 ·subst h;exact⟨[],rfl,rfl⟩
 ·have:(s==([]:aa))=false:=aL.2 h;obtain⟨y,d,e,f⟩:=acG n s hs b;obtain⟨z,a,c⟩:=acu n y (by omega) (by omega);exact⟨z,by simp only[this,af,d,a,ob],by rw[e,c]⟩
def SX(s:aa):all0 s=true↔cnt 48 48 s=s.length:=by
 rw[N5];unfold all0;rw[cb];constructor
 ·intro h c hc;have:=h c hc;rw[bA]at this;exact(Oi c).2 this
 ·intro h c hc;rw[bA];exact(Oi c).1 (h c hc)
def hasX(s:aa):Bool:=s.any λc=>c==88
def Lq(s:aa):hasX s=decide (0<cnt 88 88 s):=by
 have:=Tt 88 88 s;unfold hasX;cases h:s.any λc=>c==88 with
 | true=>
  obtain⟨c,hc,b⟩:=vk.1 h;rw[bA]at b;symm;rw[cK];rcases DW (cnt 88 88 s)with a | a
  ·have:=this.1 a c hc;rw[(Fv c).2 b]at this;cases this
  ·exact a
 | false=>
  symm;rw[vX];intro a;have:cnt 88 88 s=0:=this.2 λc hc=>by
   cases hx:inR 88 88 c with
   | false=>rfl
   | true=>
    rw[ud]at h;exact absurd (bA.2 ((Fv c).1 hx)) (h c hc)
  omega
def Hr(n:Nat)(s:aa):jN n s=some (hasX s):=by
 have e:UInt8.ofNat (Int.toNat 88)=(88:UInt8):=rfl;have hi:pf n s=some (Lib.indexByte s 88):=by
  simp only[pf,kA,dP,ob,e];by_cases h:([88]:aa)=s
  ·subst h;rfl
  ·have:(([88]:aa)==s)=false:=aL.2 h;simp only[this,af]
 simp only[jN,hi,ob,sI];rfl
def wX(n:Nat)(g l:Bool)(d:aa)(x q:Int):dQ n g l d x q=some (hasX d):=by
 simp only[dQ,Hr,ob]
def rS(n:Nat)(g l:Bool)(d:aa)(x q:Int)(hs:d.length<n)(a:d.length<100000):aJ n g l d x q=some (if hasX d then 1 else 0):=by
 simp only[aJ,J7 n d 88 88 hs a,ob,Lq,cK];by_cases h:0<cnt 88 88 d
 ·have:decide (((cnt 88 88 d:Nat):Int)<1)=false:=au (by omega);simp[this,h]
 ·have:decide (((cnt 88 88 d:Nat):Int)<1)=true:=ar (by omega);have b:cnt 88 88 d=0:=by omega
  simp[this,b]
def yw(acc:Nat)(c:UInt8):Nat:=acc*10+(c.toNat - 48)
def dval(acc:Nat)(l:aa):Nat:=l.foldl yw acc
def sD(acc:Nat):dval acc []=acc:=by unfold dval;rw[JY]
def rE(acc:Nat)(c:UInt8)(l:aa):dval acc (c::l)=dval (yw acc c) l:=by
 unfold dval;rw[xW]
def Jw(l:aa)(acc:Nat)(c:UInt8):dval acc (l++[c])=dval acc l*10+(c.toNat - 48):=by
 have:dval acc (l++[c])=yw (dval acc l) c:=by
  unfold dval;rw[K6,xW,JY]
 rw[this];rfl
def XF(M:Nat)(i:10000000000000000000<=M)(l:aa):∀(acc k:Nat),(∀c∈l,bv c=true)->acc<10 ^ k->l.length+k<=18->Lib.parseUintM M acc l=.ok (dval acc l)/\dval acc l<10 ^ (l.length+k):=by
 induction l with
 | nil=>
  intro acc k _ b _;rw[sD];refine⟨rfl,?_⟩;simpa using b
 | cons c l ih=>
  intro acc k h b f;have hc:=(cA c).1 (h c (by simp));simp only[aI]at f;have hp:(10:Nat) ^ (k+1)=10 ^ k*10:=vz 10 k;have g:(10:Nat) ^ (k+1)<=10 ^ 18:=mK (by decide) (by omega);have e:(10:Nat) ^ 18=1000000000000000000:=by decide
  have a:yw acc c=acc*10+(c.toNat - 48):=rfl;have ih:=ih (yw acc c) (k+1) (λd a=>h d (by simp[a])) (by omega) (by omega);refine⟨?_,?_⟩
  ·simp only[Lib.parseUintM];rw[ae hc,ad,ad,<-a,ih.1,rE]
  ·rw[rE,aI,show l.length+1+k=l.length+(k+1)by omega];exact ih.2
def Nq{l:aa}(h:∀c∈l,bv c=true)(b:l≠[])(k:l.length<=18):zG l=some ((dval 0 l:Nat):Int)/\dval 0 l<10 ^ l.length:=by
 obtain⟨i,d⟩:=XF (2 ^ 64 - 1) (by decide) l 0 0 h (by simp) (by omega);refine⟨?_,by simpa using d⟩;have g:dval 0 l<10 ^ 18:=re d (mK (by decide) (by omega));cases l with
 | nil=>exact absurd rfl b
 | cons c r=>
  have hc:=(cA c).1 (h c (by simp));have j:Lib.parseUintB 64 (c::r)=.ok (dval 0 (c::r)):=by
   unfold Lib.parseUintB;rw[ab b,i]
  have hs:¬(c.toNat=43\/c.toNat=45):=by omega
  simp only[zG,Lib.parseIntB,hs,aF,j];have e:(10:Nat) ^ 18=1000000000000000000:=by decide
  have a:(2:Nat) ^ (64 - 1)=9223372036854775808:=by decide
  have f:¬c.toNat=45:=by omega
  simp only[f,H7,lL,AB,aF];rw[a,ad]
def UH(n k:Nat)(j:k<=18)(h:18<n):rA n (k:Int)=some (((10 ^ k:Nat):Int),0):=by
 have c:(10:Nat) ^ 18=1000000000000000000:=by decide
 have:=gL (step:=mq n) (λx=>∃i:Nat,i<=k/\x=(((10 ^ i:Nat):Int),(k:Int),(i:Int))) (λx=>k - x.2.2.toNat) (λ_=>((10 ^ k:Nat):Int)) (by
  rintro x ⟨i,hi,rfl⟩;rcases aN i k with a | b
  ·have g:(10:Nat) ^ (i+1)<=10 ^ 18:=mK (by decide) (by omega);have hp:(10:Nat) ^ (i+1)=10 ^ i*10:=vz 10 i;have e:wrap .i64 (((10 ^ i:Nat):Int)*10)=((10 ^ (i+1):Nat):Int):=by rw[wd];omega
   have f:wrap .i64 ((i:Int)+1)=((i+1:Nat):Int):=by rw[wd];omega
   refine .inl ⟨_,?_,⟨i+1,a,rfl⟩,by simp only[co];omega,rfl⟩;simp only[mq,jV,a,qV,ah,e,f]
  ·have:i=k:=by omega
   subst this;refine .inr ?_;simp only[mq,jV,Je,pM,af]) n (1,(k:Int),0) ⟨0,by omega,rfl⟩ (by simp;omega)
 have d:decide ((k:Int)<0)=false:=au (by omega);have d2:decide ((k:Int)>18)=false:=au (by omega);simp only[rA,d,d2,af,this,ob]
def mF(x:Int)(b:0<=x)(a:x<18446744073709551616):wrap .u64 x=x:=by
 show x%18446744073709551616=x;omega
def If(x:Int):wrap .u64 x=x%18446744073709551616:=rfl
def Q9{a:Nat}(b:a<18446744073709551616):bits .and .u64 (a:Int) 4294967295=((a%4294967296:Nat):Int):=by
 show wrap .u64 ((BitVec.ofInt 64 (a:Int) &&& BitVec.ofInt 64 ((4294967295:Nat):Int)).toNat:Int)=_;rw[oe,oe,OP,yd,yd,mB (show a<2 ^ 64 from b),mB (by decide)];have:=Nat.and_two_pow_sub_one_eq_mod a 32;rw[show(2:Nat) ^ 32 - 1=4294967295 from by decide,show(2:Nat) ^ 32=4294967296 from by decide]at this;rw[this];exact mF _ (by omega) (by omega)
def Uu(a:Nat):Int.fdiv (a:Int) (2 ^ 32)=((a / 4294967296:Nat):Int):=by
 rw[TK]
def Ls{a b A B:Nat}(c:a<=A)(d:b<=B):a*b<=A*B:=zy c d
def OC(a b:Nat):a*b=(a / 4294967296)*(b / 4294967296)*18446744073709551616+((a / 4294967296)*(b%4294967296)+(a%4294967296)*(b / 4294967296))*4294967296+(a%4294967296)*(b%4294967296):=by
 have f:a=(a / 4294967296)*4294967296+a%4294967296:=by omega
 have e:b=(b / 4294967296)*4294967296+b%4294967296:=by omega
 generalize a / 4294967296=c at f ⊢;generalize a%4294967296=x0 at f ⊢;generalize b / 4294967296=d at e ⊢;generalize b%4294967296=g at e ⊢;subst f e;rw[iV,Nat.mul_add,Nat.mul_add];have i:c*4294967296*(d*4294967296)=c*d*18446744073709551616:=by
  rw[Nat.mul_mul_mul_comm]
 have j:c*4294967296*g=c*g*4294967296:=by rw[Nat.mul_right_comm]
 have h:x0*(d*4294967296)=x0*d*4294967296:=by rw[IZ]
 rw[i,j,h,iV];omega
def abV(n a b:Nat)(p:a<18446744073709551616)(o:b<18446744073709551616):mD n (a:Int) (b:Int)=some (((a*b / 18446744073709551616:Nat):Int),((a*b%18446744073709551616:Nat):Int)):=by
 have w:=OC a b;have h:a / 4294967296<=4294967295:=by omega
 have g:a%4294967296<=4294967295:=by omega
 have j:b / 4294967296<=4294967295:=by omega
 have i:b%4294967296<=4294967295:=by omega
 have y:=Ls g i;have t:=Ls g j;have q:=Ls h i;have r:=Ls h j;have k:wrap .u64 ((a:Int)*(b:Int))=((a*b%18446744073709551616:Nat):Int):=by
  rw[If,<-K3];omega
 simp only[mD,Uu,Q9 p,Q9 o,k];simp only[<-K3];generalize(a / 4294967296)*(b / 4294967296)=f at *;generalize(a / 4294967296)*(b%4294967296)=d at *;generalize(a%4294967296)*(b / 4294967296)=e at *;generalize(a%4294967296)*(b%4294967296)=c at *;generalize a*b=N at *;have u:wrap .u64 (c:Int)=(c:Int):=mF _ (by omega) (by omega);have v:wrap .u64 (d:Int)=(d:Int):=mF _ (by omega) (by omega);have l:wrap .u64 (e:Int)=(e:Int):=mF _ (by omega) (by omega);have z:wrap .u64 (f:Int)=(f:Int):=mF _ (by omega) (by omega);rw[u,v,l,z,Uu c];have m:wrap .u64 ((d:Int)+((c / 4294967296:Nat):Int))=((d+c / 4294967296:Nat):Int):=by rw[mF _ (by omega) (by omega)];omega
 rw[m,Uu,Q9 (by omega)];have s:wrap .u64 ((f:Int)+(((d+c / 4294967296) / 4294967296:Nat):Int))=((f+(d+c / 4294967296) / 4294967296:Nat):Int):=by rw[mF _ (by omega) (by omega)];omega
 have x:wrap .u64 ((((d+c / 4294967296)%4294967296:Nat):Int)+(e:Int))=(((d+c / 4294967296)%4294967296+e:Nat):Int):=by rw[mF _ (by omega) (by omega)];omega
 rw[s,x,Uu];have w8:wrap .u64 (((f+(d+c / 4294967296) / 4294967296:Nat):Int)+((((d+c / 4294967296)%4294967296+e) / 4294967296:Nat):Int))=((N / 18446744073709551616:Nat):Int):=by
  rw[mF _ (by omega) (by omega)];omega
 rw[w8]
def Zi(n a b:Nat)(j:a<9223372036854775808)(k:b<9223372036854775808):yT n (a:Int) (b:Int)=some (if a*b<9223372036854775808 then(((a*b:Nat):Int),0)else(0,15)):=by
 have f:decide ((a:Int)<0)=false:=au (by omega);have d2:decide ((b:Int)<0)=false:=au (by omega);have g:wrap .u64 (a:Int)=a:=mF _ (by omega) (by omega);have i:wrap .u64 (b:Int)=b:=mF _ (by omega) (by omega);simp only[yT,wz,f,d2,af,g,i,ob,abV n a b (by omega) (by omega)];generalize a*b=N;by_cases h:18446744073709551616<=N
 ·have c:decide (((N / 18446744073709551616:Nat):Int)>0)=true:=ar (by omega);rw[c,ad];rfl
 ·have c:decide (((N / 18446744073709551616:Nat):Int)>0)=false:=au (by omega);have e:N%18446744073709551616=N:=mB (by omega);rw[c,e];simp only[af,xY,dU,vu,kH,ah];by_cases d:N<9223372036854775808
  ·have d4:decide ((N:Int)<=9223372036854775807)=true:=ar (by omega);rw[d4,ae d,ah,wd]
  ·have d4:decide ((N:Int)<=9223372036854775807)=false:=au (by omega);rw[d4,ab d,af]
def E16:Nat:=10000000000000000
def WM{x:Nat}(hx:17<=x):E16<10 ^ x:=by
 have:(10:Nat) ^ 17<=10 ^ x:=mK (by decide) hx;have a:(10:Nat) ^ 17=100000000000000000:=by decide
 unfold E16;omega
def Qe(n:Nat)(g l:Bool)(d:aa)(x:Nat)(s:Int)(q:∀c∈d,bv c=true)(k:d≠[])(e:d.length<=17)(hx:x<=18)(m:18<n):
  fc n g l d (x:Int) s=some (if dval 0 d*10 ^ x<=E16 then(((dval 0 d*10 ^ x:Nat):Int),0)else(0,6)):=by
 obtain⟨o,p⟩:=Nq q k (by omega);have r:dval 0 d<10 ^ 17:=re p (mK (by decide) e);have hp:(10:Nat) ^ x<=10 ^ 18:=mK (by decide) hx;have j:(10:Nat) ^ 17=100000000000000000:=by decide
 have f:(10:Nat) ^ 18=1000000000000000000:=by decide
 have i:Nat.ble d.length 9223372036854775806=true:=dc (by omega);simp only[fc,i,ah,o,ob,UH n x hx m,fU,af,Zi n _ _ (show dval 0 d<9223372036854775808 by omega) (show 10 ^ x<9223372036854775808 by omega)];generalize dval 0 d*10 ^ x=N;unfold E16;by_cases h:N<9223372036854775808
 ·rw[ae h];simp only[fU,af];by_cases b:N<=10000000000000000
  ·have a:decide ((N:Int)>10000000000000000)=false:=au (by omega);rw[a,ae b,af]
  ·have a:decide ((N:Int)>10000000000000000)=true:=ar (by omega);rw[a,ab b,ah]
 ·rw[ab h,ad];rfl
def pre(d:aa)(i:Nat):Nat:=dval 0 (d.take i)*10 ^ (i - d.length)
def VA{d:aa}{i:Nat}{c:UInt8}(h:d[i]?=some c):pre d (i+1)=10*pre d i+(c.toNat - 48):=by
 have a:=wj h;unfold pre;rw[tu,h,show i+1 - d.length=0 by omega,show i - d.length=0 by omega];simp only[Option.toList,Jw,E4,tz];omega
def Va{d:aa}{i:Nat}(h:d.length<=i):pre d (i+1)=10*pre d i:=by
 unfold pre;rw[kr (show d.length<=i+1 by omega),kr h,show i+1 - d.length=(i - d.length)+1 by omega,vz];rw[<-IZ];omega
def LL(d:aa):∀k i,pre d i<=pre d (i+k)
 | 0,i=>bi _
 | k+1,i=>by
  have ih:=LL d k i;rcases aN (i+k) d.length with a | b
  ·have:=VA (ba a);rw[show i+(k+1)=i+k+1 by omega,this];omega
  ·have:=Va b;rw[show i+(k+1)=i+k+1 by omega,this];omega
def kU(n:Nat)(d:aa)(x:Nat)(u:∀c∈d,bv c=true)(v:d.length<=100)(hx:x<=100)(w:d.length+x<n):
  aq n d (x:Int)=some (if dval 0 d*10 ^ x<=E16 then(((dval 0 d*10 ^ x:Nat):Int),1)else(0,0)):=by
 have a:pre d (d.length+x)=dval 0 d*10 ^ x:=by
  unfold pre;rw[kr (by omega),show d.length+x - d.length=x by omega]
 have w0:wrap .i64 ((d.length:Int)+(x:Int))=((d.length+x:Nat):Int):=by rw[wd];omega
 have:=gL (step:=gn n) (λq=>∃i:Nat,i<=d.length+x/\pre d i<=E16/\q=(d,(x:Int),((pre d i:Nat):Int),(i:Int))) (λq=>d.length+x - q.2.2.2.toNat) (λ_=>if dval 0 d*10 ^ x<=E16 then .inr ((dval 0 d*10 ^ x:Nat):Int)else .inl (0,0)) (by
  rintro q ⟨i,hi,hp,rfl⟩;simp only[gn,w0,jV];unfold E16 at hp ⊢;have r:wrap .i64 ((i:Int)+1)=((i+1:Nat):Int):=by rw[wd];omega
  have s:wrap .i64 (10*((pre d i:Nat):Int))=((10*pre d i:Nat):Int):=by rw[wd];omega
  by_cases g:i<d.length+x
  ·have p:=LL d (d.length+x - (i+1)) (i+1);rw[show i+1+(d.length+x - (i+1))=d.length+x by omega,a]at p;simp only[g,qV,ah,r,s];rcases aN i d.length with e | f
   ·obtain⟨c,hc⟩:∃c,d[i]?=some c:=⟨d[i],ba e⟩;have l:=(cA c).1 (u c (fR hc));have hs:=VA hc;have m:wrap .u8 ((c.toNat:Int) - 48)=((c.toNat - 48:Nat):Int):=by rw[gJ _ (by omega) (by omega)];omega
    have t:wrap .i64 ((c.toNat - 48:Nat):Int)=((c.toNat - 48:Nat):Int):=wrap_i64 _ (by omega) (by omega);have o:wrap .i64 (((10*pre d i:Nat):Int)+((c.toNat - 48:Nat):Int))=((pre d (i+1):Nat):Int):=by rw[wd];omega
    simp only[e,qV,ah,fh hc,ob,m,t,o];by_cases j:pre d (i+1)<=10000000000000000
    ·have b:decide (((pre d (i+1):Nat):Int)>10000000000000000)=false:=au (by omega);simp only[b,af];exact .inl ⟨_,rfl,⟨i+1,g,j,rfl⟩,by simp only[co];omega,trivial⟩
    ·have b:decide (((pre d (i+1):Nat):Int)>10000000000000000)=true:=ar (by omega);simp only[b,ah];rw[ad];exact .inr rfl
   ·have hs:=Va f;have k:¬i<d.length:=by omega
    simp only[k,pM,af];rw[<-hs];by_cases j:pre d (i+1)<=10000000000000000
    ·have b:decide (((pre d (i+1):Nat):Int)>10000000000000000)=false:=au (by omega);simp only[b,af];exact .inl ⟨_,rfl,⟨i+1,g,j,rfl⟩,by simp only[co];omega,trivial⟩
    ·have b:decide (((pre d (i+1):Nat):Int)>10000000000000000)=true:=ar (by omega);simp only[b,ah];rw[ad];exact .inr rfl
  ·have:i=d.length+x:=by omega
   subst this;simp only[Je,pM,af];rw[a]at hp ⊢;rw[ae hp];exact .inr rfl) n (d,(x:Int),0,0) ⟨0,by omega,by unfold pre E16;simp[sD],by unfold pre;simp[sD]⟩ (by simp;omega)
 simp only[aq,this,ob];by_cases h:dval 0 d*10 ^ x<=E16
 ·rw[ae h,ae h]
 ·rw[ab h,ab h]
def okM(d:aa)(x:Int):Prop:=(∀c∈d,bv c=true)/\1<=d.length/\d.length<=17/\d.head?≠some 48/\0<=x/\x<=16/\¬(x=0/\d.length<5)/\dval 0 d*10 ^ x.toNat<=E16
def okL(d:aa)(x s:Int):Prop:=okM d x/\0<=s/\s<=(d.length:Int)+x
def okS(g:Bool)(d:aa)(x s:Int):Prop:=d.length=4/\(∀c∈d,bv c=true\/c=88)/\x=0/\¬(g=true/\all0 d=true)/\0<=s/\s<=4/\¬(0<s/\hasX d=true)
def okY(g l:Bool)(d:aa)(x s:Int):Prop:=if l=true then okL d x s else okS g d x s
instance (d:aa)(x:Int):Decidable (okM d x):=by unfold okM;infer_instance
instance (d:aa)(x s:Int):Decidable (okL d x s):=by unfold okL;infer_instance
instance (g:Bool)(d:aa)(x s:Int):Decidable (okS g d x s):=by unfold okS;infer_instance
instance (g l:Bool)(d:aa)(x s:Int):Decidable (okY g l d x s):=by unfold okY;infer_instance
def Qd(d:aa):d.all bv=true↔∀c∈d,bv c=true:=cb
def KQ(d:aa):(d.all λc=>bv c||c==88)=true↔∀c∈d,bv c=true\/c=88:=by
 rw[cb];constructor
 ·intro h c hc;have:=h c hc;simpa using this
 ·intro h c hc;have:=h c hc;simpa using this
def XV(c:UInt8):((c.toNat:Int)==48)=(c==48):=qm c 48
def V5(n:Nat)(g l:Bool)(d:aa)(x s:Int)(z:200<n)(y:d.length<=100):br n g l d x s=some (decide (okM d x)):=by
 unfold br;by_cases w:d.length<1
 ·have e:decide ((d.length:Int)<1)=true:=ar (by omega);rw[e,au (λh:okM d x=>by have:=h.2.1;omega)];rfl
 ·have e:decide ((d.length:Int)<1)=false:=au (by omega);rw[e,af];by_cases A:d.length>17
  ·have e:decide ((d.length:Int)>17)=true:=ar (by omega);rw[e,au (λh:okM d x=>by have:=h.2.2.1;omega)];rfl
  ·have e:decide ((d.length:Int)>17)=false:=au (by omega);rw[e,af,OT n d (by omega) (by omega)];simp only[ob];cases m:d.all bv with
   | false=>
    rw[au (λh:okM d x=>by rw[(Qd d).2 h.1]at m;cases m)];rfl
   | true=>
    have a:=(Qd d).1 m;obtain⟨c,r,rfl⟩:∃c r,d=c::r:=by
     cases d with
     | nil=>simp at w
     | cons c r=>exact⟨c,r,rfl⟩
    have p:sx (c::r) 0=some c:=by simp[sx]
    simp only[dU,af,p,XV];by_cases f:c=48
    ·rw[au (λh:okM (c::r) x=>h.2.2.2.1 (by rw[f];rfl)),f];rfl
    ·have e:(c==48)=false:=aL.2 f;rw[e,af];by_cases v:x<0
     ·rw[ar v,au (λh:okM (c::r) x=>by have:=h.2.2.2.2.1;omega)];rfl
     ·rw[au v,af];by_cases t:x>16
      ·rw[ar t,au (λh:okM (c::r) x=>by have:=h.2.2.2.2.2.1;omega)];rfl
      ·rw[au t,af];obtain⟨k,rfl⟩:∃k:Nat,x=(k:Int):=⟨x.toNat,by omega⟩;have o:=Qe n g l (c::r) k s a (by simp) (by omega) (by omega) (by omega);rw[o];have key:¬((k:Int)=0/\(c::r).length<5)->(okM (c::r) (k:Int)↔dval 0 (c::r)*10 ^ k<=E16):=by
        intro b;constructor
        ·intro h;simpa using h.2.2.2.2.2.2.2
        ·intro h;exact⟨a,by omega,by omega,by simpa using f,by omega,by omega,b,by simpa using h⟩
       have fin:¬((k:Int)=0/\(c::r).length<5)->(ob (some (if dval 0 (c::r)*10 ^ k<=E16 then(((dval 0 (c::r)*10 ^ k:Nat):Int),(0:Int))else(0,6))) λq=>some (q.2==0))=some (decide (okM (c::r) (k:Int))):=by
        intro b;by_cases i:dval 0 (c::r)*10 ^ k<=E16
        ·rw[ae i,ar ((key b).2 i)];rfl
        ·rw[ab i,au (λh=>i ((key b).1 h))];rfl
       by_cases j:(k:Int)=0
       ·have e:((k:Int)==0)=true:=bA.2 j;rw[e,ah];by_cases u:(c::r).length<5
        ·have e:decide ((((c::r).length:Nat):Int)<5)=true:=ar (by omega);rw[e,au (λh:okM (c::r) (k:Int)=>h.2.2.2.2.2.2.1 ⟨j,u⟩)];rfl
        ·have e:decide ((((c::r).length:Nat):Int)<5)=false:=au (by omega);rw[e,af];exact fin (λh=>u h.2)
       ·have e:((k:Int)==0)=false:=aL.2 j;rw[e,af];exact fin (λh=>j h.1)
def TV(n:Nat)(g l:Bool)(d:aa)(x s:Int)(c:200<n)(e:d.length<=100):
  (ob (br n g l d x s) λr=>cond (!r) (some (6:Int)) (cond (decide (s<0)) (some 6) (cond (decide (s>(wrap .i64 ((d.length:Int)+x)))) (some 6) (some 0))))=some (if okL d x s then 0 else 6):=by
 rw[V5 n g l d x s c e];simp only[ob];by_cases h:okM d x
 ·rw[ar h];have hx:=h.2.2.2.2;have w:wrap .i64 ((d.length:Int)+x)=(d.length:Int)+x:=wrap_i64 _ (by omega) (by omega);rw[w];simp only[dU,af,bN];by_cases a:s<0
  ·rw[ae a,ab (λq:okL d x s=>by have:=q.2.1;omega)]
  ·rw[ab a];by_cases b:s>(d.length:Int)+x
   ·rw[ae b,ab (λq:okL d x s=>by have:=q.2.2;omega)]
   ·rw[ab b,ae ⟨h,by omega,by omega⟩]
 ·rw[au h,ab (λq:okL d x s=>h q.1)];rfl
def Ez(n:Nat)(g l:Bool)(d:aa)(x s:Int)(z:200<n)(A:d.length<=100):di n g l d x s=some (if okY g l d x s then 0 else 6):=by
 obtain⟨y,v,hy⟩:=Xn n d (by omega) (by omega);unfold di;rw[Me n d (by omega) (by omega),v,wX];cases l with
 | true=>
  have b:(if okY g true d x s then(0:Int)else 6)=if okL d x s then 0 else 6:=by simp only[okY,aS]
  rw[b];have st:=TV n g true d x s z A;simp only[ah];generalize(ob (br n g true d x s) λr=>cond (!r) (some (6:Int)) (cond (decide (s<0)) (some 6) (cond (decide (s>(wrap .i64 ((d.length:Int)+x)))) (some 6) (some 0))))=T at st ⊢;simp only[ob];rw[st];cases((d.length:Int)==4)<;>cases(d.all λc=>bv c||c==88)<;>cases(x==0)<;>cases g<;>cases(y==[])<;>cases(s != 0)<;>rfl
 | false=>
  have b:(if okY g false d x s then(0:Int)else 6)=if okS g d x s then 0 else 6:=by simp only[okY,bI,aF]
  rw[b];simp only[af,ob];by_cases f:d.length=4
  ·have k:((d.length:Int)==4)=true:=bA.2 (by omega);rw[k,ah];cases m:(d.all λc=>bv c||c==88)with
   | false=>
    rw[ab (λq:okS g d x s=>by rw[(KQ d).2 q.2.1]at m;cases m)];rfl
   | true=>
    have e:=(KQ d).1 m;rw[ah];by_cases h:x=0
    ·subst h;have w:wrap .i64 ((d.length:Int)+0)=4:=by rw[f];decide
     rw[w];have a:¬(g=true/\all0 d=true)->(cond (s != 0) (cond (!(!hasX d)) (some (6:Int)) (cond (decide (s<0)) (some 6) (cond (decide (s>4)) (some 6) (some 0)))) (cond (decide (s<0)) (some 6) (cond (decide (s>4)) (some 6) (some 0))))=some (if okS g d 0 s then 0 else 6):=by
      intro p;simp only[bN,yA,Bool.not_not];by_cases s0:s=0
      ·subst s0;rw[ae rfl,ad,ad,ae ⟨f,e,rfl,p,by omega,by omega,by omega⟩]
      ·rw[ab s0];cases u:hasX d with
       | true=>
        by_cases j:s<0
        ·rw[ab (λq:okS g d 0 s=>by have:=q.2.2.2.2.1;omega)];rfl
        ·rw[ab (λq:okS g d 0 s=>q.2.2.2.2.2.2 ⟨by omega,u⟩)];rfl
       | false=>
        rw[af];by_cases j:s<0
        ·rw[ae j,ab (λq:okS g d 0 s=>by have:=q.2.2.2.2.1;omega)]
        ·rw[ab j];by_cases t:s>4
         ·rw[ae t,ab (λq:okS g d 0 s=>by have:=q.2.2.2.2.2.1;omega)]
         ·rw[ab t,ae ⟨f,e,rfl,p,by omega,by omega,λq=>by rw[u]at q;cases q.2⟩]
     have i:((0:Int)==0)=true:=rfl;rw[i,ah];cases g with
     | false=>
      simp only[af];exact a (by simp)
     | true=>
      simp only[ah];rw[hy];cases o:all0 d with
      | true=>rw[ab (λq:okS true d 0 s=>q.2.2.2.1 ⟨rfl,o⟩)];rfl
      | false=>
       simp only[kH,ah];exact a (by rw[o];simp)
    ·have i:(x==0)=false:=aL.2 h;rw[i,ab (λq:okS g d x s=>h q.2.2.1)];rfl
  ·have k:((d.length:Int)==4)=false:=aL.2 (by omega);rw[k,ab (λq:okS g d x s=>f q.1)];rfl
def Xt(d:aa):cnt 48 57 d=d.length↔∀c∈d,bv c=true:=N5 48 57 d
def FI(n:Nat)(g l:Bool)(d:aa)(x s:Int)(M:200<n)(K:d.length<=100):dq n g l d x s=some (if okY g l d x s then 1 else 0):=by
 have hs:=Rl d;have w:=Lq d;have v:=SX d;have t:=Xt d;unfold dq;rw[J7 n d 48 57 (by omega) (by omega),J7 n d 88 88 (by omega) (by omega),J7 n d 48 48 (by omega) (by omega)];simp only[ob];generalize N:cnt 48 57 d=A at *;generalize L:cnt 88 88 d=B at *;have w0:wrap .i64 ((A:Int)+(B:Int))=((A+B:Nat):Int):=by rw[wd];omega
 rw[w0];simp only[yA,bN,KN];by_cases y:A+B=d.length
 ·rw[ea];have o:=hs.2.1 y;by_cases F:s<0
  ·rw[ae F,ab];intro q;unfold okY at q;split at q
   ·have:=q.2.1;omega
   ·have:=q.2.2.2.2.1;omega
  ·rw[ab F];cases l with
   | false=>
    have i:(if okY g false d x s then(1:Int)else 0)=if okS g d x s then 1 else 0:=by simp only[okY,bI,aF]
    rw[i,af];by_cases j:d.length=4
    ·rw[ea];by_cases f:x=0
     ·rw[ae f];have a:¬(g=true/\all0 d=true)->(if s>4 then some (0:Int)else if s>0 then(if(B:Int)>0 then some 0 else some 1)else some 1)=some (if okS g d x s then 1 else 0):=by
       intro G;by_cases u:s>4
       ·rw[ae u,ab (λq:okS g d x s=>by have:=q.2.2.2.2.2.1;omega)]
       ·rw[ab u];by_cases E:s>0
        ·rw[ae E];by_cases m:(B:Int)>0
         ·rw[ae m,ab (λq:okS g d x s=>q.2.2.2.2.2.2 ⟨by omega,by rw[w];exact ar (by omega)⟩)]
         ·rw[ab m,ae ⟨j,o,f,G,by omega,by omega,λq=>by
           have:=q.2;rw[w,cK]at this;omega⟩]
        ·rw[ab E,ae ⟨j,o,f,G,by omega,by omega,λq=>by omega⟩]
      cases g with
      | false=>rw[af];exact a (by simp)
      | true=>
       rw[ah,iQ];by_cases e:all0 d=true
       ·rw[ae (by have:=v.1 e;omega),ab (λq:okS true d x s=>q.2.2.2.1 ⟨rfl,e⟩)]
       ·rw[ab (λq=>e (v.2 (by omega)))];exact a (λq=>e q.2)
     ·rw[ab f,ab (λq:okS g d x s=>f q.2.2.1)]
    ·rw[ad,ab (λq:okS g d x s=>j q.1)]
   | true=>
    have i:(if okY g true d x s then(1:Int)else 0)=if okL d x s then 1 else 0:=by simp only[okY,aS]
    rw[i,ah];by_cases m:(B:Int)>0
    ·rw[ae m,ab];intro q;have:=t.2 q.1.1;omega
    ·rw[ab m];have h:=t.1 (by omega);by_cases j:(A:Int)<1
     ·rw[ae j,ab (λq:okL d x s=>by have:=q.1.2.1;omega)]
     ·rw[ab j];by_cases f:(A:Int)>17
      ·rw[ae f,ab (λq:okL d x s=>by have:=q.1.2.2.1;omega)]
      ·rw[ab f];obtain⟨c,r,rfl⟩:∃c r,d=c::r:=by
        cases d with
        | nil=>simp at y;omega
        | cons c r=>exact⟨c,r,rfl⟩
       have z:sx (c::r) 0=some c:=by simp[sx]
       simp only[z,XV,iQ];by_cases e:c=48
       ·rw[ae e,ab (λq:okL (c::r) x s=>q.1.2.2.2.1 (by rw[e];rfl))]
       ·rw[ab e];by_cases D:x<0
        ·rw[ae D,ab (λq:okL (c::r) x s=>by have:=q.1.2.2.2.2.1;omega)]
        ·rw[ab D];by_cases C:x>16
         ·rw[ae C,ab (λq:okL (c::r) x s=>by have:=q.1.2.2.2.2.2.1;omega)]
         ·rw[ab C];obtain⟨k,rfl⟩:∃k:Nat,x=(k:Int):=⟨x.toNat,by omega⟩;have I:wrap .i64 ((A:Int)+(k:Int))=((A+k:Nat):Int):=by rw[wd];omega
          rw[I,kU n (c::r) k h K (by omega) (by omega)];have p:(c::r).length=A:=by omega
          have a:¬((k:Int)=0/\(c::r).length<5)->(if s>((A+k:Nat):Int)then some (0:Int)else some (if dval 0 (c::r)*10 ^ k<=E16 then(((dval 0 (c::r)*10 ^ k:Nat):Int),(1:Int))else(0,0)).2)=some (if okL (c::r) (k:Int) s then 1 else 0):=by
           intro J;by_cases u:s>((A+k:Nat):Int)
           ·rw[ae u,ab (λq:okL (c::r) (k:Int) s=>by have:=q.2.2;rw[p]at this;omega)]
           ·rw[ab u];by_cases b:dval 0 (c::r)*10 ^ k<=E16
            ·rw[ae b,ae ⟨⟨h,by omega,by omega,by simpa using e,by omega,by omega,J,by simpa using b⟩,by omega,by omega⟩]
            ·rw[ab b,ab (λq:okL (c::r) (k:Int) s=>b (by simpa using q.1.2.2.2.2.2.2.2))]
          by_cases b:(k:Int)=0
          ·rw[ae b];by_cases H:(A:Int)<5
           ·rw[ae H,ab (λq:okL (c::r) (k:Int) s=>q.1.2.2.2.2.2.2.1 ⟨b,by omega⟩)]
           ·rw[ab H];exact a (λq=>by omega)
          ·rw[ab b];exact a (λq=>b q.1)
 ·rw[ad,ab];intro q;apply y;rw[hs.2];unfold okY at q;split at q
  ·exactλc hc=>.inl (q.1.1 c hc)
  ·exact q.2.1
def OB:∀(l:aa) (acc:Nat),acc*10 ^ l.length<=dval acc l
 | [],acc=>by rw[sD];simp
 | c::l,acc=>by
  have ih:=OB l (yw acc c);rw[rE,aI,vz];have h:acc*10<=yw acc c:=ED _ _;have b:=qX (10 ^ l.length) h;have a:acc*(10 ^ l.length*10)=acc*10*10 ^ l.length:=by rw[xw (10 ^ l.length) 10,IZ]
  omega
def tR:∀(l:aa) (acc k:Nat),(∀c∈l,bv c=true)->acc<10 ^ k->dval acc l<10 ^ (l.length+k)
 | [],acc,k,_,h=>by rw[sD];simpa using h
 | c::l,acc,k,b,h=>by
  have hc:=(cA c).1 (b c (by simp));have hp:(10:Nat) ^ (k+1)=10 ^ k*10:=vz 10 k;have hs:yw acc c=acc*10+(c.toNat - 48):=rfl;have ih:=tR l (yw acc c) (k+1) (λd a=>b d (by simp[a])) (by omega);rw[rE,aI,show l.length+1+k=l.length+(k+1)by omega];exact ih
structure Num(d:aa)(k q:Nat):Prop where
 dig:∀c∈d,bv c=true
 ne:d≠[]
 wide:d.length+k<=17
 small:dval 0 d*10 ^ k<=E16
 sig:q<=d.length+k
def wv{d:aa}(h:∀c∈d,bv c=true):hasX d=false:=by
 unfold hasX;rw[ud];intro c hc a;rw[bA]at a;have:=(cA c).1 (h c hc);rw[a]at this;exact absurd this.2 (by decide)
def va{g l:Bool}{d:aa}{x s:Int}(h:okY g l d x s)(p:hasX d=false):∃k q:Nat,x=(k:Int)/\s=(q:Int)/\Num d k q:=by
 cases l with
 | true=>
  have h:okL d x s:=by simpa[okY]using h
  obtain⟨⟨a,f,v,m,A,w,z,B⟩,u,C⟩:=h;refine⟨x.toNat,s.toNat,by omega,by omega,a,by intro e;subst e;simp at f,?_,B,by omega⟩;cases d with
  | nil=>simp at f
  | cons c r=>
   have hc:=(cA c).1 (a c (by simp));have i:c≠48:=by simpa using m
   have o:1<=yw 0 c:=by
    have:c.toNat≠48:=λe=>i (ii.1 e);show 1<=0*10+(c.toNat - 48);omega
   have y:=OB r (yw 0 c);rw[<-rE]at y;have u:10 ^ r.length<=dval 0 (c::r):=by
    have:=qX (10 ^ r.length) o;omega
   have j:=qX (10 ^ x.toNat) u;rw[<-Nat.pow_add]at j;rcases aN (r.length+x.toNat) 17 with b | n
   ·simp only[aI];omega
   ·have:=WM n;omega
 | false=>
  have h:okS g d x s:=by simpa[okY]using h
  obtain⟨a,f,v,m,A,w,z⟩:=h;have t:∀c∈d,bv c=true:=by
   intro c hc;rcases f c hc with h | h
   ·exact h
   ·exfalso;unfold hasX at p;rw[ud]at p;exact p c hc (bA.2 h)
  have b:=tR d 0 0 t (by simp);rw[a]at b;refine⟨0,s.toNat,by omega,by omega,t,by intro e;subst e;simp at a,by omega,?_,by omega⟩;have m:(10:Nat) ^ (4+0)=10000:=by decide
  unfold E16;simp only[E4,tz];omega
def val(d:aa)(k:Nat):Nat:=dval 0 d*10 ^ k
def EG(n:Nat)(g l:Bool)(d:aa)(x s:Int)(b:200<n)(e:d.length<=100):
  fq n g l d x s=some (if okY g l d x s/\hasX d=false then(if g then -((val d x.toNat:Nat):Int)else((val d x.toNat:Nat):Int),0)else(0,6)):=by
 unfold fq;rw[Ez n g l d x s b e,wX];simp only[ob];by_cases h:okY g l d x s
 ·rw[ae h];cases c:hasX d with
  | true=>rw[ab (by simp)];rfl
  | false=>
   rw[ae ⟨h,rfl⟩];obtain⟨k,q,rfl,rfl,a⟩:=va h c;rw[Qe n g l d k q a.dig a.ne (by have:=a.wide;omega) (by have:=a.wide;omega) (by omega),ae a.small];have hs:=a.small;unfold E16 at hs;cases g with
   | true=>
    simp only[fU,af,ah,co,val,aS];rw[wd,C0]
   | false=>simp[val]
 ·rw[ab h,ab (λq=>h q.1)];rfl
def dm{a b:aa}(h:a.length+b.length<=1000000):cat a b=some (a++b):=by
 unfold cat;rw[ea]
def cut1{l:aa}{i:Nat}{c:UInt8}(h:l[i]?=some c):List.drop i (List.take (i+1) l)=[c]:=by
 have a:=wj h;rw[tu,h,HC (by rw[dN];omega)];rfl
def XT{l:aa}{i:Nat}{c:UInt8}(h:l[i]?=some c):List.take (i+1) l=List.take i l++[c]:=by
 rw[tu,h];rfl
def tK{g l:Bool}{d:aa}{x s:Int}(h:okY g l d x s)(a:hasX d=true):l=false/\x=0/\s=0/\d.length=4/\∀c∈d,bv c=true\/c=88:=by
 cases l with
 | true=>
  have h:okL d x s:=by simpa[okY]using h
  rw[wv h.1.1]at a;cases a
 | false=>
  have h:okS g d x s:=by simpa[okY]using h
  obtain⟨i,j,b,k,n,m,f⟩:=h;refine⟨rfl,b,?_,i,j⟩;have:¬0<s:=λe=>f ⟨e,a⟩;omega
def gR{g l:Bool}{d:aa}{x s:Int}(h:okY g l d x s):0<=x/\x<=16/\0<=s/\s<=17/\1<=d.length/\d.length<=17:=by
 cases b:hasX d with
 | true=>
  obtain⟨rfl,rfl,rfl,e,_⟩:=tK h b;omega
 | false=>
  obtain⟨k,q,rfl,rfl,a⟩:=va h b;have i:=a.wide;have j:=a.sig;have f:1<=d.length:=by
   cases d with
   | nil=>exact absurd rfl a.ne
   | cons c r=>simp
  omega
def NZ{g l:Bool}{d:aa}{x s:Int}(h:okY g l d x s):xZ d x s=true:=by
 obtain⟨f,i,b,a,e,c⟩:=gR h;unfold xZ;rw[rM,dc (by omega)];rfl
def numU(d:UInt8):aa->Nat⊕(Nat×Nat)
 | []=>.inr (d.toNat - 48,2)
 | e::_=>if bv e=true then .inr (10*(d.toNat - 48)+(e.toNat - 48),3)else .inr (d.toNat - 48,2)
def numT:aa->Nat⊕(Nat×Nat)
 | []=>.inl 1
 | d::r=>if 49<=d.toNat/\d.toNat<=57 then numU d r else .inl 1
def numS(letter:UInt8):aa->Nat⊕(Nat×Nat)
 | []=>.inr (0,0)
 | c::r=>if c=letter then numT r else .inr (0,0)
def yG(letter:UInt8):numS letter []=.inr (0,0):=rfl
def qx(letter c:UInt8)(r:aa):numS letter (c::r)=if c=letter then numT r else .inr (0,0):=rfl
def EJ:numT []=.inl 1:=rfl
def rR(d:UInt8)(r:aa):numT (d::r)=if 49<=d.toNat/\d.toNat<=57 then numU d r else .inl 1:=rfl
def wg(d:UInt8):numU d []=.inr (d.toNat - 48,2):=rfl
def qd(d e:UInt8)(r:aa):numU d (e::r)=if bv e=true then .inr (10*(d.toNat - 48)+(e.toNat - 48),3)else .inr (d.toNat - 48,2):=rfl
def BQ(c:UInt8)(h:c.toNat<128):(Utf8.encode (c.toNat:Int)).data.toList=[c]:=by
 have:=gO (λc=>(decide (128<=c.toNat))||(Utf8.encode (c.toNat:Int)).data.toList==[c]) (by decide +kernel) c;simp only[jk,cK,bA]at this;rcases this with a | a
 ·omega
 ·exact a
def tA{c:UInt8}(h:48<=c.toNat/\c.toNat<=57):Lib.digitVal c=some (c.toNat - 48):=by
 unfold Lib.digitVal;rw[ae h]
def Cc{c:UInt8}(h:48<=c.toNat/\c.toNat<=57)(r:aa):Lib.atoi (c::r)=(Lib.decNat (c::r)).map λ(m:Nat)=>(m:Int):=by
 have b:(c==45)=false:=by
  rw[aL];rintro rfl;exact absurd h.1 (by decide)
 have a:(c==43)=false:=by
  rw[aL];rintro rfl;exact absurd h.1 (by decide)
 simp only[Lib.atoi,b,a,bI,aF]
def TJ{c:UInt8}(h:48<=c.toNat/\c.toNat<=57):Lib.atoi [c]=some ((c.toNat - 48:Nat):Int):=by
 rw[Cc h];simp only[Lib.decNat,List.isEmpty_cons,bI,aF,Lib.decFrom,tA h,fQ,Ee,dw]
def Jx{c e:UInt8}(h:48<=c.toNat/\c.toNat<=57)(a:48<=e.toNat/\e.toNat<=57):Lib.atoi [c,e]=some ((10*(c.toNat - 48)+(e.toNat - 48):Nat):Int):=by
 rw[Cc h];simp only[Lib.decNat,List.isEmpty_cons,bI,aF,Lib.decFrom,tA h,tA a,fQ,Ee,dw];rw[xw]
def Dl(c:UInt8):hasB [49,50,51,52,53,54,55,56,57] c=decide (49<=c.toNat/\c.toNat<=57):=by
 have:=gO (λc=>hasB [49,50,51,52,53,54,55,56,57] c==decide (49<=c.toNat/\c.toNat<=57)) (by decide +kernel) c;simpa using this
def lW{p q:UInt8->Bool}(h:∀c,p c=q c):∀(k:Nat) (l:aa),bS p k l=bS q k l
 | 0,_=>by simp[bS]
 | _+1,[]=>by simp[bS]
 | k+1,c::l=>by simp only[bS,h c,lW h k l]
def pZ{S:aa}{a:Nat}{c:UInt8}{r:aa}(h:S.drop a=c::r):a<S.length/\S[a]?=some c/\S.drop (a+1)=r:=by
 have b:a<S.length:=by
  rcases aN a S.length with q | q
  ·exact q
  ·rw[kW q]at h;cases h
 have d:S[a]?=some S[a]:=ba b;have e:=da d;rw[h]at e;injection e with h1 h2;exact⟨b,by rw[d,h1],h2.symm⟩
def PL(n:Nat)(letter:UInt8)(S:aa)(a:Nat)(h:a<=S.length)(D:S.length<100000)(z:S.length<n):
  dR n [letter] S (a:Int)=some (match numS letter (S.drop a)with | .inl k=>.inr (((a+k:Nat):Int),5,S,((a+k:Nat):Int)) | .inr (v,k)=>.inl ((v:Int),S,((a+k:Nat):Int))):=by
 unfold dR;rw[o5 n [letter] S a h (by omega)];cases C:S.drop a with
 | nil=>simp[yG]
 | cons c r=>
  obtain⟨B,E,u⟩:=pZ C;rw[qx];by_cases hc:c=letter
  ·have g:List.take [letter].length (c::r)=[letter]:=by simp[hc]
   have s:a+[letter].length=a+1:=rfl;rw[ae g,s,ae hc];clear g;simp only[ob,dU,af];rw[Ek n _ S (a+1) (by omega) (by omega),u];cases r with
   | nil=>simp[EJ]
   | cons d w=>
    obtain⟨t,A,l⟩:=pZ u;rw[rR];simp only[Dl,cK];by_cases b:49<=d.toNat/\d.toNat<=57
    ·rw[ae b,ae b];simp only[];rw[yH n _ 0 1 S (a+1+1) (by omega) (by omega) z,l];have F:=nL (hasB [48,49,50,51,52,53,54,55,56,57]) (1:Int).toNat w;rw[ad];rw[lW AK];simp only[];rw[BQ d (by omega)];have j:Nat.ble ([d]:aa).length 18=true:=rfl;have o:∀e:UInt8,Nat.ble ([d,e]:aa).length 18=true:=λ_=>rfl;have m:a+1+1=a+2:=rfl;have y:a+2+1=a+3:=rfl;have x:=TJ (show 48<=d.toNat/\d.toNat<=57 by omega);cases w with
     | nil=>
      have hs:bS bv (1:Int).toNat []=0:=rfl;rw[hs,wg];rw[dm (by simp)];simp only[List.take_nil,mi,dj,j,ah,x,opt,m]
     | cons e f=>
      by_cases i:bv e=true
      ·have hs:bS bv (1:Int).toNat (e::f)=1:=by
        show bS bv (0+1) (e::f)=1;simp[bS,i]
       have q:=Jx (show 48<=d.toNat/\d.toNat<=57 by omega) ((cA e).1 i);rw[hs,qd,ae i];have p:List.take 1 (e::f)=[e]:=rfl;rw[p,dm (by simp)];simp only[fK,eo,o,ah,q,opt,m,y]
      ·have hs:bS bv (1:Int).toNat (e::f)=0:=by
        show bS bv (0+1) (e::f)=0;simp[bS,i]
       rw[hs,qd,ab i];have p:List.take 0 (e::f)=[]:=rfl;rw[p,dm (by simp)];simp only[mi,j,ah,x,opt,dj,m]
    ·rw[ab b,ab b]
  ·have e:¬List.take [letter].length (c::r)=[letter]:=by simp[hc]
   rw[ab e,ab hc];simp
def Qa(n:Nat)(letter:UInt8)(S:aa)(a:Nat)(h:a<=S.length)(H:S.length<100000):
  ak n S (a:Int) (letter.toNat:Int)=some (match numS letter (S.drop a)with | .inl k=>(-1,((a+k:Nat):Int)) | .inr (v,k)=>((v:Int),((a+k:Nat):Int))):=by
 unfold ak;rw[m8];cases t:S.drop a with
 | nil=>
  have:S.length<=a:=by
   rcases aN a S.length with q | q
   ·rw[da (ba q)]at t;cases t
   ·exact q
  rw[ar this];simp[yG]
 | cons c r=>
  obtain⟨z,C,m⟩:=pZ t;have D:wrap .i64 ((a:Int)+1)=((a+1:Nat):Int):=by rw[wd];omega
  have G:wrap .i64 (((a+1:Nat):Int)+1)=((a+2:Nat):Int):=by rw[wd];omega
  have y:wrap .i64 (((a+2:Nat):Int)+1)=((a+3:Nat):Int):=by rw[wd];omega
  rw[au (show¬S.length<=a by omega),af,fh C];simp only[ob,D,G,y,m8,jV];have p:((c.toNat:Int) != (letter.toNat:Int))=!(c==letter):=by rw[bne,qm]
  rw[p,qx];by_cases hc:c=letter
  ·have e:(!(c==letter))=false:=by rw[hc];simp
   rw[e,af,ae hc];cases r with
   | nil=>
    have:S.length<=a+1:=by
     rcases aN (a+1) S.length with q | q
     ·rw[da (ba q)]at m;cases m
     ·exact q
    rw[ar this];rfl
   | cons d A=>
    obtain⟨x,l,b⟩:=pZ m;rw[rR];rw[au (show¬S.length<=a+1 by omega),af,fh l];simp only[];by_cases K:d.toNat<49
    ·have s:decide ((d.toNat:Int)<49)=true:=ar (by omega);rw[s,ah,ad]
    ·have s:decide ((d.toNat:Int)<49)=false:=au (by omega);rw[s,af];by_cases I:d.toNat>57
     ·have o:decide ((d.toNat:Int)>57)=true:=ar (by omega);rw[o,ah,ad]
     ·have o:decide ((d.toNat:Int)>57)=false:=au (by omega);rw[o,af,ea];have B:wrap .i64 (wrap .u8 ((d.toNat:Int) - 48))=((d.toNat - 48:Nat):Int):=by
       rw[gJ _ (by omega) (by omega),wd];omega
      rw[B];cases A with
      | nil=>
       have:¬a+2<S.length:=by
        intro q;rw[da (ba (show a+1+1<S.length from q))]at b;cases b
       rw[au this,wg];rfl
      | cons e J=>
       obtain⟨f,i,_⟩:=pZ b;rw[qd];rw[ar (show a+2<S.length from f),ah,fh i];simp only[];by_cases w:e.toNat>=48
       ·have g:decide ((e.toNat:Int)>=48)=true:=ar (by omega);rw[g,ah];by_cases u:e.toNat<=57
        ·have j:decide ((e.toNat:Int)<=57)=true:=ar (by omega);have F:wrap .i64 (wrap .u8 ((e.toNat:Int) - 48))=((e.toNat - 48:Nat):Int):=by
          rw[gJ _ (by omega) (by omega),wd];omega
         have E:wrap .i64 (10*((d.toNat - 48:Nat):Int))=((10*(d.toNat - 48):Nat):Int):=by rw[wd];omega
         have ws:wrap .i64 (((10*(d.toNat - 48):Nat):Int)+((e.toNat - 48:Nat):Int))=((10*(d.toNat - 48)+(e.toNat - 48):Nat):Int):=by rw[wd];omega
         rw[j,ah,ae ((cA e).2 ⟨w,u⟩),F,E,ws]
        ·have j:decide ((e.toNat:Int)<=57)=false:=au (by omega);rw[j,af,ab (λq=>u ((cA e).1 q).2)]
       ·have g:decide ((e.toNat:Int)>=48)=false:=au (by omega);rw[g,af,ab (λq=>w ((cA e).1 q).1)]
  ·have e:(!(c==letter))=true:=by rw[aL.2 hc];rfl
   rw[e,ah,ab hc];rfl
def isDX(c:UInt8):Bool:=bv c||c==88
abbrev YR:=Bool×Bool×aa×Nat×Nat×Nat
def wu(g:Bool)(o:Nat):aa->Nat⊕YR
 | []=>.inl o
 | c::r=>if 49<=c.toNat/\c.toNat<=57 then
   (match numS 69 ((c::r).drop (1+bS bv 16 r))with
   | .inl j=>.inl (o+(1+bS bv 16 r)+j)
   | .inr (x,j)=>(match numS 83 ((c::r).drop (1+bS bv 16 r+j))with
    | .inl i=>.inl (o+(1+bS bv 16 r)+j+i)
    | .inr (s,i)=>.inr (g,true,(c::r).take (1+bS bv 16 r),x,s,o+(1+bS bv 16 r)+j+i)))
  else .inl o
def xQ(g:Bool)(o:Nat)(l:aa):Nat⊕YR:=
 if bS isDX 4 l<4 then .inl (o+bS isDX 4 l)else
  (match numS 83 (l.drop 4)with
  | .inl i=>.inl (o+4+i)
  | .inr (s,i)=>.inr (g,false,l.take 4,0,s,o+4+i))
def gm(c:UInt8)(l:aa):Nat:=if l.take 1=[c]then 1 else 0
def sR(l:aa):Nat⊕YR:=
 if gm 89 l=1 then wu (gm 45 (l.drop 1)==1) (1+gm 45 (l.drop 1)) (l.drop (1+gm 45 (l.drop 1)))
 else xQ (gm 45 l==1) (gm 45 l) (l.drop (gm 45 l))
def nA(c:UInt8)(l:aa):gm c l=0\/gm c l=1:=by
 unfold gm;split
 ·exact .inr rfl
 ·exact .inl rfl
def DD(c:UInt8)(l:aa):gm c l<=l.length:=by
 unfold gm;split
 ·rename_i h;cases l with
  | nil=>simp at h
  | cons a l=>simp
 ·omega
def wo(n:Nat)(c:UInt8)(S:aa)(a:Nat)(h:a<=S.length)(b:S.length<100000):
  aG n [c] S (a:Int)=some (gm c (S.drop a)==1,S,((a+gm c (S.drop a):Nat):Int)):=by
 rw[o5 n [c] S a h (by omega)];unfold gm;have e:[c].length=1:=rfl;rw[e];split<;>rfl
def Bv(S:aa)(a:Nat):Nat⊕YR->(Int×Int×aa×Int)⊕(Bool×Bool×aa×Int×Int×aa×Int)
 | .inl k=>.inl (((a+k:Nat):Int),5,S,((a+k:Nat):Int))
 | .inr (g,l,d,x,s,k)=>.inr (g,l,d,(x:Int),(s:Int),S,((a+k:Nat):Int))
def rQ(a:Nat):Nat⊕YR->Bool×Bool×aa×Int×Int×Int×Int
 | .inl k=>(false,false,[],0,0,((a+k:Nat):Int),5)
 | .inr (g,l,d,x,s,k)=>(g,l,d,(x:Int),(s:Int),((a+k:Nat):Int),0)
def Yq(letter:UInt8)(l:aa):(match numS letter l with | .inl k=>k<=l.length | .inr (_,k)=>k<=l.length):=by
 cases l with
 | nil=>simp[yG]
 | cons c r=>
  rw[qx];by_cases hc:c=letter
  ·rw[ae hc];cases r with
   | nil=>simp[EJ]
   | cons d f=>
    rw[rR];by_cases b:49<=d.toNat/\d.toNat<=57
    ·rw[ae b];cases f with
     | nil=>simp[wg]
     | cons e g=>
      rw[qd];by_cases a:bv e=true
      ·rw[ae a];simp
      ·rw[ab a];simp
    ·rw[ab b];simp
  ·rw[ab hc];simp
def C2{letter:UInt8}{S:aa}{a:Nat}(h:a<=S.length){v k:Nat}(b:numS letter (S.drop a)=.inr (v,k)):a+k<=S.length:=by
 have:=Yq letter (S.drop a);rw[b,cg]at this;simp only at this;omega
def Wg(n:Nat)(S:aa)(a o:Nat)(g:Bool)(h:a+o<=S.length)(I:S.length<100000)(D:S.length<n):
  (ob (cZ n [49,50,51,52,53,54,55,56,57] S ((a+o:Nat):Int)) λv=>Sum.casesOn (motive:=λ_=>Option ((Int×Int×aa×Int)⊕(Bool×Bool×aa×Int×Int×aa×Int))) v (λd=>some (.inl (d.1,d.2.1,d.2.2.1,d.2.2.2))) (λm=>ob (cH n [48,49,50,51,52,53,54,55,56,57] 0 16 m.2.1 m.2.2) λy=>Sum.casesOn (motive:=λ_=>Option _) y (λe=>some (.inl (e.1,e.2.1,e.2.2.1,e.2.2.2))) (λq=>ob (cat (Utf8.encode m.1).data.toList q.1) λA=>ob (dR n [69] q.2.1 q.2.2) λB=>Sum.casesOn (motive:=λ_=>Option _) B (λt=>ob (dR n [83] t.2.1 t.2.2) λu=>Sum.casesOn (motive:=λ_=>Option _) u (λl=>some (.inr (g,true,A,t.1,l.1,l.2.1,l.2.2))) (λf=>some (.inl (f.1,f.2.1,f.2.2.1,f.2.2.2)))) (λb=>some (.inl (b.1,b.2.1,b.2.2.1,b.2.2.2))))))=some (Bv S a (wu g o (S.drop (a+o)))):=by
 rw[Ek n _ S (a+o) h (by omega)];cases G:S.drop (a+o)with
 | nil=>simp[wu,Bv,ob]
 | cons c r=>
  obtain⟨N,T,H⟩:=pZ G;simp only[Dl,cK];by_cases hc:49<=c.toNat/\c.toNat<=57
  ·rw[ae hc];simp only[ob];rw[yH n _ 0 16 S (a+o+1) (by omega) (by omega) D,H];rw[ad,lW AK];simp only[];rw[BQ c (by omega)];have E:(16:Int).toNat=16:=rfl;rw[E];have Q:=nL bv 16 r;have O:r.length+(a+o+1)=S.length:=by
    have:=cf List.length H;rw[cg]at this;omega
   rw[dm (by simp only[aI,bU,dN];omega)];simp only[wu];rw[ae hc];generalize R:bS bv 16 r=k at Q ⊢;have P:[c]++List.take k r=List.take (1+k) (c::r):=by rw[qP];rfl
   rw[P];have C:a+o+1+k<=S.length:=by omega
   have w:List.drop (1+k) (c::r)=S.drop (a+o+1+k):=by
    rw[<-G,km];congr 1;omega
   rw[PL n 69 S (a+o+1+k) C I D,<-w];cases L:numS 69 (List.drop (1+k) (c::r))with
   | inl j=>
    simp only[Bv];have:a+o+1+k+j=a+(o+(1+k)+j):=by omega
    rw[this]
   | inr p=>
    obtain⟨x,j⟩:=p;have J:=L;rw[w]at J;have F:=C2 C J;have z:List.drop (1+k+j) (c::r)=S.drop (a+o+1+k+j):=by
     rw[<-G,km];congr 1;omega
    simp only[];rw[PL n 83 S (a+o+1+k+j) F I D,<-z];cases M:numS 83 (List.drop (1+k+j) (c::r))with
    | inl i=>
     simp only[Bv];have:a+o+1+k+j+i=a+(o+(1+k)+j+i):=by omega
     rw[this]
    | inr K=>
     obtain⟨s,i⟩:=K;simp only[Bv];have:a+o+1+k+j+i=a+(o+(1+k)+j+i):=by omega
     rw[this]
  ·rw[ab hc];simp only[ob,wu];rw[ab hc];rfl
def UA(n:Nat)(S:aa)(a o:Nat)(g:Bool)(h:a+o<=S.length)(x:S.length<100000)(u:S.length<n):
  (ob (cH n [88,48,49,50,51,52,53,54,55,56,57] 4 4 S ((a+o:Nat):Int)) λm=>Sum.casesOn (motive:=λ_=>Option ((Int×Int×aa×Int)⊕(Bool×Bool×aa×Int×Int×aa×Int))) m (λd=>some (.inl (d.1,d.2.1,d.2.2.1,d.2.2.2))) (λe=>ob (dR n [83] e.2.1 e.2.2) λj=>Sum.casesOn (motive:=λ_=>Option _) j (λf=>some (.inr (g,false,e.1,0,f.1,f.2.1,f.2.2))) (λb=>some (.inl (b.1,b.2.1,b.2.2.1,b.2.2.2)))))=some (Bv S a (xQ g o (S.drop (a+o)))):=by
 rw[yH n _ 4 4 S (a+o) h (by omega) u];have r:∀c,hasB [88,48,49,50,51,52,53,54,55,56,57] c=isDX c:=xG;have w:(4:Int).toNat=4:=rfl;rw[lW r,w];unfold xQ;have v:=nL isDX 4 (S.drop (a+o));rw[cg]at v;by_cases q:bS isDX 4 (S.drop (a+o))<4
 ·rw[ea,ae q];simp only[ob,Bv];rw[iy]
 ·rw[ad,ab q];have t:∀(k:Nat) (l:aa),bS isDX k l<=k:=by
   intro k
   induction k with
   | zero=>intro l;simp[bS]
   | succ k ih=>
    intro l;cases l with
    | nil=>simp[bS]
    | cons c l=>
     have:=ih l;simp only[bS];split<;>omega
  have y:bS isDX 4 (S.drop (a+o))=4:=by have:=t 4 (S.drop (a+o));omega
  rw[y]at v ⊢;simp only[ob];have hp:a+o+4<=S.length:=by omega
  rw[PL n 83 S (a+o+4) hp x u,km];cases z:numS 83 (S.drop (a+o+4))with
  | inl i=>
   simp only[Bv];have:a+o+4+i=a+(o+4+i):=by omega
   rw[this]
  | inr p=>
   obtain⟨s,i⟩:=p;simp only[Bv];have:a+o+4+i=a+(o+4+i):=by omega
   rw[this];rfl
def X0(n:Nat)(S:aa)(a:Nat)(h:a<=S.length)(d:S.length<100000)(f:S.length<n):
  nF n S (a:Int)=some (Bv S a (sR (S.drop a))):=by
 unfold nF;rw[wo n 89 S a h d];have c:=DD 89 (S.drop a);rw[cg]at c;simp only[ob];rw[wo n 45 S (a+gm 89 (S.drop a)) (by omega) d];have b:=DD 45 (S.drop (a+gm 89 (S.drop a)));rw[cg]at b;simp only[];unfold sR;rcases nA 89 (S.drop a)with e | e
 ·rw[e]at b ⊢;simp only[dj,show((0:Nat)==1)=false from rfl,af,show¬((0:Nat)=1)from by decide,aF,km]at b ⊢;have:=UA n S a (gm 45 (S.drop a)) (gm 45 (S.drop a)==1) (by omega) d f;exact this
 ·rw[e]at b ⊢;simp only[show((1:Nat)==1)=true from rfl,ah,aS,km]at b ⊢;have:=Wg n S a (1+gm 45 (S.drop (a+1))) (gm 45 (S.drop (a+1))==1) (by omega) d f;rw[<-iy]at this;rw[<-iy];exact this
abbrev stR(S:aa)(a b M:Int)(g L:Bool):aa×Int×Int×Int×Bool×Bool×aa×Int×Int×Bool×Bool×aa×Int×Int:=(S,a,b,M,false,false,[],0,0,g,L,[],0,0)
def isYB(L:Bool)(c:UInt8):Bool:=bv c||(c==88&&!L)
def Ri(n:Nat)(S:aa)(b M:Nat)(g:Bool)(k:0<M)(j:S.length<100000)(a:S[b]?=some 48):av (aB (n+1)) (n+1) (stR S (b:Int) (b:Int) (M:Int) g true)=some (.inl ((b:Int),5,false,false,[],0,0)):=by
 have h:=wj a;have c:decide ((b:Int)<(S.length:Int))=true:=ar (by omega);have e:wrap .i64 ((b:Int) - (b:Int))=0:=by rw[Int.sub_self];rfl
 have d2:decide ((0:Int)<(M:Int))=true:=ar (by omega);have i:decide ((((48:UInt8).toNat:Nat):Int)>=48)=true:=rfl;have f:decide ((((48:UInt8).toNat:Nat):Int)<=57)=true:=rfl;have d:((((48:UInt8).toNat:Nat):Int)==48)=true:=rfl;simp only[av,aB,c,ah,e,d2,fh a,ob,i,f,d,xY]
def EB(n:Nat)(S:aa)(b M:Nat)(g L:Bool)(J:b<=S.length)(N:S.length<100000)(K:S.length<n)(z:¬(L=true/\S[b]?=some 48)):
  av (aB n) n (stR S (b:Int) (b:Int) (M:Int) g L)=some (.inr (S,((b+bS (isYB L) M (S.drop b):Nat):Int),(b:Int),false,false,[],0,0,g,L,[],0,0)):=by
 have:=gL (step:=aB n) (λx=>∃j:Nat,b+j<=S.length/\x=stR S ((b+j:Nat):Int) (b:Int) (M:Int) g L) (λx=>S.length - x.2.1.toNat)
  (λx=>.inr (S,((x.2.1.toNat+bS (isYB L) (M - (x.2.1.toNat - b)) (S.drop x.2.1.toNat):Nat):Int),(b:Int),false,false,[],0,0,g,L,[],0,0)) ?_ n (stR S (b:Int) (b:Int) (M:Int) g L) ⟨0,by omega,rfl⟩ (by simp;omega)
 ·rw[this];simp
 rintro x ⟨j,Q,rfl⟩;simp only[co];rcases aN (b+j) S.length with u | v
 ·obtain⟨c,hc⟩:∃c,S[b+j]?=some c:=⟨S[b+j],ba u⟩;have d:decide (((b+j:Nat):Int)<(S.length:Int))=true:=ar (by omega);have p:wrap .i64 (((b+j:Nat):Int) - (b:Int))=(j:Int):=by rw[wd];omega
  have B:wrap .i64 (((b+j:Nat):Int)+1)=((b+(j+1):Nat):Int):=by rw[wd];omega
  have i:b+j - b=j:=by omega
  rw[da hc,i];by_cases P:j<M
  ·have d2:decide ((j:Int)<(M:Int))=true:=ar (by omega);obtain⟨q,D⟩:∃q,M - j=q+1:=⟨M - j - 1,by omega⟩;have t:M - (j+1)=q:=by omega
   rw[D];simp only[bS];have C:isYB L c=true->aB n (stR S ((b+j:Nat):Int) (b:Int) (M:Int) g L)=some (.inl (stR S ((b+(j+1):Nat):Int) (b:Int) (M:Int) g L)):=by
    intro hy;by_cases r:bv c=true
    ·have E:=(cA c).1 r;have f:decide ((c.toNat:Int)>=48)=true:=ar (by omega);have m:decide ((c.toNat:Int)<=57)=true:=ar (by omega);simp only[aB,d,ah,p,d2,fh hc,ob,f,m,B];cases L with
     | false=>rfl
     | true=>
      by_cases w:j=0
      ·subst w;have k:c≠48:=by
        intro e;exact z ⟨rfl,by rw[<-e];exact hc⟩
       have s:((c.toNat:Int)==48)=false:=by rw[XV];exact aL.2 k
       simp only[dj,xY,ah,s,af]
      ·have F:(((b+j:Nat):Int)==(b:Int))=false:=aL.2 (by omega);simp only[F,af,ah]
    ·have a:bv c=false:=by cases h:bv c with | false=>rfl | true=>exact absurd h r
     unfold isYB at hy;rw[a]at hy;simp only[qK,aD,bA,ko]at hy;obtain⟨rfl,rfl⟩:=hy;have f:decide ((((88:UInt8).toNat:Nat):Int)>=48)=true:=rfl;have m:decide ((((88:UInt8).toNat:Nat):Int)<=57)=false:=rfl;have s:((((88:UInt8).toNat:Nat):Int)==88)=true:=rfl;simp only[aB,d,ah,p,d2,fh hc,ob,f,m,s,B,af,kH]
   have o:isYB L c=false->aB n (stR S ((b+j:Nat):Int) (b:Int) (M:Int) g L)=some (.inr (.inr (S,((b+j:Nat):Int),(b:Int),false,false,[],0,0,g,L,[],0,0))):=by
    intro hy;unfold isYB at hy;simp only[qt,FL]at hy;obtain⟨a,A⟩:=hy;have I:¬(48<=c.toNat/\c.toNat<=57):=λq=>by rw[(cA c).2 q]at a;cases a
    have l:((c.toNat:Int)==88)=(c==88):=qm c 88;have fin:(cond (c==88) (cond (!L) (0:Nat) 1) 1)=1:=by
     rcases A with h | h
     ·rw[h];rfl
     ·have:L=true:=by simpa using h
      rw[this];cases c==88<;>rfl
    by_cases O:c.toNat>=48
    ·have f:decide ((c.toNat:Int)>=48)=true:=ar (by omega);have m:decide ((c.toNat:Int)<=57)=false:=au (by omega);simp only[aB,d,ah,p,d2,fh hc,ob,f,m,af,l];rcases A with h | h
     ·rw[h];rfl
     ·have:L=true:=by simpa using h
      rw[this];cases c==88<;>rfl
    ·have f:decide ((c.toNat:Int)>=48)=false:=au (by omega);simp only[aB,d,ah,p,d2,fh hc,ob,f,af,l];rcases A with h | h
     ·rw[h];rfl
     ·have:L=true:=by simpa using h
      rw[this];cases c==88<;>rfl
   cases hy:isYB L c with
   | true=>
    refine .inl ⟨_,C hy,⟨j+1,by omega,rfl⟩,by simp only[co];omega,?_⟩;simp only[co,aS];have H:b+(j+1) - b=j+1:=by omega
    rw[H,t,show b+(j+1)=b+j+1 by omega];have G:b+j+1+bS (isYB L) q (S.drop (b+j+1))=b+j+(bS (isYB L) q (S.drop (b+j+1))+1):=by omega
    rw[G]
   | false=>
    refine .inr ?_;rw[o hy];simp
  ·have d2:decide ((j:Int)<(M:Int))=false:=au (by omega);have y:M - j=0:=by omega
   refine .inr ?_;rw[y];simp only[aB,d,ah,p,d2,af,bS,dj]
 ·have d:decide (((b+j:Nat):Int)<(S.length:Int))=false:=au (by omega);refine .inr ?_;rw[kW v];have y:∀q,bS (isYB L) q []=0:=λq=>by cases q<;>rfl
  simp only[aB,d,af,y,dj]
def OF(n:Nat)(S:aa)(a:Nat)(h:a<=S.length)(b:S.length<100000):
  ak n S (a:Int) 69=some (match numS 69 (S.drop a)with | .inl k=>(-1,((a+k:Nat):Int)) | .inr (v,k)=>((v:Int),((a+k:Nat):Int))):=Qa n 69 S a h b
def Gf(n:Nat)(S:aa)(a:Nat)(h:a<=S.length)(b:S.length<100000):
  ak n S (a:Int) 83=some (match numS 83 (S.drop a)with | .inl k=>(-1,((a+k:Nat):Int)) | .inr (v,k)=>((v:Int),((a+k:Nat):Int))):=Qa n 83 S a h b
noncomputable def ND(n:Nat)(a0:aa)(B M:Int)(g L:Bool):Option (Bool×Bool×aa×Int×Int×Int×Int):=
 (ob (av (aB n) n (a0,B,B,M,false,false,[],0,0,g,L,[],0,0)) λo=>Sum.casesOn (motive:=λ_=>Option (Bool×Bool×aa×Int×Int×Int×Int)) o (λb=>some (b.2.2.1,b.2.2.2.1,b.2.2.2.2.1,b.2.2.2.2.2.1,b.2.2.2.2.2.2,b.1,b.2.1)) (λa=>cond (decide ((wrap .i64 (a.2.1 - a.2.2.1))<1)) (some (false,false,[],0,0,a.2.1,5)) (cond (!a.2.2.2.2.2.2.2.2.2.1) (cond (decide ((wrap .i64 (a.2.1 - a.2.2.1))<4)) (some (false,false,[],0,0,a.2.1,5)) (ob (bx a.1.length a.2.1) λj=>ob (bx j a.2.2.1) λm=>cond a.2.2.2.2.2.2.2.2.2.1 (ob (ak n a.1 a.2.1 69) λd=>cond (decide (d.1<0)) (some (false,false,[],0,0,d.2,5)) (ob (ak n a.1 d.2 83) λe=>cond (decide (e.1<0)) (some (false,false,[],0,0,e.2,5)) (some (a.2.2.2.2.2.2.2.2.1,a.2.2.2.2.2.2.2.2.2.1,List.drop m (List.take j a.1),d.1,e.1,e.2,0)))) (ob (ak n a.1 a.2.1 83) λf=>cond (decide (f.1<0)) (some (false,false,[],0,0,f.2,5)) (some (a.2.2.2.2.2.2.2.2.1,a.2.2.2.2.2.2.2.2.2.1,List.drop m (List.take j a.1),a.2.2.2.2.2.2.2.2.2.2.2.1,f.1,f.2,0))))) (ob (bx a.1.length a.2.1) λk=>ob (bx k a.2.2.1) λl=>cond a.2.2.2.2.2.2.2.2.2.1 (ob (ak n a.1 a.2.1 69) λi=>cond (decide (i.1<0)) (some (false,false,[],0,0,i.2,5)) (ob (ak n a.1 i.2 83) λh=>cond (decide (h.1<0)) (some (false,false,[],0,0,h.2,5)) (some (a.2.2.2.2.2.2.2.2.1,a.2.2.2.2.2.2.2.2.2.1,List.drop l (List.take k a.1),i.1,h.1,h.2,0)))) (ob (ak n a.1 a.2.1 83) λc=>cond (decide (c.1<0)) (some (false,false,[],0,0,c.2,5)) (some (a.2.2.2.2.2.2.2.2.1,a.2.2.2.2.2.2.2.2.2.1,List.drop l (List.take k a.1),a.2.2.2.2.2.2.2.2.2.2.2.1,c.1,c.2,0)))))))
def Qi(c:UInt8):isYB true c=bv c:=by unfold isYB;cases bv c<;>simp
def MU(c:UInt8):isYB false c=isDX c:=by unfold isYB isDX;simp
def tV(p:UInt8->Bool):∀(k:Nat) (l:aa),bS p k l<=k
 | 0,l=>by simp[bS]
 | k+1,[]=>by simp[bS]
 | k+1,c::l=>by
  have:=tV p k l;simp only[bS];split<;>omega
def H5:decide ((-1:Int)<0)=true:=rfl
def II(x:Nat):decide ((x:Int)<0)=false:=au (by omega)
def Ql(n:Nat)(S:aa)(a o:Nat)(g:Bool)(h:a+o<=S.length)(v:S.length<100000)(E:S.length<n):
  ND n S ((a+o:Nat):Int) 17 g true=some (rQ a (wu g o (S.drop (a+o)))):=by
 unfold ND;cases f:S.drop (a+o)with
 | nil=>
  have t:¬(true=true/\S[a+o]?=some 48):=by
   rintro⟨_,q⟩;rw[da q]at f;cases f
  have l:=EB n S (a+o) 17 g true h v E t;rw[f]at l;have Q:bS (isYB true) 17 []=0:=rfl;rw[Q,dj]at l;have hl':av (aB n) n (S,((a+o:Nat):Int),((a+o:Nat):Int),(17:Int),false,false,[],0,0,g,true,[],0,0)=_:=l;rw[hl'];have w:wrap .i64 (((a+o:Nat):Int) - ((a+o:Nat):Int))=0:=by rw[Int.sub_self];rfl
  simp only[ob,w,wu,rQ];rfl
 | cons c r=>
  obtain⟨O,F,R⟩:=pZ f;by_cases hc:c=48
  ·subst hc;obtain⟨C,rfl⟩:∃q,n=q+1:=⟨n - 1,by omega⟩;have l:=Ri C S (a+o) 17 g (by omega) v F;have hl':av (aB (C+1)) (C+1) (S,((a+o:Nat):Int),((a+o:Nat):Int),(17:Int),false,false,[],0,0,g,true,[],0,0)=_:=l;rw[hl'];have m:¬(49<=(48:UInt8).toNat/\(48:UInt8).toNat<=57):=by decide
   simp only[ob,wu,rQ];rw[ab m]
  ·have m:¬(true=true/\S[a+o]?=some 48):=by
    rintro⟨_,q⟩;rw[F]at q;exact hc (by simpa using q)
   have l:=EB n S (a+o) 17 g true h v E m;rw[f,lW Qi]at l;have I:=nL bv 17 (c::r);have P:(c::r).length+(a+o)=S.length:=by
    have:=cf List.length f;rw[cg]at this;omega
   have hl':av (aB n) n (S,((a+o:Nat):Int),((a+o:Nat):Int),(17:Int),false,false,[],0,0,g,true,[],0,0)=_:=l;rw[hl'];have w:∀k:Nat,k<=17->wrap .i64 (((a+o+k:Nat):Int) - ((a+o:Nat):Int))=(k:Int):=by
    intro k H;rw[wd];omega
   by_cases d:bv c=true
   ·have L:=(cA c).1 d;have u:49<=c.toNat/\c.toNat<=57:=by
     have:c.toNat≠48:=λe=>hc (ii.1 e);omega
    have b:bS bv 17 (c::r)=1+bS bv 16 r:=by
     show bS bv (16+1) (c::r)=_;simp only[bS,d,aS];omega
    rw[b]at I ⊢;have z:=tV bv 16 r;simp only[wu];rw[ae u];generalize bS bv 16 r=k at I z ⊢;have M:decide (((1+k:Nat):Int)<1)=false:=au (by omega);simp only[ob,w (1+k) (by omega),M,af,dU,ah,de (show a+o+(1+k)<=S.length by omega),de (show a+o<=a+o+(1+k)by omega)];have B:a+o+(1+k)<=S.length:=by omega
    have y:S.drop (a+o+(1+k))=List.drop (1+k) (c::r):=by rw[<-f,km]
    rw[OF n S (a+o+(1+k)) B v,y,sc,f];cases K:numS 69 (List.drop (1+k) (c::r))with
    | inl j=>
     simp only[H5,ah,rQ];have:a+o+(1+k)+j=a+(o+(1+k)+j):=by omega
     rw[this]
    | inr p=>
     obtain⟨x,j⟩:=p;have G:=K;rw[<-y]at G;have D:=C2 B G;have A:S.drop (a+o+(1+k)+j)=List.drop (1+k+j) (c::r):=by rw[<-f,km];congr 1;omega
     simp only[II,af];rw[Gf n S (a+o+(1+k)+j) D v,A];cases N:numS 83 (List.drop (1+k+j) (c::r))with
     | inl i=>
      simp only[H5,ah,rQ];have:a+o+(1+k)+j+i=a+(o+(1+k)+j+i):=by omega
      rw[this]
     | inr J=>
      obtain⟨s,i⟩:=J;simp only[II,af,rQ];have:a+o+(1+k)+j+i=a+(o+(1+k)+j+i):=by omega
      rw[this]
   ·have b:bS bv 17 (c::r)=0:=by
     show bS bv (16+1) (c::r)=0;simp only[bS];rw[ab d]
    have u:¬(49<=c.toNat/\c.toNat<=57):=λq=>d ((cA c).2 (by omega));rw[b];simp only[wu];rw[ab u];simp only[ob,w 0 (by omega),rQ];rfl
def MA(n:Nat)(S:aa)(a o:Nat)(g:Bool)(h:a+o<=S.length)(l:S.length<100000)(r:S.length<n):
  ND n S ((a+o:Nat):Int) 4 g false=some (rQ a (xQ g o (S.drop (a+o)))):=by
 unfold ND;have j:=EB n S (a+o) 4 g false h l r (by rintro⟨q,_⟩;cases q);rw[lW MU]at j;have m:=nL isDX 4 (S.drop (a+o));have b:=tV isDX 4 (S.drop (a+o));rw[cg]at m;have hl':av (aB n) n (S,((a+o:Nat):Int),((a+o:Nat):Int),(4:Int),false,false,[],0,0,g,false,[],0,0)=_:=j;rw[hl'];unfold xQ;generalize u:bS isDX 4 (S.drop (a+o))=k at m b ⊢;have w:wrap .i64 (((a+o+k:Nat):Int) - ((a+o:Nat):Int))=(k:Int):=by rw[wd];omega
 simp only[ob,w,kH,ah,af];by_cases f:k<4
 ·rw[ae f];have e:decide ((k:Int)<4)=true:=ar (by omega);rw[e];have c:a+o+k=a+(o+k):=by omega
  simp only[ah,rQ,c];cases decide ((k:Int)<1)<;>rfl
 ·rw[ab f];have d:k=4:=by omega
  subst d;have e:decide (((4:Nat):Int)<4)=false:=rfl;have c:decide (((4:Nat):Int)<1)=false:=rfl;have hp:a+o+4<=S.length:=by omega
  simp only[e,c,af,de hp,de (show a+o<=a+o+4 by omega)];rw[Gf n S (a+o+4) hp l,sc,km];cases t:numS 83 (S.drop (a+o+4))with
  | inl i=>
   simp only[H5,ah,rQ];have:a+o+4+i=a+(o+4+i):=by omega
   rw[this]
  | inr p=>
   obtain⟨s,i⟩:=p;simp only[II,af,rQ];have:a+o+4+i=a+(o+4+i):=by omega
   rw[this];rfl
def l9(c a:UInt8)(l:aa):gm c (a::l)=if a=c then 1 else 0:=by
 unfold gm;simp
def zr(c:UInt8):gm c []=0:=by unfold gm;simp
def Ut(n:Nat)(S:aa)(a:Nat)(h:a<=S.length)(F:S.length<100000)(E:S.length<n):
  mn n S (a:Int)=some (rQ a (sR (S.drop a))):=by
 have D:=λo g q=>Ql n S a o g q F E;have C:=λo g q=>MA n S a o g q F E;unfold ND at D C;have H:wrap .i64 ((a:Int)+1)=((a+1:Nat):Int):=by rw[wd];omega
 have I:wrap .i64 (((a+1:Nat):Int)+1)=((a+2:Nat):Int):=by rw[wd];omega
 unfold mn sR;delta ml;rw[H,I];have w:=C 0 false (by omega);simp only[dj]at w;cases v:S.drop a with
 | nil=>
  have k:¬a<S.length:=by
   intro q;rw[da (ba q)]at v;cases v
  rw[jV,au k,af,af,w,v];rfl
 | cons c r=>
  obtain⟨A,G,i⟩:=pZ v;have t:((c.toNat:Int)==89)=(c==89):=qm c 89;have s:((c.toNat:Int)==45)=(c==45):=qm c 45;rw[jV,ar A,ah,fh G];simp only[ob];rw[t,s,l9];by_cases f:c=89
  ·have e:(c==89)=true:=bA.2 f;rw[e,ah,ae f,ae rfl,jV];have B:List.drop 1 (c::r)=r:=rfl;rw[B];have x:=D 1 false (by omega);cases p:r with
   | nil=>
    rw[p]at i;have k:¬a+1<S.length:=by
     intro q;rw[da (ba q)]at i;cases i
    simp only[ob]at x;rw[au k,af,x,i,zr];rfl
   | cons d J=>
    rw[p]at i;obtain⟨m,z,y⟩:=pZ i;have l:((d.toNat:Int)==45)=(d==45):=qm d 45;rw[ar m,ah,fh z];simp only[];rw[l,l9];by_cases b:d=45
    ·have j:(d==45)=true:=bA.2 b;have u:=D 2 true (by omega);simp only[ob]at u;rw[j,ah,ae b,u];rw[show a+2=a+1+1 from rfl,y];rfl
    ·have j:(d==45)=false:=aL.2 b;simp only[ob]at x;rw[j,af,ab b,x,i];rfl
  ·have e:(c==89)=false:=aL.2 f;rw[e,af,ab f,ab (by decide),l9];by_cases b:c=45
   ·have j:(c==45)=true:=bA.2 b;have u:=C 1 true (by omega);simp only[ob]at u;rw[j,ae b];simp only[ah];rw[u,i];rfl
   ·have j:(c==45)=false:=aL.2 b;simp only[ob]at w;rw[j,ab b];simp only[af];rw[w,v];rfl
def wint(c:Int):Bool:=c==24||c==28||c==30
def tH(g:Bool)(d:aa)(x:Int):Bool:=!hasX d&&!g&&decide (val d x.toNat=E16)
def yrB(g:Bool)(d:aa)(x s:Int)(m:aa):Bool:=!(decide (0<s)&&!(m==[]))&&!(wint (sea m)&&tH g d x)
def FB(n:Nat)(p:200<n)(g l:Bool)(dg:aa)(x q:Int)(m d:aa)(k0 k1 k2:Int)(A:m.length<=18)(t:dg.length<=100):
  gP n g l dg x q m d k0 k1 k2=some (if okY g l dg x q then yrB g dg x q m else false):=by
 unfold gP;rw[Ez n g l dg x q p t,rH n g l dg x q m d k0 k1 k2 A,wX,EG n g l dg x q p t];by_cases h:okY g l dg x q
 rotate_left
 ·rw[ab h,ab h];rfl
 rw[ae h,ae h];have body:(ob (some (sea m,decide (0<sea m))) λr=>cond (!r.2) (some true) (ob (some (hasX dg)) λw=>cond w (some true) (ob (some (if okY g l dg x q/\hasX dg=false then(if g then -((val dg x.toNat:Nat):Int)else((val dg x.toNat:Nat):Int),(0:Int))else(0,6))) λF=>ob (jH n F.1 r.1) λD=>some (D.2.2.2.2==0))))=some (!(wint (sea m)&&tH g dg x)):=by
  rcases qs m with B | ⟨j,s,rfl⟩
  ·rw[B];rfl
  ·have hs:=lT s;rw[hs];have hp:decide (0<((21+j:Nat):Int))=true:=by simp;omega
   rw[hp];cases o:hasX dg with
   | true=>
    have:tH g dg x=false:=by unfold tH;rw[o];rfl
    rw[this,BP];rfl
   | false=>
    rw[ae ⟨h,rfl⟩];obtain⟨k,G,rfl,rfl,C⟩:=va h o;have v:val dg k<=E16:=C.small;unfold E16 at v;have hc:eT (if g then -((val dg k:Nat):Int)else((val dg k:Nat):Int)):=by
     unfold eT;cases g<;>simp<;>omega
    obtain⟨a,b,c,e,y⟩:=aaW n (by omega) hc s;simp only[ob,dU,af,co];rw[y];simp only[aw];have E:wint ((21+j:Nat):Int)=decide (j=3\/j=7\/j=9):=by
     unfold wint;rw[mL];simp only[jk,bA,cK];omega
    have u:tH g dg (k:Int)=decide ((if g then -((val dg k:Nat):Int)else((val dg k:Nat):Int))=10000000000000000):=by
     unfold tH E16;rw[o,co];cases g
     ·simp only[kH,rG,bI,aF,jr];omega
     ·simp;omega
    rw[E,u];by_cases f:(if g then -((val dg k:Nat):Int)else((val dg k:Nat):Int))=10000000000000000<;>by_cases i:j=3\/j=7\/j=9
    ·rw[ae ⟨f,i⟩,ar f,ar i];rfl
    ·rw[ab (λz=>i z.2),au i];rfl
    ·rw[ab (λz=>f z.1),au f,BP];rfl
    ·rw[ab (λz=>f z.1),au f,BP];rfl
 show cond (decide (q>0)) (cond (!(m==[])) (some false) _) _=_;unfold yrB;rw[show(decide (q>0))=decide (0<q)from rfl];cases decide (0<q)with
 | false=>exact body
 | true=>
  cases(m==[])with
  | false=>rfl
  | true=>exact body
def Ti(n:Nat)(i:200<n)(g l:Bool)(dg:aa)(x q:Int)(m d:aa)(k0 k1 k2:Int)(j:dg.length<=100):
  kq n g l dg x q m d k0 k1 k2=some (if okY g l dg x q/\yrB g dg x q m=true then 1 else 0):=by
 unfold kq;rw[FI n g l dg x q i j,nl n (by omega) g l dg x q m d k0 k1 k2,rS n g l dg x q (by omega) (by omega)];by_cases h:okY g l dg x q
 rotate_left
 ·rw[ab h,ab (show¬(okY g l dg x q/\yrB g dg x q m=true)fromλz=>h z.1)];rfl
 rw[ae h];have T:(ob (some (if hasX dg then(1:Int)else 0)) λr=>cond (r==1) (some (1:Int)) (ob (aq n dg x) λv=>cond (v.1==10000000000000000) (cond (!g) (some 0) (some 1)) (some 1)))=some (if tH g dg x then 0 else 1):=by
  cases b:hasX dg with
  | true=>
   have:tH g dg x=false:=by unfold tH;rw[b];rfl
   rw[this];rfl
  | false=>
   obtain⟨k,o,rfl,rfl,a⟩:=va h b;have f:=a.small;have p:=a.wide;have c:=kU n dg k a.dig (by omega) (by omega) (by omega);rw[ae f]at c;show ob (aq n dg (k:Int)) _=_;rw[c];show cond (((dval 0 dg*10 ^ k:Nat):Int)==10000000000000000) _ _=_;unfold tH val;rw[b,co];have e:(((dval 0 dg*10 ^ k:Nat):Int)==10000000000000000)=decide (dval 0 dg*10 ^ k=E16):=by
    generalize dval 0 dg*10 ^ k=v;unfold E16;rw[mL];simp only[bA,cK];omega
   rw[e];cases decide (dval 0 dg*10 ^ k=E16)<;>cases g<;>rfl
 have body:(ob (some (sea m)) λr=>cond (r != 24) (cond (r != 28) (cond (r != 30) (some (1:Int)) (ob (some (if hasX dg then(1:Int)else 0)) λr=>cond (r==1) (some (1:Int)) (ob (aq n dg x) λv=>cond (v.1==10000000000000000) (cond (!g) (some 0) (some 1)) (some 1)))) (ob (some (if hasX dg then(1:Int)else 0)) λr=>cond (r==1) (some (1:Int)) (ob (aq n dg x) λv=>cond (v.1==10000000000000000) (cond (!g) (some 0) (some 1)) (some 1)))) (ob (some (if hasX dg then(1:Int)else 0)) λr=>cond (r==1) (some (1:Int)) (ob (aq n dg x) λv=>cond (v.1==10000000000000000) (cond (!g) (some 0) (some 1)) (some 1))))=some (if(!(wint (sea m)&&tH g dg x))=true then 1 else 0):=by
  rw[T];show cond (sea m != 24) _ _=_;unfold wint;simp only[bne];cases(sea m==24)<;>cases(sea m==28)<;>cases(sea m==30)<;>cases tH g dg x<;>rfl
 unfold yrB;show cond (decide (q>0)) (cond (!(m==[])) (some 0) _) _=_;rw[show(decide (q>0))=decide (0<q)from rfl];simp only[h,lL];cases decide (0<q)with
 | false=>exact body
 | true=>
  cases(m==[])with
  | false=>rfl
  | true=>exact body
def bp(m d:aa):Nat:=1+(if m==[]then 0 else 1)+(if d==[]then 0 else 1)
def sW(n:Nat)(e:100<n)(g l:Bool)(dg:aa)(x q:Int)(m d:aa)(k0 k1 k2:Int):bz n g l dg x q m d k0 k1 k2=some ((bp m d:Nat):Int):=by
 obtain⟨n,rfl⟩:∃j,n=j+3:=⟨n - 3,by omega⟩;unfold bz bp;have s0:∀a:Int,cL (n+3) (a,m,d,0)=some (.inl (if m==[]then a else wrap .i64 (a+1),m,d,1)):=λa=>by
  unfold cL;show cond (!(m==[])) _ _=_;cases(m==[])<;>rfl
 have b:∀a:Int,cL (n+3) (a,m,d,1)=some (.inl (if d==[]then a else wrap .i64 (a+1),m,d,2)):=λa=>by
  unfold cL;show cond (!(d==[])) _ _=_;cases(d==[])<;>rfl
 have c:∀a:Int,cL (n+3) (a,m,d,2)=some (.inr a):=λa=>rfl;rw[av,s0];show ob (av _ (n+2) _) _=_;rw[av,b];show ob (av _ (n+1) _) _=_;rw[av,c];cases(m==[])<;>cases(d==[])<;>rfl
def dO(n:Nat)(g l:Bool)(dg:aa)(x q:Int)(m d:aa)(k0 k1 k2:Int):am n g l dg x q m d k0 k1 k2=some ((bp m d:Nat):Int):=by
 unfold am bp;cases(m==[])<;>cases(d==[])<;>rfl
def allM(a b c:Int)(k:Nat):Int:=if 3<a\/3<b\/3<c\/(k<2/\b≠0)\/(k<3/\c≠0)then 9 else 0
def IT(n:Nat)(w:3<n)(a b c:Int)(k:Nat)(t:1<=k/\k<=3)(u:0<=a)(v:0<=b)(hc:0<=c):
  cE n [a,b,c] (k:Int)=some (allM a b c k):=by
 obtain⟨j,rfl⟩:∃j,n=j+4:=⟨n - 4,by omega⟩;have h:wrap .i64 1=1:=rfl;have m:wrap .i64 2=2:=rfl;have e:wrap .i64 3=3:=rfl;have f:ix 3 0=some 0:=rfl;have l:ix 3 1=some 1:=rfl;have g:ix 3 2=some 2:=rfl;have hk':k=1\/k=2\/k=3:=by omega
 unfold allM;by_cases i:a>3
 ·rcases hk' with rfl | rfl | rfl<;>simp[cE,av,dF,dY,ob,h,m,e,f,l,g,i]
 by_cases p:b>3
 ·rcases hk' with rfl | rfl | rfl<;>simp[cE,av,dF,dY,ob,h,m,e,f,l,g,i,p]
 by_cases d:k=1/\b≠0
 ·obtain⟨rfl,d⟩:=d;have r:b>0:=by omega
  have q:(b != 0)=true:=by simp[d]
  simp[cE,av,dF,dY,ob,h,m,e,f,l,g,i,p,r,d,q]
 by_cases s:c>3
 ·rcases hk' with rfl | rfl | rfl<;>(try (simp at d;subst d))<;>simp[cE,av,dF,dY,ob,h,m,e,f,l,g,i,p,s]
 by_cases o:k<3/\c≠0
 ·have r:c>0:=by omega
  have q:(c != 0)=true:=by simp[o.2]
  rcases hk' with rfl | rfl | rfl<;>(try (simp at d;subst d))<;>simp at o<;>simp[cE,av,dF,dY,ob,h,m,e,f,l,g,i,p,s,r,o,q]
 rcases hk' with rfl | rfl | rfl<;>(try (simp at d;subst d))<;>(try (simp at o;subst o))<;>simp[cE,av,dF,dY,ob,h,m,e,f,l,g,i,p,s]
def YU(n:Nat)(w:3<n)(a b c:Int)(k:Nat)(t:1<=k/\k<=3)(u:0<=a)(v:0<=b)(hc:0<=c):
  cE n [a,b,c] (k:Int)=some (allM a b c k)/\ct n [a,b,c] (k:Int)=some (allM a b c k):=by
 obtain⟨j,rfl⟩:∃j,n=j+4:=⟨n - 4,by omega⟩;have h:wrap .i64 1=1:=rfl;have m:wrap .i64 2=2:=rfl;have e:wrap .i64 3=3:=rfl;have f:ix 3 0=some 0:=rfl;have l:ix 3 1=some 1:=rfl;have g:ix 3 2=some 2:=rfl;have hk':k=1\/k=2\/k=3:=by omega
 unfold allM;by_cases i:a>3
 ·rcases hk' with rfl | rfl | rfl<;>constructor<;>simp[ct,cE,av,ei,dF,dY,ob,h,m,e,f,l,g,i]
 by_cases p:b>3
 ·rcases hk' with rfl | rfl | rfl<;>constructor<;>simp[ct,cE,av,ei,dF,dY,ob,h,m,e,f,l,g,i,p]
 by_cases d:k=1/\b≠0
 ·obtain⟨rfl,d⟩:=d;have r:b>0:=by omega
  have q:(b != 0)=true:=by simp[d]
  constructor<;>simp[ct,cE,av,ei,dF,dY,ob,h,m,e,f,l,g,i,p,r,d,q]
 by_cases s:c>3
 ·rcases hk' with rfl | rfl | rfl<;>(try (simp at d;subst d))<;>constructor<;>simp[ct,cE,av,ei,dF,dY,ob,h,m,e,f,l,g,i,p,s]
 by_cases o:k<3/\c≠0
 ·have r:c>0:=by omega
  have q:(c != 0)=true:=by simp[o.2]
  rcases hk' with rfl | rfl | rfl<;>(try (simp at d;subst d))<;>simp at o<;>constructor<;>simp[ct,cE,av,ei,dF,dY,ob,h,m,e,f,l,g,i,p,s,r,o,q]
 rcases hk' with rfl | rfl | rfl<;>(try (simp at d;subst d))<;>(try (simp at o;subst o))<;>constructor<;>simp[ct,cE,av,ei,dF,dY,ob,h,m,e,f,l,g,i,p,s]
def hZ(m d:aa):1<=bp m d/\bp m d<=3:=by
 unfold bp;cases(m==[])<;>cases(d==[])<;>simp
def yrD(g l:Bool)(dg:aa)(x q:Int)(m:aa):Bool:=if okY g l dg x q then yrB g dg x q m else false
def chkD(g l:Bool)(dg:aa)(x q:Int)(m d:aa)(k0 k1 k2:Int):Int:=
 cond (!(yrD g l dg x q m)) 6 (cond (!(m==[])&&(!(decide (0<sea m))&&!(eW m 12))) 7
  (cond (!(d==[])&&((m==[])||(decide (0<sea m)||!(eW d 31)))) 8 (allM k0 k1 k2 (bp m d))))
def Vr(m:aa):0<=sea m:=by
 rcases qs m with h | ⟨j,a,rfl⟩
 ·omega
 ·rw[lT a];omega
def XL(m:aa):(sea m==0)=!(decide (0<sea m)):=by
 have:=Vr m;by_cases h:sea m=0
 ·rw[h];rfl
 ·have a:0<sea m:=by omega
  rw[aL.2 h,ar a];rfl
def Eh(n:Nat)(f:200<n)(g l:Bool)(dg:aa)(x q:Int)(m d:aa)(k0 k1 k2:Int)(a:m.length<=18)(p:dg.length<=100)(e:0<=k0)(j:0<=k1)(o:0<=k2):
  kn n g l dg x q m d k0 k1 k2=some (chkD g l dg x q m d k0 k1 k2):=by
 have hy:gP n g l dg x q m d k0 k1 k2=some (yrD g l dg x q m):=FB n f g l dg x q m d k0 k1 k2 a p;have a1:dS n m 12=some (eW m 12):=Gs n (by omega) m 12 (by omega);have a2:dS n d 31=some (eW d 31):=Gs n (by omega) d 31 (by omega);have b:=IT n (by omega) k0 k1 k2 (bp m d) (hZ m d) e j o;unfold kn chkD;rw[rH n g l dg x q m d k0 k1 k2 a,hy,a1,a2,sW n (by omega)];simp only[ob];rw[b];generalize yrD g l dg x q m=b1;generalize(m==[])=b2;generalize decide (0<sea m)=k;generalize eW m 12=c;generalize(d==[])=h;generalize eW d 31=i;cases b1<;>cases b2<;>cases k<;>cases c<;>cases h<;>cases i<;>rfl
def Jb(n:Nat)(e:200<n)(g l:Bool)(dg:aa)(x q:Int)(m d:aa)(k0 k1 k2:Int)(p:dg.length<=100)(c:0<=k0)(j:0<=k1)(o:0<=k2):
  lJ n g l dg x q m d k0 k1 k2=some (chkD g l dg x q m d k0 k1 k2):=by
 have hy:kq n g l dg x q m d k0 k1 k2=some (if yrD g l dg x q m then 1 else 0):=by
  rw[Ti n e g l dg x q m d k0 k1 k2 p];unfold yrD;by_cases h:okY g l dg x q
  ·simp only[h,lL,aS]
  ·simp only[h,AB,aF];rfl
 have a1:ew n m 12=some (if eW m 12 then 1 else 0):=KG n (by omega) m 12 (by omega);have a2:ew n d 31=some (if eW d 31 then 1 else 0):=KG n (by omega) d 31 (by omega);have a:=(YU n (by omega) k0 k1 k2 (bp m d) (hZ m d) c j o).2;unfold lJ chkD;rw[nl n (by omega) g l dg x q m d k0 k1 k2,hy,a1,a2,dO n];simp only[ob];rw[a,XL];show cond ((if yrD g l dg x q m then(1:Int)else 0)==0) _ (cond _ (cond _ (cond _ _ (cond _ (cond _ _ (cond (decide (0<sea m)) _ _)) _)) (cond _ (cond _ _ (cond (decide (0<sea m)) _ _)) _)) (cond _ (cond _ _ (cond (decide (0<sea m)) _ _)) _))=_;generalize yrD g l dg x q m=b1;generalize(m==[])=b2;generalize decide (0<sea m)=k;generalize eW m 12=b;generalize(d==[])=f;generalize eW d 31=i;cases b1<;>cases b2<;>cases k<;>cases b<;>cases f<;>cases i<;>rfl
def Hl{g l:Bool}{dg:aa}{x q:Int}{m d:aa}{k0 k1 k2:Int}(h:chkD g l dg x q m d k0 k1 k2=0):yrD g l dg x q m=true/\(m=[]\/0<sea m\/eW m 12=true)/\(d=[]\/(m≠[]/\sea m=0/\eW d 31=true))/\allM k0 k1 k2 (bp m d)=0:=by
 have hs:=Vr m;unfold chkD at h;cases b1:yrD g l dg x q m with
 | false=>rw[b1]at h;exact absurd h (by simp)
 | true=>
  rw[b1]at h;simp only[dU,af]at h;cases b2:(!(m==[])&&(!(decide (0<sea m))&&!(eW m 12)))with
  | true=>rw[b2]at h;exact absurd h (by simp)
  | false=>
   rw[b2]at h;simp only[af]at h;cases c:(!(d==[])&&((m==[])||(decide (0<sea m)||!(eW d 31))))with
   | true=>rw[c]at h;exact absurd h (by simp)
   | false=>
    rw[c]at h;simp only[af]at h;refine⟨rfl,?_,?_,h⟩
    ·by_cases a:m=[]
     ·exact .inl a
     ·by_cases b:0<sea m
      ·exact .inr (.inl b)
      ·simp[a,b]at b2;exact .inr (.inr b2)
    ·by_cases a:d=[]
     ·exact .inl a
     ·by_cases b:m=[]
      ·simp[a,b]at c
      ·by_cases e:0<sea m
       ·simp[a,b,e]at c
       ·simp[a,b,e]at c;exact .inr ⟨b,by omega,c⟩
def pK{s:aa}{g:Nat}(m:g<=31)(h:eW s g=true):s.length=2/\∀c∈s,isDX c=true:=by
 unfold eW at h;obtain⟨i,l,hi⟩:=vk.1 h;have e:i<g:=il.1 l;have dig:∀k:Nat,k<10->isDX (UInt8.ofNat (48+k))=true:=by decide
 have d:isDX 88=true:=by decide
 match s,hi with
 | [],hi=>simp[agr]at hi
 | [_],hi=>simp[agr]at hi
 | [a,b],hi=>
  refine⟨rfl,?_⟩;simp only[agr,aD,jk,bA]at hi;obtain⟨f,j⟩:=hi;intro c hc;simp only[ck,nB,ov]at hc;rcases hc with rfl | rfl
  ·rcases f with rfl | rfl
   ·exact d
   ·exact dig _ (by omega)
  ·rcases j with rfl | rfl
   ·exact d
   ·exact dig _ (by omega)
 | _::_::_::_,hi=>simp[agr]at hi
def IU{m:aa}(h:0<sea m):m.length=2/\∀c∈m,isDX c=true:=by
 rcases qs m with b | ⟨j,a,rfl⟩
 ·omega
 ·refine⟨rfl,?_⟩;have:((List.range 21).all λj=>(two (21+j)).all isDX)=true:=by decide +kernel
  have:=(cb.1 this) j (by simpa using a);exact cb.1 this
def mt(k:Nat):aa:=if k=1 then[63]else if k=2 then[126]else if k=3 then[37]else[]
def mkOf(c:UInt8):Nat:=if c=63 then 1 else if c=126 then 2 else if c=37 then 3 else 0
def EF(k a b c:Nat):Bool:=(decide (k<2)||b==a)&&(decide (k<3)||c==a)
def plA(k a b c:Nat):Nat×Nat×Nat:=if EF k a b c then(0,0,0)else(a,b,c)
def plB(k a b c:Nat):Nat×Nat×Nat:=if EF k a b c then(if k=1 then(a,0,0)else if k=2 then(0,a,0)else(0,0,a))else(0,0,0)
def l3(p:Nat×Nat×Nat):List Int:=[(p.1:Int),(p.2.1:Int),(p.2.2:Int)]
def spM(A B:Nat×Nat×Nat):Nat×Nat×Nat:=(A.1 ||| B.1 ||| B.2.1 ||| B.2.2,A.2.1 ||| B.2.1 ||| B.2.2,A.2.2 ||| B.2.2)
def Ve(n k:Nat)(h:k<4):rn n (k:Int)=some (mt k,0):=by
 have:k=0\/k=1\/k=2\/k=3:=by omega
 rcases this with rfl | rfl | rfl | rfl<;>exact rfl
def MW(n k:Nat)(h:k<4):rn n (k:Int)=some (mt k,0)/\dp n (k:Int)=some (mt k):=by
 have:k=0\/k=1\/k=2\/k=3:=by omega
 rcases this with rfl | rfl | rfl | rfl<;>exact⟨rfl,rfl⟩
noncomputable def VZ(m j:Nat):Bool:=
 oZ (m+300) (j:Int)==some (((mkOf (UInt8.ofNat j):Nat):Int),decide (0<mkOf (UInt8.ofNat j)))
def Q2(m:Nat):(List.range 256).all (VZ m)=true:=by kernel_rfl
def UN(m:Nat)(c:UInt8):oZ (m+300) (c.toNat:Int)=some (((mkOf c:Nat):Int),decide (0<mkOf c)):=by
 have h:=(cb.1 (Q2 m)) c.toNat (il.2 c.toNat_lt);unfold VZ at h;rw[show UInt8.ofNat c.toNat=c by simp]at h;simp only[bA]at h;exact h
noncomputable def Zw(m j:Nat):Bool:=
 (oZ (m+300) (j:Int)==some (((mkOf (UInt8.ofNat j):Nat):Int),decide (0<mkOf (UInt8.ofNat j))))&&(eD (m+300) (j:Int)==some ((mkOf (UInt8.ofNat j):Nat):Int))
def Tn(m:Nat):(List.range 256).all (Zw m)=true:=by kernel_rfl
def Q4(m:Nat)(c:UInt8):oZ (m+300) (c.toNat:Int)=some (((mkOf c:Nat):Int),decide (0<mkOf c))/\eD (m+300) (c.toNat:Int)=some ((mkOf c:Nat):Int):=by
 have h:=(cb.1 (Tn m)) c.toNat (il.2 c.toNat_lt);unfold Zw at h;rw[show UInt8.ofNat c.toNat=c by simp]at h;simp only[aD,bA]at h;exact h
noncomputable def Rh(m k a b c:Nat):Bool:=
 (m6 (m+300) [(a:Int),(b:Int),(c:Int)] (k:Int)==some (l3 (plA k a b c),l3 (plB k a b c),0))&&(jO (m+300) [(a:Int),(b:Int),(c:Int)] (k:Int)==some (l3 (plA k a b c),l3 (plB k a b c)))
def YC(m:Nat):((List.range 4).all λa=>Rh m 1 a 0 0)=true:=by kernel_rfl
def aaq(m:Nat):((List.range 4).all λa=>(List.range 4).all λb=>Rh m 2 a b 0)=true:=by kernel_rfl
def abt(m:Nat):((List.range 4).all λa=>(List.range 4).all λb=>(List.range 4).all λc=>Rh m 3 a b c)=true:=by kernel_rfl
def r4{p:Nat->Bool}(h:(List.range 4).all p=true){a:Nat}(b:a<4):p a=true:=(cb.1 h) a (il.2 b)
noncomputable def GE(m k a b c:Nat):Bool:=
 m6 (m+300) [(a:Int),(b:Int),(c:Int)] (k:Int)==some (l3 (plA k a b c),l3 (plB k a b c),0)
def XU(m:Nat):((List.range 4).all λa=>GE m 1 a 0 0)=true:=by kernel_rfl
def V6(m:Nat):((List.range 4).all λa=>(List.range 4).all λb=>GE m 2 a b 0)=true:=by kernel_rfl
def XE(m:Nat):((List.range 4).all λa=>(List.range 4).all λb=>(List.range 4).all λc=>GE m 3 a b c)=true:=by kernel_rfl
def ZJ(m k a b c:Nat)(i:1<=k/\k<=3)(d:a<4)(e:b<4)(hc:c<4)(g:k<2->b=0)(f:k<3->c=0):
  m6 (m+300) [(a:Int),(b:Int),(c:Int)] (k:Int)=some (l3 (plA k a b c),l3 (plB k a b c),0):=by
 have h:GE m k a b c=true:=by
  have:k=1\/k=2\/k=3:=by omega
  rcases this with rfl | rfl | rfl
  ·rw[g (by omega),f (by omega)];exact r4 (XU m) d
  ·rw[f (by omega)];exact r4 (r4 (V6 m) d) e
  ·exact r4 (r4 (r4 (XE m) d) e) hc
 unfold GE at h;simp only[bA]at h;exact h
def YW(m k a b c:Nat)(i:1<=k/\k<=3)(d:a<4)(e:b<4)(hc:c<4)(g:k<2->b=0)(f:k<3->c=0):
  m6 (m+300) [(a:Int),(b:Int),(c:Int)] (k:Int)=some (l3 (plA k a b c),l3 (plB k a b c),0)/\jO (m+300) [(a:Int),(b:Int),(c:Int)] (k:Int)=some (l3 (plA k a b c),l3 (plB k a b c)):=by
 have h:Rh m k a b c=true:=by
  have:k=1\/k=2\/k=3:=by omega
  rcases this with rfl | rfl | rfl
  ·rw[g (by omega),f (by omega)];exact r4 (YC m) d
  ·rw[f (by omega)];exact r4 (r4 (aaq m) d) e
  ·exact r4 (r4 (r4 (abt m) d) e) hc
 unfold Rh at h;simp only[aD,bA]at h;exact h
def Yr{k a b c:Nat}(d:a<4)(e:b<4)(hc:c<4):(plA k a b c).1<4/\(plA k a b c).2.1<4/\(plA k a b c).2.2<4/\(plB k a b c).1<4/\(plB k a b c).2.1<4/\(plB k a b c).2.2<4:=by
 unfold plA plB;split
 ·split
  ·simp[d]
  ·split<;>simp[d]
 ·simp[d,e,hc]
def inM(k:Nat)(A:Nat×Nat×Nat):Prop:=A.1<4/\A.2.1<4/\A.2.2<4/\(k<2->A.2.1=0)/\(k<3->A.2.2=0)
def Ao{k:Nat}{A:Nat×Nat×Nat}(h:inM k A):allM (A.1:Int) (A.2.1:Int) (A.2.2:Int) k=0:=by
 obtain⟨c,d,e,b,a⟩:=h;unfold allM;rw[ad]
def or4{a b:Nat}(c:a<4)(d:b<4):bits .or .u8 (a:Int) (b:Int)=((a ||| b:Nat):Int)/\a ||| b<4:=by
 have:((List.range 4).all λa=>(List.range 4).all λb=>bits .or .u8 (a:Int) (b:Int)==((a ||| b:Nat):Int)&&decide (a ||| b<4))=true:=by decide +kernel
 have:=r4 (r4 this c) d;simpa using this
def AW(n:Nat)(w:9<n)(k:Nat)(A B:Nat×Nat×Nat)(t:1<=k/\k<=3)(s:inM k A)(l:inM k B):ft n (l3 A) (l3 B) (k:Int)=some (l3 (spM A B),0):=by
 obtain⟨n,rfl⟩:∃j,n=j+5:=⟨n - 5,by omega⟩;have r:=IT (n+5) (by omega) (A.1:Int) (A.2.1:Int) (A.2.2:Int) k t (by omega) (by omega) (by omega);have q:=IT (n+5) (by omega) (B.1:Int) (B.2.1:Int) (B.2.2:Int) k t (by omega) (by omega) (by omega);rw[Ao s]at r;rw[Ao l]at q;have i:∀x:Nat,x<4->bits .or .u8 0 (x:Int)=(x:Int):=λx hx=>by
  have:=(or4 (show 0<4 by omega) hx).1;simpa using this
 have a:∀x y:Nat,x<4->y<4->bits .or .u8 (x:Int) (y:Int)=((x ||| y:Nat):Int):=λx y hx hy=>(or4 hx hy).1;have e:∀x y:Nat,x<4->y<4->x ||| y<4:=λx y hx hy=>(or4 hx hy).2;unfold ft;show ob (cE (n+5) [(A.1:Int),(A.2.1:Int),(A.2.2:Int)] (k:Int)) _=_;rw[r];show ob (cE (n+5) [(B.1:Int),(B.2.1:Int),(B.2.2:Int)] (k:Int)) _=_;rw[q];obtain⟨a0,a1,a2⟩:=A;obtain⟨b0,b1,b2⟩:=B;obtain⟨g0,g,o,p,f⟩:=s;obtain⟨d,b,c,m,h⟩:=l;simp only at g0 g o p f d b c m h;have hk':k=1\/k=2\/k=3:=by omega
 rcases hk' with rfl | rfl | rfl
 ·obtain rfl:=p (by omega);obtain rfl:=f (by omega);obtain rfl:=m (by omega);obtain rfl:=h (by omega);show some (([bits .or .u8 (a0:Int) (bits .or .u8 0 (b0:Int)),0,0]:List Int),(0:Int))=_;rw[i b0 d,a _ _ g0 d];simp[l3,spM]
 ·obtain rfl:=f (by omega);obtain rfl:=h (by omega);show some (([bits .or .u8 (a0:Int) (bits .or .u8 (bits .or .u8 0 (b1:Int)) (b0:Int)),bits .or .u8 (a1:Int) (bits .or .u8 0 (b1:Int)),0]:List Int),(0:Int))=_;rw[i b1 b,a _ _ b d,a _ _ g0 (e _ _ b d),a _ _ g b];simp[l3,spM,Ab,EQ b1 b0]
 ·show some (([bits .or .u8 (a0:Int) (bits .or .u8 (bits .or .u8 (bits .or .u8 0 (b2:Int)) (b1:Int)) (b0:Int)),bits .or .u8 (a1:Int) (bits .or .u8 (bits .or .u8 0 (b2:Int)) (b1:Int)),bits .or .u8 (a2:Int) (bits .or .u8 0 (b2:Int))]:List Int),(0:Int))=_;rw[i b2 c,a _ _ c b,a _ _ (e _ _ c b) d,a _ _ g0 (e _ _ (e _ _ c b) d),a _ _ g (e _ _ c b),a _ _ o c];have v:a0 ||| (b2 ||| b1 ||| b0)=a0 ||| b0 ||| b1 ||| b2:=by rw[EQ (b2 ||| b1) b0,EQ b2 b1];simp only[Ab]
  have u:a1 ||| (b2 ||| b1)=a1 ||| b1 ||| b2:=by rw[EQ b2 b1];simp only[Ab]
  rw[v,u];rfl
abbrev cI(x:Nat):Int:=(x:Int)
def bt(b a:Nat):Nat:=if b=1 then a%2 else a / 2%2
def U5(n:Nat){a b:Nat}(d:a<4)(c:b=1\/b=2):jY n (a:Int) (b:Int)=some ((bt b a:Nat):Int):=by
 have h:a=0\/a=1\/a=2\/a=3:=by omega
 rcases h with rfl | rfl | rfl | rfl<;>rcases c with rfl | rfl<;>rfl
def V9(b a:Nat):bt b a<=1:=by unfold bt;split<;>omega
def bts(b:Nat):List Nat->Nat
 | []=>0
 | x::l=>bt b x+bts b l
def adl(n k b i:Nat)(l:b=1\/b=2)(q:k<=3)(A X Y:List Int)(a:List Nat)(t:a.length=3)(h:∀x∈a,x<4):∀(r j acc:Nat),j+r=k->acc<=j+1->∀N,r<N->
  av (cT n) N ((k:Int),(b:Int),(i:Int),(acc:Int),(j:Int),A,a.map cI,X,Y)=some ((k:Int),(b:Int),(i:Int),((acc+bts b ((a.take k).drop j):Nat):Int),A,a.map cI,X,Y):=by
 intro r
 induction r with
 | zero=>
  intro j acc o c N m;obtain⟨N,rfl⟩:∃k,N=k+1:=⟨N - 1,by omega⟩;have s:cT n ((k:Int),(b:Int),(i:Int),(acc:Int),(j:Int),A,a.map cI,X,Y)=some (.inr ((k:Int),(b:Int),(i:Int),(acc:Int),A,a.map cI,X,Y)):=by
   unfold cT;rw[bN,ab (show¬((j:Int)<(k:Int))by omega)]
  have e:(a.take k).drop j=[]:=kW (by rw[dN];omega);rw[av,s,e];rfl
 | succ r ih=>
  intro j acc o c N m;obtain⟨N,rfl⟩:∃k,N=k+1:=⟨N - 1,by omega⟩;have d:j<a.length:=by omega
  obtain⟨x,hx⟩:∃x,a[j]?=some x:=⟨a[j],ba d⟩;have f:(a.map cI)[j]?=some (x:Int):=by rw[nV,hx];rfl
  have g:=h x (fR hx);have w:wrap .i64 ((acc:Int)+((bt b x:Nat):Int))=((acc+bt b x:Nat):Int):=by have:=V9 b x;rw[wd];omega
  have p:wrap .i64 ((j:Int)+1)=((j+1:Nat):Int):=by rw[wd];omega
  have s:cT n ((k:Int),(b:Int),(i:Int),(acc:Int),(j:Int),A,a.map cI,X,Y)=some (.inl ((k:Int),(b:Int),(i:Int),((acc+bt b x:Nat):Int),((j+1:Nat):Int),A,a.map cI,X,Y)):=by
   unfold cT;rw[bN,ae (show(j:Int)<(k:Int)by omega)];show ob (ix 3 (j:Int)) _=_;rw[dh (show j<3 by omega)];show ob ((a.map cI)[j]?) _=_;rw[f];show ob (jY n (x:Int) (b:Int)) _=_;rw[U5 n g l];show some (Sum.inl ((k:Int),(b:Int),(i:Int),wrap .i64 ((acc:Int)+((bt b x:Nat):Int)),wrap .i64 ((j:Int)+1),_))=_;rw[w,p]
  have e:(a.take k).drop j=x::(a.take k).drop (j+1):=da (by rw[m7 (by omega)];exact hx);rw[av,s];have:=V9 b x;show av _ N _=_;rw[ih (j+1) (acc+bt b x) (by omega) (by omega) N (by omega),e];simp only[bts,iy]
def hit(k b i:Nat)(a c:List Nat):Bool:=decide (0<bt b (a.getD i 0)+bts b ((c.take k).drop i))
def aco(n k b i:Nat)(w:9<n)(h:b=1\/b=2)(l:k<=3)(hi:i<k)(X:List Int)(a c:List Nat)(v:a.length=3)(r:c.length=3)(t:∀x∈a,x<4)(q:∀x∈c,x<4)(out:List Int)(o:Int)(m:out[i]?=some o):
  bR n ((k:Int),(b:Int),(i:Int),a.map cI,c.map cI,X,out)=some (.inl ((k:Int),(b:Int),((i+1:Nat):Int),a.map cI,c.map cI,X,cond (hit k b i a c) (out.set i (wrap .u8 (o+(b:Int)))) out)):=by
 obtain⟨x,hx⟩:∃x,a[i]?=some x:=⟨a[i],ba (by omega)⟩;have d:(a.map cI)[i]?=some (x:Int):=by rw[nV,hx];rfl
 have g:=t x (fR hx);have s:=V9 b x;have u:wrap .i64 ((i:Int)+1)=((i+1:Nat):Int):=by rw[wd];omega
 have f:=adl n k b i h l (a.map cI) X out c r q (k - i) i (bt b x) (by omega) (by omega) n (by omega);unfold bR;rw[bN,ae (show(i:Int)<(k:Int)by omega)];show ob (ix 3 (i:Int)) _=_;rw[dh (show i<3 by omega)];show ob ((a.map cI)[i]?) _=_;rw[d];show ob (jY n (x:Int) (b:Int)) _=_;rw[U5 n g h];show ob (av (cT n) n ((k:Int),(b:Int),(i:Int),((bt b x:Nat):Int),(i:Int),a.map cI,c.map cI,X,out)) _=_;rw[f];have p:hit k b i a c=decide (((bt b x+bts b ((c.take k).drop i):Nat):Int)>0):=by
  unfold hit;rw[G5,hx];rw[jr];simp only[AV];omega
 rw[p];show cond (decide (((bt b x+bts b ((c.take k).drop i):Nat):Int)>0)) (ob (ix 3 (i:Int)) λj=>ob (out[j]?) λy=>ob (ix 3 (i:Int)) λj2=>cond (Nat.blt j2 3) (some (Sum.inl ((k:Int),(b:Int),wrap .i64 ((i:Int)+1),a.map cI,c.map cI,X,out.set j2 (wrap .u8 (y+(b:Int)))))) none) (some (Sum.inl ((k:Int),(b:Int),wrap .i64 ((i:Int)+1),a.map cI,c.map cI,X,out)))=_;rw[dh (show i<3 by omega),u];have e:Nat.blt i 3=true:=dc (by omega);simp only[ob,m,e,ah];cases decide (((bt b x+bts b ((c.take k).drop i):Nat):Int)>0)<;>rfl
def addB(k b:Nat)(a c:List Nat)(o:List Int):List Int:=[cond (decide (0<k)&&hit k b 0 a c) (wrap .u8 (o.getD 0 0+(b:Int))) (o.getD 0 0),cond (decide (1<k)&&hit k b 1 a c) (wrap .u8 (o.getD 1 0+(b:Int))) (o.getD 1 0),cond (decide (2<k)&&hit k b 2 a c) (wrap .u8 (o.getD 2 0+(b:Int))) (o.getD 2 0)]
def TC(n k b:Nat)(q:9<n)(p:b=1\/b=2)(s:1<=k/\k<=3)(X:List Int)(c a:List Nat)(h:c.length=3)(m:a.length=3)(r:∀x∈c,x<4)(l:∀x∈a,x<4)(f o1 g:Int):
  av (bR n) n ((k:Int),(b:Int),0,c.map cI,a.map cI,X,[f,o1,g])=some ((k:Int),(b:Int),c.map cI,a.map cI,X,addB k b c a [f,o1,g]):=by
 obtain⟨n,rfl⟩:∃j,n=j+5:=⟨n - 5,by omega⟩;have fin:∀(N:Nat) (out:List Int),av (bR (n+5)) (N+1) ((k:Int),(b:Int),(k:Int),c.map cI,a.map cI,X,out)=some ((k:Int),(b:Int),c.map cI,a.map cI,X,out):=λN out=>by
  rw[av];have:bR (n+5) ((k:Int),(b:Int),(k:Int),c.map cI,a.map cI,X,out)=some (.inr ((k:Int),(b:Int),c.map cI,a.map cI,X,out)):=by
   unfold bR;rw[bN,ab (show¬((k:Int)<(k:Int))by omega)]
  rw[this]
 have e:=λ(i:Nat) (hi:i<k) (out:List Int) (o:Int) (ho:out[i]?=some o)=>aco (n+5) k b i q p s.2 hi X c a h m r l out o ho;have hk':k=1\/k=2\/k=3:=by omega
 have d:=e 0 (by omega) [f,o1,g] f rfl;rcases hk' with rfl | rfl | rfl
 ·rw[av];rw[show((0:Nat):Int)=0 from rfl]at d;rw[d];show av _ (n+3+1) (((1:Nat):Int),(b:Int),((1:Nat):Int),_)=_;rw[fin];unfold addB;cases hit 1 b 0 c a<;>rfl
 ·rw[av];rw[show((0:Nat):Int)=0 from rfl]at d;rw[d];show av _ (n+4) (((2:Nat):Int),(b:Int),((1:Nat):Int),_)=_;rw[av,e 1 (by omega) _ o1 (by cases hit 2 b 0 c a<;>rfl)];show av _ (n+2+1) (((2:Nat):Int),(b:Int),((2:Nat):Int),_)=_;rw[fin];unfold addB;cases hit 2 b 0 c a<;>cases hit 2 b 1 c a<;>rfl
 ·rw[av];rw[show((0:Nat):Int)=0 from rfl]at d;rw[d];show av _ (n+4) (((3:Nat):Int),(b:Int),((1:Nat):Int),_)=_;rw[av,e 1 (by omega) _ o1 (by cases hit 3 b 0 c a<;>rfl)];show av _ (n+3) (((3:Nat):Int),(b:Int),((2:Nat):Int),_)=_;rw[av,e 2 (by omega) _ g (by cases hit 3 b 0 c a<;>cases hit 3 b 1 c a<;>rfl)];show av _ (n+1+1) (((3:Nat):Int),(b:Int),((3:Nat):Int),_)=_;rw[fin];unfold addB;cases hit 3 b 0 c a<;>cases hit 3 b 1 c a<;>cases hit 3 b 2 c a<;>rfl
def lN(p:Nat×Nat×Nat):List Nat:=[p.1,p.2.1,p.2.2]
def ue{x y:Nat}(hx:x<4)(hy:y<4)(b:Nat)(d:b=1\/b=2):decide (0<bt b (x ||| y))=decide (0<bt b x+bt b y):=by
 have:((List.range 4).all λa=>(List.range 4).all λc=>(decide (0<bt 1 (a ||| c))==decide (0<bt 1 a+bt 1 c))&&(decide (0<bt 2 (a ||| c))==decide (0<bt 2 a+bt 2 c)))=true:=by decide +kernel
 have:=r4 (r4 this hx) hy;simp only[aD,bA]at this;rcases d with rfl | rfl
 ·exact this.1
 ·exact this.2
def uK{x:Nat}(hx:x<4):cond (decide (0<bt 2 x)) (wrap .u8 (cond (decide (0<bt 1 x)) (wrap .u8 (0+((1:Nat):Int))) 0+((2:Nat):Int))) (cond (decide (0<bt 1 x)) (wrap .u8 (0+((1:Nat):Int))) 0)=(x:Int):=by
 have h:x=0\/x=1\/x=2\/x=3:=by omega
 rcases h with rfl | rfl | rfl | rfl<;>decide
def xm(n:Nat)(G:9<n)(k:Nat)(A B:Nat×Nat×Nat)(O:1<=k/\k<=3)(N:inM k A)(D:inM k B):eX n (l3 A) (l3 B) (k:Int)=some (l3 (spM A B)):=by
 obtain⟨a0,a1,a2⟩:=A;obtain⟨b0,b1,b2⟩:=B;obtain⟨g0,m,t,C,s⟩:=N;obtain⟨f,d,l,w,u⟩:=D;simp only at g0 m t C s f d l w u;have c:∀x y:Nat,x<4->y<4->x ||| y<4:=λx y hx hy=>(or4 hx hy).2;have K:∀x∈lN (a0,a1,a2),x<4:=by
  intro x hx;simp only[lN,ck,nB,ov]at hx;rcases hx with rfl | rfl | rfl<;>assumption
 have E:∀x∈lN (b0,b1,b2),x<4:=by
  intro x hx;simp only[lN,ck,nB,ov]at hx;rcases hx with rfl | rfl | rfl<;>assumption
 have run:=λ(b:Nat) (a:b=1\/b=2) (o0 o1 o2:Int)=>TC n k b G a O [0,0,0] (lN (a0,a1,a2)) (lN (b0,b1,b2)) rfl rfl K E o0 o1 o2;have z:=run 1 (.inl rfl) 0 0 0;obtain⟨i,h,g,hp⟩:∃i h g,addB k 1 (lN (a0,a1,a2)) (lN (b0,b1,b2)) [0,0,0]=[i,h,g]:=⟨_,_,_,rfl⟩;have J:=run 2 (.inr rfl) i h g;rw[hp]at z;obtain⟨n,rfl⟩:∃j,n=j+5:=⟨n - 5,by omega⟩;have F:dB (n+5) ((k:Int),1,l3 (a0,a1,a2),l3 (b0,b1,b2),[0,0,0],[0,0,0])=some (.inl ((k:Int),2,l3 (a0,a1,a2),l3 (b0,b1,b2),[0,0,0],[i,h,g])):=by
  unfold dB;show cond (decide ((1:Int)<=2)) (ob (av (bR (n+5)) (n+5) ((k:Int),((1:Nat):Int),0,(lN (a0,a1,a2)).map cI,(lN (b0,b1,b2)).map cI,[0,0,0],[0,0,0])) _) _=_;rw[z];rfl
 have L:dB (n+5) ((k:Int),2,l3 (a0,a1,a2),l3 (b0,b1,b2),[0,0,0],[i,h,g])=some (.inl ((k:Int),3,l3 (a0,a1,a2),l3 (b0,b1,b2),[0,0,0],addB k 2 (lN (a0,a1,a2)) (lN (b0,b1,b2)) [i,h,g])):=by
  unfold dB;show cond (decide ((2:Int)<=2)) (ob (av (bR (n+5)) (n+5) ((k:Int),((2:Nat):Int),0,(lN (a0,a1,a2)).map cI,(lN (b0,b1,b2)).map cI,[0,0,0],[i,h,g])) _) _=_;rw[J];rfl
 have H:∀out:List Int,dB (n+5) ((k:Int),3,l3 (a0,a1,a2),l3 (b0,b1,b2),[0,0,0],out)=some (.inr ([0,0,0],out)):=λout=>rfl;unfold eX;rw[av,F];show ob (av _ (n+4) _) _=_;rw[av,L];show ob (av _ (n+3) _) _=_;rw[av,H];show some (addB k 2 (lN (a0,a1,a2)) (lN (b0,b1,b2)) [i,h,g])=_;rw[<-hp];have hk':k=1\/k=2\/k=3:=by omega
 have I:=λ(x y:Nat) (hx:x<4) (hy:y<4) (b:Nat) (a:b=1\/b=2)=>ue hx hy b a;rcases hk' with rfl | rfl | rfl
 ·obtain rfl:=C (by omega);obtain rfl:=s (by omega);obtain rfl:=w (by omega);obtain rfl:=u (by omega);have e:∀b,b=1\/b=2->hit 1 b 0 (lN (a0,0,0)) (lN (b0,0,0))=decide (0<bt b (a0 ||| b0)):=λb a=>by rw[ue g0 f b a];rfl
  show some [cond (hit 1 2 0 (lN (a0,0,0)) (lN (b0,0,0))) (wrap .u8 (cond (hit 1 1 0 (lN (a0,0,0)) (lN (b0,0,0))) (wrap .u8 (0+((1:Nat):Int))) 0+((2:Nat):Int))) (cond (hit 1 1 0 (lN (a0,0,0)) (lN (b0,0,0))) (wrap .u8 (0+((1:Nat):Int))) 0),0,0]=_;rw[e 1 (.inl rfl),e 2 (.inr rfl),uK (c _ _ g0 f)];simp[l3,spM]
 ·obtain rfl:=s (by omega);obtain rfl:=u (by omega);have o:∀b,b=1\/b=2->hit 2 b 1 (lN (a0,a1,0)) (lN (b0,b1,0))=decide (0<bt b (a1 ||| b1)):=λb a=>by rw[ue m d b a];rfl
  have q:∀b,b=1\/b=2->hit 2 b 0 (lN (a0,a1,0)) (lN (b0,b1,0))=decide (0<bt b (a0 ||| b0 ||| b1)):=λb a=>by
   have r:=ue (c _ _ g0 f) d b a;have p:=ue g0 f b a;rw[r];have:hit 2 b 0 (lN (a0,a1,0)) (lN (b0,b1,0))=decide (0<bt b a0+(bt b b0+(bt b b1+0))):=rfl;rw[this];simp only[jr]at p ⊢;omega
  show some [cond (hit 2 2 0 (lN (a0,a1,0)) (lN (b0,b1,0))) (wrap .u8 (cond (hit 2 1 0 (lN (a0,a1,0)) (lN (b0,b1,0))) (wrap .u8 (0+((1:Nat):Int))) 0+((2:Nat):Int))) (cond (hit 2 1 0 (lN (a0,a1,0)) (lN (b0,b1,0))) (wrap .u8 (0+((1:Nat):Int))) 0),cond (hit 2 2 1 (lN (a0,a1,0)) (lN (b0,b1,0))) (wrap .u8 (cond (hit 2 1 1 (lN (a0,a1,0)) (lN (b0,b1,0))) (wrap .u8 (0+((1:Nat):Int))) 0+((2:Nat):Int))) (cond (hit 2 1 1 (lN (a0,a1,0)) (lN (b0,b1,0))) (wrap .u8 (0+((1:Nat):Int))) 0),0]=_;rw[q 1 (.inl rfl),q 2 (.inr rfl),o 1 (.inl rfl),o 2 (.inr rfl),uK (c _ _ (c _ _ g0 f) d),uK (c _ _ m d)];simp[l3,spM]
 ·have v:∀b,b=1\/b=2->hit 3 b 2 (lN (a0,a1,a2)) (lN (b0,b1,b2))=decide (0<bt b (a2 ||| b2)):=λb a=>by rw[ue t l b a];rfl
  have o:∀b,b=1\/b=2->hit 3 b 1 (lN (a0,a1,a2)) (lN (b0,b1,b2))=decide (0<bt b (a1 ||| b1 ||| b2)):=λb a=>by
   have r:=ue (c _ _ m d) l b a;have p:=ue m d b a;rw[r];have:hit 3 b 1 (lN (a0,a1,a2)) (lN (b0,b1,b2))=decide (0<bt b a1+(bt b b1+(bt b b2+0))):=rfl;rw[this];simp only[jr]at p ⊢;omega
  have q:∀b,b=1\/b=2->hit 3 b 0 (lN (a0,a1,a2)) (lN (b0,b1,b2))=decide (0<bt b (a0 ||| b0 ||| b1 ||| b2)):=λb a=>by
   have r:=ue (c _ _ (c _ _ g0 f) d) l b a;have p:=ue (c _ _ g0 f) d b a;have M:=ue g0 f b a;rw[r];have:hit 3 b 0 (lN (a0,a1,a2)) (lN (b0,b1,b2))=decide (0<bt b a0+(bt b b0+(bt b b1+(bt b b2+0)))):=rfl;rw[this];simp only[jr]at p M ⊢;omega
  show some [cond (hit 3 2 0 (lN (a0,a1,a2)) (lN (b0,b1,b2))) (wrap .u8 (cond (hit 3 1 0 (lN (a0,a1,a2)) (lN (b0,b1,b2))) (wrap .u8 (0+((1:Nat):Int))) 0+((2:Nat):Int))) (cond (hit 3 1 0 (lN (a0,a1,a2)) (lN (b0,b1,b2))) (wrap .u8 (0+((1:Nat):Int))) 0),cond (hit 3 2 1 (lN (a0,a1,a2)) (lN (b0,b1,b2))) (wrap .u8 (cond (hit 3 1 1 (lN (a0,a1,a2)) (lN (b0,b1,b2))) (wrap .u8 (0+((1:Nat):Int))) 0+((2:Nat):Int))) (cond (hit 3 1 1 (lN (a0,a1,a2)) (lN (b0,b1,b2))) (wrap .u8 (0+((1:Nat):Int))) 0),cond (hit 3 2 2 (lN (a0,a1,a2)) (lN (b0,b1,b2))) (wrap .u8 (cond (hit 3 1 2 (lN (a0,a1,a2)) (lN (b0,b1,b2))) (wrap .u8 (0+((1:Nat):Int))) 0+((2:Nat):Int))) (cond (hit 3 1 2 (lN (a0,a1,a2)) (lN (b0,b1,b2))) (wrap .u8 (0+((1:Nat):Int))) 0)]=_;rw[q 1 (.inl rfl),q 2 (.inr rfl),o 1 (.inl rfl),o 2 (.inr rfl),v 1 (.inl rfl),v 2 (.inr rfl),uK (c _ _ (c _ _ (c _ _ g0 f) d) l),uK (c _ _ (c _ _ m d) l),uK (c _ _ t l)];rfl
def Qv(k a b c:Nat):Bool:=spM (plA k a b c) (plB k a b c)==(a,b,c)
def aaz:((List.range 4).all λa=>Qv 1 a 0 0)=true:=by decide +kernel
def ZL:((List.range 4).all λa=>(List.range 4).all λb=>Qv 2 a b 0)=true:=by decide +kernel
def abk:((List.range 4).all λa=>(List.range 4).all λb=>(List.range 4).all λc=>Qv 3 a b c)=true:=by decide +kernel
def acW(k a b c:Nat)(i:1<=k/\k<=3)(d:a<4)(e:b<4)(hc:c<4)(g:k<2->b=0)(f:k<3->c=0):spM (plA k a b c) (plB k a b c)=(a,b,c):=by
 have h:Qv k a b c=true:=by
  have:k=1\/k=2\/k=3:=by omega
  rcases this with rfl | rfl | rfl
  ·rw[g (by omega),f (by omega)];exact r4 aaz d
  ·rw[f (by omega)];exact r4 (r4 ZL d) e
  ·exact r4 (r4 (r4 abk d) e) hc
 unfold Qv at h;exact bA.1 h
def mkS(l:aa):Nat:=match l with | []=>0 | c::_=>mkOf c
def mkN(l:aa):Nat:=if mkS l=0 then 0 else 1
def twoN(l:aa):Nat:=bS isDX 2 l
def XB(c:UInt8):mkOf c<4:=by
 unfold mkOf;split
 ·omega
 ·split
  ·omega
  ·split<;>omega
def Hi(l:aa):mkS l<4:=by
 cases l with
 | nil=>show 0<4;omega
 | cons c r=>exact XB c
def aaP(l:aa):mkN l<=l.length:=by
 cases l with
 | nil=>exact bi 0
 | cons c r=>
  unfold mkN;split<;>simp
def WT(c:UInt8):hasB [63,126,37] c=decide (0<mkOf c):=by
 have:=gO (λc=>hasB [63,126,37] c==decide (0<mkOf c)) (by decide +kernel) c;simpa using this
def XO(m:Nat)(S:aa)(a:Nat)(h:a<=S.length)(i:S.length<100000):
  dr (m+300) S (a:Int)=some (.inr (((mkS (S.drop a):Nat):Int),S,((a+mkN (S.drop a):Nat):Int))):=by
 unfold dr;rw[sB (m+300) S a h];cases g:S.drop a with
 | nil=>
  have f:oZ (m+300) 0=some (0,false):=by kernel_rfl
  show ob (oZ (m+300) 0) _=_;rw[f];rfl
 | cons c r=>
  show ob (oZ (m+300) (c.toNat:Int)) _=_;rw[UN m c];show cond (decide (0<mkOf c)) _ _=_;have b:mkS (c::r)=mkOf c:=rfl;by_cases hc:0<mkOf c
  ·rw[ar hc];show ob (cZ (m+300) [63,126,37] S (a:Int)) _=_;rw[Ek (m+300) _ S a h (by omega),g];have e:hasB [63,126,37] c=true:=by rw[WT,ar hc]
   have d:mkN (c::r)=1:=by unfold mkN;rw[b,ad]
   rw[b,d];simp only[e,aS,ob]
  ·rw[au hc];have d:mkN (c::r)=0:=by unfold mkN;rw[b,ea]
   rw[b,d];rfl
def DK(m:Nat)(S:aa)(a:Nat)(h:a<=S.length)(j:S.length<100000)(e:Int):
  fw (m+300) S (a:Int) e=some (((mkS (S.drop a):Nat):Int),S,((a+mkN (S.drop a):Nat):Int),e):=by
 unfold fw;rw[m8];rcases aN a S.length with g | d
 ·have:decide (S.length<=a)=false:=by simp;omega
  rw[this];obtain⟨c,hc⟩:∃c,S[a]?=some c:=⟨S[a],ba g⟩;rw[fh hc,da hc];show ob (eD (m+300) (c.toNat:Int)) _=_;rw[(Q4 m c).2];have b:mkS (c::S.drop (a+1))=mkOf c:=rfl;show cond (decide (((mkOf c:Nat):Int)>0)) _ _=_;by_cases i:0<mkOf c
  ·have f:mkN (c::S.drop (a+1))=1:=by unfold mkN;rw[b,ad]
   have:decide (((mkOf c:Nat):Int)>0)=true:=by simp;omega
   rw[this,b,f,ah];have w:wrap .i64 ((a:Int)+1)=((a+1:Nat):Int):=by rw[wd];omega
   rw[w]
  ·have f:mkN (c::S.drop (a+1))=0:=by unfold mkN;rw[b,ea]
   have:decide (((mkOf c:Nat):Int)>0)=false:=by simp;omega
   rw[this,b,f,af];rfl
 ·have:decide (S.length<=a)=true:=by simp;omega
  rw[this,kW d];rfl
def VQ(n:Nat)(S:aa)(a:Nat)(h:a<=S.length)(i:S.length<100000)(g:S.length<n):
  jR n S (a:Int)=some (if twoN (S.drop a)<2 then .inl (((a+twoN (S.drop a):Nat):Int),5,S,((a+twoN (S.drop a):Nat):Int))else .inr ((S.drop a).take 2,S,((a+2:Nat):Int))):=by
 unfold jR;rw[yH n _ 2 2 S a h (by omega) g];have e:bS (hasB [88,48,49,50,51,52,53,54,55,56,57]) (2:Int).toNat (S.drop a)=twoN (S.drop a):=by
  unfold twoN;have f:(2:Int).toNat=2:=rfl;rw[f];exact lW (λc=>by rw[xG];rfl) _ _
 rw[e];by_cases b:twoN (S.drop a)<2
 ·rw[ae b,ea];rfl
 ·have d:twoN (S.drop a)=2:=by
   have:=tV isDX 2 (S.drop a);unfold twoN at b ⊢;omega
  rw[ab b,ad,d];rfl
def ZW(c:UInt8):isDX c=((decide (48<=c.toNat)&&decide (c.toNat<=57))||c==88):=by
 unfold isDX;congr 1;rw[mL,cA];simp
def KJ(n:Nat)(S:aa)(a b i e:Int)(j:Nat)(r:S.length<100000)(hi:i<2)(s:j<=S.length)(v:0<=i):
  jf n (b,i,S,(j:Int),e,[],0,0)=some (match S.drop j with
   | []=>.inr (.inl ([],S,(j:Int),5))
   | c::_=>if isDX c then .inl (b,i+1,S,((j+1:Nat):Int),e,[],0,0)else .inr (.inl ([],S,(j:Int),5))):=by
 unfold jf;have o:decide (i<2)=true:=ar hi;show cond (decide (i<2)) (cond (decide ((j:Int)>=(S.length:Int))) _ _) _=_;rw[o,m8];rcases aN j S.length with m | d
 ·have:decide (S.length<=j)=false:=by simp;omega
  rw[this];obtain⟨c,hc⟩:∃c,S[j]?=some c:=⟨S[j],ba m⟩;have p:wrap .i64 (i+1)=i+1:=wrap_i64 _ (by omega) (by omega);have q:wrap .i64 ((j:Int)+1)=((j+1:Nat):Int):=by rw[wd];omega
  rw[da hc];simp only[fh hc,ob,ah,af,p,q];rw[ZW];have g:((c.toNat:Int) != 88)=!(c==88):=by rw[bne];congr 1;exact qm c 88
  rw[g];by_cases t:c.toNat<48
  ·have f:decide ((c.toNat:Int)<48)=true:=by simp;omega
   have h:decide (48<=c.toNat)=false:=by simp;omega
   rw[f,h];cases(c==88)<;>rfl
  ·have f:decide ((c.toNat:Int)<48)=false:=by simp;omega
   have h:decide (48<=c.toNat)=true:=by simp;omega
   rw[f,h];by_cases u:c.toNat<=57
   ·have k:decide ((c.toNat:Int)>57)=false:=by simp;omega
    have l:decide (c.toNat<=57)=true:=by simp;omega
    rw[k,l];rfl
   ·have k:decide ((c.toNat:Int)>57)=true:=by simp;omega
    have l:decide (c.toNat<=57)=false:=by simp;omega
    rw[k,l];cases(c==88)<;>rfl
 ·have:decide (S.length<=j)=true:=by simp;omega
  rw[this,kW d];rfl
def Qp(n:Nat)(t:10<n)(S:aa)(a:Nat)(h:a<=S.length)(i:S.length<100000)(e:Int):
  ly n S (a:Int) e=some (if twoN (S.drop a)<2 then([],S,((a+twoN (S.drop a):Nat):Int),5)else((S.drop a).take 2,S,((a+2:Nat):Int),e)):=by
 obtain⟨n,rfl⟩:∃j,n=j+3:=⟨n - 3,by omega⟩;unfold ly;rw[av,KJ (n+3) S 0 (a:Int) 0 e a i (by omega) h (by omega)];cases l:S.drop a with
 | nil=>rfl
 | cons c r=>
  obtain⟨q,s,g⟩:=pZ l;cases hc:isDX c with
  | false=>
   have:twoN (c::r)=0:=by unfold twoN;simp[bS,hc]
   rw[this];simp[hc,ob]
  | true=>
   simp only[hc,aS];rw[av,KJ (n+3) S 0 (a:Int) (0+1) e (a+1) i (by omega) (by omega) (by omega),g];cases r with
   | nil=>
    have:twoN [c]=1:=by unfold twoN;simp[bS,hc]
    rw[this];rfl
   | cons d k=>
    obtain⟨f,o,m⟩:=pZ g;cases b:isDX d with
    | false=>
     have:twoN (c::d::k)=1:=by unfold twoN;simp[bS,hc,b]
     rw[this];simp[b,ob]
    | true=>
     have:twoN (c::d::k)=2:=by unfold twoN;simp[bS,hc,b]
     rw[this];simp only[b,aS];have p:jf (n+3) ((a:Int),0+1+1,S,((a+1+1:Nat):Int),e,[],0,0)=some (.inr (.inr ((a:Int),S,((a+1+1:Nat):Int),e,[],0,0))):=rfl;rw[av,p];show ob (bx S.length ((a+1+1:Nat):Int)) _=_;rw[de (show a+1+1<=S.length by omega)];show ob (bx (a+1+1) (a:Int)) _=_;rw[de (show a<=a+1+1 by omega)];have:List.drop a (List.take (a+1+1) S)=[c,d]:=by
      rw[Bi,l];have:a+1+1 - a=2:=by omega
      rw[this];rfl
     show some (List.drop a (List.take (a+1+1) S),S,((a+1+1:Nat):Int),e)=_;rw[this];rfl
def cutD(r:Nat)(h:r<10):List.drop r (List.take (r+1) ([48,49,50,51,52,53,54,55,56,57]:aa))=[UInt8.ofNat (48+r)]:=by
 have:∀r,r<10->List.drop r (List.take (r+1) ([48,49,50,51,52,53,54,55,56,57]:aa))=[UInt8.ofNat (48+r)]:=by decide
 exact this r h
def Gi{k:Nat}(h:k<10):Lib.decDigits k=[UInt8.ofNat (48+k)]:=by
 rw[Lib.decDigits,dif_pos h]
def E5{k:Nat}(h:¬k<10)(a:k<100):Lib.decDigits k=[UInt8.ofNat (48+k / 10),UInt8.ofNat (48+k%10)]:=by
 rw[Lib.decDigits,dif_neg h,Gi (by omega)];rfl
def Qn(n k:Nat)(h:k<100):aP n (k:Int)=some (Lib.decDigits k):=by
 have c:Int.tmod (k:Int) 10=((k%10:Nat):Int):=rfl;have f:Int.tdiv (k:Int) 10=((k / 10:Nat):Int):=rfl;have d:wrap .i64 (((k%10:Nat):Int)+1)=((k%10+1:Nat):Int):=by rw[wd];omega
 have g:wrap .i64 ((k / 10:Nat):Int)=((k / 10:Nat):Int):=wrap_i64 _ (by omega) (by omega);have b:wrap .i64 (((k / 10:Nat):Int)+1)=((k / 10+1:Nat):Int):=by rw[wd];omega
 simp only[aP,c,f,d,g,b,de (show k%10+1<=10 by omega),de (show k%10<=k%10+1 by omega),ob,cutD (k%10) (by omega)];by_cases a:k<10
 ·have e:decide ((k:Int)>=10)=false:=au (by omega);rw[e,af,Gi a,mB a]
 ·have e:decide ((k:Int)>=10)=true:=ar (by omega);rw[e,ah,de (show k / 10+1<=10 by omega)];simp only[];rw[de (show k / 10<=k / 10+1 by omega)];simp only[cutD (k / 10) (by omega)];rw[dm (by simp),E5 a h];rfl
def eQ(letter:UInt8)(v:Nat):aa:=if 0<v then letter::Lib.decDigits v else[]
def Ox{k:Nat}(h:k<100):1<=(Lib.decDigits k).length/\(Lib.decDigits k).length<=2:=by
 by_cases a:k<10
 ·rw[Gi a];simp
 ·rw[E5 a h];simp
def zQ(letter:UInt8){k:Nat}(h:k<100):(eQ letter k).length<=3:=by
 unfold eQ;split
 ·have:=Ox h;simp only[aI];omega
 ·simp
def ir(g l:Bool)(d:aa)(x s:Nat):fZ g l d (x:Int) (s:Int)=(if l then[89]else[])++(if g then[45]else[])++d++eQ 69 x++eQ 83 s:=by
 unfold fZ eQ;simp only[co];have b:(0<(x:Int))=(0<x):=by simp
 have a:(0<(s:Int))=(0<s):=by simp
 simp only[b,a]
def KL(n:Nat)(g l:Bool)(d:aa)(x s:Nat)(hx:x<100)(hs:s<100)(m:d.length<=1000):jl n g l d (x:Int) (s:Int)=some (fZ g l d (x:Int) (s:Int)):=by
 have o:=Ox hx;have t:=Ox hs;have ex:decide ((x:Int)>0)=decide (0<x):=by simp
 have i:decide ((s:Int)>0)=decide (0<s):=by simp
 have j:∀a:aa,a.length<=1100->(cond (decide (0<x)) (ob (aP n (x:Int)) λr=>ob (cat ([69]:aa) r) λp=>cat a p) (some a))=some (a++eQ 69 x):=by
  intro a e;unfold eQ;by_cases h:0<x
  ·rw[ar h,ah,ae h,Qn n x hx];simp only[ob];rw[dm (by simp;omega)];simp only[];rw[dm (by simp;omega)];rfl
  ·rw[au h,ab h];simp
 have f:∀a:aa,a.length<=1200->(cond (decide (0<s)) (ob (aP n (s:Int)) λr=>ob (cat ([83]:aa) r) λp=>ob (cat a p) λq=>some q) (some a))=some (a++eQ 83 s):=by
  intro a e;unfold eQ;by_cases h:0<s
  ·rw[ar h,ah,ae h,Qn n s hs];simp only[ob];rw[dm (by simp;omega)];simp only[];rw[dm (by simp;omega)];rfl
  ·rw[au h,ab h];simp
 have b:∀a:aa,a.length<=1100->(cond (decide (0<x)) (ob (aP n (x:Int)) λr=>ob (cat ([69]:aa) r) λp=>ob (cat a p) λz=>cond (decide (0<s)) (ob (aP n (s:Int)) λr=>ob (cat ([83]:aa) r) λp=>ob (cat z p) λq=>some q) (some z)) (cond (decide (0<s)) (ob (aP n (s:Int)) λr=>ob (cat ([83]:aa) r) λp=>ob (cat a p) λq=>some q) (some a)))=some (a++eQ 69 x++eQ 83 s):=by
  intro a e;have c:=j a e;by_cases h:0<x
  ·rw[ar h,ah]at c ⊢;rw[Qn n x hx]at c ⊢;simp only[ob]at c ⊢;rw[dm (a:=[69]) (by simp;omega)]at c ⊢;simp only[]at c ⊢;rw[c];simp only[];have:=f (a++eQ 69 x) (by have:=zQ 69 hx;simp only[aV];omega);simp only[ob]at this;exact this
  ·rw[au h,af];have k:eQ 69 x=[]:=by unfold eQ;rw[ab h]
   rw[k,mi];exact f a (by omega)
 rw[ir];unfold jl;rw[ex,i];cases l<;>cases g
 ·rw[af,af,dm (by simp;omega)];exact b d (by omega)
 ·rw[af,ah,dm (by simp;omega)];exact b ([45]++d) (by simp;omega)
 ·rw[ah,af,dm (by simp;omega)];exact b ([89]++d) (by simp;omega)
 ·rw[ah,ah,dm (by simp;omega)];exact b ([89,45]++d) (by simp;omega)
def dG(p:UInt8->Bool)(l:aa):Prop:=∀c,l.head?=some c->p c=false
def n9{k:Nat}(h:k<10):(UInt8.ofNat (48+k)).toNat=48+k:=by
 rw[IN];exact mB (by omega)
def HG(letter:UInt8)(v:Nat)(post:aa)(i:v<100)(j:dG bv post)(k:dG (λc=>c==letter) post):numS letter (eQ letter v++post)=.inr (v,(eQ letter v).length):=by
 unfold eQ;by_cases h:0<v
 ·rw[ae h];by_cases g:v<10
  ·rw[Gi g];have b:=n9 g;simp only[fK,eo];rw[qx,ae rfl,rR,ea];have a:48+v - 48=v:=by omega
   cases post with
   | nil=>
    rw[wg,b,a];rfl
   | cons e r=>
    have f:¬bv e=true:=by rw[j e rfl];simp
    rw[qd,ab f,b,a];rfl
  ·rw[E5 g i];have b:=n9 (show v / 10<10 by omega);have f:=n9 (show v%10<10 by omega);simp only[fK,eo];rw[qx,ae rfl,rR,ea,qd,ae ((cA _).2 (by omega)),b,f];rw[show 10*(48+v / 10 - 48)+(48+v%10 - 48)=v by omega];rfl
 ·rw[ab h];have d:v=0:=by omega
  subst d;cases post with
  | nil=>rfl
  | cons c r=>
   have hc:c≠letter:=by
    have:=k c rfl;simpa using this
   rw[eo,qx,ab hc];rfl
def Af(letter:UInt8)(l:aa)(v k:Nat)(h:numS letter l=.inr (v,k)):v<100/\l.take k=eQ letter v/\k<=l.length:=by
 cases l with
 | nil=>
  simp only[yG,qY,bP]at h;obtain⟨rfl,rfl⟩:=h;exact⟨by omega,rfl,by simp⟩
 | cons c r=>
  rw[qx]at h;by_cases hc:c=letter
  ·rw[ae hc]at h;cases r with
   | nil=>simp[EJ]at h
   | cons d i=>
    rw[rR]at h;by_cases j:49<=d.toNat/\d.toNat<=57
    ·rw[ae j]at h;have g:d.toNat - 48<10:=by omega
     have a:UInt8.ofNat (48+(d.toNat - 48))=d:=by
      apply ii.1;rw[n9 g];omega
     have one:(c::d::i).take 2=eQ letter (d.toNat - 48):=by
      unfold eQ;rw[ea,Gi g,a,hc];rfl
     cases i with
     | nil=>
      simp only[wg,qY,bP]at h;obtain⟨rfl,rfl⟩:=h;exact⟨by omega,one,by simp⟩
     | cons e p=>
      rw[qd]at h;by_cases f:bv e=true
      ·rw[ae f]at h;simp only[qY,bP]at h;obtain⟨rfl,rfl⟩:=h;have m:=(cA e).1 f;refine⟨by omega,?_,by simp⟩;unfold eQ;have n:(10*(d.toNat - 48)+(e.toNat - 48)) / 10=d.toNat - 48:=by omega
       have o:(10*(d.toNat - 48)+(e.toNat - 48))%10=e.toNat - 48:=by omega
       have b:UInt8.ofNat (48+(e.toNat - 48))=e:=by
        apply ii.1;rw[n9 (by omega)];omega
       rw[ea,E5 (by omega) (by omega),n,o,a,b,hc];rfl
      ·rw[ab f]at h;simp only[qY,bP]at h;obtain⟨rfl,rfl⟩:=h;exact⟨by omega,one,by simp⟩
    ·rw[ab j]at h;cases h
  ·rw[ab hc]at h;simp only[qY,bP]at h;obtain⟨rfl,rfl⟩:=h;exact⟨by omega,rfl,by simp⟩
def Ba{p:UInt8->Bool}:∀(r:aa) (k:Nat) (post:aa),(∀c∈r,p c=true)->r.length<=k->(dG p post\/r.length=k)->bS p k (r++post)=r.length
 | [],0,post,_,_,_=>by simp[bS]
 | [],k+1,post,_,_,h=>by
  cases post with
  | nil=>simp[bS]
  | cons c q=>
   rcases h with h | h
   ·have:=h c rfl;simp[bS,this]
   ·simp at h
 | c::r,0,post,_,h,_=>by simp at h
 | c::r,k+1,post,hp,a,h=>by
  have ih:=Ba r k post (λd b=>hp d (by simp[b])) (by simpa using a) (by
   rcases h with h | h
   ·exact .inl h
   ·exact .inr (by simpa using h))
  simp only[fK,bS,hp c (by simp),aS,ih,aI]
def Db{p:UInt8->Bool}:∀(k:Nat) (l:aa),∀c∈l.take (bS p k l),p c=true
 | 0,l=>by simp[bS]
 | k+1,[]=>by simp[bS]
 | k+1,c::l=>by
  simp only[bS];by_cases h:p c=true
  ·rw[ae h];intro d a;rw[ox,ck]at a;rcases a with rfl | a
   ·exact h
   ·exact Db k l d a
  ·rw[ab h];simp
def uM{letter:UInt8}{v:Nat}{post:aa}{p:UInt8->Bool}(a:p letter=false)(b:dG p post):dG p (eQ letter v++post):=by
 unfold eQ;intro c hc;by_cases h:0<v
 ·rw[ae h]at hc;simp only[fK,qU,aw]at hc;rw[<-hc];exact a
 ·rw[ab h]at hc;exact b c hc
def isYC(c:UInt8):Bool:=isDX c||c==69||c==83
def Vn{l:aa}(h:dG isYC l):dG bv l:=λc hc=>by
 have:=h c hc;unfold isYC isDX at this;simp only[qt]at this;exact this.1.1.1
def ab1{l:aa}(h:dG isYC l):dG isDX l:=λc hc=>by
 have:=h c hc;unfold isYC at this;simp only[qt]at this;exact this.1.1
def acp{l:aa}(h:dG isYC l):dG (λc=>c==69) l:=λc hc=>by
 have:=h c hc;unfold isYC at this;simp only[qt]at this;exact this.1.2
def acn{l:aa}(h:dG isYC l):dG (λc=>c==83) l:=λc hc=>by
 have:=h c hc;unfold isYC at this;simp only[qt]at this;exact this.2
def qC(c:UInt8)(l:aa):gm c (c::l)=1:=by rw[l9,ae rfl]
def rh{c a:UInt8}(h:a≠c)(l:aa):gm c (a::l)=0:=by rw[l9,ab h]
def QP{g l:Bool}{d:aa}{x s:Nat}(h:okY g l d (x:Int) (s:Int))(post:aa)(hp:dG isYC post):sR (fZ g l d (x:Int) (s:Int)++post)=.inr (g,l,d,x,s,(fZ g l d (x:Int) (s:Int)).length):=by
 have I:=gR h;have m:numS 83 (eQ 83 s++post)=.inr (s,(eQ 83 s).length):=HG 83 s post (by omega) (Vn hp) (acn hp);have n:dG bv (eQ 83 s++post):=uM (by decide) (Vn hp);have L:dG isDX (eQ 83 s++post):=uM (by decide) (ab1 hp);rw[ir];cases l with
 | true=>
  have G:okL d (x:Int) (s:Int):=by simpa[okY]using h
  obtain⟨⟨b,j,A,z,J,E,C,N⟩,O,D⟩:=G;obtain⟨c,r,rfl⟩:∃c r,d=c::r:=by
   cases d with
   | nil=>simp at j
   | cons c r=>exact⟨c,r,rfl⟩
  have t:=(cA c).1 (b c (by simp));have p:49<=c.toNat/\c.toNat<=57:=by
   have:c.toNat≠48:=λe=>z (by rw[show c=48 from ii.1 e];rfl);omega
  have a:c≠45:=by rintro rfl;exact absurd t.1 (by decide)
  have v:numS 69 (eQ 69 x++(eQ 83 s++post))=.inr (x,(eQ 69 x).length):=HG 69 x _ (by omega) n (uM (by decide) (acp hp));have i:bS bv 16 (r++(eQ 69 x++(eQ 83 s++post)))=r.length:=by
   refine Ba r 16 _ (λe K=>b e (by simp[K])) (by simp only[aI]at A;omega) (.inl ?_);exact uM (by decide) n
  have body:∀o:Nat,wu g o ((c::r)++(eQ 69 x++(eQ 83 s++post)))=.inr (g,true,c::r,x,s,o+(1+r.length)+(eQ 69 x).length+(eQ 83 s).length):=by
   intro o;simp only[fK,wu];rw[ae p,i];have M:List.drop (1+r.length) (c::(r++(eQ 69 x++(eQ 83 s++post))))=eQ 69 x++(eQ 83 s++post):=by
    rw[qP,pP,HC rfl]
   have F:List.drop (1+r.length+(eQ 69 x).length) (c::(r++(eQ 69 x++(eQ 83 s++post))))=eQ 83 s++post:=by
    rw[show 1+r.length+(eQ 69 x).length=(r.length+(eQ 69 x).length)+1 by omega,pP,<-gx,HC (by simp)]
   have B:List.take (1+r.length) (c::(r++(eQ 69 x++(eQ 83 s++post))))=c::r:=by
    rw[qP,ox,List.take_left' rfl]
   rw[M,v];simp only[];rw[F,m,B]
  unfold sR;cases g with
  | true=>
   simp only[aS,fK,eo,gx];rw[qC,ae rfl,pP,cM,qC];have:=body 2;simp only[fK]at this;simp only[pP,cM,show((1:Nat)==1)=true from rfl,show 1+1=2 from rfl];rw[this];simp only[aI,aV];congr 6;omega
  | false=>
   simp only[aS,bI,aF,fK,eo,gx];rw[qC,ae rfl,pP,cM,rh a];have:=body 1;simp only[fK]at this;simp only[pP,cM,show((0:Nat)==1)=false from rfl,dj];rw[this];simp only[aI,aV];congr 6;omega
 | false=>
  have H:okS g d (x:Int) (s:Int):=by simpa[okY]using h
  obtain⟨b,j,A,z,J,E,C⟩:=H;have w:x=0:=by omega
  subst w;have u:eQ 69 0=[]:=rfl;have y:∀c∈d,isDX c=true:=λc hc=>by
   unfold isDX;rcases j c hc with q | q
   ·rw[q];rfl
   ·rw[q];simp
  have i:bS isDX 4 (d++(eQ 83 s++post))=d.length:=Ba d 4 _ y (by omega) (.inr b);have body:∀o:Nat,xQ g o (d++(eQ 83 s++post))=.inr (g,false,d,0,s,o+4+(eQ 83 s).length):=by
   intro o;unfold xQ;rw[i,b,ad,HC b,m,List.take_left' b]
  obtain⟨c,r,rfl⟩:∃c r,d=c::r:=by
   cases d with
   | nil=>simp at b
   | cons c r=>exact⟨c,r,rfl⟩
  have a:c≠45:=by
   rintro rfl;rcases j 45 (by simp)with q | q
   ·exact absurd ((cA _).1 q).1 (by decide)
   ·exact absurd q (by decide)
  have k:c≠89:=by
   rintro rfl;rcases j 89 (by simp)with q | q
   ·exact absurd ((cA _).1 q).2 (by decide)
   ·exact absurd q (by decide)
  have f:(45:UInt8)≠89:=by decide
  unfold sR;rw[u];cases g with
  | true=>
   simp only[aS,bI,aF,fK,eo,gx];rw[rh f,ab (by decide),qC,pP,cM];have:=body 1;simp only[fK]at this;rw[show((1:Nat)==1)=true from rfl,this];simp only[aI,aV]at b ⊢;congr 6;omega
  | false=>
   simp only[bI,aF,fK,eo,gx];rw[rh k,ab (by decide),rh a,cM];have:=body 0;simp only[fK]at this;rw[show((0:Nat)==1)=false from rfl,this];simp only[aI,aV]at b ⊢;congr 6;omega
def xE(c:UInt8)(l:aa):l.take (gm c l)=if gm c l=1 then[c]else[]:=by
 rcases nA c l with h | h
 ·rw[h];simp
 ·rw[h,ae rfl];unfold gm at h;split at h
  ·assumption
  ·cases h
def rP(l:aa)(i j:Nat):l.take (i+j)=l.take i++(l.drop i).take j:=by
 rw[List.take_add]
def uj{l:aa}{g n:Bool}{d:aa}{x s k:Nat}(h:sR l=.inr (g,n,d,x,s,k)):l.take k=fZ g n d (x:Int) (s:Int)/\k<=l.length/\x<100/\s<100/\d.length<=17:=by
 rw[ir];unfold sR at h;by_cases f:gm 89 l=1
 ·rw[ae f]at h;have o:=xE 89 l;rw[f,ae rfl]at o;have m:=xE 45 (l.drop 1);have c45:=nA 45 (l.drop 1);generalize E:gm 45 (l.drop 1)=u at *;have a:l.take (1+u)=[89]++(if(u==1)=true then[45]else[]):=by
   rw[rP,o,m];rcases c45 with rfl | rfl<;>rfl
  cases q:l.drop (1+u)with
  | nil=>rw[q]at h;simp[wu]at h
  | cons c r=>
   rw[q]at h;simp only[wu]at h;by_cases hc:49<=c.toNat/\c.toNat<=57
   ·rw[ae hc]at h;have A:=tV bv 16 r;have C:1+bS bv 16 r<=(c::r).length:=by have:=nL bv 16 r;simp only[aI];omega
    generalize G:1+bS bv 16 r=K at *;cases b:numS 69 (List.drop K (c::r))with
    | inl j=>rw[b]at h;simp at h
    | inr p=>
     obtain⟨F,j⟩:=p;rw[b]at h;simp only at h;cases e:numS 83 (List.drop (K+j) (c::r))with
     | inl i=>rw[e]at h;simp at h
     | inr t=>
      obtain⟨s',i⟩:=t;rw[e]at h;simp only[qY,bP]at h;obtain⟨rfl,rfl,rfl,rfl,rfl,rfl⟩:=h;obtain⟨a1,a2,D⟩:=Af _ _ _ _ b;obtain⟨b1,b2,y⟩:=Af _ _ _ _ e;rw[cg]at D y;have B:l.length=1+u+(c::r).length:=by
       have:=cf List.length q;rw[cg]at this;simp only[aI]at this ⊢;omega
      refine⟨?_,by simp only[aI]at *;omega,a1,b1,by rw[dN];omega⟩;rw[show 1+u+K+j+i=(1+u)+(K+(j+i))by omega,rP,a,q,rP _ K,rP _ j,a2,km,b2];simp
   ·rw[ab hc]at h;simp at h
 ·rw[ab f]at h;have m:=xE 45 l;have c45:=nA 45 l;generalize E:gm 45 l=u at *;have a:l.take u=(if(u==1)=true then[45]else[]):=by
   rw[m];rcases c45 with rfl | rfl<;>rfl
  unfold xQ at h;by_cases z:bS isDX 4 (l.drop u)<4
  ·rw[ae z]at h;simp at h
  ·rw[ab z]at h;have v:=nL isDX 4 (l.drop u);rw[cg]at v;cases b:numS 83 (List.drop 4 (l.drop u))with
   | inl i=>rw[b]at h;simp at h
   | inr t=>
    obtain⟨s',i⟩:=t;rw[b]at h;simp only[qY,bP]at h;obtain⟨rfl,rfl,rfl,rfl,rfl,rfl⟩:=h;obtain⟨b1,b2,y⟩:=Af _ _ _ _ b;rw[cg,cg]at y;refine⟨?_,by omega,by omega,b1,by rw[dN];omega⟩;rw[show u+4+i=u+(4+i)by omega,rP,a,rP _ 4,b2];have w:eQ 69 0=[]:=rfl;rw[w];simp
abbrev DR:=Bool×Bool×aa×Nat×Nat×aa×aa×(Nat×Nat×Nat)×(Nat×Nat×Nat)×Nat
def mkE(S:aa)(p:Nat):Nat:=p+mkN (S.drop p)
def rd3(S:aa)(y:YR)(d g c b f e a:Nat)(h:aa):Nat⊕DR:=
 if twoN (S.drop (mkE S (a+1)))<2 then .inl (mkE S (a+1)+twoN (S.drop (mkE S (a+1))))
 else .inr (y.1,y.2.1,y.2.2.1,y.2.2.2.1,y.2.2.2.2.1,h,(S.drop (mkE S (a+1))).take 2,spM (d,c,mkS (S.drop (a+1))) (g,b,mkS (S.drop (mkE S (a+1)+2))),(f,e,mkE S (a+1)),mkE S (mkE S (a+1)+2))
def rd2(S:aa)(y:YR)(c b d a:Nat):Nat⊕DR:=
 if twoN (S.drop (mkE S (a+1)))<2 then .inl (mkE S (a+1)+twoN (S.drop (mkE S (a+1))))
 else if gm 45 (S.drop (mkE S (mkE S (a+1)+2)))=0 then .inr (y.1,y.2.1,y.2.2.1,y.2.2.2.1,y.2.2.2.2.1,(S.drop (mkE S (a+1))).take 2,[],spM (c,mkS (S.drop (a+1)),0) (b,mkS (S.drop (mkE S (a+1)+2)),0),(d,mkE S (a+1),0),mkE S (mkE S (a+1)+2))
 else rd3 S y c b (mkS (S.drop (a+1))) (mkS (S.drop (mkE S (a+1)+2))) d (mkE S (a+1)) (mkE S (mkE S (a+1)+2)) ((S.drop (mkE S (a+1))).take 2)
def uu(S:aa)(a:Nat):Nat⊕DR:=match sR (S.drop (mkE S a))with
 | .inl k=>.inl (mkE S a+k)
 | .inr y=>if 0<y.2.2.2.2.1\/gm 45 (S.drop (mkE S (mkE S a+y.2.2.2.2.2)))=0
  then .inr (y.1,y.2.1,y.2.2.1,y.2.2.2.1,y.2.2.2.2.1,[],[],spM (mkS (S.drop a),0,0) (mkS (S.drop (mkE S a+y.2.2.2.2.2)),0,0),(mkE S a,0,0),mkE S (mkE S a+y.2.2.2.2.2))
  else rd2 S y (mkS (S.drop a)) (mkS (S.drop (mkE S a+y.2.2.2.2.2))) (mkE S a) (mkE S (mkE S a+y.2.2.2.2.2))
def YN(S:aa):Nat⊕DR->(Int×Int×aa×Int)⊕(Bool×Bool×aa×Int×Int×aa×aa×Int×Int×Int×List Int×aa×Int)
 | .inl k=>.inl ((k:Int),5,S,(k:Int))
 | .inr (g,l,dg,x,s,m,d,M,P,e)=>.inr (g,l,dg,(x:Int),(s:Int),m,d,(M.1:Int),(M.2.1:Int),(M.2.2:Int),l3 P,S,(e:Int))
def mg{S:aa}{p:Nat}(h:p<=S.length):mkE S p<=S.length:=by
 have:=aaP (S.drop p);rw[cg]at this;unfold mkE;omega
def xX{S:aa}{p:Nat}(a:¬twoN (S.drop p)<2):p+2<=S.length:=by
 have:=nL isDX 2 (S.drop p);unfold twoN at a;rw[cg]at this;omega
def uR{S:aa}{p:Nat}(h:¬gm 45 (S.drop p)=0):p+1<=S.length:=by
 have:=DD 45 (S.drop p);rw[cg]at this;omega
def SO(n:Nat)(g l:Bool)(d:aa)(x s:Int)(b a:aa)(k0 k1 k2:Int)(S:aa)(p:Nat)(h:p<=S.length)(e:S.length<100000)(c:S.length<n):
  lE n g l d x s b a k0 k1 k2 S (p:Int)=some (match sR (S.drop p)with
   | .inl k=>.inl (((p+k:Nat):Int),5,g,l,d,x,s,b,a,k0,k1,k2,S,((p+k:Nat):Int))
   | .inr y=>.inr (y.1,y.2.1,y.2.2.1,(y.2.2.2.1:Int),(y.2.2.2.2.1:Int),b,a,k0,k1,k2,S,((p+y.2.2.2.2.2:Nat):Int))):=by
 unfold lE;rw[X0 n S p h e c];cases sR (S.drop p)with
 | inl k=>rfl
 | inr y=>rfl
def Uy(n:Nat)(g l:Bool)(d:aa)(x s:Int)(c b:aa)(k0 k1 k2:Int)(S:aa)(p:Nat)(h:p<=S.length)(f:S.length<100000)(e:S.length<n):
  lH n g l d x s c b k0 k1 k2 S (p:Int)=some (if twoN (S.drop p)<2
   then .inl (((p+twoN (S.drop p):Nat):Int),5,g,l,d,x,s,c,b,k0,k1,k2,S,((p+twoN (S.drop p):Nat):Int))
   else .inr (g,l,d,x,s,(S.drop p).take 2,b,k0,k1,k2,S,((p+2:Nat):Int))):=by
 unfold lH;rw[VQ n S p h f e];by_cases a:twoN (S.drop p)<2
 ·rw[ae a,ae a];rfl
 ·rw[ab a,ab a];rfl
def Uj(n:Nat)(g l:Bool)(d:aa)(x s:Int)(b c:aa)(k0 k1 k2:Int)(S:aa)(p:Nat)(h:p<=S.length)(f:S.length<100000)(e:S.length<n):
  lK n g l d x s b c k0 k1 k2 S (p:Int)=some (if twoN (S.drop p)<2
   then .inl (((p+twoN (S.drop p):Nat):Int),5,g,l,d,x,s,b,c,k0,k1,k2,S,((p+twoN (S.drop p):Nat):Int))
   else .inr (g,l,d,x,s,b,(S.drop p).take 2,k0,k1,k2,S,((p+2:Nat):Int))):=by
 unfold lK;rw[VQ n S p h f e];by_cases a:twoN (S.drop p)<2
 ·rw[ae a,ae a];rfl
 ·rw[ab a,ab a];rfl
def XM(m:Nat)(S:aa)(a:Nat)(h:a<=S.length)(n:S.length<100000)(B:S.length<m+300):
  lh (m+300) S (a:Int)=some (YN S (uu S a)):=by
 have j:∀p,p<=S.length->dr (m+300) S (p:Int)=some (.inr (((mkS (S.drop p):Nat):Int),S,((mkE S p:Nat):Int))):=λp hp=>XO m S p hp n;have b:∀p,mkS (S.drop p)<4:=λp=>Hi _;have t:∀p q,ft (m+300) [((mkS (S.drop p):Nat):Int),0,0] [((mkS (S.drop q):Nat):Int),0,0] 1=some (l3 (spM (mkS (S.drop p),0,0) (mkS (S.drop q),0,0)),0):=λp q=>
  AW (m+300) (by omega) 1 (mkS (S.drop p),0,0) (mkS (S.drop q),0,0) (by omega) ⟨b p,by simp,by simp,by simp,by simp⟩ ⟨b q,by simp,by simp,by simp,by simp⟩
 have D:∀p q i f,ft (m+300) [((mkS (S.drop p):Nat):Int),((mkS (S.drop i):Nat):Int),0] [((mkS (S.drop q):Nat):Int),((mkS (S.drop f):Nat):Int),0] 2=some (l3 (spM (mkS (S.drop p),mkS (S.drop i),0) (mkS (S.drop q),mkS (S.drop f),0)),0):=λp q i f=>
  AW (m+300) (by omega) 2 (mkS (S.drop p),mkS (S.drop i),0) (mkS (S.drop q),mkS (S.drop f),0) (by omega) ⟨b p,b i,by simp,by simp,by simp⟩ ⟨b q,b f,by simp,by simp,by simp⟩
 have F:∀p q i f c d,ft (m+300) [((mkS (S.drop p):Nat):Int),((mkS (S.drop i):Nat):Int),((mkS (S.drop c):Nat):Int)] [((mkS (S.drop q):Nat):Int),((mkS (S.drop f):Nat):Int),((mkS (S.drop d):Nat):Int)] 3=some (l3 (spM (mkS (S.drop p),mkS (S.drop i),mkS (S.drop c)) (mkS (S.drop q),mkS (S.drop f),mkS (S.drop d))),0):=λp q i f c d=>
  AW (m+300) (by omega) 3 (mkS (S.drop p),mkS (S.drop i),mkS (S.drop c)) (mkS (S.drop q),mkS (S.drop f),mkS (S.drop d)) (by omega) ⟨b p,b i,b c,by simp,by simp⟩ ⟨b q,b f,b d,by simp,by simp⟩
 have b0:=mg h;unfold lh uu;rw[j a h];simp only[ob,GG];rw[SO _ _ _ _ _ _ _ _ _ _ _ S (mkE S a) b0 n B];cases I:sR (S.drop (mkE S a))with
 | inl k=>rfl
 | inr y=>
  obtain⟨g,l,dg,x,s,k⟩:=y;have bk:mkE S a+k<=S.length:=by
   have:=(uj I).2.1;rw[cg]at this;omega
  have b1:=mg bk;simp only[ob,d4,d8];rw[j (mkE S a+k) bk];simp only[ob];by_cases hs:0<s
  ·have:decide ((s:Int)>0)=true:=by simp;omega
   rw[this,ae (.inl hs)];simp only[ah];rw[t];rfl
  ·have:decide ((s:Int)>0)=false:=by simp;omega
   rw[this];simp only[af];rw[wo (m+300) 45 S _ b1 n];simp only[ob];by_cases w:gm 45 (S.drop (mkE S (mkE S a+k)))=0
   ·rw[ae (.inr w),w];simp only[show((0:Nat)==1)=false from rfl,kH,ah,dj];rw[t];rfl
   ·have E:gm 45 (S.drop (mkE S (mkE S a+k)))=1:=(nA 45 _).resolve_left w;have A:=uR w;rw[ab (λz=>z.elim hs w),E];simp only[show((1:Nat)==1)=true from rfl,dU,af];unfold rd2;rw[j _ A];simp only[ob];have H:=mg A;rw[Uy _ _ _ _ _ _ _ _ _ _ _ S _ H n B];by_cases v:twoN (S.drop (mkE S (mkE S (mkE S a+k)+1)))<2
    ·rw[ae v,ae v];rfl
    ·rw[ab v,ab v];have b2:=xX v;simp only[ob,d4,d8];rw[j _ b2];simp only[ob];rw[this];simp only[af];have J:=mg b2;rw[wo (m+300) 45 S _ J n];simp only[ob];by_cases e:gm 45 (S.drop (mkE S (mkE S (mkE S (mkE S a+k)+1)+2)))=0
     ·rw[ae e,e];simp only[show((0:Nat)==1)=false from rfl,kH,ah,dj];rw[D];rfl
     ·have r:=(nA 45 (S.drop (mkE S (mkE S (mkE S (mkE S a+k)+1)+2)))).resolve_left e;have u:=uR e;rw[ab e,r];simp only[show((1:Nat)==1)=true from rfl,dU,af];unfold rd3;rw[j _ u];simp only[ob];have C:=mg u;rw[Uj _ _ _ _ _ _ _ _ _ _ _ S _ C n B];by_cases o:twoN (S.drop (mkE S (mkE S (mkE S (mkE S (mkE S a+k)+1)+2)+1)))<2
      ·rw[ae o,ae o];rfl
      ·rw[ab o,ab o];have G:=xX o;simp only[ob,d4,d8];rw[j _ G];simp only[ob];rw[F];rfl
def aby(S:aa)(P:List Int):Nat⊕DR->Bool×Bool×aa×Int×Int×aa×aa×Int×Int×Int×List Int×aa×Int×Int
 | .inl k=>(false,false,[],0,0,[],[],0,0,0,P,S,(k:Int),5)
 | .inr (g,l,dg,x,s,m,d,M,Q,e)=>(g,l,dg,(x:Int),(s:Int),m,d,(M.1:Int),(M.2.1:Int),(M.2.2:Int),l3 Q,S,(e:Int),0)
abbrev RdSt:=aa×Int×Int×List Int×Bool×Bool×aa×Int×Int×aa×aa×List Int×List Int×List Int×aa×Int×Int
def rdSt(S:aa)(i:Int)(g l:Bool)(dg:aa)(x s:Int)(b a:aa)(P A B:List Int)(p:Nat):RdSt:=
 (S,i,i,[0,0,0],g,l,dg,x,s,b,a,P,A,B,S,(p:Int),0)
def acV(m:Nat)(S:aa)(a:Nat)(h:a<=S.length)(c:S.length<100000)(d:S.length<m+300):
  bC (m+300) (rdSt S 0 false false [] 0 0 [] [] [0,0,0] [0,0,0] [0,0,0] a)=some (match sR (S.drop (mkE S a))with
   | .inl k=>.inr (.inr (false,false,[],0,0,[],[],0,0,0,[((mkE S a:Nat):Int),0,0],S,((mkE S a+k:Nat):Int),5))
   | .inr y=>.inl (rdSt S 1 y.1 y.2.1 y.2.2.1 (y.2.2.2.1:Int) (y.2.2.2.2.1:Int) [] [] [((mkE S a:Nat):Int),0,0] [((mkS (S.drop a):Nat):Int),0,0] [((mkS (S.drop (mkE S a+y.2.2.2.2.2)):Nat):Int),0,0] (mkE S (mkE S a+y.2.2.2.2.2)))):=by
 have b:∀p,p<=S.length->fw (m+300) S (p:Int) 0=some (((mkS (S.drop p):Nat):Int),S,((mkE S p:Nat):Int),0):=λp hp=>DK m S p hp c 0;have b0:=mg h;unfold bC rdSt;simp only[d4,d8,d16,gM,show(decide ((0:Int)<3))=true from rfl,show(decide ((0:Int)>0))=false from rfl,ah,af,ob];rw[b a h];simp only[ob,show ix 3 0=some 0 from rfl,show Nat.blt 0 3=true from rfl,ah,gH,show((0:Int)==0)=true from rfl];rw[Ut (m+300) S (mkE S a) b0 c d];cases e:sR (S.drop (mkE S a))with
 | inl k=>rfl
 | inr y=>
  obtain⟨g,l,dg,x,s,k⟩:=y;have bk:mkE S a+k<=S.length:=by
   have:=(uj e).2.1;rw[cg]at this;omega
  simp only[rQ,ob,d4,d8,d16,show((0:Int) != 0)=false from rfl,af];rw[b _ bk];rfl
def acj(m:Nat)(S:aa)(g l:Bool)(dg:aa)(x s:Nat)(e j n:Int)(q:Nat)(h:q<=S.length)(r:S.length<100000)(t:S.length<m+300):
  bC (m+300) (rdSt S 1 g l dg (x:Int) (s:Int) [] [] [e,0,0] [j,0,0] [n,0,0] q)=some (
   if 0<s\/gm 45 (S.drop q)=0 then .inr (.inl (1,false,false,[],0,0,[],[],0,0,0,[0,0,0],[],0,0,g,l,dg,(x:Int),(s:Int),[],[],0,0,0,[e,0,0],[j,0,0],[n,0,0],S,(q:Int),0))
   else if twoN (S.drop (mkE S (q+1)))<2 then .inr (.inr (false,false,[],0,0,[],[],0,0,0,[e,((mkE S (q+1):Nat):Int),0],S,((mkE S (q+1)+twoN (S.drop (mkE S (q+1))):Nat):Int),5))
   else .inl (rdSt S 2 g l dg (x:Int) (s:Int) ((S.drop (mkE S (q+1))).take 2) [] [e,((mkE S (q+1):Nat):Int),0] [j,((mkS (S.drop (q+1)):Nat):Int),0] [n,((mkS (S.drop (mkE S (q+1)+2)):Nat):Int),0] (mkE S (mkE S (q+1)+2)))):=by
 have o:∀p,p<=S.length->fw (m+300) S (p:Int) 0=some (((mkS (S.drop p):Nat):Int),S,((mkE S p:Nat):Int),0):=λp hp=>DK m S p hp r 0;unfold bC rdSt;simp only[d4,d8,d16,gM,jw,show(decide ((1:Int)<3))=true from rfl,show(decide ((1:Int)>0))=true from rfl,ah,af,ob,m8];by_cases hs:0<s
 ·have:decide ((s:Int)>0)=true:=by simp;omega
  rw[this,ae (.inl hs)];rfl
 ·have:decide ((s:Int)>0)=false:=by simp;omega
  rw[this];simp only[af];rcases aN q S.length with k | i
  ·obtain⟨c,hc⟩:∃c,S[q]?=some c:=⟨S[q],ba k⟩;have b:decide (S.length<=q)=false:=by simp;omega
   rw[b];simp only[af,fh hc,ob];have f:((c.toNat:Int) != 45)=!(c==45):=by rw[bne];congr 1;exact qm c 45
   rw[f,da hc,l9];by_cases a:c=45
   ·have w:wrap .i64 ((q:Int)+1)=((q+1:Nat):Int):=by rw[wd];omega
    rw[ae a,ab (show¬(0<s\/(1:Nat)=0)fromλz=>z.elim hs (by omega)),a];simp only[xY,dU,af,ob,w];rw[o _ (by omega)];simp only[ob,show ix 3 1=some 1 from rfl,show Nat.blt 1 3=true from rfl,ah,gH,jz,show((1:Int)==0)=false from rfl,show((1:Int)==1)=true from rfl,af];have b1:=mg (show q+1<=S.length by omega);rw[Qp (m+300) (by omega) S _ b1 r 0];by_cases d:twoN (S.drop (mkE S (q+1)))<2
    ·rw[ae d,ae d];rfl
    ·rw[ab d,ab d];simp only[ob,d4,d8,d16,show((0:Int) != 0)=false from rfl,af];rw[o _ (xX d)];rfl
   ·have:(c==45)=false:=aL.2 a;rw[ab a,ae (.inr rfl),this];rfl
  ·have b:decide (S.length<=q)=true:=by simp;omega
   rw[b,kW i,zr,ae (.inr rfl)];rfl
def abZ(m:Nat)(S:aa)(g l:Bool)(dg:aa)(x s:Nat)(u:aa)(e o t f n j:Int)(q:Nat)(h:q<=S.length)(y:S.length<100000)(z:S.length<m+300)(hs:¬0<s):
  bC (m+300) (rdSt S 2 g l dg (x:Int) (s:Int) u [] [e,f,0] [o,n,0] [t,j,0] q)=some (
   if gm 45 (S.drop q)=0 then .inr (.inl (2,false,false,[],0,0,[],[],0,0,0,[0,0,0],[],0,0,g,l,dg,(x:Int),(s:Int),u,[],0,0,0,[e,f,0],[o,n,0],[t,j,0],S,(q:Int),0))
   else if twoN (S.drop (mkE S (q+1)))<2 then .inr (.inr (false,false,[],0,0,[],[],0,0,0,[e,f,((mkE S (q+1):Nat):Int)],S,((mkE S (q+1)+twoN (S.drop (mkE S (q+1))):Nat):Int),5))
   else .inl (rdSt S 3 g l dg (x:Int) (s:Int) u ((S.drop (mkE S (q+1))).take 2) [e,f,((mkE S (q+1):Nat):Int)] [o,n,((mkS (S.drop (q+1)):Nat):Int)] [t,j,((mkS (S.drop (mkE S (q+1)+2)):Nat):Int)] (mkE S (mkE S (q+1)+2)))):=by
 have v:∀p,p<=S.length->fw (m+300) S (p:Int) 0=some (((mkS (S.drop p):Nat):Int),S,((mkE S p:Nat):Int),0):=λp hp=>DK m S p hp y 0;unfold bC rdSt;simp only[d4,d8,d16,gM,jw,show(decide ((2:Int)<3))=true from rfl,show(decide ((2:Int)>0))=true from rfl,ah,af,ob,m8];have:decide ((s:Int)>0)=false:=by simp;omega
 rw[this];simp only[af];rcases aN q S.length with r | k
 ·obtain⟨c,hc⟩:∃c,S[q]?=some c:=⟨S[q],ba r⟩;have b:decide (S.length<=q)=false:=by simp;omega
  rw[b];simp only[af,fh hc,ob];have i:((c.toNat:Int) != 45)=!(c==45):=by rw[bne];congr 1;exact qm c 45
  rw[i,da hc,l9];by_cases a:c=45
  ·have w:wrap .i64 ((q:Int)+1)=((q+1:Nat):Int):=by rw[wd];omega
   rw[ae a,ab (show¬((1:Nat)=0)by omega),a];simp only[xY,dU,af,ob,w];rw[v _ (by omega)];simp only[ob,show ix 3 2=some 2 from rfl,show Nat.blt 2 3=true from rfl,ah,gH,jz,show((2:Int)==0)=false from rfl,show((2:Int)==1)=false from rfl,af];have b1:=mg (show q+1<=S.length by omega);rw[Qp (m+300) (by omega) S _ b1 y 0];by_cases d:twoN (S.drop (mkE S (q+1)))<2
   ·rw[ae d,ae d];rfl
   ·rw[ab d,ab d];simp only[ob,d4,d8,d16,show((0:Int) != 0)=false from rfl,af];rw[v _ (xX d)];rfl
  ·have:(c==45)=false:=aL.2 a;rw[ab a,ae rfl,this];rfl
 ·have b:decide (S.length<=q)=true:=by simp;omega
  rw[b,kW k,zr,ae rfl];rfl
def Jd(m:Nat)(S:aa)(a:Nat)(h:a<=S.length)(v:S.length<100000)(o:S.length<m+300):
  ∃P:List Int,P.length=3/\kv (m+300) S (a:Int)=some (aby S P (uu S a)):=by
 have b:∀p,mkS (S.drop p)<4:=λp=>Hi _;have r:∀p q,eX (m+300) [((mkS (S.drop p):Nat):Int),0,0] [((mkS (S.drop q):Nat):Int),0,0] 1=some (l3 (spM (mkS (S.drop p),0,0) (mkS (S.drop q),0,0))):=λp q=>
  xm (m+300) (by omega) 1 (mkS (S.drop p),0,0) (mkS (S.drop q),0,0) (by omega) ⟨b p,by simp,by simp,by simp,by simp⟩ ⟨b q,by simp,by simp,by simp,by simp⟩
 have t:∀p q i f,eX (m+300) [((mkS (S.drop p):Nat):Int),((mkS (S.drop i):Nat):Int),0] [((mkS (S.drop q):Nat):Int),((mkS (S.drop f):Nat):Int),0] 2=some (l3 (spM (mkS (S.drop p),mkS (S.drop i),0) (mkS (S.drop q),mkS (S.drop f),0))):=λp q i f=>
  xm (m+300) (by omega) 2 (mkS (S.drop p),mkS (S.drop i),0) (mkS (S.drop q),mkS (S.drop f),0) (by omega) ⟨b p,b i,by simp,by simp,by simp⟩ ⟨b q,b f,by simp,by simp,by simp⟩
 have w:∀p q i f c d,eX (m+300) [((mkS (S.drop p):Nat):Int),((mkS (S.drop i):Nat):Int),((mkS (S.drop c):Nat):Int)] [((mkS (S.drop q):Nat):Int),((mkS (S.drop f):Nat):Int),((mkS (S.drop d):Nat):Int)] 3=some (l3 (spM (mkS (S.drop p),mkS (S.drop i),mkS (S.drop c)) (mkS (S.drop q),mkS (S.drop f),mkS (S.drop d)))):=λp q i f c d=>
  xm (m+300) (by omega) 3 (mkS (S.drop p),mkS (S.drop i),mkS (S.drop c)) (mkS (S.drop q),mkS (S.drop f),mkS (S.drop d)) (by omega) ⟨b p,b i,b c,by simp,by simp⟩ ⟨b q,b f,b d,by simp,by simp⟩
 have b0:=mg h;unfold kv uu;show ∃P:List Int,P.length=3/\ob (av (bC (m+300)) (m+299+1) (rdSt S 0 false false [] 0 0 [] [] [0,0,0] [0,0,0] [0,0,0] a)) _=_;rw[av,acV m S a h v o];cases H:sR (S.drop (mkE S a))with
 | inl k=>(refine⟨_,?_,rfl⟩;rfl)
 | inr y=>
  obtain⟨g,l,dg,x,s,k⟩:=y;have bk:mkE S a+k<=S.length:=by
   have:=(uj H).2.1;rw[cg]at this;omega
  have b1:=mg bk;show ∃P:List Int,P.length=3/\ob (av (bC (m+300)) (m+298+1) (rdSt S 1 g l dg (x:Int) (s:Int) [] [] [((mkE S a:Nat):Int),0,0] [((mkS (S.drop a):Nat):Int),0,0] [((mkS (S.drop (mkE S a+k)):Nat):Int),0,0] (mkE S (mkE S a+k)))) _=_;rw[av,acj m S g l dg x s _ _ _ _ b1 v o];simp only[];by_cases hc:0<s\/gm 45 (S.drop (mkE S (mkE S a+k)))=0
  ·rw[ae hc,ae hc];refine⟨[0,0,0],rfl,?_⟩;simp only[ob,d4,d8,d16];rw[r];rfl
  ·rw[ab hc,ab hc];have hs:¬0<s:=λz=>hc (.inl z);have C:=uR (λz=>hc (.inr z));have J:=mg C;unfold rd2;by_cases j:twoN (S.drop (mkE S (mkE S (mkE S a+k)+1)))<2
   ·rw[ae j,ae j];(refine⟨_,?_,rfl⟩;rfl)
   ·rw[ab j,ab j];have b2:=xX j;have I:=mg b2;show ∃P:List Int,P.length=3/\ob (av (bC (m+300)) (m+297+1) (rdSt S 2 g l dg (x:Int) (s:Int) _ [] [_,_,0] [_,_,0] [_,_,0] (mkE S (mkE S (mkE S (mkE S a+k)+1)+2)))) _=_;rw[av,abZ m S g l dg x s _ _ _ _ _ _ _ _ I v o hs];by_cases e:gm 45 (S.drop (mkE S (mkE S (mkE S (mkE S a+k)+1)+2)))=0
    ·rw[ae e,ae e];refine⟨[0,0,0],rfl,?_⟩;simp only[ob,d4,d8,d16];rw[t];rfl
    ·rw[ab e,ab e];have u:=uR e;have F:=mg u;unfold rd3;by_cases n:twoN (S.drop (mkE S (mkE S (mkE S (mkE S (mkE S a+k)+1)+2)+1)))<2
     ·rw[ae n,ae n];(refine⟨_,?_,rfl⟩;rfl)
     ·rw[ab n,ab n];have G:∀(D E:aa) (P A B:List Int) (p:Nat),bC (m+300) (rdSt S 3 g l dg (x:Int) (s:Int) D E P A B p)=some (.inr (.inl (3,false,false,[],0,0,[],[],0,0,0,[0,0,0],[],0,0,g,l,dg,(x:Int),(s:Int),D,E,0,0,0,P,A,B,S,(p:Int),0))):=λ_ _ _ _ _ _=>rfl;show ∃P:List Int,P.length=3/\ob (av (bC (m+300)) (m+296+1) (rdSt S 3 g l dg (x:Int) (s:Int) _ _ _ _ _ _)) _=_;rw[av,G];refine⟨[0,0,0],rfl,?_⟩;simp only[ob,d4,d8,d16];rw[w];rfl
def Ws(n a:Nat)(q:a<65536):∃d,mG n (a:Int)=some d/\d.length=4/\∀c∈d,bv c=true:=by
 have i:Int.tmod (a:Int) 10000=((a%10000:Nat):Int):=rfl;have m:a%10000<10000:=ua _ (by decide);generalize a%10000=N at *;have o:Int.tdiv (N:Int) 1000=((N / 1000:Nat):Int):=rfl;have k:Int.tdiv (N:Int) 100=((N / 100:Nat):Int):=rfl;have h:Int.tdiv (N:Int) 10=((N / 10:Nat):Int):=rfl;have j:wrap .u16 ((N / 1000:Nat):Int)=((N / 1000:Nat):Int):=yy _ (by omega) (by omega);have p:wrap .u16 ((N / 100:Nat):Int)=((N / 100:Nat):Int):=yy _ (by omega) (by omega);have f:wrap .u16 ((N / 10:Nat):Int)=((N / 10:Nat):Int):=yy _ (by omega) (by omega);have m2:Int.tmod ((N / 100:Nat):Int) 10=((N / 100%10:Nat):Int):=rfl;have l:Int.tmod ((N / 10:Nat):Int) 10=((N / 10%10:Nat):Int):=rfl;have g:Int.tmod (N:Int) 10=((N%10:Nat):Int):=rfl;have s:∀r:Nat,r<10->wrap .u16 ((r:Int)+1)=((r+1:Nat):Int):=λr e=>by rw[yy _ (by omega) (by omega)];omega
 refine⟨[UInt8.ofNat (48+N / 1000),UInt8.ofNat (48+N / 100%10),UInt8.ofNat (48+N / 10%10),UInt8.ofNat (48+N%10)],?_,rfl,?_⟩
 ·simp only[mG,i,o,k,h,j,p,f,m2,l,g,s (N / 1000) (by omega),s (N / 100%10) (by omega),s (N / 10%10) (by omega),s (N%10) (by omega),de (show N / 1000+1<=10 by omega),de (show N / 1000<=N / 1000+1 by omega),de (show N / 100%10+1<=10 by omega),de (show N / 100%10<=N / 100%10+1 by omega),de (show N / 10%10+1<=10 by omega),de (show N / 10%10<=N / 10%10+1 by omega),de (show N%10+1<=10 by omega),de (show N%10<=N%10+1 by omega),ob,cutD (N / 1000) (by omega),cutD (N / 100%10) (by omega),cutD (N / 10%10) (by omega),cutD (N%10) (by omega)];rw[dm (by simp)];simp only[];rw[dm (by simp)];simp only[];rw[dm (by simp)];rfl
 ·have b:∀r:Nat,r<10->bv (UInt8.ofNat (48+r))=true:=λr e=>(cA _).2 (by rw[n9 e];omega);simp only[ck,nB,ov,Et,forall_eq];exact⟨b _ (by omega),b _ (by omega),b _ (by omega),b _ (by omega)⟩
def Ap(n:Nat)(g l:Bool)(d:aa)(x s:Int)(c:200<n)(e:d.length<=100)(h:okY false l d x s):∃b,(ob (dq n g l d x s) λr=>cond (r==0) (some (false,l,d,x,s)) (some (g,l,d,x,s)))=some (b,l,d,x,s)/\okY b l d x s:=by
 rw[FI n g l d x s c e];by_cases a:okY g l d x s
 ·rw[ae a];exact⟨g,rfl,a⟩
 ·rw[ab a];exact⟨false,rfl,h⟩
def zD{d:aa}{s:Int}(f:d.length=4)(g:∀c∈d,bv c=true\/c=88)(b:0<=s)(a:s<=4)(e:¬(0<s/\hasX d=true)):okY false false d 0 s:=by
 have:okS false d 0 s:=⟨f,g,rfl,by simp,b,a,e⟩;simpa[okY]using this
def V0(n:Nat)(a b:Int)(g:Bool)(d:aa)(A:d.length=4)(z:∀c∈d,bv c=true)(B:4<n):
  ∃s:aa,av (hO n) n (a,b,[],0,false,false,[],0,0,g,false,d,0,0)=some (s,false,false,[],0,0,g,false,d,0,0)/\s.length=4/\∀c∈s,bv c=true\/c=88:=by
 obtain⟨y,v,s,w,r,m⟩:=rI (step:=hO n) (λx=>∃(i:Nat) (s:aa),i<=4/\s.length=i/\(∀c∈s,bv c=true\/c=88)/\x=(a,b,s,(i:Int),false,false,[],0,0,g,false,d,0,0)) (λx=>4 - x.2.2.2.1.toNat) (λy=>∃s:aa,y=(s,false,false,[],0,0,g,false,d,0,0)/\s.length=4/\∀c∈s,bv c=true\/c=88) (by
  rintro x ⟨i,s,hi,hs,hc,rfl⟩;rcases aN i 4 with j | o
  ·obtain⟨c,f⟩:∃c,d[i]?=some c:=⟨d[i],ba (by omega)⟩;have t:decide ((i:Int)<4)=true:=ar (by omega);have u:wrap .i64 ((i:Int)+1)=((i+1:Nat):Int):=by rw[wd];omega
   have next:∀e:UInt8,(bv e=true\/e=88)->∃k,some (Sum.inl (a,b,s++[e],((i+1:Nat):Int),false,false,([]:aa),(0:Int),(0:Int),g,false,d,(0:Int),(0:Int)))=some (Sum.inl (β:=aa×Bool×Bool×aa×Int×Int×Bool×Bool×aa×Int×Int) k)/\(∃(i:Nat) (s:aa),i<=4/\s.length=i/\(∀c∈s,bv c=true\/c=88)/\k=(a,b,s,(i:Int),false,false,[],0,0,g,false,d,0,0))/\4 - k.2.2.2.1.toNat<4 - i:=by
    intro e p;refine⟨_,rfl,⟨i+1,s++[e],j,by simp[hs],?_,rfl⟩,by simp only[co];omega⟩;intro l h;rcases md.1 h with q | q
    ·exact hc l q
    ·simp only[ck,nB,ov]at q;rw[q];exact p
   simp only[hO,t,ah,u,co,de (show i+1<=d.length by omega),de (show i<=i+1 by omega),ob,cut1 f];rw[dm (a:=s) (b:=[88]) (by simp;omega),dm (a:=s) (b:=[c]) (by simp;omega)];simp only[];left;cases((i:Int)==a)
   ·cases((i:Int)==b)
    ·exact next c (.inl (z c (fR f)))
    ·exact next 88 (.inr rfl)
   ·exact next 88 (.inr rfl)
  ·have:i=4:=by omega
   subst this;exact .inr ⟨_,rfl,s,rfl,hs,hc⟩) n (a,b,[],0,false,false,[],0,0,g,false,d,0,0) ⟨0,[],by omega,rfl,by simp,rfl⟩ (by simp;omega)
 exact⟨s,by rw[v,w],r,m⟩
def cut9(r:Nat)(h:r<9):List.drop r (List.take (r+1) ([49,50,51,52,53,54,55,56,57]:aa))=[UInt8.ofNat (49+r)]:=by
 have:∀r,r<9->List.drop r (List.take (r+1) ([49,50,51,52,53,54,55,56,57]:aa))=[UInt8.ofNat (49+r)]:=by decide
 exact this r h
def J4{d:aa}{x s:Nat}(b:∀c∈d,bv c=true)(j:1<=d.length)(l:d.length<=5)(f:d.head?≠some 48)(i:x<=11)(g:x=0->d.length=5)(o:s<=d.length+x):okY false true d (x:Int) (s:Int):=by
 have a:=tR d 0 0 b (by simp);have hp:(10:Nat) ^ (d.length+0)<=10 ^ 5:=mK (by decide) (by omega);have h:(10:Nat) ^ x<=10 ^ 11:=mK (by decide) i;have n:=zy (Nat.le_of_lt (re a hp)) h;have e:(10:Nat) ^ 5*10 ^ 11=E16:=by decide
 have:okL d (x:Int) (s:Int):=⟨⟨b,j,by omega,f,by omega,by omega,by rintro⟨k,m⟩;have:=g (by omega);omega,by simp only[co];omega⟩,by omega,by omega⟩;simpa[okY]using this
def OW(m a0 a2 a b:Nat)(g:Bool)(h2:a2<65536)(Y:a<256)(h4:b<256):∃f l d x s,kD (m+300) (a0:Int) g (a2:Int) (a:Int) (b:Int)=some (f,l,d,x,s)/\okY f l d x s/\d.length<=5/\x<=11/\(a0%6≠3->hasX d=false):=by
 obtain⟨d,O,j,i⟩:=Ws (m+300) a2 h2;have v:∀c∈d,bv c=true\/c=88:=λc hc=>.inl (i c hc);have u:=wv i;unfold kD;rw[O];simp only[ob];cases U:(Int.tmod (a0:Int) 6==3)with
 | true=>
  simp only[ah];obtain⟨s,H,T,Q⟩:=V0 (m+300) (wrap .i64 (Int.tmod (a:Int) 4)) (wrap .i64 (Int.tmod (b:Int) 4)) g d j i (by omega);rw[H];obtain⟨f,k,h⟩:=Ap (m+300) g false s 0 0 (by omega) (by omega) (zD T Q (by omega) (by omega) (by omega))
  exact⟨f,false,s,0,0,k,h,by omega,by omega,λY=>absurd (by
   have e:=bA.1 U;have e2:Int.tmod (a0:Int) 6=((a0%6:Nat):Int):=rfl;omega) Y⟩
 | false=>
  simp only[af];cases(Int.tmod (a0:Int) 6==4)with
  | true=>
   simp only[ah];have e:Int.tmod (a:Int) 4=((a%4:Nat):Int):=rfl;have w1:wrap .i64 ((a%4:Nat):Int)=((a%4:Nat):Int):=wrap_i64 _ (by omega) (by omega);have w2:wrap .i64 (1+((a%4:Nat):Int))=((1+a%4:Nat):Int):=by rw[wd];omega
   rw[e,w1,w2];obtain⟨f,k,h⟩:=Ap (m+300) g false d 0 ((1+a%4:Nat):Int) (by omega) (by omega) (zD j v (by omega) (by omega) (by rw[u];simp));exact⟨f,false,d,0,_,k,h,by omega,by omega,λ_=>u⟩
  | false=>
   simp only[af];cases(Int.tmod (a0:Int) 6==5)with
   | false=>
    simp only[af];obtain⟨f,k,h⟩:=Ap (m+300) g false d 0 0 (by omega) (by omega) (zD j v (by omega) (by omega) (by omega));exact⟨f,false,d,0,0,k,h,by omega,by omega,λ_=>u⟩
   | true=>
    simp only[ah];have e9:Int.tmod (a:Int) 9=((a%9:Nat):Int):=rfl;have w9:wrap .u8 (((a%9:Nat):Int)+1)=((a%9+1:Nat):Int):=by rw[gJ _ (by omega) (by omega)];omega
    have e3:Int.tmod (b:Int) 3=((b%3:Nat):Int):=rfl;have e5:Int.tmod (b:Int) 5=((b%5:Nat):Int):=rfl;have Z:wrap .u8 (1+((b%5:Nat):Int))=((1+b%5:Nat):Int):=by rw[gJ _ (by omega) (by omega)];omega
    have R:Int.tdiv (b:Int) 16=((b / 16:Nat):Int):=rfl;have C:wrap .u8 ((b / 16:Nat):Int)=((b / 16:Nat):Int):=gJ _ (by omega) (by omega);have K:Int.tmod ((b / 16:Nat):Int) 11=((b / 16%11:Nat):Int):=rfl;have B:wrap .i64 ((b / 16%11:Nat):Int)=((b / 16%11:Nat):Int):=wrap_i64 _ (by omega) (by omega);have W:wrap .i64 (1+((b / 16%11:Nat):Int))=((1+b / 16%11:Nat):Int):=by rw[wd];omega
    have M:Int.tdiv (a:Int) 16=((a / 16:Nat):Int):=rfl;have J:wrap .u8 ((a / 16:Nat):Int)=((a / 16:Nat):Int):=gJ _ (by omega) (by omega);have N:wrap .i64 ((a / 16:Nat):Int)=((a / 16:Nat):Int):=wrap_i64 _ (by omega) (by omega);have V:UInt8.ofNat (49+a%9)≠48:=by
     intro q;have:=cf UInt8.toNat q;rw[show 49+a%9=48+(1+a%9)by omega,n9 (by omega)]at this;exact absurd this (by show¬48+(1+a%9)=48;omega)
    have n:bv (UInt8.ofNat (49+a%9))=true:=(cA _).2 (by rw[show 49+a%9=48+(1+a%9)by omega,n9 (by omega)];omega);rw[e9,w9,de (show a%9+1<=9 by omega)];simp only[];rw[de (show a%9<=a%9+1 by omega)];simp only[];rw[cut9 (a%9) (by omega),dm (by simp;omega)];simp only[];generalize S:[UInt8.ofNat (49+a%9)]++d=D;have A:D.length=5:=by rw[<-S];simp[j]
    have p:∀c∈D,bv c=true:=by
     rw[<-S];intro c hc;simp only[fK,eo,ck]at hc;rcases hc with rfl | hc
     ·exact n
     ·exact i c hc
    have y:D.head?≠some 48:=by rw[<-S];simpa using V
    rw[e3,e5,Z,R,C,K,B,W,M,J,N];by_cases h33:0<b%3
    ·have L:decide (((b%3:Nat):Int)>0)=true:=ar (by omega);rw[L,ah,de (show 1+b%5<=D.length by omega)];simp only[cM];generalize I:List.take (1+b%5) D=E;have hEl:E.length=1+b%5:=by rw[<-I,dN];omega
     have z:∀c∈E,bv c=true:=by rw[<-I];exactλc hc=>p c (List.mem_of_mem_take hc)
     have F:E.head?≠some 48:=by
      rw[<-I];cases D with
      | nil=>simp at A
      | cons c r=>rw[qP,ox];simpa using y
     generalize hX:1+b / 16%11=X;have w:X<=11:=by omega
     have hX1:1<=X:=by omega
     have G:wrap .i64 (wrap .i64 ((E.length:Int)+(X:Int))+1)=((E.length+X+1:Nat):Int):=by
      rw[wrap_i64 ((E.length:Int)+(X:Int)) (by omega) (by omega),wd];omega
     have o:(((E.length+X+1:Nat):Int)==0)=false:=aL.2 (by omega);rw[G,o,af];have P:Int.tmod ((a / 16:Nat):Int) ((E.length+X+1:Nat):Int)=((a / 16%(E.length+X+1):Nat):Int):=rfl;rw[P];have t:a / 16%(E.length+X+1)<E.length+X+1:=ua _ (by omega);generalize a / 16%(E.length+X+1)=s at t ⊢;obtain⟨f,k,h⟩:=Ap (m+300) g true E (X:Int) (s:Int) (by omega) (by omega) (J4 z (by omega) (by omega) F w (by omega) (by omega));exact⟨f,true,E,_,_,k,h,by omega,by omega,λ_=>wv z⟩
    ·have L:decide (((b%3:Nat):Int)>0)=false:=au (by omega);rw[L,af,A];have G:wrap .i64 (wrap .i64 (((5:Nat):Int)+0)+1)=((6:Nat):Int):=by decide
     have o:(((6:Nat):Int)==0)=false:=rfl;rw[G,o,af];have P:Int.tmod ((a / 16:Nat):Int) ((6:Nat):Int)=((a / 16%6:Nat):Int):=rfl;rw[P];have t:a / 16%6<6:=ua _ (by omega);generalize a / 16%6=s at t ⊢;obtain⟨f,k,h⟩:=Ap (m+300) g true D ((0:Nat):Int) (s:Int) (by omega) (by omega) (J4 p (by omega) (by omega) y (by omega) (by omega) (by omega));exact⟨f,true,D,_,_,k,h,by omega,by omega,λ_=>wv p⟩
def abA(m a0 a2 b c:Nat)(g:Bool)(f:a2<65536)(j:b<256)(i:c<256):∃a l d x s,kD (m+300) (a0:Int) g (a2:Int) (b:Int) (c:Int)=some (a,l,d,x,s)/\okY a l d x s/\d.length<=5/\x<=11:=by
 obtain⟨a,l,d,x,s,e,h,k,f,_⟩:=OW m a0 a2 b c g f j i;exact⟨a,l,d,x,s,e,h,k,f⟩
def wq{g l:Bool}{d:aa}{x s:Nat}(h:okY g l d (x:Int) (s:Int)):(fZ g l d (x:Int) (s:Int)).length<=25:=by
 have hs:=gR h;have a:=zQ 69 (show x<100 by omega);have c:=zQ 83 (show s<100 by omega);rw[ir];simp only[aV];have e:(if l=true then([89]:aa)else[]).length<=1:=by split<;>simp
 have b:(if g=true then([45]:aa)else[]).length<=1:=by split<;>simp
 omega
end Go.Sh
