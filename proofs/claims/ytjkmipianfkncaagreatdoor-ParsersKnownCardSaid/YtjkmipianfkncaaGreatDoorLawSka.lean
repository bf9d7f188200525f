
import Derived.Laws.RangeString
import Derived.Laws.RangeAny
import Derived.Test.YtjkmipianfkncaaGreatDoorShK
import Derived.Lib.IndexLaws
import Derived.Test.YtjkmipianfkncaaGreatDoorAbsZ
set_option linter.unusedVariables false
set_option linter.unusedSimpArgs false
set_option maxRecDepth 100000
open Go.IntKind(wrap)
set_option linter.defProp false
namespace Go.Sh
open Go.Abs
def fK{X Y:Type}{step:X->Option (X⊕Y)}(I:X->Prop)(b:X->Nat)(G:X->Y)
  (h:∀x,I x->(∃a,step x=some (.inl a)/\I a/\b a<b x/\G a=G x)\/step x=some (.inr (G x))):
  ∀(n:Nat) (x:X),I x->b x<n->au step n x=some (G x)
 | 0,x,_,e=>by omega
 | n+1,x,hx,e=>by
  rcases h x hx with⟨a,c,f,g,d⟩ | c
  ·simp only[au,c];rw[fK I b G h n a f (by omega),d]
  ·simp only[au,c]
def rq{X Y:Type}{step:X->Option (X⊕Y)}(I:X->Prop)(b:X->Nat)(Q:Y->Prop)
  (h:∀x,I x->(∃a,step x=some (.inl a)/\I a/\b a<b x)\/∃y,step x=some (.inr y)/\Q y):
  ∀(n:Nat) (x:X),I x->b x<n->∃y,au step n x=some y/\Q y
 | 0,x,_,e=>by omega
 | n+1,x,hx,e=>by
  rcases h x hx with⟨a,c,d,f⟩ | ⟨y,c,d⟩
  ·simp only[au,c];exact rq I b Q h n a d (by omega)
  ·exact⟨y,by simp only[au,c],d⟩
def Ek{X Y:Type}{step:X->Option (X⊕Y)}{f:Nat->X}{y:Y}:∀{m n:Nat},(∀i,i<m->step (f i)=some (.inl (f (i+1))))->step (f m)=some (.inr y)->m<n->au step n (f 0)=some y:=by
 intro m n h b a;have c:∀(j i:Nat),i+j=m->∀n,j<n->au step n (f i)=some y:=by
  intro j
  induction j with
  | zero=>
   intro i hi n a;obtain⟨n,rfl⟩:∃q,n=q+1:=⟨n - 1,by omega⟩;have:i=m:=by omega
   subst this;simp[au,b]
  | succ j ih=>
   intro i hi n a;obtain⟨n,rfl⟩:∃q,n=q+1:=⟨n - 1,by omega⟩;simp only[au,h i (by omega)];exact ih (i+1) (by omega) n (by omega)
 exact c m 0 (by omega) n a
def BG(x:Int):0<=wrap .u8 x/\wrap .u8 x<256:=by
 show 0<=x%256/\x%256<256;omega
def ke(x:Int)(b:0<=x)(a:x<256):wrap .u8 x=x:=by
 show x%256=x;omega
def H7(x:Int):wrap .u8 x=x%256:=rfl
def wrap_i64(x:Int)(b:-9223372036854775808<=x)(a:x<9223372036854775808):wrap .i64 x=x:=by
 simp only[wrap,IntKind.signed,IntKind.bits];simp;omega
def dE{l:aa}{i:Nat}{c:UInt8}(h:l[i]?=some c):sx l (i:Int)=some c:=by
 simp[sx,h]
def dW{n i:Nat}(h:i<n):ix n (i:Int)=some i:=by
 simp[ix];omega
def fC{n i:Nat}(h:i<=n):bx n (i:Int)=some i:=by
 simp[bx];omega
def Be{l:aa}{i:Nat}{c:UInt8}(h:l[i]?=some c)(hc:c.toNat<128):dec l i=(c.toNat,1):=by
 have hlt:i<l.length:=by
  rcases aF i l.length with h' | h'
  ·exact h'
  ·rw[gU h']at h;cases h
 have hs:i<(ByteArray.mk l.toArray).size:=hlt;have hg:(ByteArray.mk l.toArray)[i]'hs=c:=by
  rw[bf hlt]at h;simp only[ar]at h;exact h
 unfold dec;rw[decode_ascii _ i hs (by rw[hg];exact hc),hg]
def Hv{l:aa}{i:Nat}{c:UInt8}(h:l[i]?=some c)(hc:128<=c.toNat):128<=(dec l i).1/\1<=(dec l i).2:=by
 have hlt:i<l.length:=by
  rcases aF i l.length with h' | h'
  ·exact h'
  ·rw[gU h']at h;cases h
 have hs:i<(ByteArray.mk l.toArray).size:=hlt;have hg:(ByteArray.mk l.toArray)[i]'hs=c:=by
  rw[bf hlt]at h;simp only[ar]at h;exact h
 unfold dec;exact decode_high _ i hs (by rw[hg];exact hc)
def tj{α:Type}{l:List α}{i:Nat}{c:α}(h:l[i]?=some c):i<l.length:=by
 rcases aF i l.length with a | a
 ·exact a
 ·rw[gU a]at h;cases h
def bR{α:Type}{l:List α}{i:Nat}{c:α}(h:l[i]?=some c):l.drop i=c::l.drop (i+1):=by
 have a:=tj h;rw[bf a]at h;simp only[ar]at h;rw[<-h,qQ a]
def jP{α c:Type}[BEq α][LawfulBEq α][DecidableEq α](a b:α)(x y:c):(cond (a==b) x y)=if a=b then x else y:=by
 by_cases h:a=b
 ·subst h;simp
 ·rw[aK.2 h];simp[h]
def HS{α c:Type}[BEq α][LawfulBEq α][DecidableEq α](a b:α)(x y:c):(cond (a != b) x y)=if a=b then y else x:=by
 by_cases h:a=b
 ·subst h;simp
 ·rw[bne,aK.2 h];simp[h]
def bC{a:Type}(p:Prop)[Decidable p](x y:a):(cond (decide p) x y)=if p then x else y:=by
 by_cases h:p<;>simp[h]
def Gf{a:Type}(b:Bool)(x y:a):(cond (!b) x y)=cond b y x:=by cases b<;>rfl
def iO(a b:Nat):(decide (((a:Nat):Int)<((b:Nat):Int)))=decide (a<b):=by
 by_cases h:a<b<;>simp[h]
def lB(a b:Nat):(decide (((a:Nat):Int)>=((b:Nat):Int)))=decide (b<=a):=by
 by_cases h:b<=a<;>simp[h]
def nM(c d:UInt8):((((c.toNat:Nat):Int))==((d.toNat:Nat):Int))=(c==d):=by
 by_cases h:c=d
 ·subst h;simp
 ·have b:c.toNat≠d.toNat:=λe=>h (gu.1 e);have a:((c.toNat:Nat):Int)≠((d.toNat:Nat):Int):=by omega
  rw[aK.2 a,aK.2 h]
def Wx(c:UInt8):UInt8.ofNat (Int.toNat ((c.toNat:Nat):Int))=c:=by simp
def two(c:Nat):aa:=[UInt8.ofNat (48+c / 10),UInt8.ofNat (48+c%10)]
def sea(m:aa):Int:=match(List.range 21).find? (λj=>m==two (21+j))with | some j=>((21+j:Nat):Int) | none=>0
def lG{j:Nat}(a:j<21):sea (two (21+j))=((21+j:Nat):Int):=by
 have:((List.range 21).all λj=>sea (two (21+j))==((21+j:Nat):Int))=true:=by decide +kernel
 simpa using(List.all_eq_true.1 this) j (by simpa using a)
def oW(m:aa):sea m=0\/∃j,j<21/\m=two (21+j):=by
 unfold sea;split
 ·rename_i j h;have a:=List.find?_some h;have b:=List.mem_of_find?_eq_some h;exact .inr ⟨j,by simpa using b,by simpa using a⟩
 ·exact .inl rfl
def pq{b:UInt8}{d:Nat}(h:Lib.digitVal b=some d):d<10/\b.toNat=48+d:=by
 unfold Lib.digitVal at h;split at h
 ·cases h;omega
 ·cases h
def NS{a b:UInt8}{v:Int}(h:Lib.atoi [a,b]=some v)(n:21<=v)(p:v<42):∃j,j<21/\[a,b]=two (21+j)/\v=((21+j:Nat):Int):=by
 obtain⟨b0,r,e,k⟩:=Lib.atoi_cases h;cases e;rcases k with⟨_,m,_,_,g⟩ | ⟨_,m,_,c,g⟩ | ⟨_,_,m,c,g⟩
 ·omega
 ·simp only[Lib.decFrom]at c;split at c
  ·rename_i d hd;have:=(pq hd).1;simp only[ar]at c;omega
  ·cases c
 ·simp only[Lib.decFrom]at c;split at c
  ·rename_i d hd;split at c
   ·rename_i d' f;obtain⟨k1,k2⟩:=pq hd;obtain⟨o,k4⟩:=pq f;simp only[ar]at c;refine⟨m - 21,by omega,?_,by omega⟩;have l:(21+(m - 21)) / 10=d:=by omega
    have i:(21+(m - 21))%10=d':=by omega
    unfold two;rw[l,i,<-k2,<-k4];simp
   ·cases c
  ·cases c
def xB{j:Nat}(a:j<21):Lib.atoi (two (21+j))=some ((21+j:Nat):Int):=by
 have:((List.range 21).all λj=>Lib.atoi (two (21+j))==some ((21+j:Nat):Int))=true:=by decide +kernel
 simpa using(List.all_eq_true.1 this) j (by simpa using a)
def qM(n:Nat)(g l:Bool)(dg:aa)(x q:Int)(m d:aa)(k0 k1 k2:Int)(k:m.length<=18):bN n g l dg x q m d k0 k1 k2=some (sea m,decide (0<sea m)):=by
 have h:Nat.ble m.length 18=true:=dT k;rcases oW m with i | ⟨j,c,rfl⟩
 ·unfold bN;rw[h,i];show opt (Lib.atoi m) _ _=_;cases o:Lib.atoi m with
  | none=>rfl
  | some v=>
   show cond _ _ _=_;by_cases f:m.length=2
   ·rw[f];obtain⟨a,b,rfl⟩:∃a b,m=[a,b]:=by
     match m,f with
     | [a,b],_=>exact⟨a,b,rfl⟩
    show ob (dH n v) _=_;unfold dH;rw[bC,bC];split
    ·rfl
    ·split
     ·rfl
     ·exfalso;obtain⟨j,c,e,_⟩:=NS o (by omega) (by omega);rw[e,lG c]at i;omega
   ·rw[show(((m.length:Nat):Int) != 2)=true by simp;omega];rfl
 ·rw[lG c];have e:bN n g l dg x q (two (21+j)) d k0 k1 k2=some (((21+j:Nat):Int),true):=by
   unfold bN;rw[h,xB c];show ob (dH n ((21+j:Nat):Int)) _=_;unfold dH;rw[bC,bC,ab (by omega),ab (by omega)];rfl
  rw[e];have:decide (0<((21+j:Nat):Int))=true:=by simp;omega
  rw[this]
def KQ(n:Nat){c:Nat}(hc:c<100):gD n (c:Int)=some (two c):=by
 have d:Int.tdiv (c:Int) 10=((c / 10:Nat):Int):=by
  rw[show(10:Int)=((10:Nat):Int)from rfl,<-Int.ofNat_tdiv]
 have k:Int.tmod (c:Int) 10=((c%10:Nat):Int):=by
  rw[show(10:Int)=((10:Nat):Int)from rfl,<-Int.ofNat_tmod]
 have g:c / 10<10:=by omega
 have h:c%10<10:=by omega
 unfold gD;rw[d,k];have j:wrap .i64 ((c / 10:Nat):Int)=((c / 10:Nat):Int):=wrap_i64 _ (by omega) (by omega);have f:wrap .i64 (((c / 10:Nat):Int)+1)=((c / 10+1:Nat):Int):=by rw[wrap_i64 _ (by omega) (by omega)];omega
 have i:wrap .i64 (((c%10:Nat):Int)+1)=((c%10+1:Nat):Int):=by rw[wrap_i64 _ (by omega) (by omega)];omega
 rw[j,f,i,fC (by omega),fC (by omega)];show ob (bx (c / 10+1) ((c / 10:Nat):Int)) _=_;rw[fC (by omega)];show ob (bx (c%10+1) ((c%10:Nat):Int)) _=_;rw[fC (by omega)];unfold two;generalize c / 10=a at *;generalize c%10=b at *;have:((List.range 10).all λa=>(List.range 10).all λb=>ob (cat (List.drop a (List.take (a+1) ([48,49,50,51,52,53,54,55,56,57]:aa))) (List.drop b (List.take (b+1) ([48,49,50,51,52,53,54,55,56,57]:aa)))) (λs=>some s)==some [UInt8.ofNat (48+a),UInt8.ofNat (48+b)])=true:=by decide +kernel
 have e:=(cE.1 ((cE.1 this) a (by simpa using g))) b (by simpa using h);simpa using e
def O6{m:aa}(h:∀j,j<21->m≠two (21+j)):sea m=0:=by
 rcases oW m with b | ⟨j,a,e⟩
 ·exact b
 ·exact absurd e (h j a)
def xu(n:Nat)(g l:Bool)(dg:aa)(x q:Int)(m d:aa)(k0 k1 k2:Int):∀(r j:Nat),j+r=21->(∀i,i<j->m≠two (21+i))->∀N,r<N->
  au (bK n) N (((21+j:Nat):Int),g,l,dg,x,q,m,d,k0,k1,k2)=some (if sea m=0 then .inr ()else .inl (sea m)):=by
 intro r
 induction r with
 | zero=>
  intro j e a N c;obtain⟨N,rfl⟩:∃k,N=k+1:=⟨N - 1,by omega⟩;have hs:sea m=0:=O6 (λi hi=>a i (by omega));rw[au];have:bK n (((21+j:Nat):Int),g,l,dg,x,q,m,d,k0,k1,k2)=some (.inr (.inr ())):=by
   unfold bK;rw[bC,ab (by show¬(((21+j:Nat):Int)<=41);omega)]
  rw[this,ae hs]
 | succ r ih=>
  intro j e a N c;obtain⟨N,rfl⟩:∃k,N=k+1:=⟨N - 1,by omega⟩;rw[au];by_cases b:m=two (21+j)
  ·have hs:sea m=((21+j:Nat):Int):=by rw[b];exact lG (by omega)
   have:bK n (((21+j:Nat):Int),g,l,dg,x,q,m,d,k0,k1,k2)=some (.inr (.inl ((21+j:Nat):Int))):=by
    unfold bK;rw[bC,ae (by show((21+j:Nat):Int)<=41;omega)];show ob (gD n ((21+j:Nat):Int)) _=_;rw[KQ n (by omega)];show cond (m==two (21+j)) _ _=_;rw[jP,ae b]
   rw[this,hs,ab (by omega)]
  ·have:bK n (((21+j:Nat):Int),g,l,dg,x,q,m,d,k0,k1,k2)=some (.inl (((21+(j+1):Nat):Int),g,l,dg,x,q,m,d,k0,k1,k2)):=by
    unfold bK;rw[bC,ae (by show((21+j:Nat):Int)<=41;omega)];show ob (gD n ((21+j:Nat):Int)) _=_;rw[KQ n (by omega)];show cond (m==two (21+j)) _ _=_;rw[jP,ab b];have:wrap .i64 (((21+j:Nat):Int)+1)=((21+(j+1):Nat):Int):=by rw[wrap_i64 _ (by omega) (by omega)];omega
    show some (Sum.inl (wrap .i64 (((21+j:Nat):Int)+1),_))=_;rw[this]
   rw[this]
   exact ih (j+1) (by omega) (λi hi=>by
    rcases aF i j with h | h
    ·exact a i h
    ·have:i=j:=by omega
     rw[this];exact b) N (by omega)
def oQ(n:Nat)(a:100<n)(g l:Bool)(dg:aa)(x q:Int)(m d:aa)(k0 k1 k2:Int):aO n g l dg x q m d k0 k1 k2=some (sea m):=by
 unfold aO;have:=xu n g l dg x q m d k0 k1 k2 21 0 rfl (λi hi=>absurd hi (by omega)) n (by omega);rw[show((21+0:Nat):Int)=21 from rfl]at this;rw[this];by_cases h:sea m=0
 ·rw[ae h,h];rfl
 ·rw[ab h];rfl
def agr(s:aa)(k:Nat):Bool:=match s with
 | [a,b]=>(a==88||a==UInt8.ofNat (48+k / 10))&&(b==88||b==UInt8.ofNat (48+k%10))
 | _=>false
def hO(s:aa)(g:Nat):Bool:=(List.range g).any λi=>agr s (i+1)
def GA{X Y:Type}{step:X->Option (X⊕Y)}{f:Nat->X}{p:Nat->Bool}{g:Nat}{yes no:Y}(h:∀k,1<=k->k<=g->step (f k)=some (if p k then .inr yes else .inl (f (k+1))))(c:step (f (g+1))=some (.inr no)){N:Nat}(b:g<N):
  au step N (f 1)=some (if(List.range g).any (λi=>p (i+1))then yes else no):=by
 have e:∀(r j:Nat),j+r=g->(∀i,i<j->p (i+1)=false)->∀N,r<N->au step N (f (j+1))=some (if(List.range g).any (λi=>p (i+1))then yes else no):=by
  intro r
  induction r with
  | zero=>
   intro j d a N b;obtain⟨N,rfl⟩:∃k,N=k+1:=⟨N - 1,by omega⟩;have:(List.range g).any (λi=>p (i+1))=false:=by
    rw[rU];intro i hi;rw[a i (by have:=kB.1 hi;omega)];simp
   rw[au,show j+1=g+1 by omega,c,this];rfl
  | succ r ih=>
   intro j d a N b;obtain⟨N,rfl⟩:∃k,N=k+1:=⟨N - 1,by omega⟩;rw[au,h (j+1) (by omega) (by omega)];cases hp:p (j+1)with
   | true=>
    have:(List.range g).any (λi=>p (i+1))=true:=tz.2 ⟨j,kB.2 (by omega),hp⟩;rw[this];rfl
   | false=>
    exact ih (j+1) (by omega) (λi hi=>by
     rcases aF i j with h | h
     ·exact a i h
     ·have:i=j:=by omega
      rw[this];exact hp) N (by omega)
 exact e g 0 (by omega) (λi hi=>absurd hi (by omega)) N b
def va{a:UInt8}{k:Nat}(b:k<256):((((a.toNat:Nat):Int))==((k:Nat):Int))=(a==UInt8.ofNat k):=by
 have h:(UInt8.ofNat k).toNat=k:=by simp;omega
 rw[<-nM,h]
def NV(n:Nat)(a b:UInt8){g k:Nat}(r:1<=k)(s:k<=g)(q:g<=31):
  dh n ([a,b],(g:Int),(k:Int))=some (if agr [a,b] k then .inr (.inl true)else .inl ([a,b],(g:Int),((k+1:Nat):Int))):=by
 have e:Int.tdiv (k:Int) 10=((k / 10:Nat):Int):=by
  rw[show(10:Int)=((10:Nat):Int)from rfl,<-Int.ofNat_tdiv]
 have p:Int.tmod (k:Int) 10=((k%10:Nat):Int):=by
  rw[show(10:Int)=((10:Nat):Int)from rfl,<-Int.ofNat_tmod]
 have o:wrap .u8 (48+wrap .u8 (wrap .i64 (Int.tdiv (k:Int) 10)))=((48+k / 10:Nat):Int):=by
  rw[e,wrap_i64 _ (by omega) (by omega),ke ((k / 10:Nat):Int) (by omega) (by omega),ke _ (by omega) (by omega)];omega
 have i:wrap .u8 (48+wrap .u8 (Int.tmod (k:Int) 10))=((48+k%10:Nat):Int):=by
  rw[p,ke ((k%10:Nat):Int) (by omega) (by omega),ke _ (by omega) (by omega)];omega
 have m:wrap .i64 ((k:Int)+1)=((k+1:Nat):Int):=by rw[wrap_i64 _ (by omega) (by omega)];omega
 have c:(88:Int)=((88:Nat):Int):=rfl;have s0:sx [a,b] 0=some a:=rfl;have l:sx [a,b] 1=some b:=rfl;unfold dh;rw[bC,ae (show(k:Int)<=(g:Int)by omega)];simp only[s0,l,ob,o,i,m];rw[c,va (by omega),va (by omega),va (by omega),va (by omega)];show _=some (if((a==UInt8.ofNat 88||a==UInt8.ofNat (48+k / 10))&&(b==UInt8.ofNat 88||b==UInt8.ofNat (48+k%10)))=true then _ else _);generalize(a==UInt8.ofNat 88)=d;generalize(b==UInt8.ofNat 88)=j;generalize(a==UInt8.ofNat (48+k / 10))=h;generalize(b==UInt8.ofNat (48+k%10))=f;cases d<;>cases j<;>cases h<;>cases f<;>rfl
def DD(n:Nat)(m:100<n)(s:aa)(g:Nat)(d:g<=31):dc n s (g:Int)=some (hO s g):=by
 unfold dc;by_cases c:s.length=2
 ·obtain⟨a,b,rfl⟩:∃a b,s=[a,b]:=by
   match s,c with
   | [a,b],_=>exact⟨a,b,rfl⟩
  have e:dh n ([a,b],(g:Int),((g+1:Nat):Int))=some (.inr (.inr ())):=by
   unfold dh;rw[bC,ab (show¬((g+1:Nat):Int)<=(g:Int)by omega)]
  have:=GA (f:=λk=>([a,b],(g:Int),((k:Nat):Int))) (p:=agr [a,b]) (g:=g) (N:=n) (λk j l=>NV n a b j l d) e (by omega);show ob (au (dh n) n ([a,b],(g:Int),((1:Nat):Int))) _=_;rw[this];unfold hO;split<;>simp_all[ob]
 ·rw[show(((s.length:Nat):Int) != 2)=true by simp;omega];have:hO s g=false:=by
   unfold hO;rw[rU];intro i _
   match s,c with
   | [],_=>simp[agr]
   | [_],_=>simp[agr]
   | [_,_],h=>exact absurd rfl h
   | _::_::_::_,_=>simp[agr]
  rw[this];rfl
def uM(n:Nat)(s:aa)(k:Nat)(f:k<100):ei n s (k:Int)=some (if agr s k then 1 else 0):=by
 unfold ei;rw[KQ n f];show cond _ _ _=_;by_cases d:s.length=2
 ·obtain⟨a,b,rfl⟩:∃a b,s=[a,b]:=by
   match s,d with
   | [a,b],_=>exact⟨a,b,rfl⟩
  have s0:sx [a,b] 0=some a:=rfl;have m:sx [a,b] 1=some b:=rfl;have j:sx (two k) 0=some (UInt8.ofNat (48+k / 10)):=rfl;have o:sx (two k) 1=some (UInt8.ofNat (48+k%10)):=rfl;have c:(88:Int)=((88:Nat):Int):=rfl;rw[show(((([a,b]:aa).length:Nat):Int)==2)=true from rfl];simp only[s0,m,j,o,ob,aj];rw[c,va (by omega),va (by omega),nM,nM];show _=some (if((a==UInt8.ofNat 88||a==UInt8.ofNat (48+k / 10))&&(b==UInt8.ofNat 88||b==UInt8.ofNat (48+k%10)))=true then _ else _);generalize(a==UInt8.ofNat 88)=e;generalize(b==UInt8.ofNat 88)=l;generalize(a==UInt8.ofNat (48+k / 10))=i;generalize(b==UInt8.ofNat (48+k%10))=g;cases e<;>cases l<;>cases i<;>cases g<;>rfl
 ·rw[show(((s.length:Nat):Int)==2)=false by simp;omega];have:agr s k=false:=by
   match s,d with
   | [],_=>rfl
   | [_],_=>rfl
   | [_,_],h=>exact absurd rfl h
   | _::_::_::_,_=>rfl
  rw[this];rfl
def GQ(n:Nat)(h:100<n)(s:aa)(g:Nat)(c:g<=31):dL n s (g:Int)=some (if hO s g then 1 else 0):=by
 unfold dL;have a:dG n (s,(g:Int),((g+1:Nat):Int))=some (.inr (.inr ())):=by
  unfold dG;rw[bC,ab (show¬((g+1:Nat):Int)<=(g:Int)by omega)]
 have:=GA (f:=λk=>(s,(g:Int),((k:Nat):Int))) (p:=agr s) (g:=g) (N:=n) (step:=dG n) (yes:=.inl 1) (no:=.inr ()) (λk d e=>by
  unfold dG;rw[bC,ae (show(k:Int)<=(g:Int)by omega)];show ob (ei n s (k:Int)) _=_;rw[uM n s k (by omega)];have b:wrap .i64 ((k:Int)+1)=((k+1:Nat):Int):=by rw[wrap_i64 _ (by omega) (by omega)];omega
  simp only[ob,b];cases agr s k<;>rfl) a (by omega)
 show ob (au (dG n) n (s,(g:Int),((1:Nat):Int))) _=_;rw[this];unfold hO;split<;>simp_all[ob]
def yo(n:Nat){a b:Int}(u:1<b)(j:b<1000)(r:-4611686018427387904<=a)(q:a<4611686018427387904):lR n a b=some (a / b,0):=by
 have i:(b==0)=false:=by simp;omega
 have p:(b==-1)=false:=by simp;omega
 unfold lR;simp only[i,p,af];have s:a / b*b+a%b=a:=Int.ediv_mul_add_emod a b;have t:=Jj a (show b≠0 by omega);have l:=KH a (show 0<b by omega);have o:-4611686018427387904<=a / b:=by
  rw[Int.le_ediv_iff_mul_le (by omega)];have:(-4611686018427387904:Int)*b<=-4611686018427387904*1:=Int.mul_le_mul_of_nonpos_left (by omega) (by omega);omega
 have k:a / b<4611686018427387904:=by
  rw[Int.ediv_lt_iff_lt_mul (by omega)];have:(4611686018427387904:Int)*1<=4611686018427387904*b:=Int.mul_le_mul_of_nonneg_left (by omega) (by omega);omega
 by_cases d:0<=a
 ·have c:Int.tdiv a b=a / b:=Qz d;have f:decide (a<0)=false:=by simp;omega
  have d2:decide (b<0)=false:=by simp;omega
  rw[c,f,d2,wrap_i64 (a / b) (by omega) (by omega)];cases(Int.tmod a b != 0)<;>rfl
 ·have f:decide (a<0)=true:=by simp;omega
  have d2:decide (b<0)=false:=by simp;omega
  have c:=Int.tdiv_eq_ediv (a:=a) (b:=b);have g:=JB (a:=a) (b:=b);rw[f,d2];by_cases hd:b∣a
  ·have e:Int.tmod a b=0:=by
    rw[g,ae (.inr hd)];have:=Int.emod_eq_zero_of_dvd hd;omega
   rw[e,c,ae (.inr hd)];rw[Int.add_zero,wrap_i64 (a / b) (by omega) (by omega)];rfl
  ·have m:a%b≠0:=λh=>hd (Jq h);have e:(Int.tmod a b != 0)=true:=by
    rw[g,ab (by rintro(h | h);exact d h;exact hd h)];simp;omega
   have hs:b.sign=1:=Int.sign_eq_one_of_pos (by omega);rw[e,c,ab (by rintro(h | h);exact d h;exact hd h),hs];rw[wrap_i64 (a / b+1) (by omega) (by omega),Int.add_sub_cancel,wrap_i64 (a / b) (by omega) (by omega)];rfl
def VP(n:Nat){a b:Int}(o:1<b)(f:b<1000):vC n a b=some (a%b,0):=by
 have e:(b==0)=false:=by simp;omega
 have k:(b==-1)=false:=by simp;omega
 unfold vC;simp only[e,k,af];have m:=Jj a (show b≠0 by omega);have g:=KH a (show 0<b by omega);have c:=JB (a:=a) (b:=b);have d2:decide (b<0)=false:=by simp;omega
 by_cases hc:0<=a\/b∣a
 ·rw[ae hc]at c;have:Int.tmod a b=a%b:=by omega
  rw[this,d2];have d:decide (a%b<0)=false:=by simp;omega
  rw[d];cases h:(a%b != 0)
  ·rfl
  ·rfl
 ·rw[ab hc]at c;have l:(b.natAbs:Int)=b:=by omega
  rw[l]at c;have i:a%b≠0:=λh=>hc (.inr (Jq h));have j:(Int.tmod a b != 0)=true:=by simp;omega
  have d:decide (Int.tmod a b<0)=true:=by simp;omega
  rw[j,d,d2,c,wrap_i64 _ (by omega) (by omega),JD];rfl
def dU(y:Int):Prop:=-10000000000000000<=y/\y<=10000000000000000
instance (y:Int):Decidable (dU y):=by unfold dU;infer_instance
def gA(n:Nat)(y:Int):ja n y=some (if dU y then 0 else 6):=by
 unfold ja;rw[bC,bC];by_cases a:y < -10000000000000000
 ·rw[ae a,ab (show¬dU y by unfold dU;omega)]
 ·by_cases b:y>10000000000000000
  ·rw[ab a,ae b,ab (show¬dU y by unfold dU;omega)]
  ·rw[ab a,ab b,ae (show dU y by unfold dU;omega)]
def so(n:Nat){y:Int}(h:-20000000000000000<=y/\y<=20000000000000000):∃z,fA n y=some z:=by
 unfold fA;rw[wrap_i64 (y - 1) (by omega) (by omega),yo n (by omega) (by omega) (by omega) (by omega),yo n (by omega) (by omega) (by omega) (by omega),yo n (by omega) (by omega) (by omega) (by omega)];exact⟨_,rfl⟩
def Js(n:Nat){y:Int}(h:dU y):∃b e,km n y=some (b,e):=by
 unfold km;have h':=h;unfold dU at h';obtain⟨z1,c⟩:=so n (y:=y+1) (by omega);obtain⟨z2,a⟩:=so n (y:=y) (by omega);rw[gA,ae h,wrap_i64 (y+1) (by omega) (by omega),c,a];exact⟨_,_,rfl⟩
def sF(n:Nat){y:Int}(h:dU y){m:Nat}(c:1<=m)(d:m<=12):∃v,ew n y (m:Int)=some v:=by
 unfold ew;obtain⟨b,e,a⟩:=Js n h;rw[a];show ∃v,cond (b&&((m:Int)==2)) _ _=some v;cases(b&&((m:Int)==2))with
 | true=>exact⟨_,rfl⟩
 | false=>
  have:wrap .i64 ((m:Int) - 1)=((m - 1:Nat):Int):=by rw[wrap_i64 _ (by omega) (by omega)];omega
  rw[this,dW (by omega)];have a:vQ.length=12:=rfl;exact⟨_,bf (show m - 1<vQ.length by omega)⟩
def HM(n:Nat){y:Int}(h:dU y){m:Nat}(a:1<=m)(b:m<=12):ku n y (m:Int)=some 0:=by
 unfold ku;rw[gA,ae h];show cond (decide ((m:Int)<1)) _ _=_;rw[bC,bC,ab (by omega),ab (by omega)]
def IE(n:Nat){y:Int}(h:dU y){m:Nat}(e:m<=11):∀(r j:Nat),j+r=m->∀(a:Int) (N:Nat),r<N->∃v,au (bD n) N (y,a,(m:Int),(j:Int))=some v:=by
 intro r
 induction r with
 | zero=>
  intro j d a N b;obtain⟨N,rfl⟩:∃k,N=k+1:=⟨N - 1,by omega⟩;have:bD n (y,a,(m:Int),(j:Int))=some (.inr a):=by
   unfold bD;rw[bC,ab (show¬((j:Int)<(m:Int))by omega)]
  rw[au,this];exact⟨_,rfl⟩
 | succ r ih=>
  intro j d a N b;obtain⟨N,rfl⟩:∃k,N=k+1:=⟨N - 1,by omega⟩;obtain⟨v,c⟩:=sF n h (m:=j+1) (by omega) (by omega);have w:wrap .i64 ((j:Int)+1)=((j+1:Nat):Int):=by rw[wrap_i64 _ (by omega) (by omega)];omega
  have:bD n (y,a,(m:Int),(j:Int))=some (.inl (y,wrap .i64 (a+v),(m:Int),((j+1:Nat):Int))):=by
   unfold bD;rw[bC,ae (show((j:Int)<(m:Int))by omega)];simp only[w,c,ob]
  rw[au,this];exact ih (j+1) (by omega) _ N (by omega)
def Nq(n:Nat)(d:100<n){y:Int}(h:dU y){m:Nat}(a:1<=m)(c:m<=12):∃v,fB n y (m:Int)=some (v,0):=by
 unfold fB lA lM;have h':=h;unfold dU at h';obtain⟨z,e⟩:=so n (y:=y) (by omega);have w:wrap .i64 ((m:Int) - 1)=((m - 1:Nat):Int):=by rw[wrap_i64 _ (by omega) (by omega)];omega
 rw[HM n h a c,gA,ae h,e,w];obtain⟨v,b⟩:=IE n h (m:=m - 1) (by omega) (m - 1) 0 (by omega) (wrap .i64 (wrap .i64 (365*y)+z)) n (by omega);refine⟨v,?_⟩;show ob (au (bD n) n (y,wrap .i64 (wrap .i64 (365*y)+z),((m - 1:Nat):Int),((0:Nat):Int))) _=_;rw[b];rfl
def madd(n:Nat){y:Int}(h:dU y){m c:Nat}(g:1<=m)(j:m<=12)(hc:1<=c)(k:c<=6):oS n y (m:Int) (wrap .i64 ((c:Int) - 1)) =
  some (if 12<m+c - 1 then(if y=10000000000000000 then(0,0,6)else(y+1,((m+c - 1 - 12:Nat):Int),0))else(y,((m+c - 1:Nat):Int),0)):=by
 have h':=h;unfold dU at h';unfold oS;rw[HM n h g j,wrap_i64 (12*y) (by omega) (by omega),wrap_i64 ((m:Int) - 1) (by omega) (by omega),wrap_i64 (12*y+((m:Int) - 1)) (by omega) (by omega),wrap_i64 ((c:Int) - 1) (by omega) (by omega)];have i:rG n (12*y+((m:Int) - 1)) ((c:Int) - 1)=some (12*y+((m:Int) - 1)+((c:Int) - 1),0):=by
  unfold rG;rw[wrap_i64 (12*y+((m:Int) - 1)+((c:Int) - 1)) (by omega) (by omega),jP];by_cases d:(c:Int) - 1=0
  ·rw[ae d];have b:decide (12*y+((m:Int) - 1)>12*y+((m:Int) - 1))=false:=by simp
   have d2:decide ((c:Int) - 1>0)=false:=by simp;omega
   rw[b,d2,d,Int.add_zero];rfl
  ·rw[ab d];have b:decide (12*y+((m:Int) - 1)+((c:Int) - 1)>12*y+((m:Int) - 1))=true:=by simp;omega
   have d2:decide ((c:Int) - 1>0)=true:=by simp;omega
   rw[b,d2];rfl
 simp only[ob,i,eI,af];rw[yo n (by omega) (by omega) (by omega) (by omega),VP n (by omega) (by omega)];simp only[gA];by_cases f:12<m+c - 1
 ·have a:(12*y+((m:Int) - 1)+((c:Int) - 1)) / 12=y+1:=by omega
  have e:(12*y+((m:Int) - 1)+((c:Int) - 1))%12=((m+c - 1 - 12:Nat):Int) - 1:=by omega
  rw[a,e,ae f];by_cases hy:y=10000000000000000
  ·rw[ae hy,ab (show¬dU (y+1)by unfold dU;omega)];rfl
  ·rw[ab hy,ae (show dU (y+1)by unfold dU;omega),wrap_i64 (((m+c - 1 - 12:Nat):Int) - 1+1) (by omega) (by omega),JD];rfl
 ·have a:(12*y+((m:Int) - 1)+((c:Int) - 1)) / 12=y:=by omega
  have e:(12*y+((m:Int) - 1)+((c:Int) - 1))%12=((m+c - 1:Nat):Int) - 1:=by omega
  rw[a,e,ab f,ae h,wrap_i64 (((m+c - 1:Nat):Int) - 1+1) (by omega) (by omega),JD];rfl
def G0{j:Nat}(g:j<21):∃m c:Nat,nD[j]?=some ((m:Int),(c:Int))/\1<=m/\m<=12/\1<=c/\c<=6/\(12<m+c - 1↔j=3\/j=7\/j=9):=by
 have:((List.range 21).all λj=>match nD[j]? with
  | some (m,c)=>decide (0<=m)&&decide (0<=c)&&decide (1<=m.toNat)&&decide (m.toNat<=12)&&decide (1<=c.toNat)&&decide (c.toNat<=6)&&(decide (12<m.toNat+c.toNat - 1)==decide (j=3\/j=7\/j=9))
  | none=>false)=true:=by decide +kernel
 have h:=(cE.1 this) j (by simpa using g);split at h
 ·rename_i m c e;simp only[aC,cr,bu,pC]at h;obtain⟨⟨⟨⟨⟨⟨i,l⟩,d⟩,a⟩,b⟩,f⟩,k⟩:=h;exact⟨m.toNat,c.toNat,by rw[e,Gi i,Gi l],d,a,b,f,k⟩
 ·cases h
def Wb(n:Nat)(o:100<n){y:Int}(h:dU y){j:Nat}(s:j<21):
  ∃a b c d,iq n y ((21+j:Nat):Int)=some (a,b,c,d,if y=10000000000000000/\(j=3\/j=7\/j=9)then 6 else 0):=by
 obtain⟨m,c,e,t,w,A,z,r⟩:=G0 s;have C:fD n ((21+j:Nat):Int)=some ((m:Int),(c:Int),0):=by
  unfold fD dH;rw[bC,bC,ab (by omega),ab (by omega)];have:wrap .i64 (((21+j:Nat):Int) - 21)=(j:Int):=by rw[wrap_i64 _ (by omega) (by omega)];omega
  rw[this,dW s];show ob (nD[j]?) _=_;rw[e];rfl
 obtain⟨v,B⟩:=Nq n o h t w;unfold iq;rw[C];show ∃a b c d,ob (fB n y (m:Int)) _=_;rw[B];show ∃a b q d,ob (oS n y (m:Int) (wrap .i64 ((c:Int) - 1))) _=_;rw[madd n h t w A z];have h':=h;unfold dU at h';by_cases i:12<m+c - 1
 ·rw[ae i];by_cases hy:y=10000000000000000
  ·rw[ae hy,ae ⟨hy,r.1 i⟩];exact⟨_,_,_,_,rfl⟩
  ·rw[ab hy,ab (λx=>hy x.1)];have g:dU (y+1):=by unfold dU;omega
   obtain⟨l,f⟩:=Nq n o g (m:=m+c - 1 - 12) (by omega) (by omega);obtain⟨u,k⟩:=sF n g (m:=m+c - 1 - 12) (by omega) (by omega);have p:gV n (y+1) ((m+c - 1 - 12:Nat):Int)=some (wrap .i64 (wrap .i64 (l+u) - 1),0):=by
    unfold gV;rw[f,k];rfl
   show ∃a b q d,ob (gV n (y+1) ((m+c - 1 - 12:Nat):Int)) _=_;rw[p];exact⟨_,_,_,_,rfl⟩
 ·rw[ab i,ab (λx=>i (r.2 x.2))];obtain⟨l,f⟩:=Nq n o h (m:=m+c - 1) (by omega) (by omega);obtain⟨u,k⟩:=sF n h (m:=m+c - 1) (by omega) (by omega);have p:gV n y ((m+c - 1:Nat):Int)=some (wrap .i64 (wrap .i64 (l+u) - 1),0):=by
   unfold gV;rw[f,k];rfl
  show ∃a b q d,ob (gV n y ((m+c - 1:Nat):Int)) _=_;rw[p];exact⟨_,_,_,_,rfl⟩
def hasB(set:aa)(c:UInt8):Bool:=set.any λd=>d==c
def pA(set:aa)(c:UInt8):(decide (Lib.indexByte set c<0))=!hasB set c:=by
 induction set with
 | nil=>simp[Lib.indexByte,hasB]
 | cons d l ih=>
  have e:=Lib.indexByte_ge l c;simp only[hasB,qA]at ih ⊢;unfold Lib.indexByte;by_cases h:d=c
  ·simp[h]
  ·have f:(d==c)=false:=by simpa using h
   simp only[f,bj,az,oU];rw[<-ih];by_cases b:Lib.indexByte l c=-1
   ·simp[b]
   ·have a:(Lib.indexByte l c==-1)=false:=by simpa using b
    simp only[a,bj,az];have:¬Lib.indexByte l c+1<0:=by omega
    have:¬Lib.indexByte l c<0:=by omega
    simp[*]
def pM(set:aa)(c:UInt8):(decide (Lib.indexByte set c>=0))=hasB set c:=by
 have:=pA set c;by_cases h:Lib.indexByte set c<0
 ·have a:¬Lib.indexByte set c>=0:=by omega
  simp only[h,a,oc,nK]at this ⊢;revert this;cases hasB set c<;>simp
 ·have a:Lib.indexByte set c>=0:=by omega
  simp only[h,a,oc,nK]at this ⊢;revert this;cases hasB set c<;>simp
def lcp:aa->aa->Nat
 | c::s,d::t=>if c==d then lcp s t+1 else 0
 | _,_=>0
def xT:∀s t:aa,lcp s t<=s.length
 | [],_=>by simp[lcp]
 | _::_,[]=>by simp[lcp]
 | c::s,d::t=>by
  have:=xT s t;simp only[lcp,aN];split<;>omega
def bq(p:UInt8->Bool):Nat->aa->Nat
 | 0,_=>0
 | _+1,[]=>0
 | k+1,c::l=>if p c then bq p k l+1 else 0
def lX(p:UInt8->Bool):∀(k:Nat) (l:aa),bq p k l<=l.length
 | 0,_=>by simp[bq]
 | _+1,[]=>by simp[bq]
 | k+1,c::l=>by
  have:=lX p k l;simp only[bq,aN];split<;>omega
def tX(n:Nat)(S:aa)(a:Nat)(h:a<=S.length):cu n S (a:Int)=some (S.drop a):=by
 simp[cu,ob,fC h]
def Cm(n:Nat)(s p:aa):jq n s p=some (s.take p.length==p):=by
 simp only[jq,gy,lB];by_cases h:p.length<=s.length
 ·simp[h,ob,fC h]
 ·have:(s.take p.length==p)=false:=by
   rw[aK];intro e;have:=cb List.length e;rw[dq]at this;omega
  simp[h,ob,this]
def LX(n:Nat)(t S:aa)(a:Nat)(h:a<=S.length):fE n t S (a:Int)=some ((S.drop a).take t.length==t):=by
 simp[fE,tX n S a h,ob,Cm]
def nh(n:Nat)(t S:aa)(a:Nat)(h:a<=S.length)(d:S.length<4611686018427387904):
  aA n t S (a:Int)=some (if(S.drop a).take t.length=t then(true,S,((a+t.length:Nat):Int))else(false,S,(a:Int))):=by
 simp only[aA,LX n t S a h,ob];by_cases hp:(S.drop a).take t.length=t
 ·have c:t.length<=S.length - a:=by
   have:=cb List.length hp;simp at this;omega
  have b:wrap .i64 ((a:Int)+((t.length:Nat):Int))=((a+t.length:Nat):Int):=by rw[wrap_i64 _ (by omega) (by omega)];omega
  simp[hp,b]
 ·simp only[Gf,jP,hp,az]
def C3(n:Nat)(S:aa)(i:Int):bz n S i=some i:=rfl
def peek(l:aa):Int×Bool:=match l with | c::_=>(((c.toNat:Nat):Int),true) | []=>(0,false)
def o9(n:Nat)(S:aa)(a:Nat)(h:a<=S.length):aY n S (a:Int)=some (peek (S.drop a)):=by
 simp only[aY,tX n S a h,ob];rcases aF a S.length with d | b
 ·obtain⟨c,hc⟩:∃c,S[a]?=some c:=⟨S[a],bf d⟩;rw[bR hc];simp[dE hc,peek]
 ·rw[iU b];simp[peek]
def vN(n:Nat)(a e:Int)(S:aa)(i:Int):aM n a e S i=some (a,if e=0 then 5 else e):=by
 simp only[aM,jP];by_cases h:e=0<;>simp[h]
def gM(n:Nat)(set:aa)(c:UInt8):dj n set ((c.toNat:Nat):Int)=some (Lib.indexByte set c):=by
 simp only[dj,cV,ob,Wx]
def zO(n:Nat)(set S:aa)(a:Nat)(h:a<=S.length)(f:S.length<4611686018427387904):
  cn n set S (a:Int)=some (match S.drop a with | c::_=>if hasB set c then .inr (((c.toNat:Nat):Int),S,((a+1:Nat):Int))else .inl ((a:Int),5,S,(a:Int)) | []=>.inl ((a:Int),5,S,(a:Int))):=by
 simp only[cn,o9 n S a h,ob];rcases aF a S.length with d | b
 ·obtain⟨c,hc⟩:∃c,S[a]?=some c:=⟨S[a],bf d⟩;have e:wrap .i64 ((a:Int)+1)=((a+1:Nat):Int):=by rw[wrap_i64 _ (by omega) (by omega)];omega
  rw[bR hc];simp only[peek,ca,af,gM,pA,C3,vN,ob,e];cases hasB set c<;>simp
 ·rw[iU b];simp[peek,C3,vN,ob]
def mR(S:aa)(a k:Nat):List.drop a (List.take (a+k) S)=(S.drop a).take k:=by
 rw[xW];congr 1;omega
def BD(n:Nat)(set:aa)(b most:Int)(S:aa)(a:Nat)(h:a<=S.length)(p:S.length<4611686018427387904)(q:S.length<n):
  au (cS n) n (set,b,most,(a:Int),(peek (S.drop a)).1,(peek (S.drop a)).2,S,(a:Int)) =
   some (b,(a:Int),S,((a+bq (hasB set) most.toNat (S.drop a):Nat):Int)):=by
 have:=fK (step:=cS n)
  (λx=>∃j:Nat,a+j<=S.length/\x=(set,b,most,(a:Int),(peek (S.drop (a+j))).1,(peek (S.drop (a+j))).2,S,((a+j:Nat):Int)))
  (λx=>S.length - x.2.2.2.2.2.2.2.toNat)
  (λx=>(b,(a:Int),S,((x.2.2.2.2.2.2.2.toNat+bq (hasB set) (most.toNat - (x.2.2.2.2.2.2.2.toNat - a)) (S.drop x.2.2.2.2.2.2.2.toNat):Nat):Int))) ?_ n
  (set,b,most,(a:Int),(peek (S.drop a)).1,(peek (S.drop a)).2,S,(a:Int)) ⟨0,by omega,by simp⟩ (by simp;omega)
 ·simpa using this
 rintro x ⟨j,m,rfl⟩;simp only[ch];have d:wrap .i64 (((a+j:Nat):Int) - (a:Int))=(j:Int):=by rw[wrap_i64 _ (by omega) (by omega)];omega
 rcases aF (a+j) S.length with f | e
 ·obtain⟨c,hc⟩:∃c,S[a+j]?=some c:=⟨S[a+j],bf f⟩;have l:wrap .i64 (((a+j:Nat):Int)+1)=((a+(j+1):Nat):Int):=by rw[wrap_i64 _ (by omega) (by omega)];omega
  simp only[cS,bR hc,peek,aj,d];by_cases g:(j:Int)<most
  ·obtain⟨k,i⟩:∃k,most.toNat - (a+j - a)=k+1:=⟨most.toNat - j - 1,by omega⟩;simp only[g,oc,aj,gM,ob,pM,i,bq];cases o:hasB set c with
   | true=>
    simp only[l,o9 n S (a+(j+1)) (by omega),aj];refine .inl ⟨_,rfl,⟨j+1,by omega,rfl⟩,?_,?_⟩
    ·simp only[ch];omega
    ·simp only[ch,bm,jD,aG];have:most.toNat - (a+(j+1) - a)=k:=by omega
     rw[this,show a+(j+1)=a+j+1 by omega];omega
   | false=>exact .inr (by simp)
  ·refine .inr ?_;have:most.toNat - (a+j - a)=0:=by omega
   simp only[g,nK,af,this,bq,cG]
 ·refine .inr ?_;simp only[cS,iU e,peek,af];have:bq (hasB set) (most.toNat - (a+j - a)) []=0:=by cases most.toNat - (a+j - a)<;>rfl
  simp only[this,cG]
def vL(n:Nat)(set:aa)(b most:Int)(S:aa)(a:Nat)(h:a<=S.length)(f:S.length<4611686018427387904)(g:S.length<n):
  bY n set b most S (a:Int)=some (if((bq (hasB set) most.toNat (S.drop a):Nat):Int)<b
   then .inl (((a+bq (hasB set) most.toNat (S.drop a):Nat):Int),5,S,((a+bq (hasB set) most.toNat (S.drop a):Nat):Int))
   else .inr ((S.drop a).take (bq (hasB set) most.toNat (S.drop a)),S,((a+bq (hasB set) most.toNat (S.drop a):Nat):Int))):=by
 have d:=lX (hasB set) most.toNat (S.drop a);rw[ba]at d;simp only[bY,C3,o9 n S a h,ob];rw[BD n set b most S a h f g];generalize bq (hasB set) most.toNat (S.drop a)=k at d ⊢;have c:wrap .i64 (((a+k:Nat):Int) - (a:Int))=(k:Int):=by rw[wrap_i64 _ (by omega) (by omega)];omega
 simp only[c,vN];by_cases e:(k:Int)<b
 ·simp[e]
 ·simp only[e,nK,af,az];rw[fC (by omega)];simp only;rw[fC (by omega)];simp only[mR]
def Q9(a b:Nat):(cond (decide (((a:Nat):Int)<((b:Nat):Int))) ((a:Nat):Int) ((b:Nat):Int))=((min a b:Nat):Int):=by
 by_cases h:a<b
 ·simp[h];omega
 ·simp[h];omega
def asc(l:aa):Prop:=∀c∈l,c.toNat<128
def MH(r:Int)(h:128<=r):∃p e,(Utf8.encode r).data.toList=p++[e]/\1<=p.length/\p.length<=3/\128<=e.toNat:=by
 unfold Utf8.encode;have hc:128<=(if Utf8.valid r then r.toNat else Utf8.runeError):=by
  split
  ·omega
  ·decide
 generalize(if Utf8.valid r then r.toNat else Utf8.runeError)=c at hc;have a:128<=(UInt8.ofNat (0x80+c%64)).toNat:=by
  simp only[E4];omega
 simp only;split
 ·omega
 ·split
  ·exact⟨[_],_,rfl,by simp,by simp,a⟩
  ·split
   ·exact⟨[_,_],_,rfl,by simp,by simp,a⟩
   ·exact⟨[_,_,_],_,rfl,by simp,by simp,a⟩
def Me{l:aa}(h:asc l){i:Nat}{c:UInt8}(hi:l[i]?=some c):c.toNat<128:=h c (fG hi)
def CH(n:Nat)(set:aa)(h:asc set)(e:set.length<n):au (dP n) n (set,0)=some (.inr ()):=by
 refine fK (step:=dP n) (λx=>x.1=set) (λx=>set.length - x.2) (λx=>.inr ()) ?_ n _ rfl (by simp;omega);rintro⟨s,i⟩ rfl;simp only[dP];by_cases hi:i<s.length
 ·have a:Nat.blt i s.length=true:=dT hi;obtain⟨c,hc⟩:∃c,s[i]?=some c:=⟨s[i],bf hi⟩;have b:=Me h hc;have d:(((c.toNat:Nat):Int)==65533)=false:=by rw[aK];omega
  simp only[a,aj,Be hc b,d,af];exact .inl ⟨_,rfl,rfl,by simp only;omega,trivial⟩
 ·have a:Nat.blt i s.length=false:=by
   cases a:Nat.blt i s.length with
   | false=>rfl
   | true=>exact absurd (aH a) (by omega)
  simp only[a,af];exact .inr trivial
def yu{l:aa}{c:UInt8}(h:c∉l):Lib.indexByte l c<0:=by
 have a:=pA l c;have d:hasB l c=false:=by
  unfold hasB;rw[rU];intro x hx b;simp only[bu]at b;exact h (b▸hx)
 rw[d]at a;simpa using a
def C2(n:Nat)(set:aa)(h:asc set)(s:set.length<n)(hs:set.length<=100)(r:Int)(q:128<=r):dZ n set r=some (-1):=by
 have t:decide ((0:Int)<=r)=true:=aq (by omega);have A:decide (r<128)=false:=am (by omega);simp only[dZ,t,A,aj,af];by_cases d:r=65533
 ·have:(r==65533)=true:=bu.2 d;simp only[this,aj,CH n set h s,ob]
 ·have:(r==65533)=false:=aK.2 d;simp only[this,af];obtain⟨v,w⟩:∃v,dV n r=some v:=by
   unfold dV;generalize decide ((0:Int)<=r)=x;generalize decide (r<55296)=d2;generalize decide ((57343:Int)<r)=z;generalize decide (r<=1114111)=d4;cases x<;>cases d2<;>cases z<;>cases d4<;>exact⟨_,rfl⟩
  simp only[w,ob];cases v with
  | false=>rfl
  | true=>
   simp only[ca,af];obtain⟨p,e,hp,y,u,B⟩:=MH r q;simp only[hp];have o:wrap .i64 (((p++[e]).length:Nat) - 1:Int)=(p.length:Int):=by
    rw[wrap_i64 _ (by simp<;>omega) (by simp<;>omega)];simp
   rw[o];obtain⟨m,rfl⟩:∃m,n=m+1:=⟨n - 1,by omega⟩;have a:dN (m+1) (set,p++[e],(p.length:Int),(p.length:Int))=some (.inr (.inl (-1)))\/dN (m+1) (set,p++[e],(p.length:Int),(p.length:Int))=some (.inr (.inr ())):=by
    simp only[dN,iO];by_cases i:p.length<set.length
    ·obtain⟨c,hc⟩:∃c,set[p.length]?=some c:=⟨set[p.length],bf i⟩;have k:=Me h hc;have g:(p++[e])[p.length]?=some e:=by simp
     have f:(((c.toNat:Nat):Int) != ((e.toNat:Nat):Int))=true:=by simp only[bne,kL,aK];omega
     have j:wrap .i64 ((p.length:Int)+1)=((p.length+1:Nat):Int):=by rw[wrap_i64 _ (by omega) (by omega)];omega
     have hx:e∉List.drop (p.length+1) (List.take set.length set):=by
      intro l;have:=h e (by simpa using List.mem_of_mem_drop l);omega
     left;simp only[i,oc,aj,dE hc,dE g,ob,f,j,fC (show p.length+1<=set.length by omega),gM,yu hx]
    ·right;simp only[i,nK,af]
   rcases a with b | b<;>simp only[au,b,ob]
def yB(n:Nat)(set:aa)(c:UInt8)(r:Int)(d:r=((c.toNat:Nat):Int))(hc:c.toNat<128):dZ n set r=some (Lib.indexByte set c):=by
 have f:decide ((0:Int)<=r)=true:=aq (by omega);have a:decide (r<128)=true:=aq (by omega);have b:wrap .u8 r=r:=ke _ (by omega) (by omega);have e:dj n set r=some (Lib.indexByte set c):=by rw[d];exact gM n set c
 simp only[dZ,f,a,aj,b,e,ob]
def zR(n:Nat)(set:aa)(c:UInt8)(hc:c.toNat<128):dZ n set ((c.toNat:Nat):Int)=some (Lib.indexByte set c):=yB n set c _ rfl hc
def vv(n:Nat)(set:aa)(c:UInt8)(hc:c.toNat<128):dM n set ((c.toNat:Nat):Int)=some (hasB set c):=by
 simp only[dM,zR n set c hc,ob,pM]
def yg(n:Nat)(set:aa)(h:asc set)(b:set.length<n)(hs:set.length<=100)(r:Int)(a:128<=r):dM n set r=some false:=by
 simp only[dM,C2 n set h b hs r a,ob];rfl
def Ds(w a:Nat):BitVec.ofInt w (a:Int)=BitVec.ofNat w a:=by
 apply BitVec.eq_of_toNat_eq;simp
def QW(k:Nat):(2:Int) ^ k=((2 ^ k:Nat):Int):=by simp
def OL(a k:Nat):Int.fdiv (a:Int) (2 ^ k)=((a / 2 ^ k:Nat):Int):=by
 rw[QW k,Int.fdiv_eq_ediv_of_nonneg _ (Int.natCast_nonneg _)];rfl
def inR(lo hi:Int)(c:UInt8):Bool:=decide (((c.toNat:Nat):Int)>=lo)&&decide (((c.toNat:Nat):Int)<=hi)
def cnt(lo hi:Int)(l:aa):Nat:=l.countP (inR lo hi)
def Lr(lo hi:Int)(l:aa):cnt lo hi l<=l.length:=List.countP_le_length
def Pi(lo hi:Int){l:aa}{i:Nat}{c:UInt8}(h:l[i]?=some c):cnt lo hi (l.take (i+1))=cnt lo hi (l.take i)+if inR lo hi c then 1 else 0:=by
 unfold cnt;rw[sg,h,List.countP_append];simp[I9]
def GK(n:Nat)(s:aa)(lo hi:Int)(hs:s.length<n)(l:s.length<100000):gx n s lo hi=some ((cnt lo hi s:Nat):Int):=by
 have:=fK (step:=gS n) (λx=>∃i:Nat,i<=s.length/\x=(s,lo,hi,((cnt lo hi (s.take i):Nat):Int),(i:Int))) (λx=>s.length - x.2.2.2.2.toNat) (λ_=>((cnt lo hi s:Nat):Int)) ?_ n (s,lo,hi,0,0) ⟨0,by omega,by simp[cnt]⟩ (by simp;omega)
 ·simp only[gx,this,ob]
 rintro x ⟨i,h,rfl⟩;rcases aF i s.length with a | j
 ·obtain⟨c,hc⟩:∃c,s[i]?=some c:=⟨s[i],bf a⟩;have b:=Pi lo hi hc;have d:=Lr lo hi (s.take i);rw[dq]at d;have k:wrap .i64 ((i:Int)+1)=((i+1:Nat):Int):=by rw[wrap_i64 _ (by omega) (by omega)];omega
  have g:wrap .i64 (((cnt lo hi (s.take i):Nat):Int)+1)=((cnt lo hi (s.take i)+1:Nat):Int):=by rw[wrap_i64 _ (by omega) (by omega)];omega
  refine .inl ⟨(s,lo,hi,((cnt lo hi (s.take (i+1)):Nat):Int),((i+1:Nat):Int)),?_,⟨i+1,a,rfl⟩,by simp only[ch];omega,rfl⟩;simp only[gS,iO,a,oc,aj,dE hc,ob,k,g];rw[b];by_cases e:((c.toNat:Nat):Int)>=lo
  ·by_cases f:((c.toNat:Nat):Int)<=hi
   ·simp[e,f,inR]
   ·simp[e,f,inR]
  ·simp[e,inR]
 ·have:i=s.length:=by omega
  subst this;refine .inr ?_;simp only[gS,iO,ED,nK,af,nT]
def LH(lo hi:Int)(l:aa):cnt lo hi l=l.length↔∀c∈l,inR lo hi c=true:=by
 unfold cnt;rw[List.countP_eq_length]
def On(lo hi:Int)(l:aa):cnt lo hi l=0↔∀c∈l,inR lo hi c=false:=by
 unfold cnt;rw[List.countP_eq_zero];simp
def bp(c:UInt8):Bool:=inR 48 57 c
def ck(c:UInt8):bp c=true↔48<=c.toNat/\c.toNat<=57:=by
 unfold bp inR;simp only[aC,cr];omega
def Bl(c:UInt8):inR 88 88 c=true↔c=88:=by
 unfold inR;simp only[aC,cr];constructor
 ·intro h;apply gu.1;show c.toNat=88;omega
 ·rintro rfl;decide
def KU(c:UInt8):inR 48 48 c=true↔c=48:=by
 unfold inR;simp only[aC,cr];constructor
 ·intro h;apply gu.1;show c.toNat=48;omega
 ·rintro rfl;decide
def JK:∀l:aa,cnt 48 57 l+cnt 88 88 l<=l.length/\(cnt 48 57 l+cnt 88 88 l=l.length↔∀c∈l,bp c=true\/c=88)
 | []=>by simp[cnt]
 | c::l=>by
  have ih:=JK l;have d:cnt 48 57 (c::l)=cnt 48 57 l+if inR 48 57 c then 1 else 0:=by simp[cnt,I9]
  have g:cnt 88 88 (c::l)=cnt 88 88 l+if inR 88 88 c then 1 else 0:=by simp[cnt,I9]
  have hd:¬(inR 48 57 c=true/\inR 88 88 c=true):=by
   rintro⟨a,b⟩;have:=(ck c).1 a;rw[(Bl c).1 b]at this;exact absurd this.2 (by decide)
  rw[d,g,aN];simp only[de,EK];have hx:=Bl c;have f:bp c=inR 48 57 c:=rfl;rw[f];cases a:inR 48 57 c<;>cases b:inR 88 88 c
  ·simp only[a,b]at hx ⊢;have:c≠88:=λe=>by simpa using hx.2 e
   simp[this];omega
  ·simp only[a,b]at hx ⊢;have:c=88:=hx.1 trivial;simp only[this,bj,aG,az,false_or,jD];rw[<-ih.2];omega
  ·simp only[a,b]at hx ⊢;simp only[bj,aG,az,true_or,jD];rw[<-ih.2];omega
  ·exact absurd ⟨a,b⟩ hd
def L9(n:Nat)(s set:aa)(q:asc set)(t:set.length<n)(r:set.length<=100)(hs:s.length<n):
  ∃y,au (cN n) n (true,set,s,0)=some y/\((y=.inr ()/\s.all (hasB set)=true)\/∃i:Nat,y=.inl (i:Int)/\s.all (hasB set)=false):=by
 refine rq (step:=cN n) (λx=>x.1=true/\x.2.1=set/\x.2.2.1=s/\s.all (hasB set)=(s.drop x.2.2.2).all (hasB set)) (λx=>s.length - x.2.2.2) _ ?_ n _ ⟨rfl,rfl,rfl,rfl⟩ (by simp only;omega);rintro⟨b,st,s',p⟩ ⟨j,f,g,a⟩;simp only at j f g a;rw[j,f,g];clear j f g b st s';rcases aF p s.length with h | l
 ·obtain⟨c,hc⟩:∃c,s[p]?=some c:=⟨s[p],bf h⟩;have e:Nat.blt p s.length=true:=dT h;rw[bR hc,mK]at a;rcases aF c.toNat 128 with d | d
  ·have hd:=Be hc d;simp only[cN,e,aj,jQ,hd,vv n set c d,ob];cases k:hasB set c with
   | true=>
    rw[k,nO]at a;exact .inl ⟨_,rfl,⟨rfl,rfl,rfl,a⟩,by simp only;omega⟩
   | false=>
    rw[k,xf]at a;exact .inr ⟨_,rfl,.inr ⟨p,rfl,a⟩⟩
  ·have hd:=Hv hc d;have k:hasB set c=false:=by
    unfold hasB;rw[rU];intro x hx o;simp only[bu]at o;have:=q x hx;rw[o]at this;omega
   rw[k,xf]at a;have m:=yg n set q t r (((dec s p).1:Nat):Int) (by omega);simp only[cN,e,aj,jQ,m,ob];exact .inr ⟨_,rfl,.inr ⟨p,rfl,a⟩⟩
 ·have e:Nat.blt p s.length=false:=by
   cases j:Nat.blt p s.length with
   | false=>rfl
   | true=>exact absurd (aH j) (by omega)
  simp only[cN,e,af];rw[iU l]at a;exact .inr ⟨_,rfl,.inl ⟨rfl,by rw[a];rfl⟩⟩
def M4(n:Nat)(s set:aa)(d:asc set)(f:set.length<n)(c:set.length<=100)(hs:s.length<n):gn n s set=some (s.all (hasB set)):=by
 obtain⟨y,b,e⟩:=L9 n s set d f c hs;simp only[gn,lz,lJ,b,ob];rcases e with⟨rfl,a⟩ | ⟨i,rfl,a⟩
 ·rw[a];rfl
 ·rw[a];simp only[ar,uj];omega
def OZ:asc [48,49,50,51,52,53,54,55,56,57]:=by unfold asc;decide
def Lt:asc [88,48,49,50,51,52,53,54,55,56,57]:=by unfold asc;decide
def iG(p:UInt8->Bool)(h:∀i:Fin 256,p (UInt8.ofNat i.val)=true)(c:UInt8):p c=true:=by
 have:=h ⟨c.toNat,c.toNat_lt⟩;simpa using this
def yk(c:UInt8):hasB [48,49,50,51,52,53,54,55,56,57] c=bp c:=by
 have:=iG (λc=>hasB [48,49,50,51,52,53,54,55,56,57] c==bp c) (by decide +kernel) c;simpa using this
def uT(c:UInt8):hasB [88,48,49,50,51,52,53,54,55,56,57] c=(bp c||c==88):=by
 have:=iG (λc=>hasB [88,48,49,50,51,52,53,54,55,56,57] c==(bp c||c==88)) (by decide +kernel) c;simpa using this
def Jt(n:Nat)(s:aa)(a:100<n)(hs:s.length<n):gn n s [48,49,50,51,52,53,54,55,56,57]=some (s.all bp):=by
 rw[M4 n s _ OZ (by simp;omega) (by simp) hs];congr 2;funext c;exact yk c
def Iq(n:Nat)(s:aa)(a:100<n)(hs:s.length<n):gn n s [88,48,49,50,51,52,53,54,55,56,57]=some (s.all λc=>bp c||c==88):=by
 rw[M4 n s _ Lt (by simp;omega) (by simp) hs];congr 2;funext c;exact uT c
def all0(s:aa):Bool:=s.all λc=>c==48
def XB(n:Nat)(s:aa)(hs:s.length<n)(m:s.length<100000):∃y,gh n s 48=some y/\all0 s=all0 y/\y.length<=s.length:=by
 obtain⟨y,g,a⟩:=rq (step:=dn n) (λx=>x.2=48/\all0 s=all0 x.1/\x.1.length<=s.length) (λx=>x.1.length) (λy=>all0 s=all0 y/\y.length<=s.length) (by
  rintro⟨l,c⟩ ⟨rfl,h,f⟩;simp only at h f;by_cases k:l.length>0
  ·have d0:decide (((l.length:Nat):Int)>0)=true:=aq (by omega);have j:wrap .i64 (((l.length:Nat):Int) - 1)=((l.length - 1:Nat):Int):=by rw[wrap_i64 _ (by omega) (by omega)];omega
   obtain⟨c,hc⟩:∃c,l[l.length - 1]?=some c:=⟨l[l.length - 1],bf (by omega)⟩;simp only[dn,d0,aj,j,dE hc,ob];by_cases d:c=48
   ·have b:(((c.toNat:Nat):Int)==48)=true:=by rw[d];rfl
    simp only[b,aj,fC (show l.length - 1<=l.length by omega),bI];refine .inl ⟨(List.take (l.length - 1) l,48),rfl,⟨rfl,?_,by show(List.take (l.length - 1) l).length<=s.length;rw[dq];omega⟩,by show(List.take (l.length - 1) l).length<l.length;rw[dq];omega⟩;rw[h];have:l=l.take (l.length - 1)++[c]:=by
     have a:=sg (l:=l) (i:=l.length - 1);rw[hc,show l.length - 1+1=l.length by omega,nT]at a;exact a
    rw[this];simp only[all0,C4,mK,List.all_nil,d];simp
   ·have b:(((c.toNat:Nat):Int)==48)=false:=by
     rw[aK];intro e;exact d (gu.1 (by show c.toNat=48;omega))
    simp only[b,af];exact .inr ⟨_,rfl,h,f⟩
  ·have d0:decide (((l.length:Nat):Int)>0)=false:=am (by omega);simp only[dn,d0,af];exact .inr ⟨_,rfl,h,f⟩) n (s,48) ⟨rfl,rfl,aQ _⟩ hs
 exact⟨y,by simp only[gh,g,ob],a⟩
def XI(n:Nat)(s:aa)(hs:s.length<n)(m:s.length<100000):∃y,gJ n s 48=some y/\all0 s=(y==[]):=by
 obtain⟨y,j,k⟩:=rq (step:=fm n) (λx=>x.2=48/\all0 s=all0 x.1/\x.1.length<=s.length) (λx=>x.1.length) (λy=>all0 s=(y==[])) (by
  rintro⟨l,c⟩ ⟨rfl,h,f⟩;simp only at h f;cases l with
  | nil=>exact .inr ⟨[],rfl,by rw[h];rfl⟩
  | cons c l=>
   have d0:decide ((((c::l).length:Nat):Int)>0)=true:=aq (by simp only[aN];omega);have hc:sx (c::l) 0=some c:=by simp[sx]
   simp only[fm,d0,aj,hc,ob];by_cases a:c=48
   ·have b:(((c.toNat:Nat):Int)==48)=true:=by rw[a];rfl
    have d:bx (c::l).length 1=some 1:=fC (i:=1) (by simp);simp only[b,aj,d,nT,oJ,bI];refine .inl ⟨_,rfl,⟨rfl,?_,by show l.length<=s.length;simp only[aN]at f;omega⟩,by simp⟩;rw[h];simp[all0,a]
   ·have b:(((c.toNat:Nat):Int)==48)=false:=by
     rw[aK];intro e;exact a (gu.1 (by show c.toNat=48;omega))
    simp only[b,af];refine .inr ⟨_,rfl,?_⟩;rw[h];have g:(c==48)=false:=aK.2 a;simp[all0,g]) n (s,48) ⟨rfl,rfl,aQ _⟩ hs
 exact⟨y,by simp only[gJ,j,ob],k⟩
def Rj(n:Nat)(s:aa)(hs:s.length<n)(e:s.length<100000):∃y,nV n s=some y/\(y==[])=all0 s:=by
 unfold nV;by_cases h:s=[]
 ·subst h;exact⟨[],rfl,rfl⟩
 ·have:(s==([]:aa))=false:=aK.2 h;obtain⟨y,c,d,f⟩:=XB n s hs e;obtain⟨z,a,b⟩:=XI n y (by omega) (by omega);exact⟨z,by simp only[this,af,c,a,ob],by rw[d,b]⟩
def NG(s:aa):all0 s=true↔cnt 48 48 s=s.length:=by
 rw[LH];unfold all0;rw[cE];constructor
 ·intro h c hc;have:=h c hc;rw[bu]at this;exact(KU c).2 this
 ·intro h c hc;rw[bu];exact(KU c).1 (h c hc)
def hasX(s:aa):Bool:=s.any λc=>c==88
def G9(s:aa):hasX s=decide (0<cnt 88 88 s):=by
 have:=On 88 88 s;unfold hasX;cases h:s.any λc=>c==88 with
 | true=>
  obtain⟨c,hc,b⟩:=tz.1 h;rw[bu]at b;symm;rw[cr];rcases Ac (cnt 88 88 s)with a | a
  ·have:=this.1 a c hc;rw[(Bl c).2 b]at this;cases this
  ·exact a
 | false=>
  symm;rw[uj];intro a;have:cnt 88 88 s=0:=this.2 λc hc=>by
   cases hx:inR 88 88 c with
   | false=>rfl
   | true=>
    rw[rU]at h;exact absurd (bu.2 ((Bl c).1 hx)) (h c hc)
  omega
def CY(n:Nat)(s:aa):iz n s=some (hasX s):=by
 have e:UInt8.ofNat (Int.toNat 88)=(88:UInt8):=rfl;have hi:mY n s=some (Lib.indexByte s 88):=by
  simp only[mY,jg,cV,ob,e];by_cases h:([88]:aa)=s
  ·subst h;rfl
  ·have:(([88]:aa)==s)=false:=aK.2 h;simp only[this,af]
 simp only[iz,hi,ob,pM];rfl
def tc(n:Nat)(g l:Bool)(d:aa)(x q:Int):db n g l d x q=some (hasX d):=by
 simp only[db,CY,ob]
def oK(n:Nat)(g l:Bool)(d:aa)(x q:Int)(hs:d.length<n)(a:d.length<100000):aD n g l d x q=some (if hasX d then 1 else 0):=by
 simp only[aD,GK n d 88 88 hs a,ob,G9,cr];by_cases h:0<cnt 88 88 d
 ·have:decide (((cnt 88 88 d:Nat):Int)<1)=false:=am (by omega);simp[this,h]
 ·have:decide (((cnt 88 88 d:Nat):Int)<1)=true:=aq (by omega);have b:cnt 88 88 d=0:=by omega
  simp[this,b]
def vw(a:Nat)(c:UInt8):Nat:=a*10+(c.toNat - 48)
def dval(a:Nat)(l:aa):Nat:=l.foldl vw a
def pp(a:Nat):dval a []=a:=by unfold dval;rw[GU]
def ou(a:Nat)(c:UInt8)(l:aa):dval a (c::l)=dval (vw a c) l:=by
 unfold dval;rw[vb]
def GT(l:aa)(a:Nat)(c:UInt8):dval a (l++[c])=dval a l*10+(c.toNat - 48):=by
 have:dval a (l++[c])=vw (dval a l) c:=by
  unfold dval;rw[GI,vb,GU]
 rw[this];rfl
def Rn(M:Nat)(i:10000000000000000000<=M)(l:aa):∀(a k:Nat),(∀c∈l,bp c=true)->a<10 ^ k->l.length+k<=18->Lib.parseUintM M a l=.ok (dval a l)/\dval a l<10 ^ (l.length+k):=by
 induction l with
 | nil=>
  intro a k _ b _;rw[pp];refine⟨rfl,?_⟩;simpa using b
 | cons c l ih=>
  intro a k h b g;have hc:=(ck c).1 (h c (by simp));simp only[aN]at g;have hp:(10:Nat) ^ (k+1)=10 ^ k*10:=sC 10 k;have f:(10:Nat) ^ (k+1)<=10 ^ 18:=n6 (by decide) (by omega);have e:(10:Nat) ^ 18=1000000000000000000:=by decide
  have hd:vw a c=a*10+(c.toNat - 48):=rfl;have ih:=ih (vw a c) (k+1) (λd hd=>h d (by simp[hd])) (by omega) (by omega);refine⟨?_,?_⟩
  ·simp only[Lib.parseUintM];rw[ae hc,ab (by omega),ab (by omega),<-hd,ih.1,ou]
  ·rw[ou,aN,show l.length+1+k=l.length+(k+1)by omega];exact ih.2
def IX{l:aa}(h:∀c∈l,bp c=true)(d:l≠[])(k:l.length<=18):wa l=some ((dval 0 l:Nat):Int)/\dval 0 l<10 ^ l.length:=by
 obtain⟨g,b⟩:=Rn (2 ^ 64 - 1) (by decide) l 0 0 h (by simp) (by omega);refine⟨?_,by simpa using b⟩;have i:dval 0 l<10 ^ 18:=qV b (n6 (by decide) (by omega));cases l with
 | nil=>exact absurd rfl d
 | cons c r=>
  have hc:=(ck c).1 (h c (by simp));have j:Lib.parseUintB 64 (c::r)=.ok (dval 0 (c::r)):=by
   unfold Lib.parseUintB;rw[ab d,g]
  have hs:¬(c.toNat=43\/c.toNat=45):=by omega
  simp only[wa,Lib.parseIntB,hs,az,j];have e:(10:Nat) ^ 18=1000000000000000000:=by decide
  have a:(2:Nat) ^ (64 - 1)=9223372036854775808:=by decide
  have f:¬c.toNat=45:=by omega
  simp only[f,E3,jD,wv,az];rw[a,ab (by omega)]
def Po(n k:Nat)(h:k<=18)(j:18<n):o5 n (k:Int)=some (((10 ^ k:Nat):Int),0):=by
 have b:(10:Nat) ^ 18=1000000000000000000:=by decide
 have:=fK (step:=kN n) (λx=>∃i:Nat,i<=k/\x=(((10 ^ i:Nat):Int),(k:Int),(i:Int))) (λx=>k - x.2.2.toNat) (λ_=>((10 ^ k:Nat):Int)) (by
  rintro x ⟨i,hi,rfl⟩;rcases aF i k with a | e
  ·have d:(10:Nat) ^ (i+1)<=10 ^ 18:=n6 (by decide) (by omega);have hp:(10:Nat) ^ (i+1)=10 ^ i*10:=sC 10 i;have g:wrap .i64 (((10 ^ i:Nat):Int)*10)=((10 ^ (i+1):Nat):Int):=by rw[wrap_i64 _ (by omega) (by omega)];omega
   have c:wrap .i64 ((i:Int)+1)=((i+1:Nat):Int):=by rw[wrap_i64 _ (by omega) (by omega)];omega
   refine .inl ⟨_,?_,⟨i+1,a,rfl⟩,by simp only[ch];omega,rfl⟩;simp only[kN,iO,a,oc,aj,g,c]
  ·have:i=k:=by omega
   subst this;refine .inr ?_;simp only[kN,iO,ED,nK,af]) n (1,(k:Int),0) ⟨0,by omega,rfl⟩ (by simp;omega)
 have f:decide ((k:Int)<0)=false:=am (by omega);have d2:decide ((k:Int)>18)=false:=am (by omega);simp only[o5,f,d2,af,this,ob]
def kU(x:Int)(b:0<=x)(a:x<18446744073709551616):wrap .u64 x=x:=by
 show x%18446744073709551616=x;omega
def EB(x:Int):wrap .u64 x=x%18446744073709551616:=rfl
def KW{a:Nat}(b:a<18446744073709551616):bits .and .u64 (a:Int) 4294967295=((a%4294967296:Nat):Int):=by
 show wrap .u64 ((BitVec.ofInt 64 (a:Int) &&& BitVec.ofInt 64 ((4294967295:Nat):Int)).toNat:Int)=_;rw[Ds,Ds,BitVec.toNat_and,BitVec.toNat_ofNat,BitVec.toNat_ofNat,sL (show a<2 ^ 64 from b),sL (by decide)];have:=Nat.and_two_pow_sub_one_eq_mod a 32;rw[show(2:Nat) ^ 32 - 1=4294967295 from by decide,show(2:Nat) ^ 32=4294967296 from by decide]at this;rw[this];exact kU _ (by omega) (by omega)
def Ov(a:Nat):Int.fdiv (a:Int) (2 ^ 32)=((a / 4294967296:Nat):Int):=by
 rw[OL]
def HK{a b A B:Nat}(d:a<=A)(c:b<=B):a*b<=A*B:=Ee d c
def JP(a b:Nat):a*b=(a / 4294967296)*(b / 4294967296)*18446744073709551616+((a / 4294967296)*(b%4294967296)+(a%4294967296)*(b / 4294967296))*4294967296+(a%4294967296)*(b%4294967296):=by
 have e:a=(a / 4294967296)*4294967296+a%4294967296:=by omega
 have f:b=(b / 4294967296)*4294967296+b%4294967296:=by omega
 generalize a / 4294967296=c at e ⊢;generalize a%4294967296=h at e ⊢;generalize b / 4294967296=d at f ⊢;generalize b%4294967296=g at f ⊢;subst e f;rw[gY,Nat.mul_add,Nat.mul_add];have j:c*4294967296*(d*4294967296)=c*d*18446744073709551616:=by
  rw[Nat.mul_mul_mul_comm]
 have k:c*4294967296*g=c*g*4294967296:=by rw[Nat.mul_right_comm]
 have i:h*(d*4294967296)=h*d*4294967296:=by rw[Es]
 rw[j,k,i,gY];omega
def XN(n a b:Nat)(x:a<18446744073709551616)(p:b<18446744073709551616):kA n (a:Int) (b:Int)=some (((a*b / 18446744073709551616:Nat):Int),((a*b%18446744073709551616:Nat):Int)):=by
 have r:=JP a b;have j:a / 4294967296<=4294967295:=by omega
 have g:a%4294967296<=4294967295:=by omega
 have i:b / 4294967296<=4294967295:=by omega
 have h:b%4294967296<=4294967295:=by omega
 have z:=HK g h;have o:=HK g i;have y:=HK j h;have s:=HK j i;have k:wrap .u64 ((a:Int)*(b:Int))=((a*b%18446744073709551616:Nat):Int):=by
  rw[EB,<-HO];omega
 simp only[kA,Ov,KW x,KW p,k];simp only[<-HO];generalize(a / 4294967296)*(b / 4294967296)=f at *;generalize(a / 4294967296)*(b%4294967296)=d at *;generalize(a%4294967296)*(b / 4294967296)=e at *;generalize(a%4294967296)*(b%4294967296)=c at *;generalize a*b=N at *;have m:wrap .u64 ((c:Nat):Int)=((c:Nat):Int):=kU _ (by omega) (by omega);have l:wrap .u64 ((d:Nat):Int)=((d:Nat):Int):=kU _ (by omega) (by omega);have u:wrap .u64 ((e:Nat):Int)=((e:Nat):Int):=kU _ (by omega) (by omega);have v:wrap .u64 ((f:Nat):Int)=((f:Nat):Int):=kU _ (by omega) (by omega);rw[m,l,u,v,Ov c];have w:wrap .u64 (((d:Nat):Int)+((c / 4294967296:Nat):Int))=((d+c / 4294967296:Nat):Int):=by rw[kU _ (by omega) (by omega)];omega
 rw[w,Ov,KW (by omega)];have q:wrap .u64 (((f:Nat):Int)+(((d+c / 4294967296) / 4294967296:Nat):Int))=((f+(d+c / 4294967296) / 4294967296:Nat):Int):=by rw[kU _ (by omega) (by omega)];omega
 have t:wrap .u64 ((((d+c / 4294967296)%4294967296:Nat):Int)+((e:Nat):Int))=(((d+c / 4294967296)%4294967296+e:Nat):Int):=by rw[kU _ (by omega) (by omega)];omega
 rw[q,t,Ov];have w8:wrap .u64 (((f+(d+c / 4294967296) / 4294967296:Nat):Int)+((((d+c / 4294967296)%4294967296+e) / 4294967296:Nat):Int))=((N / 18446744073709551616:Nat):Int):=by
  rw[kU _ (by omega) (by omega)];omega
 rw[w8]
def Uf(n a b:Nat)(j:a<9223372036854775808)(k:b<9223372036854775808):vI n (a:Int) (b:Int)=some (if a*b<9223372036854775808 then(((a*b:Nat):Int),0)else(0,15)):=by
 have g:decide ((a:Int)<0)=false:=am (by omega);have d2:decide ((b:Int)<0)=false:=am (by omega);have i:wrap .u64 (a:Int)=a:=kU _ (by omega) (by omega);have f:wrap .u64 (b:Int)=b:=kU _ (by omega) (by omega);simp only[vI,tM,g,d2,af,i,f,ob,XN n a b (by omega) (by omega)];generalize a*b=N;by_cases h:18446744073709551616<=N
 ·have c:decide (((N / 18446744073709551616:Nat):Int)>0)=true:=aq (by omega);rw[c,ab (by omega)];rfl
 ·have c:decide (((N / 18446744073709551616:Nat):Int)>0)=false:=am (by omega);have e:N%18446744073709551616=N:=sL (by omega);rw[c,e];simp only[af,vp,ca,sS,ia,aj];by_cases d:N<9223372036854775808
  ·have d4:decide (((N:Nat):Int)<=9223372036854775807)=true:=aq (by omega);rw[d4,ae d,aj,wrap_i64 _ (by omega) (by omega)]
  ·have d4:decide (((N:Nat):Int)<=9223372036854775807)=false:=am (by omega);rw[d4,ab d,af]
def E16:Nat:=10000000000000000
def S7{x:Nat}(hx:17<=x):E16<10 ^ x:=by
 have:(10:Nat) ^ 17<=10 ^ x:=n6 (by decide) hx;have a:(10:Nat) ^ 17=100000000000000000:=by decide
 unfold E16;omega
def KC(n:Nat)(g l:Bool)(d:aa)(x:Nat)(s:Int)(hd:∀c∈d,bp c=true)(p:d≠[])(i:d.length<=17)(hx:x<=18)(o:18<n):
  ef n g l d (x:Int) s=some (if dval 0 d*10 ^ x<=E16 then(((dval 0 d*10 ^ x:Nat):Int),0)else(0,6)):=by
 obtain⟨f,k⟩:=IX hd p (by omega);have q:dval 0 d<10 ^ 17:=qV k (n6 (by decide) i);have hp:(10:Nat) ^ x<=10 ^ 18:=n6 (by decide) hx;have j:(10:Nat) ^ 17=100000000000000000:=by decide
 have e:(10:Nat) ^ 18=1000000000000000000:=by decide
 have m:Nat.ble d.length 9223372036854775806=true:=dT (by omega);simp only[ef,m,aj,f,ob,Po n x hx o,eI,af,Uf n _ _ (show dval 0 d<9223372036854775808 by omega) (show 10 ^ x<9223372036854775808 by omega)];generalize dval 0 d*10 ^ x=N;unfold E16;by_cases h:N<9223372036854775808
 ·rw[ae h];simp only[eI,af];by_cases b:N<=10000000000000000
  ·have a:decide (((N:Nat):Int)>10000000000000000)=false:=am (by omega);rw[a,ae b,af]
  ·have a:decide (((N:Nat):Int)>10000000000000000)=true:=aq (by omega);rw[a,ab b,aj]
 ·rw[ab h,ab (by omega)];rfl
def pre(d:aa)(i:Nat):Nat:=dval 0 (d.take i)*10 ^ (i - d.length)
def P9{d:aa}{i:Nat}{c:UInt8}(h:d[i]?=some c):pre d (i+1)=10*pre d i+(c.toNat - 48):=by
 have a:=tj h;unfold pre;rw[sg,h,show i+1 - d.length=0 by omega,show i - d.length=0 by omega];simp only[Option.toList,GT,AE,qN];omega
def QB{d:aa}{i:Nat}(h:d.length<=i):pre d (i+1)=10*pre d i:=by
 unfold pre;rw[iR (show d.length<=i+1 by omega),iR h,show i+1 - d.length=(i - d.length)+1 by omega,sC];rw[<-Es];omega
def Gu(d:aa):∀k i,pre d i<=pre d (i+k)
 | 0,i=>aQ _
 | k+1,i=>by
  have ih:=Gu d k i;rcases aF (i+k) d.length with b | a
  ·have:=P9 (bf b);rw[show i+(k+1)=i+k+1 by omega,this];omega
  ·have:=QB a;rw[show i+(k+1)=i+k+1 by omega,this];omega
def jv(n:Nat)(d:aa)(x:Nat)(hd:∀c∈d,bp c=true)(u:d.length<=100)(hx:x<=100)(v:d.length+x<n):
  ak n d (x:Int)=some (if dval 0 d*10 ^ x<=E16 then(((dval 0 d*10 ^ x:Nat):Int),1)else(0,0)):=by
 have a:pre d (d.length+x)=dval 0 d*10 ^ x:=by
  unfold pre;rw[iR (by omega),show d.length+x - d.length=x by omega]
 have w0:wrap .i64 (((d.length:Nat):Int)+(x:Int))=((d.length+x:Nat):Int):=by rw[wrap_i64 _ (by omega) (by omega)];omega
 have:=fK (step:=fj n) (λq=>∃i:Nat,i<=d.length+x/\pre d i<=E16/\q=(d,(x:Int),((pre d i:Nat):Int),(i:Int))) (λq=>d.length+x - q.2.2.2.toNat) (λ_=>if dval 0 d*10 ^ x<=E16 then .inr ((dval 0 d*10 ^ x:Nat):Int)else .inl (0,0)) (by
  rintro q ⟨i,hi,hp,rfl⟩;simp only[fj,w0,iO];unfold E16 at hp ⊢;have t:wrap .i64 ((i:Int)+1)=((i+1:Nat):Int):=by rw[wrap_i64 _ (by omega) (by omega)];omega
  have p:wrap .i64 (10*((pre d i:Nat):Int))=((10*pre d i:Nat):Int):=by rw[wrap_i64 _ (by omega) (by omega)];omega
  by_cases j:i<d.length+x
  ·have r:=Gu d (d.length+x - (i+1)) (i+1);rw[show i+1+(d.length+x - (i+1))=d.length+x by omega,a]at r;simp only[j,oc,aj,t,p];rcases aF i d.length with e | g
   ·obtain⟨c,hc⟩:∃c,d[i]?=some c:=⟨d[i],bf e⟩;have l:=(ck c).1 (hd c (fG hc));have hs:=P9 hc;have o:wrap .u8 (((c.toNat:Nat):Int) - 48)=((c.toNat - 48:Nat):Int):=by rw[ke _ (by omega) (by omega)];omega
    have m:wrap .i64 ((c.toNat - 48:Nat):Int)=((c.toNat - 48:Nat):Int):=wrap_i64 _ (by omega) (by omega);have s:wrap .i64 (((10*pre d i:Nat):Int)+((c.toNat - 48:Nat):Int))=((pre d (i+1):Nat):Int):=by rw[wrap_i64 _ (by omega) (by omega)];omega
    simp only[e,oc,aj,dE hc,ob,o,m,s];by_cases k:pre d (i+1)<=10000000000000000
    ·have b:decide (((pre d (i+1):Nat):Int)>10000000000000000)=false:=am (by omega);simp only[b,af];exact .inl ⟨_,rfl,⟨i+1,j,k,rfl⟩,by simp only[ch];omega,trivial⟩
    ·have b:decide (((pre d (i+1):Nat):Int)>10000000000000000)=true:=aq (by omega);simp only[b,aj];rw[ab (by omega)];exact .inr rfl
   ·have hs:=QB g;have f:¬i<d.length:=by omega
    simp only[f,nK,af];rw[<-hs];by_cases k:pre d (i+1)<=10000000000000000
    ·have b:decide (((pre d (i+1):Nat):Int)>10000000000000000)=false:=am (by omega);simp only[b,af];exact .inl ⟨_,rfl,⟨i+1,j,k,rfl⟩,by simp only[ch];omega,trivial⟩
    ·have b:decide (((pre d (i+1):Nat):Int)>10000000000000000)=true:=aq (by omega);simp only[b,aj];rw[ab (by omega)];exact .inr rfl
  ·have:i=d.length+x:=by omega
   subst this;simp only[ED,nK,af];rw[a]at hp ⊢;rw[ae hp];exact .inr rfl) n (d,(x:Int),0,0) ⟨0,by omega,by unfold pre E16;simp[pp],by unfold pre;simp[pp]⟩ (by simp;omega)
 simp only[ak,this,ob];by_cases h:dval 0 d*10 ^ x<=E16
 ·rw[ae h,ae h]
 ·rw[ab h,ab h]
def okM(d:aa)(x:Int):Prop:=(∀c∈d,bp c=true)/\1<=d.length/\d.length<=17/\d.head?≠some 48/\0<=x/\x<=16/\¬(x=0/\d.length<5)/\dval 0 d*10 ^ x.toNat<=E16
def okL(d:aa)(x s:Int):Prop:=okM d x/\0<=s/\s<=(d.length:Int)+x
def okS(g:Bool)(d:aa)(x s:Int):Prop:=d.length=4/\(∀c∈d,bp c=true\/c=88)/\x=0/\¬(g=true/\all0 d=true)/\0<=s/\s<=4/\¬(0<s/\hasX d=true)
def okY(g l:Bool)(d:aa)(x s:Int):Prop:=if l=true then okL d x s else okS g d x s
instance (d:aa)(x:Int):Decidable (okM d x):=by unfold okM;infer_instance
instance (d:aa)(x s:Int):Decidable (okL d x s):=by unfold okL;infer_instance
instance (g:Bool)(d:aa)(x s:Int):Decidable (okS g d x s):=by unfold okS;infer_instance
instance (g l:Bool)(d:aa)(x s:Int):Decidable (okY g l d x s):=by unfold okY;infer_instance
def Ll(d:aa):d.all bp=true↔∀c∈d,bp c=true:=cE
def G5(d:aa):(d.all λc=>bp c||c==88)=true↔∀c∈d,bp c=true\/c=88:=by
 rw[cE];constructor
 ·intro h c hc;have:=h c hc;simpa using this
 ·intro h c hc;have:=h c hc;simpa using this
def SK(c:UInt8):(((c.toNat:Nat):Int)==48)=(c==48):=nM c 48
def Rr(n:Nat)(g l:Bool)(d:aa)(x s:Int)(A:200<n)(hd:d.length<=100):aT n g l d x s=some (decide (okM d x)):=by
 unfold aT;by_cases y:d.length<1
 ·have e:decide (((d.length:Nat):Int)<1)=true:=aq (by omega);rw[e,am (λh:okM d x=>by have:=h.2.1;omega)];rfl
 ·have e:decide (((d.length:Nat):Int)<1)=false:=am (by omega);rw[e,af];by_cases z:d.length>17
  ·have e:decide (((d.length:Nat):Int)>17)=true:=aq (by omega);rw[e,am (λh:okM d x=>by have:=h.2.2.1;omega)];rfl
  ·have e:decide (((d.length:Nat):Int)>17)=false:=am (by omega);rw[e,af,Jt n d (by omega) (by omega)];simp only[ob];cases o:d.all bp with
   | false=>
    rw[am (λh:okM d x=>by rw[(Ll d).2 h.1]at o;cases o)];rfl
   | true=>
    have a:=(Ll d).1 o;obtain⟨c,r,rfl⟩:∃c r,d=c::r:=by
     cases d with
     | nil=>simp at y
     | cons c r=>exact⟨c,r,rfl⟩
    have p:sx (c::r) 0=some c:=by simp[sx]
    simp only[ca,af,p,SK];by_cases i:c=48
    ·rw[am (λh:okM (c::r) x=>h.2.2.2.1 (by rw[i];rfl)),i];rfl
    ·have e:(c==48)=false:=aK.2 i;rw[e,af];by_cases u:x<0
     ·rw[aq u,am (λh:okM (c::r) x=>by have:=h.2.2.2.2.1;omega)];rfl
     ·rw[am u,af];by_cases v:x>16
      ·rw[aq v,am (λh:okM (c::r) x=>by have:=h.2.2.2.2.2.1;omega)];rfl
      ·rw[am v,af];obtain⟨k,rfl⟩:∃k:Nat,x=(k:Int):=⟨x.toNat,by omega⟩;have t:=KC n g l (c::r) k s a (by simp) (by omega) (by omega) (by omega);rw[t];have key:¬((k:Int)=0/\(c::r).length<5)->(okM (c::r) (k:Int)↔dval 0 (c::r)*10 ^ k<=E16):=by
        intro f;constructor
        ·intro h;simpa using h.2.2.2.2.2.2.2
        ·intro h;exact⟨a,by omega,by omega,by simpa using i,by omega,by omega,f,by simpa using h⟩
       have b:¬((k:Int)=0/\(c::r).length<5)->(ob (some (if dval 0 (c::r)*10 ^ k<=E16 then(((dval 0 (c::r)*10 ^ k:Nat):Int),(0:Int))else(0,6))) λq=>(some (q.2==0)))=some (decide (okM (c::r) (k:Int))):=by
        intro f;by_cases m:dval 0 (c::r)*10 ^ k<=E16
        ·rw[ae m,aq ((key f).2 m)];rfl
        ·rw[ab m,am (λh=>m ((key f).1 h))];rfl
       by_cases j:(k:Int)=0
       ·have e:((k:Int)==0)=true:=bu.2 j;rw[e,aj];by_cases w:(c::r).length<5
        ·have e:decide ((((c::r).length:Nat):Int)<5)=true:=aq (by omega);rw[e,am (λh:okM (c::r) (k:Int)=>h.2.2.2.2.2.2.1 ⟨j,w⟩)];rfl
        ·have e:decide ((((c::r).length:Nat):Int)<5)=false:=am (by omega);rw[e,af];exact b (λh=>w h.2)
       ·have e:((k:Int)==0)=false:=aK.2 j;rw[e,af];exact b (λh=>j h.1)
def Ob(n:Nat)(g l:Bool)(d:aa)(x s:Int)(c:200<n)(hd:d.length<=100):
  (ob (aT n g l d x s) λr=>(cond (!r) (some (6:Int)) (cond (decide (s<0)) (some 6) (cond (decide (s>(wrap .i64 (((d.length:Nat):Int)+x)))) (some 6) (some 0)))))=some (if okL d x s then 0 else 6):=by
 rw[Rr n g l d x s c hd];simp only[ob];by_cases h:okM d x
 ·rw[aq h];have hx:=h.2.2.2.2;have w:wrap .i64 (((d.length:Nat):Int)+x)=((d.length:Nat):Int)+x:=wrap_i64 _ (by omega) (by omega);rw[w];simp only[ca,af,bC];by_cases a:s<0
  ·rw[ae a,ab (λq:okL d x s=>by have:=q.2.1;omega)]
  ·rw[ab a];by_cases b:s>((d.length:Nat):Int)+x
   ·rw[ae b,ab (λq:okL d x s=>by have:=q.2.2;omega)]
   ·rw[ab b,ae ⟨h,by omega,by omega⟩]
 ·rw[am h,ab (λq:okL d x s=>h q.1)];rfl
def Hm(n:Nat)(g l:Bool)(d:aa)(x s:Int)(v:200<n)(hd:d.length<=100):jh n g l d x s=some (if okY g l d x s then 0 else 6):=by
 obtain⟨y,z,hy⟩:=Rj n d (by omega) (by omega);unfold jh;rw[Iq n d (by omega) (by omega),z,tc];cases l with
 | true=>
  have b:(if okY g true d x s then(0:Int)else 6)=if okL d x s then 0 else 6:=by simp only[okY,aG]
  rw[b];have st:=Ob n g true d x s v hd;simp only[aj];generalize(ob (aT n g true d x s) λr=>(cond (!r) (some (6:Int)) (cond (decide (s<0)) (some 6) (cond (decide (s>(wrap .i64 (((d.length:Nat):Int)+x)))) (some 6) (some 0)))))=T at st ⊢;simp only[ob];rw[st];cases(((d.length:Nat):Int)==4)<;>cases(d.all λc=>bp c||c==88)<;>cases(x==0)<;>cases g<;>cases(y==[])<;>cases(s != 0)<;>rfl
 | false=>
  have b:(if okY g false d x s then(0:Int)else 6)=if okS g d x s then 0 else 6:=by simp only[okY,bj,az]
  rw[b];simp only[af,ob];by_cases f:d.length=4
  ·have h:(((d.length:Nat):Int)==4)=true:=bu.2 (by omega);rw[h,aj];cases j:(d.all λc=>bp c||c==88)with
   | false=>
    rw[ab (λq:okS g d x s=>by rw[(G5 d).2 q.2.1]at j;cases j)];rfl
   | true=>
    have e:=(G5 d).1 j;rw[aj];by_cases i:x=0
    ·subst i;have w:wrap .i64 (((d.length:Nat):Int)+0)=4:=by rw[f];decide
     rw[w];have a:¬(g=true/\all0 d=true)->(cond (s != 0) (cond (!(!hasX d)) (some (6:Int)) (cond (decide (s<0)) (some 6) (cond (decide (s>4)) (some 6) (some 0)))) (cond (decide (s<0)) (some 6) (cond (decide (s>4)) (some 6) (some 0))))=some (if okS g d 0 s then 0 else 6):=by
      intro u;simp only[bC,HS,Bool.not_not];by_cases s0:s=0
      ·subst s0;rw[ae rfl,ab (by omega),ab (by omega),ae ⟨f,e,rfl,u,by omega,by omega,by omega⟩]
      ·rw[ab s0];cases p:hasX d with
       | true=>
        by_cases k:s<0
        ·rw[ab (λq:okS g d 0 s=>by have:=q.2.2.2.2.1;omega)];rfl
        ·rw[ab (λq:okS g d 0 s=>q.2.2.2.2.2.2 ⟨by omega,p⟩)];rfl
       | false=>
        rw[af];by_cases k:s<0
        ·rw[ae k,ab (λq:okS g d 0 s=>by have:=q.2.2.2.2.1;omega)]
        ·rw[ab k];by_cases o:s>4
         ·rw[ae o,ab (λq:okS g d 0 s=>by have:=q.2.2.2.2.2.1;omega)]
         ·rw[ab o,ae ⟨f,e,rfl,u,by omega,by omega,λq=>by rw[p]at q;cases q.2⟩]
     have m:((0:Int)==0)=true:=rfl;rw[m,aj];cases g with
     | false=>
      simp only[af];exact a (by simp)
     | true=>
      simp only[aj];rw[hy];cases t:all0 d with
      | true=>rw[ab (λq:okS true d 0 s=>q.2.2.2.1 ⟨rfl,t⟩)];rfl
      | false=>
       simp only[ia,aj];exact a (by rw[t];simp)
    ·have m:(x==0)=false:=aK.2 i;rw[m,ab (λq:okS g d x s=>i q.2.2.1)];rfl
  ·have h:(((d.length:Nat):Int)==4)=false:=aK.2 (by omega);rw[h,ab (λq:okS g d x s=>f q.1)];rfl
def SS(d:aa):cnt 48 57 d=d.length↔∀c∈d,bp c=true:=LH 48 57 d
def NA(n:Nat)(g l:Bool)(d:aa)(x s:Int)(M:200<n)(hd:d.length<=100):jZ n g l d x s=some (if okY g l d x s then 1 else 0):=by
 have hs:=JK d;have w:=G9 d;have p:=NG d;have o:=SS d;unfold jZ;rw[GK n d 48 57 (by omega) (by omega),GK n d 88 88 (by omega) (by omega),GK n d 48 48 (by omega) (by omega)];simp only[ob];generalize K:cnt 48 57 d=A at *;generalize L:cnt 88 88 d=B at *;have w0:wrap .i64 (((A:Nat):Int)+((B:Nat):Int))=((A+B:Nat):Int):=by rw[wrap_i64 _ (by omega) (by omega)];omega
 rw[w0];simp only[HS,bC,Gf];by_cases z:A+B=d.length
 ·rw[ae (by omega)];have v:=hs.2.1 z;by_cases D:s<0
  ·rw[ae D,ab];intro q;unfold okY at q;split at q
   ·have:=q.2.1;omega
   ·have:=q.2.2.2.2.1;omega
  ·rw[ab D];cases l with
   | false=>
    have i:(if okY g false d x s then(1:Int)else 0)=if okS g d x s then 1 else 0:=by simp only[okY,bj,az]
    rw[i,af];by_cases j:d.length=4
    ·rw[ae (by omega)];by_cases f:x=0
     ·rw[ae f];have a:¬(g=true/\all0 d=true)->(if s>4 then some (0:Int)else if s>0 then(if((B:Nat):Int)>0 then some 0 else some 1)else some 1)=some (if okS g d x s then 1 else 0):=by
       intro E;by_cases m:s>4
       ·rw[ae m,ab (λq:okS g d x s=>by have:=q.2.2.2.2.2.1;omega)]
       ·rw[ab m];by_cases G:s>0
        ·rw[ae G];by_cases t:((B:Nat):Int)>0
         ·rw[ae t,ab (λq:okS g d x s=>q.2.2.2.2.2.2 ⟨by omega,by rw[w];exact aq (by omega)⟩)]
         ·rw[ab t,ae ⟨j,v,f,E,by omega,by omega,λq=>by
           have:=q.2;rw[w,cr]at this;omega⟩]
        ·rw[ab G,ae ⟨j,v,f,E,by omega,by omega,λq=>by omega⟩]
      cases g with
      | false=>rw[af];exact a (by simp)
      | true=>
       rw[aj,jP];by_cases b:all0 d=true
       ·rw[ae (by have:=p.1 b;omega),ab (λq:okS true d x s=>q.2.2.2.1 ⟨rfl,b⟩)]
       ·rw[ab (λq=>b (p.2 (by omega)))];exact a (λq=>b q.2)
     ·rw[ab f,ab (λq:okS g d x s=>f q.2.2.1)]
    ·rw[ab (by omega),ab (λq:okS g d x s=>j q.1)]
   | true=>
    have i:(if okY g true d x s then(1:Int)else 0)=if okL d x s then 1 else 0:=by simp only[okY,aG]
    rw[i,aj];by_cases t:((B:Nat):Int)>0
    ·rw[ae t,ab];intro q;have:=o.2 q.1.1;omega
    ·rw[ab t];have h:=o.1 (by omega);by_cases j:((A:Nat):Int)<1
     ·rw[ae j,ab (λq:okL d x s=>by have:=q.1.2.1;omega)]
     ·rw[ab j];by_cases f:((A:Nat):Int)>17
      ·rw[ae f,ab (λq:okL d x s=>by have:=q.1.2.2.1;omega)]
      ·rw[ab f];obtain⟨c,r,rfl⟩:∃c r,d=c::r:=by
        cases d with
        | nil=>simp at z;omega
        | cons c r=>exact⟨c,r,rfl⟩
       have y:sx (c::r) 0=some c:=by simp[sx]
       simp only[y,SK,jP];by_cases b:c=48
       ·rw[ae b,ab (λq:okL (c::r) x s=>q.1.2.2.2.1 (by rw[b];rfl))]
       ·rw[ab b];by_cases C:x<0
        ·rw[ae C,ab (λq:okL (c::r) x s=>by have:=q.1.2.2.2.2.1;omega)]
        ·rw[ab C];by_cases H:x>16
         ·rw[ae H,ab (λq:okL (c::r) x s=>by have:=q.1.2.2.2.2.2.1;omega)]
         ·rw[ab H];obtain⟨k,rfl⟩:∃k:Nat,x=(k:Int):=⟨x.toNat,by omega⟩;have J:wrap .i64 (((A:Nat):Int)+(k:Int))=((A+k:Nat):Int):=by rw[wrap_i64 _ (by omega) (by omega)];omega
          rw[J,jv n (c::r) k h hd (by omega) (by omega)];have u:(c::r).length=A:=by omega
          have a:¬((k:Int)=0/\(c::r).length<5)->(if s>((A+k:Nat):Int)then some (0:Int)else some (if dval 0 (c::r)*10 ^ k<=E16 then(((dval 0 (c::r)*10 ^ k:Nat):Int),(1:Int))else(0,0)).2)=some (if okL (c::r) (k:Int) s then 1 else 0):=by
           intro I;by_cases m:s>((A+k:Nat):Int)
           ·rw[ae m,ab (λq:okL (c::r) (k:Int) s=>by have:=q.2.2;rw[u]at this;omega)]
           ·rw[ab m];by_cases e:dval 0 (c::r)*10 ^ k<=E16
            ·rw[ae e,ae ⟨⟨h,by omega,by omega,by simpa using b,by omega,by omega,I,by simpa using e⟩,by omega,by omega⟩]
            ·rw[ab e,ab (λq:okL (c::r) (k:Int) s=>e (by simpa using q.1.2.2.2.2.2.2.2))]
          by_cases e:(k:Int)=0
          ·rw[ae e];by_cases F:((A:Nat):Int)<5
           ·rw[ae F,ab (λq:okL (c::r) (k:Int) s=>q.1.2.2.2.2.2.2.1 ⟨e,by omega⟩)]
           ·rw[ab F];exact a (λq=>by omega)
          ·rw[ab e];exact a (λq=>e q.1)
 ·rw[ab (by omega),ab];intro q;apply z;rw[hs.2];unfold okY at q;split at q
  ·exactλc hc=>.inl (q.1.1 c hc)
  ·exact q.2.1
def J1:∀(l:aa) (a:Nat),a*10 ^ l.length<=dval a l
 | [],a=>by rw[pp];simp
 | c::l,a=>by
  have ih:=J1 l (vw a c);rw[ou,aN,sC];have h:a*10<=vw a c:=AO _ _;have d:=n8 (10 ^ l.length) h;have b:a*(10 ^ l.length*10)=a*10*10 ^ l.length:=by rw[uv (10 ^ l.length) 10,Es]
  omega
def uE:∀(l:aa) (a k:Nat),(∀c∈l,bp c=true)->a<10 ^ k->dval a l<10 ^ (l.length+k)
 | [],a,k,_,h=>by rw[pp];simpa using h
 | c::l,a,k,hd,h=>by
  have hc:=(ck c).1 (hd c (by simp));have hp:(10:Nat) ^ (k+1)=10 ^ k*10:=sC 10 k;have hs:vw a c=a*10+(c.toNat - 48):=rfl;have ih:=uE l (vw a c) (k+1) (λd b=>hd d (by simp[b])) (by omega);rw[ou,aN,show l.length+1+k=l.length+(k+1)by omega];exact ih
structure Num(d:aa)(k q:Nat):Prop where
 dig:∀c∈d,bp c=true
 ne:d≠[]
 wide:d.length+k<=17
 small:dval 0 d*10 ^ k<=E16
 sig:q<=d.length+k
def Hi{d:aa}(h:∀c∈d,bp c=true):hasX d=false:=by
 unfold hasX;rw[rU];intro c hc a;rw[bu]at a;have:=(ck c).1 (h c hc);rw[a]at this;exact absurd this.2 (by decide)
def s9{g l:Bool}{d:aa}{x s:Int}(h:okY g l d x s)(i:hasX d=false):∃k q:Nat,x=(k:Int)/\s=(q:Int)/\Num d k q:=by
 cases l with
 | true=>
  have h:okL d x s:=by simpa[okY]using h
  obtain⟨⟨a,f,y,m,v,w,B,A⟩,t,u⟩:=h;refine⟨x.toNat,s.toNat,by omega,by omega,a,by intro e;subst e;simp at f,?_,A,by omega⟩;cases d with
  | nil=>simp at f
  | cons c r=>
   have hc:=(ck c).1 (a c (by simp));have j:c≠48:=by simpa using m
   have p:1<=vw 0 c:=by
    have:c.toNat≠48:=λe=>j (gu.1 e);show 1<=0*10+(c.toNat - 48);omega
   have z:=J1 r (vw 0 c);rw[<-ou]at z;have t:10 ^ r.length<=dval 0 (c::r):=by
    have:=n8 (10 ^ r.length) p;omega
   have n:=n8 (10 ^ x.toNat) t;rw[<-Nat.pow_add]at n;rcases aF (r.length+x.toNat) 17 with b | o
   ·simp only[aN];omega
   ·have:=S7 o;omega
 | false=>
  have h:okS g d x s:=by simpa[okY]using h
  obtain⟨a,f,y,m,v,w,B⟩:=h;have hd:∀c∈d,bp c=true:=by
   intro c hc;rcases f c hc with h | h
   ·exact h
   ·exfalso;unfold hasX at i;rw[rU]at i;exact i c hc (bu.2 h)
  have b:=uE d 0 0 hd (by simp);rw[a]at b;refine⟨0,s.toNat,by omega,by omega,hd,by intro e;subst e;simp at a,by omega,?_,by omega⟩;have m:(10:Nat) ^ (4+0)=10000:=by decide
  unfold E16;simp only[AE,qN];omega
def val(d:aa)(k:Nat):Nat:=dval 0 d*10 ^ k
def zM(n:Nat)(g l:Bool)(d:aa)(x s:Int)(b:200<n)(hd:d.length<=100):
  eG n g l d x s=some (if okY g l d x s/\hasX d=false then(if g then -((val d x.toNat:Nat):Int)else((val d x.toNat:Nat):Int),0)else(0,6)):=by
 unfold eG;rw[Hm n g l d x s b hd,tc];simp only[ob];by_cases h:okY g l d x s
 ·rw[ae h];cases c:hasX d with
  | true=>rw[ab (by simp)];rfl
  | false=>
   rw[ae ⟨h,rfl⟩];obtain⟨k,q,rfl,rfl,a⟩:=s9 h c;rw[KC n g l d k q a.dig a.ne (by have:=a.wide;omega) (by have:=a.wide;omega) (by omega),ae a.small];have hs:=a.small;unfold E16 at hs;cases g with
   | true=>
    simp only[eI,af,aj,ch,val,aG];rw[wrap_i64 _ (by omega) (by omega),zA]
   | false=>simp[val]
 ·rw[ab h,ab (λq=>h q.1)];rfl
def kq{a b:aa}(h:a.length+b.length<=1000000):cat a b=some (a++b):=by
 unfold cat;rw[ae (by omega)]
def cut1{l:aa}{i:Nat}{c:UInt8}(h:l[i]?=some c):List.drop i (List.take (i+1) l)=[c]:=by
 have a:=tj h;rw[sg,h,D1 (by rw[dq];omega)];rfl
def RZ{l:aa}{i:Nat}{c:UInt8}(h:l[i]?=some c):List.take (i+1) l=List.take i l++[c]:=by
 rw[sg,h];rfl
def qz{g l:Bool}{d:aa}{x s:Int}(h:okY g l d x s)(a:hasX d=true):l=false/\x=0/\s=0/\d.length=4/\∀c∈d,bp c=true\/c=88:=by
 cases l with
 | true=>
  have h:okL d x s:=by simpa[okY]using h
  rw[Hi h.1.1]at a;cases a
 | false=>
  have h:okS g d x s:=by simpa[okY]using h
  obtain⟨f,j,b,k,m,n,i⟩:=h;refine⟨rfl,b,?_,f,j⟩;have:¬0<s:=λe=>i ⟨e,a⟩;omega
def kC{g l:Bool}{d:aa}{x s:Int}(h:okY g l d x s):0<=x/\x<=16/\0<=s/\s<=17/\1<=d.length/\d.length<=17:=by
 cases b:hasX d with
 | true=>
  obtain⟨rfl,rfl,rfl,i,_⟩:=qz h b;omega
 | false=>
  obtain⟨k,q,rfl,rfl,a⟩:=s9 h b;have f:=a.wide;have j:=a.sig;have e:1<=d.length:=by
   cases d with
   | nil=>exact absurd rfl a.ne
   | cons c r=>simp
  omega
def numU(d:UInt8):aa->Nat⊕(Nat×Nat)
 | []=>.inr (d.toNat - 48,2)
 | e::_=>if bp e=true then .inr (10*(d.toNat - 48)+(e.toNat - 48),3)else .inr (d.toNat - 48,2)
def numT:aa->Nat⊕(Nat×Nat)
 | []=>.inl 1
 | d::r=>if 49<=d.toNat/\d.toNat<=57 then numU d r else .inl 1
def numS(letter:UInt8):aa->Nat⊕(Nat×Nat)
 | []=>.inr (0,0)
 | c::r=>if c=letter then numT r else .inr (0,0)
def uf(letter:UInt8):numS letter []=.inr (0,0):=rfl
def kZ(letter c:UInt8)(r:aa):numS letter (c::r)=if c=letter then numT r else .inr (0,0):=rfl
def vF:numT []=.inl 1:=rfl
def me(d:UInt8)(r:aa):numT (d::r)=if 49<=d.toNat/\d.toNat<=57 then numU d r else .inl 1:=rfl
def rD(d:UInt8):numU d []=.inr (d.toNat - 48,2):=rfl
def kE(d e:UInt8)(r:aa):numU d (e::r)=if bp e=true then .inr (10*(d.toNat - 48)+(e.toNat - 48),3)else .inr (d.toNat - 48,2):=rfl
def yL(c:UInt8)(h:c.toNat<128):(Utf8.encode ((c.toNat:Nat):Int)).data.toList=[c]:=by
 have:=iG (λc=>(decide (128<=c.toNat))||(Utf8.encode ((c.toNat:Nat):Int)).data.toList==[c]) (by decide +kernel) c;simp only[iC,cr,bu]at this;rcases this with a | a
 ·omega
 ·exact a
def qT{c:UInt8}(h:48<=c.toNat/\c.toNat<=57):Lib.digitVal c=some (c.toNat - 48):=by
 unfold Lib.digitVal;rw[ae h]
def zH{c:UInt8}(h:48<=c.toNat/\c.toNat<=57)(r:aa):Lib.atoi (c::r)=(Lib.decNat (c::r)).map λ(m:Nat)=>(m:Int):=by
 have b:(c==45)=false:=by
  rw[aK];rintro rfl;exact absurd h.1 (by decide)
 have a:(c==43)=false:=by
  rw[aK];rintro rfl;exact absurd h.1 (by decide)
 simp only[Lib.atoi,b,a,bj,az]
def Py{c:UInt8}(h:48<=c.toNat/\c.toNat<=57):Lib.atoi [c]=some ((c.toNat - 48:Nat):Int):=by
 rw[zH h];simp only[Lib.decNat,List.isEmpty_cons,bj,az,Lib.decFrom,qT h,fi,A7,cU]
def Hy{c e:UInt8}(h:48<=c.toNat/\c.toNat<=57)(a:48<=e.toNat/\e.toNat<=57):Lib.atoi [c,e]=some ((10*(c.toNat - 48)+(e.toNat - 48):Nat):Int):=by
 rw[zH h];simp only[Lib.decNat,List.isEmpty_cons,bj,az,Lib.decFrom,qT h,qT a,fi,A7,cU];rw[uv]
def zf(c:UInt8):hasB [49,50,51,52,53,54,55,56,57] c=decide (49<=c.toNat/\c.toNat<=57):=by
 have:=iG (λc=>hasB [49,50,51,52,53,54,55,56,57] c==decide (49<=c.toNat/\c.toNat<=57)) (by decide +kernel) c;simpa using this
def ka{p q:UInt8->Bool}(h:∀c,p c=q c):∀(k:Nat) (l:aa),bq p k l=bq q k l
 | 0,_=>by simp[bq]
 | _+1,[]=>by simp[bq]
 | k+1,c::l=>by simp only[bq,h c,ka h k l]
def nE{S:aa}{a:Nat}{c:UInt8}{r:aa}(h:S.drop a=c::r):a<S.length/\S[a]?=some c/\S.drop (a+1)=r:=by
 have b:a<S.length:=by
  rcases aF a S.length with q | q
  ·exact q
  ·rw[iU q]at h;cases h
 have d:S[a]?=some S[a]:=bf b;have hd:=bR d;rw[h]at hd;injection hd with h1 h2;exact⟨b,by rw[d,h1],h2.symm⟩
def LA(n:Nat)(letter:UInt8)(S:aa)(a:Nat)(h:a<=S.length)(D:S.length<100000)(B:S.length<n):
  cY n [letter] S (a:Int)=some (match numS letter (S.drop a)with | .inl k=>.inr (((a+k:Nat):Int),5,S,((a+k:Nat):Int)) | .inr (v,k)=>.inl ((v:Int),S,((a+k:Nat):Int))):=by
 unfold cY;rw[nh n [letter] S a h (by omega)];cases hd:S.drop a with
 | nil=>simp[uf]
 | cons c r=>
  obtain⟨z,C,w⟩:=nE hd;rw[kZ];by_cases hc:c=letter
  ·have i:List.take [letter].length (c::r)=[letter]:=by simp[hc]
   have s:a+[letter].length=a+1:=rfl;rw[ae i,s,ae hc];clear i;simp only[ob,ca,af];rw[zO n _ S (a+1) (by omega) (by omega),w];cases r with
   | nil=>simp[vF]
   | cons d u=>
    obtain⟨x,y,p⟩:=nE w;rw[me];simp only[zf,cr];by_cases b:49<=d.toNat/\d.toNat<=57
    ·rw[ae b,ae b];simp only[];rw[vL n _ 0 1 S (a+1+1) (by omega) (by omega) B,p];have E:=lX (hasB [48,49,50,51,52,53,54,55,56,57]) (1:Int).toNat u;rw[ab (by omega)];rw[ka yk];simp only[];rw[yL d (by omega)];have j:Nat.ble ([d]:aa).length 18=true:=rfl;have m:∀e:UInt8,Nat.ble ([d,e]:aa).length 18=true:=λ_=>rfl;have q:a+1+1=a+2:=rfl;have A:a+2+1=a+3:=rfl;have t:=Py (show 48<=d.toNat/\d.toNat<=57 by omega);cases u with
     | nil=>
      have hs:bq bp (1:Int).toNat []=0:=rfl;rw[hs,rD];rw[kq (by simp)];simp only[List.take_nil,lu,cG,j,aj,t,opt,q]
     | cons e f=>
      by_cases g:bp e=true
      ·have hs:bq bp (1:Int).toNat (e::f)=1:=by
        show bq bp (0+1) (e::f)=1;simp[bq,g]
       have o:=Hy (show 48<=d.toNat/\d.toNat<=57 by omega) ((ck e).1 g);rw[hs,kE,ae g];have l:List.take 1 (e::f)=[e]:=rfl;rw[l,kq (by simp)];simp only[dB,dI,m,aj,o,opt,q,A]
      ·have hs:bq bp (1:Int).toNat (e::f)=0:=by
        show bq bp (0+1) (e::f)=0;simp[bq,g]
       rw[hs,kE,ab g];have l:List.take 0 (e::f)=[]:=rfl;rw[l,kq (by simp)];simp only[lu,j,aj,t,opt,cG,q]
    ·rw[ab b,ab b]
  ·have e:¬List.take [letter].length (c::r)=[letter]:=by simp[hc]
   rw[ab e,ab hc];simp
def MW(n:Nat)(letter:UInt8)(S:aa)(a:Nat)(h:a<=S.length)(I:S.length<100000):
  ah n S (a:Int) ((letter.toNat:Nat):Int)=some (match numS letter (S.drop a)with | .inl k=>(-1,((a+k:Nat):Int)) | .inr (v,k)=>((v:Int),((a+k:Nat):Int))):=by
 unfold ah;rw[lB];cases hd:S.drop a with
 | nil=>
  have:S.length<=a:=by
   rcases aF a S.length with q | q
   ·rw[bR (bf q)]at hd;cases hd
   ·exact q
  rw[aq this];simp[uf]
 | cons c r=>
  obtain⟨z,A,i⟩:=nE hd;have F:wrap .i64 ((a:Int)+1)=((a+1:Nat):Int):=by rw[wrap_i64 _ (by omega) (by omega)];omega
  have x:wrap .i64 (((a+1:Nat):Int)+1)=((a+2:Nat):Int):=by rw[wrap_i64 _ (by omega) (by omega)];omega
  have D:wrap .i64 (((a+2:Nat):Int)+1)=((a+3:Nat):Int):=by rw[wrap_i64 _ (by omega) (by omega)];omega
  rw[am (show¬S.length<=a by omega),af,dE A];simp only[ob,F,x,D,lB,iO];have s:(((c.toNat:Nat):Int) != ((letter.toNat:Nat):Int))=!(c==letter):=by rw[bne,nM]
  rw[s,kZ];by_cases hc:c=letter
  ·have e:(!(c==letter))=false:=by rw[hc];simp
   rw[e,af,ae hc];cases r with
   | nil=>
    have:S.length<=a+1:=by
     rcases aF (a+1) S.length with q | q
     ·rw[bR (bf q)]at i;cases i
     ·exact q
    rw[aq this];rfl
   | cons d y=>
    obtain⟨w,g,b⟩:=nE i;rw[me];rw[am (show¬S.length<=a+1 by omega),af,dE g];simp only[];by_cases J:d.toNat<49
    ·have o:decide (((d.toNat:Nat):Int)<49)=true:=aq (by omega);rw[o,aj,ab (by omega)]
    ·have o:decide (((d.toNat:Nat):Int)<49)=false:=am (by omega);rw[o,af];by_cases H:d.toNat>57
     ·have j:decide (((d.toNat:Nat):Int)>57)=true:=aq (by omega);rw[j,aj,ab (by omega)]
     ·have j:decide (((d.toNat:Nat):Int)>57)=false:=am (by omega);rw[j,af,ae (by omega)];have E:wrap .i64 (wrap .u8 (((d.toNat:Nat):Int) - 48))=((d.toNat - 48:Nat):Int):=by
       rw[ke _ (by omega) (by omega),wrap_i64 _ (by omega) (by omega)];omega
      rw[E];cases y with
      | nil=>
       have:¬a+2<S.length:=by
        intro q;rw[bR (bf (show a+1+1<S.length from q))]at b;cases b
       rw[am this,rD];rfl
      | cons e G=>
       obtain⟨f,m,_⟩:=nE b;rw[kE];rw[aq (show a+2<S.length from f),aj,dE m];simp only[];by_cases t:e.toNat>=48
       ·have p:decide (((e.toNat:Nat):Int)>=48)=true:=aq (by omega);rw[p,aj];by_cases u:e.toNat<=57
        ·have l:decide (((e.toNat:Nat):Int)<=57)=true:=aq (by omega);have C:wrap .i64 (wrap .u8 (((e.toNat:Nat):Int) - 48))=((e.toNat - 48:Nat):Int):=by
          rw[ke _ (by omega) (by omega),wrap_i64 _ (by omega) (by omega)];omega
         have B:wrap .i64 (10*((d.toNat - 48:Nat):Int))=((10*(d.toNat - 48):Nat):Int):=by rw[wrap_i64 _ (by omega) (by omega)];omega
         have ws:wrap .i64 (((10*(d.toNat - 48):Nat):Int)+((e.toNat - 48:Nat):Int))=((10*(d.toNat - 48)+(e.toNat - 48):Nat):Int):=by rw[wrap_i64 _ (by omega) (by omega)];omega
         rw[l,aj,ae ((ck e).2 ⟨t,u⟩),C,B,ws]
        ·have l:decide (((e.toNat:Nat):Int)<=57)=false:=am (by omega);rw[l,af,ab (λq=>u ((ck e).1 q).2)]
       ·have p:decide (((e.toNat:Nat):Int)>=48)=false:=am (by omega);rw[p,af,ab (λq=>t ((ck e).1 q).1)]
  ·have e:(!(c==letter))=true:=by rw[aK.2 hc];rfl
   rw[e,aj,ab hc];rfl
def isDX(c:UInt8):Bool:=bp c||c==88
abbrev YR:=Bool×Bool×aa×Nat×Nat×Nat
def rc(g:Bool)(o:Nat):aa->Nat⊕YR
 | []=>.inl o
 | c::r=>if 49<=c.toNat/\c.toNat<=57 then
   (match numS 69 ((c::r).drop (1+bq bp 16 r))with
   | .inl j=>.inl (o+(1+bq bp 16 r)+j)
   | .inr (x,j)=>(match numS 83 ((c::r).drop (1+bq bp 16 r+j))with
    | .inl i=>.inl (o+(1+bq bp 16 r)+j+i)
    | .inr (s,i)=>.inr (g,true,(c::r).take (1+bq bp 16 r),x,s,o+(1+bq bp 16 r)+j+i)))
  else .inl o
def pZ(g:Bool)(o:Nat)(l:aa):Nat⊕YR:=
 if bq isDX 4 l<4 then .inl (o+bq isDX 4 l)else
  (match numS 83 (l.drop 4)with
  | .inl i=>.inl (o+4+i)
  | .inr (s,i)=>.inr (g,false,l.take 4,0,s,o+4+i))
def dR(c:UInt8)(l:aa):Nat:=if l.take 1=[c]then 1 else 0
def mG(l:aa):Nat⊕YR:=
 if dR 89 l=1 then rc (dR 45 (l.drop 1)==1) (1+dR 45 (l.drop 1)) (l.drop (1+dR 45 (l.drop 1)))
 else pZ (dR 45 l==1) (dR 45 l) (l.drop (dR 45 l))
def ki(c:UInt8)(l:aa):dR c l=0\/dR c l=1:=by
 unfold dR;split
 ·exact .inr rfl
 ·exact .inl rfl
def Ba(c:UInt8)(l:aa):dR c l<=l.length:=by
 unfold dR;split
 ·rename_i h;cases l with
  | nil=>simp at h
  | cons a l=>simp
 ·omega
def tO(n:Nat)(c:UInt8)(S:aa)(a:Nat)(h:a<=S.length)(b:S.length<100000):
  aA n [c] S (a:Int)=some (dR c (S.drop a)==1,S,((a+dR c (S.drop a):Nat):Int)):=by
 rw[nh n [c] S a h (by omega)];unfold dR;have e:[c].length=1:=rfl;rw[e];split<;>rfl
def yD(S:aa)(a:Nat):Nat⊕YR->(Int×Int×aa×Int)⊕(Bool×Bool×aa×Int×Int×aa×Int)
 | .inl k=>.inl (((a+k:Nat):Int),5,S,((a+k:Nat):Int))
 | .inr (g,l,d,x,s,k)=>.inr (g,l,d,(x:Int),(s:Int),S,((a+k:Nat):Int))
def oO(a:Nat):Nat⊕YR->Bool×Bool×aa×Int×Int×Int×Int
 | .inl k=>(false,false,[],0,0,((a+k:Nat):Int),5)
 | .inr (g,l,d,x,s,k)=>(g,l,d,(x:Int),(s:Int),((a+k:Nat):Int),0)
def Ru(letter:UInt8)(l:aa):(match numS letter l with | .inl k=>k<=l.length | .inr (_,k)=>k<=l.length):=by
 cases l with
 | nil=>simp[uf]
 | cons c r=>
  rw[kZ];by_cases hc:c=letter
  ·rw[ae hc];cases r with
   | nil=>simp[vF]
   | cons d b=>
    rw[me];by_cases hd:49<=d.toNat/\d.toNat<=57
    ·rw[ae hd];cases b with
     | nil=>simp[rD]
     | cons e f=>
      rw[kE];by_cases a:bp e=true
      ·rw[ae a];simp
      ·rw[ab a];simp
    ·rw[ab hd];simp
  ·rw[ab hc];simp
def yP{letter:UInt8}{S:aa}{a:Nat}(h:a<=S.length){v k:Nat}(b:numS letter (S.drop a)=.inr (v,k)):a+k<=S.length:=by
 have:=Ru letter (S.drop a);rw[b,ba]at this;simp only at this;omega
def Si(n:Nat)(S:aa)(a o:Nat)(g:Bool)(h:a+o<=S.length)(I:S.length<100000)(E:S.length<n):
  (ob (cn n [49,50,51,52,53,54,55,56,57] S ((a+o:Nat):Int)) λu=>(Sum.casesOn (motive:=λ_=>Option ((Int×Int×aa×Int)⊕(Bool×Bool×aa×Int×Int×aa×Int))) u (λd=>(some (.inl (d.1,d.2.1,d.2.2.1,d.2.2.2)))) (λl=>(ob (bY n [48,49,50,51,52,53,54,55,56,57] 0 16 l.2.1 l.2.2) λw=>(Sum.casesOn (motive:=λ_=>Option _) w (λf=>(some (.inl (f.1,f.2.1,f.2.2.1,f.2.2.2)))) (λt=>(ob (cat (Utf8.encode l.1).data.toList t.1) λA=>(ob (cY n [69] t.2.1 t.2.2) λv=>(Sum.casesOn (motive:=λ_=>Option _) v (λm=>(ob (cY n [83] m.2.1 m.2.2) λB=>(Sum.casesOn (motive:=λ_=>Option _) B (λq=>(some (.inr (g,true,A,m.1,q.1,q.2.1,q.2.2)))) (λe=>(some (.inl (e.1,e.2.1,e.2.2.1,e.2.2.2))))))) (λb=>(some (.inl (b.1,b.2.1,b.2.2.1,b.2.2.2)))))))))))))=some (yD S a (rc g o (S.drop (a+o)))):=by
 rw[zO n _ S (a+o) h (by omega)];cases hd:S.drop (a+o)with
 | nil=>simp[rc,yD,ob]
 | cons c r=>
  obtain⟨J,R,H⟩:=nE hd;simp only[zf,cr];by_cases hc:49<=c.toNat/\c.toNat<=57
  ·rw[ae hc];simp only[ob];rw[vL n _ 0 16 S (a+o+1) (by omega) (by omega) E,H];rw[ab (by omega),ka yk];simp only[];rw[yL c (by omega)];have F:(16:Int).toNat=16:=rfl;rw[F];have M:=lX bp 16 r;have N:r.length+(a+o+1)=S.length:=by
    have:=cb List.length H;rw[ba]at this;omega
   rw[kq (by simp only[aN,fR,dq];omega)];simp only[rc];rw[ae hc];generalize Q:bq bp 16 r=k at M ⊢;have O:[c]++List.take k r=List.take (1+k) (c::r):=by rw[pD];rfl
   rw[O];have y:a+o+1+k<=S.length:=by omega
   have C:List.drop (1+k) (c::r)=S.drop (a+o+1+k):=by
    rw[<-hd,i7];congr 1;omega
   rw[LA n 69 S (a+o+1+k) y I E,<-C];cases L:numS 69 (List.drop (1+k) (c::r))with
   | inl j=>
    simp only[yD];have:a+o+1+k+j=a+(o+(1+k)+j):=by omega
    rw[this]
   | inr p=>
    obtain⟨x,j⟩:=p;have G:=L;rw[C]at G;have D:=yP y G;have z:List.drop (1+k+j) (c::r)=S.drop (a+o+1+k+j):=by
     rw[<-hd,i7];congr 1;omega
    simp only[];rw[LA n 83 S (a+o+1+k+j) D I E,<-z];cases P:numS 83 (List.drop (1+k+j) (c::r))with
    | inl i=>
     simp only[yD];have:a+o+1+k+j+i=a+(o+(1+k)+j+i):=by omega
     rw[this]
    | inr K=>
     obtain⟨s,i⟩:=K;simp only[yD];have:a+o+1+k+j+i=a+(o+(1+k)+j+i):=by omega
     rw[this]
  ·rw[ab hc];simp only[ob,rc];rw[ab hc];rfl
def N4(n:Nat)(S:aa)(a o:Nat)(g:Bool)(h:a+o<=S.length)(y:S.length<100000)(v:S.length<n):
  (ob (bY n [88,48,49,50,51,52,53,54,55,56,57] 4 4 S ((a+o:Nat):Int)) λj=>(Sum.casesOn (motive:=λ_=>Option ((Int×Int×aa×Int)⊕(Bool×Bool×aa×Int×Int×aa×Int))) j (λd=>(some (.inl (d.1,d.2.1,d.2.2.1,d.2.2.2)))) (λf=>(ob (cY n [83] f.2.1 f.2.2) λq=>(Sum.casesOn (motive:=λ_=>Option _) q (λe=>(some (.inr (g,false,f.1,0,e.1,e.2.1,e.2.2)))) (λb=>(some (.inl (b.1,b.2.1,b.2.2.1,b.2.2.2)))))))))=some (yD S a (pZ g o (S.drop (a+o)))):=by
 rw[vL n _ 4 4 S (a+o) h (by omega) v];have t:∀c,hasB [88,48,49,50,51,52,53,54,55,56,57] c=isDX c:=uT;have w:(4:Int).toNat=4:=rfl;rw[ka t,w];unfold pZ;have u:=lX isDX 4 (S.drop (a+o));rw[ba]at u;by_cases m:bq isDX 4 (S.drop (a+o))<4
 ·rw[ae (by omega),ae m];simp only[ob,yD];rw[gX]
 ·rw[ab (by omega),ab m];have r:∀(k:Nat) (l:aa),bq isDX k l<=k:=by
   intro k
   induction k with
   | zero=>intro l;simp[bq]
   | succ k ih=>
    intro l;cases l with
    | nil=>simp[bq]
    | cons c l=>
     have:=ih l;simp only[bq];split<;>omega
  have x:bq isDX 4 (S.drop (a+o))=4:=by have:=r 4 (S.drop (a+o));omega
  rw[x]at u ⊢;simp only[ob];have hp:a+o+4<=S.length:=by omega
  rw[LA n 83 S (a+o+4) hp y v,i7];cases z:numS 83 (S.drop (a+o+4))with
  | inl i=>
   simp only[yD];have:a+o+4+i=a+(o+4+i):=by omega
   rw[this]
  | inr p=>
   obtain⟨s,i⟩:=p;simp only[yD];have:a+o+4+i=a+(o+4+i):=by omega
   rw[this];rfl
def Su(n:Nat)(S:aa)(a:Nat)(h:a<=S.length)(d:S.length<100000)(f:S.length<n):
  lU n S (a:Int)=some (yD S a (mG (S.drop a))):=by
 unfold lU;rw[tO n 89 S a h d];have c:=Ba 89 (S.drop a);rw[ba]at c;simp only[ob];rw[tO n 45 S (a+dR 89 (S.drop a)) (by omega) d];have b:=Ba 45 (S.drop (a+dR 89 (S.drop a)));rw[ba]at b;simp only[];unfold mG;rcases ki 89 (S.drop a)with e | e
 ·rw[e]at b ⊢;simp only[cG,show((0:Nat)==1)=false from rfl,af,show¬((0:Nat)=1)from by decide,az,i7]at b ⊢;have:=N4 n S a (dR 45 (S.drop a)) (dR 45 (S.drop a)==1) (by omega) d f;exact this
 ·rw[e]at b ⊢;simp only[show((1:Nat)==1)=true from rfl,aj,aG,i7]at b ⊢;have:=Si n S a (1+dR 45 (S.drop (a+1))) (dR 45 (S.drop (a+1))==1) (by omega) d f;rw[<-gX]at this;rw[<-gX];exact this
abbrev stR(S:aa)(a b M:Int)(g L:Bool):aa×Int×Int×Int×Bool×Bool×aa×Int×Int×Bool×Bool×aa×Int×Int:=(S,a,b,M,false,false,[],0,0,g,L,[],0,0)
def isYB(L:Bool)(c:UInt8):Bool:=bp c||(c==88&&!L)
def NC(n:Nat)(S:aa)(b M:Nat)(g:Bool)(k:0<M)(j:S.length<100000)(a:S[b]?=some 48):au (ax (n+1)) (n+1) (stR S (b:Int) (b:Int) (M:Int) g true)=some (.inl ((b:Int),5,false,false,[],0,0)):=by
 have d:=tj a;have e:decide ((b:Int)<((S.length:Nat):Int))=true:=aq (by omega);have h:wrap .i64 ((b:Int) - (b:Int))=0:=by rw[Int.sub_self];rfl
 have d2:decide ((0:Int)<(M:Int))=true:=aq (by omega);have c:decide ((((48:UInt8).toNat:Nat):Int)>=48)=true:=rfl;have i:decide ((((48:UInt8).toNat:Nat):Int)<=57)=true:=rfl;have f:((((48:UInt8).toNat:Nat):Int)==48)=true:=rfl;simp only[au,ax,e,aj,h,d2,dE a,ob,c,i,f,vp]
def BE(n:Nat)(S:aa)(b M:Nat)(g L:Bool)(N:b<=S.length)(O:S.length<100000)(P:S.length<n)(A:¬(L=true/\S[b]?=some 48)):
  au (ax n) n (stR S (b:Int) (b:Int) (M:Int) g L)=some (.inr (S,((b+bq (isYB L) M (S.drop b):Nat):Int),(b:Int),false,false,[],0,0,g,L,[],0,0)):=by
 have:=fK (step:=ax n) (λx=>∃j:Nat,b+j<=S.length/\x=stR S ((b+j:Nat):Int) (b:Int) (M:Int) g L) (λx=>S.length - x.2.1.toNat)
  (λx=>.inr (S,((x.2.1.toNat+bq (isYB L) (M - (x.2.1.toNat - b)) (S.drop x.2.1.toNat):Nat):Int),(b:Int),false,false,[],0,0,g,L,[],0,0)) ?_ n (stR S (b:Int) (b:Int) (M:Int) g L) ⟨0,by omega,rfl⟩ (by simp;omega)
 ·rw[this];simp
 rintro x ⟨j,K,rfl⟩;simp only[ch];rcases aF (b+j) S.length with s | w
 ·obtain⟨c,hc⟩:∃c,S[b+j]?=some c:=⟨S[b+j],bf s⟩;have f:decide (((b+j:Nat):Int)<((S.length:Nat):Int))=true:=aq (by omega);have r:wrap .i64 (((b+j:Nat):Int) - (b:Int))=(j:Int):=by rw[wrap_i64 _ (by omega) (by omega)];omega
  have B:wrap .i64 (((b+j:Nat):Int)+1)=((b+(j+1):Nat):Int):=by rw[wrap_i64 _ (by omega) (by omega)];omega
  have i:b+j - b=j:=by omega
  rw[bR hc,i];by_cases Q:j<M
  ·have d2:decide ((j:Int)<(M:Int))=true:=aq (by omega);obtain⟨q,H⟩:∃q,M - j=q+1:=⟨M - j - 1,by omega⟩;have v:M - (j+1)=q:=by omega
   rw[H];simp only[bq];have D:isYB L c=true->ax n (stR S ((b+j:Nat):Int) (b:Int) (M:Int) g L)=some (.inl (stR S ((b+(j+1):Nat):Int) (b:Int) (M:Int) g L)):=by
    intro hy;by_cases o:bp c=true
    ·have I:=(ck c).1 o;have d:decide (((c.toNat:Nat):Int)>=48)=true:=aq (by omega);have l:decide (((c.toNat:Nat):Int)<=57)=true:=aq (by omega);simp only[ax,f,aj,r,d2,dE hc,ob,d,l,B];cases L with
     | false=>rfl
     | true=>
      by_cases t:j=0
      ·subst t;have p:c≠48:=by
        intro e;exact A ⟨rfl,by rw[<-e];exact hc⟩
       have y:(((c.toNat:Nat):Int)==48)=false:=by rw[SK];exact aK.2 p
       simp only[cG,vp,aj,y,af]
      ·have F:(((b+j:Nat):Int)==(b:Int))=false:=aK.2 (by omega);simp only[F,af,aj]
    ·have a:bp c=false:=by cases h:bp c with | false=>rfl | true=>exact absurd h o
     unfold isYB at hy;rw[a]at hy;simp only[oU,aC,bu,kL]at hy;obtain⟨rfl,rfl⟩:=hy;have d:decide ((((88:UInt8).toNat:Nat):Int)>=48)=true:=rfl;have l:decide ((((88:UInt8).toNat:Nat):Int)<=57)=false:=rfl;have y:((((88:UInt8).toNat:Nat):Int)==88)=true:=rfl;simp only[ax,f,aj,r,d2,dE hc,ob,d,l,y,B,af,ia]
   have m:isYB L c=false->ax n (stR S ((b+j:Nat):Int) (b:Int) (M:Int) g L)=some (.inr (.inr (S,((b+j:Nat):Int),(b:Int),false,false,[],0,0,g,L,[],0,0))):=by
    intro hy;unfold isYB at hy;simp only[oP,Dj]at hy;obtain⟨a,u⟩:=hy;have E:¬(48<=c.toNat/\c.toNat<=57):=λq=>by rw[(ck c).2 q]at a;cases a
    have k:(((c.toNat:Nat):Int)==88)=(c==88):=nM c 88;have G:(cond (c==88) (cond (!L) (0:Nat) 1) 1)=1:=by
     rcases u with h | h
     ·rw[h];rfl
     ·have:L=true:=by simpa using h
      rw[this];cases c==88<;>rfl
    by_cases R:c.toNat>=48
    ·have d:decide (((c.toNat:Nat):Int)>=48)=true:=aq (by omega);have l:decide (((c.toNat:Nat):Int)<=57)=false:=am (by omega);simp only[ax,f,aj,r,d2,dE hc,ob,d,l,af,k];rcases u with h | h
     ·rw[h];rfl
     ·have:L=true:=by simpa using h
      rw[this];cases c==88<;>rfl
    ·have d:decide (((c.toNat:Nat):Int)>=48)=false:=am (by omega);simp only[ax,f,aj,r,d2,dE hc,ob,d,af,k];rcases u with h | h
     ·rw[h];rfl
     ·have:L=true:=by simpa using h
      rw[this];cases c==88<;>rfl
   cases hy:isYB L c with
   | true=>
    refine .inl ⟨_,D hy,⟨j+1,by omega,rfl⟩,by simp only[ch];omega,?_⟩;simp only[ch,aG];have J:b+(j+1) - b=j+1:=by omega
    rw[J,v,show b+(j+1)=b+j+1 by omega];have C:b+j+1+bq (isYB L) q (S.drop (b+j+1))=b+j+(bq (isYB L) q (S.drop (b+j+1))+1):=by omega
    rw[C]
   | false=>
    refine .inr ?_;rw[m hy];simp
  ·have d2:decide ((j:Int)<(M:Int))=false:=am (by omega);have z:M - j=0:=by omega
   refine .inr ?_;rw[z];simp only[ax,f,aj,r,d2,af,bq,cG]
 ·have f:decide (((b+j:Nat):Int)<((S.length:Nat):Int))=false:=am (by omega);refine .inr ?_;rw[iU w];have z:∀q,bq (isYB L) q []=0:=λq=>by cases q<;>rfl
  simp only[ax,f,af,z,cG]
def KZ(n:Nat)(S:aa)(a:Nat)(h:a<=S.length)(b:S.length<100000):
  ah n S (a:Int) 69=some (match numS 69 (S.drop a)with | .inl k=>(-1,((a+k:Nat):Int)) | .inr (v,k)=>((v:Int),((a+k:Nat):Int))):=MW n 69 S a h b
def BZ(n:Nat)(S:aa)(a:Nat)(h:a<=S.length)(b:S.length<100000):
  ah n S (a:Int) 83=some (match numS 83 (S.drop a)with | .inl k=>(-1,((a+k:Nat):Int)) | .inr (v,k)=>((v:Int),((a+k:Nat):Int))):=MW n 83 S a h b
noncomputable def MS(n:Nat)(a0:aa)(B M:Int)(g L:Bool):Option (Bool×Bool×aa×Int×Int×Int×Int):=
 (ob (au (ax n) n (a0,B,B,M,false,false,[],0,0,g,L,[],0,0)) λo=>(Sum.casesOn (motive:=λ_=>Option (Bool×Bool×aa×Int×Int×Int×Int)) o (λb=>(some (b.2.2.1,b.2.2.2.1,b.2.2.2.2.1,b.2.2.2.2.2.1,b.2.2.2.2.2.2,b.1,b.2.1))) (λa=>(cond (decide ((wrap .i64 (a.2.1 - a.2.2.1))<1)) (some (false,false,[],0,0,a.2.1,5)) (cond (!a.2.2.2.2.2.2.2.2.2.1) (cond (decide ((wrap .i64 (a.2.1 - a.2.2.1))<4)) (some (false,false,[],0,0,a.2.1,5)) (ob (bx (List.length a.1) a.2.1) λk=>(ob (bx k a.2.2.1) λl=>(cond a.2.2.2.2.2.2.2.2.2.1 (ob (ah n a.1 a.2.1 69) λe=>(cond (decide (e.1<0)) (some (false,false,[],0,0,e.2,5)) (ob (ah n a.1 e.2 83) λc=>(cond (decide (c.1<0)) (some (false,false,[],0,0,c.2,5)) (some (a.2.2.2.2.2.2.2.2.1,a.2.2.2.2.2.2.2.2.2.1,(List.drop l (List.take k a.1)),e.1,c.1,c.2,0)))))) (ob (ah n a.1 a.2.1 83) λi=>(cond (decide (i.1<0)) (some (false,false,[],0,0,i.2,5)) (some (a.2.2.2.2.2.2.2.2.1,a.2.2.2.2.2.2.2.2.2.1,(List.drop l (List.take k a.1)),a.2.2.2.2.2.2.2.2.2.2.2.1,i.1,i.2,0)))))))) (ob (bx (List.length a.1) a.2.1) λj=>(ob (bx j a.2.2.1) λm=>(cond a.2.2.2.2.2.2.2.2.2.1 (ob (ah n a.1 a.2.1 69) λf=>(cond (decide (f.1<0)) (some (false,false,[],0,0,f.2,5)) (ob (ah n a.1 f.2 83) λd=>(cond (decide (d.1<0)) (some (false,false,[],0,0,d.2,5)) (some (a.2.2.2.2.2.2.2.2.1,a.2.2.2.2.2.2.2.2.2.1,(List.drop m (List.take j a.1)),f.1,d.1,d.2,0)))))) (ob (ah n a.1 a.2.1 83) λh=>(cond (decide (h.1<0)) (some (false,false,[],0,0,h.2,5)) (some (a.2.2.2.2.2.2.2.2.1,a.2.2.2.2.2.2.2.2.2.1,(List.drop m (List.take j a.1)),a.2.2.2.2.2.2.2.2.2.2.2.1,h.1,h.2,0))))))))))))
def Lm(c:UInt8):isYB true c=bp c:=by unfold isYB;cases bp c<;>simp
def IZ(c:UInt8):isYB false c=isDX c:=by unfold isYB isDX;simp
def qX(p:UInt8->Bool):∀(k:Nat) (l:aa),bq p k l<=k
 | 0,l=>by simp[bq]
 | k+1,[]=>by simp[bq]
 | k+1,c::l=>by
  have:=qX p k l;simp only[bq];split<;>omega
def FH:decide ((-1:Int)<0)=true:=rfl
def E9(x:Nat):decide (((x:Nat):Int)<0)=false:=am (by omega)
def Kz(n:Nat)(S:aa)(a o:Nat)(g:Bool)(h:a+o<=S.length)(u:S.length<100000)(G:S.length<n):
  MS n S ((a+o:Nat):Int) 17 g true=some (oO a (rc g o (S.drop (a+o)))):=by
 unfold MS;cases hd:S.drop (a+o)with
 | nil=>
  have m:¬(true=true/\S[a+o]?=some 48):=by
   rintro⟨_,q⟩;rw[bR q]at hd;cases hd
  have f:=BE n S (a+o) 17 g true h u G m;rw[hd]at f;have P:bq (isYB true) 17 []=0:=rfl;rw[P,cG]at f;have hl':au (ax n) n (S,((a+o:Nat):Int),((a+o:Nat):Int),(17:Int),false,false,[],0,0,g,true,[],0,0)=_:=f;rw[hl'];have w:wrap .i64 (((a+o:Nat):Int) - ((a+o:Nat):Int))=0:=by rw[Int.sub_self];rfl
  simp only[ob,w,rc,oO];rfl
 | cons c r=>
  obtain⟨I,F,Q⟩:=nE hd;by_cases hc:c=48
  ·subst hc;obtain⟨C,rfl⟩:∃q,n=q+1:=⟨n - 1,by omega⟩;have f:=NC C S (a+o) 17 g (by omega) u F;have hl':au (ax (C+1)) (C+1) (S,((a+o:Nat):Int),((a+o:Nat):Int),(17:Int),false,false,[],0,0,g,true,[],0,0)=_:=f;rw[hl'];have l:¬(49<=(48:UInt8).toNat/\(48:UInt8).toNat<=57):=by decide
   simp only[ob,rc,oO];rw[ab l]
  ·have l:¬(true=true/\S[a+o]?=some 48):=by
    rintro⟨_,q⟩;rw[F]at q;exact hc (by simpa using q)
   have f:=BE n S (a+o) 17 g true h u G l;rw[hd,ka Lm]at f;have H:=lX bp 17 (c::r);have M:(c::r).length+(a+o)=S.length:=by
    have:=cb List.length hd;rw[ba]at this;omega
   have hl':au (ax n) n (S,((a+o:Nat):Int),((a+o:Nat):Int),(17:Int),false,false,[],0,0,g,true,[],0,0)=_:=f;rw[hl'];have w:∀k:Nat,k<=17->wrap .i64 (((a+o+k:Nat):Int) - ((a+o:Nat):Int))=(k:Int):=by
    intro k D;rw[wrap_i64 _ (by omega) (by omega)];omega
   by_cases d:bp c=true
   ·have L:=(ck c).1 d;have t:49<=c.toNat/\c.toNat<=57:=by
     have:c.toNat≠48:=λe=>hc (gu.1 e);omega
    have b:bq bp 17 (c::r)=1+bq bp 16 r:=by
     show bq bp (16+1) (c::r)=_;simp only[bq,d,aG];omega
    rw[b]at H ⊢;have v:=qX bp 16 r;simp only[rc];rw[ae t];generalize bq bp 16 r=k at H v ⊢;have O:decide (((1+k:Nat):Int)<1)=false:=am (by omega);simp only[ob,w (1+k) (by omega),O,af,ca,aj,fC (show a+o+(1+k)<=S.length by omega),fC (show a+o<=a+o+(1+k)by omega)];have y:a+o+(1+k)<=S.length:=by omega
    have A:S.drop (a+o+(1+k))=List.drop (1+k) (c::r):=by rw[<-hd,i7]
    rw[KZ n S (a+o+(1+k)) y u,A,mR,hd];cases K:numS 69 (List.drop (1+k) (c::r))with
    | inl j=>
     simp only[FH,aj,oO];have:a+o+(1+k)+j=a+(o+(1+k)+j):=by omega
     rw[this]
    | inr p=>
     obtain⟨x,j⟩:=p;have E:=K;rw[<-A]at E;have B:=yP y E;have z:S.drop (a+o+(1+k)+j)=List.drop (1+k+j) (c::r):=by rw[<-hd,i7];congr 1;omega
     simp only[E9,af];rw[BZ n S (a+o+(1+k)+j) B u,z];cases N:numS 83 (List.drop (1+k+j) (c::r))with
     | inl i=>
      simp only[FH,aj,oO];have:a+o+(1+k)+j+i=a+(o+(1+k)+j+i):=by omega
      rw[this]
     | inr J=>
      obtain⟨s,i⟩:=J;simp only[E9,af,oO];have:a+o+(1+k)+j+i=a+(o+(1+k)+j+i):=by omega
      rw[this]
   ·have b:bq bp 17 (c::r)=0:=by
     show bq bp (16+1) (c::r)=0;simp only[bq];rw[ab d]
    have t:¬(49<=c.toNat/\c.toNat<=57):=λq=>d ((ck c).2 (by omega));rw[b];simp only[rc];rw[ab t];simp only[ob,w 0 (by omega),oO];rfl
def Ix(n:Nat)(S:aa)(a o:Nat)(g:Bool)(h:a+o<=S.length)(m:S.length<100000)(r:S.length<n):
  MS n S ((a+o:Nat):Int) 4 g false=some (oO a (pZ g o (S.drop (a+o)))):=by
 unfold MS;have l:=BE n S (a+o) 4 g false h m r (by rintro⟨q,_⟩;cases q);rw[ka IZ]at l;have f:=lX isDX 4 (S.drop (a+o));have b:=qX isDX 4 (S.drop (a+o));rw[ba]at f;have hl':au (ax n) n (S,((a+o:Nat):Int),((a+o:Nat):Int),(4:Int),false,false,[],0,0,g,false,[],0,0)=_:=l;rw[hl'];unfold pZ;generalize u:bq isDX 4 (S.drop (a+o))=k at f b ⊢;have w:wrap .i64 (((a+o+k:Nat):Int) - ((a+o:Nat):Int))=(k:Int):=by rw[wrap_i64 _ (by omega) (by omega)];omega
 simp only[ob,w,ia,aj,af];by_cases j:k<4
 ·rw[ae j];have c:decide ((k:Int)<4)=true:=aq (by omega);rw[c];have e:a+o+k=a+(o+k):=by omega
  simp only[aj,oO,e];cases decide ((k:Int)<1)<;>rfl
 ·rw[ab j];have d:k=4:=by omega
  subst d;have c:decide (((4:Nat):Int)<4)=false:=rfl;have e:decide (((4:Nat):Int)<1)=false:=rfl;have hp:a+o+4<=S.length:=by omega
  simp only[c,e,af,fC hp,fC (show a+o<=a+o+4 by omega)];rw[BZ n S (a+o+4) hp m,mR,i7];cases t:numS 83 (S.drop (a+o+4))with
  | inl i=>
   simp only[FH,aj,oO];have:a+o+4+i=a+(o+4+i):=by omega
   rw[this]
  | inr p=>
   obtain⟨s,i⟩:=p;simp only[E9,af,oO];have:a+o+4+i=a+(o+4+i):=by omega
   rw[this];rfl
def kw(c a:UInt8)(l:aa):dR c (a::l)=if a=c then 1 else 0:=by
 unfold dR;simp
def ww(c:UInt8):dR c []=0:=by unfold dR;simp
def Or(n:Nat)(S:aa)(a:Nat)(h:a<=S.length)(D:S.length<100000)(E:S.length<n):
  k7 n S (a:Int)=some (oO a (mG (S.drop a))):=by
 have B:=λo g q=>Kz n S a o g q D E;have z:=λo g q=>Ix n S a o g q D E;unfold MS at B z;have H:wrap .i64 ((a:Int)+1)=((a+1:Nat):Int):=by rw[wrap_i64 _ (by omega) (by omega)];omega
 have F:wrap .i64 (((a+1:Nat):Int)+1)=((a+2:Nat):Int):=by rw[wrap_i64 _ (by omega) (by omega)];omega
 unfold k7 mG;rw[H,F];have v:=z 0 false (by omega);simp only[cG]at v;cases hd:S.drop a with
 | nil=>
  have k:¬a<S.length:=by
   intro q;rw[bR (bf q)]at hd;cases hd
  rw[iO,am k,af,af,v,hd];rfl
 | cons c r=>
  obtain⟨y,G,i⟩:=nE hd;have u:(((c.toNat:Nat):Int)==89)=(c==89):=nM c 89;have t:(((c.toNat:Nat):Int)==45)=(c==45):=nM c 45;rw[iO,aq y,aj,dE G];simp only[ob];rw[u,t,kw];by_cases f:c=89
  ·have e:(c==89)=true:=bu.2 f;rw[e,aj,ae f,ae rfl,iO];have C:List.drop 1 (c::r)=r:=rfl;rw[C];have w:=B 1 false (by omega);cases l:r with
   | nil=>
    rw[l]at i;have k:¬a+1<S.length:=by
     intro q;rw[bR (bf q)]at i;cases i
    simp only[ob]at w;rw[am k,af,w,i,ww];rfl
   | cons d I=>
    rw[l]at i;obtain⟨s,x,A⟩:=nE i;have p:(((d.toNat:Nat):Int)==45)=(d==45):=nM d 45;rw[aq s,aj,dE x];simp only[];rw[p,kw];by_cases b:d=45
    ·have j:(d==45)=true:=bu.2 b;have m:=B 2 true (by omega);simp only[ob]at m;rw[j,aj,ae b,m];rw[show a+2=a+1+1 from rfl,A];rfl
    ·have j:(d==45)=false:=aK.2 b;simp only[ob]at w;rw[j,af,ab b,w,i];rfl
  ·have e:(c==89)=false:=aK.2 f;rw[e,af,ab f,ab (by decide),kw];by_cases b:c=45
   ·have j:(c==45)=true:=bu.2 b;have m:=z 1 true (by omega);simp only[ob]at m;rw[j,ae b];simp only[aj];rw[m,i];rfl
   ·have j:(c==45)=false:=aK.2 b;simp only[ob]at v;rw[j,ab b];simp only[af];rw[v,hd];rfl
def wint(c:Int):Bool:=c==24||c==28||c==30
def uP(g:Bool)(d:aa)(x:Int):Bool:=!hasX d&&!g&&decide (val d x.toNat=E16)
def yrB(g:Bool)(d:aa)(x s:Int)(m:aa):Bool:=!(decide (0<s)&&!(m==[]))&&!(wint (sea m)&&uP g d x)
def Dt(n:Nat)(s:200<n)(g l:Bool)(dg:aa)(x q:Int)(m d:aa)(k0 k1 k2:Int)(w:m.length<=18)(hd:dg.length<=100):
  fH n g l dg x q m d k0 k1 k2=some (if okY g l dg x q then yrB g dg x q m else false):=by
 unfold fH;rw[Hm n g l dg x q s hd,qM n g l dg x q m d k0 k1 k2 w,tc,zM n g l dg x q s hd];by_cases h:okY g l dg x q
 rotate_left
 ·rw[ab h,ab h];rfl
 rw[ae h,ae h];have body:(ob (some (sea m,decide (0<sea m))) λr=>(cond (!r.2) (some true) (ob (some (hasX dg)) λt=>(cond t (some true) (ob (some (if okY g l dg x q/\hasX dg=false then(if g then -((val dg x.toNat:Nat):Int)else((val dg x.toNat:Nat):Int),(0:Int))else(0,6))) λC=>(ob (iq n C.1 r.1) λv=>(some (v.2.2.2.2==0))))))))=some (!(wint (sea m)&&uP g dg x)):=by
  rcases oW m with E | ⟨j,p,rfl⟩
  ·rw[E];rfl
  ·have hs:=lG p;rw[hs];have hp:decide (0<((21+j:Nat):Int))=true:=by simp;omega
   rw[hp];cases o:hasX dg with
   | true=>
    have:uP g dg x=false:=by unfold uP;rw[o];rfl
    rw[this,wN];rfl
   | false=>
    rw[ae ⟨h,rfl⟩];obtain⟨k,F,rfl,rfl,u⟩:=s9 h o;have B:val dg k<=E16:=u.small;unfold E16 at B;have hc:dU (if g then -((val dg k:Nat):Int)else((val dg k:Nat):Int)):=by
     unfold dU;cases g<;>simp<;>omega
    obtain⟨a,b,c,e,D⟩:=Wb n (by omega) hc p;simp only[ob,ca,af,ch];rw[D];simp only[ar];have y:wint ((21+j:Nat):Int)=decide (j=3\/j=7\/j=9):=by
     unfold wint;rw[r7];simp only[iC,bu,cr];omega
    have A:uP g dg (k:Int)=decide ((if g then -((val dg k:Nat):Int)else((val dg k:Nat):Int))=10000000000000000):=by
     unfold uP E16;rw[o,ch];cases g
     ·simp only[ia,nO,bj,az,pC];omega
     ·simp;omega
    rw[y,A];by_cases f:(if g then -((val dg k:Nat):Int)else((val dg k:Nat):Int))=10000000000000000<;>by_cases i:j=3\/j=7\/j=9
    ·rw[ae ⟨f,i⟩,aq f,aq i];rfl
    ·rw[ab (λz=>i z.2),am i];rfl
    ·rw[ab (λz=>f z.1),am f,wN];rfl
    ·rw[ab (λz=>f z.1),am f,wN];rfl
 show cond (decide (q>0)) (cond (!(m==[])) (some false) _) _=_;unfold yrB;rw[show(decide (q>0))=decide (0<q)from rfl];cases decide (0<q)with
 | false=>exact body
 | true=>
  cases(m==[])with
  | false=>rfl
  | true=>exact body
def PI(n:Nat)(i:200<n)(g l:Bool)(dg:aa)(x q:Int)(m d:aa)(k0 k1 k2:Int)(hd:dg.length<=100):
  i6 n g l dg x q m d k0 k1 k2=some (if okY g l dg x q/\yrB g dg x q m=true then 1 else 0):=by
 unfold i6;rw[NA n g l dg x q i hd,oQ n (by omega) g l dg x q m d k0 k1 k2,oK n g l dg x q (by omega) (by omega)];by_cases h:okY g l dg x q
 rotate_left
 ·rw[ab h,ab (show¬(okY g l dg x q/\yrB g dg x q m=true)fromλz=>h z.1)];rfl
 rw[ae h];have T:(ob (some (if hasX dg then(1:Int)else 0)) λr=>(cond (r==1) (some (1:Int)) (ob (ak n dg x) λv=>(cond (v.1==10000000000000000) (cond (!g) (some 0) (some 1)) (some 1)))))=some (if uP g dg x then 0 else 1):=by
  cases a:hasX dg with
  | true=>
   have:uP g dg x=false:=by unfold uP;rw[a];rfl
   rw[this];rfl
  | false=>
   obtain⟨k,j,rfl,rfl,b⟩:=s9 h a;have f:=b.small;have o:=b.wide;have c:=jv n dg k b.dig (by omega) (by omega) (by omega);rw[ae f]at c;show ob (ak n dg (k:Int)) _=_;rw[c];show cond (((dval 0 dg*10 ^ k:Nat):Int)==10000000000000000) _ _=_;unfold uP val;rw[a,ch];have e:(((dval 0 dg*10 ^ k:Nat):Int)==10000000000000000)=decide (dval 0 dg*10 ^ k=E16):=by
    generalize dval 0 dg*10 ^ k=v;unfold E16;rw[r7];simp only[bu,cr];omega
   rw[e];cases decide (dval 0 dg*10 ^ k=E16)<;>cases g<;>rfl
 have body:(ob (some (sea m)) λr=>(cond (r != 24) (cond (r != 28) (cond (r != 30) (some (1:Int)) (ob (some (if hasX dg then(1:Int)else 0)) λr=>(cond (r==1) (some (1:Int)) (ob (ak n dg x) λv=>(cond (v.1==10000000000000000) (cond (!g) (some 0) (some 1)) (some 1)))))) (ob (some (if hasX dg then(1:Int)else 0)) λr=>(cond (r==1) (some (1:Int)) (ob (ak n dg x) λv=>(cond (v.1==10000000000000000) (cond (!g) (some 0) (some 1)) (some 1)))))) (ob (some (if hasX dg then(1:Int)else 0)) λr=>(cond (r==1) (some (1:Int)) (ob (ak n dg x) λv=>(cond (v.1==10000000000000000) (cond (!g) (some 0) (some 1)) (some 1)))))))=some (if(!(wint (sea m)&&uP g dg x))=true then 1 else 0):=by
  rw[T];show cond (sea m != 24) _ _=_;unfold wint;simp only[bne];cases(sea m==24)<;>cases(sea m==28)<;>cases(sea m==30)<;>cases uP g dg x<;>rfl
 unfold yrB;show cond (decide (q>0)) (cond (!(m==[])) (some 0) _) _=_;rw[show(decide (q>0))=decide (0<q)from rfl];simp only[h,jD];cases decide (0<q)with
 | false=>exact body
 | true=>
  cases(m==[])with
  | false=>rfl
  | true=>exact body
def jf(m d:aa):Nat:=1+(if m==[]then 0 else 1)+(if d==[]then 0 else 1)
def zY(n:Nat)(e:100<n)(g l:Bool)(dg:aa)(x q:Int)(m d:aa)(k0 k1 k2:Int):bJ n g l dg x q m d k0 k1 k2=some ((jf m d:Nat):Int):=by
 obtain⟨n,rfl⟩:∃j,n=j+3:=⟨n - 3,by omega⟩;unfold bJ jf;have s0:∀a:Int,bV (n+3) (a,m,d,0)=some (.inl (if m==[]then a else wrap .i64 (a+1),m,d,1)):=λa=>by
  unfold bV;show cond (!(m==[])) _ _=_;cases(m==[])<;>rfl
 have c:∀a:Int,bV (n+3) (a,m,d,1)=some (.inl (if d==[]then a else wrap .i64 (a+1),m,d,2)):=λa=>by
  unfold bV;show cond (!(d==[])) _ _=_;cases(d==[])<;>rfl
 have b:∀a:Int,bV (n+3) (a,m,d,2)=some (.inr a):=λa=>rfl;rw[au,s0];show ob (au _ (n+2) _) _=_;rw[au,c];show ob (au _ (n+1) _) _=_;rw[au,b];cases(m==[])<;>cases(d==[])<;>rfl
def sd(n:Nat)(g l:Bool)(dg:aa)(x q:Int)(m d:aa)(k0 k1 k2:Int):aE n g l dg x q m d k0 k1 k2=some ((jf m d:Nat):Int):=by
 unfold aE jf;cases(m==[])<;>cases(d==[])<;>rfl
def allM(a b c:Int)(k:Nat):Int:=if 3<a\/3<b\/3<c\/(k<2/\b≠0)\/(k<3/\c≠0)then 9 else 0
def EI(n:Nat)(w:3<n)(a b c:Int)(k:Nat)(t:1<=k/\k<=3)(u:0<=a)(v:0<=b)(hc:0<=c):
  cf n [a,b,c] (k:Int)=some (allM a b c k):=by
 obtain⟨j,rfl⟩:∃j,n=j+4:=⟨n - 4,by omega⟩;have l:wrap .i64 1=1:=rfl;have g:wrap .i64 2=2:=rfl;have f:wrap .i64 3=3:=rfl;have e:ix 3 0=some 0:=rfl;have m:ix 3 1=some 1:=rfl;have i:ix 3 2=some 2:=rfl;have hk':k=1\/k=2\/k=3:=by omega
 unfold allM;by_cases h:a>3
 ·rcases hk' with rfl | rfl | rfl<;>simp[cf,au,cO,dA,ob,l,g,f,e,m,i,h]
 by_cases o:b>3
 ·rcases hk' with rfl | rfl | rfl<;>simp[cf,au,cO,dA,ob,l,g,f,e,m,i,h,o]
 by_cases d:k=1/\b≠0
 ·obtain⟨rfl,d⟩:=d;have s:b>0:=by omega
  have q:(b != 0)=true:=by simp[d]
  simp[cf,au,cO,dA,ob,l,g,f,e,m,i,h,o,s,d,q]
 by_cases r:c>3
 ·rcases hk' with rfl | rfl | rfl<;>(try (simp at d;subst d))<;>simp[cf,au,cO,dA,ob,l,g,f,e,m,i,h,o,r]
 by_cases p:k<3/\c≠0
 ·have s:c>0:=by omega
  have q:(c != 0)=true:=by simp[p.2]
  rcases hk' with rfl | rfl | rfl<;>(try (simp at d;subst d))<;>simp at p<;>simp[cf,au,cO,dA,ob,l,g,f,e,m,i,h,o,r,s,p,q]
 rcases hk' with rfl | rfl | rfl<;>(try (simp at d;subst d))<;>(try (simp at p;subst p))<;>simp[cf,au,cO,dA,ob,l,g,f,e,m,i,h,o,r]
def TP(n:Nat)(w:3<n)(a b c:Int)(k:Nat)(t:1<=k/\k<=3)(u:0<=a)(v:0<=b)(hc:0<=c):
  cf n [a,b,c] (k:Int)=some (allM a b c k)/\bS n [a,b,c] (k:Int)=some (allM a b c k):=by
 obtain⟨j,rfl⟩:∃j,n=j+4:=⟨n - 4,by omega⟩;have l:wrap .i64 1=1:=rfl;have g:wrap .i64 2=2:=rfl;have f:wrap .i64 3=3:=rfl;have e:ix 3 0=some 0:=rfl;have m:ix 3 1=some 1:=rfl;have i:ix 3 2=some 2:=rfl;have hk':k=1\/k=2\/k=3:=by omega
 unfold allM;by_cases h:a>3
 ·rcases hk' with rfl | rfl | rfl<;>constructor<;>simp[bS,cf,au,dl,cO,dA,ob,l,g,f,e,m,i,h]
 by_cases o:b>3
 ·rcases hk' with rfl | rfl | rfl<;>constructor<;>simp[bS,cf,au,dl,cO,dA,ob,l,g,f,e,m,i,h,o]
 by_cases d:k=1/\b≠0
 ·obtain⟨rfl,d⟩:=d;have s:b>0:=by omega
  have q:(b != 0)=true:=by simp[d]
  constructor<;>simp[bS,cf,au,dl,cO,dA,ob,l,g,f,e,m,i,h,o,s,d,q]
 by_cases r:c>3
 ·rcases hk' with rfl | rfl | rfl<;>(try (simp at d;subst d))<;>constructor<;>simp[bS,cf,au,dl,cO,dA,ob,l,g,f,e,m,i,h,o,r]
 by_cases p:k<3/\c≠0
 ·have s:c>0:=by omega
  have q:(c != 0)=true:=by simp[p.2]
  rcases hk' with rfl | rfl | rfl<;>(try (simp at d;subst d))<;>simp at p<;>constructor<;>simp[bS,cf,au,dl,cO,dA,ob,l,g,f,e,m,i,h,o,r,s,p,q]
 rcases hk' with rfl | rfl | rfl<;>(try (simp at d;subst d))<;>(try (simp at p;subst p))<;>constructor<;>simp[bS,cf,au,dl,cO,dA,ob,l,g,f,e,m,i,h,o,r]
def tY(m d:aa):1<=jf m d/\jf m d<=3:=by
 unfold jf;cases(m==[])<;>cases(d==[])<;>simp
def yrD(g l:Bool)(dg:aa)(x q:Int)(m:aa):Bool:=if okY g l dg x q then yrB g dg x q m else false
def chkD(g l:Bool)(dg:aa)(x q:Int)(m d:aa)(k0 k1 k2:Int):Int:=
 cond (!(yrD g l dg x q m)) 6 (cond (!(m==[])&&(!(decide (0<sea m))&&!(hO m 12))) 7
  (cond (!(d==[])&&((m==[])||(decide (0<sea m)||!(hO d 31)))) 8 (allM k0 k1 k2 (jf m d))))
def Qo(m:aa):0<=sea m:=by
 rcases oW m with h | ⟨j,a,rfl⟩
 ·omega
 ·rw[lG a];omega
def RO(m:aa):(sea m==0)=!(decide (0<sea m)):=by
 have:=Qo m;by_cases h:sea m=0
 ·rw[h];rfl
 ·have a:0<sea m:=by omega
  rw[aK.2 h,aq a];rfl
def OU(n:Nat)(k:200<n)(g l:Bool)(dg:aa)(x q:Int)(m d:aa)(k0 k1 k2:Int)(a:m.length<=18)(hd:dg.length<=100)(o:0<=k0)(c:0<=k1)(h:0<=k2):
  kP n g l dg x q m d k0 k1 k2=some (chkD g l dg x q m d k0 k1 k2):=by
 have hy:fH n g l dg x q m d k0 k1 k2=some (yrD g l dg x q m):=Dt n k g l dg x q m d k0 k1 k2 a hd;have a1:dc n m 12=some (hO m 12):=DD n (by omega) m 12 (by omega);have a2:dc n d 31=some (hO d 31):=DD n (by omega) d 31 (by omega);have i:=EI n (by omega) k0 k1 k2 (jf m d) (tY m d) o c h;unfold kP chkD;rw[qM n g l dg x q m d k0 k1 k2 a,hy,a1,a2,zY n (by omega)];simp only[ob];rw[i];generalize yrD g l dg x q m=b1;generalize(m==[])=b2;generalize decide (0<sea m)=f;generalize hO m 12=b;generalize(d==[])=e;generalize hO d 31=j;cases b1<;>cases b2<;>cases f<;>cases b<;>cases e<;>cases j<;>rfl
def ER(n:Nat)(k:200<n)(g l:Bool)(dg:aa)(x q:Int)(m d:aa)(k0 k1 k2:Int)(hd:dg.length<=100)(o:0<=k0)(b:0<=k1)(f:0<=k2):
  jW n g l dg x q m d k0 k1 k2=some (chkD g l dg x q m d k0 k1 k2):=by
 have hy:i6 n g l dg x q m d k0 k1 k2=some (if yrD g l dg x q m then 1 else 0):=by
  rw[PI n k g l dg x q m d k0 k1 k2 hd];unfold yrD;by_cases h:okY g l dg x q
  ·simp only[h,jD,aG]
  ·simp only[h,wv,az];rfl
 have a1:dL n m 12=some (if hO m 12 then 1 else 0):=GQ n (by omega) m 12 (by omega);have a2:dL n d 31=some (if hO d 31 then 1 else 0):=GQ n (by omega) d 31 (by omega);have i:=(TP n (by omega) k0 k1 k2 (jf m d) (tY m d) o b f).2;unfold jW chkD;rw[oQ n (by omega) g l dg x q m d k0 k1 k2,hy,a1,a2,sd n];simp only[ob];rw[i,RO];show cond ((if yrD g l dg x q m then(1:Int)else 0)==0) _ (cond _ (cond _ (cond _ _ (cond _ (cond _ _ (cond (decide (0<sea m)) _ _)) _)) (cond _ (cond _ _ (cond (decide (0<sea m)) _ _)) _)) (cond _ (cond _ _ (cond (decide (0<sea m)) _ _)) _))=_;generalize yrD g l dg x q m=b1;generalize(m==[])=b2;generalize decide (0<sea m)=e;generalize hO m 12=a;generalize(d==[])=c;generalize hO d 31=j;cases b1<;>cases b2<;>cases e<;>cases a<;>cases c<;>cases j<;>rfl
def MG{g l:Bool}{dg:aa}{x q:Int}{m d:aa}{k0 k1 k2:Int}(h:chkD g l dg x q m d k0 k1 k2=0):yrD g l dg x q m=true/\(m=[]\/0<sea m\/hO m 12=true)/\(d=[]\/(m≠[]/\sea m=0/\hO d 31=true))/\allM k0 k1 k2 (jf m d)=0:=by
 have hs:=Qo m;unfold chkD at h;cases b1:yrD g l dg x q m with
 | false=>rw[b1]at h;exact absurd h (by simp)
 | true=>
  rw[b1]at h;simp only[ca,af]at h;cases b2:(!(m==[])&&(!(decide (0<sea m))&&!(hO m 12)))with
  | true=>rw[b2]at h;exact absurd h (by simp)
  | false=>
   rw[b2]at h;simp only[af]at h;cases c:(!(d==[])&&((m==[])||(decide (0<sea m)||!(hO d 31))))with
   | true=>rw[c]at h;exact absurd h (by simp)
   | false=>
    rw[c]at h;simp only[af]at h;refine⟨rfl,?_,?_,h⟩
    ·by_cases a:m=[]
     ·exact .inl a
     ·by_cases b:0<sea m
      ·exact .inr (.inl b)
      ·simp[a,b]at b2;exact .inr (.inr b2)
    ·by_cases a:d=[]
     ·exact .inl a
     ·by_cases b:m=[]
      ·simp[a,b]at c
      ·by_cases e:0<sea m
       ·simp[a,b,e]at c
       ·simp[a,b,e]at c;exact .inr ⟨b,by omega,c⟩
def rt{s:aa}{g:Nat}(m:g<=31)(h:hO s g=true):s.length=2/\∀c∈s,isDX c=true:=by
 unfold hO at h;obtain⟨i,f,hi⟩:=tz.1 h;have e:i<g:=kB.1 f;have dig:∀k:Nat,k<10->isDX (UInt8.ofNat (48+k))=true:=by decide
 have d:isDX 88=true:=by decide
 match s,hi with
 | [],hi=>simp[agr]at hi
 | [_],hi=>simp[agr]at hi
 | [a,b],hi=>
  refine⟨rfl,?_⟩;simp only[agr,aC,iC,bu]at hi;obtain⟨j,l⟩:=hi;intro c hc;simp only[de,sQ,us]at hc;rcases hc with rfl | rfl
  ·rcases j with rfl | rfl
   ·exact d
   ·exact dig _ (by omega)
  ·rcases l with rfl | rfl
   ·exact d
   ·exact dig _ (by omega)
 | _::_::_::_,hi=>simp[agr]at hi
def K7{m:aa}(h:0<sea m):m.length=2/\∀c∈m,isDX c=true:=by
 rcases oW m with b | ⟨j,a,rfl⟩
 ·omega
 ·refine⟨rfl,?_⟩;have:((List.range 21).all λj=>(two (21+j)).all isDX)=true:=by decide +kernel
  have:=(cE.1 this) j (by simpa using a);exact cE.1 this
def mt(k:Nat):aa:=if k=1 then[63]else if k=2 then[126]else if k=3 then[37]else[]
def mkOf(c:UInt8):Nat:=if c=63 then 1 else if c=126 then 2 else if c=37 then 3 else 0
def TM(k a b c:Nat):Bool:=(decide (k<2)||b==a)&&(decide (k<3)||c==a)
def plA(k a b c:Nat):Nat×Nat×Nat:=if TM k a b c then(0,0,0)else(a,b,c)
def plB(k a b c:Nat):Nat×Nat×Nat:=if TM k a b c then(if k=1 then(a,0,0)else if k=2 then(0,a,0)else(0,0,a))else(0,0,0)
def l3(p:Nat×Nat×Nat):List Int:=[(p.1:Int),(p.2.1:Int),(p.2.2:Int)]
def spM(A B:Nat×Nat×Nat):Nat×Nat×Nat:=(A.1 ||| B.1 ||| B.2.1 ||| B.2.2,A.2.1 ||| B.2.1 ||| B.2.2,A.2.2 ||| B.2.2)
noncomputable def Qv(m j:Nat):Bool:=
 mQ (m+300) (j:Int)==some (((mkOf (UInt8.ofNat j):Nat):Int),decide (0<mkOf (UInt8.ofNat j)))
def MJ(m:Nat):(List.range 256).all (Qv m)=true:=by kernel_rfl
def O8(m:Nat)(c:UInt8):mQ (m+300) ((c.toNat:Nat):Int)=some (((mkOf c:Nat):Int),decide (0<mkOf c)):=by
 have h:=(cE.1 (MJ m)) c.toNat (kB.2 c.toNat_lt);unfold Qv at h;rw[show UInt8.ofNat c.toNat=c by simp]at h;simp only[bu]at h;exact h
noncomputable def Wg(m j:Nat):Bool:=
 (mQ (m+300) (j:Int)==some (((mkOf (UInt8.ofNat j):Nat):Int),decide (0<mkOf (UInt8.ofNat j))))&&(dF (m+300) (j:Int)==some ((mkOf (UInt8.ofNat j):Nat):Int))
def NL(m:Nat):(List.range 256).all (Wg m)=true:=by kernel_rfl
def ND(m:Nat)(c:UInt8):mQ (m+300) ((c.toNat:Nat):Int)=some (((mkOf c:Nat):Int),decide (0<mkOf c))/\dF (m+300) ((c.toNat:Nat):Int)=some ((mkOf c:Nat):Int):=by
 have h:=(cE.1 (NL m)) c.toNat (kB.2 c.toNat_lt);unfold Wg at h;rw[show UInt8.ofNat c.toNat=c by simp]at h;simp only[aC,bu]at h;exact h
def r4{p:Nat->Bool}(h:(List.range 4).all p=true){a:Nat}(b:a<4):p a=true:=(cE.1 h) a (kB.2 b)
def Wq{k a b c:Nat}(d:a<4)(e:b<4)(hc:c<4):(plA k a b c).1<4/\(plA k a b c).2.1<4/\(plA k a b c).2.2<4/\(plB k a b c).1<4/\(plB k a b c).2.1<4/\(plB k a b c).2.2<4:=by
 unfold plA plB;split
 ·split
  ·simp[d]
  ·split<;>simp[d]
 ·simp[d,e,hc]
def inM(k:Nat)(A:Nat×Nat×Nat):Prop:=A.1<4/\A.2.1<4/\A.2.2<4/\(k<2->A.2.1=0)/\(k<3->A.2.2=0)
def wR{k:Nat}{A:Nat×Nat×Nat}(h:inM k A):allM (A.1:Int) (A.2.1:Int) (A.2.2:Int) k=0:=by
 obtain⟨e,c,d,b,a⟩:=h;unfold allM;rw[ab (by omega)]
def or4{a b:Nat}(d:a<4)(c:b<4):bits .or .u8 (a:Int) (b:Int)=((a ||| b:Nat):Int)/\a ||| b<4:=by
 have:((List.range 4).all λa=>(List.range 4).all λb=>bits .or .u8 (a:Int) (b:Int)==((a ||| b:Nat):Int)&&decide (a ||| b<4))=true:=by decide +kernel
 have:=r4 (r4 this d) c;simpa using this
def xe(n:Nat)(w:9<n)(k:Nat)(A B:Nat×Nat×Nat)(r:1<=k/\k<=3)(l:inM k A)(p:inM k B):eK n (l3 A) (l3 B) (k:Int)=some (l3 (spM A B),0):=by
 obtain⟨n,rfl⟩:∃j,n=j+5:=⟨n - 5,by omega⟩;have o:=EI (n+5) (by omega) (A.1:Int) (A.2.1:Int) (A.2.2:Int) k r (by omega) (by omega) (by omega);have q:=EI (n+5) (by omega) (B.1:Int) (B.2.1:Int) (B.2.2:Int) k r (by omega) (by omega) (by omega);rw[wR l]at o;rw[wR p]at q;have h:∀x:Nat,x<4->bits .or .u8 0 (x:Int)=(x:Int):=λx hx=>by
  have:=(or4 (show 0<4 by omega) hx).1;simpa using this
 have b:∀x y:Nat,x<4->y<4->bits .or .u8 (x:Int) (y:Int)=((x ||| y:Nat):Int):=λx y hx hy=>(or4 hx hy).1;have e:∀x y:Nat,x<4->y<4->x ||| y<4:=λx y hx hy=>(or4 hx hy).2;unfold eK;show ob (cf (n+5) [(A.1:Int),(A.2.1:Int),(A.2.2:Int)] (k:Int)) _=_;rw[o];show ob (cf (n+5) [(B.1:Int),(B.2.1:Int),(B.2.2:Int)] (k:Int)) _=_;rw[q];obtain⟨a0,a1,a2⟩:=A;obtain⟨b0,b1,b2⟩:=B;obtain⟨g0,i,s,m,f⟩:=l;obtain⟨c,a,d,t,g⟩:=p;simp only at g0 i s m f c a d t g;have hk':k=1\/k=2\/k=3:=by omega
 rcases hk' with rfl | rfl | rfl
 ·obtain rfl:=m (by omega);obtain rfl:=f (by omega);obtain rfl:=t (by omega);obtain rfl:=g (by omega);show some (([bits .or .u8 (a0:Int) (bits .or .u8 0 (b0:Int)),0,0]:List Int),(0:Int))=_;rw[h b0 c,b _ _ g0 c];simp[l3,spM]
 ·obtain rfl:=f (by omega);obtain rfl:=g (by omega);show some (([bits .or .u8 (a0:Int) (bits .or .u8 (bits .or .u8 0 (b1:Int)) (b0:Int)),bits .or .u8 (a1:Int) (bits .or .u8 0 (b1:Int)),0]:List Int),(0:Int))=_;rw[h b1 a,b _ _ a c,b _ _ g0 (e _ _ a c),b _ _ i a];simp[l3,spM,Nat.or_assoc,AU b1 b0]
 ·show some (([bits .or .u8 (a0:Int) (bits .or .u8 (bits .or .u8 (bits .or .u8 0 (b2:Int)) (b1:Int)) (b0:Int)),bits .or .u8 (a1:Int) (bits .or .u8 (bits .or .u8 0 (b2:Int)) (b1:Int)),bits .or .u8 (a2:Int) (bits .or .u8 0 (b2:Int))]:List Int),(0:Int))=_;rw[h b2 d,b _ _ d a,b _ _ (e _ _ d a) c,b _ _ g0 (e _ _ (e _ _ d a) c),b _ _ i (e _ _ d a),b _ _ s d];have v:a0 ||| (b2 ||| b1 ||| b0)=a0 ||| b0 ||| b1 ||| b2:=by rw[AU (b2 ||| b1) b0,AU b2 b1];simp only[Nat.or_assoc]
  have u:a1 ||| (b2 ||| b1)=a1 ||| b1 ||| b2:=by rw[AU b2 b1];simp only[Nat.or_assoc]
  rw[v,u];rfl
abbrev cI(x:Nat):Int:=(x:Int)
def bt(b a:Nat):Nat:=if b=1 then a%2 else a / 2%2
def Qp(n:Nat){a b:Nat}(d:a<4)(c:b=1\/b=2):iN n (a:Int) (b:Int)=some ((bt b a:Nat):Int):=by
 have h:a=0\/a=1\/a=2\/a=3:=by omega
 rcases h with rfl | rfl | rfl | rfl<;>rcases c with rfl | rfl<;>rfl
def Tn(b a:Nat):bt b a<=1:=by unfold bt;split<;>omega
def bts(b:Nat):List Nat->Nat
 | []=>0
 | x::l=>bt b x+bts b l
def WQ(n k b i:Nat)(q:b=1\/b=2)(t:k<=3)(A X Y:List Int)(c:List Nat)(u:c.length=3)(l:∀x∈c,x<4):∀(r j a:Nat),j+r=k->a<=j+1->∀N,r<N->
  au (cg n) N ((k:Int),(b:Int),(i:Int),(a:Int),(j:Int),A,c.map cI,X,Y)=some ((k:Int),(b:Int),(i:Int),((a+bts b ((c.take k).drop j):Nat):Int),A,c.map cI,X,Y):=by
 intro r
 induction r with
 | zero=>
  intro j a o d N m;obtain⟨N,rfl⟩:∃k,N=k+1:=⟨N - 1,by omega⟩;have s:cg n ((k:Int),(b:Int),(i:Int),(a:Int),(j:Int),A,c.map cI,X,Y)=some (.inr ((k:Int),(b:Int),(i:Int),(a:Int),A,c.map cI,X,Y)):=by
   unfold cg;rw[bC,ab (show¬((j:Int)<(k:Int))by omega)]
  have e:(c.take k).drop j=[]:=iU (by rw[dq];omega);rw[au,s,e];rfl
 | succ r ih=>
  intro j a o d N m;obtain⟨N,rfl⟩:∃k,N=k+1:=⟨N - 1,by omega⟩;have g:j<c.length:=by omega
  obtain⟨x,hx⟩:∃x,c[j]?=some x:=⟨c[j],bf g⟩;have h:(c.map cI)[j]?=some (x:Int):=by rw[pR,hx];rfl
  have f:=l x (fG hx);have w:wrap .i64 ((a:Int)+((bt b x:Nat):Int))=((a+bt b x:Nat):Int):=by have:=Tn b x;rw[wrap_i64 _ (by omega) (by omega)];omega
  have p:wrap .i64 ((j:Int)+1)=((j+1:Nat):Int):=by rw[wrap_i64 _ (by omega) (by omega)];omega
  have s:cg n ((k:Int),(b:Int),(i:Int),(a:Int),(j:Int),A,c.map cI,X,Y)=some (.inl ((k:Int),(b:Int),(i:Int),((a+bt b x:Nat):Int),((j+1:Nat):Int),A,c.map cI,X,Y)):=by
   unfold cg;rw[bC,ae (show(j:Int)<(k:Int)by omega)];show ob (ix 3 (j:Int)) _=_;rw[dW (show j<3 by omega)];show ob ((c.map cI)[j]?) _=_;rw[h];show ob (iN n (x:Int) (b:Int)) _=_;rw[Qp n f q];show some (Sum.inl ((k:Int),(b:Int),(i:Int),wrap .i64 ((a:Int)+((bt b x:Nat):Int)),wrap .i64 ((j:Int)+1),_))=_;rw[w,p]
  have e:(c.take k).drop j=x::(c.take k).drop (j+1):=bR (by rw[qm (by omega)];exact hx);rw[au,s];have:=Tn b x;show au _ N _=_;rw[ih (j+1) (a+bt b x) (by omega) (by omega) N (by omega),e];simp only[bts,gX]
def hit(k b i:Nat)(c a:List Nat):Bool:=decide (0<bt b (c.getD i 0)+bts b ((a.take k).drop i))
def Wl(n k b i:Nat)(w:9<n)(h:b=1\/b=2)(l:k<=3)(hi:i<k)(X:List Int)(a c:List Nat)(v:a.length=3)(r:c.length=3)(t:∀x∈a,x<4)(m:∀x∈c,x<4)(out:List Int)(o:Int)(s:out[i]?=some o):
  bv n ((k:Int),(b:Int),(i:Int),a.map cI,c.map cI,X,out)=some (.inl ((k:Int),(b:Int),((i+1:Nat):Int),a.map cI,c.map cI,X,cond (hit k b i a c) (out.set i (wrap .u8 (o+(b:Int)))) out)):=by
 obtain⟨x,hx⟩:∃x,a[i]?=some x:=⟨a[i],bf (by omega)⟩;have g:(a.map cI)[i]?=some (x:Int):=by rw[pR,hx];rfl
 have d:=t x (fG hx);have u:=Tn b x;have p:wrap .i64 ((i:Int)+1)=((i+1:Nat):Int):=by rw[wrap_i64 _ (by omega) (by omega)];omega
 have e:=WQ n k b i h l (a.map cI) X out c r m (k - i) i (bt b x) (by omega) (by omega) n (by omega);unfold bv;rw[bC,ae (show(i:Int)<(k:Int)by omega)];show ob (ix 3 (i:Int)) _=_;rw[dW (show i<3 by omega)];show ob ((a.map cI)[i]?) _=_;rw[g];show ob (iN n (x:Int) (b:Int)) _=_;rw[Qp n d h];show ob (au (cg n) n ((k:Int),(b:Int),(i:Int),((bt b x:Nat):Int),(i:Int),a.map cI,c.map cI,X,out)) _=_;rw[e];have q:hit k b i a c=decide (((bt b x+bts b ((c.take k).drop i):Nat):Int)>0):=by
  unfold hit;rw[zD,hx];rw[pC];simp only[wY];omega
 rw[q];show cond (decide (((bt b x+bts b ((c.take k).drop i):Nat):Int)>0)) (ob (ix 3 (i:Int)) λj=>ob (out[j]?) λy=>ob (ix 3 (i:Int)) λj2=>cond (Nat.blt j2 3) (some (Sum.inl ((k:Int),(b:Int),wrap .i64 ((i:Int)+1),a.map cI,c.map cI,X,out.set j2 (wrap .u8 (y+(b:Int)))))) none) (some (Sum.inl ((k:Int),(b:Int),wrap .i64 ((i:Int)+1),a.map cI,c.map cI,X,out)))=_;rw[dW (show i<3 by omega),p];have f:Nat.blt i 3=true:=dT (by omega);simp only[ob,s,f,aj];cases decide (((bt b x+bts b ((c.take k).drop i):Nat):Int)>0)<;>rfl
def addB(k b:Nat)(c a:List Nat)(o:List Int):List Int:=[cond (decide (0<k)&&hit k b 0 c a) (wrap .u8 (o.getD 0 0+(b:Int))) (o.getD 0 0),cond (decide (1<k)&&hit k b 1 c a) (wrap .u8 (o.getD 1 0+(b:Int))) (o.getD 1 0),cond (decide (2<k)&&hit k b 2 c a) (wrap .u8 (o.getD 2 0+(b:Int))) (o.getD 2 0)]
def Pl(n k b:Nat)(t:9<n)(r:b=1\/b=2)(l:1<=k/\k<=3)(X:List Int)(c a:List Nat)(q:c.length=3)(p:a.length=3)(s:∀x∈c,x<4)(m:∀x∈a,x<4)(g o1 f:Int):
  au (bv n) n ((k:Int),(b:Int),0,c.map cI,a.map cI,X,[g,o1,f])=some ((k:Int),(b:Int),c.map cI,a.map cI,X,addB k b c a [g,o1,f]):=by
 obtain⟨n,rfl⟩:∃j,n=j+5:=⟨n - 5,by omega⟩;have d:∀(N:Nat) (out:List Int),au (bv (n+5)) (N+1) ((k:Int),(b:Int),((k:Nat):Int),c.map cI,a.map cI,X,out)=some ((k:Int),(b:Int),c.map cI,a.map cI,X,out):=λN out=>by
  rw[au];have:bv (n+5) ((k:Int),(b:Int),((k:Nat):Int),c.map cI,a.map cI,X,out)=some (.inr ((k:Int),(b:Int),c.map cI,a.map cI,X,out)):=by
   unfold bv;rw[bC,ab (show¬((k:Int)<(k:Int))by omega)]
  rw[this]
 have h:=λ(i:Nat) (hi:i<k) (out:List Int) (o:Int) (ho:out[i]?=some o)=>Wl (n+5) k b i t r l.2 hi X c a q p s m out o ho;have hk':k=1\/k=2\/k=3:=by omega
 have e:=h 0 (by omega) [g,o1,f] g rfl;rcases hk' with rfl | rfl | rfl
 ·rw[au];rw[show((0:Nat):Int)=0 from rfl]at e;rw[e];show au _ (n+3+1) (((1:Nat):Int),(b:Int),((1:Nat):Int),_)=_;rw[d];unfold addB;cases hit 1 b 0 c a<;>rfl
 ·rw[au];rw[show((0:Nat):Int)=0 from rfl]at e;rw[e];show au _ (n+4) (((2:Nat):Int),(b:Int),((1:Nat):Int),_)=_;rw[au,h 1 (by omega) _ o1 (by cases hit 2 b 0 c a<;>rfl)];show au _ (n+2+1) (((2:Nat):Int),(b:Int),((2:Nat):Int),_)=_;rw[d];unfold addB;cases hit 2 b 0 c a<;>cases hit 2 b 1 c a<;>rfl
 ·rw[au];rw[show((0:Nat):Int)=0 from rfl]at e;rw[e];show au _ (n+4) (((3:Nat):Int),(b:Int),((1:Nat):Int),_)=_;rw[au,h 1 (by omega) _ o1 (by cases hit 3 b 0 c a<;>rfl)];show au _ (n+3) (((3:Nat):Int),(b:Int),((2:Nat):Int),_)=_;rw[au,h 2 (by omega) _ f (by cases hit 3 b 0 c a<;>cases hit 3 b 1 c a<;>rfl)];show au _ (n+1+1) (((3:Nat):Int),(b:Int),((3:Nat):Int),_)=_;rw[d];unfold addB;cases hit 3 b 0 c a<;>cases hit 3 b 1 c a<;>cases hit 3 b 2 c a<;>rfl
def lN(p:Nat×Nat×Nat):List Nat:=[p.1,p.2.1,p.2.2]
def qe{x y:Nat}(hx:x<4)(hy:y<4)(b:Nat)(d:b=1\/b=2):decide (0<bt b (x ||| y))=decide (0<bt b x+bt b y):=by
 have:((List.range 4).all λa=>(List.range 4).all λc=>(decide (0<bt 1 (a ||| c))==decide (0<bt 1 a+bt 1 c))&&(decide (0<bt 2 (a ||| c))==decide (0<bt 2 a+bt 2 c)))=true:=by decide +kernel
 have:=r4 (r4 this hx) hy;simp only[aC,bu]at this;rcases d with rfl | rfl
 ·exact this.1
 ·exact this.2
def rj{x:Nat}(hx:x<4):cond (decide (0<bt 2 x)) (wrap .u8 (cond (decide (0<bt 1 x)) (wrap .u8 (0+((1:Nat):Int))) 0+((2:Nat):Int))) (cond (decide (0<bt 1 x)) (wrap .u8 (0+((1:Nat):Int))) 0)=(x:Int):=by
 have h:x=0\/x=1\/x=2\/x=3:=by omega
 rcases h with rfl | rfl | rfl | rfl<;>decide
def ul(n:Nat)(I:9<n)(k:Nat)(A B:Nat×Nat×Nat)(K:1<=k/\k<=3)(E:inM k A)(G:inM k B):ek n (l3 A) (l3 B) (k:Int)=some (l3 (spM A B)):=by
 obtain⟨a0,a1,a2⟩:=A;obtain⟨b0,b1,b2⟩:=B;obtain⟨g0,m,u,z,s⟩:=E;obtain⟨f,d,l,C,t⟩:=G;simp only at g0 m u z s f d l C t;have c:∀x y:Nat,x<4->y<4->x ||| y<4:=λx y hx hy=>(or4 hx hy).2;have L:∀x∈lN (a0,a1,a2),x<4:=by
  intro x hx;simp only[lN,de,sQ,us]at hx;rcases hx with rfl | rfl | rfl<;>assumption
 have J:∀x∈lN (b0,b1,b2),x<4:=by
  intro x hx;simp only[lN,de,sQ,us]at hx;rcases hx with rfl | rfl | rfl<;>assumption
 have run:=λ(b:Nat) (a:b=1\/b=2) (o0 o1 o2:Int)=>Pl n k b I a K [0,0,0] (lN (a0,a1,a2)) (lN (b0,b1,b2)) rfl rfl L J o0 o1 o2;have v:=run 1 (.inl rfl) 0 0 0;obtain⟨g,i,h,hp⟩:∃g i h,addB k 1 (lN (a0,a1,a2)) (lN (b0,b1,b2)) [0,0,0]=[g,i,h]:=⟨_,_,_,rfl⟩;have F:=run 2 (.inr rfl) g i h;rw[hp]at v;obtain⟨n,rfl⟩:∃j,n=j+5:=⟨n - 5,by omega⟩;have O:cL (n+5) ((k:Int),1,l3 (a0,a1,a2),l3 (b0,b1,b2),[0,0,0],[0,0,0])=some (.inl ((k:Int),2,l3 (a0,a1,a2),l3 (b0,b1,b2),[0,0,0],[g,i,h])):=by
  unfold cL;show cond (decide ((1:Int)<=2)) (ob (au (bv (n+5)) (n+5) ((k:Int),((1:Nat):Int),0,(lN (a0,a1,a2)).map cI,(lN (b0,b1,b2)).map cI,[0,0,0],[0,0,0])) _) _=_;rw[v];rfl
 have D:cL (n+5) ((k:Int),2,l3 (a0,a1,a2),l3 (b0,b1,b2),[0,0,0],[g,i,h])=some (.inl ((k:Int),3,l3 (a0,a1,a2),l3 (b0,b1,b2),[0,0,0],addB k 2 (lN (a0,a1,a2)) (lN (b0,b1,b2)) [g,i,h])):=by
  unfold cL;show cond (decide ((2:Int)<=2)) (ob (au (bv (n+5)) (n+5) ((k:Int),((2:Nat):Int),0,(lN (a0,a1,a2)).map cI,(lN (b0,b1,b2)).map cI,[0,0,0],[g,i,h])) _) _=_;rw[F];rfl
 have M:∀out:List Int,cL (n+5) ((k:Int),3,l3 (a0,a1,a2),l3 (b0,b1,b2),[0,0,0],out)=some (.inr ([0,0,0],out)):=λout=>rfl;unfold ek;rw[au,O];show ob (au _ (n+4) _) _=_;rw[au,D];show ob (au _ (n+3) _) _=_;rw[au,M];show some (addB k 2 (lN (a0,a1,a2)) (lN (b0,b1,b2)) [g,i,h])=_;rw[<-hp];have hk':k=1\/k=2\/k=3:=by omega
 have H:=λ(x y:Nat) (hx:x<4) (hy:y<4) (b:Nat) (a:b=1\/b=2)=>qe hx hy b a;rcases hk' with rfl | rfl | rfl
 ·obtain rfl:=z (by omega);obtain rfl:=s (by omega);obtain rfl:=C (by omega);obtain rfl:=t (by omega);have e:∀b,b=1\/b=2->hit 1 b 0 (lN (a0,0,0)) (lN (b0,0,0))=decide (0<bt b (a0 ||| b0)):=λb a=>by rw[qe g0 f b a];rfl
  show some [cond (hit 1 2 0 (lN (a0,0,0)) (lN (b0,0,0))) (wrap .u8 (cond (hit 1 1 0 (lN (a0,0,0)) (lN (b0,0,0))) (wrap .u8 (0+((1:Nat):Int))) 0+((2:Nat):Int))) (cond (hit 1 1 0 (lN (a0,0,0)) (lN (b0,0,0))) (wrap .u8 (0+((1:Nat):Int))) 0),0,0]=_;rw[e 1 (.inl rfl),e 2 (.inr rfl),rj (c _ _ g0 f)];simp[l3,spM]
 ·obtain rfl:=s (by omega);obtain rfl:=t (by omega);have o:∀b,b=1\/b=2->hit 2 b 1 (lN (a0,a1,0)) (lN (b0,b1,0))=decide (0<bt b (a1 ||| b1)):=λb a=>by rw[qe m d b a];rfl
  have r:∀b,b=1\/b=2->hit 2 b 0 (lN (a0,a1,0)) (lN (b0,b1,0))=decide (0<bt b (a0 ||| b0 ||| b1)):=λb a=>by
   have q:=qe (c _ _ g0 f) d b a;have p:=qe g0 f b a;rw[q];have:hit 2 b 0 (lN (a0,a1,0)) (lN (b0,b1,0))=decide (0<bt b a0+(bt b b0+(bt b b1+0))):=rfl;rw[this];simp only[pC]at p ⊢;omega
  show some [cond (hit 2 2 0 (lN (a0,a1,0)) (lN (b0,b1,0))) (wrap .u8 (cond (hit 2 1 0 (lN (a0,a1,0)) (lN (b0,b1,0))) (wrap .u8 (0+((1:Nat):Int))) 0+((2:Nat):Int))) (cond (hit 2 1 0 (lN (a0,a1,0)) (lN (b0,b1,0))) (wrap .u8 (0+((1:Nat):Int))) 0),cond (hit 2 2 1 (lN (a0,a1,0)) (lN (b0,b1,0))) (wrap .u8 (cond (hit 2 1 1 (lN (a0,a1,0)) (lN (b0,b1,0))) (wrap .u8 (0+((1:Nat):Int))) 0+((2:Nat):Int))) (cond (hit 2 1 1 (lN (a0,a1,0)) (lN (b0,b1,0))) (wrap .u8 (0+((1:Nat):Int))) 0),0]=_;rw[r 1 (.inl rfl),r 2 (.inr rfl),o 1 (.inl rfl),o 2 (.inr rfl),rj (c _ _ (c _ _ g0 f) d),rj (c _ _ m d)];simp[l3,spM]
 ·have w:∀b,b=1\/b=2->hit 3 b 2 (lN (a0,a1,a2)) (lN (b0,b1,b2))=decide (0<bt b (a2 ||| b2)):=λb a=>by rw[qe u l b a];rfl
  have o:∀b,b=1\/b=2->hit 3 b 1 (lN (a0,a1,a2)) (lN (b0,b1,b2))=decide (0<bt b (a1 ||| b1 ||| b2)):=λb a=>by
   have q:=qe (c _ _ m d) l b a;have p:=qe m d b a;rw[q];have:hit 3 b 1 (lN (a0,a1,a2)) (lN (b0,b1,b2))=decide (0<bt b a1+(bt b b1+(bt b b2+0))):=rfl;rw[this];simp only[pC]at p ⊢;omega
  have r:∀b,b=1\/b=2->hit 3 b 0 (lN (a0,a1,a2)) (lN (b0,b1,b2))=decide (0<bt b (a0 ||| b0 ||| b1 ||| b2)):=λb a=>by
   have q:=qe (c _ _ (c _ _ g0 f) d) l b a;have p:=qe (c _ _ g0 f) d b a;have N:=qe g0 f b a;rw[q];have:hit 3 b 0 (lN (a0,a1,a2)) (lN (b0,b1,b2))=decide (0<bt b a0+(bt b b0+(bt b b1+(bt b b2+0)))):=rfl;rw[this];simp only[pC]at p N ⊢;omega
  show some [cond (hit 3 2 0 (lN (a0,a1,a2)) (lN (b0,b1,b2))) (wrap .u8 (cond (hit 3 1 0 (lN (a0,a1,a2)) (lN (b0,b1,b2))) (wrap .u8 (0+((1:Nat):Int))) 0+((2:Nat):Int))) (cond (hit 3 1 0 (lN (a0,a1,a2)) (lN (b0,b1,b2))) (wrap .u8 (0+((1:Nat):Int))) 0),cond (hit 3 2 1 (lN (a0,a1,a2)) (lN (b0,b1,b2))) (wrap .u8 (cond (hit 3 1 1 (lN (a0,a1,a2)) (lN (b0,b1,b2))) (wrap .u8 (0+((1:Nat):Int))) 0+((2:Nat):Int))) (cond (hit 3 1 1 (lN (a0,a1,a2)) (lN (b0,b1,b2))) (wrap .u8 (0+((1:Nat):Int))) 0),cond (hit 3 2 2 (lN (a0,a1,a2)) (lN (b0,b1,b2))) (wrap .u8 (cond (hit 3 1 2 (lN (a0,a1,a2)) (lN (b0,b1,b2))) (wrap .u8 (0+((1:Nat):Int))) 0+((2:Nat):Int))) (cond (hit 3 1 2 (lN (a0,a1,a2)) (lN (b0,b1,b2))) (wrap .u8 (0+((1:Nat):Int))) 0)]=_;rw[r 1 (.inl rfl),r 2 (.inr rfl),o 1 (.inl rfl),o 2 (.inr rfl),w 1 (.inl rfl),w 2 (.inr rfl),rj (c _ _ (c _ _ (c _ _ g0 f) d) l),rj (c _ _ (c _ _ m d) l),rj (c _ _ u l)];rfl
def Nj(k a b c:Nat):Bool:=spM (plA k a b c) (plB k a b c)==(a,b,c)
def TA:((List.range 4).all λa=>Nj 1 a 0 0)=true:=by decide +kernel
def Vz:((List.range 4).all λa=>(List.range 4).all λb=>Nj 2 a b 0)=true:=by decide +kernel
def UI:((List.range 4).all λa=>(List.range 4).all λb=>(List.range 4).all λc=>Nj 3 a b c)=true:=by decide +kernel
def WW(k a b c:Nat)(i:1<=k/\k<=3)(d:a<4)(f:b<4)(hc:c<4)(g:k<2->b=0)(e:k<3->c=0):spM (plA k a b c) (plB k a b c)=(a,b,c):=by
 have h:Nj k a b c=true:=by
  have:k=1\/k=2\/k=3:=by omega
  rcases this with rfl | rfl | rfl
  ·rw[g (by omega),e (by omega)];exact r4 TA d
  ·rw[e (by omega)];exact r4 (r4 Vz d) f
  ·exact r4 (r4 (r4 UI d) f) hc
 unfold Nj at h;exact bu.1 h
def mkS(l:aa):Nat:=match l with | []=>0 | c::_=>mkOf c
def mkN(l:aa):Nat:=if mkS l=0 then 0 else 1
def twoN(l:aa):Nat:=bq isDX 2 l
def Ta(c:UInt8):mkOf c<4:=by
 unfold mkOf;split
 ·omega
 ·split
  ·omega
  ·split<;>omega
def C6(l:aa):mkS l<4:=by
 cases l with
 | nil=>show 0<4;omega
 | cons c r=>exact Ta c
def Vt(l:aa):mkN l<=l.length:=by
 cases l with
 | nil=>exact aQ 0
 | cons c r=>
  unfold mkN;split<;>simp
def Re(l:aa):mkN l<=1:=by unfold mkN;split<;>omega
def SV(c:UInt8):hasB [63,126,37] c=decide (0<mkOf c):=by
 have:=iG (λc=>hasB [63,126,37] c==decide (0<mkOf c)) (by decide +kernel) c;simpa using this
def Rk(m:Nat)(S:aa)(a:Nat)(h:a<=S.length)(g:S.length<100000):
  cD (m+300) S (a:Int)=some (.inr (((mkS (S.drop a):Nat):Int),S,((a+mkN (S.drop a):Nat):Int))):=by
 unfold cD;rw[o9 (m+300) S a h];cases hd:S.drop a with
 | nil=>
  have f:mQ (m+300) 0=some (0,false):=by kernel_rfl
  show ob (mQ (m+300) 0) _=_;rw[f];rfl
 | cons c r=>
  show ob (mQ (m+300) ((c.toNat:Nat):Int)) _=_;rw[O8 m c];show cond (decide (0<mkOf c)) _ _=_;have b:mkS (c::r)=mkOf c:=rfl;by_cases hc:0<mkOf c
  ·rw[aq hc];show ob (cn (m+300) [63,126,37] S (a:Int)) _=_;rw[zO (m+300) _ S a h (by omega),hd];have e:hasB [63,126,37] c=true:=by rw[SV,aq hc]
   have d:mkN (c::r)=1:=by unfold mkN;rw[b,ab (by omega)]
   rw[b,d];simp only[e,aG,ob]
  ·rw[am hc];have d:mkN (c::r)=0:=by unfold mkN;rw[b,ae (by omega)]
   rw[b,d];rfl
def Bj(m:Nat)(S:aa)(a:Nat)(h:a<=S.length)(i:S.length<100000)(e:Int):
  eD (m+300) S (a:Int) e=some (((mkS (S.drop a):Nat):Int),S,((a+mkN (S.drop a):Nat):Int),e):=by
 unfold eD;rw[lB];rcases aF a S.length with f | d
 ·have:decide (S.length<=a)=false:=by simp;omega
  rw[this];obtain⟨c,hc⟩:∃c,S[a]?=some c:=⟨S[a],bf f⟩;rw[dE hc,bR hc];show ob (dF (m+300) ((c.toNat:Nat):Int)) _=_;rw[(ND m c).2];have b:mkS (c::S.drop (a+1))=mkOf c:=rfl;show cond (decide (((mkOf c:Nat):Int)>0)) _ _=_;by_cases j:0<mkOf c
  ·have g:mkN (c::S.drop (a+1))=1:=by unfold mkN;rw[b,ab (by omega)]
   have:decide (((mkOf c:Nat):Int)>0)=true:=by simp;omega
   rw[this,b,g,aj];have w:wrap .i64 ((a:Int)+1)=((a+1:Nat):Int):=by rw[wrap_i64 _ (by omega) (by omega)];omega
   rw[w]
  ·have g:mkN (c::S.drop (a+1))=0:=by unfold mkN;rw[b,ae (by omega)]
   have:decide (((mkOf c:Nat):Int)>0)=false:=by simp;omega
   rw[this,b,g,af];rfl
 ·have:decide (S.length<=a)=true:=by simp;omega
  rw[this,iU d];rfl
def Qf(n:Nat)(S:aa)(a:Nat)(h:a<=S.length)(i:S.length<100000)(f:S.length<n):
  iE n S (a:Int)=some (if twoN (S.drop a)<2 then .inl (((a+twoN (S.drop a):Nat):Int),5,S,((a+twoN (S.drop a):Nat):Int))else .inr ((S.drop a).take 2,S,((a+2:Nat):Int))):=by
 unfold iE;rw[vL n _ 2 2 S a h (by omega) f];have e:bq (hasB [88,48,49,50,51,52,53,54,55,56,57]) (2:Int).toNat (S.drop a)=twoN (S.drop a):=by
  unfold twoN;have g:(2:Int).toNat=2:=rfl;rw[g];exact ka (λc=>by rw[uT];rfl) _ _
 rw[e];by_cases b:twoN (S.drop a)<2
 ·rw[ae b,ae (by omega)];rfl
 ·have d:twoN (S.drop a)=2:=by
   have:=qX isDX 2 (S.drop a);unfold twoN at b ⊢;omega
  rw[ab b,ab (by omega),d];rfl
def Vb(c:UInt8):isDX c=((decide (48<=c.toNat)&&decide (c.toNat<=57))||c==88):=by
 unfold isDX;congr 1;rw[r7,ck];simp
def Hr(n:Nat)(S:aa)(a b i e:Int)(j:Nat)(v:S.length<100000)(hi:i<2)(s:j<=S.length)(r:0<=i):
  gZ n (b,i,S,(j:Int),e,[],0,0)=some (match S.drop j with
   | []=>.inr (.inl ([],S,(j:Int),5))
   | c::_=>if isDX c then .inl (b,i+1,S,((j+1:Nat):Int),e,[],0,0)else .inr (.inl ([],S,(j:Int),5))):=by
 unfold gZ;have p:decide (i<2)=true:=aq hi;show cond (decide (i<2)) (cond (decide ((j:Int)>=((S.length:Nat):Int))) _ _) _=_;rw[p,lB];rcases aF j S.length with k | f
 ·have:decide (S.length<=j)=false:=by simp;omega
  rw[this];obtain⟨c,hc⟩:∃c,S[j]?=some c:=⟨S[j],bf k⟩;have q:wrap .i64 (i+1)=i+1:=wrap_i64 _ (by omega) (by omega);have o:wrap .i64 ((j:Int)+1)=((j+1:Nat):Int):=by rw[wrap_i64 _ (by omega) (by omega)];omega
  rw[bR hc];simp only[dE hc,ob,aj,af,q,o];rw[Vb];have m:(((c.toNat:Nat):Int) != 88)=!(c==88):=by rw[bne];congr 1;exact nM c 88
  rw[m];by_cases t:c.toNat<48
  ·have d:decide (((c.toNat:Nat):Int)<48)=true:=by simp;omega
   have h:decide (48<=c.toNat)=false:=by simp;omega
   rw[d,h];cases(c==88)<;>rfl
  ·have d:decide (((c.toNat:Nat):Int)<48)=false:=by simp;omega
   have h:decide (48<=c.toNat)=true:=by simp;omega
   rw[d,h];by_cases u:c.toNat<=57
   ·have g:decide (((c.toNat:Nat):Int)>57)=false:=by simp;omega
    have l:decide (c.toNat<=57)=true:=by simp;omega
    rw[g,l];rfl
   ·have g:decide (((c.toNat:Nat):Int)>57)=true:=by simp;omega
    have l:decide (c.toNat<=57)=false:=by simp;omega
    rw[g,l];cases(c==88)<;>rfl
 ·have:decide (S.length<=j)=true:=by simp;omega
  rw[this,iU f];rfl
def M9(n:Nat)(s:10<n)(S:aa)(a:Nat)(h:a<=S.length)(k:S.length<100000)(e:Int):
  jM n S (a:Int) e=some (if twoN (S.drop a)<2 then([],S,((a+twoN (S.drop a):Nat):Int),5)else((S.drop a).take 2,S,((a+2:Nat):Int),e)):=by
 obtain⟨n,rfl⟩:∃j,n=j+3:=⟨n - 3,by omega⟩;unfold jM;rw[au,Hr (n+3) S 0 (a:Int) 0 e a k (by omega) h (by omega)];cases hd:S.drop a with
 | nil=>rfl
 | cons c r=>
  obtain⟨p,q,i⟩:=nE hd;cases hc:isDX c with
  | false=>
   have:twoN (c::r)=0:=by unfold twoN;simp[bq,hc]
   rw[this];simp[hc,ob]
  | true=>
   simp only[hc,aG];rw[au,Hr (n+3) S 0 (a:Int) (0+1) e (a+1) k (by omega) (by omega) (by omega),i];cases r with
   | nil=>
    have:twoN [c]=1:=by unfold twoN;simp[bq,hc]
    rw[this];rfl
   | cons d f=>
    obtain⟨g,l,m⟩:=nE i;cases b:isDX d with
    | false=>
     have:twoN (c::d::f)=1:=by unfold twoN;simp[bq,hc,b]
     rw[this];simp[b,ob]
    | true=>
     have:twoN (c::d::f)=2:=by unfold twoN;simp[bq,hc,b]
     rw[this];simp only[b,aG];have o:gZ (n+3) ((a:Int),0+1+1,S,((a+1+1:Nat):Int),e,[],0,0)=some (.inr (.inr ((a:Int),S,((a+1+1:Nat):Int),e,[],0,0))):=rfl;rw[au,o];show ob (bx S.length ((a+1+1:Nat):Int)) _=_;rw[fC (show a+1+1<=S.length by omega)];show ob (bx (a+1+1) (a:Int)) _=_;rw[fC (show a<=a+1+1 by omega)];have:List.drop a (List.take (a+1+1) S)=[c,d]:=by
      rw[xW,hd];have:a+1+1 - a=2:=by omega
      rw[this];rfl
     show some (List.drop a (List.take (a+1+1) S),S,((a+1+1:Nat):Int),e)=_;rw[this];rfl
def FV{k:Nat}(h:k<10):Lib.decDigits k=[UInt8.ofNat (48+k)]:=by
 rw[Lib.decDigits,dif_pos h]
def Ec{k:Nat}(h:¬k<10)(a:k<100):Lib.decDigits k=[UInt8.ofNat (48+k / 10),UInt8.ofNat (48+k%10)]:=by
 rw[Lib.decDigits,dif_neg h,FV (by omega)];rfl
def fQ(letter:UInt8)(v:Nat):aa:=if 0<v then letter::Lib.decDigits v else[]
def Wc{k:Nat}(h:k<100):1<=(Lib.decDigits k).length/\(Lib.decDigits k).length<=2:=by
 by_cases a:k<10
 ·rw[FV a];simp
 ·rw[Ec a h];simp
def Cf(letter:UInt8){k:Nat}(h:k<100):(fQ letter k).length<=3:=by
 unfold fQ;split
 ·have:=Wc h;simp only[aN];omega
 ·simp
def lx(g l:Bool)(d:aa)(x s:Nat):mL g l d (x:Int) (s:Int)=(if l then[89]else[])++(if g then[45]else[])++d++fQ 69 x++fQ 83 s:=by
 unfold mL fQ;simp only[ch];have b:(0<(x:Int))=(0<x):=by simp
 have a:(0<(s:Int))=(0<s):=by simp
 simp only[b,a]
def cP(p:UInt8->Bool)(l:aa):Prop:=∀c,l.head?=some c->p c=false
def qj{k:Nat}(h:k<10):(UInt8.ofNat (48+k)).toNat=48+k:=by
 rw[E4];exact sL (by omega)
def Cd(letter:UInt8)(v:Nat)(post:aa)(i:v<100)(h:cP bp post)(j:cP (λc=>c==letter) post):numS letter (fQ letter v++post)=.inr (v,(fQ letter v).length):=by
 unfold fQ;by_cases g:0<v
 ·rw[ae g];by_cases f:v<10
  ·rw[FV f];have hd:=qj f;simp only[dB,dI];rw[kZ,ae rfl,me,ae (by omega)];have a:48+v - 48=v:=by omega
   cases post with
   | nil=>
    rw[rD,hd,a];rfl
   | cons e r=>
    have d:¬bp e=true:=by rw[h e rfl];simp
    rw[kE,ab d,hd,a];rfl
  ·rw[Ec f i];have hd:=qj (show v / 10<10 by omega);have d:=qj (show v%10<10 by omega);simp only[dB,dI];rw[kZ,ae rfl,me,ae (by omega),kE,ae ((ck _).2 (by omega)),hd,d];rw[show 10*(48+v / 10 - 48)+(48+v%10 - 48)=v by omega];rfl
 ·rw[ab g];have b:v=0:=by omega
  subst b;cases post with
  | nil=>rfl
  | cons c r=>
   have hc:c≠letter:=by
    have:=j c rfl;simpa using this
   rw[dI,kZ,ab hc];rfl
def wn(letter:UInt8)(l:aa)(v k:Nat)(h:numS letter l=.inr (v,k)):v<100/\l.take k=fQ letter v/\k<=l.length:=by
 cases l with
 | nil=>
  simp only[uf,n9,bm]at h;obtain⟨rfl,rfl⟩:=h;exact⟨by omega,rfl,by simp⟩
 | cons c r=>
  rw[kZ]at h;by_cases hc:c=letter
  ·rw[ae hc]at h;cases r with
   | nil=>simp[vF]at h
   | cons d i=>
    rw[me]at h;by_cases hd:49<=d.toNat/\d.toNat<=57
    ·rw[ae hd]at h;have g:d.toNat - 48<10:=by omega
     have a:UInt8.ofNat (48+(d.toNat - 48))=d:=by
      apply gu.1;rw[qj g];omega
     have one:(c::d::i).take 2=fQ letter (d.toNat - 48):=by
      unfold fQ;rw[ae (by omega),FV g,a,hc];rfl
     cases i with
     | nil=>
      simp only[rD,n9,bm]at h;obtain⟨rfl,rfl⟩:=h;exact⟨by omega,one,by simp⟩
     | cons e o=>
      rw[kE]at h;by_cases f:bp e=true
      ·rw[ae f]at h;simp only[n9,bm]at h;obtain⟨rfl,rfl⟩:=h;have j:=(ck e).1 f;refine⟨by omega,?_,by simp⟩;unfold fQ;have m:(10*(d.toNat - 48)+(e.toNat - 48)) / 10=d.toNat - 48:=by omega
       have n:(10*(d.toNat - 48)+(e.toNat - 48))%10=e.toNat - 48:=by omega
       have b:UInt8.ofNat (48+(e.toNat - 48))=e:=by
        apply gu.1;rw[qj (by omega)];omega
       rw[ae (by omega),Ec (by omega) (by omega),m,n,a,b,hc];rfl
      ·rw[ab f]at h;simp only[n9,bm]at h;obtain⟨rfl,rfl⟩:=h;exact⟨by omega,one,by simp⟩
    ·rw[ab hd]at h;cases h
  ·rw[ab hc]at h;simp only[n9,bm]at h;obtain⟨rfl,rfl⟩:=h;exact⟨by omega,rfl,by simp⟩
def wF{p:UInt8->Bool}:∀(r:aa) (k:Nat) (post:aa),(∀c∈r,p c=true)->r.length<=k->(cP p post\/r.length=k)->bq p k (r++post)=r.length
 | [],0,post,_,_,_=>by simp[bq]
 | [],k+1,post,_,_,h=>by
  cases post with
  | nil=>simp[bq]
  | cons c q=>
   rcases h with h | h
   ·have:=h c rfl;simp[bq,this]
   ·simp at h
 | c::r,0,post,_,h,_=>by simp at h
 | c::r,k+1,post,hp,a,h=>by
  have ih:=wF r k post (λd hd=>hp d (by simp[hd])) (by simpa using a) (by
   rcases h with h | h
   ·exact .inl h
   ·exact .inr (by simpa using h))
  simp only[dB,bq,hp c (by simp),aG,ih,aN]
def zh{p:UInt8->Bool}:∀(k:Nat) (l:aa),∀c∈l.take (bq p k l),p c=true
 | 0,l=>by simp[bq]
 | k+1,[]=>by simp[bq]
 | k+1,c::l=>by
  simp only[bq];by_cases h:p c=true
  ·rw[ae h];intro d hd;rw[pf,de]at hd;rcases hd with rfl | hd
   ·exact h
   ·exact zh k l d hd
  ·rw[ab h];simp
def rn{letter:UInt8}{v:Nat}{post:aa}{p:UInt8->Bool}(a:p letter=false)(b:cP p post):cP p (fQ letter v++post):=by
 unfold fQ;intro c hc;by_cases h:0<v
 ·rw[ae h]at hc;simp only[dB,lF,ar]at hc;rw[<-hc];exact a
 ·rw[ab h]at hc;exact b c hc
def isYC(c:UInt8):Bool:=isDX c||c==69||c==83
def Qd{l:aa}(h:cP isYC l):cP bp l:=λc hc=>by
 have:=h c hc;unfold isYC isDX at this;simp only[oP]at this;exact this.1.1.1
def Xr{l:aa}(h:cP isYC l):cP isDX l:=λc hc=>by
 have:=h c hc;unfold isYC at this;simp only[oP]at this;exact this.1.1
def Xt{l:aa}(h:cP isYC l):cP (λc=>c==69) l:=λc hc=>by
 have:=h c hc;unfold isYC at this;simp only[oP]at this;exact this.1.2
def WC{l:aa}(h:cP isYC l):cP (λc=>c==83) l:=λc hc=>by
 have:=h c hc;unfold isYC at this;simp only[oP]at this;exact this.2
def nR(c:UInt8)(l:aa):dR c (c::l)=1:=by rw[kw,ae rfl]
def oC{c a:UInt8}(h:a≠c)(l:aa):dR c (a::l)=0:=by rw[kw,ab h]
def LU{g l:Bool}{d:aa}{x s:Nat}(h:okY g l d (x:Int) (s:Int))(post:aa)(hp:cP isYC post):mG (mL g l d (x:Int) (s:Int)++post)=.inr (g,l,d,x,s,(mL g l d (x:Int) (s:Int)).length):=by
 have L:=kC h;have m:numS 83 (fQ 83 s++post)=.inr (s,(fQ 83 s).length):=Cd 83 s post (by omega) (Qd hp) (WC hp);have k:cP bp (fQ 83 s++post):=rn (by decide) (Qd hp);have H:cP isDX (fQ 83 s++post):=rn (by decide) (Xr hp);rw[lx];cases l with
 | true=>
  have M:okL d (x:Int) (s:Int):=by simpa[okY]using h
  obtain⟨⟨b,j,z,A,E,C,K,N⟩,O,B⟩:=M;obtain⟨c,r,rfl⟩:∃c r,d=c::r:=by
   cases d with
   | nil=>simp at j
   | cons c r=>exact⟨c,r,rfl⟩
  have v:=(ck c).1 (b c (by simp));have p:49<=c.toNat/\c.toNat<=57:=by
   have:c.toNat≠48:=λe=>A (by rw[show c=48 from gu.1 e];rfl);omega
  have a:c≠45:=by rintro rfl;exact absurd v.1 (by decide)
  have w:numS 69 (fQ 69 x++(fQ 83 s++post))=.inr (x,(fQ 69 x).length):=Cd 69 x _ (by omega) k (rn (by decide) (Xt hp));have i:bq bp 16 (r++(fQ 69 x++(fQ 83 s++post)))=r.length:=by
   refine wF r 16 _ (λe D=>b e (by simp[D])) (by simp only[aN]at z;omega) (.inl ?_);exact rn (by decide) k
  have body:∀o:Nat,rc g o ((c::r)++(fQ 69 x++(fQ 83 s++post)))=.inr (g,true,c::r,x,s,o+(1+r.length)+(fQ 69 x).length+(fQ 83 s).length):=by
   intro o;simp only[dB,rc];rw[ae p,i];have I:List.drop (1+r.length) (c::(r++(fQ 69 x++(fQ 83 s++post))))=fQ 69 x++(fQ 83 s++post):=by
    rw[pD,oJ,D1 rfl]
   have F:List.drop (1+r.length+(fQ 69 x).length) (c::(r++(fQ 69 x++(fQ 83 s++post))))=fQ 83 s++post:=by
    rw[show 1+r.length+(fQ 69 x).length=(r.length+(fQ 69 x).length)+1 by omega,oJ,<-gG,D1 (by simp)]
   have J:List.take (1+r.length) (c::(r++(fQ 69 x++(fQ 83 s++post))))=c::r:=by
    rw[pD,pf,List.take_left' rfl]
   rw[I,w];simp only[];rw[F,m,J]
  unfold mG;cases g with
  | true=>
   simp only[aG,dB,dI,gG];rw[nR,ae rfl,oJ,bI,nR];have:=body 2;simp only[dB]at this;simp only[oJ,bI,show((1:Nat)==1)=true from rfl,show 1+1=2 from rfl];rw[this];simp only[aN,bw];congr 6;omega
  | false=>
   simp only[aG,bj,az,dB,dI,gG];rw[nR,ae rfl,oJ,bI,oC a];have:=body 1;simp only[dB]at this;simp only[oJ,bI,show((0:Nat)==1)=false from rfl,cG];rw[this];simp only[aN,bw];congr 6;omega
 | false=>
  have G:okS g d (x:Int) (s:Int):=by simpa[okY]using h
  obtain⟨b,j,z,A,E,C,K⟩:=G;have u:x=0:=by omega
  subst u;have t:fQ 69 0=[]:=rfl;have y:∀c∈d,isDX c=true:=λc hc=>by
   unfold isDX;rcases j c hc with q | q
   ·rw[q];rfl
   ·rw[q];simp
  have i:bq isDX 4 (d++(fQ 83 s++post))=d.length:=wF d 4 _ y (by omega) (.inr b);have body:∀o:Nat,pZ g o (d++(fQ 83 s++post))=.inr (g,false,d,0,s,o+4+(fQ 83 s).length):=by
   intro o;unfold pZ;rw[i,b,ab (by omega),D1 b,m,List.take_left' b]
  obtain⟨c,r,rfl⟩:∃c r,d=c::r:=by
   cases d with
   | nil=>simp at b
   | cons c r=>exact⟨c,r,rfl⟩
  have a:c≠45:=by
   rintro rfl;rcases j 45 (by simp)with q | q
   ·exact absurd ((ck _).1 q).1 (by decide)
   ·exact absurd q (by decide)
  have n:c≠89:=by
   rintro rfl;rcases j 89 (by simp)with q | q
   ·exact absurd ((ck _).1 q).2 (by decide)
   ·exact absurd q (by decide)
  have f:(45:UInt8)≠89:=by decide
  unfold mG;rw[t];cases g with
  | true=>
   simp only[aG,bj,az,dB,dI,gG];rw[oC f,ab (by decide),nR,oJ,bI];have:=body 1;simp only[dB]at this;rw[show((1:Nat)==1)=true from rfl,this];simp only[aN,bw]at b ⊢;congr 6;omega
  | false=>
   simp only[bj,az,dB,dI,gG];rw[oC n,ab (by decide),oC a,bI];have:=body 0;simp only[dB]at this;rw[show((0:Nat)==1)=false from rfl,this];simp only[aN,bw]at b ⊢;congr 6;omega
def uB(c:UInt8)(l:aa):l.take (dR c l)=if dR c l=1 then[c]else[]:=by
 rcases ki c l with h | h
 ·rw[h];simp
 ·rw[h,ae rfl];unfold dR at h;split at h
  ·assumption
  ·cases h
def oG(l:aa)(i j:Nat):l.take (i+j)=l.take i++(l.drop i).take j:=by
 rw[List.take_add]
def qR{l:aa}{g o:Bool}{d:aa}{x s k:Nat}(h:mG l=.inr (g,o,d,x,s,k)):l.take k=mL g o d (x:Int) (s:Int)/\k<=l.length/\x<100/\s<100/\d.length<=17:=by
 rw[lx];unfold mG at h;by_cases b:dR 89 l=1
 ·rw[ae b]at h;have n:=uB 89 l;rw[b,ae rfl]at n;have e:=uB 45 (l.drop 1);have c45:=ki 45 (l.drop 1);generalize D:dR 45 (l.drop 1)=u at *;have a:l.take (1+u)=[89]++(if(u==1)=true then[45]else[]):=by
   rw[oG,n,e];rcases c45 with rfl | rfl<;>rfl
  cases hd:l.drop (1+u)with
  | nil=>rw[hd]at h;simp[rc]at h
  | cons c r=>
   rw[hd]at h;simp only[rc]at h;by_cases hc:49<=c.toNat/\c.toNat<=57
   ·rw[ae hc]at h;have z:=qX bp 16 r;have A:1+bq bp 16 r<=(c::r).length:=by have:=lX bp 16 r;simp only[aN];omega
    generalize E:1+bq bp 16 r=K at *;cases f:numS 69 (List.drop K (c::r))with
    | inl j=>rw[f]at h;simp at h
    | inr p=>
     obtain⟨F,j⟩:=p;rw[f]at h;simp only at h;cases m:numS 83 (List.drop (K+j) (c::r))with
     | inl i=>rw[m]at h;simp at h
     | inr w=>
      obtain⟨s',i⟩:=w;rw[m]at h;simp only[n9,bm]at h;obtain⟨rfl,rfl,rfl,rfl,rfl,rfl⟩:=h;obtain⟨a1,a2,C⟩:=wn _ _ _ _ f;obtain⟨b1,b2,t⟩:=wn _ _ _ _ m;rw[ba]at C t;have B:l.length=1+u+(c::r).length:=by
       have:=cb List.length hd;rw[ba]at this;simp only[aN]at this ⊢;omega
      refine⟨?_,by simp only[aN]at *;omega,a1,b1,by rw[dq];omega⟩;rw[show 1+u+K+j+i=(1+u)+(K+(j+i))by omega,oG,a,hd,oG _ K,oG _ j,a2,i7,b2];simp
   ·rw[ab hc]at h;simp at h
 ·rw[ab b]at h;have e:=uB 45 l;have c45:=ki 45 l;generalize D:dR 45 l=u at *;have a:l.take u=(if(u==1)=true then[45]else[]):=by
   rw[e];rcases c45 with rfl | rfl<;>rfl
  unfold pZ at h;by_cases y:bq isDX 4 (l.drop u)<4
  ·rw[ae y]at h;simp at h
  ·rw[ab y]at h;have q:=lX isDX 4 (l.drop u);rw[ba]at q;cases f:numS 83 (List.drop 4 (l.drop u))with
   | inl i=>rw[f]at h;simp at h
   | inr w=>
    obtain⟨s',i⟩:=w;rw[f]at h;simp only[n9,bm]at h;obtain⟨rfl,rfl,rfl,rfl,rfl,rfl⟩:=h;obtain⟨b1,b2,t⟩:=wn _ _ _ _ f;rw[ba,ba]at t;refine⟨?_,by omega,by omega,b1,by rw[dq];omega⟩;rw[show u+4+i=u+(4+i)by omega,oG,a,oG _ 4,b2];have v:fQ 69 0=[]:=rfl;rw[v];simp
abbrev DR:=Bool×Bool×aa×Nat×Nat×aa×aa×(Nat×Nat×Nat)×(Nat×Nat×Nat)×Nat
def mkE(S:aa)(p:Nat):Nat:=p+mkN (S.drop p)
def rd3(S:aa)(y:YR)(g h b d c e a:Nat)(f:aa):Nat⊕DR:=
 if twoN (S.drop (mkE S (a+1)))<2 then .inl (mkE S (a+1)+twoN (S.drop (mkE S (a+1))))
 else .inr (y.1,y.2.1,y.2.2.1,y.2.2.2.1,y.2.2.2.2.1,f,(S.drop (mkE S (a+1))).take 2,spM (g,b,mkS (S.drop (a+1))) (h,d,mkS (S.drop (mkE S (a+1)+2))),(c,e,mkE S (a+1)),mkE S (mkE S (a+1)+2))
def rd2(S:aa)(y:YR)(b c d a:Nat):Nat⊕DR:=
 if twoN (S.drop (mkE S (a+1)))<2 then .inl (mkE S (a+1)+twoN (S.drop (mkE S (a+1))))
 else if dR 45 (S.drop (mkE S (mkE S (a+1)+2)))=0 then .inr (y.1,y.2.1,y.2.2.1,y.2.2.2.1,y.2.2.2.2.1,(S.drop (mkE S (a+1))).take 2,[],spM (b,mkS (S.drop (a+1)),0) (c,mkS (S.drop (mkE S (a+1)+2)),0),(d,mkE S (a+1),0),mkE S (mkE S (a+1)+2))
 else rd3 S y b c (mkS (S.drop (a+1))) (mkS (S.drop (mkE S (a+1)+2))) d (mkE S (a+1)) (mkE S (mkE S (a+1)+2)) ((S.drop (mkE S (a+1))).take 2)
def nU(S:aa)(a:Nat):Nat⊕DR:=match mG (S.drop (mkE S a))with
 | .inl k=>.inl (mkE S a+k)
 | .inr y=>if 0<y.2.2.2.2.1\/dR 45 (S.drop (mkE S (mkE S a+y.2.2.2.2.2)))=0
  then .inr (y.1,y.2.1,y.2.2.1,y.2.2.2.1,y.2.2.2.2.1,[],[],spM (mkS (S.drop a),0,0) (mkS (S.drop (mkE S a+y.2.2.2.2.2)),0,0),(mkE S a,0,0),mkE S (mkE S a+y.2.2.2.2.2))
  else rd2 S y (mkS (S.drop a)) (mkS (S.drop (mkE S a+y.2.2.2.2.2))) (mkE S a) (mkE S (mkE S a+y.2.2.2.2.2))
def Um(S:aa):Nat⊕DR->(Int×Int×aa×Int)⊕(Bool×Bool×aa×Int×Int×aa×aa×Int×Int×Int×List Int×aa×Int)
 | .inl k=>.inl ((k:Int),5,S,(k:Int))
 | .inr (g,l,dg,x,s,m,d,M,P,e)=>.inr (g,l,dg,(x:Int),(s:Int),m,d,(M.1:Int),(M.2.1:Int),(M.2.2:Int),l3 P,S,(e:Int))
def kK{S:aa}{p:Nat}(h:p<=S.length):mkE S p<=S.length:=by
 have:=Vt (S.drop p);rw[ba]at this;unfold mkE;omega
def vg{S:aa}{p:Nat}(a:¬twoN (S.drop p)<2):p+2<=S.length:=by
 have:=lX isDX 2 (S.drop p);unfold twoN at a;rw[ba]at this;omega
def rI{S:aa}{p:Nat}(h:¬dR 45 (S.drop p)=0):p+1<=S.length:=by
 have:=Ba 45 (S.drop p);rw[ba]at this;omega
def OX(n:Nat)(g l:Bool)(d:aa)(x s:Int)(a b:aa)(k0 k1 k2:Int)(S:aa)(p:Nat)(h:p<=S.length)(c:S.length<100000)(e:S.length<n):
  jO n g l d x s a b k0 k1 k2 S (p:Int)=some (match mG (S.drop p)with
   | .inl k=>.inl (((p+k:Nat):Int),5,g,l,d,x,s,a,b,k0,k1,k2,S,((p+k:Nat):Int))
   | .inr y=>.inr (y.1,y.2.1,y.2.2.1,(y.2.2.2.1:Int),(y.2.2.2.2.1:Int),a,b,k0,k1,k2,S,((p+y.2.2.2.2.2:Nat):Int))):=by
 unfold jO;rw[Su n S p h c e];cases mG (S.drop p)with
 | inl k=>rfl
 | inr y=>rfl
def PS(n:Nat)(g l:Bool)(d:aa)(x s:Int)(c b:aa)(k0 k1 k2:Int)(S:aa)(p:Nat)(h:p<=S.length)(e:S.length<100000)(f:S.length<n):
  jY n g l d x s c b k0 k1 k2 S (p:Int)=some (if twoN (S.drop p)<2
   then .inl (((p+twoN (S.drop p):Nat):Int),5,g,l,d,x,s,c,b,k0,k1,k2,S,((p+twoN (S.drop p):Nat):Int))
   else .inr (g,l,d,x,s,(S.drop p).take 2,b,k0,k1,k2,S,((p+2:Nat):Int))):=by
 unfold jY;rw[Qf n S p h e f];by_cases a:twoN (S.drop p)<2
 ·rw[ae a,ae a];rfl
 ·rw[ab a,ab a];rfl
def O9(n:Nat)(g l:Bool)(d:aa)(x s:Int)(b c:aa)(k0 k1 k2:Int)(S:aa)(p:Nat)(h:p<=S.length)(e:S.length<100000)(f:S.length<n):
  jR n g l d x s b c k0 k1 k2 S (p:Int)=some (if twoN (S.drop p)<2
   then .inl (((p+twoN (S.drop p):Nat):Int),5,g,l,d,x,s,b,c,k0,k1,k2,S,((p+twoN (S.drop p):Nat):Int))
   else .inr (g,l,d,x,s,b,(S.drop p).take 2,k0,k1,k2,S,((p+2:Nat):Int))):=by
 unfold jR;rw[Qf n S p h e f];by_cases a:twoN (S.drop p)<2
 ·rw[ae a,ae a];rfl
 ·rw[ab a,ab a];rfl
def QU(m:Nat)(S:aa)(a:Nat)(h:a<=S.length)(n:S.length<100000)(E:S.length<m+300):
  jH (m+300) S (a:Int)=some (Um S (nU S a)):=by
 have j:∀p,p<=S.length->cD (m+300) S (p:Int)=some (.inr (((mkS (S.drop p):Nat):Int),S,((mkE S p:Nat):Int))):=λp hp=>Rk m S p hp n;have b:∀p,mkS (S.drop p)<4:=λp=>C6 _;have v:∀p q,eK (m+300) [((mkS (S.drop p):Nat):Int),0,0] [((mkS (S.drop q):Nat):Int),0,0] 1=some (l3 (spM (mkS (S.drop p),0,0) (mkS (S.drop q),0,0)),0):=λp q=>
  xe (m+300) (by omega) 1 (mkS (S.drop p),0,0) (mkS (S.drop q),0,0) (by omega) ⟨b p,by simp,by simp,by simp,by simp⟩ ⟨b q,by simp,by simp,by simp,by simp⟩
 have D:∀p q d f,eK (m+300) [((mkS (S.drop p):Nat):Int),((mkS (S.drop d):Nat):Int),0] [((mkS (S.drop q):Nat):Int),((mkS (S.drop f):Nat):Int),0] 2=some (l3 (spM (mkS (S.drop p),mkS (S.drop d),0) (mkS (S.drop q),mkS (S.drop f),0)),0):=λp q d f=>
  xe (m+300) (by omega) 2 (mkS (S.drop p),mkS (S.drop d),0) (mkS (S.drop q),mkS (S.drop f),0) (by omega) ⟨b p,b d,by simp,by simp,by simp⟩ ⟨b q,b f,by simp,by simp,by simp⟩
 have F:∀p q d f c i,eK (m+300) [((mkS (S.drop p):Nat):Int),((mkS (S.drop d):Nat):Int),((mkS (S.drop c):Nat):Int)] [((mkS (S.drop q):Nat):Int),((mkS (S.drop f):Nat):Int),((mkS (S.drop i):Nat):Int)] 3=some (l3 (spM (mkS (S.drop p),mkS (S.drop d),mkS (S.drop c)) (mkS (S.drop q),mkS (S.drop f),mkS (S.drop i))),0):=λp q d f c i=>
  xe (m+300) (by omega) 3 (mkS (S.drop p),mkS (S.drop d),mkS (S.drop c)) (mkS (S.drop q),mkS (S.drop f),mkS (S.drop i)) (by omega) ⟨b p,b d,b c,by simp,by simp⟩ ⟨b q,b f,b i,by simp,by simp⟩
 have b0:=kK h;unfold jH nU;rw[j a h];simp only[ob,C3];rw[OX _ _ _ _ _ _ _ _ _ _ _ S (mkE S a) b0 n E];cases H:mG (S.drop (mkE S a))with
 | inl k=>rfl
 | inr y=>
  obtain⟨g,l,dg,x,s,k⟩:=y;have bk:mkE S a+k<=S.length:=by
   have:=(qR H).2.1;rw[ba]at this;omega
  have b1:=kK bk;simp only[ob,d4,d8];rw[j (mkE S a+k) bk];simp only[ob];by_cases hs:0<s
  ·have:decide (((s:Nat):Int)>0)=true:=by simp;omega
   rw[this,ae (.inl hs)];simp only[aj];rw[v];rfl
  ·have:decide (((s:Nat):Int)>0)=false:=by simp;omega
   rw[this];simp only[af];rw[tO (m+300) 45 S _ b1 n];simp only[ob];by_cases r:dR 45 (S.drop (mkE S (mkE S a+k)))=0
   ·rw[ae (.inr r),r];simp only[show((0:Nat)==1)=false from rfl,ia,aj,cG];rw[v];rfl
   ·have C:dR 45 (S.drop (mkE S (mkE S a+k)))=1:=(ki 45 _).resolve_left r;have w:=rI r;rw[ab (λz=>z.elim hs r),C];simp only[show((1:Nat)==1)=true from rfl,ca,af];unfold rd2;rw[j _ w];simp only[ob];have J:=kK w;rw[PS _ _ _ _ _ _ _ _ _ _ _ S _ J n E];by_cases t:twoN (S.drop (mkE S (mkE S (mkE S a+k)+1)))<2
    ·rw[ae t,ae t];rfl
    ·rw[ab t,ab t];have b2:=vg t;simp only[ob,d4,d8];rw[j _ b2];simp only[ob];rw[this];simp only[af];have G:=kK b2;rw[tO (m+300) 45 S _ G n];simp only[ob];by_cases e:dR 45 (S.drop (mkE S (mkE S (mkE S (mkE S a+k)+1)+2)))=0
     ·rw[ae e,e];simp only[show((0:Nat)==1)=false from rfl,ia,aj,cG];rw[D];rfl
     ·have A:=(ki 45 (S.drop (mkE S (mkE S (mkE S (mkE S a+k)+1)+2)))).resolve_left e;have u:=rI e;rw[ab e,A];simp only[show((1:Nat)==1)=true from rfl,ca,af];unfold rd3;rw[j _ u];simp only[ob];have B:=kK u;rw[O9 _ _ _ _ _ _ _ _ _ _ _ S _ B n E];by_cases o:twoN (S.drop (mkE S (mkE S (mkE S (mkE S (mkE S a+k)+1)+2)+1)))<2
      ·rw[ae o,ae o];rfl
      ·rw[ab o,ab o];have I:=vg o;simp only[ob,d4,d8];rw[j _ I];simp only[ob];rw[F];rfl
def RG(S:aa)(P:List Int):Nat⊕DR->Bool×Bool×aa×Int×Int×aa×aa×Int×Int×Int×List Int×aa×Int×Int
 | .inl k=>(false,false,[],0,0,[],[],0,0,0,P,S,(k:Int),5)
 | .inr (g,l,dg,x,s,m,d,M,Q,e)=>(g,l,dg,(x:Int),(s:Int),m,d,(M.1:Int),(M.2.1:Int),(M.2.2:Int),l3 Q,S,(e:Int),0)
abbrev RdSt:=aa×Int×Int×List Int×Bool×Bool×aa×Int×Int×aa×aa×List Int×List Int×List Int×aa×Int×Int
def rdSt(S:aa)(i:Int)(g l:Bool)(dg:aa)(x s:Int)(b a:aa)(P A B:List Int)(p:Nat):RdSt:=
 (S,i,i,[0,0,0],g,l,dg,x,s,b,a,P,A,B,S,(p:Int),0)
def Wm(m:Nat)(S:aa)(a:Nat)(h:a<=S.length)(c:S.length<100000)(e:S.length<m+300):
  aX (m+300) (rdSt S 0 false false [] 0 0 [] [] [0,0,0] [0,0,0] [0,0,0] a)=some (match mG (S.drop (mkE S a))with
   | .inl k=>.inr (.inr (false,false,[],0,0,[],[],0,0,0,[((mkE S a:Nat):Int),0,0],S,((mkE S a+k:Nat):Int),5))
   | .inr y=>.inl (rdSt S 1 y.1 y.2.1 y.2.2.1 (y.2.2.2.1:Int) (y.2.2.2.2.1:Int) [] [] [((mkE S a:Nat):Int),0,0] [((mkS (S.drop a):Nat):Int),0,0] [((mkS (S.drop (mkE S a+y.2.2.2.2.2)):Nat):Int),0,0] (mkE S (mkE S a+y.2.2.2.2.2)))):=by
 have b:∀p,p<=S.length->eD (m+300) S (p:Int) 0=some (((mkS (S.drop p):Nat):Int),S,((mkE S p:Nat):Int),0):=λp hp=>Bj m S p hp c 0;have b0:=kK h;unfold aX rdSt;simp only[d4,d8,d16,fN,show(decide ((0:Int)<3))=true from rfl,show(decide ((0:Int)>0))=false from rfl,aj,af,ob];rw[b a h];simp only[ob,show ix 3 0=some 0 from rfl,show Nat.blt 0 3=true from rfl,aj,fM,show((0:Int)==0)=true from rfl];rw[Or (m+300) S (mkE S a) b0 c e];cases d:mG (S.drop (mkE S a))with
 | inl k=>rfl
 | inr y=>
  obtain⟨g,l,dg,x,s,k⟩:=y;have bk:mkE S a+k<=S.length:=by
   have:=(qR d).2.1;rw[ba]at this;omega
  simp only[oO,ob,d4,d8,d16,show((0:Int) != 0)=false from rfl,af];rw[b _ bk];rfl
def XG(m:Nat)(S:aa)(g l:Bool)(dg:aa)(x s:Nat)(e k f:Int)(q:Nat)(h:q<=S.length)(r:S.length<100000)(t:S.length<m+300):
  aX (m+300) (rdSt S 1 g l dg (x:Int) (s:Int) [] [] [e,0,0] [k,0,0] [f,0,0] q)=some (
   if 0<s\/dR 45 (S.drop q)=0 then .inr (.inl (1,false,false,[],0,0,[],[],0,0,0,[0,0,0],[],0,0,g,l,dg,(x:Int),(s:Int),[],[],0,0,0,[e,0,0],[k,0,0],[f,0,0],S,(q:Int),0))
   else if twoN (S.drop (mkE S (q+1)))<2 then .inr (.inr (false,false,[],0,0,[],[],0,0,0,[e,((mkE S (q+1):Nat):Int),0],S,((mkE S (q+1)+twoN (S.drop (mkE S (q+1))):Nat):Int),5))
   else .inl (rdSt S 2 g l dg (x:Int) (s:Int) ((S.drop (mkE S (q+1))).take 2) [] [e,((mkE S (q+1):Nat):Int),0] [k,((mkS (S.drop (q+1)):Nat):Int),0] [f,((mkS (S.drop (mkE S (q+1)+2)):Nat):Int),0] (mkE S (mkE S (q+1)+2)))):=by
 have o:∀p,p<=S.length->eD (m+300) S (p:Int) 0=some (((mkS (S.drop p):Nat):Int),S,((mkE S p:Nat):Int),0):=λp hp=>Bj m S p hp r 0;unfold aX rdSt;simp only[d4,d8,d16,fN,ii,show(decide ((1:Int)<3))=true from rfl,show(decide ((1:Int)>0))=true from rfl,aj,af,ob,lB];by_cases hs:0<s
 ·have:decide (((s:Nat):Int)>0)=true:=by simp;omega
  rw[this,ae (.inl hs)];rfl
 ·have:decide (((s:Nat):Int)>0)=false:=by simp;omega
  rw[this];simp only[af];rcases aF q S.length with j | i
  ·obtain⟨c,hc⟩:∃c,S[q]?=some c:=⟨S[q],bf j⟩;have b:decide (S.length<=q)=false:=by simp;omega
   rw[b];simp only[af,dE hc,ob];have n:(((c.toNat:Nat):Int) != 45)=!(c==45):=by rw[bne];congr 1;exact nM c 45
   rw[n,bR hc,kw];by_cases a:c=45
   ·have w:wrap .i64 ((q:Int)+1)=((q+1:Nat):Int):=by rw[wrap_i64 _ (by omega) (by omega)];omega
    rw[ae a,ab (show¬(0<s\/(1:Nat)=0)fromλz=>z.elim hs (by omega)),a];simp only[vp,ca,af,ob,w];rw[o _ (by omega)];simp only[ob,show ix 3 1=some 1 from rfl,show Nat.blt 1 3=true from rfl,aj,fM,il,show((1:Int)==0)=false from rfl,show((1:Int)==1)=true from rfl,af];have b1:=kK (show q+1<=S.length by omega);rw[M9 (m+300) (by omega) S _ b1 r 0];by_cases d:twoN (S.drop (mkE S (q+1)))<2
    ·rw[ae d,ae d];rfl
    ·rw[ab d,ab d];simp only[ob,d4,d8,d16,show((0:Int) != 0)=false from rfl,af];rw[o _ (vg d)];rfl
   ·have:(c==45)=false:=aK.2 a;rw[ab a,ae (.inr rfl),this];rfl
  ·have b:decide (S.length<=q)=true:=by simp;omega
   rw[b,iU i,ww,ae (.inr rfl)];rfl
def XK(m:Nat)(S:aa)(g l:Bool)(dg:aa)(x s:Nat)(o:aa)(e t j f i k:Int)(q:Nat)(h:q<=S.length)(y:S.length<100000)(z:S.length<m+300)(hs:¬0<s):
  aX (m+300) (rdSt S 2 g l dg (x:Int) (s:Int) o [] [e,f,0] [t,i,0] [j,k,0] q)=some (
   if dR 45 (S.drop q)=0 then .inr (.inl (2,false,false,[],0,0,[],[],0,0,0,[0,0,0],[],0,0,g,l,dg,(x:Int),(s:Int),o,[],0,0,0,[e,f,0],[t,i,0],[j,k,0],S,(q:Int),0))
   else if twoN (S.drop (mkE S (q+1)))<2 then .inr (.inr (false,false,[],0,0,[],[],0,0,0,[e,f,((mkE S (q+1):Nat):Int)],S,((mkE S (q+1)+twoN (S.drop (mkE S (q+1))):Nat):Int),5))
   else .inl (rdSt S 3 g l dg (x:Int) (s:Int) o ((S.drop (mkE S (q+1))).take 2) [e,f,((mkE S (q+1):Nat):Int)] [t,i,((mkS (S.drop (q+1)):Nat):Int)] [j,k,((mkS (S.drop (mkE S (q+1)+2)):Nat):Int)] (mkE S (mkE S (q+1)+2)))):=by
 have v:∀p,p<=S.length->eD (m+300) S (p:Int) 0=some (((mkS (S.drop p):Nat):Int),S,((mkE S p:Nat):Int),0):=λp hp=>Bj m S p hp y 0;unfold aX rdSt;simp only[d4,d8,d16,fN,ii,show(decide ((2:Int)<3))=true from rfl,show(decide ((2:Int)>0))=true from rfl,aj,af,ob,lB];have:decide (((s:Nat):Int)>0)=false:=by simp;omega
 rw[this];simp only[af];rcases aF q S.length with r | n
 ·obtain⟨c,hc⟩:∃c,S[q]?=some c:=⟨S[q],bf r⟩;have b:decide (S.length<=q)=false:=by simp;omega
  rw[b];simp only[af,dE hc,ob];have u:(((c.toNat:Nat):Int) != 45)=!(c==45):=by rw[bne];congr 1;exact nM c 45
  rw[u,bR hc,kw];by_cases a:c=45
  ·have w:wrap .i64 ((q:Int)+1)=((q+1:Nat):Int):=by rw[wrap_i64 _ (by omega) (by omega)];omega
   rw[ae a,ab (show¬((1:Nat)=0)by omega),a];simp only[vp,ca,af,ob,w];rw[v _ (by omega)];simp only[ob,show ix 3 2=some 2 from rfl,show Nat.blt 2 3=true from rfl,aj,fM,il,show((2:Int)==0)=false from rfl,show((2:Int)==1)=false from rfl,af];have b1:=kK (show q+1<=S.length by omega);rw[M9 (m+300) (by omega) S _ b1 y 0];by_cases d:twoN (S.drop (mkE S (q+1)))<2
   ·rw[ae d,ae d];rfl
   ·rw[ab d,ab d];simp only[ob,d4,d8,d16,show((0:Int) != 0)=false from rfl,af];rw[v _ (vg d)];rfl
  ·have:(c==45)=false:=aK.2 a;rw[ab a,ae rfl,this];rfl
 ·have b:decide (S.length<=q)=true:=by simp;omega
  rw[b,iU n,ww,ae rfl];rfl
def xX(m:Nat)(S:aa)(a:Nat)(h:a<=S.length)(u:S.length<100000)(v:S.length<m+300):
  ∃P:List Int,P.length=3/\jl (m+300) S (a:Int)=some (RG S P (nU S a)):=by
 have b:∀p,mkS (S.drop p)<4:=λp=>C6 _;have r:∀p q,ek (m+300) [((mkS (S.drop p):Nat):Int),0,0] [((mkS (S.drop q):Nat):Int),0,0] 1=some (l3 (spM (mkS (S.drop p),0,0) (mkS (S.drop q),0,0))):=λp q=>
  ul (m+300) (by omega) 1 (mkS (S.drop p),0,0) (mkS (S.drop q),0,0) (by omega) ⟨b p,by simp,by simp,by simp,by simp⟩ ⟨b q,by simp,by simp,by simp,by simp⟩
 have t:∀p q e f,ek (m+300) [((mkS (S.drop p):Nat):Int),((mkS (S.drop e):Nat):Int),0] [((mkS (S.drop q):Nat):Int),((mkS (S.drop f):Nat):Int),0] 2=some (l3 (spM (mkS (S.drop p),mkS (S.drop e),0) (mkS (S.drop q),mkS (S.drop f),0))):=λp q e f=>
  ul (m+300) (by omega) 2 (mkS (S.drop p),mkS (S.drop e),0) (mkS (S.drop q),mkS (S.drop f),0) (by omega) ⟨b p,b e,by simp,by simp,by simp⟩ ⟨b q,b f,by simp,by simp,by simp⟩
 have C:∀p q e f d i,ek (m+300) [((mkS (S.drop p):Nat):Int),((mkS (S.drop e):Nat):Int),((mkS (S.drop d):Nat):Int)] [((mkS (S.drop q):Nat):Int),((mkS (S.drop f):Nat):Int),((mkS (S.drop i):Nat):Int)] 3=some (l3 (spM (mkS (S.drop p),mkS (S.drop e),mkS (S.drop d)) (mkS (S.drop q),mkS (S.drop f),mkS (S.drop i)))):=λp q e f d i=>
  ul (m+300) (by omega) 3 (mkS (S.drop p),mkS (S.drop e),mkS (S.drop d)) (mkS (S.drop q),mkS (S.drop f),mkS (S.drop i)) (by omega) ⟨b p,b e,b d,by simp,by simp⟩ ⟨b q,b f,b i,by simp,by simp⟩
 have b0:=kK h;unfold jl nU;show ∃P:List Int,P.length=3/\ob (au (aX (m+300)) (m+299+1) (rdSt S 0 false false [] 0 0 [] [] [0,0,0] [0,0,0] [0,0,0] a)) _=_;rw[au,Wm m S a h u v];cases G:mG (S.drop (mkE S a))with
 | inl k=>(refine⟨_,?_,rfl⟩;rfl)
 | inr y=>
  obtain⟨g,l,dg,x,s,k⟩:=y;have bk:mkE S a+k<=S.length:=by
   have:=(qR G).2.1;rw[ba]at this;omega
  have b1:=kK bk;show ∃P:List Int,P.length=3/\ob (au (aX (m+300)) (m+298+1) (rdSt S 1 g l dg (x:Int) (s:Int) [] [] [((mkE S a:Nat):Int),0,0] [((mkS (S.drop a):Nat):Int),0,0] [((mkS (S.drop (mkE S a+k)):Nat):Int),0,0] (mkE S (mkE S a+k)))) _=_;rw[au,XG m S g l dg x s _ _ _ _ b1 u v];simp only[];by_cases hc:0<s\/dR 45 (S.drop (mkE S (mkE S a+k)))=0
  ·rw[ae hc,ae hc];refine⟨[0,0,0],rfl,?_⟩;simp only[ob,d4,d8,d16];rw[r];rfl
  ·rw[ab hc,ab hc];have hs:¬0<s:=λz=>hc (.inl z);have w:=rI (λz=>hc (.inr z));have J:=kK w;unfold rd2;by_cases j:twoN (S.drop (mkE S (mkE S (mkE S a+k)+1)))<2
   ·rw[ae j,ae j];(refine⟨_,?_,rfl⟩;rfl)
   ·rw[ab j,ab j];have b2:=vg j;have F:=kK b2;show ∃P:List Int,P.length=3/\ob (au (aX (m+300)) (m+297+1) (rdSt S 2 g l dg (x:Int) (s:Int) _ [] [_,_,0] [_,_,0] [_,_,0] (mkE S (mkE S (mkE S (mkE S a+k)+1)+2)))) _=_;rw[au,XK m S g l dg x s _ _ _ _ _ _ _ _ F u v hs];by_cases c:dR 45 (S.drop (mkE S (mkE S (mkE S (mkE S a+k)+1)+2)))=0
    ·rw[ae c,ae c];refine⟨[0,0,0],rfl,?_⟩;simp only[ob,d4,d8,d16];rw[t];rfl
    ·rw[ab c,ab c];have o:=rI c;have H:=kK o;unfold rd3;by_cases n:twoN (S.drop (mkE S (mkE S (mkE S (mkE S (mkE S a+k)+1)+2)+1)))<2
     ·rw[ae n,ae n];(refine⟨_,?_,rfl⟩;rfl)
     ·rw[ab n,ab n];have I:∀(D E:aa) (P A B:List Int) (p:Nat),aX (m+300) (rdSt S 3 g l dg (x:Int) (s:Int) D E P A B p)=some (.inr (.inl (3,false,false,[],0,0,[],[],0,0,0,[0,0,0],[],0,0,g,l,dg,(x:Int),(s:Int),D,E,0,0,0,P,A,B,S,(p:Int),0))):=λ_ _ _ _ _ _=>rfl;show ∃P:List Int,P.length=3/\ob (au (aX (m+300)) (m+296+1) (rdSt S 3 g l dg (x:Int) (s:Int) _ _ _ _ _ _)) _=_;rw[au,I];refine⟨[0,0,0],rfl,?_⟩;simp only[ob,d4,d8,d16];rw[C];rfl
def Jk{g l:Bool}{d:aa}{x s:Nat}(h:okY g l d (x:Int) (s:Int)):(mL g l d (x:Int) (s:Int)).length<=25:=by
 have hs:=kC h;have a:=Cf 69 (show x<100 by omega);have b:=Cf 83 (show s<100 by omega);rw[lx];simp only[bw];have e:(if l=true then([89]:aa)else[]).length<=1:=by split<;>simp
 have c:(if g=true then([45]:aa)else[]).length<=1:=by split<;>simp
 omega
def iI(A B:Nat)(w:aa):aa:=mt A++w++mt B
def A4(g l:Bool)(dg:aa)(x q:Int)(m d:aa)(k0 k1 k2:Nat):aa:=
 iI (plA (jf m d) k0 k1 k2).1 (plB (jf m d) k0 k1 k2).1 (mL g l dg x q)
  ++ ((if m=[]then[]else 45::iI (plA (jf m d) k0 k1 k2).2.1 (plB (jf m d) k0 k1 k2).2.1 m)
  ++ (if d=[]then[]else 45::iI (plA (jf m d) k0 k1 k2).2.2 (plB (jf m d) k0 k1 k2).2.2 d))
structure OkD(g l:Bool)(dg:aa)(x q:Nat)(m d:aa)(k0 k1 k2:Nat):Prop where
 yr:okY g l dg (x:Int) (q:Int)
 x16:x<=16
 q17:q<=17
 dg17:dg.length<=17
 noM:0<q->m=[]
 mon:m=[]\/(m.length=2/\∀c∈m,isDX c=true)
 day:d=[]\/(m≠[]/\d.length=2/\∀c∈d,isDX c=true)
 m0:k0<4
 m1:k1<4
 m2:k2<4
 z1:jf m d<2->k1=0
 z2:jf m d<3->k2=0
def U4{g l:Bool}{dg:aa}{x q:Int}{m d:aa}{k0 k1 k2:Int}(v:0<=k0)(t:0<=k1)(A:0<=k2)(h:chkD g l dg x q m d k0 k1 k2=0):
  ∃o n a b c:Nat,x=(o:Int)/\q=(n:Int)/\k0=(a:Int)/\k1=(b:Int)/\k2=(c:Int)/\OkD g l dg o n m d a b c:=by
 obtain⟨hy,f,hd,j⟩:=MG h;unfold yrD at hy;by_cases e:okY g l dg x q
 rotate_left
 ·rw[ab e]at hy;cases hy
 rw[ae e]at hy;obtain⟨r,u,p,y,w,s⟩:=kC e;have hk':¬(3<k0\/3<k1\/3<k2\/(jf m d<2/\k1≠0)\/(jf m d<3/\k2≠0)):=by
  intro z;unfold allM at j;rw[ae z]at j;exact absurd j (by decide)
 refine⟨x.toNat,q.toNat,k0.toNat,k1.toNat,k2.toNat,by omega,by omega,by omega,by omega,by omega,?_⟩;rw[<-Gi r,<-Gi p]at e;refine⟨e,by omega,by omega,s,?_,?_,?_,by omega,by omega,by omega,by omega,by omega⟩
 ·intro B;unfold yrB at hy;have hq':decide (0<q)=true:=by simp;omega
  rw[hq']at hy;by_cases i:m=[]
  ·exact i
  ·have:(m==[])=false:=aK.2 i;rw[this]at hy;simp at hy
 ·rcases f with f | f | f
  ·exact .inl f
  ·exact .inr (K7 f)
  ·exact .inr (rt (by omega) f)
 ·rcases hd with hd | ⟨hd,_,k⟩
  ·exact .inl hd
  ·have:=rt (show 31<=31 by omega) k;exact .inr ⟨hd,this.1,this.2⟩
def QG:jf [] []=1:=rfl
def QL{m:aa}(h:m≠[]):jf m []=2:=by unfold jf;rw[aK.2 h];rfl
def P6{m d:aa}(h:m≠[])(a:d≠[]):jf m d=3:=by unfold jf;rw[aK.2 h,aK.2 a];rfl
def oY{d:aa}(h:d.length=2):d≠[]:=by rintro rfl;simp at h
def isMk(c:UInt8):Bool:=decide (0<mkOf c)
def gL{S u v:aa}{a:Nat}(h:S.drop a=u++v):S.drop (a+u.length)=v:=by
 rw[<-i7,h,D1];rfl
def M5{A:Nat}(d:A<4){r:aa}(b:cP isMk r):mkS (mt A++r)=A/\mkN (mt A++r)=(mt A).length:=by
 have a:mkS r=0:=by
  cases r with
  | nil=>rfl
  | cons c r=>
   have:=b c rfl;unfold isMk at this;have:=of_decide_eq_false this;show mkOf c=0;omega
 have h:A=0\/A=1\/A=2\/A=3:=by omega
 rcases h with rfl | rfl | rfl | rfl
 ·refine⟨a,?_⟩;show mkN r=0;unfold mkN;rw[ae a]
 ·exact⟨rfl,rfl⟩
 ·exact⟨rfl,rfl⟩
 ·exact⟨rfl,rfl⟩
def ej{p:UInt8->Bool}{c:UInt8}{r:aa}(h:p c=false):cP p (c::r):=λa hc=>by
 simp only[lF,ar]at hc;rw[<-hc];exact h
def LQ{p:UInt8->Bool}(B:Nat){r:aa}(a:p 63=false)(c:p 126=false)(b:p 37=false)(d:cP p r):cP p (mt B++r):=by
 unfold mt;split
 ·exact ej a
 ·split
  ·exact ej c
  ·split
   ·exact ej b
   ·exact d
def Ih{c:UInt8}(h:isDX c=true):isMk c=false:=by
 have:=iG (λc=>!(isDX c)||!(isMk c)) (by decide +kernel) c;rw[h]at this;simpa using this
def vU{p q:UInt8->Bool}{w r:aa}(b:w≠[])(h:∀c∈w,p c=true)(a:∀c,p c=true->q c=false):cP q (w++r):=by
 cases w with
 | nil=>exact absurd rfl b
 | cons c w=>exact ej (a c (h c oq))
def J5{g l:Bool}{d:aa}{x s:Int}(h:okY g l d x s):∀c∈d,isDX c=true:=by
 intro c hc;unfold okY at h;have:bp c=true\/c=88:=by
  split at h
  ·exact .inl (h.1.1 c hc)
  ·exact h.2.1 c hc
 unfold isDX;rcases this with a | a
 ·rw[a];rfl
 ·rw[a];decide
def IQ{g l:Bool}{d:aa}{x s:Nat}(h:okY g l d (x:Int) (s:Int))(r:aa):cP isMk (mL g l d (x:Int) (s:Int)++r):=by
 have a:d≠[]:=by
  have:=(kC h).2.2.2.2.1;rintro rfl;simp at this
 rw[lx];cases l with
 | true=>exact ej (by decide)
 | false=>
  cases g with
  | true=>exact ej (by decide)
  | false=>
   simp only[bj,az,dI,gG];exact vU a (J5 h) (λc=>Ih)
def uh{S:aa}{p A B:Nat}{w R:aa}(h:S.drop p=iI A B w++R)(f:A<4)(g:B<4)(j:cP isMk (w++(mt B++R)))(k:cP isMk R):
  mkS (S.drop p)=A/\S.drop (mkE S p)=w++(mt B++R)/\mkS (S.drop (mkE S p+w.length))=B/\S.drop (mkE S (mkE S p+w.length))=R/\mkE S (mkE S p+w.length)=p+(iI A B w).length:=by
 have h':S.drop p=mt A++(w++(mt B++R)):=by rw[h];unfold iI;simp
 obtain⟨e,m⟩:=M5 f j;obtain⟨l,i⟩:=M5 g k;have d:mkE S p=p+(mt A).length:=by unfold mkE;rw[h',m]
 have c:S.drop (mkE S p)=w++(mt B++R):=by rw[d];exact gL h'
 have b:S.drop (mkE S p+w.length)=mt B++R:=gL c;have a:mkE S (mkE S p+w.length)=mkE S p+w.length+(mt B).length:=by
  show mkE S p+w.length+mkN (S.drop (mkE S p+w.length))=_;rw[b,i]
 refine⟨by rw[h',e],c,by rw[b,l],by rw[a];exact gL b,?_⟩;rw[a,d];unfold iI;simp only[bw];omega
def Ah{m r:aa}(e:m.length=2)(h:∀c∈m,isDX c=true):twoN (m++r)=2/\(m++r).take 2=m:=by
 match m,e with
 | [a,b],_=>
  have f:=h a (by simp);have d:=h b (by simp);refine⟨?_,rfl⟩;unfold twoN;show bq isDX 2 (a::b::r)=2;simp[bq,f,d]
def RY{k a b c:Nat}(d:k<2->b=0)(e:k<3->c=0)(f:1<=k):(k<2->(plA k a b c).2.1=0/\(plB k a b c).2.1=0)/\(k<3->(plA k a b c).2.2=0/\(plB k a b c).2.2=0):=by
 unfold plA plB;constructor
 ·intro h;have:k=1:=by omega
  subst this;have:=d h;split
  ·simp
  ·simp[this]
 ·intro h;have:=e h;split
  ·split
   ·simp
   ·have:k=2:=by omega
    simp[this]
  ·simp[this]
def rawD(A B:Nat×Nat×Nat)(g l:Bool)(dg:aa)(x q:Int)(m d:aa):aa:=
 iI A.1 B.1 (mL g l dg x q)++((if m=[]then[]else 45::iI A.2.1 B.2.1 m)++(if d=[]then[]else 45::iI A.2.2 B.2.2 d))
structure MkD(A B:Nat×Nat×Nat)(m d:aa):Prop where
 a0:A.1<4
 a1:A.2.1<4
 a2:A.2.2<4
 b0:B.1<4
 b1:B.2.1<4
 b2:B.2.2<4
 zm:m=[]->A.2.1=0/\B.2.1=0
 zd:d=[]->A.2.2=0/\B.2.2=0
structure ShD(g l:Bool)(dg:aa)(x q:Nat)(m d:aa):Prop where
 yr:okY g l dg (x:Int) (q:Int)
 noM:0<q->m=[]
 mon:m=[]\/(m.length=2/\∀c∈m,isDX c=true)
 day:d=[]\/(m≠[]/\d.length=2/\∀c∈d,isDX c=true)
def OkD.sh{g l:Bool}{dg:aa}{x q:Nat}{m d:aa}{k0 k1 k2:Nat}(h:OkD g l dg x q m d k0 k1 k2):ShD g l dg x q m d:=⟨h.yr,h.noM,h.mon,h.day⟩
def OkD.marks{g l:Bool}{dg:aa}{x q:Nat}{m d:aa}{k0 k1 k2:Nat}(h:OkD g l dg x q m d k0 k1 k2):MkD (plA (jf m d) k0 k1 k2) (plB (jf m d) k0 k1 k2) m d:=by
 obtain⟨W,O,Q,E,X,U⟩:=Wq (k:=jf m d) h.m0 h.m1 h.m2;obtain⟨F,G⟩:=RY (a:=k0) h.z1 h.z2 (tY m d).1;refine⟨W,O,Q,E,X,U,λC=>F ?_,λhd=>G ?_⟩
 ·have J:d=[]:=h.day.resolve_right (λz=>z.1 C);subst C J;rw[QG];omega
 ·subst hd;by_cases C:m=[]
  ·subst C;rw[QG];omega
  ·rw[QL C];omega
def Gz{A B:Nat×Nat×Nat}{g l:Bool}{dg:aa}{x q:Nat}{m d:aa}(b:ShD g l dg x q m d)(s:MkD A B m d){S:aa}{a:Nat}{post:aa}(h:S.drop a=rawD A B g l dg (x:Int) (q:Int) m d++post)
  (hp1:cP isYC post) (C:cP isMk post) (U:cP (λc=>c==45) post):
  ∃P:Nat×Nat×Nat,P.1=a+(mt A.1).length/\nU S a=.inr (g,l,dg,x,q,m,d,spM A B,P,a+(rawD A B g l dg (x:Int) (q:Int) m d).length):=by
 obtain⟨l0,l1,l2,l3',l4,l5,Q,D⟩:=s;obtain⟨j,t,K⟩:=A;obtain⟨k,n,E⟩:=B;simp only at l0 l1 l2 l3' l4 l5 Q D h;unfold rawD at h ⊢;simp only at h ⊢;have v:isMk 45=false:=by decide
 have X:isYC 45=false:=by decide
 have T:∀r:aa,cP (λc=>c==45) r->dR 45 r=0:=λr hr=>by
  cases r with
  | nil=>rfl
  | cons c r=>
   have:=hr c rfl;exact oC (λe=>by rw[e]at this;exact absurd this (by decide)) r
 have hyx:=LU b.yr;have Z:=IQ b.yr;generalize hY:mL g l dg (x:Int) (q:Int)=Y at *;have H:∀R:aa,S.drop a=iI j k Y++R->cP isYC R->cP isMk R->
   mkE S a=a+(mt j).length/\mkS (S.drop a)=j/\mG (S.drop (mkE S a))=.inr (g,l,dg,x,q,Y.length)/\mkS (S.drop (mkE S a+Y.length))=k/\S.drop (mkE S (mkE S a+Y.length))=R/\mkE S (mkE S a+Y.length)=a+(iI j k Y).length:=by
  intro R hR h1 M;obtain⟨y,w,F,p,G⟩:=uh hR l0 l3' (Z _) M;refine⟨?_,y,?_,F,p,G⟩
  ·have hR':S.drop a=mt j++(Y++(mt k++R)):=by rw[hR];unfold iI;simp
   unfold mkE;rw[hR',(M5 l0 (Z _)).2]
  rw[w];exact hyx _ (LQ k (by decide) (by decide) (by decide) h1)
 unfold nU;by_cases i:m=[]
 ·have f:d=[]:=b.day.resolve_right (λz=>z.1 i);subst i f;simp only[aG,lu]at h ⊢;obtain⟨w0,y,w,F,p,G⟩:=H post h hp1 C;rw[w];simp only[];rw[p,ae (.inr (T post U)),y,F,G];obtain⟨rfl,rfl⟩:=Q rfl;obtain⟨rfl,rfl⟩:=D rfl;exact⟨_,w0,rfl⟩
 ·have L:¬0<q:=λz=>i (b.noM z);obtain⟨o,I⟩:=b.mon.resolve_left i;rw[ab i]at h ⊢;have s:∀r,cP isMk (m++r):=λr=>vU i I (λc=>Ih);by_cases f:d=[]
  ·subst f;rw[ae rfl,lu]at h ⊢;have h':S.drop a=iI j k Y++(45::(iI t n m++post)):=by rw[h];simp
   obtain⟨w0,y,w,F,p,G⟩:=H _ h' (ej X) (ej v);rw[w];simp only[];rw[p,nR,ab (λz=>z.elim L (by omega)),y,F];unfold rd2;have M:S.drop (mkE S (mkE S a+Y.length)+1)=iI t n m++post:=gL (u:=[45]) p;obtain⟨v1,v2,O,J,N⟩:=uh M l1 l4 (s _) C;obtain⟨V,u2⟩:=Ah (r:=mt n++post) o I;rw[<-v2]at V u2;rw[o]at O J N;rw[V,ab (by omega),J,T post U,ae rfl,u2,v1,O,N,G];obtain⟨rfl,rfl⟩:=D rfl;have:a+(iI j k Y).length+1+(iI t n m).length=a+(iI j k Y++45::iI t n m).length:=by simp only[bw,aN];omega
   rw[this];exact⟨_,w0,rfl⟩
  ·obtain⟨_,hdl,W⟩:=b.day.resolve_left f;rw[ab f]at h ⊢;have hdk:∀r,cP isMk (d++r):=λr=>vU f W (λc=>Ih);have h':S.drop a=iI j k Y++(45::(iI t n m++(45::(iI K E d++post)))):=by rw[h];simp
   obtain⟨w0,y,w,F,p,G⟩:=H _ h' (ej X) (ej v);rw[w];simp only[];rw[p,nR,ab (λz=>z.elim L (by omega)),y,F];unfold rd2;have M:S.drop (mkE S (mkE S a+Y.length)+1)=iI t n m++(45::(iI K E d++post)):=gL (u:=[45]) p;obtain⟨v1,v2,O,J,N⟩:=uh M l1 l4 (s _) (ej v);obtain⟨V,u2⟩:=Ah (r:=mt n++(45::(iI K E d++post))) o I;rw[<-v2]at V u2;rw[o]at O J N;rw[V,ab (by omega),J,nR,ab (by omega),u2,v1,O];unfold rd3;have h3:S.drop (mkE S (mkE S (mkE S (mkE S a+Y.length)+1)+2)+1)=iI K E d++post:=gL (u:=[45]) J;obtain⟨x1,x2,x3,x4,x5⟩:=uh h3 l2 l5 (hdk _) C;obtain⟨s1,s2⟩:=Ah (r:=mt E++post) hdl W;rw[<-x2]at s1 s2;rw[hdl]at x3 x4 x5;rw[s1,ab (by omega),s2,x1,x3,x5,N,G];have:a+(iI j k Y).length+1+(iI t n m).length+1+(iI K E d).length=a+(iI j k Y++(45::iI t n m++45::iI K E d)).length:=by simp only[bw,aN];omega
   rw[this];exact⟨_,w0,rfl⟩
def iO9{g l:Bool}{dg:aa}{x q:Nat}{m d:aa}{k0 k1 k2:Nat}(b:OkD g l dg x q m d k0 k1 k2){S:aa}{a:Nat}{post:aa}(h:S.drop a=A4 g l dg (x:Int) (q:Int) m d k0 k1 k2++post)
  (i:cP isYC post) (f:cP isMk post) (e:cP (λc=>c==45) post):
  ∃P,nU S a=.inr (g,l,dg,x,q,m,d,(k0,k1,k2),P,a+(A4 g l dg (x:Int) (q:Int) m d k0 k1 k2).length):=by
 obtain⟨P,_,j⟩:=Gz b.sh b.marks (S:=S) (a:=a) (post:=post) h i f e;rw[WW (jf m d) k0 k1 k2 (tY m d) b.m0 b.m1 b.m2 b.z1 b.z2]at j;exact⟨P,j⟩
def R2{A B:Nat×Nat×Nat}(f:A.1<4)(d:A.2.1<4)(e:A.2.2<4)(g0:B.1<4)(c:B.2.1<4)(b:B.2.2<4):(spM A B).1<4/\(spM A B).2.1<4/\(spM A B).2.2<4:=by
 have a:∀x y:Nat,x<4->y<4->x ||| y<4:=λx y hx hy=>(or4 hx hy).2;exact⟨a _ _ (a _ _ (a _ _ f g0) c) b,a _ _ (a _ _ d c) b,a _ _ e b⟩
structure RdOK(S:aa)(a:Nat)(dg m d:aa)(M:Nat×Nat×Nat)(e:Nat):Prop where
 dg17:dg.length<=17
 m2:m.length<=2
 d2:d.length<=2
 all:inM (jf m d) M
 le:a<=e
 end_:e<=S.length
def AI{S:aa}{a:Nat}(h:a<=S.length){g l:Bool}{dg:aa}{x s:Nat}{m d:aa}{M P:Nat×Nat×Nat}{e:Nat}(b:nU S a=.inr (g,l,dg,x,s,m,d,M,P,e)):RdOK S a dg m d M e:=by
 have c:∀p,mkS (S.drop p)<4:=λp=>C6 _;have o:0<4:=by omega
 have b0:=kK h;have g0:a<=mkE S a:=AO _ _;have n:∀p,p<=mkE S p:=λp=>AO _ _;unfold nU at b;cases hy:mG (S.drop (mkE S a))with
 | inl k=>rw[hy]at b;cases b
 | inr y=>
  obtain⟨H,J,F,L,s',k⟩:=y;obtain⟨_,bk,_,_,j⟩:=qR hy;have bk:mkE S a+k<=S.length:=by
   rw[ba]at bk;omega
  have b1:=kK bk;rw[hy]at b;simp only[]at b;by_cases hc:0<s'\/dR 45 (S.drop (mkE S (mkE S a+k)))=0
  ·rw[ae hc]at b;cases b;have:=R2 (A:=(mkS (S.drop a),0,0)) (B:=(mkS (S.drop (mkE S a+k)),0,0)) (c _) o o (c _) o o;refine⟨j,by simp,by simp,⟨this.1,this.2.1,this.2.2,λ_=>by simp[spM],λ_=>by simp[spM]⟩,?_,b1⟩;have:=n (mkE S a+k);omega
  ·rw[ab hc]at b;have v:=rI (λz=>hc (.inr z));have O:=kK v;unfold rd2 at b;by_cases t:twoN (S.drop (mkE S (mkE S (mkE S a+k)+1)))<2
   ·rw[ae t]at b;cases b
   ·rw[ab t]at b;have b2:=vg t;have w:=kK b2;have i:(List.take 2 (S.drop (mkE S (mkE S (mkE S a+k)+1)))).length=2:=by rw[dq,ba];omega
    have N:=n (mkE S a+k);have K:=n (mkE S (mkE S a+k)+1);have G:=n (mkE S (mkE S (mkE S a+k)+1)+2);by_cases f:dR 45 (S.drop (mkE S (mkE S (mkE S (mkE S a+k)+1)+2)))=0
    ·rw[ae f]at b;cases b;have:=R2 (A:=(mkS (S.drop a),mkS (S.drop (mkE S (mkE S a+k)+1)),0)) (B:=(mkS (S.drop (mkE S a+k)),mkS (S.drop (mkE S (mkE S (mkE S a+k)+1)+2)),0)) (c _) (c _) o (c _) (c _) o;refine⟨j,by omega,by simp,⟨this.1,this.2.1,this.2.2,λz=>?_,λ_=>by simp[spM]⟩,by omega,w⟩;rw[QL (oY i)]at z;omega
    ·rw[ab f]at b;have u:=rI f;have C:=kK u;unfold rd3 at b;by_cases r:twoN (S.drop (mkE S (mkE S (mkE S (mkE S (mkE S a+k)+1)+2)+1)))<2
     ·rw[ae r]at b;cases b
     ·rw[ab r]at b;have E:=vg r;have D:=kK E;have q:(List.take 2 (S.drop (mkE S (mkE S (mkE S (mkE S (mkE S a+k)+1)+2)+1)))).length=2:=by rw[dq,ba];omega
      cases b;have I:=n (mkE S (mkE S (mkE S (mkE S a+k)+1)+2)+1);have Q:=n (mkE S (mkE S (mkE S (mkE S (mkE S a+k)+1)+2)+1)+2);have:=R2 (A:=(mkS (S.drop a),mkS (S.drop (mkE S (mkE S a+k)+1)),mkS (S.drop (mkE S (mkE S (mkE S (mkE S a+k)+1)+2)+1)))) (B:=(mkS (S.drop (mkE S a+k)),mkS (S.drop (mkE S (mkE S (mkE S a+k)+1)+2)),mkS (S.drop (mkE S (mkE S (mkE S (mkE S (mkE S a+k)+1)+2)+1)+2)))) (c _) (c _) (c _) (c _) (c _) (c _);refine⟨j,by omega,by omega,⟨this.1,this.2.1,this.2.2,λz=>?_,λz=>?_⟩,by omega,D⟩
      ·rw[P6 (oY i) (oY q)]at z;omega
      ·rw[P6 (oY i) (oY q)]at z;omega
def MO{g l:Bool}{dg:aa}{x q:Int}{m d:aa}{k0 k1 k2:Int}(b:allM k0 k1 k2 (jf m d)=0):chkD g l dg x q m d k0 k1 k2=0\/chkD g l dg x q m d k0 k1 k2=6\/chkD g l dg x q m d k0 k1 k2=7\/chkD g l dg x q m d k0 k1 k2=8:=by
 unfold chkD;rw[b];generalize yrD g l dg x q m=b1;generalize(!(m==[])&&(!(decide (0<sea m))&&!(hO m 12)))=b2;generalize(!(d==[])&&((m==[])||(decide (0<sea m)||!(hO d 31))))=a;cases b1<;>cases b2<;>cases a<;>simp
def uO{p:UInt8->Bool}:cP p []:=λc hc=>by cases hc
def Lj(n:Nat)(g l:Bool)(dg:aa)(x q:Int)(m d:aa)(k0 k1 k2:Int)(a:m.length<=18):be n g l dg x q m d k0 k1 k2=some (if d=[]then(if 0<sea m then 0 else if m=[]then 1 else 2)else 3):=by
 unfold be;rw[qM n g l dg x q m d k0 k1 k2 a];by_cases hd:d=[]
 ·rw[ae hd,hd];show cond (decide (0<sea m)) _ _=_;rw[bC];by_cases hs:0<sea m
  ·rw[ae hs,ae hs]
  ·rw[ab hs,ab hs];by_cases a:m=[]
   ·rw[ae a,a];rfl
   ·rw[ab a,aK.2 a];rfl
 ·rw[ab hd,aK.2 hd];rfl
def vV(a b:aa):hasX (a++b)=(hasX a||hasX b):=by unfold hasX;rw[sa]
def Cj(n:Nat)(g l:Bool)(dg:aa)(x q:Int)(m d:aa)(k0 k1 k2:Int)(a:m.length<=1000)(hd:dg.length<=1000)(h:d.length<=1000):
  eT n g l dg x q m d k0 k1 k2=some (hasX dg||(hasX m||hasX d)):=by
 unfold eT;rw[kq (by omega)];simp only[ob];rw[kq (by simp only[bw];omega)];simp only[ob];rw[CY,vV,vV,Bool.or_assoc]
end Go.Sh
