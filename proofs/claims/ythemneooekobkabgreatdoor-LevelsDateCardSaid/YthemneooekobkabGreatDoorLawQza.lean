
/- Plain proofs, kept as far as they are needed here (printed by prune.py).
   Conditions: none. -/
import Derived.Laws.RangeString
import Derived.Laws.RangeAny
import Derived.Test.YthemneooekobkabGreatDoorShQ
import Derived.Lib.IndexLaws
import Derived.Test.YthemneooekobkabGreatDoorAbsZ
set_option linter.unusedVariables false
set_option linter.unusedSimpArgs false
set_option maxRecDepth 100000
namespace Go.Sh
open Go.Abs
theorem fP {X Y:Type} {step:X->Option (X⊕Y)} (I:X->Prop) (b:X->Nat) (G:X->Y)
  (h:∀x,I x->(∃a,step x=some (.inl a)/\I a/\b a<b x/\G a=G x)\/step x=some (.inr (G x))):
  ∀(n:Nat) (x:X),I x->b x<n->au step n x=some (G x)
 | 0,x,_,d=>by omega
 | n+1,x,hx,d=>by
  rcases h x hx with ⟨a,c,e,g,f⟩ | c
  ·simp only [au,c];rw [fP I b G h n a e (by omega),f]
  ·simp only [au,c]
theorem pA {X Y:Type} {step:X->Option (X⊕Y)} (I:X->Prop) (b:X->Nat) (Q:Y->Prop)
  (h:∀x,I x->(∃a,step x=some (.inl a)/\I a/\b a<b x)\/∃y,step x=some (.inr y)/\Q y):
  ∀(n:Nat) (x:X),I x->b x<n->∃y,au step n x=some y/\Q y
 | 0,x,_,e=>by omega
 | n+1,x,hx,e=>by
  rcases h x hx with ⟨a,d,c,f⟩ | ⟨y,d,c⟩
  ·simp only [au,d];exact pA I b Q h n a c (by omega)
  ·exact ⟨y,by simp only [au,d],c⟩
theorem AX (x:Int):0<=IntKind.wrap .u8 x/\IntKind.wrap .u8 x<256:=by
 show 0<=x%256/\x%256<256;omega
theorem ia (x:Int) (b:0<=x) (a:x<256):IntKind.wrap .u8 x=x:=by
 show x%256=x;omega
theorem Jh (x:Int):IntKind.wrap .u8 x=x%256:=rfl
theorem wrap_i64 (x:Int) (b:-9223372036854775808<=x) (a:x<9223372036854775808):IntKind.wrap .i64 x=x:=by
 simp only [IntKind.wrap,IntKind.signed,IntKind.bits];simp;omega
theorem eG {l:aa} {i:Nat} {c:UInt8} (h:l[i]?=some c):sx l (i:Int)=some c:=by
 simp [sx,h]
theorem dY {n i:Nat} (h:i<n):ix n (i:Int)=some i:=by
 simp [ix];omega
theorem cM {n i:Nat} (h:i<=n):bx n (i:Int)=some i:=by
 simp [bx];omega
theorem AG {l:aa} {i:Nat} {c:UInt8} (h:l[i]?=some c) (hc:c.toNat<128):dec l i=(c.toNat,1):=by
 have a:i<l.length:=by
  rcases aH i l.length with b | b
  ·exact b
  ·rw [gU b] at h;cases h
 have hs:i<(ByteArray.mk l.toArray).size:=a;have d:(ByteArray.mk l.toArray)[i]'hs=c:=by
  rw [bh a] at h;simp only [av] at h;exact h
 unfold dec;rw [decode_ascii _ i hs (by rw [d];exact hc),d]
theorem IS {l:aa} {i:Nat} {c:UInt8} (h:l[i]?=some c) (hc:128<=c.toNat):128<=(dec l i).1/\1<=(dec l i).2:=by
 have a:i<l.length:=by
  rcases aH i l.length with b | b
  ·exact b
  ·rw [gU b] at h;cases h
 have hs:i<(ByteArray.mk l.toArray).size:=a;have d:(ByteArray.mk l.toArray)[i]'hs=c:=by
  rw [bh a] at h;simp only [av] at h;exact h
 unfold dec;exact decode_high _ i hs (by rw [d];exact hc)
theorem ui {α:Type} {l:List α} {i:Nat} {c:α} (h:l[i]?=some c):i<l.length:=by
 rcases aH i l.length with a | a
 ·exact a
 ·rw [gU a] at h;cases h
theorem cA {α:Type} {l:List α} {i:Nat} {c:α} (h:l[i]?=some c):l.drop i=c::l.drop (i+1):=by
 have a:=ui h;rw [bh a] at h;simp only [av] at h;rw [<-h,pG a]
theorem ja {α β:Type} [BEq α] [LawfulBEq α] [DecidableEq α] (a b:α) (x y:β):(cond (a==b) x y)=if a=b then x else y:=by
 by_cases h:a=b
 ·subst h;simp
 ·rw [aK.2 h];simp [h]
theorem wc {α β:Type} [BEq α] [LawfulBEq α] [DecidableEq α] (a b:α) (x y:β):(cond (a != b) x y)=if a=b then y else x:=by
 by_cases h:a=b
 ·subst h;simp
 ·rw [bne,aK.2 h];simp [h]
theorem bG {β:Type} (p:Prop) [Decidable p] (x y:β):(cond (decide p) x y)=if p then x else y:=by
 by_cases h:p<;>simp [h]
theorem HH {β:Type} (b:Bool) (x y:β):(cond (!b) x y)=cond b y x:=by cases b<;>rfl
theorem iQ (a b:Nat):(decide (((a:Nat):Int)<((b:Nat):Int)))=decide (a<b):=by
 by_cases h:a<b<;>simp [h]
theorem lH (a b:Nat):(decide (((a:Nat):Int)>=((b:Nat):Int)))=decide (b<=a):=by
 by_cases h:b<=a<;>simp [h]
theorem n7 (c d:UInt8):((((c.toNat:Nat):Int))==((d.toNat:Nat):Int))=(c==d):=by
 by_cases h:c=d
 ·subst h;simp
 ·have b:c.toNat≠d.toNat:=λe=>h (gG.1 e);have a:((c.toNat:Nat):Int)≠((d.toNat:Nat):Int):=by omega
  rw [aK.2 a,aK.2 h]
theorem Yu (c:UInt8):UInt8.ofNat (Int.toNat ((c.toNat:Nat):Int))=c:=by simp
def two (c:Nat):aa:=[UInt8.ofNat (48+c / 10),UInt8.ofNat (48+c%10)]
def sea (m:aa):Int:=match (List.range 21).find? (λj=>m==two (21+j)) with | some j=>((21+j:Nat):Int) | none=>0
theorem lE {j:Nat} (a:j<21):sea (two (21+j))=((21+j:Nat):Int):=by
 have:((List.range 21).all λj=>sea (two (21+j))==((21+j:Nat):Int))=true:=by decide +kernel
 simpa using (List.all_eq_true.1 this) j (by simpa using a)
theorem pH (m:aa):sea m=0\/∃j,j<21/\m=two (21+j):=by
 unfold sea;split
 ·rename_i j h;have b:=List.find?_some h;have a:=List.mem_of_find?_eq_some h;exact .inr ⟨j,by simpa using a,by simpa using b⟩
 ·exact .inl rfl
theorem qs {b:UInt8} {d:Nat} (h:Lib.digitVal b=some d):d<10/\b.toNat=48+d:=by
 unfold Lib.digitVal at h;split at h
 ·cases h;omega
 ·cases h
theorem O8 {a b:UInt8} {v:Int} (h:Lib.atoi [a,b]=some v) (o:21<=v) (p:v<42):∃j,j<21/\[a,b]=two (21+j)/\v=((21+j:Nat):Int):=by
 obtain ⟨b0,r,e,k⟩:=Lib.atoi_cases h;cases e;rcases k with ⟨_,m,_,_,i⟩ | ⟨_,m,_,c,i⟩ | ⟨_,_,m,c,i⟩
 ·omega
 ·simp only [Lib.decFrom] at c;split at c
  ·rename_i d f;have:=(qs f).1;simp only [av] at c;omega
  ·cases c
 ·simp only [Lib.decFrom] at c;split at c
  ·rename_i d f;split at c
   ·rename_i d' g;obtain ⟨k1,k2⟩:=qs f;obtain ⟨q,k4⟩:=qs g;simp only [av] at c;refine ⟨m - 21,by omega,?_,by omega⟩;have l:(21+(m - 21)) / 10=d:=by omega
    have n:(21+(m - 21))%10=d':=by omega
    unfold two;rw [l,n,<-k2,<-k4];simp
   ·cases c
  ·cases c
theorem yP {j:Nat} (a:j<21):Lib.atoi (two (21+j))=some ((21+j:Nat):Int):=by
 have:((List.range 21).all λj=>Lib.atoi (two (21+j))==some ((21+j:Nat):Int))=true:=by decide +kernel
 simpa using (List.all_eq_true.1 this) j (by simpa using a)
theorem pF (n:Nat) (g l:Bool) (dg:aa) (x q:Int) (m d:aa) (k0 k1 k2:Int) (k:m.length<=18):bz n g l dg x q m d k0 k1 k2=some (sea m,decide (0<sea m)):=by
 have h:Nat.ble m.length 18=true:=cT k;rcases pH m with i | ⟨j,c,rfl⟩
 ·unfold bz;rw [h,i];show opt (Lib.atoi m) _ _=_;cases o:Lib.atoi m with
  | none=>rfl
  | some v=>
   show cond _ _ _=_;by_cases f:m.length=2
   ·rw [f];obtain ⟨a,b,rfl⟩:∃a b,m=[a,b]:=by
     match m,f with
     | [a,b],_=>exact ⟨a,b,rfl⟩
    show ob (dN n v) _=_;unfold dN;rw [bG,bG];split
    ·rfl
    ·split
     ·rfl
     ·exfalso;obtain ⟨j,c,e,_⟩:=O8 o (by omega) (by omega);rw [e,lE c] at i;omega
   ·rw [show (((m.length:Nat):Int) != 2)=true by simp;omega];rfl
 ·rw [lE c];have e:bz n g l dg x q (two (21+j)) d k0 k1 k2=some (((21+j:Nat):Int),true):=by
   unfold bz;rw [h,yP c];show ob (dN n ((21+j:Nat):Int)) _=_;unfold dN;rw [bG,bG,ab (by omega),ab (by omega)];rfl
  rw [e];have:decide (0<((21+j:Nat):Int))=true:=by simp;omega
  rw [this]
theorem Np (n:Nat) {c:Nat} (hc:c<100):aW n (c:Int)=some (two c):=by
 have j:Int.tdiv (c:Int) 10=((c / 10:Nat):Int):=by
  rw [show (10:Int)=((10:Nat):Int) from rfl,<-Int.ofNat_tdiv]
 have i:Int.tmod (c:Int) 10=((c%10:Nat):Int):=by
  rw [show (10:Int)=((10:Nat):Int) from rfl,<-Int.ofNat_tmod]
 have k:c / 10<10:=by omega
 have g:c%10<10:=by omega
 unfold aW;rw [j,i];have f:IntKind.wrap .i64 ((c / 10:Nat):Int)=((c / 10:Nat):Int):=wrap_i64 _ (by omega) (by omega);have d:IntKind.wrap .i64 (((c / 10:Nat):Int)+1)=((c / 10+1:Nat):Int):=by rw [wrap_i64 _ (by omega) (by omega)];omega
 have h:IntKind.wrap .i64 (((c%10:Nat):Int)+1)=((c%10+1:Nat):Int):=by rw [wrap_i64 _ (by omega) (by omega)];omega
 rw [f,d,h,cM (by omega),cM (by omega)];show ob (bx (c / 10+1) ((c / 10:Nat):Int)) _=_;rw [cM (by omega)];show ob (bx (c%10+1) ((c%10:Nat):Int)) _=_;rw [cM (by omega)];unfold two;generalize c / 10=a at *;generalize c%10=b at *;have:((List.range 10).all λa=>(List.range 10).all λb=>ob (cat (List.drop a (List.take (a+1) ([48,49,50,51,52,53,54,55,56,57]:aa))) (List.drop b (List.take (b+1) ([48,49,50,51,52,53,54,55,56,57]:aa)))) (λs=>some s)==some [UInt8.ofNat (48+a),UInt8.ofNat (48+b)])=true:=by decide +kernel
 have e:=(cv.1 ((cv.1 this) a (by simpa using k))) b (by simpa using g);simpa using e
theorem QH {m:aa} (h:∀j,j<21->m≠two (21+j)):sea m=0:=by
 rcases pH m with b | ⟨j,a,e⟩
 ·exact b
 ·exact absurd e (h j a)
theorem wO (n:Nat) (g l:Bool) (dg:aa) (x q:Int) (m d:aa) (k0 k1 k2:Int):∀(r j:Nat),j+r=21->(∀i,i<j->m≠two (21+i))->∀N,r<N->
  au (bS n) N (((21+j:Nat):Int),g,l,dg,x,q,m,d,k0,k1,k2)=some (if sea m=0 then .inr () else .inl (sea m)):=by
 intro r
 induction r with
 | zero=>
  intro j c a N e;obtain ⟨N,rfl⟩:∃k,N=k+1:=⟨N - 1,by omega⟩;have hs:sea m=0:=QH (λi hi=>a i (by omega));rw [au];have:bS n (((21+j:Nat):Int),g,l,dg,x,q,m,d,k0,k1,k2)=some (.inr (.inr ())):=by
   unfold bS;rw [bG,ab (by show ¬(((21+j:Nat):Int)<=41);omega)]
  rw [this,ae hs]
 | succ r ih=>
  intro j c a N e;obtain ⟨N,rfl⟩:∃k,N=k+1:=⟨N - 1,by omega⟩;rw [au];by_cases b:m=two (21+j)
  ·have hs:sea m=((21+j:Nat):Int):=by rw [b];exact lE (by omega)
   have:bS n (((21+j:Nat):Int),g,l,dg,x,q,m,d,k0,k1,k2)=some (.inr (.inl ((21+j:Nat):Int))):=by
    unfold bS;rw [bG,ae (by show ((21+j:Nat):Int)<=41;omega)];show ob (aW n ((21+j:Nat):Int)) _=_;rw [Np n (by omega)];show cond (m==two (21+j)) _ _=_;rw [ja,ae b]
   rw [this,hs,ab (by omega)]
  ·have:bS n (((21+j:Nat):Int),g,l,dg,x,q,m,d,k0,k1,k2)=some (.inl (((21+(j+1):Nat):Int),g,l,dg,x,q,m,d,k0,k1,k2)):=by
    unfold bS;rw [bG,ae (by show ((21+j:Nat):Int)<=41;omega)];show ob (aW n ((21+j:Nat):Int)) _=_;rw [Np n (by omega)];show cond (m==two (21+j)) _ _=_;rw [ja,ab b];have:IntKind.wrap .i64 (((21+j:Nat):Int)+1)=((21+(j+1):Nat):Int):=by rw [wrap_i64 _ (by omega) (by omega)];omega
    show some (Sum.inl (IntKind.wrap .i64 (((21+j:Nat):Int)+1),_))=_;rw [this]
   rw [this]
   exact ih (j+1) (by omega) (λi hi=>by
    rcases aH i j with h | h
    ·exact a i h
    ·have:i=j:=by omega
     rw [this];exact b) N (by omega)
theorem nE (n:Nat) (a:100<n) (g l:Bool) (dg:aa) (x q:Int) (m d:aa) (k0 k1 k2:Int):aN n g l dg x q m d k0 k1 k2=some (sea m):=by
 unfold aN;have:=wO n g l dg x q m d k0 k1 k2 21 0 rfl (λi hi=>absurd hi (by omega)) n (by omega);rw [show ((21+0:Nat):Int)=21 from rfl] at this;rw [this];by_cases h:sea m=0
 ·rw [ae h,h];rfl
 ·rw [ab h];rfl
def agr (s:aa) (k:Nat):Bool:=match s with
 | [a,b]=>(a==88||a==UInt8.ofNat (48+k / 10))&&(b==88||b==UInt8.ofNat (48+k%10))
 | _=>false
def eT (s:aa) (g:Nat):Bool:=(List.range g).any λi=>agr s (i+1)
theorem Il {X Y:Type} {step:X->Option (X⊕Y)} {f:Nat->X} {p:Nat->Bool} {g:Nat} {yes no:Y} (h:∀k,1<=k->k<=g->step (f k)=some (if p k then .inr yes else .inl (f (k+1)))) (d:step (f (g+1))=some (.inr no)) {N:Nat} (b:g<N):
  au step N (f 1)=some (if (List.range g).any (λi=>p (i+1)) then yes else no):=by
 have e:∀(r j:Nat),j+r=g->(∀i,i<j->p (i+1)=false)->∀N,r<N->au step N (f (j+1))=some (if (List.range g).any (λi=>p (i+1)) then yes else no):=by
  intro r
  induction r with
  | zero=>
   intro j c a N b;obtain ⟨N,rfl⟩:∃k,N=k+1:=⟨N - 1,by omega⟩;have:(List.range g).any (λi=>p (i+1))=false:=by
    rw [sP];intro i hi;rw [a i (by have:=la.1 hi;omega)];simp
   rw [au,show j+1=g+1 by omega,d,this];rfl
  | succ r ih=>
   intro j c a N b;obtain ⟨N,rfl⟩:∃k,N=k+1:=⟨N - 1,by omega⟩;rw [au,h (j+1) (by omega) (by omega)];cases hp:p (j+1) with
   | true=>
    have:(List.range g).any (λi=>p (i+1))=true:=sN.2 ⟨j,la.2 (by omega),hp⟩;rw [this];rfl
   | false=>
    exact ih (j+1) (by omega) (λi hi=>by
     rcases aH i j with h | h
     ·exact a i h
     ·have:i=j:=by omega
      rw [this];exact hp) N (by omega)
 exact e g 0 (by omega) (λi hi=>absurd hi (by omega)) N b
theorem vt {a:UInt8} {k:Nat} (b:k<256):((((a.toNat:Nat):Int))==((k:Nat):Int))=(a==UInt8.ofNat k):=by
 have h:(UInt8.ofNat k).toNat=k:=by simp;omega
 rw [<-n7,h]
theorem QB (n:Nat) (a b:UInt8) {g k:Nat} (q:1<=k) (r:k<=g) (s:g<=31):
  dr n ([a,b],(g:Int),(k:Int))=some (if agr [a,b] k then .inr (.inl true) else .inl ([a,b],(g:Int),((k+1:Nat):Int))):=by
 have p:Int.tdiv (k:Int) 10=((k / 10:Nat):Int):=by
  rw [show (10:Int)=((10:Nat):Int) from rfl,<-Int.ofNat_tdiv]
 have l:Int.tmod (k:Int) 10=((k%10:Nat):Int):=by
  rw [show (10:Int)=((10:Nat):Int) from rfl,<-Int.ofNat_tmod]
 have h:IntKind.wrap .u8 (48+IntKind.wrap .u8 (IntKind.wrap .i64 (Int.tdiv (k:Int) 10)))=((48+k / 10:Nat):Int):=by
  rw [p,wrap_i64 _ (by omega) (by omega),ia ((k / 10:Nat):Int) (by omega) (by omega),ia _ (by omega) (by omega)];omega
 have e:IntKind.wrap .u8 (48+IntKind.wrap .u8 (Int.tmod (k:Int) 10))=((48+k%10:Nat):Int):=by
  rw [l,ia ((k%10:Nat):Int) (by omega) (by omega),ia _ (by omega) (by omega)];omega
 have i:IntKind.wrap .i64 ((k:Int)+1)=((k+1:Nat):Int):=by rw [wrap_i64 _ (by omega) (by omega)];omega
 have c:(88:Int)=((88:Nat):Int):=rfl;have s0:sx [a,b] 0=some a:=rfl;have d:sx [a,b] 1=some b:=rfl;unfold dr;rw [bG,ae (show (k:Int)<=(g:Int) by omega)];simp only [s0,d,ob,h,e,i];rw [c,vt (by omega),vt (by omega),vt (by omega),vt (by omega)];show _=some (if ((a==UInt8.ofNat 88||a==UInt8.ofNat (48+k / 10))&&(b==UInt8.ofNat 88||b==UInt8.ofNat (48+k%10)))=true then _ else _);generalize (a==UInt8.ofNat 88)=m;generalize (b==UInt8.ofNat 88)=j;generalize (a==UInt8.ofNat (48+k / 10))=f;generalize (b==UInt8.ofNat (48+k%10))=o;cases m<;>cases j<;>cases f<;>cases o<;>rfl
theorem DL (n:Nat) (m:100<n) (s:aa) (g:Nat) (e:g<=31):dl n s (g:Int)=some (eT s g):=by
 unfold dl;by_cases c:s.length=2
 ·obtain ⟨a,b,rfl⟩:∃a b,s=[a,b]:=by
   match s,c with
   | [a,b],_=>exact ⟨a,b,rfl⟩
  have j:dr n ([a,b],(g:Int),((g+1:Nat):Int))=some (.inr (.inr ())):=by
   unfold dr;rw [bG,ab (show ¬((g+1:Nat):Int)<=(g:Int) by omega)]
  have:=Il (f:=λk=>([a,b],(g:Int),((k:Nat):Int))) (p:=agr [a,b]) (g:=g) (N:=n) (λk l d=>QB n a b l d e) j (by omega);show ob (au (dr n) n ([a,b],(g:Int),((1:Nat):Int))) _=_;rw [this];unfold eT;split<;>simp_all [ob]
 ·rw [show (((s.length:Nat):Int) != 2)=true by simp;omega];have:eT s g=false:=by
   unfold eT;rw [sP];intro i _
   match s,c with
   | [],_=>simp [agr]
   | [_],_=>simp [agr]
   | [_,_],h=>exact absurd rfl h
   | _::_::_::_,_=>simp [agr]
  rw [this];rfl
theorem uP (n:Nat) (s:aa) (k:Nat) (o:k<100):ep n s (k:Int)=some (if agr s k then 1 else 0):=by
 unfold ep;rw [Np n o];show cond _ _ _=_;by_cases d:s.length=2
 ·obtain ⟨a,b,rfl⟩:∃a b,s=[a,b]:=by
   match s,d with
   | [a,b],_=>exact ⟨a,b,rfl⟩
  have s0:sx [a,b] 0=some a:=rfl;have e:sx [a,b] 1=some b:=rfl;have j:sx (two k) 0=some (UInt8.ofNat (48+k / 10)):=rfl;have g:sx (two k) 1=some (UInt8.ofNat (48+k%10)):=rfl;have c:(88:Int)=((88:Nat):Int):=rfl;rw [show (((([a,b]:aa).length:Nat):Int)==2)=true from rfl];simp only [s0,e,j,g,ob,ah];rw [c,vt (by omega),vt (by omega),n7,n7];show _=some (if ((a==UInt8.ofNat 88||a==UInt8.ofNat (48+k / 10))&&(b==UInt8.ofNat 88||b==UInt8.ofNat (48+k%10)))=true then _ else _);generalize (a==UInt8.ofNat 88)=l;generalize (b==UInt8.ofNat 88)=i;generalize (a==UInt8.ofNat (48+k / 10))=f;generalize (b==UInt8.ofNat (48+k%10))=m;cases l<;>cases i<;>cases f<;>cases m<;>rfl
 ·rw [show (((s.length:Nat):Int)==2)=false by simp;omega];have:agr s k=false:=by
   match s,d with
   | [],_=>rfl
   | [_],_=>rfl
   | [_,_],h=>exact absurd rfl h
   | _::_::_::_,_=>rfl
  rw [this];rfl
theorem Ig (n:Nat) (c:100<n) (s:aa) (g:Nat) (e:g<=31):dK n s (g:Int)=some (if eT s g then 1 else 0):=by
 unfold dK;have b:dO n (s,(g:Int),((g+1:Nat):Int))=some (.inr (.inr ())):=by
  unfold dO;rw [bG,ab (show ¬((g+1:Nat):Int)<=(g:Int) by omega)]
 have:=Il (f:=λk=>(s,(g:Int),((k:Nat):Int))) (p:=agr s) (g:=g) (N:=n) (step:=dO n) (yes:=.inl 1) (no:=.inr ()) (λk h d=>by
  unfold dO;rw [bG,ae (show (k:Int)<=(g:Int) by omega)];show ob (ep n s (k:Int)) _=_;rw [uP n s k (by omega)];have a:IntKind.wrap .i64 ((k:Int)+1)=((k+1:Nat):Int):=by rw [wrap_i64 _ (by omega) (by omega)];omega
  simp only [ob,a];cases agr s k<;>rfl) b (by omega)
 show ob (au (dO n) n (s,(g:Int),((1:Nat):Int))) _=_;rw [this];unfold eT;split<;>simp_all [ob]
theorem xa (n:Nat) {a b:Int} (v:1<b) (p:b<1000) (u:-4611686018427387904<=a) (q:a<4611686018427387904):lU n a b=some (a / b,0):=by
 have o:(b==0)=false:=by simp;omega
 have m:(b==-1)=false:=by simp;omega
 unfold lU;simp only [o,m,af];have t:a / b*b+a%b=a:=Int.ediv_mul_add_emod a b;have s:=Lu a (show b≠0 by omega);have r:=LY a (show 0<b by omega);have j:-4611686018427387904<=a / b:=by
  rw [Int.le_ediv_iff_mul_le (by omega)];have:(-4611686018427387904:Int)*b<=-4611686018427387904*1:=Int.mul_le_mul_of_nonpos_left (by omega) (by omega);omega
 have k:a / b<4611686018427387904:=by
  rw [Int.ediv_lt_iff_lt_mul (by omega)];have:(4611686018427387904:Int)*1<=4611686018427387904*b:=Int.mul_le_mul_of_nonneg_left (by omega) (by omega);omega
 by_cases g:0<=a
 ·have d:Int.tdiv a b=a / b:=Q2 g;have e:decide (a<0)=false:=by simp;omega
  have d2:decide (b<0)=false:=by simp;omega
  rw [d,e,d2,wrap_i64 (a / b) (by omega) (by omega)];cases (Int.tmod a b != 0)<;>rfl
 ·have e:decide (a<0)=true:=by simp;omega
  have d2:decide (b<0)=false:=by simp;omega
  have d:=Int.tdiv_eq_ediv (a:=a) (b:=b);have i:=JW (a:=a) (b:=b);rw [e,d2];by_cases c:b∣a
  ·have f:Int.tmod a b=0:=by
    rw [i,ae (.inr c)];have:=Int.emod_eq_zero_of_dvd c;omega
   rw [f,d,ae (.inr c)];rw [Int.add_zero,wrap_i64 (a / b) (by omega) (by omega)];rfl
  ·have l:a%b≠0:=λh=>c (KG h);have f:(Int.tmod a b != 0)=true:=by
    rw [i,ab (by rintro (h | h);exact g h;exact c h)];simp;omega
   have hs:b.sign=1:=Int.sign_eq_one_of_pos (by omega);rw [f,d,ab (by rintro (h | h);exact g h;exact c h),hs];rw [wrap_i64 (a / b+1) (by omega) (by omega),Int.add_sub_cancel,wrap_i64 (a / b) (by omega) (by omega)];rfl
theorem UU (n:Nat) {a b:Int} (o:1<b) (k:b<1000):wo n a b=some (a%b,0):=by
 have j:(b==0)=false:=by simp;omega
 have i:(b==-1)=false:=by simp;omega
 unfold wo;simp only [j,i,af];have m:=Lu a (show b≠0 by omega);have l:=LY a (show 0<b by omega);have c:=JW (a:=a) (b:=b);have d2:decide (b<0)=false:=by simp;omega
 by_cases hc:0<=a\/b∣a
 ·rw [ae hc] at c;have:Int.tmod a b=a%b:=by omega
  rw [this,d2];have d:decide (a%b<0)=false:=by simp;omega
  rw [d];cases h:(a%b != 0)
  ·rfl
  ·rfl
 ·rw [ab hc] at c;have e:(b.natAbs:Int)=b:=by omega
  rw [e] at c;have g:a%b≠0:=λh=>hc (.inr (KG h));have f:(Int.tmod a b != 0)=true:=by simp;omega
  have d:decide (Int.tmod a b<0)=true:=by simp;omega
  rw [f,d,d2,c,wrap_i64 _ (by omega) (by omega),J3];rfl
def dW (y:Int):Prop:=-10000000000000000<=y/\y<=10000000000000000
instance (y:Int):Decidable (dW y):=by unfold dW;infer_instance
theorem gp (n:Nat) (y:Int):jo n y=some (if dW y then 0 else 6):=by
 unfold jo;rw [bG,bG];by_cases a:y < -10000000000000000
 ·rw [ae a,ab (show ¬dW y by unfold dW;omega)]
 ·by_cases b:y>10000000000000000
  ·rw [ab a,ae b,ab (show ¬dW y by unfold dW;omega)]
  ·rw [ab a,ab b,ae (show dW y by unfold dW;omega)]
theorem tL (n:Nat) {y:Int} (h:-20000000000000000<=y/\y<=20000000000000000):∃z,fF n y=some z:=by
 unfold fF;rw [wrap_i64 (y - 1) (by omega) (by omega),xa n (by omega) (by omega) (by omega) (by omega),xa n (by omega) (by omega) (by omega) (by omega),xa n (by omega) (by omega) (by omega) (by omega)];exact ⟨_,rfl⟩
theorem LU (n:Nat) {y:Int} (h:dW y):∃b e,ku n y=some (b,e):=by
 unfold ku;have h':=h;unfold dW at h';obtain ⟨z1,a⟩:=tL n (y:=y+1) (by omega);obtain ⟨z2,c⟩:=tL n (y:=y) (by omega);rw [gp,ae h,wrap_i64 (y+1) (by omega) (by omega),a,c];exact ⟨_,_,rfl⟩
theorem tc (n:Nat) {y:Int} (h:dW y) {m:Nat} (d:1<=m) (c:m<=12):∃v,eK n y (m:Int)=some v:=by
 unfold eK;obtain ⟨b,e,a⟩:=LU n h;rw [a];show ∃v,cond (b&&((m:Int)==2)) _ _=some v;cases (b&&((m:Int)==2)) with
 | true=>exact ⟨_,rfl⟩
 | false=>
  have:IntKind.wrap .i64 ((m:Int) - 1)=((m - 1:Nat):Int):=by rw [wrap_i64 _ (by omega) (by omega)];omega
  rw [this,dY (by omega)];have a:wB.length=12:=rfl;exact ⟨_,bh (show m - 1<wB.length by omega)⟩
theorem Ib (n:Nat) {y:Int} (h:dW y) {m:Nat} (b:1<=m) (a:m<=12):ks n y (m:Int)=some 0:=by
 unfold ks;rw [gp,ae h];show cond (decide ((m:Int)<1)) _ _=_;rw [bG,bG,ab (by omega),ab (by omega)]
theorem JP (n:Nat) {y:Int} (h:dW y) {m:Nat} (e:m<=11):∀(r j:Nat),j+r=m->∀(a:Int) (N:Nat),r<N->∃v,au (bO n) N (y,a,(m:Int),(j:Int))=some v:=by
 intro r
 induction r with
 | zero=>
  intro j b a N d;obtain ⟨N,rfl⟩:∃k,N=k+1:=⟨N - 1,by omega⟩;have:bO n (y,a,(m:Int),(j:Int))=some (.inr a):=by
   unfold bO;rw [bG,ab (show ¬((j:Int)<(m:Int)) by omega)]
  rw [au,this];exact ⟨_,rfl⟩
 | succ r ih=>
  intro j b a N d;obtain ⟨N,rfl⟩:∃k,N=k+1:=⟨N - 1,by omega⟩;obtain ⟨v,c⟩:=tc n h (m:=j+1) (by omega) (by omega);have w:IntKind.wrap .i64 ((j:Int)+1)=((j+1:Nat):Int):=by rw [wrap_i64 _ (by omega) (by omega)];omega
  have:bO n (y,a,(m:Int),(j:Int))=some (.inl (y,IntKind.wrap .i64 (a+v),(m:Int),((j+1:Nat):Int))):=by
   unfold bO;rw [bG,ae (show ((j:Int)<(m:Int)) by omega)];simp only [w,c,ob]
  rw [au,this];exact ih (j+1) (by omega) _ N (by omega)
theorem JZ (n:Nat) (d:100<n) {y:Int} (h:dW y) {m:Nat} (c:1<=m) (b:m<=12):∃v,fE n y (m:Int)=some (v,0):=by
 unfold fE lJ lI;have h':=h;unfold dW at h';obtain ⟨z,e⟩:=tL n (y:=y) (by omega);have w:IntKind.wrap .i64 ((m:Int) - 1)=((m - 1:Nat):Int):=by rw [wrap_i64 _ (by omega) (by omega)];omega
 rw [Ib n h c b,gp,ae h,e,w];obtain ⟨v,a⟩:=JP n h (m:=m - 1) (by omega) (m - 1) 0 (by omega) (IntKind.wrap .i64 (IntKind.wrap .i64 (365*y)+z)) n (by omega);refine ⟨v,?_⟩;show ob (au (bO n) n (y,IntKind.wrap .i64 (IntKind.wrap .i64 (365*y)+z),((m - 1:Nat):Int),((0:Nat):Int))) _=_;rw [a];rfl
theorem madd (n:Nat) {y:Int} (h:dW y) {m c:Nat} (k:1<=m) (j:m<=12) (hc:1<=c) (g:c<=6):oY n y (m:Int) (IntKind.wrap .i64 ((c:Int) - 1)) =
  some (if 12<m+c - 1 then (if y=10000000000000000 then (0,0,6) else (y+1,((m+c - 1 - 12:Nat):Int),0)) else (y,((m+c - 1:Nat):Int),0)):=by
 have h':=h;unfold dW at h';unfold oY;rw [Ib n h k j,wrap_i64 (12*y) (by omega) (by omega),wrap_i64 ((m:Int) - 1) (by omega) (by omega),wrap_i64 (12*y+((m:Int) - 1)) (by omega) (by omega),wrap_i64 ((c:Int) - 1) (by omega) (by omega)];have i:rR n (12*y+((m:Int) - 1)) ((c:Int) - 1)=some (12*y+((m:Int) - 1)+((c:Int) - 1),0):=by
  unfold rR;rw [wrap_i64 (12*y+((m:Int) - 1)+((c:Int) - 1)) (by omega) (by omega),ja];by_cases d:(c:Int) - 1=0
  ·rw [ae d];have a:decide (12*y+((m:Int) - 1)>12*y+((m:Int) - 1))=false:=by simp
   have d2:decide ((c:Int) - 1>0)=false:=by simp;omega
   rw [a,d2,d,Int.add_zero];rfl
  ·rw [ab d];have a:decide (12*y+((m:Int) - 1)+((c:Int) - 1)>12*y+((m:Int) - 1))=true:=by simp;omega
   have d2:decide ((c:Int) - 1>0)=true:=by simp;omega
   rw [a,d2];rfl
 simp only [ob,i,eC,af];rw [xa n (by omega) (by omega) (by omega) (by omega),UU n (by omega) (by omega)];simp only [gp];by_cases f:12<m+c - 1
 ·have e:(12*y+((m:Int) - 1)+((c:Int) - 1)) / 12=y+1:=by omega
  have b:(12*y+((m:Int) - 1)+((c:Int) - 1))%12=((m+c - 1 - 12:Nat):Int) - 1:=by omega
  rw [e,b,ae f];by_cases hy:y=10000000000000000
  ·rw [ae hy,ab (show ¬dW (y+1) by unfold dW;omega)];rfl
  ·rw [ab hy,ae (show dW (y+1) by unfold dW;omega),wrap_i64 (((m+c - 1 - 12:Nat):Int) - 1+1) (by omega) (by omega),J3];rfl
 ·have e:(12*y+((m:Int) - 1)+((c:Int) - 1)) / 12=y:=by omega
  have b:(12*y+((m:Int) - 1)+((c:Int) - 1))%12=((m+c - 1:Nat):Int) - 1:=by omega
  rw [e,b,ab f,ae h,wrap_i64 (((m+c - 1:Nat):Int) - 1+1) (by omega) (by omega),J3];rfl
theorem GQ {j:Nat} (b:j<21):∃m c:Nat,nL[j]?=some ((m:Int),(c:Int))/\1<=m/\m<=12/\1<=c/\c<=6/\(12<m+c - 1↔j=3\/j=7\/j=9):=by
 have:((List.range 21).all λj=>match nL[j]? with
  | some (m,c)=>decide (0<=m)&&decide (0<=c)&&decide (1<=m.toNat)&&decide (m.toNat<=12)&&decide (1<=c.toNat)&&decide (c.toNat<=6)&&(decide (12<m.toNat+c.toNat - 1)==decide (j=3\/j=7\/j=9))
  | none=>false)=true:=by decide +kernel
 have h:=(cv.1 this) j (by simpa using b);split at h
 ·rename_i m c e;simp only [aA,cn,bu,mI] at h;obtain ⟨⟨⟨⟨⟨⟨a,f⟩,l⟩,g⟩,d⟩,k⟩,i⟩:=h;exact ⟨m.toNat,c.toNat,by rw [e,II a,II f],l,g,d,k,i⟩
 ·cases h
theorem Wb (n:Nat) (k:100<n) {y:Int} (h:dW y) {j:Nat} (s:j<21):
  ∃a b c d,il n y ((21+j:Nat):Int)=some (a,b,c,d,if y=10000000000000000/\(j=3\/j=7\/j=9) then 6 else 0):=by
 obtain ⟨m,c,e,q,t,C,B,r⟩:=GQ s;have A:fG n ((21+j:Nat):Int)=some ((m:Int),(c:Int),0):=by
  unfold fG dN;rw [bG,bG,ab (by omega),ab (by omega)];have:IntKind.wrap .i64 (((21+j:Nat):Int) - 21)=(j:Int):=by rw [wrap_i64 _ (by omega) (by omega)];omega
  rw [this,dY s];show ob (nL[j]?) _=_;rw [e];rfl
 obtain ⟨v,z⟩:=JZ n k h q t;unfold il;rw [A];show ∃a b c d,ob (fE n y (m:Int)) _=_;rw [z];show ∃a b w d,ob (oY n y (m:Int) (IntKind.wrap .i64 ((c:Int) - 1))) _=_;rw [madd n h q t C B];have h':=h;unfold dW at h';by_cases i:12<m+c - 1
 ·rw [ae i];by_cases hy:y=10000000000000000
  ·rw [ae hy,ae ⟨hy,r.1 i⟩];exact ⟨_,_,_,_,rfl⟩
  ·rw [ab hy,ab (λx=>hy x.1)];have g:dW (y+1):=by unfold dW;omega
   obtain ⟨o,f⟩:=JZ n k g (m:=m+c - 1 - 12) (by omega) (by omega);obtain ⟨u,p⟩:=tc n g (m:=m+c - 1 - 12) (by omega) (by omega);have l:gR n (y+1) ((m+c - 1 - 12:Nat):Int)=some (IntKind.wrap .i64 (IntKind.wrap .i64 (o+u) - 1),0):=by
    unfold gR;rw [f,p];rfl
   show ∃a b w d,ob (gR n (y+1) ((m+c - 1 - 12:Nat):Int)) _=_;rw [l];exact ⟨_,_,_,_,rfl⟩
 ·rw [ab i,ab (λx=>i (r.2 x.2))];obtain ⟨o,f⟩:=JZ n k h (m:=m+c - 1) (by omega) (by omega);obtain ⟨u,p⟩:=tc n h (m:=m+c - 1) (by omega) (by omega);have l:gR n y ((m+c - 1:Nat):Int)=some (IntKind.wrap .i64 (IntKind.wrap .i64 (o+u) - 1),0):=by
   unfold gR;rw [f,p];rfl
  show ∃a b w d,ob (gR n y ((m+c - 1:Nat):Int)) _=_;rw [l];exact ⟨_,_,_,_,rfl⟩
def hasB (set:aa) (c:UInt8):Bool:=set.any λd=>d==c
theorem qw (set:aa) (c:UInt8):(decide (Lib.indexByte set c<0))=!hasB set c:=by
 induction set with
 | nil=>simp [Lib.indexByte,hasB]
 | cons d l ih=>
  have f:=Lib.indexByte_ge l c;simp only [hasB,qY] at ih ⊢;unfold Lib.indexByte;by_cases h:d=c
  ·simp [h]
  ·have e:(d==c)=false:=by simpa using h
   simp only [e,bw,aC,oP];rw [<-ih];by_cases b:Lib.indexByte l c=-1
   ·simp [b]
   ·have a:(Lib.indexByte l c==-1)=false:=by simpa using b
    simp only [a,bw,aC];have:¬Lib.indexByte l c+1<0:=by omega
    have:¬Lib.indexByte l c<0:=by omega
    simp [*]
theorem pL (set:aa) (c:UInt8):(decide (Lib.indexByte set c>=0))=hasB set c:=by
 have:=qw set c;by_cases h:Lib.indexByte set c<0
 ·have a:¬Lib.indexByte set c>=0:=by omega
  simp only [h,a,oy,nH] at this ⊢;revert this;cases hasB set c<;>simp
 ·have a:Lib.indexByte set c>=0:=by omega
  simp only [h,a,oy,nH] at this ⊢;revert this;cases hasB set c<;>simp
def lcp:aa->aa->Nat
 | c::s,d::t=>if c==d then lcp s t+1 else 0
 | _,_=>0
theorem yD:∀s t:aa,lcp s t<=s.length
 | [],_=>by simp [lcp]
 | _::_,[]=>by simp [lcp]
 | c::s,d::t=>by
  have:=yD s t;simp only [lcp,aE];split<;>omega
def bI (p:UInt8->Bool):Nat->aa->Nat
 | 0,_=>0
 | _+1,[]=>0
 | k+1,c::l=>if p c then bI p k l+1 else 0
theorem lY (p:UInt8->Bool):∀(k:Nat) (l:aa),bI p k l<=l.length
 | 0,_=>by simp [bI]
 | _+1,[]=>by simp [bI]
 | k+1,c::l=>by
  have:=lY p k l;simp only [bI,aE];split<;>omega
theorem uK (n:Nat) (S:aa) (a:Nat) (h:a<=S.length):cH n S (a:Int)=some (S.drop a):=by
 simp [cH,ob,cM h]
theorem CM (n:Nat) (s p:aa):jB n s p=some (s.take p.length==p):=by
 simp only [jB,gy,lH];by_cases h:p.length<=s.length
 ·simp [h,ob,cM h]
 ·have:(s.take p.length==p)=false:=by
   rw [aK];intro e;have:=cK List.length e;rw [dq] at this;omega
  simp [h,ob,this]
theorem NY (n:Nat) (t S:aa) (a:Nat) (h:a<=S.length):fJ n t S (a:Int)=some ((S.drop a).take t.length==t):=by
 simp [fJ,uK n S a h,ob,CM]
theorem nA (n:Nat) (t S:aa) (a:Nat) (h:a<=S.length) (d:S.length<4611686018427387904):
  aB n t S (a:Int)=some (if (S.drop a).take t.length=t then (true,S,((a+t.length:Nat):Int)) else (false,S,(a:Int))):=by
 simp only [aB,NY n t S a h,ob];by_cases hp:(S.drop a).take t.length=t
 ·have c:t.length<=S.length - a:=by
   have:=cK List.length hp;simp at this;omega
  have b:IntKind.wrap .i64 ((a:Int)+((t.length:Nat):Int))=((a+t.length:Nat):Int):=by rw [wrap_i64 _ (by omega) (by omega)];omega
  simp [hp,b]
 ·simp only [HH,ja,hp,aC]
theorem DW (n:Nat) (S:aa) (i:Int):bL n S i=some i:=rfl
def peek (l:aa):Int×Bool:=match l with | c::_=>(((c.toNat:Nat):Int),true) | []=>(0,false)
theorem pO (n:Nat) (S:aa) (a:Nat) (h:a<=S.length):bn n S (a:Int)=some (peek (S.drop a)):=by
 simp only [bn,uK n S a h,ob];rcases aH a S.length with b | d
 ·obtain ⟨c,hc⟩:∃c,S[a]?=some c:=⟨S[a],bh b⟩;rw [cA hc];simp [eG hc,peek]
 ·rw [jE d];simp [peek]
theorem wh (n:Nat) (a e:Int) (S:aa) (i:Int):aQ n a e S i=some (a,if e=0 then 5 else e):=by
 simp only [aQ,ja];by_cases h:e=0<;>simp [h]
theorem gN (n:Nat) (set:aa) (c:UInt8):dD n set ((c.toNat:Nat):Int)=some (Lib.indexByte set c):=by
 simp only [dD,dj,ob,Yu]
theorem Cc (n:Nat) (set S:aa) (a:Nat) (h:a<=S.length) (f:S.length<4611686018427387904):
  cu n set S (a:Int)=some (match S.drop a with | c::_=>if hasB set c then .inr (((c.toNat:Nat):Int),S,((a+1:Nat):Int)) else .inl ((a:Int),5,S,(a:Int)) | []=>.inl ((a:Int),5,S,(a:Int))):=by
 simp only [cu,pO n S a h,ob];rcases aH a S.length with d | b
 ·obtain ⟨c,hc⟩:∃c,S[a]?=some c:=⟨S[a],bh d⟩;have e:IntKind.wrap .i64 ((a:Int)+1)=((a+1:Nat):Int):=by rw [wrap_i64 _ (by omega) (by omega)];omega
  rw [cA hc];simp only [peek,cZ,af,gN,qw,DW,wh,ob,e];cases hasB set c<;>simp
 ·rw [jE b];simp [peek,DW,wh,ob]
theorem ql (S:aa) (a k:Nat):List.drop a (List.take (a+k) S)=(S.drop a).take k:=by
 rw [xx];congr 1;omega
theorem AW (n:Nat) (set:aa) (b most:Int) (S:aa) (a:Nat) (h:a<=S.length) (q:S.length<4611686018427387904) (m:S.length<n):
  au (dc n) n (set,b,most,(a:Int),(peek (S.drop a)).1,(peek (S.drop a)).2,S,(a:Int)) =
   some (b,(a:Int),S,((a+bI (hasB set) most.toNat (S.drop a):Nat):Int)):=by
 have:=fP (step:=dc n)
  (λx=>∃j:Nat,a+j<=S.length/\x=(set,b,most,(a:Int),(peek (S.drop (a+j))).1,(peek (S.drop (a+j))).2,S,((a+j:Nat):Int)))
  (λx=>S.length - x.2.2.2.2.2.2.2.toNat)
  (λx=>(b,(a:Int),S,((x.2.2.2.2.2.2.2.toNat+bI (hasB set) (most.toNat - (x.2.2.2.2.2.2.2.toNat - a)) (S.drop x.2.2.2.2.2.2.2.toNat):Nat):Int))) ?_ n
  (set,b,most,(a:Int),(peek (S.drop a)).1,(peek (S.drop a)).2,S,(a:Int)) ⟨0,by omega,by simp⟩ (by simp;omega)
 ·simpa using this
 rintro x ⟨j,o,rfl⟩;simp only [bR];have d:IntKind.wrap .i64 (((a+j:Nat):Int) - (a:Int))=(j:Int):=by rw [wrap_i64 _ (by omega) (by omega)];omega
 rcases aH (a+j) S.length with e | f
 ·obtain ⟨c,hc⟩:∃c,S[a+j]?=some c:=⟨S[a+j],bh e⟩;have i:IntKind.wrap .i64 (((a+j:Nat):Int)+1)=((a+(j+1):Nat):Int):=by rw [wrap_i64 _ (by omega) (by omega)];omega
  simp only [dc,cA hc,peek,ah,d];by_cases g:(j:Int)<most
  ·obtain ⟨k,l⟩:∃k,most.toNat - (a+j - a)=k+1:=⟨most.toNat - j - 1,by omega⟩;simp only [g,oy,ah,gN,ob,pL,l,bI];cases p:hasB set c with
   | true=>
    simp only [i,pO n S (a+(j+1)) (by omega),ah];refine .inl ⟨_,rfl,⟨j+1,by omega,rfl⟩,?_,?_⟩
    ·simp only [bR];omega
    ·simp only [bR,bV,jG,aO];have:most.toNat - (a+(j+1) - a)=k:=by omega
     rw [this,show a+(j+1)=a+j+1 by omega];omega
   | false=>exact .inr (by simp)
  ·refine .inr ?_;have:most.toNat - (a+j - a)=0:=by omega
   simp only [g,nH,af,this,bI,cP]
 ·refine .inr ?_;simp only [dc,jE f,peek,af];have:bI (hasB set) (most.toNat - (a+j - a)) []=0:=by cases most.toNat - (a+j - a)<;>rfl
  simp only [this,cP]
theorem vZ (n:Nat) (set:aa) (b most:Int) (S:aa) (a:Nat) (h:a<=S.length) (g:S.length<4611686018427387904) (f:S.length<n):
  cg n set b most S (a:Int)=some (if ((bI (hasB set) most.toNat (S.drop a):Nat):Int)<b
   then .inl (((a+bI (hasB set) most.toNat (S.drop a):Nat):Int),5,S,((a+bI (hasB set) most.toNat (S.drop a):Nat):Int))
   else .inr ((S.drop a).take (bI (hasB set) most.toNat (S.drop a)),S,((a+bI (hasB set) most.toNat (S.drop a):Nat):Int))):=by
 have d:=lY (hasB set) most.toNat (S.drop a);rw [bP] at d;simp only [cg,DW,pO n S a h,ob];rw [AW n set b most S a h g f];generalize bI (hasB set) most.toNat (S.drop a)=k at d ⊢;have c:IntKind.wrap .i64 (((a+k:Nat):Int) - (a:Int))=(k:Int):=by rw [wrap_i64 _ (by omega) (by omega)];omega
 simp only [c,wh];by_cases e:(k:Int)<b
 ·simp [e]
 ·simp only [e,nH,af,aC];rw [cM (by omega)];simp only;rw [cM (by omega)];simp only [ql]
theorem RU (a b:Nat):(cond (decide (((a:Nat):Int)<((b:Nat):Int))) ((a:Nat):Int) ((b:Nat):Int))=((min a b:Nat):Int):=by
 by_cases h:a<b
 ·simp [h];omega
 ·simp [h];omega
def asc (l:aa):Prop:=∀c∈l,c.toNat<128
theorem Lq (r:Int) (h:128<=r):∃p e,(Utf8.encode r).data.toList=p++[e]/\1<=p.length/\p.length<=3/\128<=e.toNat:=by
 unfold Utf8.encode;have hc:128<=(if Utf8.valid r then r.toNat else Utf8.runeError):=by
  split
  ·omega
  ·decide
 generalize (if Utf8.valid r then r.toNat else Utf8.runeError)=c at hc;have a:128<=(UInt8.ofNat (0x80+c%64)).toNat:=by
  simp only [E5];omega
 simp only;split
 ·omega
 ·split
  ·exact ⟨[_],_,rfl,by simp,by simp,a⟩
  ·split
   ·exact ⟨[_,_],_,rfl,by simp,by simp,a⟩
   ·exact ⟨[_,_,_],_,rfl,by simp,by simp,a⟩
theorem MC {l:aa} (h:asc l) {i:Nat} {c:UInt8} (hi:l[i]?=some c):c.toNat<128:=h c (fS hi)
theorem D7 (n:Nat) (set:aa) (h:asc set) (e:set.length<n):au (dQ n) n (set,0)=some (.inr ()):=by
 refine fP (step:=dQ n) (λx=>x.1=set) (λx=>set.length - x.2) (λx=>.inr ()) ?_ n _ rfl (by simp;omega);rintro ⟨s,i⟩ rfl;simp only [dQ];by_cases hi:i<s.length
 ·have b:Nat.blt i s.length=true:=cT hi;obtain ⟨c,hc⟩:∃c,s[i]?=some c:=⟨s[i],bh hi⟩;have a:=MC h hc;have d:(((c.toNat:Nat):Int)==65533)=false:=by rw [aK];omega
  simp only [b,ah,AG hc a,d,af];exact .inl ⟨_,rfl,rfl,by simp only;omega,trivial⟩
 ·have b:Nat.blt i s.length=false:=by
   cases b:Nat.blt i s.length with
   | false=>rfl
   | true=>exact absurd (aL b) (by omega)
  simp only [b,af];exact .inr trivial
theorem yZ {l:aa} {c:UInt8} (h:c∉l):Lib.indexByte l c<0:=by
 have b:=qw l c;have d:hasB l c=false:=by
  unfold hasB;rw [sP];intro x hx a;simp only [bu] at a;exact h (a▸hx)
 rw [d] at b;simpa using b
theorem CZ (n:Nat) (set:aa) (h:asc set) (y:set.length<n) (hs:set.length<=100) (r:Int) (s:128<=r):eD n set r=some (-1):=by
 have z:decide ((0:Int)<=r)=true:=am (by omega);have A:decide (r<128)=false:=ar (by omega);simp only [eD,z,A,ah,af];by_cases b:r=65533
 ·have:(r==65533)=true:=bu.2 b;simp only [this,ah,D7 n set h y,ob]
 ·have:(r==65533)=false:=aK.2 b;simp only [this,af];obtain ⟨v,w⟩:∃v,ee n r=some v:=by
   unfold ee;generalize decide ((0:Int)<=r)=o;generalize decide (r<55296)=d2;generalize decide ((57343:Int)<r)=t;generalize decide (r<=1114111)=d4;cases o<;>cases d2<;>cases t<;>cases d4<;>exact ⟨_,rfl⟩
  simp only [w,ob];cases v with
  | false=>rfl
  | true=>
   simp only [cZ,af];obtain ⟨p,e,hp,u,q,B⟩:=Lq r s;simp only [hp];have l:IntKind.wrap .i64 (((p++[e]).length:Nat) - 1:Int)=(p.length:Int):=by
    rw [wrap_i64 _ (by simp<;>omega) (by simp<;>omega)];simp
   rw [l];obtain ⟨m,rfl⟩:∃m,n=m+1:=⟨n - 1,by omega⟩;have a:dP (m+1) (set,p++[e],(p.length:Int),(p.length:Int))=some (.inr (.inl (-1)))\/dP (m+1) (set,p++[e],(p.length:Int),(p.length:Int))=some (.inr (.inr ())):=by
    simp only [dP,iQ];by_cases j:p.length<set.length
    ·obtain ⟨c,hc⟩:∃c,set[p.length]?=some c:=⟨set[p.length],bh j⟩;have k:=MC h hc;have g:(p++[e])[p.length]?=some e:=by simp
     have f:(((c.toNat:Nat):Int) != ((e.toNat:Nat):Int))=true:=by simp only [bne,kQ,aK];omega
     have i:IntKind.wrap .i64 ((p.length:Int)+1)=((p.length+1:Nat):Int):=by rw [wrap_i64 _ (by omega) (by omega)];omega
     have hx:e∉List.drop (p.length+1) (List.take set.length set):=by
      intro x;have:=h e (by simpa using List.mem_of_mem_drop x);omega
     left;simp only [j,oy,ah,eG hc,eG g,ob,f,i,cM (show p.length+1<=set.length by omega),gN,yZ hx]
    ·right;simp only [j,nH,af]
   rcases a with d | d<;>simp only [au,d,ob]
theorem yW (n:Nat) (set:aa) (c:UInt8) (r:Int) (b:r=((c.toNat:Nat):Int)) (hc:c.toNat<128):eD n set r=some (Lib.indexByte set c):=by
 have e:decide ((0:Int)<=r)=true:=am (by omega);have f:decide (r<128)=true:=am (by omega);have a:IntKind.wrap .u8 r=r:=ia _ (by omega) (by omega);have d:dD n set r=some (Lib.indexByte set c):=by rw [b];exact gN n set c
 simp only [eD,e,f,ah,a,d,ob]
theorem BM (n:Nat) (set:aa) (c:UInt8) (hc:c.toNat<128):eD n set ((c.toNat:Nat):Int)=some (Lib.indexByte set c):=yW n set c _ rfl hc
theorem vN (n:Nat) (set:aa) (c:UInt8) (hc:c.toNat<128):dR n set ((c.toNat:Nat):Int)=some (hasB set c):=by
 simp only [dR,BM n set c hc,ob,pL]
theorem yB (n:Nat) (set:aa) (h:asc set) (b:set.length<n) (hs:set.length<=100) (r:Int) (a:128<=r):dR n set r=some false:=by
 simp only [dR,CZ n set h b hs r a,ob];rfl
theorem wy (x:Int) (b:0<=x) (a:x<65536):IntKind.wrap .u16 x=x:=by
 show x%65536=x;omega
theorem uf (w a:Nat):BitVec.ofInt w (a:Int)=BitVec.ofNat w a:=by
 apply BitVec.eq_of_toNat_eq;simp
theorem Sr (k:Nat):(2:Int) ^ k=((2 ^ k:Nat):Int):=by simp
theorem OK (a k:Nat):Int.fdiv (a:Int) (2 ^ k)=((a / 2 ^ k:Nat):Int):=by
 rw [Sr k,Int.fdiv_eq_ediv_of_nonneg _ (Int.natCast_nonneg _)];rfl
def inR (lo hi:Int) (c:UInt8):Bool:=decide (((c.toNat:Nat):Int)>=lo)&&decide (((c.toNat:Nat):Int)<=hi)
def cnt (lo hi:Int) (l:aa):Nat:=l.countP (inR lo hi)
theorem NT (lo hi:Int) (l:aa):cnt lo hi l<=l.length:=List.countP_le_length
theorem QG (lo hi:Int) {l:aa} {i:Nat} {c:UInt8} (h:l[i]?=some c):cnt lo hi (l.take (i+1))=cnt lo hi (l.take i)+if inR lo hi c then 1 else 0:=by
 unfold cnt;rw [rt,h,List.countP_append];simp [LA]
theorem GZ (n:Nat) (s:aa) (lo hi:Int) (hs:s.length<n) (l:s.length<100000):gv n s lo hi=some ((cnt lo hi s:Nat):Int):=by
 have:=fP (step:=gS n) (λx=>∃i:Nat,i<=s.length/\x=(s,lo,hi,((cnt lo hi (s.take i):Nat):Int),(i:Int))) (λx=>s.length - x.2.2.2.2.toNat) (λ_=>((cnt lo hi s:Nat):Int)) ?_ n (s,lo,hi,0,0) ⟨0,by omega,by simp [cnt]⟩ (by simp;omega)
 ·simp only [gv,this,ob]
 rintro x ⟨i,j,rfl⟩;rcases aH i s.length with a | k
 ·obtain ⟨c,hc⟩:∃c,s[i]?=some c:=⟨s[i],bh a⟩;have b:=QG lo hi hc;have e:=NT lo hi (s.take i);rw [dq] at e;have h:IntKind.wrap .i64 ((i:Int)+1)=((i+1:Nat):Int):=by rw [wrap_i64 _ (by omega) (by omega)];omega
  have g:IntKind.wrap .i64 (((cnt lo hi (s.take i):Nat):Int)+1)=((cnt lo hi (s.take i)+1:Nat):Int):=by rw [wrap_i64 _ (by omega) (by omega)];omega
  refine .inl ⟨(s,lo,hi,((cnt lo hi (s.take (i+1)):Nat):Int),((i+1:Nat):Int)),?_,⟨i+1,a,rfl⟩,by simp only [bR];omega,rfl⟩;simp only [gS,iQ,a,oy,ah,eG hc,ob,h,g];rw [b];by_cases d:((c.toNat:Nat):Int)>=lo
  ·by_cases f:((c.toNat:Nat):Int)<=hi
   ·simp [d,f,inR]
   ·simp [d,f,inR]
  ·simp [d,inR]
 ·have:i=s.length:=by omega
  subst this;refine .inr ?_;simp only [gS,iQ,GF,nH,af,mE]
theorem LK (lo hi:Int) (l:aa):cnt lo hi l=l.length↔∀c∈l,inR lo hi c=true:=by
 unfold cnt;rw [List.countP_eq_length]
theorem OI (lo hi:Int) (l:aa):cnt lo hi l=0↔∀c∈l,inR lo hi c=false:=by
 unfold cnt;rw [List.countP_eq_zero];simp
def bf (c:UInt8):Bool:=inR 48 57 c
theorem bX (c:UInt8):bf c=true↔48<=c.toNat/\c.toNat<=57:=by
 unfold bf inR;simp only [aA,cn];omega
theorem Cb (c:UInt8):inR 88 88 c=true↔c=88:=by
 unfold inR;simp only [aA,cn];constructor
 ·intro h;apply gG.1;show c.toNat=88;omega
 ·rintro rfl;decide
theorem J4 (c:UInt8):inR 48 48 c=true↔c=48:=by
 unfold inR;simp only [aA,cn];constructor
 ·intro h;apply gG.1;show c.toNat=48;omega
 ·rintro rfl;decide
theorem LD:∀l:aa,cnt 48 57 l+cnt 88 88 l<=l.length/\(cnt 48 57 l+cnt 88 88 l=l.length↔∀c∈l,bf c=true\/c=88)
 | []=>by simp [cnt]
 | c::l=>by
  have ih:=LD l;have h:cnt 48 57 (c::l)=cnt 48 57 l+if inR 48 57 c then 1 else 0:=by simp [cnt,LA]
  have g:cnt 88 88 (c::l)=cnt 88 88 l+if inR 88 88 c then 1 else 0:=by simp [cnt,LA]
  have d:¬(inR 48 57 c=true/\inR 88 88 c=true):=by
   rintro ⟨b,a⟩;have:=(bX c).1 b;rw [(Cb c).1 a] at this;exact absurd this.2 (by decide)
  rw [h,g,aE];simp only [cf,Br];have hx:=Cb c;have f:bf c=inR 48 57 c:=rfl;rw [f];cases b:inR 48 57 c<;>cases a:inR 88 88 c
  ·simp only [b,a] at hx ⊢;have:c≠88:=λe=>by simpa using hx.2 e
   simp [this];omega
  ·simp only [b,a] at hx ⊢;have:c=88:=hx.1 trivial;simp only [this,bw,aO,aC,false_or,jG];rw [<-ih.2];omega
  ·simp only [b,a] at hx ⊢;simp only [bw,aO,aC,true_or,jG];rw [<-ih.2];omega
  ·exact absurd ⟨b,a⟩ d
theorem Kz (n:Nat) (s set:aa) (q:asc set) (t:set.length<n) (u:set.length<=100) (hs:s.length<n):
  ∃y,au (cQ n) n (true,set,s,0)=some y/\((y=.inr ()/\s.all (hasB set)=true)\/∃i:Nat,y=.inl (i:Int)/\s.all (hasB set)=false):=by
 refine pA (step:=cQ n) (λx=>x.1=true/\x.2.1=set/\x.2.2.1=s/\s.all (hasB set)=(s.drop x.2.2.2).all (hasB set)) (λx=>s.length - x.2.2.2) _ ?_ n _ ⟨rfl,rfl,rfl,rfl⟩ (by simp only;omega);rintro ⟨b,st,s',p⟩ ⟨h,f,g,a⟩;simp only at h f g a;rw [h,f,g];clear h f g b st s';rcases aH p s.length with j | m
 ·obtain ⟨c,hc⟩:∃c,s[p]?=some c:=⟨s[p],bh j⟩;have e:Nat.blt p s.length=true:=cT j;rw [cA hc,mO] at a;rcases aH c.toNat 128 with d | d
  ·have o:=AG hc d;simp only [cQ,e,ah,jX,o,vN n set c d,ob];cases k:hasB set c with
   | true=>
    rw [k,mN] at a;exact .inl ⟨_,rfl,⟨rfl,rfl,rfl,a⟩,by simp only;omega⟩
   | false=>
    rw [k,vJ] at a;exact .inr ⟨_,rfl,.inr ⟨p,rfl,a⟩⟩
  ·have o:=IS hc d;have k:hasB set c=false:=by
    unfold hasB;rw [sP];intro x hx r;simp only [bu] at r;have:=q x hx;rw [r] at this;omega
   rw [k,vJ] at a;have l:=yB n set q t u (((dec s p).1:Nat):Int) (by omega);simp only [cQ,e,ah,jX,l,ob];exact .inr ⟨_,rfl,.inr ⟨p,rfl,a⟩⟩
 ·have e:Nat.blt p s.length=false:=by
   cases h:Nat.blt p s.length with
   | false=>rfl
   | true=>exact absurd (aL h) (by omega)
  simp only [cQ,e,af];rw [jE m] at a;exact .inr ⟨_,rfl,.inl ⟨rfl,by rw [a];rfl⟩⟩
theorem KA (n:Nat) (s set:aa) (d:asc set) (b:set.length<n) (c:set.length<=100) (hs:s.length<n):gD n s set=some (s.all (hasB set)):=by
 obtain ⟨y,f,e⟩:=Kz n s set d b c hs;simp only [gD,lB,lD,f,ob];rcases e with ⟨rfl,a⟩ | ⟨i,rfl,a⟩
 ·rw [a];rfl
 ·rw [a];simp only [av,vo];omega
theorem QC:asc [48,49,50,51,52,53,54,55,56,57]:=by unfold asc;decide
theorem KI:asc [88,48,49,50,51,52,53,54,55,56,57]:=by unfold asc;decide
theorem iL (p:UInt8->Bool) (h:∀i:Fin 256,p (UInt8.ofNat i.val)=true) (c:UInt8):p c=true:=by
 have:=h ⟨c.toNat,c.toNat_lt⟩;simpa using this
theorem xW (c:UInt8):hasB [48,49,50,51,52,53,54,55,56,57] c=bf c:=by
 have:=iL (λc=>hasB [48,49,50,51,52,53,54,55,56,57] c==bf c) (by decide +kernel) c;simpa using this
theorem uZ (c:UInt8):hasB [88,48,49,50,51,52,53,54,55,56,57] c=(bf c||c==88):=by
 have:=iL (λc=>hasB [88,48,49,50,51,52,53,54,55,56,57] c==(bf c||c==88)) (by decide +kernel) c;simpa using this
theorem NB (n:Nat) (s:aa) (a:100<n) (hs:s.length<n):gD n s [48,49,50,51,52,53,54,55,56,57]=some (s.all bf):=by
 rw [KA n s _ QC (by simp;omega) (by simp) hs];congr 2;funext c;exact xW c
theorem Jl (n:Nat) (s:aa) (a:100<n) (hs:s.length<n):gD n s [88,48,49,50,51,52,53,54,55,56,57]=some (s.all λc=>bf c||c==88):=by
 rw [KA n s _ KI (by simp;omega) (by simp) hs];congr 2;funext c;exact uZ c
def all0 (s:aa):Bool:=s.all λc=>c==48
theorem Yi (n:Nat) (s:aa) (hs:s.length<n) (k:s.length<100000):∃y,gj n s 48=some y/\all0 s=all0 y/\y.length<=s.length:=by
 obtain ⟨y,j,a⟩:=pA (step:=dE n) (λx=>x.2=48/\all0 s=all0 x.1/\x.1.length<=s.length) (λx=>x.1.length) (λy=>all0 s=all0 y/\y.length<=s.length) (by
  rintro ⟨l,c⟩ ⟨rfl,h,b⟩;simp only at h b;by_cases m:l.length>0
  ·have d0:decide (((l.length:Nat):Int)>0)=true:=am (by omega);have g:IntKind.wrap .i64 (((l.length:Nat):Int) - 1)=((l.length - 1:Nat):Int):=by rw [wrap_i64 _ (by omega) (by omega)];omega
   obtain ⟨c,hc⟩:∃c,l[l.length - 1]?=some c:=⟨l[l.length - 1],bh (by omega)⟩;simp only [dE,d0,ah,g,eG hc,ob];by_cases f:c=48
   ·have d:(((c.toNat:Nat):Int)==48)=true:=by rw [f];rfl
    simp only [d,ah,cM (show l.length - 1<=l.length by omega),cw];refine .inl ⟨(List.take (l.length - 1) l,48),rfl,⟨rfl,?_,by show (List.take (l.length - 1) l).length<=s.length;rw [dq];omega⟩,by show (List.take (l.length - 1) l).length<l.length;rw [dq];omega⟩;rw [h];have:l=l.take (l.length - 1)++[c]:=by
     have a:=rt (l:=l) (i:=l.length - 1);rw [hc,show l.length - 1+1=l.length by omega,mE] at a;exact a
    rw [this];simp only [all0,D1,mO,List.all_nil,f];simp
   ·have d:(((c.toNat:Nat):Int)==48)=false:=by
     rw [aK];intro e;exact f (gG.1 (by show c.toNat=48;omega))
    simp only [d,af];exact .inr ⟨_,rfl,h,b⟩
  ·have d0:decide (((l.length:Nat):Int)>0)=false:=ar (by omega);simp only [dE,d0,af];exact .inr ⟨_,rfl,h,b⟩) n (s,48) ⟨rfl,rfl,aV _⟩ hs
 exact ⟨y,by simp only [gj,j,ob],a⟩
theorem YT (n:Nat) (s:aa) (hs:s.length<n) (m:s.length<100000):∃y,gK n s 48=some y/\all0 s=(y==[]):=by
 obtain ⟨y,k,g⟩:=pA (step:=fp n) (λx=>x.2=48/\all0 s=all0 x.1/\x.1.length<=s.length) (λx=>x.1.length) (λy=>all0 s=(y==[])) (by
  rintro ⟨l,c⟩ ⟨rfl,h,f⟩;simp only at h f;cases l with
  | nil=>exact .inr ⟨[],rfl,by rw [h];rfl⟩
  | cons c l=>
   have d0:decide ((((c::l).length:Nat):Int)>0)=true:=am (by simp only [aE];omega);have hc:sx (c::l) 0=some c:=by simp [sx]
   simp only [fp,d0,ah,hc,ob];by_cases a:c=48
   ·have b:(((c.toNat:Nat):Int)==48)=true:=by rw [a];rfl
    have d:bx (c::l).length 1=some 1:=cM (i:=1) (by simp);simp only [b,ah,d,mE,nJ,cw];refine .inl ⟨_,rfl,⟨rfl,?_,by show l.length<=s.length;simp only [aE] at f;omega⟩,by simp⟩;rw [h];simp [all0,a]
   ·have b:(((c.toNat:Nat):Int)==48)=false:=by
     rw [aK];intro e;exact a (gG.1 (by show c.toNat=48;omega))
    simp only [b,af];refine .inr ⟨_,rfl,?_⟩;rw [h];have j:(c==48)=false:=aK.2 a;simp [all0,j]) n (s,48) ⟨rfl,rfl,aV _⟩ hs
 exact ⟨y,by simp only [gK,k,ob],g⟩
theorem SN (n:Nat) (s:aa) (hs:s.length<n) (b:s.length<100000):∃y,oh n s=some y/\(y==[])=all0 s:=by
 unfold oh;by_cases h:s=[]
 ·subst h;exact ⟨[],rfl,rfl⟩
 ·have:(s==([]:aa))=false:=aK.2 h;obtain ⟨y,e,c,f⟩:=Yi n s hs b;obtain ⟨z,d,a⟩:=YT n y (by omega) (by omega);exact ⟨z,by simp only [this,af,e,d,ob],by rw [c,a]⟩
theorem PG (s:aa):all0 s=true↔cnt 48 48 s=s.length:=by
 rw [LK];unfold all0;rw [cv];constructor
 ·intro h c hc;have:=h c hc;rw [bu] at this;exact (J4 c).2 this
 ·intro h c hc;rw [bu];exact (J4 c).1 (h c hc)
def hasX (s:aa):Bool:=s.any λc=>c==88
theorem HG (s:aa):hasX s=decide (0<cnt 88 88 s):=by
 have:=OI 88 88 s;unfold hasX;cases h:s.any λc=>c==88 with
 | true=>
  obtain ⟨c,hc,b⟩:=sN.1 h;rw [bu] at b;symm;rw [cn];rcases AE (cnt 88 88 s) with a | a
  ·have:=this.1 a c hc;rw [(Cb c).2 b] at this;cases this
  ·exact a
 | false=>
  symm;rw [vo];intro a;have:cnt 88 88 s=0:=this.2 λc hc=>by
   cases hx:inR 88 88 c with
   | false=>rfl
   | true=>
    rw [sP] at h;exact absurd (bu.2 ((Cb c).1 hx)) (h c hc)
  omega
theorem DY (n:Nat) (s:aa):iM n s=some (hasX s):=by
 have e:UInt8.ofNat (Int.toNat 88)=(88:UInt8):=rfl;have hi:m8 n s=some (Lib.indexByte s 88):=by
  simp only [m8,ju,dj,ob,e];by_cases h:([88]:aa)=s
  ·subst h;rfl
  ·have:(([88]:aa)==s)=false:=aK.2 h;simp only [this,af]
 simp only [iM,hi,ob,pL];rfl
theorem tV (n:Nat) (g l:Bool) (d:aa) (x q:Int):dn n g l d x q=some (hasX d):=by
 simp only [dn,DY,ob]
theorem pu (n:Nat) (g l:Bool) (d:aa) (x q:Int) (hs:d.length<n) (a:d.length<100000):aF n g l d x q=some (if hasX d then 1 else 0):=by
 simp only [aF,GZ n d 88 88 hs a,ob,HG,cn];by_cases h:0<cnt 88 88 d
 ·have:decide (((cnt 88 88 d:Nat):Int)<1)=false:=ar (by omega);simp [this,h]
 ·have:decide (((cnt 88 88 d:Nat):Int)<1)=true:=am (by omega);have b:cnt 88 88 d=0:=by omega
  simp [this,b]
def vS (acc:Nat) (c:UInt8):Nat:=acc*10+(c.toNat - 48)
def dval (acc:Nat) (l:aa):Nat:=l.foldl vS acc
theorem pN (acc:Nat):dval acc []=acc:=by unfold dval;rw [H3]
theorem pp (acc:Nat) (c:UInt8) (l:aa):dval acc (c::l)=dval (vS acc c) l:=by
 unfold dval;rw [vw]
theorem IQ (l:aa) (acc:Nat) (c:UInt8):dval acc (l++[c])=dval acc l*10+(c.toNat - 48):=by
 have:dval acc (l++[c])=vS (dval acc l) c:=by
  unfold dval;rw [Ir,vw,H3]
 rw [this];rfl
theorem TY (M:Nat) (i:10000000000000000000<=M) (l:aa):∀(acc k:Nat),(∀c∈l,bf c=true)->acc<10 ^ k->l.length+k<=18->Lib.parseUintM M acc l=.ok (dval acc l)/\dval acc l<10 ^ (l.length+k):=by
 induction l with
 | nil=>
  intro acc k _ b _;rw [pN];refine ⟨rfl,?_⟩;simpa using b
 | cons c l ih=>
  intro acc k h b e;have hc:=(bX c).1 (h c (by simp));simp only [aE] at e;have hp:(10:Nat) ^ (k+1)=10 ^ k*10:=tA 10 k;have g:(10:Nat) ^ (k+1)<=10 ^ 18:=kI (by decide) (by omega);have f:(10:Nat) ^ 18=1000000000000000000:=by decide
  have a:vS acc c=acc*10+(c.toNat - 48):=rfl;have ih:=ih (vS acc c) (k+1) (λd a=>h d (by simp [a])) (by omega) (by omega);refine ⟨?_,?_⟩
  ·simp only [Lib.parseUintM];rw [ae hc,ab (by omega),ab (by omega),<-a,ih.1,pp]
  ·rw [pp,aE,show l.length+1+k=l.length+(k+1) by omega];exact ih.2
theorem Jm {l:aa} (h:∀c∈l,bf c=true) (d:l≠[]) (k:l.length<=18):yb l=some ((dval 0 l:Nat):Int)/\dval 0 l<10 ^ l.length:=by
 obtain ⟨j,b⟩:=TY (2 ^ 64 - 1) (by decide) l 0 0 h (by simp) (by omega);refine ⟨?_,by simpa using b⟩;have g:dval 0 l<10 ^ 18:=oL b (kI (by decide) (by omega));cases l with
 | nil=>exact absurd rfl d
 | cons c r=>
  have hc:=(bX c).1 (h c (by simp));have f:Lib.parseUintB 64 (c::r)=.ok (dval 0 (c::r)):=by
   unfold Lib.parseUintB;rw [ab d,j]
  have hs:¬(c.toNat=43\/c.toNat=45):=by omega
  simp only [yb,Lib.parseIntB,hs,aC,f];have i:(10:Nat) ^ 18=1000000000000000000:=by decide
  have a:(2:Nat) ^ (64 - 1)=9223372036854775808:=by decide
  have e:¬c.toNat=45:=by omega
  simp only [e,GB,jG,xw,aC];rw [a,ab (by omega)]
theorem Pm (n k:Nat) (h:k<=18) (j:18<n):pt n (k:Int)=some (((10 ^ k:Nat):Int),0):=by
 have e:(10:Nat) ^ 18=1000000000000000000:=by decide
 have:=fP (step:=kJ n) (λx=>∃i:Nat,i<=k/\x=(((10 ^ i:Nat):Int),(k:Int),(i:Int))) (λx=>k - x.2.2.toNat) (λ_=>((10 ^ k:Nat):Int)) (by
  rintro x ⟨i,hi,rfl⟩;rcases aH i k with a | g
  ·have f:(10:Nat) ^ (i+1)<=10 ^ 18:=kI (by decide) (by omega);have hp:(10:Nat) ^ (i+1)=10 ^ i*10:=tA 10 i;have d:IntKind.wrap .i64 (((10 ^ i:Nat):Int)*10)=((10 ^ (i+1):Nat):Int):=by rw [wrap_i64 _ (by omega) (by omega)];omega
   have b:IntKind.wrap .i64 ((i:Int)+1)=((i+1:Nat):Int):=by rw [wrap_i64 _ (by omega) (by omega)];omega
   refine .inl ⟨_,?_,⟨i+1,a,rfl⟩,by simp only [bR];omega,rfl⟩;simp only [kJ,iQ,a,oy,ah,d,b]
  ·have:i=k:=by omega
   subst this;refine .inr ?_;simp only [kJ,iQ,GF,nH,af]) n (1,(k:Int),0) ⟨0,by omega,rfl⟩ (by simp;omega)
 have c:decide ((k:Int)<0)=false:=ar (by omega);have d2:decide ((k:Int)>18)=false:=ar (by omega);simp only [pt,c,d2,af,this,ob]
theorem kE (x:Int) (b:0<=x) (a:x<18446744073709551616):IntKind.wrap .u64 x=x:=by
 show x%18446744073709551616=x;omega
theorem FP (x:Int):IntKind.wrap .u64 x=x%18446744073709551616:=rfl
theorem K3 {a:Nat} (b:a<18446744073709551616):bits .and .u64 (a:Int) 4294967295=((a%4294967296:Nat):Int):=by
 show IntKind.wrap .u64 ((BitVec.ofInt 64 (a:Int) &&& BitVec.ofInt 64 ((4294967295:Nat):Int)).toNat:Int)=_;rw [uf,uf,BitVec.toNat_and,G0,G0,oO (show a<2 ^ 64 from b),oO (by decide)];have:=Nat.and_two_pow_sub_one_eq_mod a 32;rw [show (2:Nat) ^ 32 - 1=4294967295 from by decide,show (2:Nat) ^ 32=4294967296 from by decide] at this;rw [this];exact kE _ (by omega) (by omega)
theorem PT (a:Nat):Int.fdiv (a:Int) (2 ^ 32)=((a / 4294967296:Nat):Int):=by
 rw [OK]
theorem G7 {a b A B:Nat} (d:a<=A) (c:b<=B):a*b<=A*B:=wN d c
theorem MG (a b:Nat):a*b=(a / 4294967296)*(b / 4294967296)*18446744073709551616+((a / 4294967296)*(b%4294967296)+(a%4294967296)*(b / 4294967296))*4294967296+(a%4294967296)*(b%4294967296):=by
 have f:a=(a / 4294967296)*4294967296+a%4294967296:=by omega
 have e:b=(b / 4294967296)*4294967296+b%4294967296:=by omega
 generalize a / 4294967296=c at f ⊢;generalize a%4294967296=g at f ⊢;generalize b / 4294967296=d at e ⊢;generalize b%4294967296=h at e ⊢;subst f e;rw [gW,Nat.mul_add,Nat.mul_add];have k:c*4294967296*(d*4294967296)=c*d*18446744073709551616:=by
  rw [Nat.mul_mul_mul_comm]
 have j:c*4294967296*h=c*h*4294967296:=by rw [Nat.mul_right_comm]
 have i:g*(d*4294967296)=g*d*4294967296:=by rw [Gq]
 rw [k,j,i,gW];omega
theorem Yk (n a b:Nat) (y:a<18446744073709551616) (u:b<18446744073709551616):kB n (a:Int) (b:Int)=some (((a*b / 18446744073709551616:Nat):Int),((a*b%18446744073709551616:Nat):Int)):=by
 have w:=MG a b;have i:a / 4294967296<=4294967295:=by omega
 have j:a%4294967296<=4294967295:=by omega
 have h:b / 4294967296<=4294967295:=by omega
 have g:b%4294967296<=4294967295:=by omega
 have p:=G7 j g;have l:=G7 j h;have q:=G7 i g;have x:=G7 i h;have k:IntKind.wrap .u64 ((a:Int)*(b:Int))=((a*b%18446744073709551616:Nat):Int):=by
  rw [FP,<-Ic];omega
 simp only [kB,PT,K3 y,K3 u,k];simp only [<-Ic];generalize (a / 4294967296)*(b / 4294967296)=f at *;generalize (a / 4294967296)*(b%4294967296)=d at *;generalize (a%4294967296)*(b / 4294967296)=e at *;generalize (a%4294967296)*(b%4294967296)=c at *;generalize a*b=N at *;have t:IntKind.wrap .u64 ((c:Nat):Int)=((c:Nat):Int):=kE _ (by omega) (by omega);have s:IntKind.wrap .u64 ((d:Nat):Int)=((d:Nat):Int):=kE _ (by omega) (by omega);have z:IntKind.wrap .u64 ((e:Nat):Int)=((e:Nat):Int):=kE _ (by omega) (by omega);have o:IntKind.wrap .u64 ((f:Nat):Int)=((f:Nat):Int):=kE _ (by omega) (by omega);rw [t,s,z,o,PT c];have v:IntKind.wrap .u64 (((d:Nat):Int)+((c / 4294967296:Nat):Int))=((d+c / 4294967296:Nat):Int):=by rw [kE _ (by omega) (by omega)];omega
 rw [v,PT,K3 (by omega)];have r:IntKind.wrap .u64 (((f:Nat):Int)+(((d+c / 4294967296) / 4294967296:Nat):Int))=((f+(d+c / 4294967296) / 4294967296:Nat):Int):=by rw [kE _ (by omega) (by omega)];omega
 have m:IntKind.wrap .u64 ((((d+c / 4294967296)%4294967296:Nat):Int)+((e:Nat):Int))=(((d+c / 4294967296)%4294967296+e:Nat):Int):=by rw [kE _ (by omega) (by omega)];omega
 rw [r,m,PT];have w8:IntKind.wrap .u64 (((f+(d+c / 4294967296) / 4294967296:Nat):Int)+((((d+c / 4294967296)%4294967296+e) / 4294967296:Nat):Int))=((N / 18446744073709551616:Nat):Int):=by
  rw [kE _ (by omega) (by omega)];omega
 rw [w8]
theorem WC (n a b:Nat) (j:a<9223372036854775808) (k:b<9223372036854775808):wA n (a:Int) (b:Int)=some (if a*b<9223372036854775808 then (((a*b:Nat):Int),0) else (0,15)):=by
 have g:decide ((a:Int)<0)=false:=ar (by omega);have d2:decide ((b:Int)<0)=false:=ar (by omega);have i:IntKind.wrap .u64 (a:Int)=a:=kE _ (by omega) (by omega);have f:IntKind.wrap .u64 (b:Int)=b:=kE _ (by omega) (by omega);simp only [wA,uv,g,d2,af,i,f,ob,Yk n a b (by omega) (by omega)];generalize a*b=N;by_cases h:18446744073709551616<=N
 ·have c:decide (((N / 18446744073709551616:Nat):Int)>0)=true:=am (by omega);rw [c,ab (by omega)];rfl
 ·have c:decide (((N / 18446744073709551616:Nat):Int)>0)=false:=ar (by omega);have e:N%18446744073709551616=N:=oO (by omega);rw [c,e];simp only [af,uG,cZ,tq,i7,ah];by_cases d:N<9223372036854775808
  ·have d4:decide (((N:Nat):Int)<=9223372036854775807)=true:=am (by omega);rw [d4,ae d,ah,wrap_i64 _ (by omega) (by omega)]
  ·have d4:decide (((N:Nat):Int)<=9223372036854775807)=false:=ar (by omega);rw [d4,ab d,af]
def E16:Nat:=10000000000000000
theorem UO {x:Nat} (hx:17<=x):E16<10 ^ x:=by
 have:(10:Nat) ^ 17<=10 ^ x:=kI (by decide) hx;have a:(10:Nat) ^ 17=100000000000000000:=by decide
 unfold E16;omega
theorem M5 (n:Nat) (g l:Bool) (d:aa) (x:Nat) (s:Int) (f:∀c∈d,bf c=true) (p:d≠[]) (e:d.length<=17) (hx:x<=18) (i:18<n):
  eu n g l d (x:Int) s=some (if dval 0 d*10 ^ x<=E16 then (((dval 0 d*10 ^ x:Nat):Int),0) else (0,6)):=by
 obtain ⟨j,m⟩:=Jm f p (by omega);have r:dval 0 d<10 ^ 17:=oL m (kI (by decide) e);have hp:(10:Nat) ^ x<=10 ^ 18:=kI (by decide) hx;have q:(10:Nat) ^ 17=100000000000000000:=by decide
 have o:(10:Nat) ^ 18=1000000000000000000:=by decide
 have k:Nat.ble d.length 9223372036854775806=true:=cT (by omega);simp only [eu,k,ah,j,ob,Pm n x hx i,eC,af,WC n _ _ (show dval 0 d<9223372036854775808 by omega) (show 10 ^ x<9223372036854775808 by omega)];generalize dval 0 d*10 ^ x=N;unfold E16;by_cases h:N<9223372036854775808
 ·rw [ae h];simp only [eC,af];by_cases b:N<=10000000000000000
  ·have a:decide (((N:Nat):Int)>10000000000000000)=false:=ar (by omega);rw [a,ae b,af]
  ·have a:decide (((N:Nat):Int)>10000000000000000)=true:=am (by omega);rw [a,ab b,ah]
 ·rw [ab h,ab (by omega)];rfl
def pre (d:aa) (i:Nat):Nat:=dval 0 (d.take i)*10 ^ (i - d.length)
theorem RB {d:aa} {i:Nat} {c:UInt8} (h:d[i]?=some c):pre d (i+1)=10*pre d i+(c.toNat - 48):=by
 have a:=ui h;unfold pre;rw [rt,h,show i+1 - d.length=0 by omega,show i - d.length=0 by omega];simp only [Option.toList,IQ,BX,qQ];omega
theorem Rl {d:aa} {i:Nat} (h:d.length<=i):pre d (i+1)=10*pre d i:=by
 unfold pre;rw [jf (show d.length<=i+1 by omega),jf h,show i+1 - d.length=(i - d.length)+1 by omega,tA];rw [<-Gq];omega
theorem It (d:aa):∀k i,pre d i<=pre d (i+k)
 | 0,i=>aV _
 | k+1,i=>by
  have ih:=It d k i;rcases aH (i+k) d.length with a | b
  ·have:=RB (bh a);rw [show i+(k+1)=i+k+1 by omega,this];omega
  ·have:=Rl b;rw [show i+(k+1)=i+k+1 by omega,this];omega
theorem jw (n:Nat) (d:aa) (x:Nat) (o:∀c∈d,bf c=true) (v:d.length<=100) (hx:x<=100) (w:d.length+x<n):
  ak n d (x:Int)=some (if dval 0 d*10 ^ x<=E16 then (((dval 0 d*10 ^ x:Nat):Int),1) else (0,0)):=by
 have a:pre d (d.length+x)=dval 0 d*10 ^ x:=by
  unfold pre;rw [jf (by omega),show d.length+x - d.length=x by omega]
 have w0:IntKind.wrap .i64 (((d.length:Nat):Int)+(x:Int))=((d.length+x:Nat):Int):=by rw [wrap_i64 _ (by omega) (by omega)];omega
 have:=fP (step:=fB n) (λq=>∃i:Nat,i<=d.length+x/\pre d i<=E16/\q=(d,(x:Int),((pre d i:Nat):Int),(i:Int))) (λq=>d.length+x - q.2.2.2.toNat) (λ_=>if dval 0 d*10 ^ x<=E16 then .inr ((dval 0 d*10 ^ x:Nat):Int) else .inl (0,0)) (by
  rintro q ⟨i,hi,hp,rfl⟩;simp only [fB,w0,iQ];unfold E16 at hp ⊢;have s:IntKind.wrap .i64 ((i:Int)+1)=((i+1:Nat):Int):=by rw [wrap_i64 _ (by omega) (by omega)];omega
  have m:IntKind.wrap .i64 (10*((pre d i:Nat):Int))=((10*pre d i:Nat):Int):=by rw [wrap_i64 _ (by omega) (by omega)];omega
  by_cases j:i<d.length+x
  ·have r:=It d (d.length+x - (i+1)) (i+1);rw [show i+1+(d.length+x - (i+1))=d.length+x by omega,a] at r;simp only [j,oy,ah,s,m];rcases aH i d.length with e | k
   ·obtain ⟨c,hc⟩:∃c,d[i]?=some c:=⟨d[i],bh e⟩;have l:=(bX c).1 (o c (fS hc));have hs:=RB hc;have t:IntKind.wrap .u8 (((c.toNat:Nat):Int) - 48)=((c.toNat - 48:Nat):Int):=by rw [ia _ (by omega) (by omega)];omega
    have p:IntKind.wrap .i64 ((c.toNat - 48:Nat):Int)=((c.toNat - 48:Nat):Int):=wrap_i64 _ (by omega) (by omega);have u:IntKind.wrap .i64 (((10*pre d i:Nat):Int)+((c.toNat - 48:Nat):Int))=((pre d (i+1):Nat):Int):=by rw [wrap_i64 _ (by omega) (by omega)];omega
    simp only [e,oy,ah,eG hc,ob,t,p,u];by_cases g:pre d (i+1)<=10000000000000000
    ·have b:decide (((pre d (i+1):Nat):Int)>10000000000000000)=false:=ar (by omega);simp only [b,af];exact .inl ⟨_,rfl,⟨i+1,j,g,rfl⟩,by simp only [bR];omega,trivial⟩
    ·have b:decide (((pre d (i+1):Nat):Int)>10000000000000000)=true:=am (by omega);simp only [b,ah];rw [ab (by omega)];exact .inr rfl
   ·have hs:=Rl k;have f:¬i<d.length:=by omega
    simp only [f,nH,af];rw [<-hs];by_cases g:pre d (i+1)<=10000000000000000
    ·have b:decide (((pre d (i+1):Nat):Int)>10000000000000000)=false:=ar (by omega);simp only [b,af];exact .inl ⟨_,rfl,⟨i+1,j,g,rfl⟩,by simp only [bR];omega,trivial⟩
    ·have b:decide (((pre d (i+1):Nat):Int)>10000000000000000)=true:=am (by omega);simp only [b,ah];rw [ab (by omega)];exact .inr rfl
  ·have:i=d.length+x:=by omega
   subst this;simp only [GF,nH,af];rw [a] at hp ⊢;rw [ae hp];exact .inr rfl) n (d,(x:Int),0,0) ⟨0,by omega,by unfold pre E16;simp [pN],by unfold pre;simp [pN]⟩ (by simp;omega)
 simp only [ak,this,ob];by_cases h:dval 0 d*10 ^ x<=E16
 ·rw [ae h,ae h]
 ·rw [ab h,ab h]
def okM (d:aa) (x:Int):Prop:=(∀c∈d,bf c=true)/\1<=d.length/\d.length<=17/\d.head?≠some 48/\0<=x/\x<=16/\¬(x=0/\d.length<5)/\dval 0 d*10 ^ x.toNat<=E16
def okL (d:aa) (x s:Int):Prop:=okM d x/\0<=s/\s<=(d.length:Int)+x
def okS (g:Bool) (d:aa) (x s:Int):Prop:=d.length=4/\(∀c∈d,bf c=true\/c=88)/\x=0/\¬(g=true/\all0 d=true)/\0<=s/\s<=4/\¬(0<s/\hasX d=true)
def okY (g l:Bool) (d:aa) (x s:Int):Prop:=if l=true then okL d x s else okS g d x s
instance (d:aa) (x:Int):Decidable (okM d x):=by unfold okM;infer_instance
instance (d:aa) (x s:Int):Decidable (okL d x s):=by unfold okL;infer_instance
instance (g:Bool) (d:aa) (x s:Int):Decidable (okS g d x s):=by unfold okS;infer_instance
instance (g l:Bool) (d:aa) (x s:Int):Decidable (okY g l d x s):=by unfold okY;infer_instance
theorem Kv (d:aa):d.all bf=true↔∀c∈d,bf c=true:=cv
theorem Hk (d:aa):(d.all λc=>bf c||c==88)=true↔∀c∈d,bf c=true\/c=88:=by
 rw [cv];constructor
 ·intro h c hc;have:=h c hc;simpa using this
 ·intro h c hc;have:=h c hc;simpa using this
theorem Un (c:UInt8):(((c.toNat:Nat):Int)==48)=(c==48):=n7 c 48
theorem UL (n:Nat) (g l:Bool) (d:aa) (x s:Int) (y:200<n) (z:d.length<=100):be n g l d x s=some (decide (okM d x)):=by
 unfold be;by_cases w:d.length<1
 ·have e:decide (((d.length:Nat):Int)<1)=true:=am (by omega);rw [e,ar (λh:okM d x=>by have:=h.2.1;omega)];rfl
 ·have e:decide (((d.length:Nat):Int)<1)=false:=ar (by omega);rw [e,af];by_cases A:d.length>17
  ·have e:decide (((d.length:Nat):Int)>17)=true:=am (by omega);rw [e,ar (λh:okM d x=>by have:=h.2.2.1;omega)];rfl
  ·have e:decide (((d.length:Nat):Int)>17)=false:=ar (by omega);rw [e,af,NB n d (by omega) (by omega)];simp only [ob];cases o:d.all bf with
   | false=>
    rw [ar (λh:okM d x=>by rw [(Kv d).2 h.1] at o;cases o)];rfl
   | true=>
    have a:=(Kv d).1 o;obtain ⟨c,r,rfl⟩:∃c r,d=c::r:=by
     cases d with
     | nil=>simp at w
     | cons c r=>exact ⟨c,r,rfl⟩
    have m:sx (c::r) 0=some c:=by simp [sx]
    simp only [cZ,af,m,Un];by_cases f:c=48
    ·rw [ar (λh:okM (c::r) x=>h.2.2.2.1 (by rw [f];rfl)),f];rfl
    ·have e:(c==48)=false:=aK.2 f;rw [e,af];by_cases t:x<0
     ·rw [am t,ar (λh:okM (c::r) x=>by have:=h.2.2.2.2.1;omega)];rfl
     ·rw [ar t,af];by_cases v:x>16
      ·rw [am v,ar (λh:okM (c::r) x=>by have:=h.2.2.2.2.2.1;omega)];rfl
      ·rw [ar v,af];obtain ⟨k,rfl⟩:∃k:Nat,x=(k:Int):=⟨x.toNat,by omega⟩;have p:=M5 n g l (c::r) k s a (by simp) (by omega) (by omega) (by omega);rw [p];have key:¬((k:Int)=0/\(c::r).length<5)->(okM (c::r) (k:Int)↔dval 0 (c::r)*10 ^ k<=E16):=by
        intro j;constructor
        ·intro h;simpa using h.2.2.2.2.2.2.2
        ·intro h;exact ⟨a,by omega,by omega,by simpa using f,by omega,by omega,j,by simpa using h⟩
       have fin:¬((k:Int)=0/\(c::r).length<5)->(ob (some (if dval 0 (c::r)*10 ^ k<=E16 then (((dval 0 (c::r)*10 ^ k:Nat):Int),(0:Int)) else (0,6))) λq=>(some (q.2==0)))=some (decide (okM (c::r) (k:Int))):=by
        intro j;by_cases i:dval 0 (c::r)*10 ^ k<=E16
        ·rw [ae i,am ((key j).2 i)];rfl
        ·rw [ab i,ar (λh=>i ((key j).1 h))];rfl
       by_cases b:(k:Int)=0
       ·have e:((k:Int)==0)=true:=bu.2 b;rw [e,ah];by_cases u:(c::r).length<5
        ·have e:decide ((((c::r).length:Nat):Int)<5)=true:=am (by omega);rw [e,ar (λh:okM (c::r) (k:Int)=>h.2.2.2.2.2.2.1 ⟨b,u⟩)];rfl
        ·have e:decide ((((c::r).length:Nat):Int)<5)=false:=ar (by omega);rw [e,af];exact fin (λh=>u h.2)
       ·have e:((k:Int)==0)=false:=aK.2 b;rw [e,af];exact fin (λh=>b h.1)
theorem Qk (n:Nat) (g l:Bool) (d:aa) (x s:Int) (c:200<n) (e:d.length<=100):
  (ob (be n g l d x s) λr=>(cond (!r) (some (6:Int)) (cond (decide (s<0)) (some 6) (cond (decide (s>(IntKind.wrap .i64 (((d.length:Nat):Int)+x)))) (some 6) (some 0)))))=some (if okL d x s then 0 else 6):=by
 rw [UL n g l d x s c e];simp only [ob];by_cases h:okM d x
 ·rw [am h];have hx:=h.2.2.2.2;have w:IntKind.wrap .i64 (((d.length:Nat):Int)+x)=((d.length:Nat):Int)+x:=wrap_i64 _ (by omega) (by omega);rw [w];simp only [cZ,af,bG];by_cases b:s<0
  ·rw [ae b,ab (λq:okL d x s=>by have:=q.2.1;omega)]
  ·rw [ab b];by_cases a:s>((d.length:Nat):Int)+x
   ·rw [ae a,ab (λq:okL d x s=>by have:=q.2.2;omega)]
   ·rw [ab a,ae ⟨h,by omega,by omega⟩]
 ·rw [ar h,ab (λq:okL d x s=>h q.1)];rfl
theorem BN (n:Nat) (g l:Bool) (d:aa) (x s:Int) (A:200<n) (z:d.length<=100):cL n g l d x s=some (if okY g l d x s then 0 else 6):=by
 obtain ⟨y,v,hy⟩:=SN n d (by omega) (by omega);unfold cL;rw [Jl n d (by omega) (by omega),v,tV];cases l with
 | true=>
  have b:(if okY g true d x s then (0:Int) else 6)=if okL d x s then 0 else 6:=by simp only [okY,aO]
  rw [b];have st:=Qk n g true d x s A z;simp only [ah];generalize (ob (be n g true d x s) λr=>(cond (!r) (some (6:Int)) (cond (decide (s<0)) (some 6) (cond (decide (s>(IntKind.wrap .i64 (((d.length:Nat):Int)+x)))) (some 6) (some 0)))))=T at st ⊢;simp only [ob];rw [st];cases (((d.length:Nat):Int)==4)<;>cases (d.all λc=>bf c||c==88)<;>cases (x==0)<;>cases g<;>cases (y==[])<;>cases (s != 0)<;>rfl
 | false=>
  have b:(if okY g false d x s then (0:Int) else 6)=if okS g d x s then 0 else 6:=by simp only [okY,bw,aC]
  rw [b];simp only [af,ob];by_cases f:d.length=4
  ·have k:(((d.length:Nat):Int)==4)=true:=bu.2 (by omega);rw [k,ah];cases i:(d.all λc=>bf c||c==88) with
   | false=>
    rw [ab (λq:okS g d x s=>by rw [(Hk d).2 q.2.1] at i;cases i)];rfl
   | true=>
    have e:=(Hk d).1 i;rw [ah];by_cases m:x=0
    ·subst m;have w:IntKind.wrap .i64 (((d.length:Nat):Int)+0)=4:=by rw [f];decide
     rw [w];have a:¬(g=true/\all0 d=true)->(cond (s != 0) (cond (!(!hasX d)) (some (6:Int)) (cond (decide (s<0)) (some 6) (cond (decide (s>4)) (some 6) (some 0)))) (cond (decide (s<0)) (some 6) (cond (decide (s>4)) (some 6) (some 0))))=some (if okS g d 0 s then 0 else 6):=by
      intro t;simp only [bG,wc,Bool.not_not];by_cases s0:s=0
      ·subst s0;rw [ae rfl,ab (by omega),ab (by omega),ae ⟨f,e,rfl,t,by omega,by omega,by omega⟩]
      ·rw [ab s0];cases o:hasX d with
       | true=>
        by_cases h:s<0
        ·rw [ab (λq:okS g d 0 s=>by have:=q.2.2.2.2.1;omega)];rfl
        ·rw [ab (λq:okS g d 0 s=>q.2.2.2.2.2.2 ⟨by omega,o⟩)];rfl
       | false=>
        rw [af];by_cases h:s<0
        ·rw [ae h,ab (λq:okS g d 0 s=>by have:=q.2.2.2.2.1;omega)]
        ·rw [ab h];by_cases u:s>4
         ·rw [ae u,ab (λq:okS g d 0 s=>by have:=q.2.2.2.2.2.1;omega)]
         ·rw [ab u,ae ⟨f,e,rfl,t,by omega,by omega,λq=>by rw [o] at q;cases q.2⟩]
     have j:((0:Int)==0)=true:=rfl;rw [j,ah];cases g with
     | false=>
      simp only [af];exact a (by simp)
     | true=>
      simp only [ah];rw [hy];cases p:all0 d with
      | true=>rw [ab (λq:okS true d 0 s=>q.2.2.2.1 ⟨rfl,p⟩)];rfl
      | false=>
       simp only [i7,ah];exact a (by rw [p];simp)
    ·have j:(x==0)=false:=aK.2 m;rw [j,ab (λq:okS g d x s=>m q.2.2.1)];rfl
  ·have k:(((d.length:Nat):Int)==4)=false:=aK.2 (by omega);rw [k,ab (λq:okS g d x s=>f q.1)];rfl
theorem TS (d:aa):cnt 48 57 d=d.length↔∀c∈d,bf c=true:=LK 48 57 d
theorem Di (n:Nat) (g l:Bool) (d:aa) (x s:Int) (M:200<n) (I:d.length<=100):cO n g l d x s=some (if okY g l d x s then 1 else 0):=by
 have hs:=LD d;have m:=HG d;have t:=PG d;have w:=TS d;unfold cO;rw [GZ n d 48 57 (by omega) (by omega),GZ n d 88 88 (by omega) (by omega),GZ n d 48 48 (by omega) (by omega)];simp only [ob];generalize N:cnt 48 57 d=A at *;generalize L:cnt 88 88 d=B at *;have w0:IntKind.wrap .i64 (((A:Nat):Int)+((B:Nat):Int))=((A+B:Nat):Int):=by rw [wrap_i64 _ (by omega) (by omega)];omega
 rw [w0];simp only [wc,bG,HH];by_cases z:A+B=d.length
 ·rw [ae (by omega)];have p:=hs.2.1 z;by_cases G:s<0
  ·rw [ae G,ab];intro q;unfold okY at q;split at q
   ·have:=q.2.1;omega
   ·have:=q.2.2.2.2.1;omega
  ·rw [ab G];cases l with
   | false=>
    have i:(if okY g false d x s then (1:Int) else 0)=if okS g d x s then 1 else 0:=by simp only [okY,bw,aC]
    rw [i,af];by_cases j:d.length=4
    ·rw [ae (by omega)];by_cases h:x=0
     ·rw [ae h];have a:¬(g=true/\all0 d=true)->(if s>4 then some (0:Int) else if s>0 then (if ((B:Nat):Int)>0 then some 0 else some 1) else some 1)=some (if okS g d x s then 1 else 0):=by
       intro E;by_cases v:s>4
       ·rw [ae v,ab (λq:okS g d x s=>by have:=q.2.2.2.2.2.1;omega)]
       ·rw [ab v];by_cases D:s>0
        ·rw [ae D];by_cases u:((B:Nat):Int)>0
         ·rw [ae u,ab (λq:okS g d x s=>q.2.2.2.2.2.2 ⟨by omega,by rw [m];exact am (by omega)⟩)]
         ·rw [ab u,ae ⟨j,p,h,E,by omega,by omega,λq=>by
           have:=q.2;rw [m,cn] at this;omega⟩]
        ·rw [ab D,ae ⟨j,p,h,E,by omega,by omega,λq=>by omega⟩]
      cases g with
      | false=>rw [af];exact a (by simp)
      | true=>
       rw [ah,ja];by_cases b:all0 d=true
       ·rw [ae (by have:=t.1 b;omega),ab (λq:okS true d x s=>q.2.2.2.1 ⟨rfl,b⟩)]
       ·rw [ab (λq=>b (t.2 (by omega)))];exact a (λq=>b q.2)
     ·rw [ab h,ab (λq:okS g d x s=>h q.2.2.1)]
    ·rw [ab (by omega),ab (λq:okS g d x s=>j q.1)]
   | true=>
    have i:(if okY g true d x s then (1:Int) else 0)=if okL d x s then 1 else 0:=by simp only [okY,aO]
    rw [i,ah];by_cases u:((B:Nat):Int)>0
    ·rw [ae u,ab];intro q;have:=w.2 q.1.1;omega
    ·rw [ab u];have f:=w.1 (by omega);by_cases j:((A:Nat):Int)<1
     ·rw [ae j,ab (λq:okL d x s=>by have:=q.1.2.1;omega)]
     ·rw [ab j];by_cases h:((A:Nat):Int)>17
      ·rw [ae h,ab (λq:okL d x s=>by have:=q.1.2.2.1;omega)]
      ·rw [ab h];obtain ⟨c,r,rfl⟩:∃c r,d=c::r:=by
        cases d with
        | nil=>simp at z;omega
        | cons c r=>exact ⟨c,r,rfl⟩
       have y:sx (c::r) 0=some c:=by simp [sx]
       simp only [y,Un,ja];by_cases b:c=48
       ·rw [ae b,ab (λq:okL (c::r) x s=>q.1.2.2.2.1 (by rw [b];rfl))]
       ·rw [ab b];by_cases C:x<0
        ·rw [ae C,ab (λq:okL (c::r) x s=>by have:=q.1.2.2.2.2.1;omega)]
        ·rw [ab C];by_cases H:x>16
         ·rw [ae H,ab (λq:okL (c::r) x s=>by have:=q.1.2.2.2.2.2.1;omega)]
         ·rw [ab H];obtain ⟨k,rfl⟩:∃k:Nat,x=(k:Int):=⟨x.toNat,by omega⟩;have J:IntKind.wrap .i64 (((A:Nat):Int)+(k:Int))=((A+k:Nat):Int):=by rw [wrap_i64 _ (by omega) (by omega)];omega
          rw [J,jw n (c::r) k f I (by omega) (by omega)];have o:(c::r).length=A:=by omega
          have a:¬((k:Int)=0/\(c::r).length<5)->(if s>((A+k:Nat):Int) then some (0:Int) else some (if dval 0 (c::r)*10 ^ k<=E16 then (((dval 0 (c::r)*10 ^ k:Nat):Int),(1:Int)) else (0,0)).2)=some (if okL (c::r) (k:Int) s then 1 else 0):=by
           intro K;by_cases v:s>((A+k:Nat):Int)
           ·rw [ae v,ab (λq:okL (c::r) (k:Int) s=>by have:=q.2.2;rw [o] at this;omega)]
           ·rw [ab v];by_cases e:dval 0 (c::r)*10 ^ k<=E16
            ·rw [ae e,ae ⟨⟨f,by omega,by omega,by simpa using b,by omega,by omega,K,by simpa using e⟩,by omega,by omega⟩]
            ·rw [ab e,ab (λq:okL (c::r) (k:Int) s=>e (by simpa using q.1.2.2.2.2.2.2.2))]
          by_cases e:(k:Int)=0
          ·rw [ae e];by_cases F:((A:Nat):Int)<5
           ·rw [ae F,ab (λq:okL (c::r) (k:Int) s=>q.1.2.2.2.2.2.2.1 ⟨e,by omega⟩)]
           ·rw [ab F];exact a (λq=>by omega)
          ·rw [ab e];exact a (λq=>e q.1)
 ·rw [ab (by omega),ab];intro q;apply z;rw [hs.2];unfold okY at q;split at q
  ·exact λc hc=>.inl (q.1.1 c hc)
  ·exact q.2.1
theorem Nv:∀(l:aa) (acc:Nat),acc*10 ^ l.length<=dval acc l
 | [],acc=>by rw [pN];simp
 | c::l,acc=>by
  have ih:=Nv l (vS acc c);rw [pp,aE,tA];have h:acc*10<=vS acc c:=AD _ _;have a:=oC (10 ^ l.length) h;have b:acc*(10 ^ l.length*10)=acc*10*10 ^ l.length:=by rw [vn (10 ^ l.length) 10,Gq]
  omega
theorem rE:∀(l:aa) (acc k:Nat),(∀c∈l,bf c=true)->acc<10 ^ k->dval acc l<10 ^ (l.length+k)
 | [],acc,k,_,h=>by rw [pN];simpa using h
 | c::l,acc,k,b,h=>by
  have hc:=(bX c).1 (b c (by simp));have hp:(10:Nat) ^ (k+1)=10 ^ k*10:=tA 10 k;have hs:vS acc c=acc*10+(c.toNat - 48):=rfl;have ih:=rE l (vS acc c) (k+1) (λd a=>b d (by simp [a])) (by omega);rw [pp,aE,show l.length+1+k=l.length+(k+1) by omega];exact ih
structure Num (d:aa) (k q:Nat):Prop where
 dig:∀c∈d,bf c=true
 ne:d≠[]
 wide:d.length+k<=17
 small:dval 0 d*10 ^ k<=E16
 sig:q<=d.length+k
theorem tX {d:aa} (h:∀c∈d,bf c=true):hasX d=false:=by
 unfold hasX;rw [sP];intro c hc a;rw [bu] at a;have:=(bX c).1 (h c hc);rw [a] at this;exact absurd this.2 (by decide)
theorem sW {g l:Bool} {d:aa} {x s:Int} (h:okY g l d x s) (i:hasX d=false):∃k q:Nat,x=(k:Int)/\s=(q:Int)/\Num d k q:=by
 cases l with
 | true=>
  have h:okL d x s:=by simpa [okY] using h
  obtain ⟨⟨a,f,C,m,v,A,z,w⟩,u,B⟩:=h;refine ⟨x.toNat,s.toNat,by omega,by omega,a,by intro e;subst e;simp at f,?_,w,by omega⟩;cases d with
  | nil=>simp at f
  | cons c r=>
   have hc:=(bX c).1 (a c (by simp));have n:c≠48:=by simpa using m
   have j:1<=vS 0 c:=by
    have:c.toNat≠48:=λe=>n (gG.1 e);show 1<=0*10+(c.toNat - 48);omega
   have y:=Nv r (vS 0 c);rw [<-pp] at y;have u:10 ^ r.length<=dval 0 (c::r):=by
    have:=oC (10 ^ r.length) j;omega
   have o:=oC (10 ^ x.toNat) u;rw [<-Nat.pow_add] at o;rcases aH (r.length+x.toNat) 17 with b | p
   ·simp only [aE];omega
   ·have:=UO p;omega
 | false=>
  have h:okS g d x s:=by simpa [okY] using h
  obtain ⟨a,f,C,m,v,A,z⟩:=h;have t:∀c∈d,bf c=true:=by
   intro c hc;rcases f c hc with h | h
   ·exact h
   ·exfalso;unfold hasX at i;rw [sP] at i;exact i c hc (bu.2 h)
  have b:=rE d 0 0 t (by simp);rw [a] at b;refine ⟨0,s.toNat,by omega,by omega,t,by intro e;subst e;simp at a,by omega,?_,by omega⟩;have m:(10:Nat) ^ (4+0)=10000:=by decide
  unfold E16;simp only [BX,qQ];omega
def val (d:aa) (k:Nat):Nat:=dval 0 d*10 ^ k
theorem AU (n:Nat) (g l:Bool) (d:aa) (x s:Int) (c:200<n) (e:d.length<=100):
  eO n g l d x s=some (if okY g l d x s/\hasX d=false then (if g then -((val d x.toNat:Nat):Int) else ((val d x.toNat:Nat):Int),0) else (0,6)):=by
 unfold eO;rw [BN n g l d x s c e,tV];simp only [ob];by_cases h:okY g l d x s
 ·rw [ae h];cases b:hasX d with
  | true=>rw [ab (by simp)];rfl
  | false=>
   rw [ae ⟨h,rfl⟩];obtain ⟨k,q,rfl,rfl,a⟩:=sW h b;rw [M5 n g l d k q a.dig a.ne (by have:=a.wide;omega) (by have:=a.wide;omega) (by omega),ae a.small];have hs:=a.small;unfold E16 at hs;cases g with
   | true=>
    simp only [eC,af,ah,bR,val,aO];rw [wrap_i64 _ (by omega) (by omega),zW]
   | false=>simp [val]
 ·rw [ab h,ab (λq=>h q.1)];rfl
theorem cJ {a b:aa} (h:a.length+b.length<=1000000):cat a b=some (a++b):=by
 unfold cat;rw [ae (by omega)]
theorem cut1 {l:aa} {i:Nat} {c:UInt8} (h:l[i]?=some c):List.drop i (List.take (i+1) l)=[c]:=by
 have a:=ui h;rw [rt,h,Dl (by rw [dq];omega)];rfl
theorem UG {l:aa} {i:Nat} {c:UInt8} (h:l[i]?=some c):List.take (i+1) l=List.take i l++[c]:=by
 rw [rt,h];rfl
theorem qO {g l:Bool} {d:aa} {x s:Int} (h:okY g l d x s) (a:hasX d=true):l=false/\x=0/\s=0/\d.length=4/\∀c∈d,bf c=true\/c=88:=by
 cases l with
 | true=>
  have h:okL d x s:=by simpa [okY] using h
  rw [tX h.1.1] at a;cases a
 | false=>
  have h:okS g d x s:=by simpa [okY] using h
  obtain ⟨b,f,j,m,k,n,i⟩:=h;refine ⟨rfl,j,?_,b,f⟩;have:¬0<s:=λe=>i ⟨e,a⟩;omega
theorem iY {g l:Bool} {d:aa} {x s:Int} (h:okY g l d x s):0<=x/\x<=16/\0<=s/\s<=17/\1<=d.length/\d.length<=17:=by
 cases b:hasX d with
 | true=>
  obtain ⟨rfl,rfl,rfl,f,_⟩:=qO h b;omega
 | false=>
  obtain ⟨k,q,rfl,rfl,a⟩:=sW h b;have e:=a.wide;have i:=a.sig;have j:1<=d.length:=by
   cases d with
   | nil=>exact absurd rfl a.ne
   | cons c r=>simp
  omega
theorem NA {g l:Bool} {d:aa} {x s:Int} (h:okY g l d x s):vv d x s=true:=by
 obtain ⟨a,c,i,e,b,f⟩:=iY h;unfold vv;rw [am (by omega),cT (by omega)];rfl
def numU (d:UInt8):aa->Nat⊕(Nat×Nat)
 | []=>.inr (d.toNat - 48,2)
 | e::_=>if bf e=true then .inr (10*(d.toNat - 48)+(e.toNat - 48),3) else .inr (d.toNat - 48,2)
def numT:aa->Nat⊕(Nat×Nat)
 | []=>.inl 1
 | d::r=>if 49<=d.toNat/\d.toNat<=57 then numU d r else .inl 1
def numS (letter:UInt8):aa->Nat⊕(Nat×Nat)
 | []=>.inr (0,0)
 | c::r=>if c=letter then numT r else .inr (0,0)
theorem wn (letter:UInt8):numS letter []=.inr (0,0):=rfl
theorem nY (letter c:UInt8) (r:aa):numS letter (c::r)=if c=letter then numT r else .inr (0,0):=rfl
theorem CC:numT []=.inl 1:=rfl
theorem pE (d:UInt8) (r:aa):numT (d::r)=if 49<=d.toNat/\d.toNat<=57 then numU d r else .inl 1:=rfl
theorem ud (d:UInt8):numU d []=.inr (d.toNat - 48,2):=rfl
theorem nQ (d e:UInt8) (r:aa):numU d (e::r)=if bf e=true then .inr (10*(d.toNat - 48)+(e.toNat - 48),3) else .inr (d.toNat - 48,2):=rfl
theorem zp (c:UInt8) (h:c.toNat<128):(Utf8.encode ((c.toNat:Nat):Int)).data.toList=[c]:=by
 have:=iL (λc=>(decide (128<=c.toNat))||(Utf8.encode ((c.toNat:Nat):Int)).data.toList==[c]) (by decide +kernel) c;simp only [g9,cn,bu] at this;rcases this with a | a
 ·omega
 ·exact a
theorem re {c:UInt8} (h:48<=c.toNat/\c.toNat<=57):Lib.digitVal c=some (c.toNat - 48):=by
 unfold Lib.digitVal;rw [ae h]
theorem zZ {c:UInt8} (h:48<=c.toNat/\c.toNat<=57) (r:aa):Lib.atoi (c::r)=(Lib.decNat (c::r)).map λ(m:Nat)=>(m:Int):=by
 have a:(c==45)=false:=by
  rw [aK];rintro rfl;exact absurd h.1 (by decide)
 have b:(c==43)=false:=by
  rw [aK];rintro rfl;exact absurd h.1 (by decide)
 simp only [Lib.atoi,a,b,bw,aC]
theorem Po {c:UInt8} (h:48<=c.toNat/\c.toNat<=57):Lib.atoi [c]=some ((c.toNat - 48:Nat):Int):=by
 rw [zZ h];simp only [Lib.decNat,List.isEmpty_cons,bw,aC,Lib.decFrom,re h,fa,CB,dk]
theorem IM {c e:UInt8} (h:48<=c.toNat/\c.toNat<=57) (a:48<=e.toNat/\e.toNat<=57):Lib.atoi [c,e]=some ((10*(c.toNat - 48)+(e.toNat - 48):Nat):Int):=by
 rw [zZ h];simp only [Lib.decNat,List.isEmpty_cons,bw,aC,Lib.decFrom,re h,re a,fa,CB,dk];rw [vn]
theorem Ak (c:UInt8):hasB [49,50,51,52,53,54,55,56,57] c=decide (49<=c.toNat/\c.toNat<=57):=by
 have:=iL (λc=>hasB [49,50,51,52,53,54,55,56,57] c==decide (49<=c.toNat/\c.toNat<=57)) (by decide +kernel) c;simpa using this
theorem km {p q:UInt8->Bool} (h:∀c,p c=q c):∀(k:Nat) (l:aa),bI p k l=bI q k l
 | 0,_=>by simp [bI]
 | _+1,[]=>by simp [bI]
 | k+1,c::l=>by simp only [bI,h c,km h k l]
theorem nU {S:aa} {a:Nat} {c:UInt8} {r:aa} (h:S.drop a=c::r):a<S.length/\S[a]?=some c/\S.drop (a+1)=r:=by
 have b:a<S.length:=by
  rcases aH a S.length with q | q
  ·exact q
  ·rw [jE q] at h;cases h
 have e:S[a]?=some S[a]:=bh b;have d:=cA e;rw [h] at d;injection d with h1 h2;exact ⟨b,by rw [e,h1],h2.symm⟩
theorem N5 (n:Nat) (letter:UInt8) (S:aa) (a:Nat) (h:a<=S.length) (E:S.length<100000) (C:S.length<n):
  dp n [letter] S (a:Int)=some (match numS letter (S.drop a) with | .inl k=>.inr (((a+k:Nat):Int),5,S,((a+k:Nat):Int)) | .inr (v,k)=>.inl ((v:Int),S,((a+k:Nat):Int))):=by
 unfold dp;rw [nA n [letter] S a h (by omega)];cases z:S.drop a with
 | nil=>simp [wn]
 | cons c r=>
  obtain ⟨A,D,t⟩:=nU z;rw [nY];by_cases hc:c=letter
  ·have j:List.take [letter].length (c::r)=[letter]:=by simp [hc]
   have o:a+[letter].length=a+1:=rfl;rw [ae j,o,ae hc];clear j;simp only [ob,cZ,af];rw [Cc n _ S (a+1) (by omega) (by omega),t];cases r with
   | nil=>simp [CC]
   | cons d w=>
    obtain ⟨u,y,s⟩:=nU t;rw [pE];simp only [Ak,cn];by_cases b:49<=d.toNat/\d.toNat<=57
    ·rw [ae b,ae b];simp only [];rw [vZ n _ 0 1 S (a+1+1) (by omega) (by omega) C,s];have F:=lY (hasB [48,49,50,51,52,53,54,55,56,57]) (1:Int).toNat w;rw [ab (by omega)];rw [km xW];simp only [];rw [zp d (by omega)];have g:Nat.ble ([d]:aa).length 18=true:=rfl;have p:∀e:UInt8,Nat.ble ([d,e]:aa).length 18=true:=λ_=>rfl;have m:a+1+1=a+2:=rfl;have B:a+2+1=a+3:=rfl;have x:=Po (show 48<=d.toNat/\d.toNat<=57 by omega);cases w with
     | nil=>
      have hs:bI bf (1:Int).toNat []=0:=rfl;rw [hs,ud];rw [cJ (by simp)];simp only [List.take_nil,ln,cP,g,ah,x,opt,m]
     | cons e f=>
      by_cases i:bf e=true
      ·have hs:bI bf (1:Int).toNat (e::f)=1:=by
        show bI bf (0+1) (e::f)=1;simp [bI,i]
       have l:=IM (show 48<=d.toNat/\d.toNat<=57 by omega) ((bX e).1 i);rw [hs,nQ,ae i];have q:List.take 1 (e::f)=[e]:=rfl;rw [q,cJ (by simp)];simp only [eW,dJ,p,ah,l,opt,m,B]
      ·have hs:bI bf (1:Int).toNat (e::f)=0:=by
        show bI bf (0+1) (e::f)=0;simp [bI,i]
       rw [hs,nQ,ab i];have q:List.take 0 (e::f)=[]:=rfl;rw [q,cJ (by simp)];simp only [ln,g,ah,x,opt,cP,m]
    ·rw [ab b,ab b]
  ·have e:¬List.take [letter].length (c::r)=[letter]:=by simp [hc]
   rw [ab e,ab hc];simp
theorem La (n:Nat) (letter:UInt8) (S:aa) (a:Nat) (h:a<=S.length) (H:S.length<100000):
  aj n S (a:Int) ((letter.toNat:Nat):Int)=some (match numS letter (S.drop a) with | .inl k=>(-1,((a+k:Nat):Int)) | .inr (v,k)=>((v:Int),((a+k:Nat):Int))):=by
 unfold aj;rw [lH];cases i:S.drop a with
 | nil=>
  have:S.length<=a:=by
   rcases aH a S.length with q | q
   ·rw [cA (bh q)] at i;cases i
   ·exact q
  rw [am this];simp [wn]
 | cons c r=>
  obtain ⟨E,D,l⟩:=nU i;have C:IntKind.wrap .i64 ((a:Int)+1)=((a+1:Nat):Int):=by rw [wrap_i64 _ (by omega) (by omega)];omega
  have B:IntKind.wrap .i64 (((a+1:Nat):Int)+1)=((a+2:Nat):Int):=by rw [wrap_i64 _ (by omega) (by omega)];omega
  have G:IntKind.wrap .i64 (((a+2:Nat):Int)+1)=((a+3:Nat):Int):=by rw [wrap_i64 _ (by omega) (by omega)];omega
  rw [ar (show ¬S.length<=a by omega),af,eG D];simp only [ob,C,B,G,lH,iQ];have p:(((c.toNat:Nat):Int) != ((letter.toNat:Nat):Int))=!(c==letter):=by rw [bne,n7]
  rw [p,nY];by_cases hc:c=letter
  ·have e:(!(c==letter))=false:=by rw [hc];simp
   rw [e,af,ae hc];cases r with
   | nil=>
    have:S.length<=a+1:=by
     rcases aH (a+1) S.length with q | q
     ·rw [cA (bh q)] at l;cases l
     ·exact q
    rw [am this];rfl
   | cons d F=>
    obtain ⟨u,g,b⟩:=nU l;rw [pE];rw [ar (show ¬S.length<=a+1 by omega),af,eG g];simp only [];by_cases K:d.toNat<49
    ·have o:decide (((d.toNat:Nat):Int)<49)=true:=am (by omega);rw [o,ah,ab (by omega)]
    ·have o:decide (((d.toNat:Nat):Int)<49)=false:=ar (by omega);rw [o,af];by_cases J:d.toNat>57
     ·have m:decide (((d.toNat:Nat):Int)>57)=true:=am (by omega);rw [m,ah,ab (by omega)]
     ·have m:decide (((d.toNat:Nat):Int)>57)=false:=ar (by omega);rw [m,af,ae (by omega)];have y:IntKind.wrap .i64 (IntKind.wrap .u8 (((d.toNat:Nat):Int) - 48))=((d.toNat - 48:Nat):Int):=by
       rw [ia _ (by omega) (by omega),wrap_i64 _ (by omega) (by omega)];omega
      rw [y];cases F with
      | nil=>
       have:¬a+2<S.length:=by
        intro q;rw [cA (bh (show a+1+1<S.length from q))] at b;cases b
       rw [ar this,ud];rfl
      | cons e I=>
       obtain ⟨f,j,_⟩:=nU b;rw [nQ];rw [am (show a+2<S.length from f),ah,eG j];simp only [];by_cases x:e.toNat>=48
       ·have t:decide (((e.toNat:Nat):Int)>=48)=true:=am (by omega);rw [t,ah];by_cases w:e.toNat<=57
        ·have s:decide (((e.toNat:Nat):Int)<=57)=true:=am (by omega);have z:IntKind.wrap .i64 (IntKind.wrap .u8 (((e.toNat:Nat):Int) - 48))=((e.toNat - 48:Nat):Int):=by
          rw [ia _ (by omega) (by omega),wrap_i64 _ (by omega) (by omega)];omega
         have A:IntKind.wrap .i64 (10*((d.toNat - 48:Nat):Int))=((10*(d.toNat - 48):Nat):Int):=by rw [wrap_i64 _ (by omega) (by omega)];omega
         have ws:IntKind.wrap .i64 (((10*(d.toNat - 48):Nat):Int)+((e.toNat - 48:Nat):Int))=((10*(d.toNat - 48)+(e.toNat - 48):Nat):Int):=by rw [wrap_i64 _ (by omega) (by omega)];omega
         rw [s,ah,ae ((bX e).2 ⟨x,w⟩),z,A,ws]
        ·have s:decide (((e.toNat:Nat):Int)<=57)=false:=ar (by omega);rw [s,af,ab (λq=>w ((bX e).1 q).2)]
       ·have t:decide (((e.toNat:Nat):Int)>=48)=false:=ar (by omega);rw [t,af,ab (λq=>x ((bX e).1 q).1)]
  ·have e:(!(c==letter))=true:=by rw [aK.2 hc];rfl
   rw [e,ah,ab hc];rfl
def isDX (c:UInt8):Bool:=bf c||c==88
abbrev YR:=Bool×Bool×aa×Nat×Nat×Nat
def uD (g:Bool) (o:Nat):aa->Nat⊕YR
 | []=>.inl o
 | c::r=>if 49<=c.toNat/\c.toNat<=57 then
   (match numS 69 ((c::r).drop (1+bI bf 16 r)) with
   | .inl j=>.inl (o+(1+bI bf 16 r)+j)
   | .inr (x,j)=>(match numS 83 ((c::r).drop (1+bI bf 16 r+j)) with
    | .inl i=>.inl (o+(1+bI bf 16 r)+j+i)
    | .inr (s,i)=>.inr (g,true,(c::r).take (1+bI bf 16 r),x,s,o+(1+bI bf 16 r)+j+i)))
  else .inl o
def vD (g:Bool) (o:Nat) (l:aa):Nat⊕YR:=
 if bI isDX 4 l<4 then .inl (o+bI isDX 4 l) else
  (match numS 83 (l.drop 4) with
  | .inl i=>.inl (o+4+i)
  | .inr (s,i)=>.inr (g,false,l.take 4,0,s,o+4+i))
def fq (c:UInt8) (l:aa):Nat:=if l.take 1=[c] then 1 else 0
def pU (l:aa):Nat⊕YR:=
 if fq 89 l=1 then uD (fq 45 (l.drop 1)==1) (1+fq 45 (l.drop 1)) (l.drop (1+fq 45 (l.drop 1)))
 else vD (fq 45 l==1) (fq 45 l) (l.drop (fq 45 l))
theorem lM (c:UInt8) (l:aa):fq c l=0\/fq c l=1:=by
 unfold fq;split
 ·exact .inr rfl
 ·exact .inl rfl
theorem AL (c:UInt8) (l:aa):fq c l<=l.length:=by
 unfold fq;split
 ·rename_i h;cases l with
  | nil=>simp at h
  | cons a l=>simp
 ·omega
theorem ug (n:Nat) (c:UInt8) (S:aa) (a:Nat) (h:a<=S.length) (b:S.length<100000):
  aB n [c] S (a:Int)=some (fq c (S.drop a)==1,S,((a+fq c (S.drop a):Nat):Int)):=by
 rw [nA n [c] S a h (by omega)];unfold fq;have e:[c].length=1:=rfl;rw [e];split<;>rfl
def zf (S:aa) (a:Nat):Nat⊕YR->(Int×Int×aa×Int)⊕(Bool×Bool×aa×Int×Int×aa×Int)
 | .inl k=>.inl (((a+k:Nat):Int),5,S,((a+k:Nat):Int))
 | .inr (g,l,d,x,s,k)=>.inr (g,l,d,(x:Int),(s:Int),S,((a+k:Nat):Int))
def o5 (a:Nat):Nat⊕YR->Bool×Bool×aa×Int×Int×Int×Int
 | .inl k=>(false,false,[],0,0,((a+k:Nat):Int),5)
 | .inr (g,l,d,x,s,k)=>(g,l,d,(x:Int),(s:Int),((a+k:Nat):Int),0)
theorem R9 (letter:UInt8) (l:aa):(match numS letter l with | .inl k=>k<=l.length | .inr (_,k)=>k<=l.length):=by
 cases l with
 | nil=>simp [wn]
 | cons c r=>
  rw [nY];by_cases hc:c=letter
  ·rw [ae hc];cases r with
   | nil=>simp [CC]
   | cons d f=>
    rw [pE];by_cases b:49<=d.toNat/\d.toNat<=57
    ·rw [ae b];cases f with
     | nil=>simp [ud]
     | cons e g=>
      rw [nQ];by_cases a:bf e=true
      ·rw [ae a];simp
      ·rw [ab a];simp
    ·rw [ab b];simp
  ·rw [ab hc];simp
theorem zy {letter:UInt8} {S:aa} {a:Nat} (h:a<=S.length) {v k:Nat} (b:numS letter (S.drop a)=.inr (v,k)):a+k<=S.length:=by
 have:=R9 letter (S.drop a);rw [b,bP] at this;simp only at this;omega
theorem TN (n:Nat) (S:aa) (a o:Nat) (g:Bool) (h:a+o<=S.length) (J:S.length<100000) (E:S.length<n):
  (ob (cu n [49,50,51,52,53,54,55,56,57] S ((a+o:Nat):Int)) λw=>(Sum.casesOn (motive:=λ_=>Option ((Int×Int×aa×Int)⊕(Bool×Bool×aa×Int×Int×aa×Int))) w (λd=>(some (.inl (d.1,d.2.1,d.2.2.1,d.2.2.2)))) (λq=>(ob (cg n [48,49,50,51,52,53,54,55,56,57] 0 16 q.2.1 q.2.2) λC=>(Sum.casesOn (motive:=λ_=>Option _) C (λb=>(some (.inl (b.1,b.2.1,b.2.2.1,b.2.2.2)))) (λt=>(ob (cat (Utf8.encode q.1).data.toList t.1) λv=>(ob (dp n [69] t.2.1 t.2.2) λu=>(Sum.casesOn (motive:=λ_=>Option _) u (λm=>(ob (dp n [83] m.2.1 m.2.2) λA=>(Sum.casesOn (motive:=λ_=>Option _) A (λl=>(some (.inr (g,true,v,m.1,l.1,l.2.1,l.2.2)))) (λf=>(some (.inl (f.1,f.2.1,f.2.2.1,f.2.2.2))))))) (λe=>(some (.inl (e.1,e.2.1,e.2.2.1,e.2.2.2)))))))))))))=some (zf S a (uD g o (S.drop (a+o)))):=by
 rw [Cc n _ S (a+o) h (by omega)];cases D:S.drop (a+o) with
 | nil=>simp [uD,zf,ob]
 | cons c r=>
  obtain ⟨O,R,H⟩:=nU D;simp only [Ak,cn];by_cases hc:49<=c.toNat/\c.toNat<=57
  ·rw [ae hc];simp only [ob];rw [vZ n _ 0 16 S (a+o+1) (by omega) (by omega) E,H];rw [ab (by omega),km xW];simp only [];rw [zp c (by omega)];have G:(16:Int).toNat=16:=rfl;rw [G];have P:=lY bf 16 r;have L:r.length+(a+o+1)=S.length:=by
    have:=cK List.length H;rw [bP] at this;omega
   rw [cJ (by simp only [aE,bH,dq];omega)];simp only [uD];rw [ae hc];generalize T:bI bf 16 r=k at P ⊢;have N:[c]++List.take k r=List.take (1+k) (c::r):=by rw [qb];rfl
   rw [N];have z:a+o+1+k<=S.length:=by omega
   have y:List.drop (1+k) (c::r)=S.drop (a+o+1+k):=by
    rw [<-D,jg];congr 1;omega
   rw [N5 n 69 S (a+o+1+k) z J E,<-y];cases Q:numS 69 (List.drop (1+k) (c::r)) with
   | inl j=>
    simp only [zf];have:a+o+1+k+j=a+(o+(1+k)+j):=by omega
    rw [this]
   | inr p=>
    obtain ⟨x,j⟩:=p;have I:=Q;rw [y] at I;have F:=zy z I;have B:List.drop (1+k+j) (c::r)=S.drop (a+o+1+k+j):=by
     rw [<-D,jg];congr 1;omega
    simp only [];rw [N5 n 83 S (a+o+1+k+j) F J E,<-B];cases K:numS 83 (List.drop (1+k+j) (c::r)) with
    | inl i=>
     simp only [zf];have:a+o+1+k+j+i=a+(o+(1+k)+j+i):=by omega
     rw [this]
    | inr M=>
     obtain ⟨s,i⟩:=M;simp only [zf];have:a+o+1+k+j+i=a+(o+(1+k)+j+i):=by omega
     rw [this]
  ·rw [ab hc];simp only [ob,uD];rw [ab hc];rfl
theorem Qh (n:Nat) (S:aa) (a o:Nat) (g:Bool) (h:a+o<=S.length) (y:S.length<100000) (u:S.length<n):
  (ob (cg n [88,48,49,50,51,52,53,54,55,56,57] 4 4 S ((a+o:Nat):Int)) λm=>(Sum.casesOn (motive:=λ_=>Option ((Int×Int×aa×Int)⊕(Bool×Bool×aa×Int×Int×aa×Int))) m (λd=>(some (.inl (d.1,d.2.1,d.2.2.1,d.2.2.2)))) (λf=>(ob (dp n [83] f.2.1 f.2.2) λj=>(Sum.casesOn (motive:=λ_=>Option _) j (λe=>(some (.inr (g,false,f.1,0,e.1,e.2.1,e.2.2)))) (λb=>(some (.inl (b.1,b.2.1,b.2.2.1,b.2.2.2)))))))))=some (zf S a (vD g o (S.drop (a+o)))):=by
 rw [vZ n _ 4 4 S (a+o) h (by omega) u];have r:∀c,hasB [88,48,49,50,51,52,53,54,55,56,57] c=isDX c:=uZ;have x:(4:Int).toNat=4:=rfl;rw [km r,x];unfold vD;have v:=lY isDX 4 (S.drop (a+o));rw [bP] at v;by_cases q:bI isDX 4 (S.drop (a+o))<4
 ·rw [ae (by omega),ae q];simp only [ob,zf];rw [ib]
 ·rw [ab (by omega),ab q];have t:∀(k:Nat) (l:aa),bI isDX k l<=k:=by
   intro k
   induction k with
   | zero=>intro l;simp [bI]
   | succ k ih=>
    intro l;cases l with
    | nil=>simp [bI]
    | cons c l=>
     have:=ih l;simp only [bI];split<;>omega
  have w:bI isDX 4 (S.drop (a+o))=4:=by have:=t 4 (S.drop (a+o));omega
  rw [w] at v ⊢;simp only [ob];have hp:a+o+4<=S.length:=by omega
  rw [N5 n 83 S (a+o+4) hp y u,jg];cases z:numS 83 (S.drop (a+o+4)) with
  | inl i=>
   simp only [zf];have:a+o+4+i=a+(o+4+i):=by omega
   rw [this]
  | inr p=>
   obtain ⟨s,i⟩:=p;simp only [zf];have:a+o+4+i=a+(o+4+i):=by omega
   rw [this];rfl
theorem SX (n:Nat) (S:aa) (a:Nat) (h:a<=S.length) (d:S.length<100000) (f:S.length<n):
  lW n S (a:Int)=some (zf S a (pU (S.drop a))):=by
 unfold lW;rw [ug n 89 S a h d];have c:=AL 89 (S.drop a);rw [bP] at c;simp only [ob];rw [ug n 45 S (a+fq 89 (S.drop a)) (by omega) d];have b:=AL 45 (S.drop (a+fq 89 (S.drop a)));rw [bP] at b;simp only [];unfold pU;rcases lM 89 (S.drop a) with e | e
 ·rw [e] at b ⊢;simp only [cP,show ((0:Nat)==1)=false from rfl,af,show ¬((0:Nat)=1) from by decide,aC,jg] at b ⊢;have:=Qh n S a (fq 45 (S.drop a)) (fq 45 (S.drop a)==1) (by omega) d f;exact this
 ·rw [e] at b ⊢;simp only [show ((1:Nat)==1)=true from rfl,ah,aO,jg] at b ⊢;have:=TN n S a (1+fq 45 (S.drop (a+1))) (fq 45 (S.drop (a+1))==1) (by omega) d f;rw [<-ib] at this;rw [<-ib];exact this
abbrev stR (S:aa) (a b M:Int) (g L:Bool):aa×Int×Int×Int×Bool×Bool×aa×Int×Int×Bool×Bool×aa×Int×Int:=(S,a,b,M,false,false,[],0,0,g,L,[],0,0)
def isYB (L:Bool) (c:UInt8):Bool:=bf c||(c==88&&!L)
theorem Ot (n:Nat) (S:aa) (b M:Nat) (g:Bool) (j:0<M) (k:S.length<100000) (a:S[b]?=some 48):au (ay (n+1)) (n+1) (stR S (b:Int) (b:Int) (M:Int) g true)=some (.inl ((b:Int),5,false,false,[],0,0)):=by
 have h:=ui a;have c:decide ((b:Int)<((S.length:Nat):Int))=true:=am (by omega);have e:IntKind.wrap .i64 ((b:Int) - (b:Int))=0:=by rw [Int.sub_self];rfl
 have d2:decide ((0:Int)<(M:Int))=true:=am (by omega);have d:decide ((((48:UInt8).toNat:Nat):Int)>=48)=true:=rfl;have i:decide ((((48:UInt8).toNat:Nat):Int)<=57)=true:=rfl;have f:((((48:UInt8).toNat:Nat):Int)==48)=true:=rfl;simp only [au,ay,c,ah,e,d2,eG a,ob,d,i,f,uG]
theorem BZ (n:Nat) (S:aa) (b M:Nat) (g L:Bool) (N:b<=S.length) (Q:S.length<100000) (O:S.length<n) (u:¬(L=true/\S[b]?=some 48)):
  au (ay n) n (stR S (b:Int) (b:Int) (M:Int) g L)=some (.inr (S,((b+bI (isYB L) M (S.drop b):Nat):Int),(b:Int),false,false,[],0,0,g,L,[],0,0)):=by
 have:=fP (step:=ay n) (λx=>∃j:Nat,b+j<=S.length/\x=stR S ((b+j:Nat):Int) (b:Int) (M:Int) g L) (λx=>S.length - x.2.1.toNat)
  (λx=>.inr (S,((x.2.1.toNat+bI (isYB L) (M - (x.2.1.toNat - b)) (S.drop x.2.1.toNat):Nat):Int),(b:Int),false,false,[],0,0,g,L,[],0,0)) ?_ n (stR S (b:Int) (b:Int) (M:Int) g L) ⟨0,by omega,rfl⟩ (by simp;omega)
 ·rw [this];simp
 rintro x ⟨j,K,rfl⟩;simp only [bR];rcases aH (b+j) S.length with w | t
 ·obtain ⟨c,hc⟩:∃c,S[b+j]?=some c:=⟨S[b+j],bh w⟩;have d:decide (((b+j:Nat):Int)<((S.length:Nat):Int))=true:=am (by omega);have m:IntKind.wrap .i64 (((b+j:Nat):Int) - (b:Int))=(j:Int):=by rw [wrap_i64 _ (by omega) (by omega)];omega
  have B:IntKind.wrap .i64 (((b+j:Nat):Int)+1)=((b+(j+1):Nat):Int):=by rw [wrap_i64 _ (by omega) (by omega)];omega
  have i:b+j - b=j:=by omega
  rw [cA hc,i];by_cases P:j<M
  ·have d2:decide ((j:Int)<(M:Int))=true:=am (by omega);obtain ⟨q,F⟩:∃q,M - j=q+1:=⟨M - j - 1,by omega⟩;have s:M - (j+1)=q:=by omega
   rw [F];simp only [bI];have E:isYB L c=true->ay n (stR S ((b+j:Nat):Int) (b:Int) (M:Int) g L)=some (.inl (stR S ((b+(j+1):Nat):Int) (b:Int) (M:Int) g L)):=by
    intro hy;by_cases r:bf c=true
    ·have I:=(bX c).1 r;have f:decide (((c.toNat:Nat):Int)>=48)=true:=am (by omega);have k:decide (((c.toNat:Nat):Int)<=57)=true:=am (by omega);simp only [ay,d,ah,m,d2,eG hc,ob,f,k,B];cases L with
     | false=>rfl
     | true=>
      by_cases A:j=0
      ·subst A;have o:c≠48:=by
        intro e;exact u ⟨rfl,by rw [<-e];exact hc⟩
       have z:(((c.toNat:Nat):Int)==48)=false:=by rw [Un];exact aK.2 o
       simp only [cP,uG,ah,z,af]
      ·have H:(((b+j:Nat):Int)==(b:Int))=false:=aK.2 (by omega);simp only [H,af,ah]
    ·have a:bf c=false:=by cases h:bf c with | false=>rfl | true=>exact absurd h r
     unfold isYB at hy;rw [a] at hy;simp only [oP,aA,bu,kQ] at hy;obtain ⟨rfl,rfl⟩:=hy;have f:decide ((((88:UInt8).toNat:Nat):Int)>=48)=true:=rfl;have k:decide ((((88:UInt8).toNat:Nat):Int)<=57)=false:=rfl;have z:((((88:UInt8).toNat:Nat):Int)==88)=true:=rfl;simp only [ay,d,ah,m,d2,eG hc,ob,f,k,z,B,af,i7]
   have l:isYB L c=false->ay n (stR S ((b+j:Nat):Int) (b:Int) (M:Int) g L)=some (.inr (.inr (S,((b+j:Nat):Int),(b:Int),false,false,[],0,0,g,L,[],0,0))):=by
    intro hy;unfold isYB at hy;simp only [pi,ES] at hy;obtain ⟨a,v⟩:=hy;have D:¬(48<=c.toNat/\c.toNat<=57):=λq=>by rw [(bX c).2 q] at a;cases a
    have p:(((c.toNat:Nat):Int)==88)=(c==88):=n7 c 88;have fin:(cond (c==88) (cond (!L) (0:Nat) 1) 1)=1:=by
     rcases v with h | h
     ·rw [h];rfl
     ·have:L=true:=by simpa using h
      rw [this];cases c==88<;>rfl
    by_cases J:c.toNat>=48
    ·have f:decide (((c.toNat:Nat):Int)>=48)=true:=am (by omega);have k:decide (((c.toNat:Nat):Int)<=57)=false:=ar (by omega);simp only [ay,d,ah,m,d2,eG hc,ob,f,k,af,p];rcases v with h | h
     ·rw [h];rfl
     ·have:L=true:=by simpa using h
      rw [this];cases c==88<;>rfl
    ·have f:decide (((c.toNat:Nat):Int)>=48)=false:=ar (by omega);simp only [ay,d,ah,m,d2,eG hc,ob,f,af,p];rcases v with h | h
     ·rw [h];rfl
     ·have:L=true:=by simpa using h
      rw [this];cases c==88<;>rfl
   cases hy:isYB L c with
   | true=>
    refine .inl ⟨_,E hy,⟨j+1,by omega,rfl⟩,by simp only [bR];omega,?_⟩;simp only [bR,aO];have G:b+(j+1) - b=j+1:=by omega
    rw [G,s,show b+(j+1)=b+j+1 by omega];have C:b+j+1+bI (isYB L) q (S.drop (b+j+1))=b+j+(bI (isYB L) q (S.drop (b+j+1))+1):=by omega
    rw [C]
   | false=>
    refine .inr ?_;rw [l hy];simp
  ·have d2:decide ((j:Int)<(M:Int))=false:=ar (by omega);have y:M - j=0:=by omega
   refine .inr ?_;rw [y];simp only [ay,d,ah,m,d2,af,bI,cP]
 ·have d:decide (((b+j:Nat):Int)<((S.length:Nat):Int))=false:=ar (by omega);refine .inr ?_;rw [jE t];have y:∀q,bI (isYB L) q []=0:=λq=>by cases q<;>rfl
  simp only [ay,d,af,y,cP]
theorem KR (n:Nat) (S:aa) (a:Nat) (h:a<=S.length) (b:S.length<100000):
  aj n S (a:Int) 69=some (match numS 69 (S.drop a) with | .inl k=>(-1,((a+k:Nat):Int)) | .inr (v,k)=>((v:Int),((a+k:Nat):Int))):=La n 69 S a h b
theorem Ec (n:Nat) (S:aa) (a:Nat) (h:a<=S.length) (b:S.length<100000):
  aj n S (a:Int) 83=some (match numS 83 (S.drop a) with | .inl k=>(-1,((a+k:Nat):Int)) | .inr (v,k)=>((v:Int),((a+k:Nat):Int))):=La n 83 S a h b
noncomputable def JY (n:Nat) (a0:aa) (B M:Int) (g L:Bool):Option (Bool×Bool×aa×Int×Int×Int×Int):=
 (ob (au (ay n) n (a0,B,B,M,false,false,[],0,0,g,L,[],0,0)) λo=>(Sum.casesOn (motive:=λ_=>Option (Bool×Bool×aa×Int×Int×Int×Int)) o (λb=>(some (b.2.2.1,b.2.2.2.1,b.2.2.2.2.1,b.2.2.2.2.2.1,b.2.2.2.2.2.2,b.1,b.2.1))) (λa=>(cond (decide ((IntKind.wrap .i64 (a.2.1 - a.2.2.1))<1)) (some (false,false,[],0,0,a.2.1,5)) (cond (!a.2.2.2.2.2.2.2.2.2.1) (cond (decide ((IntKind.wrap .i64 (a.2.1 - a.2.2.1))<4)) (some (false,false,[],0,0,a.2.1,5)) (ob (bx (List.length a.1) a.2.1) λj=>(ob (bx j a.2.2.1) λl=>(cond a.2.2.2.2.2.2.2.2.2.1 (ob (aj n a.1 a.2.1 69) λf=>(cond (decide (f.1<0)) (some (false,false,[],0,0,f.2,5)) (ob (aj n a.1 f.2 83) λe=>(cond (decide (e.1<0)) (some (false,false,[],0,0,e.2,5)) (some (a.2.2.2.2.2.2.2.2.1,a.2.2.2.2.2.2.2.2.2.1,(List.drop l (List.take j a.1)),f.1,e.1,e.2,0)))))) (ob (aj n a.1 a.2.1 83) λd=>(cond (decide (d.1<0)) (some (false,false,[],0,0,d.2,5)) (some (a.2.2.2.2.2.2.2.2.1,a.2.2.2.2.2.2.2.2.2.1,(List.drop l (List.take j a.1)),a.2.2.2.2.2.2.2.2.2.2.2.1,d.1,d.2,0)))))))) (ob (bx (List.length a.1) a.2.1) λk=>(ob (bx k a.2.2.1) λm=>(cond a.2.2.2.2.2.2.2.2.2.1 (ob (aj n a.1 a.2.1 69) λc=>(cond (decide (c.1<0)) (some (false,false,[],0,0,c.2,5)) (ob (aj n a.1 c.2 83) λi=>(cond (decide (i.1<0)) (some (false,false,[],0,0,i.2,5)) (some (a.2.2.2.2.2.2.2.2.1,a.2.2.2.2.2.2.2.2.2.1,(List.drop m (List.take k a.1)),c.1,i.1,i.2,0)))))) (ob (aj n a.1 a.2.1 83) λh=>(cond (decide (h.1<0)) (some (false,false,[],0,0,h.2,5)) (some (a.2.2.2.2.2.2.2.2.1,a.2.2.2.2.2.2.2.2.2.1,(List.drop m (List.take k a.1)),a.2.2.2.2.2.2.2.2.2.2.2.1,h.1,h.2,0))))))))))))
theorem Nx (c:UInt8):isYB true c=bf c:=by unfold isYB;cases bf c<;>simp
theorem Jz (c:UInt8):isYB false c=isDX c:=by unfold isYB isDX;simp
theorem rz (p:UInt8->Bool):∀(k:Nat) (l:aa),bI p k l<=k
 | 0,l=>by simp [bI]
 | k+1,[]=>by simp [bI]
 | k+1,c::l=>by
  have:=rz p k l;simp only [bI];split<;>omega
theorem E8:decide ((-1:Int)<0)=true:=rfl
theorem F9 (x:Nat):decide (((x:Nat):Int)<0)=false:=ar (by omega)
theorem LN (n:Nat) (S:aa) (a o:Nat) (g:Bool) (h:a+o<=S.length) (B:S.length<100000) (H:S.length<n):
  JY n S ((a+o:Nat):Int) 17 g true=some (o5 a (uD g o (S.drop (a+o)))):=by
 unfold JY;cases d:S.drop (a+o) with
 | nil=>
  have t:¬(true=true/\S[a+o]?=some 48):=by
   rintro ⟨_,q⟩;rw [cA q] at d;cases d
  have l:=BZ n S (a+o) 17 g true h B H t;rw [d] at l;have O:bI (isYB true) 17 []=0:=rfl;rw [O,cP] at l;have hl':au (ay n) n (S,((a+o:Nat):Int),((a+o:Nat):Int),(17:Int),false,false,[],0,0,g,true,[],0,0)=_:=l;rw [hl'];have w:IntKind.wrap .i64 (((a+o:Nat):Int) - ((a+o:Nat):Int))=0:=by rw [Int.sub_self];rfl
  simp only [ob,w,uD,o5];rfl
 | cons c r=>
  obtain ⟨N,F,R⟩:=nU d;by_cases hc:c=48
  ·subst hc;obtain ⟨C,rfl⟩:∃q,n=q+1:=⟨n - 1,by omega⟩;have l:=Ot C S (a+o) 17 g (by omega) B F;have hl':au (ay (C+1)) (C+1) (S,((a+o:Nat):Int),((a+o:Nat):Int),(17:Int),false,false,[],0,0,g,true,[],0,0)=_:=l;rw [hl'];have u:¬(49<=(48:UInt8).toNat/\(48:UInt8).toNat<=57):=by decide
   simp only [ob,uD,o5];rw [ab u]
  ·have u:¬(true=true/\S[a+o]?=some 48):=by
    rintro ⟨_,q⟩;rw [F] at q;exact hc (by simpa using q)
   have l:=BZ n S (a+o) 17 g true h B H u;rw [d,km Nx] at l;have G:=lY bf 17 (c::r);have L:(c::r).length+(a+o)=S.length:=by
    have:=cK List.length d;rw [bP] at this;omega
   have hl':au (ay n) n (S,((a+o:Nat):Int),((a+o:Nat):Int),(17:Int),false,false,[],0,0,g,true,[],0,0)=_:=l;rw [hl'];have w:∀k:Nat,k<=17->IntKind.wrap .i64 (((a+o+k:Nat):Int) - ((a+o:Nat):Int))=(k:Int):=by
    intro k I;rw [wrap_i64 _ (by omega) (by omega)];omega
   by_cases f:bf c=true
   ·have Q:=(bX c).1 f;have m:49<=c.toNat/\c.toNat<=57:=by
     have:c.toNat≠48:=λe=>hc (gG.1 e);omega
    have b:bI bf 17 (c::r)=1+bI bf 16 r:=by
     show bI bf (16+1) (c::r)=_;simp only [bI,f,aO];omega
    rw [b] at G ⊢;have A:=rz bf 16 r;simp only [uD];rw [ae m];generalize bI bf 16 r=k at G A ⊢;have J:decide (((1+k:Nat):Int)<1)=false:=ar (by omega);simp only [ob,w (1+k) (by omega),J,af,cZ,ah,cM (show a+o+(1+k)<=S.length by omega),cM (show a+o<=a+o+(1+k) by omega)];have y:a+o+(1+k)<=S.length:=by omega
    have v:S.drop (a+o+(1+k))=List.drop (1+k) (c::r):=by rw [<-d,jg]
    rw [KR n S (a+o+(1+k)) y B,v,ql,d];cases P:numS 69 (List.drop (1+k) (c::r)) with
    | inl j=>
     simp only [E8,ah,o5];have:a+o+(1+k)+j=a+(o+(1+k)+j):=by omega
     rw [this]
    | inr p=>
     obtain ⟨x,j⟩:=p;have E:=P;rw [<-v] at E;have D:=zy y E;have z:S.drop (a+o+(1+k)+j)=List.drop (1+k+j) (c::r):=by rw [<-d,jg];congr 1;omega
     simp only [F9,af];rw [Ec n S (a+o+(1+k)+j) D B,z];cases K:numS 83 (List.drop (1+k+j) (c::r)) with
     | inl i=>
      simp only [E8,ah,o5];have:a+o+(1+k)+j+i=a+(o+(1+k)+j+i):=by omega
      rw [this]
     | inr M=>
      obtain ⟨s,i⟩:=M;simp only [F9,af,o5];have:a+o+(1+k)+j+i=a+(o+(1+k)+j+i):=by omega
      rw [this]
   ·have b:bI bf 17 (c::r)=0:=by
     show bI bf (16+1) (c::r)=0;simp only [bI];rw [ab f]
    have m:¬(49<=c.toNat/\c.toNat<=57):=λq=>f ((bX c).2 (by omega));rw [b];simp only [uD];rw [ab m];simp only [ob,w 0 (by omega),o5];rfl
theorem Jo (n:Nat) (S:aa) (a o:Nat) (g:Bool) (h:a+o<=S.length) (l:S.length<100000) (r:S.length<n):
  JY n S ((a+o:Nat):Int) 4 g false=some (o5 a (vD g o (S.drop (a+o)))):=by
 unfold JY;have f:=BZ n S (a+o) 4 g false h l r (by rintro ⟨q,_⟩;cases q);rw [km Jz] at f;have m:=lY isDX 4 (S.drop (a+o));have b:=rz isDX 4 (S.drop (a+o));rw [bP] at m;have hl':au (ay n) n (S,((a+o:Nat):Int),((a+o:Nat):Int),(4:Int),false,false,[],0,0,g,false,[],0,0)=_:=f;rw [hl'];unfold vD;generalize t:bI isDX 4 (S.drop (a+o))=k at m b ⊢;have w:IntKind.wrap .i64 (((a+o+k:Nat):Int) - ((a+o:Nat):Int))=(k:Int):=by rw [wrap_i64 _ (by omega) (by omega)];omega
 simp only [ob,w,i7,ah,af];by_cases j:k<4
 ·rw [ae j];have d:decide ((k:Int)<4)=true:=am (by omega);rw [d];have c:a+o+k=a+(o+k):=by omega
  simp only [ah,o5,c];cases decide ((k:Int)<1)<;>rfl
 ·rw [ab j];have e:k=4:=by omega
  subst e;have d:decide (((4:Nat):Int)<4)=false:=rfl;have c:decide (((4:Nat):Int)<1)=false:=rfl;have hp:a+o+4<=S.length:=by omega
  simp only [d,c,af,cM hp,cM (show a+o<=a+o+4 by omega)];rw [Ec n S (a+o+4) hp l,ql,jg];cases u:numS 83 (S.drop (a+o+4)) with
  | inl i=>
   simp only [E8,ah,o5];have:a+o+4+i=a+(o+4+i):=by omega
   rw [this]
  | inr p=>
   obtain ⟨s,i⟩:=p;simp only [F9,af,o5];have:a+o+4+i=a+(o+4+i):=by omega
   rw [this];rfl
theorem kn (c a:UInt8) (l:aa):fq c (a::l)=if a=c then 1 else 0:=by
 unfold fq;simp
theorem wR (c:UInt8):fq c []=0:=by unfold fq;simp
theorem OX (n:Nat) (S:aa) (a:Nat) (h:a<=S.length) (F:S.length<100000) (E:S.length<n):
  kL n S (a:Int)=some (o5 a (pU (S.drop a))):=by
 have A:=λo g q=>LN n S a o g q F E;have B:=λo g q=>Jo n S a o g q F E;unfold JY at A B;have H:IntKind.wrap .i64 ((a:Int)+1)=((a+1:Nat):Int):=by rw [wrap_i64 _ (by omega) (by omega)];omega
 have G:IntKind.wrap .i64 (((a+1:Nat):Int)+1)=((a+2:Nat):Int):=by rw [wrap_i64 _ (by omega) (by omega)];omega
 unfold kL pU;rw [H,G];have w:=B 0 false (by omega);simp only [cP] at w;cases l:S.drop a with
 | nil=>
  have j:¬a<S.length:=by
   intro q;rw [cA (bh q)] at l;cases l
  rw [iQ,ar j,af,af,w,l];rfl
 | cons c r=>
  obtain ⟨C,I,i⟩:=nU l;have s:(((c.toNat:Nat):Int)==89)=(c==89):=n7 c 89;have u:(((c.toNat:Nat):Int)==45)=(c==45):=n7 c 45;rw [iQ,am C,ah,eG I];simp only [ob];rw [s,u,kn];by_cases f:c=89
  ·have e:(c==89)=true:=bu.2 f;rw [e,ah,ae f,ae rfl,iQ];have z:List.drop 1 (c::r)=r:=rfl;rw [z];have x:=A 1 false (by omega);cases t:r with
   | nil=>
    rw [t] at i;have j:¬a+1<S.length:=by
     intro q;rw [cA (bh q)] at i;cases i
    simp only [ob] at x;rw [ar j,af,x,i,wR];rfl
   | cons d J=>
    rw [t] at i;obtain ⟨m,y,D⟩:=nU i;have v:(((d.toNat:Nat):Int)==45)=(d==45):=n7 d 45;rw [am m,ah,eG y];simp only [];rw [v,kn];by_cases b:d=45
    ·have k:(d==45)=true:=bu.2 b;have p:=A 2 true (by omega);simp only [ob] at p;rw [k,ah,ae b,p];rw [show a+2=a+1+1 from rfl,D];rfl
    ·have k:(d==45)=false:=aK.2 b;simp only [ob] at x;rw [k,af,ab b,x,i];rfl
  ·have e:(c==89)=false:=aK.2 f;rw [e,af,ab f,ab (by decide),kn];by_cases b:c=45
   ·have k:(c==45)=true:=bu.2 b;have p:=B 1 true (by omega);simp only [ob] at p;rw [k,ae b];simp only [ah];rw [p,i];rfl
   ·have k:(c==45)=false:=aK.2 b;simp only [ob] at w;rw [k,ab b];simp only [af];rw [w,l];rfl
def wint (c:Int):Bool:=c==24||c==28||c==30
def sB (g:Bool) (d:aa) (x:Int):Bool:=!hasX d&&!g&&decide (val d x.toNat=E16)
def yrB (g:Bool) (d:aa) (x s:Int) (m:aa):Bool:=!(decide (0<s)&&!(m==[]))&&!(wint (sea m)&&sB g d x)
theorem EU (n:Nat) (p:200<n) (g l:Bool) (dg:aa) (x q:Int) (m d:aa) (k0 k1 k2:Int) (C:m.length<=18) (s:dg.length<=100):
  fQ n g l dg x q m d k0 k1 k2=some (if okY g l dg x q then yrB g dg x q m else false):=by
 unfold fQ;rw [BN n g l dg x q p s,pF n g l dg x q m d k0 k1 k2 C,tV,AU n g l dg x q p s];by_cases h:okY g l dg x q
 rotate_left
 ·rw [ab h,ab h];rfl
 rw [ae h,ae h];have body:(ob (some (sea m,decide (0<sea m))) λr=>(cond (!r.2) (some true) (ob (some (hasX dg)) λA=>(cond A (some true) (ob (some (if okY g l dg x q/\hasX dg=false then (if g then -((val dg x.toNat:Nat):Int) else ((val dg x.toNat:Nat):Int),(0:Int)) else (0,6))) λy=>(ob (il n y.1 r.1) λD=>(some (D.2.2.2.2==0))))))))=some (!(wint (sea m)&&sB g dg x)):=by
  rcases pH m with E | ⟨j,t,rfl⟩
  ·rw [E];rfl
  ·have hs:=lE t;rw [hs];have hp:decide (0<((21+j:Nat):Int))=true:=by simp;omega
   rw [hp];cases o:hasX dg with
   | true=>
    have:sB g dg x=false:=by unfold sB;rw [o];rfl
    rw [this,xq];rfl
   | false=>
    rw [ae ⟨h,rfl⟩];obtain ⟨k,G,rfl,rfl,F⟩:=sW h o;have w:val dg k<=E16:=F.small;unfold E16 at w;have hc:dW (if g then -((val dg k:Nat):Int) else ((val dg k:Nat):Int)):=by
     unfold dW;cases g<;>simp<;>omega
    obtain ⟨a,b,c,e,v⟩:=Wb n (by omega) hc t;simp only [ob,cZ,af,bR];rw [v];simp only [av];have u:wint ((21+j:Nat):Int)=decide (j=3\/j=7\/j=9):=by
     unfold wint;rw [uy];simp only [g9,bu,cn];omega
    have B:sB g dg (k:Int)=decide ((if g then -((val dg k:Nat):Int) else ((val dg k:Nat):Int))=10000000000000000):=by
     unfold sB E16;rw [o,bR];cases g
     ·simp only [i7,mN,bw,aC,mI];omega
     ·simp;omega
    rw [u,B];by_cases f:(if g then -((val dg k:Nat):Int) else ((val dg k:Nat):Int))=10000000000000000<;>by_cases i:j=3\/j=7\/j=9
    ·rw [ae ⟨f,i⟩,am f,am i];rfl
    ·rw [ab (λz=>i z.2),ar i];rfl
    ·rw [ab (λz=>f z.1),ar f,xq];rfl
    ·rw [ab (λz=>f z.1),ar f,xq];rfl
 show cond (decide (q>0)) (cond (!(m==[])) (some false) _) _=_;unfold yrB;rw [show (decide (q>0))=decide (0<q) from rfl];cases decide (0<q) with
 | false=>exact body
 | true=>
  cases (m==[]) with
  | false=>rfl
  | true=>exact body
theorem Pj (n:Nat) (i:200<n) (g l:Bool) (dg:aa) (x q:Int) (m d:aa) (k0 k1 k2:Int) (j:dg.length<=100):
  jm n g l dg x q m d k0 k1 k2=some (if okY g l dg x q/\yrB g dg x q m=true then 1 else 0):=by
 unfold jm;rw [Di n g l dg x q i j,nE n (by omega) g l dg x q m d k0 k1 k2,pu n g l dg x q (by omega) (by omega)];by_cases h:okY g l dg x q
 rotate_left
 ·rw [ab h,ab (show ¬(okY g l dg x q/\yrB g dg x q m=true) from λz=>h z.1)];rfl
 rw [ae h];have T:(ob (some (if hasX dg then (1:Int) else 0)) λr=>(cond (r==1) (some (1:Int)) (ob (ak n dg x) λv=>(cond (v.1==10000000000000000) (cond (!g) (some 0) (some 1)) (some 1)))))=some (if sB g dg x then 0 else 1):=by
  cases a:hasX dg with
  | true=>
   have:sB g dg x=false:=by unfold sB;rw [a];rfl
   rw [this];rfl
  | false=>
   obtain ⟨k,p,rfl,rfl,b⟩:=sW h a;have f:=b.small;have o:=b.wide;have c:=jw n dg k b.dig (by omega) (by omega) (by omega);rw [ae f] at c;show ob (ak n dg (k:Int)) _=_;rw [c];show cond (((dval 0 dg*10 ^ k:Nat):Int)==10000000000000000) _ _=_;unfold sB val;rw [a,bR];have e:(((dval 0 dg*10 ^ k:Nat):Int)==10000000000000000)=decide (dval 0 dg*10 ^ k=E16):=by
    generalize dval 0 dg*10 ^ k=v;unfold E16;rw [uy];simp only [bu,cn];omega
   rw [e];cases decide (dval 0 dg*10 ^ k=E16)<;>cases g<;>rfl
 have body:(ob (some (sea m)) λr=>(cond (r != 24) (cond (r != 28) (cond (r != 30) (some (1:Int)) (ob (some (if hasX dg then (1:Int) else 0)) λr=>(cond (r==1) (some (1:Int)) (ob (ak n dg x) λv=>(cond (v.1==10000000000000000) (cond (!g) (some 0) (some 1)) (some 1)))))) (ob (some (if hasX dg then (1:Int) else 0)) λr=>(cond (r==1) (some (1:Int)) (ob (ak n dg x) λv=>(cond (v.1==10000000000000000) (cond (!g) (some 0) (some 1)) (some 1)))))) (ob (some (if hasX dg then (1:Int) else 0)) λr=>(cond (r==1) (some (1:Int)) (ob (ak n dg x) λv=>(cond (v.1==10000000000000000) (cond (!g) (some 0) (some 1)) (some 1)))))))=some (if (!(wint (sea m)&&sB g dg x))=true then 1 else 0):=by
  rw [T];show cond (sea m != 24) _ _=_;unfold wint;simp only [bne];cases (sea m==24)<;>cases (sea m==28)<;>cases (sea m==30)<;>cases sB g dg x<;>rfl
 unfold yrB;show cond (decide (q>0)) (cond (!(m==[])) (some 0) _) _=_;rw [show (decide (q>0))=decide (0<q) from rfl];simp only [h,jG];cases decide (0<q) with
 | false=>exact body
 | true=>
  cases (m==[]) with
  | false=>rfl
  | true=>exact body
def co (m d:aa):Nat:=1+(if m==[] then 0 else 1)+(if d==[] then 0 else 1)
theorem qu (n:Nat) (e:100<n) (g l:Bool) (dg:aa) (x q:Int) (m d:aa) (k0 k1 k2:Int):bg n g l dg x q m d k0 k1 k2=some ((co m d:Nat):Int):=by
 obtain ⟨n,rfl⟩:∃j,n=j+3:=⟨n - 3,by omega⟩;unfold bg co;have s0:∀a:Int,cb (n+3) (a,m,d,0)=some (.inl (if m==[] then a else IntKind.wrap .i64 (a+1),m,d,1)):=λa=>by
  unfold cb;show cond (!(m==[])) _ _=_;cases (m==[])<;>rfl
 have b:∀a:Int,cb (n+3) (a,m,d,1)=some (.inl (if d==[] then a else IntKind.wrap .i64 (a+1),m,d,2)):=λa=>by
  unfold cb;show cond (!(d==[])) _ _=_;cases (d==[])<;>rfl
 have c:∀a:Int,cb (n+3) (a,m,d,2)=some (.inr a):=λa=>rfl;rw [au,s0];show ob (au _ (n+2) _) _=_;rw [au,b];show ob (au _ (n+1) _) _=_;rw [au,c];cases (m==[])<;>cases (d==[])<;>rfl
theorem gF (n:Nat) (g l:Bool) (dg:aa) (x q:Int) (m d:aa) (k0 k1 k2:Int):aq n g l dg x q m d k0 k1 k2=some ((co m d:Nat):Int):=by
 unfold aq co;cases (m==[])<;>cases (d==[])<;>rfl
def allM (a b c:Int) (k:Nat):Int:=if 3<a\/3<b\/3<c\/(k<2/\b≠0)\/(k<3/\c≠0) then 9 else 0
theorem IF (n:Nat) (u:3<n) (a b c:Int) (k:Nat) (t:1<=k/\k<=3) (v:0<=a) (w:0<=b) (hc:0<=c):
  dG n [a,b,c] (k:Int)=some (allM a b c k)/\bW n [a,b,c] (k:Int)=some (allM a b c k):=by
 obtain ⟨j,rfl⟩:∃j,n=j+4:=⟨n - 4,by omega⟩;have f:IntKind.wrap .i64 1=1:=rfl;have e:IntKind.wrap .i64 2=2:=rfl;have l:IntKind.wrap .i64 3=3:=rfl;have m:ix 3 0=some 0:=rfl;have h:ix 3 1=some 1:=rfl;have i:ix 3 2=some 2:=rfl;have hk':k=1\/k=2\/k=3:=by omega
 unfold allM;by_cases g:a>3
 ·rcases hk' with rfl | rfl | rfl<;>constructor<;>simp [bW,dG,au,dC,hO,ig,ob,f,e,l,m,h,i,g]
 by_cases p:b>3
 ·rcases hk' with rfl | rfl | rfl<;>constructor<;>simp [bW,dG,au,dC,hO,ig,ob,f,e,l,m,h,i,g,p]
 by_cases d:k=1/\b≠0
 ·obtain ⟨rfl,d⟩:=d;have r:b>0:=by omega
  have q:(b != 0)=true:=by simp [d]
  constructor<;>simp [bW,dG,au,dC,hO,ig,ob,f,e,l,m,h,i,g,p,r,d,q]
 by_cases s:c>3
 ·rcases hk' with rfl | rfl | rfl<;>(try (simp at d;subst d))<;>constructor<;>simp [bW,dG,au,dC,hO,ig,ob,f,e,l,m,h,i,g,p,s]
 by_cases o:k<3/\c≠0
 ·have r:c>0:=by omega
  have q:(c != 0)=true:=by simp [o.2]
  rcases hk' with rfl | rfl | rfl<;>(try (simp at d;subst d))<;>simp at o<;>constructor<;>simp [bW,dG,au,dC,hO,ig,ob,f,e,l,m,h,i,g,p,s,r,o,q]
 rcases hk' with rfl | rfl | rfl<;>(try (simp at d;subst d))<;>(try (simp at o;subst o))<;>constructor<;>simp [bW,dG,au,dC,hO,ig,ob,f,e,l,m,h,i,g,p,s]
theorem mw (m d:aa):1<=co m d/\co m d<=3:=by
 unfold co;cases (m==[])<;>cases (d==[])<;>simp
def yrD (g l:Bool) (dg:aa) (x q:Int) (m:aa):Bool:=if okY g l dg x q then yrB g dg x q m else false
def chkD (g l:Bool) (dg:aa) (x q:Int) (m d:aa) (k0 k1 k2:Int):Int:=
 cond (!(yrD g l dg x q m)) 6 (cond (!(m==[])&&(!(decide (0<sea m))&&!(eT m 12))) 7
  (cond (!(d==[])&&((m==[])||(decide (0<sea m)||!(eT d 31)))) 8 (allM k0 k1 k2 (co m d))))
theorem Rh (m:aa):0<=sea m:=by
 rcases pH m with h | ⟨j,a,rfl⟩
 ·omega
 ·rw [lE a];omega
theorem TC (m:aa):(sea m==0)=!(decide (0<sea m)):=by
 have:=Rh m;by_cases h:sea m=0
 ·rw [h];rfl
 ·have a:0<sea m:=by omega
  rw [aK.2 h,am a];rfl
theorem AZ (n:Nat) (b:200<n) (g l:Bool) (dg:aa) (x q:Int) (m d:aa) (k0 k1 k2:Int) (a:m.length<=18) (e:dg.length<=100) (k:0<=k0) (i:0<=k1) (j:0<=k2):
  jr n g l dg x q m d k0 k1 k2=some (chkD g l dg x q m d k0 k1 k2):=by
 have hy:fQ n g l dg x q m d k0 k1 k2=some (yrD g l dg x q m):=EU n b g l dg x q m d k0 k1 k2 a e;have a1:dl n m 12=some (eT m 12):=DL n (by omega) m 12 (by omega);have a2:dl n d 31=some (eT d 31):=DL n (by omega) d 31 (by omega);have h:=(IF n (by omega) k0 k1 k2 (co m d) (mw m d) k i j).1;unfold jr chkD;rw [pF n g l dg x q m d k0 k1 k2 a,hy,a1,a2,qu n (by omega)];simp only [ob];rw [h];generalize yrD g l dg x q m=b1;generalize (m==[])=b2;generalize decide (0<sea m)=c;generalize eT m 12=o;generalize (d==[])=p;generalize eT d 31=f;cases b1<;>cases b2<;>cases c<;>cases o<;>cases p<;>cases f<;>rfl
theorem Ff (n:Nat) (a:200<n) (g l:Bool) (dg:aa) (x q:Int) (m d:aa) (k0 k1 k2:Int) (c:dg.length<=100) (k:0<=k0) (i:0<=k1) (j:0<=k2):
  ka n g l dg x q m d k0 k1 k2=some (chkD g l dg x q m d k0 k1 k2):=by
 have hy:jm n g l dg x q m d k0 k1 k2=some (if yrD g l dg x q m then 1 else 0):=by
  rw [Pj n a g l dg x q m d k0 k1 k2 c];unfold yrD;by_cases h:okY g l dg x q
  ·simp only [h,jG,aO]
  ·simp only [h,xw,aC];rfl
 have a1:dK n m 12=some (if eT m 12 then 1 else 0):=Ig n (by omega) m 12 (by omega);have a2:dK n d 31=some (if eT d 31 then 1 else 0):=Ig n (by omega) d 31 (by omega);have e:=(IF n (by omega) k0 k1 k2 (co m d) (mw m d) k i j).2;unfold ka chkD;rw [nE n (by omega) g l dg x q m d k0 k1 k2,hy,a1,a2,gF n];simp only [ob];rw [e,TC];show cond ((if yrD g l dg x q m then (1:Int) else 0)==0) _ (cond _ (cond _ (cond _ _ (cond _ (cond _ _ (cond (decide (0<sea m)) _ _)) _)) (cond _ (cond _ _ (cond (decide (0<sea m)) _ _)) _)) (cond _ (cond _ _ (cond (decide (0<sea m)) _ _)) _))=_;generalize yrD g l dg x q m=b1;generalize (m==[])=b2;generalize decide (0<sea m)=b;generalize eT m 12=o;generalize (d==[])=p;generalize eT d 31=f;cases b1<;>cases b2<;>cases b<;>cases o<;>cases p<;>cases f<;>rfl
theorem JX {g l:Bool} {dg:aa} {x q:Int} {m d:aa} {k0 k1 k2:Int} (h:chkD g l dg x q m d k0 k1 k2=0):yrD g l dg x q m=true/\(m=[]\/0<sea m\/eT m 12=true)/\(d=[]\/(m≠[]/\sea m=0/\eT d 31=true))/\allM k0 k1 k2 (co m d)=0:=by
 have hs:=Rh m;unfold chkD at h;cases b1:yrD g l dg x q m with
 | false=>rw [b1] at h;exact absurd h (by simp)
 | true=>
  rw [b1] at h;simp only [cZ,af] at h;cases b2:(!(m==[])&&(!(decide (0<sea m))&&!(eT m 12))) with
  | true=>rw [b2] at h;exact absurd h (by simp)
  | false=>
   rw [b2] at h;simp only [af] at h;cases c:(!(d==[])&&((m==[])||(decide (0<sea m)||!(eT d 31)))) with
   | true=>rw [c] at h;exact absurd h (by simp)
   | false=>
    rw [c] at h;simp only [af] at h;refine ⟨rfl,?_,?_,h⟩
    ·by_cases b:m=[]
     ·exact .inl b
     ·by_cases a:0<sea m
      ·exact .inr (.inl a)
      ·simp [b,a] at b2;exact .inr (.inr b2)
    ·by_cases b:d=[]
     ·exact .inl b
     ·by_cases a:m=[]
      ·simp [b,a] at c
      ·by_cases e:0<sea m
       ·simp [b,a,e] at c
       ·simp [b,a,e] at c;exact .inr ⟨a,by omega,c⟩
theorem rP {s:aa} {g:Nat} (m:g<=31) (h:eT s g=true):s.length=2/\∀c∈s,isDX c=true:=by
 unfold eT at h;obtain ⟨i,j,hi⟩:=sN.1 h;have e:i<g:=la.1 j;have dig:∀k:Nat,k<10->isDX (UInt8.ofNat (48+k))=true:=by decide
 have d:isDX 88=true:=by decide
 match s,hi with
 | [],hi=>simp [agr] at hi
 | [_],hi=>simp [agr] at hi
 | [a,b],hi=>
  refine ⟨rfl,?_⟩;simp only [agr,aA,g9,bu] at hi;obtain ⟨f,l⟩:=hi;intro c hc;simp only [cf,mG,nG] at hc;rcases hc with rfl | rfl
  ·rcases f with rfl | rfl
   ·exact d
   ·exact dig _ (by omega)
  ·rcases l with rfl | rfl
   ·exact d
   ·exact dig _ (by omega)
 | _::_::_::_,hi=>simp [agr] at hi
theorem K8 {m:aa} (h:0<sea m):m.length=2/\∀c∈m,isDX c=true:=by
 rcases pH m with b | ⟨j,a,rfl⟩
 ·omega
 ·refine ⟨rfl,?_⟩;have:((List.range 21).all λj=>(two (21+j)).all isDX)=true:=by decide +kernel
  have:=(cv.1 this) j (by simpa using a);exact cv.1 this
def mt (k:Nat):aa:=if k=1 then [63] else if k=2 then [126] else if k=3 then [37] else []
def mkOf (c:UInt8):Nat:=if c=63 then 1 else if c=126 then 2 else if c=37 then 3 else 0
def WP (k a b c:Nat):Bool:=(decide (k<2)||b==a)&&(decide (k<3)||c==a)
def plA (k a b c:Nat):Nat×Nat×Nat:=if WP k a b c then (0,0,0) else (a,b,c)
def plB (k a b c:Nat):Nat×Nat×Nat:=if WP k a b c then (if k=1 then (a,0,0) else if k=2 then (0,a,0) else (0,0,a)) else (0,0,0)
def l3 (p:Nat×Nat×Nat):List Int:=[(p.1:Int),(p.2.1:Int),(p.2.2:Int)]
def spM (A B:Nat×Nat×Nat):Nat×Nat×Nat:=(A.1 ||| B.1 ||| B.2.1 ||| B.2.2,A.2.1 ||| B.2.1 ||| B.2.2,A.2.2 ||| B.2.2)
theorem Du (n k:Nat) (h:k<4):su n (k:Int)=some (mt k,0)/\cG n (k:Int)=some (mt k):=by
 have:k=0\/k=1\/k=2\/k=3:=by omega
 rcases this with rfl | rfl | rfl | rfl<;>exact ⟨rfl,rfl⟩
noncomputable def Wc (m j:Nat):Bool:=
 (qk (m+300) (j:Int)==some (((mkOf (UInt8.ofNat j):Nat):Int),decide (0<mkOf (UInt8.ofNat j))))&&(dM (m+300) (j:Int)==some ((mkOf (UInt8.ofNat j):Nat):Int))
theorem PH (m:Nat):(List.range 256).all (Wc m)=true:=by kernel_rfl
theorem FZ (m:Nat) (c:UInt8):qk (m+300) ((c.toNat:Nat):Int)=some (((mkOf c:Nat):Int),decide (0<mkOf c))/\dM (m+300) ((c.toNat:Nat):Int)=some ((mkOf c:Nat):Int):=by
 have h:=(cv.1 (PH m)) c.toNat (la.2 c.toNat_lt);unfold Wc at h;rw [show UInt8.ofNat c.toNat=c by simp] at h;simp only [aA,bu] at h;exact h
noncomputable def NJ (m k a b c:Nat):Bool:=
 (qh (m+300) [(a:Int),(b:Int),(c:Int)] (k:Int)==some (l3 (plA k a b c),l3 (plB k a b c),0))&&(ke (m+300) [(a:Int),(b:Int),(c:Int)] (k:Int)==some (l3 (plA k a b c),l3 (plB k a b c)))
theorem UY (m:Nat):((List.range 4).all λa=>NJ m 1 a 0 0)=true:=by kernel_rfl
theorem WO (m:Nat):((List.range 4).all λa=>(List.range 4).all λb=>NJ m 2 a b 0)=true:=by kernel_rfl
theorem Wn (m:Nat):((List.range 4).all λa=>(List.range 4).all λb=>(List.range 4).all λc=>NJ m 3 a b c)=true:=by kernel_rfl
theorem r4 {p:Nat->Bool} (h:(List.range 4).all p=true) {a:Nat} (b:a<4):p a=true:=(cv.1 h) a (la.2 b)
theorem Vm (m k a b c:Nat) (i:1<=k/\k<=3) (d:a<4) (e:b<4) (hc:c<4) (g:k<2->b=0) (f:k<3->c=0):
  qh (m+300) [(a:Int),(b:Int),(c:Int)] (k:Int)=some (l3 (plA k a b c),l3 (plB k a b c),0)/\ke (m+300) [(a:Int),(b:Int),(c:Int)] (k:Int)=some (l3 (plA k a b c),l3 (plB k a b c)):=by
 have h:NJ m k a b c=true:=by
  have:k=1\/k=2\/k=3:=by omega
  rcases this with rfl | rfl | rfl
  ·rw [g (by omega),f (by omega)];exact r4 (UY m) d
  ·rw [f (by omega)];exact r4 (r4 (WO m) d) e
  ·exact r4 (r4 (r4 (Wn m) d) e) hc
 unfold NJ at h;simp only [aA,bu] at h;exact h
theorem UB {k a b c:Nat} (d:a<4) (e:b<4) (hc:c<4):(plA k a b c).1<4/\(plA k a b c).2.1<4/\(plA k a b c).2.2<4/\(plB k a b c).1<4/\(plB k a b c).2.1<4/\(plB k a b c).2.2<4:=by
 unfold plA plB;split
 ·split
  ·simp [d]
  ·split<;>simp [d]
 ·simp [d,e,hc]
def inM (k:Nat) (A:Nat×Nat×Nat):Prop:=A.1<4/\A.2.1<4/\A.2.2<4/\(k<2->A.2.1=0)/\(k<3->A.2.2=0)
theorem ye {k:Nat} {A:Nat×Nat×Nat} (h:inM k A):allM (A.1:Int) (A.2.1:Int) (A.2.2:Int) k=0:=by
 obtain ⟨d,a,b,e,c⟩:=h;unfold allM;rw [ab (by omega)]
theorem or4 {a b:Nat} (d:a<4) (c:b<4):bits .or .u8 (a:Int) (b:Int)=((a ||| b:Nat):Int)/\a ||| b<4:=by
 have:((List.range 4).all λa=>(List.range 4).all λb=>bits .or .u8 (a:Int) (b:Int)==((a ||| b:Nat):Int)&&decide (a ||| b<4))=true:=by decide +kernel
 have:=r4 (r4 this d) c;simpa using this
theorem yH (n:Nat) (w:9<n) (k:Nat) (A B:Nat×Nat×Nat) (s:1<=k/\k<=3) (t:inM k A) (q:inM k B):eN n (l3 A) (l3 B) (k:Int)=some (l3 (spM A B),0):=by
 obtain ⟨n,rfl⟩:∃j,n=j+5:=⟨n - 5,by omega⟩;have m:=(IF (n+5) (by omega) (A.1:Int) (A.2.1:Int) (A.2.2:Int) k s (by omega) (by omega) (by omega)).1;have p:=(IF (n+5) (by omega) (B.1:Int) (B.2.1:Int) (B.2.2:Int) k s (by omega) (by omega) (by omega)).1;rw [ye t] at m;rw [ye q] at p;have i:∀x:Nat,x<4->bits .or .u8 0 (x:Int)=(x:Int):=λx hx=>by
  have:=(or4 (show 0<4 by omega) hx).1;simpa using this
 have a:∀x y:Nat,x<4->y<4->bits .or .u8 (x:Int) (y:Int)=((x ||| y:Nat):Int):=λx y hx hy=>(or4 hx hy).1;have e:∀x y:Nat,x<4->y<4->x ||| y<4:=λx y hx hy=>(or4 hx hy).2;unfold eN;show ob (dG (n+5) [(A.1:Int),(A.2.1:Int),(A.2.2:Int)] (k:Int)) _=_;rw [m];show ob (dG (n+5) [(B.1:Int),(B.2.1:Int),(B.2.2:Int)] (k:Int)) _=_;rw [p];obtain ⟨a0,a1,a2⟩:=A;obtain ⟨b0,b1,b2⟩:=B;obtain ⟨g0,f,o,r,h⟩:=t;obtain ⟨d,b,c,l,g⟩:=q;simp only at g0 f o r h d b c l g;have hk':k=1\/k=2\/k=3:=by omega
 rcases hk' with rfl | rfl | rfl
 ·obtain rfl:=r (by omega);obtain rfl:=h (by omega);obtain rfl:=l (by omega);obtain rfl:=g (by omega);show some (([bits .or .u8 (a0:Int) (bits .or .u8 0 (b0:Int)),0,0]:List Int),(0:Int))=_;rw [i b0 d,a _ _ g0 d];simp [l3,spM]
 ·obtain rfl:=h (by omega);obtain rfl:=g (by omega);show some (([bits .or .u8 (a0:Int) (bits .or .u8 (bits .or .u8 0 (b1:Int)) (b0:Int)),bits .or .u8 (a1:Int) (bits .or .u8 0 (b1:Int)),0]:List Int),(0:Int))=_;rw [i b1 b,a _ _ b d,a _ _ g0 (e _ _ b d),a _ _ f b];simp [l3,spM,BD,Ci b1 b0]
 ·show some (([bits .or .u8 (a0:Int) (bits .or .u8 (bits .or .u8 (bits .or .u8 0 (b2:Int)) (b1:Int)) (b0:Int)),bits .or .u8 (a1:Int) (bits .or .u8 (bits .or .u8 0 (b2:Int)) (b1:Int)),bits .or .u8 (a2:Int) (bits .or .u8 0 (b2:Int))]:List Int),(0:Int))=_;rw [i b2 c,a _ _ c b,a _ _ (e _ _ c b) d,a _ _ g0 (e _ _ (e _ _ c b) d),a _ _ f (e _ _ c b),a _ _ o c];have v:a0 ||| (b2 ||| b1 ||| b0)=a0 ||| b0 ||| b1 ||| b2:=by rw [Ci (b2 ||| b1) b0,Ci b2 b1];simp only [BD]
  have u:a1 ||| (b2 ||| b1)=a1 ||| b1 ||| b2:=by rw [Ci b2 b1];simp only [BD]
  rw [v,u];rfl
abbrev cI (x:Nat):Int:=(x:Int)
def bt (b a:Nat):Nat:=if b=1 then a%2 else a / 2%2
theorem Rj (n:Nat) {a b:Nat} (d:a<4) (c:b=1\/b=2):iR n (a:Int) (b:Int)=some ((bt b a:Nat):Int):=by
 have h:a=0\/a=1\/a=2\/a=3:=by omega
 rcases h with rfl | rfl | rfl | rfl<;>rcases c with rfl | rfl<;>rfl
theorem Ug (b a:Nat):bt b a<=1:=by unfold bt;split<;>omega
def bts (b:Nat):List Nat->Nat
 | []=>0
 | x::l=>bt b x+bts b l
theorem YQ (n k b i:Nat) (m:b=1\/b=2) (q:k<=3) (A X Y:List Int) (a:List Nat) (t:a.length=3) (o:∀x∈a,x<4):∀(r j acc:Nat),j+r=k->acc<=j+1->∀N,r<N->
  au (cj n) N ((k:Int),(b:Int),(i:Int),(acc:Int),(j:Int),A,a.map cI,X,Y)=some ((k:Int),(b:Int),(i:Int),((acc+bts b ((a.take k).drop j):Nat):Int),A,a.map cI,X,Y):=by
 intro r
 induction r with
 | zero=>
  intro j acc l c N p;obtain ⟨N,rfl⟩:∃k,N=k+1:=⟨N - 1,by omega⟩;have s:cj n ((k:Int),(b:Int),(i:Int),(acc:Int),(j:Int),A,a.map cI,X,Y)=some (.inr ((k:Int),(b:Int),(i:Int),(acc:Int),A,a.map cI,X,Y)):=by
   unfold cj;rw [bG,ab (show ¬((j:Int)<(k:Int)) by omega)]
  have e:(a.take k).drop j=[]:=jE (by rw [dq];omega);rw [au,s,e];rfl
 | succ r ih=>
  intro j acc l c N p;obtain ⟨N,rfl⟩:∃k,N=k+1:=⟨N - 1,by omega⟩;have g:j<a.length:=by omega
  obtain ⟨x,hx⟩:∃x,a[j]?=some x:=⟨a[j],bh g⟩;have f:(a.map cI)[j]?=some (x:Int):=by rw [mj,hx];rfl
  have d:=o x (fS hx);have w:IntKind.wrap .i64 ((acc:Int)+((bt b x:Nat):Int))=((acc+bt b x:Nat):Int):=by have:=Ug b x;rw [wrap_i64 _ (by omega) (by omega)];omega
  have h:IntKind.wrap .i64 ((j:Int)+1)=((j+1:Nat):Int):=by rw [wrap_i64 _ (by omega) (by omega)];omega
  have s:cj n ((k:Int),(b:Int),(i:Int),(acc:Int),(j:Int),A,a.map cI,X,Y)=some (.inl ((k:Int),(b:Int),(i:Int),((acc+bt b x:Nat):Int),((j+1:Nat):Int),A,a.map cI,X,Y)):=by
   unfold cj;rw [bG,ae (show (j:Int)<(k:Int) by omega)];show ob (ix 3 (j:Int)) _=_;rw [dY (show j<3 by omega)];show ob ((a.map cI)[j]?) _=_;rw [f];show ob (iR n (x:Int) (b:Int)) _=_;rw [Rj n d m];show some (Sum.inl ((k:Int),(b:Int),(i:Int),IntKind.wrap .i64 ((acc:Int)+((bt b x:Nat):Int)),IntKind.wrap .i64 ((j:Int)+1),_))=_;rw [w,h]
  have e:(a.take k).drop j=x::(a.take k).drop (j+1):=cA (by rw [qE (by omega)];exact hx);rw [au,s];have:=Ug b x;show au _ N _=_;rw [ih (j+1) (acc+bt b x) (by omega) (by omega) N (by omega),e];simp only [bts,ib]
def hit (k b i:Nat) (a c:List Nat):Bool:=decide (0<bt b (a.getD i 0)+bts b ((c.take k).drop i))
theorem Yl (n k b i:Nat) (v:9<n) (h:b=1\/b=2) (u:k<=3) (hi:i<k) (X:List Int) (a c:List Nat) (w:a.length=3) (m:c.length=3) (r:∀x∈a,x<4) (p:∀x∈c,x<4) (out:List Int) (o:Int) (t:out[i]?=some o):
  bE n ((k:Int),(b:Int),(i:Int),a.map cI,c.map cI,X,out)=some (.inl ((k:Int),(b:Int),((i+1:Nat):Int),a.map cI,c.map cI,X,cond (hit k b i a c) (out.set i (IntKind.wrap .u8 (o+(b:Int)))) out)):=by
 obtain ⟨x,hx⟩:∃x,a[i]?=some x:=⟨a[i],bh (by omega)⟩;have f:(a.map cI)[i]?=some (x:Int):=by rw [mj,hx];rfl
 have d:=r x (fS hx);have s:=Ug b x;have l:IntKind.wrap .i64 ((i:Int)+1)=((i+1:Nat):Int):=by rw [wrap_i64 _ (by omega) (by omega)];omega
 have g:=YQ n k b i h u (a.map cI) X out c m p (k - i) i (bt b x) (by omega) (by omega) n (by omega);unfold bE;rw [bG,ae (show (i:Int)<(k:Int) by omega)];show ob (ix 3 (i:Int)) _=_;rw [dY (show i<3 by omega)];show ob ((a.map cI)[i]?) _=_;rw [f];show ob (iR n (x:Int) (b:Int)) _=_;rw [Rj n d h];show ob (au (cj n) n ((k:Int),(b:Int),(i:Int),((bt b x:Nat):Int),(i:Int),a.map cI,c.map cI,X,out)) _=_;rw [g];have q:hit k b i a c=decide (((bt b x+bts b ((c.take k).drop i):Nat):Int)>0):=by
  unfold hit;rw [EK,hx];rw [mI];simp only [ya];omega
 rw [q];show cond (decide (((bt b x+bts b ((c.take k).drop i):Nat):Int)>0)) (ob (ix 3 (i:Int)) λj=>ob (out[j]?) λy=>ob (ix 3 (i:Int)) λj2=>cond (Nat.blt j2 3) (some (Sum.inl ((k:Int),(b:Int),IntKind.wrap .i64 ((i:Int)+1),a.map cI,c.map cI,X,out.set j2 (IntKind.wrap .u8 (y+(b:Int)))))) none) (some (Sum.inl ((k:Int),(b:Int),IntKind.wrap .i64 ((i:Int)+1),a.map cI,c.map cI,X,out)))=_;rw [dY (show i<3 by omega),l];have e:Nat.blt i 3=true:=cT (by omega);simp only [ob,t,e,ah];cases decide (((bt b x+bts b ((c.take k).drop i):Nat):Int)>0)<;>rfl
def addB (k b:Nat) (a c:List Nat) (o:List Int):List Int:=[cond (decide (0<k)&&hit k b 0 a c) (IntKind.wrap .u8 (o.getD 0 0+(b:Int))) (o.getD 0 0),cond (decide (1<k)&&hit k b 1 a c) (IntKind.wrap .u8 (o.getD 1 0+(b:Int))) (o.getD 1 0),cond (decide (2<k)&&hit k b 2 a c) (IntKind.wrap .u8 (o.getD 2 0+(b:Int))) (o.getD 2 0)]
theorem O5 (n k b:Nat) (l:9<n) (p:b=1\/b=2) (s:1<=k/\k<=3) (X:List Int) (a c:List Nat) (m:a.length=3) (h:c.length=3) (r:∀x∈a,x<4) (q:∀x∈c,x<4) (f o1 e:Int):
  au (bE n) n ((k:Int),(b:Int),0,a.map cI,c.map cI,X,[f,o1,e])=some ((k:Int),(b:Int),a.map cI,c.map cI,X,addB k b a c [f,o1,e]):=by
 obtain ⟨n,rfl⟩:∃j,n=j+5:=⟨n - 5,by omega⟩;have fin:∀(N:Nat) (out:List Int),au (bE (n+5)) (N+1) ((k:Int),(b:Int),((k:Nat):Int),a.map cI,c.map cI,X,out)=some ((k:Int),(b:Int),a.map cI,c.map cI,X,out):=λN out=>by
  rw [au];have:bE (n+5) ((k:Int),(b:Int),((k:Nat):Int),a.map cI,c.map cI,X,out)=some (.inr ((k:Int),(b:Int),a.map cI,c.map cI,X,out)):=by
   unfold bE;rw [bG,ab (show ¬((k:Int)<(k:Int)) by omega)]
  rw [this]
 have g:=λ(i:Nat) (hi:i<k) (out:List Int) (o:Int) (ho:out[i]?=some o)=>Yl (n+5) k b i l p s.2 hi X a c m h r q out o ho;have hk':k=1\/k=2\/k=3:=by omega
 have d:=g 0 (by omega) [f,o1,e] f rfl;rcases hk' with rfl | rfl | rfl
 ·rw [au];rw [show ((0:Nat):Int)=0 from rfl] at d;rw [d];show au _ (n+3+1) (((1:Nat):Int),(b:Int),((1:Nat):Int),_)=_;rw [fin];unfold addB;cases hit 1 b 0 a c<;>rfl
 ·rw [au];rw [show ((0:Nat):Int)=0 from rfl] at d;rw [d];show au _ (n+4) (((2:Nat):Int),(b:Int),((1:Nat):Int),_)=_;rw [au,g 1 (by omega) _ o1 (by cases hit 2 b 0 a c<;>rfl)];show au _ (n+2+1) (((2:Nat):Int),(b:Int),((2:Nat):Int),_)=_;rw [fin];unfold addB;cases hit 2 b 0 a c<;>cases hit 2 b 1 a c<;>rfl
 ·rw [au];rw [show ((0:Nat):Int)=0 from rfl] at d;rw [d];show au _ (n+4) (((3:Nat):Int),(b:Int),((1:Nat):Int),_)=_;rw [au,g 1 (by omega) _ o1 (by cases hit 3 b 0 a c<;>rfl)];show au _ (n+3) (((3:Nat):Int),(b:Int),((2:Nat):Int),_)=_;rw [au,g 2 (by omega) _ e (by cases hit 3 b 0 a c<;>cases hit 3 b 1 a c<;>rfl)];show au _ (n+1+1) (((3:Nat):Int),(b:Int),((3:Nat):Int),_)=_;rw [fin];unfold addB;cases hit 3 b 0 a c<;>cases hit 3 b 1 a c<;>cases hit 3 b 2 a c<;>rfl
def lN (p:Nat×Nat×Nat):List Nat:=[p.1,p.2.1,p.2.2]
theorem ra {x y:Nat} (hx:x<4) (hy:y<4) (b:Nat) (d:b=1\/b=2):decide (0<bt b (x ||| y))=decide (0<bt b x+bt b y):=by
 have:((List.range 4).all λa=>(List.range 4).all λc=>(decide (0<bt 1 (a ||| c))==decide (0<bt 1 a+bt 1 c))&&(decide (0<bt 2 (a ||| c))==decide (0<bt 2 a+bt 2 c)))=true:=by decide +kernel
 have:=r4 (r4 this hx) hy;simp only [aA,bu] at this;rcases d with rfl | rfl
 ·exact this.1
 ·exact this.2
theorem sa {x:Nat} (hx:x<4):cond (decide (0<bt 2 x)) (IntKind.wrap .u8 (cond (decide (0<bt 1 x)) (IntKind.wrap .u8 (0+((1:Nat):Int))) 0+((2:Nat):Int))) (cond (decide (0<bt 1 x)) (IntKind.wrap .u8 (0+((1:Nat):Int))) 0)=(x:Int):=by
 have h:x=0\/x=1\/x=2\/x=3:=by omega
 rcases h with rfl | rfl | rfl | rfl<;>decide
theorem vg (n:Nat) (M:9<n) (k:Nat) (A B:Nat×Nat×Nat) (K:1<=k/\k<=3) (N:inM k A) (I:inM k B):ew n (l3 A) (l3 B) (k:Int)=some (l3 (spM A B)):=by
 obtain ⟨a0,a1,a2⟩:=A;obtain ⟨b0,b1,b2⟩:=B;obtain ⟨g0,m,s,z,u⟩:=N;obtain ⟨f,d,l,v,t⟩:=I;simp only at g0 m s z u f d l v t;have c:∀x y:Nat,x<4->y<4->x ||| y<4:=λx y hx hy=>(or4 hx hy).2;have O:∀x∈lN (a0,a1,a2),x<4:=by
  intro x hx;simp only [lN,cf,mG,nG] at hx;rcases hx with rfl | rfl | rfl<;>assumption
 have E:∀x∈lN (b0,b1,b2),x<4:=by
  intro x hx;simp only [lN,cf,mG,nG] at hx;rcases hx with rfl | rfl | rfl<;>assumption
 have run:=λ(b:Nat) (a:b=1\/b=2) (o0 o1 o2:Int)=>O5 n k b M a K [0,0,0] (lN (a0,a1,a2)) (lN (b0,b1,b2)) rfl rfl O E o0 o1 o2;have w:=run 1 (.inl rfl) 0 0 0;obtain ⟨g,i,h,hp⟩:∃g i h,addB k 1 (lN (a0,a1,a2)) (lN (b0,b1,b2)) [0,0,0]=[g,i,h]:=⟨_,_,_,rfl⟩;have L:=run 2 (.inr rfl) g i h;rw [hp] at w;obtain ⟨n,rfl⟩:∃j,n=j+5:=⟨n - 5,by omega⟩;have H:cV (n+5) ((k:Int),1,l3 (a0,a1,a2),l3 (b0,b1,b2),[0,0,0],[0,0,0])=some (.inl ((k:Int),2,l3 (a0,a1,a2),l3 (b0,b1,b2),[0,0,0],[g,i,h])):=by
  unfold cV;show cond (decide ((1:Int)<=2)) (ob (au (bE (n+5)) (n+5) ((k:Int),((1:Nat):Int),0,(lN (a0,a1,a2)).map cI,(lN (b0,b1,b2)).map cI,[0,0,0],[0,0,0])) _) _=_;rw [w];rfl
 have J:cV (n+5) ((k:Int),2,l3 (a0,a1,a2),l3 (b0,b1,b2),[0,0,0],[g,i,h])=some (.inl ((k:Int),3,l3 (a0,a1,a2),l3 (b0,b1,b2),[0,0,0],addB k 2 (lN (a0,a1,a2)) (lN (b0,b1,b2)) [g,i,h])):=by
  unfold cV;show cond (decide ((2:Int)<=2)) (ob (au (bE (n+5)) (n+5) ((k:Int),((2:Nat):Int),0,(lN (a0,a1,a2)).map cI,(lN (b0,b1,b2)).map cI,[0,0,0],[g,i,h])) _) _=_;rw [L];rfl
 have G:∀out:List Int,cV (n+5) ((k:Int),3,l3 (a0,a1,a2),l3 (b0,b1,b2),[0,0,0],out)=some (.inr ([0,0,0],out)):=λout=>rfl;unfold ew;rw [au,H];show ob (au _ (n+4) _) _=_;rw [au,J];show ob (au _ (n+3) _) _=_;rw [au,G];show some (addB k 2 (lN (a0,a1,a2)) (lN (b0,b1,b2)) [g,i,h])=_;rw [<-hp];have hk':k=1\/k=2\/k=3:=by omega
 have F:=λ(x y:Nat) (hx:x<4) (hy:y<4) (b:Nat) (a:b=1\/b=2)=>ra hx hy b a;rcases hk' with rfl | rfl | rfl
 ·obtain rfl:=z (by omega);obtain rfl:=u (by omega);obtain rfl:=v (by omega);obtain rfl:=t (by omega);have e:∀b,b=1\/b=2->hit 1 b 0 (lN (a0,0,0)) (lN (b0,0,0))=decide (0<bt b (a0 ||| b0)):=λb a=>by rw [ra g0 f b a];rfl
  show some [cond (hit 1 2 0 (lN (a0,0,0)) (lN (b0,0,0))) (IntKind.wrap .u8 (cond (hit 1 1 0 (lN (a0,0,0)) (lN (b0,0,0))) (IntKind.wrap .u8 (0+((1:Nat):Int))) 0+((2:Nat):Int))) (cond (hit 1 1 0 (lN (a0,0,0)) (lN (b0,0,0))) (IntKind.wrap .u8 (0+((1:Nat):Int))) 0),0,0]=_;rw [e 1 (.inl rfl),e 2 (.inr rfl),sa (c _ _ g0 f)];simp [l3,spM]
 ·obtain rfl:=u (by omega);obtain rfl:=t (by omega);have q:∀b,b=1\/b=2->hit 2 b 1 (lN (a0,a1,0)) (lN (b0,b1,0))=decide (0<bt b (a1 ||| b1)):=λb a=>by rw [ra m d b a];rfl
  have r:∀b,b=1\/b=2->hit 2 b 0 (lN (a0,a1,0)) (lN (b0,b1,0))=decide (0<bt b (a0 ||| b0 ||| b1)):=λb a=>by
   have p:=ra (c _ _ g0 f) d b a;have o:=ra g0 f b a;rw [p];have:hit 2 b 0 (lN (a0,a1,0)) (lN (b0,b1,0))=decide (0<bt b a0+(bt b b0+(bt b b1+0))):=rfl;rw [this];simp only [mI] at o ⊢;omega
  show some [cond (hit 2 2 0 (lN (a0,a1,0)) (lN (b0,b1,0))) (IntKind.wrap .u8 (cond (hit 2 1 0 (lN (a0,a1,0)) (lN (b0,b1,0))) (IntKind.wrap .u8 (0+((1:Nat):Int))) 0+((2:Nat):Int))) (cond (hit 2 1 0 (lN (a0,a1,0)) (lN (b0,b1,0))) (IntKind.wrap .u8 (0+((1:Nat):Int))) 0),cond (hit 2 2 1 (lN (a0,a1,0)) (lN (b0,b1,0))) (IntKind.wrap .u8 (cond (hit 2 1 1 (lN (a0,a1,0)) (lN (b0,b1,0))) (IntKind.wrap .u8 (0+((1:Nat):Int))) 0+((2:Nat):Int))) (cond (hit 2 1 1 (lN (a0,a1,0)) (lN (b0,b1,0))) (IntKind.wrap .u8 (0+((1:Nat):Int))) 0),0]=_;rw [r 1 (.inl rfl),r 2 (.inr rfl),q 1 (.inl rfl),q 2 (.inr rfl),sa (c _ _ (c _ _ g0 f) d),sa (c _ _ m d)];simp [l3,spM]
 ·have C:∀b,b=1\/b=2->hit 3 b 2 (lN (a0,a1,a2)) (lN (b0,b1,b2))=decide (0<bt b (a2 ||| b2)):=λb a=>by rw [ra s l b a];rfl
  have q:∀b,b=1\/b=2->hit 3 b 1 (lN (a0,a1,a2)) (lN (b0,b1,b2))=decide (0<bt b (a1 ||| b1 ||| b2)):=λb a=>by
   have p:=ra (c _ _ m d) l b a;have o:=ra m d b a;rw [p];have:hit 3 b 1 (lN (a0,a1,a2)) (lN (b0,b1,b2))=decide (0<bt b a1+(bt b b1+(bt b b2+0))):=rfl;rw [this];simp only [mI] at o ⊢;omega
  have r:∀b,b=1\/b=2->hit 3 b 0 (lN (a0,a1,a2)) (lN (b0,b1,b2))=decide (0<bt b (a0 ||| b0 ||| b1 ||| b2)):=λb a=>by
   have p:=ra (c _ _ (c _ _ g0 f) d) l b a;have o:=ra (c _ _ g0 f) d b a;have D:=ra g0 f b a;rw [p];have:hit 3 b 0 (lN (a0,a1,a2)) (lN (b0,b1,b2))=decide (0<bt b a0+(bt b b0+(bt b b1+(bt b b2+0)))):=rfl;rw [this];simp only [mI] at o D ⊢;omega
  show some [cond (hit 3 2 0 (lN (a0,a1,a2)) (lN (b0,b1,b2))) (IntKind.wrap .u8 (cond (hit 3 1 0 (lN (a0,a1,a2)) (lN (b0,b1,b2))) (IntKind.wrap .u8 (0+((1:Nat):Int))) 0+((2:Nat):Int))) (cond (hit 3 1 0 (lN (a0,a1,a2)) (lN (b0,b1,b2))) (IntKind.wrap .u8 (0+((1:Nat):Int))) 0),cond (hit 3 2 1 (lN (a0,a1,a2)) (lN (b0,b1,b2))) (IntKind.wrap .u8 (cond (hit 3 1 1 (lN (a0,a1,a2)) (lN (b0,b1,b2))) (IntKind.wrap .u8 (0+((1:Nat):Int))) 0+((2:Nat):Int))) (cond (hit 3 1 1 (lN (a0,a1,a2)) (lN (b0,b1,b2))) (IntKind.wrap .u8 (0+((1:Nat):Int))) 0),cond (hit 3 2 2 (lN (a0,a1,a2)) (lN (b0,b1,b2))) (IntKind.wrap .u8 (cond (hit 3 1 2 (lN (a0,a1,a2)) (lN (b0,b1,b2))) (IntKind.wrap .u8 (0+((1:Nat):Int))) 0+((2:Nat):Int))) (cond (hit 3 1 2 (lN (a0,a1,a2)) (lN (b0,b1,b2))) (IntKind.wrap .u8 (0+((1:Nat):Int))) 0)]=_;rw [r 1 (.inl rfl),r 2 (.inr rfl),q 1 (.inl rfl),q 2 (.inr rfl),C 1 (.inl rfl),C 2 (.inr rfl),sa (c _ _ (c _ _ (c _ _ g0 f) d) l),sa (c _ _ (c _ _ m d) l),sa (c _ _ s l)];rfl
def MV (k a b c:Nat):Bool:=spM (plA k a b c) (plB k a b c)==(a,b,c)
theorem Xn:((List.range 4).all λa=>MV 1 a 0 0)=true:=by decide +kernel
theorem Vp:((List.range 4).all λa=>(List.range 4).all λb=>MV 2 a b 0)=true:=by decide +kernel
theorem V4:((List.range 4).all λa=>(List.range 4).all λb=>(List.range 4).all λc=>MV 3 a b c)=true:=by decide +kernel
theorem Yv (k a b c:Nat) (i:1<=k/\k<=3) (d:a<4) (e:b<4) (hc:c<4) (g:k<2->b=0) (f:k<3->c=0):spM (plA k a b c) (plB k a b c)=(a,b,c):=by
 have h:MV k a b c=true:=by
  have:k=1\/k=2\/k=3:=by omega
  rcases this with rfl | rfl | rfl
  ·rw [g (by omega),f (by omega)];exact r4 Xn d
  ·rw [f (by omega)];exact r4 (r4 Vp d) e
  ·exact r4 (r4 (r4 V4 d) e) hc
 unfold MV at h;exact bu.1 h
def mkS (l:aa):Nat:=match l with | []=>0 | c::_=>mkOf c
def mkN (l:aa):Nat:=if mkS l=0 then 0 else 1
def twoN (l:aa):Nat:=bI isDX 2 l
theorem SU (c:UInt8):mkOf c<4:=by
 unfold mkOf;split
 ·omega
 ·split
  ·omega
  ·split<;>omega
theorem Ed (l:aa):mkS l<4:=by
 cases l with
 | nil=>show 0<4;omega
 | cons c r=>exact SU c
theorem V2 (l:aa):mkN l<=l.length:=by
 cases l with
 | nil=>exact aV 0
 | cons c r=>
  unfold mkN;split<;>simp
theorem TG (c:UInt8):hasB [63,126,37] c=decide (0<mkOf c):=by
 have:=iL (λc=>hasB [63,126,37] c==decide (0<mkOf c)) (by decide +kernel) c;simpa using this
theorem SZ (m:Nat) (S:aa) (a:Nat) (h:a<=S.length) (i:S.length<100000):
  cN (m+300) S (a:Int)=some (.inr (((mkS (S.drop a):Nat):Int),S,((a+mkN (S.drop a):Nat):Int))):=by
 unfold cN;rw [pO (m+300) S a h];cases e:S.drop a with
 | nil=>
  have g:qk (m+300) 0=some (0,false):=by kernel_rfl
  show ob (qk (m+300) 0) _=_;rw [g];rfl
 | cons c r=>
  show ob (qk (m+300) ((c.toNat:Nat):Int)) _=_;rw [(FZ m c).1];show cond (decide (0<mkOf c)) _ _=_;have b:mkS (c::r)=mkOf c:=rfl;by_cases hc:0<mkOf c
  ·rw [am hc];show ob (cu (m+300) [63,126,37] S (a:Int)) _=_;rw [Cc (m+300) _ S a h (by omega),e];have f:hasB [63,126,37] c=true:=by rw [TG,am hc]
   have d:mkN (c::r)=1:=by unfold mkN;rw [b,ab (by omega)]
   rw [b,d];simp only [f,aO,ob]
  ·rw [ar hc];have d:mkN (c::r)=0:=by unfold mkN;rw [b,ae (by omega)]
   rw [b,d];rfl
theorem BU (m:Nat) (S:aa) (a:Nat) (h:a<=S.length) (j:S.length<100000) (e:Int):
  eP (m+300) S (a:Int) e=some (((mkS (S.drop a):Nat):Int),S,((a+mkN (S.drop a):Nat):Int),e):=by
 unfold eP;rw [lH];rcases aH a S.length with g | d
 ·have:decide (S.length<=a)=false:=by simp;omega
  rw [this];obtain ⟨c,hc⟩:∃c,S[a]?=some c:=⟨S[a],bh g⟩;rw [eG hc,cA hc];show ob (dM (m+300) ((c.toNat:Nat):Int)) _=_;rw [(FZ m c).2];have b:mkS (c::S.drop (a+1))=mkOf c:=rfl;show cond (decide (((mkOf c:Nat):Int)>0)) _ _=_;by_cases i:0<mkOf c
  ·have f:mkN (c::S.drop (a+1))=1:=by unfold mkN;rw [b,ab (by omega)]
   have:decide (((mkOf c:Nat):Int)>0)=true:=by simp;omega
   rw [this,b,f,ah];have w:IntKind.wrap .i64 ((a:Int)+1)=((a+1:Nat):Int):=by rw [wrap_i64 _ (by omega) (by omega)];omega
   rw [w]
  ·have f:mkN (c::S.drop (a+1))=0:=by unfold mkN;rw [b,ae (by omega)]
   have:decide (((mkOf c:Nat):Int)>0)=false:=by simp;omega
   rw [this,b,f,af];rfl
 ·have:decide (S.length<=a)=true:=by simp;omega
  rw [this,jE d];rfl
theorem QY (n:Nat) (S:aa) (a:Nat) (h:a<=S.length) (i:S.length<100000) (d:S.length<n):
  iN n S (a:Int)=some (if twoN (S.drop a)<2 then .inl (((a+twoN (S.drop a):Nat):Int),5,S,((a+twoN (S.drop a):Nat):Int)) else .inr ((S.drop a).take 2,S,((a+2:Nat):Int))):=by
 unfold iN;rw [vZ n _ 2 2 S a h (by omega) d];have e:bI (hasB [88,48,49,50,51,52,53,54,55,56,57]) (2:Int).toNat (S.drop a)=twoN (S.drop a):=by
  unfold twoN;have f:(2:Int).toNat=2:=rfl;rw [f];exact km (λc=>by rw [uZ];rfl) _ _
 rw [e];by_cases b:twoN (S.drop a)<2
 ·rw [ae b,ae (by omega)];rfl
 ·have g:twoN (S.drop a)=2:=by
   have:=rz isDX 2 (S.drop a);unfold twoN at b ⊢;omega
  rw [ab b,ab (by omega),g];rfl
theorem W8 (c:UInt8):isDX c=((decide (48<=c.toNat)&&decide (c.toNat<=57))||c==88):=by
 unfold isDX;congr 1;rw [uy,bX];simp
theorem Hq (n:Nat) (S:aa) (a b i e:Int) (j:Nat) (t:S.length<100000) (hi:i<2) (r:j<=S.length) (u:0<=i):
  gX n (b,i,S,(j:Int),e,[],0,0)=some (match S.drop j with
   | []=>.inr (.inl ([],S,(j:Int),5))
   | c::_=>if isDX c then .inl (b,i+1,S,((j+1:Nat):Int),e,[],0,0) else .inr (.inl ([],S,(j:Int),5))):=by
 unfold gX;have p:decide (i<2)=true:=am hi;show cond (decide (i<2)) (cond (decide ((j:Int)>=((S.length:Nat):Int))) _ _) _=_;rw [p,lH];rcases aH j S.length with h | l
 ·have:decide (S.length<=j)=false:=by simp;omega
  rw [this];obtain ⟨c,hc⟩:∃c,S[j]?=some c:=⟨S[j],bh h⟩;have q:IntKind.wrap .i64 (i+1)=i+1:=wrap_i64 _ (by omega) (by omega);have o:IntKind.wrap .i64 ((j:Int)+1)=((j+1:Nat):Int):=by rw [wrap_i64 _ (by omega) (by omega)];omega
  rw [cA hc];simp only [eG hc,ob,ah,af,q,o];rw [W8];have g:(((c.toNat:Nat):Int) != 88)=!(c==88):=by rw [bne];congr 1;exact n7 c 88
  rw [g];by_cases v:c.toNat<48
  ·have m:decide (((c.toNat:Nat):Int)<48)=true:=by simp;omega
   have f:decide (48<=c.toNat)=false:=by simp;omega
   rw [m,f];cases (c==88)<;>rfl
  ·have m:decide (((c.toNat:Nat):Int)<48)=false:=by simp;omega
   have f:decide (48<=c.toNat)=true:=by simp;omega
   rw [m,f];by_cases s:c.toNat<=57
   ·have d:decide (((c.toNat:Nat):Int)>57)=false:=by simp;omega
    have k:decide (c.toNat<=57)=true:=by simp;omega
    rw [d,k];rfl
   ·have d:decide (((c.toNat:Nat):Int)>57)=true:=by simp;omega
    have k:decide (c.toNat<=57)=false:=by simp;omega
    rw [d,k];cases (c==88)<;>rfl
 ·have:decide (S.length<=j)=true:=by simp;omega
  rw [this,jE l];rfl
theorem Ol (n:Nat) (s:10<n) (S:aa) (a:Nat) (h:a<=S.length) (l:S.length<100000) (e:Int):
  jT n S (a:Int) e=some (if twoN (S.drop a)<2 then ([],S,((a+twoN (S.drop a):Nat):Int),5) else ((S.drop a).take 2,S,((a+2:Nat):Int),e)):=by
 obtain ⟨n,rfl⟩:∃j,n=j+3:=⟨n - 3,by omega⟩;unfold jT;rw [au,Hq (n+3) S 0 (a:Int) 0 e a l (by omega) h (by omega)];cases i:S.drop a with
 | nil=>rfl
 | cons c r=>
  obtain ⟨o,t,f⟩:=nU i;cases hc:isDX c with
  | false=>
   have:twoN (c::r)=0:=by unfold twoN;simp [bI,hc]
   rw [this];simp [hc,ob]
  | true=>
   simp only [hc,aO];rw [au,Hq (n+3) S 0 (a:Int) (0+1) e (a+1) l (by omega) (by omega) (by omega),f];cases r with
   | nil=>
    have:twoN [c]=1:=by unfold twoN;simp [bI,hc]
    rw [this];rfl
   | cons d g=>
    obtain ⟨k,m,p⟩:=nU f;cases b:isDX d with
    | false=>
     have:twoN (c::d::g)=1:=by unfold twoN;simp [bI,hc,b]
     rw [this];simp [b,ob]
    | true=>
     have:twoN (c::d::g)=2:=by unfold twoN;simp [bI,hc,b]
     rw [this];simp only [b,aO];have q:gX (n+3) ((a:Int),0+1+1,S,((a+1+1:Nat):Int),e,[],0,0)=some (.inr (.inr ((a:Int),S,((a+1+1:Nat):Int),e,[],0,0))):=rfl;rw [au,q];show ob (bx S.length ((a+1+1:Nat):Int)) _=_;rw [cM (show a+1+1<=S.length by omega)];show ob (bx (a+1+1) (a:Int)) _=_;rw [cM (show a<=a+1+1 by omega)];have:List.drop a (List.take (a+1+1) S)=[c,d]:=by
      rw [xx,i];have:a+1+1 - a=2:=by omega
      rw [this];rfl
     show some (List.drop a (List.take (a+1+1) S),S,((a+1+1:Nat):Int),e)=_;rw [this];rfl
theorem cutD (r:Nat) (h:r<10):List.drop r (List.take (r+1) ([48,49,50,51,52,53,54,55,56,57]:aa))=[UInt8.ofNat (48+r)]:=by
 have:∀r,r<10->List.drop r (List.take (r+1) ([48,49,50,51,52,53,54,55,56,57]:aa))=[UInt8.ofNat (48+r)]:=by decide
 exact this r h
theorem Ep {k:Nat} (h:k<10):Lib.decDigits k=[UInt8.ofNat (48+k)]:=by
 rw [Lib.decDigits,dif_pos h]
theorem A4 {k:Nat} (h:¬k<10) (a:k<100):Lib.decDigits k=[UInt8.ofNat (48+k / 10),UInt8.ofNat (48+k%10)]:=by
 rw [Lib.decDigits,dif_neg h,Ep (by omega)];rfl
theorem Me (n k:Nat) (h:k<100):aI n (k:Int)=some (Lib.decDigits k):=by
 have d:Int.tmod (k:Int) 10=((k%10:Nat):Int):=rfl;have b:Int.tdiv (k:Int) 10=((k / 10:Nat):Int):=rfl;have f:IntKind.wrap .i64 (((k%10:Nat):Int)+1)=((k%10+1:Nat):Int):=by rw [wrap_i64 _ (by omega) (by omega)];omega
 have c:IntKind.wrap .i64 ((k / 10:Nat):Int)=((k / 10:Nat):Int):=wrap_i64 _ (by omega) (by omega);have g:IntKind.wrap .i64 (((k / 10:Nat):Int)+1)=((k / 10+1:Nat):Int):=by rw [wrap_i64 _ (by omega) (by omega)];omega
 simp only [aI,d,b,f,c,g,cM (show k%10+1<=10 by omega),cM (show k%10<=k%10+1 by omega),ob,cutD (k%10) (by omega)];by_cases a:k<10
 ·have e:decide ((k:Int)>=10)=false:=ar (by omega);rw [e,af,Ep a,oO a]
 ·have e:decide ((k:Int)>=10)=true:=am (by omega);rw [e,ah,cM (show k / 10+1<=10 by omega)];simp only [];rw [cM (show k / 10<=k / 10+1 by omega)];simp only [cutD (k / 10) (by omega)];rw [cJ (by simp),A4 a h];rfl
def ef (letter:UInt8) (v:Nat):aa:=if 0<v then letter::Lib.decDigits v else []
theorem L6 {k:Nat} (h:k<100):1<=(Lib.decDigits k).length/\(Lib.decDigits k).length<=2:=by
 by_cases a:k<10
 ·rw [Ep a];simp
 ·rw [A4 a h];simp
theorem xH (letter:UInt8) {k:Nat} (h:k<100):(ef letter k).length<=3:=by
 unfold ef;split
 ·have:=L6 h;simp only [aE];omega
 ·simp
theorem ki (g l:Bool) (d:aa) (x s:Nat):gH g l d (x:Int) (s:Int)=(if l then [89] else [])++(if g then [45] else [])++d++ef 69 x++ef 83 s:=by
 unfold gH ef;simp only [bR];have a:(0<(x:Int))=(0<x):=by simp
 have b:(0<(s:Int))=(0<s):=by simp
 simp only [a,b]
theorem Qp (n:Nat) (g l:Bool) (d:aa) (x s:Nat) (hx:x<100) (hs:s<100) (o:d.length<=1000):kH n g l d (x:Int) (s:Int)=some (gH g l d (x:Int) (s:Int)):=by
 have t:=L6 hx;have m:=L6 hs;have ex:decide ((x:Int)>0)=decide (0<x):=by simp
 have j:decide ((s:Int)>0)=decide (0<s):=by simp
 have i:∀a:aa,a.length<=1100->(cond (decide (0<x)) (ob (aI n (x:Int)) λr=>(ob (cat ([69]:aa) r) λp=>(cat a p))) (some a))=some (a++ef 69 x):=by
  intro a e;unfold ef;by_cases h:0<x
  ·rw [am h,ah,ae h,Me n x hx];simp only [ob];rw [cJ (by simp;omega)];simp only [];rw [cJ (by simp;omega)];rfl
  ·rw [ar h,ab h];simp
 have f:∀a:aa,a.length<=1200->(cond (decide (0<s)) (ob (aI n (s:Int)) λr=>(ob (cat ([83]:aa) r) λp=>(ob (cat a p) λq=>(some q)))) (some a))=some (a++ef 83 s):=by
  intro a e;unfold ef;by_cases h:0<s
  ·rw [am h,ah,ae h,Me n s hs];simp only [ob];rw [cJ (by simp;omega)];simp only [];rw [cJ (by simp;omega)];rfl
  ·rw [ar h,ab h];simp
 have b:∀a:aa,a.length<=1100->(cond (decide (0<x)) (ob (aI n (x:Int)) λr=>(ob (cat ([69]:aa) r) λp=>(ob (cat a p) λz=>(cond (decide (0<s)) (ob (aI n (s:Int)) λr=>(ob (cat ([83]:aa) r) λp=>(ob (cat z p) λq=>(some q)))) (some z))))) (cond (decide (0<s)) (ob (aI n (s:Int)) λr=>(ob (cat ([83]:aa) r) λp=>(ob (cat a p) λq=>(some q)))) (some a)))=some (a++ef 69 x++ef 83 s):=by
  intro a e;have c:=i a e;by_cases h:0<x
  ·rw [am h,ah] at c ⊢;rw [Me n x hx] at c ⊢;simp only [ob] at c ⊢;rw [cJ (a:=[69]) (by simp;omega)] at c ⊢;simp only [] at c ⊢;rw [c];simp only [];have:=f (a++ef 69 x) (by have:=xH 69 hx;simp only [aR];omega);simp only [ob] at this;exact this
  ·rw [ar h,af];have k:ef 69 x=[]:=by unfold ef;rw [ab h]
   rw [k,ln];exact f a (by omega)
 rw [ki];unfold kH;rw [ex,j];cases l<;>cases g
 ·rw [af,af,cJ (by simp;omega)];exact b d (by omega)
 ·rw [af,ah,cJ (by simp;omega)];exact b ([45]++d) (by simp;omega)
 ·rw [ah,af,cJ (by simp;omega)];exact b ([89]++d) (by simp;omega)
 ·rw [ah,ah,cJ (by simp;omega)];exact b ([89,45]++d) (by simp;omega)
def da (p:UInt8->Bool) (l:aa):Prop:=∀c,l.head?=some c->p c=false
theorem ma {k:Nat} (h:k<10):(UInt8.ofNat (48+k)).toNat=48+k:=by
 rw [E5];exact oO (by omega)
theorem CV (letter:UInt8) (v:Nat) (post:aa) (i:v<100) (k:da bf post) (j:da (λc=>c==letter) post):numS letter (ef letter v++post)=.inr (v,(ef letter v).length):=by
 unfold ef;by_cases h:0<v
 ·rw [ae h];by_cases f:v<10
  ·rw [Ep f];have b:=ma f;simp only [eW,dJ];rw [nY,ae rfl,pE,ae (by omega)];have a:48+v - 48=v:=by omega
   cases post with
   | nil=>
    rw [ud,b,a];rfl
   | cons e r=>
    have g:¬bf e=true:=by rw [k e rfl];simp
    rw [nQ,ab g,b,a];rfl
  ·rw [A4 f i];have b:=ma (show v / 10<10 by omega);have g:=ma (show v%10<10 by omega);simp only [eW,dJ];rw [nY,ae rfl,pE,ae (by omega),nQ,ae ((bX _).2 (by omega)),b,g];rw [show 10*(48+v / 10 - 48)+(48+v%10 - 48)=v by omega];rfl
 ·rw [ab h];have d:v=0:=by omega
  subst d;cases post with
  | nil=>rfl
  | cons c r=>
   have hc:c≠letter:=by
    have:=j c rfl;simpa using this
   rw [dJ,nY,ab hc];rfl
theorem wV (letter:UInt8) (l:aa) (v k:Nat) (h:numS letter l=.inr (v,k)):v<100/\l.take k=ef letter v/\k<=l.length:=by
 cases l with
 | nil=>
  simp only [wn,oz,bV] at h;obtain ⟨rfl,rfl⟩:=h;exact ⟨by omega,rfl,by simp⟩
 | cons c r=>
  rw [nY] at h;by_cases hc:c=letter
  ·rw [ae hc] at h;cases r with
   | nil=>simp [CC] at h
   | cons d g=>
    rw [pE] at h;by_cases i:49<=d.toNat/\d.toNat<=57
    ·rw [ae i] at h;have j:d.toNat - 48<10:=by omega
     have a:UInt8.ofNat (48+(d.toNat - 48))=d:=by
      apply gG.1;rw [ma j];omega
     have one:(c::d::g).take 2=ef letter (d.toNat - 48):=by
      unfold ef;rw [ae (by omega),Ep j,a,hc];rfl
     cases g with
     | nil=>
      simp only [ud,oz,bV] at h;obtain ⟨rfl,rfl⟩:=h;exact ⟨by omega,one,by simp⟩
     | cons e p=>
      rw [nQ] at h;by_cases f:bf e=true
      ·rw [ae f] at h;simp only [oz,bV] at h;obtain ⟨rfl,rfl⟩:=h;have n:=(bX e).1 f;refine ⟨by omega,?_,by simp⟩;unfold ef;have o:(10*(d.toNat - 48)+(e.toNat - 48)) / 10=d.toNat - 48:=by omega
       have m:(10*(d.toNat - 48)+(e.toNat - 48))%10=e.toNat - 48:=by omega
       have b:UInt8.ofNat (48+(e.toNat - 48))=e:=by
        apply gG.1;rw [ma (by omega)];omega
       rw [ae (by omega),A4 (by omega) (by omega),o,m,a,b,hc];rfl
      ·rw [ab f] at h;simp only [oz,bV] at h;obtain ⟨rfl,rfl⟩:=h;exact ⟨by omega,one,by simp⟩
    ·rw [ab i] at h;cases h
  ·rw [ab hc] at h;simp only [oz,bV] at h;obtain ⟨rfl,rfl⟩:=h;exact ⟨by omega,rfl,by simp⟩
theorem xN {p:UInt8->Bool}:∀(r:aa) (k:Nat) (post:aa),(∀c∈r,p c=true)->r.length<=k->(da p post\/r.length=k)->bI p k (r++post)=r.length
 | [],0,post,_,_,_=>by simp [bI]
 | [],k+1,post,_,_,h=>by
  cases post with
  | nil=>simp [bI]
  | cons c q=>
   rcases h with h | h
   ·have:=h c rfl;simp [bI,this]
   ·simp at h
 | c::r,0,post,_,h,_=>by simp at h
 | c::r,k+1,post,hp,b,h=>by
  have ih:=xN r k post (λd a=>hp d (by simp [a])) (by simpa using b) (by
   rcases h with h | h
   ·exact .inl h
   ·exact .inr (by simpa using h))
  simp only [eW,bI,hp c (by simp),aO,ih,aE]
theorem An {p:UInt8->Bool}:∀(k:Nat) (l:aa),∀c∈l.take (bI p k l),p c=true
 | 0,l=>by simp [bI]
 | k+1,[]=>by simp [bI]
 | k+1,c::l=>by
  simp only [bI];by_cases h:p c=true
  ·rw [ae h];intro d a;rw [mK,cf] at a;rcases a with rfl | a
   ·exact h
   ·exact An k l d a
  ·rw [ab h];simp
theorem si {letter:UInt8} {v:Nat} {post:aa} {p:UInt8->Bool} (b:p letter=false) (a:da p post):da p (ef letter v++post):=by
 unfold ef;intro c hc;by_cases h:0<v
 ·rw [ae h] at hc;simp only [eW,sT,av] at hc;rw [<-hc];exact b
 ·rw [ab h] at hc;exact a c hc
def isYC (c:UInt8):Bool:=isDX c||c==69||c==83
theorem RG {l:aa} (h:da isYC l):da bf l:=λc hc=>by
 have:=h c hc;unfold isYC isDX at this;simp only [pi] at this;exact this.1.1.1
theorem YO {l:aa} (h:da isYC l):da isDX l:=λc hc=>by
 have:=h c hc;unfold isYC at this;simp only [pi] at this;exact this.1.1
theorem Yd {l:aa} (h:da isYC l):da (λc=>c==69) l:=λc hc=>by
 have:=h c hc;unfold isYC at this;simp only [pi] at this;exact this.1.2
theorem YW {l:aa} (h:da isYC l):da (λc=>c==83) l:=λc hc=>by
 have:=h c hc;unfold isYC at this;simp only [pi] at this;exact this.2
theorem oe (c:UInt8) (l:aa):fq c (c::l)=1:=by rw [kn,ae rfl]
theorem pa {c a:UInt8} (h:a≠c) (l:aa):fq c (a::l)=0:=by rw [kn,ab h]
theorem N8 {g l:Bool} {d:aa} {x s:Nat} (h:okY g l d (x:Int) (s:Int)) (post:aa) (hp:da isYC post):pU (gH g l d (x:Int) (s:Int)++post)=.inr (g,l,d,x,s,(gH g l d (x:Int) (s:Int)).length):=by
 have D:=iY h;have m:numS 83 (ef 83 s++post)=.inr (s,(ef 83 s).length):=CV 83 s post (by omega) (RG hp) (YW hp);have k:da bf (ef 83 s++post):=si (by decide) (RG hp);have F:da isDX (ef 83 s++post):=si (by decide) (YO hp);rw [ki];cases l with
 | true=>
  have E:okL d (x:Int) (s:Int):=by simpa [okY] using h
  obtain ⟨⟨b,p,A,z,B,C,L,O⟩,N,J⟩:=E;obtain ⟨c,r,rfl⟩:∃c r,d=c::r:=by
   cases d with
   | nil=>simp at p
   | cons c r=>exact ⟨c,r,rfl⟩
  have y:=(bX c).1 (b c (by simp));have j:49<=c.toNat/\c.toNat<=57:=by
   have:c.toNat≠48:=λe=>z (by rw [show c=48 from gG.1 e];rfl);omega
  have a:c≠45:=by rintro rfl;exact absurd y.1 (by decide)
  have t:numS 69 (ef 69 x++(ef 83 s++post))=.inr (x,(ef 69 x).length):=CV 69 x _ (by omega) k (si (by decide) (Yd hp));have i:bI bf 16 (r++(ef 69 x++(ef 83 s++post)))=r.length:=by
   refine xN r 16 _ (λe I=>b e (by simp [I])) (by simp only [aE] at A;omega) (.inl ?_);exact si (by decide) k
  have body:∀o:Nat,uD g o ((c::r)++(ef 69 x++(ef 83 s++post)))=.inr (g,true,c::r,x,s,o+(1+r.length)+(ef 69 x).length+(ef 83 s).length):=by
   intro o;simp only [eW,uD];rw [ae j,i];have H:List.drop (1+r.length) (c::(r++(ef 69 x++(ef 83 s++post))))=ef 69 x++(ef 83 s++post):=by
    rw [qb,nJ,Dl rfl]
   have G:List.drop (1+r.length+(ef 69 x).length) (c::(r++(ef 69 x++(ef 83 s++post))))=ef 83 s++post:=by
    rw [show 1+r.length+(ef 69 x).length=(r.length+(ef 69 x).length)+1 by omega,nJ,<-fK,Dl (by simp)]
   have K:List.take (1+r.length) (c::(r++(ef 69 x++(ef 83 s++post))))=c::r:=by
    rw [qb,mK,List.take_left' rfl]
   rw [H,t];simp only [];rw [G,m,K]
  unfold pU;cases g with
  | true=>
   simp only [aO,eW,dJ,fK];rw [oe,ae rfl,nJ,cw,oe];have:=body 2;simp only [eW] at this;simp only [nJ,cw,show ((1:Nat)==1)=true from rfl,show 1+1=2 from rfl];rw [this];simp only [aE,aR];congr 6;omega
  | false=>
   simp only [aO,bw,aC,eW,dJ,fK];rw [oe,ae rfl,nJ,cw,pa a];have:=body 1;simp only [eW] at this;simp only [nJ,cw,show ((0:Nat)==1)=false from rfl,cP];rw [this];simp only [aE,aR];congr 6;omega
 | false=>
  have M:okS g d (x:Int) (s:Int):=by simpa [okY] using h
  obtain ⟨b,p,A,z,B,C,L⟩:=M;have v:x=0:=by omega
  subst v;have w:ef 69 0=[]:=rfl;have u:∀c∈d,isDX c=true:=λc hc=>by
   unfold isDX;rcases p c hc with q | q
   ·rw [q];rfl
   ·rw [q];simp
  have i:bI isDX 4 (d++(ef 83 s++post))=d.length:=xN d 4 _ u (by omega) (.inr b);have body:∀o:Nat,vD g o (d++(ef 83 s++post))=.inr (g,false,d,0,s,o+4+(ef 83 s).length):=by
   intro o;unfold vD;rw [i,b,ab (by omega),Dl b,m,List.take_left' b]
  obtain ⟨c,r,rfl⟩:∃c r,d=c::r:=by
   cases d with
   | nil=>simp at b
   | cons c r=>exact ⟨c,r,rfl⟩
  have a:c≠45:=by
   rintro rfl;rcases p 45 (by simp) with q | q
   ·exact absurd ((bX _).1 q).1 (by decide)
   ·exact absurd q (by decide)
  have n:c≠89:=by
   rintro rfl;rcases p 89 (by simp) with q | q
   ·exact absurd ((bX _).1 q).2 (by decide)
   ·exact absurd q (by decide)
  have f:(45:UInt8)≠89:=by decide
  unfold pU;rw [w];cases g with
  | true=>
   simp only [aO,bw,aC,eW,dJ,fK];rw [pa f,ab (by decide),oe,nJ,cw];have:=body 1;simp only [eW] at this;rw [show ((1:Nat)==1)=true from rfl,this];simp only [aE,aR] at b ⊢;congr 6;omega
  | false=>
   simp only [bw,aC,eW,dJ,fK];rw [pa n,ab (by decide),pa a,cw];have:=body 0;simp only [eW] at this;rw [show ((0:Nat)==1)=false from rfl,this];simp only [aE,aR] at b ⊢;congr 6;omega
theorem uW (c:UInt8) (l:aa):l.take (fq c l)=if fq c l=1 then [c] else []:=by
 rcases lM c l with h | h
 ·rw [h];simp
 ·rw [h,ae rfl];unfold fq at h;split at h
  ·assumption
  ·cases h
theorem pK (l:aa) (i j:Nat):l.take (i+j)=l.take i++(l.drop i).take j:=by
 rw [List.take_add]
theorem rh {l:aa} {g n:Bool} {d:aa} {x s k:Nat} (h:pU l=.inr (g,n,d,x,s,k)):l.take k=gH g n d (x:Int) (s:Int)/\k<=l.length/\x<100/\s<100/\d.length<=17:=by
 rw [ki];unfold pU at h;by_cases m:fq 89 l=1
 ·rw [ae m] at h;have o:=uW 89 l;rw [m,ae rfl] at o;have e:=uW 45 (l.drop 1);have c45:=lM 45 (l.drop 1);generalize C:fq 45 (l.drop 1)=u at *;have a:l.take (1+u)=[89]++(if (u==1)=true then [45] else []):=by
   rw [pK,o,e];rcases c45 with rfl | rfl<;>rfl
  cases q:l.drop (1+u) with
  | nil=>rw [q] at h;simp [uD] at h
  | cons c r=>
   rw [q] at h;simp only [uD] at h;by_cases hc:49<=c.toNat/\c.toNat<=57
   ·rw [ae hc] at h;have A:=rz bf 16 r;have D:1+bI bf 16 r<=(c::r).length:=by have:=lY bf 16 r;simp only [aE];omega
    generalize F:1+bI bf 16 r=K at *;cases f:numS 69 (List.drop K (c::r)) with
    | inl j=>rw [f] at h;simp at h
    | inr p=>
     obtain ⟨G,j⟩:=p;rw [f] at h;simp only at h;cases b:numS 83 (List.drop (K+j) (c::r)) with
     | inl i=>rw [b] at h;simp at h
     | inr v=>
      obtain ⟨s',i⟩:=v;rw [b] at h;simp only [oz,bV] at h;obtain ⟨rfl,rfl,rfl,rfl,rfl,rfl⟩:=h;obtain ⟨a1,a2,B⟩:=wV _ _ _ _ f;obtain ⟨b1,b2,w⟩:=wV _ _ _ _ b;rw [bP] at B w;have E:l.length=1+u+(c::r).length:=by
       have:=cK List.length q;rw [bP] at this;simp only [aE] at this ⊢;omega
      refine ⟨?_,by simp only [aE] at *;omega,a1,b1,by rw [dq];omega⟩;rw [show 1+u+K+j+i=(1+u)+(K+(j+i)) by omega,pK,a,q,pK _ K,pK _ j,a2,jg,b2];simp
   ·rw [ab hc] at h;simp at h
 ·rw [ab m] at h;have e:=uW 45 l;have c45:=lM 45 l;generalize C:fq 45 l=u at *;have a:l.take u=(if (u==1)=true then [45] else []):=by
   rw [e];rcases c45 with rfl | rfl<;>rfl
  unfold vD at h;by_cases z:bI isDX 4 (l.drop u)<4
  ·rw [ae z] at h;simp at h
  ·rw [ab z] at h;have t:=lY isDX 4 (l.drop u);rw [bP] at t;cases f:numS 83 (List.drop 4 (l.drop u)) with
   | inl i=>rw [f] at h;simp at h
   | inr v=>
    obtain ⟨s',i⟩:=v;rw [f] at h;simp only [oz,bV] at h;obtain ⟨rfl,rfl,rfl,rfl,rfl,rfl⟩:=h;obtain ⟨b1,b2,w⟩:=wV _ _ _ _ f;rw [bP,bP] at w;refine ⟨?_,by omega,by omega,b1,by rw [dq];omega⟩;rw [show u+4+i=u+(4+i) by omega,pK,a,pK _ 4,b2];have y:ef 69 0=[]:=rfl;rw [y];simp
abbrev DR:=Bool×Bool×aa×Nat×Nat×aa×aa×(Nat×Nat×Nat)×(Nat×Nat×Nat)×Nat
def mkE (S:aa) (p:Nat):Nat:=p+mkN (S.drop p)
def rd3 (S:aa) (y:YR) (b d c h f g a:Nat) (e:aa):Nat⊕DR:=
 if twoN (S.drop (mkE S (a+1)))<2 then .inl (mkE S (a+1)+twoN (S.drop (mkE S (a+1))))
 else .inr (y.1,y.2.1,y.2.2.1,y.2.2.2.1,y.2.2.2.2.1,e,(S.drop (mkE S (a+1))).take 2,spM (b,c,mkS (S.drop (a+1))) (d,h,mkS (S.drop (mkE S (a+1)+2))),(f,g,mkE S (a+1)),mkE S (mkE S (a+1)+2))
def rd2 (S:aa) (y:YR) (d b c a:Nat):Nat⊕DR:=
 if twoN (S.drop (mkE S (a+1)))<2 then .inl (mkE S (a+1)+twoN (S.drop (mkE S (a+1))))
 else if fq 45 (S.drop (mkE S (mkE S (a+1)+2)))=0 then .inr (y.1,y.2.1,y.2.2.1,y.2.2.2.1,y.2.2.2.2.1,(S.drop (mkE S (a+1))).take 2,[],spM (d,mkS (S.drop (a+1)),0) (b,mkS (S.drop (mkE S (a+1)+2)),0),(c,mkE S (a+1),0),mkE S (mkE S (a+1)+2))
 else rd3 S y d b (mkS (S.drop (a+1))) (mkS (S.drop (mkE S (a+1)+2))) c (mkE S (a+1)) (mkE S (mkE S (a+1)+2)) ((S.drop (mkE S (a+1))).take 2)
def rD (S:aa) (a:Nat):Nat⊕DR:=match pU (S.drop (mkE S a)) with
 | .inl k=>.inl (mkE S a+k)
 | .inr y=>if 0<y.2.2.2.2.1\/fq 45 (S.drop (mkE S (mkE S a+y.2.2.2.2.2)))=0
  then .inr (y.1,y.2.1,y.2.2.1,y.2.2.2.1,y.2.2.2.2.1,[],[],spM (mkS (S.drop a),0,0) (mkS (S.drop (mkE S a+y.2.2.2.2.2)),0,0),(mkE S a,0,0),mkE S (mkE S a+y.2.2.2.2.2))
  else rd2 S y (mkS (S.drop a)) (mkS (S.drop (mkE S a+y.2.2.2.2.2))) (mkE S a) (mkE S (mkE S a+y.2.2.2.2.2))
def XF (S:aa):Nat⊕DR->(Int×Int×aa×Int)⊕(Bool×Bool×aa×Int×Int×aa×aa×Int×Int×Int×List Int×aa×Int)
 | .inl k=>.inl ((k:Int),5,S,(k:Int))
 | .inr (g,l,dg,x,s,m,d,M,P,e)=>.inr (g,l,dg,(x:Int),(s:Int),m,d,(M.1:Int),(M.2.1:Int),(M.2.2:Int),l3 P,S,(e:Int))
theorem kA {S:aa} {p:Nat} (h:p<=S.length):mkE S p<=S.length:=by
 have:=V2 (S.drop p);rw [bP] at this;unfold mkE;omega
theorem vu {S:aa} {p:Nat} (a:¬twoN (S.drop p)<2):p+2<=S.length:=by
 have:=lY isDX 2 (S.drop p);unfold twoN at a;rw [bP] at this;omega
theorem rO {S:aa} {p:Nat} (h:¬fq 45 (S.drop p)=0):p+1<=S.length:=by
 have:=AL 45 (S.drop p);rw [bP] at this;omega
theorem OZ (n:Nat) (g l:Bool) (d:aa) (x s:Int) (a b:aa) (k0 k1 k2:Int) (S:aa) (p:Nat) (h:p<=S.length) (e:S.length<100000) (c:S.length<n):
  jV n g l d x s a b k0 k1 k2 S (p:Int)=some (match pU (S.drop p) with
   | .inl k=>.inl (((p+k:Nat):Int),5,g,l,d,x,s,a,b,k0,k1,k2,S,((p+k:Nat):Int))
   | .inr y=>.inr (y.1,y.2.1,y.2.2.1,(y.2.2.2.1:Int),(y.2.2.2.2.1:Int),a,b,k0,k1,k2,S,((p+y.2.2.2.2.2:Nat):Int))):=by
 unfold jV;rw [SX n S p h e c];cases pU (S.drop p) with
 | inl k=>rfl
 | inr y=>rfl
theorem O2 (n:Nat) (g l:Bool) (d:aa) (x s:Int) (c b:aa) (k0 k1 k2:Int) (S:aa) (p:Nat) (h:p<=S.length) (f:S.length<100000) (e:S.length<n):
  kb n g l d x s c b k0 k1 k2 S (p:Int)=some (if twoN (S.drop p)<2
   then .inl (((p+twoN (S.drop p):Nat):Int),5,g,l,d,x,s,c,b,k0,k1,k2,S,((p+twoN (S.drop p):Nat):Int))
   else .inr (g,l,d,x,s,(S.drop p).take 2,b,k0,k1,k2,S,((p+2:Nat):Int))):=by
 unfold kb;rw [QY n S p h f e];by_cases a:twoN (S.drop p)<2
 ·rw [ae a,ae a];rfl
 ·rw [ab a,ab a];rfl
theorem OC (n:Nat) (g l:Bool) (d:aa) (x s:Int) (b c:aa) (k0 k1 k2:Int) (S:aa) (p:Nat) (h:p<=S.length) (f:S.length<100000) (e:S.length<n):
  jW n g l d x s b c k0 k1 k2 S (p:Int)=some (if twoN (S.drop p)<2
   then .inl (((p+twoN (S.drop p):Nat):Int),5,g,l,d,x,s,b,c,k0,k1,k2,S,((p+twoN (S.drop p):Nat):Int))
   else .inr (g,l,d,x,s,b,(S.drop p).take 2,k0,k1,k2,S,((p+2:Nat):Int))):=by
 unfold jW;rw [QY n S p h f e];by_cases a:twoN (S.drop p)<2
 ·rw [ae a,ae a];rfl
 ·rw [ab a,ab a];rfl
theorem SJ (m:Nat) (S:aa) (a:Nat) (h:a<=S.length) (n:S.length<100000) (D:S.length<m+300):
  jL (m+300) S (a:Int)=some (XF S (rD S a)):=by
 have j:∀p,p<=S.length->cN (m+300) S (p:Int)=some (.inr (((mkS (S.drop p):Nat):Int),S,((mkE S p:Nat):Int))):=λp hp=>SZ m S p hp n;have b:∀p,mkS (S.drop p)<4:=λp=>Ed _;have t:∀p q,eN (m+300) [((mkS (S.drop p):Nat):Int),0,0] [((mkS (S.drop q):Nat):Int),0,0] 1=some (l3 (spM (mkS (S.drop p),0,0) (mkS (S.drop q),0,0)),0):=λp q=>
  yH (m+300) (by omega) 1 (mkS (S.drop p),0,0) (mkS (S.drop q),0,0) (by omega) ⟨b p,by simp,by simp,by simp,by simp⟩ ⟨b q,by simp,by simp,by simp,by simp⟩
 have C:∀p q i e,eN (m+300) [((mkS (S.drop p):Nat):Int),((mkS (S.drop i):Nat):Int),0] [((mkS (S.drop q):Nat):Int),((mkS (S.drop e):Nat):Int),0] 2=some (l3 (spM (mkS (S.drop p),mkS (S.drop i),0) (mkS (S.drop q),mkS (S.drop e),0)),0):=λp q i e=>
  yH (m+300) (by omega) 2 (mkS (S.drop p),mkS (S.drop i),0) (mkS (S.drop q),mkS (S.drop e),0) (by omega) ⟨b p,b i,by simp,by simp,by simp⟩ ⟨b q,b e,by simp,by simp,by simp⟩
 have E:∀p q i e f d,eN (m+300) [((mkS (S.drop p):Nat):Int),((mkS (S.drop i):Nat):Int),((mkS (S.drop f):Nat):Int)] [((mkS (S.drop q):Nat):Int),((mkS (S.drop e):Nat):Int),((mkS (S.drop d):Nat):Int)] 3=some (l3 (spM (mkS (S.drop p),mkS (S.drop i),mkS (S.drop f)) (mkS (S.drop q),mkS (S.drop e),mkS (S.drop d))),0):=λp q i e f d=>
  yH (m+300) (by omega) 3 (mkS (S.drop p),mkS (S.drop i),mkS (S.drop f)) (mkS (S.drop q),mkS (S.drop e),mkS (S.drop d)) (by omega) ⟨b p,b i,b f,by simp,by simp⟩ ⟨b q,b e,b d,by simp,by simp⟩
 have b0:=kA h;unfold jL rD;rw [j a h];simp only [ob,DW];rw [OZ _ _ _ _ _ _ _ _ _ _ _ S (mkE S a) b0 n D];cases H:pU (S.drop (mkE S a)) with
 | inl k=>rfl
 | inr y=>
  obtain ⟨g,l,dg,x,s,k⟩:=y;have bk:mkE S a+k<=S.length:=by
   have:=(rh H).2.1;rw [bP] at this;omega
  have b1:=kA bk;simp only [ob,d4,d8];rw [j (mkE S a+k) bk];simp only [ob];by_cases hs:0<s
  ·have:decide (((s:Nat):Int)>0)=true:=by simp;omega
   rw [this,ae (.inl hs)];simp only [ah];rw [t];rfl
  ·have:decide (((s:Nat):Int)>0)=false:=by simp;omega
   rw [this];simp only [af];rw [ug (m+300) 45 S _ b1 n];simp only [ob];by_cases v:fq 45 (S.drop (mkE S (mkE S a+k)))=0
   ·rw [ae (.inr v),v];simp only [show ((0:Nat)==1)=false from rfl,i7,ah,cP];rw [t];rfl
   ·have F:fq 45 (S.drop (mkE S (mkE S a+k)))=1:=(lM 45 _).resolve_left v;have o:=rO v;rw [ab (λz=>z.elim hs v),F];simp only [show ((1:Nat)==1)=true from rfl,cZ,af];unfold rd2;rw [j _ o];simp only [ob];have J:=kA o;rw [O2 _ _ _ _ _ _ _ _ _ _ _ S _ J n D];by_cases w:twoN (S.drop (mkE S (mkE S (mkE S a+k)+1)))<2
    ·rw [ae w,ae w];rfl
    ·rw [ab w,ab w];have b2:=vu w;simp only [ob,d4,d8];rw [j _ b2];simp only [ob];rw [this];simp only [af];have I:=kA b2;rw [ug (m+300) 45 S _ I n];simp only [ob];by_cases c:fq 45 (S.drop (mkE S (mkE S (mkE S (mkE S a+k)+1)+2)))=0
     ·rw [ae c,c];simp only [show ((0:Nat)==1)=false from rfl,i7,ah,cP];rw [C];rfl
     ·have r:=(lM 45 (S.drop (mkE S (mkE S (mkE S (mkE S a+k)+1)+2)))).resolve_left c;have A:=rO c;rw [ab c,r];simp only [show ((1:Nat)==1)=true from rfl,cZ,af];unfold rd3;rw [j _ A];simp only [ob];have B:=kA A;rw [OC _ _ _ _ _ _ _ _ _ _ _ S _ B n D];by_cases u:twoN (S.drop (mkE S (mkE S (mkE S (mkE S (mkE S a+k)+1)+2)+1)))<2
      ·rw [ae u,ae u];rfl
      ·rw [ab u,ab u];have G:=vu u;simp only [ob,d4,d8];rw [j _ G];simp only [ob];rw [E];rfl
def Xa (S:aa) (P:List Int):Nat⊕DR->Bool×Bool×aa×Int×Int×aa×aa×Int×Int×Int×List Int×aa×Int×Int
 | .inl k=>(false,false,[],0,0,[],[],0,0,0,P,S,(k:Int),5)
 | .inr (g,l,dg,x,s,m,d,M,Q,e)=>(g,l,dg,(x:Int),(s:Int),m,d,(M.1:Int),(M.2.1:Int),(M.2.2:Int),l3 Q,S,(e:Int),0)
abbrev RdSt:=aa×Int×Int×List Int×Bool×Bool×aa×Int×Int×aa×aa×List Int×List Int×List Int×aa×Int×Int
def rdSt (S:aa) (i:Int) (g l:Bool) (dg:aa) (x s:Int) (a b:aa) (P A B:List Int) (p:Nat):RdSt:=
 (S,i,i,[0,0,0],g,l,dg,x,s,a,b,P,A,B,S,(p:Int),0)
theorem YX (m:Nat) (S:aa) (a:Nat) (h:a<=S.length) (b:S.length<100000) (e:S.length<m+300):
  bi (m+300) (rdSt S 0 false false [] 0 0 [] [] [0,0,0] [0,0,0] [0,0,0] a)=some (match pU (S.drop (mkE S a)) with
   | .inl k=>.inr (.inr (false,false,[],0,0,[],[],0,0,0,[((mkE S a:Nat):Int),0,0],S,((mkE S a+k:Nat):Int),5))
   | .inr y=>.inl (rdSt S 1 y.1 y.2.1 y.2.2.1 (y.2.2.2.1:Int) (y.2.2.2.2.1:Int) [] [] [((mkE S a:Nat):Int),0,0] [((mkS (S.drop a):Nat):Int),0,0] [((mkS (S.drop (mkE S a+y.2.2.2.2.2)):Nat):Int),0,0] (mkE S (mkE S a+y.2.2.2.2.2)))):=by
 have c:∀p,p<=S.length->eP (m+300) S (p:Int) 0=some (((mkS (S.drop p):Nat):Int),S,((mkE S p:Nat):Int),0):=λp hp=>BU m S p hp b 0;have b0:=kA h;unfold bi rdSt;simp only [d4,d8,d16,fN,show (decide ((0:Int)<3))=true from rfl,show (decide ((0:Int)>0))=false from rfl,ah,af,ob];rw [c a h];simp only [ob,show ix 3 0=some 0 from rfl,show Nat.blt 0 3=true from rfl,ah,fM,show ((0:Int)==0)=true from rfl];rw [OX (m+300) S (mkE S a) b0 b e];cases d:pU (S.drop (mkE S a)) with
 | inl k=>rfl
 | inr y=>
  obtain ⟨g,l,dg,x,s,k⟩:=y;have bk:mkE S a+k<=S.length:=by
   have:=(rh d).2.1;rw [bP] at this;omega
  simp only [o5,ob,d4,d8,d16,show ((0:Int) != 0)=false from rfl,af];rw [c _ bk];rfl
theorem XY (m:Nat) (S:aa) (g l:Bool) (dg:aa) (x s:Nat) (e f i:Int) (q:Nat) (h:q<=S.length) (r:S.length<100000) (t:S.length<m+300):
  bi (m+300) (rdSt S 1 g l dg (x:Int) (s:Int) [] [] [e,0,0] [f,0,0] [i,0,0] q)=some (
   if 0<s\/fq 45 (S.drop q)=0 then .inr (.inl (1,false,false,[],0,0,[],[],0,0,0,[0,0,0],[],0,0,g,l,dg,(x:Int),(s:Int),[],[],0,0,0,[e,0,0],[f,0,0],[i,0,0],S,(q:Int),0))
   else if twoN (S.drop (mkE S (q+1)))<2 then .inr (.inr (false,false,[],0,0,[],[],0,0,0,[e,((mkE S (q+1):Nat):Int),0],S,((mkE S (q+1)+twoN (S.drop (mkE S (q+1))):Nat):Int),5))
   else .inl (rdSt S 2 g l dg (x:Int) (s:Int) ((S.drop (mkE S (q+1))).take 2) [] [e,((mkE S (q+1):Nat):Int),0] [f,((mkS (S.drop (q+1)):Nat):Int),0] [i,((mkS (S.drop (mkE S (q+1)+2)):Nat):Int),0] (mkE S (mkE S (q+1)+2)))):=by
 have o:∀p,p<=S.length->eP (m+300) S (p:Int) 0=some (((mkS (S.drop p):Nat):Int),S,((mkE S p:Nat):Int),0):=λp hp=>BU m S p hp r 0;unfold bi rdSt;simp only [d4,d8,d16,fN,hZ,show (decide ((1:Int)<3))=true from rfl,show (decide ((1:Int)>0))=true from rfl,ah,af,ob,lH];by_cases hs:0<s
 ·have:decide (((s:Nat):Int)>0)=true:=by simp;omega
  rw [this,ae (.inl hs)];rfl
 ·have:decide (((s:Nat):Int)>0)=false:=by simp;omega
  rw [this];simp only [af];rcases aH q S.length with j | k
  ·obtain ⟨c,hc⟩:∃c,S[q]?=some c:=⟨S[q],bh j⟩;have b:decide (S.length<=q)=false:=by simp;omega
   rw [b];simp only [af,eG hc,ob];have n:(((c.toNat:Nat):Int) != 45)=!(c==45):=by rw [bne];congr 1;exact n7 c 45
   rw [n,cA hc,kn];by_cases a:c=45
   ·have w:IntKind.wrap .i64 ((q:Int)+1)=((q+1:Nat):Int):=by rw [wrap_i64 _ (by omega) (by omega)];omega
    rw [ae a,ab (show ¬(0<s\/(1:Nat)=0) from λz=>z.elim hs (by omega)),a];simp only [uG,cZ,af,ob,w];rw [o _ (by omega)];simp only [ob,show ix 3 1=some 1 from rfl,show Nat.blt 1 3=true from rfl,ah,fM,iE,show ((1:Int)==0)=false from rfl,show ((1:Int)==1)=true from rfl,af];have b1:=kA (show q+1<=S.length by omega);rw [Ol (m+300) (by omega) S _ b1 r 0];by_cases d:twoN (S.drop (mkE S (q+1)))<2
    ·rw [ae d,ae d];rfl
    ·rw [ab d,ab d];simp only [ob,d4,d8,d16,show ((0:Int) != 0)=false from rfl,af];rw [o _ (vu d)];rfl
   ·have:(c==45)=false:=aK.2 a;rw [ab a,ae (.inr rfl),this];rfl
  ·have b:decide (S.length<=q)=true:=by simp;omega
   rw [b,jE k,wR,ae (.inr rfl)];rfl
theorem XS (m:Nat) (S:aa) (g l:Bool) (dg:aa) (x s:Nat) (n:aa) (e i k f j r:Int) (q:Nat) (h:q<=S.length) (y:S.length<100000) (z:S.length<m+300) (hs:¬0<s):
  bi (m+300) (rdSt S 2 g l dg (x:Int) (s:Int) n [] [e,f,0] [i,j,0] [k,r,0] q)=some (
   if fq 45 (S.drop q)=0 then .inr (.inl (2,false,false,[],0,0,[],[],0,0,0,[0,0,0],[],0,0,g,l,dg,(x:Int),(s:Int),n,[],0,0,0,[e,f,0],[i,j,0],[k,r,0],S,(q:Int),0))
   else if twoN (S.drop (mkE S (q+1)))<2 then .inr (.inr (false,false,[],0,0,[],[],0,0,0,[e,f,((mkE S (q+1):Nat):Int)],S,((mkE S (q+1)+twoN (S.drop (mkE S (q+1))):Nat):Int),5))
   else .inl (rdSt S 3 g l dg (x:Int) (s:Int) n ((S.drop (mkE S (q+1))).take 2) [e,f,((mkE S (q+1):Nat):Int)] [i,j,((mkS (S.drop (q+1)):Nat):Int)] [k,r,((mkS (S.drop (mkE S (q+1)+2)):Nat):Int)] (mkE S (mkE S (q+1)+2)))):=by
 have v:∀p,p<=S.length->eP (m+300) S (p:Int) 0=some (((mkS (S.drop p):Nat):Int),S,((mkE S p:Nat):Int),0):=λp hp=>BU m S p hp y 0;unfold bi rdSt;simp only [d4,d8,d16,fN,hZ,show (decide ((2:Int)<3))=true from rfl,show (decide ((2:Int)>0))=true from rfl,ah,af,ob,lH];have:decide (((s:Nat):Int)>0)=false:=by simp;omega
 rw [this];simp only [af];rcases aH q S.length with o | t
 ·obtain ⟨c,hc⟩:∃c,S[q]?=some c:=⟨S[q],bh o⟩;have b:decide (S.length<=q)=false:=by simp;omega
  rw [b];simp only [af,eG hc,ob];have u:(((c.toNat:Nat):Int) != 45)=!(c==45):=by rw [bne];congr 1;exact n7 c 45
  rw [u,cA hc,kn];by_cases a:c=45
  ·have w:IntKind.wrap .i64 ((q:Int)+1)=((q+1:Nat):Int):=by rw [wrap_i64 _ (by omega) (by omega)];omega
   rw [ae a,ab (show ¬((1:Nat)=0) by omega),a];simp only [uG,cZ,af,ob,w];rw [v _ (by omega)];simp only [ob,show ix 3 2=some 2 from rfl,show Nat.blt 2 3=true from rfl,ah,fM,iE,show ((2:Int)==0)=false from rfl,show ((2:Int)==1)=false from rfl,af];have b1:=kA (show q+1<=S.length by omega);rw [Ol (m+300) (by omega) S _ b1 y 0];by_cases d:twoN (S.drop (mkE S (q+1)))<2
   ·rw [ae d,ae d];rfl
   ·rw [ab d,ab d];simp only [ob,d4,d8,d16,show ((0:Int) != 0)=false from rfl,af];rw [v _ (vu d)];rfl
  ·have:(c==45)=false:=aK.2 a;rw [ab a,ae rfl,this];rfl
 ·have b:decide (S.length<=q)=true:=by simp;omega
  rw [b,jE t,wR,ae rfl];rfl
theorem Gg (m:Nat) (S:aa) (a:Nat) (h:a<=S.length) (t:S.length<100000) (v:S.length<m+300):
  ∃P:List Int,P.length=3/\je (m+300) S (a:Int)=some (Xa S P (rD S a)):=by
 have b:∀p,mkS (S.drop p)<4:=λp=>Ed _;have r:∀p q,ew (m+300) [((mkS (S.drop p):Nat):Int),0,0] [((mkS (S.drop q):Nat):Int),0,0] 1=some (l3 (spM (mkS (S.drop p),0,0) (mkS (S.drop q),0,0))):=λp q=>
  vg (m+300) (by omega) 1 (mkS (S.drop p),0,0) (mkS (S.drop q),0,0) (by omega) ⟨b p,by simp,by simp,by simp,by simp⟩ ⟨b q,by simp,by simp,by simp,by simp⟩
 have u:∀p q i e,ew (m+300) [((mkS (S.drop p):Nat):Int),((mkS (S.drop i):Nat):Int),0] [((mkS (S.drop q):Nat):Int),((mkS (S.drop e):Nat):Int),0] 2=some (l3 (spM (mkS (S.drop p),mkS (S.drop i),0) (mkS (S.drop q),mkS (S.drop e),0))):=λp q i e=>
  vg (m+300) (by omega) 2 (mkS (S.drop p),mkS (S.drop i),0) (mkS (S.drop q),mkS (S.drop e),0) (by omega) ⟨b p,b i,by simp,by simp,by simp⟩ ⟨b q,b e,by simp,by simp,by simp⟩
 have w:∀p q i e f d,ew (m+300) [((mkS (S.drop p):Nat):Int),((mkS (S.drop i):Nat):Int),((mkS (S.drop f):Nat):Int)] [((mkS (S.drop q):Nat):Int),((mkS (S.drop e):Nat):Int),((mkS (S.drop d):Nat):Int)] 3=some (l3 (spM (mkS (S.drop p),mkS (S.drop i),mkS (S.drop f)) (mkS (S.drop q),mkS (S.drop e),mkS (S.drop d)))):=λp q i e f d=>
  vg (m+300) (by omega) 3 (mkS (S.drop p),mkS (S.drop i),mkS (S.drop f)) (mkS (S.drop q),mkS (S.drop e),mkS (S.drop d)) (by omega) ⟨b p,b i,b f,by simp,by simp⟩ ⟨b q,b e,b d,by simp,by simp⟩
 have b0:=kA h;unfold je rD;show ∃P:List Int,P.length=3/\ob (au (bi (m+300)) (m+299+1) (rdSt S 0 false false [] 0 0 [] [] [0,0,0] [0,0,0] [0,0,0] a)) _=_;rw [au,YX m S a h t v];cases G:pU (S.drop (mkE S a)) with
 | inl k=>(refine ⟨_,?_,rfl⟩;rfl)
 | inr y=>
  obtain ⟨g,l,dg,x,s,k⟩:=y;have bk:mkE S a+k<=S.length:=by
   have:=(rh G).2.1;rw [bP] at this;omega
  have b1:=kA bk;show ∃P:List Int,P.length=3/\ob (au (bi (m+300)) (m+298+1) (rdSt S 1 g l dg (x:Int) (s:Int) [] [] [((mkE S a:Nat):Int),0,0] [((mkS (S.drop a):Nat):Int),0,0] [((mkS (S.drop (mkE S a+k)):Nat):Int),0,0] (mkE S (mkE S a+k)))) _=_;rw [au,XY m S g l dg x s _ _ _ _ b1 t v];simp only [];by_cases hc:0<s\/fq 45 (S.drop (mkE S (mkE S a+k)))=0
  ·rw [ae hc,ae hc];refine ⟨[0,0,0],rfl,?_⟩;simp only [ob,d4,d8,d16];rw [r];rfl
  ·rw [ab hc,ab hc];have hs:¬0<s:=λz=>hc (.inl z);have o:=rO (λz=>hc (.inr z));have J:=kA o;unfold rd2;by_cases j:twoN (S.drop (mkE S (mkE S (mkE S a+k)+1)))<2
   ·rw [ae j,ae j];(refine ⟨_,?_,rfl⟩;rfl)
   ·rw [ab j,ab j];have b2:=vu j;have I:=kA b2;show ∃P:List Int,P.length=3/\ob (au (bi (m+300)) (m+297+1) (rdSt S 2 g l dg (x:Int) (s:Int) _ [] [_,_,0] [_,_,0] [_,_,0] (mkE S (mkE S (mkE S (mkE S a+k)+1)+2)))) _=_;rw [au,XS m S g l dg x s _ _ _ _ _ _ _ _ I t v hs];by_cases c:fq 45 (S.drop (mkE S (mkE S (mkE S (mkE S a+k)+1)+2)))=0
    ·rw [ae c,ae c];refine ⟨[0,0,0],rfl,?_⟩;simp only [ob,d4,d8,d16];rw [u];rfl
    ·rw [ab c,ab c];have C:=rO c;have F:=kA C;unfold rd3;by_cases n:twoN (S.drop (mkE S (mkE S (mkE S (mkE S (mkE S a+k)+1)+2)+1)))<2
     ·rw [ae n,ae n];(refine ⟨_,?_,rfl⟩;rfl)
     ·rw [ab n,ab n];have H:∀(E D:aa) (P A B:List Int) (p:Nat),bi (m+300) (rdSt S 3 g l dg (x:Int) (s:Int) E D P A B p)=some (.inr (.inl (3,false,false,[],0,0,[],[],0,0,0,[0,0,0],[],0,0,g,l,dg,(x:Int),(s:Int),E,D,0,0,0,P,A,B,S,(p:Int),0))):=λ_ _ _ _ _ _=>rfl;show ∃P:List Int,P.length=3/\ob (au (bi (m+300)) (m+296+1) (rdSt S 3 g l dg (x:Int) (s:Int) _ _ _ _ _ _)) _=_;rw [au,H];refine ⟨[0,0,0],rfl,?_⟩;simp only [ob,d4,d8,d16];rw [w];rfl
theorem TM (n a:Nat) (q:a<65536):∃d,kz n (a:Int)=some d/\d.length=4/\∀c∈d,bf c=true:=by
 have p:Int.tmod (a:Int) 10000=((a%10000:Nat):Int):=rfl;have o:a%10000<10000:=tJ _ (by decide);generalize a%10000=N at *;have m:Int.tdiv (N:Int) 1000=((N / 1000:Nat):Int):=rfl;have k:Int.tdiv (N:Int) 100=((N / 100:Nat):Int):=rfl;have i:Int.tdiv (N:Int) 10=((N / 10:Nat):Int):=rfl;have h:IntKind.wrap .u16 ((N / 1000:Nat):Int)=((N / 1000:Nat):Int):=wy _ (by omega) (by omega);have f:IntKind.wrap .u16 ((N / 100:Nat):Int)=((N / 100:Nat):Int):=wy _ (by omega) (by omega);have j:IntKind.wrap .u16 ((N / 10:Nat):Int)=((N / 10:Nat):Int):=wy _ (by omega) (by omega);have m2:Int.tmod ((N / 100:Nat):Int) 10=((N / 100%10:Nat):Int):=rfl;have g:Int.tmod ((N / 10:Nat):Int) 10=((N / 10%10:Nat):Int):=rfl;have l:Int.tmod (N:Int) 10=((N%10:Nat):Int):=rfl;have s:∀r:Nat,r<10->IntKind.wrap .u16 ((r:Int)+1)=((r+1:Nat):Int):=λr e=>by rw [wy _ (by omega) (by omega)];omega
 refine ⟨[UInt8.ofNat (48+N / 1000),UInt8.ofNat (48+N / 100%10),UInt8.ofNat (48+N / 10%10),UInt8.ofNat (48+N%10)],?_,rfl,?_⟩
 ·simp only [kz,p,m,k,i,h,f,j,m2,g,l,s (N / 1000) (by omega),s (N / 100%10) (by omega),s (N / 10%10) (by omega),s (N%10) (by omega),cM (show N / 1000+1<=10 by omega),cM (show N / 1000<=N / 1000+1 by omega),cM (show N / 100%10+1<=10 by omega),cM (show N / 100%10<=N / 100%10+1 by omega),cM (show N / 10%10+1<=10 by omega),cM (show N / 10%10<=N / 10%10+1 by omega),cM (show N%10+1<=10 by omega),cM (show N%10<=N%10+1 by omega),ob,cutD (N / 1000) (by omega),cutD (N / 100%10) (by omega),cutD (N / 10%10) (by omega),cutD (N%10) (by omega)];rw [cJ (by simp)];simp only [];rw [cJ (by simp)];simp only [];rw [cJ (by simp)];rfl
 ·have b:∀r:Nat,r<10->bf (UInt8.ofNat (48+r))=true:=λr e=>(bX _).2 (by rw [ma e];omega);simp only [cf,mG,nG,Br,forall_eq];exact ⟨b _ (by omega),b _ (by omega),b _ (by omega),b _ (by omega)⟩
theorem xh (n:Nat) (g l:Bool) (d:aa) (x s:Int) (c:200<n) (e:d.length<=100) (h:okY false l d x s):∃b,(ob (cO n g l d x s) λr=>(cond (r==0) (some (false,l,d,x,s)) (some (g,l,d,x,s))))=some (b,l,d,x,s)/\okY b l d x s:=by
 rw [Di n g l d x s c e];by_cases a:okY g l d x s
 ·rw [ae a];exact ⟨g,rfl,a⟩
 ·rw [ab a];exact ⟨false,rfl,h⟩
theorem wK {d:aa} {s:Int} (a:d.length=4) (e:∀c∈d,bf c=true\/c=88) (g:0<=s) (f:s<=4) (b:¬(0<s/\hasX d=true)):okY false false d 0 s:=by
 have:okS false d 0 s:=⟨a,e,rfl,by simp,g,f,b⟩;simpa [okY] using this
theorem Tu (n:Nat) (a b:Int) (g:Bool) (d:aa) (A:d.length=4) (o:∀c∈d,bf c=true) (B:4<n):
  ∃s:aa,au (gf n) n (a,b,[],0,false,false,[],0,0,g,false,d,0,0)=some (s,false,false,[],0,0,g,false,d,0,0)/\s.length=4/\∀c∈s,bf c=true\/c=88:=by
 obtain ⟨y,u,s,r,w,t⟩:=pA (step:=gf n) (λx=>∃(i:Nat) (s:aa),i<=4/\s.length=i/\(∀c∈s,bf c=true\/c=88)/\x=(a,b,s,(i:Int),false,false,[],0,0,g,false,d,0,0)) (λx=>4 - x.2.2.2.1.toNat) (λy=>∃s:aa,y=(s,false,false,[],0,0,g,false,d,0,0)/\s.length=4/\∀c∈s,bf c=true\/c=88) (by
  rintro x ⟨i,s,hi,hs,hc,rfl⟩;rcases aH i 4 with j | z
  ·obtain ⟨c,f⟩:∃c,d[i]?=some c:=⟨d[i],bh (by omega)⟩;have m:decide ((i:Int)<4)=true:=am (by omega);have p:IntKind.wrap .i64 ((i:Int)+1)=((i+1:Nat):Int):=by rw [wrap_i64 _ (by omega) (by omega)];omega
   have next:∀e:UInt8,(bf e=true\/e=88)->∃h,some (Sum.inl (a,b,s++[e],((i+1:Nat):Int),false,false,([]:aa),(0:Int),(0:Int),g,false,d,(0:Int),(0:Int)))=some (Sum.inl (β:=aa×Bool×Bool×aa×Int×Int×Bool×Bool×aa×Int×Int) h)/\(∃(i:Nat) (s:aa),i<=4/\s.length=i/\(∀c∈s,bf c=true\/c=88)/\h=(a,b,s,(i:Int),false,false,[],0,0,g,false,d,0,0))/\4 - h.2.2.2.1.toNat<4 - i:=by
    intro e l;refine ⟨_,rfl,⟨i+1,s++[e],j,by simp [hs],?_,rfl⟩,by simp only [bR];omega⟩;intro v k;rcases mJ.1 k with q | q
    ·exact hc v q
    ·simp only [cf,mG,nG] at q;rw [q];exact l
   simp only [gf,m,ah,p,bR,cM (show i+1<=d.length by omega),cM (show i<=i+1 by omega),ob,cut1 f];rw [cJ (a:=s) (b:=[88]) (by simp;omega),cJ (a:=s) (b:=[c]) (by simp;omega)];simp only [];left;cases ((i:Int)==a)
   ·cases ((i:Int)==b)
    ·exact next c (.inl (o c (fS f)))
    ·exact next 88 (.inr rfl)
   ·exact next 88 (.inr rfl)
  ·have:i=4:=by omega
   subst this;exact .inr ⟨_,rfl,s,rfl,hs,hc⟩) n (a,b,[],0,false,false,[],0,0,g,false,d,0,0) ⟨0,[],by omega,rfl,by simp,rfl⟩ (by simp;omega)
 exact ⟨s,by rw [u,r],w,t⟩
theorem cut9 (r:Nat) (h:r<9):List.drop r (List.take (r+1) ([49,50,51,52,53,54,55,56,57]:aa))=[UInt8.ofNat (49+r)]:=by
 have:∀r,r<9->List.drop r (List.take (r+1) ([49,50,51,52,53,54,55,56,57]:aa))=[UInt8.ofNat (49+r)]:=by decide
 exact this r h
theorem IJ {d:aa} {x s:Nat} (b:∀c∈d,bf c=true) (h:1<=d.length) (n:d.length<=5) (i:d.head?≠some 48) (g:x<=11) (j:x=0->d.length=5) (m:s<=d.length+x):okY false true d (x:Int) (s:Int):=by
 have a:=rE d 0 0 b (by simp);have hp:(10:Nat) ^ (d.length+0)<=10 ^ 5:=kI (by decide) (by omega);have f:(10:Nat) ^ x<=10 ^ 11:=kI (by decide) g;have l:=wN (Nat.le_of_lt (oL a hp)) f;have e:(10:Nat) ^ 5*10 ^ 11=E16:=by decide
 have:okL d (x:Int) (s:Int):=⟨⟨b,h,by omega,i,by omega,by omega,by rintro ⟨o,k⟩;have:=j (by omega);omega,by simp only [bR];omega⟩,by omega,by omega⟩;simpa [okY] using this
theorem SK (m a0 a2 a b:Nat) (g:Bool) (h2:a2<65536) (Y:a<256) (h4:b<256):∃f l d x s,ji (m+300) (a0:Int) g (a2:Int) (a:Int) (b:Int)=some (f,l,d,x,s)/\okY f l d x s/\d.length<=5/\x<=11/\(a0%6≠3->hasX d=false):=by
 obtain ⟨d,K,k,h⟩:=TM (m+300) a2 h2;have y:∀c∈d,bf c=true\/c=88:=λc hc=>.inl (h c hc);have p:=tX h;unfold ji;rw [K];simp only [ob];cases Q:(Int.tmod (a0:Int) 6==3) with
 | true=>
  simp only [ah];obtain ⟨s,R,V,O⟩:=Tu (m+300) (IntKind.wrap .i64 (Int.tmod (a:Int) 4)) (IntKind.wrap .i64 (Int.tmod (b:Int) 4)) g d k h (by omega);rw [R];obtain ⟨f,j,i⟩:=xh (m+300) g false s 0 0 (by omega) (by omega) (wK V O (by omega) (by omega) (by omega))
  exact ⟨f,false,s,0,0,j,i,by omega,by omega,λY=>absurd (by
   have e:=bu.1 Q;have e2:Int.tmod (a0:Int) 6=((a0%6:Nat):Int):=rfl;omega) Y⟩
 | false=>
  simp only [af];cases (Int.tmod (a0:Int) 6==4) with
  | true=>
   simp only [ah];have e:Int.tmod (a:Int) 4=((a%4:Nat):Int):=rfl;have w1:IntKind.wrap .i64 ((a%4:Nat):Int)=((a%4:Nat):Int):=wrap_i64 _ (by omega) (by omega);have w2:IntKind.wrap .i64 (1+((a%4:Nat):Int))=((1+a%4:Nat):Int):=by rw [wrap_i64 _ (by omega) (by omega)];omega
   rw [e,w1,w2];obtain ⟨f,j,i⟩:=xh (m+300) g false d 0 ((1+a%4:Nat):Int) (by omega) (by omega) (wK k y (by omega) (by omega) (by rw [p];simp));exact ⟨f,false,d,0,_,j,i,by omega,by omega,λ_=>p⟩
  | false=>
   simp only [af];cases (Int.tmod (a0:Int) 6==5) with
   | false=>
    simp only [af];obtain ⟨f,j,i⟩:=xh (m+300) g false d 0 0 (by omega) (by omega) (wK k y (by omega) (by omega) (by omega));exact ⟨f,false,d,0,0,j,i,by omega,by omega,λ_=>p⟩
   | true=>
    simp only [ah];have e9:Int.tmod (a:Int) 9=((a%9:Nat):Int):=rfl;have w9:IntKind.wrap .u8 (((a%9:Nat):Int)+1)=((a%9+1:Nat):Int):=by rw [ia _ (by omega) (by omega)];omega
    have e3:Int.tmod (b:Int) 3=((b%3:Nat):Int):=rfl;have e5:Int.tmod (b:Int) 5=((b%5:Nat):Int):=rfl;have w5:IntKind.wrap .u8 (1+((b%5:Nat):Int))=((1+b%5:Nat):Int):=by rw [ia _ (by omega) (by omega)];omega
    have M:Int.tdiv (b:Int) 16=((b / 16:Nat):Int):=rfl;have T:IntKind.wrap .u8 ((b / 16:Nat):Int)=((b / 16:Nat):Int):=ia _ (by omega) (by omega);have B:Int.tmod ((b / 16:Nat):Int) 11=((b / 16%11:Nat):Int):=rfl;have F:IntKind.wrap .i64 ((b / 16%11:Nat):Int)=((b / 16%11:Nat):Int):=wrap_i64 _ (by omega) (by omega);have N:IntKind.wrap .i64 (1+((b / 16%11:Nat):Int))=((1+b / 16%11:Nat):Int):=by rw [wrap_i64 _ (by omega) (by omega)];omega
    have U:Int.tdiv (a:Int) 16=((a / 16:Nat):Int):=rfl;have H:IntKind.wrap .u8 ((a / 16:Nat):Int)=((a / 16:Nat):Int):=ia _ (by omega) (by omega);have G:IntKind.wrap .i64 ((a / 16:Nat):Int)=((a / 16:Nat):Int):=wrap_i64 _ (by omega) (by omega);have S:UInt8.ofNat (49+a%9)≠48:=by
     intro q;have:=cK UInt8.toNat q;rw [show 49+a%9=48+(1+a%9) by omega,ma (by omega)] at this;exact absurd this (by show ¬48+(1+a%9)=48;omega)
    have o:bf (UInt8.ofNat (49+a%9))=true:=(bX _).2 (by rw [show 49+a%9=48+(1+a%9) by omega,ma (by omega)];omega);rw [e9,w9,cM (show a%9+1<=9 by omega)];simp only [];rw [cM (show a%9<=a%9+1 by omega)];simp only [];rw [cut9 (a%9) (by omega),cJ (by simp;omega)];simp only [];generalize W:[UInt8.ofNat (49+a%9)]++d=D;have z:D.length=5:=by rw [<-W];simp [k]
    have n:∀c∈D,bf c=true:=by
     rw [<-W];intro c hc;simp only [eW,dJ,cf] at hc;rcases hc with rfl | hc
     ·exact o
     ·exact h c hc
    have v:D.head?≠some 48:=by rw [<-W];simpa using S
    rw [e3,e5,w5,M,T,B,F,N,U,H,G];by_cases Z:0<b%3
    ·have C:decide (((b%3:Nat):Int)>0)=true:=am (by omega);rw [C,ah,cM (show 1+b%5<=D.length by omega)];simp only [cw];generalize P:List.take (1+b%5) D=E;have hEl:E.length=1+b%5:=by rw [<-P,dq];omega
     have A:∀c∈E,bf c=true:=by rw [<-P];exact λc hc=>n c (List.mem_of_mem_take hc)
     have I:E.head?≠some 48:=by
      rw [<-P];cases D with
      | nil=>simp at z
      | cons c r=>rw [qb,mK];simpa using v
     generalize hX:1+b / 16%11=X;have w:X<=11:=by omega
     have hX1:1<=X:=by omega
     have L:IntKind.wrap .i64 (IntKind.wrap .i64 (((E.length:Nat):Int)+((X:Nat):Int))+1)=((E.length+X+1:Nat):Int):=by
      rw [wrap_i64 (((E.length:Nat):Int)+((X:Nat):Int)) (by omega) (by omega),wrap_i64 _ (by omega) (by omega)];omega
     have u:(((E.length+X+1:Nat):Int)==0)=false:=aK.2 (by omega);rw [L,u,af];have J:Int.tmod ((a / 16:Nat):Int) ((E.length+X+1:Nat):Int)=((a / 16%(E.length+X+1):Nat):Int):=rfl;rw [J];have t:a / 16%(E.length+X+1)<E.length+X+1:=tJ _ (by omega);generalize a / 16%(E.length+X+1)=s at t ⊢;obtain ⟨f,j,i⟩:=xh (m+300) g true E ((X:Nat):Int) ((s:Nat):Int) (by omega) (by omega) (IJ A (by omega) (by omega) I w (by omega) (by omega));exact ⟨f,true,E,_,_,j,i,by omega,by omega,λ_=>tX A⟩
    ·have C:decide (((b%3:Nat):Int)>0)=false:=ar (by omega);rw [C,af,z];have L:IntKind.wrap .i64 (IntKind.wrap .i64 (((5:Nat):Int)+0)+1)=((6:Nat):Int):=by decide
     have u:(((6:Nat):Int)==0)=false:=rfl;rw [L,u,af];have J:Int.tmod ((a / 16:Nat):Int) ((6:Nat):Int)=((a / 16%6:Nat):Int):=rfl;rw [J];have t:a / 16%6<6:=tJ _ (by omega);generalize a / 16%6=s at t ⊢;obtain ⟨f,j,i⟩:=xh (m+300) g true D ((0:Nat):Int) ((s:Nat):Int) (by omega) (by omega) (IJ n (by omega) (by omega) v (by omega) (by omega) (by omega));exact ⟨f,true,D,_,_,j,i,by omega,by omega,λ_=>tX n⟩
theorem VE (m a0 a2 b f:Nat) (g:Bool) (c:a2<65536) (i:b<256) (j:f<256):∃a l d x s,ji (m+300) (a0:Int) g (a2:Int) (b:Int) (f:Int)=some (a,l,d,x,s)/\okY a l d x s/\d.length<=5/\x<=11:=by
 obtain ⟨a,l,d,x,s,e,h,k,c,_⟩:=SK m a0 a2 b f g c i j;exact ⟨a,l,d,x,s,e,h,k,c⟩
theorem ua {g l:Bool} {d:aa} {x s:Nat} (h:okY g l d (x:Int) (s:Int)):(gH g l d (x:Int) (s:Int)).length<=25:=by
 have hs:=iY h;have e:=xH 69 (show x<100 by omega);have b:=xH 83 (show s<100 by omega);rw [ki];simp only [aR];have a:(if l=true then ([89]:aa) else []).length<=1:=by split<;>simp
 have c:(if g=true then ([45]:aa) else []).length<=1:=by split<;>simp
 omega
end Go.Sh
