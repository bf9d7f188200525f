/- Plain proofs, kept as far as they are needed here (printed by prune.py).
   Conditions: none. -/
import Derived.Laws.RangeString
import Derived.Laws.RangeAny
import Derived.Test.YtpkdacjndoiabaaGreatDoorShL
import Derived.Lib.IndexLaws
import Derived.Test.YtpkdacjndoiabaaGreatDoorAbsZ
set_option linter.unusedVariables false
set_option linter.unusedSimpArgs false
set_option maxRecDepth 100000
namespace Go.Sh
open Go.Abs
theorem fe {X Y:Type} {step:X->Option (X⊕Y)} (I:X->Prop) (μ:X->Nat) (G:X->Y)
  (h:∀x,I x->(∃x',step x=some (.inl x')/\I x'/\μ x'<μ x/\G x'=G x)\/step x=some (.inr (G x))):
  ∀(n:Nat) (x:X),I x->μ x<n->aw step n x=some (G x)
 | 0,x,_,hm=>by omega
 | n+1,x,hx,hm=>by
  rcases h x hx with ⟨x',h1,h2,h3,h4⟩ | h1
  ·simp only [aw,h1]
   rw [fe I μ G h n x' h2 (by omega),h4]
  ·simp only [aw,h1]
theorem og {X Y:Type} {step:X->Option (X⊕Y)} (I:X->Prop) (μ:X->Nat) (Q:Y->Prop)
  (h:∀x,I x->(∃x',step x=some (.inl x')/\I x'/\μ x'<μ x)\/∃y,step x=some (.inr y)/\Q y):
  ∀(n:Nat) (x:X),I x->μ x<n->∃y,aw step n x=some y/\Q y
 | 0,x,_,hm=>by omega
 | n+1,x,hx,hm=>by
  rcases h x hx with ⟨x',h1,h2,h3⟩ | ⟨y,h1,h2⟩
  ·simp only [aw,h1]
   exact og I μ Q h n x' h2 (by omega)
  ·exact ⟨y,by simp only [aw,h1],h2⟩
theorem MA {X Y:Type} {step:X->Option (X⊕Y)} {f:Nat->X} {y:Y}:∀{m n:Nat},(∀i,i<m->step (f i)=some (.inl (f (i+1))))->step (f m)=some (.inr y)->m<n->aw step n (f 0)=some y:=by
 intro m n h he hn
 have go:∀(j i:Nat),i+j=m->∀n,j<n->aw step n (f i)=some y:=by
  intro j
  induction j with
  | zero=>
   intro i hi n hn
   obtain ⟨n,rfl⟩:∃q,n=q+1:=⟨n - 1,by omega⟩
   have:i=m:=by omega
   subst this
   simp [aw,he]
  | succ j ih=>
   intro i hi n hn
   obtain ⟨n,rfl⟩:∃q,n=q+1:=⟨n - 1,by omega⟩
   simp only [aw,h i (by omega)]
   exact ih (i+1) (by omega) n (by omega)
 exact go m 0 (by omega) n hn
theorem y8 (x:Int):0<=IntKind.wrap .u8 x/\IntKind.wrap .u8 x<256:=by
 show 0<=x%256/\x%256<256
 omega
theorem fN (x:Int) (h0:0<=x) (h1:x<256):IntKind.wrap .u8 x=x:=by
 show x%256=x
 omega
theorem F7 (x:Int):IntKind.wrap .u8 x=x%256:=rfl
theorem wrap_i64 (x:Int) (h0:-9223372036854775808<=x) (h1:x<9223372036854775808):IntKind.wrap .i64 x=x:=by
 simp only [IntKind.wrap,IntKind.signed,IntKind.bits]
 simp
 omega
theorem iw {l:aa} {i:Nat} {c:UInt8} (h:l[i]?=some c):sx l (i:Int)=some c:=by
 simp [sx,h]
theorem cT {n i:Nat} (h:i<n):ix n (i:Int)=some i:=by
 simp [ix];omega
theorem dG {n i:Nat} (h:i<=n):bx n (i:Int)=some i:=by
 simp [bx];omega
theorem CU {l:aa} {i:Nat} {c:UInt8} (h:l[i]?=some c) (hc:c.toNat<128):dec l i=(c.toNat,1):=by
 have hlt:i<l.length:=by
  rcases aG i l.length with h' | h'
  ·exact h'
  ·rw [fk h'] at h;cases h
 have hs:i<(ByteArray.mk l.toArray).size:=hlt
 have hg:(ByteArray.mk l.toArray)[i]'hs=c:=by
  rw [bm hlt] at h
  simp only [aq] at h
  exact h
 unfold dec
 rw [decode_ascii _ i hs (by rw [hg];exact hc),hg]
theorem D0 {l:aa} {i:Nat} {c:UInt8} (h:l[i]?=some c) (hc:128<=c.toNat):128<=(dec l i).1/\1<=(dec l i).2:=by
 have hlt:i<l.length:=by
  rcases aG i l.length with h' | h'
  ·exact h'
  ·rw [fk h'] at h;cases h
 have hs:i<(ByteArray.mk l.toArray).size:=hlt
 have hg:(ByteArray.mk l.toArray)[i]'hs=c:=by
  rw [bm hlt] at h
  simp only [aq] at h
  exact h
 unfold dec
 exact decode_high _ i hs (by rw [hg];exact hc)
theorem wM {α:Type} {l:List α} {i:Nat} {c:α} (h:l[i]?=some c):i<l.length:=by
 rcases aG i l.length with h' | h'
 ·exact h'
 ·rw [fk h'] at h;cases h
theorem fi {α:Type} {l:List α} {i:Nat} {c:α} (h:l[i]?=some c):l.drop i=c::l.drop (i+1):=by
 have hlt:=wM h
 rw [bm hlt] at h
 simp only [aq] at h
 rw [<-h,wJ hlt]
theorem gR {α β:Type} [BEq α] [LawfulBEq α] [DecidableEq α] (a b:α) (x y:β):(cond (a==b) x y)=if a=b then x else y:=by
 by_cases h:a=b
 ·subst h;simp
 ·rw [aM.2 h];simp [h]
theorem uj {α β:Type} [BEq α] [LawfulBEq α] [DecidableEq α] (a b:α) (x y:β):(cond (a != b) x y)=if a=b then y else x:=by
 by_cases h:a=b
 ·subst h;simp
 ·rw [bne,aM.2 h];simp [h]
theorem bP {β:Type} (p:Prop) [Decidable p] (x y:β):(cond (decide p) x y)=if p then x else y:=by
 by_cases h:p<;>simp [h]
theorem D8 {β:Type} (b:Bool) (x y:β):(cond (!b) x y)=cond b y x:=by cases b<;>rfl
theorem mH (a b:Nat):(decide (((a:Nat):Int)<((b:Nat):Int)))=decide (a<b):=by
 by_cases h:a<b<;>simp [h]
theorem FK (a b:Nat):(decide (((a:Nat):Int)>=((b:Nat):Int)))=decide (b<=a):=by
 by_cases h:b<=a<;>simp [h]
theorem xp (c d:UInt8):((((c.toNat:Nat):Int))==((d.toNat:Nat):Int))=(c==d):=by
 by_cases h:c=d
 ·subst h;simp
 ·have h1:c.toNat≠d.toNat:=λe=>h (ip.1 e)
  have h2:((c.toNat:Nat):Int)≠((d.toNat:Nat):Int):=by omega
  rw [aM.2 h2,aM.2 h]
theorem Rh (c:UInt8):UInt8.ofNat (Int.toNat ((c.toNat:Nat):Int))=c:=by simp
def two (c:Nat):aa:=[UInt8.ofNat (48+c / 10),UInt8.ofNat (48+c%10)]
def sea (m:aa):Int:=match (List.range 21).find? (λj=>m==two (21+j)) with | some j=>((21+j:Nat):Int) | none=>0
theorem ka {j:Nat} (hj:j<21):sea (two (21+j))=((21+j:Nat):Int):=by
 have:((List.range 21).all λj=>sea (two (21+j))==((21+j:Nat):Int))=true:=by decide +kernel
 simpa using (List.all_eq_true.1 this) j (by simpa using hj)
theorem n7 (m:aa):sea m=0\/∃j,j<21/\m=two (21+j):=by
 unfold sea
 split
 ·rename_i j h
  have h1:=List.find?_some h
  have h2:=List.mem_of_find?_eq_some h
  exact .inr ⟨j,by simpa using h2,by simpa using h1⟩
 ·exact .inl rfl
theorem oW {b:UInt8} {d:Nat} (h:Lib.digitVal b=some d):d<10/\b.toNat=48+d:=by
 unfold Lib.digitVal at h
 split at h
 ·cases h;omega
 ·cases h
theorem J7 {a b:UInt8} {v:Int} (h:Lib.atoi [a,b]=some v) (h1:21<=v) (h2:v<42):∃j,j<21/\[a,b]=two (21+j)/\v=((21+j:Nat):Int):=by
 obtain ⟨b0,r,e,h3⟩:=Lib.atoi_cases h
 cases e
 rcases h3 with ⟨_,m,_,_,h4⟩ | ⟨_,m,_,h5,h4⟩ | ⟨_,_,m,h5,h4⟩
 ·omega
 ·simp only [Lib.decFrom] at h5
  split at h5
  ·rename_i d hd
   have:=(oW hd).1
   simp only [aq] at h5
   omega
  ·cases h5
 ·simp only [Lib.decFrom] at h5
  split at h5
  ·rename_i d hd
   split at h5
   ·rename_i d' hd'
    obtain ⟨k1,k2⟩:=oW hd
    obtain ⟨k3,k4⟩:=oW hd'
    simp only [aq] at h5
    refine ⟨m - 21,by omega,?_,by omega⟩
    have e0:(21+(m - 21)) / 10=d:=by omega
    have e1:(21+(m - 21))%10=d':=by omega
    unfold two
    rw [e0,e1,<-k2,<-k4]
    simp
   ·cases h5
  ·cases h5
theorem wG {j:Nat} (hj:j<21):Lib.atoi (two (21+j))=some ((21+j:Nat):Int):=by
 have:((List.range 21).all λj=>Lib.atoi (two (21+j))==some ((21+j:Nat):Int))=true:=by decide +kernel
 simpa using (List.all_eq_true.1 this) j (by simpa using hj)
theorem se (n:Nat) (g l:Bool) (dg:aa) (x q:Int) (m d:aa) (k0 k1 k2:Int) (hm:m.length<=18):cr n g l dg x q m d k0 k1 k2=some (sea m,decide (0<sea m)):=by
 have hb:Nat.ble m.length 18=true:=dq hm
 rcases n7 m with h0 | ⟨j,hj,rfl⟩
 ·unfold cr
  rw [hb,h0]
  show opt (Lib.atoi m) _ _=_
  cases ha:Lib.atoi m with
  | none=>rfl
  | some v=>
   show cond _ _ _=_
   by_cases hl:m.length=2
   ·rw [hl]
    obtain ⟨a,b,rfl⟩:∃a b,m=[a,b]:=by
     match m,hl with
     | [a,b],_=>exact ⟨a,b,rfl⟩
    show ob (du n v) _=_
    unfold du
    rw [bP,bP]
    split
    ·rfl
    ·split
     ·rfl
     ·exfalso
      obtain ⟨j,hj,e,_⟩:=J7 ha (by omega) (by omega)
      rw [e,ka hj] at h0
      omega
   ·rw [show (((m.length:Nat):Int) != 2)=true by simp;omega]
    rfl
 ·rw [ka hj]
  have e:cr n g l dg x q (two (21+j)) d k0 k1 k2=some (((21+j:Nat):Int),true):=by
   unfold cr
   rw [hb,wG hj]
   show ob (du n ((21+j:Nat):Int)) _=_
   unfold du
   rw [bP,bP,ab (by omega),ab (by omega)]
   rfl
  rw [e]
  have:decide (0<((21+j:Nat):Int))=true:=by simp;omega
  rw [this]
theorem GP (n:Nat) {c:Nat} (hc:c<100):aS n (c:Int)=some (two c):=by
 have e1:Int.tdiv (c:Int) 10=((c / 10:Nat):Int):=by
  rw [show (10:Int)=((10:Nat):Int) from rfl,<-Int.ofNat_tdiv]
 have e2:Int.tmod (c:Int) 10=((c%10:Nat):Int):=by
  rw [show (10:Int)=((10:Nat):Int) from rfl,<-Int.ofNat_tmod]
 have h1:c / 10<10:=by omega
 have h2:c%10<10:=by omega
 unfold aS
 rw [e1,e2]
 have w1:IntKind.wrap .i64 ((c / 10:Nat):Int)=((c / 10:Nat):Int):=wrap_i64 _ (by omega) (by omega)
 have w2:IntKind.wrap .i64 (((c / 10:Nat):Int)+1)=((c / 10+1:Nat):Int):=by rw [wrap_i64 _ (by omega) (by omega)];omega
 have w3:IntKind.wrap .i64 (((c%10:Nat):Int)+1)=((c%10+1:Nat):Int):=by rw [wrap_i64 _ (by omega) (by omega)];omega
 rw [w1,w2,w3,dG (by omega),dG (by omega)]
 show ob (bx (c / 10+1) ((c / 10:Nat):Int)) _=_
 rw [dG (by omega)]
 show ob (bx (c%10+1) ((c%10:Nat):Int)) _=_
 rw [dG (by omega)]
 unfold two
 generalize c / 10=a at *
 generalize c%10=b at *
 have:((List.range 10).all λa=>(List.range 10).all λb=>ob (cat (List.drop a (List.take (a+1) ([48,49,50,51,52,53,54,55,56,57]:aa))) (List.drop b (List.take (b+1) ([48,49,50,51,52,53,54,55,56,57]:aa)))) (λs=>some s)==some [UInt8.ofNat (48+a),UInt8.ofNat (48+b)])=true:=by decide +kernel
 have h3:=(cL.1 ((cL.1 this) a (by simpa using h1))) b (by simpa using h2)
 simpa using h3
theorem Le {m:aa} (h:∀j,j<21->m≠two (21+j)):sea m=0:=by
 rcases n7 m with h0 | ⟨j,hj,e⟩
 ·exact h0
 ·exact absurd e (h j hj)
theorem uR (n:Nat) (g l:Bool) (dg:aa) (x q:Int) (m d:aa) (k0 k1 k2:Int):∀(r j:Nat),j+r=21->(∀i,i<j->m≠two (21+i))->∀N,r<N->
  aw (bG n) N (((21+j:Nat):Int),g,l,dg,x,q,m,d,k0,k1,k2)=some (if sea m=0 then .inr () else .inl (sea m)):=by
 intro r
 induction r with
 | zero=>
  intro j hj hne N hN
  obtain ⟨N,rfl⟩:∃k,N=k+1:=⟨N - 1,by omega⟩
  have hs:sea m=0:=Le (λi hi=>hne i (by omega))
  rw [aw]
  have:bG n (((21+j:Nat):Int),g,l,dg,x,q,m,d,k0,k1,k2)=some (.inr (.inr ())):=by
   unfold bG
   rw [bP,ab (by show ¬(((21+j:Nat):Int)<=41);omega)]
  rw [this,ae hs]
 | succ r ih=>
  intro j hj hne N hN
  obtain ⟨N,rfl⟩:∃k,N=k+1:=⟨N - 1,by omega⟩
  rw [aw]
  by_cases hm:m=two (21+j)
  ·have hs:sea m=((21+j:Nat):Int):=by rw [hm];exact ka (by omega)
   have:bG n (((21+j:Nat):Int),g,l,dg,x,q,m,d,k0,k1,k2)=some (.inr (.inl ((21+j:Nat):Int))):=by
    unfold bG
    rw [bP,ae (by show ((21+j:Nat):Int)<=41;omega)]
    show ob (aS n ((21+j:Nat):Int)) _=_
    rw [GP n (by omega)]
    show cond (m==two (21+j)) _ _=_
    rw [gR,ae hm]
   rw [this,hs,ab (by omega)]
  ·have:bG n (((21+j:Nat):Int),g,l,dg,x,q,m,d,k0,k1,k2)=some (.inl (((21+(j+1):Nat):Int),g,l,dg,x,q,m,d,k0,k1,k2)):=by
    unfold bG
    rw [bP,ae (by show ((21+j:Nat):Int)<=41;omega)]
    show ob (aS n ((21+j:Nat):Int)) _=_
    rw [GP n (by omega)]
    show cond (m==two (21+j)) _ _=_
    rw [gR,ab hm]
    have:IntKind.wrap .i64 (((21+j:Nat):Int)+1)=((21+(j+1):Nat):Int):=by rw [wrap_i64 _ (by omega) (by omega)];omega
    show some (Sum.inl (IntKind.wrap .i64 (((21+j:Nat):Int)+1),_))=_
    rw [this]
   rw [this]
   exact ih (j+1) (by omega) (λi hi=>by
    rcases aG i j with h | h
    ·exact hne i h
    ·have:i=j:=by omega
     rw [this];exact hm) N (by omega)
theorem kI (n:Nat) (hn:100<n) (g l:Bool) (dg:aa) (x q:Int) (m d:aa) (k0 k1 k2:Int):aK n g l dg x q m d k0 k1 k2=some (sea m):=by
 unfold aK
 have:=uR n g l dg x q m d k0 k1 k2 21 0 rfl (λi hi=>absurd hi (by omega)) n (by omega)
 rw [show ((21+0:Nat):Int)=21 from rfl] at this
 rw [this]
 by_cases h:sea m=0
 ·rw [ae h,h];rfl
 ·rw [ab h];rfl
def agr (s:aa) (k:Nat):Bool:=match s with
 | [a,b]=>(a==88||a==UInt8.ofNat (48+k / 10))&&(b==88||b==UInt8.ofNat (48+k%10))
 | _=>false
def dH (s:aa) (g:Nat):Bool:=(List.range g).any λi=>agr s (i+1)
theorem D3 {X Y:Type} {step:X->Option (X⊕Y)} {f:Nat->X} {p:Nat->Bool} {g:Nat} {yes no:Y} (h:∀k,1<=k->k<=g->step (f k)=some (if p k then .inr yes else .inl (f (k+1)))) (he:step (f (g+1))=some (.inr no)) {N:Nat} (hN:g<N):
  aw step N (f 1)=some (if (List.range g).any (λi=>p (i+1)) then yes else no):=by
 have go:∀(r j:Nat),j+r=g->(∀i,i<j->p (i+1)=false)->∀N,r<N->aw step N (f (j+1))=some (if (List.range g).any (λi=>p (i+1)) then yes else no):=by
  intro r
  induction r with
  | zero=>
   intro j hj hne N hN
   obtain ⟨N,rfl⟩:∃k,N=k+1:=⟨N - 1,by omega⟩
   have:(List.range g).any (λi=>p (i+1))=false:=by
    rw [rP]
    intro i hi
    rw [hne i (by have:=jg.1 hi;omega)]
    simp
   rw [aw,show j+1=g+1 by omega,he,this]
   rfl
  | succ r ih=>
   intro j hj hne N hN
   obtain ⟨N,rfl⟩:∃k,N=k+1:=⟨N - 1,by omega⟩
   rw [aw,h (j+1) (by omega) (by omega)]
   cases hp:p (j+1) with
   | true=>
    have:(List.range g).any (λi=>p (i+1))=true:=qG.2 ⟨j,jg.2 (by omega),hp⟩
    rw [this]
    rfl
   | false=>
    exact ih (j+1) (by omega) (λi hi=>by
     rcases aG i j with h | h
     ·exact hne i h
     ·have:i=j:=by omega
      rw [this];exact hp) N (by omega)
 exact go g 0 (by omega) (λi hi=>absurd hi (by omega)) N hN
theorem tG {a:UInt8} {k:Nat} (hk:k<256):((((a.toNat:Nat):Int))==((k:Nat):Int))=(a==UInt8.ofNat k):=by
 have h:(UInt8.ofNat k).toNat=k:=by simp;omega
 rw [<-xp,h]
theorem JV (n:Nat) (a b:UInt8) {g k:Nat} (h1:1<=k) (h2:k<=g) (h3:g<=31):
  dc n ([a,b],(g:Int),(k:Int))=some (if agr [a,b] k then .inr (.inl true) else .inl ([a,b],(g:Int),((k+1:Nat):Int))):=by
 have e1:Int.tdiv (k:Int) 10=((k / 10:Nat):Int):=by
  rw [show (10:Int)=((10:Nat):Int) from rfl,<-Int.ofNat_tdiv]
 have e2:Int.tmod (k:Int) 10=((k%10:Nat):Int):=by
  rw [show (10:Int)=((10:Nat):Int) from rfl,<-Int.ofNat_tmod]
 have w1:IntKind.wrap .u8 (48+IntKind.wrap .u8 (IntKind.wrap .i64 (Int.tdiv (k:Int) 10)))=((48+k / 10:Nat):Int):=by
  rw [e1,wrap_i64 _ (by omega) (by omega),fN ((k / 10:Nat):Int) (by omega) (by omega),fN _ (by omega) (by omega)]
  omega
 have w2:IntKind.wrap .u8 (48+IntKind.wrap .u8 (Int.tmod (k:Int) 10))=((48+k%10:Nat):Int):=by
  rw [e2,fN ((k%10:Nat):Int) (by omega) (by omega),fN _ (by omega) (by omega)]
  omega
 have w3:IntKind.wrap .i64 ((k:Int)+1)=((k+1:Nat):Int):=by rw [wrap_i64 _ (by omega) (by omega)];omega
 have x88:(88:Int)=((88:Nat):Int):=rfl
 have s0:sx [a,b] 0=some a:=rfl
 have s1:sx [a,b] 1=some b:=rfl
 unfold dc
 rw [bP,ae (show (k:Int)<=(g:Int) by omega)]
 simp only [s0,s1,ob,w1,w2,w3]
 rw [x88,tG (by omega),tG (by omega),tG (by omega),tG (by omega)]
 show _=some (if ((a==UInt8.ofNat 88||a==UInt8.ofNat (48+k / 10))&&(b==UInt8.ofNat 88||b==UInt8.ofNat (48+k%10)))=true then _ else _)
 generalize (a==UInt8.ofNat 88)=p1
 generalize (b==UInt8.ofNat 88)=p2
 generalize (a==UInt8.ofNat (48+k / 10))=p3
 generalize (b==UInt8.ofNat (48+k%10))=p4
 cases p1<;>cases p2<;>cases p3<;>cases p4<;>rfl
theorem Au (n:Nat) (hn:100<n) (s:aa) (g:Nat) (hg:g<=31):cW n s (g:Int)=some (dH s g):=by
 unfold cW
 by_cases hl:s.length=2
 ·obtain ⟨a,b,rfl⟩:∃a b,s=[a,b]:=by
   match s,hl with
   | [a,b],_=>exact ⟨a,b,rfl⟩
  have he:dc n ([a,b],(g:Int),((g+1:Nat):Int))=some (.inr (.inr ())):=by
   unfold dc
   rw [bP,ab (show ¬((g+1:Nat):Int)<=(g:Int) by omega)]
  have:=D3 (f:=λk=>([a,b],(g:Int),((k:Nat):Int))) (p:=agr [a,b]) (g:=g) (N:=n) (λk h1 h2=>JV n a b h1 h2 hg) he (by omega)
  show ob (aw (dc n) n ([a,b],(g:Int),((1:Nat):Int))) _=_
  rw [this]
  unfold dH
  split<;>simp_all [ob]
 ·rw [show (((s.length:Nat):Int) != 2)=true by simp;omega]
  have:dH s g=false:=by
   unfold dH
   rw [rP]
   intro i _
   match s,hl with
   | [],_=>simp [agr]
   | [_],_=>simp [agr]
   | [_,_],h=>exact absurd rfl h
   | _::_::_::_,_=>simp [agr]
  rw [this]
  rfl
theorem tk (n:Nat) (s:aa) (k:Nat) (hk:k<100):dO n s (k:Int)=some (if agr s k then 1 else 0):=by
 unfold dO
 rw [GP n hk]
 show cond _ _ _=_
 by_cases hl:s.length=2
 ·obtain ⟨a,b,rfl⟩:∃a b,s=[a,b]:=by
   match s,hl with
   | [a,b],_=>exact ⟨a,b,rfl⟩
  have s0:sx [a,b] 0=some a:=rfl
  have s1:sx [a,b] 1=some b:=rfl
  have t0:sx (two k) 0=some (UInt8.ofNat (48+k / 10)):=rfl
  have t1:sx (two k) 1=some (UInt8.ofNat (48+k%10)):=rfl
  have x88:(88:Int)=((88:Nat):Int):=rfl
  rw [show (((([a,b]:aa).length:Nat):Int)==2)=true from rfl]
  simp only [s0,s1,t0,t1,ob,aj]
  rw [x88,tG (by omega),tG (by omega),xp,xp]
  show _=some (if ((a==UInt8.ofNat 88||a==UInt8.ofNat (48+k / 10))&&(b==UInt8.ofNat 88||b==UInt8.ofNat (48+k%10)))=true then _ else _)
  generalize (a==UInt8.ofNat 88)=p1
  generalize (b==UInt8.ofNat 88)=p2
  generalize (a==UInt8.ofNat (48+k / 10))=p3
  generalize (b==UInt8.ofNat (48+k%10))=p4
  cases p1<;>cases p2<;>cases p3<;>cases p4<;>rfl
 ·rw [show (((s.length:Nat):Int)==2)=false by simp;omega]
  have:agr s k=false:=by
   match s,hl with
   | [],_=>rfl
   | [_],_=>rfl
   | [_,_],h=>exact absurd rfl h
   | _::_::_::_,_=>rfl
  rw [this]
  rfl
theorem DP (n:Nat) (hn:100<n) (s:aa) (g:Nat) (hg:g<=31):dx n s (g:Int)=some (if dH s g then 1 else 0):=by
 unfold dx
 have he:dr n (s,(g:Int),((g+1:Nat):Int))=some (.inr (.inr ())):=by
  unfold dr
  rw [bP,ab (show ¬((g+1:Nat):Int)<=(g:Int) by omega)]
 have:=D3 (f:=λk=>(s,(g:Int),((k:Nat):Int))) (p:=agr s) (g:=g) (N:=n) (step:=dr n) (yes:=.inl 1) (no:=.inr ()) (λk h1 h2=>by
  unfold dr
  rw [bP,ae (show (k:Int)<=(g:Int) by omega)]
  show ob (dO n s (k:Int)) _=_
  rw [tk n s k (by omega)]
  have w3:IntKind.wrap .i64 ((k:Int)+1)=((k+1:Nat):Int):=by rw [wrap_i64 _ (by omega) (by omega)];omega
  simp only [ob,w3]
  cases agr s k<;>rfl) he (by omega)
 show ob (aw (dr n) n (s,(g:Int),((1:Nat):Int))) _=_
 rw [this]
 unfold dH
 split<;>simp_all [ob]
theorem wQ (n:Nat) {a b:Int} (hb:1<b) (hb2:b<1000) (ha:-4611686018427387904<=a) (ha2:a<4611686018427387904):lg n a b=some (a / b,0):=by
 have n0:(b==0)=false:=by simp;omega
 have n1:(b==-1)=false:=by simp;omega
 unfold lg
 simp only [n0,n1,af]
 have hq:a / b*b+a%b=a:=Int.ediv_mul_add_emod a b
 have hr:=GA a (show b≠0 by omega)
 have hr2:=I8 a (show 0<b by omega)
 have hq1:-4611686018427387904<=a / b:=by
  rw [Int.le_ediv_iff_mul_le (by omega)]
  have:(-4611686018427387904:Int)*b<=-4611686018427387904*1:=Int.mul_le_mul_of_nonpos_left (by omega) (by omega)
  omega
 have hq2:a / b<4611686018427387904:=by
  rw [Int.ediv_lt_iff_lt_mul (by omega)]
  have:(4611686018427387904:Int)*1<=4611686018427387904*b:=Int.mul_le_mul_of_nonneg_left (by omega) (by omega)
  omega
 by_cases h0:0<=a
 ·have e1:Int.tdiv a b=a / b:=Lt h0
  have d1:decide (a<0)=false:=by simp;omega
  have d2:decide (b<0)=false:=by simp;omega
  rw [e1,d1,d2,wrap_i64 (a / b) (by omega) (by omega)]
  cases (Int.tmod a b != 0)<;>rfl
 ·have d1:decide (a<0)=true:=by simp;omega
  have d2:decide (b<0)=false:=by simp;omega
  have e1:=Int.tdiv_eq_ediv (a:=a) (b:=b)
  have e2:=Gb (a:=a) (b:=b)
  rw [d1,d2]
  by_cases hd:b∣a
  ·have hm:Int.tmod a b=0:=by
    rw [e2,ae (.inr hd)]
    have:=Int.emod_eq_zero_of_dvd hd
    omega
   rw [hm,e1,ae (.inr hd)]
   rw [Int.add_zero,wrap_i64 (a / b) (by omega) (by omega)]
   rfl
  ·have hm0:a%b≠0:=λh=>hd (IK h)
   have hm:(Int.tmod a b != 0)=true:=by
    rw [e2,ab (by rintro (h | h);exact h0 h;exact hd h)]
    simp
    omega
   have hs:b.sign=1:=Int.sign_eq_one_of_pos (by omega)
   rw [hm,e1,ab (by rintro (h | h);exact h0 h;exact hd h),hs]
   rw [wrap_i64 (a / b+1) (by omega) (by omega),Int.add_sub_cancel,wrap_i64 (a / b) (by omega) (by omega)]
   rfl
theorem Qc (n:Nat) {a b:Int} (hb:1<b) (hb2:b<1000):uI n a b=some (a%b,0):=by
 have n0:(b==0)=false:=by simp;omega
 have n1:(b==-1)=false:=by simp;omega
 unfold uI
 simp only [n0,n1,af]
 have hr:=GA a (show b≠0 by omega)
 have hr2:=I8 a (show 0<b by omega)
 have e2:=Gb (a:=a) (b:=b)
 have d2:decide (b<0)=false:=by simp;omega
 by_cases hc:0<=a\/b∣a
 ·rw [ae hc] at e2
  have:Int.tmod a b=a%b:=by omega
  rw [this,d2]
  have d1:decide (a%b<0)=false:=by simp;omega
  rw [d1]
  cases h:(a%b != 0)
  ·rfl
  ·rfl
 ·rw [ab hc] at e2
  have hn:(b.natAbs:Int)=b:=by omega
  rw [hn] at e2
  have hm0:a%b≠0:=λh=>hc (.inr (IK h))
  have hm:(Int.tmod a b != 0)=true:=by simp;omega
  have d1:decide (Int.tmod a b<0)=true:=by simp;omega
  rw [hm,d1,d2,e2,wrap_i64 _ (by omega) (by omega),IU]
  rfl
def dJ (y:Int):Prop:=-10000000000000000<=y/\y<=10000000000000000
instance (y:Int):Decidable (dJ y):=by unfold dJ;infer_instance
theorem fI (n:Nat) (y:Int):iH n y=some (if dJ y then 0 else 6):=by
 unfold iH
 rw [bP,bP]
 by_cases h1:y < -10000000000000000
 ·rw [ae h1,ab (show ¬dJ y by unfold dJ;omega)]
 ·by_cases h2:y>10000000000000000
  ·rw [ab h1,ae h2,ab (show ¬dJ y by unfold dJ;omega)]
  ·rw [ab h1,ab h2,ae (show dJ y by unfold dJ;omega)]
theorem rk (n:Nat) {y:Int} (h:-20000000000000000<=y/\y<=20000000000000000):∃z,eV n y=some z:=by
 unfold eV
 rw [wrap_i64 (y - 1) (by omega) (by omega),wQ n (by omega) (by omega) (by omega) (by omega),wQ n (by omega) (by omega) (by omega) (by omega),wQ n (by omega) (by omega) (by omega) (by omega)]
 exact ⟨_,rfl⟩
theorem HR (n:Nat) {y:Int} (h:dJ y):∃b e,jN n y=some (b,e):=by
 unfold jN
 have h':=h
 unfold dJ at h'
 obtain ⟨z1,e1⟩:=rk n (y:=y+1) (by omega)
 obtain ⟨z2,e2⟩:=rk n (y:=y) (by omega)
 rw [fI,ae h,wrap_i64 (y+1) (by omega) (by omega),e1,e2]
 exact ⟨_,_,rfl⟩
theorem qZ (n:Nat) {y:Int} (h:dJ y) {m:Nat} (h1:1<=m) (h2:m<=12):∃v,dZ n y (m:Int)=some v:=by
 unfold dZ
 obtain ⟨b,e,hl⟩:=HR n h
 rw [hl]
 show ∃v,cond (b&&((m:Int)==2)) _ _=some v
 cases (b&&((m:Int)==2)) with
 | true=>exact ⟨_,rfl⟩
 | false=>
  have:IntKind.wrap .i64 ((m:Int) - 1)=((m - 1:Nat):Int):=by rw [wrap_i64 _ (by omega) (by omega)];omega
  rw [this,cT (by omega)]
  have hl:uf.length=12:=rfl
  exact ⟨_,bm (show m - 1<uf.length by omega)⟩
theorem Dc (n:Nat) {y:Int} (h:dJ y) {m:Nat} (h1:1<=m) (h2:m<=12):jO n y (m:Int)=some 0:=by
 unfold jO
 rw [fI,ae h]
 show cond (decide ((m:Int)<1)) _ _=_
 rw [bP,bP,ab (by omega),ab (by omega)]
theorem Fw (n:Nat) {y:Int} (h:dJ y) {m:Nat} (hm:m<=11):∀(r j:Nat),j+r=m->∀(a:Int) (N:Nat),r<N->∃v,aw (bB n) N (y,a,(m:Int),(j:Int))=some v:=by
 intro r
 induction r with
 | zero=>
  intro j hj a N hN
  obtain ⟨N,rfl⟩:∃k,N=k+1:=⟨N - 1,by omega⟩
  have:bB n (y,a,(m:Int),(j:Int))=some (.inr a):=by
   unfold bB
   rw [bP,ab (show ¬((j:Int)<(m:Int)) by omega)]
  rw [aw,this]
  exact ⟨_,rfl⟩
 | succ r ih=>
  intro j hj a N hN
  obtain ⟨N,rfl⟩:∃k,N=k+1:=⟨N - 1,by omega⟩
  obtain ⟨v,hv⟩:=qZ n h (m:=j+1) (by omega) (by omega)
  have w:IntKind.wrap .i64 ((j:Int)+1)=((j+1:Nat):Int):=by rw [wrap_i64 _ (by omega) (by omega)];omega
  have:bB n (y,a,(m:Int),(j:Int))=some (.inl (y,IntKind.wrap .i64 (a+v),(m:Int),((j+1:Nat):Int))):=by
   unfold bB
   rw [bP,ae (show ((j:Int)<(m:Int)) by omega)]
   simp only [w,hv,ob]
  rw [aw,this]
  exact ih (j+1) (by omega) _ N (by omega)
theorem Hv (n:Nat) (hn:100<n) {y:Int} (h:dJ y) {m:Nat} (h1:1<=m) (h2:m<=12):∃v,eW n y (m:Int)=some (v,0):=by
 unfold eW kR kY
 have h':=h
 unfold dJ at h'
 obtain ⟨z,e⟩:=rk n (y:=y) (by omega)
 have w:IntKind.wrap .i64 ((m:Int) - 1)=((m - 1:Nat):Int):=by rw [wrap_i64 _ (by omega) (by omega)];omega
 rw [Dc n h h1 h2,fI,ae h,e,w]
 obtain ⟨v,hv⟩:=Fw n h (m:=m - 1) (by omega) (m - 1) 0 (by omega) (IntKind.wrap .i64 (IntKind.wrap .i64 (365*y)+z)) n (by omega)
 refine ⟨v,?_⟩
 show ob (aw (bB n) n (y,IntKind.wrap .i64 (IntKind.wrap .i64 (365*y)+z),((m - 1:Nat):Int),((0:Nat):Int))) _=_
 rw [hv]
 rfl
theorem madd (n:Nat) {y:Int} (h:dJ y) {m c:Nat} (h1:1<=m) (h2:m<=12) (hc:1<=c) (hc2:c<=6):nN n y (m:Int) (IntKind.wrap .i64 ((c:Int) - 1)) =
  some (if 12<m+c - 1 then (if y=10000000000000000 then (0,0,6) else (y+1,((m+c - 1 - 12:Nat):Int),0)) else (y,((m+c - 1:Nat):Int),0)):=by
 have h':=h
 unfold dJ at h'
 unfold nN
 rw [Dc n h h1 h2,wrap_i64 (12*y) (by omega) (by omega),wrap_i64 ((m:Int) - 1) (by omega) (by omega),wrap_i64 (12*y+((m:Int) - 1)) (by omega) (by omega),wrap_i64 ((c:Int) - 1) (by omega) (by omega)]
 have ha:qk n (12*y+((m:Int) - 1)) ((c:Int) - 1)=some (12*y+((m:Int) - 1)+((c:Int) - 1),0):=by
  unfold qk
  rw [wrap_i64 (12*y+((m:Int) - 1)+((c:Int) - 1)) (by omega) (by omega),gR]
  by_cases h0:(c:Int) - 1=0
  ·rw [ae h0]
   have d1:decide (12*y+((m:Int) - 1)>12*y+((m:Int) - 1))=false:=by simp
   have d2:decide ((c:Int) - 1>0)=false:=by simp;omega
   rw [d1,d2,h0,Int.add_zero]
   rfl
  ·rw [ab h0]
   have d1:decide (12*y+((m:Int) - 1)+((c:Int) - 1)>12*y+((m:Int) - 1))=true:=by simp;omega
   have d2:decide ((c:Int) - 1>0)=true:=by simp;omega
   rw [d1,d2]
   rfl
 simp only [ob,ha,fp,af]
 rw [wQ n (by omega) (by omega) (by omega) (by omega),Qc n (by omega) (by omega)]
 simp only [fI]
 by_cases hb:12<m+c - 1
 ·have e1:(12*y+((m:Int) - 1)+((c:Int) - 1)) / 12=y+1:=by omega
  have e2:(12*y+((m:Int) - 1)+((c:Int) - 1))%12=((m+c - 1 - 12:Nat):Int) - 1:=by omega
  rw [e1,e2,ae hb]
  by_cases hy:y=10000000000000000
  ·rw [ae hy,ab (show ¬dJ (y+1) by unfold dJ;omega)]
   rfl
  ·rw [ab hy,ae (show dJ (y+1) by unfold dJ;omega),wrap_i64 (((m+c - 1 - 12:Nat):Int) - 1+1) (by omega) (by omega),IU]
   rfl
 ·have e1:(12*y+((m:Int) - 1)+((c:Int) - 1)) / 12=y:=by omega
  have e2:(12*y+((m:Int) - 1)+((c:Int) - 1))%12=((m+c - 1:Nat):Int) - 1:=by omega
  rw [e1,e2,ab hb,ae h,wrap_i64 (((m+c - 1:Nat):Int) - 1+1) (by omega) (by omega),IU]
  rfl
theorem EO {j:Nat} (hj:j<21):∃m c:Nat,mU[j]?=some ((m:Int),(c:Int))/\1<=m/\m<=12/\1<=c/\c<=6/\(12<m+c - 1↔j=3\/j=7\/j=9):=by
 have:((List.range 21).all λj=>match mU[j]? with
  | some (m,c)=>decide (0<=m)&&decide (0<=c)&&decide (1<=m.toNat)&&decide (m.toNat<=12)&&decide (1<=c.toNat)&&decide (c.toNat<=6)&&(decide (12<m.toNat+c.toNat - 1)==decide (j=3\/j=7\/j=9))
  | none=>false)=true:=by decide +kernel
 have h:=(cL.1 this) j (by simpa using hj)
 split at h
 ·rename_i m c e
  simp only [az,bY,bD,rt] at h
  obtain ⟨⟨⟨⟨⟨⟨h1,h2⟩,h3⟩,h4⟩,h5⟩,h6⟩,h7⟩:=h
  exact ⟨m.toNat,c.toNat,by rw [e,ER h1,ER h2],h3,h4,h5,h6,h7⟩
 ·cases h
theorem QD (n:Nat) (hn:100<n) {y:Int} (h:dJ y) {j:Nat} (hj:j<21):
  ∃a b c d,gL n y ((21+j:Nat):Int)=some (a,b,c,d,if y=10000000000000000/\(j=3\/j=7\/j=9) then 6 else 0):=by
 obtain ⟨m,c,e,h1,h2,h3,h4,h5⟩:=EO hj
 have hM:eS n ((21+j:Nat):Int)=some ((m:Int),(c:Int),0):=by
  unfold eS du
  rw [bP,bP,ab (by omega),ab (by omega)]
  have:IntKind.wrap .i64 (((21+j:Nat):Int) - 21)=(j:Int):=by rw [wrap_i64 _ (by omega) (by omega)];omega
  rw [this,cT hj]
  show ob (mU[j]?) _=_
  rw [e]
  rfl
 obtain ⟨v,hv⟩:=Hv n hn h h1 h2
 unfold gL
 rw [hM]
 show ∃a b c d,ob (eW n y (m:Int)) _=_
 rw [hv]
 show ∃a b c' d,ob (nN n y (m:Int) (IntKind.wrap .i64 ((c:Int) - 1))) _=_
 rw [madd n h h1 h2 h3 h4]
 have h':=h
 unfold dJ at h'
 by_cases hb:12<m+c - 1
 ·rw [ae hb]
  by_cases hy:y=10000000000000000
  ·rw [ae hy,ae ⟨hy,h5.1 hb⟩]
   exact ⟨_,_,_,_,rfl⟩
  ·rw [ab hy,ab (λx=>hy x.1)]
   have hc1:dJ (y+1):=by unfold dJ;omega
   obtain ⟨v2,hv2⟩:=Hv n hn hc1 (m:=m+c - 1 - 12) (by omega) (by omega)
   obtain ⟨u,hu⟩:=qZ n hc1 (m:=m+c - 1 - 12) (by omega) (by omega)
   have hE:gx n (y+1) ((m+c - 1 - 12:Nat):Int)=some (IntKind.wrap .i64 (IntKind.wrap .i64 (v2+u) - 1),0):=by
    unfold gx
    rw [hv2,hu]
    rfl
   show ∃a b c' d,ob (gx n (y+1) ((m+c - 1 - 12:Nat):Int)) _=_
   rw [hE]
   exact ⟨_,_,_,_,rfl⟩
 ·rw [ab hb,ab (λx=>hb (h5.2 x.2))]
  obtain ⟨v2,hv2⟩:=Hv n hn h (m:=m+c - 1) (by omega) (by omega)
  obtain ⟨u,hu⟩:=qZ n h (m:=m+c - 1) (by omega) (by omega)
  have hE:gx n y ((m+c - 1:Nat):Int)=some (IntKind.wrap .i64 (IntKind.wrap .i64 (v2+u) - 1),0):=by
   unfold gx
   rw [hv2,hu]
   rfl
  show ∃a b c' d,ob (gx n y ((m+c - 1:Nat):Int)) _=_
  rw [hE]
  exact ⟨_,_,_,_,rfl⟩
def hasB (set:aa) (c:UInt8):Bool:=set.any λd=>d==c
theorem oF (set:aa) (c:UInt8):(decide (Lib.indexByte set c<0))=!hasB set c:=by
 induction set with
 | nil=>simp [Lib.indexByte,hasB]
 | cons d l ih=>
  have hge:=Lib.indexByte_ge l c
  simp only [hasB,HX] at ih ⊢
  unfold Lib.indexByte
  by_cases h:d=c
  ·simp [h]
  ·have hb:(d==c)=false:=by simpa using h
   simp only [hb,bV,aD,tK]
   rw [<-ih]
   by_cases h1:Lib.indexByte l c=-1
   ·simp [h1]
   ·have hb1:(Lib.indexByte l c==-1)=false:=by simpa using h1
    simp only [hb1,bV,aD]
    have:¬Lib.indexByte l c+1<0:=by omega
    have:¬Lib.indexByte l c<0:=by omega
    simp [*]
theorem oS (set:aa) (c:UInt8):(decide (Lib.indexByte set c>=0))=hasB set c:=by
 have:=oF set c
 by_cases h:Lib.indexByte set c<0
 ·have h2:¬Lib.indexByte set c>=0:=by omega
  simp only [h,h2,nd,mT] at this ⊢
  revert this;cases hasB set c<;>simp
 ·have h2:Lib.indexByte set c>=0:=by omega
  simp only [h,h2,nd,mT] at this ⊢
  revert this;cases hasB set c<;>simp
def lcp:aa->aa->Nat
 | c::s,d::t=>if c==d then lcp s t+1 else 0
 | _,_=>0
theorem ww:∀s t:aa,lcp s t<=s.length
 | [],_=>by simp [lcp]
 | _::_,[]=>by simp [lcp]
 | c::s,d::t=>by
  have:=ww s t
  simp only [lcp,aB]
  split<;>omega
def cA (p:UInt8->Bool):Nat->aa->Nat
 | 0,_=>0
 | _+1,[]=>0
 | k+1,c::l=>if p c then cA p k l+1 else 0
theorem ny (p:UInt8->Bool):∀(k:Nat) (l:aa),cA p k l<=l.length
 | 0,_=>by simp [cA]
 | _+1,[]=>by simp [cA]
 | k+1,c::l=>by
  have:=ny p k l
  simp only [cA,aB]
  split<;>omega
theorem yY (n:Nat) (S:aa) (at_:Nat) (h:at_<=S.length):dU n S (at_:Int)=some (S.drop at_):=by
 simp [dU,ob,dG h]
theorem Bp (n:Nat) (s p:aa):iW n s p=some (s.take p.length==p):=by
 simp only [iW,fX,FK]
 by_cases h:p.length<=s.length
 ·simp [h,ob,dG h]
 ·have:(s.take p.length==p)=false:=by
   rw [aM]
   intro e
   have:=dP List.length e
   rw [cE] at this
   omega
  simp [h,ob,this]
theorem IV (n:Nat) (t S:aa) (at_:Nat) (h:at_<=S.length):eX n t S (at_:Int)=some ((S.drop at_).take t.length==t):=by
 simp [eX,yY n S at_ h,ob,Bp]
theorem qp (n:Nat) (t S:aa) (at_:Nat) (h:at_<=S.length) (hS:S.length<4611686018427387904):
  aJ n t S (at_:Int)=some (if (S.drop at_).take t.length=t then (true,S,((at_+t.length:Nat):Int)) else (false,S,(at_:Int))):=by
 simp only [aJ,IV n t S at_ h,ob]
 by_cases hp:(S.drop at_).take t.length=t
 ·have hl:t.length<=S.length - at_:=by
   have:=dP List.length hp
   simp at this;omega
  have hw:IntKind.wrap .i64 ((at_:Int)+((t.length:Nat):Int))=((at_+t.length:Nat):Int):=by rw [wrap_i64 _ (by omega) (by omega)];omega
  simp [hp,hw]
 ·simp only [D8,gR,hp,aD]
theorem BO (n:Nat) (S:aa) (i:Int):bA n S i=some i:=rfl
def peek (l:aa):Int×Bool:=match l with | c::_=>(((c.toNat:Nat):Int),true) | []=>(0,false)
theorem uE (n:Nat) (S:aa) (at_:Nat) (h:at_<=S.length):db n S (at_:Int)=some (peek (S.drop at_)):=by
 simp only [db,yY n S at_ h,ob]
 rcases aG at_ S.length with hlt | hge
 ·obtain ⟨c,hc⟩:∃c,S[at_]?=some c:=⟨S[at_],bm hlt⟩
  rw [fi hc]
  simp [iw hc,peek]
 ·rw [kB hge]
  simp [peek]
theorem uC (n:Nat) (a e:Int) (S:aa) (i:Int):be n a e S i=some (a,if e=0 then 5 else e):=by
 simp only [be,gR]
 by_cases h:e=0<;>simp [h]
theorem gg (n:Nat) (set:aa) (c:UInt8):dm n set ((c.toNat:Nat):Int)=some (Lib.indexByte set c):=by
 simp only [dm,cR,ob,Rh]
theorem zQ (n:Nat) (set S:aa) (at_:Nat) (h:at_<=S.length) (hS:S.length<4611686018427387904):
  ch n set S (at_:Int)=some (match S.drop at_ with | c::_=>if hasB set c then .inr (((c.toNat:Nat):Int),S,((at_+1:Nat):Int)) else .inl ((at_:Int),5,S,(at_:Int)) | []=>.inl ((at_:Int),5,S,(at_:Int))):=by
 simp only [ch,uE n S at_ h,ob]
 rcases aG at_ S.length with hlt | hge
 ·obtain ⟨c,hc⟩:∃c,S[at_]?=some c:=⟨S[at_],bm hlt⟩
  have hw:IntKind.wrap .i64 ((at_:Int)+1)=((at_+1:Nat):Int):=by rw [wrap_i64 _ (by omega) (by omega)];omega
  rw [fi hc]
  simp only [peek,dI,af,gg,oF,BO,uC,ob,hw]
  cases hasB set c<;>simp
 ·rw [kB hge]
  simp [peek,BO,uC,ob]
theorem yI (S:aa) (a k:Nat):List.drop a (List.take (a+k) S)=(S.drop a).take k:=by
 rw [yk];congr 1;omega
theorem zN (n:Nat) (set:aa) (least most:Int) (S:aa) (at_:Nat) (h:at_<=S.length) (hS:S.length<4611686018427387904) (hn:S.length<n):
  aw (cO n) n (set,least,most,(at_:Int),(peek (S.drop at_)).1,(peek (S.drop at_)).2,S,(at_:Int)) =
   some (least,(at_:Int),S,((at_+cA (hasB set) most.toNat (S.drop at_):Nat):Int)):=by
 have:=fe (step:=cO n)
  (λx=>∃j:Nat,at_+j<=S.length/\x=(set,least,most,(at_:Int),(peek (S.drop (at_+j))).1,(peek (S.drop (at_+j))).2,S,((at_+j:Nat):Int)))
  (λx=>S.length - x.2.2.2.2.2.2.2.toNat)
  (λx=>(least,(at_:Int),S,((x.2.2.2.2.2.2.2.toNat+cA (hasB set) (most.toNat - (x.2.2.2.2.2.2.2.toNat - at_)) (S.drop x.2.2.2.2.2.2.2.toNat):Nat):Int))) ?_ n
  (set,least,most,(at_:Int),(peek (S.drop at_)).1,(peek (S.drop at_)).2,S,(at_:Int)) ⟨0,by omega,by simp⟩ (by simp;omega)
 ·simpa using this
 rintro x ⟨j,hj,rfl⟩
 simp only [bF]
 have hsub:IntKind.wrap .i64 (((at_+j:Nat):Int) - (at_:Int))=(j:Int):=by rw [wrap_i64 _ (by omega) (by omega)];omega
 rcases aG (at_+j) S.length with hlt | hge
 ·obtain ⟨c,hc⟩:∃c,S[at_+j]?=some c:=⟨S[at_+j],bm hlt⟩
  have hw:IntKind.wrap .i64 (((at_+j:Nat):Int)+1)=((at_+(j+1):Nat):Int):=by rw [wrap_i64 _ (by omega) (by omega)];omega
  simp only [cO,fi hc,peek,aj,hsub]
  by_cases hm:(j:Int)<most
  ·obtain ⟨k,hk⟩:∃k,most.toNat - (at_+j - at_)=k+1:=⟨most.toNat - j - 1,by omega⟩
   simp only [hm,nd,aj,gg,ob,oS,hk,cA]
   cases hb:hasB set c with
   | true=>
    simp only [hw,uE n S (at_+(j+1)) (by omega),aj]
    refine .inl ⟨_,rfl,⟨j+1,by omega,rfl⟩,?_,?_⟩
    ·simp only [bF];omega
    ·simp only [bF,bQ,jb,aO]
     have:most.toNat - (at_+(j+1) - at_)=k:=by omega
     rw [this,show at_+(j+1)=at_+j+1 by omega]
     omega
   | false=>exact .inr (by simp)
  ·refine .inr ?_
   have:most.toNat - (at_+j - at_)=0:=by omega
   simp only [hm,mT,af,this,cA,cG]
 ·refine .inr ?_
  simp only [cO,kB hge,peek,af]
  have:cA (hasB set) (most.toNat - (at_+j - at_)) []=0:=by cases most.toNat - (at_+j - at_)<;>rfl
  simp only [this,cG]
theorem uB (n:Nat) (set:aa) (least most:Int) (S:aa) (at_:Nat) (h:at_<=S.length) (hS:S.length<4611686018427387904) (hn:S.length<n):
  bR n set least most S (at_:Int)=some (if ((cA (hasB set) most.toNat (S.drop at_):Nat):Int)<least
   then .inl (((at_+cA (hasB set) most.toNat (S.drop at_):Nat):Int),5,S,((at_+cA (hasB set) most.toNat (S.drop at_):Nat):Int))
   else .inr ((S.drop at_).take (cA (hasB set) most.toNat (S.drop at_)),S,((at_+cA (hasB set) most.toNat (S.drop at_):Nat):Int))):=by
 have hk:=ny (hasB set) most.toNat (S.drop at_)
 rw [cQ] at hk
 simp only [bR,BO,uE n S at_ h,ob]
 rw [zN n set least most S at_ h hS hn]
 generalize cA (hasB set) most.toNat (S.drop at_)=k at hk ⊢
 have hsub:IntKind.wrap .i64 (((at_+k:Nat):Int) - (at_:Int))=(k:Int):=by rw [wrap_i64 _ (by omega) (by omega)];omega
 simp only [hsub,uC]
 by_cases hl:(k:Int)<least
 ·simp [hl]
 ·simp only [hl,mT,af,aD]
  rw [dG (by omega)]
  simp only
  rw [dG (by omega)]
  simp only [yI]
theorem NV (a b:Nat):(cond (decide (((a:Nat):Int)<((b:Nat):Int))) ((a:Nat):Int) ((b:Nat):Int))=((min a b:Nat):Int):=by
 by_cases h:a<b
 ·simp [h];omega
 ·simp [h];omega
def asc (l:aa):Prop:=∀c∈l,c.toNat<128
theorem Jr (r:Int) (h:128<=r):∃p e,(Utf8.encode r).data.toList=p++[e]/\1<=p.length/\p.length<=3/\128<=e.toNat:=by
 unfold Utf8.encode
 have hc:128<=(if Utf8.valid r then r.toNat else Utf8.runeError):=by
  split
  ·omega
  ·decide
 generalize (if Utf8.valid r then r.toNat else Utf8.runeError)=c at hc
 have he:128<=(UInt8.ofNat (0x80+c%64)).toNat:=by
  simp only [CB]
  omega
 simp only
 split
 ·omega
 ·split
  ·exact ⟨[_],_,rfl,by simp,by simp,he⟩
  ·split
   ·exact ⟨[_,_],_,rfl,by simp,by simp,he⟩
   ·exact ⟨[_,_,_],_,rfl,by simp,by simp,he⟩
theorem GX {l:aa} (h:asc l) {i:Nat} {c:UInt8} (hi:l[i]?=some c):c.toNat<128:=h c (fm hi)
theorem AR (n:Nat) (set:aa) (h:asc set) (hn:set.length<n):aw (dF n) n (set,0)=some (.inr ()):=by
 refine fe (step:=dF n) (λx=>x.1=set) (λx=>set.length - x.2) (λx=>.inr ()) ?_ n _ rfl (by simp;omega)
 rintro ⟨s,i⟩ rfl
 simp only [dF]
 by_cases hi:i<s.length
 ·have hb:Nat.blt i s.length=true:=dq hi
  obtain ⟨c,hc⟩:∃c,s[i]?=some c:=⟨s[i],bm hi⟩
  have hlow:=GX h hc
  have hne:(((c.toNat:Nat):Int)==65533)=false:=by rw [aM];omega
  simp only [hb,aj,CU hc hlow,hne,af]
  exact .inl ⟨_,rfl,rfl,by simp only;omega,trivial⟩
 ·have hb:Nat.blt i s.length=false:=by
   cases hb:Nat.blt i s.length with
   | false=>rfl
   | true=>exact absurd (aH hb) (by omega)
  simp only [hb,af]
  exact .inr trivial
theorem xi {l:aa} {c:UInt8} (h:c∉l):Lib.indexByte l c<0:=by
 have h1:=oF l c
 have h2:hasB l c=false:=by
  unfold hasB
  rw [rP]
  intro x hx he
  simp only [bD] at he
  exact h (he▸hx)
 rw [h2] at h1
 simpa using h1
theorem AU (n:Nat) (set:aa) (h:asc set) (hn:set.length<n) (hs:set.length<=100) (r:Int) (hr:128<=r):dN n set r=some (-1):=by
 have h0:decide ((0:Int)<=r)=true:=ar (by omega)
 have h1:decide (r<128)=false:=au (by omega)
 simp only [dN,h0,h1,aj,af]
 by_cases hrr:r=65533
 ·have:(r==65533)=true:=bD.2 hrr
  simp only [this,aj,AR n set h hn,ob]
 ·have:(r==65533)=false:=aM.2 hrr
  simp only [this,af]
  obtain ⟨v,hv⟩:∃v,dL n r=some v:=by
   unfold dL
   generalize decide ((0:Int)<=r)=d1
   generalize decide (r<55296)=d2
   generalize decide ((57343:Int)<r)=d3
   generalize decide (r<=1114111)=d4
   cases d1<;>cases d2<;>cases d3<;>cases d4<;>exact ⟨_,rfl⟩
  simp only [hv,ob]
  cases v with
  | false=>rfl
  | true=>
   simp only [dI,af]
   obtain ⟨p,e,hp,hp1,hp3,he⟩:=Jr r hr
   simp only [hp]
   have hw:IntKind.wrap .i64 (((p++[e]).length:Nat) - 1:Int)=(p.length:Int):=by
    rw [wrap_i64 _ (by simp<;>omega) (by simp<;>omega)];simp
   rw [hw]
   obtain ⟨m,rfl⟩:∃m,n=m+1:=⟨n - 1,by omega⟩
   have hstep:dD (m+1) (set,p++[e],(p.length:Int),(p.length:Int))=some (.inr (.inl (-1)))\/dD (m+1) (set,p++[e],(p.length:Int),(p.length:Int))=some (.inr (.inr ())):=by
    simp only [dD,mH]
    by_cases hl:p.length<set.length
    ·obtain ⟨c,hc⟩:∃c,set[p.length]?=some c:=⟨set[p.length],bm hl⟩
     have hlow:=GX h hc
     have hpe:(p++[e])[p.length]?=some e:=by simp
     have hne:(((c.toNat:Nat):Int) != ((e.toNat:Nat):Int))=true:=by simp only [bne,kx,aM];omega
     have hw2:IntKind.wrap .i64 ((p.length:Int)+1)=((p.length+1:Nat):Int):=by rw [wrap_i64 _ (by omega) (by omega)];omega
     have hx:e∉List.drop (p.length+1) (List.take set.length set):=by
      intro hm
      have:=h e (by simpa using List.mem_of_mem_drop hm)
      omega
     left
     simp only [hl,nd,aj,iw hc,iw hpe,ob,hne,hw2,dG (show p.length+1<=set.length by omega),gg,xi hx]
    ·right
     simp only [hl,mT,af]
   rcases hstep with hs1 | hs1<;>simp only [aw,hs1,ob]
theorem xh (n:Nat) (set:aa) (c:UInt8) (r:Int) (hr:r=((c.toNat:Nat):Int)) (hc:c.toNat<128):dN n set r=some (Lib.indexByte set c):=by
 have h0:decide ((0:Int)<=r)=true:=ar (by omega)
 have h1:decide (r<128)=true:=ar (by omega)
 have hw:IntKind.wrap .u8 r=r:=fN _ (by omega) (by omega)
 have hb:dm n set r=some (Lib.indexByte set c):=by rw [hr];exact gg n set c
 simp only [dN,h0,h1,aj,hw,hb,ob]
theorem zX (n:Nat) (set:aa) (c:UInt8) (hc:c.toNat<128):dN n set ((c.toNat:Nat):Int)=some (Lib.indexByte set c):=xh n set c _ rfl hc
theorem tT (n:Nat) (set:aa) (c:UInt8) (hc:c.toNat<128):dC n set ((c.toNat:Nat):Int)=some (hasB set c):=by
 simp only [dC,zX n set c hc,ob,oS]
theorem vO (n:Nat) (set:aa) (h:asc set) (hn:set.length<n) (hs:set.length<=100) (r:Int) (hr:128<=r):dC n set r=some false:=by
 simp only [dC,AU n set h hn hs r hr,ob];rfl
theorem ul (x:Int) (h0:0<=x) (h1:x<65536):IntKind.wrap .u16 x=x:=by
 show x%65536=x
 omega
theorem Aw (w a:Nat):BitVec.ofInt w (a:Int)=BitVec.ofNat w a:=by
 apply BitVec.eq_of_toNat_eq
 simp
theorem Nk (k:Nat):(2:Int) ^ k=((2 ^ k:Nat):Int):=by simp
theorem KV (a k:Nat):Int.fdiv (a:Int) (2 ^ k)=((a / 2 ^ k:Nat):Int):=by
 rw [Nk k,Int.fdiv_eq_ediv_of_nonneg _ (Int.natCast_nonneg _)]
 rfl
def inR (lo hi:Int) (c:UInt8):Bool:=decide (((c.toNat:Nat):Int)>=lo)&&decide (((c.toNat:Nat):Int)<=hi)
def cnt (lo hi:Int) (l:aa):Nat:=l.countP (inR lo hi)
theorem Gv (lo hi:Int) (l:aa):cnt lo hi l<=l.length:=List.countP_le_length
theorem KN (lo hi:Int) {l:aa} {i:Nat} {c:UInt8} (h:l[i]?=some c):cnt lo hi (l.take (i+1))=cnt lo hi (l.take i)+if inR lo hi c then 1 else 0:=by
 unfold cnt
 rw [oB,h,List.countP_append]
 simp [IN]
theorem Eb (n:Nat) (s:aa) (lo hi:Int) (hs:s.length<n) (hb:s.length<100000):fU n s lo hi=some ((cnt lo hi s:Nat):Int):=by
 have:=fe (step:=gu n) (λx=>∃i:Nat,i<=s.length/\x=(s,lo,hi,((cnt lo hi (s.take i):Nat):Int),(i:Int))) (λx=>s.length - x.2.2.2.2.toNat) (λ_=>((cnt lo hi s:Nat):Int)) ?_ n (s,lo,hi,0,0) ⟨0,by omega,by simp [cnt]⟩ (by simp;omega)
 ·simp only [fU,this,ob]
 rintro x ⟨i,hi',rfl⟩
 rcases aG i s.length with hlt | hge
 ·obtain ⟨c,hc⟩:∃c,s[i]?=some c:=⟨s[i],bm hlt⟩
  have hct:=KN lo hi hc
  have hle:=Gv lo hi (s.take i)
  rw [cE] at hle
  have w1:IntKind.wrap .i64 ((i:Int)+1)=((i+1:Nat):Int):=by rw [wrap_i64 _ (by omega) (by omega)];omega
  have w2:IntKind.wrap .i64 (((cnt lo hi (s.take i):Nat):Int)+1)=((cnt lo hi (s.take i)+1:Nat):Int):=by rw [wrap_i64 _ (by omega) (by omega)];omega
  refine .inl ⟨(s,lo,hi,((cnt lo hi (s.take (i+1)):Nat):Int),((i+1:Nat):Int)),?_,⟨i+1,hlt,rfl⟩,by simp only [bF];omega,rfl⟩
  simp only [gu,mH,hlt,nd,aj,iw hc,ob,w1,w2]
  rw [hct]
  by_cases h1:((c.toNat:Nat):Int)>=lo
  ·by_cases h2:((c.toNat:Nat):Int)<=hi
   ·simp [h1,h2,inR]
   ·simp [h1,h2,inR]
  ·simp [h1,inR]
 ·have:i=s.length:=by omega
  subst this
  refine .inr ?_
  simp only [gu,mH,B5,mT,af,o8]
theorem I7 (lo hi:Int) (l:aa):cnt lo hi l=l.length↔∀c∈l,inR lo hi c=true:=by
 unfold cnt
 rw [List.countP_eq_length]
theorem Ld (lo hi:Int) (l:aa):cnt lo hi l=0↔∀c∈l,inR lo hi c=false:=by
 unfold cnt
 rw [List.countP_eq_zero]
 simp
def bp (c:UInt8):Bool:=inR 48 57 c
theorem dl (c:UInt8):bp c=true↔48<=c.toNat/\c.toNat<=57:=by
 unfold bp inR
 simp only [az,bY]
 omega
theorem zl (c:UInt8):inR 88 88 c=true↔c=88:=by
 unfold inR
 simp only [az,bY]
 constructor
 ·intro h
  apply ip.1
  show c.toNat=88
  omega
 ·rintro rfl;decide
theorem IS (c:UInt8):inR 48 48 c=true↔c=48:=by
 unfold inR
 simp only [az,bY]
 constructor
 ·intro h
  apply ip.1
  show c.toNat=48
  omega
 ·rintro rfl;decide
theorem Ha:∀l:aa,cnt 48 57 l+cnt 88 88 l<=l.length/\(cnt 48 57 l+cnt 88 88 l=l.length↔∀c∈l,bp c=true\/c=88)
 | []=>by simp [cnt]
 | c::l=>by
  have ih:=Ha l
  have e1:cnt 48 57 (c::l)=cnt 48 57 l+if inR 48 57 c then 1 else 0:=by simp [cnt,IN]
  have e2:cnt 88 88 (c::l)=cnt 88 88 l+if inR 88 88 c then 1 else 0:=by simp [cnt,IN]
  have hd:¬(inR 48 57 c=true/\inR 88 88 c=true):=by
   rintro ⟨h1,h2⟩
   have:=(dl c).1 h1
   rw [(zl c).1 h2] at this
   exact absurd this.2 (by decide)
  rw [e1,e2,aB]
  simp only [cU,zA]
  have hx:=zl c
  have hg:bp c=inR 48 57 c:=rfl
  rw [hg]
  cases h1:inR 48 57 c<;>cases h2:inR 88 88 c
  ·simp only [h1,h2] at hx ⊢
   have:c≠88:=λe=>by simpa using hx.2 e
   simp [this];omega
  ·simp only [h1,h2] at hx ⊢
   have:c=88:=hx.1 trivial
   simp only [this,bV,aO,aD,false_or,jb]
   rw [<-ih.2]
   omega
  ·simp only [h1,h2] at hx ⊢
   simp only [bV,aO,aD,true_or,jb]
   rw [<-ih.2]
   omega
  ·exact absurd ⟨h1,h2⟩ hd
theorem Ji (n:Nat) (s set:aa) (ha:asc set) (hn:set.length<n) (hl:set.length<=100) (hs:s.length<n):
  ∃y,aw (cH n) n (true,set,s,0)=some y/\((y=.inr ()/\s.all (hasB set)=true)\/∃i:Nat,y=.inl (i:Int)/\s.all (hasB set)=false):=by
 refine og (step:=cH n) (λx=>x.1=true/\x.2.1=set/\x.2.2.1=s/\s.all (hasB set)=(s.drop x.2.2.2).all (hasB set)) (λx=>s.length - x.2.2.2) _ ?_ n _ ⟨rfl,rfl,rfl,rfl⟩ (by simp only;omega)
 rintro ⟨b,st,s',p⟩ ⟨hb,hst,hs',hall⟩
 simp only at hb hst hs' hall
 rw [hb,hst,hs']
 clear hb hst hs' b st s'
 rcases aG p s.length with hlt | hge
 ·obtain ⟨c,hc⟩:∃c,s[p]?=some c:=⟨s[p],bm hlt⟩
  have hbl:Nat.blt p s.length=true:=dq hlt
  rw [fi hc,oi] at hall
  rcases aG c.toNat 128 with h128 | h128
  ·have hd:=CU hc h128
   simp only [cH,hbl,aj,jz,hd,tT n set c h128,ob]
   cases hh:hasB set c with
   | true=>
    rw [hh,mJ] at hall
    exact .inl ⟨_,rfl,⟨rfl,rfl,rfl,hall⟩,by simp only;omega⟩
   | false=>
    rw [hh,E8] at hall
    exact .inr ⟨_,rfl,.inr ⟨p,rfl,hall⟩⟩
  ·have hd:=D0 hc h128
   have hh:hasB set c=false:=by
    unfold hasB
    rw [rP]
    intro x hx he
    simp only [bD] at he
    have:=ha x hx
    rw [he] at this
    omega
   rw [hh,E8] at hall
   have hcr:=vO n set ha hn hl (((dec s p).1:Nat):Int) (by omega)
   simp only [cH,hbl,aj,jz,hcr,ob]
   exact .inr ⟨_,rfl,.inr ⟨p,rfl,hall⟩⟩
 ·have hbl:Nat.blt p s.length=false:=by
   cases hb:Nat.blt p s.length with
   | false=>rfl
   | true=>exact absurd (aH hb) (by omega)
  simp only [cH,hbl,af]
  rw [kB hge] at hall
  exact .inr ⟨_,rfl,.inl ⟨rfl,by rw [hall];rfl⟩⟩
theorem Hm (n:Nat) (s set:aa) (ha:asc set) (hn:set.length<n) (hl:set.length<=100) (hs:s.length<n):fP n s set=some (s.all (hasB set)):=by
 obtain ⟨y,h1,h2⟩:=Ji n s set ha hn hl hs
 simp only [fP,kZ,kV,h1,ob]
 rcases h2 with ⟨rfl,h3⟩ | ⟨i,rfl,h3⟩
 ·rw [h3];rfl
 ·rw [h3]
  simp only [aq,qT]
  omega
theorem JJ:asc [48,49,50,51,52,53,54,55,56,57]:=by unfold asc;decide
theorem GT:asc [88,48,49,50,51,52,53,54,55,56,57]:=by unfold asc;decide
theorem mP (p:UInt8->Bool) (h:∀i:Fin 256,p (UInt8.ofNat i.val)=true) (c:UInt8):p c=true:=by
 have:=h ⟨c.toNat,c.toNat_lt⟩
 simpa using this
theorem vn (c:UInt8):hasB [48,49,50,51,52,53,54,55,56,57] c=bp c:=by
 have:=mP (λc=>hasB [48,49,50,51,52,53,54,55,56,57] c==bp c) (by decide +kernel) c
 simpa using this
theorem sY (c:UInt8):hasB [88,48,49,50,51,52,53,54,55,56,57] c=(bp c||c==88):=by
 have:=mP (λc=>hasB [88,48,49,50,51,52,53,54,55,56,57] c==(bp c||c==88)) (by decide +kernel) c
 simpa using this
theorem GG (n:Nat) (s:aa) (hn:100<n) (hs:s.length<n):fP n s [48,49,50,51,52,53,54,55,56,57]=some (s.all bp):=by
 rw [Hm n s _ JJ (by simp;omega) (by simp) hs]
 congr 2
 funext c
 exact vn c
theorem FT (n:Nat) (s:aa) (hn:100<n) (hs:s.length<n):fP n s [88,48,49,50,51,52,53,54,55,56,57]=some (s.all λc=>bp c||c==88):=by
 rw [Hm n s _ GT (by simp;omega) (by simp) hs]
 congr 2
 funext c
 exact sY c
def all0 (s:aa):Bool:=s.all λc=>c==48
theorem QI (n:Nat) (s:aa) (hs:s.length<n) (hb:s.length<100000):∃y,fE n s 48=some y/\all0 s=all0 y/\y.length<=s.length:=by
 obtain ⟨y,h1,h2⟩:=og (step:=di n) (λx=>x.2=48/\all0 s=all0 x.1/\x.1.length<=s.length) (λx=>x.1.length) (λy=>all0 s=all0 y/\y.length<=s.length) (by
  rintro ⟨l,c⟩ ⟨rfl,h,hl⟩
  simp only at h hl
  by_cases h0:l.length>0
  ·have d0:decide (((l.length:Nat):Int)>0)=true:=ar (by omega)
   have w1:IntKind.wrap .i64 (((l.length:Nat):Int) - 1)=((l.length - 1:Nat):Int):=by rw [wrap_i64 _ (by omega) (by omega)];omega
   obtain ⟨c,hc⟩:∃c,l[l.length - 1]?=some c:=⟨l[l.length - 1],bm (by omega)⟩
   simp only [di,d0,aj,w1,iw hc,ob]
   by_cases he:c=48
   ·have e1:(((c.toNat:Nat):Int)==48)=true:=by rw [he];rfl
    simp only [e1,aj,dG (show l.length - 1<=l.length by omega),fY]
    refine .inl ⟨(List.take (l.length - 1) l,48),rfl,⟨rfl,?_,by show (List.take (l.length - 1) l).length<=s.length;rw [cE];omega⟩,by show (List.take (l.length - 1) l).length<l.length;rw [cE];omega⟩
    rw [h]
    have:l=l.take (l.length - 1)++[c]:=by
     have h2:=oB (l:=l) (i:=l.length - 1)
     rw [hc,show l.length - 1+1=l.length by omega,o8] at h2
     exact h2
    rw [this]
    simp only [all0,List.all_append,oi,List.all_nil,he]
    simp
   ·have e1:(((c.toNat:Nat):Int)==48)=false:=by
     rw [aM]
     intro e
     exact he (ip.1 (by show c.toNat=48;omega))
    simp only [e1,af]
    exact .inr ⟨_,rfl,h,hl⟩
  ·have d0:decide (((l.length:Nat):Int)>0)=false:=au (by omega)
   simp only [di,d0,af]
   exact .inr ⟨_,rfl,h,hl⟩) n (s,48) ⟨rfl,rfl,aW _⟩ hs
 exact ⟨y,by simp only [fE,h1,ob],h2⟩
theorem RL (n:Nat) (s:aa) (hs:s.length<n) (hb:s.length<100000):∃y,gh n s 48=some y/\all0 s=(y==[]):=by
 obtain ⟨y,h1,h2⟩:=og (step:=eK n) (λx=>x.2=48/\all0 s=all0 x.1/\x.1.length<=s.length) (λx=>x.1.length) (λy=>all0 s=(y==[])) (by
  rintro ⟨l,c⟩ ⟨rfl,h,hl⟩
  simp only at h hl
  cases l with
  | nil=>exact .inr ⟨[],rfl,by rw [h];rfl⟩
  | cons c l=>
   have d0:decide ((((c::l).length:Nat):Int)>0)=true:=ar (by simp only [aB];omega)
   have hc:sx (c::l) 0=some c:=by simp [sx]
   simp only [eK,d0,aj,hc,ob]
   by_cases he:c=48
   ·have e1:(((c.toNat:Nat):Int)==48)=true:=by rw [he];rfl
    have hbx:bx (c::l).length 1=some 1:=dG (i:=1) (by simp)
    simp only [e1,aj,hbx,o8,ou,fY]
    refine .inl ⟨_,rfl,⟨rfl,?_,by show l.length<=s.length;simp only [aB] at hl;omega⟩,by simp⟩
    rw [h]
    simp [all0,he]
   ·have e1:(((c.toNat:Nat):Int)==48)=false:=by
     rw [aM]
     intro e
     exact he (ip.1 (by show c.toNat=48;omega))
    simp only [e1,af]
    refine .inr ⟨_,rfl,?_⟩
    rw [h]
    have e2:(c==48)=false:=aM.2 he
    simp [all0,e2]) n (s,48) ⟨rfl,rfl,aW _⟩ hs
 exact ⟨y,by simp only [gh,h1,ob],h2⟩
theorem Ob (n:Nat) (s:aa) (hs:s.length<n) (hb:s.length<100000):∃y,nh n s=some y/\(y==[])=all0 s:=by
 unfold nh
 by_cases h:s=[]
 ·subst h;exact ⟨[],rfl,rfl⟩
 ·have:(s==([]:aa))=false:=aM.2 h
  obtain ⟨y,h1,h2,h3⟩:=QI n s hs hb
  obtain ⟨z,h4,h5⟩:=RL n y (by omega) (by omega)
  exact ⟨z,by simp only [this,af,h1,h4,ob],by rw [h2,h5]⟩
theorem KL (s:aa):all0 s=true↔cnt 48 48 s=s.length:=by
 rw [I7]
 unfold all0
 rw [cL]
 constructor
 ·intro h c hc
  have:=h c hc
  rw [bD] at this
  exact (IS c).2 this
 ·intro h c hc
  rw [bD]
  exact (IS c).1 (h c hc)
def hasX (s:aa):Bool:=s.any λc=>c==88
theorem EL (s:aa):hasX s=decide (0<cnt 88 88 s):=by
 have:=Ld 88 88 s
 unfold hasX
 cases h:s.any λc=>c==88 with
 | true=>
  obtain ⟨c,hc,he⟩:=qG.1 h
  rw [bD] at he
  symm
  rw [bY]
  rcases zL (cnt 88 88 s) with h0 | h0
  ·have:=this.1 h0 c hc
   rw [(zl c).2 he] at this
   cases this
  ·exact h0
 | false=>
  symm
  rw [qT]
  intro h0
  have:cnt 88 88 s=0:=this.2 λc hc=>by
   cases hx:inR 88 88 c with
   | false=>rfl
   | true=>
    rw [rP] at h
    exact absurd (bD.2 ((zl c).1 hx)) (h c hc)
  omega
theorem A6 (n:Nat) (s:aa):ia n s=some (hasX s):=by
 have e:UInt8.ofNat (Int.toNat 88)=(88:UInt8):=rfl
 have hi:mC n s=some (Lib.indexByte s 88):=by
  simp only [mC,iJ,cR,ob,e]
  by_cases h:([88]:aa)=s
  ·subst h;rfl
  ·have:(([88]:aa)==s)=false:=aM.2 h
   simp only [this,af]
 simp only [ia,hi,ob,oS]
 rfl
theorem rQ (n:Nat) (g l:Bool) (d:aa) (x q:Int):cY n g l d x q=some (hasX d):=by
 simp only [cY,A6,ob]
theorem nX (n:Nat) (g l:Bool) (d:aa) (x q:Int) (hs:d.length<n) (hb:d.length<100000):aC n g l d x q=some (if hasX d then 1 else 0):=by
 simp only [aC,Eb n d 88 88 hs hb,ob,EL,bY]
 by_cases h:0<cnt 88 88 d
 ·have:decide (((cnt 88 88 d:Nat):Int)<1)=false:=au (by omega)
  simp [this,h]
 ·have:decide (((cnt 88 88 d:Nat):Int)<1)=true:=ar (by omega)
  have h0:cnt 88 88 d=0:=by omega
  simp [this,h0]
def ub (acc:Nat) (c:UInt8):Nat:=acc*10+(c.toNat - 48)
def dval (acc:Nat) (l:aa):Nat:=l.foldl ub acc
theorem pc (acc:Nat):dval acc []=acc:=by unfold dval;rw [Dd]
theorem ot (acc:Nat) (c:UInt8) (l:aa):dval acc (c::l)=dval (ub acc c) l:=by
 unfold dval;rw [tP]
theorem Dm (l:aa) (acc:Nat) (c:UInt8):dval acc (l++[c])=dval acc l*10+(c.toNat - 48):=by
 have:dval acc (l++[c])=ub (dval acc l) c:=by
  unfold dval;rw [DY,tP,Dd]
 rw [this]
 rfl
theorem Ml (M:Nat) (hM:10000000000000000000<=M) (l:aa):∀(acc k:Nat),(∀c∈l,bp c=true)->acc<10 ^ k->l.length+k<=18->Lib.parseUintM M acc l=.ok (dval acc l)/\dval acc l<10 ^ (l.length+k):=by
 induction l with
 | nil=>
  intro acc k _ h1 _
  rw [pc]
  refine ⟨rfl,?_⟩
  simpa using h1
 | cons c l ih=>
  intro acc k h h1 h2
  have hc:=(dl c).1 (h c (by simp))
  simp only [aB] at h2
  have hp:(10:Nat) ^ (k+1)=10 ^ k*10:=rF 10 k
  have hle:(10:Nat) ^ (k+1)<=10 ^ 18:=jS (by decide) (by omega)
  have h18:(10:Nat) ^ 18=1000000000000000000:=by decide
  have hd:ub acc c=acc*10+(c.toNat - 48):=rfl
  have ih:=ih (ub acc c) (k+1) (λd hd=>h d (by simp [hd])) (by omega) (by omega)
  refine ⟨?_,?_⟩
  ·simp only [Lib.parseUintM]
   rw [ae hc,ab (by omega),ab (by omega),<-hd,ih.1,ot]
  ·rw [ot,aB,show l.length+1+k=l.length+(k+1) by omega]
   exact ih.2
theorem Fz {l:aa} (h:∀c∈l,bp c=true) (h0:l≠[]) (hl:l.length<=18):wa l=some ((dval 0 l:Nat):Int)/\dval 0 l<10 ^ l.length:=by
 obtain ⟨h1,h2⟩:=Ml (2 ^ 64 - 1) (by decide) l 0 0 h (by simp) (by omega)
 refine ⟨?_,by simpa using h2⟩
 have hlt:dval 0 l<10 ^ 18:=nG h2 (jS (by decide) (by omega))
 cases l with
 | nil=>exact absurd rfl h0
 | cons c r=>
  have hc:=(dl c).1 (h c (by simp))
  have hu:Lib.parseUintB 64 (c::r)=.ok (dval 0 (c::r)):=by
   unfold Lib.parseUintB
   rw [ab h0,h1]
  have hs:¬(c.toNat=43\/c.toNat=45):=by omega
  simp only [wa,Lib.parseIntB,hs,aD,hu]
  have h18:(10:Nat) ^ 18=1000000000000000000:=by decide
  have h63:(2:Nat) ^ (64 - 1)=9223372036854775808:=by decide
  have hn:¬c.toNat=45:=by omega
  simp only [hn,B6,jb,vc,aD]
  rw [h63,ab (by omega)]
theorem J6 (n k:Nat) (hk:k<=18) (hn:18<n):om n (k:Int)=some (((10 ^ k:Nat):Int),0):=by
 have h18:(10:Nat) ^ 18=1000000000000000000:=by decide
 have:=fe (step:=jW n) (λx=>∃i:Nat,i<=k/\x=(((10 ^ i:Nat):Int),(k:Int),(i:Int))) (λx=>k - x.2.2.toNat) (λ_=>((10 ^ k:Nat):Int)) (by
  rintro x ⟨i,hi,rfl⟩
  rcases aG i k with hlt | hge
  ·have hle:(10:Nat) ^ (i+1)<=10 ^ 18:=jS (by decide) (by omega)
   have hp:(10:Nat) ^ (i+1)=10 ^ i*10:=rF 10 i
   have w1:IntKind.wrap .i64 (((10 ^ i:Nat):Int)*10)=((10 ^ (i+1):Nat):Int):=by rw [wrap_i64 _ (by omega) (by omega)];omega
   have w2:IntKind.wrap .i64 ((i:Int)+1)=((i+1:Nat):Int):=by rw [wrap_i64 _ (by omega) (by omega)];omega
   refine .inl ⟨_,?_,⟨i+1,hlt,rfl⟩,by simp only [bF];omega,rfl⟩
   simp only [jW,mH,hlt,nd,aj,w1,w2]
  ·have:i=k:=by omega
   subst this
   refine .inr ?_
   simp only [jW,mH,B5,mT,af]) n (1,(k:Int),0) ⟨0,by omega,rfl⟩ (by simp;omega)
 have d1:decide ((k:Int)<0)=false:=au (by omega)
 have d2:decide ((k:Int)>18)=false:=au (by omega)
 simp only [om,d1,d2,af,this,ob]
theorem jV (x:Int) (h0:0<=x) (h1:x<18446744073709551616):IntKind.wrap .u64 x=x:=by
 show x%18446744073709551616=x
 omega
theorem Cz (x:Int):IntKind.wrap .u64 x=x%18446744073709551616:=rfl
theorem IM {a:Nat} (ha:a<18446744073709551616):bits .and .u64 (a:Int) 4294967295=((a%4294967296:Nat):Int):=by
 show IntKind.wrap .u64 ((BitVec.ofInt 64 (a:Int) &&& BitVec.ofInt 64 ((4294967295:Nat):Int)).toNat:Int)=_
 rw [Aw,Aw,BitVec.toNat_and,BitVec.toNat_ofNat,BitVec.toNat_ofNat,pK (show a<2 ^ 64 from ha),pK (by decide)]
 have:=Nat.and_two_pow_sub_one_eq_mod a 32
 rw [show (2:Nat) ^ 32 - 1=4294967295 from by decide,show (2:Nat) ^ 32=4294967296 from by decide] at this
 rw [this]
 exact jV _ (by omega) (by omega)
theorem Ke (a:Nat):Int.fdiv (a:Int) (2 ^ 32)=((a / 4294967296:Nat):Int):=by
 rw [KV]
theorem EQ {a b A B:Nat} (ha:a<=A) (hb:b<=B):a*b<=A*B:=wx ha hb
theorem Gt (a b:Nat):a*b=(a / 4294967296)*(b / 4294967296)*18446744073709551616+((a / 4294967296)*(b%4294967296)+(a%4294967296)*(b / 4294967296))*4294967296+(a%4294967296)*(b%4294967296):=by
 have e1:a=(a / 4294967296)*4294967296+a%4294967296:=by omega
 have e2:b=(b / 4294967296)*4294967296+b%4294967296:=by omega
 generalize a / 4294967296=x1 at e1 ⊢
 generalize a%4294967296=x0 at e1 ⊢
 generalize b / 4294967296=y1 at e2 ⊢
 generalize b%4294967296=y0 at e2 ⊢
 subst e1 e2
 rw [gp,Nat.mul_add,Nat.mul_add]
 have h1:x1*4294967296*(y1*4294967296)=x1*y1*18446744073709551616:=by
  rw [Nat.mul_mul_mul_comm]
 have h2:x1*4294967296*y0=x1*y0*4294967296:=by rw [Nat.mul_right_comm]
 have h3:x0*(y1*4294967296)=x0*y1*4294967296:=by rw [CI]
 rw [h1,h2,h3,gp]
 omega
theorem RQ (n a b:Nat) (ha:a<18446744073709551616) (hb:b<18446744073709551616):kn n (a:Int) (b:Int)=some (((a*b / 18446744073709551616:Nat):Int),((a*b%18446744073709551616:Nat):Int)):=by
 have hsp:=Gt a b
 have hx1:a / 4294967296<=4294967295:=by omega
 have hx0:a%4294967296<=4294967295:=by omega
 have hy1:b / 4294967296<=4294967295:=by omega
 have hy0:b%4294967296<=4294967295:=by omega
 have p00:=EQ hx0 hy0
 have p01:=EQ hx0 hy1
 have p10:=EQ hx1 hy0
 have p11:=EQ hx1 hy1
 have hlo:IntKind.wrap .u64 ((a:Int)*(b:Int))=((a*b%18446744073709551616:Nat):Int):=by
  rw [Cz,<-EZ];omega
 simp only [kn,Ke,IM ha,IM hb,hlo]
 simp only [<-EZ]
 generalize (a / 4294967296)*(b / 4294967296)=q11 at *
 generalize (a / 4294967296)*(b%4294967296)=q10 at *
 generalize (a%4294967296)*(b / 4294967296)=q01 at *
 generalize (a%4294967296)*(b%4294967296)=q00 at *
 generalize a*b=N at *
 have w1:IntKind.wrap .u64 ((q00:Nat):Int)=((q00:Nat):Int):=jV _ (by omega) (by omega)
 have w2:IntKind.wrap .u64 ((q10:Nat):Int)=((q10:Nat):Int):=jV _ (by omega) (by omega)
 have w3:IntKind.wrap .u64 ((q01:Nat):Int)=((q01:Nat):Int):=jV _ (by omega) (by omega)
 have w4:IntKind.wrap .u64 ((q11:Nat):Int)=((q11:Nat):Int):=jV _ (by omega) (by omega)
 rw [w1,w2,w3,w4,Ke q00]
 have w5:IntKind.wrap .u64 (((q10:Nat):Int)+((q00 / 4294967296:Nat):Int))=((q10+q00 / 4294967296:Nat):Int):=by rw [jV _ (by omega) (by omega)];omega
 rw [w5,Ke,IM (by omega)]
 have w6:IntKind.wrap .u64 (((q11:Nat):Int)+(((q10+q00 / 4294967296) / 4294967296:Nat):Int))=((q11+(q10+q00 / 4294967296) / 4294967296:Nat):Int):=by rw [jV _ (by omega) (by omega)];omega
 have w7:IntKind.wrap .u64 ((((q10+q00 / 4294967296)%4294967296:Nat):Int)+((q01:Nat):Int))=(((q10+q00 / 4294967296)%4294967296+q01:Nat):Int):=by rw [jV _ (by omega) (by omega)];omega
 rw [w6,w7,Ke]
 have w8:IntKind.wrap .u64 (((q11+(q10+q00 / 4294967296) / 4294967296:Nat):Int)+((((q10+q00 / 4294967296)%4294967296+q01) / 4294967296:Nat):Int))=((N / 18446744073709551616:Nat):Int):=by
  rw [jV _ (by omega) (by omega)];omega
 rw [w8]
theorem P3 (n a b:Nat) (ha:a<9223372036854775808) (hb:b<9223372036854775808):ui n (a:Int) (b:Int)=some (if a*b<9223372036854775808 then (((a*b:Nat):Int),0) else (0,15)):=by
 have d1:decide ((a:Int)<0)=false:=au (by omega)
 have d2:decide ((b:Int)<0)=false:=au (by omega)
 have w1:IntKind.wrap .u64 (a:Int)=a:=jV _ (by omega) (by omega)
 have w2:IntKind.wrap .u64 (b:Int)=b:=jV _ (by omega) (by omega)
 simp only [ui,rR,d1,d2,af,w1,w2,ob,RQ n a b (by omega) (by omega)]
 generalize a*b=N
 by_cases h:18446744073709551616<=N
 ·have d3:decide (((N / 18446744073709551616:Nat):Int)>0)=true:=ar (by omega)
  rw [d3,ab (by omega)]
  rfl
 ·have d3:decide (((N / 18446744073709551616:Nat):Int)>0)=false:=au (by omega)
  have e:N%18446744073709551616=N:=pK (by omega)
  rw [d3,e]
  simp only [af,BEq.rfl,dI,rz,ja,aj]
  by_cases h2:N<9223372036854775808
  ·have d4:decide (((N:Nat):Int)<=9223372036854775807)=true:=ar (by omega)
   rw [d4,ae h2,aj,wrap_i64 _ (by omega) (by omega)]
  ·have d4:decide (((N:Nat):Int)<=9223372036854775807)=false:=au (by omega)
   rw [d4,ab h2,af]
def E16:Nat:=10000000000000000
theorem Nx {x:Nat} (hx:17<=x):E16<10 ^ x:=by
 have:(10:Nat) ^ 17<=10 ^ x:=jS (by decide) hx
 have h17:(10:Nat) ^ 17=100000000000000000:=by decide
 unfold E16
 omega
theorem GV (n:Nat) (g l:Bool) (d:aa) (x:Nat) (s:Int) (hd:∀c∈d,bp c=true) (h0:d≠[]) (hl:d.length<=17) (hx:x<=18) (hn:18<n):
  dV n g l d (x:Int) s=some (if dval 0 d*10 ^ x<=E16 then (((dval 0 d*10 ^ x:Nat):Int),0) else (0,6)):=by
 obtain ⟨h1,h2⟩:=Fz hd h0 (by omega)
 have hv:dval 0 d<10 ^ 17:=nG h2 (jS (by decide) hl)
 have hp:(10:Nat) ^ x<=10 ^ 18:=jS (by decide) hx
 have h17:(10:Nat) ^ 17=100000000000000000:=by decide
 have h18:(10:Nat) ^ 18=1000000000000000000:=by decide
 have hb:Nat.ble d.length 9223372036854775806=true:=dq (by omega)
 simp only [dV,hb,aj,h1,ob,J6 n x hx hn,fp,af,P3 n _ _ (show dval 0 d<9223372036854775808 by omega) (show 10 ^ x<9223372036854775808 by omega)]
 generalize dval 0 d*10 ^ x=N
 unfold E16
 by_cases h:N<9223372036854775808
 ·rw [ae h]
  simp only [fp,af]
  by_cases h3:N<=10000000000000000
  ·have d1:decide (((N:Nat):Int)>10000000000000000)=false:=au (by omega)
   rw [d1,ae h3,af]
  ·have d1:decide (((N:Nat):Int)>10000000000000000)=true:=ar (by omega)
   rw [d1,ab h3,aj]
 ·rw [ab h,ab (by omega)]
  rfl
def pre (d:aa) (i:Nat):Nat:=dval 0 (d.take i)*10 ^ (i - d.length)
theorem Lm {d:aa} {i:Nat} {c:UInt8} (h:d[i]?=some c):pre d (i+1)=10*pre d i+(c.toNat - 48):=by
 have hlt:=wM h
 unfold pre
 rw [oB,h,show i+1 - d.length=0 by omega,show i - d.length=0 by omega]
 simp only [Option.toList,Dm,z8,pN]
 omega
theorem Lo {d:aa} {i:Nat} (h:d.length<=i):pre d (i+1)=10*pre d i:=by
 unfold pre
 rw [iI (show d.length<=i+1 by omega),iI h,show i+1 - d.length=(i - d.length)+1 by omega,rF]
 rw [<-CI]
 omega
theorem Di (d:aa):∀k i,pre d i<=pre d (i+k)
 | 0,i=>aW _
 | k+1,i=>by
  have ih:=Di d k i
  rcases aG (i+k) d.length with hlt | hge
  ·have:=Lm (bm hlt)
   rw [show i+(k+1)=i+k+1 by omega,this]
   omega
  ·have:=Lo hge
   rw [show i+(k+1)=i+k+1 by omega,this]
   omega
theorem iQ (n:Nat) (d:aa) (x:Nat) (hd:∀c∈d,bp c=true) (hl:d.length<=100) (hx:x<=100) (hn:d.length+x<n):
  am n d (x:Int)=some (if dval 0 d*10 ^ x<=E16 then (((dval 0 d*10 ^ x:Nat):Int),1) else (0,0)):=by
 have hend:pre d (d.length+x)=dval 0 d*10 ^ x:=by
  unfold pre
  rw [iI (by omega),show d.length+x - d.length=x by omega]
 have w0:IntKind.wrap .i64 (((d.length:Nat):Int)+(x:Int))=((d.length+x:Nat):Int):=by rw [wrap_i64 _ (by omega) (by omega)];omega
 have:=fe (step:=eQ n) (λq=>∃i:Nat,i<=d.length+x/\pre d i<=E16/\q=(d,(x:Int),((pre d i:Nat):Int),(i:Int))) (λq=>d.length+x - q.2.2.2.toNat) (λ_=>if dval 0 d*10 ^ x<=E16 then .inr ((dval 0 d*10 ^ x:Nat):Int) else .inl (0,0)) (by
  rintro q ⟨i,hi,hp,rfl⟩
  simp only [eQ,w0,mH]
  unfold E16 at hp ⊢
  have w1:IntKind.wrap .i64 ((i:Int)+1)=((i+1:Nat):Int):=by rw [wrap_i64 _ (by omega) (by omega)];omega
  have w2:IntKind.wrap .i64 (10*((pre d i:Nat):Int))=((10*pre d i:Nat):Int):=by rw [wrap_i64 _ (by omega) (by omega)];omega
  by_cases h1:i<d.length+x
  ·have hm:=Di d (d.length+x - (i+1)) (i+1)
   rw [show i+1+(d.length+x - (i+1))=d.length+x by omega,hend] at hm
   simp only [h1,nd,aj,w1,w2]
   rcases aG i d.length with hlt | hge
   ·obtain ⟨c,hc⟩:∃c,d[i]?=some c:=⟨d[i],bm hlt⟩
    have hdig:=(dl c).1 (hd c (fm hc))
    have hs:=Lm hc
    have w3:IntKind.wrap .u8 (((c.toNat:Nat):Int) - 48)=((c.toNat - 48:Nat):Int):=by rw [fN _ (by omega) (by omega)];omega
    have w4:IntKind.wrap .i64 ((c.toNat - 48:Nat):Int)=((c.toNat - 48:Nat):Int):=wrap_i64 _ (by omega) (by omega)
    have w5:IntKind.wrap .i64 (((10*pre d i:Nat):Int)+((c.toNat - 48:Nat):Int))=((pre d (i+1):Nat):Int):=by rw [wrap_i64 _ (by omega) (by omega)];omega
    simp only [hlt,nd,aj,iw hc,ob,w3,w4,w5]
    by_cases h2:pre d (i+1)<=10000000000000000
    ·have d1:decide (((pre d (i+1):Nat):Int)>10000000000000000)=false:=au (by omega)
     simp only [d1,af]
     exact .inl ⟨_,rfl,⟨i+1,h1,h2,rfl⟩,by simp only [bF];omega,trivial⟩
    ·have d1:decide (((pre d (i+1):Nat):Int)>10000000000000000)=true:=ar (by omega)
     simp only [d1,aj]
     rw [ab (by omega)]
     exact .inr rfl
   ·have hs:=Lo hge
    have hnl:¬i<d.length:=by omega
    simp only [hnl,mT,af]
    rw [<-hs]
    by_cases h2:pre d (i+1)<=10000000000000000
    ·have d1:decide (((pre d (i+1):Nat):Int)>10000000000000000)=false:=au (by omega)
     simp only [d1,af]
     exact .inl ⟨_,rfl,⟨i+1,h1,h2,rfl⟩,by simp only [bF];omega,trivial⟩
    ·have d1:decide (((pre d (i+1):Nat):Int)>10000000000000000)=true:=ar (by omega)
     simp only [d1,aj]
     rw [ab (by omega)]
     exact .inr rfl
  ·have:i=d.length+x:=by omega
   subst this
   simp only [B5,mT,af]
   rw [hend] at hp ⊢
   rw [ae hp]
   exact .inr rfl) n (d,(x:Int),0,0) ⟨0,by omega,by unfold pre E16;simp [pc],by unfold pre;simp [pc]⟩ (by simp;omega)
 simp only [am,this,ob]
 by_cases h:dval 0 d*10 ^ x<=E16
 ·rw [ae h,ae h]
 ·rw [ab h,ab h]
def okM (d:aa) (x:Int):Prop:=(∀c∈d,bp c=true)/\1<=d.length/\d.length<=17/\d.head?≠some 48/\0<=x/\x<=16/\¬(x=0/\d.length<5)/\dval 0 d*10 ^ x.toNat<=E16
def okL (d:aa) (x s:Int):Prop:=okM d x/\0<=s/\s<=(d.length:Int)+x
def okS (g:Bool) (d:aa) (x s:Int):Prop:=d.length=4/\(∀c∈d,bp c=true\/c=88)/\x=0/\¬(g=true/\all0 d=true)/\0<=s/\s<=4/\¬(0<s/\hasX d=true)
def okY (g l:Bool) (d:aa) (x s:Int):Prop:=if l=true then okL d x s else okS g d x s
instance (d:aa) (x:Int):Decidable (okM d x):=by unfold okM;infer_instance
instance (d:aa) (x s:Int):Decidable (okL d x s):=by unfold okL;infer_instance
instance (g:Bool) (d:aa) (x s:Int):Decidable (okS g d x s):=by unfold okS;infer_instance
instance (g l:Bool) (d:aa) (x s:Int):Decidable (okY g l d x s):=by unfold okY;infer_instance
theorem HM (d:aa):d.all bp=true↔∀c∈d,bp c=true:=cL
theorem Dv (d:aa):(d.all λc=>bp c||c==88)=true↔∀c∈d,bp c=true\/c=88:=by
 rw [cL]
 constructor
 ·intro h c hc
  have:=h c hc
  simpa using this
 ·intro h c hc
  have:=h c hc
  simpa using this
theorem MZ (c:UInt8):(((c.toNat:Nat):Int)==48)=(c==48):=xp c 48
theorem M3 (n:Nat) (g l:Bool) (d:aa) (x s:Int) (hn:200<n) (hd:d.length<=100):aV n g l d x s=some (decide (okM d x)):=by
 unfold aV
 by_cases h1:d.length<1
 ·have e:decide (((d.length:Nat):Int)<1)=true:=ar (by omega)
  rw [e,au (λh:okM d x=>by have:=h.2.1;omega)];rfl
 ·have e:decide (((d.length:Nat):Int)<1)=false:=au (by omega)
  rw [e,af]
  by_cases h2:d.length>17
  ·have e:decide (((d.length:Nat):Int)>17)=true:=ar (by omega)
   rw [e,au (λh:okM d x=>by have:=h.2.2.1;omega)];rfl
  ·have e:decide (((d.length:Nat):Int)>17)=false:=au (by omega)
   rw [e,af,GG n d (by omega) (by omega)]
   simp only [ob]
   cases h3:d.all bp with
   | false=>
    rw [au (λh:okM d x=>by rw [(HM d).2 h.1] at h3;cases h3)];rfl
   | true=>
    have hdig:=(HM d).1 h3
    obtain ⟨c,r,rfl⟩:∃c r,d=c::r:=by
     cases d with
     | nil=>simp at h1
     | cons c r=>exact ⟨c,r,rfl⟩
    have hsx:sx (c::r) 0=some c:=by simp [sx]
    simp only [dI,af,hsx,MZ]
    by_cases h4:c=48
    ·rw [au (λh:okM (c::r) x=>h.2.2.2.1 (by rw [h4];rfl)),h4];rfl
    ·have e:(c==48)=false:=aM.2 h4
     rw [e,af]
     by_cases h5:x<0
     ·rw [ar h5,au (λh:okM (c::r) x=>by have:=h.2.2.2.2.1;omega)];rfl
     ·rw [au h5,af]
      by_cases h6:x>16
      ·rw [ar h6,au (λh:okM (c::r) x=>by have:=h.2.2.2.2.2.1;omega)];rfl
      ·rw [au h6,af]
       obtain ⟨k,rfl⟩:∃k:Nat,x=(k:Int):=⟨x.toNat,by omega⟩
       have hmg:=GV n g l (c::r) k s hdig (by simp) (by omega) (by omega) (by omega)
       rw [hmg]
       have key:¬((k:Int)=0/\(c::r).length<5)->(okM (c::r) (k:Int)↔dval 0 (c::r)*10 ^ k<=E16):=by
        intro hk
        constructor
        ·intro h
         simpa using h.2.2.2.2.2.2.2
        ·intro h
         exact ⟨hdig,by omega,by omega,by simpa using h4,by omega,by omega,hk,by simpa using h⟩
       have fin:¬((k:Int)=0/\(c::r).length<5)->(ob (some (if dval 0 (c::r)*10 ^ k<=E16 then (((dval 0 (c::r)*10 ^ k:Nat):Int),(0:Int)) else (0,6))) λq=>(some (q.2==0)))=some (decide (okM (c::r) (k:Int))):=by
        intro hk
        by_cases h7:dval 0 (c::r)*10 ^ k<=E16
        ·rw [ae h7,ar ((key hk).2 h7)];rfl
        ·rw [ab h7,au (λh=>h7 ((key hk).1 h))];rfl
       by_cases h8:(k:Int)=0
       ·have e:((k:Int)==0)=true:=bD.2 h8
        rw [e,aj]
        by_cases h9:(c::r).length<5
        ·have e:decide ((((c::r).length:Nat):Int)<5)=true:=ar (by omega)
         rw [e,au (λh:okM (c::r) (k:Int)=>h.2.2.2.2.2.2.1 ⟨h8,h9⟩)];rfl
        ·have e:decide ((((c::r).length:Nat):Int)<5)=false:=au (by omega)
         rw [e,af]
         exact fin (λh=>h9 h.2)
       ·have e:((k:Int)==0)=false:=aM.2 h8
        rw [e,af]
        exact fin (λh=>h8 h.1)
theorem Lc (n:Nat) (g l:Bool) (d:aa) (x s:Int) (hn:200<n) (hd:d.length<=100):
  (ob (aV n g l d x s) λr=>(cond (!r) (some (6:Int)) (cond (decide (s<0)) (some 6) (cond (decide (s>(IntKind.wrap .i64 (((d.length:Nat):Int)+x)))) (some 6) (some 0)))))=some (if okL d x s then 0 else 6):=by
 rw [M3 n g l d x s hn hd]
 simp only [ob]
 by_cases h:okM d x
 ·rw [ar h]
  have hx:=h.2.2.2.2
  have w:IntKind.wrap .i64 (((d.length:Nat):Int)+x)=((d.length:Nat):Int)+x:=wrap_i64 _ (by omega) (by omega)
  rw [w]
  simp only [dI,af,bP]
  by_cases h1:s<0
  ·rw [ae h1,ab (λq:okL d x s=>by have:=q.2.1;omega)]
  ·rw [ab h1]
   by_cases h2:s>((d.length:Nat):Int)+x
   ·rw [ae h2,ab (λq:okL d x s=>by have:=q.2.2;omega)]
   ·rw [ab h2,ae ⟨h,by omega,by omega⟩]
 ·rw [au h,ab (λq:okL d x s=>h q.1)];rfl
theorem y7 (n:Nat) (g l:Bool) (d:aa) (x s:Int) (hn:200<n) (hd:d.length<=100):ck n g l d x s=some (if okY g l d x s then 0 else 6):=by
 obtain ⟨y,ht,hy⟩:=Ob n d (by omega) (by omega)
 unfold ck
 rw [FT n d (by omega) (by omega),ht,rQ]
 cases l with
 | true=>
  have hok:(if okY g true d x s then (0:Int) else 6)=if okL d x s then 0 else 6:=by simp only [okY,aO]
  rw [hok]
  have st:=Lc n g true d x s hn hd
  simp only [aj]
  generalize (ob (aV n g true d x s) λr=>(cond (!r) (some (6:Int)) (cond (decide (s<0)) (some 6) (cond (decide (s>(IntKind.wrap .i64 (((d.length:Nat):Int)+x)))) (some 6) (some 0)))))=T at st ⊢
  simp only [ob]
  rw [st]
  cases (((d.length:Nat):Int)==4)<;>cases (d.all λc=>bp c||c==88)<;>cases (x==0)<;>cases g<;>cases (y==[])<;>cases (s != 0)<;>rfl
 | false=>
  have hok:(if okY g false d x s then (0:Int) else 6)=if okS g d x s then 0 else 6:=by simp only [okY,bV,aD]
  rw [hok]
  simp only [af,ob]
  by_cases h1:d.length=4
  ·have e1:(((d.length:Nat):Int)==4)=true:=bD.2 (by omega)
   rw [e1,aj]
   cases h2:(d.all λc=>bp c||c==88) with
   | false=>
    rw [ab (λq:okS g d x s=>by rw [(Dv d).2 q.2.1] at h2;cases h2)];rfl
   | true=>
    have hdX:=(Dv d).1 h2
    rw [aj]
    by_cases h3:x=0
    ·subst h3
     have w:IntKind.wrap .i64 (((d.length:Nat):Int)+0)=4:=by rw [h1];decide
     rw [w]
     have tail:¬(g=true/\all0 d=true)->(cond (s != 0) (cond (!(!hasX d)) (some (6:Int)) (cond (decide (s<0)) (some 6) (cond (decide (s>4)) (some 6) (some 0)))) (cond (decide (s<0)) (some 6) (cond (decide (s>4)) (some 6) (some 0))))=some (if okS g d 0 s then 0 else 6):=by
      intro hg
      simp only [bP,uj,Bool.not_not]
      by_cases s0:s=0
      ·subst s0
       rw [ae rfl,ab (by omega),ab (by omega),ae ⟨h1,hdX,rfl,hg,by omega,by omega,by omega⟩]
      ·rw [ab s0]
       cases hX:hasX d with
       | true=>
        by_cases s1:s<0
        ·rw [ab (λq:okS g d 0 s=>by have:=q.2.2.2.2.1;omega)];rfl
        ·rw [ab (λq:okS g d 0 s=>q.2.2.2.2.2.2 ⟨by omega,hX⟩)];rfl
       | false=>
        rw [af]
        by_cases s1:s<0
        ·rw [ae s1,ab (λq:okS g d 0 s=>by have:=q.2.2.2.2.1;omega)]
        ·rw [ab s1]
         by_cases s2:s>4
         ·rw [ae s2,ab (λq:okS g d 0 s=>by have:=q.2.2.2.2.2.1;omega)]
         ·rw [ab s2,ae ⟨h1,hdX,rfl,hg,by omega,by omega,λq=>by rw [hX] at q;cases q.2⟩]
     have e3:((0:Int)==0)=true:=rfl
     rw [e3,aj]
     cases g with
     | false=>
      simp only [af]
      exact tail (by simp)
     | true=>
      simp only [aj]
      rw [hy]
      cases h4:all0 d with
      | true=>rw [ab (λq:okS true d 0 s=>q.2.2.2.1 ⟨rfl,h4⟩)];rfl
      | false=>
       simp only [ja,aj]
       exact tail (by rw [h4];simp)
    ·have e3:(x==0)=false:=aM.2 h3
     rw [e3,ab (λq:okS g d x s=>h3 q.2.2.1)];rfl
  ·have e1:(((d.length:Nat):Int)==4)=false:=aM.2 (by omega)
   rw [e1,ab (λq:okS g d x s=>h1 q.1)];rfl
theorem ND (d:aa):cnt 48 57 d=d.length↔∀c∈d,bp c=true:=I7 48 57 d
theorem Bm (n:Nat) (g l:Bool) (d:aa) (x s:Int) (hn:200<n) (hd:d.length<=100):co n g l d x s=some (if okY g l d x s then 1 else 0):=by
 have hs:=Ha d
 have hXc:=EL d
 have h0c:=KL d
 have hDc:=ND d
 unfold co
 rw [Eb n d 48 57 (by omega) (by omega),Eb n d 88 88 (by omega) (by omega),Eb n d 48 48 (by omega) (by omega)]
 simp only [ob]
 generalize hA:cnt 48 57 d=A at *
 generalize hB:cnt 88 88 d=B at *
 have w0:IntKind.wrap .i64 (((A:Nat):Int)+((B:Nat):Int))=((A+B:Nat):Int):=by rw [wrap_i64 _ (by omega) (by omega)];omega
 rw [w0]
 simp only [uj,bP,D8]
 by_cases h1:A+B=d.length
 ·rw [ae (by omega)]
  have hdX:=hs.2.1 h1
  by_cases h2:s<0
  ·rw [ae h2,ab]
   intro q
   unfold okY at q
   split at q
   ·have:=q.2.1;omega
   ·have:=q.2.2.2.2.1;omega
  ·rw [ab h2]
   cases l with
   | false=>
    have hok:(if okY g false d x s then (1:Int) else 0)=if okS g d x s then 1 else 0:=by simp only [okY,bV,aD]
    rw [hok,af]
    by_cases h3:d.length=4
    ·rw [ae (by omega)]
     by_cases h4:x=0
     ·rw [ae h4]
      have tail:¬(g=true/\all0 d=true)->(if s>4 then some (0:Int) else if s>0 then (if ((B:Nat):Int)>0 then some 0 else some 1) else some 1)=some (if okS g d x s then 1 else 0):=by
       intro hg
       by_cases s2:s>4
       ·rw [ae s2,ab (λq:okS g d x s=>by have:=q.2.2.2.2.2.1;omega)]
       ·rw [ab s2]
        by_cases s3:s>0
        ·rw [ae s3]
         by_cases hb:((B:Nat):Int)>0
         ·rw [ae hb,ab (λq:okS g d x s=>q.2.2.2.2.2.2 ⟨by omega,by rw [hXc];exact ar (by omega)⟩)]
         ·rw [ab hb,ae ⟨h3,hdX,h4,hg,by omega,by omega,λq=>by
           have:=q.2
           rw [hXc,bY] at this
           omega⟩]
        ·rw [ab s3,ae ⟨h3,hdX,h4,hg,by omega,by omega,λq=>by omega⟩]
      cases g with
      | false=>rw [af];exact tail (by simp)
      | true=>
       rw [aj,gR]
       by_cases h5:all0 d=true
       ·rw [ae (by have:=h0c.1 h5;omega),ab (λq:okS true d x s=>q.2.2.2.1 ⟨rfl,h5⟩)]
       ·rw [ab (λq=>h5 (h0c.2 (by omega)))]
        exact tail (λq=>h5 q.2)
     ·rw [ab h4,ab (λq:okS g d x s=>h4 q.2.2.1)]
    ·rw [ab (by omega),ab (λq:okS g d x s=>h3 q.1)]
   | true=>
    have hok:(if okY g true d x s then (1:Int) else 0)=if okL d x s then 1 else 0:=by simp only [okY,aO]
    rw [hok,aj]
    by_cases hb:((B:Nat):Int)>0
    ·rw [ae hb,ab]
     intro q
     have:=hDc.2 q.1.1
     omega
    ·rw [ab hb]
     have hdig:=hDc.1 (by omega)
     by_cases h3:((A:Nat):Int)<1
     ·rw [ae h3,ab (λq:okL d x s=>by have:=q.1.2.1;omega)]
     ·rw [ab h3]
      by_cases h4:((A:Nat):Int)>17
      ·rw [ae h4,ab (λq:okL d x s=>by have:=q.1.2.2.1;omega)]
      ·rw [ab h4]
       obtain ⟨c,r,rfl⟩:∃c r,d=c::r:=by
        cases d with
        | nil=>simp at h1;omega
        | cons c r=>exact ⟨c,r,rfl⟩
       have hsx:sx (c::r) 0=some c:=by simp [sx]
       simp only [hsx,MZ,gR]
       by_cases h5:c=48
       ·rw [ae h5,ab (λq:okL (c::r) x s=>q.1.2.2.2.1 (by rw [h5];rfl))]
       ·rw [ab h5]
        by_cases h6:x<0
        ·rw [ae h6,ab (λq:okL (c::r) x s=>by have:=q.1.2.2.2.2.1;omega)]
        ·rw [ab h6]
         by_cases h7:x>16
         ·rw [ae h7,ab (λq:okL (c::r) x s=>by have:=q.1.2.2.2.2.2.1;omega)]
         ·rw [ab h7]
          obtain ⟨k,rfl⟩:∃k:Nat,x=(k:Int):=⟨x.toNat,by omega⟩
          have w1:IntKind.wrap .i64 (((A:Nat):Int)+(k:Int))=((A+k:Nat):Int):=by rw [wrap_i64 _ (by omega) (by omega)];omega
          rw [w1,iQ n (c::r) k hdig hd (by omega) (by omega)]
          have hlen:(c::r).length=A:=by omega
          have tail:¬((k:Int)=0/\(c::r).length<5)->(if s>((A+k:Nat):Int) then some (0:Int) else some (if dval 0 (c::r)*10 ^ k<=E16 then (((dval 0 (c::r)*10 ^ k:Nat):Int),(1:Int)) else (0,0)).2)=some (if okL (c::r) (k:Int) s then 1 else 0):=by
           intro hk
           by_cases s2:s>((A+k:Nat):Int)
           ·rw [ae s2,ab (λq:okL (c::r) (k:Int) s=>by have:=q.2.2;rw [hlen] at this;omega)]
           ·rw [ab s2]
            by_cases h8:dval 0 (c::r)*10 ^ k<=E16
            ·rw [ae h8,ae ⟨⟨hdig,by omega,by omega,by simpa using h5,by omega,by omega,hk,by simpa using h8⟩,by omega,by omega⟩]
            ·rw [ab h8,ab (λq:okL (c::r) (k:Int) s=>h8 (by simpa using q.1.2.2.2.2.2.2.2))]
          by_cases h8:(k:Int)=0
          ·rw [ae h8]
           by_cases h9:((A:Nat):Int)<5
           ·rw [ae h9,ab (λq:okL (c::r) (k:Int) s=>q.1.2.2.2.2.2.2.1 ⟨h8,by omega⟩)]
           ·rw [ab h9]
            exact tail (λq=>by omega)
          ·rw [ab h8]
           exact tail (λq=>h8 q.1)
 ·rw [ab (by omega),ab]
  intro q
  apply h1
  rw [hs.2]
  unfold okY at q
  split at q
  ·exact λc hc=>.inl (q.1.1 c hc)
  ·exact q.2.1
theorem GR:∀(l:aa) (acc:Nat),acc*10 ^ l.length<=dval acc l
 | [],acc=>by rw [pc];simp
 | c::l,acc=>by
  have ih:=GR l (ub acc c)
  rw [ot,aB,rF]
  have h:acc*10<=ub acc c:=yR _ _
  have h2:=nE (10 ^ l.length) h
  have h3:acc*(10 ^ l.length*10)=acc*10*10 ^ l.length:=by rw [wm (10 ^ l.length) 10,CI]
  omega
theorem qa:∀(l:aa) (acc k:Nat),(∀c∈l,bp c=true)->acc<10 ^ k->dval acc l<10 ^ (l.length+k)
 | [],acc,k,_,h=>by rw [pc];simpa using h
 | c::l,acc,k,hd,h=>by
  have hc:=(dl c).1 (hd c (by simp))
  have hp:(10:Nat) ^ (k+1)=10 ^ k*10:=rF 10 k
  have hs:ub acc c=acc*10+(c.toNat - 48):=rfl
  have ih:=qa l (ub acc c) (k+1) (λd hd'=>hd d (by simp [hd'])) (by omega)
  rw [ot,aB,show l.length+1+k=l.length+(k+1) by omega]
  exact ih
structure Num (d:aa) (k q:Nat):Prop where
 dig:∀c∈d,bp c=true
 ne:d≠[]
 wide:d.length+k<=17
 small:dval 0 d*10 ^ k<=E16
 sig:q<=d.length+k
theorem sK {d:aa} (h:∀c∈d,bp c=true):hasX d=false:=by
 unfold hasX
 rw [rP]
 intro c hc he
 rw [bD] at he
 have:=(dl c).1 (h c hc)
 rw [he] at this
 exact absurd this.2 (by decide)
theorem qM {g l:Bool} {d:aa} {x s:Int} (h:okY g l d x s) (hX:hasX d=false):∃k q:Nat,x=(k:Int)/\s=(q:Int)/\Num d k q:=by
 cases l with
 | true=>
  have h:okL d x s:=by simpa [okY] using h
  obtain ⟨⟨h1,h2,h3,h4,h5,h6,h7,h8⟩,h9,h10⟩:=h
  refine ⟨x.toNat,s.toNat,by omega,by omega,h1,by intro e;subst e;simp at h2,?_,h8,by omega⟩
  cases d with
  | nil=>simp at h2
  | cons c r=>
   have hc:=(dl c).1 (h1 c (by simp))
   have hne:c≠48:=by simpa using h4
   have hc0:1<=ub 0 c:=by
    have:c.toNat≠48:=λe=>hne (ip.1 e)
    show 1<=0*10+(c.toNat - 48)
    omega
   have hg:=GR r (ub 0 c)
   rw [<-ot] at hg
   have h9:10 ^ r.length<=dval 0 (c::r):=by
    have:=nE (10 ^ r.length) hc0
    omega
   have h11:=nE (10 ^ x.toNat) h9
   rw [<-Nat.pow_add] at h11
   rcases aG (r.length+x.toNat) 17 with hlt | hge
   ·simp only [aB];omega
   ·have:=Nx hge
    omega
 | false=>
  have h:okS g d x s:=by simpa [okY] using h
  obtain ⟨h1,h2,h3,h4,h5,h6,h7⟩:=h
  have hd:∀c∈d,bp c=true:=by
   intro c hc
   rcases h2 c hc with h | h
   ·exact h
   ·exfalso
    unfold hasX at hX
    rw [rP] at hX
    exact hX c hc (bD.2 h)
  have hlt:=qa d 0 0 hd (by simp)
  rw [h1] at hlt
  refine ⟨0,s.toNat,by omega,by omega,hd,by intro e;subst e;simp at h1,by omega,?_,by omega⟩
  have h4:(10:Nat) ^ (4+0)=10000:=by decide
  unfold E16
  simp only [z8,pN]
  omega
def val (d:aa) (k:Nat):Nat:=dval 0 d*10 ^ k
theorem yE (n:Nat) (g l:Bool) (d:aa) (x s:Int) (hn:200<n) (hd:d.length<=100):
  ef n g l d x s=some (if okY g l d x s/\hasX d=false then (if g then -((val d x.toNat:Nat):Int) else ((val d x.toNat:Nat):Int),0) else (0,6)):=by
 unfold ef
 rw [y7 n g l d x s hn hd,rQ]
 simp only [ob]
 by_cases h:okY g l d x s
 ·rw [ae h]
  cases hX:hasX d with
  | true=>rw [ab (by simp)];rfl
  | false=>
   rw [ae ⟨h,rfl⟩]
   obtain ⟨k,q,rfl,rfl,hN⟩:=qM h hX
   rw [GV n g l d k q hN.dig hN.ne (by have:=hN.wide;omega) (by have:=hN.wide;omega) (by omega),ae hN.small]
   have hs:=hN.small
   unfold E16 at hs
   cases g with
   | true=>
    simp only [fp,af,aj,bF,val,aO]
    rw [wrap_i64 _ (by omega) (by omega),yo]
   | false=>simp [val]
 ·rw [ab h,ab (λq=>h q.1)];rfl
theorem bM {a b:aa} (h:a.length+b.length<=1000000):cat a b=some (a++b):=by
 unfold cat;rw [ae (by omega)]
theorem cut1 {l:aa} {i:Nat} {c:UInt8} (h:l[i]?=some c):List.drop i (List.take (i+1) l)=[c]:=by
 have hlt:=wM h
 rw [oB,h,A7 (by rw [cE];omega)]
 rfl
theorem Oa {l:aa} {i:Nat} {c:UInt8} (h:l[i]?=some c):List.take (i+1) l=List.take i l++[c]:=by
 rw [oB,h];rfl
theorem pD {g l:Bool} {d:aa} {x s:Int} (h:okY g l d x s) (hX:hasX d=true):l=false/\x=0/\s=0/\d.length=4/\∀c∈d,bp c=true\/c=88:=by
 cases l with
 | true=>
  have h:okL d x s:=by simpa [okY] using h
  rw [sK h.1.1] at hX
  cases hX
 | false=>
  have h:okS g d x s:=by simpa [okY] using h
  obtain ⟨h1,h2,h3,h4,h5,h6,h7⟩:=h
  refine ⟨rfl,h3,?_,h1,h2⟩
  have:¬0<s:=λe=>h7 ⟨e,hX⟩
  omega
theorem ir {g l:Bool} {d:aa} {x s:Int} (h:okY g l d x s):0<=x/\x<=16/\0<=s/\s<=17/\1<=d.length/\d.length<=17:=by
 cases hX:hasX d with
 | true=>
  obtain ⟨rfl,rfl,rfl,hl,_⟩:=pD h hX
  omega
 | false=>
  obtain ⟨k,q,rfl,rfl,hN⟩:=qM h hX
  have h1:=hN.wide
  have h2:=hN.sig
  have h3:1<=d.length:=by
   cases d with
   | nil=>exact absurd rfl hN.ne
   | cons c r=>simp
  omega
theorem Iq {g l:Bool} {d:aa} {x s:Int} (h:okY g l d x s):tQ d x s=true:=by
 obtain ⟨h1,h2,h3,h4,h5,h6⟩:=ir h
 unfold tQ
 rw [ar (by omega),dq (by omega)]
 rfl
def numU (d:UInt8):aa->Nat⊕(Nat×Nat)
 | []=>.inr (d.toNat - 48,2)
 | e::_=>if bp e=true then .inr (10*(d.toNat - 48)+(e.toNat - 48),3) else .inr (d.toNat - 48,2)
def numT:aa->Nat⊕(Nat×Nat)
 | []=>.inl 1
 | d::r=>if 49<=d.toNat/\d.toNat<=57 then numU d r else .inl 1
def numS (letter:UInt8):aa->Nat⊕(Nat×Nat)
 | []=>.inr (0,0)
 | c::r=>if c=letter then numT r else .inr (0,0)
theorem zG (letter:UInt8):numS letter []=.inr (0,0):=rfl
theorem nO (letter c:UInt8) (r:aa):numS letter (c::r)=if c=letter then numT r else .inr (0,0):=rfl
theorem yX:numT []=.inl 1:=rfl
theorem pL (d:UInt8) (r:aa):numT (d::r)=if 49<=d.toNat/\d.toNat<=57 then numU d r else .inl 1:=rfl
theorem uF (d:UInt8):numU d []=.inr (d.toNat - 48,2):=rfl
theorem n8 (d e:UInt8) (r:aa):numU d (e::r)=if bp e=true then .inr (10*(d.toNat - 48)+(e.toNat - 48),3) else .inr (d.toNat - 48,2):=rfl
theorem xG (c:UInt8) (h:c.toNat<128):(Utf8.encode ((c.toNat:Nat):Int)).data.toList=[c]:=by
 have:=mP (λc=>(decide (128<=c.toNat))||(Utf8.encode ((c.toNat:Nat):Int)).data.toList==[c]) (by decide +kernel) c
 simp only [gB,bY,bD] at this
 rcases this with h2 | h2
 ·omega
 ·exact h2
theorem pG {c:UInt8} (h:48<=c.toNat/\c.toNat<=57):Lib.digitVal c=some (c.toNat - 48):=by
 unfold Lib.digitVal;rw [ae h]
theorem xo {c:UInt8} (h:48<=c.toNat/\c.toNat<=57) (r:aa):Lib.atoi (c::r)=(Lib.decNat (c::r)).map λ(m:Nat)=>(m:Int):=by
 have e1:(c==45)=false:=by
  rw [aM];rintro rfl;exact absurd h.1 (by decide)
 have e2:(c==43)=false:=by
  rw [aM];rintro rfl;exact absurd h.1 (by decide)
 simp only [Lib.atoi,e1,e2,bV,aD]
theorem Jv {c:UInt8} (h:48<=c.toNat/\c.toNat<=57):Lib.atoi [c]=some ((c.toNat - 48:Nat):Int):=by
 rw [xo h]
 simp only [Lib.decNat,List.isEmpty_cons,bV,aD,Lib.decFrom,pG h,ew,zq,de]
theorem Du {c e:UInt8} (h:48<=c.toNat/\c.toNat<=57) (he:48<=e.toNat/\e.toNat<=57):Lib.atoi [c,e]=some ((10*(c.toNat - 48)+(e.toNat - 48):Nat):Int):=by
 rw [xo h]
 simp only [Lib.decNat,List.isEmpty_cons,bV,aD,Lib.decFrom,pG h,pG he,ew,zq,de]
 rw [wm]
theorem yg (c:UInt8):hasB [49,50,51,52,53,54,55,56,57] c=decide (49<=c.toNat/\c.toNat<=57):=by
 have:=mP (λc=>hasB [49,50,51,52,53,54,55,56,57] c==decide (49<=c.toNat/\c.toNat<=57)) (by decide +kernel) c
 simpa using this
theorem mK {p q:UInt8->Bool} (h:∀c,p c=q c):∀(k:Nat) (l:aa),cA p k l=cA q k l
 | 0,_=>by simp [cA]
 | _+1,[]=>by simp [cA]
 | k+1,c::l=>by simp only [cA,h c,mK h k l]
theorem C7 {S:aa} {a:Nat} {c:UInt8} {r:aa} (h:S.drop a=c::r):a<S.length/\S[a]?=some c/\S.drop (a+1)=r:=by
 have hlt:a<S.length:=by
  rcases aG a S.length with q | q
  ·exact q
  ·rw [kB q] at h;cases h
 have hg:S[a]?=some S[a]:=bm hlt
 have hd:=fi hg
 rw [h] at hd
 injection hd with h1 h2
 exact ⟨hlt,by rw [hg,h1],h2.symm⟩
theorem Gq (n:Nat) (letter:UInt8) (S:aa) (at_:Nat) (h:at_<=S.length) (hS:S.length<100000) (hn:S.length<n):
  cX n [letter] S (at_:Int)=some (match numS letter (S.drop at_) with | .inl k=>.inr (((at_+k:Nat):Int),5,S,((at_+k:Nat):Int)) | .inr (v,k)=>.inl ((v:Int),S,((at_+k:Nat):Int))):=by
 unfold cX
 rw [qp n [letter] S at_ h (by omega)]
 cases hd:S.drop at_ with
 | nil=>simp [zG]
 | cons c r=>
  obtain ⟨hlt,hg,hr⟩:=C7 hd
  rw [nO]
  by_cases hc:c=letter
  ·have htk:List.take [letter].length (c::r)=[letter]:=by simp [hc]
   have hl1:at_+[letter].length=at_+1:=rfl
   rw [ae htk,hl1,ae hc]
   clear htk
   simp only [ob,dI,af]
   rw [zQ n _ S (at_+1) (by omega) (by omega),hr]
   cases r with
   | nil=>simp [yX]
   | cons d r2=>
    obtain ⟨hlt2,hg2,hr2⟩:=C7 hr
    rw [pL]
    simp only [yg,bY]
    by_cases hd1:49<=d.toNat/\d.toNat<=57
    ·rw [ae hd1,ae hd1]
     simp only []
     rw [uB n _ 0 1 S (at_+1+1) (by omega) (by omega) hn,hr2]
     have hk:=ny (hasB [48,49,50,51,52,53,54,55,56,57]) (1:Int).toNat r2
     rw [ab (by omega)]
     rw [mK vn]
     simp only []
     rw [xG d (by omega)]
     have hb1:Nat.ble ([d]:aa).length 18=true:=rfl
     have hb2:∀e:UInt8,Nat.ble ([d,e]:aa).length 18=true:=λ_=>rfl
     have p2:at_+1+1=at_+2:=rfl
     have p3:at_+2+1=at_+3:=rfl
     have ad:=Jv (show 48<=d.toNat/\d.toNat<=57 by omega)
     cases r2 with
     | nil=>
      have hs:cA bp (1:Int).toNat []=0:=rfl
      rw [hs,uF]
      rw [bM (by simp)]
      simp only [List.take_nil,nW,cG,hb1,aj,ad,opt,p2]
     | cons e r3=>
      by_cases he:bp e=true
      ·have hs:cA bp (1:Int).toNat (e::r3)=1:=by
        show cA bp (0+1) (e::r3)=1
        simp [cA,he]
       have ade:=Du (show 48<=d.toNat/\d.toNat<=57 by omega) ((dl e).1 he)
       rw [hs,n8,ae he]
       have ht:List.take 1 (e::r3)=[e]:=rfl
       rw [ht,bM (by simp)]
       simp only [fj,dR,hb2,aj,ade,opt,p2,p3]
      ·have hs:cA bp (1:Int).toNat (e::r3)=0:=by
        show cA bp (0+1) (e::r3)=0
        simp [cA,he]
       rw [hs,n8,ab he]
       have ht:List.take 0 (e::r3)=[]:=rfl
       rw [ht,bM (by simp)]
       simp only [nW,hb1,aj,ad,opt,cG,p2]
    ·rw [ab hd1,ab hd1]
  ·have e:¬List.take [letter].length (c::r)=[letter]:=by simp [hc]
   rw [ab e,ab hc]
   simp
def isDX (c:UInt8):Bool:=bp c||c==88
abbrev YR:=Bool×Bool×aa×Nat×Nat×Nat
def zh (g:Bool) (o:Nat):aa->Nat⊕YR
 | []=>.inl o
 | c::r=>if 49<=c.toNat/\c.toNat<=57 then
   (match numS 69 ((c::r).drop (1+cA bp 16 r)) with
   | .inl j=>.inl (o+(1+cA bp 16 r)+j)
   | .inr (x,j)=>(match numS 83 ((c::r).drop (1+cA bp 16 r+j)) with
    | .inl i=>.inl (o+(1+cA bp 16 r)+j+i)
    | .inr (s,i)=>.inr (g,true,(c::r).take (1+cA bp 16 r),x,s,o+(1+cA bp 16 r)+j+i)))
  else .inl o
def xx (g:Bool) (o:Nat) (l:aa):Nat⊕YR:=
 if cA isDX 4 l<4 then .inl (o+cA isDX 4 l) else
  (match numS 83 (l.drop 4) with
  | .inl i=>.inl (o+4+i)
  | .inr (s,i)=>.inr (g,false,l.take 4,0,s,o+4+i))
def gA (c:UInt8) (l:aa):Nat:=if l.take 1=[c] then 1 else 0
def tB (l:aa):Nat⊕YR:=
 if gA 89 l=1 then zh (gA 45 (l.drop 1)==1) (1+gA 45 (l.drop 1)) (l.drop (1+gA 45 (l.drop 1)))
 else xx (gA 45 l==1) (gA 45 l) (l.drop (gA 45 l))
theorem kS (c:UInt8) (l:aa):gA c l=0\/gA c l=1:=by
 unfold gA;split
 ·exact .inr rfl
 ·exact .inl rfl
theorem y9 (c:UInt8) (l:aa):gA c l<=l.length:=by
 unfold gA;split
 ·rename_i h
  cases l with
  | nil=>simp at h
  | cons a l=>simp
 ·omega
theorem sw (n:Nat) (c:UInt8) (S:aa) (at_:Nat) (h:at_<=S.length) (hS:S.length<100000):
  aJ n [c] S (at_:Int)=some (gA c (S.drop at_)==1,S,((at_+gA c (S.drop at_):Nat):Int)):=by
 rw [qp n [c] S at_ h (by omega)]
 unfold gA
 have e:[c].length=1:=rfl
 rw [e]
 split<;>rfl
def xf (S:aa) (at_:Nat):Nat⊕YR->(Int×Int×aa×Int)⊕(Bool×Bool×aa×Int×Int×aa×Int)
 | .inl k=>.inl (((at_+k:Nat):Int),5,S,((at_+k:Nat):Int))
 | .inr (g,l,d,x,s,k)=>.inr (g,l,d,(x:Int),(s:Int),S,((at_+k:Nat):Int))
theorem Mn (letter:UInt8) (l:aa):(match numS letter l with | .inl k=>k<=l.length | .inr (_,k)=>k<=l.length):=by
 cases l with
 | nil=>simp [zG]
 | cons c r=>
  rw [nO]
  by_cases hc:c=letter
  ·rw [ae hc]
   cases r with
   | nil=>simp [yX]
   | cons d r2=>
    rw [pL]
    by_cases hd:49<=d.toNat/\d.toNat<=57
    ·rw [ae hd]
     cases r2 with
     | nil=>simp [uF]
     | cons e r3=>
      rw [n8]
      by_cases he:bp e=true
      ·rw [ae he];simp
      ·rw [ab he];simp
    ·rw [ab hd];simp
  ·rw [ab hc];simp
theorem FX {letter:UInt8} {S:aa} {a:Nat} (h:a<=S.length) {v k:Nat} (hk:numS letter (S.drop a)=.inr (v,k)):a+k<=S.length:=by
 have:=Mn letter (S.drop a)
 rw [hk,cQ] at this
 simp only at this
 omega
theorem Nj (n:Nat) (S:aa) (at_ o:Nat) (g:Bool) (h:at_+o<=S.length) (hS:S.length<100000) (hn:S.length<n):
  (ob (ch n [49,50,51,52,53,54,55,56,57] S ((at_+o:Nat):Int)) λy336=>(Sum.casesOn (motive:=λ_=>Option ((Int×Int×aa×Int)⊕(Bool×Bool×aa×Int×Int×aa×Int))) y336 (λa337=>(some (.inl (a337.1,a337.2.1,a337.2.2.1,a337.2.2.2)))) (λb338=>(ob (bR n [48,49,50,51,52,53,54,55,56,57] 0 16 b338.2.1 b338.2.2) λy339=>(Sum.casesOn (motive:=λ_=>Option _) y339 (λa340=>(some (.inl (a340.1,a340.2.1,a340.2.2.1,a340.2.2.2)))) (λb341=>(ob (cat (Utf8.encode b338.1).data.toList b341.1) λs342=>(ob (cX n [69] b341.2.1 b341.2.2) λy343=>(Sum.casesOn (motive:=λ_=>Option _) y343 (λa344=>(ob (cX n [83] a344.2.1 a344.2.2) λy346=>(Sum.casesOn (motive:=λ_=>Option _) y346 (λa347=>(some (.inr (g,true,s342,a344.1,a347.1,a347.2.1,a347.2.2)))) (λb348=>(some (.inl (b348.1,b348.2.1,b348.2.2.1,b348.2.2.2))))))) (λb345=>(some (.inl (b345.1,b345.2.1,b345.2.2.1,b345.2.2.2)))))))))))))=some (xf S at_ (zh g o (S.drop (at_+o)))):=by
 rw [zQ n _ S (at_+o) h (by omega)]
 cases hd:S.drop (at_+o) with
 | nil=>simp [zh,xf,ob]
 | cons c r=>
  obtain ⟨hlt,hg,hr⟩:=C7 hd
  simp only [yg,bY]
  by_cases hc:49<=c.toNat/\c.toNat<=57
  ·rw [ae hc]
   simp only [ob]
   rw [uB n _ 0 16 S (at_+o+1) (by omega) (by omega) hn,hr]
   rw [ab (by omega),mK vn]
   simp only []
   rw [xG c (by omega)]
   have h16:(16:Int).toNat=16:=rfl
   rw [h16]
   have hk:=ny bp 16 r
   have hrl:r.length+(at_+o+1)=S.length:=by
    have:=dP List.length hr
    rw [cQ] at this
    omega
   rw [bM (by simp only [aB,aY,cE];omega)]
   simp only [zh]
   rw [ae hc]
   generalize hK:cA bp 16 r=k at hk ⊢
   have e1:[c]++List.take k r=List.take (1+k) (c::r):=by rw [nB];rfl
   rw [e1]
   have hp1:at_+o+1+k<=S.length:=by omega
   have hdr:List.drop (1+k) (c::r)=S.drop (at_+o+1+k):=by
    rw [<-hd,mQ];congr 1;omega
   rw [Gq n 69 S (at_+o+1+k) hp1 hS hn,<-hdr]
   cases hq:numS 69 (List.drop (1+k) (c::r)) with
   | inl j=>
    simp only [xf]
    have:at_+o+1+k+j=at_+(o+(1+k)+j):=by omega
    rw [this]
   | inr p=>
    obtain ⟨x,j⟩:=p
    have hj:=hq
    rw [hdr] at hj
    have hp2:=FX hp1 hj
    have hdr2:List.drop (1+k+j) (c::r)=S.drop (at_+o+1+k+j):=by
     rw [<-hd,mQ];congr 1;omega
    simp only []
    rw [Gq n 83 S (at_+o+1+k+j) hp2 hS hn,<-hdr2]
    cases hq2:numS 83 (List.drop (1+k+j) (c::r)) with
    | inl i=>
     simp only [xf]
     have:at_+o+1+k+j+i=at_+(o+(1+k)+j+i):=by omega
     rw [this]
    | inr p2=>
     obtain ⟨s,i⟩:=p2
     simp only [xf]
     have:at_+o+1+k+j+i=at_+(o+(1+k)+j+i):=by omega
     rw [this]
  ·rw [ab hc]
   simp only [ob,zh]
   rw [ab hc]
   rfl
theorem JI (n:Nat) (S:aa) (at_ o:Nat) (g:Bool) (h:at_+o<=S.length) (hS:S.length<100000) (hn:S.length<n):
  (ob (bR n [88,48,49,50,51,52,53,54,55,56,57] 4 4 S ((at_+o:Nat):Int)) λy349=>(Sum.casesOn (motive:=λ_=>Option ((Int×Int×aa×Int)⊕(Bool×Bool×aa×Int×Int×aa×Int))) y349 (λa350=>(some (.inl (a350.1,a350.2.1,a350.2.2.1,a350.2.2.2)))) (λb351=>(ob (cX n [83] b351.2.1 b351.2.2) λy352=>(Sum.casesOn (motive:=λ_=>Option _) y352 (λa353=>(some (.inr (g,false,b351.1,0,a353.1,a353.2.1,a353.2.2)))) (λb354=>(some (.inl (b354.1,b354.2.1,b354.2.2.1,b354.2.2.2)))))))))=some (xf S at_ (xx g o (S.drop (at_+o)))):=by
 rw [uB n _ 4 4 S (at_+o) h (by omega) hn]
 have hcg:∀c,hasB [88,48,49,50,51,52,53,54,55,56,57] c=isDX c:=sY
 have h4:(4:Int).toNat=4:=rfl
 rw [mK hcg,h4]
 unfold xx
 have hk:=ny isDX 4 (S.drop (at_+o))
 rw [cQ] at hk
 by_cases hlt:cA isDX 4 (S.drop (at_+o))<4
 ·rw [ae (by omega),ae hlt]
  simp only [ob,xf]
  rw [gv]
 ·rw [ab (by omega),ab hlt]
  have hle:∀(k:Nat) (l:aa),cA isDX k l<=k:=by
   intro k
   induction k with
   | zero=>intro l;simp [cA]
   | succ k ih=>
    intro l
    cases l with
    | nil=>simp [cA]
    | cons c l=>
     have:=ih l
     simp only [cA]
     split<;>omega
  have he:cA isDX 4 (S.drop (at_+o))=4:=by have:=hle 4 (S.drop (at_+o));omega
  rw [he] at hk ⊢
  simp only [ob]
  have hp:at_+o+4<=S.length:=by omega
  rw [Gq n 83 S (at_+o+4) hp hS hn,mQ]
  cases hq:numS 83 (S.drop (at_+o+4)) with
  | inl i=>
   simp only [xf]
   have:at_+o+4+i=at_+(o+4+i):=by omega
   rw [this]
  | inr p=>
   obtain ⟨s,i⟩:=p
   simp only [xf]
   have:at_+o+4+i=at_+(o+4+i):=by omega
   rw [this]
   rfl
theorem M7 (n:Nat) (S:aa) (at_:Nat) (h:at_<=S.length) (hS:S.length<100000) (hn:S.length<n):
  li n S (at_:Int)=some (xf S at_ (tB (S.drop at_))):=by
 unfold li
 rw [sw n 89 S at_ h hS]
 have hle1:=y9 89 (S.drop at_)
 rw [cQ] at hle1
 simp only [ob]
 rw [sw n 45 S (at_+gA 89 (S.drop at_)) (by omega) hS]
 have hle2:=y9 45 (S.drop (at_+gA 89 (S.drop at_)))
 rw [cQ] at hle2
 simp only []
 unfold tB
 rcases kS 89 (S.drop at_) with ht | ht
 ·rw [ht] at hle2 ⊢
  simp only [cG,show ((0:Nat)==1)=false from rfl,af,show ¬((0:Nat)=1) from by decide,aD,mQ] at hle2 ⊢
  have:=JI n S at_ (gA 45 (S.drop at_)) (gA 45 (S.drop at_)==1) (by omega) hS hn
  exact this
 ·rw [ht] at hle2 ⊢
  simp only [show ((1:Nat)==1)=true from rfl,aj,aO,mQ] at hle2 ⊢
  have:=Nj n S at_ (1+gA 45 (S.drop (at_+1))) (gA 45 (S.drop (at_+1))==1) (by omega) hS hn
  rw [<-gv] at this
  rw [<-gv]
  exact this
abbrev stR (S:aa) (a b M:Int) (g L:Bool):aa×Int×Int×Int×Bool×Bool×aa×Int×Int×Bool×Bool×aa×Int×Int:=(S,a,b,M,false,false,[],0,0,g,L,[],0,0)
def isYB (L:Bool) (c:UInt8):Bool:=bp c||(c==88&&!L)
theorem QF (n:Nat) (S:aa) (b M:Nat) (g L:Bool) (hb:b<=S.length) (hS:S.length<100000) (hn:S.length<n) (h48:¬(L=true/\S[b]?=some 48)):
  aw (bL n) n (stR S (b:Int) (b:Int) (M:Int) g L)=some (.inr (S,((b+cA (isYB L) M (S.drop b):Nat):Int),(b:Int),false,false,[],0,0,g,L,[],0,0)):=by
 have:=fe (step:=bL n) (λx=>∃j:Nat,b+j<=S.length/\x=stR S ((b+j:Nat):Int) (b:Int) (M:Int) g L) (λx=>S.length - x.2.1.toNat)
  (λx=>.inr (S,((x.2.1.toNat+cA (isYB L) (M - (x.2.1.toNat - b)) (S.drop x.2.1.toNat):Nat):Int),(b:Int),false,false,[],0,0,g,L,[],0,0)) ?_ n (stR S (b:Int) (b:Int) (M:Int) g L) ⟨0,by omega,rfl⟩ (by simp;omega)
 ·rw [this];simp
 rintro x ⟨j,hj,rfl⟩
 simp only [bF]
 rcases aG (b+j) S.length with hlt | hge
 ·obtain ⟨c,hc⟩:∃c,S[b+j]?=some c:=⟨S[b+j],bm hlt⟩
  have d1:decide (((b+j:Nat):Int)<((S.length:Nat):Int))=true:=ar (by omega)
  have w1:IntKind.wrap .i64 (((b+j:Nat):Int) - (b:Int))=(j:Int):=by rw [wrap_i64 _ (by omega) (by omega)];omega
  have w2:IntKind.wrap .i64 (((b+j:Nat):Int)+1)=((b+(j+1):Nat):Int):=by rw [wrap_i64 _ (by omega) (by omega)];omega
  have hsub:b+j - b=j:=by omega
  rw [fi hc,hsub]
  by_cases hM:j<M
  ·have d2:decide ((j:Int)<(M:Int))=true:=ar (by omega)
   obtain ⟨q,hq⟩:∃q,M - j=q+1:=⟨M - j - 1,by omega⟩
   have hq2:M - (j+1)=q:=by omega
   rw [hq]
   simp only [cA]
   have go:isYB L c=true->bL n (stR S ((b+j:Nat):Int) (b:Int) (M:Int) g L)=some (.inl (stR S ((b+(j+1):Nat):Int) (b:Int) (M:Int) g L)):=by
    intro hy
    by_cases hdg:bp c=true
    ·have hcd:=(dl c).1 hdg
     have e1:decide (((c.toNat:Nat):Int)>=48)=true:=ar (by omega)
     have e2:decide (((c.toNat:Nat):Int)<=57)=true:=ar (by omega)
     simp only [bL,d1,aj,w1,d2,iw hc,ob,e1,e2,w2]
     cases L with
     | false=>rfl
     | true=>
      by_cases hj0:j=0
      ·subst hj0
       have hc48:c≠48:=by
        intro e
        exact h48 ⟨rfl,by rw [<-e];exact hc⟩
       have e3:(((c.toNat:Nat):Int)==48)=false:=by rw [MZ];exact aM.2 hc48
       simp only [cG,BEq.rfl,aj,e3,af]
      ·have e4:(((b+j:Nat):Int)==(b:Int))=false:=aM.2 (by omega)
       simp only [e4,af,aj]
    ·have hdf:bp c=false:=by cases h:bp c with | false=>rfl | true=>exact absurd h hdg
     unfold isYB at hy
     rw [hdf] at hy
     simp only [tK,az,bD,kx] at hy
     obtain ⟨rfl,rfl⟩:=hy
     have e1:decide ((((88:UInt8).toNat:Nat):Int)>=48)=true:=rfl
     have e2:decide ((((88:UInt8).toNat:Nat):Int)<=57)=false:=rfl
     have e3:((((88:UInt8).toNat:Nat):Int)==88)=true:=rfl
     simp only [bL,d1,aj,w1,d2,iw hc,ob,e1,e2,e3,w2,af,ja]
   have stop:isYB L c=false->bL n (stR S ((b+j:Nat):Int) (b:Int) (M:Int) g L)=some (.inr (.inr (S,((b+j:Nat):Int),(b:Int),false,false,[],0,0,g,L,[],0,0))):=by
    intro hy
    unfold isYB at hy
    simp only [qO,Bh] at hy
    obtain ⟨hdf,hX⟩:=hy
    have hnd:¬(48<=c.toNat/\c.toNat<=57):=λq=>by rw [(dl c).2 q] at hdf;cases hdf
    have hx8:(((c.toNat:Nat):Int)==88)=(c==88):=xp c 88
    have fin:(cond (c==88) (cond (!L) (0:Nat) 1) 1)=1:=by
     rcases hX with h | h
     ·rw [h];rfl
     ·have:L=true:=by simpa using h
      rw [this];cases c==88<;>rfl
    by_cases h1:c.toNat>=48
    ·have e1:decide (((c.toNat:Nat):Int)>=48)=true:=ar (by omega)
     have e2:decide (((c.toNat:Nat):Int)<=57)=false:=au (by omega)
     simp only [bL,d1,aj,w1,d2,iw hc,ob,e1,e2,af,hx8]
     rcases hX with h | h
     ·rw [h];rfl
     ·have:L=true:=by simpa using h
      rw [this];cases c==88<;>rfl
    ·have e1:decide (((c.toNat:Nat):Int)>=48)=false:=au (by omega)
     simp only [bL,d1,aj,w1,d2,iw hc,ob,e1,af,hx8]
     rcases hX with h | h
     ·rw [h];rfl
     ·have:L=true:=by simpa using h
      rw [this];cases c==88<;>rfl
   cases hy:isYB L c with
   | true=>
    refine .inl ⟨_,go hy,⟨j+1,by omega,rfl⟩,by simp only [bF];omega,?_⟩
    simp only [bF,aO]
    have e5:b+(j+1) - b=j+1:=by omega
    rw [e5,hq2,show b+(j+1)=b+j+1 by omega]
    have e6:b+j+1+cA (isYB L) q (S.drop (b+j+1))=b+j+(cA (isYB L) q (S.drop (b+j+1))+1):=by omega
    rw [e6]
   | false=>
    refine .inr ?_
    rw [stop hy]
    simp
  ·have d2:decide ((j:Int)<(M:Int))=false:=au (by omega)
   have hz:M - j=0:=by omega
   refine .inr ?_
   rw [hz]
   simp only [bL,d1,aj,w1,d2,af,cA,cG]
 ·have d1:decide (((b+j:Nat):Int)<((S.length:Nat):Int))=false:=au (by omega)
  refine .inr ?_
  rw [kB hge]
  have hz:∀q,cA (isYB L) q []=0:=λq=>by cases q<;>rfl
  simp only [bL,d1,af,hz,cG]
theorem vZ (p:UInt8->Bool):∀(k:Nat) (l:aa),cA p k l<=k
 | 0,l=>by simp [cA]
 | k+1,[]=>by simp [cA]
 | k+1,c::l=>by
  have:=vZ p k l
  simp only [cA]
  split<;>omega
theorem xy (c a:UInt8) (l:aa):gA c (a::l)=if a=c then 1 else 0:=by
 unfold gA;simp
def wint (c:Int):Bool:=c==24||c==28||c==30
def pX (g:Bool) (d:aa) (x:Int):Bool:=!hasX d&&!g&&decide (val d x.toNat=E16)
def yrB (g:Bool) (d:aa) (x s:Int) (m:aa):Bool:=!(decide (0<s)&&!(m==[]))&&!(wint (sea m)&&pX g d x)
theorem AX (n:Nat) (hn:200<n) (g l:Bool) (dg:aa) (x q:Int) (m d:aa) (k0 k1 k2:Int) (hm:m.length<=18) (hd:dg.length<=100):
  eY n g l dg x q m d k0 k1 k2=some (if okY g l dg x q then yrB g dg x q m else false):=by
 unfold eY
 rw [y7 n g l dg x q hn hd,se n g l dg x q m d k0 k1 k2 hm,rQ,yE n g l dg x q hn hd]
 by_cases h:okY g l dg x q
 rotate_left
 ·rw [ab h,ab h];rfl
 rw [ae h,ae h]
 have body:(ob (some (sea m,decide (0<sea m))) λr=>(cond (!r.2) (some true) (ob (some (hasX dg)) λr1=>(cond r1 (some true) (ob (some (if okY g l dg x q/\hasX dg=false then (if g then -((val dg x.toNat:Nat):Int) else ((val dg x.toNat:Nat):Int),(0:Int)) else (0,6))) λr2=>(ob (gL n r2.1 r.1) λr3=>(some (r3.2.2.2.2==0))))))))=some (!(wint (sea m)&&pX g dg x)):=by
  rcases n7 m with h0 | ⟨j,hj,rfl⟩
  ·rw [h0];rfl
  ·have hs:=ka hj
   rw [hs]
   have hp:decide (0<((21+j:Nat):Int))=true:=by simp;omega
   rw [hp]
   cases hX:hasX dg with
   | true=>
    have:pX g dg x=false:=by unfold pX;rw [hX];rfl
    rw [this,EJ]
    rfl
   | false=>
    rw [ae ⟨h,rfl⟩]
    obtain ⟨k,q',rfl,rfl,hN⟩:=qM h hX
    have hv:val dg k<=E16:=hN.small
    unfold E16 at hv
    have hc:dJ (if g then -((val dg k:Nat):Int) else ((val dg k:Nat):Int)):=by
     unfold dJ
     cases g<;>simp<;>omega
    obtain ⟨a,b,c,e,hr⟩:=QD n (by omega) hc hj
    simp only [ob,dI,af,bF]
    rw [hr]
    simp only [aq]
    have hw:wint ((21+j:Nat):Int)=decide (j=3\/j=7\/j=9):=by
     unfold wint
     rw [xM]
     simp only [gB,bD,bY]
     omega
    have hl:pX g dg (k:Int)=decide ((if g then -((val dg k:Nat):Int) else ((val dg k:Nat):Int))=10000000000000000):=by
     unfold pX E16
     rw [hX,bF]
     cases g
     ·simp only [ja,mJ,bV,aD,rt]
      omega
     ·simp
      omega
    rw [hw,hl]
    by_cases h1:(if g then -((val dg k:Nat):Int) else ((val dg k:Nat):Int))=10000000000000000<;>by_cases h2:j=3\/j=7\/j=9
    ·rw [ae ⟨h1,h2⟩,ar h1,ar h2];rfl
    ·rw [ab (λz=>h2 z.2),au h2];rfl
    ·rw [ab (λz=>h1 z.1),au h1,EJ];rfl
    ·rw [ab (λz=>h1 z.1),au h1,EJ];rfl
 show cond (decide (q>0)) (cond (!(m==[])) (some false) _) _=_
 unfold yrB
 rw [show (decide (q>0))=decide (0<q) from rfl]
 cases decide (0<q) with
 | false=>exact body
 | true=>
  cases (m==[]) with
  | false=>rfl
  | true=>exact body
theorem Kl (n:Nat) (hn:200<n) (g l:Bool) (dg:aa) (x q:Int) (m d:aa) (k0 k1 k2:Int) (hd:dg.length<=100):
  iM n g l dg x q m d k0 k1 k2=some (if okY g l dg x q/\yrB g dg x q m=true then 1 else 0):=by
 unfold iM
 rw [Bm n g l dg x q hn hd,kI n (by omega) g l dg x q m d k0 k1 k2,nX n g l dg x q (by omega) (by omega)]
 by_cases h:okY g l dg x q
 rotate_left
 ·rw [ab h,ab (show ¬(okY g l dg x q/\yrB g dg x q m=true) from λz=>h z.1)];rfl
 rw [ae h]
 have T:(ob (some (if hasX dg then (1:Int) else 0)) λr=>(cond (r==1) (some (1:Int)) (ob (am n dg x) λv=>(cond (v.1==10000000000000000) (cond (!g) (some 0) (some 1)) (some 1)))))=some (if pX g dg x then 0 else 1):=by
  cases hX:hasX dg with
  | true=>
   have:pX g dg x=false:=by unfold pX;rw [hX];rfl
   rw [this]
   rfl
  | false=>
   obtain ⟨k,q',rfl,rfl,hN⟩:=qM h hX
   have hv:=hN.small
   have hw:=hN.wide
   have hr:=iQ n dg k hN.dig (by omega) (by omega) (by omega)
   rw [ae hv] at hr
   show ob (am n dg (k:Int)) _=_
   rw [hr]
   show cond (((dval 0 dg*10 ^ k:Nat):Int)==10000000000000000) _ _=_
   unfold pX val
   rw [hX,bF]
   have e:(((dval 0 dg*10 ^ k:Nat):Int)==10000000000000000)=decide (dval 0 dg*10 ^ k=E16):=by
    generalize dval 0 dg*10 ^ k=v
    unfold E16
    rw [xM]
    simp only [bD,bY]
    omega
   rw [e]
   cases decide (dval 0 dg*10 ^ k=E16)<;>cases g<;>rfl
 have body:(ob (some (sea m)) λr=>(cond (r != 24) (cond (r != 28) (cond (r != 30) (some (1:Int)) (ob (some (if hasX dg then (1:Int) else 0)) λr=>(cond (r==1) (some (1:Int)) (ob (am n dg x) λv=>(cond (v.1==10000000000000000) (cond (!g) (some 0) (some 1)) (some 1)))))) (ob (some (if hasX dg then (1:Int) else 0)) λr=>(cond (r==1) (some (1:Int)) (ob (am n dg x) λv=>(cond (v.1==10000000000000000) (cond (!g) (some 0) (some 1)) (some 1)))))) (ob (some (if hasX dg then (1:Int) else 0)) λr=>(cond (r==1) (some (1:Int)) (ob (am n dg x) λv=>(cond (v.1==10000000000000000) (cond (!g) (some 0) (some 1)) (some 1)))))))=some (if (!(wint (sea m)&&pX g dg x))=true then 1 else 0):=by
  rw [T]
  show cond (sea m != 24) _ _=_
  unfold wint
  simp only [bne]
  cases (sea m==24)<;>cases (sea m==28)<;>cases (sea m==30)<;>cases pX g dg x<;>rfl
 unfold yrB
 show cond (decide (q>0)) (cond (!(m==[])) (some 0) _) _=_
 rw [show (decide (q>0))=decide (0<q) from rfl]
 simp only [h,jb]
 cases decide (0<q) with
 | false=>exact body
 | true=>
  cases (m==[]) with
  | false=>rfl
  | true=>exact body
def bi (m d:aa):Nat:=1+(if m==[] then 0 else 1)+(if d==[] then 0 else 1)
theorem rX (n:Nat) (hn:100<n) (g l:Bool) (dg:aa) (x q:Int) (m d:aa) (k0 k1 k2:Int):br n g l dg x q m d k0 k1 k2=some ((bi m d:Nat):Int):=by
 obtain ⟨n,rfl⟩:∃j,n=j+3:=⟨n - 3,by omega⟩
 unfold br bi
 have s0:∀a:Int,bO (n+3) (a,m,d,0)=some (.inl (if m==[] then a else IntKind.wrap .i64 (a+1),m,d,1)):=λa=>by
  unfold bO
  show cond (!(m==[])) _ _=_
  cases (m==[])<;>rfl
 have s1:∀a:Int,bO (n+3) (a,m,d,1)=some (.inl (if d==[] then a else IntKind.wrap .i64 (a+1),m,d,2)):=λa=>by
  unfold bO
  show cond (!(d==[])) _ _=_
  cases (d==[])<;>rfl
 have s2:∀a:Int,bO (n+3) (a,m,d,2)=some (.inr a):=λa=>rfl
 rw [aw,s0]
 show ob (aw _ (n+2) _) _=_
 rw [aw,s1]
 show ob (aw _ (n+1) _) _=_
 rw [aw,s2]
 cases (m==[])<;>cases (d==[])<;>rfl
theorem cV (n:Nat) (g l:Bool) (dg:aa) (x q:Int) (m d:aa) (k0 k1 k2:Int):ak n g l dg x q m d k0 k1 k2=some ((bi m d:Nat):Int):=by
 unfold ak bi
 cases (m==[])<;>cases (d==[])<;>rfl
def allM (a b c:Int) (k:Nat):Int:=if 3<a\/3<b\/3<c\/(k<2/\b≠0)\/(k<3/\c≠0) then 9 else 0
theorem EE (n:Nat) (hn:3<n) (a b c:Int) (k:Nat) (hk:1<=k/\k<=3) (ha:0<=a) (hb:0<=b) (hc:0<=c):
  dw n [a,b,c] (k:Int)=some (allM a b c k)/\bJ n [a,b,c] (k:Int)=some (allM a b c k):=by
 obtain ⟨j,rfl⟩:∃j,n=j+4:=⟨n - 4,by omega⟩
 have w1:IntKind.wrap .i64 1=1:=rfl
 have w2:IntKind.wrap .i64 2=2:=rfl
 have w3:IntKind.wrap .i64 3=3:=rfl
 have i0:ix 3 0=some 0:=rfl
 have i1:ix 3 1=some 1:=rfl
 have i2:ix 3 2=some 2:=rfl
 have hk':k=1\/k=2\/k=3:=by omega
 unfold allM
 by_cases cx:a>3
 ·rcases hk' with rfl | rfl | rfl<;>constructor<;>simp [bJ,dw,aw,dk,gC,gS,ob,w1,w2,w3,i0,i1,i2,cx]
 by_cases cy:b>3
 ·rcases hk' with rfl | rfl | rfl<;>constructor<;>simp [bJ,dw,aw,dk,gC,gS,ob,w1,w2,w3,i0,i1,i2,cx,cy]
 by_cases dy:k=1/\b≠0
 ·obtain ⟨rfl,dy⟩:=dy
  have h0:b>0:=by omega
  have eb:(b != 0)=true:=by simp [dy]
  constructor<;>simp [bJ,dw,aw,dk,gC,gS,ob,w1,w2,w3,i0,i1,i2,cx,cy,h0,dy,eb]
 by_cases cz:c>3
 ·rcases hk' with rfl | rfl | rfl<;>(try (simp at dy;subst dy))<;>constructor<;>simp [bJ,dw,aw,dk,gC,gS,ob,w1,w2,w3,i0,i1,i2,cx,cy,cz]
 by_cases dz:k<3/\c≠0
 ·have h0:c>0:=by omega
  have eb:(c != 0)=true:=by simp [dz.2]
  rcases hk' with rfl | rfl | rfl<;>(try (simp at dy;subst dy))<;>simp at dz<;>constructor<;>simp [bJ,dw,aw,dk,gC,gS,ob,w1,w2,w3,i0,i1,i2,cx,cy,cz,h0,dz,eb]
 rcases hk' with rfl | rfl | rfl<;>(try (simp at dy;subst dy))<;>(try (simp at dz;subst dz))<;>constructor<;>simp [bJ,dw,aw,dk,gC,gS,ob,w1,w2,w3,i0,i1,i2,cx,cy,cz]
theorem ki (m d:aa):1<=bi m d/\bi m d<=3:=by
 unfold bi
 cases (m==[])<;>cases (d==[])<;>simp
def yrD (g l:Bool) (dg:aa) (x q:Int) (m:aa):Bool:=if okY g l dg x q then yrB g dg x q m else false
def chkD (g l:Bool) (dg:aa) (x q:Int) (m d:aa) (k0 k1 k2:Int):Int:=
 cond (!(yrD g l dg x q m)) 6 (cond (!(m==[])&&(!(decide (0<sea m))&&!(dH m 12))) 7
  (cond (!(d==[])&&((m==[])||(decide (0<sea m)||!(dH d 31)))) 8 (allM k0 k1 k2 (bi m d))))
theorem LK (m:aa):0<=sea m:=by
 rcases n7 m with h | ⟨j,hj,rfl⟩
 ·omega
 ·rw [ka hj];omega
theorem Nl (m:aa):(sea m==0)=!(decide (0<sea m)):=by
 have:=LK m
 by_cases h:sea m=0
 ·rw [h];rfl
 ·have h2:0<sea m:=by omega
  rw [aM.2 h,ar h2];rfl
theorem ze (n:Nat) (hn:200<n) (g l:Bool) (dg:aa) (x q:Int) (m d:aa) (k0 k1 k2:Int) (hm:m.length<=18) (hd:dg.length<=100) (h0:0<=k0) (h1:0<=k1) (h2:0<=k2):
  iA n g l dg x q m d k0 k1 k2=some (chkD g l dg x q m d k0 k1 k2):=by
 have hy:eY n g l dg x q m d k0 k1 k2=some (yrD g l dg x q m):=AX n hn g l dg x q m d k0 k1 k2 hm hd
 have a1:cW n m 12=some (dH m 12):=Au n (by omega) m 12 (by omega)
 have a2:cW n d 31=some (dH d 31):=Au n (by omega) d 31 (by omega)
 have ha:=(EE n (by omega) k0 k1 k2 (bi m d) (ki m d) h0 h1 h2).1
 unfold iA chkD
 rw [se n g l dg x q m d k0 k1 k2 hm,hy,a1,a2,rX n (by omega)]
 simp only [ob]
 rw [ha]
 generalize yrD g l dg x q m=b1
 generalize (m==[])=b2
 generalize decide (0<sea m)=b3
 generalize dH m 12=b4
 generalize (d==[])=b5
 generalize dH d 31=b6
 cases b1<;>cases b2<;>cases b3<;>cases b4<;>cases b5<;>cases b6<;>rfl
theorem C0 (n:Nat) (hn:200<n) (g l:Bool) (dg:aa) (x q:Int) (m d:aa) (k0 k1 k2:Int) (hd:dg.length<=100) (h0:0<=k0) (h1:0<=k1) (h2:0<=k2):
  jv n g l dg x q m d k0 k1 k2=some (chkD g l dg x q m d k0 k1 k2):=by
 have hy:iM n g l dg x q m d k0 k1 k2=some (if yrD g l dg x q m then 1 else 0):=by
  rw [Kl n hn g l dg x q m d k0 k1 k2 hd]
  unfold yrD
  by_cases h:okY g l dg x q
  ·simp only [h,jb,aO]
  ·simp only [h,vc,aD];rfl
 have a1:dx n m 12=some (if dH m 12 then 1 else 0):=DP n (by omega) m 12 (by omega)
 have a2:dx n d 31=some (if dH d 31 then 1 else 0):=DP n (by omega) d 31 (by omega)
 have ha:=(EE n (by omega) k0 k1 k2 (bi m d) (ki m d) h0 h1 h2).2
 unfold jv chkD
 rw [kI n (by omega) g l dg x q m d k0 k1 k2,hy,a1,a2,cV n]
 simp only [ob]
 rw [ha,Nl]
 show cond ((if yrD g l dg x q m then (1:Int) else 0)==0) _ (cond _ (cond _ (cond _ _ (cond _ (cond _ _ (cond (decide (0<sea m)) _ _)) _)) (cond _ (cond _ _ (cond (decide (0<sea m)) _ _)) _)) (cond _ (cond _ _ (cond (decide (0<sea m)) _ _)) _))=_
 generalize yrD g l dg x q m=b1
 generalize (m==[])=b2
 generalize decide (0<sea m)=b3
 generalize dH m 12=b4
 generalize (d==[])=b5
 generalize dH d 31=b6
 cases b1<;>cases b2<;>cases b3<;>cases b4<;>cases b5<;>cases b6<;>rfl
theorem At {g l:Bool} {dg:aa} {x q:Int} {m d:aa} {k0 k1 k2:Int} (h:chkD g l dg x q m d k0 k1 k2=0):yrD g l dg x q m=true/\(m=[]\/0<sea m\/dH m 12=true)/\(d=[]\/(m≠[]/\sea m=0/\dH d 31=true))/\allM k0 k1 k2 (bi m d)=0:=by
 have hs:=LK m
 unfold chkD at h
 cases b1:yrD g l dg x q m with
 | false=>rw [b1] at h;exact absurd h (by simp)
 | true=>
  rw [b1] at h
  simp only [dI,af] at h
  cases b2:(!(m==[])&&(!(decide (0<sea m))&&!(dH m 12))) with
  | true=>rw [b2] at h;exact absurd h (by simp)
  | false=>
   rw [b2] at h
   simp only [af] at h
   cases b3:(!(d==[])&&((m==[])||(decide (0<sea m)||!(dH d 31)))) with
   | true=>rw [b3] at h;exact absurd h (by simp)
   | false=>
    rw [b3] at h
    simp only [af] at h
    refine ⟨rfl,?_,?_,h⟩
    ·by_cases h1:m=[]
     ·exact .inl h1
     ·by_cases h2:0<sea m
      ·exact .inr (.inl h2)
      ·simp [h1,h2] at b2
       exact .inr (.inr b2)
    ·by_cases h1:d=[]
     ·exact .inl h1
     ·by_cases h2:m=[]
      ·simp [h1,h2] at b3
      ·by_cases h3:0<sea m
       ·simp [h1,h2,h3] at b3
       ·simp [h1,h2,h3] at b3
        exact .inr ⟨h2,by omega,b3⟩
theorem mF {s:aa} {g:Nat} (hg:g<=31) (h:dH s g=true):s.length=2/\∀c∈s,isDX c=true:=by
 unfold dH at h
 obtain ⟨i,hm,hi⟩:=qG.1 h
 have hi31:i<g:=jg.1 hm
 have dig:∀k:Nat,k<10->isDX (UInt8.ofNat (48+k))=true:=by decide
 have h88:isDX 88=true:=by decide
 match s,hi with
 | [],hi=>simp [agr] at hi
 | [_],hi=>simp [agr] at hi
 | [a,b],hi=>
  refine ⟨rfl,?_⟩
  simp only [agr,az,gB,bD] at hi
  obtain ⟨ha,hb⟩:=hi
  intro c hc
  simp only [cU,qc,qV] at hc
  rcases hc with rfl | rfl
  ·rcases ha with rfl | rfl
   ·exact h88
   ·exact dig _ (by omega)
  ·rcases hb with rfl | rfl
   ·exact h88
   ·exact dig _ (by omega)
 | _::_::_::_,hi=>simp [agr] at hi
theorem B7 {m:aa} (h:0<sea m):m.length=2/\∀c∈m,isDX c=true:=by
 rcases n7 m with h0 | ⟨j,hj,rfl⟩
 ·omega
 ·refine ⟨rfl,?_⟩
  have:((List.range 21).all λj=>(two (21+j)).all isDX)=true:=by decide +kernel
  have:=(cL.1 this) j (by simpa using hj)
  exact cL.1 this
def mt (k:Nat):aa:=if k=1 then [63] else if k=2 then [126] else if k=3 then [37] else []
def mkOf (c:UInt8):Nat:=if c=63 then 1 else if c=126 then 2 else if c=37 then 3 else 0
def Pj (k a b c:Nat):Bool:=(decide (k<2)||b==a)&&(decide (k<3)||c==a)
def plA (k a b c:Nat):Nat×Nat×Nat:=if Pj k a b c then (0,0,0) else (a,b,c)
def plB (k a b c:Nat):Nat×Nat×Nat:=if Pj k a b c then (if k=1 then (a,0,0) else if k=2 then (0,a,0) else (0,0,a)) else (0,0,0)
def l3 (p:Nat×Nat×Nat):List Int:=[(p.1:Int),(p.2.1:Int),(p.2.2:Int)]
def spM (A B:Nat×Nat×Nat):Nat×Nat×Nat:=(A.1 ||| B.1 ||| B.2.1 ||| B.2.2,A.2.1 ||| B.2.1 ||| B.2.2,A.2.2 ||| B.2.2)
theorem Aq (n k:Nat) (h:k<4):qf n (k:Int)=some (mt k,0)/\cj n (k:Int)=some (mt k):=by
 have:k=0\/k=1\/k=2\/k=3:=by omega
 rcases this with rfl | rfl | rfl | rfl<;>exact ⟨rfl,rfl⟩
noncomputable def OX (m j:Nat):Bool:=
 (oJ (m+300) (j:Int)==some (((mkOf (UInt8.ofNat j):Nat):Int),decide (0<mkOf (UInt8.ofNat j))))&&(sN (m+300) (j:Int)==some ((mkOf (UInt8.ofNat j):Nat):Int))
theorem JH (m:Nat):(List.range 256).all (OX m)=true:=by kernel_rfl
theorem MY (m:Nat) (c:UInt8):oJ (m+300) ((c.toNat:Nat):Int)=some (((mkOf c:Nat):Int),decide (0<mkOf c))/\sN (m+300) ((c.toNat:Nat):Int)=some ((mkOf c:Nat):Int):=by
 have h:=(cL.1 (JH m)) c.toNat (jg.2 c.toNat_lt)
 unfold OX at h
 rw [show UInt8.ofNat c.toNat=c by simp] at h
 simp only [az,bD] at h
 exact h
noncomputable def IF (m k a b c:Nat):Bool:=
 (oO (m+300) [(a:Int),(b:Int),(c:Int)] (k:Int)==some (l3 (plA k a b c),l3 (plB k a b c),0))&&(jy (m+300) [(a:Int),(b:Int),(c:Int)] (k:Int)==some (l3 (plA k a b c),l3 (plB k a b c)))
theorem OI (m:Nat):((List.range 4).all λa=>IF m 1 a 0 0)=true:=by kernel_rfl
theorem OK (m:Nat):((List.range 4).all λa=>(List.range 4).all λb=>IF m 2 a b 0)=true:=by kernel_rfl
theorem Pa (m:Nat):((List.range 4).all λa=>(List.range 4).all λb=>(List.range 4).all λc=>IF m 3 a b c)=true:=by kernel_rfl
theorem r4 {p:Nat->Bool} (h:(List.range 4).all p=true) {a:Nat} (ha:a<4):p a=true:=(cL.1 h) a (jg.2 ha)
theorem PG (m k a b c:Nat) (hk:1<=k/\k<=3) (ha:a<4) (hb:b<4) (hc:c<4) (h1:k<2->b=0) (h2:k<3->c=0):
  oO (m+300) [(a:Int),(b:Int),(c:Int)] (k:Int)=some (l3 (plA k a b c),l3 (plB k a b c),0)/\jy (m+300) [(a:Int),(b:Int),(c:Int)] (k:Int)=some (l3 (plA k a b c),l3 (plB k a b c)):=by
 have h:IF m k a b c=true:=by
  have:k=1\/k=2\/k=3:=by omega
  rcases this with rfl | rfl | rfl
  ·rw [h1 (by omega),h2 (by omega)];exact r4 (OI m) ha
  ·rw [h2 (by omega)];exact r4 (r4 (OK m) ha) hb
  ·exact r4 (r4 (r4 (Pa m) ha) hb) hc
 unfold IF at h
 simp only [az,bD] at h
 exact h
theorem MV {k a b c:Nat} (ha:a<4) (hb:b<4) (hc:c<4):(plA k a b c).1<4/\(plA k a b c).2.1<4/\(plA k a b c).2.2<4/\(plB k a b c).1<4/\(plB k a b c).2.1<4/\(plB k a b c).2.2<4:=by
 unfold plA plB
 split
 ·split
  ·simp [ha]
  ·split<;>simp [ha]
 ·simp [ha,hb,hc]
def inM (k:Nat) (A:Nat×Nat×Nat):Prop:=A.1<4/\A.2.1<4/\A.2.2<4/\(k<2->A.2.1=0)/\(k<3->A.2.2=0)
theorem vM {k:Nat} {A:Nat×Nat×Nat} (h:inM k A):allM (A.1:Int) (A.2.1:Int) (A.2.2:Int) k=0:=by
 obtain ⟨h0,h1,h2,h3,h4⟩:=h
 unfold allM
 rw [ab (by omega)]
theorem or4 {a b:Nat} (ha:a<4) (hb:b<4):bits .or .u8 (a:Int) (b:Int)=((a ||| b:Nat):Int)/\a ||| b<4:=by
 have:((List.range 4).all λa=>(List.range 4).all λb=>bits .or .u8 (a:Int) (b:Int)==((a ||| b:Nat):Int)&&decide (a ||| b<4))=true:=by decide +kernel
 have:=r4 (r4 this ha) hb
 simpa using this
theorem vz (n:Nat) (hn:9<n) (k:Nat) (A B:Nat×Nat×Nat) (hk:1<=k/\k<=3) (hA:inM k A) (hB:inM k B):d9 n (l3 A) (l3 B) (k:Int)=some (l3 (spM A B),0):=by
 obtain ⟨n,rfl⟩:∃j,n=j+5:=⟨n - 5,by omega⟩
 have eA:=(EE (n+5) (by omega) (A.1:Int) (A.2.1:Int) (A.2.2:Int) k hk (by omega) (by omega) (by omega)).1
 have eB:=(EE (n+5) (by omega) (B.1:Int) (B.2.1:Int) (B.2.2:Int) k hk (by omega) (by omega) (by omega)).1
 rw [vM hA] at eA
 rw [vM hB] at eB
 have h0:∀x:Nat,x<4->bits .or .u8 0 (x:Int)=(x:Int):=λx hx=>by
  have:=(or4 (show 0<4 by omega) hx).1
  simpa using this
 have oo:∀x y:Nat,x<4->y<4->bits .or .u8 (x:Int) (y:Int)=((x ||| y:Nat):Int):=λx y hx hy=>(or4 hx hy).1
 have ol:∀x y:Nat,x<4->y<4->x ||| y<4:=λx y hx hy=>(or4 hx hy).2
 unfold d9
 show ob (dw (n+5) [(A.1:Int),(A.2.1:Int),(A.2.2:Int)] (k:Int)) _=_
 rw [eA]
 show ob (dw (n+5) [(B.1:Int),(B.2.1:Int),(B.2.2:Int)] (k:Int)) _=_
 rw [eB]
 obtain ⟨a0,a1,a2⟩:=A
 obtain ⟨b0,b1,b2⟩:=B
 obtain ⟨g0,g1,g2,g3,g4⟩:=hA
 obtain ⟨f0,f1,f2,f3,f4⟩:=hB
 simp only at g0 g1 g2 g3 g4 f0 f1 f2 f3 f4
 have hk':k=1\/k=2\/k=3:=by omega
 rcases hk' with rfl | rfl | rfl
 ·obtain rfl:=g3 (by omega)
  obtain rfl:=g4 (by omega)
  obtain rfl:=f3 (by omega)
  obtain rfl:=f4 (by omega)
  show some (([bits .or .u8 (a0:Int) (bits .or .u8 0 (b0:Int)),0,0]:List Int),(0:Int))=_
  rw [h0 b0 f0,oo _ _ g0 f0]
  simp [l3,spM]
 ·obtain rfl:=g4 (by omega)
  obtain rfl:=f4 (by omega)
  show some (([bits .or .u8 (a0:Int) (bits .or .u8 (bits .or .u8 0 (b1:Int)) (b0:Int)),bits .or .u8 (a1:Int) (bits .or .u8 0 (b1:Int)),0]:List Int),(0:Int))=_
  rw [h0 b1 f1,oo _ _ f1 f0,oo _ _ g0 (ol _ _ f1 f0),oo _ _ g1 f1]
  simp [l3,spM,Nat.or_assoc,zJ b1 b0]
 ·show some (([bits .or .u8 (a0:Int) (bits .or .u8 (bits .or .u8 (bits .or .u8 0 (b2:Int)) (b1:Int)) (b0:Int)),bits .or .u8 (a1:Int) (bits .or .u8 (bits .or .u8 0 (b2:Int)) (b1:Int)),bits .or .u8 (a2:Int) (bits .or .u8 0 (b2:Int))]:List Int),(0:Int))=_
  rw [h0 b2 f2,oo _ _ f2 f1,oo _ _ (ol _ _ f2 f1) f0,oo _ _ g0 (ol _ _ (ol _ _ f2 f1) f0),oo _ _ g1 (ol _ _ f2 f1),oo _ _ g2 f2]
  have e1:a0 ||| (b2 ||| b1 ||| b0)=a0 ||| b0 ||| b1 ||| b2:=by rw [zJ (b2 ||| b1) b0,zJ b2 b1];simp only [Nat.or_assoc]
  have e2:a1 ||| (b2 ||| b1)=a1 ||| b1 ||| b2:=by rw [zJ b2 b1];simp only [Nat.or_assoc]
  rw [e1,e2]
  rfl
abbrev cI (x:Nat):Int:=(x:Int)
def bt (b a:Nat):Nat:=if b=1 then a%2 else a / 2%2
def bts (b:Nat):List Nat->Nat
 | []=>0
 | x::l=>bt b x+bts b l
def hit (k b i:Nat) (al bl:List Nat):Bool:=decide (0<bt b (al.getD i 0)+bts b ((bl.take k).drop i))
def addB (k b:Nat) (al bl:List Nat) (o:List Int):List Int:=[cond (decide (0<k)&&hit k b 0 al bl) (IntKind.wrap .u8 (o.getD 0 0+(b:Int))) (o.getD 0 0),cond (decide (1<k)&&hit k b 1 al bl) (IntKind.wrap .u8 (o.getD 1 0+(b:Int))) (o.getD 1 0),cond (decide (2<k)&&hit k b 2 al bl) (IntKind.wrap .u8 (o.getD 2 0+(b:Int))) (o.getD 2 0)]
def He (k a b c:Nat):Bool:=spM (plA k a b c) (plB k a b c)==(a,b,c)
theorem P9:((List.range 4).all λa=>He 1 a 0 0)=true:=by decide +kernel
theorem Pe:((List.range 4).all λa=>(List.range 4).all λb=>He 2 a b 0)=true:=by decide +kernel
theorem Qx:((List.range 4).all λa=>(List.range 4).all λb=>(List.range 4).all λc=>He 3 a b c)=true:=by decide +kernel
theorem Q7 (k a b c:Nat) (hk:1<=k/\k<=3) (ha:a<4) (hb:b<4) (hc:c<4) (h1:k<2->b=0) (h2:k<3->c=0):spM (plA k a b c) (plB k a b c)=(a,b,c):=by
 have h:He k a b c=true:=by
  have:k=1\/k=2\/k=3:=by omega
  rcases this with rfl | rfl | rfl
  ·rw [h1 (by omega),h2 (by omega)];exact r4 P9 ha
  ·rw [h2 (by omega)];exact r4 (r4 Pe ha) hb
  ·exact r4 (r4 (r4 Qx ha) hb) hc
 unfold He at h
 exact bD.1 h
def mkS (l:aa):Nat:=match l with | []=>0 | c::_=>mkOf c
def mkN (l:aa):Nat:=if mkS l=0 then 0 else 1
def twoN (l:aa):Nat:=cA isDX 2 l
theorem MD (c:UInt8):mkOf c<4:=by
 unfold mkOf
 split
 ·omega
 ·split
  ·omega
  ·split<;>omega
theorem L3 (l:aa):mkS l<4:=by
 cases l with
 | nil=>show 0<4;omega
 | cons c r=>exact MD c
theorem Qw (l:aa):mkN l<=l.length:=by
 cases l with
 | nil=>exact aW 0
 | cons c r=>
  unfold mkN
  split<;>simp
theorem Mx (c:UInt8):hasB [63,126,37] c=decide (0<mkOf c):=by
 have:=mP (λc=>hasB [63,126,37] c==decide (0<mkOf c)) (by decide +kernel) c
 simpa using this
theorem Mw (m:Nat) (S:aa) (a:Nat) (h:a<=S.length) (hS:S.length<100000):
  cq (m+300) S (a:Int)=some (.inr (((mkS (S.drop a):Nat):Int),S,((a+mkN (S.drop a):Nat):Int))):=by
 unfold cq
 rw [uE (m+300) S a h]
 cases hd:S.drop a with
 | nil=>
  have h0:oJ (m+300) 0=some (0,false):=by kernel_rfl
  show ob (oJ (m+300) 0) _=_
  rw [h0]
  rfl
 | cons c r=>
  show ob (oJ (m+300) ((c.toNat:Nat):Int)) _=_
  rw [(MY m c).1]
  show cond (decide (0<mkOf c)) _ _=_
  have e1:mkS (c::r)=mkOf c:=rfl
  by_cases hc:0<mkOf c
  ·rw [ar hc]
   show ob (ch (m+300) [63,126,37] S (a:Int)) _=_
   rw [zQ (m+300) _ S a h (by omega),hd]
   have hb:hasB [63,126,37] c=true:=by rw [Mx,ar hc]
   have e2:mkN (c::r)=1:=by unfold mkN;rw [e1,ab (by omega)]
   rw [e1,e2]
   simp only [hb,aO,ob]
  ·rw [au hc]
   have e2:mkN (c::r)=0:=by unfold mkN;rw [e1,ae (by omega)]
   rw [e1,e2]
   rfl
theorem LX (n:Nat) (S:aa) (a:Nat) (h:a<=S.length) (hS:S.length<100000) (hn:S.length<n):
  hO n S (a:Int)=some (if twoN (S.drop a)<2 then .inl (((a+twoN (S.drop a):Nat):Int),5,S,((a+twoN (S.drop a):Nat):Int)) else .inr ((S.drop a).take 2,S,((a+2:Nat):Int))):=by
 unfold hO
 rw [uB n _ 2 2 S a h (by omega) hn]
 have e:cA (hasB [88,48,49,50,51,52,53,54,55,56,57]) (2:Int).toNat (S.drop a)=twoN (S.drop a):=by
  unfold twoN
  have e2:(2:Int).toNat=2:=rfl
  rw [e2]
  exact mK (λc=>by rw [sY];rfl) _ _
 rw [e]
 by_cases h2:twoN (S.drop a)<2
 ·rw [ae h2,ae (by omega)]
  rfl
 ·have h3:twoN (S.drop a)=2:=by
   have:=vZ isDX 2 (S.drop a)
   unfold twoN at h2 ⊢
   omega
  rw [ab h2,ab (by omega),h3]
  rfl
theorem cutD (r:Nat) (h:r<10):List.drop r (List.take (r+1) ([48,49,50,51,52,53,54,55,56,57]:aa))=[UInt8.ofNat (48+r)]:=by
 have:∀r,r<10->List.drop r (List.take (r+1) ([48,49,50,51,52,53,54,55,56,57]:aa))=[UInt8.ofNat (48+r)]:=by decide
 exact this r h
theorem AO {k:Nat} (h:k<10):Lib.decDigits k=[UInt8.ofNat (48+k)]:=by
 rw [Lib.decDigits,dif_pos h]
theorem zC {k:Nat} (h:¬k<10) (h2:k<100):Lib.decDigits k=[UInt8.ofNat (48+k / 10),UInt8.ofNat (48+k%10)]:=by
 rw [Lib.decDigits,dif_neg h,AO (by omega)];rfl
theorem Gh (n k:Nat) (h:k<100):aE n (k:Int)=some (Lib.decDigits k):=by
 have hm:Int.tmod (k:Int) 10=((k%10:Nat):Int):=rfl
 have hq:Int.tdiv (k:Int) 10=((k / 10:Nat):Int):=rfl
 have w1:IntKind.wrap .i64 (((k%10:Nat):Int)+1)=((k%10+1:Nat):Int):=by rw [wrap_i64 _ (by omega) (by omega)];omega
 have w2:IntKind.wrap .i64 ((k / 10:Nat):Int)=((k / 10:Nat):Int):=wrap_i64 _ (by omega) (by omega)
 have w3:IntKind.wrap .i64 (((k / 10:Nat):Int)+1)=((k / 10+1:Nat):Int):=by rw [wrap_i64 _ (by omega) (by omega)];omega
 simp only [aE,hm,hq,w1,w2,w3,dG (show k%10+1<=10 by omega),dG (show k%10<=k%10+1 by omega),ob,cutD (k%10) (by omega)]
 by_cases h1:k<10
 ·have e:decide ((k:Int)>=10)=false:=au (by omega)
  rw [e,af,AO h1,pK h1]
 ·have e:decide ((k:Int)>=10)=true:=ar (by omega)
  rw [e,aj,dG (show k / 10+1<=10 by omega)]
  simp only []
  rw [dG (show k / 10<=k / 10+1 by omega)]
  simp only [cutD (k / 10) (by omega)]
  rw [bM (by simp),zC h1 h]
  rfl
def d6 (letter:UInt8) (v:Nat):aa:=if 0<v then letter::Lib.decDigits v else []
theorem Iy {k:Nat} (h:k<100):1<=(Lib.decDigits k).length/\(Lib.decDigits k).length<=2:=by
 by_cases h1:k<10
 ·rw [AO h1];simp
 ·rw [zC h1 h];simp
theorem vY (letter:UInt8) {k:Nat} (h:k<100):(d6 letter k).length<=3:=by
 unfold d6
 split
 ·have:=Iy h;simp only [aB];omega
 ·simp
theorem kN (g l:Bool) (d:aa) (x s:Nat):iG g l d (x:Int) (s:Int)=(if l then [89] else [])++(if g then [45] else [])++d++d6 69 x++d6 83 s:=by
 unfold iG d6
 simp only [bF]
 have e1:(0<(x:Int))=(0<x):=by simp
 have e2:(0<(s:Int))=(0<s):=by simp
 simp only [e1,e2]
theorem JO (n:Nat) (g l:Bool) (d:aa) (x s:Nat) (hx:x<100) (hs:s<100) (hd:d.length<=1000):kr n g l d (x:Int) (s:Int)=some (iG g l d (x:Int) (s:Int)):=by
 have l1:=Iy hx
 have l2:=Iy hs
 have ex:decide ((x:Int)>0)=decide (0<x):=by simp
 have es:decide ((s:Int)>0)=decide (0<s):=by simp
 have tx:∀a:aa,a.length<=1100->(cond (decide (0<x)) (ob (aE n (x:Int)) λr=>(ob (cat ([69]:aa) r) λp=>(cat a p))) (some a))=some (a++d6 69 x):=by
  intro a ha
  unfold d6
  by_cases h:0<x
  ·rw [ar h,aj,ae h,Gh n x hx]
   simp only [ob]
   rw [bM (by simp;omega)]
   simp only []
   rw [bM (by simp;omega)]
   rfl
  ·rw [au h,ab h];simp
 have ts:∀a:aa,a.length<=1200->(cond (decide (0<s)) (ob (aE n (s:Int)) λr=>(ob (cat ([83]:aa) r) λp=>(ob (cat a p) λq=>(some q)))) (some a))=some (a++d6 83 s):=by
  intro a ha
  unfold d6
  by_cases h:0<s
  ·rw [ar h,aj,ae h,Gh n s hs]
   simp only [ob]
   rw [bM (by simp;omega)]
   simp only []
   rw [bM (by simp;omega)]
   rfl
  ·rw [au h,ab h];simp
 have both:∀a:aa,a.length<=1100->(cond (decide (0<x)) (ob (aE n (x:Int)) λr=>(ob (cat ([69]:aa) r) λp=>(ob (cat a p) λz=>(cond (decide (0<s)) (ob (aE n (s:Int)) λr=>(ob (cat ([83]:aa) r) λp=>(ob (cat z p) λq=>(some q)))) (some z))))) (cond (decide (0<s)) (ob (aE n (s:Int)) λr=>(ob (cat ([83]:aa) r) λp=>(ob (cat a p) λq=>(some q)))) (some a)))=some (a++d6 69 x++d6 83 s):=by
  intro a ha
  have htx:=tx a ha
  by_cases h:0<x
  ·rw [ar h,aj] at htx ⊢
   rw [Gh n x hx] at htx ⊢
   simp only [ob] at htx ⊢
   rw [bM (a:=[69]) (by simp;omega)] at htx ⊢
   simp only [] at htx ⊢
   rw [htx]
   simp only []
   have:=ts (a++d6 69 x) (by have:=vY 69 hx;simp only [aN];omega)
   simp only [ob] at this
   exact this
  ·rw [au h,af]
   have hz:d6 69 x=[]:=by unfold d6;rw [ab h]
   rw [hz,nW]
   exact ts a (by omega)
 rw [kN]
 unfold kr
 rw [ex,es]
 cases l<;>cases g
 ·rw [af,af,bM (by simp;omega)]
  exact both d (by omega)
 ·rw [af,aj,bM (by simp;omega)]
  exact both ([45]++d) (by simp;omega)
 ·rw [aj,af,bM (by simp;omega)]
  exact both ([89]++d) (by simp;omega)
 ·rw [aj,aj,bM (by simp;omega)]
  exact both ([89,45]++d) (by simp;omega)
def cS (p:UInt8->Bool) (l:aa):Prop:=∀c,l.head?=some c->p c=false
theorem lu {k:Nat} (h:k<10):(UInt8.ofNat (48+k)).toNat=48+k:=by
 rw [CB]
 exact pK (by omega)
theorem AK (letter:UInt8) (v:Nat) (post:aa) (hv:v<100) (h1:cS bp post) (h2:cS (λc=>c==letter) post):numS letter (d6 letter v++post)=.inr (v,(d6 letter v).length):=by
 unfold d6
 by_cases h0:0<v
 ·rw [ae h0]
  by_cases h9:v<10
  ·rw [AO h9]
   have hd:=lu h9
   simp only [fj,dR]
   rw [nO,ae rfl,pL,ae (by omega)]
   have e48:48+v - 48=v:=by omega
   cases post with
   | nil=>
    rw [uF,hd,e48]
    rfl
   | cons e r=>
    have he:¬bp e=true:=by rw [h1 e rfl];simp
    rw [n8,ab he,hd,e48]
    rfl
  ·rw [zC h9 hv]
   have hd:=lu (show v / 10<10 by omega)
   have he:=lu (show v%10<10 by omega)
   simp only [fj,dR]
   rw [nO,ae rfl,pL,ae (by omega),n8,ae ((dl _).2 (by omega)),hd,he]
   rw [show 10*(48+v / 10 - 48)+(48+v%10 - 48)=v by omega]
   rfl
 ·rw [ab h0]
  have hv0:v=0:=by omega
  subst hv0
  cases post with
  | nil=>rfl
  | cons c r=>
   have hc:c≠letter:=by
    have:=h2 c rfl
    simpa using this
   rw [dR,nO,ab hc]
   rfl
theorem wE (letter:UInt8) (l:aa) (v k:Nat) (h:numS letter l=.inr (v,k)):v<100/\l.take k=d6 letter v/\k<=l.length:=by
 cases l with
 | nil=>
  simp only [zG,rC,bQ] at h
  obtain ⟨rfl,rfl⟩:=h
  exact ⟨by omega,rfl,by simp⟩
 | cons c r=>
  rw [nO] at h
  by_cases hc:c=letter
  ·rw [ae hc] at h
   cases r with
   | nil=>simp [yX] at h
   | cons d r2=>
    rw [pL] at h
    by_cases hd:49<=d.toNat/\d.toNat<=57
    ·rw [ae hd] at h
     have e9:d.toNat - 48<10:=by omega
     have hdd:UInt8.ofNat (48+(d.toNat - 48))=d:=by
      apply ip.1
      rw [lu e9];omega
     have one:(c::d::r2).take 2=d6 letter (d.toNat - 48):=by
      unfold d6
      rw [ae (by omega),AO e9,hdd,hc];rfl
     cases r2 with
     | nil=>
      simp only [uF,rC,bQ] at h
      obtain ⟨rfl,rfl⟩:=h
      exact ⟨by omega,one,by simp⟩
     | cons e r3=>
      rw [n8] at h
      by_cases he:bp e=true
      ·rw [ae he] at h
       simp only [rC,bQ] at h
       obtain ⟨rfl,rfl⟩:=h
       have hei:=(dl e).1 he
       refine ⟨by omega,?_,by simp⟩
       unfold d6
       have h1:(10*(d.toNat - 48)+(e.toNat - 48)) / 10=d.toNat - 48:=by omega
       have h2:(10*(d.toNat - 48)+(e.toNat - 48))%10=e.toNat - 48:=by omega
       have hee:UInt8.ofNat (48+(e.toNat - 48))=e:=by
        apply ip.1
        rw [lu (by omega)];omega
       rw [ae (by omega),zC (by omega) (by omega),h1,h2,hdd,hee,hc];rfl
      ·rw [ab he] at h
       simp only [rC,bQ] at h
       obtain ⟨rfl,rfl⟩:=h
       exact ⟨by omega,one,by simp⟩
    ·rw [ab hd] at h;cases h
  ·rw [ab hc] at h
   simp only [rC,bQ] at h
   obtain ⟨rfl,rfl⟩:=h
   exact ⟨by omega,rfl,by simp⟩
theorem uQ {p:UInt8->Bool}:∀(r:aa) (k:Nat) (post:aa),(∀c∈r,p c=true)->r.length<=k->(cS p post\/r.length=k)->cA p k (r++post)=r.length
 | [],0,post,_,_,_=>by simp [cA]
 | [],k+1,post,_,_,h=>by
  cases post with
  | nil=>simp [cA]
  | cons c q=>
   rcases h with h | h
   ·have:=h c rfl
    simp [cA,this]
   ·simp at h
 | c::r,0,post,_,h,_=>by simp at h
 | c::r,k+1,post,hp,hk,h=>by
  have ih:=uQ r k post (λd hd=>hp d (by simp [hd])) (by simpa using hk) (by
   rcases h with h | h
   ·exact .inl h
   ·exact .inr (by simpa using h))
  simp only [fj,cA,hp c (by simp),aO,ih,aB]
theorem qj {letter:UInt8} {v:Nat} {post:aa} {p:UInt8->Bool} (h1:p letter=false) (h2:cS p post):cS p (d6 letter v++post):=by
 unfold d6
 intro c hc
 by_cases h:0<v
 ·rw [ae h] at hc
  simp only [fj,yx,aq] at hc
  rw [<-hc];exact h1
 ·rw [ab h] at hc
  exact h2 c hc
def isYC (c:UInt8):Bool:=isDX c||c==69||c==83
theorem Lp {l:aa} (h:cS isYC l):cS bp l:=λc hc=>by
 have:=h c hc
 unfold isYC isDX at this
 simp only [qO] at this
 exact this.1.1.1
theorem RS {l:aa} (h:cS isYC l):cS isDX l:=λc hc=>by
 have:=h c hc
 unfold isYC at this
 simp only [qO] at this
 exact this.1.1
theorem Rm {l:aa} (h:cS isYC l):cS (λc=>c==69) l:=λc hc=>by
 have:=h c hc
 unfold isYC at this
 simp only [qO] at this
 exact this.1.2
theorem QG {l:aa} (h:cS isYC l):cS (λc=>c==83) l:=λc hc=>by
 have:=h c hc
 unfold isYC at this
 simp only [qO] at this
 exact this.2
theorem m9 (c:UInt8) (l:aa):gA c (c::l)=1:=by rw [xy,ae rfl]
theorem oh {c a:UInt8} (h:a≠c) (l:aa):gA c (a::l)=0:=by rw [xy,ab h]
theorem Ip {g l:Bool} {d:aa} {x s:Nat} (h:okY g l d (x:Int) (s:Int)) (post:aa) (hp:cS isYC post):tB (iG g l d (x:Int) (s:Int)++post)=.inr (g,l,d,x,s,(iG g l d (x:Int) (s:Int)).length):=by
 have hsm:=ir h
 have n83:numS 83 (d6 83 s++post)=.inr (s,(d6 83 s).length):=AK 83 s post (by omega) (Lp hp) (QG hp)
 have hR2:cS bp (d6 83 s++post):=qj (by decide) (Lp hp)
 have hR3:cS isDX (d6 83 s++post):=qj (by decide) (RS hp)
 rw [kN]
 cases l with
 | true=>
  have hL:okL d (x:Int) (s:Int):=by simpa [okY] using h
  obtain ⟨⟨h1,h2,h3,h4,h5,h6,h7,h8⟩,h9,h10⟩:=hL
  obtain ⟨c,r,rfl⟩:∃c r,d=c::r:=by
   cases d with
   | nil=>simp at h2
   | cons c r=>exact ⟨c,r,rfl⟩
  have hcd:=(dl c).1 (h1 c (by simp))
  have hc49:49<=c.toNat/\c.toNat<=57:=by
   have:c.toNat≠48:=λe=>h4 (by rw [show c=48 from ip.1 e];rfl)
   omega
  have hc45:c≠45:=by rintro rfl;exact absurd hcd.1 (by decide)
  have n69:numS 69 (d6 69 x++(d6 83 s++post))=.inr (x,(d6 69 x).length):=AK 69 x _ (by omega) hR2 (qj (by decide) (Rm hp))
  have hsp:cA bp 16 (r++(d6 69 x++(d6 83 s++post)))=r.length:=by
   refine uQ r 16 _ (λe he=>h1 e (by simp [he])) (by simp only [aB] at h3;omega) (.inl ?_)
   exact qj (by decide) hR2
  have body:∀o:Nat,zh g o ((c::r)++(d6 69 x++(d6 83 s++post)))=.inr (g,true,c::r,x,s,o+(1+r.length)+(d6 69 x).length+(d6 83 s).length):=by
   intro o
   simp only [fj,zh]
   rw [ae hc49,hsp]
   have e1:List.drop (1+r.length) (c::(r++(d6 69 x++(d6 83 s++post))))=d6 69 x++(d6 83 s++post):=by
    rw [nB,ou,A7 rfl]
   have e2:List.drop (1+r.length+(d6 69 x).length) (c::(r++(d6 69 x++(d6 83 s++post))))=d6 83 s++post:=by
    rw [show 1+r.length+(d6 69 x).length=(r.length+(d6 69 x).length)+1 by omega,ou,<-iB,A7 (by simp)]
   have e3:List.take (1+r.length) (c::(r++(d6 69 x++(d6 83 s++post))))=c::r:=by
    rw [nB,oH,List.take_left' rfl]
   rw [e1,n69]
   simp only []
   rw [e2,n83,e3]
  unfold tB
  cases g with
  | true=>
   simp only [aO,fj,dR,iB]
   rw [m9,ae rfl,ou,fY,m9]
   have:=body 2
   simp only [fj] at this
   simp only [ou,fY,show ((1:Nat)==1)=true from rfl,show 1+1=2 from rfl]
   rw [this]
   simp only [aB,aN]
   congr 6
   omega
  | false=>
   simp only [aO,bV,aD,fj,dR,iB]
   rw [m9,ae rfl,ou,fY,oh hc45]
   have:=body 1
   simp only [fj] at this
   simp only [ou,fY,show ((0:Nat)==1)=false from rfl,cG]
   rw [this]
   simp only [aB,aN]
   congr 6
   omega
 | false=>
  have hS:okS g d (x:Int) (s:Int):=by simpa [okY] using h
  obtain ⟨h1,h2,h3,h4,h5,h6,h7⟩:=hS
  have hx0:x=0:=by omega
  subst hx0
  have ht0:d6 69 0=[]:=rfl
  have hdx:∀c∈d,isDX c=true:=λc hc=>by
   unfold isDX
   rcases h2 c hc with q | q
   ·rw [q];rfl
   ·rw [q];simp
  have hsp:cA isDX 4 (d++(d6 83 s++post))=d.length:=uQ d 4 _ hdx (by omega) (.inr h1)
  have body:∀o:Nat,xx g o (d++(d6 83 s++post))=.inr (g,false,d,0,s,o+4+(d6 83 s).length):=by
   intro o
   unfold xx
   rw [hsp,h1,ab (by omega),A7 h1,n83,List.take_left' h1]
  obtain ⟨c,r,rfl⟩:∃c r,d=c::r:=by
   cases d with
   | nil=>simp at h1
   | cons c r=>exact ⟨c,r,rfl⟩
  have hc45:c≠45:=by
   rintro rfl
   rcases h2 45 (by simp) with q | q
   ·exact absurd ((dl _).1 q).1 (by decide)
   ·exact absurd q (by decide)
  have hc89:c≠89:=by
   rintro rfl
   rcases h2 89 (by simp) with q | q
   ·exact absurd ((dl _).1 q).2 (by decide)
   ·exact absurd q (by decide)
  have h4589:(45:UInt8)≠89:=by decide
  unfold tB
  rw [ht0]
  cases g with
  | true=>
   simp only [aO,bV,aD,fj,dR,iB]
   rw [oh h4589,ab (by decide),m9,ou,fY]
   have:=body 1
   simp only [fj] at this
   rw [show ((1:Nat)==1)=true from rfl,this]
   simp only [aB,aN] at h1 ⊢
   congr 6
   omega
  | false=>
   simp only [bV,aD,fj,dR,iB]
   rw [oh hc89,ab (by decide),oh hc45,fY]
   have:=body 0
   simp only [fj] at this
   rw [show ((0:Nat)==1)=false from rfl,this]
   simp only [aB,aN] at h1 ⊢
   congr 6
   omega
theorem tC (c:UInt8) (l:aa):l.take (gA c l)=if gA c l=1 then [c] else []:=by
 rcases kS c l with h | h
 ·rw [h];simp
 ·rw [h,ae rfl]
  unfold gA at h
  split at h
  ·assumption
  ·cases h
theorem nU (l:aa) (i j:Nat):l.take (i+j)=l.take i++(l.drop i).take j:=by
 rw [List.take_add]
theorem Ap {l:aa} {g lng:Bool} {d:aa} {x s k:Nat} (h:tB l=.inr (g,lng,d,x,s,k)):l.take k=iG g lng d (x:Int) (s:Int)/\k<=l.length/\x<100/\s<100/\d.length<=17:=by
 rw [kN]
 unfold tB at h
 by_cases h89:gA 89 l=1
 ·rw [ae h89] at h
  have t89:=tC 89 l
  rw [h89,ae rfl] at t89
  have t45:=tC 45 (l.drop 1)
  have c45:=kS 45 (l.drop 1)
  generalize hu:gA 45 (l.drop 1)=u at *
  have hpre:l.take (1+u)=[89]++(if (u==1)=true then [45] else []):=by
   rw [nU,t89,t45]
   rcases c45 with rfl | rfl<;>rfl
  cases hd:l.drop (1+u) with
  | nil=>rw [hd] at h;simp [zh] at h
  | cons c r=>
   rw [hd] at h
   simp only [zh] at h
   by_cases hc:49<=c.toNat/\c.toNat<=57
   ·rw [ae hc] at h
    have htop:=vZ bp 16 r
    have hKl:1+cA bp 16 r<=(c::r).length:=by have:=ny bp 16 r;simp only [aB];omega
    generalize hK:1+cA bp 16 r=K at *
    cases hq:numS 69 (List.drop K (c::r)) with
    | inl j=>rw [hq] at h;simp at h
    | inr p=>
     obtain ⟨x',j⟩:=p
     rw [hq] at h
     simp only at h
     cases hq2:numS 83 (List.drop (K+j) (c::r)) with
     | inl i=>rw [hq2] at h;simp at h
     | inr p2=>
      obtain ⟨s',i⟩:=p2
      rw [hq2] at h
      simp only [rC,bQ] at h
      obtain ⟨rfl,rfl,rfl,rfl,rfl,rfl⟩:=h
      obtain ⟨a1,a2,a3⟩:=wE _ _ _ _ hq
      obtain ⟨b1,b2,b3⟩:=wE _ _ _ _ hq2
      rw [cQ] at a3 b3
      have hll:l.length=1+u+(c::r).length:=by
       have:=dP List.length hd
       rw [cQ] at this
       simp only [aB] at this ⊢
       omega
      refine ⟨?_,by simp only [aB] at *;omega,a1,b1,by rw [cE];omega⟩
      rw [show 1+u+K+j+i=(1+u)+(K+(j+i)) by omega,nU,hpre,hd,nU _ K,nU _ j,a2,mQ,b2]
      simp
   ·rw [ab hc] at h;simp at h
 ·rw [ab h89] at h
  have t45:=tC 45 l
  have c45:=kS 45 l
  generalize hu:gA 45 l=u at *
  have hpre:l.take u=(if (u==1)=true then [45] else []):=by
   rw [t45]
   rcases c45 with rfl | rfl<;>rfl
  unfold xx at h
  by_cases h4:cA isDX 4 (l.drop u)<4
  ·rw [ae h4] at h;simp at h
  ·rw [ab h4] at h
   have hle:=ny isDX 4 (l.drop u)
   rw [cQ] at hle
   cases hq:numS 83 (List.drop 4 (l.drop u)) with
   | inl i=>rw [hq] at h;simp at h
   | inr p2=>
    obtain ⟨s',i⟩:=p2
    rw [hq] at h
    simp only [rC,bQ] at h
    obtain ⟨rfl,rfl,rfl,rfl,rfl,rfl⟩:=h
    obtain ⟨b1,b2,b3⟩:=wE _ _ _ _ hq
    rw [cQ,cQ] at b3
    refine ⟨?_,by omega,by omega,b1,by rw [cE];omega⟩
    rw [show u+4+i=u+(4+i) by omega,nU,hpre,nU _ 4,b2]
    have ht0:d6 69 0=[]:=rfl
    rw [ht0]
    simp
abbrev DR:=Bool×Bool×aa×Nat×Nat×aa×aa×(Nat×Nat×Nat)×(Nat×Nat×Nat)×Nat
def mkE (S:aa) (p:Nat):Nat:=p+mkN (S.drop p)
def rd3 (S:aa) (y:YR) (A0 B0 A1 B1 p0 c1 q2:Nat) (mm:aa):Nat⊕DR:=
 if twoN (S.drop (mkE S (q2+1)))<2 then .inl (mkE S (q2+1)+twoN (S.drop (mkE S (q2+1))))
 else .inr (y.1,y.2.1,y.2.2.1,y.2.2.2.1,y.2.2.2.2.1,mm,(S.drop (mkE S (q2+1))).take 2,spM (A0,A1,mkS (S.drop (q2+1))) (B0,B1,mkS (S.drop (mkE S (q2+1)+2))),(p0,c1,mkE S (q2+1)),mkE S (mkE S (q2+1)+2))
def rd2 (S:aa) (y:YR) (A0 B0 p0 q1:Nat):Nat⊕DR:=
 if twoN (S.drop (mkE S (q1+1)))<2 then .inl (mkE S (q1+1)+twoN (S.drop (mkE S (q1+1))))
 else if gA 45 (S.drop (mkE S (mkE S (q1+1)+2)))=0 then .inr (y.1,y.2.1,y.2.2.1,y.2.2.2.1,y.2.2.2.2.1,(S.drop (mkE S (q1+1))).take 2,[],spM (A0,mkS (S.drop (q1+1)),0) (B0,mkS (S.drop (mkE S (q1+1)+2)),0),(p0,mkE S (q1+1),0),mkE S (mkE S (q1+1)+2))
 else rd3 S y A0 B0 (mkS (S.drop (q1+1))) (mkS (S.drop (mkE S (q1+1)+2))) p0 (mkE S (q1+1)) (mkE S (mkE S (q1+1)+2)) ((S.drop (mkE S (q1+1))).take 2)
def tS (S:aa) (a:Nat):Nat⊕DR:=match tB (S.drop (mkE S a)) with
 | .inl k=>.inl (mkE S a+k)
 | .inr y=>if 0<y.2.2.2.2.1\/gA 45 (S.drop (mkE S (mkE S a+y.2.2.2.2.2)))=0
  then .inr (y.1,y.2.1,y.2.2.1,y.2.2.2.1,y.2.2.2.2.1,[],[],spM (mkS (S.drop a),0,0) (mkS (S.drop (mkE S a+y.2.2.2.2.2)),0,0),(mkE S a,0,0),mkE S (mkE S a+y.2.2.2.2.2))
  else rd2 S y (mkS (S.drop a)) (mkS (S.drop (mkE S a+y.2.2.2.2.2))) (mkE S a) (mkE S (mkE S a+y.2.2.2.2.2))
def OR (S:aa):Nat⊕DR->(Int×Int×aa×Int)⊕(Bool×Bool×aa×Int×Int×aa×aa×Int×Int×Int×List Int×aa×Int)
 | .inl k=>.inl ((k:Int),5,S,(k:Int))
 | .inr (g,l,dg,x,s,m,d,M,P,e)=>.inr (g,l,dg,(x:Int),(s:Int),m,d,(M.1:Int),(M.2.1:Int),(M.2.2:Int),l3 P,S,(e:Int))
theorem pI {S:aa} {p:Nat} (h:p<=S.length):mkE S p<=S.length:=by
 have:=Qw (S.drop p)
 rw [cQ] at this
 unfold mkE
 omega
theorem DB {S:aa} {p:Nat} (h2:¬twoN (S.drop p)<2):p+2<=S.length:=by
 have:=ny isDX 2 (S.drop p)
 unfold twoN at h2
 rw [cQ] at this
 omega
theorem uo {S:aa} {p:Nat} (h:¬gA 45 (S.drop p)=0):p+1<=S.length:=by
 have:=y9 45 (S.drop p)
 rw [cQ] at this
 omega
theorem Jw (n:Nat) (g l:Bool) (d:aa) (x s:Int) (mm dd:aa) (k0 k1 k2:Int) (S:aa) (p:Nat) (h:p<=S.length) (hS:S.length<100000) (hn:S.length<n):
  jt n g l d x s mm dd k0 k1 k2 S (p:Int)=some (match tB (S.drop p) with
   | .inl k=>.inl (((p+k:Nat):Int),5,g,l,d,x,s,mm,dd,k0,k1,k2,S,((p+k:Nat):Int))
   | .inr y=>.inr (y.1,y.2.1,y.2.2.1,(y.2.2.2.1:Int),(y.2.2.2.2.1:Int),mm,dd,k0,k1,k2,S,((p+y.2.2.2.2.2:Nat):Int))):=by
 unfold jt
 rw [M7 n S p h hS hn]
 cases tB (S.drop p) with
 | inl k=>rfl
 | inr y=>rfl
theorem Ki (n:Nat) (g l:Bool) (d:aa) (x s:Int) (mm dd:aa) (k0 k1 k2:Int) (S:aa) (p:Nat) (h:p<=S.length) (hS:S.length<100000) (hn:S.length<n):
  jw n g l d x s mm dd k0 k1 k2 S (p:Int)=some (if twoN (S.drop p)<2
   then .inl (((p+twoN (S.drop p):Nat):Int),5,g,l,d,x,s,mm,dd,k0,k1,k2,S,((p+twoN (S.drop p):Nat):Int))
   else .inr (g,l,d,x,s,(S.drop p).take 2,dd,k0,k1,k2,S,((p+2:Nat):Int))):=by
 unfold jw
 rw [LX n S p h hS hn]
 by_cases h2:twoN (S.drop p)<2
 ·rw [ae h2,ae h2];rfl
 ·rw [ab h2,ab h2];rfl
theorem K7 (n:Nat) (g l:Bool) (d:aa) (x s:Int) (mm dd:aa) (k0 k1 k2:Int) (S:aa) (p:Nat) (h:p<=S.length) (hS:S.length<100000) (hn:S.length<n):
  jA n g l d x s mm dd k0 k1 k2 S (p:Int)=some (if twoN (S.drop p)<2
   then .inl (((p+twoN (S.drop p):Nat):Int),5,g,l,d,x,s,mm,dd,k0,k1,k2,S,((p+twoN (S.drop p):Nat):Int))
   else .inr (g,l,d,x,s,mm,(S.drop p).take 2,k0,k1,k2,S,((p+2:Nat):Int))):=by
 unfold jA
 rw [LX n S p h hS hn]
 by_cases h2:twoN (S.drop p)<2
 ·rw [ae h2,ae h2];rfl
 ·rw [ab h2,ab h2];rfl
theorem Mh (m:Nat) (S:aa) (a:Nat) (h:a<=S.length) (hS:S.length<100000) (hn:S.length<m+300):
  jm (m+300) S (a:Int)=some (OR S (tS S a)):=by
 have hm:∀p,p<=S.length->cq (m+300) S (p:Int)=some (.inr (((mkS (S.drop p):Nat):Int),S,((mkE S p:Nat):Int))):=λp hp=>Mw m S p hp hS
 have z4:∀p,mkS (S.drop p)<4:=λp=>L3 _
 have sp1:∀p q,d9 (m+300) [((mkS (S.drop p):Nat):Int),0,0] [((mkS (S.drop q):Nat):Int),0,0] 1=some (l3 (spM (mkS (S.drop p),0,0) (mkS (S.drop q),0,0)),0):=λp q=>
  vz (m+300) (by omega) 1 (mkS (S.drop p),0,0) (mkS (S.drop q),0,0) (by omega) ⟨z4 p,by simp,by simp,by simp,by simp⟩ ⟨z4 q,by simp,by simp,by simp,by simp⟩
 have sp2:∀p q p' q',d9 (m+300) [((mkS (S.drop p):Nat):Int),((mkS (S.drop p'):Nat):Int),0] [((mkS (S.drop q):Nat):Int),((mkS (S.drop q'):Nat):Int),0] 2=some (l3 (spM (mkS (S.drop p),mkS (S.drop p'),0) (mkS (S.drop q),mkS (S.drop q'),0)),0):=λp q p' q'=>
  vz (m+300) (by omega) 2 (mkS (S.drop p),mkS (S.drop p'),0) (mkS (S.drop q),mkS (S.drop q'),0) (by omega) ⟨z4 p,z4 p',by simp,by simp,by simp⟩ ⟨z4 q,z4 q',by simp,by simp,by simp⟩
 have sp3:∀p q p' q' p'' q'',d9 (m+300) [((mkS (S.drop p):Nat):Int),((mkS (S.drop p'):Nat):Int),((mkS (S.drop p''):Nat):Int)] [((mkS (S.drop q):Nat):Int),((mkS (S.drop q'):Nat):Int),((mkS (S.drop q''):Nat):Int)] 3=some (l3 (spM (mkS (S.drop p),mkS (S.drop p'),mkS (S.drop p'')) (mkS (S.drop q),mkS (S.drop q'),mkS (S.drop q''))),0):=λp q p' q' p'' q''=>
  vz (m+300) (by omega) 3 (mkS (S.drop p),mkS (S.drop p'),mkS (S.drop p'')) (mkS (S.drop q),mkS (S.drop q'),mkS (S.drop q'')) (by omega) ⟨z4 p,z4 p',z4 p'',by simp,by simp⟩ ⟨z4 q,z4 q',z4 q'',by simp,by simp⟩
 have b0:=pI h
 unfold jm tS
 rw [hm a h]
 simp only [ob,BO]
 rw [Jw _ _ _ _ _ _ _ _ _ _ _ S (mkE S a) b0 hS hn]
 cases hr:tB (S.drop (mkE S a)) with
 | inl k=>rfl
 | inr y=>
  obtain ⟨g,l,dg,x,s,k⟩:=y
  have bk:mkE S a+k<=S.length:=by
   have:=(Ap hr).2.1
   rw [cQ] at this
   omega
  have b1:=pI bk
  simp only [ob,d4,d8]
  rw [hm (mkE S a+k) bk]
  simp only [ob]
  by_cases hs:0<s
  ·have:decide (((s:Nat):Int)>0)=true:=by simp;omega
   rw [this,ae (.inl hs)]
   simp only [aj]
   rw [sp1]
   rfl
  ·have:decide (((s:Nat):Int)>0)=false:=by simp;omega
   rw [this]
   simp only [af]
   rw [sw (m+300) 45 S _ b1 hS]
   simp only [ob]
   by_cases ht:gA 45 (S.drop (mkE S (mkE S a+k)))=0
   ·rw [ae (.inr ht),ht]
    simp only [show ((0:Nat)==1)=false from rfl,ja,aj,cG]
    rw [sp1]
    rfl
   ·have ht1:gA 45 (S.drop (mkE S (mkE S a+k)))=1:=(kS 45 _).resolve_left ht
    have bt1:=uo ht
    rw [ab (λz=>z.elim hs ht),ht1]
    simp only [show ((1:Nat)==1)=true from rfl,dI,af]
    unfold rd2
    rw [hm _ bt1]
    simp only [ob]
    have bc:=pI bt1
    rw [Ki _ _ _ _ _ _ _ _ _ _ _ S _ bc hS hn]
    by_cases h2:twoN (S.drop (mkE S (mkE S (mkE S a+k)+1)))<2
    ·rw [ae h2,ae h2];rfl
    ·rw [ab h2,ab h2]
     have b2:=DB h2
     simp only [ob,d4,d8]
     rw [hm _ b2]
     simp only [ob]
     rw [this]
     simp only [af]
     have b3:=pI b2
     rw [sw (m+300) 45 S _ b3 hS]
     simp only [ob]
     by_cases ht2:gA 45 (S.drop (mkE S (mkE S (mkE S (mkE S a+k)+1)+2)))=0
     ·rw [ae ht2,ht2]
      simp only [show ((0:Nat)==1)=false from rfl,ja,aj,cG]
      rw [sp2]
      rfl
     ·have ht21:=(kS 45 (S.drop (mkE S (mkE S (mkE S (mkE S a+k)+1)+2)))).resolve_left ht2
      have bt2:=uo ht2
      rw [ab ht2,ht21]
      simp only [show ((1:Nat)==1)=true from rfl,dI,af]
      unfold rd3
      rw [hm _ bt2]
      simp only [ob]
      have bc2:=pI bt2
      rw [K7 _ _ _ _ _ _ _ _ _ _ _ S _ bc2 hS hn]
      by_cases h3:twoN (S.drop (mkE S (mkE S (mkE S (mkE S (mkE S a+k)+1)+2)+1)))<2
      ·rw [ae h3,ae h3];rfl
      ·rw [ab h3,ab h3]
       have b4:=DB h3
       simp only [ob,d4,d8]
       rw [hm _ b4]
       simp only [ob]
       rw [sp3]
       rfl
theorem NI (n a:Nat) (ha:a<65536):∃d,kl n (a:Int)=some d/\d.length=4/\∀c∈d,bp c=true:=by
 have hN:Int.tmod (a:Int) 10000=((a%10000:Nat):Int):=rfl
 have h10:a%10000<10000:=pO _ (by decide)
 generalize a%10000=N at *
 have e1:Int.tdiv (N:Int) 1000=((N / 1000:Nat):Int):=rfl
 have e2:Int.tdiv (N:Int) 100=((N / 100:Nat):Int):=rfl
 have e3:Int.tdiv (N:Int) 10=((N / 10:Nat):Int):=rfl
 have w1:IntKind.wrap .u16 ((N / 1000:Nat):Int)=((N / 1000:Nat):Int):=ul _ (by omega) (by omega)
 have w2:IntKind.wrap .u16 ((N / 100:Nat):Int)=((N / 100:Nat):Int):=ul _ (by omega) (by omega)
 have w3:IntKind.wrap .u16 ((N / 10:Nat):Int)=((N / 10:Nat):Int):=ul _ (by omega) (by omega)
 have m2:Int.tmod ((N / 100:Nat):Int) 10=((N / 100%10:Nat):Int):=rfl
 have m3:Int.tmod ((N / 10:Nat):Int) 10=((N / 10%10:Nat):Int):=rfl
 have m4:Int.tmod (N:Int) 10=((N%10:Nat):Int):=rfl
 have s:∀r:Nat,r<10->IntKind.wrap .u16 ((r:Int)+1)=((r+1:Nat):Int):=λr hr=>by rw [ul _ (by omega) (by omega)];omega
 refine ⟨[UInt8.ofNat (48+N / 1000),UInt8.ofNat (48+N / 100%10),UInt8.ofNat (48+N / 10%10),UInt8.ofNat (48+N%10)],?_,rfl,?_⟩
 ·simp only [kl,hN,e1,e2,e3,w1,w2,w3,m2,m3,m4,s (N / 1000) (by omega),s (N / 100%10) (by omega),s (N / 10%10) (by omega),s (N%10) (by omega),dG (show N / 1000+1<=10 by omega),dG (show N / 1000<=N / 1000+1 by omega),dG (show N / 100%10+1<=10 by omega),dG (show N / 100%10<=N / 100%10+1 by omega),dG (show N / 10%10+1<=10 by omega),dG (show N / 10%10<=N / 10%10+1 by omega),dG (show N%10+1<=10 by omega),dG (show N%10<=N%10+1 by omega),ob,cutD (N / 1000) (by omega),cutD (N / 100%10) (by omega),cutD (N / 10%10) (by omega),cutD (N%10) (by omega)]
  rw [bM (by simp)]
  simp only []
  rw [bM (by simp)]
  simp only []
  rw [bM (by simp)]
  rfl
 ·have d1:∀r:Nat,r<10->bp (UInt8.ofNat (48+r))=true:=λr hr=>(dl _).2 (by rw [lu hr];omega)
  simp only [cU,qc,qV,zA,forall_eq]
  exact ⟨d1 _ (by omega),d1 _ (by omega),d1 _ (by omega),d1 _ (by omega)⟩
theorem uT (n:Nat) (g l:Bool) (d:aa) (x s:Int) (hn:200<n) (hd:d.length<=100) (h:okY false l d x s):∃g',(ob (co n g l d x s) λr=>(cond (r==0) (some (false,l,d,x,s)) (some (g,l,d,x,s))))=some (g',l,d,x,s)/\okY g' l d x s:=by
 rw [Bm n g l d x s hn hd]
 by_cases hg:okY g l d x s
 ·rw [ae hg];exact ⟨g,rfl,hg⟩
 ·rw [ab hg];exact ⟨false,rfl,h⟩
theorem wj {d:aa} {s:Int} (h1:d.length=4) (h2:∀c∈d,bp c=true\/c=88) (h3:0<=s) (h4:s<=4) (h5:¬(0<s/\hasX d=true)):okY false false d 0 s:=by
 have:okS false d 0 s:=⟨h1,h2,rfl,by simp,h3,h4,h5⟩
 simpa [okY] using this
theorem NN (n:Nat) (a b:Int) (g:Bool) (d:aa) (hl:d.length=4) (hd:∀c∈d,bp c=true) (hn:4<n):
  ∃s:aa,aw (fB n) n (a,b,[],0,false,false,[],0,0,g,false,d,0,0)=some (s,false,false,[],0,0,g,false,d,0,0)/\s.length=4/\∀c∈s,bp c=true\/c=88:=by
 obtain ⟨y,h1,s,h2,h3,h4⟩:=og (step:=fB n) (λx=>∃(i:Nat) (s:aa),i<=4/\s.length=i/\(∀c∈s,bp c=true\/c=88)/\x=(a,b,s,(i:Int),false,false,[],0,0,g,false,d,0,0)) (λx=>4 - x.2.2.2.1.toNat) (λy=>∃s:aa,y=(s,false,false,[],0,0,g,false,d,0,0)/\s.length=4/\∀c∈s,bp c=true\/c=88) (by
  rintro x ⟨i,s,hi,hs,hc,rfl⟩
  rcases aG i 4 with hlt | hge
  ·obtain ⟨c,hgc⟩:∃c,d[i]?=some c:=⟨d[i],bm (by omega)⟩
   have d1:decide ((i:Int)<4)=true:=ar (by omega)
   have w1:IntKind.wrap .i64 ((i:Int)+1)=((i+1:Nat):Int):=by rw [wrap_i64 _ (by omega) (by omega)];omega
   have next:∀e:UInt8,(bp e=true\/e=88)->∃x',some (Sum.inl (a,b,s++[e],((i+1:Nat):Int),false,false,([]:aa),(0:Int),(0:Int),g,false,d,(0:Int),(0:Int)))=some (Sum.inl (β:=aa×Bool×Bool×aa×Int×Int×Bool×Bool×aa×Int×Int) x')/\(∃(i:Nat) (s:aa),i<=4/\s.length=i/\(∀c∈s,bp c=true\/c=88)/\x'=(a,b,s,(i:Int),false,false,[],0,0,g,false,d,0,0))/\4 - x'.2.2.2.1.toNat<4 - i:=by
    intro e he
    refine ⟨_,rfl,⟨i+1,s++[e],hlt,by simp [hs],?_,rfl⟩,by simp only [bF];omega⟩
    intro c' hc'
    rcases la.1 hc' with q | q
    ·exact hc c' q
    ·simp only [cU,qc,qV] at q
     rw [q];exact he
   simp only [fB,d1,aj,w1,bF,dG (show i+1<=d.length by omega),dG (show i<=i+1 by omega),ob,cut1 hgc]
   rw [bM (a:=s) (b:=[88]) (by simp;omega),bM (a:=s) (b:=[c]) (by simp;omega)]
   simp only []
   left
   cases ((i:Int)==a)
   ·cases ((i:Int)==b)
    ·exact next c (.inl (hd c (fm hgc)))
    ·exact next 88 (.inr rfl)
   ·exact next 88 (.inr rfl)
  ·have:i=4:=by omega
   subst this
   exact .inr ⟨_,rfl,s,rfl,hs,hc⟩) n (a,b,[],0,false,false,[],0,0,g,false,d,0,0) ⟨0,[],by omega,rfl,by simp,rfl⟩ (by simp;omega)
 exact ⟨s,by rw [h1,h2],h3,h4⟩
theorem cut9 (r:Nat) (h:r<9):List.drop r (List.take (r+1) ([49,50,51,52,53,54,55,56,57]:aa))=[UInt8.ofNat (49+r)]:=by
 have:∀r,r<9->List.drop r (List.take (r+1) ([49,50,51,52,53,54,55,56,57]:aa))=[UInt8.ofNat (49+r)]:=by decide
 exact this r h
theorem Dh {d:aa} {x s:Nat} (h1:∀c∈d,bp c=true) (h2:1<=d.length) (h3:d.length<=5) (h4:d.head?≠some 48) (h5:x<=11) (h6:x=0->d.length=5) (h7:s<=d.length+x):okY false true d (x:Int) (s:Int):=by
 have hlt:=qa d 0 0 h1 (by simp)
 have hp:(10:Nat) ^ (d.length+0)<=10 ^ 5:=jS (by decide) (by omega)
 have hq:(10:Nat) ^ x<=10 ^ 11:=jS (by decide) h5
 have hm:=wx (Nat.le_of_lt (nG hlt hp)) hq
 have e:(10:Nat) ^ 5*10 ^ 11=E16:=by decide
 have:okL d (x:Int) (s:Int):=⟨⟨h1,h2,by omega,h4,by omega,by omega,by rintro ⟨q1,q2⟩;have:=h6 (by omega);omega,by simp only [bF];omega⟩,by omega,by omega⟩
 simpa [okY] using this
theorem Hg (m a0 a2 a3 a4:Nat) (g:Bool) (h2:a2<65536) (h3:a3<256) (h4:a4<256):∃g' l d x s,iD (m+300) (a0:Int) g (a2:Int) (a3:Int) (a4:Int)=some (g',l,d,x,s)/\okY g' l d x s/\d.length<=5/\x<=11/\(a0%6≠3->hasX d=false):=by
 obtain ⟨d,hd1,hd2,hd3⟩:=NI (m+300) a2 h2
 have hdX:∀c∈d,bp c=true\/c=88:=λc hc=>.inl (hd3 c hc)
 have hnX:=sK hd3
 unfold iD
 rw [hd1]
 simp only [ob]
 cases hc3:(Int.tmod (a0:Int) 6==3) with
 | true=>
  simp only [aj]
  obtain ⟨s,hs1,hs2,hs3⟩:=NN (m+300) (IntKind.wrap .i64 (Int.tmod (a3:Int) 4)) (IntKind.wrap .i64 (Int.tmod (a4:Int) 4)) g d hd2 hd3 (by omega)
  rw [hs1]
  obtain ⟨g',q1,q2⟩:=uT (m+300) g false s 0 0 (by omega) (by omega) (wj hs2 hs3 (by omega) (by omega) (by omega))
  exact ⟨g',false,s,0,0,q1,q2,by omega,by omega,λh3=>absurd (by
   have e:=bD.1 hc3
   have e2:Int.tmod (a0:Int) 6=((a0%6:Nat):Int):=rfl
   omega) h3⟩
 | false=>
  simp only [af]
  cases (Int.tmod (a0:Int) 6==4) with
  | true=>
   simp only [aj]
   have e:Int.tmod (a3:Int) 4=((a3%4:Nat):Int):=rfl
   have w1:IntKind.wrap .i64 ((a3%4:Nat):Int)=((a3%4:Nat):Int):=wrap_i64 _ (by omega) (by omega)
   have w2:IntKind.wrap .i64 (1+((a3%4:Nat):Int))=((1+a3%4:Nat):Int):=by rw [wrap_i64 _ (by omega) (by omega)];omega
   rw [e,w1,w2]
   obtain ⟨g',q1,q2⟩:=uT (m+300) g false d 0 ((1+a3%4:Nat):Int) (by omega) (by omega) (wj hd2 hdX (by omega) (by omega) (by rw [hnX];simp))
   exact ⟨g',false,d,0,_,q1,q2,by omega,by omega,λ_=>hnX⟩
  | false=>
   simp only [af]
   cases (Int.tmod (a0:Int) 6==5) with
   | false=>
    simp only [af]
    obtain ⟨g',q1,q2⟩:=uT (m+300) g false d 0 0 (by omega) (by omega) (wj hd2 hdX (by omega) (by omega) (by omega))
    exact ⟨g',false,d,0,0,q1,q2,by omega,by omega,λ_=>hnX⟩
   | true=>
    simp only [aj]
    have e9:Int.tmod (a3:Int) 9=((a3%9:Nat):Int):=rfl
    have w9:IntKind.wrap .u8 (((a3%9:Nat):Int)+1)=((a3%9+1:Nat):Int):=by rw [fN _ (by omega) (by omega)];omega
    have e3:Int.tmod (a4:Int) 3=((a4%3:Nat):Int):=rfl
    have e5:Int.tmod (a4:Int) 5=((a4%5:Nat):Int):=rfl
    have w5:IntKind.wrap .u8 (1+((a4%5:Nat):Int))=((1+a4%5:Nat):Int):=by rw [fN _ (by omega) (by omega)];omega
    have e16:Int.tdiv (a4:Int) 16=((a4 / 16:Nat):Int):=rfl
    have w16:IntKind.wrap .u8 ((a4 / 16:Nat):Int)=((a4 / 16:Nat):Int):=fN _ (by omega) (by omega)
    have e11:Int.tmod ((a4 / 16:Nat):Int) 11=((a4 / 16%11:Nat):Int):=rfl
    have w11:IntKind.wrap .i64 ((a4 / 16%11:Nat):Int)=((a4 / 16%11:Nat):Int):=wrap_i64 _ (by omega) (by omega)
    have w12:IntKind.wrap .i64 (1+((a4 / 16%11:Nat):Int))=((1+a4 / 16%11:Nat):Int):=by rw [wrap_i64 _ (by omega) (by omega)];omega
    have f16:Int.tdiv (a3:Int) 16=((a3 / 16:Nat):Int):=rfl
    have v16:IntKind.wrap .u8 ((a3 / 16:Nat):Int)=((a3 / 16:Nat):Int):=fN _ (by omega) (by omega)
    have v17:IntKind.wrap .i64 ((a3 / 16:Nat):Int)=((a3 / 16:Nat):Int):=wrap_i64 _ (by omega) (by omega)
    have h48:UInt8.ofNat (49+a3%9)≠48:=by
     intro q
     have:=dP UInt8.toNat q
     rw [show 49+a3%9=48+(1+a3%9) by omega,lu (by omega)] at this
     exact absurd this (by show ¬48+(1+a3%9)=48;omega)
    have hdig1:bp (UInt8.ofNat (49+a3%9))=true:=(dl _).2 (by rw [show 49+a3%9=48+(1+a3%9) by omega,lu (by omega)];omega)
    rw [e9,w9,dG (show a3%9+1<=9 by omega)]
    simp only []
    rw [dG (show a3%9<=a3%9+1 by omega)]
    simp only []
    rw [cut9 (a3%9) (by omega),bM (by simp;omega)]
    simp only []
    generalize hD:[UInt8.ofNat (49+a3%9)]++d=D
    have hDl:D.length=5:=by rw [<-hD];simp [hd2]
    have hDd:∀c∈D,bp c=true:=by
     rw [<-hD]
     intro c hc
     simp only [fj,dR,cU] at hc
     rcases hc with rfl | hc
     ·exact hdig1
     ·exact hd3 c hc
    have hDh:D.head?≠some 48:=by rw [<-hD];simpa using h48
    rw [e3,e5,w5,e16,w16,e11,w11,w12,f16,v16,v17]
    by_cases h33:0<a4%3
    ·have d1:decide (((a4%3:Nat):Int)>0)=true:=ar (by omega)
     rw [d1,aj,dG (show 1+a4%5<=D.length by omega)]
     simp only [fY]
     generalize hE:List.take (1+a4%5) D=E
     have hEl:E.length=1+a4%5:=by rw [<-hE,cE];omega
     have hEd:∀c∈E,bp c=true:=by rw [<-hE];exact λc hc=>hDd c (List.mem_of_mem_take hc)
     have hEh:E.head?≠some 48:=by
      rw [<-hE]
      cases D with
      | nil=>simp at hDl
      | cons c r=>rw [nB,oH];simpa using hDh
     generalize hX:1+a4 / 16%11=X
     have hX11:X<=11:=by omega
     have hX1:1<=X:=by omega
     have wl:IntKind.wrap .i64 (IntKind.wrap .i64 (((E.length:Nat):Int)+((X:Nat):Int))+1)=((E.length+X+1:Nat):Int):=by
      rw [wrap_i64 (((E.length:Nat):Int)+((X:Nat):Int)) (by omega) (by omega),wrap_i64 _ (by omega) (by omega)];omega
     have ne0:(((E.length+X+1:Nat):Int)==0)=false:=aM.2 (by omega)
     rw [wl,ne0,af]
     have em:Int.tmod ((a3 / 16:Nat):Int) ((E.length+X+1:Nat):Int)=((a3 / 16%(E.length+X+1):Nat):Int):=rfl
     rw [em]
     have hml:a3 / 16%(E.length+X+1)<E.length+X+1:=pO _ (by omega)
     generalize a3 / 16%(E.length+X+1)=s at hml ⊢
     obtain ⟨g',q1,q2⟩:=uT (m+300) g true E ((X:Nat):Int) ((s:Nat):Int) (by omega) (by omega) (Dh hEd (by omega) (by omega) hEh hX11 (by omega) (by omega))
     exact ⟨g',true,E,_,_,q1,q2,by omega,by omega,λ_=>sK hEd⟩
    ·have d1:decide (((a4%3:Nat):Int)>0)=false:=au (by omega)
     rw [d1,af,hDl]
     have wl:IntKind.wrap .i64 (IntKind.wrap .i64 (((5:Nat):Int)+0)+1)=((6:Nat):Int):=by decide
     have ne0:(((6:Nat):Int)==0)=false:=rfl
     rw [wl,ne0,af]
     have em:Int.tmod ((a3 / 16:Nat):Int) ((6:Nat):Int)=((a3 / 16%6:Nat):Int):=rfl
     rw [em]
     have hml:a3 / 16%6<6:=pO _ (by omega)
     generalize a3 / 16%6=s at hml ⊢
     obtain ⟨g',q1,q2⟩:=uT (m+300) g true D ((0:Nat):Int) ((s:Nat):Int) (by omega) (by omega) (Dh hDd (by omega) (by omega) hDh (by omega) (by omega) (by omega))
     exact ⟨g',true,D,_,_,q1,q2,by omega,by omega,λ_=>sK hDd⟩
theorem O0 (m a0 a2 a3 a4:Nat) (g:Bool) (h2:a2<65536) (h3:a3<256) (h4:a4<256):∃g' l d x s,iD (m+300) (a0:Int) g (a2:Int) (a3:Int) (a4:Int)=some (g',l,d,x,s)/\okY g' l d x s/\d.length<=5/\x<=11:=by
 obtain ⟨g',l,d,x,s,e,h,h1,h2,_⟩:=Hg m a0 a2 a3 a4 g h2 h3 h4
 exact ⟨g',l,d,x,s,e,h,h1,h2⟩
theorem wU {g l:Bool} {d:aa} {x s:Nat} (h:okY g l d (x:Int) (s:Int)):(iG g l d (x:Int) (s:Int)).length<=25:=by
 have hs:=ir h
 have h1:=vY 69 (show x<100 by omega)
 have h2:=vY 83 (show s<100 by omega)
 rw [kN]
 simp only [aN]
 have e1:(if l=true then ([89]:aa) else []).length<=1:=by split<;>simp
 have e2:(if g=true then ([45]:aa) else []).length<=1:=by split<;>simp
 omega
end Go.Sh
