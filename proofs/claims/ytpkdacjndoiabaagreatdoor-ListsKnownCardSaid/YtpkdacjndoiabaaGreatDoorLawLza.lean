/- Plain proofs, kept as far as they are needed here (printed by prune.py).
   Conditions: none. -/
import Derived.Laws.RangeString
import Derived.Laws.RangeAny
import Derived.Test.YtpkdacjndoiabaaGreatDoorShL
import Derived.Lib.IndexLaws
import Derived.Test.YtpkdacjndoiabaaGreatDoorAbsZ
set_option linter.unusedVariables false
set_option linter.unusedSimpArgs false
set_option maxRecDepth 100000
namespace Go.Sh
open Go.Abs
theorem fq {X Y:Type} {step:X->Option (X⊕Y)} (I:X->Prop) (μ:X->Nat) (G:X->Y)
  (h:∀x,I x->(∃x',step x=some (.inl x')/\I x'/\μ x'<μ x/\G x'=G x)\/step x=some (.inr (G x))):
  ∀(n:Nat) (x:X),I x->μ x<n->am step n x=some (G x)
 | 0,x,_,hm=>by omega
 | n+1,x,hx,hm=>by
  rcases h x hx with ⟨x',h1,h2,h3,h4⟩ | h1
  ·simp only [am,h1]
   rw [fq I μ G h n x' h2 (by omega),h4]
  ·simp only [am,h1]
theorem ra {X Y:Type} {step:X->Option (X⊕Y)} (I:X->Prop) (μ:X->Nat) (Q:Y->Prop)
  (h:∀x,I x->(∃x',step x=some (.inl x')/\I x'/\μ x'<μ x)\/∃y,step x=some (.inr y)/\Q y):
  ∀(n:Nat) (x:X),I x->μ x<n->∃y,am step n x=some y/\Q y
 | 0,x,_,hm=>by omega
 | n+1,x,hx,hm=>by
  rcases h x hx with ⟨x',h1,h2,h3⟩ | ⟨y,h1,h2⟩
  ·simp only [am,h1]
   exact ra I μ Q h n x' h2 (by omega)
  ·exact ⟨y,by simp only [am,h1],h2⟩
theorem Dj {X Y:Type} {step:X->Option (X⊕Y)} {f:Nat->X} {y:Y}:∀{m n:Nat},(∀i,i<m->step (f i)=some (.inl (f (i+1))))->step (f m)=some (.inr y)->m<n->am step n (f 0)=some y:=by
 intro m n h he hn
 have go:∀(j i:Nat),i+j=m->∀n,j<n->am step n (f i)=some y:=by
  intro j
  induction j with
  | zero=>
   intro i hi n hn
   obtain ⟨n,rfl⟩:∃q,n=q+1:=⟨n - 1,by omega⟩
   have:i=m:=by omega
   subst this
   simp [am,he]
  | succ j ih=>
   intro i hi n hn
   obtain ⟨n,rfl⟩:∃q,n=q+1:=⟨n - 1,by omega⟩
   simp only [am,h i (by omega)]
   exact ih (i+1) (by omega) n (by omega)
 exact go m 0 (by omega) n hn
theorem AS (x:Int):0<=IntKind.wrap .u8 x/\IntKind.wrap .u8 x<256:=by
 show 0<=x%256/\x%256<256
 omega
theorem jR (x:Int) (h0:0<=x) (h1:x<256):IntKind.wrap .u8 x=x:=by
 show x%256=x
 omega
theorem Hj (x:Int):IntKind.wrap .u8 x=x%256:=rfl
theorem wrap_i64 (x:Int) (h0:-9223372036854775808<=x) (h1:x<9223372036854775808):IntKind.wrap .i64 x=x:=by
 simp only [IntKind.wrap,IntKind.signed,IntKind.bits]
 simp
 omega
theorem eF {l:aa} {i:Nat} {c:UInt8} (h:l[i]?=some c):sx l (i:Int)=some c:=by
 simp [sx,h]
theorem dp {n i:Nat} (h:i<n):ix n (i:Int)=some i:=by
 simp [ix];omega
theorem gG {n i:Nat} (h:i<=n):bx n (i:Int)=some i:=by
 simp [bx];omega
theorem Ee {l:aa} {i:Nat} {c:UInt8} (h:l[i]?=some c) (hc:c.toNat<128):dec l i=(c.toNat,1):=by
 have hlt:i<l.length:=by
  rcases aG i l.length with h' | h'
  ·exact h'
  ·rw [gU h'] at h;cases h
 have hs:i<(ByteArray.mk l.toArray).size:=hlt
 have hg:(ByteArray.mk l.toArray)[i]'hs=c:=by
  rw [bp hlt] at h
  simp only [aq] at h
  exact h
 unfold dec
 rw [decode_ascii _ i hs (by rw [hg];exact hc),hg]
theorem FR {l:aa} {i:Nat} {c:UInt8} (h:l[i]?=some c) (hc:128<=c.toNat):128<=(dec l i).1/\1<=(dec l i).2:=by
 have hlt:i<l.length:=by
  rcases aG i l.length with h' | h'
  ·exact h'
  ·rw [gU h'] at h;cases h
 have hs:i<(ByteArray.mk l.toArray).size:=hlt
 have hg:(ByteArray.mk l.toArray)[i]'hs=c:=by
  rw [bp hlt] at h
  simp only [aq] at h
  exact h
 unfold dec
 exact decode_high _ i hs (by rw [hg];exact hc)
theorem sU {α:Type} {l:List α} {i:Nat} {c:α} (h:l[i]?=some c):i<l.length:=by
 rcases aG i l.length with h' | h'
 ·exact h'
 ·rw [gU h'] at h;cases h
theorem ci {α:Type} {l:List α} {i:Nat} {c:α} (h:l[i]?=some c):l.drop i=c::l.drop (i+1):=by
 have hlt:=sU h
 rw [bp hlt] at h
 simp only [aq] at h
 rw [<-h,wU hlt]
theorem kC {α β:Type} [BEq α] [LawfulBEq α] [DecidableEq α] (a b:α) (x y:β):(cond (a==b) x y)=if a=b then x else y:=by
 by_cases h:a=b
 ·subst h;simp
 ·rw [aN.2 h];simp [h]
theorem vc {α β:Type} [BEq α] [LawfulBEq α] [DecidableEq α] (a b:α) (x y:β):(cond (a != b) x y)=if a=b then y else x:=by
 by_cases h:a=b
 ·subst h;simp
 ·rw [bne,aN.2 h];simp [h]
theorem bD {β:Type} (p:Prop) [Decidable p] (x y:β):(cond (decide p) x y)=if p then x else y:=by
 by_cases h:p<;>simp [h]
theorem FN {β:Type} (b:Bool) (x y:β):(cond (!b) x y)=cond b y x:=by cases b<;>rfl
theorem iD (a b:Nat):(decide (((a:Nat):Int)<((b:Nat):Int)))=decide (a<b):=by
 by_cases h:a<b<;>simp [h]
theorem lb (a b:Nat):(decide (((a:Nat):Int)>=((b:Nat):Int)))=decide (b<=a):=by
 by_cases h:b<=a<;>simp [h]
theorem nJ (c d:UInt8):((((c.toNat:Nat):Int))==((d.toNat:Nat):Int))=(c==d):=by
 by_cases h:c=d
 ·subst h;simp
 ·have h1:c.toNat≠d.toNat:=λe=>h (gH.1 e)
  have h2:((c.toNat:Nat):Int)≠((d.toNat:Nat):Int):=by omega
  rw [aN.2 h2,aN.2 h]
theorem VU (c:UInt8):UInt8.ofNat (Int.toNat ((c.toNat:Nat):Int))=c:=by simp
def two (c:Nat):aa:=[UInt8.ofNat (48+c / 10),UInt8.ofNat (48+c%10)]
def sea (m:aa):Int:=match (List.range 21).find? (λj=>m==two (21+j)) with | some j=>((21+j:Nat):Int) | none=>0
theorem kV {j:Nat} (hj:j<21):sea (two (21+j))=((21+j:Nat):Int):=by
 have:((List.range 21).all λj=>sea (two (21+j))==((21+j:Nat):Int))=true:=by decide +kernel
 simpa using (List.all_eq_true.1 this) j (by simpa using hj)
theorem ou (m:aa):sea m=0\/∃j,j<21/\m=two (21+j):=by
 unfold sea
 split
 ·rename_i j h
  have h1:=List.find?_some h
  have h2:=List.mem_of_find?_eq_some h
  exact .inr ⟨j,by simpa using h2,by simpa using h1⟩
 ·exact .inl rfl
theorem pF {b:UInt8} {d:Nat} (h:Lib.digitVal b=some d):d<10/\b.toNat=48+d:=by
 unfold Lib.digitVal at h
 split at h
 ·cases h;omega
 ·cases h
theorem Nr {a b:UInt8} {v:Int} (h:Lib.atoi [a,b]=some v) (h1:21<=v) (h2:v<42):∃j,j<21/\[a,b]=two (21+j)/\v=((21+j:Nat):Int):=by
 obtain ⟨b0,r,e,h3⟩:=Lib.atoi_cases h
 cases e
 rcases h3 with ⟨_,m,_,_,h4⟩ | ⟨_,m,_,h5,h4⟩ | ⟨_,_,m,h5,h4⟩
 ·omega
 ·simp only [Lib.decFrom] at h5
  split at h5
  ·rename_i d hd
   have:=(pF hd).1
   simp only [aq] at h5
   omega
  ·cases h5
 ·simp only [Lib.decFrom] at h5
  split at h5
  ·rename_i d hd
   split at h5
   ·rename_i d' hd'
    obtain ⟨k1,k2⟩:=pF hd
    obtain ⟨k3,k4⟩:=pF hd'
    simp only [aq] at h5
    refine ⟨m - 21,by omega,?_,by omega⟩
    have e0:(21+(m - 21)) / 10=d:=by omega
    have e1:(21+(m - 21))%10=d':=by omega
    unfold two
    rw [e0,e1,<-k2,<-k4]
    simp
   ·cases h5
  ·cases h5
theorem xo {j:Nat} (hj:j<21):Lib.atoi (two (21+j))=some ((21+j:Nat):Int):=by
 have:((List.range 21).all λj=>Lib.atoi (two (21+j))==some ((21+j:Nat):Int))=true:=by decide +kernel
 simpa using (List.all_eq_true.1 this) j (by simpa using hj)
theorem s9 (n:Nat) (g l:Bool) (dg:aa) (x q:Int) (m d:aa) (k0 k1 k2:Int) (hm:m.length<=18):cw n g l dg x q m d k0 k1 k2=some (sea m,decide (0<sea m)):=by
 have hb:Nat.ble m.length 18=true:=dG hm
 rcases ou m with h0 | ⟨j,hj,rfl⟩
 ·unfold cw
  rw [hb,h0]
  show opt (Lib.atoi m) _ _=_
  cases ha:Lib.atoi m with
  | none=>rfl
  | some v=>
   show cond _ _ _=_
   by_cases hl:m.length=2
   ·rw [hl]
    obtain ⟨a,b,rfl⟩:∃a b,m=[a,b]:=by
     match m,hl with
     | [a,b],_=>exact ⟨a,b,rfl⟩
    show ob (dr n v) _=_
    unfold dr
    rw [bD,bD]
    split
    ·rfl
    ·split
     ·rfl
     ·exfalso
      obtain ⟨j,hj,e,_⟩:=Nr ha (by omega) (by omega)
      rw [e,kV hj] at h0
      omega
   ·rw [show (((m.length:Nat):Int) != 2)=true by simp;omega]
    rfl
 ·rw [kV hj]
  have e:cw n g l dg x q (two (21+j)) d k0 k1 k2=some (((21+j:Nat):Int),true):=by
   unfold cw
   rw [hb,xo hj]
   show ob (dr n ((21+j:Nat):Int)) _=_
   unfold dr
   rw [bD,bD,ab (by omega),ab (by omega)]
   rfl
  rw [e]
  have:decide (0<((21+j:Nat):Int))=true:=by simp;omega
  rw [this]
theorem Jq (n:Nat) {c:Nat} (hc:c<100):gn n (c:Int)=some (two c):=by
 have e1:Int.tdiv (c:Int) 10=((c / 10:Nat):Int):=by
  rw [show (10:Int)=((10:Nat):Int) from rfl,<-Int.ofNat_tdiv]
 have e2:Int.tmod (c:Int) 10=((c%10:Nat):Int):=by
  rw [show (10:Int)=((10:Nat):Int) from rfl,<-Int.ofNat_tmod]
 have h1:c / 10<10:=by omega
 have h2:c%10<10:=by omega
 unfold gn
 rw [e1,e2]
 have w1:IntKind.wrap .i64 ((c / 10:Nat):Int)=((c / 10:Nat):Int):=wrap_i64 _ (by omega) (by omega)
 have w2:IntKind.wrap .i64 (((c / 10:Nat):Int)+1)=((c / 10+1:Nat):Int):=by rw [wrap_i64 _ (by omega) (by omega)];omega
 have w3:IntKind.wrap .i64 (((c%10:Nat):Int)+1)=((c%10+1:Nat):Int):=by rw [wrap_i64 _ (by omega) (by omega)];omega
 rw [w1,w2,w3,gG (by omega),gG (by omega)]
 show ob (bx (c / 10+1) ((c / 10:Nat):Int)) _=_
 rw [gG (by omega)]
 show ob (bx (c%10+1) ((c%10:Nat):Int)) _=_
 rw [gG (by omega)]
 unfold two
 generalize c / 10=a at *
 generalize c%10=b at *
 have:((List.range 10).all λa=>(List.range 10).all λb=>ob (cat (List.drop a (List.take (a+1) ([48,49,50,51,52,53,54,55,56,57]:aa))) (List.drop b (List.take (b+1) ([48,49,50,51,52,53,54,55,56,57]:aa)))) (λs=>some s)==some [UInt8.ofNat (48+a),UInt8.ofNat (48+b)])=true:=by decide +kernel
 have h3:=(dF.1 ((dF.1 this) a (by simpa using h1))) b (by simpa using h2)
 simpa using h3
theorem NQ {m:aa} (h:∀j,j<21->m≠two (21+j)):sea m=0:=by
 rcases ou m with h0 | ⟨j,hj,e⟩
 ·exact h0
 ·exact absurd e (h j hj)
theorem vL (n:Nat) (g l:Bool) (dg:aa) (x q:Int) (m d:aa) (k0 k1 k2:Int):∀(r j:Nat),j+r=21->(∀i,i<j->m≠two (21+i))->∀N,r<N->
  am (bG n) N (((21+j:Nat):Int),g,l,dg,x,q,m,d,k0,k1,k2)=some (if sea m=0 then .inr () else .inl (sea m)):=by
 intro r
 induction r with
 | zero=>
  intro j hj hne N hN
  obtain ⟨N,rfl⟩:∃k,N=k+1:=⟨N - 1,by omega⟩
  have hs:sea m=0:=NQ (λi hi=>hne i (by omega))
  rw [am]
  have:bG n (((21+j:Nat):Int),g,l,dg,x,q,m,d,k0,k1,k2)=some (.inr (.inr ())):=by
   unfold bG
   rw [bD,ab (by show ¬(((21+j:Nat):Int)<=41);omega)]
  rw [this,ae hs]
 | succ r ih=>
  intro j hj hne N hN
  obtain ⟨N,rfl⟩:∃k,N=k+1:=⟨N - 1,by omega⟩
  rw [am]
  by_cases hm:m=two (21+j)
  ·have hs:sea m=((21+j:Nat):Int):=by rw [hm];exact kV (by omega)
   have:bG n (((21+j:Nat):Int),g,l,dg,x,q,m,d,k0,k1,k2)=some (.inr (.inl ((21+j:Nat):Int))):=by
    unfold bG
    rw [bD,ae (by show ((21+j:Nat):Int)<=41;omega)]
    show ob (gn n ((21+j:Nat):Int)) _=_
    rw [Jq n (by omega)]
    show cond (m==two (21+j)) _ _=_
    rw [kC,ae hm]
   rw [this,hs,ab (by omega)]
  ·have:bG n (((21+j:Nat):Int),g,l,dg,x,q,m,d,k0,k1,k2)=some (.inl (((21+(j+1):Nat):Int),g,l,dg,x,q,m,d,k0,k1,k2)):=by
    unfold bG
    rw [bD,ae (by show ((21+j:Nat):Int)<=41;omega)]
    show ob (gn n ((21+j:Nat):Int)) _=_
    rw [Jq n (by omega)]
    show cond (m==two (21+j)) _ _=_
    rw [kC,ab hm]
    have:IntKind.wrap .i64 (((21+j:Nat):Int)+1)=((21+(j+1):Nat):Int):=by rw [wrap_i64 _ (by omega) (by omega)];omega
    show some (Sum.inl (IntKind.wrap .i64 (((21+j:Nat):Int)+1),_))=_
    rw [this]
   rw [this]
   exact ih (j+1) (by omega) (λi hi=>by
    rcases aG i j with h | h
    ·exact hne i h
    ·have:i=j:=by omega
     rw [this];exact hm) N (by omega)
theorem oa (n:Nat) (hn:100<n) (g l:Bool) (dg:aa) (x q:Int) (m d:aa) (k0 k1 k2:Int):aT n g l dg x q m d k0 k1 k2=some (sea m):=by
 unfold aT
 have:=vL n g l dg x q m d k0 k1 k2 21 0 rfl (λi hi=>absurd hi (by omega)) n (by omega)
 rw [show ((21+0:Nat):Int)=21 from rfl] at this
 rw [this]
 by_cases h:sea m=0
 ·rw [ae h,h];rfl
 ·rw [ab h];rfl
def agr (s:aa) (k:Nat):Bool:=match s with
 | [a,b]=>(a==88||a==UInt8.ofNat (48+k / 10))&&(b==88||b==UInt8.ofNat (48+k%10))
 | _=>false
def gW (s:aa) (g:Nat):Bool:=(List.range g).any λi=>agr s (i+1)
theorem Gm {X Y:Type} {step:X->Option (X⊕Y)} {f:Nat->X} {p:Nat->Bool} {g:Nat} {yes no:Y} (h:∀k,1<=k->k<=g->step (f k)=some (if p k then .inr yes else .inl (f (k+1)))) (he:step (f (g+1))=some (.inr no)) {N:Nat} (hN:g<N):
  am step N (f 1)=some (if (List.range g).any (λi=>p (i+1)) then yes else no):=by
 have go:∀(r j:Nat),j+r=g->(∀i,i<j->p (i+1)=false)->∀N,r<N->am step N (f (j+1))=some (if (List.range g).any (λi=>p (i+1)) then yes else no):=by
  intro r
  induction r with
  | zero=>
   intro j hj hne N hN
   obtain ⟨N,rfl⟩:∃k,N=k+1:=⟨N - 1,by omega⟩
   have:(List.range g).any (λi=>p (i+1))=false:=by
    rw [sK]
    intro i hi
    rw [hne i (by have:=kq.1 hi;omega)]
    simp
   rw [am,show j+1=g+1 by omega,he,this]
   rfl
  | succ r ih=>
   intro j hj hne N hN
   obtain ⟨N,rfl⟩:∃k,N=k+1:=⟨N - 1,by omega⟩
   rw [am,h (j+1) (by omega) (by omega)]
   cases hp:p (j+1) with
   | true=>
    have:(List.range g).any (λi=>p (i+1))=true:=tg.2 ⟨j,kq.2 (by omega),hp⟩
    rw [this]
    rfl
   | false=>
    exact ih (j+1) (by omega) (λi hi=>by
     rcases aG i j with h | h
     ·exact hne i h
     ·have:i=j:=by omega
      rw [this];exact hp) N (by omega)
 exact go g 0 (by omega) (λi hi=>absurd hi (by omega)) N hN
theorem uC {a:UInt8} {k:Nat} (hk:k<256):((((a.toNat:Nat):Int))==((k:Nat):Int))=(a==UInt8.ofNat k):=by
 have h:(UInt8.ofNat k).toNat=k:=by simp;omega
 rw [<-nJ,h]
theorem MV (n:Nat) (a b:UInt8) {g k:Nat} (h1:1<=k) (h2:k<=g) (h3:g<=31):
  cV n ([a,b],(g:Int),(k:Int))=some (if agr [a,b] k then .inr (.inl true) else .inl ([a,b],(g:Int),((k+1:Nat):Int))):=by
 have e1:Int.tdiv (k:Int) 10=((k / 10:Nat):Int):=by
  rw [show (10:Int)=((10:Nat):Int) from rfl,<-Int.ofNat_tdiv]
 have e2:Int.tmod (k:Int) 10=((k%10:Nat):Int):=by
  rw [show (10:Int)=((10:Nat):Int) from rfl,<-Int.ofNat_tmod]
 have w1:IntKind.wrap .u8 (48+IntKind.wrap .u8 (IntKind.wrap .i64 (Int.tdiv (k:Int) 10)))=((48+k / 10:Nat):Int):=by
  rw [e1,wrap_i64 _ (by omega) (by omega),jR ((k / 10:Nat):Int) (by omega) (by omega),jR _ (by omega) (by omega)]
  omega
 have w2:IntKind.wrap .u8 (48+IntKind.wrap .u8 (Int.tmod (k:Int) 10))=((48+k%10:Nat):Int):=by
  rw [e2,jR ((k%10:Nat):Int) (by omega) (by omega),jR _ (by omega) (by omega)]
  omega
 have w3:IntKind.wrap .i64 ((k:Int)+1)=((k+1:Nat):Int):=by rw [wrap_i64 _ (by omega) (by omega)];omega
 have x88:(88:Int)=((88:Nat):Int):=rfl
 have s0:sx [a,b] 0=some a:=rfl
 have s1:sx [a,b] 1=some b:=rfl
 unfold cV
 rw [bD,ae (show (k:Int)<=(g:Int) by omega)]
 simp only [s0,s1,ob,w1,w2,w3]
 rw [x88,uC (by omega),uC (by omega),uC (by omega),uC (by omega)]
 show _=some (if ((a==UInt8.ofNat 88||a==UInt8.ofNat (48+k / 10))&&(b==UInt8.ofNat 88||b==UInt8.ofNat (48+k%10)))=true then _ else _)
 generalize (a==UInt8.ofNat 88)=p1
 generalize (b==UInt8.ofNat 88)=p2
 generalize (a==UInt8.ofNat (48+k / 10))=p3
 generalize (b==UInt8.ofNat (48+k%10))=p4
 cases p1<;>cases p2<;>cases p3<;>cases p4<;>rfl
theorem B6 (n:Nat) (hn:100<n) (s:aa) (g:Nat) (hg:g<=31):cQ n s (g:Int)=some (gW s g):=by
 unfold cQ
 by_cases hl:s.length=2
 ·obtain ⟨a,b,rfl⟩:∃a b,s=[a,b]:=by
   match s,hl with
   | [a,b],_=>exact ⟨a,b,rfl⟩
  have he:cV n ([a,b],(g:Int),((g+1:Nat):Int))=some (.inr (.inr ())):=by
   unfold cV
   rw [bD,ab (show ¬((g+1:Nat):Int)<=(g:Int) by omega)]
  have:=Gm (f:=λk=>([a,b],(g:Int),((k:Nat):Int))) (p:=agr [a,b]) (g:=g) (N:=n) (λk h1 h2=>MV n a b h1 h2 hg) he (by omega)
  show ob (am (cV n) n ([a,b],(g:Int),((1:Nat):Int))) _=_
  rw [this]
  unfold gW
  split<;>simp_all [ob]
 ·rw [show (((s.length:Nat):Int) != 2)=true by simp;omega]
  have:gW s g=false:=by
   unfold gW
   rw [sK]
   intro i _
   match s,hl with
   | [],_=>simp [agr]
   | [_],_=>simp [agr]
   | [_,_],h=>exact absurd rfl h
   | _::_::_::_,_=>simp [agr]
  rw [this]
  rfl
theorem uh (n:Nat) (s:aa) (k:Nat) (hk:k<100):dP n s (k:Int)=some (if agr s k then 1 else 0):=by
 unfold dP
 rw [Jq n hk]
 show cond _ _ _=_
 by_cases hl:s.length=2
 ·obtain ⟨a,b,rfl⟩:∃a b,s=[a,b]:=by
   match s,hl with
   | [a,b],_=>exact ⟨a,b,rfl⟩
  have s0:sx [a,b] 0=some a:=rfl
  have s1:sx [a,b] 1=some b:=rfl
  have t0:sx (two k) 0=some (UInt8.ofNat (48+k / 10)):=rfl
  have t1:sx (two k) 1=some (UInt8.ofNat (48+k%10)):=rfl
  have x88:(88:Int)=((88:Nat):Int):=rfl
  rw [show (((([a,b]:aa).length:Nat):Int)==2)=true from rfl]
  simp only [s0,s1,t0,t1,ob,aj]
  rw [x88,uC (by omega),uC (by omega),nJ,nJ]
  show _=some (if ((a==UInt8.ofNat 88||a==UInt8.ofNat (48+k / 10))&&(b==UInt8.ofNat 88||b==UInt8.ofNat (48+k%10)))=true then _ else _)
  generalize (a==UInt8.ofNat 88)=p1
  generalize (b==UInt8.ofNat 88)=p2
  generalize (a==UInt8.ofNat (48+k / 10))=p3
  generalize (b==UInt8.ofNat (48+k%10))=p4
  cases p1<;>cases p2<;>cases p3<;>cases p4<;>rfl
 ·rw [show (((s.length:Nat):Int)==2)=false by simp;omega]
  have:agr s k=false:=by
   match s,hl with
   | [],_=>rfl
   | [_],_=>rfl
   | [_,_],h=>exact absurd rfl h
   | _::_::_::_,_=>rfl
  rw [this]
  rfl
theorem F4 (n:Nat) (hn:100<n) (s:aa) (g:Nat) (hg:g<=31):dA n s (g:Int)=some (if gW s g then 1 else 0):=by
 unfold dA
 have he:dq n (s,(g:Int),((g+1:Nat):Int))=some (.inr (.inr ())):=by
  unfold dq
  rw [bD,ab (show ¬((g+1:Nat):Int)<=(g:Int) by omega)]
 have:=Gm (f:=λk=>(s,(g:Int),((k:Nat):Int))) (p:=agr s) (g:=g) (N:=n) (step:=dq n) (yes:=.inl 1) (no:=.inr ()) (λk h1 h2=>by
  unfold dq
  rw [bD,ae (show (k:Int)<=(g:Int) by omega)]
  show ob (dP n s (k:Int)) _=_
  rw [uh n s k (by omega)]
  have w3:IntKind.wrap .i64 ((k:Int)+1)=((k+1:Nat):Int):=by rw [wrap_i64 _ (by omega) (by omega)];omega
  simp only [ob,w3]
  cases agr s k<;>rfl) he (by omega)
 show ob (am (dq n) n (s,(g:Int),((1:Nat):Int))) _=_
 rw [this]
 unfold gW
 split<;>simp_all [ob]
theorem wZ (n:Nat) {a b:Int} (hb:1<b) (hb2:b<1000) (ha:-4611686018427387904<=a) (ha2:a<4611686018427387904):ln n a b=some (a / b,0):=by
 have n0:(b==0)=false:=by simp;omega
 have n1:(b==-1)=false:=by simp;omega
 unfold ln
 simp only [n0,n1,af]
 have hq:a / b*b+a%b=a:=Int.ediv_mul_add_emod a b
 have hr:=KV a (show b≠0 by omega)
 have hr2:=JJ a (show 0<b by omega)
 have hq1:-4611686018427387904<=a / b:=by
  rw [Int.le_ediv_iff_mul_le (by omega)]
  have:(-4611686018427387904:Int)*b<=-4611686018427387904*1:=Int.mul_le_mul_of_nonpos_left (by omega) (by omega)
  omega
 have hq2:a / b<4611686018427387904:=by
  rw [Int.ediv_lt_iff_lt_mul (by omega)]
  have:(4611686018427387904:Int)*1<=4611686018427387904*b:=Int.mul_le_mul_of_nonneg_left (by omega) (by omega)
  omega
 by_cases h0:0<=a
 ·have e1:Int.tdiv a b=a / b:=OJ h0
  have d1:decide (a<0)=false:=by simp;omega
  have d2:decide (b<0)=false:=by simp;omega
  rw [e1,d1,d2,wrap_i64 (a / b) (by omega) (by omega)]
  cases (Int.tmod a b != 0)<;>rfl
 ·have d1:decide (a<0)=true:=by simp;omega
  have d2:decide (b<0)=false:=by simp;omega
  have e1:=Int.tdiv_eq_ediv (a:=a) (b:=b)
  have e2:=JM (a:=a) (b:=b)
  rw [d1,d2]
  by_cases hd:b∣a
  ·have hm:Int.tmod a b=0:=by
    rw [e2,ae (.inr hd)]
    have:=Int.emod_eq_zero_of_dvd hd
    omega
   rw [hm,e1,ae (.inr hd)]
   rw [Int.add_zero,wrap_i64 (a / b) (by omega) (by omega)]
   rfl
  ·have hm0:a%b≠0:=λh=>hd (It h)
   have hm:(Int.tmod a b != 0)=true:=by
    rw [e2,ab (by rintro (h | h);exact h0 h;exact hd h)]
    simp
    omega
   have hs:b.sign=1:=Int.sign_eq_one_of_pos (by omega)
   rw [hm,e1,ab (by rintro (h | h);exact h0 h;exact hd h),hs]
   rw [wrap_i64 (a / b+1) (by omega) (by omega),Int.add_sub_cancel,wrap_i64 (a / b) (by omega) (by omega)]
   rfl
theorem RP (n:Nat) {a b:Int} (hb:1<b) (hb2:b<1000):vA n a b=some (a%b,0):=by
 have n0:(b==0)=false:=by simp;omega
 have n1:(b==-1)=false:=by simp;omega
 unfold vA
 simp only [n0,n1,af]
 have hr:=KV a (show b≠0 by omega)
 have hr2:=JJ a (show 0<b by omega)
 have e2:=JM (a:=a) (b:=b)
 have d2:decide (b<0)=false:=by simp;omega
 by_cases hc:0<=a\/b∣a
 ·rw [ae hc] at e2
  have:Int.tmod a b=a%b:=by omega
  rw [this,d2]
  have d1:decide (a%b<0)=false:=by simp;omega
  rw [d1]
  cases h:(a%b != 0)
  ·rfl
  ·rfl
 ·rw [ab hc] at e2
  have hn:(b.natAbs:Int)=b:=by omega
  rw [hn] at e2
  have hm0:a%b≠0:=λh=>hc (.inr (It h))
  have hm:(Int.tmod a b != 0)=true:=by simp;omega
  have d1:decide (Int.tmod a b<0)=true:=by simp;omega
  rw [hm,d1,d2,e2,wrap_i64 _ (by omega) (by omega),Ko]
  rfl
def dH (y:Int):Prop:=-10000000000000000<=y/\y<=10000000000000000
instance (y:Int):Decidable (dH y):=by unfold dH;infer_instance
theorem ge (n:Nat) (y:Int):i6 n y=some (if dH y then 0 else 6):=by
 unfold i6
 rw [bD,bD]
 by_cases h1:y < -10000000000000000
 ·rw [ae h1,ab (show ¬dH y by unfold dH;omega)]
 ·by_cases h2:y>10000000000000000
  ·rw [ab h1,ae h2,ab (show ¬dH y by unfold dH;omega)]
  ·rw [ab h1,ab h2,ae (show dH y by unfold dH;omega)]
theorem si (n:Nat) {y:Int} (h:-20000000000000000<=y/\y<=20000000000000000):∃z,fe n y=some z:=by
 unfold fe
 rw [wrap_i64 (y - 1) (by omega) (by omega),wZ n (by omega) (by omega) (by omega) (by omega),wZ n (by omega) (by omega) (by omega) (by omega),wZ n (by omega) (by omega) (by omega) (by omega)]
 exact ⟨_,rfl⟩
theorem Is (n:Nat) {y:Int} (h:dH y):∃b e,jZ n y=some (b,e):=by
 unfold jZ
 have h':=h
 unfold dH at h'
 obtain ⟨z1,e1⟩:=si n (y:=y+1) (by omega)
 obtain ⟨z2,e2⟩:=si n (y:=y) (by omega)
 rw [ge,ae h,wrap_i64 (y+1) (by omega) (by omega),e1,e2]
 exact ⟨_,_,rfl⟩
theorem sG (n:Nat) {y:Int} (h:dH y) {m:Nat} (h1:1<=m) (h2:m<=12):∃v,dX n y (m:Int)=some v:=by
 unfold dX
 obtain ⟨b,e,hl⟩:=Is n h
 rw [hl]
 show ∃v,cond (b&&((m:Int)==2)) _ _=some v
 cases (b&&((m:Int)==2)) with
 | true=>exact ⟨_,rfl⟩
 | false=>
  have:IntKind.wrap .i64 ((m:Int) - 1)=((m - 1:Nat):Int):=by rw [wrap_i64 _ (by omega) (by omega)];omega
  rw [this,dp (by omega)]
  have hl:vf.length=12:=rfl
  exact ⟨_,bp (show m - 1<vf.length by omega)⟩
theorem EU (n:Nat) {y:Int} (h:dH y) {m:Nat} (h1:1<=m) (h2:m<=12):jY n y (m:Int)=some 0:=by
 unfold jY
 rw [ge,ae h]
 show cond (decide ((m:Int)<1)) _ _=_
 rw [bD,bD,ab (by omega),ab (by omega)]
theorem G6 (n:Nat) {y:Int} (h:dH y) {m:Nat} (hm:m<=11):∀(r j:Nat),j+r=m->∀(a:Int) (N:Nat),r<N->∃v,am (bC n) N (y,a,(m:Int),(j:Int))=some v:=by
 intro r
 induction r with
 | zero=>
  intro j hj a N hN
  obtain ⟨N,rfl⟩:∃k,N=k+1:=⟨N - 1,by omega⟩
  have:bC n (y,a,(m:Int),(j:Int))=some (.inr a):=by
   unfold bC
   rw [bD,ab (show ¬((j:Int)<(m:Int)) by omega)]
  rw [am,this]
  exact ⟨_,rfl⟩
 | succ r ih=>
  intro j hj a N hN
  obtain ⟨N,rfl⟩:∃k,N=k+1:=⟨N - 1,by omega⟩
  obtain ⟨v,hv⟩:=sG n h (m:=j+1) (by omega) (by omega)
  have w:IntKind.wrap .i64 ((j:Int)+1)=((j+1:Nat):Int):=by rw [wrap_i64 _ (by omega) (by omega)];omega
  have:bC n (y,a,(m:Int),(j:Int))=some (.inl (y,IntKind.wrap .i64 (a+v),(m:Int),((j+1:Nat):Int))):=by
   unfold bC
   rw [bD,ae (show ((j:Int)<(m:Int)) by omega)]
   simp only [w,hv,ob]
  rw [am,this]
  exact ih (j+1) (by omega) _ N (by omega)
theorem Iy (n:Nat) (hn:100<n) {y:Int} (h:dH y) {m:Nat} (h1:1<=m) (h2:m<=12):∃v,fa n y (m:Int)=some (v,0):=by
 unfold fa kW li
 have h':=h
 unfold dH at h'
 obtain ⟨z,e⟩:=si n (y:=y) (by omega)
 have w:IntKind.wrap .i64 ((m:Int) - 1)=((m - 1:Nat):Int):=by rw [wrap_i64 _ (by omega) (by omega)];omega
 rw [EU n h h1 h2,ge,ae h,e,w]
 obtain ⟨v,hv⟩:=G6 n h (m:=m - 1) (by omega) (m - 1) 0 (by omega) (IntKind.wrap .i64 (IntKind.wrap .i64 (365*y)+z)) n (by omega)
 refine ⟨v,?_⟩
 show ob (am (bC n) n (y,IntKind.wrap .i64 (IntKind.wrap .i64 (365*y)+z),((m - 1:Nat):Int),((0:Nat):Int))) _=_
 rw [hv]
 rfl
theorem madd (n:Nat) {y:Int} (h:dH y) {m c:Nat} (h1:1<=m) (h2:m<=12) (hc:1<=c) (hc2:c<=6):n8 n y (m:Int) (IntKind.wrap .i64 ((c:Int) - 1)) =
  some (if 12<m+c - 1 then (if y=10000000000000000 then (0,0,6) else (y+1,((m+c - 1 - 12:Nat):Int),0)) else (y,((m+c - 1:Nat):Int),0)):=by
 have h':=h
 unfold dH at h'
 unfold n8
 rw [EU n h h1 h2,wrap_i64 (12*y) (by omega) (by omega),wrap_i64 ((m:Int) - 1) (by omega) (by omega),wrap_i64 (12*y+((m:Int) - 1)) (by omega) (by omega),wrap_i64 ((c:Int) - 1) (by omega) (by omega)]
 have ha:qV n (12*y+((m:Int) - 1)) ((c:Int) - 1)=some (12*y+((m:Int) - 1)+((c:Int) - 1),0):=by
  unfold qV
  rw [wrap_i64 (12*y+((m:Int) - 1)+((c:Int) - 1)) (by omega) (by omega),kC]
  by_cases h0:(c:Int) - 1=0
  ·rw [ae h0]
   have d1:decide (12*y+((m:Int) - 1)>12*y+((m:Int) - 1))=false:=by simp
   have d2:decide ((c:Int) - 1>0)=false:=by simp;omega
   rw [d1,d2,h0,Int.add_zero]
   rfl
  ·rw [ab h0]
   have d1:decide (12*y+((m:Int) - 1)+((c:Int) - 1)>12*y+((m:Int) - 1))=true:=by simp;omega
   have d2:decide ((c:Int) - 1>0)=true:=by simp;omega
   rw [d1,d2]
   rfl
 simp only [ob,ha,eM,af]
 rw [wZ n (by omega) (by omega) (by omega) (by omega),RP n (by omega) (by omega)]
 simp only [ge]
 by_cases hb:12<m+c - 1
 ·have e1:(12*y+((m:Int) - 1)+((c:Int) - 1)) / 12=y+1:=by omega
  have e2:(12*y+((m:Int) - 1)+((c:Int) - 1))%12=((m+c - 1 - 12:Nat):Int) - 1:=by omega
  rw [e1,e2,ae hb]
  by_cases hy:y=10000000000000000
  ·rw [ae hy,ab (show ¬dH (y+1) by unfold dH;omega)]
   rfl
  ·rw [ab hy,ae (show dH (y+1) by unfold dH;omega),wrap_i64 (((m+c - 1 - 12:Nat):Int) - 1+1) (by omega) (by omega),Ko]
   rfl
 ·have e1:(12*y+((m:Int) - 1)+((c:Int) - 1)) / 12=y:=by omega
  have e2:(12*y+((m:Int) - 1)+((c:Int) - 1))%12=((m+c - 1:Nat):Int) - 1:=by omega
  rw [e1,e2,ab hb,ae h,wrap_i64 (((m+c - 1:Nat):Int) - 1+1) (by omega) (by omega),Ko]
  rfl
theorem EI {j:Nat} (hj:j<21):∃m c:Nat,nj[j]?=some ((m:Int),(c:Int))/\1<=m/\m<=12/\1<=c/\c<=6/\(12<m+c - 1↔j=3\/j=7\/j=9):=by
 have:((List.range 21).all λj=>match nj[j]? with
  | some (m,c)=>decide (0<=m)&&decide (0<=c)&&decide (1<=m.toNat)&&decide (m.toNat<=12)&&decide (1<=c.toNat)&&decide (c.toNat<=6)&&(decide (12<m.toNat+c.toNat - 1)==decide (j=3\/j=7\/j=9))
  | none=>false)=true:=by decide +kernel
 have h:=(dF.1 this) j (by simpa using hj)
 split at h
 ·rename_i m c e
  simp only [az,cb,bB,nq] at h
  obtain ⟨⟨⟨⟨⟨⟨h1,h2⟩,h3⟩,h4⟩,h5⟩,h6⟩,h7⟩:=h
  exact ⟨m.toNat,c.toNat,by rw [e,Gg h1,Gg h2],h3,h4,h5,h6,h7⟩
 ·cases h
theorem Sl (n:Nat) (hn:100<n) {y:Int} (h:dH y) {j:Nat} (hj:j<21):
  ∃a b c d,gZ n y ((21+j:Nat):Int)=some (a,b,c,d,if y=10000000000000000/\(j=3\/j=7\/j=9) then 6 else 0):=by
 obtain ⟨m,c,e,h1,h2,h3,h4,h5⟩:=EI hj
 have hM:fc n ((21+j:Nat):Int)=some ((m:Int),(c:Int),0):=by
  unfold fc dr
  rw [bD,bD,ab (by omega),ab (by omega)]
  have:IntKind.wrap .i64 (((21+j:Nat):Int) - 21)=(j:Int):=by rw [wrap_i64 _ (by omega) (by omega)];omega
  rw [this,dp hj]
  show ob (nj[j]?) _=_
  rw [e]
  rfl
 obtain ⟨v,hv⟩:=Iy n hn h h1 h2
 unfold gZ
 rw [hM]
 show ∃a b c d,ob (fa n y (m:Int)) _=_
 rw [hv]
 show ∃a b c' d,ob (n8 n y (m:Int) (IntKind.wrap .i64 ((c:Int) - 1))) _=_
 rw [madd n h h1 h2 h3 h4]
 have h':=h
 unfold dH at h'
 by_cases hb:12<m+c - 1
 ·rw [ae hb]
  by_cases hy:y=10000000000000000
  ·rw [ae hy,ae ⟨hy,h5.1 hb⟩]
   exact ⟨_,_,_,_,rfl⟩
  ·rw [ab hy,ab (λx=>hy x.1)]
   have hc1:dH (y+1):=by unfold dH;omega
   obtain ⟨v2,hv2⟩:=Iy n hn hc1 (m:=m+c - 1 - 12) (by omega) (by omega)
   obtain ⟨u,hu⟩:=sG n hc1 (m:=m+c - 1 - 12) (by omega) (by omega)
   have hE:gM n (y+1) ((m+c - 1 - 12:Nat):Int)=some (IntKind.wrap .i64 (IntKind.wrap .i64 (v2+u) - 1),0):=by
    unfold gM
    rw [hv2,hu]
    rfl
   show ∃a b c' d,ob (gM n (y+1) ((m+c - 1 - 12:Nat):Int)) _=_
   rw [hE]
   exact ⟨_,_,_,_,rfl⟩
 ·rw [ab hb,ab (λx=>hb (h5.2 x.2))]
  obtain ⟨v2,hv2⟩:=Iy n hn h (m:=m+c - 1) (by omega) (by omega)
  obtain ⟨u,hu⟩:=sG n h (m:=m+c - 1) (by omega) (by omega)
  have hE:gM n y ((m+c - 1:Nat):Int)=some (IntKind.wrap .i64 (IntKind.wrap .i64 (v2+u) - 1),0):=by
   unfold gM
   rw [hv2,hu]
   rfl
  show ∃a b c' d,ob (gM n y ((m+c - 1:Nat):Int)) _=_
  rw [hE]
  exact ⟨_,_,_,_,rfl⟩
def hasB (set:aa) (c:UInt8):Bool:=set.any λd=>d==c
theorem pg (set:aa) (c:UInt8):(decide (Lib.indexByte set c<0))=!hasB set c:=by
 induction set with
 | nil=>simp [Lib.indexByte,hasB]
 | cons d l ih=>
  have hge:=Lib.indexByte_ge l c
  simp only [hasB,Jp] at ih ⊢
  unfold Lib.indexByte
  by_cases h:d=c
  ·simp [h]
  ·have hb:(d==c)=false:=by simpa using h
   simp only [hb,bP,aE,xH]
   rw [<-ih]
   by_cases h1:Lib.indexByte l c=-1
   ·simp [h1]
   ·have hb1:(Lib.indexByte l c==-1)=false:=by simpa using h1
    simp only [hb1,bP,aE]
    have:¬Lib.indexByte l c+1<0:=by omega
    have:¬Lib.indexByte l c<0:=by omega
    simp [*]
theorem pK (set:aa) (c:UInt8):(decide (Lib.indexByte set c>=0))=hasB set c:=by
 have:=pg set c
 by_cases h:Lib.indexByte set c<0
 ·have h2:¬Lib.indexByte set c>=0:=by omega
  simp only [h,h2,nY,m7] at this ⊢
  revert this;cases hasB set c<;>simp
 ·have h2:Lib.indexByte set c>=0:=by omega
  simp only [h,h2,nY,m7] at this ⊢
  revert this;cases hasB set c<;>simp
def lcp:aa->aa->Nat
 | c::s,d::t=>if c==d then lcp s t+1 else 0
 | _,_=>0
theorem wi:∀s t:aa,lcp s t<=s.length
 | [],_=>by simp [lcp]
 | _::_,[]=>by simp [lcp]
 | c::s,d::t=>by
  have:=wi s t
  simp only [lcp,aD]
  split<;>omega
def bK (p:UInt8->Bool):Nat->aa->Nat
 | 0,_=>0
 | _+1,[]=>0
 | k+1,c::l=>if p c then bK p k l+1 else 0
theorem lu (p:UInt8->Bool):∀(k:Nat) (l:aa),bK p k l<=l.length
 | 0,_=>by simp [bK]
 | _+1,[]=>by simp [bK]
 | k+1,c::l=>by
  have:=lu p k l
  simp only [bK,aD]
  split<;>omega
theorem y9 (n:Nat) (S:aa) (at_:Nat) (h:at_<=S.length):dS n S (at_:Int)=some (S.drop at_):=by
 simp [dS,ob,gG h]
theorem CM (n:Nat) (s p:aa):jn n s p=some (s.take p.length==p):=by
 simp only [jn,gu,lb]
 by_cases h:p.length<=s.length
 ·simp [h,ob,gG h]
 ·have:(s.take p.length==p)=false:=by
   rw [aN]
   intro e
   have:=dm List.length e
   rw [cO] at this
   omega
  simp [h,ob,this]
theorem IP (n:Nat) (t S:aa) (at_:Nat) (h:at_<=S.length):fg n t S (at_:Int)=some ((S.drop at_).take t.length==t):=by
 simp [fg,y9 n S at_ h,ob,CM]
theorem rn (n:Nat) (t S:aa) (at_:Nat) (h:at_<=S.length) (hS:S.length<4611686018427387904):
  aK n t S (at_:Int)=some (if (S.drop at_).take t.length=t then (true,S,((at_+t.length:Nat):Int)) else (false,S,(at_:Int))):=by
 simp only [aK,IP n t S at_ h,ob]
 by_cases hp:(S.drop at_).take t.length=t
 ·have hl:t.length<=S.length - at_:=by
   have:=dm List.length hp
   simp at this;omega
  have hw:IntKind.wrap .i64 ((at_:Int)+((t.length:Nat):Int))=((at_+t.length:Nat):Int):=by rw [wrap_i64 _ (by omega) (by omega)];omega
  simp [hp,hw]
 ·simp only [FN,kC,hp,aE]
theorem CW (n:Nat) (S:aa) (i:Int):bA n S i=some i:=rfl
def peek (l:aa):Int×Bool:=match l with | c::_=>(((c.toNat:Nat):Int),true) | []=>(0,false)
theorem uX (n:Nat) (S:aa) (at_:Nat) (h:at_<=S.length):cU n S (at_:Int)=some (peek (S.drop at_)):=by
 simp only [cU,y9 n S at_ h,ob]
 rcases aG at_ S.length with hlt | hge
 ·obtain ⟨c,hc⟩:∃c,S[at_]?=some c:=⟨S[at_],bp hlt⟩
  rw [ci hc]
  simp [eF hc,peek]
 ·rw [jo hge]
  simp [peek]
theorem vh (n:Nat) (a e:Int) (S:aa) (i:Int):ba n a e S i=some (a,if e=0 then 5 else e):=by
 simp only [ba,kC]
 by_cases h:e=0<;>simp [h]
theorem gA (n:Nat) (set:aa) (c:UInt8):db n set ((c.toNat:Nat):Int)=some (Lib.indexByte set c):=by
 simp only [db,cP,ob,VU]
theorem zL (n:Nat) (set S:aa) (at_:Nat) (h:at_<=S.length) (hS:S.length<4611686018427387904):
  cj n set S (at_:Int)=some (match S.drop at_ with | c::_=>if hasB set c then .inr (((c.toNat:Nat):Int),S,((at_+1:Nat):Int)) else .inl ((at_:Int),5,S,(at_:Int)) | []=>.inl ((at_:Int),5,S,(at_:Int))):=by
 simp only [cj,uX n S at_ h,ob]
 rcases aG at_ S.length with hlt | hge
 ·obtain ⟨c,hc⟩:∃c,S[at_]?=some c:=⟨S[at_],bp hlt⟩
  have hw:IntKind.wrap .i64 ((at_:Int)+1)=((at_+1:Nat):Int):=by rw [wrap_i64 _ (by omega) (by omega)];omega
  rw [ci hc]
  simp only [peek,dn,af,gA,pg,CW,vh,ob,hw]
  cases hasB set c<;>simp
 ·rw [jo hge]
  simp [peek,CW,vh,ob]
theorem pi (S:aa) (a k:Nat):List.drop a (List.take (a+k) S)=(S.drop a).take k:=by
 rw [wW];congr 1;omega
theorem y3 (n:Nat) (set:aa) (least most:Int) (S:aa) (at_:Nat) (h:at_<=S.length) (hS:S.length<4611686018427387904) (hn:S.length<n):
  am (cL n) n (set,least,most,(at_:Int),(peek (S.drop at_)).1,(peek (S.drop at_)).2,S,(at_:Int)) =
   some (least,(at_:Int),S,((at_+bK (hasB set) most.toNat (S.drop at_):Nat):Int)):=by
 have:=fq (step:=cL n)
  (λx=>∃j:Nat,at_+j<=S.length/\x=(set,least,most,(at_:Int),(peek (S.drop (at_+j))).1,(peek (S.drop (at_+j))).2,S,((at_+j:Nat):Int)))
  (λx=>S.length - x.2.2.2.2.2.2.2.toNat)
  (λx=>(least,(at_:Int),S,((x.2.2.2.2.2.2.2.toNat+bK (hasB set) (most.toNat - (x.2.2.2.2.2.2.2.toNat - at_)) (S.drop x.2.2.2.2.2.2.2.toNat):Nat):Int))) ?_ n
  (set,least,most,(at_:Int),(peek (S.drop at_)).1,(peek (S.drop at_)).2,S,(at_:Int)) ⟨0,by omega,by simp⟩ (by simp;omega)
 ·simpa using this
 rintro x ⟨j,hj,rfl⟩
 simp only [bV]
 have hsub:IntKind.wrap .i64 (((at_+j:Nat):Int) - (at_:Int))=(j:Int):=by rw [wrap_i64 _ (by omega) (by omega)];omega
 rcases aG (at_+j) S.length with hlt | hge
 ·obtain ⟨c,hc⟩:∃c,S[at_+j]?=some c:=⟨S[at_+j],bp hlt⟩
  have hw:IntKind.wrap .i64 (((at_+j:Nat):Int)+1)=((at_+(j+1):Nat):Int):=by rw [wrap_i64 _ (by omega) (by omega)];omega
  simp only [cL,ci hc,peek,aj,hsub]
  by_cases hm:(j:Int)<most
  ·obtain ⟨k,hk⟩:∃k,most.toNat - (at_+j - at_)=k+1:=⟨most.toNat - j - 1,by omega⟩
   simp only [hm,nY,aj,gA,ob,pK,hk,bK]
   cases hb:hasB set c with
   | true=>
    simp only [hw,uX n S (at_+(j+1)) (by omega),aj]
    refine .inl ⟨_,rfl,⟨j+1,by omega,rfl⟩,?_,?_⟩
    ·simp only [bV];omega
    ·simp only [bV,bO,js,aQ]
     have:most.toNat - (at_+(j+1) - at_)=k:=by omega
     rw [this,show at_+(j+1)=at_+j+1 by omega]
     omega
   | false=>exact .inr (by simp)
  ·refine .inr ?_
   have:most.toNat - (at_+j - at_)=0:=by omega
   simp only [hm,m7,af,this,bK,cD]
 ·refine .inr ?_
  simp only [cL,jo hge,peek,af]
  have:bK (hasB set) (most.toNat - (at_+j - at_)) []=0:=by cases most.toNat - (at_+j - at_)<;>rfl
  simp only [this,cD]
theorem vr (n:Nat) (set:aa) (least most:Int) (S:aa) (at_:Nat) (h:at_<=S.length) (hS:S.length<4611686018427387904) (hn:S.length<n):
  bS n set least most S (at_:Int)=some (if ((bK (hasB set) most.toNat (S.drop at_):Nat):Int)<least
   then .inl (((at_+bK (hasB set) most.toNat (S.drop at_):Nat):Int),5,S,((at_+bK (hasB set) most.toNat (S.drop at_):Nat):Int))
   else .inr ((S.drop at_).take (bK (hasB set) most.toNat (S.drop at_)),S,((at_+bK (hasB set) most.toNat (S.drop at_):Nat):Int))):=by
 have hk:=lu (hasB set) most.toNat (S.drop at_)
 rw [co] at hk
 simp only [bS,CW,uX n S at_ h,ob]
 rw [y3 n set least most S at_ h hS hn]
 generalize bK (hasB set) most.toNat (S.drop at_)=k at hk ⊢
 have hsub:IntKind.wrap .i64 (((at_+k:Nat):Int) - (at_:Int))=(k:Int):=by rw [wrap_i64 _ (by omega) (by omega)];omega
 simp only [hsub,vh]
 by_cases hl:(k:Int)<least
 ·simp [hl]
 ·simp only [hl,m7,af,aE]
  rw [gG (by omega)]
  simp only
  rw [gG (by omega)]
  simp only [pi]
theorem QR (a b:Nat):(cond (decide (((a:Nat):Int)<((b:Nat):Int))) ((a:Nat):Int) ((b:Nat):Int))=((min a b:Nat):Int):=by
 by_cases h:a<b
 ·simp [h];omega
 ·simp [h];omega
def asc (l:aa):Prop:=∀c∈l,c.toNat<128
theorem ID (r:Int) (h:128<=r):∃p e,(Utf8.encode r).data.toList=p++[e]/\1<=p.length/\p.length<=3/\128<=e.toNat:=by
 unfold Utf8.encode
 have hc:128<=(if Utf8.valid r then r.toNat else Utf8.runeError):=by
  split
  ·omega
  ·decide
 generalize (if Utf8.valid r then r.toNat else Utf8.runeError)=c at hc
 have he:128<=(UInt8.ofNat (0x80+c%64)).toNat:=by
  simp only [DZ]
  omega
 simp only
 split
 ·omega
 ·split
  ·exact ⟨[_],_,rfl,by simp,by simp,he⟩
  ·split
   ·exact ⟨[_,_],_,rfl,by simp,by simp,he⟩
   ·exact ⟨[_,_,_],_,rfl,by simp,by simp,he⟩
theorem JB {l:aa} (h:asc l) {i:Nat} {c:UInt8} (hi:l[i]?=some c):c.toNat<128:=h c (gQ hi)
theorem B8 (n:Nat) (set:aa) (h:asc set) (hn:set.length<n):am (dE n) n (set,0)=some (.inr ()):=by
 refine fq (step:=dE n) (λx=>x.1=set) (λx=>set.length - x.2) (λx=>.inr ()) ?_ n _ rfl (by simp;omega)
 rintro ⟨s,i⟩ rfl
 simp only [dE]
 by_cases hi:i<s.length
 ·have hb:Nat.blt i s.length=true:=dG hi
  obtain ⟨c,hc⟩:∃c,s[i]?=some c:=⟨s[i],bp hi⟩
  have hlow:=JB h hc
  have hne:(((c.toNat:Nat):Int)==65533)=false:=by rw [aN];omega
  simp only [hb,aj,Ee hc hlow,hne,af]
  exact .inl ⟨_,rfl,rfl,by simp only;omega,trivial⟩
 ·have hb:Nat.blt i s.length=false:=by
   cases hb:Nat.blt i s.length with
   | false=>rfl
   | true=>exact absurd (aI hb) (by omega)
  simp only [hb,af]
  exact .inr trivial
theorem xO {l:aa} {c:UInt8} (h:c∉l):Lib.indexByte l c<0:=by
 have h1:=pg l c
 have h2:hasB l c=false:=by
  unfold hasB
  rw [sK]
  intro x hx he
  simp only [bB] at he
  exact h (he▸hx)
 rw [h2] at h1
 simpa using h1
theorem Bq (n:Nat) (set:aa) (h:asc set) (hn:set.length<n) (hs:set.length<=100) (r:Int) (hr:128<=r):dR n set r=some (-1):=by
 have h0:decide ((0:Int)<=r)=true:=ar (by omega)
 have h1:decide (r<128)=false:=au (by omega)
 simp only [dR,h0,h1,aj,af]
 by_cases hrr:r=65533
 ·have:(r==65533)=true:=bB.2 hrr
  simp only [this,aj,B8 n set h hn,ob]
 ·have:(r==65533)=false:=aN.2 hrr
  simp only [this,af]
  obtain ⟨v,hv⟩:∃v,dJ n r=some v:=by
   unfold dJ
   generalize decide ((0:Int)<=r)=d1
   generalize decide (r<55296)=d2
   generalize decide ((57343:Int)<r)=d3
   generalize decide (r<=1114111)=d4
   cases d1<;>cases d2<;>cases d3<;>cases d4<;>exact ⟨_,rfl⟩
  simp only [hv,ob]
  cases v with
  | false=>rfl
  | true=>
   simp only [dn,af]
   obtain ⟨p,e,hp,hp1,hp3,he⟩:=ID r hr
   simp only [hp]
   have hw:IntKind.wrap .i64 (((p++[e]).length:Nat) - 1:Int)=(p.length:Int):=by
    rw [wrap_i64 _ (by simp<;>omega) (by simp<;>omega)];simp
   rw [hw]
   obtain ⟨m,rfl⟩:∃m,n=m+1:=⟨n - 1,by omega⟩
   have hstep:dB (m+1) (set,p++[e],(p.length:Int),(p.length:Int))=some (.inr (.inl (-1)))\/dB (m+1) (set,p++[e],(p.length:Int),(p.length:Int))=some (.inr (.inr ())):=by
    simp only [dB,iD]
    by_cases hl:p.length<set.length
    ·obtain ⟨c,hc⟩:∃c,set[p.length]?=some c:=⟨set[p.length],bp hl⟩
     have hlow:=JB h hc
     have hpe:(p++[e])[p.length]?=some e:=by simp
     have hne:(((c.toNat:Nat):Int) != ((e.toNat:Nat):Int))=true:=by simp only [bne,kl,aN];omega
     have hw2:IntKind.wrap .i64 ((p.length:Int)+1)=((p.length+1:Nat):Int):=by rw [wrap_i64 _ (by omega) (by omega)];omega
     have hx:e∉List.drop (p.length+1) (List.take set.length set):=by
      intro hm
      have:=h e (by simpa using List.mem_of_mem_drop hm)
      omega
     left
     simp only [hl,nY,aj,eF hc,eF hpe,ob,hne,hw2,gG (show p.length+1<=set.length by omega),gA,xO hx]
    ·right
     simp only [hl,m7,af]
   rcases hstep with hs1 | hs1<;>simp only [am,hs1,ob]
theorem xT (n:Nat) (set:aa) (c:UInt8) (r:Int) (hr:r=((c.toNat:Nat):Int)) (hc:c.toNat<128):dR n set r=some (Lib.indexByte set c):=by
 have h0:decide ((0:Int)<=r)=true:=ar (by omega)
 have h1:decide (r<128)=true:=ar (by omega)
 have hw:IntKind.wrap .u8 r=r:=jR _ (by omega) (by omega)
 have hb:db n set r=some (Lib.indexByte set c):=by rw [hr];exact gA n set c
 simp only [dR,h0,h1,aj,hw,hb,ob]
theorem Ae (n:Nat) (set:aa) (c:UInt8) (hc:c.toNat<128):dR n set ((c.toNat:Nat):Int)=some (Lib.indexByte set c):=xT n set c _ rfl hc
theorem uR (n:Nat) (set:aa) (c:UInt8) (hc:c.toNat<128):dD n set ((c.toNat:Nat):Int)=some (hasB set c):=by
 simp only [dD,Ae n set c hc,ob,pK]
theorem wK (n:Nat) (set:aa) (h:asc set) (hn:set.length<n) (hs:set.length<=100) (r:Int) (hr:128<=r):dD n set r=some false:=by
 simp only [dD,Bq n set h hn hs r hr,ob];rfl
theorem BH (w a:Nat):BitVec.ofInt w (a:Int)=BitVec.ofNat w a:=by
 apply BitVec.eq_of_toNat_eq
 simp
theorem QX (k:Nat):(2:Int) ^ k=((2 ^ k:Nat):Int):=by simp
theorem MU (a k:Nat):Int.fdiv (a:Int) (2 ^ k)=((a / 2 ^ k:Nat):Int):=by
 rw [QX k,Int.fdiv_eq_ediv_of_nonneg _ (Int.natCast_nonneg _)]
 rfl
def inR (lo hi:Int) (c:UInt8):Bool:=decide (((c.toNat:Nat):Int)>=lo)&&decide (((c.toNat:Nat):Int)<=hi)
def cnt (lo hi:Int) (l:aa):Nat:=l.countP (inR lo hi)
theorem KB (lo hi:Int) (l:aa):cnt lo hi l<=l.length:=List.countP_le_length
theorem MC (lo hi:Int) {l:aa} {i:Nat} {c:UInt8} (h:l[i]?=some c):cnt lo hi (l.take (i+1))=cnt lo hi (l.take i)+if inR lo hi c then 1 else 0:=by
 unfold cnt
 rw [oO,h,List.countP_append]
 simp [JA]
theorem E3 (n:Nat) (s:aa) (lo hi:Int) (hs:s.length<n) (hb:s.length<100000):gx n s lo hi=some ((cnt lo hi s:Nat):Int):=by
 have:=fq (step:=gJ n) (λx=>∃i:Nat,i<=s.length/\x=(s,lo,hi,((cnt lo hi (s.take i):Nat):Int),(i:Int))) (λx=>s.length - x.2.2.2.2.toNat) (λ_=>((cnt lo hi s:Nat):Int)) ?_ n (s,lo,hi,0,0) ⟨0,by omega,by simp [cnt]⟩ (by simp;omega)
 ·simp only [gx,this,ob]
 rintro x ⟨i,hi',rfl⟩
 rcases aG i s.length with hlt | hge
 ·obtain ⟨c,hc⟩:∃c,s[i]?=some c:=⟨s[i],bp hlt⟩
  have hct:=MC lo hi hc
  have hle:=KB lo hi (s.take i)
  rw [cO] at hle
  have w1:IntKind.wrap .i64 ((i:Int)+1)=((i+1:Nat):Int):=by rw [wrap_i64 _ (by omega) (by omega)];omega
  have w2:IntKind.wrap .i64 (((cnt lo hi (s.take i):Nat):Int)+1)=((cnt lo hi (s.take i)+1:Nat):Int):=by rw [wrap_i64 _ (by omega) (by omega)];omega
  refine .inl ⟨(s,lo,hi,((cnt lo hi (s.take (i+1)):Nat):Int),((i+1:Nat):Int)),?_,⟨i+1,hlt,rfl⟩,by simp only [bV];omega,rfl⟩
  simp only [gJ,iD,hlt,nY,aj,eF hc,ob,w1,w2]
  rw [hct]
  by_cases h1:((c.toNat:Nat):Int)>=lo
  ·by_cases h2:((c.toNat:Nat):Int)<=hi
   ·simp [h1,h2,inR]
   ·simp [h1,h2,inR]
  ·simp [h1,inR]
 ·have:i=s.length:=by omega
  subst this
  refine .inr ?_
  simp only [gJ,iD,Du,m7,af,oU]
theorem JW (lo hi:Int) (l:aa):cnt lo hi l=l.length↔∀c∈l,inR lo hi c=true:=by
 unfold cnt
 rw [List.countP_eq_length]
theorem M3 (lo hi:Int) (l:aa):cnt lo hi l=0↔∀c∈l,inR lo hi c=false:=by
 unfold cnt
 rw [List.countP_eq_zero]
 simp
def bw (c:UInt8):Bool:=inR 48 57 c
theorem cg (c:UInt8):bw c=true↔48<=c.toNat/\c.toNat<=57:=by
 unfold bw inR
 simp only [az,cb]
 omega
theorem AH (c:UInt8):inR 88 88 c=true↔c=88:=by
 unfold inR
 simp only [az,cb]
 constructor
 ·intro h
  apply gH.1
  show c.toNat=88
  omega
 ·rintro rfl;decide
theorem H5 (c:UInt8):inR 48 48 c=true↔c=48:=by
 unfold inR
 simp only [az,cb]
 constructor
 ·intro h
  apply gH.1
  show c.toNat=48
  omega
 ·rintro rfl;decide
theorem Io:∀l:aa,cnt 48 57 l+cnt 88 88 l<=l.length/\(cnt 48 57 l+cnt 88 88 l=l.length↔∀c∈l,bw c=true\/c=88)
 | []=>by simp [cnt]
 | c::l=>by
  have ih:=Io l
  have e1:cnt 48 57 (c::l)=cnt 48 57 l+if inR 48 57 c then 1 else 0:=by simp [cnt,JA]
  have e2:cnt 88 88 (c::l)=cnt 88 88 l+if inR 88 88 c then 1 else 0:=by simp [cnt,JA]
  have hd:¬(inR 48 57 c=true/\inR 88 88 c=true):=by
   rintro ⟨h1,h2⟩
   have:=(cg c).1 h1
   rw [(AH c).1 h2] at this
   exact absurd this.2 (by decide)
  rw [e1,e2,aD]
  simp only [dl,C7]
  have hx:=AH c
  have hg:bw c=inR 48 57 c:=rfl
  rw [hg]
  cases h1:inR 48 57 c<;>cases h2:inR 88 88 c
  ·simp only [h1,h2] at hx ⊢
   have:c≠88:=λe=>by simpa using hx.2 e
   simp [this];omega
  ·simp only [h1,h2] at hx ⊢
   have:c=88:=hx.1 trivial
   simp only [this,bP,aQ,aE,false_or,js]
   rw [<-ih.2]
   omega
  ·simp only [h1,h2] at hx ⊢
   simp only [bP,aQ,aE,true_or,js]
   rw [<-ih.2]
   omega
  ·exact absurd ⟨h1,h2⟩ hd
theorem IA (n:Nat) (s set:aa) (ha:asc set) (hn:set.length<n) (hl:set.length<=100) (hs:s.length<n):
  ∃y,am (cH n) n (true,set,s,0)=some y/\((y=.inr ()/\s.all (hasB set)=true)\/∃i:Nat,y=.inl (i:Int)/\s.all (hasB set)=false):=by
 refine ra (step:=cH n) (λx=>x.1=true/\x.2.1=set/\x.2.2.1=s/\s.all (hasB set)=(s.drop x.2.2.2).all (hasB set)) (λx=>s.length - x.2.2.2) _ ?_ n _ ⟨rfl,rfl,rfl,rfl⟩ (by simp only;omega)
 rintro ⟨b,st,s',p⟩ ⟨hb,hst,hs',hall⟩
 simp only at hb hst hs' hall
 rw [hb,hst,hs']
 clear hb hst hs' b st s'
 rcases aG p s.length with hlt | hge
 ·obtain ⟨c,hc⟩:∃c,s[p]?=some c:=⟨s[p],bp hlt⟩
  have hbl:Nat.blt p s.length=true:=dG hlt
  rw [ci hc,oG] at hall
  rcases aG c.toNat 128 with h128 | h128
  ·have hd:=Ee hc h128
   simp only [cH,hbl,aj,jH,hd,uR n set c h128,ob]
   cases hh:hasB set c with
   | true=>
    rw [hh,mU] at hall
    exact .inl ⟨_,rfl,⟨rfl,rfl,rfl,hall⟩,by simp only;omega⟩
   | false=>
    rw [hh,Gw] at hall
    exact .inr ⟨_,rfl,.inr ⟨p,rfl,hall⟩⟩
  ·have hd:=FR hc h128
   have hh:hasB set c=false:=by
    unfold hasB
    rw [sK]
    intro x hx he
    simp only [bB] at he
    have:=ha x hx
    rw [he] at this
    omega
   rw [hh,Gw] at hall
   have hcr:=wK n set ha hn hl (((dec s p).1:Nat):Int) (by omega)
   simp only [cH,hbl,aj,jH,hcr,ob]
   exact .inr ⟨_,rfl,.inr ⟨p,rfl,hall⟩⟩
 ·have hbl:Nat.blt p s.length=false:=by
   cases hb:Nat.blt p s.length with
   | false=>rfl
   | true=>exact absurd (aI hb) (by omega)
  simp only [cH,hbl,af]
  rw [jo hge] at hall
  exact .inr ⟨_,rfl,.inl ⟨rfl,by rw [hall];rfl⟩⟩
theorem JK (n:Nat) (s set:aa) (ha:asc set) (hn:set.length<n) (hl:set.length<=100) (hs:s.length<n):gf n s set=some (s.all (hasB set)):=by
 obtain ⟨y,h1,h2⟩:=IA n s set ha hn hl hs
 simp only [gf,kY,kX,h1,ob]
 rcases h2 with ⟨rfl,h3⟩ | ⟨i,rfl,h3⟩
 ·rw [h3];rfl
 ·rw [h3]
  simp only [aq,rZ]
  omega
theorem NB:asc [48,49,50,51,52,53,54,55,56,57]:=by unfold asc;decide
theorem JH:asc [88,48,49,50,51,52,53,54,55,56,57]:=by unfold asc;decide
theorem np (p:UInt8->Bool) (h:∀i:Fin 256,p (UInt8.ofNat i.val)=true) (c:UInt8):p c=true:=by
 have:=h ⟨c.toNat,c.toNat_lt⟩
 simpa using this
theorem wj (c:UInt8):hasB [48,49,50,51,52,53,54,55,56,57] c=bw c:=by
 have:=np (λc=>hasB [48,49,50,51,52,53,54,55,56,57] c==bw c) (by decide +kernel) c
 simpa using this
theorem tV (c:UInt8):hasB [88,48,49,50,51,52,53,54,55,56,57] c=(bw c||c==88):=by
 have:=np (λc=>hasB [88,48,49,50,51,52,53,54,55,56,57] c==(bw c||c==88)) (by decide +kernel) c
 simpa using this
theorem KQ (n:Nat) (s:aa) (hn:100<n) (hs:s.length<n):gf n s [48,49,50,51,52,53,54,55,56,57]=some (s.all bw):=by
 rw [JK n s _ NB (by simp;omega) (by simp) hs]
 congr 2
 funext c
 exact wj c
theorem GX (n:Nat) (s:aa) (hn:100<n) (hs:s.length<n):gf n s [88,48,49,50,51,52,53,54,55,56,57]=some (s.all λc=>bw c||c==88):=by
 rw [JK n s _ JH (by simp;omega) (by simp) hs]
 congr 2
 funext c
 exact tV c
def all0 (s:aa):Bool:=s.all λc=>c==48
theorem Vu (n:Nat) (s:aa) (hs:s.length<n) (hb:s.length<100000):∃y,fU n s 48=some y/\all0 s=all0 y/\y.length<=s.length:=by
 obtain ⟨y,h1,h2⟩:=ra (step:=de n) (λx=>x.2=48/\all0 s=all0 x.1/\x.1.length<=s.length) (λx=>x.1.length) (λy=>all0 s=all0 y/\y.length<=s.length) (by
  rintro ⟨l,c⟩ ⟨rfl,h,hl⟩
  simp only at h hl
  by_cases h0:l.length>0
  ·have d0:decide (((l.length:Nat):Int)>0)=true:=ar (by omega)
   have w1:IntKind.wrap .i64 (((l.length:Nat):Int) - 1)=((l.length - 1:Nat):Int):=by rw [wrap_i64 _ (by omega) (by omega)];omega
   obtain ⟨c,hc⟩:∃c,l[l.length - 1]?=some c:=⟨l[l.length - 1],bp (by omega)⟩
   simp only [de,d0,aj,w1,eF hc,ob]
   by_cases he:c=48
   ·have e1:(((c.toNat:Nat):Int)==48)=true:=by rw [he];rfl
    simp only [e1,aj,gG (show l.length - 1<=l.length by omega),gy]
    refine .inl ⟨(List.take (l.length - 1) l,48),rfl,⟨rfl,?_,by show (List.take (l.length - 1) l).length<=s.length;rw [cO];omega⟩,by show (List.take (l.length - 1) l).length<l.length;rw [cO];omega⟩
    rw [h]
    have:l=l.take (l.length - 1)++[c]:=by
     have h2:=oO (l:=l) (i:=l.length - 1)
     rw [hc,show l.length - 1+1=l.length by omega,oU] at h2
     exact h2
    rw [this]
    simp only [all0,List.all_append,oG,List.all_nil,he]
    simp
   ·have e1:(((c.toNat:Nat):Int)==48)=false:=by
     rw [aN]
     intro e
     exact he (gH.1 (by show c.toNat=48;omega))
    simp only [e1,af]
    exact .inr ⟨_,rfl,h,hl⟩
  ·have d0:decide (((l.length:Nat):Int)>0)=false:=au (by omega)
   simp only [de,d0,af]
   exact .inr ⟨_,rfl,h,hl⟩) n (s,48) ⟨rfl,rfl,aV _⟩ hs
 exact ⟨y,by simp only [fU,h1,ob],h2⟩
theorem Vy (n:Nat) (s:aa) (hs:s.length<n) (hb:s.length<100000):∃y,gC n s 48=some y/\all0 s=(y==[]):=by
 obtain ⟨y,h1,h2⟩:=ra (step:=eY n) (λx=>x.2=48/\all0 s=all0 x.1/\x.1.length<=s.length) (λx=>x.1.length) (λy=>all0 s=(y==[])) (by
  rintro ⟨l,c⟩ ⟨rfl,h,hl⟩
  simp only at h hl
  cases l with
  | nil=>exact .inr ⟨[],rfl,by rw [h];rfl⟩
  | cons c l=>
   have d0:decide ((((c::l).length:Nat):Int)>0)=true:=ar (by simp only [aD];omega)
   have hc:sx (c::l) 0=some c:=by simp [sx]
   simp only [eY,d0,aj,hc,ob]
   by_cases he:c=48
   ·have e1:(((c.toNat:Nat):Int)==48)=true:=by rw [he];rfl
    have hbx:bx (c::l).length 1=some 1:=gG (i:=1) (by simp)
    simp only [e1,aj,hbx,oU,oC,gy]
    refine .inl ⟨_,rfl,⟨rfl,?_,by show l.length<=s.length;simp only [aD] at hl;omega⟩,by simp⟩
    rw [h]
    simp [all0,he]
   ·have e1:(((c.toNat:Nat):Int)==48)=false:=by
     rw [aN]
     intro e
     exact he (gH.1 (by show c.toNat=48;omega))
    simp only [e1,af]
    refine .inr ⟨_,rfl,?_⟩
    rw [h]
    have e2:(c==48)=false:=aN.2 he
    simp [all0,e2]) n (s,48) ⟨rfl,rfl,aV _⟩ hs
 exact ⟨y,by simp only [gC,h1,ob],h2⟩
theorem Qs (n:Nat) (s:aa) (hs:s.length<n) (hb:s.length<100000):∃y,nG n s=some y/\(y==[])=all0 s:=by
 unfold nG
 by_cases h:s=[]
 ·subst h;exact ⟨[],rfl,rfl⟩
 ·have:(s==([]:aa))=false:=aN.2 h
  obtain ⟨y,h1,h2,h3⟩:=Vu n s hs hb
  obtain ⟨z,h4,h5⟩:=Vy n y (by omega) (by omega)
  exact ⟨z,by simp only [this,af,h1,h4,ob],by rw [h2,h5]⟩
theorem NP (s:aa):all0 s=true↔cnt 48 48 s=s.length:=by
 rw [JW]
 unfold all0
 rw [dF]
 constructor
 ·intro h c hc
  have:=h c hc
  rw [bB] at this
  exact (H5 c).2 this
 ·intro h c hc
  rw [bB]
  exact (H5 c).1 (h c hc)
def hasX (s:aa):Bool:=s.any λc=>c==88
theorem Fb (s:aa):hasX s=decide (0<cnt 88 88 s):=by
 have:=M3 88 88 s
 unfold hasX
 cases h:s.any λc=>c==88 with
 | true=>
  obtain ⟨c,hc,he⟩:=tg.1 h
  rw [bB] at he
  symm
  rw [cb]
  rcases zS (cnt 88 88 s) with h0 | h0
  ·have:=this.1 h0 c hc
   rw [(AH c).2 he] at this
   cases this
  ·exact h0
 | false=>
  symm
  rw [rZ]
  intro h0
  have:cnt 88 88 s=0:=this.2 λc hc=>by
   cases hx:inR 88 88 c with
   | false=>rfl
   | true=>
    rw [sK] at h
    exact absurd (bB.2 ((AH c).1 hx)) (h c hc)
  omega
theorem BV (n:Nat) (s:aa):iv n s=some (hasX s):=by
 have e:UInt8.ofNat (Int.toNat 88)=(88:UInt8):=rfl
 have hi:mH n s=some (Lib.indexByte s 88):=by
  simp only [mH,jc,cP,ob,e]
  by_cases h:([88]:aa)=s
  ·subst h;rfl
  ·have:(([88]:aa)==s)=false:=aN.2 h
   simp only [this,af]
 simp only [iv,hi,ob,pK]
 rfl
theorem tC (n:Nat) (g l:Bool) (d:aa) (x q:Int):cS n g l d x q=some (hasX d):=by
 simp only [cS,BV,ob]
theorem n6 (n:Nat) (g l:Bool) (d:aa) (x q:Int) (hs:d.length<n) (hb:d.length<100000):aB n g l d x q=some (if hasX d then 1 else 0):=by
 simp only [aB,E3 n d 88 88 hs hb,ob,Fb,cb]
 by_cases h:0<cnt 88 88 d
 ·have:decide (((cnt 88 88 d:Nat):Int)<1)=false:=au (by omega)
  simp [this,h]
 ·have:decide (((cnt 88 88 d:Nat):Int)<1)=true:=ar (by omega)
  have h0:cnt 88 88 d=0:=by omega
  simp [this,h0]
def uT (acc:Nat) (c:UInt8):Nat:=acc*10+(c.toNat - 48)
def dval (acc:Nat) (l:aa):Nat:=l.foldl uT acc
theorem pJ (acc:Nat):dval acc []=acc:=by unfold dval;rw [GE]
theorem oJ (acc:Nat) (c:UInt8) (l:aa):dval acc (c::l)=dval (uT acc c) l:=by
 unfold dval;rw [uE]
theorem EZ (l:aa) (acc:Nat) (c:UInt8):dval acc (l++[c])=dval acc l*10+(c.toNat - 48):=by
 have:dval acc (l++[c])=uT (dval acc l) c:=by
  unfold dval;rw [FM,uE,GE]
 rw [this]
 rfl
theorem Qz (M:Nat) (hM:10000000000000000000<=M) (l:aa):∀(acc k:Nat),(∀c∈l,bw c=true)->acc<10 ^ k->l.length+k<=18->Lib.parseUintM M acc l=.ok (dval acc l)/\dval acc l<10 ^ (l.length+k):=by
 induction l with
 | nil=>
  intro acc k _ h1 _
  rw [pJ]
  refine ⟨rfl,?_⟩
  simpa using h1
 | cons c l ih=>
  intro acc k h h1 h2
  have hc:=(cg c).1 (h c (by simp))
  simp only [aD] at h2
  have hp:(10:Nat) ^ (k+1)=10 ^ k*10:=rU 10 k
  have hle:(10:Nat) ^ (k+1)<=10 ^ 18:=nW (by decide) (by omega)
  have h18:(10:Nat) ^ 18=1000000000000000000:=by decide
  have hd:uT acc c=acc*10+(c.toNat - 48):=rfl
  have ih:=ih (uT acc c) (k+1) (λd hd=>h d (by simp [hd])) (by omega) (by omega)
  refine ⟨?_,?_⟩
  ·simp only [Lib.parseUintM]
   rw [ae hc,ab (by omega),ab (by omega),<-hd,ih.1,oJ]
  ·rw [oJ,aD,show l.length+1+k=l.length+(k+1) by omega]
   exact ih.2
theorem GU {l:aa} (h:∀c∈l,bw c=true) (h0:l≠[]) (hl:l.length<=18):vT l=some ((dval 0 l:Nat):Int)/\dval 0 l<10 ^ l.length:=by
 obtain ⟨h1,h2⟩:=Qz (2 ^ 64 - 1) (by decide) l 0 0 h (by simp) (by omega)
 refine ⟨?_,by simpa using h2⟩
 have hlt:dval 0 l<10 ^ 18:=qj h2 (nW (by decide) (by omega))
 cases l with
 | nil=>exact absurd rfl h0
 | cons c r=>
  have hc:=(cg c).1 (h c (by simp))
  have hu:Lib.parseUintB 64 (c::r)=.ok (dval 0 (c::r)):=by
   unfold Lib.parseUintB
   rw [ab h0,h1]
  have hs:¬(c.toNat=43\/c.toNat=45):=by omega
  simp only [vT,Lib.parseIntB,hs,aE,hu]
  have h18:(10:Nat) ^ 18=1000000000000000000:=by decide
  have h63:(2:Nat) ^ (64 - 1)=9223372036854775808:=by decide
  have hn:¬c.toNat=45:=by omega
  simp only [hn,Em,js,xJ,aE]
  rw [h63,ab (by omega)]
theorem L8 (n k:Nat) (hk:k<=18) (hn:18<n):oK n (k:Int)=some (((10 ^ k:Nat):Int),0):=by
 have h18:(10:Nat) ^ 18=1000000000000000000:=by decide
 have:=fq (step:=kD n) (λx=>∃i:Nat,i<=k/\x=(((10 ^ i:Nat):Int),(k:Int),(i:Int))) (λx=>k - x.2.2.toNat) (λ_=>((10 ^ k:Nat):Int)) (by
  rintro x ⟨i,hi,rfl⟩
  rcases aG i k with hlt | hge
  ·have hle:(10:Nat) ^ (i+1)<=10 ^ 18:=nW (by decide) (by omega)
   have hp:(10:Nat) ^ (i+1)=10 ^ i*10:=rU 10 i
   have w1:IntKind.wrap .i64 (((10 ^ i:Nat):Int)*10)=((10 ^ (i+1):Nat):Int):=by rw [wrap_i64 _ (by omega) (by omega)];omega
   have w2:IntKind.wrap .i64 ((i:Int)+1)=((i+1:Nat):Int):=by rw [wrap_i64 _ (by omega) (by omega)];omega
   refine .inl ⟨_,?_,⟨i+1,hlt,rfl⟩,by simp only [bV];omega,rfl⟩
   simp only [kD,iD,hlt,nY,aj,w1,w2]
  ·have:i=k:=by omega
   subst this
   refine .inr ?_
   simp only [kD,iD,Du,m7,af]) n (1,(k:Int),0) ⟨0,by omega,rfl⟩ (by simp;omega)
 have d1:decide ((k:Int)<0)=false:=au (by omega)
 have d2:decide ((k:Int)>18)=false:=au (by omega)
 simp only [oK,d1,d2,af,this,ob]
theorem ko (x:Int) (h0:0<=x) (h1:x<18446744073709551616):IntKind.wrap .u64 x=x:=by
 show x%18446744073709551616=x
 omega
theorem EA (x:Int):IntKind.wrap .u64 x=x%18446744073709551616:=rfl
theorem IB {a:Nat} (ha:a<18446744073709551616):bits .and .u64 (a:Int) 4294967295=((a%4294967296:Nat):Int):=by
 show IntKind.wrap .u64 ((BitVec.ofInt 64 (a:Int) &&& BitVec.ofInt 64 ((4294967295:Nat):Int)).toNat:Int)=_
 rw [BH,BH,BitVec.toNat_and,BitVec.toNat_ofNat,BitVec.toNat_ofNat,qK (show a<2 ^ 64 from ha),qK (by decide)]
 have:=Nat.and_two_pow_sub_one_eq_mod a 32
 rw [show (2:Nat) ^ 32 - 1=4294967295 from by decide,show (2:Nat) ^ 32=4294967296 from by decide] at this
 rw [this]
 exact ko _ (by omega) (by omega)
theorem LJ (a:Nat):Int.fdiv (a:Int) (2 ^ 32)=((a / 4294967296:Nat):Int):=by
 rw [MU]
theorem ED {a b A B:Nat} (ha:a<=A) (hb:b<=B):a*b<=A*B:=C9 ha hb
theorem Ll (a b:Nat):a*b=(a / 4294967296)*(b / 4294967296)*18446744073709551616+((a / 4294967296)*(b%4294967296)+(a%4294967296)*(b / 4294967296))*4294967296+(a%4294967296)*(b%4294967296):=by
 have e1:a=(a / 4294967296)*4294967296+a%4294967296:=by omega
 have e2:b=(b / 4294967296)*4294967296+b%4294967296:=by omega
 generalize a / 4294967296=x1 at e1 ⊢
 generalize a%4294967296=x0 at e1 ⊢
 generalize b / 4294967296=y1 at e2 ⊢
 generalize b%4294967296=y0 at e2 ⊢
 subst e1 e2
 rw [gL,Nat.mul_add,Nat.mul_add]
 have h1:x1*4294967296*(y1*4294967296)=x1*y1*18446744073709551616:=by
  rw [Nat.mul_mul_mul_comm]
 have h2:x1*4294967296*y0=x1*y0*4294967296:=by rw [Nat.mul_right_comm]
 have h3:x0*(y1*4294967296)=x0*y1*4294967296:=by rw [DL]
 rw [h1,h2,h3,gL]
 omega
theorem Wi (n a b:Nat) (ha:a<18446744073709551616) (hb:b<18446744073709551616):kB n (a:Int) (b:Int)=some (((a*b / 18446744073709551616:Nat):Int),((a*b%18446744073709551616:Nat):Int)):=by
 have hsp:=Ll a b
 have hx1:a / 4294967296<=4294967295:=by omega
 have hx0:a%4294967296<=4294967295:=by omega
 have hy1:b / 4294967296<=4294967295:=by omega
 have hy0:b%4294967296<=4294967295:=by omega
 have p00:=ED hx0 hy0
 have p01:=ED hx0 hy1
 have p10:=ED hx1 hy0
 have p11:=ED hx1 hy1
 have hlo:IntKind.wrap .u64 ((a:Int)*(b:Int))=((a*b%18446744073709551616:Nat):Int):=by
  rw [EA,<-Gh];omega
 simp only [kB,LJ,IB ha,IB hb,hlo]
 simp only [<-Gh]
 generalize (a / 4294967296)*(b / 4294967296)=q11 at *
 generalize (a / 4294967296)*(b%4294967296)=q10 at *
 generalize (a%4294967296)*(b / 4294967296)=q01 at *
 generalize (a%4294967296)*(b%4294967296)=q00 at *
 generalize a*b=N at *
 have w1:IntKind.wrap .u64 ((q00:Nat):Int)=((q00:Nat):Int):=ko _ (by omega) (by omega)
 have w2:IntKind.wrap .u64 ((q10:Nat):Int)=((q10:Nat):Int):=ko _ (by omega) (by omega)
 have w3:IntKind.wrap .u64 ((q01:Nat):Int)=((q01:Nat):Int):=ko _ (by omega) (by omega)
 have w4:IntKind.wrap .u64 ((q11:Nat):Int)=((q11:Nat):Int):=ko _ (by omega) (by omega)
 rw [w1,w2,w3,w4,LJ q00]
 have w5:IntKind.wrap .u64 (((q10:Nat):Int)+((q00 / 4294967296:Nat):Int))=((q10+q00 / 4294967296:Nat):Int):=by rw [ko _ (by omega) (by omega)];omega
 rw [w5,LJ,IB (by omega)]
 have w6:IntKind.wrap .u64 (((q11:Nat):Int)+(((q10+q00 / 4294967296) / 4294967296:Nat):Int))=((q11+(q10+q00 / 4294967296) / 4294967296:Nat):Int):=by rw [ko _ (by omega) (by omega)];omega
 have w7:IntKind.wrap .u64 ((((q10+q00 / 4294967296)%4294967296:Nat):Int)+((q01:Nat):Int))=(((q10+q00 / 4294967296)%4294967296+q01:Nat):Int):=by rw [ko _ (by omega) (by omega)];omega
 rw [w6,w7,LJ]
 have w8:IntKind.wrap .u64 (((q11+(q10+q00 / 4294967296) / 4294967296:Nat):Int)+((((q10+q00 / 4294967296)%4294967296+q01) / 4294967296:Nat):Int))=((N / 18446744073709551616:Nat):Int):=by
  rw [ko _ (by omega) (by omega)];omega
 rw [w8]
theorem TS (n a b:Nat) (ha:a<9223372036854775808) (hb:b<9223372036854775808):vn n (a:Int) (b:Int)=some (if a*b<9223372036854775808 then (((a*b:Nat):Int),0) else (0,15)):=by
 have d1:decide ((a:Int)<0)=false:=au (by omega)
 have d2:decide ((b:Int)<0)=false:=au (by omega)
 have w1:IntKind.wrap .u64 (a:Int)=a:=ko _ (by omega) (by omega)
 have w2:IntKind.wrap .u64 (b:Int)=b:=ko _ (by omega) (by omega)
 simp only [vn,s8,d1,d2,af,w1,w2,ob,Wi n a b (by omega) (by omega)]
 generalize a*b=N
 by_cases h:18446744073709551616<=N
 ·have d3:decide (((N / 18446744073709551616:Nat):Int)>0)=true:=ar (by omega)
  rw [d3,ab (by omega)]
  rfl
 ·have d3:decide (((N / 18446744073709551616:Nat):Int)>0)=false:=au (by omega)
  have e:N%18446744073709551616=N:=qK (by omega)
  rw [d3,e]
  simp only [af,uQ,dn,sJ,jq,aj]
  by_cases h2:N<9223372036854775808
  ·have d4:decide (((N:Nat):Int)<=9223372036854775807)=true:=ar (by omega)
   rw [d4,ae h2,aj,wrap_i64 _ (by omega) (by omega)]
  ·have d4:decide (((N:Nat):Int)<=9223372036854775807)=false:=au (by omega)
   rw [d4,ab h2,af]
def E16:Nat:=10000000000000000
theorem PM {x:Nat} (hx:17<=x):E16<10 ^ x:=by
 have:(10:Nat) ^ 17<=10 ^ x:=nW (by decide) hx
 have h17:(10:Nat) ^ 17=100000000000000000:=by decide
 unfold E16
 omega
theorem J2 (n:Nat) (g l:Bool) (d:aa) (x:Nat) (s:Int) (hd:∀c∈d,bw c=true) (h0:d≠[]) (hl:d.length<=17) (hx:x<=18) (hn:18<n):
  dK n g l d (x:Int) s=some (if dval 0 d*10 ^ x<=E16 then (((dval 0 d*10 ^ x:Nat):Int),0) else (0,6)):=by
 obtain ⟨h1,h2⟩:=GU hd h0 (by omega)
 have hv:dval 0 d<10 ^ 17:=qj h2 (nW (by decide) hl)
 have hp:(10:Nat) ^ x<=10 ^ 18:=nW (by decide) hx
 have h17:(10:Nat) ^ 17=100000000000000000:=by decide
 have h18:(10:Nat) ^ 18=1000000000000000000:=by decide
 have hb:Nat.ble d.length 9223372036854775806=true:=dG (by omega)
 simp only [dK,hb,aj,h1,ob,L8 n x hx hn,eM,af,TS n _ _ (show dval 0 d<9223372036854775808 by omega) (show 10 ^ x<9223372036854775808 by omega)]
 generalize dval 0 d*10 ^ x=N
 unfold E16
 by_cases h:N<9223372036854775808
 ·rw [ae h]
  simp only [eM,af]
  by_cases h3:N<=10000000000000000
  ·have d1:decide (((N:Nat):Int)>10000000000000000)=false:=au (by omega)
   rw [d1,ae h3,af]
  ·have d1:decide (((N:Nat):Int)>10000000000000000)=true:=ar (by omega)
   rw [d1,ab h3,aj]
 ·rw [ab h,ab (by omega)]
  rfl
def pre (d:aa) (i:Nat):Nat:=dval 0 (d.take i)*10 ^ (i - d.length)
theorem OD {d:aa} {i:Nat} {c:UInt8} (h:d[i]?=some c):pre d (i+1)=10*pre d i+(c.toNat - 48):=by
 have hlt:=sU h
 unfold pre
 rw [oO,h,show i+1 - d.length=0 by omega,show i - d.length=0 by omega]
 simp only [Option.toList,EZ,zR,qf]
 omega
theorem OM {d:aa} {i:Nat} (h:d.length<=i):pre d (i+1)=10*pre d i:=by
 unfold pre
 rw [iP (show d.length<=i+1 by omega),iP h,show i+1 - d.length=(i - d.length)+1 by omega,rU]
 rw [<-DL]
 omega
theorem EB (d:aa):∀k i,pre d i<=pre d (i+k)
 | 0,i=>aV _
 | k+1,i=>by
  have ih:=EB d k i
  rcases aG (i+k) d.length with hlt | hge
  ·have:=OD (bp hlt)
   rw [show i+(k+1)=i+k+1 by omega,this]
   omega
  ·have:=OM hge
   rw [show i+(k+1)=i+k+1 by omega,this]
   omega
theorem jg (n:Nat) (d:aa) (x:Nat) (hd:∀c∈d,bw c=true) (hl:d.length<=100) (hx:x<=100) (hn:d.length+x<n):
  ak n d (x:Int)=some (if dval 0 d*10 ^ x<=E16 then (((dval 0 d*10 ^ x:Nat):Int),1) else (0,0)):=by
 have hend:pre d (d.length+x)=dval 0 d*10 ^ x:=by
  unfold pre
  rw [iP (by omega),show d.length+x - d.length=x by omega]
 have w0:IntKind.wrap .i64 (((d.length:Nat):Int)+(x:Int))=((d.length+x:Nat):Int):=by rw [wrap_i64 _ (by omega) (by omega)];omega
 have:=fq (step:=eT n) (λq=>∃i:Nat,i<=d.length+x/\pre d i<=E16/\q=(d,(x:Int),((pre d i:Nat):Int),(i:Int))) (λq=>d.length+x - q.2.2.2.toNat) (λ_=>if dval 0 d*10 ^ x<=E16 then .inr ((dval 0 d*10 ^ x:Nat):Int) else .inl (0,0)) (by
  rintro q ⟨i,hi,hp,rfl⟩
  simp only [eT,w0,iD]
  unfold E16 at hp ⊢
  have w1:IntKind.wrap .i64 ((i:Int)+1)=((i+1:Nat):Int):=by rw [wrap_i64 _ (by omega) (by omega)];omega
  have w2:IntKind.wrap .i64 (10*((pre d i:Nat):Int))=((10*pre d i:Nat):Int):=by rw [wrap_i64 _ (by omega) (by omega)];omega
  by_cases h1:i<d.length+x
  ·have hm:=EB d (d.length+x - (i+1)) (i+1)
   rw [show i+1+(d.length+x - (i+1))=d.length+x by omega,hend] at hm
   simp only [h1,nY,aj,w1,w2]
   rcases aG i d.length with hlt | hge
   ·obtain ⟨c,hc⟩:∃c,d[i]?=some c:=⟨d[i],bp hlt⟩
    have hdig:=(cg c).1 (hd c (gQ hc))
    have hs:=OD hc
    have w3:IntKind.wrap .u8 (((c.toNat:Nat):Int) - 48)=((c.toNat - 48:Nat):Int):=by rw [jR _ (by omega) (by omega)];omega
    have w4:IntKind.wrap .i64 ((c.toNat - 48:Nat):Int)=((c.toNat - 48:Nat):Int):=wrap_i64 _ (by omega) (by omega)
    have w5:IntKind.wrap .i64 (((10*pre d i:Nat):Int)+((c.toNat - 48:Nat):Int))=((pre d (i+1):Nat):Int):=by rw [wrap_i64 _ (by omega) (by omega)];omega
    simp only [hlt,nY,aj,eF hc,ob,w3,w4,w5]
    by_cases h2:pre d (i+1)<=10000000000000000
    ·have d1:decide (((pre d (i+1):Nat):Int)>10000000000000000)=false:=au (by omega)
     simp only [d1,af]
     exact .inl ⟨_,rfl,⟨i+1,h1,h2,rfl⟩,by simp only [bV];omega,trivial⟩
    ·have d1:decide (((pre d (i+1):Nat):Int)>10000000000000000)=true:=ar (by omega)
     simp only [d1,aj]
     rw [ab (by omega)]
     exact .inr rfl
   ·have hs:=OM hge
    have hnl:¬i<d.length:=by omega
    simp only [hnl,m7,af]
    rw [<-hs]
    by_cases h2:pre d (i+1)<=10000000000000000
    ·have d1:decide (((pre d (i+1):Nat):Int)>10000000000000000)=false:=au (by omega)
     simp only [d1,af]
     exact .inl ⟨_,rfl,⟨i+1,h1,h2,rfl⟩,by simp only [bV];omega,trivial⟩
    ·have d1:decide (((pre d (i+1):Nat):Int)>10000000000000000)=true:=ar (by omega)
     simp only [d1,aj]
     rw [ab (by omega)]
     exact .inr rfl
  ·have:i=d.length+x:=by omega
   subst this
   simp only [Du,m7,af]
   rw [hend] at hp ⊢
   rw [ae hp]
   exact .inr rfl) n (d,(x:Int),0,0) ⟨0,by omega,by unfold pre E16;simp [pJ],by unfold pre;simp [pJ]⟩ (by simp;omega)
 simp only [ak,this,ob]
 by_cases h:dval 0 d*10 ^ x<=E16
 ·rw [ae h,ae h]
 ·rw [ab h,ab h]
def okM (d:aa) (x:Int):Prop:=(∀c∈d,bw c=true)/\1<=d.length/\d.length<=17/\d.head?≠some 48/\0<=x/\x<=16/\¬(x=0/\d.length<5)/\dval 0 d*10 ^ x.toNat<=E16
def okL (d:aa) (x s:Int):Prop:=okM d x/\0<=s/\s<=(d.length:Int)+x
def okS (g:Bool) (d:aa) (x s:Int):Prop:=d.length=4/\(∀c∈d,bw c=true\/c=88)/\x=0/\¬(g=true/\all0 d=true)/\0<=s/\s<=4/\¬(0<s/\hasX d=true)
def okY (g l:Bool) (d:aa) (x s:Int):Prop:=if l=true then okL d x s else okS g d x s
instance (d:aa) (x:Int):Decidable (okM d x):=by unfold okM;infer_instance
instance (d:aa) (x s:Int):Decidable (okL d x s):=by unfold okL;infer_instance
instance (g:Bool) (d:aa) (x s:Int):Decidable (okS g d x s):=by unfold okS;infer_instance
instance (g l:Bool) (d:aa) (x s:Int):Decidable (okY g l d x s):=by unfold okY;infer_instance
theorem IK (d:aa):d.all bw=true↔∀c∈d,bw c=true:=dF
theorem Ge (d:aa):(d.all λc=>bw c||c==88)=true↔∀c∈d,bw c=true\/c=88:=by
 rw [dF]
 constructor
 ·intro h c hc
  have:=h c hc
  simpa using this
 ·intro h c hc
  have:=h c hc
  simpa using this
theorem PY (c:UInt8):(((c.toNat:Nat):Int)==48)=(c==48):=nJ c 48
theorem Qd (n:Nat) (g l:Bool) (d:aa) (x s:Int) (hn:200<n) (hd:d.length<=100):aX n g l d x s=some (decide (okM d x)):=by
 unfold aX
 by_cases h1:d.length<1
 ·have e:decide (((d.length:Nat):Int)<1)=true:=ar (by omega)
  rw [e,au (λh:okM d x=>by have:=h.2.1;omega)];rfl
 ·have e:decide (((d.length:Nat):Int)<1)=false:=au (by omega)
  rw [e,af]
  by_cases h2:d.length>17
  ·have e:decide (((d.length:Nat):Int)>17)=true:=ar (by omega)
   rw [e,au (λh:okM d x=>by have:=h.2.2.1;omega)];rfl
  ·have e:decide (((d.length:Nat):Int)>17)=false:=au (by omega)
   rw [e,af,KQ n d (by omega) (by omega)]
   simp only [ob]
   cases h3:d.all bw with
   | false=>
    rw [au (λh:okM d x=>by rw [(IK d).2 h.1] at h3;cases h3)];rfl
   | true=>
    have hdig:=(IK d).1 h3
    obtain ⟨c,r,rfl⟩:∃c r,d=c::r:=by
     cases d with
     | nil=>simp at h1
     | cons c r=>exact ⟨c,r,rfl⟩
    have hsx:sx (c::r) 0=some c:=by simp [sx]
    simp only [dn,af,hsx,PY]
    by_cases h4:c=48
    ·rw [au (λh:okM (c::r) x=>h.2.2.2.1 (by rw [h4];rfl)),h4];rfl
    ·have e:(c==48)=false:=aN.2 h4
     rw [e,af]
     by_cases h5:x<0
     ·rw [ar h5,au (λh:okM (c::r) x=>by have:=h.2.2.2.2.1;omega)];rfl
     ·rw [au h5,af]
      by_cases h6:x>16
      ·rw [ar h6,au (λh:okM (c::r) x=>by have:=h.2.2.2.2.2.1;omega)];rfl
      ·rw [au h6,af]
       obtain ⟨k,rfl⟩:∃k:Nat,x=(k:Int):=⟨x.toNat,by omega⟩
       have hmg:=J2 n g l (c::r) k s hdig (by simp) (by omega) (by omega) (by omega)
       rw [hmg]
       have key:¬((k:Int)=0/\(c::r).length<5)->(okM (c::r) (k:Int)↔dval 0 (c::r)*10 ^ k<=E16):=by
        intro hk
        constructor
        ·intro h
         simpa using h.2.2.2.2.2.2.2
        ·intro h
         exact ⟨hdig,by omega,by omega,by simpa using h4,by omega,by omega,hk,by simpa using h⟩
       have fin:¬((k:Int)=0/\(c::r).length<5)->(ob (some (if dval 0 (c::r)*10 ^ k<=E16 then (((dval 0 (c::r)*10 ^ k:Nat):Int),(0:Int)) else (0,6))) λq=>(some (q.2==0)))=some (decide (okM (c::r) (k:Int))):=by
        intro hk
        by_cases h7:dval 0 (c::r)*10 ^ k<=E16
        ·rw [ae h7,ar ((key hk).2 h7)];rfl
        ·rw [ab h7,au (λh=>h7 ((key hk).1 h))];rfl
       by_cases h8:(k:Int)=0
       ·have e:((k:Int)==0)=true:=bB.2 h8
        rw [e,aj]
        by_cases h9:(c::r).length<5
        ·have e:decide ((((c::r).length:Nat):Int)<5)=true:=ar (by omega)
         rw [e,au (λh:okM (c::r) (k:Int)=>h.2.2.2.2.2.2.1 ⟨h8,h9⟩)];rfl
        ·have e:decide ((((c::r).length:Nat):Int)<5)=false:=au (by omega)
         rw [e,af]
         exact fin (λh=>h9 h.2)
       ·have e:((k:Int)==0)=false:=aN.2 h8
        rw [e,af]
        exact fin (λh=>h8 h.1)
theorem MA (n:Nat) (g l:Bool) (d:aa) (x s:Int) (hn:200<n) (hd:d.length<=100):
  (ob (aX n g l d x s) λr=>(cond (!r) (some (6:Int)) (cond (decide (s<0)) (some 6) (cond (decide (s>(IntKind.wrap .i64 (((d.length:Nat):Int)+x)))) (some 6) (some 0)))))=some (if okL d x s then 0 else 6):=by
 rw [Qd n g l d x s hn hd]
 simp only [ob]
 by_cases h:okM d x
 ·rw [ar h]
  have hx:=h.2.2.2.2
  have w:IntKind.wrap .i64 (((d.length:Nat):Int)+x)=((d.length:Nat):Int)+x:=wrap_i64 _ (by omega) (by omega)
  rw [w]
  simp only [dn,af,bD]
  by_cases h1:s<0
  ·rw [ae h1,ab (λq:okL d x s=>by have:=q.2.1;omega)]
  ·rw [ab h1]
   by_cases h2:s>((d.length:Nat):Int)+x
   ·rw [ae h2,ab (λq:okL d x s=>by have:=q.2.2;omega)]
   ·rw [ab h2,ae ⟨h,by omega,by omega⟩]
 ·rw [au h,ab (λq:okL d x s=>h q.1)];rfl
theorem zM (n:Nat) (g l:Bool) (d:aa) (x s:Int) (hn:200<n) (hd:d.length<=100):cu n g l d x s=some (if okY g l d x s then 0 else 6):=by
 obtain ⟨y,ht,hy⟩:=Qs n d (by omega) (by omega)
 unfold cu
 rw [GX n d (by omega) (by omega),ht,tC]
 cases l with
 | true=>
  have hok:(if okY g true d x s then (0:Int) else 6)=if okL d x s then 0 else 6:=by simp only [okY,aQ]
  rw [hok]
  have st:=MA n g true d x s hn hd
  simp only [aj]
  generalize (ob (aX n g true d x s) λr=>(cond (!r) (some (6:Int)) (cond (decide (s<0)) (some 6) (cond (decide (s>(IntKind.wrap .i64 (((d.length:Nat):Int)+x)))) (some 6) (some 0)))))=T at st ⊢
  simp only [ob]
  rw [st]
  cases (((d.length:Nat):Int)==4)<;>cases (d.all λc=>bw c||c==88)<;>cases (x==0)<;>cases g<;>cases (y==[])<;>cases (s != 0)<;>rfl
 | false=>
  have hok:(if okY g false d x s then (0:Int) else 6)=if okS g d x s then 0 else 6:=by simp only [okY,bP,aE]
  rw [hok]
  simp only [af,ob]
  by_cases h1:d.length=4
  ·have e1:(((d.length:Nat):Int)==4)=true:=bB.2 (by omega)
   rw [e1,aj]
   cases h2:(d.all λc=>bw c||c==88) with
   | false=>
    rw [ab (λq:okS g d x s=>by rw [(Ge d).2 q.2.1] at h2;cases h2)];rfl
   | true=>
    have hdX:=(Ge d).1 h2
    rw [aj]
    by_cases h3:x=0
    ·subst h3
     have w:IntKind.wrap .i64 (((d.length:Nat):Int)+0)=4:=by rw [h1];decide
     rw [w]
     have tail:¬(g=true/\all0 d=true)->(cond (s != 0) (cond (!(!hasX d)) (some (6:Int)) (cond (decide (s<0)) (some 6) (cond (decide (s>4)) (some 6) (some 0)))) (cond (decide (s<0)) (some 6) (cond (decide (s>4)) (some 6) (some 0))))=some (if okS g d 0 s then 0 else 6):=by
      intro hg
      simp only [bD,vc,Bool.not_not]
      by_cases s0:s=0
      ·subst s0
       rw [ae rfl,ab (by omega),ab (by omega),ae ⟨h1,hdX,rfl,hg,by omega,by omega,by omega⟩]
      ·rw [ab s0]
       cases hX:hasX d with
       | true=>
        by_cases s1:s<0
        ·rw [ab (λq:okS g d 0 s=>by have:=q.2.2.2.2.1;omega)];rfl
        ·rw [ab (λq:okS g d 0 s=>q.2.2.2.2.2.2 ⟨by omega,hX⟩)];rfl
       | false=>
        rw [af]
        by_cases s1:s<0
        ·rw [ae s1,ab (λq:okS g d 0 s=>by have:=q.2.2.2.2.1;omega)]
        ·rw [ab s1]
         by_cases s2:s>4
         ·rw [ae s2,ab (λq:okS g d 0 s=>by have:=q.2.2.2.2.2.1;omega)]
         ·rw [ab s2,ae ⟨h1,hdX,rfl,hg,by omega,by omega,λq=>by rw [hX] at q;cases q.2⟩]
     have e3:((0:Int)==0)=true:=rfl
     rw [e3,aj]
     cases g with
     | false=>
      simp only [af]
      exact tail (by simp)
     | true=>
      simp only [aj]
      rw [hy]
      cases h4:all0 d with
      | true=>rw [ab (λq:okS true d 0 s=>q.2.2.2.1 ⟨rfl,h4⟩)];rfl
      | false=>
       simp only [jq,aj]
       exact tail (by rw [h4];simp)
    ·have e3:(x==0)=false:=aN.2 h3
     rw [e3,ab (λq:okS g d x s=>h3 q.2.2.1)];rfl
  ·have e1:(((d.length:Nat):Int)==4)=false:=aN.2 (by omega)
   rw [e1,ab (λq:okS g d x s=>h1 q.1)];rfl
theorem QE (d:aa):cnt 48 57 d=d.length↔∀c∈d,bw c=true:=JW 48 57 d
theorem Jw (n:Nat) (g l:Bool) (d:aa) (x s:Int) (hn:200<n) (hd:d.length<=100):jM n g l d x s=some (if okY g l d x s then 1 else 0):=by
 have hs:=Io d
 have hXc:=Fb d
 have h0c:=NP d
 have hDc:=QE d
 unfold jM
 rw [E3 n d 48 57 (by omega) (by omega),E3 n d 88 88 (by omega) (by omega),E3 n d 48 48 (by omega) (by omega)]
 simp only [ob]
 generalize hA:cnt 48 57 d=A at *
 generalize hB:cnt 88 88 d=B at *
 have w0:IntKind.wrap .i64 (((A:Nat):Int)+((B:Nat):Int))=((A+B:Nat):Int):=by rw [wrap_i64 _ (by omega) (by omega)];omega
 rw [w0]
 simp only [vc,bD,FN]
 by_cases h1:A+B=d.length
 ·rw [ae (by omega)]
  have hdX:=hs.2.1 h1
  by_cases h2:s<0
  ·rw [ae h2,ab]
   intro q
   unfold okY at q
   split at q
   ·have:=q.2.1;omega
   ·have:=q.2.2.2.2.1;omega
  ·rw [ab h2]
   cases l with
   | false=>
    have hok:(if okY g false d x s then (1:Int) else 0)=if okS g d x s then 1 else 0:=by simp only [okY,bP,aE]
    rw [hok,af]
    by_cases h3:d.length=4
    ·rw [ae (by omega)]
     by_cases h4:x=0
     ·rw [ae h4]
      have tail:¬(g=true/\all0 d=true)->(if s>4 then some (0:Int) else if s>0 then (if ((B:Nat):Int)>0 then some 0 else some 1) else some 1)=some (if okS g d x s then 1 else 0):=by
       intro hg
       by_cases s2:s>4
       ·rw [ae s2,ab (λq:okS g d x s=>by have:=q.2.2.2.2.2.1;omega)]
       ·rw [ab s2]
        by_cases s3:s>0
        ·rw [ae s3]
         by_cases hb:((B:Nat):Int)>0
         ·rw [ae hb,ab (λq:okS g d x s=>q.2.2.2.2.2.2 ⟨by omega,by rw [hXc];exact ar (by omega)⟩)]
         ·rw [ab hb,ae ⟨h3,hdX,h4,hg,by omega,by omega,λq=>by
           have:=q.2
           rw [hXc,cb] at this
           omega⟩]
        ·rw [ab s3,ae ⟨h3,hdX,h4,hg,by omega,by omega,λq=>by omega⟩]
      cases g with
      | false=>rw [af];exact tail (by simp)
      | true=>
       rw [aj,kC]
       by_cases h5:all0 d=true
       ·rw [ae (by have:=h0c.1 h5;omega),ab (λq:okS true d x s=>q.2.2.2.1 ⟨rfl,h5⟩)]
       ·rw [ab (λq=>h5 (h0c.2 (by omega)))]
        exact tail (λq=>h5 q.2)
     ·rw [ab h4,ab (λq:okS g d x s=>h4 q.2.2.1)]
    ·rw [ab (by omega),ab (λq:okS g d x s=>h3 q.1)]
   | true=>
    have hok:(if okY g true d x s then (1:Int) else 0)=if okL d x s then 1 else 0:=by simp only [okY,aQ]
    rw [hok,aj]
    by_cases hb:((B:Nat):Int)>0
    ·rw [ae hb,ab]
     intro q
     have:=hDc.2 q.1.1
     omega
    ·rw [ab hb]
     have hdig:=hDc.1 (by omega)
     by_cases h3:((A:Nat):Int)<1
     ·rw [ae h3,ab (λq:okL d x s=>by have:=q.1.2.1;omega)]
     ·rw [ab h3]
      by_cases h4:((A:Nat):Int)>17
      ·rw [ae h4,ab (λq:okL d x s=>by have:=q.1.2.2.1;omega)]
      ·rw [ab h4]
       obtain ⟨c,r,rfl⟩:∃c r,d=c::r:=by
        cases d with
        | nil=>simp at h1;omega
        | cons c r=>exact ⟨c,r,rfl⟩
       have hsx:sx (c::r) 0=some c:=by simp [sx]
       simp only [hsx,PY,kC]
       by_cases h5:c=48
       ·rw [ae h5,ab (λq:okL (c::r) x s=>q.1.2.2.2.1 (by rw [h5];rfl))]
       ·rw [ab h5]
        by_cases h6:x<0
        ·rw [ae h6,ab (λq:okL (c::r) x s=>by have:=q.1.2.2.2.2.1;omega)]
        ·rw [ab h6]
         by_cases h7:x>16
         ·rw [ae h7,ab (λq:okL (c::r) x s=>by have:=q.1.2.2.2.2.2.1;omega)]
         ·rw [ab h7]
          obtain ⟨k,rfl⟩:∃k:Nat,x=(k:Int):=⟨x.toNat,by omega⟩
          have w1:IntKind.wrap .i64 (((A:Nat):Int)+(k:Int))=((A+k:Nat):Int):=by rw [wrap_i64 _ (by omega) (by omega)];omega
          rw [w1,jg n (c::r) k hdig hd (by omega) (by omega)]
          have hlen:(c::r).length=A:=by omega
          have tail:¬((k:Int)=0/\(c::r).length<5)->(if s>((A+k:Nat):Int) then some (0:Int) else some (if dval 0 (c::r)*10 ^ k<=E16 then (((dval 0 (c::r)*10 ^ k:Nat):Int),(1:Int)) else (0,0)).2)=some (if okL (c::r) (k:Int) s then 1 else 0):=by
           intro hk
           by_cases s2:s>((A+k:Nat):Int)
           ·rw [ae s2,ab (λq:okL (c::r) (k:Int) s=>by have:=q.2.2;rw [hlen] at this;omega)]
           ·rw [ab s2]
            by_cases h8:dval 0 (c::r)*10 ^ k<=E16
            ·rw [ae h8,ae ⟨⟨hdig,by omega,by omega,by simpa using h5,by omega,by omega,hk,by simpa using h8⟩,by omega,by omega⟩]
            ·rw [ab h8,ab (λq:okL (c::r) (k:Int) s=>h8 (by simpa using q.1.2.2.2.2.2.2.2))]
          by_cases h8:(k:Int)=0
          ·rw [ae h8]
           by_cases h9:((A:Nat):Int)<5
           ·rw [ae h9,ab (λq:okL (c::r) (k:Int) s=>q.1.2.2.2.2.2.2.1 ⟨h8,by omega⟩)]
           ·rw [ab h9]
            exact tail (λq=>by omega)
          ·rw [ab h8]
           exact tail (λq=>h8 q.1)
 ·rw [ab (by omega),ab]
  intro q
  apply h1
  rw [hs.2]
  unfold okY at q
  split at q
  ·exact λc hc=>.inl (q.1.1 c hc)
  ·exact q.2.1
theorem KH:∀(l:aa) (acc:Nat),acc*10 ^ l.length<=dval acc l
 | [],acc=>by rw [pJ];simp
 | c::l,acc=>by
  have ih:=KH l (uT acc c)
  rw [oJ,aD,rU]
  have h:acc*10<=uT acc c:=Au _ _
  have h2:=nX (10 ^ l.length) h
  have h3:acc*(10 ^ l.length*10)=acc*10*10 ^ l.length:=by rw [wk (10 ^ l.length) 10,DL]
  omega
theorem tZ:∀(l:aa) (acc k:Nat),(∀c∈l,bw c=true)->acc<10 ^ k->dval acc l<10 ^ (l.length+k)
 | [],acc,k,_,h=>by rw [pJ];simpa using h
 | c::l,acc,k,hd,h=>by
  have hc:=(cg c).1 (hd c (by simp))
  have hp:(10:Nat) ^ (k+1)=10 ^ k*10:=rU 10 k
  have hs:uT acc c=acc*10+(c.toNat - 48):=rfl
  have ih:=tZ l (uT acc c) (k+1) (λd hd'=>hd d (by simp [hd'])) (by omega)
  rw [oJ,aD,show l.length+1+k=l.length+(k+1) by omega]
  exact ih
structure Num (d:aa) (k q:Nat):Prop where
 dig:∀c∈d,bw c=true
 ne:d≠[]
 wide:d.length+k<=17
 small:dval 0 d*10 ^ k<=E16
 sig:q<=d.length+k
theorem E0 {d:aa} (h:∀c∈d,bw c=true):hasX d=false:=by
 unfold hasX
 rw [sK]
 intro c hc he
 rw [bB] at he
 have:=(cg c).1 (h c hc)
 rw [he] at this
 exact absurd this.2 (by decide)
theorem tL {g l:Bool} {d:aa} {x s:Int} (h:okY g l d x s) (hX:hasX d=false):∃k q:Nat,x=(k:Int)/\s=(q:Int)/\Num d k q:=by
 cases l with
 | true=>
  have h:okL d x s:=by simpa [okY] using h
  obtain ⟨⟨h1,h2,h3,h4,h5,h6,h7,h8⟩,h9,h10⟩:=h
  refine ⟨x.toNat,s.toNat,by omega,by omega,h1,by intro e;subst e;simp at h2,?_,h8,by omega⟩
  cases d with
  | nil=>simp at h2
  | cons c r=>
   have hc:=(cg c).1 (h1 c (by simp))
   have hne:c≠48:=by simpa using h4
   have hc0:1<=uT 0 c:=by
    have:c.toNat≠48:=λe=>hne (gH.1 e)
    show 1<=0*10+(c.toNat - 48)
    omega
   have hg:=KH r (uT 0 c)
   rw [<-oJ] at hg
   have h9:10 ^ r.length<=dval 0 (c::r):=by
    have:=nX (10 ^ r.length) hc0
    omega
   have h11:=nX (10 ^ x.toNat) h9
   rw [<-Nat.pow_add] at h11
   rcases aG (r.length+x.toNat) 17 with hlt | hge
   ·simp only [aD];omega
   ·have:=PM hge
    omega
 | false=>
  have h:okS g d x s:=by simpa [okY] using h
  obtain ⟨h1,h2,h3,h4,h5,h6,h7⟩:=h
  have hd:∀c∈d,bw c=true:=by
   intro c hc
   rcases h2 c hc with h | h
   ·exact h
   ·exfalso
    unfold hasX at hX
    rw [sK] at hX
    exact hX c hc (bB.2 h)
  have hlt:=tZ d 0 0 hd (by simp)
  rw [h1] at hlt
  refine ⟨0,s.toNat,by omega,by omega,hd,by intro e;subst e;simp at h1,by omega,?_,by omega⟩
  have h4:(10:Nat) ^ (4+0)=10000:=by decide
  unfold E16
  simp only [zR,qf]
  omega
def val (d:aa) (k:Nat):Nat:=dval 0 d*10 ^ k
theorem Aj (n:Nat) (g l:Bool) (d:aa) (x s:Int) (hn:200<n) (hd:d.length<=100):
  ei n g l d x s=some (if okY g l d x s/\hasX d=false then (if g then -((val d x.toNat:Nat):Int) else ((val d x.toNat:Nat):Int),0) else (0,6)):=by
 unfold ei
 rw [zM n g l d x s hn hd,tC]
 simp only [ob]
 by_cases h:okY g l d x s
 ·rw [ae h]
  cases hX:hasX d with
  | true=>rw [ab (by simp)];rfl
  | false=>
   rw [ae ⟨h,rfl⟩]
   obtain ⟨k,q,rfl,rfl,hN⟩:=tL h hX
   rw [J2 n g l d k q hN.dig hN.ne (by have:=hN.wide;omega) (by have:=hN.wide;omega) (by omega),ae hN.small]
   have hs:=hN.small
   unfold E16 at hs
   cases g with
   | true=>
    simp only [eM,af,aj,bV,val,aQ]
    rw [wrap_i64 _ (by omega) (by omega),yR]
   | false=>simp [val]
 ·rw [ab h,ab (λq=>h q.1)];rfl
theorem bZ {a b:aa} (h:a.length+b.length<=1000000):cat a b=some (a++b):=by
 unfold cat;rw [ae (by omega)]
theorem cut1 {l:aa} {i:Nat} {c:UInt8} (h:l[i]?=some c):List.drop i (List.take (i+1) l)=[c]:=by
 have hlt:=sU h
 rw [oO,h,A7 (by rw [cO];omega)]
 rfl
theorem Qw {l:aa} {i:Nat} {c:UInt8} (h:l[i]?=some c):List.take (i+1) l=List.take i l++[c]:=by
 rw [oO,h];rfl
theorem qe {g l:Bool} {d:aa} {x s:Int} (h:okY g l d x s) (hX:hasX d=true):l=false/\x=0/\s=0/\d.length=4/\∀c∈d,bw c=true\/c=88:=by
 cases l with
 | true=>
  have h:okL d x s:=by simpa [okY] using h
  rw [E0 h.1.1] at hX
  cases hX
 | false=>
  have h:okS g d x s:=by simpa [okY] using h
  obtain ⟨h1,h2,h3,h4,h5,h6,h7⟩:=h
  refine ⟨rfl,h3,?_,h1,h2⟩
  have:¬0<s:=λe=>h7 ⟨e,hX⟩
  omega
theorem ki {g l:Bool} {d:aa} {x s:Int} (h:okY g l d x s):0<=x/\x<=16/\0<=s/\s<=17/\1<=d.length/\d.length<=17:=by
 cases hX:hasX d with
 | true=>
  obtain ⟨rfl,rfl,rfl,hl,_⟩:=qe h hX
  omega
 | false=>
  obtain ⟨k,q,rfl,rfl,hN⟩:=tL h hX
  have h1:=hN.wide
  have h2:=hN.sig
  have h3:1<=d.length:=by
   cases d with
   | nil=>exact absurd rfl hN.ne
   | cons c r=>simp
  omega
theorem Kz {g l:Bool} {d:aa} {x s:Int} (h:okY g l d x s):uI d x s=true:=by
 obtain ⟨h1,h2,h3,h4,h5,h6⟩:=ki h
 unfold uI
 rw [ar (by omega),dG (by omega)]
 rfl
def numU (d:UInt8):aa->Nat⊕(Nat×Nat)
 | []=>.inr (d.toNat - 48,2)
 | e::_=>if bw e=true then .inr (10*(d.toNat - 48)+(e.toNat - 48),3) else .inr (d.toNat - 48,2)
def numT:aa->Nat⊕(Nat×Nat)
 | []=>.inl 1
 | d::r=>if 49<=d.toNat/\d.toNat<=57 then numU d r else .inl 1
def numS (letter:UInt8):aa->Nat⊕(Nat×Nat)
 | []=>.inr (0,0)
 | c::r=>if c=letter then numT r else .inr (0,0)
theorem vz (letter:UInt8):numS letter []=.inr (0,0):=rfl
theorem nk (letter c:UInt8) (r:aa):numS letter (c::r)=if c=letter then numT r else .inr (0,0):=rfl
theorem Ai:numT []=.inl 1:=rfl
theorem oc (d:UInt8) (r:aa):numT (d::r)=if 49<=d.toNat/\d.toNat<=57 then numU d r else .inl 1:=rfl
theorem tH (d:UInt8):numU d []=.inr (d.toNat - 48,2):=rfl
theorem mW (d e:UInt8) (r:aa):numU d (e::r)=if bw e=true then .inr (10*(d.toNat - 48)+(e.toNat - 48),3) else .inr (d.toNat - 48,2):=rfl
theorem yF (c:UInt8) (h:c.toNat<128):(Utf8.encode ((c.toNat:Nat):Int)).data.toList=[c]:=by
 have:=np (λc=>(decide (128<=c.toNat))||(Utf8.encode ((c.toNat:Nat):Int)).data.toList==[c]) (by decide +kernel) c
 simp only [gX,cb,bB] at this
 rcases this with h2 | h2
 ·omega
 ·exact h2
theorem qG {c:UInt8} (h:48<=c.toNat/\c.toNat<=57):Lib.digitVal c=some (c.toNat - 48):=by
 unfold Lib.digitVal;rw [ae h]
theorem yj {c:UInt8} (h:48<=c.toNat/\c.toNat<=57) (r:aa):Lib.atoi (c::r)=(Lib.decNat (c::r)).map λ(m:Nat)=>(m:Int):=by
 have e1:(c==45)=false:=by
  rw [aN];rintro rfl;exact absurd h.1 (by decide)
 have e2:(c==43)=false:=by
  rw [aN];rintro rfl;exact absurd h.1 (by decide)
 simp only [Lib.atoi,e1,e2,bP,aE]
theorem MO {c:UInt8} (h:48<=c.toNat/\c.toNat<=57):Lib.atoi [c]=some ((c.toNat - 48:Nat):Int):=by
 rw [yj h]
 simp only [Lib.decNat,List.isEmpty_cons,bP,aE,Lib.decFrom,qG h,eK,Ap,cY]
theorem Gf {c e:UInt8} (h:48<=c.toNat/\c.toNat<=57) (he:48<=e.toNat/\e.toNat<=57):Lib.atoi [c,e]=some ((10*(c.toNat - 48)+(e.toNat - 48):Nat):Int):=by
 rw [yj h]
 simp only [Lib.decNat,List.isEmpty_cons,bP,aE,Lib.decFrom,qG h,qG he,eK,Ap,cY]
 rw [wk]
theorem yb (c:UInt8):hasB [49,50,51,52,53,54,55,56,57] c=decide (49<=c.toNat/\c.toNat<=57):=by
 have:=np (λc=>hasB [49,50,51,52,53,54,55,56,57] c==decide (49<=c.toNat/\c.toNat<=57)) (by decide +kernel) c
 simpa using this
theorem jQ {p q:UInt8->Bool} (h:∀c,p c=q c):∀(k:Nat) (l:aa),bK p k l=bK q k l
 | 0,_=>by simp [bK]
 | _+1,[]=>by simp [bK]
 | k+1,c::l=>by simp only [bK,h c,jQ h k l]
theorem mZ {S:aa} {a:Nat} {c:UInt8} {r:aa} (h:S.drop a=c::r):a<S.length/\S[a]?=some c/\S.drop (a+1)=r:=by
 have hlt:a<S.length:=by
  rcases aG a S.length with q | q
  ·exact q
  ·rw [jo q] at h;cases h
 have hg:S[a]?=some S[a]:=bp hlt
 have hd:=ci hg
 rw [h] at hd
 injection hd with h1 h2
 exact ⟨hlt,by rw [hg,h1],h2.symm⟩
theorem JL (n:Nat) (letter:UInt8) (S:aa) (at_:Nat) (h:at_<=S.length) (hS:S.length<100000) (hn:S.length<n):
  cR n [letter] S (at_:Int)=some (match numS letter (S.drop at_) with | .inl k=>.inr (((at_+k:Nat):Int),5,S,((at_+k:Nat):Int)) | .inr (v,k)=>.inl ((v:Int),S,((at_+k:Nat):Int))):=by
 unfold cR
 rw [rn n [letter] S at_ h (by omega)]
 cases hd:S.drop at_ with
 | nil=>simp [vz]
 | cons c r=>
  obtain ⟨hlt,hg,hr⟩:=mZ hd
  rw [nk]
  by_cases hc:c=letter
  ·have htk:List.take [letter].length (c::r)=[letter]:=by simp [hc]
   have hl1:at_+[letter].length=at_+1:=rfl
   rw [ae htk,hl1,ae hc]
   clear htk
   simp only [ob,dn,af]
   rw [zL n _ S (at_+1) (by omega) (by omega),hr]
   cases r with
   | nil=>simp [Ai]
   | cons d r2=>
    obtain ⟨hlt2,hg2,hr2⟩:=mZ hr
    rw [oc]
    simp only [yb,cb]
    by_cases hd1:49<=d.toNat/\d.toNat<=57
    ·rw [ae hd1,ae hd1]
     simp only []
     rw [vr n _ 0 1 S (at_+1+1) (by omega) (by omega) hn,hr2]
     have hk:=lu (hasB [48,49,50,51,52,53,54,55,56,57]) (1:Int).toNat r2
     rw [ab (by omega)]
     rw [jQ wj]
     simp only []
     rw [yF d (by omega)]
     have hb1:Nat.ble ([d]:aa).length 18=true:=rfl
     have hb2:∀e:UInt8,Nat.ble ([d,e]:aa).length 18=true:=λ_=>rfl
     have p2:at_+1+1=at_+2:=rfl
     have p3:at_+2+1=at_+3:=rfl
     have ad:=MO (show 48<=d.toNat/\d.toNat<=57 by omega)
     cases r2 with
     | nil=>
      have hs:bK bw (1:Int).toNat []=0:=rfl
      rw [hs,tH]
      rw [bZ (by simp)]
      simp only [List.take_nil,pM,cD,hb1,aj,ad,opt,p2]
     | cons e r3=>
      by_cases he:bw e=true
      ·have hs:bK bw (1:Int).toNat (e::r3)=1:=by
        show bK bw (0+1) (e::r3)=1
        simp [bK,he]
       have ade:=Gf (show 48<=d.toNat/\d.toNat<=57 by omega) ((cg e).1 he)
       rw [hs,mW,ae he]
       have ht:List.take 1 (e::r3)=[e]:=rfl
       rw [ht,bZ (by simp)]
       simp only [fP,dQ,hb2,aj,ade,opt,p2,p3]
      ·have hs:bK bw (1:Int).toNat (e::r3)=0:=by
        show bK bw (0+1) (e::r3)=0
        simp [bK,he]
       rw [hs,mW,ab he]
       have ht:List.take 0 (e::r3)=[]:=rfl
       rw [ht,bZ (by simp)]
       simp only [pM,hb1,aj,ad,opt,cD,p2]
    ·rw [ab hd1,ab hd1]
  ·have e:¬List.take [letter].length (c::r)=[letter]:=by simp [hc]
   rw [ab e,ab hc]
   simp
theorem KI (n:Nat) (letter:UInt8) (S:aa) (at_:Nat) (h:at_<=S.length) (hS:S.length<100000):
  ah n S (at_:Int) ((letter.toNat:Nat):Int)=some (match numS letter (S.drop at_) with | .inl k=>(-1,((at_+k:Nat):Int)) | .inr (v,k)=>((v:Int),((at_+k:Nat):Int))):=by
 unfold ah
 rw [lb]
 cases hd:S.drop at_ with
 | nil=>
  have:S.length<=at_:=by
   rcases aG at_ S.length with q | q
   ·rw [ci (bp q)] at hd;cases hd
   ·exact q
  rw [ar this]
  simp [vz]
 | cons c r=>
  obtain ⟨hlt,hg,hr⟩:=mZ hd
  have w1:IntKind.wrap .i64 ((at_:Int)+1)=((at_+1:Nat):Int):=by rw [wrap_i64 _ (by omega) (by omega)];omega
  have w2:IntKind.wrap .i64 (((at_+1:Nat):Int)+1)=((at_+2:Nat):Int):=by rw [wrap_i64 _ (by omega) (by omega)];omega
  have w3:IntKind.wrap .i64 (((at_+2:Nat):Int)+1)=((at_+3:Nat):Int):=by rw [wrap_i64 _ (by omega) (by omega)];omega
  rw [au (show ¬S.length<=at_ by omega),af,eF hg]
  simp only [ob,w1,w2,w3,lb,iD]
  have hcl:(((c.toNat:Nat):Int) != ((letter.toNat:Nat):Int))=!(c==letter):=by rw [bne,nJ]
  rw [hcl,nk]
  by_cases hc:c=letter
  ·have e:(!(c==letter))=false:=by rw [hc];simp
   rw [e,af,ae hc]
   cases r with
   | nil=>
    have:S.length<=at_+1:=by
     rcases aG (at_+1) S.length with q | q
     ·rw [ci (bp q)] at hr;cases hr
     ·exact q
    rw [ar this];rfl
   | cons d r2=>
    obtain ⟨hlt2,hg2,hr2⟩:=mZ hr
    rw [oc]
    rw [au (show ¬S.length<=at_+1 by omega),af,eF hg2]
    simp only []
    by_cases h1:d.toNat<49
    ·have e1:decide (((d.toNat:Nat):Int)<49)=true:=ar (by omega)
     rw [e1,aj,ab (by omega)]
    ·have e1:decide (((d.toNat:Nat):Int)<49)=false:=au (by omega)
     rw [e1,af]
     by_cases h2:d.toNat>57
     ·have e2:decide (((d.toNat:Nat):Int)>57)=true:=ar (by omega)
      rw [e2,aj,ab (by omega)]
     ·have e2:decide (((d.toNat:Nat):Int)>57)=false:=au (by omega)
      rw [e2,af,ae (by omega)]
      have wd:IntKind.wrap .i64 (IntKind.wrap .u8 (((d.toNat:Nat):Int) - 48))=((d.toNat - 48:Nat):Int):=by
       rw [jR _ (by omega) (by omega),wrap_i64 _ (by omega) (by omega)];omega
      rw [wd]
      cases r2 with
      | nil=>
       have:¬at_+2<S.length:=by
        intro q
        rw [ci (bp (show at_+1+1<S.length from q))] at hr2;cases hr2
       rw [au this,tH];rfl
      | cons e r3=>
       obtain ⟨hlt3,hg3,_⟩:=mZ hr2
       rw [mW]
       rw [ar (show at_+2<S.length from hlt3),aj,eF hg3]
       simp only []
       by_cases h3:e.toNat>=48
       ·have e3:decide (((e.toNat:Nat):Int)>=48)=true:=ar (by omega)
        rw [e3,aj]
        by_cases h4:e.toNat<=57
        ·have e4:decide (((e.toNat:Nat):Int)<=57)=true:=ar (by omega)
         have we:IntKind.wrap .i64 (IntKind.wrap .u8 (((e.toNat:Nat):Int) - 48))=((e.toNat - 48:Nat):Int):=by
          rw [jR _ (by omega) (by omega),wrap_i64 _ (by omega) (by omega)];omega
         have wt:IntKind.wrap .i64 (10*((d.toNat - 48:Nat):Int))=((10*(d.toNat - 48):Nat):Int):=by rw [wrap_i64 _ (by omega) (by omega)];omega
         have ws:IntKind.wrap .i64 (((10*(d.toNat - 48):Nat):Int)+((e.toNat - 48:Nat):Int))=((10*(d.toNat - 48)+(e.toNat - 48):Nat):Int):=by rw [wrap_i64 _ (by omega) (by omega)];omega
         rw [e4,aj,ae ((cg e).2 ⟨h3,h4⟩),we,wt,ws]
        ·have e4:decide (((e.toNat:Nat):Int)<=57)=false:=au (by omega)
         rw [e4,af,ab (λq=>h4 ((cg e).1 q).2)]
       ·have e3:decide (((e.toNat:Nat):Int)>=48)=false:=au (by omega)
        rw [e3,af,ab (λq=>h3 ((cg e).1 q).1)]
  ·have e:(!(c==letter))=true:=by rw [aN.2 hc];rfl
   rw [e,aj,ab hc]
   rfl
def isDX (c:UInt8):Bool:=bw c||c==88
abbrev YR:=Bool×Bool×aa×Nat×Nat×Nat
def tD (g:Bool) (o:Nat):aa->Nat⊕YR
 | []=>.inl o
 | c::r=>if 49<=c.toNat/\c.toNat<=57 then
   (match numS 69 ((c::r).drop (1+bK bw 16 r)) with
   | .inl j=>.inl (o+(1+bK bw 16 r)+j)
   | .inr (x,j)=>(match numS 83 ((c::r).drop (1+bK bw 16 r+j)) with
    | .inl i=>.inl (o+(1+bK bw 16 r)+j+i)
    | .inr (s,i)=>.inr (g,true,(c::r).take (1+bK bw 16 r),x,s,o+(1+bK bw 16 r)+j+i)))
  else .inl o
def uP (g:Bool) (o:Nat) (l:aa):Nat⊕YR:=
 if bK isDX 4 l<4 then .inl (o+bK isDX 4 l) else
  (match numS 83 (l.drop 4) with
  | .inl i=>.inl (o+4+i)
  | .inr (s,i)=>.inr (g,false,l.take 4,0,s,o+4+i))
def fC (c:UInt8) (l:aa):Nat:=if l.take 1=[c] then 1 else 0
def pU (l:aa):Nat⊕YR:=
 if fC 89 l=1 then tD (fC 45 (l.drop 1)==1) (1+fC 45 (l.drop 1)) (l.drop (1+fC 45 (l.drop 1)))
 else uP (fC 45 l==1) (fC 45 l) (l.drop (fC 45 l))
theorem k7 (c:UInt8) (l:aa):fC c l=0\/fC c l=1:=by
 unfold fC;split
 ·exact .inr rfl
 ·exact .inl rfl
theorem zl (c:UInt8) (l:aa):fC c l<=l.length:=by
 unfold fC;split
 ·rename_i h
  cases l with
  | nil=>simp at h
  | cons a l=>simp
 ·omega
theorem tN (n:Nat) (c:UInt8) (S:aa) (at_:Nat) (h:at_<=S.length) (hS:S.length<100000):
  aK n [c] S (at_:Int)=some (fC c (S.drop at_)==1,S,((at_+fC c (S.drop at_):Nat):Int)):=by
 rw [rn n [c] S at_ h (by omega)]
 unfold fC
 have e:[c].length=1:=rfl
 rw [e]
 split<;>rfl
def xU (S:aa) (at_:Nat):Nat⊕YR->(Int×Int×aa×Int)⊕(Bool×Bool×aa×Int×Int×aa×Int)
 | .inl k=>.inl (((at_+k:Nat):Int),5,S,((at_+k:Nat):Int))
 | .inr (g,l,d,x,s,k)=>.inr (g,l,d,(x:Int),(s:Int),S,((at_+k:Nat):Int))
def ov (at_:Nat):Nat⊕YR->Bool×Bool×aa×Int×Int×Int×Int
 | .inl k=>(false,false,[],0,0,((at_+k:Nat):Int),5)
 | .inr (g,l,d,x,s,k)=>(g,l,d,(x:Int),(s:Int),((at_+k:Nat):Int),0)
theorem Qu (letter:UInt8) (l:aa):(match numS letter l with | .inl k=>k<=l.length | .inr (_,k)=>k<=l.length):=by
 cases l with
 | nil=>simp [vz]
 | cons c r=>
  rw [nk]
  by_cases hc:c=letter
  ·rw [ae hc]
   cases r with
   | nil=>simp [Ai]
   | cons d r2=>
    rw [oc]
    by_cases hd:49<=d.toNat/\d.toNat<=57
    ·rw [ae hd]
     cases r2 with
     | nil=>simp [tH]
     | cons e r3=>
      rw [mW]
      by_cases he:bw e=true
      ·rw [ae he];simp
      ·rw [ab he];simp
    ·rw [ab hd];simp
  ·rw [ab hc];simp
theorem yh {letter:UInt8} {S:aa} {a:Nat} (h:a<=S.length) {v k:Nat} (hk:numS letter (S.drop a)=.inr (v,k)):a+k<=S.length:=by
 have:=Qu letter (S.drop a)
 rw [hk,co] at this
 simp only at this
 omega
theorem Qc (n:Nat) (S:aa) (at_ o:Nat) (g:Bool) (h:at_+o<=S.length) (hS:S.length<100000) (hn:S.length<n):
  (ob (cj n [49,50,51,52,53,54,55,56,57] S ((at_+o:Nat):Int)) λy336=>(Sum.casesOn (motive:=λ_=>Option ((Int×Int×aa×Int)⊕(Bool×Bool×aa×Int×Int×aa×Int))) y336 (λa337=>(some (.inl (a337.1,a337.2.1,a337.2.2.1,a337.2.2.2)))) (λb338=>(ob (bS n [48,49,50,51,52,53,54,55,56,57] 0 16 b338.2.1 b338.2.2) λy339=>(Sum.casesOn (motive:=λ_=>Option _) y339 (λa340=>(some (.inl (a340.1,a340.2.1,a340.2.2.1,a340.2.2.2)))) (λb341=>(ob (cat (Utf8.encode b338.1).data.toList b341.1) λs342=>(ob (cR n [69] b341.2.1 b341.2.2) λy343=>(Sum.casesOn (motive:=λ_=>Option _) y343 (λa344=>(ob (cR n [83] a344.2.1 a344.2.2) λy346=>(Sum.casesOn (motive:=λ_=>Option _) y346 (λa347=>(some (.inr (g,true,s342,a344.1,a347.1,a347.2.1,a347.2.2)))) (λb348=>(some (.inl (b348.1,b348.2.1,b348.2.2.1,b348.2.2.2))))))) (λb345=>(some (.inl (b345.1,b345.2.1,b345.2.2.1,b345.2.2.2)))))))))))))=some (xU S at_ (tD g o (S.drop (at_+o)))):=by
 rw [zL n _ S (at_+o) h (by omega)]
 cases hd:S.drop (at_+o) with
 | nil=>simp [tD,xU,ob]
 | cons c r=>
  obtain ⟨hlt,hg,hr⟩:=mZ hd
  simp only [yb,cb]
  by_cases hc:49<=c.toNat/\c.toNat<=57
  ·rw [ae hc]
   simp only [ob]
   rw [vr n _ 0 16 S (at_+o+1) (by omega) (by omega) hn,hr]
   rw [ab (by omega),jQ wj]
   simp only []
   rw [yF c (by omega)]
   have h16:(16:Int).toNat=16:=rfl
   rw [h16]
   have hk:=lu bw 16 r
   have hrl:r.length+(at_+o+1)=S.length:=by
    have:=dm List.length hr
    rw [co] at this
    omega
   rw [bZ (by simp only [aD,bj,cO];omega)]
   simp only [tD]
   rw [ae hc]
   generalize hK:bK bw 16 r=k at hk ⊢
   have e1:[c]++List.take k r=List.take (1+k) (c::r):=by rw [oS];rfl
   rw [e1]
   have hp1:at_+o+1+k<=S.length:=by omega
   have hdr:List.drop (1+k) (c::r)=S.drop (at_+o+1+k):=by
    rw [<-hd,kR];congr 1;omega
   rw [JL n 69 S (at_+o+1+k) hp1 hS hn,<-hdr]
   cases hq:numS 69 (List.drop (1+k) (c::r)) with
   | inl j=>
    simp only [xU]
    have:at_+o+1+k+j=at_+(o+(1+k)+j):=by omega
    rw [this]
   | inr p=>
    obtain ⟨x,j⟩:=p
    have hj:=hq
    rw [hdr] at hj
    have hp2:=yh hp1 hj
    have hdr2:List.drop (1+k+j) (c::r)=S.drop (at_+o+1+k+j):=by
     rw [<-hd,kR];congr 1;omega
    simp only []
    rw [JL n 83 S (at_+o+1+k+j) hp2 hS hn,<-hdr2]
    cases hq2:numS 83 (List.drop (1+k+j) (c::r)) with
    | inl i=>
     simp only [xU]
     have:at_+o+1+k+j+i=at_+(o+(1+k)+j+i):=by omega
     rw [this]
    | inr p2=>
     obtain ⟨s,i⟩:=p2
     simp only [xU]
     have:at_+o+1+k+j+i=at_+(o+(1+k)+j+i):=by omega
     rw [this]
  ·rw [ab hc]
   simp only [ob,tD]
   rw [ab hc]
   rfl
theorem N8 (n:Nat) (S:aa) (at_ o:Nat) (g:Bool) (h:at_+o<=S.length) (hS:S.length<100000) (hn:S.length<n):
  (ob (bS n [88,48,49,50,51,52,53,54,55,56,57] 4 4 S ((at_+o:Nat):Int)) λy349=>(Sum.casesOn (motive:=λ_=>Option ((Int×Int×aa×Int)⊕(Bool×Bool×aa×Int×Int×aa×Int))) y349 (λa350=>(some (.inl (a350.1,a350.2.1,a350.2.2.1,a350.2.2.2)))) (λb351=>(ob (cR n [83] b351.2.1 b351.2.2) λy352=>(Sum.casesOn (motive:=λ_=>Option _) y352 (λa353=>(some (.inr (g,false,b351.1,0,a353.1,a353.2.1,a353.2.2)))) (λb354=>(some (.inl (b354.1,b354.2.1,b354.2.2.1,b354.2.2.2)))))))))=some (xU S at_ (uP g o (S.drop (at_+o)))):=by
 rw [vr n _ 4 4 S (at_+o) h (by omega) hn]
 have hcg:∀c,hasB [88,48,49,50,51,52,53,54,55,56,57] c=isDX c:=tV
 have h4:(4:Int).toNat=4:=rfl
 rw [jQ hcg,h4]
 unfold uP
 have hk:=lu isDX 4 (S.drop (at_+o))
 rw [co] at hk
 by_cases hlt:bK isDX 4 (S.drop (at_+o))<4
 ·rw [ae (by omega),ae hlt]
  simp only [ob,xU]
  rw [gO]
 ·rw [ab (by omega),ab hlt]
  have hle:∀(k:Nat) (l:aa),bK isDX k l<=k:=by
   intro k
   induction k with
   | zero=>intro l;simp [bK]
   | succ k ih=>
    intro l
    cases l with
    | nil=>simp [bK]
    | cons c l=>
     have:=ih l
     simp only [bK]
     split<;>omega
  have he:bK isDX 4 (S.drop (at_+o))=4:=by have:=hle 4 (S.drop (at_+o));omega
  rw [he] at hk ⊢
  simp only [ob]
  have hp:at_+o+4<=S.length:=by omega
  rw [JL n 83 S (at_+o+4) hp hS hn,kR]
  cases hq:numS 83 (S.drop (at_+o+4)) with
  | inl i=>
   simp only [xU]
   have:at_+o+4+i=at_+(o+4+i):=by omega
   rw [this]
  | inr p=>
   obtain ⟨s,i⟩:=p
   simp only [xU]
   have:at_+o+4+i=at_+(o+4+i):=by omega
   rw [this]
   rfl
theorem P2 (n:Nat) (S:aa) (at_:Nat) (h:at_<=S.length) (hS:S.length<100000) (hn:S.length<n):
  lp n S (at_:Int)=some (xU S at_ (pU (S.drop at_))):=by
 unfold lp
 rw [tN n 89 S at_ h hS]
 have hle1:=zl 89 (S.drop at_)
 rw [co] at hle1
 simp only [ob]
 rw [tN n 45 S (at_+fC 89 (S.drop at_)) (by omega) hS]
 have hle2:=zl 45 (S.drop (at_+fC 89 (S.drop at_)))
 rw [co] at hle2
 simp only []
 unfold pU
 rcases k7 89 (S.drop at_) with ht | ht
 ·rw [ht] at hle2 ⊢
  simp only [cD,show ((0:Nat)==1)=false from rfl,af,show ¬((0:Nat)=1) from by decide,aE,kR] at hle2 ⊢
  have:=N8 n S at_ (fC 45 (S.drop at_)) (fC 45 (S.drop at_)==1) (by omega) hS hn
  exact this
 ·rw [ht] at hle2 ⊢
  simp only [show ((1:Nat)==1)=true from rfl,aj,aQ,kR] at hle2 ⊢
  have:=Qc n S at_ (1+fC 45 (S.drop (at_+1))) (fC 45 (S.drop (at_+1))==1) (by omega) hS hn
  rw [<-gO] at this
  rw [<-gO]
  exact this
abbrev stR (S:aa) (a b M:Int) (g L:Bool):aa×Int×Int×Int×Bool×Bool×aa×Int×Int×Bool×Bool×aa×Int×Int:=(S,a,b,M,false,false,[],0,0,g,L,[],0,0)
def isYB (L:Bool) (c:UInt8):Bool:=bw c||(c==88&&!L)
theorem KY (n:Nat) (S:aa) (b M:Nat) (g:Bool) (hM:0<M) (hS:S.length<100000) (h48:S[b]?=some 48):am (ax (n+1)) (n+1) (stR S (b:Int) (b:Int) (M:Int) g true)=some (.inl ((b:Int),5,false,false,[],0,0)):=by
 have hlt:=sU h48
 have d1:decide ((b:Int)<((S.length:Nat):Int))=true:=ar (by omega)
 have w1:IntKind.wrap .i64 ((b:Int) - (b:Int))=0:=by rw [Int.sub_self];rfl
 have d2:decide ((0:Int)<(M:Int))=true:=ar (by omega)
 have e1:decide ((((48:UInt8).toNat:Nat):Int)>=48)=true:=rfl
 have e2:decide ((((48:UInt8).toNat:Nat):Int)<=57)=true:=rfl
 have e3:((((48:UInt8).toNat:Nat):Int)==48)=true:=rfl
 simp only [am,ax,d1,aj,w1,d2,eF h48,ob,e1,e2,e3,uQ]
theorem zG (n:Nat) (S:aa) (b M:Nat) (g L:Bool) (hb:b<=S.length) (hS:S.length<100000) (hn:S.length<n) (h48:¬(L=true/\S[b]?=some 48)):
  am (ax n) n (stR S (b:Int) (b:Int) (M:Int) g L)=some (.inr (S,((b+bK (isYB L) M (S.drop b):Nat):Int),(b:Int),false,false,[],0,0,g,L,[],0,0)):=by
 have:=fq (step:=ax n) (λx=>∃j:Nat,b+j<=S.length/\x=stR S ((b+j:Nat):Int) (b:Int) (M:Int) g L) (λx=>S.length - x.2.1.toNat)
  (λx=>.inr (S,((x.2.1.toNat+bK (isYB L) (M - (x.2.1.toNat - b)) (S.drop x.2.1.toNat):Nat):Int),(b:Int),false,false,[],0,0,g,L,[],0,0)) ?_ n (stR S (b:Int) (b:Int) (M:Int) g L) ⟨0,by omega,rfl⟩ (by simp;omega)
 ·rw [this];simp
 rintro x ⟨j,hj,rfl⟩
 simp only [bV]
 rcases aG (b+j) S.length with hlt | hge
 ·obtain ⟨c,hc⟩:∃c,S[b+j]?=some c:=⟨S[b+j],bp hlt⟩
  have d1:decide (((b+j:Nat):Int)<((S.length:Nat):Int))=true:=ar (by omega)
  have w1:IntKind.wrap .i64 (((b+j:Nat):Int) - (b:Int))=(j:Int):=by rw [wrap_i64 _ (by omega) (by omega)];omega
  have w2:IntKind.wrap .i64 (((b+j:Nat):Int)+1)=((b+(j+1):Nat):Int):=by rw [wrap_i64 _ (by omega) (by omega)];omega
  have hsub:b+j - b=j:=by omega
  rw [ci hc,hsub]
  by_cases hM:j<M
  ·have d2:decide ((j:Int)<(M:Int))=true:=ar (by omega)
   obtain ⟨q,hq⟩:∃q,M - j=q+1:=⟨M - j - 1,by omega⟩
   have hq2:M - (j+1)=q:=by omega
   rw [hq]
   simp only [bK]
   have go:isYB L c=true->ax n (stR S ((b+j:Nat):Int) (b:Int) (M:Int) g L)=some (.inl (stR S ((b+(j+1):Nat):Int) (b:Int) (M:Int) g L)):=by
    intro hy
    by_cases hdg:bw c=true
    ·have hcd:=(cg c).1 hdg
     have e1:decide (((c.toNat:Nat):Int)>=48)=true:=ar (by omega)
     have e2:decide (((c.toNat:Nat):Int)<=57)=true:=ar (by omega)
     simp only [ax,d1,aj,w1,d2,eF hc,ob,e1,e2,w2]
     cases L with
     | false=>rfl
     | true=>
      by_cases hj0:j=0
      ·subst hj0
       have hc48:c≠48:=by
        intro e
        exact h48 ⟨rfl,by rw [<-e];exact hc⟩
       have e3:(((c.toNat:Nat):Int)==48)=false:=by rw [PY];exact aN.2 hc48
       simp only [cD,uQ,aj,e3,af]
      ·have e4:(((b+j:Nat):Int)==(b:Int))=false:=aN.2 (by omega)
       simp only [e4,af,aj]
    ·have hdf:bw c=false:=by cases h:bw c with | false=>rfl | true=>exact absurd h hdg
     unfold isYB at hy
     rw [hdf] at hy
     simp only [xH,az,bB,kl] at hy
     obtain ⟨rfl,rfl⟩:=hy
     have e1:decide ((((88:UInt8).toNat:Nat):Int)>=48)=true:=rfl
     have e2:decide ((((88:UInt8).toNat:Nat):Int)<=57)=false:=rfl
     have e3:((((88:UInt8).toNat:Nat):Int)==88)=true:=rfl
     simp only [ax,d1,aj,w1,d2,eF hc,ob,e1,e2,e3,w2,af,jq]
   have stop:isYB L c=false->ax n (stR S ((b+j:Nat):Int) (b:Int) (M:Int) g L)=some (.inr (.inr (S,((b+j:Nat):Int),(b:Int),false,false,[],0,0,g,L,[],0,0))):=by
    intro hy
    unfold isYB at hy
    simp only [rE,Bc] at hy
    obtain ⟨hdf,hX⟩:=hy
    have hnd:¬(48<=c.toNat/\c.toNat<=57):=λq=>by rw [(cg c).2 q] at hdf;cases hdf
    have hx8:(((c.toNat:Nat):Int)==88)=(c==88):=nJ c 88
    have fin:(cond (c==88) (cond (!L) (0:Nat) 1) 1)=1:=by
     rcases hX with h | h
     ·rw [h];rfl
     ·have:L=true:=by simpa using h
      rw [this];cases c==88<;>rfl
    by_cases h1:c.toNat>=48
    ·have e1:decide (((c.toNat:Nat):Int)>=48)=true:=ar (by omega)
     have e2:decide (((c.toNat:Nat):Int)<=57)=false:=au (by omega)
     simp only [ax,d1,aj,w1,d2,eF hc,ob,e1,e2,af,hx8]
     rcases hX with h | h
     ·rw [h];rfl
     ·have:L=true:=by simpa using h
      rw [this];cases c==88<;>rfl
    ·have e1:decide (((c.toNat:Nat):Int)>=48)=false:=au (by omega)
     simp only [ax,d1,aj,w1,d2,eF hc,ob,e1,af,hx8]
     rcases hX with h | h
     ·rw [h];rfl
     ·have:L=true:=by simpa using h
      rw [this];cases c==88<;>rfl
   cases hy:isYB L c with
   | true=>
    refine .inl ⟨_,go hy,⟨j+1,by omega,rfl⟩,by simp only [bV];omega,?_⟩
    simp only [bV,aQ]
    have e5:b+(j+1) - b=j+1:=by omega
    rw [e5,hq2,show b+(j+1)=b+j+1 by omega]
    have e6:b+j+1+bK (isYB L) q (S.drop (b+j+1))=b+j+(bK (isYB L) q (S.drop (b+j+1))+1):=by omega
    rw [e6]
   | false=>
    refine .inr ?_
    rw [stop hy]
    simp
  ·have d2:decide ((j:Int)<(M:Int))=false:=au (by omega)
   have hz:M - j=0:=by omega
   refine .inr ?_
   rw [hz]
   simp only [ax,d1,aj,w1,d2,af,bK,cD]
 ·have d1:decide (((b+j:Nat):Int)<((S.length:Nat):Int))=false:=au (by omega)
  refine .inr ?_
  rw [jo hge]
  have hz:∀q,bK (isYB L) q []=0:=λq=>by cases q<;>rfl
  simp only [ax,d1,af,hz,cD]
theorem Jz (n:Nat) (S:aa) (at_:Nat) (h:at_<=S.length) (hS:S.length<100000):
  ah n S (at_:Int) 69=some (match numS 69 (S.drop at_) with | .inl k=>(-1,((at_+k:Nat):Int)) | .inr (v,k)=>((v:Int),((at_+k:Nat):Int))):=KI n 69 S at_ h hS
theorem BD (n:Nat) (S:aa) (at_:Nat) (h:at_<=S.length) (hS:S.length<100000):
  ah n S (at_:Int) 83=some (match numS 83 (S.drop at_) with | .inl k=>(-1,((at_+k:Nat):Int)) | .inr (v,k)=>((v:Int),((at_+k:Nat):Int))):=KI n 83 S at_ h hS
noncomputable def Ig (n:Nat) (a0:aa) (B M:Int) (g L:Bool):Option (Bool×Bool×aa×Int×Int×Int×Int):=
 (ob (am (ax n) n (a0,B,B,M,false,false,[],0,0,g,L,[],0,0)) λy559=>(Sum.casesOn (motive:=λ_=>Option (Bool×Bool×aa×Int×Int×Int×Int)) y559 (λa560=>(some (a560.2.2.1,a560.2.2.2.1,a560.2.2.2.2.1,a560.2.2.2.2.2.1,a560.2.2.2.2.2.2,a560.1,a560.2.1))) (λb561=>(cond (decide ((IntKind.wrap .i64 (b561.2.1 - b561.2.2.1))<1)) (some (false,false,[],0,0,b561.2.1,5)) (cond (!b561.2.2.2.2.2.2.2.2.2.1) (cond (decide ((IntKind.wrap .i64 (b561.2.1 - b561.2.2.1))<4)) (some (false,false,[],0,0,b561.2.1,5)) (ob (bx (List.length b561.1) b561.2.1) λj562=>(ob (bx j562 b561.2.2.1) λj563=>(cond b561.2.2.2.2.2.2.2.2.2.1 (ob (ah n b561.1 b561.2.1 69) λr571=>(cond (decide (r571.1<0)) (some (false,false,[],0,0,r571.2,5)) (ob (ah n b561.1 r571.2 83) λr572=>(cond (decide (r572.1<0)) (some (false,false,[],0,0,r572.2,5)) (some (b561.2.2.2.2.2.2.2.2.1,b561.2.2.2.2.2.2.2.2.2.1,(List.drop j563 (List.take j562 b561.1)),r571.1,r572.1,r572.2,0)))))) (ob (ah n b561.1 b561.2.1 83) λr573=>(cond (decide (r573.1<0)) (some (false,false,[],0,0,r573.2,5)) (some (b561.2.2.2.2.2.2.2.2.1,b561.2.2.2.2.2.2.2.2.2.1,(List.drop j563 (List.take j562 b561.1)),b561.2.2.2.2.2.2.2.2.2.2.2.1,r573.1,r573.2,0)))))))) (ob (bx (List.length b561.1) b561.2.1) λj574=>(ob (bx j574 b561.2.2.1) λj575=>(cond b561.2.2.2.2.2.2.2.2.2.1 (ob (ah n b561.1 b561.2.1 69) λr576=>(cond (decide (r576.1<0)) (some (false,false,[],0,0,r576.2,5)) (ob (ah n b561.1 r576.2 83) λr577=>(cond (decide (r577.1<0)) (some (false,false,[],0,0,r577.2,5)) (some (b561.2.2.2.2.2.2.2.2.1,b561.2.2.2.2.2.2.2.2.2.1,(List.drop j575 (List.take j574 b561.1)),r576.1,r577.1,r577.2,0)))))) (ob (ah n b561.1 b561.2.1 83) λr578=>(cond (decide (r578.1<0)) (some (false,false,[],0,0,r578.2,5)) (some (b561.2.2.2.2.2.2.2.2.1,b561.2.2.2.2.2.2.2.2.2.1,(List.drop j575 (List.take j574 b561.1)),b561.2.2.2.2.2.2.2.2.2.2.2.1,r578.1,r578.2,0))))))))))))
theorem Jr (c:UInt8):isYB true c=bw c:=by unfold isYB;cases bw c<;>simp
theorem Hi (c:UInt8):isYB false c=isDX c:=by unfold isYB isDX;simp
theorem pV (p:UInt8->Bool):∀(k:Nat) (l:aa),bK p k l<=k
 | 0,l=>by simp [bK]
 | k+1,[]=>by simp [bK]
 | k+1,c::l=>by
  have:=pV p k l
  simp only [bK]
  split<;>omega
theorem Eu:decide ((-1:Int)<0)=true:=rfl
theorem C5 (x:Nat):decide (((x:Nat):Int)<0)=false:=au (by omega)
theorem K4 (n:Nat) (S:aa) (at_ o:Nat) (g:Bool) (h:at_+o<=S.length) (hS:S.length<100000) (hn:S.length<n):
  Ig n S ((at_+o:Nat):Int) 17 g true=some (ov at_ (tD g o (S.drop (at_+o)))):=by
 unfold Ig
 cases hd:S.drop (at_+o) with
 | nil=>
  have hnone:¬(true=true/\S[at_+o]?=some 48):=by
   rintro ⟨_,q⟩
   rw [ci q] at hd
   cases hd
  have hl:=zG n S (at_+o) 17 g true h hS hn hnone
  rw [hd] at hl
  have hz:bK (isYB true) 17 []=0:=rfl
  rw [hz,cD] at hl
  have hl':am (ax n) n (S,((at_+o:Nat):Int),((at_+o:Nat):Int),(17:Int),false,false,[],0,0,g,true,[],0,0)=_:=hl
  rw [hl']
  have w:IntKind.wrap .i64 (((at_+o:Nat):Int) - ((at_+o:Nat):Int))=0:=by rw [Int.sub_self];rfl
  simp only [ob,w,tD,ov]
  rfl
 | cons c r=>
  obtain ⟨hlt,hg,hr⟩:=mZ hd
  by_cases hc:c=48
  ·subst hc
   obtain ⟨n',rfl⟩:∃q,n=q+1:=⟨n - 1,by omega⟩
   have hl:=KY n' S (at_+o) 17 g (by omega) hS hg
   have hl':am (ax (n'+1)) (n'+1) (S,((at_+o:Nat):Int),((at_+o:Nat):Int),(17:Int),false,false,[],0,0,g,true,[],0,0)=_:=hl
   rw [hl']
   have hno:¬(49<=(48:UInt8).toNat/\(48:UInt8).toNat<=57):=by decide
   simp only [ob,tD,ov]
   rw [ab hno]
  ·have hno:¬(true=true/\S[at_+o]?=some 48):=by
    rintro ⟨_,q⟩
    rw [hg] at q
    exact hc (by simpa using q)
   have hl:=zG n S (at_+o) 17 g true h hS hn hno
   rw [hd,jQ Jr] at hl
   have hk:=lu bw 17 (c::r)
   have hrl:(c::r).length+(at_+o)=S.length:=by
    have:=dm List.length hd
    rw [co] at this
    omega
   have hl':am (ax n) n (S,((at_+o:Nat):Int),((at_+o:Nat):Int),(17:Int),false,false,[],0,0,g,true,[],0,0)=_:=hl
   rw [hl']
   have w:∀k:Nat,k<=17->IntKind.wrap .i64 (((at_+o+k:Nat):Int) - ((at_+o:Nat):Int))=(k:Int):=by
    intro k hk17
    rw [wrap_i64 _ (by omega) (by omega)];omega
   by_cases hdg:bw c=true
   ·have hcd:=(cg c).1 hdg
    have h49:49<=c.toNat/\c.toNat<=57:=by
     have:c.toNat≠48:=λe=>hc (gH.1 e)
     omega
    have hs17:bK bw 17 (c::r)=1+bK bw 16 r:=by
     show bK bw (16+1) (c::r)=_
     simp only [bK,hdg,aQ]
     omega
    rw [hs17] at hk ⊢
    have htop:=pV bw 16 r
    simp only [tD]
    rw [ae h49]
    generalize bK bw 16 r=k at hk htop ⊢
    have d1:decide (((1+k:Nat):Int)<1)=false:=au (by omega)
    simp only [ob,w (1+k) (by omega),d1,af,dn,aj,gG (show at_+o+(1+k)<=S.length by omega),gG (show at_+o<=at_+o+(1+k) by omega)]
    have hp1:at_+o+(1+k)<=S.length:=by omega
    have hdr:S.drop (at_+o+(1+k))=List.drop (1+k) (c::r):=by rw [<-hd,kR]
    rw [Jz n S (at_+o+(1+k)) hp1 hS,hdr,pi,hd]
    cases hq:numS 69 (List.drop (1+k) (c::r)) with
    | inl j=>
     simp only [Eu,aj,ov]
     have:at_+o+(1+k)+j=at_+(o+(1+k)+j):=by omega
     rw [this]
    | inr p=>
     obtain ⟨x,j⟩:=p
     have hj:=hq
     rw [<-hdr] at hj
     have hp2:=yh hp1 hj
     have hdr2:S.drop (at_+o+(1+k)+j)=List.drop (1+k+j) (c::r):=by rw [<-hd,kR];congr 1;omega
     simp only [C5,af]
     rw [BD n S (at_+o+(1+k)+j) hp2 hS,hdr2]
     cases hq2:numS 83 (List.drop (1+k+j) (c::r)) with
     | inl i=>
      simp only [Eu,aj,ov]
      have:at_+o+(1+k)+j+i=at_+(o+(1+k)+j+i):=by omega
      rw [this]
     | inr p2=>
      obtain ⟨s,i⟩:=p2
      simp only [C5,af,ov]
      have:at_+o+(1+k)+j+i=at_+(o+(1+k)+j+i):=by omega
      rw [this]
   ·have hs17:bK bw 17 (c::r)=0:=by
     show bK bw (16+1) (c::r)=0
     simp only [bK]
     rw [ab hdg]
    have h49:¬(49<=c.toNat/\c.toNat<=57):=λq=>hdg ((cg c).2 (by omega))
    rw [hs17]
    simp only [tD]
    rw [ab h49]
    simp only [ob,w 0 (by omega),ov]
    rfl
theorem G7 (n:Nat) (S:aa) (at_ o:Nat) (g:Bool) (h:at_+o<=S.length) (hS:S.length<100000) (hn:S.length<n):
  Ig n S ((at_+o:Nat):Int) 4 g false=some (ov at_ (uP g o (S.drop (at_+o)))):=by
 unfold Ig
 have hl:=zG n S (at_+o) 4 g false h hS hn (by rintro ⟨q,_⟩;cases q)
 rw [jQ Hi] at hl
 have hk:=lu isDX 4 (S.drop (at_+o))
 have htop:=pV isDX 4 (S.drop (at_+o))
 rw [co] at hk
 have hl':am (ax n) n (S,((at_+o:Nat):Int),((at_+o:Nat):Int),(4:Int),false,false,[],0,0,g,false,[],0,0)=_:=hl
 rw [hl']
 unfold uP
 generalize hK:bK isDX 4 (S.drop (at_+o))=k at hk htop ⊢
 have w:IntKind.wrap .i64 (((at_+o+k:Nat):Int) - ((at_+o:Nat):Int))=(k:Int):=by rw [wrap_i64 _ (by omega) (by omega)];omega
 simp only [ob,w,jq,aj,af]
 by_cases h4:k<4
 ·rw [ae h4]
  have e1:decide ((k:Int)<4)=true:=ar (by omega)
  rw [e1]
  have e2:at_+o+k=at_+(o+k):=by omega
  simp only [aj,ov,e2]
  cases decide ((k:Int)<1)<;>rfl
 ·rw [ab h4]
  have hk4:k=4:=by omega
  subst hk4
  have e1:decide (((4:Nat):Int)<4)=false:=rfl
  have e2:decide (((4:Nat):Int)<1)=false:=rfl
  have hp:at_+o+4<=S.length:=by omega
  simp only [e1,e2,af,gG hp,gG (show at_+o<=at_+o+4 by omega)]
  rw [BD n S (at_+o+4) hp hS,pi,kR]
  cases hq:numS 83 (S.drop (at_+o+4)) with
  | inl i=>
   simp only [Eu,aj,ov]
   have:at_+o+4+i=at_+(o+4+i):=by omega
   rw [this]
  | inr p=>
   obtain ⟨s,i⟩:=p
   simp only [C5,af,ov]
   have:at_+o+4+i=at_+(o+4+i):=by omega
   rw [this]
   rfl
theorem kS (c a:UInt8) (l:aa):fC c (a::l)=if a=c then 1 else 0:=by
 unfold fC;simp
theorem xj (c:UInt8):fC c []=0:=by unfold fC;simp
theorem MB (n:Nat) (S:aa) (at_:Nat) (h:at_<=S.length) (hS:S.length<100000) (hn:S.length<n):
  kw n S (at_:Int)=some (ov at_ (pU (S.drop at_))):=by
 have tl:=λo g q=>K4 n S at_ o g q hS hn
 have ts:=λo g q=>G7 n S at_ o g q hS hn
 unfold Ig at tl ts
 have w1:IntKind.wrap .i64 ((at_:Int)+1)=((at_+1:Nat):Int):=by rw [wrap_i64 _ (by omega) (by omega)];omega
 have w2:IntKind.wrap .i64 (((at_+1:Nat):Int)+1)=((at_+2:Nat):Int):=by rw [wrap_i64 _ (by omega) (by omega)];omega
 unfold kw pU
 rw [w1,w2]
 have t0:=ts 0 false (by omega)
 simp only [cD] at t0
 cases hd:S.drop at_ with
 | nil=>
  have hge:¬at_<S.length:=by
   intro q
   rw [ci (bp q)] at hd;cases hd
  rw [iD,au hge,af,af,t0,hd]
  rfl
 | cons c r=>
  obtain ⟨hlt,hg,hr⟩:=mZ hd
  have hc89:(((c.toNat:Nat):Int)==89)=(c==89):=nJ c 89
  have hc45:(((c.toNat:Nat):Int)==45)=(c==45):=nJ c 45
  rw [iD,ar hlt,aj,eF hg]
  simp only [ob]
  rw [hc89,hc45,kS]
  by_cases h89:c=89
  ·have e:(c==89)=true:=bB.2 h89
   rw [e,aj,ae h89,ae rfl,iD]
   have hdd:List.drop 1 (c::r)=r:=rfl
   rw [hdd]
   have t1:=tl 1 false (by omega)
   cases hr':r with
   | nil=>
    rw [hr'] at hr
    have hge:¬at_+1<S.length:=by
     intro q
     rw [ci (bp q)] at hr;cases hr
    simp only [ob] at t1
    rw [au hge,af,t1,hr,xj]
    rfl
   | cons d r2=>
    rw [hr'] at hr
    obtain ⟨hlt2,hg2,hr2⟩:=mZ hr
    have hd45:(((d.toNat:Nat):Int)==45)=(d==45):=nJ d 45
    rw [ar hlt2,aj,eF hg2]
    simp only []
    rw [hd45,kS]
    by_cases h45:d=45
    ·have e2:(d==45)=true:=bB.2 h45
     have t2:=tl 2 true (by omega)
     simp only [ob] at t2
     rw [e2,aj,ae h45,t2]
     rw [show at_+2=at_+1+1 from rfl,hr2]
     rfl
    ·have e2:(d==45)=false:=aN.2 h45
     simp only [ob] at t1
     rw [e2,af,ab h45,t1,hr]
     rfl
  ·have e:(c==89)=false:=aN.2 h89
   rw [e,af,ab h89,ab (by decide),kS]
   by_cases h45:c=45
   ·have e2:(c==45)=true:=bB.2 h45
    have t2:=ts 1 true (by omega)
    simp only [ob] at t2
    rw [e2,ae h45]
    simp only [aj]
    rw [t2,hr]
    rfl
   ·have e2:(c==45)=false:=aN.2 h45
    simp only [ob] at t0
    rw [e2,ab h45]
    simp only [af]
    rw [t0,hd]
    rfl
def wint (c:Int):Bool:=c==24||c==28||c==30
def ui (g:Bool) (d:aa) (x:Int):Bool:=!hasX d&&!g&&decide (val d x.toNat=E16)
def yrB (g:Bool) (d:aa) (x s:Int) (m:aa):Bool:=!(decide (0<s)&&!(m==[]))&&!(wint (sea m)&&ui g d x)
theorem Cj (n:Nat) (hn:200<n) (g l:Bool) (dg:aa) (x q:Int) (m d:aa) (k0 k1 k2:Int) (hm:m.length<=18) (hd:dg.length<=100):
  ft n g l dg x q m d k0 k1 k2=some (if okY g l dg x q then yrB g dg x q m else false):=by
 unfold ft
 rw [zM n g l dg x q hn hd,s9 n g l dg x q m d k0 k1 k2 hm,tC,Aj n g l dg x q hn hd]
 by_cases h:okY g l dg x q
 rotate_left
 ·rw [ab h,ab h];rfl
 rw [ae h,ae h]
 have body:(ob (some (sea m,decide (0<sea m))) λr=>(cond (!r.2) (some true) (ob (some (hasX dg)) λr1=>(cond r1 (some true) (ob (some (if okY g l dg x q/\hasX dg=false then (if g then -((val dg x.toNat:Nat):Int) else ((val dg x.toNat:Nat):Int),(0:Int)) else (0,6))) λr2=>(ob (gZ n r2.1 r.1) λr3=>(some (r3.2.2.2.2==0))))))))=some (!(wint (sea m)&&ui g dg x)):=by
  rcases ou m with h0 | ⟨j,hj,rfl⟩
  ·rw [h0];rfl
  ·have hs:=kV hj
   rw [hs]
   have hp:decide (0<((21+j:Nat):Int))=true:=by simp;omega
   rw [hp]
   cases hX:hasX dg with
   | true=>
    have:ui g dg x=false:=by unfold ui;rw [hX];rfl
    rw [this,Fq]
    rfl
   | false=>
    rw [ae ⟨h,rfl⟩]
    obtain ⟨k,q',rfl,rfl,hN⟩:=tL h hX
    have hv:val dg k<=E16:=hN.small
    unfold E16 at hv
    have hc:dH (if g then -((val dg k:Nat):Int) else ((val dg k:Nat):Int)):=by
     unfold dH
     cases g<;>simp<;>omega
    obtain ⟨a,b,c,e,hr⟩:=Sl n (by omega) hc hj
    simp only [ob,dn,af,bV]
    rw [hr]
    simp only [aq]
    have hw:wint ((21+j:Nat):Int)=decide (j=3\/j=7\/j=9):=by
     unfold wint
     rw [uO]
     simp only [gX,bB,cb]
     omega
    have hl:ui g dg (k:Int)=decide ((if g then -((val dg k:Nat):Int) else ((val dg k:Nat):Int))=10000000000000000):=by
     unfold ui E16
     rw [hX,bV]
     cases g
     ·simp only [jq,mU,bP,aE,nq]
      omega
     ·simp
      omega
    rw [hw,hl]
    by_cases h1:(if g then -((val dg k:Nat):Int) else ((val dg k:Nat):Int))=10000000000000000<;>by_cases h2:j=3\/j=7\/j=9
    ·rw [ae ⟨h1,h2⟩,ar h1,ar h2];rfl
    ·rw [ab (λz=>h2 z.2),au h2];rfl
    ·rw [ab (λz=>h1 z.1),au h1,Fq];rfl
    ·rw [ab (λz=>h1 z.1),au h1,Fq];rfl
 show cond (decide (q>0)) (cond (!(m==[])) (some false) _) _=_
 unfold yrB
 rw [show (decide (q>0))=decide (0<q) from rfl]
 cases decide (0<q) with
 | false=>exact body
 | true=>
  cases (m==[]) with
  | false=>rfl
  | true=>exact body
theorem MN (n:Nat) (hn:200<n) (g l:Bool) (dg:aa) (x q:Int) (m d:aa) (k0 k1 k2:Int) (hd:dg.length<=100):
  ja n g l dg x q m d k0 k1 k2=some (if okY g l dg x q/\yrB g dg x q m=true then 1 else 0):=by
 unfold ja
 rw [Jw n g l dg x q hn hd,oa n (by omega) g l dg x q m d k0 k1 k2,n6 n g l dg x q (by omega) (by omega)]
 by_cases h:okY g l dg x q
 rotate_left
 ·rw [ab h,ab (show ¬(okY g l dg x q/\yrB g dg x q m=true) from λz=>h z.1)];rfl
 rw [ae h]
 have T:(ob (some (if hasX dg then (1:Int) else 0)) λr=>(cond (r==1) (some (1:Int)) (ob (ak n dg x) λv=>(cond (v.1==10000000000000000) (cond (!g) (some 0) (some 1)) (some 1)))))=some (if ui g dg x then 0 else 1):=by
  cases hX:hasX dg with
  | true=>
   have:ui g dg x=false:=by unfold ui;rw [hX];rfl
   rw [this]
   rfl
  | false=>
   obtain ⟨k,q',rfl,rfl,hN⟩:=tL h hX
   have hv:=hN.small
   have hw:=hN.wide
   have hr:=jg n dg k hN.dig (by omega) (by omega) (by omega)
   rw [ae hv] at hr
   show ob (ak n dg (k:Int)) _=_
   rw [hr]
   show cond (((dval 0 dg*10 ^ k:Nat):Int)==10000000000000000) _ _=_
   unfold ui val
   rw [hX,bV]
   have e:(((dval 0 dg*10 ^ k:Nat):Int)==10000000000000000)=decide (dval 0 dg*10 ^ k=E16):=by
    generalize dval 0 dg*10 ^ k=v
    unfold E16
    rw [uO]
    simp only [bB,cb]
    omega
   rw [e]
   cases decide (dval 0 dg*10 ^ k=E16)<;>cases g<;>rfl
 have body:(ob (some (sea m)) λr=>(cond (r != 24) (cond (r != 28) (cond (r != 30) (some (1:Int)) (ob (some (if hasX dg then (1:Int) else 0)) λr=>(cond (r==1) (some (1:Int)) (ob (ak n dg x) λv=>(cond (v.1==10000000000000000) (cond (!g) (some 0) (some 1)) (some 1)))))) (ob (some (if hasX dg then (1:Int) else 0)) λr=>(cond (r==1) (some (1:Int)) (ob (ak n dg x) λv=>(cond (v.1==10000000000000000) (cond (!g) (some 0) (some 1)) (some 1)))))) (ob (some (if hasX dg then (1:Int) else 0)) λr=>(cond (r==1) (some (1:Int)) (ob (ak n dg x) λv=>(cond (v.1==10000000000000000) (cond (!g) (some 0) (some 1)) (some 1)))))))=some (if (!(wint (sea m)&&ui g dg x))=true then 1 else 0):=by
  rw [T]
  show cond (sea m != 24) _ _=_
  unfold wint
  simp only [bne]
  cases (sea m==24)<;>cases (sea m==28)<;>cases (sea m==30)<;>cases ui g dg x<;>rfl
 unfold yrB
 show cond (decide (q>0)) (cond (!(m==[])) (some 0) _) _=_
 rw [show (decide (q>0))=decide (0<q) from rfl]
 simp only [h,js]
 cases decide (0<q) with
 | false=>exact body
 | true=>
  cases (m==[]) with
  | false=>rfl
  | true=>exact body
def da (m d:aa):Nat:=1+(if m==[] then 0 else 1)+(if d==[] then 0 else 1)
theorem sP (n:Nat) (hn:100<n) (g l:Bool) (dg:aa) (x q:Int) (m d:aa) (k0 k1 k2:Int):bv n g l dg x q m d k0 k1 k2=some ((da m d:Nat):Int):=by
 obtain ⟨n,rfl⟩:∃j,n=j+3:=⟨n - 3,by omega⟩
 unfold bv da
 have s0:∀a:Int,bR (n+3) (a,m,d,0)=some (.inl (if m==[] then a else IntKind.wrap .i64 (a+1),m,d,1)):=λa=>by
  unfold bR
  show cond (!(m==[])) _ _=_
  cases (m==[])<;>rfl
 have s1:∀a:Int,bR (n+3) (a,m,d,1)=some (.inl (if d==[] then a else IntKind.wrap .i64 (a+1),m,d,2)):=λa=>by
  unfold bR
  show cond (!(d==[])) _ _=_
  cases (d==[])<;>rfl
 have s2:∀a:Int,bR (n+3) (a,m,d,2)=some (.inr a):=λa=>rfl
 rw [am,s0]
 show ob (am _ (n+2) _) _=_
 rw [am,s1]
 show ob (am _ (n+1) _) _=_
 rw [am,s2]
 cases (m==[])<;>cases (d==[])<;>rfl
theorem nP (n:Nat) (g l:Bool) (dg:aa) (x q:Int) (m d:aa) (k0 k1 k2:Int):aC n g l dg x q m d k0 k1 k2=some ((da m d:Nat):Int):=by
 unfold aC da
 cases (m==[])<;>cases (d==[])<;>rfl
def allM (a b c:Int) (k:Nat):Int:=if 3<a\/3<b\/3<c\/(k<2/\b≠0)\/(k<3/\c≠0) then 9 else 0
theorem E7 (n:Nat) (hn:3<n) (a b c:Int) (k:Nat) (hk:1<=k/\k<=3) (ha:0<=a) (hb:0<=b) (hc:0<=c):
  dx n [a,b,c] (k:Int)=some (allM a b c k)/\bL n [a,b,c] (k:Int)=some (allM a b c k):=by
 obtain ⟨j,rfl⟩:∃j,n=j+4:=⟨n - 4,by omega⟩
 have w1:IntKind.wrap .i64 1=1:=rfl
 have w2:IntKind.wrap .i64 2=2:=rfl
 have w3:IntKind.wrap .i64 3=3:=rfl
 have i0:ix 3 0=some 0:=rfl
 have i1:ix 3 1=some 1:=rfl
 have i2:ix 3 2=some 2:=rfl
 have hk':k=1\/k=2\/k=3:=by omega
 unfold allM
 by_cases cx:a>3
 ·rcases hk' with rfl | rfl | rfl<;>constructor<;>simp [bL,dx,am,di,gY,ij,ob,w1,w2,w3,i0,i1,i2,cx]
 by_cases cy:b>3
 ·rcases hk' with rfl | rfl | rfl<;>constructor<;>simp [bL,dx,am,di,gY,ij,ob,w1,w2,w3,i0,i1,i2,cx,cy]
 by_cases dy:k=1/\b≠0
 ·obtain ⟨rfl,dy⟩:=dy
  have h0:b>0:=by omega
  have eb:(b != 0)=true:=by simp [dy]
  constructor<;>simp [bL,dx,am,di,gY,ij,ob,w1,w2,w3,i0,i1,i2,cx,cy,h0,dy,eb]
 by_cases cz:c>3
 ·rcases hk' with rfl | rfl | rfl<;>(try (simp at dy;subst dy))<;>constructor<;>simp [bL,dx,am,di,gY,ij,ob,w1,w2,w3,i0,i1,i2,cx,cy,cz]
 by_cases dz:k<3/\c≠0
 ·have h0:c>0:=by omega
  have eb:(c != 0)=true:=by simp [dz.2]
  rcases hk' with rfl | rfl | rfl<;>(try (simp at dy;subst dy))<;>simp at dz<;>constructor<;>simp [bL,dx,am,di,gY,ij,ob,w1,w2,w3,i0,i1,i2,cx,cy,cz,h0,dz,eb]
 rcases hk' with rfl | rfl | rfl<;>(try (simp at dy;subst dy))<;>(try (simp at dz;subst dz))<;>constructor<;>simp [bL,dx,am,di,gY,ij,ob,w1,w2,w3,i0,i1,i2,cx,cy,cz]
theorem oi (m d:aa):1<=da m d/\da m d<=3:=by
 unfold da
 cases (m==[])<;>cases (d==[])<;>simp
def yrD (g l:Bool) (dg:aa) (x q:Int) (m:aa):Bool:=if okY g l dg x q then yrB g dg x q m else false
def chkD (g l:Bool) (dg:aa) (x q:Int) (m d:aa) (k0 k1 k2:Int):Int:=
 cond (!(yrD g l dg x q m)) 6 (cond (!(m==[])&&(!(decide (0<sea m))&&!(gW m 12))) 7
  (cond (!(d==[])&&((m==[])||(decide (0<sea m)||!(gW d 31)))) 8 (allM k0 k1 k2 (da m d))))
theorem Ot (m:aa):0<=sea m:=by
 rcases ou m with h | ⟨j,hj,rfl⟩
 ·omega
 ·rw [kV hj];omega
theorem P3 (m:aa):(sea m==0)=!(decide (0<sea m)):=by
 have:=Ot m
 by_cases h:sea m=0
 ·rw [h];rfl
 ·have h2:0<sea m:=by omega
  rw [aN.2 h,ar h2];rfl
theorem AD (n:Nat) (hn:200<n) (g l:Bool) (dg:aa) (x q:Int) (m d:aa) (k0 k1 k2:Int) (hm:m.length<=18) (hd:dg.length<=100) (h0:0<=k0) (h1:0<=k1) (h2:0<=k2):
  iY n g l dg x q m d k0 k1 k2=some (chkD g l dg x q m d k0 k1 k2):=by
 have hy:ft n g l dg x q m d k0 k1 k2=some (yrD g l dg x q m):=Cj n hn g l dg x q m d k0 k1 k2 hm hd
 have a1:cQ n m 12=some (gW m 12):=B6 n (by omega) m 12 (by omega)
 have a2:cQ n d 31=some (gW d 31):=B6 n (by omega) d 31 (by omega)
 have ha:=(E7 n (by omega) k0 k1 k2 (da m d) (oi m d) h0 h1 h2).1
 unfold iY chkD
 rw [s9 n g l dg x q m d k0 k1 k2 hm,hy,a1,a2,sP n (by omega)]
 simp only [ob]
 rw [ha]
 generalize yrD g l dg x q m=b1
 generalize (m==[])=b2
 generalize decide (0<sea m)=b3
 generalize gW m 12=b4
 generalize (d==[])=b5
 generalize gW d 31=b6
 cases b1<;>cases b2<;>cases b3<;>cases b4<;>cases b5<;>cases b6<;>rfl
theorem Dt (n:Nat) (hn:200<n) (g l:Bool) (dg:aa) (x q:Int) (m d:aa) (k0 k1 k2:Int) (hd:dg.length<=100) (h0:0<=k0) (h1:0<=k1) (h2:0<=k2):
  jJ n g l dg x q m d k0 k1 k2=some (chkD g l dg x q m d k0 k1 k2):=by
 have hy:ja n g l dg x q m d k0 k1 k2=some (if yrD g l dg x q m then 1 else 0):=by
  rw [MN n hn g l dg x q m d k0 k1 k2 hd]
  unfold yrD
  by_cases h:okY g l dg x q
  ·simp only [h,js,aQ]
  ·simp only [h,xJ,aE];rfl
 have a1:dA n m 12=some (if gW m 12 then 1 else 0):=F4 n (by omega) m 12 (by omega)
 have a2:dA n d 31=some (if gW d 31 then 1 else 0):=F4 n (by omega) d 31 (by omega)
 have ha:=(E7 n (by omega) k0 k1 k2 (da m d) (oi m d) h0 h1 h2).2
 unfold jJ chkD
 rw [oa n (by omega) g l dg x q m d k0 k1 k2,hy,a1,a2,nP n]
 simp only [ob]
 rw [ha,P3]
 show cond ((if yrD g l dg x q m then (1:Int) else 0)==0) _ (cond _ (cond _ (cond _ _ (cond _ (cond _ _ (cond (decide (0<sea m)) _ _)) _)) (cond _ (cond _ _ (cond (decide (0<sea m)) _ _)) _)) (cond _ (cond _ _ (cond (decide (0<sea m)) _ _)) _))=_
 generalize yrD g l dg x q m=b1
 generalize (m==[])=b2
 generalize decide (0<sea m)=b3
 generalize gW m 12=b4
 generalize (d==[])=b5
 generalize gW d 31=b6
 cases b1<;>cases b2<;>cases b3<;>cases b4<;>cases b5<;>cases b6<;>rfl
theorem Kq {g l:Bool} {dg:aa} {x q:Int} {m d:aa} {k0 k1 k2:Int} (h:chkD g l dg x q m d k0 k1 k2=0):yrD g l dg x q m=true/\(m=[]\/0<sea m\/gW m 12=true)/\(d=[]\/(m≠[]/\sea m=0/\gW d 31=true))/\allM k0 k1 k2 (da m d)=0:=by
 have hs:=Ot m
 unfold chkD at h
 cases b1:yrD g l dg x q m with
 | false=>rw [b1] at h;exact absurd h (by simp)
 | true=>
  rw [b1] at h
  simp only [dn,af] at h
  cases b2:(!(m==[])&&(!(decide (0<sea m))&&!(gW m 12))) with
  | true=>rw [b2] at h;exact absurd h (by simp)
  | false=>
   rw [b2] at h
   simp only [af] at h
   cases b3:(!(d==[])&&((m==[])||(decide (0<sea m)||!(gW d 31)))) with
   | true=>rw [b3] at h;exact absurd h (by simp)
   | false=>
    rw [b3] at h
    simp only [af] at h
    refine ⟨rfl,?_,?_,h⟩
    ·by_cases h1:m=[]
     ·exact .inl h1
     ·by_cases h2:0<sea m
      ·exact .inr (.inl h2)
      ·simp [h1,h2] at b2
       exact .inr (.inr b2)
    ·by_cases h1:d=[]
     ·exact .inl h1
     ·by_cases h2:m=[]
      ·simp [h1,h2] at b3
      ·by_cases h3:0<sea m
       ·simp [h1,h2,h3] at b3
       ·simp [h1,h2,h3] at b3
        exact .inr ⟨h2,by omega,b3⟩
theorem qR {s:aa} {g:Nat} (hg:g<=31) (h:gW s g=true):s.length=2/\∀c∈s,isDX c=true:=by
 unfold gW at h
 obtain ⟨i,hm,hi⟩:=tg.1 h
 have hi31:i<g:=kq.1 hm
 have dig:∀k:Nat,k<10->isDX (UInt8.ofNat (48+k))=true:=by decide
 have h88:isDX 88=true:=by decide
 match s,hi with
 | [],hi=>simp [agr] at hi
 | [_],hi=>simp [agr] at hi
 | [a,b],hi=>
  refine ⟨rfl,?_⟩
  simp only [agr,az,gX,bB] at hi
  obtain ⟨ha,hb⟩:=hi
  intro c hc
  simp only [dl,sC,uy] at hc
  rcases hc with rfl | rfl
  ·rcases ha with rfl | rfl
   ·exact h88
   ·exact dig _ (by omega)
  ·rcases hb with rfl | rfl
   ·exact h88
   ·exact dig _ (by omega)
 | _::_::_::_,hi=>simp [agr] at hi
theorem KD {m:aa} (h:0<sea m):m.length=2/\∀c∈m,isDX c=true:=by
 rcases ou m with h0 | ⟨j,hj,rfl⟩
 ·omega
 ·refine ⟨rfl,?_⟩
  have:((List.range 21).all λj=>(two (21+j)).all isDX)=true:=by decide +kernel
  have:=(dF.1 this) j (by simpa using hj)
  exact dF.1 this
def mt (k:Nat):aa:=if k=1 then [63] else if k=2 then [126] else if k=3 then [37] else []
def mkOf (c:UInt8):Nat:=if c=63 then 1 else if c=126 then 2 else if c=37 then 3 else 0
def Un (k a b c:Nat):Bool:=(decide (k<2)||b==a)&&(decide (k<3)||c==a)
def plA (k a b c:Nat):Nat×Nat×Nat:=if Un k a b c then (0,0,0) else (a,b,c)
def plB (k a b c:Nat):Nat×Nat×Nat:=if Un k a b c then (if k=1 then (a,0,0) else if k=2 then (0,a,0) else (0,0,a)) else (0,0,0)
def l3 (p:Nat×Nat×Nat):List Int:=[(p.1:Int),(p.2.1:Int),(p.2.2:Int)]
def spM (A B:Nat×Nat×Nat):Nat×Nat×Nat:=(A.1 ||| B.1 ||| B.2.1 ||| B.2.2,A.2.1 ||| B.2.1 ||| B.2.2,A.2.2 ||| B.2.2)
theorem CX (n k:Nat) (h:k<4):qT n (k:Int)=some (mt k,0)/\cv n (k:Int)=some (mt k):=by
 have:k=0\/k=1\/k=2\/k=3:=by omega
 rcases this with rfl | rfl | rfl | rfl<;>exact ⟨rfl,rfl⟩
noncomputable def Rt (m j:Nat):Bool:=
 (oY (m+300) (j:Int)==some (((mkOf (UInt8.ofNat j):Nat):Int),decide (0<mkOf (UInt8.ofNat j))))&&(ky (m+300) (j:Int)==some ((mkOf (UInt8.ofNat j):Nat):Int))
theorem LR (m:Nat):(List.range 256).all (Rt m)=true:=by kernel_rfl
theorem La (m:Nat) (c:UInt8):oY (m+300) ((c.toNat:Nat):Int)=some (((mkOf c:Nat):Int),decide (0<mkOf c))/\ky (m+300) ((c.toNat:Nat):Int)=some ((mkOf c:Nat):Int):=by
 have h:=(dF.1 (LR m)) c.toNat (kq.2 c.toNat_lt)
 unfold Rt at h
 rw [show UInt8.ofNat c.toNat=c by simp] at h
 simp only [az,bB] at h
 exact h
noncomputable def Lh (m k a b c:Nat):Bool:=
 (o9 (m+300) [(a:Int),(b:Int),(c:Int)] (k:Int)==some (l3 (plA k a b c),l3 (plB k a b c),0))&&(jN (m+300) [(a:Int),(b:Int),(c:Int)] (k:Int)==some (l3 (plA k a b c),l3 (plB k a b c)))
theorem TG (m:Nat):((List.range 4).all λa=>Lh m 1 a 0 0)=true:=by kernel_rfl
theorem S3 (m:Nat):((List.range 4).all λa=>(List.range 4).all λb=>Lh m 2 a b 0)=true:=by kernel_rfl
theorem SR (m:Nat):((List.range 4).all λa=>(List.range 4).all λb=>(List.range 4).all λc=>Lh m 3 a b c)=true:=by kernel_rfl
theorem r4 {p:Nat->Bool} (h:(List.range 4).all p=true) {a:Nat} (ha:a<4):p a=true:=(dF.1 h) a (kq.2 ha)
theorem SN (m k a b c:Nat) (hk:1<=k/\k<=3) (ha:a<4) (hb:b<4) (hc:c<4) (h1:k<2->b=0) (h2:k<3->c=0):
  o9 (m+300) [(a:Int),(b:Int),(c:Int)] (k:Int)=some (l3 (plA k a b c),l3 (plB k a b c),0)/\jN (m+300) [(a:Int),(b:Int),(c:Int)] (k:Int)=some (l3 (plA k a b c),l3 (plB k a b c)):=by
 have h:Lh m k a b c=true:=by
  have:k=1\/k=2\/k=3:=by omega
  rcases this with rfl | rfl | rfl
  ·rw [h1 (by omega),h2 (by omega)];exact r4 (TG m) ha
  ·rw [h2 (by omega)];exact r4 (r4 (S3 m) ha) hb
  ·exact r4 (r4 (r4 (SR m) ha) hb) hc
 unfold Lh at h
 simp only [az,bB] at h
 exact h
theorem Qe {k a b c:Nat} (ha:a<4) (hb:b<4) (hc:c<4):(plA k a b c).1<4/\(plA k a b c).2.1<4/\(plA k a b c).2.2<4/\(plB k a b c).1<4/\(plB k a b c).2.1<4/\(plB k a b c).2.2<4:=by
 unfold plA plB
 split
 ·split
  ·simp [ha]
  ·split<;>simp [ha]
 ·simp [ha,hb,hc]
def inM (k:Nat) (A:Nat×Nat×Nat):Prop:=A.1<4/\A.2.1<4/\A.2.2<4/\(k<2->A.2.1=0)/\(k<3->A.2.2=0)
theorem xg {k:Nat} {A:Nat×Nat×Nat} (h:inM k A):allM (A.1:Int) (A.2.1:Int) (A.2.2:Int) k=0:=by
 obtain ⟨h0,h1,h2,h3,h4⟩:=h
 unfold allM
 rw [ab (by omega)]
theorem or4 {a b:Nat} (ha:a<4) (hb:b<4):bits .or .u8 (a:Int) (b:Int)=((a ||| b:Nat):Int)/\a ||| b<4:=by
 have:((List.range 4).all λa=>(List.range 4).all λb=>bits .or .u8 (a:Int) (b:Int)==((a ||| b:Nat):Int)&&decide (a ||| b<4))=true:=by decide +kernel
 have:=r4 (r4 this ha) hb
 simpa using this
theorem vX (n:Nat) (hn:9<n) (k:Nat) (A B:Nat×Nat×Nat) (hk:1<=k/\k<=3) (hA:inM k A) (hB:inM k B):ek n (l3 A) (l3 B) (k:Int)=some (l3 (spM A B),0):=by
 obtain ⟨n,rfl⟩:∃j,n=j+5:=⟨n - 5,by omega⟩
 have eA:=(E7 (n+5) (by omega) (A.1:Int) (A.2.1:Int) (A.2.2:Int) k hk (by omega) (by omega) (by omega)).1
 have eB:=(E7 (n+5) (by omega) (B.1:Int) (B.2.1:Int) (B.2.2:Int) k hk (by omega) (by omega) (by omega)).1
 rw [xg hA] at eA
 rw [xg hB] at eB
 have h0:∀x:Nat,x<4->bits .or .u8 0 (x:Int)=(x:Int):=λx hx=>by
  have:=(or4 (show 0<4 by omega) hx).1
  simpa using this
 have oo:∀x y:Nat,x<4->y<4->bits .or .u8 (x:Int) (y:Int)=((x ||| y:Nat):Int):=λx y hx hy=>(or4 hx hy).1
 have ol:∀x y:Nat,x<4->y<4->x ||| y<4:=λx y hx hy=>(or4 hx hy).2
 unfold ek
 show ob (dx (n+5) [(A.1:Int),(A.2.1:Int),(A.2.2:Int)] (k:Int)) _=_
 rw [eA]
 show ob (dx (n+5) [(B.1:Int),(B.2.1:Int),(B.2.2:Int)] (k:Int)) _=_
 rw [eB]
 obtain ⟨a0,a1,a2⟩:=A
 obtain ⟨b0,b1,b2⟩:=B
 obtain ⟨g0,g1,g2,g3,g4⟩:=hA
 obtain ⟨f0,f1,f2,f3,f4⟩:=hB
 simp only at g0 g1 g2 g3 g4 f0 f1 f2 f3 f4
 have hk':k=1\/k=2\/k=3:=by omega
 rcases hk' with rfl | rfl | rfl
 ·obtain rfl:=g3 (by omega)
  obtain rfl:=g4 (by omega)
  obtain rfl:=f3 (by omega)
  obtain rfl:=f4 (by omega)
  show some (([bits .or .u8 (a0:Int) (bits .or .u8 0 (b0:Int)),0,0]:List Int),(0:Int))=_
  rw [h0 b0 f0,oo _ _ g0 f0]
  simp [l3,spM]
 ·obtain rfl:=g4 (by omega)
  obtain rfl:=f4 (by omega)
  show some (([bits .or .u8 (a0:Int) (bits .or .u8 (bits .or .u8 0 (b1:Int)) (b0:Int)),bits .or .u8 (a1:Int) (bits .or .u8 0 (b1:Int)),0]:List Int),(0:Int))=_
  rw [h0 b1 f1,oo _ _ f1 f0,oo _ _ g0 (ol _ _ f1 f0),oo _ _ g1 f1]
  simp [l3,spM,Nat.or_assoc,AT b1 b0]
 ·show some (([bits .or .u8 (a0:Int) (bits .or .u8 (bits .or .u8 (bits .or .u8 0 (b2:Int)) (b1:Int)) (b0:Int)),bits .or .u8 (a1:Int) (bits .or .u8 (bits .or .u8 0 (b2:Int)) (b1:Int)),bits .or .u8 (a2:Int) (bits .or .u8 0 (b2:Int))]:List Int),(0:Int))=_
  rw [h0 b2 f2,oo _ _ f2 f1,oo _ _ (ol _ _ f2 f1) f0,oo _ _ g0 (ol _ _ (ol _ _ f2 f1) f0),oo _ _ g1 (ol _ _ f2 f1),oo _ _ g2 f2]
  have e1:a0 ||| (b2 ||| b1 ||| b0)=a0 ||| b0 ||| b1 ||| b2:=by rw [AT (b2 ||| b1) b0,AT b2 b1];simp only [Nat.or_assoc]
  have e2:a1 ||| (b2 ||| b1)=a1 ||| b1 ||| b2:=by rw [AT b2 b1];simp only [Nat.or_assoc]
  rw [e1,e2]
  rfl
abbrev cI (x:Nat):Int:=(x:Int)
def bt (b a:Nat):Nat:=if b=1 then a%2 else a / 2%2
theorem OA (n:Nat) {a b:Nat} (ha:a<4) (hb:b=1\/b=2):iE n (a:Int) (b:Int)=some ((bt b a:Nat):Int):=by
 have h:a=0\/a=1\/a=2\/a=3:=by omega
 rcases h with rfl | rfl | rfl | rfl<;>rcases hb with rfl | rfl<;>rfl
theorem Qi (b a:Nat):bt b a<=1:=by unfold bt;split<;>omega
def bts (b:Nat):List Nat->Nat
 | []=>0
 | x::l=>bt b x+bts b l
theorem Wj (n k b i:Nat) (hb:b=1\/b=2) (hk:k<=3) (A X Y:List Int) (bl:List Nat) (hl:bl.length=3) (h4:∀x∈bl,x<4):∀(r j acc:Nat),j+r=k->acc<=j+1->∀N,r<N->
  am (bX n) N ((k:Int),(b:Int),(i:Int),(acc:Int),(j:Int),A,bl.map cI,X,Y)=some ((k:Int),(b:Int),(i:Int),((acc+bts b ((bl.take k).drop j):Nat):Int),A,bl.map cI,X,Y):=by
 intro r
 induction r with
 | zero=>
  intro j acc hj hacc N hN
  obtain ⟨N,rfl⟩:∃k,N=k+1:=⟨N - 1,by omega⟩
  have s:bX n ((k:Int),(b:Int),(i:Int),(acc:Int),(j:Int),A,bl.map cI,X,Y)=some (.inr ((k:Int),(b:Int),(i:Int),(acc:Int),A,bl.map cI,X,Y)):=by
   unfold bX
   rw [bD,ab (show ¬((j:Int)<(k:Int)) by omega)]
  have e:(bl.take k).drop j=[]:=jo (by rw [cO];omega)
  rw [am,s,e]
  rfl
 | succ r ih=>
  intro j acc hj hacc N hN
  obtain ⟨N,rfl⟩:∃k,N=k+1:=⟨N - 1,by omega⟩
  have hjl:j<bl.length:=by omega
  obtain ⟨x,hx⟩:∃x,bl[j]?=some x:=⟨bl[j],bp hjl⟩
  have hxm:(bl.map cI)[j]?=some (x:Int):=by rw [my,hx];rfl
  have hx4:=h4 x (gQ hx)
  have w:IntKind.wrap .i64 ((acc:Int)+((bt b x:Nat):Int))=((acc+bt b x:Nat):Int):=by have:=Qi b x;rw [wrap_i64 _ (by omega) (by omega)];omega
  have w2:IntKind.wrap .i64 ((j:Int)+1)=((j+1:Nat):Int):=by rw [wrap_i64 _ (by omega) (by omega)];omega
  have s:bX n ((k:Int),(b:Int),(i:Int),(acc:Int),(j:Int),A,bl.map cI,X,Y)=some (.inl ((k:Int),(b:Int),(i:Int),((acc+bt b x:Nat):Int),((j+1:Nat):Int),A,bl.map cI,X,Y)):=by
   unfold bX
   rw [bD,ae (show (j:Int)<(k:Int) by omega)]
   show ob (ix 3 (j:Int)) _=_
   rw [dp (show j<3 by omega)]
   show ob ((bl.map cI)[j]?) _=_
   rw [hxm]
   show ob (iE n (x:Int) (b:Int)) _=_
   rw [OA n hx4 hb]
   show some (Sum.inl ((k:Int),(b:Int),(i:Int),IntKind.wrap .i64 ((acc:Int)+((bt b x:Nat):Int)),IntKind.wrap .i64 ((j:Int)+1),_))=_
   rw [w,w2]
  have e:(bl.take k).drop j=x::(bl.take k).drop (j+1):=ci (by rw [pN (by omega)];exact hx)
  rw [am,s]
  have:=Qi b x
  show am _ N _=_
  rw [ih (j+1) (acc+bt b x) (by omega) (by omega) N (by omega),e]
  simp only [bts,gO]
def hit (k b i:Nat) (al bl:List Nat):Bool:=decide (0<bt b (al.getD i 0)+bts b ((bl.take k).drop i))
theorem V3 (n k b i:Nat) (hn:9<n) (hb:b=1\/b=2) (hk:k<=3) (hi:i<k) (X:List Int) (al bl:List Nat) (ha:al.length=3) (hl:bl.length=3) (a4:∀x∈al,x<4) (h4:∀x∈bl,x<4) (out:List Int) (o:Int) (ho:out[i]?=some o):
  br n ((k:Int),(b:Int),(i:Int),al.map cI,bl.map cI,X,out)=some (.inl ((k:Int),(b:Int),((i+1:Nat):Int),al.map cI,bl.map cI,X,cond (hit k b i al bl) (out.set i (IntKind.wrap .u8 (o+(b:Int)))) out)):=by
 obtain ⟨x,hx⟩:∃x,al[i]?=some x:=⟨al[i],bp (by omega)⟩
 have hxm:(al.map cI)[i]?=some (x:Int):=by rw [my,hx];rfl
 have hx4:=a4 x (gQ hx)
 have hbx:=Qi b x
 have w2:IntKind.wrap .i64 ((i:Int)+1)=((i+1:Nat):Int):=by rw [wrap_i64 _ (by omega) (by omega)];omega
 have hl2:=Wj n k b i hb hk (al.map cI) X out bl hl h4 (k - i) i (bt b x) (by omega) (by omega) n (by omega)
 unfold br
 rw [bD,ae (show (i:Int)<(k:Int) by omega)]
 show ob (ix 3 (i:Int)) _=_
 rw [dp (show i<3 by omega)]
 show ob ((al.map cI)[i]?) _=_
 rw [hxm]
 show ob (iE n (x:Int) (b:Int)) _=_
 rw [OA n hx4 hb]
 show ob (am (bX n) n ((k:Int),(b:Int),(i:Int),((bt b x:Nat):Int),(i:Int),al.map cI,bl.map cI,X,out)) _=_
 rw [hl2]
 have eh:hit k b i al bl=decide (((bt b x+bts b ((bl.take k).drop i):Nat):Int)>0):=by
  unfold hit
  rw [CQ,hx]
  rw [nq]
  simp only [wv]
  omega
 rw [eh]
 show cond (decide (((bt b x+bts b ((bl.take k).drop i):Nat):Int)>0)) (ob (ix 3 (i:Int)) λj=>ob (out[j]?) λy=>ob (ix 3 (i:Int)) λj2=>cond (Nat.blt j2 3) (some (Sum.inl ((k:Int),(b:Int),IntKind.wrap .i64 ((i:Int)+1),al.map cI,bl.map cI,X,out.set j2 (IntKind.wrap .u8 (y+(b:Int)))))) none) (some (Sum.inl ((k:Int),(b:Int),IntKind.wrap .i64 ((i:Int)+1),al.map cI,bl.map cI,X,out)))=_
 rw [dp (show i<3 by omega),w2]
 have hb3:Nat.blt i 3=true:=dG (by omega)
 simp only [ob,ho,hb3,aj]
 cases decide (((bt b x+bts b ((bl.take k).drop i):Nat):Int)>0)<;>rfl
def addB (k b:Nat) (al bl:List Nat) (o:List Int):List Int:=[cond (decide (0<k)&&hit k b 0 al bl) (IntKind.wrap .u8 (o.getD 0 0+(b:Int))) (o.getD 0 0),cond (decide (1<k)&&hit k b 1 al bl) (IntKind.wrap .u8 (o.getD 1 0+(b:Int))) (o.getD 1 0),cond (decide (2<k)&&hit k b 2 al bl) (IntKind.wrap .u8 (o.getD 2 0+(b:Int))) (o.getD 2 0)]
theorem LO (n k b:Nat) (hn:9<n) (hb:b=1\/b=2) (hk:1<=k/\k<=3) (X:List Int) (al bl:List Nat) (ha:al.length=3) (hl:bl.length=3) (a4:∀x∈al,x<4) (h4:∀x∈bl,x<4) (o0 o1 o2:Int):
  am (br n) n ((k:Int),(b:Int),0,al.map cI,bl.map cI,X,[o0,o1,o2])=some ((k:Int),(b:Int),al.map cI,bl.map cI,X,addB k b al bl [o0,o1,o2]):=by
 obtain ⟨n,rfl⟩:∃j,n=j+5:=⟨n - 5,by omega⟩
 have fin:∀(N:Nat) (out:List Int),am (br (n+5)) (N+1) ((k:Int),(b:Int),((k:Nat):Int),al.map cI,bl.map cI,X,out)=some ((k:Int),(b:Int),al.map cI,bl.map cI,X,out):=λN out=>by
  rw [am]
  have:br (n+5) ((k:Int),(b:Int),((k:Nat):Int),al.map cI,bl.map cI,X,out)=some (.inr ((k:Int),(b:Int),al.map cI,bl.map cI,X,out)):=by
   unfold br
   rw [bD,ab (show ¬((k:Int)<(k:Int)) by omega)]
  rw [this]
 have go:=λ(i:Nat) (hi:i<k) (out:List Int) (o:Int) (ho:out[i]?=some o)=>V3 (n+5) k b i hn hb hk.2 hi X al bl ha hl a4 h4 out o ho
 have hk':k=1\/k=2\/k=3:=by omega
 have s1:=go 0 (by omega) [o0,o1,o2] o0 rfl
 rcases hk' with rfl | rfl | rfl
 ·rw [am]
  rw [show ((0:Nat):Int)=0 from rfl] at s1
  rw [s1]
  show am _ (n+3+1) (((1:Nat):Int),(b:Int),((1:Nat):Int),_)=_
  rw [fin]
  unfold addB
  cases hit 1 b 0 al bl<;>rfl
 ·rw [am]
  rw [show ((0:Nat):Int)=0 from rfl] at s1
  rw [s1]
  show am _ (n+4) (((2:Nat):Int),(b:Int),((1:Nat):Int),_)=_
  rw [am,go 1 (by omega) _ o1 (by cases hit 2 b 0 al bl<;>rfl)]
  show am _ (n+2+1) (((2:Nat):Int),(b:Int),((2:Nat):Int),_)=_
  rw [fin]
  unfold addB
  cases hit 2 b 0 al bl<;>cases hit 2 b 1 al bl<;>rfl
 ·rw [am]
  rw [show ((0:Nat):Int)=0 from rfl] at s1
  rw [s1]
  show am _ (n+4) (((3:Nat):Int),(b:Int),((1:Nat):Int),_)=_
  rw [am,go 1 (by omega) _ o1 (by cases hit 3 b 0 al bl<;>rfl)]
  show am _ (n+3) (((3:Nat):Int),(b:Int),((2:Nat):Int),_)=_
  rw [am,go 2 (by omega) _ o2 (by cases hit 3 b 0 al bl<;>cases hit 3 b 1 al bl<;>rfl)]
  show am _ (n+1+1) (((3:Nat):Int),(b:Int),((3:Nat):Int),_)=_
  rw [fin]
  unfold addB
  cases hit 3 b 0 al bl<;>cases hit 3 b 1 al bl<;>cases hit 3 b 2 al bl<;>rfl
def lN (p:Nat×Nat×Nat):List Nat:=[p.1,p.2.1,p.2.2]
theorem qs {x y:Nat} (hx:x<4) (hy:y<4) (b:Nat) (hb:b=1\/b=2):decide (0<bt b (x ||| y))=decide (0<bt b x+bt b y):=by
 have:((List.range 4).all λa=>(List.range 4).all λc=>(decide (0<bt 1 (a ||| c))==decide (0<bt 1 a+bt 1 c))&&(decide (0<bt 2 (a ||| c))==decide (0<bt 2 a+bt 2 c)))=true:=by decide +kernel
 have:=r4 (r4 this hx) hy
 simp only [az,bB] at this
 rcases hb with rfl | rfl
 ·exact this.1
 ·exact this.2
theorem rr {x:Nat} (hx:x<4):cond (decide (0<bt 2 x)) (IntKind.wrap .u8 (cond (decide (0<bt 1 x)) (IntKind.wrap .u8 (0+((1:Nat):Int))) 0+((2:Nat):Int))) (cond (decide (0<bt 1 x)) (IntKind.wrap .u8 (0+((1:Nat):Int))) 0)=(x:Int):=by
 have h:x=0\/x=1\/x=2\/x=3:=by omega
 rcases h with rfl | rfl | rfl | rfl<;>decide
theorem t8 (n:Nat) (hn:9<n) (k:Nat) (A B:Nat×Nat×Nat) (hk:1<=k/\k<=3) (hA:inM k A) (hB:inM k B):dL n (l3 A) (l3 B) (k:Int)=some (l3 (spM A B)):=by
 obtain ⟨a0,a1,a2⟩:=A
 obtain ⟨b0,b1,b2⟩:=B
 obtain ⟨g0,g1,g2,g3,g4⟩:=hA
 obtain ⟨f0,f1,f2,f3,f4⟩:=hB
 simp only at g0 g1 g2 g3 g4 f0 f1 f2 f3 f4
 have ol:∀x y:Nat,x<4->y<4->x ||| y<4:=λx y hx hy=>(or4 hx hy).2
 have a4:∀x∈lN (a0,a1,a2),x<4:=by
  intro x hx
  simp only [lN,dl,sC,uy] at hx
  rcases hx with rfl | rfl | rfl<;>assumption
 have b4:∀x∈lN (b0,b1,b2),x<4:=by
  intro x hx
  simp only [lN,dl,sC,uy] at hx
  rcases hx with rfl | rfl | rfl<;>assumption
 have run:=λ(b:Nat) (hb:b=1\/b=2) (o0 o1 o2:Int)=>LO n k b hn hb hk [0,0,0] (lN (a0,a1,a2)) (lN (b0,b1,b2)) rfl rfl a4 b4 o0 o1 o2
 have r1:=run 1 (.inl rfl) 0 0 0
 obtain ⟨p0,p1,p2,hp⟩:∃p0 p1 p2,addB k 1 (lN (a0,a1,a2)) (lN (b0,b1,b2)) [0,0,0]=[p0,p1,p2]:=⟨_,_,_,rfl⟩
 have r2:=run 2 (.inr rfl) p0 p1 p2
 rw [hp] at r1
 obtain ⟨n,rfl⟩:∃j,n=j+5:=⟨n - 5,by omega⟩
 have s1:cJ (n+5) ((k:Int),1,l3 (a0,a1,a2),l3 (b0,b1,b2),[0,0,0],[0,0,0])=some (.inl ((k:Int),2,l3 (a0,a1,a2),l3 (b0,b1,b2),[0,0,0],[p0,p1,p2])):=by
  unfold cJ
  show cond (decide ((1:Int)<=2)) (ob (am (br (n+5)) (n+5) ((k:Int),((1:Nat):Int),0,(lN (a0,a1,a2)).map cI,(lN (b0,b1,b2)).map cI,[0,0,0],[0,0,0])) _) _=_
  rw [r1]
  rfl
 have s2:cJ (n+5) ((k:Int),2,l3 (a0,a1,a2),l3 (b0,b1,b2),[0,0,0],[p0,p1,p2])=some (.inl ((k:Int),3,l3 (a0,a1,a2),l3 (b0,b1,b2),[0,0,0],addB k 2 (lN (a0,a1,a2)) (lN (b0,b1,b2)) [p0,p1,p2])):=by
  unfold cJ
  show cond (decide ((2:Int)<=2)) (ob (am (br (n+5)) (n+5) ((k:Int),((2:Nat):Int),0,(lN (a0,a1,a2)).map cI,(lN (b0,b1,b2)).map cI,[0,0,0],[p0,p1,p2])) _) _=_
  rw [r2]
  rfl
 have s3:∀out:List Int,cJ (n+5) ((k:Int),3,l3 (a0,a1,a2),l3 (b0,b1,b2),[0,0,0],out)=some (.inr ([0,0,0],out)):=λout=>rfl
 unfold dL
 rw [am,s1]
 show ob (am _ (n+4) _) _=_
 rw [am,s2]
 show ob (am _ (n+3) _) _=_
 rw [am,s3]
 show some (addB k 2 (lN (a0,a1,a2)) (lN (b0,b1,b2)) [p0,p1,p2])=_
 rw [<-hp]
 have hk':k=1\/k=2\/k=3:=by omega
 have or2:=λ(x y:Nat) (hx:x<4) (hy:y<4) (b:Nat) (hb:b=1\/b=2)=>qs hx hy b hb
 rcases hk' with rfl | rfl | rfl
 ·obtain rfl:=g3 (by omega)
  obtain rfl:=g4 (by omega)
  obtain rfl:=f3 (by omega)
  obtain rfl:=f4 (by omega)
  have e:∀b,b=1\/b=2->hit 1 b 0 (lN (a0,0,0)) (lN (b0,0,0))=decide (0<bt b (a0 ||| b0)):=λb hb=>by rw [qs g0 f0 b hb];rfl
  show some [cond (hit 1 2 0 (lN (a0,0,0)) (lN (b0,0,0))) (IntKind.wrap .u8 (cond (hit 1 1 0 (lN (a0,0,0)) (lN (b0,0,0))) (IntKind.wrap .u8 (0+((1:Nat):Int))) 0+((2:Nat):Int))) (cond (hit 1 1 0 (lN (a0,0,0)) (lN (b0,0,0))) (IntKind.wrap .u8 (0+((1:Nat):Int))) 0),0,0]=_
  rw [e 1 (.inl rfl),e 2 (.inr rfl),rr (ol _ _ g0 f0)]
  simp [l3,spM]
 ·obtain rfl:=g4 (by omega)
  obtain rfl:=f4 (by omega)
  have h2:∀b,b=1\/b=2->hit 2 b 1 (lN (a0,a1,0)) (lN (b0,b1,0))=decide (0<bt b (a1 ||| b1)):=λb hb=>by rw [qs g1 f1 b hb];rfl
  have h1:∀b,b=1\/b=2->hit 2 b 0 (lN (a0,a1,0)) (lN (b0,b1,0))=decide (0<bt b (a0 ||| b0 ||| b1)):=λb hb=>by
   have q1:=qs (ol _ _ g0 f0) f1 b hb
   have q2:=qs g0 f0 b hb
   rw [q1]
   have:hit 2 b 0 (lN (a0,a1,0)) (lN (b0,b1,0))=decide (0<bt b a0+(bt b b0+(bt b b1+0))):=rfl
   rw [this]
   simp only [nq] at q2 ⊢
   omega
  show some [cond (hit 2 2 0 (lN (a0,a1,0)) (lN (b0,b1,0))) (IntKind.wrap .u8 (cond (hit 2 1 0 (lN (a0,a1,0)) (lN (b0,b1,0))) (IntKind.wrap .u8 (0+((1:Nat):Int))) 0+((2:Nat):Int))) (cond (hit 2 1 0 (lN (a0,a1,0)) (lN (b0,b1,0))) (IntKind.wrap .u8 (0+((1:Nat):Int))) 0),cond (hit 2 2 1 (lN (a0,a1,0)) (lN (b0,b1,0))) (IntKind.wrap .u8 (cond (hit 2 1 1 (lN (a0,a1,0)) (lN (b0,b1,0))) (IntKind.wrap .u8 (0+((1:Nat):Int))) 0+((2:Nat):Int))) (cond (hit 2 1 1 (lN (a0,a1,0)) (lN (b0,b1,0))) (IntKind.wrap .u8 (0+((1:Nat):Int))) 0),0]=_
  rw [h1 1 (.inl rfl),h1 2 (.inr rfl),h2 1 (.inl rfl),h2 2 (.inr rfl),rr (ol _ _ (ol _ _ g0 f0) f1),rr (ol _ _ g1 f1)]
  simp [l3,spM]
 ·have h3:∀b,b=1\/b=2->hit 3 b 2 (lN (a0,a1,a2)) (lN (b0,b1,b2))=decide (0<bt b (a2 ||| b2)):=λb hb=>by rw [qs g2 f2 b hb];rfl
  have h2:∀b,b=1\/b=2->hit 3 b 1 (lN (a0,a1,a2)) (lN (b0,b1,b2))=decide (0<bt b (a1 ||| b1 ||| b2)):=λb hb=>by
   have q1:=qs (ol _ _ g1 f1) f2 b hb
   have q2:=qs g1 f1 b hb
   rw [q1]
   have:hit 3 b 1 (lN (a0,a1,a2)) (lN (b0,b1,b2))=decide (0<bt b a1+(bt b b1+(bt b b2+0))):=rfl
   rw [this]
   simp only [nq] at q2 ⊢
   omega
  have h1:∀b,b=1\/b=2->hit 3 b 0 (lN (a0,a1,a2)) (lN (b0,b1,b2))=decide (0<bt b (a0 ||| b0 ||| b1 ||| b2)):=λb hb=>by
   have q1:=qs (ol _ _ (ol _ _ g0 f0) f1) f2 b hb
   have q2:=qs (ol _ _ g0 f0) f1 b hb
   have q3:=qs g0 f0 b hb
   rw [q1]
   have:hit 3 b 0 (lN (a0,a1,a2)) (lN (b0,b1,b2))=decide (0<bt b a0+(bt b b0+(bt b b1+(bt b b2+0)))):=rfl
   rw [this]
   simp only [nq] at q2 q3 ⊢
   omega
  show some [cond (hit 3 2 0 (lN (a0,a1,a2)) (lN (b0,b1,b2))) (IntKind.wrap .u8 (cond (hit 3 1 0 (lN (a0,a1,a2)) (lN (b0,b1,b2))) (IntKind.wrap .u8 (0+((1:Nat):Int))) 0+((2:Nat):Int))) (cond (hit 3 1 0 (lN (a0,a1,a2)) (lN (b0,b1,b2))) (IntKind.wrap .u8 (0+((1:Nat):Int))) 0),cond (hit 3 2 1 (lN (a0,a1,a2)) (lN (b0,b1,b2))) (IntKind.wrap .u8 (cond (hit 3 1 1 (lN (a0,a1,a2)) (lN (b0,b1,b2))) (IntKind.wrap .u8 (0+((1:Nat):Int))) 0+((2:Nat):Int))) (cond (hit 3 1 1 (lN (a0,a1,a2)) (lN (b0,b1,b2))) (IntKind.wrap .u8 (0+((1:Nat):Int))) 0),cond (hit 3 2 2 (lN (a0,a1,a2)) (lN (b0,b1,b2))) (IntKind.wrap .u8 (cond (hit 3 1 2 (lN (a0,a1,a2)) (lN (b0,b1,b2))) (IntKind.wrap .u8 (0+((1:Nat):Int))) 0+((2:Nat):Int))) (cond (hit 3 1 2 (lN (a0,a1,a2)) (lN (b0,b1,b2))) (IntKind.wrap .u8 (0+((1:Nat):Int))) 0)]=_
  rw [h1 1 (.inl rfl),h1 2 (.inr rfl),h2 1 (.inl rfl),h2 2 (.inr rfl),h3 1 (.inl rfl),h3 2 (.inr rfl),rr (ol _ _ (ol _ _ (ol _ _ g0 f0) f1) f2),rr (ol _ _ (ol _ _ g1 f1) f2),rr (ol _ _ g2 f2)]
  rfl
def Jh (k a b c:Nat):Bool:=spM (plA k a b c) (plB k a b c)==(a,b,c)
theorem TT:((List.range 4).all λa=>Jh 1 a 0 0)=true:=by decide +kernel
theorem UH:((List.range 4).all λa=>(List.range 4).all λb=>Jh 2 a b 0)=true:=by decide +kernel
theorem Ui:((List.range 4).all λa=>(List.range 4).all λb=>(List.range 4).all λc=>Jh 3 a b c)=true:=by decide +kernel
theorem U2 (k a b c:Nat) (hk:1<=k/\k<=3) (ha:a<4) (hb:b<4) (hc:c<4) (h1:k<2->b=0) (h2:k<3->c=0):spM (plA k a b c) (plB k a b c)=(a,b,c):=by
 have h:Jh k a b c=true:=by
  have:k=1\/k=2\/k=3:=by omega
  rcases this with rfl | rfl | rfl
  ·rw [h1 (by omega),h2 (by omega)];exact r4 TT ha
  ·rw [h2 (by omega)];exact r4 (r4 UH ha) hb
  ·exact r4 (r4 (r4 Ui ha) hb) hc
 unfold Jh at h
 exact bB.1 h
def mkS (l:aa):Nat:=match l with | []=>0 | c::_=>mkOf c
def mkN (l:aa):Nat:=if mkS l=0 then 0 else 1
def twoN (l:aa):Nat:=bK isDX 2 l
theorem Pv (c:UInt8):mkOf c<4:=by
 unfold mkOf
 split
 ·omega
 ·split
  ·omega
  ·split<;>omega
theorem Lp (l:aa):mkS l<4:=by
 cases l with
 | nil=>show 0<4;omega
 | cons c r=>exact Pv c
theorem Ti (l:aa):mkN l<=l.length:=by
 cases l with
 | nil=>exact aV 0
 | cons c r=>
  unfold mkN
  split<;>simp
theorem Ph (c:UInt8):hasB [63,126,37] c=decide (0<mkOf c):=by
 have:=np (λc=>hasB [63,126,37] c==decide (0<mkOf c)) (by decide +kernel) c
 simpa using this
theorem Qy (m:Nat) (S:aa) (a:Nat) (h:a<=S.length) (hS:S.length<100000):
  cA (m+300) S (a:Int)=some (.inr (((mkS (S.drop a):Nat):Int),S,((a+mkN (S.drop a):Nat):Int))):=by
 unfold cA
 rw [uX (m+300) S a h]
 cases hd:S.drop a with
 | nil=>
  have h0:oY (m+300) 0=some (0,false):=by kernel_rfl
  show ob (oY (m+300) 0) _=_
  rw [h0]
  rfl
 | cons c r=>
  show ob (oY (m+300) ((c.toNat:Nat):Int)) _=_
  rw [(La m c).1]
  show cond (decide (0<mkOf c)) _ _=_
  have e1:mkS (c::r)=mkOf c:=rfl
  by_cases hc:0<mkOf c
  ·rw [ar hc]
   show ob (cj (m+300) [63,126,37] S (a:Int)) _=_
   rw [zL (m+300) _ S a h (by omega),hd]
   have hb:hasB [63,126,37] c=true:=by rw [Ph,ar hc]
   have e2:mkN (c::r)=1:=by unfold mkN;rw [e1,ab (by omega)]
   rw [e1,e2]
   simp only [hb,aQ,ob]
  ·rw [au hc]
   have e2:mkN (c::r)=0:=by unfold mkN;rw [e1,ae (by omega)]
   rw [e1,e2]
   rfl
theorem zn (m:Nat) (S:aa) (a:Nat) (h:a<=S.length) (hS:S.length<100000) (e:Int):
  eo (m+300) S (a:Int) e=some (((mkS (S.drop a):Nat):Int),S,((a+mkN (S.drop a):Nat):Int),e):=by
 unfold eo
 rw [lb]
 rcases aG a S.length with hlt | hge
 ·have:decide (S.length<=a)=false:=by simp;omega
  rw [this]
  obtain ⟨c,hc⟩:∃c,S[a]?=some c:=⟨S[a],bp hlt⟩
  rw [eF hc,ci hc]
  show ob (ky (m+300) ((c.toNat:Nat):Int)) _=_
  rw [(La m c).2]
  have e1:mkS (c::S.drop (a+1))=mkOf c:=rfl
  show cond (decide (((mkOf c:Nat):Int)>0)) _ _=_
  by_cases h0:0<mkOf c
  ·have e2:mkN (c::S.drop (a+1))=1:=by unfold mkN;rw [e1,ab (by omega)]
   have:decide (((mkOf c:Nat):Int)>0)=true:=by simp;omega
   rw [this,e1,e2,aj]
   have w:IntKind.wrap .i64 ((a:Int)+1)=((a+1:Nat):Int):=by rw [wrap_i64 _ (by omega) (by omega)];omega
   rw [w]
  ·have e2:mkN (c::S.drop (a+1))=0:=by unfold mkN;rw [e1,ae (by omega)]
   have:decide (((mkOf c:Nat):Int)>0)=false:=by simp;omega
   rw [this,e1,e2,af]
   rfl
 ·have:decide (S.length<=a)=true:=by simp;omega
  rw [this,jo hge]
  rfl
theorem On (n:Nat) (S:aa) (a:Nat) (h:a<=S.length) (hS:S.length<100000) (hn:S.length<n):
  iu n S (a:Int)=some (if twoN (S.drop a)<2 then .inl (((a+twoN (S.drop a):Nat):Int),5,S,((a+twoN (S.drop a):Nat):Int)) else .inr ((S.drop a).take 2,S,((a+2:Nat):Int))):=by
 unfold iu
 rw [vr n _ 2 2 S a h (by omega) hn]
 have e:bK (hasB [88,48,49,50,51,52,53,54,55,56,57]) (2:Int).toNat (S.drop a)=twoN (S.drop a):=by
  unfold twoN
  have e2:(2:Int).toNat=2:=rfl
  rw [e2]
  exact jQ (λc=>by rw [tV];rfl) _ _
 rw [e]
 by_cases h2:twoN (S.drop a)<2
 ·rw [ae h2,ae (by omega)]
  rfl
 ·have h3:twoN (S.drop a)=2:=by
   have:=pV isDX 2 (S.drop a)
   unfold twoN at h2 ⊢
   omega
  rw [ab h2,ab (by omega),h3]
  rfl
theorem RG (c:UInt8):isDX c=((decide (48<=c.toNat)&&decide (c.toNat<=57))||c==88):=by
 unfold isDX
 congr 1
 rw [uO,cg]
 simp
theorem FU (n:Nat) (S:aa) (a b i e:Int) (j:Nat) (hS:S.length<100000) (hi:i<2) (hj:j<=S.length) (i0:0<=i):
  gI n (b,i,S,(j:Int),e,[],0,0)=some (match S.drop j with
   | []=>.inr (.inl ([],S,(j:Int),5))
   | c::_=>if isDX c then .inl (b,i+1,S,((j+1:Nat):Int),e,[],0,0) else .inr (.inl ([],S,(j:Int),5))):=by
 unfold gI
 have d1:decide (i<2)=true:=ar hi
 show cond (decide (i<2)) (cond (decide ((j:Int)>=((S.length:Nat):Int))) _ _) _=_
 rw [d1,lb]
 rcases aG j S.length with hlt | hge
 ·have:decide (S.length<=j)=false:=by simp;omega
  rw [this]
  obtain ⟨c,hc⟩:∃c,S[j]?=some c:=⟨S[j],bp hlt⟩
  have w1:IntKind.wrap .i64 (i+1)=i+1:=wrap_i64 _ (by omega) (by omega)
  have w2:IntKind.wrap .i64 ((j:Int)+1)=((j+1:Nat):Int):=by rw [wrap_i64 _ (by omega) (by omega)];omega
  rw [ci hc]
  simp only [eF hc,ob,aj,af,w1,w2]
  rw [RG]
  have e88:(((c.toNat:Nat):Int) != 88)=!(c==88):=by rw [bne];congr 1;exact nJ c 88
  rw [e88]
  by_cases h1:c.toNat<48
  ·have q1:decide (((c.toNat:Nat):Int)<48)=true:=by simp;omega
   have q2:decide (48<=c.toNat)=false:=by simp;omega
   rw [q1,q2]
   cases (c==88)<;>rfl
  ·have q1:decide (((c.toNat:Nat):Int)<48)=false:=by simp;omega
   have q2:decide (48<=c.toNat)=true:=by simp;omega
   rw [q1,q2]
   by_cases h2:c.toNat<=57
   ·have q3:decide (((c.toNat:Nat):Int)>57)=false:=by simp;omega
    have q4:decide (c.toNat<=57)=true:=by simp;omega
    rw [q3,q4]
    rfl
   ·have q3:decide (((c.toNat:Nat):Int)>57)=true:=by simp;omega
    have q4:decide (c.toNat<=57)=false:=by simp;omega
    rw [q3,q4]
    cases (c==88)<;>rfl
 ·have:decide (S.length<=j)=true:=by simp;omega
  rw [this,jo hge]
  rfl
theorem Iz (n:Nat) (hn:10<n) (S:aa) (a:Nat) (h:a<=S.length) (hS:S.length<100000) (e:Int):
  ju n S (a:Int) e=some (if twoN (S.drop a)<2 then ([],S,((a+twoN (S.drop a):Nat):Int),5) else ((S.drop a).take 2,S,((a+2:Nat):Int),e)):=by
 obtain ⟨n,rfl⟩:∃j,n=j+3:=⟨n - 3,by omega⟩
 unfold ju
 rw [am,FU (n+3) S 0 (a:Int) 0 e a hS (by omega) h (by omega)]
 cases hd:S.drop a with
 | nil=>rfl
 | cons c r=>
  obtain ⟨hlt,hg,hr⟩:=mZ hd
  cases hc:isDX c with
  | false=>
   have:twoN (c::r)=0:=by unfold twoN;simp [bK,hc]
   rw [this]
   simp [hc,ob]
  | true=>
   simp only [hc,aQ]
   rw [am,FU (n+3) S 0 (a:Int) (0+1) e (a+1) hS (by omega) (by omega) (by omega),hr]
   cases r with
   | nil=>
    have:twoN [c]=1:=by unfold twoN;simp [bK,hc]
    rw [this]
    rfl
   | cons d r2=>
    obtain ⟨hlt2,hg2,hr2⟩:=mZ hr
    cases hd2:isDX d with
    | false=>
     have:twoN (c::d::r2)=1:=by unfold twoN;simp [bK,hc,hd2]
     rw [this]
     simp [hd2,ob]
    | true=>
     have:twoN (c::d::r2)=2:=by unfold twoN;simp [bK,hc,hd2]
     rw [this]
     simp only [hd2,aQ]
     have s3:gI (n+3) ((a:Int),0+1+1,S,((a+1+1:Nat):Int),e,[],0,0)=some (.inr (.inr ((a:Int),S,((a+1+1:Nat):Int),e,[],0,0))):=rfl
     rw [am,s3]
     show ob (bx S.length ((a+1+1:Nat):Int)) _=_
     rw [gG (show a+1+1<=S.length by omega)]
     show ob (bx (a+1+1) (a:Int)) _=_
     rw [gG (show a<=a+1+1 by omega)]
     have:List.drop a (List.take (a+1+1) S)=[c,d]:=by
      rw [wW,hd]
      have:a+1+1 - a=2:=by omega
      rw [this]
      rfl
     show some (List.drop a (List.take (a+1+1) S),S,((a+1+1:Nat):Int),e)=_
     rw [this]
     rfl
theorem cutD (r:Nat) (h:r<10):List.drop r (List.take (r+1) ([48,49,50,51,52,53,54,55,56,57]:aa))=[UInt8.ofNat (48+r)]:=by
 have:∀r,r<10->List.drop r (List.take (r+1) ([48,49,50,51,52,53,54,55,56,57]:aa))=[UInt8.ofNat (48+r)]:=by decide
 exact this r h
theorem Cf {k:Nat} (h:k<10):Lib.decDigits k=[UInt8.ofNat (48+k)]:=by
 rw [Lib.decDigits,dif_pos h]
theorem zF {k:Nat} (h:¬k<10) (h2:k<100):Lib.decDigits k=[UInt8.ofNat (48+k / 10),UInt8.ofNat (48+k%10)]:=by
 rw [Lib.decDigits,dif_neg h,Cf (by omega)];rfl
theorem IJ (n k:Nat) (h:k<100):aF n (k:Int)=some (Lib.decDigits k):=by
 have hm:Int.tmod (k:Int) 10=((k%10:Nat):Int):=rfl
 have hq:Int.tdiv (k:Int) 10=((k / 10:Nat):Int):=rfl
 have w1:IntKind.wrap .i64 (((k%10:Nat):Int)+1)=((k%10+1:Nat):Int):=by rw [wrap_i64 _ (by omega) (by omega)];omega
 have w2:IntKind.wrap .i64 ((k / 10:Nat):Int)=((k / 10:Nat):Int):=wrap_i64 _ (by omega) (by omega)
 have w3:IntKind.wrap .i64 (((k / 10:Nat):Int)+1)=((k / 10+1:Nat):Int):=by rw [wrap_i64 _ (by omega) (by omega)];omega
 simp only [aF,hm,hq,w1,w2,w3,gG (show k%10+1<=10 by omega),gG (show k%10<=k%10+1 by omega),ob,cutD (k%10) (by omega)]
 by_cases h1:k<10
 ·have e:decide ((k:Int)>=10)=false:=au (by omega)
  rw [e,af,Cf h1,qK h1]
 ·have e:decide ((k:Int)>=10)=true:=ar (by omega)
  rw [e,aj,gG (show k / 10+1<=10 by omega)]
  simp only []
  rw [gG (show k / 10<=k / 10+1 by omega)]
  simp only [cutD (k / 10) (by omega)]
  rw [bZ (by simp),zF h1 h]
  rfl
def ef (letter:UInt8) (v:Nat):aa:=if 0<v then letter::Lib.decDigits v else []
theorem Ip {k:Nat} (h:k<100):1<=(Lib.decDigits k).length/\(Lib.decDigits k).length<=2:=by
 by_cases h1:k<10
 ·rw [Cf h1];simp
 ·rw [zF h1 h];simp
theorem vG (letter:UInt8) {k:Nat} (h:k<100):(ef letter k).length<=3:=by
 unfold ef
 split
 ·have:=Ip h;simp only [aD];omega
 ·simp
theorem k9 (g l:Bool) (d:aa) (x s:Nat):iO g l d (x:Int) (s:Int)=(if l then [89] else [])++(if g then [45] else [])++d++ef 69 x++ef 83 s:=by
 unfold iO ef
 simp only [bV]
 have e1:(0<(x:Int))=(0<x):=by simp
 have e2:(0<(s:Int))=(0<s):=by simp
 simp only [e1,e2]
theorem NM (n:Nat) (g l:Bool) (d:aa) (x s:Nat) (hx:x<100) (hs:s<100) (hd:d.length<=1000):kr n g l d (x:Int) (s:Int)=some (iO g l d (x:Int) (s:Int)):=by
 have l1:=Ip hx
 have l2:=Ip hs
 have ex:decide ((x:Int)>0)=decide (0<x):=by simp
 have es:decide ((s:Int)>0)=decide (0<s):=by simp
 have tx:∀a:aa,a.length<=1100->(cond (decide (0<x)) (ob (aF n (x:Int)) λr=>(ob (cat ([69]:aa) r) λp=>(cat a p))) (some a))=some (a++ef 69 x):=by
  intro a ha
  unfold ef
  by_cases h:0<x
  ·rw [ar h,aj,ae h,IJ n x hx]
   simp only [ob]
   rw [bZ (by simp;omega)]
   simp only []
   rw [bZ (by simp;omega)]
   rfl
  ·rw [au h,ab h];simp
 have ts:∀a:aa,a.length<=1200->(cond (decide (0<s)) (ob (aF n (s:Int)) λr=>(ob (cat ([83]:aa) r) λp=>(ob (cat a p) λq=>(some q)))) (some a))=some (a++ef 83 s):=by
  intro a ha
  unfold ef
  by_cases h:0<s
  ·rw [ar h,aj,ae h,IJ n s hs]
   simp only [ob]
   rw [bZ (by simp;omega)]
   simp only []
   rw [bZ (by simp;omega)]
   rfl
  ·rw [au h,ab h];simp
 have both:∀a:aa,a.length<=1100->(cond (decide (0<x)) (ob (aF n (x:Int)) λr=>(ob (cat ([69]:aa) r) λp=>(ob (cat a p) λz=>(cond (decide (0<s)) (ob (aF n (s:Int)) λr=>(ob (cat ([83]:aa) r) λp=>(ob (cat z p) λq=>(some q)))) (some z))))) (cond (decide (0<s)) (ob (aF n (s:Int)) λr=>(ob (cat ([83]:aa) r) λp=>(ob (cat a p) λq=>(some q)))) (some a)))=some (a++ef 69 x++ef 83 s):=by
  intro a ha
  have htx:=tx a ha
  by_cases h:0<x
  ·rw [ar h,aj] at htx ⊢
   rw [IJ n x hx] at htx ⊢
   simp only [ob] at htx ⊢
   rw [bZ (a:=[69]) (by simp;omega)] at htx ⊢
   simp only [] at htx ⊢
   rw [htx]
   simp only []
   have:=ts (a++ef 69 x) (by have:=vG 69 hx;simp only [aM];omega)
   simp only [ob] at this
   exact this
  ·rw [au h,af]
   have hz:ef 69 x=[]:=by unfold ef;rw [ab h]
   rw [hz,pM]
   exact ts a (by omega)
 rw [k9]
 unfold kr
 rw [ex,es]
 cases l<;>cases g
 ·rw [af,af,bZ (by simp;omega)]
  exact both d (by omega)
 ·rw [af,aj,bZ (by simp;omega)]
  exact both ([45]++d) (by simp;omega)
 ·rw [aj,af,bZ (by simp;omega)]
  exact both ([89]++d) (by simp;omega)
 ·rw [aj,aj,bZ (by simp;omega)]
  exact both ([89,45]++d) (by simp;omega)
def cN (p:UInt8->Bool) (l:aa):Prop:=∀c,l.head?=some c->p c=false
theorem qy {k:Nat} (h:k<10):(UInt8.ofNat (48+k)).toNat=48+k:=by
 rw [DZ]
 exact qK (by omega)
theorem CL (letter:UInt8) (v:Nat) (post:aa) (hv:v<100) (h1:cN bw post) (h2:cN (λc=>c==letter) post):numS letter (ef letter v++post)=.inr (v,(ef letter v).length):=by
 unfold ef
 by_cases h0:0<v
 ·rw [ae h0]
  by_cases h9:v<10
  ·rw [Cf h9]
   have hd:=qy h9
   simp only [fP,dQ]
   rw [nk,ae rfl,oc,ae (by omega)]
   have e48:48+v - 48=v:=by omega
   cases post with
   | nil=>
    rw [tH,hd,e48]
    rfl
   | cons e r=>
    have he:¬bw e=true:=by rw [h1 e rfl];simp
    rw [mW,ab he,hd,e48]
    rfl
  ·rw [zF h9 hv]
   have hd:=qy (show v / 10<10 by omega)
   have he:=qy (show v%10<10 by omega)
   simp only [fP,dQ]
   rw [nk,ae rfl,oc,ae (by omega),mW,ae ((cg _).2 (by omega)),hd,he]
   rw [show 10*(48+v / 10 - 48)+(48+v%10 - 48)=v by omega]
   rfl
 ·rw [ab h0]
  have hv0:v=0:=by omega
  subst hv0
  cases post with
  | nil=>rfl
  | cons c r=>
   have hc:c≠letter:=by
    have:=h2 c rfl
    simpa using this
   rw [dQ,nk,ab hc]
   rfl
theorem wO (letter:UInt8) (l:aa) (v k:Nat) (h:numS letter l=.inr (v,k)):v<100/\l.take k=ef letter v/\k<=l.length:=by
 cases l with
 | nil=>
  simp only [vz,se,bO] at h
  obtain ⟨rfl,rfl⟩:=h
  exact ⟨by omega,rfl,by simp⟩
 | cons c r=>
  rw [nk] at h
  by_cases hc:c=letter
  ·rw [ae hc] at h
   cases r with
   | nil=>simp [Ai] at h
   | cons d r2=>
    rw [oc] at h
    by_cases hd:49<=d.toNat/\d.toNat<=57
    ·rw [ae hd] at h
     have e9:d.toNat - 48<10:=by omega
     have hdd:UInt8.ofNat (48+(d.toNat - 48))=d:=by
      apply gH.1
      rw [qy e9];omega
     have one:(c::d::r2).take 2=ef letter (d.toNat - 48):=by
      unfold ef
      rw [ae (by omega),Cf e9,hdd,hc];rfl
     cases r2 with
     | nil=>
      simp only [tH,se,bO] at h
      obtain ⟨rfl,rfl⟩:=h
      exact ⟨by omega,one,by simp⟩
     | cons e r3=>
      rw [mW] at h
      by_cases he:bw e=true
      ·rw [ae he] at h
       simp only [se,bO] at h
       obtain ⟨rfl,rfl⟩:=h
       have hei:=(cg e).1 he
       refine ⟨by omega,?_,by simp⟩
       unfold ef
       have h1:(10*(d.toNat - 48)+(e.toNat - 48)) / 10=d.toNat - 48:=by omega
       have h2:(10*(d.toNat - 48)+(e.toNat - 48))%10=e.toNat - 48:=by omega
       have hee:UInt8.ofNat (48+(e.toNat - 48))=e:=by
        apply gH.1
        rw [qy (by omega)];omega
       rw [ae (by omega),zF (by omega) (by omega),h1,h2,hdd,hee,hc];rfl
      ·rw [ab he] at h
       simp only [se,bO] at h
       obtain ⟨rfl,rfl⟩:=h
       exact ⟨by omega,one,by simp⟩
    ·rw [ab hd] at h;cases h
  ·rw [ab hc] at h
   simp only [se,bO] at h
   obtain ⟨rfl,rfl⟩:=h
   exact ⟨by omega,rfl,by simp⟩
theorem xh {p:UInt8->Bool}:∀(r:aa) (k:Nat) (post:aa),(∀c∈r,p c=true)->r.length<=k->(cN p post\/r.length=k)->bK p k (r++post)=r.length
 | [],0,post,_,_,_=>by simp [bK]
 | [],k+1,post,_,_,h=>by
  cases post with
  | nil=>simp [bK]
  | cons c q=>
   rcases h with h | h
   ·have:=h c rfl
    simp [bK,this]
   ·simp at h
 | c::r,0,post,_,h,_=>by simp at h
 | c::r,k+1,post,hp,hk,h=>by
  have ih:=xh r k post (λd hd=>hp d (by simp [hd])) (by simpa using hk) (by
   rcases h with h | h
   ·exact .inl h
   ·exact .inr (by simpa using h))
  simp only [fP,bK,hp c (by simp),aQ,ih,aD]
theorem rq {letter:UInt8} {v:Nat} {post:aa} {p:UInt8->Bool} (h1:p letter=false) (h2:cN p post):cN p (ef letter v++post):=by
 unfold ef
 intro c hc
 by_cases h:0<v
 ·rw [ae h] at hc
  simp only [fP,qg,aq] at hc
  rw [<-hc];exact h1
 ·rw [ab h] at hc
  exact h2 c hc
def isYC (c:UInt8):Bool:=isDX c||c==69||c==83
theorem Ou {l:aa} (h:cN isYC l):cN bw l:=λc hc=>by
 have:=h c hc
 unfold isYC isDX at this
 simp only [rE] at this
 exact this.1.1.1
theorem U3 {l:aa} (h:cN isYC l):cN isDX l:=λc hc=>by
 have:=h c hc
 unfold isYC at this
 simp only [rE] at this
 exact this.1.1
theorem V4 {l:aa} (h:cN isYC l):cN (λc=>c==69) l:=λc hc=>by
 have:=h c hc
 unfold isYC at this
 simp only [rE] at this
 exact this.1.2
theorem Vv {l:aa} (h:cN isYC l):cN (λc=>c==83) l:=λc hc=>by
 have:=h c hc
 unfold isYC at this
 simp only [rE] at this
 exact this.2
theorem ng (c:UInt8) (l:aa):fC c (c::l)=1:=by rw [kS,ae rfl]
theorem ot {c a:UInt8} (h:a≠c) (l:aa):fC c (a::l)=0:=by rw [kS,ab h]
theorem Lq {g l:Bool} {d:aa} {x s:Nat} (h:okY g l d (x:Int) (s:Int)) (post:aa) (hp:cN isYC post):pU (iO g l d (x:Int) (s:Int)++post)=.inr (g,l,d,x,s,(iO g l d (x:Int) (s:Int)).length):=by
 have hsm:=ki h
 have n83:numS 83 (ef 83 s++post)=.inr (s,(ef 83 s).length):=CL 83 s post (by omega) (Ou hp) (Vv hp)
 have hR2:cN bw (ef 83 s++post):=rq (by decide) (Ou hp)
 have hR3:cN isDX (ef 83 s++post):=rq (by decide) (U3 hp)
 rw [k9]
 cases l with
 | true=>
  have hL:okL d (x:Int) (s:Int):=by simpa [okY] using h
  obtain ⟨⟨h1,h2,h3,h4,h5,h6,h7,h8⟩,h9,h10⟩:=hL
  obtain ⟨c,r,rfl⟩:∃c r,d=c::r:=by
   cases d with
   | nil=>simp at h2
   | cons c r=>exact ⟨c,r,rfl⟩
  have hcd:=(cg c).1 (h1 c (by simp))
  have hc49:49<=c.toNat/\c.toNat<=57:=by
   have:c.toNat≠48:=λe=>h4 (by rw [show c=48 from gH.1 e];rfl)
   omega
  have hc45:c≠45:=by rintro rfl;exact absurd hcd.1 (by decide)
  have n69:numS 69 (ef 69 x++(ef 83 s++post))=.inr (x,(ef 69 x).length):=CL 69 x _ (by omega) hR2 (rq (by decide) (V4 hp))
  have hsp:bK bw 16 (r++(ef 69 x++(ef 83 s++post)))=r.length:=by
   refine xh r 16 _ (λe he=>h1 e (by simp [he])) (by simp only [aD] at h3;omega) (.inl ?_)
   exact rq (by decide) hR2
  have body:∀o:Nat,tD g o ((c::r)++(ef 69 x++(ef 83 s++post)))=.inr (g,true,c::r,x,s,o+(1+r.length)+(ef 69 x).length+(ef 83 s).length):=by
   intro o
   simp only [fP,tD]
   rw [ae hc49,hsp]
   have e1:List.drop (1+r.length) (c::(r++(ef 69 x++(ef 83 s++post))))=ef 69 x++(ef 83 s++post):=by
    rw [oS,oC,A7 rfl]
   have e2:List.drop (1+r.length+(ef 69 x).length) (c::(r++(ef 69 x++(ef 83 s++post))))=ef 83 s++post:=by
    rw [show 1+r.length+(ef 69 x).length=(r.length+(ef 69 x).length)+1 by omega,oC,<-jr,A7 (by simp)]
   have e3:List.take (1+r.length) (c::(r++(ef 69 x++(ef 83 s++post))))=c::r:=by
    rw [oS,pX,List.take_left' rfl]
   rw [e1,n69]
   simp only []
   rw [e2,n83,e3]
  unfold pU
  cases g with
  | true=>
   simp only [aQ,fP,dQ,jr]
   rw [ng,ae rfl,oC,gy,ng]
   have:=body 2
   simp only [fP] at this
   simp only [oC,gy,show ((1:Nat)==1)=true from rfl,show 1+1=2 from rfl]
   rw [this]
   simp only [aD,aM]
   congr 6
   omega
  | false=>
   simp only [aQ,bP,aE,fP,dQ,jr]
   rw [ng,ae rfl,oC,gy,ot hc45]
   have:=body 1
   simp only [fP] at this
   simp only [oC,gy,show ((0:Nat)==1)=false from rfl,cD]
   rw [this]
   simp only [aD,aM]
   congr 6
   omega
 | false=>
  have hS:okS g d (x:Int) (s:Int):=by simpa [okY] using h
  obtain ⟨h1,h2,h3,h4,h5,h6,h7⟩:=hS
  have hx0:x=0:=by omega
  subst hx0
  have ht0:ef 69 0=[]:=rfl
  have hdx:∀c∈d,isDX c=true:=λc hc=>by
   unfold isDX
   rcases h2 c hc with q | q
   ·rw [q];rfl
   ·rw [q];simp
  have hsp:bK isDX 4 (d++(ef 83 s++post))=d.length:=xh d 4 _ hdx (by omega) (.inr h1)
  have body:∀o:Nat,uP g o (d++(ef 83 s++post))=.inr (g,false,d,0,s,o+4+(ef 83 s).length):=by
   intro o
   unfold uP
   rw [hsp,h1,ab (by omega),A7 h1,n83,List.take_left' h1]
  obtain ⟨c,r,rfl⟩:∃c r,d=c::r:=by
   cases d with
   | nil=>simp at h1
   | cons c r=>exact ⟨c,r,rfl⟩
  have hc45:c≠45:=by
   rintro rfl
   rcases h2 45 (by simp) with q | q
   ·exact absurd ((cg _).1 q).1 (by decide)
   ·exact absurd q (by decide)
  have hc89:c≠89:=by
   rintro rfl
   rcases h2 89 (by simp) with q | q
   ·exact absurd ((cg _).1 q).2 (by decide)
   ·exact absurd q (by decide)
  have h4589:(45:UInt8)≠89:=by decide
  unfold pU
  rw [ht0]
  cases g with
  | true=>
   simp only [aQ,bP,aE,fP,dQ,jr]
   rw [ot h4589,ab (by decide),ng,oC,gy]
   have:=body 1
   simp only [fP] at this
   rw [show ((1:Nat)==1)=true from rfl,this]
   simp only [aD,aM] at h1 ⊢
   congr 6
   omega
  | false=>
   simp only [bP,aE,fP,dQ,jr]
   rw [ot hc89,ab (by decide),ot hc45,gy]
   have:=body 0
   simp only [fP] at this
   rw [show ((0:Nat)==1)=false from rfl,this]
   simp only [aD,aM] at h1 ⊢
   congr 6
   omega
theorem uk (c:UInt8) (l:aa):l.take (fC c l)=if fC c l=1 then [c] else []:=by
 rcases k7 c l with h | h
 ·rw [h];simp
 ·rw [h,ae rfl]
  unfold fC at h
  split at h
  ·assumption
  ·cases h
theorem nZ (l:aa) (i j:Nat):l.take (i+j)=l.take i++(l.drop i).take j:=by
 rw [List.take_add]
theorem sT {l:aa} {g lng:Bool} {d:aa} {x s k:Nat} (h:pU l=.inr (g,lng,d,x,s,k)):l.take k=iO g lng d (x:Int) (s:Int)/\k<=l.length/\x<100/\s<100/\d.length<=17:=by
 rw [k9]
 unfold pU at h
 by_cases h89:fC 89 l=1
 ·rw [ae h89] at h
  have t89:=uk 89 l
  rw [h89,ae rfl] at t89
  have t45:=uk 45 (l.drop 1)
  have c45:=k7 45 (l.drop 1)
  generalize hu:fC 45 (l.drop 1)=u at *
  have hpre:l.take (1+u)=[89]++(if (u==1)=true then [45] else []):=by
   rw [nZ,t89,t45]
   rcases c45 with rfl | rfl<;>rfl
  cases hd:l.drop (1+u) with
  | nil=>rw [hd] at h;simp [tD] at h
  | cons c r=>
   rw [hd] at h
   simp only [tD] at h
   by_cases hc:49<=c.toNat/\c.toNat<=57
   ·rw [ae hc] at h
    have htop:=pV bw 16 r
    have hKl:1+bK bw 16 r<=(c::r).length:=by have:=lu bw 16 r;simp only [aD];omega
    generalize hK:1+bK bw 16 r=K at *
    cases hq:numS 69 (List.drop K (c::r)) with
    | inl j=>rw [hq] at h;simp at h
    | inr p=>
     obtain ⟨x',j⟩:=p
     rw [hq] at h
     simp only at h
     cases hq2:numS 83 (List.drop (K+j) (c::r)) with
     | inl i=>rw [hq2] at h;simp at h
     | inr p2=>
      obtain ⟨s',i⟩:=p2
      rw [hq2] at h
      simp only [se,bO] at h
      obtain ⟨rfl,rfl,rfl,rfl,rfl,rfl⟩:=h
      obtain ⟨a1,a2,a3⟩:=wO _ _ _ _ hq
      obtain ⟨b1,b2,b3⟩:=wO _ _ _ _ hq2
      rw [co] at a3 b3
      have hll:l.length=1+u+(c::r).length:=by
       have:=dm List.length hd
       rw [co] at this
       simp only [aD] at this ⊢
       omega
      refine ⟨?_,by simp only [aD] at *;omega,a1,b1,by rw [cO];omega⟩
      rw [show 1+u+K+j+i=(1+u)+(K+(j+i)) by omega,nZ,hpre,hd,nZ _ K,nZ _ j,a2,kR,b2]
      simp
   ·rw [ab hc] at h;simp at h
 ·rw [ab h89] at h
  have t45:=uk 45 l
  have c45:=k7 45 l
  generalize hu:fC 45 l=u at *
  have hpre:l.take u=(if (u==1)=true then [45] else []):=by
   rw [t45]
   rcases c45 with rfl | rfl<;>rfl
  unfold uP at h
  by_cases h4:bK isDX 4 (l.drop u)<4
  ·rw [ae h4] at h;simp at h
  ·rw [ab h4] at h
   have hle:=lu isDX 4 (l.drop u)
   rw [co] at hle
   cases hq:numS 83 (List.drop 4 (l.drop u)) with
   | inl i=>rw [hq] at h;simp at h
   | inr p2=>
    obtain ⟨s',i⟩:=p2
    rw [hq] at h
    simp only [se,bO] at h
    obtain ⟨rfl,rfl,rfl,rfl,rfl,rfl⟩:=h
    obtain ⟨b1,b2,b3⟩:=wO _ _ _ _ hq
    rw [co,co] at b3
    refine ⟨?_,by omega,by omega,b1,by rw [cO];omega⟩
    rw [show u+4+i=u+(4+i) by omega,nZ,hpre,nZ _ 4,b2]
    have ht0:ef 69 0=[]:=rfl
    rw [ht0]
    simp
abbrev DR:=Bool×Bool×aa×Nat×Nat×aa×aa×(Nat×Nat×Nat)×(Nat×Nat×Nat)×Nat
def mkE (S:aa) (p:Nat):Nat:=p+mkN (S.drop p)
def rd3 (S:aa) (y:YR) (A0 B0 A1 B1 p0 c1 q2:Nat) (mm:aa):Nat⊕DR:=
 if twoN (S.drop (mkE S (q2+1)))<2 then .inl (mkE S (q2+1)+twoN (S.drop (mkE S (q2+1))))
 else .inr (y.1,y.2.1,y.2.2.1,y.2.2.2.1,y.2.2.2.2.1,mm,(S.drop (mkE S (q2+1))).take 2,spM (A0,A1,mkS (S.drop (q2+1))) (B0,B1,mkS (S.drop (mkE S (q2+1)+2))),(p0,c1,mkE S (q2+1)),mkE S (mkE S (q2+1)+2))
def rd2 (S:aa) (y:YR) (A0 B0 p0 q1:Nat):Nat⊕DR:=
 if twoN (S.drop (mkE S (q1+1)))<2 then .inl (mkE S (q1+1)+twoN (S.drop (mkE S (q1+1))))
 else if fC 45 (S.drop (mkE S (mkE S (q1+1)+2)))=0 then .inr (y.1,y.2.1,y.2.2.1,y.2.2.2.1,y.2.2.2.2.1,(S.drop (mkE S (q1+1))).take 2,[],spM (A0,mkS (S.drop (q1+1)),0) (B0,mkS (S.drop (mkE S (q1+1)+2)),0),(p0,mkE S (q1+1),0),mkE S (mkE S (q1+1)+2))
 else rd3 S y A0 B0 (mkS (S.drop (q1+1))) (mkS (S.drop (mkE S (q1+1)+2))) p0 (mkE S (q1+1)) (mkE S (mkE S (q1+1)+2)) ((S.drop (mkE S (q1+1))).take 2)
def so (S:aa) (a:Nat):Nat⊕DR:=match pU (S.drop (mkE S a)) with
 | .inl k=>.inl (mkE S a+k)
 | .inr y=>if 0<y.2.2.2.2.1\/fC 45 (S.drop (mkE S (mkE S a+y.2.2.2.2.2)))=0
  then .inr (y.1,y.2.1,y.2.2.1,y.2.2.2.1,y.2.2.2.2.1,[],[],spM (mkS (S.drop a),0,0) (mkS (S.drop (mkE S a+y.2.2.2.2.2)),0,0),(mkE S a,0,0),mkE S (mkE S a+y.2.2.2.2.2))
  else rd2 S y (mkS (S.drop a)) (mkS (S.drop (mkE S a+y.2.2.2.2.2))) (mkE S a) (mkE S (mkE S a+y.2.2.2.2.2))
def SZ (S:aa):Nat⊕DR->(Int×Int×aa×Int)⊕(Bool×Bool×aa×Int×Int×aa×aa×Int×Int×Int×List Int×aa×Int)
 | .inl k=>.inl ((k:Int),5,S,(k:Int))
 | .inr (g,l,dg,x,s,m,d,M,P,e)=>.inr (g,l,dg,(x:Int),(s:Int),m,d,(M.1:Int),(M.2.1:Int),(M.2.2:Int),l3 P,S,(e:Int))
theorem ke {S:aa} {p:Nat} (h:p<=S.length):mkE S p<=S.length:=by
 have:=Ti (S.drop p)
 rw [co] at this
 unfold mkE
 omega
theorem xE {S:aa} {p:Nat} (h2:¬twoN (S.drop p)<2):p+2<=S.length:=by
 have:=lu isDX 2 (S.drop p)
 unfold twoN at h2
 rw [co] at this
 omega
theorem rf {S:aa} {p:Nat} (h:¬fC 45 (S.drop p)=0):p+1<=S.length:=by
 have:=zl 45 (S.drop p)
 rw [co] at this
 omega
theorem MD (n:Nat) (g l:Bool) (d:aa) (x s:Int) (mm dd:aa) (k0 k1 k2:Int) (S:aa) (p:Nat) (h:p<=S.length) (hS:S.length<100000) (hn:S.length<n):
  jK n g l d x s mm dd k0 k1 k2 S (p:Int)=some (match pU (S.drop p) with
   | .inl k=>.inl (((p+k:Nat):Int),5,g,l,d,x,s,mm,dd,k0,k1,k2,S,((p+k:Nat):Int))
   | .inr y=>.inr (y.1,y.2.1,y.2.2.1,(y.2.2.2.1:Int),(y.2.2.2.2.1:Int),mm,dd,k0,k1,k2,S,((p+y.2.2.2.2.2:Nat):Int))):=by
 unfold jK
 rw [P2 n S p h hS hn]
 cases pU (S.drop p) with
 | inl k=>rfl
 | inr y=>rfl
theorem MF (n:Nat) (g l:Bool) (d:aa) (x s:Int) (mm dd:aa) (k0 k1 k2:Int) (S:aa) (p:Nat) (h:p<=S.length) (hS:S.length<100000) (hn:S.length<n):
  jI n g l d x s mm dd k0 k1 k2 S (p:Int)=some (if twoN (S.drop p)<2
   then .inl (((p+twoN (S.drop p):Nat):Int),5,g,l,d,x,s,mm,dd,k0,k1,k2,S,((p+twoN (S.drop p):Nat):Int))
   else .inr (g,l,d,x,s,(S.drop p).take 2,dd,k0,k1,k2,S,((p+2:Nat):Int))):=by
 unfold jI
 rw [On n S p h hS hn]
 by_cases h2:twoN (S.drop p)<2
 ·rw [ae h2,ae h2];rfl
 ·rw [ab h2,ab h2];rfl
theorem MG (n:Nat) (g l:Bool) (d:aa) (x s:Int) (mm dd:aa) (k0 k1 k2:Int) (S:aa) (p:Nat) (h:p<=S.length) (hS:S.length<100000) (hn:S.length<n):
  jF n g l d x s mm dd k0 k1 k2 S (p:Int)=some (if twoN (S.drop p)<2
   then .inl (((p+twoN (S.drop p):Nat):Int),5,g,l,d,x,s,mm,dd,k0,k1,k2,S,((p+twoN (S.drop p):Nat):Int))
   else .inr (g,l,d,x,s,mm,(S.drop p).take 2,k0,k1,k2,S,((p+2:Nat):Int))):=by
 unfold jF
 rw [On n S p h hS hn]
 by_cases h2:twoN (S.drop p)<2
 ·rw [ae h2,ae h2];rfl
 ·rw [ab h2,ab h2];rfl
theorem PQ (m:Nat) (S:aa) (a:Nat) (h:a<=S.length) (hS:S.length<100000) (hn:S.length<m+300):
  jB (m+300) S (a:Int)=some (SZ S (so S a)):=by
 have hm:∀p,p<=S.length->cA (m+300) S (p:Int)=some (.inr (((mkS (S.drop p):Nat):Int),S,((mkE S p:Nat):Int))):=λp hp=>Qy m S p hp hS
 have z4:∀p,mkS (S.drop p)<4:=λp=>Lp _
 have sp1:∀p q,ek (m+300) [((mkS (S.drop p):Nat):Int),0,0] [((mkS (S.drop q):Nat):Int),0,0] 1=some (l3 (spM (mkS (S.drop p),0,0) (mkS (S.drop q),0,0)),0):=λp q=>
  vX (m+300) (by omega) 1 (mkS (S.drop p),0,0) (mkS (S.drop q),0,0) (by omega) ⟨z4 p,by simp,by simp,by simp,by simp⟩ ⟨z4 q,by simp,by simp,by simp,by simp⟩
 have sp2:∀p q p' q',ek (m+300) [((mkS (S.drop p):Nat):Int),((mkS (S.drop p'):Nat):Int),0] [((mkS (S.drop q):Nat):Int),((mkS (S.drop q'):Nat):Int),0] 2=some (l3 (spM (mkS (S.drop p),mkS (S.drop p'),0) (mkS (S.drop q),mkS (S.drop q'),0)),0):=λp q p' q'=>
  vX (m+300) (by omega) 2 (mkS (S.drop p),mkS (S.drop p'),0) (mkS (S.drop q),mkS (S.drop q'),0) (by omega) ⟨z4 p,z4 p',by simp,by simp,by simp⟩ ⟨z4 q,z4 q',by simp,by simp,by simp⟩
 have sp3:∀p q p' q' p'' q'',ek (m+300) [((mkS (S.drop p):Nat):Int),((mkS (S.drop p'):Nat):Int),((mkS (S.drop p''):Nat):Int)] [((mkS (S.drop q):Nat):Int),((mkS (S.drop q'):Nat):Int),((mkS (S.drop q''):Nat):Int)] 3=some (l3 (spM (mkS (S.drop p),mkS (S.drop p'),mkS (S.drop p'')) (mkS (S.drop q),mkS (S.drop q'),mkS (S.drop q''))),0):=λp q p' q' p'' q''=>
  vX (m+300) (by omega) 3 (mkS (S.drop p),mkS (S.drop p'),mkS (S.drop p'')) (mkS (S.drop q),mkS (S.drop q'),mkS (S.drop q'')) (by omega) ⟨z4 p,z4 p',z4 p'',by simp,by simp⟩ ⟨z4 q,z4 q',z4 q'',by simp,by simp⟩
 have b0:=ke h
 unfold jB so
 rw [hm a h]
 simp only [ob,CW]
 rw [MD _ _ _ _ _ _ _ _ _ _ _ S (mkE S a) b0 hS hn]
 cases hr:pU (S.drop (mkE S a)) with
 | inl k=>rfl
 | inr y=>
  obtain ⟨g,l,dg,x,s,k⟩:=y
  have bk:mkE S a+k<=S.length:=by
   have:=(sT hr).2.1
   rw [co] at this
   omega
  have b1:=ke bk
  simp only [ob,d4,d8]
  rw [hm (mkE S a+k) bk]
  simp only [ob]
  by_cases hs:0<s
  ·have:decide (((s:Nat):Int)>0)=true:=by simp;omega
   rw [this,ae (.inl hs)]
   simp only [aj]
   rw [sp1]
   rfl
  ·have:decide (((s:Nat):Int)>0)=false:=by simp;omega
   rw [this]
   simp only [af]
   rw [tN (m+300) 45 S _ b1 hS]
   simp only [ob]
   by_cases ht:fC 45 (S.drop (mkE S (mkE S a+k)))=0
   ·rw [ae (.inr ht),ht]
    simp only [show ((0:Nat)==1)=false from rfl,jq,aj,cD]
    rw [sp1]
    rfl
   ·have ht1:fC 45 (S.drop (mkE S (mkE S a+k)))=1:=(k7 45 _).resolve_left ht
    have bt1:=rf ht
    rw [ab (λz=>z.elim hs ht),ht1]
    simp only [show ((1:Nat)==1)=true from rfl,dn,af]
    unfold rd2
    rw [hm _ bt1]
    simp only [ob]
    have bc:=ke bt1
    rw [MF _ _ _ _ _ _ _ _ _ _ _ S _ bc hS hn]
    by_cases h2:twoN (S.drop (mkE S (mkE S (mkE S a+k)+1)))<2
    ·rw [ae h2,ae h2];rfl
    ·rw [ab h2,ab h2]
     have b2:=xE h2
     simp only [ob,d4,d8]
     rw [hm _ b2]
     simp only [ob]
     rw [this]
     simp only [af]
     have b3:=ke b2
     rw [tN (m+300) 45 S _ b3 hS]
     simp only [ob]
     by_cases ht2:fC 45 (S.drop (mkE S (mkE S (mkE S (mkE S a+k)+1)+2)))=0
     ·rw [ae ht2,ht2]
      simp only [show ((0:Nat)==1)=false from rfl,jq,aj,cD]
      rw [sp2]
      rfl
     ·have ht21:=(k7 45 (S.drop (mkE S (mkE S (mkE S (mkE S a+k)+1)+2)))).resolve_left ht2
      have bt2:=rf ht2
      rw [ab ht2,ht21]
      simp only [show ((1:Nat)==1)=true from rfl,dn,af]
      unfold rd3
      rw [hm _ bt2]
      simp only [ob]
      have bc2:=ke bt2
      rw [MG _ _ _ _ _ _ _ _ _ _ _ S _ bc2 hS hn]
      by_cases h3:twoN (S.drop (mkE S (mkE S (mkE S (mkE S (mkE S a+k)+1)+2)+1)))<2
      ·rw [ae h3,ae h3];rfl
      ·rw [ab h3,ab h3]
       have b4:=xE h3
       simp only [ob,d4,d8]
       rw [hm _ b4]
       simp only [ob]
       rw [sp3]
       rfl
def RE (S:aa) (P:List Int):Nat⊕DR->Bool×Bool×aa×Int×Int×aa×aa×Int×Int×Int×List Int×aa×Int×Int
 | .inl k=>(false,false,[],0,0,[],[],0,0,0,P,S,(k:Int),5)
 | .inr (g,l,dg,x,s,m,d,M,Q,e)=>(g,l,dg,(x:Int),(s:Int),m,d,(M.1:Int),(M.2.1:Int),(M.2.2:Int),l3 Q,S,(e:Int),0)
abbrev RdSt:=aa×Int×Int×List Int×Bool×Bool×aa×Int×Int×aa×aa×List Int×List Int×List Int×aa×Int×Int
def rdSt (S:aa) (i:Int) (g l:Bool) (dg:aa) (x s:Int) (mm dd:aa) (P A B:List Int) (p:Nat):RdSt:=
 (S,i,i,[0,0,0],g,l,dg,x,s,mm,dd,P,A,B,S,(p:Int),0)
theorem Vd (m:Nat) (S:aa) (a:Nat) (h:a<=S.length) (hS:S.length<100000) (hn:S.length<m+300):
  aZ (m+300) (rdSt S 0 false false [] 0 0 [] [] [0,0,0] [0,0,0] [0,0,0] a)=some (match pU (S.drop (mkE S a)) with
   | .inl k=>.inr (.inr (false,false,[],0,0,[],[],0,0,0,[((mkE S a:Nat):Int),0,0],S,((mkE S a+k:Nat):Int),5))
   | .inr y=>.inl (rdSt S 1 y.1 y.2.1 y.2.2.1 (y.2.2.2.1:Int) (y.2.2.2.2.1:Int) [] [] [((mkE S a:Nat):Int),0,0] [((mkS (S.drop a):Nat):Int),0,0] [((mkS (S.drop (mkE S a+y.2.2.2.2.2)):Nat):Int),0,0] (mkE S (mkE S a+y.2.2.2.2.2)))):=by
 have hm:∀p,p<=S.length->eo (m+300) S (p:Int) 0=some (((mkS (S.drop p):Nat):Int),S,((mkE S p:Nat):Int),0):=λp hp=>zn m S p hp hS 0
 have b0:=ke h
 unfold aZ rdSt
 simp only [d4,d8,d16,fi,show (decide ((0:Int)<3))=true from rfl,show (decide ((0:Int)>0))=false from rfl,aj,af,ob]
 rw [hm a h]
 simp only [ob,show ix 3 0=some 0 from rfl,show Nat.blt 0 3=true from rfl,aj,fw,show ((0:Int)==0)=true from rfl]
 rw [MB (m+300) S (mkE S a) b0 hS hn]
 cases hr:pU (S.drop (mkE S a)) with
 | inl k=>rfl
 | inr y=>
  obtain ⟨g,l,dg,x,s,k⟩:=y
  have bk:mkE S a+k<=S.length:=by
   have:=(sT hr).2.1
   rw [co] at this
   omega
  simp only [ov,ob,d4,d8,d16,show ((0:Int) != 0)=false from rfl,af]
  rw [hm _ bk]
  rfl
theorem UR (m:Nat) (S:aa) (g l:Bool) (dg:aa) (x s:Nat) (P0 A0 B0:Int) (q:Nat) (h:q<=S.length) (hS:S.length<100000) (hn:S.length<m+300):
  aZ (m+300) (rdSt S 1 g l dg (x:Int) (s:Int) [] [] [P0,0,0] [A0,0,0] [B0,0,0] q)=some (
   if 0<s\/fC 45 (S.drop q)=0 then .inr (.inl (1,false,false,[],0,0,[],[],0,0,0,[0,0,0],[],0,0,g,l,dg,(x:Int),(s:Int),[],[],0,0,0,[P0,0,0],[A0,0,0],[B0,0,0],S,(q:Int),0))
   else if twoN (S.drop (mkE S (q+1)))<2 then .inr (.inr (false,false,[],0,0,[],[],0,0,0,[P0,((mkE S (q+1):Nat):Int),0],S,((mkE S (q+1)+twoN (S.drop (mkE S (q+1))):Nat):Int),5))
   else .inl (rdSt S 2 g l dg (x:Int) (s:Int) ((S.drop (mkE S (q+1))).take 2) [] [P0,((mkE S (q+1):Nat):Int),0] [A0,((mkS (S.drop (q+1)):Nat):Int),0] [B0,((mkS (S.drop (mkE S (q+1)+2)):Nat):Int),0] (mkE S (mkE S (q+1)+2)))):=by
 have hm:∀p,p<=S.length->eo (m+300) S (p:Int) 0=some (((mkS (S.drop p):Nat):Int),S,((mkE S p:Nat):Int),0):=λp hp=>zn m S p hp hS 0
 unfold aZ rdSt
 simp only [d4,d8,d16,fi,ii,show (decide ((1:Int)<3))=true from rfl,show (decide ((1:Int)>0))=true from rfl,aj,af,ob,lb]
 by_cases hs:0<s
 ·have:decide (((s:Nat):Int)>0)=true:=by simp;omega
  rw [this,ae (.inl hs)]
  rfl
 ·have:decide (((s:Nat):Int)>0)=false:=by simp;omega
  rw [this]
  simp only [af]
  rcases aG q S.length with hlt | hge
  ·obtain ⟨c,hc⟩:∃c,S[q]?=some c:=⟨S[q],bp hlt⟩
   have hle:decide (S.length<=q)=false:=by simp;omega
   rw [hle]
   simp only [af,eF hc,ob]
   have e45:(((c.toNat:Nat):Int) != 45)=!(c==45):=by rw [bne];congr 1;exact nJ c 45
   rw [e45,ci hc,kS]
   by_cases h45:c=45
   ·have w:IntKind.wrap .i64 ((q:Int)+1)=((q+1:Nat):Int):=by rw [wrap_i64 _ (by omega) (by omega)];omega
    rw [ae h45,ab (show ¬(0<s\/(1:Nat)=0) from λz=>z.elim hs (by omega)),h45]
    simp only [uQ,dn,af,ob,w]
    rw [hm _ (by omega)]
    simp only [ob,show ix 3 1=some 1 from rfl,show Nat.blt 1 3=true from rfl,aj,fw,il,show ((1:Int)==0)=false from rfl,show ((1:Int)==1)=true from rfl,af]
    have b1:=ke (show q+1<=S.length by omega)
    rw [Iz (m+300) (by omega) S _ b1 hS 0]
    by_cases h2:twoN (S.drop (mkE S (q+1)))<2
    ·rw [ae h2,ae h2];rfl
    ·rw [ab h2,ab h2]
     simp only [ob,d4,d8,d16,show ((0:Int) != 0)=false from rfl,af]
     rw [hm _ (xE h2)]
     rfl
   ·have:(c==45)=false:=aN.2 h45
    rw [ab h45,ae (.inr rfl),this]
    rfl
  ·have hle:decide (S.length<=q)=true:=by simp;omega
   rw [hle,jo hge,xj,ae (.inr rfl)]
   rfl
theorem UT (m:Nat) (S:aa) (g l:Bool) (dg:aa) (x s:Nat) (mm:aa) (P0 A0 B0 P1 A1 B1:Int) (q:Nat) (h:q<=S.length) (hS:S.length<100000) (hn:S.length<m+300) (hs:¬0<s):
  aZ (m+300) (rdSt S 2 g l dg (x:Int) (s:Int) mm [] [P0,P1,0] [A0,A1,0] [B0,B1,0] q)=some (
   if fC 45 (S.drop q)=0 then .inr (.inl (2,false,false,[],0,0,[],[],0,0,0,[0,0,0],[],0,0,g,l,dg,(x:Int),(s:Int),mm,[],0,0,0,[P0,P1,0],[A0,A1,0],[B0,B1,0],S,(q:Int),0))
   else if twoN (S.drop (mkE S (q+1)))<2 then .inr (.inr (false,false,[],0,0,[],[],0,0,0,[P0,P1,((mkE S (q+1):Nat):Int)],S,((mkE S (q+1)+twoN (S.drop (mkE S (q+1))):Nat):Int),5))
   else .inl (rdSt S 3 g l dg (x:Int) (s:Int) mm ((S.drop (mkE S (q+1))).take 2) [P0,P1,((mkE S (q+1):Nat):Int)] [A0,A1,((mkS (S.drop (q+1)):Nat):Int)] [B0,B1,((mkS (S.drop (mkE S (q+1)+2)):Nat):Int)] (mkE S (mkE S (q+1)+2)))):=by
 have hm:∀p,p<=S.length->eo (m+300) S (p:Int) 0=some (((mkS (S.drop p):Nat):Int),S,((mkE S p:Nat):Int),0):=λp hp=>zn m S p hp hS 0
 unfold aZ rdSt
 simp only [d4,d8,d16,fi,ii,show (decide ((2:Int)<3))=true from rfl,show (decide ((2:Int)>0))=true from rfl,aj,af,ob,lb]
 have:decide (((s:Nat):Int)>0)=false:=by simp;omega
 rw [this]
 simp only [af]
 rcases aG q S.length with hlt | hge
 ·obtain ⟨c,hc⟩:∃c,S[q]?=some c:=⟨S[q],bp hlt⟩
  have hle:decide (S.length<=q)=false:=by simp;omega
  rw [hle]
  simp only [af,eF hc,ob]
  have e45:(((c.toNat:Nat):Int) != 45)=!(c==45):=by rw [bne];congr 1;exact nJ c 45
  rw [e45,ci hc,kS]
  by_cases h45:c=45
  ·have w:IntKind.wrap .i64 ((q:Int)+1)=((q+1:Nat):Int):=by rw [wrap_i64 _ (by omega) (by omega)];omega
   rw [ae h45,ab (show ¬((1:Nat)=0) by omega),h45]
   simp only [uQ,dn,af,ob,w]
   rw [hm _ (by omega)]
   simp only [ob,show ix 3 2=some 2 from rfl,show Nat.blt 2 3=true from rfl,aj,fw,il,show ((2:Int)==0)=false from rfl,show ((2:Int)==1)=false from rfl,af]
   have b1:=ke (show q+1<=S.length by omega)
   rw [Iz (m+300) (by omega) S _ b1 hS 0]
   by_cases h2:twoN (S.drop (mkE S (q+1)))<2
   ·rw [ae h2,ae h2];rfl
   ·rw [ab h2,ab h2]
    simp only [ob,d4,d8,d16,show ((0:Int) != 0)=false from rfl,af]
    rw [hm _ (xE h2)]
    rfl
  ·have:(c==45)=false:=aN.2 h45
   rw [ab h45,ae rfl,this]
   rfl
 ·have hle:decide (S.length<=q)=true:=by simp;omega
  rw [hle,jo hge,xj,ae rfl]
  rfl
theorem C4 (m:Nat) (S:aa) (a:Nat) (h:a<=S.length) (hS:S.length<100000) (hn:S.length<m+300):
  ∃P:List Int,P.length=3/\kg (m+300) S (a:Int)=some (RE S P (so S a)):=by
 have z4:∀p,mkS (S.drop p)<4:=λp=>Lp _
 have sp1:∀p q,dL (m+300) [((mkS (S.drop p):Nat):Int),0,0] [((mkS (S.drop q):Nat):Int),0,0] 1=some (l3 (spM (mkS (S.drop p),0,0) (mkS (S.drop q),0,0))):=λp q=>
  t8 (m+300) (by omega) 1 (mkS (S.drop p),0,0) (mkS (S.drop q),0,0) (by omega) ⟨z4 p,by simp,by simp,by simp,by simp⟩ ⟨z4 q,by simp,by simp,by simp,by simp⟩
 have sp2:∀p q p' q',dL (m+300) [((mkS (S.drop p):Nat):Int),((mkS (S.drop p'):Nat):Int),0] [((mkS (S.drop q):Nat):Int),((mkS (S.drop q'):Nat):Int),0] 2=some (l3 (spM (mkS (S.drop p),mkS (S.drop p'),0) (mkS (S.drop q),mkS (S.drop q'),0))):=λp q p' q'=>
  t8 (m+300) (by omega) 2 (mkS (S.drop p),mkS (S.drop p'),0) (mkS (S.drop q),mkS (S.drop q'),0) (by omega) ⟨z4 p,z4 p',by simp,by simp,by simp⟩ ⟨z4 q,z4 q',by simp,by simp,by simp⟩
 have sp3:∀p q p' q' p'' q'',dL (m+300) [((mkS (S.drop p):Nat):Int),((mkS (S.drop p'):Nat):Int),((mkS (S.drop p''):Nat):Int)] [((mkS (S.drop q):Nat):Int),((mkS (S.drop q'):Nat):Int),((mkS (S.drop q''):Nat):Int)] 3=some (l3 (spM (mkS (S.drop p),mkS (S.drop p'),mkS (S.drop p'')) (mkS (S.drop q),mkS (S.drop q'),mkS (S.drop q'')))):=λp q p' q' p'' q''=>
  t8 (m+300) (by omega) 3 (mkS (S.drop p),mkS (S.drop p'),mkS (S.drop p'')) (mkS (S.drop q),mkS (S.drop q'),mkS (S.drop q'')) (by omega) ⟨z4 p,z4 p',z4 p'',by simp,by simp⟩ ⟨z4 q,z4 q',z4 q'',by simp,by simp⟩
 have b0:=ke h
 unfold kg so
 show ∃P:List Int,P.length=3/\ob (am (aZ (m+300)) (m+299+1) (rdSt S 0 false false [] 0 0 [] [] [0,0,0] [0,0,0] [0,0,0] a)) _=_
 rw [am,Vd m S a h hS hn]
 cases hr:pU (S.drop (mkE S a)) with
 | inl k=>(refine ⟨_,?_,rfl⟩;rfl)
 | inr y=>
  obtain ⟨g,l,dg,x,s,k⟩:=y
  have bk:mkE S a+k<=S.length:=by
   have:=(sT hr).2.1
   rw [co] at this
   omega
  have b1:=ke bk
  show ∃P:List Int,P.length=3/\ob (am (aZ (m+300)) (m+298+1) (rdSt S 1 g l dg (x:Int) (s:Int) [] [] [((mkE S a:Nat):Int),0,0] [((mkS (S.drop a):Nat):Int),0,0] [((mkS (S.drop (mkE S a+k)):Nat):Int),0,0] (mkE S (mkE S a+k)))) _=_
  rw [am,UR m S g l dg x s _ _ _ _ b1 hS hn]
  simp only []
  by_cases hc:0<s\/fC 45 (S.drop (mkE S (mkE S a+k)))=0
  ·rw [ae hc,ae hc]
   refine ⟨[0,0,0],rfl,?_⟩
   simp only [ob,d4,d8,d16]
   rw [sp1]
   rfl
  ·rw [ab hc,ab hc]
   have hs:¬0<s:=λz=>hc (.inl z)
   have bt1:=rf (λz=>hc (.inr z))
   have bc:=ke bt1
   unfold rd2
   by_cases h2:twoN (S.drop (mkE S (mkE S (mkE S a+k)+1)))<2
   ·rw [ae h2,ae h2];(refine ⟨_,?_,rfl⟩;rfl)
   ·rw [ab h2,ab h2]
    have b2:=xE h2
    have b3:=ke b2
    show ∃P:List Int,P.length=3/\ob (am (aZ (m+300)) (m+297+1) (rdSt S 2 g l dg (x:Int) (s:Int) _ [] [_,_,0] [_,_,0] [_,_,0] (mkE S (mkE S (mkE S (mkE S a+k)+1)+2)))) _=_
    rw [am,UT m S g l dg x s _ _ _ _ _ _ _ _ b3 hS hn hs]
    by_cases ht2:fC 45 (S.drop (mkE S (mkE S (mkE S (mkE S a+k)+1)+2)))=0
    ·rw [ae ht2,ae ht2]
     refine ⟨[0,0,0],rfl,?_⟩
     simp only [ob,d4,d8,d16]
     rw [sp2]
     rfl
    ·rw [ab ht2,ab ht2]
     have bt2:=rf ht2
     have bc2:=ke bt2
     unfold rd3
     by_cases h3:twoN (S.drop (mkE S (mkE S (mkE S (mkE S (mkE S a+k)+1)+2)+1)))<2
     ·rw [ae h3,ae h3];(refine ⟨_,?_,rfl⟩;rfl)
     ·rw [ab h3,ab h3]
      have s3:∀(mm dd:aa) (P A B:List Int) (p:Nat),aZ (m+300) (rdSt S 3 g l dg (x:Int) (s:Int) mm dd P A B p)=some (.inr (.inl (3,false,false,[],0,0,[],[],0,0,0,[0,0,0],[],0,0,g,l,dg,(x:Int),(s:Int),mm,dd,0,0,0,P,A,B,S,(p:Int),0))):=λ_ _ _ _ _ _=>rfl
      show ∃P:List Int,P.length=3/\ob (am (aZ (m+300)) (m+296+1) (rdSt S 3 g l dg (x:Int) (s:Int) _ _ _ _ _ _)) _=_
      rw [am,s3]
      refine ⟨[0,0,0],rfl,?_⟩
      simp only [ob,d4,d8,d16]
      rw [sp3]
      rfl
theorem wP {g l:Bool} {d:aa} {x s:Nat} (h:okY g l d (x:Int) (s:Int)):(iO g l d (x:Int) (s:Int)).length<=25:=by
 have hs:=ki h
 have h1:=vG 69 (show x<100 by omega)
 have h2:=vG 83 (show s<100 by omega)
 rw [k9]
 simp only [aM]
 have e1:(if l=true then ([89]:aa) else []).length<=1:=by split<;>simp
 have e2:(if g=true then ([45]:aa) else []).length<=1:=by split<;>simp
 omega
end Go.Sh
