/- Plain proofs, kept as far as they are needed here (printed by prune.py).
   Conditions: none. -/
import Derived.Laws.RangeString
import Derived.Laws.RangeAny
import Derived.Test.YtpkdacjndoiabaaGreatDoorShL
import Derived.Lib.IndexLaws
import Derived.Test.YtpkdacjndoiabaaGreatDoorAbsZ
set_option linter.unusedVariables false
set_option linter.unusedSimpArgs false
set_option maxRecDepth 100000
namespace Go.Sh
open Go.Abs
theorem gq {X Y:Type} {step:X->Option (X⊕Y)} (I:X->Prop) (μ:X->Nat) (G:X->Y)
  (h:∀x,I x->(∃x',step x=some (.inl x')/\I x'/\μ x'<μ x/\G x'=G x)\/step x=some (.inr (G x))):
  ∀(n:Nat) (x:X),I x->μ x<n->aw step n x=some (G x)
 | 0,x,_,hm=>by omega
 | n+1,x,hx,hm=>by
  rcases h x hx with ⟨x',h1,h2,h3,h4⟩ | h1
  ·simp only [aw,h1]
   rw [gq I μ G h n x' h2 (by omega),h4]
  ·simp only [aw,h1]
theorem mO {X Y:Type} {step:X->Option (X⊕Y)} (I:X->Prop) (μ:X->Nat) (Q:Y->Prop)
  (h:∀x,I x->(∃x',step x=some (.inl x')/\I x'/\μ x'<μ x)\/∃y,step x=some (.inr y)/\Q y):
  ∀(n:Nat) (x:X),I x->μ x<n->∃y,aw step n x=some y/\Q y
 | 0,x,_,hm=>by omega
 | n+1,x,hx,hm=>by
  rcases h x hx with ⟨x',h1,h2,h3⟩ | ⟨y,h1,h2⟩
  ·simp only [aw,h1]
   exact mO I μ Q h n x' h2 (by omega)
  ·exact ⟨y,by simp only [aw,h1],h2⟩
theorem Ot {X Y:Type} {step:X->Option (X⊕Y)} {f:Nat->X} {y:Y}:∀{m n:Nat},(∀i,i<m->step (f i)=some (.inl (f (i+1))))->step (f m)=some (.inr y)->m<n->aw step n (f 0)=some y:=by
 intro m n h he hn
 have go:∀(j i:Nat),i+j=m->∀n,j<n->aw step n (f i)=some y:=by
  intro j
  induction j with
  | zero=>
   intro i hi n hn
   obtain ⟨n,rfl⟩:∃q,n=q+1:=⟨n - 1,by omega⟩
   have:i=m:=by omega
   subst this
   simp [aw,he]
  | succ j ih=>
   intro i hi n hn
   obtain ⟨n,rfl⟩:∃q,n=q+1:=⟨n - 1,by omega⟩
   simp only [aw,h i (by omega)]
   exact ih (i+1) (by omega) n (by omega)
 exact go m 0 (by omega) n hn
theorem yv (x:Int):0<=IntKind.wrap .u8 x/\IntKind.wrap .u8 x<256:=by
 show 0<=x%256/\x%256<256
 omega
theorem eZ (x:Int) (h0:0<=x) (h1:x<256):IntKind.wrap .u8 x=x:=by
 show x%256=x
 omega
theorem FW (x:Int):IntKind.wrap .u8 x=x%256:=rfl
theorem wrap_i64 (x:Int) (h0:-9223372036854775808<=x) (h1:x<9223372036854775808):IntKind.wrap .i64 x=x:=by
 simp only [IntKind.wrap,IntKind.signed,IntKind.bits]
 simp
 omega
theorem lz {l:aa} {i:Nat} {c:UInt8} (h:l[i]?=some c):sx l (i:Int)=some c:=by
 simp [sx,h]
theorem cY {n i:Nat} (h:i<n):ix n (i:Int)=some i:=by
 simp [ix];omega
theorem eH {n i:Nat} (h:i<=n):bx n (i:Int)=some i:=by
 simp [bx];omega
theorem Cd {l:aa} {i:Nat} {c:UInt8} (h:l[i]?=some c) (hc:c.toNat<128):dec l i=(c.toNat,1):=by
 have hlt:i<l.length:=by
  rcases aH i l.length with h' | h'
  ·exact h'
  ·rw [eo h'] at h;cases h
 have hs:i<(ByteArray.mk l.toArray).size:=hlt
 have hg:(ByteArray.mk l.toArray)[i]'hs=c:=by
  rw [bD hlt] at h
  simp only [am] at h
  exact h
 unfold dec
 rw [decode_ascii _ i hs (by rw [hg];exact hc),hg]
theorem Ey {l:aa} {i:Nat} {c:UInt8} (h:l[i]?=some c) (hc:128<=c.toNat):128<=(dec l i).1/\1<=(dec l i).2:=by
 have hlt:i<l.length:=by
  rcases aH i l.length with h' | h'
  ·exact h'
  ·rw [eo h'] at h;cases h
 have hs:i<(ByteArray.mk l.toArray).size:=hlt
 have hg:(ByteArray.mk l.toArray)[i]'hs=c:=by
  rw [bD hlt] at h
  simp only [am] at h
  exact h
 unfold dec
 exact decode_high _ i hs (by rw [hg];exact hc)
theorem um {α:Type} {l:List α} {i:Nat} {c:α} (h:l[i]?=some c):i<l.length:=by
 rcases aH i l.length with h' | h'
 ·exact h'
 ·rw [eo h'] at h;cases h
theorem kq {α:Type} {l:List α} {i:Nat} {c:α} (h:l[i]?=some c):l.drop i=c::l.drop (i+1):=by
 have hlt:=um h
 rw [bD hlt] at h
 simp only [am] at h
 rw [<-h,xh hlt]
theorem ig {α β:Type} [BEq α] [LawfulBEq α] [DecidableEq α] (a b:α) (x y:β):(cond (a==b) x y)=if a=b then x else y:=by
 by_cases h:a=b
 ·subst h;simp
 ·rw [aK.2 h];simp [h]
theorem tW {α β:Type} [BEq α] [LawfulBEq α] [DecidableEq α] (a b:α) (x y:β):(cond (a != b) x y)=if a=b then y else x:=by
 by_cases h:a=b
 ·subst h;simp
 ·rw [bne,aK.2 h];simp [h]
theorem bE {β:Type} (p:Prop) [Decidable p] (x y:β):(cond (decide p) x y)=if p then x else y:=by
 by_cases h:p<;>simp [h]
theorem KH {β:Type} (b:Bool) (x y:β):(cond (!b) x y)=cond b y x:=by cases b<;>rfl
theorem lR (a b:Nat):(decide (((a:Nat):Int)<((b:Nat):Int)))=decide (a<b):=by
 by_cases h:a<b<;>simp [h]
theorem DV (c d:UInt8):((((c.toNat:Nat):Int))==((d.toNat:Nat):Int))=(c==d):=by
 by_cases h:c=d
 ·subst h;simp
 ·have h1:c.toNat≠d.toNat:=λe=>h (iq.1 e)
  have h2:((c.toNat:Nat):Int)≠((d.toNat:Nat):Int):=by omega
  rw [aK.2 h2,aK.2 h]
theorem SG (c:UInt8):UInt8.ofNat (Int.toNat ((c.toNat:Nat):Int))=c:=by simp
def two (c:Nat):aa:=[UInt8.ofNat (48+c / 10),UInt8.ofNat (48+c%10)]
def sea (m:aa):Int:=match (List.range 21).find? (λj=>m==two (21+j)) with | some j=>((21+j:Nat):Int) | none=>0
theorem jx {j:Nat} (hj:j<21):sea (two (21+j))=((21+j:Nat):Int):=by
 have:((List.range 21).all λj=>sea (two (21+j))==((21+j:Nat):Int))=true:=by decide +kernel
 simpa using (List.all_eq_true.1 this) j (by simpa using hj)
theorem mN (m:aa):sea m=0\/∃j,j<21/\m=two (21+j):=by
 unfold sea
 split
 ·rename_i j h
  have h1:=List.find?_some h
  have h2:=List.mem_of_find?_eq_some h
  exact .inr ⟨j,by simpa using h2,by simpa using h1⟩
 ·exact .inl rfl
theorem nN {b:UInt8} {d:Nat} (h:Lib.digitVal b=some d):d<10/\b.toNat=48+d:=by
 unfold Lib.digitVal at h
 split at h
 ·cases h;omega
 ·cases h
theorem KZ {a b:UInt8} {v:Int} (h:Lib.atoi [a,b]=some v) (h1:21<=v) (h2:v<42):∃j,j<21/\[a,b]=two (21+j)/\v=((21+j:Nat):Int):=by
 obtain ⟨b0,r,e,h3⟩:=Lib.atoi_cases h
 cases e
 rcases h3 with ⟨_,m,_,_,h4⟩ | ⟨_,m,_,h5,h4⟩ | ⟨_,_,m,h5,h4⟩
 ·omega
 ·simp only [Lib.decFrom] at h5
  split at h5
  ·rename_i d hd
   have:=(nN hd).1
   simp only [am] at h5
   omega
  ·cases h5
 ·simp only [Lib.decFrom] at h5
  split at h5
  ·rename_i d hd
   split at h5
   ·rename_i d' hd'
    obtain ⟨k1,k2⟩:=nN hd
    obtain ⟨k3,k4⟩:=nN hd'
    simp only [am] at h5
    refine ⟨m - 21,by omega,?_,by omega⟩
    have e0:(21+(m - 21)) / 10=d:=by omega
    have e1:(21+(m - 21))%10=d':=by omega
    unfold two
    rw [e0,e1,<-k2,<-k4]
    simp
   ·cases h5
  ·cases h5
theorem vS {j:Nat} (hj:j<21):Lib.atoi (two (21+j))=some ((21+j:Nat):Int):=by
 have:((List.range 21).all λj=>Lib.atoi (two (21+j))==some ((21+j:Nat):Int))=true:=by decide +kernel
 simpa using (List.all_eq_true.1 this) j (by simpa using hj)
theorem rN (n:Nat) (g l:Bool) (dg:aa) (x q:Int) (m d:aa) (k0 k1 k2:Int) (hm:m.length<=18):bZ n g l dg x q m d k0 k1 k2=some (sea m,decide (0<sea m)):=by
 have hb:Nat.ble m.length 18=true:=cN hm
 rcases mN m with h0 | ⟨j,hj,rfl⟩
 ·unfold bZ
  rw [hb,h0]
  show opt (Lib.atoi m) _ _=_
  cases ha:Lib.atoi m with
  | none=>rfl
  | some v=>
   show cond _ _ _=_
   by_cases hl:m.length=2
   ·rw [hl]
    obtain ⟨a,b,rfl⟩:∃a b,m=[a,b]:=by
     match m,hl with
     | [a,b],_=>exact ⟨a,b,rfl⟩
    show ob (cP n v) _=_
    unfold cP
    rw [bE,bE]
    split
    ·rfl
    ·split
     ·rfl
     ·exfalso
      obtain ⟨j,hj,e,_⟩:=KZ ha (by omega) (by omega)
      rw [e,jx hj] at h0
      omega
   ·rw [show (((m.length:Nat):Int) != 2)=true by simp;omega]
    rfl
 ·rw [jx hj]
  have e:bZ n g l dg x q (two (21+j)) d k0 k1 k2=some (((21+j:Nat):Int),true):=by
   unfold bZ
   rw [hb,vS hj]
   show ob (cP n ((21+j:Nat):Int)) _=_
   unfold cP
   rw [bE,bE,ab (by omega),ab (by omega)]
   rfl
  rw [e]
  have:decide (0<((21+j:Nat):Int))=true:=by simp;omega
  rw [this]
theorem Gu (n:Nat) {c:Nat} (hc:c<100):aO n (c:Int)=some (two c):=by
 have e1:Int.tdiv (c:Int) 10=((c / 10:Nat):Int):=by
  rw [show (10:Int)=((10:Nat):Int) from rfl,<-Int.ofNat_tdiv]
 have e2:Int.tmod (c:Int) 10=((c%10:Nat):Int):=by
  rw [show (10:Int)=((10:Nat):Int) from rfl,<-Int.ofNat_tmod]
 have h1:c / 10<10:=by omega
 have h2:c%10<10:=by omega
 unfold aO
 rw [e1,e2]
 have w1:IntKind.wrap .i64 ((c / 10:Nat):Int)=((c / 10:Nat):Int):=wrap_i64 _ (by omega) (by omega)
 have w2:IntKind.wrap .i64 (((c / 10:Nat):Int)+1)=((c / 10+1:Nat):Int):=by rw [wrap_i64 _ (by omega) (by omega)];omega
 have w3:IntKind.wrap .i64 (((c%10:Nat):Int)+1)=((c%10+1:Nat):Int):=by rw [wrap_i64 _ (by omega) (by omega)];omega
 rw [w1,w2,w3,eH (by omega),eH (by omega)]
 show ob (bx (c / 10+1) ((c / 10:Nat):Int)) _=_
 rw [eH (by omega)]
 show ob (bx (c%10+1) ((c%10:Nat):Int)) _=_
 rw [eH (by omega)]
 unfold two
 generalize c / 10=a at *
 generalize c%10=b at *
 have:((List.range 10).all λa=>(List.range 10).all λb=>ob (cat (List.drop a (List.take (a+1) ([48,49,50,51,52,53,54,55,56,57]:aa))) (List.drop b (List.take (b+1) ([48,49,50,51,52,53,54,55,56,57]:aa)))) (λs=>some s)==some [UInt8.ofNat (48+a),UInt8.ofNat (48+b)])=true:=by decide +kernel
 have h3:=(cn.1 ((cn.1 this) a (by simpa using h1))) b (by simpa using h2)
 simpa using h3
theorem K7 {m:aa} (h:∀j,j<21->m≠two (21+j)):sea m=0:=by
 rcases mN m with h0 | ⟨j,hj,e⟩
 ·exact h0
 ·exact absurd e (h j hj)
theorem vD (n:Nat) (g l:Bool) (dg:aa) (x q:Int) (m d:aa) (k0 k1 k2:Int):∀(r j:Nat),j+r=21->(∀i,i<j->m≠two (21+i))->∀N,r<N->
  aw (bu n) N (((21+j:Nat):Int),g,l,dg,x,q,m,d,k0,k1,k2)=some (if sea m=0 then .inr () else .inl (sea m)):=by
 intro r
 induction r with
 | zero=>
  intro j hj hne N hN
  obtain ⟨N,rfl⟩:∃k,N=k+1:=⟨N - 1,by omega⟩
  have hs:sea m=0:=K7 (λi hi=>hne i (by omega))
  rw [aw]
  have:bu n (((21+j:Nat):Int),g,l,dg,x,q,m,d,k0,k1,k2)=some (.inr (.inr ())):=by
   unfold bu
   rw [bE,ab (by show ¬(((21+j:Nat):Int)<=41);omega)]
  rw [this,ad hs]
 | succ r ih=>
  intro j hj hne N hN
  obtain ⟨N,rfl⟩:∃k,N=k+1:=⟨N - 1,by omega⟩
  rw [aw]
  by_cases hm:m=two (21+j)
  ·have hs:sea m=((21+j:Nat):Int):=by rw [hm];exact jx (by omega)
   have:bu n (((21+j:Nat):Int),g,l,dg,x,q,m,d,k0,k1,k2)=some (.inr (.inl ((21+j:Nat):Int))):=by
    unfold bu
    rw [bE,ad (by show ((21+j:Nat):Int)<=41;omega)]
    show ob (aO n ((21+j:Nat):Int)) _=_
    rw [Gu n (by omega)]
    show cond (m==two (21+j)) _ _=_
    rw [ig,ad hm]
   rw [this,hs,ab (by omega)]
  ·have:bu n (((21+j:Nat):Int),g,l,dg,x,q,m,d,k0,k1,k2)=some (.inl (((21+(j+1):Nat):Int),g,l,dg,x,q,m,d,k0,k1,k2)):=by
    unfold bu
    rw [bE,ad (by show ((21+j:Nat):Int)<=41;omega)]
    show ob (aO n ((21+j:Nat):Int)) _=_
    rw [Gu n (by omega)]
    show cond (m==two (21+j)) _ _=_
    rw [ig,ab hm]
    have:IntKind.wrap .i64 (((21+j:Nat):Int)+1)=((21+(j+1):Nat):Int):=by rw [wrap_i64 _ (by omega) (by omega)];omega
    show some (Sum.inl (IntKind.wrap .i64 (((21+j:Nat):Int)+1),_))=_
    rw [this]
   rw [this]
   exact ih (j+1) (by omega) (λi hi=>by
    rcases aH i j with h | h
    ·exact hne i h
    ·have:i=j:=by omega
     rw [this];exact hm) N (by omega)
theorem ka (n:Nat) (hn:100<n) (g l:Bool) (dg:aa) (x q:Int) (m d:aa) (k0 k1 k2:Int):aG n g l dg x q m d k0 k1 k2=some (sea m):=by
 unfold aG
 have:=vD n g l dg x q m d k0 k1 k2 21 0 rfl (λi hi=>absurd hi (by omega)) n (by omega)
 rw [show ((21+0:Nat):Int)=21 from rfl] at this
 rw [this]
 by_cases h:sea m=0
 ·rw [ad h,h];rfl
 ·rw [ab h];rfl
def agr (s:aa) (k:Nat):Bool:=match s with
 | [a,b]=>(a==88||a==UInt8.ofNat (48+k / 10))&&(b==88||b==UInt8.ofNat (48+k%10))
 | _=>false
def dE (s:aa) (g:Nat):Bool:=(List.range g).any λi=>agr s (i+1)
theorem Dp {X Y:Type} {step:X->Option (X⊕Y)} {f:Nat->X} {p:Nat->Bool} {g:Nat} {yes no:Y} (h:∀k,1<=k->k<=g->step (f k)=some (if p k then .inr yes else .inl (f (k+1)))) (he:step (f (g+1))=some (.inr no)) {N:Nat} (hN:g<N):
  aw step N (f 1)=some (if (List.range g).any (λi=>p (i+1)) then yes else no):=by
 have go:∀(r j:Nat),j+r=g->(∀i,i<j->p (i+1)=false)->∀N,r<N->aw step N (f (j+1))=some (if (List.range g).any (λi=>p (i+1)) then yes else no):=by
  intro r
  induction r with
  | zero=>
   intro j hj hne N hN
   obtain ⟨N,rfl⟩:∃k,N=k+1:=⟨N - 1,by omega⟩
   have:(List.range g).any (λi=>p (i+1))=false:=by
    rw [rL]
    intro i hi
    rw [hne i (by have:=iW.1 hi;omega)]
    simp
   rw [aw,show j+1=g+1 by omega,he,this]
   rfl
  | succ r ih=>
   intro j hj hne N hN
   obtain ⟨N,rfl⟩:∃k,N=k+1:=⟨N - 1,by omega⟩
   rw [aw,h (j+1) (by omega) (by omega)]
   cases hp:p (j+1) with
   | true=>
    have:(List.range g).any (λi=>p (i+1))=true:=qd.2 ⟨j,iW.2 (by omega),hp⟩
    rw [this]
    rfl
   | false=>
    exact ih (j+1) (by omega) (λi hi=>by
     rcases aH i j with h | h
     ·exact hne i h
     ·have:i=j:=by omega
      rw [this];exact hp) N (by omega)
 exact go g 0 (by omega) (λi hi=>absurd hi (by omega)) N hN
theorem sW {a:UInt8} {k:Nat} (hk:k<256):((((a.toNat:Nat):Int))==((k:Nat):Int))=(a==UInt8.ofNat k):=by
 have h:(UInt8.ofNat k).toNat=k:=by simp;omega
 rw [<-DV,h]
theorem KN (n:Nat) (a b:UInt8) {g k:Nat} (h1:1<=k) (h2:k<=g) (h3:g<=31):
  cE n ([a,b],(g:Int),(k:Int))=some (if agr [a,b] k then .inr (.inl true) else .inl ([a,b],(g:Int),((k+1:Nat):Int))):=by
 have e1:Int.tdiv (k:Int) 10=((k / 10:Nat):Int):=by
  rw [show (10:Int)=((10:Nat):Int) from rfl,<-Int.ofNat_tdiv]
 have e2:Int.tmod (k:Int) 10=((k%10:Nat):Int):=by
  rw [show (10:Int)=((10:Nat):Int) from rfl,<-Int.ofNat_tmod]
 have w1:IntKind.wrap .u8 (48+IntKind.wrap .u8 (IntKind.wrap .i64 (Int.tdiv (k:Int) 10)))=((48+k / 10:Nat):Int):=by
  rw [e1,wrap_i64 _ (by omega) (by omega),eZ ((k / 10:Nat):Int) (by omega) (by omega),eZ _ (by omega) (by omega)]
  omega
 have w2:IntKind.wrap .u8 (48+IntKind.wrap .u8 (Int.tmod (k:Int) 10))=((48+k%10:Nat):Int):=by
  rw [e2,eZ ((k%10:Nat):Int) (by omega) (by omega),eZ _ (by omega) (by omega)]
  omega
 have w3:IntKind.wrap .i64 ((k:Int)+1)=((k+1:Nat):Int):=by rw [wrap_i64 _ (by omega) (by omega)];omega
 have x88:(88:Int)=((88:Nat):Int):=rfl
 have s0:sx [a,b] 0=some a:=rfl
 have s1:sx [a,b] 1=some b:=rfl
 unfold cE
 rw [bE,ad (show (k:Int)<=(g:Int) by omega)]
 simp only [s0,s1,ob,w1,w2,w3]
 rw [x88,sW (by omega),sW (by omega),sW (by omega),sW (by omega)]
 show _=some (if ((a==UInt8.ofNat 88||a==UInt8.ofNat (48+k / 10))&&(b==UInt8.ofNat 88||b==UInt8.ofNat (48+k%10)))=true then _ else _)
 generalize (a==UInt8.ofNat 88)=p1
 generalize (b==UInt8.ofNat 88)=p2
 generalize (a==UInt8.ofNat (48+k / 10))=p3
 generalize (b==UInt8.ofNat (48+k%10))=p4
 cases p1<;>cases p2<;>cases p3<;>cases p4<;>rfl
theorem zo (n:Nat) (hn:100<n) (s:aa) (g:Nat) (hg:g<=31):cA n s (g:Int)=some (dE s g):=by
 unfold cA
 by_cases hl:s.length=2
 ·obtain ⟨a,b,rfl⟩:∃a b,s=[a,b]:=by
   match s,hl with
   | [a,b],_=>exact ⟨a,b,rfl⟩
  have he:cE n ([a,b],(g:Int),((g+1:Nat):Int))=some (.inr (.inr ())):=by
   unfold cE
   rw [bE,ab (show ¬((g+1:Nat):Int)<=(g:Int) by omega)]
  have:=Dp (f:=λk=>([a,b],(g:Int),((k:Nat):Int))) (p:=agr [a,b]) (g:=g) (N:=n) (λk h1 h2=>KN n a b h1 h2 hg) he (by omega)
  show ob (aw (cE n) n ([a,b],(g:Int),((1:Nat):Int))) _=_
  rw [this]
  unfold dE
  split<;>simp_all [ob]
 ·rw [show (((s.length:Nat):Int) != 2)=true by simp;omega]
  have:dE s g=false:=by
   unfold dE
   rw [rL]
   intro i _
   match s,hl with
   | [],_=>simp [agr]
   | [_],_=>simp [agr]
   | [_,_],h=>exact absurd rfl h
   | _::_::_::_,_=>simp [agr]
  rw [this]
  rfl
theorem sI (n:Nat) (s:aa) (k:Nat) (hk:k<100):di n s (k:Int)=some (if agr s k then 1 else 0):=by
 unfold di
 rw [Gu n hk]
 show cond _ _ _=_
 by_cases hl:s.length=2
 ·obtain ⟨a,b,rfl⟩:∃a b,s=[a,b]:=by
   match s,hl with
   | [a,b],_=>exact ⟨a,b,rfl⟩
  have s0:sx [a,b] 0=some a:=rfl
  have s1:sx [a,b] 1=some b:=rfl
  have t0:sx (two k) 0=some (UInt8.ofNat (48+k / 10)):=rfl
  have t1:sx (two k) 1=some (UInt8.ofNat (48+k%10)):=rfl
  have x88:(88:Int)=((88:Nat):Int):=rfl
  rw [show (((([a,b]:aa).length:Nat):Int)==2)=true from rfl]
  simp only [s0,s1,t0,t1,ob,aj]
  rw [x88,sW (by omega),sW (by omega),DV,DV]
  show _=some (if ((a==UInt8.ofNat 88||a==UInt8.ofNat (48+k / 10))&&(b==UInt8.ofNat 88||b==UInt8.ofNat (48+k%10)))=true then _ else _)
  generalize (a==UInt8.ofNat 88)=p1
  generalize (b==UInt8.ofNat 88)=p2
  generalize (a==UInt8.ofNat (48+k / 10))=p3
  generalize (b==UInt8.ofNat (48+k%10))=p4
  cases p1<;>cases p2<;>cases p3<;>cases p4<;>rfl
 ·rw [show (((s.length:Nat):Int)==2)=false by simp;omega]
  have:agr s k=false:=by
   match s,hl with
   | [],_=>rfl
   | [_],_=>rfl
   | [_,_],h=>exact absurd rfl h
   | _::_::_::_,_=>rfl
  rw [this]
  rfl
theorem Ez (n:Nat) (hn:100<n) (s:aa) (g:Nat) (hg:g<=31):cS n s (g:Int)=some (if dE s g then 1 else 0):=by
 unfold cS
 have he:cQ n (s,(g:Int),((g+1:Nat):Int))=some (.inr (.inr ())):=by
  unfold cQ
  rw [bE,ab (show ¬((g+1:Nat):Int)<=(g:Int) by omega)]
 have:=Dp (f:=λk=>(s,(g:Int),((k:Nat):Int))) (p:=agr s) (g:=g) (N:=n) (step:=cQ n) (yes:=.inl 1) (no:=.inr ()) (λk h1 h2=>by
  unfold cQ
  rw [bE,ad (show (k:Int)<=(g:Int) by omega)]
  show ob (di n s (k:Int)) _=_
  rw [sI n s k (by omega)]
  have w3:IntKind.wrap .i64 ((k:Int)+1)=((k+1:Nat):Int):=by rw [wrap_i64 _ (by omega) (by omega)];omega
  simp only [ob,w3]
  cases agr s k<;>rfl) he (by omega)
 show ob (aw (cQ n) n (s,(g:Int),((1:Nat):Int))) _=_
 rw [this]
 unfold dE
 split<;>simp_all [ob]
theorem vj (n:Nat) {a b:Int} (hb:1<b) (hb2:b<1000) (ha:-4611686018427387904<=a) (ha2:a<4611686018427387904):ko n a b=some (a / b,0):=by
 have n0:(b==0)=false:=by simp;omega
 have n1:(b==-1)=false:=by simp;omega
 unfold ko
 simp only [n0,n1,af]
 have hq:a / b*b+a%b=a:=Int.ediv_mul_add_emod a b
 have hr:=Gm a (show b≠0 by omega)
 have hr2:=Hw a (show 0<b by omega)
 have hq1:-4611686018427387904<=a / b:=by
  rw [Int.le_ediv_iff_mul_le (by omega)]
  have:(-4611686018427387904:Int)*b<=-4611686018427387904*1:=Int.mul_le_mul_of_nonpos_left (by omega) (by omega)
  omega
 have hq2:a / b<4611686018427387904:=by
  rw [Int.ediv_lt_iff_lt_mul (by omega)]
  have:(4611686018427387904:Int)*1<=4611686018427387904*b:=Int.mul_le_mul_of_nonneg_left (by omega) (by omega)
  omega
 by_cases h0:0<=a
 ·have e1:Int.tdiv a b=a / b:=LV h0
  have d1:decide (a<0)=false:=by simp;omega
  have d2:decide (b<0)=false:=by simp;omega
  rw [e1,d1,d2,wrap_i64 (a / b) (by omega) (by omega)]
  cases (Int.tmod a b != 0)<;>rfl
 ·have d1:decide (a<0)=true:=by simp;omega
  have d2:decide (b<0)=false:=by simp;omega
  have e1:=Int.tdiv_eq_ediv (a:=a) (b:=b)
  have e2:=IG (a:=a) (b:=b)
  rw [d1,d2]
  by_cases hd:b∣a
  ·have hm:Int.tmod a b=0:=by
    rw [e2,ad (.inr hd)]
    have:=Int.emod_eq_zero_of_dvd hd
    omega
   rw [hm,e1,ad (.inr hd)]
   rw [Int.add_zero,wrap_i64 (a / b) (by omega) (by omega)]
   rfl
  ·have hm0:a%b≠0:=λh=>hd (Gp h)
   have hm:(Int.tmod a b != 0)=true:=by
    rw [e2,ab (by rintro (h | h);exact h0 h;exact hd h)]
    simp
    omega
   have hs:b.sign=1:=Int.sign_eq_one_of_pos (by omega)
   rw [hm,e1,ab (by rintro (h | h);exact h0 h;exact hd h),hs]
   rw [wrap_i64 (a / b+1) (by omega) (by omega),Int.add_sub_cancel,wrap_i64 (a / b) (by omega) (by omega)]
   rfl
theorem Qr (n:Nat) {a b:Int} (hb:1<b) (hb2:b<1000):tR n a b=some (a%b,0):=by
 have n0:(b==0)=false:=by simp;omega
 have n1:(b==-1)=false:=by simp;omega
 unfold tR
 simp only [n0,n1,af]
 have hr:=Gm a (show b≠0 by omega)
 have hr2:=Hw a (show 0<b by omega)
 have e2:=IG (a:=a) (b:=b)
 have d2:decide (b<0)=false:=by simp;omega
 by_cases hc:0<=a\/b∣a
 ·rw [ad hc] at e2
  have:Int.tmod a b=a%b:=by omega
  rw [this,d2]
  have d1:decide (a%b<0)=false:=by simp;omega
  rw [d1]
  cases h:(a%b != 0)
  ·rfl
  ·rfl
 ·rw [ab hc] at e2
  have hn:(b.natAbs:Int)=b:=by omega
  rw [hn] at e2
  have hm0:a%b≠0:=λh=>hc (.inr (Gp h))
  have hm:(Int.tmod a b != 0)=true:=by simp;omega
  have d1:decide (Int.tmod a b<0)=true:=by simp;omega
  rw [hm,d1,d2,e2,wrap_i64 _ (by omega) (by omega),GN]
  rfl
def db (y:Int):Prop:=-10000000000000000<=y/\y<=10000000000000000
instance (y:Int):Decidable (db y):=by unfold db;infer_instance
theorem fc (n:Nat) (y:Int):gO n y=some (if db y then 0 else 6):=by
 unfold gO
 rw [bE,bE]
 by_cases h1:y < -10000000000000000
 ·rw [ad h1,ab (show ¬db y by unfold db;omega)]
 ·by_cases h2:y>10000000000000000
  ·rw [ab h1,ad h2,ab (show ¬db y by unfold db;omega)]
  ·rw [ab h1,ab h2,ad (show db y by unfold db;omega)]
theorem qA (n:Nat) {y:Int} (h:-20000000000000000<=y/\y<=20000000000000000):∃z,dY n y=some z:=by
 unfold dY
 rw [wrap_i64 (y - 1) (by omega) (by omega),vj n (by omega) (by omega) (by omega) (by omega),vj n (by omega) (by omega) (by omega) (by omega),vj n (by omega) (by omega) (by omega) (by omega)]
 exact ⟨_,rfl⟩
theorem HI (n:Nat) {y:Int} (h:db y):∃b e,jf n y=some (b,e):=by
 unfold jf
 have h':=h
 unfold db at h'
 obtain ⟨z1,e1⟩:=qA n (y:=y+1) (by omega)
 obtain ⟨z2,e2⟩:=qA n (y:=y) (by omega)
 rw [fc,ad h,wrap_i64 (y+1) (by omega) (by omega),e1,e2]
 exact ⟨_,_,rfl⟩
theorem qU (n:Nat) {y:Int} (h:db y) {m:Nat} (h1:1<=m) (h2:m<=12):∃v,du n y (m:Int)=some v:=by
 unfold du
 obtain ⟨b,e,hl⟩:=HI n h
 rw [hl]
 show ∃v,cond (b&&((m:Int)==2)) _ _=some v
 cases (b&&((m:Int)==2)) with
 | true=>exact ⟨_,rfl⟩
 | false=>
  have:IntKind.wrap .i64 ((m:Int) - 1)=((m - 1:Nat):Int):=by rw [wrap_i64 _ (by omega) (by omega)];omega
  rw [this,cY (by omega)]
  have hl:ua.length=12:=rfl
  exact ⟨_,bD (show m - 1<ua.length by omega)⟩
theorem Dv (n:Nat) {y:Int} (h:db y) {m:Nat} (h1:1<=m) (h2:m<=12):jc n y (m:Int)=some 0:=by
 unfold jc
 rw [fc,ad h]
 show cond (decide ((m:Int)<1)) _ _=_
 rw [bE,bE,ab (by omega),ab (by omega)]
theorem FH (n:Nat) {y:Int} (h:db y) {m:Nat} (hm:m<=11):∀(r j:Nat),j+r=m->∀(a:Int) (N:Nat),r<N->∃v,aw (bj n) N (y,a,(m:Int),(j:Int))=some v:=by
 intro r
 induction r with
 | zero=>
  intro j hj a N hN
  obtain ⟨N,rfl⟩:∃k,N=k+1:=⟨N - 1,by omega⟩
  have:bj n (y,a,(m:Int),(j:Int))=some (.inr a):=by
   unfold bj
   rw [bE,ab (show ¬((j:Int)<(m:Int)) by omega)]
  rw [aw,this]
  exact ⟨_,rfl⟩
 | succ r ih=>
  intro j hj a N hN
  obtain ⟨N,rfl⟩:∃k,N=k+1:=⟨N - 1,by omega⟩
  obtain ⟨v,hv⟩:=qU n h (m:=j+1) (by omega) (by omega)
  have w:IntKind.wrap .i64 ((j:Int)+1)=((j+1:Nat):Int):=by rw [wrap_i64 _ (by omega) (by omega)];omega
  have:bj n (y,a,(m:Int),(j:Int))=some (.inl (y,IntKind.wrap .i64 (a+v),(m:Int),((j+1:Nat):Int))):=by
   unfold bj
   rw [bE,ad (show ((j:Int)<(m:Int)) by omega)]
   simp only [w,hv,ob]
  rw [aw,this]
  exact ih (j+1) (by omega) _ N (by omega)
theorem H7 (n:Nat) (hn:100<n) {y:Int} (h:db y) {m:Nat} (h1:1<=m) (h2:m<=12):∃v,dZ n y (m:Int)=some (v,0):=by
 unfold dZ jX ke
 have h':=h
 unfold db at h'
 obtain ⟨z,e⟩:=qA n (y:=y) (by omega)
 have w:IntKind.wrap .i64 ((m:Int) - 1)=((m - 1:Nat):Int):=by rw [wrap_i64 _ (by omega) (by omega)];omega
 rw [Dv n h h1 h2,fc,ad h,e,w]
 obtain ⟨v,hv⟩:=FH n h (m:=m - 1) (by omega) (m - 1) 0 (by omega) (IntKind.wrap .i64 (IntKind.wrap .i64 (365*y)+z)) n (by omega)
 refine ⟨v,?_⟩
 show ob (aw (bj n) n (y,IntKind.wrap .i64 (IntKind.wrap .i64 (365*y)+z),((m - 1:Nat):Int),((0:Nat):Int))) _=_
 rw [hv]
 rfl
theorem madd (n:Nat) {y:Int} (h:db y) {m c:Nat} (h1:1<=m) (h2:m<=12) (hc:1<=c) (hc2:c<=6):mJ n y (m:Int) (IntKind.wrap .i64 ((c:Int) - 1)) =
  some (if 12<m+c - 1 then (if y=10000000000000000 then (0,0,6) else (y+1,((m+c - 1 - 12:Nat):Int),0)) else (y,((m+c - 1:Nat):Int),0)):=by
 have h':=h
 unfold db at h'
 unfold mJ
 rw [Dv n h h1 h2,wrap_i64 (12*y) (by omega) (by omega),wrap_i64 ((m:Int) - 1) (by omega) (by omega),wrap_i64 (12*y+((m:Int) - 1)) (by omega) (by omega),wrap_i64 ((c:Int) - 1) (by omega) (by omega)]
 have ha:pI n (12*y+((m:Int) - 1)) ((c:Int) - 1)=some (12*y+((m:Int) - 1)+((c:Int) - 1),0):=by
  unfold pI
  rw [wrap_i64 (12*y+((m:Int) - 1)+((c:Int) - 1)) (by omega) (by omega),ig]
  by_cases h0:(c:Int) - 1=0
  ·rw [ad h0]
   have d1:decide (12*y+((m:Int) - 1)>12*y+((m:Int) - 1))=false:=by simp
   have d2:decide ((c:Int) - 1>0)=false:=by simp;omega
   rw [d1,d2,h0,Int.add_zero]
   rfl
  ·rw [ab h0]
   have d1:decide (12*y+((m:Int) - 1)+((c:Int) - 1)>12*y+((m:Int) - 1))=true:=by simp;omega
   have d2:decide ((c:Int) - 1>0)=true:=by simp;omega
   rw [d1,d2]
   rfl
 simp only [ob,ha,fh,af]
 rw [vj n (by omega) (by omega) (by omega) (by omega),Qr n (by omega) (by omega)]
 simp only [fc]
 by_cases hb:12<m+c - 1
 ·have e1:(12*y+((m:Int) - 1)+((c:Int) - 1)) / 12=y+1:=by omega
  have e2:(12*y+((m:Int) - 1)+((c:Int) - 1))%12=((m+c - 1 - 12:Nat):Int) - 1:=by omega
  rw [e1,e2,ad hb]
  by_cases hy:y=10000000000000000
  ·rw [ad hy,ab (show ¬db (y+1) by unfold db;omega)]
   rfl
  ·rw [ab hy,ad (show db (y+1) by unfold db;omega),wrap_i64 (((m+c - 1 - 12:Nat):Int) - 1+1) (by omega) (by omega),GN]
   rfl
 ·have e1:(12*y+((m:Int) - 1)+((c:Int) - 1)) / 12=y:=by omega
  have e2:(12*y+((m:Int) - 1)+((c:Int) - 1))%12=((m+c - 1:Nat):Int) - 1:=by omega
  rw [e1,e2,ab hb,ad h,wrap_i64 (((m+c - 1:Nat):Int) - 1+1) (by omega) (by omega),GN]
  rfl
theorem C9 {j:Nat} (hj:j<21):∃m c:Nat,mb[j]?=some ((m:Int),(c:Int))/\1<=m/\m<=12/\1<=c/\c<=6/\(12<m+c - 1↔j=3\/j=7\/j=9):=by
 have:((List.range 21).all λj=>match mb[j]? with
  | some (m,c)=>decide (0<=m)&&decide (0<=c)&&decide (1<=m.toNat)&&decide (m.toNat<=12)&&decide (1<=c.toNat)&&decide (c.toNat<=6)&&(decide (12<m.toNat+c.toNat - 1)==decide (j=3\/j=7\/j=9))
  | none=>false)=true:=by decide +kernel
 have h:=(cn.1 this) j (by simpa using hj)
 split at h
 ·rename_i m c e
  simp only [ay,cg,bN,qM] at h
  obtain ⟨⟨⟨⟨⟨⟨h1,h2⟩,h3⟩,h4⟩,h5⟩,h6⟩,h7⟩:=h
  exact ⟨m.toNat,c.toNat,by rw [e,DX h1,DX h2],h3,h4,h5,h6,h7⟩
 ·cases h
theorem Qb (n:Nat) (hn:100<n) {y:Int} (h:db y) {j:Nat} (hj:j<21):
  ∃a b c d,f8 n y ((21+j:Nat):Int)=some (a,b,c,d,if y=10000000000000000/\(j=3\/j=7\/j=9) then 6 else 0):=by
 obtain ⟨m,c,e,h1,h2,h3,h4,h5⟩:=C9 hj
 have hM:d6 n ((21+j:Nat):Int)=some ((m:Int),(c:Int),0):=by
  unfold d6 cP
  rw [bE,bE,ab (by omega),ab (by omega)]
  have:IntKind.wrap .i64 (((21+j:Nat):Int) - 21)=(j:Int):=by rw [wrap_i64 _ (by omega) (by omega)];omega
  rw [this,cY hj]
  show ob (mb[j]?) _=_
  rw [e]
  rfl
 obtain ⟨v,hv⟩:=H7 n hn h h1 h2
 unfold f8
 rw [hM]
 show ∃a b c d,ob (dZ n y (m:Int)) _=_
 rw [hv]
 show ∃a b c' d,ob (mJ n y (m:Int) (IntKind.wrap .i64 ((c:Int) - 1))) _=_
 rw [madd n h h1 h2 h3 h4]
 have h':=h
 unfold db at h'
 by_cases hb:12<m+c - 1
 ·rw [ad hb]
  by_cases hy:y=10000000000000000
  ·rw [ad hy,ad ⟨hy,h5.1 hb⟩]
   exact ⟨_,_,_,_,rfl⟩
  ·rw [ab hy,ab (λx=>hy x.1)]
   have hc1:db (y+1):=by unfold db;omega
   obtain ⟨v2,hv2⟩:=H7 n hn hc1 (m:=m+c - 1 - 12) (by omega) (by omega)
   obtain ⟨u,hu⟩:=qU n hc1 (m:=m+c - 1 - 12) (by omega) (by omega)
   have hE:fF n (y+1) ((m+c - 1 - 12:Nat):Int)=some (IntKind.wrap .i64 (IntKind.wrap .i64 (v2+u) - 1),0):=by
    unfold fF
    rw [hv2,hu]
    rfl
   show ∃a b c' d,ob (fF n (y+1) ((m+c - 1 - 12:Nat):Int)) _=_
   rw [hE]
   exact ⟨_,_,_,_,rfl⟩
 ·rw [ab hb,ab (λx=>hb (h5.2 x.2))]
  obtain ⟨v2,hv2⟩:=H7 n hn h (m:=m+c - 1) (by omega) (by omega)
  obtain ⟨u,hu⟩:=qU n h (m:=m+c - 1) (by omega) (by omega)
  have hE:fF n y ((m+c - 1:Nat):Int)=some (IntKind.wrap .i64 (IntKind.wrap .i64 (v2+u) - 1),0):=by
   unfold fF
   rw [hv2,hu]
   rfl
  show ∃a b c' d,ob (fF n y ((m+c - 1:Nat):Int)) _=_
  rw [hE]
  exact ⟨_,_,_,_,rfl⟩
def hasB (set:aa) (c:UInt8):Bool:=set.any λd=>d==c
theorem rH (set:aa) (c:UInt8):(decide (Lib.indexByte set c<0))=!hasB set c:=by
 induction set with
 | nil=>simp [Lib.indexByte,hasB]
 | cons d l ih=>
  have hge:=Lib.indexByte_ge l c
  simp only [hasB,List.any_cons] at ih ⊢
  unfold Lib.indexByte
  by_cases h:d=c
  ·simp [h]
  ·have hb:(d==c)=false:=by simpa using h
   simp only [hb,ca,aE,uA]
   rw [<-ih]
   by_cases h1:Lib.indexByte l c=-1
   ·simp [h1]
   ·have hb1:(Lib.indexByte l c==-1)=false:=by simpa using h1
    simp only [hb1,ca,aE]
    have:¬Lib.indexByte l c+1<0:=by omega
    have:¬Lib.indexByte l c<0:=by omega
    simp [*]
theorem sa (set:aa) (c:UInt8):(decide (Lib.indexByte set c>=0))=hasB set c:=by
 have:=rH set c
 by_cases h:Lib.indexByte set c<0
 ·have h2:¬Lib.indexByte set c>=0:=by omega
  simp only [h,h2,nk,nX] at this ⊢
  revert this;cases hasB set c<;>simp
 ·have h2:Lib.indexByte set c>=0:=by omega
  simp only [h,h2,nk,nX] at this ⊢
  revert this;cases hasB set c<;>simp
def pS (p:UInt8->Bool):Nat->aa->Nat
 | 0,_=>0
 | _+1,[]=>0
 | k+1,c::l=>if p c then pS p k l+1 else 0
theorem ll (n:Nat) (set:aa) (c:UInt8):cG n set ((c.toNat:Nat):Int)=some (Lib.indexByte set c):=by
 simp only [cG,ck,ob,SG]
def asc (l:aa):Prop:=∀c∈l,c.toNat<128
theorem HJ (r:Int) (h:128<=r):∃p e,(Utf8.encode r).data.toList=p++[e]/\1<=p.length/\p.length<=3/\128<=e.toNat:=by
 unfold Utf8.encode
 have hc:128<=(if Utf8.valid r then r.toNat else Utf8.runeError):=by
  split
  ·omega
  ·decide
 generalize (if Utf8.valid r then r.toNat else Utf8.runeError)=c at hc
 have he:128<=(UInt8.ofNat (0x80+c%64)).toNat:=by
  simp only [BQ]
  omega
 simp only
 split
 ·omega
 ·split
  ·exact ⟨[_],_,rfl,by simp,by simp,he⟩
  ·split
   ·exact ⟨[_,_],_,rfl,by simp,by simp,he⟩
   ·exact ⟨[_,_,_],_,rfl,by simp,by simp,he⟩
theorem Gn {l:aa} (h:asc l) {i:Nat} {c:UInt8} (hi:l[i]?=some c):c.toNat<128:=h c (eT hi)
theorem zG (n:Nat) (set:aa) (h:asc set) (hn:set.length<n):aw (cV n) n (set,0)=some (.inr ()):=by
 refine gq (step:=cV n) (λx=>x.1=set) (λx=>set.length - x.2) (λx=>.inr ()) ?_ n _ rfl (by simp;omega)
 rintro ⟨s,i⟩ rfl
 simp only [cV]
 by_cases hi:i<s.length
 ·have hb:Nat.blt i s.length=true:=cN hi
  obtain ⟨c,hc⟩:∃c,s[i]?=some c:=⟨s[i],bD hi⟩
  have hlow:=Gn h hc
  have hne:(((c.toNat:Nat):Int)==65533)=false:=by rw [aK];omega
  simp only [hb,aj,Cd hc hlow,hne,af]
  exact .inl ⟨_,rfl,rfl,by simp only;omega,trivial⟩
 ·have hb:Nat.blt i s.length=false:=by
   cases hb:Nat.blt i s.length with
   | false=>rfl
   | true=>exact absurd (aD hb) (by omega)
  simp only [hb,af]
  exact .inr trivial
theorem wn {l:aa} {c:UInt8} (h:c∉l):Lib.indexByte l c<0:=by
 have h1:=rH l c
 have h2:hasB l c=false:=by
  unfold hasB
  rw [rL]
  intro x hx he
  simp only [bN] at he
  exact h (he▸hx)
 rw [h2] at h1
 simpa using h1
theorem zu (n:Nat) (set:aa) (h:asc set) (hn:set.length<n) (hs:set.length<=100) (r:Int) (hr:128<=r):dk n set r=some (-1):=by
 have h0:decide ((0:Int)<=r)=true:=ar (by omega)
 have h1:decide (r<128)=false:=aq (by omega)
 simp only [dk,h0,h1,aj,af]
 by_cases hrr:r=65533
 ·have:(r==65533)=true:=bN.2 hrr
  simp only [this,aj,zG n set h hn,ob]
 ·have:(r==65533)=false:=aK.2 hrr
  simp only [this,af]
  obtain ⟨v,hv⟩:∃v,dc n r=some v:=by
   unfold dc
   generalize decide ((0:Int)<=r)=d1
   generalize decide (r<55296)=d2
   generalize decide ((57343:Int)<r)=d3
   generalize decide (r<=1114111)=d4
   cases d1<;>cases d2<;>cases d3<;>cases d4<;>exact ⟨_,rfl⟩
  simp only [hv,ob]
  cases v with
  | false=>rfl
  | true=>
   simp only [dX,af]
   obtain ⟨p,e,hp,hp1,hp3,he⟩:=HJ r hr
   simp only [hp]
   have hw:IntKind.wrap .i64 (((p++[e]).length:Nat) - 1:Int)=(p.length:Int):=by
    rw [wrap_i64 _ (by simp<;>omega) (by simp<;>omega)];simp
   rw [hw]
   obtain ⟨m,rfl⟩:∃m,n=m+1:=⟨n - 1,by omega⟩
   have hstep:cT (m+1) (set,p++[e],(p.length:Int),(p.length:Int))=some (.inr (.inl (-1)))\/cT (m+1) (set,p++[e],(p.length:Int),(p.length:Int))=some (.inr (.inr ())):=by
    simp only [cT,lR]
    by_cases hl:p.length<set.length
    ·obtain ⟨c,hc⟩:∃c,set[p.length]?=some c:=⟨set[p.length],bD hl⟩
     have hlow:=Gn h hc
     have hpe:(p++[e])[p.length]?=some e:=by simp
     have hne:(((c.toNat:Nat):Int) != ((e.toNat:Nat):Int))=true:=by simp only [bne,jM,aK];omega
     have hw2:IntKind.wrap .i64 ((p.length:Int)+1)=((p.length+1:Nat):Int):=by rw [wrap_i64 _ (by omega) (by omega)];omega
     have hx:e∉List.drop (p.length+1) (List.take set.length set):=by
      intro hm
      have:=h e (by simpa using List.mem_of_mem_drop hm)
      omega
     left
     simp only [hl,nk,aj,lz hc,lz hpe,ob,hne,hw2,eH (show p.length+1<=set.length by omega),ll,wn hx]
    ·right
     simp only [hl,nX,af]
   rcases hstep with hs1 | hs1<;>simp only [aw,hs1,ob]
theorem wk (n:Nat) (set:aa) (c:UInt8) (r:Int) (hr:r=((c.toNat:Nat):Int)) (hc:c.toNat<128):dk n set r=some (Lib.indexByte set c):=by
 have h0:decide ((0:Int)<=r)=true:=ar (by omega)
 have h1:decide (r<128)=true:=ar (by omega)
 have hw:IntKind.wrap .u8 r=r:=eZ _ (by omega) (by omega)
 have hb:cG n set r=some (Lib.indexByte set c):=by rw [hr];exact ll n set c
 simp only [dk,h0,h1,aj,hw,hb,ob]
theorem yc (n:Nat) (set:aa) (c:UInt8) (hc:c.toNat<128):dk n set ((c.toNat:Nat):Int)=some (Lib.indexByte set c):=wk n set c _ rfl hc
theorem tn (n:Nat) (set:aa) (c:UInt8) (hc:c.toNat<128):cX n set ((c.toNat:Nat):Int)=some (hasB set c):=by
 simp only [cX,yc n set c hc,ob,sa]
theorem vq (n:Nat) (set:aa) (h:asc set) (hn:set.length<n) (hs:set.length<=100) (r:Int) (hr:128<=r):cX n set r=some false:=by
 simp only [cX,zu n set h hn hs r hr,ob];rfl
theorem tC (x:Int) (h0:0<=x) (h1:x<65536):IntKind.wrap .u16 x=x:=by
 show x%65536=x
 omega
theorem Ao (w a:Nat):BitVec.ofInt w (a:Int)=BitVec.ofNat w a:=by
 apply BitVec.eq_of_toNat_eq
 simp
theorem NM (k:Nat):(2:Int) ^ k=((2 ^ k:Nat):Int):=by simp
theorem JL (a k:Nat):Int.fdiv (a:Int) (2 ^ k)=((a / 2 ^ k:Nat):Int):=by
 rw [NM k,Int.fdiv_eq_ediv_of_nonneg _ (Int.natCast_nonneg _)]
 rfl
def inR (lo hi:Int) (c:UInt8):Bool:=decide (((c.toNat:Nat):Int)>=lo)&&decide (((c.toNat:Nat):Int)<=hi)
def cnt (lo hi:Int) (l:aa):Nat:=l.countP (inR lo hi)
theorem HV (lo hi:Int) (l:aa):cnt lo hi l<=l.length:=List.countP_le_length
theorem J7 (lo hi:Int) {l:aa} {i:Nat} {c:UInt8} (h:l[i]?=some c):cnt lo hi (l.take (i+1))=cnt lo hi (l.take i)+if inR lo hi c then 1 else 0:=by
 unfold cnt
 rw [n7,h,List.countP_append]
 simp [IU]
theorem EM (n:Nat) (s:aa) (lo hi:Int) (hs:s.length<n) (hb:s.length<100000):fe n s lo hi=some ((cnt lo hi s:Nat):Int):=by
 have:=gq (step:=fJ n) (λx=>∃i:Nat,i<=s.length/\x=(s,lo,hi,((cnt lo hi (s.take i):Nat):Int),(i:Int))) (λx=>s.length - x.2.2.2.2.toNat) (λ_=>((cnt lo hi s:Nat):Int)) ?_ n (s,lo,hi,0,0) ⟨0,by omega,by simp [cnt]⟩ (by simp;omega)
 ·simp only [fe,this,ob]
 rintro x ⟨i,hi',rfl⟩
 rcases aH i s.length with hlt | hge
 ·obtain ⟨c,hc⟩:∃c,s[i]?=some c:=⟨s[i],bD hlt⟩
  have hct:=J7 lo hi hc
  have hle:=HV lo hi (s.take i)
  rw [de] at hle
  have w1:IntKind.wrap .i64 ((i:Int)+1)=((i+1:Nat):Int):=by rw [wrap_i64 _ (by omega) (by omega)];omega
  have w2:IntKind.wrap .i64 (((cnt lo hi (s.take i):Nat):Int)+1)=((cnt lo hi (s.take i)+1:Nat):Int):=by rw [wrap_i64 _ (by omega) (by omega)];omega
  refine .inl ⟨(s,lo,hi,((cnt lo hi (s.take (i+1)):Nat):Int),((i+1:Nat):Int)),?_,⟨i+1,hlt,rfl⟩,by simp only [bT];omega,rfl⟩
  simp only [fJ,lR,hlt,nk,aj,lz hc,ob,w1,w2]
  rw [hct]
  by_cases h1:((c.toNat:Nat):Int)>=lo
  ·by_cases h2:((c.toNat:Nat):Int)<=hi
   ·simp [h1,h2,inR]
   ·simp [h1,h2,inR]
  ·simp [h1,inR]
 ·have:i=s.length:=by omega
  subst this
  refine .inr ?_
  simp only [fJ,lR,BM,nX,af,nH]
theorem Ha (lo hi:Int) (l:aa):cnt lo hi l=l.length↔∀c∈l,inR lo hi c=true:=by
 unfold cnt
 rw [List.countP_eq_length]
theorem KQ (lo hi:Int) (l:aa):cnt lo hi l=0↔∀c∈l,inR lo hi c=false:=by
 unfold cnt
 rw [List.countP_eq_zero]
 simp
def bP (c:UInt8):Bool:=inR 48 57 c
theorem dM (c:UInt8):bP c=true↔48<=c.toNat/\c.toNat<=57:=by
 unfold bP inR
 simp only [ay,cg]
 omega
theorem yK (c:UInt8):inR 88 88 c=true↔c=88:=by
 unfold inR
 simp only [ay,cg]
 constructor
 ·intro h
  apply iq.1
  show c.toNat=88
  omega
 ·rintro rfl;decide
theorem IS (c:UInt8):inR 48 48 c=true↔c=48:=by
 unfold inR
 simp only [ay,cg]
 constructor
 ·intro h
  apply iq.1
  show c.toNat=48
  omega
 ·rintro rfl;decide
theorem Ja:∀l:aa,cnt 48 57 l+cnt 88 88 l<=l.length/\(cnt 48 57 l+cnt 88 88 l=l.length↔∀c∈l,bP c=true\/c=88)
 | []=>by simp [cnt]
 | c::l=>by
  have ih:=Ja l
  have e1:cnt 48 57 (c::l)=cnt 48 57 l+if inR 48 57 c then 1 else 0:=by simp [cnt,IU]
  have e2:cnt 88 88 (c::l)=cnt 88 88 l+if inR 88 88 c then 1 else 0:=by simp [cnt,IU]
  have hd:¬(inR 48 57 c=true/\inR 88 88 c=true):=by
   rintro ⟨h1,h2⟩
   have:=(dM c).1 h1
   rw [(yK c).1 h2] at this
   exact absurd this.2 (by decide)
  rw [e1,e2,aN]
  simp only [cq,yx]
  have hx:=yK c
  have hg:bP c=inR 48 57 c:=rfl
  rw [hg]
  cases h1:inR 48 57 c<;>cases h2:inR 88 88 c
  ·simp only [h1,h2] at hx ⊢
   have:c≠88:=λe=>by simpa using hx.2 e
   simp [this];omega
  ·simp only [h1,h2] at hx ⊢
   have:c=88:=hx.1 trivial
   simp only [this,ca,aT,aE,false_or,iY]
   rw [<-ih.2]
   omega
  ·simp only [h1,h2] at hx ⊢
   simp only [ca,aT,aE,true_or,iY]
   rw [<-ih.2]
   omega
  ·exact absurd ⟨h1,h2⟩ hd
theorem II (n:Nat) (s set:aa) (ha:asc set) (hn:set.length<n) (hl:set.length<=100) (hs:s.length<n):
  ∃y,aw (cb n) n (true,set,s,0)=some y/\((y=.inr ()/\s.all (hasB set)=true)\/∃i:Nat,y=.inl (i:Int)/\s.all (hasB set)=false):=by
 refine mO (step:=cb n) (λx=>x.1=true/\x.2.1=set/\x.2.2.1=s/\s.all (hasB set)=(s.drop x.2.2.2).all (hasB set)) (λx=>s.length - x.2.2.2) _ ?_ n _ ⟨rfl,rfl,rfl,rfl⟩ (by simp only;omega)
 rintro ⟨b,st,s',p⟩ ⟨hb,hst,hs',hall⟩
 simp only at hb hst hs' hall
 rw [hb,hst,hs']
 clear hb hst hs' b st s'
 rcases aH p s.length with hlt | hge
 ·obtain ⟨c,hc⟩:∃c,s[p]?=some c:=⟨s[p],bD hlt⟩
  have hbl:Nat.blt p s.length=true:=cN hlt
  rw [kq hc,m9] at hall
  rcases aH c.toNat 128 with h128 | h128
  ·have hd:=Cd hc h128
   simp only [cb,hbl,aj,iK,hd,tn n set c h128,ob]
   cases hh:hasB set c with
   | true=>
    rw [hh,lW] at hall
    exact .inl ⟨_,rfl,⟨rfl,rfl,rfl,hall⟩,by simp only;omega⟩
   | false=>
    rw [hh,CW] at hall
    exact .inr ⟨_,rfl,.inr ⟨p,rfl,hall⟩⟩
  ·have hd:=Ey hc h128
   have hh:hasB set c=false:=by
    unfold hasB
    rw [rL]
    intro x hx he
    simp only [bN] at he
    have:=ha x hx
    rw [he] at this
    omega
   rw [hh,CW] at hall
   have hcr:=vq n set ha hn hl (((dec s p).1:Nat):Int) (by omega)
   simp only [cb,hbl,aj,iK,hcr,ob]
   exact .inr ⟨_,rfl,.inr ⟨p,rfl,hall⟩⟩
 ·have hbl:Nat.blt p s.length=false:=by
   cases hb:Nat.blt p s.length with
   | false=>rfl
   | true=>exact absurd (aD hb) (by omega)
  simp only [cb,hbl,af]
  rw [rf hge] at hall
  exact .inr ⟨_,rfl,.inl ⟨rfl,by rw [hall];rfl⟩⟩
theorem Gz (n:Nat) (s set:aa) (ha:asc set) (hn:set.length<n) (hl:set.length<=100) (hs:s.length<n):eY n s set=some (s.all (hasB set)):=by
 obtain ⟨y,h1,h2⟩:=II n s set ha hn hl hs
 simp only [eY,kb,ki,h1,ob]
 rcases h2 with ⟨rfl,h3⟩ | ⟨i,rfl,h3⟩
 ·rw [h3];rfl
 ·rw [h3]
  simp only [am,vt]
  omega
theorem JW:asc [48,49,50,51,52,53,54,55,56,57]:=by unfold asc;decide
theorem G6:asc [88,48,49,50,51,52,53,54,55,56,57]:=by unfold asc;decide
theorem zM (p:UInt8->Bool) (h:∀i:Fin 256,p (UInt8.ofNat i.val)=true) (c:UInt8):p c=true:=by
 have:=h ⟨c.toNat,c.toNat_lt⟩
 simpa using this
theorem Iy (c:UInt8):hasB [48,49,50,51,52,53,54,55,56,57] c=bP c:=by
 have:=zM (λc=>hasB [48,49,50,51,52,53,54,55,56,57] c==bP c) (by decide +kernel) c
 simpa using this
theorem Fj (c:UInt8):hasB [88,48,49,50,51,52,53,54,55,56,57] c=(bP c||c==88):=by
 have:=zM (λc=>hasB [88,48,49,50,51,52,53,54,55,56,57] c==(bP c||c==88)) (by decide +kernel) c
 simpa using this
theorem Jj (n:Nat) (s:aa) (hn:100<n) (hs:s.length<n):eY n s [48,49,50,51,52,53,54,55,56,57]=some (s.all bP):=by
 rw [Gz n s _ JW (by simp;omega) (by simp) hs]
 congr 2
 funext c
 exact Iy c
theorem E5 (n:Nat) (s:aa) (hn:100<n) (hs:s.length<n):eY n s [88,48,49,50,51,52,53,54,55,56,57]=some (s.all λc=>bP c||c==88):=by
 rw [Gz n s _ G6 (by simp;omega) (by simp) hs]
 congr 2
 funext c
 exact Fj c
def all0 (s:aa):Bool:=s.all λc=>c==48
theorem Sv (n:Nat) (s:aa) (hs:s.length<n) (hb:s.length<100000):∃y,eN n s 48=some y/\all0 s=all0 y/\y.length<=s.length:=by
 obtain ⟨y,h1,h2⟩:=mO (step:=cJ n) (λx=>x.2=48/\all0 s=all0 x.1/\x.1.length<=s.length) (λx=>x.1.length) (λy=>all0 s=all0 y/\y.length<=s.length) (by
  rintro ⟨l,c⟩ ⟨rfl,h,hl⟩
  simp only at h hl
  by_cases h0:l.length>0
  ·have d0:decide (((l.length:Nat):Int)>0)=true:=ar (by omega)
   have w1:IntKind.wrap .i64 (((l.length:Nat):Int) - 1)=((l.length - 1:Nat):Int):=by rw [wrap_i64 _ (by omega) (by omega)];omega
   obtain ⟨c,hc⟩:∃c,l[l.length - 1]?=some c:=⟨l[l.length - 1],bD (by omega)⟩
   simp only [cJ,d0,aj,w1,lz hc,ob]
   by_cases he:c=48
   ·have e1:(((c.toNat:Nat):Int)==48)=true:=by rw [he];rfl
    simp only [e1,aj,eH (show l.length - 1<=l.length by omega),gk]
    refine .inl ⟨(List.take (l.length - 1) l,48),rfl,⟨rfl,?_,by show (List.take (l.length - 1) l).length<=s.length;rw [de];omega⟩,by show (List.take (l.length - 1) l).length<l.length;rw [de];omega⟩
    rw [h]
    have:l=l.take (l.length - 1)++[c]:=by
     have h2:=n7 (l:=l) (i:=l.length - 1)
     rw [hc,show l.length - 1+1=l.length by omega,nH] at h2
     exact h2
    rw [this]
    simp only [all0,List.all_append,m9,List.all_nil,he]
    simp
   ·have e1:(((c.toNat:Nat):Int)==48)=false:=by
     rw [aK]
     intro e
     exact he (iq.1 (by show c.toNat=48;omega))
    simp only [e1,af]
    exact .inr ⟨_,rfl,h,hl⟩
  ·have d0:decide (((l.length:Nat):Int)>0)=false:=aq (by omega)
   simp only [cJ,d0,af]
   exact .inr ⟨_,rfl,h,hl⟩) n (s,48) ⟨rfl,rfl,aU _⟩ hs
 exact ⟨y,by simp only [eN,h1,ob],h2⟩
theorem Ss (n:Nat) (s:aa) (hs:s.length<n) (hb:s.length<100000):∃y,fj n s 48=some y/\all0 s=(y==[]):=by
 obtain ⟨y,h1,h2⟩:=mO (step:=dT n) (λx=>x.2=48/\all0 s=all0 x.1/\x.1.length<=s.length) (λx=>x.1.length) (λy=>all0 s=(y==[])) (by
  rintro ⟨l,c⟩ ⟨rfl,h,hl⟩
  simp only at h hl
  cases l with
  | nil=>exact .inr ⟨[],rfl,by rw [h];rfl⟩
  | cons c l=>
   have d0:decide ((((c::l).length:Nat):Int)>0)=true:=ar (by simp only [aN];omega)
   have hc:sx (c::l) 0=some c:=by simp [sx]
   simp only [dT,d0,aj,hc,ob]
   by_cases he:c=48
   ·have e1:(((c.toNat:Nat):Int)==48)=true:=by rw [he];rfl
    have hbx:bx (c::l).length 1=some 1:=eH (i:=1) (by simp)
    simp only [e1,aj,hbx,nH,mS,gk]
    refine .inl ⟨_,rfl,⟨rfl,?_,by show l.length<=s.length;simp only [aN] at hl;omega⟩,by simp⟩
    rw [h]
    simp [all0,he]
   ·have e1:(((c.toNat:Nat):Int)==48)=false:=by
     rw [aK]
     intro e
     exact he (iq.1 (by show c.toNat=48;omega))
    simp only [e1,af]
    refine .inr ⟨_,rfl,?_⟩
    rw [h]
    have e2:(c==48)=false:=aK.2 he
    simp [all0,e2]) n (s,48) ⟨rfl,rfl,aU _⟩ hs
 exact ⟨y,by simp only [fj,h1,ob],h2⟩
theorem Na (n:Nat) (s:aa) (hs:s.length<n) (hb:s.length<100000):∃y,mj n s=some y/\(y==[])=all0 s:=by
 unfold mj
 by_cases h:s=[]
 ·subst h;exact ⟨[],rfl,rfl⟩
 ·have:(s==([]:aa))=false:=aK.2 h
  obtain ⟨y,h1,h2,h3⟩:=Sv n s hs hb
  obtain ⟨z,h4,h5⟩:=Ss n y (by omega) (by omega)
  exact ⟨z,by simp only [this,af,h1,h4,ob],by rw [h2,h5]⟩
theorem Kt (s:aa):all0 s=true↔cnt 48 48 s=s.length:=by
 rw [Ha]
 unfold all0
 rw [cn]
 constructor
 ·intro h c hc
  have:=h c hc
  rw [bN] at this
  exact (IS c).2 this
 ·intro h c hc
  rw [bN]
  exact (IS c).1 (h c hc)
def hasX (s:aa):Bool:=s.any λc=>c==88
theorem CQ (s:aa):hasX s=decide (0<cnt 88 88 s):=by
 have:=KQ 88 88 s
 unfold hasX
 cases h:s.any λc=>c==88 with
 | true=>
  obtain ⟨c,hc,he⟩:=qd.1 h
  rw [bN] at he
  symm
  rw [cg]
  rcases yL (cnt 88 88 s) with h0 | h0
  ·have:=this.1 h0 c hc
   rw [(yK c).2 he] at this
   cases this
  ·exact h0
 | false=>
  symm
  rw [vt]
  intro h0
  have:cnt 88 88 s=0:=this.2 λc hc=>by
   cases hx:inR 88 88 c with
   | false=>rfl
   | true=>
    rw [rL] at h
    exact absurd (bN.2 ((yK c).1 hx)) (h c hc)
  omega
theorem Aa (n:Nat) (s:aa):gn n s=some (hasX s):=by
 have e:UInt8.ofNat (Int.toNat 88)=(88:UInt8):=rfl
 have hi:lM n s=some (Lib.indexByte s 88):=by
  simp only [lM,gM,ck,ob,e]
  by_cases h:([88]:aa)=s
  ·subst h;rfl
  ·have:(([88]:aa)==s)=false:=aK.2 h
   simp only [this,af]
 simp only [gn,hi,ob,sa]
 rfl
theorem ru (n:Nat) (g l:Bool) (d:aa) (x q:Int):cw n g l d x q=some (hasX d):=by
 simp only [cw,Aa,ob]
theorem mW (n:Nat) (g l:Bool) (d:aa) (x q:Int) (hs:d.length<n) (hb:d.length<100000):aA n g l d x q=some (if hasX d then 1 else 0):=by
 simp only [aA,EM n d 88 88 hs hb,ob,CQ,cg]
 by_cases h:0<cnt 88 88 d
 ·have:decide (((cnt 88 88 d:Nat):Int)<1)=false:=aq (by omega)
  simp [this,h]
 ·have:decide (((cnt 88 88 d:Nat):Int)<1)=true:=ar (by omega)
  have h0:cnt 88 88 d=0:=by omega
  simp [this,h0]
def to (acc:Nat) (c:UInt8):Nat:=acc*10+(c.toNat - 48)
def dval (acc:Nat) (l:aa):Nat:=l.foldl to acc
theorem nS (acc:Nat):dval acc []=acc:=by unfold dval;rw [EW]
theorem mR (acc:Nat) (c:UInt8) (l:aa):dval acc (c::l)=dval (to acc c) l:=by
 unfold dval;rw [tg]
theorem Ek (l:aa) (acc:Nat) (c:UInt8):dval acc (l++[c])=dval acc l*10+(c.toNat - 48):=by
 have:dval acc (l++[c])=to (dval acc l) c:=by
  unfold dval;rw [EQ,tg,EW]
 rw [this]
 rfl
theorem ND (M:Nat) (hM:10000000000000000000<=M) (l:aa):∀(acc k:Nat),(∀c∈l,bP c=true)->acc<10 ^ k->l.length+k<=18->Lib.parseUintM M acc l=.ok (dval acc l)/\dval acc l<10 ^ (l.length+k):=by
 induction l with
 | nil=>
  intro acc k _ h1 _
  rw [nS]
  refine ⟨rfl,?_⟩
  simpa using h1
 | cons c l ih=>
  intro acc k h h1 h2
  have hc:=(dM c).1 (h c (by simp))
  simp only [aN] at h2
  have hp:(10:Nat) ^ (k+1)=10 ^ k*10:=qO 10 k
  have hle:(10:Nat) ^ (k+1)<=10 ^ 18:=jq (by decide) (by omega)
  have h18:(10:Nat) ^ 18=1000000000000000000:=by decide
  have hd:to acc c=acc*10+(c.toNat - 48):=rfl
  have ih:=ih (to acc c) (k+1) (λd hd=>h d (by simp [hd])) (by omega) (by omega)
  refine ⟨?_,?_⟩
  ·simp only [Lib.parseUintM]
   rw [ad hc,ab (by omega),ab (by omega),<-hd,ih.1,mR]
  ·rw [mR,aN,show l.length+1+k=l.length+(k+1) by omega]
   exact ih.2
theorem FV {l:aa} (h:∀c∈l,bP c=true) (h0:l≠[]) (hl:l.length<=18):vH l=some ((dval 0 l:Nat):Int)/\dval 0 l<10 ^ l.length:=by
 obtain ⟨h1,h2⟩:=ND (2 ^ 64 - 1) (by decide) l 0 0 h (by simp) (by omega)
 refine ⟨?_,by simpa using h2⟩
 have hlt:dval 0 l<10 ^ 18:=mA h2 (jq (by decide) (by omega))
 cases l with
 | nil=>exact absurd rfl h0
 | cons c r=>
  have hc:=(dM c).1 (h c (by simp))
  have hu:Lib.parseUintB 64 (c::r)=.ok (dval 0 (c::r)):=by
   unfold Lib.parseUintB
   rw [ab h0,h1]
  have hs:¬(c.toNat=43\/c.toNat=45):=by omega
  simp only [vH,Lib.parseIntB,hs,aE,hu]
  have h18:(10:Nat) ^ 18=1000000000000000000:=by decide
  have h63:(2:Nat) ^ (64 - 1)=9223372036854775808:=by decide
  have hn:¬c.toNat=45:=by omega
  simp only [hn,BL,iY,vZ,aE]
  rw [h63,ab (by omega)]
theorem JZ (n k:Nat) (hk:k<=18) (hn:18<n):mI n (k:Int)=some (((10 ^ k:Nat):Int),0):=by
 have h18:(10:Nat) ^ 18=1000000000000000000:=by decide
 have:=gq (step:=jD n) (λx=>∃i:Nat,i<=k/\x=(((10 ^ i:Nat):Int),(k:Int),(i:Int))) (λx=>k - x.2.2.toNat) (λ_=>((10 ^ k:Nat):Int)) (by
  rintro x ⟨i,hi,rfl⟩
  rcases aH i k with hlt | hge
  ·have hle:(10:Nat) ^ (i+1)<=10 ^ 18:=jq (by decide) (by omega)
   have hp:(10:Nat) ^ (i+1)=10 ^ i*10:=qO 10 i
   have w1:IntKind.wrap .i64 (((10 ^ i:Nat):Int)*10)=((10 ^ (i+1):Nat):Int):=by rw [wrap_i64 _ (by omega) (by omega)];omega
   have w2:IntKind.wrap .i64 ((i:Int)+1)=((i+1:Nat):Int):=by rw [wrap_i64 _ (by omega) (by omega)];omega
   refine .inl ⟨_,?_,⟨i+1,hlt,rfl⟩,by simp only [bT];omega,rfl⟩
   simp only [jD,lR,hlt,nk,aj,w1,w2]
  ·have:i=k:=by omega
   subst this
   refine .inr ?_
   simp only [jD,lR,BM,nX,af]) n (1,(k:Int),0) ⟨0,by omega,rfl⟩ (by simp;omega)
 have d1:decide ((k:Int)<0)=false:=aq (by omega)
 have d2:decide ((k:Int)>18)=false:=aq (by omega)
 simp only [mI,d1,d2,af,this,ob]
theorem jG (x:Int) (h0:0<=x) (h1:x<18446744073709551616):IntKind.wrap .u64 x=x:=by
 show x%18446744073709551616=x
 omega
theorem CC (x:Int):IntKind.wrap .u64 x=x%18446744073709551616:=rfl
theorem Hu {a:Nat} (ha:a<18446744073709551616):bits .and .u64 (a:Int) 4294967295=((a%4294967296:Nat):Int):=by
 show IntKind.wrap .u64 ((BitVec.ofInt 64 (a:Int) &&& BitVec.ofInt 64 ((4294967295:Nat):Int)).toNat:Int)=_
 rw [Ao,Ao,BitVec.toNat_and,BitVec.toNat_ofNat,BitVec.toNat_ofNat,ou (show a<2 ^ 64 from ha),ou (by decide)]
 have:=Nat.and_two_pow_sub_one_eq_mod a 32
 rw [show (2:Nat) ^ 32 - 1=4294967295 from by decide,show (2:Nat) ^ 32=4294967296 from by decide] at this
 rw [this]
 exact jG _ (by omega) (by omega)
theorem KA (a:Nat):Int.fdiv (a:Int) (2 ^ 32)=((a / 4294967296:Nat):Int):=by
 rw [JL]
theorem D7 {a b A B:Nat} (ha:a<=A) (hb:b<=B):a*b<=A*B:=ug ha hb
theorem GW (a b:Nat):a*b=(a / 4294967296)*(b / 4294967296)*18446744073709551616+((a / 4294967296)*(b%4294967296)+(a%4294967296)*(b / 4294967296))*4294967296+(a%4294967296)*(b%4294967296):=by
 have e1:a=(a / 4294967296)*4294967296+a%4294967296:=by omega
 have e2:b=(b / 4294967296)*4294967296+b%4294967296:=by omega
 generalize a / 4294967296=x1 at e1 ⊢
 generalize a%4294967296=x0 at e1 ⊢
 generalize b / 4294967296=y1 at e2 ⊢
 generalize b%4294967296=y0 at e2 ⊢
 subst e1 e2
 rw [fH,Nat.mul_add,Nat.mul_add]
 have h1:x1*4294967296*(y1*4294967296)=x1*y1*18446744073709551616:=by
  rw [Nat.mul_mul_mul_comm]
 have h2:x1*4294967296*y0=x1*y0*4294967296:=by rw [Nat.mul_right_comm]
 have h3:x0*(y1*4294967296)=x0*y1*4294967296:=by rw [AX]
 rw [h1,h2,h3,fH]
 omega
theorem S4 (n a b:Nat) (ha:a<18446744073709551616) (hb:b<18446744073709551616):jF n (a:Int) (b:Int)=some (((a*b / 18446744073709551616:Nat):Int),((a*b%18446744073709551616:Nat):Int)):=by
 have hsp:=GW a b
 have hx1:a / 4294967296<=4294967295:=by omega
 have hx0:a%4294967296<=4294967295:=by omega
 have hy1:b / 4294967296<=4294967295:=by omega
 have hy0:b%4294967296<=4294967295:=by omega
 have p00:=D7 hx0 hy0
 have p01:=D7 hx0 hy1
 have p10:=D7 hx1 hy0
 have p11:=D7 hx1 hy1
 have hlo:IntKind.wrap .u64 ((a:Int)*(b:Int))=((a*b%18446744073709551616:Nat):Int):=by
  rw [CC,<-Eg];omega
 simp only [jF,KA,Hu ha,Hu hb,hlo]
 simp only [<-Eg]
 generalize (a / 4294967296)*(b / 4294967296)=q11 at *
 generalize (a / 4294967296)*(b%4294967296)=q10 at *
 generalize (a%4294967296)*(b / 4294967296)=q01 at *
 generalize (a%4294967296)*(b%4294967296)=q00 at *
 generalize a*b=N at *
 have w1:IntKind.wrap .u64 ((q00:Nat):Int)=((q00:Nat):Int):=jG _ (by omega) (by omega)
 have w2:IntKind.wrap .u64 ((q10:Nat):Int)=((q10:Nat):Int):=jG _ (by omega) (by omega)
 have w3:IntKind.wrap .u64 ((q01:Nat):Int)=((q01:Nat):Int):=jG _ (by omega) (by omega)
 have w4:IntKind.wrap .u64 ((q11:Nat):Int)=((q11:Nat):Int):=jG _ (by omega) (by omega)
 rw [w1,w2,w3,w4,KA q00]
 have w5:IntKind.wrap .u64 (((q10:Nat):Int)+((q00 / 4294967296:Nat):Int))=((q10+q00 / 4294967296:Nat):Int):=by rw [jG _ (by omega) (by omega)];omega
 rw [w5,KA,Hu (by omega)]
 have w6:IntKind.wrap .u64 (((q11:Nat):Int)+(((q10+q00 / 4294967296) / 4294967296:Nat):Int))=((q11+(q10+q00 / 4294967296) / 4294967296:Nat):Int):=by rw [jG _ (by omega) (by omega)];omega
 have w7:IntKind.wrap .u64 ((((q10+q00 / 4294967296)%4294967296:Nat):Int)+((q01:Nat):Int))=(((q10+q00 / 4294967296)%4294967296+q01:Nat):Int):=by rw [jG _ (by omega) (by omega)];omega
 rw [w6,w7,KA]
 have w8:IntKind.wrap .u64 (((q11+(q10+q00 / 4294967296) / 4294967296:Nat):Int)+((((q10+q00 / 4294967296)%4294967296+q01) / 4294967296:Nat):Int))=((N / 18446744073709551616:Nat):Int):=by
  rw [jG _ (by omega) (by omega)];omega
 rw [w8]
theorem OX (n a b:Nat) (ha:a<9223372036854775808) (hb:b<9223372036854775808):tV n (a:Int) (b:Int)=some (if a*b<9223372036854775808 then (((a*b:Nat):Int),0) else (0,15)):=by
 have d1:decide ((a:Int)<0)=false:=aq (by omega)
 have d2:decide ((b:Int)<0)=false:=aq (by omega)
 have w1:IntKind.wrap .u64 (a:Int)=a:=jG _ (by omega) (by omega)
 have w2:IntKind.wrap .u64 (b:Int)=b:=jG _ (by omega) (by omega)
 simp only [tV,rQ,d1,d2,af,w1,w2,ob,S4 n a b (by omega) (by omega)]
 generalize a*b=N
 by_cases h:18446744073709551616<=N
 ·have d3:decide (((N / 18446744073709551616:Nat):Int)>0)=true:=ar (by omega)
  rw [d3,ab (by omega)]
  rfl
 ·have d3:decide (((N / 18446744073709551616:Nat):Int)>0)=false:=aq (by omega)
  have e:N%18446744073709551616=N:=ou (by omega)
  rw [d3,e]
  simp only [af,BEq.rfl,dX,qx,jB,aj]
  by_cases h2:N<9223372036854775808
  ·have d4:decide (((N:Nat):Int)<=9223372036854775807)=true:=ar (by omega)
   rw [d4,ad h2,aj,wrap_i64 _ (by omega) (by omega)]
  ·have d4:decide (((N:Nat):Int)<=9223372036854775807)=false:=aq (by omega)
   rw [d4,ab h2,af]
def E16:Nat:=10000000000000000
theorem NW {x:Nat} (hx:17<=x):E16<10 ^ x:=by
 have:(10:Nat) ^ 17<=10 ^ x:=jq (by decide) hx
 have h17:(10:Nat) ^ 17=100000000000000000:=by decide
 unfold E16
 omega
theorem Jc (n:Nat) (g l:Bool) (d:aa) (x:Nat) (s:Int) (hd:∀c∈d,bP c=true) (h0:d≠[]) (hl:d.length<=17) (hx:x<=18) (hn:18<n):
  dh n g l d (x:Int) s=some (if dval 0 d*10 ^ x<=E16 then (((dval 0 d*10 ^ x:Nat):Int),0) else (0,6)):=by
 obtain ⟨h1,h2⟩:=FV hd h0 (by omega)
 have hv:dval 0 d<10 ^ 17:=mA h2 (jq (by decide) hl)
 have hp:(10:Nat) ^ x<=10 ^ 18:=jq (by decide) hx
 have h17:(10:Nat) ^ 17=100000000000000000:=by decide
 have h18:(10:Nat) ^ 18=1000000000000000000:=by decide
 have hb:Nat.ble d.length 9223372036854775806=true:=cN (by omega)
 simp only [dh,hb,aj,h1,ob,JZ n x hx hn,fh,af,OX n _ _ (show dval 0 d<9223372036854775808 by omega) (show 10 ^ x<9223372036854775808 by omega)]
 generalize dval 0 d*10 ^ x=N
 unfold E16
 by_cases h:N<9223372036854775808
 ·rw [ad h]
  simp only [fh,af]
  by_cases h3:N<=10000000000000000
  ·have d1:decide (((N:Nat):Int)>10000000000000000)=false:=aq (by omega)
   rw [d1,ad h3,af]
  ·have d1:decide (((N:Nat):Int)>10000000000000000)=true:=ar (by omega)
   rw [d1,ab h3,aj]
 ·rw [ab h,ab (by omega)]
  rfl
def pre (d:aa) (i:Nat):Nat:=dval 0 (d.take i)*10 ^ (i - d.length)
theorem LO {d:aa} {i:Nat} {c:UInt8} (h:d[i]?=some c):pre d (i+1)=10*pre d i+(c.toNat - 48):=by
 have hlt:=um h
 unfold pre
 rw [n7,h,show i+1 - d.length=0 by omega,show i - d.length=0 by omega]
 simp only [Option.toList,Ek,yj,oQ]
 omega
theorem L2 {d:aa} {i:Nat} (h:d.length<=i):pre d (i+1)=10*pre d i:=by
 unfold pre
 rw [gL (show d.length<=i+1 by omega),gL h,show i+1 - d.length=(i - d.length)+1 by omega,qO]
 rw [<-AX]
 omega
theorem D4 (d:aa):∀k i,pre d i<=pre d (i+k)
 | 0,i=>aU _
 | k+1,i=>by
  have ih:=D4 d k i
  rcases aH (i+k) d.length with hlt | hge
  ·have:=LO (bD hlt)
   rw [show i+(k+1)=i+k+1 by omega,this]
   omega
  ·have:=L2 hge
   rw [show i+(k+1)=i+k+1 by omega,this]
   omega
theorem hZ (n:Nat) (d:aa) (x:Nat) (hd:∀c∈d,bP c=true) (hl:d.length<=100) (hx:x<=100) (hn:d.length+x<n):
  ak n d (x:Int)=some (if dval 0 d*10 ^ x<=E16 then (((dval 0 d*10 ^ x:Nat):Int),1) else (0,0)):=by
 have hend:pre d (d.length+x)=dval 0 d*10 ^ x:=by
  unfold pre
  rw [gL (by omega),show d.length+x - d.length=x by omega]
 have w0:IntKind.wrap .i64 (((d.length:Nat):Int)+(x:Int))=((d.length+x:Nat):Int):=by rw [wrap_i64 _ (by omega) (by omega)];omega
 have:=gq (step:=dU n) (λq=>∃i:Nat,i<=d.length+x/\pre d i<=E16/\q=(d,(x:Int),((pre d i:Nat):Int),(i:Int))) (λq=>d.length+x - q.2.2.2.toNat) (λ_=>if dval 0 d*10 ^ x<=E16 then .inr ((dval 0 d*10 ^ x:Nat):Int) else .inl (0,0)) (by
  rintro q ⟨i,hi,hp,rfl⟩
  simp only [dU,w0,lR]
  unfold E16 at hp ⊢
  have w1:IntKind.wrap .i64 ((i:Int)+1)=((i+1:Nat):Int):=by rw [wrap_i64 _ (by omega) (by omega)];omega
  have w2:IntKind.wrap .i64 (10*((pre d i:Nat):Int))=((10*pre d i:Nat):Int):=by rw [wrap_i64 _ (by omega) (by omega)];omega
  by_cases h1:i<d.length+x
  ·have hm:=D4 d (d.length+x - (i+1)) (i+1)
   rw [show i+1+(d.length+x - (i+1))=d.length+x by omega,hend] at hm
   simp only [h1,nk,aj,w1,w2]
   rcases aH i d.length with hlt | hge
   ·obtain ⟨c,hc⟩:∃c,d[i]?=some c:=⟨d[i],bD hlt⟩
    have hdig:=(dM c).1 (hd c (eT hc))
    have hs:=LO hc
    have w3:IntKind.wrap .u8 (((c.toNat:Nat):Int) - 48)=((c.toNat - 48:Nat):Int):=by rw [eZ _ (by omega) (by omega)];omega
    have w4:IntKind.wrap .i64 ((c.toNat - 48:Nat):Int)=((c.toNat - 48:Nat):Int):=wrap_i64 _ (by omega) (by omega)
    have w5:IntKind.wrap .i64 (((10*pre d i:Nat):Int)+((c.toNat - 48:Nat):Int))=((pre d (i+1):Nat):Int):=by rw [wrap_i64 _ (by omega) (by omega)];omega
    simp only [hlt,nk,aj,lz hc,ob,w3,w4,w5]
    by_cases h2:pre d (i+1)<=10000000000000000
    ·have d1:decide (((pre d (i+1):Nat):Int)>10000000000000000)=false:=aq (by omega)
     simp only [d1,af]
     exact .inl ⟨_,rfl,⟨i+1,h1,h2,rfl⟩,by simp only [bT];omega,trivial⟩
    ·have d1:decide (((pre d (i+1):Nat):Int)>10000000000000000)=true:=ar (by omega)
     simp only [d1,aj]
     rw [ab (by omega)]
     exact .inr rfl
   ·have hs:=L2 hge
    have hnl:¬i<d.length:=by omega
    simp only [hnl,nX,af]
    rw [<-hs]
    by_cases h2:pre d (i+1)<=10000000000000000
    ·have d1:decide (((pre d (i+1):Nat):Int)>10000000000000000)=false:=aq (by omega)
     simp only [d1,af]
     exact .inl ⟨_,rfl,⟨i+1,h1,h2,rfl⟩,by simp only [bT];omega,trivial⟩
    ·have d1:decide (((pre d (i+1):Nat):Int)>10000000000000000)=true:=ar (by omega)
     simp only [d1,aj]
     rw [ab (by omega)]
     exact .inr rfl
  ·have:i=d.length+x:=by omega
   subst this
   simp only [BM,nX,af]
   rw [hend] at hp ⊢
   rw [ad hp]
   exact .inr rfl) n (d,(x:Int),0,0) ⟨0,by omega,by unfold pre E16;simp [nS],by unfold pre;simp [nS]⟩ (by simp;omega)
 simp only [ak,this,ob]
 by_cases h:dval 0 d*10 ^ x<=E16
 ·rw [ad h,ad h]
 ·rw [ab h,ab h]
def okM (d:aa) (x:Int):Prop:=(∀c∈d,bP c=true)/\1<=d.length/\d.length<=17/\d.head?≠some 48/\0<=x/\x<=16/\¬(x=0/\d.length<5)/\dval 0 d*10 ^ x.toNat<=E16
def okL (d:aa) (x s:Int):Prop:=okM d x/\0<=s/\s<=(d.length:Int)+x
def okS (g:Bool) (d:aa) (x s:Int):Prop:=d.length=4/\(∀c∈d,bP c=true\/c=88)/\x=0/\¬(g=true/\all0 d=true)/\0<=s/\s<=4/\¬(0<s/\hasX d=true)
def okY (g l:Bool) (d:aa) (x s:Int):Prop:=if l=true then okL d x s else okS g d x s
instance (d:aa) (x:Int):Decidable (okM d x):=by unfold okM;infer_instance
instance (d:aa) (x s:Int):Decidable (okL d x s):=by unfold okL;infer_instance
instance (g:Bool) (d:aa) (x s:Int):Decidable (okS g d x s):=by unfold okS;infer_instance
instance (g l:Bool) (d:aa) (x s:Int):Decidable (okY g l d x s):=by unfold okY;infer_instance
theorem HD (d:aa):d.all bP=true↔∀c∈d,bP c=true:=cn
theorem EO (d:aa):(d.all λc=>bP c||c==88)=true↔∀c∈d,bP c=true\/c=88:=by
 rw [cn]
 constructor
 ·intro h c hc
  have:=h c hc
  simpa using this
 ·intro h c hc
  have:=h c hc
  simpa using this
theorem Rn (c:UInt8):(((c.toNat:Nat):Int)==48)=(c==48):=DV c 48
theorem Og (n:Nat) (g l:Bool) (d:aa) (x s:Int) (hn:200<n) (hd:d.length<=100):aR n g l d x s=some (decide (okM d x)):=by
 unfold aR
 by_cases h1:d.length<1
 ·have e:decide (((d.length:Nat):Int)<1)=true:=ar (by omega)
  rw [e,aq (λh:okM d x=>by have:=h.2.1;omega)];rfl
 ·have e:decide (((d.length:Nat):Int)<1)=false:=aq (by omega)
  rw [e,af]
  by_cases h2:d.length>17
  ·have e:decide (((d.length:Nat):Int)>17)=true:=ar (by omega)
   rw [e,aq (λh:okM d x=>by have:=h.2.2.1;omega)];rfl
  ·have e:decide (((d.length:Nat):Int)>17)=false:=aq (by omega)
   rw [e,af,Jj n d (by omega) (by omega)]
   simp only [ob]
   cases h3:d.all bP with
   | false=>
    rw [aq (λh:okM d x=>by rw [(HD d).2 h.1] at h3;cases h3)];rfl
   | true=>
    have hdig:=(HD d).1 h3
    obtain ⟨c,r,rfl⟩:∃c r,d=c::r:=by
     cases d with
     | nil=>simp at h1
     | cons c r=>exact ⟨c,r,rfl⟩
    have hsx:sx (c::r) 0=some c:=by simp [sx]
    simp only [dX,af,hsx,Rn]
    by_cases h4:c=48
    ·rw [aq (λh:okM (c::r) x=>h.2.2.2.1 (by rw [h4];rfl)),h4];rfl
    ·have e:(c==48)=false:=aK.2 h4
     rw [e,af]
     by_cases h5:x<0
     ·rw [ar h5,aq (λh:okM (c::r) x=>by have:=h.2.2.2.2.1;omega)];rfl
     ·rw [aq h5,af]
      by_cases h6:x>16
      ·rw [ar h6,aq (λh:okM (c::r) x=>by have:=h.2.2.2.2.2.1;omega)];rfl
      ·rw [aq h6,af]
       obtain ⟨k,rfl⟩:∃k:Nat,x=(k:Int):=⟨x.toNat,by omega⟩
       have hmg:=Jc n g l (c::r) k s hdig (by simp) (by omega) (by omega) (by omega)
       rw [hmg]
       have key:¬((k:Int)=0/\(c::r).length<5)->(okM (c::r) (k:Int)↔dval 0 (c::r)*10 ^ k<=E16):=by
        intro hk
        constructor
        ·intro h
         simpa using h.2.2.2.2.2.2.2
        ·intro h
         exact ⟨hdig,by omega,by omega,by simpa using h4,by omega,by omega,hk,by simpa using h⟩
       have fin:¬((k:Int)=0/\(c::r).length<5)->(ob (some (if dval 0 (c::r)*10 ^ k<=E16 then (((dval 0 (c::r)*10 ^ k:Nat):Int),(0:Int)) else (0,6))) λq=>(some (q.2==0)))=some (decide (okM (c::r) (k:Int))):=by
        intro hk
        by_cases h7:dval 0 (c::r)*10 ^ k<=E16
        ·rw [ad h7,ar ((key hk).2 h7)];rfl
        ·rw [ab h7,aq (λh=>h7 ((key hk).1 h))];rfl
       by_cases h8:(k:Int)=0
       ·have e:((k:Int)==0)=true:=bN.2 h8
        rw [e,aj]
        by_cases h9:(c::r).length<5
        ·have e:decide ((((c::r).length:Nat):Int)<5)=true:=ar (by omega)
         rw [e,aq (λh:okM (c::r) (k:Int)=>h.2.2.2.2.2.2.1 ⟨h8,h9⟩)];rfl
        ·have e:decide ((((c::r).length:Nat):Int)<5)=false:=aq (by omega)
         rw [e,af]
         exact fin (λh=>h9 h.2)
       ·have e:((k:Int)==0)=false:=aK.2 h8
        rw [e,af]
        exact fin (λh=>h8 h.1)
theorem J8 (n:Nat) (g l:Bool) (d:aa) (x s:Int) (hn:200<n) (hd:d.length<=100):
  (ob (aR n g l d x s) λr=>(cond (!r) (some (6:Int)) (cond (decide (s<0)) (some 6) (cond (decide (s>(IntKind.wrap .i64 (((d.length:Nat):Int)+x)))) (some 6) (some 0)))))=some (if okL d x s then 0 else 6):=by
 rw [Og n g l d x s hn hd]
 simp only [ob]
 by_cases h:okM d x
 ·rw [ar h]
  have hx:=h.2.2.2.2
  have w:IntKind.wrap .i64 (((d.length:Nat):Int)+x)=((d.length:Nat):Int)+x:=wrap_i64 _ (by omega) (by omega)
  rw [w]
  simp only [dX,af,bE]
  by_cases h1:s<0
  ·rw [ad h1,ab (λq:okL d x s=>by have:=q.2.1;omega)]
  ·rw [ab h1]
   by_cases h2:s>((d.length:Nat):Int)+x
   ·rw [ad h2,ab (λq:okL d x s=>by have:=q.2.2;omega)]
   ·rw [ab h2,ad ⟨h,by omega,by omega⟩]
 ·rw [aq h,ab (λq:okL d x s=>h q.1)];rfl
theorem yU (n:Nat) (g l:Bool) (d:aa) (x s:Int) (hn:200<n) (hd:d.length<=100):bW n g l d x s=some (if okY g l d x s then 0 else 6):=by
 obtain ⟨y,ht,hy⟩:=Na n d (by omega) (by omega)
 unfold bW
 rw [E5 n d (by omega) (by omega),ht,ru]
 cases l with
 | true=>
  have hok:(if okY g true d x s then (0:Int) else 6)=if okL d x s then 0 else 6:=by simp only [okY,aT]
  rw [hok]
  have st:=J8 n g true d x s hn hd
  simp only [aj]
  generalize (ob (aR n g true d x s) λr=>(cond (!r) (some (6:Int)) (cond (decide (s<0)) (some 6) (cond (decide (s>(IntKind.wrap .i64 (((d.length:Nat):Int)+x)))) (some 6) (some 0)))))=T at st ⊢
  simp only [ob]
  rw [st]
  cases (((d.length:Nat):Int)==4)<;>cases (d.all λc=>bP c||c==88)<;>cases (x==0)<;>cases g<;>cases (y==[])<;>cases (s != 0)<;>rfl
 | false=>
  have hok:(if okY g false d x s then (0:Int) else 6)=if okS g d x s then 0 else 6:=by simp only [okY,ca,aE]
  rw [hok]
  simp only [af,ob]
  by_cases h1:d.length=4
  ·have e1:(((d.length:Nat):Int)==4)=true:=bN.2 (by omega)
   rw [e1,aj]
   cases h2:(d.all λc=>bP c||c==88) with
   | false=>
    rw [ab (λq:okS g d x s=>by rw [(EO d).2 q.2.1] at h2;cases h2)];rfl
   | true=>
    have hdX:=(EO d).1 h2
    rw [aj]
    by_cases h3:x=0
    ·subst h3
     have w:IntKind.wrap .i64 (((d.length:Nat):Int)+0)=4:=by rw [h1];decide
     rw [w]
     have tail:¬(g=true/\all0 d=true)->(cond (s != 0) (cond (!(!hasX d)) (some (6:Int)) (cond (decide (s<0)) (some 6) (cond (decide (s>4)) (some 6) (some 0)))) (cond (decide (s<0)) (some 6) (cond (decide (s>4)) (some 6) (some 0))))=some (if okS g d 0 s then 0 else 6):=by
      intro hg
      simp only [bE,tW,Bool.not_not]
      by_cases s0:s=0
      ·subst s0
       rw [ad rfl,ab (by omega),ab (by omega),ad ⟨h1,hdX,rfl,hg,by omega,by omega,by omega⟩]
      ·rw [ab s0]
       cases hX:hasX d with
       | true=>
        by_cases s1:s<0
        ·rw [ab (λq:okS g d 0 s=>by have:=q.2.2.2.2.1;omega)];rfl
        ·rw [ab (λq:okS g d 0 s=>q.2.2.2.2.2.2 ⟨by omega,hX⟩)];rfl
       | false=>
        rw [af]
        by_cases s1:s<0
        ·rw [ad s1,ab (λq:okS g d 0 s=>by have:=q.2.2.2.2.1;omega)]
        ·rw [ab s1]
         by_cases s2:s>4
         ·rw [ad s2,ab (λq:okS g d 0 s=>by have:=q.2.2.2.2.2.1;omega)]
         ·rw [ab s2,ad ⟨h1,hdX,rfl,hg,by omega,by omega,λq=>by rw [hX] at q;cases q.2⟩]
     have e3:((0:Int)==0)=true:=rfl
     rw [e3,aj]
     cases g with
     | false=>
      simp only [af]
      exact tail (by simp)
     | true=>
      simp only [aj]
      rw [hy]
      cases h4:all0 d with
      | true=>rw [ab (λq:okS true d 0 s=>q.2.2.2.1 ⟨rfl,h4⟩)];rfl
      | false=>
       simp only [jB,aj]
       exact tail (by rw [h4];simp)
    ·have e3:(x==0)=false:=aK.2 h3
     rw [e3,ab (λq:okS g d x s=>h3 q.2.2.1)];rfl
  ·have e1:(((d.length:Nat):Int)==4)=false:=aK.2 (by omega)
   rw [e1,ab (λq:okS g d x s=>h1 q.1)];rfl
theorem M9 (d:aa):cnt 48 57 d=d.length↔∀c∈d,bP c=true:=Ha 48 57 d
theorem Au (n:Nat) (g l:Bool) (d:aa) (x s:Int) (hn:200<n) (hd:d.length<=100):bY n g l d x s=some (if okY g l d x s then 1 else 0):=by
 have hs:=Ja d
 have hXc:=CQ d
 have h0c:=Kt d
 have hDc:=M9 d
 unfold bY
 rw [EM n d 48 57 (by omega) (by omega),EM n d 88 88 (by omega) (by omega),EM n d 48 48 (by omega) (by omega)]
 simp only [ob]
 generalize hA:cnt 48 57 d=A at *
 generalize hB:cnt 88 88 d=B at *
 have w0:IntKind.wrap .i64 (((A:Nat):Int)+((B:Nat):Int))=((A+B:Nat):Int):=by rw [wrap_i64 _ (by omega) (by omega)];omega
 rw [w0]
 simp only [tW,bE,KH]
 by_cases h1:A+B=d.length
 ·rw [ad (by omega)]
  have hdX:=hs.2.1 h1
  by_cases h2:s<0
  ·rw [ad h2,ab]
   intro q
   unfold okY at q
   split at q
   ·have:=q.2.1;omega
   ·have:=q.2.2.2.2.1;omega
  ·rw [ab h2]
   cases l with
   | false=>
    have hok:(if okY g false d x s then (1:Int) else 0)=if okS g d x s then 1 else 0:=by simp only [okY,ca,aE]
    rw [hok,af]
    by_cases h3:d.length=4
    ·rw [ad (by omega)]
     by_cases h4:x=0
     ·rw [ad h4]
      have tail:¬(g=true/\all0 d=true)->(if s>4 then some (0:Int) else if s>0 then (if ((B:Nat):Int)>0 then some 0 else some 1) else some 1)=some (if okS g d x s then 1 else 0):=by
       intro hg
       by_cases s2:s>4
       ·rw [ad s2,ab (λq:okS g d x s=>by have:=q.2.2.2.2.2.1;omega)]
       ·rw [ab s2]
        by_cases s3:s>0
        ·rw [ad s3]
         by_cases hb:((B:Nat):Int)>0
         ·rw [ad hb,ab (λq:okS g d x s=>q.2.2.2.2.2.2 ⟨by omega,by rw [hXc];exact ar (by omega)⟩)]
         ·rw [ab hb,ad ⟨h3,hdX,h4,hg,by omega,by omega,λq=>by
           have:=q.2
           rw [hXc,cg] at this
           omega⟩]
        ·rw [ab s3,ad ⟨h3,hdX,h4,hg,by omega,by omega,λq=>by omega⟩]
      cases g with
      | false=>rw [af];exact tail (by simp)
      | true=>
       rw [aj,ig]
       by_cases h5:all0 d=true
       ·rw [ad (by have:=h0c.1 h5;omega),ab (λq:okS true d x s=>q.2.2.2.1 ⟨rfl,h5⟩)]
       ·rw [ab (λq=>h5 (h0c.2 (by omega)))]
        exact tail (λq=>h5 q.2)
     ·rw [ab h4,ab (λq:okS g d x s=>h4 q.2.2.1)]
    ·rw [ab (by omega),ab (λq:okS g d x s=>h3 q.1)]
   | true=>
    have hok:(if okY g true d x s then (1:Int) else 0)=if okL d x s then 1 else 0:=by simp only [okY,aT]
    rw [hok,aj]
    by_cases hb:((B:Nat):Int)>0
    ·rw [ad hb,ab]
     intro q
     have:=hDc.2 q.1.1
     omega
    ·rw [ab hb]
     have hdig:=hDc.1 (by omega)
     by_cases h3:((A:Nat):Int)<1
     ·rw [ad h3,ab (λq:okL d x s=>by have:=q.1.2.1;omega)]
     ·rw [ab h3]
      by_cases h4:((A:Nat):Int)>17
      ·rw [ad h4,ab (λq:okL d x s=>by have:=q.1.2.2.1;omega)]
      ·rw [ab h4]
       obtain ⟨c,r,rfl⟩:∃c r,d=c::r:=by
        cases d with
        | nil=>simp at h1;omega
        | cons c r=>exact ⟨c,r,rfl⟩
       have hsx:sx (c::r) 0=some c:=by simp [sx]
       simp only [hsx,Rn,ig]
       by_cases h5:c=48
       ·rw [ad h5,ab (λq:okL (c::r) x s=>q.1.2.2.2.1 (by rw [h5];rfl))]
       ·rw [ab h5]
        by_cases h6:x<0
        ·rw [ad h6,ab (λq:okL (c::r) x s=>by have:=q.1.2.2.2.2.1;omega)]
        ·rw [ab h6]
         by_cases h7:x>16
         ·rw [ad h7,ab (λq:okL (c::r) x s=>by have:=q.1.2.2.2.2.2.1;omega)]
         ·rw [ab h7]
          obtain ⟨k,rfl⟩:∃k:Nat,x=(k:Int):=⟨x.toNat,by omega⟩
          have w1:IntKind.wrap .i64 (((A:Nat):Int)+(k:Int))=((A+k:Nat):Int):=by rw [wrap_i64 _ (by omega) (by omega)];omega
          rw [w1,hZ n (c::r) k hdig hd (by omega) (by omega)]
          have hlen:(c::r).length=A:=by omega
          have tail:¬((k:Int)=0/\(c::r).length<5)->(if s>((A+k:Nat):Int) then some (0:Int) else some (if dval 0 (c::r)*10 ^ k<=E16 then (((dval 0 (c::r)*10 ^ k:Nat):Int),(1:Int)) else (0,0)).2)=some (if okL (c::r) (k:Int) s then 1 else 0):=by
           intro hk
           by_cases s2:s>((A+k:Nat):Int)
           ·rw [ad s2,ab (λq:okL (c::r) (k:Int) s=>by have:=q.2.2;rw [hlen] at this;omega)]
           ·rw [ab s2]
            by_cases h8:dval 0 (c::r)*10 ^ k<=E16
            ·rw [ad h8,ad ⟨⟨hdig,by omega,by omega,by simpa using h5,by omega,by omega,hk,by simpa using h8⟩,by omega,by omega⟩]
            ·rw [ab h8,ab (λq:okL (c::r) (k:Int) s=>h8 (by simpa using q.1.2.2.2.2.2.2.2))]
          by_cases h8:(k:Int)=0
          ·rw [ad h8]
           by_cases h9:((A:Nat):Int)<5
           ·rw [ad h9,ab (λq:okL (c::r) (k:Int) s=>q.1.2.2.2.2.2.2.1 ⟨h8,by omega⟩)]
           ·rw [ab h9]
            exact tail (λq=>by omega)
          ·rw [ab h8]
           exact tail (λq=>h8 q.1)
 ·rw [ab (by omega),ab]
  intro q
  apply h1
  rw [hs.2]
  unfold okY at q
  split at q
  ·exact λc hc=>.inl (q.1.1 c hc)
  ·exact q.2.1
theorem GI:∀(l:aa) (acc:Nat),acc*10 ^ l.length<=dval acc l
 | [],acc=>by rw [nS];simp
 | c::l,acc=>by
  have ih:=GI l (to acc c)
  rw [mR,aN,qO]
  have h:acc*10<=to acc c:=Nat.le_add_right _ _
  have h2:=mD (10 ^ l.length) h
  have h3:acc*(10 ^ l.length*10)=acc*10*10 ^ l.length:=by rw [ue (10 ^ l.length) 10,AX]
  omega
theorem oz:∀(l:aa) (acc k:Nat),(∀c∈l,bP c=true)->acc<10 ^ k->dval acc l<10 ^ (l.length+k)
 | [],acc,k,_,h=>by rw [nS];simpa using h
 | c::l,acc,k,hd,h=>by
  have hc:=(dM c).1 (hd c (by simp))
  have hp:(10:Nat) ^ (k+1)=10 ^ k*10:=qO 10 k
  have hs:to acc c=acc*10+(c.toNat - 48):=rfl
  have ih:=oz l (to acc c) (k+1) (λd hd'=>hd d (by simp [hd'])) (by omega)
  rw [mR,aN,show l.length+1+k=l.length+(k+1) by omega]
  exact ih
structure Num (d:aa) (k q:Nat):Prop where
 dig:∀c∈d,bP c=true
 ne:d≠[]
 wide:d.length+k<=17
 small:dval 0 d*10 ^ k<=E16
 sig:q<=d.length+k
theorem rJ {d:aa} (h:∀c∈d,bP c=true):hasX d=false:=by
 unfold hasX
 rw [rL]
 intro c hc he
 rw [bN] at he
 have:=(dM c).1 (h c hc)
 rw [he] at this
 exact absurd this.2 (by decide)
theorem qk {g l:Bool} {d:aa} {x s:Int} (h:okY g l d x s) (hX:hasX d=false):∃k q:Nat,x=(k:Int)/\s=(q:Int)/\Num d k q:=by
 cases l with
 | true=>
  have h:okL d x s:=by simpa [okY] using h
  obtain ⟨⟨h1,h2,h3,h4,h5,h6,h7,h8⟩,h9,h10⟩:=h
  refine ⟨x.toNat,s.toNat,by omega,by omega,h1,by intro e;subst e;simp at h2,?_,h8,by omega⟩
  cases d with
  | nil=>simp at h2
  | cons c r=>
   have hc:=(dM c).1 (h1 c (by simp))
   have hne:c≠48:=by simpa using h4
   have hc0:1<=to 0 c:=by
    have:c.toNat≠48:=λe=>hne (iq.1 e)
    show 1<=0*10+(c.toNat - 48)
    omega
   have hg:=GI r (to 0 c)
   rw [<-mR] at hg
   have h9:10 ^ r.length<=dval 0 (c::r):=by
    have:=mD (10 ^ r.length) hc0
    omega
   have h11:=mD (10 ^ x.toNat) h9
   rw [<-Nat.pow_add] at h11
   rcases aH (r.length+x.toNat) 17 with hlt | hge
   ·simp only [aN];omega
   ·have:=NW hge
    omega
 | false=>
  have h:okS g d x s:=by simpa [okY] using h
  obtain ⟨h1,h2,h3,h4,h5,h6,h7⟩:=h
  have hd:∀c∈d,bP c=true:=by
   intro c hc
   rcases h2 c hc with h | h
   ·exact h
   ·exfalso
    unfold hasX at hX
    rw [rL] at hX
    exact hX c hc (bN.2 h)
  have hlt:=oz d 0 0 hd (by simp)
  rw [h1] at hlt
  refine ⟨0,s.toNat,by omega,by omega,hd,by intro e;subst e;simp at h1,by omega,?_,by omega⟩
  have h4:(10:Nat) ^ (4+0)=10000:=by decide
  unfold E16
  simp only [yj,oQ]
  omega
def val (d:aa) (k:Nat):Nat:=dval 0 d*10 ^ k
theorem xO (n:Nat) (g l:Bool) (d:aa) (x s:Int) (hn:200<n) (hd:d.length<=100):
  dB n g l d x s=some (if okY g l d x s/\hasX d=false then (if g then -((val d x.toNat:Nat):Int) else ((val d x.toNat:Nat):Int),0) else (0,6)):=by
 unfold dB
 rw [yU n g l d x s hn hd,ru]
 simp only [ob]
 by_cases h:okY g l d x s
 ·rw [ad h]
  cases hX:hasX d with
  | true=>rw [ab (by simp)];rfl
  | false=>
   rw [ad ⟨h,rfl⟩]
   obtain ⟨k,q,rfl,rfl,hN⟩:=qk h hX
   rw [Jc n g l d k q hN.dig hN.ne (by have:=hN.wide;omega) (by have:=hN.wide;omega) (by omega),ad hN.small]
   have hs:=hN.small
   unfold E16 at hs
   cases g with
   | true=>
    simp only [fh,af,aj,bT,val,aT]
    rw [wrap_i64 _ (by omega) (by omega),xw]
   | false=>simp [val]
 ·rw [ab h,ab (λq=>h q.1)];rfl
theorem bS {a b:aa} (h:a.length+b.length<=1000000):cat a b=some (a++b):=by
 unfold cat;rw [ad (by omega)]
theorem cut1 {l:aa} {i:Nat} {c:UInt8} (h:l[i]?=some c):List.drop i (List.take (i+1) l)=[c]:=by
 have hlt:=um h
 rw [n7,h,D2 (by rw [de];omega)]
 rfl
theorem Nh {l:aa} {i:Nat} {c:UInt8} (h:l[i]?=some c):List.take (i+1) l=List.take i l++[c]:=by
 rw [n7,h];rfl
theorem oU {g l:Bool} {d:aa} {x s:Int} (h:okY g l d x s) (hX:hasX d=true):l=false/\x=0/\s=0/\d.length=4/\∀c∈d,bP c=true\/c=88:=by
 cases l with
 | true=>
  have h:okL d x s:=by simpa [okY] using h
  rw [rJ h.1.1] at hX
  cases hX
 | false=>
  have h:okS g d x s:=by simpa [okY] using h
  obtain ⟨h1,h2,h3,h4,h5,h6,h7⟩:=h
  refine ⟨rfl,h3,?_,h1,h2⟩
  have:¬0<s:=λe=>h7 ⟨e,hX⟩
  omega
theorem iL {g l:Bool} {d:aa} {x s:Int} (h:okY g l d x s):0<=x/\x<=16/\0<=s/\s<=17/\1<=d.length/\d.length<=17:=by
 cases hX:hasX d with
 | true=>
  obtain ⟨rfl,rfl,rfl,hl,_⟩:=oU h hX
  omega
 | false=>
  obtain ⟨k,q,rfl,rfl,hN⟩:=qk h hX
  have h1:=hN.wide
  have h2:=hN.sig
  have h3:1<=d.length:=by
   cases d with
   | nil=>exact absurd rfl hN.ne
   | cons c r=>simp
  omega
theorem Jk {g l:Bool} {d:aa} {x s:Int} (h:okY g l d x s):tc d x s=true:=by
 obtain ⟨h1,h2,h3,h4,h5,h6⟩:=iL h
 unfold tc
 rw [ar (by omega),cN (by omega)]
 rfl
def numU (d:UInt8):aa->Nat⊕(Nat×Nat)
 | []=>.inr (d.toNat - 48,2)
 | e::_=>if bP e=true then .inr (10*(d.toNat - 48)+(e.toNat - 48),3) else .inr (d.toNat - 48,2)
def numT:aa->Nat⊕(Nat×Nat)
 | []=>.inl 1
 | d::r=>if 49<=d.toNat/\d.toNat<=57 then numU d r else .inl 1
def numS (letter:UInt8):aa->Nat⊕(Nat×Nat)
 | []=>.inr (0,0)
 | c::r=>if c=letter then numT r else .inr (0,0)
theorem vI (letter c:UInt8) (r:aa):numS letter (c::r)=if c=letter then numT r else .inr (0,0):=rfl
theorem zy (d:UInt8) (r:aa):numT (d::r)=if 49<=d.toNat/\d.toNat<=57 then numU d r else .inl 1:=rfl
theorem Lm (d:UInt8):numU d []=.inr (d.toNat - 48,2):=rfl
theorem zZ (d e:UInt8) (r:aa):numU d (e::r)=if bP e=true then .inr (10*(d.toNat - 48)+(e.toNat - 48),3) else .inr (d.toNat - 48,2):=rfl
theorem th {c:UInt8} (h:48<=c.toNat/\c.toNat<=57):Lib.digitVal c=some (c.toNat - 48):=by
 unfold Lib.digitVal;rw [ad h]
theorem FB {c:UInt8} (h:48<=c.toNat/\c.toNat<=57) (r:aa):Lib.atoi (c::r)=(Lib.decNat (c::r)).map λ(m:Nat)=>(m:Int):=by
 have e1:(c==45)=false:=by
  rw [aK];rintro rfl;exact absurd h.1 (by decide)
 have e2:(c==43)=false:=by
  rw [aK];rintro rfl;exact absurd h.1 (by decide)
 simp only [Lib.atoi,e1,e2,ca,aE]
theorem Jw {c e:UInt8} (h:48<=c.toNat/\c.toNat<=57) (he:48<=e.toNat/\e.toNat<=57):Lib.atoi [c,e]=some ((10*(c.toNat - 48)+(e.toNat - 48):Nat):Int):=by
 rw [FB h]
 simp only [Lib.decNat,List.isEmpty_cons,ca,aE,Lib.decFrom,th h,th he,dP,Nat.zero_mul,cO]
 rw [ue]
def isDX (c:UInt8):Bool:=bP c||c==88
abbrev YR:=Bool×Bool×aa×Nat×Nat×Nat
def Nc (g:Bool) (o:Nat):aa->Nat⊕YR
 | []=>.inl o
 | c::r=>if 49<=c.toNat/\c.toNat<=57 then
   (match numS 69 ((c::r).drop (1+pS bP 16 r)) with
   | .inl j=>.inl (o+(1+pS bP 16 r)+j)
   | .inr (x,j)=>(match numS 83 ((c::r).drop (1+pS bP 16 r+j)) with
    | .inl i=>.inl (o+(1+pS bP 16 r)+j+i)
    | .inr (s,i)=>.inr (g,true,(c::r).take (1+pS bP 16 r),x,s,o+(1+pS bP 16 r)+j+i)))
  else .inl o
def Hi (g:Bool) (o:Nat) (l:aa):Nat⊕YR:=
 if pS isDX 4 l<4 then .inl (o+pS isDX 4 l) else
  (match numS 83 (l.drop 4) with
  | .inl i=>.inl (o+4+i)
  | .inr (s,i)=>.inr (g,false,l.take 4,0,s,o+4+i))
def va (c:UInt8) (l:aa):Nat:=if l.take 1=[c] then 1 else 0
def Om (l:aa):Nat⊕YR:=
 if va 89 l=1 then Nc (va 45 (l.drop 1)==1) (1+va 45 (l.drop 1)) (l.drop (1+va 45 (l.drop 1)))
 else Hi (va 45 l==1) (va 45 l) (l.drop (va 45 l))
theorem xE (c a:UInt8) (l:aa):va c (a::l)=if a=c then 1 else 0:=by
 unfold va;simp
def wint (c:Int):Bool:=c==24||c==28||c==30
def oH (g:Bool) (d:aa) (x:Int):Bool:=!hasX d&&!g&&decide (val d x.toNat=E16)
def yrB (g:Bool) (d:aa) (x s:Int) (m:aa):Bool:=!(decide (0<s)&&!(m==[]))&&!(wint (sea m)&&oH g d x)
theorem zq (n:Nat) (hn:200<n) (g l:Bool) (dg:aa) (x q:Int) (m d:aa) (k0 k1 k2:Int) (hm:m.length<=18) (hd:dg.length<=100):
  ee n g l dg x q m d k0 k1 k2=some (if okY g l dg x q then yrB g dg x q m else false):=by
 unfold ee
 rw [yU n g l dg x q hn hd,rN n g l dg x q m d k0 k1 k2 hm,ru,xO n g l dg x q hn hd]
 by_cases h:okY g l dg x q
 rotate_left
 ·rw [ab h,ab h];rfl
 rw [ad h,ad h]
 have body:(ob (some (sea m,decide (0<sea m))) λr=>(cond (!r.2) (some true) (ob (some (hasX dg)) λr1=>(cond r1 (some true) (ob (some (if okY g l dg x q/\hasX dg=false then (if g then -((val dg x.toNat:Nat):Int) else ((val dg x.toNat:Nat):Int),(0:Int)) else (0,6))) λr2=>(ob (f8 n r2.1 r.1) λr3=>(some (r3.2.2.2.2==0))))))))=some (!(wint (sea m)&&oH g dg x)):=by
  rcases mN m with h0 | ⟨j,hj,rfl⟩
  ·rw [h0];rfl
  ·have hs:=jx hj
   rw [hs]
   have hp:decide (0<((21+j:Nat):Int))=true:=by simp;omega
   rw [hp]
   cases hX:hasX dg with
   | true=>
    have:oH g dg x=false:=by unfold oH;rw [hX];rfl
    rw [this,Ee]
    rfl
   | false=>
    rw [ad ⟨h,rfl⟩]
    obtain ⟨k,q',rfl,rfl,hN⟩:=qk h hX
    have hv:val dg k<=E16:=hN.small
    unfold E16 at hv
    have hc:db (if g then -((val dg k:Nat):Int) else ((val dg k:Nat):Int)):=by
     unfold db
     cases g<;>simp<;>omega
    obtain ⟨a,b,c,e,hr⟩:=Qb n (by omega) hc hj
    simp only [ob,dX,af,bT]
    rw [hr]
    simp only [am]
    have hw:wint ((21+j:Nat):Int)=decide (j=3\/j=7\/j=9):=by
     unfold wint
     rw [DI]
     simp only [gj,bN,cg]
     omega
    have hl:oH g dg (k:Int)=decide ((if g then -((val dg k:Nat):Int) else ((val dg k:Nat):Int))=10000000000000000):=by
     unfold oH E16
     rw [hX,bT]
     cases g
     ·simp only [jB,lW,ca,aE,qM]
      omega
     ·simp
      omega
    rw [hw,hl]
    by_cases h1:(if g then -((val dg k:Nat):Int) else ((val dg k:Nat):Int))=10000000000000000<;>by_cases h2:j=3\/j=7\/j=9
    ·rw [ad ⟨h1,h2⟩,ar h1,ar h2];rfl
    ·rw [ab (λz=>h2 z.2),aq h2];rfl
    ·rw [ab (λz=>h1 z.1),aq h1,Ee];rfl
    ·rw [ab (λz=>h1 z.1),aq h1,Ee];rfl
 show cond (decide (q>0)) (cond (!(m==[])) (some false) _) _=_
 unfold yrB
 rw [show (decide (q>0))=decide (0<q) from rfl]
 cases decide (0<q) with
 | false=>exact body
 | true=>
  cases (m==[]) with
  | false=>rfl
  | true=>exact body
theorem JS (n:Nat) (hn:200<n) (g l:Bool) (dg:aa) (x q:Int) (m d:aa) (k0 k1 k2:Int) (hd:dg.length<=100):
  gS n g l dg x q m d k0 k1 k2=some (if okY g l dg x q/\yrB g dg x q m=true then 1 else 0):=by
 unfold gS
 rw [Au n g l dg x q hn hd,ka n (by omega) g l dg x q m d k0 k1 k2,mW n g l dg x q (by omega) (by omega)]
 by_cases h:okY g l dg x q
 rotate_left
 ·rw [ab h,ab (show ¬(okY g l dg x q/\yrB g dg x q m=true) from λz=>h z.1)];rfl
 rw [ad h]
 have T:(ob (some (if hasX dg then (1:Int) else 0)) λr=>(cond (r==1) (some (1:Int)) (ob (ak n dg x) λv=>(cond (v.1==10000000000000000) (cond (!g) (some 0) (some 1)) (some 1)))))=some (if oH g dg x then 0 else 1):=by
  cases hX:hasX dg with
  | true=>
   have:oH g dg x=false:=by unfold oH;rw [hX];rfl
   rw [this]
   rfl
  | false=>
   obtain ⟨k,q',rfl,rfl,hN⟩:=qk h hX
   have hv:=hN.small
   have hw:=hN.wide
   have hr:=hZ n dg k hN.dig (by omega) (by omega) (by omega)
   rw [ad hv] at hr
   show ob (ak n dg (k:Int)) _=_
   rw [hr]
   show cond (((dval 0 dg*10 ^ k:Nat):Int)==10000000000000000) _ _=_
   unfold oH val
   rw [hX,bT]
   have e:(((dval 0 dg*10 ^ k:Nat):Int)==10000000000000000)=decide (dval 0 dg*10 ^ k=E16):=by
    generalize dval 0 dg*10 ^ k=v
    unfold E16
    rw [DI]
    simp only [bN,cg]
    omega
   rw [e]
   cases decide (dval 0 dg*10 ^ k=E16)<;>cases g<;>rfl
 have body:(ob (some (sea m)) λr=>(cond (r != 24) (cond (r != 28) (cond (r != 30) (some (1:Int)) (ob (some (if hasX dg then (1:Int) else 0)) λr=>(cond (r==1) (some (1:Int)) (ob (ak n dg x) λv=>(cond (v.1==10000000000000000) (cond (!g) (some 0) (some 1)) (some 1)))))) (ob (some (if hasX dg then (1:Int) else 0)) λr=>(cond (r==1) (some (1:Int)) (ob (ak n dg x) λv=>(cond (v.1==10000000000000000) (cond (!g) (some 0) (some 1)) (some 1)))))) (ob (some (if hasX dg then (1:Int) else 0)) λr=>(cond (r==1) (some (1:Int)) (ob (ak n dg x) λv=>(cond (v.1==10000000000000000) (cond (!g) (some 0) (some 1)) (some 1)))))))=some (if (!(wint (sea m)&&oH g dg x))=true then 1 else 0):=by
  rw [T]
  show cond (sea m != 24) _ _=_
  unfold wint
  simp only [bne]
  cases (sea m==24)<;>cases (sea m==28)<;>cases (sea m==30)<;>cases oH g dg x<;>rfl
 unfold yrB
 show cond (decide (q>0)) (cond (!(m==[])) (some 0) _) _=_
 rw [show (decide (q>0))=decide (0<q) from rfl]
 simp only [h,iY]
 cases decide (0<q) with
 | false=>exact body
 | true=>
  cases (m==[]) with
  | false=>rfl
  | true=>exact body
def bh (m d:aa):Nat:=1+(if m==[] then 0 else 1)+(if d==[] then 0 else 1)
theorem rk (n:Nat) (hn:100<n) (g l:Bool) (dg:aa) (x q:Int) (m d:aa) (k0 k1 k2:Int):bg n g l dg x q m d k0 k1 k2=some ((bh m d:Nat):Int):=by
 obtain ⟨n,rfl⟩:∃j,n=j+3:=⟨n - 3,by omega⟩
 unfold bg bh
 have s0:∀a:Int,bF (n+3) (a,m,d,0)=some (.inl (if m==[] then a else IntKind.wrap .i64 (a+1),m,d,1)):=λa=>by
  unfold bF
  show cond (!(m==[])) _ _=_
  cases (m==[])<;>rfl
 have s1:∀a:Int,bF (n+3) (a,m,d,1)=some (.inl (if d==[] then a else IntKind.wrap .i64 (a+1),m,d,2)):=λa=>by
  unfold bF
  show cond (!(d==[])) _ _=_
  cases (d==[])<;>rfl
 have s2:∀a:Int,bF (n+3) (a,m,d,2)=some (.inr a):=λa=>rfl
 rw [aw,s0]
 show ob (aw _ (n+2) _) _=_
 rw [aw,s1]
 show ob (aw _ (n+1) _) _=_
 rw [aw,s2]
 cases (m==[])<;>cases (d==[])<;>rfl
theorem cr (n:Nat) (g l:Bool) (dg:aa) (x q:Int) (m d:aa) (k0 k1 k2:Int):ah n g l dg x q m d k0 k1 k2=some ((bh m d:Nat):Int):=by
 unfold ah bh
 cases (m==[])<;>cases (d==[])<;>rfl
def allM (a b c:Int) (k:Nat):Int:=if 3<a\/3<b\/3<c\/(k<2/\b≠0)\/(k<3/\c≠0) then 9 else 0
theorem LK (n:Nat) (hn:3<n) (a b c:Int) (k:Nat) (hk:1<=k/\k<=3) (ha:0<=a) (hb:0<=b) (hc:0<=c):
  dA n [a,b,c] (k:Int)=some (allM a b c k)/\bB n [a,b,c] (k:Int)=some (allM a b c k):=by
 obtain ⟨j,rfl⟩:∃j,n=j+4:=⟨n - 4,by omega⟩
 have w1:IntKind.wrap .i64 1=1:=rfl
 have w2:IntKind.wrap .i64 2=2:=rfl
 have w3:IntKind.wrap .i64 3=3:=rfl
 have i0:ix 3 0=some 0:=rfl
 have i1:ix 3 1=some 1:=rfl
 have i2:ix 3 2=some 2:=rfl
 have hk':k=1\/k=2\/k=3:=by omega
 unfold allM
 by_cases cx:a>3
 ·rcases hk' with rfl | rfl | rfl<;>constructor<;>simp [bB,dA,aw,cH,fM,fQ,ob,w1,w2,w3,i0,i1,i2,cx]
 by_cases cy:b>3
 ·rcases hk' with rfl | rfl | rfl<;>constructor<;>simp [bB,dA,aw,cH,fM,fQ,ob,w1,w2,w3,i0,i1,i2,cx,cy]
 by_cases dy:k=1/\b≠0
 ·obtain ⟨rfl,dy⟩:=dy
  have h0:b>0:=by omega
  have eb:(b != 0)=true:=by simp [dy]
  constructor<;>simp [bB,dA,aw,cH,fM,fQ,ob,w1,w2,w3,i0,i1,i2,cx,cy,h0,dy,eb]
 by_cases cz:c>3
 ·rcases hk' with rfl | rfl | rfl<;>(try (simp at dy;subst dy))<;>constructor<;>simp [bB,dA,aw,cH,fM,fQ,ob,w1,w2,w3,i0,i1,i2,cx,cy,cz]
 by_cases dz:k<3/\c≠0
 ·have h0:c>0:=by omega
  have eb:(c != 0)=true:=by simp [dz.2]
  rcases hk' with rfl | rfl | rfl<;>(try (simp at dy;subst dy))<;>simp at dz<;>constructor<;>simp [bB,dA,aw,cH,fM,fQ,ob,w1,w2,w3,i0,i1,i2,cx,cy,cz,h0,dz,eb]
 rcases hk' with rfl | rfl | rfl<;>(try (simp at dy;subst dy))<;>(try (simp at dz;subst dz))<;>constructor<;>simp [bB,dA,aw,cH,fM,fQ,ob,w1,w2,w3,i0,i1,i2,cx,cy,cz]
theorem mh (m d:aa):1<=bh m d/\bh m d<=3:=by
 unfold bh
 cases (m==[])<;>cases (d==[])<;>simp
def yrD (g l:Bool) (dg:aa) (x q:Int) (m:aa):Bool:=if okY g l dg x q then yrB g dg x q m else false
def chkD (g l:Bool) (dg:aa) (x q:Int) (m d:aa) (k0 k1 k2:Int):Int:=
 cond (!(yrD g l dg x q m)) 6 (cond (!(m==[])&&(!(decide (0<sea m))&&!(dE m 12))) 7
  (cond (!(d==[])&&((m==[])||(decide (0<sea m)||!(dE d 31)))) 8 (allM k0 k1 k2 (bh m d))))
theorem MN (m:aa):0<=sea m:=by
 rcases mN m with h | ⟨j,hj,rfl⟩
 ·omega
 ·rw [jx hj];omega
theorem NI (m:aa):(sea m==0)=!(decide (0<sea m)):=by
 have:=MN m
 by_cases h:sea m=0
 ·rw [h];rfl
 ·have h2:0<sea m:=by omega
  rw [aK.2 h,ar h2];rfl
theorem xQ (n:Nat) (hn:200<n) (g l:Bool) (dg:aa) (x q:Int) (m d:aa) (k0 k1 k2:Int) (hm:m.length<=18) (hd:dg.length<=100) (h0:0<=k0) (h1:0<=k1) (h2:0<=k2):
  gW n g l dg x q m d k0 k1 k2=some (chkD g l dg x q m d k0 k1 k2):=by
 have hy:ee n g l dg x q m d k0 k1 k2=some (yrD g l dg x q m):=zq n hn g l dg x q m d k0 k1 k2 hm hd
 have a1:cA n m 12=some (dE m 12):=zo n (by omega) m 12 (by omega)
 have a2:cA n d 31=some (dE d 31):=zo n (by omega) d 31 (by omega)
 have ha:=(LK n (by omega) k0 k1 k2 (bh m d) (mh m d) h0 h1 h2).1
 unfold gW chkD
 rw [rN n g l dg x q m d k0 k1 k2 hm,hy,a1,a2,rk n (by omega)]
 simp only [ob]
 rw [ha]
 generalize yrD g l dg x q m=b1
 generalize (m==[])=b2
 generalize decide (0<sea m)=b3
 generalize dE m 12=b4
 generalize (d==[])=b5
 generalize dE d 31=b6
 cases b1<;>cases b2<;>cases b3<;>cases b4<;>cases b5<;>cases b6<;>rfl
theorem By (n:Nat) (hn:200<n) (g l:Bool) (dg:aa) (x q:Int) (m d:aa) (k0 k1 k2:Int) (hd:dg.length<=100) (h0:0<=k0) (h1:0<=k1) (h2:0<=k2):
  iN n g l dg x q m d k0 k1 k2=some (chkD g l dg x q m d k0 k1 k2):=by
 have hy:gS n g l dg x q m d k0 k1 k2=some (if yrD g l dg x q m then 1 else 0):=by
  rw [JS n hn g l dg x q m d k0 k1 k2 hd]
  unfold yrD
  by_cases h:okY g l dg x q
  ·simp only [h,iY,aT]
  ·simp only [h,vZ,aE];rfl
 have a1:cS n m 12=some (if dE m 12 then 1 else 0):=Ez n (by omega) m 12 (by omega)
 have a2:cS n d 31=some (if dE d 31 then 1 else 0):=Ez n (by omega) d 31 (by omega)
 have ha:=(LK n (by omega) k0 k1 k2 (bh m d) (mh m d) h0 h1 h2).2
 unfold iN chkD
 rw [ka n (by omega) g l dg x q m d k0 k1 k2,hy,a1,a2,cr n]
 simp only [ob]
 rw [ha,NI]
 show cond ((if yrD g l dg x q m then (1:Int) else 0)==0) _ (cond _ (cond _ (cond _ _ (cond _ (cond _ _ (cond (decide (0<sea m)) _ _)) _)) (cond _ (cond _ _ (cond (decide (0<sea m)) _ _)) _)) (cond _ (cond _ _ (cond (decide (0<sea m)) _ _)) _))=_
 generalize yrD g l dg x q m=b1
 generalize (m==[])=b2
 generalize decide (0<sea m)=b3
 generalize dE m 12=b4
 generalize (d==[])=b5
 generalize dE d 31=b6
 cases b1<;>cases b2<;>cases b3<;>cases b4<;>cases b5<;>cases b6<;>rfl
theorem zA {g l:Bool} {dg:aa} {x q:Int} {m d:aa} {k0 k1 k2:Int} (h:chkD g l dg x q m d k0 k1 k2=0):yrD g l dg x q m=true/\(m=[]\/0<sea m\/dE m 12=true)/\(d=[]\/(m≠[]/\sea m=0/\dE d 31=true))/\allM k0 k1 k2 (bh m d)=0:=by
 have hs:=MN m
 unfold chkD at h
 cases b1:yrD g l dg x q m with
 | false=>rw [b1] at h;exact absurd h (by simp)
 | true=>
  rw [b1] at h
  simp only [dX,af] at h
  cases b2:(!(m==[])&&(!(decide (0<sea m))&&!(dE m 12))) with
  | true=>rw [b2] at h;exact absurd h (by simp)
  | false=>
   rw [b2] at h
   simp only [af] at h
   cases b3:(!(d==[])&&((m==[])||(decide (0<sea m)||!(dE d 31)))) with
   | true=>rw [b3] at h;exact absurd h (by simp)
   | false=>
    rw [b3] at h
    simp only [af] at h
    refine ⟨rfl,?_,?_,h⟩
    ·by_cases h1:m=[]
     ·exact .inl h1
     ·by_cases h2:0<sea m
      ·exact .inr (.inl h2)
      ·simp [h1,h2] at b2
       exact .inr (.inr b2)
    ·by_cases h1:d=[]
     ·exact .inl h1
     ·by_cases h2:m=[]
      ·simp [h1,h2] at b3
      ·by_cases h3:0<sea m
       ·simp [h1,h2,h3] at b3
       ·simp [h1,h2,h3] at b3
        exact .inr ⟨h2,by omega,b3⟩
theorem lO {s:aa} {g:Nat} (hg:g<=31) (h:dE s g=true):s.length=2/\∀c∈s,isDX c=true:=by
 unfold dE at h
 obtain ⟨i,hm,hi⟩:=qd.1 h
 have hi31:i<g:=iW.1 hm
 have dig:∀k:Nat,k<10->isDX (UInt8.ofNat (48+k))=true:=by decide
 have h88:isDX 88=true:=by decide
 match s,hi with
 | [],hi=>simp [agr] at hi
 | [_],hi=>simp [agr] at hi
 | [a,b],hi=>
  refine ⟨rfl,?_⟩
  simp only [agr,ay,gj,bN] at hi
  obtain ⟨ha,hb⟩:=hi
  intro c hc
  simp only [cq,pf,qQ] at hc
  rcases hc with rfl | rfl
  ·rcases ha with rfl | rfl
   ·exact h88
   ·exact dig _ (by omega)
  ·rcases hb with rfl | rfl
   ·exact h88
   ·exact dig _ (by omega)
 | _::_::_::_,hi=>simp [agr] at hi
theorem A8 {m:aa} (h:0<sea m):m.length=2/\∀c∈m,isDX c=true:=by
 rcases mN m with h0 | ⟨j,hj,rfl⟩
 ·omega
 ·refine ⟨rfl,?_⟩
  have:((List.range 21).all λj=>(two (21+j)).all isDX)=true:=by decide +kernel
  have:=(cn.1 this) j (by simpa using hj)
  exact cn.1 this
def mt (k:Nat):aa:=if k=1 then [63] else if k=2 then [126] else if k=3 then [37] else []
def QE (k a b c:Nat):Bool:=(decide (k<2)||b==a)&&(decide (k<3)||c==a)
def plA (k a b c:Nat):Nat×Nat×Nat:=if QE k a b c then (0,0,0) else (a,b,c)
def plB (k a b c:Nat):Nat×Nat×Nat:=if QE k a b c then (if k=1 then (a,0,0) else if k=2 then (0,a,0) else (0,0,a)) else (0,0,0)
def l3 (p:Nat×Nat×Nat):List Int:=[(p.1:Int),(p.2.1:Int),(p.2.2:Int)]
theorem AK (n k:Nat) (h:k<4):pJ n (k:Int)=some (mt k,0)/\ct n (k:Int)=some (mt k):=by
 have:k=0\/k=1\/k=2\/k=3:=by omega
 rcases this with rfl | rfl | rfl | rfl<;>exact ⟨rfl,rfl⟩
noncomputable def Ij (m k a b c:Nat):Bool:=
 (nO (m+300) [(a:Int),(b:Int),(c:Int)] (k:Int)==some (l3 (plA k a b c),l3 (plB k a b c),0))&&(iJ (m+300) [(a:Int),(b:Int),(c:Int)] (k:Int)==some (l3 (plA k a b c),l3 (plB k a b c)))
theorem PL (m:Nat):((List.range 4).all λa=>Ij m 1 a 0 0)=true:=by kernel_rfl
theorem Q8 (m:Nat):((List.range 4).all λa=>(List.range 4).all λb=>Ij m 2 a b 0)=true:=by kernel_rfl
theorem QR (m:Nat):((List.range 4).all λa=>(List.range 4).all λb=>(List.range 4).all λc=>Ij m 3 a b c)=true:=by kernel_rfl
theorem r4 {p:Nat->Bool} (h:(List.range 4).all p=true) {a:Nat} (ha:a<4):p a=true:=(cn.1 h) a (iW.2 ha)
theorem PP (m k a b c:Nat) (hk:1<=k/\k<=3) (ha:a<4) (hb:b<4) (hc:c<4) (h1:k<2->b=0) (h2:k<3->c=0):
  nO (m+300) [(a:Int),(b:Int),(c:Int)] (k:Int)=some (l3 (plA k a b c),l3 (plB k a b c),0)/\iJ (m+300) [(a:Int),(b:Int),(c:Int)] (k:Int)=some (l3 (plA k a b c),l3 (plB k a b c)):=by
 have h:Ij m k a b c=true:=by
  have:k=1\/k=2\/k=3:=by omega
  rcases this with rfl | rfl | rfl
  ·rw [h1 (by omega),h2 (by omega)];exact r4 (PL m) ha
  ·rw [h2 (by omega)];exact r4 (r4 (Q8 m) ha) hb
  ·exact r4 (r4 (r4 (QR m) ha) hb) hc
 unfold Ij at h
 simp only [ay,bN] at h
 exact h
theorem QP {k a b c:Nat} (ha:a<4) (hb:b<4) (hc:c<4):(plA k a b c).1<4/\(plA k a b c).2.1<4/\(plA k a b c).2.2<4/\(plB k a b c).1<4/\(plB k a b c).2.1<4/\(plB k a b c).2.2<4:=by
 unfold plA plB
 split
 ·split
  ·simp [ha]
  ·split<;>simp [ha]
 ·simp [ha,hb,hc]
def inM (k:Nat) (A:Nat×Nat×Nat):Prop:=A.1<4/\A.2.1<4/\A.2.2<4/\(k<2->A.2.1=0)/\(k<3->A.2.2=0)
theorem Nu {k:Nat} {A:Nat×Nat×Nat} (h:inM k A):allM (A.1:Int) (A.2.1:Int) (A.2.2:Int) k=0:=by
 obtain ⟨h0,h1,h2,h3,h4⟩:=h
 unfold allM
 rw [ab (by omega)]
abbrev cI (x:Nat):Int:=(x:Int)
def bt (b a:Nat):Nat:=if b=1 then a%2 else a / 2%2
def bts (b:Nat):List Nat->Nat
 | []=>0
 | x::l=>bt b x+bts b l
def hit (k b i:Nat) (al bl:List Nat):Bool:=decide (0<bt b (al.getD i 0)+bts b ((bl.take k).drop i))
def addB (k b:Nat) (al bl:List Nat) (o:List Int):List Int:=[cond (decide (0<k)&&hit k b 0 al bl) (IntKind.wrap .u8 (o.getD 0 0+(b:Int))) (o.getD 0 0),cond (decide (1<k)&&hit k b 1 al bl) (IntKind.wrap .u8 (o.getD 1 0+(b:Int))) (o.getD 1 0),cond (decide (2<k)&&hit k b 2 al bl) (IntKind.wrap .u8 (o.getD 2 0+(b:Int))) (o.getD 2 0)]
theorem cutD (r:Nat) (h:r<10):List.drop r (List.take (r+1) ([48,49,50,51,52,53,54,55,56,57]:aa))=[UInt8.ofNat (48+r)]:=by
 have:∀r,r<10->List.drop r (List.take (r+1) ([48,49,50,51,52,53,54,55,56,57]:aa))=[UInt8.ofNat (48+r)]:=by decide
 exact this r h
theorem DZ {k:Nat} (h:k<10):Lib.decDigits k=[UInt8.ofNat (48+k)]:=by
 rw [Lib.decDigits,dif_pos h]
theorem CM {k:Nat} (h:¬k<10) (h2:k<100):Lib.decDigits k=[UInt8.ofNat (48+k / 10),UInt8.ofNat (48+k%10)]:=by
 rw [Lib.decDigits,dif_neg h,DZ (by omega)];rfl
theorem I0 (n k:Nat) (h:k<100):aB n (k:Int)=some (Lib.decDigits k):=by
 have hm:Int.tmod (k:Int) 10=((k%10:Nat):Int):=rfl
 have hq:Int.tdiv (k:Int) 10=((k / 10:Nat):Int):=rfl
 have w1:IntKind.wrap .i64 (((k%10:Nat):Int)+1)=((k%10+1:Nat):Int):=by rw [wrap_i64 _ (by omega) (by omega)];omega
 have w2:IntKind.wrap .i64 ((k / 10:Nat):Int)=((k / 10:Nat):Int):=wrap_i64 _ (by omega) (by omega)
 have w3:IntKind.wrap .i64 (((k / 10:Nat):Int)+1)=((k / 10+1:Nat):Int):=by rw [wrap_i64 _ (by omega) (by omega)];omega
 simp only [aB,hm,hq,w1,w2,w3,eH (show k%10+1<=10 by omega),eH (show k%10<=k%10+1 by omega),ob,cutD (k%10) (by omega)]
 by_cases h1:k<10
 ·have e:decide ((k:Int)>=10)=false:=aq (by omega)
  rw [e,af,DZ h1,ou h1]
 ·have e:decide ((k:Int)>=10)=true:=ar (by omega)
  rw [e,aj,eH (show k / 10+1<=10 by omega)]
  simp only []
  rw [eH (show k / 10<=k / 10+1 by omega)]
  simp only [cutD (k / 10) (by omega)]
  rw [bS (by simp),CM h1 h]
  rfl
def ed (letter:UInt8) (v:Nat):aa:=if 0<v then letter::Lib.decDigits v else []
theorem Jf {k:Nat} (h:k<100):1<=(Lib.decDigits k).length/\(Lib.decDigits k).length<=2:=by
 by_cases h1:k<10
 ·rw [DZ h1];simp
 ·rw [CM h1 h];simp
theorem uW (letter:UInt8) {k:Nat} (h:k<100):(ed letter k).length<=3:=by
 unfold ed
 split
 ·have:=Jf h;simp only [aN];omega
 ·simp
theorem qK (g l:Bool) (d:aa) (x s:Nat):jN g l d (x:Int) (s:Int)=(if l then [89] else [])++(if g then [45] else [])++d++ed 69 x++ed 83 s:=by
 unfold jN ed
 simp only [bT]
 have e1:(0<(x:Int))=(0<x):=by simp
 have e2:(0<(s:Int))=(0<s):=by simp
 simp only [e1,e2]
theorem JC (n:Nat) (g l:Bool) (d:aa) (x s:Nat) (hx:x<100) (hs:s<100) (hd:d.length<=1000):jm n g l d (x:Int) (s:Int)=some (jN g l d (x:Int) (s:Int)):=by
 have l1:=Jf hx
 have l2:=Jf hs
 have ex:decide ((x:Int)>0)=decide (0<x):=by simp
 have es:decide ((s:Int)>0)=decide (0<s):=by simp
 have tx:∀a:aa,a.length<=1100->(cond (decide (0<x)) (ob (aB n (x:Int)) λr=>(ob (cat ([69]:aa) r) λp=>(cat a p))) (some a))=some (a++ed 69 x):=by
  intro a ha
  unfold ed
  by_cases h:0<x
  ·rw [ar h,aj,ad h,I0 n x hx]
   simp only [ob]
   rw [bS (by simp;omega)]
   simp only []
   rw [bS (by simp;omega)]
   rfl
  ·rw [aq h,ab h];simp
 have ts:∀a:aa,a.length<=1200->(cond (decide (0<s)) (ob (aB n (s:Int)) λr=>(ob (cat ([83]:aa) r) λp=>(ob (cat a p) λq=>(some q)))) (some a))=some (a++ed 83 s):=by
  intro a ha
  unfold ed
  by_cases h:0<s
  ·rw [ar h,aj,ad h,I0 n s hs]
   simp only [ob]
   rw [bS (by simp;omega)]
   simp only []
   rw [bS (by simp;omega)]
   rfl
  ·rw [aq h,ab h];simp
 have both:∀a:aa,a.length<=1100->(cond (decide (0<x)) (ob (aB n (x:Int)) λr=>(ob (cat ([69]:aa) r) λp=>(ob (cat a p) λz=>(cond (decide (0<s)) (ob (aB n (s:Int)) λr=>(ob (cat ([83]:aa) r) λp=>(ob (cat z p) λq=>(some q)))) (some z))))) (cond (decide (0<s)) (ob (aB n (s:Int)) λr=>(ob (cat ([83]:aa) r) λp=>(ob (cat a p) λq=>(some q)))) (some a)))=some (a++ed 69 x++ed 83 s):=by
  intro a ha
  have htx:=tx a ha
  by_cases h:0<x
  ·rw [ar h,aj] at htx ⊢
   rw [I0 n x hx] at htx ⊢
   simp only [ob] at htx ⊢
   rw [bS (a:=[69]) (by simp;omega)] at htx ⊢
   simp only [] at htx ⊢
   rw [htx]
   simp only []
   have:=ts (a++ed 69 x) (by have:=uW 69 hx;simp only [bq];omega)
   simp only [ob] at this
   exact this
  ·rw [aq h,af]
   have hz:ed 69 x=[]:=by unfold ed;rw [ab h]
   rw [hz,sT]
   exact ts a (by omega)
 rw [qK]
 unfold jm
 rw [ex,es]
 cases l<;>cases g
 ·rw [af,af,bS (by simp;omega)]
  exact both d (by omega)
 ·rw [af,aj,bS (by simp;omega)]
  exact both ([45]++d) (by simp;omega)
 ·rw [aj,af,bS (by simp;omega)]
  exact both ([89]++d) (by simp;omega)
 ·rw [aj,aj,bS (by simp;omega)]
  exact both ([89,45]++d) (by simp;omega)
def lp (p:UInt8->Bool) (l:aa):Prop:=∀c,l.head?=some c->p c=false
theorem m5 {k:Nat} (h:k<10):(UInt8.ofNat (48+k)).toNat=48+k:=by
 rw [BQ]
 exact ou (by omega)
theorem zB (letter:UInt8) (v:Nat) (post:aa) (hv:v<100) (h1:lp bP post) (h2:lp (λc=>c==letter) post):numS letter (ed letter v++post)=.inr (v,(ed letter v).length):=by
 unfold ed
 by_cases h0:0<v
 ·rw [ad h0]
  by_cases h9:v<10
  ·rw [DZ h9]
   have hd:=m5 h9
   simp only [eQ,ew]
   rw [vI,ad rfl,zy,ad (by omega)]
   have e48:48+v - 48=v:=by omega
   cases post with
   | nil=>
    rw [Lm,hd,e48]
    rfl
   | cons e r=>
    have he:¬bP e=true:=by rw [h1 e rfl];simp
    rw [zZ,ab he,hd,e48]
    rfl
  ·rw [CM h9 hv]
   have hd:=m5 (show v / 10<10 by omega)
   have he:=m5 (show v%10<10 by omega)
   simp only [eQ,ew]
   rw [vI,ad rfl,zy,ad (by omega),zZ,ad ((dM _).2 (by omega)),hd,he]
   rw [show 10*(48+v / 10 - 48)+(48+v%10 - 48)=v by omega]
   rfl
 ·rw [ab h0]
  have hv0:v=0:=by omega
  subst hv0
  cases post with
  | nil=>rfl
  | cons c r=>
   have hc:c≠letter:=by
    have:=h2 c rfl
    simpa using this
   rw [ew,vI,ab hc]
   rfl
theorem ui {p:UInt8->Bool}:∀(r:aa) (k:Nat) (post:aa),(∀c∈r,p c=true)->r.length<=k->(lp p post\/r.length=k)->pS p k (r++post)=r.length
 | [],0,post,_,_,_=>by simp [pS]
 | [],k+1,post,_,_,h=>by
  cases post with
  | nil=>simp [pS]
  | cons c q=>
   rcases h with h | h
   ·have:=h c rfl
    simp [pS,this]
   ·simp at h
 | c::r,0,post,_,h,_=>by simp at h
 | c::r,k+1,post,hp,hk,h=>by
  have ih:=ui r k post (λd hd=>hp d (by simp [hd])) (by simpa using hk) (by
   rcases h with h | h
   ·exact .inl h
   ·exact .inr (by simpa using h))
  simp only [eQ,pS,hp c (by simp),aT,ih,aN]
theorem pF {letter:UInt8} {v:Nat} {post:aa} {p:UInt8->Bool} (h1:p letter=false) (h2:lp p post):lp p (ed letter v++post):=by
 unfold ed
 intro c hc
 by_cases h:0<v
 ·rw [ad h] at hc
  simp only [eQ,List.head?_cons,am] at hc
  rw [<-hc];exact h1
 ·rw [ab h] at hc
  exact h2 c hc
def isYC (c:UInt8):Bool:=isDX c||c==69||c==83
theorem MW {l:aa} (h:lp isYC l):lp bP l:=λc hc=>by
 have:=h c hc
 unfold isYC isDX at this
 simp only [sY] at this
 exact this.1.1.1
theorem Rx {l:aa} (h:lp isYC l):lp isDX l:=λc hc=>by
 have:=h c hc
 unfold isYC at this
 simp only [sY] at this
 exact this.1.1
theorem R7 {l:aa} (h:lp isYC l):lp (λc=>c==69) l:=λc hc=>by
 have:=h c hc
 unfold isYC at this
 simp only [sY] at this
 exact this.1.2
theorem Si {l:aa} (h:lp isYC l):lp (λc=>c==83) l:=λc hc=>by
 have:=h c hc
 unfold isYC at this
 simp only [sY] at this
 exact this.2
theorem rI (c:UInt8) (l:aa):va c (c::l)=1:=by rw [xE,ad rfl]
theorem pP {c a:UInt8} (h:a≠c) (l:aa):va c (a::l)=0:=by rw [xE,ab h]
theorem Qy {g l:Bool} {d:aa} {x s:Nat} (h:okY g l d (x:Int) (s:Int)) (post:aa) (hp:lp isYC post):Om (jN g l d (x:Int) (s:Int)++post)=.inr (g,l,d,x,s,(jN g l d (x:Int) (s:Int)).length):=by
 have hsm:=iL h
 have n83:numS 83 (ed 83 s++post)=.inr (s,(ed 83 s).length):=zB 83 s post (by omega) (MW hp) (Si hp)
 have hR2:lp bP (ed 83 s++post):=pF (by decide) (MW hp)
 have hR3:lp isDX (ed 83 s++post):=pF (by decide) (Rx hp)
 rw [qK]
 cases l with
 | true=>
  have hL:okL d (x:Int) (s:Int):=by simpa [okY] using h
  obtain ⟨⟨h1,h2,h3,h4,h5,h6,h7,h8⟩,h9,h10⟩:=hL
  obtain ⟨c,r,rfl⟩:∃c r,d=c::r:=by
   cases d with
   | nil=>simp at h2
   | cons c r=>exact ⟨c,r,rfl⟩
  have hcd:=(dM c).1 (h1 c (by simp))
  have hc49:49<=c.toNat/\c.toNat<=57:=by
   have:c.toNat≠48:=λe=>h4 (by rw [show c=48 from iq.1 e];rfl)
   omega
  have hc45:c≠45:=by rintro rfl;exact absurd hcd.1 (by decide)
  have n69:numS 69 (ed 69 x++(ed 83 s++post))=.inr (x,(ed 69 x).length):=zB 69 x _ (by omega) hR2 (pF (by decide) (R7 hp))
  have hsp:pS bP 16 (r++(ed 69 x++(ed 83 s++post)))=r.length:=by
   refine ui r 16 _ (λe he=>h1 e (by simp [he])) (by simp only [aN] at h3;omega) (.inl ?_)
   exact pF (by decide) hR2
  have body:∀o:Nat,Nc g o ((c::r)++(ed 69 x++(ed 83 s++post)))=.inr (g,true,c::r,x,s,o+(1+r.length)+(ed 69 x).length+(ed 83 s).length):=by
   intro o
   simp only [eQ,Nc]
   rw [ad hc49,hsp]
   have e1:List.drop (1+r.length) (c::(r++(ed 69 x++(ed 83 s++post))))=ed 69 x++(ed 83 s++post):=by
    rw [nT,mS,D2 rfl]
   have e2:List.drop (1+r.length+(ed 69 x).length) (c::(r++(ed 69 x++(ed 83 s++post))))=ed 83 s++post:=by
    rw [show 1+r.length+(ed 69 x).length=(r.length+(ed 69 x).length)+1 by omega,mS,<-qo,D2 (by simp)]
   have e3:List.take (1+r.length) (c::(r++(ed 69 x++(ed 83 s++post))))=c::r:=by
    rw [nT,nJ,List.take_left' rfl]
   rw [e1,n69]
   simp only []
   rw [e2,n83,e3]
  unfold Om
  cases g with
  | true=>
   simp only [aT,eQ,ew,qo]
   rw [rI,ad rfl,mS,gk,rI]
   have:=body 2
   simp only [eQ] at this
   simp only [mS,gk,show ((1:Nat)==1)=true from rfl,show 1+1=2 from rfl]
   rw [this]
   simp only [aN,bq]
   congr 6
   omega
  | false=>
   simp only [aT,ca,aE,eQ,ew,qo]
   rw [rI,ad rfl,mS,gk,pP hc45]
   have:=body 1
   simp only [eQ] at this
   simp only [mS,gk,show ((0:Nat)==1)=false from rfl,eA]
   rw [this]
   simp only [aN,bq]
   congr 6
   omega
 | false=>
  have hS:okS g d (x:Int) (s:Int):=by simpa [okY] using h
  obtain ⟨h1,h2,h3,h4,h5,h6,h7⟩:=hS
  have hx0:x=0:=by omega
  subst hx0
  have ht0:ed 69 0=[]:=rfl
  have hdx:∀c∈d,isDX c=true:=λc hc=>by
   unfold isDX
   rcases h2 c hc with q | q
   ·rw [q];rfl
   ·rw [q];simp
  have hsp:pS isDX 4 (d++(ed 83 s++post))=d.length:=ui d 4 _ hdx (by omega) (.inr h1)
  have body:∀o:Nat,Hi g o (d++(ed 83 s++post))=.inr (g,false,d,0,s,o+4+(ed 83 s).length):=by
   intro o
   unfold Hi
   rw [hsp,h1,ab (by omega),D2 h1,n83,List.take_left' h1]
  obtain ⟨c,r,rfl⟩:∃c r,d=c::r:=by
   cases d with
   | nil=>simp at h1
   | cons c r=>exact ⟨c,r,rfl⟩
  have hc45:c≠45:=by
   rintro rfl
   rcases h2 45 (by simp) with q | q
   ·exact absurd ((dM _).1 q).1 (by decide)
   ·exact absurd q (by decide)
  have hc89:c≠89:=by
   rintro rfl
   rcases h2 89 (by simp) with q | q
   ·exact absurd ((dM _).1 q).2 (by decide)
   ·exact absurd q (by decide)
  have h4589:(45:UInt8)≠89:=by decide
  unfold Om
  rw [ht0]
  cases g with
  | true=>
   simp only [aT,ca,aE,eQ,ew,qo]
   rw [pP h4589,ab (by decide),rI,mS,gk]
   have:=body 1
   simp only [eQ] at this
   rw [show ((1:Nat)==1)=true from rfl,this]
   simp only [aN,bq] at h1 ⊢
   congr 6
   omega
  | false=>
   simp only [ca,aE,eQ,ew,qo]
   rw [pP hc89,ab (by decide),pP hc45,gk]
   have:=body 0
   simp only [eQ] at this
   rw [show ((0:Nat)==1)=false from rfl,this]
   simp only [aN,bq] at h1 ⊢
   congr 6
   omega
theorem M7 (n a:Nat) (ha:a<65536):∃d,js n (a:Int)=some d/\d.length=4/\∀c∈d,bP c=true:=by
 have hN:Int.tmod (a:Int) 10000=((a%10000:Nat):Int):=rfl
 have h10:a%10000<10000:=o8 _ (by decide)
 generalize a%10000=N at *
 have e1:Int.tdiv (N:Int) 1000=((N / 1000:Nat):Int):=rfl
 have e2:Int.tdiv (N:Int) 100=((N / 100:Nat):Int):=rfl
 have e3:Int.tdiv (N:Int) 10=((N / 10:Nat):Int):=rfl
 have w1:IntKind.wrap .u16 ((N / 1000:Nat):Int)=((N / 1000:Nat):Int):=tC _ (by omega) (by omega)
 have w2:IntKind.wrap .u16 ((N / 100:Nat):Int)=((N / 100:Nat):Int):=tC _ (by omega) (by omega)
 have w3:IntKind.wrap .u16 ((N / 10:Nat):Int)=((N / 10:Nat):Int):=tC _ (by omega) (by omega)
 have m2:Int.tmod ((N / 100:Nat):Int) 10=((N / 100%10:Nat):Int):=rfl
 have m3:Int.tmod ((N / 10:Nat):Int) 10=((N / 10%10:Nat):Int):=rfl
 have m4:Int.tmod (N:Int) 10=((N%10:Nat):Int):=rfl
 have s:∀r:Nat,r<10->IntKind.wrap .u16 ((r:Int)+1)=((r+1:Nat):Int):=λr hr=>by rw [tC _ (by omega) (by omega)];omega
 refine ⟨[UInt8.ofNat (48+N / 1000),UInt8.ofNat (48+N / 100%10),UInt8.ofNat (48+N / 10%10),UInt8.ofNat (48+N%10)],?_,rfl,?_⟩
 ·simp only [js,hN,e1,e2,e3,w1,w2,w3,m2,m3,m4,s (N / 1000) (by omega),s (N / 100%10) (by omega),s (N / 10%10) (by omega),s (N%10) (by omega),eH (show N / 1000+1<=10 by omega),eH (show N / 1000<=N / 1000+1 by omega),eH (show N / 100%10+1<=10 by omega),eH (show N / 100%10<=N / 100%10+1 by omega),eH (show N / 10%10+1<=10 by omega),eH (show N / 10%10<=N / 10%10+1 by omega),eH (show N%10+1<=10 by omega),eH (show N%10<=N%10+1 by omega),ob,cutD (N / 1000) (by omega),cutD (N / 100%10) (by omega),cutD (N / 10%10) (by omega),cutD (N%10) (by omega)]
  rw [bS (by simp)]
  simp only []
  rw [bS (by simp)]
  simp only []
  rw [bS (by simp)]
  rfl
 ·have d1:∀r:Nat,r<10->bP (UInt8.ofNat (48+r))=true:=λr hr=>(dM _).2 (by rw [m5 hr];omega)
  simp only [cq,pf,qQ,yx,forall_eq]
  exact ⟨d1 _ (by omega),d1 _ (by omega),d1 _ (by omega),d1 _ (by omega)⟩
theorem uD (n:Nat) (g l:Bool) (d:aa) (x s:Int) (hn:200<n) (hd:d.length<=100) (h:okY false l d x s):∃g',(ob (bY n g l d x s) λr=>(cond (r==0) (some (false,l,d,x,s)) (some (g,l,d,x,s))))=some (g',l,d,x,s)/\okY g' l d x s:=by
 rw [Au n g l d x s hn hd]
 by_cases hg:okY g l d x s
 ·rw [ad hg];exact ⟨g,rfl,hg⟩
 ·rw [ab hg];exact ⟨false,rfl,h⟩
theorem vv {d:aa} {s:Int} (h1:d.length=4) (h2:∀c∈d,bP c=true\/c=88) (h3:0<=s) (h4:s<=4) (h5:¬(0<s/\hasX d=true)):okY false false d 0 s:=by
 have:okS false d 0 s:=⟨h1,h2,rfl,by simp,h3,h4,h5⟩
 simpa [okY] using this
theorem OC (n:Nat) (a b:Int) (g:Bool) (d:aa) (hl:d.length=4) (hd:∀c∈d,bP c=true) (hn:4<n):
  ∃s:aa,aw (eO n) n (a,b,[],0,false,false,[],0,0,g,false,d,0,0)=some (s,false,false,[],0,0,g,false,d,0,0)/\s.length=4/\∀c∈s,bP c=true\/c=88:=by
 obtain ⟨y,h1,s,h2,h3,h4⟩:=mO (step:=eO n) (λx=>∃(i:Nat) (s:aa),i<=4/\s.length=i/\(∀c∈s,bP c=true\/c=88)/\x=(a,b,s,(i:Int),false,false,[],0,0,g,false,d,0,0)) (λx=>4 - x.2.2.2.1.toNat) (λy=>∃s:aa,y=(s,false,false,[],0,0,g,false,d,0,0)/\s.length=4/\∀c∈s,bP c=true\/c=88) (by
  rintro x ⟨i,s,hi,hs,hc,rfl⟩
  rcases aH i 4 with hlt | hge
  ·obtain ⟨c,hgc⟩:∃c,d[i]?=some c:=⟨d[i],bD (by omega)⟩
   have d1:decide ((i:Int)<4)=true:=ar (by omega)
   have w1:IntKind.wrap .i64 ((i:Int)+1)=((i+1:Nat):Int):=by rw [wrap_i64 _ (by omega) (by omega)];omega
   have next:∀e:UInt8,(bP e=true\/e=88)->∃x',some (Sum.inl (a,b,s++[e],((i+1:Nat):Int),false,false,([]:aa),(0:Int),(0:Int),g,false,d,(0:Int),(0:Int)))=some (Sum.inl (β:=aa×Bool×Bool×aa×Int×Int×Bool×Bool×aa×Int×Int) x')/\(∃(i:Nat) (s:aa),i<=4/\s.length=i/\(∀c∈s,bP c=true\/c=88)/\x'=(a,b,s,(i:Int),false,false,[],0,0,g,false,d,0,0))/\4 - x'.2.2.2.1.toNat<4 - i:=by
    intro e he
    refine ⟨_,rfl,⟨i+1,s++[e],hlt,by simp [hs],?_,rfl⟩,by simp only [bT];omega⟩
    intro c' hc'
    rcases jY.1 hc' with q | q
    ·exact hc c' q
    ·simp only [cq,pf,qQ] at q
     rw [q];exact he
   simp only [eO,d1,aj,w1,bT,eH (show i+1<=d.length by omega),eH (show i<=i+1 by omega),ob,cut1 hgc]
   rw [bS (a:=s) (b:=[88]) (by simp;omega),bS (a:=s) (b:=[c]) (by simp;omega)]
   simp only []
   left
   cases ((i:Int)==a)
   ·cases ((i:Int)==b)
    ·exact next c (.inl (hd c (eT hgc)))
    ·exact next 88 (.inr rfl)
   ·exact next 88 (.inr rfl)
  ·have:i=4:=by omega
   subst this
   exact .inr ⟨_,rfl,s,rfl,hs,hc⟩) n (a,b,[],0,false,false,[],0,0,g,false,d,0,0) ⟨0,[],by omega,rfl,by simp,rfl⟩ (by simp;omega)
 exact ⟨s,by rw [h1,h2],h3,h4⟩
theorem cut9 (r:Nat) (h:r<9):List.drop r (List.take (r+1) ([49,50,51,52,53,54,55,56,57]:aa))=[UInt8.ofNat (49+r)]:=by
 have:∀r,r<9->List.drop r (List.take (r+1) ([49,50,51,52,53,54,55,56,57]:aa))=[UInt8.ofNat (49+r)]:=by decide
 exact this r h
theorem C0 {d:aa} {x s:Nat} (h1:∀c∈d,bP c=true) (h2:1<=d.length) (h3:d.length<=5) (h4:d.head?≠some 48) (h5:x<=11) (h6:x=0->d.length=5) (h7:s<=d.length+x):okY false true d (x:Int) (s:Int):=by
 have hlt:=oz d 0 0 h1 (by simp)
 have hp:(10:Nat) ^ (d.length+0)<=10 ^ 5:=jq (by decide) (by omega)
 have hq:(10:Nat) ^ x<=10 ^ 11:=jq (by decide) h5
 have hm:=ug (Nat.le_of_lt (mA hlt hp)) hq
 have e:(10:Nat) ^ 5*10 ^ 11=E16:=by decide
 have:okL d (x:Int) (s:Int):=⟨⟨h1,h2,by omega,h4,by omega,by omega,by rintro ⟨q1,q2⟩;have:=h6 (by omega);omega,by simp only [bT];omega⟩,by omega,by omega⟩
 simpa [okY] using this
theorem Jd (m a0 a2 a3 a4:Nat) (g:Bool) (h2:a2<65536) (h3:a3<256) (h4:a4<256):∃g' l d x s,gR (m+300) (a0:Int) g (a2:Int) (a3:Int) (a4:Int)=some (g',l,d,x,s)/\okY g' l d x s/\d.length<=5/\x<=11/\(a0%6≠3->hasX d=false):=by
 obtain ⟨d,hd1,hd2,hd3⟩:=M7 (m+300) a2 h2
 have hdX:∀c∈d,bP c=true\/c=88:=λc hc=>.inl (hd3 c hc)
 have hnX:=rJ hd3
 unfold gR
 rw [hd1]
 simp only [ob]
 cases hc3:(Int.tmod (a0:Int) 6==3) with
 | true=>
  simp only [aj]
  obtain ⟨s,hs1,hs2,hs3⟩:=OC (m+300) (IntKind.wrap .i64 (Int.tmod (a3:Int) 4)) (IntKind.wrap .i64 (Int.tmod (a4:Int) 4)) g d hd2 hd3 (by omega)
  rw [hs1]
  obtain ⟨g',q1,q2⟩:=uD (m+300) g false s 0 0 (by omega) (by omega) (vv hs2 hs3 (by omega) (by omega) (by omega))
  exact ⟨g',false,s,0,0,q1,q2,by omega,by omega,λh3=>absurd (by
   have e:=bN.1 hc3
   have e2:Int.tmod (a0:Int) 6=((a0%6:Nat):Int):=rfl
   omega) h3⟩
 | false=>
  simp only [af]
  cases (Int.tmod (a0:Int) 6==4) with
  | true=>
   simp only [aj]
   have e:Int.tmod (a3:Int) 4=((a3%4:Nat):Int):=rfl
   have w1:IntKind.wrap .i64 ((a3%4:Nat):Int)=((a3%4:Nat):Int):=wrap_i64 _ (by omega) (by omega)
   have w2:IntKind.wrap .i64 (1+((a3%4:Nat):Int))=((1+a3%4:Nat):Int):=by rw [wrap_i64 _ (by omega) (by omega)];omega
   rw [e,w1,w2]
   obtain ⟨g',q1,q2⟩:=uD (m+300) g false d 0 ((1+a3%4:Nat):Int) (by omega) (by omega) (vv hd2 hdX (by omega) (by omega) (by rw [hnX];simp))
   exact ⟨g',false,d,0,_,q1,q2,by omega,by omega,λ_=>hnX⟩
  | false=>
   simp only [af]
   cases (Int.tmod (a0:Int) 6==5) with
   | false=>
    simp only [af]
    obtain ⟨g',q1,q2⟩:=uD (m+300) g false d 0 0 (by omega) (by omega) (vv hd2 hdX (by omega) (by omega) (by omega))
    exact ⟨g',false,d,0,0,q1,q2,by omega,by omega,λ_=>hnX⟩
   | true=>
    simp only [aj]
    have e9:Int.tmod (a3:Int) 9=((a3%9:Nat):Int):=rfl
    have w9:IntKind.wrap .u8 (((a3%9:Nat):Int)+1)=((a3%9+1:Nat):Int):=by rw [eZ _ (by omega) (by omega)];omega
    have e3:Int.tmod (a4:Int) 3=((a4%3:Nat):Int):=rfl
    have e5:Int.tmod (a4:Int) 5=((a4%5:Nat):Int):=rfl
    have w5:IntKind.wrap .u8 (1+((a4%5:Nat):Int))=((1+a4%5:Nat):Int):=by rw [eZ _ (by omega) (by omega)];omega
    have e16:Int.tdiv (a4:Int) 16=((a4 / 16:Nat):Int):=rfl
    have w16:IntKind.wrap .u8 ((a4 / 16:Nat):Int)=((a4 / 16:Nat):Int):=eZ _ (by omega) (by omega)
    have e11:Int.tmod ((a4 / 16:Nat):Int) 11=((a4 / 16%11:Nat):Int):=rfl
    have w11:IntKind.wrap .i64 ((a4 / 16%11:Nat):Int)=((a4 / 16%11:Nat):Int):=wrap_i64 _ (by omega) (by omega)
    have w12:IntKind.wrap .i64 (1+((a4 / 16%11:Nat):Int))=((1+a4 / 16%11:Nat):Int):=by rw [wrap_i64 _ (by omega) (by omega)];omega
    have f16:Int.tdiv (a3:Int) 16=((a3 / 16:Nat):Int):=rfl
    have v16:IntKind.wrap .u8 ((a3 / 16:Nat):Int)=((a3 / 16:Nat):Int):=eZ _ (by omega) (by omega)
    have v17:IntKind.wrap .i64 ((a3 / 16:Nat):Int)=((a3 / 16:Nat):Int):=wrap_i64 _ (by omega) (by omega)
    have h48:UInt8.ofNat (49+a3%9)≠48:=by
     intro q
     have:=gh UInt8.toNat q
     rw [show 49+a3%9=48+(1+a3%9) by omega,m5 (by omega)] at this
     exact absurd this (by show ¬48+(1+a3%9)=48;omega)
    have hdig1:bP (UInt8.ofNat (49+a3%9))=true:=(dM _).2 (by rw [show 49+a3%9=48+(1+a3%9) by omega,m5 (by omega)];omega)
    rw [e9,w9,eH (show a3%9+1<=9 by omega)]
    simp only []
    rw [eH (show a3%9<=a3%9+1 by omega)]
    simp only []
    rw [cut9 (a3%9) (by omega),bS (by simp;omega)]
    simp only []
    generalize hD:[UInt8.ofNat (49+a3%9)]++d=D
    have hDl:D.length=5:=by rw [<-hD];simp [hd2]
    have hDd:∀c∈D,bP c=true:=by
     rw [<-hD]
     intro c hc
     simp only [eQ,ew,cq] at hc
     rcases hc with rfl | hc
     ·exact hdig1
     ·exact hd3 c hc
    have hDh:D.head?≠some 48:=by rw [<-hD];simpa using h48
    rw [e3,e5,w5,e16,w16,e11,w11,w12,f16,v16,v17]
    by_cases h33:0<a4%3
    ·have d1:decide (((a4%3:Nat):Int)>0)=true:=ar (by omega)
     rw [d1,aj,eH (show 1+a4%5<=D.length by omega)]
     simp only [gk]
     generalize hE:List.take (1+a4%5) D=E
     have hEl:E.length=1+a4%5:=by rw [<-hE,de];omega
     have hEd:∀c∈E,bP c=true:=by rw [<-hE];exact λc hc=>hDd c (List.mem_of_mem_take hc)
     have hEh:E.head?≠some 48:=by
      rw [<-hE]
      cases D with
      | nil=>simp at hDl
      | cons c r=>rw [nT,nJ];simpa using hDh
     generalize hX:1+a4 / 16%11=X
     have hX11:X<=11:=by omega
     have hX1:1<=X:=by omega
     have wl:IntKind.wrap .i64 (IntKind.wrap .i64 (((E.length:Nat):Int)+((X:Nat):Int))+1)=((E.length+X+1:Nat):Int):=by
      rw [wrap_i64 (((E.length:Nat):Int)+((X:Nat):Int)) (by omega) (by omega),wrap_i64 _ (by omega) (by omega)];omega
     have ne0:(((E.length+X+1:Nat):Int)==0)=false:=aK.2 (by omega)
     rw [wl,ne0,af]
     have em:Int.tmod ((a3 / 16:Nat):Int) ((E.length+X+1:Nat):Int)=((a3 / 16%(E.length+X+1):Nat):Int):=rfl
     rw [em]
     have hml:a3 / 16%(E.length+X+1)<E.length+X+1:=o8 _ (by omega)
     generalize a3 / 16%(E.length+X+1)=s at hml ⊢
     obtain ⟨g',q1,q2⟩:=uD (m+300) g true E ((X:Nat):Int) ((s:Nat):Int) (by omega) (by omega) (C0 hEd (by omega) (by omega) hEh hX11 (by omega) (by omega))
     exact ⟨g',true,E,_,_,q1,q2,by omega,by omega,λ_=>rJ hEd⟩
    ·have d1:decide (((a4%3:Nat):Int)>0)=false:=aq (by omega)
     rw [d1,af,hDl]
     have wl:IntKind.wrap .i64 (IntKind.wrap .i64 (((5:Nat):Int)+0)+1)=((6:Nat):Int):=by decide
     have ne0:(((6:Nat):Int)==0)=false:=rfl
     rw [wl,ne0,af]
     have em:Int.tmod ((a3 / 16:Nat):Int) ((6:Nat):Int)=((a3 / 16%6:Nat):Int):=rfl
     rw [em]
     have hml:a3 / 16%6<6:=o8 _ (by omega)
     generalize a3 / 16%6=s at hml ⊢
     obtain ⟨g',q1,q2⟩:=uD (m+300) g true D ((0:Nat):Int) ((s:Nat):Int) (by omega) (by omega) (C0 hDd (by omega) (by omega) hDh (by omega) (by omega) (by omega))
     exact ⟨g',true,D,_,_,q1,q2,by omega,by omega,λ_=>rJ hDd⟩
theorem QI (m a0 a2 a3 a4:Nat) (g:Bool) (h2:a2<65536) (h3:a3<256) (h4:a4<256):∃g' l d x s,gR (m+300) (a0:Int) g (a2:Int) (a3:Int) (a4:Int)=some (g',l,d,x,s)/\okY g' l d x s/\d.length<=5/\x<=11:=by
 obtain ⟨g',l,d,x,s,e,h,h1,h2,_⟩:=Jd m a0 a2 a3 a4 g h2 h3 h4
 exact ⟨g',l,d,x,s,e,h,h1,h2⟩
theorem us {g l:Bool} {d:aa} {x s:Nat} (h:okY g l d (x:Int) (s:Int)):(jN g l d (x:Int) (s:Int)).length<=25:=by
 have hs:=iL h
 have h1:=uW 69 (show x<100 by omega)
 have h2:=uW 83 (show s<100 by omega)
 rw [qK]
 simp only [bq]
 have e1:(if l=true then ([89]:aa) else []).length<=1:=by split<;>simp
 have e2:(if g=true then ([45]:aa) else []).length<=1:=by split<;>simp
 omega
end Go.Sh
