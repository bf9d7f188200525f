/- Plain proofs, kept as far as they are needed here (printed by prune.py).
   Conditions: none. -/
import Derived.Test.YtlampgohpnchdaaGreatDoorAbsX
import Derived.Laws.RangeString
import Derived.Laws.RangeAny
import Derived.Test.YtlampgohpnchdaaGreatDoorShE
import Derived.Lib.Atoi
import Derived.KernelRfl
import Derived.Lib.IndexLaws
import Derived.Test.YtlampgohpnchdaaGreatDoorAbsZ
import Derived.OpenShut
set_option linter.unusedVariables false
set_option linter.unusedSimpArgs false
set_option maxRecDepth 100000
namespace Go.Sh
open Go.Abs
theorem en {X Y:Type} {step:X->Option (X⊕Y)} (I:X->Prop) (μ:X->Nat) (G:X->Y)
  (h:∀x,I x->(∃x',step x=some (.inl x')/\I x'/\μ x'<μ x/\G x'=G x)\/step x=some (.inr (G x))):
  ∀(n:Nat) (x:X),I x->μ x<n->ah step n x=some (G x)
 | 0,x,_,hm=>by omega
 | n+1,x,hx,hm=>by
  rcases h x hx with ⟨x',h1,h2,h3,h4⟩ | h1
  ·simp only [ah,h1]
   rw [en I μ G h n x' h2 (by omega),h4]
  ·simp only [ah,h1]
theorem jQ {X Y:Type} {step:X->Option (X⊕Y)} (I:X->Prop) (μ:X->Nat) (Q:Y->Prop)
  (h:∀x,I x->(∃x',step x=some (.inl x')/\I x'/\μ x'<μ x)\/∃y,step x=some (.inr y)/\Q y):
  ∀(n:Nat) (x:X),I x->μ x<n->∃y,ah step n x=some y/\Q y
 | 0,x,_,hm=>by omega
 | n+1,x,hx,hm=>by
  rcases h x hx with ⟨x',h1,h2,h3⟩ | ⟨y,h1,h2⟩
  ·simp only [ah,h1]
   exact jQ I μ Q h n x' h2 (by omega)
  ·exact ⟨y,by simp only [ah,h1],h2⟩
theorem qT (x:Int):0<=IntKind.wrap .u8 x/\IntKind.wrap .u8 x<256:=by
 show 0<=x%256/\x%256<256
 omega
theorem dr (x:Int) (h0:0<=x) (h1:x<256):IntKind.wrap .u8 x=x:=by
 show x%256=x
 omega
theorem wJ (x:Int):IntKind.wrap .u8 x=x%256:=rfl
theorem wrap_i64 (x:Int) (h0:-9223372036854775808<=x) (h1:x<9223372036854775808):IntKind.wrap .i64 x=x:=by
 simp only [IntKind.wrap,IntKind.signed,IntKind.bits]
 simp
 omega
theorem ip {l:List UInt8} {i:Nat} {c:UInt8} (h:l[i]?=some c):sx l (i:Int)=some c:=by
 simp [sx,h]
theorem bE {n i:Nat} (h:i<n):ix n (i:Int)=some i:=by
 simp [ix];omega
theorem dS {n i:Nat} (h:i<=n):bx n (i:Int)=some i:=by
 simp [bx];omega
theorem tS {l:List UInt8} {i:Nat} {c:UInt8} (h:l[i]?=some c) (hc:c.toNat<128):dec l i=(c.toNat,1):=by
 have hlt:i<l.length:=by
  rcases Nat.lt_or_ge i l.length with h' | h'
  ·exact h'
  ·rw [List.getElem?_eq_none h'] at h;cases h
 have hs:i<(ByteArray.mk l.toArray).size:=hlt
 have hg:(ByteArray.mk l.toArray)[i]'hs=c:=by
  rw [List.getElem?_eq_getElem hlt] at h
  simp only [Option.some.injEq] at h
  exact h
 unfold dec
 rw [decode_ascii _ i hs (by rw [hg];exact hc),hg]
theorem vE {l:List UInt8} {i:Nat} {c:UInt8} (h:l[i]?=some c) (hc:128<=c.toNat):128<=(dec l i).1/\1<=(dec l i).2:=by
 have hlt:i<l.length:=by
  rcases Nat.lt_or_ge i l.length with h' | h'
  ·exact h'
  ·rw [List.getElem?_eq_none h'] at h;cases h
 have hs:i<(ByteArray.mk l.toArray).size:=hlt
 have hg:(ByteArray.mk l.toArray)[i]'hs=c:=by
  rw [List.getElem?_eq_getElem hlt] at h
  simp only [Option.some.injEq] at h
  exact h
 unfold dec
 exact decode_high _ i hs (by rw [hg];exact hc)
theorem oH {α:Type} {l:List α} {i:Nat} {c:α} (h:l[i]?=some c):i<l.length:=by
 rcases Nat.lt_or_ge i l.length with h' | h'
 ·exact h'
 ·rw [List.getElem?_eq_none h'] at h;cases h
theorem gJ {α:Type} {l:List α} {i:Nat} {c:α} (h:l[i]?=some c):l.drop i=c::l.drop (i+1):=by
 have hlt:=oH h
 rw [List.getElem?_eq_getElem hlt] at h
 simp only [Option.some.injEq] at h
 rw [<-h,List.drop_eq_getElem_cons hlt]
theorem ff {α β:Type} [BEq α] [LawfulBEq α] [DecidableEq α] (a b:α) (x y:β):(cond (a==b) x y)=if a=b then x else y:=by
 by_cases h:a=b
 ·subst h;simp
 ·rw [beq_eq_false_iff_ne.2 h];simp [h]
theorem uP {α β:Type} [BEq α] [LawfulBEq α] [DecidableEq α] (a b:α) (x y:β):(cond (a != b) x y)=if a=b then y else x:=by
 by_cases h:a=b
 ·subst h;simp
 ·rw [bne,beq_eq_false_iff_ne.2 h];simp [h]
theorem bg {β:Type} (p:Prop) [Decidable p] (x y:β):(cond (decide p) x y)=if p then x else y:=by
 by_cases h:p<;>simp [h]
theorem AK {β:Type} (b:Bool) (x y:β):(cond (!b) x y)=cond b y x:=by cases b<;>rfl
theorem iM (a b:Nat):(decide (((a:Nat):Int)<((b:Nat):Int)))=decide (a<b):=by
 by_cases h:a<b<;>simp [h]
theorem vt (c d:UInt8):((((c.toNat:Nat):Int))==((d.toNat:Nat):Int))=(c==d):=by
 by_cases h:c=d
 ·subst h;simp
 ·have h1:c.toNat≠d.toNat:=λe=>h (UInt8.toNat_inj.1 e)
  have h2:((c.toNat:Nat):Int)≠((d.toNat:Nat):Int):=by omega
  rw [beq_eq_false_iff_ne.2 h2,beq_eq_false_iff_ne.2 h]
theorem GF (c:UInt8):UInt8.ofNat (Int.toNat ((c.toNat:Nat):Int))=c:=by simp
def two (c:Nat):List UInt8:=[UInt8.ofNat (48+c / 10),UInt8.ofNat (48+c%10)]
def sea (m:List UInt8):Int:=match (List.range 21).find? (λj=>m==two (21+j)) with | some j=>((21+j:Nat):Int) | none=>0
theorem gc {j:Nat} (hj:j<21):sea (two (21+j))=((21+j:Nat):Int):=by
 have:((List.range 21).all λj=>sea (two (21+j))==((21+j:Nat):Int))=true:=by decide +kernel
 simpa using (List.all_eq_true.1 this) j (by simpa using hj)
theorem jJ (m:List UInt8):sea m=0\/∃j,j<21/\m=two (21+j):=by
 unfold sea
 split
 ·rename_i j h
  have h1:=List.find?_some h
  have h2:=List.mem_of_find?_eq_some h
  exact .inr ⟨j,by simpa using h2,by simpa using h1⟩
 ·exact .inl rfl
theorem ky {b:UInt8} {d:Nat} (h:Lib.digitVal b=some d):d<10/\b.toNat=48+d:=by
 unfold Lib.digitVal at h
 split at h
 ·cases h;omega
 ·cases h
theorem Aw {a b:UInt8} {v:Int} (h:Lib.atoi [a,b]=some v) (h1:21<=v) (h2:v<42):∃j,j<21/\[a,b]=two (21+j)/\v=((21+j:Nat):Int):=by
 obtain ⟨b0,r,e,h3⟩:=Lib.atoi_cases h
 cases e
 rcases h3 with ⟨_,m,_,_,h4⟩ | ⟨_,m,_,h5,h4⟩ | ⟨_,_,m,h5,h4⟩
 ·omega
 ·simp only [Lib.decFrom] at h5
  split at h5
  ·rename_i d hd
   have:=(ky hd).1
   simp only [Option.some.injEq] at h5
   omega
  ·cases h5
 ·simp only [Lib.decFrom] at h5
  split at h5
  ·rename_i d hd
   split at h5
   ·rename_i d' hd'
    obtain ⟨k1,k2⟩:=ky hd
    obtain ⟨k3,k4⟩:=ky hd'
    simp only [Option.some.injEq] at h5
    refine ⟨m - 21,by omega,?_,by omega⟩
    have e0:(21+(m - 21)) / 10=d:=by omega
    have e1:(21+(m - 21))%10=d':=by omega
    unfold two
    rw [e0,e1,<-k2,<-k4]
    simp
   ·cases h5
  ·cases h5
theorem om {j:Nat} (hj:j<21):Lib.atoi (two (21+j))=some ((21+j:Nat):Int):=by
 have:((List.range 21).all λj=>Lib.atoi (two (21+j))==some ((21+j:Nat):Int))=true:=by decide +kernel
 simpa using (List.all_eq_true.1 this) j (by simpa using hj)
theorem mm (n:Nat) (g l:Bool) (dg:List UInt8) (x q:Int) (m d:List UInt8) (k0 k1 k2:Int) (hm:m.length<=18):bp n g l dg x q m d k0 k1 k2=some (sea m,decide (0<sea m)):=by
 have hb:Nat.ble m.length 18=true:=Nat.ble_eq_true_of_le hm
 rcases jJ m with h0 | ⟨j,hj,rfl⟩
 ·unfold bp
  rw [hb,h0]
  show opt (Lib.atoi m) _ _=_
  cases ha:Lib.atoi m with
  | none=>rfl
  | some v=>
   show cond _ _ _=_
   by_cases hl:m.length=2
   ·rw [hl]
    obtain ⟨a,b,rfl⟩:∃a b,m=[a,b]:=by
     match m,hl with
     | [a,b],_=>exact ⟨a,b,rfl⟩
    show ob (bR n v) _=_
    unfold bR
    rw [bg,bg]
    split
    ·rfl
    ·split
     ·rfl
     ·exfalso
      obtain ⟨j,hj,e,_⟩:=Aw ha (by omega) (by omega)
      rw [e,gc hj] at h0
      omega
   ·rw [show (((m.length:Nat):Int) != 2)=true by simp;omega]
    rfl
 ·rw [gc hj]
  have e:bp n g l dg x q (two (21+j)) d k0 k1 k2=some (((21+j:Nat):Int),true):=by
   unfold bp
   rw [hb,om hj]
   show ob (bR n ((21+j:Nat):Int)) _=_
   unfold bR
   rw [bg,bg,if_neg (by omega),if_neg (by omega)]
   rfl
  rw [e]
  have:decide (0<((21+j:Nat):Int))=true:=by simp;omega
  rw [this]
theorem Af (n:Nat) {c:Nat} (hc:c<100):aA n (c:Int)=some (two c):=by
 have e1:Int.tdiv (c:Int) 10=((c / 10:Nat):Int):=by
  rw [show (10:Int)=((10:Nat):Int) from rfl,<-Int.ofNat_tdiv]
 have e2:Int.tmod (c:Int) 10=((c%10:Nat):Int):=by
  rw [show (10:Int)=((10:Nat):Int) from rfl,<-Int.ofNat_tmod]
 have h1:c / 10<10:=by omega
 have h2:c%10<10:=by omega
 unfold aA
 rw [e1,e2]
 have w1:IntKind.wrap .i64 ((c / 10:Nat):Int)=((c / 10:Nat):Int):=wrap_i64 _ (by omega) (by omega)
 have w2:IntKind.wrap .i64 (((c / 10:Nat):Int)+1)=((c / 10+1:Nat):Int):=by rw [wrap_i64 _ (by omega) (by omega)];omega
 have w3:IntKind.wrap .i64 (((c%10:Nat):Int)+1)=((c%10+1:Nat):Int):=by rw [wrap_i64 _ (by omega) (by omega)];omega
 rw [w1,w2,w3,dS (by omega),dS (by omega)]
 show ob (bx (c / 10+1) ((c / 10:Nat):Int)) _=_
 rw [dS (by omega)]
 show ob (bx (c%10+1) ((c%10:Nat):Int)) _=_
 rw [dS (by omega)]
 unfold two
 generalize c / 10=a at *
 generalize c%10=b at *
 have:((List.range 10).all λa=>(List.range 10).all λb=>ob (cat (List.drop a (List.take (a+1) ([48,49,50,51,52,53,54,55,56,57]:List UInt8))) (List.drop b (List.take (b+1) ([48,49,50,51,52,53,54,55,56,57]:List UInt8)))) (λs=>some s)==some [UInt8.ofNat (48+a),UInt8.ofNat (48+b)])=true:=by decide +kernel
 have h3:=(List.all_eq_true.1 ((List.all_eq_true.1 this) a (by simpa using h1))) b (by simpa using h2)
 simpa using h3
theorem BT {m:List UInt8} (h:∀j,j<21->m≠two (21+j)):sea m=0:=by
 rcases jJ m with h0 | ⟨j,hj,e⟩
 ·exact h0
 ·exact absurd e (h j hj)
theorem pz (n:Nat) (g l:Bool) (dg:List UInt8) (x q:Int) (m d:List UInt8) (k0 k1 k2:Int):∀(r j:Nat),j+r=21->(∀i,i<j->m≠two (21+i))->∀N,r<N->
  ah (aM n) N (((21+j:Nat):Int),g,l,dg,x,q,m,d,k0,k1,k2)=some (if sea m=0 then .inr () else .inl (sea m)):=by
 intro r
 induction r with
 | zero=>
  intro j hj hne N hN
  obtain ⟨N,rfl⟩:∃k,N=k+1:=⟨N - 1,by omega⟩
  have hs:sea m=0:=BT (λi hi=>hne i (by omega))
  rw [ah]
  have:aM n (((21+j:Nat):Int),g,l,dg,x,q,m,d,k0,k1,k2)=some (.inr (.inr ())):=by
   unfold aM
   rw [bg,if_neg (by show ¬(((21+j:Nat):Int)<=41);omega)]
  rw [this,if_pos hs]
 | succ r ih=>
  intro j hj hne N hN
  obtain ⟨N,rfl⟩:∃k,N=k+1:=⟨N - 1,by omega⟩
  rw [ah]
  by_cases hm:m=two (21+j)
  ·have hs:sea m=((21+j:Nat):Int):=by rw [hm];exact gc (by omega)
   have:aM n (((21+j:Nat):Int),g,l,dg,x,q,m,d,k0,k1,k2)=some (.inr (.inl ((21+j:Nat):Int))):=by
    unfold aM
    rw [bg,if_pos (by show ((21+j:Nat):Int)<=41;omega)]
    show ob (aA n ((21+j:Nat):Int)) _=_
    rw [Af n (by omega)]
    show cond (m==two (21+j)) _ _=_
    rw [ff,if_pos hm]
   rw [this,hs,if_neg (by omega)]
  ·have:aM n (((21+j:Nat):Int),g,l,dg,x,q,m,d,k0,k1,k2)=some (.inl (((21+(j+1):Nat):Int),g,l,dg,x,q,m,d,k0,k1,k2)):=by
    unfold aM
    rw [bg,if_pos (by show ((21+j:Nat):Int)<=41;omega)]
    show ob (aA n ((21+j:Nat):Int)) _=_
    rw [Af n (by omega)]
    show cond (m==two (21+j)) _ _=_
    rw [ff,if_neg hm]
    have:IntKind.wrap .i64 (((21+j:Nat):Int)+1)=((21+(j+1):Nat):Int):=by rw [wrap_i64 _ (by omega) (by omega)];omega
    show some (Sum.inl (IntKind.wrap .i64 (((21+j:Nat):Int)+1),_))=_
    rw [this]
   rw [this]
   exact ih (j+1) (by omega) (λi hi=>by
    rcases Nat.lt_or_ge i j with h | h
    ·exact hne i h
    ·have:i=j:=by omega
     rw [this];exact hm) N (by omega)
theorem gz (n:Nat) (hn:100<n) (g l:Bool) (dg:List UInt8) (x q:Int) (m d:List UInt8) (k0 k1 k2:Int):au n g l dg x q m d k0 k1 k2=some (sea m):=by
 unfold au
 have:=pz n g l dg x q m d k0 k1 k2 21 0 rfl (λi hi=>absurd hi (by omega)) n (by omega)
 rw [show ((21+0:Nat):Int)=21 from rfl] at this
 rw [this]
 by_cases h:sea m=0
 ·rw [if_pos h,h];rfl
 ·rw [if_neg h];rfl
def agr (s:List UInt8) (k:Nat):Bool:=match s with
 | [a,b]=>(a==88||a==UInt8.ofNat (48+k / 10))&&(b==88||b==UInt8.ofNat (48+k%10))
 | _=>false
def ck (s:List UInt8) (g:Nat):Bool:=(List.range g).any λi=>agr s (i+1)
theorem wk {X Y:Type} {step:X->Option (X⊕Y)} {f:Nat->X} {p:Nat->Bool} {g:Nat} {yes no:Y} (h:∀k,1<=k->k<=g->step (f k)=some (if p k then .inr yes else .inl (f (k+1)))) (he:step (f (g+1))=some (.inr no)) {N:Nat} (hN:g<N):
  ah step N (f 1)=some (if (List.range g).any (λi=>p (i+1)) then yes else no):=by
 have go:∀(r j:Nat),j+r=g->(∀i,i<j->p (i+1)=false)->∀N,r<N->ah step N (f (j+1))=some (if (List.range g).any (λi=>p (i+1)) then yes else no):=by
  intro r
  induction r with
  | zero=>
   intro j hj hne N hN
   obtain ⟨N,rfl⟩:∃k,N=k+1:=⟨N - 1,by omega⟩
   have:(List.range g).any (λi=>p (i+1))=false:=by
    rw [List.any_eq_false]
    intro i hi
    rw [hne i (by have:=List.mem_range.1 hi;omega)]
    simp
   rw [ah,show j+1=g+1 by omega,he,this]
   rfl
  | succ r ih=>
   intro j hj hne N hN
   obtain ⟨N,rfl⟩:∃k,N=k+1:=⟨N - 1,by omega⟩
   rw [ah,h (j+1) (by omega) (by omega)]
   cases hp:p (j+1) with
   | true=>
    have:(List.range g).any (λi=>p (i+1))=true:=List.any_eq_true.2 ⟨j,List.mem_range.2 (by omega),hp⟩
    rw [this]
    rfl
   | false=>
    exact ih (j+1) (by omega) (λi hi=>by
     rcases Nat.lt_or_ge i j with h | h
     ·exact hne i h
     ·have:i=j:=by omega
      rw [this];exact hp) N (by omega)
 exact go g 0 (by omega) (λi hi=>absurd hi (by omega)) N hN
theorem nq {a:UInt8} {k:Nat} (hk:k<256):((((a.toNat:Nat):Int))==((k:Nat):Int))=(a==UInt8.ofNat k):=by
 have h:(UInt8.ofNat k).toNat=k:=by simp;omega
 rw [<-vt,h]
theorem Bt (n:Nat) (a b:UInt8) {g k:Nat} (h1:1<=k) (h2:k<=g) (h3:g<=31):
  bG n ([a,b],(g:Int),(k:Int))=some (if agr [a,b] k then .inr (.inl true) else .inl ([a,b],(g:Int),((k+1:Nat):Int))):=by
 have e1:Int.tdiv (k:Int) 10=((k / 10:Nat):Int):=by
  rw [show (10:Int)=((10:Nat):Int) from rfl,<-Int.ofNat_tdiv]
 have e2:Int.tmod (k:Int) 10=((k%10:Nat):Int):=by
  rw [show (10:Int)=((10:Nat):Int) from rfl,<-Int.ofNat_tmod]
 have w1:IntKind.wrap .u8 (48+IntKind.wrap .u8 (IntKind.wrap .i64 (Int.tdiv (k:Int) 10)))=((48+k / 10:Nat):Int):=by
  rw [e1,wrap_i64 _ (by omega) (by omega),dr ((k / 10:Nat):Int) (by omega) (by omega),dr _ (by omega) (by omega)]
  omega
 have w2:IntKind.wrap .u8 (48+IntKind.wrap .u8 (Int.tmod (k:Int) 10))=((48+k%10:Nat):Int):=by
  rw [e2,dr ((k%10:Nat):Int) (by omega) (by omega),dr _ (by omega) (by omega)]
  omega
 have w3:IntKind.wrap .i64 ((k:Int)+1)=((k+1:Nat):Int):=by rw [wrap_i64 _ (by omega) (by omega)];omega
 have x88:(88:Int)=((88:Nat):Int):=rfl
 have s0:sx [a,b] 0=some a:=rfl
 have s1:sx [a,b] 1=some b:=rfl
 unfold bG
 rw [bg,if_pos (show (k:Int)<=(g:Int) by omega)]
 simp only [s0,s1,ob,w1,w2,w3]
 rw [x88,nq (by omega),nq (by omega),nq (by omega),nq (by omega)]
 show _=some (if ((a==UInt8.ofNat 88||a==UInt8.ofNat (48+k / 10))&&(b==UInt8.ofNat 88||b==UInt8.ofNat (48+k%10)))=true then _ else _)
 generalize (a==UInt8.ofNat 88)=p1
 generalize (b==UInt8.ofNat 88)=p2
 generalize (a==UInt8.ofNat (48+k / 10))=p3
 generalize (b==UInt8.ofNat (48+k%10))=p4
 cases p1<;>cases p2<;>cases p3<;>cases p4<;>rfl
theorem tk (n:Nat) (hn:100<n) (s:List UInt8) (g:Nat) (hg:g<=31):bC n s (g:Int)=some (ck s g):=by
 unfold bC
 by_cases hl:s.length=2
 ·obtain ⟨a,b,rfl⟩:∃a b,s=[a,b]:=by
   match s,hl with
   | [a,b],_=>exact ⟨a,b,rfl⟩
  have he:bG n ([a,b],(g:Int),((g+1:Nat):Int))=some (.inr (.inr ())):=by
   unfold bG
   rw [bg,if_neg (show ¬((g+1:Nat):Int)<=(g:Int) by omega)]
  have:=wk (f:=λk=>([a,b],(g:Int),((k:Nat):Int))) (p:=agr [a,b]) (g:=g) (N:=n) (λk h1 h2=>Bt n a b h1 h2 hg) he (by omega)
  show ob (ah (bG n) n ([a,b],(g:Int),((1:Nat):Int))) _=_
  rw [this]
  unfold ck
  split<;>simp_all [ob]
 ·rw [show (((s.length:Nat):Int) != 2)=true by simp;omega]
  have:ck s g=false:=by
   unfold ck
   rw [List.any_eq_false]
   intro i _
   match s,hl with
   | [],_=>simp [agr]
   | [_],_=>simp [agr]
   | [_,_],h=>exact absurd rfl h
   | _::_::_::_,_=>simp [agr]
  rw [this]
  rfl
theorem mX (n:Nat) (s:List UInt8) (k:Nat) (hk:k<100):ca n s (k:Int)=some (if agr s k then 1 else 0):=by
 unfold ca
 rw [Af n hk]
 show cond _ _ _=_
 by_cases hl:s.length=2
 ·obtain ⟨a,b,rfl⟩:∃a b,s=[a,b]:=by
   match s,hl with
   | [a,b],_=>exact ⟨a,b,rfl⟩
  have s0:sx [a,b] 0=some a:=rfl
  have s1:sx [a,b] 1=some b:=rfl
  have t0:sx (two k) 0=some (UInt8.ofNat (48+k / 10)):=rfl
  have t1:sx (two k) 1=some (UInt8.ofNat (48+k%10)):=rfl
  have x88:(88:Int)=((88:Nat):Int):=rfl
  rw [show (((([a,b]:List UInt8).length:Nat):Int)==2)=true from rfl]
  simp only [s0,s1,t0,t1,ob,cond_true]
  rw [x88,nq (by omega),nq (by omega),vt,vt]
  show _=some (if ((a==UInt8.ofNat 88||a==UInt8.ofNat (48+k / 10))&&(b==UInt8.ofNat 88||b==UInt8.ofNat (48+k%10)))=true then _ else _)
  generalize (a==UInt8.ofNat 88)=p1
  generalize (b==UInt8.ofNat 88)=p2
  generalize (a==UInt8.ofNat (48+k / 10))=p3
  generalize (b==UInt8.ofNat (48+k%10))=p4
  cases p1<;>cases p2<;>cases p3<;>cases p4<;>rfl
 ·rw [show (((s.length:Nat):Int)==2)=false by simp;omega]
  have:agr s k=false:=by
   match s,hl with
   | [],_=>rfl
   | [_],_=>rfl
   | [_,_],h=>exact absurd rfl h
   | _::_::_::_,_=>rfl
  rw [this]
  rfl
theorem wv (n:Nat) (hn:100<n) (s:List UInt8) (g:Nat) (hg:g<=31):bQ n s (g:Int)=some (if ck s g then 1 else 0):=by
 unfold bQ
 have he:bS n (s,(g:Int),((g+1:Nat):Int))=some (.inr (.inr ())):=by
  unfold bS
  rw [bg,if_neg (show ¬((g+1:Nat):Int)<=(g:Int) by omega)]
 have:=wk (f:=λk=>(s,(g:Int),((k:Nat):Int))) (p:=agr s) (g:=g) (N:=n) (step:=bS n) (yes:=.inl 1) (no:=.inr ()) (λk h1 h2=>by
  unfold bS
  rw [bg,if_pos (show (k:Int)<=(g:Int) by omega)]
  show ob (ca n s (k:Int)) _=_
  rw [mX n s k (by omega)]
  have w3:IntKind.wrap .i64 ((k:Int)+1)=((k+1:Nat):Int):=by rw [wrap_i64 _ (by omega) (by omega)];omega
  simp only [ob,w3]
  cases agr s k<;>rfl) he (by omega)
 show ob (ah (bS n) n (s,(g:Int),((1:Nat):Int))) _=_
 rw [this]
 unfold ck
 split<;>simp_all [ob]
theorem oM (n:Nat) {a b:Int} (hb:1<b) (hb2:b<1000) (ha:-4611686018427387904<=a) (ha2:a<4611686018427387904):gM n a b=some (a / b,0):=by
 have n0:(b==0)=false:=by simp;omega
 have n1:(b==-1)=false:=by simp;omega
 unfold gM
 simp only [n0,n1,cond_false]
 have hq:a / b*b+a%b=a:=Int.ediv_mul_add_emod a b
 have hr:=Int.emod_nonneg a (show b≠0 by omega)
 have hr2:=Int.emod_lt_of_pos a (show 0<b by omega)
 have hq1:-4611686018427387904<=a / b:=by
  rw [Int.le_ediv_iff_mul_le (by omega)]
  have:(-4611686018427387904:Int)*b<=-4611686018427387904*1:=Int.mul_le_mul_of_nonpos_left (by omega) (by omega)
  omega
 have hq2:a / b<4611686018427387904:=by
  rw [Int.ediv_lt_iff_lt_mul (by omega)]
  have:(4611686018427387904:Int)*1<=4611686018427387904*b:=Int.mul_le_mul_of_nonneg_left (by omega) (by omega)
  omega
 by_cases h0:0<=a
 ·have e1:Int.tdiv a b=a / b:=Int.tdiv_eq_ediv_of_nonneg h0
  have d1:decide (a<0)=false:=by simp;omega
  have d2:decide (b<0)=false:=by simp;omega
  rw [e1,d1,d2,wrap_i64 (a / b) (by omega) (by omega)]
  cases (Int.tmod a b != 0)<;>rfl
 ·have d1:decide (a<0)=true:=by simp;omega
  have d2:decide (b<0)=false:=by simp;omega
  have e1:=Int.tdiv_eq_ediv (a:=a) (b:=b)
  have e2:=Int.tmod_eq_emod (a:=a) (b:=b)
  rw [d1,d2]
  by_cases hd:b∣a
  ·have hm:Int.tmod a b=0:=by
    rw [e2,if_pos (.inr hd)]
    have:=Int.emod_eq_zero_of_dvd hd
    omega
   rw [hm,e1,if_pos (.inr hd)]
   rw [Int.add_zero,wrap_i64 (a / b) (by omega) (by omega)]
   rfl
  ·have hm0:a%b≠0:=λh=>hd (Int.dvd_of_emod_eq_zero h)
   have hm:(Int.tmod a b != 0)=true:=by
    rw [e2,if_neg (by rintro (h | h);exact h0 h;exact hd h)]
    simp
    omega
   have hs:b.sign=1:=Int.sign_eq_one_of_pos (by omega)
   rw [hm,e1,if_neg (by rintro (h | h);exact h0 h;exact hd h),hs]
   rw [wrap_i64 (a / b+1) (by omega) (by omega),Int.add_sub_cancel,wrap_i64 (a / b) (by omega) (by omega)]
   rfl
theorem Fl (n:Nat) {a b:Int} (hb:1<b) (hb2:b<1000):nJ n a b=some (a%b,0):=by
 have n0:(b==0)=false:=by simp;omega
 have n1:(b==-1)=false:=by simp;omega
 unfold nJ
 simp only [n0,n1,cond_false]
 have hr:=Int.emod_nonneg a (show b≠0 by omega)
 have hr2:=Int.emod_lt_of_pos a (show 0<b by omega)
 have e2:=Int.tmod_eq_emod (a:=a) (b:=b)
 have d2:decide (b<0)=false:=by simp;omega
 by_cases hc:0<=a\/b∣a
 ·rw [if_pos hc] at e2
  have:Int.tmod a b=a%b:=by omega
  rw [this,d2]
  have d1:decide (a%b<0)=false:=by simp;omega
  rw [d1]
  cases h:(a%b != 0)
  ·rfl
  ·rfl
 ·rw [if_neg hc] at e2
  have hn:(b.natAbs:Int)=b:=by omega
  rw [hn] at e2
  have hm0:a%b≠0:=λh=>hc (.inr (Int.dvd_of_emod_eq_zero h))
  have hm:(Int.tmod a b != 0)=true:=by simp;omega
  have d1:decide (Int.tmod a b<0)=true:=by simp;omega
  rw [hm,d1,d2,e2,wrap_i64 _ (by omega) (by omega),Int.sub_add_cancel]
  rfl
def bY (y:Int):Prop:=-10000000000000000<=y/\y<=10000000000000000
instance (y:Int):Decidable (bY y):=by unfold bY;infer_instance
theorem dw (n:Nat) (y:Int):eQ n y=some (if bY y then 0 else 6):=by
 unfold eQ
 rw [bg,bg]
 by_cases h1:y < -10000000000000000
 ·rw [if_pos h1,if_neg (show ¬bY y by unfold bY;omega)]
 ·by_cases h2:y>10000000000000000
  ·rw [if_neg h1,if_pos h2,if_neg (show ¬bY y by unfold bY;omega)]
  ·rw [if_neg h1,if_neg h2,if_pos (show bY y by unfold bY;omega)]
theorem lY (n:Nat) {y:Int} (h:-20000000000000000<=y/\y<=20000000000000000):∃z,cP n y=some z:=by
 unfold cP
 rw [wrap_i64 (y - 1) (by omega) (by omega),oM n (by omega) (by omega) (by omega) (by omega),oM n (by omega) (by omega) (by omega) (by omega),oM n (by omega) (by omega) (by omega) (by omega)]
 exact ⟨_,rfl⟩
theorem zK (n:Nat) {y:Int} (h:bY y):∃b e,fN n y=some (b,e):=by
 unfold fN
 have h':=h
 unfold bY at h'
 obtain ⟨z1,e1⟩:=lY n (y:=y+1) (by omega)
 obtain ⟨z2,e2⟩:=lY n (y:=y) (by omega)
 rw [dw,if_pos h,wrap_i64 (y+1) (by omega) (by omega),e1,e2]
 exact ⟨_,_,rfl⟩
theorem l6 (n:Nat) {y:Int} (h:bY y) {m:Nat} (h1:1<=m) (h2:m<=12):∃v,ch n y (m:Int)=some v:=by
 unfold ch
 obtain ⟨b,e,hl⟩:=zK n h
 rw [hl]
 show ∃v,cond (b&&((m:Int)==2)) _ _=some v
 cases (b&&((m:Int)==2)) with
 | true=>exact ⟨_,rfl⟩
 | false=>
  have:IntKind.wrap .i64 ((m:Int) - 1)=((m - 1:Nat):Int):=by rw [wrap_i64 _ (by omega) (by omega)];omega
  rw [this,bE (by omega)]
  have hl:nT.length=12:=rfl
  exact ⟨_,List.getElem?_eq_getElem (show m - 1<nT.length by omega)⟩
theorem vJ (n:Nat) {y:Int} (h:bY y) {m:Nat} (h1:1<=m) (h2:m<=12):fQ n y (m:Int)=some 0:=by
 unfold fQ
 rw [dw,if_pos h]
 show cond (decide ((m:Int)<1)) _ _=_
 rw [bg,bg,if_neg (by omega),if_neg (by omega)]
theorem xm (n:Nat) {y:Int} (h:bY y) {m:Nat} (hm:m<=11):∀(r j:Nat),j+r=m->∀(a:Int) (N:Nat),r<N->∃v,ah (aK n) N (y,a,(m:Int),(j:Int))=some v:=by
 intro r
 induction r with
 | zero=>
  intro j hj a N hN
  obtain ⟨N,rfl⟩:∃k,N=k+1:=⟨N - 1,by omega⟩
  have:aK n (y,a,(m:Int),(j:Int))=some (.inr a):=by
   unfold aK
   rw [bg,if_neg (show ¬((j:Int)<(m:Int)) by omega)]
  rw [ah,this]
  exact ⟨_,rfl⟩
 | succ r ih=>
  intro j hj a N hN
  obtain ⟨N,rfl⟩:∃k,N=k+1:=⟨N - 1,by omega⟩
  obtain ⟨v,hv⟩:=l6 n h (m:=j+1) (by omega) (by omega)
  have w:IntKind.wrap .i64 ((j:Int)+1)=((j+1:Nat):Int):=by rw [wrap_i64 _ (by omega) (by omega)];omega
  have:aK n (y,a,(m:Int),(j:Int))=some (.inl (y,IntKind.wrap .i64 (a+v),(m:Int),((j+1:Nat):Int))):=by
   unfold aK
   rw [bg,if_pos (show ((j:Int)<(m:Int)) by omega)]
   simp only [w,hv,ob]
  rw [ah,this]
  exact ih (j+1) (by omega) _ N (by omega)
theorem y6 (n:Nat) (hn:100<n) {y:Int} (h:bY y) {m:Nat} (h1:1<=m) (h2:m<=12):∃v,cO n y (m:Int)=some (v,0):=by
 unfold cO gD gF
 have h':=h
 unfold bY at h'
 obtain ⟨z,e⟩:=lY n (y:=y) (by omega)
 have w:IntKind.wrap .i64 ((m:Int) - 1)=((m - 1:Nat):Int):=by rw [wrap_i64 _ (by omega) (by omega)];omega
 rw [vJ n h h1 h2,dw,if_pos h,e,w]
 obtain ⟨v,hv⟩:=xm n h (m:=m - 1) (by omega) (m - 1) 0 (by omega) (IntKind.wrap .i64 (IntKind.wrap .i64 (365*y)+z)) n (by omega)
 refine ⟨v,?_⟩
 show ob (ah (aK n) n (y,IntKind.wrap .i64 (IntKind.wrap .i64 (365*y)+z),((m - 1:Nat):Int),((0:Nat):Int))) _=_
 rw [hv]
 rfl
theorem madd (n:Nat) {y:Int} (h:bY y) {m c:Nat} (h1:1<=m) (h2:m<=12) (hc:1<=c) (hc2:c<=6):jR n y (m:Int) (IntKind.wrap .i64 ((c:Int) - 1)) =
  some (if 12<m+c - 1 then (if y=10000000000000000 then (0,0,6) else (y+1,((m+c - 1 - 12:Nat):Int),0)) else (y,((m+c - 1:Nat):Int),0)):=by
 have h':=h
 unfold bY at h'
 unfold jR
 rw [vJ n h h1 h2,wrap_i64 (12*y) (by omega) (by omega),wrap_i64 ((m:Int) - 1) (by omega) (by omega),wrap_i64 (12*y+((m:Int) - 1)) (by omega) (by omega),wrap_i64 ((c:Int) - 1) (by omega) (by omega)]
 have ha:lp n (12*y+((m:Int) - 1)) ((c:Int) - 1)=some (12*y+((m:Int) - 1)+((c:Int) - 1),0):=by
  unfold lp
  rw [wrap_i64 (12*y+((m:Int) - 1)+((c:Int) - 1)) (by omega) (by omega),ff]
  by_cases h0:(c:Int) - 1=0
  ·rw [if_pos h0]
   have d1:decide (12*y+((m:Int) - 1)>12*y+((m:Int) - 1))=false:=by simp
   have d2:decide ((c:Int) - 1>0)=false:=by simp;omega
   rw [d1,d2,h0,Int.add_zero]
   rfl
  ·rw [if_neg h0]
   have d1:decide (12*y+((m:Int) - 1)+((c:Int) - 1)>12*y+((m:Int) - 1))=true:=by simp;omega
   have d2:decide ((c:Int) - 1>0)=true:=by simp;omega
   rw [d1,d2]
   rfl
 simp only [ob,ha,bne_self_eq_false,cond_false]
 rw [oM n (by omega) (by omega) (by omega) (by omega),Fl n (by omega) (by omega)]
 simp only [dw]
 by_cases hb:12<m+c - 1
 ·have e1:(12*y+((m:Int) - 1)+((c:Int) - 1)) / 12=y+1:=by omega
  have e2:(12*y+((m:Int) - 1)+((c:Int) - 1))%12=((m+c - 1 - 12:Nat):Int) - 1:=by omega
  rw [e1,e2,if_pos hb]
  by_cases hy:y=10000000000000000
  ·rw [if_pos hy,if_neg (show ¬bY (y+1) by unfold bY;omega)]
   rfl
  ·rw [if_neg hy,if_pos (show bY (y+1) by unfold bY;omega),wrap_i64 (((m+c - 1 - 12:Nat):Int) - 1+1) (by omega) (by omega),Int.sub_add_cancel]
   rfl
 ·have e1:(12*y+((m:Int) - 1)+((c:Int) - 1)) / 12=y:=by omega
  have e2:(12*y+((m:Int) - 1)+((c:Int) - 1))%12=((m+c - 1:Nat):Int) - 1:=by omega
  rw [e1,e2,if_neg hb,if_pos h,wrap_i64 (((m+c - 1:Nat):Int) - 1+1) (by omega) (by omega),Int.sub_add_cancel]
  rfl
theorem wG {j:Nat} (hj:j<21):∃m c:Nat,iU[j]?=some ((m:Int),(c:Int))/\1<=m/\m<=12/\1<=c/\c<=6/\(12<m+c - 1↔j=3\/j=7\/j=9):=by
 have:((List.range 21).all λj=>match iU[j]? with
  | some (m,c)=>decide (0<=m)&&decide (0<=c)&&decide (1<=m.toNat)&&decide (m.toNat<=12)&&decide (1<=c.toNat)&&decide (c.toNat<=6)&&(decide (12<m.toNat+c.toNat - 1)==decide (j=3\/j=7\/j=9))
  | none=>false)=true:=by decide +kernel
 have h:=(List.all_eq_true.1 this) j (by simpa using hj)
 split at h
 ·rename_i m c e
  simp only [Bool.and_eq_true,decide_eq_true_eq,beq_iff_eq,decide_eq_decide] at h
  obtain ⟨⟨⟨⟨⟨⟨h1,h2⟩,h3⟩,h4⟩,h5⟩,h6⟩,h7⟩:=h
  exact ⟨m.toNat,c.toNat,by rw [e,Int.toNat_of_nonneg h1,Int.toNat_of_nonneg h2],h3,h4,h5,h6,h7⟩
 ·cases h
theorem Fy (n:Nat) (hn:100<n) {y:Int} (h:bY y) {j:Nat} (hj:j<21):
  ∃a b c d,dX n y ((21+j:Nat):Int)=some (a,b,c,d,if y=10000000000000000/\(j=3\/j=7\/j=9) then 6 else 0):=by
 obtain ⟨m,c,e,h1,h2,h3,h4,h5⟩:=wG hj
 have hM:cN n ((21+j:Nat):Int)=some ((m:Int),(c:Int),0):=by
  unfold cN bR
  rw [bg,bg,if_neg (by omega),if_neg (by omega)]
  have:IntKind.wrap .i64 (((21+j:Nat):Int) - 21)=(j:Int):=by rw [wrap_i64 _ (by omega) (by omega)];omega
  rw [this,bE hj]
  show ob (iU[j]?) _=_
  rw [e]
  rfl
 obtain ⟨v,hv⟩:=y6 n hn h h1 h2
 unfold dX
 rw [hM]
 show ∃a b c d,ob (cO n y (m:Int)) _=_
 rw [hv]
 show ∃a b c' d,ob (jR n y (m:Int) (IntKind.wrap .i64 ((c:Int) - 1))) _=_
 rw [madd n h h1 h2 h3 h4]
 have h':=h
 unfold bY at h'
 by_cases hb:12<m+c - 1
 ·rw [if_pos hb]
  by_cases hy:y=10000000000000000
  ·rw [if_pos hy,if_pos ⟨hy,h5.1 hb⟩]
   exact ⟨_,_,_,_,rfl⟩
  ·rw [if_neg hy,if_neg (λx=>hy x.1)]
   have hc1:bY (y+1):=by unfold bY;omega
   obtain ⟨v2,hv2⟩:=y6 n hn hc1 (m:=m+c - 1 - 12) (by omega) (by omega)
   obtain ⟨u,hu⟩:=l6 n hc1 (m:=m+c - 1 - 12) (by omega) (by omega)
   have hE:dO n (y+1) ((m+c - 1 - 12:Nat):Int)=some (IntKind.wrap .i64 (IntKind.wrap .i64 (v2+u) - 1),0):=by
    unfold dO
    rw [hv2,hu]
    rfl
   show ∃a b c' d,ob (dO n (y+1) ((m+c - 1 - 12:Nat):Int)) _=_
   rw [hE]
   exact ⟨_,_,_,_,rfl⟩
 ·rw [if_neg hb,if_neg (λx=>hb (h5.2 x.2))]
  obtain ⟨v2,hv2⟩:=y6 n hn h (m:=m+c - 1) (by omega) (by omega)
  obtain ⟨u,hu⟩:=l6 n h (m:=m+c - 1) (by omega) (by omega)
  have hE:dO n y ((m+c - 1:Nat):Int)=some (IntKind.wrap .i64 (IntKind.wrap .i64 (v2+u) - 1),0):=by
   unfold dO
   rw [hv2,hu]
   rfl
  show ∃a b c' d,ob (dO n y ((m+c - 1:Nat):Int)) _=_
  rw [hE]
  exact ⟨_,_,_,_,rfl⟩
def hasB (set:List UInt8) (c:UInt8):Bool:=set.any λd=>d==c
theorem mu (set:List UInt8) (c:UInt8):(decide (Lib.indexByte set c<0))=!hasB set c:=by
 induction set with
 | nil=>simp [Lib.indexByte,hasB]
 | cons d l ih=>
  have hge:=Lib.indexByte_ge l c
  simp only [hasB,List.any_cons] at ih ⊢
  unfold Lib.indexByte
  by_cases h:d=c
  ·simp [h]
  ·have hb:(d==c)=false:=by simpa using h
   simp only [hb,Bool.false_eq_true,if_false,Bool.false_or]
   rw [<-ih]
   by_cases h1:Lib.indexByte l c=-1
   ·simp [h1]
   ·have hb1:(Lib.indexByte l c==-1)=false:=by simpa using h1
    simp only [hb1,Bool.false_eq_true,if_false]
    have:¬Lib.indexByte l c+1<0:=by omega
    have:¬Lib.indexByte l c<0:=by omega
    simp [*]
theorem mI (set:List UInt8) (c:UInt8):(decide (Lib.indexByte set c>=0))=hasB set c:=by
 have:=mu set c
 by_cases h:Lib.indexByte set c<0
 ·have h2:¬Lib.indexByte set c>=0:=by omega
  simp only [h,h2,decide_true,decide_false] at this ⊢
  revert this;cases hasB set c<;>simp
 ·have h2:Lib.indexByte set c>=0:=by omega
  simp only [h,h2,decide_true,decide_false] at this ⊢
  revert this;cases hasB set c<;>simp
theorem iq (n:Nat) (set:List UInt8) (c:UInt8):cQ n set ((c.toNat:Nat):Int)=some (Lib.indexByte set c):=by
 simp only [cQ,bB,ob,GF]
def asc (l:List UInt8):Prop:=∀c∈l,c.toNat<128
theorem yk (r:Int) (h:128<=r):∃p e,(Utf8.encode r).data.toList=p++[e]/\1<=p.length/\p.length<=3/\128<=e.toNat:=by
 unfold Utf8.encode
 have hc:128<=(if Utf8.valid r then r.toNat else Utf8.runeError):=by
  split
  ·omega
  ·decide
 generalize (if Utf8.valid r then r.toNat else Utf8.runeError)=c at hc
 have he:128<=(UInt8.ofNat (0x80+c%64)).toNat:=by
  simp only [UInt8.toNat_ofNat']
  omega
 simp only
 split
 ·omega
 ·split
  ·exact ⟨[_],_,rfl,by simp,by simp,he⟩
  ·split
   ·exact ⟨[_,_],_,rfl,by simp,by simp,he⟩
   ·exact ⟨[_,_,_],_,rfl,by simp,by simp,he⟩
theorem yD {l:List UInt8} (h:asc l) {i:Nat} {c:UInt8} (hi:l[i]?=some c):c.toNat<128:=h c (List.mem_of_getElem? hi)
theorem tg (n:Nat) (set:List UInt8) (h:asc set) (hn:set.length<n):ah (bU n) n (set,0)=some (.inr ()):=by
 refine en (step:=bU n) (λx=>x.1=set) (λx=>set.length - x.2) (λx=>.inr ()) ?_ n _ rfl (by simp;omega)
 rintro ⟨s,i⟩ rfl
 simp only [bU]
 by_cases hi:i<s.length
 ·have hb:Nat.blt i s.length=true:=Nat.ble_eq_true_of_le hi
  obtain ⟨c,hc⟩:∃c,s[i]?=some c:=⟨s[i],List.getElem?_eq_getElem hi⟩
  have hlow:=yD h hc
  have hne:(((c.toNat:Nat):Int)==65533)=false:=by rw [beq_eq_false_iff_ne];omega
  simp only [hb,cond_true,tS hc hlow,hne,cond_false]
  exact .inl ⟨_,rfl,rfl,by simp only;omega,trivial⟩
 ·have hb:Nat.blt i s.length=false:=by
   cases hb:Nat.blt i s.length with
   | false=>rfl
   | true=>exact absurd (Nat.le_of_ble_eq_true hb) (by omega)
  simp only [hb,cond_false]
  exact .inr trivial
theorem pQ {l:List UInt8} {c:UInt8} (h:c∉l):Lib.indexByte l c<0:=by
 have h1:=mu l c
 have h2:hasB l c=false:=by
  unfold hasB
  rw [List.any_eq_false]
  intro x hx he
  simp only [beq_iff_eq] at he
  exact h (he▸hx)
 rw [h2] at h1
 simpa using h1
theorem tF (n:Nat) (set:List UInt8) (h:asc set) (hn:set.length<n) (hs:set.length<=100) (r:Int) (hr:128<=r):cf n set r=some (-1):=by
 have h0:decide ((0:Int)<=r)=true:=decide_eq_true (by omega)
 have h1:decide (r<128)=false:=decide_eq_false (by omega)
 simp only [cf,h0,h1,cond_true,cond_false]
 by_cases hrr:r=65533
 ·have:(r==65533)=true:=beq_iff_eq.2 hrr
  simp only [this,cond_true,tg n set h hn,ob]
 ·have:(r==65533)=false:=beq_eq_false_iff_ne.2 hrr
  simp only [this,cond_false]
  obtain ⟨v,hv⟩:∃v,bX n r=some v:=by
   unfold bX
   generalize decide ((0:Int)<=r)=d1
   generalize decide (r<55296)=d2
   generalize decide ((57343:Int)<r)=d3
   generalize decide (r<=1114111)=d4
   cases d1<;>cases d2<;>cases d3<;>cases d4<;>exact ⟨_,rfl⟩
  simp only [hv,ob]
  cases v with
  | false=>rfl
  | true=>
   simp only [Bool.not_true,cond_false]
   obtain ⟨p,e,hp,hp1,hp3,he⟩:=yk r hr
   simp only [hp]
   have hw:IntKind.wrap .i64 (((p++[e]).length:Nat) - 1:Int)=(p.length:Int):=by
    rw [wrap_i64 _ (by simp<;>omega) (by simp<;>omega)];simp
   rw [hw]
   obtain ⟨m,rfl⟩:∃m,n=m+1:=⟨n - 1,by omega⟩
   have hstep:bW (m+1) (set,p++[e],(p.length:Int),(p.length:Int))=some (.inr (.inl (-1)))\/bW (m+1) (set,p++[e],(p.length:Int),(p.length:Int))=some (.inr (.inr ())):=by
    simp only [bW,iM]
    by_cases hl:p.length<set.length
    ·obtain ⟨c,hc⟩:∃c,set[p.length]?=some c:=⟨set[p.length],List.getElem?_eq_getElem hl⟩
     have hlow:=yD h hc
     have hpe:(p++[e])[p.length]?=some e:=by simp
     have hne:(((c.toNat:Nat):Int) != ((e.toNat:Nat):Int))=true:=by simp only [bne,Bool.not_eq_true',beq_eq_false_iff_ne];omega
     have hw2:IntKind.wrap .i64 ((p.length:Int)+1)=((p.length+1:Nat):Int):=by rw [wrap_i64 _ (by omega) (by omega)];omega
     have hx:e∉List.drop (p.length+1) (List.take set.length set):=by
      intro hm
      have:=h e (by simpa using List.mem_of_mem_drop hm)
      omega
     left
     simp only [hl,decide_true,cond_true,ip hc,ip hpe,ob,hne,hw2,dS (show p.length+1<=set.length by omega),iq,pQ hx]
    ·right
     simp only [hl,decide_false,cond_false]
   rcases hstep with hs1 | hs1<;>simp only [ah,hs1,ob]
theorem pL (n:Nat) (set:List UInt8) (c:UInt8) (r:Int) (hr:r=((c.toNat:Nat):Int)) (hc:c.toNat<128):cf n set r=some (Lib.indexByte set c):=by
 have h0:decide ((0:Int)<=r)=true:=decide_eq_true (by omega)
 have h1:decide (r<128)=true:=decide_eq_true (by omega)
 have hw:IntKind.wrap .u8 r=r:=dr _ (by omega) (by omega)
 have hb:cQ n set r=some (Lib.indexByte set c):=by rw [hr];exact iq n set c
 simp only [cf,h0,h1,cond_true,hw,hb,ob]
theorem qQ (n:Nat) (set:List UInt8) (c:UInt8) (hc:c.toNat<128):cf n set ((c.toNat:Nat):Int)=some (Lib.indexByte set c):=pL n set c _ rfl hc
theorem nC (n:Nat) (set:List UInt8) (c:UInt8) (hc:c.toNat<128):bT n set ((c.toNat:Nat):Int)=some (hasB set c):=by
 simp only [bT,qQ n set c hc,ob,mI]
theorem pm (n:Nat) (set:List UInt8) (h:asc set) (hn:set.length<n) (hs:set.length<=100) (r:Int) (hr:128<=r):bT n set r=some false:=by
 simp only [bT,tF n set h hn hs r hr,ob];rfl
theorem n7 (x:Int) (h0:0<=x) (h1:x<65536):IntKind.wrap .u16 x=x:=by
 show x%65536=x
 omega
theorem tD (w a:Nat):BitVec.ofInt w (a:Int)=BitVec.ofNat w a:=by
 apply BitVec.eq_of_toNat_eq
 simp
theorem Dt (k:Nat):(2:Int) ^ k=((2 ^ k:Nat):Int):=by simp
theorem BA (a k:Nat):Int.fdiv (a:Int) (2 ^ k)=((a / 2 ^ k:Nat):Int):=by
 rw [Dt k,Int.fdiv_eq_ediv_of_nonneg _ (Int.natCast_nonneg _)]
 rfl
def inR (lo hi:Int) (c:UInt8):Bool:=decide (((c.toNat:Nat):Int)>=lo)&&decide (((c.toNat:Nat):Int)<=hi)
def cnt (lo hi:Int) (l:List UInt8):Nat:=l.countP (inR lo hi)
theorem zH (lo hi:Int) (l:List UInt8):cnt lo hi l<=l.length:=List.countP_le_length
theorem B3 (lo hi:Int) {l:List UInt8} {i:Nat} {c:UInt8} (h:l[i]?=some c):cnt lo hi (l.take (i+1))=cnt lo hi (l.take i)+if inR lo hi c then 1 else 0:=by
 unfold cnt
 rw [List.take_add_one,h,List.countP_append]
 simp [List.countP_cons]
theorem vj (n:Nat) (s:List UInt8) (lo hi:Int) (hs:s.length<n) (hb:s.length<100000):dq n s lo hi=some ((cnt lo hi s:Nat):Int):=by
 have:=en (step:=dR n) (λx=>∃i:Nat,i<=s.length/\x=(s,lo,hi,((cnt lo hi (s.take i):Nat):Int),(i:Int))) (λx=>s.length - x.2.2.2.2.toNat) (λ_=>((cnt lo hi s:Nat):Int)) ?_ n (s,lo,hi,0,0) ⟨0,by omega,by simp [cnt]⟩ (by simp;omega)
 ·simp only [dq,this,ob]
 rintro x ⟨i,hi',rfl⟩
 rcases Nat.lt_or_ge i s.length with hlt | hge
 ·obtain ⟨c,hc⟩:∃c,s[i]?=some c:=⟨s[i],List.getElem?_eq_getElem hlt⟩
  have hct:=B3 lo hi hc
  have hle:=zH lo hi (s.take i)
  rw [List.length_take] at hle
  have w1:IntKind.wrap .i64 ((i:Int)+1)=((i+1:Nat):Int):=by rw [wrap_i64 _ (by omega) (by omega)];omega
  have w2:IntKind.wrap .i64 (((cnt lo hi (s.take i):Nat):Int)+1)=((cnt lo hi (s.take i)+1:Nat):Int):=by rw [wrap_i64 _ (by omega) (by omega)];omega
  refine .inl ⟨(s,lo,hi,((cnt lo hi (s.take (i+1)):Nat):Int),((i+1:Nat):Int)),?_,⟨i+1,hlt,rfl⟩,by simp only [Int.toNat_natCast];omega,rfl⟩
  simp only [dR,iM,hlt,decide_true,cond_true,ip hc,ob,w1,w2]
  rw [hct]
  by_cases h1:((c.toNat:Nat):Int)>=lo
  ·by_cases h2:((c.toNat:Nat):Int)<=hi
   ·simp [h1,h2,inR]
   ·simp [h1,h2,inR]
  ·simp [h1,inR]
 ·have:i=s.length:=by omega
  subst this
  refine .inr ?_
  simp only [dR,iM,Nat.lt_irrefl,decide_false,cond_false,List.take_length]
theorem Am (lo hi:Int) (l:List UInt8):cnt lo hi l=l.length↔∀c∈l,inR lo hi c=true:=by
 unfold cnt
 rw [List.countP_eq_length]
theorem Bh (lo hi:Int) (l:List UInt8):cnt lo hi l=0↔∀c∈l,inR lo hi c=false:=by
 unfold cnt
 rw [List.countP_eq_zero]
 simp
def bJ (c:UInt8):Bool:=inR 48 57 c
theorem ej (c:UInt8):bJ c=true↔48<=c.toNat/\c.toNat<=57:=by
 unfold bJ inR
 simp only [Bool.and_eq_true,decide_eq_true_eq]
 omega
theorem rr (c:UInt8):inR 88 88 c=true↔c=88:=by
 unfold inR
 simp only [Bool.and_eq_true,decide_eq_true_eq]
 constructor
 ·intro h
  apply UInt8.toNat_inj.1
  show c.toNat=88
  omega
 ·rintro rfl;decide
theorem z8 (c:UInt8):inR 48 48 c=true↔c=48:=by
 unfold inR
 simp only [Bool.and_eq_true,decide_eq_true_eq]
 constructor
 ·intro h
  apply UInt8.toNat_inj.1
  show c.toNat=48
  omega
 ·rintro rfl;decide
theorem yP:∀l:List UInt8,cnt 48 57 l+cnt 88 88 l<=l.length/\(cnt 48 57 l+cnt 88 88 l=l.length↔∀c∈l,bJ c=true\/c=88)
 | []=>by simp [cnt]
 | c::l=>by
  have ih:=yP l
  have e1:cnt 48 57 (c::l)=cnt 48 57 l+if inR 48 57 c then 1 else 0:=by simp [cnt,List.countP_cons]
  have e2:cnt 88 88 (c::l)=cnt 88 88 l+if inR 88 88 c then 1 else 0:=by simp [cnt,List.countP_cons]
  have hd:¬(inR 48 57 c=true/\inR 88 88 c=true):=by
   rintro ⟨h1,h2⟩
   have:=(ej c).1 h1
   rw [(rr c).1 h2] at this
   exact absurd this.2 (by decide)
  rw [e1,e2,List.length_cons]
  simp only [List.mem_cons,forall_eq_or_imp]
  have hx:=rr c
  have hg:bJ c=inR 48 57 c:=rfl
  rw [hg]
  cases h1:inR 48 57 c<;>cases h2:inR 88 88 c
  ·simp only [h1,h2] at hx ⊢
   have:c≠88:=λe=>by simpa using hx.2 e
   simp [this];omega
  ·simp only [h1,h2] at hx ⊢
   have:c=88:=hx.1 trivial
   simp only [this,Bool.false_eq_true,if_true,if_false,false_or,true_and]
   rw [<-ih.2]
   omega
  ·simp only [h1,h2] at hx ⊢
   simp only [Bool.false_eq_true,if_true,if_false,true_or,true_and]
   rw [<-ih.2]
   omega
  ·exact absurd ⟨h1,h2⟩ hd
theorem yY (n:Nat) (s set:List UInt8) (ha:asc set) (hn:set.length<n) (hl:set.length<=100) (hs:s.length<n):
  ∃y,ah (br n) n (true,set,s,0)=some y/\((y=.inr ()/\s.all (hasB set)=true)\/∃i:Nat,y=.inl (i:Int)/\s.all (hasB set)=false):=by
 refine jQ (step:=br n) (λx=>x.1=true/\x.2.1=set/\x.2.2.1=s/\s.all (hasB set)=(s.drop x.2.2.2).all (hasB set)) (λx=>s.length - x.2.2.2) _ ?_ n _ ⟨rfl,rfl,rfl,rfl⟩ (by simp only;omega)
 rintro ⟨b,st,s',p⟩ ⟨hb,hst,hs',hall⟩
 simp only at hb hst hs' hall
 rw [hb,hst,hs']
 clear hb hst hs' b st s'
 rcases Nat.lt_or_ge p s.length with hlt | hge
 ·obtain ⟨c,hc⟩:∃c,s[p]?=some c:=⟨s[p],List.getElem?_eq_getElem hlt⟩
  have hbl:Nat.blt p s.length=true:=Nat.ble_eq_true_of_le hlt
  rw [gJ hc,List.all_cons] at hall
  rcases Nat.lt_or_ge c.toNat 128 with h128 | h128
  ·have hd:=tS hc h128
   simp only [br,hbl,cond_true,fA,hd,nC n set c h128,ob]
   cases hh:hasB set c with
   | true=>
    rw [hh,Bool.true_and] at hall
    exact .inl ⟨_,rfl,⟨rfl,rfl,rfl,hall⟩,by simp only;omega⟩
   | false=>
    rw [hh,Bool.false_and] at hall
    exact .inr ⟨_,rfl,.inr ⟨p,rfl,hall⟩⟩
  ·have hd:=vE hc h128
   have hh:hasB set c=false:=by
    unfold hasB
    rw [List.any_eq_false]
    intro x hx he
    simp only [beq_iff_eq] at he
    have:=ha x hx
    rw [he] at this
    omega
   rw [hh,Bool.false_and] at hall
   have hcr:=pm n set ha hn hl (((dec s p).1:Nat):Int) (by omega)
   simp only [br,hbl,cond_true,fA,hcr,ob]
   exact .inr ⟨_,rfl,.inr ⟨p,rfl,hall⟩⟩
 ·have hbl:Nat.blt p s.length=false:=by
   cases hb:Nat.blt p s.length with
   | false=>rfl
   | true=>exact absurd (Nat.le_of_ble_eq_true hb) (by omega)
  simp only [br,hbl,cond_false]
  rw [List.drop_eq_nil_of_le hge] at hall
  exact .inr ⟨_,rfl,.inl ⟨rfl,by rw [hall];rfl⟩⟩
theorem zQ (n:Nat) (s set:List UInt8) (ha:asc set) (hn:set.length<n) (hl:set.length<=100) (hs:s.length<n):dB n s set=some (s.all (hasB set)):=by
 obtain ⟨y,h1,h2⟩:=yY n s set ha hn hl hs
 simp only [dB,gE,gy,h1,ob]
 rcases h2 with ⟨rfl,h3⟩ | ⟨i,rfl,h3⟩
 ·rw [h3];rfl
 ·rw [h3]
  simp only [Option.some.injEq,decide_eq_false_iff_not]
  omega
theorem BP:asc [48,49,50,51,52,53,54,55,56,57]:=by unfold asc;decide
theorem zb:asc [88,48,49,50,51,52,53,54,55,56,57]:=by unfold asc;decide
theorem s7 (p:UInt8->Bool) (h:∀i:Fin 256,p (UInt8.ofNat i.val)=true) (c:UInt8):p c=true:=by
 have:=h ⟨c.toNat,c.toNat_lt⟩
 simpa using this
theorem xQ (c:UInt8):hasB [48,49,50,51,52,53,54,55,56,57] c=bJ c:=by
 have:=s7 (λc=>hasB [48,49,50,51,52,53,54,55,56,57] c==bJ c) (by decide +kernel) c
 simpa using this
theorem wM (c:UInt8):hasB [88,48,49,50,51,52,53,54,55,56,57] c=(bJ c||c==88):=by
 have:=s7 (λc=>hasB [88,48,49,50,51,52,53,54,55,56,57] c==(bJ c||c==88)) (by decide +kernel) c
 simpa using this
theorem xY (n:Nat) (s:List UInt8) (hn:100<n) (hs:s.length<n):dB n s [48,49,50,51,52,53,54,55,56,57]=some (s.all bJ):=by
 rw [zQ n s _ BP (by simp;omega) (by simp) hs]
 congr 2
 funext c
 exact xQ c
theorem xD (n:Nat) (s:List UInt8) (hn:100<n) (hs:s.length<n):dB n s [88,48,49,50,51,52,53,54,55,56,57]=some (s.all λc=>bJ c||c==88):=by
 rw [zQ n s _ zb (by simp;omega) (by simp) hs]
 congr 2
 funext c
 exact wM c
def all0 (s:List UInt8):Bool:=s.all λc=>c==48
theorem GM (n:Nat) (s:List UInt8) (hs:s.length<n) (hb:s.length<100000):∃y,dj n s 48=some y/\all0 s=all0 y/\y.length<=s.length:=by
 obtain ⟨y,h1,h2⟩:=jQ (step:=bM n) (λx=>x.2=48/\all0 s=all0 x.1/\x.1.length<=s.length) (λx=>x.1.length) (λy=>all0 s=all0 y/\y.length<=s.length) (by
  rintro ⟨l,c⟩ ⟨rfl,h,hl⟩
  simp only at h hl
  by_cases h0:l.length>0
  ·have d0:decide (((l.length:Nat):Int)>0)=true:=decide_eq_true (by omega)
   have w1:IntKind.wrap .i64 (((l.length:Nat):Int) - 1)=((l.length - 1:Nat):Int):=by rw [wrap_i64 _ (by omega) (by omega)];omega
   obtain ⟨c,hc⟩:∃c,l[l.length - 1]?=some c:=⟨l[l.length - 1],List.getElem?_eq_getElem (by omega)⟩
   simp only [bM,d0,cond_true,w1,ip hc,ob]
   by_cases he:c=48
   ·have e1:(((c.toNat:Nat):Int)==48)=true:=by rw [he];rfl
    simp only [e1,cond_true,dS (show l.length - 1<=l.length by omega),List.drop_zero]
    refine .inl ⟨(List.take (l.length - 1) l,48),rfl,⟨rfl,?_,by show (List.take (l.length - 1) l).length<=s.length;rw [List.length_take];omega⟩,by show (List.take (l.length - 1) l).length<l.length;rw [List.length_take];omega⟩
    rw [h]
    have:l=l.take (l.length - 1)++[c]:=by
     have h2:=List.take_add_one (l:=l) (i:=l.length - 1)
     rw [hc,show l.length - 1+1=l.length by omega,List.take_length] at h2
     exact h2
    rw [this]
    simp only [all0,List.all_append,List.all_cons,List.all_nil,he]
    simp
   ·have e1:(((c.toNat:Nat):Int)==48)=false:=by
     rw [beq_eq_false_iff_ne]
     intro e
     exact he (UInt8.toNat_inj.1 (by show c.toNat=48;omega))
    simp only [e1,cond_false]
    exact .inr ⟨_,rfl,h,hl⟩
  ·have d0:decide (((l.length:Nat):Int)>0)=false:=decide_eq_false (by omega)
   simp only [bM,d0,cond_false]
   exact .inr ⟨_,rfl,h,hl⟩) n (s,48) ⟨rfl,rfl,Nat.le_refl _⟩ hs
 exact ⟨y,by simp only [dj,h1,ob],h2⟩
theorem FX (n:Nat) (s:List UInt8) (hs:s.length<n) (hb:s.length<100000):∃y,dF n s 48=some y/\all0 s=(y==[]):=by
 obtain ⟨y,h1,h2⟩:=jQ (step:=cK n) (λx=>x.2=48/\all0 s=all0 x.1/\x.1.length<=s.length) (λx=>x.1.length) (λy=>all0 s=(y==[])) (by
  rintro ⟨l,c⟩ ⟨rfl,h,hl⟩
  simp only at h hl
  cases l with
  | nil=>exact .inr ⟨[],rfl,by rw [h];rfl⟩
  | cons c l=>
   have d0:decide ((((c::l).length:Nat):Int)>0)=true:=decide_eq_true (by simp only [List.length_cons];omega)
   have hc:sx (c::l) 0=some c:=by simp [sx]
   simp only [cK,d0,cond_true,hc,ob]
   by_cases he:c=48
   ·have e1:(((c.toNat:Nat):Int)==48)=true:=by rw [he];rfl
    have hbx:bx (c::l).length 1=some 1:=dS (i:=1) (by simp)
    simp only [e1,cond_true,hbx,List.take_length,List.drop_succ_cons,List.drop_zero]
    refine .inl ⟨_,rfl,⟨rfl,?_,by show l.length<=s.length;simp only [List.length_cons] at hl;omega⟩,by simp⟩
    rw [h]
    simp [all0,he]
   ·have e1:(((c.toNat:Nat):Int)==48)=false:=by
     rw [beq_eq_false_iff_ne]
     intro e
     exact he (UInt8.toNat_inj.1 (by show c.toNat=48;omega))
    simp only [e1,cond_false]
    refine .inr ⟨_,rfl,?_⟩
    rw [h]
    have e2:(c==48)=false:=beq_eq_false_iff_ne.2 he
    simp [all0,e2]) n (s,48) ⟨rfl,rfl,Nat.le_refl _⟩ hs
 exact ⟨y,by simp only [dF,h1,ob],h2⟩
theorem Db (n:Nat) (s:List UInt8) (hs:s.length<n) (hb:s.length<100000):∃y,jk n s=some y/\(y==[])=all0 s:=by
 unfold jk
 by_cases h:s=[]
 ·subst h;exact ⟨[],rfl,rfl⟩
 ·have:(s==([]:List UInt8))=false:=beq_eq_false_iff_ne.2 h
  obtain ⟨y,h1,h2,h3⟩:=GM n s hs hb
  obtain ⟨z,h4,h5⟩:=FX n y (by omega) (by omega)
  exact ⟨z,by simp only [this,cond_false,h1,h4,ob],by rw [h2,h5]⟩
theorem AS (s:List UInt8):all0 s=true↔cnt 48 48 s=s.length:=by
 rw [Am]
 unfold all0
 rw [List.all_eq_true]
 constructor
 ·intro h c hc
  have:=h c hc
  rw [beq_iff_eq] at this
  exact (z8 c).2 this
 ·intro h c hc
  rw [beq_iff_eq]
  exact (z8 c).1 (h c hc)
def hasX (s:List UInt8):Bool:=s.any λc=>c==88
theorem vF (s:List UInt8):hasX s=decide (0<cnt 88 88 s):=by
 have:=Bh 88 88 s
 unfold hasX
 cases h:s.any λc=>c==88 with
 | true=>
  obtain ⟨c,hc,he⟩:=List.any_eq_true.1 h
  rw [beq_iff_eq] at he
  symm
  rw [decide_eq_true_eq]
  rcases Nat.eq_zero_or_pos (cnt 88 88 s) with h0 | h0
  ·have:=this.1 h0 c hc
   rw [(rr c).2 he] at this
   cases this
  ·exact h0
 | false=>
  symm
  rw [decide_eq_false_iff_not]
  intro h0
  have:cnt 88 88 s=0:=this.2 λc hc=>by
   cases hx:inR 88 88 c with
   | false=>rfl
   | true=>
    rw [List.any_eq_false] at h
    exact absurd (beq_iff_eq.2 ((rr c).1 hx)) (h c hc)
  omega
theorem sE (n:Nat) (s:List UInt8):eo n s=some (hasX s):=by
 have e:UInt8.ofNat (Int.toNat 88)=(88:UInt8):=rfl
 have hi:iC n s=some (Lib.indexByte s 88):=by
  simp only [iC,eW,bB,ob,e]
  by_cases h:([88]:List UInt8)=s
  ·subst h;rfl
  ·have:(([88]:List UInt8)==s)=false:=beq_eq_false_iff_ne.2 h
   simp only [this,cond_false]
 simp only [eo,hi,ob,mI]
 rfl
theorem mj (n:Nat) (g l:Bool) (d:List UInt8) (x q:Int):bD n g l d x q=some (hasX d):=by
 simp only [bD,sE,ob]
theorem jO (n:Nat) (g l:Bool) (d:List UInt8) (x q:Int) (hs:d.length<n) (hb:d.length<100000):ak n g l d x q=some (if hasX d then 1 else 0):=by
 simp only [ak,vj n d 88 88 hs hb,ob,vF,decide_eq_true_eq]
 by_cases h:0<cnt 88 88 d
 ·have:decide (((cnt 88 88 d:Nat):Int)<1)=false:=decide_eq_false (by omega)
  simp [this,h]
 ·have:decide (((cnt 88 88 d:Nat):Int)<1)=true:=decide_eq_true (by omega)
  have h0:cnt 88 88 d=0:=by omega
  simp [this,h0]
def nD (acc:Nat) (c:UInt8):Nat:=acc*10+(c.toNat - 48)
def dval (acc:Nat) (l:List UInt8):Nat:=l.foldl nD acc
theorem kj (acc:Nat):dval acc []=acc:=by unfold dval;rw [List.foldl_nil]
theorem jI (acc:Nat) (c:UInt8) (l:List UInt8):dval acc (c::l)=dval (nD acc c) l:=by
 unfold dval;rw [List.foldl_cons]
theorem ww (l:List UInt8) (acc:Nat) (c:UInt8):dval acc (l++[c])=dval acc l*10+(c.toNat - 48):=by
 have:dval acc (l++[c])=nD (dval acc l) c:=by
  unfold dval;rw [List.foldl_append,List.foldl_cons,List.foldl_nil]
 rw [this]
 rfl
theorem D2 (M:Nat) (hM:10000000000000000000<=M) (l:List UInt8):∀(acc k:Nat),(∀c∈l,bJ c=true)->acc<10 ^ k->l.length+k<=18->Lib.parseUintM M acc l=.ok (dval acc l)/\dval acc l<10 ^ (l.length+k):=by
 induction l with
 | nil=>
  intro acc k _ h1 _
  rw [kj]
  refine ⟨rfl,?_⟩
  simpa using h1
 | cons c l ih=>
  intro acc k h h1 h2
  have hc:=(ej c).1 (h c (by simp))
  simp only [List.length_cons] at h2
  have hp:(10:Nat) ^ (k+1)=10 ^ k*10:=Nat.pow_succ 10 k
  have hle:(10:Nat) ^ (k+1)<=10 ^ 18:=Nat.pow_le_pow_right (by decide) (by omega)
  have h18:(10:Nat) ^ 18=1000000000000000000:=by decide
  have hd:nD acc c=acc*10+(c.toNat - 48):=rfl
  have ih:=ih (nD acc c) (k+1) (λd hd=>h d (by simp [hd])) (by omega) (by omega)
  refine ⟨?_,?_⟩
  ·simp only [Lib.parseUintM]
   rw [if_pos hc,if_neg (by omega),if_neg (by omega),<-hd,ih.1,jI]
  ·rw [jI,List.length_cons,show l.length+1+k=l.length+(k+1) by omega]
   exact ih.2
theorem xx {l:List UInt8} (h:∀c∈l,bJ c=true) (h0:l≠[]) (hl:l.length<=18):oG l=some ((dval 0 l:Nat):Int)/\dval 0 l<10 ^ l.length:=by
 obtain ⟨h1,h2⟩:=D2 (2 ^ 64 - 1) (by decide) l 0 0 h (by simp) (by omega)
 refine ⟨?_,by simpa using h2⟩
 have hlt:dval 0 l<10 ^ 18:=Nat.lt_of_lt_of_le h2 (Nat.pow_le_pow_right (by decide) (by omega))
 cases l with
 | nil=>exact absurd rfl h0
 | cons c r=>
  have hc:=(ej c).1 (h c (by simp))
  have hu:Lib.parseUintB 64 (c::r)=.ok (dval 0 (c::r)):=by
   unfold Lib.parseUintB
   rw [if_neg h0,h1]
  have hs:¬(c.toNat=43\/c.toNat=45):=by omega
  simp only [oG,Lib.parseIntB,hs,if_false,hu]
  have h18:(10:Nat) ^ 18=1000000000000000000:=by decide
  have h63:(2:Nat) ^ (64 - 1)=9223372036854775808:=by decide
  have hn:¬c.toNat=45:=by omega
  simp only [hn,not_false_eq_true,true_and,false_and,if_false]
  rw [h63,if_neg (by omega)]
theorem BH (n k:Nat) (hk:k<=18) (hn:18<n):jC n (k:Int)=some (((10 ^ k:Nat):Int),0):=by
 have h18:(10:Nat) ^ 18=1000000000000000000:=by decide
 have:=en (step:=ge n) (λx=>∃i:Nat,i<=k/\x=(((10 ^ i:Nat):Int),(k:Int),(i:Int))) (λx=>k - x.2.2.toNat) (λ_=>((10 ^ k:Nat):Int)) (by
  rintro x ⟨i,hi,rfl⟩
  rcases Nat.lt_or_ge i k with hlt | hge
  ·have hle:(10:Nat) ^ (i+1)<=10 ^ 18:=Nat.pow_le_pow_right (by decide) (by omega)
   have hp:(10:Nat) ^ (i+1)=10 ^ i*10:=Nat.pow_succ 10 i
   have w1:IntKind.wrap .i64 (((10 ^ i:Nat):Int)*10)=((10 ^ (i+1):Nat):Int):=by rw [wrap_i64 _ (by omega) (by omega)];omega
   have w2:IntKind.wrap .i64 ((i:Int)+1)=((i+1:Nat):Int):=by rw [wrap_i64 _ (by omega) (by omega)];omega
   refine .inl ⟨_,?_,⟨i+1,hlt,rfl⟩,by simp only [Int.toNat_natCast];omega,rfl⟩
   simp only [ge,iM,hlt,decide_true,cond_true,w1,w2]
  ·have:i=k:=by omega
   subst this
   refine .inr ?_
   simp only [ge,iM,Nat.lt_irrefl,decide_false,cond_false]) n (1,(k:Int),0) ⟨0,by omega,rfl⟩ (by simp;omega)
 have d1:decide ((k:Int)<0)=false:=decide_eq_false (by omega)
 have d2:decide ((k:Int)>18)=false:=decide_eq_false (by omega)
 simp only [jC,d1,d2,cond_false,this,ob]
theorem f8 (x:Int) (h0:0<=x) (h1:x<18446744073709551616):IntKind.wrap .u64 x=x:=by
 show x%18446744073709551616=x
 omega
theorem tW (x:Int):IntKind.wrap .u64 x=x%18446744073709551616:=rfl
theorem zm {a:Nat} (ha:a<18446744073709551616):bits .and .u64 (a:Int) 4294967295=((a%4294967296:Nat):Int):=by
 show IntKind.wrap .u64 ((BitVec.ofInt 64 (a:Int) &&& BitVec.ofInt 64 ((4294967295:Nat):Int)).toNat:Int)=_
 rw [tD,tD,BitVec.toNat_and,BitVec.toNat_ofNat,BitVec.toNat_ofNat,Nat.mod_eq_of_lt (show a<2 ^ 64 from ha),Nat.mod_eq_of_lt (by decide)]
 have:=Nat.and_two_pow_sub_one_eq_mod a 32
 rw [show (2:Nat) ^ 32 - 1=4294967295 from by decide,show (2:Nat) ^ 32=4294967296 from by decide] at this
 rw [this]
 exact f8 _ (by omega) (by omega)
theorem AV (a:Nat):Int.fdiv (a:Int) (2 ^ 32)=((a / 4294967296:Nat):Int):=by
 rw [BA]
theorem vz {a b A B:Nat} (ha:a<=A) (hb:b<=B):a*b<=A*B:=Nat.mul_le_mul ha hb
theorem yb (a b:Nat):a*b=(a / 4294967296)*(b / 4294967296)*18446744073709551616+((a / 4294967296)*(b%4294967296)+(a%4294967296)*(b / 4294967296))*4294967296+(a%4294967296)*(b%4294967296):=by
 have e1:a=(a / 4294967296)*4294967296+a%4294967296:=by omega
 have e2:b=(b / 4294967296)*4294967296+b%4294967296:=by omega
 generalize a / 4294967296=x1 at e1 ⊢
 generalize a%4294967296=x0 at e1 ⊢
 generalize b / 4294967296=y1 at e2 ⊢
 generalize b%4294967296=y0 at e2 ⊢
 subst e1 e2
 rw [Nat.add_mul,Nat.mul_add,Nat.mul_add]
 have h1:x1*4294967296*(y1*4294967296)=x1*y1*18446744073709551616:=by
  rw [Nat.mul_mul_mul_comm]
 have h2:x1*4294967296*y0=x1*y0*4294967296:=by rw [Nat.mul_right_comm]
 have h3:x0*(y1*4294967296)=x0*y1*4294967296:=by rw [Nat.mul_assoc]
 rw [h1,h2,h3,Nat.add_mul]
 omega
theorem GG (n a b:Nat) (ha:a<18446744073709551616) (hb:b<18446744073709551616):fV n (a:Int) (b:Int)=some (((a*b / 18446744073709551616:Nat):Int),((a*b%18446744073709551616:Nat):Int)):=by
 have hsp:=yb a b
 have hx1:a / 4294967296<=4294967295:=by omega
 have hx0:a%4294967296<=4294967295:=by omega
 have hy1:b / 4294967296<=4294967295:=by omega
 have hy0:b%4294967296<=4294967295:=by omega
 have p00:=vz hx0 hy0
 have p01:=vz hx0 hy1
 have p10:=vz hx1 hy0
 have p11:=vz hx1 hy1
 have hlo:IntKind.wrap .u64 ((a:Int)*(b:Int))=((a*b%18446744073709551616:Nat):Int):=by
  rw [tW,<-Int.natCast_mul];omega
 simp only [fV,AV,zm ha,zm hb,hlo]
 simp only [<-Int.natCast_mul]
 generalize (a / 4294967296)*(b / 4294967296)=q11 at *
 generalize (a / 4294967296)*(b%4294967296)=q10 at *
 generalize (a%4294967296)*(b / 4294967296)=q01 at *
 generalize (a%4294967296)*(b%4294967296)=q00 at *
 generalize a*b=N at *
 have w1:IntKind.wrap .u64 ((q00:Nat):Int)=((q00:Nat):Int):=f8 _ (by omega) (by omega)
 have w2:IntKind.wrap .u64 ((q10:Nat):Int)=((q10:Nat):Int):=f8 _ (by omega) (by omega)
 have w3:IntKind.wrap .u64 ((q01:Nat):Int)=((q01:Nat):Int):=f8 _ (by omega) (by omega)
 have w4:IntKind.wrap .u64 ((q11:Nat):Int)=((q11:Nat):Int):=f8 _ (by omega) (by omega)
 rw [w1,w2,w3,w4,AV q00]
 have w5:IntKind.wrap .u64 (((q10:Nat):Int)+((q00 / 4294967296:Nat):Int))=((q10+q00 / 4294967296:Nat):Int):=by rw [f8 _ (by omega) (by omega)];omega
 rw [w5,AV,zm (by omega)]
 have w6:IntKind.wrap .u64 (((q11:Nat):Int)+(((q10+q00 / 4294967296) / 4294967296:Nat):Int))=((q11+(q10+q00 / 4294967296) / 4294967296:Nat):Int):=by rw [f8 _ (by omega) (by omega)];omega
 have w7:IntKind.wrap .u64 ((((q10+q00 / 4294967296)%4294967296:Nat):Int)+((q01:Nat):Int))=(((q10+q00 / 4294967296)%4294967296+q01:Nat):Int):=by rw [f8 _ (by omega) (by omega)];omega
 rw [w6,w7,AV]
 have w8:IntKind.wrap .u64 (((q11+(q10+q00 / 4294967296) / 4294967296:Nat):Int)+((((q10+q00 / 4294967296)%4294967296+q01) / 4294967296:Nat):Int))=((N / 18446744073709551616:Nat):Int):=by
  rw [f8 _ (by omega) (by omega)];omega
 rw [w8]
theorem E8 (n a b:Nat) (ha:a<9223372036854775808) (hb:b<9223372036854775808):nK n (a:Int) (b:Int)=some (if a*b<9223372036854775808 then (((a*b:Nat):Int),0) else (0,15)):=by
 have d1:decide ((a:Int)<0)=false:=decide_eq_false (by omega)
 have d2:decide ((b:Int)<0)=false:=decide_eq_false (by omega)
 have w1:IntKind.wrap .u64 (a:Int)=a:=f8 _ (by omega) (by omega)
 have w2:IntKind.wrap .u64 (b:Int)=b:=f8 _ (by omega) (by omega)
 simp only [nK,mt,d1,d2,cond_false,w1,w2,ob,GG n a b (by omega) (by omega)]
 generalize a*b=N
 by_cases h:18446744073709551616<=N
 ·have d3:decide (((N / 18446744073709551616:Nat):Int)>0)=true:=decide_eq_true (by omega)
  rw [d3,if_neg (by omega)]
  rfl
 ·have d3:decide (((N / 18446744073709551616:Nat):Int)>0)=false:=decide_eq_false (by omega)
  have e:N%18446744073709551616=N:=Nat.mod_eq_of_lt (by omega)
  rw [d3,e]
  simp only [cond_false,BEq.rfl,Bool.not_true,lU,Bool.not_false,cond_true]
  by_cases h2:N<9223372036854775808
  ·have d4:decide (((N:Nat):Int)<=9223372036854775807)=true:=decide_eq_true (by omega)
   rw [d4,if_pos h2,cond_true,wrap_i64 _ (by omega) (by omega)]
  ·have d4:decide (((N:Nat):Int)<=9223372036854775807)=false:=decide_eq_false (by omega)
   rw [d4,if_neg h2,cond_false]
def E16:Nat:=10000000000000000
theorem DD {x:Nat} (hx:17<=x):E16<10 ^ x:=by
 have:(10:Nat) ^ 17<=10 ^ x:=Nat.pow_le_pow_right (by decide) hx
 have h17:(10:Nat) ^ 17=100000000000000000:=by decide
 unfold E16
 omega
theorem ym (n:Nat) (g l:Bool) (d:List UInt8) (x:Nat) (s:Int) (hd:∀c∈d,bJ c=true) (h0:d≠[]) (hl:d.length<=17) (hx:x<=18) (hn:18<n):
  bZ n g l d (x:Int) s=some (if dval 0 d*10 ^ x<=E16 then (((dval 0 d*10 ^ x:Nat):Int),0) else (0,6)):=by
 obtain ⟨h1,h2⟩:=xx hd h0 (by omega)
 have hv:dval 0 d<10 ^ 17:=Nat.lt_of_lt_of_le h2 (Nat.pow_le_pow_right (by decide) hl)
 have hp:(10:Nat) ^ x<=10 ^ 18:=Nat.pow_le_pow_right (by decide) hx
 have h17:(10:Nat) ^ 17=100000000000000000:=by decide
 have h18:(10:Nat) ^ 18=1000000000000000000:=by decide
 have hb:Nat.ble d.length 9223372036854775806=true:=Nat.ble_eq_true_of_le (by omega)
 simp only [bZ,hb,cond_true,h1,ob,BH n x hx hn,bne_self_eq_false,cond_false,E8 n _ _ (show dval 0 d<9223372036854775808 by omega) (show 10 ^ x<9223372036854775808 by omega)]
 generalize dval 0 d*10 ^ x=N
 unfold E16
 by_cases h:N<9223372036854775808
 ·rw [if_pos h]
  simp only [bne_self_eq_false,cond_false]
  by_cases h3:N<=10000000000000000
  ·have d1:decide (((N:Nat):Int)>10000000000000000)=false:=decide_eq_false (by omega)
   rw [d1,if_pos h3,cond_false]
  ·have d1:decide (((N:Nat):Int)>10000000000000000)=true:=decide_eq_true (by omega)
   rw [d1,if_neg h3,cond_true]
 ·rw [if_neg h,if_neg (by omega)]
  rfl
def pre (d:List UInt8) (i:Nat):Nat:=dval 0 (d.take i)*10 ^ (i - d.length)
theorem B9 {d:List UInt8} {i:Nat} {c:UInt8} (h:d[i]?=some c):pre d (i+1)=10*pre d i+(c.toNat - 48):=by
 have hlt:=oH h
 unfold pre
 rw [List.take_add_one,h,show i+1 - d.length=0 by omega,show i - d.length=0 by omega]
 simp only [Option.toList,ww,Nat.pow_zero,Nat.mul_one]
 omega
theorem CG {d:List UInt8} {i:Nat} (h:d.length<=i):pre d (i+1)=10*pre d i:=by
 unfold pre
 rw [List.take_of_length_le (show d.length<=i+1 by omega),List.take_of_length_le h,show i+1 - d.length=(i - d.length)+1 by omega,Nat.pow_succ]
 rw [<-Nat.mul_assoc]
 omega
theorem uR (d:List UInt8):∀k i,pre d i<=pre d (i+k)
 | 0,i=>Nat.le_refl _
 | k+1,i=>by
  have ih:=uR d k i
  rcases Nat.lt_or_ge (i+k) d.length with hlt | hge
  ·have:=B9 (List.getElem?_eq_getElem hlt)
   rw [show i+(k+1)=i+k+1 by omega,this]
   omega
  ·have:=CG hge
   rw [show i+(k+1)=i+k+1 by omega,this]
   omega
theorem eZ (n:Nat) (d:List UInt8) (x:Nat) (hd:∀c∈d,bJ c=true) (hl:d.length<=100) (hx:x<=100) (hn:d.length+x<n):
  ad n d (x:Int)=some (if dval 0 d*10 ^ x<=E16 then (((dval 0 d*10 ^ x:Nat):Int),1) else (0,0)):=by
 have hend:pre d (d.length+x)=dval 0 d*10 ^ x:=by
  unfold pre
  rw [List.take_of_length_le (by omega),show d.length+x - d.length=x by omega]
 have w0:IntKind.wrap .i64 (((d.length:Nat):Int)+(x:Int))=((d.length+x:Nat):Int):=by rw [wrap_i64 _ (by omega) (by omega)];omega
 have:=en (step:=cI n) (λq=>∃i:Nat,i<=d.length+x/\pre d i<=E16/\q=(d,(x:Int),((pre d i:Nat):Int),(i:Int))) (λq=>d.length+x - q.2.2.2.toNat) (λ_=>if dval 0 d*10 ^ x<=E16 then .inr ((dval 0 d*10 ^ x:Nat):Int) else .inl (0,0)) (by
  rintro q ⟨i,hi,hp,rfl⟩
  simp only [cI,w0,iM]
  unfold E16 at hp ⊢
  have w1:IntKind.wrap .i64 ((i:Int)+1)=((i+1:Nat):Int):=by rw [wrap_i64 _ (by omega) (by omega)];omega
  have w2:IntKind.wrap .i64 (10*((pre d i:Nat):Int))=((10*pre d i:Nat):Int):=by rw [wrap_i64 _ (by omega) (by omega)];omega
  by_cases h1:i<d.length+x
  ·have hm:=uR d (d.length+x - (i+1)) (i+1)
   rw [show i+1+(d.length+x - (i+1))=d.length+x by omega,hend] at hm
   simp only [h1,decide_true,cond_true,w1,w2]
   rcases Nat.lt_or_ge i d.length with hlt | hge
   ·obtain ⟨c,hc⟩:∃c,d[i]?=some c:=⟨d[i],List.getElem?_eq_getElem hlt⟩
    have hdig:=(ej c).1 (hd c (List.mem_of_getElem? hc))
    have hs:=B9 hc
    have w3:IntKind.wrap .u8 (((c.toNat:Nat):Int) - 48)=((c.toNat - 48:Nat):Int):=by rw [dr _ (by omega) (by omega)];omega
    have w4:IntKind.wrap .i64 ((c.toNat - 48:Nat):Int)=((c.toNat - 48:Nat):Int):=wrap_i64 _ (by omega) (by omega)
    have w5:IntKind.wrap .i64 (((10*pre d i:Nat):Int)+((c.toNat - 48:Nat):Int))=((pre d (i+1):Nat):Int):=by rw [wrap_i64 _ (by omega) (by omega)];omega
    simp only [hlt,decide_true,cond_true,ip hc,ob,w3,w4,w5]
    by_cases h2:pre d (i+1)<=10000000000000000
    ·have d1:decide (((pre d (i+1):Nat):Int)>10000000000000000)=false:=decide_eq_false (by omega)
     simp only [d1,cond_false]
     exact .inl ⟨_,rfl,⟨i+1,h1,h2,rfl⟩,by simp only [Int.toNat_natCast];omega,trivial⟩
    ·have d1:decide (((pre d (i+1):Nat):Int)>10000000000000000)=true:=decide_eq_true (by omega)
     simp only [d1,cond_true]
     rw [if_neg (by omega)]
     exact .inr rfl
   ·have hs:=CG hge
    have hnl:¬i<d.length:=by omega
    simp only [hnl,decide_false,cond_false]
    rw [<-hs]
    by_cases h2:pre d (i+1)<=10000000000000000
    ·have d1:decide (((pre d (i+1):Nat):Int)>10000000000000000)=false:=decide_eq_false (by omega)
     simp only [d1,cond_false]
     exact .inl ⟨_,rfl,⟨i+1,h1,h2,rfl⟩,by simp only [Int.toNat_natCast];omega,trivial⟩
    ·have d1:decide (((pre d (i+1):Nat):Int)>10000000000000000)=true:=decide_eq_true (by omega)
     simp only [d1,cond_true]
     rw [if_neg (by omega)]
     exact .inr rfl
  ·have:i=d.length+x:=by omega
   subst this
   simp only [Nat.lt_irrefl,decide_false,cond_false]
   rw [hend] at hp ⊢
   rw [if_pos hp]
   exact .inr rfl) n (d,(x:Int),0,0) ⟨0,by omega,by unfold pre E16;simp [kj],by unfold pre;simp [kj]⟩ (by simp;omega)
 simp only [ad,this,ob]
 by_cases h:dval 0 d*10 ^ x<=E16
 ·rw [if_pos h,if_pos h]
 ·rw [if_neg h,if_neg h]
def okM (d:List UInt8) (x:Int):Prop:=(∀c∈d,bJ c=true)/\1<=d.length/\d.length<=17/\d.head?≠some 48/\0<=x/\x<=16/\¬(x=0/\d.length<5)/\dval 0 d*10 ^ x.toNat<=E16
def okL (d:List UInt8) (x s:Int):Prop:=okM d x/\0<=s/\s<=(d.length:Int)+x
def okS (g:Bool) (d:List UInt8) (x s:Int):Prop:=d.length=4/\(∀c∈d,bJ c=true\/c=88)/\x=0/\¬(g=true/\all0 d=true)/\0<=s/\s<=4/\¬(0<s/\hasX d=true)
def okY (g l:Bool) (d:List UInt8) (x s:Int):Prop:=if l=true then okL d x s else okS g d x s
instance (d:List UInt8) (x:Int):Decidable (okM d x):=by unfold okM;infer_instance
instance (d:List UInt8) (x s:Int):Decidable (okL d x s):=by unfold okL;infer_instance
instance (g:Bool) (d:List UInt8) (x s:Int):Decidable (okS g d x s):=by unfold okS;infer_instance
instance (g l:Bool) (d:List UInt8) (x s:Int):Decidable (okY g l d x s):=by unfold okY;infer_instance
theorem yR (d:List UInt8):d.all bJ=true↔∀c∈d,bJ c=true:=List.all_eq_true
theorem wF (d:List UInt8):(d.all λc=>bJ c||c==88)=true↔∀c∈d,bJ c=true\/c=88:=by
 rw [List.all_eq_true]
 constructor
 ·intro h c hc
  have:=h c hc
  simpa using this
 ·intro h c hc
  have:=h c hc
  simpa using this
theorem Ee (c:UInt8):(((c.toNat:Nat):Int)==48)=(c==48):=vt c 48
theorem DY (n:Nat) (g l:Bool) (d:List UInt8) (x s:Int) (hn:200<n) (hd:d.length<=100):aD n g l d x s=some (decide (okM d x)):=by
 unfold aD
 by_cases h1:d.length<1
 ·have e:decide (((d.length:Nat):Int)<1)=true:=decide_eq_true (by omega)
  rw [e,decide_eq_false (λh:okM d x=>by have:=h.2.1;omega)];rfl
 ·have e:decide (((d.length:Nat):Int)<1)=false:=decide_eq_false (by omega)
  rw [e,cond_false]
  by_cases h2:d.length>17
  ·have e:decide (((d.length:Nat):Int)>17)=true:=decide_eq_true (by omega)
   rw [e,decide_eq_false (λh:okM d x=>by have:=h.2.2.1;omega)];rfl
  ·have e:decide (((d.length:Nat):Int)>17)=false:=decide_eq_false (by omega)
   rw [e,cond_false,xY n d (by omega) (by omega)]
   simp only [ob]
   cases h3:d.all bJ with
   | false=>
    rw [decide_eq_false (λh:okM d x=>by rw [(yR d).2 h.1] at h3;cases h3)];rfl
   | true=>
    have hdig:=(yR d).1 h3
    obtain ⟨c,r,rfl⟩:∃c r,d=c::r:=by
     cases d with
     | nil=>simp at h1
     | cons c r=>exact ⟨c,r,rfl⟩
    have hsx:sx (c::r) 0=some c:=by simp [sx]
    simp only [Bool.not_true,cond_false,hsx,Ee]
    by_cases h4:c=48
    ·rw [decide_eq_false (λh:okM (c::r) x=>h.2.2.2.1 (by rw [h4];rfl)),h4];rfl
    ·have e:(c==48)=false:=beq_eq_false_iff_ne.2 h4
     rw [e,cond_false]
     by_cases h5:x<0
     ·rw [decide_eq_true h5,decide_eq_false (λh:okM (c::r) x=>by have:=h.2.2.2.2.1;omega)];rfl
     ·rw [decide_eq_false h5,cond_false]
      by_cases h6:x>16
      ·rw [decide_eq_true h6,decide_eq_false (λh:okM (c::r) x=>by have:=h.2.2.2.2.2.1;omega)];rfl
      ·rw [decide_eq_false h6,cond_false]
       obtain ⟨k,rfl⟩:∃k:Nat,x=(k:Int):=⟨x.toNat,by omega⟩
       have hmg:=ym n g l (c::r) k s hdig (by simp) (by omega) (by omega) (by omega)
       rw [hmg]
       have key:¬((k:Int)=0/\(c::r).length<5)->(okM (c::r) (k:Int)↔dval 0 (c::r)*10 ^ k<=E16):=by
        intro hk
        constructor
        ·intro h
         simpa using h.2.2.2.2.2.2.2
        ·intro h
         exact ⟨hdig,by omega,by omega,by simpa using h4,by omega,by omega,hk,by simpa using h⟩
       have fin:¬((k:Int)=0/\(c::r).length<5)->(ob (some (if dval 0 (c::r)*10 ^ k<=E16 then (((dval 0 (c::r)*10 ^ k:Nat):Int),(0:Int)) else (0,6))) λq=>(some (q.2==0)))=some (decide (okM (c::r) (k:Int))):=by
        intro hk
        by_cases h7:dval 0 (c::r)*10 ^ k<=E16
        ·rw [if_pos h7,decide_eq_true ((key hk).2 h7)];rfl
        ·rw [if_neg h7,decide_eq_false (λh=>h7 ((key hk).1 h))];rfl
       by_cases h8:(k:Int)=0
       ·have e:((k:Int)==0)=true:=beq_iff_eq.2 h8
        rw [e,cond_true]
        by_cases h9:(c::r).length<5
        ·have e:decide ((((c::r).length:Nat):Int)<5)=true:=decide_eq_true (by omega)
         rw [e,decide_eq_false (λh:okM (c::r) (k:Int)=>h.2.2.2.2.2.2.1 ⟨h8,h9⟩)];rfl
        ·have e:decide ((((c::r).length:Nat):Int)<5)=false:=decide_eq_false (by omega)
         rw [e,cond_false]
         exact fin (λh=>h9 h.2)
       ·have e:((k:Int)==0)=false:=beq_eq_false_iff_ne.2 h8
        rw [e,cond_false]
        exact fin (λh=>h8 h.1)
theorem BU (n:Nat) (g l:Bool) (d:List UInt8) (x s:Int) (hn:200<n) (hd:d.length<=100):
  (ob (aD n g l d x s) λr=>(cond (!r) (some (6:Int)) (cond (decide (s<0)) (some 6) (cond (decide (s>(IntKind.wrap .i64 (((d.length:Nat):Int)+x)))) (some 6) (some 0)))))=some (if okL d x s then 0 else 6):=by
 rw [DY n g l d x s hn hd]
 simp only [ob]
 by_cases h:okM d x
 ·rw [decide_eq_true h]
  have hx:=h.2.2.2.2
  have w:IntKind.wrap .i64 (((d.length:Nat):Int)+x)=((d.length:Nat):Int)+x:=wrap_i64 _ (by omega) (by omega)
  rw [w]
  simp only [Bool.not_true,cond_false,bg]
  by_cases h1:s<0
  ·rw [if_pos h1,if_neg (λq:okL d x s=>by have:=q.2.1;omega)]
  ·rw [if_neg h1]
   by_cases h2:s>((d.length:Nat):Int)+x
   ·rw [if_pos h2,if_neg (λq:okL d x s=>by have:=q.2.2;omega)]
   ·rw [if_neg h2,if_pos ⟨h,by omega,by omega⟩]
 ·rw [decide_eq_false h,if_neg (λq:okL d x s=>h q.1)];rfl
theorem vi (n:Nat) (g l:Bool) (d:List UInt8) (x s:Int) (hn:200<n) (hd:d.length<=100):eN n g l d x s=some (if okY g l d x s then 0 else 6):=by
 obtain ⟨y,ht,hy⟩:=Db n d (by omega) (by omega)
 unfold eN
 rw [xD n d (by omega) (by omega),ht,mj]
 cases l with
 | true=>
  have hok:(if okY g true d x s then (0:Int) else 6)=if okL d x s then 0 else 6:=by simp only [okY,if_true]
  rw [hok]
  have st:=BU n g true d x s hn hd
  simp only [cond_true]
  generalize (ob (aD n g true d x s) λr=>(cond (!r) (some (6:Int)) (cond (decide (s<0)) (some 6) (cond (decide (s>(IntKind.wrap .i64 (((d.length:Nat):Int)+x)))) (some 6) (some 0)))))=T at st ⊢
  simp only [ob]
  rw [st]
  cases (((d.length:Nat):Int)==4)<;>cases (d.all λc=>bJ c||c==88)<;>cases (x==0)<;>cases g<;>cases (y==[])<;>cases (s != 0)<;>rfl
 | false=>
  have hok:(if okY g false d x s then (0:Int) else 6)=if okS g d x s then 0 else 6:=by simp only [okY,Bool.false_eq_true,if_false]
  rw [hok]
  simp only [cond_false,ob]
  by_cases h1:d.length=4
  ·have e1:(((d.length:Nat):Int)==4)=true:=beq_iff_eq.2 (by omega)
   rw [e1,cond_true]
   cases h2:(d.all λc=>bJ c||c==88) with
   | false=>
    rw [if_neg (λq:okS g d x s=>by rw [(wF d).2 q.2.1] at h2;cases h2)];rfl
   | true=>
    have hdX:=(wF d).1 h2
    rw [cond_true]
    by_cases h3:x=0
    ·subst h3
     have w:IntKind.wrap .i64 (((d.length:Nat):Int)+0)=4:=by rw [h1];decide
     rw [w]
     have tail:¬(g=true/\all0 d=true)->(cond (s != 0) (cond (!(!hasX d)) (some (6:Int)) (cond (decide (s<0)) (some 6) (cond (decide (s>4)) (some 6) (some 0)))) (cond (decide (s<0)) (some 6) (cond (decide (s>4)) (some 6) (some 0))))=some (if okS g d 0 s then 0 else 6):=by
      intro hg
      simp only [bg,uP,Bool.not_not]
      by_cases s0:s=0
      ·subst s0
       rw [if_pos rfl,if_neg (by omega),if_neg (by omega),if_pos ⟨h1,hdX,rfl,hg,by omega,by omega,by omega⟩]
      ·rw [if_neg s0]
       cases hX:hasX d with
       | true=>
        by_cases s1:s<0
        ·rw [if_neg (λq:okS g d 0 s=>by have:=q.2.2.2.2.1;omega)];rfl
        ·rw [if_neg (λq:okS g d 0 s=>q.2.2.2.2.2.2 ⟨by omega,hX⟩)];rfl
       | false=>
        rw [cond_false]
        by_cases s1:s<0
        ·rw [if_pos s1,if_neg (λq:okS g d 0 s=>by have:=q.2.2.2.2.1;omega)]
        ·rw [if_neg s1]
         by_cases s2:s>4
         ·rw [if_pos s2,if_neg (λq:okS g d 0 s=>by have:=q.2.2.2.2.2.1;omega)]
         ·rw [if_neg s2,if_pos ⟨h1,hdX,rfl,hg,by omega,by omega,λq=>by rw [hX] at q;cases q.2⟩]
     have e3:((0:Int)==0)=true:=rfl
     rw [e3,cond_true]
     cases g with
     | false=>
      simp only [cond_false]
      exact tail (by simp)
     | true=>
      simp only [cond_true]
      rw [hy]
      cases h4:all0 d with
      | true=>rw [if_neg (λq:okS true d 0 s=>q.2.2.2.1 ⟨rfl,h4⟩)];rfl
      | false=>
       simp only [Bool.not_false,cond_true]
       exact tail (by rw [h4];simp)
    ·have e3:(x==0)=false:=beq_eq_false_iff_ne.2 h3
     rw [e3,if_neg (λq:okS g d x s=>h3 q.2.2.1)];rfl
  ·have e1:(((d.length:Nat):Int)==4)=false:=beq_eq_false_iff_ne.2 (by omega)
   rw [e1,if_neg (λq:okS g d x s=>h1 q.1)];rfl
theorem DH (d:List UInt8):cnt 48 57 d=d.length↔∀c∈d,bJ c=true:=Am 48 57 d
theorem tz (n:Nat) (g l:Bool) (d:List UInt8) (x s:Int) (hn:200<n) (hd:d.length<=100):bq n g l d x s=some (if okY g l d x s then 1 else 0):=by
 have hs:=yP d
 have hXc:=vF d
 have h0c:=AS d
 have hDc:=DH d
 unfold bq
 rw [vj n d 48 57 (by omega) (by omega),vj n d 88 88 (by omega) (by omega),vj n d 48 48 (by omega) (by omega)]
 simp only [ob]
 generalize hA:cnt 48 57 d=A at *
 generalize hB:cnt 88 88 d=B at *
 have w0:IntKind.wrap .i64 (((A:Nat):Int)+((B:Nat):Int))=((A+B:Nat):Int):=by rw [wrap_i64 _ (by omega) (by omega)];omega
 rw [w0]
 simp only [uP,bg,AK]
 by_cases h1:A+B=d.length
 ·rw [if_pos (by omega)]
  have hdX:=hs.2.1 h1
  by_cases h2:s<0
  ·rw [if_pos h2,if_neg]
   intro q
   unfold okY at q
   split at q
   ·have:=q.2.1;omega
   ·have:=q.2.2.2.2.1;omega
  ·rw [if_neg h2]
   cases l with
   | false=>
    have hok:(if okY g false d x s then (1:Int) else 0)=if okS g d x s then 1 else 0:=by simp only [okY,Bool.false_eq_true,if_false]
    rw [hok,cond_false]
    by_cases h3:d.length=4
    ·rw [if_pos (by omega)]
     by_cases h4:x=0
     ·rw [if_pos h4]
      have tail:¬(g=true/\all0 d=true)->(if s>4 then some (0:Int) else if s>0 then (if ((B:Nat):Int)>0 then some 0 else some 1) else some 1)=some (if okS g d x s then 1 else 0):=by
       intro hg
       by_cases s2:s>4
       ·rw [if_pos s2,if_neg (λq:okS g d x s=>by have:=q.2.2.2.2.2.1;omega)]
       ·rw [if_neg s2]
        by_cases s3:s>0
        ·rw [if_pos s3]
         by_cases hb:((B:Nat):Int)>0
         ·rw [if_pos hb,if_neg (λq:okS g d x s=>q.2.2.2.2.2.2 ⟨by omega,by rw [hXc];exact decide_eq_true (by omega)⟩)]
         ·rw [if_neg hb,if_pos ⟨h3,hdX,h4,hg,by omega,by omega,λq=>by
           have:=q.2
           rw [hXc,decide_eq_true_eq] at this
           omega⟩]
        ·rw [if_neg s3,if_pos ⟨h3,hdX,h4,hg,by omega,by omega,λq=>by omega⟩]
      cases g with
      | false=>rw [cond_false];exact tail (by simp)
      | true=>
       rw [cond_true,ff]
       by_cases h5:all0 d=true
       ·rw [if_pos (by have:=h0c.1 h5;omega),if_neg (λq:okS true d x s=>q.2.2.2.1 ⟨rfl,h5⟩)]
       ·rw [if_neg (λq=>h5 (h0c.2 (by omega)))]
        exact tail (λq=>h5 q.2)
     ·rw [if_neg h4,if_neg (λq:okS g d x s=>h4 q.2.2.1)]
    ·rw [if_neg (by omega),if_neg (λq:okS g d x s=>h3 q.1)]
   | true=>
    have hok:(if okY g true d x s then (1:Int) else 0)=if okL d x s then 1 else 0:=by simp only [okY,if_true]
    rw [hok,cond_true]
    by_cases hb:((B:Nat):Int)>0
    ·rw [if_pos hb,if_neg]
     intro q
     have:=hDc.2 q.1.1
     omega
    ·rw [if_neg hb]
     have hdig:=hDc.1 (by omega)
     by_cases h3:((A:Nat):Int)<1
     ·rw [if_pos h3,if_neg (λq:okL d x s=>by have:=q.1.2.1;omega)]
     ·rw [if_neg h3]
      by_cases h4:((A:Nat):Int)>17
      ·rw [if_pos h4,if_neg (λq:okL d x s=>by have:=q.1.2.2.1;omega)]
      ·rw [if_neg h4]
       obtain ⟨c,r,rfl⟩:∃c r,d=c::r:=by
        cases d with
        | nil=>simp at h1;omega
        | cons c r=>exact ⟨c,r,rfl⟩
       have hsx:sx (c::r) 0=some c:=by simp [sx]
       simp only [hsx,Ee,ff]
       by_cases h5:c=48
       ·rw [if_pos h5,if_neg (λq:okL (c::r) x s=>q.1.2.2.2.1 (by rw [h5];rfl))]
       ·rw [if_neg h5]
        by_cases h6:x<0
        ·rw [if_pos h6,if_neg (λq:okL (c::r) x s=>by have:=q.1.2.2.2.2.1;omega)]
        ·rw [if_neg h6]
         by_cases h7:x>16
         ·rw [if_pos h7,if_neg (λq:okL (c::r) x s=>by have:=q.1.2.2.2.2.2.1;omega)]
         ·rw [if_neg h7]
          obtain ⟨k,rfl⟩:∃k:Nat,x=(k:Int):=⟨x.toNat,by omega⟩
          have w1:IntKind.wrap .i64 (((A:Nat):Int)+(k:Int))=((A+k:Nat):Int):=by rw [wrap_i64 _ (by omega) (by omega)];omega
          rw [w1,eZ n (c::r) k hdig hd (by omega) (by omega)]
          have hlen:(c::r).length=A:=by omega
          have tail:¬((k:Int)=0/\(c::r).length<5)->(if s>((A+k:Nat):Int) then some (0:Int) else some (if dval 0 (c::r)*10 ^ k<=E16 then (((dval 0 (c::r)*10 ^ k:Nat):Int),(1:Int)) else (0,0)).2)=some (if okL (c::r) (k:Int) s then 1 else 0):=by
           intro hk
           by_cases s2:s>((A+k:Nat):Int)
           ·rw [if_pos s2,if_neg (λq:okL (c::r) (k:Int) s=>by have:=q.2.2;rw [hlen] at this;omega)]
           ·rw [if_neg s2]
            by_cases h8:dval 0 (c::r)*10 ^ k<=E16
            ·rw [if_pos h8,if_pos ⟨⟨hdig,by omega,by omega,by simpa using h5,by omega,by omega,hk,by simpa using h8⟩,by omega,by omega⟩]
            ·rw [if_neg h8,if_neg (λq:okL (c::r) (k:Int) s=>h8 (by simpa using q.1.2.2.2.2.2.2.2))]
          by_cases h8:(k:Int)=0
          ·rw [if_pos h8]
           by_cases h9:((A:Nat):Int)<5
           ·rw [if_pos h9,if_neg (λq:okL (c::r) (k:Int) s=>q.1.2.2.2.2.2.2.1 ⟨h8,by omega⟩)]
           ·rw [if_neg h9]
            exact tail (λq=>by omega)
          ·rw [if_neg h8]
           exact tail (λq=>h8 q.1)
 ·rw [if_neg (by omega),if_neg]
  intro q
  apply h1
  rw [hs.2]
  unfold okY at q
  split at q
  ·exact λc hc=>.inl (q.1.1 c hc)
  ·exact q.2.1
theorem yH:∀(l:List UInt8) (acc:Nat),acc*10 ^ l.length<=dval acc l
 | [],acc=>by rw [kj];simp
 | c::l,acc=>by
  have ih:=yH l (nD acc c)
  rw [jI,List.length_cons,Nat.pow_succ]
  have h:acc*10<=nD acc c:=Nat.le_add_right _ _
  have h2:=Nat.mul_le_mul_right (10 ^ l.length) h
  have h3:acc*(10 ^ l.length*10)=acc*10*10 ^ l.length:=by rw [Nat.mul_comm (10 ^ l.length) 10,Nat.mul_assoc]
  omega
theorem lh:∀(l:List UInt8) (acc k:Nat),(∀c∈l,bJ c=true)->acc<10 ^ k->dval acc l<10 ^ (l.length+k)
 | [],acc,k,_,h=>by rw [kj];simpa using h
 | c::l,acc,k,hd,h=>by
  have hc:=(ej c).1 (hd c (by simp))
  have hp:(10:Nat) ^ (k+1)=10 ^ k*10:=Nat.pow_succ 10 k
  have hs:nD acc c=acc*10+(c.toNat - 48):=rfl
  have ih:=lh l (nD acc c) (k+1) (λd hd'=>hd d (by simp [hd'])) (by omega)
  rw [jI,List.length_cons,show l.length+1+k=l.length+(k+1) by omega]
  exact ih
structure Num (d:List UInt8) (k q:Nat):Prop where
 dig:∀c∈d,bJ c=true
 ne:d≠[]
 wide:d.length+k<=17
 small:dval 0 d*10 ^ k<=E16
 sig:q<=d.length+k
theorem mr {d:List UInt8} (h:∀c∈d,bJ c=true):hasX d=false:=by
 unfold hasX
 rw [List.any_eq_false]
 intro c hc he
 rw [beq_iff_eq] at he
 have:=(ej c).1 (h c hc)
 rw [he] at this
 exact absurd this.2 (by decide)
theorem lO {g l:Bool} {d:List UInt8} {x s:Int} (h:okY g l d x s) (hX:hasX d=false):∃k q:Nat,x=(k:Int)/\s=(q:Int)/\Num d k q:=by
 cases l with
 | true=>
  have h:okL d x s:=by simpa [okY] using h
  obtain ⟨⟨h1,h2,h3,h4,h5,h6,h7,h8⟩,h9,h10⟩:=h
  refine ⟨x.toNat,s.toNat,by omega,by omega,h1,by intro e;subst e;simp at h2,?_,h8,by omega⟩
  cases d with
  | nil=>simp at h2
  | cons c r=>
   have hc:=(ej c).1 (h1 c (by simp))
   have hne:c≠48:=by simpa using h4
   have hc0:1<=nD 0 c:=by
    have:c.toNat≠48:=λe=>hne (UInt8.toNat_inj.1 e)
    show 1<=0*10+(c.toNat - 48)
    omega
   have hg:=yH r (nD 0 c)
   rw [<-jI] at hg
   have h9:10 ^ r.length<=dval 0 (c::r):=by
    have:=Nat.mul_le_mul_right (10 ^ r.length) hc0
    omega
   have h11:=Nat.mul_le_mul_right (10 ^ x.toNat) h9
   rw [<-Nat.pow_add] at h11
   rcases Nat.lt_or_ge (r.length+x.toNat) 17 with hlt | hge
   ·simp only [List.length_cons];omega
   ·have:=DD hge
    omega
 | false=>
  have h:okS g d x s:=by simpa [okY] using h
  obtain ⟨h1,h2,h3,h4,h5,h6,h7⟩:=h
  have hd:∀c∈d,bJ c=true:=by
   intro c hc
   rcases h2 c hc with h | h
   ·exact h
   ·exfalso
    unfold hasX at hX
    rw [List.any_eq_false] at hX
    exact hX c hc (beq_iff_eq.2 h)
  have hlt:=lh d 0 0 hd (by simp)
  rw [h1] at hlt
  refine ⟨0,s.toNat,by omega,by omega,hd,by intro e;subst e;simp at h1,by omega,?_,by omega⟩
  have h4:(10:Nat) ^ (4+0)=10000:=by decide
  unfold E16
  simp only [Nat.pow_zero,Nat.mul_one]
  omega
def val (d:List UInt8) (k:Nat):Nat:=dval 0 d*10 ^ k
theorem rL (n:Nat) (g l:Bool) (d:List UInt8) (x s:Int) (hn:200<n) (hd:d.length<=100):
  cn n g l d x s=some (if okY g l d x s/\hasX d=false then (if g then -((val d x.toNat:Nat):Int) else ((val d x.toNat:Nat):Int),0) else (0,6)):=by
 unfold cn
 rw [vi n g l d x s hn hd,mj]
 simp only [ob]
 by_cases h:okY g l d x s
 ·rw [if_pos h]
  cases hX:hasX d with
  | true=>rw [if_neg (by simp)];rfl
  | false=>
   rw [if_pos ⟨h,rfl⟩]
   obtain ⟨k,q,rfl,rfl,hN⟩:=lO h hX
   rw [ym n g l d k q hN.dig hN.ne (by have:=hN.wide;omega) (by have:=hN.wide;omega) (by omega),if_pos hN.small]
   have hs:=hN.small
   unfold E16 at hs
   cases g with
   | true=>
    simp only [bne_self_eq_false,cond_false,cond_true,Int.toNat_natCast,val,if_true]
    rw [wrap_i64 _ (by omega) (by omega),Int.zero_sub]
   | false=>simp [val]
 ·rw [if_neg h,if_neg (λq=>h q.1)];rfl
theorem jm {a b:List UInt8} (h:a.length+b.length<=1000000):cat a b=some (a++b):=by
 unfold cat;rw [if_pos (by omega)]
theorem cut1 {l:List UInt8} {i:Nat} {c:UInt8} (h:l[i]?=some c):List.drop i (List.take (i+1) l)=[c]:=by
 have hlt:=oH h
 rw [List.take_add_one,h,List.drop_left' (by rw [List.length_take];omega)]
 rfl
theorem CU {l:List UInt8} {i:Nat} {c:UInt8} (h:l[i]?=some c):List.take (i+1) l=List.take i l++[c]:=by
 rw [List.take_add_one,h];rfl
theorem kQ {g l:Bool} {d:List UInt8} {x s:Int} (h:okY g l d x s) (hX:hasX d=true):l=false/\x=0/\s=0/\d.length=4/\∀c∈d,bJ c=true\/c=88:=by
 cases l with
 | true=>
  have h:okL d x s:=by simpa [okY] using h
  rw [mr h.1.1] at hX
  cases hX
 | false=>
  have h:okS g d x s:=by simpa [okY] using h
  obtain ⟨h1,h2,h3,h4,h5,h6,h7⟩:=h
  refine ⟨rfl,h3,?_,h1,h2⟩
  have:¬0<s:=λe=>h7 ⟨e,hX⟩
  omega
theorem iH {g l:Bool} {d:List UInt8} {x s:Int} (h:okY g l d x s):0<=x/\x<=16/\0<=s/\s<=17/\1<=d.length/\d.length<=17:=by
 cases hX:hasX d with
 | true=>
  obtain ⟨rfl,rfl,rfl,hl,_⟩:=kQ h hX
  omega
 | false=>
  obtain ⟨k,q,rfl,rfl,hN⟩:=lO h hX
  have h1:=hN.wide
  have h2:=hN.sig
  have h3:1<=d.length:=by
   cases d with
   | nil=>exact absurd rfl hN.ne
   | cons c r=>simp
  omega
theorem nr {c:UInt8} (h:48<=c.toNat/\c.toNat<=57):Lib.digitVal c=some (c.toNat - 48):=by
 unfold Lib.digitVal;rw [if_pos h]
theorem xd {c:UInt8} (h:48<=c.toNat/\c.toNat<=57) (r:List UInt8):Lib.atoi (c::r)=(Lib.decNat (c::r)).map λ(m:Nat)=>(m:Int):=by
 have e1:(c==45)=false:=by
  rw [beq_eq_false_iff_ne];rintro rfl;exact absurd h.1 (by decide)
 have e2:(c==43)=false:=by
  rw [beq_eq_false_iff_ne];rintro rfl;exact absurd h.1 (by decide)
 simp only [Lib.atoi,e1,e2,Bool.false_eq_true,if_false]
theorem Bp {c e:UInt8} (h:48<=c.toNat/\c.toNat<=57) (he:48<=e.toNat/\e.toNat<=57):Lib.atoi [c,e]=some ((10*(c.toNat - 48)+(e.toNat - 48):Nat):Int):=by
 rw [xd h]
 simp only [Lib.decNat,List.isEmpty_cons,Bool.false_eq_true,if_false,Lib.decFrom,nr h,nr he,Option.map_some,Nat.zero_mul,Nat.zero_add]
 rw [Nat.mul_comm]
def isDX (c:UInt8):Bool:=bJ c||c==88
def wint (c:Int):Bool:=c==24||c==28||c==30
def kJ (g:Bool) (d:List UInt8) (x:Int):Bool:=!hasX d&&!g&&decide (val d x.toNat=E16)
def yrB (g:Bool) (d:List UInt8) (x s:Int) (m:List UInt8):Bool:=!(decide (0<s)&&!(m==[]))&&!(wint (sea m)&&kJ g d x)
theorem sd (n:Nat) (hn:200<n) (g l:Bool) (dg:List UInt8) (x q:Int) (m d:List UInt8) (k0 k1 k2:Int) (hm:m.length<=18) (hd:dg.length<=100):
  cU n g l dg x q m d k0 k1 k2=some (if okY g l dg x q then yrB g dg x q m else false):=by
 unfold cU
 rw [vi n g l dg x q hn hd,mm n g l dg x q m d k0 k1 k2 hm,mj,rL n g l dg x q hn hd]
 by_cases h:okY g l dg x q
 rotate_left
 ·rw [if_neg h,if_neg h];rfl
 rw [if_pos h,if_pos h]
 have body:(ob (some (sea m,decide (0<sea m))) λr=>(cond (!r.2) (some true) (ob (some (hasX dg)) λr1=>(cond r1 (some true) (ob (some (if okY g l dg x q/\hasX dg=false then (if g then -((val dg x.toNat:Nat):Int) else ((val dg x.toNat:Nat):Int),(0:Int)) else (0,6))) λr2=>(ob (dX n r2.1 r.1) λr3=>(some (r3.2.2.2.2==0))))))))=some (!(wint (sea m)&&kJ g dg x)):=by
  rcases jJ m with h0 | ⟨j,hj,rfl⟩
  ·rw [h0];rfl
  ·have hs:=gc hj
   rw [hs]
   have hp:decide (0<((21+j:Nat):Int))=true:=by simp;omega
   rw [hp]
   cases hX:hasX dg with
   | true=>
    have:kJ g dg x=false:=by unfold kJ;rw [hX];rfl
    rw [this,Bool.and_false]
    rfl
   | false=>
    rw [if_pos ⟨h,rfl⟩]
    obtain ⟨k,q',rfl,rfl,hN⟩:=lO h hX
    have hv:val dg k<=E16:=hN.small
    unfold E16 at hv
    have hc:bY (if g then -((val dg k:Nat):Int) else ((val dg k:Nat):Int)):=by
     unfold bY
     cases g<;>simp<;>omega
    obtain ⟨a,b,c,e,hr⟩:=Fy n (by omega) hc hj
    simp only [ob,Bool.not_true,cond_false,Int.toNat_natCast]
    rw [hr]
    simp only [Option.some.injEq]
    have hw:wint ((21+j:Nat):Int)=decide (j=3\/j=7\/j=9):=by
     unfold wint
     rw [Bool.eq_iff_iff]
     simp only [Bool.or_eq_true,beq_iff_eq,decide_eq_true_eq]
     omega
    have hl:kJ g dg (k:Int)=decide ((if g then -((val dg k:Nat):Int) else ((val dg k:Nat):Int))=10000000000000000):=by
     unfold kJ E16
     rw [hX,Int.toNat_natCast]
     cases g
     ·simp only [Bool.not_false,Bool.true_and,Bool.false_eq_true,if_false,decide_eq_decide]
      omega
     ·simp
      omega
    rw [hw,hl]
    by_cases h1:(if g then -((val dg k:Nat):Int) else ((val dg k:Nat):Int))=10000000000000000<;>by_cases h2:j=3\/j=7\/j=9
    ·rw [if_pos ⟨h1,h2⟩,decide_eq_true h1,decide_eq_true h2];rfl
    ·rw [if_neg (λz=>h2 z.2),decide_eq_false h2];rfl
    ·rw [if_neg (λz=>h1 z.1),decide_eq_false h1,Bool.and_false];rfl
    ·rw [if_neg (λz=>h1 z.1),decide_eq_false h1,Bool.and_false];rfl
 show cond (decide (q>0)) (cond (!(m==[])) (some false) _) _=_
 unfold yrB
 rw [show (decide (q>0))=decide (0<q) from rfl]
 cases decide (0<q) with
 | false=>exact body
 | true=>
  cases (m==[]) with
  | false=>rfl
  | true=>exact body
theorem AU (n:Nat) (hn:200<n) (g l:Bool) (dg:List UInt8) (x q:Int) (m d:List UInt8) (k0 k1 k2:Int) (hd:dg.length<=100):
  eI n g l dg x q m d k0 k1 k2=some (if okY g l dg x q/\yrB g dg x q m=true then 1 else 0):=by
 unfold eI
 rw [tz n g l dg x q hn hd,gz n (by omega) g l dg x q m d k0 k1 k2,jO n g l dg x q (by omega) (by omega)]
 by_cases h:okY g l dg x q
 rotate_left
 ·rw [if_neg h,if_neg (show ¬(okY g l dg x q/\yrB g dg x q m=true) from λz=>h z.1)];rfl
 rw [if_pos h]
 have T:(ob (some (if hasX dg then (1:Int) else 0)) λr=>(cond (r==1) (some (1:Int)) (ob (ad n dg x) λv=>(cond (v.1==10000000000000000) (cond (!g) (some 0) (some 1)) (some 1)))))=some (if kJ g dg x then 0 else 1):=by
  cases hX:hasX dg with
  | true=>
   have:kJ g dg x=false:=by unfold kJ;rw [hX];rfl
   rw [this]
   rfl
  | false=>
   obtain ⟨k,q',rfl,rfl,hN⟩:=lO h hX
   have hv:=hN.small
   have hw:=hN.wide
   have hr:=eZ n dg k hN.dig (by omega) (by omega) (by omega)
   rw [if_pos hv] at hr
   show ob (ad n dg (k:Int)) _=_
   rw [hr]
   show cond (((dval 0 dg*10 ^ k:Nat):Int)==10000000000000000) _ _=_
   unfold kJ val
   rw [hX,Int.toNat_natCast]
   have e:(((dval 0 dg*10 ^ k:Nat):Int)==10000000000000000)=decide (dval 0 dg*10 ^ k=E16):=by
    generalize dval 0 dg*10 ^ k=v
    unfold E16
    rw [Bool.eq_iff_iff]
    simp only [beq_iff_eq,decide_eq_true_eq]
    omega
   rw [e]
   cases decide (dval 0 dg*10 ^ k=E16)<;>cases g<;>rfl
 have body:(ob (some (sea m)) λr=>(cond (r != 24) (cond (r != 28) (cond (r != 30) (some (1:Int)) (ob (some (if hasX dg then (1:Int) else 0)) λr=>(cond (r==1) (some (1:Int)) (ob (ad n dg x) λv=>(cond (v.1==10000000000000000) (cond (!g) (some 0) (some 1)) (some 1)))))) (ob (some (if hasX dg then (1:Int) else 0)) λr=>(cond (r==1) (some (1:Int)) (ob (ad n dg x) λv=>(cond (v.1==10000000000000000) (cond (!g) (some 0) (some 1)) (some 1)))))) (ob (some (if hasX dg then (1:Int) else 0)) λr=>(cond (r==1) (some (1:Int)) (ob (ad n dg x) λv=>(cond (v.1==10000000000000000) (cond (!g) (some 0) (some 1)) (some 1)))))))=some (if (!(wint (sea m)&&kJ g dg x))=true then 1 else 0):=by
  rw [T]
  show cond (sea m != 24) _ _=_
  unfold wint
  simp only [bne]
  cases (sea m==24)<;>cases (sea m==28)<;>cases (sea m==30)<;>cases kJ g dg x<;>rfl
 unfold yrB
 show cond (decide (q>0)) (cond (!(m==[])) (some 0) _) _=_
 rw [show (decide (q>0))=decide (0<q) from rfl]
 simp only [h,true_and]
 cases decide (0<q) with
 | false=>exact body
 | true=>
  cases (m==[]) with
  | false=>rfl
  | true=>exact body
def cj (m d:List UInt8):Nat:=1+(if m==[] then 0 else 1)+(if d==[] then 0 else 1)
theorem rl (n:Nat) (hn:100<n) (g l:Bool) (dg:List UInt8) (x q:Int) (m d:List UInt8) (k0 k1 k2:Int):aN n g l dg x q m d k0 k1 k2=some ((cj m d:Nat):Int):=by
 obtain ⟨n,rfl⟩:∃j,n=j+3:=⟨n - 3,by omega⟩
 unfold aN cj
 have s0:∀a:Int,aV (n+3) (a,m,d,0)=some (.inl (if m==[] then a else IntKind.wrap .i64 (a+1),m,d,1)):=λa=>by
  unfold aV
  show cond (!(m==[])) _ _=_
  cases (m==[])<;>rfl
 have s1:∀a:Int,aV (n+3) (a,m,d,1)=some (.inl (if d==[] then a else IntKind.wrap .i64 (a+1),m,d,2)):=λa=>by
  unfold aV
  show cond (!(d==[])) _ _=_
  cases (d==[])<;>rfl
 have s2:∀a:Int,aV (n+3) (a,m,d,2)=some (.inr a):=λa=>rfl
 rw [ah,s0]
 show ob (ah _ (n+2) _) _=_
 rw [ah,s1]
 show ob (ah _ (n+1) _) _=_
 rw [ah,s2]
 cases (m==[])<;>cases (d==[])<;>rfl
theorem bP (n:Nat) (g l:Bool) (dg:List UInt8) (x q:Int) (m d:List UInt8) (k0 k1 k2:Int):ab n g l dg x q m d k0 k1 k2=some ((cj m d:Nat):Int):=by
 unfold ab cj
 cases (m==[])<;>cases (d==[])<;>rfl
def allM (a b c:Int) (k:Nat):Int:=if 3<a\/3<b\/3<c\/(k<2/\b≠0)\/(k<3/\c≠0) then 9 else 0
theorem Ck (n:Nat) (hn:3<n) (a b c:Int) (k:Nat) (hk:1<=k/\k<=3) (ha:0<=a) (hb:0<=b) (hc:0<=c):
  dl n [a,b,c] (k:Int)=some (allM a b c k)/\aQ n [a,b,c] (k:Int)=some (allM a b c k):=by
 obtain ⟨j,rfl⟩:∃j,n=j+4:=⟨n - 4,by omega⟩
 have w1:IntKind.wrap .i64 1=1:=rfl
 have w2:IntKind.wrap .i64 2=2:=rfl
 have w3:IntKind.wrap .i64 3=3:=rfl
 have i0:ix 3 0=some 0:=rfl
 have i1:ix 3 1=some 1:=rfl
 have i2:ix 3 2=some 2:=rfl
 have hk':k=1\/k=2\/k=3:=by omega
 unfold allM
 by_cases cx:a>3
 ·rcases hk' with rfl | rfl | rfl<;>constructor<;>simp [aQ,dl,ah,bL,dT,eO,ob,w1,w2,w3,i0,i1,i2,cx]
 by_cases cy:b>3
 ·rcases hk' with rfl | rfl | rfl<;>constructor<;>simp [aQ,dl,ah,bL,dT,eO,ob,w1,w2,w3,i0,i1,i2,cx,cy]
 by_cases dy:k=1/\b≠0
 ·obtain ⟨rfl,dy⟩:=dy
  have h0:b>0:=by omega
  have eb:(b != 0)=true:=by simp [dy]
  constructor<;>simp [aQ,dl,ah,bL,dT,eO,ob,w1,w2,w3,i0,i1,i2,cx,cy,h0,dy,eb]
 by_cases cz:c>3
 ·rcases hk' with rfl | rfl | rfl<;>(try (simp at dy;subst dy))<;>constructor<;>simp [aQ,dl,ah,bL,dT,eO,ob,w1,w2,w3,i0,i1,i2,cx,cy,cz]
 by_cases dz:k<3/\c≠0
 ·have h0:c>0:=by omega
  have eb:(c != 0)=true:=by simp [dz.2]
  rcases hk' with rfl | rfl | rfl<;>(try (simp at dy;subst dy))<;>simp at dz<;>constructor<;>simp [aQ,dl,ah,bL,dT,eO,ob,w1,w2,w3,i0,i1,i2,cx,cy,cz,h0,dz,eb]
 rcases hk' with rfl | rfl | rfl<;>(try (simp at dy;subst dy))<;>(try (simp at dz;subst dz))<;>constructor<;>simp [aQ,dl,ah,bL,dT,eO,ob,w1,w2,w3,i0,i1,i2,cx,cy,cz]
theorem kO (m d:List UInt8):1<=cj m d/\cj m d<=3:=by
 unfold cj
 cases (m==[])<;>cases (d==[])<;>simp
def yrD (g l:Bool) (dg:List UInt8) (x q:Int) (m:List UInt8):Bool:=if okY g l dg x q then yrB g dg x q m else false
def chkD (g l:Bool) (dg:List UInt8) (x q:Int) (m d:List UInt8) (k0 k1 k2:Int):Int:=
 cond (!(yrD g l dg x q m)) 6 (cond (!(m==[])&&(!(decide (0<sea m))&&!(ck m 12))) 7
  (cond (!(d==[])&&((m==[])||(decide (0<sea m)||!(ck d 31)))) 8 (allM k0 k1 k2 (cj m d))))
theorem B5 (m:List UInt8):0<=sea m:=by
 rcases jJ m with h | ⟨j,hj,rfl⟩
 ·omega
 ·rw [gc hj];omega
theorem DQ (m:List UInt8):(sea m==0)=!(decide (0<sea m)):=by
 have:=B5 m
 by_cases h:sea m=0
 ·rw [h];rfl
 ·have h2:0<sea m:=by omega
  rw [beq_eq_false_iff_ne.2 h,decide_eq_true h2];rfl
theorem AY (n:Nat) (hn:200<n) (g l:Bool) (dg:List UInt8) (x q:Int) (m d:List UInt8) (k0 k1 k2:Int) (hm:m.length<=18) (hd:dg.length<=100) (h0:0<=k0) (h1:0<=k1) (h2:0<=k2):
  fW n g l dg x q m d k0 k1 k2=some (chkD g l dg x q m d k0 k1 k2):=by
 have hy:cU n g l dg x q m d k0 k1 k2=some (yrD g l dg x q m):=sd n hn g l dg x q m d k0 k1 k2 hm hd
 have a1:bC n m 12=some (ck m 12):=tk n (by omega) m 12 (by omega)
 have a2:bC n d 31=some (ck d 31):=tk n (by omega) d 31 (by omega)
 have ha:=(Ck n (by omega) k0 k1 k2 (cj m d) (kO m d) h0 h1 h2).1
 unfold fW chkD
 rw [mm n g l dg x q m d k0 k1 k2 hm,hy,a1,a2,rl n (by omega)]
 simp only [ob]
 rw [ha]
 generalize yrD g l dg x q m=b1
 generalize (m==[])=b2
 generalize decide (0<sea m)=b3
 generalize ck m 12=b4
 generalize (d==[])=b5
 generalize ck d 31=b6
 cases b1<;>cases b2<;>cases b3<;>cases b4<;>cases b5<;>cases b6<;>rfl
theorem tT (n:Nat) (hn:200<n) (g l:Bool) (dg:List UInt8) (x q:Int) (m d:List UInt8) (k0 k1 k2:Int) (hd:dg.length<=100) (h0:0<=k0) (h1:0<=k1) (h2:0<=k2):
  ek n g l dg x q m d k0 k1 k2=some (chkD g l dg x q m d k0 k1 k2):=by
 have hy:eI n g l dg x q m d k0 k1 k2=some (if yrD g l dg x q m then 1 else 0):=by
  rw [AU n hn g l dg x q m d k0 k1 k2 hd]
  unfold yrD
  by_cases h:okY g l dg x q
  ·simp only [h,true_and,if_true]
  ·simp only [h,false_and,if_false];rfl
 have a1:bQ n m 12=some (if ck m 12 then 1 else 0):=wv n (by omega) m 12 (by omega)
 have a2:bQ n d 31=some (if ck d 31 then 1 else 0):=wv n (by omega) d 31 (by omega)
 have ha:=(Ck n (by omega) k0 k1 k2 (cj m d) (kO m d) h0 h1 h2).2
 unfold ek chkD
 rw [gz n (by omega) g l dg x q m d k0 k1 k2,hy,a1,a2,bP n]
 simp only [ob]
 rw [ha,DQ]
 show cond ((if yrD g l dg x q m then (1:Int) else 0)==0) _ (cond _ (cond _ (cond _ _ (cond _ (cond _ _ (cond (decide (0<sea m)) _ _)) _)) (cond _ (cond _ _ (cond (decide (0<sea m)) _ _)) _)) (cond _ (cond _ _ (cond (decide (0<sea m)) _ _)) _))=_
 generalize yrD g l dg x q m=b1
 generalize (m==[])=b2
 generalize decide (0<sea m)=b3
 generalize ck m 12=b4
 generalize (d==[])=b5
 generalize ck d 31=b6
 cases b1<;>cases b2<;>cases b3<;>cases b4<;>cases b5<;>cases b6<;>rfl
theorem sS {g l:Bool} {dg:List UInt8} {x q:Int} {m d:List UInt8} {k0 k1 k2:Int} (h:chkD g l dg x q m d k0 k1 k2=0):yrD g l dg x q m=true/\(m=[]\/0<sea m\/ck m 12=true)/\(d=[]\/(m≠[]/\sea m=0/\ck d 31=true))/\allM k0 k1 k2 (cj m d)=0:=by
 have hs:=B5 m
 unfold chkD at h
 cases b1:yrD g l dg x q m with
 | false=>rw [b1] at h;exact absurd h (by simp)
 | true=>
  rw [b1] at h
  simp only [Bool.not_true,cond_false] at h
  cases b2:(!(m==[])&&(!(decide (0<sea m))&&!(ck m 12))) with
  | true=>rw [b2] at h;exact absurd h (by simp)
  | false=>
   rw [b2] at h
   simp only [cond_false] at h
   cases b3:(!(d==[])&&((m==[])||(decide (0<sea m)||!(ck d 31)))) with
   | true=>rw [b3] at h;exact absurd h (by simp)
   | false=>
    rw [b3] at h
    simp only [cond_false] at h
    refine ⟨rfl,?_,?_,h⟩
    ·by_cases h1:m=[]
     ·exact .inl h1
     ·by_cases h2:0<sea m
      ·exact .inr (.inl h2)
      ·simp [h1,h2] at b2
       exact .inr (.inr b2)
    ·by_cases h1:d=[]
     ·exact .inl h1
     ·by_cases h2:m=[]
      ·simp [h1,h2] at b3
      ·by_cases h3:0<sea m
       ·simp [h1,h2,h3] at b3
       ·simp [h1,h2,h3] at b3
        exact .inr ⟨h2,by omega,b3⟩
theorem iJ {s:List UInt8} {g:Nat} (hg:g<=31) (h:ck s g=true):s.length=2/\∀c∈s,isDX c=true:=by
 unfold ck at h
 obtain ⟨i,hm,hi⟩:=List.any_eq_true.1 h
 have hi31:i<g:=List.mem_range.1 hm
 have dig:∀k:Nat,k<10->isDX (UInt8.ofNat (48+k))=true:=by decide
 have h88:isDX 88=true:=by decide
 match s,hi with
 | [],hi=>simp [agr] at hi
 | [_],hi=>simp [agr] at hi
 | [a,b],hi=>
  refine ⟨rfl,?_⟩
  simp only [agr,Bool.and_eq_true,Bool.or_eq_true,beq_iff_eq] at hi
  obtain ⟨ha,hb⟩:=hi
  intro c hc
  simp only [List.mem_cons,List.not_mem_nil,or_false] at hc
  rcases hc with rfl | rfl
  ·rcases ha with rfl | rfl
   ·exact h88
   ·exact dig _ (by omega)
  ·rcases hb with rfl | rfl
   ·exact h88
   ·exact dig _ (by omega)
 | _::_::_::_,hi=>simp [agr] at hi
theorem tZ {m:List UInt8} (h:0<sea m):m.length=2/\∀c∈m,isDX c=true:=by
 rcases jJ m with h0 | ⟨j,hj,rfl⟩
 ·omega
 ·refine ⟨rfl,?_⟩
  have:((List.range 21).all λj=>(two (21+j)).all isDX)=true:=by decide +kernel
  have:=(List.all_eq_true.1 this) j (by simpa using hj)
  exact List.all_eq_true.1 this
theorem r4 {p:Nat->Bool} (h:(List.range 4).all p=true) {a:Nat} (ha:a<4):p a=true:=(List.all_eq_true.1 h) a (List.mem_range.2 ha)
def inM (k:Nat) (A:Nat×Nat×Nat):Prop:=A.1<4/\A.2.1<4/\A.2.2<4/\(k<2->A.2.1=0)/\(k<3->A.2.2=0)
theorem DW {k:Nat} {A:Nat×Nat×Nat} (h:inM k A):allM (A.1:Int) (A.2.1:Int) (A.2.2:Int) k=0:=by
 obtain ⟨h0,h1,h2,h3,h4⟩:=h
 unfold allM
 rw [if_neg (by omega)]
def bt (b a:Nat):Nat:=if b=1 then a%2 else a / 2%2
def bts (b:Nat):List Nat->Nat
 | []=>0
 | x::l=>bt b x+bts b l
def hit (k b i:Nat) (al bl:List Nat):Bool:=decide (0<bt b (al.getD i 0)+bts b ((bl.take k).drop i))
theorem cutD (r:Nat) (h:r<10):List.drop r (List.take (r+1) ([48,49,50,51,52,53,54,55,56,57]:List UInt8))=[UInt8.ofNat (48+r)]:=by
 have:∀r,r<10->List.drop r (List.take (r+1) ([48,49,50,51,52,53,54,55,56,57]:List UInt8))=[UInt8.ofNat (48+r)]:=by decide
 exact this r h
theorem ou {k:Nat} (h:k<10):(UInt8.ofNat (48+k)).toNat=48+k:=by
 rw [UInt8.toNat_ofNat']
 exact Nat.mod_eq_of_lt (by omega)
theorem DS (n a:Nat) (ha:a<65536):∃d,f9 n (a:Int)=some d/\d.length=4/\∀c∈d,bJ c=true:=by
 have hN:Int.tmod (a:Int) 10000=((a%10000:Nat):Int):=rfl
 have h10:a%10000<10000:=Nat.mod_lt _ (by decide)
 generalize a%10000=N at *
 have e1:Int.tdiv (N:Int) 1000=((N / 1000:Nat):Int):=rfl
 have e2:Int.tdiv (N:Int) 100=((N / 100:Nat):Int):=rfl
 have e3:Int.tdiv (N:Int) 10=((N / 10:Nat):Int):=rfl
 have w1:IntKind.wrap .u16 ((N / 1000:Nat):Int)=((N / 1000:Nat):Int):=n7 _ (by omega) (by omega)
 have w2:IntKind.wrap .u16 ((N / 100:Nat):Int)=((N / 100:Nat):Int):=n7 _ (by omega) (by omega)
 have w3:IntKind.wrap .u16 ((N / 10:Nat):Int)=((N / 10:Nat):Int):=n7 _ (by omega) (by omega)
 have m2:Int.tmod ((N / 100:Nat):Int) 10=((N / 100%10:Nat):Int):=rfl
 have m3:Int.tmod ((N / 10:Nat):Int) 10=((N / 10%10:Nat):Int):=rfl
 have m4:Int.tmod (N:Int) 10=((N%10:Nat):Int):=rfl
 have s:∀r:Nat,r<10->IntKind.wrap .u16 ((r:Int)+1)=((r+1:Nat):Int):=λr hr=>by rw [n7 _ (by omega) (by omega)];omega
 refine ⟨[UInt8.ofNat (48+N / 1000),UInt8.ofNat (48+N / 100%10),UInt8.ofNat (48+N / 10%10),UInt8.ofNat (48+N%10)],?_,rfl,?_⟩
 ·simp only [f9,hN,e1,e2,e3,w1,w2,w3,m2,m3,m4,s (N / 1000) (by omega),s (N / 100%10) (by omega),s (N / 10%10) (by omega),s (N%10) (by omega),dS (show N / 1000+1<=10 by omega),dS (show N / 1000<=N / 1000+1 by omega),dS (show N / 100%10+1<=10 by omega),dS (show N / 100%10<=N / 100%10+1 by omega),dS (show N / 10%10+1<=10 by omega),dS (show N / 10%10<=N / 10%10+1 by omega),dS (show N%10+1<=10 by omega),dS (show N%10<=N%10+1 by omega),ob,cutD (N / 1000) (by omega),cutD (N / 100%10) (by omega),cutD (N / 10%10) (by omega),cutD (N%10) (by omega)]
  rw [jm (by simp)]
  simp only []
  rw [jm (by simp)]
  simp only []
  rw [jm (by simp)]
  rfl
 ·have d1:∀r:Nat,r<10->bJ (UInt8.ofNat (48+r))=true:=λr hr=>(ej _).2 (by rw [ou hr];omega)
  simp only [List.mem_cons,List.not_mem_nil,or_false,forall_eq_or_imp,forall_eq]
  exact ⟨d1 _ (by omega),d1 _ (by omega),d1 _ (by omega),d1 _ (by omega)⟩
theorem oC (n:Nat) (g l:Bool) (d:List UInt8) (x s:Int) (hn:200<n) (hd:d.length<=100) (h:okY false l d x s):∃g',(ob (bq n g l d x s) λr=>(cond (r==0) (some (false,l,d,x,s)) (some (g,l,d,x,s))))=some (g',l,d,x,s)/\okY g' l d x s:=by
 rw [tz n g l d x s hn hd]
 by_cases hg:okY g l d x s
 ·rw [if_pos hg];exact ⟨g,rfl,hg⟩
 ·rw [if_neg hg];exact ⟨false,rfl,h⟩
theorem o9 {d:List UInt8} {s:Int} (h1:d.length=4) (h2:∀c∈d,bJ c=true\/c=88) (h3:0<=s) (h4:s<=4) (h5:¬(0<s/\hasX d=true)):okY false false d 0 s:=by
 have:okS false d 0 s:=⟨h1,h2,rfl,by simp,h3,h4,h5⟩
 simpa [okY] using this
theorem CX (n:Nat) (a b:Int) (g:Bool) (d:List UInt8) (hl:d.length=4) (hd:∀c∈d,bJ c=true) (hn:4<n):
  ∃s:List UInt8,ah (dh n) n (a,b,[],0,false,false,[],0,0,g,false,d,0,0)=some (s,false,false,[],0,0,g,false,d,0,0)/\s.length=4/\∀c∈s,bJ c=true\/c=88:=by
 obtain ⟨y,h1,s,h2,h3,h4⟩:=jQ (step:=dh n) (λx=>∃(i:Nat) (s:List UInt8),i<=4/\s.length=i/\(∀c∈s,bJ c=true\/c=88)/\x=(a,b,s,(i:Int),false,false,[],0,0,g,false,d,0,0)) (λx=>4 - x.2.2.2.1.toNat) (λy=>∃s:List UInt8,y=(s,false,false,[],0,0,g,false,d,0,0)/\s.length=4/\∀c∈s,bJ c=true\/c=88) (by
  rintro x ⟨i,s,hi,hs,hc,rfl⟩
  rcases Nat.lt_or_ge i 4 with hlt | hge
  ·obtain ⟨c,hgc⟩:∃c,d[i]?=some c:=⟨d[i],List.getElem?_eq_getElem (by omega)⟩
   have d1:decide ((i:Int)<4)=true:=decide_eq_true (by omega)
   have w1:IntKind.wrap .i64 ((i:Int)+1)=((i+1:Nat):Int):=by rw [wrap_i64 _ (by omega) (by omega)];omega
   have next:∀e:UInt8,(bJ e=true\/e=88)->∃x',some (Sum.inl (a,b,s++[e],((i+1:Nat):Int),false,false,([]:List UInt8),(0:Int),(0:Int),g,false,d,(0:Int),(0:Int)))=some (Sum.inl (β:=List UInt8×Bool×Bool×List UInt8×Int×Int×Bool×Bool×List UInt8×Int×Int) x')/\(∃(i:Nat) (s:List UInt8),i<=4/\s.length=i/\(∀c∈s,bJ c=true\/c=88)/\x'=(a,b,s,(i:Int),false,false,[],0,0,g,false,d,0,0))/\4 - x'.2.2.2.1.toNat<4 - i:=by
    intro e he
    refine ⟨_,rfl,⟨i+1,s++[e],hlt,by simp [hs],?_,rfl⟩,by simp only [Int.toNat_natCast];omega⟩
    intro c' hc'
    rcases List.mem_append.1 hc' with q | q
    ·exact hc c' q
    ·simp only [List.mem_cons,List.not_mem_nil,or_false] at q
     rw [q];exact he
   simp only [dh,d1,cond_true,w1,Int.toNat_natCast,dS (show i+1<=d.length by omega),dS (show i<=i+1 by omega),ob,cut1 hgc]
   rw [jm (a:=s) (b:=[88]) (by simp;omega),jm (a:=s) (b:=[c]) (by simp;omega)]
   simp only []
   left
   cases ((i:Int)==a)
   ·cases ((i:Int)==b)
    ·exact next c (.inl (hd c (List.mem_of_getElem? hgc)))
    ·exact next 88 (.inr rfl)
   ·exact next 88 (.inr rfl)
  ·have:i=4:=by omega
   subst this
   exact .inr ⟨_,rfl,s,rfl,hs,hc⟩) n (a,b,[],0,false,false,[],0,0,g,false,d,0,0) ⟨0,[],by omega,rfl,by simp,rfl⟩ (by simp;omega)
 exact ⟨s,by rw [h1,h2],h3,h4⟩
theorem cut9 (r:Nat) (h:r<9):List.drop r (List.take (r+1) ([49,50,51,52,53,54,55,56,57]:List UInt8))=[UInt8.ofNat (49+r)]:=by
 have:∀r,r<9->List.drop r (List.take (r+1) ([49,50,51,52,53,54,55,56,57]:List UInt8))=[UInt8.ofNat (49+r)]:=by decide
 exact this r h
theorem vd {d:List UInt8} {x s:Nat} (h1:∀c∈d,bJ c=true) (h2:1<=d.length) (h3:d.length<=5) (h4:d.head?≠some 48) (h5:x<=11) (h6:x=0->d.length=5) (h7:s<=d.length+x):okY false true d (x:Int) (s:Int):=by
 have hlt:=lh d 0 0 h1 (by simp)
 have hp:(10:Nat) ^ (d.length+0)<=10 ^ 5:=Nat.pow_le_pow_right (by decide) (by omega)
 have hq:(10:Nat) ^ x<=10 ^ 11:=Nat.pow_le_pow_right (by decide) h5
 have hm:=Nat.mul_le_mul (Nat.le_of_lt (Nat.lt_of_lt_of_le hlt hp)) hq
 have e:(10:Nat) ^ 5*10 ^ 11=E16:=by decide
 have:okL d (x:Int) (s:Int):=⟨⟨h1,h2,by omega,h4,by omega,by omega,by rintro ⟨q1,q2⟩;have:=h6 (by omega);omega,by simp only [Int.toNat_natCast];omega⟩,by omega,by omega⟩
 simpa [okY] using this
theorem zU (m a0 a2 a3 a4:Nat) (g:Bool) (h2:a2<65536) (h3:a3<256) (h4:a4<256):∃g' l d x s,eV (m+300) (a0:Int) g (a2:Int) (a3:Int) (a4:Int)=some (g',l,d,x,s)/\okY g' l d x s/\d.length<=5/\x<=11/\(a0%6≠3->hasX d=false):=by
 obtain ⟨d,hd1,hd2,hd3⟩:=DS (m+300) a2 h2
 have hdX:∀c∈d,bJ c=true\/c=88:=λc hc=>.inl (hd3 c hc)
 have hnX:=mr hd3
 unfold eV
 rw [hd1]
 simp only [ob]
 cases hc3:(Int.tmod (a0:Int) 6==3) with
 | true=>
  simp only [cond_true]
  obtain ⟨s,hs1,hs2,hs3⟩:=CX (m+300) (IntKind.wrap .i64 (Int.tmod (a3:Int) 4)) (IntKind.wrap .i64 (Int.tmod (a4:Int) 4)) g d hd2 hd3 (by omega)
  rw [hs1]
  obtain ⟨g',q1,q2⟩:=oC (m+300) g false s 0 0 (by omega) (by omega) (o9 hs2 hs3 (by omega) (by omega) (by omega))
  exact ⟨g',false,s,0,0,q1,q2,by omega,by omega,λh3=>absurd (by
   have e:=beq_iff_eq.1 hc3
   have e2:Int.tmod (a0:Int) 6=((a0%6:Nat):Int):=rfl
   omega) h3⟩
 | false=>
  simp only [cond_false]
  cases (Int.tmod (a0:Int) 6==4) with
  | true=>
   simp only [cond_true]
   have e:Int.tmod (a3:Int) 4=((a3%4:Nat):Int):=rfl
   have w1:IntKind.wrap .i64 ((a3%4:Nat):Int)=((a3%4:Nat):Int):=wrap_i64 _ (by omega) (by omega)
   have w2:IntKind.wrap .i64 (1+((a3%4:Nat):Int))=((1+a3%4:Nat):Int):=by rw [wrap_i64 _ (by omega) (by omega)];omega
   rw [e,w1,w2]
   obtain ⟨g',q1,q2⟩:=oC (m+300) g false d 0 ((1+a3%4:Nat):Int) (by omega) (by omega) (o9 hd2 hdX (by omega) (by omega) (by rw [hnX];simp))
   exact ⟨g',false,d,0,_,q1,q2,by omega,by omega,λ_=>hnX⟩
  | false=>
   simp only [cond_false]
   cases (Int.tmod (a0:Int) 6==5) with
   | false=>
    simp only [cond_false]
    obtain ⟨g',q1,q2⟩:=oC (m+300) g false d 0 0 (by omega) (by omega) (o9 hd2 hdX (by omega) (by omega) (by omega))
    exact ⟨g',false,d,0,0,q1,q2,by omega,by omega,λ_=>hnX⟩
   | true=>
    simp only [cond_true]
    have e9:Int.tmod (a3:Int) 9=((a3%9:Nat):Int):=rfl
    have w9:IntKind.wrap .u8 (((a3%9:Nat):Int)+1)=((a3%9+1:Nat):Int):=by rw [dr _ (by omega) (by omega)];omega
    have e3:Int.tmod (a4:Int) 3=((a4%3:Nat):Int):=rfl
    have e5:Int.tmod (a4:Int) 5=((a4%5:Nat):Int):=rfl
    have w5:IntKind.wrap .u8 (1+((a4%5:Nat):Int))=((1+a4%5:Nat):Int):=by rw [dr _ (by omega) (by omega)];omega
    have e16:Int.tdiv (a4:Int) 16=((a4 / 16:Nat):Int):=rfl
    have w16:IntKind.wrap .u8 ((a4 / 16:Nat):Int)=((a4 / 16:Nat):Int):=dr _ (by omega) (by omega)
    have e11:Int.tmod ((a4 / 16:Nat):Int) 11=((a4 / 16%11:Nat):Int):=rfl
    have w11:IntKind.wrap .i64 ((a4 / 16%11:Nat):Int)=((a4 / 16%11:Nat):Int):=wrap_i64 _ (by omega) (by omega)
    have w12:IntKind.wrap .i64 (1+((a4 / 16%11:Nat):Int))=((1+a4 / 16%11:Nat):Int):=by rw [wrap_i64 _ (by omega) (by omega)];omega
    have f16:Int.tdiv (a3:Int) 16=((a3 / 16:Nat):Int):=rfl
    have v16:IntKind.wrap .u8 ((a3 / 16:Nat):Int)=((a3 / 16:Nat):Int):=dr _ (by omega) (by omega)
    have v17:IntKind.wrap .i64 ((a3 / 16:Nat):Int)=((a3 / 16:Nat):Int):=wrap_i64 _ (by omega) (by omega)
    have h48:UInt8.ofNat (49+a3%9)≠48:=by
     intro q
     have:=congrArg UInt8.toNat q
     rw [show 49+a3%9=48+(1+a3%9) by omega,ou (by omega)] at this
     exact absurd this (by show ¬48+(1+a3%9)=48;omega)
    have hdig1:bJ (UInt8.ofNat (49+a3%9))=true:=(ej _).2 (by rw [show 49+a3%9=48+(1+a3%9) by omega,ou (by omega)];omega)
    rw [e9,w9,dS (show a3%9+1<=9 by omega)]
    simp only []
    rw [dS (show a3%9<=a3%9+1 by omega)]
    simp only []
    rw [cut9 (a3%9) (by omega),jm (by simp;omega)]
    simp only []
    generalize hD:[UInt8.ofNat (49+a3%9)]++d=D
    have hDl:D.length=5:=by rw [<-hD];simp [hd2]
    have hDd:∀c∈D,bJ c=true:=by
     rw [<-hD]
     intro c hc
     simp only [List.cons_append,List.nil_append,List.mem_cons] at hc
     rcases hc with rfl | hc
     ·exact hdig1
     ·exact hd3 c hc
    have hDh:D.head?≠some 48:=by rw [<-hD];simpa using h48
    rw [e3,e5,w5,e16,w16,e11,w11,w12,f16,v16,v17]
    by_cases h33:0<a4%3
    ·have d1:decide (((a4%3:Nat):Int)>0)=true:=decide_eq_true (by omega)
     rw [d1,cond_true,dS (show 1+a4%5<=D.length by omega)]
     simp only [List.drop_zero]
     generalize hE:List.take (1+a4%5) D=E
     have hEl:E.length=1+a4%5:=by rw [<-hE,List.length_take];omega
     have hEd:∀c∈E,bJ c=true:=by rw [<-hE];exact λc hc=>hDd c (List.mem_of_mem_take hc)
     have hEh:E.head?≠some 48:=by
      rw [<-hE]
      cases D with
      | nil=>simp at hDl
      | cons c r=>rw [Nat.add_comm,List.take_succ_cons];simpa using hDh
     generalize hX:1+a4 / 16%11=X
     have hX11:X<=11:=by omega
     have hX1:1<=X:=by omega
     have wl:IntKind.wrap .i64 (IntKind.wrap .i64 (((E.length:Nat):Int)+((X:Nat):Int))+1)=((E.length+X+1:Nat):Int):=by
      rw [wrap_i64 (((E.length:Nat):Int)+((X:Nat):Int)) (by omega) (by omega),wrap_i64 _ (by omega) (by omega)];omega
     have ne0:(((E.length+X+1:Nat):Int)==0)=false:=beq_eq_false_iff_ne.2 (by omega)
     rw [wl,ne0,cond_false]
     have em:Int.tmod ((a3 / 16:Nat):Int) ((E.length+X+1:Nat):Int)=((a3 / 16%(E.length+X+1):Nat):Int):=rfl
     rw [em]
     have hml:a3 / 16%(E.length+X+1)<E.length+X+1:=Nat.mod_lt _ (by omega)
     generalize a3 / 16%(E.length+X+1)=s at hml ⊢
     obtain ⟨g',q1,q2⟩:=oC (m+300) g true E ((X:Nat):Int) ((s:Nat):Int) (by omega) (by omega) (vd hEd (by omega) (by omega) hEh hX11 (by omega) (by omega))
     exact ⟨g',true,E,_,_,q1,q2,by omega,by omega,λ_=>mr hEd⟩
    ·have d1:decide (((a4%3:Nat):Int)>0)=false:=decide_eq_false (by omega)
     rw [d1,cond_false,hDl]
     have wl:IntKind.wrap .i64 (IntKind.wrap .i64 (((5:Nat):Int)+0)+1)=((6:Nat):Int):=by decide
     have ne0:(((6:Nat):Int)==0)=false:=rfl
     rw [wl,ne0,cond_false]
     have em:Int.tmod ((a3 / 16:Nat):Int) ((6:Nat):Int)=((a3 / 16%6:Nat):Int):=rfl
     rw [em]
     have hml:a3 / 16%6<6:=Nat.mod_lt _ (by omega)
     generalize a3 / 16%6=s at hml ⊢
     obtain ⟨g',q1,q2⟩:=oC (m+300) g true D ((0:Nat):Int) ((s:Nat):Int) (by omega) (by omega) (vd hDd (by omega) (by omega) hDh (by omega) (by omega) (by omega))
     exact ⟨g',true,D,_,_,q1,q2,by omega,by omega,λ_=>mr hDd⟩
theorem FJ (m a0 a2 a3 a4:Nat) (g:Bool) (h2:a2<65536) (h3:a3<256) (h4:a4<256):∃g' l d x s,eV (m+300) (a0:Int) g (a2:Int) (a3:Int) (a4:Int)=some (g',l,d,x,s)/\okY g' l d x s/\d.length<=5/\x<=11:=by
 obtain ⟨g',l,d,x,s,e,h,h1,h2,_⟩:=zU m a0 a2 a3 a4 g h2 h3 h4
 exact ⟨g',l,d,x,s,e,h,h1,h2⟩
structure OkD (g l:Bool) (dg:List UInt8) (x q:Nat) (m d:List UInt8) (k0 k1 k2:Nat):Prop where
 yr:okY g l dg (x:Int) (q:Int)
 x16:x<=16
 q17:q<=17
 dg17:dg.length<=17
 noM:0<q->m=[]
 mon:m=[]\/(m.length=2/\∀c∈m,isDX c=true)
 day:d=[]\/(m≠[]/\d.length=2/\∀c∈d,isDX c=true)
 m0:k0<4
 m1:k1<4
 m2:k2<4
 z1:cj m d<2->k1=0
 z2:cj m d<3->k2=0
theorem Fh {g l:Bool} {dg:List UInt8} {x q:Int} {m d:List UInt8} {k0 k1 k2:Int} (p0:0<=k0) (p1:0<=k1) (p2:0<=k2) (h:chkD g l dg x q m d k0 k1 k2=0):
  ∃x' q' a b c:Nat,x=(x':Int)/\q=(q':Int)/\k0=(a:Int)/\k1=(b:Int)/\k2=(c:Int)/\OkD g l dg x' q' m d a b c:=by
 obtain ⟨hy,hm,hd,hk⟩:=sS h
 unfold yrD at hy
 by_cases hok:okY g l dg x q
 rotate_left
 ·rw [if_neg hok] at hy;cases hy
 rw [if_pos hok] at hy
 obtain ⟨s1,s2,s3,s4,s5,s6⟩:=iH hok
 have hk':¬(3<k0\/3<k1\/3<k2\/(cj m d<2/\k1≠0)\/(cj m d<3/\k2≠0)):=by
  intro z
  unfold allM at hk
  rw [if_pos z] at hk
  exact absurd hk (by decide)
 refine ⟨x.toNat,q.toNat,k0.toNat,k1.toNat,k2.toNat,by omega,by omega,by omega,by omega,by omega,?_⟩
 rw [<-Int.toNat_of_nonneg s1,<-Int.toNat_of_nonneg s3] at hok
 refine ⟨hok,by omega,by omega,s6,?_,?_,?_,by omega,by omega,by omega,by omega,by omega⟩
 ·intro hq
  unfold yrB at hy
  have hq':decide (0<q)=true:=by simp;omega
  rw [hq'] at hy
  by_cases hm0:m=[]
  ·exact hm0
  ·have:(m==[])=false:=beq_eq_false_iff_ne.2 hm0
   rw [this] at hy
   simp at hy
 ·rcases hm with hm | hm | hm
  ·exact .inl hm
  ·exact .inr (tZ hm)
  ·exact .inr (iJ (by omega) hm)
 ·rcases hd with hd | ⟨hd,_,h31⟩
  ·exact .inl hd
  ·have:=iJ (show 31<=31 by omega) h31
   exact .inr ⟨hd,this.1,this.2⟩
def monT (j:Nat):List UInt8:=if j=0 then [] else if j<=12 then two j else if j<=33 then two (j+8) else ([[48,88],[49,88],[88,50],[88,88],[88,48],[88,57]]:List (List UInt8)).getD (j - 34) []
def F5 (m:List UInt8):Nat:=if m=[48,50] then 28 else if m=[48,52]\/m=[48,54]\/m=[48,57]\/m=[49,49]\/m=[88,57] then 30 else 31
def dayT (j:Nat) (m:List UInt8):List UInt8:=if j=0 then [] else if j<=31 then two (min j (F5 m)) else if m=[48,50]/\j=35 then [50,88] else ([[48,88],[49,88],[50,88],[51,88],[88,48],[88,49],[88,88],[88,56]]:List (List UInt8)).getD (j - 32) []
theorem r40 {p:Nat->Bool} (h:(List.range 40).all p=true) {a:Nat} (ha:a<40):p a=true:=(List.all_eq_true.1 h) a (List.mem_range.2 ha)
noncomputable def Cq (m:Nat) (a0:Int) (a1:Bool) (a2 a3 a4 a6 a7 a8 a9:Int) (j:Nat):Bool:=dk (m+300) a0 a1 a2 a3 a4 (j:Int) a6 a7 a8 a9==some (monT j)
theorem yx (m:Nat) (a0:Int) (a1:Bool) (a2 a3 a4 a6 a7 a8 a9:Int):((List.range 40).all λj=>Cq m a0 a1 a2 a3 a4 a6 a7 a8 a9 j)=true:=by kernel_rfl
theorem Dg (a:Nat) (h:a<256):IntKind.wrap .i64 (Int.tmod (a:Int) 40)=((a%40:Nat):Int):=by
 have:Int.tmod (a:Int) 40=((a%40:Nat):Int):=rfl
 rw [this,wrap_i64 _ (by omega) (by omega)]
theorem Cd (j:Nat) (h:j<40):IntKind.wrap .i64 (Int.tmod (j:Int) 40)=((j:Nat):Int):=by
 rw [Dg j (by omega)]
 have:j%40=j:=by omega
 rw [this]
theorem qp (m:Nat) (a0:Int) (a1:Bool) (a2 a3 a4:Int) (a5:Nat) (a6 a7 a8 a9:Int) (h:a5<256):dk (m+300) a0 a1 a2 a3 a4 (a5:Int) a6 a7 a8 a9=some (monT (a5%40)):=by
 have hj:a5%40<40:=by omega
 have h1:=r40 (yx m a0 a1 a2 a3 a4 a6 a7 a8 a9) hj
 unfold Cq at h1
 have h1:=beq_iff_eq.1 h1
 unfold dk at h1 ⊢
 rw [Cd _ hj] at h1
 rw [Dg _ h]
 exact h1
theorem yL {j:Nat} (h:j<40):monT j=[]\/0<sea (monT j)\/(sea (monT j)=0/\ck (monT j) 12=true):=by
 have:((List.range 40).all λj=>decide (monT j=[])||(decide (0<sea (monT j))||(decide (sea (monT j)=0)&&ck (monT j) 12)))=true:=by decide +kernel
 have:=r40 this h
 simpa using this
theorem tu {j:Nat} (h:j<40) (hs:sea (monT j)=0) (h0:monT j≠[]):monT j∈((List.range 12).map λi=>two (i+1))++[[48,88],[49,88],[88,50],[88,88],[88,48],[88,57]]:=by
 have:((List.range 40).all λj=>!decide (sea (monT j)=0)||(decide (monT j=[])||decide (monT j∈((List.range 12).map λi=>two (i+1))++[[48,88],[49,88],[88,50],[88,88],[88,48],[88,57]])))=true:=by decide +kernel
 have:=r40 this h
 rw [decide_eq_true hs,decide_eq_false h0] at this
 simpa using this
noncomputable def Cu (m:Nat) (a0:Int) (a1:Bool) (a2 a3 a4 a5 a7 a8 a9:Int) (mo:List UInt8) (j:Nat):Bool:=ei (m+300) a0 a1 a2 a3 a4 a5 (j:Int) a7 a8 a9 mo==some (dayT j mo)
theorem xU (m:Nat) (a0:Int) (a1:Bool) (a2 a3 a4 a5 a7 a8 a9:Int):((((List.range 12).map λi=>two (i+1))++[[48,88],[49,88],[88,50],[88,88],[88,48],[88,57]]).all λmo=>(List.range 40).all λj=>Cu m a0 a1 a2 a3 a4 a5 a7 a8 a9 mo j)=true:=by kernel_rfl
theorem uM (m:Nat) (a0:Int) (a1:Bool) (a2 a3 a4 a5:Int) (a6:Nat) (a7 a8 a9:Int) (mo:List UInt8) (hm:mo∈((List.range 12).map λi=>two (i+1))++[[48,88],[49,88],[88,50],[88,88],[88,48],[88,57]]) (h:a6<256):ei (m+300) a0 a1 a2 a3 a4 a5 (a6:Int) a7 a8 a9 mo=some (dayT (a6%40) mo):=by
 have hj:a6%40<40:=by omega
 have h1:=r40 ((List.all_eq_true.1 (xU m a0 a1 a2 a3 a4 a5 a7 a8 a9)) mo hm) hj
 unfold Cu at h1
 have h1:=beq_iff_eq.1 h1
 unfold ei at h1 ⊢
 rw [Cd _ hj] at h1
 rw [Dg _ h]
 exact h1
theorem zE {j:Nat} (h:j<40) {mo:List UInt8} (hm:mo∈((List.range 12).map λi=>two (i+1))++[[48,88],[49,88],[88,50],[88,88],[88,48],[88,57]]):dayT j mo=[]\/ck (dayT j mo) 31=true:=by
 have:((((List.range 12).map λi=>two (i+1))++[[48,88],[49,88],[88,50],[88,88],[88,48],[88,57]]).all λmo=>(List.range 40).all λj=>decide (dayT j mo=[])||ck (dayT j mo) 31)=true:=by decide +kernel
 have:=r40 ((List.all_eq_true.1 this) mo hm) h
 simpa using this
def mksT (k a b c:Nat):Nat×Nat×Nat:=(a%4,if 1<k then b%4 else 0,if 2<k then c%4 else 0)
theorem oR (k a b c:Nat):allM ((mksT k a b c).1:Int) ((mksT k a b c).2.1:Int) ((mksT k a b c).2.2:Int) k=0:=by
 apply DW
 refine ⟨by simp only [mksT];omega,?_,?_,?_,?_⟩
 ·simp only [mksT];split<;>omega
 ·simp only [mksT];split<;>omega
 ·intro h;simp only [mksT];rw [if_neg (by omega)]
 ·intro h;simp only [mksT];rw [if_neg (by omega)]
theorem wB {g l:Bool} {d:List UInt8} {x s:Int} (h:okY g l d x s) (h5:d.length<=5) (h11:x<=11):kJ g d x=false:=by
 unfold kJ
 cases hX:hasX d with
 | true=>rfl
 | false=>
  obtain ⟨k,q,rfl,rfl,hN⟩:=lO h hX
  have h1:=lh d 0 0 hN.dig (by decide)
  rw [Nat.add_zero] at h1
  have h2:dval 0 d<10 ^ 5:=Nat.lt_of_lt_of_le h1 (Nat.pow_le_pow_right (by omega) h5)
  have h3:10 ^ k<=10 ^ 11:=Nat.pow_le_pow_right (by omega) (by omega)
  have h4:val d k≠E16:=by
   unfold val E16
   have:dval 0 d*10 ^ k<=99999*10 ^ 11:=Nat.mul_le_mul (by omega) h3
   omega
  rw [Int.toNat_natCast,decide_eq_false h4]
  simp
theorem tn {g l:Bool} {dg:List UInt8} {x q:Int} {m d:List UInt8} {k0 k1 k2:Int} (h:okY g l dg x q) (hl:kJ g dg x=false) (hq:0<q->m=[]) (hm:m=[]\/0<sea m\/(sea m=0/\ck m 12=true)) (hd:d=[]\/(m≠[]/\sea m=0/\ck d 31=true)) (hk:allM k0 k1 k2 (cj m d)=0):chkD g l dg x q m d k0 k1 k2=0:=by
 have hy:yrD g l dg x q m=true:=by
  unfold yrD yrB
  rw [if_pos h,hl]
  by_cases h0:0<q
  ·rw [hq h0];simp
  ·simp [h0]
 unfold chkD
 rw [hy,hk]
 have c1:(!(m==[])&&(!(decide (0<sea m))&&!(ck m 12)))=false:=by
  rcases hm with h | h | ⟨_,h⟩
  ·rw [h];rfl
  ·rw [decide_eq_true h];simp
  ·rw [h];simp
 have c2:(!(d==[])&&((m==[])||(decide (0<sea m)||!(ck d 31))))=false:=by
  rcases hd with h | ⟨h1,h2,h3⟩
  ·rw [h];rfl
  ·rw [beq_eq_false_iff_ne.2 h1,h2,h3];simp
 rw [c1,c2]
 rfl
def minL (mo:Nat):Nat:=if mo=2 then 28 else if mo=4\/mo=6\/mo=9\/mo=11 then 30 else 31
def fitD (mo d:List UInt8):Bool:=(List.range' 1 12).any λi=>agr mo i&&(List.range' 1 (minL i)).any (agr d)
theorem DP:((((List.range 12).map λi=>two (i+1))++[[48,88],[49,88],[88,50],[88,88],[88,48],[88,57]]).all λmo=>(List.range 40).all λj=>(dayT j mo==[])||fitD mo (dayT j mo))=true:=by decide +kernel
theorem wo {j:Nat} (h:j<40) {mo:List UInt8} (hm:mo∈((List.range 12).map λi=>two (i+1))++[[48,88],[49,88],[88,50],[88,88],[88,48],[88,57]]):dayT j mo=[]\/fitD mo (dayT j mo)=true:=by
 have:=r40 ((List.all_eq_true.1 DP) mo hm) h
 simp only [Bool.or_eq_true,beq_iff_eq] at this
 exact this
theorem Fk (m a0 a2 a3 a4 a5 a6 a7 a8 a9:Nat) (g:Bool) (h2:a2<65536) (h3:a3<256) (h4:a4<256) (h5:a5<256) (h6:a6<256) (h7:a7<256) (h8:a8<256) (h9:a9<256):
  ∃g' l dg x q mo d k0 k1 k2,aq (m+300) (a0:Int) g (a2:Int) (a3:Int) (a4:Int) (a5:Int) (a6:Int) (a7:Int) (a8:Int) (a9:Int)=some (g',l,dg,((x:Nat):Int),((q:Nat):Int),mo,d,((k0:Nat):Int),((k1:Nat):Int),((k2:Nat):Int))/\chkD g' l dg (x:Int) (q:Int) mo d (k0:Int) (k1:Int) (k2:Int)=0/\OkD g' l dg x q mo d k0 k1 k2/\(d=[]\/fitD mo d=true):=by
 obtain ⟨g',l,dg,x,q,e,hY,hd5,hx11⟩:=FJ m a0 a2 a3 a4 g h2 h3 h4
 have hL:=wB hY hd5 hx11
 obtain ⟨s1,s2,s3,s4,s5,s6⟩:=iH hY
 suffices H:∃mo d,aq (m+300) (a0:Int) g (a2:Int) (a3:Int) (a4:Int) (a5:Int) (a6:Int) (a7:Int) (a8:Int) (a9:Int)=some (g',l,dg,x,q,mo,d,((mksT (cj mo d) a7 a8 a9).1:Int),((mksT (cj mo d) a7 a8 a9).2.1:Int),((mksT (cj mo d) a7 a8 a9).2.2:Int))/\chkD g' l dg x q mo d ((mksT (cj mo d) a7 a8 a9).1:Int) ((mksT (cj mo d) a7 a8 a9).2.1:Int) ((mksT (cj mo d) a7 a8 a9).2.2:Int)=0/\(d=[]\/fitD mo d=true) by
  obtain ⟨mo,d,h1,h2,hf⟩:=H
  obtain ⟨x',q',a,b,c,e1,e2,e3,e4,e5,hok⟩:=Fh (by omega) (by omega) (by omega) h2
  subst e1 e2
  refine ⟨g',l,dg,x',q',mo,d,a,b,c,?_,?_,hok,hf⟩
  ·rw [h1,e3,e4,e5]
  ·rw [<-e3,<-e4,<-e5];exact h2
 have t7:Int.tmod (a7:Int) 4=((a7%4:Nat):Int):=rfl
 have t8:Int.tmod (a8:Int) 4=((a8%4:Nat):Int):=rfl
 have t9:Int.tmod (a9:Int) 4=((a9%4:Nat):Int):=rfl
 have tail:∀(mo d:List UInt8) (o:Option (Bool×Bool×List UInt8×Int×Int×List UInt8×List UInt8×Int×Int×Int)),
   (ob (ab (m+300) g' l dg x q mo d 0 0 0) λr=>(cond (decide ((0:Int)<r)) (ob (ab (m+300) g' l dg x q mo d (Int.tmod (a7:Int) 4) 0 0) λr=>(cond (decide ((1:Int)<r)) (ob (ab (m+300) g' l dg x q mo d (Int.tmod (a7:Int) 4) (Int.tmod (a8:Int) 4) 0) λr=>(cond (decide ((2:Int)<r)) (ob (ab (m+300) g' l dg x q mo d (Int.tmod (a7:Int) 4) (Int.tmod (a8:Int) 4) (Int.tmod (a9:Int) 4)) λr=>(cond (decide ((3:Int)<r)) none (some (g',l,dg,x,q,mo,d,(Int.tmod (a7:Int) 4),(Int.tmod (a8:Int) 4),(Int.tmod (a9:Int) 4))))) (some (g',l,dg,x,q,mo,d,(Int.tmod (a7:Int) 4),(Int.tmod (a8:Int) 4),0)))) (some (g',l,dg,x,q,mo,d,(Int.tmod (a7:Int) 4),0,0)))) (some (g',l,dg,x,q,mo,d,0,0,0))))=some (g',l,dg,x,q,mo,d,((mksT (cj mo d) a7 a8 a9).1:Int),((mksT (cj mo d) a7 a8 a9).2.1:Int),((mksT (cj mo d) a7 a8 a9).2.2:Int)):=by
  intro mo d _
  have hc:=kO mo d
  have:cj mo d=1\/cj mo d=2\/cj mo d=3:=by omega
  rw [bP,bP,bP,bP]
  rcases this with h | h | h<;>rw [h]<;>rfl
 unfold aq
 rw [e]
 simp only [ob,d4]
 rw [ff]
 by_cases hq:q=0
 ·rw [if_pos hq]
  rw [qp m _ _ _ _ _ a5 _ _ _ _ h5]
  have h40:a5%40<40:=by omega
  have hmo:=yL h40
  have hml:=tu h40
  generalize monT (a5%40)=mo at hmo hml ⊢
  show ∃mo_1 d,cond (!(mo==[])) _ _=_/\_
  by_cases hm0:mo=[]
  ·subst hm0
   refine ⟨[],[],tail [] [] none,?_,.inl rfl⟩
   exact tn hY hL (λ_=>rfl) (.inl rfl) (.inl rfl) (oR _ _ _ _)
  ·rw [beq_eq_false_iff_ne.2 hm0]
   show ∃mo_1 d,ob (au (m+300) g' l dg x q mo [] 0 0 0) _=_/\_
   rw [gz (m+300) (by omega)]
   show ∃mo_1 d,cond (sea mo==0) _ _=_/\_
   rw [ff]
   by_cases hs:sea mo=0
   ·rw [if_pos hs]
    have hin:=hml hs hm0
    rw [uM m _ _ _ _ _ _ a6 _ _ _ mo hin h6]
    have hd:=zE (show a6%40<40 by omega) hin
    have hfit:=wo (show a6%40<40 by omega) hin
    generalize dayT (a6%40) mo=d at hd hfit ⊢
    refine ⟨mo,d,tail mo d none,?_,hfit⟩
    refine tn hY hL (λz=>by omega) hmo ?_ (oR _ _ _ _)
    rcases hd with hd | hd
    ·exact .inl hd
    ·exact .inr ⟨hm0,hs,hd⟩
   ·rw [if_neg hs]
    refine ⟨mo,[],tail mo [] none,?_,.inl rfl⟩
    exact tn hY hL (λz=>by omega) hmo (.inl rfl) (oR _ _ _ _)
 ·rw [if_neg hq]
  refine ⟨[],[],tail [] [] none,?_,.inl rfl⟩
  exact tn hY hL (λ_=>rfl) (.inl rfl) (.inl rfl) (oR _ _ _ _)
theorem yF (n:Nat) (g l:Bool) (dg:List UInt8) (x q:Int) (m d:List UInt8) (k0 k1 k2:Int) (hm:m.length<=18):aF n g l dg x q m d k0 k1 k2=some (if d=[] then (if 0<sea m then 0 else if m=[] then 1 else 2) else 3):=by
 unfold aF
 rw [mm n g l dg x q m d k0 k1 k2 hm]
 by_cases hd:d=[]
 ·rw [if_pos hd,hd]
  show cond (decide (0<sea m)) _ _=_
  rw [bg]
  by_cases hs:0<sea m
  ·rw [if_pos hs,if_pos hs]
  ·rw [if_neg hs,if_neg hs]
   by_cases hm:m=[]
   ·rw [if_pos hm,hm];rfl
   ·rw [if_neg hm,beq_eq_false_iff_ne.2 hm];rfl
 ·rw [if_neg hd,beq_eq_false_iff_ne.2 hd];rfl
theorem nR (a b:List UInt8):hasX (a++b)=(hasX a||hasX b):=by unfold hasX;rw [List.any_append]
theorem tM (n:Nat) (g l:Bool) (dg:List UInt8) (x q:Int) (m d:List UInt8) (k0 k1 k2:Int) (hm:m.length<=1000) (hd:dg.length<=1000) (h:d.length<=1000):
  db n g l dg x q m d k0 k1 k2=some (hasX dg||(hasX m||hasX d)):=by
 unfold db
 rw [jm (by omega)]
 simp only [ob]
 rw [jm (by simp only [List.length_append];omega)]
 simp only [ob]
 rw [sE,nR,nR,Bool.or_assoc]
def rf (d:List UInt8) (k q:Nat):Nat×Nat:=if 0<q then (val d k / 10 ^ (d.length+k - q)*10 ^ (d.length+k - q),min (val d k / 10 ^ (d.length+k - q)*10 ^ (d.length+k - q)+10 ^ (d.length+k - q) - 1) E16) else (val d k,val d k)
def sgn (g:Bool) (p:Nat×Nat):Int×Int:=if g then (-(p.2:Int),-(p.1:Int)) else ((p.1:Int),(p.2:Int))
theorem tL (n:Nat) (g l:Bool) (d:List UInt8) (k q:Nat) (hn:200<n) (hd:d.length<=100) (hN:Num d k q):
  ar n g l d (k:Int) (q:Int)=some (sgn g (rf d k q)):=by
 have hw:=hN.wide
 have hs:=hN.small
 have hq:=hN.sig
 unfold ar
 rw [jO n g l d k q (by omega) (by omega),mr hN.dig,eZ n d k hN.dig hd (by omega) (by omega),if_pos hs]
 have hv:dval 0 d*10 ^ k=val d k:=rfl
 rw [hv] at hs ⊢
 unfold E16 at hs
 have z01:((if false=true then (1:Int) else 0)==1)=false:=rfl
 simp only [ob,z01,cond_false]
 by_cases h0:0<q
 ·have e0:decide ((q:Int)>0)=true:=decide_eq_true (by omega)
  have w0:IntKind.wrap .i64 (IntKind.wrap .i64 (((d.length:Nat):Int)+(k:Int)) - (q:Int))=((d.length+k - q:Nat):Int):=by
   rw [wrap_i64 (((d.length:Nat):Int)+(k:Int)) (by omega) (by omega),wrap_i64 _ (by omega) (by omega)]
   omega
  have hu2:10 ^ (d.length+k - q)<=10 ^ 16:=Nat.pow_le_pow_right (by decide) (by omega)
  have h16:(10:Nat) ^ 16=10000000000000000:=by decide
  have one:dval 0 [49]=1:=by decide
  have hone:dval 0 [49]*10 ^ (d.length+k - q)<=E16:=by rw [one];unfold E16;omega
  rw [e0,w0,eZ n [49] (d.length+k - q) (by decide) (by decide) (by omega) (by simp;omega),if_pos hone,one,Nat.one_mul]
  simp only [cond_true]
  have hu:1<=10 ^ (d.length+k - q):=Nat.one_le_pow _ _ (by decide)
  unfold sgn rf
  rw [if_pos h0]
  clear hone
  generalize 10 ^ (d.length+k - q)=u at *
  generalize val d k=v at *
  have d2:(((u:Nat):Int)==0)=false:=beq_eq_false_iff_ne.2 (by omega)
  have hdiv:Int.tdiv ((v:Nat):Int) ((u:Nat):Int)=((v / u:Nat):Int):=rfl
  have hle:v / u*u<=v:=Nat.div_mul_le_self v u
  have hle2:v / u<=v:=Nat.div_le_self v u
  have w1:IntKind.wrap .i64 ((v / u:Nat):Int)=((v / u:Nat):Int):=by
   generalize v / u=t at *
   exact wrap_i64 _ (by omega) (by omega)
  have w2:IntKind.wrap .i64 (((v / u:Nat):Int)*((u:Nat):Int))=((v / u*u:Nat):Int):=by
   rw [<-Int.natCast_mul];exact wrap_i64 _ (by omega) (by omega)
  rw [d2,cond_false,hdiv,w1,w2]
  generalize v / u*u=lo at *
  have w3:IntKind.wrap .i64 (IntKind.wrap .i64 (((lo:Nat):Int)+((u:Nat):Int)) - 1)=((lo+u - 1:Nat):Int):=by
   rw [wrap_i64 (((lo:Nat):Int)+((u:Nat):Int)) (by omega) (by omega),wrap_i64 _ (by omega) (by omega)]
   omega
  rw [w3]
  have hmin:(cond (decide ((10000000000000000:Int)<((lo+u - 1:Nat):Int))) (10000000000000000:Int) ((lo+u - 1:Nat):Int))=((min (lo+u - 1) E16:Nat):Int):=by
   unfold E16
   by_cases hm:(10000000000000000:Int)<((lo+u - 1:Nat):Int)
   ·rw [decide_eq_true hm,cond_true];omega
   ·rw [decide_eq_false hm,cond_false];omega
  rw [hmin]
  have hmE:min (lo+u - 1) E16<=10000000000000000:=Nat.min_le_right _ _
  generalize min (lo+u - 1) E16=hi at *
  cases g with
  | true=>
   simp only [cond_true,if_true]
   rw [wrap_i64 _ (by omega) (by omega),wrap_i64 _ (by omega) (by omega),Int.zero_sub,Int.zero_sub]
  | false=>simp
 ·have e0:decide ((q:Int)>0)=false:=decide_eq_false (by omega)
  rw [e0,cond_false]
  unfold sgn rf
  rw [if_neg h0]
  cases g with
  | true=>
   simp only [cond_true,if_true]
   rw [wrap_i64 _ (by omega) (by omega),Int.zero_sub]
  | false=>simp
def co (z:UInt8) (d:List UInt8):List UInt8:=d.map λc=>if c=88 then z else c
theorem eT (z:UInt8) (d:List UInt8):(co z d).length=d.length:=by simp [co]
theorem le {z:UInt8} (hz:bJ z=true) {d:List UInt8} (h:∀c∈d,bJ c=true\/c=88):∀c∈co z d,bJ c=true:=by
 intro c hc
 obtain ⟨b,hb,rfl⟩:=List.mem_map.1 hc
 by_cases hx:b=88
 ·rw [if_pos hx];exact hz
 ·rw [if_neg hx]
  exact (h b hb).resolve_right hx
theorem pf {z:UInt8} {d:List UInt8} {i:Nat} {c:UInt8} (h:d[i]?=some c):(co z d)[i]?=some (if c=88 then z else c):=by
 simp [co,h]
def mg (d:List UInt8):Nat:=10 ^ (d.reverse.takeWhile (λc=>c != 88)).length
def gn (g:Bool) (d:List UInt8):Nat×Nat:=(if g=true/\dval 0 (co 48 d)=0 then mg d else dval 0 (co 48 d),dval 0 (co 57 d))
theorem D1 (m:Nat):ar (m+300) true false [48,48,48,88] 0 0=some (sgn true (gn true [48,48,48,88])):=by kernel_rfl
theorem DE (m:Nat):ar (m+300) true false [48,48,88,48] 0 0=some (sgn true (gn true [48,48,88,48])):=by kernel_rfl
theorem Dr (m:Nat):ar (m+300) true false [48,48,88,88] 0 0=some (sgn true (gn true [48,48,88,88])):=by kernel_rfl
theorem C9 (m:Nat):ar (m+300) true false [48,88,48,48] 0 0=some (sgn true (gn true [48,88,48,48])):=by kernel_rfl
theorem DU (m:Nat):ar (m+300) true false [48,88,48,88] 0 0=some (sgn true (gn true [48,88,48,88])):=by kernel_rfl
theorem CY (m:Nat):ar (m+300) true false [48,88,88,48] 0 0=some (sgn true (gn true [48,88,88,48])):=by kernel_rfl
theorem DL (m:Nat):ar (m+300) true false [48,88,88,88] 0 0=some (sgn true (gn true [48,88,88,88])):=by kernel_rfl
theorem Di (m:Nat):ar (m+300) true false [88,48,48,48] 0 0=some (sgn true (gn true [88,48,48,48])):=by kernel_rfl
theorem CJ (m:Nat):ar (m+300) true false [88,48,48,88] 0 0=some (sgn true (gn true [88,48,48,88])):=by kernel_rfl
theorem CV (m:Nat):ar (m+300) true false [88,48,88,48] 0 0=some (sgn true (gn true [88,48,88,48])):=by kernel_rfl
theorem Bj (m:Nat):ar (m+300) true false [88,48,88,88] 0 0=some (sgn true (gn true [88,48,88,88])):=by kernel_rfl
theorem BZ (m:Nat):ar (m+300) true false [88,88,48,48] 0 0=some (sgn true (gn true [88,88,48,48])):=by kernel_rfl
theorem AQ (m:Nat):ar (m+300) true false [88,88,48,88] 0 0=some (sgn true (gn true [88,88,48,88])):=by kernel_rfl
theorem AN (m:Nat):ar (m+300) true false [88,88,88,48] 0 0=some (sgn true (gn true [88,88,88,48])):=by kernel_rfl
theorem BX (m:Nat):ar (m+300) true false [88,88,88,88] 0 0=some (sgn true (gn true [88,88,88,88])):=by kernel_rfl
theorem sH {d:List UInt8} (hl:d.length=4) (h:∀c∈d,bJ c=true\/c=88) (hz:dval 0 (co 48 d)=0):∀c∈d,c=48\/c=88:=by
 match d,hl with
 | [a,b,c,e],_=>
  have hd:=le (z:=48) (by decide) h
  have h2:dval 0 (co 48 [a,b,c,e])=((((0*10+((if a=88 then (48:UInt8) else a).toNat - 48))*10+((if b=88 then (48:UInt8) else b).toNat - 48))*10+((if c=88 then (48:UInt8) else c).toNat - 48))*10+((if e=88 then (48:UInt8) else e).toNat - 48)):=by
   simp only [co,List.map_cons,List.map_nil,jI,kj,nD]
  rw [h2] at hz
  have key:∀x:UInt8,bJ (if x=88 then (48:UInt8) else x)=true->(if x=88 then (48:UInt8) else x).toNat - 48=0->x=48\/x=88:=by
   intro x hx h0
   by_cases hx8:x=88
   ·exact .inr hx8
   ·rw [if_neg hx8] at hx h0
    have:=(ej x).1 hx
    exact .inl (UInt8.toNat_inj.1 (by show x.toNat=48;omega))
  simp only [co,List.map_cons,List.map_nil,List.mem_cons,List.not_mem_nil,or_false,forall_eq_or_imp,forall_eq] at hd ⊢
  exact ⟨key a hd.1 (by omega),key b hd.2.1 (by omega),key c hd.2.2.1 (by omega),key e hd.2.2.2 (by omega)⟩
theorem qk {d:List UInt8} (hl:d.length=4) (h:∀c∈d,c=48\/c=88) (hX:hasX d=true) (P:List UInt8->Prop) (h0:P [48,48,48,88]) (h1:P [48,48,88,48]) (h2:P [48,48,88,88]) (h3:P [48,88,48,48]) (h4:P [48,88,48,88]) (h5:P [48,88,88,48]) (h6:P [48,88,88,88]) (h7:P [88,48,48,48]) (h8:P [88,48,48,88]) (h9:P [88,48,88,48]) (h10:P [88,48,88,88]) (h11:P [88,88,48,48]) (h12:P [88,88,48,88]) (h13:P [88,88,88,48]) (h14:P [88,88,88,88]):P d:=by
 match d,hl with
 | [a,b,c,e],_=>
  simp only [List.mem_cons,List.not_mem_nil,or_false,forall_eq_or_imp,forall_eq] at h
  obtain ⟨ha,hb,hc,he⟩:=h
  rcases ha with rfl | rfl<;>rcases hb with rfl | rfl<;>rcases hc with rfl | rfl<;>rcases he with rfl | rfl
  ·exact absurd hX (by decide)
  ·exact h0
  ·exact h1
  ·exact h2
  ·exact h3
  ·exact h4
  ·exact h5
  ·exact h6
  ·exact h7
  ·exact h8
  ·exact h9
  ·exact h10
  ·exact h11
  ·exact h12
  ·exact h13
  ·exact h14
theorem uj (n:Nat) (g l:Bool) (d:List UInt8) (x s:Int) (hl:d.length=4) (hn:4<n):ah (df n) n ([],[],0,g,l,d,x,s)=some (co 48 d,co 57 d,g,l,d,x,s):=by
 refine en (step:=df n) (λq=>∃i:Nat,i<=4/\q=((co 48 d).take i,(co 57 d).take i,(i:Int),g,l,d,x,s)) (λq=>4 - q.2.2.1.toNat) (λ_=>(co 48 d,co 57 d,g,l,d,x,s)) ?_ n _ ⟨0,by omega,by simp⟩ (by simp;omega)
 rintro q ⟨i,hi,rfl⟩
 rcases Nat.lt_or_ge i 4 with hlt | hge
 ·obtain ⟨c,hc⟩:∃c,d[i]?=some c:=⟨d[i],List.getElem?_eq_getElem (by omega)⟩
  have hf1:=CU (pf (z:=48) hc)
  have hf2:=CU (pf (z:=57) hc)
  have d1:decide ((i:Int)<4)=true:=decide_eq_true (by omega)
  have w1:IntKind.wrap .i64 ((i:Int)+1)=((i+1:Nat):Int):=by rw [wrap_i64 _ (by omega) (by omega)];omega
  refine .inl ⟨((co 48 d).take (i+1),(co 57 d).take (i+1),((i+1:Nat):Int),g,l,d,x,s),?_,⟨i+1,by omega,rfl⟩,by simp only [Int.toNat_natCast];omega,rfl⟩
  simp only [df,d1,cond_true,w1,dS (show i+1<=d.length by omega),dS (show i<=i+1 by omega),ob,cut1 hc]
  have ht:∀z:UInt8,((co z d).take i).length<=4:=λz=>by rw [List.length_take];omega
  rw [hf1,hf2]
  by_cases hx:c=88
  ·have e:(([c]:List UInt8)==[88])=true:=by rw [hx];rfl
   rw [e,cond_true,if_pos hx,if_pos hx,jm (by have:=ht 48;simp;omega),jm (by have:=ht 57;simp;omega)]
  ·have e:(([c]:List UInt8)==[88])=false:=by
    rw [beq_eq_false_iff_ne];intro e;exact hx (by simpa using e)
   rw [e,cond_false,if_neg hx,if_neg hx,jm (by have:=ht 48;simp;omega),jm (by have:=ht 57;simp;omega)]
 ·have:i=4:=by omega
  subst this
  refine .inr ?_
  rw [List.take_of_length_le (by rw [eT];omega),List.take_of_length_le (by rw [eT];omega)]
  rfl
theorem wZ {d:List UInt8} (h:d=[48,48,48,48]):dval 0 d=0:=by rw [h];decide
theorem rB (m:Nat) (g:Bool) (d:List UInt8) (h:okY g false d 0 0) (hX:hasX d=true):ar (m+300) g false d 0 0=some (sgn g (gn g d)):=by
 obtain ⟨_,_,_,hl,hd⟩:=kQ h hX
 by_cases hz:g=true/\dval 0 (co 48 d)=0
 ·obtain ⟨rfl,hz⟩:=hz
  exact qk hl (sH hl hd hz) hX (λd=>ar (m+300) true false d 0 0=some (sgn true (gn true d))) (D1 m) (DE m) (Dr m) (C9 m) (DU m) (CY m) (DL m) (Di m) (CJ m) (CV m) (Bj m) (BZ m) (AQ m) (AN m) (BX m)
 ·have hs:gn g d=(dval 0 (co 48 d),dval 0 (co 57 d)):=by unfold gn;rw [if_neg hz]
  have d48:=le (z:=48) (by decide) hd
  have d57:=le (z:=57) (by decide) hd
  have h1:=lh (co 48 d) 0 0 d48 (by simp)
  have h2:=lh (co 57 d) 0 0 d57 (by simp)
  rw [eT,hl] at h1 h2
  have h4:(10:Nat) ^ (4+0)=10000:=by decide
  have m1:ad (m+300) (co 48 d) 0=some (((dval 0 (co 48 d):Nat):Int),1):=by
   have:=eZ (m+300) (co 48 d) 0 d48 (by rw [eT];omega) (by omega) (by rw [eT];omega)
   rw [if_pos (by unfold E16;simp only [Nat.pow_zero,Nat.mul_one];omega)] at this
   simpa using this
  have m2:ad (m+300) (co 57 d) 0=some (((dval 0 (co 57 d):Nat):Int),1):=by
   have:=eZ (m+300) (co 57 d) 0 d57 (by rw [eT];omega) (by omega) (by rw [eT];omega)
   rw [if_pos (by unfold E16;simp only [Nat.pow_zero,Nat.mul_one];omega)] at this
   simpa using this
  have z11:((if true=true then (1:Int) else 0)==1)=true:=rfl
  have z0:decide ((0:Int)>0)=false:=rfl
  unfold ar
  rw [jO _ g false d 0 0 (by omega) (by omega),hX,uj _ g false d 0 0 hl (by omega),hs]
  simp only [ob,if_true,BEq.rfl,cond_true]
  cases g with
  | true=>
   have e:(co 48 d==([48,48,48,48]:List UInt8))=false:=by
    rw [beq_eq_false_iff_ne]
    intro e
    exact hz ⟨rfl,wZ e⟩
   simp only [cond_true,e,cond_false,m1,m2,z0,sgn,if_true]
   generalize dval 0 (co 48 d)=a at *
   generalize dval 0 (co 57 d)=b at *
   rw [wrap_i64 _ (by omega) (by omega),wrap_i64 _ (by omega) (by omega),Int.zero_sub,Int.zero_sub]
  | false=>simp only [cond_false,m1,m2,z0,sgn,Bool.false_eq_true,if_false]
def iZ (g:Bool) (d:List UInt8) (x s:Int):Nat×Nat:=if hasX d then gn g d else rf d x.toNat s.toNat
theorem Bd (m:Nat) (g l:Bool) (d:List UInt8) (x s:Int) (hd:d.length<=100) (h:okY g l d x s):ar (m+300) g l d x s=some (sgn g (iZ g d x s)):=by
 unfold iZ
 cases hX:hasX d with
 | true=>
  obtain ⟨rfl,rfl,rfl,hl,hdd⟩:=kQ h hX
  exact rB m g d h hX
 | false=>
  obtain ⟨k,q,rfl,rfl,hN⟩:=lO h hX
  exact tL _ g l d k q (by omega) hd hN
theorem De {d:List UInt8} {k q:Nat} (h:Num d k q):(rf d k q).1<=val d k/\val d k<=(rf d k q).2/\(rf d k q).2<=E16:=by
 have hs:=h.small
 have hv:dval 0 d*10 ^ k=val d k:=rfl
 rw [hv] at hs
 unfold rf
 split
 ·have hu:1<=10 ^ (d.length+k - q):=Nat.one_le_pow _ _ (by decide)
  generalize 10 ^ (d.length+k - q)=u at hu ⊢
  generalize val d k=v at hs ⊢
  have h1:=Nat.div_mul_le_self v u
  have h2:v<v / u*u+u:=by
   have h:=Nat.div_add_mod v u
   have:=Nat.mod_lt v hu
   rw [Nat.mul_comm] at h
   omega
  refine ⟨h1,?_,Nat.min_le_right _ _⟩
  rw [Nat.le_min]
  omega
 ·exact ⟨Nat.le_refl _,Nat.le_refl _,hs⟩
def mtk (d:List UInt8):Nat->Nat->Bool
 | 0,_=>true
 | k+1,w=>(decide (d.getD k 0=88)||decide ((d.getD k 0).toNat=48+w%10))&&mtk d k (w / 10)
theorem qV (d:List UInt8) (k w:Nat):mtk d (k+1) w=((decide (d.getD k 0=88)||decide ((d.getD k 0).toNat=48+w%10))&&mtk d k (w / 10)):=rfl
theorem rj {d:List UInt8} {k:Nat} {c:UInt8} (h:d[k]?=some c):d.getD k 0=c:=by
 rw [List.getD_eq_getElem?_getD,h];rfl
theorem Ak (n:Nat) (g l:Bool) (d:List UInt8) (x s:Int) (hl:d.length=4):∀(k w:Nat),k<=4->w<100000000000000000->∀q,k<q->
  ah (aP n) q ((w:Int),(k:Int) - 1,g,l,d,x,s)=some (if mtk d k w=true then .inr ((w / 10 ^ k:Nat):Int) else .inl 0)
 | 0,w,hk,hw,q,hq=>by
  obtain ⟨q,rfl⟩:∃p,q=p+1:=⟨q - 1,by omega⟩
  have d1:decide (((0:Nat):Int) - 1>=0)=false:=rfl
  have hm0:mtk d 0 w=true:=rfl
  simp only [ah,aP,d1,cond_false]
  rw [if_pos hm0]
  simp
 | k+1,w,hk,hw,q,hq=>by
  obtain ⟨q,rfl⟩:∃p,q=p+1:=⟨q - 1,by omega⟩
  have ih:=Ak n g l d x s hl k (w / 10) (by omega) (by omega) q (by omega)
  obtain ⟨c,hc⟩:∃c,d[k]?=some c:=⟨d[k],List.getElem?_eq_getElem (by omega)⟩
  have e0:((k+1:Nat):Int) - 1=(k:Int):=by omega
  have d1:decide ((k:Int)>=0)=true:=decide_eq_true (by omega)
  have em:Int.tmod (w:Int) 10=((w%10:Nat):Int):=rfl
  have eq':Int.tdiv (w:Int) 10=((w / 10:Nat):Int):=rfl
  have w1:IntKind.wrap .i64 (48+((w%10:Nat):Int))=((48+w%10:Nat):Int):=by rw [wrap_i64 _ (by omega) (by omega)];omega
  have w2:IntKind.wrap .u8 ((48+w%10:Nat):Int)=((48+w%10:Nat):Int):=dr _ (by omega) (by omega)
  have w3:IntKind.wrap .i64 ((w / 10:Nat):Int)=((w / 10:Nat):Int):=wrap_i64 _ (by omega) (by omega)
  have w4:IntKind.wrap .i64 ((k:Int) - 1)=(k:Int) - 1:=wrap_i64 _ (by omega) (by omega)
  have hdiv:w / 10 ^ (k+1)=w / 10 / 10 ^ k:=by rw [Nat.pow_succ,Nat.mul_comm,Nat.div_div_eq_div_mul]
  rw [qV,rj hc,hdiv,e0]
  simp only [ah,aP,d1,cond_true,ip hc,ob,em,eq',w1,w2,w3,w4]
  by_cases hx:c=88
  ·have e1:(((c.toNat:Nat):Int) != 88)=false:=by rw [hx];rfl
   rw [e1,decide_eq_true hx]
   simp only [cond_false,Bool.true_or,Bool.true_and]
   exact ih
  ·have e1:(((c.toNat:Nat):Int) != 88)=true:=by
    simp only [bne,Bool.not_eq_true',beq_eq_false_iff_ne]
    intro e
    exact hx (UInt8.toNat_inj.1 (by show c.toNat=88;omega))
   rw [e1,decide_eq_false hx]
   simp only [cond_true,Bool.false_or]
   by_cases hm:c.toNat=48+w%10
   ·have e2:(((c.toNat:Nat):Int) != ((48+w%10:Nat):Int))=false:=by rw [hm];simp
    rw [e2,decide_eq_true hm]
    simp only [cond_false,Bool.true_and]
    exact ih
   ·have e2:(((c.toNat:Nat):Int) != ((48+w%10:Nat):Int))=true:=by
     simp only [bne,Bool.not_eq_true',beq_eq_false_iff_ne]
     omega
    rw [e2,decide_eq_false hm]
    simp only [cond_true,Bool.false_and]
    rfl
def uy (d:List UInt8) (k q:Nat):Nat:=if 0<q then 10 ^ (d.length+k - q) else 1
def memP (d:List UInt8) (x s:Int) (w:Nat):Prop:=if hasX d=true then mtk d 4 w=true/\w / 10 ^ 4=0 else val d x.toNat / uy d x.toNat s.toNat=w / uy d x.toNat s.toNat
instance (d:List UInt8) (x s:Int) (w:Nat):Decidable (memP d x s w):=by unfold memP;infer_instance
def wOf (g:Bool) (v:Int):Int:=if g then -v else v
def inP (g:Bool) (d:List UInt8) (x s v:Int):Prop:=-10000000000000000<=v/\v<=10000000000000000/\0<=wOf g v/\¬(hasX d=true/\g=true/\wOf g v=0)/\memP d x s (wOf g v).toNat
instance (g:Bool) (d:List UInt8) (x s v:Int):Decidable (inP g d x s v):=by unfold inP;infer_instance
noncomputable def inT (n:Nat) (a0 a1:Bool) (a2:List UInt8) (a3 a4 W:Int):Option Int:=
 (ob (ak n a0 a1 a2 a3 a4) λr221=>(cond (r221==1) (ob (ah (aP n) n (W,3,a0,a1,a2,a3,a4)) λy222=>(Sum.casesOn (motive:=λ_=>Option _) y222 (λa223=>(some a223)) (λb224=>(cond (decide (b224>0)) (some 0) (some 1))))) (ob (ad n a2 a3) λr225=>(cond (decide (a4>0)) (ob (ad n [49] (IntKind.wrap .i64 ((IntKind.wrap .i64 (((List.length a2:Nat):Int)+a3)) - a4))) λr226=>(cond (r226.1==0) none (cond (r226.1==0) none (cond ((IntKind.wrap .i64 (Int.tdiv r225.1 r226.1))==(IntKind.wrap .i64 (Int.tdiv W r226.1))) (some 1) (some 0))))) (cond ((IntKind.wrap .i64 (Int.tdiv r225.1 1))==(IntKind.wrap .i64 (Int.tdiv W 1))) (some 1) (some 0))))))
theorem zC (a b:Nat):(((a:Nat):Int)==((b:Nat):Int))=decide (a=b):=by
 by_cases h:a=b
 ·subst h;simp
 ·rw [decide_eq_false h,beq_eq_false_iff_ne];omega
theorem vo {d:List UInt8} {x s:Int} {w:Nat} (hX:hasX d=true):memP d x s w↔mtk d 4 w=true/\w / 10 ^ 4=0:=by unfold memP;rw [if_pos hX]
theorem CD {d:List UInt8} {x s:Int} {w:Nat} (hX:hasX d=false):memP d x s w↔val d x.toNat / uy d x.toNat s.toNat=w / uy d x.toNat s.toNat:=by unfold memP;rw [if_neg (by rw [hX];simp)]
theorem in_T (m:Nat) {g l:Bool} {d:List UInt8} {x s:Int} (hok:okY g l d x s) (w:Nat) (hw:w<=10000000000000000):inT (m+300) g l d x s (w:Int)=some (if memP d x s w then 1 else 0):=by
 have hsm:=iH hok
 have hM:=jO (m+300) g l d x s (by omega) (by omega)
 unfold inT
 cases hX:hasX d with
 | true=>
  obtain ⟨rfl,rfl,rfl,hl,_⟩:=kQ hok hX
  have hlp:=Ak (m+300) g false d 0 0 hl 4 w (by omega) (by omega) (m+300) (by omega)
  have hlp':ah (aP (m+300)) (m+300) ((w:Int),3,g,false,d,0,0)=_:=hlp
  have z11:((1:Int)==1)=true:=rfl
  have hMt:ak (m+300) g false d 0 0=some 1:=by rw [hM,hX];rfl
  rw [hMt]
  simp only [ob,z11,cond_true,hlp']
  by_cases h1:mtk d 4 w=true
  ·rw [if_pos h1]
   by_cases h2:w / 10 ^ 4=0
   ·have e:decide (((w / 10 ^ 4:Nat):Int)>0)=false:=decide_eq_false (by rw [h2];decide)
    rw [if_pos ((vo hX).2 ⟨h1,h2⟩)]
    simp only [e,cond_false]
   ·have e:decide (((w / 10 ^ 4:Nat):Int)>0)=true:=decide_eq_true (by
     generalize w / 10 ^ 4=t at h2 ⊢
     omega)
    rw [if_neg (λq=>h2 ((vo hX).1 q).2)]
    simp only [e,cond_true]
  ·rw [if_neg h1,if_neg (λq=>h1 ((vo hX).1 q).1)]
 | false=>
  obtain ⟨k,q,rfl,rfl,hN⟩:=lO hok hX
  have hw':=hN.wide
  have hs:=hN.small
  have hq:=hN.sig
  have hv:dval 0 d*10 ^ k=val d k:=rfl
  have hm:=eZ (m+300) d k hN.dig (by omega) (by omega) (by omega)
  rw [if_pos hs,hv] at hm
  rw [hv] at hs
  unfold E16 at hs
  have z01:((0:Int)==1)=false:=rfl
  have hMt:ak (m+300) g l d k q=some 0:=by rw [hM,hX];rfl
  have hmp:=CD (x:=(k:Int)) (s:=(q:Int)) (w:=w) hX
  rw [Int.toNat_natCast,Int.toNat_natCast] at hmp
  unfold uy at hmp
  rw [hMt]
  simp only [ob,z01,cond_false,hm]
  by_cases h0:0<q
  ·have e0:decide ((q:Int)>0)=true:=decide_eq_true (by omega)
   have w0:IntKind.wrap .i64 (IntKind.wrap .i64 (((d.length:Nat):Int)+(k:Int)) - (q:Int))=((d.length+k - q:Nat):Int):=by
    rw [wrap_i64 (((d.length:Nat):Int)+(k:Int)) (by omega) (by omega),wrap_i64 _ (by omega) (by omega)]
    omega
   have hu2:10 ^ (d.length+k - q)<=10 ^ 16:=Nat.pow_le_pow_right (by decide) (by omega)
   have h16:(10:Nat) ^ 16=10000000000000000:=by decide
   have one:dval 0 [49]=1:=by decide
   have hone:dval 0 [49]*10 ^ (d.length+k - q)<=E16:=by rw [one];unfold E16;omega
   have hm1:=eZ (m+300) [49] (d.length+k - q) (by decide) (by decide) (by omega) (by simp;omega)
   rw [if_pos hone,one,Nat.one_mul] at hm1
   have hu:1<=10 ^ (d.length+k - q):=Nat.one_le_pow _ _ (by decide)
   rw [e0,w0,hm1]
   rw [if_pos h0] at hmp
   clear hone hm1
   generalize 10 ^ (d.length+k - q)=u at hu hu2 hmp ⊢
   generalize val d k=v at hs hmp ⊢
   have d2:(((u:Nat):Int)==0)=false:=beq_eq_false_iff_ne.2 (by omega)
   have hdiv:Int.tdiv ((v:Nat):Int) ((u:Nat):Int)=((v / u:Nat):Int):=rfl
   have hdiw:Int.tdiv ((w:Nat):Int) ((u:Nat):Int)=((w / u:Nat):Int):=rfl
   have l1:v / u<=v:=Nat.div_le_self v u
   have l2:w / u<=w:=Nat.div_le_self w u
   simp only [cond_true,d2,cond_false,hdiv,hdiw]
   generalize v / u=a at l1 hmp ⊢
   generalize w / u=b at l2 hmp ⊢
   rw [wrap_i64 _ (by omega) (by omega),wrap_i64 _ (by omega) (by omega),zC]
   by_cases hab:a=b
   ·rw [decide_eq_true hab,if_pos (hmp.2 hab)];rfl
   ·rw [decide_eq_false hab,if_neg (λq=>hab (hmp.1 q))];rfl
  ·have e0:decide ((q:Int)>0)=false:=decide_eq_false (by omega)
   have t1:∀a:Nat,Int.tdiv ((a:Nat):Int) 1=((a:Nat):Int):=λa=>by
    have:Int.tdiv ((a:Nat):Int) 1=((a / 1:Nat):Int):=rfl
    rw [this,Nat.div_one]
   rw [if_neg h0,Nat.div_one,Nat.div_one] at hmp
   rw [e0]
   simp only [cond_false,t1]
   rw [wrap_i64 _ (by omega) (by omega),wrap_i64 _ (by omega) (by omega),zC]
   by_cases hab:val d k=w
   ·rw [decide_eq_true hab,if_pos (hmp.2 hab)];rfl
   ·rw [decide_eq_false hab,if_neg (λq=>hab (hmp.1 q))];rfl
theorem Ey (m:Nat) {g l:Bool} {d:List UInt8} {x s:Int} (hok:okY g l d x s) (v:Int):iD (m+300) g l d x s v=some (if inP g d x s v then 1 else 0):=by
 have hsm:=iH hok
 have hT:=λw hw=>in_T m hok w hw
 have hM:=jO (m+300) g l d x s (by omega) (by omega)
 unfold inT at hT
 unfold iD
 by_cases h1:v < -10000000000000000
 ·rw [decide_eq_true h1,if_neg (λq=>by have:=q.1;omega)];rfl
 ·rw [decide_eq_false h1,cond_false]
  by_cases h2:v>10000000000000000
  ·rw [decide_eq_true h2,if_neg (λq=>by have:=q.2.1;omega)];rfl
  ·rw [decide_eq_false h2,cond_false]
   cases g with
   | true=>
    have w0:IntKind.wrap .i64 (0 - v)=-v:=by rw [wrap_i64 _ (by omega) (by omega)];omega
    simp only [cond_true,w0]
    by_cases h3:-v<0
    ·rw [decide_eq_true h3,if_neg (λq=>by have:=q.2.2.1;unfold wOf at this;simp only [if_true] at this;omega)];rfl
    ·rw [decide_eq_false h3,cond_false]
     obtain ⟨w,hw⟩:∃w:Nat,-v=(w:Int):=⟨(-v).toNat,by omega⟩
     have hT:=hT w (by omega)
     have hwo:wOf true v=(w:Int):=by unfold wOf;simpa using hw
     have hin:¬(hasX d=true/\w=0)->(inP true d x s v↔memP d x s w):=by
      intro hz
      unfold inP
      rw [hwo,Int.toNat_natCast]
      constructor
      ·exact λq=>q.2.2.2.2
      ·exact λq=>⟨by omega,by omega,by omega,λq=>hz ⟨q.1,by omega⟩,q⟩
     rw [hw]
     cases hX:hasX d with
     | true=>
      have hMt:ak (m+300) true l d x s=some 1:=by rw [hM,hX];rfl
      rw [hMt]
      have z11:((1:Int)==1)=true:=rfl
      simp only [ob,z11,cond_true]
      by_cases hz:w=0
      ·have e:(((w:Nat):Int)==0)=true:=beq_iff_eq.2 (by omega)
       rw [e,if_neg (λq=>q.2.2.2.1 ⟨hX,rfl,by rw [hwo];omega⟩)];rfl
      ·have e:(((w:Nat):Int)==0)=false:=beq_eq_false_iff_ne.2 (by omega)
       rw [hMt] at hT
       simp only [ob,z11,cond_true] at hT
       rw [e,cond_false,hT]
       have:=hin (λq=>hz q.2)
       by_cases hp:memP d x s w
       ·rw [if_pos hp,if_pos (this.2 hp)]
       ·rw [if_neg hp,if_neg (λq=>hp (this.1 q))]
     | false=>
      have hMt:ak (m+300) true l d x s=some 0:=by rw [hM,hX];rfl
      have z01:((0:Int)==1)=false:=rfl
      rw [hMt] at hT ⊢
      simp only [ob,z01,cond_false] at hT ⊢
      rw [hT]
      have:=hin (λq=>by rw [hX] at q;cases q.1)
      by_cases hp:memP d x s w
      ·rw [if_pos hp,if_pos (this.2 hp)]
      ·rw [if_neg hp,if_neg (λq=>hp (this.1 q))]
   | false=>
    simp only [cond_false]
    by_cases h3:v<0
    ·rw [decide_eq_true h3,if_neg (λq=>by have:=q.2.2.1;unfold wOf at this;simp only [Bool.false_eq_true,if_false] at this;omega)];rfl
    ·rw [decide_eq_false h3,cond_false]
     obtain ⟨w,rfl⟩:∃w:Nat,v=(w:Int):=⟨v.toNat,by omega⟩
     have hT:=hT w (by omega)
     have hwo:wOf false (w:Int)=(w:Int):=rfl
     have hin:inP false d x s (w:Int)↔memP d x s w:=by
      unfold inP
      rw [hwo,Int.toNat_natCast]
      constructor
      ·exact λq=>q.2.2.2.2
      ·exact λq=>⟨by omega,by omega,by omega,λq=>(by cases q.2.1),q⟩
     cases hX:hasX d with
     | true=>
      have hMt:ak (m+300) false l d x s=some 1:=by rw [hM,hX];rfl
      rw [hMt] at hT ⊢
      have z11:((1:Int)==1)=true:=rfl
      simp only [ob,z11,cond_true] at hT ⊢
      rw [hT]
      by_cases hp:memP d x s w
      ·rw [if_pos hp,if_pos (hin.2 hp)]
      ·rw [if_neg hp,if_neg (λq=>hp (hin.1 q))]
     | false=>
      have hMt:ak (m+300) false l d x s=some 0:=by rw [hM,hX];rfl
      rw [hMt] at hT ⊢
      have z01:((0:Int)==1)=false:=rfl
      simp only [ob,z01,cond_false] at hT ⊢
      rw [hT]
      by_cases hp:memP d x s w
      ·rw [if_pos hp,if_pos (hin.2 hp)]
      ·rw [if_neg hp,if_neg (λq=>hp (hin.1 q))]
def loK (d:List UInt8) (k:Nat):Nat:=dval 0 ((co 48 d).take k)
def hiK (d:List UInt8) (k:Nat):Nat:=dval 0 ((co 57 d).take k)
theorem pH (z:UInt8) {d:List UInt8} {k:Nat} {c:UInt8} (h:d[k]?=some c):dval 0 ((co z d).take (k+1))=dval 0 ((co z d).take k)*10+((if c=88 then z else c).toNat - 48):=by
 rw [CU (pf h),ww]
theorem rZ (d:List UInt8) (hl:d.length=4) (hd:∀c∈d,bJ c=true\/c=88):∀(k w:Nat),k<=4->w<10 ^ k->mtk d k w=true->loK d k<=w/\w<=hiK d k
 | 0,w,hk,hw,hm=>by
  simp at hw
  subst hw
  simp [loK,hiK,kj]
 | k+1,w,hk,hw,hm=>by
  obtain ⟨c,hc⟩:∃c,d[k]?=some c:=⟨d[k],List.getElem?_eq_getElem (by omega)⟩
  rw [qV,rj hc,Bool.and_eq_true,Bool.or_eq_true,decide_eq_true_eq,decide_eq_true_eq] at hm
  have hp:(10:Nat) ^ (k+1)=10 ^ k*10:=Nat.pow_succ 10 k
  have ih:=rZ d hl hd k (w / 10) (by omega) (by omega) hm.2
  have h1:=pH 48 hc
  have h2:=pH 57 hc
  unfold loK hiK at ih ⊢
  rw [h1,h2]
  by_cases hx:c=88
  ·rw [if_pos hx,if_pos hx]
   have e1:(48:UInt8).toNat - 48=0:=rfl
   have e2:(57:UInt8).toNat - 48=9:=rfl
   rw [e1,e2]
   omega
  ·rw [if_neg hx,if_neg hx]
   have:=hm.1.resolve_left hx
   omega
theorem rO (z:UInt8) (hz:bJ z=true) (d:List UInt8) (hl:d.length=4) (hd:∀c∈d,bJ c=true\/c=88):∀k,k<=4->mtk d k (dval 0 ((co z d).take k))=true
 | 0,_=>rfl
 | k+1,hk=>by
  obtain ⟨c,hc⟩:∃c,d[k]?=some c:=⟨d[k],List.getElem?_eq_getElem (by omega)⟩
  have ih:=rO z hz d hl hd k (by omega)
  have hdg:bJ (if c=88 then z else c)=true:=by
   by_cases hx:c=88
   ·rw [if_pos hx];exact hz
   ·rw [if_neg hx];exact (hd c (List.mem_of_getElem? hc)).resolve_right hx
  have hr:=(ej _).1 hdg
  rw [qV,rj hc,pH z hc]
  generalize hb:(if c=88 then z else c)=b at hr ⊢
  generalize dval 0 ((co z d).take k)=a at ih ⊢
  have e1:(a*10+(b.toNat - 48)) / 10=a:=by omega
  have e2:(a*10+(b.toNat - 48))%10=b.toNat - 48:=by omega
  rw [e1,e2,ih,Bool.and_true]
  by_cases hx:c=88
  ·rw [decide_eq_true hx];rfl
  ·rw [if_neg hx] at hb
   rw [hb,decide_eq_true (show b.toNat=48+(b.toNat - 48) by omega),Bool.or_true]
def rg:List (List UInt8):=[[48,48,48,88],[48,48,88,48],[48,48,88,88],[48,88,48,48],[48,88,48,88],[48,88,88,48],[48,88,88,88],[88,48,48,48],[88,48,48,88],[88,48,88,48],[88,48,88,88],[88,88,48,48],[88,88,48,88],[88,88,88,48],[88,88,88,88]]
theorem GI:rg.all (λd=>mtk d 4 (mg d)&&decide (1<=mg d)&&decide (mg d<=1000)&&(List.range 1000).all (λw=>decide (w=0)||!mtk d 4 w||decide (mg d<=w)))=true:=by decide +kernel
theorem sa {d:List UInt8} (hd:d∈rg):mtk d 4 (mg d)=true/\1<=mg d/\mg d<=1000/\∀w,1<=w->mtk d 4 w=true->mg d<=w:=by
 have h:=List.all_eq_true.1 GI d hd
 simp only [Bool.and_eq_true,decide_eq_true_eq,List.all_eq_true,List.mem_range,Bool.or_eq_true,Bool.not_eq_true'] at h
 obtain ⟨⟨⟨h1,h2⟩,h3⟩,h4⟩:=h
 refine ⟨h1,h2,h3,λw hw hm=>?_⟩
 rcases Nat.lt_or_ge w 1000 with hlt | hge
 ·rcases h4 w hlt with (h | h) | h
  ·omega
  ·rw [hm] at h;cases h
  ·exact h
 ·omega
theorem tc {d:List UInt8} (hl:d.length=4) (hd:∀c∈d,bJ c=true\/c=88) (hX:hasX d=true) (hz:dval 0 (co 48 d)=0):d∈rg:=
 qk hl (sH hl hd hz) hX (λd=>d∈rg) (by decide) (by decide) (by decide) (by decide) (by decide) (by decide) (by decide) (by decide) (by decide) (by decide) (by decide) (by decide) (by decide) (by decide) (by decide)
theorem C1 {d:List UInt8} (hl:d.length=4):loK d 4=dval 0 (co 48 d):=by
 unfold loK;rw [List.take_of_length_le (by rw [eT];omega)]
theorem CS {d:List UInt8} (hl:d.length=4):hiK d 4=dval 0 (co 57 d):=by
 unfold hiK;rw [List.take_of_length_le (by rw [eT];omega)]
theorem BE {g:Bool} {d:List UInt8} (hl:d.length=4) (hd:∀c∈d,bJ c=true\/c=88) (hX:hasX d=true):
  (gn g d).1<10000/\(gn g d).2<10000/\mtk d 4 (gn g d).1=true/\mtk d 4 (gn g d).2=true/\1<=(gn g d).2/\(g=true->1<=(gn g d).1)/\∀w,w<10000->mtk d 4 w=true->(g=true->1<=w)->(gn g d).1<=w/\w<=(gn g d).2:=by
 have h4:(10:Nat) ^ 4=10000:=by decide
 have d48:=le (z:=48) (by decide) hd
 have d57:=le (z:=57) (by decide) hd
 have b1:=lh (co 48 d) 0 0 d48 (by simp)
 have b2:=lh (co 57 d) 0 0 d57 (by simp)
 rw [eT,hl,Nat.add_zero,h4] at b1 b2
 have m1:=rO 48 (by decide) d hl hd 4 (by omega)
 have m2:=rO 57 (by decide) d hl hd 4 (by omega)
 rw [List.take_of_length_le (by rw [eT];omega)] at m1 m2
 have hr:∀w,w<10000->mtk d 4 w=true->dval 0 (co 48 d)<=w/\w<=dval 0 (co 57 d):=λw hw hm=>by
  have:=rZ d hl hd 4 w (by omega) (by omega) hm
  rw [C1 hl,CS hl] at this
  exact this
 have hhi:1<=dval 0 (co 57 d):=by
  rcases Nat.eq_zero_or_pos (dval 0 (co 57 d)) with h0 | h0
  ·exfalso
   have hz:dval 0 (co 48 d)=0:=by
    have:=(hr _ b1 m1).2
    omega
   have h15:=tc hl hd hX hz
   have hlow:=sa h15
   have:=(hr _ (by omega) hlow.1).2
   omega
  ·exact h0
 unfold gn
 by_cases hz:g=true/\dval 0 (co 48 d)=0
 ·rw [if_pos hz]
  have hlow:=sa (tc hl hd hX hz.2)
  refine ⟨by simp only;omega,b2,hlow.1,m2,hhi,λ_=>hlow.2.1,λw hw hm hg=>⟨hlow.2.2.2 w (hg hz.1) hm,(hr w hw hm).2⟩⟩
 ·rw [if_neg hz]
  refine ⟨b1,b2,m1,m2,hhi,λhg=>?_,λw hw hm hg=>hr w hw hm⟩
  simp only
  rcases Nat.eq_zero_or_pos (dval 0 (co 48 d)) with h0 | h0
  ·exact absurd ⟨hg,h0⟩ hz
  ·exact h0
theorem Ao {g l:Bool} {d:List UInt8} {x s:Int} (hok:okY g l d x s):(iZ g d x s).1<=10000000000000000/\(iZ g d x s).2<=10000000000000000/\memP d x s (iZ g d x s).1/\memP d x s (iZ g d x s).2/\(hasX d=true->1<=(iZ g d x s).2/\(g=true->1<=(iZ g d x s).1))/\
  ∀w,w<=10000000000000000->memP d x s w->(hasX d=true->g=true->1<=w)->(iZ g d x s).1<=w/\w<=(iZ g d x s).2:=by
 unfold iZ memP
 cases hX:hasX d with
 | true=>
  obtain ⟨rfl,rfl,rfl,hl,hd⟩:=kQ hok hX
  obtain ⟨p1,p2,p3,p4,p5,p6,p7⟩:=BE (g:=g) hl hd hX
  have h4:(10:Nat) ^ 4=10000:=by decide
  simp only [if_true,h4]
  refine ⟨by omega,by omega,⟨p3,Nat.div_eq_of_lt p1⟩,⟨p4,Nat.div_eq_of_lt p2⟩,λ_=>⟨p5,p6⟩,λw hw hm hg=>p7 w (by omega) hm.1 (hg trivial)⟩
 | false=>
  obtain ⟨k,q,rfl,rfl,hN⟩:=lO hok hX
  have hs:=hN.small
  have hv:dval 0 d*10 ^ k=val d k:=rfl
  rw [hv] at hs
  obtain ⟨s1,s2,s3⟩:=De hN
  unfold E16 at s3
  simp only [Bool.false_eq_true,if_false,Int.toNat_natCast]
  unfold uy
  unfold rf at s1 s2 s3 ⊢
  by_cases h0:0<q
  ·rw [if_pos h0] at s1 s2 s3 ⊢
   rw [if_pos h0]
   have hu:1<=10 ^ (d.length+k - q):=Nat.one_le_pow _ _ (by decide)
   generalize 10 ^ (d.length+k - q)=u at *
   generalize val d k=v at *
   simp only at s1 s2 s3 ⊢
   have hmul:v / u*u / u=v / u:=Nat.mul_div_cancel _ hu
   have hlt:∀w,v / u*u<=w->w<v / u*u+u->w / u=v / u:=by
    intro w h1 h2
    apply Nat.div_eq_of_lt_le
    ·exact h1
    ·rw [Nat.succ_mul];exact h2
   have hback:∀w,v / u=w / u->v / u*u<=w/\w<v / u*u+u:=by
    intro w h
    rw [h]
    have h1:=Nat.div_mul_le_self w u
    have h2:=Nat.div_add_mod w u
    have h3:=Nat.mod_lt w hu
    rw [Nat.mul_comm] at h2
    omega
   have hmin:min (v / u*u+u - 1) E16<=v / u*u+u - 1:=Nat.min_le_left _ _
   have hself:=hback v rfl
   refine ⟨by omega,s3,hmul.symm,(hlt _ (by omega) (by omega)).symm,λq=>(by cases q),λw hw hm _=>?_⟩
   obtain ⟨c1,c2⟩:=hback w hm
   refine ⟨c1,?_⟩
   rw [Nat.le_min]
   unfold E16
   omega
  ·rw [if_neg h0] at s1 s2 s3 ⊢
   rw [if_neg h0]
   simp only [Nat.div_one] at s1 s2 s3 ⊢
   refine ⟨s3,s3,trivial,trivial,λq=>(by cases q),λw hw hm _=>by omega⟩
theorem uB {g l:Bool} {d:List UInt8} {x s:Int} (hok:okY g l d x s):inP g d x s (sgn g (iZ g d x s)).1/\inP g d x s (sgn g (iZ g d x s)).2/\∀v,inP g d x s v->(sgn g (iZ g d x s)).1<=v/\v<=(sgn g (iZ g d x s)).2:=by
 obtain ⟨p1,p2,p3,p4,p5,p6⟩:=Ao hok
 generalize iZ g d x s=sp at *
 obtain ⟨lo,hi⟩:=sp
 simp only at p1 p2 p3 p4 p5 p6
 cases g with
 | true=>
  have hw:∀a:Nat,wOf true (-(a:Int))=(a:Int):=λa=>by unfold wOf;simp
  have mk:∀a:Nat,a<=10000000000000000->memP d x s a->(hasX d=true->1<=a)->inP true d x s (-(a:Int)):=by
   intro a h1 h2 h3
   refine ⟨by omega,by omega,by rw [hw];omega,λq=>?_,by rw [hw,Int.toNat_natCast];exact h2⟩
   have:=h3 q.1
   have h4:=q.2.2
   rw [hw] at h4
   omega
  simp only [sgn,if_true]
  refine ⟨mk hi p2 p4 (λh=>(p5 h).1),mk lo p1 p3 (λh=>(p5 h).2 rfl),λv hv=>?_⟩
  obtain ⟨v1,v2,v3,v4,v5⟩:=hv
  have hwv:wOf true v=-v:=rfl
  rw [hwv] at v3 v4 v5
  have:=p6 (-v).toNat (by omega) v5 (λhx _=>by
   have:¬-v=0:=λe=>v4 ⟨hx,rfl,e⟩
   omega)
  omega
 | false=>
  have hw:∀a:Int,wOf false a=a:=λa=>rfl
  have mk:∀a:Nat,a<=10000000000000000->memP d x s a->inP false d x s (a:Int):=by
   intro a h1 h2
   exact ⟨by omega,by omega,by rw [hw];omega,λq=>(by cases q.2.1),by rw [hw,Int.toNat_natCast];exact h2⟩
  simp only [sgn,Bool.false_eq_true,if_false]
  refine ⟨mk lo p1 p3,mk hi p2 p4,λv hv=>?_⟩
  obtain ⟨v1,v2,v3,v4,v5⟩:=hv
  rw [hw] at v3 v5
  have:=p6 v.toNat (by omega) v5 (λ_ q=>by cases q)
  omega
end Go.Sh
namespace Go.Sh.Mk
open Go.Abs
def okB (c:UInt8):Bool:=c.toNat==88||(decide (48<=c.toNat)&&decide (c.toNat<=57))
def chk (s:List UInt8):Int:=if 18<s.length then 3 else if s.all okB then (if s=[] then 5 else 0) else 5
theorem nG (n:Nat) (s0 s:List UInt8) (hn:s.length+1<n):
  ah (ew n) n (s0,s,0)=some (if s.all okB then .inr s0 else .inl 5):=by
 have:=en (step:=ew n) (λx=>x.1=s0/\x.2.1=s/\x.2.2<=s.length) (λx=>s.length - x.2.2)
  (λx=>if (s.drop x.2.2).all okB then .inr s0 else .inl 5) ?_ n (s0,s,0) ⟨rfl,rfl,Nat.zero_le _⟩ (by simp;omega)
 ·simpa using this
 rintro ⟨a,b,i⟩ ⟨rfl,rfl,hi⟩
 simp only at hi ⊢
 rcases Nat.lt_or_ge i b.length with hlt | hge
 ·obtain ⟨c,hc⟩:∃c,b[i]?=some c:=⟨b[i],List.getElem?_eq_getElem hlt⟩
  have hb:Nat.blt i b.length=true:=Nat.ble_eq_true_of_le hlt
  rw [gJ hc,List.all_cons]
  simp only [ew,hb,cond_true]
  by_cases h128:c.toNat<128
  ·rw [tS hc h128]
   by_cases h88:c.toNat=88
   ·refine .inl ⟨(a,b,i+1),by simp [h88],⟨rfl,rfl,by simp only;omega⟩,by simp only;omega,?_⟩
    simp [okB,h88]
   ·by_cases h48:c.toNat<48
    ·refine .inr ?_
     have e1:(((c.toNat:Nat):Int) != 88)=true:=by simp;omega
     have e2:(decide (((c.toNat:Nat):Int)<48))=true:=by simp;omega
     have e3:okB c=false:=by simp [okB];omega
     simp [e1,e2,e3]
    ·by_cases h57:57<c.toNat
     ·refine .inr ?_
      have e1:(((c.toNat:Nat):Int) != 88)=true:=by simp;omega
      have e2:(decide (((c.toNat:Nat):Int)<48))=false:=by simp;omega
      have e4:(decide (((c.toNat:Nat):Int)>57))=true:=by simp;omega
      have e3:okB c=false:=by simp [okB];omega
      simp [e1,e2,e3,e4]
     ·have e1:(((c.toNat:Nat):Int) != 88)=true:=by simp;omega
      have e2:(decide (((c.toNat:Nat):Int)<48))=false:=by simp;omega
      have e4:(decide (((c.toNat:Nat):Int)>57))=false:=by simp;omega
      have e3:okB c=true:=by simp [okB];omega
      refine .inl ⟨(a,b,i+1),by simp only [e1,e2,e4,cond_true,cond_false],⟨rfl,rfl,by simp only;omega⟩,by simp only;omega,?_⟩
      simp [e3]
  ·obtain ⟨h1,h2⟩:=vE hc (by omega)
   refine .inr ?_
   have e1:((((dec b i).1:Nat):Int) != 88)=true:=by simp;omega
   have e2:(decide ((((dec b i).1:Nat):Int)<48))=false:=by simp;omega
   have e4:(decide ((((dec b i).1:Nat):Int)>57))=true:=by simp;omega
   have e3:okB c=false:=by simp [okB];omega
   simp [e1,e2,e3,e4]
 ·have hb:Nat.blt i b.length=false:=by
   cases h:Nat.blt i b.length with
   | false=>rfl
   | true=>have:i<b.length:=Nat.le_of_ble_eq_true h;omega
  refine .inr ?_
  simp only [ew,hb,cond_false]
  rw [List.drop_eq_nil_of_le hge]
  rfl
theorem gI (n:Nat) (s:List UInt8) (hn:30<=n):fD n s=some (chk s):=by
 unfold fD chk
 by_cases h:18<s.length
 ·have:(decide (((List.length s:Nat):Int)>18))=true:=by simp;omega
  simp [this,h]
 ·have e:(decide (((List.length s:Nat):Int)>18))=false:=by simp;omega
  simp only [e,cond_false,h,if_false]
  rw [nG n s s (by omega)]
  by_cases ha:s.all okB=true
  ·simp only [ha,if_true,ob]
   by_cases hs:s=[]
   ·simp [hs]
   ·have:(s==([]:List UInt8))=false:=by simpa using hs
    simp [this,hs]
  ·simp [ha,ob]
theorem jb {s:List UInt8} (h:chk s=0):s.length<=18/\s≠[]/\∀c∈s,okB c=true:=by
 unfold chk at h
 split at h
 ·simp at h
 ·split at h
  ·rename_i ha
   split at h
   ·simp at h
   ·rename_i hs
    exact ⟨by omega,hs,by simpa using ha⟩
  ·simp at h
def nums (l:List UInt8):List Int:=l.map λb=>((b.toNat:Nat):Int)
def over (d:List Int) (i:Nat) (l:List Int):List Int:=d.take i++(l++d.drop (i+l.length))
theorem qL (d:List Int) (i:Nat) (x:Int) (l:List Int) (h:i<d.length):over (d.set i x) (i+1) l=over d i (x::l):=by
 unfold over
 rw [show (d.set i x).take (i+1)=d.take i++[x] from by
  rw [List.take_succ_eq_append_getElem (by simpa using h)]
  simp [List.take_set_of_le]]
 rw [List.drop_set_of_lt (by omega)]
 simp [Nat.add_assoc,Nat.add_comm 1]
theorem vW (d:List Int) (i:Nat):over d i []=d:=by simp [over]
theorem AR (d:List Int) (i:Nat) (l:List Int) (h:i+l.length<=d.length):(over d i l).length=d.length:=by
 unfold over;simp;omega
theorem A4 {x y:UInt8}:(((x.toNat:Nat):Int)==((y.toNat:Nat):Int))=decide (x=y):=by
 by_cases h:x=y
 ·simp [h]
 ·have:x.toNat≠y.toNat:=λe=>h (UInt8.toNat_inj.1 e)
  simp [h];omega
theorem rK {x:UInt8}:(((x.toNat:Nat):Int)==88)=decide (x=88):=by
 have:=A4 (x:=x) (y:=88)
 simpa using this
def dg:Nat->Int->List Int
 | 0,_=>[]
 | L+1,k=>dg L (k / 10)++[48+k%10]
theorem oP:∀(L:Nat) (k:Int),(dg L k).length=L
 | 0,_=>rfl
 | L+1,k=>by simp [dg,oP L]
theorem mc:∀(L:Nat) (k:Int),∀x∈dg L k,48<=x/\x<58
 | 0,_,x,h=>by simp [dg] at h
 | L+1,k,x,h=>by
  simp only [dg,List.mem_append,List.mem_singleton] at h
  rcases h with h | rfl
  ·exact mc L _ x h
  ·omega
def fg:List UInt8->List Int->Bool
 | c::m,d::l=>(c==88||decide (((c.toNat:Nat):Int)=d))&&fg m l
 | _,_=>true
theorem nl:∀{a c:List UInt8} {b d:List Int},a.length=b.length->fg (a++c) (b++d)=(fg a b&&fg c d)
 | [],c,[],d,_=>by simp [fg]
 | x::a,c,y::b,d,h=>by
  simp only [List.length_cons,Nat.add_right_cancel_iff] at h
  simp only [List.cons_append,fg,nl h,Bool.and_assoc]
def hasM (m:List UInt8) (k:Int):Bool:=decide (0<=k)&&(decide (k<10 ^ m.length)&&fg m (dg m.length k))
theorem A7 (L:Nat) (h:L<=18):jZ 20000000 ((L:Nat):Int)=some (10 ^ L):=by
 have hk:allN (λi=>match jZ 20000000 ((i:Nat):Int) with | some r=>decide (r=10 ^ i) | none=>false) 19=true:=by kernel_rfl
 have:=uo hk L (by omega)
 split at this
 ·rename_i r hr
  rw [hr];simpa using this
 ·cases this
theorem tG (L:Nat) (h:L<=18):(10:Int) ^ L<=1000000000000000000:=by
 have hk:allN (λi=>decide ((10:Int) ^ i<=1000000000000000000)) 19=true:=by kernel_rfl
 simpa using uo hk L (by omega)
theorem EP {k:Int} (h:0<=k):Int.tmod k 10=k%10:=Int.tmod_eq_emod_of_nonneg h
theorem EX {k:Int} (h:0<=k):Int.tdiv k 10=k / 10:=Int.tdiv_eq_ediv_of_nonneg h
theorem wP (k:Int) (i:Nat) (d:List Int) (h0:0<=k) (h1:k<9223372036854775808) (hi:i<=18) (hd:d.length=18):
  ah (eC 20000000) 20000000 (k,(i:Int) - 1,d)=some (over d 0 (dg i k)):=by
 have:=en (step:=eC 20000000) (λx=>(0<=x.1/\x.1<9223372036854775808)/\(-1<=x.2.1/\x.2.1<=17)/\x.2.2.length=18) (λx=>(x.2.1+1).toNat)
  (λx=>over x.2.2 0 (dg (x.2.1+1).toNat x.1)) ?_ 20000000 (k,(i:Int) - 1,d) ⟨⟨h0,h1⟩,⟨by simp only;omega,by simp only;omega⟩,hd⟩ (by simp only;omega)
 ·simpa using this
 rintro ⟨k,i,d⟩ ⟨⟨h0,h1⟩,⟨h2,h3⟩,hd⟩
 simp only at h0 h1 h2 h3 hd ⊢
 by_cases hi:0<=i
 ·obtain ⟨j,rfl⟩:∃j:Nat,i=j:=⟨i.toNat,by omega⟩
  have hj:j<18:=by omega
  have e1:decide ((j:Int)>=0)=true:=by simp
  have e2:Nat.blt j 18=true:=Nat.ble_eq_true_of_le hj
  have w1:IntKind.wrap .i64 ((j:Int) - 1)=(j:Int) - 1:=wrap_i64 _ (by omega) (by omega)
  have w2:IntKind.wrap .i64 (Int.tdiv k 10)=k / 10:=by rw [EX h0];exact wrap_i64 _ (by omega) (by omega)
  have w3:IntKind.wrap .u8 (IntKind.wrap .i64 (48+Int.tmod k 10))=48+k%10:=by rw [EP h0,wrap_i64 _ (by omega) (by omega),dr _ (by omega) (by omega)]
  refine .inl ⟨(k / 10,(j:Int) - 1,d.set j (48+k%10)),by simp only [eC,e1,cond_true,bE hj,ob,e2,w1,w2,w3],⟨⟨by simp only;omega,by simp only;omega⟩,⟨by simp only;omega,by simp only;omega⟩,by simpa using hd⟩,by simp only;omega,?_⟩
  have s1:((j:Int) - 1+1).toNat=j:=by omega
  have s2:((j:Int)+1).toNat=j+1:=by omega
  simp only [s1,s2,over,List.take_zero,List.nil_append,oP,Nat.zero_add,dg,List.append_assoc]
  congr 1
  rw [List.drop_set,if_neg (by omega),Nat.sub_self,List.drop_eq_getElem_cons (by omega)]
  simp only [List.set_cons_zero,List.length_append,oP,List.length_cons,List.length_nil,List.cons_append,List.nil_append,Nat.zero_add]
 ·have e1:decide (i>=0)=false:=by simp;omega
  have s:(i+1).toNat=0:=by omega
  refine .inr ?_
  simp only [eC,e1,cond_false,s,dg,vW]
theorem BD (m:List UInt8) (k:Int) (hm:m.length<=18) (h0:0<=k) (h1:k<9223372036854775808):
  gB 20000000 m k=some (over [0,0,0,0,0,0,0,0,0,0,0,0,0,0,0,0,0,0] 0 (dg m.length k)):=by
 have w:IntKind.wrap .i64 (((List.length m:Nat):Int) - 1)=(m.length:Int) - 1:=wrap_i64 _ (by omega) (by omega)
 simp only [gB,w,wP k m.length [0,0,0,0,0,0,0,0,0,0,0,0,0,0,0,0,0,0] h0 h1 hm (by rfl),ob]
theorem nI {d l:List Int} {i:Nat} (h:i<l.length):(over d 0 l)[i]?=l[i]?:=by
 unfold over
 simp only [List.take_zero,List.nil_append]
 rw [List.getElem?_append_left h]
theorem qB:∀(l:List Int),(∀x∈l,0<=x/\x<256)->nums (ef l)=l
 | [],_=>rfl
 | x::l,h=>by
  have ih:=qB l λy hy=>h y (List.mem_cons_of_mem _ hy)
  obtain ⟨h0,h1⟩:=h x (by simp)
  have e:(((UInt8.ofNat x.toNat).toNat:Nat):Int)=x:=by
   rw [UInt8.toNat_ofNat',Nat.mod_eq_of_lt (by omega)];omega
  simp only [nums,ef,List.map_map] at ih ⊢
  simp only [List.map_cons,Function.comp,e]
  rw [show List.map ((λb:UInt8=>((b.toNat:Nat):Int)) ∘ λn:Int=>UInt8.ofNat n.toNat) l=l from ih]
theorem BK (l:List UInt8):(nums l).length=l.length:=by simp [nums]
def cnt:List UInt8->Nat
 | []=>0
 | c::r=>if c=88 then cnt r+1 else cnt r
def dv (c:UInt8):Int:=((c.toNat:Nat):Int) - 48
def nth:List UInt8->Int->Int
 | [],_=>0
 | c::r,i=>if c=88 then 10*nth r (i / 10)+i%10 else 10*nth r i+dv c
def ag:List UInt8->Int->Bool
 | [],_=>true
 | c::r,k=>ag r (k / 10)&&(decide (c=88)||decide (dv c=k%10))
def idx:List UInt8->Int->Int
 | [],_=>0
 | c::r,k=>if c=88 then 10*idx r (k / 10)+k%10 else idx r (k / 10)
def okR (r:List UInt8):Prop:=∀c∈r,c=88\/(0<=dv c/\dv c<10)
theorem qv {m:List UInt8} (h:∀c∈m,okB c=true):okR m.reverse:=by
 intro c hc
 have:=h c (List.mem_reverse.1 hc)
 simp only [okB,Bool.or_eq_true,beq_iff_eq,Bool.and_eq_true,decide_eq_true_eq] at this
 rcases this with h | h
 ·exact .inl (UInt8.toNat_inj.1 (by simpa using h))
 ·exact .inr (by unfold dv;omega)
theorem lz {c:UInt8} {r:List UInt8} (h:okR (c::r)):okR r:=λx hx=>h x (List.mem_cons_of_mem _ hx)
theorem eB (n:Nat):(10:Int) ^ (n+1)=10*10 ^ n:=by rw [Int.pow_succ,Int.mul_comm]
theorem mq (n:Nat):(0:Int)<10 ^ n:=Int.pow_pos (by omega)
theorem kT:∀{r:List UInt8},okR r->∀i,0<=i->0<=nth r i/\nth r i<10 ^ r.length
 | [],_,i,_=>by simp [nth]
 | c::r,h,i,hi=>by
  simp only [nth,List.length_cons,eB]
  split
  ·have:=kT (lz h) (i / 10) (by omega)
   omega
  ·rename_i hc
   have:=kT (lz h) i hi
   have:=(h c (by simp)).resolve_left hc
   omega
theorem Ai:∀{r:List UInt8},okR r->∀i,0<=i->ag r (nth r i)=true
 | [],_,_,_=>rfl
 | c::r,h,i,hi=>by
  simp only [nth,ag]
  split
  ·rename_i hc
   have e:(10*nth r (i / 10)+i%10) / 10=nth r (i / 10):=by omega
   rw [e,Ai (lz h) (i / 10) (by omega)]
   simp [hc]
  ·rename_i hc
   have hd:=(h c (by simp)).resolve_left hc
   have e:(10*nth r i+dv c) / 10=nth r i:=by omega
   have e2:(10*nth r i+dv c)%10=dv c:=by omega
   rw [e,e2,Ai (lz h) i hi]
   simp
theorem ox:∀(r:List UInt8) (k:Int),0<=k->0<=idx r k/\idx r k<10 ^ cnt r
 | [],k,_=>by simp [idx,cnt]
 | c::r,k,hk=>by
  have:=ox r (k / 10) (by omega)
  simp only [idx,cnt]
  split
  ·rw [eB];omega
  ·exact this
theorem yz:∀{r:List UInt8} {k:Int},0<=k->k<10 ^ r.length->ag r k=true->nth r (idx r k)=k
 | [],k,h0,h1,_=>by simp at h1;simp [nth];omega
 | c::r,k,h0,h1,ha=>by
  simp only [ag,Bool.and_eq_true,Bool.or_eq_true,decide_eq_true_eq] at ha
  rw [List.length_cons,eB] at h1
  have ih:=yz (r:=r) (k:=k / 10) (by omega) (by omega) ha.1
  simp only [nth,idx]
  split
  ·have:=ox r (k / 10) (by omega)
   have e:(10*idx r (k / 10)+k%10) / 10=idx r (k / 10):=by omega
   have e2:(10*idx r (k / 10)+k%10)%10=k%10:=by omega
   rw [e,e2,ih];omega
  ·rename_i hc
   rw [ih]
   have:=ha.2.resolve_left hc
   omega
theorem rq:∀{r:List UInt8},okR r->∀i j,0<=i->i<j->j<10 ^ cnt r->nth r i<nth r j
 | [],_,i,j,h0,h1,h2=>by simp [cnt] at h2;omega
 | c::r,h,i,j,h0,h1,h2=>by
  simp only [nth,cnt] at h2 ⊢
  split
  ·rename_i hc
   rw [if_pos hc,eB] at h2
   by_cases hq:i / 10=j / 10
   ·rw [hq];omega
   ·have:=rq (lz h) (i / 10) (j / 10) (by omega) (by omega) (by omega)
    omega
  ·rename_i hc
   rw [if_neg hc] at h2
   have:=rq (lz h) i j h0 h1 h2
   omega
theorem u0:∀(r:List UInt8),∀k,fg r.reverse (dg r.length k)=ag r k
 | [],k=>rfl
 | c::r,k=>by
  simp only [List.reverse_cons,List.length_cons,dg,ag]
  rw [nl (by rw [List.length_reverse,oP]),u0 r]
  have e1:decide (((c.toNat:Nat):Int)=48+k%10)=decide (dv c=k%10):=decide_eq_decide.2 (by unfold dv;omega)
  have e2:(c==88)=decide (c=88):=by by_cases h:c=88<;>simp [h]
  simp only [fg,Bool.and_true,e1,e2]
theorem uH (m:List UInt8) (k:Int):hasM m k=(decide (0<=k)&&(decide (k<10 ^ m.length)&&ag m.reverse k)):=by
 have:=u0 m.reverse k
 rw [List.reverse_reverse,List.length_reverse] at this
 unfold hasM
 rw [this]
theorem pG:∀(m:List UInt8),cnt m=m.count 88
 | []=>rfl
 | c::m=>by
  simp only [cnt,pG m,List.count_cons]
  by_cases h:c=88<;>simp [h]
theorem l7 (m:List UInt8):cnt m.reverse=cnt m:=by rw [pG,pG,List.count_reverse]
theorem zH:∀(m:List UInt8),cnt m<=m.length
 | []=>by simp [cnt]
 | c::m=>by
  have:=zH m
  simp only [cnt,List.length_cons]
  split<;>omega
def fd (x y:Int):Int:=(if y=88 then x else y) - 48
def fval (x:Int) (l:List Int):Int:=l.foldl (λn y=>10*n+fd x y) 0
theorem rQ (x:Int):∀(l:List Int) (n:Int),l.foldl (λn y=>10*n+fd x y) n=n*10 ^ l.length+fval x l
 | [],n=>by simp [fval]
 | y::l,n=>by
  have e:=rQ x l (10*n+fd x y)
  have e2:=rQ x l (10*0+fd x y)
  simp only [fval,List.foldl_cons,List.length_cons,eB] at e e2 ⊢
  rw [e,e2,Int.add_mul,Int.add_mul]
  have:10*n*10 ^ l.length=n*(10*10 ^ l.length):=by rw [Int.mul_comm 10 n,Int.mul_assoc]
  omega
theorem pD (s:List UInt8) (x:Int) (h18:s.length<=18) (hs:∀c∈s,0<=fd x ((c.toNat:Nat):Int)/\fd x ((c.toNat:Nat):Int)<10):ia 20000000 s x=some (fval x (nums s)):=by
 have hs':∀y∈nums s,0<=fd x y/\fd x y<10:=by
  intro y hy
  obtain ⟨c,hc,rfl⟩:=List.mem_map.1 hy
  exact hs c hc
 have hl:(nums s).length=s.length:=BK s
 have:=en (step:=dP 20000000)
  (λst=>st.1=x/\st.2.2.1=((s.length:Nat):Int)/\st.2.2.2.2=nums s/\(0<=st.2.2.2.1/\st.2.2.2.1<=s.length)/\0<=st.2.1/\st.2.1<10 ^ st.2.2.2.1.toNat) (λst=>s.length - st.2.2.2.1.toNat)
  (λst=>((nums s).drop st.2.2.2.1.toNat).foldl (λn y=>10*n+fd x y) st.2.1) ?_ 20000000 (x,0,((s.length:Nat):Int),0,nums s) ⟨rfl,rfl,rfl,⟨by simp,by simp⟩,by simp,by simp⟩ (by simp;omega)
 ·show (ob (ah (dP 20000000) 20000000 (x,0,((List.length (nums s):Nat):Int),0,nums s)) λy30=>some y30)=_
  rw [hl,this]
  rfl
 rintro ⟨x',n,len,i,l⟩ ⟨q1,q2,q3,⟨h0,hi⟩,n0,n1⟩
 simp only at q1 q2 q3 h0 hi n0 n1 ⊢
 subst q1 q2 q3
 obtain ⟨j,rfl⟩:∃j:Nat,i=j:=⟨i.toNat,by omega⟩
 simp only [Int.toNat_natCast] at n1 ⊢
 rcases Nat.lt_or_ge j s.length with hlt | hge
 ·obtain ⟨y,hy⟩:∃c,(nums s)[j]?=some c:=⟨(nums s)[j]'(by omega),List.getElem?_eq_getElem (by omega)⟩
  obtain ⟨d0,d1⟩:=hs' y (List.mem_of_getElem? hy)
  have hb:(decide ((j:Int)<((s.length:Nat):Int)))=true:=by simp;omega
  have hw:IntKind.wrap .i64 ((j:Int)+1)=((j+1:Nat):Int):=by rw [wrap_i64 _ (by omega) (by omega)];omega
  have hb1:=tG (j+1) (by omega)
  rw [eB] at hb1
  have w1:IntKind.wrap .i64 (10*n)=10*n:=wrap_i64 _ (by omega) (by omega)
  have w2:∀z:Int,0<=z->z<10->IntKind.wrap .i64 (10*n+IntKind.wrap .i64 (IntKind.wrap .u8 z))=10*n+z:=λz z0 z1=>by
   rw [dr z (by omega) (by omega),wrap_i64 z (by omega) (by omega),wrap_i64 _ (by omega) (by omega)]
  rw [gJ hy,List.foldl_cons]
  simp only [dP,hb,cond_true,bE (show j<(nums s).length by omega),ob,hy,hw,w1]
  have next:0<=10*n+fd x' y/\10*n+fd x' y<10 ^ (j+1):=by rw [eB];omega
  by_cases h88:y=88
  ·have e1:(y==88)=true:=by simpa using h88
   have hd:fd x' y=x' - 48:=by simp [fd,h88]
   rw [hd] at d0 d1 next ⊢
   refine .inl ⟨(x',10*n+(x' - 48),((s.length:Nat):Int),((j+1:Nat):Int),nums s),by simp only [e1,cond_true,w2 _ d0 d1],⟨rfl,rfl,rfl,⟨by simp only;omega,by simp only;omega⟩,next.1,by simpa only [Int.toNat_natCast] using next.2⟩,by simp only [Int.toNat_natCast];omega,by simp only [Int.toNat_natCast]⟩
  ·have e1:(y==88)=false:=by simpa using h88
   have hd:fd x' y=y - 48:=by simp [fd,h88]
   rw [hd] at d0 d1 next ⊢
   refine .inl ⟨(x',10*n+(y - 48),((s.length:Nat):Int),((j+1:Nat):Int),nums s),by simp only [e1,cond_false,w2 _ d0 d1],⟨rfl,rfl,rfl,⟨by simp only;omega,by simp only;omega⟩,next.1,by simpa only [Int.toNat_natCast] using next.2⟩,by simp only [Int.toNat_natCast];omega,by simp only [Int.toNat_natCast]⟩
 ·have hb:(decide ((j:Int)<((s.length:Nat):Int)))=false:=by simp;omega
  refine .inr ?_
  simp only [dP,hb,cond_false]
  rw [List.drop_eq_nil_of_le (by omega)];rfl
theorem oQ (x:Int) (l:List Int) (y:Int):fval x (l++[y])=10*fval x l+fd x y:=by simp [fval,List.foldl_append]
theorem sw (r:List UInt8) (c:UInt8):nums ((c::r).reverse)=nums r.reverse++[((c.toNat:Nat):Int)]:=by simp [nums]
theorem uF (x:Int) (c:UInt8):fd x ((c.toNat:Nat):Int)=if c=88 then x - 48 else dv c:=by
 unfold fd dv
 by_cases h:c=88
 ·simp [h]
 ·have:¬((c.toNat:Nat):Int)=88:=λe=>h (UInt8.toNat_inj.1 (by simpa using (by omega:c.toNat=88)))
  rw [if_neg this,if_neg h]
theorem ql:∀(r:List UInt8),fval 48 (nums r.reverse)=nth r 0
 | []=>rfl
 | c::r=>by
  rw [sw,oQ,ql r,uF]
  simp only [nth]
  split<;>simp
theorem mG:∀(r:List UInt8),fval 57 (nums r.reverse)=nth r (10 ^ cnt r - 1)
 | []=>rfl
 | c::r=>by
  have hp:=mq (cnt r)
  rw [sw,oQ,mG r,uF]
  simp only [nth,cnt]
  split
  ·rw [eB]
   have e1:(10*(10:Int) ^ cnt r - 1) / 10=10 ^ cnt r - 1:=by omega
   have e2:(10*(10:Int) ^ cnt r - 1)%10=9:=by omega
   rw [e1,e2];omega
  ·rfl
theorem ED {m:List UInt8} (hok:∀c∈m,okB c=true) {x:Int} (hx:48<=x/\x<58):∀c∈m,0<=fd x ((c.toNat:Nat):Int)/\fd x ((c.toNat:Nat):Int)<10:=by
 intro c hc
 rw [uF]
 have:=qv hok c (List.mem_reverse.2 hc)
 split
 ·omega
 ·rename_i h;exact this.resolve_left h
theorem AI {m:List UInt8} (hm:chk m=0):kb 20000000 m=some (nth m.reverse 0,0):=by
 obtain ⟨h18,_,hok⟩:=jb hm
 have e0:((0:Int) != 0)=false:=by simp
 have:=ql m.reverse
 rw [List.reverse_reverse] at this
 simp only [kb,gI 20000000 m (by omega),hm,ob,e0,cond_false,pD m 48 h18 (ED hok (by omega)),this]
theorem uh {m:List UInt8} (hm:chk m=0):gL 20000000 m=some (nth m.reverse (10 ^ cnt m - 1),0):=by
 obtain ⟨h18,_,hok⟩:=jb hm
 have e0:((0:Int) != 0)=false:=by simp
 have:=mG m.reverse
 rw [List.reverse_reverse,l7] at this
 simp only [gL,gI 20000000 m (by omega),hm,ob,e0,cond_false,pD m 57 h18 (ED hok (by omega)),this]
theorem Az {m:List UInt8} {l:List Int} (z:List Int) (h18:m.length<=18) (hl:l.length=m.length) (hr:∀y∈l,48<=y/\y<58):dn 20000000 m (over z 0 l)=some (fval 0 l):=by
 have ht:List.take m.length (over z 0 l)=l:=by
  unfold over
  rw [List.take_zero,List.nil_append,List.take_append_of_le_length (by omega),List.take_of_length_le (by omega)]
 have hn:nums (ef l)=l:=qB l λy hy=>by have:=hr y hy;omega
 have hb:(ef l).length=m.length:=by simp [ef,hl]
 simp only [dn,dS h18,ob,Nat.zero_add,show Nat.ble m.length 18=true from Nat.ble_eq_true_of_le h18,cond_true,List.drop_zero,ht]
 rw [pD (ef l) 0 (by omega) ?_,hn]
 intro c hc
 have hmem:((c.toNat:Nat):Int)∈l:=by rw [<-hn];exact List.mem_map.2 ⟨c,hc,rfl⟩
 have:=hr _ hmem
 unfold fd
 rw [if_neg (by omega)];omega
theorem wq {m:List UInt8} (hm:chk m=0) {i:Int} (h0:0<=i):hasM m (nth m.reverse i)=true:=by
 obtain ⟨h18,_,hok⟩:=jb hm
 have hr:=kT (qv hok) i h0
 rw [List.length_reverse] at hr
 rw [uH,Ai (qv hok) i h0,decide_eq_true hr.1,decide_eq_true hr.2]
 rfl
def vl:List Int->Int
 | []=>0
 | y::l=>(y - 48)*10 ^ l.length+vl l
def digl (l:List Int):Prop:=∀y∈l,48<=y/\y<58
theorem bI {y:Int} {l:List Int} (h:digl (y::l)):digl l:=λx hx=>h x (List.mem_cons_of_mem _ hx)
theorem nZ:∀{l:List Int},digl l->0<=vl l/\vl l<10 ^ l.length
 | [],_=>by simp [vl]
 | y::l,h=>by
  have ih:=nZ (bI h)
  have hy:=h y (by simp)
  have hp:=mq l.length
  simp only [vl,List.length_cons,eB]
  have a1:0<=(y - 48)*10 ^ l.length:=Int.mul_nonneg (by omega) (by omega)
  have a2:(y - 48)*10 ^ l.length<=9*10 ^ l.length:=Int.mul_le_mul_of_nonneg_right (by omega) (by omega)
  omega
theorem Dk {y z:Int} {a b:List Int} (hl:a.length=b.length) (ha:digl a) (hb:digl b) (h:y<z):vl (y::a)<vl (z::b):=by
 have h1:=nZ ha
 have h2:=nZ hb
 have hp:=mq a.length
 simp only [vl]
 rw [<-hl] at h2 ⊢
 have a2:(y - 48+1)*10 ^ a.length<=(z - 48)*10 ^ a.length:=Int.mul_le_mul_of_nonneg_right (by omega) (by omega)
 rw [Int.add_mul] at a2
 omega
theorem ra:∀{l:List Int},digl l->fval 0 l=vl l
 | [],_=>rfl
 | y::l,h=>by
  have hy:=h y (by simp)
  have e:fval 0 (y::l)=l.foldl (λn y=>10*n+fd 0 y) (10*0+fd 0 y):=rfl
  have e2:fd 0 y=y - 48:=by unfold fd;rw [if_neg (by omega)]
  rw [e,rQ,ra (bI h),e2]
  simp only [vl,Int.mul_zero,Int.zero_add]
theorem yj {l:List Int} {y:Int} (h:digl (l++[y])):vl (l++[y])=10*vl l+(y - 48):=by
 have hy:=h y (by simp)
 have hl:digl l:=λx hx=>h x (by simp [hx])
 rw [<-ra h,<-ra hl,oQ]
 unfold fd;rw [if_neg (by omega)]
theorem Ap:∀(L:Nat) (k:Int),0<=k->k<10 ^ L->vl (dg L k)=k
 | 0,k,h0,h1=>by simp at h1;simp [dg,vl];omega
 | L+1,k,h0,h1=>by
  rw [eB] at h1
  have:=Ap L (k / 10) (by omega) (by omega)
  have hd:=mc (L+1) k
  simp only [dg] at hd ⊢
  rw [yj hd,this];omega
theorem GH {l:List Int} (h:digl l):dg l.length (vl l)=l:=by
 have go:∀(r:List Int),digl r.reverse->dg r.length (vl r.reverse)=r.reverse:=by
  intro r
  induction r with
  | nil=>intro _;rfl
  | cons y r ih=>
   intro h
   simp only [List.reverse_cons,List.length_cons] at h ⊢
   have hy:=h y (by simp)
   rw [yj h]
   simp only [dg]
   have e1:(10*vl r.reverse+(y - 48)) / 10=vl r.reverse:=by omega
   have e2:48+(10*vl r.reverse+(y - 48))%10=y:=by omega
   rw [e1,e2,ih λx hx=>h x (List.mem_append.2 (.inl hx))]
 have:=go l.reverse (by rw [List.reverse_reverse];exact h)
 rwa [List.reverse_reverse,List.length_reverse] at this
def fst (up:Bool):Int:=cond up 48 57
def lst (up:Bool):Int:=cond up 57 48
def stp (up:Bool) (y:Int):Int:=cond up (y+1) (y - 1)
def fil (up:Bool) (m:List UInt8):List Int:=m.map λc=>cond (decide (c=88)) (fst up) ((c.toNat:Nat):Int)
def nx (up:Bool):List UInt8->List Int->Option (List Int)
 | c::m,y::l=>
  if c=88 then
   match nx up m l with
   | some r=>some (y::r)
   | none=>if y=lst up then none else some (stp up y::fil up m)
  else if ((c.toNat:Nat):Int)=y then (nx up m l).map λr=>y::r
  else if decide (((c.toNat:Nat):Int)>y)=up then some (((c.toNat:Nat):Int)::fil up m) else none
 | _,_=>some []
def okM (m:List UInt8):Prop:=∀c∈m,okB c=true
theorem lq {c:UInt8} {m:List UInt8} (h:okM (c::m)):okM m:=λx hx=>h x (List.mem_cons_of_mem _ hx)
theorem vf {c:UInt8} (h:okB c=true) (h88:¬c=88):48<=((c.toNat:Nat):Int)/\((c.toNat:Nat):Int)<58:=by
 simp only [okB,Bool.or_eq_true,beq_iff_eq,Bool.and_eq_true,decide_eq_true_eq] at h
 have:¬c.toNat=88:=λe=>h88 (UInt8.toNat_inj.1 (by simpa using e))
 omega
theorem rG (up:Bool) (m:List UInt8):(fil up m).length=m.length:=by simp [fil]
theorem zq (up:Bool) {m:List UInt8} (h:okM m):digl (fil up m):=by
 intro y hy
 obtain ⟨c,hc,rfl⟩:=List.mem_map.1 hy
 by_cases h88:c=88
 ·simp only [decide_eq_true h88,cond_true]
  cases up<;>simp [fst]
 ·simp only [decide_eq_false h88,cond_false]
  exact vf (h c hc) h88
theorem o6 (up:Bool):∀(m:List UInt8),fg m (fil up m)=true
 | []=>rfl
 | c::m=>by
  have:=o6 up m
  simp only [fil,List.map_cons,fg] at this ⊢
  rw [this]
  by_cases h88:c=88
  ·simp [h88]
  ·simp [h88]
def cJ (up:Bool) (a b:Int):Prop:=match up with | true=>a<=b | false=>b<=a
theorem rt (up:Bool):∀{m:List UInt8} {e:List Int},okM m->m.length=e.length->digl e->fg m e=true->cJ up (vl (fil up m)) (vl e)
 | [],[],_,_,_,_=>by cases up<;>simp [fil,vl,cJ]
 | c::m,y::e,hm,hl,he,ha=>by
  simp only [List.length_cons,Nat.add_right_cancel_iff] at hl
  simp only [fg,Bool.and_eq_true,Bool.or_eq_true,beq_iff_eq,decide_eq_true_eq] at ha
  have ih:=rt up (lq hm) hl (bI he) ha.2
  have hy:=he y (by simp)
  have hfl:=rG up m
  have h1:=zq up (lq hm)
  have same:∀z:Int,vl (z::fil up m)=(z - 48)*10 ^ m.length+vl (fil up m):=λz=>by rw [vl,hfl]
  have hcons:fil up (c::m)=(cond (decide (c=88)) (fst up) ((c.toNat:Nat):Int))::fil up m:=rfl
  rw [hcons]
  by_cases h88:c=88
  ·simp only [decide_eq_true h88,cond_true]
   by_cases hyf:y=fst up
   ·rw [<-hyf,same,vl,<-hl]
    cases up<;>simp only [cJ] at ih ⊢<;>omega
   ·cases up
    ·exact Int.le_of_lt (Dk (by rw [hfl,hl]) (bI he) h1 (by simp [fst] at hyf ⊢;omega))
    ·exact Int.le_of_lt (Dk (by rw [hfl,hl]) h1 (bI he) (by simp [fst] at hyf ⊢;omega))
  ·simp only [decide_eq_false h88,cond_false]
   rw [ha.1.resolve_left h88,same,vl,<-hl]
   cases up<;>simp only [cJ] at ih ⊢<;>omega
 | [],_::_,_,h,_,_=>by simp at h
 | _::_,[],_,h,_,_=>by simp at h
theorem Dd (up:Bool):∀{m:List UInt8} {l:List Int},okM m->m.length=l.length->digl l->
  match nx up m l with
  | some r=>r.length=m.length/\digl r/\fg m r=true/\cJ up (vl l) (vl r)/\∀e,e.length=m.length->digl e->fg m e=true->cJ up (vl l) (vl e)->cJ up (vl r) (vl e)
  | none=>∀e,e.length=m.length->digl e->fg m e=true->¬cJ up (vl l) (vl e)
 | [],[],_,_,_=>by
  simp only [nx]
  refine ⟨rfl,by intro y hy;simp at hy,rfl,by cases up<;>simp [cJ],?_⟩
  intro e h1 _ _ _
  simp only [List.length_nil] at h1
  rw [List.eq_nil_of_length_eq_zero h1]
  cases up<;>simp [cJ]
 | c::m,y::l,hm,hl,hd=>by
  simp only [List.length_cons,Nat.add_right_cancel_iff] at hl
  have ih:=Dd up (lq hm) hl (bI hd)
  have hy:=hd y (by simp)
  have hdl:=bI hd
  have hfl:=rG up m
  have hfd:=zq up (lq hm)
  have hlt:∀{z w:Int} {a b:List Int},a.length=m.length->b.length=m.length->digl a->digl b->z<w->vl (z::a)<vl (w::b):=λh1 h2 h3 h4 h5=>Dk (by rw [h1,h2]) h3 h4 h5
  have hsame:∀(z:Int) {a b:List Int},a.length=m.length->b.length=m.length->(cJ up (vl (z::a)) (vl (z::b))↔cJ up (vl a) (vl b)):=λz a b h1 h2=>by
   simp only [vl,h1,h2]
   cases up<;>simp only [cJ]<;>omega
  have beh:∀{z w:Int} {a b:List Int},a.length=m.length->b.length=m.length->digl a->digl b->z≠w->(cJ up (vl (z::a)) (vl (w::b))↔cJ up z w):=λ{z w a b} h1 h2 h3 h4 h5=>by
   rcases Int.lt_trichotomy z w with h | h | h
   ·have:=hlt h1 h2 h3 h4 h
    cases up<;>simp only [cJ]<;>omega
   ·exact absurd h h5
   ·have:=hlt h2 h1 h4 h3 h
    cases up<;>simp only [cJ]<;>omega
  have cases_e:∀e:List Int,e.length=(c::m).length->∃w a,e=w::a/\a.length=m.length:=λe h=>by
   match e,h with
   | w::a,h=>exact ⟨w,a,rfl,by simpa using h⟩
  by_cases h88:c=88
  ·cases hn:nx up m l with
   | some r=>
    rw [hn] at ih
    obtain ⟨i1,i2,i3,i4,i5⟩:=ih
    simp only [nx,if_pos h88,hn]
    refine ⟨by simp [i1],λz hz=>?_,by simp [fg,h88,i3],(hsame y hl.symm i1).2 i4,λe e1 e2 e3 e4=>?_⟩
    ·rcases List.mem_cons.1 hz with rfl | hz
     ·exact hy
     ·exact i2 z hz
    ·obtain ⟨w,a,rfl,ha⟩:=cases_e e e1
     simp only [fg,h88,beq_self_eq_true,Bool.true_or,Bool.true_and] at e3
     by_cases hw:y=w
     ·subst hw
      exact (hsame y i1 ha).2 (i5 a ha (bI e2) e3 ((hsame y hl.symm ha).1 e4))
     ·exact (beh i1 ha i2 (bI e2) hw).2 ((beh hl.symm ha hdl (bI e2) hw).1 e4)
   | none=>
    rw [hn] at ih
    by_cases hlast:y=lst up
    ·simp only [nx,if_pos h88,hn,if_pos hlast]
     intro e e1 e2 e3 e4
     obtain ⟨w,a,rfl,ha⟩:=cases_e e e1
     simp only [fg,h88,beq_self_eq_true,Bool.true_or,Bool.true_and] at e3
     have hw9:=e2 w (by simp)
     by_cases hw:y=w
     ·subst hw
      exact ih a ha (bI e2) e3 ((hsame y hl.symm ha).1 e4)
     ·have:=(beh hl.symm ha hdl (bI e2) hw).1 e4
      cases up<;>simp only [cJ,lst,cond_true,cond_false] at this hlast<;>omega
    ·simp only [nx,if_pos h88,hn,if_neg hlast]
     have hs:48<=stp up y/\stp up y<58/\y≠stp up y/\cJ up y (stp up y)/\∀w,w≠y->cJ up y w->cJ up (stp up y) w:=by
      cases up<;>simp only [cJ,lst,stp,cond_true,cond_false] at hlast ⊢<;>exact ⟨by omega,by omega,by omega,by omega,λw h1 h2=>by omega⟩
     obtain ⟨s1,s2,s3,s4,s5⟩:=hs
     refine ⟨by simp [hfl],λz hz=>?_,by simp [fg,h88,o6],(beh hl.symm hfl hdl hfd s3).2 s4,λe e1 e2 e3 e4=>?_⟩
     ·rcases List.mem_cons.1 hz with rfl | hz
      ·exact ⟨s1,s2⟩
      ·exact hfd z hz
     ·obtain ⟨w,a,rfl,ha⟩:=cases_e e e1
      simp only [fg,h88,beq_self_eq_true,Bool.true_or,Bool.true_and] at e3
      by_cases hw:y=w
      ·subst hw
       exact absurd ((hsame y hl.symm ha).1 e4) (ih a ha (bI e2) e3)
      ·have h9:=s5 w (λh=>hw h.symm) ((beh hl.symm ha hdl (bI e2) hw).1 e4)
       by_cases hw2:stp up y=w
       ·rw [hw2]
        exact (hsame w hfl ha).2 (rt up (lq hm) ha.symm (bI e2) e3)
       ·exact (beh hfl ha hfd (bI e2) hw2).2 h9
  ·have hcr:=vf (hm c (by simp)) h88
   have hag:∀w a,fg (c::m) (w::a)=true->w=((c.toNat:Nat):Int)/\fg m a=true:=λw a h=>by
    simp only [fg,Bool.and_eq_true,Bool.or_eq_true,beq_iff_eq,decide_eq_true_eq] at h
    exact ⟨(h.1.resolve_left h88).symm,h.2⟩
   by_cases hcy:((c.toNat:Nat):Int)=y
   ·cases hn:nx up m l with
    | some r=>
     rw [hn] at ih
     obtain ⟨i1,i2,i3,i4,i5⟩:=ih
     simp only [nx,if_neg h88,if_pos hcy,hn,Option.map_some]
     refine ⟨by simp [i1],λz hz=>?_,by simp [fg,hcy,i3],(hsame y hl.symm i1).2 i4,λe e1 e2 e3 e4=>?_⟩
     ·rcases List.mem_cons.1 hz with rfl | hz
      ·exact hy
      ·exact i2 z hz
     ·obtain ⟨w,a,rfl,ha⟩:=cases_e e e1
      obtain ⟨rfl,e3'⟩:=hag w a e3
      rw [hcy] at e4 ⊢
      exact (hsame y i1 ha).2 (i5 a ha (bI e2) e3' ((hsame y hl.symm ha).1 e4))
    | none=>
     rw [hn] at ih
     simp only [nx,if_neg h88,if_pos hcy,hn,Option.map_none]
     intro e e1 e2 e3 e4
     obtain ⟨w,a,rfl,ha⟩:=cases_e e e1
     obtain ⟨rfl,e3'⟩:=hag w a e3
     rw [hcy] at e4
     exact ih a ha (bI e2) e3' ((hsame y hl.symm ha).1 e4)
   ·have hdir:decide (((c.toNat:Nat):Int)>y)=up↔cJ up y ((c.toNat:Nat):Int):=by
     cases up
     ·simp only [decide_eq_false_iff_not,cJ];omega
     ·simp only [decide_eq_true_eq,cJ];omega
    by_cases hup:decide (((c.toNat:Nat):Int)>y)=up
    ·simp only [nx,if_neg h88,if_neg hcy,if_pos hup]
     refine ⟨by simp [hfl],λz hz=>?_,by simp [fg,o6],(beh hl.symm hfl hdl hfd (λh=>hcy h.symm)).2 (hdir.1 hup),λe e1 e2 e3 e4=>?_⟩
     ·rcases List.mem_cons.1 hz with rfl | hz
      ·exact hcr
      ·exact hfd z hz
     ·obtain ⟨w,a,rfl,ha⟩:=cases_e e e1
      obtain ⟨rfl,e3'⟩:=hag w a e3
      exact (hsame _ hfl ha).2 (rt up (lq hm) ha.symm (bI e2) e3')
    ·simp only [nx,if_neg h88,if_neg hcy,if_neg hup]
     intro e e1 e2 e3 e4
     obtain ⟨w,a,rfl,ha⟩:=cases_e e e1
     obtain ⟨rfl,e3'⟩:=hag w a e3
     exact hup (hdir.2 ((beh hl.symm ha hdl (bI e2) (λh=>hcy h.symm)).1 e4))
 | [],_::_,_,h,_=>by simp at h
 | _::_,[],_,h,_=>by simp at h
def ap:List UInt8->List Int->Nat
 | c::m,y::l=>if c=88\/((c.toNat:Nat):Int)=y then ap m l+1 else 0
 | _,_=>0
theorem EH:∀(m:List UInt8) (l:List Int),ap m l<=m.length
 | [],_=>by simp [ap]
 | c::m,[]=>by simp [ap]
 | c::m,y::l=>by
  have:=EH m l
  simp only [ap,List.length_cons]
  split<;>omega
theorem yQ:∀(m:List UInt8) (l:List Int),fg (m.take (ap m l)) (l.take (ap m l))=true
 | [],_=>by simp [ap,fg]
 | c::m,[]=>by simp [ap,fg]
 | c::m,y::l=>by
  have:=yQ m l
  simp only [ap]
  split
  ·rename_i h
   simp only [List.take_succ_cons,fg,this,Bool.and_true,Bool.or_eq_true,beq_iff_eq,decide_eq_true_eq]
   exact h
  ·rfl
theorem z7:∀{m:List UInt8} {l:List Int} {c:UInt8} {y:Int},m[ap m l]?=some c->l[ap m l]?=some y->¬c=88/\¬((c.toNat:Nat):Int)=y
 | [],_,c,y,h,_=>by simp at h
 | x::m,[],c,y,_,h=>by simp at h
 | x::m,z::l,c,y,h1,h2=>by
  by_cases h:x=88\/((x.toNat:Nat):Int)=z
  ·simp only [ap,if_pos h,List.getElem?_cons_succ] at h1 h2
   exact z7 h1 h2
  ·simp only [ap,if_neg h,List.getElem?_cons_zero,Option.some.injEq] at h1 h2
   subst h1 h2
   exact ⟨λe=>h (.inl e),λe=>h (.inr e)⟩
def bkn (up:Bool):List UInt8->List Int->List UInt8->Option (List Int)
 | c::m,y::d,m'=>
  match bkn up m d m' with
  | some r=>some (y::r)
  | none=>if c=88/\y≠lst up then some (stp up y::fil up (m++m')) else none
 | _,_,_=>none
theorem so (up:Bool):∀{m m':List UInt8} {d d':List Int},m.length=d.length->fg m d=true->
  nx up (m++m') (d++d')=match nx up m' d' with | some r=>some (d++r) | none=>bkn up m d m'
 | [],m',[],d',_,_=>by
  simp only [List.nil_append]
  cases nx up m' d'<;>rfl
 | c::m,m',y::d,d',hl,ha=>by
  simp only [List.length_cons,Nat.add_right_cancel_iff] at hl
  simp only [fg,Bool.and_eq_true,Bool.or_eq_true,beq_iff_eq,decide_eq_true_eq] at ha
  have ih:=so up (m':=m') (d':=d') hl ha.2
  simp only [List.cons_append,nx,ih,bkn]
  by_cases h88:c=88
  ·simp only [if_pos h88]
   cases nx up m' d' with
   | some r=>rfl
   | none=>
    cases bkn up m d m' with
    | some r=>rfl
    | none=>
     by_cases hy:y=lst up
     ·simp [hy]
     ·simp [hy,h88]
  ·simp only [if_neg h88,if_pos (ha.1.resolve_left h88)]
   cases nx up m' d' with
   | some r=>rfl
   | none=>
    cases bkn up m d m' with
    | some r=>rfl
    | none=>simp [h88]
 | [],_,_::_,_,h,_=>by simp at h
 | _::_,_,[],_,h,_=>by simp at h
theorem vc (up:Bool) (c:UInt8) (y:Int):∀{m m':List UInt8} {d:List Int},m.length=d.length->
  bkn up (m++[c]) (d++[y]) m'=if c=88/\y≠lst up then some (d++stp up y::fil up m') else bkn up m d (c::m')
 | [],m',[],_=>by simp [bkn]
 | x::m,m',z::d,hl=>by
  simp only [List.length_cons,Nat.add_right_cancel_iff] at hl
  have ih:=vc up c y (m':=m') hl
  simp only [List.cons_append,bkn,ih]
  by_cases h:c=88/\y≠lst up
  ·simp only [if_pos h]
  ·simp only [if_neg h,List.append_assoc,List.cons_append,List.nil_append]
 | [],_,_::_,h=>by simp at h
 | _::_,_,[],h=>by simp at h
def bki (up:Bool) (m:List UInt8) (l:List Int):Nat->Option Nat
 | 0=>none
 | j+1=>if m[j]?=some 88/\l[j]?≠some (lst up) then some j else bki up m l j
theorem Ct (up:Bool) (m:List UInt8) (l:List Int):∀{j a:Nat},bki up m l j=some a->a<j
 | 0,a,h=>by simp [bki] at h
 | j+1,a,h=>by
  simp only [bki] at h
  split at h
  ·simp only [Option.some.injEq] at h;omega
  ·have:=Ct up m l h;omega
theorem vD (up:Bool) (m:List UInt8) (l:List Int) (hl:m.length=l.length):∀j,j<=m.length->
  bkn up (m.take j) (l.take j) (m.drop j)=(bki up m l j).map λa=>l.take a++stp up (l.getD a 0)::fil up (m.drop (a+1))
 | 0,_=>by simp [bkn,bki]
 | j+1,h=>by
  obtain ⟨c,hc⟩:∃c,m[j]?=some c:=⟨m[j]'(by omega),List.getElem?_eq_getElem (by omega)⟩
  obtain ⟨y,hy⟩:∃c,l[j]?=some c:=⟨l[j]'(by omega),List.getElem?_eq_getElem (by omega)⟩
  have ih:=vD up m l hl j (by omega)
  rw [gJ hc] at ih
  rw [List.take_add_one,List.take_add_one,hc,hy]
  simp only [Option.toList_some]
  rw [vc up c y (by simp;omega),ih]
  have hg:l.getD j 0=y:=by rw [List.getD_eq_getElem?_getD,hy];rfl
  simp only [bki,hc,hy,ne_eq,Option.some.injEq]
  by_cases hh:c=88/\¬y=lst up
  ·rw [if_pos hh,if_pos hh,Option.map_some,hg]
  ·rw [if_neg hh,if_neg hh]
section
variable {m:List UInt8} {l z:List Int}
theorem gW (hl:m.length=l.length) (h18:m.length<=18) (k f g:Int) (up:Bool):
  ah (cV 20000000) 20000000 (m,k,up,f,g,0,over z 0 l,over z 0 l)=some (m,k,up,f,g,((ap m l:Nat):Int),over z 0 l,over z 0 l):=by
 have:=en (step:=cV 20000000) (λx=>x.1=m/\(0<=x.2.2.2.2.2.1/\x.2.2.2.2.2.1<=m.length)/\x.2.2.2.2.2.2.1=over z 0 l) (λx=>m.length - x.2.2.2.2.2.1.toNat)
  (λx=>(x.1,x.2.1,x.2.2.1,x.2.2.2.1,x.2.2.2.2.1,x.2.2.2.2.2.1+((ap (m.drop x.2.2.2.2.2.1.toNat) (l.drop x.2.2.2.2.2.1.toNat):Nat):Int),x.2.2.2.2.2.2.1,x.2.2.2.2.2.2.2)) ?_ 20000000 (m,k,up,f,g,0,over z 0 l,over z 0 l) ⟨rfl,⟨by simp,by simp⟩,rfl⟩ (by simp;omega)
 ·simpa using this
 rintro ⟨m',k,up,f,g,i,d,o⟩ ⟨q1,⟨h0,hi⟩,q2⟩
 simp only at q1 h0 hi q2 ⊢
 subst q1 q2
 obtain ⟨j,rfl⟩:∃j:Nat,i=j:=⟨i.toNat,by omega⟩
 simp only [Int.toNat_natCast]
 rcases Nat.lt_or_ge j m'.length with hlt | hge
 ·obtain ⟨c,hc⟩:∃c,m'[j]?=some c:=⟨m'[j],List.getElem?_eq_getElem hlt⟩
  obtain ⟨y,hy⟩:∃c,l[j]?=some c:=⟨l[j]'(by omega),List.getElem?_eq_getElem (by omega)⟩
  have hg:(over z 0 l)[j]?=some y:=by rw [nI (by omega)];exact hy
  have hb:(decide ((j:Int)<((List.length m':Nat):Int)))=true:=by simp;omega
  have hw:IntKind.wrap .i64 ((j:Int)+1)=((j+1:Nat):Int):=by rw [wrap_i64 _ (by omega) (by omega)];omega
  rw [gJ hc,gJ hy]
  simp only [cV,hb,cond_true,ip hc,ob,rK,hw,bE (show j<18 by omega),hg,ap]
  by_cases h88:c=88
  ·refine .inl ⟨(m',k,up,f,g,((j+1:Nat):Int),over z 0 l,o),by simp only [decide_eq_true h88,cond_true],⟨rfl,⟨by simp only;omega,by simp only;omega⟩,rfl⟩,by simp only [Int.toNat_natCast];omega,?_⟩
   simp only [Int.toNat_natCast,if_pos (show c=88\/((c.toNat:Nat):Int)=y from .inl h88)]
   congr 6;omega
  ·simp only [decide_eq_false h88,cond_false]
   by_cases hcy:((c.toNat:Nat):Int)=y
   ·have e:(((c.toNat:Nat):Int)==y)=true:=by simpa using hcy
    refine .inl ⟨(m',k,up,f,g,((j+1:Nat):Int),over z 0 l,o),by simp only [e,cond_true],⟨rfl,⟨by simp only;omega,by simp only;omega⟩,rfl⟩,by simp only [Int.toNat_natCast];omega,?_⟩
    simp only [Int.toNat_natCast,if_pos (show c=88\/((c.toNat:Nat):Int)=y from .inr hcy)]
    congr 6;omega
   ·have e:(((c.toNat:Nat):Int)==y)=false:=by simpa using hcy
    refine .inr ?_
    simp only [e,cond_false,if_neg (show ¬(c=88\/((c.toNat:Nat):Int)=y) from λh=>h.elim h88 hcy),Int.ofNat_zero,Int.add_zero,Int.natCast_zero]
 ·have hb:(decide ((j:Int)<((List.length m':Nat):Int)))=false:=by simp;omega
  refine .inr ?_
  simp only [cV,hb,cond_false]
  rw [List.drop_eq_nil_of_le hge]
  simp [ap]
theorem y4 (hl:m.length=l.length) (h18:m.length<=18) (f:Int) (up:Bool) (o:List Int) (i:Nat) (hi:i<=m.length):
  ah (bn 20000000) 20000000 (m,up,f,lst up,(i:Int),over z 0 l,o) =
   some (match bki up m l i with | none=>.inl (0,16) | some a=>.inr (m,up,f,((a:Nat):Int),o)):=by
 have:=en (step:=bn 20000000) (λx=>x.1=m/\x.2.2.2.1=lst up/\(0<=x.2.2.2.2.1/\x.2.2.2.2.1<=m.length)/\x.2.2.2.2.2.1=over z 0 l) (λx=>x.2.2.2.2.1.toNat)
  (λx=>match bki up m l x.2.2.2.2.1.toNat with | none=>.inl (0,16) | some a=>.inr (x.1,x.2.1,x.2.2.1,((a:Nat):Int),x.2.2.2.2.2.2)) ?_ 20000000 (m,up,f,lst up,(i:Int),over z 0 l,o) ⟨rfl,rfl,⟨by simp only;omega,by simp only;omega⟩,rfl⟩ (by simp;omega)
 ·simpa using this
 rintro ⟨m',up',f,g,i,d,o⟩ ⟨q1,q3,⟨h0,hi⟩,q2⟩
 simp only at q1 q3 h0 hi q2 ⊢
 subst q1 q2 q3
 obtain ⟨j,rfl⟩:∃j:Nat,i=j:=⟨i.toNat,by omega⟩
 simp only [Int.toNat_natCast]
 rcases j with _ | j
 ·refine .inr ?_
  have w:IntKind.wrap .i64 (((0:Nat):Int) - 1)=-1:=wrap_i64 _ (by omega) (by omega)
  simp only [bn,w,show decide ((-1:Int)<0)=true from rfl,cond_true,bki]
 ·have w:IntKind.wrap .i64 (((j+1:Nat):Int) - 1)=(j:Int):=by rw [wrap_i64 _ (by omega) (by omega)];omega
  have e0:decide ((j:Int)<0)=false:=by simp
  obtain ⟨c,hc⟩:∃c,m'[j]?=some c:=⟨m'[j]'(by omega),List.getElem?_eq_getElem (by omega)⟩
  obtain ⟨y,hy⟩:∃c,l[j]?=some c:=⟨l[j]'(by omega),List.getElem?_eq_getElem (by omega)⟩
  have hg:(over z 0 l)[j]?=some y:=by rw [nI (by omega)];exact hy
  simp only [bn,w,e0,cond_false,ip hc,ob,rK,bE (show j<18 by omega),hg,bki,hc,hy,Option.some.injEq,ne_eq]
  by_cases h88:c=88
  ·by_cases hy9:y=lst up
   ·have e:(y != lst up)=false:=by simpa using hy9
    refine .inl ⟨(m',up',f,lst up,(j:Int),over z 0 l,o),by simp only [decide_eq_true h88,cond_true,e,cond_false],⟨rfl,rfl,⟨by simp only;omega,by simp only;omega⟩,rfl⟩,by simp only [Int.toNat_natCast];omega,?_⟩
    simp only [Int.toNat_natCast,if_neg (show ¬(c=88/\¬y=lst up) from λh=>h.2 hy9)]
   ·have e:(y != lst up)=true:=by simpa using hy9
    refine .inr ?_
    simp only [decide_eq_true h88,cond_true,e,if_pos (show c=88/\¬y=lst up from ⟨h88,hy9⟩)]
  ·refine .inl ⟨(m',up',f,lst up,(j:Int),over z 0 l,o),by simp only [decide_eq_false h88,cond_false],⟨rfl,rfl,⟨by simp only;omega,by simp only;omega⟩,rfl⟩,by simp only [Int.toNat_natCast];omega,?_⟩
   simp only [Int.toNat_natCast,if_neg (show ¬(c=88/\¬y=lst up) from λh=>h88 h.1)]
theorem sR (h18:m.length<=18) (up:Bool) (d:List Int) (hd:d.length=18) (i:Nat) (hi:i<=m.length):
  ah (aI 20000000) 20000000 (m,fst up,(i:Int),d)=some (m,over d i (fil up (m.drop i))):=by
 have:=en (step:=aI 20000000) (λx=>x.1=m/\x.2.1=fst up/\(0<=x.2.2.1/\x.2.2.1<=m.length)/\x.2.2.2.length=18) (λx=>m.length - x.2.2.1.toNat)
  (λx=>(m,over x.2.2.2 x.2.2.1.toNat (fil up (m.drop x.2.2.1.toNat)))) ?_ 20000000 (m,fst up,(i:Int),d) ⟨rfl,rfl,⟨by simp only;omega,by simp only;omega⟩,hd⟩ (by simp;omega)
 ·simpa using this
 rintro ⟨m',f,i,d⟩ ⟨q1,q3,⟨h0,hi⟩,hd⟩
 simp only at q1 q3 h0 hi hd ⊢
 subst q1 q3
 obtain ⟨j,rfl⟩:∃j:Nat,i=j:=⟨i.toNat,by omega⟩
 simp only [Int.toNat_natCast]
 rcases Nat.lt_or_ge j m'.length with hlt | hge
 ·obtain ⟨c,hc⟩:∃c,m'[j]?=some c:=⟨m'[j],List.getElem?_eq_getElem hlt⟩
  have hj:j<18:=by omega
  have hb:(decide ((j:Int)<((List.length m':Nat):Int)))=true:=by simp;omega
  have hw:IntKind.wrap .i64 ((j:Int)+1)=((j+1:Nat):Int):=by rw [wrap_i64 _ (by omega) (by omega)];omega
  have e2:Nat.blt j 18=true:=Nat.ble_eq_true_of_le hj
  have hcons:∀c:UInt8,fil up (c::m'.drop (j+1))=(cond (decide (c=88)) (fst up) ((c.toNat:Nat):Int))::fil up (m'.drop (j+1)):=λ_=>rfl
  rw [gJ hc,hcons]
  simp only [aI,hb,cond_true,ip hc,ob,rK,bE hj,e2,hw]
  by_cases h88:c=88
  ·refine .inl ⟨(m',fst up,((j+1:Nat):Int),(d.set j ((c.toNat:Nat):Int)).set j (fst up)),by simp only [decide_eq_true h88,cond_true],⟨rfl,rfl,⟨by simp only;omega,by simp only;omega⟩,by simpa using hd⟩,by simp only [Int.toNat_natCast];omega,?_⟩
   simp only [Int.toNat_natCast,decide_eq_true h88,cond_true]
   rw [List.set_set,qL _ _ _ _ (by omega)]
  ·refine .inl ⟨(m',fst up,((j+1:Nat):Int),d.set j ((c.toNat:Nat):Int)),by simp only [decide_eq_false h88,cond_false],⟨rfl,rfl,⟨by simp only;omega,by simp only;omega⟩,by simpa using hd⟩,by simp only [Int.toNat_natCast];omega,?_⟩
   simp only [Int.toNat_natCast,decide_eq_false h88,cond_false]
   rw [qL _ _ _ _ (by omega)]
 ·have hb:(decide ((j:Int)<((List.length m':Nat):Int)))=false:=by simp;omega
  refine .inr ?_
  simp only [aI,hb,cond_false]
  rw [List.drop_eq_nil_of_le hge]
  simp [fil,vW]
theorem ts (z l F:List Int) (i:Nat) (h:i+F.length=l.length):over (over z 0 l) i F=over z 0 (l.take i++F):=by
 unfold over
 simp only [List.take_zero,List.nil_append,Nat.zero_add,List.length_append,List.length_take,Nat.min_eq_left (show i<=l.length by omega),h]
 rw [List.take_append_of_le_length (by omega),List.drop_append_of_le_length (by omega),List.drop_of_length_le (Nat.le_refl l.length)]
 simp
end
theorem xN {m:List UInt8} (hm:chk m=0) (up:Bool) (k:Int) (h0:0<=k) (h1:k<10 ^ m.length):
  bN 20000000 m k up=some (match nx up m (dg m.length k) with | some r=>(vl r,0) | none=>(0,16)):=by
 obtain ⟨h18,_,hok⟩:=jb hm
 have hp:=tG m.length h18
 have hlen:=oP m.length k
 have hrng:=mc m.length k
 have hv:=Ap m.length k h0 h1
 have hn:=Dd up hok hlen.symm hrng
 have hsplit:=BD m k h18 h0 (by omega)
 generalize dg m.length k=l at hlen hrng hv hn hsplit ⊢
 have hout:(over [0,0,0,0,0,0,0,0,0,0,0,0,0,0,0,0,0,0] 0 l).length=18:=by rw [AR _ _ _ (by simp;omega)];rfl
 have fin:∀r:List Int,nx up m l=some r->dn 20000000 m (over [0,0,0,0,0,0,0,0,0,0,0,0,0,0,0,0,0,0] 0 r)=some (vl r):=by
  intro r hr
  rw [hr] at hn
  obtain ⟨i1,i2,_⟩:=hn
  rw [Az _ h18 i1 i2,ra i2]
 have hap:=EH m l
 have hagr:=yQ m l
 have happ:=so up (m:=m.take (ap m l)) (m':=m.drop (ap m l)) (d:=l.take (ap m l)) (d':=l.drop (ap m l)) (by simp;omega) hagr
 rw [List.take_append_drop,List.take_append_drop] at happ
 have hz0:gB 20000000 m k=some (over [0,0,0,0,0,0,0,0,0,0,0,0,0,0,0,0,0,0] 0 l):=hsplit
 generalize hzz:([0,0,0,0,0,0,0,0,0,0,0,0,0,0,0,0,0,0]:List Int)=z at hout fin hz0
 rcases Nat.lt_or_ge (ap m l) m.length with hlt | hge
 ·obtain ⟨c,hc⟩:∃c,m[ap m l]?=some c:=⟨m[ap m l],List.getElem?_eq_getElem hlt⟩
  obtain ⟨y,hy⟩:∃c,l[ap m l]?=some c:=⟨l[ap m l]'(by omega),List.getElem?_eq_getElem (by omega)⟩
  obtain ⟨h88,hcy⟩:=z7 hc hy
  have hg:(over z 0 l)[ap m l]?=some y:=by rw [nI (by omega)];exact hy
  have eL:(((ap m l:Nat):Int)==((List.length m:Nat):Int))=false:=by simp;omega
  have hj:ap m l<18:=by omega
  have hfc:fil up (m.drop (ap m l))=((c.toNat:Nat):Int)::fil up (m.drop (ap m l+1)):=by
   rw [gJ hc];simp [fil,h88]
  have hbk:=vD up m l hlen.symm (ap m l) hap
  have hnx:nx up (m.drop (ap m l)) (l.drop (ap m l))=if decide (((c.toNat:Nat):Int)>y)=up then some (fil up (m.drop (ap m l))) else none:=by
   rw [hfc,gJ hc,gJ hy]
   simp only [nx,if_neg h88,if_neg hcy]
  rw [hnx] at happ
  by_cases hup:decide (((c.toNat:Nat):Int)>y)=up
  ·rw [if_pos hup] at happ
   simp only at happ
   have f2:=fin _ happ
   rw [happ]
   simp only []
   rw [<-ts z l _ _ (by rw [rG,List.length_drop];omega)] at f2
   have l2:=sR h18 up _ hout (ap m l) hap
   cases up
   ·have l0:=gW (z:=z) hlen.symm h18 k 57 48 false
    have l2':ah (aI 20000000) 20000000 (m,57,((ap m l:Nat):Int),over z 0 l)=_:=l2
    simp only [bN,Bool.not_false,cond_true,hz0,ob,l0,eL,cond_false,ip hc,bE hj,hg,hup,beq_self_eq_true,Bool.not_true,l2',f2]
   ·have l0:=gW (z:=z) hlen.symm h18 k 48 57 true
    have l2':ah (aI 20000000) 20000000 (m,48,((ap m l:Nat):Int),over z 0 l)=_:=l2
    simp only [bN,Bool.not_true,cond_true,hz0,ob,l0,eL,cond_false,ip hc,bE hj,hg,hup,beq_self_eq_true,l2',f2]
  ·rw [if_neg hup] at happ
   simp only [hbk] at happ
   have hne:(!(decide (((c.toNat:Nat):Int)>y)==up))=true:=by
    cases up<;>cases hh:decide (((c.toNat:Nat):Int)>y)<;>simp_all
   have l1:=y4 (z:=z) hlen.symm h18 (fst up) up (over z 0 l) (ap m l) hap
   cases hb:bki up m l (ap m l) with
   | none=>
    rw [hb] at happ l1
    simp only [Option.map_none] at happ
    rw [happ]
    simp only [] at l1 ⊢
    cases up
    ·have l0:=gW (z:=z) hlen.symm h18 k 57 48 false
     have l1':ah (bn 20000000) 20000000 (m,false,57,48,((ap m l:Nat):Int),over z 0 l,over z 0 l)=_:=l1
     simp only [bN,Bool.not_false,cond_true,hz0,ob,l0,eL,cond_false,ip hc,bE hj,hg,hne,l1']
    ·have l0:=gW (z:=z) hlen.symm h18 k 48 57 true
     have l1':ah (bn 20000000) 20000000 (m,true,48,57,((ap m l:Nat):Int),over z 0 l,over z 0 l)=_:=l1
     simp only [bN,Bool.not_true,cond_true,hz0,ob,l0,eL,cond_false,ip hc,bE hj,hg,hne,l1']
   | some a=>
    have ha:=Ct up m l hb
    obtain ⟨w,hw⟩:∃c,l[a]?=some c:=⟨l[a]'(by omega),List.getElem?_eq_getElem (by omega)⟩
    have hga:(over z 0 l)[a]?=some w:=by rw [nI (by omega)];exact hw
    have hgd:l.getD a 0=w:=by rw [List.getD_eq_getElem?_getD,hw];rfl
    have hwr:=hrng w (List.mem_of_getElem? hw)
    have haj:a<18:=by omega
    have e2:Nat.blt a 18=true:=Nat.ble_eq_true_of_le haj
    have w1:IntKind.wrap .i64 ((a:Int)+1)=((a+1:Nat):Int):=by rw [wrap_i64 _ (by omega) (by omega)];omega
    rw [hb] at happ l1
    simp only [Option.map_some,hgd] at happ
    have f2:=fin _ happ
    rw [happ]
    simp only [] at l1 ⊢
    rw [<-ts z l _ _ (by rw [List.length_cons,rG,List.length_drop];omega),<-qL _ _ _ _ (by omega)] at f2
    have l2:=sR h18 up ((over z 0 l).set a (stp up w)) (by simpa using hout) (a+1) (by omega)
    cases up
    ·have l0:=gW (z:=z) hlen.symm h18 k 57 48 false
     have l1':ah (bn 20000000) 20000000 (m,false,57,48,((ap m l:Nat):Int),over z 0 l,over z 0 l)=some (.inr (m,false,57,((a:Nat):Int),over z 0 l)):=l1
     have l2':ah (aI 20000000) 20000000 (m,57,((a+1:Nat):Int),(over z 0 l).set a (w - 1))=_:=l2
     have w2:IntKind.wrap .u8 (w - 1)=w - 1:=dr _ (by omega) (by omega)
     simp only [bN,Bool.not_false,cond_true,hz0,ob,l0,eL,cond_false,ip hc,bE hj,hg,hne,l1',bE haj,hga,e2,w1,w2,l2',f2]
    ·have l0:=gW (z:=z) hlen.symm h18 k 48 57 true
     have l1':ah (bn 20000000) 20000000 (m,true,48,57,((ap m l:Nat):Int),over z 0 l,over z 0 l)=some (.inr (m,true,48,((a:Nat):Int),over z 0 l)):=l1
     have l2':ah (aI 20000000) 20000000 (m,48,((a+1:Nat):Int),(over z 0 l).set a (w+1))=_:=l2
     have w2:IntKind.wrap .u8 (w+1)=w+1:=dr _ (by omega) (by omega)
     simp only [bN,Bool.not_true,cond_true,hz0,ob,l0,eL,cond_false,ip hc,bE hj,hg,hne,l1',bE haj,hga,e2,w1,w2,l2',f2]
 ·have e:ap m l=m.length:=by omega
  rw [e,List.drop_length,<-hlen,List.drop_length,List.take_length] at happ
  simp only [nx,List.append_nil] at happ
  have eL:(((ap m l:Nat):Int)==((List.length m:Nat):Int))=true:=by rw [e];simp
  rw [happ]
  simp only [hv]
  cases up
  ·have l0:=gW (z:=z) hlen.symm h18 k 57 48 false
   simp only [bN,Bool.not_false,cond_true,hz0,ob,l0,eL]
  ·have l0:=gW (z:=z) hlen.symm h18 k 48 57 true
   simp only [bN,Bool.not_true,cond_false,hz0,ob,l0,eL,cond_true]
def near (up:Bool) (m:List UInt8) (k:Int):Option Int->Prop
 | some R=>hasM m R=true/\cJ up k R/\∀e,hasM m e=true->cJ up k e->cJ up R e
 | none=>∀e,hasM m e=true->¬cJ up k e
def res (o:Option Int):Int×Int:=match o with | some r=>(r,0) | none=>(0,16)
theorem jt {m:List UInt8} {e:Int} (h:hasM m e=true):(dg m.length e).length=m.length/\digl (dg m.length e)/\fg m (dg m.length e)=true/\vl (dg m.length e)=e/\0<=e/\e<10 ^ m.length:=by
 unfold hasM at h
 simp only [Bool.and_eq_true,decide_eq_true_eq] at h
 exact ⟨oP _ _,mc _ _,h.2.2,Ap _ _ h.1 h.2.1,h.1,h.2.1⟩
theorem Ds {m:List UInt8} {r:List Int} (h1:r.length=m.length) (h2:digl r) (h3:fg m r=true):hasM m (vl r)=true:=by
 have hr:=nZ h2
 have hd:=GH h2
 rw [h1] at hr hd
 unfold hasM
 rw [hd,h3,decide_eq_true hr.1,decide_eq_true hr.2];rfl
theorem oL {m:List UInt8} (hm:chk m=0) (up:Bool) (k:Int) (h0:0<=k) (h1:k<10 ^ m.length):∃o,bN 20000000 m k up=some (res o)/\near up m k o:=by
 obtain ⟨h18,_,hok⟩:=jb hm
 have hn:=Dd up hok (oP m.length k).symm (mc m.length k)
 have hv:=Ap m.length k h0 h1
 refine ⟨(nx up m (dg m.length k)).map vl,?_,?_⟩
 ·rw [xN hm up k h0 h1]
  cases nx up m (dg m.length k)<;>rfl
 ·cases hx:nx up m (dg m.length k) with
  | none=>
   rw [hx] at hn
   intro e he ha
   obtain ⟨e1,e2,e3,e4,_⟩:=jt he
   exact hn _ e1 e2 e3 (by rw [hv,e4];exact ha)
  | some r=>
   rw [hx] at hn
   obtain ⟨i1,i2,i3,i4,i5⟩:=hn
   refine ⟨Ds i1 i2 i3,by rw [hv] at i4;exact i4,λe he ha=>?_⟩
   obtain ⟨e1,e2,e3,e4,_⟩:=jt he
   have:=i5 _ e1 e2 e3 (by rw [hv,e4];exact ha)
   rwa [e4] at this
theorem wD {m:List UInt8} {e:Int} (h:hasM m e=true):0<=idx m.reverse e/\idx m.reverse e<10 ^ cnt m/\nth m.reverse (idx m.reverse e)=e:=by
 rw [uH] at h
 simp only [Bool.and_eq_true,decide_eq_true_eq] at h
 obtain ⟨k0,k1,k2⟩:=h
 have:=ox m.reverse e k0
 rw [l7] at this
 exact ⟨this.1,this.2,yz k0 (by rw [List.length_reverse];exact k1) k2⟩
section
variable {m:List UInt8} (hm:chk m=0)
include hm
theorem Al {i j:Int} (h0:0<=i) (h1:i<=j) (h2:j<10 ^ cnt m):nth m.reverse i<=nth m.reverse j:=by
 obtain ⟨h18,_,hok⟩:=jb hm
 rcases Int.lt_or_eq_of_le h1 with h | rfl
 ·exact Int.le_of_lt (rq (qv hok) i j h0 h (by rw [l7];exact h2))
 ·exact Int.le_refl _
theorem tP (k:Int):gP 20000000 m k=some (decide (0<=k/\k<10 ^ m.length)):=by
 obtain ⟨h18,_,hok⟩:=jb hm
 simp only [gP,A7 m.length h18,ob]
 by_cases h0:0<=k
 ·have d0:decide (k>=0)=true:=by simpa using h0
  simp only [d0,cond_true,h0,true_and,decide_true]
 ·have d0:decide (k>=0)=false:=by simpa using h0
  simp only [d0,cond_false,h0,false_and,decide_false]
theorem zF (k:Int):∃o,lx 20000000 m k=some (res o)/\near true m k o:=by
 obtain ⟨h18,_,hok⟩:=jb hm
 have e0:((0:Int) != 0)=false:=by simp
 simp only [lx,gI 20000000 m (by omega),hm,il,e0,cond_false,tP hm]
 by_cases h0:k<0
 ·refine ⟨some (nth m.reverse 0),by simp only [decide_eq_true h0,cond_true,AI hm,il,res],wq hm (by omega),?_,λe he ha=>?_⟩
  ·have:=(kT (qv hok) 0 (by omega)).1
   simp only [cJ];omega
  ·obtain ⟨i0,i1,i2⟩:=wD he
   have:=Al hm (Int.le_refl 0) i0 i1
   simp only [cJ];omega
 ·by_cases h1:k<10 ^ m.length
  ·obtain ⟨o,h2,h3⟩:=oL hm true k (by omega) h1
   exact ⟨o,by simp only [decide_eq_false h0,cond_false,decide_eq_true (show 0<=k/\k<10 ^ m.length from ⟨by omega,h1⟩),Bool.not_true,h2,il],h3⟩
  ·refine ⟨none,by simp only [decide_eq_false h0,cond_false,decide_eq_false (show ¬(0<=k/\k<10 ^ m.length) from λh=>h1 h.2),Bool.not_false,cond_true,res],λe he ha=>?_⟩
   obtain ⟨_,_,_,_,_,i⟩:=jt he
   simp only [cJ] at ha;omega
theorem xK (k:Int):∃o,ll 20000000 m k=some (res o)/\near false m k o:=by
 obtain ⟨h18,_,hok⟩:=jb hm
 have e0:((0:Int) != 0)=false:=by simp
 simp only [ll,gI 20000000 m (by omega),hm,il,e0,cond_false,tP hm]
 by_cases h0:k<0
 ·refine ⟨none,by simp only [decide_eq_true h0,cond_true,res],λe he ha=>?_⟩
  obtain ⟨_,_,_,_,i,_⟩:=jt he
  simp only [cJ] at ha;omega
 ·by_cases h1:k<10 ^ m.length
  ·obtain ⟨o,h2,h3⟩:=oL hm false k (by omega) h1
   exact ⟨o,by simp only [decide_eq_false h0,cond_false,decide_eq_true (show 0<=k/\k<10 ^ m.length from ⟨by omega,h1⟩),Bool.not_true,h2,il],h3⟩
  ·have hp0:=mq (cnt m)
   refine ⟨some (nth m.reverse (10 ^ cnt m - 1)),by simp only [decide_eq_false h0,cond_false,decide_eq_false (show ¬(0<=k/\k<10 ^ m.length) from λh=>h1 h.2),Bool.not_false,cond_true,uh hm,il,res],wq hm (by omega),?_,λe he ha=>?_⟩
   ·have:=(kT (qv hok) (10 ^ cnt m - 1) (by omega)).2
    rw [List.length_reverse] at this
    simp only [cJ];omega
   ·obtain ⟨i0,i1,i2⟩:=wD he
    have:=Al hm i0 (show idx m.reverse e<=10 ^ cnt m - 1 by omega) (by omega)
    simp only [cJ];omega
end
end Go.Sh.Mk
namespace Go.Sh
open Go.Abs
def fitN (s:List UInt8) (g:Nat):List Nat:=(List.range' 1 g).filter (agr s)
def mn (l:List Nat):List Int:=l.map λk:Nat=>(k:Int)
theorem th (l:List Nat):(mn l).length=l.length:=by simp [mn]
theorem sF (c:UInt8) {j:Nat} (hj:j<10):(IntKind.wrap .i64 (IntKind.wrap .u8 (((c.toNat:Nat):Int) - 48))==((j:Nat):Int))=(c==UInt8.ofNat (48+j)):=by
 have hc:=c.toNat_lt
 have hu:=qT (((c.toNat:Nat):Int) - 48)
 rw [wrap_i64 _ (by omega) (by omega),wJ,Bool.eq_iff_iff,beq_iff_eq,beq_iff_eq]
 have hn:(UInt8.ofNat (48+j)).toNat=48+j:=by simp;omega
 constructor
 ·intro h
  apply UInt8.toNat_inj.1
  omega
 ·rintro rfl
  omega
theorem yu (n:Nat) (a b:UInt8) {k:Nat} (h2:k<=31):fX n [a,b] (k:Int)=some (agr [a,b] k):=by
 have e1:IntKind.wrap .i64 (Int.tdiv (k:Int) 10)=((k / 10:Nat):Int):=by
  rw [show Int.tdiv (k:Int) 10=((k / 10:Nat):Int) from rfl,wrap_i64 _ (by omega) (by omega)]
 have e2:Int.tmod (k:Int) 10=((k%10:Nat):Int):=rfl
 have s0:sx [a,b] 0=some a:=rfl
 have s1:sx [a,b] 1=some b:=rfl
 have x88:(88:Int)=((88:Nat):Int):=rfl
 unfold fX
 simp only [s0,s1,ob,e1,e2]
 rw [sF a (show k / 10<10 by omega),sF b (show k%10<10 by omega),x88,nq (by omega),nq (by omega)]
 show _=some ((a==UInt8.ofNat 88||a==UInt8.ofNat (48+k / 10))&&(b==UInt8.ofNat 88||b==UInt8.ofNat (48+k%10)))
 generalize (a==UInt8.ofNat 88)=p1
 generalize (b==UInt8.ofNat 88)=p2
 generalize (a==UInt8.ofNat (48+k / 10))=p3
 generalize (b==UInt8.ofNat (48+k%10))=p4
 cases p1<;>cases p2<;>cases p3<;>cases p4<;>rfl
theorem room {k:Nat} (h:k<=60000000):Nat.ble (k+1) bc=true:=Nat.ble_eq_true_of_le (by unfold bc;omega)
theorem wd {X Y:Type} {step:X->Option (X⊕Y)} {f:Nat->List Int->X} {y:List Int->Y} {p:Nat->Bool} {g:Nat} (hg:g<=1000)
  (h:∀i out,i<g->out.length<=1000->step (f i out)=some (.inl (f (i+1) (if p (i+1) then out++[((i+1:Nat):Int)] else out))))
  (he:∀out,step (f g out)=some (.inr (y out))) {N:Nat} (hN:g<N):ah step N (f 0 [])=some (y (mn ((List.range' 1 g).filter p))):=by
 have go:∀(r i:Nat) (out:List Int),i+r=g->out.length<=i->∀N,r<N->ah step N (f i out)=some (y (out++mn ((List.range' (i+1) r).filter p))):=by
  intro r
  induction r with
  | zero=>
   intro i out hi ho N hN
   obtain ⟨N,rfl⟩:∃q,N=q+1:=⟨N - 1,by omega⟩
   obtain rfl:i=g:=by omega
   rw [ah,he]
   simp [mn]
  | succ r ih=>
   intro i out hi ho N hN
   obtain ⟨N,rfl⟩:∃q,N=q+1:=⟨N - 1,by omega⟩
   rw [ah,h i out (by omega) (by omega)]
   show ah step N _=_
   by_cases hp:p (i+1)=true
   ·rw [if_pos hp,ih (i+1) _ (by omega) (by simp;omega) N (by omega),List.range'_succ,List.filter_cons_of_pos hp]
    simp [mn]
   ·rw [if_neg hp,ih (i+1) _ (by omega) (by omega) N (by omega),List.range'_succ,List.filter_cons_of_neg hp]
 have:=go g 0 [] (by omega) (by simp) N hN
 simpa using this
theorem yM (n:Nat) (hn:100<n) (a b:UInt8) {g:Nat} (hg:g<=31):cG n [a,b] (g:Int)=some (mn (fitN [a,b] g)):=by
 unfold cG
 have:=wd (step:=da n) (f:=λi out=>([a,b],(g:Int),(i:Int),out)) (y:=λl=>l) (p:=agr [a,b]) (g:=g) (by omega)
  (λi out hi ho=>by
   have w1:IntKind.wrap .i64 ((i:Int)+1)=((i+1:Nat):Int):=by rw [wrap_i64 _ (by omega) (by omega)];omega
   unfold da
   simp only [w1]
   rw [decide_eq_true (show (i:Int)<(g:Int) by omega),yu n a b (by omega),room (by omega)]
   by_cases hp:agr [a,b] (i+1)=true
   ·rw [if_pos hp];simp only [ob,hp,cond_true]
   ·rw [if_neg hp]
    rw [Bool.not_eq_true] at hp
    simp only [ob,hp,cond_true,cond_false])
  (λout=>by
   unfold da
   simp only [decide_eq_false (show ¬(g:Int)<(g:Int) by omega),cond_false])
  (N:=n) (by omega)
 have h0:ah (da n) n ([a,b],(g:Int),0,([]:List Int))=_:=this
 rw [h0]
 rfl
def monI (m:List UInt8):List Int:=if m=[] then [0] else if 0<sea m then [sea m] else mn (fitN m 12)
def dayI (d:List UInt8):List Int:=if d=[] then [0] else mn (fitN d 31)
theorem cY {l:List UInt8} (h:l≠[]):(l==([]:List UInt8))=false:=beq_eq_false_iff_ne.2 h
theorem len2 {s:List UInt8} (h:s.length=2):∃a b,s=[a,b]:=by
 match s,h with
 | [a,b],_=>exact ⟨a,b,rfl⟩
theorem F9 (n:Nat) (hn:100<n) (g l:Bool) (dg:List UInt8) (x q:Int) (m d:List UInt8) (k0 k1 k2:Int) (hm:m=[]\/m.length=2) (hd:d=[]\/d.length=2):
  ki n g l dg x q m d k0 k1 k2=some (g,l,dg,x,q,m,d,k0,k1,k2,monI m,dayI d):=by
 have hml:m.length<=18:=by rcases hm with h | h;(rw [h];simp);omega
 have hD:d≠[]->cG n d 31=some (dayI d):=λh=>by
  obtain ⟨a,b,rfl⟩:=len2 (hd.resolve_left h)
  rw [show (31:Int)=((31:Nat):Int) from rfl,yM n hn a b (by omega)]
  unfold dayI
  rw [if_neg h]
 have hD0:d=[]->dayI d=[0]:=λh=>by unfold dayI;rw [if_pos h]
 have hM:m≠[]->¬0<sea m->cG n m 12=some (monI m):=λh hs=>by
  obtain ⟨a,b,rfl⟩:=len2 (hm.resolve_left h)
  rw [show (12:Int)=((12:Nat):Int) from rfl,yM n hn a b (by omega)]
  unfold monI
  rw [if_neg h,if_neg hs]
 unfold ki
 rw [mm n g l dg x q m d k0 k1 k2 hml]
 simp only [ob]
 by_cases hs:0<sea m
 ·have h0:m≠[]:=by rintro rfl;exact absurd hs (by decide)
  have hm':monI m=[sea m]:=by unfold monI;rw [if_neg h0,if_pos hs]
  rw [decide_eq_true hs]
  by_cases h:d=[]
  ·rw [h,<-h,hD0 h,hm',h];rfl
  ·rw [cY h,hD h,hm'];rfl
 ·rw [decide_eq_false hs]
  by_cases h0:m=[]
  ·have hm':monI m=[0]:=by unfold monI;rw [if_pos h0]
   by_cases h:d=[]
   ·rw [hD0 h,hm',h,h0];rfl
   ·rw [cY h,hD h,hm',h0];rfl
  ·rw [cY h0,hM h0 hs]
   by_cases h:d=[]
   ·rw [hD0 h,h];rfl
   ·rw [cY h,hD h];rfl
theorem xa (n:Nat) (hn:100<n) (g l:Bool) (dg:List UInt8) (x q:Int) (m d:List UInt8) (k0 k1 k2:Int):fe n g l dg x q m d k0 k1 k2=some (monI m):=by
 unfold fe
 by_cases h0:m=[]
 ·unfold monI
  rw [if_pos h0,h0];rfl
 ·rw [cY h0,gz n hn]
  simp only [ob,cond_false]
  unfold monI
  rw [if_neg h0]
  by_cases hs:0<sea m
  ·rw [if_pos hs,decide_eq_true (show sea m>0 from hs)];rfl
  ·rw [if_neg hs,decide_eq_false (show ¬sea m>0 from hs)]
   have:=wd (step:=bV n) (f:=λi out=>(((i+1:Nat):Int),g,l,dg,x,q,m,d,k0,k1,k2,out)) (y:=λl=>l) (p:=agr m) (g:=12) (by omega)
    (λi out hi ho=>by
     have w1:IntKind.wrap .i64 (((i+1:Nat):Int)+1)=((i+1+1:Nat):Int):=by rw [wrap_i64 _ (by omega) (by omega)];omega
     unfold bV
     simp only [d4,d8,w1]
     rw [decide_eq_true (show ((i+1:Nat):Int)<=12 by omega),mX n m (i+1) (by omega),room (by omega)]
     by_cases hp:agr m (i+1)=true
     ·rw [if_pos hp,if_pos hp];rfl
     ·rw [if_neg hp,if_neg hp];rfl)
    (λout=>by
     unfold bV
     simp only [d4,d8,decide_eq_false (show ¬((12+1:Nat):Int)<=12 by omega),cond_false])
    (N:=n) (by omega)
   have h1:ah (bV n) n (1,g,l,dg,x,q,m,d,k0,k1,k2,([]:List Int))=_:=this
   rw [h1]
   rfl
def lT (y:Int):Bool:=decide (y%4=0)&&(decide (y%100≠0)||decide (y%400=0))
def lenI (y m:Int):Int:=if m=4\/m=6\/m=9\/m=11 then 30 else if m=2 then (if lT y then 29 else 28) else 31
theorem yy (y:Int) {b:Int} (hb:0<b):(Int.tmod y b==0)=decide (y%b=0):=by
 rw [Bool.eq_iff_iff,beq_iff_eq,decide_eq_true_iff]
 have h:=Int.tmod_eq_emod (a:=y) (b:=b)
 have h1:=Int.emod_nonneg y (show b≠0 by omega)
 have h2:=Int.emod_lt_of_pos y hb
 by_cases hc:0<=y\/b∣y
 ·rw [if_pos hc] at h;omega
 ·rw [if_neg hc] at h
  have hd:¬b∣y:=λe=>hc (.inr e)
  have:y%b≠0:=λe=>hd (Int.dvd_of_emod_eq_zero e)
  omega
theorem qI (n:Nat) (y m:Int):ci n y m=some (lenI y m):=by
 have e100:(Int.tmod y 100 != 0)=decide (y%100≠0):=by
  rw [bne,yy y (by omega)]
  by_cases h:y%100=0<;>simp [h]
 unfold ci
 rw [yy y (by omega),yy y (by omega),e100]
 have body:(cond (m==2) (cond (decide (y%4=0)) (cond (decide (y%100≠0)) (some (29:Int)) (cond (decide (y%400=0)) (some 29) (some 28))) (some 28)) (some 31))=some (if m=2 then (if lT y=true then 29 else 28) else 31):=by
  rw [ff]
  by_cases h2:m=2
  ·rw [if_pos h2,if_pos h2]
   unfold lT
   cases decide (y%4=0)<;>cases decide (y%100≠0)<;>cases decide (y%400=0)<;>rfl
  ·rw [if_neg h2,if_neg h2]
 rw [body]
 unfold lenI
 by_cases h4:m=4
 ·subst h4;rfl
 ·by_cases h6:m=6
  ·subst h6;rfl
  ·by_cases h9:m=9
   ·subst h9;rfl
   ·by_cases h11:m=11
    ·subst h11;rfl
    ·rw [beq_eq_false_iff_ne.2 h4,beq_eq_false_iff_ne.2 h6,beq_eq_false_iff_ne.2 h9,beq_eq_false_iff_ne.2 h11,if_neg (show ¬(m=4\/m=6\/m=9\/m=11) by omega)]
     rfl
theorem oJ (n:Nat) {y:Int} (h:-20000000000000000<=y/\y<=20000000000000000):cP n y=some (1+(y - 1) / 4 - (y - 1) / 100+(y - 1) / 400):=by
 unfold cP
 rw [wrap_i64 (y - 1) (by omega) (by omega),oM n (by omega) (by omega) (by omega) (by omega),oM n (by omega) (by omega) (by omega) (by omega),oM n (by omega) (by omega) (by omega) (by omega)]
 show some _=some _
 have h4:-5000000000000001<=(y - 1) / 4/\(y - 1) / 4<=5000000000000001:=by omega
 have h100:-5000000000000001<=(y - 1) / 100/\(y - 1) / 100<=5000000000000001:=by omega
 have h400:-5000000000000001<=(y - 1) / 400/\(y - 1) / 400<=5000000000000001:=by omega
 generalize (y - 1) / 4=a at *
 generalize (y - 1) / 100=b at *
 generalize (y - 1) / 400=c at *
 simp only []
 rw [wrap_i64 (1*a) (by omega) (by omega),wrap_i64 (-1*b) (by omega) (by omega),wrap_i64 (1*c) (by omega) (by omega),wrap_i64 (1+1*a) (by omega) (by omega),wrap_i64 (1+1*a+-1*b) (by omega) (by omega),wrap_i64 _ (by omega) (by omega)]
 congr 1
 omega
theorem BQ (y:Int):(1+y / 4 - y / 100+y / 400>1+(y - 1) / 4 - (y - 1) / 100+(y - 1) / 400)↔lT y=true:=by
 unfold lT
 simp only [Bool.and_eq_true,Bool.or_eq_true,decide_eq_true_eq]
 omega
theorem Dh (n:Nat) {y:Int} (h:bY y):fN n y=some (lT y,0):=by
 unfold fN
 have h':=h
 unfold bY at h'
 rw [dw,if_pos h,wrap_i64 (y+1) (by omega) (by omega),oJ n (by omega),oJ n (by omega),show y+1 - 1=y by omega]
 have hl:=BQ y
 show some (decide (1+y / 4 - y / 100+y / 400>1+(y - 1) / 4 - (y - 1) / 100+(y - 1) / 400),(0:Int))=_
 by_cases hb:lT y=true
 ·rw [hb,decide_eq_true (hl.2 hb)]
 ·rw [Bool.not_eq_true] at hb
  rw [hb,decide_eq_false (λe=>by rw [hl.1 e] at hb;cases hb)]
theorem o8 (n:Nat) {y:Int} (h:bY y) {m:Nat} (h1:1<=m) (h2:m<=12):ch n y (m:Int)=some (lenI y (m:Int)):=by
 unfold ch
 rw [Dh n h]
 show cond (lT y&&((m:Int)==2)) _ _=_
 have hix:IntKind.wrap .i64 ((m:Int) - 1)=((m - 1:Nat):Int):=by rw [wrap_i64 _ (by omega) (by omega)];omega
 rw [hix,bE (show m - 1<12 by omega)]
 have hm:m=1\/m=2\/m=3\/m=4\/m=5\/m=6\/m=7\/m=8\/m=9\/m=10\/m=11\/m=12:=by omega
 rcases hm with rfl | rfl | rfl | rfl | rfl | rfl | rfl | rfl | rfl | rfl | rfl | rfl<;>unfold lenI<;>cases lT y<;>rfl
theorem zy (n:Nat) {y:Int} (h:bY y) {m:Nat} (h1:1<=m) (h2:m<=12):jD n y (m:Int)=some (lenI y (m:Int),0):=by
 unfold jD
 rw [vJ n h h1 h2,o8 n h h1 h2]
 rfl
theorem fa (y m:Int):28<=lenI y m/\lenI y m<=31:=by
 unfold lenI
 split
 ·omega
 ·split
  ·split<;>omega
  ·omega
end Go.Sh
