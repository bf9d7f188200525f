/- Plain proofs, kept as far as they are needed here (printed by prune.py).
   Conditions: none. -/
import Derived.Test.YtplhepcdmkbioaaGreatDoorAbsX
import Derived.Laws.RangeString
import Derived.Laws.RangeAny
import Derived.Test.YtplhepcdmkbioaaGreatDoorShB
import Derived.Lib.Atoi
import Derived.KernelRfl
import Derived.Lib.IndexLaws
set_option linter.unusedVariables false
set_option linter.unusedSimpArgs false
set_option maxRecDepth 100000
namespace Go.Sh
open Go.Abs
theorem dt {X Y:Type} {step:X->Option (X⊕Y)} (I:X->Prop) (μ:X->Nat) (G:X->Y)
  (h:∀x,I x->(∃x',step x=some (.inl x')/\I x'/\μ x'<μ x/\G x'=G x)\/step x=some (.inr (G x))):
  ∀(n:Nat) (x:X),I x->μ x<n->ah step n x=some (G x)
 | 0,x,_,hm=>by omega
 | n+1,x,hx,hm=>by
  rcases h x hx with ⟨x',h1,h2,h3,h4⟩ | h1
  ·simp only [ah,h1]
   rw [dt I μ G h n x' h2 (by omega),h4]
  ·simp only [ah,h1]
theorem jv {X Y:Type} {step:X->Option (X⊕Y)} (I:X->Prop) (μ:X->Nat) (Q:Y->Prop)
  (h:∀x,I x->(∃x',step x=some (.inl x')/\I x'/\μ x'<μ x)\/∃y,step x=some (.inr y)/\Q y):
  ∀(n:Nat) (x:X),I x->μ x<n->∃y,ah step n x=some y/\Q y
 | 0,x,_,hm=>by omega
 | n+1,x,hx,hm=>by
  rcases h x hx with ⟨x',h1,h2,h3⟩ | ⟨y,h1,h2⟩
  ·simp only [ah,h1]
   exact jv I μ Q h n x' h2 (by omega)
  ·exact ⟨y,by simp only [ah,h1],h2⟩
theorem se (x:Int):0<=IntKind.wrap .u8 x/\IntKind.wrap .u8 x<256:=by
 show 0<=x%256/\x%256<256
 omega
theorem dN (x:Int) (h0:0<=x) (h1:x<256):IntKind.wrap .u8 x=x:=by
 show x%256=x
 omega
theorem wv (x:Int):IntKind.wrap .u8 x=x%256:=rfl
theorem wrap_i64 (x:Int) (h0:-9223372036854775808<=x) (h1:x<9223372036854775808):IntKind.wrap .i64 x=x:=by
 simp only [IntKind.wrap,IntKind.signed,IntKind.bits]
 simp
 omega
theorem cn {l:List UInt8} {i:Nat} {c:UInt8} (h:l[i]?=some c):sx l (i:Int)=some c:=by
 simp [sx,h]
theorem di {n i:Nat} (h:i<n):ix n (i:Int)=some i:=by
 simp [ix];omega
theorem bY {n i:Nat} (h:i<=n):bx n (i:Int)=some i:=by
 simp [bx];omega
theorem uh {l:List UInt8} {i:Nat} {c:UInt8} (h:l[i]?=some c) (hc:c.toNat<128):dec l i=(c.toNat,1):=by
 have hlt:i<l.length:=by
  rcases Nat.lt_or_ge i l.length with h' | h'
  ·exact h'
  ·rw [List.getElem?_eq_none h'] at h;cases h
 have hs:i<(ByteArray.mk l.toArray).size:=hlt
 have hg:(ByteArray.mk l.toArray)[i]'hs=c:=by
  rw [List.getElem?_eq_getElem hlt] at h
  simp only [Option.some.injEq] at h
  exact h
 unfold dec
 rw [decode_ascii _ i hs (by rw [hg];exact hc),hg]
theorem v8 {l:List UInt8} {i:Nat} {c:UInt8} (h:l[i]?=some c) (hc:128<=c.toNat):128<=(dec l i).1/\1<=(dec l i).2:=by
 have hlt:i<l.length:=by
  rcases Nat.lt_or_ge i l.length with h' | h'
  ·exact h'
  ·rw [List.getElem?_eq_none h'] at h;cases h
 have hs:i<(ByteArray.mk l.toArray).size:=hlt
 have hg:(ByteArray.mk l.toArray)[i]'hs=c:=by
  rw [List.getElem?_eq_getElem hlt] at h
  simp only [Option.some.injEq] at h
  exact h
 unfold dec
 exact decode_high _ i hs (by rw [hg];exact hc)
theorem mj {α:Type} {l:List α} {i:Nat} {c:α} (h:l[i]?=some c):i<l.length:=by
 rcases Nat.lt_or_ge i l.length with h' | h'
 ·exact h'
 ·rw [List.getElem?_eq_none h'] at h;cases h
theorem aY {α:Type} {l:List α} {i:Nat} {c:α} (h:l[i]?=some c):l.drop i=c::l.drop (i+1):=by
 have hlt:=mj h
 rw [List.getElem?_eq_getElem hlt] at h
 simp only [Option.some.injEq] at h
 rw [<-h,List.drop_eq_getElem_cons hlt]
theorem eW {α β:Type} [BEq α] [LawfulBEq α] [DecidableEq α] (a b:α) (x y:β):(cond (a==b) x y)=if a=b then x else y:=by
 by_cases h:a=b
 ·subst h;simp
 ·rw [beq_eq_false_iff_ne.2 h];simp [h]
theorem n6 {α β:Type} [BEq α] [LawfulBEq α] [DecidableEq α] (a b:α) (x y:β):(cond (a != b) x y)=if a=b then y else x:=by
 by_cases h:a=b
 ·subst h;simp
 ·rw [bne,beq_eq_false_iff_ne.2 h];simp [h]
theorem aX {β:Type} (p:Prop) [Decidable p] (x y:β):(cond (decide p) x y)=if p then x else y:=by
 by_cases h:p<;>simp [h]
theorem uX {β:Type} (b:Bool) (x y:β):(cond (!b) x y)=cond b y x:=by cases b<;>rfl
theorem ee (a b:Nat):(decide (((a:Nat):Int)<((b:Nat):Int)))=decide (a<b):=by
 by_cases h:a<b<;>simp [h]
theorem gQ (a b:Nat):(decide (((a:Nat):Int)>=((b:Nat):Int)))=decide (b<=a):=by
 by_cases h:b<=a<;>simp [h]
theorem ky (c d:UInt8):((((c.toNat:Nat):Int))==((d.toNat:Nat):Int))=(c==d):=by
 by_cases h:c=d
 ·subst h;simp
 ·have h1:c.toNat≠d.toNat:=λe=>h (UInt8.toNat_inj.1 e)
  have h2:((c.toNat:Nat):Int)≠((d.toNat:Nat):Int):=by omega
  rw [beq_eq_false_iff_ne.2 h2,beq_eq_false_iff_ne.2 h]
theorem Gz (c:UInt8):UInt8.ofNat (Int.toNat ((c.toNat:Nat):Int))=c:=by simp
def two (c:Nat):List UInt8:=[UInt8.ofNat (48+c / 10),UInt8.ofNat (48+c%10)]
def sea (m:List UInt8):Int:=match (List.range 21).find? (λj=>m==two (21+j)) with | some j=>((21+j:Nat):Int) | none=>0
theorem o9 {j:Nat} (hj:j<21):sea (two (21+j))=((21+j:Nat):Int):=by
 have:((List.range 21).all λj=>sea (two (21+j))==((21+j:Nat):Int))=true:=by decide +kernel
 simpa using (List.all_eq_true.1 this) j (by simpa using hj)
theorem kS (m:List UInt8):sea m=0\/∃j,j<21/\m=two (21+j):=by
 unfold sea
 split
 ·rename_i j h
  have h1:=List.find?_some h
  have h2:=List.mem_of_find?_eq_some h
  exact .inr ⟨j,by simpa using h2,by simpa using h1⟩
 ·exact .inl rfl
theorem jQ {b:UInt8} {d:Nat} (h:Lib.digitVal b=some d):d<10/\b.toNat=48+d:=by
 unfold Lib.digitVal at h
 split at h
 ·cases h;omega
 ·cases h
theorem Bg {a b:UInt8} {v:Int} (h:Lib.atoi [a,b]=some v) (h1:21<=v) (h2:v<42):∃j,j<21/\[a,b]=two (21+j)/\v=((21+j:Nat):Int):=by
 obtain ⟨b0,r,e,h3⟩:=Lib.atoi_cases h
 cases e
 rcases h3 with ⟨_,m,_,_,h4⟩ | ⟨_,m,_,h5,h4⟩ | ⟨_,_,m,h5,h4⟩
 ·omega
 ·simp only [Lib.decFrom] at h5
  split at h5
  ·rename_i d hd
   have:=(jQ hd).1
   simp only [Option.some.injEq] at h5
   omega
  ·cases h5
 ·simp only [Lib.decFrom] at h5
  split at h5
  ·rename_i d hd
   split at h5
   ·rename_i d' hd'
    obtain ⟨k1,k2⟩:=jQ hd
    obtain ⟨k3,k4⟩:=jQ hd'
    simp only [Option.some.injEq] at h5
    refine ⟨m - 21,by omega,?_,by omega⟩
    have e0:(21+(m - 21)) / 10=d:=by omega
    have e1:(21+(m - 21))%10=d':=by omega
    unfold two
    rw [e0,e1,<-k2,<-k4]
    simp
   ·cases h5
  ·cases h5
theorem uy {j:Nat} (hj:j<21):Lib.atoi (two (21+j))=some ((21+j:Nat):Int):=by
 have:((List.range 21).all λj=>Lib.atoi (two (21+j))==some ((21+j:Nat):Int))=true:=by decide +kernel
 simpa using (List.all_eq_true.1 this) j (by simpa using hj)
theorem px (n:Nat) (g l:Bool) (dg:List UInt8) (x q:Int) (m d:List UInt8) (k0 k1 k2:Int) (hm:m.length<=18):bn n g l dg x q m d k0 k1 k2=some (sea m,decide (0<sea m)):=by
 have hb:Nat.ble m.length 18=true:=Nat.ble_eq_true_of_le hm
 rcases kS m with h0 | ⟨j,hj,rfl⟩
 ·unfold bn
  rw [hb,h0]
  show opt (Lib.atoi m) _ _=_
  cases ha:Lib.atoi m with
  | none=>rfl
  | some v=>
   show cond _ _ _=_
   by_cases hl:m.length=2
   ·rw [hl]
    obtain ⟨a,b,rfl⟩:∃a b,m=[a,b]:=by
     match m,hl with
     | [a,b],_=>exact ⟨a,b,rfl⟩
    show ob (cr n v) _=_
    unfold cr
    rw [aX,aX]
    split
    ·rfl
    ·split
     ·rfl
     ·exfalso
      obtain ⟨j,hj,e,_⟩:=Bg ha (by omega) (by omega)
      rw [e,o9 hj] at h0
      omega
   ·rw [show (((m.length:Nat):Int) != 2)=true by simp;omega]
    rfl
 ·rw [o9 hj]
  have e:bn n g l dg x q (two (21+j)) d k0 k1 k2=some (((21+j:Nat):Int),true):=by
   unfold bn
   rw [hb,uy hj]
   show ob (cr n ((21+j:Nat):Int)) _=_
   unfold cr
   rw [aX,aX,if_neg (by omega),if_neg (by omega)]
   rfl
  rw [e]
  have:decide (0<((21+j:Nat):Int))=true:=by simp;omega
  rw [this]
theorem zr (n:Nat) {c:Nat} (hc:c<100):av n (c:Int)=some (two c):=by
 have e1:Int.tdiv (c:Int) 10=((c / 10:Nat):Int):=by
  rw [show (10:Int)=((10:Nat):Int) from rfl,<-Int.ofNat_tdiv]
 have e2:Int.tmod (c:Int) 10=((c%10:Nat):Int):=by
  rw [show (10:Int)=((10:Nat):Int) from rfl,<-Int.ofNat_tmod]
 have h1:c / 10<10:=by omega
 have h2:c%10<10:=by omega
 unfold av
 rw [e1,e2]
 have w1:IntKind.wrap .i64 ((c / 10:Nat):Int)=((c / 10:Nat):Int):=wrap_i64 _ (by omega) (by omega)
 have w2:IntKind.wrap .i64 (((c / 10:Nat):Int)+1)=((c / 10+1:Nat):Int):=by rw [wrap_i64 _ (by omega) (by omega)];omega
 have w3:IntKind.wrap .i64 (((c%10:Nat):Int)+1)=((c%10+1:Nat):Int):=by rw [wrap_i64 _ (by omega) (by omega)];omega
 rw [w1,w2,w3,bY (by omega),bY (by omega)]
 show ob (bx (c / 10+1) ((c / 10:Nat):Int)) _=_
 rw [bY (by omega)]
 show ob (bx (c%10+1) ((c%10:Nat):Int)) _=_
 rw [bY (by omega)]
 unfold two
 generalize c / 10=a at *
 generalize c%10=b at *
 have:((List.range 10).all λa=>(List.range 10).all λb=>ob (cat (List.drop a (List.take (a+1) ([48,49,50,51,52,53,54,55,56,57]:List UInt8))) (List.drop b (List.take (b+1) ([48,49,50,51,52,53,54,55,56,57]:List UInt8)))) (λs=>some s)==some [UInt8.ofNat (48+a),UInt8.ofNat (48+b)])=true:=by decide +kernel
 have h3:=(List.all_eq_true.1 ((List.all_eq_true.1 this) a (by simpa using h1))) b (by simpa using h2)
 simpa using h3
theorem Ae {m:List UInt8} (h:∀j,j<21->m≠two (21+j)):sea m=0:=by
 rcases kS m with h0 | ⟨j,hj,e⟩
 ·exact h0
 ·exact absurd e (h j hj)
theorem ph (n:Nat) (g l:Bool) (dg:List UInt8) (x q:Int) (m d:List UInt8) (k0 k1 k2:Int):∀(r j:Nat),j+r=21->(∀i,i<j->m≠two (21+i))->∀N,r<N->
  ah (aK n) N (((21+j:Nat):Int),g,l,dg,x,q,m,d,k0,k1,k2)=some (if sea m=0 then .inr () else .inl (sea m)):=by
 intro r
 induction r with
 | zero=>
  intro j hj hne N hN
  obtain ⟨N,rfl⟩:∃k,N=k+1:=⟨N - 1,by omega⟩
  have hs:sea m=0:=Ae (λi hi=>hne i (by omega))
  rw [ah]
  have:aK n (((21+j:Nat):Int),g,l,dg,x,q,m,d,k0,k1,k2)=some (.inr (.inr ())):=by
   unfold aK
   rw [aX,if_neg (by show ¬(((21+j:Nat):Int)<=41);omega)]
  rw [this,if_pos hs]
 | succ r ih=>
  intro j hj hne N hN
  obtain ⟨N,rfl⟩:∃k,N=k+1:=⟨N - 1,by omega⟩
  rw [ah]
  by_cases hm:m=two (21+j)
  ·have hs:sea m=((21+j:Nat):Int):=by rw [hm];exact o9 (by omega)
   have:aK n (((21+j:Nat):Int),g,l,dg,x,q,m,d,k0,k1,k2)=some (.inr (.inl ((21+j:Nat):Int))):=by
    unfold aK
    rw [aX,if_pos (by show ((21+j:Nat):Int)<=41;omega)]
    show ob (av n ((21+j:Nat):Int)) _=_
    rw [zr n (by omega)]
    show cond (m==two (21+j)) _ _=_
    rw [eW,if_pos hm]
   rw [this,hs,if_neg (by omega)]
  ·have:aK n (((21+j:Nat):Int),g,l,dg,x,q,m,d,k0,k1,k2)=some (.inl (((21+(j+1):Nat):Int),g,l,dg,x,q,m,d,k0,k1,k2)):=by
    unfold aK
    rw [aX,if_pos (by show ((21+j:Nat):Int)<=41;omega)]
    show ob (av n ((21+j:Nat):Int)) _=_
    rw [zr n (by omega)]
    show cond (m==two (21+j)) _ _=_
    rw [eW,if_neg hm]
    have:IntKind.wrap .i64 (((21+j:Nat):Int)+1)=((21+(j+1):Nat):Int):=by rw [wrap_i64 _ (by omega) (by omega)];omega
    show some (Sum.inl (IntKind.wrap .i64 (((21+j:Nat):Int)+1),_))=_
    rw [this]
   rw [this]
   exact ih (j+1) (by omega) (λi hi=>by
    rcases Nat.lt_or_ge i j with h | h
    ·exact hne i h
    ·have:i=j:=by omega
     rw [this];exact hm) N (by omega)
theorem lu (n:Nat) (hn:100<n) (g l:Bool) (dg:List UInt8) (x q:Int) (m d:List UInt8) (k0 k1 k2:Int):aC n g l dg x q m d k0 k1 k2=some (sea m):=by
 unfold aC
 have:=ph n g l dg x q m d k0 k1 k2 21 0 rfl (λi hi=>absurd hi (by omega)) n (by omega)
 rw [show ((21+0:Nat):Int)=21 from rfl] at this
 rw [this]
 by_cases h:sea m=0
 ·rw [if_pos h,h];rfl
 ·rw [if_neg h];rfl
def agr (s:List UInt8) (k:Nat):Bool:=match s with
 | [a,b]=>(a==88||a==UInt8.ofNat (48+k / 10))&&(b==88||b==UInt8.ofNat (48+k%10))
 | _=>false
def cG (s:List UInt8) (g:Nat):Bool:=(List.range g).any λi=>agr s (i+1)
theorem uT {X Y:Type} {step:X->Option (X⊕Y)} {f:Nat->X} {p:Nat->Bool} {g:Nat} {yes no:Y} (h:∀k,1<=k->k<=g->step (f k)=some (if p k then .inr yes else .inl (f (k+1)))) (he:step (f (g+1))=some (.inr no)) {N:Nat} (hN:g<N):
  ah step N (f 1)=some (if (List.range g).any (λi=>p (i+1)) then yes else no):=by
 have go:∀(r j:Nat),j+r=g->(∀i,i<j->p (i+1)=false)->∀N,r<N->ah step N (f (j+1))=some (if (List.range g).any (λi=>p (i+1)) then yes else no):=by
  intro r
  induction r with
  | zero=>
   intro j hj hne N hN
   obtain ⟨N,rfl⟩:∃k,N=k+1:=⟨N - 1,by omega⟩
   have:(List.range g).any (λi=>p (i+1))=false:=by
    rw [List.any_eq_false]
    intro i hi
    rw [hne i (by have:=List.mem_range.1 hi;omega)]
    simp
   rw [ah,show j+1=g+1 by omega,he,this]
   rfl
  | succ r ih=>
   intro j hj hne N hN
   obtain ⟨N,rfl⟩:∃k,N=k+1:=⟨N - 1,by omega⟩
   rw [ah,h (j+1) (by omega) (by omega)]
   cases hp:p (j+1) with
   | true=>
    have:(List.range g).any (λi=>p (i+1))=true:=List.any_eq_true.2 ⟨j,List.mem_range.2 (by omega),hp⟩
    rw [this]
    rfl
   | false=>
    exact ih (j+1) (by omega) (λi hi=>by
     rcases Nat.lt_or_ge i j with h | h
     ·exact hne i h
     ·have:i=j:=by omega
      rw [this];exact hp) N (by omega)
 exact go g 0 (by omega) (λi hi=>absurd hi (by omega)) N hN
theorem np {a:UInt8} {k:Nat} (hk:k<256):((((a.toNat:Nat):Int))==((k:Nat):Int))=(a==UInt8.ofNat k):=by
 have h:(UInt8.ofNat k).toNat=k:=by simp;omega
 rw [<-ky,h]
theorem B3 (n:Nat) (a b:UInt8) {g k:Nat} (h1:1<=k) (h2:k<=g) (h3:g<=31):
  bJ n ([a,b],(g:Int),(k:Int))=some (if agr [a,b] k then .inr (.inl true) else .inl ([a,b],(g:Int),((k+1:Nat):Int))):=by
 have e1:Int.tdiv (k:Int) 10=((k / 10:Nat):Int):=by
  rw [show (10:Int)=((10:Nat):Int) from rfl,<-Int.ofNat_tdiv]
 have e2:Int.tmod (k:Int) 10=((k%10:Nat):Int):=by
  rw [show (10:Int)=((10:Nat):Int) from rfl,<-Int.ofNat_tmod]
 have w1:IntKind.wrap .u8 (48+IntKind.wrap .u8 (IntKind.wrap .i64 (Int.tdiv (k:Int) 10)))=((48+k / 10:Nat):Int):=by
  rw [e1,wrap_i64 _ (by omega) (by omega),dN ((k / 10:Nat):Int) (by omega) (by omega),dN _ (by omega) (by omega)]
  omega
 have w2:IntKind.wrap .u8 (48+IntKind.wrap .u8 (Int.tmod (k:Int) 10))=((48+k%10:Nat):Int):=by
  rw [e2,dN ((k%10:Nat):Int) (by omega) (by omega),dN _ (by omega) (by omega)]
  omega
 have w3:IntKind.wrap .i64 ((k:Int)+1)=((k+1:Nat):Int):=by rw [wrap_i64 _ (by omega) (by omega)];omega
 have x88:(88:Int)=((88:Nat):Int):=rfl
 have s0:sx [a,b] 0=some a:=rfl
 have s1:sx [a,b] 1=some b:=rfl
 unfold bJ
 rw [aX,if_pos (show (k:Int)<=(g:Int) by omega)]
 simp only [s0,s1,ob,w1,w2,w3]
 rw [x88,np (by omega),np (by omega),np (by omega),np (by omega)]
 show _=some (if ((a==UInt8.ofNat 88||a==UInt8.ofNat (48+k / 10))&&(b==UInt8.ofNat 88||b==UInt8.ofNat (48+k%10)))=true then _ else _)
 generalize (a==UInt8.ofNat 88)=p1
 generalize (b==UInt8.ofNat 88)=p2
 generalize (a==UInt8.ofNat (48+k / 10))=p3
 generalize (b==UInt8.ofNat (48+k%10))=p4
 cases p1<;>cases p2<;>cases p3<;>cases p4<;>rfl
theorem sW (n:Nat) (hn:100<n) (s:List UInt8) (g:Nat) (hg:g<=31):bG n s (g:Int)=some (cG s g):=by
 unfold bG
 by_cases hl:s.length=2
 ·obtain ⟨a,b,rfl⟩:∃a b,s=[a,b]:=by
   match s,hl with
   | [a,b],_=>exact ⟨a,b,rfl⟩
  have he:bJ n ([a,b],(g:Int),((g+1:Nat):Int))=some (.inr (.inr ())):=by
   unfold bJ
   rw [aX,if_neg (show ¬((g+1:Nat):Int)<=(g:Int) by omega)]
  have:=uT (f:=λk=>([a,b],(g:Int),((k:Nat):Int))) (p:=agr [a,b]) (g:=g) (N:=n) (λk h1 h2=>B3 n a b h1 h2 hg) he (by omega)
  show ob (ah (bJ n) n ([a,b],(g:Int),((1:Nat):Int))) _=_
  rw [this]
  unfold cG
  split<;>simp_all [ob]
 ·rw [show (((s.length:Nat):Int) != 2)=true by simp;omega]
  have:cG s g=false:=by
   unfold cG
   rw [List.any_eq_false]
   intro i _
   match s,hl with
   | [],_=>simp [agr]
   | [_],_=>simp [agr]
   | [_,_],h=>exact absurd rfl h
   | _::_::_::_,_=>simp [agr]
  rw [this]
  rfl
theorem ng (n:Nat) (s:List UInt8) (k:Nat) (hk:k<100):ci n s (k:Int)=some (if agr s k then 1 else 0):=by
 unfold ci
 rw [zr n hk]
 show cond _ _ _=_
 by_cases hl:s.length=2
 ·obtain ⟨a,b,rfl⟩:∃a b,s=[a,b]:=by
   match s,hl with
   | [a,b],_=>exact ⟨a,b,rfl⟩
  have s0:sx [a,b] 0=some a:=rfl
  have s1:sx [a,b] 1=some b:=rfl
  have t0:sx (two k) 0=some (UInt8.ofNat (48+k / 10)):=rfl
  have t1:sx (two k) 1=some (UInt8.ofNat (48+k%10)):=rfl
  have x88:(88:Int)=((88:Nat):Int):=rfl
  rw [show (((([a,b]:List UInt8).length:Nat):Int)==2)=true from rfl]
  simp only [s0,s1,t0,t1,ob,cond_true]
  rw [x88,np (by omega),np (by omega),ky,ky]
  show _=some (if ((a==UInt8.ofNat 88||a==UInt8.ofNat (48+k / 10))&&(b==UInt8.ofNat 88||b==UInt8.ofNat (48+k%10)))=true then _ else _)
  generalize (a==UInt8.ofNat 88)=p1
  generalize (b==UInt8.ofNat 88)=p2
  generalize (a==UInt8.ofNat (48+k / 10))=p3
  generalize (b==UInt8.ofNat (48+k%10))=p4
  cases p1<;>cases p2<;>cases p3<;>cases p4<;>rfl
 ·rw [show (((s.length:Nat):Int)==2)=false by simp;omega]
  have:agr s k=false:=by
   match s,hl with
   | [],_=>rfl
   | [_],_=>rfl
   | [_,_],h=>exact absurd rfl h
   | _::_::_::_,_=>rfl
  rw [this]
  rfl
theorem uN (n:Nat) (hn:100<n) (s:List UInt8) (g:Nat) (hg:g<=31):bR n s (g:Int)=some (if cG s g then 1 else 0):=by
 unfold bR
 have he:bT n (s,(g:Int),((g+1:Nat):Int))=some (.inr (.inr ())):=by
  unfold bT
  rw [aX,if_neg (show ¬((g+1:Nat):Int)<=(g:Int) by omega)]
 have:=uT (f:=λk=>(s,(g:Int),((k:Nat):Int))) (p:=agr s) (g:=g) (N:=n) (step:=bT n) (yes:=.inl 1) (no:=.inr ()) (λk h1 h2=>by
  unfold bT
  rw [aX,if_pos (show (k:Int)<=(g:Int) by omega)]
  show ob (ci n s (k:Int)) _=_
  rw [ng n s k (by omega)]
  have w3:IntKind.wrap .i64 ((k:Int)+1)=((k+1:Nat):Int):=by rw [wrap_i64 _ (by omega) (by omega)];omega
  simp only [ob,w3]
  cases agr s k<;>rfl) he (by omega)
 show ob (ah (bT n) n (s,(g:Int),((1:Nat):Int))) _=_
 rw [this]
 unfold cG
 split<;>simp_all [ob]
theorem pm (n:Nat) {a b:Int} (hb:1<b) (hb2:b<1000) (ha:-4611686018427387904<=a) (ha2:a<4611686018427387904):gY n a b=some (a / b,0):=by
 have n0:(b==0)=false:=by simp;omega
 have n1:(b==-1)=false:=by simp;omega
 unfold gY
 simp only [n0,n1,cond_false]
 have hq:a / b*b+a%b=a:=Int.ediv_mul_add_emod a b
 have hr:=Int.emod_nonneg a (show b≠0 by omega)
 have hr2:=Int.emod_lt_of_pos a (show 0<b by omega)
 have hq1:-4611686018427387904<=a / b:=by
  rw [Int.le_ediv_iff_mul_le (by omega)]
  have:(-4611686018427387904:Int)*b<=-4611686018427387904*1:=Int.mul_le_mul_of_nonpos_left (by omega) (by omega)
  omega
 have hq2:a / b<4611686018427387904:=by
  rw [Int.ediv_lt_iff_lt_mul (by omega)]
  have:(4611686018427387904:Int)*1<=4611686018427387904*b:=Int.mul_le_mul_of_nonneg_left (by omega) (by omega)
  omega
 by_cases h0:0<=a
 ·have e1:Int.tdiv a b=a / b:=Int.tdiv_eq_ediv_of_nonneg h0
  have d1:decide (a<0)=false:=by simp;omega
  have d2:decide (b<0)=false:=by simp;omega
  rw [e1,d1,d2,wrap_i64 (a / b) (by omega) (by omega)]
  cases (Int.tmod a b != 0)<;>rfl
 ·have d1:decide (a<0)=true:=by simp;omega
  have d2:decide (b<0)=false:=by simp;omega
  have e1:=Int.tdiv_eq_ediv (a:=a) (b:=b)
  have e2:=Int.tmod_eq_emod (a:=a) (b:=b)
  rw [d1,d2]
  by_cases hd:b∣a
  ·have hm:Int.tmod a b=0:=by
    rw [e2,if_pos (.inr hd)]
    have:=Int.emod_eq_zero_of_dvd hd
    omega
   rw [hm,e1,if_pos (.inr hd)]
   rw [Int.add_zero,wrap_i64 (a / b) (by omega) (by omega)]
   rfl
  ·have hm0:a%b≠0:=λh=>hd (Int.dvd_of_emod_eq_zero h)
   have hm:(Int.tmod a b != 0)=true:=by
    rw [e2,if_neg (by rintro (h | h);exact h0 h;exact hd h)]
    simp
    omega
   have hs:b.sign=1:=Int.sign_eq_one_of_pos (by omega)
   rw [hm,e1,if_neg (by rintro (h | h);exact h0 h;exact hd h),hs]
   rw [wrap_i64 (a / b+1) (by omega) (by omega),Int.add_sub_cancel,wrap_i64 (a / b) (by omega) (by omega)]
   rfl
theorem FM (n:Nat) {a b:Int} (hb:1<b) (hb2:b<1000):oe n a b=some (a%b,0):=by
 have n0:(b==0)=false:=by simp;omega
 have n1:(b==-1)=false:=by simp;omega
 unfold oe
 simp only [n0,n1,cond_false]
 have hr:=Int.emod_nonneg a (show b≠0 by omega)
 have hr2:=Int.emod_lt_of_pos a (show 0<b by omega)
 have e2:=Int.tmod_eq_emod (a:=a) (b:=b)
 have d2:decide (b<0)=false:=by simp;omega
 by_cases hc:0<=a\/b∣a
 ·rw [if_pos hc] at e2
  have:Int.tmod a b=a%b:=by omega
  rw [this,d2]
  have d1:decide (a%b<0)=false:=by simp;omega
  rw [d1]
  cases h:(a%b != 0)
  ·rfl
  ·rfl
 ·rw [if_neg hc] at e2
  have hn:(b.natAbs:Int)=b:=by omega
  rw [hn] at e2
  have hm0:a%b≠0:=λh=>hc (.inr (Int.dvd_of_emod_eq_zero h))
  have hm:(Int.tmod a b != 0)=true:=by simp;omega
  have d1:decide (Int.tmod a b<0)=true:=by simp;omega
  rw [hm,d1,d2,e2,wrap_i64 _ (by omega) (by omega),Int.sub_add_cancel]
  rfl
def dQ (y:Int):Prop:=-10000000000000000<=y/\y<=10000000000000000
instance (y:Int):Decidable (dQ y):=by unfold dQ;infer_instance
theorem fh (n:Nat) (y:Int):eI n y=some (if dQ y then 0 else 6):=by
 unfold eI
 rw [aX,aX]
 by_cases h1:y < -10000000000000000
 ·rw [if_pos h1,if_neg (show ¬dQ y by unfold dQ;omega)]
 ·by_cases h2:y>10000000000000000
  ·rw [if_neg h1,if_pos h2,if_neg (show ¬dQ y by unfold dQ;omega)]
  ·rw [if_neg h1,if_neg h2,if_pos (show dQ y by unfold dQ;omega)]
theorem lL (n:Nat) {y:Int} (h:-20000000000000000<=y/\y<=20000000000000000):∃z,cU n y=some z:=by
 unfold cU
 rw [wrap_i64 (y - 1) (by omega) (by omega),pm n (by omega) (by omega) (by omega) (by omega),pm n (by omega) (by omega) (by omega) (by omega),pm n (by omega) (by omega) (by omega) (by omega)]
 exact ⟨_,rfl⟩
theorem zL (n:Nat) {y:Int} (h:dQ y):∃b e,fS n y=some (b,e):=by
 unfold fS
 have h':=h
 unfold dQ at h'
 obtain ⟨z1,e1⟩:=lL n (y:=y+1) (by omega)
 obtain ⟨z2,e2⟩:=lL n (y:=y) (by omega)
 rw [fh,if_pos h,wrap_i64 (y+1) (by omega) (by omega),e1,e2]
 exact ⟨_,_,rfl⟩
theorem lX (n:Nat) {y:Int} (h:dQ y) {m:Nat} (h1:1<=m) (h2:m<=12):∃v,cq n y (m:Int)=some v:=by
 unfold cq
 obtain ⟨b,e,hl⟩:=zL n h
 rw [hl]
 show ∃v,cond (b&&((m:Int)==2)) _ _=some v
 cases (b&&((m:Int)==2)) with
 | true=>exact ⟨_,rfl⟩
 | false=>
  have:IntKind.wrap .i64 ((m:Int) - 1)=((m - 1:Nat):Int):=by rw [wrap_i64 _ (by omega) (by omega)];omega
  rw [this,di (by omega)]
  have hl:oh.length=12:=rfl
  exact ⟨_,List.getElem?_eq_getElem (show m - 1<oh.length by omega)⟩
theorem xE (n:Nat) {y:Int} (h:dQ y) {m:Nat} (h1:1<=m) (h2:m<=12):fU n y (m:Int)=some 0:=by
 unfold fU
 rw [fh,if_pos h]
 show cond (decide ((m:Int)<1)) _ _=_
 rw [aX,aX,if_neg (by omega),if_neg (by omega)]
theorem wU (n:Nat) {y:Int} (h:dQ y) {m:Nat} (hm:m<=11):∀(r j:Nat),j+r=m->∀(a:Int) (N:Nat),r<N->∃v,ah (cD n) N (y,a,(m:Int),(j:Int))=some v:=by
 intro r
 induction r with
 | zero=>
  intro j hj a N hN
  obtain ⟨N,rfl⟩:∃k,N=k+1:=⟨N - 1,by omega⟩
  have:cD n (y,a,(m:Int),(j:Int))=some (.inr a):=by
   unfold cD
   rw [aX,if_neg (show ¬((j:Int)<(m:Int)) by omega)]
  rw [ah,this]
  exact ⟨_,rfl⟩
 | succ r ih=>
  intro j hj a N hN
  obtain ⟨N,rfl⟩:∃k,N=k+1:=⟨N - 1,by omega⟩
  obtain ⟨v,hv⟩:=lX n h (m:=j+1) (by omega) (by omega)
  have w:IntKind.wrap .i64 ((j:Int)+1)=((j+1:Nat):Int):=by rw [wrap_i64 _ (by omega) (by omega)];omega
  have:cD n (y,a,(m:Int),(j:Int))=some (.inl (y,IntKind.wrap .i64 (a+v),(m:Int),((j+1:Nat):Int))):=by
   unfold cD
   rw [aX,if_pos (show ((j:Int)<(m:Int)) by omega)]
   simp only [w,hv,ob]
  rw [ah,this]
  exact ih (j+1) (by omega) _ N (by omega)
theorem yS (n:Nat) (hn:100<n) {y:Int} (h:dQ y) {m:Nat} (h1:1<=m) (h2:m<=12):∃v,dM n y (m:Int)=some (v,0):=by
 unfold dM ku jR
 have h':=h
 unfold dQ at h'
 obtain ⟨z,e⟩:=lL n (y:=y) (by omega)
 have w:IntKind.wrap .i64 ((m:Int) - 1)=((m - 1:Nat):Int):=by rw [wrap_i64 _ (by omega) (by omega)];omega
 rw [xE n h h1 h2,fh,if_pos h,e,w]
 obtain ⟨v,hv⟩:=wU n h (m:=m - 1) (by omega) (m - 1) 0 (by omega) (IntKind.wrap .i64 (IntKind.wrap .i64 (365*y)+z)) n (by omega)
 refine ⟨v,?_⟩
 show ob (ah (cD n) n (y,IntKind.wrap .i64 (IntKind.wrap .i64 (365*y)+z),((m - 1:Nat):Int),((0:Nat):Int))) _=_
 rw [hv]
 rfl
theorem madd (n:Nat) {y:Int} (h:dQ y) {m c:Nat} (h1:1<=m) (h2:m<=12) (hc:1<=c) (hc2:c<=6):jB n y (m:Int) (IntKind.wrap .i64 ((c:Int) - 1)) =
  some (if 12<m+c - 1 then (if y=10000000000000000 then (0,0,6) else (y+1,((m+c - 1 - 12:Nat):Int),0)) else (y,((m+c - 1:Nat):Int),0)):=by
 have h':=h
 unfold dQ at h'
 unfold jB
 rw [xE n h h1 h2,wrap_i64 (12*y) (by omega) (by omega),wrap_i64 ((m:Int) - 1) (by omega) (by omega),wrap_i64 (12*y+((m:Int) - 1)) (by omega) (by omega),wrap_i64 ((c:Int) - 1) (by omega) (by omega)]
 have ha:lg n (12*y+((m:Int) - 1)) ((c:Int) - 1)=some (12*y+((m:Int) - 1)+((c:Int) - 1),0):=by
  unfold lg
  rw [wrap_i64 (12*y+((m:Int) - 1)+((c:Int) - 1)) (by omega) (by omega),eW]
  by_cases h0:(c:Int) - 1=0
  ·rw [if_pos h0]
   have d1:decide (12*y+((m:Int) - 1)>12*y+((m:Int) - 1))=false:=by simp
   have d2:decide ((c:Int) - 1>0)=false:=by simp;omega
   rw [d1,d2,h0,Int.add_zero]
   rfl
  ·rw [if_neg h0]
   have d1:decide (12*y+((m:Int) - 1)+((c:Int) - 1)>12*y+((m:Int) - 1))=true:=by simp;omega
   have d2:decide ((c:Int) - 1>0)=true:=by simp;omega
   rw [d1,d2]
   rfl
 simp only [ob,ha,bne_self_eq_false,cond_false]
 rw [pm n (by omega) (by omega) (by omega) (by omega),FM n (by omega) (by omega)]
 simp only [fh]
 by_cases hb:12<m+c - 1
 ·have e1:(12*y+((m:Int) - 1)+((c:Int) - 1)) / 12=y+1:=by omega
  have e2:(12*y+((m:Int) - 1)+((c:Int) - 1))%12=((m+c - 1 - 12:Nat):Int) - 1:=by omega
  rw [e1,e2,if_pos hb]
  by_cases hy:y=10000000000000000
  ·rw [if_pos hy,if_neg (show ¬dQ (y+1) by unfold dQ;omega)]
   rfl
  ·rw [if_neg hy,if_pos (show dQ (y+1) by unfold dQ;omega),wrap_i64 (((m+c - 1 - 12:Nat):Int) - 1+1) (by omega) (by omega),Int.sub_add_cancel]
   rfl
 ·have e1:(12*y+((m:Int) - 1)+((c:Int) - 1)) / 12=y:=by omega
  have e2:(12*y+((m:Int) - 1)+((c:Int) - 1))%12=((m+c - 1:Nat):Int) - 1:=by omega
  rw [e1,e2,if_neg hb,if_pos h,wrap_i64 (((m+c - 1:Nat):Int) - 1+1) (by omega) (by omega),Int.sub_add_cancel]
  rfl
theorem BD {j:Nat} (hj:j<21):∃m c:Nat,nD[j]?=some ((m:Int),(c:Int))/\1<=m/\m<=12/\1<=c/\c<=6/\(12<m+c - 1↔j=3\/j=7\/j=9):=by
 have:((List.range 21).all λj=>match nD[j]? with
  | some (m,c)=>decide (0<=m)&&decide (0<=c)&&decide (1<=m.toNat)&&decide (m.toNat<=12)&&decide (1<=c.toNat)&&decide (c.toNat<=6)&&(decide (12<m.toNat+c.toNat - 1)==decide (j=3\/j=7\/j=9))
  | none=>false)=true:=by decide +kernel
 have h:=(List.all_eq_true.1 this) j (by simpa using hj)
 split at h
 ·rename_i m c e
  simp only [Bool.and_eq_true,decide_eq_true_eq,beq_iff_eq,decide_eq_decide] at h
  obtain ⟨⟨⟨⟨⟨⟨h1,h2⟩,h3⟩,h4⟩,h5⟩,h6⟩,h7⟩:=h
  exact ⟨m.toNat,c.toNat,by rw [e,Int.toNat_of_nonneg h1,Int.toNat_of_nonneg h2],h3,h4,h5,h6,h7⟩
 ·cases h
theorem FK (n:Nat) (hn:100<n) {y:Int} (h:dQ y) {j:Nat} (hj:j<21):
  ∃a b c d,fO n y ((21+j:Nat):Int)=some (a,b,c,d,if y=10000000000000000/\(j=3\/j=7\/j=9) then 6 else 0):=by
 obtain ⟨m,c,e,h1,h2,h3,h4,h5⟩:=BD hj
 have hM:en n ((21+j:Nat):Int)=some ((m:Int),(c:Int),0):=by
  unfold en cr
  rw [aX,aX,if_neg (by omega),if_neg (by omega)]
  have:IntKind.wrap .i64 (((21+j:Nat):Int) - 21)=(j:Int):=by rw [wrap_i64 _ (by omega) (by omega)];omega
  rw [this,di hj]
  show ob (nD[j]?) _=_
  rw [e]
  rfl
 obtain ⟨v,hv⟩:=yS n hn h h1 h2
 unfold fO
 rw [hM]
 show ∃a b c d,ob (dM n y (m:Int)) _=_
 rw [hv]
 show ∃a b c' d,ob (jB n y (m:Int) (IntKind.wrap .i64 ((c:Int) - 1))) _=_
 rw [madd n h h1 h2 h3 h4]
 have h':=h
 unfold dQ at h'
 by_cases hb:12<m+c - 1
 ·rw [if_pos hb]
  by_cases hy:y=10000000000000000
  ·rw [if_pos hy,if_pos ⟨hy,h5.1 hb⟩]
   exact ⟨_,_,_,_,rfl⟩
  ·rw [if_neg hy,if_neg (λx=>hy x.1)]
   have hc1:dQ (y+1):=by unfold dQ;omega
   obtain ⟨v2,hv2⟩:=yS n hn hc1 (m:=m+c - 1 - 12) (by omega) (by omega)
   obtain ⟨u,hu⟩:=lX n hc1 (m:=m+c - 1 - 12) (by omega) (by omega)
   have hE:eT n (y+1) ((m+c - 1 - 12:Nat):Int)=some (IntKind.wrap .i64 (IntKind.wrap .i64 (v2+u) - 1),0):=by
    unfold eT
    rw [hv2,hu]
    rfl
   show ∃a b c' d,ob (eT n (y+1) ((m+c - 1 - 12:Nat):Int)) _=_
   rw [hE]
   exact ⟨_,_,_,_,rfl⟩
 ·rw [if_neg hb,if_neg (λx=>hb (h5.2 x.2))]
  obtain ⟨v2,hv2⟩:=yS n hn h (m:=m+c - 1) (by omega) (by omega)
  obtain ⟨u,hu⟩:=lX n h (m:=m+c - 1) (by omega) (by omega)
  have hE:eT n y ((m+c - 1:Nat):Int)=some (IntKind.wrap .i64 (IntKind.wrap .i64 (v2+u) - 1),0):=by
   unfold eT
   rw [hv2,hu]
   rfl
  show ∃a b c' d,ob (eT n y ((m+c - 1:Nat):Int)) _=_
  rw [hE]
  exact ⟨_,_,_,_,rfl⟩
def hasB (set:List UInt8) (c:UInt8):Bool:=set.any λd=>d==c
theorem kq (set:List UInt8) (c:UInt8):(decide (Lib.indexByte set c<0))=!hasB set c:=by
 induction set with
 | nil=>simp [Lib.indexByte,hasB]
 | cons d l ih=>
  have hge:=Lib.indexByte_ge l c
  simp only [hasB,List.any_cons] at ih ⊢
  unfold Lib.indexByte
  by_cases h:d=c
  ·simp [h]
  ·have hb:(d==c)=false:=by simpa using h
   simp only [hb,Bool.false_eq_true,if_false,Bool.false_or]
   rw [<-ih]
   by_cases h1:Lib.indexByte l c=-1
   ·simp [h1]
   ·have hb1:(Lib.indexByte l c==-1)=false:=by simpa using h1
    simp only [hb1,Bool.false_eq_true,if_false]
    have:¬Lib.indexByte l c+1<0:=by omega
    have:¬Lib.indexByte l c<0:=by omega
    simp [*]
theorem jM (set:List UInt8) (c:UInt8):(decide (Lib.indexByte set c>=0))=hasB set c:=by
 have:=kq set c
 by_cases h:Lib.indexByte set c<0
 ·have h2:¬Lib.indexByte set c>=0:=by omega
  simp only [h,h2,decide_true,decide_false] at this ⊢
  revert this;cases hasB set c<;>simp
 ·have h2:Lib.indexByte set c>=0:=by omega
  simp only [h,h2,decide_true,decide_false] at this ⊢
  revert this;cases hasB set c<;>simp
def aN (p:UInt8->Bool):Nat->List UInt8->Nat
 | 0,_=>0
 | _+1,[]=>0
 | k+1,c::l=>if p c then aN p k l+1 else 0
theorem gT (p:UInt8->Bool):∀(k:Nat) (l:List UInt8),aN p k l<=l.length
 | 0,_=>by simp [aN]
 | _+1,[]=>by simp [aN]
 | k+1,c::l=>by
  have:=gT p k l
  simp only [aN,List.length_cons]
  split<;>omega
theorem uY (n:Nat) (S:List UInt8) (at_:Nat) (h:at_<=S.length):da n S (at_:Int)=some (S.drop at_):=by
 simp [da,ob,bY h]
theorem su (n:Nat) (s p:List UInt8):eQ n s p=some (s.take p.length==p):=by
 simp only [eQ,dw,gQ]
 by_cases h:p.length<=s.length
 ·simp [h,ob,bY h]
 ·have:(s.take p.length==p)=false:=by
   rw [beq_eq_false_iff_ne]
   intro e
   have:=congrArg List.length e
   rw [List.length_take] at this
   omega
  simp [h,ob,this]
theorem Fb (n:Nat) (t S:List UInt8) (at_:Nat) (h:at_<=S.length):eS n t S (at_:Int)=some ((S.drop at_).take t.length==t):=by
 simp [eS,uY n S at_ h,ob,su]
theorem rz (n:Nat) (t S:List UInt8) (at_:Nat) (h:at_<=S.length) (hS:S.length<4611686018427387904):
  aH n t S (at_:Int)=some (if (S.drop at_).take t.length=t then (true,S,((at_+t.length:Nat):Int)) else (false,S,(at_:Int))):=by
 simp only [aH,Fb n t S at_ h,ob]
 by_cases hp:(S.drop at_).take t.length=t
 ·have hl:t.length<=S.length - at_:=by
   have:=congrArg List.length hp
   simp at this;omega
  have hw:IntKind.wrap .i64 ((at_:Int)+((t.length:Nat):Int))=((at_+t.length:Nat):Int):=by rw [wrap_i64 _ (by omega) (by omega)];omega
  simp [hp,hw]
 ·simp only [uX,eW,hp,if_false]
theorem to (n:Nat) (S:List UInt8) (i:Int):aM n S i=some i:=rfl
def peek (l:List UInt8):Int×Bool:=match l with | c::_=>(((c.toNat:Nat):Int),true) | []=>(0,false)
theorem mg (n:Nat) (S:List UInt8) (at_:Nat) (h:at_<=S.length):bg n S (at_:Int)=some (peek (S.drop at_)):=by
 simp only [bg,uY n S at_ h,ob]
 rcases Nat.lt_or_ge at_ S.length with hlt | hge
 ·obtain ⟨c,hc⟩:∃c,S[at_]?=some c:=⟨S[at_],List.getElem?_eq_getElem hlt⟩
  rw [aY hc]
  simp [cn hc,peek]
 ·rw [List.drop_eq_nil_of_le hge]
  simp [peek]
theorem n7 (n:Nat) (a e:Int) (S:List UInt8) (i:Int):bf n a e S i=some (a,if e=0 then 5 else e):=by
 simp only [bf,eW]
 by_cases h:e=0<;>simp [h]
theorem dE (n:Nat) (set:List UInt8) (c:UInt8):bL n set ((c.toNat:Nat):Int)=some (Lib.indexByte set c):=by
 simp only [bL,bD,ob,Gz]
theorem uE (n:Nat) (set S:List UInt8) (at_:Nat) (h:at_<=S.length) (hS:S.length<4611686018427387904):
  bA n set S (at_:Int)=some (match S.drop at_ with | c::_=>if hasB set c then .inr (((c.toNat:Nat):Int),S,((at_+1:Nat):Int)) else .inl ((at_:Int),5,S,(at_:Int)) | []=>.inl ((at_:Int),5,S,(at_:Int))):=by
 simp only [bA,mg n S at_ h,ob]
 rcases Nat.lt_or_ge at_ S.length with hlt | hge
 ·obtain ⟨c,hc⟩:∃c,S[at_]?=some c:=⟨S[at_],List.getElem?_eq_getElem hlt⟩
  have hw:IntKind.wrap .i64 ((at_:Int)+1)=((at_+1:Nat):Int):=by rw [wrap_i64 _ (by omega) (by omega)];omega
  rw [aY hc]
  simp only [peek,Bool.not_true,cond_false,dE,kq,to,n7,ob,hw]
  cases hasB set c<;>simp
 ·rw [List.drop_eq_nil_of_le hge]
  simp [peek,to,n7,ob]
theorem kb (S:List UInt8) (a k:Nat):List.drop a (List.take (a+k) S)=(S.drop a).take k:=by
 rw [List.drop_take];congr 1;omega
theorem rE (n:Nat) (set:List UInt8) (least most:Int) (S:List UInt8) (at_:Nat) (h:at_<=S.length) (hS:S.length<4611686018427387904) (hn:S.length<n):
  ah (bC n) n (set,least,most,(at_:Int),(peek (S.drop at_)).1,(peek (S.drop at_)).2,S,(at_:Int)) =
   some (least,(at_:Int),S,((at_+aN (hasB set) most.toNat (S.drop at_):Nat):Int)):=by
 have:=dt (step:=bC n)
  (λx=>∃j:Nat,at_+j<=S.length/\x=(set,least,most,(at_:Int),(peek (S.drop (at_+j))).1,(peek (S.drop (at_+j))).2,S,((at_+j:Nat):Int)))
  (λx=>S.length - x.2.2.2.2.2.2.2.toNat)
  (λx=>(least,(at_:Int),S,((x.2.2.2.2.2.2.2.toNat+aN (hasB set) (most.toNat - (x.2.2.2.2.2.2.2.toNat - at_)) (S.drop x.2.2.2.2.2.2.2.toNat):Nat):Int))) ?_ n
  (set,least,most,(at_:Int),(peek (S.drop at_)).1,(peek (S.drop at_)).2,S,(at_:Int)) ⟨0,by omega,by simp⟩ (by simp;omega)
 ·simpa using this
 rintro x ⟨j,hj,rfl⟩
 simp only [Int.toNat_natCast]
 have hsub:IntKind.wrap .i64 (((at_+j:Nat):Int) - (at_:Int))=(j:Int):=by rw [wrap_i64 _ (by omega) (by omega)];omega
 rcases Nat.lt_or_ge (at_+j) S.length with hlt | hge
 ·obtain ⟨c,hc⟩:∃c,S[at_+j]?=some c:=⟨S[at_+j],List.getElem?_eq_getElem hlt⟩
  have hw:IntKind.wrap .i64 (((at_+j:Nat):Int)+1)=((at_+(j+1):Nat):Int):=by rw [wrap_i64 _ (by omega) (by omega)];omega
  simp only [bC,aY hc,peek,cond_true,hsub]
  by_cases hm:(j:Int)<most
  ·obtain ⟨k,hk⟩:∃k,most.toNat - (at_+j - at_)=k+1:=⟨most.toNat - j - 1,by omega⟩
   simp only [hm,decide_true,cond_true,dE,ob,jM,hk,aN]
   cases hb:hasB set c with
   | true=>
    simp only [hw,mg n S (at_+(j+1)) (by omega),cond_true]
    refine .inl ⟨_,rfl,⟨j+1,by omega,rfl⟩,?_,?_⟩
    ·simp only [Int.toNat_natCast];omega
    ·simp only [Int.toNat_natCast,Prod.mk.injEq,true_and,if_true]
     have:most.toNat - (at_+(j+1) - at_)=k:=by omega
     rw [this,show at_+(j+1)=at_+j+1 by omega]
     omega
   | false=>exact .inr (by simp)
  ·refine .inr ?_
   have:most.toNat - (at_+j - at_)=0:=by omega
   simp only [hm,decide_false,cond_false,this,aN,Nat.add_zero]
 ·refine .inr ?_
  simp only [bC,List.drop_eq_nil_of_le hge,peek,cond_false]
  have:aN (hasB set) (most.toNat - (at_+j - at_)) []=0:=by cases most.toNat - (at_+j - at_)<;>rfl
  simp only [this,Nat.add_zero]
theorem nS (n:Nat) (set:List UInt8) (least most:Int) (S:List UInt8) (at_:Nat) (h:at_<=S.length) (hS:S.length<4611686018427387904) (hn:S.length<n):
  aT n set least most S (at_:Int)=some (if ((aN (hasB set) most.toNat (S.drop at_):Nat):Int)<least
   then .inl (((at_+aN (hasB set) most.toNat (S.drop at_):Nat):Int),5,S,((at_+aN (hasB set) most.toNat (S.drop at_):Nat):Int))
   else .inr ((S.drop at_).take (aN (hasB set) most.toNat (S.drop at_)),S,((at_+aN (hasB set) most.toNat (S.drop at_):Nat):Int))):=by
 have hk:=gT (hasB set) most.toNat (S.drop at_)
 rw [List.length_drop] at hk
 simp only [aT,to,mg n S at_ h,ob]
 rw [rE n set least most S at_ h hS hn]
 generalize aN (hasB set) most.toNat (S.drop at_)=k at hk ⊢
 have hsub:IntKind.wrap .i64 (((at_+k:Nat):Int) - (at_:Int))=(k:Int):=by rw [wrap_i64 _ (by omega) (by omega)];omega
 simp only [hsub,n7]
 by_cases hl:(k:Int)<least
 ·simp [hl]
 ·simp only [hl,decide_false,cond_false,if_false]
  rw [bY (by omega)]
  simp only
  rw [bY (by omega)]
  simp only [kb]
def asc (l:List UInt8):Prop:=∀c∈l,c.toNat<128
theorem y7 (r:Int) (h:128<=r):∃p e,(Utf8.encode r).data.toList=p++[e]/\1<=p.length/\p.length<=3/\128<=e.toNat:=by
 unfold Utf8.encode
 have hc:128<=(if Utf8.valid r then r.toNat else Utf8.runeError):=by
  split
  ·omega
  ·decide
 generalize (if Utf8.valid r then r.toNat else Utf8.runeError)=c at hc
 have he:128<=(UInt8.ofNat (0x80+c%64)).toNat:=by
  simp only [UInt8.toNat_ofNat']
  omega
 simp only
 split
 ·omega
 ·split
  ·exact ⟨[_],_,rfl,by simp,by simp,he⟩
  ·split
   ·exact ⟨[_,_],_,rfl,by simp,by simp,he⟩
   ·exact ⟨[_,_,_],_,rfl,by simp,by simp,he⟩
theorem yD {l:List UInt8} (h:asc l) {i:Nat} {c:UInt8} (hi:l[i]?=some c):c.toNat<128:=h c (List.mem_of_getElem? hi)
theorem ta (n:Nat) (set:List UInt8) (h:asc set) (hn:set.length<n):ah (bV n) n (set,0)=some (.inr ()):=by
 refine dt (step:=bV n) (λx=>x.1=set) (λx=>set.length - x.2) (λx=>.inr ()) ?_ n _ rfl (by simp;omega)
 rintro ⟨s,i⟩ rfl
 simp only [bV]
 by_cases hi:i<s.length
 ·have hb:Nat.blt i s.length=true:=Nat.ble_eq_true_of_le hi
  obtain ⟨c,hc⟩:∃c,s[i]?=some c:=⟨s[i],List.getElem?_eq_getElem hi⟩
  have hlow:=yD h hc
  have hne:(((c.toNat:Nat):Int)==65533)=false:=by rw [beq_eq_false_iff_ne];omega
  simp only [hb,cond_true,uh hc hlow,hne,cond_false]
  exact .inl ⟨_,rfl,rfl,by simp only;omega,trivial⟩
 ·have hb:Nat.blt i s.length=false:=by
   cases hb:Nat.blt i s.length with
   | false=>rfl
   | true=>exact absurd (Nat.le_of_ble_eq_true hb) (by omega)
  simp only [hb,cond_false]
  exact .inr trivial
theorem pT {l:List UInt8} {c:UInt8} (h:c∉l):Lib.indexByte l c<0:=by
 have h1:=kq l c
 have h2:hasB l c=false:=by
  unfold hasB
  rw [List.any_eq_false]
  intro x hx he
  simp only [beq_iff_eq] at he
  exact h (he▸hx)
 rw [h2] at h1
 simpa using h1
theorem sR (n:Nat) (set:List UInt8) (h:asc set) (hn:set.length<n) (hs:set.length<=100) (r:Int) (hr:128<=r):ck n set r=some (-1):=by
 have h0:decide ((0:Int)<=r)=true:=decide_eq_true (by omega)
 have h1:decide (r<128)=false:=decide_eq_false (by omega)
 simp only [ck,h0,h1,cond_true,cond_false]
 by_cases hrr:r=65533
 ·have:(r==65533)=true:=beq_iff_eq.2 hrr
  simp only [this,cond_true,ta n set h hn,ob]
 ·have:(r==65533)=false:=beq_eq_false_iff_ne.2 hrr
  simp only [this,cond_false]
  obtain ⟨v,hv⟩:∃v,ca n r=some v:=by
   unfold ca
   generalize decide ((0:Int)<=r)=d1
   generalize decide (r<55296)=d2
   generalize decide ((57343:Int)<r)=d3
   generalize decide (r<=1114111)=d4
   cases d1<;>cases d2<;>cases d3<;>cases d4<;>exact ⟨_,rfl⟩
  simp only [hv,ob]
  cases v with
  | false=>rfl
  | true=>
   simp only [Bool.not_true,cond_false]
   obtain ⟨p,e,hp,hp1,hp3,he⟩:=y7 r hr
   simp only [hp]
   have hw:IntKind.wrap .i64 (((p++[e]).length:Nat) - 1:Int)=(p.length:Int):=by
    rw [wrap_i64 _ (by simp<;>omega) (by simp<;>omega)];simp
   rw [hw]
   obtain ⟨m,rfl⟩:∃m,n=m+1:=⟨n - 1,by omega⟩
   have hstep:bW (m+1) (set,p++[e],(p.length:Int),(p.length:Int))=some (.inr (.inl (-1)))\/bW (m+1) (set,p++[e],(p.length:Int),(p.length:Int))=some (.inr (.inr ())):=by
    simp only [bW,ee]
    by_cases hl:p.length<set.length
    ·obtain ⟨c,hc⟩:∃c,set[p.length]?=some c:=⟨set[p.length],List.getElem?_eq_getElem hl⟩
     have hlow:=yD h hc
     have hpe:(p++[e])[p.length]?=some e:=by simp
     have hne:(((c.toNat:Nat):Int) != ((e.toNat:Nat):Int))=true:=by simp only [bne,Bool.not_eq_true',beq_eq_false_iff_ne];omega
     have hw2:IntKind.wrap .i64 ((p.length:Int)+1)=((p.length+1:Nat):Int):=by rw [wrap_i64 _ (by omega) (by omega)];omega
     have hx:e∉List.drop (p.length+1) (List.take set.length set):=by
      intro hm
      have:=h e (by simpa using List.mem_of_mem_drop hm)
      omega
     left
     simp only [hl,decide_true,cond_true,cn hc,cn hpe,ob,hne,hw2,bY (show p.length+1<=set.length by omega),dE,pT hx]
    ·right
     simp only [hl,decide_false,cond_false]
   rcases hstep with hs1 | hs1<;>simp only [ah,hs1,ob]
theorem pQ (n:Nat) (set:List UInt8) (c:UInt8) (r:Int) (hr:r=((c.toNat:Nat):Int)) (hc:c.toNat<128):ck n set r=some (Lib.indexByte set c):=by
 have h0:decide ((0:Int)<=r)=true:=decide_eq_true (by omega)
 have h1:decide (r<128)=true:=decide_eq_true (by omega)
 have hw:IntKind.wrap .u8 r=r:=dN _ (by omega) (by omega)
 have hb:bL n set r=some (Lib.indexByte set c):=by rw [hr];exact dE n set c
 simp only [ck,h0,h1,cond_true,hw,hb,ob]
theorem rD (n:Nat) (set:List UInt8) (c:UInt8) (hc:c.toNat<128):ck n set ((c.toNat:Nat):Int)=some (Lib.indexByte set c):=pQ n set c _ rfl hc
theorem nH (n:Nat) (set:List UInt8) (c:UInt8) (hc:c.toNat<128):bU n set ((c.toNat:Nat):Int)=some (hasB set c):=by
 simp only [bU,rD n set c hc,ob,jM]
theorem oq (n:Nat) (set:List UInt8) (h:asc set) (hn:set.length<n) (hs:set.length<=100) (r:Int) (hr:128<=r):bU n set r=some false:=by
 simp only [bU,sR n set h hn hs r hr,ob];rfl
theorem nO (x:Int) (h0:0<=x) (h1:x<65536):IntKind.wrap .u16 x=x:=by
 show x%65536=x
 omega
theorem tA (w a:Nat):BitVec.ofInt w (a:Int)=BitVec.ofNat w a:=by
 apply BitVec.eq_of_toNat_eq
 simp
theorem D9 (k:Nat):(2:Int) ^ k=((2 ^ k:Nat):Int):=by simp
theorem AV (a k:Nat):Int.fdiv (a:Int) (2 ^ k)=((a / 2 ^ k:Nat):Int):=by
 rw [D9 k,Int.fdiv_eq_ediv_of_nonneg _ (Int.natCast_nonneg _)]
 rfl
def inR (lo hi:Int) (c:UInt8):Bool:=decide (((c.toNat:Nat):Int)>=lo)&&decide (((c.toNat:Nat):Int)<=hi)
def cnt (lo hi:Int) (l:List UInt8):Nat:=l.countP (inR lo hi)
theorem yw (lo hi:Int) (l:List UInt8):cnt lo hi l<=l.length:=List.countP_le_length
theorem BY (lo hi:Int) {l:List UInt8} {i:Nat} {c:UInt8} (h:l[i]?=some c):cnt lo hi (l.take (i+1))=cnt lo hi (l.take i)+if inR lo hi c then 1 else 0:=by
 unfold cnt
 rw [List.take_add_one,h,List.countP_append]
 simp [List.countP_cons]
theorem v6 (n:Nat) (s:List UInt8) (lo hi:Int) (hs:s.length<n) (hb:s.length<100000):dB n s lo hi=some ((cnt lo hi s:Nat):Int):=by
 have:=dt (step:=dK n) (λx=>∃i:Nat,i<=s.length/\x=(s,lo,hi,((cnt lo hi (s.take i):Nat):Int),(i:Int))) (λx=>s.length - x.2.2.2.2.toNat) (λ_=>((cnt lo hi s:Nat):Int)) ?_ n (s,lo,hi,0,0) ⟨0,by omega,by simp [cnt]⟩ (by simp;omega)
 ·simp only [dB,this,ob]
 rintro x ⟨i,hi',rfl⟩
 rcases Nat.lt_or_ge i s.length with hlt | hge
 ·obtain ⟨c,hc⟩:∃c,s[i]?=some c:=⟨s[i],List.getElem?_eq_getElem hlt⟩
  have hct:=BY lo hi hc
  have hle:=yw lo hi (s.take i)
  rw [List.length_take] at hle
  have w1:IntKind.wrap .i64 ((i:Int)+1)=((i+1:Nat):Int):=by rw [wrap_i64 _ (by omega) (by omega)];omega
  have w2:IntKind.wrap .i64 (((cnt lo hi (s.take i):Nat):Int)+1)=((cnt lo hi (s.take i)+1:Nat):Int):=by rw [wrap_i64 _ (by omega) (by omega)];omega
  refine .inl ⟨(s,lo,hi,((cnt lo hi (s.take (i+1)):Nat):Int),((i+1:Nat):Int)),?_,⟨i+1,hlt,rfl⟩,by simp only [Int.toNat_natCast];omega,rfl⟩
  simp only [dK,ee,hlt,decide_true,cond_true,cn hc,ob,w1,w2]
  rw [hct]
  by_cases h1:((c.toNat:Nat):Int)>=lo
  ·by_cases h2:((c.toNat:Nat):Int)<=hi
   ·simp [h1,h2,inR]
   ·simp [h1,h2,inR]
  ·simp [h1,inR]
 ·have:i=s.length:=by omega
  subst this
  refine .inr ?_
  simp only [dK,ee,Nat.lt_irrefl,decide_false,cond_false,List.take_length]
theorem xy (lo hi:Int) (l:List UInt8):cnt lo hi l=l.length↔∀c∈l,inR lo hi c=true:=by
 unfold cnt
 rw [List.countP_eq_length]
theorem AS (lo hi:Int) (l:List UInt8):cnt lo hi l=0↔∀c∈l,inR lo hi c=false:=by
 unfold cnt
 rw [List.countP_eq_zero]
 simp
def az (c:UInt8):Bool:=inR 48 57 c
theorem aQ (c:UInt8):az c=true↔48<=c.toNat/\c.toNat<=57:=by
 unfold az inR
 simp only [Bool.and_eq_true,decide_eq_true_eq]
 omega
theorem rL (c:UInt8):inR 88 88 c=true↔c=88:=by
 unfold inR
 simp only [Bool.and_eq_true,decide_eq_true_eq]
 constructor
 ·intro h
  apply UInt8.toNat_inj.1
  show c.toNat=88
  omega
 ·rintro rfl;decide
theorem ye (c:UInt8):inR 48 48 c=true↔c=48:=by
 unfold inR
 simp only [Bool.and_eq_true,decide_eq_true_eq]
 constructor
 ·intro h
  apply UInt8.toNat_inj.1
  show c.toNat=48
  omega
 ·rintro rfl;decide
theorem yW:∀l:List UInt8,cnt 48 57 l+cnt 88 88 l<=l.length/\(cnt 48 57 l+cnt 88 88 l=l.length↔∀c∈l,az c=true\/c=88)
 | []=>by simp [cnt]
 | c::l=>by
  have ih:=yW l
  have e1:cnt 48 57 (c::l)=cnt 48 57 l+if inR 48 57 c then 1 else 0:=by simp [cnt,List.countP_cons]
  have e2:cnt 88 88 (c::l)=cnt 88 88 l+if inR 88 88 c then 1 else 0:=by simp [cnt,List.countP_cons]
  have hd:¬(inR 48 57 c=true/\inR 88 88 c=true):=by
   rintro ⟨h1,h2⟩
   have:=(aQ c).1 h1
   rw [(rL c).1 h2] at this
   exact absurd this.2 (by decide)
  rw [e1,e2,List.length_cons]
  simp only [List.mem_cons,forall_eq_or_imp]
  have hx:=rL c
  have hg:az c=inR 48 57 c:=rfl
  rw [hg]
  cases h1:inR 48 57 c<;>cases h2:inR 88 88 c
  ·simp only [h1,h2] at hx ⊢
   have:c≠88:=λe=>by simpa using hx.2 e
   simp [this];omega
  ·simp only [h1,h2] at hx ⊢
   have:c=88:=hx.1 trivial
   simp only [this,Bool.false_eq_true,if_true,if_false,false_or,true_and]
   rw [<-ih.2]
   omega
  ·simp only [h1,h2] at hx ⊢
   simp only [Bool.false_eq_true,if_true,if_false,true_or,true_and]
   rw [<-ih.2]
   omega
  ·exact absurd ⟨h1,h2⟩ hd
theorem y5 (n:Nat) (s set:List UInt8) (ha:asc set) (hn:set.length<n) (hl:set.length<=100) (hs:s.length<n):
  ∃y,ah (bv n) n (true,set,s,0)=some y/\((y=.inr ()/\s.all (hasB set)=true)\/∃i:Nat,y=.inl (i:Int)/\s.all (hasB set)=false):=by
 refine jv (step:=bv n) (λx=>x.1=true/\x.2.1=set/\x.2.2.1=s/\s.all (hasB set)=(s.drop x.2.2.2).all (hasB set)) (λx=>s.length - x.2.2.2) _ ?_ n _ ⟨rfl,rfl,rfl,rfl⟩ (by simp only;omega)
 rintro ⟨b,st,s',p⟩ ⟨hb,hst,hs',hall⟩
 simp only at hb hst hs' hall
 rw [hb,hst,hs']
 clear hb hst hs' b st s'
 rcases Nat.lt_or_ge p s.length with hlt | hge
 ·obtain ⟨c,hc⟩:∃c,s[p]?=some c:=⟨s[p],List.getElem?_eq_getElem hlt⟩
  have hbl:Nat.blt p s.length=true:=Nat.ble_eq_true_of_le hlt
  rw [aY hc,List.all_cons] at hall
  rcases Nat.lt_or_ge c.toNat 128 with h128 | h128
  ·have hd:=uh hc h128
   simp only [bv,hbl,cond_true,fL,hd,nH n set c h128,ob]
   cases hh:hasB set c with
   | true=>
    rw [hh,Bool.true_and] at hall
    exact .inl ⟨_,rfl,⟨rfl,rfl,rfl,hall⟩,by simp only;omega⟩
   | false=>
    rw [hh,Bool.false_and] at hall
    exact .inr ⟨_,rfl,.inr ⟨p,rfl,hall⟩⟩
  ·have hd:=v8 hc h128
   have hh:hasB set c=false:=by
    unfold hasB
    rw [List.any_eq_false]
    intro x hx he
    simp only [beq_iff_eq] at he
    have:=ha x hx
    rw [he] at this
    omega
   rw [hh,Bool.false_and] at hall
   have hcr:=oq n set ha hn hl (((dec s p).1:Nat):Int) (by omega)
   simp only [bv,hbl,cond_true,fL,hcr,ob]
   exact .inr ⟨_,rfl,.inr ⟨p,rfl,hall⟩⟩
 ·have hbl:Nat.blt p s.length=false:=by
   cases hb:Nat.blt p s.length with
   | false=>rfl
   | true=>exact absurd (Nat.le_of_ble_eq_true hb) (by omega)
  simp only [bv,hbl,cond_false]
  rw [List.drop_eq_nil_of_le hge] at hall
  exact .inr ⟨_,rfl,.inl ⟨rfl,by rw [hall];rfl⟩⟩
theorem zj (n:Nat) (s set:List UInt8) (ha:asc set) (hn:set.length<n) (hl:set.length<=100) (hs:s.length<n):dx n s set=some (s.all (hasB set)):=by
 obtain ⟨y,h1,h2⟩:=y5 n s set ha hn hl hs
 simp only [dx,gP,gG,h1,ob]
 rcases h2 with ⟨rfl,h3⟩ | ⟨i,rfl,h3⟩
 ·rw [h3];rfl
 ·rw [h3]
  simp only [Option.some.injEq,decide_eq_false_iff_not]
  omega
theorem Ap:asc [48,49,50,51,52,53,54,55,56,57]:=by unfold asc;decide
theorem yX:asc [88,48,49,50,51,52,53,54,55,56,57]:=by unfold asc;decide
theorem jH (p:UInt8->Bool) (h:∀i:Fin 256,p (UInt8.ofNat i.val)=true) (c:UInt8):p c=true:=by
 have:=h ⟨c.toNat,c.toNat_lt⟩
 simpa using this
theorem oE (c:UInt8):hasB [48,49,50,51,52,53,54,55,56,57] c=az c:=by
 have:=jH (λc=>hasB [48,49,50,51,52,53,54,55,56,57] c==az c) (by decide +kernel) c
 simpa using this
theorem mR (c:UInt8):hasB [88,48,49,50,51,52,53,54,55,56,57] c=(az c||c==88):=by
 have:=jH (λc=>hasB [88,48,49,50,51,52,53,54,55,56,57] c==(az c||c==88)) (by decide +kernel) c
 simpa using this
theorem xm (n:Nat) (s:List UInt8) (hn:100<n) (hs:s.length<n):dx n s [48,49,50,51,52,53,54,55,56,57]=some (s.all az):=by
 rw [zj n s _ Ap (by simp;omega) (by simp) hs]
 congr 2
 funext c
 exact oE c
theorem wX (n:Nat) (s:List UInt8) (hn:100<n) (hs:s.length<n):dx n s [88,48,49,50,51,52,53,54,55,56,57]=some (s.all λc=>az c||c==88):=by
 rw [zj n s _ yX (by simp;omega) (by simp) hs]
 congr 2
 funext c
 exact mR c
def all0 (s:List UInt8):Bool:=s.all λc=>c==48
theorem Gf (n:Nat) (s:List UInt8) (hs:s.length<n) (hb:s.length<100000):∃y,dq n s 48=some y/\all0 s=all0 y/\y.length<=s.length:=by
 obtain ⟨y,h1,h2⟩:=jv (step:=bM n) (λx=>x.2=48/\all0 s=all0 x.1/\x.1.length<=s.length) (λx=>x.1.length) (λy=>all0 s=all0 y/\y.length<=s.length) (by
  rintro ⟨l,c⟩ ⟨rfl,h,hl⟩
  simp only at h hl
  by_cases h0:l.length>0
  ·have d0:decide (((l.length:Nat):Int)>0)=true:=decide_eq_true (by omega)
   have w1:IntKind.wrap .i64 (((l.length:Nat):Int) - 1)=((l.length - 1:Nat):Int):=by rw [wrap_i64 _ (by omega) (by omega)];omega
   obtain ⟨c,hc⟩:∃c,l[l.length - 1]?=some c:=⟨l[l.length - 1],List.getElem?_eq_getElem (by omega)⟩
   simp only [bM,d0,cond_true,w1,cn hc,ob]
   by_cases he:c=48
   ·have e1:(((c.toNat:Nat):Int)==48)=true:=by rw [he];rfl
    simp only [e1,cond_true,bY (show l.length - 1<=l.length by omega),List.drop_zero]
    refine .inl ⟨(List.take (l.length - 1) l,48),rfl,⟨rfl,?_,by show (List.take (l.length - 1) l).length<=s.length;rw [List.length_take];omega⟩,by show (List.take (l.length - 1) l).length<l.length;rw [List.length_take];omega⟩
    rw [h]
    have:l=l.take (l.length - 1)++[c]:=by
     have h2:=List.take_add_one (l:=l) (i:=l.length - 1)
     rw [hc,show l.length - 1+1=l.length by omega,List.take_length] at h2
     exact h2
    rw [this]
    simp only [all0,List.all_append,List.all_cons,List.all_nil,he]
    simp
   ·have e1:(((c.toNat:Nat):Int)==48)=false:=by
     rw [beq_eq_false_iff_ne]
     intro e
     exact he (UInt8.toNat_inj.1 (by show c.toNat=48;omega))
    simp only [e1,cond_false]
    exact .inr ⟨_,rfl,h,hl⟩
  ·have d0:decide (((l.length:Nat):Int)>0)=false:=decide_eq_false (by omega)
   simp only [bM,d0,cond_false]
   exact .inr ⟨_,rfl,h,hl⟩) n (s,48) ⟨rfl,rfl,Nat.le_refl _⟩ hs
 exact ⟨y,by simp only [dq,h1,ob],h2⟩
theorem GP (n:Nat) (s:List UInt8) (hs:s.length<n) (hb:s.length<100000):∃y,dF n s 48=some y/\all0 s=(y==[]):=by
 obtain ⟨y,h1,h2⟩:=jv (step:=cR n) (λx=>x.2=48/\all0 s=all0 x.1/\x.1.length<=s.length) (λx=>x.1.length) (λy=>all0 s=(y==[])) (by
  rintro ⟨l,c⟩ ⟨rfl,h,hl⟩
  simp only at h hl
  cases l with
  | nil=>exact .inr ⟨[],rfl,by rw [h];rfl⟩
  | cons c l=>
   have d0:decide ((((c::l).length:Nat):Int)>0)=true:=decide_eq_true (by simp only [List.length_cons];omega)
   have hc:sx (c::l) 0=some c:=by simp [sx]
   simp only [cR,d0,cond_true,hc,ob]
   by_cases he:c=48
   ·have e1:(((c.toNat:Nat):Int)==48)=true:=by rw [he];rfl
    have hbx:bx (c::l).length 1=some 1:=bY (i:=1) (by simp)
    simp only [e1,cond_true,hbx,List.take_length,List.drop_succ_cons,List.drop_zero]
    refine .inl ⟨_,rfl,⟨rfl,?_,by show l.length<=s.length;simp only [List.length_cons] at hl;omega⟩,by simp⟩
    rw [h]
    simp [all0,he]
   ·have e1:(((c.toNat:Nat):Int)==48)=false:=by
     rw [beq_eq_false_iff_ne]
     intro e
     exact he (UInt8.toNat_inj.1 (by show c.toNat=48;omega))
    simp only [e1,cond_false]
    refine .inr ⟨_,rfl,?_⟩
    rw [h]
    have e2:(c==48)=false:=beq_eq_false_iff_ne.2 he
    simp [all0,e2]) n (s,48) ⟨rfl,rfl,Nat.le_refl _⟩ hs
 exact ⟨y,by simp only [dF,h1,ob],h2⟩
theorem DZ (n:Nat) (s:List UInt8) (hs:s.length<n) (hb:s.length<100000):∃y,jg n s=some y/\(y==[])=all0 s:=by
 unfold jg
 by_cases h:s=[]
 ·subst h;exact ⟨[],rfl,rfl⟩
 ·have:(s==([]:List UInt8))=false:=beq_eq_false_iff_ne.2 h
  obtain ⟨y,h1,h2,h3⟩:=Gf n s hs hb
  obtain ⟨z,h4,h5⟩:=GP n y (by omega) (by omega)
  exact ⟨z,by simp only [this,cond_false,h1,h4,ob],by rw [h2,h5]⟩
theorem BQ (s:List UInt8):all0 s=true↔cnt 48 48 s=s.length:=by
 rw [xy]
 unfold all0
 rw [List.all_eq_true]
 constructor
 ·intro h c hc
  have:=h c hc
  rw [beq_iff_eq] at this
  exact (ye c).2 this
 ·intro h c hc
  rw [beq_iff_eq]
  exact (ye c).1 (h c hc)
def hasX (s:List UInt8):Bool:=s.any λc=>c==88
theorem vu (s:List UInt8):hasX s=decide (0<cnt 88 88 s):=by
 have:=AS 88 88 s
 unfold hasX
 cases h:s.any λc=>c==88 with
 | true=>
  obtain ⟨c,hc,he⟩:=List.any_eq_true.1 h
  rw [beq_iff_eq] at he
  symm
  rw [decide_eq_true_eq]
  rcases Nat.eq_zero_or_pos (cnt 88 88 s) with h0 | h0
  ·have:=this.1 h0 c hc
   rw [(rL c).2 he] at this
   cases this
  ·exact h0
 | false=>
  symm
  rw [decide_eq_false_iff_not]
  intro h0
  have:cnt 88 88 s=0:=this.2 λc hc=>by
   cases hx:inR 88 88 c with
   | false=>rfl
   | true=>
    rw [List.any_eq_false] at h
    exact absurd (beq_iff_eq.2 ((rL c).1 hx)) (h c hc)
  omega
theorem tv (n:Nat) (s:List UInt8):dY n s=some (hasX s):=by
 have e:UInt8.ofNat (Int.toNat 88)=(88:UInt8):=rfl
 have hi:iD n s=some (Lib.indexByte s 88):=by
  simp only [iD,eJ,bD,ob,e]
  by_cases h:([88]:List UInt8)=s
  ·subst h;rfl
  ·have:(([88]:List UInt8)==s)=false:=beq_eq_false_iff_ne.2 h
   simp only [this,cond_false]
 simp only [dY,hi,ob,jM]
 rfl
theorem mK (n:Nat) (g l:Bool) (d:List UInt8) (x q:Int):bH n g l d x q=some (hasX d):=by
 simp only [bH,tv,ob]
theorem jL (n:Nat) (g l:Bool) (d:List UInt8) (x q:Int) (hs:d.length<n) (hb:d.length<100000):ak n g l d x q=some (if hasX d then 1 else 0):=by
 simp only [ak,v6 n d 88 88 hs hb,ob,vu,decide_eq_true_eq]
 by_cases h:0<cnt 88 88 d
 ·have:decide (((cnt 88 88 d:Nat):Int)<1)=false:=decide_eq_false (by omega)
  simp [this,h]
 ·have:decide (((cnt 88 88 d:Nat):Int)<1)=true:=decide_eq_true (by omega)
  have h0:cnt 88 88 d=0:=by omega
  simp [this,h0]
def nI (acc:Nat) (c:UInt8):Nat:=acc*10+(c.toNat - 48)
def dval (acc:Nat) (l:List UInt8):Nat:=l.foldl nI acc
theorem kl (acc:Nat):dval acc []=acc:=by unfold dval;rw [List.foldl_nil]
theorem jJ (acc:Nat) (c:UInt8) (l:List UInt8):dval acc (c::l)=dval (nI acc c) l:=by
 unfold dval;rw [List.foldl_cons]
theorem vZ (l:List UInt8) (acc:Nat) (c:UInt8):dval acc (l++[c])=dval acc l*10+(c.toNat - 48):=by
 have:dval acc (l++[c])=nI (dval acc l) c:=by
  unfold dval;rw [List.foldl_append,List.foldl_cons,List.foldl_nil]
 rw [this]
 rfl
theorem DK (M:Nat) (hM:10000000000000000000<=M) (l:List UInt8):∀(acc k:Nat),(∀c∈l,az c=true)->acc<10 ^ k->l.length+k<=18->Lib.parseUintM M acc l=.ok (dval acc l)/\dval acc l<10 ^ (l.length+k):=by
 induction l with
 | nil=>
  intro acc k _ h1 _
  rw [kl]
  refine ⟨rfl,?_⟩
  simpa using h1
 | cons c l ih=>
  intro acc k h h1 h2
  have hc:=(aQ c).1 (h c (by simp))
  simp only [List.length_cons] at h2
  have hp:(10:Nat) ^ (k+1)=10 ^ k*10:=Nat.pow_succ 10 k
  have hle:(10:Nat) ^ (k+1)<=10 ^ 18:=Nat.pow_le_pow_right (by decide) (by omega)
  have h18:(10:Nat) ^ 18=1000000000000000000:=by decide
  have hd:nI acc c=acc*10+(c.toNat - 48):=rfl
  have ih:=ih (nI acc c) (k+1) (λd hd=>h d (by simp [hd])) (by omega) (by omega)
  refine ⟨?_,?_⟩
  ·simp only [Lib.parseUintM]
   rw [if_pos hc,if_neg (by omega),if_neg (by omega),<-hd,ih.1,jJ]
  ·rw [jJ,List.length_cons,show l.length+1+k=l.length+(k+1) by omega]
   exact ih.2
theorem wY {l:List UInt8} (h:∀c∈l,az c=true) (h0:l≠[]) (hl:l.length<=18):ot l=some ((dval 0 l:Nat):Int)/\dval 0 l<10 ^ l.length:=by
 obtain ⟨h1,h2⟩:=DK (2 ^ 64 - 1) (by decide) l 0 0 h (by simp) (by omega)
 refine ⟨?_,by simpa using h2⟩
 have hlt:dval 0 l<10 ^ 18:=Nat.lt_of_lt_of_le h2 (Nat.pow_le_pow_right (by decide) (by omega))
 cases l with
 | nil=>exact absurd rfl h0
 | cons c r=>
  have hc:=(aQ c).1 (h c (by simp))
  have hu:Lib.parseUintB 64 (c::r)=.ok (dval 0 (c::r)):=by
   unfold Lib.parseUintB
   rw [if_neg h0,h1]
  have hs:¬(c.toNat=43\/c.toNat=45):=by omega
  simp only [ot,Lib.parseIntB,hs,if_false,hu]
  have h18:(10:Nat) ^ 18=1000000000000000000:=by decide
  have h63:(2:Nat) ^ (64 - 1)=9223372036854775808:=by decide
  have hn:¬c.toNat=45:=by omega
  simp only [hn,not_false_eq_true,true_and,false_and,if_false]
  rw [h63,if_neg (by omega)]
theorem B7 (n k:Nat) (hk:k<=18) (hn:18<n):jw n (k:Int)=some (((10 ^ k:Nat):Int),0):=by
 have h18:(10:Nat) ^ 18=1000000000000000000:=by decide
 have:=dt (step:=gx n) (λx=>∃i:Nat,i<=k/\x=(((10 ^ i:Nat):Int),(k:Int),(i:Int))) (λx=>k - x.2.2.toNat) (λ_=>((10 ^ k:Nat):Int)) (by
  rintro x ⟨i,hi,rfl⟩
  rcases Nat.lt_or_ge i k with hlt | hge
  ·have hle:(10:Nat) ^ (i+1)<=10 ^ 18:=Nat.pow_le_pow_right (by decide) (by omega)
   have hp:(10:Nat) ^ (i+1)=10 ^ i*10:=Nat.pow_succ 10 i
   have w1:IntKind.wrap .i64 (((10 ^ i:Nat):Int)*10)=((10 ^ (i+1):Nat):Int):=by rw [wrap_i64 _ (by omega) (by omega)];omega
   have w2:IntKind.wrap .i64 ((i:Int)+1)=((i+1:Nat):Int):=by rw [wrap_i64 _ (by omega) (by omega)];omega
   refine .inl ⟨_,?_,⟨i+1,hlt,rfl⟩,by simp only [Int.toNat_natCast];omega,rfl⟩
   simp only [gx,ee,hlt,decide_true,cond_true,w1,w2]
  ·have:i=k:=by omega
   subst this
   refine .inr ?_
   simp only [gx,ee,Nat.lt_irrefl,decide_false,cond_false]) n (1,(k:Int),0) ⟨0,by omega,rfl⟩ (by simp;omega)
 have d1:decide ((k:Int)<0)=false:=decide_eq_false (by omega)
 have d2:decide ((k:Int)>18)=false:=decide_eq_false (by omega)
 simp only [jw,d1,d2,cond_false,this,ob]
theorem gp (x:Int) (h0:0<=x) (h1:x<18446744073709551616):IntKind.wrap .u64 x=x:=by
 show x%18446744073709551616=x
 omega
theorem uB (x:Int):IntKind.wrap .u64 x=x%18446744073709551616:=rfl
theorem z7 {a:Nat} (ha:a<18446744073709551616):bits .and .u64 (a:Int) 4294967295=((a%4294967296:Nat):Int):=by
 show IntKind.wrap .u64 ((BitVec.ofInt 64 (a:Int) &&& BitVec.ofInt 64 ((4294967295:Nat):Int)).toNat:Int)=_
 rw [tA,tA,BitVec.toNat_and,BitVec.toNat_ofNat,BitVec.toNat_ofNat,Nat.mod_eq_of_lt (show a<2 ^ 64 from ha),Nat.mod_eq_of_lt (by decide)]
 have:=Nat.and_two_pow_sub_one_eq_mod a 32
 rw [show (2:Nat) ^ 32 - 1=4294967295 from by decide,show (2:Nat) ^ 32=4294967296 from by decide] at this
 rw [this]
 exact gp _ (by omega) (by omega)
theorem BV (a:Nat):Int.fdiv (a:Int) (2 ^ 32)=((a / 4294967296:Nat):Int):=by
 rw [AV]
theorem u4 {a b A B:Nat} (ha:a<=A) (hb:b<=B):a*b<=A*B:=Nat.mul_le_mul ha hb
theorem xR (a b:Nat):a*b=(a / 4294967296)*(b / 4294967296)*18446744073709551616+((a / 4294967296)*(b%4294967296)+(a%4294967296)*(b / 4294967296))*4294967296+(a%4294967296)*(b%4294967296):=by
 have e1:a=(a / 4294967296)*4294967296+a%4294967296:=by omega
 have e2:b=(b / 4294967296)*4294967296+b%4294967296:=by omega
 generalize a / 4294967296=x1 at e1 ⊢
 generalize a%4294967296=x0 at e1 ⊢
 generalize b / 4294967296=y1 at e2 ⊢
 generalize b%4294967296=y0 at e2 ⊢
 subst e1 e2
 rw [Nat.add_mul,Nat.mul_add,Nat.mul_add]
 have h1:x1*4294967296*(y1*4294967296)=x1*y1*18446744073709551616:=by
  rw [Nat.mul_mul_mul_comm]
 have h2:x1*4294967296*y0=x1*y0*4294967296:=by rw [Nat.mul_right_comm]
 have h3:x0*(y1*4294967296)=x0*y1*4294967296:=by rw [Nat.mul_assoc]
 rw [h1,h2,h3,Nat.add_mul]
 omega
theorem GN (n a b:Nat) (ha:a<18446744073709551616) (hb:b<18446744073709551616):gy n (a:Int) (b:Int)=some (((a*b / 18446744073709551616:Nat):Int),((a*b%18446744073709551616:Nat):Int)):=by
 have hsp:=xR a b
 have hx1:a / 4294967296<=4294967295:=by omega
 have hx0:a%4294967296<=4294967295:=by omega
 have hy1:b / 4294967296<=4294967295:=by omega
 have hy0:b%4294967296<=4294967295:=by omega
 have p00:=u4 hx0 hy0
 have p01:=u4 hx0 hy1
 have p10:=u4 hx1 hy0
 have p11:=u4 hx1 hy1
 have hlo:IntKind.wrap .u64 ((a:Int)*(b:Int))=((a*b%18446744073709551616:Nat):Int):=by
  rw [uB,<-Int.natCast_mul];omega
 simp only [gy,BV,z7 ha,z7 hb,hlo]
 simp only [<-Int.natCast_mul]
 generalize (a / 4294967296)*(b / 4294967296)=q11 at *
 generalize (a / 4294967296)*(b%4294967296)=q10 at *
 generalize (a%4294967296)*(b / 4294967296)=q01 at *
 generalize (a%4294967296)*(b%4294967296)=q00 at *
 generalize a*b=N at *
 have w1:IntKind.wrap .u64 ((q00:Nat):Int)=((q00:Nat):Int):=gp _ (by omega) (by omega)
 have w2:IntKind.wrap .u64 ((q10:Nat):Int)=((q10:Nat):Int):=gp _ (by omega) (by omega)
 have w3:IntKind.wrap .u64 ((q01:Nat):Int)=((q01:Nat):Int):=gp _ (by omega) (by omega)
 have w4:IntKind.wrap .u64 ((q11:Nat):Int)=((q11:Nat):Int):=gp _ (by omega) (by omega)
 rw [w1,w2,w3,w4,BV q00]
 have w5:IntKind.wrap .u64 (((q10:Nat):Int)+((q00 / 4294967296:Nat):Int))=((q10+q00 / 4294967296:Nat):Int):=by rw [gp _ (by omega) (by omega)];omega
 rw [w5,BV,z7 (by omega)]
 have w6:IntKind.wrap .u64 (((q11:Nat):Int)+(((q10+q00 / 4294967296) / 4294967296:Nat):Int))=((q11+(q10+q00 / 4294967296) / 4294967296:Nat):Int):=by rw [gp _ (by omega) (by omega)];omega
 have w7:IntKind.wrap .u64 ((((q10+q00 / 4294967296)%4294967296:Nat):Int)+((q01:Nat):Int))=(((q10+q00 / 4294967296)%4294967296+q01:Nat):Int):=by rw [gp _ (by omega) (by omega)];omega
 rw [w6,w7,BV]
 have w8:IntKind.wrap .u64 (((q11+(q10+q00 / 4294967296) / 4294967296:Nat):Int)+((((q10+q00 / 4294967296)%4294967296+q01) / 4294967296:Nat):Int))=((N / 18446744073709551616:Nat):Int):=by
  rw [gp _ (by omega) (by omega)];omega
 rw [w8]
theorem Ff (n a b:Nat) (ha:a<9223372036854775808) (hb:b<9223372036854775808):n9 n (a:Int) (b:Int)=some (if a*b<9223372036854775808 then (((a*b:Nat):Int),0) else (0,15)):=by
 have d1:decide ((a:Int)<0)=false:=decide_eq_false (by omega)
 have d2:decide ((b:Int)<0)=false:=decide_eq_false (by omega)
 have w1:IntKind.wrap .u64 (a:Int)=a:=gp _ (by omega) (by omega)
 have w2:IntKind.wrap .u64 (b:Int)=b:=gp _ (by omega) (by omega)
 simp only [n9,mv,d1,d2,cond_false,w1,w2,ob,GN n a b (by omega) (by omega)]
 generalize a*b=N
 by_cases h:18446744073709551616<=N
 ·have d3:decide (((N / 18446744073709551616:Nat):Int)>0)=true:=decide_eq_true (by omega)
  rw [d3,if_neg (by omega)]
  rfl
 ·have d3:decide (((N / 18446744073709551616:Nat):Int)>0)=false:=decide_eq_false (by omega)
  have e:N%18446744073709551616=N:=Nat.mod_eq_of_lt (by omega)
  rw [d3,e]
  simp only [cond_false,BEq.rfl,Bool.not_true,lV,Bool.not_false,cond_true]
  by_cases h2:N<9223372036854775808
  ·have d4:decide (((N:Nat):Int)<=9223372036854775807)=true:=decide_eq_true (by omega)
   rw [d4,if_pos h2,cond_true,wrap_i64 _ (by omega) (by omega)]
  ·have d4:decide (((N:Nat):Int)<=9223372036854775807)=false:=decide_eq_false (by omega)
   rw [d4,if_neg h2,cond_false]
def E16:Nat:=10000000000000000
theorem Ek {x:Nat} (hx:17<=x):E16<10 ^ x:=by
 have:(10:Nat) ^ 17<=10 ^ x:=Nat.pow_le_pow_right (by decide) hx
 have h17:(10:Nat) ^ 17=100000000000000000:=by decide
 unfold E16
 omega
theorem zi (n:Nat) (g l:Bool) (d:List UInt8) (x:Nat) (s:Int) (hd:∀c∈d,az c=true) (h0:d≠[]) (hl:d.length<=17) (hx:x<=18) (hn:18<n):
  ch n g l d (x:Int) s=some (if dval 0 d*10 ^ x<=E16 then (((dval 0 d*10 ^ x:Nat):Int),0) else (0,6)):=by
 obtain ⟨h1,h2⟩:=wY hd h0 (by omega)
 have hv:dval 0 d<10 ^ 17:=Nat.lt_of_lt_of_le h2 (Nat.pow_le_pow_right (by decide) hl)
 have hp:(10:Nat) ^ x<=10 ^ 18:=Nat.pow_le_pow_right (by decide) hx
 have h17:(10:Nat) ^ 17=100000000000000000:=by decide
 have h18:(10:Nat) ^ 18=1000000000000000000:=by decide
 have hb:Nat.ble d.length 9223372036854775806=true:=Nat.ble_eq_true_of_le (by omega)
 simp only [ch,hb,cond_true,h1,ob,B7 n x hx hn,bne_self_eq_false,cond_false,Ff n _ _ (show dval 0 d<9223372036854775808 by omega) (show 10 ^ x<9223372036854775808 by omega)]
 generalize dval 0 d*10 ^ x=N
 unfold E16
 by_cases h:N<9223372036854775808
 ·rw [if_pos h]
  simp only [bne_self_eq_false,cond_false]
  by_cases h3:N<=10000000000000000
  ·have d1:decide (((N:Nat):Int)>10000000000000000)=false:=decide_eq_false (by omega)
   rw [d1,if_pos h3,cond_false]
  ·have d1:decide (((N:Nat):Int)>10000000000000000)=true:=decide_eq_true (by omega)
   rw [d1,if_neg h3,cond_true]
 ·rw [if_neg h,if_neg (by omega)]
  rfl
def pre (d:List UInt8) (i:Nat):Nat:=dval 0 (d.take i)*10 ^ (i - d.length)
theorem CC {d:List UInt8} {i:Nat} {c:UInt8} (h:d[i]?=some c):pre d (i+1)=10*pre d i+(c.toNat - 48):=by
 have hlt:=mj h
 unfold pre
 rw [List.take_add_one,h,show i+1 - d.length=0 by omega,show i - d.length=0 by omega]
 simp only [Option.toList,vZ,Nat.pow_zero,Nat.mul_one]
 omega
theorem Cw {d:List UInt8} {i:Nat} (h:d.length<=i):pre d (i+1)=10*pre d i:=by
 unfold pre
 rw [List.take_of_length_le (show d.length<=i+1 by omega),List.take_of_length_le h,show i+1 - d.length=(i - d.length)+1 by omega,Nat.pow_succ]
 rw [<-Nat.mul_assoc]
 omega
theorem vq (d:List UInt8):∀k i,pre d i<=pre d (i+k)
 | 0,i=>Nat.le_refl _
 | k+1,i=>by
  have ih:=vq d k i
  rcases Nat.lt_or_ge (i+k) d.length with hlt | hge
  ·have:=CC (List.getElem?_eq_getElem hlt)
   rw [show i+(k+1)=i+k+1 by omega,this]
   omega
  ·have:=Cw hge
   rw [show i+(k+1)=i+k+1 by omega,this]
   omega
theorem fW (n:Nat) (d:List UInt8) (x:Nat) (hd:∀c∈d,az c=true) (hl:d.length<=100) (hx:x<=100) (hn:d.length+x<n):
  ab n d (x:Int)=some (if dval 0 d*10 ^ x<=E16 then (((dval 0 d*10 ^ x:Nat):Int),1) else (0,0)):=by
 have hend:pre d (d.length+x)=dval 0 d*10 ^ x:=by
  unfold pre
  rw [List.take_of_length_le (by omega),show d.length+x - d.length=x by omega]
 have w0:IntKind.wrap .i64 (((d.length:Nat):Int)+(x:Int))=((d.length+x:Nat):Int):=by rw [wrap_i64 _ (by omega) (by omega)];omega
 have:=dt (step:=cS n) (λq=>∃i:Nat,i<=d.length+x/\pre d i<=E16/\q=(d,(x:Int),((pre d i:Nat):Int),(i:Int))) (λq=>d.length+x - q.2.2.2.toNat) (λ_=>if dval 0 d*10 ^ x<=E16 then .inr ((dval 0 d*10 ^ x:Nat):Int) else .inl (0,0)) (by
  rintro q ⟨i,hi,hp,rfl⟩
  simp only [cS,w0,ee]
  unfold E16 at hp ⊢
  have w1:IntKind.wrap .i64 ((i:Int)+1)=((i+1:Nat):Int):=by rw [wrap_i64 _ (by omega) (by omega)];omega
  have w2:IntKind.wrap .i64 (10*((pre d i:Nat):Int))=((10*pre d i:Nat):Int):=by rw [wrap_i64 _ (by omega) (by omega)];omega
  by_cases h1:i<d.length+x
  ·have hm:=vq d (d.length+x - (i+1)) (i+1)
   rw [show i+1+(d.length+x - (i+1))=d.length+x by omega,hend] at hm
   simp only [h1,decide_true,cond_true,w1,w2]
   rcases Nat.lt_or_ge i d.length with hlt | hge
   ·obtain ⟨c,hc⟩:∃c,d[i]?=some c:=⟨d[i],List.getElem?_eq_getElem hlt⟩
    have hdig:=(aQ c).1 (hd c (List.mem_of_getElem? hc))
    have hs:=CC hc
    have w3:IntKind.wrap .u8 (((c.toNat:Nat):Int) - 48)=((c.toNat - 48:Nat):Int):=by rw [dN _ (by omega) (by omega)];omega
    have w4:IntKind.wrap .i64 ((c.toNat - 48:Nat):Int)=((c.toNat - 48:Nat):Int):=wrap_i64 _ (by omega) (by omega)
    have w5:IntKind.wrap .i64 (((10*pre d i:Nat):Int)+((c.toNat - 48:Nat):Int))=((pre d (i+1):Nat):Int):=by rw [wrap_i64 _ (by omega) (by omega)];omega
    simp only [hlt,decide_true,cond_true,cn hc,ob,w3,w4,w5]
    by_cases h2:pre d (i+1)<=10000000000000000
    ·have d1:decide (((pre d (i+1):Nat):Int)>10000000000000000)=false:=decide_eq_false (by omega)
     simp only [d1,cond_false]
     exact .inl ⟨_,rfl,⟨i+1,h1,h2,rfl⟩,by simp only [Int.toNat_natCast];omega,trivial⟩
    ·have d1:decide (((pre d (i+1):Nat):Int)>10000000000000000)=true:=decide_eq_true (by omega)
     simp only [d1,cond_true]
     rw [if_neg (by omega)]
     exact .inr rfl
   ·have hs:=Cw hge
    have hnl:¬i<d.length:=by omega
    simp only [hnl,decide_false,cond_false]
    rw [<-hs]
    by_cases h2:pre d (i+1)<=10000000000000000
    ·have d1:decide (((pre d (i+1):Nat):Int)>10000000000000000)=false:=decide_eq_false (by omega)
     simp only [d1,cond_false]
     exact .inl ⟨_,rfl,⟨i+1,h1,h2,rfl⟩,by simp only [Int.toNat_natCast];omega,trivial⟩
    ·have d1:decide (((pre d (i+1):Nat):Int)>10000000000000000)=true:=decide_eq_true (by omega)
     simp only [d1,cond_true]
     rw [if_neg (by omega)]
     exact .inr rfl
  ·have:i=d.length+x:=by omega
   subst this
   simp only [Nat.lt_irrefl,decide_false,cond_false]
   rw [hend] at hp ⊢
   rw [if_pos hp]
   exact .inr rfl) n (d,(x:Int),0,0) ⟨0,by omega,by unfold pre E16;simp [kl],by unfold pre;simp [kl]⟩ (by simp;omega)
 simp only [ab,this,ob]
 by_cases h:dval 0 d*10 ^ x<=E16
 ·rw [if_pos h,if_pos h]
 ·rw [if_neg h,if_neg h]
def okM (d:List UInt8) (x:Int):Prop:=(∀c∈d,az c=true)/\1<=d.length/\d.length<=17/\d.head?≠some 48/\0<=x/\x<=16/\¬(x=0/\d.length<5)/\dval 0 d*10 ^ x.toNat<=E16
def okL (d:List UInt8) (x s:Int):Prop:=okM d x/\0<=s/\s<=(d.length:Int)+x
def okS (g:Bool) (d:List UInt8) (x s:Int):Prop:=d.length=4/\(∀c∈d,az c=true\/c=88)/\x=0/\¬(g=true/\all0 d=true)/\0<=s/\s<=4/\¬(0<s/\hasX d=true)
def okY (g l:Bool) (d:List UInt8) (x s:Int):Prop:=if l=true then okL d x s else okS g d x s
instance (d:List UInt8) (x:Int):Decidable (okM d x):=by unfold okM;infer_instance
instance (d:List UInt8) (x s:Int):Decidable (okL d x s):=by unfold okL;infer_instance
instance (g:Bool) (d:List UInt8) (x s:Int):Decidable (okS g d x s):=by unfold okS;infer_instance
instance (g l:Bool) (d:List UInt8) (x s:Int):Decidable (okY g l d x s):=by unfold okY;infer_instance
theorem yl (d:List UInt8):d.all az=true↔∀c∈d,az c=true:=List.all_eq_true
theorem wb (d:List UInt8):(d.all λc=>az c||c==88)=true↔∀c∈d,az c=true\/c=88:=by
 rw [List.all_eq_true]
 constructor
 ·intro h c hc
  have:=h c hc
  simpa using this
 ·intro h c hc
  have:=h c hc
  simpa using this
theorem DE (c:UInt8):(((c.toNat:Nat):Int)==48)=(c==48):=ky c 48
theorem DB (n:Nat) (g l:Bool) (d:List UInt8) (x s:Int) (hn:200<n) (hd:d.length<=100):ax n g l d x s=some (decide (okM d x)):=by
 unfold ax
 by_cases h1:d.length<1
 ·have e:decide (((d.length:Nat):Int)<1)=true:=decide_eq_true (by omega)
  rw [e,decide_eq_false (λh:okM d x=>by have:=h.2.1;omega)];rfl
 ·have e:decide (((d.length:Nat):Int)<1)=false:=decide_eq_false (by omega)
  rw [e,cond_false]
  by_cases h2:d.length>17
  ·have e:decide (((d.length:Nat):Int)>17)=true:=decide_eq_true (by omega)
   rw [e,decide_eq_false (λh:okM d x=>by have:=h.2.2.1;omega)];rfl
  ·have e:decide (((d.length:Nat):Int)>17)=false:=decide_eq_false (by omega)
   rw [e,cond_false,xm n d (by omega) (by omega)]
   simp only [ob]
   cases h3:d.all az with
   | false=>
    rw [decide_eq_false (λh:okM d x=>by rw [(yl d).2 h.1] at h3;cases h3)];rfl
   | true=>
    have hdig:=(yl d).1 h3
    obtain ⟨c,r,rfl⟩:∃c r,d=c::r:=by
     cases d with
     | nil=>simp at h1
     | cons c r=>exact ⟨c,r,rfl⟩
    have hsx:sx (c::r) 0=some c:=by simp [sx]
    simp only [Bool.not_true,cond_false,hsx,DE]
    by_cases h4:c=48
    ·rw [decide_eq_false (λh:okM (c::r) x=>h.2.2.2.1 (by rw [h4];rfl)),h4];rfl
    ·have e:(c==48)=false:=beq_eq_false_iff_ne.2 h4
     rw [e,cond_false]
     by_cases h5:x<0
     ·rw [decide_eq_true h5,decide_eq_false (λh:okM (c::r) x=>by have:=h.2.2.2.2.1;omega)];rfl
     ·rw [decide_eq_false h5,cond_false]
      by_cases h6:x>16
      ·rw [decide_eq_true h6,decide_eq_false (λh:okM (c::r) x=>by have:=h.2.2.2.2.2.1;omega)];rfl
      ·rw [decide_eq_false h6,cond_false]
       obtain ⟨k,rfl⟩:∃k:Nat,x=(k:Int):=⟨x.toNat,by omega⟩
       have hmg:=zi n g l (c::r) k s hdig (by simp) (by omega) (by omega) (by omega)
       rw [hmg]
       have key:¬((k:Int)=0/\(c::r).length<5)->(okM (c::r) (k:Int)↔dval 0 (c::r)*10 ^ k<=E16):=by
        intro hk
        constructor
        ·intro h
         simpa using h.2.2.2.2.2.2.2
        ·intro h
         exact ⟨hdig,by omega,by omega,by simpa using h4,by omega,by omega,hk,by simpa using h⟩
       have fin:¬((k:Int)=0/\(c::r).length<5)->(ob (some (if dval 0 (c::r)*10 ^ k<=E16 then (((dval 0 (c::r)*10 ^ k:Nat):Int),(0:Int)) else (0,6))) λq=>(some (q.2==0)))=some (decide (okM (c::r) (k:Int))):=by
        intro hk
        by_cases h7:dval 0 (c::r)*10 ^ k<=E16
        ·rw [if_pos h7,decide_eq_true ((key hk).2 h7)];rfl
        ·rw [if_neg h7,decide_eq_false (λh=>h7 ((key hk).1 h))];rfl
       by_cases h8:(k:Int)=0
       ·have e:((k:Int)==0)=true:=beq_iff_eq.2 h8
        rw [e,cond_true]
        by_cases h9:(c::r).length<5
        ·have e:decide ((((c::r).length:Nat):Int)<5)=true:=decide_eq_true (by omega)
         rw [e,decide_eq_false (λh:okM (c::r) (k:Int)=>h.2.2.2.2.2.2.1 ⟨h8,h9⟩)];rfl
        ·have e:decide ((((c::r).length:Nat):Int)<5)=false:=decide_eq_false (by omega)
         rw [e,cond_false]
         exact fin (λh=>h9 h.2)
       ·have e:((k:Int)==0)=false:=beq_eq_false_iff_ne.2 h8
        rw [e,cond_false]
        exact fin (λh=>h8 h.1)
theorem Ab (n:Nat) (g l:Bool) (d:List UInt8) (x s:Int) (hn:200<n) (hd:d.length<=100):
  (ob (ax n g l d x s) λr=>(cond (!r) (some (6:Int)) (cond (decide (s<0)) (some 6) (cond (decide (s>(IntKind.wrap .i64 (((d.length:Nat):Int)+x)))) (some 6) (some 0)))))=some (if okL d x s then 0 else 6):=by
 rw [DB n g l d x s hn hd]
 simp only [ob]
 by_cases h:okM d x
 ·rw [decide_eq_true h]
  have hx:=h.2.2.2.2
  have w:IntKind.wrap .i64 (((d.length:Nat):Int)+x)=((d.length:Nat):Int)+x:=wrap_i64 _ (by omega) (by omega)
  rw [w]
  simp only [Bool.not_true,cond_false,aX]
  by_cases h1:s<0
  ·rw [if_pos h1,if_neg (λq:okL d x s=>by have:=q.2.1;omega)]
  ·rw [if_neg h1]
   by_cases h2:s>((d.length:Nat):Int)+x
   ·rw [if_pos h2,if_neg (λq:okL d x s=>by have:=q.2.2;omega)]
   ·rw [if_neg h2,if_pos ⟨h,by omega,by omega⟩]
 ·rw [decide_eq_false h,if_neg (λq:okL d x s=>h q.1)];rfl
theorem qR (n:Nat) (g l:Bool) (d:List UInt8) (x s:Int) (hn:200<n) (hd:d.length<=100):bh n g l d x s=some (if okY g l d x s then 0 else 6):=by
 obtain ⟨y,ht,hy⟩:=DZ n d (by omega) (by omega)
 unfold bh
 rw [wX n d (by omega) (by omega),ht,mK]
 cases l with
 | true=>
  have hok:(if okY g true d x s then (0:Int) else 6)=if okL d x s then 0 else 6:=by simp only [okY,if_true]
  rw [hok]
  have st:=Ab n g true d x s hn hd
  simp only [cond_true]
  generalize (ob (ax n g true d x s) λr=>(cond (!r) (some (6:Int)) (cond (decide (s<0)) (some 6) (cond (decide (s>(IntKind.wrap .i64 (((d.length:Nat):Int)+x)))) (some 6) (some 0)))))=T at st ⊢
  simp only [ob]
  rw [st]
  cases (((d.length:Nat):Int)==4)<;>cases (d.all λc=>az c||c==88)<;>cases (x==0)<;>cases g<;>cases (y==[])<;>cases (s != 0)<;>rfl
 | false=>
  have hok:(if okY g false d x s then (0:Int) else 6)=if okS g d x s then 0 else 6:=by simp only [okY,Bool.false_eq_true,if_false]
  rw [hok]
  simp only [cond_false,ob]
  by_cases h1:d.length=4
  ·have e1:(((d.length:Nat):Int)==4)=true:=beq_iff_eq.2 (by omega)
   rw [e1,cond_true]
   cases h2:(d.all λc=>az c||c==88) with
   | false=>
    rw [if_neg (λq:okS g d x s=>by rw [(wb d).2 q.2.1] at h2;cases h2)];rfl
   | true=>
    have hdX:=(wb d).1 h2
    rw [cond_true]
    by_cases h3:x=0
    ·subst h3
     have w:IntKind.wrap .i64 (((d.length:Nat):Int)+0)=4:=by rw [h1];decide
     rw [w]
     have tail:¬(g=true/\all0 d=true)->(cond (s != 0) (cond (!(!hasX d)) (some (6:Int)) (cond (decide (s<0)) (some 6) (cond (decide (s>4)) (some 6) (some 0)))) (cond (decide (s<0)) (some 6) (cond (decide (s>4)) (some 6) (some 0))))=some (if okS g d 0 s then 0 else 6):=by
      intro hg
      simp only [aX,n6,Bool.not_not]
      by_cases s0:s=0
      ·subst s0
       rw [if_pos rfl,if_neg (by omega),if_neg (by omega),if_pos ⟨h1,hdX,rfl,hg,by omega,by omega,by omega⟩]
      ·rw [if_neg s0]
       cases hX:hasX d with
       | true=>
        by_cases s1:s<0
        ·rw [if_neg (λq:okS g d 0 s=>by have:=q.2.2.2.2.1;omega)];rfl
        ·rw [if_neg (λq:okS g d 0 s=>q.2.2.2.2.2.2 ⟨by omega,hX⟩)];rfl
       | false=>
        rw [cond_false]
        by_cases s1:s<0
        ·rw [if_pos s1,if_neg (λq:okS g d 0 s=>by have:=q.2.2.2.2.1;omega)]
        ·rw [if_neg s1]
         by_cases s2:s>4
         ·rw [if_pos s2,if_neg (λq:okS g d 0 s=>by have:=q.2.2.2.2.2.1;omega)]
         ·rw [if_neg s2,if_pos ⟨h1,hdX,rfl,hg,by omega,by omega,λq=>by rw [hX] at q;cases q.2⟩]
     have e3:((0:Int)==0)=true:=rfl
     rw [e3,cond_true]
     cases g with
     | false=>
      simp only [cond_false]
      exact tail (by simp)
     | true=>
      simp only [cond_true]
      rw [hy]
      cases h4:all0 d with
      | true=>rw [if_neg (λq:okS true d 0 s=>q.2.2.2.1 ⟨rfl,h4⟩)];rfl
      | false=>
       simp only [Bool.not_false,cond_true]
       exact tail (by rw [h4];simp)
    ·have e3:(x==0)=false:=beq_eq_false_iff_ne.2 h3
     rw [e3,if_neg (λq:okS g d x s=>h3 q.2.2.1)];rfl
  ·have e1:(((d.length:Nat):Int)==4)=false:=beq_eq_false_iff_ne.2 (by omega)
   rw [e1,if_neg (λq:okS g d x s=>h1 q.1)];rfl
theorem Dh (d:List UInt8):cnt 48 57 d=d.length↔∀c∈d,az c=true:=xy 48 57 d
theorem tG (n:Nat) (g l:Bool) (d:List UInt8) (x s:Int) (hn:200<n) (hd:d.length<=100):bm n g l d x s=some (if okY g l d x s then 1 else 0):=by
 have hs:=yW d
 have hXc:=vu d
 have h0c:=BQ d
 have hDc:=Dh d
 unfold bm
 rw [v6 n d 48 57 (by omega) (by omega),v6 n d 88 88 (by omega) (by omega),v6 n d 48 48 (by omega) (by omega)]
 simp only [ob]
 generalize hA:cnt 48 57 d=A at *
 generalize hB:cnt 88 88 d=B at *
 have w0:IntKind.wrap .i64 (((A:Nat):Int)+((B:Nat):Int))=((A+B:Nat):Int):=by rw [wrap_i64 _ (by omega) (by omega)];omega
 rw [w0]
 simp only [n6,aX,uX]
 by_cases h1:A+B=d.length
 ·rw [if_pos (by omega)]
  have hdX:=hs.2.1 h1
  by_cases h2:s<0
  ·rw [if_pos h2,if_neg]
   intro q
   unfold okY at q
   split at q
   ·have:=q.2.1;omega
   ·have:=q.2.2.2.2.1;omega
  ·rw [if_neg h2]
   cases l with
   | false=>
    have hok:(if okY g false d x s then (1:Int) else 0)=if okS g d x s then 1 else 0:=by simp only [okY,Bool.false_eq_true,if_false]
    rw [hok,cond_false]
    by_cases h3:d.length=4
    ·rw [if_pos (by omega)]
     by_cases h4:x=0
     ·rw [if_pos h4]
      have tail:¬(g=true/\all0 d=true)->(if s>4 then some (0:Int) else if s>0 then (if ((B:Nat):Int)>0 then some 0 else some 1) else some 1)=some (if okS g d x s then 1 else 0):=by
       intro hg
       by_cases s2:s>4
       ·rw [if_pos s2,if_neg (λq:okS g d x s=>by have:=q.2.2.2.2.2.1;omega)]
       ·rw [if_neg s2]
        by_cases s3:s>0
        ·rw [if_pos s3]
         by_cases hb:((B:Nat):Int)>0
         ·rw [if_pos hb,if_neg (λq:okS g d x s=>q.2.2.2.2.2.2 ⟨by omega,by rw [hXc];exact decide_eq_true (by omega)⟩)]
         ·rw [if_neg hb,if_pos ⟨h3,hdX,h4,hg,by omega,by omega,λq=>by
           have:=q.2
           rw [hXc,decide_eq_true_eq] at this
           omega⟩]
        ·rw [if_neg s3,if_pos ⟨h3,hdX,h4,hg,by omega,by omega,λq=>by omega⟩]
      cases g with
      | false=>rw [cond_false];exact tail (by simp)
      | true=>
       rw [cond_true,eW]
       by_cases h5:all0 d=true
       ·rw [if_pos (by have:=h0c.1 h5;omega),if_neg (λq:okS true d x s=>q.2.2.2.1 ⟨rfl,h5⟩)]
       ·rw [if_neg (λq=>h5 (h0c.2 (by omega)))]
        exact tail (λq=>h5 q.2)
     ·rw [if_neg h4,if_neg (λq:okS g d x s=>h4 q.2.2.1)]
    ·rw [if_neg (by omega),if_neg (λq:okS g d x s=>h3 q.1)]
   | true=>
    have hok:(if okY g true d x s then (1:Int) else 0)=if okL d x s then 1 else 0:=by simp only [okY,if_true]
    rw [hok,cond_true]
    by_cases hb:((B:Nat):Int)>0
    ·rw [if_pos hb,if_neg]
     intro q
     have:=hDc.2 q.1.1
     omega
    ·rw [if_neg hb]
     have hdig:=hDc.1 (by omega)
     by_cases h3:((A:Nat):Int)<1
     ·rw [if_pos h3,if_neg (λq:okL d x s=>by have:=q.1.2.1;omega)]
     ·rw [if_neg h3]
      by_cases h4:((A:Nat):Int)>17
      ·rw [if_pos h4,if_neg (λq:okL d x s=>by have:=q.1.2.2.1;omega)]
      ·rw [if_neg h4]
       obtain ⟨c,r,rfl⟩:∃c r,d=c::r:=by
        cases d with
        | nil=>simp at h1;omega
        | cons c r=>exact ⟨c,r,rfl⟩
       have hsx:sx (c::r) 0=some c:=by simp [sx]
       simp only [hsx,DE,eW]
       by_cases h5:c=48
       ·rw [if_pos h5,if_neg (λq:okL (c::r) x s=>q.1.2.2.2.1 (by rw [h5];rfl))]
       ·rw [if_neg h5]
        by_cases h6:x<0
        ·rw [if_pos h6,if_neg (λq:okL (c::r) x s=>by have:=q.1.2.2.2.2.1;omega)]
        ·rw [if_neg h6]
         by_cases h7:x>16
         ·rw [if_pos h7,if_neg (λq:okL (c::r) x s=>by have:=q.1.2.2.2.2.2.1;omega)]
         ·rw [if_neg h7]
          obtain ⟨k,rfl⟩:∃k:Nat,x=(k:Int):=⟨x.toNat,by omega⟩
          have w1:IntKind.wrap .i64 (((A:Nat):Int)+(k:Int))=((A+k:Nat):Int):=by rw [wrap_i64 _ (by omega) (by omega)];omega
          rw [w1,fW n (c::r) k hdig hd (by omega) (by omega)]
          have hlen:(c::r).length=A:=by omega
          have tail:¬((k:Int)=0/\(c::r).length<5)->(if s>((A+k:Nat):Int) then some (0:Int) else some (if dval 0 (c::r)*10 ^ k<=E16 then (((dval 0 (c::r)*10 ^ k:Nat):Int),(1:Int)) else (0,0)).2)=some (if okL (c::r) (k:Int) s then 1 else 0):=by
           intro hk
           by_cases s2:s>((A+k:Nat):Int)
           ·rw [if_pos s2,if_neg (λq:okL (c::r) (k:Int) s=>by have:=q.2.2;rw [hlen] at this;omega)]
           ·rw [if_neg s2]
            by_cases h8:dval 0 (c::r)*10 ^ k<=E16
            ·rw [if_pos h8,if_pos ⟨⟨hdig,by omega,by omega,by simpa using h5,by omega,by omega,hk,by simpa using h8⟩,by omega,by omega⟩]
            ·rw [if_neg h8,if_neg (λq:okL (c::r) (k:Int) s=>h8 (by simpa using q.1.2.2.2.2.2.2.2))]
          by_cases h8:(k:Int)=0
          ·rw [if_pos h8]
           by_cases h9:((A:Nat):Int)<5
           ·rw [if_pos h9,if_neg (λq:okL (c::r) (k:Int) s=>q.1.2.2.2.2.2.2.1 ⟨h8,by omega⟩)]
           ·rw [if_neg h9]
            exact tail (λq=>by omega)
          ·rw [if_neg h8]
           exact tail (λq=>h8 q.1)
 ·rw [if_neg (by omega),if_neg]
  intro q
  apply h1
  rw [hs.2]
  unfold okY at q
  split at q
  ·exact λc hc=>.inl (q.1.1 c hc)
  ·exact q.2.1
theorem yo:∀(l:List UInt8) (acc:Nat),acc*10 ^ l.length<=dval acc l
 | [],acc=>by rw [kl];simp
 | c::l,acc=>by
  have ih:=yo l (nI acc c)
  rw [jJ,List.length_cons,Nat.pow_succ]
  have h:acc*10<=nI acc c:=Nat.le_add_right _ _
  have h2:=Nat.mul_le_mul_right (10 ^ l.length) h
  have h3:acc*(10 ^ l.length*10)=acc*10*10 ^ l.length:=by rw [Nat.mul_comm (10 ^ l.length) 10,Nat.mul_assoc]
  omega
theorem kN:∀(l:List UInt8) (acc k:Nat),(∀c∈l,az c=true)->acc<10 ^ k->dval acc l<10 ^ (l.length+k)
 | [],acc,k,_,h=>by rw [kl];simpa using h
 | c::l,acc,k,hd,h=>by
  have hc:=(aQ c).1 (hd c (by simp))
  have hp:(10:Nat) ^ (k+1)=10 ^ k*10:=Nat.pow_succ 10 k
  have hs:nI acc c=acc*10+(c.toNat - 48):=rfl
  have ih:=kN l (nI acc c) (k+1) (λd hd'=>hd d (by simp [hd'])) (by omega)
  rw [jJ,List.length_cons,show l.length+1+k=l.length+(k+1) by omega]
  exact ih
structure Num (d:List UInt8) (k q:Nat):Prop where
 dig:∀c∈d,az c=true
 ne:d≠[]
 wide:d.length+k<=17
 small:dval 0 d*10 ^ k<=E16
 sig:q<=d.length+k
theorem mC {d:List UInt8} (h:∀c∈d,az c=true):hasX d=false:=by
 unfold hasX
 rw [List.any_eq_false]
 intro c hc he
 rw [beq_iff_eq] at he
 have:=(aQ c).1 (h c hc)
 rw [he] at this
 exact absurd this.2 (by decide)
theorem my {g l:Bool} {d:List UInt8} {x s:Int} (h:okY g l d x s) (hX:hasX d=false):∃k q:Nat,x=(k:Int)/\s=(q:Int)/\Num d k q:=by
 cases l with
 | true=>
  have h:okL d x s:=by simpa [okY] using h
  obtain ⟨⟨h1,h2,h3,h4,h5,h6,h7,h8⟩,h9,h10⟩:=h
  refine ⟨x.toNat,s.toNat,by omega,by omega,h1,by intro e;subst e;simp at h2,?_,h8,by omega⟩
  cases d with
  | nil=>simp at h2
  | cons c r=>
   have hc:=(aQ c).1 (h1 c (by simp))
   have hne:c≠48:=by simpa using h4
   have hc0:1<=nI 0 c:=by
    have:c.toNat≠48:=λe=>hne (UInt8.toNat_inj.1 e)
    show 1<=0*10+(c.toNat - 48)
    omega
   have hg:=yo r (nI 0 c)
   rw [<-jJ] at hg
   have h9:10 ^ r.length<=dval 0 (c::r):=by
    have:=Nat.mul_le_mul_right (10 ^ r.length) hc0
    omega
   have h11:=Nat.mul_le_mul_right (10 ^ x.toNat) h9
   rw [<-Nat.pow_add] at h11
   rcases Nat.lt_or_ge (r.length+x.toNat) 17 with hlt | hge
   ·simp only [List.length_cons];omega
   ·have:=Ek hge
    omega
 | false=>
  have h:okS g d x s:=by simpa [okY] using h
  obtain ⟨h1,h2,h3,h4,h5,h6,h7⟩:=h
  have hd:∀c∈d,az c=true:=by
   intro c hc
   rcases h2 c hc with h | h
   ·exact h
   ·exfalso
    unfold hasX at hX
    rw [List.any_eq_false] at hX
    exact hX c hc (beq_iff_eq.2 h)
  have hlt:=kN d 0 0 hd (by simp)
  rw [h1] at hlt
  refine ⟨0,s.toNat,by omega,by omega,hd,by intro e;subst e;simp at h1,by omega,?_,by omega⟩
  have h4:(10:Nat) ^ (4+0)=10000:=by decide
  unfold E16
  simp only [Nat.pow_zero,Nat.mul_one]
  omega
def val (d:List UInt8) (k:Nat):Nat:=dval 0 d*10 ^ k
theorem vV (n:Nat) (g l:Bool) (d:List UInt8) (x s:Int) (hn:200<n) (hd:d.length<=100):
  de n g l d x s=some (if okY g l d x s/\hasX d=false then (if g then -((val d x.toNat:Nat):Int) else ((val d x.toNat:Nat):Int),0) else (0,6)):=by
 unfold de
 rw [qR n g l d x s hn hd,mK]
 simp only [ob]
 by_cases h:okY g l d x s
 ·rw [if_pos h]
  cases hX:hasX d with
  | true=>rw [if_neg (by simp)];rfl
  | false=>
   rw [if_pos ⟨h,rfl⟩]
   obtain ⟨k,q,rfl,rfl,hN⟩:=my h hX
   rw [zi n g l d k q hN.dig hN.ne (by have:=hN.wide;omega) (by have:=hN.wide;omega) (by omega),if_pos hN.small]
   have hs:=hN.small
   unfold E16 at hs
   cases g with
   | true=>
    simp only [bne_self_eq_false,cond_false,cond_true,Int.toNat_natCast,val,if_true]
    rw [wrap_i64 _ (by omega) (by omega),Int.zero_sub]
   | false=>simp [val]
 ·rw [if_neg h,if_neg (λq=>h q.1)];rfl
theorem df {a b:List UInt8} (h:a.length+b.length<=1000000):cat a b=some (a++b):=by
 unfold cat;rw [if_pos (by omega)]
theorem cut1 {l:List UInt8} {i:Nat} {c:UInt8} (h:l[i]?=some c):List.drop i (List.take (i+1) l)=[c]:=by
 have hlt:=mj h
 rw [List.take_add_one,h,List.drop_left' (by rw [List.length_take];omega)]
 rfl
theorem DC {l:List UInt8} {i:Nat} {c:UInt8} (h:l[i]?=some c):List.take (i+1) l=List.take i l++[c]:=by
 rw [List.take_add_one,h];rfl
theorem kY {g l:Bool} {d:List UInt8} {x s:Int} (h:okY g l d x s) (hX:hasX d=true):l=false/\x=0/\s=0/\d.length=4/\∀c∈d,az c=true\/c=88:=by
 cases l with
 | true=>
  have h:okL d x s:=by simpa [okY] using h
  rw [mC h.1.1] at hX
  cases hX
 | false=>
  have h:okS g d x s:=by simpa [okY] using h
  obtain ⟨h1,h2,h3,h4,h5,h6,h7⟩:=h
  refine ⟨rfl,h3,?_,h1,h2⟩
  have:¬0<s:=λe=>h7 ⟨e,hX⟩
  omega
theorem fJ {g l:Bool} {d:List UInt8} {x s:Int} (h:okY g l d x s):0<=x/\x<=16/\0<=s/\s<=17/\1<=d.length/\d.length<=17:=by
 cases hX:hasX d with
 | true=>
  obtain ⟨rfl,rfl,rfl,hl,_⟩:=kY h hX
  omega
 | false=>
  obtain ⟨k,q,rfl,rfl,hN⟩:=my h hX
  have h1:=hN.wide
  have h2:=hN.sig
  have h3:1<=d.length:=by
   cases d with
   | nil=>exact absurd rfl hN.ne
   | cons c r=>simp
  omega
theorem zN {g l:Bool} {d:List UInt8} {x s:Int} (h:okY g l d x s):ny d x s=true:=by
 obtain ⟨h1,h2,h3,h4,h5,h6⟩:=fJ h
 unfold ny
 rw [decide_eq_true (by omega),Nat.ble_eq_true_of_le (by omega)]
 rfl
def numU (d:UInt8):List UInt8->Nat⊕(Nat×Nat)
 | []=>.inr (d.toNat - 48,2)
 | e::_=>if az e=true then .inr (10*(d.toNat - 48)+(e.toNat - 48),3) else .inr (d.toNat - 48,2)
def numT:List UInt8->Nat⊕(Nat×Nat)
 | []=>.inl 1
 | d::r=>if 49<=d.toNat/\d.toNat<=57 then numU d r else .inl 1
def numS (letter:UInt8):List UInt8->Nat⊕(Nat×Nat)
 | []=>.inr (0,0)
 | c::r=>if c=letter then numT r else .inr (0,0)
theorem og (letter:UInt8):numS letter []=.inr (0,0):=rfl
theorem iM (letter c:UInt8) (r:List UInt8):numS letter (c::r)=if c=letter then numT r else .inr (0,0):=rfl
theorem rK:numT []=.inl 1:=rfl
theorem jt (d:UInt8) (r:List UInt8):numT (d::r)=if 49<=d.toNat/\d.toNat<=57 then numU d r else .inl 1:=rfl
theorem mM (d:UInt8):numU d []=.inr (d.toNat - 48,2):=rfl
theorem iV (d e:UInt8) (r:List UInt8):numU d (e::r)=if az e=true then .inr (10*(d.toNat - 48)+(e.toNat - 48),3) else .inr (d.toNat - 48,2):=rfl
theorem qH (c:UInt8) (h:c.toNat<128):(Utf8.encode ((c.toNat:Nat):Int)).data.toList=[c]:=by
 have:=jH (λc=>(decide (128<=c.toNat))||(Utf8.encode ((c.toNat:Nat):Int)).data.toList==[c]) (by decide +kernel) c
 simp only [Bool.or_eq_true,decide_eq_true_eq,beq_iff_eq] at this
 rcases this with h2 | h2
 ·omega
 ·exact h2
theorem kZ {c:UInt8} (h:48<=c.toNat/\c.toNat<=57):Lib.digitVal c=some (c.toNat - 48):=by
 unfold Lib.digitVal;rw [if_pos h]
theorem qv {c:UInt8} (h:48<=c.toNat/\c.toNat<=57) (r:List UInt8):Lib.atoi (c::r)=(Lib.decNat (c::r)).map λ(m:Nat)=>(m:Int):=by
 have e1:(c==45)=false:=by
  rw [beq_eq_false_iff_ne];rintro rfl;exact absurd h.1 (by decide)
 have e2:(c==43)=false:=by
  rw [beq_eq_false_iff_ne];rintro rfl;exact absurd h.1 (by decide)
 simp only [Lib.atoi,e1,e2,Bool.false_eq_true,if_false]
theorem Bu {c:UInt8} (h:48<=c.toNat/\c.toNat<=57):Lib.atoi [c]=some ((c.toNat - 48:Nat):Int):=by
 rw [qv h]
 simp only [Lib.decNat,List.isEmpty_cons,Bool.false_eq_true,if_false,Lib.decFrom,kZ h,Option.map_some,Nat.zero_mul,Nat.zero_add]
theorem Ay {c e:UInt8} (h:48<=c.toNat/\c.toNat<=57) (he:48<=e.toNat/\e.toNat<=57):Lib.atoi [c,e]=some ((10*(c.toNat - 48)+(e.toNat - 48):Nat):Int):=by
 rw [qv h]
 simp only [Lib.decNat,List.isEmpty_cons,Bool.false_eq_true,if_false,Lib.decFrom,kZ h,kZ he,Option.map_some,Nat.zero_mul,Nat.zero_add]
 rw [Nat.mul_comm]
theorem qy (c:UInt8):hasB [49,50,51,52,53,54,55,56,57] c=decide (49<=c.toNat/\c.toNat<=57):=by
 have:=jH (λc=>hasB [49,50,51,52,53,54,55,56,57] c==decide (49<=c.toNat/\c.toNat<=57)) (by decide +kernel) c
 simpa using this
theorem fP {p q:UInt8->Bool} (h:∀c,p c=q c):∀(k:Nat) (l:List UInt8),aN p k l=aN q k l
 | 0,_=>by simp [aN]
 | _+1,[]=>by simp [aN]
 | k+1,c::l=>by simp only [aN,h c,fP h k l]
theorem iN {S:List UInt8} {a:Nat} {c:UInt8} {r:List UInt8} (h:S.drop a=c::r):a<S.length/\S[a]?=some c/\S.drop (a+1)=r:=by
 have hlt:a<S.length:=by
  rcases Nat.lt_or_ge a S.length with q | q
  ·exact q
  ·rw [List.drop_eq_nil_of_le q] at h;cases h
 have hg:S[a]?=some S[a]:=List.getElem?_eq_getElem hlt
 have hd:=aY hg
 rw [h] at hd
 injection hd with h1 h2
 exact ⟨hlt,by rw [hg,h1],h2.symm⟩
theorem xS (n:Nat) (letter:UInt8) (S:List UInt8) (at_:Nat) (h:at_<=S.length) (hS:S.length<100000) (hn:S.length<n):
  bF n [letter] S (at_:Int)=some (match numS letter (S.drop at_) with | .inl k=>.inr (((at_+k:Nat):Int),5,S,((at_+k:Nat):Int)) | .inr (v,k)=>.inl ((v:Int),S,((at_+k:Nat):Int))):=by
 unfold bF
 rw [rz n [letter] S at_ h (by omega)]
 cases hd:S.drop at_ with
 | nil=>simp [og]
 | cons c r=>
  obtain ⟨hlt,hg,hr⟩:=iN hd
  rw [iM]
  by_cases hc:c=letter
  ·have htk:List.take [letter].length (c::r)=[letter]:=by simp [hc]
   have hl1:at_+[letter].length=at_+1:=rfl
   rw [if_pos htk,hl1,if_pos hc]
   clear htk
   simp only [ob,Bool.not_true,cond_false]
   rw [uE n _ S (at_+1) (by omega) (by omega),hr]
   cases r with
   | nil=>simp [rK]
   | cons d r2=>
    obtain ⟨hlt2,hg2,hr2⟩:=iN hr
    rw [jt]
    simp only [qy,decide_eq_true_eq]
    by_cases hd1:49<=d.toNat/\d.toNat<=57
    ·rw [if_pos hd1,if_pos hd1]
     simp only []
     rw [nS n _ 0 1 S (at_+1+1) (by omega) (by omega) hn,hr2]
     have hk:=gT (hasB [48,49,50,51,52,53,54,55,56,57]) (1:Int).toNat r2
     rw [if_neg (by omega)]
     rw [fP oE]
     simp only []
     rw [qH d (by omega)]
     have hb1:Nat.ble ([d]:List UInt8).length 18=true:=rfl
     have hb2:∀e:UInt8,Nat.ble ([d,e]:List UInt8).length 18=true:=λ_=>rfl
     have p2:at_+1+1=at_+2:=rfl
     have p3:at_+2+1=at_+3:=rfl
     have ad:=Bu (show 48<=d.toNat/\d.toNat<=57 by omega)
     cases r2 with
     | nil=>
      have hs:aN az (1:Int).toNat []=0:=rfl
      rw [hs,mM]
      rw [df (by simp)]
      simp only [List.take_nil,List.append_nil,Nat.add_zero,hb1,cond_true,ad,opt,p2]
     | cons e r3=>
      by_cases he:az e=true
      ·have hs:aN az (1:Int).toNat (e::r3)=1:=by
        show aN az (0+1) (e::r3)=1
        simp [aN,he]
       have ade:=Ay (show 48<=d.toNat/\d.toNat<=57 by omega) ((aQ e).1 he)
       rw [hs,iV,if_pos he]
       have ht:List.take 1 (e::r3)=[e]:=rfl
       rw [ht,df (by simp)]
       simp only [List.cons_append,List.nil_append,hb2,cond_true,ade,opt,p2,p3]
      ·have hs:aN az (1:Int).toNat (e::r3)=0:=by
        show aN az (0+1) (e::r3)=0
        simp [aN,he]
       rw [hs,iV,if_neg he]
       have ht:List.take 0 (e::r3)=[]:=rfl
       rw [ht,df (by simp)]
       simp only [List.append_nil,hb1,cond_true,ad,opt,Nat.add_zero,p2]
    ·rw [if_neg hd1,if_neg hd1]
  ·have e:¬List.take [letter].length (c::r)=[letter]:=by simp [hc]
   rw [if_neg e,if_neg hc]
   simp
theorem yY (n:Nat) (letter:UInt8) (S:List UInt8) (at_:Nat) (h:at_<=S.length) (hS:S.length<100000):
  aa n S (at_:Int) ((letter.toNat:Nat):Int)=some (match numS letter (S.drop at_) with | .inl k=>(-1,((at_+k:Nat):Int)) | .inr (v,k)=>((v:Int),((at_+k:Nat):Int))):=by
 unfold aa
 rw [gQ]
 cases hd:S.drop at_ with
 | nil=>
  have:S.length<=at_:=by
   rcases Nat.lt_or_ge at_ S.length with q | q
   ·rw [aY (List.getElem?_eq_getElem q)] at hd;cases hd
   ·exact q
  rw [decide_eq_true this]
  simp [og]
 | cons c r=>
  obtain ⟨hlt,hg,hr⟩:=iN hd
  have w1:IntKind.wrap .i64 ((at_:Int)+1)=((at_+1:Nat):Int):=by rw [wrap_i64 _ (by omega) (by omega)];omega
  have w2:IntKind.wrap .i64 (((at_+1:Nat):Int)+1)=((at_+2:Nat):Int):=by rw [wrap_i64 _ (by omega) (by omega)];omega
  have w3:IntKind.wrap .i64 (((at_+2:Nat):Int)+1)=((at_+3:Nat):Int):=by rw [wrap_i64 _ (by omega) (by omega)];omega
  rw [decide_eq_false (show ¬S.length<=at_ by omega),cond_false,cn hg]
  simp only [ob,w1,w2,w3,gQ,ee]
  have hcl:(((c.toNat:Nat):Int) != ((letter.toNat:Nat):Int))=!(c==letter):=by rw [bne,ky]
  rw [hcl,iM]
  by_cases hc:c=letter
  ·have e:(!(c==letter))=false:=by rw [hc];simp
   rw [e,cond_false,if_pos hc]
   cases r with
   | nil=>
    have:S.length<=at_+1:=by
     rcases Nat.lt_or_ge (at_+1) S.length with q | q
     ·rw [aY (List.getElem?_eq_getElem q)] at hr;cases hr
     ·exact q
    rw [decide_eq_true this];rfl
   | cons d r2=>
    obtain ⟨hlt2,hg2,hr2⟩:=iN hr
    rw [jt]
    rw [decide_eq_false (show ¬S.length<=at_+1 by omega),cond_false,cn hg2]
    simp only []
    by_cases h1:d.toNat<49
    ·have e1:decide (((d.toNat:Nat):Int)<49)=true:=decide_eq_true (by omega)
     rw [e1,cond_true,if_neg (by omega)]
    ·have e1:decide (((d.toNat:Nat):Int)<49)=false:=decide_eq_false (by omega)
     rw [e1,cond_false]
     by_cases h2:d.toNat>57
     ·have e2:decide (((d.toNat:Nat):Int)>57)=true:=decide_eq_true (by omega)
      rw [e2,cond_true,if_neg (by omega)]
     ·have e2:decide (((d.toNat:Nat):Int)>57)=false:=decide_eq_false (by omega)
      rw [e2,cond_false,if_pos (by omega)]
      have wd:IntKind.wrap .i64 (IntKind.wrap .u8 (((d.toNat:Nat):Int) - 48))=((d.toNat - 48:Nat):Int):=by
       rw [dN _ (by omega) (by omega),wrap_i64 _ (by omega) (by omega)];omega
      rw [wd]
      cases r2 with
      | nil=>
       have:¬at_+2<S.length:=by
        intro q
        rw [aY (List.getElem?_eq_getElem (show at_+1+1<S.length from q))] at hr2;cases hr2
       rw [decide_eq_false this,mM];rfl
      | cons e r3=>
       obtain ⟨hlt3,hg3,_⟩:=iN hr2
       rw [iV]
       rw [decide_eq_true (show at_+2<S.length from hlt3),cond_true,cn hg3]
       simp only []
       by_cases h3:e.toNat>=48
       ·have e3:decide (((e.toNat:Nat):Int)>=48)=true:=decide_eq_true (by omega)
        rw [e3,cond_true]
        by_cases h4:e.toNat<=57
        ·have e4:decide (((e.toNat:Nat):Int)<=57)=true:=decide_eq_true (by omega)
         have we:IntKind.wrap .i64 (IntKind.wrap .u8 (((e.toNat:Nat):Int) - 48))=((e.toNat - 48:Nat):Int):=by
          rw [dN _ (by omega) (by omega),wrap_i64 _ (by omega) (by omega)];omega
         have wt:IntKind.wrap .i64 (10*((d.toNat - 48:Nat):Int))=((10*(d.toNat - 48):Nat):Int):=by rw [wrap_i64 _ (by omega) (by omega)];omega
         have ws:IntKind.wrap .i64 (((10*(d.toNat - 48):Nat):Int)+((e.toNat - 48:Nat):Int))=((10*(d.toNat - 48)+(e.toNat - 48):Nat):Int):=by rw [wrap_i64 _ (by omega) (by omega)];omega
         rw [e4,cond_true,if_pos ((aQ e).2 ⟨h3,h4⟩),we,wt,ws]
        ·have e4:decide (((e.toNat:Nat):Int)<=57)=false:=decide_eq_false (by omega)
         rw [e4,cond_false,if_neg (λq=>h4 ((aQ e).1 q).2)]
       ·have e3:decide (((e.toNat:Nat):Int)>=48)=false:=decide_eq_false (by omega)
        rw [e3,cond_false,if_neg (λq=>h3 ((aQ e).1 q).1)]
  ·have e:(!(c==letter))=true:=by rw [beq_eq_false_iff_ne.2 hc];rfl
   rw [e,cond_true,if_neg hc]
   rfl
def isDX (c:UInt8):Bool:=az c||c==88
abbrev YR:=Bool×Bool×List UInt8×Nat×Nat×Nat
def mf (g:Bool) (o:Nat):List UInt8->Nat⊕YR
 | []=>.inl o
 | c::r=>if 49<=c.toNat/\c.toNat<=57 then
   (match numS 69 ((c::r).drop (1+aN az 16 r)) with
   | .inl j=>.inl (o+(1+aN az 16 r)+j)
   | .inr (x,j)=>(match numS 83 ((c::r).drop (1+aN az 16 r+j)) with
    | .inl i=>.inl (o+(1+aN az 16 r)+j+i)
    | .inr (s,i)=>.inr (g,true,(c::r).take (1+aN az 16 r),x,s,o+(1+aN az 16 r)+j+i)))
  else .inl o
def nq (g:Bool) (o:Nat) (l:List UInt8):Nat⊕YR:=
 if aN isDX 4 l<4 then .inl (o+aN isDX 4 l) else
  (match numS 83 (l.drop 4) with
  | .inl i=>.inl (o+4+i)
  | .inr (s,i)=>.inr (g,false,l.take 4,0,s,o+4+i))
def dh (c:UInt8) (l:List UInt8):Nat:=if l.take 1=[c] then 1 else 0
def kD (l:List UInt8):Nat⊕YR:=
 if dh 89 l=1 then mf (dh 45 (l.drop 1)==1) (1+dh 45 (l.drop 1)) (l.drop (1+dh 45 (l.drop 1)))
 else nq (dh 45 l==1) (dh 45 l) (l.drop (dh 45 l))
theorem gJ (c:UInt8) (l:List UInt8):dh c l=0\/dh c l=1:=by
 unfold dh;split
 ·exact .inr rfl
 ·exact .inl rfl
theorem qT (c:UInt8) (l:List UInt8):dh c l<=l.length:=by
 unfold dh;split
 ·rename_i h
  cases l with
  | nil=>simp at h
  | cons a l=>simp
 ·omega
theorem mA (n:Nat) (c:UInt8) (S:List UInt8) (at_:Nat) (h:at_<=S.length) (hS:S.length<100000):
  aH n [c] S (at_:Int)=some (dh c (S.drop at_)==1,S,((at_+dh c (S.drop at_):Nat):Int)):=by
 rw [rz n [c] S at_ h (by omega)]
 unfold dh
 have e:[c].length=1:=rfl
 rw [e]
 split<;>rfl
def pP (S:List UInt8) (at_:Nat):Nat⊕YR->(Int×Int×List UInt8×Int)⊕(Bool×Bool×List UInt8×Int×Int×List UInt8×Int)
 | .inl k=>.inl (((at_+k:Nat):Int),5,S,((at_+k:Nat):Int))
 | .inr (g,l,d,x,s,k)=>.inr (g,l,d,(x:Int),(s:Int),S,((at_+k:Nat):Int))
def jz (at_:Nat):Nat⊕YR->Bool×Bool×List UInt8×Int×Int×Int×Int
 | .inl k=>(false,false,[],0,0,((at_+k:Nat):Int),5)
 | .inr (g,l,d,x,s,k)=>(g,l,d,(x:Int),(s:Int),((at_+k:Nat):Int),0)
theorem Ec (letter:UInt8) (l:List UInt8):(match numS letter l with | .inl k=>k<=l.length | .inr (_,k)=>k<=l.length):=by
 cases l with
 | nil=>simp [og]
 | cons c r=>
  rw [iM]
  by_cases hc:c=letter
  ·rw [if_pos hc]
   cases r with
   | nil=>simp [rK]
   | cons d r2=>
    rw [jt]
    by_cases hd:49<=d.toNat/\d.toNat<=57
    ·rw [if_pos hd]
     cases r2 with
     | nil=>simp [mM]
     | cons e r3=>
      rw [iV]
      by_cases he:az e=true
      ·rw [if_pos he];simp
      ·rw [if_neg he];simp
    ·rw [if_neg hd];simp
  ·rw [if_neg hc];simp
theorem qo {letter:UInt8} {S:List UInt8} {a:Nat} (h:a<=S.length) {v k:Nat} (hk:numS letter (S.drop a)=.inr (v,k)):a+k<=S.length:=by
 have:=Ec letter (S.drop a)
 rw [hk,List.length_drop] at this
 simp only at this
 omega
theorem CW (n:Nat) (S:List UInt8) (at_ o:Nat) (g:Bool) (h:at_+o<=S.length) (hS:S.length<100000) (hn:S.length<n):
  (ob (bA n [49,50,51,52,53,54,55,56,57] S ((at_+o:Nat):Int)) λy336=>(Sum.casesOn (motive:=λ_=>Option ((Int×Int×List UInt8×Int)⊕(Bool×Bool×List UInt8×Int×Int×List UInt8×Int))) y336 (λa337=>(some (.inl (a337.1,a337.2.1,a337.2.2.1,a337.2.2.2)))) (λb338=>(ob (aT n [48,49,50,51,52,53,54,55,56,57] 0 16 b338.2.1 b338.2.2) λy339=>(Sum.casesOn (motive:=λ_=>Option _) y339 (λa340=>(some (.inl (a340.1,a340.2.1,a340.2.2.1,a340.2.2.2)))) (λb341=>(ob (cat (Utf8.encode b338.1).data.toList b341.1) λs342=>(ob (bF n [69] b341.2.1 b341.2.2) λy343=>(Sum.casesOn (motive:=λ_=>Option _) y343 (λa344=>(ob (bF n [83] a344.2.1 a344.2.2) λy346=>(Sum.casesOn (motive:=λ_=>Option _) y346 (λa347=>(some (.inr (g,true,s342,a344.1,a347.1,a347.2.1,a347.2.2)))) (λb348=>(some (.inl (b348.1,b348.2.1,b348.2.2.1,b348.2.2.2))))))) (λb345=>(some (.inl (b345.1,b345.2.1,b345.2.2.1,b345.2.2.2)))))))))))))=some (pP S at_ (mf g o (S.drop (at_+o)))):=by
 rw [uE n _ S (at_+o) h (by omega)]
 cases hd:S.drop (at_+o) with
 | nil=>simp [mf,pP,ob]
 | cons c r=>
  obtain ⟨hlt,hg,hr⟩:=iN hd
  simp only [qy,decide_eq_true_eq]
  by_cases hc:49<=c.toNat/\c.toNat<=57
  ·rw [if_pos hc]
   simp only [ob]
   rw [nS n _ 0 16 S (at_+o+1) (by omega) (by omega) hn,hr]
   rw [if_neg (by omega),fP oE]
   simp only []
   rw [qH c (by omega)]
   have h16:(16:Int).toNat=16:=rfl
   rw [h16]
   have hk:=gT az 16 r
   have hrl:r.length+(at_+o+1)=S.length:=by
    have:=congrArg List.length hr
    rw [List.length_drop] at this
    omega
   rw [df (by simp only [List.length_cons,List.length_nil,List.length_take];omega)]
   simp only [mf]
   rw [if_pos hc]
   generalize hK:aN az 16 r=k at hk ⊢
   have e1:[c]++List.take k r=List.take (1+k) (c::r):=by rw [Nat.add_comm];rfl
   rw [e1]
   have hp1:at_+o+1+k<=S.length:=by omega
   have hdr:List.drop (1+k) (c::r)=S.drop (at_+o+1+k):=by
    rw [<-hd,List.drop_drop];congr 1;omega
   rw [xS n 69 S (at_+o+1+k) hp1 hS hn,<-hdr]
   cases hq:numS 69 (List.drop (1+k) (c::r)) with
   | inl j=>
    simp only [pP]
    have:at_+o+1+k+j=at_+(o+(1+k)+j):=by omega
    rw [this]
   | inr p=>
    obtain ⟨x,j⟩:=p
    have hj:=hq
    rw [hdr] at hj
    have hp2:=qo hp1 hj
    have hdr2:List.drop (1+k+j) (c::r)=S.drop (at_+o+1+k+j):=by
     rw [<-hd,List.drop_drop];congr 1;omega
    simp only []
    rw [xS n 83 S (at_+o+1+k+j) hp2 hS hn,<-hdr2]
    cases hq2:numS 83 (List.drop (1+k+j) (c::r)) with
    | inl i=>
     simp only [pP]
     have:at_+o+1+k+j+i=at_+(o+(1+k)+j+i):=by omega
     rw [this]
    | inr p2=>
     obtain ⟨s,i⟩:=p2
     simp only [pP]
     have:at_+o+1+k+j+i=at_+(o+(1+k)+j+i):=by omega
     rw [this]
  ·rw [if_neg hc]
   simp only [ob,mf]
   rw [if_neg hc]
   rfl
theorem AL (n:Nat) (S:List UInt8) (at_ o:Nat) (g:Bool) (h:at_+o<=S.length) (hS:S.length<100000) (hn:S.length<n):
  (ob (aT n [88,48,49,50,51,52,53,54,55,56,57] 4 4 S ((at_+o:Nat):Int)) λy349=>(Sum.casesOn (motive:=λ_=>Option ((Int×Int×List UInt8×Int)⊕(Bool×Bool×List UInt8×Int×Int×List UInt8×Int))) y349 (λa350=>(some (.inl (a350.1,a350.2.1,a350.2.2.1,a350.2.2.2)))) (λb351=>(ob (bF n [83] b351.2.1 b351.2.2) λy352=>(Sum.casesOn (motive:=λ_=>Option _) y352 (λa353=>(some (.inr (g,false,b351.1,0,a353.1,a353.2.1,a353.2.2)))) (λb354=>(some (.inl (b354.1,b354.2.1,b354.2.2.1,b354.2.2.2)))))))))=some (pP S at_ (nq g o (S.drop (at_+o)))):=by
 rw [nS n _ 4 4 S (at_+o) h (by omega) hn]
 have hcg:∀c,hasB [88,48,49,50,51,52,53,54,55,56,57] c=isDX c:=mR
 have h4:(4:Int).toNat=4:=rfl
 rw [fP hcg,h4]
 unfold nq
 have hk:=gT isDX 4 (S.drop (at_+o))
 rw [List.length_drop] at hk
 by_cases hlt:aN isDX 4 (S.drop (at_+o))<4
 ·rw [if_pos (by omega),if_pos hlt]
  simp only [ob,pP]
  rw [Nat.add_assoc]
 ·rw [if_neg (by omega),if_neg hlt]
  have hle:∀(k:Nat) (l:List UInt8),aN isDX k l<=k:=by
   intro k
   induction k with
   | zero=>intro l;simp [aN]
   | succ k ih=>
    intro l
    cases l with
    | nil=>simp [aN]
    | cons c l=>
     have:=ih l
     simp only [aN]
     split<;>omega
  have he:aN isDX 4 (S.drop (at_+o))=4:=by have:=hle 4 (S.drop (at_+o));omega
  rw [he] at hk ⊢
  simp only [ob]
  have hp:at_+o+4<=S.length:=by omega
  rw [xS n 83 S (at_+o+4) hp hS hn,List.drop_drop]
  cases hq:numS 83 (S.drop (at_+o+4)) with
  | inl i=>
   simp only [pP]
   have:at_+o+4+i=at_+(o+4+i):=by omega
   rw [this]
  | inr p=>
   obtain ⟨s,i⟩:=p
   simp only [pP]
   have:at_+o+4+i=at_+(o+4+i):=by omega
   rw [this]
   rfl
theorem Dw (n:Nat) (S:List UInt8) (at_:Nat) (h:at_<=S.length) (hS:S.length<100000) (hn:S.length<n):
  gX n S (at_:Int)=some (pP S at_ (kD (S.drop at_))):=by
 unfold gX
 rw [mA n 89 S at_ h hS]
 have hle1:=qT 89 (S.drop at_)
 rw [List.length_drop] at hle1
 simp only [ob]
 rw [mA n 45 S (at_+dh 89 (S.drop at_)) (by omega) hS]
 have hle2:=qT 45 (S.drop (at_+dh 89 (S.drop at_)))
 rw [List.length_drop] at hle2
 simp only []
 unfold kD
 rcases gJ 89 (S.drop at_) with ht | ht
 ·rw [ht] at hle2 ⊢
  simp only [Nat.add_zero,show ((0:Nat)==1)=false from rfl,cond_false,show ¬((0:Nat)=1) from by decide,if_false,List.drop_drop] at hle2 ⊢
  have:=AL n S at_ (dh 45 (S.drop at_)) (dh 45 (S.drop at_)==1) (by omega) hS hn
  exact this
 ·rw [ht] at hle2 ⊢
  simp only [show ((1:Nat)==1)=true from rfl,cond_true,if_true,List.drop_drop] at hle2 ⊢
  have:=CW n S at_ (1+dh 45 (S.drop (at_+1))) (dh 45 (S.drop (at_+1))==1) (by omega) hS hn
  rw [<-Nat.add_assoc] at this
  rw [<-Nat.add_assoc]
  exact this
abbrev stR (S:List UInt8) (a b M:Int) (g L:Bool):List UInt8×Int×Int×Int×Bool×Bool×List UInt8×Int×Int×Bool×Bool×List UInt8×Int×Int:=(S,a,b,M,false,false,[],0,0,g,L,[],0,0)
def isYB (L:Bool) (c:UInt8):Bool:=az c||(c==88&&!L)
theorem xD (n:Nat) (S:List UInt8) (b M:Nat) (g:Bool) (hM:0<M) (hS:S.length<100000) (h48:S[b]?=some 48):ah (aj (n+1)) (n+1) (stR S (b:Int) (b:Int) (M:Int) g true)=some (.inl ((b:Int),5,false,false,[],0,0)):=by
 have hlt:=mj h48
 have d1:decide ((b:Int)<((S.length:Nat):Int))=true:=decide_eq_true (by omega)
 have w1:IntKind.wrap .i64 ((b:Int) - (b:Int))=0:=by rw [Int.sub_self];rfl
 have d2:decide ((0:Int)<(M:Int))=true:=decide_eq_true (by omega)
 have e1:decide ((((48:UInt8).toNat:Nat):Int)>=48)=true:=rfl
 have e2:decide ((((48:UInt8).toNat:Nat):Int)<=57)=true:=rfl
 have e3:((((48:UInt8).toNat:Nat):Int)==48)=true:=rfl
 simp only [ah,aj,d1,cond_true,w1,d2,cn h48,ob,e1,e2,e3,BEq.rfl]
theorem qU (n:Nat) (S:List UInt8) (b M:Nat) (g L:Bool) (hb:b<=S.length) (hS:S.length<100000) (hn:S.length<n) (h48:¬(L=true/\S[b]?=some 48)):
  ah (aj n) n (stR S (b:Int) (b:Int) (M:Int) g L)=some (.inr (S,((b+aN (isYB L) M (S.drop b):Nat):Int),(b:Int),false,false,[],0,0,g,L,[],0,0)):=by
 have:=dt (step:=aj n) (λx=>∃j:Nat,b+j<=S.length/\x=stR S ((b+j:Nat):Int) (b:Int) (M:Int) g L) (λx=>S.length - x.2.1.toNat)
  (λx=>.inr (S,((x.2.1.toNat+aN (isYB L) (M - (x.2.1.toNat - b)) (S.drop x.2.1.toNat):Nat):Int),(b:Int),false,false,[],0,0,g,L,[],0,0)) ?_ n (stR S (b:Int) (b:Int) (M:Int) g L) ⟨0,by omega,rfl⟩ (by simp;omega)
 ·rw [this];simp
 rintro x ⟨j,hj,rfl⟩
 simp only [Int.toNat_natCast]
 rcases Nat.lt_or_ge (b+j) S.length with hlt | hge
 ·obtain ⟨c,hc⟩:∃c,S[b+j]?=some c:=⟨S[b+j],List.getElem?_eq_getElem hlt⟩
  have d1:decide (((b+j:Nat):Int)<((S.length:Nat):Int))=true:=decide_eq_true (by omega)
  have w1:IntKind.wrap .i64 (((b+j:Nat):Int) - (b:Int))=(j:Int):=by rw [wrap_i64 _ (by omega) (by omega)];omega
  have w2:IntKind.wrap .i64 (((b+j:Nat):Int)+1)=((b+(j+1):Nat):Int):=by rw [wrap_i64 _ (by omega) (by omega)];omega
  have hsub:b+j - b=j:=by omega
  rw [aY hc,hsub]
  by_cases hM:j<M
  ·have d2:decide ((j:Int)<(M:Int))=true:=decide_eq_true (by omega)
   obtain ⟨q,hq⟩:∃q,M - j=q+1:=⟨M - j - 1,by omega⟩
   have hq2:M - (j+1)=q:=by omega
   rw [hq]
   simp only [aN]
   have go:isYB L c=true->aj n (stR S ((b+j:Nat):Int) (b:Int) (M:Int) g L)=some (.inl (stR S ((b+(j+1):Nat):Int) (b:Int) (M:Int) g L)):=by
    intro hy
    by_cases hdg:az c=true
    ·have hcd:=(aQ c).1 hdg
     have e1:decide (((c.toNat:Nat):Int)>=48)=true:=decide_eq_true (by omega)
     have e2:decide (((c.toNat:Nat):Int)<=57)=true:=decide_eq_true (by omega)
     simp only [aj,d1,cond_true,w1,d2,cn hc,ob,e1,e2,w2]
     cases L with
     | false=>rfl
     | true=>
      by_cases hj0:j=0
      ·subst hj0
       have hc48:c≠48:=by
        intro e
        exact h48 ⟨rfl,by rw [<-e];exact hc⟩
       have e3:(((c.toNat:Nat):Int)==48)=false:=by rw [DE];exact beq_eq_false_iff_ne.2 hc48
       simp only [Nat.add_zero,BEq.rfl,cond_true,e3,cond_false]
      ·have e4:(((b+j:Nat):Int)==(b:Int))=false:=beq_eq_false_iff_ne.2 (by omega)
       simp only [e4,cond_false,cond_true]
    ·have hdf:az c=false:=by cases h:az c with | false=>rfl | true=>exact absurd h hdg
     unfold isYB at hy
     rw [hdf] at hy
     simp only [Bool.false_or,Bool.and_eq_true,beq_iff_eq,Bool.not_eq_true'] at hy
     obtain ⟨rfl,rfl⟩:=hy
     have e1:decide ((((88:UInt8).toNat:Nat):Int)>=48)=true:=rfl
     have e2:decide ((((88:UInt8).toNat:Nat):Int)<=57)=false:=rfl
     have e3:((((88:UInt8).toNat:Nat):Int)==88)=true:=rfl
     simp only [aj,d1,cond_true,w1,d2,cn hc,ob,e1,e2,e3,w2,cond_false,Bool.not_false]
   have stop:isYB L c=false->aj n (stR S ((b+j:Nat):Int) (b:Int) (M:Int) g L)=some (.inr (.inr (S,((b+j:Nat):Int),(b:Int),false,false,[],0,0,g,L,[],0,0))):=by
    intro hy
    unfold isYB at hy
    simp only [Bool.or_eq_false_iff,Bool.and_eq_false_iff] at hy
    obtain ⟨hdf,hX⟩:=hy
    have hnd:¬(48<=c.toNat/\c.toNat<=57):=λq=>by rw [(aQ c).2 q] at hdf;cases hdf
    have hx8:(((c.toNat:Nat):Int)==88)=(c==88):=ky c 88
    have fin:(cond (c==88) (cond (!L) (0:Nat) 1) 1)=1:=by
     rcases hX with h | h
     ·rw [h];rfl
     ·have:L=true:=by simpa using h
      rw [this];cases c==88<;>rfl
    by_cases h1:c.toNat>=48
    ·have e1:decide (((c.toNat:Nat):Int)>=48)=true:=decide_eq_true (by omega)
     have e2:decide (((c.toNat:Nat):Int)<=57)=false:=decide_eq_false (by omega)
     simp only [aj,d1,cond_true,w1,d2,cn hc,ob,e1,e2,cond_false,hx8]
     rcases hX with h | h
     ·rw [h];rfl
     ·have:L=true:=by simpa using h
      rw [this];cases c==88<;>rfl
    ·have e1:decide (((c.toNat:Nat):Int)>=48)=false:=decide_eq_false (by omega)
     simp only [aj,d1,cond_true,w1,d2,cn hc,ob,e1,cond_false,hx8]
     rcases hX with h | h
     ·rw [h];rfl
     ·have:L=true:=by simpa using h
      rw [this];cases c==88<;>rfl
   cases hy:isYB L c with
   | true=>
    refine .inl ⟨_,go hy,⟨j+1,by omega,rfl⟩,by simp only [Int.toNat_natCast];omega,?_⟩
    simp only [Int.toNat_natCast,if_true]
    have e5:b+(j+1) - b=j+1:=by omega
    rw [e5,hq2,show b+(j+1)=b+j+1 by omega]
    have e6:b+j+1+aN (isYB L) q (S.drop (b+j+1))=b+j+(aN (isYB L) q (S.drop (b+j+1))+1):=by omega
    rw [e6]
   | false=>
    refine .inr ?_
    rw [stop hy]
    simp
  ·have d2:decide ((j:Int)<(M:Int))=false:=decide_eq_false (by omega)
   have hz:M - j=0:=by omega
   refine .inr ?_
   rw [hz]
   simp only [aj,d1,cond_true,w1,d2,cond_false,aN,Nat.add_zero]
 ·have d1:decide (((b+j:Nat):Int)<((S.length:Nat):Int))=false:=decide_eq_false (by omega)
  refine .inr ?_
  rw [List.drop_eq_nil_of_le hge]
  have hz:∀q,aN (isYB L) q []=0:=λq=>by cases q<;>rfl
  simp only [aj,d1,cond_false,hz,Nat.add_zero]
theorem zo (n:Nat) (S:List UInt8) (at_:Nat) (h:at_<=S.length) (hS:S.length<100000):
  aa n S (at_:Int) 69=some (match numS 69 (S.drop at_) with | .inl k=>(-1,((at_+k:Nat):Int)) | .inr (v,k)=>((v:Int),((at_+k:Nat):Int))):=yY n 69 S at_ h hS
theorem sy (n:Nat) (S:List UInt8) (at_:Nat) (h:at_<=S.length) (hS:S.length<100000):
  aa n S (at_:Int) 83=some (match numS 83 (S.drop at_) with | .inl k=>(-1,((at_+k:Nat):Int)) | .inr (v,k)=>((v:Int),((at_+k:Nat):Int))):=yY n 83 S at_ h hS
noncomputable def xV (n:Nat) (a0:List UInt8) (B M:Int) (g L:Bool):Option (Bool×Bool×List UInt8×Int×Int×Int×Int):=
 (ob (ah (aj n) n (a0,B,B,M,false,false,[],0,0,g,L,[],0,0)) λy559=>(Sum.casesOn (motive:=λ_=>Option (Bool×Bool×List UInt8×Int×Int×Int×Int)) y559 (λa560=>(some (a560.2.2.1,a560.2.2.2.1,a560.2.2.2.2.1,a560.2.2.2.2.2.1,a560.2.2.2.2.2.2,a560.1,a560.2.1))) (λb561=>(cond (decide ((IntKind.wrap .i64 (b561.2.1 - b561.2.2.1))<1)) (some (false,false,[],0,0,b561.2.1,5)) (cond (!b561.2.2.2.2.2.2.2.2.2.1) (cond (decide ((IntKind.wrap .i64 (b561.2.1 - b561.2.2.1))<4)) (some (false,false,[],0,0,b561.2.1,5)) (ob (bx (List.length b561.1) b561.2.1) λj562=>(ob (bx j562 b561.2.2.1) λj563=>(cond b561.2.2.2.2.2.2.2.2.2.1 (ob (aa n b561.1 b561.2.1 69) λr571=>(cond (decide (r571.1<0)) (some (false,false,[],0,0,r571.2,5)) (ob (aa n b561.1 r571.2 83) λr572=>(cond (decide (r572.1<0)) (some (false,false,[],0,0,r572.2,5)) (some (b561.2.2.2.2.2.2.2.2.1,b561.2.2.2.2.2.2.2.2.2.1,(List.drop j563 (List.take j562 b561.1)),r571.1,r572.1,r572.2,0)))))) (ob (aa n b561.1 b561.2.1 83) λr573=>(cond (decide (r573.1<0)) (some (false,false,[],0,0,r573.2,5)) (some (b561.2.2.2.2.2.2.2.2.1,b561.2.2.2.2.2.2.2.2.2.1,(List.drop j563 (List.take j562 b561.1)),b561.2.2.2.2.2.2.2.2.2.2.2.1,r573.1,r573.2,0)))))))) (ob (bx (List.length b561.1) b561.2.1) λj574=>(ob (bx j574 b561.2.2.1) λj575=>(cond b561.2.2.2.2.2.2.2.2.2.1 (ob (aa n b561.1 b561.2.1 69) λr576=>(cond (decide (r576.1<0)) (some (false,false,[],0,0,r576.2,5)) (ob (aa n b561.1 r576.2 83) λr577=>(cond (decide (r577.1<0)) (some (false,false,[],0,0,r577.2,5)) (some (b561.2.2.2.2.2.2.2.2.1,b561.2.2.2.2.2.2.2.2.2.1,(List.drop j575 (List.take j574 b561.1)),r576.1,r577.1,r577.2,0)))))) (ob (aa n b561.1 b561.2.1 83) λr578=>(cond (decide (r578.1<0)) (some (false,false,[],0,0,r578.2,5)) (some (b561.2.2.2.2.2.2.2.2.1,b561.2.2.2.2.2.2.2.2.2.1,(List.drop j575 (List.take j574 b561.1)),b561.2.2.2.2.2.2.2.2.2.2.2.1,r578.1,r578.2,0))))))))))))
theorem yR (c:UInt8):isYB true c=az c:=by unfold isYB;cases az c<;>simp
theorem wH (c:UInt8):isYB false c=isDX c:=by unfold isYB isDX;simp
theorem kV (p:UInt8->Bool):∀(k:Nat) (l:List UInt8),aN p k l<=k
 | 0,l=>by simp [aN]
 | k+1,[]=>by simp [aN]
 | k+1,c::l=>by
  have:=kV p k l
  simp only [aN]
  split<;>omega
theorem uk:decide ((-1:Int)<0)=true:=rfl
theorem tY (x:Nat):decide (((x:Nat):Int)<0)=false:=decide_eq_false (by omega)
theorem zF (n:Nat) (S:List UInt8) (at_ o:Nat) (g:Bool) (h:at_+o<=S.length) (hS:S.length<100000) (hn:S.length<n):
  xV n S ((at_+o:Nat):Int) 17 g true=some (jz at_ (mf g o (S.drop (at_+o)))):=by
 unfold xV
 cases hd:S.drop (at_+o) with
 | nil=>
  have hnone:¬(true=true/\S[at_+o]?=some 48):=by
   rintro ⟨_,q⟩
   rw [aY q] at hd
   cases hd
  have hl:=qU n S (at_+o) 17 g true h hS hn hnone
  rw [hd] at hl
  have hz:aN (isYB true) 17 []=0:=rfl
  rw [hz,Nat.add_zero] at hl
  have hl':ah (aj n) n (S,((at_+o:Nat):Int),((at_+o:Nat):Int),(17:Int),false,false,[],0,0,g,true,[],0,0)=_:=hl
  rw [hl']
  have w:IntKind.wrap .i64 (((at_+o:Nat):Int) - ((at_+o:Nat):Int))=0:=by rw [Int.sub_self];rfl
  simp only [ob,w,mf,jz]
  rfl
 | cons c r=>
  obtain ⟨hlt,hg,hr⟩:=iN hd
  by_cases hc:c=48
  ·subst hc
   obtain ⟨n',rfl⟩:∃q,n=q+1:=⟨n - 1,by omega⟩
   have hl:=xD n' S (at_+o) 17 g (by omega) hS hg
   have hl':ah (aj (n'+1)) (n'+1) (S,((at_+o:Nat):Int),((at_+o:Nat):Int),(17:Int),false,false,[],0,0,g,true,[],0,0)=_:=hl
   rw [hl']
   have hno:¬(49<=(48:UInt8).toNat/\(48:UInt8).toNat<=57):=by decide
   simp only [ob,mf,jz]
   rw [if_neg hno]
  ·have hno:¬(true=true/\S[at_+o]?=some 48):=by
    rintro ⟨_,q⟩
    rw [hg] at q
    exact hc (by simpa using q)
   have hl:=qU n S (at_+o) 17 g true h hS hn hno
   rw [hd,fP yR] at hl
   have hk:=gT az 17 (c::r)
   have hrl:(c::r).length+(at_+o)=S.length:=by
    have:=congrArg List.length hd
    rw [List.length_drop] at this
    omega
   have hl':ah (aj n) n (S,((at_+o:Nat):Int),((at_+o:Nat):Int),(17:Int),false,false,[],0,0,g,true,[],0,0)=_:=hl
   rw [hl']
   have w:∀k:Nat,k<=17->IntKind.wrap .i64 (((at_+o+k:Nat):Int) - ((at_+o:Nat):Int))=(k:Int):=by
    intro k hk17
    rw [wrap_i64 _ (by omega) (by omega)];omega
   by_cases hdg:az c=true
   ·have hcd:=(aQ c).1 hdg
    have h49:49<=c.toNat/\c.toNat<=57:=by
     have:c.toNat≠48:=λe=>hc (UInt8.toNat_inj.1 e)
     omega
    have hs17:aN az 17 (c::r)=1+aN az 16 r:=by
     show aN az (16+1) (c::r)=_
     simp only [aN,hdg,if_true]
     omega
    rw [hs17] at hk ⊢
    have htop:=kV az 16 r
    simp only [mf]
    rw [if_pos h49]
    generalize aN az 16 r=k at hk htop ⊢
    have d1:decide (((1+k:Nat):Int)<1)=false:=decide_eq_false (by omega)
    simp only [ob,w (1+k) (by omega),d1,cond_false,Bool.not_true,cond_true,bY (show at_+o+(1+k)<=S.length by omega),bY (show at_+o<=at_+o+(1+k) by omega)]
    have hp1:at_+o+(1+k)<=S.length:=by omega
    have hdr:S.drop (at_+o+(1+k))=List.drop (1+k) (c::r):=by rw [<-hd,List.drop_drop]
    rw [zo n S (at_+o+(1+k)) hp1 hS,hdr,kb,hd]
    cases hq:numS 69 (List.drop (1+k) (c::r)) with
    | inl j=>
     simp only [uk,cond_true,jz]
     have:at_+o+(1+k)+j=at_+(o+(1+k)+j):=by omega
     rw [this]
    | inr p=>
     obtain ⟨x,j⟩:=p
     have hj:=hq
     rw [<-hdr] at hj
     have hp2:=qo hp1 hj
     have hdr2:S.drop (at_+o+(1+k)+j)=List.drop (1+k+j) (c::r):=by rw [<-hd,List.drop_drop];congr 1;omega
     simp only [tY,cond_false]
     rw [sy n S (at_+o+(1+k)+j) hp2 hS,hdr2]
     cases hq2:numS 83 (List.drop (1+k+j) (c::r)) with
     | inl i=>
      simp only [uk,cond_true,jz]
      have:at_+o+(1+k)+j+i=at_+(o+(1+k)+j+i):=by omega
      rw [this]
     | inr p2=>
      obtain ⟨s,i⟩:=p2
      simp only [tY,cond_false,jz]
      have:at_+o+(1+k)+j+i=at_+(o+(1+k)+j+i):=by omega
      rw [this]
   ·have hs17:aN az 17 (c::r)=0:=by
     show aN az (16+1) (c::r)=0
     simp only [aN]
     rw [if_neg hdg]
    have h49:¬(49<=c.toNat/\c.toNat<=57):=λq=>hdg ((aQ c).2 (by omega))
    rw [hs17]
    simp only [mf]
    rw [if_neg h49]
    simp only [ob,w 0 (by omega),jz]
    rfl
theorem wk (n:Nat) (S:List UInt8) (at_ o:Nat) (g:Bool) (h:at_+o<=S.length) (hS:S.length<100000) (hn:S.length<n):
  xV n S ((at_+o:Nat):Int) 4 g false=some (jz at_ (nq g o (S.drop (at_+o)))):=by
 unfold xV
 have hl:=qU n S (at_+o) 4 g false h hS hn (by rintro ⟨q,_⟩;cases q)
 rw [fP wH] at hl
 have hk:=gT isDX 4 (S.drop (at_+o))
 have htop:=kV isDX 4 (S.drop (at_+o))
 rw [List.length_drop] at hk
 have hl':ah (aj n) n (S,((at_+o:Nat):Int),((at_+o:Nat):Int),(4:Int),false,false,[],0,0,g,false,[],0,0)=_:=hl
 rw [hl']
 unfold nq
 generalize hK:aN isDX 4 (S.drop (at_+o))=k at hk htop ⊢
 have w:IntKind.wrap .i64 (((at_+o+k:Nat):Int) - ((at_+o:Nat):Int))=(k:Int):=by rw [wrap_i64 _ (by omega) (by omega)];omega
 simp only [ob,w,Bool.not_false,cond_true,cond_false]
 by_cases h4:k<4
 ·rw [if_pos h4]
  have e1:decide ((k:Int)<4)=true:=decide_eq_true (by omega)
  rw [e1]
  have e2:at_+o+k=at_+(o+k):=by omega
  simp only [cond_true,jz,e2]
  cases decide ((k:Int)<1)<;>rfl
 ·rw [if_neg h4]
  have hk4:k=4:=by omega
  subst hk4
  have e1:decide (((4:Nat):Int)<4)=false:=rfl
  have e2:decide (((4:Nat):Int)<1)=false:=rfl
  have hp:at_+o+4<=S.length:=by omega
  simp only [e1,e2,cond_false,bY hp,bY (show at_+o<=at_+o+4 by omega)]
  rw [sy n S (at_+o+4) hp hS,kb,List.drop_drop]
  cases hq:numS 83 (S.drop (at_+o+4)) with
  | inl i=>
   simp only [uk,cond_true,jz]
   have:at_+o+4+i=at_+(o+4+i):=by omega
   rw [this]
  | inr p=>
   obtain ⟨s,i⟩:=p
   simp only [tY,cond_false,jz]
   have:at_+o+4+i=at_+(o+4+i):=by omega
   rw [this]
   rfl
theorem gN (c a:UInt8) (l:List UInt8):dh c (a::l)=if a=c then 1 else 0:=by
 unfold dh;simp
theorem oY (c:UInt8):dh c []=0:=by unfold dh;simp
theorem Bm (n:Nat) (S:List UInt8) (at_:Nat) (h:at_<=S.length) (hS:S.length<100000) (hn:S.length<n):
  gc n S (at_:Int)=some (jz at_ (kD (S.drop at_))):=by
 have tl:=λo g q=>zF n S at_ o g q hS hn
 have ts:=λo g q=>wk n S at_ o g q hS hn
 unfold xV at tl ts
 have w1:IntKind.wrap .i64 ((at_:Int)+1)=((at_+1:Nat):Int):=by rw [wrap_i64 _ (by omega) (by omega)];omega
 have w2:IntKind.wrap .i64 (((at_+1:Nat):Int)+1)=((at_+2:Nat):Int):=by rw [wrap_i64 _ (by omega) (by omega)];omega
 unfold gc kD
 rw [w1,w2]
 have t0:=ts 0 false (by omega)
 simp only [Nat.add_zero] at t0
 cases hd:S.drop at_ with
 | nil=>
  have hge:¬at_<S.length:=by
   intro q
   rw [aY (List.getElem?_eq_getElem q)] at hd;cases hd
  rw [ee,decide_eq_false hge,cond_false,cond_false,t0,hd]
  rfl
 | cons c r=>
  obtain ⟨hlt,hg,hr⟩:=iN hd
  have hc89:(((c.toNat:Nat):Int)==89)=(c==89):=ky c 89
  have hc45:(((c.toNat:Nat):Int)==45)=(c==45):=ky c 45
  rw [ee,decide_eq_true hlt,cond_true,cn hg]
  simp only [ob]
  rw [hc89,hc45,gN]
  by_cases h89:c=89
  ·have e:(c==89)=true:=beq_iff_eq.2 h89
   rw [e,cond_true,if_pos h89,if_pos rfl,ee]
   have hdd:List.drop 1 (c::r)=r:=rfl
   rw [hdd]
   have t1:=tl 1 false (by omega)
   cases hr':r with
   | nil=>
    rw [hr'] at hr
    have hge:¬at_+1<S.length:=by
     intro q
     rw [aY (List.getElem?_eq_getElem q)] at hr;cases hr
    simp only [ob] at t1
    rw [decide_eq_false hge,cond_false,t1,hr,oY]
    rfl
   | cons d r2=>
    rw [hr'] at hr
    obtain ⟨hlt2,hg2,hr2⟩:=iN hr
    have hd45:(((d.toNat:Nat):Int)==45)=(d==45):=ky d 45
    rw [decide_eq_true hlt2,cond_true,cn hg2]
    simp only []
    rw [hd45,gN]
    by_cases h45:d=45
    ·have e2:(d==45)=true:=beq_iff_eq.2 h45
     have t2:=tl 2 true (by omega)
     simp only [ob] at t2
     rw [e2,cond_true,if_pos h45,t2]
     rw [show at_+2=at_+1+1 from rfl,hr2]
     rfl
    ·have e2:(d==45)=false:=beq_eq_false_iff_ne.2 h45
     simp only [ob] at t1
     rw [e2,cond_false,if_neg h45,t1,hr]
     rfl
  ·have e:(c==89)=false:=beq_eq_false_iff_ne.2 h89
   rw [e,cond_false,if_neg h89,if_neg (by decide),gN]
   by_cases h45:c=45
   ·have e2:(c==45)=true:=beq_iff_eq.2 h45
    have t2:=ts 1 true (by omega)
    simp only [ob] at t2
    rw [e2,if_pos h45]
    simp only [cond_true]
    rw [t2,hr]
    rfl
   ·have e2:(c==45)=false:=beq_eq_false_iff_ne.2 h45
    simp only [ob] at t0
    rw [e2,if_neg h45]
    simp only [cond_false]
    rw [t0,hd]
    rfl
def wint (c:Int):Bool:=c==24||c==28||c==30
def lz (g:Bool) (d:List UInt8) (x:Int):Bool:=!hasX d&&!g&&decide (val d x.toNat=E16)
def yrB (g:Bool) (d:List UInt8) (x s:Int) (m:List UInt8):Bool:=!(decide (0<s)&&!(m==[]))&&!(wint (sea m)&&lz g d x)
theorem sD (n:Nat) (hn:200<n) (g l:Bool) (dg:List UInt8) (x q:Int) (m d:List UInt8) (k0 k1 k2:Int) (hm:m.length<=18) (hd:dg.length<=100):
  cW n g l dg x q m d k0 k1 k2=some (if okY g l dg x q then yrB g dg x q m else false):=by
 unfold cW
 rw [qR n g l dg x q hn hd,px n g l dg x q m d k0 k1 k2 hm,mK,vV n g l dg x q hn hd]
 by_cases h:okY g l dg x q
 rotate_left
 ·rw [if_neg h,if_neg h];rfl
 rw [if_pos h,if_pos h]
 have body:(ob (some (sea m,decide (0<sea m))) λr=>(cond (!r.2) (some true) (ob (some (hasX dg)) λr1=>(cond r1 (some true) (ob (some (if okY g l dg x q/\hasX dg=false then (if g then -((val dg x.toNat:Nat):Int) else ((val dg x.toNat:Nat):Int),(0:Int)) else (0,6))) λr2=>(ob (fO n r2.1 r.1) λr3=>(some (r3.2.2.2.2==0))))))))=some (!(wint (sea m)&&lz g dg x)):=by
  rcases kS m with h0 | ⟨j,hj,rfl⟩
  ·rw [h0];rfl
  ·have hs:=o9 hj
   rw [hs]
   have hp:decide (0<((21+j:Nat):Int))=true:=by simp;omega
   rw [hp]
   cases hX:hasX dg with
   | true=>
    have:lz g dg x=false:=by unfold lz;rw [hX];rfl
    rw [this,Bool.and_false]
    rfl
   | false=>
    rw [if_pos ⟨h,rfl⟩]
    obtain ⟨k,q',rfl,rfl,hN⟩:=my h hX
    have hv:val dg k<=E16:=hN.small
    unfold E16 at hv
    have hc:dQ (if g then -((val dg k:Nat):Int) else ((val dg k:Nat):Int)):=by
     unfold dQ
     cases g<;>simp<;>omega
    obtain ⟨a,b,c,e,hr⟩:=FK n (by omega) hc hj
    simp only [ob,Bool.not_true,cond_false,Int.toNat_natCast]
    rw [hr]
    simp only [Option.some.injEq]
    have hw:wint ((21+j:Nat):Int)=decide (j=3\/j=7\/j=9):=by
     unfold wint
     rw [Bool.eq_iff_iff]
     simp only [Bool.or_eq_true,beq_iff_eq,decide_eq_true_eq]
     omega
    have hl:lz g dg (k:Int)=decide ((if g then -((val dg k:Nat):Int) else ((val dg k:Nat):Int))=10000000000000000):=by
     unfold lz E16
     rw [hX,Int.toNat_natCast]
     cases g
     ·simp only [Bool.not_false,Bool.true_and,Bool.false_eq_true,if_false,decide_eq_decide]
      omega
     ·simp
      omega
    rw [hw,hl]
    by_cases h1:(if g then -((val dg k:Nat):Int) else ((val dg k:Nat):Int))=10000000000000000<;>by_cases h2:j=3\/j=7\/j=9
    ·rw [if_pos ⟨h1,h2⟩,decide_eq_true h1,decide_eq_true h2];rfl
    ·rw [if_neg (λz=>h2 z.2),decide_eq_false h2];rfl
    ·rw [if_neg (λz=>h1 z.1),decide_eq_false h1,Bool.and_false];rfl
    ·rw [if_neg (λz=>h1 z.1),decide_eq_false h1,Bool.and_false];rfl
 show cond (decide (q>0)) (cond (!(m==[])) (some false) _) _=_
 unfold yrB
 rw [show (decide (q>0))=decide (0<q) from rfl]
 cases decide (0<q) with
 | false=>exact body
 | true=>
  cases (m==[]) with
  | false=>rfl
  | true=>exact body
theorem Ai (n:Nat) (hn:200<n) (g l:Bool) (dg:List UInt8) (x q:Int) (m d:List UInt8) (k0 k1 k2:Int) (hd:dg.length<=100):
  eD n g l dg x q m d k0 k1 k2=some (if okY g l dg x q/\yrB g dg x q m=true then 1 else 0):=by
 unfold eD
 rw [tG n g l dg x q hn hd,lu n (by omega) g l dg x q m d k0 k1 k2,jL n g l dg x q (by omega) (by omega)]
 by_cases h:okY g l dg x q
 rotate_left
 ·rw [if_neg h,if_neg (show ¬(okY g l dg x q/\yrB g dg x q m=true) from λz=>h z.1)];rfl
 rw [if_pos h]
 have T:(ob (some (if hasX dg then (1:Int) else 0)) λr=>(cond (r==1) (some (1:Int)) (ob (ab n dg x) λv=>(cond (v.1==10000000000000000) (cond (!g) (some 0) (some 1)) (some 1)))))=some (if lz g dg x then 0 else 1):=by
  cases hX:hasX dg with
  | true=>
   have:lz g dg x=false:=by unfold lz;rw [hX];rfl
   rw [this]
   rfl
  | false=>
   obtain ⟨k,q',rfl,rfl,hN⟩:=my h hX
   have hv:=hN.small
   have hw:=hN.wide
   have hr:=fW n dg k hN.dig (by omega) (by omega) (by omega)
   rw [if_pos hv] at hr
   show ob (ab n dg (k:Int)) _=_
   rw [hr]
   show cond (((dval 0 dg*10 ^ k:Nat):Int)==10000000000000000) _ _=_
   unfold lz val
   rw [hX,Int.toNat_natCast]
   have e:(((dval 0 dg*10 ^ k:Nat):Int)==10000000000000000)=decide (dval 0 dg*10 ^ k=E16):=by
    generalize dval 0 dg*10 ^ k=v
    unfold E16
    rw [Bool.eq_iff_iff]
    simp only [beq_iff_eq,decide_eq_true_eq]
    omega
   rw [e]
   cases decide (dval 0 dg*10 ^ k=E16)<;>cases g<;>rfl
 have body:(ob (some (sea m)) λr=>(cond (r != 24) (cond (r != 28) (cond (r != 30) (some (1:Int)) (ob (some (if hasX dg then (1:Int) else 0)) λr=>(cond (r==1) (some (1:Int)) (ob (ab n dg x) λv=>(cond (v.1==10000000000000000) (cond (!g) (some 0) (some 1)) (some 1)))))) (ob (some (if hasX dg then (1:Int) else 0)) λr=>(cond (r==1) (some (1:Int)) (ob (ab n dg x) λv=>(cond (v.1==10000000000000000) (cond (!g) (some 0) (some 1)) (some 1)))))) (ob (some (if hasX dg then (1:Int) else 0)) λr=>(cond (r==1) (some (1:Int)) (ob (ab n dg x) λv=>(cond (v.1==10000000000000000) (cond (!g) (some 0) (some 1)) (some 1)))))))=some (if (!(wint (sea m)&&lz g dg x))=true then 1 else 0):=by
  rw [T]
  show cond (sea m != 24) _ _=_
  unfold wint
  simp only [bne]
  cases (sea m==24)<;>cases (sea m==28)<;>cases (sea m==30)<;>cases lz g dg x<;>rfl
 unfold yrB
 show cond (decide (q>0)) (cond (!(m==[])) (some 0) _) _=_
 rw [show (decide (q>0))=decide (0<q) from rfl]
 simp only [h,true_and]
 cases decide (0<q) with
 | false=>exact body
 | true=>
  cases (m==[]) with
  | false=>rfl
  | true=>exact body
def ba (m d:List UInt8):Nat:=1+(if m==[] then 0 else 1)+(if d==[] then 0 else 1)
theorem mh (n:Nat) (hn:100<n) (g l:Bool) (dg:List UInt8) (x q:Int) (m d:List UInt8) (k0 k1 k2:Int):aF n g l dg x q m d k0 k1 k2=some ((ba m d:Nat):Int):=by
 obtain ⟨n,rfl⟩:∃j,n=j+3:=⟨n - 3,by omega⟩
 unfold aF ba
 have s0:∀a:Int,aS (n+3) (a,m,d,0)=some (.inl (if m==[] then a else IntKind.wrap .i64 (a+1),m,d,1)):=λa=>by
  unfold aS
  show cond (!(m==[])) _ _=_
  cases (m==[])<;>rfl
 have s1:∀a:Int,aS (n+3) (a,m,d,1)=some (.inl (if d==[] then a else IntKind.wrap .i64 (a+1),m,d,2)):=λa=>by
  unfold aS
  show cond (!(d==[])) _ _=_
  cases (d==[])<;>rfl
 have s2:∀a:Int,aS (n+3) (a,m,d,2)=some (.inr a):=λa=>rfl
 rw [ah,s0]
 show ob (ah _ (n+2) _) _=_
 rw [ah,s1]
 show ob (ah _ (n+1) _) _=_
 rw [ah,s2]
 cases (m==[])<;>cases (d==[])<;>rfl
theorem ef (n:Nat) (g l:Bool) (dg:List UInt8) (x q:Int) (m d:List UInt8) (k0 k1 k2:Int):ae n g l dg x q m d k0 k1 k2=some ((ba m d:Nat):Int):=by
 unfold ae ba
 cases (m==[])<;>cases (d==[])<;>rfl
def allM (a b c:Int) (k:Nat):Int:=if 3<a\/3<b\/3<c\/(k<2/\b≠0)\/(k<3/\c≠0) then 9 else 0
theorem vv (n:Nat) (hn:3<n) (a b c:Int) (k:Nat) (hk:1<=k/\k<=3) (ha:0<=a) (hb:0<=b) (hc:0<=c):
  bS n [a,b,c] (k:Int)=some (allM a b c k)/\aO n [a,b,c] (k:Int)=some (allM a b c k):=by
 obtain ⟨j,rfl⟩:∃j,n=j+4:=⟨n - 4,by omega⟩
 have w1:IntKind.wrap .i64 1=1:=rfl
 have w2:IntKind.wrap .i64 2=2:=rfl
 have w3:IntKind.wrap .i64 3=3:=rfl
 have i0:ix 3 0=some 0:=rfl
 have i1:ix 3 1=some 1:=rfl
 have i2:ix 3 2=some 2:=rfl
 have hk':k=1\/k=2\/k=3:=by omega
 unfold allM
 by_cases cx:a>3
 ·rcases hk' with rfl | rfl | rfl<;>constructor<;>simp [aO,bS,ah,bK,dL,dO,ob,w1,w2,w3,i0,i1,i2,cx]
 by_cases cy:b>3
 ·rcases hk' with rfl | rfl | rfl<;>constructor<;>simp [aO,bS,ah,bK,dL,dO,ob,w1,w2,w3,i0,i1,i2,cx,cy]
 by_cases dy:k=1/\b≠0
 ·obtain ⟨rfl,dy⟩:=dy
  have h0:b>0:=by omega
  have eb:(b != 0)=true:=by simp [dy]
  constructor<;>simp [aO,bS,ah,bK,dL,dO,ob,w1,w2,w3,i0,i1,i2,cx,cy,h0,dy,eb]
 by_cases cz:c>3
 ·rcases hk' with rfl | rfl | rfl<;>(try (simp at dy;subst dy))<;>constructor<;>simp [aO,bS,ah,bK,dL,dO,ob,w1,w2,w3,i0,i1,i2,cx,cy,cz]
 by_cases dz:k<3/\c≠0
 ·have h0:c>0:=by omega
  have eb:(c != 0)=true:=by simp [dz.2]
  rcases hk' with rfl | rfl | rfl<;>(try (simp at dy;subst dy))<;>simp at dz<;>constructor<;>simp [aO,bS,ah,bK,dL,dO,ob,w1,w2,w3,i0,i1,i2,cx,cy,cz,h0,dz,eb]
 rcases hk' with rfl | rfl | rfl<;>(try (simp at dy;subst dy))<;>(try (simp at dz;subst dz))<;>constructor<;>simp [aO,bS,ah,bK,dL,dO,ob,w1,w2,w3,i0,i1,i2,cx,cy,cz]
theorem jG (m d:List UInt8):1<=ba m d/\ba m d<=3:=by
 unfold ba
 cases (m==[])<;>cases (d==[])<;>simp
def yrD (g l:Bool) (dg:List UInt8) (x q:Int) (m:List UInt8):Bool:=if okY g l dg x q then yrB g dg x q m else false
def chkD (g l:Bool) (dg:List UInt8) (x q:Int) (m d:List UInt8) (k0 k1 k2:Int):Int:=
 cond (!(yrD g l dg x q m)) 6 (cond (!(m==[])&&(!(decide (0<sea m))&&!(cG m 12))) 7
  (cond (!(d==[])&&((m==[])||(decide (0<sea m)||!(cG d 31)))) 8 (allM k0 k1 k2 (ba m d))))
theorem Cg (m:List UInt8):0<=sea m:=by
 rcases kS m with h | ⟨j,hj,rfl⟩
 ·omega
 ·rw [o9 hj];omega
theorem Dt (m:List UInt8):(sea m==0)=!(decide (0<sea m)):=by
 have:=Cg m
 by_cases h:sea m=0
 ·rw [h];rfl
 ·have h2:0<sea m:=by omega
  rw [beq_eq_false_iff_ne.2 h,decide_eq_true h2];rfl
theorem rQ (n:Nat) (hn:200<n) (g l:Bool) (dg:List UInt8) (x q:Int) (m d:List UInt8) (k0 k1 k2:Int) (hm:m.length<=18) (hd:dg.length<=100) (h0:0<=k0) (h1:0<=k1) (h2:0<=k2):
  eG n g l dg x q m d k0 k1 k2=some (chkD g l dg x q m d k0 k1 k2):=by
 have hy:cW n g l dg x q m d k0 k1 k2=some (yrD g l dg x q m):=sD n hn g l dg x q m d k0 k1 k2 hm hd
 have a1:bG n m 12=some (cG m 12):=sW n (by omega) m 12 (by omega)
 have a2:bG n d 31=some (cG d 31):=sW n (by omega) d 31 (by omega)
 have ha:=(vv n (by omega) k0 k1 k2 (ba m d) (jG m d) h0 h1 h2).1
 unfold eG chkD
 rw [px n g l dg x q m d k0 k1 k2 hm,hy,a1,a2,mh n (by omega)]
 simp only [ob]
 rw [ha]
 generalize yrD g l dg x q m=b1
 generalize (m==[])=b2
 generalize decide (0<sea m)=b3
 generalize cG m 12=b4
 generalize (d==[])=b5
 generalize cG d 31=b6
 cases b1<;>cases b2<;>cases b3<;>cases b4<;>cases b5<;>cases b6<;>rfl
theorem tX (n:Nat) (hn:200<n) (g l:Bool) (dg:List UInt8) (x q:Int) (m d:List UInt8) (k0 k1 k2:Int) (hd:dg.length<=100) (h0:0<=k0) (h1:0<=k1) (h2:0<=k2):
  d6 n g l dg x q m d k0 k1 k2=some (chkD g l dg x q m d k0 k1 k2):=by
 have hy:eD n g l dg x q m d k0 k1 k2=some (if yrD g l dg x q m then 1 else 0):=by
  rw [Ai n hn g l dg x q m d k0 k1 k2 hd]
  unfold yrD
  by_cases h:okY g l dg x q
  ·simp only [h,true_and,if_true]
  ·simp only [h,false_and,if_false];rfl
 have a1:bR n m 12=some (if cG m 12 then 1 else 0):=uN n (by omega) m 12 (by omega)
 have a2:bR n d 31=some (if cG d 31 then 1 else 0):=uN n (by omega) d 31 (by omega)
 have ha:=(vv n (by omega) k0 k1 k2 (ba m d) (jG m d) h0 h1 h2).2
 unfold d6 chkD
 rw [lu n (by omega) g l dg x q m d k0 k1 k2,hy,a1,a2,ef n]
 simp only [ob]
 rw [ha,Dt]
 show cond ((if yrD g l dg x q m then (1:Int) else 0)==0) _ (cond _ (cond _ (cond _ _ (cond _ (cond _ _ (cond (decide (0<sea m)) _ _)) _)) (cond _ (cond _ _ (cond (decide (0<sea m)) _ _)) _)) (cond _ (cond _ _ (cond (decide (0<sea m)) _ _)) _))=_
 generalize yrD g l dg x q m=b1
 generalize (m==[])=b2
 generalize decide (0<sea m)=b3
 generalize cG m 12=b4
 generalize (d==[])=b5
 generalize cG d 31=b6
 cases b1<;>cases b2<;>cases b3<;>cases b4<;>cases b5<;>cases b6<;>rfl
theorem Cj {g l:Bool} {dg:List UInt8} {x q:Int} {m d:List UInt8} {k0 k1 k2:Int} (h:chkD g l dg x q m d k0 k1 k2=0):yrD g l dg x q m=true/\(m=[]\/0<sea m\/cG m 12=true)/\(d=[]\/(m≠[]/\sea m=0/\cG d 31=true))/\allM k0 k1 k2 (ba m d)=0:=by
 have hs:=Cg m
 unfold chkD at h
 cases b1:yrD g l dg x q m with
 | false=>rw [b1] at h;exact absurd h (by simp)
 | true=>
  rw [b1] at h
  simp only [Bool.not_true,cond_false] at h
  cases b2:(!(m==[])&&(!(decide (0<sea m))&&!(cG m 12))) with
  | true=>rw [b2] at h;exact absurd h (by simp)
  | false=>
   rw [b2] at h
   simp only [cond_false] at h
   cases b3:(!(d==[])&&((m==[])||(decide (0<sea m)||!(cG d 31)))) with
   | true=>rw [b3] at h;exact absurd h (by simp)
   | false=>
    rw [b3] at h
    simp only [cond_false] at h
    refine ⟨rfl,?_,?_,h⟩
    ·by_cases h1:m=[]
     ·exact .inl h1
     ·by_cases h2:0<sea m
      ·exact .inr (.inl h2)
      ·simp [h1,h2] at b2
       exact .inr (.inr b2)
    ·by_cases h1:d=[]
     ·exact .inl h1
     ·by_cases h2:m=[]
      ·simp [h1,h2] at b3
      ·by_cases h3:0<sea m
       ·simp [h1,h2,h3] at b3
       ·simp [h1,h2,h3] at b3
        exact .inr ⟨h2,by omega,b3⟩
theorem iJ {s:List UInt8} {g:Nat} (hg:g<=31) (h:cG s g=true):s.length=2/\∀c∈s,isDX c=true:=by
 unfold cG at h
 obtain ⟨i,hm,hi⟩:=List.any_eq_true.1 h
 have hi31:i<g:=List.mem_range.1 hm
 have dig:∀k:Nat,k<10->isDX (UInt8.ofNat (48+k))=true:=by decide
 have h88:isDX 88=true:=by decide
 match s,hi with
 | [],hi=>simp [agr] at hi
 | [_],hi=>simp [agr] at hi
 | [a,b],hi=>
  refine ⟨rfl,?_⟩
  simp only [agr,Bool.and_eq_true,Bool.or_eq_true,beq_iff_eq] at hi
  obtain ⟨ha,hb⟩:=hi
  intro c hc
  simp only [List.mem_cons,List.not_mem_nil,or_false] at hc
  rcases hc with rfl | rfl
  ·rcases ha with rfl | rfl
   ·exact h88
   ·exact dig _ (by omega)
  ·rcases hb with rfl | rfl
   ·exact h88
   ·exact dig _ (by omega)
 | _::_::_::_,hi=>simp [agr] at hi
theorem uK {m:List UInt8} (h:0<sea m):m.length=2/\∀c∈m,isDX c=true:=by
 rcases kS m with h0 | ⟨j,hj,rfl⟩
 ·omega
 ·refine ⟨rfl,?_⟩
  have:((List.range 21).all λj=>(two (21+j)).all isDX)=true:=by decide +kernel
  have:=(List.all_eq_true.1 this) j (by simpa using hj)
  exact List.all_eq_true.1 this
def mt (k:Nat):List UInt8:=if k=1 then [63] else if k=2 then [126] else if k=3 then [37] else []
def mkOf (c:UInt8):Nat:=if c=63 then 1 else if c=126 then 2 else if c=37 then 3 else 0
def FN (k a b c:Nat):Bool:=(decide (k<2)||b==a)&&(decide (k<3)||c==a)
def plA (k a b c:Nat):Nat×Nat×Nat:=if FN k a b c then (0,0,0) else (a,b,c)
def plB (k a b c:Nat):Nat×Nat×Nat:=if FN k a b c then (if k=1 then (a,0,0) else if k=2 then (0,a,0) else (0,0,a)) else (0,0,0)
def l3 (p:Nat×Nat×Nat):List Int:=[(p.1:Int),(p.2.1:Int),(p.2.2:Int)]
def spM (A B:Nat×Nat×Nat):Nat×Nat×Nat:=(A.1 ||| B.1 ||| B.2.1 ||| B.2.2,A.2.1 ||| B.2.1 ||| B.2.2,A.2.2 ||| B.2.2)
theorem tk (n k:Nat) (h:k<4):lp n (k:Int)=some (mt k,0)/\be n (k:Int)=some (mt k):=by
 have:k=0\/k=1\/k=2\/k=3:=by omega
 rcases this with rfl | rfl | rfl | rfl<;>exact ⟨rfl,rfl⟩
noncomputable def FW (m j:Nat):Bool:=
 (jS (m+300) (j:Int)==some (((mkOf (UInt8.ofNat j):Nat):Int),decide (0<mkOf (UInt8.ofNat j))))&&(gq (m+300) (j:Int)==some ((mkOf (UInt8.ofNat j):Nat):Int))
theorem Bo (m:Nat):(List.range 256).all (FW m)=true:=by kernel_rfl
theorem yh (m:Nat) (c:UInt8):jS (m+300) ((c.toNat:Nat):Int)=some (((mkOf c:Nat):Int),decide (0<mkOf c))/\gq (m+300) ((c.toNat:Nat):Int)=some ((mkOf c:Nat):Int):=by
 have h:=(List.all_eq_true.1 (Bo m)) c.toNat (List.mem_range.2 c.toNat_lt)
 unfold FW at h
 rw [show UInt8.ofNat c.toNat=c by simp] at h
 simp only [Bool.and_eq_true,beq_iff_eq] at h
 exact h
noncomputable def zR (m k a b c:Nat):Bool:=
 (kj (m+300) [(a:Int),(b:Int),(c:Int)] (k:Int)==some (l3 (plA k a b c),l3 (plB k a b c),0))&&(fM (m+300) [(a:Int),(b:Int),(c:Int)] (k:Int)==some (l3 (plA k a b c),l3 (plB k a b c)))
theorem Ep (m:Nat):((List.range 4).all λa=>zR m 1 a 0 0)=true:=by kernel_rfl
theorem EH (m:Nat):((List.range 4).all λa=>(List.range 4).all λb=>zR m 2 a b 0)=true:=by kernel_rfl
theorem EA (m:Nat):((List.range 4).all λa=>(List.range 4).all λb=>(List.range 4).all λc=>zR m 3 a b c)=true:=by kernel_rfl
theorem r4 {p:Nat->Bool} (h:(List.range 4).all p=true) {a:Nat} (ha:a<4):p a=true:=(List.all_eq_true.1 h) a (List.mem_range.2 ha)
theorem FZ (m k a b c:Nat) (hk:1<=k/\k<=3) (ha:a<4) (hb:b<4) (hc:c<4) (h1:k<2->b=0) (h2:k<3->c=0):
  kj (m+300) [(a:Int),(b:Int),(c:Int)] (k:Int)=some (l3 (plA k a b c),l3 (plB k a b c),0)/\fM (m+300) [(a:Int),(b:Int),(c:Int)] (k:Int)=some (l3 (plA k a b c),l3 (plB k a b c)):=by
 have h:zR m k a b c=true:=by
  have:k=1\/k=2\/k=3:=by omega
  rcases this with rfl | rfl | rfl
  ·rw [h1 (by omega),h2 (by omega)];exact r4 (Ep m) ha
  ·rw [h2 (by omega)];exact r4 (r4 (EH m) ha) hb
  ·exact r4 (r4 (r4 (EA m) ha) hb) hc
 unfold zR at h
 simp only [Bool.and_eq_true,beq_iff_eq] at h
 exact h
theorem Ea {k a b c:Nat} (ha:a<4) (hb:b<4) (hc:c<4):(plA k a b c).1<4/\(plA k a b c).2.1<4/\(plA k a b c).2.2<4/\(plB k a b c).1<4/\(plB k a b c).2.1<4/\(plB k a b c).2.2<4:=by
 unfold plA plB
 split
 ·split
  ·simp [ha]
  ·split<;>simp [ha]
 ·simp [ha,hb,hc]
def inM (k:Nat) (A:Nat×Nat×Nat):Prop:=A.1<4/\A.2.1<4/\A.2.2<4/\(k<2->A.2.1=0)/\(k<3->A.2.2=0)
theorem nc {k:Nat} {A:Nat×Nat×Nat} (h:inM k A):allM (A.1:Int) (A.2.1:Int) (A.2.2:Int) k=0:=by
 obtain ⟨h0,h1,h2,h3,h4⟩:=h
 unfold allM
 rw [if_neg (by omega)]
theorem or4 {a b:Nat} (ha:a<4) (hb:b<4):bits .or .u8 (a:Int) (b:Int)=((a ||| b:Nat):Int)/\a ||| b<4:=by
 have:((List.range 4).all λa=>(List.range 4).all λb=>bits .or .u8 (a:Int) (b:Int)==((a ||| b:Nat):Int)&&decide (a ||| b<4))=true:=by decide +kernel
 have:=r4 (r4 this ha) hb
 simpa using this
theorem pG (n:Nat) (hn:9<n) (k:Nat) (A B:Nat×Nat×Nat) (hk:1<=k/\k<=3) (hA:inM k A) (hB:inM k B):cu n (l3 A) (l3 B) (k:Int)=some (l3 (spM A B),0):=by
 obtain ⟨n,rfl⟩:∃j,n=j+5:=⟨n - 5,by omega⟩
 have eA:=(vv (n+5) (by omega) (A.1:Int) (A.2.1:Int) (A.2.2:Int) k hk (by omega) (by omega) (by omega)).1
 have eB:=(vv (n+5) (by omega) (B.1:Int) (B.2.1:Int) (B.2.2:Int) k hk (by omega) (by omega) (by omega)).1
 rw [nc hA] at eA
 rw [nc hB] at eB
 have h0:∀x:Nat,x<4->bits .or .u8 0 (x:Int)=(x:Int):=λx hx=>by
  have:=(or4 (show 0<4 by omega) hx).1
  simpa using this
 have oo:∀x y:Nat,x<4->y<4->bits .or .u8 (x:Int) (y:Int)=((x ||| y:Nat):Int):=λx y hx hy=>(or4 hx hy).1
 have ol:∀x y:Nat,x<4->y<4->x ||| y<4:=λx y hx hy=>(or4 hx hy).2
 unfold cu
 show ob (bS (n+5) [(A.1:Int),(A.2.1:Int),(A.2.2:Int)] (k:Int)) _=_
 rw [eA]
 show ob (bS (n+5) [(B.1:Int),(B.2.1:Int),(B.2.2:Int)] (k:Int)) _=_
 rw [eB]
 obtain ⟨a0,a1,a2⟩:=A
 obtain ⟨b0,b1,b2⟩:=B
 obtain ⟨g0,g1,g2,g3,g4⟩:=hA
 obtain ⟨f0,f1,f2,f3,f4⟩:=hB
 simp only at g0 g1 g2 g3 g4 f0 f1 f2 f3 f4
 have hk':k=1\/k=2\/k=3:=by omega
 rcases hk' with rfl | rfl | rfl
 ·obtain rfl:=g3 (by omega)
  obtain rfl:=g4 (by omega)
  obtain rfl:=f3 (by omega)
  obtain rfl:=f4 (by omega)
  show some (([bits .or .u8 (a0:Int) (bits .or .u8 0 (b0:Int)),0,0]:List Int),(0:Int))=_
  rw [h0 b0 f0,oo _ _ g0 f0]
  simp [l3,spM]
 ·obtain rfl:=g4 (by omega)
  obtain rfl:=f4 (by omega)
  show some (([bits .or .u8 (a0:Int) (bits .or .u8 (bits .or .u8 0 (b1:Int)) (b0:Int)),bits .or .u8 (a1:Int) (bits .or .u8 0 (b1:Int)),0]:List Int),(0:Int))=_
  rw [h0 b1 f1,oo _ _ f1 f0,oo _ _ g0 (ol _ _ f1 f0),oo _ _ g1 f1]
  simp [l3,spM,Nat.or_assoc,Nat.or_comm b1 b0]
 ·show some (([bits .or .u8 (a0:Int) (bits .or .u8 (bits .or .u8 (bits .or .u8 0 (b2:Int)) (b1:Int)) (b0:Int)),bits .or .u8 (a1:Int) (bits .or .u8 (bits .or .u8 0 (b2:Int)) (b1:Int)),bits .or .u8 (a2:Int) (bits .or .u8 0 (b2:Int))]:List Int),(0:Int))=_
  rw [h0 b2 f2,oo _ _ f2 f1,oo _ _ (ol _ _ f2 f1) f0,oo _ _ g0 (ol _ _ (ol _ _ f2 f1) f0),oo _ _ g1 (ol _ _ f2 f1),oo _ _ g2 f2]
  have e1:a0 ||| (b2 ||| b1 ||| b0)=a0 ||| b0 ||| b1 ||| b2:=by rw [Nat.or_comm (b2 ||| b1) b0,Nat.or_comm b2 b1];simp only [Nat.or_assoc]
  have e2:a1 ||| (b2 ||| b1)=a1 ||| b1 ||| b2:=by rw [Nat.or_comm b2 b1];simp only [Nat.or_assoc]
  rw [e1,e2]
  rfl
abbrev cI (x:Nat):Int:=(x:Int)
def bt (b a:Nat):Nat:=if b=1 then a%2 else a / 2%2
theorem Cs (n:Nat) {a b:Nat} (ha:a<4) (hb:b=1\/b=2):eo n (a:Int) (b:Int)=some ((bt b a:Nat):Int):=by
 have h:a=0\/a=1\/a=2\/a=3:=by omega
 rcases h with rfl | rfl | rfl | rfl<;>rcases hb with rfl | rfl<;>rfl
theorem Ed (b a:Nat):bt b a<=1:=by unfold bt;split<;>omega
def bts (b:Nat):List Nat->Nat
 | []=>0
 | x::l=>bt b x+bts b l
theorem Gj (n k b i:Nat) (hb:b=1\/b=2) (hk:k<=3) (A X Y:List Int) (bl:List Nat) (hl:bl.length=3) (h4:∀x∈bl,x<4):∀(r j acc:Nat),j+r=k->acc<=j+1->∀N,r<N->
  ah (aV n) N ((k:Int),(b:Int),(i:Int),(acc:Int),(j:Int),A,bl.map cI,X,Y)=some ((k:Int),(b:Int),(i:Int),((acc+bts b ((bl.take k).drop j):Nat):Int),A,bl.map cI,X,Y):=by
 intro r
 induction r with
 | zero=>
  intro j acc hj hacc N hN
  obtain ⟨N,rfl⟩:∃k,N=k+1:=⟨N - 1,by omega⟩
  have s:aV n ((k:Int),(b:Int),(i:Int),(acc:Int),(j:Int),A,bl.map cI,X,Y)=some (.inr ((k:Int),(b:Int),(i:Int),(acc:Int),A,bl.map cI,X,Y)):=by
   unfold aV
   rw [aX,if_neg (show ¬((j:Int)<(k:Int)) by omega)]
  have e:(bl.take k).drop j=[]:=List.drop_eq_nil_of_le (by rw [List.length_take];omega)
  rw [ah,s,e]
  rfl
 | succ r ih=>
  intro j acc hj hacc N hN
  obtain ⟨N,rfl⟩:∃k,N=k+1:=⟨N - 1,by omega⟩
  have hjl:j<bl.length:=by omega
  obtain ⟨x,hx⟩:∃x,bl[j]?=some x:=⟨bl[j],List.getElem?_eq_getElem hjl⟩
  have hxm:(bl.map cI)[j]?=some (x:Int):=by rw [List.getElem?_map,hx];rfl
  have hx4:=h4 x (List.mem_of_getElem? hx)
  have w:IntKind.wrap .i64 ((acc:Int)+((bt b x:Nat):Int))=((acc+bt b x:Nat):Int):=by have:=Ed b x;rw [wrap_i64 _ (by omega) (by omega)];omega
  have w2:IntKind.wrap .i64 ((j:Int)+1)=((j+1:Nat):Int):=by rw [wrap_i64 _ (by omega) (by omega)];omega
  have s:aV n ((k:Int),(b:Int),(i:Int),(acc:Int),(j:Int),A,bl.map cI,X,Y)=some (.inl ((k:Int),(b:Int),(i:Int),((acc+bt b x:Nat):Int),((j+1:Nat):Int),A,bl.map cI,X,Y)):=by
   unfold aV
   rw [aX,if_pos (show (j:Int)<(k:Int) by omega)]
   show ob (ix 3 (j:Int)) _=_
   rw [di (show j<3 by omega)]
   show ob ((bl.map cI)[j]?) _=_
   rw [hxm]
   show ob (eo n (x:Int) (b:Int)) _=_
   rw [Cs n hx4 hb]
   show some (Sum.inl ((k:Int),(b:Int),(i:Int),IntKind.wrap .i64 ((acc:Int)+((bt b x:Nat):Int)),IntKind.wrap .i64 ((j:Int)+1),_))=_
   rw [w,w2]
  have e:(bl.take k).drop j=x::(bl.take k).drop (j+1):=aY (by rw [List.getElem?_take_of_lt (by omega)];exact hx)
  rw [ah,s]
  have:=Ed b x
  show ah _ N _=_
  rw [ih (j+1) (acc+bt b x) (by omega) (by omega) N (by omega),e]
  simp only [bts,Nat.add_assoc]
def hit (k b i:Nat) (al bl:List Nat):Bool:=decide (0<bt b (al.getD i 0)+bts b ((bl.take k).drop i))
theorem Gd (n k b i:Nat) (hn:9<n) (hb:b=1\/b=2) (hk:k<=3) (hi:i<k) (X:List Int) (al bl:List Nat) (ha:al.length=3) (hl:bl.length=3) (a4:∀x∈al,x<4) (h4:∀x∈bl,x<4) (out:List Int) (o:Int) (ho:out[i]?=some o):
  aG n ((k:Int),(b:Int),(i:Int),al.map cI,bl.map cI,X,out)=some (.inl ((k:Int),(b:Int),((i+1:Nat):Int),al.map cI,bl.map cI,X,cond (hit k b i al bl) (out.set i (IntKind.wrap .u8 (o+(b:Int)))) out)):=by
 obtain ⟨x,hx⟩:∃x,al[i]?=some x:=⟨al[i],List.getElem?_eq_getElem (by omega)⟩
 have hxm:(al.map cI)[i]?=some (x:Int):=by rw [List.getElem?_map,hx];rfl
 have hx4:=a4 x (List.mem_of_getElem? hx)
 have hbx:=Ed b x
 have w2:IntKind.wrap .i64 ((i:Int)+1)=((i+1:Nat):Int):=by rw [wrap_i64 _ (by omega) (by omega)];omega
 have hl2:=Gj n k b i hb hk (al.map cI) X out bl hl h4 (k - i) i (bt b x) (by omega) (by omega) n (by omega)
 unfold aG
 rw [aX,if_pos (show (i:Int)<(k:Int) by omega)]
 show ob (ix 3 (i:Int)) _=_
 rw [di (show i<3 by omega)]
 show ob ((al.map cI)[i]?) _=_
 rw [hxm]
 show ob (eo n (x:Int) (b:Int)) _=_
 rw [Cs n hx4 hb]
 show ob (ah (aV n) n ((k:Int),(b:Int),(i:Int),((bt b x:Nat):Int),(i:Int),al.map cI,bl.map cI,X,out)) _=_
 rw [hl2]
 have eh:hit k b i al bl=decide (((bt b x+bts b ((bl.take k).drop i):Nat):Int)>0):=by
  unfold hit
  rw [List.getD_eq_getElem?_getD,hx]
  rw [decide_eq_decide]
  simp only [Option.getD_some]
  omega
 rw [eh]
 show cond (decide (((bt b x+bts b ((bl.take k).drop i):Nat):Int)>0)) (ob (ix 3 (i:Int)) λj=>ob (out[j]?) λy=>ob (ix 3 (i:Int)) λj2=>cond (Nat.blt j2 3) (some (Sum.inl ((k:Int),(b:Int),IntKind.wrap .i64 ((i:Int)+1),al.map cI,bl.map cI,X,out.set j2 (IntKind.wrap .u8 (y+(b:Int)))))) none) (some (Sum.inl ((k:Int),(b:Int),IntKind.wrap .i64 ((i:Int)+1),al.map cI,bl.map cI,X,out)))=_
 rw [di (show i<3 by omega),w2]
 have hb3:Nat.blt i 3=true:=Nat.ble_eq_true_of_le (by omega)
 simp only [ob,ho,hb3,cond_true]
 cases decide (((bt b x+bts b ((bl.take k).drop i):Nat):Int)>0)<;>rfl
def addB (k b:Nat) (al bl:List Nat) (o:List Int):List Int:=[cond (decide (0<k)&&hit k b 0 al bl) (IntKind.wrap .u8 (o.getD 0 0+(b:Int))) (o.getD 0 0),cond (decide (1<k)&&hit k b 1 al bl) (IntKind.wrap .u8 (o.getD 1 0+(b:Int))) (o.getD 1 0),cond (decide (2<k)&&hit k b 2 al bl) (IntKind.wrap .u8 (o.getD 2 0+(b:Int))) (o.getD 2 0)]
theorem A5 (n k b:Nat) (hn:9<n) (hb:b=1\/b=2) (hk:1<=k/\k<=3) (X:List Int) (al bl:List Nat) (ha:al.length=3) (hl:bl.length=3) (a4:∀x∈al,x<4) (h4:∀x∈bl,x<4) (o0 o1 o2:Int):
  ah (aG n) n ((k:Int),(b:Int),0,al.map cI,bl.map cI,X,[o0,o1,o2])=some ((k:Int),(b:Int),al.map cI,bl.map cI,X,addB k b al bl [o0,o1,o2]):=by
 obtain ⟨n,rfl⟩:∃j,n=j+5:=⟨n - 5,by omega⟩
 have fin:∀(N:Nat) (out:List Int),ah (aG (n+5)) (N+1) ((k:Int),(b:Int),((k:Nat):Int),al.map cI,bl.map cI,X,out)=some ((k:Int),(b:Int),al.map cI,bl.map cI,X,out):=λN out=>by
  rw [ah]
  have:aG (n+5) ((k:Int),(b:Int),((k:Nat):Int),al.map cI,bl.map cI,X,out)=some (.inr ((k:Int),(b:Int),al.map cI,bl.map cI,X,out)):=by
   unfold aG
   rw [aX,if_neg (show ¬((k:Int)<(k:Int)) by omega)]
  rw [this]
 have go:=λ(i:Nat) (hi:i<k) (out:List Int) (o:Int) (ho:out[i]?=some o)=>Gd (n+5) k b i hn hb hk.2 hi X al bl ha hl a4 h4 out o ho
 have hk':k=1\/k=2\/k=3:=by omega
 have s1:=go 0 (by omega) [o0,o1,o2] o0 rfl
 rcases hk' with rfl | rfl | rfl
 ·rw [ah]
  rw [show ((0:Nat):Int)=0 from rfl] at s1
  rw [s1]
  show ah _ (n+3+1) (((1:Nat):Int),(b:Int),((1:Nat):Int),_)=_
  rw [fin]
  unfold addB
  cases hit 1 b 0 al bl<;>rfl
 ·rw [ah]
  rw [show ((0:Nat):Int)=0 from rfl] at s1
  rw [s1]
  show ah _ (n+4) (((2:Nat):Int),(b:Int),((1:Nat):Int),_)=_
  rw [ah,go 1 (by omega) _ o1 (by cases hit 2 b 0 al bl<;>rfl)]
  show ah _ (n+2+1) (((2:Nat):Int),(b:Int),((2:Nat):Int),_)=_
  rw [fin]
  unfold addB
  cases hit 2 b 0 al bl<;>cases hit 2 b 1 al bl<;>rfl
 ·rw [ah]
  rw [show ((0:Nat):Int)=0 from rfl] at s1
  rw [s1]
  show ah _ (n+4) (((3:Nat):Int),(b:Int),((1:Nat):Int),_)=_
  rw [ah,go 1 (by omega) _ o1 (by cases hit 3 b 0 al bl<;>rfl)]
  show ah _ (n+3) (((3:Nat):Int),(b:Int),((2:Nat):Int),_)=_
  rw [ah,go 2 (by omega) _ o2 (by cases hit 3 b 0 al bl<;>cases hit 3 b 1 al bl<;>rfl)]
  show ah _ (n+1+1) (((3:Nat):Int),(b:Int),((3:Nat):Int),_)=_
  rw [fin]
  unfold addB
  cases hit 3 b 0 al bl<;>cases hit 3 b 1 al bl<;>cases hit 3 b 2 al bl<;>rfl
def lN (p:Nat×Nat×Nat):List Nat:=[p.1,p.2.1,p.2.2]
theorem kR {x y:Nat} (hx:x<4) (hy:y<4) (b:Nat) (hb:b=1\/b=2):decide (0<bt b (x ||| y))=decide (0<bt b x+bt b y):=by
 have:((List.range 4).all λa=>(List.range 4).all λc=>(decide (0<bt 1 (a ||| c))==decide (0<bt 1 a+bt 1 c))&&(decide (0<bt 2 (a ||| c))==decide (0<bt 2 a+bt 2 c)))=true:=by decide +kernel
 have:=r4 (r4 this hx) hy
 simp only [Bool.and_eq_true,beq_iff_eq] at this
 rcases hb with rfl | rfl
 ·exact this.1
 ·exact this.2
theorem k9 {x:Nat} (hx:x<4):cond (decide (0<bt 2 x)) (IntKind.wrap .u8 (cond (decide (0<bt 1 x)) (IntKind.wrap .u8 (0+((1:Nat):Int))) 0+((2:Nat):Int))) (cond (decide (0<bt 1 x)) (IntKind.wrap .u8 (0+((1:Nat):Int))) 0)=(x:Int):=by
 have h:x=0\/x=1\/x=2\/x=3:=by omega
 rcases h with rfl | rfl | rfl | rfl<;>decide
theorem mU (n:Nat) (hn:9<n) (k:Nat) (A B:Nat×Nat×Nat) (hk:1<=k/\k<=3) (hA:inM k A) (hB:inM k B):cg n (l3 A) (l3 B) (k:Int)=some (l3 (spM A B)):=by
 obtain ⟨a0,a1,a2⟩:=A
 obtain ⟨b0,b1,b2⟩:=B
 obtain ⟨g0,g1,g2,g3,g4⟩:=hA
 obtain ⟨f0,f1,f2,f3,f4⟩:=hB
 simp only at g0 g1 g2 g3 g4 f0 f1 f2 f3 f4
 have ol:∀x y:Nat,x<4->y<4->x ||| y<4:=λx y hx hy=>(or4 hx hy).2
 have a4:∀x∈lN (a0,a1,a2),x<4:=by
  intro x hx
  simp only [lN,List.mem_cons,List.not_mem_nil,or_false] at hx
  rcases hx with rfl | rfl | rfl<;>assumption
 have b4:∀x∈lN (b0,b1,b2),x<4:=by
  intro x hx
  simp only [lN,List.mem_cons,List.not_mem_nil,or_false] at hx
  rcases hx with rfl | rfl | rfl<;>assumption
 have run:=λ(b:Nat) (hb:b=1\/b=2) (o0 o1 o2:Int)=>A5 n k b hn hb hk [0,0,0] (lN (a0,a1,a2)) (lN (b0,b1,b2)) rfl rfl a4 b4 o0 o1 o2
 have r1:=run 1 (.inl rfl) 0 0 0
 obtain ⟨p0,p1,p2,hp⟩:∃p0 p1 p2,addB k 1 (lN (a0,a1,a2)) (lN (b0,b1,b2)) [0,0,0]=[p0,p1,p2]:=⟨_,_,_,rfl⟩
 have r2:=run 2 (.inr rfl) p0 p1 p2
 rw [hp] at r1
 obtain ⟨n,rfl⟩:∃j,n=j+5:=⟨n - 5,by omega⟩
 have s1:bw (n+5) ((k:Int),1,l3 (a0,a1,a2),l3 (b0,b1,b2),[0,0,0],[0,0,0])=some (.inl ((k:Int),2,l3 (a0,a1,a2),l3 (b0,b1,b2),[0,0,0],[p0,p1,p2])):=by
  unfold bw
  show cond (decide ((1:Int)<=2)) (ob (ah (aG (n+5)) (n+5) ((k:Int),((1:Nat):Int),0,(lN (a0,a1,a2)).map cI,(lN (b0,b1,b2)).map cI,[0,0,0],[0,0,0])) _) _=_
  rw [r1]
  rfl
 have s2:bw (n+5) ((k:Int),2,l3 (a0,a1,a2),l3 (b0,b1,b2),[0,0,0],[p0,p1,p2])=some (.inl ((k:Int),3,l3 (a0,a1,a2),l3 (b0,b1,b2),[0,0,0],addB k 2 (lN (a0,a1,a2)) (lN (b0,b1,b2)) [p0,p1,p2])):=by
  unfold bw
  show cond (decide ((2:Int)<=2)) (ob (ah (aG (n+5)) (n+5) ((k:Int),((2:Nat):Int),0,(lN (a0,a1,a2)).map cI,(lN (b0,b1,b2)).map cI,[0,0,0],[p0,p1,p2])) _) _=_
  rw [r2]
  rfl
 have s3:∀out:List Int,bw (n+5) ((k:Int),3,l3 (a0,a1,a2),l3 (b0,b1,b2),[0,0,0],out)=some (.inr ([0,0,0],out)):=λout=>rfl
 unfold cg
 rw [ah,s1]
 show ob (ah _ (n+4) _) _=_
 rw [ah,s2]
 show ob (ah _ (n+3) _) _=_
 rw [ah,s3]
 show some (addB k 2 (lN (a0,a1,a2)) (lN (b0,b1,b2)) [p0,p1,p2])=_
 rw [<-hp]
 have hk':k=1\/k=2\/k=3:=by omega
 have or2:=λ(x y:Nat) (hx:x<4) (hy:y<4) (b:Nat) (hb:b=1\/b=2)=>kR hx hy b hb
 rcases hk' with rfl | rfl | rfl
 ·obtain rfl:=g3 (by omega)
  obtain rfl:=g4 (by omega)
  obtain rfl:=f3 (by omega)
  obtain rfl:=f4 (by omega)
  have e:∀b,b=1\/b=2->hit 1 b 0 (lN (a0,0,0)) (lN (b0,0,0))=decide (0<bt b (a0 ||| b0)):=λb hb=>by rw [kR g0 f0 b hb];rfl
  show some [cond (hit 1 2 0 (lN (a0,0,0)) (lN (b0,0,0))) (IntKind.wrap .u8 (cond (hit 1 1 0 (lN (a0,0,0)) (lN (b0,0,0))) (IntKind.wrap .u8 (0+((1:Nat):Int))) 0+((2:Nat):Int))) (cond (hit 1 1 0 (lN (a0,0,0)) (lN (b0,0,0))) (IntKind.wrap .u8 (0+((1:Nat):Int))) 0),0,0]=_
  rw [e 1 (.inl rfl),e 2 (.inr rfl),k9 (ol _ _ g0 f0)]
  simp [l3,spM]
 ·obtain rfl:=g4 (by omega)
  obtain rfl:=f4 (by omega)
  have h2:∀b,b=1\/b=2->hit 2 b 1 (lN (a0,a1,0)) (lN (b0,b1,0))=decide (0<bt b (a1 ||| b1)):=λb hb=>by rw [kR g1 f1 b hb];rfl
  have h1:∀b,b=1\/b=2->hit 2 b 0 (lN (a0,a1,0)) (lN (b0,b1,0))=decide (0<bt b (a0 ||| b0 ||| b1)):=λb hb=>by
   have q1:=kR (ol _ _ g0 f0) f1 b hb
   have q2:=kR g0 f0 b hb
   rw [q1]
   have:hit 2 b 0 (lN (a0,a1,0)) (lN (b0,b1,0))=decide (0<bt b a0+(bt b b0+(bt b b1+0))):=rfl
   rw [this]
   simp only [decide_eq_decide] at q2 ⊢
   omega
  show some [cond (hit 2 2 0 (lN (a0,a1,0)) (lN (b0,b1,0))) (IntKind.wrap .u8 (cond (hit 2 1 0 (lN (a0,a1,0)) (lN (b0,b1,0))) (IntKind.wrap .u8 (0+((1:Nat):Int))) 0+((2:Nat):Int))) (cond (hit 2 1 0 (lN (a0,a1,0)) (lN (b0,b1,0))) (IntKind.wrap .u8 (0+((1:Nat):Int))) 0),cond (hit 2 2 1 (lN (a0,a1,0)) (lN (b0,b1,0))) (IntKind.wrap .u8 (cond (hit 2 1 1 (lN (a0,a1,0)) (lN (b0,b1,0))) (IntKind.wrap .u8 (0+((1:Nat):Int))) 0+((2:Nat):Int))) (cond (hit 2 1 1 (lN (a0,a1,0)) (lN (b0,b1,0))) (IntKind.wrap .u8 (0+((1:Nat):Int))) 0),0]=_
  rw [h1 1 (.inl rfl),h1 2 (.inr rfl),h2 1 (.inl rfl),h2 2 (.inr rfl),k9 (ol _ _ (ol _ _ g0 f0) f1),k9 (ol _ _ g1 f1)]
  simp [l3,spM]
 ·have h3:∀b,b=1\/b=2->hit 3 b 2 (lN (a0,a1,a2)) (lN (b0,b1,b2))=decide (0<bt b (a2 ||| b2)):=λb hb=>by rw [kR g2 f2 b hb];rfl
  have h2:∀b,b=1\/b=2->hit 3 b 1 (lN (a0,a1,a2)) (lN (b0,b1,b2))=decide (0<bt b (a1 ||| b1 ||| b2)):=λb hb=>by
   have q1:=kR (ol _ _ g1 f1) f2 b hb
   have q2:=kR g1 f1 b hb
   rw [q1]
   have:hit 3 b 1 (lN (a0,a1,a2)) (lN (b0,b1,b2))=decide (0<bt b a1+(bt b b1+(bt b b2+0))):=rfl
   rw [this]
   simp only [decide_eq_decide] at q2 ⊢
   omega
  have h1:∀b,b=1\/b=2->hit 3 b 0 (lN (a0,a1,a2)) (lN (b0,b1,b2))=decide (0<bt b (a0 ||| b0 ||| b1 ||| b2)):=λb hb=>by
   have q1:=kR (ol _ _ (ol _ _ g0 f0) f1) f2 b hb
   have q2:=kR (ol _ _ g0 f0) f1 b hb
   have q3:=kR g0 f0 b hb
   rw [q1]
   have:hit 3 b 0 (lN (a0,a1,a2)) (lN (b0,b1,b2))=decide (0<bt b a0+(bt b b0+(bt b b1+(bt b b2+0)))):=rfl
   rw [this]
   simp only [decide_eq_decide] at q2 q3 ⊢
   omega
  show some [cond (hit 3 2 0 (lN (a0,a1,a2)) (lN (b0,b1,b2))) (IntKind.wrap .u8 (cond (hit 3 1 0 (lN (a0,a1,a2)) (lN (b0,b1,b2))) (IntKind.wrap .u8 (0+((1:Nat):Int))) 0+((2:Nat):Int))) (cond (hit 3 1 0 (lN (a0,a1,a2)) (lN (b0,b1,b2))) (IntKind.wrap .u8 (0+((1:Nat):Int))) 0),cond (hit 3 2 1 (lN (a0,a1,a2)) (lN (b0,b1,b2))) (IntKind.wrap .u8 (cond (hit 3 1 1 (lN (a0,a1,a2)) (lN (b0,b1,b2))) (IntKind.wrap .u8 (0+((1:Nat):Int))) 0+((2:Nat):Int))) (cond (hit 3 1 1 (lN (a0,a1,a2)) (lN (b0,b1,b2))) (IntKind.wrap .u8 (0+((1:Nat):Int))) 0),cond (hit 3 2 2 (lN (a0,a1,a2)) (lN (b0,b1,b2))) (IntKind.wrap .u8 (cond (hit 3 1 2 (lN (a0,a1,a2)) (lN (b0,b1,b2))) (IntKind.wrap .u8 (0+((1:Nat):Int))) 0+((2:Nat):Int))) (cond (hit 3 1 2 (lN (a0,a1,a2)) (lN (b0,b1,b2))) (IntKind.wrap .u8 (0+((1:Nat):Int))) 0)]=_
  rw [h1 1 (.inl rfl),h1 2 (.inr rfl),h2 1 (.inl rfl),h2 2 (.inr rfl),h3 1 (.inl rfl),h3 2 (.inr rfl),k9 (ol _ _ (ol _ _ (ol _ _ g0 f0) f1) f2),k9 (ol _ _ (ol _ _ g1 f1) f2),k9 (ol _ _ g2 f2)]
  rfl
def y3 (k a b c:Nat):Bool:=spM (plA k a b c) (plB k a b c)==(a,b,c)
theorem EB:((List.range 4).all λa=>y3 1 a 0 0)=true:=by decide +kernel
theorem F0:((List.range 4).all λa=>(List.range 4).all λb=>y3 2 a b 0)=true:=by decide +kernel
theorem FD:((List.range 4).all λa=>(List.range 4).all λb=>(List.range 4).all λc=>y3 3 a b c)=true:=by decide +kernel
theorem Gc (k a b c:Nat) (hk:1<=k/\k<=3) (ha:a<4) (hb:b<4) (hc:c<4) (h1:k<2->b=0) (h2:k<3->c=0):spM (plA k a b c) (plB k a b c)=(a,b,c):=by
 have h:y3 k a b c=true:=by
  have:k=1\/k=2\/k=3:=by omega
  rcases this with rfl | rfl | rfl
  ·rw [h1 (by omega),h2 (by omega)];exact r4 EB ha
  ·rw [h2 (by omega)];exact r4 (r4 F0 ha) hb
  ·exact r4 (r4 (r4 FD ha) hb) hc
 unfold y3 at h
 exact beq_iff_eq.1 h
def mkS (l:List UInt8):Nat:=match l with | []=>0 | c::_=>mkOf c
def mkN (l:List UInt8):Nat:=if mkS l=0 then 0 else 1
def twoN (l:List UInt8):Nat:=aN isDX 2 l
theorem El (c:UInt8):mkOf c<4:=by
 unfold mkOf
 split
 ·omega
 ·split
  ·omega
  ·split<;>omega
theorem yj (l:List UInt8):mkS l<4:=by
 cases l with
 | nil=>show 0<4;omega
 | cons c r=>exact El c
theorem F1 (l:List UInt8):mkN l<=l.length:=by
 cases l with
 | nil=>exact Nat.le_refl 0
 | cons c r=>
  unfold mkN
  split<;>simp
theorem D1 (c:UInt8):hasB [63,126,37] c=decide (0<mkOf c):=by
 have:=jH (λc=>hasB [63,126,37] c==decide (0<mkOf c)) (by decide +kernel) c
 simpa using this
theorem CX (m:Nat) (S:List UInt8) (a:Nat) (h:a<=S.length) (hS:S.length<100000):
  bj (m+300) S (a:Int)=some (.inr (((mkS (S.drop a):Nat):Int),S,((a+mkN (S.drop a):Nat):Int))):=by
 unfold bj
 rw [mg (m+300) S a h]
 cases hd:S.drop a with
 | nil=>
  have h0:jS (m+300) 0=some (0,false):=by kernel_rfl
  show ob (jS (m+300) 0) _=_
  rw [h0]
  rfl
 | cons c r=>
  show ob (jS (m+300) ((c.toNat:Nat):Int)) _=_
  rw [(yh m c).1]
  show cond (decide (0<mkOf c)) _ _=_
  have e1:mkS (c::r)=mkOf c:=rfl
  by_cases hc:0<mkOf c
  ·rw [decide_eq_true hc]
   show ob (bA (m+300) [63,126,37] S (a:Int)) _=_
   rw [uE (m+300) _ S a h (by omega),hd]
   have hb:hasB [63,126,37] c=true:=by rw [D1,decide_eq_true hc]
   have e2:mkN (c::r)=1:=by unfold mkN;rw [e1,if_neg (by omega)]
   rw [e1,e2]
   simp only [hb,if_true,ob]
  ·rw [decide_eq_false hc]
   have e2:mkN (c::r)=0:=by unfold mkN;rw [e1,if_pos (by omega)]
   rw [e1,e2]
   rfl
theorem qN (m:Nat) (S:List UInt8) (a:Nat) (h:a<=S.length) (hS:S.length<100000) (e:Int):
  cw (m+300) S (a:Int) e=some (((mkS (S.drop a):Nat):Int),S,((a+mkN (S.drop a):Nat):Int),e):=by
 unfold cw
 rw [gQ]
 rcases Nat.lt_or_ge a S.length with hlt | hge
 ·have:decide (S.length<=a)=false:=by simp;omega
  rw [this]
  obtain ⟨c,hc⟩:∃c,S[a]?=some c:=⟨S[a],List.getElem?_eq_getElem hlt⟩
  rw [cn hc,aY hc]
  show ob (gq (m+300) ((c.toNat:Nat):Int)) _=_
  rw [(yh m c).2]
  have e1:mkS (c::S.drop (a+1))=mkOf c:=rfl
  show cond (decide (((mkOf c:Nat):Int)>0)) _ _=_
  by_cases h0:0<mkOf c
  ·have e2:mkN (c::S.drop (a+1))=1:=by unfold mkN;rw [e1,if_neg (by omega)]
   have:decide (((mkOf c:Nat):Int)>0)=true:=by simp;omega
   rw [this,e1,e2,cond_true]
   have w:IntKind.wrap .i64 ((a:Int)+1)=((a+1:Nat):Int):=by rw [wrap_i64 _ (by omega) (by omega)];omega
   rw [w]
  ·have e2:mkN (c::S.drop (a+1))=0:=by unfold mkN;rw [e1,if_pos (by omega)]
   have:decide (((mkOf c:Nat):Int)>0)=false:=by simp;omega
   rw [this,e1,e2,cond_false]
   rfl
 ·have:decide (S.length<=a)=true:=by simp;omega
  rw [this,List.drop_eq_nil_of_le hge]
  rfl
theorem CL (n:Nat) (S:List UInt8) (a:Nat) (h:a<=S.length) (hS:S.length<100000) (hn:S.length<n):
  ec n S (a:Int)=some (if twoN (S.drop a)<2 then .inl (((a+twoN (S.drop a):Nat):Int),5,S,((a+twoN (S.drop a):Nat):Int)) else .inr ((S.drop a).take 2,S,((a+2:Nat):Int))):=by
 unfold ec
 rw [nS n _ 2 2 S a h (by omega) hn]
 have e:aN (hasB [88,48,49,50,51,52,53,54,55,56,57]) (2:Int).toNat (S.drop a)=twoN (S.drop a):=by
  unfold twoN
  have e2:(2:Int).toNat=2:=rfl
  rw [e2]
  exact fP (λc=>by rw [mR];rfl) _ _
 rw [e]
 by_cases h2:twoN (S.drop a)<2
 ·rw [if_pos h2,if_pos (by omega)]
  rfl
 ·have h3:twoN (S.drop a)=2:=by
   have:=kV isDX 2 (S.drop a)
   unfold twoN at h2 ⊢
   omega
  rw [if_neg h2,if_neg (by omega),h3]
  rfl
theorem Ez (c:UInt8):isDX c=((decide (48<=c.toNat)&&decide (c.toNat<=57))||c==88):=by
 unfold isDX
 congr 1
 rw [Bool.eq_iff_iff,aQ]
 simp
theorem vw (n:Nat) (S:List UInt8) (a b i e:Int) (j:Nat) (hS:S.length<100000) (hi:i<2) (hj:j<=S.length) (i0:0<=i):
  dI n (b,i,S,(j:Int),e,[],0,0)=some (match S.drop j with
   | []=>.inr (.inl ([],S,(j:Int),5))
   | c::_=>if isDX c then .inl (b,i+1,S,((j+1:Nat):Int),e,[],0,0) else .inr (.inl ([],S,(j:Int),5))):=by
 unfold dI
 have d1:decide (i<2)=true:=decide_eq_true hi
 show cond (decide (i<2)) (cond (decide ((j:Int)>=((S.length:Nat):Int))) _ _) _=_
 rw [d1,gQ]
 rcases Nat.lt_or_ge j S.length with hlt | hge
 ·have:decide (S.length<=j)=false:=by simp;omega
  rw [this]
  obtain ⟨c,hc⟩:∃c,S[j]?=some c:=⟨S[j],List.getElem?_eq_getElem hlt⟩
  have w1:IntKind.wrap .i64 (i+1)=i+1:=wrap_i64 _ (by omega) (by omega)
  have w2:IntKind.wrap .i64 ((j:Int)+1)=((j+1:Nat):Int):=by rw [wrap_i64 _ (by omega) (by omega)];omega
  rw [aY hc]
  simp only [cn hc,ob,cond_true,cond_false,w1,w2]
  rw [Ez]
  have e88:(((c.toNat:Nat):Int) != 88)=!(c==88):=by rw [bne];congr 1;exact ky c 88
  rw [e88]
  by_cases h1:c.toNat<48
  ·have q1:decide (((c.toNat:Nat):Int)<48)=true:=by simp;omega
   have q2:decide (48<=c.toNat)=false:=by simp;omega
   rw [q1,q2]
   cases (c==88)<;>rfl
  ·have q1:decide (((c.toNat:Nat):Int)<48)=false:=by simp;omega
   have q2:decide (48<=c.toNat)=true:=by simp;omega
   rw [q1,q2]
   by_cases h2:c.toNat<=57
   ·have q3:decide (((c.toNat:Nat):Int)>57)=false:=by simp;omega
    have q4:decide (c.toNat<=57)=true:=by simp;omega
    rw [q3,q4]
    rfl
   ·have q3:decide (((c.toNat:Nat):Int)>57)=true:=by simp;omega
    have q4:decide (c.toNat<=57)=false:=by simp;omega
    rw [q3,q4]
    cases (c==88)<;>rfl
 ·have:decide (S.length<=j)=true:=by simp;omega
  rw [this,List.drop_eq_nil_of_le hge]
  rfl
theorem xh (n:Nat) (hn:10<n) (S:List UInt8) (a:Nat) (h:a<=S.length) (hS:S.length<100000) (e:Int):
  fw n S (a:Int) e=some (if twoN (S.drop a)<2 then ([],S,((a+twoN (S.drop a):Nat):Int),5) else ((S.drop a).take 2,S,((a+2:Nat):Int),e)):=by
 obtain ⟨n,rfl⟩:∃j,n=j+3:=⟨n - 3,by omega⟩
 unfold fw
 rw [ah,vw (n+3) S 0 (a:Int) 0 e a hS (by omega) h (by omega)]
 cases hd:S.drop a with
 | nil=>rfl
 | cons c r=>
  obtain ⟨hlt,hg,hr⟩:=iN hd
  cases hc:isDX c with
  | false=>
   have:twoN (c::r)=0:=by unfold twoN;simp [aN,hc]
   rw [this]
   simp [hc,ob]
  | true=>
   simp only [hc,if_true]
   rw [ah,vw (n+3) S 0 (a:Int) (0+1) e (a+1) hS (by omega) (by omega) (by omega),hr]
   cases r with
   | nil=>
    have:twoN [c]=1:=by unfold twoN;simp [aN,hc]
    rw [this]
    rfl
   | cons d r2=>
    obtain ⟨hlt2,hg2,hr2⟩:=iN hr
    cases hd2:isDX d with
    | false=>
     have:twoN (c::d::r2)=1:=by unfold twoN;simp [aN,hc,hd2]
     rw [this]
     simp [hd2,ob]
    | true=>
     have:twoN (c::d::r2)=2:=by unfold twoN;simp [aN,hc,hd2]
     rw [this]
     simp only [hd2,if_true]
     have s3:dI (n+3) ((a:Int),0+1+1,S,((a+1+1:Nat):Int),e,[],0,0)=some (.inr (.inr ((a:Int),S,((a+1+1:Nat):Int),e,[],0,0))):=rfl
     rw [ah,s3]
     show ob (bx S.length ((a+1+1:Nat):Int)) _=_
     rw [bY (show a+1+1<=S.length by omega)]
     show ob (bx (a+1+1) (a:Int)) _=_
     rw [bY (show a<=a+1+1 by omega)]
     have:List.drop a (List.take (a+1+1) S)=[c,d]:=by
      rw [List.drop_take,hd]
      have:a+1+1 - a=2:=by omega
      rw [this]
      rfl
     show some (List.drop a (List.take (a+1+1) S),S,((a+1+1:Nat):Int),e)=_
     rw [this]
     rfl
theorem cutD (r:Nat) (h:r<10):List.drop r (List.take (r+1) ([48,49,50,51,52,53,54,55,56,57]:List UInt8))=[UInt8.ofNat (48+r)]:=by
 have:∀r,r<10->List.drop r (List.take (r+1) ([48,49,50,51,52,53,54,55,56,57]:List UInt8))=[UInt8.ofNat (48+r)]:=by decide
 exact this r h
theorem tu {k:Nat} (h:k<10):Lib.decDigits k=[UInt8.ofNat (48+k)]:=by
 rw [Lib.decDigits,dif_pos h]
theorem rl {k:Nat} (h:¬k<10) (h2:k<100):Lib.decDigits k=[UInt8.ofNat (48+k / 10),UInt8.ofNat (48+k%10)]:=by
 rw [Lib.decDigits,dif_neg h,tu (by omega)];rfl
theorem xZ (n k:Nat) (h:k<100):am n (k:Int)=some (Lib.decDigits k):=by
 have hm:Int.tmod (k:Int) 10=((k%10:Nat):Int):=rfl
 have hq:Int.tdiv (k:Int) 10=((k / 10:Nat):Int):=rfl
 have w1:IntKind.wrap .i64 (((k%10:Nat):Int)+1)=((k%10+1:Nat):Int):=by rw [wrap_i64 _ (by omega) (by omega)];omega
 have w2:IntKind.wrap .i64 ((k / 10:Nat):Int)=((k / 10:Nat):Int):=wrap_i64 _ (by omega) (by omega)
 have w3:IntKind.wrap .i64 (((k / 10:Nat):Int)+1)=((k / 10+1:Nat):Int):=by rw [wrap_i64 _ (by omega) (by omega)];omega
 simp only [am,hm,hq,w1,w2,w3,bY (show k%10+1<=10 by omega),bY (show k%10<=k%10+1 by omega),ob,cutD (k%10) (by omega)]
 by_cases h1:k<10
 ·have e:decide ((k:Int)>=10)=false:=decide_eq_false (by omega)
  rw [e,cond_false,tu h1,Nat.mod_eq_of_lt h1]
 ·have e:decide ((k:Int)>=10)=true:=decide_eq_true (by omega)
  rw [e,cond_true,bY (show k / 10+1<=10 by omega)]
  simp only []
  rw [bY (show k / 10<=k / 10+1 by omega)]
  simp only [cutD (k / 10) (by omega)]
  rw [df (by simp),rl h1 h]
  rfl
def cA (letter:UInt8) (v:Nat):List UInt8:=if 0<v then letter::Lib.decDigits v else []
theorem zf {k:Nat} (h:k<100):1<=(Lib.decDigits k).length/\(Lib.decDigits k).length<=2:=by
 by_cases h1:k<10
 ·rw [tu h1];simp
 ·rw [rl h1 h];simp
theorem pH (letter:UInt8) {k:Nat} (h:k<100):(cA letter k).length<=3:=by
 unfold cA
 split
 ·have:=zf h;simp only [List.length_cons];omega
 ·simp
theorem gH (g l:Bool) (d:List UInt8) (x s:Nat):fb g l d (x:Int) (s:Int)=(if l then [89] else [])++(if g then [45] else [])++d++cA 69 x++cA 83 s:=by
 unfold fb cA
 simp only [Int.toNat_natCast]
 have e1:(0<(x:Int))=(0<x):=by simp
 have e2:(0<(s:Int))=(0<s):=by simp
 simp only [e1,e2]
theorem BA (n:Nat) (g l:Bool) (d:List UInt8) (x s:Nat) (hx:x<100) (hs:s<100) (hd:d.length<=1000):gu n g l d (x:Int) (s:Int)=some (fb g l d (x:Int) (s:Int)):=by
 have l1:=zf hx
 have l2:=zf hs
 have ex:decide ((x:Int)>0)=decide (0<x):=by simp
 have es:decide ((s:Int)>0)=decide (0<s):=by simp
 have tx:∀a:List UInt8,a.length<=1100->(cond (decide (0<x)) (ob (am n (x:Int)) λr=>(ob (cat ([69]:List UInt8) r) λp=>(cat a p))) (some a))=some (a++cA 69 x):=by
  intro a ha
  unfold cA
  by_cases h:0<x
  ·rw [decide_eq_true h,cond_true,if_pos h,xZ n x hx]
   simp only [ob]
   rw [df (by simp;omega)]
   simp only []
   rw [df (by simp;omega)]
   rfl
  ·rw [decide_eq_false h,if_neg h];simp
 have ts:∀a:List UInt8,a.length<=1200->(cond (decide (0<s)) (ob (am n (s:Int)) λr=>(ob (cat ([83]:List UInt8) r) λp=>(ob (cat a p) λq=>(some q)))) (some a))=some (a++cA 83 s):=by
  intro a ha
  unfold cA
  by_cases h:0<s
  ·rw [decide_eq_true h,cond_true,if_pos h,xZ n s hs]
   simp only [ob]
   rw [df (by simp;omega)]
   simp only []
   rw [df (by simp;omega)]
   rfl
  ·rw [decide_eq_false h,if_neg h];simp
 have both:∀a:List UInt8,a.length<=1100->(cond (decide (0<x)) (ob (am n (x:Int)) λr=>(ob (cat ([69]:List UInt8) r) λp=>(ob (cat a p) λz=>(cond (decide (0<s)) (ob (am n (s:Int)) λr=>(ob (cat ([83]:List UInt8) r) λp=>(ob (cat z p) λq=>(some q)))) (some z))))) (cond (decide (0<s)) (ob (am n (s:Int)) λr=>(ob (cat ([83]:List UInt8) r) λp=>(ob (cat a p) λq=>(some q)))) (some a)))=some (a++cA 69 x++cA 83 s):=by
  intro a ha
  have htx:=tx a ha
  by_cases h:0<x
  ·rw [decide_eq_true h,cond_true] at htx ⊢
   rw [xZ n x hx] at htx ⊢
   simp only [ob] at htx ⊢
   rw [df (a:=[69]) (by simp;omega)] at htx ⊢
   simp only [] at htx ⊢
   rw [htx]
   simp only []
   have:=ts (a++cA 69 x) (by have:=pH 69 hx;simp only [List.length_append];omega)
   simp only [ob] at this
   exact this
  ·rw [decide_eq_false h,cond_false]
   have hz:cA 69 x=[]:=by unfold cA;rw [if_neg h]
   rw [hz,List.append_nil]
   exact ts a (by omega)
 rw [gH]
 unfold gu
 rw [ex,es]
 cases l<;>cases g
 ·rw [cond_false,cond_false,df (by simp;omega)]
  exact both d (by omega)
 ·rw [cond_false,cond_true,df (by simp;omega)]
  exact both ([45]++d) (by simp;omega)
 ·rw [cond_true,cond_false,df (by simp;omega)]
  exact both ([89]++d) (by simp;omega)
 ·rw [cond_true,cond_true,df (by simp;omega)]
  exact both ([89,45]++d) (by simp;omega)
def ct (p:UInt8->Bool) (l:List UInt8):Prop:=∀c,l.head?=some c->p c=false
theorem ie {k:Nat} (h:k<10):(UInt8.ofNat (48+k)).toNat=48+k:=by
 rw [UInt8.toNat_ofNat']
 exact Nat.mod_eq_of_lt (by omega)
theorem sg (letter:UInt8) (v:Nat) (post:List UInt8) (hv:v<100) (h1:ct az post) (h2:ct (λc=>c==letter) post):numS letter (cA letter v++post)=.inr (v,(cA letter v).length):=by
 unfold cA
 by_cases h0:0<v
 ·rw [if_pos h0]
  by_cases h9:v<10
  ·rw [tu h9]
   have hd:=ie h9
   simp only [List.cons_append,List.nil_append]
   rw [iM,if_pos rfl,jt,if_pos (by omega)]
   have e48:48+v - 48=v:=by omega
   cases post with
   | nil=>
    rw [mM,hd,e48]
    rfl
   | cons e r=>
    have he:¬az e=true:=by rw [h1 e rfl];simp
    rw [iV,if_neg he,hd,e48]
    rfl
  ·rw [rl h9 hv]
   have hd:=ie (show v / 10<10 by omega)
   have he:=ie (show v%10<10 by omega)
   simp only [List.cons_append,List.nil_append]
   rw [iM,if_pos rfl,jt,if_pos (by omega),iV,if_pos ((aQ _).2 (by omega)),hd,he]
   rw [show 10*(48+v / 10 - 48)+(48+v%10 - 48)=v by omega]
   rfl
 ·rw [if_neg h0]
  have hv0:v=0:=by omega
  subst hv0
  cases post with
  | nil=>rfl
  | cons c r=>
   have hc:c≠letter:=by
    have:=h2 c rfl
    simpa using this
   rw [List.nil_append,iM,if_neg hc]
   rfl
theorem pf (letter:UInt8) (l:List UInt8) (v k:Nat) (h:numS letter l=.inr (v,k)):v<100/\l.take k=cA letter v/\k<=l.length:=by
 cases l with
 | nil=>
  simp only [og,Sum.inr.injEq,Prod.mk.injEq] at h
  obtain ⟨rfl,rfl⟩:=h
  exact ⟨by omega,rfl,by simp⟩
 | cons c r=>
  rw [iM] at h
  by_cases hc:c=letter
  ·rw [if_pos hc] at h
   cases r with
   | nil=>simp [rK] at h
   | cons d r2=>
    rw [jt] at h
    by_cases hd:49<=d.toNat/\d.toNat<=57
    ·rw [if_pos hd] at h
     have e9:d.toNat - 48<10:=by omega
     have hdd:UInt8.ofNat (48+(d.toNat - 48))=d:=by
      apply UInt8.toNat_inj.1
      rw [ie e9];omega
     have one:(c::d::r2).take 2=cA letter (d.toNat - 48):=by
      unfold cA
      rw [if_pos (by omega),tu e9,hdd,hc];rfl
     cases r2 with
     | nil=>
      simp only [mM,Sum.inr.injEq,Prod.mk.injEq] at h
      obtain ⟨rfl,rfl⟩:=h
      exact ⟨by omega,one,by simp⟩
     | cons e r3=>
      rw [iV] at h
      by_cases he:az e=true
      ·rw [if_pos he] at h
       simp only [Sum.inr.injEq,Prod.mk.injEq] at h
       obtain ⟨rfl,rfl⟩:=h
       have hei:=(aQ e).1 he
       refine ⟨by omega,?_,by simp⟩
       unfold cA
       have h1:(10*(d.toNat - 48)+(e.toNat - 48)) / 10=d.toNat - 48:=by omega
       have h2:(10*(d.toNat - 48)+(e.toNat - 48))%10=e.toNat - 48:=by omega
       have hee:UInt8.ofNat (48+(e.toNat - 48))=e:=by
        apply UInt8.toNat_inj.1
        rw [ie (by omega)];omega
       rw [if_pos (by omega),rl (by omega) (by omega),h1,h2,hdd,hee,hc];rfl
      ·rw [if_neg he] at h
       simp only [Sum.inr.injEq,Prod.mk.injEq] at h
       obtain ⟨rfl,rfl⟩:=h
       exact ⟨by omega,one,by simp⟩
    ·rw [if_neg hd] at h;cases h
  ·rw [if_neg hc] at h
   simp only [Sum.inr.injEq,Prod.mk.injEq] at h
   obtain ⟨rfl,rfl⟩:=h
   exact ⟨by omega,rfl,by simp⟩
theorem oL {p:UInt8->Bool}:∀(r:List UInt8) (k:Nat) (post:List UInt8),(∀c∈r,p c=true)->r.length<=k->(ct p post\/r.length=k)->aN p k (r++post)=r.length
 | [],0,post,_,_,_=>by simp [aN]
 | [],k+1,post,_,_,h=>by
  cases post with
  | nil=>simp [aN]
  | cons c q=>
   rcases h with h | h
   ·have:=h c rfl
    simp [aN,this]
   ·simp at h
 | c::r,0,post,_,h,_=>by simp at h
 | c::r,k+1,post,hp,hk,h=>by
  have ih:=oL r k post (λd hd=>hp d (by simp [hd])) (by simpa using hk) (by
   rcases h with h | h
   ·exact .inl h
   ·exact .inr (by simpa using h))
  simp only [List.cons_append,aN,hp c (by simp),if_true,ih,List.length_cons]
theorem lb {letter:UInt8} {v:Nat} {post:List UInt8} {p:UInt8->Bool} (h1:p letter=false) (h2:ct p post):ct p (cA letter v++post):=by
 unfold cA
 intro c hc
 by_cases h:0<v
 ·rw [if_pos h] at hc
  simp only [List.cons_append,List.head?_cons,Option.some.injEq] at hc
  rw [<-hc];exact h1
 ·rw [if_neg h] at hc
  exact h2 c hc
def isYC (c:UInt8):Bool:=isDX c||c==69||c==83
theorem CO {l:List UInt8} (h:ct isYC l):ct az l:=λc hc=>by
 have:=h c hc
 unfold isYC isDX at this
 simp only [Bool.or_eq_false_iff] at this
 exact this.1.1.1
theorem GR {l:List UInt8} (h:ct isYC l):ct isDX l:=λc hc=>by
 have:=h c hc
 unfold isYC at this
 simp only [Bool.or_eq_false_iff] at this
 exact this.1.1
theorem Gx {l:List UInt8} (h:ct isYC l):ct (λc=>c==69) l:=λc hc=>by
 have:=h c hc
 unfold isYC at this
 simp only [Bool.or_eq_false_iff] at this
 exact this.1.2
theorem GB {l:List UInt8} (h:ct isYC l):ct (λc=>c==83) l:=λc hc=>by
 have:=h c hc
 unfold isYC at this
 simp only [Bool.or_eq_false_iff] at this
 exact this.2
theorem iP (c:UInt8) (l:List UInt8):dh c (c::l)=1:=by rw [gN,if_pos rfl]
theorem jx {c a:UInt8} (h:a≠c) (l:List UInt8):dh c (a::l)=0:=by rw [gN,if_neg h]
theorem yK {g l:Bool} {d:List UInt8} {x s:Nat} (h:okY g l d (x:Int) (s:Int)) (post:List UInt8) (hp:ct isYC post):kD (fb g l d (x:Int) (s:Int)++post)=.inr (g,l,d,x,s,(fb g l d (x:Int) (s:Int)).length):=by
 have hsm:=fJ h
 have n83:numS 83 (cA 83 s++post)=.inr (s,(cA 83 s).length):=sg 83 s post (by omega) (CO hp) (GB hp)
 have hR2:ct az (cA 83 s++post):=lb (by decide) (CO hp)
 have hR3:ct isDX (cA 83 s++post):=lb (by decide) (GR hp)
 rw [gH]
 cases l with
 | true=>
  have hL:okL d (x:Int) (s:Int):=by simpa [okY] using h
  obtain ⟨⟨h1,h2,h3,h4,h5,h6,h7,h8⟩,h9,h10⟩:=hL
  obtain ⟨c,r,rfl⟩:∃c r,d=c::r:=by
   cases d with
   | nil=>simp at h2
   | cons c r=>exact ⟨c,r,rfl⟩
  have hcd:=(aQ c).1 (h1 c (by simp))
  have hc49:49<=c.toNat/\c.toNat<=57:=by
   have:c.toNat≠48:=λe=>h4 (by rw [show c=48 from UInt8.toNat_inj.1 e];rfl)
   omega
  have hc45:c≠45:=by rintro rfl;exact absurd hcd.1 (by decide)
  have n69:numS 69 (cA 69 x++(cA 83 s++post))=.inr (x,(cA 69 x).length):=sg 69 x _ (by omega) hR2 (lb (by decide) (Gx hp))
  have hsp:aN az 16 (r++(cA 69 x++(cA 83 s++post)))=r.length:=by
   refine oL r 16 _ (λe he=>h1 e (by simp [he])) (by simp only [List.length_cons] at h3;omega) (.inl ?_)
   exact lb (by decide) hR2
  have body:∀o:Nat,mf g o ((c::r)++(cA 69 x++(cA 83 s++post)))=.inr (g,true,c::r,x,s,o+(1+r.length)+(cA 69 x).length+(cA 83 s).length):=by
   intro o
   simp only [List.cons_append,mf]
   rw [if_pos hc49,hsp]
   have e1:List.drop (1+r.length) (c::(r++(cA 69 x++(cA 83 s++post))))=cA 69 x++(cA 83 s++post):=by
    rw [Nat.add_comm,List.drop_succ_cons,List.drop_left' rfl]
   have e2:List.drop (1+r.length+(cA 69 x).length) (c::(r++(cA 69 x++(cA 83 s++post))))=cA 83 s++post:=by
    rw [show 1+r.length+(cA 69 x).length=(r.length+(cA 69 x).length)+1 by omega,List.drop_succ_cons,<-List.append_assoc,List.drop_left' (by simp)]
   have e3:List.take (1+r.length) (c::(r++(cA 69 x++(cA 83 s++post))))=c::r:=by
    rw [Nat.add_comm,List.take_succ_cons,List.take_left' rfl]
   rw [e1,n69]
   simp only []
   rw [e2,n83,e3]
  unfold kD
  cases g with
  | true=>
   simp only [if_true,List.cons_append,List.nil_append,List.append_assoc]
   rw [iP,if_pos rfl,List.drop_succ_cons,List.drop_zero,iP]
   have:=body 2
   simp only [List.cons_append] at this
   simp only [List.drop_succ_cons,List.drop_zero,show ((1:Nat)==1)=true from rfl,show 1+1=2 from rfl]
   rw [this]
   simp only [List.length_cons,List.length_append]
   congr 6
   omega
  | false=>
   simp only [if_true,Bool.false_eq_true,if_false,List.cons_append,List.nil_append,List.append_assoc]
   rw [iP,if_pos rfl,List.drop_succ_cons,List.drop_zero,jx hc45]
   have:=body 1
   simp only [List.cons_append] at this
   simp only [List.drop_succ_cons,List.drop_zero,show ((0:Nat)==1)=false from rfl,Nat.add_zero]
   rw [this]
   simp only [List.length_cons,List.length_append]
   congr 6
   omega
 | false=>
  have hS:okS g d (x:Int) (s:Int):=by simpa [okY] using h
  obtain ⟨h1,h2,h3,h4,h5,h6,h7⟩:=hS
  have hx0:x=0:=by omega
  subst hx0
  have ht0:cA 69 0=[]:=rfl
  have hdx:∀c∈d,isDX c=true:=λc hc=>by
   unfold isDX
   rcases h2 c hc with q | q
   ·rw [q];rfl
   ·rw [q];simp
  have hsp:aN isDX 4 (d++(cA 83 s++post))=d.length:=oL d 4 _ hdx (by omega) (.inr h1)
  have body:∀o:Nat,nq g o (d++(cA 83 s++post))=.inr (g,false,d,0,s,o+4+(cA 83 s).length):=by
   intro o
   unfold nq
   rw [hsp,h1,if_neg (by omega),List.drop_left' h1,n83,List.take_left' h1]
  obtain ⟨c,r,rfl⟩:∃c r,d=c::r:=by
   cases d with
   | nil=>simp at h1
   | cons c r=>exact ⟨c,r,rfl⟩
  have hc45:c≠45:=by
   rintro rfl
   rcases h2 45 (by simp) with q | q
   ·exact absurd ((aQ _).1 q).1 (by decide)
   ·exact absurd q (by decide)
  have hc89:c≠89:=by
   rintro rfl
   rcases h2 89 (by simp) with q | q
   ·exact absurd ((aQ _).1 q).2 (by decide)
   ·exact absurd q (by decide)
  have h4589:(45:UInt8)≠89:=by decide
  unfold kD
  rw [ht0]
  cases g with
  | true=>
   simp only [if_true,Bool.false_eq_true,if_false,List.cons_append,List.nil_append,List.append_assoc]
   rw [jx h4589,if_neg (by decide),iP,List.drop_succ_cons,List.drop_zero]
   have:=body 1
   simp only [List.cons_append] at this
   rw [show ((1:Nat)==1)=true from rfl,this]
   simp only [List.length_cons,List.length_append] at h1 ⊢
   congr 6
   omega
  | false=>
   simp only [Bool.false_eq_true,if_false,List.cons_append,List.nil_append,List.append_assoc]
   rw [jx hc89,if_neg (by decide),jx hc45,List.drop_zero]
   have:=body 0
   simp only [List.cons_append] at this
   rw [show ((0:Nat)==1)=false from rfl,this]
   simp only [List.length_cons,List.length_append] at h1 ⊢
   congr 6
   omega
theorem na (c:UInt8) (l:List UInt8):l.take (dh c l)=if dh c l=1 then [c] else []:=by
 rcases gJ c l with h | h
 ·rw [h];simp
 ·rw [h,if_pos rfl]
  unfold dh at h
  split at h
  ·assumption
  ·cases h
theorem jC (l:List UInt8) (i j:Nat):l.take (i+j)=l.take i++(l.drop i).take j:=by
 rw [List.take_add]
theorem mw {l:List UInt8} {g lng:Bool} {d:List UInt8} {x s k:Nat} (h:kD l=.inr (g,lng,d,x,s,k)):l.take k=fb g lng d (x:Int) (s:Int)/\k<=l.length/\x<100/\s<100/\d.length<=17:=by
 rw [gH]
 unfold kD at h
 by_cases h89:dh 89 l=1
 ·rw [if_pos h89] at h
  have t89:=na 89 l
  rw [h89,if_pos rfl] at t89
  have t45:=na 45 (l.drop 1)
  have c45:=gJ 45 (l.drop 1)
  generalize hu:dh 45 (l.drop 1)=u at *
  have hpre:l.take (1+u)=[89]++(if (u==1)=true then [45] else []):=by
   rw [jC,t89,t45]
   rcases c45 with rfl | rfl<;>rfl
  cases hd:l.drop (1+u) with
  | nil=>rw [hd] at h;simp [mf] at h
  | cons c r=>
   rw [hd] at h
   simp only [mf] at h
   by_cases hc:49<=c.toNat/\c.toNat<=57
   ·rw [if_pos hc] at h
    have htop:=kV az 16 r
    have hKl:1+aN az 16 r<=(c::r).length:=by have:=gT az 16 r;simp only [List.length_cons];omega
    generalize hK:1+aN az 16 r=K at *
    cases hq:numS 69 (List.drop K (c::r)) with
    | inl j=>rw [hq] at h;simp at h
    | inr p=>
     obtain ⟨x',j⟩:=p
     rw [hq] at h
     simp only at h
     cases hq2:numS 83 (List.drop (K+j) (c::r)) with
     | inl i=>rw [hq2] at h;simp at h
     | inr p2=>
      obtain ⟨s',i⟩:=p2
      rw [hq2] at h
      simp only [Sum.inr.injEq,Prod.mk.injEq] at h
      obtain ⟨rfl,rfl,rfl,rfl,rfl,rfl⟩:=h
      obtain ⟨a1,a2,a3⟩:=pf _ _ _ _ hq
      obtain ⟨b1,b2,b3⟩:=pf _ _ _ _ hq2
      rw [List.length_drop] at a3 b3
      have hll:l.length=1+u+(c::r).length:=by
       have:=congrArg List.length hd
       rw [List.length_drop] at this
       simp only [List.length_cons] at this ⊢
       omega
      refine ⟨?_,by simp only [List.length_cons] at *;omega,a1,b1,by rw [List.length_take];omega⟩
      rw [show 1+u+K+j+i=(1+u)+(K+(j+i)) by omega,jC,hpre,hd,jC _ K,jC _ j,a2,List.drop_drop,b2]
      simp
   ·rw [if_neg hc] at h;simp at h
 ·rw [if_neg h89] at h
  have t45:=na 45 l
  have c45:=gJ 45 l
  generalize hu:dh 45 l=u at *
  have hpre:l.take u=(if (u==1)=true then [45] else []):=by
   rw [t45]
   rcases c45 with rfl | rfl<;>rfl
  unfold nq at h
  by_cases h4:aN isDX 4 (l.drop u)<4
  ·rw [if_pos h4] at h;simp at h
  ·rw [if_neg h4] at h
   have hle:=gT isDX 4 (l.drop u)
   rw [List.length_drop] at hle
   cases hq:numS 83 (List.drop 4 (l.drop u)) with
   | inl i=>rw [hq] at h;simp at h
   | inr p2=>
    obtain ⟨s',i⟩:=p2
    rw [hq] at h
    simp only [Sum.inr.injEq,Prod.mk.injEq] at h
    obtain ⟨rfl,rfl,rfl,rfl,rfl,rfl⟩:=h
    obtain ⟨b1,b2,b3⟩:=pf _ _ _ _ hq
    rw [List.length_drop,List.length_drop] at b3
    refine ⟨?_,by omega,by omega,b1,by rw [List.length_take];omega⟩
    rw [show u+4+i=u+(4+i) by omega,jC,hpre,jC _ 4,b2]
    have ht0:cA 69 0=[]:=rfl
    rw [ht0]
    simp
abbrev DR:=Bool×Bool×List UInt8×Nat×Nat×List UInt8×List UInt8×(Nat×Nat×Nat)×(Nat×Nat×Nat)×Nat
def mkE (S:List UInt8) (p:Nat):Nat:=p+mkN (S.drop p)
def rd3 (S:List UInt8) (y:YR) (A0 B0 A1 B1 p0 c1 q2:Nat) (mm:List UInt8):Nat⊕DR:=
 if twoN (S.drop (mkE S (q2+1)))<2 then .inl (mkE S (q2+1)+twoN (S.drop (mkE S (q2+1))))
 else .inr (y.1,y.2.1,y.2.2.1,y.2.2.2.1,y.2.2.2.2.1,mm,(S.drop (mkE S (q2+1))).take 2,spM (A0,A1,mkS (S.drop (q2+1))) (B0,B1,mkS (S.drop (mkE S (q2+1)+2))),(p0,c1,mkE S (q2+1)),mkE S (mkE S (q2+1)+2))
def rd2 (S:List UInt8) (y:YR) (A0 B0 p0 q1:Nat):Nat⊕DR:=
 if twoN (S.drop (mkE S (q1+1)))<2 then .inl (mkE S (q1+1)+twoN (S.drop (mkE S (q1+1))))
 else if dh 45 (S.drop (mkE S (mkE S (q1+1)+2)))=0 then .inr (y.1,y.2.1,y.2.2.1,y.2.2.2.1,y.2.2.2.2.1,(S.drop (mkE S (q1+1))).take 2,[],spM (A0,mkS (S.drop (q1+1)),0) (B0,mkS (S.drop (mkE S (q1+1)+2)),0),(p0,mkE S (q1+1),0),mkE S (mkE S (q1+1)+2))
 else rd3 S y A0 B0 (mkS (S.drop (q1+1))) (mkS (S.drop (mkE S (q1+1)+2))) p0 (mkE S (q1+1)) (mkE S (mkE S (q1+1)+2)) ((S.drop (mkE S (q1+1))).take 2)
def lZ (S:List UInt8) (a:Nat):Nat⊕DR:=match kD (S.drop (mkE S a)) with
 | .inl k=>.inl (mkE S a+k)
 | .inr y=>if 0<y.2.2.2.2.1\/dh 45 (S.drop (mkE S (mkE S a+y.2.2.2.2.2)))=0
  then .inr (y.1,y.2.1,y.2.2.1,y.2.2.2.1,y.2.2.2.2.1,[],[],spM (mkS (S.drop a),0,0) (mkS (S.drop (mkE S a+y.2.2.2.2.2)),0,0),(mkE S a,0,0),mkE S (mkE S a+y.2.2.2.2.2))
  else rd2 S y (mkS (S.drop a)) (mkS (S.drop (mkE S a+y.2.2.2.2.2))) (mkE S a) (mkE S (mkE S a+y.2.2.2.2.2))
def EE (S:List UInt8):Nat⊕DR->(Int×Int×List UInt8×Int)⊕(Bool×Bool×List UInt8×Int×Int×List UInt8×List UInt8×Int×Int×Int×List Int×List UInt8×Int)
 | .inl k=>.inl ((k:Int),5,S,(k:Int))
 | .inr (g,l,dg,x,s,m,d,M,P,e)=>.inr (g,l,dg,(x:Int),(s:Int),m,d,(M.1:Int),(M.2.1:Int),(M.2.2:Int),l3 P,S,(e:Int))
theorem gj {S:List UInt8} {p:Nat} (h:p<=S.length):mkE S p<=S.length:=by
 have:=F1 (S.drop p)
 rw [List.length_drop] at this
 unfold mkE
 omega
theorem o5 {S:List UInt8} {p:Nat} (h2:¬twoN (S.drop p)<2):p+2<=S.length:=by
 have:=gT isDX 2 (S.drop p)
 unfold twoN at h2
 rw [List.length_drop] at this
 omega
theorem lh {S:List UInt8} {p:Nat} (h:¬dh 45 (S.drop p)=0):p+1<=S.length:=by
 have:=qT 45 (S.drop p)
 rw [List.length_drop] at this
 omega
theorem Ax (n:Nat) (g l:Bool) (d:List UInt8) (x s:Int) (mm dd:List UInt8) (k0 k1 k2:Int) (S:List UInt8) (p:Nat) (h:p<=S.length) (hS:S.length<100000) (hn:S.length<n):
  fI n g l d x s mm dd k0 k1 k2 S (p:Int)=some (match kD (S.drop p) with
   | .inl k=>.inl (((p+k:Nat):Int),5,g,l,d,x,s,mm,dd,k0,k1,k2,S,((p+k:Nat):Int))
   | .inr y=>.inr (y.1,y.2.1,y.2.2.1,(y.2.2.2.1:Int),(y.2.2.2.2.1:Int),mm,dd,k0,k1,k2,S,((p+y.2.2.2.2.2:Nat):Int))):=by
 unfold fI
 rw [Dw n S p h hS hn]
 cases kD (S.drop p) with
 | inl k=>rfl
 | inr y=>rfl
theorem BX (n:Nat) (g l:Bool) (d:List UInt8) (x s:Int) (mm dd:List UInt8) (k0 k1 k2:Int) (S:List UInt8) (p:Nat) (h:p<=S.length) (hS:S.length<100000) (hn:S.length<n):
  fN n g l d x s mm dd k0 k1 k2 S (p:Int)=some (if twoN (S.drop p)<2
   then .inl (((p+twoN (S.drop p):Nat):Int),5,g,l,d,x,s,mm,dd,k0,k1,k2,S,((p+twoN (S.drop p):Nat):Int))
   else .inr (g,l,d,x,s,(S.drop p).take 2,dd,k0,k1,k2,S,((p+2:Nat):Int))):=by
 unfold fN
 rw [CL n S p h hS hn]
 by_cases h2:twoN (S.drop p)<2
 ·rw [if_pos h2,if_pos h2];rfl
 ·rw [if_neg h2,if_neg h2];rfl
theorem AI (n:Nat) (g l:Bool) (d:List UInt8) (x s:Int) (mm dd:List UInt8) (k0 k1 k2:Int) (S:List UInt8) (p:Nat) (h:p<=S.length) (hS:S.length<100000) (hn:S.length<n):
  fF n g l d x s mm dd k0 k1 k2 S (p:Int)=some (if twoN (S.drop p)<2
   then .inl (((p+twoN (S.drop p):Nat):Int),5,g,l,d,x,s,mm,dd,k0,k1,k2,S,((p+twoN (S.drop p):Nat):Int))
   else .inr (g,l,d,x,s,mm,(S.drop p).take 2,k0,k1,k2,S,((p+2:Nat):Int))):=by
 unfold fF
 rw [CL n S p h hS hn]
 by_cases h2:twoN (S.drop p)<2
 ·rw [if_pos h2,if_pos h2];rfl
 ·rw [if_neg h2,if_neg h2];rfl
theorem Dg (m:Nat) (S:List UInt8) (a:Nat) (h:a<=S.length) (hS:S.length<100000) (hn:S.length<m+300):
  fC (m+300) S (a:Int)=some (EE S (lZ S a)):=by
 have hm:∀p,p<=S.length->bj (m+300) S (p:Int)=some (.inr (((mkS (S.drop p):Nat):Int),S,((mkE S p:Nat):Int))):=λp hp=>CX m S p hp hS
 have z4:∀p,mkS (S.drop p)<4:=λp=>yj _
 have sp1:∀p q,cu (m+300) [((mkS (S.drop p):Nat):Int),0,0] [((mkS (S.drop q):Nat):Int),0,0] 1=some (l3 (spM (mkS (S.drop p),0,0) (mkS (S.drop q),0,0)),0):=λp q=>
  pG (m+300) (by omega) 1 (mkS (S.drop p),0,0) (mkS (S.drop q),0,0) (by omega) ⟨z4 p,by simp,by simp,by simp,by simp⟩ ⟨z4 q,by simp,by simp,by simp,by simp⟩
 have sp2:∀p q p' q',cu (m+300) [((mkS (S.drop p):Nat):Int),((mkS (S.drop p'):Nat):Int),0] [((mkS (S.drop q):Nat):Int),((mkS (S.drop q'):Nat):Int),0] 2=some (l3 (spM (mkS (S.drop p),mkS (S.drop p'),0) (mkS (S.drop q),mkS (S.drop q'),0)),0):=λp q p' q'=>
  pG (m+300) (by omega) 2 (mkS (S.drop p),mkS (S.drop p'),0) (mkS (S.drop q),mkS (S.drop q'),0) (by omega) ⟨z4 p,z4 p',by simp,by simp,by simp⟩ ⟨z4 q,z4 q',by simp,by simp,by simp⟩
 have sp3:∀p q p' q' p'' q'',cu (m+300) [((mkS (S.drop p):Nat):Int),((mkS (S.drop p'):Nat):Int),((mkS (S.drop p''):Nat):Int)] [((mkS (S.drop q):Nat):Int),((mkS (S.drop q'):Nat):Int),((mkS (S.drop q''):Nat):Int)] 3=some (l3 (spM (mkS (S.drop p),mkS (S.drop p'),mkS (S.drop p'')) (mkS (S.drop q),mkS (S.drop q'),mkS (S.drop q''))),0):=λp q p' q' p'' q''=>
  pG (m+300) (by omega) 3 (mkS (S.drop p),mkS (S.drop p'),mkS (S.drop p'')) (mkS (S.drop q),mkS (S.drop q'),mkS (S.drop q'')) (by omega) ⟨z4 p,z4 p',z4 p'',by simp,by simp⟩ ⟨z4 q,z4 q',z4 q'',by simp,by simp⟩
 have b0:=gj h
 unfold fC lZ
 rw [hm a h]
 simp only [ob,to]
 rw [Ax _ _ _ _ _ _ _ _ _ _ _ S (mkE S a) b0 hS hn]
 cases hr:kD (S.drop (mkE S a)) with
 | inl k=>rfl
 | inr y=>
  obtain ⟨g,l,dg,x,s,k⟩:=y
  have bk:mkE S a+k<=S.length:=by
   have:=(mw hr).2.1
   rw [List.length_drop] at this
   omega
  have b1:=gj bk
  simp only [ob,d4,d8]
  rw [hm (mkE S a+k) bk]
  simp only [ob]
  by_cases hs:0<s
  ·have:decide (((s:Nat):Int)>0)=true:=by simp;omega
   rw [this,if_pos (.inl hs)]
   simp only [cond_true]
   rw [sp1]
   rfl
  ·have:decide (((s:Nat):Int)>0)=false:=by simp;omega
   rw [this]
   simp only [cond_false]
   rw [mA (m+300) 45 S _ b1 hS]
   simp only [ob]
   by_cases ht:dh 45 (S.drop (mkE S (mkE S a+k)))=0
   ·rw [if_pos (.inr ht),ht]
    simp only [show ((0:Nat)==1)=false from rfl,Bool.not_false,cond_true,Nat.add_zero]
    rw [sp1]
    rfl
   ·have ht1:dh 45 (S.drop (mkE S (mkE S a+k)))=1:=(gJ 45 _).resolve_left ht
    have bt1:=lh ht
    rw [if_neg (λz=>z.elim hs ht),ht1]
    simp only [show ((1:Nat)==1)=true from rfl,Bool.not_true,cond_false]
    unfold rd2
    rw [hm _ bt1]
    simp only [ob]
    have bc:=gj bt1
    rw [BX _ _ _ _ _ _ _ _ _ _ _ S _ bc hS hn]
    by_cases h2:twoN (S.drop (mkE S (mkE S (mkE S a+k)+1)))<2
    ·rw [if_pos h2,if_pos h2];rfl
    ·rw [if_neg h2,if_neg h2]
     have b2:=o5 h2
     simp only [ob,d4,d8]
     rw [hm _ b2]
     simp only [ob]
     rw [this]
     simp only [cond_false]
     have b3:=gj b2
     rw [mA (m+300) 45 S _ b3 hS]
     simp only [ob]
     by_cases ht2:dh 45 (S.drop (mkE S (mkE S (mkE S (mkE S a+k)+1)+2)))=0
     ·rw [if_pos ht2,ht2]
      simp only [show ((0:Nat)==1)=false from rfl,Bool.not_false,cond_true,Nat.add_zero]
      rw [sp2]
      rfl
     ·have ht21:=(gJ 45 (S.drop (mkE S (mkE S (mkE S (mkE S a+k)+1)+2)))).resolve_left ht2
      have bt2:=lh ht2
      rw [if_neg ht2,ht21]
      simp only [show ((1:Nat)==1)=true from rfl,Bool.not_true,cond_false]
      unfold rd3
      rw [hm _ bt2]
      simp only [ob]
      have bc2:=gj bt2
      rw [AI _ _ _ _ _ _ _ _ _ _ _ S _ bc2 hS hn]
      by_cases h3:twoN (S.drop (mkE S (mkE S (mkE S (mkE S (mkE S a+k)+1)+2)+1)))<2
      ·rw [if_pos h3,if_pos h3];rfl
      ·rw [if_neg h3,if_neg h3]
       have b4:=o5 h3
       simp only [ob,d4,d8]
       rw [hm _ b4]
       simp only [ob]
       rw [sp3]
       rfl
def ER (S:List UInt8) (P:List Int):Nat⊕DR->Bool×Bool×List UInt8×Int×Int×List UInt8×List UInt8×Int×Int×Int×List Int×List UInt8×Int×Int
 | .inl k=>(false,false,[],0,0,[],[],0,0,0,P,S,(k:Int),5)
 | .inr (g,l,dg,x,s,m,d,M,Q,e)=>(g,l,dg,(x:Int),(s:Int),m,d,(M.1:Int),(M.2.1:Int),(M.2.2:Int),l3 Q,S,(e:Int),0)
abbrev RdSt:=List UInt8×Int×Int×List Int×Bool×Bool×List UInt8×Int×Int×List UInt8×List UInt8×List Int×List Int×List Int×List UInt8×Int×Int
def rdSt (S:List UInt8) (i:Int) (g l:Bool) (dg:List UInt8) (x s:Int) (mm dd:List UInt8) (P A B:List Int) (p:Nat):RdSt:=
 (S,i,i,[0,0,0],g,l,dg,x,s,mm,dd,P,A,B,S,(p:Int),0)
theorem Gl (m:Nat) (S:List UInt8) (a:Nat) (h:a<=S.length) (hS:S.length<100000) (hn:S.length<m+300):
  aA (m+300) (rdSt S 0 false false [] 0 0 [] [] [0,0,0] [0,0,0] [0,0,0] a)=some (match kD (S.drop (mkE S a)) with
   | .inl k=>.inr (.inr (false,false,[],0,0,[],[],0,0,0,[((mkE S a:Nat):Int),0,0],S,((mkE S a+k:Nat):Int),5))
   | .inr y=>.inl (rdSt S 1 y.1 y.2.1 y.2.2.1 (y.2.2.2.1:Int) (y.2.2.2.2.1:Int) [] [] [((mkE S a:Nat):Int),0,0] [((mkS (S.drop a):Nat):Int),0,0] [((mkS (S.drop (mkE S a+y.2.2.2.2.2)):Nat):Int),0,0] (mkE S (mkE S a+y.2.2.2.2.2)))):=by
 have hm:∀p,p<=S.length->cw (m+300) S (p:Int) 0=some (((mkS (S.drop p):Nat):Int),S,((mkE S p:Nat):Int),0):=λp hp=>qN m S p hp hS 0
 have b0:=gj h
 unfold aA rdSt
 simp only [d4,d8,d16,db,show (decide ((0:Int)<3))=true from rfl,show (decide ((0:Int)>0))=false from rfl,cond_true,cond_false,ob]
 rw [hm a h]
 simp only [ob,show ix 3 0=some 0 from rfl,show Nat.blt 0 3=true from rfl,cond_true,cZ,show ((0:Int)==0)=true from rfl]
 rw [Bm (m+300) S (mkE S a) b0 hS hn]
 cases hr:kD (S.drop (mkE S a)) with
 | inl k=>rfl
 | inr y=>
  obtain ⟨g,l,dg,x,s,k⟩:=y
  have bk:mkE S a+k<=S.length:=by
   have:=(mw hr).2.1
   rw [List.length_drop] at this
   omega
  simp only [jz,ob,d4,d8,d16,show ((0:Int) != 0)=false from rfl,cond_false]
  rw [hm _ bk]
  rfl
theorem GK (m:Nat) (S:List UInt8) (g l:Bool) (dg:List UInt8) (x s:Nat) (P0 A0 B0:Int) (q:Nat) (h:q<=S.length) (hS:S.length<100000) (hn:S.length<m+300):
  aA (m+300) (rdSt S 1 g l dg (x:Int) (s:Int) [] [] [P0,0,0] [A0,0,0] [B0,0,0] q)=some (
   if 0<s\/dh 45 (S.drop q)=0 then .inr (.inl (1,false,false,[],0,0,[],[],0,0,0,[0,0,0],[],0,0,g,l,dg,(x:Int),(s:Int),[],[],0,0,0,[P0,0,0],[A0,0,0],[B0,0,0],S,(q:Int),0))
   else if twoN (S.drop (mkE S (q+1)))<2 then .inr (.inr (false,false,[],0,0,[],[],0,0,0,[P0,((mkE S (q+1):Nat):Int),0],S,((mkE S (q+1)+twoN (S.drop (mkE S (q+1))):Nat):Int),5))
   else .inl (rdSt S 2 g l dg (x:Int) (s:Int) ((S.drop (mkE S (q+1))).take 2) [] [P0,((mkE S (q+1):Nat):Int),0] [A0,((mkS (S.drop (q+1)):Nat):Int),0] [B0,((mkS (S.drop (mkE S (q+1)+2)):Nat):Int),0] (mkE S (mkE S (q+1)+2)))):=by
 have hm:∀p,p<=S.length->cw (m+300) S (p:Int) 0=some (((mkS (S.drop p):Nat):Int),S,((mkE S p:Nat):Int),0):=λp hp=>qN m S p hp hS 0
 unfold aA rdSt
 simp only [d4,d8,d16,db,dP,show (decide ((1:Int)<3))=true from rfl,show (decide ((1:Int)>0))=true from rfl,cond_true,cond_false,ob,gQ]
 by_cases hs:0<s
 ·have:decide (((s:Nat):Int)>0)=true:=by simp;omega
  rw [this,if_pos (.inl hs)]
  rfl
 ·have:decide (((s:Nat):Int)>0)=false:=by simp;omega
  rw [this]
  simp only [cond_false]
  rcases Nat.lt_or_ge q S.length with hlt | hge
  ·obtain ⟨c,hc⟩:∃c,S[q]?=some c:=⟨S[q],List.getElem?_eq_getElem hlt⟩
   have hle:decide (S.length<=q)=false:=by simp;omega
   rw [hle]
   simp only [cond_false,cn hc,ob]
   have e45:(((c.toNat:Nat):Int) != 45)=!(c==45):=by rw [bne];congr 1;exact ky c 45
   rw [e45,aY hc,gN]
   by_cases h45:c=45
   ·have w:IntKind.wrap .i64 ((q:Int)+1)=((q+1:Nat):Int):=by rw [wrap_i64 _ (by omega) (by omega)];omega
    rw [if_pos h45,if_neg (show ¬(0<s\/(1:Nat)=0) from λz=>z.elim hs (by omega)),h45]
    simp only [BEq.rfl,Bool.not_true,cond_false,ob,w]
    rw [hm _ (by omega)]
    simp only [ob,show ix 3 1=some 1 from rfl,show Nat.blt 1 3=true from rfl,cond_true,cZ,dU,show ((1:Int)==0)=false from rfl,show ((1:Int)==1)=true from rfl,cond_false]
    have b1:=gj (show q+1<=S.length by omega)
    rw [xh (m+300) (by omega) S _ b1 hS 0]
    by_cases h2:twoN (S.drop (mkE S (q+1)))<2
    ·rw [if_pos h2,if_pos h2];rfl
    ·rw [if_neg h2,if_neg h2]
     simp only [ob,d4,d8,d16,show ((0:Int) != 0)=false from rfl,cond_false]
     rw [hm _ (o5 h2)]
     rfl
   ·have:(c==45)=false:=beq_eq_false_iff_ne.2 h45
    rw [if_neg h45,if_pos (.inr rfl),this]
    rfl
  ·have hle:decide (S.length<=q)=true:=by simp;omega
   rw [hle,List.drop_eq_nil_of_le hge,oY,if_pos (.inr rfl)]
   rfl
theorem Gg (m:Nat) (S:List UInt8) (g l:Bool) (dg:List UInt8) (x s:Nat) (mm:List UInt8) (P0 A0 B0 P1 A1 B1:Int) (q:Nat) (h:q<=S.length) (hS:S.length<100000) (hn:S.length<m+300) (hs:¬0<s):
  aA (m+300) (rdSt S 2 g l dg (x:Int) (s:Int) mm [] [P0,P1,0] [A0,A1,0] [B0,B1,0] q)=some (
   if dh 45 (S.drop q)=0 then .inr (.inl (2,false,false,[],0,0,[],[],0,0,0,[0,0,0],[],0,0,g,l,dg,(x:Int),(s:Int),mm,[],0,0,0,[P0,P1,0],[A0,A1,0],[B0,B1,0],S,(q:Int),0))
   else if twoN (S.drop (mkE S (q+1)))<2 then .inr (.inr (false,false,[],0,0,[],[],0,0,0,[P0,P1,((mkE S (q+1):Nat):Int)],S,((mkE S (q+1)+twoN (S.drop (mkE S (q+1))):Nat):Int),5))
   else .inl (rdSt S 3 g l dg (x:Int) (s:Int) mm ((S.drop (mkE S (q+1))).take 2) [P0,P1,((mkE S (q+1):Nat):Int)] [A0,A1,((mkS (S.drop (q+1)):Nat):Int)] [B0,B1,((mkS (S.drop (mkE S (q+1)+2)):Nat):Int)] (mkE S (mkE S (q+1)+2)))):=by
 have hm:∀p,p<=S.length->cw (m+300) S (p:Int) 0=some (((mkS (S.drop p):Nat):Int),S,((mkE S p:Nat):Int),0):=λp hp=>qN m S p hp hS 0
 unfold aA rdSt
 simp only [d4,d8,d16,db,dP,show (decide ((2:Int)<3))=true from rfl,show (decide ((2:Int)>0))=true from rfl,cond_true,cond_false,ob,gQ]
 have:decide (((s:Nat):Int)>0)=false:=by simp;omega
 rw [this]
 simp only [cond_false]
 rcases Nat.lt_or_ge q S.length with hlt | hge
 ·obtain ⟨c,hc⟩:∃c,S[q]?=some c:=⟨S[q],List.getElem?_eq_getElem hlt⟩
  have hle:decide (S.length<=q)=false:=by simp;omega
  rw [hle]
  simp only [cond_false,cn hc,ob]
  have e45:(((c.toNat:Nat):Int) != 45)=!(c==45):=by rw [bne];congr 1;exact ky c 45
  rw [e45,aY hc,gN]
  by_cases h45:c=45
  ·have w:IntKind.wrap .i64 ((q:Int)+1)=((q+1:Nat):Int):=by rw [wrap_i64 _ (by omega) (by omega)];omega
   rw [if_pos h45,if_neg (show ¬((1:Nat)=0) by omega),h45]
   simp only [BEq.rfl,Bool.not_true,cond_false,ob,w]
   rw [hm _ (by omega)]
   simp only [ob,show ix 3 2=some 2 from rfl,show Nat.blt 2 3=true from rfl,cond_true,cZ,dU,show ((2:Int)==0)=false from rfl,show ((2:Int)==1)=false from rfl,cond_false]
   have b1:=gj (show q+1<=S.length by omega)
   rw [xh (m+300) (by omega) S _ b1 hS 0]
   by_cases h2:twoN (S.drop (mkE S (q+1)))<2
   ·rw [if_pos h2,if_pos h2];rfl
   ·rw [if_neg h2,if_neg h2]
    simp only [ob,d4,d8,d16,show ((0:Int) != 0)=false from rfl,cond_false]
    rw [hm _ (o5 h2)]
    rfl
  ·have:(c==45)=false:=beq_eq_false_iff_ne.2 h45
   rw [if_neg h45,if_pos rfl,this]
   rfl
 ·have hle:decide (S.length<=q)=true:=by simp;omega
  rw [hle,List.drop_eq_nil_of_le hge,oY,if_pos rfl]
  rfl
theorem ud (m:Nat) (S:List UInt8) (a:Nat) (h:a<=S.length) (hS:S.length<100000) (hn:S.length<m+300):
  ∃P:List Int,P.length=3/\dJ (m+300) S (a:Int)=some (ER S P (lZ S a)):=by
 have z4:∀p,mkS (S.drop p)<4:=λp=>yj _
 have sp1:∀p q,cg (m+300) [((mkS (S.drop p):Nat):Int),0,0] [((mkS (S.drop q):Nat):Int),0,0] 1=some (l3 (spM (mkS (S.drop p),0,0) (mkS (S.drop q),0,0))):=λp q=>
  mU (m+300) (by omega) 1 (mkS (S.drop p),0,0) (mkS (S.drop q),0,0) (by omega) ⟨z4 p,by simp,by simp,by simp,by simp⟩ ⟨z4 q,by simp,by simp,by simp,by simp⟩
 have sp2:∀p q p' q',cg (m+300) [((mkS (S.drop p):Nat):Int),((mkS (S.drop p'):Nat):Int),0] [((mkS (S.drop q):Nat):Int),((mkS (S.drop q'):Nat):Int),0] 2=some (l3 (spM (mkS (S.drop p),mkS (S.drop p'),0) (mkS (S.drop q),mkS (S.drop q'),0))):=λp q p' q'=>
  mU (m+300) (by omega) 2 (mkS (S.drop p),mkS (S.drop p'),0) (mkS (S.drop q),mkS (S.drop q'),0) (by omega) ⟨z4 p,z4 p',by simp,by simp,by simp⟩ ⟨z4 q,z4 q',by simp,by simp,by simp⟩
 have sp3:∀p q p' q' p'' q'',cg (m+300) [((mkS (S.drop p):Nat):Int),((mkS (S.drop p'):Nat):Int),((mkS (S.drop p''):Nat):Int)] [((mkS (S.drop q):Nat):Int),((mkS (S.drop q'):Nat):Int),((mkS (S.drop q''):Nat):Int)] 3=some (l3 (spM (mkS (S.drop p),mkS (S.drop p'),mkS (S.drop p'')) (mkS (S.drop q),mkS (S.drop q'),mkS (S.drop q'')))):=λp q p' q' p'' q''=>
  mU (m+300) (by omega) 3 (mkS (S.drop p),mkS (S.drop p'),mkS (S.drop p'')) (mkS (S.drop q),mkS (S.drop q'),mkS (S.drop q'')) (by omega) ⟨z4 p,z4 p',z4 p'',by simp,by simp⟩ ⟨z4 q,z4 q',z4 q'',by simp,by simp⟩
 have b0:=gj h
 unfold dJ lZ
 show ∃P:List Int,P.length=3/\ob (ah (aA (m+300)) (m+299+1) (rdSt S 0 false false [] 0 0 [] [] [0,0,0] [0,0,0] [0,0,0] a)) _=_
 rw [ah,Gl m S a h hS hn]
 cases hr:kD (S.drop (mkE S a)) with
 | inl k=>(refine ⟨_,?_,rfl⟩;rfl)
 | inr y=>
  obtain ⟨g,l,dg,x,s,k⟩:=y
  have bk:mkE S a+k<=S.length:=by
   have:=(mw hr).2.1
   rw [List.length_drop] at this
   omega
  have b1:=gj bk
  show ∃P:List Int,P.length=3/\ob (ah (aA (m+300)) (m+298+1) (rdSt S 1 g l dg (x:Int) (s:Int) [] [] [((mkE S a:Nat):Int),0,0] [((mkS (S.drop a):Nat):Int),0,0] [((mkS (S.drop (mkE S a+k)):Nat):Int),0,0] (mkE S (mkE S a+k)))) _=_
  rw [ah,GK m S g l dg x s _ _ _ _ b1 hS hn]
  simp only []
  by_cases hc:0<s\/dh 45 (S.drop (mkE S (mkE S a+k)))=0
  ·rw [if_pos hc,if_pos hc]
   refine ⟨[0,0,0],rfl,?_⟩
   simp only [ob,d4,d8,d16]
   rw [sp1]
   rfl
  ·rw [if_neg hc,if_neg hc]
   have hs:¬0<s:=λz=>hc (.inl z)
   have bt1:=lh (λz=>hc (.inr z))
   have bc:=gj bt1
   unfold rd2
   by_cases h2:twoN (S.drop (mkE S (mkE S (mkE S a+k)+1)))<2
   ·rw [if_pos h2,if_pos h2];(refine ⟨_,?_,rfl⟩;rfl)
   ·rw [if_neg h2,if_neg h2]
    have b2:=o5 h2
    have b3:=gj b2
    show ∃P:List Int,P.length=3/\ob (ah (aA (m+300)) (m+297+1) (rdSt S 2 g l dg (x:Int) (s:Int) _ [] [_,_,0] [_,_,0] [_,_,0] (mkE S (mkE S (mkE S (mkE S a+k)+1)+2)))) _=_
    rw [ah,Gg m S g l dg x s _ _ _ _ _ _ _ _ b3 hS hn hs]
    by_cases ht2:dh 45 (S.drop (mkE S (mkE S (mkE S (mkE S a+k)+1)+2)))=0
    ·rw [if_pos ht2,if_pos ht2]
     refine ⟨[0,0,0],rfl,?_⟩
     simp only [ob,d4,d8,d16]
     rw [sp2]
     rfl
    ·rw [if_neg ht2,if_neg ht2]
     have bt2:=lh ht2
     have bc2:=gj bt2
     unfold rd3
     by_cases h3:twoN (S.drop (mkE S (mkE S (mkE S (mkE S (mkE S a+k)+1)+2)+1)))<2
     ·rw [if_pos h3,if_pos h3];(refine ⟨_,?_,rfl⟩;rfl)
     ·rw [if_neg h3,if_neg h3]
      have s3:∀(mm dd:List UInt8) (P A B:List Int) (p:Nat),aA (m+300) (rdSt S 3 g l dg (x:Int) (s:Int) mm dd P A B p)=some (.inr (.inl (3,false,false,[],0,0,[],[],0,0,0,[0,0,0],[],0,0,g,l,dg,(x:Int),(s:Int),mm,dd,0,0,0,P,A,B,S,(p:Int),0))):=λ_ _ _ _ _ _=>rfl
      show ∃P:List Int,P.length=3/\ob (ah (aA (m+300)) (m+296+1) (rdSt S 3 g l dg (x:Int) (s:Int) _ _ _ _ _ _)) _=_
      rw [ah,s3]
      refine ⟨[0,0,0],rfl,?_⟩
      simp only [ob,d4,d8,d16]
      rw [sp3]
      rfl
theorem Ef (n a:Nat) (ha:a<65536):∃d,gt n (a:Int)=some d/\d.length=4/\∀c∈d,az c=true:=by
 have hN:Int.tmod (a:Int) 10000=((a%10000:Nat):Int):=rfl
 have h10:a%10000<10000:=Nat.mod_lt _ (by decide)
 generalize a%10000=N at *
 have e1:Int.tdiv (N:Int) 1000=((N / 1000:Nat):Int):=rfl
 have e2:Int.tdiv (N:Int) 100=((N / 100:Nat):Int):=rfl
 have e3:Int.tdiv (N:Int) 10=((N / 10:Nat):Int):=rfl
 have w1:IntKind.wrap .u16 ((N / 1000:Nat):Int)=((N / 1000:Nat):Int):=nO _ (by omega) (by omega)
 have w2:IntKind.wrap .u16 ((N / 100:Nat):Int)=((N / 100:Nat):Int):=nO _ (by omega) (by omega)
 have w3:IntKind.wrap .u16 ((N / 10:Nat):Int)=((N / 10:Nat):Int):=nO _ (by omega) (by omega)
 have m2:Int.tmod ((N / 100:Nat):Int) 10=((N / 100%10:Nat):Int):=rfl
 have m3:Int.tmod ((N / 10:Nat):Int) 10=((N / 10%10:Nat):Int):=rfl
 have m4:Int.tmod (N:Int) 10=((N%10:Nat):Int):=rfl
 have s:∀r:Nat,r<10->IntKind.wrap .u16 ((r:Int)+1)=((r+1:Nat):Int):=λr hr=>by rw [nO _ (by omega) (by omega)];omega
 refine ⟨[UInt8.ofNat (48+N / 1000),UInt8.ofNat (48+N / 100%10),UInt8.ofNat (48+N / 10%10),UInt8.ofNat (48+N%10)],?_,rfl,?_⟩
 ·simp only [gt,hN,e1,e2,e3,w1,w2,w3,m2,m3,m4,s (N / 1000) (by omega),s (N / 100%10) (by omega),s (N / 10%10) (by omega),s (N%10) (by omega),bY (show N / 1000+1<=10 by omega),bY (show N / 1000<=N / 1000+1 by omega),bY (show N / 100%10+1<=10 by omega),bY (show N / 100%10<=N / 100%10+1 by omega),bY (show N / 10%10+1<=10 by omega),bY (show N / 10%10<=N / 10%10+1 by omega),bY (show N%10+1<=10 by omega),bY (show N%10<=N%10+1 by omega),ob,cutD (N / 1000) (by omega),cutD (N / 100%10) (by omega),cutD (N / 10%10) (by omega),cutD (N%10) (by omega)]
  rw [df (by simp)]
  simp only []
  rw [df (by simp)]
  simp only []
  rw [df (by simp)]
  rfl
 ·have d1:∀r:Nat,r<10->az (UInt8.ofNat (48+r))=true:=λr hr=>(aQ _).2 (by rw [ie hr];omega)
  simp only [List.mem_cons,List.not_mem_nil,or_false,forall_eq_or_imp,forall_eq]
  exact ⟨d1 _ (by omega),d1 _ (by omega),d1 _ (by omega),d1 _ (by omega)⟩
theorem pg (n:Nat) (g l:Bool) (d:List UInt8) (x s:Int) (hn:200<n) (hd:d.length<=100) (h:okY false l d x s):∃g',(ob (bm n g l d x s) λr=>(cond (r==0) (some (false,l,d,x,s)) (some (g,l,d,x,s))))=some (g',l,d,x,s)/\okY g' l d x s:=by
 rw [tG n g l d x s hn hd]
 by_cases hg:okY g l d x s
 ·rw [if_pos hg];exact ⟨g,rfl,hg⟩
 ·rw [if_neg hg];exact ⟨false,rfl,h⟩
theorem pC {d:List UInt8} {s:Int} (h1:d.length=4) (h2:∀c∈d,az c=true\/c=88) (h3:0<=s) (h4:s<=4) (h5:¬(0<s/\hasX d=true)):okY false false d 0 s:=by
 have:okS false d 0 s:=⟨h1,h2,rfl,by simp,h3,h4,h5⟩
 simpa [okY] using this
theorem CQ (n:Nat) (a b:Int) (g:Bool) (d:List UInt8) (hl:d.length=4) (hd:∀c∈d,az c=true) (hn:4<n):
  ∃s:List UInt8,ah (dn n) n (a,b,[],0,false,false,[],0,0,g,false,d,0,0)=some (s,false,false,[],0,0,g,false,d,0,0)/\s.length=4/\∀c∈s,az c=true\/c=88:=by
 obtain ⟨y,h1,s,h2,h3,h4⟩:=jv (step:=dn n) (λx=>∃(i:Nat) (s:List UInt8),i<=4/\s.length=i/\(∀c∈s,az c=true\/c=88)/\x=(a,b,s,(i:Int),false,false,[],0,0,g,false,d,0,0)) (λx=>4 - x.2.2.2.1.toNat) (λy=>∃s:List UInt8,y=(s,false,false,[],0,0,g,false,d,0,0)/\s.length=4/\∀c∈s,az c=true\/c=88) (by
  rintro x ⟨i,s,hi,hs,hc,rfl⟩
  rcases Nat.lt_or_ge i 4 with hlt | hge
  ·obtain ⟨c,hgc⟩:∃c,d[i]?=some c:=⟨d[i],List.getElem?_eq_getElem (by omega)⟩
   have d1:decide ((i:Int)<4)=true:=decide_eq_true (by omega)
   have w1:IntKind.wrap .i64 ((i:Int)+1)=((i+1:Nat):Int):=by rw [wrap_i64 _ (by omega) (by omega)];omega
   have next:∀e:UInt8,(az e=true\/e=88)->∃x',some (Sum.inl (a,b,s++[e],((i+1:Nat):Int),false,false,([]:List UInt8),(0:Int),(0:Int),g,false,d,(0:Int),(0:Int)))=some (Sum.inl (β:=List UInt8×Bool×Bool×List UInt8×Int×Int×Bool×Bool×List UInt8×Int×Int) x')/\(∃(i:Nat) (s:List UInt8),i<=4/\s.length=i/\(∀c∈s,az c=true\/c=88)/\x'=(a,b,s,(i:Int),false,false,[],0,0,g,false,d,0,0))/\4 - x'.2.2.2.1.toNat<4 - i:=by
    intro e he
    refine ⟨_,rfl,⟨i+1,s++[e],hlt,by simp [hs],?_,rfl⟩,by simp only [Int.toNat_natCast];omega⟩
    intro c' hc'
    rcases List.mem_append.1 hc' with q | q
    ·exact hc c' q
    ·simp only [List.mem_cons,List.not_mem_nil,or_false] at q
     rw [q];exact he
   simp only [dn,d1,cond_true,w1,Int.toNat_natCast,bY (show i+1<=d.length by omega),bY (show i<=i+1 by omega),ob,cut1 hgc]
   rw [df (a:=s) (b:=[88]) (by simp;omega),df (a:=s) (b:=[c]) (by simp;omega)]
   simp only []
   left
   cases ((i:Int)==a)
   ·cases ((i:Int)==b)
    ·exact next c (.inl (hd c (List.mem_of_getElem? hgc)))
    ·exact next 88 (.inr rfl)
   ·exact next 88 (.inr rfl)
  ·have:i=4:=by omega
   subst this
   exact .inr ⟨_,rfl,s,rfl,hs,hc⟩) n (a,b,[],0,false,false,[],0,0,g,false,d,0,0) ⟨0,[],by omega,rfl,by simp,rfl⟩ (by simp;omega)
 exact ⟨s,by rw [h1,h2],h3,h4⟩
theorem cut9 (r:Nat) (h:r<9):List.drop r (List.take (r+1) ([49,50,51,52,53,54,55,56,57]:List UInt8))=[UInt8.ofNat (49+r)]:=by
 have:∀r,r<9->List.drop r (List.take (r+1) ([49,50,51,52,53,54,55,56,57]:List UInt8))=[UInt8.ofNat (49+r)]:=by decide
 exact this r h
theorem v7 {d:List UInt8} {x s:Nat} (h1:∀c∈d,az c=true) (h2:1<=d.length) (h3:d.length<=5) (h4:d.head?≠some 48) (h5:x<=11) (h6:x=0->d.length=5) (h7:s<=d.length+x):okY false true d (x:Int) (s:Int):=by
 have hlt:=kN d 0 0 h1 (by simp)
 have hp:(10:Nat) ^ (d.length+0)<=10 ^ 5:=Nat.pow_le_pow_right (by decide) (by omega)
 have hq:(10:Nat) ^ x<=10 ^ 11:=Nat.pow_le_pow_right (by decide) h5
 have hm:=Nat.mul_le_mul (Nat.le_of_lt (Nat.lt_of_lt_of_le hlt hp)) hq
 have e:(10:Nat) ^ 5*10 ^ 11=E16:=by decide
 have:okL d (x:Int) (s:Int):=⟨⟨h1,h2,by omega,h4,by omega,by omega,by rintro ⟨q1,q2⟩;have:=h6 (by omega);omega,by simp only [Int.toNat_natCast];omega⟩,by omega,by omega⟩
 simpa [okY] using this
theorem Du (m a0 a2 a3 a4:Nat) (g:Bool) (h2:a2<65536) (h3:a3<256) (h4:a4<256):∃g' l d x s,gh (m+300) (a0:Int) g (a2:Int) (a3:Int) (a4:Int)=some (g',l,d,x,s)/\okY g' l d x s/\d.length<=5/\x<=11/\(a0%6≠3->hasX d=false):=by
 obtain ⟨d,hd1,hd2,hd3⟩:=Ef (m+300) a2 h2
 have hdX:∀c∈d,az c=true\/c=88:=λc hc=>.inl (hd3 c hc)
 have hnX:=mC hd3
 unfold gh
 rw [hd1]
 simp only [ob]
 cases hc3:(Int.tmod (a0:Int) 6==3) with
 | true=>
  simp only [cond_true]
  obtain ⟨s,hs1,hs2,hs3⟩:=CQ (m+300) (IntKind.wrap .i64 (Int.tmod (a3:Int) 4)) (IntKind.wrap .i64 (Int.tmod (a4:Int) 4)) g d hd2 hd3 (by omega)
  rw [hs1]
  obtain ⟨g',q1,q2⟩:=pg (m+300) g false s 0 0 (by omega) (by omega) (pC hs2 hs3 (by omega) (by omega) (by omega))
  exact ⟨g',false,s,0,0,q1,q2,by omega,by omega,λh3=>absurd (by
   have e:=beq_iff_eq.1 hc3
   have e2:Int.tmod (a0:Int) 6=((a0%6:Nat):Int):=rfl
   omega) h3⟩
 | false=>
  simp only [cond_false]
  cases (Int.tmod (a0:Int) 6==4) with
  | true=>
   simp only [cond_true]
   have e:Int.tmod (a3:Int) 4=((a3%4:Nat):Int):=rfl
   have w1:IntKind.wrap .i64 ((a3%4:Nat):Int)=((a3%4:Nat):Int):=wrap_i64 _ (by omega) (by omega)
   have w2:IntKind.wrap .i64 (1+((a3%4:Nat):Int))=((1+a3%4:Nat):Int):=by rw [wrap_i64 _ (by omega) (by omega)];omega
   rw [e,w1,w2]
   obtain ⟨g',q1,q2⟩:=pg (m+300) g false d 0 ((1+a3%4:Nat):Int) (by omega) (by omega) (pC hd2 hdX (by omega) (by omega) (by rw [hnX];simp))
   exact ⟨g',false,d,0,_,q1,q2,by omega,by omega,λ_=>hnX⟩
  | false=>
   simp only [cond_false]
   cases (Int.tmod (a0:Int) 6==5) with
   | false=>
    simp only [cond_false]
    obtain ⟨g',q1,q2⟩:=pg (m+300) g false d 0 0 (by omega) (by omega) (pC hd2 hdX (by omega) (by omega) (by omega))
    exact ⟨g',false,d,0,0,q1,q2,by omega,by omega,λ_=>hnX⟩
   | true=>
    simp only [cond_true]
    have e9:Int.tmod (a3:Int) 9=((a3%9:Nat):Int):=rfl
    have w9:IntKind.wrap .u8 (((a3%9:Nat):Int)+1)=((a3%9+1:Nat):Int):=by rw [dN _ (by omega) (by omega)];omega
    have e3:Int.tmod (a4:Int) 3=((a4%3:Nat):Int):=rfl
    have e5:Int.tmod (a4:Int) 5=((a4%5:Nat):Int):=rfl
    have w5:IntKind.wrap .u8 (1+((a4%5:Nat):Int))=((1+a4%5:Nat):Int):=by rw [dN _ (by omega) (by omega)];omega
    have e16:Int.tdiv (a4:Int) 16=((a4 / 16:Nat):Int):=rfl
    have w16:IntKind.wrap .u8 ((a4 / 16:Nat):Int)=((a4 / 16:Nat):Int):=dN _ (by omega) (by omega)
    have e11:Int.tmod ((a4 / 16:Nat):Int) 11=((a4 / 16%11:Nat):Int):=rfl
    have w11:IntKind.wrap .i64 ((a4 / 16%11:Nat):Int)=((a4 / 16%11:Nat):Int):=wrap_i64 _ (by omega) (by omega)
    have w12:IntKind.wrap .i64 (1+((a4 / 16%11:Nat):Int))=((1+a4 / 16%11:Nat):Int):=by rw [wrap_i64 _ (by omega) (by omega)];omega
    have f16:Int.tdiv (a3:Int) 16=((a3 / 16:Nat):Int):=rfl
    have v16:IntKind.wrap .u8 ((a3 / 16:Nat):Int)=((a3 / 16:Nat):Int):=dN _ (by omega) (by omega)
    have v17:IntKind.wrap .i64 ((a3 / 16:Nat):Int)=((a3 / 16:Nat):Int):=wrap_i64 _ (by omega) (by omega)
    have h48:UInt8.ofNat (49+a3%9)≠48:=by
     intro q
     have:=congrArg UInt8.toNat q
     rw [show 49+a3%9=48+(1+a3%9) by omega,ie (by omega)] at this
     exact absurd this (by show ¬48+(1+a3%9)=48;omega)
    have hdig1:az (UInt8.ofNat (49+a3%9))=true:=(aQ _).2 (by rw [show 49+a3%9=48+(1+a3%9) by omega,ie (by omega)];omega)
    rw [e9,w9,bY (show a3%9+1<=9 by omega)]
    simp only []
    rw [bY (show a3%9<=a3%9+1 by omega)]
    simp only []
    rw [cut9 (a3%9) (by omega),df (by simp;omega)]
    simp only []
    generalize hD:[UInt8.ofNat (49+a3%9)]++d=D
    have hDl:D.length=5:=by rw [<-hD];simp [hd2]
    have hDd:∀c∈D,az c=true:=by
     rw [<-hD]
     intro c hc
     simp only [List.cons_append,List.nil_append,List.mem_cons] at hc
     rcases hc with rfl | hc
     ·exact hdig1
     ·exact hd3 c hc
    have hDh:D.head?≠some 48:=by rw [<-hD];simpa using h48
    rw [e3,e5,w5,e16,w16,e11,w11,w12,f16,v16,v17]
    by_cases h33:0<a4%3
    ·have d1:decide (((a4%3:Nat):Int)>0)=true:=decide_eq_true (by omega)
     rw [d1,cond_true,bY (show 1+a4%5<=D.length by omega)]
     simp only [List.drop_zero]
     generalize hE:List.take (1+a4%5) D=E
     have hEl:E.length=1+a4%5:=by rw [<-hE,List.length_take];omega
     have hEd:∀c∈E,az c=true:=by rw [<-hE];exact λc hc=>hDd c (List.mem_of_mem_take hc)
     have hEh:E.head?≠some 48:=by
      rw [<-hE]
      cases D with
      | nil=>simp at hDl
      | cons c r=>rw [Nat.add_comm,List.take_succ_cons];simpa using hDh
     generalize hX:1+a4 / 16%11=X
     have hX11:X<=11:=by omega
     have hX1:1<=X:=by omega
     have wl:IntKind.wrap .i64 (IntKind.wrap .i64 (((E.length:Nat):Int)+((X:Nat):Int))+1)=((E.length+X+1:Nat):Int):=by
      rw [wrap_i64 (((E.length:Nat):Int)+((X:Nat):Int)) (by omega) (by omega),wrap_i64 _ (by omega) (by omega)];omega
     have ne0:(((E.length+X+1:Nat):Int)==0)=false:=beq_eq_false_iff_ne.2 (by omega)
     rw [wl,ne0,cond_false]
     have em:Int.tmod ((a3 / 16:Nat):Int) ((E.length+X+1:Nat):Int)=((a3 / 16%(E.length+X+1):Nat):Int):=rfl
     rw [em]
     have hml:a3 / 16%(E.length+X+1)<E.length+X+1:=Nat.mod_lt _ (by omega)
     generalize a3 / 16%(E.length+X+1)=s at hml ⊢
     obtain ⟨g',q1,q2⟩:=pg (m+300) g true E ((X:Nat):Int) ((s:Nat):Int) (by omega) (by omega) (v7 hEd (by omega) (by omega) hEh hX11 (by omega) (by omega))
     exact ⟨g',true,E,_,_,q1,q2,by omega,by omega,λ_=>mC hEd⟩
    ·have d1:decide (((a4%3:Nat):Int)>0)=false:=decide_eq_false (by omega)
     rw [d1,cond_false,hDl]
     have wl:IntKind.wrap .i64 (IntKind.wrap .i64 (((5:Nat):Int)+0)+1)=((6:Nat):Int):=by decide
     have ne0:(((6:Nat):Int)==0)=false:=rfl
     rw [wl,ne0,cond_false]
     have em:Int.tmod ((a3 / 16:Nat):Int) ((6:Nat):Int)=((a3 / 16%6:Nat):Int):=rfl
     rw [em]
     have hml:a3 / 16%6<6:=Nat.mod_lt _ (by omega)
     generalize a3 / 16%6=s at hml ⊢
     obtain ⟨g',q1,q2⟩:=pg (m+300) g true D ((0:Nat):Int) ((s:Nat):Int) (by omega) (by omega) (v7 hDd (by omega) (by omega) hDh (by omega) (by omega) (by omega))
     exact ⟨g',true,D,_,_,q1,q2,by omega,by omega,λ_=>mC hDd⟩
theorem pD {g l:Bool} {d:List UInt8} {x s:Nat} (h:okY g l d (x:Int) (s:Int)):(fb g l d (x:Int) (s:Int)).length<=25:=by
 have hs:=fJ h
 have h1:=pH 69 (show x<100 by omega)
 have h2:=pH 83 (show s<100 by omega)
 rw [gH]
 simp only [List.length_append]
 have e1:(if l=true then ([89]:List UInt8) else []).length<=1:=by split<;>simp
 have e2:(if g=true then ([45]:List UInt8) else []).length<=1:=by split<;>simp
 omega
end Go.Sh
