/- Plain proofs, kept as far as they are needed here (printed by prune.py).
   Conditions: none. -/
import Derived.Test.YtlampgohpnchdaaGreatDoorLawEza
set_option linter.unusedVariables false
set_option linter.unusedSimpArgs false
set_option maxRecDepth 100000
namespace Go.Sh
open Go.Abs
def nB (d:List UInt8) (y m:Int):Int:=if d=[] then 0 else lenI y m
def nh (d:List UInt8) (y mo:Int):List (Int×Int×Int):=((dayI d).filter λk=>decide (k<=nB d y mo)).map λk=>(y,mo,k)
def ny (m d:List UInt8) (y:Int):List (Int×Int×Int):=(monI m).flatMap (nh d y)
theorem yd {X Y A:Type} {step:X->Option (X⊕Y)} {f:Nat->List A->X} {y:List A->Y} {p:Nat->Bool} {e:Nat->A} {g:Nat} (out0:List A)
  (h:∀i out,i<g->out.length<=out0.length+i->step (f i out)=some (.inl (f (i+1) (if p (i+1) then out++[e (i+1)] else out))))
  (he:∀out,step (f g out)=some (.inr (y out))) {N:Nat} (hN:g<N):ah step N (f 0 out0)=some (y (out0++((List.range' 1 g).filter p).map e)):=by
 have go:∀(r i:Nat) (out:List A),i+r=g->out.length<=out0.length+i->∀N,r<N->ah step N (f i out)=some (y (out++((List.range' (i+1) r).filter p).map e)):=by
  intro r
  induction r with
  | zero=>
   intro i out hi ho N hN
   obtain ⟨N,rfl⟩:∃q,N=q+1:=⟨N - 1,by omega⟩
   obtain rfl:i=g:=by omega
   rw [ah,he]
   simp
  | succ r ih=>
   intro i out hi ho N hN
   obtain ⟨N,rfl⟩:∃q,N=q+1:=⟨N - 1,by omega⟩
   rw [ah,h i out (by omega) (by omega)]
   show ah step N _=_
   by_cases hp:p (i+1)=true
   ·rw [if_pos hp,ih (i+1) _ (by omega) (by simp;omega) N (by omega),List.range'_succ,List.filter_cons_of_pos hp]
    simp
   ·rw [if_neg hp,ih (i+1) _ (by omega) (by omega) N (by omega),List.range'_succ,List.filter_cons_of_neg hp]
 exact go g 0 out0 (by omega) (by omega) N hN
theorem zh {X Y A B:Type} {step:X->Option (X⊕Y)} {f:Nat->List A->X} {y:List A->Y} {F:B->List A} {L:List B} {c:Nat} (hc:∀b∈L,(F b).length<=c)
  (h:∀i b out,L[i]?=some b->out.length<=c*i->step (f i out)=some (.inl (f (i+1) (out++F b))))
  (he:∀out,step (f L.length out)=some (.inr (y out))) {N:Nat} (hN:L.length<N):ah step N (f 0 [])=some (y (L.flatMap F)):=by
 have go:∀(r i:Nat) (out:List A),i+r=L.length->out.length<=c*i->∀N,r<N->ah step N (f i out)=some (y (out++(L.drop i).flatMap F)):=by
  intro r
  induction r with
  | zero=>
   intro i out hi ho N hN
   obtain ⟨N,rfl⟩:∃q,N=q+1:=⟨N - 1,by omega⟩
   obtain rfl:i=L.length:=by omega
   rw [ah,he]
   simp
  | succ r ih=>
   intro i out hi ho N hN
   obtain ⟨N,rfl⟩:∃q,N=q+1:=⟨N - 1,by omega⟩
   have hb:L[i]?=some L[i]:=List.getElem?_eq_getElem (by omega)
   rw [ah,h i L[i] out hb ho]
   show ah step N _=_
   have hm:=hc L[i] (List.getElem_mem _)
   rw [ih (i+1) _ (by omega) (by rw [List.length_append,Nat.mul_add];omega) N (by omega),List.drop_eq_getElem_cons (show i<L.length by omega),List.flatMap_cons,List.append_assoc]
 have:=go L.length 0 [] (by omega) (by simp) N hN
 simpa using this
theorem Dw (d:List UInt8) (L:Nat) (h:L<=31):(mn (fitN d 31)).filter (λk=>decide (k<=(L:Int)))=mn ((List.range' 1 L).filter (agr d)):=by
 have hs:List.range' 1 31=List.range' 1 L++List.range' (1+L) (31 - L):=by
  have:=List.range'_append_1 (s:=1) (m:=L) (n:=31 - L)
  rw [this,show L+(31 - L)=31 by omega]
 unfold fitN mn
 rw [hs,List.filter_append,List.map_append,List.filter_append]
 have e1:(List.map (λk:Nat=>(k:Int)) (List.filter (agr d) (List.range' 1 L))).filter (λk=>decide (k<=(L:Int)))=List.map (λk:Nat=>(k:Int)) (List.filter (agr d) (List.range' 1 L)):=by
  rw [List.filter_eq_self]
  intro k hk
  obtain ⟨j,hj,rfl⟩:=List.mem_map.1 hk
  have:=List.mem_range'_1.1 (List.mem_filter.1 hj).1
  exact decide_eq_true (by omega)
 have e2:(List.map (λk:Nat=>(k:Int)) (List.filter (agr d) (List.range' (1+L) (31 - L)))).filter (λk=>decide (k<=(L:Int)))=[]:=by
  rw [List.filter_eq_nil_iff]
  intro k hk
  obtain ⟨j,hj,rfl⟩:=List.mem_map.1 hk
  have:=List.mem_range'_1.1 (List.mem_filter.1 hj).1
  simp only [decide_eq_true_eq]
  omega
 rw [e1,e2,List.append_nil]
theorem uT (s:List UInt8) (g:Nat):(fitN s g).length<=g:=by
 have:=List.length_filter_le (agr s) (List.range' 1 g)
 rw [List.length_range'] at this
 exact this
theorem vp (d:List UInt8):(dayI d).length<=31:=by
 unfold dayI
 split
 ·simp
 ·rw [th];exact uT d 31
theorem wg (m:List UInt8):(monI m).length<=12:=by
 unfold monI
 split
 ·simp
 ·split
  ·simp
  ·rw [th];exact uT m 12
theorem wO (d:List UInt8) (y mo:Int):(nh d y mo).length<=31:=by
 unfold nh
 rw [List.length_map]
 exact Nat.le_trans (List.length_filter_le _ _) (vp d)
theorem xX (y mo:Int):nh [] y mo=[(y,mo,0)]:=rfl
theorem wY {d:List UInt8} (h:d≠[]) (y mo:Int):nh d y mo=((List.range' 1 (lenI y mo).toNat).filter (agr d)).map λk:Nat=>(y,mo,(k:Int)):=by
 have hr:=fa y mo
 unfold nh dayI nB
 rw [if_neg h,if_neg h]
 have:=Dw d (lenI y mo).toNat (by omega)
 rw [show (((lenI y mo).toNat:Nat):Int)=lenI y mo by omega] at this
 rw [this,mn,List.map_map]
 rfl
theorem wS (n:Nat) (hn:100<n) (g l:Bool) (dg:List UInt8) (x q:Int) (m d:List UInt8) (k0 k1 k2 y:Int):
  f7 n g l dg x q m d k0 k1 k2 y=some (ny m d y):=by
 have hml:=wg m
 unfold f7
 rw [xa n hn]
 have:=zh (step:=cw n) (f:=λi out=>(y,(i:Int),g,l,dg,x,q,m,d,k0,k1,k2,monI m,out)) (y:=λo=>o) (F:=nh d y) (L:=monI m) (c:=31) (λb _=>wO d y b)
  (λi mo out hi ho=>by
   have hil:i<(monI m).length:=(List.getElem?_eq_some_iff.1 hi).1
   have w1:IntKind.wrap .i64 ((i:Int)+1)=((i+1:Nat):Int):=by rw [wrap_i64 _ (by omega) (by omega)];omega
   unfold cw
   simp only [d4,d8,w1]
   rw [decide_eq_true (show (i:Int)<(((monI m).length:Nat):Int) by omega),bE hil]
   by_cases hd:d=[]
   ·subst hd
    rw [xX]
    simp only [ob,hi,cond_true,room (show out.length<=60000000 by omega)]
    rfl
   ·rw [cY hd]
    have hr:=fa y mo
    have hin:=yd (step:=ct n) (f:=λj o=>(y,(i:Int),((j+1:Nat):Int),g,l,dg,x,q,m,d,k0,k1,k2,monI m,o)) (y:=λo=>(y,(i:Int),g,l,dg,x,q,m,d,k0,k1,k2,monI m,o)) (p:=agr d) (e:=λk=>(y,mo,(k:Int))) (g:=(lenI y mo).toNat) out
     (λj o hj ho'=>by
      have w2:IntKind.wrap .i64 (((j+1:Nat):Int)+1)=((j+1+1:Nat):Int):=by rw [wrap_i64 _ (by omega) (by omega)];omega
      unfold ct
      simp only [d4,d8,w2,bE hil,ob,hi,qI]
      rw [decide_eq_true (show ((j+1:Nat):Int)<=lenI y mo by omega),mX n d (j+1) (by omega),room (show o.length<=60000000 by omega)]
      by_cases hp:agr d (j+1)=true
      ·rw [if_pos hp,if_pos hp];rfl
      ·rw [if_neg hp,if_neg hp];rfl)
     (λo=>by
      unfold ct
      simp only [d4,d8,bE hil,ob,hi,qI]
      rw [decide_eq_false (show ¬(((lenI y mo).toNat+1:Nat):Int)<=lenI y mo by omega)]
      rfl)
     (N:=n) (by omega)
    have hin':ah (ct n) n (y,(i:Int),1,g,l,dg,x,q,m,d,k0,k1,k2,monI m,out)=_:=hin
    simp only [cond_true,cond_false]
    rw [hin',wY hd]
    simp only [ob,d4,d8,w1])
  (λout=>by
   unfold cw
   simp only [d4,d8]
   rw [decide_eq_false (show ¬(((monI m).length:Nat):Int)<(((monI m).length:Nat):Int) by omega)]
   rfl)
  (N:=n) (by omega)
 have h0:ah (cw n) n (y,0,g,l,dg,x,q,m,d,k0,k1,k2,monI m,([]:List (Int×Int×Int)))=_:=this
 simp only [ob]
 rw [h0]
 rfl
theorem FB {a b c e:UInt8} (ha:bJ a=true\/a=88) (hb:bJ b=true\/b=88) (hc:bJ c=true\/c=88) (he:bJ e=true\/e=88) (w:Nat):
  mtk [a,b,c,e] 4 w=Mk.ag [e,c,b,a] (w:Int):=by
 have one:∀(z:UInt8) (v:Nat),(decide (z=88)||decide (z.toNat=48+v%10))=(decide (z=88)||decide (Mk.dv z=(v:Int)%10)):=by
  intro z v
  have:(z.toNat=48+v%10)↔(Mk.dv z=(v:Int)%10):=by unfold Mk.dv;omega
  rw [decide_eq_decide.2 this]
 have cast:∀v:Nat,(v:Int) / 10=((v / 10:Nat):Int):=λv=>by omega
 show ((decide (e=88)||decide (e.toNat=48+w%10))&&((decide (c=88)||decide (c.toNat=48+w / 10%10))&&((decide (b=88)||decide (b.toNat=48+w / 10 / 10%10))&&((decide (a=88)||decide (a.toNat=48+w / 10 / 10 / 10%10))&&true))))
  = ((((true&&(decide (a=88)||decide (Mk.dv a=(w:Int) / 10 / 10 / 10%10)))&&(decide (b=88)||decide (Mk.dv b=(w:Int) / 10 / 10%10)))&&(decide (c=88)||decide (Mk.dv c=(w:Int) / 10%10)))&&(decide (e=88)||decide (Mk.dv e=(w:Int)%10)))
 rw [one e w,one c (w / 10),one b (w / 10 / 10),one a (w / 10 / 10 / 10),cast w,cast (w / 10),cast (w / 10 / 10)]
 generalize (decide (e=88)||decide (Mk.dv e=(w:Int)%10))=p1
 generalize (decide (c=88)||decide (Mk.dv c=((w / 10:Nat):Int)%10))=p2
 generalize (decide (b=88)||decide (Mk.dv b=((w / 10 / 10:Nat):Int)%10))=p3
 generalize (decide (a=88)||decide (Mk.dv a=((w / 10 / 10 / 10:Nat):Int)%10))=p4
 cases p1<;>cases p2<;>cases p3<;>cases p4<;>rfl
theorem DR {c:UInt8} (h:bJ c=true\/c=88):Mk.okB c=true:=by
 rcases h with h | h
 ·have h:=(ej c).1 h
  unfold Mk.okB
  simp only [Bool.or_eq_true,Bool.and_eq_true,decide_eq_true_eq]
  right
  first | omega | (obtain ⟨h1,h2⟩:=h;constructor<;>omega)
 ·subst h;decide
theorem BY {d:List UInt8} (hl:d.length=4) (h:∀c∈d,bJ c=true\/c=88):Mk.chk d=0:=by
 unfold Mk.chk
 have:d.all Mk.okB=true:=List.all_eq_true.2 λc hc=>DR (h c hc)
 rw [if_neg (by omega),if_pos this,if_neg (by rintro rfl;simp at hl)]
theorem vH {d:List UInt8} (hl:d.length=4) (h:∀c∈d,bJ c=true\/c=88) (w:Nat):Mk.hasM d (w:Int)=true↔mtk d 4 w=true/\w / 10 ^ 4=0:=by
 obtain ⟨a,b,c,e,rfl⟩:∃a b c e,d=[a,b,c,e]:=by
  match d,hl with
  | [a,b,c,e],_=>exact ⟨a,b,c,e,rfl⟩
 rw [Mk.uH,FB (h a (by simp)) (h b (by simp)) (h c (by simp)) (h e (by simp)) w]
 simp only [Bool.and_eq_true,decide_eq_true_eq]
 show 0<=(w:Int)/\(w:Int)<10 ^ 4/\Mk.ag [e,c,b,a] (w:Int)=true↔Mk.ag [e,c,b,a] (w:Int)=true/\w / 10 ^ 4=0
 have e4:(10:Int) ^ 4=10000:=by decide
 have e4':(10:Nat) ^ 4=10000:=by decide
 rw [e4,e4']
 constructor
 ·rintro ⟨_,h2,h3⟩;exact ⟨h3,by omega⟩
 ·rintro ⟨h3,h2⟩;exact ⟨by omega,by omega,h3⟩
theorem ve {g l:Bool} {d:List UInt8} {x q:Int} (hok:okY g l d x q) (hX:hasX d=true) (v:Int):inP g d x q v↔(Mk.hasM d (wOf g v)=true/\(g=true->1<=wOf g v)):=by
 obtain ⟨rfl,rfl,rfl,hl,hd⟩:=kQ hok hX
 unfold inP
 rw [vo hX]
 have hr:∀k:Int,Mk.hasM d k=true->0<=k/\k<10000:=λk hk=>by
  have:=(Mk.jt hk).2.2.2.2
  rw [hl] at this
  have e4:(10:Int) ^ 4=10000:=by decide
  omega
 constructor
 ·rintro ⟨h1,h2,h3,h4,h5⟩
  have:=(vH hl hd (wOf g v).toNat).2 h5
  rw [show (((wOf g v).toNat:Nat):Int)=wOf g v by omega] at this
  refine ⟨this,λhg=>?_⟩
  have h0:¬wOf g v=0:=λe=>h4 ⟨hX,hg,e⟩
  omega
 ·rintro ⟨h1,h2⟩
  have hr':=hr _ h1
  have hm:=(vH hl hd (wOf g v).toNat).1 (by rw [show (((wOf g v).toNat:Nat):Int)=wOf g v by omega];exact h1)
  have hv:v=wOf g v\/v=- wOf g v:=by
   unfold wOf;split
   ·right;omega
   ·left;rfl
  refine ⟨by omega,by omega,hr'.1,?_,hm⟩
  rintro ⟨_,hg,e⟩
  have:=h2 hg
  omega
theorem uu {g l:Bool} {d:List UInt8} {x:Int} (hok:okY g l d x 0) (hX:hasX d=false) (v:Int):inP g d x 0 v↔v=(if g then -((val d x.toNat:Nat):Int) else ((val d x.toNat:Nat):Int)):=by
 obtain ⟨k,q,rfl,hq,hN⟩:=lO hok hX
 have hs:=hN.small
 have hv:dval 0 d*10 ^ k=val d k:=rfl
 rw [hv] at hs
 unfold E16 at hs
 unfold inP
 rw [CD hX]
 have hu:uy d (k:Int).toNat (0:Int).toNat=1:=rfl
 rw [hu,Int.toNat_natCast,Nat.div_one,Nat.div_one,hX]
 unfold wOf
 cases g with
 | true=>
  simp only [if_true]
  constructor
  ·rintro ⟨h1,h2,h3,_,h5⟩;omega
  ·rintro rfl;refine ⟨by omega,by omega,by omega,by simp,by omega⟩
 | false=>
  simp only [Bool.false_eq_true,if_false]
  constructor
  ·rintro ⟨h1,h2,h3,_,h5⟩;omega
  ·rintro rfl;refine ⟨by omega,by omega,by omega,by simp,by omega⟩
def ub (up:Bool) (Y:Int->Prop) (v w:Int) (found:Bool):Prop:=
 (found=true->Y w/\Mk.cJ up v w/\∀e,Y e->Mk.cJ up v e->Mk.cJ up w e)/\(found=false->∀e,Y e->¬Mk.cJ up v e)
theorem cH (a b:Int):Mk.cJ true a b↔a<=b:=Iff.rfl
theorem ed (a b:Int):Mk.cJ false a b↔b<=a:=Iff.rfl
theorem CF (o:Option Int):(Mk.res o).2=0/\(∃r,o=some r/\(Mk.res o).1=r)\/(Mk.res o).2=16/\o=none/\(Mk.res o).1=0:=by
 cases o with
 | none=>exact .inr ⟨rfl,rfl,rfl⟩
 | some r=>exact .inl ⟨rfl,r,rfl,rfl⟩
theorem nd {m:List UInt8} (hm:Mk.chk m=0) (v least:Int) (h0:0<=least):∃w f,cT 20000000 m v true least=some (w,f)/\ub true (λe=>Mk.hasM m e=true/\least<=e) v w f/\(0<=w/\w<1000000000000000000):=by
 obtain ⟨o,h1,h2⟩:=Mk.zF hm (cond (decide (least>v)) least v)
 unfold cT
 rw [h1]
 simp only [ob,cond_true]
 have hc:(cond (decide (least>v)) least v)=max v least:=by
  by_cases h:least>v
  ·rw [decide_eq_true h];show least=_;omega
  ·rw [decide_eq_false h];show v=_;omega
 rw [hc] at h2
 rcases CF o with ⟨e1,r,rfl,e2⟩ | ⟨e1,rfl,e2⟩
 ·refine ⟨_,_,rfl,?_,?_⟩
  ·rw [e1,e2]
   obtain ⟨a1,a2,a3⟩:=h2
   rw [cH] at a2
   refine ⟨λ_=>⟨⟨a1,by omega⟩,?_,λe he hv=>?_⟩,λh=>by cases h⟩
   ·rw [cH];omega
   ·rw [cH] at hv
    exact a3 e he.1 (by rw [cH];have:=he.2;omega)
  ·have:=(Mk.jt h2.1).2.2.2.2
   have hl:=Mk.jb hm
   have hp:(10:Int) ^ m.length<=10 ^ 18:=by
    have:=Nat.pow_le_pow_right (show 0<10 by decide) hl.1
    exact_mod_cast this
   have e18:(10:Int) ^ 18=1000000000000000000:=by decide
   rw [e2]
   omega
 ·refine ⟨_,_,rfl,?_,by rw [e2];omega⟩
  rw [e1]
  refine ⟨(λh=>by cases h),λ_ e he hv=>?_⟩
  rw [cH] at hv
  exact h2 e he.1 (by rw [cH];have:=he.2;omega)
theorem np {m:List UInt8} (hm:Mk.chk m=0) (v least:Int) (h0:0<=least):∃w f,cT 20000000 m v false least=some (w,f)/\ub false (λe=>Mk.hasM m e=true/\least<=e) v w f/\(0<=w/\w<1000000000000000000):=by
 obtain ⟨o,h1,h2⟩:=Mk.xK hm v
 unfold cT
 rw [h1]
 simp only [ob,cond_false]
 rcases CF o with ⟨e1,r,rfl,e2⟩ | ⟨e1,rfl,e2⟩
 ·rw [e1,e2]
  obtain ⟨a1,a2,a3⟩:=h2
  rw [ed] at a2
  have hb:=(Mk.jt a1).2.2.2.2
  have hl:=Mk.jb hm
  have hp:(10:Int) ^ m.length<=10 ^ 18:=by
   have:=Nat.pow_le_pow_right (show 0<10 by decide) hl.1
   exact_mod_cast this
  have e18:(10:Int) ^ 18=1000000000000000000:=by decide
  refine ⟨_,_,rfl,?_,by omega⟩
  by_cases hle:r>=least
  ·rw [decide_eq_true hle]
   refine ⟨λ_=>⟨⟨a1,by omega⟩,by rw [ed];omega,λe he hv=>a3 e he.1 hv⟩,λh=>by cases h⟩
  ·rw [decide_eq_false hle]
   refine ⟨(λh=>by cases h),λ_ e he hv=>?_⟩
   have:=a3 e he.1 hv
   rw [ed] at this
   have:=he.2
   omega
 ·rw [e1,e2]
  refine ⟨_,_,rfl,?_,by omega⟩
  refine ⟨(λh=>by cases h),λ_ e he hv=>h2 e he.1 hv⟩
theorem yo {g l:Bool} {dg:List UInt8} {x:Int} (hok:okY g l dg x 0) (m d:List UInt8) (k0 k1 k2:Int) (v:Int) (hv:-9223372036854775808<=v/\v<9223372036854775808) (up:Bool) (ms ds:List Int):
  ∃w f,bh 20000000 g l dg x 0 m d k0 k1 k2 v up ms ds=some (w,f)/\ub up (inP g dg x 0) v w f:=by
 have hsm:=iH hok
 unfold bh
 rw [mj]
 simp only [ob]
 cases hX:hasX dg with
 | false=>
  have hin:=uu hok hX
  rw [rL 20000000 g l dg x 0 (by omega) (by omega),if_pos ⟨hok,hX⟩]
  simp only [Bool.not_false,cond_true]
  generalize (if g then -((val dg x.toNat:Nat):Int) else ((val dg x.toNat:Nat):Int))=w at *
  cases up with
  | true=>
   by_cases h:w>=v
   ·refine ⟨w,true,?_,?_⟩
    ·simp only [decide_eq_true h,cond_true]
    ·refine ⟨λ_=>⟨(hin w).2 rfl,h,λe he _=>?_⟩,λh=>by cases h⟩
     rw [(hin e).1 he];exact Int.le_refl _
   ·refine ⟨w,false,?_,?_⟩
    ·simp only [decide_eq_false h,cond_true,cond_false,Bool.not_true]
    ·refine ⟨(λh=>by cases h),λ_ e he ha=>?_⟩
     rw [(hin e).1 he,cH] at ha;omega
  | false=>
   by_cases h:w<=v
   ·refine ⟨w,true,?_,?_⟩
    ·simp only [decide_eq_true h,cond_true,cond_false,Bool.not_false]
    ·refine ⟨λ_=>⟨(hin w).2 rfl,h,λe he _=>?_⟩,λh=>by cases h⟩
     rw [(hin e).1 he];exact Int.le_refl _
   ·refine ⟨w,false,?_,?_⟩
    ·simp only [decide_eq_false h,cond_true,cond_false,Bool.not_false]
    ·refine ⟨(λh=>by cases h),λ_ e he ha=>?_⟩
     rw [(hin e).1 he,ed] at ha;omega
 | true=>
  have hin:=ve hok hX
  obtain ⟨rfl,rfl,_,hl,hd⟩:=kQ hok hX
  have hm:=BY hl hd
  simp only [Bool.not_true,cond_false]
  cases g with
  | false=>
   simp only [Bool.not_false,cond_true]
   have same:∀w f,ub up (λe=>Mk.hasM dg e=true/\0<=e) v w f->ub up (inP false dg 0 0) v w f:=λw f h=>by
    have hiff:∀e,(Mk.hasM dg e=true/\0<=e)↔inP false dg 0 0 e:=λe=>by
     rw [hin e]
     constructor
     ·rintro ⟨h1,_⟩;exact ⟨h1,λh=>by cases h⟩
     ·rintro ⟨h1,_⟩;exact ⟨h1,(Mk.jt h1).2.2.2.2.1⟩
    refine ⟨λhf=>?_,λhf e he=>h.2 hf e ((hiff e).2 he)⟩
    obtain ⟨b1,b2,b3⟩:=h.1 hf
    exact ⟨(hiff w).1 b1,b2,λe he=>b3 e ((hiff e).2 he)⟩
   cases up with
   | true=>
    obtain ⟨w,f,h1,h2,_⟩:=nd hm v 0 (by omega)
    exact ⟨w,f,by rw [h1],same w f h2⟩
   | false=>
    obtain ⟨w,f,h1,h2,_⟩:=np hm v 0 (by omega)
    exact ⟨w,f,by rw [h1],same w f h2⟩
  | true=>
   simp only [Bool.not_true,cond_false]
   have hc:IntKind.wrap .i64 (0 - (cond (decide (((-9223372036854775807):Int)>v)) (-9223372036854775807) v))=min (-v) 9223372036854775807:=by
    by_cases h:((-9223372036854775807):Int)>v
    ·rw [decide_eq_true h,cond_true,wrap_i64 _ (by omega) (by omega)];omega
    ·rw [decide_eq_false h,cond_false,wrap_i64 _ (by omega) (by omega)];omega
   rw [hc]
   have hb:∀e,Mk.hasM dg e=true->0<=e/\e<10000:=λe he=>by
    have:=(Mk.jt he).2.2.2.2
    rw [hl] at this
    have e4:(10:Int) ^ 4=10000:=by decide
    omega
   have hiff:∀e,inP true dg 0 0 e↔(Mk.hasM dg (-e)=true/\1<=-e):=λe=>by
    rw [hin e]
    exact ⟨λh=>⟨h.1,h.2 rfl⟩,λh=>⟨h.1,λ_=>h.2⟩⟩
   have hw:∀w:Int,0<=w/\w<1000000000000000000->IntKind.wrap .i64 (0 - w)=-w:=λw h=>by rw [wrap_i64 _ (by omega) (by omega)];omega
   cases up with
   | true=>
    obtain ⟨w,f,h1,h2,h3⟩:=np hm (min (-v) 9223372036854775807) 1 (by omega)
    refine ⟨-w,f,by rw [Bool.not_true,h1];simp only [hw w h3],?_,?_⟩
    ·intro hf
     obtain ⟨b1,b2,b3⟩:=h2.1 hf
     rw [ed] at b2
     refine ⟨(hiff _).2 (by rw [Int.neg_neg];exact b1),by rw [cH];omega,λe he ha=>?_⟩
     rw [cH] at ha
     have hh:=(hiff e).1 he
     have:=b3 (-e) hh (by rw [ed];have:=hb _ hh.1;omega)
     rw [ed] at this
     rw [cH];omega
    ·intro hf e he ha
     rw [cH] at ha
     have hh:=(hiff e).1 he
     exact h2.2 hf (-e) hh (by rw [ed];have:=hb _ hh.1;omega)
   | false=>
    obtain ⟨w,f,h1,h2,h3⟩:=nd hm (min (-v) 9223372036854775807) 1 (by omega)
    refine ⟨-w,f,by rw [Bool.not_false,h1];simp only [hw w h3],?_,?_⟩
    ·intro hf
     obtain ⟨b1,b2,b3⟩:=h2.1 hf
     rw [cH] at b2
     have hbw:=hb _ b1.1
     refine ⟨(hiff _).2 (by rw [Int.neg_neg];exact b1),by rw [ed];omega,λe he ha=>?_⟩
     rw [ed] at ha
     have hh:=(hiff e).1 he
     have:=b3 (-e) hh (by rw [cH];omega)
     rw [cH] at this
     rw [ed];omega
    ·intro hf e he ha
     rw [ed] at ha
     have hh:=(hiff e).1 he
     exact h2.2 hf (-e) hh (by rw [cH];omega)
theorem mf {X Y A:Type} {step:X->Option (X⊕Y)} {f:Nat->X} {L:List A} {G:A->Option Y} {e:Y}
  (h:∀i a,L[i]?=some a->step (f i)=some ((G a).elim (.inl (f (i+1))) Sum.inr)) (he:step (f L.length)=some (.inr e)) {N:Nat} (hN:L.length<N):
  ah step N (f 0)=some ((L.findSome? G).getD e):=by
 have go:∀(r i:Nat),i+r=L.length->∀N,r<N->ah step N (f i)=some (((L.drop i).findSome? G).getD e):=by
  intro r
  induction r with
  | zero=>
   intro i hi N hN
   obtain ⟨N,rfl⟩:∃q,N=q+1:=⟨N - 1,by omega⟩
   obtain rfl:i=L.length:=by omega
   rw [ah,he]
   simp
  | succ r ih=>
   intro i hi N hN
   obtain ⟨N,rfl⟩:∃q,N=q+1:=⟨N - 1,by omega⟩
   have hb:L[i]?=some L[i]:=List.getElem?_eq_getElem (by omega)
   rw [ah,h i L[i] hb,List.drop_eq_getElem_cons (show i<L.length by omega),List.findSome?_cons]
   cases hG:G L[i] with
   | some y=>rfl
   | none=>exact ih (i+1) (by omega) N (by omega)
 have:=go L.length 0 (by omega) N hN
 simpa using this
def ahd (up:Bool) (a b:Int):Bool:=cond up (decide (a<b)) (decide (a>b))
theorem va (n:Nat) (a b:Int) (up:Bool):bs n a b up=some (ahd up a b):=by
 unfold bs ahd
 cases up
 ·rfl
 ·simp only [cond_true,Bool.not_true,cond_false]
  cases decide (a<b)<;>rfl
def rx (up same:Bool) (d:List UInt8) (cd most k:Int):Bool:=decide (k<=most)&&!(same&&(!(d==([]:List UInt8))&&ahd up k cd))
def yS (up:Bool) (m:List UInt8) (cy cm y mo:Int):Bool:=(y==cy)&&(!(m==([]:List UInt8))&&ahd up mo cm)
def xb (m:List UInt8) (cy cm y mo:Int):Bool:=(y==cy)&&((m==([]:List UInt8))||(mo==cm))
def uE (up:Bool) (m d:List UInt8) (cy cm cd y:Int) (ds:List Int) (mo:Int):Option (Int×Int×Int):=
 if yS up m cy cm y mo then none else (ds.find? (rx up (xb m cy cm y mo) d cd (nB d y mo))).map λk=>(y,mo,k)
def uD (up:Bool) (m d:List UInt8) (cy cm cd:Int) (ms ds:List Int) (y:Int):Option (Int×Int×Int):=ms.findSome? (uE up m d cy cm cd y ds)
def zV (d:List UInt8) (ms:List Int):Prop:=ms.length<=31/\(d≠[]->∀mo∈ms,1<=mo/\mo<=12)
theorem z6 (n:Nat) (g l:Bool) (dg:List UInt8) (x q:Int) (m d:List UInt8) (k0 k1 k2:Int) {y:Int} (hy:bY y) {mo:Int} (hmo:d≠[]->1<=mo/\mo<=12) (ms ds:List Int):
  cD n g l dg x q m d k0 k1 k2 y mo ms ds=some (nB d y mo):=by
 unfold cD nB
 by_cases hd:d=[]
 ·subst hd;rfl
 ·rw [cY hd,if_neg hd]
  have:=hmo hd
  obtain ⟨k,rfl⟩:∃k:Nat,mo=(k:Int):=⟨mo.toNat,by omega⟩
  rw [cond_false,zy n hy (by omega) (by omega)]
  rfl
theorem CM {A B Y:Type} (L:List A) (p:A->Bool) (F:A->B) (J:B->Y) (e:Y):(L.findSome? λa=>if p a then some (J (F a)) else none).getD e=((L.find? p).map F).elim e J:=by
 induction L with
 | nil=>rfl
 | cons a L ih=>
  rw [List.find?_cons,List.findSome?_cons]
  cases h:p a
  ·simpa using ih
  ·simp
theorem D8 {A B Y:Type} (L:List A) (G:A->Option B) (J:B->Y) (e:Y):(L.findSome? λa=>(G a).map J).getD e=(L.findSome? G).elim e J:=by
 induction L with
 | nil=>rfl
 | cons a L ih=>
  rw [List.findSome?_cons,List.findSome?_cons]
  cases h:G a
  ·simpa using ih
  ·simp
theorem BJ (n:Nat) (s y mo:Int) (same:Bool) (most lm im:Int) (ms ds:List Int) (g l:Bool) (dg:List UInt8) (x q:Int) (m d:List UInt8) (k0 k1 k2 cy cm cd:Int) (up:Bool) (ry rm rd:Int) (i:Nat) (k:Int) (hi:ds[i]?=some k) (h31:i<1000):
  aL n (s,y,mo,same,most,lm,im,((ds.length:Nat):Int),(i:Int),ms,ds,g,l,dg,x,q,m,d,k0,k1,k2,cy,cm,cd,up,ry,rm,rd)=some ((if rx up same d cd most k then some (.inl (true,y,mo,k)) else none).elim (.inl (s,y,mo,same,most,lm,im,((ds.length:Nat):Int),((i+1:Nat):Int),ms,ds,g,l,dg,x,q,m,d,k0,k1,k2,cy,cm,cd,up,ry,rm,rd)) Sum.inr):=by
 have hil:i<ds.length:=(List.getElem?_eq_some_iff.1 hi).1
 have w1:IntKind.wrap .i64 ((i:Int)+1)=((i+1:Nat):Int):=by rw [wrap_i64 _ (by omega) (by omega)];omega
 unfold aL dW rx
 simp only [d4,d8,d16,bE hil,hi,ob,w1,va]
 rw [decide_eq_true (show (i:Int)<((ds.length:Nat):Int) by omega)]
 simp only [cond_true]
 cases decide (k<=most)<;>cases same<;>cases (d==([]:List UInt8))<;>cases ahd up k cd<;>simp only [Bool.not_true,Bool.not_false,cond_true,cond_false,w1]<;>rfl
theorem Dz (n:Nat) (s y mo:Int) (same:Bool) (most lm im:Int) (ms ds:List Int) (g l:Bool) (dg:List UInt8) (x q:Int) (m d:List UInt8) (k0 k1 k2 cy cm cd:Int) (up:Bool) (ry rm rd:Int):
  aL n (s,y,mo,same,most,lm,im,((ds.length:Nat):Int),((ds.length:Nat):Int),ms,ds,g,l,dg,x,q,m,d,k0,k1,k2,cy,cm,cd,up,ry,rm,rd)=some (.inr (.inr (s,y,lm,im,ms,ds,g,l,dg,x,q,m,d,k0,k1,k2,cy,cm,cd,up,ry,rm,rd))):=by
 unfold aL
 simp only [d4,d8,d16]
 rw [decide_eq_false (show ¬((ds.length:Nat):Int)<((ds.length:Nat):Int) by omega)]
 rfl
theorem C0 (n:Nat) (hn:1000<n) (s y mo:Int) (same:Bool) (most lm im:Int) (ms ds:List Int) (g l:Bool) (dg:List UInt8) (x q:Int) (m d:List UInt8) (k0 k1 k2 cy cm cd:Int) (up:Bool) (ry rm rd:Int) (hd:ds.length<=31):
  ah (aL n) n (s,y,mo,same,most,lm,im,((ds.length:Nat):Int),0,ms,ds,g,l,dg,x,q,m,d,k0,k1,k2,cy,cm,cd,up,ry,rm,rd)=some (((ds.find? (rx up same d cd most)).map (λk=>(y,mo,k))).elim (.inr (s,y,lm,im,ms,ds,g,l,dg,x,q,m,d,k0,k1,k2,cy,cm,cd,up,ry,rm,rd)) (λz=>.inl (true,z))):=by
 have:=mf (step:=aL n) (f:=λi=>(s,y,mo,same,most,lm,im,((ds.length:Nat):Int),(i:Int),ms,ds,g,l,dg,x,q,m,d,k0,k1,k2,cy,cm,cd,up,ry,rm,rd)) (L:=ds) (G:=λk=>if rx up same d cd most k then some (.inl (true,y,mo,k)) else none) (e:=.inr (s,y,lm,im,ms,ds,g,l,dg,x,q,m,d,k0,k1,k2,cy,cm,cd,up,ry,rm,rd))
  (λi k hi=>by
   have hil:i<ds.length:=(List.getElem?_eq_some_iff.1 hi).1
   exact BJ n s y mo same most lm im ms ds g l dg x q m d k0 k1 k2 cy cm cd up ry rm rd i k hi (by omega))
  (Dz n s y mo same most lm im ms ds g l dg x q m d k0 k1 k2 cy cm cd up ry rm rd) (N:=n) (by omega)
 exact this.trans (congrArg some (CM ds (rx up same d cd most) (λk=>(y,mo,k)) (λz=>Sum.inl (true,z)) _))
theorem Av (n:Nat) (hn:1000<n) (s y:Int) (hy:bY y) (ms ds:List Int) (g l:Bool) (dg:List UInt8) (x q:Int) (m d:List UInt8) (k0 k1 k2 cy cm cd:Int) (up:Bool) (ry rm rd:Int) (hm:zV d ms) (hd:ds.length<=31) (i:Nat) (mo:Int) (hi:ms[i]?=some mo):
  be n (s,y,((ms.length:Nat):Int),(i:Int),ms,ds,g,l,dg,x,q,m,d,k0,k1,k2,cy,cm,cd,up,ry,rm,rd)=some (((uE up m d cy cm cd y ds mo).map (λz=>(.inl (true,z):(Bool×Int×Int×Int)⊕_))).elim (.inl (s,y,((ms.length:Nat):Int),((i+1:Nat):Int),ms,ds,g,l,dg,x,q,m,d,k0,k1,k2,cy,cm,cd,up,ry,rm,rd)) Sum.inr):=by
 have hil:i<ms.length:=(List.getElem?_eq_some_iff.1 hi).1
 have h31:=hm.1
 have w1:IntKind.wrap .i64 ((i:Int)+1)=((i+1:Nat):Int):=by rw [wrap_i64 _ (by omega) (by omega)];omega
 have hmo:d≠[]->1<=mo/\mo<=12:=λh=>hm.2 h mo (List.mem_of_getElem? hi)
 have j20:∀a b:Int,cM n s y mo (y==cy) a b ms ds g l dg x q m d k0 k1 k2 cy cm cd up ry rm rd=some (s,y,mo,(y==cy),a,b,yS up m cy cm y mo,ms,ds,g,l,dg,x,q,m,d,k0,k1,k2,cy,cm,cd,up,ry,rm,rd):=by
  intro a b
  unfold cM yS
  simp only [va,ob]
  cases (y==cy)<;>cases (m==([]:List UInt8))<;>rfl
 have j23:∀a b c:Int,cL n s y mo (y==cy) a b c ms ds g l dg x q m d k0 k1 k2 cy cm cd up ry rm rd=some (s,y,mo,xb m cy cm y mo,a,b,c,ms,ds,g,l,dg,x,q,m,d,k0,k1,k2,cy,cm,cd,up,ry,rm,rd):=by
  intro a b c
  unfold cL xb
  cases (y==cy)<;>cases (m==([]:List UInt8))<;>rfl
 unfold be d9 uE
 simp only [d4,d8,d16,bE hil,hi,ob,j20]
 rw [decide_eq_true (show (i:Int)<((ms.length:Nat):Int) by omega)]
 simp only [cond_true]
 cases hs:yS up m cy cm y mo with
 | true=>simp only [cond_true,if_true,Option.map_none,w1];rfl
 | false=>
  simp only [cond_false,Bool.false_eq_true,if_false,z6 n g l dg x q m d k0 k1 k2 hy hmo,j23,C0 n hn s y mo (xb m cy cm y mo) (nB d y mo) _ _ ms ds g l dg x q m d k0 k1 k2 cy cm cd up ry rm rd hd]
  cases ds.find? (rx up (xb m cy cm y mo) d cd (nB d y mo)) with
  | some k=>rfl
  | none=>simp only [Option.map_none,Option.elim_none,w1]
theorem CL (n:Nat) (hn:1000<n) (s y:Int) (hy:bY y) (ms ds:List Int) (g l:Bool) (dg:List UInt8) (x q:Int) (m d:List UInt8) (k0 k1 k2 cy cm cd:Int) (up:Bool) (ry rm rd:Int) (hm:zV d ms) (hd:ds.length<=31):
  ah (be n) n (s,y,((ms.length:Nat):Int),0,ms,ds,g,l,dg,x,q,m,d,k0,k1,k2,cy,cm,cd,up,ry,rm,rd)=some ((uD up m d cy cm cd ms ds y).elim (.inr (s,y,ms,ds,g,l,dg,x,q,m,d,k0,k1,k2,cy,cm,cd,up,ry,rm,rd)) (λz=>.inl (true,z))):=by
 have h31:=hm.1
 have:=mf (step:=be n) (f:=λi=>(s,y,((ms.length:Nat):Int),(i:Int),ms,ds,g,l,dg,x,q,m,d,k0,k1,k2,cy,cm,cd,up,ry,rm,rd)) (L:=ms) (G:=λmo=>(uE up m d cy cm cd y ds mo).map (λz=>(.inl (true,z):(Bool×Int×Int×Int)⊕_))) (e:=.inr (s,y,ms,ds,g,l,dg,x,q,m,d,k0,k1,k2,cy,cm,cd,up,ry,rm,rd))
  (λi mo hi=>Av n hn s y hy ms ds g l dg x q m d k0 k1 k2 cy cm cd up ry rm rd hm hd i mo hi)
  (by
   unfold be
   simp only [d4,d8,d16]
   rw [decide_eq_false (show ¬((ms.length:Nat):Int)<((ms.length:Nat):Int) by omega)]
   rfl)
  (N:=n) (by omega)
 exact this.trans (congrArg some (D8 ms (uE up m d cy cm cd y ds) (λz=>Sum.inl (true,z)) _))
theorem Bz (n:Nat) (hn:1000<n) (s y:Int) (hy:bY y) (ms ds:List Int) (g l:Bool) (dg:List UInt8) (x q:Int) (m d:List UInt8) (k0 k1 k2 cy cm cd:Int) (up:Bool) (ry rm rd:Int) (hm:zV d ms) (hd:ds.length<=31):
  bA n (s,y,true,ms,ds,g,l,dg,x,q,m,d,k0,k1,k2,cy,cm,cd,up,ry,rm,rd)=(uD up m d cy cm cd ms ds y).elim (ob (bh n g l dg x q m d k0 k1 k2 (IntKind.wrap .i64 (y+s)) up ms ds) λr=>some (.inl (s,r.1,r.2,ms,ds,g,l,dg,x,q,m,d,k0,k1,k2,cy,cm,cd,up,ry,rm,rd))) (λz=>some (.inr (.inl (true,z)))):=by
 unfold bA
 simp only [d4,d8,d16,cond_true,ob,CL n hn s y hy ms ds g l dg x q m d k0 k1 k2 cy cm cd up ry rm rd hm hd]
 cases uD up m d cy cm cd ms ds y<;>rfl
def vu (up:Bool) (Y:Int->Prop) (F:Int->Option (Int×Int×Int)) (v:Int):Option (Int×Int×Int)->Prop
 | some z=>∃e,Y e/\Mk.cJ up v e/\F e=some z/\∀e',Y e'->Mk.cJ up v e'->¬Mk.cJ up e e'->F e'=none
 | none=>∀e,Y e->Mk.cJ up v e->F e=none
theorem xE {X:Type} {step:X->Option (X⊕((Bool×Int×Int×Int)⊕(Int×Int×Int)))} {st:Int->Bool->X} {F:Int->Option (Int×Int×Int)} {Y:Int->Prop} {up:Bool} {s lo hi:Int} {E:Int×Int×Int} {fy:Int->Option (Int×Bool)}
  (hs:s=if up then 1 else -1) (hY:∀e,Y e->lo<=e/\e<=hi) (h0:-10000000000000000<=lo) (h1:hi<=10000000000000000)
  (hstep:∀y,Y y->step (st y true)=(F y).elim (ob (fy (IntKind.wrap .i64 (y+s))) λr=>some (.inl (st r.1 r.2))) (λz=>some (.inr (.inl (true,z)))))
  (hend:∀y,step (st y false)=some (.inr (.inr E)))
  (hfy:∀v,-9223372036854775808<=v/\v<9223372036854775808->∃w f,fy v=some (w,f)/\ub up Y v w f):
  ∀(r:Nat) (v y:Int) (f:Bool),ub up Y v y f->(f=true->(if up then hi - y else y - lo)<(r:Int))->∀N,r<N->
   ∃o,ah step N (st y f)=some (o.elim (.inr E) (λz=>.inl (true,z)))/\vu up Y F v o:=by
 intro r
 induction r with
 | zero=>
  intro v y f hn hr N hN
  obtain ⟨N,rfl⟩:∃q,N=q+1:=⟨N - 1,by omega⟩
  cases f with
  | true=>
   obtain ⟨a1,_,_⟩:=hn.1 rfl
   have:=hY y a1
   have:=hr rfl
   cases up<;>simp at this<;>omega
  | false=>
   refine ⟨none,by rw [ah,hend];rfl,λe he ha=>absurd ha (hn.2 rfl e he)⟩
 | succ r ih=>
  intro v y f hn hr N hN
  obtain ⟨N,rfl⟩:∃q,N=q+1:=⟨N - 1,by omega⟩
  cases f with
  | false=>
   refine ⟨none,by rw [ah,hend];rfl,λe he ha=>absurd ha (hn.2 rfl e he)⟩
  | true=>
   obtain ⟨a1,a2,a3⟩:=hn.1 rfl
   have hb:=hY y a1
   cases hF:F y with
   | some z=>
    refine ⟨some z,?_,y,a1,a2,hF,λe' h1 h2 h3=>absurd (a3 e' h1 h2) h3⟩
    rw [ah,hstep y a1,hF];rfl
   | none=>
    have hw:IntKind.wrap .i64 (y+s)=y+s:=by
     have:-1<=s/\s<=1:=by rw [hs];cases up<;>simp
     exact wrap_i64 _ (by omega) (by omega)
    obtain ⟨w,f',e1,e2⟩:=hfy (y+s) (by
     have:-1<=s/\s<=1:=by rw [hs];cases up<;>simp
     omega)
    have hstep':step (st y true)=some (.inl (st w f')):=by
     rw [hstep y a1,hF,hw]
     show ob (fy (y+s)) _=_
     rw [e1];rfl
    obtain ⟨o,i1,i2⟩:=ih (y+s) w f' e2 (λhf=>by
     obtain ⟨b1,b2,_⟩:=e2.1 hf
     have:=hr rfl
     cases up
     ·rw [ed] at b2
      simp only [Bool.false_eq_true,if_false] at hs this ⊢
      omega
     ·rw [cH] at b2
      simp only [if_true] at hs this ⊢
      omega) N (by omega)
    refine ⟨o,by rw [ah,hstep'];exact i1,?_⟩
    have split:∀e',Y e'->Mk.cJ up v e'->e'=y\/Mk.cJ up (y+s) e':=λe' h1 h2=>by
     have h3:=a3 e' h1 h2
     cases up
     ·rw [ed] at h3 ⊢
      simp only [Bool.false_eq_true,if_false] at hs
      omega
     ·rw [cH] at h3 ⊢
      simp only [if_true] at hs
      omega
    cases o with
    | none=>
     intro e he ha
     rcases split e he ha with rfl | h
     ·exact hF
     ·exact i2 e he h
    | some z=>
     obtain ⟨e,c1,c2,c3,c4⟩:=i2
     refine ⟨e,c1,?_,c3,λe' h1 h2 h3=>?_⟩
     ·cases up
      ·rw [ed] at c2 a2 ⊢
       simp only [Bool.false_eq_true,if_false] at hs
       omega
      ·rw [cH] at c2 a2 ⊢
       simp only [if_true] at hs
       omega
     ·rcases split e' h1 h2 with rfl | h
      ·exact hF
      ·exact c4 e' h1 h h3
theorem p9 {g l:Bool} {dg:List UInt8} {x:Int} (hok:okY g l dg x 0):∃lo hi:Int,(∀e,inP g dg x 0 e->lo<=e/\e<=hi)/\hi - lo<=10000/\-10000000000000000<=lo/\hi<=10000000000000000:=by
 cases hX:hasX dg with
 | false=>
  have hin:=uu hok hX
  by_cases hv:-10000000000000000<=(if g then -((val dg x.toNat:Nat):Int) else ((val dg x.toNat:Nat):Int))/\(if g then -((val dg x.toNat:Nat):Int) else ((val dg x.toNat:Nat):Int))<=10000000000000000
  ·refine ⟨_,_,λe he=>?_,?_,hv.1,hv.2⟩
   ·rw [(hin e).1 he];exact ⟨Int.le_refl _,Int.le_refl _⟩
   ·omega
  ·refine ⟨0,0,λe he=>?_,by omega,by omega,by omega⟩
   exfalso
   have:=(hin e).1 he
   unfold inP at he
   exact hv ⟨by rw [<-this];exact he.1,by rw [<-this];exact he.2.1⟩
 | true=>
  have hin:=ve hok hX
  obtain ⟨_,_,_,hl,hd⟩:=kQ hok hX
  refine ⟨if g then -9999 else 0,if g then 0 else 9999,λe he=>?_,by cases g<;>simp,by cases g<;>simp,by cases g<;>simp⟩
  have h:=((hin e).1 he).1
  have:=(Mk.jt h).2.2.2.2
  rw [hl] at this
  have e4:(10:Int) ^ 4=10000:=by decide
  unfold wOf at this
  cases g
  ·simp at this ⊢;omega
  ·simp at this ⊢;omega
theorem rc {g:Bool} {dg:List UInt8} {x q e:Int} (h:inP g dg x q e):bY e:=⟨h.1,h.2.1⟩
theorem xc {g l:Bool} {dg:List UInt8} {x:Int} (hok:okY g l dg x 0) (m d:List UInt8) (k0 k1 k2:Int) (cy cm cd:Int) (hcy:-9223372036854775808<=cy/\cy<9223372036854775808) (ms ds:List Int) (hm:zV d ms) (hd:ds.length<=31):
  ∃o,eG 20000000 g l dg x 0 m d k0 k1 k2 cy cm cd true ms ds=some (o.elim (0,0,0,false) λz=>(z.1,z.2.1,z.2.2,true))/\vu true (inP g dg x 0) (uD true m d cy cm cd ms ds) cy o:=by
 obtain ⟨lo,hi,hb,hw,hb0,hb1⟩:=p9 hok
 obtain ⟨w,f,e1,e2⟩:=yo hok m d k0 k1 k2 cy hcy true ms ds
 obtain ⟨o,i1,i2⟩:=xE (step:=bA 20000000) (st:=λy f=>(1,y,f,ms,ds,g,l,dg,x,0,m,d,k0,k1,k2,cy,cm,cd,true,0,0,0)) (F:=uD true m d cy cm cd ms ds) (Y:=inP g dg x 0) (up:=true) (s:=1) (lo:=lo) (hi:=hi) (E:=(0,0,0)) (fy:=λv=>bh 20000000 g l dg x 0 m d k0 k1 k2 v true ms ds)
  rfl hb hb0 hb1
  (λy hy=>Bz 20000000 (by omega) 1 y (rc hy) ms ds g l dg x 0 m d k0 k1 k2 cy cm cd true 0 0 0 hm hd)
  (λy=>rfl)
  (λv hv=>yo hok m d k0 k1 k2 v hv true ms ds)
  10002 cy w f e2 (λhf=>by have:=hb w (e2.1 hf).1;simp;omega) 20000000 (by omega)
 refine ⟨o,?_,i2⟩
 unfold eG eK
 simp only [Bool.not_true,cond_false,ob,d4,d8,d16,e1]
 have i1':ah (bA 20000000) 20000000 (1,w,f,ms,ds,g,l,dg,x,0,m,d,k0,k1,k2,cy,cm,cd,true,0,0,0)=_:=i1
 rw [i1']
 cases o<;>rfl
theorem vM (m d:List UInt8) (cm cd:Int) {cy e:Int} (h:e≠cy) (ms ds:List Int):uD true m d cy cm cd ms ds e=none↔(ms.flatMap λmo=>(ds.filter λk=>decide (k<=nB d e mo)).map λk=>(e,mo,k))=[]:=by
 have hne:(e==cy)=false:=beq_eq_false_iff_ne.2 h
 unfold uD
 rw [List.findSome?_eq_none_iff,List.flatMap_eq_nil_iff]
 have:∀mo,uE true m d cy cm cd e ds mo=none↔((ds.filter λk=>decide (k<=nB d e mo)).map λk=>(e,mo,k))=[]:=by
  intro mo
  unfold uE yS xb
  rw [hne]
  simp only [Bool.false_and,Bool.false_eq_true,if_false,Option.map_eq_none_iff,List.find?_eq_none,List.map_eq_nil_iff,List.filter_eq_nil_iff]
  constructor
  ·intro h1 k hk
   have:=h1 k hk
   unfold rx at this
   simpa using this
  ·intro h1 k hk
   have:=h1 k hk
   unfold rx
   simpa using this
 exact ⟨λh1 mo hmo=>(this mo).1 (h1 mo hmo),λh1 mo hmo=>(this mo).2 (h1 mo hmo)⟩
def hasF (g:Bool) (dg:List UInt8) (x:Int) (m d:List UInt8):Prop:=∃e,inP g dg x 0 e/\ny m d e≠[]
open Classical in
noncomputable def chkF (g l:Bool) (dg:List UInt8) (x q:Int) (m d:List UInt8) (k0 k1 k2:Int):Int:=
 if chkD g l dg x q m d k0 k1 k2=0/\d≠[]/\¬hasF g dg x m d then 8 else chkD g l dg x q m d k0 k1 k2
theorem jP {g l:Bool} {dg:List UInt8} {x q:Int} {m d:List UInt8} {k0 k1 k2:Int} (h:chkD g l dg x q m d k0 k1 k2=0):okY g l dg x q/\(m=[]\/m.length=2)/\(d=[]\/d.length=2)/\(0<q->m=[])/\(d≠[]->m≠[]/\sea m=0):=by
 obtain ⟨c1,c2,c3,c4⟩:=sS h
 unfold yrD at c1
 by_cases hok:okY g l dg x q
 ·rw [if_pos hok] at c1
  refine ⟨hok,?_,?_,λhq=>?_,λhd=>?_⟩
  ·rcases c2 with h | h | h
   ·exact .inl h
   ·exact .inr (tZ h).1
   ·exact .inr (iJ (by omega) h).1
  ·rcases c3 with h | ⟨_,_,h⟩
   ·exact .inl h
   ·exact .inr (iJ (by omega) h).1
  ·unfold yrB at c1
   simp only [Bool.and_eq_true,Bool.not_eq_true'] at c1
   have:=c1.1
   rw [decide_eq_true hq,Bool.true_and] at this
   by_cases hm:m=[]
   ·exact hm
   ·rw [cY hm] at this;cases this
  ·rcases c3 with h | ⟨h1,h2,_⟩
   ·exact absurd h hd
   ·exact ⟨h1,h2⟩
 ·rw [if_neg hok] at c1;cases c1
theorem An {g l:Bool} {dg:List UInt8} {x q:Int} (h:okY g l dg x q):0<=q:=(iH h).2.2.1
theorem Ae {m d:List UInt8} (h:d≠[]->m≠[]/\sea m=0):zV d (monI m):=by
 refine ⟨Nat.le_trans (wg m) (by omega),λhd mo hmo=>?_⟩
 obtain ⟨h1,h2⟩:=h hd
 unfold monI at hmo
 rw [if_neg h1,if_neg (by omega)] at hmo
 obtain ⟨k,hk,rfl⟩:=List.mem_map.1 hmo
 have:=List.mem_range'_1.1 (List.mem_filter.1 hk).1
 omega
theorem rU {g l:Bool} {dg:List UInt8} {x q:Int} {m d:List UInt8} {k0 k1 k2:Int} (hml:m.length<=18) (hdl:dg.length<=100) (h0:0<=k0) (h1:0<=k1) (h2:0<=k2):
  aS 20000000 g l dg x q m d k0 k1 k2=some (chkF g l dg x q m d k0 k1 k2):=by
 unfold aS chkF
 rw [AY 20000000 (by omega) g l dg x q m d k0 k1 k2 hml hdl h0 h1 h2]
 simp only [ob]
 by_cases hc:chkD g l dg x q m d k0 k1 k2=0
 ·obtain ⟨hok,hm2,hd2,hq,hdm⟩:=jP hc
  rw [hc]
  simp only [bne_self_eq_false,cond_false]
  by_cases hd:d=[]
  ·subst hd
   rw [if_neg (by simp)];rfl
  ·rw [cY hd,cond_false]
   have hq0:q=0:=by
    have:=An hok
    by_cases h:0<q
    ·exact absurd (hq h) (hdm hd).1
    ·omega
   subst hq0
   have e:=F9 20000000 (by omega) g l dg x 0 m d k0 k1 k2 hm2 hd2
   have hmo:=Ae hdm
   obtain ⟨o,o1,o2⟩:=xc hok m d k0 k1 k2 (-9223372036854775808) 0 0 (by omega) (monI m) (dayI d) hmo (vp d)
   have hne:∀e,inP g dg x 0 e->e≠-9223372036854775808:=λe he=>by have:=rc he;unfold bY at this;omega
   have key:(∃z,o=some z)↔hasF g dg x m d:=by
    constructor
    ·rintro ⟨z,rfl⟩
     obtain ⟨e,c1,_,c3,_⟩:=o2
     refine ⟨e,c1,λhn=>?_⟩
     have:=(vM m d 0 0 (hne e c1) (monI m) (dayI d)).2 hn
     rw [this] at c3;cases c3
    ·rintro ⟨e,c1,c2⟩
     cases o with
     | some z=>exact ⟨z,rfl⟩
     | none=>
      have:=o2 e c1 (by rw [cH];have:=rc c1;unfold bY at this;omega)
      exact absurd ((vM m d 0 0 (hne e c1) (monI m) (dayI d)).1 this) c2
   rw [e]
   by_cases hF:hasF g dg x m d
   ·obtain ⟨z,rfl⟩:=key.2 hF
    rw [if_neg (λh=>h.2.2 hF)]
    all_goals
     simp only [d4,d8,o1]
     rfl
   ·have ho:o=none:=by
     cases o with
     | none=>rfl
     | some z=>exact absurd (key.1 ⟨z,rfl⟩) hF
    subst ho
    rw [if_pos ⟨rfl,hd,hF⟩]
    all_goals
     simp only [d4,d8,o1]
     rfl
 ·rw [if_neg (λh=>hc h.1)]
  have:(chkD g l dg x q m d k0 k1 k2 != 0)=true:=by simp [hc]
  rw [this];rfl
theorem AB {g l:Bool} {dg:List UInt8} {x:Int} (hok:okY g l dg x 0) (m d:List UInt8) (k0 k1 k2:Int):
  ∃r,fS 20000000 g l dg x 0 m d k0 k1 k2=some r/\(r=1/\hasF g dg x m d\/r=0/\¬hasF g dg x m d):=by
 have hsm:=iH hok
 obtain ⟨lo,hi,hb,hw,hb0,hb1⟩:=p9 hok
 obtain ⟨s1,s2,s3⟩:=uB hok
 have hsp:=Bd 19999700 g l dg x 0 (by omega) hok
 unfold fS
 rw [show (20000000:Nat)=19999700+300 from rfl,hsp]
 simp only [ob]
 generalize (sgn g (iZ g dg x 0)).1=a at *
 generalize (sgn g (iZ g dg x 0)).2=b at *
 have ha:=hb a s1
 have hb':=hb b s2
 have hY:=λy=>Ey 19999700 hok y
 have step:∀i y,((List.range (b - a+1).toNat).map (λj:Nat=>a+(j:Int)))[i]?=some y->i<(b - a+1).toNat/\y=a+(i:Int):=by
  intro i y h
  rw [List.getElem?_map] at h
  cases hr:(List.range (b - a+1).toNat)[i]? with
  | none=>rw [hr] at h;cases h
  | some j=>
   rw [hr] at h
   have hi:=List.getElem?_eq_some_iff.1 hr
   obtain ⟨h1,h2⟩:=hi
   rw [List.getElem_range] at h2
   rw [List.length_range] at h1
   subst h2
   exact ⟨h1,(Option.some.inj h).symm⟩
 have hlen:((List.range (b - a+1).toNat).map (λj:Nat=>a+(j:Int))).length=(b - a+1).toNat:=by simp
 have:=mf (step:=dc (19999700+300)) (f:=λi=>(b,a+(i:Int),g,l,dg,x,0,m,d,k0,k1,k2)) (L:=(List.range (b - a+1).toNat).map (λj:Nat=>a+(j:Int))) (G:=λy=>if inP g dg x 0 y/\ny m d y≠[] then some (.inl 1) else none) (e:=.inr ())
  (λi y h=>by
   obtain ⟨hi,rfl⟩:=step i y h
   have w1:IntKind.wrap .i64 (a+(i:Int)+1)=a+((i+1:Nat):Int):=by rw [wrap_i64 _ (by omega) (by omega)];omega
   unfold dc
   simp only [d4,d8,w1]
   rw [decide_eq_true (show a+(i:Int)<=b by omega),hY,wS (19999700+300) (by omega)]
   by_cases hin:inP g dg x 0 (a+(i:Int))
   ·rw [if_pos hin]
    by_cases hyr:ny m d (a+(i:Int))=[]
    ·rw [if_neg (λh=>h.2 hyr),hyr];rfl
    ·rw [if_pos ⟨hin,hyr⟩]
     have hp:0<(ny m d (a+(i:Int))).length:=List.length_pos_iff.2 hyr
     have hd:decide ((((ny m d (a+(i:Int))).length:Nat):Int)>0)=true:=decide_eq_true (by omega)
     simp only [cond_true,ob,hd]
     rfl
   ·rw [if_neg hin,if_neg (λh=>hin h.1)];rfl)
  (by
   unfold dc
   simp only [d4,d8]
   rw [hlen,decide_eq_false (show ¬a+(((b - a+1).toNat:Nat):Int)<=b by omega)]
   rfl)
  (N:=19999700+300) (by rw [hlen];omega)
 rw [show a+((0:Nat):Int)=a by omega] at this
 rw [this]
 cases hfs:(List.findSome? (λy=>if inP g dg x 0 y/\ny m d y≠[] then some (Sum.inl (1:Int)) else none) ((List.range (b - a+1).toNat).map (λj:Nat=>a+(j:Int))):Option (Int⊕Unit)) with
 | none=>
  refine ⟨0,rfl,.inr ⟨rfl,?_⟩⟩
  rintro ⟨e,he1,he2⟩
  rw [List.findSome?_eq_none_iff] at hfs
  have hs:=s3 e he1
  have:=hfs e (List.mem_map.2 ⟨(e - a).toNat,List.mem_range.2 (by omega),by omega⟩)
  rw [if_pos ⟨he1,he2⟩] at this
  cases this
 | some z=>
  obtain ⟨y,hy1,hy2⟩:=List.exists_of_findSome?_eq_some hfs
  by_cases hh:inP g dg x 0 y/\ny m d y≠[]
  ·rw [if_pos hh] at hy2
   obtain rfl:=Option.some.inj hy2
   exact ⟨1,rfl,.inl ⟨rfl,y,hh.1,hh.2⟩⟩
  ·rw [if_neg hh] at hy2;cases hy2
theorem pb {g l:Bool} {dg:List UInt8} {x q:Int} {m d:List UInt8} {k0 k1 k2:Int} (hdl:dg.length<=100) (h0:0<=k0) (h1:0<=k1) (h2:0<=k2):
  aO 20000000 g l dg x q m d k0 k1 k2=some (chkF g l dg x q m d k0 k1 k2):=by
 unfold aO chkF
 rw [tT 20000000 (by omega) g l dg x q m d k0 k1 k2 hdl h0 h1 h2]
 simp only [ob]
 by_cases hc:chkD g l dg x q m d k0 k1 k2=0
 ·obtain ⟨hok,hm2,hd2,hq,hdm⟩:=jP hc
  rw [hc]
  by_cases hd:d=[]
  ·subst hd
   rw [if_neg (by simp)];rfl
  ·have hq0:q=0:=by
    have:=An hok
    by_cases h:0<q
    ·exact absurd (hq h) (hdm hd).1
    ·omega
   subst hq0
   obtain ⟨r,r1,r2⟩:=AB hok m d k0 k1 k2
   rw [cY hd,r1]
   rcases r2 with ⟨rfl,hF⟩ | ⟨rfl,hF⟩
   ·rw [if_neg (λh=>h.2.2 hF)];rfl
   ·rw [if_pos ⟨rfl,hd,hF⟩];rfl
 ·rw [if_neg (λh=>hc h.1)]
  have:(chkD g l dg x q m d k0 k1 k2==0)=false:=beq_eq_false_iff_ne.2 hc
  rw [this];rfl
theorem pc {g l:Bool} {dg:List UInt8} {x q:Int} {m d:List UInt8} {k0 k1 k2:Int} (h:chkF g l dg x q m d k0 k1 k2=0):chkD g l dg x q m d k0 k1 k2=0:=by
 unfold chkF at h
 split at h
 ·cases h
 ·exact h
theorem bne0 {e:Int} (h:e≠0):(e != 0)=true:=by simp [h]
theorem uN {m d:List UInt8} {y:Int} {z:Int×Int×Int}:z∈ny m d y↔z.1=y/\z.2.1∈monI m/\z.2.2∈dayI d/\z.2.2<=nB d y z.2.1:=by
 unfold ny nh
 simp only [List.mem_flatMap,List.mem_map,List.mem_filter,decide_eq_true_eq]
 constructor
 ·rintro ⟨mo,h1,k,⟨h2,h3⟩,rfl⟩;exact ⟨rfl,h1,h2,h3⟩
 ·rintro ⟨h0,h1,h2,h3⟩
  exact ⟨z.2.1,h1,z.2.2,⟨h2,h3⟩,by rw [<-h0]⟩
theorem D0 (y:Int) (i:Nat):(minL i:Int)<=lenI y (i:Int):=by
 unfold minL lenI
 repeat' split
 all_goals omega
theorem AP {g l:Bool} {dg:List UInt8} {x:Int} (hok:okY g l dg x 0) {m d:List UInt8} (hm:m≠[]) (hs:sea m=0) (hd:d≠[]) (hf:fitD m d=true):hasF g dg x m d:=by
 obtain ⟨s1,_,_⟩:=uB hok
 refine ⟨_,s1,?_⟩
 unfold fitD at hf
 simp only [List.any_eq_true,Bool.and_eq_true] at hf
 obtain ⟨i,hi,ha,k,hk,hka⟩:=hf
 have hi':=List.mem_range'_1.1 hi
 have hk':=List.mem_range'_1.1 hk
 have h31:minL i<=31:=by
  unfold minL
  repeat' split
  all_goals omega
 have hz:((sgn g (iZ g dg x 0)).1,(i:Int),(k:Int))∈ny m d (sgn g (iZ g dg x 0)).1:=by
  rw [uN]
  refine ⟨rfl,?_,?_,?_⟩
  ·unfold monI
   rw [if_neg hm,if_neg (by omega)]
   exact List.mem_map.2 ⟨i,List.mem_filter.2 ⟨hi,ha⟩,rfl⟩
  ·unfold dayI
   rw [if_neg hd]
   exact List.mem_map.2 ⟨k,List.mem_filter.2 ⟨List.mem_range'_1.2 (by omega),hka⟩,rfl⟩
  ·unfold nB
   rw [if_neg hd]
   have:=D0 (sgn g (iZ g dg x 0)).1 i
   show (k:Int)<=lenI (sgn g (iZ g dg x 0)).1 (i:Int)
   omega
 intro e
 rw [e] at hz
 cases hz
theorem vI {g l:Bool} {dg:List UInt8} {x q:Int} {m d:List UInt8} {k0 k1 k2:Int} (hc:chkD g l dg x q m d k0 k1 k2=0) (hf:d=[]\/fitD m d=true):chkF g l dg x q m d k0 k1 k2=0:=by
 obtain ⟨hok,hm2,hd2,hq,hdm⟩:=jP hc
 unfold chkF
 rw [if_neg,hc]
 rintro ⟨_,hd,hn⟩
 obtain ⟨h1,h2⟩:=hdm hd
 have hq0:q=0:=by
  have:=An hok
  by_cases h:0<q
  ·exact absurd (hq h) h1
  ·omega
 subst hq0
 exact hn (AP hok h1 h2 hd (hf.resolve_left hd))
def dayY (y:Int):Int:=365*y+(1+(y - 1) / 4 - (y - 1) / 100+(y - 1) / 400)
def cumM (y:Int):Nat->Int
 | 0=>0
 | k+1=>cumM y k+lenI y ((k+1:Nat):Int)
def dayM (y:Int) (m:Nat):Int:=if m<=12 then dayY y+cumM y (m - 1) else dayY (y+1)+cumM (y+1) (m - 13)
theorem pE (y:Int):dayY (y+1)=dayY y+365+(if lT y then 1 else 0):=by
 unfold dayY lT
 simp only [Bool.and_eq_true,Bool.or_eq_true,decide_eq_true_eq]
 split<;>omega
theorem vT (n:Int):dayY (400*n)=146097*n:=by
 unfold dayY
 omega
theorem fK {y:Int} (h:-20000000000000000<=y/\y<=20000000000000000):-8000000000000000000<=dayY y/\dayY y<=8000000000000000000:=by
 unfold dayY
 omega
theorem FW (y:Int):cumM y 12=365+(if lT y then 1 else 0):=by
 have e:∀k:Nat,cumM y (k+1)=cumM y k+lenI y ((k+1:Nat):Int):=λ_=>rfl
 have z:cumM y 0=0:=rfl
 rw [e 11,e 10,e 9,e 8,e 7,e 6,e 5,e 4,e 3,e 2,e 1,e 0,z]
 unfold lenI
 cases lT y<;>rfl
theorem kN (y:Int):∀k:Nat,0<=cumM y k/\cumM y k<=31*(k:Int)
 | 0=>by simp [cumM]
 | k+1=>by
  have h1:=kN y k
  have h2:=fa y ((k+1:Nat):Int)
  show 0<=cumM y k+lenI y ((k+1:Nat):Int)/\cumM y k+lenI y ((k+1:Nat):Int)<=_
  omega
theorem jN {y:Int} (h:bY y) {m:Nat} (h2:m<=24):-8100000000000000000<=dayM y m/\dayM y m<=8100000000000000000:=by
 unfold bY at h
 unfold dayM
 split
 ·have:=kN y (m - 1)
  have:=fK (y:=y) (by omega)
  omega
 ·have:=kN (y+1) (m - 13)
  have:=fK (y:=y+1) (by omega)
  omega
theorem CO (y:Int):dayM y 13=dayY (y+1):=by
 unfold dayM
 rw [if_neg (by omega)]
 simp [cumM]
theorem oZ (y:Int) {m:Nat} (h1:1<=m) (h2:m<=12):dayM y (m+1)=dayM y m+lenI y (m:Int):=by
 obtain ⟨k,rfl⟩:∃k,m=k+1:=⟨m - 1,by omega⟩
 have e:dayM y (k+1)=dayY y+cumM y k:=by unfold dayM;rw [if_pos (by omega)];rfl
 rw [e]
 by_cases h:k+1=12
 ·obtain rfl:k=11:=by omega
  rw [CO,pE]
  have:=FW y
  have e:cumM y 12=cumM y 11+lenI y ((11+1:Nat):Int):=rfl
  omega
 ·have:dayM y (k+1+1)=dayY y+cumM y (k+1):=by unfold dayM;rw [if_pos (by omega)];rfl
  rw [this]
  show dayY y+(cumM y k+lenI y ((k+1:Nat):Int))=_
  omega
theorem mB (y:Int) {m:Nat} (h1:1<=m) (h2:m<=12):dayM y (m+12)=dayM (y+1) m:=by
 unfold dayM
 rw [if_neg (by omega),if_pos h2]
 congr 2
theorem lN (n:Nat) {y:Int} (h:-10000000000000001<=y/\y<=10000000000000001):gF n y=some (dayY y):=by
 have hr:=fK (y:=y) (by omega)
 unfold gF
 rw [oJ n (by omega),wrap_i64 (365*y) (by omega) (by omega)]
 show some (IntKind.wrap .i64 (dayY y))=_
 rw [wrap_i64 _ (by omega) (by omega)]
theorem lK (n:Nat) {y:Int} (h:bY y):gD n y=some (dayY y,0):=by
 unfold gD
 have h':=h
 unfold bY at h'
 rw [dw,if_pos h,lN n (by omega)]
 rfl
theorem tf (n:Nat) {y:Int} (h:bY y):ml n y=some (dayY (y+1) - 1,0):=by
 unfold ml
 have h':=h
 unfold bY at h'
 have hr:=fK (y:=y+1) (by omega)
 rw [dw,if_pos h,wrap_i64 (y+1) (by omega) (by omega),lN n (by omega)]
 show some (IntKind.wrap .i64 (dayY (y+1) - 1),(0:Int))=_
 rw [wrap_i64 _ (by omega) (by omega)]
theorem tU (n:Nat) {y:Int} (h:bY y) {m:Nat} (hm:m<=11):∀(r j:Nat),j+r=m->∀N,r<N->ah (aK n) N (y,dayY y+cumM y j,(m:Int),(j:Int))=some (dayY y+cumM y m):=by
 have h':=h
 unfold bY at h'
 have hr:=fK (y:=y) (by omega)
 intro r
 induction r with
 | zero=>
  intro j hj N hN
  obtain ⟨N,rfl⟩:∃k,N=k+1:=⟨N - 1,by omega⟩
  obtain rfl:j=m:=by omega
  have:aK n (y,dayY y+cumM y j,(j:Int),(j:Int))=some (.inr (dayY y+cumM y j)):=by
   unfold aK
   rw [bg,if_neg (show ¬((j:Int)<(j:Int)) by omega)]
  rw [ah,this]
 | succ r ih=>
  intro j hj N hN
  obtain ⟨N,rfl⟩:∃k,N=k+1:=⟨N - 1,by omega⟩
  have w:IntKind.wrap .i64 ((j:Int)+1)=((j+1:Nat):Int):=by rw [wrap_i64 _ (by omega) (by omega)];omega
  have hc:=kN y j
  have hl:=fa y ((j+1:Nat):Int)
  have:aK n (y,dayY y+cumM y j,(m:Int),(j:Int))=some (.inl (y,dayY y+cumM y (j+1),(m:Int),((j+1:Nat):Int))):=by
   unfold aK
   rw [bg,if_pos (show ((j:Int)<(m:Int)) by omega)]
   simp only [w,o8 n h (show 1<=j+1 by omega) (show j+1<=12 by omega),ob]
   rw [wrap_i64 (dayY y+cumM y j+lenI y ((j+1:Nat):Int)) (by omega) (by omega),Int.add_assoc]
   rfl
  rw [ah,this]
  exact ih (j+1) (by omega) N (by omega)
theorem me (n:Nat) (hn:100<n) {y:Int} (h:bY y) {m:Nat} (h1:1<=m) (h2:m<=12):cO n y (m:Int)=some (dayM y m,0):=by
 unfold cO
 have w:IntKind.wrap .i64 ((m:Int) - 1)=((m - 1:Nat):Int):=by rw [wrap_i64 _ (by omega) (by omega)];omega
 rw [vJ n h h1 h2,lK n h,w]
 have:=tU n h (m:=m - 1) (by omega) (m - 1) 0 (by omega) n (by omega)
 rw [show dayY y+cumM y 0=dayY y by simp [cumM]] at this
 show ob (ah (aK n) n (y,dayY y,((m - 1:Nat):Int),((0:Nat):Int))) _=_
 rw [this]
 unfold dayM
 rw [if_pos h2];rfl
theorem uf (n:Nat) (hn:100<n) {y:Int} (h:bY y) {m:Nat} (h1:1<=m) (h2:m<=12):dO n y (m:Int)=some (dayM y (m+1) - 1,0):=by
 unfold dO
 have hr:=jN h (m:=m) (by omega)
 have hl:=fa y (m:Int)
 rw [me n hn h h1 h2,o8 n h h1 h2,oZ y h1 h2]
 show some (IntKind.wrap .i64 (IntKind.wrap .i64 (dayM y m+lenI y (m:Int)) - 1),(0:Int))=_
 rw [wrap_i64 (dayM y m+lenI y (m:Int)) (by omega) (by omega),wrap_i64 _ (by omega) (by omega)]
theorem wW (n:Nat) (hn:100<n) {y:Int} (h:bY y) {j m c:Nat} (hj:j<21) (e:iU[j]?=some ((m:Int),(c:Int))) (h1:1<=m) (h2:m<=12) (h3:1<=c) (h4:c<=6) (hy:12<m+c - 1->y≠10000000000000000):
  dX n y ((21+j:Nat):Int)=some (0,dayM y m,0,dayM y (m+c) - 1,0):=by
 have hM:cN n ((21+j:Nat):Int)=some ((m:Int),(c:Int),0):=by
  unfold cN bR
  rw [bg,bg,if_neg (by omega),if_neg (by omega)]
  have:IntKind.wrap .i64 (((21+j:Nat):Int) - 21)=(j:Int):=by rw [wrap_i64 _ (by omega) (by omega)];omega
  rw [this,bE hj]
  show ob (iU[j]?) _=_
  rw [e]
  rfl
 unfold dX
 rw [hM]
 simp only [ob,bne_self_eq_false,cond_false]
 rw [me n hn h h1 h2]
 simp only [ob,bne_self_eq_false,cond_false]
 rw [madd n h h1 h2 h3 h4]
 have h':=h
 unfold bY at h'
 by_cases hb:12<m+c - 1
 ·rw [if_pos hb,if_neg (hy hb)]
  have hc1:bY (y+1):=by unfold bY;have:=hy hb;omega
  simp only [ob,bne_self_eq_false,cond_false]
  rw [uf n hn hc1 (m:=m+c - 1 - 12) (by omega) (by omega)]
  have:=mB y (m:=m+c - 1 - 12+1) (by omega) (by omega)
  rw [show m+c - 1 - 12+1+12=m+c by omega] at this
  rw [this]
 ·rw [if_neg hb]
  simp only [ob,bne_self_eq_false,cond_false]
  rw [uf n hn h (m:=m+c - 1) (by omega) (by omega),show m+c - 1+1=m+c by omega]
theorem qo (n:Nat) {y:Int} (hy:-10000000000000002<=y/\y<=10000000000000002):∀(r:Nat) (z:Int),z+(r:Int)=y->-10000000000000402<=z->∀N,r<N->ah (bu n) N (y,dayY z,z)=some (dayY y):=by
 intro r
 induction r with
 | zero=>
  intro z hz hz2 N hN
  obtain ⟨N,rfl⟩:∃k,N=k+1:=⟨N - 1,by omega⟩
  obtain rfl:z=y:=by omega
  have:bu n (z,dayY z,z)=some (.inr (dayY z)):=by
   unfold bu
   rw [bg,if_neg (show ¬(z<z) by omega)]
  rw [ah,this]
 | succ r ih=>
  intro z hz hz2 N hN
  obtain ⟨N,rfl⟩:∃k,N=k+1:=⟨N - 1,by omega⟩
  have hr:=fK (y:=z) (by omega)
  have hst:=pE z
  have:bu n (y,dayY z,z)=some (.inl (y,dayY (z+1),z+1)):=by
   unfold bu
   rw [bg,if_pos (show z<y by omega),qI]
   have hl:lenI z 2=if lT z then 29 else 28:=rfl
   simp only [ob,hl]
   rw [wrap_i64 (dayY z+365) (by omega) (by omega),wrap_i64 (dayY z+365+1) (by omega) (by omega),wrap_i64 (z+1) (by omega) (by omega),hst]
   cases lT z
   ·simp
   ·rfl
  rw [ah,this]
  exact ih (z+1) (by omega) (by omega) N (by omega)
theorem lA (n:Nat) (hn:1000<n) {y:Int} (hy:-10000000000000002<=y/\y<=10000000000000002):aX n y=some (dayY y):=by
 have hd:=Int.mul_tdiv_add_tmod y 400
 have ht:Int.tmod y 400=if 0<=y then y%400 else -((-y)%400):=by
  by_cases h:0<=y
  ·rw [if_pos h,Int.tmod_eq_emod_of_nonneg h]
  ·rw [if_neg h,<-Int.tmod_eq_emod_of_nonneg (show 0<=-y by omega),Int.neg_tmod,Int.neg_neg]
 unfold aX
 by_cases hm:Int.tmod y 400<0
 ·rw [decide_eq_true hm]
  have hq:Int.tdiv y 400 - 1=y / 400:=by
   rw [ht] at hm hd
   split at hm
   ·omega
   ·rw [if_neg (by assumption)] at hd
    omega
  rw [wrap_i64 (Int.tdiv y 400) (by omega) (by omega),hq,wrap_i64 (y / 400) (by omega) (by omega),wrap_i64 (y / 400*146097) (by omega) (by omega),wrap_i64 (y / 400*400) (by omega) (by omega)]
  have:=qo n hy (y - y / 400*400).toNat (y / 400*400) (by omega) (by omega) n (by omega)
  rw [show dayY (y / 400*400)=y / 400*146097 by rw [Int.mul_comm,vT,Int.mul_comm]] at this
  simp only [cond_true,this,ob]
 ·rw [decide_eq_false hm]
  have hq:Int.tdiv y 400=y / 400:=by
   rw [ht] at hm hd
   split at hm
   ·rw [if_pos (by assumption)] at hd
    omega
   ·rw [if_neg (by assumption)] at hd
    omega
  rw [hq,wrap_i64 (y / 400) (by omega) (by omega),wrap_i64 (y / 400*146097) (by omega) (by omega),wrap_i64 (y / 400*400) (by omega) (by omega)]
  have:=qo n hy (y - y / 400*400).toNat (y / 400*400) (by omega) (by omega) n (by omega)
  rw [show dayY (y / 400*400)=y / 400*146097 by rw [Int.mul_comm,vT,Int.mul_comm]] at this
  simp only [cond_false,this,ob]
theorem oO {step:Int×Int×Int×Int->Option ((Int×Int×Int×Int)⊕Int)} (n:Nat)
  (hs:step=λx=>(cond (decide (x.2.2.2<x.2.1)) (ob (ci n x.1 x.2.2.2) λr=>(some (.inl (x.1,x.2.1,(IntKind.wrap .i64 (x.2.2.1+r)),(IntKind.wrap .i64 (x.2.2.2+1)))))) (some (.inr x.2.2.1))))
  {y:Int} (hy:-10000000000000002<=y/\y<=10000000000000002) {m:Nat} (h1:1<=m) (h2:m<=12) {N:Nat} (hN:20<N):ah step N (y,(m:Int),dayY y,1)=some (dayM y m):=by
 have hr:=fK (y:=y) (by omega)
 have go:∀(r j:Nat),j+1+r=m->∀N,r<N->ah step N (y,(m:Int),dayY y+cumM y j,((j+1:Nat):Int))=some (dayY y+cumM y (m - 1)):=by
  intro r
  induction r with
  | zero=>
   intro j hj N hN
   obtain ⟨N,rfl⟩:∃k,N=k+1:=⟨N - 1,by omega⟩
   obtain rfl:j+1=m:=by omega
   have:step (y,((j+1:Nat):Int),dayY y+cumM y j,((j+1:Nat):Int))=some (.inr (dayY y+cumM y j)):=by
    rw [hs]
    simp only []
    rw [decide_eq_false (show ¬(((j+1:Nat):Int)<((j+1:Nat):Int)) by omega)]
    rfl
   rw [ah,this]
   rfl
  | succ r ih=>
   intro j hj N hN
   obtain ⟨N,rfl⟩:∃k,N=k+1:=⟨N - 1,by omega⟩
   have w:IntKind.wrap .i64 (((j+1:Nat):Int)+1)=((j+1+1:Nat):Int):=by rw [wrap_i64 _ (by omega) (by omega)];omega
   have hc:=kN y j
   have hl:=fa y ((j+1:Nat):Int)
   have:step (y,(m:Int),dayY y+cumM y j,((j+1:Nat):Int))=some (.inl (y,(m:Int),dayY y+cumM y (j+1),((j+1+1:Nat):Int))):=by
    rw [hs]
    simp only []
    rw [decide_eq_true (show (((j+1:Nat):Int)<(m:Int)) by omega),qI]
    simp only [cond_true,ob,w]
    rw [wrap_i64 (dayY y+cumM y j+lenI y ((j+1:Nat):Int)) (by omega) (by omega),Int.add_assoc]
    rfl
   rw [ah,this]
   exact ih (j+1) (by omega) N (by omega)
 have:=go (m - 1) 0 (by omega) N (by omega)
 rw [show dayY y+cumM y 0=dayY y by simp [cumM]] at this
 have e:dayM y m=dayY y+cumM y (m - 1):=by unfold dayM;rw [if_pos h2]
 rw [e]
 exact this
theorem kX (n:Nat) (hn:1000<n) {y:Int} (hy:-10000000000000001<=y/\y<=10000000000000001) {m:Nat} (h1:1<=m) (h2:m<=24):ax n y (m:Int)=some (dayM y m):=by
 unfold ax
 by_cases h:12<m
 ·rw [decide_eq_true (show (m:Int)>12 by omega),wrap_i64 (y+1) (by omega) (by omega),wrap_i64 ((m:Int) - 12) (by omega) (by omega),show (m:Int) - 12=((m - 12:Nat):Int) by omega]
  unfold fF
  rw [decide_eq_false (show ¬((m - 12:Nat):Int)>12 by omega),lA n hn (by omega)]
  simp only [cond_true,cond_false,ob]
  have:=oO (step:=eF n) n rfl (y:=y+1) (by omega) (m:=m - 12) (by omega) (by omega) (N:=n) (by omega)
  rw [this,<-mB y (by omega) (by omega),show m - 12+12=m by omega]
 ·rw [decide_eq_false (show ¬(m:Int)>12 by omega),lA n hn (by omega)]
  simp only [cond_false,ob]
  have:=oO (step:=fG n) n rfl (y:=y) (by omega) (m:=m) (by omega) (by omega) (N:=n) (by omega)
  rw [this]
def twoV (s:List UInt8):Nat:=match s with
 | [a,b]=>10*(a.toNat - 48)+(b.toNat - 48)
 | _=>0
def yOf (g:Bool) (dg:List UInt8) (x:Int):Int:=if g then -((val dg x.toNat:Nat):Int) else ((val dg x.toNat:Nat):Int)
def spF (m:List UInt8):Nat:=((iU.getD (sea m - 21).toNat (0,0)).1).toNat
def spC (m:List UInt8):Nat:=((iU.getD (sea m - 21).toNat (0,0)).2).toNat
def jf (g:Bool) (dg:List UInt8) (x:Int) (m d:List UInt8):Int×Int:=
 if m=[] then (dayY (yOf g dg x),dayY (yOf g dg x+1) - 1)
 else if 0<sea m then (dayM (yOf g dg x) (spF m),dayM (yOf g dg x) (spF m+spC m) - 1)
 else if d=[] then (dayM (yOf g dg x) (twoV m),dayM (yOf g dg x) (twoV m+1) - 1)
 else (dayM (yOf g dg x) (twoV m)+(twoV d:Int) - 1,dayM (yOf g dg x) (twoV m)+(twoV d:Int) - 1)
def exD (dg m d:List UInt8) (q:Int):Bool:=!(hasX dg||(hasX m||hasX d))&&(q==0)
theorem Cb {s:List UInt8} (h:hasX s=false) {c:UInt8} (hc:c∈s):c≠88:=by
 rintro rfl
 unfold hasX at h
 rw [List.any_eq_false] at h
 exact h 88 hc (by decide)
theorem zi {s:List UInt8} (h:hasX s=false) {k:Nat} (hk:k<100) (ha:agr s k=true):twoV s=k/\s=two k:=by
 unfold agr at ha
 split at ha
 ·rename_i a b
  have ha1:a≠88:=Cb h (by simp)
  have hb1:b≠88:=Cb h (by simp)
  simp only [Bool.and_eq_true,Bool.or_eq_true,beq_iff_eq] at ha
  obtain ⟨h1,h2⟩:=ha
  have h1:=h1.resolve_left ha1
  have h2:=h2.resolve_left hb1
  subst h1 h2
  refine ⟨?_,rfl⟩
  unfold twoV
  have n1:(UInt8.ofNat (48+k / 10)).toNat=48+k / 10:=by simp;omega
  have n2:(UInt8.ofNat (48+k%10)).toNat=48+k%10:=by simp;omega
  simp only [n1,n2]
  omega
 ·cases ha
theorem qr {s:List UInt8} (h:hasX s=false) {g:Nat} (hg:g<100) (ha:ck s g=true):1<=twoV s/\twoV s<=g/\s=two (twoV s):=by
 unfold ck at ha
 obtain ⟨i,hi,ha⟩:=List.any_eq_true.1 ha
 have:=List.mem_range.1 hi
 obtain ⟨e1,e2⟩:=zi h (by omega) ha
 rw [e1]
 exact ⟨by omega,by omega,e2⟩
theorem zM {s:List UInt8} (h:hasX s=false) {g:Nat} (hg:g<100) {k:Int} (hk:k∈mn (fitN s g)):k=(twoV s:Int):=by
 obtain ⟨i,hi,rfl⟩:=List.mem_map.1 hk
 obtain ⟨h1,h2⟩:=List.mem_filter.1 hi
 have:=List.mem_range'_1.1 h1
 rw [(zi h (by omega) h2).1]
theorem vU {k:Nat} (hk:k<100):Lib.atoi (two k)=some (k:Int):=by
 have n1:(UInt8.ofNat (48+k / 10)).toNat=48+k / 10:=by simp;omega
 have n2:(UInt8.ofNat (48+k%10)).toNat=48+k%10:=by simp;omega
 unfold two
 rw [Bp (by omega) (by omega),n1,n2]
 congr 2
 omega
theorem pV (n:Nat) {k:Nat} (hk:k<100):aC n (two k)=some (k:Int):=by
 have n1:(UInt8.ofNat (48+k / 10)).toNat=48+k / 10:=by simp;omega
 have n2:(UInt8.ofNat (48+k%10)).toNat=48+k%10:=by simp;omega
 have s0:sx (two k) 0=some (UInt8.ofNat (48+k / 10)):=rfl
 have s1:sx (two k) 1=some (UInt8.ofNat (48+k%10)):=rfl
 unfold aC
 rw [s0,s1]
 simp only [ob,n1,n2]
 rw [dr (((48+k / 10:Nat):Int) - 48) (by omega) (by omega),dr (((48+k%10:Nat):Int) - 48) (by omega) (by omega),
  wrap_i64 (((48+k / 10:Nat):Int) - 48) (by omega) (by omega),wrap_i64 (((48+k%10:Nat):Int) - 48) (by omega) (by omega),
  wrap_i64 (10*(((48+k / 10:Nat):Int) - 48)) (by omega) (by omega),wrap_i64 _ (by omega) (by omega)]
 congr 1
 omega
structure Exact (g l:Bool) (dg:List UInt8) (x:Int) (m d:List UInt8):Prop where
 ok:okY g l dg x 0
 num:hasX dg=false
 cal:bY (yOf g dg x)
 mon:m=[]\/(∃j,j<21/\m=two (21+j)/\(j=3\/j=7\/j=9->yOf g dg x≠10000000000000000))\/(sea m=0/\1<=twoV m/\twoV m<=12/\m=two (twoV m))
 day:d=[]\/(m≠[]/\sea m=0/\1<=twoV d/\twoV d<=31/\d=two (twoV d)/\(twoV d:Int)<=lenI (yOf g dg x) (twoV m:Int))
theorem n6 {g l:Bool} {dg:List UInt8} {x q:Int} {m d:List UInt8} {k0 k1 k2:Int} (hc:chkF g l dg x q m d k0 k1 k2=0) (he:exD dg m d q=true):q=0/\Exact g l dg x m d:=by
 unfold exD at he
 simp only [Bool.and_eq_true,Bool.not_eq_true',Bool.or_eq_false_iff,beq_iff_eq] at he
 obtain ⟨⟨hX,hXm,hXd⟩,rfl⟩:=he
 refine ⟨rfl,?_⟩
 have hD:=pc hc
 obtain ⟨hok,hm2,hd2,hq,hdm⟩:=jP hD
 obtain ⟨c1,c2,c3,c4⟩:=sS hD
 have hin:=uu hok hX
 obtain ⟨s1,_,_⟩:=uB hok
 have hy:inP g dg x 0 (yOf g dg x):=by
  have:=(hin _).1 s1
  have e:yOf g dg x=(sgn g (iZ g dg x 0)).1:=by rw [this];rfl
  rw [e]
  exact s1
 have hcal:=rc hy
 refine ⟨hok,hX,hcal,?_,?_⟩
 ·by_cases hm:m=[]
  ·exact .inl hm
  ·right
   rcases jJ m with h0 | ⟨j,hj,e⟩
   ·right
    rcases c2 with h | h | h
    ·exact absurd h hm
    ·omega
    ·obtain ⟨a1,a2,a3⟩:=qr hXm (by omega) h
     exact ⟨h0,a1,a2,a3⟩
   ·left
    refine ⟨j,hj,e,λhw=>?_⟩
    unfold yrD at c1
    rw [if_pos hok] at c1
    unfold yrB at c1
    simp only [Bool.and_eq_true,Bool.not_eq_true'] at c1
    have hwt:wint (sea m)=true:=by
     rw [e,gc hj]
     rcases hw with rfl | rfl | rfl<;>rfl
    have hl:=c1.2
    rw [hwt,Bool.true_and] at hl
    unfold kJ at hl
    rw [hX] at hl
    intro hyE
    unfold yOf at hyE
    cases g with
    | true=>
     simp only [if_true] at hyE
     omega
    | false=>
     simp only [Bool.false_eq_true,if_false] at hyE
     have:val dg x.toNat=E16:=by unfold E16;omega
     rw [decide_eq_true this] at hl
     cases hl
 ·by_cases hd:d=[]
  ·exact .inl hd
  ·right
   obtain ⟨hm,hs⟩:=hdm hd
   rcases c3 with h | ⟨_,_,h⟩
   ·exact absurd h hd
   ·obtain ⟨a1,a2,a3⟩:=qr hXd (by omega) h
    refine ⟨hm,hs,a1,a2,a3,?_⟩
    have hF:hasF g dg x m d:=by
     unfold chkF at hc
     split at hc
     ·cases hc
     ·rename_i hn
      by_cases h:hasF g dg x m d
      ·exact h
      ·exact absurd ⟨hD,hd,h⟩ hn
    obtain ⟨e,he,hne⟩:=hF
    obtain ⟨z,L,hz⟩:=List.exists_cons_of_ne_nil hne
    have hz:z∈ny m d e:=by rw [hz];exact List.mem_cons_self
    obtain ⟨z1,z2,z3,z4⟩:=uN.1 hz
    have hey:e=yOf g dg x:=(hin e).1 he
    unfold monI at z2
    rw [if_neg hm,if_neg (by omega)] at z2
    unfold dayI at z3
    rw [if_neg hd] at z3
    unfold nB at z4
    rw [if_neg hd,zM hXd (by omega) z3,zM hXm (by omega) z2,hey] at z4
    exact z4
theorem ut {j:Nat} (hj:j<21):∃f c:Nat,iU[j]?=some ((f:Int),(c:Int))/\1<=f/\f<=12/\1<=c/\c<=6/\(12<f+c - 1↔j=3\/j=7\/j=9)/\spF (two (21+j))=f/\spC (two (21+j))=c:=by
 obtain ⟨f,c,e,h1,h2,h3,h4,h5⟩:=wG hj
 have hs:(sea (two (21+j)) - 21).toNat=j:=by rw [gc hj];omega
 have hg:iU.getD j (0,0)=((f:Int),(c:Int)):=by rw [List.getD_eq_getElem?_getD,e];rfl
 refine ⟨f,c,e,h1,h2,h3,h4,h5,?_,?_⟩
 ·unfold spF;rw [hs,hg];rfl
 ·unfold spC;rw [hs,hg];rfl
theorem sJ (n:Nat) {j:Nat} (hj:j<21):dN n ((21+j:Nat):Int)=iU[j]?:=by
 have:j=0\/j=1\/j=2\/j=3\/j=4\/j=5\/j=6\/j=7\/j=8\/j=9\/j=10\/j=11\/j=12\/j=13\/j=14\/j=15\/j=16\/j=17\/j=18\/j=19\/j=20:=by omega
 rcases this with rfl | rfl | rfl | rfl | rfl | rfl | rfl | rfl | rfl | rfl | rfl | rfl | rfl | rfl | rfl | rfl | rfl | rfl | rfl | rfl | rfl<;>rfl
theorem vS (n:Nat) (g l:Bool) (dg:List UInt8) (x q:Int) (m d:List UInt8) (k0 k1 k2:Int) (hm:m.length<=1000) (hd:dg.length<=1000) (h:d.length<=1000):gZ n g l dg x q m d k0 k1 k2=some (exD dg m d q):=by
 unfold gZ exD
 rw [tM n g l dg x q m d k0 k1 k2 hm hd h]
 simp only [ob]
 cases (hasX dg||(hasX m||hasX d))<;>rfl
theorem Cx {Y:Type} (a b:Y):∀s:List UInt8,((s.findSome? λc=>if c=88 then some a else none).getD b)=if hasX s then a else b
 | []=>rfl
 | c::s=>by
  have ih:=Cx a b s
  unfold hasX at ih ⊢
  rw [List.findSome?_cons,List.any_cons]
  by_cases hc:c=88
  ·subst hc;rfl
  ·rw [if_neg hc]
   have e:(c==88)=false:=beq_eq_false_iff_ne.2 hc
   rw [e,Bool.false_or]
   exact ih
theorem pO (n:Nat) (s:List UInt8) (g l:Bool) (dg:List UInt8) (x q:Int) (m d:List UInt8) (k0 k1 k2:Int) (hs:s.length<=100000) {N:Nat} (hN:s.length<N):
  ah (cc n) N (s,0,g,l,dg,x,q,m,d,k0,k1,k2)=some (if hasX s then .inl 0 else .inr (g,l,dg,x,q,m,d,k0,k1,k2)):=by
 have:=mf (step:=cc n) (f:=λi=>(s,(i:Int),g,l,dg,x,q,m,d,k0,k1,k2)) (L:=s) (G:=λc=>if c=88 then some (.inl 0) else none) (e:=.inr (g,l,dg,x,q,m,d,k0,k1,k2))
  (λi c hi=>by
   have hil:=(List.getElem?_eq_some_iff.1 hi).1
   have w1:IntKind.wrap .i64 ((i:Int)+1)=((i+1:Nat):Int):=by rw [wrap_i64 _ (by omega) (by omega)];omega
   unfold cc
   simp only [d4,d8,w1]
   rw [decide_eq_true (show (i:Int)<((s.length:Nat):Int) by omega),ip hi]
   simp only [cond_true,ob]
   by_cases hc:c=88
   ·subst hc
    rw [if_pos rfl];rfl
   ·rw [if_neg hc]
    have:(((c.toNat:Nat):Int)==88)=false:=by
     rw [beq_eq_false_iff_ne]
     intro h
     apply hc
     apply UInt8.toNat_inj.1
     have:c.toNat=88:=by omega
     rw [this];rfl
    rw [this];rfl)
  (by
   unfold cc
   simp only [d4,d8]
   rw [decide_eq_false (show ¬((s.length:Nat):Int)<((s.length:Nat):Int) by omega)];rfl)
  hN
 rw [show ((0:Nat):Int)=0 from rfl] at this
 rw [this]
 rw [Cx]
theorem sc (n:Nat) (g l:Bool) (dg:List UInt8) (x q:Int) (m d:List UInt8) (k0 k1 k2:Int) (hm:m.length<=1000) (hd:dg.length<=1000) (h:d.length<=1000) (hn:4000<n):aG n g l dg x q m d k0 k1 k2=some (if exD dg m d q then 1 else 0):=by
 unfold aG
 rw [jm (by omega)]
 simp only [ob]
 rw [jm (by rw [List.length_append];omega)]
 simp only []
 rw [pO n _ _ _ _ _ _ _ _ _ _ _ (by simp only [List.length_append];omega) (by simp only [List.length_append];omega)]
 rw [nR,nR]
 unfold exD
 cases hasX dg<;>cases hasX m<;>cases hasX d<;>(try rfl)
 simp only [Bool.or_false,Bool.false_eq_true,if_false,ob,d4,Bool.not_false,Bool.true_and]
 by_cases hq:q=0
 ·subst hq;rfl
 ·have e1:(q != 0)=true:=by simp [hq]
  have e2:(q==0)=false:=beq_eq_false_iff_ne.2 hq
  rw [e1,e2];rfl
theorem DV (n:Nat) (hn:100<n) {y:Int} (h:bY y) {m k:Nat} (h1:1<=m) (h2:m<=12) (k1:1<=k) (k2:(k:Int)<=lenI y (m:Int)):lw n y (m:Int) (k:Int)=some (dayM y m+(k:Int) - 1,0):=by
 have hr:=jN h (m:=m) (by omega)
 have hl:=fa y (m:Int)
 unfold lw kH
 rw [zy n h h1 h2]
 simp only [ob,bne_self_eq_false,cond_false]
 rw [decide_eq_false (show ¬(k:Int)<1 by omega),decide_eq_false (show ¬(k:Int)>lenI y (m:Int) by omega),me n hn h h1 h2]
 simp only [ob,bne_self_eq_false,cond_false]
 rw [wrap_i64 (dayM y m+(k:Int)) (by omega) (by omega),wrap_i64 _ (by omega) (by omega)]
section
variable {g l:Bool} {dg:List UInt8} {x:Int} {m d:List UInt8} {k0 k1 k2:Int}
theorem ul (n:Nat) (hn:100<n) (hml:m.length<=18) (E:Exact g l dg x m d) (v1 v2:Int) (h1:m≠[]->v1=if 0<sea m then sea m else (twoV m:Int)) (h2:d≠[]->v2=(twoV d:Int)):
  (ob (eP n) λy4625=>(ob (aF n g l dg x 0 m d k0 k1 k2) λr4626=>(cond (r4626==0) (ob (dx n (yOf g dg x) ([v1,v2]:List (Int))) λy4633=>(some (y4633.1,y4633.2.1,y4633.2.2.1,y4633.2.2.2,(0:Int)))) (cond (r4626==1) (ob (dA n (yOf g dg x) ([v1,v2]:List (Int))) λy4644=>(some (y4644.1,y4644.2.1,y4644.2.2.1,y4644.2.2.2,0))) (cond (r4626==2) (ob (du n (yOf g dg x) ([v1,v2]:List (Int))) λy4659=>(some (y4659.1,y4659.2.1,y4659.2.2.1,y4659.2.2.2,0))) (cond (r4626==3) (ob (dm n (yOf g dg x) ([v1,v2]:List (Int))) λy4675=>(some (y4675.1,y4675.2.1,y4675.2.2.1,y4675.2.2.2,0))) none)))))) =
   some (0,(jf g dg x m d).1,0,(jf g dg x m d).2,0):=by
 have hu:eP n=some ():=rfl
 have i0:ix ([v1,v2]:List Int).length 0=some 0:=rfl
 have i1:ix ([v1,v2]:List Int).length 1=some 1:=rfl
 have g0:([v1,v2]:List Int)[0]?=some v1:=rfl
 have g1:([v1,v2]:List Int)[1]?=some v2:=rfl
 rw [hu,yF n g l dg x 0 m d k0 k1 k2 hml]
 unfold jf
 by_cases hd:d=[]
 ·rw [if_pos hd]
  by_cases hm:m=[]
  ·have hs:sea m=0:=by rw [hm];decide
   rw [if_neg (show ¬0<sea m by omega),if_pos hm,if_pos hm]
   unfold dA
   rw [lK n E.cal,tf n E.cal]
   rfl
  ·rw [if_neg hm]
   by_cases hs:0<sea m
   ·rw [if_pos hs,if_pos hs]
    rcases E.mon with h | ⟨j,hj,e,hw⟩ | ⟨h,_⟩
    ·exact absurd h hm
    ·obtain ⟨f,c,e1,a1,a2,a3,a4,a5,a6,a7⟩:=ut hj
     have hv:v1=((21+j:Nat):Int):=by rw [h1 hm,if_pos hs,e,gc hj]
     unfold dx
     rw [i0]
     simp only [ob,g0]
     rw [hv,wW n hn E.cal hj e1 a1 a2 a3 a4 (λh=>hw (a5.1 h)),e,a6,a7]
     rfl
    ·omega
   ·rw [if_neg hs,if_neg hs,if_neg hm,if_pos hd]
    rcases E.mon with h | ⟨j,hj,e,hw⟩ | ⟨_,a1,a2,_⟩
    ·exact absurd h hm
    ·rw [e,gc hj] at hs;omega
    ·have hv:v1=(twoV m:Int):=by rw [h1 hm,if_neg hs]
     unfold du
     rw [i0]
     simp only [ob,g0]
     rw [hv,me n hn E.cal a1 a2,uf n hn E.cal a1 a2]
     rfl
 ·rw [if_neg hd]
  rcases E.day with h | ⟨hm,hs,b1,b2,b3,b4⟩
  ·exact absurd h hd
  ·rw [if_neg hm,if_neg (show ¬0<sea m by omega),if_neg hd]
   rcases E.mon with h | ⟨j,hj,e,hw⟩ | ⟨_,a1,a2,_⟩
   ·exact absurd h hm
   ·rw [e,gc hj] at hs;omega
   ·have hv1:v1=(twoV m:Int):=by rw [h1 hm,if_neg (by omega)]
    have hv2:=h2 hd
    unfold dm
    rw [i0,i1]
    simp only [ob,g0,g1]
    rw [hv1,hv2,DV n hn E.cal a1 a2 b1 b4]
    rfl
theorem AF (E:Exact g l dg x m d) (hm:m≠[]):Lib.atoi m=some (if 0<sea m then sea m else (twoV m:Int)):=by
 rcases E.mon with h | ⟨j,hj,e,_⟩ | ⟨h0,a1,a2,a3⟩
 ·exact absurd h hm
 ·rw [e,gc hj,if_pos (by omega)]
  exact om hj
 ·rw [if_neg (by omega)]
  have:=vU (k:=twoV m) (by omega)
  rw [<-a3] at this
  exact this
theorem Bl (E:Exact g l dg x m d) (hd:d≠[]):Lib.atoi d=some (twoV d:Int):=by
 rcases E.day with h | ⟨_,_,a1,a2,a3,_⟩
 ·exact absurd h hd
 ·have:=vU (k:=twoV d) (by omega)
  rw [<-a3] at this
  exact this
theorem qK:Lib.atoi []=none:=by kernel_rfl
theorem us {q:Int} (hml:m.length<=18) (hdl:dg.length<=100) (hd:d.length<=18) (h0:0<=k0) (h1:0<=k1) (h2:0<=k2):
  dt 20000000 g l dg x q m d k0 k1 k2=some (if chkF g l dg x q m d k0 k1 k2=0 then (if exD dg m d q=true then (0,(jf g dg x m d).1,0,(jf g dg x m d).2,0) else (0,0,0,0,1)) else (0,0,0,0,chkF g l dg x q m d k0 k1 k2)):=by
 have lm:Nat.ble m.length 18=true:=Nat.ble_eq_true_of_le hml
 have ld:Nat.ble d.length 18=true:=Nat.ble_eq_true_of_le hd
 unfold dt
 rw [rU hml hdl h0 h1 h2]
 simp only [ob]
 by_cases hc:chkF g l dg x q m d k0 k1 k2=0
 ·rw [if_pos hc,hc,vS 20000000 g l dg x q m d k0 k1 k2 (by omega) (by omega) (by omega)]
  simp only [ob,bne_self_eq_false,cond_false]
  by_cases he:exD dg m d q=true
  ·rw [if_pos he,he]
   obtain ⟨rfl,E⟩:=n6 hc he
   have hv:cn 20000000 g l dg x 0=some (yOf g dg x,0):=by
    rw [rL 20000000 g l dg x 0 (by omega) hdl,if_pos ⟨E.ok,E.num⟩]
    rfl
   rw [hv,lm,ld]
   simp only [Bool.not_true,cond_false,cond_true,ob]
   by_cases hm:m=[]
   ·have hd0:d=[]:=by
     rcases E.day with h | ⟨h,_⟩
     ·exact h
     ·exact absurd hm h
    have:=ul (k0:=k0) (k1:=k1) (k2:=k2) 20000000 (by omega) hml E 0 0 (λh=>absurd hm h) (λh=>absurd hd0 h)
    have ea:Lib.atoi m=none:=by rw [hm];exact qK
    have eb:Lib.atoi d=none:=by rw [hd0];exact qK
    rw [ea,eb]
    simp only [opt]
    exact this
   ·have ea:=AF E hm
    by_cases hd0:d=[]
    ·have:=ul (k0:=k0) (k1:=k1) (k2:=k2) 20000000 (by omega) hml E (if 0<sea m then sea m else (twoV m:Int)) 0 (λ_=>rfl) (λh=>absurd hd0 h)
     have eb:Lib.atoi d=none:=by rw [hd0];exact qK
     rw [ea,eb]
     simp only [opt]
     exact this
    ·have:=ul (k0:=k0) (k1:=k1) (k2:=k2) 20000000 (by omega) hml E (if 0<sea m then sea m else (twoV m:Int)) (twoV d:Int) (λ_=>rfl) (λ_=>rfl)
     rw [ea,Bl E hd0]
     simp only [opt]
     exact this
  ·rw [if_neg he]
   rw [Bool.not_eq_true] at he
   rw [he];rfl
 ·rw [if_neg hc,bne0 hc];rfl
theorem m8 (E:Exact g l dg x m d) (hdl:dg.length<=100):aB 20000000 g l dg x 0 m d k0 k1 k2=some (jf g dg x m d):=by
 obtain ⟨k,q,rfl,hq,hN⟩:=lO E.ok E.num
 have hk:k<=17:=by have:=hN.wide;omega
 have hs:=hN.small
 have hmag:ad 20000000 dg (k:Int)=some (((val dg k:Nat):Int),1):=by
  rw [eZ 20000000 dg k hN.dig hdl (by omega) (by omega),if_pos hN.small]
  rfl
 have hv:dval 0 dg*10 ^ k=val dg k:=rfl
 rw [hv] at hs
 unfold E16 at hs
 have hy:yOf g dg (k:Int)=if g then -((val dg k:Nat):Int) else ((val dg k:Nat):Int):=by unfold yOf;rw [Int.toNat_natCast]
 have hcal:=E.cal
 unfold bY at hcal
 have key:∀y:Int,y=yOf g dg (k:Int)->
   (ob (au 20000000 g l dg (k:Int) 0 m d k0 k1 k2) λr5010=>(cond (m==([]:List UInt8)) (ob (aX 20000000 y) λr5011=>(ob (aX 20000000 (IntKind.wrap .i64 (y+1))) λr5012=>(some (r5011,(IntKind.wrap .i64 (r5012 - 1)))))) (cond (decide (r5010>0)) (ob (dN 20000000 r5010) λr5013=>(ob (ax 20000000 y r5013.1) λr5014=>(ob (ax 20000000 y (IntKind.wrap .i64 (r5013.1+r5013.2))) λr5015=>(some (r5014,(IntKind.wrap .i64 (r5015 - 1))))))) (cond (d==([]:List UInt8)) (ob (aC 20000000 m) λr5016=>(ob (ax 20000000 y r5016) λr5017=>(ob (aC 20000000 m) λr5018=>(ob (ax 20000000 y (IntKind.wrap .i64 (r5018+1))) λr5019=>(some (r5017,(IntKind.wrap .i64 (r5019 - 1)))))))) (ob (aC 20000000 m) λr5020=>(ob (ax 20000000 y r5020) λr5021=>(ob (aC 20000000 d) λr5022=>(some ((IntKind.wrap .i64 ((IntKind.wrap .i64 (r5021+r5022)) - 1)),(IntKind.wrap .i64 ((IntKind.wrap .i64 (r5021+r5022)) - 1)))))))))) )=some (jf g dg (k:Int) m d):=by
  intro y hyy
  subst hyy
  have hcal':=E.cal
  have rY:=fK (y:=yOf g dg (k:Int)+1) (by omega)
  rw [gz 20000000 (by omega)]
  simp only [ob]
  unfold jf
  by_cases hm:m=[]
  ·have e:(m==([]:List UInt8))=true:=by rw [hm];rfl
   rw [if_pos hm,e,lA 20000000 (by omega) (by omega),wrap_i64 (yOf g dg (k:Int)+1) (by omega) (by omega),lA 20000000 (by omega) (by omega)]
   simp only [cond_true,ob]
   rw [wrap_i64 _ (by omega) (by omega)]
  ·rw [if_neg hm,cY hm]
   simp only [cond_false]
   by_cases hs:0<sea m
   ·rw [if_pos hs,decide_eq_true (show sea m>0 from hs)]
    rcases E.mon with h | ⟨j,hj,e,_⟩ | ⟨h,_⟩
    ·exact absurd h hm
    ·obtain ⟨f,c,e1,a1,a2,a3,a4,a5,a6,a7⟩:=ut hj
     have hsm:sea m=((21+j:Nat):Int):=by rw [e,gc hj]
     have rM:=jN hcal' (m:=f+c) (by omega)
     rw [hsm,sJ 20000000 hj,e1]
     simp only [cond_true,ob]
     rw [kX 20000000 (by omega) (by omega) a1 (by omega)]
     simp only [ob]
     rw [wrap_i64 ((f:Int)+(c:Int)) (by omega) (by omega),show (f:Int)+(c:Int)=((f+c:Nat):Int) by omega,kX 20000000 (by omega) (by omega) (by omega) (by omega)]
     simp only [ob]
     rw [wrap_i64 _ (by omega) (by omega),e,a6,a7]
    ·omega
   ·rw [if_neg hs,decide_eq_false (show ¬sea m>0 from hs)]
    simp only [cond_false]
    rcases E.mon with h | ⟨j,hj,e,_⟩ | ⟨_,a1,a2,a3⟩
    ·exact absurd h hm
    ·rw [e,gc hj] at hs;omega
    ·have hn:=pV 20000000 (k:=twoV m) (by omega)
     rw [<-a3] at hn
     have rM:=jN hcal' (m:=twoV m) (by omega)
     have rM2:=jN hcal' (m:=twoV m+1) (by omega)
     by_cases hd:d=[]
     ·have e:(d==([]:List UInt8))=true:=by rw [hd];rfl
      rw [if_pos hd,e,hn]
      simp only [cond_true,ob]
      rw [kX 20000000 (by omega) (by omega) a1 (by omega)]
      simp only [ob]
      rw [wrap_i64 ((twoV m:Int)+1) (by omega) (by omega),show (twoV m:Int)+1=((twoV m+1:Nat):Int) by omega,kX 20000000 (by omega) (by omega) (by omega) (by omega)]
      simp only [ob]
      rw [wrap_i64 _ (by omega) (by omega)]
     ·rw [if_neg hd,cY hd]
      rcases E.day with h | ⟨_,_,b1,b2,b3,b4⟩
      ·exact absurd h hd
      ·have hn2:=pV 20000000 (k:=twoV d) (by omega)
       rw [<-b3] at hn2
       rw [hn]
       simp only [cond_false,ob]
       rw [kX 20000000 (by omega) (by omega) a1 (by omega),hn2]
       simp only [ob]
       rw [wrap_i64 (dayM (yOf g dg (k:Int)) (twoV m)+(twoV d:Int)) (by omega) (by omega),wrap_i64 _ (by omega) (by omega)]
 unfold aB
 rw [hmag]
 simp only [ob]
 cases g with
 | true=>
  have w:IntKind.wrap .i64 (0 - ((val dg k:Nat):Int))=yOf true dg (k:Int):=by
   rw [wrap_i64 _ (by omega) (by omega),hy]
   simp
  rw [w]
  simp only [cond_true]
  exact key _ rfl
 | false=>
  have w:((val dg k:Nat):Int)=yOf false dg (k:Int):=by rw [hy];rfl
  rw [w]
  simp only [cond_false]
  exact key _ rfl
end
theorem Gy {g l:Bool} {d:List UInt8} {x s:Int} (h:okY g l d x s):okY g l d x 0:=by
 unfold okY at h ⊢
 cases l with
 | true=>
  rw [if_pos rfl] at h ⊢
  unfold okL at h ⊢
  refine ⟨h.1,Int.le_refl _,?_⟩
  omega
 | false=>
  rw [if_neg (by simp)] at h ⊢
  unfold okS at h ⊢
  obtain ⟨h1,h2,h3,h4,h5,h6,h7⟩:=h
  exact ⟨h1,h2,h3,h4,Int.le_refl _,by omega,λh=>absurd h.1 (by omega)⟩
theorem xW (m a0 a2 a3 a4 a5 a6 a7 a8 a9:Nat) (g:Bool) (h2:a2<65536) (h3:a3<256) (h4:a4<256) (h5:a5<256) (h6:a6<256):
  ∃g' l dg x q mo d,aq (m+300) (a0:Int) g (a2:Int) (a3:Int) (a4:Int) (a5:Int) (a6:Int) (a7:Int) (a8:Int) (a9:Int)=some (g',l,dg,x,q,mo,d,((mksT (cj mo d) a7 a8 a9).1:Int),((mksT (cj mo d) a7 a8 a9).2.1:Int),((mksT (cj mo d) a7 a8 a9).2.2:Int))/\
   okY g' l dg x q/\kJ g' dg x=false/\(a0%6≠3->hasX dg=false)/\dg.length<=5/\(q≠0->mo=[]/\d=[])/\(q=0->mo=monT (a5%40))/\
   (d=[]\/(mo∈((List.range 12).map λi=>two (i+1))++[[48,88],[49,88],[88,50],[88,88],[88,48],[88,57]]/\mo≠[]/\sea mo=0/\d=dayT (a6%40) mo)):=by
 obtain ⟨g',l,dg,x,q,e,hY,hd5,hx11,hnX⟩:=zU m a0 a2 a3 a4 g h2 h3 h4
 have hL:=wB hY hd5 hx11
 have t7:Int.tmod (a7:Int) 4=((a7%4:Nat):Int):=rfl
 have t8:Int.tmod (a8:Int) 4=((a8%4:Nat):Int):=rfl
 have t9:Int.tmod (a9:Int) 4=((a9%4:Nat):Int):=rfl
 obtain ⟨s1,s2,s3,s4,s5,s6⟩:=iH hY
 have tail:∀(mo d:List UInt8) (o:Option (Bool×Bool×List UInt8×Int×Int×List UInt8×List UInt8×Int×Int×Int)),
   (ob (ab (m+300) g' l dg x q mo d 0 0 0) λr=>(cond (decide ((0:Int)<r)) (ob (ab (m+300) g' l dg x q mo d (Int.tmod (a7:Int) 4) 0 0) λr=>(cond (decide ((1:Int)<r)) (ob (ab (m+300) g' l dg x q mo d (Int.tmod (a7:Int) 4) (Int.tmod (a8:Int) 4) 0) λr=>(cond (decide ((2:Int)<r)) (ob (ab (m+300) g' l dg x q mo d (Int.tmod (a7:Int) 4) (Int.tmod (a8:Int) 4) (Int.tmod (a9:Int) 4)) λr=>(cond (decide ((3:Int)<r)) none (some (g',l,dg,x,q,mo,d,(Int.tmod (a7:Int) 4),(Int.tmod (a8:Int) 4),(Int.tmod (a9:Int) 4))))) (some (g',l,dg,x,q,mo,d,(Int.tmod (a7:Int) 4),(Int.tmod (a8:Int) 4),0)))) (some (g',l,dg,x,q,mo,d,(Int.tmod (a7:Int) 4),0,0)))) (some (g',l,dg,x,q,mo,d,0,0,0))))=some (g',l,dg,x,q,mo,d,((mksT (cj mo d) a7 a8 a9).1:Int),((mksT (cj mo d) a7 a8 a9).2.1:Int),((mksT (cj mo d) a7 a8 a9).2.2:Int)):=by
  intro mo d _
  have hc:=kO mo d
  have:cj mo d=1\/cj mo d=2\/cj mo d=3:=by omega
  rw [bP,bP,bP,bP]
  rcases this with h | h | h<;>rw [h]<;>rfl
 unfold aq
 rw [e]
 simp only [ob,d4]
 rw [ff]
 by_cases hq:q=0
 ·rw [if_pos hq]
  rw [qp m _ _ _ _ _ a5 _ _ _ _ h5]
  have hml:=tu (show a5%40<40 by omega)
  show ∃g'_1 l_1 dg_1 x_1 q_1 mo_1 d,cond (!(monT (a5%40)==[])) _ _=_/\_
  by_cases hm0:monT (a5%40)=[]
  ·refine ⟨g',l,dg,x,q,[],[],?_,hY,hL,hnX,hd5,λh=>absurd hq h,λ_=>hm0.symm,.inl rfl⟩
   rw [hm0]
   exact tail [] [] none
  ·rw [beq_eq_false_iff_ne.2 hm0]
   show ∃g'_1 l_1 dg_1 x_1 q_1 mo_1 d,ob (au (m+300) g' l dg x q (monT (a5%40)) [] 0 0 0) _=_/\_
   rw [gz (m+300) (by omega)]
   show ∃g'_1 l_1 dg_1 x_1 q_1 mo_1 d,cond (sea (monT (a5%40))==0) _ _=_/\_
   rw [ff]
   by_cases hs:sea (monT (a5%40))=0
   ·rw [if_pos hs]
    have hin:=hml hs hm0
    rw [uM m _ _ _ _ _ _ a6 _ _ _ (monT (a5%40)) hin h6]
    exact ⟨g',l,dg,x,q,monT (a5%40),dayT (a6%40) (monT (a5%40)),tail _ _ none,hY,hL,hnX,hd5,λh=>absurd hq h,λ_=>rfl,.inr ⟨hin,hm0,hs,rfl⟩⟩
   ·rw [if_neg hs]
    exact ⟨g',l,dg,x,q,monT (a5%40),[],tail _ [] none,hY,hL,hnX,hd5,λh=>absurd hq h,λ_=>rfl,.inl rfl⟩
 ·rw [if_neg hq]
  exact ⟨g',l,dg,x,q,[],[],tail [] [] none,hY,hL,hnX,hd5,λ_=>⟨rfl,rfl⟩,λh=>absurd h hq,.inl rfl⟩
theorem wQ:((List.range 34).all λj=>!hasX (monT j))=true:=by decide +kernel
theorem wL:(((List.range 12).map λi=>two (i+1)).all λmo=>(List.range 32).all λj=>!hasX (dayT j mo))=true:=by decide +kernel
theorem DI:((((List.range 12).map λi=>two (i+1))++[[48,88],[49,88],[88,50],[88,88],[88,48],[88,57]]).all λmo=>hasX mo||decide (mo∈(List.range 12).map λi=>two (i+1)))=true:=by decide +kernel
theorem DA (m a0 a2 a3 a4 a5 a6 a7 a8 a9:Nat) (g:Bool) (h2:a2<65536) (h3:a3<256) (h4:a4<256) (h5:a5<256) (h6:a6<256) (hf:a0%6≠3) (hm:a5%40<=33) (hd:a6%40<=31):
  ∃g' l dg x q mo d k0 k1 k2,aq (m+300) (a0:Int) g (a2:Int) (a3:Int) (a4:Int) (a5:Int) (a6:Int) (a7:Int) (a8:Int) (a9:Int)=some (g',l,dg,x,q,mo,d,((k0:Nat):Int),((k1:Nat):Int),((k2:Nat):Int))/\
   0<=q/\chkF g' l dg x 0 mo d (k0:Int) (k1:Int) (k2:Int)=0/\exD dg mo d 0=true/\mo.length<=18/\d.length<=18/\dg.length<=100:=by
 obtain ⟨g',l,dg,x,q,mo,d,e,hY,hL,hnX,hd5,hq1,hq0,hday⟩:=xW m a0 a2 a3 a4 a5 a6 a7 a8 a9 g h2 h3 h4 h5 h6
 have hX:=hnX hf
 have hmoX:hasX mo=false:=by
  by_cases h:q=0
  ·rw [hq0 h]
   have:=(List.all_eq_true.1 wQ) (a5%40) (List.mem_range.2 (by omega))
   simpa using this
  ·rw [(hq1 h).1];rfl
 have hmo3:mo=[]\/0<sea mo\/(sea mo=0/\ck mo 12=true):=by
  by_cases h:q=0
  ·rw [hq0 h];exact yL (by omega)
  ·exact .inl (hq1 h).1
 have hdd:d=[]\/(mo≠[]/\sea mo=0/\ck d 31=true/\fitD mo d=true/\hasX d=false):=by
  rcases hday with h | ⟨hin,hm0,hs,hde⟩
  ·exact .inl h
  ·have a1:=zE (show a6%40<40 by omega) hin
   have a2:=wo (show a6%40<40 by omega) hin
   rw [<-hde] at a1 a2
   by_cases h0:d=[]
   ·exact .inl h0
   ·right
    refine ⟨hm0,hs,a1.resolve_left h0,a2.resolve_left h0,?_⟩
    have b1:=(List.all_eq_true.1 DI) mo hin
    rw [hmoX,Bool.false_or,decide_eq_true_eq] at b1
    have b2:=(List.all_eq_true.1 ((List.all_eq_true.1 wL) mo b1)) (a6%40) (List.mem_range.2 (by omega))
    rw [hde]
    simpa using b2
 have hc:chkD g' l dg x 0 mo d ((mksT (cj mo d) a7 a8 a9).1:Int) ((mksT (cj mo d) a7 a8 a9).2.1:Int) ((mksT (cj mo d) a7 a8 a9).2.2:Int)=0:=
  tn (Gy hY) hL (λh=>absurd h (by omega)) hmo3 (by
   rcases hdd with h | ⟨h1,h2,h3,_⟩
   ·exact .inl h
   ·exact .inr ⟨h1,h2,h3⟩) (oR _ _ _ _)
 refine ⟨g',l,dg,x,q,mo,d,_,_,_,e,An hY,vI hc ?_,?_,?_,?_,by omega⟩
 ·rcases hdd with h | ⟨_,_,_,h,_⟩
  ·exact .inl h
  ·exact .inr h
 ·unfold exD
  have:hasX d=false:=by
   rcases hdd with h | ⟨_,_,_,_,h⟩
   ·rw [h];rfl
   ·exact h
  rw [hX,hmoX,this];rfl
 ·rcases hmo3 with h | h | ⟨_,h⟩
  ·rw [h];simp
  ·have:=(tZ h).1;omega
  ·have:=(iJ (by omega) h).1;omega
 ·rcases hdd with h | ⟨_,_,h,_⟩
  ·rw [h];simp
  ·have:=(iJ (by omega) h).1;omega
theorem uO (m a0 a2 a3 a4 a5 a6 a7 a8 a9:Nat) (g:Bool) (h0:a0<256) (h2:a2<65536) (h3:a3<256) (h4:a4<256) (h5:a5<256) (h6:a6<256):
  ∃g' l dg x mo d k0 k1 k2,aJ (m+300) (a0:Int) g (a2:Int) (a3:Int) (a4:Int) (a5:Int) (a6:Int) (a7:Int) (a8:Int) (a9:Int)=some (g',l,dg,x,0,mo,d,((k0:Nat):Int),((k1:Nat):Int),((k2:Nat):Int))/\
   chkF g' l dg x 0 mo d (k0:Int) (k1:Int) (k2:Int)=0/\exD dg mo d 0=true/\mo.length<=18/\d.length<=18/\dg.length<=100:=by
 have t5:Int.tmod (a5:Int) 40=((a5%40:Nat):Int):=rfl
 have t6:Int.tmod (a6:Int) 40=((a6%40:Nat):Int):=rfl
 have t0:Int.tmod (a0:Int) 6=((a0%6:Nat):Int):=rfl
 have td:Int.tdiv ((a6%40:Nat):Int) 2=((a6%40 / 2:Nat):Int):=rfl
 have fin:∀(b0 b5 b6:Nat),b5<256->b6<256->b0%6≠3->b5%40<=33->b6%40<=31->
   ∃g' l dg x mo d k0 k1 k2,(ob (aq (m+300) (b0:Int) g (a2:Int) (a3:Int) (a4:Int) (b5:Int) (b6:Int) (a7:Int) (a8:Int) (a9:Int)) λr4606=>(cond (decide ((d4 r4606).1>0)) (some (r4606.1,r4606.2.1,r4606.2.2.1,r4606.2.2.2.1,(0:Int),(d4 r4606).2.1,(d4 r4606).2.2.1,(d4 r4606).2.2.2.1,(d8 r4606).1,(d8 r4606).2)) (some (r4606.1,r4606.2.1,r4606.2.2.1,r4606.2.2.2.1,(d4 r4606).1,(d4 r4606).2.1,(d4 r4606).2.2.1,(d4 r4606).2.2.2.1,(d8 r4606).1,(d8 r4606).2))))=some (g',l,dg,x,0,mo,d,((k0:Nat):Int),((k1:Nat):Int),((k2:Nat):Int))/\
   chkF g' l dg x 0 mo d (k0:Int) (k1:Int) (k2:Int)=0/\exD dg mo d 0=true/\mo.length<=18/\d.length<=18/\dg.length<=100:=by
  intro b0 b5 b6 c5 c6 c0 cm cd
  obtain ⟨g',l,dg,x,q,mo,d,k0,k1,k2,e,hq,r1,r2,r3,r4,r5⟩:=DA m b0 a2 a3 a4 b5 b6 a7 a8 a9 g h2 h3 h4 c5 c6 c0 cm cd
  refine ⟨g',l,dg,x,mo,d,k0,k1,k2,?_,r1,r2,r3,r4,r5⟩
  rw [e]
  simp only [ob,d4,d8]
  by_cases h:q>0
  ·rw [decide_eq_true h];rfl
  ·obtain rfl:q=0:=by omega
   rw [decide_eq_false h];rfl
 have w5:33<a5%40->IntKind.wrap .u8 (((a5%40:Nat):Int) - 33)=((a5%40 - 33:Nat):Int):=λh=>by rw [dr _ (by omega) (by omega)];omega
 have w6:IntKind.wrap .u8 ((a6%40 / 2:Nat):Int)=((a6%40 / 2:Nat):Int):=dr _ (by omega) (by omega)
 unfold aJ
 rw [t0,t5,t6,td,w6]
 have four:∀b0:Nat,b0%6≠3->∀K:Nat->Nat->Option (Bool×Bool×List UInt8×Int×Int×List UInt8×List UInt8×Int×Int×Int),
   (∀b5 b6:Nat,b5<256->b6<256->b5%40<=33->b6%40<=31->∃g' l dg x mo d k0 k1 k2,K b5 b6=some (g',l,dg,x,0,mo,d,((k0:Nat):Int),((k1:Nat):Int),((k2:Nat):Int))/\chkF g' l dg x 0 mo d (k0:Int) (k1:Int) (k2:Int)=0/\exD dg mo d 0=true/\mo.length<=18/\d.length<=18/\dg.length<=100)->
   ∃g' l dg x mo d k0 k1 k2,(cond (decide (((a5%40:Nat):Int)>33)) (cond (decide (((a6%40:Nat):Int)>31)) (K (a5%40 - 33) (a6%40 / 2)) (K (a5%40 - 33) a6)) (cond (decide (((a6%40:Nat):Int)>31)) (K a5 (a6%40 / 2)) (K a5 a6)))=some (g',l,dg,x,0,mo,d,((k0:Nat):Int),((k1:Nat):Int),((k2:Nat):Int))/\chkF g' l dg x 0 mo d (k0:Int) (k1:Int) (k2:Int)=0/\exD dg mo d 0=true/\mo.length<=18/\d.length<=18/\dg.length<=100:=by
  intro b0 hb0 K hK
  by_cases h5':33<a5%40
  ·rw [decide_eq_true (show ((a5%40:Nat):Int)>33 by omega)]
   by_cases h6':31<a6%40
   ·rw [decide_eq_true (show ((a6%40:Nat):Int)>31 by omega)]
    exact hK _ _ (by omega) (by omega) (by omega) (by omega)
   ·rw [decide_eq_false (show ¬((a6%40:Nat):Int)>31 by omega)]
    exact hK _ _ (by omega) (by omega) (by omega) (by omega)
  ·rw [decide_eq_false (show ¬((a5%40:Nat):Int)>33 by omega)]
   by_cases h6':31<a6%40
   ·rw [decide_eq_true (show ((a6%40:Nat):Int)>31 by omega)]
    exact hK _ _ (by omega) (by omega) (by omega) (by omega)
   ·rw [decide_eq_false (show ¬((a6%40:Nat):Int)>31 by omega)]
    exact hK _ _ (by omega) (by omega) (by omega) (by omega)
 have w5':∀{A:Type} (F:Int->Int->Option A) (b6:Nat),(cond (decide (((a5%40:Nat):Int)>33)) (F (IntKind.wrap .u8 (((a5%40:Nat):Int) - 33)) (b6:Int)) (F (a5:Int) (b6:Int)))=(cond (decide (((a5%40:Nat):Int)>33)) (F ((a5%40 - 33:Nat):Int) (b6:Int)) (F (a5:Int) (b6:Int))):=by
  intro A F b6
  by_cases h:33<a5%40
  ·rw [w5 h]
  ·rw [decide_eq_false (show ¬((a5%40:Nat):Int)>33 by omega)];rfl
 have w5c:33<a5%40\/¬33<a5%40:=by omega
 by_cases c3:a0%6=3
 ·rw [show (((a0%6:Nat):Int)==3)=true by rw [c3];rfl]
  simp only [cond_true]
  rcases w5c with h | h
  ·rw [w5 h];exact four 0 (by omega) (λb5 b6=>_) (λb5 b6 c5 c6 cm cd=>fin 0 b5 b6 c5 c6 (by omega) cm cd)
  ·have hx:=four 0 (by omega) (λb5 b6=>_) (λb5 b6 c5 c6 cm cd=>fin 0 b5 b6 c5 c6 (by omega) cm cd)
   rw [decide_eq_false (show ¬((a5%40:Nat):Int)>33 by omega)] at hx ⊢
   exact hx
 ·rw [show (((a0%6:Nat):Int)==3)=false from beq_eq_false_iff_ne.2 (by omega)]
  simp only [cond_false]
  by_cases c4:a0%6=4
  ·rw [show (((a0%6:Nat):Int)==4)=true by rw [c4];rfl]
   simp only [cond_true]
   rcases w5c with h | h
   ·rw [w5 h];exact four 0 (by omega) (λb5 b6=>_) (λb5 b6 c5 c6 cm cd=>fin 0 b5 b6 c5 c6 (by omega) cm cd)
   ·have hx:=four 0 (by omega) (λb5 b6=>_) (λb5 b6 c5 c6 cm cd=>fin 0 b5 b6 c5 c6 (by omega) cm cd)
    rw [decide_eq_false (show ¬((a5%40:Nat):Int)>33 by omega)] at hx ⊢
    exact hx
  ·rw [show (((a0%6:Nat):Int)==4)=false from beq_eq_false_iff_ne.2 (by omega)]
   simp only [cond_false]
   rcases w5c with h | h
   ·rw [w5 h];exact four a0 c3 (λb5 b6=>_) (λb5 b6 c5 c6 cm cd=>fin a0 b5 b6 c5 c6 c3 cm cd)
   ·have hx:=four a0 c3 (λb5 b6=>_) (λb5 b6 c5 c6 cm cd=>fin a0 b5 b6 c5 c6 c3 cm cd)
    rw [decide_eq_false (show ¬((a5%40:Nat):Int)>33 by omega)] at hx ⊢
    exact hx
theorem ze {dg m d:List UInt8} (h:exD dg m d 0=true):exD dg m [] 0=true/\exD dg [] [] 0=true:=by
 unfold exD at h ⊢
 simp only [Bool.and_eq_true,Bool.not_eq_true',Bool.or_eq_false_iff] at h
 obtain ⟨⟨h1,h2,h3⟩,_⟩:=h
 rw [h1,h2]
 exact ⟨rfl,rfl⟩
def uA (g l:Bool) (dg:List UInt8) (x q:Int) (m d:List UInt8) (k0 k1 k2:Int):Bool:=
 (((g==false)&&((l==false)&&((dg==([]:List UInt8))&&((x==0)&&((q==0)&&true)))))&&((m==([]:List UInt8))&&((d==([]:List UInt8))&&(((k0==0)&&((k1==0)&&((k2==0)&&true)))&&true))))
noncomputable def chkB (K:Int) (g l:Bool) (dg:List UInt8) (x q:Int) (m d:List UInt8) (k0 k1 k2:Int):Int:=
 if K=1 then (if chkF g l dg x q m d k0 k1 k2=0 then (if exD dg m d q=true then 0 else 11) else chkF g l dg x q m d k0 k1 k2) else if K=2\/K=3 then (if uA g l dg x q m d k0 k1 k2=true then 0 else 5) else 18
def xn (e1 e2 K1 K2 lo hi:Int):Int:=if e1≠0 then e1 else if e2≠0 then e2 else if K1≠1/\K2≠1 then 11 else if K1≠1\/K2≠1 then 0 else if lo>hi then 11 else 0
section
variable {K:Int} {g l:Bool} {dg:List UInt8} {x q:Int} {m d:List UInt8} {k0 k1 k2:Int} (hml:m.length<=18) (hdl:dg.length<=100) (hd18:d.length<=18) (h0:0<=k0) (h1:0<=k1) (h2:0<=k2)
include hml hdl hd18 h0 h1 h2
theorem vN:ib 20000000 K g l dg x q m d k0 k1 k2=some (chkB K g l dg x q m d k0 k1 k2):=by
 unfold ib chkB
 rw [rU hml hdl h0 h1 h2,vS 20000000 g l dg x q m d k0 k1 k2 (by omega) (by omega) (by omega)]
 simp only [ob]
 by_cases k1':K=1
 ·subst k1'
  rw [if_pos rfl]
  simp only [BEq.rfl,cond_true]
  by_cases hc:chkF g l dg x q m d k0 k1 k2=0
  ·rw [if_pos hc,hc]
   by_cases he:exD dg m d q=true
   ·rw [if_pos he,he];rfl
   ·rw [if_neg he]
    rw [Bool.not_eq_true] at he
    rw [he];rfl
  ·rw [if_neg hc,bne0 hc];rfl
 ·rw [if_neg k1',beq_eq_false_iff_ne.2 k1']
  simp only [cond_false]
  have hn:(!(((g==false)&&((l==false)&&((dg==([]:List UInt8))&&((x==0)&&((q==0)&&true)))))&&((m==([]:List UInt8))&&((d==([]:List UInt8))&&(((k0==0)&&((k1==0)&&((k2==0)&&true)))&&true)))))=!(uA g l dg x q m d k0 k1 k2):=rfl
  rw [hn]
  by_cases k2':K=2
  ·subst k2'
   rw [if_pos (.inl rfl)]
   cases uA g l dg x q m d k0 k1 k2<;>rfl
  ·rw [beq_eq_false_iff_ne.2 k2']
   by_cases k3':K=3
   ·subst k3'
    rw [if_pos (.inr rfl)]
    cases uA g l dg x q m d k0 k1 k2<;>rfl
   ·rw [beq_eq_false_iff_ne.2 k3',if_neg (by omega)];rfl
theorem pd:cC 20000000 K g l dg x q m d k0 k1 k2=some (chkB K g l dg x q m d k0 k1 k2):=by
 unfold cC chkB
 rw [pb hdl h0 h1 h2,sc 20000000 g l dg x q m d k0 k1 k2 (by omega) (by omega) (by omega) (by omega)]
 simp only [ob]
 by_cases k1':K=1
 ·subst k1'
  rw [if_pos rfl]
  simp only [BEq.rfl,cond_true]
  by_cases hc:chkF g l dg x q m d k0 k1 k2=0
  ·rw [if_pos hc,hc]
   by_cases he:exD dg m d q=true
   ·rw [if_pos he,if_pos he];rfl
   ·rw [if_neg he,if_neg he];rfl
  ·rw [if_neg hc,beq_eq_false_iff_ne.2 hc];rfl
 ·rw [if_neg k1',beq_eq_false_iff_ne.2 k1']
  simp only [cond_false]
  have hn:(!(((g==false)&&((l==false)&&((dg==([]:List UInt8))&&((x==0)&&((q==0)&&true)))))&&((m==([]:List UInt8))&&((d==([]:List UInt8))&&(((k0==0)&&((k1==0)&&((k2==0)&&true)))&&true)))))=!(uA g l dg x q m d k0 k1 k2):=rfl
  rw [hn]
  by_cases k2':K=2
  ·subst k2'
   rw [if_pos (.inl rfl)]
   cases uA g l dg x q m d k0 k1 k2<;>rfl
  ·rw [beq_eq_false_iff_ne.2 k2']
   by_cases k3':K=3
   ·subst k3'
    rw [if_pos (.inr rfl)]
    cases uA g l dg x q m d k0 k1 k2<;>rfl
   ·rw [beq_eq_false_iff_ne.2 k3',if_neg (by omega)];rfl
theorem nW (hc:chkB K g l dg x q m d k0 k1 k2=0) (hk:K=1):chkF g l dg x q m d k0 k1 k2=0/\exD dg m d q=true:=by
 have _u:=And.intro hml (And.intro hdl (And.intro hd18 (And.intro h0 (And.intro h1 h2))))
 unfold chkB at hc
 rw [if_pos hk] at hc
 by_cases h:chkF g l dg x q m d k0 k1 k2=0
 ·rw [if_pos h] at hc
  by_cases he:exD dg m d q=true
  ·exact ⟨h,he⟩
  ·rw [if_neg he] at hc;cases hc
 ·rw [if_neg h] at hc;exact absurd hc h
end
theorem F8 (n:Nat) (a b:Int):eX n a b=some (if a<b then -1 else if a>b then 1 else 0):=by
 unfold eX gh
 simp only [ob,bne_self_eq_false,cond_false]
 by_cases h:a<b
 ·rw [decide_eq_true h,if_pos h];rfl
 ·rw [decide_eq_false h,if_neg h]
  by_cases h2:a>b
  ·rw [decide_eq_true h2,if_pos h2];rfl
  ·rw [decide_eq_false h2,if_neg h2];rfl
theorem uU (a b:Int):∃r,fO 20000000 0 a 0 b=some r/\decide (r>0)=decide (a>b):=by
 have e8:ie 20000000 0 0=some 0:=rfl
 have o1:jF 20000000 [0,-1]=some (-1):=by kernel_rfl
 have o2:jF 20000000 [0,1]=some 1:=by kernel_rfl
 have o3:jF 20000000 [0,0]=some 0:=by kernel_rfl
 unfold fO
 rw [e8,F8]
 simp only [ob]
 by_cases h:a<b
 ·rw [if_pos h,o1]
  exact ⟨_,rfl,by rw [decide_eq_false (show ¬a>b by omega)];rfl⟩
 ·rw [if_neg h]
  by_cases h2:a>b
  ·rw [if_pos h2,o2]
   exact ⟨_,rfl,by rw [decide_eq_true h2];rfl⟩
  ·rw [if_neg h2,o3]
   exact ⟨_,rfl,by rw [decide_eq_false h2];rfl⟩
theorem bne1 {K:Int} (h:K≠1):(K != 1)=true:=by simp [h]
section
variable {K:Int} {g l:Bool} {dg:List UInt8} {x q:Int} {m d:List UInt8} {k0 k1 k2:Int} {K':Int} {g' l':Bool} {dg':List UInt8} {x' q':Int} {m' d':List UInt8} {p0 p1 p2:Int} (hml:m.length<=18) (hdl:dg.length<=100) (hd18:d.length<=18) (h0:0<=k0) (h1:0<=k1) (h2:0<=k2) (hml':m'.length<=18) (hdl':dg'.length<=100) (hd18':d'.length<=18) (h0':0<=p0) (h1':0<=p1) (h2':0<=p2)
include hml hdl hd18 h0 h1 h2 hml' hdl' hd18' h0' h1' h2'
theorem Da:jd 20000000 K g l dg x q m d k0 k1 k2 K' g' l' dg' x' q' m' d' p0 p1 p2=some (xn (chkB K g l dg x q m d k0 k1 k2) (chkB K' g' l' dg' x' q' m' d' p0 p1 p2) K K' (jf g dg x m d).1 (jf g' dg' x' m' d').2):=by
 unfold jd xn
 rw [vN hml hdl hd18 h0 h1 h2,vN hml' hdl' hd18' h0' h1' h2']
 simp only [ob]
 by_cases c1:chkB K g l dg x q m d k0 k1 k2=0
 ·rw [if_neg (by omega),c1]
  by_cases c2:chkB K' g' l' dg' x' q' m' d' p0 p1 p2=0
  ·rw [if_neg (by omega),c2]
   simp only [bne_self_eq_false,cond_false]
   by_cases e1:K=1
   ·rw [show (K != 1)=false by rw [e1];rfl]
    simp only [cond_false]
    by_cases e2:K'=1
    ·rw [show (K' != 1)=false by rw [e2];rfl,if_neg (by omega),if_neg (by omega)]
     simp only [cond_false]
     obtain ⟨f1,g1⟩:=nW hml hdl hd18 h0 h1 h2 c1 e1
     obtain ⟨f2,g2⟩:=nW hml' hdl' hd18' h0' h1' h2' c2 e2
     rw [us hml hdl hd18 h0 h1 h2,us hml' hdl' hd18' h0' h1' h2',if_pos f1,if_pos g1,if_pos f2,if_pos g2]
     simp only [ob]
     obtain ⟨r,r1,r2⟩:=uU (jf g dg x m d).1 (jf g' dg' x' m' d').2
     rw [r1]
     simp only [r2]
     by_cases h:(jf g dg x m d).1>(jf g' dg' x' m' d').2
     ·rw [decide_eq_true h,if_pos h];rfl
     ·rw [decide_eq_false h,if_neg h];rfl
    ·rw [bne1 e2,if_neg (by omega),if_pos (by omega)];rfl
   ·rw [bne1 e1]
    by_cases e2:K'=1
    ·rw [show (K' != 1)=false by rw [e2];rfl,if_neg (by omega),if_pos (by omega)];rfl
    ·rw [bne1 e2,if_pos (by omega)];rfl
  ·rw [if_pos c2,bne0 c2];rfl
 ·rw [if_pos c1,bne0 c1];rfl
theorem Bm:cX 20000000 K g l dg x q m d k0 k1 k2 K' g' l' dg' x' q' m' d' p0 p1 p2=some (xn (chkB K g l dg x q m d k0 k1 k2) (chkB K' g' l' dg' x' q' m' d' p0 p1 p2) K K' (jf g dg x m d).1 (jf g' dg' x' m' d').2):=by
 unfold cX xn
 rw [pd hml hdl hd18 h0 h1 h2,pd hml' hdl' hd18' h0' h1' h2']
 simp only [ob]
 by_cases c1:chkB K g l dg x q m d k0 k1 k2=0
 ·rw [if_neg (by omega),c1]
  by_cases c2:chkB K' g' l' dg' x' q' m' d' p0 p1 p2=0
  ·rw [if_neg (by omega),c2]
   simp only [bne_self_eq_false,cond_false]
   by_cases e1:K=1
   ·rw [show (K != 1)=false by rw [e1];rfl,show (K==1)=true by rw [e1];rfl]
    simp only [cond_false,cond_true]
    by_cases e2:K'=1
    ·rw [show (K'==1)=true by rw [e2];rfl,if_neg (by omega),if_neg (by omega)]
     simp only [cond_true]
     obtain ⟨f1,g1⟩:=nW hml hdl hd18 h0 h1 h2 c1 e1
     obtain ⟨f2,g2⟩:=nW hml' hdl' hd18' h0' h1' h2' c2 e2
     obtain ⟨rfl,E1⟩:=n6 f1 g1
     obtain ⟨rfl,E2⟩:=n6 f2 g2
     rw [m8 E1 hdl,m8 E2 hdl']
     simp only [ob]
     by_cases h:(jf g dg x m d).1>(jf g' dg' x' m' d').2
     ·rw [decide_eq_true h,if_pos h];rfl
     ·rw [decide_eq_false h,if_neg h];rfl
    ·rw [beq_eq_false_iff_ne.2 e2,if_neg (by omega),if_pos (by omega)];rfl
   ·rw [bne1 e1,beq_eq_false_iff_ne.2 e1]
    by_cases e2:K'=1
    ·rw [show (K' != 1)=false by rw [e2];rfl,if_neg (by omega),if_pos (by omega)];rfl
    ·rw [bne1 e2,if_pos (by omega)];rfl
  ·rw [if_pos c2,bne0 c2];rfl
 ·rw [if_pos c1,bne0 c1];rfl
end
theorem sO (y:Int) {m:Nat} (h1:1<=m) (h2:m<=23):dayM y m<dayM y (m+1):=by
 by_cases h:m<=12
 ·have:=oZ y h1 h
  have:=fa y (m:Int)
  omega
 ·have e1:=mB y (m:=m - 12) (by omega) (by omega)
  have e2:=mB y (m:=m - 12+1) (by omega) (by omega)
  have e3:=oZ (y+1) (m:=m - 12) (by omega) (by omega)
  have:=fa (y+1) ((m - 12:Nat):Int)
  rw [show m - 12+12=m by omega] at e1
  rw [show m - 12+1+12=m+1 by omega] at e2
  omega
theorem zT (y:Int) {a:Nat} (h1:1<=a):∀c,1<=c->a+c<=24->dayM y a<dayM y (a+c)
 | 0,h,_=>absurd h (by omega)
 | c+1,_,h2=>by
  have hs:=sO y (m:=a+c) (by omega) (by omega)
  by_cases h:c=0
  ·subst h;exact hs
  ·have:=zT y h1 c (by omega) (by omega)
   rw [show a+(c+1)=a+c+1 by omega]
   omega
theorem DO {g l:Bool} {dg:List UInt8} {x:Int} {m d:List UInt8} (E:Exact g l dg x m d):(jf g dg x m d).1<=(jf g dg x m d).2:=by
 unfold jf
 by_cases hm:m=[]
 ·rw [if_pos hm]
  have:=pE (yOf g dg x)
  simp only []
  split at this<;>omega
 ·rw [if_neg hm]
  by_cases hs:0<sea m
  ·rw [if_pos hs]
   rcases E.mon with h | ⟨j,hj,e,_⟩ | ⟨h,_⟩
   ·exact absurd h hm
   ·obtain ⟨f,c,_,a1,a2,a3,a4,_,a6,a7⟩:=ut hj
    rw [e,a6,a7]
    have:=zT (yOf g dg x) a1 c (by omega) (by omega)
    simp only []
    omega
   ·omega
  ·rw [if_neg hs]
   rcases E.mon with h | ⟨j,hj,e,_⟩ | ⟨_,a1,a2,_⟩
   ·exact absurd h hm
   ·rw [e,gc hj] at hs;omega
   ·by_cases hd:d=[]
    ·rw [if_pos hd]
     have:=sO (yOf g dg x) a1 (by omega)
     simp only []
     omega
    ·rw [if_neg hd]
     exact Int.le_refl _
theorem B_of (m a0 a1 a3 a4 a5 a6 a7 a8 a9 a10:Nat) (g:Bool) (h1:a1<256) (h3:a3<65536) (h4:a4<256) (h5:a5<256) (h6:a6<256) (h7:a7<256):
  ∃K g' l dg x mo d k0 k1 k2,aY (m+300) (a0:Int) (a1:Int) g (a3:Int) (a4:Int) (a5:Int) (a6:Int) (a7:Int) (a8:Int) (a9:Int) (a10:Int)=some (K,g',l,dg,x,0,mo,d,((k0:Nat):Int),((k1:Nat):Int),((k2:Nat):Int))/\
   chkB K g' l dg x 0 mo d (k0:Int) (k1:Int) (k2:Int)=0/\mo.length<=18/\d.length<=18/\dg.length<=100/\(K=1\/((K=2\/K=3)/\g'=false/\l=false/\dg=[]/\x=0/\mo=[]/\d=[]/\k0=0/\k1=0/\k2=0)):=by
 have t0:Int.tmod (a0:Int) 6=((a0%6:Nat):Int):=rfl
 unfold aY
 rw [t0]
 by_cases c0:a0%6=0
 ·rw [c0]
  exact ⟨2,false,false,[],0,[],[],0,0,0,rfl,rfl,by simp,by simp,by simp,.inr ⟨.inl rfl,rfl,rfl,rfl,rfl,rfl,rfl,rfl,rfl,rfl⟩⟩
 ·rw [show (((a0%6:Nat):Int)==0)=false from beq_eq_false_iff_ne.2 (by omega)]
  by_cases c1:a0%6=1
  ·rw [c1]
   exact ⟨3,false,false,[],0,[],[],0,0,0,rfl,rfl,by simp,by simp,by simp,.inr ⟨.inr rfl,rfl,rfl,rfl,rfl,rfl,rfl,rfl,rfl,rfl⟩⟩
  ·rw [show (((a0%6:Nat):Int)==1)=false from beq_eq_false_iff_ne.2 (by omega)]
   obtain ⟨g',l,dg,x,mo,d,k0,k1,k2,e,hc,he,hml,hd18,hdl⟩:=uO m a1 a3 a4 a5 a6 a7 a8 a9 a10 g h1 h3 h4 h5 h6 h7
   refine ⟨1,g',l,dg,x,mo,d,k0,k1,k2,?_,?_,hml,hd18,hdl,.inl rfl⟩
   ·simp only [cond_false]
    rw [e];rfl
   ·unfold chkB
    rw [if_pos rfl,if_pos hc,if_pos he]
def smT (x:TD):Prop:=x.2.2.2.2.2.1.length<=18/\x.2.2.1.length<=100/\x.2.2.2.2.2.2.1.length<=18/\0<=x.2.2.2.2.2.2.2.1/\0<=x.2.2.2.2.2.2.2.2.1/\0<=x.2.2.2.2.2.2.2.2.2
noncomputable def cF (x:TD):Int:=chkF x.1 x.2.1 x.2.2.1 x.2.2.2.1 x.2.2.2.2.1 x.2.2.2.2.2.1 x.2.2.2.2.2.2.1 x.2.2.2.2.2.2.2.1 x.2.2.2.2.2.2.2.2.1 x.2.2.2.2.2.2.2.2.2
def exT (x:TD):Bool:=exD x.2.2.1 x.2.2.2.2.2.1 x.2.2.2.2.2.2.1 x.2.2.2.2.1
def dyT (x:TD):Int×Int:=jf x.1 x.2.2.1 x.2.2.2.1 x.2.2.2.2.2.1 x.2.2.2.2.2.2.1
def seT (x:TD):Int:=sea x.2.2.2.2.2.1
def coT (x:TD):Nat:=cj x.2.2.2.2.2.1 x.2.2.2.2.2.2.1
noncomputable def plT (x:TD):Bool:=decide (cF x=0)&&(exT x&&!decide (0<seT x))
theorem nA:smT d0:=by unfold smT;simp
theorem fcT {x:TD} (h:smT x):ap10 (aS 20000000) x=some (cF x):=rU h.1 h.2.1 h.2.2.2.1 h.2.2.2.2.1 h.2.2.2.2.2
theorem rcT {x:TD} (h:smT x):ap10 (aO 20000000) x=some (cF x):=pb h.2.1 h.2.2.2.1 h.2.2.2.2.1 h.2.2.2.2.2
theorem reT {x:TD} (h:smT x):ap10 (aG 20000000) x=some (if exT x then 1 else 0):=by
 obtain ⟨a,b,c,_⟩:=h
 exact sc 20000000 _ _ _ _ _ _ _ _ _ _ (by omega) (by omega) (by omega) (by omega)
theorem rsT (x:TD):ap10 (au 20000000) x=some (seT x):=gz 20000000 (by omega) _ _ _ _ _ _ _ _ _ _
theorem rcoT (x:TD):ap10 (ab 20000000) x=some ((coT x:Nat):Int):=bP 20000000 _ _ _ _ _ _ _ _ _ _
theorem fpT {x:TD} (h:smT x):ap10 (aF 20000000) x=some (if x.2.2.2.2.2.2.1=[] then (if 0<seT x then 0 else if x.2.2.2.2.2.1=[] then 1 else 2) else 3):=yF 20000000 _ _ _ _ _ _ _ _ _ _ h.1
theorem fmT {x:TD} (h:smT x):ap10 (db 20000000) x=some (hasX x.2.2.1||(hasX x.2.2.2.2.2.1||hasX x.2.2.2.2.2.2.1)):=by
 obtain ⟨a,b,c,_⟩:=h
 exact tM 20000000 _ _ _ _ _ _ _ _ _ _ (by omega) (by omega) (by omega)
theorem fdT {x:TD} (h:smT x):ap10 (dt 20000000) x=some (if cF x=0 then (if exT x=true then (0,(dyT x).1,0,(dyT x).2,0) else (0,0,0,0,1)) else (0,0,0,0,cF x)):=us h.1 h.2.1 h.2.2.1 h.2.2.2.1 h.2.2.2.2.1 h.2.2.2.2.2
theorem yA {x:TD} (hc:cF x=0) (he:exT x=true):x.2.2.2.2.1=0/\Exact x.1 x.2.1 x.2.2.1 x.2.2.2.1 x.2.2.2.2.2.1 x.2.2.2.2.2.2.1:=n6 hc he
theorem rdT {x:TD} (h:smT x) (hc:cF x=0) (he:exT x=true):ap10 (aB 20000000) x=some (dyT x):=by
 obtain ⟨h0,E⟩:=yA hc he
 have:=m8 (k0:=x.2.2.2.2.2.2.2.1) (k1:=x.2.2.2.2.2.2.2.2.1) (k2:=x.2.2.2.2.2.2.2.2.2) E h.2.1
 rw [<-h0] at this
 exact this
theorem B8 {x:TD} (hc:cF x=0) (he:exT x=true):(dyT x).1<=(dyT x).2:=DO (yA hc he).2
theorem l9 {x:TD} (hc:cF x=0):(x.2.2.2.2.2.1=[]\/x.2.2.2.2.2.1.length=2)/\(x.2.2.2.2.2.2.1=[]\/x.2.2.2.2.2.2.1.length=2)/\(x.2.2.2.2.2.2.1≠[]->x.2.2.2.2.2.1≠[]/\seT x=0):=by
 obtain ⟨_,a,b,_,c⟩:=jP (pc hc)
 exact ⟨a,b,c⟩
theorem kl {x y:TD}:eqD x y=true↔x=y:=by
 obtain ⟨a1,a2,a3,a4,a5,a6,a7,a8,a9,a10⟩:=x
 obtain ⟨b1,b2,b3,b4,b5,b6,b7,b8,b9,b10⟩:=y
 simp [and_assoc]
theorem vL {x:TD} (h:smT x):iW 20000000 x=some (exT x):=by
 unfold iW
 rw [fmT h]
 simp only [ob,exT,exD]
 cases (hasX x.2.2.1||(hasX x.2.2.2.2.2.1||hasX x.2.2.2.2.2.2.1))<;>rfl
theorem nU {x:TD} (h:smT x):fJ 20000000 x=some (plT x):=by
 unfold fJ plT
 rw [fcT h,vL h,fpT h]
 simp only [ob]
 by_cases hc:cF x=0
 ·rw [hc]
  cases he:exT x
  ·rfl
  ·show some ((if _ then _ else _) != (0:Int))=some (true&&(true&&!decide (0<seT x)))
   obtain ⟨_,_,h3⟩:=l9 hc
   by_cases hd:x.2.2.2.2.2.2.1=[]
   ·rw [if_pos hd]
    by_cases hs:0<seT x
    ·rw [if_pos hs,decide_eq_true hs];rfl
    ·rw [if_neg hs,decide_eq_false hs]
     by_cases hm:x.2.2.2.2.2.1=[]
     ·rw [if_pos hm];rfl
     ·rw [if_neg hm];rfl
   ·rw [if_neg hd,(h3 hd).2];rfl
 ·rw [decide_eq_false hc,show (cF x==0)=false from by simp [hc]];rfl
theorem kn {x:TD} (h:smT x):aE 20000000 x=some (if plT x then 1 else 0):=by
 unfold aE plT
 rw [rcT h,reT h,rsT x]
 simp only [ob]
 by_cases hc:cF x=0
 ·rw [hc]
  cases he:exT x
  ·rfl
  ·by_cases hs:0<seT x
   ·have h2:decide (seT x>0)=true:=decide_eq_true hs
    rw [decide_eq_true hs];rfl
   ·have h2:decide (seT x>0)=false:=decide_eq_false hs
    rw [decide_eq_false hs];rfl
 ·rw [decide_eq_false hc,show (cF x != 0)=true from by simp [hc]];rfl
theorem gg {x:TD}:plT x=true↔cF x=0/\exT x=true/\¬0<seT x:=by
 unfold plT
 simp [and_assoc]
noncomputable def ordB (x y:TD):Bool:=(plT x&&plT y)&&(decide (coT x=coT y)&&decide ((dyT x).1<=(dyT y).1))
theorem pU {x:TD} (hc:cF x=0) (hs:¬0<seT x):(if x.2.2.2.2.2.2.1=[] then (if 0<seT x then (0:Int) else if x.2.2.2.2.2.1=[] then 1 else 2) else 3)=((coT x:Nat):Int):=by
 obtain ⟨_,_,h3⟩:=l9 hc
 unfold coT cj
 by_cases hd:x.2.2.2.2.2.2.1=[]
 ·rw [if_pos hd,if_neg hs]
  by_cases hm:x.2.2.2.2.2.1=[]
  ·simp [hm,hd]
  ·simp [hm,hd]
 ·have hm:=(h3 hd).1
  simp [hd,hm]
theorem wU {x y:TD} (hx:smT x) (hy:smT y):iG 20000000 x y=some (ordB x y):=by
 unfold iG ordB
 rw [nU hx,nU hy]
 cases px:plT x
 ·rfl
 cases py:plT y
 ·rfl
 obtain ⟨c1,e1,s1⟩:=gg.1 px
 obtain ⟨c2,e2,s2⟩:=gg.1 py
 rw [fpT hx,fpT hy,fdT hx,fdT hy,pU c1 s1,pU c2 s2,if_pos c1,if_pos c2,if_pos e1,if_pos e2]
 simp only [ob,u5,u4,u3,u2,Bool.not_true,cond_false,Bool.and_self,Bool.true_and]
 by_cases hcc:coT x=coT y
 ·rw [hcc,decide_eq_true rfl]
  obtain ⟨r,q1,q2⟩:=uU (dyT x).1 (dyT y).1
  simp only [bne_self_eq_false,cond_false,q1,Bool.true_and]
  refine congrArg some ?_
  have:decide (r<=0)=!decide (r>0):=by
   by_cases hr:r<=0
   ·rw [decide_eq_true hr,decide_eq_false (by omega)];rfl
   ·rw [decide_eq_false hr,decide_eq_true (by omega)];rfl
  rw [this,q2]
  by_cases hd:(dyT x).1<=(dyT y).1
  ·rw [decide_eq_true hd,decide_eq_false (by omega)];rfl
  ·rw [decide_eq_false hd,decide_eq_true (by omega)];rfl
 ·have:(((coT x:Nat):Int) != ((coT y:Nat):Int))=true:=by simp;omega
  rw [this,decide_eq_false hcc];rfl
noncomputable def itE (x:TD) (r:Bool) (y:TD) (all:Bool):Int:=
 if cF x≠0 then cF x else if r=true/\cF y≠0 then cF y else if r=false/\eqD y d0=false then 5 else if r=true/\ordB x y=false then 10 else if all=true/\exT x=false then 10 else 0
theorem sY {x y:TD} (r:Bool) (hx:smT x) (hy:smT y) (K:Int) (hc:cF x=0) (hcy:¬(r=true/\cF y≠0)):cg 20000000 5 10 10 x r y K=some (itE x r y (K==4)):=by
 unfold cg lc kS kM itE
 rw [wU hx hy,vL hx,if_neg (by simpa using hc),if_neg hcy]
 cases r
 ·generalize eqD y d0=z
  cases z
  ·rfl
  ·cases (K==4)
   ·rfl
   ·cases exT x<;>rfl
 ·simp only [ob,Bool.not_true,cond_false,cond_true,reduceCtorEq,false_and,if_false,true_and]
  cases ordB x y
  ·rfl
  ·simp only [Bool.not_true,cond_false,Bool.true_eq_false,if_false]
   cases (K==4)
   ·rfl
   ·cases exT x<;>rfl
theorem oX {x y:TD} (r:Bool) (hx:smT x) (hy:smT y) (K:Int):cq 20000000 x r y K=some (if K=3\/K=4 then itE x r y (K==4) else 18):=by
 have main:(ob (ap10 (aS 20000000) x) λv0=>(cond (v0 != 0) (some v0) (cond r (ob (ap10 (aS 20000000) y) λv1=>(cond (v1 != 0) (some v1) (ob (cg 20000000 5 10 10 x r y K) λv2=>(some v2)))) (ob (cg 20000000 5 10 10 x r y K) λv3=>(some v3)))))=some (itE x r y (K==4)):=by
  rw [fcT hx]
  simp only [ob]
  by_cases hc:cF x=0
  ·rw [show (cF x != 0)=false from by simp [hc],cond_false]
   cases r
   ·rw [sY false hx hy K hc (by simp)];rfl
   ·rw [cond_true,fcT hy]
    simp only
    by_cases hcy:cF y=0
    ·rw [show (cF y != 0)=false from by simp [hcy],cond_false,sY true hx hy K hc (by simp [hcy])]
    ·rw [show (cF y != 0)=true from by simp [hcy],cond_true]
     unfold itE
     rw [if_neg (by simpa using hc),if_pos ⟨rfl,hcy⟩]
  ·rw [show (cF x != 0)=true from by simp [hc],cond_true]
   unfold itE
   rw [if_pos hc]
 unfold cq
 by_cases h3:K=3
 ·subst h3;exact main.trans (by rfl)
 ·rw [show (K != 3)=true from by simp [h3],cond_true]
  by_cases h4:K=4
  ·subst h4;exact main.trans (by rfl)
  ·rw [show (K != 4)=true from by simp [h4],cond_true,if_neg (by omega)]
theorem Eu {x y:TD} {r all:Bool} (h:cF x≠0):itE x r y all=cF x:=if_pos h
theorem Fo {x y:TD} {all:Bool} (hc:cF x=0) (h:cF y≠0):itE x true y all=cF y:=by
 unfold itE;rw [if_neg (λh=>h hc),if_pos ⟨rfl,h⟩]
theorem A9 {x y:TD} {all:Bool} (hc:cF x=0):itE x false y all=if eqD y d0=false then 5 else if all=true/\exT x=false then 10 else 0:=by
 have h1:(false=true/\cF y≠0)↔False:=by simp
 have h2:(false=true/\ordB x y=false)↔False:=by simp
 have h3:(false=false/\eqD y d0=false)↔eqD y d0=false:=by simp
 unfold itE;rw [if_neg (λh=>h hc)];simp only [h1,h2,if_false,true_and]
theorem EF {x y:TD} {all:Bool} (hc:cF x=0) (hy:cF y=0):itE x true y all=if ordB x y=false then 10 else if all=true/\exT x=false then 10 else 0:=by
 have h2:(true=true/\ordB x y=false)↔ordB x y=false:=by simp
 have h3:(true=false/\eqD y d0=false)↔False:=by simp
 unfold itE;rw [if_neg (λh=>h hc),if_neg (λh=>h.2 hy)];simp only [h3,if_false,true_and]
theorem EI (a b:Bool):(IntKind.wrap .i64 ((if a then (1:Int) else 0)*(if b then (1:Int) else 0))==0)=!(a&&b):=by cases a<;>cases b<;>rfl
theorem m6 {x y:TD} (r all:Bool) (hx:smT x) (hy:smT y):cR 20000000 x r y all=some (itE x r y all):=by
 have last:cond all (ob (ap10 (aG 20000000) x) λv11=>(cond (v11==0) (some 10) (some 0))) (some 0)=some (if all=true/\exT x=false then (10:Int) else 0):=by
  rw [reT hx]
  cases all
  ·rfl
  ·cases exT x<;>rfl
 unfold cR
 simp only [last]
 simp only [rcT hx,rcT hy,kn hx,kn hy,rcoT,ob,EI]
 by_cases hc:cF x=0
 ·rw [show (cF x != 0)=false from by simp [hc],cond_false]
  cases r
  ·simp only [cond_false,Bool.not_false,cond_true]
   rw [A9 hc]
   generalize eqD y d0=z
   cases z<;>rfl
  ·simp only [cond_true,Bool.not_true,cond_false]
   by_cases hcy:cF y=0
   ·rw [show (cF y != 0)=false from by simp [hcy],cond_false]
    rw [EF hc hcy]
    unfold ordB
    cases px:plT x
    ·simp
    cases py:plT y
    ·simp
    obtain ⟨c1,e1,s1⟩:=gg.1 px
    obtain ⟨c2,e2,s2⟩:=gg.1 py
    rw [rdT hx c1 e1,rdT hy c2 e2]
    simp only [u2,Bool.and_self,Bool.not_true,cond_false,Bool.true_and,true_and]
    by_cases hcc:coT x=coT y
    ·rw [hcc,decide_eq_true rfl]
     simp only [bne_self_eq_false,cond_false,Bool.true_and]
     by_cases hd:(dyT x).1<=(dyT y).1
     ·rw [show decide ((dyT x).1>(dyT y).1)=false from decide_eq_false (by omega),decide_eq_true hd]
      simp
     ·rw [show decide ((dyT x).1>(dyT y).1)=true from decide_eq_true (by omega),decide_eq_false hd]
      simp
    ·have:(((coT x:Nat):Int) != ((coT y:Nat):Int))=true:=by simp;omega
     rw [this,decide_eq_false hcc]
     simp
   ·rw [show (cF y != 0)=true from by simp [hcy],cond_true]
    rw [Fo hc hcy]
 ·rw [show (cF x != 0)=true from by simp [hc],cond_true]
  rw [Eu hc]
def lE {A:Type} (f:Nat->A->Int):Nat->List A->Option (Nat×Int)
 | _,[]=>none
 | i,t::r=>if f i t≠0 then some (i,f i t) else lE f (i+1) r
theorem jL {A X Y:Type} {step:X->Option (X⊕Y)} {st:Nat->X} {L:List A} {f:Nat->A->Int} {yes:Nat->Int->Y} {no:Y}
  (h1:∀i t,L[i]?=some t->step (st i)=some (if f i t≠0 then .inr (yes i (f i t)) else .inl (st (i+1)))) (h2:step (st L.length)=some (.inr no)):
  ∀(r i:Nat),i+r=L.length->∀N,r<N->ah step N (st i)=some (match lE f i (L.drop i) with | some p=>yes p.1 p.2 | none=>no):=by
 intro r
 induction r with
 | zero=>
  intro i hi N hN
  obtain ⟨N,rfl⟩:∃k,N=k+1:=⟨N - 1,by omega⟩
  rw [ah,show i=L.length by omega,h2,List.drop_length]
  rfl
 | succ r ih=>
  intro i hi N hN
  obtain ⟨N,rfl⟩:∃k,N=k+1:=⟨N - 1,by omega⟩
  have hil:i<L.length:=by omega
  have he:L[i]?=some L[i]:=List.getElem?_eq_getElem hil
  rw [ah,h1 i _ he,List.drop_eq_getElem_cons hil,lE]
  by_cases hf:f i L[i]≠0
  ·rw [if_pos hf,if_pos hf]
  ·rw [if_neg hf,if_neg hf]
   exact ih (i+1) (by omega) N (by omega)
abbrev rT (t:TI):Bool:=(d8 t).2.2.1
abbrev iT (t:TI):TD:=(d8 t).2.2.2
def smI (t:TI):Prop:=smT (iF t)/\smT (iT t)
noncomputable def itI (t:TI) (all:Bool):Int:=itE (iF t) (rT t) (iT t) all
noncomputable def endB (t:TI):Bool:=!rT t&&plT (iF t)
noncomputable def errI (K:Int) (e l:Bool) (n i:Nat) (t:TI):Int:=
 if itI t (K==4)≠0 then itI t (K==4) else if (e&&decide (i=0))&&!endB t||((l&&decide (i+1=n))&&!endB t||(e&&(l&&decide (n=1)))) then 10 else 0
noncomputable def rW (K:Int) (e l:Bool) (L:List TI):Int×Int:=match lE (errI K e l L.length) 0 L with
 | some p=>((p.1:Int),p.2)
 | none=>(0,0)
theorem iO {i:Nat} (h:i<9223372036854775807):w64 ((i:Int)+1)=((i+1:Nat):Int):=by
 show IntKind.wrap .i64 _=_
 rw [wrap_i64 _ (by omega) (by omega)];omega
theorem ui {i:Nat} (h0:0<i) (h:i<9223372036854775807):w64 ((i:Int) - 1)=((i - 1:Nat):Int):=by
 show IntKind.wrap .i64 _=_
 rw [wrap_i64 _ (by omega) (by omega)];omega
theorem natB (a b:Nat):(((a:Nat):Int)==((b:Nat):Int))=decide (a=b):=by
 by_cases h:a=b
 ·subst h;simp
 ·rw [decide_eq_false h];simp;omega
theorem sU (a:Nat):(((a:Nat):Int)==0)=decide (a=0):=natB a 0
theorem Fi {x y:TD} (r:Bool) (hx:smT x):kU 20000000 x r y=some (!r&&plT x):=by
 unfold kU
 rw [nU hx]
 cases r<;>rfl
theorem xI {K:Int} (hK:K=3\/K=4) {e l:Bool} {L:List TI} {i:Nat} {t:TI} (hi:L[i]?=some t) (hs:smI t) (hn:L.length<=1000000) (D:TD) (KF:Int) (DF:TD) (KT:Int) (DT:TD):
  fq 20000000 (itI t (K==4)) 10 10 10 (iF t) (rT t) (iT t) K D KF DF KT DT e l (i:Int) (w64 (len L - 1)) L=some (errI K e l L.length i t):=by
 have hil:i<L.length:=(List.getElem?_eq_some_iff.1 hi).1
 have hlast:w64 (len L - 1)=((L.length - 1:Nat):Int):=ui (by omega) (by omega)
 have hIt:cq 20000000 (iF t) (rT t) (iT t) K=some (itI t (K==4)):=by
  rw [oX _ hs.1 hs.2,if_pos hK];rfl
 unfold fq jW jT kr kx errI
 rw [hIt,hlast]
 simp only [Fi (rT t) hs.1,ob,sU,natB]
 have e1:decide (i=L.length - 1)=decide (i+1=L.length):=by congr 1;exact propext (by omega)
 have e2:decide (L.length - 1=0)=decide (L.length=1):=by congr 1;exact propext (by omega)
 rw [e1,e2]
 show cond (itI t (K==4) != 0) _ _=_
 by_cases h0:itI t (K==4)=0
 ·rw [if_neg (λh=>h h0),show (itI t (K==4) != 0)=false from by simp [h0],cond_false]
  show _=some (if ((e&&decide (i=0))&&!endB t||((l&&decide (i+1=L.length))&&!endB t||(e&&(l&&decide (L.length=1)))))=true then 10 else 0)
  unfold endB
  generalize (!rT t&&plT (iF t))=z
  generalize decide (i=0)=a
  generalize decide (i+1=L.length)=b
  generalize decide (L.length=1)=c
  cases e<;>cases l<;>cases z<;>cases a<;>cases b<;>cases c<;>rfl
 ·rw [if_pos h0,show (itI t (K==4) != 0)=true from by simp [h0],cond_true]
theorem Bc {K:Int} (hK:K=3\/K=4) {e l:Bool} {L:List TI} (hs:∀t∈L,smI t) (hn:L.length<=1000000) (D:TD) (KF:Int) (DF:TD) (KT:Int) (DT:TD):
  jY 20000000 K D KF DF KT DT e l L=some (rW K e l L):=by
 have:=jL (step:=eA 20000000) (st:=λi=>(len L,(i:Int),L,K,D,KF,DF,KT,DT,e,l,w64 (len L - 1))) (L:=L) (f:=errI K e l L.length) (yes:=λi q=>.inl ((i:Int),q)) (no:=.inr ())
  (λi t hi=>by
   have hil:i<L.length:=(List.getElem?_eq_some_iff.1 hi).1
   have hst:=hs t (List.mem_of_getElem? hi)
   have hIt:cq 20000000 (iF t) (rT t) (iT t) K=some (itI t (K==4)):=by
    rw [oX _ hst.1 hst.2,if_pos hK];rfl
   unfold eA
   simp only [u12,u11,u10,u9,u8,u7,u6,u5,u4,u3,u2]
   rw [decide_eq_true (show (i:Int)<len L by unfold len;omega),bE hil]
   simp only [cond_true,ob,hi]
   rw [show cq 20000000 (iF t) (d8 t).2.2.1 (d8 t).2.2.2 K=some (itI t (K==4)) from hIt]
   simp only
   rw [show fq 20000000 (itI t (K==4)) 10 10 10 (iF t) (d8 t).2.2.1 (d8 t).2.2.2 K D KF DF KT DT e l (i:Int) (w64 (len L - 1)) L=some (errI K e l L.length i t) from xI hK hi hst hn D KF DF KT DT]
   simp only
   rw [iO (by omega)]
   by_cases h0:errI K e l L.length i t=0
   ·rw [if_neg (λh=>h h0),show (errI K e l L.length i t != 0)=false from by simp [h0]];rfl
   ·rw [if_pos h0,show (errI K e l L.length i t != 0)=true from by simp [h0]];rfl)
  (by
   unfold eA
   simp only [u12,u11,u10,u9,u8,u7,u6,u5,u4,u3,u2]
   rw [decide_eq_false (show ¬((L.length:Nat):Int)<len L by unfold len;omega)]
   rfl)
  L.length 0 (by omega) 20000000 (by omega)
 unfold jY rW
 rw [List.drop_zero] at this
 show obs (ah (eA 20000000) 20000000 (len L,((0:Nat):Int),L,K,D,KF,DF,KT,DT,e,l,w64 (len L - 1))) _ _=_
 rw [this]
 cases lE (errI K e l L.length) 0 L<;>rfl
noncomputable def ph (K:Int) (x:TD):Int:=chkB K x.1 x.2.1 x.2.2.1 x.2.2.2.1 x.2.2.2.2.1 x.2.2.2.2.2.1 x.2.2.2.2.2.2.1 x.2.2.2.2.2.2.2.1 x.2.2.2.2.2.2.2.2.1 x.2.2.2.2.2.2.2.2.2
noncomputable def nz (K:Int) (x:TD) (K':Int) (y:TD):Int:=xn (ph K x) (ph K' y) K K' (dyT x).1 (dyT y).2
theorem Dq {x y:TD} (hx:smT x) (hy:smT y) (K K':Int):ap10 (ap10 (jd 20000000 K) x K') y=some (nz K x K' y):=
 Da hx.1 hx.2.1 hx.2.2.1 hx.2.2.2.1 hx.2.2.2.2.1 hx.2.2.2.2.2 hy.1 hy.2.1 hy.2.2.1 hy.2.2.2.1 hy.2.2.2.2.1 hy.2.2.2.2.2
theorem uC {x y:TD} (hx:smT x) (hy:smT y) (K K':Int):ap10 (ap10 (cX 20000000 K) x K') y=some (nz K x K' y):=
 Bm hx.1 hx.2.1 hx.2.2.1 hx.2.2.2.1 hx.2.2.2.2.1 hx.2.2.2.2.2 hy.1 hy.2.1 hy.2.2.1 hy.2.2.2.1 hy.2.2.2.2.1 hy.2.2.2.2.2
def unuB (K:Int) (D:TD) (KF:Int) (DF:TD) (KT:Int) (DT:TD) (e l:Bool) (n:Nat):Bool:=
 !(K==1||eqD D d0)||(!(K==2||((KF==0)&&((eqD DF d0)&&true))&&((KT==0)&&((eqD DT d0)&&true)))||!(K==3||(K==4||(decide (n=0)&&(!e&&!l)))))
theorem yI (n:Nat) (K:Int) (D:TD) (KF:Int) (DF:TD) (KT:Int) (DT:TD) (e l:Bool) (L:List TI):
  jh n K D KF DF KT DT e l L=some (unuB K D KF DF KT DT e l L.length):=by
 unfold jh unuB
 rw [show (len L==0)=decide (L.length=0) from sU _]
 generalize eqD D d0=z0
 generalize ((KF==0)&&((eqD DF d0)&&true))=z1
 generalize ((KT==0)&&((eqD DT d0)&&true))=z2
 generalize decide (L.length=0)=z3
 generalize (K==1)=k1
 generalize (K==2)=k2
 generalize (K==3)=k3
 generalize (K==4)=k4
 revert z0 z1 z2 z3 k1 k2 k3 k4 e l
 decide +kernel
noncomputable def mJ (K:Int) (D:TD) (KF:Int) (DF:TD) (KT:Int) (DT:TD) (e l:Bool) (L:List TI):Int×Int:=
 if K<1\/4<K then (0,18) else if unuB K D KF DF KT DT e l L.length=true then (0,5) else if K=1 then (0,cF D) else if K=2 then (0,nz KF DF KT DT) else if L.length=0 then (0,17) else if 256<L.length then (0,3) else rW K e l L
def smE (D DF DT:TD) (L:List TI):Prop:=smT D/\smT DF/\smT DT/\∀t∈L,smI t
theorem wa {K:Int} {D:TD} {KF:Int} {DF:TD} {KT:Int} {DT:TD} {e l:Bool} {L:List TI} (h:smE D DF DT L):
  eM 20000000 K D KF DF KT DT e l L=some (mJ K D KF DF KT DT e l L):=by
 obtain ⟨hD,hF,hT,hL⟩:=h
 unfold eM mJ
 by_cases h1:K<1
 ·rw [decide_eq_true h1,if_pos (.inl h1)];rfl
 by_cases h4:4<K
 ·rw [decide_eq_false h1,show decide (K>4)=true from decide_eq_true h4,if_pos (.inr h4)];rfl
 rw [decide_eq_false h1,show decide (K>4)=false from decide_eq_false h4,if_neg (by omega),yI]
 simp only [cond_false,ob]
 cases unuB K D KF DF KT DT e l L.length
 ·simp only [cond_false,Bool.false_eq_true,if_false]
  by_cases k1:K=1
  ·rw [if_pos k1,show (K==1)=true from by simp [k1],fcT hD];rfl
  by_cases k2:K=2
  ·rw [if_neg k1,if_pos k2,show (K==1)=false from by simp [k1],show (K==2)=true from by simp [k2],Dq hF hT];rfl
  rw [if_neg k1,if_neg k2,show (K==1)=false from by simp [k1],show (K==2)=false from by simp [k2]]
  simp only [cond_false]
  rw [show (len L==0)=decide (L.length=0) from sU _]
  by_cases l0:L.length=0
  ·rw [decide_eq_true l0,if_pos l0];rfl
  rw [decide_eq_false l0,if_neg l0]
  by_cases l1:256<L.length
  ·rw [show decide (len L>256)=true from decide_eq_true (by show (256:Int)<((L.length:Nat):Int);omega),if_pos l1];rfl
  rw [show decide (len L>256)=false from decide_eq_false (by show ¬(256:Int)<((L.length:Nat):Int);omega),if_neg l1,Bc (by omega) hL (by omega)]
  rfl
 ·rfl
theorem DZ (n:Nat) (i:Int) (L:List TI) (K:Int) (D:TD) (KF:Int) (DF:TD) (KT:Int) (DT:TD) (e l:Bool) (x:TD) (r:Bool) (y:TD):
  dG n i L K D KF DF KT DT e l x r y=some (i,e&&(i==0),l&&(i==w64 (len L - 1)),L,K,D,KF,DF,KT,DT,e,l,x,r,y):=by
 unfold dG
 cases e<;>cases l<;>rfl
theorem Dx (i:Int) (a b:Bool) (L:List TI) (K:Int) (D:TD) (KF:Int) (DF:TD) (KT:Int) (DT:TD) (e l:Bool) (x:TD) (r:Bool) (y:TD) (hx:smT x):
  dJ 20000000 i a b L K D KF DF KT DT e l x r y=some (i,(a&&b)||((a||b)&&(r||!plT x)),L,K,D,KF,DF,KT,DT,e,l):=by
 unfold dJ
 rw [kn hx]
 cases a<;>cases b<;>cases r<;>cases plT x<;>rfl
theorem xH {K:Int} (hK:K=3\/K=4) {e l:Bool} {L:List TI} (hs:∀t∈L,smI t) (hn:L.length<=1000000) (D:TD) (KF:Int) (DF:TD) (KT:Int) (DT:TD):
  ah (cb 20000000) 20000000 (0,L,K,D,KF,DF,KT,DT,e,l)=some (match lE (errI K e l L.length) 0 L with | some p=>.inl ((p.1:Int),p.2) | none=>.inr ()):=by
 have:=jL (step:=cb 20000000) (st:=λi=>((i:Int),L,K,D,KF,DF,KT,DT,e,l)) (L:=L) (f:=errI K e l L.length) (yes:=λi q=>.inl ((i:Int),q)) (no:=.inr ())
  (λi t hi=>by
   have hil:i<L.length:=(List.getElem?_eq_some_iff.1 hi).1
   have hst:=hs t (List.mem_of_getElem? hi)
   have hIt:cR 20000000 (iF t) (d8 t).2.2.1 (d8 t).2.2.2 (K==4)=some (itI t (K==4)):=m6 _ _ hst.1 hst.2
   have hlast:w64 (len L - 1)=((L.length - 1:Nat):Int):=ui (by omega) (by omega)
   unfold cb
   simp only [u15,u14,u13,u12,u11,u10,u9,u8,u7,u6,u5,u4,u3,u2]
   rw [decide_eq_true (show (i:Int)<len L by unfold len;omega),bE hil]
   simp only [cond_true,ob,hi,hIt]
   by_cases h0:itI t (K==4)=0
   ·rw [show (itI t (K==4) != 0)=false from by simp [h0],cond_false]
    simp only [DZ,hlast,sU,natB,u15,u14,u13,u12,u11,u10,u9,u8,u7,u6,u5,u4,u3,u2]
    rw [Dx _ _ _ _ _ _ _ _ _ _ _ _ _ _ _ hst.1]
    simp only [u11,u10,u9,u8,u7,u6,u5,u4,u3,u2]
    have e1:decide (i=L.length - 1)=decide (i+1=L.length):=by congr 1;exact propext (by omega)
    have e3:(decide (i=0)&&decide (i+1=L.length))=(decide (L.length=1)&&decide (i=0)):=by
     by_cases hi0:i=0
     ·subst hi0
      rw [decide_eq_true rfl,Bool.true_and,Bool.and_true]
      congr 1;exact propext (by omega)
     ·rw [decide_eq_false hi0,Bool.and_false];rfl
    have e4:decide (L.length=1)=true->decide (i=0)=true:=λh=>decide_eq_true (by have:=of_decide_eq_true h;omega)
    have hE:errI K e l L.length i t=if ((e&&decide (i=0))&&(l&&decide (i+1=L.length)))||(((e&&decide (i=0))||(l&&decide (i+1=L.length)))&&(rT t||!plT (iF t))) then 10 else 0:=by
     unfold errI endB
     rw [h0,if_neg (λh=>h rfl)]
     congr 1
     revert e3 e4
     generalize rT t=r
     generalize plT (iF t)=z
     generalize decide (i=0)=a
     generalize decide (i+1=L.length)=b
     generalize decide (L.length=1)=c
     cases e<;>cases l<;>cases z<;>cases r<;>cases a<;>cases b<;>cases c<;>simp
    rw [e1,iO (by omega),hE]
    generalize (((e&&decide (i=0))&&(l&&decide (i+1=L.length)))||(((e&&decide (i=0))||(l&&decide (i+1=L.length)))&&(rT t||!plT (iF t))))=z
    cases z<;>rfl
   ·have:errI K e l L.length i t=itI t (K==4):=if_pos h0
    rw [show (itI t (K==4) != 0)=true from by simp [h0],cond_true,this,if_pos h0])
  (by
   unfold cb
   simp only [u15,u14,u13,u12,u11,u10,u9,u8,u7,u6,u5,u4,u3,u2]
   rw [decide_eq_false (show ¬((L.length:Nat):Int)<len L by unfold len;omega)]
   rfl)
  L.length 0 (by omega) 20000000 (by omega)
 rw [List.drop_zero] at this
 exact this
theorem ux {K:Int} {D:TD} {KF:Int} {DF:TD} {KT:Int} {DT:TD} {e l:Bool} {L:List TI} (h:smE D DF DT L):
  fB 20000000 K D KF DF KT DT e l L=some (mJ K D KF DF KT DT e l L):=by
 obtain ⟨hD,hF,hT,hL⟩:=h
 have j3:ee 20000000 L K D KF DF KT DT e l=some (K==3||K==4,L,K,D,KF,DF,KT,DT,e,l):=by
  unfold ee
  cases (K==3)<;>rfl
 have j4:dV 20000000 (K==3||K==4) L K D KF DF KT DT e l=some (K==3||K==4,!(K==1)&&(!(K==2)&&!(K==3||K==4)),L,K,D,KF,DF,KT,DT,e,l):=by
  unfold dV
  rw [show (K != 1)=!(K==1) from rfl,show (K != 2)=!(K==2) from rfl]
  cases (K==1)<;>cases (K==2)<;>rfl
 have j7:d7 20000000 (K==3||K==4) L K D KF DF KT DT e l=some (unuB K D KF DF KT DT e l L.length,L,K,D,KF,DF,KT,DT,e,l):=by
  unfold d7 unuB
  have hpos:decide (len L>0)=!decide (L.length=0):=by
   by_cases hl:L.length=0
   ·rw [decide_eq_true hl,decide_eq_false (by unfold len;omega)];rfl
   ·rw [decide_eq_false hl,decide_eq_true (by unfold len;omega)];rfl
  rw [show (K != 1)=!(K==1) from rfl,show (K != 2)=!(K==2) from rfl,hpos]
  generalize eqD D d0=z0
  generalize ((KF==0)&&((eqD DF d0)&&true))=z1
  generalize ((KT==0)&&((eqD DT d0)&&true))=z2
  generalize decide (L.length=0)=z3
  generalize (K==1)=k1
  generalize (K==2)=k2
  generalize (K==3)=k3
  generalize (K==4)=k4
  cases z0<;>cases z1<;>cases z2<;>cases z3<;>cases k1<;>cases k2<;>cases k3<;>cases k4<;>cases e<;>cases l<;>rfl
 unfold fB mJ
 rw [j3]
 simp only [ob,u11,u10,u9,u8,u7,u6,u5,u4,u3,u2,j4]
 by_cases hk:K<1\/4<K
 ·rw [if_pos hk,show (K==1)=false from by simp;omega,show (K==2)=false from by simp;omega,show (K==3)=false from by simp;omega,show (K==4)=false from by simp;omega]
  rfl
 have hc4:(!(K==1)&&(!(K==2)&&!(K==3||K==4)))=false:=by
  rcases (by omega:K=1\/K=2\/K=3\/K=4) with rfl | rfl | rfl | rfl<;>rfl
 rw [if_neg hk,hc4]
 simp only [cond_false,j7]
 cases unuB K D KF DF KT DT e l L.length
 ·simp only [cond_false,Bool.false_eq_true,if_false]
  by_cases k1:K=1
  ·rw [if_pos k1,show (K==1)=true from by simp [k1],rcT hD];rfl
  by_cases k2:K=2
  ·rw [if_neg k1,if_pos k2,show (K==1)=false from by simp [k1],show (K==2)=true from by simp [k2],uC hF hT];rfl
  rw [if_neg k1,if_neg k2,show (K==1)=false from by simp [k1],show (K==2)=false from by simp [k2]]
  simp only [cond_false]
  rw [show (len L==0)=decide (L.length=0) from sU _]
  by_cases l0:L.length=0
  ·rw [decide_eq_true l0,if_pos l0];rfl
  rw [decide_eq_false l0,if_neg l0]
  by_cases l1:256<L.length
  ·rw [show decide (len L>256)=true from decide_eq_true (by show (256:Int)<((L.length:Nat):Int);omega),if_pos l1];rfl
  rw [show decide (len L>256)=false from decide_eq_false (by show ¬(256:Int)<((L.length:Nat):Int);omega),if_neg l1,cond_false,cond_false,xH (by omega) hL (by omega)]
  unfold rW
  cases lE (errI K e l L.length) 0 L<;>rfl
 ·rfl
theorem B0 {K:Int} {D:TD} {KF:Int} {DF:TD} {KT:Int} {DT:TD} {e l:Bool} {L:List TI} (h:smE D DF DT L):
  gH 20000000 K D KF DF KT DT e l L=some (mJ K D KF DF KT DT e l L).2:=by
 unfold gH;rw [wa h];rfl
abbrev TR:=aa
def natI (x:Int) (b:Nat):Prop:=0<=x/\x<(b:Int)
def wfD (a0 a2 a3 a4 a5 a6 a7 a8 a9:Int):Prop:=natI a0 256/\natI a2 65536/\natI a3 256/\natI a4 256/\natI a5 256/\natI a6 256/\natI a7 256/\natI a8 256/\natI a9 256
theorem natI.nat {x:Int} {b:Nat} (h:natI x b):∃n:Nat,x=(n:Int)/\n<b:=⟨x.toNat,by have:=h.1;omega,by have:=h.1;have:=h.2;omega⟩
theorem DofI {a0 a2 a3 a4 a5 a6 a7 a8 a9:Int} (g:Bool) (h:wfD a0 a2 a3 a4 a5 a6 a7 a8 a9):∃x:TD,aq 20000000 a0 g a2 a3 a4 a5 a6 a7 a8 a9=some x/\smT x/\cF x=0:=by
 obtain ⟨h0,h2,h3,h4,h5,h6,h7,h8,h9⟩:=h
 obtain ⟨a0,rfl,b0⟩:=h0.nat
 obtain ⟨a2,rfl,b2⟩:=h2.nat
 obtain ⟨a3,rfl,b3⟩:=h3.nat
 obtain ⟨a4,rfl,b4⟩:=h4.nat
 obtain ⟨a5,rfl,b5⟩:=h5.nat
 obtain ⟨a6,rfl,b6⟩:=h6.nat
 obtain ⟨a7,rfl,b7⟩:=h7.nat
 obtain ⟨a8,rfl,b8⟩:=h8.nat
 obtain ⟨a9,rfl,b9⟩:=h9.nat
 obtain ⟨g',l,dg,x,q,mo,d,k0,k1,k2,e,hc,hok,hf⟩:=Fk 19999700 a0 a2 a3 a4 a5 a6 a7 a8 a9 g b2 b3 b4 b5 b6 b7 b8 b9
 obtain ⟨hY,hm2,hd2,_⟩:=jP hc
 obtain ⟨_,_,_,_,_,hdl⟩:=iH hY
 refine ⟨_,e,⟨?_,by show dg.length<=100;omega,?_,by simp,by simp,by simp⟩,vI hc hf⟩
 ·rcases hm2 with h | h
  ·rw [h];simp
  ·show mo.length<=18;omega
 ·rcases hd2 with h | h
  ·rw [h];simp
  ·show d.length<=18;omega
theorem Br:((List.range 13).all λj=>sea (monT j)==0)=true:=by decide +kernel
theorem Gt (a0 a2 a3 a4 a5 a6 a7 a8 a9:Nat) (g:Bool) (h2:a2<65536) (h3:a3<256) (h4:a4<256) (h5:a5<256) (h6:a6<256) (hm:a5%40<=12):
  ∃r:TD,aq 20000000 (a0:Int) g (a2:Int) (a3:Int) (a4:Int) (a5:Int) (a6:Int) (a7:Int) (a8:Int) (a9:Int)=some r/\seT r=0:=by
 obtain ⟨g',l,dg,x,q,mo,d,e,_,_,_,_,hq1,hq0,_⟩:=xW 19999700 a0 a2 a3 a4 a5 a6 a7 a8 a9 g h2 h3 h4 h5 h6
 refine ⟨_,e,?_⟩
 show sea mo=0
 by_cases hq:q=0
 ·rw [hq0 hq]
  have:=(List.all_eq_true.1 Br) (a5%40) (List.mem_range.2 (by omega))
  simpa using this
 ·rw [(hq1 hq).1];decide
theorem ExI {a0 a2 a3 a4 a5 a6 a7 a8 a9:Int} (g:Bool) (h:wfD a0 a2 a3 a4 a5 a6 a7 a8 a9):
  ∃x:TD,aJ 20000000 a0 g a2 a3 a4 a5 a6 a7 a8 a9=some x/\smT x/\cF x=0/\exT x=true/\(Int.tmod a5 40<=12->seT x=0):=by
 obtain ⟨h0,h2,h3,h4,h5,h6,h7,h8,h9⟩:=h
 obtain ⟨a0,rfl,b0⟩:=h0.nat
 obtain ⟨a2,rfl,b2⟩:=h2.nat
 obtain ⟨a3,rfl,b3⟩:=h3.nat
 obtain ⟨a4,rfl,b4⟩:=h4.nat
 obtain ⟨a5,rfl,b5⟩:=h5.nat
 obtain ⟨a6,rfl,b6⟩:=h6.nat
 obtain ⟨a7,rfl,b7⟩:=h7.nat
 obtain ⟨a8,rfl,b8⟩:=h8.nat
 obtain ⟨a9,rfl,b9⟩:=h9.nat
 obtain ⟨g',l,dg,x,mo,d,k0,k1,k2,e,hc,he,hml,hd18,hdl⟩:=uO 19999700 a0 a2 a3 a4 a5 a6 a7 a8 a9 g b0 b2 b3 b4 b5 b6
 refine ⟨_,e,⟨hml,hdl,hd18,by simp,by simp,by simp⟩,hc,he,λhm=>?_⟩
 have t5:Int.tmod (a5:Int) 40=((a5%40:Nat):Int):=rfl
 rw [t5] at hm
 have t6:Int.tmod (a6:Int) 40=((a6%40:Nat):Int):=rfl
 have td:Int.tdiv ((a6%40:Nat):Int) 2=((a6%40 / 2:Nat):Int):=rfl
 have w6:IntKind.wrap .u8 ((a6%40 / 2:Nat):Int)=((a6%40 / 2:Nat):Int):=dr _ (by omega) (by omega)
 have S:=λ(c0 c6:Nat) (h6:c6<256)=>Gt c0 a2 a3 a4 a5 c6 a7 a8 a9 g b2 b3 b4 b5 h6 (by omega)
 have e':aJ 20000000 (a0:Int) g (a2:Int) (a3:Int) (a4:Int) (a5:Int) (a6:Int) (a7:Int) (a8:Int) (a9:Int)=some (g',l,dg,x,0,mo,d,((k0:Nat):Int),((k1:Nat):Int),((k2:Nat):Int)):=e
 have key:∀(o:Option TD) (y:TD),(∃r:TD,o=some r/\seT r=0)->(ob o λr98=>(cond (decide ((d4 r98).1>0)) (some (r98.1,r98.2.1,r98.2.2.1,r98.2.2.2.1,(0:Int),(d4 r98).2.1,(d4 r98).2.2.1,(d4 r98).2.2.2.1,(d8 r98).1,(d8 r98).2)) (some (r98.1,r98.2.1,r98.2.2.1,r98.2.2.2.1,(d4 r98).1,(d4 r98).2.1,(d4 r98).2.2.1,(d4 r98).2.2.2.1,(d8 r98).1,(d8 r98).2))))=some y->seT y=0:=by
  rintro o y ⟨r,rfl,hr⟩ hy
  simp only [ob] at hy
  cases hd:decide ((d4 r).1>0)<;>rw [hd] at hy<;>simp only [cond_true,cond_false,Option.some.injEq] at hy<;>subst hy<;>exact hr
 unfold aJ at e'
 rw [t5,t6,td,w6] at e'
 rw [decide_eq_false (show ¬((a5%40:Nat):Int)>33 by omega)] at e'
 simp only [cond_false] at e'
 have z0:(0:Int)=((0:Nat):Int):=rfl
 cases h3:(Int.tmod (a0:Int) 6==3)<;>rw [h3] at e'<;>simp only [cond_true,cond_false] at e'
 ·cases h4:(Int.tmod (a0:Int) 6==4)<;>rw [h4] at e'<;>simp only [cond_true,cond_false] at e'
  ·cases h6':decide (((a6%40:Nat):Int)>31)<;>rw [h6'] at e'<;>simp only [cond_true,cond_false] at e'
   ·exact key _ _ (S a0 a6 (by omega)) e'
   ·exact key _ _ (S a0 (a6%40 / 2) (by omega)) e'
  ·cases h6':decide (((a6%40:Nat):Int)>31)<;>rw [h6'] at e'<;>simp only [cond_true,cond_false] at e'
   ·exact key _ _ (S 0 a6 (by omega)) e'
   ·exact key _ _ (S 0 (a6%40 / 2) (by omega)) e'
 ·cases h6':decide (((a6%40:Nat):Int)>31)<;>rw [h6'] at e'<;>simp only [cond_true,cond_false] at e'
  ·exact key _ _ (S 0 a6 (by omega)) e'
  ·exact key _ _ (S 0 (a6%40 / 2) (by omega)) e'
theorem vC {a0 a2 a3 a4 a5 a6 a7 a8 a9:Int} (g:Bool) (h:wfD a0 a2 a3 a4 a5 a6 a7 a8 a9):∃x:TD,aZ 20000000 a0 g a2 a3 a4 a5 a6 a7 a8 a9=some x/\smT x/\plT x=true:=by
 obtain ⟨a5',rfl,b5⟩:=h.2.2.2.2.1.nat
 have t5:Int.tmod (a5':Int) 40=((a5'%40:Nat):Int):=rfl
 have t12:Int.tmod ((a5'%40:Nat):Int) 12=((a5'%40%12:Nat):Int):=rfl
 unfold aZ
 rw [t5,t12]
 by_cases hm:12<a5'%40
 ·rw [decide_eq_true (show ((a5'%40:Nat):Int)>12 by omega),cond_true]
  have w:w8 (((a5'%40%12:Nat):Int)+1)=((a5'%40%12+1:Nat):Int):=by
   show IntKind.wrap .u8 _=_
   rw [dr _ (by omega) (by omega)];omega
  rw [w]
  have hw:wfD a0 a2 a3 a4 ((a5'%40%12+1:Nat):Int) a6 a7 a8 a9:=⟨h.1,h.2.1,h.2.2.1,h.2.2.2.1,⟨by omega,by omega⟩,h.2.2.2.2.2⟩
  obtain ⟨x,e,hs,hc,he,hse⟩:=ExI g hw
  have hs0:seT x=0:=hse (by
   show (((a5'%40%12+1)%40:Nat):Int)<=12
   omega)
  exact ⟨x,by rw [e];rfl,hs,gg.2 ⟨hc,he,by omega⟩⟩
 ·rw [decide_eq_false (show ¬((a5'%40:Nat):Int)>12 by omega),cond_false]
  obtain ⟨x,e,hs,hc,he,hse⟩:=ExI g h
  have hs0:seT x=0:=hse (by rw [t5];omega)
  exact ⟨x,by rw [e];rfl,hs,gg.2 ⟨hc,he,by omega⟩⟩
theorem BofI {k a0 a2 a3 a4 a5 a6 a7 a8 a9:Int} (g:Bool) (hk:natI k 256) (h:wfD a0 a2 a3 a4 a5 a6 a7 a8 a9):
  ∃(K:Int) (x:TD),aY 20000000 k a0 g a2 a3 a4 a5 a6 a7 a8 a9=some (K,x)/\smT x/\ph K x=0/\(K=1\/((K=2\/K=3)/\x=d0)):=by
 obtain ⟨h0,h2,h3,h4,h5,h6,h7,h8,h9⟩:=h
 obtain ⟨k,rfl,bk⟩:=hk.nat
 obtain ⟨a0,rfl,b0⟩:=h0.nat
 obtain ⟨a2,rfl,b2⟩:=h2.nat
 obtain ⟨a3,rfl,b3⟩:=h3.nat
 obtain ⟨a4,rfl,b4⟩:=h4.nat
 obtain ⟨a5,rfl,b5⟩:=h5.nat
 obtain ⟨a6,rfl,b6⟩:=h6.nat
 obtain ⟨a7,rfl,b7⟩:=h7.nat
 obtain ⟨a8,rfl,b8⟩:=h8.nat
 obtain ⟨a9,rfl,b9⟩:=h9.nat
 obtain ⟨K,g',l,dg,x,mo,d,k0,k1,k2,e,hc,hml,hd18,hdl,hK⟩:=B_of 19999700 k a0 a2 a3 a4 a5 a6 a7 a8 a9 g b0 b2 b3 b4 b5 b6
 refine ⟨K,_,e,⟨hml,hdl,hd18,by simp,by simp,by simp⟩,hc,hK.imp id λ⟨h1,e1,e2,e3,e4,e5,e6,e7,e8,e9⟩=>⟨h1,?_⟩⟩
 subst e1 e2 e3 e4 e5 e6 e7 e8 e9
 rfl
theorem xZ {g l:Bool} {dg:List UInt8} {x:Int} {m d:List UInt8} {k0 k1 k2:Int} (h:chkD g l dg x 0 m d k0 k1 k2=0) (hm:m≠[]) (hp:0<=k0/\0<=k1):chkD g l dg x 0 m [] k0 k1 0=0:=by
 obtain ⟨c1,c2,c3,c4⟩:=sS h
 unfold chkD
 have h2:cj m []=2:=by unfold cj;simp [hm]
 have ha:allM k0 k1 0 2=0:=by
  unfold allM at c4 ⊢
  by_cases hx:3<k0\/3<k1\/3<k2\/(cj m d<2/\k1≠0)\/(cj m d<3/\k2≠0)
  ·rw [if_pos hx] at c4;cases c4
  ·rw [if_neg (by omega)]
 rw [c1,h2,ha]
 have:(!(m==[])&&(!(decide (0<sea m))&&!(ck m 12)))=false:=by
  rcases c2 with h | h | h
  ·rw [h];rfl
  ·rw [decide_eq_true h];simp
  ·rw [h];simp
 rw [this]
 rfl
theorem Ac {g l:Bool} {dg:List UInt8} {x:Int} {m d:List UInt8} {k0 k1 k2:Int} (h:chkD g l dg x 0 m d k0 k1 k2=0):chkD g l dg x 0 [] [] k0 0 0=0:=by
 obtain ⟨c1,c2,c3,c4⟩:=sS h
 have hy:yrD g l dg x 0 []=true:=by
  unfold yrD at c1 ⊢
  by_cases hok:okY g l dg x 0
  ·rw [if_pos hok]
   unfold yrB
   rfl
  ·rw [if_neg hok] at c1;cases c1
 have ha:allM k0 0 0 1=0:=by
  unfold allM at c4 ⊢
  by_cases hx:3<k0\/3<k1\/3<k2\/(cj m d<2/\k1≠0)\/(cj m d<3/\k2≠0)
  ·rw [if_pos hx] at c4;cases c4
  ·rw [if_neg (by omega)]
 unfold chkD
 rw [hy,show cj [] []=1 from rfl,ha]
 rfl
theorem qx {g l:Bool} {dg:List UInt8} {x q:Int} {m:List UInt8} {k0 k1 k2:Int} (h:chkD g l dg x q m [] k0 k1 k2=0):chkF g l dg x q m [] k0 k1 k2=0:=by
 unfold chkF
 rw [if_neg (λh=>h.2.1 rfl),h]
theorem tR (x:TD):1<=coT x/\coT x<=3:=kO _ _
theorem cutI {x:TD} (hs:smT x) (hp:plT x=true) {n:Nat} (h1:1<=n) (h2:n<=coT x):∃y:TD,fv 20000000 x (n:Int)=some y/\smT y/\plT y=true/\coT y=n:=by
 obtain ⟨hc,he,hse⟩:=gg.1 hp
 obtain ⟨hq,E⟩:=yA hc he
 have hcd:=pc hc
 obtain ⟨g,l,dg,e,q,m,d,k0,k1,k2⟩:=x
 obtain ⟨s1,s2,s3,s4,s5,s6⟩:=hs
 simp only at s1 s2 s3 s4 s5 s6 hcd hq E
 subst hq
 have hc3:=tR (g,l,dg,e,0,m,d,k0,k1,k2)
 have exD0:exD dg m d 0=true:=he
 obtain ⟨_,_,p3⟩:=l9 hc
 have hco:coT (g,l,dg,e,0,m,d,k0,k1,k2)=cj m d:=rfl
 unfold fv
 by_cases n3:n<3
 ·rw [decide_eq_true (show (n:Int)<3 by omega),cond_true]
  by_cases n2:n<2
  ·rw [decide_eq_true (show (n:Int)<2 by omega),cond_true]
   have n1:n=1:=by omega
   subst n1
   have hcd1:=Ac hcd
   exact ⟨_,rfl,⟨by simp,s2,by simp,s4,by simp,by simp⟩,gg.2 ⟨qx hcd1,(ze exD0).2,by show ¬0<sea [];decide⟩,rfl⟩
  ·rw [decide_eq_false (show ¬(n:Int)<2 by omega),cond_false]
   have n1:n=2:=by omega
   subst n1
   have hm:m≠[]:=by
    rintro rfl
    rw [hco] at h2
    unfold cj at h2
    by_cases hd:d=[]
    ·simp [hd] at h2
    ·exact absurd rfl (p3 hd).1
   have hcd1:=xZ hcd hm ⟨s4,s5⟩
   exact ⟨_,rfl,⟨s1,s2,by simp,s4,s5,by simp⟩,gg.2 ⟨qx hcd1,(ze exD0).1,hse⟩,by show cj m []=2;unfold cj;simp [hm]⟩
 ·rw [decide_eq_false (show ¬(n:Int)<3 by omega),cond_false,decide_eq_false (show ¬(n:Int)<2 by omega),cond_false]
  exact ⟨_,rfl,⟨s1,s2,s3,s4,s5,s6⟩,hp,by omega⟩
theorem yC {p:TD} {all:Bool} (hp:plT p=true):itE p false d0 all=0:=by
 obtain ⟨hc,he,_⟩:=gg.1 hp
 rw [A9 hc,he]
 have:eqD d0 d0=true:=kl.2 rfl
 rw [this];simp
theorem sL {x y:TD} {all:Bool} (hx:plT x=true) (hy:plT y=true) (hc:coT x=coT y) (hd:(dyT x).1<=(dyT y).1):itE x true y all=0:=by
 obtain ⟨c1,e1,_⟩:=gg.1 hx
 obtain ⟨c2,e2,_⟩:=gg.1 hy
 rw [EF c1 c2,e1]
 have:ordB x y=true:=by unfold ordB;rw [hx,hy,decide_eq_true hc,decide_eq_true hd];rfl
 rw [this];simp
theorem F1 {a0 a2 a3 a4 a5 a6 a7 a8 a9:Int} (g:Bool) {b0 b2 b3 b4 b5 b6 b7 b8 b9:Int} (f:Bool) (R:Int) (all:Bool) (ha:wfD a0 a2 a3 a4 a5 a6 a7 a8 a9) (hb:wfD b0 b2 b3 b4 b5 b6 b7 b8 b9):
  ∃x r y,dQ 20000000 a0 g a2 a3 a4 a5 a6 a7 a8 a9 R b0 f b2 b3 b4 b5 b6 b7 b8 b9 all=some (x,r,y)/\smT x/\smT y/\itE x r y all=0:=by
 unfold dQ
 cases (Int.tmod R 2==1)
 ·rw [cond_false]
  cases all
  ·obtain ⟨x,e,hs,hc⟩:=DofI g ha
   refine ⟨x,false,d0,by rw [cond_false,e];rfl,hs,nA,?_⟩
   have:eqD d0 d0=true:=kl.2 rfl
   rw [A9 hc,this];simp
  ·obtain ⟨x,e,hs,hc,he,_⟩:=ExI g ha
   refine ⟨x,false,d0,by rw [cond_true,e];rfl,hs,nA,?_⟩
   have:eqD d0 d0=true:=kl.2 rfl
   rw [A9 hc,this,he];simp
 ·rw [cond_true]
  obtain ⟨x,ex,sx,px⟩:=vC g ha
  obtain ⟨y,ey,sy,py⟩:=vC f hb
  rw [ex,ey]
  simp only [ob,rcoT]
  have hn:(cond (decide (((coT y:Nat):Int)<((coT x:Nat):Int))) ((coT y:Nat):Int) ((coT x:Nat):Int))=((min (coT x) (coT y):Nat):Int):=by
   by_cases h:coT y<coT x
   ·rw [decide_eq_true (by omega),cond_true];omega
   ·rw [decide_eq_false (by omega),cond_false];omega
  rw [hn]
  have c1:=tR x
  have c2:=tR y
  obtain ⟨u,eu,su,pu,nu⟩:=cutI sx px (n:=min (coT x) (coT y)) (by omega) (by omega)
  obtain ⟨v,ev,sv,pv,nv⟩:=cutI sy py (n:=min (coT x) (coT y)) (by omega) (by omega)
  obtain ⟨cu,xu,_⟩:=gg.1 pu
  obtain ⟨cv,xv,_⟩:=gg.1 pv
  rw [eu,ev]
  simp only [rdT su cu xu,rdT sv cv xv,u2]
  by_cases hd:(dyT u).1>(dyT v).1
  ·rw [decide_eq_true hd]
   exact ⟨v,true,u,rfl,sv,su,sL pv pu (by omega) (by omega)⟩
  ·rw [decide_eq_false hd]
   exact ⟨u,true,v,rfl,su,sv,sL pu pv (by omega) (by omega)⟩
def wfR (r:TR):Prop:=wfD r.1 r.2.2.1 r.2.2.2.1 (d4 r).1 (d4 r).2.1 (d4 r).2.2.1 (d4 r).2.2.2.1 (d8 r).1 (d8 r).2.1/\
 wfD (d8 r).2.2.2.1 (d4 (d8 r)).2.1 (d4 (d8 r)).2.2.1 (d4 (d8 r)).2.2.2.1 (d16 r).1 (d16 r).2.1 (d16 r).2.2.1 (d16 r).2.2.2.1 (d4 (d16 r))
theorem pR {A:Type} {f:Nat->A->Int}:∀{L:List A} {k:Nat},(∀i t,L[i]?=some t->f (k+i) t=0)->lE f k L=none
 | [],_,_=>rfl
 | t::r,k,h=>by
  have h0:=h 0 t rfl
  rw [Nat.add_zero] at h0
  rw [lE,if_neg (λh=>h h0)]
  exact pR λi u hu=>by rw [Nat.add_assoc,Nat.add_comm 1 i];exact h (i+1) u hu
structure RightE (k:Int) (D:TD) (KF:Int) (DF:TD) (KT:Int) (DT:TD) (e l:Bool) (I:List TI):Prop where
 sm:smE D DF DT I
 first:mJ k D KF DF KT DT e l I=(0,0)
 len:I.length<=5
 kind:1<=k/\k<=4
 its:∀t∈I,itI t (k==4)=0
theorem yn {k:Int} (hk:k=3\/k=4) {e l:Bool} {I:List TI} (h1:1<=I.length) (h5:I.length<=5) (hs:∀t∈I,smI t/\itI t (k==4)=0) (he:e=true->∃t,I[0]?=some t/\endB t=true)
  (hl:l=true->∃t,I[I.length - 1]?=some t/\endB t=true) (hel:e=true->l=true->I.length≠1):RightE k d0 0 d0 0 d0 e l I:=by
 refine ⟨⟨nA,nA,nA,λt ht=>(hs t ht).1⟩,?_,h5,by omega,λt ht=>(hs t ht).2⟩
 have hu:unuB k d0 0 d0 0 d0 e l I.length=false:=by
  have hz:eqD d0 d0=true:=kl.2 rfl
  unfold unuB
  rw [hz]
  rcases hk with rfl | rfl<;>rfl
 unfold mJ
 rw [if_neg (by omega),if_neg (by rw [hu];simp),if_neg (by omega),if_neg (by omega),if_neg (by omega),if_neg (by omega)]
 unfold rW
 rw [pR λi t ht=>?_]
 rw [Nat.zero_add]
 have hil:i<I.length:=(List.getElem?_eq_some_iff.1 ht).1
 unfold errI
 rw [(hs t (List.mem_of_getElem? ht)).2,if_neg (λh=>h rfl),if_neg]
 intro h
 simp only [Bool.or_eq_true,Bool.and_eq_true,decide_eq_true_eq,Bool.not_eq_true'] at h
 rcases h with ⟨⟨a,b⟩,c⟩ | ⟨⟨a,b⟩,c⟩ | ⟨a,b,c⟩
 ·obtain ⟨u,u1,u2⟩:=he a
  subst b
  rw [ht] at u1;cases u1
  rw [u2] at c;cases c
 ·obtain ⟨u,u1,u2⟩:=hl a
  rw [show I.length - 1=i by omega,ht] at u1;cases u1
  rw [u2] at c;cases c
 ·exact hel a b c
theorem p8 {p:TD} {all:Bool} (hs:smT p) (hp:plT p=true):smI (mkI p false d0)/\itI (mkI p false d0) all=0/\endB (mkI p false d0)=true:=
 ⟨⟨hs,nA⟩,yC hp,by unfold endB;show (!false&&plT p)=true;rw [hp];rfl⟩
theorem Cv (n x0:Nat) (x1:Int) (x2:Bool) (x3:Int) (x4:TD) (x5:Int) (x6:TD) (x7:Int) (x8:TD) (x9 x10:Bool) {L:List TR} (x12:Int) (x13:TD) (x14:Int) (x15:TD) (x16:Int) (x17:TD) (x18 x19:Bool) (x20 I:List TI)
  {r:TR} {p:TD} (h0:0<x0) (hr:L[0]?=some r) (hI:0<I.length) (hp:aZ n r.1 r.2.1 r.2.2.1 r.2.2.2.1 (d4 r).1 (d4 r).2.1 (d4 r).2.2.1 (d4 r).2.2.2.1 (d8 r).1 (d8 r).2.1=some p):
  eg n x0 x1 x2 x3 x4 x5 x6 x7 x8 x9 x10 L x12 x13 x14 x15 x16 x17 x18 x19 x20 I=some (x0,x1,x3,x4,x5,x6,x7,x8,x9,x10,L,x12,x13,x14,x15,x16,x17,x18,x19,x20,if x2=true then I.set 0 (mkI p false d0) else I)/\
  dE n x0 x1 x2 L x3 x4 x5 x6 x7 x8 x9 x10 x12 x13 x14 x15 x16 x17 x18 x19 x20 I=some (x0,x1,L,x3,x4,x5,x6,x7,x8,x9,x10,x12,x13,x14,x15,x16,x17,x18,x19,x20,if x2=true then I.set 0 (mkI p false d0) else I):=by
 unfold eg dE
 cases x2
 ·exact ⟨rfl,rfl⟩
 ·have i0:ix x0 (0:Int)=some 0:=bE (i:=0) h0
  have i1:ix I.length (0:Int)=some 0:=bE (i:=0) hI
  simp only [cond_true,i0,i1,hr,hp,ob,List.getElem?_eq_getElem hI,if_true]
  constructor<;>trivial
theorem CI (n x0 m:Nat) (x2:Bool) (x3:Int) (x4:TD) (x5:Int) (x6:TD) (x7:Int) (x8:TD) (x9 x10:Bool) {L:List TR} (x12:Int) (x13:TD) (x14:Int) (x15:TD) (x16:Int) (x17:TD) (x18 x19:Bool) (x20 I:List TI)
  {r:TR} {p:TD} (h0:m<x0) (hr:L[m]?=some r) (hI:m<I.length) (hp:aZ n r.1 r.2.1 r.2.2.1 r.2.2.2.1 (d4 r).1 (d4 r).2.1 (d4 r).2.2.1 (d4 r).2.2.2.1 (d8 r).1 (d8 r).2.1=some p):
  eh n x0 (m:Int) x2 x3 x4 x5 x6 x7 x8 x9 x10 L x12 x13 x14 x15 x16 x17 x18 x19 x20 I=some ((m:Int),x3,x4,x5,x6,x7,x8,x9,x10,x12,x13,x14,x15,x16,x17,x18,x19,x20,if x2=true then I.set m (mkI p false d0) else I)/\
  dK n x0 (m:Int) x2 L x3 x4 x5 x6 x7 x8 x9 x10 x12 x13 x14 x15 x16 x17 x18 x19 x20 I=some ((m:Int),x3,x4,x5,x6,x7,x8,x9,x10,x12,x13,x14,x15,x16,x17,x18,x19,x20,if x2=true then I.set m (mkI p false d0) else I):=by
 unfold eh dK
 cases x2
 ·exact ⟨rfl,rfl⟩
 ·simp only [cond_true,bE h0,bE hI,hr,hp,ob,List.getElem?_eq_getElem hI,if_true]
  constructor<;>trivial
theorem wx {L:List TR} (hL:∀r∈L,wfR r) {n:Nat} (hn:n<=L.length) (h5:n<=5) (k:Int) (e l:Bool) (x6:List TI):
  ∃I:List TI,I.length=n/\(∀t∈I,smI t/\itI t (k==4)=0)/\
   ah (bz 20000000) 20000000 (n,0,L,k,e,l,x6,([]:List TI))=some (n,0,d0,0,d0,0,d0,false,false,L,k,d0,0,d0,0,d0,e,l,x6,I)/\
   ah (bm 20000000) 20000000 (n,0,L,k,e,l,x6,([]:List TI))=some (n,L,0,d0,0,d0,0,d0,false,false,k,d0,0,d0,0,d0,e,l,x6,I):=by
 have hst:∀i (r:TR) (acc:List TI),i<n->L[i]?=some r->acc.length=i->∃b:TI,(smI b/\itI b (k==4)=0)/\
   bz 20000000 (n,(i:Int),L,k,e,l,x6,acc)=some (.inl (n,((i+1:Nat):Int),L,k,e,l,x6,acc++[b]))/\
   bm 20000000 (n,(i:Int),L,k,e,l,x6,acc)=some (.inl (n,((i+1:Nat):Int),L,k,e,l,x6,acc++[b])):=by
  intro i r acc hi hr ha
  obtain ⟨w1,w2⟩:=hL r (List.mem_of_getElem? hr)
  obtain ⟨x,f,y,e1,sx,sy,e0⟩:=F1 r.2.1 (d4 (d8 r)).1 (d8 r).2.2.1 (k==4) w1 w2
  refine ⟨mkI x f y,⟨⟨sx,sy⟩,e0⟩,?_,?_⟩
  ·unfold bz
   simp only [u8,u7,u6,u5,u4,u3,u2]
   rw [decide_eq_true (show (i:Int)<((n:Nat):Int) by omega),bE hi]
   simp only [cond_true,ob,hr,e1]
   rw [iO (by omega),show Nat.ble (acc.length+1) bc=true from Nat.ble_eq_true_of_le (by unfold bc;omega)]
   rfl
  ·unfold bm
   simp only [u8,u7,u6,u5,u4,u3,u2]
   rw [decide_eq_true (show (i:Int)<((n:Nat):Int) by omega),bE hi]
   simp only [cond_true,ob,hr,e1]
   rw [iO (by omega),show Nat.ble (acc.length+1) bc=true from Nat.ble_eq_true_of_le (by unfold bc;omega)]
   rfl
 have done1:∀acc:List TI,bz 20000000 (n,(n:Int),L,k,e,l,x6,acc)=some (.inr (n,0,d0,0,d0,0,d0,false,false,L,k,d0,0,d0,0,d0,e,l,x6,acc)):=λacc=>by
  unfold bz
  simp only [u8,u7,u6,u5,u4,u3,u2]
  rw [decide_eq_false (show ¬((n:Nat):Int)<((n:Nat):Int) by omega)]
  rfl
 have done2:∀acc:List TI,bm 20000000 (n,(n:Int),L,k,e,l,x6,acc)=some (.inr (n,L,0,d0,0,d0,0,d0,false,false,k,d0,0,d0,0,d0,e,l,x6,acc)):=λacc=>by
  unfold bm
  simp only [u8,u7,u6,u5,u4,u3,u2]
  rw [decide_eq_false (show ¬((n:Nat):Int)<((n:Nat):Int) by omega)]
  rfl
 have main:∀(r i:Nat) (acc:List TI),i+r=n->acc.length=i->(∀t∈acc,smI t/\itI t (k==4)=0)->∀N,r<N->∃I:List TI,I.length=n/\(∀t∈I,smI t/\itI t (k==4)=0)/\
   ah (bz 20000000) N (n,(i:Int),L,k,e,l,x6,acc)=some (n,0,d0,0,d0,0,d0,false,false,L,k,d0,0,d0,0,d0,e,l,x6,I)/\
   ah (bm 20000000) N (n,(i:Int),L,k,e,l,x6,acc)=some (n,L,0,d0,0,d0,0,d0,false,false,k,d0,0,d0,0,d0,e,l,x6,I):=by
  intro r
  induction r with
  | zero=>
   intro i acc hi ha hq N hN
   obtain ⟨N,rfl⟩:∃k,N=k+1:=⟨N - 1,by omega⟩
   obtain rfl:i=n:=by omega
   exact ⟨acc,ha,hq,by rw [ah,done1],by rw [ah,done2]⟩
  | succ r ih=>
   intro i acc hi ha hq N hN
   obtain ⟨N,rfl⟩:∃k,N=k+1:=⟨N - 1,by omega⟩
   obtain ⟨b,hb,s1,s2⟩:=hst i _ acc (by omega) (List.getElem?_eq_getElem (show i<L.length by omega)) ha
   obtain ⟨I,o1,o2,o3,o4⟩:=ih (i+1) (acc++[b]) (by omega) (by simp [ha]) (λx hx=>by
    rcases List.mem_append.1 hx with h | h
    ·exact hq x h
    ·rw [List.mem_singleton.1 h];exact hb) N (by omega)
   exact ⟨I,o1,o2,by rw [ah,s1];exact o3,by rw [ah,s2];exact o4⟩
 exact main n 0 [] (by omega) rfl (λt ht=>by cases ht) 20000000 (by omega)
theorem EJ (n x0:Nat) (x1:Int) (x2:Bool) (P:List TR) (x4 x5 x6 x7:Int) (L:List TR) (x9:List TI):
  eH n x0 x1 x2 P x4 x5 x6 x7 L x9=some (x0,x1,x2||(x1==1||x1==2),P,x4,x5,x6,x7,L,x9)/\
  d5 n x0 x1 x2 P x4 x5 x6 x7 x9=some (x0,x1,x2||(x1==1||x1==2),P,x4,x5,x6,x7,x9):=by
 unfold eH d5 fH fj
 cases x2<;>cases (x1==1)<;>exact ⟨rfl,rfl⟩
theorem Cn (n x0:Nat) (x1:Int) (x2:Bool) (P:List TR) (x4 x5 x6 x7:Int) (L:List TR) (x9:List TI):
  d6 n x0 x1 x2 P x4 x5 x6 x7 L x9=some (x0,x2||x1==4,P,x4,x5,x6,x7,L,x9)/\
  dI n x0 x1 x2 P x4 x5 x6 x7 x9=some (x0,x2||x1==4,P,x4,x5,x6,x7,x9):=by
 unfold d6 dI
 cases x2<;>exact ⟨rfl,rfl⟩
theorem B6 (n x0:Nat) (b:Bool) (L:List TR) (e l:Bool) (x5 x6:List TI):
  dZ n x0 b L e l x5 x6=some (x0,L,(if b then 4 else 3),e,l,x5,x6)/\dL n x0 b L e l x5 x6=some (x0,L,(if b then 4 else 3),e,l,x5,x6):=by
 unfold dZ dL
 cases b<;>exact ⟨rfl,rfl⟩
theorem CH (n:Nat) (x0 x1:Int) (x2:TD) (x3:Int) (x4:TD) (x5:Int) (x6:TD) (x7 x8:Bool) (x9:Int) (x10:TD) (x11:Int) (x12:TD) (x13:Int) (x14:TD) (x15 x16:Bool) (x17 x18:List TI):
  cW n x0 x1 x2 x3 x4 x5 x6 x7 x8 x9 x10 x11 x12 x13 x14 x15 x16 x17 x18=some ((x0==0)&&x15,x1,x2,x3,x4,x5,x6,x7,x8,x9,x10,x11,x12,x13,x14,x15,x16,x17,x18):=by
 unfold cW
 cases (x0==0)<;>rfl
theorem Cs (n:Nat) (x0:Bool) (x1:Int) (x2:TD) (x3:Int) (x4:TD) (x5:Int) (x6:TD) (x7 x8:Bool) (x9:Int) (x10:TD) (x11:Int) (x12:TD) (x13:Int) (x14:TD) (x15 x16:Bool) (x17 x18:List TI):
  cS n x0 x1 x2 x3 x4 x5 x6 x7 x8 x9 x10 x11 x12 x13 x14 x15 x16 x17 x18=some (x1,x2,x3,x4,x5,x6,x7,x8,x9,x10,x11,x12,x13,x14,x15,!x0&&x16,x17,x18):=by
 unfold cS
 cases x0<;>rfl
theorem nk {x:TD} (hs:smT x) (hc:cF x=0):RightE 1 x 0 d0 0 d0 false false []:=by
 refine ⟨⟨hs,nA,nA,λt ht=>by cases ht⟩,?_,by simp,by omega,by simp⟩
 have hz:eqD d0 d0=true:=kl.2 rfl
 have hu:unuB 1 x 0 d0 0 d0 false false ([]:List TI).length=false:=by unfold unuB;rw [hz];rfl
 unfold mJ
 rw [if_neg (by omega),if_neg (by rw [hu];simp),if_pos rfl,hc]
theorem lR {KF KT:Int} {x y:TD} (hx:smT x) (hy:smT y) (h:nz KF x KT y=0):RightE 2 d0 KF x KT y false false []:=by
 refine ⟨⟨nA,hx,hy,λt ht=>by cases ht⟩,?_,by simp,by omega,by simp⟩
 have hz:eqD d0 d0=true:=kl.2 rfl
 have hu:unuB 2 d0 KF x KT y false false ([]:List TI).length=false:=by unfold unuB;rw [hz];rfl
 unfold mJ
 rw [if_neg (by omega),if_neg (by rw [hu];simp),if_neg (by omega),if_pos rfl,h]
theorem zp (x:TD):ph 1 x=if cF x=0 then if exT x=true then 0 else 11 else cF x:=by
 unfold ph chkB
 rw [if_pos rfl]
 rfl
theorem pA {x:TD} (h:ph 1 x=0):cF x=0/\exT x=true:=by
 rw [zp] at h
 by_cases hc:cF x=0
 ·rw [if_pos hc] at h
  by_cases he:exT x=true
  ·exact ⟨hc,he⟩
  ·rw [if_neg he] at h;cases h
 ·rw [if_neg hc] at h;exact absurd h hc
theorem As {x:TD} (hc:cF x=0) (he:exT x=true):ph 1 x=0:=by
 rw [zp,if_pos hc,if_pos he]
theorem rS {KF KT:Int} {x y:TD} (h1:ph KF x=0) (h2:ph KT y=0):nz KF x KT y=if KF≠1/\KT≠1 then 11 else if KF≠1\/KT≠1 then 0 else if (dyT x).1>(dyT y).2 then 11 else 0:=by
 unfold nz xn
 rw [h1,h2,if_neg (λh=>h rfl),if_neg (λh=>h rfl)]
theorem Ch {n x0:Nat} {L:List TR} {r:TR} (h0:0<x0) (hr:L[0]?=some r) (hn:n=20000000) (hw:wfR r) {KF KT:Int} {x y:TD} (sx:smT x) (sy:smT y) (h1:ph KF x=0) (h2:ph KT y=0) (X:List TI):
  ∃KF' x' KT' y',dY n x0 (nz KF x KT y != 0) L KF x KT y X=some (KF',x',KT',y',X)/\dD n x0 (nz KF x KT y != 0) L KF x KT y X=some (KF',x',KT',y',X)/\
   smT x'/\smT y'/\nz KF' x' KT' y'=0:=by
 subst hn
 unfold dY dD
 by_cases hp:nz KF x KT y=0
 ·rw [show (nz KF x KT y != 0)=false from by simp [hp]]
  exact ⟨KF,x,KT,y,rfl,rfl,sx,sy,hp⟩
 ·rw [show (nz KF x KT y != 0)=true from by simp [hp],cond_true,cond_true]
  unfold fE fi
  by_cases hk:KF=1
  ·subst hk
   have hk2:KT=1:=by
    rw [rS h1 h2] at hp
    by_cases h:KT=1
    ·exact h
    ·rw [if_neg (by simp),if_pos (.inr h)] at hp
     exact absurd rfl hp
   subst hk2
   obtain ⟨c1,e1⟩:=pA h1
   obtain ⟨c2,e2⟩:=pA h2
   have l1:=B8 c1 e1
   have l2:=B8 c2 e2
   have hgt:(dyT x).1>(dyT y).2:=by
    rw [rS h1 h2,if_neg (by simp),if_neg (by simp)] at hp
    by_cases h:(dyT x).1>(dyT y).2
    ·exact h
    ·rw [if_neg h] at hp;exact absurd rfl hp
   refine ⟨1,y,1,x,rfl,rfl,sy,sx,?_⟩
   rw [rS h2 h1,if_neg (by simp),if_neg (by simp),if_neg (by omega)]
  ·obtain ⟨z,e,sz,cz,xz,_⟩:=ExI (d4 (d8 r)).1 hw.2
   have e':aJ 20000000 (d8 r).2.2.2.1 (d4 (d8 r)).1 (d4 (d8 r)).2.1 (d4 (d8 r)).2.2.1 (d4 (d8 r)).2.2.2.1 (d16 r).1 (d16 r).2.1 (d16 r).2.2.1 (d16 r).2.2.2.1 (d4 (d16 r))=some z:=e
   have i0:ix x0 (0:Int)=some 0:=bE (i:=0) h0
   rw [show (KF != 1)=true from by simp [hk],cond_true,i0]
   simp only [ob,hr,e',u5,u4,u3,u2]
   refine ⟨KF,x,1,z,rfl,rfl,sx,sz,?_⟩
   rw [rS h1 (As cz xz),if_neg (by simp),if_pos (.inl hk)]
theorem zj {L:List TR} (hL:∀r∈L,wfR r) {n:Nat} (h1:1<=n) (hn:n<=L.length) (h5:n<=5) {k:Int} (hk:k=3\/k=4) (e l:Bool) {I:List TI} (hI:I.length=n) (hit:∀t∈I,smI t/\itI t (k==4)=0)
  {p q:TD} (sp:smT p) (pp:plT p=true) (sq:smT q) (pq:plT q=true):
  RightE k d0 0 d0 0 d0 e (!(decide (n=1)&&e)&&l) (if l=true then (if e=true then I.set 0 (mkI p false d0) else I).set (n - 1) (mkI q false d0) else if e=true then I.set 0 (mkI p false d0) else I):=by
 obtain ⟨p1,p2,p3⟩:=p8 (all:=(k==4)) sp pp
 obtain ⟨q1,q2,q3⟩:=p8 (all:=(k==4)) sq pq
 have hA:∀t∈(if e=true then I.set 0 (mkI p false d0) else I),smI t/\itI t (k==4)=0:=by
  intro t ht
  split at ht
  ·rcases List.mem_or_eq_of_mem_set ht with h | h
   ·exact hit t h
   ·rw [h];exact ⟨p1,p2⟩
  ·exact hit t ht
 have hlA:(if e=true then I.set 0 (mkI p false d0) else I).length=n:=by split<;>simp [hI]
 have hA0:e=true->(if e=true then I.set 0 (mkI p false d0) else I)[0]?=some (mkI p false d0):=by
  intro h
  rw [if_pos h,List.getElem?_set_self (by omega)]
 generalize hgA:(if e=true then I.set 0 (mkI p false d0) else I)=A at hA hlA hA0
 have hlB:(if l=true then A.set (n - 1) (mkI q false d0) else A).length=n:=by split<;>simp [hlA]
 have hB:∀t∈(if l=true then A.set (n - 1) (mkI q false d0) else A),smI t/\itI t (k==4)=0:=by
  intro t ht
  split at ht
  ·rcases List.mem_or_eq_of_mem_set ht with h | h
   ·exact hA t h
   ·rw [h];exact ⟨q1,q2⟩
  ·exact hA t ht
 refine yn hk (by omega) (by omega) hB (λhe=>?_) (λhl=>?_) (λhe hl=>?_)
 ·by_cases hl:l=true
  ·rw [if_pos hl]
   by_cases hn1:n=1
   ·subst hn1
    exact ⟨mkI q false d0,by rw [List.getElem?_set_self (by omega)],q3⟩
   ·exact ⟨mkI p false d0,by rw [List.getElem?_set_ne (by omega)];exact hA0 he,p3⟩
  ·rw [if_neg hl]
   exact ⟨_,hA0 he,p3⟩
 ·simp only [Bool.and_eq_true] at hl
  rw [if_pos hl.2,List.length_set,hlA]
  exact ⟨mkI q false d0,by rw [List.getElem?_set_self (by omega)],q3⟩
 ·rw [he] at hl
  simp only [Bool.and_true,Bool.and_eq_true,Bool.not_eq_true',decide_eq_false_iff_not] at hl
  rw [hlB]
  exact hl.1
theorem DB:wfR ((0,false,0,0,0,0,0,0,0,0,0,0,false,0,0,0,0,0,0,0,0):TR):=by
 have z:natI 0 256:=⟨by omega,by omega⟩
 have z2:natI 0 65536:=⟨by omega,by omega⟩
 exact ⟨⟨z,z2,z,z,z,z,z,z,z⟩,⟨z,z2,z,z,z,z,z,z,z⟩⟩
theorem min5 (m:Nat):cond (decide ((5:Int)<((m:Nat):Int))) 5 ((m:Nat):Int)=((min 5 m:Nat):Int):=by
 by_cases h:5<m
 ·rw [decide_eq_true (by omega),cond_true];omega
 ·rw [decide_eq_false (by omega),cond_false];omega
theorem EW (k:Nat):((((k%8:Nat):Int)==0)||((((k%8:Nat):Int)==1)||(((k%8:Nat):Int)==2)))=decide (k%8<3)/\((((k%8:Nat):Int)==3)||(((k%8:Nat):Int)==4))=decide (k%8=3\/k%8=4):=by
 have h:k%8<8:=Nat.mod_lt _ (by omega)
 generalize k%8=j at *
 rcases (by omega:j=0\/j=1\/j=2\/j=3\/j=4\/j=5\/j=6\/j=7) with rfl | rfl | rfl | rfl | rfl | rfl | rfl | rfl<;>decide
theorem E_of {K E0 E1 B:Int} (hK:natI K 256) (h0:natI E0 256) (h1:natI E1 256) (hB:natI B 256) {L:List TR} (hL:∀r∈L,wfR r):
  ∃k D KF DF KT DT e l I,dM 20000000 K E0 E1 B L=some (k,D,KF,DF,KT,DT,e,l,I)/\RightE k D KF DF KT DT e l I:=by
 obtain ⟨K,rfl,bK⟩:=hK.nat
 have t8:Int.tmod (K:Int) 8=((K%8:Nat):Int):=rfl
 obtain ⟨k1,k2⟩:=EW K
 unfold dM gi
 rw [show (len L==0)=decide (L.length=0) from sU _]
 generalize hM:(if L=[] then [(0,false,0,0,0,0,0,0,0,0,0,0,false,0,0,0,0,0,0,0,0)] else L:List TR)=M
 have hMw:∀r∈M,wfR r:=by
  intro r hr
  rw [<-hM] at hr
  split at hr
  ·rw [List.mem_singleton.1 hr];exact DB
  ·exact hL r hr
 have hMl:1<=M.length:=by
  rw [<-hM]
  split
  ·simp
  ·rename_i h
   exact List.length_pos_iff.2 h
 have hn:min 5 M.length<=M.length:=Nat.min_le_right _ _
 have hm1:1<=min 5 M.length:=by omega
 have hm5:min 5 M.length<=5:=Nat.min_le_left _ _
 obtain ⟨r,hr⟩:∃r,M[0]?=some r:=⟨M[0],List.getElem?_eq_getElem (by omega)⟩
 obtain ⟨r',hr'⟩:∃r,M[min 5 M.length - 1]?=some r:=⟨M[min 5 M.length - 1],List.getElem?_eq_getElem (by omega)⟩
 have hw:=hMw r (List.mem_of_getElem? hr)
 have hw':=hMw r' (List.mem_of_getElem? hr')
 obtain ⟨x,ex,sx,cx⟩:=DofI r.2.1 hw.1
 obtain ⟨KF,bf,ebf,sbf,cbf,_⟩:=BofI r.2.1 h0 hw.1
 obtain ⟨KT,bt,ebt,sbt,cbt,_⟩:=BofI (d4 (d8 r)).1 h1 hw.2
 obtain ⟨p,ep,sp,pp⟩:=vC r.2.1 hw.1
 obtain ⟨q,eq,sq,pq⟩:=vC r'.2.1 hw'.1
 have i0:ix (min 5 M.length) (0:Int)=some 0:=bE (i:=0) (by omega)
 have ebx:bx M.length (cond (decide ((5:Int)<len M)) 5 (len M))=some (min 5 M.length):=by
  rw [show (cond (decide ((5:Int)<len M)) 5 (len M))=((min 5 M.length:Nat):Int) from min5 _,dS hn]
 have hlast:w64 (((min 5 M.length:Nat):Int) - 1)=((min 5 M.length - 1:Nat):Int):=ui (by omega) (by omega)
 have hl0:(((min 5 M.length - 1:Nat):Int)==0)=decide (min 5 M.length=1):=by
  rw [sU];congr 1;exact propext (by omega)
 by_cases hnil:L=[]
 ·rw [if_pos hnil] at hM
  subst hnil
  rw [show decide (([]:List TR).length=0)=true from rfl,cond_true]
  simp only [obs,sm,ob,u7,u6,u5,u4,u3,u2,hM,ebx,t8,(EJ _ _ _ _ _ _ _ _ _ _ _).1,u10,u9,u8,k1]
  by_cases hs:K%8<3
  ·rw [decide_eq_true hs]
   simp only [cond_true,i0,hr,ex]
   exact ⟨_,_,_,_,_,_,_,_,_,rfl,nk sx cx⟩
  rw [decide_eq_false hs]
  simp only [cond_false,(Cn _ _ _ _ _ _ _ _ _ _ _).1,u9,u8,u7,u6,u5,u4,u3,u2,k2]
  by_cases hv:K%8=3\/K%8=4
  ·rw [decide_eq_true hv]
   have ebf':aY 20000000 E0 r.1 r.2.1 r.2.2.1 r.2.2.2.1 (d4 r).1 (d4 r).2.1 (d4 r).2.2.1 (d4 r).2.2.2.1 (d8 r).1 (d8 r).2.1=some (KF,bf):=ebf
   have ebt':aY 20000000 E1 (d8 r).2.2.2.1 (d4 (d8 r)).1 (d4 (d8 r)).2.1 (d4 (d8 r)).2.2.1 (d4 (d8 r)).2.2.2.1 (d16 r).1 (d16 r).2.1 (d16 r).2.2.1 (d16 r).2.2.2.1 (d4 (d16 r))=some (KT,bt):=ebt
   obtain ⟨KF',x',KT',y',j1,_,s1,s2,hp⟩:=Ch (n:=20000000) (x0:=min 5 M.length) (by omega) hr rfl hw sbf sbt cbf cbt ([]:List TI)
   simp only [cond_true,i0,hr,ebf',ebt',uC sbf sbt,j1,u5,u4,u3,u2]
   exact ⟨_,_,_,_,_,_,_,_,_,rfl,lR s1 s2 hp⟩
  rw [decide_eq_false hv]
  generalize (Int.tmod B 2==1)=e
  generalize (Int.tmod (w8 (Int.tdiv B 2)) 2==1)=l
  rw [t8]
  generalize (((K%8:Nat):Int)==7)=b7
  obtain ⟨I,o1,o2,o3,_⟩:=wx hMw hn hm5 (if b7=true then 4 else 3) e l []
  have hk:(if b7=true then (4:Int) else 3)=3\/(if b7=true then (4:Int) else 3)=4:=by cases b7<;>simp
  simp only [cond_false,(B6 _ _ _ _ _ _ _ _).1,o3,hlast,u7,u6,u5,u4,u3,u2]
  simp only [u20,u19,u18,u17,u16,u15,u14,u13,u12,u11,u10,u9,u8,u7,u6,u5,u4,u3,u2]
  rw [(Cv 20000000 _ _ _ _ _ _ _ _ _ _ _ _ _ _ _ _ _ _ _ _ _ (by omega) hr (by omega) ep).1]
  simp only [u21,u20,u19,u18,u17,u16,u15,u14,u13,u12,u11,u10,u9,u8,u7,u6,u5,u4,u3,u2]
  rw [hlast,(CI 20000000 (min 5 M.length) (min 5 M.length - 1) _ _ _ _ _ _ _ _ _ _ _ _ _ _ _ _ _ _ _ (by omega) hr' (by split<;>simp [o1]<;>omega) eq).1]
  simp only [u21,u20,u19,u18,u17,u16,u15,u14,u13,u12,u11,u10,u9,u8,u7,u6,u5,u4,u3,u2,CH,Cs,hl0]
  exact ⟨_,_,_,_,_,_,_,_,_,rfl,zj hMw hm1 hn hm5 hk e l o1 o2 sp pp sq pq⟩
 ·rw [if_neg hnil] at hM
  subst hM
  rw [decide_eq_false (show ¬L.length=0 from λh=>hnil (List.eq_nil_of_length_eq_zero h)),cond_false]
  simp only [obs,sm,ob,u7,u6,u5,u4,u3,u2,ebx,t8,(EJ _ _ _ _ _ _ _ _ _ [] _).2,u10,u9,u8,k1]
  by_cases hs:K%8<3
  ·rw [decide_eq_true hs]
   simp only [cond_true,i0,hr,ex]
   exact ⟨_,_,_,_,_,_,_,_,_,rfl,nk sx cx⟩
  rw [decide_eq_false hs]
  simp only [cond_false,(Cn _ _ _ _ _ _ _ _ _ [] _).2,u9,u8,u7,u6,u5,u4,u3,u2,k2]
  by_cases hv:K%8=3\/K%8=4
  ·rw [decide_eq_true hv]
   have ebf':aY 20000000 E0 r.1 r.2.1 r.2.2.1 r.2.2.2.1 (d4 r).1 (d4 r).2.1 (d4 r).2.2.1 (d4 r).2.2.2.1 (d8 r).1 (d8 r).2.1=some (KF,bf):=ebf
   have ebt':aY 20000000 E1 (d8 r).2.2.2.1 (d4 (d8 r)).1 (d4 (d8 r)).2.1 (d4 (d8 r)).2.2.1 (d4 (d8 r)).2.2.2.1 (d16 r).1 (d16 r).2.1 (d16 r).2.2.1 (d16 r).2.2.2.1 (d4 (d16 r))=some (KT,bt):=ebt
   obtain ⟨KF',x',KT',y',_,j1,s1,s2,hp⟩:=Ch (n:=20000000) (x0:=min 5 L.length) (by omega) hr rfl hw sbf sbt cbf cbt ([]:List TI)
   simp only [cond_true,i0,hr,ebf',ebt',uC sbf sbt,j1,u5,u4,u3,u2]
   exact ⟨_,_,_,_,_,_,_,_,_,rfl,lR s1 s2 hp⟩
  rw [decide_eq_false hv]
  generalize (Int.tmod B 2==1)=e
  generalize (Int.tmod (w8 (Int.tdiv B 2)) 2==1)=l
  rw [t8]
  generalize (((K%8:Nat):Int)==7)=b7
  obtain ⟨I,o1,o2,_,o3⟩:=wx hMw hn hm5 (if b7=true then 4 else 3) e l []
  have hk:(if b7=true then (4:Int) else 3)=3\/(if b7=true then (4:Int) else 3)=4:=by cases b7<;>simp
  simp only [cond_false,(B6 _ _ _ _ _ _ _ _).2,o3,hlast,u7,u6,u5,u4,u3,u2]
  simp only [u20,u19,u18,u17,u16,u15,u14,u13,u12,u11,u10,u9,u8,u7,u6,u5,u4,u3,u2]
  rw [(Cv 20000000 _ _ _ _ _ _ _ _ _ _ _ _ _ _ _ _ _ _ _ _ _ (by omega) hr (by omega) ep).2]
  simp only [u21,u20,u19,u18,u17,u16,u15,u14,u13,u12,u11,u10,u9,u8,u7,u6,u5,u4,u3,u2]
  rw [hlast,(CI 20000000 (min 5 L.length) (min 5 L.length - 1) _ _ _ _ _ _ _ _ _ _ _ _ _ _ _ _ _ _ _ (by omega) hr' (by split<;>simp [o1]<;>omega) eq).2]
  simp only [u21,u20,u19,u18,u17,u16,u15,u14,u13,u12,u11,u10,u9,u8,u7,u6,u5,u4,u3,u2,CH,Cs,hl0]
  exact ⟨_,_,_,_,_,_,_,_,_,rfl,zj hMw hm1 hn hm5 hk e l o1 o2 sp pp sq pq⟩
theorem wb:cZ 20000000=some true:=by kernel_rfl
abbrev TZ:=fp
def wfZ (z:TZ):Prop:=natI z.2.1 256/\0<=(d8 z).2.1/\0<=(d8 z).2.2.1/\0<=(d8 z).2.2.2
theorem uY {x y:TD} {f:Bool} (hx:smT x) (hy:smT y):smI (mkI x f y):=⟨hx,hy⟩
theorem xO {I:List TI} (h:∀t∈I,smI t) {i:Nat} {t:TI} (ht:smI t):∀u∈I.set i t,smI u:=λu hu=>by
 rcases List.mem_or_eq_of_mem_set hu with h1 | h1
 ·exact h u h1
 ·rw [h1];exact ht
theorem DC {k:Int} {D:TD} {KF:Int} {DF:TD} {KT:Int} {DT:TD} {e l:Bool} {I:List TI} (h:smE D DF DT I) (hn:I.length<=100) {x:TD} (hx:smT x) (a:Int) {b:Int} (hb:natI b 256):
  ∃k' D' KF' DF' KT' DT' e' l' I',ga 20000000 k D KF DF KT DT e l a b x I=some (k',D',KF',DF',KT',DT',e',l',I')/\smE D' DF' DT' I'/\I'.length<=I.length+1:=by
 obtain ⟨b,rfl,hb⟩:=hb.nat
 obtain ⟨h1,h2,h3,h4⟩:=h
 unfold ga
 rw [show Nat.ble I.length bc=true from Nat.ble_eq_true_of_le (by unfold bc;omega),show Nat.ble (I.length+1) bc=true from Nat.ble_eq_true_of_le (by unfold bc;omega)]
 have hm:cond (decide (len I>1)) (len I) 1=((max I.length 1:Nat):Int):=by
  by_cases hl:1<I.length
  ·rw [show decide (len I>1)=true from decide_eq_true (by show (1:Int)<((I.length:Nat):Int);omega),cond_true]
   show ((I.length:Nat):Int)=_
   omega
  ·rw [show decide (len I>1)=false from decide_eq_false (by show ¬(1:Int)<((I.length:Nat):Int);omega),cond_false]
   omega
 have hw:w64 (b:Int)=(b:Int):=by show IntKind.wrap .i64 _=_;exact wrap_i64 _ (by omega) (by omega)
 rw [hm,hw,show ((((max I.length 1:Nat):Int))==0)=false from by rw [sU];exact decide_eq_false (by omega),show Int.tmod (b:Int) ((max I.length 1:Nat):Int)=((b%max I.length 1:Nat):Int) from rfl]
 have hix:0<I.length->b%max I.length 1<I.length:=λh0=>by
  have:=Nat.mod_lt b (show 0<max I.length 1 by omega)
  omega
 have hpos:decide (len I>0)=decide (0<I.length):=by
  show decide ((0:Int)<((I.length:Nat):Int))=_
  congr 1;exact propext (by omega)
 rw [hpos]
 simp only [cond_true,cond_false]
 generalize Int.tmod a 10=m
 cases m==0
 case true=>exact ⟨_,_,_,_,_,_,_,_,_,rfl,⟨h1,h2,h3,h4⟩,by omega⟩
 cases m==1
 case true=>exact ⟨_,_,_,_,_,_,_,_,_,rfl,⟨hx,h2,h3,h4⟩,by omega⟩
 cases m==2
 case true=>exact ⟨_,_,_,_,_,_,_,_,_,rfl,⟨h1,hx,h3,h4⟩,by omega⟩
 cases m==3
 case true=>exact ⟨_,_,_,_,_,_,_,_,_,rfl,⟨h1,h2,hx,h4⟩,by omega⟩
 cases m==4
 case true=>exact ⟨_,_,_,_,_,_,_,_,_,rfl,⟨h1,h2,h3,h4⟩,by omega⟩
 cases m==5
 case true=>exact ⟨_,_,_,_,_,_,_,_,_,rfl,⟨h1,h2,h3,h4⟩,by omega⟩
 cases m==6
 case true=>
  refine ⟨_,_,_,_,_,_,_,_,_,rfl,⟨h1,h2,h3,λt ht=>?_⟩,by simp⟩
  rcases List.mem_append.1 ht with h | h
  ·exact h4 t h
  ·rw [List.mem_singleton.1 h];exact uY hx nA
 simp only [cond_false]
 by_cases h0:0<I.length
 case neg=>
  rw [decide_eq_false h0]
  cases m==7<;>cases m==8<;>exact ⟨_,_,_,_,_,_,_,_,_,rfl,⟨h1,h2,h3,h4⟩,by omega⟩
 have hi:=hix h0
 have hg:I[b%max I.length 1]?=some I[b%max I.length 1]:=List.getElem?_eq_getElem hi
 have hs:=h4 _ (List.getElem_mem hi)
 rw [decide_eq_true h0,bE hi]
 simp only [cond_true,ob,hg]
 cases m==7
 case true=>exact ⟨_,_,_,_,_,_,_,_,_,rfl,⟨h1,h2,h3,xO h4 (uY hx hs.2)⟩,by simp⟩
 cases m==8
 case true=>exact ⟨_,_,_,_,_,_,_,_,_,rfl,⟨h1,h2,h3,xO h4 (uY hs.1 hs.2)⟩,by simp⟩
 exact ⟨_,_,_,_,_,_,_,_,_,rfl,⟨h1,h2,h3,xO h4 (uY hs.1 hx)⟩,by simp⟩
theorem A3 (L:List TR) {Z:List TZ} (hZ:∀z∈Z,wfZ z) (K E0 E1 B:Int):∀(r i:Nat),i+r=4->∀{k:Int} {D:TD} {KF:Int} {DF:TD} {KT:Int} {DT:TD} {e l:Bool} {I:List TI},smE D DF DT I->I.length<=5+i->∀N,r<N->
  ah (av 20000000) N ((i:Int),L,Z,K,E0,E1,B,k,D,KF,DF,KT,DT,e,l,I)=some (.inl true)\/
  ∃k' D' KF' DF' KT' DT' e' l' I',ah (av 20000000) N ((i:Int),L,Z,K,E0,E1,B,k,D,KF,DF,KT,DT,e,l,I)=some (.inr (L,K,E0,E1,B,k',D',KF',DF',KT',DT',e',l',I'))/\smE D' DF' DT' I'/\I'.length<=9:=by
 intro r
 induction r with
 | zero=>
  intro i hi k D KF DF KT DT e l I hs hl N hN
  obtain ⟨N,rfl⟩:∃k,N=k+1:=⟨N - 1,by omega⟩
  obtain rfl:i=4:=by omega
  refine .inr ⟨k,D,KF,DF,KT,DT,e,l,I,?_,hs,by omega⟩
  have:av 20000000 (((4:Nat):Int),L,Z,K,E0,E1,B,k,D,KF,DF,KT,DT,e,l,I)=some (.inr (.inr (L,K,E0,E1,B,k,D,KF,DF,KT,DT,e,l,I))):=by
   unfold av
   simp only [u16,u15,u14,u13,u12,u11,u10,u9,u8,u7,u6,u5,u4,u3,u2]
   rw [show decide (((4:Nat):Int)<4)=false from rfl]
   cases decide (((4:Nat):Int)<len Z)<;>rfl
  rw [ah,this]
 | succ r ih=>
  intro i hi k D KF DF KT DT e l I hs hl N hN
  obtain ⟨N,rfl⟩:∃k,N=k+1:=⟨N - 1,by omega⟩
  by_cases hz:i<Z.length
  ·have hg:Z[i]?=some Z[i]:=List.getElem?_eq_getElem hz
   have hw:=hZ _ (List.getElem_mem hz)
   generalize Z[i]=z at hg hw
   have:av 20000000 ((i:Int),L,Z,K,E0,E1,B,k,D,KF,DF,KT,DT,e,l,I)=some (.inr (.inl true))\/∃k' D' KF' DF' KT' DT' e' l' I',av 20000000 ((i:Int),L,Z,K,E0,E1,B,k,D,KF,DF,KT,DT,e,l,I)=some (.inl (((i+1:Nat):Int),L,Z,K,E0,E1,B,k',D',KF',DF',KT',DT',e',l',I'))/\smE D' DF' DT' I'/\I'.length<=I.length+1:=by
    unfold av
    simp only [u16,u15,u14,u13,u12,u11,u10,u9,u8,u7,u6,u5,u4,u3,u2]
    rw [decide_eq_true (show (i:Int)<len Z by show (i:Int)<((Z.length:Nat):Int);omega),decide_eq_true (show (i:Int)<4 by omega),bE hz,iO (by omega)]
    simp only [cond_true,ob,hg,wb]
    by_cases c1:30<(d4 z).1.length
    ·rw [show decide (len (d4 z).1>30)=true from decide_eq_true (by show (30:Int)<(((d4 z).1.length:Nat):Int);omega)]
     exact .inl rfl
    rw [show decide (len (d4 z).1>30)=false from decide_eq_false (by show ¬(30:Int)<(((d4 z).1.length:Nat):Int);omega)]
    by_cases c2:10<(d4 z).2.2.2.1.length
    ·rw [show decide (len (d4 z).2.2.2.1>10)=true from decide_eq_true (by show (10:Int)<(((d4 z).2.2.2.1.length:Nat):Int);omega)]
     exact .inl rfl
    rw [show decide (len (d4 z).2.2.2.1>10)=false from decide_eq_false (by show ¬(10:Int)<(((d4 z).2.2.2.1.length:Nat):Int);omega)]
    by_cases c3:10<(d8 z).1.length
    ·rw [show decide (len (d8 z).1>10)=true from decide_eq_true (by show (10:Int)<(((d8 z).1.length:Nat):Int);omega)]
     exact .inl rfl
    rw [show decide (len (d8 z).1>10)=false from decide_eq_false (by show ¬(10:Int)<(((d8 z).1.length:Nat):Int);omega)]
    have hx:smT z.2.2:=⟨by show (d4 z).2.2.2.1.length<=18;omega,by show (d4 z).1.length<=100;omega,by show (d8 z).1.length<=18;omega,hw.2.1,hw.2.2.1,hw.2.2.2⟩
    obtain ⟨k',D',KF',DF',KT',DT',e',l',I',q1,q2,q3⟩:=DC (k:=k) (KF:=KF) (KT:=KT) (e:=e) (l:=l) hs (by omega) hx z.1 hw.1
    refine .inr ⟨k',D',KF',DF',KT',DT',e',l',I',?_,q2,q3⟩
    simp only [cond_false,q1]
   rcases this with h | ⟨k',D',KF',DF',KT',DT',e',l',I',q1,q2,q3⟩
   ·exact .inl (by rw [ah,h])
   ·rw [ah,q1]
    exact ih (i+1) (by omega) q2 (by omega) N (by omega)
  ·refine .inr ⟨k,D,KF,DF,KT,DT,e,l,I,?_,hs,by omega⟩
   have:av 20000000 ((i:Int),L,Z,K,E0,E1,B,k,D,KF,DF,KT,DT,e,l,I)=some (.inr (.inr (L,K,E0,E1,B,k,D,KF,DF,KT,DT,e,l,I))):=by
    unfold av
    simp only [u16,u15,u14,u13,u12,u11,u10,u9,u8,u7,u6,u5,u4,u3,u2]
    rw [decide_eq_false (show ¬(i:Int)<len Z by show ¬(i:Int)<((Z.length:Nat):Int);omega)]
    rfl
   rw [ah,this]
noncomputable instance decTI:DecidableEq TI:=λa b=>Classical.propDecidable (a=b)
theorem zR {t u:TI}:((eqD (iF t) (iF u))&&(((d8 t).2.2.1==(d8 u).2.2.1)&&((eqD (d8 t).2.2.2 (d8 u).2.2.2)&&true)))=decide (t=u):=by
 rw [Bool.eq_iff_iff,decide_eq_true_iff]
 have hs:∀a b c:Bool,(a&&(b&&(c&&true)))=true↔a=true/\b=true/\c=true:=by decide
 rw [hs,kl,kl,beq_iff_eq]
 obtain ⟨a1,a2,a3,a4,a5,a6,a7,a8,a9,a10,b,c⟩:=t
 obtain ⟨e1,e2,e3,e4,e5,e6,e7,e8,e9,e10,f,g⟩:=u
 simp only [Prod.mk.injEq,and_assoc]
noncomputable def difI (J:List TI) (i:Nat) (t:TI):Int:=if J[i]?=some t then 0 else 1
theorem zd {J:List TI}:∀(I:List TI) (i:Nat),i+I.length=J.length->(lE (difI J) i I=none↔I=J.drop i)
 | [],i,h=>by
  rw [lE,List.drop_eq_nil_of_le (by simp at h;omega)]
  simp
 | t::r,i,h=>by
  have hi:i<J.length:=by simp at h;omega
  have hj:J[i]?=some J[i]:=List.getElem?_eq_getElem hi
  rw [lE,List.drop_eq_getElem_cons hi]
  unfold difI
  by_cases he:J[i]?=some t
  ·rw [if_pos he,if_neg (by simp)]
   have:=zd (J:=J) r (i+1) (by simp at h;omega)
   unfold difI at this
   rw [this]
   rw [hj] at he
   simp only [Option.some.injEq] at he
   simp [he]
  ·rw [if_neg he,if_pos (by simp)]
   rw [hj] at he
   simp only [Option.some.injEq] at he
   simp only [List.cons.injEq]
   constructor
   ·intro h;cases h
   ·rintro ⟨h,_⟩;exact absurd h.symm he
theorem vb (I J:List TI) (h:I.length=J.length) {A:Type} (a b:A):(match lE (difI J) 0 I with | some _=>a | none=>b)=if I=J then b else a:=by
 have:=zd (J:=J) I 0 (by omega)
 rw [List.drop_zero] at this
 cases hs:lE (difI J) 0 I with
 | none=>rw [if_pos (this.1 hs)]
 | some p=>rw [if_neg (λh=>by rw [this.2 h] at hs;cases hs)]
theorem rJ {I J:List TI} (h:I.length=J.length) (hn:I.length<=1000000) (k:Int) (D:TD) (KF:Int) (DF:TD) (KT:Int) (DT:TD) (e l:Bool) (k':Int) (D':TD) (KF':Int) (DF':TD) (KT':Int) (DT':TD) (e' l':Bool):
  ah (cA 20000000) 20000000 (0,I,J,k,D,KF,DF,KT,DT,e,l,k',D',KF',DF',KT',DT',e',l')=some (if I=J then .inr () else .inl 0):=by
 have e2:(match lE (difI J) 0 I with | some p=>(.inl 0:Int⊕Unit) | none=>.inr ())=if I=J then .inr () else .inl 0:=vb I J h _ _
 rw [<-e2]
 have:=jL (step:=cA 20000000) (st:=λi=>((i:Int),I,J,k,D,KF,DF,KT,DT,e,l,k',D',KF',DF',KT',DT',e',l')) (L:=I) (f:=difI J) (yes:=λ_ _=>.inl (0:Int)) (no:=.inr ()) ?_ ?_ I.length 0 (by omega) 20000000 (by omega)
 ·rw [List.drop_zero] at this
  exact this
 ·intro i t ht
  have hi:i<I.length:=(List.getElem?_eq_some_iff.1 ht).1
  have hj:J[i]?=some (J[i]'(by omega)):=List.getElem?_eq_getElem (by omega)
  generalize J[i]'(by omega)=u at hj
  unfold cA
  simp only [u19,u18,u17,u16,u15,u14,u13,u12,u11,u10,u9,u8,u7,u6,u5,u4,u3,u2]
  rw [decide_eq_true (show (i:Int)<len I by show (i:Int)<((I.length:Nat):Int);omega),bE hi,bE (show i<J.length by omega)]
  simp only [cond_true,ob,ht,hj,zR]
  rw [iO (by omega)]
  unfold difI
  rw [hj]
  by_cases he:t=u
  ·rw [decide_eq_true he,if_neg (by simp [he])]
   rfl
  ·rw [decide_eq_false he,if_pos (by simp only [Option.some.injEq];rw [if_neg (λh=>he h.symm)];simp)]
   rfl
 ·unfold cA
  simp only [u19,u18,u17,u16,u15,u14,u13,u12,u11,u10,u9,u8,u7,u6,u5,u4,u3,u2]
  rw [decide_eq_false (show ¬((I.length:Nat):Int)<len I by show ¬((I.length:Nat):Int)<((I.length:Nat):Int);omega)]
  rfl
theorem AM {I J:List TI} (hn:I.length<=1000000):bv 20000000 I J=some (decide (I=J)):=by
 unfold bv
 rw [show ((((List.length I):Nat):Int) != (((List.length J):Nat):Int))=!decide (I.length=J.length) from congrArg _ (natB _ _)]
 by_cases h:I.length=J.length
 ·rw [decide_eq_true h]
  have:=jL (step:=az 20000000) (st:=λi=>(((I.length:Nat):Int),(i:Int),I,J)) (L:=I) (f:=difI J) (yes:=λ_ _=>.inl false) (no:=.inr ()) ?_ ?_ I.length 0 (by omega) 20000000 (by omega)
  ·rw [List.drop_zero] at this
   have this:ah (az 20000000) 20000000 (((I.length:Nat):Int),((0:Nat):Int),I,J)=some (if I=J then .inr () else .inl false):=this.trans (congrArg some (vb I J h (.inl false:Bool⊕Unit) (.inr ())))
   show cond false _ (ob (ah (az 20000000) 20000000 (((I.length:Nat):Int),((0:Nat):Int),I,J)) _)=_
   rw [this]
   by_cases he:I=J
   ·rw [if_pos he,decide_eq_true he];rfl
   ·rw [if_neg he,decide_eq_false he];rfl
  ·intro i t ht
   have hi:i<I.length:=(List.getElem?_eq_some_iff.1 ht).1
   have hj:J[i]?=some (J[i]'(by omega)):=List.getElem?_eq_getElem (by omega)
   generalize J[i]'(by omega)=u at hj
   unfold az
   simp only []
   rw [decide_eq_true (show (i:Int)<((I.length:Nat):Int) by omega),bE hi,bE (show i<J.length by omega)]
   simp only [cond_true,ob,ht,hj]
   have hq:∀b,b=decide (t=u)->cond (!b) (some (.inr (.inl false))) (some (.inl (((I.length:Nat):Int),(IntKind.wrap .i64 ((i:Int)+1)),I,J)))=(some (if difI J i t≠0 then .inr (.inl false) else .inl (((I.length:Nat):Int),(((i+1:Nat):Int)),I,J)):Option ((Int×Int×List TI×List TI)⊕(Bool⊕Unit))):=by
    intro b hb
    subst hb
    rw [show IntKind.wrap .i64 ((i:Int)+1)=((i+1:Nat):Int) from iO (by omega)]
    unfold difI
    rw [hj]
    by_cases he:t=u
    ·rw [decide_eq_true he,if_neg (by simp [he])]
     rfl
    ·rw [decide_eq_false he,if_pos (by simp only [Option.some.injEq];rw [if_neg (λh=>he h.symm)];simp)]
     rfl
   refine hq _ ?_
   rw [<-zR]
  ·unfold az
   simp only []
   rw [decide_eq_false (show ¬((I.length:Nat):Int)<((I.length:Nat):Int) by omega)]
   rfl
 ·rw [decide_eq_false h,decide_eq_false (λhe=>h (congrArg _ he))]
  rfl
theorem yK {I J:List TI} (hn:I.length<=1000000) (k:Int) (D:TD) (KF:Int) (DF:TD) (KT:Int) (DT:TD) (e l:Bool) (k':Int) (D':TD) (KF':Int) (DF':TD) (KT':Int) (DT':TD) (e' l':Bool):
  ∃b:Bool,lu 20000000 k D KF DF KT DT e l k' D' KF' DF' KT' DT' e' l' I J=some b/\fU 20000000 k D KF DF KT DT e l k' D' KF' DF' KT' DT' e' l' I J=some (if b then 1 else 0):=by
 unfold lu fU
 rw [AM hn,show (k != k')=!(k==k') from rfl,show (len I != len J)=!decide (I.length=J.length) from congrArg _ (natB _ _)]
 cases k==k'
 case false=>exact ⟨false,rfl,rfl⟩
 generalize eqD D D'=q1
 cases q1
 case false=>exact ⟨false,rfl,rfl⟩
 generalize ((KF==KF')&&((eqD DF DF')&&true))=q2
 cases q2
 case false=>exact ⟨false,rfl,rfl⟩
 generalize ((KT==KT')&&((eqD DT DT')&&true))=q3
 cases q3
 case false=>exact ⟨false,rfl,rfl⟩
 cases e==e'
 case false=>exact ⟨false,rfl,rfl⟩
 cases l==l'
 case false=>exact ⟨false,rfl,rfl⟩
 by_cases h:I.length=J.length
 ·rw [decide_eq_true h,rJ h hn]
  by_cases he:I=J
  ·rw [if_pos he,decide_eq_true he]
   exact ⟨true,rfl,rfl⟩
  ·rw [if_neg he,decide_eq_false he]
   exact ⟨false,rfl,rfl⟩
 ·rw [decide_eq_false h,decide_eq_false (λhe=>h (congrArg _ he))]
  exact ⟨false,rfl,rfl⟩
theorem sN {A X Y:Type} {step:X->Option (X⊕Y)} {st:Nat->X} {L:List A} {no:Y} (h1:∀i t,L[i]?=some t->step (st i)=some (.inl (st (i+1)))) (h2:step (st L.length)=some (.inr no)) {N:Nat} (hN:L.length<N):
  ah step N (st 0)=some no:=by
 have:=jL (step:=step) (st:=st) (L:=L) (f:=λ_ _=>0) (yes:=λ_ _=>no) (no:=no) (λi t ht=>by rw [h1 i t ht];rfl) h2 L.length 0 (by omega) N hN
 rw [this]
 cases lE (λ_ _=>0) 0 (List.drop 0 L)<;>rfl
theorem qt {A B X Y:Type} {step:X->Option (X⊕Y)} {st:Nat->List B->X} {fin:List B->Y} {L:List A} {f:A->List B} {c:Nat} (hf:∀t,(f t).length<=2)
  (h1:∀i t acc,L[i]?=some t->acc.length<=c+2*i->step (st i acc)=some (.inl (st (i+1) (acc++f t)))) (h2:∀acc,step (st L.length acc)=some (.inr (fin acc))):
  ∀(r i:Nat) (acc:List B),i+r=L.length->acc.length<=c+2*i->∀N,r<N->ah step N (st i acc)=some (fin (acc++(L.drop i).flatMap f)):=by
 intro r
 induction r with
 | zero=>
  intro i acc hi ha N hN
  obtain ⟨N,rfl⟩:∃k,N=k+1:=⟨N - 1,by omega⟩
  rw [ah,show i=L.length by omega,h2,List.drop_length]
  simp
 | succ r ih=>
  intro i acc hi ha N hN
  obtain ⟨N,rfl⟩:∃k,N=k+1:=⟨N - 1,by omega⟩
  have hil:i<L.length:=by omega
  rw [ah,h1 i _ acc (List.getElem?_eq_getElem hil) ha,List.drop_eq_getElem_cons hil,List.flatMap_cons,<-List.append_assoc]
  refine ih (i+1) _ (by omega) ?_ N (by omega)
  have:=hf L[i]
  rw [List.length_append]
  omega
def datI (t:TI):List TD:=if rT t=true then [iF t,iT t] else [iF t]
theorem rA (t:TI):(datI t).length<=2:=by unfold datI;split<;>simp
def datE (k:Int) (D:TD) (KF:Int) (DF:TD) (KT:Int) (DT:TD) (I:List TI):List TD:=
 if k=1 then [D] else if k=2 then (if KF=1 then (if KT=1 then [DF,DT] else [DF]) else if KT=1 then [DT] else []) else if k=3\/k=4 then I.flatMap datI else []
theorem BS {B:Type} {acc:List B} (h:acc.length<=3000000):Nat.ble (acc.length+1) bc=true:=Nat.ble_eq_true_of_le (by unfold bc;omega)
theorem qF {I:List TI} (hn:I.length<=1000000):ah (dp 20000000) 20000000 (len I,0,I,([]:List TD))=some (I.flatMap datI):=by
 have:=qt (step:=dp 20000000) (st:=λi acc=>(len I,(i:Int),I,acc)) (fin:=λacc=>acc) (L:=I) (f:=datI) (c:=0) rA ?_ ?_ I.length 0 [] (by omega) (by simp) 20000000 (by omega)
 ·rw [List.drop_zero,List.nil_append] at this
  exact this
 ·intro i t acc ht ha
  have hi:i<I.length:=(List.getElem?_eq_some_iff.1 ht).1
  unfold dp
  simp only [u4,u3,u2]
  rw [decide_eq_true (show (i:Int)<len I by show (i:Int)<((I.length:Nat):Int);omega),bE hi]
  simp only [cond_true,ob,ht,BS (acc:=acc) (by omega),BS (acc:=acc++[iF t]) (by simp;omega)]
  rw [iO (by omega)]
  unfold datI
  show cond (rT t) _ _=_
  cases rT t
  ·rfl
  ·show (some (Sum.inl (len I,((i+1:Nat):Int),I,(acc++[iF t])++[iT t])):Option ((Int×Int×List TI×List TD)⊕List TD))=_
   rw [List.append_assoc];rfl
 ·intro acc
  unfold dp
  simp only [u4,u3,u2]
  rw [decide_eq_false (show ¬((I.length:Nat):Int)<len I by show ¬((I.length:Nat):Int)<((I.length:Nat):Int);omega)]
  rfl
theorem Gr (L:List TD):am 20000000 L=some (L.length,L.length):=by
 unfold am
 rw [dS (Nat.le_refl _)]
 show ob (bx L.length ((L.length:Nat):Int)) _=_
 rw [dS (Nat.le_refl _)]
 rfl
theorem Bg {I:List TI} (hn:I.length<=1000000) (k:Int) (D:TD) (KF:Int) (DF:TD) (KT:Int) (DT:TD) (e l:Bool):
  jc 20000000 k D KF DF KT DT e l I=some ((datE k D KF DF KT DT I).length,(datE k D KF DF KT DT I).length,datE k D KF DF KT DT I):=by
 unfold jc datE
 rw [qF hn]
 simp only [Gr,ob,u2]
 by_cases k1:k=1
 ·rw [if_pos k1,show (k==1)=true from by simp [k1]];rfl
 by_cases k2:k=2
 ·rw [if_neg k1,if_pos k2,show (k==1)=false from by simp [k1],show (k==2)=true from by simp [k2]]
  by_cases f1:KF=1
  ·rw [if_pos f1,show (KF==1)=true from by simp [f1]]
   by_cases t1:KT=1
   ·rw [if_pos t1,show (KT==1)=true from by simp [t1]];rfl
   ·rw [if_neg t1,show (KT==1)=false from by simp [t1]];rfl
  ·rw [if_neg f1,show (KF==1)=false from by simp [f1]]
   by_cases t1:KT=1
   ·rw [if_pos t1,show (KT==1)=true from by simp [t1]];rfl
   ·rw [if_neg t1,show (KT==1)=false from by simp [t1]];rfl
 rw [if_neg k1,if_neg k2,show (k==1)=false from by simp [k1],show (k==2)=false from by simp [k2]]
 by_cases k3:k=3
 ·rw [if_pos (.inl k3),show (k==3)=true from by simp [k3]];rfl
 by_cases k4:k=4
 ·rw [if_pos (.inr k4),show (k==3)=false from by simp [k3],show (k==4)=true from by simp [k4]];rfl
 rw [if_neg (by omega),show (k==3)=false from by simp [k3],show (k==4)=false from by simp [k4]];rfl
theorem pJ {I:List TI} (hn:I.length<=1000000) {k:Int} (D:TD) (KF:Int) (DF:TD) (KT:Int) (DT:TD) (e l:Bool) (hk:k=3\/k=4):
  ah (aj 20000000) 20000000 (0,I,k,D,KF,DF,KT,DT,e,l,([]:List TD))=some (I.flatMap datI):=by
 have:=qt (step:=aj 20000000) (st:=λi acc=>((i:Int),I,k,D,KF,DF,KT,DT,e,l,acc)) (fin:=λacc=>acc) (L:=I) (f:=datI) (c:=0) rA ?_ ?_ I.length 0 [] (by omega) (by simp) 20000000 (by omega)
 ·rw [List.drop_zero,List.nil_append] at this
  exact this
 ·intro i t acc ht ha
  have hi:i<I.length:=(List.getElem?_eq_some_iff.1 ht).1
  unfold aj
  simp only [u11,u10,u9,u8,u7,u6,u5,u4,u3,u2]
  rw [decide_eq_true (show (i:Int)<len I by show (i:Int)<((I.length:Nat):Int);omega),bE hi]
  simp only [cond_true,ob,ht,BS (acc:=acc) (by omega),BS (acc:=acc++[iF t]) (by simp;omega)]
  rw [iO (by omega)]
  have main:(cond (rT t) (some (.inl (((i+1:Nat):Int),I,k,D,KF,DF,KT,DT,e,l,(acc++[iF t])++[iT t]))) (some (.inl (((i+1:Nat):Int),I,k,D,KF,DF,KT,DT,e,l,acc++[iF t]))):Option ((Int×List TI×Int×TD×Int×TD×Int×TD×Bool×Bool×List TD)⊕(List TD)))=some (.inl (((i+1:Nat):Int),I,k,D,KF,DF,KT,DT,e,l,acc++datI t)):=by
   unfold datI
   cases rT t
   ·rfl
   ·rw [cond_true,List.append_assoc];rfl
  by_cases k3:k=3
  ·rw [show (k==3)=true from by simp [k3]]
   exact main
  ·rw [show (k==3)=false from by simp [k3],show (k==4)=true from by simp;omega]
   exact main
 ·intro acc
  unfold aj
  simp only [u11,u10,u9,u8,u7,u6,u5,u4,u3,u2]
  rw [decide_eq_false (show ¬((I.length:Nat):Int)<len I by show ¬((I.length:Nat):Int)<((I.length:Nat):Int);omega)]
  rfl
theorem ju {I:List TI} {k:Int} (D:TD) (KF:Int) (DF:TD) (KT:Int) (DT:TD) (e l:Bool) (h3:k≠3) (h4:k≠4) (acc:List TD):
  ah (aj 20000000) 20000000 (0,I,k,D,KF,DF,KT,DT,e,l,acc)=some acc:=by
 have:aj 20000000 (0,I,k,D,KF,DF,KT,DT,e,l,acc)=some (.inr acc):=by
  unfold aj
  simp only [u11,u10,u9,u8,u7,u6,u5,u4,u3,u2]
  rw [show (k==3)=false from by simp [h3],show (k==4)=false from by simp [h4]]
  cases decide ((0:Int)<len I)<;>rfl
 rw [show 20000000=19999999+1 from rfl,ah,this]
theorem uz {I:List TI} (hn:I.length<=1000000) (k:Int) (D:TD) (KF:Int) (DF:TD) (KT:Int) (DT:TD) (e l:Bool):fC 20000000 k D KF DF KT DT e l I=some (datE k D KF DF KT DT I):=by
 unfold fC datE
 by_cases k1:k=1
 ·rw [if_pos k1,show (k==1)=true from by simp [k1],show (k==2)=false from by simp [k1]]
  simp only [cond_true,cond_false,ob,ju D KF DF KT DT e l (by omega:k≠3) (by omega:k≠4)]
 by_cases k2:k=2
 ·rw [if_neg k1,if_pos k2,show (k==1)=false from by simp [k1],show (k==2)=true from by simp [k2]]
  simp only [cond_true,cond_false,ob,ju D KF DF KT DT e l (by omega:k≠3) (by omega:k≠4)]
  by_cases f1:KF=1
  ·rw [if_pos f1,show (KF==1)=true from by simp [f1]]
   by_cases t1:KT=1
   ·rw [if_pos t1,show (KT==1)=true from by simp [t1]];rfl
   ·rw [if_neg t1,show (KT==1)=false from by simp [t1]];rfl
  ·rw [if_neg f1,show (KF==1)=false from by simp [f1]]
   by_cases t1:KT=1
   ·rw [if_pos t1,show (KT==1)=true from by simp [t1]];rfl
   ·rw [if_neg t1,show (KT==1)=false from by simp [t1]];rfl
 rw [if_neg k1,if_neg k2,show (k==1)=false from by simp [k1],show (k==2)=false from by simp [k2]]
 simp only [cond_false]
 by_cases h34:k=3\/k=4
 ·rw [if_pos h34,pJ hn D KF DF KT DT e l h34];rfl
 ·rw [if_neg h34,ju D KF DF KT DT e l (by omega) (by omega)];rfl
theorem xy {I:List TI} (hI:∀t∈I,smI t) (hn:I.length<=1000000) (k:Int) (D:TD) (KF:Int) (DF:TD) (KT:Int) (DT:TD) (e l:Bool):
  ah (bj 20000000) 20000000 (0,k,D,KF,DF,KT,DT,e,l,I)=some (.inr (k,D,KF,DF,KT,DT,e,l,I)):=by
 refine sN (step:=bj 20000000) (st:=λi=>((i:Int),k,D,KF,DF,KT,DT,e,l,I)) (L:=I) ?_ ?_ (by omega)
 ·intro i t ht
  have hi:i<I.length:=(List.getElem?_eq_some_iff.1 ht).1
  obtain ⟨s1,s2⟩:=hI t (List.mem_of_getElem? ht)
  unfold bj
  simp only [u10,u9,u8,u7,u6,u5,u4,u3,u2]
  rw [decide_eq_true (show (i:Int)<len I by show (i:Int)<((I.length:Nat):Int);omega),bE hi]
  simp only [cond_true,ob,ht]
  rw [oX (rT t) s1 s2,m6 (rT t) false s1 s2,oX (rT t) s1 s2,m6 (rT t) true s1 s2,nU s1,kn s1]
  have e3:(if (3:Int)=3\/(3:Int)=4 then itE (iF t) (rT t) (iT t) ((3:Int)==4) else 18)=itE (iF t) (rT t) (iT t) false:=rfl
  have e4:(if (4:Int)=3\/(4:Int)=4 then itE (iF t) (rT t) (iT t) ((4:Int)==4) else 18)=itE (iF t) (rT t) (iT t) true:=rfl
  rw [e3,e4]
  have hb:∀x:Int,(x != x)=false:=λx=>by simp
  have hp:∀b:Bool,(!(b==((if b then (1:Int) else 0)==1)))=false:=by decide
  simp only [hb,hp,cond_false]
  rw [iO (by omega)]
 ·unfold bj
  simp only [u10,u9,u8,u7,u6,u5,u4,u3,u2]
  rw [decide_eq_false (show ¬((I.length:Nat):Int)<len I by show ¬((I.length:Nat):Int)<((I.length:Nat):Int);omega)]
  rfl
theorem wK {L:List TD} (hn:L.length<=3000000) (c:Nat) (k:Int) (D:TD) (KF:Int) (DF:TD) (KT:Int) (DT:TD) (e l:Bool) (I:List TI):
  ah (bi 20000000) 20000000 (L.length,c,0,k,D,KF,DF,KT,DT,e,l,L,L,I)=some (.inr (k,D,KF,DF,KT,DT,e,l,I)):=by
 refine sN (step:=bi 20000000) (st:=λi=>(L.length,c,(i:Int),k,D,KF,DF,KT,DT,e,l,L,L,I)) (L:=L) ?_ ?_ (by omega)
 ·intro i t ht
  have hi:i<L.length:=(List.getElem?_eq_some_iff.1 ht).1
  unfold bi
  simp only [u14,u13,u12,u11,u10,u9,u8,u7,u6,u5,u4,u3,u2]
  rw [decide_eq_true (show (i:Int)<((L.length:Nat):Int) by omega),bE hi]
  simp only [cond_true,ob,ht]
  rw [kl.2 rfl,iO (by omega)]
  rfl
 ·unfold bi
  simp only [u14,u13,u12,u11,u10,u9,u8,u7,u6,u5,u4,u3,u2]
  rw [decide_eq_false (show ¬((L.length:Nat):Int)<((L.length:Nat):Int) by omega)]
  rfl
theorem F6:(cF d0==0)=false:=by kernel_rfl
theorem ye (K:Int):∃z,cq 20000000 d0 false d0 K=some z/\z≠0:=by
 refine ⟨_,oX false nA nA K,?_⟩
 have h:cF d0≠0:=λh=>by have:=F6;rw [h] at this;cases this
 split
 ·rw [Eu h];exact h
 ·omega
theorem BC (k:Int) (D:TD) (KF:Int) (DF:TD) (KT:Int) (DT:TD) {I:List TI} (hn:I.length<=1000000):(datE k D KF DF KT DT I).length<=3000000:=by
 have hf:∀I:List TI,(I.flatMap datI).length<=2*I.length:=by
  intro I
  induction I with
  | nil=>simp
  | cons t r ih=>
   have:=rA t
   rw [List.flatMap_cons,List.length_append,List.length_cons]
   omega
 have:=hf I
 unfold datE
 split
 ·simp
 split
 ·split<;>split<;>simp
 split
 ·omega
 ·simp
theorem qY {K E0 E1 B:Int} (hK:natI K 256) (h0:natI E0 256) (h1:natI E1 256) (hB:natI B 256) {L:List TR} (hL:∀r∈L,wfR r) {Z:List TZ} (hZ:∀z∈Z,wfZ z):
  eS 20000000 K E0 E1 B L Z=some true:=by
 obtain ⟨k,D,KF,DF,KT,DT,e,l,I,hE,hR⟩:=E_of hK h0 h1 hB hL
 unfold eS
 rw [hE]
 simp only [ob,u9,u8,u7,u6,u5,u4,u3,u2]
 rcases A3 L hZ K E0 E1 B 4 0 rfl hR.sm (by have:=hR.len;omega) 20000000 (by omega) with hl | ⟨k',D',KF',DF',KT',DT',e',l',I',hl,hs,hn⟩
 ·rw [show (0:Int)=((0:Nat):Int) from rfl,hl]
  rfl
 rw [show ah (av 20000000) 20000000 (0,L,Z,K,E0,E1,B,k,D,KF,DF,KT,DT,e,l,I)=_ from hl]
 have hn2:I'.length<=1000000:=by omega
 obtain ⟨b,b1,b2⟩:=yK (I:=I') (J:=I) hn2 k' D' KF' DF' KT' DT' e' l' k D KF DF KT DT e l
 have hb:∀x:Int,(x != x)=false:=λx=>by simp
 have hp:∀b:Bool,(!(b==((if b then (1:Int) else 0)==1)))=false:=by decide
 simp only [obs,sm,u14,u13,u12,u11,u10,u9,u8,u7,u6,u5,u4,u3,u2,wa hs,ux hs,B0 hs,ob,hb,cond_false,hE,b1,b2,hp,xy hs.2.2.2 hn2,Bg hn2,uz hn2]
 simp only [cond_false,sm,wK (BC k' D' KF' DF' KT' DT' hn2)]
 obtain ⟨z,z1,z2⟩:=ye (w8 ((w8 ((w8 (Int.tdiv k' 2))*2))+1))
 simp only [z1]
 rw [show (z != 0)=true from by simp [z2],wb]
 rfl
theorem iy {n:Int} (h:(Lit.int .u8 n).wf=true):natI n 256:=⟨(Go.bounds_u8 h).1,by have:=(Go.bounds_u8 h).2;omega⟩
theorem CC {n:Int} (h:(Lit.int .u16 n).wf=true):natI n 65536:=⟨(Go.bounds_u16 h).1,by have:=(Go.bounds_u16 h).2;omega⟩
theorem ET {y:den [.i .u8,.bo,.i .u16,.i .u8,.i .u8,.i .u8,.i .u8,.i .u8,.i .u8,.i .u8,.i .u8,.i .u8,.bo,.i .u16,.i .u8,.i .u8,.i .u8,.i .u8,.i .u8,.i .u8,.i .u8]}
  (h:kE [.i .u8,.bo,.i .u16,.i .u8,.i .u8,.i .u8,.i .u8,.i .u8,.i .u8,.i .u8,.i .u8,.i .u8,.bo,.i .u16,.i .u8,.i .u8,.i .u8,.i .u8,.i .u8,.i .u8,.i .u8] y):wfR y:=by
 obtain ⟨h0,_,h2,h3,h4,h5,h6,h7,h8,h9,_,k0,_,k2,k3,k4,k5,k6,k7,k8,k9⟩:=h
 exact ⟨⟨iy h0,CC h2,iy h3,iy h4,iy h5,iy h6,iy h7,iy h8,iy h9⟩,⟨iy k0,CC k2,iy k3,iy k4,iy k5,iy k6,iy k7,iy k8,iy k9⟩⟩
theorem FM {y:den [.i .u8,.i .u8,.bo,.bo,.s,.i .i64,.i .i64,.s,.s,.i .u8,.i .u8,.i .u8]} (h:kE [.i .u8,.i .u8,.bo,.bo,.s,.i .i64,.i .i64,.s,.s,.i .u8,.i .u8,.i .u8] y):wfZ y:=by
 obtain ⟨_,h1,_,_,_,_,_,_,_,h9,h10,h11⟩:=h
 exact ⟨iy h1,(iy h9).1,(iy h10).1,(iy h11).1⟩
end Go.Sh
