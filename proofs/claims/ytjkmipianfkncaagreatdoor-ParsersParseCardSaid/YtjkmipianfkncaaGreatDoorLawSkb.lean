
import Derived.Test.YtjkmipianfkncaaGreatDoorLawSka
set_option linter.unusedVariables false
set_option linter.unusedSimpArgs false
set_option maxRecDepth 100000
open Go.IntKind(wrap)
set_option linter.defProp false
namespace Go.Sh
open Go.Abs
def zn(d:aa)(k q:Nat):Nat×Nat:=if 0<q then(val d k / 10 ^ (d.length+k - q)*10 ^ (d.length+k - q),min (val d k / 10 ^ (d.length+k - q)*10 ^ (d.length+k - q)+10 ^ (d.length+k - q) - 1) E16)else(val d k,val d k)
def sgn(g:Bool)(p:Nat×Nat):Int×Int:=if g then(-(p.2:Int),-(p.1:Int))else((p.1:Int),(p.2:Int))
def Bi(n:Nat)(g l:Bool)(d:aa)(k q:Nat)(C:200<n)(hd:d.length<=100)(c:Num d k q):
  aI n g l d (k:Int) (q:Int)=some (sgn g (zn d k q)):=by
 have D:=c.wide;have hs:=c.small;have B:=c.sig;unfold aI;rw[nK n g l d k q (by omega) (by omega),EW c.dig,iW n d k c.dig hd (by omega) (by omega),ae hs];have z:dval 0 d*10 ^ k=val d k:=rfl;rw[z]at hs ⊢;unfold E16 at hs;have h:((if false=true then(1:Int)else 0)==1)=false:=rfl;simp only[ob,h,af];by_cases j:0<q
 ·have f:decide ((q:Int)>0)=true:=aq (by omega);have w0:wrap .i64 (wrap .i64 (((d.length:Nat):Int)+(k:Int)) - (q:Int))=((d.length+k - q:Nat):Int):=by
   rw[wrap_i64 (((d.length:Nat):Int)+(k:Int)) (by omega) (by omega),wrap_i64 _ (by omega) (by omega)];omega
  have y:10 ^ (d.length+k - q)<=10 ^ 16:=nG (by decide) (by omega);have o:(10:Nat) ^ 16=10000000000000000:=by decide
  have one:dval 0 [49]=1:=by decide
  have a:dval 0 [49]*10 ^ (d.length+k - q)<=E16:=by rw[one];unfold E16;omega
  rw[f,w0,iW n [49] (d.length+k - q) (by decide) (by decide) (by omega) (by simp;omega),ae a,one,vP];simp only[aj];have A:1<=10 ^ (d.length+k - q):=zk _ _ (by decide);unfold sgn zn;rw[ae j];clear a;generalize 10 ^ (d.length+k - q)=u at *;generalize val d k=v at *;have d2:(((u:Nat):Int)==0)=false:=aK.2 (by omega);have b:Int.tdiv ((v:Nat):Int) ((u:Nat):Int)=((v / u:Nat):Int):=rfl;have x:v / u*u<=v:=Dm v u;have i:v / u<=v:=Dj v u;have p:wrap .i64 ((v / u:Nat):Int)=((v / u:Nat):Int):=by
   generalize v / u=t at *;exact wrap_i64 _ (by omega) (by omega)
  have w:wrap .i64 (((v / u:Nat):Int)*((u:Nat):Int))=((v / u*u:Nat):Int):=by
   rw[<-Fb];exact wrap_i64 _ (by omega) (by omega)
  rw[d2,af,b,p,w];generalize v / u*u=lo at *;have s:wrap .i64 (wrap .i64 (((lo:Nat):Int)+((u:Nat):Int)) - 1)=((lo+u - 1:Nat):Int):=by
   rw[wrap_i64 (((lo:Nat):Int)+((u:Nat):Int)) (by omega) (by omega),wrap_i64 _ (by omega) (by omega)];omega
  rw[s];have e:(cond (decide ((10000000000000000:Int)<((lo+u - 1:Nat):Int))) (10000000000000000:Int) ((lo+u - 1:Nat):Int))=((min (lo+u - 1) E16:Nat):Int):=by
   unfold E16;by_cases m:(10000000000000000:Int)<((lo+u - 1:Nat):Int)
   ·rw[aq m,aj];omega
   ·rw[am m,af];omega
  rw[e];have r:min (lo+u - 1) E16<=10000000000000000:=Nat.min_le_right _ _;generalize min (lo+u - 1) E16=hi at *;cases g with
  | true=>
   simp only[aj,aH];rw[wrap_i64 _ (by omega) (by omega),wrap_i64 _ (by omega) (by omega),yE,yE]
  | false=>simp
 ·have f:decide ((q:Int)>0)=false:=am (by omega);rw[f,af];unfold sgn zn;rw[ab j];cases g with
  | true=>
   simp only[aj,aH];rw[wrap_i64 _ (by omega) (by omega),yE]
  | false=>simp
def ec(z:UInt8)(d:aa):aa:=d.map λc=>if c=88 then z else c
def iK(z:UInt8)(d:aa):(ec z d).length=d.length:=by simp[ec]
def pL{z:UInt8}(e:bm z=true){d:aa}(h:∀c∈d,bm c=true\/c=88):∀c∈ec z d,bm c=true:=by
 intro c hc;obtain⟨b,a,rfl⟩:=ew.1 hc;by_cases hx:b=88
 ·rw[ae hx];exact e
 ·rw[ab hx];exact(h b a).resolve_right hx
def wj{z:UInt8}{d:aa}{i:Nat}{c:UInt8}(h:d[i]?=some c):(ec z d)[i]?=some (if c=88 then z else c):=by
 simp[ec,h]
def sq(d:aa):Nat:=10 ^ (d.reverse.takeWhile (λc=>c != 88)).length
def km(g:Bool)(d:aa):Nat×Nat:=(if g=true/\dval 0 (ec 48 d)=0 then sq d else dval 0 (ec 48 d),dval 0 (ec 57 d))
def QH(m:Nat):aI (m+300) true false [48,48,48,88] 0 0=some (sgn true (km true [48,48,48,88])):=by kernel_rfl
def Ql(m:Nat):aI (m+300) true false [48,48,88,48] 0 0=some (sgn true (km true [48,48,88,48])):=by kernel_rfl
def Pe(m:Nat):aI (m+300) true false [48,48,88,88] 0 0=some (sgn true (km true [48,48,88,88])):=by kernel_rfl
def Rj(m:Nat):aI (m+300) true false [48,88,48,48] 0 0=some (sgn true (km true [48,88,48,48])):=by kernel_rfl
def Pj(m:Nat):aI (m+300) true false [48,88,48,88] 0 0=some (sgn true (km true [48,88,48,88])):=by kernel_rfl
def P3(m:Nat):aI (m+300) true false [48,88,88,48] 0 0=some (sgn true (km true [48,88,88,48])):=by kernel_rfl
def QJ(m:Nat):aI (m+300) true false [48,88,88,88] 0 0=some (sgn true (km true [48,88,88,88])):=by kernel_rfl
def Q2(m:Nat):aI (m+300) true false [88,48,48,48] 0 0=some (sgn true (km true [88,48,48,48])):=by kernel_rfl
def Q3(m:Nat):aI (m+300) true false [88,48,48,88] 0 0=some (sgn true (km true [88,48,48,88])):=by kernel_rfl
def Py(m:Nat):aI (m+300) true false [88,48,88,48] 0 0=some (sgn true (km true [88,48,88,48])):=by kernel_rfl
def Oj(m:Nat):aI (m+300) true false [88,48,88,88] 0 0=some (sgn true (km true [88,48,88,88])):=by kernel_rfl
def Nx(m:Nat):aI (m+300) true false [88,88,48,48] 0 0=some (sgn true (km true [88,88,48,48])):=by kernel_rfl
def L2(m:Nat):aI (m+300) true false [88,88,48,88] 0 0=some (sgn true (km true [88,88,48,88])):=by kernel_rfl
def NA(m:Nat):aI (m+300) true false [88,88,88,48] 0 0=some (sgn true (km true [88,88,88,48])):=by kernel_rfl
def LR(m:Nat):aI (m+300) true false [88,88,88,88] 0 0=some (sgn true (km true [88,88,88,88])):=by kernel_rfl
def Bq{d:aa}(g:d.length=4)(h:∀c∈d,bm c=true\/c=88)(k:dval 0 (ec 48 d)=0):∀c∈d,c=48\/c=88:=by
 match d,g with
 | [a,b,c,e],_=>
  have hd:=pL (z:=48) (by decide) h;have i:dval 0 (ec 48 [a,b,c,e])=((((0*10+((if a=88 then(48:UInt8)else a).toNat - 48))*10+((if b=88 then(48:UInt8)else b).toNat - 48))*10+((if c=88 then(48:UInt8)else c).toNat - 48))*10+((if e=88 then(48:UInt8)else e).toNat - 48)):=by
   simp only[ec,ge,List.map_nil,nM,oU,uG]
  rw[i]at k;have key:∀x:UInt8,bm (if x=88 then(48:UInt8)else x)=true->(if x=88 then(48:UInt8)else x).toNat - 48=0->x=48\/x=88:=by
   intro x hx j;by_cases f:x=88
   ·exact .inr f
   ·rw[ab f]at hx j;have:=(bZ x).1 hx;exact .inl (ga.1 (by show x.toNat=48;omega))
  simp only[ec,ge,List.map_nil,cT,rR,t8,DC,forall_eq]at hd ⊢;exact⟨key a hd.1 (by omega),key b hd.2.1 (by omega),key c hd.2.2.1 (by omega),key e hd.2.2.2 (by omega)⟩
def yc{d:aa}(t:d.length=4)(h:∀c∈d,c=48\/c=88)(z:hasX d=true)(P:aa->Prop)(n:P [48,48,48,88])(q:P [48,48,88,48])(w:P [48,48,88,88])(r:P [48,88,48,48])(y:P [48,88,48,88])(l:P [48,88,88,48])(x:P [48,88,88,88])(p:P [88,48,48,48])(u:P [88,48,48,88])(m:P [88,48,88,48])(k:P [88,48,88,88])(j:P [88,88,48,48])(f:P [88,88,48,88])(i:P [88,88,88,48])(g:P [88,88,88,88]):P d:=by
 match d,t with
 | [a,b,c,e],_=>
  simp only[cT,rR,t8,DC,forall_eq]at h;obtain⟨s,v,hc,o⟩:=h;rcases s with rfl | rfl<;>rcases v with rfl | rfl<;>rcases hc with rfl | rfl<;>rcases o with rfl | rfl
  ·exact absurd z (by decide)
  ·exact n
  ·exact q
  ·exact w
  ·exact r
  ·exact y
  ·exact l
  ·exact x
  ·exact p
  ·exact u
  ·exact m
  ·exact k
  ·exact j
  ·exact f
  ·exact i
  ·exact g
def D6(n:Nat)(g l:Bool)(d:aa)(x s:Int)(o:d.length=4)(p:4<n):au (fP n) n ([],[],0,g,l,d,x,s)=some (ec 48 d,ec 57 d,g,l,d,x,s):=by
 refine fm (step:=fP n) (λq=>∃i:Nat,i<=4/\q=((ec 48 d).take i,(ec 57 d).take i,(i:Int),g,l,d,x,s)) (λq=>4 - q.2.2.1.toNat) (λ_=>(ec 48 d,ec 57 d,g,l,d,x,s)) ?_ n _ ⟨0,by omega,by simp⟩ (by simp;omega);rintro q ⟨i,hi,rfl⟩;rcases aF i 4 with k | j
 ·obtain⟨c,hc⟩:∃c,d[i]?=some c:=⟨d[i],bg (by omega)⟩;have f:=Qz (wj (z:=48) hc);have b:=Qz (wj (z:=57) hc);have h:decide ((i:Int)<4)=true:=aq (by omega);have m:wrap .i64 ((i:Int)+1)=((i+1:Nat):Int):=by rw[wrap_i64 _ (by omega) (by omega)];omega
  refine .inl ⟨((ec 48 d).take (i+1),(ec 57 d).take (i+1),((i+1:Nat):Int),g,l,d,x,s),?_,⟨i+1,by omega,rfl⟩,by simp only[bT];omega,rfl⟩;simp only[fP,h,aj,m,fe (show i+1<=d.length by omega),fe (show i<=i+1 by omega),ob,cut1 hc];have a:∀z:UInt8,((ec z d).take i).length<=4:=λz=>by rw[de];omega
  rw[f,b];by_cases hx:c=88
  ·have e:(([c]:aa)==[88])=true:=by rw[hx];rfl
   rw[e,aj,ae hx,ae hx,nV (by have:=a 48;simp;omega),nV (by have:=a 57;simp;omega)]
  ·have e:(([c]:aa)==[88])=false:=by
    rw[aK];intro e;exact hx (by simpa using e)
   rw[e,af,ab hx,ab hx,nV (by have:=a 48;simp;omega),nV (by have:=a 57;simp;omega)]
 ·have:i=4:=by omega
  subst this;refine .inr ?_;rw[iv (by rw[iK];omega),iv (by rw[iK];omega)];rfl
def HD{d:aa}(h:d=[48,48,48,48]):dval 0 d=0:=by rw[h];decide
def zN(m:Nat)(g:Bool)(d:aa)(h:okY g false d 0 0)(k:hasX d=true):aI (m+300) g false d 0 0=some (sgn g (km g d)):=by
 obtain⟨_,_,_,j,hd⟩:=qt h k;by_cases i:g=true/\dval 0 (ec 48 d)=0
 ·obtain⟨rfl,i⟩:=i;exact yc j (Bq j hd i) k (λd=>aI (m+300) true false d 0 0=some (sgn true (km true d))) (QH m) (Ql m) (Pe m) (Rj m) (Pj m) (P3 m) (QJ m) (Q2 m) (Q3 m) (Py m) (Oj m) (Nx m) (L2 m) (NA m) (LR m)
 ·have hs:km g d=(dval 0 (ec 48 d),dval 0 (ec 57 d)):=by unfold km;rw[ab i]
  have c:=pL (z:=48) (by decide) hd;have f:=pL (z:=57) (by decide) hd;have o:=tK (ec 48 d) 0 0 c (by simp);have n:=tK (ec 57 d) 0 0 f (by simp);rw[iK,j]at o n;have q:(10:Nat) ^ (4+0)=10000:=by decide
  have m1:ak (m+300) (ec 48 d) 0=some (((dval 0 (ec 48 d):Nat):Int),1):=by
   have:=iW (m+300) (ec 48 d) 0 c (by rw[iK];omega) (by omega) (by rw[iK];omega);rw[ae (by unfold E16;simp only[Ac,qo];omega)]at this;simpa using this
  have m2:ak (m+300) (ec 57 d) 0=some (((dval 0 (ec 57 d):Nat):Int),1):=by
   have:=iW (m+300) (ec 57 d) 0 f (by rw[iK];omega) (by omega) (by rw[iK];omega);rw[ae (by unfold E16;simp only[Ac,qo];omega)]at this;simpa using this
  have p:((if true=true then(1:Int)else 0)==1)=true:=rfl;have l:decide ((0:Int)>0)=false:=rfl;unfold aI;rw[nK _ g false d 0 0 (by omega) (by omega),k,D6 _ g false d 0 0 j (by omega),hs];simp only[ob,aH,ur,aj];cases g with
  | true=>
   have e:(ec 48 d==([48,48,48,48]:aa))=false:=by
    rw[aK];intro e;exact i ⟨rfl,HD e⟩
   simp only[aj,e,af,m1,m2,l,sgn,aH];generalize dval 0 (ec 48 d)=a at *;generalize dval 0 (ec 57 d)=b at *;rw[wrap_i64 _ (by omega) (by omega),wrap_i64 _ (by omega) (by omega),yE,yE]
  | false=>simp only[af,m1,m2,l,sgn,bs,aC]
def oG(g:Bool)(d:aa)(x s:Int):Nat×Nat:=if hasX d then km g d else zn d x.toNat s.toNat
def NN(m:Nat)(g l:Bool)(d:aa)(x s:Int)(hd:d.length<=100)(h:okY g l d x s):aI (m+300) g l d x s=some (sgn g (oG g d x s)):=by
 unfold oG;cases a:hasX d with
 | true=>
  obtain⟨rfl,rfl,rfl,e,b⟩:=qt h a;exact zN m g d h a
 | false=>
  obtain⟨k,q,rfl,rfl,c⟩:=sA h a;exact Bi _ g l d k q (by omega) hd c
def Pn{d:aa}{k q:Nat}(h:Num d k q):(zn d k q).1<=val d k/\val d k<=(zn d k q).2/\(zn d k q).2<=E16:=by
 have hs:=h.small;have b:dval 0 d*10 ^ k=val d k:=rfl;rw[b]at hs;unfold zn;split
 ·have a:1<=10 ^ (d.length+k - q):=zk _ _ (by decide);generalize 10 ^ (d.length+k - q)=u at a ⊢;generalize val d k=v at hs ⊢;have c:=Dm v u;have e:v<v / u*u+u:=by
   have h:=Nat.div_add_mod v u;have:=zo v a;rw[tq]at h;omega
  refine⟨c,?_,Nat.min_le_right _ _⟩;rw[Nat.le_min];omega
 ·exact⟨aQ _,aQ _,hs⟩
def mtk(d:aa):Nat->Nat->Bool
 | 0,_=>true
 | k+1,w=>(decide (d.getD k 0=88)||decide ((d.getD k 0).toNat=48+w%10))&&mtk d k (w / 10)
def AL(d:aa)(k w:Nat):mtk d (k+1) w=((decide (d.getD k 0=88)||decide ((d.getD k 0).toNat=48+w%10))&&mtk d k (w / 10)):=rfl
def zD{d:aa}{k:Nat}{c:UInt8}(h:d[k]?=some c):d.getD k 0=c:=by
 rw[yI,h];rfl
def LM(n:Nat)(g l:Bool)(d:aa)(x s:Int)(m:d.length=4):∀(k w:Nat),k<=4->w<100000000000000000->∀q,k<q->
  au (bI n) q ((w:Int),(k:Int) - 1,g,l,d,x,s)=some (if mtk d k w=true then .inr ((w / 10 ^ k:Nat):Int)else .inl 0)
 | 0,w,z,y,q,B=>by
  obtain⟨q,rfl⟩:∃p,q=p+1:=⟨q - 1,by omega⟩;have b:decide (((0:Nat):Int) - 1>=0)=false:=rfl;have j:mtk d 0 w=true:=rfl;simp only[au,bI,b,af];rw[ae j];simp
 | k+1,w,z,y,q,B=>by
  obtain⟨q,rfl⟩:∃p,q=p+1:=⟨q - 1,by omega⟩;have ih:=LM n g l d x s m k (w / 10) (by omega) (by omega) q (by omega);obtain⟨c,hc⟩:∃c,d[k]?=some c:=⟨d[k],bg (by omega)⟩;have t:((k+1:Nat):Int) - 1=(k:Int):=by omega
  have b:decide ((k:Int)>=0)=true:=aq (by omega);have u:Int.tmod (w:Int) 10=((w%10:Nat):Int):=rfl;have eq':Int.tdiv (w:Int) 10=((w / 10:Nat):Int):=rfl;have r:wrap .i64 (48+((w%10:Nat):Int))=((48+w%10:Nat):Int):=by rw[wrap_i64 _ (by omega) (by omega)];omega
  have o:wrap .u8 ((48+w%10:Nat):Int)=((48+w%10:Nat):Int):=jI _ (by omega) (by omega);have v:wrap .i64 ((w / 10:Nat):Int)=((w / 10:Nat):Int):=wrap_i64 _ (by omega) (by omega);have A:wrap .i64 ((k:Int) - 1)=(k:Int) - 1:=wrap_i64 _ (by omega) (by omega);have a:w / 10 ^ (k+1)=w / 10 / 10 ^ k:=by rw[rX,tq,Nat.div_div_eq_div_mul]
  rw[AL,zD hc,a,t];simp only[au,bI,b,aj,dw hc,ob,u,eq',r,o,v,A];by_cases hx:c=88
  ·have i:(((c.toNat:Nat):Int) != 88)=false:=by rw[hx];rfl
   rw[i,aq hx];simp only[af,Gg,m8];exact ih
  ·have i:(((c.toNat:Nat):Int) != 88)=true:=by
    simp only[bne,kC,aK];intro e;exact hx (ga.1 (by show c.toNat=88;omega))
   rw[i,am hx];simp only[aj,od];by_cases h:c.toNat=48+w%10
   ·have f:(((c.toNat:Nat):Int) != ((48+w%10:Nat):Int))=false:=by rw[h];simp
    rw[f,aq h];simp only[af,m8];exact ih
   ·have f:(((c.toNat:Nat):Int) != ((48+w%10:Nat):Int))=true:=by
     simp only[bne,kC,aK];omega
    rw[f,am h];simp only[aj,vz];rfl
def Dv(d:aa)(k q:Nat):Nat:=if 0<q then 10 ^ (d.length+k - q)else 1
def memP(d:aa)(x s:Int)(w:Nat):Prop:=if hasX d=true then mtk d 4 w=true/\w / 10 ^ 4=0 else val d x.toNat / Dv d x.toNat s.toNat=w / Dv d x.toNat s.toNat
instance (d:aa)(x s:Int)(w:Nat):Decidable (memP d x s w):=by unfold memP;infer_instance
def wOf(g:Bool)(v:Int):Int:=if g then -v else v
def inP(g:Bool)(d:aa)(x s v:Int):Prop:=-10000000000000000<=v/\v<=10000000000000000/\0<=wOf g v/\¬(hasX d=true/\g=true/\wOf g v=0)/\memP d x s (wOf g v).toNat
instance (g:Bool)(d:aa)(x s v:Int):Decidable (inP g d x s v):=by unfold inP;infer_instance
noncomputable def inT(n:Nat)(a0 a1:Bool)(a2:aa)(h g W:Int):Option Int:=
 (ob (aD n a0 a1 a2 h g) λc=>(cond (c==1) (ob (au (bI n) n (W,3,a0,a1,a2,h,g)) λf=>(Sum.casesOn (motive:=λ_=>Option _) f (λe=>(some e)) (λd=>(cond (decide (d>0)) (some 0) (some 1))))) (ob (ak n a2 h) λb=>(cond (decide (g>0)) (ob (ak n [49] (wrap .i64 ((wrap .i64 (((List.length a2:Nat):Int)+h)) - g))) λa=>(cond (a.1==0) none (cond (a.1==0) none (cond ((wrap .i64 (Int.tdiv b.1 a.1))==(wrap .i64 (Int.tdiv W a.1))) (some 1) (some 0))))) (cond ((wrap .i64 (Int.tdiv b.1 1))==(wrap .i64 (Int.tdiv W 1))) (some 1) (some 0))))))
def LA(a b:Nat):(((a:Nat):Int)==((b:Nat):Int))=decide (a=b):=by
 by_cases h:a=b
 ·subst h;simp
 ·rw[am h,aK];omega
def Fa{d:aa}{x s:Int}{w:Nat}(a:hasX d=true):memP d x s w↔mtk d 4 w=true/\w / 10 ^ 4=0:=by unfold memP;rw[ae a]
def O3{d:aa}{x s:Int}{w:Nat}(a:hasX d=false):memP d x s w↔val d x.toNat / Dv d x.toNat s.toNat=w / Dv d x.toNat s.toNat:=by unfold memP;rw[ab (by rw[a];simp)]
def in_T(m:Nat){g l:Bool}{d:aa}{x s:Int}(j:okY g l d x s)(w:Nat)(S:w<=10000000000000000):inT (m+300) g l d x s (w:Int)=some (if memP d x s w then 1 else 0):=by
 have Q:=lh j;have I:=nK (m+300) g l d x s (by omega) (by omega);unfold inT;cases i:hasX d with
 | true=>
  obtain⟨rfl,rfl,rfl,N,_⟩:=qt j i;have E:=LM (m+300) g false d 0 0 N 4 w (by omega) (by omega) (m+300) (by omega);have hlp':au (bI (m+300)) (m+300) ((w:Int),3,g,false,d,0,0)=_:=E;have C:((1:Int)==1)=true:=rfl;have o:aD (m+300) g false d 0 0=some 1:=by rw[I,i];rfl
  rw[o];simp only[ob,C,aj,hlp'];by_cases y:mtk d 4 w=true
  ·rw[ae y];by_cases A:w / 10 ^ 4=0
   ·have e:decide (((w / 10 ^ 4:Nat):Int)>0)=false:=am (by rw[A];decide);rw[ae ((Fa i).2 ⟨y,A⟩)];simp only[e,af]
   ·have e:decide (((w / 10 ^ 4:Nat):Int)>0)=true:=aq (by
     generalize w / 10 ^ 4=t at A ⊢;omega)
    rw[ab (λq=>A ((Fa i).1 q).2)];simp only[e,aj]
  ·rw[ab y,ab (λq=>y ((Fa i).1 q).1)]
 | false=>
  obtain⟨k,q,rfl,rfl,z⟩:=sA j i;have hw':=z.wide;have hs:=z.small;have R:=z.sig;have J:dval 0 d*10 ^ k=val d k:=rfl;have H:=iW (m+300) d k z.dig (by omega) (by omega) (by omega);rw[ae hs,J]at H;rw[J]at hs;unfold E16 at hs;have F:((0:Int)==1)=false:=rfl;have o:aD (m+300) g l d k q=some 0:=by rw[I,i];rfl
  have c:=O3 (x:=(k:Int)) (s:=(q:Int)) (w:=w) i;rw[bT,bT]at c;unfold Dv at c;rw[o];simp only[ob,F,af,H];by_cases G:0<q
  ·have B:decide ((q:Int)>0)=true:=aq (by omega);have w0:wrap .i64 (wrap .i64 (((d.length:Nat):Int)+(k:Int)) - (q:Int))=((d.length+k - q:Nat):Int):=by
    rw[wrap_i64 (((d.length:Nat):Int)+(k:Int)) (by omega) (by omega),wrap_i64 _ (by omega) (by omega)];omega
   have D:10 ^ (d.length+k - q)<=10 ^ 16:=nG (by decide) (by omega);have L:(10:Nat) ^ 16=10000000000000000:=by decide
   have one:dval 0 [49]=1:=by decide
   have h:dval 0 [49]*10 ^ (d.length+k - q)<=E16:=by rw[one];unfold E16;omega
   have n:=iW (m+300) [49] (d.length+k - q) (by decide) (by decide) (by omega) (by simp;omega);rw[ae h,one,vP]at n;have M:1<=10 ^ (d.length+k - q):=zk _ _ (by decide);rw[B,w0,n];rw[ae G]at c;clear h n;generalize 10 ^ (d.length+k - q)=u at M D c ⊢;generalize val d k=v at hs c ⊢;have d2:(((u:Nat):Int)==0)=false:=aK.2 (by omega);have r:Int.tdiv ((v:Nat):Int) ((u:Nat):Int)=((v / u:Nat):Int):=rfl;have p:Int.tdiv ((w:Nat):Int) ((u:Nat):Int)=((w / u:Nat):Int):=rfl;have O:v / u<=v:=Dj v u;have P:w / u<=w:=Dj w u;simp only[aj,d2,af,r,p];generalize v / u=a at O c ⊢;generalize w / u=b at P c ⊢;rw[wrap_i64 _ (by omega) (by omega),wrap_i64 _ (by omega) (by omega),LA];by_cases f:a=b
   ·rw[aq f,ae (c.2 f)];rfl
   ·rw[am f,ab (λq=>f (c.1 q))];rfl
  ·have B:decide ((q:Int)>0)=false:=am (by omega);have K:∀a:Nat,Int.tdiv ((a:Nat):Int) 1=((a:Nat):Int):=λa=>by
    have:Int.tdiv ((a:Nat):Int) 1=((a / 1:Nat):Int):=rfl;rw[this,rW]
   rw[ab G,rW,rW]at c;rw[B];simp only[af,K];rw[wrap_i64 _ (by omega) (by omega),wrap_i64 _ (by omega) (by omega),LA];by_cases f:val d k=w
   ·rw[aq f,ae (c.2 f)];rfl
   ·rw[am f,ab (λq=>f (c.1 q))];rfl
def Sj(m:Nat){g l:Bool}{d:aa}{x s:Int}(n:okY g l d x s)(v:Int):mD (m+300) g l d x s v=some (if inP g d x s v then 1 else 0):=by
 have y:=lh n;have b:=λw p=>in_T m n w p;have o:=nK (m+300) g l d x s (by omega) (by omega);unfold inT at b;unfold mD;by_cases u:v < -10000000000000000
 ·rw[aq u,ab (λq=>by have:=q.1;omega)];rfl
 ·rw[am u,af];by_cases t:v>10000000000000000
  ·rw[aq t,ab (λq=>by have:=q.2.1;omega)];rfl
  ·rw[am t,af];cases g with
   | true=>
    have w0:wrap .i64 (0 - v)=-v:=by rw[wrap_i64 _ (by omega) (by omega)];omega
    simp only[aj,w0];by_cases k:-v<0
    ·rw[aq k,ab (λq=>by have:=q.2.2.1;unfold wOf at this;simp only[aH]at this;omega)];rfl
    ·rw[am k,af];obtain⟨w,p⟩:∃w:Nat,-v=(w:Int):=⟨(-v).toNat,by omega⟩;have b:=b w (by omega);have f:wOf true v=(w:Int):=by unfold wOf;simpa using p
     have c:¬(hasX d=true/\w=0)->(inP true d x s v↔memP d x s w):=by
      intro r;unfold inP;rw[f,bT];constructor
      ·exactλq=>q.2.2.2.2
      ·exactλq=>⟨by omega,by omega,by omega,λq=>r ⟨q.1,by omega⟩,q⟩
     rw[p];cases i:hasX d with
     | true=>
      have a:aD (m+300) true l d x s=some 1:=by rw[o,i];rfl
      rw[a];have h:((1:Int)==1)=true:=rfl;simp only[ob,h,aj];by_cases r:w=0
      ·have e:(((w:Nat):Int)==0)=true:=bv.2 (by omega);rw[e,ab (λq=>q.2.2.2.1 ⟨i,rfl,by rw[f];omega⟩)];rfl
      ·have e:(((w:Nat):Int)==0)=false:=aK.2 (by omega);rw[a]at b;simp only[ob,h,aj]at b;rw[e,af,b];have:=c (λq=>r q.2);by_cases hp:memP d x s w
       ·rw[ae hp,ae (this.2 hp)]
       ·rw[ab hp,ab (λq=>hp (this.1 q))]
     | false=>
      have a:aD (m+300) true l d x s=some 0:=by rw[o,i];rfl
      have j:((0:Int)==1)=false:=rfl;rw[a]at b ⊢;simp only[ob,j,af]at b ⊢;rw[b];have:=c (λq=>by rw[i]at q;cases q.1);by_cases hp:memP d x s w
      ·rw[ae hp,ae (this.2 hp)]
      ·rw[ab hp,ab (λq=>hp (this.1 q))]
   | false=>
    simp only[af];by_cases k:v<0
    ·rw[aq k,ab (λq=>by have:=q.2.2.1;unfold wOf at this;simp only[bs,aC]at this;omega)];rfl
    ·rw[am k,af];obtain⟨w,rfl⟩:∃w:Nat,v=(w:Int):=⟨v.toNat,by omega⟩;have b:=b w (by omega);have f:wOf false (w:Int)=(w:Int):=rfl;have c:inP false d x s (w:Int)↔memP d x s w:=by
      unfold inP;rw[f,bT];constructor
      ·exactλq=>q.2.2.2.2
      ·exactλq=>⟨by omega,by omega,by omega,λq=>(by cases q.2.1),q⟩
     cases i:hasX d with
     | true=>
      have a:aD (m+300) false l d x s=some 1:=by rw[o,i];rfl
      rw[a]at b ⊢;have h:((1:Int)==1)=true:=rfl;simp only[ob,h,aj]at b ⊢;rw[b];by_cases hp:memP d x s w
      ·rw[ae hp,ae (c.2 hp)]
      ·rw[ab hp,ab (λq=>hp (c.1 q))]
     | false=>
      have a:aD (m+300) false l d x s=some 0:=by rw[o,i];rfl
      rw[a]at b ⊢;have j:((0:Int)==1)=false:=rfl;simp only[ob,j,af]at b ⊢;rw[b];by_cases hp:memP d x s w
      ·rw[ae hp,ae (c.2 hp)]
      ·rw[ab hp,ab (λq=>hp (c.1 q))]
def loK(d:aa)(k:Nat):Nat:=dval 0 ((ec 48 d).take k)
def hiK(d:aa)(k:Nat):Nat:=dval 0 ((ec 57 d).take k)
def xn(z:UInt8){d:aa}{k:Nat}{c:UInt8}(h:d[k]?=some c):dval 0 ((ec z d).take (k+1))=dval 0 ((ec z d).take k)*10+((if c=88 then z else c).toNat - 48):=by
 rw[Qz (wj h),F7]
def Bc(d:aa)(e:d.length=4)(hd:∀c∈d,bm c=true\/c=88):∀(k w:Nat),k<=4->w<10 ^ k->mtk d k w=true->loK d k<=w/\w<=hiK d k
 | 0,w,i,b,a=>by
  simp at b;subst b;simp[loK,hiK,oU]
 | k+1,w,i,b,a=>by
  obtain⟨c,hc⟩:∃c,d[k]?=some c:=⟨d[k],bg (by omega)⟩;rw[AL,zD hc,aB,ie,ci,ci]at a;have hp:(10:Nat) ^ (k+1)=10 ^ k*10:=rX 10 k;have ih:=Bc d e hd k (w / 10) (by omega) (by omega) a.2;have j:=xn 48 hc;have f:=xn 57 hc;unfold loK hiK at ih ⊢;rw[j,f];by_cases hx:c=88
  ·rw[ae hx,ae hx];have h:(48:UInt8).toNat - 48=0:=rfl;have g:(57:UInt8).toNat - 48=9:=rfl;rw[h,g];omega
  ·rw[ab hx,ab hx];have:=a.1.resolve_left hx;omega
def AE(z:UInt8)(g:bm z=true)(d:aa)(h:d.length=4)(hd:∀c∈d,bm c=true\/c=88):∀k,k<=4->mtk d k (dval 0 ((ec z d).take k))=true
 | 0,_=>rfl
 | k+1,m=>by
  obtain⟨c,hc⟩:∃c,d[k]?=some c:=⟨d[k],bg (by omega)⟩;have ih:=AE z g d h hd k (by omega);have e:bm (if c=88 then z else c)=true:=by
   by_cases hx:c=88
   ·rw[ae hx];exact g
   ·rw[ab hx];exact(hd c (fE hc)).resolve_right hx
  have j:=(bZ _).1 e;rw[AL,zD hc,xn z hc];generalize f:(if c=88 then z else c)=b at j ⊢;generalize dval 0 ((ec z d).take k)=a at ih ⊢;have l:(a*10+(b.toNat - 48)) / 10=a:=by omega
  have i:(a*10+(b.toNat - 48))%10=b.toNat - 48:=by omega
  rw[l,i,ih,BH];by_cases hx:c=88
  ·rw[aq hx];rfl
  ·rw[ab hx]at f;rw[f,aq (show b.toNat=48+(b.toNat - 48)by omega),Bool.or_true]
def zT:List (aa):=[[48,48,48,88],[48,48,88,48],[48,48,88,88],[48,88,48,48],[48,88,48,88],[48,88,88,48],[48,88,88,88],[88,48,48,48],[88,48,48,88],[88,48,88,48],[88,48,88,88],[88,88,48,48],[88,88,48,88],[88,88,88,48],[88,88,88,88]]
def Vs:zT.all (λd=>mtk d 4 (sq d)&&decide (1<=sq d)&&decide (sq d<=1000)&&(List.range 1000).all (λw=>decide (w=0)||!mtk d 4 w||decide (sq d<=w)))=true:=by decide +kernel
def Bt{d:aa}(hd:d∈zT):mtk d 4 (sq d)=true/\1<=sq d/\sq d<=1000/\∀w,1<=w->mtk d 4 w=true->sq d<=w:=by
 have h:=cq.1 Vs d hd;simp only[aB,ci,cq,kx,ie,kC]at h;obtain⟨⟨⟨g,c⟩,i⟩,f⟩:=h;refine⟨g,c,i,λw j e=>?_⟩;rcases aF w 1000 with a | b
 ·rcases f w a with(h | h) | h
  ·omega
  ·rw[e]at h;cases h
  ·exact h
 ·omega
def CN{d:aa}(a:d.length=4)(hd:∀c∈d,bm c=true\/c=88)(b:hasX d=true)(e:dval 0 (ec 48 d)=0):d∈zT:=
 yc a (Bq a hd e) b (λd=>d∈zT) (by decide) (by decide) (by decide) (by decide) (by decide) (by decide) (by decide) (by decide) (by decide) (by decide) (by decide) (by decide) (by decide) (by decide) (by decide)
def Q9{d:aa}(a:d.length=4):loK d 4=dval 0 (ec 48 d):=by
 unfold loK;rw[iv (by rw[iK];omega)]
def QV{d:aa}(a:d.length=4):hiK d 4=dval 0 (ec 57 d):=by
 unfold hiK;rw[iv (by rw[iK];omega)]
def L9{g:Bool}{d:aa}(b:d.length=4)(hd:∀c∈d,bm c=true\/c=88)(p:hasX d=true):
  (km g d).1<10000/\(km g d).2<10000/\mtk d 4 (km g d).1=true/\mtk d 4 (km g d).2=true/\1<=(km g d).2/\(g=true->1<=(km g d).1)/\∀w,w<10000->mtk d 4 w=true->(g=true->1<=w)->(km g d).1<=w/\w<=(km g d).2:=by
 have q:(10:Nat) ^ 4=10000:=by decide
 have m:=pL (z:=48) (by decide) hd;have o:=pL (z:=57) (by decide) hd;have b1:=tK (ec 48 d) 0 0 m (by simp);have b2:=tK (ec 57 d) 0 0 o (by simp);rw[iK,b,ct,q]at b1 b2;have m1:=AE 48 (by decide) d b hd 4 (by omega);have m2:=AE 57 (by decide) d b hd 4 (by omega);rw[iv (by rw[iK];omega)]at m1 m2;have j:∀w,w<10000->mtk d 4 w=true->dval 0 (ec 48 d)<=w/\w<=dval 0 (ec 57 d):=λw l h=>by
  have:=Bc d b hd 4 w (by omega) (by omega) h;rw[Q9 b,QV b]at this;exact this
 have i:1<=dval 0 (ec 57 d):=by
  rcases zl (dval 0 (ec 57 d))with f | f
  ·exfalso;have e:dval 0 (ec 48 d)=0:=by
    have:=(j _ b1 m1).2;omega
   have n:=CN b hd p e;have a:=Bt n;have:=(j _ (by omega) a.1).2;omega
  ·exact f
 unfold km;by_cases e:g=true/\dval 0 (ec 48 d)=0
 ·rw[ae e];have a:=Bt (CN b hd p e.2);refine⟨by simp only;omega,b2,a.1,m2,i,λ_=>a.2.1,λw l h k=>⟨a.2.2.2 w (k e.1) h,(j w l h).2⟩⟩
 ·rw[ab e];refine⟨b1,b2,m1,m2,i,λk=>?_,λw l h k=>j w l h⟩;simp only;rcases zl (dval 0 (ec 48 d))with f | f
  ·exact absurd ⟨k,f⟩ e
  ·exact f
def N8{g l:Bool}{d:aa}{x s:Int}(c:okY g l d x s):(oG g d x s).1<=10000000000000000/\(oG g d x s).2<=10000000000000000/\memP d x s (oG g d x s).1/\memP d x s (oG g d x s).2/\(hasX d=true->1<=(oG g d x s).2/\(g=true->1<=(oG g d x s).1))/\
  ∀w,w<=10000000000000000->memP d x s w->(hasX d=true->g=true->1<=w)->(oG g d x s).1<=w/\w<=(oG g d x s).2:=by
 unfold oG memP;cases r:hasX d with
 | true=>
  obtain⟨rfl,rfl,rfl,G,hd⟩:=qt c r;obtain⟨F,I,J,E,L,C,K⟩:=L9 (g:=g) G hd r;have M:(10:Nat) ^ 4=10000:=by decide
  simp only[aH,M];refine⟨by omega,by omega,⟨J,Nat.div_eq_of_lt F⟩,⟨E,Nat.div_eq_of_lt I⟩,λ_=>⟨L,C⟩,λw B m H=>K w (by omega) m.1 (H trivial)⟩
 | false=>
  obtain⟨k,q,rfl,rfl,z⟩:=sA c r;have hs:=z.small;have N:dval 0 d*10 ^ k=val d k:=rfl;rw[N]at hs;obtain⟨e,f,b⟩:=Pn z;unfold E16 at b;simp only[bs,aC,bT];unfold Dv;unfold zn at e f b ⊢;by_cases j:0<q
  ·rw[ae j]at e f b ⊢;rw[ae j];have t:1<=10 ^ (d.length+k - q):=zk _ _ (by decide);generalize 10 ^ (d.length+k - q)=u at *;generalize val d k=v at *;simp only at e f b ⊢;have i:v / u*u / u=v / u:=Nat.mul_div_cancel _ t;have n:∀w,v / u*u<=w->w<v / u*u+u->w / u=v / u:=by
    intro w y p;apply Nat.div_eq_of_lt_le
    ·exact y
    ·rw[Nat.succ_mul];exact p
   have a:∀w,v / u=w / u->v / u*u<=w/\w<v / u*u+u:=by
    intro w h;rw[h];have y:=Dm w u;have p:=Nat.div_add_mod w u;have P:=zo w t;rw[tq]at p;omega
   have A:min (v / u*u+u - 1) E16<=v / u*u+u - 1:=Nat.min_le_left _ _;have o:=a v rfl;refine⟨by omega,b,i.symm,(n _ (by omega) (by omega)).symm,λq=>(by cases q),λw B m _=>?_⟩;obtain⟨D,O⟩:=a w m;refine⟨D,?_⟩;rw[Nat.le_min];unfold E16;omega
  ·rw[ab j]at e f b ⊢;rw[ab j];simp only[rW]at e f b ⊢;refine⟨b,b,trivial,trivial,λq=>(by cases q),λw B m _=>by omega⟩
def KO{g l:Bool}{d:aa}{x s:Int}(i:okY g l d x s):inP g d x s (sgn g (oG g d x s)).1/\inP g d x s (sgn g (oG g d x s)).2/\∀v,inP g d x s v->(sgn g (oG g d x s)).1<=v/\v<=(sgn g (oG g d x s)).2:=by
 obtain⟨m,o,r,j,u,f⟩:=N8 i;generalize oG g d x s=y at *;obtain⟨lo,hi⟩:=y;simp only at m o r j u f;cases g with
 | true=>
  have b:∀a:Nat,wOf true (-(a:Int))=(a:Int):=λa=>by unfold wOf;simp
  have mk:∀a:Nat,a<=10000000000000000->memP d x s a->(hasX d=true->1<=a)->inP true d x s (-(a:Int)):=by
   intro a B t C;refine⟨by omega,by omega,by rw[b];omega,λq=>?_,by rw[b,bT];exact t⟩;have:=C q.1;have D:=q.2.2;rw[b]at D;omega
  simp only[sgn,aH];refine⟨mk hi o j (λh=>(u h).1),mk lo m r (λh=>(u h).2 rfl),λv w=>?_⟩;obtain⟨A,z,p,k,c⟩:=w;have n:wOf true v=-v:=rfl;rw[n]at p k c
  have:=f (-v).toNat (by omega) c (λhx _=>by
   have:¬-v=0:=λe=>k ⟨hx,rfl,e⟩;omega)
  omega
 | false=>
  have b:∀a:Int,wOf false a=a:=λa=>rfl;have mk:∀a:Nat,a<=10000000000000000->memP d x s a->inP false d x s (a:Int):=by
   intro a B t;exact⟨by omega,by omega,by rw[b];omega,λq=>(by cases q.2.1),by rw[b,bT];exact t⟩
  simp only[sgn,bs,aC];refine⟨mk lo m r,mk hi o j,λv w=>?_⟩;obtain⟨A,z,p,k,c⟩:=w;rw[b]at p c;have:=f v.toNat (by omega) c (λ_ q=>by cases q);omega
end Go.Sh
namespace Go.Sh.Mk
open Go.Abs
def okB(c:UInt8):Bool:=c.toNat==88||(decide (48<=c.toNat)&&decide (c.toNat<=57))
def chk(s:aa):Int:=if 18<s.length then 3 else if s.all okB then(if s=[]then 5 else 0)else 5
def uE(n:Nat)(s0 s:aa)(u:s.length+1<n):
  au (il n) n (s0,s,0)=some (if s.all okB then .inr s0 else .inl 5):=by
 have:=fm (step:=il n) (λx=>x.1=s0/\x.2.1=s/\x.2.2<=s.length) (λx=>s.length - x.2.2)
  (λx=>if(s.drop x.2.2).all okB then .inr s0 else .inl 5) ?_ n (s0,s,0) ⟨rfl,rfl,dh _⟩ (by simp;omega)
 ·simpa using this
 rintro⟨a,b,i⟩ ⟨rfl,rfl,hi⟩;simp only at hi ⊢;rcases aF i b.length with g | m
 ·obtain⟨c,hc⟩:∃c,b[i]?=some c:=⟨b[i],bg g⟩;have o:Nat.blt i b.length=true:=dF g;rw[bK hc,md];simp only[il,o,aj];by_cases k:c.toNat<128
  ·rw[Ao hc k];by_cases l:c.toNat=88
   ·refine .inl ⟨(a,b,i+1),by simp[l],⟨rfl,rfl,by simp only;omega⟩,by simp only;omega,?_⟩;simp[okB,l]
   ·by_cases q:c.toNat<48
    ·refine .inr ?_;have f:(((c.toNat:Nat):Int) != 88)=true:=by simp;omega
     have e:(decide (((c.toNat:Nat):Int)<48))=true:=by simp;omega
     have d:okB c=false:=by simp[okB];omega
     simp[f,e,d]
    ·by_cases p:57<c.toNat
     ·refine .inr ?_;have f:(((c.toNat:Nat):Int) != 88)=true:=by simp;omega
      have e:(decide (((c.toNat:Nat):Int)<48))=false:=by simp;omega
      have j:(decide (((c.toNat:Nat):Int)>57))=true:=by simp;omega
      have d:okB c=false:=by simp[okB];omega
      simp[f,e,d,j]
     ·have f:(((c.toNat:Nat):Int) != 88)=true:=by simp;omega
      have e:(decide (((c.toNat:Nat):Int)<48))=false:=by simp;omega
      have j:(decide (((c.toNat:Nat):Int)>57))=false:=by simp;omega
      have d:okB c=true:=by simp[okB];omega
      refine .inl ⟨(a,b,i+1),by simp only[f,e,j,aj,af],⟨rfl,rfl,by simp only;omega⟩,by simp only;omega,?_⟩;simp[d]
  ·obtain⟨t,r⟩:=GP hc (by omega);refine .inr ?_;have f:((((dec b i).1:Nat):Int) != 88)=true:=by simp;omega
   have e:(decide ((((dec b i).1:Nat):Int)<48))=false:=by simp;omega
   have j:(decide ((((dec b i).1:Nat):Int)>57))=true:=by simp;omega
   have d:okB c=false:=by simp[okB];omega
   simp[f,e,d,j]
 ·have o:Nat.blt i b.length=false:=by
   cases h:Nat.blt i b.length with
   | false=>rfl
   | true=>have:i<b.length:=aG h;omega
  refine .inr ?_;simp only[il,o,af];rw[iD m];rfl
def k9(n:Nat)(s:aa)(b:30<=n):jL n s=some (chk s):=by
 unfold jL chk;by_cases h:18<s.length
 ·have:(decide (((List.length s:Nat):Int)>18))=true:=by simp;omega
  simp[this,h]
 ·have e:(decide (((List.length s:Nat):Int)>18))=false:=by simp;omega
  simp only[e,af,h,aC];rw[uE n s s (by omega)];by_cases a:s.all okB=true
  ·simp only[a,aH,ob];by_cases hs:s=[]
   ·simp[hs]
   ·have:(s==([]:aa))=false:=by simpa using hs
    simp[this,hs]
  ·simp[a,ob]
def mR{s:aa}(h:chk s=0):s.length<=18/\s≠[]/\∀c∈s,okB c=true:=by
 unfold chk at h;split at h
 ·simp at h
 ·split at h
  ·rename_i a;split at h
   ·simp at h
   ·rename_i hs;exact⟨by omega,hs,by simpa using a⟩
  ·simp at h
def nums(l:aa):List Int:=l.map λb=>((b.toNat:Nat):Int)
def over(d:List Int)(i:Nat)(l:List Int):List Int:=d.take i++(l++d.drop (i+l.length))
def zE(d:List Int)(i:Nat)(x:Int)(l:List Int)(h:i<d.length):over (d.set i x) (i+1) l=over d i (x::l):=by
 unfold over;rw[show(d.set i x).take (i+1)=d.take i++[x]from by
  rw[K9 (by simpa using h)];simp[List.take_set_of_le]]
 rw[List.drop_set_of_lt (by omega)];simp[gN,pV 1]
def Fz(d:List Int)(i:Nat):over d i []=d:=by simp[over]
def NU(d:List Int)(i:Nat)(l:List Int)(h:i+l.length<=d.length):(over d i l).length=d.length:=by
 unfold over;simp;omega
def LV{x y:UInt8}:(((x.toNat:Nat):Int)==((y.toNat:Nat):Int))=decide (x=y):=by
 by_cases h:x=y
 ·simp[h]
 ·have:x.toNat≠y.toNat:=λe=>h (ga.1 e);simp[h];omega
def zb{x:UInt8}:(((x.toNat:Nat):Int)==88)=decide (x=88):=by
 have:=LV (x:=x) (y:=88);simpa using this
def dg:Nat->Int->List Int
 | 0,_=>[]
 | L+1,k=>dg L (k / 10)++[48+k%10]
def wT:∀(L:Nat) (k:Int),(dg L k).length=L
 | 0,_=>rfl
 | L+1,k=>by simp[dg,wT L]
def sd:∀(L:Nat) (k:Int),∀x∈dg L k,48<=x/\x<58
 | 0,_,x,h=>by simp[dg]at h
 | L+1,k,x,h=>by
  simp only[dg,lV,ul]at h;rcases h with h | rfl
  ·exact sd L _ x h
  ·omega
def iY:aa->List Int->Bool
 | c::m,d::l=>(c==88||decide (((c.toNat:Nat):Int)=d))&&iY m l
 | _,_=>true
def uu:∀{a c:aa} {b d:List Int},a.length=b.length->iY (a++c) (b++d)=(iY a b&&iY c d)
 | [],c,[],d,_=>by simp[iY]
 | x::a,c,y::b,d,h=>by
  simp only[aP,wz]at h;simp only[dq,iY,uu h,Bool.and_assoc]
def hasM(m:aa)(k:Int):Bool:=decide (0<=k)&&(decide (k<10 ^ m.length)&&iY m (dg m.length k))
def MH(L:Nat)(h:L<=18):ot 20000000 ((L:Nat):Int)=some (10 ^ L):=by
 have b:allN (λi=>match ot 20000000 ((i:Nat):Int)with | some r=>decide (r=10 ^ i) | none=>false) 19=true:=by kernel_rfl
 have:=DJ b L (by omega);split at this
 ·rename_i r a;rw[a];simpa using this
 ·cases this
def CY(L:Nat)(h:L<=18):(10:Int) ^ L<=1000000000000000000:=by
 have a:allN (λi=>decide ((10:Int) ^ i<=1000000000000000000)) 19=true:=by kernel_rfl
 simpa using DJ a L (by omega)
def Rq{k:Int}(h:0<=k):Int.tmod k 10=k%10:=KD h
def Ur{k:Int}(h:0<=k):Int.tdiv k 10=k / 10:=OQ h
def HH(k:Int)(i:Nat)(d:List Int)(a:0<=k)(c:k<9223372036854775808)(hi:i<=18)(hd:d.length=18):
  au (ip 20000000) 20000000 (k,(i:Int) - 1,d)=some (over d 0 (dg i k)):=by
 have:=fm (step:=ip 20000000) (λx=>(0<=x.1/\x.1<9223372036854775808)/\(-1<=x.2.1/\x.2.1<=17)/\x.2.2.length=18) (λx=>(x.2.1+1).toNat)
  (λx=>over x.2.2 0 (dg (x.2.1+1).toNat x.1)) ?_ 20000000 (k,(i:Int) - 1,d) ⟨⟨a,c⟩,⟨by simp only;omega,by simp only;omega⟩,hd⟩ (by simp only;omega)
 ·simpa using this
 rintro⟨k,i,d⟩ ⟨⟨a,c⟩,⟨h,p⟩,hd⟩;simp only at a c h p hd ⊢;by_cases hi:0<=i
 ·obtain⟨j,rfl⟩:∃j:Nat,i=j:=⟨i.toNat,by omega⟩;have e:j<18:=by omega
  have b:decide ((j:Int)>=0)=true:=by simp
  have m:Nat.blt j 18=true:=dF e;have n:wrap .i64 ((j:Int) - 1)=(j:Int) - 1:=wrap_i64 _ (by omega) (by omega);have g:wrap .i64 (Int.tdiv k 10)=k / 10:=by rw[Ur a];exact wrap_i64 _ (by omega) (by omega)
  have o:wrap .u8 (wrap .i64 (48+Int.tmod k 10))=48+k%10:=by rw[Rq a,wrap_i64 _ (by omega) (by omega),jI _ (by omega) (by omega)]
  refine .inl ⟨(k / 10,(j:Int) - 1,d.set j (48+k%10)),by simp only[ip,b,aj,eZ e,ob,m,n,g,o],⟨⟨by simp only;omega,by simp only;omega⟩,⟨by simp only;omega,by simp only;omega⟩,by simpa using hd⟩,by simp only;omega,?_⟩;have f:((j:Int) - 1+1).toNat=j:=by omega
  have l:((j:Int)+1).toNat=j+1:=by omega
  simp only[f,l,over,nA,dW,wT,dc,dg,lK];congr 1;rw[List.drop_set,ab (by omega),Nat.sub_self,qd (by omega)];simp only[List.set_cons_zero,bW,wT,aP,iy,dq,dW,dc]
 ·have b:decide (i>=0)=false:=by simp;omega
  have s:(i+1).toNat=0:=by omega
  refine .inr ?_;simp only[ip,b,af,s,dg,Fz]
def NP(m:aa)(k:Int)(a:m.length<=18)(b:0<=k)(c:k<9223372036854775808):
  kT 20000000 m k=some (over [0,0,0,0,0,0,0,0,0,0,0,0,0,0,0,0,0,0] 0 (dg m.length k)):=by
 have w:wrap .i64 (((List.length m:Nat):Int) - 1)=(m.length:Int) - 1:=wrap_i64 _ (by omega) (by omega);simp only[kT,w,HH k m.length [0,0,0,0,0,0,0,0,0,0,0,0,0,0,0,0,0,0] b c a (by rfl),ob]
def uQ{d l:List Int}{i:Nat}(h:i<l.length):(over d 0 l)[i]?=l[i]?:=by
 unfold over;simp only[nA,dW];rw[mS h]
def xM:∀(l:List Int),(∀x∈l,0<=x/\x<256)->nums (gL l)=l
 | [],_=>rfl
 | x::l,h=>by
  have ih:=xM l λy hy=>h y (gW _ hy);obtain⟨a,c⟩:=h x (by simp);have e:(((UInt8.ofNat x.toNat).toNat:Nat):Int)=x:=by
   rw[D1,rG (by omega)];omega
  simp only[nums,gL,vD]at ih ⊢;simp only[ge,Function.comp,e];rw[show List.map ((λb:UInt8=>((b.toNat:Nat):Int)) ∘ λn:Int=>UInt8.ofNat n.toNat) l=l from ih]
def LU(l:aa):(nums l).length=l.length:=by simp[nums]
def cnt:aa->Nat
 | []=>0
 | c::r=>if c=88 then cnt r+1 else cnt r
def dv(c:UInt8):Int:=((c.toNat:Nat):Int) - 48
def nth:aa->Int->Int
 | [],_=>0
 | c::r,i=>if c=88 then 10*nth r (i / 10)+i%10 else 10*nth r i+dv c
def ag:aa->Int->Bool
 | [],_=>true
 | c::r,k=>ag r (k / 10)&&(decide (c=88)||decide (dv c=k%10))
def idx:aa->Int->Int
 | [],_=>0
 | c::r,k=>if c=88 then 10*idx r (k / 10)+k%10 else idx r (k / 10)
def okR(r:aa):Prop:=∀c∈r,c=88\/(0<=dv c/\dv c<10)
def yA{m:aa}(h:∀c∈m,okB c=true):okR m.reverse:=by
 intro c hc;have:=h c (Em.1 hc);simp only[okB,ie,bv,aB,ci]at this;rcases this with h | h
 ·exact .inl (ga.1 (by simpa using h))
 ·exact .inr (by unfold dv;omega)
def qQ{c:UInt8}{r:aa}(h:okR (c::r)):okR r:=λx hx=>h x (gW _ hx)
def ij(n:Nat):(10:Int) ^ (n+1)=10*10 ^ n:=by rw[Int.pow_succ,yk]
def s9(n:Nat):(0:Int)<10 ^ n:=Int.pow_pos (by omega)
def qs:∀{r:aa},okR r->∀i,0<=i->0<=nth r i/\nth r i<10 ^ r.length
 | [],_,i,_=>by simp[nth]
 | c::r,h,i,hi=>by
  simp only[nth,aP,ij];split
  ·have:=qs (qQ h) (i / 10) (by omega);omega
  ·rename_i hc;have:=qs (qQ h) i hi;have:=(h c (by simp)).resolve_left hc;omega
def IT:∀{r:aa},okR r->∀i,0<=i->ag r (nth r i)=true
 | [],_,_,_=>rfl
 | c::r,h,i,hi=>by
  simp only[nth,ag];split
  ·rename_i hc;have e:(10*nth r (i / 10)+i%10) / 10=nth r (i / 10):=by omega
   rw[e,IT (qQ h) (i / 10) (by omega)];simp[hc]
  ·rename_i hc;have hd:=(h c (by simp)).resolve_left hc;have e:(10*nth r i+dv c) / 10=nth r i:=by omega
   have a:(10*nth r i+dv c)%10=dv c:=by omega
   rw[e,a,IT (qQ h) i hi];simp
def wg:∀(r:aa) (k:Int),0<=k->0<=idx r k/\idx r k<10 ^ cnt r
 | [],k,_=>by simp[idx,cnt]
 | c::r,k,a=>by
  have:=wg r (k / 10) (by omega);simp only[idx,cnt];split
  ·rw[ij];omega
  ·exact this
def Jd:∀{r:aa} {k:Int},0<=k->k<10 ^ r.length->ag r k=true->nth r (idx r k)=k
 | [],k,d,b,_=>by simp at b;simp[nth];omega
 | c::r,k,d,b,a=>by
  simp only[ag,aB,ie,ci]at a;rw[aP,ij]at b;have ih:=Jd (r:=r) (k:=k / 10) (by omega) (by omega) a.1;simp only[nth,idx];split
  ·have:=wg r (k / 10) (by omega);have e:(10*idx r (k / 10)+k%10) / 10=idx r (k / 10):=by omega
   have f:(10*idx r (k / 10)+k%10)%10=k%10:=by omega
   rw[e,f,ih];omega
  ·rename_i hc;rw[ih];have:=a.2.resolve_left hc;omega
def AB:∀{r:aa},okR r->∀i j,0<=i->i<j->j<10 ^ cnt r->nth r i<nth r j
 | [],_,i,j,b,d,a=>by simp[cnt]at a;omega
 | c::r,h,i,j,b,d,a=>by
  simp only[nth,cnt]at a ⊢;split
  ·rename_i hc;rw[ae hc,ij]at a;by_cases e:i / 10=j / 10
   ·rw[e];omega
   ·have:=AB (qQ h) (i / 10) (j / 10) (by omega) (by omega) (by omega);omega
  ·rename_i hc;rw[ab hc]at a;have:=AB (qQ h) i j b d a;omega
def Fh:∀(r:aa),∀k,iY r.reverse (dg r.length k)=ag r k
 | [],k=>rfl
 | c::r,k=>by
  simp only[List.reverse_cons,aP,dg,ag];rw[uu (by rw[tj,wT]),Fh r];have a:decide (((c.toNat:Nat):Int)=48+k%10)=decide (dv c=k%10):=oC.2 (by unfold dv;omega);have b:(c==88)=decide (c=88):=by by_cases h:c=88<;>simp[h]
  simp only[iY,BH,a,b]
def EG(m:aa)(k:Int):hasM m k=(decide (0<=k)&&(decide (k<10 ^ m.length)&&ag m.reverse k)):=by
 have:=Fh m.reverse k;rw[wk,tj]at this;unfold hasM;rw[this]
def vM:∀(m:aa),cnt m=m.count 88
 | []=>rfl
 | c::m=>by
  simp only[cnt,vM m,List.count_cons];by_cases h:c=88<;>simp[h]
def rN(m:aa):cnt m.reverse=cnt m:=by rw[vM,vM,List.count_reverse]
def KP:∀(m:aa),cnt m<=m.length
 | []=>by simp[cnt]
 | c::m=>by
  have:=KP m;simp only[cnt,aP];split<;>omega
def fd(x y:Int):Int:=(if y=88 then x else y) - 48
def fval(x:Int)(l:List Int):Int:=l.foldl (λn y=>10*n+fd x y) 0
def zW(x:Int):∀(l:List Int) (n:Int),l.foldl (λn y=>10*n+fd x y) n=n*10 ^ l.length+fval x l
 | [],n=>by simp[fval]
 | y::l,n=>by
  have e:=zW x l (10*n+fd x y);have a:=zW x l (10*0+fd x y);simp only[fval,ux,aP,ij]at e a ⊢;rw[e,a,Int.add_mul,Int.add_mul];have:10*n*10 ^ l.length=n*(10*10 ^ l.length):=by rw[yk 10 n,Int.mul_assoc]
  omega
def vF(s:aa)(x:Int)(h18:s.length<=18)(hs:∀c∈s,0<=fd x ((c.toNat:Nat):Int)/\fd x ((c.toNat:Nat):Int)<10):lD 20000000 s x=some (fval x (nums s)):=by
 have hs':∀y∈nums s,0<=fd x y/\fd x y<10:=by
  intro y hy;obtain⟨c,hc,rfl⟩:=ew.1 hy;exact hs c hc
 have hl:(nums s).length=s.length:=LU s;have:=fm (step:=gz 20000000)
  (λst=>st.1=x/\st.2.2.1=((s.length:Nat):Int)/\st.2.2.2.2=nums s/\(0<=st.2.2.2.1/\st.2.2.2.1<=s.length)/\0<=st.2.1/\st.2.1<10 ^ st.2.2.2.1.toNat) (λst=>s.length - st.2.2.2.1.toNat)
  (λst=>((nums s).drop st.2.2.2.1.toNat).foldl (λn y=>10*n+fd x y) st.2.1) ?_ 20000000 (x,0,((s.length:Nat):Int),0,nums s) ⟨rfl,rfl,rfl,⟨by simp,by simp⟩,by simp,by simp⟩ (by simp;omega)
 ·show(ob (au (gz 20000000) 20000000 (x,0,((List.length (nums s):Nat):Int),0,nums s)) λy30=>some y30)=_;rw[hl,this];rfl
 rintro⟨x',n,len,i,l⟩ ⟨q1,q2,q3,⟨h0,hi⟩,n0,n1⟩;simp only at q1 q2 q3 h0 hi n0 n1 ⊢;subst q1 q2 q3;obtain⟨j,rfl⟩:∃j:Nat,i=j:=⟨i.toNat,by omega⟩;simp only[bT]at n1 ⊢;rcases aF j s.length with hlt | hge
 ·obtain⟨y,hy⟩:∃c,(nums s)[j]?=some c:=⟨(nums s)[j]'(by omega),bg (by omega)⟩;obtain⟨d0,d1⟩:=hs' y (fE hy);have hb:(decide ((j:Int)<((s.length:Nat):Int)))=true:=by simp;omega
  have hw:wrap .i64 ((j:Int)+1)=((j+1:Nat):Int):=by rw[wrap_i64 _ (by omega) (by omega)];omega
  have hb1:=CY (j+1) (by omega);rw[ij]at hb1;have w1:wrap .i64 (10*n)=10*n:=wrap_i64 _ (by omega) (by omega);have w2:∀z:Int,0<=z->z<10->wrap .i64 (10*n+wrap .i64 (wrap .u8 z))=10*n+z:=λz z0 z1=>by
   rw[jI z (by omega) (by omega),wrap_i64 z (by omega) (by omega),wrap_i64 _ (by omega) (by omega)]
  rw[bK hy,ux];simp only[gz,hb,aj,eZ (show j<(nums s).length by omega),ob,hy,hw,w1];have next:0<=10*n+fd x' y/\10*n+fd x' y<10 ^ (j+1):=by rw[ij];omega
  by_cases h88:y=88
  ·have e1:(y==88)=true:=by simpa using h88
   have hd:fd x' y=x' - 48:=by simp[fd,h88]
   rw[hd]at d0 d1 next ⊢;refine .inl ⟨(x',10*n+(x' - 48),((s.length:Nat):Int),((j+1:Nat):Int),nums s),by simp only[e1,aj,w2 _ d0 d1],⟨rfl,rfl,rfl,⟨by simp only;omega,by simp only;omega⟩,next.1,by simpa only[bT]using next.2⟩,by simp only[bT];omega,by simp only[bT]⟩
  ·have e1:(y==88)=false:=by simpa using h88
   have hd:fd x' y=y - 48:=by simp[fd,h88]
   rw[hd]at d0 d1 next ⊢;refine .inl ⟨(x',10*n+(y - 48),((s.length:Nat):Int),((j+1:Nat):Int),nums s),by simp only[e1,af,w2 _ d0 d1],⟨rfl,rfl,rfl,⟨by simp only;omega,by simp only;omega⟩,next.1,by simpa only[bT]using next.2⟩,by simp only[bT];omega,by simp only[bT]⟩
 ·have hb:(decide ((j:Int)<((s.length:Nat):Int)))=false:=by simp;omega
  refine .inr ?_;simp only[gz,hb,af];rw[iD (by omega)];rfl
def wY(x:Int)(l:List Int)(y:Int):fval x (l++[y])=10*fval x l+fd x y:=by simp[fval,Gk]
def BS(r:aa)(c:UInt8):nums ((c::r).reverse)=nums r.reverse++[((c.toNat:Nat):Int)]:=by simp[nums]
def Df(x:Int)(c:UInt8):fd x ((c.toNat:Nat):Int)=if c=88 then x - 48 else dv c:=by
 unfold fd dv;by_cases h:c=88
 ·simp[h]
 ·have:¬((c.toNat:Nat):Int)=88:=λe=>h (ga.1 (by simpa using(by omega:c.toNat=88)));rw[ab this,ab h]
def yi:∀(r:aa),fval 48 (nums r.reverse)=nth r 0
 | []=>rfl
 | c::r=>by
  rw[BS,wY,yi r,Df];simp only[nth];split<;>simp
def sI:∀(r:aa),fval 57 (nums r.reverse)=nth r (10 ^ cnt r - 1)
 | []=>rfl
 | c::r=>by
  have hp:=s9 (cnt r);rw[BS,wY,sI r,Df];simp only[nth,cnt];split
  ·rw[ij];have a:(10*(10:Int) ^ cnt r - 1) / 10=10 ^ cnt r - 1:=by omega
   have b:(10*(10:Int) ^ cnt r - 1)%10=9:=by omega
   rw[a,b];omega
  ·rfl
def SR{m:aa}(a:∀c∈m,okB c=true){x:Int}(hx:48<=x/\x<58):∀c∈m,0<=fd x ((c.toNat:Nat):Int)/\fd x ((c.toNat:Nat):Int)<10:=by
 intro c hc;rw[Df];have:=yA a c (Em.2 hc);split
 ·omega
 ·rename_i h;exact this.resolve_left h
def NL{m:aa}(c:chk m=0):oP 20000000 m=some (nth m.reverse 0,0):=by
 obtain⟨a,_,b⟩:=mR c;have d:((0:Int) != 0)=false:=by simp
 have:=yi m.reverse;rw[wk]at this;simp only[oP,k9 20000000 m (by omega),c,ob,d,af,vF m 48 a (SR b (by omega)),this]
def EI{m:aa}(c:chk m=0):la 20000000 m=some (nth m.reverse (10 ^ cnt m - 1),0):=by
 obtain⟨a,_,b⟩:=mR c;have d:((0:Int) != 0)=false:=by simp
 have:=sI m.reverse;rw[wk,rN]at this;simp only[la,k9 20000000 m (by omega),c,ob,d,af,vF m 57 a (SR b (by omega)),this]
def N6{m:aa}{l:List Int}(z:List Int)(b:m.length<=18)(f:l.length=m.length)(d:∀y∈l,48<=y/\y<58):gh 20000000 m (over z 0 l)=some (fval 0 l):=by
 have g:List.take m.length (over z 0 l)=l:=by
  unfold over;rw[nA,dW,tw (by omega),iv (by omega)]
 have e:nums (gL l)=l:=xM l λy hy=>by have:=d y hy;omega
 have h:(gL l).length=m.length:=by simp[gL,f]
 simp only[gh,fe b,ob,dc,show Nat.ble m.length 18=true from dF b,aj,cg,g];rw[vF (gL l) 0 (by omega) ?_,e];intro c hc;have a:((c.toNat:Nat):Int)∈l:=by rw[<-e];exact ew.2 ⟨c,hc,rfl⟩
 have:=d _ a;unfold fd;rw[ab (by omega)];omega
def Gq{m:aa}(d:chk m=0){i:Int}(c:0<=i):hasM m (nth m.reverse i)=true:=by
 obtain⟨e,_,a⟩:=mR d;have b:=qs (yA a) i c;rw[tj]at b;rw[EG,IT (yA a) i c,aq b.1,aq b.2];rfl
def vl:List Int->Int
 | []=>0
 | y::l=>(y - 48)*10 ^ l.length+vl l
def digl(l:List Int):Prop:=∀y∈l,48<=y/\y<58
def cY{y:Int}{l:List Int}(h:digl (y::l)):digl l:=λx hx=>h x (gW _ hx)
def uN:∀{l:List Int},digl l->0<=vl l/\vl l<10 ^ l.length
 | [],_=>by simp[vl]
 | y::l,h=>by
  have ih:=uN (cY h);have hy:=h y (by simp);have hp:=s9 l.length;simp only[vl,aP,ij];have a1:0<=(y - 48)*10 ^ l.length:=Int.mul_nonneg (by omega) (by omega);have a2:(y - 48)*10 ^ l.length<=9*10 ^ l.length:=Ox (by omega) (by omega);omega
def P8{y z:Int}{a b:List Int}(c:a.length=b.length)(e:digl a)(f:digl b)(h:y<z):vl (y::a)<vl (z::b):=by
 have g:=uN e;have d:=uN f;have hp:=s9 a.length;simp only[vl];rw[<-c]at d ⊢;have a2:(y - 48+1)*10 ^ a.length<=(z - 48)*10 ^ a.length:=Ox (by omega) (by omega);rw[Int.add_mul]at a2;omega
def Aj:∀{l:List Int},digl l->fval 0 l=vl l
 | [],_=>rfl
 | y::l,h=>by
  have hy:=h y (by simp);have e:fval 0 (y::l)=l.foldl (λn y=>10*n+fd 0 y) (10*0+fd 0 y):=rfl;have a:fd 0 y=y - 48:=by unfold fd;rw[ab (by omega)]
  rw[e,zW,Aj (cY h),a];simp only[vl,Int.mul_zero,Int.zero_add]
def H9{l:List Int}{y:Int}(h:digl (l++[y])):vl (l++[y])=10*vl l+(y - 48):=by
 have hy:=h y (by simp);have a:digl l:=λx hx=>h x (by simp[hx]);rw[<-Aj h,<-Aj a,wY];unfold fd;rw[ab (by omega)]
def Oi:∀(L:Nat) (k:Int),0<=k->k<10 ^ L->vl (dg L k)=k
 | 0,k,b,a=>by simp at a;simp[dg,vl];omega
 | L+1,k,b,a=>by
  rw[ij]at a;have:=Oi L (k / 10) (by omega) (by omega);have hd:=sd (L+1) k;simp only[dg]at hd ⊢;rw[H9 hd,this];omega
def Vq{l:List Int}(h:digl l):dg l.length (vl l)=l:=by
 have c:∀(r:List Int),digl r.reverse->dg r.length (vl r.reverse)=r.reverse:=by
  intro r
  induction r with
  | nil=>intro _;rfl
  | cons y r ih=>
   intro h;simp only[List.reverse_cons,aP]at h ⊢;have hy:=h y (by simp);rw[H9 h];simp only[dg];have a:(10*vl r.reverse+(y - 48)) / 10=vl r.reverse:=by omega
   have b:48+(10*vl r.reverse+(y - 48))%10=y:=by omega
   rw[a,b,ih λx hx=>h x (lV.2 (.inl hx))]
 have:=c l.reverse (by rw[wk];exact h);rwa[wk,tj]at this
def fst(up:Bool):Int:=cond up 48 57
def lst(up:Bool):Int:=cond up 57 48
def stp(up:Bool)(y:Int):Int:=cond up (y+1) (y - 1)
def fil(up:Bool)(m:aa):List Int:=m.map λc=>cond (decide (c=88)) (fst up) ((c.toNat:Nat):Int)
def nx(up:Bool):aa->List Int->Option (List Int)
 | c::m,y::l=>
  if c=88 then
   match nx up m l with
   | some r=>some (y::r)
   | none=>if y=lst up then none else some (stp up y::fil up m)
  else if((c.toNat:Nat):Int)=y then(nx up m l).map λr=>y::r
  else if decide (((c.toNat:Nat):Int)>y)=up then some (((c.toNat:Nat):Int)::fil up m)else none
 | _,_=>some []
def okM(m:aa):Prop:=∀c∈m,okB c=true
def qT{c:UInt8}{m:aa}(h:okM (c::m)):okM m:=λx hx=>h x (gW _ hx)
def Gh{c:UInt8}(h:okB c=true)(a:¬c=88):48<=((c.toNat:Nat):Int)/\((c.toNat:Nat):Int)<58:=by
 simp only[okB,ie,bv,aB,ci]at h;have:¬c.toNat=88:=λe=>a (ga.1 (by simpa using e));omega
def Aa(up:Bool)(m:aa):(fil up m).length=m.length:=by simp[fil]
def IE(up:Bool){m:aa}(h:okM m):digl (fil up m):=by
 intro y hy;obtain⟨c,hc,rfl⟩:=ew.1 hy;by_cases a:c=88
 ·simp only[aq a,aj];cases up<;>simp[fst]
 ·simp only[am a,af];exact Gh (h c hc) a
def wu(up:Bool):∀(m:aa),iY m (fil up m)=true
 | []=>rfl
 | c::m=>by
  have:=wu up m;simp only[fil,ge,iY]at this ⊢;rw[this];by_cases a:c=88
  ·simp[a]
  ·simp[a]
def eP(up:Bool)(a b:Int):Prop:=match up with | true=>a<=b | false=>b<=a
def y7(up:Bool):∀{m:aa} {e:List Int},okM m->m.length=e.length->digl e->iY m e=true->eP up (vl (fil up m)) (vl e)
 | [],[],_,_,_,_=>by cases up<;>simp[fil,vl,eP]
 | c::m,y::e,l,i,j,k=>by
  simp only[aP,wz]at i;simp only[iY,aB,ie,bv,ci]at k;have ih:=y7 up (qT l) i (cY j) k.2;have hy:=j y (by simp);have f:=Aa up m;have n:=IE up (qT l);have a:∀z:Int,vl (z::fil up m)=(z - 48)*10 ^ m.length+vl (fil up m):=λz=>by rw[vl,f]
  have d:fil up (c::m)=(cond (decide (c=88)) (fst up) ((c.toNat:Nat):Int))::fil up m:=rfl;rw[d];by_cases g:c=88
  ·simp only[aq g,aj];by_cases b:y=fst up
   ·rw[<-b,a,vl,<-i];cases up<;>simp only[eP]at ih ⊢<;>omega
   ·cases up
    ·exact Int.le_of_lt (P8 (by rw[f,i]) (cY j) n (by simp[fst]at b ⊢;omega))
    ·exact Int.le_of_lt (P8 (by rw[f,i]) n (cY j) (by simp[fst]at b ⊢;omega))
  ·simp only[am g,af];rw[k.1.resolve_left g,a,vl,<-i];cases up<;>simp only[eP]at ih ⊢<;>omega
 | [],_::_,_,h,_,_=>by simp at h
 | _::_,[],_,h,_,_=>by simp at h
def QD(up:Bool):∀{m:aa} {l:List Int},okM m->m.length=l.length->digl l->
  match nx up m l with
  | some r=>r.length=m.length/\digl r/\iY m r=true/\eP up (vl l) (vl r)/\∀e,e.length=m.length->digl e->iY m e=true->eP up (vl l) (vl e)->eP up (vl r) (vl e)
  | none=>∀e,e.length=m.length->digl e->iY m e=true->¬eP up (vl l) (vl e)
 | [],[],_,_,_=>by
  simp only[nx];refine⟨rfl,by intro y hy;simp at hy,rfl,by cases up<;>simp[eP],?_⟩;intro e C _ _ _;simp only[iy]at C;rw[xw C];cases up<;>simp[eP]
 | c::m,y::l,L,u,hd=>by
  simp only[aP,wz]at u;have ih:=QD up (qT L) u (cY hd);have hy:=hd y (by simp);have A:=cY hd;have s:=Aa up m;have B:=IE up (qT L);have M:∀{z w:Int} {a b:List Int},a.length=m.length->b.length=m.length->digl a->digl b->z<w->vl (z::a)<vl (w::b):=λC J N P R=>P8 (by rw[C,J]) N P R;have f:∀(z:Int) {a b:List Int},a.length=m.length->b.length=m.length->(eP up (vl (z::a)) (vl (z::b))↔eP up (vl a) (vl b)):=λz a b C J=>by
   simp only[vl,C,J];cases up<;>simp only[eP]<;>omega
  have q:∀{z w:Int} {a b:List Int},a.length=m.length->b.length=m.length->digl a->digl b->z≠w->(eP up (vl (z::a)) (vl (w::b))↔eP up z w):=λ{z w a b} C J N P R=>by
   rcases Int.lt_trichotomy z w with h | h | h
   ·have:=M C J N P h;cases up<;>simp only[eP]<;>omega
   ·exact absurd h R
   ·have:=M J C P N h;cases up<;>simp only[eP]<;>omega
  have d:∀e:List Int,e.length=(c::m).length->∃w a,e=w::a/\a.length=m.length:=λe h=>by
   match e,h with
   | w::a,h=>exact⟨w,a,rfl,by simpa using h⟩
  by_cases g:c=88
  ·cases D:nx up m l with
   | some r=>
    rw[D]at ih;obtain⟨I,O,U,T,S⟩:=ih;simp only[nx,ae g,D];refine⟨by simp[I],λz t=>?_,by simp[iY,g,U],(f y u.symm I).2 T,λe v j o p=>?_⟩
    ·rcases cT.1 t with rfl | t
     ·exact hy
     ·exact O z t
    ·obtain⟨w,a,rfl,i⟩:=d e v;simp only[iY,g,rO,Gg,m8]at o;by_cases E:y=w
     ·subst E;exact(f y I i).2 (S a i (cY j) o ((f y u.symm i).1 p))
     ·exact(q I i O (cY j) E).2 ((q u.symm i A (cY j) E).1 p)
   | none=>
    rw[D]at ih;by_cases k:y=lst up
    ·simp only[nx,ae g,D,ae k];intro e v j o p;obtain⟨w,a,rfl,i⟩:=d e v;simp only[iY,g,rO,Gg,m8]at o;have X:=j w (by simp);by_cases E:y=w
     ·subst E;exact ih a i (cY j) o ((f y u.symm i).1 p)
     ·have:=(q u.symm i A (cY j) E).1 p;cases up<;>simp only[eP,lst,aj,af]at this k<;>omega
    ·simp only[nx,ae g,D,ab k];have hs:48<=stp up y/\stp up y<58/\y≠stp up y/\eP up y (stp up y)/\∀w,w≠y->eP up y w->eP up (stp up y) w:=by
      cases up<;>simp only[eP,lst,stp,aj,af]at k ⊢<;>exact⟨by omega,by omega,by omega,by omega,λw C J=>by omega⟩
     obtain⟨Z,s2,W,V,s5⟩:=hs;refine⟨by simp[s],λz t=>?_,by simp[iY,g,wu],(q u.symm s A B W).2 V,λe v j o p=>?_⟩
     ·rcases cT.1 t with rfl | t
      ·exact⟨Z,s2⟩
      ·exact B z t
     ·obtain⟨w,a,rfl,i⟩:=d e v;simp only[iY,g,rO,Gg,m8]at o;by_cases E:y=w
      ·subst E;exact absurd ((f y u.symm i).1 p) (ih a i (cY j) o)
      ·have Y:=s5 w (λh=>E h.symm) ((q u.symm i A (cY j) E).1 p);by_cases K:stp up y=w
       ·rw[K];exact(f w s i).2 (y7 up (qT L) i.symm (cY j) o)
       ·exact(q s i B (cY j) K).2 Y
  ·have Q:=Gh (L c (by simp)) g;have G:∀w a,iY (c::m) (w::a)=true->w=((c.toNat:Nat):Int)/\iY m a=true:=λw a h=>by
    simp only[iY,aB,ie,bv,ci]at h;exact⟨(h.1.resolve_left g).symm,h.2⟩
   by_cases n:((c.toNat:Nat):Int)=y
   ·cases D:nx up m l with
    | some r=>
     rw[D]at ih;obtain⟨I,O,U,T,S⟩:=ih;simp only[nx,ab g,ae n,D,eO];refine⟨by simp[I],λz t=>?_,by simp[iY,n,U],(f y u.symm I).2 T,λe v j o p=>?_⟩
     ·rcases cT.1 t with rfl | t
      ·exact hy
      ·exact O z t
     ·obtain⟨w,a,rfl,i⟩:=d e v;obtain⟨rfl,x⟩:=G w a o;rw[n]at p ⊢;exact(f y I i).2 (S a i (cY j) x ((f y u.symm i).1 p))
    | none=>
     rw[D]at ih;simp only[nx,ab g,ae n,D,ir];intro e v j o p;obtain⟨w,a,rfl,i⟩:=d e v;obtain⟨rfl,x⟩:=G w a o;rw[n]at p;exact ih a i (cY j) x ((f y u.symm i).1 p)
   ·have H:decide (((c.toNat:Nat):Int)>y)=up↔eP up y ((c.toNat:Nat):Int):=by
     cases up
     ·simp only[uk,eP];omega
     ·simp only[ci,eP];omega
    by_cases F:decide (((c.toNat:Nat):Int)>y)=up
    ·simp only[nx,ab g,ab n,ae F];refine⟨by simp[s],λz t=>?_,by simp[iY,wu],(q u.symm s A B (λh=>n h.symm)).2 (H.1 F),λe v j o p=>?_⟩
     ·rcases cT.1 t with rfl | t
      ·exact Q
      ·exact B z t
     ·obtain⟨w,a,rfl,i⟩:=d e v;obtain⟨rfl,x⟩:=G w a o;exact(f _ s i).2 (y7 up (qT L) i.symm (cY j) x)
    ·simp only[nx,ab g,ab n,ab F];intro e v j o p;obtain⟨w,a,rfl,i⟩:=d e v;obtain⟨rfl,x⟩:=G w a o;exact F (H.2 ((q u.symm i A (cY j) (λh=>n h.symm)).1 p))
 | [],_::_,_,h,_=>by simp at h
 | _::_,[],_,h,_=>by simp at h
def ap:aa->List Int->Nat
 | c::m,y::l=>if c=88\/((c.toNat:Nat):Int)=y then ap m l+1 else 0
 | _,_=>0
def Rl:∀(m:aa) (l:List Int),ap m l<=m.length
 | [],_=>by simp[ap]
 | c::m,[]=>by simp[ap]
 | c::m,y::l=>by
  have:=Rl m l;simp only[ap,aP];split<;>omega
def IF:∀(m:aa) (l:List Int),iY (m.take (ap m l)) (l.take (ap m l))=true
 | [],_=>by simp[ap,iY]
 | c::m,[]=>by simp[ap,iY]
 | c::m,y::l=>by
  have:=IF m l;simp only[ap];split
  ·rename_i h;simp only[oI,iY,this,BH,ie,bv,ci];exact h
  ·rfl
def LK:∀{m:aa} {l:List Int} {c:UInt8} {y:Int},m[ap m l]?=some c->l[ap m l]?=some y->¬c=88/\¬((c.toNat:Nat):Int)=y
 | [],_,c,y,h,_=>by simp at h
 | x::m,[],c,y,_,h=>by simp at h
 | x::m,z::l,c,y,b,a=>by
  by_cases h:x=88\/((x.toNat:Nat):Int)=z
  ·simp only[ap,ae h,EU]at b a;exact LK b a
  ·simp only[ap,ab h,lO,ar]at b a;subst b a;exact⟨λe=>h (.inl e),λe=>h (.inr e)⟩
def bkn(up:Bool):aa->List Int->aa->Option (List Int)
 | c::m,y::d,m'=>
  match bkn up m d m' with
  | some r=>some (y::r)
  | none=>if c=88/\y≠lst up then some (stp up y::fil up (m++m'))else none
 | _,_,_=>none
def AX(up:Bool):∀{m m':aa} {d d':List Int},m.length=d.length->iY m d=true->
  nx up (m++m') (d++d')=match nx up m' d' with | some r=>some (d++r) | none=>bkn up m d m'
 | [],m',[],d',_,_=>by
  simp only[dW];cases nx up m' d'<;>rfl
 | c::m,m',y::d,d',e,b=>by
  simp only[aP,wz]at e;simp only[iY,aB,ie,bv,ci]at b;have ih:=AX up (m':=m') (d':=d') e b.2;simp only[dq,nx,ih,bkn];by_cases a:c=88
  ·simp only[ae a];cases nx up m' d' with
   | some r=>rfl
   | none=>
    cases bkn up m d m' with
    | some r=>rfl
    | none=>
     by_cases hy:y=lst up
     ·simp[hy]
     ·simp[hy,a]
  ·simp only[ab a,ae (b.1.resolve_left a)];cases nx up m' d' with
   | some r=>rfl
   | none=>
    cases bkn up m d m' with
    | some r=>rfl
    | none=>simp[a]
 | [],_,_::_,_,h,_=>by simp at h
 | _::_,_,[],_,h,_=>by simp at h
def EL(up:Bool)(c:UInt8)(y:Int):∀{m m':aa} {d:List Int},m.length=d.length->
  bkn up (m++[c]) (d++[y]) m'=if c=88/\y≠lst up then some (d++stp up y::fil up m')else bkn up m d (c::m')
 | [],m',[],_=>by simp[bkn]
 | x::m,m',z::d,a=>by
  simp only[aP,wz]at a;have ih:=EL up c y (m':=m') a;simp only[dq,bkn,ih];by_cases h:c=88/\y≠lst up
  ·simp only[ae h]
  ·simp only[ab h,lK,dq,dW]
 | [],_,_::_,h=>by simp at h
 | _::_,_,[],h=>by simp at h
def bki(up:Bool)(m:aa)(l:List Int):Nat->Option Nat
 | 0=>none
 | j+1=>if m[j]?=some 88/\l[j]?≠some (lst up)then some j else bki up m l j
def O1(up:Bool)(m:aa)(l:List Int):∀{j a:Nat},bki up m l j=some a->a<j
 | 0,a,h=>by simp[bki]at h
 | j+1,a,h=>by
  simp only[bki]at h;split at h
  ·simp only[ar]at h;omega
  ·have:=O1 up m l h;omega
def FM(up:Bool)(m:aa)(l:List Int)(hl:m.length=l.length):∀j,j<=m.length->
  bkn up (m.take j) (l.take j) (m.drop j)=(bki up m l j).map λa=>l.take a++stp up (l.getD a 0)::fil up (m.drop (a+1))
 | 0,_=>by simp[bkn,bki]
 | j+1,h=>by
  obtain⟨c,hc⟩:∃c,m[j]?=some c:=⟨m[j]'(by omega),bg (by omega)⟩;obtain⟨y,hy⟩:∃c,l[j]?=some c:=⟨l[j]'(by omega),bg (by omega)⟩;have ih:=FM up m l hl j (by omega);rw[bK hc]at ih;rw[rS,rS,hc,hy];simp only[Option.toList_some];rw[EL up c y (by simp;omega),ih];have hg:l.getD j 0=y:=by rw[yI,hy];rfl
  simp only[bki,hc,hy,ne_eq,ar];by_cases hh:c=88/\¬y=lst up
  ·rw[ae hh,ae hh,eO,hg]
  ·rw[ab hh,ab hh]
section
variable {m:List UInt8} {l z:List Int}
def lI(hl:m.length=l.length)(h18:m.length<=18)(k f g:Int)(up:Bool):
  au (fj 20000000) 20000000 (m,k,up,f,g,0,over z 0 l,over z 0 l)=some (m,k,up,f,g,((ap m l:Nat):Int),over z 0 l,over z 0 l):=by
 have:=fm (step:=fj 20000000) (λx=>x.1=m/\(0<=x.2.2.2.2.2.1/\x.2.2.2.2.2.1<=m.length)/\x.2.2.2.2.2.2.1=over z 0 l) (λx=>m.length - x.2.2.2.2.2.1.toNat)
  (λx=>(x.1,x.2.1,x.2.2.1,x.2.2.2.1,x.2.2.2.2.1,x.2.2.2.2.2.1+((ap (m.drop x.2.2.2.2.2.1.toNat) (l.drop x.2.2.2.2.2.1.toNat):Nat):Int),x.2.2.2.2.2.2.1,x.2.2.2.2.2.2.2)) ?_ 20000000 (m,k,up,f,g,0,over z 0 l,over z 0 l) ⟨rfl,⟨by simp,by simp⟩,rfl⟩ (by simp;omega)
 ·simpa using this
 rintro⟨m',k,up,f,g,i,d,o⟩ ⟨q1,⟨h0,hi⟩,q2⟩;simp only at q1 h0 hi q2 ⊢;subst q1 q2;obtain⟨j,rfl⟩:∃j:Nat,i=j:=⟨i.toNat,by omega⟩;simp only[bT];rcases aF j m'.length with hlt | hge
 ·obtain⟨c,hc⟩:∃c,m'[j]?=some c:=⟨m'[j],bg hlt⟩;obtain⟨y,hy⟩:∃c,l[j]?=some c:=⟨l[j]'(by omega),bg (by omega)⟩;have hg:(over z 0 l)[j]?=some y:=by rw[uQ (by omega)];exact hy
  have hb:(decide ((j:Int)<((List.length m':Nat):Int)))=true:=by simp;omega
  have hw:wrap .i64 ((j:Int)+1)=((j+1:Nat):Int):=by rw[wrap_i64 _ (by omega) (by omega)];omega
  rw[bK hc,bK hy];simp only[fj,hb,aj,dw hc,ob,zb,hw,eZ (show j<18 by omega),hg,ap];by_cases h88:c=88
  ·refine .inl ⟨(m',k,up,f,g,((j+1:Nat):Int),over z 0 l,o),by simp only[aq h88,aj],⟨rfl,⟨by simp only;omega,by simp only;omega⟩,rfl⟩,by simp only[bT];omega,?_⟩;simp only[bT,ae (show c=88\/((c.toNat:Nat):Int)=y from .inl h88)];congr 6;omega
  ·simp only[am h88,af];by_cases hcy:((c.toNat:Nat):Int)=y
   ·have e:(((c.toNat:Nat):Int)==y)=true:=by simpa using hcy
    refine .inl ⟨(m',k,up,f,g,((j+1:Nat):Int),over z 0 l,o),by simp only[e,aj],⟨rfl,⟨by simp only;omega,by simp only;omega⟩,rfl⟩,by simp only[bT];omega,?_⟩;simp only[bT,ae (show c=88\/((c.toNat:Nat):Int)=y from .inr hcy)];congr 6;omega
   ·have e:(((c.toNat:Nat):Int)==y)=false:=by simpa using hcy
    refine .inr ?_;simp only[e,af,ab (show¬(c=88\/((c.toNat:Nat):Int)=y)fromλh=>h.elim h88 hcy),Int.ofNat_zero,Int.add_zero,Int.natCast_zero]
 ·have hb:(decide ((j:Int)<((List.length m':Nat):Int)))=false:=by simp;omega
  refine .inr ?_;simp only[fj,hb,af];rw[iD hge];simp[ap]
def Ko(hl:m.length=l.length)(h18:m.length<=18)(f:Int)(up:Bool)(o:List Int)(i:Nat)(hi:i<=m.length):
  au (cc 20000000) 20000000 (m,up,f,lst up,(i:Int),over z 0 l,o) =
   some (match bki up m l i with | none=>.inl (0,16) | some a=>.inr (m,up,f,((a:Nat):Int),o)):=by
 have:=fm (step:=cc 20000000) (λx=>x.1=m/\x.2.2.2.1=lst up/\(0<=x.2.2.2.2.1/\x.2.2.2.2.1<=m.length)/\x.2.2.2.2.2.1=over z 0 l) (λx=>x.2.2.2.2.1.toNat)
  (λx=>match bki up m l x.2.2.2.2.1.toNat with | none=>.inl (0,16) | some a=>.inr (x.1,x.2.1,x.2.2.1,((a:Nat):Int),x.2.2.2.2.2.2)) ?_ 20000000 (m,up,f,lst up,(i:Int),over z 0 l,o) ⟨rfl,rfl,⟨by simp only;omega,by simp only;omega⟩,rfl⟩ (by simp;omega)
 ·simpa using this
 rintro⟨m',up',f,g,i,d,o⟩ ⟨q1,q3,⟨h0,hi⟩,q2⟩;simp only at q1 q3 h0 hi q2 ⊢;subst q1 q2 q3;obtain⟨j,rfl⟩:∃j:Nat,i=j:=⟨i.toNat,by omega⟩;simp only[bT];rcases j with _ | j
 ·refine .inr ?_;have w:wrap .i64 (((0:Nat):Int) - 1)=-1:=wrap_i64 _ (by omega) (by omega);simp only[cc,w,show decide ((-1:Int)<0)=true from rfl,aj,bki]
 ·have w:wrap .i64 (((j+1:Nat):Int) - 1)=(j:Int):=by rw[wrap_i64 _ (by omega) (by omega)];omega
  have e0:decide ((j:Int)<0)=false:=by simp
  obtain⟨c,hc⟩:∃c,m'[j]?=some c:=⟨m'[j]'(by omega),bg (by omega)⟩;obtain⟨y,hy⟩:∃c,l[j]?=some c:=⟨l[j]'(by omega),bg (by omega)⟩;have hg:(over z 0 l)[j]?=some y:=by rw[uQ (by omega)];exact hy
  simp only[cc,w,e0,af,dw hc,ob,zb,eZ (show j<18 by omega),hg,bki,hc,hy,ar,ne_eq];by_cases h88:c=88
  ·by_cases hy9:y=lst up
   ·have e:(y != lst up)=false:=by simpa using hy9
    refine .inl ⟨(m',up',f,lst up,(j:Int),over z 0 l,o),by simp only[aq h88,aj,e,af],⟨rfl,rfl,⟨by simp only;omega,by simp only;omega⟩,rfl⟩,by simp only[bT];omega,?_⟩;simp only[bT,ab (show¬(c=88/\¬y=lst up)fromλh=>h.2 hy9)]
   ·have e:(y != lst up)=true:=by simpa using hy9
    refine .inr ?_;simp only[aq h88,aj,e,ae (show c=88/\¬y=lst up from⟨h88,hy9⟩)]
  ·refine .inl ⟨(m',up',f,lst up,(j:Int),over z 0 l,o),by simp only[am h88,af],⟨rfl,rfl,⟨by simp only;omega,by simp only;omega⟩,rfl⟩,by simp only[bT];omega,?_⟩;simp only[bT,ab (show¬(c=88/\¬y=lst up)fromλh=>h88 h.1)]
def BB(r:m.length<=18)(up:Bool)(d:List Int)(hd:d.length=18)(i:Nat)(hi:i<=m.length):
  au (br 20000000) 20000000 (m,fst up,(i:Int),d)=some (m,over d i (fil up (m.drop i))):=by
 have:=fm (step:=br 20000000) (λx=>x.1=m/\x.2.1=fst up/\(0<=x.2.2.1/\x.2.2.1<=m.length)/\x.2.2.2.length=18) (λx=>m.length - x.2.2.1.toNat)
  (λx=>(m,over x.2.2.2 x.2.2.1.toNat (fil up (m.drop x.2.2.1.toNat)))) ?_ 20000000 (m,fst up,(i:Int),d) ⟨rfl,rfl,⟨by simp only;omega,by simp only;omega⟩,hd⟩ (by simp;omega)
 ·simpa using this
 rintro⟨m',f,i,d⟩ ⟨l,n,⟨p,hi⟩,hd⟩;simp only at l n p hi hd ⊢;subst l n;obtain⟨j,rfl⟩:∃j:Nat,i=j:=⟨i.toNat,by omega⟩;simp only[bT];rcases aF j m'.length with g | e
 ·obtain⟨c,hc⟩:∃c,m'[j]?=some c:=⟨m'[j],bg g⟩;have k:j<18:=by omega
  have h:(decide ((j:Int)<((List.length m':Nat):Int)))=true:=by simp;omega
  have q:wrap .i64 ((j:Int)+1)=((j+1:Nat):Int):=by rw[wrap_i64 _ (by omega) (by omega)];omega
  have o:Nat.blt j 18=true:=dF k;have b:∀c:UInt8,fil up (c::m'.drop (j+1))=(cond (decide (c=88)) (fst up) ((c.toNat:Nat):Int))::fil up (m'.drop (j+1)):=λ_=>rfl;rw[bK hc,b];simp only[br,h,aj,dw hc,ob,zb,eZ k,o,q];by_cases a:c=88
  ·refine .inl ⟨(m',fst up,((j+1:Nat):Int),(d.set j ((c.toNat:Nat):Int)).set j (fst up)),by simp only[aq a,aj],⟨rfl,rfl,⟨by simp only;omega,by simp only;omega⟩,by simpa using hd⟩,by simp only[bT];omega,?_⟩;simp only[bT,aq a,aj];rw[List.set_set,zE _ _ _ _ (by omega)]
  ·refine .inl ⟨(m',fst up,((j+1:Nat):Int),d.set j ((c.toNat:Nat):Int)),by simp only[am a,af],⟨rfl,rfl,⟨by simp only;omega,by simp only;omega⟩,by simpa using hd⟩,by simp only[bT];omega,?_⟩;simp only[bT,am a,af];rw[zE _ _ _ _ (by omega)]
 ·have h:(decide ((j:Int)<((List.length m':Nat):Int)))=false:=by simp;omega
  refine .inr ?_;simp only[br,h,af];rw[iD e];simp[fil,Fz]
def BG(z l F:List Int)(i:Nat)(h:i+F.length=l.length):over (over z 0 l) i F=over z 0 (l.take i++F):=by
 unfold over;simp only[nA,dW,dc,bW,de,rQ (show i<=l.length by omega),h];rw[tw (by omega),uC (by omega),List.drop_of_length_le (aQ l.length)];simp
end
def K6{m:aa}(hm:chk m=0)(up:Bool)(k:Int)(h0:0<=k)(h1:k<10 ^ m.length):
  cZ 20000000 m k up=some (match nx up m (dg m.length k)with | some r=>(vl r,0) | none=>(0,16)):=by
 obtain⟨h18,_,hok⟩:=mR hm;have hp:=CY m.length h18;have hlen:=wT m.length k;have hrng:=sd m.length k;have hv:=Oi m.length k h0 h1;have hn:=QD up hok hlen.symm hrng;have hsplit:=NP m k h18 h0 (by omega);generalize dg m.length k=l at hlen hrng hv hn hsplit ⊢;have hout:(over [0,0,0,0,0,0,0,0,0,0,0,0,0,0,0,0,0,0] 0 l).length=18:=by rw[NU _ _ _ (by simp;omega)];rfl
 have fin:∀r:List Int,nx up m l=some r->gh 20000000 m (over [0,0,0,0,0,0,0,0,0,0,0,0,0,0,0,0,0,0] 0 r)=some (vl r):=by
  intro r hr;rw[hr]at hn;obtain⟨i1,i2,_⟩:=hn;rw[N6 _ h18 i1 i2,Aj i2]
 have hap:=Rl m l;have hagr:=IF m l;have happ:=AX up (m:=m.take (ap m l)) (m':=m.drop (ap m l)) (d:=l.take (ap m l)) (d':=l.drop (ap m l)) (by simp;omega) hagr;rw[tu,tu]at happ;have hz0:kT 20000000 m k=some (over [0,0,0,0,0,0,0,0,0,0,0,0,0,0,0,0,0,0] 0 l):=hsplit;generalize hzz:([0,0,0,0,0,0,0,0,0,0,0,0,0,0,0,0,0,0]:List Int)=z at hout fin hz0;rcases aF (ap m l) m.length with hlt | hge
 ·obtain⟨c,hc⟩:∃c,m[ap m l]?=some c:=⟨m[ap m l],bg hlt⟩;obtain⟨y,hy⟩:∃c,l[ap m l]?=some c:=⟨l[ap m l]'(by omega),bg (by omega)⟩;obtain⟨h88,hcy⟩:=LK hc hy;have hg:(over z 0 l)[ap m l]?=some y:=by rw[uQ (by omega)];exact hy
  have eL:(((ap m l:Nat):Int)==((List.length m:Nat):Int))=false:=by simp;omega
  have hj:ap m l<18:=by omega
  have hfc:fil up (m.drop (ap m l))=((c.toNat:Nat):Int)::fil up (m.drop (ap m l+1)):=by
   rw[bK hc];simp[fil,h88]
  have hbk:=FM up m l hlen.symm (ap m l) hap;have hnx:nx up (m.drop (ap m l)) (l.drop (ap m l))=if decide (((c.toNat:Nat):Int)>y)=up then some (fil up (m.drop (ap m l)))else none:=by
   rw[hfc,bK hc,bK hy];simp only[nx,ab h88,ab hcy]
  rw[hnx]at happ;by_cases hup:decide (((c.toNat:Nat):Int)>y)=up
  ·rw[ae hup]at happ;simp only at happ;have f2:=fin _ happ;rw[happ];simp only[];rw[<-BG z l _ _ (by rw[Aa,bj];omega)]at f2;have l2:=BB h18 up _ hout (ap m l) hap;cases up
   ·have l0:=lI (z:=z) hlen.symm h18 k 57 48 false;have l2':au (br 20000000) 20000000 (m,57,((ap m l:Nat):Int),over z 0 l)=_:=l2;simp only[cZ,gJ,aj,hz0,ob,l0,eL,af,dw hc,eZ hj,hg,hup,rO,bV,l2',f2]
   ·have l0:=lI (z:=z) hlen.symm h18 k 48 57 true;have l2':au (br 20000000) 20000000 (m,48,((ap m l:Nat):Int),over z 0 l)=_:=l2;simp only[cZ,bV,aj,hz0,ob,l0,eL,af,dw hc,eZ hj,hg,hup,rO,l2',f2]
  ·rw[ab hup]at happ;simp only[hbk]at happ;have hne:(!(decide (((c.toNat:Nat):Int)>y)==up))=true:=by
    cases up<;>cases hh:decide (((c.toNat:Nat):Int)>y)<;>simp_all
   have l1:=Ko (z:=z) hlen.symm h18 (fst up) up (over z 0 l) (ap m l) hap;cases hb:bki up m l (ap m l)with
   | none=>
    rw[hb]at happ l1;simp only[ir]at happ;rw[happ];simp only[]at l1 ⊢;cases up
    ·have l0:=lI (z:=z) hlen.symm h18 k 57 48 false;have l1':au (cc 20000000) 20000000 (m,false,57,48,((ap m l:Nat):Int),over z 0 l,over z 0 l)=_:=l1;simp only[cZ,gJ,aj,hz0,ob,l0,eL,af,dw hc,eZ hj,hg,hne,l1']
    ·have l0:=lI (z:=z) hlen.symm h18 k 48 57 true;have l1':au (cc 20000000) 20000000 (m,true,48,57,((ap m l:Nat):Int),over z 0 l,over z 0 l)=_:=l1;simp only[cZ,bV,aj,hz0,ob,l0,eL,af,dw hc,eZ hj,hg,hne,l1']
   | some a=>
    have ha:=O1 up m l hb;obtain⟨w,hw⟩:∃c,l[a]?=some c:=⟨l[a]'(by omega),bg (by omega)⟩;have hga:(over z 0 l)[a]?=some w:=by rw[uQ (by omega)];exact hw
    have hgd:l.getD a 0=w:=by rw[yI,hw];rfl
    have hwr:=hrng w (fE hw);have haj:a<18:=by omega
    have e2:Nat.blt a 18=true:=dF haj;have w1:wrap .i64 ((a:Int)+1)=((a+1:Nat):Int):=by rw[wrap_i64 _ (by omega) (by omega)];omega
    rw[hb]at happ l1;simp only[eO,hgd]at happ;have f2:=fin _ happ;rw[happ];simp only[]at l1 ⊢;rw[<-BG z l _ _ (by rw[aP,Aa,bj];omega),<-zE _ _ _ _ (by omega)]at f2;have l2:=BB h18 up ((over z 0 l).set a (stp up w)) (by simpa using hout) (a+1) (by omega);cases up
    ·have l0:=lI (z:=z) hlen.symm h18 k 57 48 false;have l1':au (cc 20000000) 20000000 (m,false,57,48,((ap m l:Nat):Int),over z 0 l,over z 0 l)=some (.inr (m,false,57,((a:Nat):Int),over z 0 l)):=l1;have l2':au (br 20000000) 20000000 (m,57,((a+1:Nat):Int),(over z 0 l).set a (w - 1))=_:=l2;have w2:wrap .u8 (w - 1)=w - 1:=jI _ (by omega) (by omega);simp only[cZ,gJ,aj,hz0,ob,l0,eL,af,dw hc,eZ hj,hg,hne,l1',eZ haj,hga,e2,w1,w2,l2',f2]
    ·have l0:=lI (z:=z) hlen.symm h18 k 48 57 true;have l1':au (cc 20000000) 20000000 (m,true,48,57,((ap m l:Nat):Int),over z 0 l,over z 0 l)=some (.inr (m,true,48,((a:Nat):Int),over z 0 l)):=l1;have l2':au (br 20000000) 20000000 (m,48,((a+1:Nat):Int),(over z 0 l).set a (w+1))=_:=l2;have w2:wrap .u8 (w+1)=w+1:=jI _ (by omega) (by omega);simp only[cZ,bV,aj,hz0,ob,l0,eL,af,dw hc,eZ hj,hg,hne,l1',eZ haj,hga,e2,w1,w2,l2',f2]
 ·have e:ap m l=m.length:=by omega
  rw[e,vn,<-hlen,vn,ox]at happ;simp only[nx,nW]at happ;have eL:(((ap m l:Nat):Int)==((List.length m:Nat):Int))=true:=by rw[e];simp
  rw[happ];simp only[hv];cases up
  ·have l0:=lI (z:=z) hlen.symm h18 k 57 48 false;simp only[cZ,gJ,aj,hz0,ob,l0,eL]
  ·have l0:=lI (z:=z) hlen.symm h18 k 48 57 true;simp only[cZ,bV,af,hz0,ob,l0,eL,aj]
def near(up:Bool)(m:aa)(k:Int):Option Int->Prop
 | some R=>hasM m R=true/\eP up k R/\∀e,hasM m e=true->eP up k e->eP up R e
 | none=>∀e,hasM m e=true->¬eP up k e
def res(o:Option Int):Int×Int:=match o with | some r=>(r,0) | none=>(0,16)
def nr{m:aa}{e:Int}(h:hasM m e=true):(dg m.length e).length=m.length/\digl (dg m.length e)/\iY m (dg m.length e)=true/\vl (dg m.length e)=e/\0<=e/\e<10 ^ m.length:=by
 unfold hasM at h;simp only[aB,ci]at h;exact⟨wT _ _,sd _ _,h.2.2,Oi _ _ h.1 h.2.1,h.1,h.2.1⟩
def Re{m:aa}{r:List Int}(c:r.length=m.length)(b:digl r)(d:iY m r=true):hasM m (vl r)=true:=by
 have a:=uN b;have hd:=Vq b;rw[c]at a hd;unfold hasM;rw[hd,d,aq a.1,aq a.2];rfl
def xo{m:aa}(n:chk m=0)(up:Bool)(k:Int)(l:0<=k)(p:k<10 ^ m.length):∃o,cZ 20000000 m k up=some (res o)/\near up m k o:=by
 obtain⟨w,_,g⟩:=mR n;have b:=QD up g (wT m.length k).symm (sd m.length k);have j:=Oi m.length k l p;refine⟨(nx up m (dg m.length k)).map vl,?_,?_⟩
 ·rw[K6 n up k l p];cases nx up m (dg m.length k)<;>rfl
 ·cases hx:nx up m (dg m.length k)with
  | none=>
   rw[hx]at b;intro e f i;obtain⟨h,d,c,a,_⟩:=nr f;exact b _ h d c (by rw[j,a];exact i)
  | some r=>
   rw[hx]at b;obtain⟨v,u,s,q,t⟩:=b;refine⟨Re v u s,by rw[j]at q;exact q,λe f i=>?_⟩;obtain⟨h,d,c,a,_⟩:=nr f;have:=t _ h d c (by rw[j,a];exact i);rwa[a]at this
def GR{m:aa}{e:Int}(h:hasM m e=true):0<=idx m.reverse e/\idx m.reverse e<10 ^ cnt m/\nth m.reverse (idx m.reverse e)=e:=by
 rw[EG]at h;simp only[aB,ci]at h;obtain⟨k0,k1,k2⟩:=h;have:=wg m.reverse e k0;rw[rN]at this;exact⟨this.1,this.2,Jd k0 (by rw[tj];exact k1) k2⟩
section
variable {m:List UInt8} (hm:chk m=0)
include hm
def Js{i j:Int}(c:0<=i)(d:i<=j)(b:j<10 ^ cnt m):nth m.reverse i<=nth m.reverse j:=by
 obtain⟨e,_,a⟩:=mR hm;rcases Int.lt_or_eq_of_le d with h | rfl
 ·exact Int.le_of_lt (AB (yA a) i j c h (by rw[rN];exact b))
 ·exact yh _
def Ci(k:Int):lH 20000000 m k=some (decide (0<=k/\k<10 ^ m.length)):=by
 obtain⟨b,_,c⟩:=mR hm;simp only[lH,MH m.length b,ob];by_cases a:0<=k
 ·have d0:decide (k>=0)=true:=by simpa using a
  simp only[d0,aj,a,jg,nJ]
 ·have d0:decide (k>=0)=false:=by simpa using a
  simp only[d0,af,a,xc,mY]
def Il(k:Int):∃o,qM 20000000 m k=some (res o)/\near true m k o:=by
 obtain⟨p,_,c⟩:=mR hm;have l:((0:Int) != 0)=false:=by simp
 simp only[qM,k9 20000000 m (by omega),hm,lY,l,af,Ci hm];by_cases a:k<0
 ·refine⟨some (nth m.reverse 0),by simp only[aq a,aj,NL hm,lY,res],Gq hm (by omega),?_,λe b f=>?_⟩
  ·have:=(qs (yA c) 0 (by omega)).1;simp only[eP];omega
  ·obtain⟨j,q,r⟩:=GR b;have:=Js hm (yh 0) j q;simp only[eP];omega
 ·by_cases d:k<10 ^ m.length
  ·obtain⟨o,g,n⟩:=xo hm true k (by omega) d;exact⟨o,by simp only[am a,af,aq (show 0<=k/\k<10 ^ m.length from⟨by omega,d⟩),bV,g,lY],n⟩
  ·refine⟨none,by simp only[am a,af,am (show¬(0<=k/\k<10 ^ m.length)fromλh=>d h.2),gJ,aj,res],λe b f=>?_⟩;obtain⟨_,_,_,_,_,i⟩:=nr b;simp only[eP]at f;omega
def J5(k:Int):∃o,qS 20000000 m k=some (res o)/\near false m k o:=by
 obtain⟨q,_,c⟩:=mR hm;have l:((0:Int) != 0)=false:=by simp
 simp only[qS,k9 20000000 m (by omega),hm,lY,l,af,Ci hm];by_cases a:k<0
 ·refine⟨none,by simp only[aq a,aj,res],λe b f=>?_⟩;obtain⟨_,_,_,_,i,_⟩:=nr b;simp only[eP]at f;omega
 ·by_cases d:k<10 ^ m.length
  ·obtain⟨o,g,p⟩:=xo hm false k (by omega) d;exact⟨o,by simp only[am a,af,aq (show 0<=k/\k<10 ^ m.length from⟨by omega,d⟩),bV,g,lY],p⟩
  ·have j:=s9 (cnt m);refine⟨some (nth m.reverse (10 ^ cnt m - 1)),by simp only[am a,af,am (show¬(0<=k/\k<10 ^ m.length)fromλh=>d h.2),gJ,aj,EI hm,lY,res],Gq hm (by omega),?_,λe b f=>?_⟩
   ·have:=(qs (yA c) (10 ^ cnt m - 1) (by omega)).2;rw[tj]at this;simp only[eP];omega
   ·obtain⟨n,s,r⟩:=GR b;have:=Js hm n (show idx m.reverse e<=10 ^ cnt m - 1 by omega) (by omega);simp only[eP];omega
end
end Go.Sh.Mk
namespace Go.Sh
open Go.Abs
def fitN(s:aa)(g:Nat):List Nat:=(List.range' 1 g).filter (agr s)
def sc(l:List Nat):List Int:=l.map λk:Nat=>(k:Int)
def AQ(l:List Nat):(sc l).length=l.length:=by simp[sc]
def Cj(c:UInt8){j:Nat}(a:j<10):(wrap .i64 (wrap .u8 (((c.toNat:Nat):Int) - 48))==((j:Nat):Int))=(c==UInt8.ofNat (48+j)):=by
 have hc:=c.toNat_lt;have b:=Au (((c.toNat:Nat):Int) - 48);rw[wrap_i64 _ (by omega) (by omega),He,re,bv,bv];have d:(UInt8.ofNat (48+j)).toNat=48+j:=by simp;omega
 constructor
 ·intro h;apply ga.1;omega
 ·rintro rfl;omega
def Iu(n:Nat)(a b:UInt8){k:Nat}(l:k<=31):kl n [a,b] (k:Int)=some (agr [a,b] k):=by
 have h:wrap .i64 (Int.tdiv (k:Int) 10)=((k / 10:Nat):Int):=by
  rw[show Int.tdiv (k:Int) 10=((k / 10:Nat):Int)from rfl,wrap_i64 _ (by omega) (by omega)]
 have e:Int.tmod (k:Int) 10=((k%10:Nat):Int):=rfl;have s0:sx [a,b] 0=some a:=rfl;have d:sx [a,b] 1=some b:=rfl;have c:(88:Int)=((88:Nat):Int):=rfl;unfold kl;simp only[s0,d,ob,h,e];rw[Cj a (show k / 10<10 by omega),Cj b (show k%10<10 by omega),c,uq (by omega),uq (by omega)];show _=some ((a==UInt8.ofNat 88||a==UInt8.ofNat (48+k / 10))&&(b==UInt8.ofNat 88||b==UInt8.ofNat (48+k%10)));generalize(a==UInt8.ofNat 88)=j;generalize(b==UInt8.ofNat 88)=f;generalize(a==UInt8.ofNat (48+k / 10))=i;generalize(b==UInt8.ofNat (48+k%10))=g;cases j<;>cases f<;>cases i<;>cases g<;>rfl
def room{k:Nat}(h:k<=60000000):Nat.ble (k+1) gy=true:=dF (by unfold gy;omega)
def FK{X Y:Type}{step:X->Option (X⊕Y)}{f:Nat->List Int->X}{y:List Int->Y}{p:Nat->Bool}{g:Nat}(e:g<=1000)
  (h:∀i out,i<g->out.length<=1000->step (f i out)=some (.inl (f (i+1) (if p (i+1)then out++[((i+1:Nat):Int)]else out))))
  (c:∀out,step (f g out)=some (.inr (y out))) {N:Nat} (a:g<N):au step N (f 0 [])=some (y (sc ((List.range' 1 g).filter p))):=by
 have b:∀(r i:Nat) (out:List Int),i+r=g->out.length<=i->∀N,r<N->au step N (f i out)=some (y (out++sc ((List.range' (i+1) r).filter p))):=by
  intro r
  induction r with
  | zero=>
   intro i out hi d N a;obtain⟨N,rfl⟩:∃q,N=q+1:=⟨N - 1,by omega⟩;obtain rfl:i=g:=by omega
   rw[au,c];simp[sc]
  | succ r ih=>
   intro i out hi d N a;obtain⟨N,rfl⟩:∃q,N=q+1:=⟨N - 1,by omega⟩;rw[au,h i out (by omega) (by omega)];show au step N _=_;by_cases hp:p (i+1)=true
   ·rw[ae hp,ih (i+1) _ (by omega) (by simp;omega) N (by omega),wl,OU hp];simp[sc]
   ·rw[ab hp,ih (i+1) _ (by omega) (by omega) N (by omega),wl,O9 hp]
 have:=b g 0 [] (by omega) (by simp) N a;simpa using this
def K0 (n:Nat) (j:100<n) (a b:UInt8) {g:Nat} (h:g<=31):eV n [a,b] (g:Int)=some (sc (fitN [a,b] g)):=by
 unfold eV
 have:=FK (step:=fF n) (f:=λi out=>([a,b],(g:Int),(i:Int),out)) (y:=λl=>l) (p:=agr [a,b]) (g:=g) (by omega)
  (λi out hi e=>by
   have d:wrap .i64 ((i:Int)+1)=((i+1:Nat):Int):=by rw [wrap_i64 _ (by omega) (by omega)];omega
   unfold fF;simp only [d];rw [aq (show (i:Int)<(g:Int) by omega),Iu n a b (by omega),room (by omega)];by_cases hp:agr [a,b] (i+1)=true
   ·rw [ae hp];simp only [ob,hp,aj]
   ·rw [ab hp];rw [GE] at hp;simp only [ob,hp,aj,af])
  (λout=>by
   unfold fF;simp only [am (show ¬(g:Int)<(g:Int) by omega),af])
  (N:=n) (by omega)
 have c:au (fF n) n ([a,b],(g:Int),0,([]:List Int))=_:=this;rw [c];rfl
def monI(m:aa):List Int:=if m=[]then[0]else if 0<sea m then[sea m]else sc (fitN m 12)
def dayI(d:aa):List Int:=if d=[]then[0]else sc (fitN d 31)
def fH{l:aa}(h:l≠[]):(l==([]:aa))=false:=aK.2 h
def len2{s:aa}(h:s.length=2):∃a b,s=[a,b]:=by
 match s,h with
 | [a,b],_=>exact⟨a,b,rfl⟩
def VP(n:Nat)(k:100<n)(g l:Bool)(dg:aa)(x q:Int)(m d:aa)(k0 k1 k2:Int)(j:m=[]\/m.length=2)(hd:d=[]\/d.length=2):
  oZ n g l dg x q m d k0 k1 k2=some (g,l,dg,x,q,m,d,k0,k1,k2,monI m,dayI d):=by
 have i:m.length<=18:=by rcases j with h | h;(rw[h];simp);omega
 have f:d≠[]->eV n d 31=some (dayI d):=λh=>by
  obtain⟨a,b,rfl⟩:=len2 (hd.resolve_left h);rw[show(31:Int)=((31:Nat):Int)from rfl,K0 n k a b (by omega)];unfold dayI;rw[ab h]
 have c:d=[]->dayI d=[0]:=λh=>by unfold dayI;rw[ae h]
 have o:m≠[]->¬0<sea m->eV n m 12=some (monI m):=λh hs=>by
  obtain⟨a,b,rfl⟩:=len2 (j.resolve_left h);rw[show(12:Int)=((12:Nat):Int)from rfl,K0 n k a b (by omega)];unfold monI;rw[ab h,ab hs]
 unfold oZ;rw[qk n g l dg x q m d k0 k1 k2 i];simp only[ob];by_cases hs:0<sea m
 ·have e:m≠[]:=by rintro rfl;exact absurd hs (by decide)
  have hm':monI m=[sea m]:=by unfold monI;rw[ab e,ae hs]
  rw[aq hs];by_cases h:d=[]
  ·rw[h,<-h,c h,hm',h];rfl
  ·rw[fH h,f h,hm'];rfl
 ·rw[am hs];by_cases e:m=[]
  ·have hm':monI m=[0]:=by unfold monI;rw[ae e]
   by_cases h:d=[]
   ·rw[c h,hm',h,e];rfl
   ·rw[fH h,f h,hm',e];rfl
  ·rw[fH e,o e hs];by_cases h:d=[]
   ·rw[c h,h];rfl
   ·rw[fH h,f h];rfl
def HE (n:Nat) (e:100<n) (g l:Bool) (dg:aa) (x q:Int) (m d:aa) (k0 k1 k2:Int):i7 n g l dg x q m d k0 k1 k2=some (monI m):=by
 unfold i7;by_cases a:m=[]
 ·unfold monI;rw [ae a,a];rfl
 ·rw [fH a,nZ n e];simp only [ob,af];unfold monI;rw [ab a];by_cases hs:0<sea m
  ·rw [ae hs,aq (show sea m>0 from hs)];rfl
  ·rw [ab hs,am (show ¬sea m>0 from hs)]
   have:=FK (step:=dE n) (f:=λi out=>(((i+1:Nat):Int),g,l,dg,x,q,m,d,k0,k1,k2,out)) (y:=λl=>l) (p:=agr m) (g:=12) (by omega)
    (λi out hi h=>by
     have b:wrap .i64 (((i+1:Nat):Int)+1)=((i+1+1:Nat):Int):=by rw [wrap_i64 _ (by omega) (by omega)];omega
     unfold dE;simp only [d4,d8,b];rw [aq (show ((i+1:Nat):Int)<=12 by omega),th n m (i+1) (by omega),room (by omega)];by_cases hp:agr m (i+1)=true
     ·rw [ae hp,ae hp];rfl
     ·rw [ab hp,ab hp];rfl)
    (λout=>by
     unfold dE;simp only [d4,d8,am (show ¬((12+1:Nat):Int)<=12 by omega),af])
    (N:=n) (by omega)
   have c:au (dE n) n (1,g,l,dg,x,q,m,d,k0,k1,k2,([]:List Int))=_:=this;rw [c];rfl
def rE(y:Int):Bool:=decide (y%4=0)&&(decide (y%100≠0)||decide (y%400=0))
def lenI(y m:Int):Int:=if m=4\/m=6\/m=9\/m=11 then 30 else if m=2 then(if rE y then 29 else 28)else 31
def Ig(y:Int){b:Int}(c:0<b):(Int.tmod y b==0)=decide (y%b=0):=by
 rw[re,bv,Dy];have h:=LD (a:=y) (b:=b);have f:=Jv y (show b≠0 by omega);have d:=Ij y c;by_cases hc:0<=y\/b∣y
 ·rw[ae hc]at h;omega
 ·rw[ab hc]at h;have hd:¬b∣y:=λe=>hc (.inr e);have:y%b≠0:=λe=>hd (I9 e);omega
def zU(n:Nat)(y m:Int):dS n y m=some (lenI y m):=by
 have a:(Int.tmod y 100 != 0)=decide (y%100≠0):=by
  rw[bne,Ig y (by omega)];by_cases h:y%100=0<;>simp[h]
 unfold dS;rw[Ig y (by omega),Ig y (by omega),a];have body:(cond (m==2) (cond (decide (y%4=0)) (cond (decide (y%100≠0)) (some (29:Int)) (cond (decide (y%400=0)) (some 29) (some 28))) (some 28)) (some 31))=some (if m=2 then(if rE y=true then 29 else 28)else 31):=by
  rw[jy];by_cases c:m=2
  ·rw[ae c,ae c];unfold rE;cases decide (y%4=0)<;>cases decide (y%100≠0)<;>cases decide (y%400=0)<;>rfl
  ·rw[ab c,ab c]
 rw[body];unfold lenI;by_cases f:m=4
 ·subst f;rfl
 ·by_cases e:m=6
  ·subst e;rfl
  ·by_cases d:m=9
   ·subst d;rfl
   ·by_cases b:m=11
    ·subst b;rfl
    ·rw[aK.2 f,aK.2 e,aK.2 d,aK.2 b,ab (show¬(m=4\/m=6\/m=9\/m=11)by omega)];rfl
def vK(n:Nat){y:Int}(h:-20000000000000000<=y/\y<=20000000000000000):fa n y=some (1+(y - 1) / 4 - (y - 1) / 100+(y - 1) / 400):=by
 unfold fa;rw[wrap_i64 (y - 1) (by omega) (by omega),wm n (by omega) (by omega) (by omega) (by omega),wm n (by omega) (by omega) (by omega) (by omega),wm n (by omega) (by omega) (by omega) (by omega)];show some _=some _;have f:-5000000000000001<=(y - 1) / 4/\(y - 1) / 4<=5000000000000001:=by omega
 have e:-5000000000000001<=(y - 1) / 100/\(y - 1) / 100<=5000000000000001:=by omega
 have d:-5000000000000001<=(y - 1) / 400/\(y - 1) / 400<=5000000000000001:=by omega
 generalize(y - 1) / 4=a at *;generalize(y - 1) / 100=b at *;generalize(y - 1) / 400=c at *;simp only[];rw[wrap_i64 (1*a) (by omega) (by omega),wrap_i64 (-1*b) (by omega) (by omega),wrap_i64 (1*c) (by omega) (by omega),wrap_i64 (1+1*a) (by omega) (by omega),wrap_i64 (1+1*a+-1*b) (by omega) (by omega),wrap_i64 _ (by omega) (by omega)];congr 1;omega
def LX(y:Int):(1+y / 4 - y / 100+y / 400>1+(y - 1) / 4 - (y - 1) / 100+(y - 1) / 400)↔rE y=true:=by
 unfold rE;simp only[aB,ie,ci];omega
def PG(n:Nat){y:Int}(h:dJ y):jU n y=some (rE y,0):=by
 unfold jU;have h':=h;unfold dJ at h';rw[fV,ae h,wrap_i64 (y+1) (by omega) (by omega),vK n (by omega),vK n (by omega),show y+1 - 1=y by omega];have b:=LX y;show some (decide (1+y / 4 - y / 100+y / 400>1+(y - 1) / 4 - (y - 1) / 100+(y - 1) / 400),(0:Int))=_;by_cases a:rE y=true
 ·rw[a,aq (b.2 a)]
 ·rw[GE]at a;rw[a,am (λe=>by rw[b.1 e]at a;cases a)]
def ww(n:Nat){y:Int}(h:dJ y){m:Nat}(d:1<=m)(c:m<=12):dR n y (m:Int)=some (lenI y (m:Int)):=by
 unfold dR;rw[PG n h];show cond (rE y&&((m:Int)==2)) _ _=_;have a:wrap .i64 ((m:Int) - 1)=((m - 1:Nat):Int):=by rw[wrap_i64 _ (by omega) (by omega)];omega
 rw[a,eZ (show m - 1<12 by omega)];have b:m=1\/m=2\/m=3\/m=4\/m=5\/m=6\/m=7\/m=8\/m=9\/m=10\/m=11\/m=12:=by omega
 rcases b with rfl | rfl | rfl | rfl | rfl | rfl | rfl | rfl | rfl | rfl | rfl | rfl<;>unfold lenI<;>cases rE y<;>rfl
def Ji(n:Nat){y:Int}(h:dJ y){m:Nat}(b:1<=m)(a:m<=12):oi n y (m:Int)=some (lenI y (m:Int),0):=by
 unfold oi;rw[FX n h b a,ww n h b a];rfl
def kQ(y m:Int):28<=lenI y m/\lenI y m<=31:=by
 unfold lenI;split
 ·omega
 ·split
  ·split<;>omega
  ·omega
def wN(d:aa)(y m:Int):Int:=if d=[]then 0 else lenI y m
def uy(d:aa)(y a:Int):List (Int×Int×Int):=((dayI d).filter λk=>decide (k<=wN d y a)).map λk=>(y,a,k)
def wo(m d:aa)(y:Int):List (Int×Int×Int):=(monI m).flatMap (uy d y)
def JV{X Y A:Type}{step:X->Option (X⊕Y)}{f:Nat->List A->X}{y:List A->Y}{p:Nat->Bool}{e:Nat->A}{g:Nat}(a:List A)
  (h:∀i out,i<g->out.length<=a.length+i->step (f i out)=some (.inl (f (i+1) (if p (i+1)then out++[e (i+1)]else out))))
  (d:∀out,step (f g out)=some (.inr (y out))) {N:Nat} (b:g<N):au step N (f 0 a)=some (y (a++((List.range' 1 g).filter p).map e)):=by
 have c:∀(r i:Nat) (out:List A),i+r=g->out.length<=a.length+i->∀N,r<N->au step N (f i out)=some (y (out++((List.range' (i+1) r).filter p).map e)):=by
  intro r
  induction r with
  | zero=>
   intro i out hi j N b;obtain⟨N,rfl⟩:∃q,N=q+1:=⟨N - 1,by omega⟩;obtain rfl:i=g:=by omega
   rw[au,d];simp
  | succ r ih=>
   intro i out hi j N b;obtain⟨N,rfl⟩:∃q,N=q+1:=⟨N - 1,by omega⟩;rw[au,h i out (by omega) (by omega)];show au step N _=_;by_cases hp:p (i+1)=true
   ·rw[ae hp,ih (i+1) _ (by omega) (by simp;omega) N (by omega),wl,OU hp];simp
   ·rw[ab hp,ih (i+1) _ (by omega) (by omega) N (by omega),wl,O9 hp]
 exact c g 0 a (by omega) (by omega) N b
def H7{X Y A B:Type}{step:X->Option (X⊕Y)}{f:Nat->List A->X}{y:List A->Y}{F:B->List A}{L:List B}{c:Nat}(hc:∀b∈L,(F b).length<=c)
  (h:∀i b out,L[i]?=some b->out.length<=c*i->step (f i out)=some (.inl (f (i+1) (out++F b))))
  (g:∀out,step (f L.length out)=some (.inr (y out))) {N:Nat} (a:L.length<N):au step N (f 0 [])=some (y (L.flatMap F)):=by
 have e:∀(r i:Nat) (out:List A),i+r=L.length->out.length<=c*i->∀N,r<N->au step N (f i out)=some (y (out++(L.drop i).flatMap F)):=by
  intro r
  induction r with
  | zero=>
   intro i out hi d N a;obtain⟨N,rfl⟩:∃q,N=q+1:=⟨N - 1,by omega⟩;obtain rfl:i=L.length:=by omega
   rw[au,g];simp
  | succ r ih=>
   intro i out hi d N a;obtain⟨N,rfl⟩:∃q,N=q+1:=⟨N - 1,by omega⟩;have j:L[i]?=some L[i]:=bg (by omega);rw[au,h i L[i] out j d];show au step N _=_;have k:=hc L[i] (List.getElem_mem _);rw[ih (i+1) _ (by omega) (by rw[bW,Nat.mul_add];omega) N (by omega),qd (show i<L.length by omega),qu,lK]
 have:=e L.length 0 [] (by omega) (by simp) N a;simpa using this
def Qf(d:aa)(L:Nat)(h:L<=31):(sc (fitN d 31)).filter (λk=>decide (k<=(L:Int)))=sc ((List.range' 1 L).filter (agr d)):=by
 have hs:List.range' 1 31=List.range' 1 L++List.range' (1+L) (31 - L):=by
  have:=List.range'_append_1 (s:=1) (m:=L) (n:=31 - L);rw[this,show L+(31 - L)=31 by omega]
 unfold fitN sc;rw[hs,Ii,DN,Ii];have c:(List.map (λk:Nat=>(k:Int)) (List.filter (agr d) (List.range' 1 L))).filter (λk=>decide (k<=(L:Int)))=List.map (λk:Nat=>(k:Int)) (List.filter (agr d) (List.range' 1 L)):=by
  rw[List.filter_eq_self];intro k b;obtain⟨j,a,rfl⟩:=ew.1 b;have:=zV.1 (mW.1 a).1;exact aq (by omega)
 have e:(List.map (λk:Nat=>(k:Int)) (List.filter (agr d) (List.range' (1+L) (31 - L)))).filter (λk=>decide (k<=(L:Int)))=[]:=by
  rw[List.filter_eq_nil_iff];intro k b;obtain⟨j,a,rfl⟩:=ew.1 b;have:=zV.1 (mW.1 a).1;simp only[ci];omega
 rw[c,e,nW]
def FI(s:aa)(g:Nat):(fitN s g).length<=g:=by
 have:=yV (agr s) (List.range' 1 g);rw[List.length_range']at this;exact this
def FT(d:aa):(dayI d).length<=31:=by
 unfold dayI;split
 ·simp
 ·rw[AQ];exact FI d 31
def Gf(m:aa):(monI m).length<=12:=by
 unfold monI;split
 ·simp
 ·split
  ·simp
  ·rw[AQ];exact FI m 12
def Hq(d:aa)(y a:Int):(uy d y a).length<=31:=by
 unfold uy;rw[ED];exact pt (yV _ _) (FT d)
def Kt(y a:Int):uy [] y a=[(y,a,0)]:=rfl
def G0{d:aa}(h:d≠[])(y a:Int):uy d y a=((List.range' 1 (lenI y a).toNat).filter (agr d)).map λk:Nat=>(y,a,(k:Int)):=by
 have b:=kQ y a;unfold uy dayI wN;rw[ab h,ab h];have:=Qf d (lenI y a).toNat (by omega);rw[show(((lenI y a).toNat:Nat):Int)=lenI y a by omega]at this;rw[this,sc,vD];rfl
def G6 (n:Nat) (z:100<n) (g l:Bool) (dg:aa) (x q:Int) (m d:aa) (k0 k1 k2 y:Int):
  kv n g l dg x q m d k0 k1 k2 y=some (wo m d y):=by
 have w:=Gf m;unfold kv;rw [HE n z];have:=H7 (step:=eo n) (f:=λi out=>(y,(i:Int),g,l,dg,x,q,m,d,k0,k1,k2,monI m,out)) (y:=λo=>o) (F:=uy d y) (L:=monI m) (c:=31) (λb _=>Hq d y b)
  (λi h out hi C=>by
   have a:i<(monI m).length:=(rj.1 hi).1;have s:wrap .i64 ((i:Int)+1)=((i+1:Nat):Int):=by rw [wrap_i64 _ (by omega) (by omega)];omega
   unfold eo;simp only [d4,d8,s];rw [aq (show (i:Int)<(((monI m).length:Nat):Int) by omega),eZ a];by_cases hd:d=[]
   ·subst hd;rw [Kt];simp only [ob,hi,aj,room (show out.length<=60000000 by omega)];rfl
   ·rw [fH hd];have B:=kQ y h;have r:=JV (step:=eu n) (f:=λj o=>(y,(i:Int),((j+1:Nat):Int),g,l,dg,x,q,m,d,k0,k1,k2,monI m,o)) (y:=λo=>(y,(i:Int),g,l,dg,x,q,m,d,k0,k1,k2,monI m,o)) (p:=agr d) (e:=λk=>(y,h,(k:Int))) (g:=(lenI y h).toNat) out
     (λj o A v=>by
      have t:wrap .i64 (((j+1:Nat):Int)+1)=((j+1+1:Nat):Int):=by rw [wrap_i64 _ (by omega) (by omega)];omega
      unfold eu;simp only [d4,d8,t,eZ a,ob,hi,zU];rw [aq (show ((j+1:Nat):Int)<=lenI y h by omega),th n d (j+1) (by omega),room (show o.length<=60000000 by omega)];by_cases hp:agr d (j+1)=true
      ·rw [ae hp,ae hp];rfl
      ·rw [ab hp,ab hp];rfl)
     (λo=>by
      unfold eu;simp only [d4,d8,eZ a,ob,hi,zU];rw [am (show ¬(((lenI y h).toNat+1:Nat):Int)<=lenI y h by omega)];rfl)
     (N:=n) (by omega)
    have hin':au (eu n) n (y,(i:Int),1,g,l,dg,x,q,m,d,k0,k1,k2,monI m,out)=_:=r;simp only [aj,af];rw [hin',G0 hd];simp only [ob,d4,d8,s])
  (λout=>by
   unfold eo;simp only [d4,d8];rw [am (show ¬(((monI m).length:Nat):Int)<(((monI m).length:Nat):Int) by omega)];rfl)
  (N:=n) (by omega)
 have u:au (eo n) n (y,0,g,l,dg,x,q,m,d,k0,k1,k2,monI m,([]:List (Int×Int×Int)))=_:=this;simp only [ob];rw [u];rfl
def Uj{a b c e:UInt8}(k:bm a=true\/a=88)(l:bm b=true\/b=88)(hc:bm c=true\/c=88)(j:bm e=true\/e=88)(w:Nat):
  mtk [a,b,c,e] 4 w=Mk.ag [e,c,b,a] (w:Int):=by
 have one:∀(z:UInt8) (v:Nat),(decide (z=88)||decide (z.toNat=48+v%10))=(decide (z=88)||decide (Mk.dv z=(v:Int)%10)):=by
  intro z v;have:(z.toNat=48+v%10)↔(Mk.dv z=(v:Int)%10):=by unfold Mk.dv;omega
  rw[oC.2 this]
 have d:∀v:Nat,(v:Int) / 10=((v / 10:Nat):Int):=λv=>by omega
 show((decide (e=88)||decide (e.toNat=48+w%10))&&((decide (c=88)||decide (c.toNat=48+w / 10%10))&&((decide (b=88)||decide (b.toNat=48+w / 10 / 10%10))&&((decide (a=88)||decide (a.toNat=48+w / 10 / 10 / 10%10))&&true))))
  = ((((true&&(decide (a=88)||decide (Mk.dv a=(w:Int) / 10 / 10 / 10%10)))&&(decide (b=88)||decide (Mk.dv b=(w:Int) / 10 / 10%10)))&&(decide (c=88)||decide (Mk.dv c=(w:Int) / 10%10)))&&(decide (e=88)||decide (Mk.dv e=(w:Int)%10)))
 rw[one e w,one c (w / 10),one b (w / 10 / 10),one a (w / 10 / 10 / 10),d w,d (w / 10),d (w / 10 / 10)];generalize(decide (e=88)||decide (Mk.dv e=(w:Int)%10))=i;generalize(decide (c=88)||decide (Mk.dv c=((w / 10:Nat):Int)%10))=f;generalize(decide (b=88)||decide (Mk.dv b=((w / 10 / 10:Nat):Int)%10))=h;generalize(decide (a=88)||decide (Mk.dv a=((w / 10 / 10 / 10:Nat):Int)%10))=g;cases i<;>cases f<;>cases h<;>cases g<;>rfl
def Q5{c:UInt8}(h:bm c=true\/c=88):Mk.okB c=true:=by
 rcases h with h | h
 ·have h:=(bZ c).1 h;unfold Mk.okB;simp only[ie,aB,ci];right
  first | omega | (obtain⟨b,a⟩:=h;constructor<;>omega)
 ·subst h;decide
def MO{d:aa}(a:d.length=4)(h:∀c∈d,bm c=true\/c=88):Mk.chk d=0:=by
 unfold Mk.chk;have:d.all Mk.okB=true:=cq.2 λc hc=>Q5 (h c hc);rw[ab (by omega),ae this,ab (by rintro rfl;simp at a)]
def Fe{d:aa}(g:d.length=4)(h:∀c∈d,bm c=true\/c=88)(w:Nat):Mk.hasM d (w:Int)=true↔mtk d 4 w=true/\w / 10 ^ 4=0:=by
 obtain⟨a,b,c,e,rfl⟩:∃a b c e,d=[a,b,c,e]:=by
  match d,g with
  | [a,b,c,e],_=>exact⟨a,b,c,e,rfl⟩
 rw[Mk.EG,Uj (h a (by simp)) (h b (by simp)) (h c (by simp)) (h e (by simp)) w];simp only[aB,ci];show 0<=(w:Int)/\(w:Int)<10 ^ 4/\Mk.ag [e,c,b,a] (w:Int)=true↔Mk.ag [e,c,b,a] (w:Int)=true/\w / 10 ^ 4=0;have j:(10:Int) ^ 4=10000:=by decide
 have e4':(10:Nat) ^ 4=10000:=by decide
 rw[j,e4'];constructor
 ·rintro⟨_,i,f⟩;exact⟨f,by omega⟩
 ·rintro⟨f,i⟩;exact⟨by omega,by omega,f⟩
def EX{g l:Bool}{d:aa}{x q:Int}(b:okY g l d x q)(f:hasX d=true)(v:Int):inP g d x q v↔(Mk.hasM d (wOf g v)=true/\(g=true->1<=wOf g v)):=by
 obtain⟨rfl,rfl,rfl,a,hd⟩:=qt b f;unfold inP;rw[Fa f];have n:∀k:Int,Mk.hasM d k=true->0<=k/\k<10000:=λk p=>by
  have:=(Mk.nr p).2.2.2.2;rw[a]at this;have s:(10:Int) ^ 4=10000:=by decide
  omega
 constructor
 ·rintro⟨h,i,t,o,j⟩;have:=(Fe a hd (wOf g v).toNat).2 j;rw[show(((wOf g v).toNat:Nat):Int)=wOf g v by omega]at this;refine⟨this,λc=>?_⟩;have r:¬wOf g v=0:=λe=>o ⟨f,c,e⟩;omega
 ·rintro⟨h,i⟩;have hr':=n _ h;have m:=(Fe a hd (wOf g v).toNat).1 (by rw[show(((wOf g v).toNat:Nat):Int)=wOf g v by omega];exact h);have u:v=wOf g v\/v=- wOf g v:=by
   unfold wOf;split
   ·right;omega
   ·left;rfl
  refine⟨by omega,by omega,hr'.1,?_,m⟩;rintro⟨_,c,e⟩;have:=i c;omega
def EE{g l:Bool}{d:aa}{x:Int}(a:okY g l d x 0)(b:hasX d=false)(v:Int):inP g d x 0 v↔v=(if g then -((val d x.toNat:Nat):Int)else((val d x.toNat:Nat):Int)):=by
 obtain⟨k,q,rfl,n,m⟩:=sA a b;have hs:=m.small;have c:dval 0 d*10 ^ k=val d k:=rfl;rw[c]at hs;unfold E16 at hs;unfold inP;rw[O3 b];have j:Dv d (k:Int).toNat (0:Int).toNat=1:=rfl;rw[j,bT,rW,rW,b];unfold wOf;cases g with
 | true=>
  simp only[aH];constructor
  ·rintro⟨h,e,i,_,f⟩;omega
  ·rintro rfl;refine⟨by omega,by omega,by omega,by simp,by omega⟩
 | false=>
  simp only[bs,aC];constructor
  ·rintro⟨h,e,i,_,f⟩;omega
  ·rintro rfl;refine⟨by omega,by omega,by omega,by simp,by omega⟩
def Dt(up:Bool)(Y:Int->Prop)(v w:Int)(a:Bool):Prop:=
 (a=true->Y w/\Mk.eP up v w/\∀e,Y e->Mk.eP up v e->Mk.eP up w e)/\(a=false->∀e,Y e->¬Mk.eP up v e)
def eT(a b:Int):Mk.eP true a b↔a<=b:=Iff.rfl
def gQ(a b:Int):Mk.eP false a b↔b<=a:=Iff.rfl
def OS(o:Option Int):(Mk.res o).2=0/\(∃r,o=some r/\(Mk.res o).1=r)\/(Mk.res o).2=16/\o=none/\(Mk.res o).1=0:=by
 cases o with
 | none=>exact .inr ⟨rfl,rfl,rfl⟩
 | some r=>exact .inl ⟨rfl,r,rfl,rfl⟩
def uv{m:aa}(j:Mk.chk m=0)(v a:Int)(q:0<=a):∃w f,fh 20000000 m v true a=some (w,f)/\Dt true (λe=>Mk.hasM m e=true/\a<=e) v w f/\(0<=w/\w<1000000000000000000):=by
 obtain⟨o,n,c⟩:=Mk.Il j (cond (decide (a>v)) a v);unfold fh;rw[n];simp only[ob,aj];have hc:(cond (decide (a>v)) a v)=max v a:=by
  by_cases h:a>v
  ·rw[aq h];show a=_;omega
  ·rw[am h];show v=_;omega
 rw[hc]at c;rcases OS o with⟨g,r,rfl,d⟩ | ⟨g,rfl,d⟩
 ·refine⟨_,_,rfl,?_,?_⟩
  ·rw[g,d];obtain⟨a1,a2,p⟩:=c;rw[eT]at a2;refine⟨λ_=>⟨⟨a1,by omega⟩,?_,λe b i=>?_⟩,λh=>by cases h⟩
   ·rw[eT];omega
   ·rw[eT]at i;exact p e b.1 (by rw[eT];have:=b.2;omega)
  ·have:=(Mk.nr c.1).2.2.2.2;have k:=Mk.mR j;have hp:(10:Int) ^ m.length<=10 ^ 18:=by
    have:=nG (show 0<10 by decide) k.1
    exact_mod_cast this
   have l:(10:Int) ^ 18=1000000000000000000:=by decide
   rw[d];omega
 ·refine⟨_,_,rfl,?_,by rw[d];omega⟩;rw[g];refine⟨(λh=>by cases h),λ_ e b i=>?_⟩;rw[eT]at i;exact c e b.1 (by rw[eT];have:=b.2;omega)
def uw{m:aa}(k:Mk.chk m=0)(v a:Int)(s:0<=a):∃w f,fh 20000000 m v false a=some (w,f)/\Dt false (λe=>Mk.hasM m e=true/\a<=e) v w f/\(0<=w/\w<1000000000000000000):=by
 obtain⟨o,q,j⟩:=Mk.J5 k v;unfold fh;rw[q];simp only[ob,af];rcases OS o with⟨i,r,rfl,g⟩ | ⟨i,rfl,g⟩
 ·rw[i,g];obtain⟨a1,a2,l⟩:=j;rw[gQ]at a2;have t:=(Mk.nr a1).2.2.2.2;have n:=Mk.mR k;have hp:(10:Int) ^ m.length<=10 ^ 18:=by
   have:=nG (show 0<10 by decide) n.1
   exact_mod_cast this
  have p:(10:Int) ^ 18=1000000000000000000:=by decide
  refine⟨_,_,rfl,?_,by omega⟩;by_cases c:r>=a
  ·rw[aq c];refine⟨λ_=>⟨⟨a1,by omega⟩,by rw[gQ];omega,λe b d=>l e b.1 d⟩,λh=>by cases h⟩
  ·rw[am c];refine⟨(λh=>by cases h),λ_ e b d=>?_⟩;have:=l e b.1 d;rw[gQ]at this;have:=b.2;omega
 ·rw[i,g];refine⟨_,_,rfl,?_,by omega⟩;refine⟨(λh=>by cases h),λ_ e b d=>j e b.1 d⟩
def I6{g l:Bool}{dg:aa}{x:Int}(j:okY g l dg x 0)(m d:aa)(k0 k1 k2:Int)(v:Int)(G:-9223372036854775808<=v/\v<9223372036854775808)(up:Bool)(B C:List Int):
  ∃w f,ca 20000000 g l dg x 0 m d k0 k1 k2 v up B C=some (w,f)/\Dt up (inP g dg x 0) v w f:=by
 have E:=lh j;unfold ca;rw[sM];simp only[ob];cases t:hasX dg with
 | false=>
  have c:=EE j t;rw[yX 20000000 g l dg x 0 (by omega) (by omega),ae ⟨j,t⟩];simp only[gJ,aj];generalize(if g then -((val dg x.toNat:Nat):Int)else((val dg x.toNat:Nat):Int))=w at *;cases up with
  | true=>
   by_cases h:w>=v
   ·refine⟨w,true,?_,?_⟩
    ·simp only[aq h,aj]
    ·refine⟨λ_=>⟨(c w).2 rfl,h,λe b _=>?_⟩,λh=>by cases h⟩;rw[(c e).1 b];exact yh _
   ·refine⟨w,false,?_,?_⟩
    ·simp only[am h,aj,af,bV]
    ·refine⟨(λh=>by cases h),λ_ e b k=>?_⟩;rw[(c e).1 b,eT]at k;omega
  | false=>
   by_cases h:w<=v
   ·refine⟨w,true,?_,?_⟩
    ·simp only[aq h,aj,af,gJ]
    ·refine⟨λ_=>⟨(c w).2 rfl,h,λe b _=>?_⟩,λh=>by cases h⟩;rw[(c e).1 b];exact yh _
   ·refine⟨w,false,?_,?_⟩
    ·simp only[am h,aj,af,gJ]
    ·refine⟨(λh=>by cases h),λ_ e b k=>?_⟩;rw[(c e).1 b,gQ]at k;omega
 | true=>
  have c:=EX j t;obtain⟨rfl,rfl,_,z,hd⟩:=qt j t;have s:=MO z hd;simp only[bV,af];cases g with
  | false=>
   simp only[gJ,aj];have q:∀w f,Dt up (λe=>Mk.hasM dg e=true/\0<=e) v w f->Dt up (inP false dg 0 0) v w f:=λw f h=>by
    have a:∀e,(Mk.hasM dg e=true/\0<=e)↔inP false dg 0 0 e:=λe=>by
     rw[c e];constructor
     ·rintro⟨i,_⟩;exact⟨i,λh=>by cases h⟩
     ·rintro⟨i,_⟩;exact⟨i,(Mk.nr i).2.2.2.2.1⟩
    refine⟨λn=>?_,λn e b=>h.2 n e ((a e).2 b)⟩;obtain⟨b1,b2,r⟩:=h.1 n;exact⟨(a w).1 b1,b2,λe b=>r e ((a e).2 b)⟩
   cases up with
   | true=>
    obtain⟨w,f,i,p,_⟩:=uv s v 0 (by omega);exact⟨w,f,by rw[i],q w f p⟩
   | false=>
    obtain⟨w,f,i,p,_⟩:=uw s v 0 (by omega);exact⟨w,f,by rw[i],q w f p⟩
  | true=>
   simp only[bV,af];have hc:wrap .i64 (0 - (cond (decide (((-9223372036854775807):Int)>v)) (-9223372036854775807) v))=min (-v) 9223372036854775807:=by
    by_cases h:((-9223372036854775807):Int)>v
    ·rw[aq h,aj,wrap_i64 _ (by omega) (by omega)];omega
    ·rw[am h,af,wrap_i64 _ (by omega) (by omega)];omega
   rw[hc];have y:∀e,Mk.hasM dg e=true->0<=e/\e<10000:=λe b=>by
    have:=(Mk.nr b).2.2.2.2;rw[z]at this;have F:(10:Int) ^ 4=10000:=by decide
    omega
   have a:∀e,inP true dg 0 0 e↔(Mk.hasM dg (-e)=true/\1<=-e):=λe=>by
    rw[c e];exact⟨λh=>⟨h.1,h.2 rfl⟩,λh=>⟨h.1,λ_=>h.2⟩⟩
   have A:∀w:Int,0<=w/\w<1000000000000000000->wrap .i64 (0 - w)=-w:=λw h=>by rw[wrap_i64 _ (by omega) (by omega)];omega
   cases up with
   | true=>
    obtain⟨w,f,i,p,u⟩:=uw s (min (-v) 9223372036854775807) 1 (by omega);refine⟨-w,f,by rw[bV,i];simp only[A w u],?_,?_⟩
    ·intro n;obtain⟨b1,b2,r⟩:=p.1 n;rw[gQ]at b2;refine⟨(a _).2 (by rw[Int.neg_neg];exact b1),by rw[eT];omega,λe b k=>?_⟩;rw[eT]at k;have o:=(a e).1 b;have:=r (-e) o (by rw[gQ];have:=y _ o.1;omega);rw[gQ]at this;rw[eT];omega
    ·intro n e b k;rw[eT]at k;have o:=(a e).1 b;exact p.2 n (-e) o (by rw[gQ];have:=y _ o.1;omega)
   | false=>
    obtain⟨w,f,i,p,u⟩:=uv s (min (-v) 9223372036854775807) 1 (by omega);refine⟨-w,f,by rw[gJ,i];simp only[A w u],?_,?_⟩
    ·intro n;obtain⟨b1,b2,r⟩:=p.1 n;rw[eT]at b2;have D:=y _ b1.1;refine⟨(a _).2 (by rw[Int.neg_neg];exact b1),by rw[gQ];omega,λe b k=>?_⟩;rw[gQ]at k;have o:=(a e).1 b;have:=r (-e) o (by rw[eT];omega);rw[eT]at this;rw[gQ];omega
    ·intro n e b k;rw[gQ]at k;have o:=(a e).1 b;exact p.2 n (-e) o (by rw[eT];omega)
def tg{X Y A:Type}{step:X->Option (X⊕Y)}{f:Nat->X}{L:List A}{G:A->Option Y}{e:Y}
  (h:∀i a,L[i]?=some a->step (f i)=some ((G a).elim (.inl (f (i+1))) Sum.inr)) (d:step (f L.length)=some (.inr e)) {N:Nat} (b:L.length<N):
  au step N (f 0)=some ((L.findSome? G).getD e):=by
 have c:∀(r i:Nat),i+r=L.length->∀N,r<N->au step N (f i)=some (((L.drop i).findSome? G).getD e):=by
  intro r
  induction r with
  | zero=>
   intro i hi N b;obtain⟨N,rfl⟩:∃q,N=q+1:=⟨N - 1,by omega⟩;obtain rfl:i=L.length:=by omega
   rw[au,d];simp
  | succ r ih=>
   intro i hi N b;obtain⟨N,rfl⟩:∃q,N=q+1:=⟨N - 1,by omega⟩;have g:L[i]?=some L[i]:=bg (by omega);rw[au,h i L[i] g,qd (show i<L.length by omega),C0];cases j:G L[i]with
   | some y=>rfl
   | none=>exact ih (i+1) (by omega) N (by omega)
 have:=c L.length 0 (by omega) N b;simpa using this
def ahd(up:Bool)(a b:Int):Bool:=cond up (decide (a<b)) (decide (a>b))
def GT(n:Nat)(a b:Int)(up:Bool):cw n a b up=some (ahd up a b):=by
 unfold cw ahd;cases up
 ·rfl
 ·simp only[aj,bV,af];cases decide (a<b)<;>rfl
def Az(up a:Bool)(d:aa)(b most k:Int):Bool:=decide (k<=most)&&!(a&&(!(d==([]:aa))&&ahd up k b))
def Ie(up:Bool)(m:aa)(a c y b:Int):Bool:=(y==a)&&(!(m==([]:aa))&&ahd up b c)
def G1(m:aa)(a c y b:Int):Bool:=(y==a)&&((m==([]:aa))||(b==c))
def Ds(up:Bool)(m d:aa)(b c e y:Int)(f:List Int)(a:Int):Option (Int×Int×Int):=
 if Ie up m b c y a then none else(f.find? (Az up (G1 m b c y a) d e (wN d y a))).map λk=>(y,a,k)
def D2(up:Bool)(m d:aa)(b f a:Int)(e c:List Int)(y:Int):Option (Int×Int×Int):=e.findSome? (Ds up m d b f a y c)
def Kw(d:aa)(a:List Int):Prop:=a.length<=31/\(d≠[]->∀b∈a,1<=b/\b<=12)
def LH(n:Nat)(g l:Bool)(dg:aa)(x q:Int)(m d:aa)(k0 k1 k2:Int){y:Int}(hy:dJ y){a:Int}(b:d≠[]->1<=a/\a<=12)(e c:List Int):
  eJ n g l dg x q m d k0 k1 k2 y a e c=some (wN d y a):=by
 unfold eJ wN;by_cases hd:d=[]
 ·subst hd;rfl
 ·rw[fH hd,ab hd];have:=b hd;obtain⟨k,rfl⟩:∃k:Nat,a=(k:Int):=⟨a.toNat,by omega⟩;rw[af,Ji n hy (by omega) (by omega)];rfl
def Qy{A B Y:Type}(L:List A)(p:A->Bool)(F:A->B)(J:B->Y)(e:Y):(L.findSome? λa=>if p a then some (J (F a))else none).getD e=((L.find? p).map F).elim e J:=by
 induction L with
 | nil=>rfl
 | cons a L ih=>
  rw[List.find?_cons,C0];cases h:p a
  ·simpa using ih
  ·simp
def Un{A B Y:Type}(L:List A)(G:A->Option B)(J:B->Y)(e:Y):(L.findSome? λa=>(G a).map J).getD e=(L.findSome? G).elim e J:=by
 induction L with
 | nil=>rfl
 | cons a L ih=>
  rw[C0,C0];cases h:G a
  ·simpa using ih
  ·simp
def MF(n:Nat)(s y e:Int)(a:Bool)(most p o:Int)(u b:List Int)(g l:Bool)(dg:aa)(x q:Int)(m d:aa)(k0 k1 k2 t v c:Int)(up:Bool)(h j rd:Int)(i:Nat)(k:Int)(hi:b[i]?=some k)(w:i<1000):
  bE n (s,y,e,a,most,p,o,((b.length:Nat):Int),(i:Int),u,b,g,l,dg,x,q,m,d,k0,k1,k2,t,v,c,up,h,j,rd)=some ((if Az up a d c most k then some (.inl (true,y,e,k))else none).elim (.inl (s,y,e,a,most,p,o,((b.length:Nat):Int),((i+1:Nat):Int),u,b,g,l,dg,x,q,m,d,k0,k1,k2,t,v,c,up,h,j,rd)) Sum.inr):=by
 have f:i<b.length:=(rj.1 hi).1;have r:wrap .i64 ((i:Int)+1)=((i+1:Nat):Int):=by rw[wrap_i64 _ (by omega) (by omega)];omega
 unfold bE gM Az;simp only[d4,d8,d16,eZ f,hi,ob,r,GT];rw[aq (show(i:Int)<((b.length:Nat):Int)by omega)];simp only[aj];cases decide (k<=most)<;>cases a<;>cases(d==([]:aa))<;>cases ahd up k c<;>simp only[bV,gJ,aj,af,r]<;>rfl
def P2(n:Nat)(s y p:Int)(b:Bool)(most h f:Int)(k a:List Int)(g l:Bool)(dg:aa)(x q:Int)(m d:aa)(k0 k1 k2 j o i:Int)(up:Bool)(c e rd:Int):
  bE n (s,y,p,b,most,h,f,((a.length:Nat):Int),((a.length:Nat):Int),k,a,g,l,dg,x,q,m,d,k0,k1,k2,j,o,i,up,c,e,rd)=some (.inr (.inr (s,y,h,f,k,a,g,l,dg,x,q,m,d,k0,k1,k2,j,o,i,up,c,e,rd))):=by
 unfold bE;simp only[d4,d8,d16];rw[am (show¬((a.length:Nat):Int)<((a.length:Nat):Int)by omega)];rfl
def Pm (n:Nat) (A:1000<n) (s y h:Int) (a:Bool) (most r p:Int) (u b:List Int) (g l:Bool) (dg:aa) (x q:Int) (m d:aa) (k0 k1 k2 t v c:Int) (up:Bool) (j o rd:Int) (hd:b.length<=31):
  au (bE n) n (s,y,h,a,most,r,p,((b.length:Nat):Int),0,u,b,g,l,dg,x,q,m,d,k0,k1,k2,t,v,c,up,j,o,rd)=some (((b.find? (Az up a d c most)).map (λk=>(y,h,k))).elim (.inr (s,y,r,p,u,b,g,l,dg,x,q,m,d,k0,k1,k2,t,v,c,up,j,o,rd)) (λz=>.inl (true,z))):=by
 have:=tg (step:=bE n) (f:=λi=>(s,y,h,a,most,r,p,((b.length:Nat):Int),(i:Int),u,b,g,l,dg,x,q,m,d,k0,k1,k2,t,v,c,up,j,o,rd)) (L:=b) (G:=λk=>if Az up a d c most k then some (.inl (true,y,h,k)) else none) (e:=.inr (s,y,r,p,u,b,g,l,dg,x,q,m,d,k0,k1,k2,t,v,c,up,j,o,rd))
  (λi k hi=>by
   have w:i<b.length:=(rj.1 hi).1;exact MF n s y h a most r p u b g l dg x q m d k0 k1 k2 t v c up j o rd i k hi (by omega))
  (P2 n s y h a most r p u b g l dg x q m d k0 k1 k2 t v c up j o rd) (N:=n) (by omega)
 exact this.trans (ck some (Qy b (Az up a d c most) (λk=>(y,h,k)) (λz=>Sum.inl (true,z)) _))
def N4(n:Nat)(D:1000<n)(s y:Int)(hy:dJ y)(o p:List Int)(g l:Bool)(dg:aa)(x q:Int)(m d:aa)(k0 k1 k2 e j r:Int)(up:Bool)(t u rd:Int)(A:Kw d o)(hd:p.length<=31)(i:Nat)(f:Int)(hi:o[i]?=some f):
  bX n (s,y,((o.length:Nat):Int),(i:Int),o,p,g,l,dg,x,q,m,d,k0,k1,k2,e,j,r,up,t,u,rd)=some (((Ds up m d e j r y p f).map (λz=>(.inl (true,z):(Bool×Int×Int×Int)⊕_))).elim (.inl (s,y,((o.length:Nat):Int),((i+1:Nat):Int),o,p,g,l,dg,x,q,m,d,k0,k1,k2,e,j,r,up,t,u,rd)) Sum.inr):=by
 have w:i<o.length:=(rj.1 hi).1;have C:=A.1;have B:wrap .i64 ((i:Int)+1)=((i+1:Nat):Int):=by rw[wrap_i64 _ (by omega) (by omega)];omega
 have v:d≠[]->1<=f/\f<=12:=λh=>A.2 h f (fE hi);have j20:∀a b:Int,eW n s y f (y==e) a b o p g l dg x q m d k0 k1 k2 e j r up t u rd=some (s,y,f,(y==e),a,b,Ie up m e j y f,o,p,g,l,dg,x,q,m,d,k0,k1,k2,e,j,r,up,t,u,rd):=by
  intro a b;unfold eW Ie;simp only[GT,ob];cases(y==e)<;>cases(m==([]:aa))<;>rfl
 have j23:∀a b c:Int,eK n s y f (y==e) a b c o p g l dg x q m d k0 k1 k2 e j r up t u rd=some (s,y,f,G1 m e j y f,a,b,c,o,p,g,l,dg,x,q,m,d,k0,k1,k2,e,j,r,up,t,u,rd):=by
  intro a b c;unfold eK G1;cases(y==e)<;>cases(m==([]:aa))<;>rfl
 unfold bX gV Ds;simp only[d4,d8,d16,eZ w,hi,ob,j20];rw[aq (show(i:Int)<((o.length:Nat):Int)by omega)];simp only[aj];cases hs:Ie up m e j y f with
 | true=>simp only[aj,aH,ir,B];rfl
 | false=>
  simp only[af,bs,aC,LH n g l dg x q m d k0 k1 k2 hy v,j23,Pm n D s y f (G1 m e j y f) (wN d y f) _ _ o p g l dg x q m d k0 k1 k2 e j r up t u rd hd];cases p.find? (Az up (G1 m e j y f) d r (wN d y f))with
  | some k=>rfl
  | none=>simp only[ir,Option.elim_none,B]
def PU (n:Nat) (u:1000<n) (s y:Int) (hy:dJ y) (a b:List Int) (g l:Bool) (dg:aa) (x q:Int) (m d:aa) (k0 k1 k2 h j c:Int) (up:Bool) (k o rd:Int) (r:Kw d a) (hd:b.length<=31):
  au (bX n) n (s,y,((a.length:Nat):Int),0,a,b,g,l,dg,x,q,m,d,k0,k1,k2,h,j,c,up,k,o,rd)=some ((D2 up m d h j c a b y).elim (.inr (s,y,a,b,g,l,dg,x,q,m,d,k0,k1,k2,h,j,c,up,k,o,rd)) (λz=>.inl (true,z))):=by
 have t:=r.1;have:=tg (step:=bX n) (f:=λi=>(s,y,((a.length:Nat):Int),(i:Int),a,b,g,l,dg,x,q,m,d,k0,k1,k2,h,j,c,up,k,o,rd)) (L:=a) (G:=λp=>(Ds up m d h j c y b p).map (λz=>(.inl (true,z):(Bool×Int×Int×Int)⊕_))) (e:=.inr (s,y,a,b,g,l,dg,x,q,m,d,k0,k1,k2,h,j,c,up,k,o,rd))
  (λi p hi=>N4 n u s y hy a b g l dg x q m d k0 k1 k2 h j c up k o rd r hd i p hi)
  (by
   unfold bX;simp only [d4,d8,d16];rw [am (show ¬((a.length:Nat):Int)<((a.length:Nat):Int) by omega)];rfl)
  (N:=n) (by omega)
 exact this.trans (ck some (Un a (Ds up m d h j c y b) (λz=>Sum.inl (true,z)) _))
def MG(n:Nat)(k:1000<n)(s y:Int)(hy:dJ y)(b a:List Int)(g l:Bool)(dg:aa)(x q:Int)(m d:aa)(k0 k1 k2 e f c:Int)(up:Bool)(h i rd:Int)(j:Kw d b)(hd:a.length<=31):
  cL n (s,y,true,b,a,g,l,dg,x,q,m,d,k0,k1,k2,e,f,c,up,h,i,rd)=(D2 up m d e f c b a y).elim (ob (ca n g l dg x q m d k0 k1 k2 (wrap .i64 (y+s)) up b a) λr=>some (.inl (s,r.1,r.2,b,a,g,l,dg,x,q,m,d,k0,k1,k2,e,f,c,up,h,i,rd))) (λz=>some (.inr (.inl (true,z)))):=by
 unfold cL;simp only[d4,d8,d16,aj,ob,PU n k s y hy b a g l dg x q m d k0 k1 k2 e f c up h i rd j hd];cases D2 up m d e f c b a y<;>rfl
def Gv(up:Bool)(Y:Int->Prop)(F:Int->Option (Int×Int×Int))(v:Int):Option (Int×Int×Int)->Prop
 | some z=>∃e,Y e/\Mk.eP up v e/\F e=some z/\∀a,Y a->Mk.eP up v a->¬Mk.eP up e a->F a=none
 | none=>∀e,Y e->Mk.eP up v e->F e=none
def Hm{X:Type}{step:X->Option (X⊕((Bool×Int×Int×Int)⊕(Int×Int×Int)))}{st:Int->Bool->X}{F:Int->Option (Int×Int×Int)}{Y:Int->Prop}{up:Bool}{s lo hi:Int}{E:Int×Int×Int}{fy:Int->Option (Int×Bool)}
  (hs:s=if up then 1 else -1) (t:∀e,Y e->lo<=e/\e<=hi) (M:-10000000000000000<=lo) (d:hi<=10000000000000000)
  (a:∀y,Y y->step (st y true)=(F y).elim (ob (fy (wrap .i64 (y+s))) λr=>some (.inl (st r.1 r.2))) (λz=>some (.inr (.inl (true,z)))))
  (c:∀y,step (st y false)=some (.inr (.inr E)))
  (n:∀v,-9223372036854775808<=v/\v<9223372036854775808->∃w f,fy v=some (w,f)/\Dt up Y v w f):
  ∀(r:Nat) (v y:Int) (f:Bool),Dt up Y v y f->(f=true->(if up then hi - y else y - lo)<(r:Int))->∀N,r<N->
   ∃o,au step N (st y f)=some (o.elim (.inr E) (λz=>.inl (true,z)))/\Gv up Y F v o:=by
 intro r
 induction r with
 | zero=>
  intro v y f l p N H;obtain⟨N,rfl⟩:∃q,N=q+1:=⟨N - 1,by omega⟩;cases f with
  | true=>
   obtain⟨a1,_,_⟩:=l.1 rfl;have:=t y a1;have:=p rfl;cases up<;>simp at this<;>omega
  | false=>
   refine⟨none,by rw[au,c];rfl,λe g k=>absurd k (l.2 rfl e g)⟩
 | succ r ih=>
  intro v y f l p N H;obtain⟨N,rfl⟩:∃q,N=q+1:=⟨N - 1,by omega⟩;cases f with
  | false=>
   refine⟨none,by rw[au,c];rfl,λe g k=>absurd k (l.2 rfl e g)⟩
  | true=>
   obtain⟨a1,a2,C⟩:=l.1 rfl;have O:=t y a1;cases j:F y with
   | some z=>
    refine⟨some z,?_,y,a1,a2,j,λb d m i=>absurd (C b d m) i⟩;rw[au,a y a1,j];rfl
   | none=>
    have K:wrap .i64 (y+s)=y+s:=by
     have:-1<=s/\s<=1:=by rw[hs];cases up<;>simp
     exact wrap_i64 _ (by omega) (by omega)
    obtain⟨w,A,G,u⟩:=n (y+s) (by
     have:-1<=s/\s<=1:=by rw[hs];cases up<;>simp
     omega)
    have hstep':step (st y true)=some (.inl (st w A)):=by
     rw[a y a1,j,K];show ob (fy (y+s)) _=_;rw[G];rfl
    obtain⟨o,L,B⟩:=ih (y+s) w A u (λJ=>by
     obtain⟨b1,b2,_⟩:=u.1 J;have:=p rfl;cases up
     ·rw[gQ]at b2;simp only[bs,aC]at hs this ⊢;omega
     ·rw[eT]at b2;simp only[aH]at hs this ⊢;omega) N (by omega)
    refine⟨o,by rw[au,hstep'];exact L,?_⟩;have split:∀b,Y b->Mk.eP up v b->b=y\/Mk.eP up (y+s) b:=λb d m=>by
     have i:=C b d m;cases up
     ·rw[gQ]at i ⊢;simp only[bs,aC]at hs;omega
     ·rw[eT]at i ⊢;simp only[aH]at hs;omega
    cases o with
    | none=>
     intro e g k;rcases split e g k with rfl | h
     ·exact j
     ·exact B e g h
    | some z=>
     obtain⟨e,D,x,c3,I⟩:=B;refine⟨e,D,?_,c3,λb d m i=>?_⟩
     ·cases up
      ·rw[gQ]at x a2 ⊢;simp only[bs,aC]at hs;omega
      ·rw[eT]at x a2 ⊢;simp only[aH]at hs;omega
     ·rcases split b d m with rfl | h
      ·exact j
      ·exact I b d h i
def yO{g l:Bool}{dg:aa}{x:Int}(c:okY g l dg x 0):∃lo hi:Int,(∀e,inP g dg x 0 e->lo<=e/\e<=hi)/\hi - lo<=10000/\-10000000000000000<=lo/\hi<=10000000000000000:=by
 cases d:hasX dg with
 | false=>
  have a:=EE c d;by_cases f:-10000000000000000<=(if g then -((val dg x.toNat:Nat):Int)else((val dg x.toNat:Nat):Int))/\(if g then -((val dg x.toNat:Nat):Int)else((val dg x.toNat:Nat):Int))<=10000000000000000
  ·refine⟨_,_,λe b=>?_,?_,f.1,f.2⟩
   ·rw[(a e).1 b];exact⟨yh _,yh _⟩
   ·omega
  ·refine⟨0,0,λe b=>?_,by omega,by omega,by omega⟩;exfalso;have:=(a e).1 b;unfold inP at b;exact f ⟨by rw[<-this];exact b.1,by rw[<-this];exact b.2.1⟩
 | true=>
  have a:=EX c d;obtain⟨_,_,_,i,hd⟩:=qt c d;refine⟨if g then -9999 else 0,if g then 0 else 9999,λe b=>?_,by cases g<;>simp,by cases g<;>simp,by cases g<;>simp⟩;have h:=((a e).1 b).1;have:=(Mk.nr h).2.2.2.2;rw[i]at this;have j:(10:Int) ^ 4=10000:=by decide
  unfold wOf at this;cases g
  ·simp at this ⊢;omega
  ·simp at this ⊢;omega
def zh{g:Bool}{dg:aa}{x q e:Int}(h:inP g dg x q e):dJ e:=⟨h.1,h.2.1⟩
def G8{g l:Bool}{dg:aa}{x:Int}(e:okY g l dg x 0)(m d:aa)(k0 k1 k2:Int)(a i h:Int)(n:-9223372036854775808<=a/\a<9223372036854775808)(c b:List Int)(r:Kw d c)(hd:b.length<=31):
  ∃o,iE 20000000 g l dg x 0 m d k0 k1 k2 a i h true c b=some (o.elim (0,0,0,false) λz=>(z.1,z.2.1,z.2.2,true))/\Gv true (inP g dg x 0) (D2 true m d a i h c b) a o:=by
 obtain⟨lo,hi,p,D,k,j⟩:=yO e;obtain⟨w,f,u,q⟩:=I6 e m d k0 k1 k2 a n true c b;obtain⟨o,A,t⟩:=Hm (step:=cL 20000000) (st:=λy f=>(1,y,f,c,b,g,l,dg,x,0,m,d,k0,k1,k2,a,i,h,true,0,0,0)) (F:=D2 true m d a i h c b) (Y:=inP g dg x 0) (up:=true) (s:=1) (lo:=lo) (hi:=hi) (E:=(0,0,0)) (fy:=λv=>ca 20000000 g l dg x 0 m d k0 k1 k2 v true c b)
  rfl p k j
  (λy hy=>MG 20000000 (by omega) 1 y (zh hy) c b g l dg x 0 m d k0 k1 k2 a i h true 0 0 0 r hd)
  (λy=>rfl)
  (λv C=>I6 e m d k0 k1 k2 v C true c b)
  10002 a w f q (λB=>by have:=p w (q.1 B).1;simp;omega) 20000000 (by omega)
 refine⟨o,?_,t⟩;unfold iE iI;simp only[bV,af,ob,d4,d8,d16,u];have i1':au (cL 20000000) 20000000 (1,w,f,c,b,g,l,dg,x,0,m,d,k0,k1,k2,a,i,h,true,0,0,0)=_:=A;rw[i1'];cases o<;>rfl
def E0(m d:aa)(o l:Int){f e:Int}(h:e≠f)(n g:List Int):D2 true m d f o l n g e=none↔(n.flatMap λa=>(g.filter λk=>decide (k<=wN d e a)).map λk=>(e,a,k))=[]:=by
 have i:(e==f)=false:=aK.2 h;unfold D2;rw[OY,List.flatMap_eq_nil_iff];have:∀a,Ds true m d f o l e g a=none↔((g.filter λk=>decide (k<=wN d e a)).map λk=>(e,a,k))=[]:=by
  intro a;unfold Ds Ie G1;rw[i];simp only[vz,bs,aC,Option.map_eq_none_iff,List.find?_eq_none,List.map_eq_nil_iff,List.filter_eq_nil_iff];constructor
  ·intro c k j;have:=c k j;unfold Az at this;simpa using this
  ·intro c k j;have:=c k j;unfold Az;simpa using this
 exact⟨λc a b=>(this a).1 (c a b),λc a b=>(this a).2 (c a b)⟩
def hasF(g:Bool)(dg:aa)(x:Int)(m d:aa):Prop:=∃e,inP g dg x 0 e/\wo m d e≠[]
open Classical in
noncomputable def chkF(g l:Bool)(dg:aa)(x q:Int)(m d:aa)(k0 k1 k2:Int):Int:=
 if chkD g l dg x q m d k0 k1 k2=0/\d≠[]/\¬hasF g dg x m d then 8 else chkD g l dg x q m d k0 k1 k2
def sX{g l:Bool}{dg:aa}{x q:Int}{m d:aa}{k0 k1 k2:Int}(h:chkD g l dg x q m d k0 k1 k2=0):okY g l dg x q/\(m=[]\/m.length=2)/\(d=[]\/d.length=2)/\(0<q->m=[])/\(d≠[]->m≠[]/\sea m=0):=by
 obtain⟨b,f,c3,k⟩:=KW h;unfold yrD at b;by_cases a:okY g l dg x q
 ·rw[ae a]at b;refine⟨a,?_,?_,λj=>?_,λhd=>?_⟩
  ·rcases f with h | h | h
   ·exact .inl h
   ·exact .inr (I1 h).1
   ·exact .inr (qG (by omega) h).1
  ·rcases c3 with h | ⟨_,_,h⟩
   ·exact .inl h
   ·exact .inr (qG (by omega) h).1
  ·unfold yrB at b;simp only[aB,kC]at b;have:=b.1;rw[aq j,m8]at this;by_cases c:m=[]
   ·exact c
   ·rw[fH c]at this;cases this
  ·rcases c3 with h | ⟨i,e,_⟩
   ·exact absurd h hd
   ·exact⟨i,e⟩
 ·rw[ab a]at b;cases b
def Up{g l:Bool}{dg:aa}{x q:Int}(h:okY g l dg x q):0<=q:=(lh h).2.2.1
def Lr{m d:aa}(h:d≠[]->m≠[]/\sea m=0):Kw d (monI m):=by
 refine⟨pt (Gf m) (by omega),λhd f a=>?_⟩;obtain⟨c,e⟩:=h hd;unfold monI at a;rw[ab c,ab (by omega)]at a;obtain⟨k,b,rfl⟩:=ew.1 a;have:=zV.1 (mW.1 b).1;omega
def uM{g l:Bool}{dg:aa}{x q:Int}{m d:aa}{k0 k1 k2:Int}(j:m.length<=18)(r:dg.length<=100)(u:0<=k0)(y:0<=k1)(C:0<=k2):
  bn 20000000 g l dg x q m d k0 k1 k2=some (chkF g l dg x q m d k0 k1 k2):=by
 unfold bn chkF;rw[Oc 20000000 (by omega) g l dg x q m d k0 k1 k2 j r u y C];simp only[ob];by_cases hc:chkD g l dg x q m d k0 k1 k2=0
 ·obtain⟨b,s,k,A,f⟩:=sX hc;rw[hc];simp only[dX,af];by_cases hd:d=[]
  ·subst hd;rw[ab (by simp)];rfl
  ·rw[fH hd,af];have n:q=0:=by
    have:=Up b;by_cases h:0<q
    ·exact absurd (A h) (f hd).1
    ·omega
   subst n;have e:=VP 20000000 (by omega) g l dg x 0 m d k0 k1 k2 s k;have p:=Lr f;obtain⟨o,o1,t⟩:=G8 b m d k0 k1 k2 (-9223372036854775808) 0 0 (by omega) (monI m) (dayI d) p (FT d);have c:∀e,inP g dg x 0 e->e≠-9223372036854775808:=λe v=>by have:=zh v;unfold dJ at this;omega
   have key:(∃z,o=some z)↔hasF g dg x m d:=by
    constructor
    ·rintro⟨z,rfl⟩;obtain⟨e,a,_,c3,_⟩:=t;refine⟨e,a,λB=>?_⟩;have:=(E0 m d 0 0 (c e a) (monI m) (dayI d)).2 B;rw[this]at c3;cases c3
    ·rintro⟨e,a,w⟩;cases o with
     | some z=>exact⟨z,rfl⟩
     | none=>
      have:=t e a (by rw[eT];have:=zh a;unfold dJ at this;omega);exact absurd ((E0 m d 0 0 (c e a) (monI m) (dayI d)).1 this) w
   rw[e];by_cases i:hasF g dg x m d
   ·obtain⟨z,rfl⟩:=key.2 i;rw[ab (λh=>h.2.2 i)]
    all_goals
     simp only[d4,d8,o1];rfl
   ·have D:o=none:=by
     cases o with
     | none=>rfl
     | some z=>exact absurd (key.1 ⟨z,rfl⟩) i
    subst D;rw[ae ⟨rfl,hd,i⟩]
    all_goals
     simp only[d4,d8,o1];rfl
 ·rw[ab (λh=>hc h.1)];have:(chkD g l dg x q m d k0 k1 k2 != 0)=true:=by simp[hc]
  rw[this];rfl
def Mc {g l:Bool} {dg:aa} {x:Int} (c:okY g l dg x 0) (m d:aa) (k0 k1 k2:Int):
  ∃r,ka 20000000 g l dg x 0 m d k0 k1 k2=some r/\(r=1/\hasF g dg x m d\/r=0/\¬hasF g dg x m d):=by
 have O:=lh c;obtain ⟨lo,hi,B,Q,M,D⟩:=yO c;obtain ⟨I,K,F⟩:=KO c;have w:=NN 19999700 g l dg x 0 (by omega) c;unfold ka;rw [show (20000000:Nat)=19999700+300 from rfl,w];simp only [ob];generalize (sgn g (oG g dg x 0)).1=a at *;generalize (sgn g (oG g dg x 0)).2=b at *;have P:=B a I;have hb':=B b K;have E:=λy=>Sj 19999700 c y;have step:∀i y,((List.range (b - a+1).toNat).map (λj:Nat=>a+(j:Int)))[i]?=some y->i<(b - a+1).toNat/\y=a+(i:Int):=by
  intro i y h;rw [pg] at h;cases v:(List.range (b - a+1).toNat)[i]? with
  | none=>rw [v] at h;cases h
  | some j=>
   rw [v] at h;have hi:=rj.1 v;obtain ⟨A,C⟩:=hi;rw [List.getElem_range] at C;rw [List.length_range] at A;subst C;exact ⟨A,(aZ h).symm⟩
 have p:((List.range (b - a+1).toNat).map (λj:Nat=>a+(j:Int))).length=(b - a+1).toNat:=by simp
 have:=tg (step:=fM (19999700+300)) (f:=λi=>(b,a+(i:Int),g,l,dg,x,0,m,d,k0,k1,k2)) (L:=(List.range (b - a+1).toNat).map (λj:Nat=>a+(j:Int))) (G:=λy=>if inP g dg x 0 y/\wo m d y≠[] then some (.inl 1) else none) (e:=.inr ())
  (λi y h=>by
   obtain ⟨hi,rfl⟩:=step i y h;have J:wrap .i64 (a+(i:Int)+1)=a+((i+1:Nat):Int):=by rw [wrap_i64 _ (by omega) (by omega)];omega
   unfold fM;simp only [d4,d8,J];rw [aq (show a+(i:Int)<=b by omega),E,G6 (19999700+300) (by omega)];by_cases o:inP g dg x 0 (a+(i:Int))
   ·rw [ae o];by_cases n:wo m d (a+(i:Int))=[]
    ·rw [ab (λh=>h.2 n),n];rfl
    ·rw [ae ⟨o,n⟩];have hp:0<(wo m d (a+(i:Int))).length:=List.length_pos_iff.2 n;have hd:decide ((((wo m d (a+(i:Int))).length:Nat):Int)>0)=true:=aq (by omega);simp only [aj,ob,hd];rfl
   ·rw [ab o,ab (λh=>o h.1)];rfl)
  (by
   unfold fM;simp only [d4,d8];rw [p,am (show ¬a+(((b - a+1).toNat:Nat):Int)<=b by omega)];rfl)
  (N:=19999700+300) (by rw [p];omega)
 rw [show a+((0:Nat):Int)=a by omega] at this;rw [this];cases q:(List.findSome? (λy=>if inP g dg x 0 y/\wo m d y≠[] then some (Sum.inl (1:Int)) else none) ((List.range (b - a+1).toNat).map (λj:Nat=>a+(j:Int))):Option (Int⊕Unit)) with
 | none=>
  refine ⟨0,rfl,.inr ⟨rfl,?_⟩⟩;rintro ⟨e,s,u⟩;rw [OY] at q;have hs:=F e s;have:=q e (ew.2 ⟨(e - a).toNat,kx.2 (by omega),by omega⟩);rw [ae ⟨s,u⟩] at this;cases this
 | some z=>
  obtain ⟨y,H,k⟩:=List.exists_of_findSome?_eq_some q;by_cases t:inP g dg x 0 y/\wo m d y≠[]
  ·rw [ae t] at k;obtain rfl:=aZ k;exact ⟨1,rfl,.inl ⟨rfl,y,t.1,t.2⟩⟩
  ·rw [ab t] at k;cases k
def rL{g l:Bool}{dg:aa}{x q:Int}{m d:aa}{k0 k1 k2:Int}(e:dg.length<=100)(j:0<=k0)(o:0<=k1)(i:0<=k2):
  bJ 20000000 g l dg x q m d k0 k1 k2=some (chkF g l dg x q m d k0 k1 k2):=by
 unfold bJ chkF;rw[Et 20000000 (by omega) g l dg x q m d k0 k1 k2 e j o i];simp only[ob];by_cases hc:chkD g l dg x q m d k0 k1 k2=0
 ·obtain⟨a,t,p,n,c⟩:=sX hc;rw[hc];by_cases hd:d=[]
  ·subst hd;rw[ab (by simp)];rfl
  ·have b:q=0:=by
    have:=Up a;by_cases h:0<q
    ·exact absurd (n h) (c hd).1
    ·omega
   subst b;obtain⟨r,s,k⟩:=Mc a m d k0 k1 k2;rw[fH hd,s];rcases k with⟨rfl,f⟩ | ⟨rfl,f⟩
   ·rw[ab (λh=>h.2.2 f)];rfl
   ·rw[ae ⟨rfl,hd,f⟩];rfl
 ·rw[ab (λh=>hc h.1)];have:(chkD g l dg x q m d k0 k1 k2==0)=false:=aK.2 hc;rw[this];rfl
def vo{g l:Bool}{dg:aa}{x q:Int}{m d:aa}{k0 k1 k2:Int}(h:chkF g l dg x q m d k0 k1 k2=0):chkD g l dg x q m d k0 k1 k2=0:=by
 unfold chkF at h;split at h
 ·cases h
 ·exact h
def bne0{e:Int}(h:e≠0):(e != 0)=true:=by simp[h]
def MJ{m d:aa}{y:Int}{z:Int×Int×Int}:z∈wo m d y↔z.1=y/\z.2.1∈monI m/\z.2.2∈dayI d/\z.2.2<=wN d y z.2.1:=by
 unfold wo uy;simp only[List.mem_flatMap,ew,mW,ci];constructor
 ·rintro⟨f,b,k,⟨a,c⟩,rfl⟩;exact⟨rfl,b,a,c⟩
 ·rintro⟨e,b,a,c⟩;exact⟨z.2.1,b,z.2.2,⟨a,c⟩,by rw[<-e]⟩
def plN(P:Nat×Nat×Nat)(i:Nat):Nat:=if i=0 then P.1 else if i=1 then P.2.1 else P.2.2
def tN{g l:Bool}{dg:aa}{x q:Int}{m d:aa}{k0 k1 k2:Int}(a:allM k0 k1 k2 (mC m d)=0):chkF g l dg x q m d k0 k1 k2=0\/chkF g l dg x q m d k0 k1 k2=6\/chkF g l dg x q m d k0 k1 k2=7\/chkF g l dg x q m d k0 k1 k2=8:=by
 unfold chkF;split
 ·exact .inr (.inr (.inr rfl))
 ·exact I4 a
noncomputable def chkR(r:DR):Nat:=(chkF r.1 r.2.1 r.2.2.1 (r.2.2.2.1:Int) (r.2.2.2.2.1:Int) r.2.2.2.2.2.1 r.2.2.2.2.2.2.1 (r.2.2.2.2.2.2.2.1.1:Int) (r.2.2.2.2.2.2.2.1.2.1:Int) (r.2.2.2.2.2.2.2.1.2.2:Int)).toNat
noncomputable def ch(S:aa)(a:Nat):(Nat×Nat×Nat)⊕DR:=
 match oh S a with
 | .inl k=>.inl (k,5,k)
 | .inr r=>if chkR r=0 then .inr r else .inl (plN r.2.2.2.2.2.2.2.2.1 (chkR r - 6),chkR r,r.2.2.2.2.2.2.2.2.2)
def Us(S:aa):(Nat×Nat×Nat)⊕DR->(Int×Int×aa×Int)⊕(Bool×Bool×aa×Int×Int×aa×aa×Int×Int×Int×Int×aa×Int)
 | .inl (k,E,p)=>.inl ((k:Int),(E:Int),S,(p:Int))
 | .inr (g,l,dg,x,s,m,d,M,P,e)=>.inr (g,l,dg,(x:Int),(s:Int),m,d,(M.1:Int),(M.2.1:Int),(M.2.2:Int),(P.1:Int),S,(e:Int))
def DZ(S:aa)(a:Nat)(h:a<=S.length)(o:S.length<100000):gZ 20000000 S (a:Int)=some (Us S (ch S a)):=by
 have i:jm 20000000 S (a:Int)=_:=Pq 19999700 S a h o (by omega);unfold gZ ch;rw[i];cases hd:oh S a with
 | inl k=>rfl
 | inr r=>
  obtain⟨g,l,dg,x,s,f,d,M,P,e⟩:=r;have b:=Ar h hd;have j:=b.all;have p:=b.m2;have n:=b.dg17;simp only[ob,SV,d4,d8];rw[uM (g:=g) (l:=l) (x:=(x:Int)) (q:=(s:Int)) (d:=d) (show f.length<=18 by omega) (show dg.length<=100 by omega) (show(0:Int)<=(M.1:Int)by omega) (show(0:Int)<=(M.2.1:Int)by omega) (show(0:Int)<=(M.2.2:Int)by omega)];simp only[ob];have c:=tN (g:=g) (l:=l) (dg:=dg) (x:=(x:Int)) (q:=(s:Int)) (m:=f) (d:=d) (k0:=(M.1:Int)) (k1:=(M.2.1:Int)) (k2:=(M.2.2:Int)) (wb j);unfold chkR;simp only[];rcases c with hc | hc | hc | hc<;>rw[hc]<;>rfl
def dayY(y:Int):Int:=365*y+(1+(y - 1) / 4 - (y - 1) / 100+(y - 1) / 400)
def cumM(y:Int):Nat->Int
 | 0=>0
 | k+1=>cumM y k+lenI y ((k+1:Nat):Int)
def dayM(y:Int)(m:Nat):Int:=if m<=12 then dayY y+cumM y (m - 1)else dayY (y+1)+cumM (y+1) (m - 13)
def BV(y:Int):dayY (y+1)=dayY y+365+(if rE y then 1 else 0):=by
 unfold dayY rE;simp only[aB,ie,ci];split<;>omega
def ES(n:Int):dayY (400*n)=146097*n:=by
 unfold dayY;omega
def jN{y:Int}(h:-20000000000000000<=y/\y<=20000000000000000):-8000000000000000000<=dayY y/\dayY y<=8000000000000000000:=by
 unfold dayY;omega
def Vr(y:Int):cumM y 12=365+(if rE y then 1 else 0):=by
 have e:∀k:Nat,cumM y (k+1)=cumM y k+lenI y ((k+1:Nat):Int):=λ_=>rfl;have z:cumM y 0=0:=rfl;rw[e 11,e 10,e 9,e 8,e 7,e 6,e 5,e 4,e 3,e 2,e 1,e 0,z];unfold lenI;cases rE y<;>rfl
def pN(y:Int):∀k:Nat,0<=cumM y k/\cumM y k<=31*(k:Int)
 | 0=>by simp[cumM]
 | k+1=>by
  have b:=pN y k;have a:=kQ y ((k+1:Nat):Int);show 0<=cumM y k+lenI y ((k+1:Nat):Int)/\cumM y k+lenI y ((k+1:Nat):Int)<=_;omega
def nT{y:Int}(h:dJ y){m:Nat}(a:m<=24):-8100000000000000000<=dayM y m/\dayM y m<=8100000000000000000:=by
 unfold dJ at h;unfold dayM;split
 ·have:=pN y (m - 1);have:=jN (y:=y) (by omega);omega
 ·have:=pN (y+1) (m - 13);have:=jN (y:=y+1) (by omega);omega
def Pz(y:Int):dayM y 13=dayY (y+1):=by
 unfold dayM;rw[ab (by omega)];simp[cumM]
def LF(y:Int){m:Nat}(b:1<=m)(a:m<=12):dayM y (m+1)=dayM y m+lenI y (m:Int):=by
 obtain⟨k,rfl⟩:∃k,m=k+1:=⟨m - 1,by omega⟩;have e:dayM y (k+1)=dayY y+cumM y k:=by unfold dayM;rw[ae (by omega)];rfl
 rw[e];by_cases h:k+1=12
 ·obtain rfl:k=11:=by omega
  rw[Pz,BV];have:=Vr y;have e:cumM y 12=cumM y 11+lenI y ((11+1:Nat):Int):=rfl;omega
 ·have:dayM y (k+1+1)=dayY y+cumM y (k+1):=by unfold dayM;rw[ae (by omega)];rfl
  rw[this];show dayY y+(cumM y k+lenI y ((k+1:Nat):Int))=_;omega
def CV(y:Int){m:Nat}(b:1<=m)(a:m<=12):dayM y (m+12)=dayM (y+1) m:=by
 unfold dayM;rw[ab (by omega),ae a];congr 2
def ri(n:Nat){y:Int}(h:-10000000000000001<=y/\y<=10000000000000001):kN n y=some (dayY y):=by
 have a:=jN (y:=y) (by omega);unfold kN;rw[vK n (by omega),wrap_i64 (365*y) (by omega) (by omega)];show some (wrap .i64 (dayY y))=_;rw[wrap_i64 _ (by omega) (by omega)]
def rt(n:Nat){y:Int}(h:dJ y):kO n y=some (dayY y,0):=by
 unfold kO;have h':=h;unfold dJ at h';rw[fV,ae h,ri n (by omega)];rfl
def Cb(n:Nat){y:Int}(h:dJ y):sN n y=some (dayY (y+1) - 1,0):=by
 unfold sN;have h':=h;unfold dJ at h';have a:=jN (y:=y+1) (by omega);rw[fV,ae h,wrap_i64 (y+1) (by omega) (by omega),ri n (by omega)];show some (wrap .i64 (dayY (y+1) - 1),(0:Int))=_;rw[wrap_i64 _ (by omega) (by omega)]
def DK(n:Nat){y:Int}(h:dJ y){m:Nat}(d:m<=11):∀(r j:Nat),j+r=m->∀N,r<N->au (bA n) N (y,dayY y+cumM y j,(m:Int),(j:Int))=some (dayY y+cumM y m):=by
 have h':=h;unfold dJ at h';have e:=jN (y:=y) (by omega);intro r
 induction r with
 | zero=>
  intro j a N b;obtain⟨N,rfl⟩:∃k,N=k+1:=⟨N - 1,by omega⟩;obtain rfl:j=m:=by omega
  have:bA n (y,dayY y+cumM y j,(j:Int),(j:Int))=some (.inr (dayY y+cumM y j)):=by
   unfold bA;rw[bB,ab (show¬((j:Int)<(j:Int))by omega)]
  rw[au,this]
 | succ r ih=>
  intro j a N b;obtain⟨N,rfl⟩:∃k,N=k+1:=⟨N - 1,by omega⟩;have w:wrap .i64 ((j:Int)+1)=((j+1:Nat):Int):=by rw[wrap_i64 _ (by omega) (by omega)];omega
  have hc:=pN y j;have c:=kQ y ((j+1:Nat):Int);have:bA n (y,dayY y+cumM y j,(m:Int),(j:Int))=some (.inl (y,dayY y+cumM y (j+1),(m:Int),((j+1:Nat):Int))):=by
   unfold bA;rw[bB,ae (show((j:Int)<(m:Int))by omega)];simp only[w,ww n h (show 1<=j+1 by omega) (show j+1<=12 by omega),ob];rw[wrap_i64 (dayY y+cumM y j+lenI y ((j+1:Nat):Int)) (by omega) (by omega),Int.add_assoc];rfl
  rw[au,this];exact ih (j+1) (by omega) N (by omega)
def sY(n:Nat)(c:100<n){y:Int}(h:dJ y){m:Nat}(b:1<=m)(a:m<=12):fc n y (m:Int)=some (dayM y m,0):=by
 unfold fc;have w:wrap .i64 ((m:Int) - 1)=((m - 1:Nat):Int):=by rw[wrap_i64 _ (by omega) (by omega)];omega
 rw[FX n h b a,rt n h,w];have:=DK n h (m:=m - 1) (by omega) (m - 1) 0 (by omega) n (by omega);rw[show dayY y+cumM y 0=dayY y by simp[cumM]]at this;show ob (au (bA n) n (y,dayY y,((m - 1:Nat):Int),((0:Nat):Int))) _=_;rw[this];unfold dayM;rw[ae a];rfl
def C7(n:Nat)(c:100<n){y:Int}(h:dJ y){m:Nat}(b:1<=m)(a:m<=12):gB n y (m:Int)=some (dayM y (m+1) - 1,0):=by
 unfold gB;have e:=nT h (m:=m) (by omega);have d:=kQ y (m:Int);rw[sY n c h b a,ww n h b a,LF y b a];show some (wrap .i64 (wrap .i64 (dayM y m+lenI y (m:Int)) - 1),(0:Int))=_;rw[wrap_i64 (dayM y m+lenI y (m:Int)) (by omega) (by omega),wrap_i64 _ (by omega) (by omega)]
def G3(n:Nat)(d:100<n){y:Int}(h:dJ y){j m c:Nat}(i:j<21)(e:m9[j]?=some ((m:Int),(c:Int)))(g:1<=m)(f:m<=12)(o:1<=c)(k:c<=6)(hy:12<m+c - 1->y≠10000000000000000):
  gS n y ((21+j:Nat):Int)=some (0,dayM y m,0,dayM y (m+c) - 1,0):=by
 have l:fb n ((21+j:Nat):Int)=some ((m:Int),(c:Int),0):=by
  unfold fb dn;rw[bB,bB,ab (by omega),ab (by omega)];have:wrap .i64 (((21+j:Nat):Int) - 21)=(j:Int):=by rw[wrap_i64 _ (by omega) (by omega)];omega
  rw[this,eZ i];show ob (m9[j]?) _=_;rw[e];rfl
 unfold gS;rw[l];simp only[ob,dX,af];rw[sY n d h g f];simp only[ob,dX,af];rw[madd n h g f o k];have h':=h;unfold dJ at h';by_cases a:12<m+c - 1
 ·rw[ae a,ab (hy a)];have b:dJ (y+1):=by unfold dJ;have:=hy a;omega
  simp only[ob,dX,af];rw[C7 n d b (m:=m+c - 1 - 12) (by omega) (by omega)];have:=CV y (m:=m+c - 1 - 12+1) (by omega) (by omega);rw[show m+c - 1 - 12+1+12=m+c by omega]at this;rw[this]
 ·rw[ab a];simp only[ob,dX,af];rw[C7 n d h (m:=m+c - 1) (by omega) (by omega),show m+c - 1+1=m+c by omega]
def yp(n:Nat){y:Int}(hy:-10000000000000002<=y/\y<=10000000000000002):∀(r:Nat) (z:Int),z+(r:Int)=y->-10000000000000402<=z->∀N,r<N->au (cH n) N (y,dayY z,z)=some (dayY y):=by
 intro r
 induction r with
 | zero=>
  intro z e b N d;obtain⟨N,rfl⟩:∃k,N=k+1:=⟨N - 1,by omega⟩;obtain rfl:z=y:=by omega
  have:cH n (z,dayY z,z)=some (.inr (dayY z)):=by
   unfold cH;rw[bB,ab (show¬(z<z)by omega)]
  rw[au,this]
 | succ r ih=>
  intro z e b N d;obtain⟨N,rfl⟩:∃k,N=k+1:=⟨N - 1,by omega⟩;have f:=jN (y:=z) (by omega);have a:=BV z;have:cH n (y,dayY z,z)=some (.inl (y,dayY (z+1),z+1)):=by
   unfold cH;rw[bB,ae (show z<y by omega),zU];have c:lenI z 2=if rE z then 29 else 28:=rfl
   simp only[ob,c];rw[wrap_i64 (dayY z+365) (by omega) (by omega),wrap_i64 (dayY z+365+1) (by omega) (by omega),wrap_i64 (z+1) (by omega) (by omega),a];cases rE z
   ·simp
   ·rfl
  rw[au,this];exact ih (z+1) (by omega) (by omega) N (by omega)
def qE(n:Nat)(d:1000<n){y:Int}(hy:-10000000000000002<=y/\y<=10000000000000002):bS n y=some (dayY y):=by
 have hd:=Int.mul_tdiv_add_tmod y 400;have c:Int.tmod y 400=if 0<=y then y%400 else -((-y)%400):=by
  by_cases h:0<=y
  ·rw[ae h,KD h]
  ·rw[ab h,<-KD (show 0<=-y by omega),Int.neg_tmod,Int.neg_neg]
 unfold bS;by_cases a:Int.tmod y 400<0
 ·rw[aq a];have b:Int.tdiv y 400 - 1=y / 400:=by
   rw[c]at a hd;split at a
   ·omega
   ·rw[ab (by assumption)]at hd;omega
  rw[wrap_i64 (Int.tdiv y 400) (by omega) (by omega),b,wrap_i64 (y / 400) (by omega) (by omega),wrap_i64 (y / 400*146097) (by omega) (by omega),wrap_i64 (y / 400*400) (by omega) (by omega)];have:=yp n hy (y - y / 400*400).toNat (y / 400*400) (by omega) (by omega) n (by omega);rw[show dayY (y / 400*400)=y / 400*146097 by rw[yk,ES,yk]]at this;simp only[aj,this,ob]
 ·rw[am a];have b:Int.tdiv y 400=y / 400:=by
   rw[c]at a hd;split at a
   ·rw[ae (by assumption)]at hd;omega
   ·rw[ab (by assumption)]at hd;omega
  rw[b,wrap_i64 (y / 400) (by omega) (by omega),wrap_i64 (y / 400*146097) (by omega) (by omega),wrap_i64 (y / 400*400) (by omega) (by omega)];have:=yp n hy (y - y / 400*400).toNat (y / 400*400) (by omega) (by omega) n (by omega);rw[show dayY (y / 400*400)=y / 400*146097 by rw[yk,ES,yk]]at this;simp only[af,this,ob]
def wa{step:Int×Int×Int×Int->Option ((Int×Int×Int×Int)⊕Int)}(n:Nat)
  (hs:step=λx=>(cond (decide (x.2.2.2<x.2.1)) (ob (dS n x.1 x.2.2.2) λr=>(some (.inl (x.1,x.2.1,(wrap .i64 (x.2.2.1+r)),(wrap .i64 (x.2.2.2+1)))))) (some (.inr x.2.2.1))))
  {y:Int} (hy:-10000000000000002<=y/\y<=10000000000000002) {m:Nat} (h:1<=m) (c:m<=12) {N:Nat} (a:20<N):au step N (y,(m:Int),dayY y,1)=some (dayM y m):=by
 have g:=jN (y:=y) (by omega);have d:∀(r j:Nat),j+1+r=m->∀N,r<N->au step N (y,(m:Int),dayY y+cumM y j,((j+1:Nat):Int))=some (dayY y+cumM y (m - 1)):=by
  intro r
  induction r with
  | zero=>
   intro j b N a;obtain⟨N,rfl⟩:∃k,N=k+1:=⟨N - 1,by omega⟩;obtain rfl:j+1=m:=by omega
   have:step (y,((j+1:Nat):Int),dayY y+cumM y j,((j+1:Nat):Int))=some (.inr (dayY y+cumM y j)):=by
    rw[hs];simp only[];rw[am (show¬(((j+1:Nat):Int)<((j+1:Nat):Int))by omega)];rfl
   rw[au,this];rfl
  | succ r ih=>
   intro j b N a;obtain⟨N,rfl⟩:∃k,N=k+1:=⟨N - 1,by omega⟩;have w:wrap .i64 (((j+1:Nat):Int)+1)=((j+1+1:Nat):Int):=by rw[wrap_i64 _ (by omega) (by omega)];omega
   have hc:=pN y j;have f:=kQ y ((j+1:Nat):Int);have:step (y,(m:Int),dayY y+cumM y j,((j+1:Nat):Int))=some (.inl (y,(m:Int),dayY y+cumM y (j+1),((j+1+1:Nat):Int))):=by
    rw[hs];simp only[];rw[aq (show(((j+1:Nat):Int)<(m:Int))by omega),zU];simp only[aj,ob,w];rw[wrap_i64 (dayY y+cumM y j+lenI y ((j+1:Nat):Int)) (by omega) (by omega),Int.add_assoc];rfl
   rw[au,this];exact ih (j+1) (by omega) N (by omega)
 have:=d (m - 1) 0 (by omega) N (by omega);rw[show dayY y+cumM y 0=dayY y by simp[cumM]]at this;have e:dayM y m=dayY y+cumM y (m - 1):=by unfold dayM;rw[ae c]
 rw[e];exact this
def qf(n:Nat)(a:1000<n){y:Int}(hy:-10000000000000001<=y/\y<=10000000000000001){m:Nat}(c:1<=m)(b:m<=24):aO n y (m:Int)=some (dayM y m):=by
 unfold aO;by_cases h:12<m
 ·rw[aq (show(m:Int)>12 by omega),wrap_i64 (y+1) (by omega) (by omega),wrap_i64 ((m:Int) - 12) (by omega) (by omega),show(m:Int) - 12=((m - 12:Nat):Int)by omega];unfold jK;rw[am (show¬((m - 12:Nat):Int)>12 by omega),qE n a (by omega)];simp only[aj,af,ob];have:=wa (step:=iu n) n rfl (y:=y+1) (by omega) (m:=m - 12) (by omega) (by omega) (N:=n) (by omega);rw[this,<-CV y (by omega) (by omega),show m - 12+12=m by omega]
 ·rw[am (show¬(m:Int)>12 by omega),qE n a (by omega)];simp only[af,ob];have:=wa (step:=jJ n) n rfl (y:=y) (by omega) (m:=m) (by omega) (by omega) (N:=n) (by omega);rw[this]
def twoV(s:aa):Nat:=match s with
 | [a,b]=>10*(a.toNat - 48)+(b.toNat - 48)
 | _=>0
def yOf(g:Bool)(dg:aa)(x:Int):Int:=if g then -((val dg x.toNat:Nat):Int)else((val dg x.toNat:Nat):Int)
def spF(m:aa):Nat:=((m9.getD (sea m - 21).toNat (0,0)).1).toNat
def spC(m:aa):Nat:=((m9.getD (sea m - 21).toNat (0,0)).2).toNat
def oH(g:Bool)(dg:aa)(x:Int)(m d:aa):Int×Int:=
 if m=[]then(dayY (yOf g dg x),dayY (yOf g dg x+1) - 1)
 else if 0<sea m then(dayM (yOf g dg x) (spF m),dayM (yOf g dg x) (spF m+spC m) - 1)
 else if d=[]then(dayM (yOf g dg x) (twoV m),dayM (yOf g dg x) (twoV m+1) - 1)
 else(dayM (yOf g dg x) (twoV m)+(twoV d:Int) - 1,dayM (yOf g dg x) (twoV m)+(twoV d:Int) - 1)
def exD(dg m d:aa)(q:Int):Bool:=!(hasX dg||(hasX m||hasX d))&&(q==0)
def OI{s:aa}(h:hasX s=false){c:UInt8}(hc:c∈s):c≠88:=by
 rintro rfl;unfold hasX at h;rw[rc]at h;exact h 88 hc (by decide)
def KG{s:aa}(h:hasX s=false){k:Nat}(l:k<100)(c:agr s k=true):twoV s=k/\s=two k:=by
 unfold agr at c;split at c
 ·rename_i a b;have f:a≠88:=OI h (by simp);have d:b≠88:=OI h (by simp);simp only[aB,ie,bv]at c;obtain⟨g,e⟩:=c;have g:=g.resolve_left f;have e:=e.resolve_left d;subst g e;refine⟨?_,rfl⟩;unfold twoV;have j:(UInt8.ofNat (48+k / 10)).toNat=48+k / 10:=by simp;omega
  have i:(UInt8.ofNat (48+k%10)).toNat=48+k%10:=by simp;omega
  simp only[j,i];omega
 ·cases c
def yL{s:aa}(h:hasX s=false){g:Nat}(d:g<100)(a:gK s g=true):1<=twoV s/\twoV s<=g/\s=two (twoV s):=by
 unfold gK at a;obtain⟨i,hi,a⟩:=sS.1 a;have:=kx.1 hi;obtain⟨b,c⟩:=KG h (by omega) a;rw[b];exact⟨by omega,by omega,c⟩
def Jp{s:aa}(h:hasX s=false){g:Nat}(d:g<100){k:Int}(b:k∈sc (fitN s g)):k=(twoV s:Int):=by
 obtain⟨i,hi,rfl⟩:=ew.1 b;obtain⟨c,a⟩:=mW.1 hi;have:=zV.1 c;rw[(KG h (by omega) a).1]
def EV{k:Nat}(c:k<100):Lib.atoi (two k)=some (k:Int):=by
 have b:(UInt8.ofNat (48+k / 10)).toNat=48+k / 10:=by simp;omega
 have a:(UInt8.ofNat (48+k%10)).toNat=48+k%10:=by simp;omega
 unfold two;rw[FZ (by omega) (by omega),b,a];congr 2;omega
def yd(n:Nat){k:Nat}(d:k<100):aU n (two k)=some (k:Int):=by
 have c:(UInt8.ofNat (48+k / 10)).toNat=48+k / 10:=by simp;omega
 have b:(UInt8.ofNat (48+k%10)).toNat=48+k%10:=by simp;omega
 have s0:sx (two k) 0=some (UInt8.ofNat (48+k / 10)):=rfl;have a:sx (two k) 1=some (UInt8.ofNat (48+k%10)):=rfl;unfold aU;rw[s0,a];simp only[ob,c,b]
 rw[jI (((48+k / 10:Nat):Int) - 48) (by omega) (by omega),jI (((48+k%10:Nat):Int) - 48) (by omega) (by omega),
  wrap_i64 (((48+k / 10:Nat):Int) - 48) (by omega) (by omega),wrap_i64 (((48+k%10:Nat):Int) - 48) (by omega) (by omega),
  wrap_i64 (10*(((48+k / 10:Nat):Int) - 48)) (by omega) (by omega),wrap_i64 _ (by omega) (by omega)]
 congr 1;omega
structure Exact(g l:Bool)(dg:aa)(x:Int)(m d:aa):Prop where
 ok:okY g l dg x 0
 num:hasX dg=false
 cal:dJ (yOf g dg x)
 mon:m=[]\/(∃j,j<21/\m=two (21+j)/\(j=3\/j=7\/j=9->yOf g dg x≠10000000000000000))\/(sea m=0/\1<=twoV m/\twoV m<=12/\m=two (twoV m))
 day:d=[]\/(m≠[]/\sea m=0/\1<=twoV d/\twoV d<=31/\d=two (twoV d)/\(twoV d:Int)<=lenI (yOf g dg x) (twoV m:Int))
def vf{g l:Bool}{dg:aa}{x q:Int}{m d:aa}{k0 k1 k2:Int}(hc:chkF g l dg x q m d k0 k1 k2=0)(i:exD dg m d q=true):q=0/\Exact g l dg x m d:=by
 unfold exD at i;simp only[aB,kC,nL,bv]at i;obtain⟨⟨A,p,f⟩,rfl⟩:=i;refine⟨rfl,?_⟩;have v:=vo hc;obtain⟨a,N,I,O,D⟩:=sX v;obtain⟨c,H,c3,P⟩:=KW v;have r:=EE a A;obtain⟨F,_,_⟩:=KO a;have hy:inP g dg x 0 (yOf g dg x):=by
  have:=(r _).1 F;have e:yOf g dg x=(sgn g (oG g dg x 0)).1:=by rw[this];rfl
  rw[e];exact F
 have k:=zh hy;refine⟨a,A,k,?_,?_⟩
 ·by_cases o:m=[]
  ·exact .inl o
  ·right;rcases n9 m with G | ⟨j,E,e⟩
   ·right;rcases H with h | h | h
    ·exact absurd h o
    ·omega
    ·obtain⟨a1,a2,w⟩:=yL p (by omega) h;exact⟨G,a1,a2,w⟩
   ·left;refine⟨j,E,e,λM=>?_⟩;unfold yrD at c;rw[ae a]at c;unfold yrB at c;simp only[aB,kC]at c;have C:wint (sea m)=true:=by
     rw[e,kW E];rcases M with rfl | rfl | rfl<;>rfl
    have n:=c.2;rw[C,m8]at n;unfold tC at n;rw[A]at n;intro b;unfold yOf at b;cases g with
    | true=>
     simp only[aH]at b;omega
    | false=>
     simp only[bs,aC]at b;have:val dg x.toNat=E16:=by unfold E16;omega
     rw[aq this]at n;cases n
 ·by_cases hd:d=[]
  ·exact .inl hd
  ·right;obtain⟨o,hs⟩:=D hd;rcases c3 with h | ⟨_,_,h⟩
   ·exact absurd h hd
   ·obtain⟨a1,a2,w⟩:=yL f (by omega) h;refine⟨o,hs,a1,a2,w,?_⟩;have J:hasF g dg x m d:=by
     unfold chkF at hc;split at hc
     ·cases hc
     ·rename_i K;by_cases h:hasF g dg x m d
      ·exact h
      ·exact absurd ⟨v,hd,h⟩ K
    obtain⟨e,i,y⟩:=J;obtain⟨z,L,t⟩:=List.exists_cons_of_ne_nil y;have t:z∈wo m d e:=by rw[t];exact rU
    obtain⟨z1,z2,B,s⟩:=MJ.1 t;have u:e=yOf g dg x:=(r e).1 i;unfold monI at z2;rw[ab o,ab (by omega)]at z2;unfold dayI at B;rw[ab hd]at B;unfold wN at s;rw[ab hd,Jp f (by omega) B,Jp p (by omega) z2,u]at s;exact s
def J8{j:Nat}(a:j<21):∃f c:Nat,m9[j]?=some ((f:Int),(c:Int))/\1<=f/\f<=12/\1<=c/\c<=6/\(12<f+c - 1↔j=3\/j=7\/j=9)/\spF (two (21+j))=f/\spC (two (21+j))=c:=by
 obtain⟨f,c,e,i,d,k,h,g⟩:=EN a;have hs:(sea (two (21+j)) - 21).toNat=j:=by rw[kW a];omega
 have b:m9.getD j (0,0)=((f:Int),(c:Int)):=by rw[yI,e];rfl
 refine⟨f,c,e,i,d,k,h,g,?_,?_⟩
 ·unfold spF;rw[hs,b];rfl
 ·unfold spC;rw[hs,b];rfl
def Ce(n:Nat){j:Nat}(a:j<21):gF n ((21+j:Nat):Int)=m9[j]?:=by
 have:j=0\/j=1\/j=2\/j=3\/j=4\/j=5\/j=6\/j=7\/j=8\/j=9\/j=10\/j=11\/j=12\/j=13\/j=14\/j=15\/j=16\/j=17\/j=18\/j=19\/j=20:=by omega
 rcases this with rfl | rfl | rfl | rfl | rfl | rfl | rfl | rfl | rfl | rfl | rfl | rfl | rfl | rfl | rfl | rfl | rfl | rfl | rfl | rfl | rfl<;>rfl
def FC(n:Nat)(g l:Bool)(dg:aa)(x q:Int)(m d:aa)(k0 k1 k2:Int)(a:m.length<=1000)(hd:dg.length<=1000)(h:d.length<=1000):lB n g l dg x q m d k0 k1 k2=some (exD dg m d q):=by
 unfold lB exD;rw[B8 n g l dg x q m d k0 k1 k2 a hd h];simp only[ob];cases(hasX dg||(hasX m||hasX d))<;>rfl
def OT{Y:Type}(a b:Y):∀s:aa,((s.findSome? λc=>if c=88 then some a else none).getD b)=if hasX s then a else b
 | []=>rfl
 | c::s=>by
  have ih:=OT a b s;unfold hasX at ih ⊢;rw[C0,qx];by_cases hc:c=88
  ·subst hc;rfl
  ·rw[ab hc];have e:(c==88)=false:=aK.2 hc;rw[e,od];exact ih
def xJ (n:Nat) (s:aa) (g l:Bool) (dg:aa) (x q:Int) (m d:aa) (k0 k1 k2:Int) (hs:s.length<=100000) {N:Nat} (j:s.length<N):
  au (dM n) N (s,0,g,l,dg,x,q,m,d,k0,k1,k2)=some (if hasX s then .inl 0 else .inr (g,l,dg,x,q,m,d,k0,k1,k2)):=by
 have:=tg (step:=dM n) (f:=λi=>(s,(i:Int),g,l,dg,x,q,m,d,k0,k1,k2)) (L:=s) (G:=λc=>if c=88 then some (.inl 0) else none) (e:=.inr (g,l,dg,x,q,m,d,k0,k1,k2))
  (λi c hi=>by
   have b:=(rj.1 hi).1;have a:wrap .i64 ((i:Int)+1)=((i+1:Nat):Int):=by rw [wrap_i64 _ (by omega) (by omega)];omega
   unfold dM;simp only [d4,d8,a];rw [aq (show (i:Int)<((s.length:Nat):Int) by omega),dw hi];simp only [aj,ob];by_cases hc:c=88
   ·subst hc;rw [ae rfl];rfl
   ·rw [ab hc];have:(((c.toNat:Nat):Int)==88)=false:=by
     rw [aK];intro h;apply hc;apply ga.1;have:c.toNat=88:=by omega
     rw [this];rfl
    rw [this];rfl)
  (by
   unfold dM;simp only [d4,d8];rw [am (show ¬((s.length:Nat):Int)<((s.length:Nat):Int) by omega)];rfl)
  j
 rw [show ((0:Nat):Int)=0 from rfl] at this;rw [this];rw [OT]
def Br(n:Nat)(g l:Bool)(dg:aa)(x q:Int)(m d:aa)(k0 k1 k2:Int)(e:m.length<=1000)(hd:dg.length<=1000)(h:d.length<=1000)(f:4000<n):aL n g l dg x q m d k0 k1 k2=some (if exD dg m d q then 1 else 0):=by
 unfold aL;rw[nV (by omega)];simp only[ob];rw[nV (by rw[bW];omega)];simp only[];rw[xJ n _ _ _ _ _ _ _ _ _ _ _ (by simp only[bW];omega) (by simp only[bW];omega)];rw[uX,uX];unfold exD;cases hasX dg<;>cases hasX m<;>cases hasX d<;>(try rfl);simp only[wy,bs,aC,ob,d4,gJ,m8];by_cases a:q=0
 ·subst a;rfl
 ·have c:(q != 0)=true:=by simp[a]
  have b:(q==0)=false:=aK.2 a;rw[c,b];rfl
def Qx(n:Nat)(c:100<n){y:Int}(h:dJ y){m k:Nat}(b:1<=m)(a:m<=12)(k1:1<=k)(k2:(k:Int)<=lenI y (m:Int)):qN n y (m:Int) (k:Int)=some (dayM y m+(k:Int) - 1,0):=by
 have e:=nT h (m:=m) (by omega);have d:=kQ y (m:Int);unfold qN qj;rw[Ji n h b a];simp only[ob,dX,af];rw[am (show¬(k:Int)<1 by omega),am (show¬(k:Int)>lenI y (m:Int)by omega),sY n c h b a];simp only[ob,dX,af];rw[wrap_i64 (dayM y m+(k:Int)) (by omega) (by omega),wrap_i64 _ (by omega) (by omega)]
section
variable {g l:Bool} {dg:List UInt8} {x:Int} {m d:List UInt8} {k0 k1 k2:Int}
def En (n:Nat) (t:100<n) (v:m.length<=18) (E:Exact g l dg x m d) (p r:Int) (w:m≠[]->p=if 0<sea m then sea m else (twoV m:Int)) (M:d≠[]->r=(twoV d:Int)):
  (ob (iG n) λu=>(ob (ba n g l dg x 0 m d k0 k1 k2) λo=>(cond (o==0) (ob (fS n (yOf g dg x) ([p,r]:List (Int))) λi=>(some (i.1,i.2.1,i.2.2.1,i.2.2.2,(0:Int)))) (cond (o==1) (ob (fY n (yOf g dg x) ([p,r]:List (Int))) λa=>(some (a.1,a.2.1,a.2.2.1,a.2.2.2,0))) (cond (o==2) (ob (gi n (yOf g dg x) ([p,r]:List (Int))) λb=>(some (b.1,b.2.1,b.2.2.1,b.2.2.2,0))) (cond (o==3) (ob (fX n (yOf g dg x) ([p,r]:List (Int))) λk=>(some (k.1,k.2.1,k.2.2.1,k.2.2.2,0))) none)))))) =
   some (0,(oH g dg x m d).1,0,(oH g dg x m d).2,0):=by
 have I:iG n=some ():=rfl;have A:ix ([p,r]:List Int).length 0=some 0:=rfl;have O:ix ([p,r]:List Int).length 1=some 1:=rfl;have g0:([p,r]:List Int)[0]?=some p:=rfl;have L:([p,r]:List Int)[1]?=some r:=rfl;rw [I,Jr n g l dg x 0 m d k0 k1 k2 v];unfold oH;by_cases hd:d=[]
 ·rw [ae hd];by_cases q:m=[]
  ·have hs:sea m=0:=by rw [q];decide
   rw [ab (show ¬0<sea m by omega),ae q,ae q];unfold fY;rw [rt n E.cal,Cb n E.cal];rfl
  ·rw [ab q];by_cases hs:0<sea m
   ·rw [ae hs,ae hs];rcases E.mon with h | ⟨j,s,e,B⟩ | ⟨h,_⟩
    ·exact absurd h q
    ·obtain ⟨f,c,H,a1,a2,K,N,F,J,D⟩:=J8 s;have C:p=((21+j:Nat):Int):=by rw [w q,ae hs,e,kW s]
     unfold fS;rw [A];simp only [ob,g0];rw [C,G3 n t E.cal s H a1 a2 K N (λh=>B (F.1 h)),e,J,D];rfl
    ·omega
   ·rw [ab hs,ab hs,ab q,ae hd];rcases E.mon with h | ⟨j,s,e,B⟩ | ⟨_,a1,a2,_⟩
    ·exact absurd h q
    ·rw [e,kW s] at hs;omega
    ·have C:p=(twoV m:Int):=by rw [w q,ab hs]
     unfold gi;rw [A];simp only [ob,g0];rw [C,sY n t E.cal a1 a2,C7 n t E.cal a1 a2];rfl
 ·rw [ab hd];rcases E.day with h | ⟨q,hs,b1,b2,P,G⟩
  ·exact absurd h hd
  ·rw [ab q,ab (show ¬0<sea m by omega),ab hd];rcases E.mon with h | ⟨j,s,e,B⟩ | ⟨_,a1,a2,_⟩
   ·exact absurd h q
   ·rw [e,kW s] at hs;omega
   ·have y:p=(twoV m:Int):=by rw [w q,ab (by omega)]
    have z:=M hd;unfold fX;rw [A,O];simp only [ob,g0,L];rw [y,z,Qx n t E.cal a1 a2 b1 G];rfl
def Ny(E:Exact g l dg x m d)(c:m≠[]):Lib.atoi m=some (if 0<sea m then sea m else(twoV m:Int)):=by
 rcases E.mon with h | ⟨j,a,e,_⟩ | ⟨f,a1,a2,b⟩
 ·exact absurd h c
 ·rw[e,kW a,ae (by omega)];exact vj a
 ·rw[ab (by omega)];have:=EV (k:=twoV m) (by omega);rw[<-b]at this;exact this
def Oa(E:Exact g l dg x m d)(hd:d≠[]):Lib.atoi d=some (twoV d:Int):=by
 rcases E.day with h | ⟨_,_,a1,a2,a,_⟩
 ·exact absurd h hd
 ·have:=EV (k:=twoV d) (by omega);rw[<-a]at this;exact this
def zx:Lib.atoi []=none:=by kernel_rfl
def DL{q:Int}(b:m.length<=18)(e:dg.length<=100)(hd:d.length<=18)(n:0<=k0)(r:0<=k1)(k:0<=k2):
  fR 20000000 g l dg x q m d k0 k1 k2=some (if chkF g l dg x q m d k0 k1 k2=0 then(if exD dg m d q=true then(0,(oH g dg x m d).1,0,(oH g dg x m d).2,0)else(0,0,0,0,1))else(0,0,0,0,chkF g l dg x q m d k0 k1 k2)):=by
 have o:Nat.ble m.length 18=true:=dF b;have p:Nat.ble d.length 18=true:=dF hd;unfold fR;rw[uM b e n r k];simp only[ob];by_cases hc:chkF g l dg x q m d k0 k1 k2=0
 ·rw[ae hc,hc,FC 20000000 g l dg x q m d k0 k1 k2 (by omega) (by omega) (by omega)];simp only[ob,dX,af];by_cases c:exD dg m d q=true
  ·rw[ae c,c];obtain⟨rfl,E⟩:=vf hc c;have s:dZ 20000000 g l dg x 0=some (yOf g dg x,0):=by
    rw[yX 20000000 g l dg x 0 (by omega) e,ae ⟨E.ok,E.num⟩];rfl
   rw[s,o,p];simp only[bV,af,aj,ob];by_cases f:m=[]
   ·have a:d=[]:=by
     rcases E.day with h | ⟨h,_⟩
     ·exact h
     ·exact absurd f h
    have:=En (k0:=k0) (k1:=k1) (k2:=k2) 20000000 (by omega) b E 0 0 (λh=>absurd f h) (λh=>absurd a h);have i:Lib.atoi m=none:=by rw[f];exact zx
    have j:Lib.atoi d=none:=by rw[a];exact zx
    rw[i,j];simp only[opt];exact this
   ·have i:=Ny E f;by_cases a:d=[]
    ·have:=En (k0:=k0) (k1:=k1) (k2:=k2) 20000000 (by omega) b E (if 0<sea m then sea m else(twoV m:Int)) 0 (λ_=>rfl) (λh=>absurd a h);have j:Lib.atoi d=none:=by rw[a];exact zx
     rw[i,j];simp only[opt];exact this
    ·have:=En (k0:=k0) (k1:=k1) (k2:=k2) 20000000 (by omega) b E (if 0<sea m then sea m else(twoV m:Int)) (twoV d:Int) (λ_=>rfl) (λ_=>rfl);rw[i,Oa E a];simp only[opt];exact this
  ·rw[ab c];rw[GE]at c;rw[c];rfl
 ·rw[ab hc,bne0 hc];rfl
def tY(E:Exact g l dg x m d)(K:dg.length<=100):bf 20000000 g l dg x 0 m d k0 k1 k2=some (oH g dg x m d):=by
 obtain⟨k,q,rfl,X,H⟩:=sA E.ok E.num;have Y:k<=17:=by have:=H.wide;omega
 have hs:=H.small;have F:ak 20000000 dg (k:Int)=some (((val dg k:Nat):Int),1):=by
  rw[iW 20000000 dg k H.dig K (by omega) (by omega),ae H.small];rfl
 have T:dval 0 dg*10 ^ k=val dg k:=rfl;rw[T]at hs;unfold E16 at hs;have hy:yOf g dg (k:Int)=if g then -((val dg k:Nat):Int)else((val dg k:Nat):Int):=by unfold yOf;rw[bT]
 have D:=E.cal;unfold dJ at D;have key:∀y:Int,y=yOf g dg (k:Int)->
   (ob (aN 20000000 g l dg (k:Int) 0 m d k0 k1 k2) λb=>(cond (m==([]:aa)) (ob (bS 20000000 y) λz=>(ob (bS 20000000 (wrap .i64 (y+1))) λu=>(some (z,(wrap .i64 (u - 1)))))) (cond (decide (b>0)) (ob (gF 20000000 b) λa=>(ob (aO 20000000 y a.1) λv=>(ob (aO 20000000 y (wrap .i64 (a.1+a.2))) λt=>(some (v,(wrap .i64 (t - 1))))))) (cond (d==([]:aa)) (ob (aU 20000000 m) λA=>(ob (aO 20000000 y A) λo=>(ob (aU 20000000 m) λp=>(ob (aO 20000000 y (wrap .i64 (p+1))) λs=>(some (o,(wrap .i64 (s - 1)))))))) (ob (aU 20000000 m) λr=>(ob (aO 20000000 y r) λn=>(ob (aU 20000000 d) λi=>(some ((wrap .i64 ((wrap .i64 (n+i)) - 1)),(wrap .i64 ((wrap .i64 (n+i)) - 1)))))))))) )=some (oH g dg (k:Int) m d):=by
  intro y I;subst I;have hcal':=E.cal;have W:=jN (y:=yOf g dg (k:Int)+1) (by omega);rw[nZ 20000000 (by omega)];simp only[ob];unfold oH;by_cases B:m=[]
  ·have e:(m==([]:aa))=true:=by rw[B];rfl
   rw[ae B,e,qE 20000000 (by omega) (by omega),wrap_i64 (yOf g dg (k:Int)+1) (by omega) (by omega),qE 20000000 (by omega) (by omega)];simp only[aj,ob];rw[wrap_i64 _ (by omega) (by omega)]
  ·rw[ab B,fH B];simp only[af];by_cases hs:0<sea m
   ·rw[ae hs,aq (show sea m>0 from hs)];rcases E.mon with h | ⟨j,C,e,_⟩ | ⟨h,_⟩
    ·exact absurd h B
    ·obtain⟨f,c,P,a1,a2,M,Z,U,Q,N⟩:=J8 C;have L:sea m=((21+j:Nat):Int):=by rw[e,kW C]
     have O:=nT hcal' (m:=f+c) (by omega);rw[L,Ce 20000000 C,P];simp only[aj,ob];rw[qf 20000000 (by omega) (by omega) a1 (by omega)];simp only[ob];rw[wrap_i64 ((f:Int)+(c:Int)) (by omega) (by omega),show(f:Int)+(c:Int)=((f+c:Nat):Int)by omega,qf 20000000 (by omega) (by omega) (by omega) (by omega)];simp only[ob];rw[wrap_i64 _ (by omega) (by omega),e,Q,N]
    ·omega
   ·rw[ab hs,am (show¬sea m>0 from hs)];simp only[af];rcases E.mon with h | ⟨j,C,e,_⟩ | ⟨_,a1,a2,M⟩
    ·exact absurd h B
    ·rw[e,kW C]at hs;omega
    ·have J:=yd 20000000 (k:=twoV m) (by omega);rw[<-M]at J;have O:=nT hcal' (m:=twoV m) (by omega);have R:=nT hcal' (m:=twoV m+1) (by omega);by_cases hd:d=[]
     ·have e:(d==([]:aa))=true:=by rw[hd];rfl
      rw[ae hd,e,J];simp only[aj,ob];rw[qf 20000000 (by omega) (by omega) a1 (by omega)];simp only[ob];rw[wrap_i64 ((twoV m:Int)+1) (by omega) (by omega),show(twoV m:Int)+1=((twoV m+1:Nat):Int)by omega,qf 20000000 (by omega) (by omega) (by omega) (by omega)];simp only[ob];rw[wrap_i64 _ (by omega) (by omega)]
     ·rw[ab hd,fH hd];rcases E.day with h | ⟨_,_,b1,b2,S,V⟩
      ·exact absurd h hd
      ·have G:=yd 20000000 (k:=twoV d) (by omega);rw[<-S]at G;rw[J];simp only[af,ob];rw[qf 20000000 (by omega) (by omega) a1 (by omega),G];simp only[ob];rw[wrap_i64 (dayM (yOf g dg (k:Int)) (twoV m)+(twoV d:Int)) (by omega) (by omega),wrap_i64 _ (by omega) (by omega)]
 unfold bf;rw[F];simp only[ob];cases g with
 | true=>
  have w:wrap .i64 (0 - ((val dg k:Nat):Int))=yOf true dg (k:Int):=by
   rw[wrap_i64 _ (by omega) (by omega),hy];simp
  rw[w];simp only[aj];exact key _ rfl
 | false=>
  have w:((val dg k:Nat):Int)=yOf false dg (k:Int):=by rw[hy];rfl
  rw[w];simp only[af];exact key _ rfl
end
def Dh(g l:Bool)(dg:aa)(x q:Int)(m d:aa)(k0 k1 k2:Int):Bool:=
 (((g==false)&&((l==false)&&((dg==([]:aa))&&((x==0)&&((q==0)&&true)))))&&((m==([]:aa))&&((d==([]:aa))&&(((k0==0)&&((k1==0)&&((k2==0)&&true)))&&true))))
noncomputable def chkB(K:Int)(g l:Bool)(dg:aa)(x q:Int)(m d:aa)(k0 k1 k2:Int):Int:=
 if K=1 then(if chkF g l dg x q m d k0 k1 k2=0 then(if exD dg m d q=true then 0 else 11)else chkF g l dg x q m d k0 k1 k2)else if K=2\/K=3 then(if Dh g l dg x q m d k0 k1 k2=true then 0 else 5)else 18
def HI(a d b c lo hi:Int):Int:=if a≠0 then a else if d≠0 then d else if b≠1/\c≠1 then 11 else if b≠1\/c≠1 then 0 else if lo>hi then 11 else 0
section
variable {K:Int} {g l:Bool} {dg:List UInt8} {x q:Int} {m d:List UInt8} {k0 k1 k2:Int} (hml:m.length<=18) (hdl:dg.length<=100) (hd18:d.length<=18) (h0:0<=k0) (h1:0<=k1) (h2:0<=k2)
include hml hdl hd18 h0 h1 h2
def Aq:iP 20000000 K g l dg x q m d k0 k1 k2=some (chkB K g l dg x q m d k0 k1 k2):=by
 unfold iP chkB;rw[uM hml hdl h0 h1 h2,FC 20000000 g l dg x q m d k0 k1 k2 (by omega) (by omega) (by omega)];simp only[ob];by_cases a:K=1
 ·subst a;rw[ae rfl];simp only[ur,aj];by_cases hc:chkF g l dg x q m d k0 k1 k2=0
  ·rw[ae hc,hc];by_cases b:exD dg m d q=true
   ·rw[ae b,b];rfl
   ·rw[ab b];rw[GE]at b;rw[b];rfl
  ·rw[ab hc,bne0 hc];rfl
 ·rw[ab a,aK.2 a];simp only[af];have f:(!(((g==false)&&((l==false)&&((dg==([]:aa))&&((x==0)&&((q==0)&&true)))))&&((m==([]:aa))&&((d==([]:aa))&&(((k0==0)&&((k1==0)&&((k2==0)&&true)))&&true)))))=!(Dh g l dg x q m d k0 k1 k2):=rfl;rw[f];by_cases e:K=2
  ·subst e;rw[ae (.inl rfl)];cases Dh g l dg x q m d k0 k1 k2<;>rfl
  ·rw[aK.2 e];by_cases c:K=3
   ·subst c;rw[ae (.inr rfl)];cases Dh g l dg x q m d k0 k1 k2<;>rfl
   ·rw[aK.2 c,ab (by omega)];rfl
def vZ:eD 20000000 K g l dg x q m d k0 k1 k2=some (chkB K g l dg x q m d k0 k1 k2):=by
 unfold eD chkB;rw[rL hdl h0 h1 h2,Br 20000000 g l dg x q m d k0 k1 k2 (by omega) (by omega) (by omega) (by omega)];simp only[ob];by_cases a:K=1
 ·subst a;rw[ae rfl];simp only[ur,aj];by_cases hc:chkF g l dg x q m d k0 k1 k2=0
  ·rw[ae hc,hc];by_cases e:exD dg m d q=true
   ·rw[ae e,ae e];rfl
   ·rw[ab e,ab e];rfl
  ·rw[ab hc,aK.2 hc];rfl
 ·rw[ab a,aK.2 a];simp only[af];have f:(!(((g==false)&&((l==false)&&((dg==([]:aa))&&((x==0)&&((q==0)&&true)))))&&((m==([]:aa))&&((d==([]:aa))&&(((k0==0)&&((k1==0)&&((k2==0)&&true)))&&true)))))=!(Dh g l dg x q m d k0 k1 k2):=rfl;rw[f];by_cases c:K=2
  ·subst c;rw[ae (.inl rfl)];cases Dh g l dg x q m d k0 k1 k2<;>rfl
  ·rw[aK.2 c];by_cases b:K=3
   ·subst b;rw[ae (.inr rfl)];cases Dh g l dg x q m d k0 k1 k2<;>rfl
   ·rw[aK.2 b,ab (by omega)];rfl
def vb(hc:chkB K g l dg x q m d k0 k1 k2=0)(b:K=1):chkF g l dg x q m d k0 k1 k2=0/\exD dg m d q=true:=by
 have c:=And.intro hml (And.intro hdl (And.intro hd18 (And.intro h0 (And.intro h1 h2))));unfold chkB at hc;rw[ae b]at hc;by_cases h:chkF g l dg x q m d k0 k1 k2=0
 ·rw[ae h]at hc;by_cases a:exD dg m d q=true
  ·exact⟨h,a⟩
  ·rw[ab a]at hc;cases hc
 ·rw[ab h]at hc;exact absurd hc h
end
def U8(n:Nat)(a b:Int):ja n a b=some (if a<b then -1 else if a>b then 1 else 0):=by
 unfold ja ku;simp only[ob,dX,af];by_cases h:a<b
 ·rw[aq h,ae h];rfl
 ·rw[am h,ab h];by_cases c:a>b
  ·rw[aq c,ae c];rfl
  ·rw[am c,ab c];rfl
def FW(a b:Int):∃r,jW 20000000 0 a 0 b=some r/\decide (r>0)=decide (a>b):=by
 have e:lX 20000000 0 0=some 0:=rfl;have o1:nR 20000000 [0,-1]=some (-1):=by kernel_rfl
 have d:nR 20000000 [0,1]=some 1:=by kernel_rfl
 have f:nR 20000000 [0,0]=some 0:=by kernel_rfl
 unfold jW;rw[e,U8];simp only[ob];by_cases h:a<b
 ·rw[ae h,o1];exact⟨_,rfl,by rw[am (show¬a>b by omega)];rfl⟩
 ·rw[ab h];by_cases c:a>b
  ·rw[ae c,d];exact⟨_,rfl,by rw[aq c];rfl⟩
  ·rw[ab c,f];exact⟨_,rfl,by rw[am c];rfl⟩
def bne1{K:Int}(h:K≠1):(K != 1)=true:=by simp[h]
section
variable {K:Int} {g l:Bool} {dg:List UInt8} {x q:Int} {m d:List UInt8} {k0 k1 k2:Int} {K':Int} {g' l':Bool} {dg':List UInt8} {x' q':Int} {m' d':List UInt8} {p0 p1 p2:Int} (hml:m.length<=18) (hdl:dg.length<=100) (hd18:d.length<=18) (h0:0<=k0) (h1:0<=k1) (h2:0<=k2) (hml':m'.length<=18) (hdl':dg'.length<=100) (hd18':d'.length<=18) (h0':0<=p0) (h1':0<=p1) (h2':0<=p2)
include hml hdl hd18 h0 h1 h2 hml' hdl' hd18' h0' h1' h2'
def QB:gg 20000000 K g l dg x q m d k0 k1 k2 K' g' l' dg' x' q' m' d' p0 p1 p2=some (HI (chkB K g l dg x q m d k0 k1 k2) (chkB K' g' l' dg' x' q' m' d' p0 p1 p2) K K' (oH g dg x m d).1 (oH g' dg' x' m' d').2):=by
 unfold gg HI;rw[Aq hml hdl hd18 h0 h1 h2,Aq hml' hdl' hd18' h0' h1' h2'];simp only[ob];by_cases c:chkB K g l dg x q m d k0 k1 k2=0
 ·rw[ab (by omega),c];by_cases b:chkB K' g' l' dg' x' q' m' d' p0 p1 p2=0
  ·rw[ab (by omega),b];simp only[dX,af];by_cases e:K=1
   ·rw[show(K != 1)=false by rw[e];rfl];simp only[af];by_cases a:K'=1
    ·rw[show(K' != 1)=false by rw[a];rfl,ab (by omega),ab (by omega)];simp only[af];obtain⟨o,j⟩:=vb hml hdl hd18 h0 h1 h2 c e;obtain⟨n,f⟩:=vb hml' hdl' hd18' h0' h1' h2' b a;rw[DL hml hdl hd18 h0 h1 h2,DL hml' hdl' hd18' h0' h1' h2',ae o,ae j,ae n,ae f];simp only[ob];obtain⟨r,k,i⟩:=FW (oH g dg x m d).1 (oH g' dg' x' m' d').2;rw[k];simp only[i];by_cases h:(oH g dg x m d).1>(oH g' dg' x' m' d').2
     ·rw[aq h,ae h];rfl
     ·rw[am h,ab h];rfl
    ·rw[bne1 a,ab (by omega),ae (by omega)];rfl
   ·rw[bne1 e];by_cases a:K'=1
    ·rw[show(K' != 1)=false by rw[a];rfl,ab (by omega),ae (by omega)];rfl
    ·rw[bne1 a,ae (by omega)];rfl
  ·rw[ae b,bne0 b];rfl
 ·rw[ae c,bne0 c];rfl
def Nb:ef 20000000 K g l dg x q m d k0 k1 k2 K' g' l' dg' x' q' m' d' p0 p1 p2=some (HI (chkB K g l dg x q m d k0 k1 k2) (chkB K' g' l' dg' x' q' m' d' p0 p1 p2) K K' (oH g dg x m d).1 (oH g' dg' x' m' d').2):=by
 unfold ef HI;rw[vZ hml hdl hd18 h0 h1 h2,vZ hml' hdl' hd18' h0' h1' h2'];simp only[ob];by_cases e:chkB K g l dg x q m d k0 k1 k2=0
 ·rw[ab (by omega),e];by_cases c:chkB K' g' l' dg' x' q' m' d' p0 p1 p2=0
  ·rw[ab (by omega),c];simp only[dX,af];by_cases b:K=1
   ·rw[show(K != 1)=false by rw[b];rfl,show(K==1)=true by rw[b];rfl];simp only[af,aj];by_cases a:K'=1
    ·rw[show(K'==1)=true by rw[a];rfl,ab (by omega),ab (by omega)];simp only[aj];obtain⟨o,j⟩:=vb hml hdl hd18 h0 h1 h2 e b;obtain⟨n,i⟩:=vb hml' hdl' hd18' h0' h1' h2' c a;obtain⟨rfl,f⟩:=vf o j;obtain⟨rfl,k⟩:=vf n i;rw[tY f hdl,tY k hdl'];simp only[ob];by_cases h:(oH g dg x m d).1>(oH g' dg' x' m' d').2
     ·rw[aq h,ae h];rfl
     ·rw[am h,ab h];rfl
    ·rw[aK.2 a,ab (by omega),ae (by omega)];rfl
   ·rw[bne1 b,aK.2 b];by_cases a:K'=1
    ·rw[show(K' != 1)=false by rw[a];rfl,ab (by omega),ae (by omega)];rfl
    ·rw[bne1 a,ae (by omega)];rfl
  ·rw[ae c,bne0 c];rfl
 ·rw[ae e,bne0 e];rfl
end
def plR(r:DR):Nat:=r.2.2.2.2.2.2.2.2.1.1
def enR(r:DR):Nat:=r.2.2.2.2.2.2.2.2.2
def GV{l:aa}{b:UInt8}(h:l.take 2=[b,b]):∃r,l=b::b::r:=by
 match l,h with
 | a::c::r,h=>simp at h;exact⟨r,by rw[h.1,h.2]⟩
def zR{S:aa}{a:Nat}(h:a<=S.length){r:DR}(b:ch S a=.inr r):oh S a=.inr r/\chkR r=0:=by
 unfold ch at b;cases hd:oh S a with
 | inl k=>rw[hd]at b;cases b
 | inr c=>
  rw[hd]at b;simp only[]at b;by_cases hc:chkR c=0
  ·rw[ae hc]at b;obtain rfl:=tH b;exact⟨rfl,hc⟩
  ·rw[ab hc]at b;cases b
def kG(c:UInt8)(k:Nat)(a:k<256):(((c.toNat:Nat):Int)==(k:Int))=decide (c=UInt8.ofNat k):=by
 rw[re,bv,Dy];constructor
 ·intro h;apply ga.1;have:c.toNat=k:=by omega
  rw[this];simp;omega
 ·rintro rfl;simp;omega
def HY(S:aa)(A:Int):(Nat×Nat×Nat)⊕DR->Bool×Bool×aa×Int×Int×aa×aa×Int×Int×Int×Int×aa×Int×Int
 | .inl (k,E,p)=>(false,false,[],0,0,[],[],0,0,0,A,S,(k:Int),(E:Int))
 | .inr (g,l,dg,x,s,m,d,M,P,e)=>(g,l,dg,(x:Int),(s:Int),m,d,(M.1:Int),(M.2.1:Int),(M.2.2:Int),(P.1:Int),S,(e:Int),0)
def qy(S:aa)(a:Nat)(h:a<=S.length)(t:S.length<100000):∃A,dY 20000000 S (a:Int)=some (HY S A (ch S a)):=by
 obtain⟨Q,v,n⟩:=wR 19999700 S a h t (by omega);rw[show 19999700+300=20000000 from rfl]at n;obtain⟨c,f,i,rfl⟩:∃c f i,Q=[c,f,i]:=by
  match Q,v with
  | [c,f,i],_=>exact⟨c,f,i,rfl⟩
 unfold dY ch;rw[n];cases hd:oh S a with
 | inl k=>exact⟨c,rfl⟩
 | inr r=>
  obtain⟨g,l,dg,x,s,o,d,M,P,e⟩:=r;have b:=Ar h hd;have u:=b.all;have p:=b.dg17;simp only[ob,PR,d4,d8,dX,af];rw[rL (g:=g) (l:=l) (x:=(x:Int)) (q:=(s:Int)) (m:=o) (d:=d) (show dg.length<=100 by omega) (show(0:Int)<=(M.1:Int)by omega) (show(0:Int)<=(M.2.1:Int)by omega) (show(0:Int)<=(M.2.2:Int)by omega)];have j:=tN (g:=g) (l:=l) (dg:=dg) (x:=(x:Int)) (q:=(s:Int)) (m:=o) (d:=d) (k0:=(M.1:Int)) (k1:=(M.2.1:Int)) (k2:=(M.2.2:Int)) (wb u);unfold chkR;simp only[];refine⟨(P.1:Int),?_⟩;rcases j with hc | hc | hc | hc<;>rw[hc]<;>rfl
def pI{S:aa}{a:Nat}(h:a<=S.length){k E p:Nat}(b:ch S a=.inl (k,E,p)):E≠0:=by
 unfold ch at b;cases hd:oh S a with
 | inl k'=>rw[hd]at b;simp only[]at b;have:=Sum.inl.inj b;simp at this;omega
 | inr c=>
  rw[hd]at b;simp only[]at b;by_cases hc:chkR c=0
  ·rw[ae hc]at b;cases b
  ·rw[ab hc]at b;have:=Sum.inl.inj b;simp at this;omega
def smT(x:TD):Prop:=x.2.2.2.2.2.1.length<=18/\x.2.2.1.length<=100/\x.2.2.2.2.2.2.1.length<=18/\0<=x.2.2.2.2.2.2.2.1/\0<=x.2.2.2.2.2.2.2.2.1/\0<=x.2.2.2.2.2.2.2.2.2
noncomputable def cF(x:TD):Int:=chkF x.1 x.2.1 x.2.2.1 x.2.2.2.1 x.2.2.2.2.1 x.2.2.2.2.2.1 x.2.2.2.2.2.2.1 x.2.2.2.2.2.2.2.1 x.2.2.2.2.2.2.2.2.1 x.2.2.2.2.2.2.2.2.2
def exT(x:TD):Bool:=exD x.2.2.1 x.2.2.2.2.2.1 x.2.2.2.2.2.2.1 x.2.2.2.2.1
def dyT(x:TD):Int×Int:=oH x.1 x.2.2.1 x.2.2.2.1 x.2.2.2.2.2.1 x.2.2.2.2.2.2.1
def seT(x:TD):Int:=sea x.2.2.2.2.2.1
def coT(x:TD):Nat:=mC x.2.2.2.2.2.1 x.2.2.2.2.2.2.1
noncomputable def plT(x:TD):Bool:=decide (cF x=0)&&(exT x&&!decide (0<seT x))
def nv:smT d0:=by unfold smT;simp
def fcT{x:TD}(h:smT x):ap10 (bn 20000000) x=some (cF x):=uM h.1 h.2.1 h.2.2.2.1 h.2.2.2.2.1 h.2.2.2.2.2
def rcT{x:TD}(h:smT x):ap10 (bJ 20000000) x=some (cF x):=rL h.2.1 h.2.2.2.1 h.2.2.2.2.1 h.2.2.2.2.2
def reT{x:TD}(h:smT x):ap10 (aL 20000000) x=some (if exT x then 1 else 0):=by
 obtain⟨a,b,c,_⟩:=h;exact Br 20000000 _ _ _ _ _ _ _ _ _ _ (by omega) (by omega) (by omega) (by omega)
def rsT(x:TD):ap10 (aN 20000000) x=some (seT x):=nZ 20000000 (by omega) _ _ _ _ _ _ _ _ _ _
def rcoT(x:TD):ap10 (aE 20000000) x=some ((coT x:Nat):Int):=qY 20000000 _ _ _ _ _ _ _ _ _ _
def fpT{x:TD}(h:smT x):ap10 (ba 20000000) x=some (if x.2.2.2.2.2.2.1=[]then(if 0<seT x then 0 else if x.2.2.2.2.2.1=[]then 1 else 2)else 3):=Jr 20000000 _ _ _ _ _ _ _ _ _ _ h.1
def fmT{x:TD}(h:smT x):ap10 (eC 20000000) x=some (hasX x.2.2.1||(hasX x.2.2.2.2.2.1||hasX x.2.2.2.2.2.2.1)):=by
 obtain⟨a,b,c,_⟩:=h;exact B8 20000000 _ _ _ _ _ _ _ _ _ _ (by omega) (by omega) (by omega)
def fdT{x:TD}(h:smT x):ap10 (fR 20000000) x=some (if cF x=0 then(if exT x=true then(0,(dyT x).1,0,(dyT x).2,0)else(0,0,0,0,1))else(0,0,0,0,cF x)):=DL h.1 h.2.1 h.2.2.1 h.2.2.2.1 h.2.2.2.2.1 h.2.2.2.2.2
def TC{x:TD}(hc:cF x=0)(a:exT x=true):x.2.2.2.2.1=0/\Exact x.1 x.2.1 x.2.2.1 x.2.2.2.1 x.2.2.2.2.2.1 x.2.2.2.2.2.2.1:=vf hc a
def rdT{x:TD}(h:smT x)(hc:cF x=0)(a:exT x=true):ap10 (bf 20000000) x=some (dyT x):=by
 obtain⟨b,E⟩:=TC hc a;have:=tY (k0:=x.2.2.2.2.2.2.2.1) (k1:=x.2.2.2.2.2.2.2.2.1) (k2:=x.2.2.2.2.2.2.2.2.2) E h.2.1;rw[<-b]at this;exact this
def wE{x:TD}(hc:cF x=0):(x.2.2.2.2.2.1=[]\/x.2.2.2.2.2.1.length=2)/\(x.2.2.2.2.2.2.1=[]\/x.2.2.2.2.2.2.1.length=2)/\(x.2.2.2.2.2.2.1≠[]->x.2.2.2.2.2.1≠[]/\seT x=0):=by
 obtain⟨_,a,b,_,c⟩:=sX (vo hc);exact⟨a,b,c⟩
def o7{x y:TD}:eqD x y=true↔x=y:=by
 obtain⟨a1,a2,g,l,f,d,c,i,m,b⟩:=x;obtain⟨b1,b2,o,n,k,e,h,p,j,a⟩:=y;simp[and_assoc]
def FQ{x:TD}(h:smT x):mV 20000000 x=some (exT x):=by
 unfold mV;rw[fmT h];simp only[ob,exT,exD];cases(hasX x.2.2.1||(hasX x.2.2.2.2.2.1||hasX x.2.2.2.2.2.2.1))<;>rfl
def yY{x:TD}(h:smT x):kU 20000000 x=some (plT x):=by
 unfold kU plT;rw[fcT h,FQ h,fpT h];simp only[ob];by_cases hc:cF x=0
 ·rw[hc];cases c:exT x
  ·rfl
  ·show some ((if _ then _ else _) != (0:Int))=some (true&&(true&&!decide (0<seT x)));obtain⟨_,_,b⟩:=wE hc;by_cases hd:x.2.2.2.2.2.2.1=[]
   ·rw[ae hd];by_cases hs:0<seT x
    ·rw[ae hs,aq hs];rfl
    ·rw[ab hs,am hs];by_cases a:x.2.2.2.2.2.1=[]
     ·rw[ae a];rfl
     ·rw[ab a];rfl
   ·rw[ab hd,(b hd).2];rfl
 ·rw[am hc,show(cF x==0)=false from by simp[hc]];rfl
def rz{x:TD}(h:smT x):aX 20000000 x=some (if plT x then 1 else 0):=by
 unfold aX plT;rw[rcT h,reT h,rsT x];simp only[ob];by_cases hc:cF x=0
 ·rw[hc];cases b:exT x
  ·rfl
  ·by_cases hs:0<seT x
   ·have a:decide (seT x>0)=true:=aq hs;rw[aq hs];rfl
   ·have a:decide (seT x>0)=false:=am hs;rw[am hs];rfl
 ·rw[am hc,show(cF x != 0)=true from by simp[hc]];rfl
def zr{x:TD}:plT x=true↔cF x=0/\exT x=true/\¬0<seT x:=by
 unfold plT;simp[and_assoc]
noncomputable def ordB(x y:TD):Bool:=(plT x&&plT y)&&(decide (coT x=coT y)&&decide ((dyT x).1<=(dyT y).1))
def yo{x:TD}(hc:cF x=0)(hs:¬0<seT x):(if x.2.2.2.2.2.2.1=[]then(if 0<seT x then(0:Int)else if x.2.2.2.2.2.1=[]then 1 else 2)else 3)=((coT x:Nat):Int):=by
 obtain⟨_,_,b⟩:=wE hc;unfold coT mC;by_cases hd:x.2.2.2.2.2.2.1=[]
 ·rw[ae hd,ab hs];by_cases a:x.2.2.2.2.2.1=[]
  ·simp[a,hd]
  ·simp[a,hd]
 ·have a:=(b hd).1;simp[hd,a]
def GW{x y:TD}(hx:smT x)(hy:smT y):mB 20000000 x y=some (ordB x y):=by
 unfold mB ordB;rw[yY hx,yY hy];cases l:plT x
 ·rfl
 cases j:plT y
 ·rfl
 obtain⟨d,k,e⟩:=zr.1 l;obtain⟨c,g,f⟩:=zr.1 j;rw[fpT hx,fpT hy,fdT hx,fdT hy,yo d e,yo c f,ae d,ae c,ae k,ae g];simp only[ob,u5,u4,u3,u2,bV,af,GA,m8];by_cases a:coT x=coT y
 ·rw[a,aq rfl];obtain⟨r,i,h⟩:=FW (dyT x).1 (dyT y).1;simp only[dX,af,i,m8];refine ck some ?_;have:decide (r<=0)=!decide (r>0):=by
   by_cases b:r<=0
   ·rw[aq b,am (by omega)];rfl
   ·rw[am b,aq (by omega)];rfl
  rw[this,h];by_cases hd:(dyT x).1<=(dyT y).1
  ·rw[aq hd,am (by omega)];rfl
  ·rw[am hd,aq (by omega)];rfl
 ·have:(((coT x:Nat):Int) != ((coT y:Nat):Int))=true:=by simp;omega
  rw[this,am a];rfl
noncomputable def itE(x:TD)(r:Bool)(y:TD)(all:Bool):Int:=
 if cF x≠0 then cF x else if r=true/\cF y≠0 then cF y else if r=false/\eqD y d0=false then 5 else if r=true/\ordB x y=false then 10 else if all=true/\exT x=false then 10 else 0
def C2{x y:TD}(r:Bool)(hx:smT x)(hy:smT y)(K:Int)(hc:cF x=0)(a:¬(r=true/\cF y≠0)):dT 20000000 5 10 10 x r y K=some (itE x r y (K==4)):=by
 unfold dT pB pF pY itE;rw[GW hx hy,FQ hx,ab (by simpa using hc),ab a];cases r
 ·generalize eqD y d0=z;cases z
  ·rfl
  ·cases(K==4)
   ·rfl
   ·cases exT x<;>rfl
 ·simp only[ob,bV,af,aj,reduceCtorEq,xc,aC,jg];cases ordB x y
  ·rfl
  ·simp only[bV,af,Bool.true_eq_false,aC];cases(K==4)
   ·rfl
   ·cases exT x<;>rfl
def Ju{x y:TD}(r:Bool)(hx:smT x)(hy:smT y)(K:Int):gH 20000000 x r y K=some (if K=3\/K=4 then itE x r y (K==4)else 18):=by
 have b:(ob (ap10 (bn 20000000) x) λc=>(cond (c != 0) (some c) (cond r (ob (ap10 (bn 20000000) y) λe=>(cond (e != 0) (some e) (ob (dT 20000000 5 10 10 x r y K) λg=>(some g)))) (ob (dT 20000000 5 10 10 x r y K) λh=>(some h)))))=some (itE x r y (K==4)):=by
  rw[fcT hx];simp only[ob];by_cases hc:cF x=0
  ·rw[show(cF x != 0)=false from by simp[hc],af];cases r
   ·rw[C2 false hx hy K hc (by simp)];rfl
   ·rw[aj,fcT hy];simp only;by_cases a:cF y=0
    ·rw[show(cF y != 0)=false from by simp[a],af,C2 true hx hy K hc (by simp[a])]
    ·rw[show(cF y != 0)=true from by simp[a],aj];unfold itE;rw[ab (by simpa using hc),ae ⟨rfl,a⟩]
  ·rw[show(cF x != 0)=true from by simp[hc],aj];unfold itE;rw[ae hc]
 unfold gH;by_cases f:K=3
 ·subst f;exact b.trans (by rfl)
 ·rw[show(K != 3)=true from by simp[f],aj];by_cases d:K=4
  ·subst d;exact b.trans (by rfl)
  ·rw[show(K != 4)=true from by simp[d],aj,ab (by omega)]
def V3{x y:TD}{r all:Bool}(h:cF x≠0):itE x r y all=cF x:=ae h
def S7{x y:TD}{all:Bool}(hc:cF x=0)(h:cF y≠0):itE x true y all=cF y:=by
 unfold itE;rw[ab (λh=>h hc),ae ⟨rfl,h⟩]
def VW{x y:TD}{all:Bool}(hc:cF x=0):itE x false y all=if eqD y d0=false then 5 else if all=true/\exT x=false then 10 else 0:=by
 have b:(false=true/\cF y≠0)↔False:=by simp
 have a:(false=true/\ordB x y=false)↔False:=by simp
 have c:(false=false/\eqD y d0=false)↔eqD y d0=false:=by simp
 unfold itE;rw[ab (λh=>h hc)];simp only[b,a,aC,jg]
def Va{x y:TD}{all:Bool}(hc:cF x=0)(hy:cF y=0):itE x true y all=if ordB x y=false then 10 else if all=true/\exT x=false then 10 else 0:=by
 have b:(true=true/\ordB x y=false)↔ordB x y=false:=by simp
 have a:(true=false/\eqD y d0=false)↔False:=by simp
 unfold itE;rw[ab (λh=>h hc),ab (λh=>h.2 hy)];simp only[a,aC,jg]
def S8(a b:Bool):(wrap .i64 ((if a then(1:Int)else 0)*(if b then(1:Int)else 0))==0)=!(a&&b):=by cases a<;>cases b<;>rfl
def Hr{x y:TD}(r all:Bool)(hx:smT x)(hy:smT y):iM 20000000 x r y all=some (itE x r y all):=by
 have last:cond all (ob (ap10 (aL 20000000) x) λc=>(cond (c==0) (some 10) (some 0))) (some 0)=some (if all=true/\exT x=false then(10:Int)else 0):=by
  rw[reT hx];cases all
  ·rfl
  ·cases exT x<;>rfl
 unfold iM;simp only[last];simp only[rcT hx,rcT hy,rz hx,rz hy,rcoT,ob,S8];by_cases hc:cF x=0
 ·rw[show(cF x != 0)=false from by simp[hc],af];cases r
  ·simp only[af,gJ,aj];rw[VW hc];generalize eqD y d0=z;cases z<;>rfl
  ·simp only[aj,bV,af];by_cases a:cF y=0
   ·rw[show(cF y != 0)=false from by simp[a],af];rw[Va hc a];unfold ordB;cases i:plT x
    ·simp
    cases f:plT y
    ·simp
    obtain⟨g,h,j⟩:=zr.1 i;obtain⟨e,d,k⟩:=zr.1 f;rw[rdT hx g h,rdT hy e d];simp only[u2,GA,bV,af,m8,jg];by_cases b:coT x=coT y
    ·rw[b,aq rfl];simp only[dX,af,m8];by_cases hd:(dyT x).1<=(dyT y).1
     ·rw[show decide ((dyT x).1>(dyT y).1)=false from am (by omega),aq hd];simp
     ·rw[show decide ((dyT x).1>(dyT y).1)=true from aq (by omega),am hd];simp
    ·have:(((coT x:Nat):Int) != ((coT y:Nat):Int))=true:=by simp;omega
     rw[this,am b];simp
   ·rw[show(cF y != 0)=true from by simp[a],aj];rw[S7 hc a]
 ·rw[show(cF x != 0)=true from by simp[hc],aj];rw[V3 hc]
def nz{A:Type}(f:Nat->A->Int):Nat->List A->Option (Nat×Int)
 | _,[]=>none
 | i,t::r=>if f i t≠0 then some (i,f i t)else nz f (i+1) r
def tQ{A X Y:Type}{step:X->Option (X⊕Y)}{st:Nat->X}{L:List A}{f:Nat->A->Int}{yes:Nat->Int->Y}{no:Y}
  (e:∀i t,L[i]?=some t->step (st i)=some (if f i t≠0 then .inr (yes i (f i t))else .inl (st (i+1)))) (c:step (st L.length)=some (.inr no)):
  ∀(r i:Nat),i+r=L.length->∀N,r<N->au step N (st i)=some (match nz f i (L.drop i)with | some p=>yes p.1 p.2 | none=>no):=by
 intro r
 induction r with
 | zero=>
  intro i hi N g;obtain⟨N,rfl⟩:∃k,N=k+1:=⟨N - 1,by omega⟩;rw[au,show i=L.length by omega,c,vn];rfl
 | succ r ih=>
  intro i hi N g;obtain⟨N,rfl⟩:∃k,N=k+1:=⟨N - 1,by omega⟩;have a:i<L.length:=by omega
  have d:L[i]?=some L[i]:=bg a;rw[au,e i _ d,qd a,nz];by_cases b:f i L[i]≠0
  ·rw[ae b,ae b]
  ·rw[ab b,ab b];exact ih (i+1) (by omega) N (by omega)
abbrev rT(t:TI):Bool:=(d8 t).2.2.1
abbrev iT(t:TI):TD:=(d8 t).2.2.2
def smI(t:TI):Prop:=smT (iF t)/\smT (iT t)
noncomputable def itI(t:TI)(all:Bool):Int:=itE (iF t) (rT t) (iT t) all
noncomputable def endB(t:TI):Bool:=!rT t&&plT (iF t)
noncomputable def errI(K:Int)(e l:Bool)(n i:Nat)(t:TI):Int:=
 if itI t (K==4)≠0 then itI t (K==4)else if(e&&decide (i=0))&&!endB t||((l&&decide (i+1=n))&&!endB t||(e&&(l&&decide (n=1))))then 10 else 0
noncomputable def wq(K:Int)(e l:Bool)(L:List TI):Int×Int:=match nz (errI K e l L.length) 0 L with
 | some p=>((p.1:Int),p.2)
 | none=>(0,0)
def tL{i:Nat}(h:i<9223372036854775807):w64 ((i:Int)+1)=((i+1:Nat):Int):=by
 show wrap .i64 _=_;rw[wrap_i64 _ (by omega) (by omega)];omega
def Ew{i:Nat}(a:0<i)(h:i<9223372036854775807):w64 ((i:Int) - 1)=((i - 1:Nat):Int):=by
 show wrap .i64 _=_;rw[wrap_i64 _ (by omega) (by omega)];omega
def natB(a b:Nat):(((a:Nat):Int)==((b:Nat):Int))=decide (a=b):=by
 by_cases h:a=b
 ·subst h;simp
 ·rw[am h];simp;omega
def Jj(a:Nat):(((a:Nat):Int)==0)=decide (a=0):=natB a 0
def S9{x y:TD}(r:Bool)(hx:smT x):mZ 20000000 x r y=some (!r&&plT x):=by
 unfold mZ;rw[yY hx];cases r<;>rfl
def IV{K:Int}(n:K=3\/K=4){e l:Bool}{L:List TI}{i:Nat}{t:TI}(hi:L[i]?=some t)(hs:smI t)(o:L.length<=1000000)(D:TD)(KF:Int)(DF:TD)(KT:Int)(DT:TD):
  iq 20000000 (itI t (K==4)) 10 10 10 (iF t) (rT t) (iT t) K D KF DF KT DT e l (i:Int) (w64 (len L - 1)) L=some (errI K e l L.length i t):=by
 have m:i<L.length:=(rj.1 hi).1;have d:w64 (len L - 1)=((L.length - 1:Nat):Int):=Ew (by omega) (by omega);have g:gH 20000000 (iF t) (rT t) (iT t) K=some (itI t (K==4)):=by
  rw[Ju _ hs.1 hs.2,ae n];rfl
 unfold iq sV sF sE so errI;rw[g,d];simp only[S9 (rT t) hs.1,ob,Jj,natB];have k:decide (i=L.length - 1)=decide (i+1=L.length):=by congr 1;exact propext (by omega)
 have j:decide (L.length - 1=0)=decide (L.length=1):=by congr 1;exact propext (by omega)
 rw[k,j];show cond (itI t (K==4) != 0) _ _=_;by_cases f:itI t (K==4)=0
 ·rw[ab (λh=>h f),show(itI t (K==4) != 0)=false from by simp[f],af];show _=some (if((e&&decide (i=0))&&!endB t||((l&&decide (i+1=L.length))&&!endB t||(e&&(l&&decide (L.length=1)))))=true then 10 else 0);unfold endB;generalize(!rT t&&plT (iF t))=z;generalize decide (i=0)=a;generalize decide (i+1=L.length)=b;generalize decide (L.length=1)=c;cases e<;>cases l<;>cases z<;>cases a<;>cases b<;>cases c<;>rfl
 ·rw[ae f,show(itI t (K==4) != 0)=true from by simp[f],aj]
def MR {K:Int} (g:K=3\/K=4) {e l:Bool} {L:List TI} (hs:∀t∈L,smI t) (j:L.length<=1000000) (D:TD) (KF:Int) (DF:TD) (KT:Int) (DT:TD):
  mT 20000000 K D KF DF KT DT e l L=some (wq K e l L):=by
 have:=tQ (step:=fZ 20000000) (st:=λi=>(len L,(i:Int),L,K,D,KF,DF,KT,DT,e,l,w64 (len L - 1))) (L:=L) (f:=errI K e l L.length) (yes:=λi q=>.inl ((i:Int),q)) (no:=.inr ())
  (λi t hi=>by
   have d:i<L.length:=(rj.1 hi).1;have a:=hs t (fE hi);have c:gH 20000000 (iF t) (rT t) (iT t) K=some (itI t (K==4)):=by
    rw [Ju _ a.1 a.2,ae g];rfl
   unfold fZ;simp only [u12,u11,u10,u9,u8,u7,u6,u5,u4,u3,u2];rw [aq (show (i:Int)<len L by unfold len;omega),eZ d];simp only [aj,ob,hi];rw [show gH 20000000 (iF t) (d8 t).2.2.1 (d8 t).2.2.2 K=some (itI t (K==4)) from c];simp only;rw [show iq 20000000 (itI t (K==4)) 10 10 10 (iF t) (d8 t).2.2.1 (d8 t).2.2.2 K D KF DF KT DT e l (i:Int) (w64 (len L - 1)) L=some (errI K e l L.length i t) from IV g hi a j D KF DF KT DT];simp only;rw [tL (by omega)];by_cases b:errI K e l L.length i t=0
   ·rw [ab (λh=>h b),show (errI K e l L.length i t != 0)=false from by simp [b]];rfl
   ·rw [ae b,show (errI K e l L.length i t != 0)=true from by simp [b]];rfl)
  (by
   unfold fZ;simp only [u12,u11,u10,u9,u8,u7,u6,u5,u4,u3,u2];rw [am (show ¬((L.length:Nat):Int)<len L by unfold len;omega)];rfl)
  L.length 0 (by omega) 20000000 (by omega)
 unfold mT wq;rw [cg] at this;show obs (au (fZ 20000000) 20000000 (len L,((0:Nat):Int),L,K,D,KF,DF,KT,DT,e,l,w64 (len L - 1))) _ _=_;rw [this];cases nz (errI K e l L.length) 0 L<;>rfl
noncomputable def xE(K:Int)(x:TD):Int:=chkB K x.1 x.2.1 x.2.2.1 x.2.2.2.1 x.2.2.2.2.1 x.2.2.2.2.2.1 x.2.2.2.2.2.2.1 x.2.2.2.2.2.2.2.1 x.2.2.2.2.2.2.2.2.1 x.2.2.2.2.2.2.2.2.2
noncomputable def rC(K:Int)(x:TD)(a:Int)(y:TD):Int:=HI (xE K x) (xE a y) K a (dyT x).1 (dyT y).2
def J2{x y:TD}(hx:smT x)(hy:smT y)(K a:Int):ap10 (ap10 (gg 20000000 K) x a) y=some (rC K x a y):=
 QB hx.1 hx.2.1 hx.2.2.1 hx.2.2.2.1 hx.2.2.2.2.1 hx.2.2.2.2.2 hy.1 hy.2.1 hy.2.2.1 hy.2.2.2.1 hy.2.2.2.2.1 hy.2.2.2.2.2
def Kp{x y:TD}(hx:smT x)(hy:smT y)(K a:Int):ap10 (ap10 (ef 20000000 K) x a) y=some (rC K x a y):=
 Nb hx.1 hx.2.1 hx.2.2.1 hx.2.2.2.1 hx.2.2.2.2.1 hx.2.2.2.2.2 hy.1 hy.2.1 hy.2.2.1 hy.2.2.2.1 hy.2.2.2.2.1 hy.2.2.2.2.2
def unuB(K:Int)(D:TD)(KF:Int)(DF:TD)(KT:Int)(DT:TD)(e l:Bool)(n:Nat):Bool:=
 !(K==1||eqD D d0)||(!(K==2||((KF==0)&&((eqD DF d0)&&true))&&((KT==0)&&((eqD DT d0)&&true)))||!(K==3||(K==4||(decide (n=0)&&(!e&&!l)))))
def Iw(n:Nat)(K:Int)(D:TD)(KF:Int)(DF:TD)(KT:Int)(DT:TD)(e l:Bool)(L:List TI):
  lU n K D KF DF KT DT e l L=some (unuB K D KF DF KT DT e l L.length):=by
 unfold lU unuB;rw[show(len L==0)=decide (L.length=0)from Jj _];generalize eqD D d0=a;generalize((KF==0)&&((eqD DF d0)&&true))=z1;generalize((KT==0)&&((eqD DT d0)&&true))=z2;generalize decide (L.length=0)=b;generalize(K==1)=k1;generalize(K==2)=k2;generalize(K==3)=c;generalize(K==4)=k4;revert a z1 z2 b k1 k2 c k4 e l;decide +kernel
noncomputable def ma(K:Int)(D:TD)(KF:Int)(DF:TD)(KT:Int)(DT:TD)(e l:Bool)(L:List TI):Int×Int:=
 if K<1\/4<K then(0,18)else if unuB K D KF DF KT DT e l L.length=true then(0,5)else if K=1 then(0,cF D)else if K=2 then(0,rC KF DF KT DT)else if L.length=0 then(0,17)else if 256<L.length then(0,3)else wq K e l L
def smE(D DF DT:TD)(L:List TI):Prop:=smT D/\smT DF/\smT DT/\∀t∈L,smI t
def ET{K:Int}{D:TD}{KF:Int}{DF:TD}{KT:Int}{DT:TD}{e l:Bool}{L:List TI}(h:smE D DF DT L):
  kV 20000000 K D KF DF KT DT e l L=some (ma K D KF DF KT DT e l L):=by
 obtain⟨g,j,i,f⟩:=h;unfold kV ma;by_cases b:K<1
 ·rw[aq b,ae (.inl b)];rfl
 by_cases c:4<K
 ·rw[am b,show decide (K>4)=true from aq c,ae (.inr c)];rfl
 rw[am b,show decide (K>4)=false from am c,ab (by omega),Iw];simp only[af,ob];cases unuB K D KF DF KT DT e l L.length
 ·simp only[af,bs,aC];by_cases k1:K=1
  ·rw[ae k1,show(K==1)=true from by simp[k1],fcT g];rfl
  by_cases k2:K=2
  ·rw[ab k1,ae k2,show(K==1)=false from by simp[k1],show(K==2)=true from by simp[k2],J2 j i];rfl
  rw[ab k1,ab k2,show(K==1)=false from by simp[k1],show(K==2)=false from by simp[k2]];simp only[af];rw[show(len L==0)=decide (L.length=0)from Jj _];by_cases a:L.length=0
  ·rw[aq a,ae a];rfl
  rw[am a,ab a];by_cases d:256<L.length
  ·rw[show decide (len L>256)=true from aq (by show(256:Int)<((L.length:Nat):Int);omega),ae d];rfl
  rw[show decide (len L>256)=false from am (by show¬(256:Int)<((L.length:Nat):Int);omega),ab d,MR (by omega) f (by omega)];rfl
 ·rfl
def PH(n:Nat)(i:Int)(L:List TI)(K:Int)(D:TD)(KF:Int)(DF:TD)(KT:Int)(DT:TD)(e l:Bool)(x:TD)(r:Bool)(y:TD):
  gn n i L K D KF DF KT DT e l x r y=some (i,e&&(i==0),l&&(i==w64 (len L - 1)),L,K,D,KF,DF,KT,DT,e,l,x,r,y):=by
 unfold gn;cases e<;>cases l<;>rfl
def Q1(i:Int)(a b:Bool)(L:List TI)(K:Int)(D:TD)(KF:Int)(DF:TD)(KT:Int)(DT:TD)(e l:Bool)(x:TD)(r:Bool)(y:TD)(hx:smT x):
  gk 20000000 i a b L K D KF DF KT DT e l x r y=some (i,(a&&b)||((a||b)&&(r||!plT x)),L,K,D,KF,DF,KT,DT,e,l):=by
 unfold gk;rw[rz hx];cases a<;>cases b<;>cases r<;>cases plT x<;>rfl
def J4 {K:Int} (w:K=3\/K=4) {e l:Bool} {L:List TI} (hs:∀t∈L,smI t) (x:L.length<=1000000) (D:TD) (KF:Int) (DF:TD) (KT:Int) (DT:TD):
  au (dN 20000000) 20000000 (0,L,K,D,KF,DF,KT,DT,e,l)=some (match nz (errI K e l L.length) 0 L with | some p=>.inl ((p.1:Int),p.2) | none=>.inr ()):=by
 have:=tQ (step:=dN 20000000) (st:=λi=>((i:Int),L,K,D,KF,DF,KT,DT,e,l)) (L:=L) (f:=errI K e l L.length) (yes:=λi q=>.inl ((i:Int),q)) (no:=.inr ())
  (λi t hi=>by
   have n:i<L.length:=(rj.1 hi).1;have g:=hs t (fE hi);have m:iM 20000000 (iF t) (d8 t).2.2.1 (d8 t).2.2.2 (K==4)=some (itI t (K==4)):=Hr _ _ g.1 g.2;have d:w64 (len L - 1)=((L.length - 1:Nat):Int):=Ew (by omega) (by omega);unfold dN;simp only [u15,u14,u13,u12,u11,u10,u9,u8,u7,u6,u5,u4,u3,u2];rw [aq (show (i:Int)<len L by unfold len;omega),eZ n];simp only [aj,ob,hi,m];by_cases j:itI t (K==4)=0
   ·rw [show (itI t (K==4) != 0)=false from by simp [j],af];simp only [PH,d,Jj,natB,u15,u14,u13,u12,u11,u10,u9,u8,u7,u6,u5,u4,u3,u2];rw [Q1 _ _ _ _ _ _ _ _ _ _ _ _ _ _ _ g.1];simp only [u11,u10,u9,u8,u7,u6,u5,u4,u3,u2];have v:decide (i=L.length - 1)=decide (i+1=L.length):=by congr 1;exact propext (by omega)
    have o:(decide (i=0)&&decide (i+1=L.length))=(decide (L.length=1)&&decide (i=0)):=by
     by_cases k:i=0
     ·subst k;rw [aq rfl,m8,BH];congr 1;exact propext (by omega)
     ·rw [am k,vG];rfl
    have s:decide (L.length=1)=true->decide (i=0)=true:=λh=>aq (by have:=of_decide_eq_true h;omega);have u:errI K e l L.length i t=if ((e&&decide (i=0))&&(l&&decide (i+1=L.length)))||(((e&&decide (i=0))||(l&&decide (i+1=L.length)))&&(rT t||!plT (iF t))) then 10 else 0:=by
     unfold errI endB;rw [j,ab (λh=>h rfl)];congr 1;revert o s;generalize rT t=r;generalize plT (iF t)=z;generalize decide (i=0)=a;generalize decide (i+1=L.length)=b;generalize decide (L.length=1)=c;cases e<;>cases l<;>cases z<;>cases r<;>cases a<;>cases b<;>cases c<;>simp
    rw [v,tL (by omega),u];generalize (((e&&decide (i=0))&&(l&&decide (i+1=L.length)))||(((e&&decide (i=0))||(l&&decide (i+1=L.length)))&&(rT t||!plT (iF t))))=z;cases z<;>rfl
   ·have:errI K e l L.length i t=itI t (K==4):=ae j;rw [show (itI t (K==4) != 0)=true from by simp [j],aj,this,ae j])
  (by
   unfold dN;simp only [u15,u14,u13,u12,u11,u10,u9,u8,u7,u6,u5,u4,u3,u2];rw [am (show ¬((L.length:Nat):Int)<len L by unfold len;omega)];rfl)
  L.length 0 (by omega) 20000000 (by omega)
 rw [cg] at this;exact this
def Dk{K:Int}{D:TD}{KF:Int}{DF:TD}{KT:Int}{DT:TD}{e l:Bool}{L:List TI}(h:smE D DF DT L):
  fG 20000000 K D KF DF KT DT e l L=some (ma K D KF DF KT DT e l L):=by
 obtain⟨k,o,m,i⟩:=h;have j3:gY 20000000 L K D KF DF KT DT e l=some (K==3||K==4,L,K,D,KF,DF,KT,DT,e,l):=by
  unfold gY;cases(K==3)<;>rfl
 have j4:gP 20000000 (K==3||K==4) L K D KF DF KT DT e l=some (K==3||K==4,!(K==1)&&(!(K==2)&&!(K==3||K==4)),L,K,D,KF,DF,KT,DT,e,l):=by
  unfold gP;rw[show(K != 1)=!(K==1)from rfl,show(K != 2)=!(K==2)from rfl];cases(K==1)<;>cases(K==2)<;>rfl
 have j7:gX 20000000 (K==3||K==4) L K D KF DF KT DT e l=some (unuB K D KF DF KT DT e l L.length,L,K,D,KF,DF,KT,DT,e,l):=by
  unfold gX unuB;have a:decide (len L>0)=!decide (L.length=0):=by
   by_cases d:L.length=0
   ·rw[aq d,am (by unfold len;omega)];rfl
   ·rw[am d,aq (by unfold len;omega)];rfl
  rw[show(K != 1)=!(K==1)from rfl,show(K != 2)=!(K==2)from rfl,a];generalize eqD D d0=p;generalize((KF==0)&&((eqD DF d0)&&true))=z1;generalize((KT==0)&&((eqD DT d0)&&true))=z2;generalize decide (L.length=0)=n;generalize(K==1)=k1;generalize(K==2)=k2;generalize(K==3)=j;generalize(K==4)=k4;cases p<;>cases z1<;>cases z2<;>cases n<;>cases k1<;>cases k2<;>cases j<;>cases k4<;>cases e<;>cases l<;>rfl
 unfold fG ma;rw[j3];simp only[ob,u11,u10,u9,u8,u7,u6,u5,u4,u3,u2,j4];by_cases f:K<1\/4<K
 ·rw[ae f,show(K==1)=false from by simp;omega,show(K==2)=false from by simp;omega,show(K==3)=false from by simp;omega,show(K==4)=false from by simp;omega];rfl
 have c:(!(K==1)&&(!(K==2)&&!(K==3||K==4)))=false:=by
  rcases(by omega:K=1\/K=2\/K=3\/K=4)with rfl | rfl | rfl | rfl<;>rfl
 rw[ab f,c];simp only[af,j7];cases unuB K D KF DF KT DT e l L.length
 ·simp only[af,bs,aC];by_cases k1:K=1
  ·rw[ae k1,show(K==1)=true from by simp[k1],rcT k];rfl
  by_cases k2:K=2
  ·rw[ab k1,ae k2,show(K==1)=false from by simp[k1],show(K==2)=true from by simp[k2],Kp o m];rfl
  rw[ab k1,ab k2,show(K==1)=false from by simp[k1],show(K==2)=false from by simp[k2]];simp only[af];rw[show(len L==0)=decide (L.length=0)from Jj _];by_cases b:L.length=0
  ·rw[aq b,ae b];rfl
  rw[am b,ab b];by_cases g:256<L.length
  ·rw[show decide (len L>256)=true from aq (by show(256:Int)<((L.length:Nat):Int);omega),ae g];rfl
  rw[show decide (len L>256)=false from am (by show¬(256:Int)<((L.length:Nat):Int);omega),ab g,af,af,J4 (by omega) i (by omega)];unfold wq;cases nz (errI K e l L.length) 0 L<;>rfl
 ·rfl
structure RightE(k:Int)(D:TD)(KF:Int)(DF:TD)(KT:Int)(DT:TD)(e l:Bool)(I:List TI):Prop where
 sm:smE D DF DT I
 first:ma k D KF DF KT DT e l I=(0,0)
 len:I.length<=5
 kind:1<=k/\k<=4
 its:∀t∈I,itI t (k==4)=0
def BD{x:TD}(hs:smT x)(hc:cF x=0):RightE 1 x 0 d0 0 d0 false false []:=by
 refine⟨⟨hs,nv,nv,λt c=>by cases c⟩,?_,by simp,by omega,by simp⟩;have a:eqD d0 d0=true:=o7.2 rfl;have b:unuB 1 x 0 d0 0 d0 false false ([]:List TI).length=false:=by unfold unuB;rw[a];rfl
 unfold ma;rw[ab (by omega),ab (by rw[b];simp),ae rfl,hc]
def xK{KF KT:Int}{x y:TD}(hx:smT x)(hy:smT y)(h:rC KF x KT y=0):RightE 2 d0 KF x KT y false false []:=by
 refine⟨⟨nv,hx,hy,λt c=>by cases c⟩,?_,by simp,by omega,by simp⟩;have a:eqD d0 d0=true:=o7.2 rfl;have b:unuB 2 d0 KF x KT y false false ([]:List TI).length=false:=by unfold unuB;rw[a];rfl
 unfold ma;rw[ab (by omega),ab (by rw[b];simp),ab (by omega),ae rfl,h]
def K5(x:TD):xE 1 x=if cF x=0 then if exT x=true then 0 else 11 else cF x:=by
 unfold xE chkB;rw[ae rfl];rfl
def GM{x:TD}(hc:cF x=0)(a:exT x=true):xE 1 x=0:=by
 rw[K5,ae hc,ae a]
def IJ{KF KT:Int}{x y:TD}(b:xE KF x=0)(a:xE KT y=0):rC KF x KT y=if KF≠1/\KT≠1 then 11 else if KF≠1\/KT≠1 then 0 else if(dyT x).1>(dyT y).2 then 11 else 0:=by
 unfold rC HI;rw[b,a,ab (λh=>h rfl),ab (λh=>h rfl)]
noncomputable instance decTI:DecidableEq TI:=λa b=>Classical.propDecidable (a=b)
def LN{t u:TI}:((eqD (iF t) (iF u))&&(((d8 t).2.2.1==(d8 u).2.2.1)&&((eqD (d8 t).2.2.2 (d8 u).2.2.2)&&true)))=decide (t=u):=by
 rw[re,Dy];have hs:∀a b c:Bool,(a&&(b&&(c&&true)))=true↔a=true/\b=true/\c=true:=by decide
 rw[hs,o7,o7,bv];obtain⟨a1,a2,o,r,k,m,i,w,x,e,b,c⟩:=t;obtain⟨s,l,j,q,p,v,h,n,y,d,f,g⟩:=u;simp only[bi,and_assoc]
noncomputable def difI(J:List TI)(i:Nat)(t:TI):Int:=if J[i]?=some t then 0 else 1
def KE{J:List TI}:∀(I:List TI) (i:Nat),i+I.length=J.length->(nz (difI J) i I=none↔I=J.drop i)
 | [],i,h=>by
  rw[nz,iD (by simp at h;omega)];simp
 | t::r,i,h=>by
  have hi:i<J.length:=by simp at h;omega
  have b:J[i]?=some J[i]:=bg hi;rw[nz,qd hi];unfold difI;by_cases a:J[i]?=some t
  ·rw[ae a,ab (by simp)];have:=KE (J:=J) r (i+1) (by simp at h;omega);unfold difI at this;rw[this];rw[b]at a;simp only[ar]at a;simp[a]
  ·rw[ab a,ae (by simp)];rw[b]at a;simp only[ar]at a;simp only[H3];constructor
   ·intro h;cases h
   ·rintro⟨h,_⟩;exact absurd h.symm a
def NC(I J:List TI)(h:I.length=J.length){A:Type}(a b:A):(match nz (difI J) 0 I with | some _=>a | none=>b)=if I=J then b else a:=by
 have:=KE (J:=J) I 0 (by omega);rw[cg]at this;cases hs:nz (difI J) 0 I with
 | none=>rw[ae (this.1 hs)]
 | some p=>rw[ab (λh=>by rw[this.2 h]at hs;cases hs)]
def y4{I J:List TI}(h:I.length=J.length)(hn:I.length<=1000000)(k:Int)(D:TD)(KF:Int)(DF:TD)(KT:Int)(DT:TD)(e l:Bool)(k':Int)(D':TD)(KF':Int)(DF':TD)(KT':Int)(DT':TD)(e' l':Bool):
  au (dm 20000000) 20000000 (0,I,J,k,D,KF,DF,KT,DT,e,l,k',D',KF',DF',KT',DT',e',l')=some (if I=J then .inr ()else .inl 0):=by
 have e2:(match nz (difI J) 0 I with | some p=>(.inl 0:Int⊕Unit) | none=>.inr ())=if I=J then .inr ()else .inl 0:=NC I J h _ _
 rw[<-e2];have:=tQ (step:=dm 20000000) (st:=λi=>((i:Int),I,J,k,D,KF,DF,KT,DT,e,l,k',D',KF',DF',KT',DT',e',l')) (L:=I) (f:=difI J) (yes:=λ_ _=>.inl (0:Int)) (no:=.inr ()) ?_ ?_ I.length 0 (by omega) 20000000 (by omega)
 ·rw[cg]at this;exact this
 ·intro i t ht;have hi:i<I.length:=(rj.1 ht).1;have hj:J[i]?=some (J[i]'(by omega)):=bg (by omega);generalize J[i]'(by omega)=u at hj;unfold dm;simp only[u19,u18,u17,u16,u15,u14,u13,u12,u11,u10,u9,u8,u7,u6,u5,u4,u3,u2];rw[aq (show(i:Int)<len I by show(i:Int)<((I.length:Nat):Int);omega),eZ hi,eZ (show i<J.length by omega)];simp only[aj,ob,ht,hj,LN];rw[tL (by omega)];unfold difI;rw[hj];by_cases he:t=u
  ·rw[aq he,ab (by simp[he])];rfl
  ·rw[am he,ae (by simp only[ar];rw[ab (λh=>he h.symm)];simp)];rfl
 ·unfold dm;simp only[u19,u18,u17,u16,u15,u14,u13,u12,u11,u10,u9,u8,u7,u6,u5,u4,u3,u2];rw[am (show¬((I.length:Nat):Int)<len I by show¬((I.length:Nat):Int)<((I.length:Nat):Int);omega)];rfl
def Ab(n:Nat)(t S R:aa)(a:Int)(p:t.length<4611686018427387904)(o:t.length<n):
  au (dH n) n (t,0,R,S,a)=some (((lcp R t:Nat):Int),S,a):=by
 have:=fm (step:=dH n)
  (λx=>∃j:Nat,j<=t.length/\x=(t,(j:Int),R,S,a)) (λx=>t.length - x.2.1.toNat)
  (λx=>(((x.2.1.toNat+lcp (R.drop x.2.1.toNat) (t.drop x.2.1.toNat):Nat):Int),S,a)) ?_ n (t,0,R,S,a) ⟨0,by omega,rfl⟩ (by simp;omega)
 ·simpa using this
 rintro x ⟨j,m,rfl⟩;simp only[bT,dH,QC];by_cases e:j<t.length/\j<R.length
 ·obtain⟨h,i⟩:=e;obtain⟨c,hc⟩:∃c,t[j]?=some c:=⟨t[j],bg h⟩;obtain⟨d,hd⟩:∃d,R[j]?=some d:=⟨R[j],bg i⟩;have f:wrap .i64 ((j:Int)+1)=((j+1:Nat):Int):=by rw[wrap_i64 _ (by omega) (by omega)];omega
  have g:(decide ((j:Int)<((min t.length R.length:Nat):Int)))=true:=by simp only[ci];omega
  have b:(decide ((j:Int)<((min R.length t.length:Nat):Int)))=true:=by simp only[ci];omega
  simp only[g,b,aj,dw hc,dw hd,ob,nc,bK hc,bK hd,lcp];cases l:d==c with
  | true=>
   refine .inl ⟨_,rfl,⟨j+1,by omega,by rw[f]⟩,?_,?_⟩
   ·simp only[f,bT];omega
   ·simp only[f,bT,bi,vH,aH];omega
  | false=>exact .inr (by simp)
 ·have g:(decide ((j:Int)<((min t.length R.length:Nat):Int)))=false:=by simp only[uk];omega
  have b:(decide ((j:Int)<((min R.length t.length:Nat):Int)))=false:=by simp only[uk];omega
  refine .inr ?_;have k:lcp (R.drop j) (t.drop j)=0:=by
   by_cases h:j<t.length
   ·rw[iD (show R.length<=j by omega)];rfl
   ·rw[iD (show t.length<=j by omega)];cases R.drop j<;>rfl
  simp only[g,b,k,af,ct]
def zS(n:Nat)(t S:aa)(a:Nat)(h:a<=S.length)(b:S.length<4611686018427387904)(e:t.length<4611686018427387904)(f:t.length<n):
  bN n t S (a:Int)=some (if(S.drop a).take t.length=t then .inl (S,((a+t.length:Nat):Int))else .inr (((a+lcp (S.drop a) t:Nat):Int),5,S,(a:Int))):=by
 have d:=wB (S.drop a) t;rw[bj]at d;simp only[bN,mr n t S a h b,ob];by_cases hp:(S.drop a).take t.length=t
 ·simp[hp]
 ·have c:wrap .i64 ((a:Int)+((lcp (S.drop a) t:Nat):Int))=((a+lcp (S.drop a) t:Nat):Int):=by rw[wrap_i64 _ (by omega) (by omega)];omega
  simp only[hp,aC,af,tc n S a h,Ab n t S (S.drop a) (a:Int) e f,AT,c,uY];simp
end Go.Sh
