
import Derived.Test.YtjkmipianfkncaaGreatDoorLawSka
set_option linter.unusedVariables false
set_option linter.unusedSimpArgs false
set_option maxRecDepth 100000
open Go.IntKind(wrap)
set_option linter.defProp false
namespace Go.Sh
open Go.Abs
def Aq(d:aa)(k q:Nat):Nat×Nat:=if 0<q then(val d k / 10 ^ (d.length+k - q)*10 ^ (d.length+k - q),min (val d k / 10 ^ (d.length+k - q)*10 ^ (d.length+k - q)+10 ^ (d.length+k - q) - 1) E16)else(val d k,val d k)
def sgn(g:Bool)(p:Nat×Nat):Int×Int:=if g then(-(p.2:Int),-(p.1:Int))else((p.1:Int),(p.2:Int))
def CG(n:Nat)(g l:Bool)(d:aa)(k q:Nat)(C:200<n)(hd:d.length<=100)(c:Num d k q):
  aI n g l d (k:Int) (q:Int)=some (sgn g (Aq d k q)):=by
 have A:=c.wide;have hs:=c.small;have B:=c.sig;unfold aI;rw[oK n g l d k q (by omega) (by omega),Hi c.dig,jv n d k c.dig hd (by omega) (by omega),ae hs];have s:dval 0 d*10 ^ k=val d k:=rfl;rw[s]at hs ⊢;unfold E16 at hs;have f:((if false=true then(1:Int)else 0)==1)=false:=rfl;simp only[ob,f,af];by_cases m:0<q
 ·have h:decide ((q:Int)>0)=true:=aq (by omega);have w0:wrap .i64 (wrap .i64 (((d.length:Nat):Int)+(k:Int)) - (q:Int))=((d.length+k - q:Nat):Int):=by
   rw[wrap_i64 (((d.length:Nat):Int)+(k:Int)) (by omega) (by omega),wrap_i64 _ (by omega) (by omega)];omega
  have y:10 ^ (d.length+k - q)<=10 ^ 16:=n6 (by decide) (by omega);have r:(10:Nat) ^ 16=10000000000000000:=by decide
  have one:dval 0 [49]=1:=by decide
  have a:dval 0 [49]*10 ^ (d.length+k - q)<=E16:=by rw[one];unfold E16;omega
  rw[h,w0,jv n [49] (d.length+k - q) (by decide) (by decide) (by omega) (by simp;omega),ae a,one,xa];simp only[aj];have D:1<=10 ^ (d.length+k - q):=Ai _ _ (by decide);unfold sgn Aq;rw[ae m];clear a;generalize 10 ^ (d.length+k - q)=u at *;generalize val d k=v at *;have d2:(((u:Nat):Int)==0)=false:=aK.2 (by omega);have e:Int.tdiv ((v:Nat):Int) ((u:Nat):Int)=((v / u:Nat):Int):=rfl;have p:v / u*u<=v:=FR v u;have j:v / u<=v:=zV v u;have z:wrap .i64 ((v / u:Nat):Int)=((v / u:Nat):Int):=by
   generalize v / u=t at *;exact wrap_i64 _ (by omega) (by omega)
  have o:wrap .i64 (((v / u:Nat):Int)*((u:Nat):Int))=((v / u*u:Nat):Int):=by
   rw[<-HO];exact wrap_i64 _ (by omega) (by omega)
  rw[d2,af,e,z,o];generalize v / u*u=lo at *;have x:wrap .i64 (wrap .i64 (((lo:Nat):Int)+((u:Nat):Int)) - 1)=((lo+u - 1:Nat):Int):=by
   rw[wrap_i64 (((lo:Nat):Int)+((u:Nat):Int)) (by omega) (by omega),wrap_i64 _ (by omega) (by omega)];omega
  rw[x];have b:(cond (decide ((10000000000000000:Int)<((lo+u - 1:Nat):Int))) (10000000000000000:Int) ((lo+u - 1:Nat):Int))=((min (lo+u - 1) E16:Nat):Int):=by
   unfold E16;by_cases i:(10000000000000000:Int)<((lo+u - 1:Nat):Int)
   ·rw[aq i,aj];omega
   ·rw[am i,af];omega
  rw[b];have w:min (lo+u - 1) E16<=10000000000000000:=Nat.min_le_right _ _;generalize min (lo+u - 1) E16=hi at *;cases g with
  | true=>
   simp only[aj,aG];rw[wrap_i64 _ (by omega) (by omega),wrap_i64 _ (by omega) (by omega),zA,zA]
  | false=>simp
 ·have h:decide ((q:Int)>0)=false:=am (by omega);rw[h,af];unfold sgn Aq;rw[ab m];cases g with
  | true=>
   simp only[aj,aG];rw[wrap_i64 _ (by omega) (by omega),zA]
  | false=>simp
def eM(z:UInt8)(d:aa):aa:=d.map λc=>if c=88 then z else c
def jb(z:UInt8)(d:aa):(eM z d).length=d.length:=by simp[eM]
def qG{z:UInt8}(e:bp z=true){d:aa}(h:∀c∈d,bp c=true\/c=88):∀c∈eM z d,bp c=true:=by
 intro c hc;obtain⟨b,a,rfl⟩:=eU.1 hc;by_cases hx:b=88
 ·rw[ae hx];exact e
 ·rw[ab hx];exact(h b a).resolve_right hx
def wW{z:UInt8}{d:aa}{i:Nat}{c:UInt8}(h:d[i]?=some c):(eM z d)[i]?=some (if c=88 then z else c):=by
 simp[eM,h]
def tf(d:aa):Nat:=10 ^ (d.reverse.takeWhile (λc=>c != 88)).length
def kF(g:Bool)(d:aa):Nat×Nat:=(if g=true/\dval 0 (eM 48 d)=0 then tf d else dval 0 (eM 48 d),dval 0 (eM 57 d))
def Rz(m:Nat):aI (m+300) true false [48,48,48,88] 0 0=some (sgn true (kF true [48,48,48,88])):=by kernel_rfl
def R7(m:Nat):aI (m+300) true false [48,48,88,48] 0 0=some (sgn true (kF true [48,48,88,48])):=by kernel_rfl
def QY(m:Nat):aI (m+300) true false [48,48,88,88] 0 0=some (sgn true (kF true [48,48,88,88])):=by kernel_rfl
def S8(m:Nat):aI (m+300) true false [48,88,48,48] 0 0=some (sgn true (kF true [48,88,48,48])):=by kernel_rfl
def RJ(m:Nat):aI (m+300) true false [48,88,48,88] 0 0=some (sgn true (kF true [48,88,48,88])):=by kernel_rfl
def Q1(m:Nat):aI (m+300) true false [48,88,88,48] 0 0=some (sgn true (kF true [48,88,88,48])):=by kernel_rfl
def SZ(m:Nat):aI (m+300) true false [48,88,88,88] 0 0=some (sgn true (kF true [48,88,88,88])):=by kernel_rfl
def QR(m:Nat):aI (m+300) true false [88,48,48,48] 0 0=some (sgn true (kF true [88,48,48,48])):=by kernel_rfl
def Rq(m:Nat):aI (m+300) true false [88,48,48,88] 0 0=some (sgn true (kF true [88,48,48,88])):=by kernel_rfl
def R1(m:Nat):aI (m+300) true false [88,48,88,48] 0 0=some (sgn true (kF true [88,48,88,48])):=by kernel_rfl
def NN(m:Nat):aI (m+300) true false [88,48,88,88] 0 0=some (sgn true (kF true [88,48,88,88])):=by kernel_rfl
def PK(m:Nat):aI (m+300) true false [88,88,48,48] 0 0=some (sgn true (kF true [88,88,48,48])):=by kernel_rfl
def Pj(m:Nat):aI (m+300) true false [88,88,48,88] 0 0=some (sgn true (kF true [88,88,48,88])):=by kernel_rfl
def NH(m:Nat):aI (m+300) true false [88,88,88,48] 0 0=some (sgn true (kF true [88,88,88,48])):=by kernel_rfl
def Oz(m:Nat):aI (m+300) true false [88,88,88,88] 0 0=some (sgn true (kF true [88,88,88,88])):=by kernel_rfl
def DG{d:aa}(j:d.length=4)(h:∀c∈d,bp c=true\/c=88)(g:dval 0 (eM 48 d)=0):∀c∈d,c=48\/c=88:=by
 match d,j with
 | [a,b,c,e],_=>
  have hd:=qG (z:=48) (by decide) h;have k:dval 0 (eM 48 [a,b,c,e])=((((0*10+((if a=88 then(48:UInt8)else a).toNat - 48))*10+((if b=88 then(48:UInt8)else b).toNat - 48))*10+((if c=88 then(48:UInt8)else c).toNat - 48))*10+((if e=88 then(48:UInt8)else e).toNat - 48)):=by
   simp only[eM,fV,List.map_nil,ou,pp,vw]
  rw[k]at g;have key:∀x:UInt8,bp (if x=88 then(48:UInt8)else x)=true->(if x=88 then(48:UInt8)else x).toNat - 48=0->x=48\/x=88:=by
   intro x hx i;by_cases f:x=88
   ·exact .inr f
   ·rw[ab f]at hx i;have:=(ck x).1 hx;exact .inl (gu.1 (by show x.toNat=48;omega))
  simp only[eM,fV,List.map_nil,de,sQ,us,EK,forall_eq]at hd ⊢;exact⟨key a hd.1 (by omega),key b hd.2.1 (by omega),key c hd.2.2.1 (by omega),key e hd.2.2.2 (by omega)⟩
def zK{d:aa}(x:d.length=4)(h:∀c∈d,c=48\/c=88)(t:hasX d=true)(P:aa->Prop)(s:P [48,48,48,88])(w:P [48,48,88,48])(q:P [48,48,88,88])(o:P [48,88,48,48])(u:P [48,88,48,88])(l:P [48,88,88,48])(n:P [48,88,88,88])(y:P [88,48,48,48])(p:P [88,48,48,88])(v:P [88,48,88,48])(f:P [88,48,88,88])(i:P [88,88,48,48])(k:P [88,88,48,88])(g:P [88,88,88,48])(j:P [88,88,88,88]):P d:=by
 match d,x with
 | [a,b,c,e],_=>
  simp only[de,sQ,us,EK,forall_eq]at h;obtain⟨z,r,hc,m⟩:=h;rcases z with rfl | rfl<;>rcases r with rfl | rfl<;>rcases hc with rfl | rfl<;>rcases m with rfl | rfl
  ·exact absurd t (by decide)
  ·exact s
  ·exact w
  ·exact q
  ·exact o
  ·exact u
  ·exact l
  ·exact n
  ·exact y
  ·exact p
  ·exact v
  ·exact f
  ·exact i
  ·exact k
  ·exact g
  ·exact j
def E0(n:Nat)(g l:Bool)(d:aa)(x s:Int)(o:d.length=4)(p:4<n):au (ga n) n ([],[],0,g,l,d,x,s)=some (eM 48 d,eM 57 d,g,l,d,x,s):=by
 refine fK (step:=ga n) (λq=>∃i:Nat,i<=4/\q=((eM 48 d).take i,(eM 57 d).take i,(i:Int),g,l,d,x,s)) (λq=>4 - q.2.2.1.toNat) (λ_=>(eM 48 d,eM 57 d,g,l,d,x,s)) ?_ n _ ⟨0,by omega,by simp⟩ (by simp;omega);rintro q ⟨i,hi,rfl⟩;rcases aF i 4 with k | h
 ·obtain⟨c,hc⟩:∃c,d[i]?=some c:=⟨d[i],bf (by omega)⟩;have b:=RZ (wW (z:=48) hc);have f:=RZ (wW (z:=57) hc);have j:decide ((i:Int)<4)=true:=aq (by omega);have m:wrap .i64 ((i:Int)+1)=((i+1:Nat):Int):=by rw[wrap_i64 _ (by omega) (by omega)];omega
  refine .inl ⟨((eM 48 d).take (i+1),(eM 57 d).take (i+1),((i+1:Nat):Int),g,l,d,x,s),?_,⟨i+1,by omega,rfl⟩,by simp only[ch];omega,rfl⟩;simp only[ga,j,aj,m,fC (show i+1<=d.length by omega),fC (show i<=i+1 by omega),ob,cut1 hc];have a:∀z:UInt8,((eM z d).take i).length<=4:=λz=>by rw[dq];omega
  rw[b,f];by_cases hx:c=88
  ·have e:(([c]:aa)==[88])=true:=by rw[hx];rfl
   rw[e,aj,ae hx,ae hx,kq (by have:=a 48;simp;omega),kq (by have:=a 57;simp;omega)]
  ·have e:(([c]:aa)==[88])=false:=by
    rw[aK];intro e;exact hx (by simpa using e)
   rw[e,af,ab hx,ab hx,kq (by have:=a 48;simp;omega),kq (by have:=a 57;simp;omega)]
 ·have:i=4:=by omega
  subst this;refine .inr ?_;rw[iR (by rw[jb];omega),iR (by rw[jb];omega)];rfl
def It{d:aa}(h:d=[48,48,48,48]):dval 0 d=0:=by rw[h];decide
def AL(m:Nat)(g:Bool)(d:aa)(h:okY g false d 0 0)(k:hasX d=true):aI (m+300) g false d 0 0=some (sgn g (kF g d)):=by
 obtain⟨_,_,_,j,hd⟩:=qz h k;by_cases c:g=true/\dval 0 (eM 48 d)=0
 ·obtain⟨rfl,c⟩:=c;exact zK j (DG j hd c) k (λd=>aI (m+300) true false d 0 0=some (sgn true (kF true d))) (Rz m) (R7 m) (QY m) (S8 m) (RJ m) (Q1 m) (SZ m) (QR m) (Rq m) (R1 m) (NN m) (PK m) (Pj m) (NH m) (Oz m)
 ·have hs:kF g d=(dval 0 (eM 48 d),dval 0 (eM 57 d)):=by unfold kF;rw[ab c]
  have i:=qG (z:=48) (by decide) hd;have f:=qG (z:=57) (by decide) hd;have o:=uE (eM 48 d) 0 0 i (by simp);have p:=uE (eM 57 d) 0 0 f (by simp);rw[jb,j]at o p;have q:(10:Nat) ^ (4+0)=10000:=by decide
  have m1:ak (m+300) (eM 48 d) 0=some (((dval 0 (eM 48 d):Nat):Int),1):=by
   have:=jv (m+300) (eM 48 d) 0 i (by rw[jb];omega) (by omega) (by rw[jb];omega);rw[ae (by unfold E16;simp only[AE,qN];omega)]at this;simpa using this
  have m2:ak (m+300) (eM 57 d) 0=some (((dval 0 (eM 57 d):Nat):Int),1):=by
   have:=jv (m+300) (eM 57 d) 0 f (by rw[jb];omega) (by omega) (by rw[jb];omega);rw[ae (by unfold E16;simp only[AE,qN];omega)]at this;simpa using this
  have n:((if true=true then(1:Int)else 0)==1)=true:=rfl;have l:decide ((0:Int)>0)=false:=rfl;unfold aI;rw[oK _ g false d 0 0 (by omega) (by omega),k,E0 _ g false d 0 0 j (by omega),hs];simp only[ob,aG,vp,aj];cases g with
  | true=>
   have e:(eM 48 d==([48,48,48,48]:aa))=false:=by
    rw[aK];intro e;exact c ⟨rfl,It e⟩
   simp only[aj,e,af,m1,m2,l,sgn,aG];generalize dval 0 (eM 48 d)=a at *;generalize dval 0 (eM 57 d)=b at *;rw[wrap_i64 _ (by omega) (by omega),wrap_i64 _ (by omega) (by omega),zA,zA]
  | false=>simp only[af,m1,m2,l,sgn,bj,az]
def pH(g:Bool)(d:aa)(x s:Int):Nat×Nat:=if hasX d then kF g d else Aq d x.toNat s.toNat
def N8(m:Nat)(g l:Bool)(d:aa)(x s:Int)(hd:d.length<=100)(h:okY g l d x s):aI (m+300) g l d x s=some (sgn g (pH g d x s)):=by
 unfold pH;cases a:hasX d with
 | true=>
  obtain⟨rfl,rfl,rfl,e,b⟩:=qz h a;exact AL m g d h a
 | false=>
  obtain⟨k,q,rfl,rfl,c⟩:=s9 h a;exact CG _ g l d k q (by omega) hd c
def SB{d:aa}{k q:Nat}(h:Num d k q):(Aq d k q).1<=val d k/\val d k<=(Aq d k q).2/\(Aq d k q).2<=E16:=by
 have hs:=h.small;have c:dval 0 d*10 ^ k=val d k:=rfl;rw[c]at hs;unfold Aq;split
 ·have a:1<=10 ^ (d.length+k - q):=Ai _ _ (by decide);generalize 10 ^ (d.length+k - q)=u at a ⊢;generalize val d k=v at hs ⊢;have b:=FR v u;have e:v<v / u*u+u:=by
   have h:=Nat.div_add_mod v u;have:=AS v a;rw[uv]at h;omega
  refine⟨b,?_,Nat.min_le_right _ _⟩;rw[Nat.le_min];omega
 ·exact⟨aQ _,aQ _,hs⟩
def mtk(d:aa):Nat->Nat->Bool
 | 0,_=>true
 | k+1,w=>(decide (d.getD k 0=88)||decide ((d.getD k 0).toNat=48+w%10))&&mtk d k (w / 10)
def zW(d:aa)(k w:Nat):mtk d (k+1) w=((decide (d.getD k 0=88)||decide ((d.getD k 0).toNat=48+w%10))&&mtk d k (w / 10)):=rfl
def Bm{d:aa}{k:Nat}{c:UInt8}(h:d[k]?=some c):d.getD k 0=c:=by
 rw[zD,h];rfl
def J0(n:Nat)(g l:Bool)(d:aa)(x s:Int)(u:d.length=4):∀(k w:Nat),k<=4->w<100000000000000000->∀q,k<q->
  au (bM n) q ((w:Int),(k:Int) - 1,g,l,d,x,s)=some (if mtk d k w=true then .inr ((w / 10 ^ k:Nat):Int)else .inl 0)
 | 0,w,m,t,q,v=>by
  obtain⟨q,rfl⟩:∃p,q=p+1:=⟨q - 1,by omega⟩;have i:decide (((0:Nat):Int) - 1>=0)=false:=rfl;have f:mtk d 0 w=true:=rfl;simp only[au,bM,i,af];rw[ae f];simp
 | k+1,w,m,t,q,v=>by
  obtain⟨q,rfl⟩:∃p,q=p+1:=⟨q - 1,by omega⟩;have ih:=J0 n g l d x s u k (w / 10) (by omega) (by omega) q (by omega);obtain⟨c,hc⟩:∃c,d[k]?=some c:=⟨d[k],bf (by omega)⟩;have z:((k+1:Nat):Int) - 1=(k:Int):=by omega
  have i:decide ((k:Int)>=0)=true:=aq (by omega);have y:Int.tmod (w:Int) 10=((w%10:Nat):Int):=rfl;have eq':Int.tdiv (w:Int) 10=((w / 10:Nat):Int):=rfl;have B:wrap .i64 (48+((w%10:Nat):Int))=((48+w%10:Nat):Int):=by rw[wrap_i64 _ (by omega) (by omega)];omega
  have r:wrap .u8 ((48+w%10:Nat):Int)=((48+w%10:Nat):Int):=ke _ (by omega) (by omega);have A:wrap .i64 ((w / 10:Nat):Int)=((w / 10:Nat):Int):=wrap_i64 _ (by omega) (by omega);have o:wrap .i64 ((k:Int) - 1)=(k:Int) - 1:=wrap_i64 _ (by omega) (by omega);have a:w / 10 ^ (k+1)=w / 10 / 10 ^ k:=by rw[sC,uv,Nat.div_div_eq_div_mul]
  rw[zW,Bm hc,a,z];simp only[au,bM,i,aj,dE hc,ob,y,eq',B,r,A,o];by_cases hx:c=88
  ·have b:(((c.toNat:Nat):Int) != 88)=false:=by rw[hx];rfl
   rw[b,aq hx];simp only[af,HN,nO];exact ih
  ·have b:(((c.toNat:Nat):Int) != 88)=true:=by
    simp only[bne,kL,aK];intro e;exact hx (gu.1 (by show c.toNat=88;omega))
   rw[b,am hx];simp only[aj,oU];by_cases h:c.toNat=48+w%10
   ·have j:(((c.toNat:Nat):Int) != ((48+w%10:Nat):Int))=false:=by rw[h];simp
    rw[j,aq h];simp only[af,nO];exact ih
   ·have j:(((c.toNat:Nat):Int) != ((48+w%10:Nat):Int))=true:=by
     simp only[bne,kL,aK];omega
    rw[j,am h];simp only[aj,xf];rfl
def Ei(d:aa)(k q:Nat):Nat:=if 0<q then 10 ^ (d.length+k - q)else 1
def memP(d:aa)(x s:Int)(w:Nat):Prop:=if hasX d=true then mtk d 4 w=true/\w / 10 ^ 4=0 else val d x.toNat / Ei d x.toNat s.toNat=w / Ei d x.toNat s.toNat
instance (d:aa)(x s:Int)(w:Nat):Decidable (memP d x s w):=by unfold memP;infer_instance
def wOf(g:Bool)(v:Int):Int:=if g then -v else v
def inP(g:Bool)(d:aa)(x s v:Int):Prop:=-10000000000000000<=v/\v<=10000000000000000/\0<=wOf g v/\¬(hasX d=true/\g=true/\wOf g v=0)/\memP d x s (wOf g v).toNat
instance (g:Bool)(d:aa)(x s v:Int):Decidable (inP g d x s v):=by unfold inP;infer_instance
noncomputable def inT(n:Nat)(a0 a1:Bool)(a2:aa)(g h W:Int):Option Int:=
 (ob (aD n a0 a1 a2 g h) λe=>(cond (e==1) (ob (au (bM n) n (W,3,a0,a1,a2,g,h)) λd=>(Sum.casesOn (motive:=λ_=>Option _) d (λc=>(some c)) (λf=>(cond (decide (f>0)) (some 0) (some 1))))) (ob (ak n a2 g) λb=>(cond (decide (h>0)) (ob (ak n [49] (wrap .i64 ((wrap .i64 (((List.length a2:Nat):Int)+g)) - h))) λa=>(cond (a.1==0) none (cond (a.1==0) none (cond ((wrap .i64 (Int.tdiv b.1 a.1))==(wrap .i64 (Int.tdiv W a.1))) (some 1) (some 0))))) (cond ((wrap .i64 (Int.tdiv b.1 1))==(wrap .i64 (Int.tdiv W 1))) (some 1) (some 0))))))
def JI(a b:Nat):(((a:Nat):Int)==((b:Nat):Int))=decide (a=b):=by
 by_cases h:a=b
 ·subst h;simp
 ·rw[am h,aK];omega
def Ht{d:aa}{x s:Int}{w:Nat}(a:hasX d=true):memP d x s w↔mtk d 4 w=true/\w / 10 ^ 4=0:=by unfold memP;rw[ae a]
def QA{d:aa}{x s:Int}{w:Nat}(a:hasX d=false):memP d x s w↔val d x.toNat / Ei d x.toNat s.toNat=w / Ei d x.toNat s.toNat:=by unfold memP;rw[ab (by rw[a];simp)]
def in_T(m:Nat){g l:Bool}{d:aa}{x s:Int}(n:okY g l d x s)(w:Nat)(R:w<=10000000000000000):inT (m+300) g l d x s (w:Int)=some (if memP d x s w then 1 else 0):=by
 have P:=kC n;have J:=oK (m+300) g l d x s (by omega) (by omega);unfold inT;cases h:hasX d with
 | true=>
  obtain⟨rfl,rfl,rfl,O,_⟩:=qz n h;have D:=J0 (m+300) g false d 0 0 O 4 w (by omega) (by omega) (m+300) (by omega);have hlp':au (bM (m+300)) (m+300) ((w:Int),3,g,false,d,0,0)=_:=D;have C:((1:Int)==1)=true:=rfl;have j:aD (m+300) g false d 0 0=some 1:=by rw[J,h];rfl
  rw[j];simp only[ob,C,aj,hlp'];by_cases A:mtk d 4 w=true
  ·rw[ae A];by_cases z:w / 10 ^ 4=0
   ·have e:decide (((w / 10 ^ 4:Nat):Int)>0)=false:=am (by rw[z];decide);rw[ae ((Ht h).2 ⟨A,z⟩)];simp only[e,af]
   ·have e:decide (((w / 10 ^ 4:Nat):Int)>0)=true:=aq (by
     generalize w / 10 ^ 4=t at z ⊢;omega)
    rw[ab (λq=>z ((Ht h).1 q).2)];simp only[e,aj]
  ·rw[ab A,ab (λq=>A ((Ht h).1 q).1)]
 | false=>
  obtain⟨k,q,rfl,rfl,y⟩:=s9 n h;have hw':=y.wide;have hs:=y.small;have S:=y.sig;have I:dval 0 d*10 ^ k=val d k:=rfl;have G:=jv (m+300) d k y.dig (by omega) (by omega) (by omega);rw[ae hs,I]at G;rw[I]at hs;unfold E16 at hs;have B:((0:Int)==1)=false:=rfl;have j:aD (m+300) g l d k q=some 0:=by rw[J,h];rfl
  have c:=QA (x:=(k:Int)) (s:=(q:Int)) (w:=w) h;rw[ch,ch]at c;unfold Ei at c;rw[j];simp only[ob,B,af,G];by_cases H:0<q
  ·have E:decide ((q:Int)>0)=true:=aq (by omega);have w0:wrap .i64 (wrap .i64 (((d.length:Nat):Int)+(k:Int)) - (q:Int))=((d.length+k - q:Nat):Int):=by
    rw[wrap_i64 (((d.length:Nat):Int)+(k:Int)) (by omega) (by omega),wrap_i64 _ (by omega) (by omega)];omega
   have F:10 ^ (d.length+k - q)<=10 ^ 16:=n6 (by decide) (by omega);have M:(10:Nat) ^ 16=10000000000000000:=by decide
   have one:dval 0 [49]=1:=by decide
   have i:dval 0 [49]*10 ^ (d.length+k - q)<=E16:=by rw[one];unfold E16;omega
   have o:=jv (m+300) [49] (d.length+k - q) (by decide) (by decide) (by omega) (by simp;omega);rw[ae i,one,xa]at o;have Q:1<=10 ^ (d.length+k - q):=Ai _ _ (by decide);rw[E,w0,o];rw[ae H]at c;clear i o;generalize 10 ^ (d.length+k - q)=u at Q F c ⊢;generalize val d k=v at hs c ⊢;have d2:(((u:Nat):Int)==0)=false:=aK.2 (by omega);have p:Int.tdiv ((v:Nat):Int) ((u:Nat):Int)=((v / u:Nat):Int):=rfl;have r:Int.tdiv ((w:Nat):Int) ((u:Nat):Int)=((w / u:Nat):Int):=rfl;have K:v / u<=v:=zV v u;have N:w / u<=w:=zV w u;simp only[aj,d2,af,p,r];generalize v / u=a at K c ⊢;generalize w / u=b at N c ⊢;rw[wrap_i64 _ (by omega) (by omega),wrap_i64 _ (by omega) (by omega),JI];by_cases f:a=b
   ·rw[aq f,ae (c.2 f)];rfl
   ·rw[am f,ab (λq=>f (c.1 q))];rfl
  ·have E:decide ((q:Int)>0)=false:=am (by omega);have L:∀a:Nat,Int.tdiv ((a:Nat):Int) 1=((a:Nat):Int):=λa=>by
    have:Int.tdiv ((a:Nat):Int) 1=((a / 1:Nat):Int):=rfl;rw[this,sE]
   rw[ab H,sE,sE]at c;rw[E];simp only[af,L];rw[wrap_i64 _ (by omega) (by omega),wrap_i64 _ (by omega) (by omega),JI];by_cases f:val d k=w
   ·rw[aq f,ae (c.2 f)];rfl
   ·rw[am f,ab (λq=>f (c.1 q))];rfl
def Ue(m:Nat){g l:Bool}{d:aa}{x s:Int}(n:okY g l d x s)(v:Int):na (m+300) g l d x s v=some (if inP g d x s v then 1 else 0):=by
 have y:=kC n;have b:=λw o=>in_T m n w o;have p:=oK (m+300) g l d x s (by omega) (by omega);unfold inT at b;unfold na;by_cases t:v < -10000000000000000
 ·rw[aq t,ab (λq=>by have:=q.1;omega)];rfl
 ·rw[am t,af];by_cases u:v>10000000000000000
  ·rw[aq u,ab (λq=>by have:=q.2.1;omega)];rfl
  ·rw[am u,af];cases g with
   | true=>
    have w0:wrap .i64 (0 - v)=-v:=by rw[wrap_i64 _ (by omega) (by omega)];omega
    simp only[aj,w0];by_cases k:-v<0
    ·rw[aq k,ab (λq=>by have:=q.2.2.1;unfold wOf at this;simp only[aG]at this;omega)];rfl
    ·rw[am k,af];obtain⟨w,o⟩:∃w:Nat,-v=(w:Int):=⟨(-v).toNat,by omega⟩;have b:=b w (by omega);have h:wOf true v=(w:Int):=by unfold wOf;simpa using o
     have c:¬(hasX d=true/\w=0)->(inP true d x s v↔memP d x s w):=by
      intro r;unfold inP;rw[h,ch];constructor
      ·exactλq=>q.2.2.2.2
      ·exactλq=>⟨by omega,by omega,by omega,λq=>r ⟨q.1,by omega⟩,q⟩
     rw[o];cases j:hasX d with
     | true=>
      have a:aD (m+300) true l d x s=some 1:=by rw[p,j];rfl
      rw[a];have f:((1:Int)==1)=true:=rfl;simp only[ob,f,aj];by_cases r:w=0
      ·have e:(((w:Nat):Int)==0)=true:=bu.2 (by omega);rw[e,ab (λq=>q.2.2.2.1 ⟨j,rfl,by rw[h];omega⟩)];rfl
      ·have e:(((w:Nat):Int)==0)=false:=aK.2 (by omega);rw[a]at b;simp only[ob,f,aj]at b;rw[e,af,b];have:=c (λq=>r q.2);by_cases hp:memP d x s w
       ·rw[ae hp,ae (this.2 hp)]
       ·rw[ab hp,ab (λq=>hp (this.1 q))]
     | false=>
      have a:aD (m+300) true l d x s=some 0:=by rw[p,j];rfl
      have i:((0:Int)==1)=false:=rfl;rw[a]at b ⊢;simp only[ob,i,af]at b ⊢;rw[b];have:=c (λq=>by rw[j]at q;cases q.1);by_cases hp:memP d x s w
      ·rw[ae hp,ae (this.2 hp)]
      ·rw[ab hp,ab (λq=>hp (this.1 q))]
   | false=>
    simp only[af];by_cases k:v<0
    ·rw[aq k,ab (λq=>by have:=q.2.2.1;unfold wOf at this;simp only[bj,az]at this;omega)];rfl
    ·rw[am k,af];obtain⟨w,rfl⟩:∃w:Nat,v=(w:Int):=⟨v.toNat,by omega⟩;have b:=b w (by omega);have h:wOf false (w:Int)=(w:Int):=rfl;have c:inP false d x s (w:Int)↔memP d x s w:=by
      unfold inP;rw[h,ch];constructor
      ·exactλq=>q.2.2.2.2
      ·exactλq=>⟨by omega,by omega,by omega,λq=>(by cases q.2.1),q⟩
     cases j:hasX d with
     | true=>
      have a:aD (m+300) false l d x s=some 1:=by rw[p,j];rfl
      rw[a]at b ⊢;have f:((1:Int)==1)=true:=rfl;simp only[ob,f,aj]at b ⊢;rw[b];by_cases hp:memP d x s w
      ·rw[ae hp,ae (c.2 hp)]
      ·rw[ab hp,ab (λq=>hp (c.1 q))]
     | false=>
      have a:aD (m+300) false l d x s=some 0:=by rw[p,j];rfl
      rw[a]at b ⊢;have i:((0:Int)==1)=false:=rfl;simp only[ob,i,af]at b ⊢;rw[b];by_cases hp:memP d x s w
      ·rw[ae hp,ae (c.2 hp)]
      ·rw[ab hp,ab (λq=>hp (c.1 q))]
def loK(d:aa)(k:Nat):Nat:=dval 0 ((eM 48 d).take k)
def hiK(d:aa)(k:Nat):Nat:=dval 0 ((eM 57 d).take k)
def xU(z:UInt8){d:aa}{k:Nat}{c:UInt8}(h:d[k]?=some c):dval 0 ((eM z d).take (k+1))=dval 0 ((eM z d).take k)*10+((if c=88 then z else c).toNat - 48):=by
 rw[RZ (wW h),GT]
def BM(d:aa)(g:d.length=4)(hd:∀c∈d,bp c=true\/c=88):∀(k w:Nat),k<=4->w<10 ^ k->mtk d k w=true->loK d k<=w/\w<=hiK d k
 | 0,w,e,b,a=>by
  simp at b;subst b;simp[loK,hiK,pp]
 | k+1,w,e,b,a=>by
  obtain⟨c,hc⟩:∃c,d[k]?=some c:=⟨d[k],bf (by omega)⟩;rw[zW,Bm hc,aC,iC,cr,cr]at a;have hp:(10:Nat) ^ (k+1)=10 ^ k*10:=sC 10 k;have ih:=BM d g hd k (w / 10) (by omega) (by omega) a.2;have h:=xU 48 hc;have i:=xU 57 hc;unfold loK hiK at ih ⊢;rw[h,i];by_cases hx:c=88
  ·rw[ae hx,ae hx];have f:(48:UInt8).toNat - 48=0:=rfl;have j:(57:UInt8).toNat - 48=9:=rfl;rw[f,j];omega
  ·rw[ab hx,ab hx];have:=a.1.resolve_left hx;omega
def Az(z:UInt8)(f:bp z=true)(d:aa)(i:d.length=4)(hd:∀c∈d,bp c=true\/c=88):∀k,k<=4->mtk d k (dval 0 ((eM z d).take k))=true
 | 0,_=>rfl
 | k+1,m=>by
  obtain⟨c,hc⟩:∃c,d[k]?=some c:=⟨d[k],bf (by omega)⟩;have ih:=Az z f d i hd k (by omega);have e:bp (if c=88 then z else c)=true:=by
   by_cases hx:c=88
   ·rw[ae hx];exact f
   ·rw[ab hx];exact(hd c (fG hc)).resolve_right hx
  have j:=(ck _).1 e;rw[zW,Bm hc,xU z hc];generalize g:(if c=88 then z else c)=b at j ⊢;generalize dval 0 ((eM z d).take k)=a at ih ⊢;have h:(a*10+(b.toNat - 48)) / 10=a:=by omega
  have l:(a*10+(b.toNat - 48))%10=b.toNat - 48:=by omega
  rw[h,l,ih,Dk];by_cases hx:c=88
  ·rw[aq hx];rfl
  ·rw[ab hx]at g;rw[g,aq (show b.toNat=48+(b.toNat - 48)by omega),Bool.or_true]
def Ao:List (aa):=[[48,48,48,88],[48,48,88,48],[48,48,88,88],[48,88,48,48],[48,88,48,88],[48,88,88,48],[48,88,88,88],[88,48,48,48],[88,48,48,88],[88,48,88,48],[88,48,88,88],[88,88,48,48],[88,88,48,88],[88,88,88,48],[88,88,88,88]]
def WN:Ao.all (λd=>mtk d 4 (tf d)&&decide (1<=tf d)&&decide (tf d<=1000)&&(List.range 1000).all (λw=>decide (w=0)||!mtk d 4 w||decide (tf d<=w)))=true:=by decide +kernel
def D7{d:aa}(hd:d∈Ao):mtk d 4 (tf d)=true/\1<=tf d/\tf d<=1000/\∀w,1<=w->mtk d 4 w=true->tf d<=w:=by
 have h:=cE.1 WN d hd;simp only[aC,cr,cE,kB,iC,kL]at h;obtain⟨⟨⟨f,i⟩,c⟩,b⟩:=h;refine⟨f,i,c,λw j e=>?_⟩;rcases aF w 1000 with a | g
 ·rcases b w a with(h | h) | h
  ·omega
  ·rw[e]at h;cases h
  ·exact h
 ·omega
def CU{d:aa}(a:d.length=4)(hd:∀c∈d,bp c=true\/c=88)(e:hasX d=true)(b:dval 0 (eM 48 d)=0):d∈Ao:=
 zK a (DG a hd b) e (λd=>d∈Ao) (by decide) (by decide) (by decide) (by decide) (by decide) (by decide) (by decide) (by decide) (by decide) (by decide) (by decide) (by decide) (by decide) (by decide) (by decide)
def S4{d:aa}(a:d.length=4):loK d 4=dval 0 (eM 48 d):=by
 unfold loK;rw[iR (by rw[jb];omega)]
def Rl{d:aa}(a:d.length=4):hiK d 4=dval 0 (eM 57 d):=by
 unfold hiK;rw[iR (by rw[jb];omega)]
def PP{g:Bool}{d:aa}(b:d.length=4)(hd:∀c∈d,bp c=true\/c=88)(p:hasX d=true):
  (kF g d).1<10000/\(kF g d).2<10000/\mtk d 4 (kF g d).1=true/\mtk d 4 (kF g d).2=true/\1<=(kF g d).2/\(g=true->1<=(kF g d).1)/\∀w,w<10000->mtk d 4 w=true->(g=true->1<=w)->(kF g d).1<=w/\w<=(kF g d).2:=by
 have q:(10:Nat) ^ 4=10000:=by decide
 have o:=qG (z:=48) (by decide) hd;have m:=qG (z:=57) (by decide) hd;have b1:=uE (eM 48 d) 0 0 o (by simp);have b2:=uE (eM 57 d) 0 0 m (by simp);rw[jb,b,cG,q]at b1 b2;have m1:=Az 48 (by decide) d b hd 4 (by omega);have m2:=Az 57 (by decide) d b hd 4 (by omega);rw[iR (by rw[jb];omega)]at m1 m2;have l:∀w,w<10000->mtk d 4 w=true->dval 0 (eM 48 d)<=w/\w<=dval 0 (eM 57 d):=λw k f=>by
  have:=BM d b hd 4 w (by omega) (by omega) f;rw[S4 b,Rl b]at this;exact this
 have i:1<=dval 0 (eM 57 d):=by
  rcases Ac (dval 0 (eM 57 d))with h | h
  ·exfalso;have e:dval 0 (eM 48 d)=0:=by
    have:=(l _ b1 m1).2;omega
   have n:=CU b hd p e;have a:=D7 n;have:=(l _ (by omega) a.1).2;omega
  ·exact h
 unfold kF;by_cases e:g=true/\dval 0 (eM 48 d)=0
 ·rw[ae e];have a:=D7 (CU b hd p e.2);refine⟨by simp only;omega,b2,a.1,m2,i,λ_=>a.2.1,λw k f j=>⟨a.2.2.2 w (j e.1) f,(l w k f).2⟩⟩
 ·rw[ab e];refine⟨b1,b2,m1,m2,i,λj=>?_,λw k f j=>l w k f⟩;simp only;rcases Ac (dval 0 (eM 48 d))with h | h
  ·exact absurd ⟨j,h⟩ e
  ·exact h
def OO{g l:Bool}{d:aa}{x s:Int}(f:okY g l d x s):(pH g d x s).1<=10000000000000000/\(pH g d x s).2<=10000000000000000/\memP d x s (pH g d x s).1/\memP d x s (pH g d x s).2/\(hasX d=true->1<=(pH g d x s).2/\(g=true->1<=(pH g d x s).1))/\
  ∀w,w<=10000000000000000->memP d x s w->(hasX d=true->g=true->1<=w)->(pH g d x s).1<=w/\w<=(pH g d x s).2:=by
 unfold pH memP;cases p:hasX d with
 | true=>
  obtain⟨rfl,rfl,rfl,N,hd⟩:=qz f p;obtain⟨G,F,D,I,K,M,L⟩:=PP (g:=g) N hd p;have H:(10:Nat) ^ 4=10000:=by decide
  simp only[aG,H];refine⟨by omega,by omega,⟨D,Nat.div_eq_of_lt G⟩,⟨I,Nat.div_eq_of_lt F⟩,λ_=>⟨K,M⟩,λw z j C=>L w (by omega) j.1 (C trivial)⟩
 | false=>
  obtain⟨k,q,rfl,rfl,y⟩:=s9 f p;have hs:=y.small;have J:dval 0 d*10 ^ k=val d k:=rfl;rw[J]at hs;obtain⟨i,c,b⟩:=SB y;unfold E16 at b;simp only[bj,az,ch];unfold Ei;unfold Aq at i c b ⊢;by_cases m:0<q
  ·rw[ae m]at i c b ⊢;rw[ae m];have B:1<=10 ^ (d.length+k - q):=Ai _ _ (by decide);generalize 10 ^ (d.length+k - q)=u at *;generalize val d k=v at *;simp only at i c b ⊢;have e:v / u*u / u=v / u:=Nat.mul_div_cancel _ B;have o:∀w,v / u*u<=w->w<v / u*u+u->w / u=v / u:=by
    intro w A n;apply Nat.div_eq_of_lt_le
    ·exact A
    ·rw[Nat.succ_mul];exact n
   have a:∀w,v / u=w / u->v / u*u<=w/\w<v / u*u+u:=by
    intro w h;rw[h];have A:=FR w u;have n:=Nat.div_add_mod w u;have O:=AS w B;rw[uv]at n;omega
   have t:min (v / u*u+u - 1) E16<=v / u*u+u - 1:=Nat.min_le_left _ _;have r:=a v rfl;refine⟨by omega,b,e.symm,(o _ (by omega) (by omega)).symm,λq=>(by cases q),λw z j _=>?_⟩;obtain⟨E,P⟩:=a w j;refine⟨E,?_⟩;rw[Nat.le_min];unfold E16;omega
  ·rw[ab m]at i c b ⊢;rw[ab m];simp only[sE]at i c b ⊢;refine⟨b,b,trivial,trivial,λq=>(by cases q),λw z j _=>by omega⟩
def Ny{g l:Bool}{d:aa}{x s:Int}(i:okY g l d x s):inP g d x s (sgn g (pH g d x s)).1/\inP g d x s (sgn g (pH g d x s)).2/\∀v,inP g d x s v->(sgn g (pH g d x s)).1<=v/\v<=(sgn g (pH g d x s)).2:=by
 obtain⟨o,n,m,p,u,w⟩:=OO i;generalize pH g d x s=D at *;obtain⟨lo,hi⟩:=D;simp only at o n m p u w;cases g with
 | true=>
  have b:∀a:Nat,wOf true (-(a:Int))=(a:Int):=λa=>by unfold wOf;simp
  have mk:∀a:Nat,a<=10000000000000000->memP d x s a->(hasX d=true->1<=a)->inP true d x s (-(a:Int)):=by
   intro a C f y;refine⟨by omega,by omega,by rw[b];omega,λq=>?_,by rw[b,ch];exact f⟩;have:=y q.1;have A:=q.2.2;rw[b]at A;omega
  simp only[sgn,aG];refine⟨mk hi n p (λh=>(u h).1),mk lo o m (λh=>(u h).2 rfl),λv t=>?_⟩;obtain⟨B,z,k,r,c⟩:=t;have j:wOf true v=-v:=rfl;rw[j]at k r c
  have:=w (-v).toNat (by omega) c (λhx _=>by
   have:¬-v=0:=λe=>r ⟨hx,rfl,e⟩;omega)
  omega
 | false=>
  have b:∀a:Int,wOf false a=a:=λa=>rfl;have mk:∀a:Nat,a<=10000000000000000->memP d x s a->inP false d x s (a:Int):=by
   intro a C f;exact⟨by omega,by omega,by rw[b];omega,λq=>(by cases q.2.1),by rw[b,ch];exact f⟩
  simp only[sgn,bj,az];refine⟨mk lo o m,mk hi n p,λv t=>?_⟩;obtain⟨B,z,k,r,c⟩:=t;rw[b]at k c;have:=w v.toNat (by omega) c (λ_ q=>by cases q);omega
end Go.Sh
namespace Go.Sh.Mk
open Go.Abs
def okB(c:UInt8):Bool:=c.toNat==88||(decide (48<=c.toNat)&&decide (c.toNat<=57))
def chk(s:aa):Int:=if 18<s.length then 3 else if s.all okB then(if s=[]then 5 else 0)else 5
def vz(n:Nat)(s0 s:aa)(u:s.length+1<n):
  au (iK n) n (s0,s,0)=some (if s.all okB then .inr s0 else .inl 5):=by
 have:=fK (step:=iK n) (λx=>x.1=s0/\x.2.1=s/\x.2.2<=s.length) (λx=>s.length - x.2.2)
  (λx=>if(s.drop x.2.2).all okB then .inr s0 else .inl 5) ?_ n (s0,s,0) ⟨rfl,rfl,du _⟩ (by simp;omega)
 ·simpa using this
 rintro⟨a,b,i⟩ ⟨rfl,rfl,hi⟩;simp only at hi ⊢;rcases aF i b.length with l | m
 ·obtain⟨c,hc⟩:∃c,b[i]?=some c:=⟨b[i],bf l⟩;have o:Nat.blt i b.length=true:=dT l;rw[bR hc,mK];simp only[iK,o,aj];by_cases k:c.toNat<128
  ·rw[Be hc k];by_cases g:c.toNat=88
   ·refine .inl ⟨(a,b,i+1),by simp[g],⟨rfl,rfl,by simp only;omega⟩,by simp only;omega,?_⟩;simp[okB,g]
   ·by_cases q:c.toNat<48
    ·refine .inr ?_;have d:(((c.toNat:Nat):Int) != 88)=true:=by simp;omega
     have f:(decide (((c.toNat:Nat):Int)<48))=true:=by simp;omega
     have e:okB c=false:=by simp[okB];omega
     simp[d,f,e]
    ·by_cases p:57<c.toNat
     ·refine .inr ?_;have d:(((c.toNat:Nat):Int) != 88)=true:=by simp;omega
      have f:(decide (((c.toNat:Nat):Int)<48))=false:=by simp;omega
      have j:(decide (((c.toNat:Nat):Int)>57))=true:=by simp;omega
      have e:okB c=false:=by simp[okB];omega
      simp[d,f,e,j]
     ·have d:(((c.toNat:Nat):Int) != 88)=true:=by simp;omega
      have f:(decide (((c.toNat:Nat):Int)<48))=false:=by simp;omega
      have j:(decide (((c.toNat:Nat):Int)>57))=false:=by simp;omega
      have e:okB c=true:=by simp[okB];omega
      refine .inl ⟨(a,b,i+1),by simp only[d,f,j,aj,af],⟨rfl,rfl,by simp only;omega⟩,by simp only;omega,?_⟩;simp[e]
  ·obtain⟨r,t⟩:=Hv hc (by omega);refine .inr ?_;have d:((((dec b i).1:Nat):Int) != 88)=true:=by simp;omega
   have f:(decide ((((dec b i).1:Nat):Int)<48))=false:=by simp;omega
   have j:(decide ((((dec b i).1:Nat):Int)>57))=true:=by simp;omega
   have e:okB c=false:=by simp[okB];omega
   simp[d,f,e,j]
 ·have o:Nat.blt i b.length=false:=by
   cases h:Nat.blt i b.length with
   | false=>rfl
   | true=>have:i<b.length:=aH h;omega
  refine .inr ?_;simp only[iK,o,af];rw[iU m];rfl
def lS(n:Nat)(s:aa)(b:30<=n):kh n s=some (chk s):=by
 unfold kh chk;by_cases h:18<s.length
 ·have:(decide (((List.length s:Nat):Int)>18))=true:=by simp;omega
  simp[this,h]
 ·have e:(decide (((List.length s:Nat):Int)>18))=false:=by simp;omega
  simp only[e,af,h,az];rw[vz n s s (by omega)];by_cases a:s.all okB=true
  ·simp only[a,aG,ob];by_cases hs:s=[]
   ·simp[hs]
   ·have:(s==([]:aa))=false:=by simpa using hs
    simp[this,hs]
  ·simp[a,ob]
def nz{s:aa}(h:chk s=0):s.length<=18/\s≠[]/\∀c∈s,okB c=true:=by
 unfold chk at h;split at h
 ·simp at h
 ·split at h
  ·rename_i a;split at h
   ·simp at h
   ·rename_i hs;exact⟨by omega,hs,by simpa using a⟩
  ·simp at h
def nums(l:aa):List Int:=l.map λb=>((b.toNat:Nat):Int)
def over(d:List Int)(i:Nat)(l:List Int):List Int:=d.take i++(l++d.drop (i+l.length))
def zU(d:List Int)(i:Nat)(x:Int)(l:List Int)(h:i<d.length):over (d.set i x) (i+1) l=over d i (x::l):=by
 unfold over;rw[show(d.set i x).take (i+1)=d.take i++[x]from by
  rw[J2 (by simpa using h)];simp[List.take_set_of_le]]
 rw[List.drop_set_of_lt (by omega)];simp[gX,pD 1]
def FW(d:List Int)(i:Nat):over d i []=d:=by simp[over]
def NE(d:List Int)(i:Nat)(l:List Int)(h:i+l.length<=d.length):(over d i l).length=d.length:=by
 unfold over;simp;omega
def OJ{x y:UInt8}:(((x.toNat:Nat):Int)==((y.toNat:Nat):Int))=decide (x=y):=by
 by_cases h:x=y
 ·simp[h]
 ·have:x.toNat≠y.toNat:=λe=>h (gu.1 e);simp[h];omega
def Am{x:UInt8}:(((x.toNat:Nat):Int)==88)=decide (x=88):=by
 have:=OJ (x:=x) (y:=88);simpa using this
def dg:Nat->Int->List Int
 | 0,_=>[]
 | L+1,k=>dg L (k / 10)++[48+k%10]
def xK:∀(L:Nat) (k:Int),(dg L k).length=L
 | 0,_=>rfl
 | L+1,k=>by simp[dg,xK L]
def tZ:∀(L:Nat) (k:Int),∀x∈dg L k,48<=x/\x<58
 | 0,_,x,h=>by simp[dg]at h
 | L+1,k,x,h=>by
  simp only[dg,mF,uS]at h;rcases h with h | rfl
  ·exact tZ L _ x h
  ·omega
def js:aa->List Int->Bool
 | c::m,d::l=>(c==88||decide (((c.toNat:Nat):Int)=d))&&js m l
 | _,_=>true
def vo:∀{a c:aa} {b d:List Int},a.length=b.length->js (a++c) (b++d)=(js a b&&js c d)
 | [],c,[],d,_=>by simp[js]
 | x::a,c,y::b,d,h=>by
  simp only[aN,vZ]at h;simp only[dB,js,vo h,Bool.and_assoc]
def hasM(m:aa)(k:Int):Bool:=decide (0<=k)&&(decide (k<10 ^ m.length)&&js m (dg m.length k))
def OI(L:Nat)(h:L<=18):pm 20000000 ((L:Nat):Int)=some (10 ^ L):=by
 have b:allN (λi=>match pm 20000000 ((i:Nat):Int)with | some r=>decide (r=10 ^ i) | none=>false) 19=true:=by kernel_rfl
 have:=E5 b L (by omega);split at this
 ·rename_i r a;rw[a];simpa using this
 ·cases this
def BY(L:Nat)(h:L<=18):(10:Int) ^ L<=1000000000000000000:=by
 have a:allN (λi=>decide ((10:Int) ^ i<=1000000000000000000)) 19=true:=by kernel_rfl
 simpa using E5 a L (by omega)
def UC{k:Int}(h:0<=k):Int.tmod k 10=k%10:=KE h
def UL{k:Int}(h:0<=k):Int.tdiv k 10=k / 10:=Qz h
def I4(k:Int)(i:Nat)(d:List Int)(a:0<=k)(c:k<9223372036854775808)(hi:i<=18)(hd:d.length=18):
  au (iL 20000000) 20000000 (k,(i:Int) - 1,d)=some (over d 0 (dg i k)):=by
 have:=fK (step:=iL 20000000) (λx=>(0<=x.1/\x.1<9223372036854775808)/\(-1<=x.2.1/\x.2.1<=17)/\x.2.2.length=18) (λx=>(x.2.1+1).toNat)
  (λx=>over x.2.2 0 (dg (x.2.1+1).toNat x.1)) ?_ 20000000 (k,(i:Int) - 1,d) ⟨⟨a,c⟩,⟨by simp only;omega,by simp only;omega⟩,hd⟩ (by simp only;omega)
 ·simpa using this
 rintro⟨k,i,d⟩ ⟨⟨a,c⟩,⟨l,g⟩,hd⟩;simp only at a c l g hd ⊢;by_cases hi:0<=i
 ·obtain⟨j,rfl⟩:∃j:Nat,i=j:=⟨i.toNat,by omega⟩;have e:j<18:=by omega
  have b:decide ((j:Int)>=0)=true:=by simp
  have p:Nat.blt j 18=true:=dT e;have o:wrap .i64 ((j:Int) - 1)=(j:Int) - 1:=wrap_i64 _ (by omega) (by omega);have h:wrap .i64 (Int.tdiv k 10)=k / 10:=by rw[UL a];exact wrap_i64 _ (by omega) (by omega)
  have n:wrap .u8 (wrap .i64 (48+Int.tmod k 10))=48+k%10:=by rw[UC a,wrap_i64 _ (by omega) (by omega),ke _ (by omega) (by omega)]
  refine .inl ⟨(k / 10,(j:Int) - 1,d.set j (48+k%10)),by simp only[iL,b,aj,dW e,ob,p,o,h,n],⟨⟨by simp only;omega,by simp only;omega⟩,⟨by simp only;omega,by simp only;omega⟩,by simpa using hd⟩,by simp only;omega,?_⟩;have m:((j:Int) - 1+1).toNat=j:=by omega
  have f:((j:Int)+1).toNat=j+1:=by omega
  simp only[m,f,over,ot,dI,xK,cU,dg,gG];congr 1;rw[List.drop_set,ab (by omega),Nat.sub_self,qQ (by omega)];simp only[List.set_cons_zero,bw,xK,aN,fR,dB,dI,cU]
 ·have b:decide (i>=0)=false:=by simp;omega
  have s:(i+1).toNat=0:=by omega
  refine .inr ?_;simp only[iL,b,af,s,dg,FW]
def PY(m:aa)(k:Int)(a:m.length<=18)(c:0<=k)(b:k<9223372036854775808):
  lH 20000000 m k=some (over [0,0,0,0,0,0,0,0,0,0,0,0,0,0,0,0,0,0] 0 (dg m.length k)):=by
 have w:wrap .i64 (((List.length m:Nat):Int) - 1)=(m.length:Int) - 1:=wrap_i64 _ (by omega) (by omega);simp only[lH,w,I4 k m.length [0,0,0,0,0,0,0,0,0,0,0,0,0,0,0,0,0,0] c b a (by rfl),ob]
def vM{d l:List Int}{i:Nat}(h:i<l.length):(over d 0 l)[i]?=l[i]?:=by
 unfold over;simp only[ot,dI];rw[nF h]
def zt:∀(l:List Int),(∀x∈l,0<=x/\x<256)->nums (cX l)=l
 | [],_=>rfl
 | x::l,h=>by
  have ih:=zt l λy hy=>h y (gm _ hy);obtain⟨c,a⟩:=h x (by simp);have e:(((UInt8.ofNat x.toNat).toNat:Nat):Int)=x:=by
   rw[E4,sL (by omega)];omega
  simp only[nums,cX,uU]at ih ⊢;simp only[fV,Function.comp,e];rw[show List.map ((λb:UInt8=>((b.toNat:Nat):Int)) ∘ λn:Int=>UInt8.ofNat n.toNat) l=l from ih]
def PH(l:aa):(nums l).length=l.length:=by simp[nums]
def cnt:aa->Nat
 | []=>0
 | c::r=>if c=88 then cnt r+1 else cnt r
def dv(c:UInt8):Int:=((c.toNat:Nat):Int) - 48
def nth:aa->Int->Int
 | [],_=>0
 | c::r,i=>if c=88 then 10*nth r (i / 10)+i%10 else 10*nth r i+dv c
def ag:aa->Int->Bool
 | [],_=>true
 | c::r,k=>ag r (k / 10)&&(decide (c=88)||decide (dv c=k%10))
def idx:aa->Int->Int
 | [],_=>0
 | c::r,k=>if c=88 then 10*idx r (k / 10)+k%10 else idx r (k / 10)
def okR(r:aa):Prop:=∀c∈r,c=88\/(0<=dv c/\dv c<10)
def zx{m:aa}(h:∀c∈m,okB c=true):okR m.reverse:=by
 intro c hc;have:=h c (EY.1 hc);simp only[okB,iC,bu,aC,cr]at this;rcases this with h | h
 ·exact .inl (gu.1 (by simpa using h))
 ·exact .inr (by unfold dv;omega)
def rL{c:UInt8}{r:aa}(h:okR (c::r)):okR r:=λx hx=>h x (gm _ hx)
def iJ(n:Nat):(10:Int) ^ (n+1)=10*10 ^ n:=by rw[Int.pow_succ,yE]
def tG(n:Nat):(0:Int)<10 ^ n:=Int.pow_pos (by omega)
def qL:∀{r:aa},okR r->∀i,0<=i->0<=nth r i/\nth r i<10 ^ r.length
 | [],_,i,_=>by simp[nth]
 | c::r,h,i,hi=>by
  simp only[nth,aN,iJ];split
  ·have:=qL (rL h) (i / 10) (by omega);omega
  ·rename_i hc;have:=qL (rL h) i hi;have:=(h c (by simp)).resolve_left hc;omega
def Jf:∀{r:aa},okR r->∀i,0<=i->ag r (nth r i)=true
 | [],_,_,_=>rfl
 | c::r,h,i,hi=>by
  simp only[nth,ag];split
  ·rename_i hc;have e:(10*nth r (i / 10)+i%10) / 10=nth r (i / 10):=by omega
   rw[e,Jf (rL h) (i / 10) (by omega)];simp[hc]
  ·rename_i hc;have hd:=(h c (by simp)).resolve_left hc;have e:(10*nth r i+dv c) / 10=nth r i:=by omega
   have a:(10*nth r i+dv c)%10=dv c:=by omega
   rw[e,a,Jf (rL h) i hi];simp
def xC:∀(r:aa) (k:Int),0<=k->0<=idx r k/\idx r k<10 ^ cnt r
 | [],k,_=>by simp[idx,cnt]
 | c::r,k,a=>by
  have:=xC r (k / 10) (by omega);simp only[idx,cnt];split
  ·rw[iJ];omega
  ·exact this
def JQ:∀{r:aa} {k:Int},0<=k->k<10 ^ r.length->ag r k=true->nth r (idx r k)=k
 | [],k,f,a,_=>by simp at a;simp[nth];omega
 | c::r,k,f,a,b=>by
  simp only[ag,aC,iC,cr]at b;rw[aN,iJ]at a;have ih:=JQ (r:=r) (k:=k / 10) (by omega) (by omega) b.1;simp only[nth,idx];split
  ·have:=xC r (k / 10) (by omega);have e:(10*idx r (k / 10)+k%10) / 10=idx r (k / 10):=by omega
   have d:(10*idx r (k / 10)+k%10)%10=k%10:=by omega
   rw[e,d,ih];omega
  ·rename_i hc;rw[ih];have:=b.2.resolve_left hc;omega
def BB:∀{r:aa},okR r->∀i j,0<=i->i<j->j<10 ^ cnt r->nth r i<nth r j
 | [],_,i,j,d,b,a=>by simp[cnt]at a;omega
 | c::r,h,i,j,d,b,a=>by
  simp only[nth,cnt]at a ⊢;split
  ·rename_i hc;rw[ae hc,iJ]at a;by_cases e:i / 10=j / 10
   ·rw[e];omega
   ·have:=BB (rL h) (i / 10) (j / 10) (by omega) (by omega) (by omega);omega
  ·rename_i hc;rw[ab hc]at a;have:=BB (rL h) i j d b a;omega
def FZ:∀(r:aa),∀k,js r.reverse (dg r.length k)=ag r k
 | [],k=>rfl
 | c::r,k=>by
  simp only[List.reverse_cons,aN,dg,ag];rw[vo (by rw[uu,xK]),FZ r];have b:decide (((c.toNat:Nat):Int)=48+k%10)=decide (dv c=k%10):=pC.2 (by unfold dv;omega);have a:(c==88)=decide (c=88):=by by_cases h:c=88<;>simp[h]
  simp only[js,Dk,b,a]
def EQ(m:aa)(k:Int):hasM m k=(decide (0<=k)&&(decide (k<10 ^ m.length)&&ag m.reverse k)):=by
 have:=FZ m.reverse k;rw[wC,uu]at this;unfold hasM;rw[this]
def wB:∀(m:aa),cnt m=m.count 88
 | []=>rfl
 | c::m=>by
  simp only[cnt,wB m,List.count_cons];by_cases h:c=88<;>simp[h]
def sj(m:aa):cnt m.reverse=cnt m:=by rw[wB,wB,List.count_reverse]
def Lr:∀(m:aa),cnt m<=m.length
 | []=>by simp[cnt]
 | c::m=>by
  have:=Lr m;simp only[cnt,aN];split<;>omega
def fd(x y:Int):Int:=(if y=88 then x else y) - 48
def fval(x:Int)(l:List Int):Int:=l.foldl (λn y=>10*n+fd x y) 0
def Aa(x:Int):∀(l:List Int) (n:Int),l.foldl (λn y=>10*n+fd x y) n=n*10 ^ l.length+fval x l
 | [],n=>by simp[fval]
 | y::l,n=>by
  have e:=Aa x l (10*n+fd x y);have a:=Aa x l (10*0+fd x y);simp only[fval,vb,aN,iJ]at e a ⊢;rw[e,a,Int.add_mul,Int.add_mul];have:10*n*10 ^ l.length=n*(10*10 ^ l.length):=by rw[yE 10 n,Int.mul_assoc]
  omega
def yc(s:aa)(x:Int)(h18:s.length<=18)(hs:∀c∈s,0<=fd x ((c.toNat:Nat):Int)/\fd x ((c.toNat:Nat):Int)<10):mb 20000000 s x=some (fval x (nums s)):=by
 have hs':∀y∈nums s,0<=fd x y/\fd x y<10:=by
  intro y hy;obtain⟨c,hc,rfl⟩:=eU.1 hy;exact hs c hc
 have hl:(nums s).length=s.length:=PH s;have:=fK (step:=g9 20000000)
  (λst=>st.1=x/\st.2.2.1=((s.length:Nat):Int)/\st.2.2.2.2=nums s/\(0<=st.2.2.2.1/\st.2.2.2.1<=s.length)/\0<=st.2.1/\st.2.1<10 ^ st.2.2.2.1.toNat) (λst=>s.length - st.2.2.2.1.toNat)
  (λst=>((nums s).drop st.2.2.2.1.toNat).foldl (λn y=>10*n+fd x y) st.2.1) ?_ 20000000 (x,0,((s.length:Nat):Int),0,nums s) ⟨rfl,rfl,rfl,⟨by simp,by simp⟩,by simp,by simp⟩ (by simp;omega)
 ·show(ob (au (g9 20000000) 20000000 (x,0,((List.length (nums s):Nat):Int),0,nums s)) λy30=>some y30)=_;rw[hl,this];rfl
 rintro⟨x',n,len,i,l⟩ ⟨q1,q2,q3,⟨h0,hi⟩,n0,n1⟩;simp only at q1 q2 q3 h0 hi n0 n1 ⊢;subst q1 q2 q3;obtain⟨j,rfl⟩:∃j:Nat,i=j:=⟨i.toNat,by omega⟩;simp only[ch]at n1 ⊢;rcases aF j s.length with hlt | hge
 ·obtain⟨y,hy⟩:∃c,(nums s)[j]?=some c:=⟨(nums s)[j]'(by omega),bf (by omega)⟩;obtain⟨d0,d1⟩:=hs' y (fG hy);have hb:(decide ((j:Int)<((s.length:Nat):Int)))=true:=by simp;omega
  have hw:wrap .i64 ((j:Int)+1)=((j+1:Nat):Int):=by rw[wrap_i64 _ (by omega) (by omega)];omega
  have hb1:=BY (j+1) (by omega);rw[iJ]at hb1;have w1:wrap .i64 (10*n)=10*n:=wrap_i64 _ (by omega) (by omega);have w2:∀z:Int,0<=z->z<10->wrap .i64 (10*n+wrap .i64 (wrap .u8 z))=10*n+z:=λz z0 z1=>by
   rw[ke z (by omega) (by omega),wrap_i64 z (by omega) (by omega),wrap_i64 _ (by omega) (by omega)]
  rw[bR hy,vb];simp only[g9,hb,aj,dW (show j<(nums s).length by omega),ob,hy,hw,w1];have next:0<=10*n+fd x' y/\10*n+fd x' y<10 ^ (j+1):=by rw[iJ];omega
  by_cases h88:y=88
  ·have e1:(y==88)=true:=by simpa using h88
   have hd:fd x' y=x' - 48:=by simp[fd,h88]
   rw[hd]at d0 d1 next ⊢;refine .inl ⟨(x',10*n+(x' - 48),((s.length:Nat):Int),((j+1:Nat):Int),nums s),by simp only[e1,aj,w2 _ d0 d1],⟨rfl,rfl,rfl,⟨by simp only;omega,by simp only;omega⟩,next.1,by simpa only[ch]using next.2⟩,by simp only[ch];omega,by simp only[ch]⟩
  ·have e1:(y==88)=false:=by simpa using h88
   have hd:fd x' y=y - 48:=by simp[fd,h88]
   rw[hd]at d0 d1 next ⊢;refine .inl ⟨(x',10*n+(y - 48),((s.length:Nat):Int),((j+1:Nat):Int),nums s),by simp only[e1,af,w2 _ d0 d1],⟨rfl,rfl,rfl,⟨by simp only;omega,by simp only;omega⟩,next.1,by simpa only[ch]using next.2⟩,by simp only[ch];omega,by simp only[ch]⟩
 ·have hb:(decide ((j:Int)<((s.length:Nat):Int)))=false:=by simp;omega
  refine .inr ?_;simp only[g9,hb,af];rw[iU (by omega)];rfl
def wm(x:Int)(l:List Int)(y:Int):fval x (l++[y])=10*fval x l+fd x y:=by simp[fval,GI]
def D3(r:aa)(c:UInt8):nums ((c::r).reverse)=nums r.reverse++[((c.toNat:Nat):Int)]:=by simp[nums]
def Et(x:Int)(c:UInt8):fd x ((c.toNat:Nat):Int)=if c=88 then x - 48 else dv c:=by
 unfold fd dv;by_cases h:c=88
 ·simp[h]
 ·have:¬((c.toNat:Nat):Int)=88:=λe=>h (gu.1 (by simpa using(by omega:c.toNat=88)));rw[ab this,ab h]
def za:∀(r:aa),fval 48 (nums r.reverse)=nth r 0
 | []=>rfl
 | c::r=>by
  rw[D3,wm,za r,Et];simp only[nth];split<;>simp
def ua:∀(r:aa),fval 57 (nums r.reverse)=nth r (10 ^ cnt r - 1)
 | []=>rfl
 | c::r=>by
  have hp:=tG (cnt r);rw[D3,wm,ua r,Et];simp only[nth,cnt];split
  ·rw[iJ];have a:(10*(10:Int) ^ cnt r - 1) / 10=10 ^ cnt r - 1:=by omega
   have b:(10*(10:Int) ^ cnt r - 1)%10=9:=by omega
   rw[a,b];omega
  ·rfl
def TS{m:aa}(a:∀c∈m,okB c=true){x:Int}(hx:48<=x/\x<58):∀c∈m,0<=fd x ((c.toNat:Nat):Int)/\fd x ((c.toNat:Nat):Int)<10:=by
 intro c hc;rw[Et];have:=zx a c (EY.2 hc);split
 ·omega
 ·rename_i h;exact this.resolve_left h
def Oc{m:aa}(c:chk m=0):o6 20000000 m=some (nth m.reverse 0,0):=by
 obtain⟨a,_,b⟩:=nz c;have d:((0:Int) != 0)=false:=by simp
 have:=za m.reverse;rw[wC]at this;simp only[o6,lS 20000000 m (by omega),c,ob,d,af,yc m 48 a (TS b (by omega)),this]
def FN{m:aa}(c:chk m=0):lV 20000000 m=some (nth m.reverse (10 ^ cnt m - 1),0):=by
 obtain⟨a,_,b⟩:=nz c;have d:((0:Int) != 0)=false:=by simp
 have:=ua m.reverse;rw[wC,sj]at this;simp only[lV,lS 20000000 m (by omega),c,ob,d,af,yc m 57 a (TS b (by omega)),this]
def Oy{m:aa}{l:List Int}(z:List Int)(a:m.length<=18)(g:l.length=m.length)(d:∀y∈l,48<=y/\y<58):gq 20000000 m (over z 0 l)=some (fval 0 l):=by
 have f:List.take m.length (over z 0 l)=l:=by
  unfold over;rw[ot,dI,uC (by omega),iR (by omega)]
 have e:nums (cX l)=l:=zt l λy hy=>by have:=d y hy;omega
 have h:(cX l).length=m.length:=by simp[cX,g]
 simp only[gq,fC a,ob,cU,show Nat.ble m.length 18=true from dT a,aj,bI,f];rw[yc (cX l) 0 (by omega) ?_,e];intro c hc;have b:((c.toNat:Nat):Int)∈l:=by rw[<-e];exact eU.2 ⟨c,hc,rfl⟩
 have:=d _ b;unfold fd;rw[ab (by omega)];omega
def HF{m:aa}(e:chk m=0){i:Int}(c:0<=i):hasM m (nth m.reverse i)=true:=by
 obtain⟨d,_,a⟩:=nz e;have b:=qL (zx a) i c;rw[uu]at b;rw[EQ,Jf (zx a) i c,aq b.1,aq b.2];rfl
def vl:List Int->Int
 | []=>0
 | y::l=>(y - 48)*10 ^ l.length+vl l
def digl(l:List Int):Prop:=∀y∈l,48<=y/\y<58
def dm{y:Int}{l:List Int}(h:digl (y::l)):digl l:=λx hx=>h x (gm _ hx)
def vT:∀{l:List Int},digl l->0<=vl l/\vl l<10 ^ l.length
 | [],_=>by simp[vl]
 | y::l,h=>by
  have ih:=vT (dm h);have hy:=h y (by simp);have hp:=tG l.length;simp only[vl,aN,iJ];have a1:0<=(y - 48)*10 ^ l.length:=Int.mul_nonneg (by omega) (by omega);have a2:(y - 48)*10 ^ l.length<=9*10 ^ l.length:=Qq (by omega) (by omega);omega
def S0{y z:Int}{a b:List Int}(c:a.length=b.length)(d:digl a)(f:digl b)(h:y<z):vl (y::a)<vl (z::b):=by
 have g:=vT d;have e:=vT f;have hp:=tG a.length;simp only[vl];rw[<-c]at e ⊢;have a2:(y - 48+1)*10 ^ a.length<=(z - 48)*10 ^ a.length:=Qq (by omega) (by omega);rw[Int.add_mul]at a2;omega
def Bt:∀{l:List Int},digl l->fval 0 l=vl l
 | [],_=>rfl
 | y::l,h=>by
  have hy:=h y (by simp);have e:fval 0 (y::l)=l.foldl (λn y=>10*n+fd 0 y) (10*0+fd 0 y):=rfl;have a:fd 0 y=y - 48:=by unfold fd;rw[ab (by omega)]
  rw[e,Aa,Bt (dm h),a];simp only[vl,Int.mul_zero,Int.zero_add]
def Jl{l:List Int}{y:Int}(h:digl (l++[y])):vl (l++[y])=10*vl l+(y - 48):=by
 have hy:=h y (by simp);have a:digl l:=λx hx=>h x (by simp[hx]);rw[<-Bt h,<-Bt a,wm];unfold fd;rw[ab (by omega)]
def NY:∀(L:Nat) (k:Int),0<=k->k<10 ^ L->vl (dg L k)=k
 | 0,k,b,a=>by simp at a;simp[dg,vl];omega
 | L+1,k,b,a=>by
  rw[iJ]at a;have:=NY L (k / 10) (by omega) (by omega);have hd:=tZ (L+1) k;simp only[dg]at hd ⊢;rw[Jl hd,this];omega
def WG{l:List Int}(h:digl l):dg l.length (vl l)=l:=by
 have b:∀(r:List Int),digl r.reverse->dg r.length (vl r.reverse)=r.reverse:=by
  intro r
  induction r with
  | nil=>intro _;rfl
  | cons y r ih=>
   intro h;simp only[List.reverse_cons,aN]at h ⊢;have hy:=h y (by simp);rw[Jl h];simp only[dg];have c:(10*vl r.reverse+(y - 48)) / 10=vl r.reverse:=by omega
   have a:48+(10*vl r.reverse+(y - 48))%10=y:=by omega
   rw[c,a,ih λx hx=>h x (mF.2 (.inl hx))]
 have:=b l.reverse (by rw[wC];exact h);rwa[wC,uu]at this
def fst(up:Bool):Int:=cond up 48 57
def lst(up:Bool):Int:=cond up 57 48
def stp(up:Bool)(y:Int):Int:=cond up (y+1) (y - 1)
def fil(up:Bool)(m:aa):List Int:=m.map λc=>cond (decide (c=88)) (fst up) ((c.toNat:Nat):Int)
def nx(up:Bool):aa->List Int->Option (List Int)
 | c::m,y::l=>
  if c=88 then
   match nx up m l with
   | some r=>some (y::r)
   | none=>if y=lst up then none else some (stp up y::fil up m)
  else if((c.toNat:Nat):Int)=y then(nx up m l).map λr=>y::r
  else if decide (((c.toNat:Nat):Int)>y)=up then some (((c.toNat:Nat):Int)::fil up m)else none
 | _,_=>some []
def okM(m:aa):Prop:=∀c∈m,okB c=true
def rr{c:UInt8}{m:aa}(h:okM (c::m)):okM m:=λx hx=>h x (gm _ hx)
def Gm{c:UInt8}(h:okB c=true)(a:¬c=88):48<=((c.toNat:Nat):Int)/\((c.toNat:Nat):Int)<58:=by
 simp only[okB,iC,bu,aC,cr]at h;have:¬c.toNat=88:=λe=>a (gu.1 (by simpa using e));omega
def BF(up:Bool)(m:aa):(fil up m).length=m.length:=by simp[fil]
def Kp(up:Bool){m:aa}(h:okM m):digl (fil up m):=by
 intro y hy;obtain⟨c,hc,rfl⟩:=eU.1 hy;by_cases a:c=88
 ·simp only[aq a,aj];cases up<;>simp[fst]
 ·simp only[am a,af];exact Gm (h c hc) a
def wU(up:Bool):∀(m:aa),js m (fil up m)=true
 | []=>rfl
 | c::m=>by
  have:=wU up m;simp only[fil,fV,js]at this ⊢;rw[this];by_cases a:c=88
  ·simp[a]
  ·simp[a]
def fq(up:Bool)(a b:Int):Prop:=match up with | true=>a<=b | false=>b<=a
def AW(up:Bool):∀{m:aa} {e:List Int},okM m->m.length=e.length->digl e->js m e=true->fq up (vl (fil up m)) (vl e)
 | [],[],_,_,_,_=>by cases up<;>simp[fil,vl,fq]
 | c::m,y::e,l,i,j,k=>by
  simp only[aN,vZ]at i;simp only[js,aC,iC,bu,cr]at k;have ih:=AW up (rr l) i (dm j) k.2;have hy:=j y (by simp);have b:=BF up m;have n:=Kp up (rr l);have a:∀z:Int,vl (z::fil up m)=(z - 48)*10 ^ m.length+vl (fil up m):=λz=>by rw[vl,b]
  have f:fil up (c::m)=(cond (decide (c=88)) (fst up) ((c.toNat:Nat):Int))::fil up m:=rfl;rw[f];by_cases d:c=88
  ·simp only[aq d,aj];by_cases g:y=fst up
   ·rw[<-g,a,vl,<-i];cases up<;>simp only[fq]at ih ⊢<;>omega
   ·cases up
    ·exact Int.le_of_lt (S0 (by rw[b,i]) (dm j) n (by simp[fst]at g ⊢;omega))
    ·exact Int.le_of_lt (S0 (by rw[b,i]) n (dm j) (by simp[fst]at g ⊢;omega))
  ·simp only[am d,af];rw[k.1.resolve_left d,a,vl,<-i];cases up<;>simp only[fq]at ih ⊢<;>omega
 | [],_::_,_,h,_,_=>by simp at h
 | _::_,[],_,h,_,_=>by simp at h
def Td(up:Bool):∀{m:aa} {l:List Int},okM m->m.length=l.length->digl l->
  match nx up m l with
  | some r=>r.length=m.length/\digl r/\js m r=true/\fq up (vl l) (vl r)/\∀e,e.length=m.length->digl e->js m e=true->fq up (vl l) (vl e)->fq up (vl r) (vl e)
  | none=>∀e,e.length=m.length->digl e->js m e=true->¬fq up (vl l) (vl e)
 | [],[],_,_,_=>by
  simp only[nx];refine⟨rfl,by intro y hy;simp at hy,rfl,by cases up<;>simp[fq],?_⟩;intro e E _ _ _;simp only[fR]at E;rw[tU E];cases up<;>simp[fq]
 | c::m,y::l,K,u,hd=>by
  simp only[aN,vZ]at u;have ih:=Td up (rr K) u (dm hd);have hy:=hd y (by simp);have A:=dm hd;have s:=BF up m;have B:=Kp up (rr K);have L:∀{z w:Int} {a b:List Int},a.length=m.length->b.length=m.length->digl a->digl b->z<w->vl (z::a)<vl (w::b):=λE J N P Q=>S0 (by rw[E,J]) N P Q;have f:∀(z:Int) {a b:List Int},a.length=m.length->b.length=m.length->(fq up (vl (z::a)) (vl (z::b))↔fq up (vl a) (vl b)):=λz a b E J=>by
   simp only[vl,E,J];cases up<;>simp only[fq]<;>omega
  have q:∀{z w:Int} {a b:List Int},a.length=m.length->b.length=m.length->digl a->digl b->z≠w->(fq up (vl (z::a)) (vl (w::b))↔fq up z w):=λ{z w a b} E J N P Q=>by
   rcases Int.lt_trichotomy z w with h | h | h
   ·have:=L E J N P h;cases up<;>simp only[fq]<;>omega
   ·exact absurd h Q
   ·have:=L J E P N h;cases up<;>simp only[fq]<;>omega
  have d:∀e:List Int,e.length=(c::m).length->∃w a,e=w::a/\a.length=m.length:=λe h=>by
   match e,h with
   | w::a,h=>exact⟨w,a,rfl,by simpa using h⟩
  by_cases g:c=88
  ·cases D:nx up m l with
   | some r=>
    rw[D]at ih;obtain⟨H,O,S,T,U⟩:=ih;simp only[nx,ae g,D];refine⟨by simp[H],λz t=>?_,by simp[js,g,S],(f y u.symm H).2 T,λe v j p o=>?_⟩
    ·rcases de.1 t with rfl | t
     ·exact hy
     ·exact O z t
    ·obtain⟨w,a,rfl,i⟩:=d e v;simp only[js,g,sU,HN,nO]at p;by_cases C:y=w
     ·subst C;exact(f y H i).2 (U a i (dm j) p ((f y u.symm i).1 o))
     ·exact(q H i O (dm j) C).2 ((q u.symm i A (dm j) C).1 o)
   | none=>
    rw[D]at ih;by_cases k:y=lst up
    ·simp only[nx,ae g,D,ae k];intro e v j p o;obtain⟨w,a,rfl,i⟩:=d e v;simp only[js,g,sU,HN,nO]at p;have hw9:=j w (by simp);by_cases C:y=w
     ·subst C;exact ih a i (dm j) p ((f y u.symm i).1 o)
     ·have:=(q u.symm i A (dm j) C).1 o;cases up<;>simp only[fq,lst,aj,af]at this k<;>omega
    ·simp only[nx,ae g,D,ab k];have hs:48<=stp up y/\stp up y<58/\y≠stp up y/\fq up y (stp up y)/\∀w,w≠y->fq up y w->fq up (stp up y) w:=by
      cases up<;>simp only[fq,lst,stp,aj,af]at k ⊢<;>exact⟨by omega,by omega,by omega,by omega,λw E J=>by omega⟩
     obtain⟨s1,V,Z,W,X⟩:=hs;refine⟨by simp[s],λz t=>?_,by simp[js,g,wU],(q u.symm s A B Z).2 W,λe v j p o=>?_⟩
     ·rcases de.1 t with rfl | t
      ·exact⟨s1,V⟩
      ·exact B z t
     ·obtain⟨w,a,rfl,i⟩:=d e v;simp only[js,g,sU,HN,nO]at p;by_cases C:y=w
      ·subst C;exact absurd ((f y u.symm i).1 o) (ih a i (dm j) p)
      ·have Y:=X w (λh=>C h.symm) ((q u.symm i A (dm j) C).1 o);by_cases M:stp up y=w
       ·rw[M];exact(f w s i).2 (AW up (rr K) i.symm (dm j) p)
       ·exact(q s i B (dm j) M).2 Y
  ·have R:=Gm (K c (by simp)) g;have F:∀w a,js (c::m) (w::a)=true->w=((c.toNat:Nat):Int)/\js m a=true:=λw a h=>by
    simp only[js,aC,iC,bu,cr]at h;exact⟨(h.1.resolve_left g).symm,h.2⟩
   by_cases n:((c.toNat:Nat):Int)=y
   ·cases D:nx up m l with
    | some r=>
     rw[D]at ih;obtain⟨H,O,S,T,U⟩:=ih;simp only[nx,ab g,ae n,D,fi];refine⟨by simp[H],λz t=>?_,by simp[js,n,S],(f y u.symm H).2 T,λe v j p o=>?_⟩
     ·rcases de.1 t with rfl | t
      ·exact hy
      ·exact O z t
     ·obtain⟨w,a,rfl,i⟩:=d e v;obtain⟨rfl,x⟩:=F w a p;rw[n]at o ⊢;exact(f y H i).2 (U a i (dm j) x ((f y u.symm i).1 o))
    | none=>
     rw[D]at ih;simp only[nx,ab g,ae n,D,iQ];intro e v j p o;obtain⟨w,a,rfl,i⟩:=d e v;obtain⟨rfl,x⟩:=F w a p;rw[n]at o;exact ih a i (dm j) x ((f y u.symm i).1 o)
   ·have I:decide (((c.toNat:Nat):Int)>y)=up↔fq up y ((c.toNat:Nat):Int):=by
     cases up
     ·simp only[uj,fq];omega
     ·simp only[cr,fq];omega
    by_cases G:decide (((c.toNat:Nat):Int)>y)=up
    ·simp only[nx,ab g,ab n,ae G];refine⟨by simp[s],λz t=>?_,by simp[js,wU],(q u.symm s A B (λh=>n h.symm)).2 (I.1 G),λe v j p o=>?_⟩
     ·rcases de.1 t with rfl | t
      ·exact R
      ·exact B z t
     ·obtain⟨w,a,rfl,i⟩:=d e v;obtain⟨rfl,x⟩:=F w a p;exact(f _ s i).2 (AW up (rr K) i.symm (dm j) x)
    ·simp only[nx,ab g,ab n,ab G];intro e v j p o;obtain⟨w,a,rfl,i⟩:=d e v;obtain⟨rfl,x⟩:=F w a p;exact G (I.2 ((q u.symm i A (dm j) (λh=>n h.symm)).1 o))
 | [],_::_,_,h,_=>by simp at h
 | _::_,[],_,h,_=>by simp at h
def ap:aa->List Int->Nat
 | c::m,y::l=>if c=88\/((c.toNat:Nat):Int)=y then ap m l+1 else 0
 | _,_=>0
def V9:∀(m:aa) (l:List Int),ap m l<=m.length
 | [],_=>by simp[ap]
 | c::m,[]=>by simp[ap]
 | c::m,y::l=>by
  have:=V9 m l;simp only[ap,aN];split<;>omega
def ME:∀(m:aa) (l:List Int),js (m.take (ap m l)) (l.take (ap m l))=true
 | [],_=>by simp[ap,js]
 | c::m,[]=>by simp[ap,js]
 | c::m,y::l=>by
  have:=ME m l;simp only[ap];split
  ·rename_i h;simp only[pf,js,this,Dk,iC,bu,cr];exact h
  ·rfl
def MM:∀{m:aa} {l:List Int} {c:UInt8} {y:Int},m[ap m l]?=some c->l[ap m l]?=some y->¬c=88/\¬((c.toNat:Nat):Int)=y
 | [],_,c,y,h,_=>by simp at h
 | x::m,[],c,y,_,h=>by simp at h
 | x::m,z::l,c,y,a,b=>by
  by_cases h:x=88\/((x.toNat:Nat):Int)=z
  ·simp only[ap,ae h,Gj]at a b;exact MM a b
  ·simp only[ap,ab h,mC,ar]at a b;subst a b;exact⟨λe=>h (.inl e),λe=>h (.inr e)⟩
def bkn(up:Bool):aa->List Int->aa->Option (List Int)
 | c::m,y::d,m'=>
  match bkn up m d m' with
  | some r=>some (y::r)
  | none=>if c=88/\y≠lst up then some (stp up y::fil up (m++m'))else none
 | _,_,_=>none
def D2(up:Bool):∀{m m':aa} {d d':List Int},m.length=d.length->js m d=true->
  nx up (m++m') (d++d')=match nx up m' d' with | some r=>some (d++r) | none=>bkn up m d m'
 | [],m',[],d',_,_=>by
  simp only[dI];cases nx up m' d'<;>rfl
 | c::m,m',y::d,d',e,b=>by
  simp only[aN,vZ]at e;simp only[js,aC,iC,bu,cr]at b;have ih:=D2 up (m':=m') (d':=d') e b.2;simp only[dB,nx,ih,bkn];by_cases a:c=88
  ·simp only[ae a];cases nx up m' d' with
   | some r=>rfl
   | none=>
    cases bkn up m d m' with
    | some r=>rfl
    | none=>
     by_cases hy:y=lst up
     ·simp[hy]
     ·simp[hy,a]
  ·simp only[ab a,ae (b.1.resolve_left a)];cases nx up m' d' with
   | some r=>rfl
   | none=>
    cases bkn up m d m' with
    | some r=>rfl
    | none=>simp[a]
 | [],_,_::_,_,h,_=>by simp at h
 | _::_,_,[],_,h,_=>by simp at h
def FX(up:Bool)(c:UInt8)(y:Int):∀{m m':aa} {d:List Int},m.length=d.length->
  bkn up (m++[c]) (d++[y]) m'=if c=88/\y≠lst up then some (d++stp up y::fil up m')else bkn up m d (c::m')
 | [],m',[],_=>by simp[bkn]
 | x::m,m',z::d,a=>by
  simp only[aN,vZ]at a;have ih:=FX up c y (m':=m') a;simp only[dB,bkn,ih];by_cases h:c=88/\y≠lst up
  ·simp only[ae h]
  ·simp only[ab h,gG,dB,dI]
 | [],_,_::_,h=>by simp at h
 | _::_,_,[],h=>by simp at h
def bki(up:Bool)(m:aa)(l:List Int):Nat->Option Nat
 | 0=>none
 | j+1=>if m[j]?=some 88/\l[j]?≠some (lst up)then some j else bki up m l j
def Qx(up:Bool)(m:aa)(l:List Int):∀{j a:Nat},bki up m l j=some a->a<j
 | 0,a,h=>by simp[bki]at h
 | j+1,a,h=>by
  simp only[bki]at h;split at h
  ·simp only[ar]at h;omega
  ·have:=Qx up m l h;omega
def GH(up:Bool)(m:aa)(l:List Int)(hl:m.length=l.length):∀j,j<=m.length->
  bkn up (m.take j) (l.take j) (m.drop j)=(bki up m l j).map λa=>l.take a++stp up (l.getD a 0)::fil up (m.drop (a+1))
 | 0,_=>by simp[bkn,bki]
 | j+1,h=>by
  obtain⟨c,hc⟩:∃c,m[j]?=some c:=⟨m[j]'(by omega),bf (by omega)⟩;obtain⟨y,hy⟩:∃c,l[j]?=some c:=⟨l[j]'(by omega),bf (by omega)⟩;have ih:=GH up m l hl j (by omega);rw[bR hc]at ih;rw[sg,sg,hc,hy];simp only[Option.toList_some];rw[FX up c y (by simp;omega),ih];have hg:l.getD j 0=y:=by rw[zD,hy];rfl
  simp only[bki,hc,hy,ne_eq,ar];by_cases hh:c=88/\¬y=lst up
  ·rw[ae hh,ae hh,fi,hg]
  ·rw[ab hh,ab hh]
section
variable {m:List UInt8} {l z:List Int}
def mh(hl:m.length=l.length)(h18:m.length<=18)(k f g:Int)(up:Bool):
  au (fJ 20000000) 20000000 (m,k,up,f,g,0,over z 0 l,over z 0 l)=some (m,k,up,f,g,((ap m l:Nat):Int),over z 0 l,over z 0 l):=by
 have:=fK (step:=fJ 20000000) (λx=>x.1=m/\(0<=x.2.2.2.2.2.1/\x.2.2.2.2.2.1<=m.length)/\x.2.2.2.2.2.2.1=over z 0 l) (λx=>m.length - x.2.2.2.2.2.1.toNat)
  (λx=>(x.1,x.2.1,x.2.2.1,x.2.2.2.1,x.2.2.2.2.1,x.2.2.2.2.2.1+((ap (m.drop x.2.2.2.2.2.1.toNat) (l.drop x.2.2.2.2.2.1.toNat):Nat):Int),x.2.2.2.2.2.2.1,x.2.2.2.2.2.2.2)) ?_ 20000000 (m,k,up,f,g,0,over z 0 l,over z 0 l) ⟨rfl,⟨by simp,by simp⟩,rfl⟩ (by simp;omega)
 ·simpa using this
 rintro⟨m',k,up,f,g,i,d,o⟩ ⟨q1,⟨h0,hi⟩,q2⟩;simp only at q1 h0 hi q2 ⊢;subst q1 q2;obtain⟨j,rfl⟩:∃j:Nat,i=j:=⟨i.toNat,by omega⟩;simp only[ch];rcases aF j m'.length with hlt | hge
 ·obtain⟨c,hc⟩:∃c,m'[j]?=some c:=⟨m'[j],bf hlt⟩;obtain⟨y,hy⟩:∃c,l[j]?=some c:=⟨l[j]'(by omega),bf (by omega)⟩;have hg:(over z 0 l)[j]?=some y:=by rw[vM (by omega)];exact hy
  have hb:(decide ((j:Int)<((List.length m':Nat):Int)))=true:=by simp;omega
  have hw:wrap .i64 ((j:Int)+1)=((j+1:Nat):Int):=by rw[wrap_i64 _ (by omega) (by omega)];omega
  rw[bR hc,bR hy];simp only[fJ,hb,aj,dE hc,ob,Am,hw,dW (show j<18 by omega),hg,ap];by_cases h88:c=88
  ·refine .inl ⟨(m',k,up,f,g,((j+1:Nat):Int),over z 0 l,o),by simp only[aq h88,aj],⟨rfl,⟨by simp only;omega,by simp only;omega⟩,rfl⟩,by simp only[ch];omega,?_⟩;simp only[ch,ae (show c=88\/((c.toNat:Nat):Int)=y from .inl h88)];congr 6;omega
  ·simp only[am h88,af];by_cases hcy:((c.toNat:Nat):Int)=y
   ·have e:(((c.toNat:Nat):Int)==y)=true:=by simpa using hcy
    refine .inl ⟨(m',k,up,f,g,((j+1:Nat):Int),over z 0 l,o),by simp only[e,aj],⟨rfl,⟨by simp only;omega,by simp only;omega⟩,rfl⟩,by simp only[ch];omega,?_⟩;simp only[ch,ae (show c=88\/((c.toNat:Nat):Int)=y from .inr hcy)];congr 6;omega
   ·have e:(((c.toNat:Nat):Int)==y)=false:=by simpa using hcy
    refine .inr ?_;simp only[e,af,ab (show¬(c=88\/((c.toNat:Nat):Int)=y)fromλh=>h.elim h88 hcy),Int.ofNat_zero,Int.add_zero,Int.natCast_zero]
 ·have hb:(decide ((j:Int)<((List.length m':Nat):Int)))=false:=by simp;omega
  refine .inr ?_;simp only[fJ,hb,af];rw[iU hge];simp[ap]
def KI(hl:m.length=l.length)(h18:m.length<=18)(f:Int)(up:Bool)(o:List Int)(i:Nat)(hi:i<=m.length):
  au (cw 20000000) 20000000 (m,up,f,lst up,(i:Int),over z 0 l,o) =
   some (match bki up m l i with | none=>.inl (0,16) | some a=>.inr (m,up,f,((a:Nat):Int),o)):=by
 have:=fK (step:=cw 20000000) (λx=>x.1=m/\x.2.2.2.1=lst up/\(0<=x.2.2.2.2.1/\x.2.2.2.2.1<=m.length)/\x.2.2.2.2.2.1=over z 0 l) (λx=>x.2.2.2.2.1.toNat)
  (λx=>match bki up m l x.2.2.2.2.1.toNat with | none=>.inl (0,16) | some a=>.inr (x.1,x.2.1,x.2.2.1,((a:Nat):Int),x.2.2.2.2.2.2)) ?_ 20000000 (m,up,f,lst up,(i:Int),over z 0 l,o) ⟨rfl,rfl,⟨by simp only;omega,by simp only;omega⟩,rfl⟩ (by simp;omega)
 ·simpa using this
 rintro⟨m',up',f,g,i,d,o⟩ ⟨q1,q3,⟨h0,hi⟩,q2⟩;simp only at q1 q3 h0 hi q2 ⊢;subst q1 q2 q3;obtain⟨j,rfl⟩:∃j:Nat,i=j:=⟨i.toNat,by omega⟩;simp only[ch];rcases j with _ | j
 ·refine .inr ?_;have w:wrap .i64 (((0:Nat):Int) - 1)=-1:=wrap_i64 _ (by omega) (by omega);simp only[cw,w,show decide ((-1:Int)<0)=true from rfl,aj,bki]
 ·have w:wrap .i64 (((j+1:Nat):Int) - 1)=(j:Int):=by rw[wrap_i64 _ (by omega) (by omega)];omega
  have e0:decide ((j:Int)<0)=false:=by simp
  obtain⟨c,hc⟩:∃c,m'[j]?=some c:=⟨m'[j]'(by omega),bf (by omega)⟩;obtain⟨y,hy⟩:∃c,l[j]?=some c:=⟨l[j]'(by omega),bf (by omega)⟩;have hg:(over z 0 l)[j]?=some y:=by rw[vM (by omega)];exact hy
  simp only[cw,w,e0,af,dE hc,ob,Am,dW (show j<18 by omega),hg,bki,hc,hy,ar,ne_eq];by_cases h88:c=88
  ·by_cases hy9:y=lst up
   ·have e:(y != lst up)=false:=by simpa using hy9
    refine .inl ⟨(m',up',f,lst up,(j:Int),over z 0 l,o),by simp only[aq h88,aj,e,af],⟨rfl,rfl,⟨by simp only;omega,by simp only;omega⟩,rfl⟩,by simp only[ch];omega,?_⟩;simp only[ch,ab (show¬(c=88/\¬y=lst up)fromλh=>h.2 hy9)]
   ·have e:(y != lst up)=true:=by simpa using hy9
    refine .inr ?_;simp only[aq h88,aj,e,ae (show c=88/\¬y=lst up from⟨h88,hy9⟩)]
  ·refine .inl ⟨(m',up',f,lst up,(j:Int),over z 0 l,o),by simp only[am h88,af],⟨rfl,rfl,⟨by simp only;omega,by simp only;omega⟩,rfl⟩,by simp only[ch];omega,?_⟩;simp only[ch,ab (show¬(c=88/\¬y=lst up)fromλh=>h88 h.1)]
def CQ(o:m.length<=18)(up:Bool)(d:List Int)(hd:d.length=18)(i:Nat)(hi:i<=m.length):
  au (bs 20000000) 20000000 (m,fst up,(i:Int),d)=some (m,over d i (fil up (m.drop i))):=by
 have:=fK (step:=bs 20000000) (λx=>x.1=m/\x.2.1=fst up/\(0<=x.2.2.1/\x.2.2.1<=m.length)/\x.2.2.2.length=18) (λx=>m.length - x.2.2.1.toNat)
  (λx=>(m,over x.2.2.2 x.2.2.1.toNat (fil up (m.drop x.2.2.1.toNat)))) ?_ 20000000 (m,fst up,(i:Int),d) ⟨rfl,rfl,⟨by simp only;omega,by simp only;omega⟩,hd⟩ (by simp;omega)
 ·simpa using this
 rintro⟨m',f,i,d⟩ ⟨n,l,⟨q,hi⟩,hd⟩;simp only at n l q hi hd ⊢;subst n l;obtain⟨j,rfl⟩:∃j:Nat,i=j:=⟨i.toNat,by omega⟩;simp only[ch];rcases aF j m'.length with g | e
 ·obtain⟨c,hc⟩:∃c,m'[j]?=some c:=⟨m'[j],bf g⟩;have k:j<18:=by omega
  have h:(decide ((j:Int)<((List.length m':Nat):Int)))=true:=by simp;omega
  have p:wrap .i64 ((j:Int)+1)=((j+1:Nat):Int):=by rw[wrap_i64 _ (by omega) (by omega)];omega
  have r:Nat.blt j 18=true:=dT k;have b:∀c:UInt8,fil up (c::m'.drop (j+1))=(cond (decide (c=88)) (fst up) ((c.toNat:Nat):Int))::fil up (m'.drop (j+1)):=λ_=>rfl;rw[bR hc,b];simp only[bs,h,aj,dE hc,ob,Am,dW k,r,p];by_cases a:c=88
  ·refine .inl ⟨(m',fst up,((j+1:Nat):Int),(d.set j ((c.toNat:Nat):Int)).set j (fst up)),by simp only[aq a,aj],⟨rfl,rfl,⟨by simp only;omega,by simp only;omega⟩,by simpa using hd⟩,by simp only[ch];omega,?_⟩;simp only[ch,aq a,aj];rw[List.set_set,zU _ _ _ _ (by omega)]
  ·refine .inl ⟨(m',fst up,((j+1:Nat):Int),d.set j ((c.toNat:Nat):Int)),by simp only[am a,af],⟨rfl,rfl,⟨by simp only;omega,by simp only;omega⟩,by simpa using hd⟩,by simp only[ch];omega,?_⟩;simp only[ch,am a,af];rw[zU _ _ _ _ (by omega)]
 ·have h:(decide ((j:Int)<((List.length m':Nat):Int)))=false:=by simp;omega
  refine .inr ?_;simp only[bs,h,af];rw[iU e];simp[fil,FW]
def BL(z l F:List Int)(i:Nat)(h:i+F.length=l.length):over (over z 0 l) i F=over z 0 (l.take i++F):=by
 unfold over;simp only[ot,dI,cU,bw,dq,sO (show i<=l.length by omega),h];rw[uC (by omega),vj (by omega),List.drop_of_length_le (aQ l.length)];simp
end
def JL{m:aa}(hm:chk m=0)(up:Bool)(k:Int)(h0:0<=k)(h1:k<10 ^ m.length):
  dk 20000000 m k up=some (match nx up m (dg m.length k)with | some r=>(vl r,0) | none=>(0,16)):=by
 obtain⟨h18,_,hok⟩:=nz hm;have hp:=BY m.length h18;have hlen:=xK m.length k;have hrng:=tZ m.length k;have hv:=NY m.length k h0 h1;have hn:=Td up hok hlen.symm hrng;have hsplit:=PY m k h18 h0 (by omega);generalize dg m.length k=l at hlen hrng hv hn hsplit ⊢;have hout:(over [0,0,0,0,0,0,0,0,0,0,0,0,0,0,0,0,0,0] 0 l).length=18:=by rw[NE _ _ _ (by simp;omega)];rfl
 have fin:∀r:List Int,nx up m l=some r->gq 20000000 m (over [0,0,0,0,0,0,0,0,0,0,0,0,0,0,0,0,0,0] 0 r)=some (vl r):=by
  intro r hr;rw[hr]at hn;obtain⟨i1,i2,_⟩:=hn;rw[Oy _ h18 i1 i2,Bt i2]
 have hap:=V9 m l;have hagr:=ME m l;have happ:=D2 up (m:=m.take (ap m l)) (m':=m.drop (ap m l)) (d:=l.take (ap m l)) (d':=l.drop (ap m l)) (by simp;omega) hagr;rw[uF,uF]at happ;have hz0:lH 20000000 m k=some (over [0,0,0,0,0,0,0,0,0,0,0,0,0,0,0,0,0,0] 0 l):=hsplit;generalize hzz:([0,0,0,0,0,0,0,0,0,0,0,0,0,0,0,0,0,0]:List Int)=z at hout fin hz0;rcases aF (ap m l) m.length with hlt | hge
 ·obtain⟨c,hc⟩:∃c,m[ap m l]?=some c:=⟨m[ap m l],bf hlt⟩;obtain⟨y,hy⟩:∃c,l[ap m l]?=some c:=⟨l[ap m l]'(by omega),bf (by omega)⟩;obtain⟨h88,hcy⟩:=MM hc hy;have hg:(over z 0 l)[ap m l]?=some y:=by rw[vM (by omega)];exact hy
  have eL:(((ap m l:Nat):Int)==((List.length m:Nat):Int))=false:=by simp;omega
  have hj:ap m l<18:=by omega
  have hfc:fil up (m.drop (ap m l))=((c.toNat:Nat):Int)::fil up (m.drop (ap m l+1)):=by
   rw[bR hc];simp[fil,h88]
  have hbk:=GH up m l hlen.symm (ap m l) hap;have hnx:nx up (m.drop (ap m l)) (l.drop (ap m l))=if decide (((c.toNat:Nat):Int)>y)=up then some (fil up (m.drop (ap m l)))else none:=by
   rw[hfc,bR hc,bR hy];simp only[nx,ab h88,ab hcy]
  rw[hnx]at happ;by_cases hup:decide (((c.toNat:Nat):Int)>y)=up
  ·rw[ae hup]at happ;simp only at happ;have f2:=fin _ happ;rw[happ];simp only[];rw[<-BL z l _ _ (by rw[BF,ba];omega)]at f2;have l2:=CQ h18 up _ hout (ap m l) hap;cases up
   ·have l0:=mh (z:=z) hlen.symm h18 k 57 48 false;have l2':au (bs 20000000) 20000000 (m,57,((ap m l:Nat):Int),over z 0 l)=_:=l2;simp only[dk,ia,aj,hz0,ob,l0,eL,af,dE hc,dW hj,hg,hup,sU,ca,l2',f2]
   ·have l0:=mh (z:=z) hlen.symm h18 k 48 57 true;have l2':au (bs 20000000) 20000000 (m,48,((ap m l:Nat):Int),over z 0 l)=_:=l2;simp only[dk,ca,aj,hz0,ob,l0,eL,af,dE hc,dW hj,hg,hup,sU,l2',f2]
  ·rw[ab hup]at happ;simp only[hbk]at happ;have hne:(!(decide (((c.toNat:Nat):Int)>y)==up))=true:=by
    cases up<;>cases hh:decide (((c.toNat:Nat):Int)>y)<;>simp_all
   have l1:=KI (z:=z) hlen.symm h18 (fst up) up (over z 0 l) (ap m l) hap;cases hb:bki up m l (ap m l)with
   | none=>
    rw[hb]at happ l1;simp only[iQ]at happ;rw[happ];simp only[]at l1 ⊢;cases up
    ·have l0:=mh (z:=z) hlen.symm h18 k 57 48 false;have l1':au (cw 20000000) 20000000 (m,false,57,48,((ap m l:Nat):Int),over z 0 l,over z 0 l)=_:=l1;simp only[dk,ia,aj,hz0,ob,l0,eL,af,dE hc,dW hj,hg,hne,l1']
    ·have l0:=mh (z:=z) hlen.symm h18 k 48 57 true;have l1':au (cw 20000000) 20000000 (m,true,48,57,((ap m l:Nat):Int),over z 0 l,over z 0 l)=_:=l1;simp only[dk,ca,aj,hz0,ob,l0,eL,af,dE hc,dW hj,hg,hne,l1']
   | some a=>
    have ha:=Qx up m l hb;obtain⟨w,hw⟩:∃c,l[a]?=some c:=⟨l[a]'(by omega),bf (by omega)⟩;have hga:(over z 0 l)[a]?=some w:=by rw[vM (by omega)];exact hw
    have hgd:l.getD a 0=w:=by rw[zD,hw];rfl
    have hwr:=hrng w (fG hw);have haj:a<18:=by omega
    have e2:Nat.blt a 18=true:=dT haj;have w1:wrap .i64 ((a:Int)+1)=((a+1:Nat):Int):=by rw[wrap_i64 _ (by omega) (by omega)];omega
    rw[hb]at happ l1;simp only[fi,hgd]at happ;have f2:=fin _ happ;rw[happ];simp only[]at l1 ⊢;rw[<-BL z l _ _ (by rw[aN,BF,ba];omega),<-zU _ _ _ _ (by omega)]at f2;have l2:=CQ h18 up ((over z 0 l).set a (stp up w)) (by simpa using hout) (a+1) (by omega);cases up
    ·have l0:=mh (z:=z) hlen.symm h18 k 57 48 false;have l1':au (cw 20000000) 20000000 (m,false,57,48,((ap m l:Nat):Int),over z 0 l,over z 0 l)=some (.inr (m,false,57,((a:Nat):Int),over z 0 l)):=l1;have l2':au (bs 20000000) 20000000 (m,57,((a+1:Nat):Int),(over z 0 l).set a (w - 1))=_:=l2;have w2:wrap .u8 (w - 1)=w - 1:=ke _ (by omega) (by omega);simp only[dk,ia,aj,hz0,ob,l0,eL,af,dE hc,dW hj,hg,hne,l1',dW haj,hga,e2,w1,w2,l2',f2]
    ·have l0:=mh (z:=z) hlen.symm h18 k 48 57 true;have l1':au (cw 20000000) 20000000 (m,true,48,57,((ap m l:Nat):Int),over z 0 l,over z 0 l)=some (.inr (m,true,48,((a:Nat):Int),over z 0 l)):=l1;have l2':au (bs 20000000) 20000000 (m,48,((a+1:Nat):Int),(over z 0 l).set a (w+1))=_:=l2;have w2:wrap .u8 (w+1)=w+1:=ke _ (by omega) (by omega);simp only[dk,ca,aj,hz0,ob,l0,eL,af,dE hc,dW hj,hg,hne,l1',dW haj,hga,e2,w1,w2,l2',f2]
 ·have e:ap m l=m.length:=by omega
  rw[e,vd,<-hlen,vd,nT]at happ;simp only[nx,lu]at happ;have eL:(((ap m l:Nat):Int)==((List.length m:Nat):Int))=true:=by rw[e];simp
  rw[happ];simp only[hv];cases up
  ·have l0:=mh (z:=z) hlen.symm h18 k 57 48 false;simp only[dk,ia,aj,hz0,ob,l0,eL]
  ·have l0:=mh (z:=z) hlen.symm h18 k 48 57 true;simp only[dk,ca,af,hz0,ob,l0,eL,aj]
def near(up:Bool)(m:aa)(k:Int):Option Int->Prop
 | some R=>hasM m R=true/\fq up k R/\∀e,hasM m e=true->fq up k e->fq up R e
 | none=>∀e,hasM m e=true->¬fq up k e
def res(o:Option Int):Int×Int:=match o with | some r=>(r,0) | none=>(0,16)
def oe{m:aa}{e:Int}(h:hasM m e=true):(dg m.length e).length=m.length/\digl (dg m.length e)/\js m (dg m.length e)=true/\vl (dg m.length e)=e/\0<=e/\e<10 ^ m.length:=by
 unfold hasM at h;simp only[aC,cr]at h;exact⟨xK _ _,tZ _ _,h.2.2,NY _ _ h.1 h.2.1,h.1,h.2.1⟩
def Q6{m:aa}{r:List Int}(c:r.length=m.length)(b:digl r)(d:js m r=true):hasM m (vl r)=true:=by
 have a:=vT b;have hd:=WG b;rw[c]at a hd;unfold hasM;rw[hd,d,aq a.1,aq a.2];rfl
def wz{m:aa}(p:chk m=0)(up:Bool)(k:Int)(n:0<=k)(q:k<10 ^ m.length):∃o,dk 20000000 m k up=some (res o)/\near up m k o:=by
 obtain⟨s,_,i⟩:=nz p;have a:=Td up i (xK m.length k).symm (tZ m.length k);have g:=NY m.length k n q;refine⟨(nx up m (dg m.length k)).map vl,?_,?_⟩
 ·rw[JL p up k n q];cases nx up m (dg m.length k)<;>rfl
 ·cases hx:nx up m (dg m.length k)with
  | none=>
   rw[hx]at a;intro e d h;obtain⟨c,j,f,b,_⟩:=oe d;exact a _ c j f (by rw[g,b];exact h)
  | some r=>
   rw[hx]at a;obtain⟨v,u,w,l,t⟩:=a;refine⟨Q6 v u w,by rw[g]at l;exact l,λe d h=>?_⟩;obtain⟨c,j,f,b,_⟩:=oe d;have:=t _ c j f (by rw[g,b];exact h);rwa[b]at this
def F4{m:aa}{e:Int}(h:hasM m e=true):0<=idx m.reverse e/\idx m.reverse e<10 ^ cnt m/\nth m.reverse (idx m.reverse e)=e:=by
 rw[EQ]at h;simp only[aC,cr]at h;obtain⟨k0,k1,k2⟩:=h;have:=xC m.reverse e k0;rw[sj]at this;exact⟨this.1,this.2,JQ k0 (by rw[uu];exact k1) k2⟩
section
variable {m:List UInt8} (hm:chk m=0)
include hm
def Nz{i j:Int}(e:0<=i)(c:i<=j)(d:j<10 ^ cnt m):nth m.reverse i<=nth m.reverse j:=by
 obtain⟨b,_,a⟩:=nz hm;rcases Int.lt_or_eq_of_le c with h | rfl
 ·exact Int.le_of_lt (BB (zx a) i j e h (by rw[sj];exact d))
 ·exact zq _
def CV(k:Int):l8 20000000 m k=some (decide (0<=k/\k<10 ^ m.length)):=by
 obtain⟨b,_,c⟩:=nz hm;simp only[l8,OI m.length b,ob];by_cases a:0<=k
 ·have d0:decide (k>=0)=true:=by simpa using a
  simp only[d0,aj,a,jD,oc]
 ·have d0:decide (k>=0)=false:=by simpa using a
  simp only[d0,af,a,wv,nK]
def M6(k:Int):∃o,re 20000000 m k=some (res o)/\near true m k o:=by
 obtain⟨g,_,c⟩:=nz hm;have q:((0:Int) != 0)=false:=by simp
 simp only[re,lS 20000000 m (by omega),hm,mH,q,af,CV hm];by_cases d:k<0
 ·refine⟨some (nth m.reverse 0),by simp only[aq d,aj,Oc hm,mH,res],HF hm (by omega),?_,λe a f=>?_⟩
  ·have:=(qL (zx c) 0 (by omega)).1;simp only[fq];omega
  ·obtain⟨j,p,r⟩:=F4 a;have:=Nz hm (zq 0) j p;simp only[fq];omega
 ·by_cases b:k<10 ^ m.length
  ·obtain⟨o,n,l⟩:=wz hm true k (by omega) b;exact⟨o,by simp only[am d,af,aq (show 0<=k/\k<10 ^ m.length from⟨by omega,b⟩),ca,n,mH],l⟩
  ·refine⟨none,by simp only[am d,af,am (show¬(0<=k/\k<10 ^ m.length)fromλh=>b h.2),ia,aj,res],λe a f=>?_⟩;obtain⟨_,_,_,_,_,i⟩:=oe a;simp only[fq]at f;omega
def K9(k:Int):∃o,rf 20000000 m k=some (res o)/\near false m k o:=by
 obtain⟨g,_,c⟩:=nz hm;have q:((0:Int) != 0)=false:=by simp
 simp only[rf,lS 20000000 m (by omega),hm,mH,q,af,CV hm];by_cases d:k<0
 ·refine⟨none,by simp only[aq d,aj,res],λe a f=>?_⟩;obtain⟨_,_,_,_,i,_⟩:=oe a;simp only[fq]at f;omega
 ·by_cases b:k<10 ^ m.length
  ·obtain⟨o,p,n⟩:=wz hm false k (by omega) b;exact⟨o,by simp only[am d,af,aq (show 0<=k/\k<10 ^ m.length from⟨by omega,b⟩),ca,p,mH],n⟩
  ·have j:=tG (cnt m);refine⟨some (nth m.reverse (10 ^ cnt m - 1)),by simp only[am d,af,am (show¬(0<=k/\k<10 ^ m.length)fromλh=>b h.2),ia,aj,FN hm,mH,res],HF hm (by omega),?_,λe a f=>?_⟩
   ·have:=(qL (zx c) (10 ^ cnt m - 1) (by omega)).2;rw[uu]at this;simp only[fq];omega
   ·obtain⟨l,s,r⟩:=F4 a;have:=Nz hm l (show idx m.reverse e<=10 ^ cnt m - 1 by omega) (by omega);simp only[fq];omega
end
end Go.Sh.Mk
namespace Go.Sh
open Go.Abs
def fitN(s:aa)(g:Nat):List Nat:=(List.range' 1 g).filter (agr s)
def s8(l:List Nat):List Int:=l.map λk:Nat=>(k:Int)
def DV(l:List Nat):(s8 l).length=l.length:=by simp[s8]
def D4(c:UInt8){j:Nat}(b:j<10):(wrap .i64 (wrap .u8 (((c.toNat:Nat):Int) - 48))==((j:Nat):Int))=(c==UInt8.ofNat (48+j)):=by
 have hc:=c.toNat_lt;have a:=BG (((c.toNat:Nat):Int) - 48);rw[wrap_i64 _ (by omega) (by omega),H7,r7,bu,bu];have d:(UInt8.ofNat (48+j)).toNat=48+j:=by simp;omega
 constructor
 ·intro h;apply gu.1;omega
 ·rintro rfl;omega
def Nh(n:Nat)(a b:UInt8){k:Nat}(l:k<=31):lc n [a,b] (k:Int)=some (agr [a,b] k):=by
 have e:wrap .i64 (Int.tdiv (k:Int) 10)=((k / 10:Nat):Int):=by
  rw[show Int.tdiv (k:Int) 10=((k / 10:Nat):Int)from rfl,wrap_i64 _ (by omega) (by omega)]
 have j:Int.tmod (k:Int) 10=((k%10:Nat):Int):=rfl;have s0:sx [a,b] 0=some a:=rfl;have i:sx [a,b] 1=some b:=rfl;have c:(88:Int)=((88:Nat):Int):=rfl;unfold lc;simp only[s0,i,ob,e,j];rw[D4 a (show k / 10<10 by omega),D4 b (show k%10<10 by omega),c,va (by omega),va (by omega)];show _=some ((a==UInt8.ofNat 88||a==UInt8.ofNat (48+k / 10))&&(b==UInt8.ofNat 88||b==UInt8.ofNat (48+k%10)));generalize(a==UInt8.ofNat 88)=d;generalize(b==UInt8.ofNat 88)=h;generalize(a==UInt8.ofNat (48+k / 10))=g;generalize(b==UInt8.ofNat (48+k%10))=f;cases d<;>cases h<;>cases g<;>cases f<;>rfl
def room{k:Nat}(h:k<=60000000):Nat.ble (k+1) gI=true:=dT (by unfold gI;omega)
def G7{X Y:Type}{step:X->Option (X⊕Y)}{f:Nat->List Int->X}{y:List Int->Y}{p:Nat->Bool}{g:Nat}(e:g<=1000)
  (h:∀i out,i<g->out.length<=1000->step (f i out)=some (.inl (f (i+1) (if p (i+1)then out++[((i+1:Nat):Int)]else out))))
  (b:∀out,step (f g out)=some (.inr (y out))) {N:Nat} (a:g<N):au step N (f 0 [])=some (y (s8 ((List.range' 1 g).filter p))):=by
 have d:∀(r i:Nat) (out:List Int),i+r=g->out.length<=i->∀N,r<N->au step N (f i out)=some (y (out++s8 ((List.range' (i+1) r).filter p))):=by
  intro r
  induction r with
  | zero=>
   intro i out hi c N a;obtain⟨N,rfl⟩:∃q,N=q+1:=⟨N - 1,by omega⟩;obtain rfl:i=g:=by omega
   rw[au,b];simp[s8]
  | succ r ih=>
   intro i out hi c N a;obtain⟨N,rfl⟩:∃q,N=q+1:=⟨N - 1,by omega⟩;rw[au,h i out (by omega) (by omega)];show au step N _=_;by_cases hp:p (i+1)=true
   ·rw[ae hp,ih (i+1) _ (by omega) (by simp;omega) N (by omega),wy,QM hp];simp[s8]
   ·rw[ab hp,ih (i+1) _ (by omega) (by omega) N (by omega),wy,P8 hp]
 have:=d g 0 [] (by omega) (by simp) N a;simpa using this
def MU (n:Nat) (j:100<n) (a b:UInt8) {g:Nat} (e:g<=31):fg n [a,b] (g:Int)=some (s8 (fitN [a,b] g)):=by
 unfold fg
 have:=G7 (step:=fW n) (f:=λi out=>([a,b],(g:Int),(i:Int),out)) (y:=λl=>l) (p:=agr [a,b]) (g:=g) (by omega)
  (λi out hi h=>by
   have d:wrap .i64 ((i:Int)+1)=((i+1:Nat):Int):=by rw [wrap_i64 _ (by omega) (by omega)];omega
   unfold fW;simp only [d];rw [aq (show (i:Int)<(g:Int) by omega),Nh n a b (by omega),room (by omega)];by_cases hp:agr [a,b] (i+1)=true
   ·rw [ae hp];simp only [ob,hp,aj]
   ·rw [ab hp];rw [Ho] at hp;simp only [ob,hp,aj,af])
  (λout=>by
   unfold fW;simp only [am (show ¬(g:Int)<(g:Int) by omega),af])
  (N:=n) (by omega)
 have c:au (fW n) n ([a,b],(g:Int),0,([]:List Int))=_:=this;rw [c];rfl
def monI(m:aa):List Int:=if m=[]then[0]else if 0<sea m then[sea m]else s8 (fitN m 12)
def dayI(d:aa):List Int:=if d=[]then[0]else s8 (fitN d 31)
def fY{l:aa}(h:l≠[]):(l==([]:aa))=false:=aK.2 h
def len2{s:aa}(h:s.length=2):∃a b,s=[a,b]:=by
 match s,h with
 | [a,b],_=>exact⟨a,b,rfl⟩
def WL(n:Nat)(k:100<n)(g l:Bool)(dg:aa)(x q:Int)(m d:aa)(k0 k1 k2:Int)(j:m=[]\/m.length=2)(hd:d=[]\/d.length=2):
  pj n g l dg x q m d k0 k1 k2=some (g,l,dg,x,q,m,d,k0,k1,k2,monI m,dayI d):=by
 have f:m.length<=18:=by rcases j with h | h;(rw[h];simp);omega
 have i:d≠[]->fg n d 31=some (dayI d):=λh=>by
  obtain⟨a,b,rfl⟩:=len2 (hd.resolve_left h);rw[show(31:Int)=((31:Nat):Int)from rfl,MU n k a b (by omega)];unfold dayI;rw[ab h]
 have c:d=[]->dayI d=[0]:=λh=>by unfold dayI;rw[ae h]
 have o:m≠[]->¬0<sea m->fg n m 12=some (monI m):=λh hs=>by
  obtain⟨a,b,rfl⟩:=len2 (j.resolve_left h);rw[show(12:Int)=((12:Nat):Int)from rfl,MU n k a b (by omega)];unfold monI;rw[ab h,ab hs]
 unfold pj;rw[qM n g l dg x q m d k0 k1 k2 f];simp only[ob];by_cases hs:0<sea m
 ·have e:m≠[]:=by rintro rfl;exact absurd hs (by decide)
  have hm':monI m=[sea m]:=by unfold monI;rw[ab e,ae hs]
  rw[aq hs];by_cases h:d=[]
  ·rw[h,<-h,c h,hm',h];rfl
  ·rw[fY h,i h,hm'];rfl
 ·rw[am hs];by_cases e:m=[]
  ·have hm':monI m=[0]:=by unfold monI;rw[ae e]
   by_cases h:d=[]
   ·rw[c h,hm',h,e];rfl
   ·rw[fY h,i h,hm',e];rfl
  ·rw[fY e,o e hs];by_cases h:d=[]
   ·rw[c h,h];rfl
   ·rw[fY h,i h];rfl
def Ir (n:Nat) (c:100<n) (g l:Bool) (dg:aa) (x q:Int) (m d:aa) (k0 k1 k2:Int):ju n g l dg x q m d k0 k1 k2=some (monI m):=by
 unfold ju;by_cases a:m=[]
 ·unfold monI;rw [ae a,a];rfl
 ·rw [fY a,oQ n c];simp only [ob,af];unfold monI;rw [ab a];by_cases hs:0<sea m
  ·rw [ae hs,aq (show sea m>0 from hs)];rfl
  ·rw [ab hs,am (show ¬sea m>0 from hs)]
   have:=G7 (step:=dQ n) (f:=λi out=>(((i+1:Nat):Int),g,l,dg,x,q,m,d,k0,k1,k2,out)) (y:=λl=>l) (p:=agr m) (g:=12) (by omega)
    (λi out hi h=>by
     have e:wrap .i64 (((i+1:Nat):Int)+1)=((i+1+1:Nat):Int):=by rw [wrap_i64 _ (by omega) (by omega)];omega
     unfold dQ;simp only [d4,d8,e];rw [aq (show ((i+1:Nat):Int)<=12 by omega),uM n m (i+1) (by omega),room (by omega)];by_cases hp:agr m (i+1)=true
     ·rw [ae hp,ae hp];rfl
     ·rw [ab hp,ab hp];rfl)
    (λout=>by
     unfold dQ;simp only [d4,d8,am (show ¬((12+1:Nat):Int)<=12 by omega),af])
    (N:=n) (by omega)
   have b:au (dQ n) n (1,g,l,dg,x,q,m,d,k0,k1,k2,([]:List Int))=_:=this;rw [b];rfl
def sJ(y:Int):Bool:=decide (y%4=0)&&(decide (y%100≠0)||decide (y%400=0))
def lenI(y m:Int):Int:=if m=4\/m=6\/m=9\/m=11 then 30 else if m=2 then(if sJ y then 29 else 28)else 31
def KB(y:Int){b:Int}(c:0<b):(Int.tmod y b==0)=decide (y%b=0):=by
 rw[r7,bu,EV];have h:=JB (a:=y) (b:=b);have d:=Jj y (show b≠0 by omega);have f:=KH y c;by_cases hc:0<=y\/b∣y
 ·rw[ae hc]at h;omega
 ·rw[ab hc]at h;have hd:¬b∣y:=λe=>hc (.inr e);have:y%b≠0:=λe=>hd (Jq e);omega
def Ax(n:Nat)(y m:Int):ep n y m=some (lenI y m):=by
 have a:(Int.tmod y 100 != 0)=decide (y%100≠0):=by
  rw[bne,KB y (by omega)];by_cases h:y%100=0<;>simp[h]
 unfold ep;rw[KB y (by omega),KB y (by omega),a];have body:(cond (m==2) (cond (decide (y%4=0)) (cond (decide (y%100≠0)) (some (29:Int)) (cond (decide (y%400=0)) (some 29) (some 28))) (some 28)) (some 31))=some (if m=2 then(if sJ y=true then 29 else 28)else 31):=by
  rw[jP];by_cases c:m=2
  ·rw[ae c,ae c];unfold sJ;cases decide (y%4=0)<;>cases decide (y%100≠0)<;>cases decide (y%400=0)<;>rfl
  ·rw[ab c,ab c]
 rw[body];unfold lenI;by_cases d:m=4
 ·subst d;rfl
 ·by_cases e:m=6
  ·subst e;rfl
  ·by_cases f:m=9
   ·subst f;rfl
   ·by_cases b:m=11
    ·subst b;rfl
    ·rw[aK.2 d,aK.2 e,aK.2 f,aK.2 b,ab (show¬(m=4\/m=6\/m=9\/m=11)by omega)];rfl
def wZ(n:Nat){y:Int}(h:-20000000000000000<=y/\y<=20000000000000000):fA n y=some (1+(y - 1) / 4 - (y - 1) / 100+(y - 1) / 400):=by
 unfold fA;rw[wrap_i64 (y - 1) (by omega) (by omega),yo n (by omega) (by omega) (by omega) (by omega),yo n (by omega) (by omega) (by omega) (by omega),yo n (by omega) (by omega) (by omega) (by omega)];show some _=some _;have f:-5000000000000001<=(y - 1) / 4/\(y - 1) / 4<=5000000000000001:=by omega
 have e:-5000000000000001<=(y - 1) / 100/\(y - 1) / 100<=5000000000000001:=by omega
 have d:-5000000000000001<=(y - 1) / 400/\(y - 1) / 400<=5000000000000001:=by omega
 generalize(y - 1) / 4=a at *;generalize(y - 1) / 100=b at *;generalize(y - 1) / 400=c at *;simp only[];rw[wrap_i64 (1*a) (by omega) (by omega),wrap_i64 (-1*b) (by omega) (by omega),wrap_i64 (1*c) (by omega) (by omega),wrap_i64 (1+1*a) (by omega) (by omega),wrap_i64 (1+1*a+-1*b) (by omega) (by omega),wrap_i64 _ (by omega) (by omega)];congr 1;omega
def Pz(y:Int):(1+y / 4 - y / 100+y / 400>1+(y - 1) / 4 - (y - 1) / 100+(y - 1) / 400)↔sJ y=true:=by
 unfold sJ;simp only[aC,iC,cr];omega
def QQ(n:Nat){y:Int}(h:dU y):km n y=some (sJ y,0):=by
 unfold km;have h':=h;unfold dU at h';rw[gA,ae h,wrap_i64 (y+1) (by omega) (by omega),wZ n (by omega),wZ n (by omega),show y+1 - 1=y by omega];have b:=Pz y;show some (decide (1+y / 4 - y / 100+y / 400>1+(y - 1) / 4 - (y - 1) / 100+(y - 1) / 400),(0:Int))=_;by_cases a:sJ y=true
 ·rw[a,aq (b.2 a)]
 ·rw[Ho]at a;rw[a,am (λe=>by rw[b.1 e]at a;cases a)]
def xi(n:Nat){y:Int}(h:dU y){m:Nat}(c:1<=m)(d:m<=12):ew n y (m:Int)=some (lenI y (m:Int)):=by
 unfold ew;rw[QQ n h];show cond (sJ y&&((m:Int)==2)) _ _=_;have a:wrap .i64 ((m:Int) - 1)=((m - 1:Nat):Int):=by rw[wrap_i64 _ (by omega) (by omega)];omega
 rw[a,dW (show m - 1<12 by omega)];have b:m=1\/m=2\/m=3\/m=4\/m=5\/m=6\/m=7\/m=8\/m=9\/m=10\/m=11\/m=12:=by omega
 rcases b with rfl | rfl | rfl | rfl | rfl | rfl | rfl | rfl | rfl | rfl | rfl | rfl<;>unfold lenI<;>cases sJ y<;>rfl
def I8(n:Nat){y:Int}(h:dU y){m:Nat}(a:1<=m)(b:m<=12):oz n y (m:Int)=some (lenI y (m:Int),0):=by
 unfold oz;rw[HM n h a b,xi n h a b];rfl
def lI(y m:Int):28<=lenI y m/\lenI y m<=31:=by
 unfold lenI;split
 ·omega
 ·split
  ·split<;>omega
  ·omega
def wV(d:aa)(y m:Int):Int:=if d=[]then 0 else lenI y m
def u0(d:aa)(y a:Int):List (Int×Int×Int):=((dayI d).filter λk=>decide (k<=wV d y a)).map λk=>(y,a,k)
def xM(m d:aa)(y:Int):List (Int×Int×Int):=(monI m).flatMap (u0 d y)
def Ns{X Y A:Type}{step:X->Option (X⊕Y)}{f:Nat->List A->X}{y:List A->Y}{p:Nat->Bool}{e:Nat->A}{g:Nat}(a:List A)
  (h:∀i out,i<g->out.length<=a.length+i->step (f i out)=some (.inl (f (i+1) (if p (i+1)then out++[e (i+1)]else out))))
  (c:∀out,step (f g out)=some (.inr (y out))) {N:Nat} (b:g<N):au step N (f 0 a)=some (y (a++((List.range' 1 g).filter p).map e)):=by
 have j:∀(r i:Nat) (out:List A),i+r=g->out.length<=a.length+i->∀N,r<N->au step N (f i out)=some (y (out++((List.range' (i+1) r).filter p).map e)):=by
  intro r
  induction r with
  | zero=>
   intro i out hi d N b;obtain⟨N,rfl⟩:∃q,N=q+1:=⟨N - 1,by omega⟩;obtain rfl:i=g:=by omega
   rw[au,c];simp
  | succ r ih=>
   intro i out hi d N b;obtain⟨N,rfl⟩:∃q,N=q+1:=⟨N - 1,by omega⟩;rw[au,h i out (by omega) (by omega)];show au step N _=_;by_cases hp:p (i+1)=true
   ·rw[ae hp,ih (i+1) _ (by omega) (by simp;omega) N (by omega),wy,QM hp];simp
   ·rw[ab hp,ih (i+1) _ (by omega) (by omega) N (by omega),wy,P8 hp]
 exact j g 0 a (by omega) (by omega) N b
def MR{X Y A B:Type}{step:X->Option (X⊕Y)}{f:Nat->List A->X}{y:List A->Y}{F:B->List A}{L:List B}{c:Nat}(hc:∀b∈L,(F b).length<=c)
  (h:∀i b out,L[i]?=some b->out.length<=c*i->step (f i out)=some (.inl (f (i+1) (out++F b))))
  (e:∀out,step (f L.length out)=some (.inr (y out))) {N:Nat} (a:L.length<N):au step N (f 0 [])=some (y (L.flatMap F)):=by
 have j:∀(r i:Nat) (out:List A),i+r=L.length->out.length<=c*i->∀N,r<N->au step N (f i out)=some (y (out++(L.drop i).flatMap F)):=by
  intro r
  induction r with
  | zero=>
   intro i out hi d N a;obtain⟨N,rfl⟩:∃q,N=q+1:=⟨N - 1,by omega⟩;obtain rfl:i=L.length:=by omega
   rw[au,e];simp
  | succ r ih=>
   intro i out hi d N a;obtain⟨N,rfl⟩:∃q,N=q+1:=⟨N - 1,by omega⟩;have g:L[i]?=some L[i]:=bf (by omega);rw[au,h i L[i] out g d];show au step N _=_;have k:=hc L[i] (Ej _);rw[ih (i+1) _ (by omega) (by rw[bw,Nat.mul_add];omega) N (by omega),qQ (show i<L.length by omega),qK,gG]
 have:=j L.length 0 [] (by omega) (by simp) N a;simpa using this
def RP(d:aa)(L:Nat)(h:L<=31):(s8 (fitN d 31)).filter (λk=>decide (k<=(L:Int)))=s8 ((List.range' 1 L).filter (agr d)):=by
 have hs:List.range' 1 31=List.range' 1 L++List.range' (1+L) (31 - L):=by
  have:=List.range'_append_1 (s:=1) (m:=L) (n:=31 - L);rw[this,show L+(31 - L)=31 by omega]
 unfold fitN s8;rw[hs,Jd,Ep,Jd];have e:(List.map (λk:Nat=>(k:Int)) (List.filter (agr d) (List.range' 1 L))).filter (λk=>decide (k<=(L:Int)))=List.map (λk:Nat=>(k:Int)) (List.filter (agr d) (List.range' 1 L)):=by
  rw[List.filter_eq_self];intro k b;obtain⟨j,a,rfl⟩:=eU.1 b;have:=BC.1 (nG.1 a).1;exact aq (by omega)
 have c:(List.map (λk:Nat=>(k:Int)) (List.filter (agr d) (List.range' (1+L) (31 - L)))).filter (λk=>decide (k<=(L:Int)))=[]:=by
  rw[List.filter_eq_nil_iff];intro k b;obtain⟨j,a,rfl⟩:=eU.1 b;have:=BC.1 (nG.1 a).1;simp only[cr];omega
 rw[e,c,lu]
def F3(s:aa)(g:Nat):(fitN s g).length<=g:=by
 have:=Ag (agr s) (List.range' 1 g);rw[List.length_range']at this;exact this
def G2(d:aa):(dayI d).length<=31:=by
 unfold dayI;split
 ·simp
 ·rw[DV];exact F3 d 31
def FY(m:aa):(monI m).length<=12:=by
 unfold monI;split
 ·simp
 ·split
  ·simp
  ·rw[DV];exact F3 m 12
def H6(d:aa)(y a:Int):(u0 d y a).length<=31:=by
 unfold u0;rw[AQ];exact qu (Ag _ _) (G2 d)
def KA(y a:Int):u0 [] y a=[(y,a,0)]:=rfl
def Ib{d:aa}(h:d≠[])(y a:Int):u0 d y a=((List.range' 1 (lenI y a).toNat).filter (agr d)).map λk:Nat=>(y,a,(k:Int)):=by
 have b:=lI y a;unfold u0 dayI wV;rw[ab h,ab h];have:=RP d (lenI y a).toNat (by omega);rw[show(((lenI y a).toNat:Nat):Int)=lenI y a by omega]at this;rw[this,s8,uU];rfl
def Ic (n:Nat) (w:100<n) (g l:Bool) (dg:aa) (x q:Int) (m d:aa) (k0 k1 k2 y:Int):
  kH n g l dg x q m d k0 k1 k2 y=some (xM m d y):=by
 have u:=FY m;unfold kH;rw [Ir n w];have:=MR (step:=eQ n) (f:=λi out=>(y,(i:Int),g,l,dg,x,q,m,d,k0,k1,k2,monI m,out)) (y:=λo=>o) (F:=u0 d y) (L:=monI m) (c:=31) (λb _=>H6 d y b)
  (λi h out hi B=>by
   have a:i<(monI m).length:=(rW.1 hi).1;have s:wrap .i64 ((i:Int)+1)=((i+1:Nat):Int):=by rw [wrap_i64 _ (by omega) (by omega)];omega
   unfold eQ;simp only [d4,d8,s];rw [aq (show (i:Int)<(((monI m).length:Nat):Int) by omega),dW a];by_cases hd:d=[]
   ·subst hd;rw [KA];simp only [ob,hi,aj,room (show out.length<=60000000 by omega)];rfl
   ·rw [fY hd];have C:=lI y h;have r:=Ns (step:=eP n) (f:=λj o=>(y,(i:Int),((j+1:Nat):Int),g,l,dg,x,q,m,d,k0,k1,k2,monI m,o)) (y:=λo=>(y,(i:Int),g,l,dg,x,q,m,d,k0,k1,k2,monI m,o)) (p:=agr d) (e:=λk=>(y,h,(k:Int))) (g:=(lenI y h).toNat) out
     (λj o A v=>by
      have t:wrap .i64 (((j+1:Nat):Int)+1)=((j+1+1:Nat):Int):=by rw [wrap_i64 _ (by omega) (by omega)];omega
      unfold eP;simp only [d4,d8,t,dW a,ob,hi,Ax];rw [aq (show ((j+1:Nat):Int)<=lenI y h by omega),uM n d (j+1) (by omega),room (show o.length<=60000000 by omega)];by_cases hp:agr d (j+1)=true
      ·rw [ae hp,ae hp];rfl
      ·rw [ab hp,ab hp];rfl)
     (λo=>by
      unfold eP;simp only [d4,d8,dW a,ob,hi,Ax];rw [am (show ¬(((lenI y h).toNat+1:Nat):Int)<=lenI y h by omega)];rfl)
     (N:=n) (by omega)
    have hin':au (eP n) n (y,(i:Int),1,g,l,dg,x,q,m,d,k0,k1,k2,monI m,out)=_:=r;simp only [aj,af];rw [hin',Ib hd];simp only [ob,d4,d8,s])
  (λout=>by
   unfold eQ;simp only [d4,d8];rw [am (show ¬(((monI m).length:Nat):Int)<(((monI m).length:Nat):Int) by omega)];rfl)
  (N:=n) (by omega)
 have z:au (eQ n) n (y,0,g,l,dg,x,q,m,d,k0,k1,k2,monI m,([]:List (Int×Int×Int)))=_:=this;simp only [ob];rw [z];rfl
def Vv{a b c e:UInt8}(k:bp a=true\/a=88)(l:bp b=true\/b=88)(hc:bp c=true\/c=88)(j:bp e=true\/e=88)(w:Nat):
  mtk [a,b,c,e] 4 w=Mk.ag [e,c,b,a] (w:Int):=by
 have one:∀(z:UInt8) (v:Nat),(decide (z=88)||decide (z.toNat=48+v%10))=(decide (z=88)||decide (Mk.dv z=(v:Int)%10)):=by
  intro z v;have:(z.toNat=48+v%10)↔(Mk.dv z=(v:Int)%10):=by unfold Mk.dv;omega
  rw[pC.2 this]
 have d:∀v:Nat,(v:Int) / 10=((v / 10:Nat):Int):=λv=>by omega
 show((decide (e=88)||decide (e.toNat=48+w%10))&&((decide (c=88)||decide (c.toNat=48+w / 10%10))&&((decide (b=88)||decide (b.toNat=48+w / 10 / 10%10))&&((decide (a=88)||decide (a.toNat=48+w / 10 / 10 / 10%10))&&true))))
  = ((((true&&(decide (a=88)||decide (Mk.dv a=(w:Int) / 10 / 10 / 10%10)))&&(decide (b=88)||decide (Mk.dv b=(w:Int) / 10 / 10%10)))&&(decide (c=88)||decide (Mk.dv c=(w:Int) / 10%10)))&&(decide (e=88)||decide (Mk.dv e=(w:Int)%10)))
 rw[one e w,one c (w / 10),one b (w / 10 / 10),one a (w / 10 / 10 / 10),d w,d (w / 10),d (w / 10 / 10)];generalize(decide (e=88)||decide (Mk.dv e=(w:Int)%10))=f;generalize(decide (c=88)||decide (Mk.dv c=((w / 10:Nat):Int)%10))=i;generalize(decide (b=88)||decide (Mk.dv b=((w / 10 / 10:Nat):Int)%10))=h;generalize(decide (a=88)||decide (Mk.dv a=((w / 10 / 10 / 10:Nat):Int)%10))=g;cases f<;>cases i<;>cases h<;>cases g<;>rfl
def Q4{c:UInt8}(h:bp c=true\/c=88):Mk.okB c=true:=by
 rcases h with h | h
 ·have h:=(ck c).1 h;unfold Mk.okB;simp only[iC,aC,cr];right
  first | omega | (obtain⟨a,b⟩:=h;constructor<;>omega)
 ·subst h;decide
def Pv{d:aa}(a:d.length=4)(h:∀c∈d,bp c=true\/c=88):Mk.chk d=0:=by
 unfold Mk.chk;have:d.all Mk.okB=true:=cE.2 λc hc=>Q4 (h c hc);rw[ab (by omega),ae this,ab (by rintro rfl;simp at a)]
def G6{d:aa}(j:d.length=4)(h:∀c∈d,bp c=true\/c=88)(w:Nat):Mk.hasM d (w:Int)=true↔mtk d 4 w=true/\w / 10 ^ 4=0:=by
 obtain⟨a,b,c,e,rfl⟩:∃a b c e,d=[a,b,c,e]:=by
  match d,j with
  | [a,b,c,e],_=>exact⟨a,b,c,e,rfl⟩
 rw[Mk.EQ,Vv (h a (by simp)) (h b (by simp)) (h c (by simp)) (h e (by simp)) w];simp only[aC,cr];show 0<=(w:Int)/\(w:Int)<10 ^ 4/\Mk.ag [e,c,b,a] (w:Int)=true↔Mk.ag [e,c,b,a] (w:Int)=true/\w / 10 ^ 4=0;have g:(10:Int) ^ 4=10000:=by decide
 have e4':(10:Nat) ^ 4=10000:=by decide
 rw[g,e4'];constructor
 ·rintro⟨_,i,f⟩;exact⟨f,by omega⟩
 ·rintro⟨f,i⟩;exact⟨by omega,by omega,f⟩
def F6{g l:Bool}{d:aa}{x q:Int}(h:okY g l d x q)(a:hasX d=true)(v:Int):inP g d x q v↔(Mk.hasM d (wOf g v)=true/\(g=true->1<=wOf g v)):=by
 obtain⟨rfl,rfl,rfl,f,hd⟩:=qz h a;unfold inP;rw[Ht a];have p:∀k:Int,Mk.hasM d k=true->0<=k/\k<10000:=λk m=>by
  have:=(Mk.oe m).2.2.2.2;rw[f]at this;have s:(10:Int) ^ 4=10000:=by decide
  omega
 constructor
 ·rintro⟨c,i,r,j,n⟩;have:=(G6 f hd (wOf g v).toNat).2 n;rw[show(((wOf g v).toNat:Nat):Int)=wOf g v by omega]at this;refine⟨this,λb=>?_⟩;have u:¬wOf g v=0:=λe=>j ⟨a,b,e⟩;omega
 ·rintro⟨c,i⟩;have hr':=p _ c;have o:=(G6 f hd (wOf g v).toNat).1 (by rw[show(((wOf g v).toNat:Nat):Int)=wOf g v by omega];exact c);have t:v=wOf g v\/v=- wOf g v:=by
   unfold wOf;split
   ·right;omega
   ·left;rfl
  refine⟨by omega,by omega,hr'.1,?_,o⟩;rintro⟨_,b,e⟩;have:=i b;omega
def Fj{g l:Bool}{d:aa}{x:Int}(b:okY g l d x 0)(a:hasX d=false)(v:Int):inP g d x 0 v↔v=(if g then -((val d x.toNat:Nat):Int)else((val d x.toNat:Nat):Int)):=by
 obtain⟨k,q,rfl,n,f⟩:=s9 b a;have hs:=f.small;have i:dval 0 d*10 ^ k=val d k:=rfl;rw[i]at hs;unfold E16 at hs;unfold inP;rw[QA a];have m:Ei d (k:Int).toNat (0:Int).toNat=1:=rfl;rw[m,ch,sE,sE,a];unfold wOf;cases g with
 | true=>
  simp only[aG];constructor
  ·rintro⟨h,j,e,_,c⟩;omega
  ·rintro rfl;refine⟨by omega,by omega,by omega,by simp,by omega⟩
 | false=>
  simp only[bj,az];constructor
  ·rintro⟨h,j,e,_,c⟩;omega
  ·rintro rfl;refine⟨by omega,by omega,by omega,by simp,by omega⟩
def EH(up:Bool)(Y:Int->Prop)(v w:Int)(a:Bool):Prop:=
 (a=true->Y w/\Mk.fq up v w/\∀e,Y e->Mk.fq up v e->Mk.fq up w e)/\(a=false->∀e,Y e->¬Mk.fq up v e)
def fa(a b:Int):Mk.fq true a b↔a<=b:=Iff.rfl
def iv(a b:Int):Mk.fq false a b↔b<=a:=Iff.rfl
def Qh(o:Option Int):(Mk.res o).2=0/\(∃r,o=some r/\(Mk.res o).1=r)\/(Mk.res o).2=16/\o=none/\(Mk.res o).1=0:=by
 cases o with
 | none=>exact .inr ⟨rfl,rfl,rfl⟩
 | some r=>exact .inl ⟨rfl,r,rfl,rfl⟩
def vn{m:aa}(j:Mk.chk m=0)(v a:Int)(q:0<=a):∃w f,fL 20000000 m v true a=some (w,f)/\EH true (λe=>Mk.hasM m e=true/\a<=e) v w f/\(0<=w/\w<1000000000000000000):=by
 obtain⟨o,k,c⟩:=Mk.M6 j (cond (decide (a>v)) a v);unfold fL;rw[k];simp only[ob,aj];have hc:(cond (decide (a>v)) a v)=max v a:=by
  by_cases h:a>v
  ·rw[aq h];show a=_;omega
  ·rw[am h];show v=_;omega
 rw[hc]at c;rcases Qh o with⟨g,r,rfl,d⟩ | ⟨g,rfl,d⟩
 ·refine⟨_,_,rfl,?_,?_⟩
  ·rw[g,d];obtain⟨a1,a2,p⟩:=c;rw[fa]at a2;refine⟨λ_=>⟨⟨a1,by omega⟩,?_,λe b i=>?_⟩,λh=>by cases h⟩
   ·rw[fa];omega
   ·rw[fa]at i;exact p e b.1 (by rw[fa];have:=b.2;omega)
  ·have:=(Mk.oe c.1).2.2.2.2;have l:=Mk.nz j;have hp:(10:Int) ^ m.length<=10 ^ 18:=by
    have:=n6 (show 0<10 by decide) l.1
    exact_mod_cast this
   have n:(10:Int) ^ 18=1000000000000000000:=by decide
   rw[d];omega
 ·refine⟨_,_,rfl,?_,by rw[d];omega⟩;rw[g];refine⟨(λh=>by cases h),λ_ e b i=>?_⟩;rw[fa]at i;exact c e b.1 (by rw[fa];have:=b.2;omega)
def vf{m:aa}(j:Mk.chk m=0)(v a:Int)(t:0<=a):∃w f,fL 20000000 m v false a=some (w,f)/\EH false (λe=>Mk.hasM m e=true/\a<=e) v w f/\(0<=w/\w<1000000000000000000):=by
 obtain⟨o,n,k⟩:=Mk.K9 j v;unfold fL;rw[n];simp only[ob,af];rcases Qh o with⟨g,r,rfl,i⟩ | ⟨g,rfl,i⟩
 ·rw[g,i];obtain⟨a1,a2,l⟩:=k;rw[iv]at a2;have s:=(Mk.oe a1).2.2.2.2;have p:=Mk.nz j;have hp:(10:Int) ^ m.length<=10 ^ 18:=by
   have:=n6 (show 0<10 by decide) p.1
   exact_mod_cast this
  have q:(10:Int) ^ 18=1000000000000000000:=by decide
  refine⟨_,_,rfl,?_,by omega⟩;by_cases c:r>=a
  ·rw[aq c];refine⟨λ_=>⟨⟨a1,by omega⟩,by rw[iv];omega,λe b d=>l e b.1 d⟩,λh=>by cases h⟩
  ·rw[am c];refine⟨(λh=>by cases h),λ_ e b d=>?_⟩;have:=l e b.1 d;rw[iv]at this;have:=b.2;omega
 ·rw[g,i];refine⟨_,_,rfl,?_,by omega⟩;refine⟨(λh=>by cases h),λ_ e b d=>k e b.1 d⟩
def LS{g l:Bool}{dg:aa}{x:Int}(j:okY g l dg x 0)(m d:aa)(k0 k1 k2:Int)(v:Int)(G:-9223372036854775808<=v/\v<9223372036854775808)(up:Bool)(E B:List Int):
  ∃w f,co 20000000 g l dg x 0 m d k0 k1 k2 v up E B=some (w,f)/\EH up (inP g dg x 0) v w f:=by
 have D:=kC j;unfold co;rw[tc];simp only[ob];cases t:hasX dg with
 | false=>
  have c:=Fj j t;rw[zM 20000000 g l dg x 0 (by omega) (by omega),ae ⟨j,t⟩];simp only[ia,aj];generalize(if g then -((val dg x.toNat:Nat):Int)else((val dg x.toNat:Nat):Int))=w at *;cases up with
  | true=>
   by_cases h:w>=v
   ·refine⟨w,true,?_,?_⟩
    ·simp only[aq h,aj]
    ·refine⟨λ_=>⟨(c w).2 rfl,h,λe b _=>?_⟩,λh=>by cases h⟩;rw[(c e).1 b];exact zq _
   ·refine⟨w,false,?_,?_⟩
    ·simp only[am h,aj,af,ca]
    ·refine⟨(λh=>by cases h),λ_ e b n=>?_⟩;rw[(c e).1 b,fa]at n;omega
  | false=>
   by_cases h:w<=v
   ·refine⟨w,true,?_,?_⟩
    ·simp only[aq h,aj,af,ia]
    ·refine⟨λ_=>⟨(c w).2 rfl,h,λe b _=>?_⟩,λh=>by cases h⟩;rw[(c e).1 b];exact zq _
   ·refine⟨w,false,?_,?_⟩
    ·simp only[am h,aj,af,ia]
    ·refine⟨(λh=>by cases h),λ_ e b n=>?_⟩;rw[(c e).1 b,iv]at n;omega
 | true=>
  have c:=F6 j t;obtain⟨rfl,rfl,_,A,hd⟩:=qz j t;have s:=Pv A hd;simp only[ca,af];cases g with
  | false=>
   simp only[ia,aj];have q:∀w f,EH up (λe=>Mk.hasM dg e=true/\0<=e) v w f->EH up (inP false dg 0 0) v w f:=λw f h=>by
    have a:∀e,(Mk.hasM dg e=true/\0<=e)↔inP false dg 0 0 e:=λe=>by
     rw[c e];constructor
     ·rintro⟨i,_⟩;exact⟨i,λh=>by cases h⟩
     ·rintro⟨i,_⟩;exact⟨i,(Mk.oe i).2.2.2.2.1⟩
    refine⟨λk=>?_,λk e b=>h.2 k e ((a e).2 b)⟩;obtain⟨b1,b2,r⟩:=h.1 k;exact⟨(a w).1 b1,b2,λe b=>r e ((a e).2 b)⟩
   cases up with
   | true=>
    obtain⟨w,f,i,o,_⟩:=vn s v 0 (by omega);exact⟨w,f,by rw[i],q w f o⟩
   | false=>
    obtain⟨w,f,i,o,_⟩:=vf s v 0 (by omega);exact⟨w,f,by rw[i],q w f o⟩
  | true=>
   simp only[ca,af];have hc:wrap .i64 (0 - (cond (decide (((-9223372036854775807):Int)>v)) (-9223372036854775807) v))=min (-v) 9223372036854775807:=by
    by_cases h:((-9223372036854775807):Int)>v
    ·rw[aq h,aj,wrap_i64 _ (by omega) (by omega)];omega
    ·rw[am h,af,wrap_i64 _ (by omega) (by omega)];omega
   rw[hc];have y:∀e,Mk.hasM dg e=true->0<=e/\e<10000:=λe b=>by
    have:=(Mk.oe b).2.2.2.2;rw[A]at this;have F:(10:Int) ^ 4=10000:=by decide
    omega
   have a:∀e,inP true dg 0 0 e↔(Mk.hasM dg (-e)=true/\1<=-e):=λe=>by
    rw[c e];exact⟨λh=>⟨h.1,h.2 rfl⟩,λh=>⟨h.1,λ_=>h.2⟩⟩
   have z:∀w:Int,0<=w/\w<1000000000000000000->wrap .i64 (0 - w)=-w:=λw h=>by rw[wrap_i64 _ (by omega) (by omega)];omega
   cases up with
   | true=>
    obtain⟨w,f,i,o,u⟩:=vf s (min (-v) 9223372036854775807) 1 (by omega);refine⟨-w,f,by rw[ca,i];simp only[z w u],?_,?_⟩
    ·intro k;obtain⟨b1,b2,r⟩:=o.1 k;rw[iv]at b2;refine⟨(a _).2 (by rw[Int.neg_neg];exact b1),by rw[fa];omega,λe b n=>?_⟩;rw[fa]at n;have p:=(a e).1 b;have:=r (-e) p (by rw[iv];have:=y _ p.1;omega);rw[iv]at this;rw[fa];omega
    ·intro k e b n;rw[fa]at n;have p:=(a e).1 b;exact o.2 k (-e) p (by rw[iv];have:=y _ p.1;omega)
   | false=>
    obtain⟨w,f,i,o,u⟩:=vn s (min (-v) 9223372036854775807) 1 (by omega);refine⟨-w,f,by rw[ia,i];simp only[z w u],?_,?_⟩
    ·intro k;obtain⟨b1,b2,r⟩:=o.1 k;rw[fa]at b2;have C:=y _ b1.1;refine⟨(a _).2 (by rw[Int.neg_neg];exact b1),by rw[iv];omega,λe b n=>?_⟩;rw[iv]at n;have p:=(a e).1 b;have:=r (-e) p (by rw[fa];omega);rw[fa]at this;rw[iv];omega
    ·intro k e b n;rw[iv]at n;have p:=(a e).1 b;exact o.2 k (-e) p (by rw[fa];omega)
def tw{X Y A:Type}{step:X->Option (X⊕Y)}{f:Nat->X}{L:List A}{G:A->Option Y}{e:Y}
  (h:∀i a,L[i]?=some a->step (f i)=some ((G a).elim (.inl (f (i+1))) Sum.inr)) (c:step (f L.length)=some (.inr e)) {N:Nat} (b:L.length<N):
  au step N (f 0)=some ((L.findSome? G).getD e):=by
 have g:∀(r i:Nat),i+r=L.length->∀N,r<N->au step N (f i)=some (((L.drop i).findSome? G).getD e):=by
  intro r
  induction r with
  | zero=>
   intro i hi N b;obtain⟨N,rfl⟩:∃q,N=q+1:=⟨N - 1,by omega⟩;obtain rfl:i=L.length:=by omega
   rw[au,c];simp
  | succ r ih=>
   intro i hi N b;obtain⟨N,rfl⟩:∃q,N=q+1:=⟨N - 1,by omega⟩;have d:L[i]?=some L[i]:=bf (by omega);rw[au,h i L[i] d,qQ (show i<L.length by omega),CZ];cases j:G L[i]with
   | some y=>rfl
   | none=>exact ih (i+1) (by omega) N (by omega)
 have:=g L.length 0 (by omega) N b;simpa using this
def ahd(up:Bool)(a b:Int):Bool:=cond up (decide (a<b)) (decide (a>b))
def Hl(n:Nat)(a b:Int)(up:Bool):cK n a b up=some (ahd up a b):=by
 unfold cK ahd;cases up
 ·rfl
 ·simp only[aj,ca,af];cases decide (a<b)<;>rfl
def AT(up a:Bool)(d:aa)(b most k:Int):Bool:=decide (k<=most)&&!(a&&(!(d==([]:aa))&&ahd up k b))
def J8(up:Bool)(m:aa)(c a y b:Int):Bool:=(y==c)&&(!(m==([]:aa))&&ahd up b a)
def IL(m:aa)(c a y b:Int):Bool:=(y==c)&&((m==([]:aa))||(b==a))
def Fh(up:Bool)(m d:aa)(c b f y:Int)(e:List Int)(a:Int):Option (Int×Int×Int):=
 if J8 up m c b y a then none else(e.find? (AT up (IL m c b y a) d f (wV d y a))).map λk=>(y,a,k)
def Fa(up:Bool)(m d:aa)(e b c:Int)(f a:List Int)(y:Int):Option (Int×Int×Int):=f.findSome? (Fh up m d e b c y a)
def ML(d:aa)(a:List Int):Prop:=a.length<=31/\(d≠[]->∀b∈a,1<=b/\b<=12)
def LV(n:Nat)(g l:Bool)(dg:aa)(x q:Int)(m d:aa)(k0 k1 k2:Int){y:Int}(hy:dU y){a:Int}(b:d≠[]->1<=a/\a<=12)(c e:List Int):
  eY n g l dg x q m d k0 k1 k2 y a c e=some (wV d y a):=by
 unfold eY wV;by_cases hd:d=[]
 ·subst hd;rfl
 ·rw[fY hd,ab hd];have:=b hd;obtain⟨k,rfl⟩:∃k:Nat,a=(k:Int):=⟨a.toNat,by omega⟩;rw[af,I8 n hy (by omega) (by omega)];rfl
def Rm{A B Y:Type}(L:List A)(p:A->Bool)(F:A->B)(J:B->Y)(e:Y):(L.findSome? λa=>if p a then some (J (F a))else none).getD e=((L.find? p).map F).elim e J:=by
 induction L with
 | nil=>rfl
 | cons a L ih=>
  rw[List.find?_cons,CZ];cases h:p a
  ·simpa using ih
  ·simp
def Vk{A B Y:Type}(L:List A)(G:A->Option B)(J:B->Y)(e:Y):(L.findSome? λa=>(G a).map J).getD e=(L.findSome? G).elim e J:=by
 induction L with
 | nil=>rfl
 | cons a L ih=>
  rw[CZ,CZ];cases h:G a
  ·simpa using ih
  ·simp
def Px(n:Nat)(s y f:Int)(a:Bool)(most j r:Int)(u b:List Int)(g l:Bool)(dg:aa)(x q:Int)(m d:aa)(k0 k1 k2 p h c:Int)(up:Bool)(t o rd:Int)(i:Nat)(k:Int)(hi:b[i]?=some k)(w:i<1000):
  bH n (s,y,f,a,most,j,r,((b.length:Nat):Int),(i:Int),u,b,g,l,dg,x,q,m,d,k0,k1,k2,p,h,c,up,t,o,rd)=some ((if AT up a d c most k then some (.inl (true,y,f,k))else none).elim (.inl (s,y,f,a,most,j,r,((b.length:Nat):Int),((i+1:Nat):Int),u,b,g,l,dg,x,q,m,d,k0,k1,k2,p,h,c,up,t,o,rd)) Sum.inr):=by
 have e:i<b.length:=(rW.1 hi).1;have v:wrap .i64 ((i:Int)+1)=((i+1:Nat):Int):=by rw[wrap_i64 _ (by omega) (by omega)];omega
 unfold bH ij AT;simp only[d4,d8,d16,dW e,hi,ob,v,Hl];rw[aq (show(i:Int)<((b.length:Nat):Int)by omega)];simp only[aj];cases decide (k<=most)<;>cases a<;>cases(d==([]:aa))<;>cases ahd up k c<;>simp only[ca,ia,aj,af,v]<;>rfl
def Tc(n:Nat)(s y p:Int)(b:Bool)(most f j:Int)(o a:List Int)(g l:Bool)(dg:aa)(x q:Int)(m d:aa)(k0 k1 k2 i c e:Int)(up:Bool)(k h rd:Int):
  bH n (s,y,p,b,most,f,j,((a.length:Nat):Int),((a.length:Nat):Int),o,a,g,l,dg,x,q,m,d,k0,k1,k2,i,c,e,up,k,h,rd)=some (.inr (.inr (s,y,f,j,o,a,g,l,dg,x,q,m,d,k0,k1,k2,i,c,e,up,k,h,rd))):=by
 unfold bH;simp only[d4,d8,d16];rw[am (show¬((a.length:Nat):Int)<((a.length:Nat):Int)by omega)];rfl
def Ro (n:Nat) (A:1000<n) (s y h:Int) (a:Bool) (most o t:Int) (v b:List Int) (g l:Bool) (dg:aa) (x q:Int) (m d:aa) (k0 k1 k2 r j c:Int) (up:Bool) (u p rd:Int) (hd:b.length<=31):
  au (bH n) n (s,y,h,a,most,o,t,((b.length:Nat):Int),0,v,b,g,l,dg,x,q,m,d,k0,k1,k2,r,j,c,up,u,p,rd)=some (((b.find? (AT up a d c most)).map (λk=>(y,h,k))).elim (.inr (s,y,o,t,v,b,g,l,dg,x,q,m,d,k0,k1,k2,r,j,c,up,u,p,rd)) (λz=>.inl (true,z))):=by
 have:=tw (step:=bH n) (f:=λi=>(s,y,h,a,most,o,t,((b.length:Nat):Int),(i:Int),v,b,g,l,dg,x,q,m,d,k0,k1,k2,r,j,c,up,u,p,rd)) (L:=b) (G:=λk=>if AT up a d c most k then some (.inl (true,y,h,k)) else none) (e:=.inr (s,y,o,t,v,b,g,l,dg,x,q,m,d,k0,k1,k2,r,j,c,up,u,p,rd))
  (λi k hi=>by
   have w:i<b.length:=(rW.1 hi).1;exact Px n s y h a most o t v b g l dg x q m d k0 k1 k2 r j c up u p rd i k hi (by omega))
  (Tc n s y h a most o t v b g l dg x q m d k0 k1 k2 r j c up u p rd) (N:=n) (by omega)
 exact this.trans (cb some (Rm b (AT up a d c most) (λk=>(y,h,k)) (λz=>Sum.inl (true,z)) _))
def Ot(n:Nat)(D:1000<n)(s y:Int)(hy:dU y)(o p:List Int)(g l:Bool)(dg:aa)(x q:Int)(m d:aa)(k0 k1 k2 e j r:Int)(up:Bool)(u t rd:Int)(A:ML d o)(hd:p.length<=31)(i:Nat)(f:Int)(hi:o[i]?=some f):
  ci n (s,y,((o.length:Nat):Int),(i:Int),o,p,g,l,dg,x,q,m,d,k0,k1,k2,e,j,r,up,u,t,rd)=some (((Fh up m d e j r y p f).map (λz=>(.inl (true,z):(Bool×Int×Int×Int)⊕_))).elim (.inl (s,y,((o.length:Nat):Int),((i+1:Nat):Int),o,p,g,l,dg,x,q,m,d,k0,k1,k2,e,j,r,up,u,t,rd)) Sum.inr):=by
 have v:i<o.length:=(rW.1 hi).1;have C:=A.1;have B:wrap .i64 ((i:Int)+1)=((i+1:Nat):Int):=by rw[wrap_i64 _ (by omega) (by omega)];omega
 have w:d≠[]->1<=f/\f<=12:=λh=>A.2 h f (fG hi);have j20:∀a b:Int,fe n s y f (y==e) a b o p g l dg x q m d k0 k1 k2 e j r up u t rd=some (s,y,f,(y==e),a,b,J8 up m e j y f,o,p,g,l,dg,x,q,m,d,k0,k1,k2,e,j,r,up,u,t,rd):=by
  intro a b;unfold fe J8;simp only[Hl,ob];cases(y==e)<;>cases(m==([]:aa))<;>rfl
 have j23:∀a b c:Int,fc n s y f (y==e) a b c o p g l dg x q m d k0 k1 k2 e j r up u t rd=some (s,y,f,IL m e j y f,a,b,c,o,p,g,l,dg,x,q,m,d,k0,k1,k2,e,j,r,up,u,t,rd):=by
  intro a b c;unfold fc IL;cases(y==e)<;>cases(m==([]:aa))<;>rfl
 unfold ci ir Fh;simp only[d4,d8,d16,dW v,hi,ob,j20];rw[aq (show(i:Int)<((o.length:Nat):Int)by omega)];simp only[aj];cases hs:J8 up m e j y f with
 | true=>simp only[aj,aG,iQ,B];rfl
 | false=>
  simp only[af,bj,az,LV n g l dg x q m d k0 k1 k2 hy w,j23,Ro n D s y f (IL m e j y f) (wV d y f) _ _ o p g l dg x q m d k0 k1 k2 e j r up u t rd hd];cases p.find? (AT up (IL m e j y f) d r (wV d y f))with
  | some k=>rfl
  | none=>simp only[iQ,Option.elim_none,B]
def Sr (n:Nat) (u:1000<n) (s y:Int) (hy:dU y) (a b:List Int) (g l:Bool) (dg:aa) (x q:Int) (m d:aa) (k0 k1 k2 j c h:Int) (up:Bool) (o k rd:Int) (r:ML d a) (hd:b.length<=31):
  au (ci n) n (s,y,((a.length:Nat):Int),0,a,b,g,l,dg,x,q,m,d,k0,k1,k2,j,c,h,up,o,k,rd)=some ((Fa up m d j c h a b y).elim (.inr (s,y,a,b,g,l,dg,x,q,m,d,k0,k1,k2,j,c,h,up,o,k,rd)) (λz=>.inl (true,z))):=by
 have t:=r.1;have:=tw (step:=ci n) (f:=λi=>(s,y,((a.length:Nat):Int),(i:Int),a,b,g,l,dg,x,q,m,d,k0,k1,k2,j,c,h,up,o,k,rd)) (L:=a) (G:=λp=>(Fh up m d j c h y b p).map (λz=>(.inl (true,z):(Bool×Int×Int×Int)⊕_))) (e:=.inr (s,y,a,b,g,l,dg,x,q,m,d,k0,k1,k2,j,c,h,up,o,k,rd))
  (λi p hi=>Ot n u s y hy a b g l dg x q m d k0 k1 k2 j c h up o k rd r hd i p hi)
  (by
   unfold ci;simp only [d4,d8,d16];rw [am (show ¬((a.length:Nat):Int)<((a.length:Nat):Int) by omega)];rfl)
  (N:=n) (by omega)
 exact this.trans (cb some (Vk a (Fh up m d j c h y b) (λz=>Sum.inl (true,z)) _))
def NU(n:Nat)(k:1000<n)(s y:Int)(hy:dU y)(b a:List Int)(g l:Bool)(dg:aa)(x q:Int)(m d:aa)(k0 k1 k2 f c e:Int)(up:Bool)(i h rd:Int)(j:ML d b)(hd:a.length<=31):
  cT n (s,y,true,b,a,g,l,dg,x,q,m,d,k0,k1,k2,f,c,e,up,i,h,rd)=(Fa up m d f c e b a y).elim (ob (co n g l dg x q m d k0 k1 k2 (wrap .i64 (y+s)) up b a) λr=>some (.inl (s,r.1,r.2,b,a,g,l,dg,x,q,m,d,k0,k1,k2,f,c,e,up,i,h,rd))) (λz=>some (.inr (.inl (true,z)))):=by
 unfold cT;simp only[d4,d8,d16,aj,ob,Sr n k s y hy b a g l dg x q m d k0 k1 k2 f c e up i h rd j hd];cases Fa up m d f c e b a y<;>rfl
def HI(up:Bool)(Y:Int->Prop)(F:Int->Option (Int×Int×Int))(v:Int):Option (Int×Int×Int)->Prop
 | some z=>∃e,Y e/\Mk.fq up v e/\F e=some z/\∀a,Y a->Mk.fq up v a->¬Mk.fq up e a->F a=none
 | none=>∀e,Y e->Mk.fq up v e->F e=none
def H4{X:Type}{step:X->Option (X⊕((Bool×Int×Int×Int)⊕(Int×Int×Int)))}{st:Int->Bool->X}{F:Int->Option (Int×Int×Int)}{Y:Int->Prop}{up:Bool}{s lo hi:Int}{E:Int×Int×Int}{fy:Int->Option (Int×Bool)}
  (hs:s=if up then 1 else -1) (B:∀e,Y e->lo<=e/\e<=hi) (M:-10000000000000000<=lo) (d:hi<=10000000000000000)
  (b:∀y,Y y->step (st y true)=(F y).elim (ob (fy (wrap .i64 (y+s))) λr=>some (.inl (st r.1 r.2))) (λz=>some (.inr (.inl (true,z)))))
  (c:∀y,step (st y false)=some (.inr (.inr E)))
  (n:∀v,-9223372036854775808<=v/\v<9223372036854775808->∃w f,fy v=some (w,f)/\EH up Y v w f):
  ∀(r:Nat) (v y:Int) (f:Bool),EH up Y v y f->(f=true->(if up then hi - y else y - lo)<(r:Int))->∀N,r<N->
   ∃o,au step N (st y f)=some (o.elim (.inr E) (λz=>.inl (true,z)))/\HI up Y F v o:=by
 intro r
 induction r with
 | zero=>
  intro v y f k p N D;obtain⟨N,rfl⟩:∃q,N=q+1:=⟨N - 1,by omega⟩;cases f with
  | true=>
   obtain⟨a1,_,_⟩:=k.1 rfl;have:=B y a1;have:=p rfl;cases up<;>simp at this<;>omega
  | false=>
   refine⟨none,by rw[au,c];rfl,λe g m=>absurd m (k.2 rfl e g)⟩
 | succ r ih=>
  intro v y f k p N D;obtain⟨N,rfl⟩:∃q,N=q+1:=⟨N - 1,by omega⟩;cases f with
  | false=>
   refine⟨none,by rw[au,c];rfl,λe g m=>absurd m (k.2 rfl e g)⟩
  | true=>
   obtain⟨a1,a2,x⟩:=k.1 rfl;have L:=B y a1;cases l:F y with
   | some z=>
    refine⟨some z,?_,y,a1,a2,l,λa d j i=>absurd (x a d j) i⟩;rw[au,b y a1,l];rfl
   | none=>
    have G:wrap .i64 (y+s)=y+s:=by
     have:-1<=s/\s<=1:=by rw[hs];cases up<;>simp
     exact wrap_i64 _ (by omega) (by omega)
    obtain⟨w,A,J,t⟩:=n (y+s) (by
     have:-1<=s/\s<=1:=by rw[hs];cases up<;>simp
     omega)
    have hstep':step (st y true)=some (.inl (st w A)):=by
     rw[b y a1,l,G];show ob (fy (y+s)) _=_;rw[J];rfl
    obtain⟨o,H,u⟩:=ih (y+s) w A t (λK=>by
     obtain⟨b1,b2,_⟩:=t.1 K;have:=p rfl;cases up
     ·rw[iv]at b2;simp only[bj,az]at hs this ⊢;omega
     ·rw[fa]at b2;simp only[aG]at hs this ⊢;omega) N (by omega)
    refine⟨o,by rw[au,hstep'];exact H,?_⟩;have split:∀a,Y a->Mk.fq up v a->a=y\/Mk.fq up (y+s) a:=λa d j=>by
     have i:=x a d j;cases up
     ·rw[iv]at i ⊢;simp only[bj,az]at hs;omega
     ·rw[fa]at i ⊢;simp only[aG]at hs;omega
    cases o with
    | none=>
     intro e g m;rcases split e g m with rfl | h
     ·exact l
     ·exact u e g h
    | some z=>
     obtain⟨e,I,C,c3,c4⟩:=u;refine⟨e,I,?_,c3,λa d j i=>?_⟩
     ·cases up
      ·rw[iv]at C a2 ⊢;simp only[bj,az]at hs;omega
      ·rw[fa]at C a2 ⊢;simp only[aG]at hs;omega
     ·rcases split a d j with rfl | h
      ·exact l
      ·exact c4 a d h i
def yV{g l:Bool}{dg:aa}{x:Int}(c:okY g l dg x 0):∃lo hi:Int,(∀e,inP g dg x 0 e->lo<=e/\e<=hi)/\hi - lo<=10000/\-10000000000000000<=lo/\hi<=10000000000000000:=by
 cases d:hasX dg with
 | false=>
  have a:=Fj c d;by_cases f:-10000000000000000<=(if g then -((val dg x.toNat:Nat):Int)else((val dg x.toNat:Nat):Int))/\(if g then -((val dg x.toNat:Nat):Int)else((val dg x.toNat:Nat):Int))<=10000000000000000
  ·refine⟨_,_,λe b=>?_,?_,f.1,f.2⟩
   ·rw[(a e).1 b];exact⟨zq _,zq _⟩
   ·omega
  ·refine⟨0,0,λe b=>?_,by omega,by omega,by omega⟩;exfalso;have:=(a e).1 b;unfold inP at b;exact f ⟨by rw[<-this];exact b.1,by rw[<-this];exact b.2.1⟩
 | true=>
  have a:=F6 c d;obtain⟨_,_,_,i,hd⟩:=qz c d;refine⟨if g then -9999 else 0,if g then 0 else 9999,λe b=>?_,by cases g<;>simp,by cases g<;>simp,by cases g<;>simp⟩;have h:=((a e).1 b).1;have:=(Mk.oe h).2.2.2.2;rw[i]at this;have j:(10:Int) ^ 4=10000:=by decide
  unfold wOf at this;cases g
  ·simp at this ⊢;omega
  ·simp at this ⊢;omega
def AD{g:Bool}{dg:aa}{x q e:Int}(h:inP g dg x q e):dU e:=⟨h.1,h.2.1⟩
def IM{g l:Bool}{dg:aa}{x:Int}(e:okY g l dg x 0)(m d:aa)(k0 k1 k2:Int)(a h i:Int)(k:-9223372036854775808<=a/\a<9223372036854775808)(c b:List Int)(A:ML d c)(hd:b.length<=31):
  ∃o,iW 20000000 g l dg x 0 m d k0 k1 k2 a h i true c b=some (o.elim (0,0,0,false) λz=>(z.1,z.2.1,z.2.2,true))/\HI true (inP g dg x 0) (Fa true m d a h i c b) a o:=by
 obtain⟨lo,hi,p,D,n,j⟩:=yV e;obtain⟨w,f,t,q⟩:=LS e m d k0 k1 k2 a k true c b;obtain⟨o,C,u⟩:=H4 (step:=cT 20000000) (st:=λy f=>(1,y,f,c,b,g,l,dg,x,0,m,d,k0,k1,k2,a,h,i,true,0,0,0)) (F:=Fa true m d a h i c b) (Y:=inP g dg x 0) (up:=true) (s:=1) (lo:=lo) (hi:=hi) (E:=(0,0,0)) (fy:=λv=>co 20000000 g l dg x 0 m d k0 k1 k2 v true c b)
  rfl p n j
  (λy hy=>NU 20000000 (by omega) 1 y (AD hy) c b g l dg x 0 m d k0 k1 k2 a h i true 0 0 0 A hd)
  (λy=>rfl)
  (λv B=>LS e m d k0 k1 k2 v B true c b)
  10002 a w f q (λr=>by have:=p w (q.1 r).1;simp;omega) 20000000 (by omega)
 refine⟨o,?_,u⟩;unfold iW jd;simp only[ca,af,ob,d4,d8,d16,t];have i1':au (cT 20000000) 20000000 (1,w,f,c,b,g,l,dg,x,0,m,d,k0,k1,k2,a,h,i,true,0,0,0)=_:=C;rw[i1'];cases o<;>rfl
def Hh(m d:aa)(l n:Int){g e:Int}(h:e≠g)(o f:List Int):Fa true m d g l n o f e=none↔(o.flatMap λa=>(f.filter λk=>decide (k<=wV d e a)).map λk=>(e,a,k))=[]:=by
 have i:(e==g)=false:=aK.2 h;unfold Fa;rw[Qk,List.flatMap_eq_nil_iff];have:∀a,Fh true m d g l n e f a=none↔((f.filter λk=>decide (k<=wV d e a)).map λk=>(e,a,k))=[]:=by
  intro a;unfold Fh J8 IL;rw[i];simp only[xf,bj,az,Option.map_eq_none_iff,List.find?_eq_none,List.map_eq_nil_iff,List.filter_eq_nil_iff];constructor
  ·intro b k j;have:=b k j;unfold AT at this;simpa using this
  ·intro b k j;have:=b k j;unfold AT;simpa using this
 exact⟨λb a c=>(this a).1 (b a c),λb a c=>(this a).2 (b a c)⟩
def hasF(g:Bool)(dg:aa)(x:Int)(m d:aa):Prop:=∃e,inP g dg x 0 e/\xM m d e≠[]
open Classical in
noncomputable def chkF(g l:Bool)(dg:aa)(x q:Int)(m d:aa)(k0 k1 k2:Int):Int:=
 if chkD g l dg x q m d k0 k1 k2=0/\d≠[]/\¬hasF g dg x m d then 8 else chkD g l dg x q m d k0 k1 k2
def tu{g l:Bool}{dg:aa}{x q:Int}{m d:aa}{k0 k1 k2:Int}(h:chkD g l dg x q m d k0 k1 k2=0):okY g l dg x q/\(m=[]\/m.length=2)/\(d=[]\/d.length=2)/\(0<q->m=[])/\(d≠[]->m≠[]/\sea m=0):=by
 obtain⟨a,j,c3,c4⟩:=MG h;unfold yrD at a;by_cases b:okY g l dg x q
 ·rw[ae b]at a;refine⟨b,?_,?_,λi=>?_,λhd=>?_⟩
  ·rcases j with h | h | h
   ·exact .inl h
   ·exact .inr (K7 h).1
   ·exact .inr (rt (by omega) h).1
  ·rcases c3 with h | ⟨_,_,h⟩
   ·exact .inl h
   ·exact .inr (rt (by omega) h).1
  ·unfold yrB at a;simp only[aC,kL]at a;have:=a.1;rw[aq i,nO]at this;by_cases c:m=[]
   ·exact c
   ·rw[fY c]at this;cases this
  ·rcases c3 with h | ⟨e,f,_⟩
   ·exact absurd h hd
   ·exact⟨e,f⟩
 ·rw[ab b]at a;cases a
def UM{g l:Bool}{dg:aa}{x q:Int}(h:okY g l dg x q):0<=q:=(kC h).2.2.1
def MD{m d:aa}(h:d≠[]->m≠[]/\sea m=0):ML d (monI m):=by
 refine⟨qu (FY m) (by omega),λhd e a=>?_⟩;obtain⟨c,f⟩:=h hd;unfold monI at a;rw[ab c,ab (by omega)]at a;obtain⟨k,b,rfl⟩:=eU.1 a;have:=BC.1 (nG.1 b).1;omega
def vE{g l:Bool}{dg:aa}{x q:Int}{m d:aa}{k0 k1 k2:Int}(p:m.length<=18)(s:dg.length<=100)(B:0<=k0)(C:0<=k1)(v:0<=k2):
  bn 20000000 g l dg x q m d k0 k1 k2=some (chkF g l dg x q m d k0 k1 k2):=by
 unfold bn chkF;rw[OU 20000000 (by omega) g l dg x q m d k0 k1 k2 p s B C v];simp only[ob];by_cases hc:chkD g l dg x q m d k0 k1 k2=0
 ·obtain⟨c,r,j,y,f⟩:=tu hc;rw[hc];simp only[eI,af];by_cases hd:d=[]
  ·subst hd;rw[ab (by simp)];rfl
  ·rw[fY hd,af];have k:q=0:=by
    have:=UM c;by_cases h:0<q
    ·exact absurd (y h) (f hd).1
    ·omega
   subst k;have e:=WL 20000000 (by omega) g l dg x 0 m d k0 k1 k2 r j;have n:=MD f;obtain⟨o,o1,t⟩:=IM c m d k0 k1 k2 (-9223372036854775808) 0 0 (by omega) (monI m) (dayI d) n (G2 d);have b:∀e,inP g dg x 0 e->e≠-9223372036854775808:=λe u=>by have:=AD u;unfold dU at this;omega
   have key:(∃z,o=some z)↔hasF g dg x m d:=by
    constructor
    ·rintro⟨z,rfl⟩;obtain⟨e,a,_,c3,_⟩:=t;refine⟨e,a,λA=>?_⟩;have:=(Hh m d 0 0 (b e a) (monI m) (dayI d)).2 A;rw[this]at c3;cases c3
    ·rintro⟨e,a,D⟩;cases o with
     | some z=>exact⟨z,rfl⟩
     | none=>
      have:=t e a (by rw[fa];have:=AD a;unfold dU at this;omega);exact absurd ((Hh m d 0 0 (b e a) (monI m) (dayI d)).1 this) D
   rw[e];by_cases i:hasF g dg x m d
   ·obtain⟨z,rfl⟩:=key.2 i;rw[ab (λh=>h.2.2 i)]
    all_goals
     simp only[d4,d8,o1];rfl
   ·have w:o=none:=by
     cases o with
     | none=>rfl
     | some z=>exact absurd (key.1 ⟨z,rfl⟩) i
    subst w;rw[ae ⟨rfl,hd,i⟩]
    all_goals
     simp only[d4,d8,o1];rfl
 ·rw[ab (λh=>hc h.1)];have:(chkD g l dg x q m d k0 k1 k2 != 0)=true:=by simp[hc]
  rw[this];rfl
def OV {g l:Bool} {dg:aa} {x:Int} (c:okY g l dg x 0) (m d:aa) (k0 k1 k2:Int):
  ∃r,kV 20000000 g l dg x 0 m d k0 k1 k2=some r/\(r=1/\hasF g dg x m d\/r=0/\¬hasF g dg x m d):=by
 have K:=kC c;obtain ⟨lo,hi,B,P,O,E⟩:=yV c;obtain ⟨J,D,H⟩:=Ny c;have w:=N8 19999700 g l dg x 0 (by omega) c;unfold kV;rw [show (20000000:Nat)=19999700+300 from rfl,w];simp only [ob];generalize (sgn g (pH g dg x 0)).1=a at *;generalize (sgn g (pH g dg x 0)).2=b at *;have Q:=B a J;have hb':=B b D;have I:=λy=>Ue 19999700 c y;have step:∀i y,((List.range (b - a+1).toNat).map (λj:Nat=>a+(j:Int)))[i]?=some y->i<(b - a+1).toNat/\y=a+(i:Int):=by
  intro i y h;rw [pR] at h;cases u:(List.range (b - a+1).toNat)[i]? with
  | none=>rw [u] at h;cases h
  | some j=>
   rw [u] at h;have hi:=rW.1 u;obtain ⟨C,A⟩:=hi;rw [List.getElem_range] at A;rw [List.length_range] at C;subst A;exact ⟨C,(aW h).symm⟩
 have p:((List.range (b - a+1).toNat).map (λj:Nat=>a+(j:Int))).length=(b - a+1).toNat:=by simp
 have:=tw (step:=gf (19999700+300)) (f:=λi=>(b,a+(i:Int),g,l,dg,x,0,m,d,k0,k1,k2)) (L:=(List.range (b - a+1).toNat).map (λj:Nat=>a+(j:Int))) (G:=λy=>if inP g dg x 0 y/\xM m d y≠[] then some (.inl 1) else none) (e:=.inr ())
  (λi y h=>by
   obtain ⟨hi,rfl⟩:=step i y h;have M:wrap .i64 (a+(i:Int)+1)=a+((i+1:Nat):Int):=by rw [wrap_i64 _ (by omega) (by omega)];omega
   unfold gf;simp only [d4,d8,M];rw [aq (show a+(i:Int)<=b by omega),I,Ic (19999700+300) (by omega)];by_cases k:inP g dg x 0 (a+(i:Int))
   ·rw [ae k];by_cases n:xM m d (a+(i:Int))=[]
    ·rw [ab (λh=>h.2 n),n];rfl
    ·rw [ae ⟨k,n⟩];have hp:0<(xM m d (a+(i:Int))).length:=List.length_pos_iff.2 n;have hd:decide ((((xM m d (a+(i:Int))).length:Nat):Int)>0)=true:=aq (by omega);simp only [aj,ob,hd];rfl
   ·rw [ab k,ab (λh=>k h.1)];rfl)
  (by
   unfold gf;simp only [d4,d8];rw [p,am (show ¬a+(((b - a+1).toNat:Nat):Int)<=b by omega)];rfl)
  (N:=19999700+300) (by rw [p];omega)
 rw [show a+((0:Nat):Int)=a by omega] at this;rw [this];cases q:(List.findSome? (λy=>if inP g dg x 0 y/\xM m d y≠[] then some (Sum.inl (1:Int)) else none) ((List.range (b - a+1).toNat).map (λj:Nat=>a+(j:Int))):Option (Int⊕Unit)) with
 | none=>
  refine ⟨0,rfl,.inr ⟨rfl,?_⟩⟩;rintro ⟨e,s,v⟩;rw [Qk] at q;have hs:=H e s;have:=q e (eU.2 ⟨(e - a).toNat,kB.2 (by omega),by omega⟩);rw [ae ⟨s,v⟩] at this;cases this
 | some z=>
  obtain ⟨y,F,o⟩:=List.exists_of_findSome?_eq_some q;by_cases t:inP g dg x 0 y/\xM m d y≠[]
  ·rw [ae t] at o;obtain rfl:=aW o;exact ⟨1,rfl,.inl ⟨rfl,y,t.1,t.2⟩⟩
  ·rw [ab t] at o;cases o
def sw{g l:Bool}{dg:aa}{x q:Int}{m d:aa}{k0 k1 k2:Int}(f:dg.length<=100)(t:0<=k0)(n:0<=k1)(o:0<=k2):
  bL 20000000 g l dg x q m d k0 k1 k2=some (chkF g l dg x q m d k0 k1 k2):=by
 unfold bL chkF;rw[ER 20000000 (by omega) g l dg x q m d k0 k1 k2 f t n o];simp only[ob];by_cases hc:chkD g l dg x q m d k0 k1 k2=0
 ·obtain⟨a,j,i,s,c⟩:=tu hc;rw[hc];by_cases hd:d=[]
  ·subst hd;rw[ab (by simp)];rfl
  ·have e:q=0:=by
    have:=UM a;by_cases h:0<q
    ·exact absurd (s h) (c hd).1
    ·omega
   subst e;obtain⟨r,k,p⟩:=OV a m d k0 k1 k2;rw[fY hd,k];rcases p with⟨rfl,b⟩ | ⟨rfl,b⟩
   ·rw[ab (λh=>h.2.2 b)];rfl
   ·rw[ae ⟨rfl,hd,b⟩];rfl
 ·rw[ab (λh=>hc h.1)];have:(chkD g l dg x q m d k0 k1 k2==0)=false:=aK.2 hc;rw[this];rfl
def xG{g l:Bool}{dg:aa}{x q:Int}{m d:aa}{k0 k1 k2:Int}(h:chkF g l dg x q m d k0 k1 k2=0):chkD g l dg x q m d k0 k1 k2=0:=by
 unfold chkF at h;split at h
 ·cases h
 ·exact h
def bne0{e:Int}(h:e≠0):(e != 0)=true:=by simp[h]
def OB{m d:aa}{y:Int}{z:Int×Int×Int}:z∈xM m d y↔z.1=y/\z.2.1∈monI m/\z.2.2∈dayI d/\z.2.2<=wV d y z.2.1:=by
 unfold xM u0;simp only[List.mem_flatMap,eU,nG,cr];constructor
 ·rintro⟨f,b,k,⟨c,a⟩,rfl⟩;exact⟨rfl,b,c,a⟩
 ·rintro⟨e,b,c,a⟩;exact⟨z.2.1,b,z.2.2,⟨c,a⟩,by rw[<-e]⟩
def plN(P:Nat×Nat×Nat)(i:Nat):Nat:=if i=0 then P.1 else if i=1 then P.2.1 else P.2.2
def ut{g l:Bool}{dg:aa}{x q:Int}{m d:aa}{k0 k1 k2:Int}(a:allM k0 k1 k2 (jf m d)=0):chkF g l dg x q m d k0 k1 k2=0\/chkF g l dg x q m d k0 k1 k2=6\/chkF g l dg x q m d k0 k1 k2=7\/chkF g l dg x q m d k0 k1 k2=8:=by
 unfold chkF;split
 ·exact .inr (.inr (.inr rfl))
 ·exact MO a
noncomputable def chkR(r:DR):Nat:=(chkF r.1 r.2.1 r.2.2.1 (r.2.2.2.1:Int) (r.2.2.2.2.1:Int) r.2.2.2.2.2.1 r.2.2.2.2.2.2.1 (r.2.2.2.2.2.2.2.1.1:Int) (r.2.2.2.2.2.2.2.1.2.1:Int) (r.2.2.2.2.2.2.2.1.2.2:Int)).toNat
noncomputable def bZ(S:aa)(a:Nat):(Nat×Nat×Nat)⊕DR:=
 match nU S a with
 | .inl k=>.inl (k,5,k)
 | .inr r=>if chkR r=0 then .inr r else .inl (plN r.2.2.2.2.2.2.2.2.1 (chkR r - 6),chkR r,r.2.2.2.2.2.2.2.2.2)
def Vx(S:aa):(Nat×Nat×Nat)⊕DR->(Int×Int×aa×Int)⊕(Bool×Bool×aa×Int×Int×aa×aa×Int×Int×Int×Int×aa×Int)
 | .inl (k,E,p)=>.inl ((k:Int),(E:Int),S,(p:Int))
 | .inr (g,l,dg,x,s,m,d,M,P,e)=>.inr (g,l,dg,(x:Int),(s:Int),m,d,(M.1:Int),(M.2.1:Int),(M.2.2:Int),(P.1:Int),S,(e:Int))
def Fp(S:aa)(a:Nat)(h:a<=S.length)(o:S.length<100000):iw 20000000 S (a:Int)=some (Vx S (bZ S a)):=by
 have n:jH 20000000 S (a:Int)=_:=QU 19999700 S a h o (by omega);unfold iw bZ;rw[n];cases hd:nU S a with
 | inl k=>rfl
 | inr r=>
  obtain⟨g,l,dg,x,s,f,d,M,P,e⟩:=r;have b:=AI h hd;have i:=b.all;have p:=b.m2;have j:=b.dg17;simp only[ob,Um,d4,d8];rw[vE (g:=g) (l:=l) (x:=(x:Int)) (q:=(s:Int)) (d:=d) (show f.length<=18 by omega) (show dg.length<=100 by omega) (show(0:Int)<=(M.1:Int)by omega) (show(0:Int)<=(M.2.1:Int)by omega) (show(0:Int)<=(M.2.2:Int)by omega)];simp only[ob];have c:=ut (g:=g) (l:=l) (dg:=dg) (x:=(x:Int)) (q:=(s:Int)) (m:=f) (d:=d) (k0:=(M.1:Int)) (k1:=(M.2.1:Int)) (k2:=(M.2.2:Int)) (wR i);unfold chkR;simp only[];rcases c with hc | hc | hc | hc<;>rw[hc]<;>rfl
def dayY(y:Int):Int:=365*y+(1+(y - 1) / 4 - (y - 1) / 100+(y - 1) / 400)
def cumM(y:Int):Nat->Int
 | 0=>0
 | k+1=>cumM y k+lenI y ((k+1:Nat):Int)
def dayM(y:Int)(m:Nat):Int:=if m<=12 then dayY y+cumM y (m - 1)else dayY (y+1)+cumM (y+1) (m - 13)
def Dy(y:Int):dayY (y+1)=dayY y+365+(if sJ y then 1 else 0):=by
 unfold dayY sJ;simp only[aC,iC,cr];split<;>omega
def G4(n:Int):dayY (400*n)=146097*n:=by
 unfold dayY;omega
def kz{y:Int}(h:-20000000000000000<=y/\y<=20000000000000000):-8000000000000000000<=dayY y/\dayY y<=8000000000000000000:=by
 unfold dayY;omega
def XA(y:Int):cumM y 12=365+(if sJ y then 1 else 0):=by
 have e:∀k:Nat,cumM y (k+1)=cumM y k+lenI y ((k+1:Nat):Int):=λ_=>rfl;have z:cumM y 0=0:=rfl;rw[e 11,e 10,e 9,e 8,e 7,e 6,e 5,e 4,e 3,e 2,e 1,e 0,z];unfold lenI;cases sJ y<;>rfl
def qo(y:Int):∀k:Nat,0<=cumM y k/\cumM y k<=31*(k:Int)
 | 0=>by simp[cumM]
 | k+1=>by
  have a:=qo y k;have b:=lI y ((k+1:Nat):Int);show 0<=cumM y k+lenI y ((k+1:Nat):Int)/\cumM y k+lenI y ((k+1:Nat):Int)<=_;omega
def oZ{y:Int}(h:dU y){m:Nat}(a:m<=24):-8100000000000000000<=dayM y m/\dayM y m<=8100000000000000000:=by
 unfold dU at h;unfold dayM;split
 ·have:=qo y (m - 1);have:=kz (y:=y) (by omega);omega
 ·have:=qo (y+1) (m - 13);have:=kz (y:=y+1) (by omega);omega
def QZ(y:Int):dayM y 13=dayY (y+1):=by
 unfold dayM;rw[ab (by omega)];simp[cumM]
def JG(y:Int){m:Nat}(a:1<=m)(b:m<=12):dayM y (m+1)=dayM y m+lenI y (m:Int):=by
 obtain⟨k,rfl⟩:∃k,m=k+1:=⟨m - 1,by omega⟩;have e:dayM y (k+1)=dayY y+cumM y k:=by unfold dayM;rw[ae (by omega)];rfl
 rw[e];by_cases h:k+1=12
 ·obtain rfl:k=11:=by omega
  rw[QZ,Dy];have:=XA y;have e:cumM y 12=cumM y 11+lenI y ((11+1:Nat):Int):=rfl;omega
 ·have:dayM y (k+1+1)=dayY y+cumM y (k+1):=by unfold dayM;rw[ae (by omega)];rfl
  rw[this];show dayY y+(cumM y k+lenI y ((k+1:Nat):Int))=_;omega
def C7(y:Int){m:Nat}(b:1<=m)(a:m<=12):dayM y (m+12)=dayM (y+1) m:=by
 unfold dayM;rw[ab (by omega),ae a];congr 2
def rO(n:Nat){y:Int}(h:-10000000000000001<=y/\y<=10000000000000001):lM n y=some (dayY y):=by
 have a:=kz (y:=y) (by omega);unfold lM;rw[wZ n (by omega),wrap_i64 (365*y) (by omega) (by omega)];show some (wrap .i64 (dayY y))=_;rw[wrap_i64 _ (by omega) (by omega)]
def se(n:Nat){y:Int}(h:dU y):lA n y=some (dayY y,0):=by
 unfold lA;have h':=h;unfold dU at h';rw[gA,ae h,rO n (by omega)];rfl
def BX(n:Nat){y:Int}(h:dU y):ue n y=some (dayY (y+1) - 1,0):=by
 unfold ue;have h':=h;unfold dU at h';have a:=kz (y:=y+1) (by omega);rw[gA,ae h,wrap_i64 (y+1) (by omega) (by omega),rO n (by omega)];show some (wrap .i64 (dayY (y+1) - 1),(0:Int))=_;rw[wrap_i64 _ (by omega) (by omega)]
def FQ(n:Nat){y:Int}(h:dU y){m:Nat}(c:m<=11):∀(r j:Nat),j+r=m->∀N,r<N->au (bD n) N (y,dayY y+cumM y j,(m:Int),(j:Int))=some (dayY y+cumM y m):=by
 have h':=h;unfold dU at h';have e:=kz (y:=y) (by omega);intro r
 induction r with
 | zero=>
  intro j b N a;obtain⟨N,rfl⟩:∃k,N=k+1:=⟨N - 1,by omega⟩;obtain rfl:j=m:=by omega
  have:bD n (y,dayY y+cumM y j,(j:Int),(j:Int))=some (.inr (dayY y+cumM y j)):=by
   unfold bD;rw[bC,ab (show¬((j:Int)<(j:Int))by omega)]
  rw[au,this]
 | succ r ih=>
  intro j b N a;obtain⟨N,rfl⟩:∃k,N=k+1:=⟨N - 1,by omega⟩;have w:wrap .i64 ((j:Int)+1)=((j+1:Nat):Int):=by rw[wrap_i64 _ (by omega) (by omega)];omega
  have hc:=qo y j;have d:=lI y ((j+1:Nat):Int);have:bD n (y,dayY y+cumM y j,(m:Int),(j:Int))=some (.inl (y,dayY y+cumM y (j+1),(m:Int),((j+1:Nat):Int))):=by
   unfold bD;rw[bC,ae (show((j:Int)<(m:Int))by omega)];simp only[w,xi n h (show 1<=j+1 by omega) (show j+1<=12 by omega),ob];rw[wrap_i64 (dayY y+cumM y j+lenI y ((j+1:Nat):Int)) (by omega) (by omega),Int.add_assoc];rfl
  rw[au,this];exact ih (j+1) (by omega) N (by omega)
def tP(n:Nat)(c:100<n){y:Int}(h:dU y){m:Nat}(b:1<=m)(a:m<=12):fB n y (m:Int)=some (dayM y m,0):=by
 unfold fB;have w:wrap .i64 ((m:Int) - 1)=((m - 1:Nat):Int):=by rw[wrap_i64 _ (by omega) (by omega)];omega
 rw[HM n h b a,se n h,w];have:=FQ n h (m:=m - 1) (by omega) (m - 1) 0 (by omega) n (by omega);rw[show dayY y+cumM y 0=dayY y by simp[cumM]]at this;show ob (au (bD n) n (y,dayY y,((m - 1:Nat):Int),((0:Nat):Int))) _=_;rw[this];unfold dayM;rw[ae a];rfl
def Eh(n:Nat)(c:100<n){y:Int}(h:dU y){m:Nat}(a:1<=m)(b:m<=12):gV n y (m:Int)=some (dayM y (m+1) - 1,0):=by
 unfold gV;have e:=oZ h (m:=m) (by omega);have d:=lI y (m:Int);rw[tP n c h a b,xi n h a b,JG y a b];show some (wrap .i64 (wrap .i64 (dayM y m+lenI y (m:Int)) - 1),(0:Int))=_;rw[wrap_i64 (dayM y m+lenI y (m:Int)) (by omega) (by omega),wrap_i64 _ (by omega) (by omega)]
def Iw(n:Nat)(d:100<n){y:Int}(h:dU y){j m c:Nat}(l:j<21)(e:nD[j]?=some ((m:Int),(c:Int)))(f:1<=m)(g:m<=12)(k:1<=c)(i:c<=6)(hy:12<m+c - 1->y≠10000000000000000):
  iq n y ((21+j:Nat):Int)=some (0,dayM y m,0,dayM y (m+c) - 1,0):=by
 have o:fD n ((21+j:Nat):Int)=some ((m:Int),(c:Int),0):=by
  unfold fD dH;rw[bC,bC,ab (by omega),ab (by omega)];have:wrap .i64 (((21+j:Nat):Int) - 21)=(j:Int):=by rw[wrap_i64 _ (by omega) (by omega)];omega
  rw[this,dW l];show ob (nD[j]?) _=_;rw[e];rfl
 unfold iq;rw[o];simp only[ob,eI,af];rw[tP n d h f g];simp only[ob,eI,af];rw[madd n h f g k i];have h':=h;unfold dU at h';by_cases a:12<m+c - 1
 ·rw[ae a,ab (hy a)];have b:dU (y+1):=by unfold dU;have:=hy a;omega
  simp only[ob,eI,af];rw[Eh n d b (m:=m+c - 1 - 12) (by omega) (by omega)];have:=C7 y (m:=m+c - 1 - 12+1) (by omega) (by omega);rw[show m+c - 1 - 12+1+12=m+c by omega]at this;rw[this]
 ·rw[ab a];simp only[ob,eI,af];rw[Eh n d h (m:=m+c - 1) (by omega) (by omega),show m+c - 1+1=m+c by omega]
def yS(n:Nat){y:Int}(hy:-10000000000000002<=y/\y<=10000000000000002):∀(r:Nat) (z:Int),z+(r:Int)=y->-10000000000000402<=z->∀N,r<N->au (cR n) N (y,dayY z,z)=some (dayY y):=by
 intro r
 induction r with
 | zero=>
  intro z d a N c;obtain⟨N,rfl⟩:∃k,N=k+1:=⟨N - 1,by omega⟩;obtain rfl:z=y:=by omega
  have:cR n (z,dayY z,z)=some (.inr (dayY z)):=by
   unfold cR;rw[bC,ab (show¬(z<z)by omega)]
  rw[au,this]
 | succ r ih=>
  intro z d a N c;obtain⟨N,rfl⟩:∃k,N=k+1:=⟨N - 1,by omega⟩;have f:=kz (y:=z) (by omega);have b:=Dy z;have:cR n (y,dayY z,z)=some (.inl (y,dayY (z+1),z+1)):=by
   unfold cR;rw[bC,ae (show z<y by omega),Ax];have e:lenI z 2=if sJ z then 29 else 28:=rfl
   simp only[ob,e];rw[wrap_i64 (dayY z+365) (by omega) (by omega),wrap_i64 (dayY z+365+1) (by omega) (by omega),wrap_i64 (z+1) (by omega) (by omega),b];cases sJ z
   ·simp
   ·rfl
  rw[au,this];exact ih (z+1) (by omega) (by omega) N (by omega)
def rB(n:Nat)(d:1000<n){y:Int}(hy:-10000000000000002<=y/\y<=10000000000000002):cc n y=some (dayY y):=by
 have hd:=Int.mul_tdiv_add_tmod y 400;have c:Int.tmod y 400=if 0<=y then y%400 else -((-y)%400):=by
  by_cases h:0<=y
  ·rw[ae h,KE h]
  ·rw[ab h,<-KE (show 0<=-y by omega),Int.neg_tmod,Int.neg_neg]
 unfold cc;by_cases a:Int.tmod y 400<0
 ·rw[aq a];have b:Int.tdiv y 400 - 1=y / 400:=by
   rw[c]at a hd;split at a
   ·omega
   ·rw[ab (by assumption)]at hd;omega
  rw[wrap_i64 (Int.tdiv y 400) (by omega) (by omega),b,wrap_i64 (y / 400) (by omega) (by omega),wrap_i64 (y / 400*146097) (by omega) (by omega),wrap_i64 (y / 400*400) (by omega) (by omega)];have:=yS n hy (y - y / 400*400).toNat (y / 400*400) (by omega) (by omega) n (by omega);rw[show dayY (y / 400*400)=y / 400*146097 by rw[yE,G4,yE]]at this;simp only[aj,this,ob]
 ·rw[am a];have b:Int.tdiv y 400=y / 400:=by
   rw[c]at a hd;split at a
   ·rw[ae (by assumption)]at hd;omega
   ·rw[ab (by assumption)]at hd;omega
  rw[b,wrap_i64 (y / 400) (by omega) (by omega),wrap_i64 (y / 400*146097) (by omega) (by omega),wrap_i64 (y / 400*400) (by omega) (by omega)];have:=yS n hy (y - y / 400*400).toNat (y / 400*400) (by omega) (by omega) n (by omega);rw[show dayY (y / 400*400)=y / 400*146097 by rw[yE,G4,yE]]at this;simp only[af,this,ob]
def xI{step:Int×Int×Int×Int->Option ((Int×Int×Int×Int)⊕Int)}(n:Nat)
  (hs:step=λx=>(cond (decide (x.2.2.2<x.2.1)) (ob (ep n x.1 x.2.2.2) λr=>(some (.inl (x.1,x.2.1,(wrap .i64 (x.2.2.1+r)),(wrap .i64 (x.2.2.2+1)))))) (some (.inr x.2.2.1))))
  {y:Int} (hy:-10000000000000002<=y/\y<=10000000000000002) {m:Nat} (f:1<=m) (c:m<=12) {N:Nat} (a:20<N):au step N (y,(m:Int),dayY y,1)=some (dayM y m):=by
 have h:=kz (y:=y) (by omega);have d:∀(r j:Nat),j+1+r=m->∀N,r<N->au step N (y,(m:Int),dayY y+cumM y j,((j+1:Nat):Int))=some (dayY y+cumM y (m - 1)):=by
  intro r
  induction r with
  | zero=>
   intro j b N a;obtain⟨N,rfl⟩:∃k,N=k+1:=⟨N - 1,by omega⟩;obtain rfl:j+1=m:=by omega
   have:step (y,((j+1:Nat):Int),dayY y+cumM y j,((j+1:Nat):Int))=some (.inr (dayY y+cumM y j)):=by
    rw[hs];simp only[];rw[am (show¬(((j+1:Nat):Int)<((j+1:Nat):Int))by omega)];rfl
   rw[au,this];rfl
  | succ r ih=>
   intro j b N a;obtain⟨N,rfl⟩:∃k,N=k+1:=⟨N - 1,by omega⟩;have w:wrap .i64 (((j+1:Nat):Int)+1)=((j+1+1:Nat):Int):=by rw[wrap_i64 _ (by omega) (by omega)];omega
   have hc:=qo y j;have g:=lI y ((j+1:Nat):Int);have:step (y,(m:Int),dayY y+cumM y j,((j+1:Nat):Int))=some (.inl (y,(m:Int),dayY y+cumM y (j+1),((j+1+1:Nat):Int))):=by
    rw[hs];simp only[];rw[aq (show(((j+1:Nat):Int)<(m:Int))by omega),Ax];simp only[aj,ob,w];rw[wrap_i64 (dayY y+cumM y j+lenI y ((j+1:Nat):Int)) (by omega) (by omega),Int.add_assoc];rfl
   rw[au,this];exact ih (j+1) (by omega) N (by omega)
 have:=d (m - 1) 0 (by omega) N (by omega);rw[show dayY y+cumM y 0=dayY y by simp[cumM]]at this;have e:dayM y m=dayY y+cumM y (m - 1):=by unfold dayM;rw[ae c]
 rw[e];exact this
def ra(n:Nat)(a:1000<n){y:Int}(hy:-10000000000000001<=y/\y<=10000000000000001){m:Nat}(b:1<=m)(c:m<=24):aP n y (m:Int)=some (dayM y m):=by
 unfold aP;by_cases h:12<m
 ·rw[aq (show(m:Int)>12 by omega),wrap_i64 (y+1) (by omega) (by omega),wrap_i64 ((m:Int) - 12) (by omega) (by omega),show(m:Int) - 12=((m - 12:Nat):Int)by omega];unfold kg;rw[am (show¬((m - 12:Nat):Int)>12 by omega),rB n a (by omega)];simp only[aj,af,ob];have:=xI (step:=iP n) n rfl (y:=y+1) (by omega) (m:=m - 12) (by omega) (by omega) (N:=n) (by omega);rw[this,<-C7 y (by omega) (by omega),show m - 12+12=m by omega]
 ·rw[am (show¬(m:Int)>12 by omega),rB n a (by omega)];simp only[af,ob];have:=xI (step:=kb n) n rfl (y:=y) (by omega) (m:=m) (by omega) (by omega) (N:=n) (by omega);rw[this]
def twoV(s:aa):Nat:=match s with
 | [a,b]=>10*(a.toNat - 48)+(b.toNat - 48)
 | _=>0
def yOf(g:Bool)(dg:aa)(x:Int):Int:=if g then -((val dg x.toNat:Nat):Int)else((val dg x.toNat:Nat):Int)
def spF(m:aa):Nat:=((nD.getD (sea m - 21).toNat (0,0)).1).toNat
def spC(m:aa):Nat:=((nD.getD (sea m - 21).toNat (0,0)).2).toNat
def pE(g:Bool)(dg:aa)(x:Int)(m d:aa):Int×Int:=
 if m=[]then(dayY (yOf g dg x),dayY (yOf g dg x+1) - 1)
 else if 0<sea m then(dayM (yOf g dg x) (spF m),dayM (yOf g dg x) (spF m+spC m) - 1)
 else if d=[]then(dayM (yOf g dg x) (twoV m),dayM (yOf g dg x) (twoV m+1) - 1)
 else(dayM (yOf g dg x) (twoV m)+(twoV d:Int) - 1,dayM (yOf g dg x) (twoV m)+(twoV d:Int) - 1)
def exD(dg m d:aa)(q:Int):Bool:=!(hasX dg||(hasX m||hasX d))&&(q==0)
def Ql{s:aa}(h:hasX s=false){c:UInt8}(hc:c∈s):c≠88:=by
 rintro rfl;unfold hasX at h;rw[rU]at h;exact h 88 hc (by decide)
def Jb{s:aa}(h:hasX s=false){k:Nat}(l:k<100)(c:agr s k=true):twoV s=k/\s=two k:=by
 unfold agr at c;split at c
 ·rename_i a b;have e:a≠88:=Ql h (by simp);have d:b≠88:=Ql h (by simp);simp only[aC,iC,bu]at c;obtain⟨f,g⟩:=c;have f:=f.resolve_left e;have g:=g.resolve_left d;subst f g;refine⟨?_,rfl⟩;unfold twoV;have j:(UInt8.ofNat (48+k / 10)).toNat=48+k / 10:=by simp;omega
  have i:(UInt8.ofNat (48+k%10)).toNat=48+k%10:=by simp;omega
  simp only[j,i];omega
 ·cases c
def yF{s:aa}(h:hasX s=false){g:Nat}(d:g<100)(a:hO s g=true):1<=twoV s/\twoV s<=g/\s=two (twoV s):=by
 unfold hO at a;obtain⟨i,hi,a⟩:=tz.1 a;have:=kB.1 hi;obtain⟨c,b⟩:=Jb h (by omega) a;rw[c];exact⟨by omega,by omega,b⟩
def LZ{s:aa}(h:hasX s=false){g:Nat}(d:g<100){k:Int}(c:k∈s8 (fitN s g)):k=(twoV s:Int):=by
 obtain⟨i,hi,rfl⟩:=eU.1 c;obtain⟨a,b⟩:=nG.1 hi;have:=BC.1 a;rw[(Jb h (by omega) b).1]
def HB{k:Nat}(c:k<100):Lib.atoi (two k)=some (k:Int):=by
 have b:(UInt8.ofNat (48+k / 10)).toNat=48+k / 10:=by simp;omega
 have a:(UInt8.ofNat (48+k%10)).toNat=48+k%10:=by simp;omega
 unfold two;rw[Hy (by omega) (by omega),b,a];congr 2;omega
def zF(n:Nat){k:Nat}(d:k<100):aV n (two k)=some (k:Int):=by
 have b:(UInt8.ofNat (48+k / 10)).toNat=48+k / 10:=by simp;omega
 have a:(UInt8.ofNat (48+k%10)).toNat=48+k%10:=by simp;omega
 have s0:sx (two k) 0=some (UInt8.ofNat (48+k / 10)):=rfl;have c:sx (two k) 1=some (UInt8.ofNat (48+k%10)):=rfl;unfold aV;rw[s0,c];simp only[ob,b,a]
 rw[ke (((48+k / 10:Nat):Int) - 48) (by omega) (by omega),ke (((48+k%10:Nat):Int) - 48) (by omega) (by omega),
  wrap_i64 (((48+k / 10:Nat):Int) - 48) (by omega) (by omega),wrap_i64 (((48+k%10:Nat):Int) - 48) (by omega) (by omega),
  wrap_i64 (10*(((48+k / 10:Nat):Int) - 48)) (by omega) (by omega),wrap_i64 _ (by omega) (by omega)]
 congr 1;omega
structure Exact(g l:Bool)(dg:aa)(x:Int)(m d:aa):Prop where
 ok:okY g l dg x 0
 num:hasX dg=false
 cal:dU (yOf g dg x)
 mon:m=[]\/(∃j,j<21/\m=two (21+j)/\(j=3\/j=7\/j=9->yOf g dg x≠10000000000000000))\/(sea m=0/\1<=twoV m/\twoV m<=12/\m=two (twoV m))
 day:d=[]\/(m≠[]/\sea m=0/\1<=twoV d/\twoV d<=31/\d=two (twoV d)/\(twoV d:Int)<=lenI (yOf g dg x) (twoV m:Int))
def vX{g l:Bool}{dg:aa}{x q:Int}{m d:aa}{k0 k1 k2:Int}(hc:chkF g l dg x q m d k0 k1 k2=0)(c:exD dg m d q=true):q=0/\Exact g l dg x m d:=by
 unfold exD at c;simp only[aC,kL,oP,bu]at c;obtain⟨⟨y,k,r⟩,rfl⟩:=c;refine⟨rfl,?_⟩;have D:=xG hc;obtain⟨a,K,G,O,w⟩:=tu D;obtain⟨i,N,c3,c4⟩:=MG D;have n:=Fj a y;obtain⟨F,_,_⟩:=Ny a;have hy:inP g dg x 0 (yOf g dg x):=by
  have:=(n _).1 F;have e:yOf g dg x=(sgn g (pH g dg x 0)).1:=by rw[this];rfl
  rw[e];exact F
 have o:=AD hy;refine⟨a,y,o,?_,?_⟩
 ·by_cases f:m=[]
  ·exact .inl f
  ·right;rcases oW m with J | ⟨j,E,e⟩
   ·right;rcases N with h | h | h
    ·exact absurd h f
    ·omega
    ·obtain⟨a1,a2,A⟩:=yF k (by omega) h;exact⟨J,a1,a2,A⟩
   ·left;refine⟨j,E,e,λH=>?_⟩;unfold yrD at i;rw[ae a]at i;unfold yrB at i;simp only[aC,kL]at i;have B:wint (sea m)=true:=by
     rw[e,lG E];rcases H with rfl | rfl | rfl<;>rfl
    have p:=i.2;rw[B,nO]at p;unfold uP at p;rw[y]at p;intro b;unfold yOf at b;cases g with
    | true=>
     simp only[aG]at b;omega
    | false=>
     simp only[bj,az]at b;have:val dg x.toNat=E16:=by unfold E16;omega
     rw[aq this]at p;cases p
 ·by_cases hd:d=[]
  ·exact .inl hd
  ·right;obtain⟨f,hs⟩:=w hd;rcases c3 with h | ⟨_,_,h⟩
   ·exact absurd h hd
   ·obtain⟨a1,a2,A⟩:=yF r (by omega) h;refine⟨f,hs,a1,a2,A,?_⟩;have M:hasF g dg x m d:=by
     unfold chkF at hc;split at hc
     ·cases hc
     ·rename_i I;by_cases h:hasF g dg x m d
      ·exact h
      ·exact absurd ⟨D,hd,h⟩ I
    obtain⟨e,c,s⟩:=M;obtain⟨z,L,C⟩:=List.exists_cons_of_ne_nil s;have C:z∈xM m d e:=by rw[C];exact oq
    obtain⟨z1,z2,v,u⟩:=OB.1 C;have t:e=yOf g dg x:=(n e).1 c;unfold monI at z2;rw[ab f,ab (by omega)]at z2;unfold dayI at v;rw[ab hd]at v;unfold wV at u;rw[ab hd,LZ r (by omega) v,LZ k (by omega) z2,t]at u;exact u
def LJ{j:Nat}(b:j<21):∃f c:Nat,nD[j]?=some ((f:Int),(c:Int))/\1<=f/\f<=12/\1<=c/\c<=6/\(12<f+c - 1↔j=3\/j=7\/j=9)/\spF (two (21+j))=f/\spC (two (21+j))=c:=by
 obtain⟨f,c,e,i,k,h,d,g⟩:=G0 b;have hs:(sea (two (21+j)) - 21).toNat=j:=by rw[lG b];omega
 have a:nD.getD j (0,0)=((f:Int),(c:Int)):=by rw[zD,e];rfl
 refine⟨f,c,e,i,k,h,d,g,?_,?_⟩
 ·unfold spF;rw[hs,a];rfl
 ·unfold spC;rw[hs,a];rfl
def DX(n:Nat){j:Nat}(a:j<21):gW n ((21+j:Nat):Int)=nD[j]?:=by
 have:j=0\/j=1\/j=2\/j=3\/j=4\/j=5\/j=6\/j=7\/j=8\/j=9\/j=10\/j=11\/j=12\/j=13\/j=14\/j=15\/j=16\/j=17\/j=18\/j=19\/j=20:=by omega
 rcases this with rfl | rfl | rfl | rfl | rfl | rfl | rfl | rfl | rfl | rfl | rfl | rfl | rfl | rfl | rfl | rfl | rfl | rfl | rfl | rfl | rfl<;>rfl
def Gg(n:Nat)(g l:Bool)(dg:aa)(x q:Int)(m d:aa)(k0 k1 k2:Int)(a:m.length<=1000)(hd:dg.length<=1000)(h:d.length<=1000):mq n g l dg x q m d k0 k1 k2=some (exD dg m d q):=by
 unfold mq exD;rw[Cj n g l dg x q m d k0 k1 k2 a hd h];simp only[ob];cases(hasX dg||(hasX m||hasX d))<;>rfl
def QF{Y:Type}(a b:Y):∀s:aa,((s.findSome? λc=>if c=88 then some a else none).getD b)=if hasX s then a else b
 | []=>rfl
 | c::s=>by
  have ih:=QF a b s;unfold hasX at ih ⊢;rw[CZ,qA];by_cases hc:c=88
  ·subst hc;rfl
  ·rw[ab hc];have e:(c==88)=false:=aK.2 hc;rw[e,oU];exact ih
def yw (n:Nat) (s:aa) (g l:Bool) (dg:aa) (x q:Int) (m d:aa) (k0 k1 k2:Int) (hs:s.length<=100000) {N:Nat} (a:s.length<N):
  au (ee n) N (s,0,g,l,dg,x,q,m,d,k0,k1,k2)=some (if hasX s then .inl 0 else .inr (g,l,dg,x,q,m,d,k0,k1,k2)):=by
 have:=tw (step:=ee n) (f:=λi=>(s,(i:Int),g,l,dg,x,q,m,d,k0,k1,k2)) (L:=s) (G:=λc=>if c=88 then some (.inl 0) else none) (e:=.inr (g,l,dg,x,q,m,d,k0,k1,k2))
  (λi c hi=>by
   have b:=(rW.1 hi).1;have j:wrap .i64 ((i:Int)+1)=((i+1:Nat):Int):=by rw [wrap_i64 _ (by omega) (by omega)];omega
   unfold ee;simp only [d4,d8,j];rw [aq (show (i:Int)<((s.length:Nat):Int) by omega),dE hi];simp only [aj,ob];by_cases hc:c=88
   ·subst hc;rw [ae rfl];rfl
   ·rw [ab hc];have:(((c.toNat:Nat):Int)==88)=false:=by
     rw [aK];intro h;apply hc;apply gu.1;have:c.toNat=88:=by omega
     rw [this];rfl
    rw [this];rfl)
  (by
   unfold ee;simp only [d4,d8];rw [am (show ¬((s.length:Nat):Int)<((s.length:Nat):Int) by omega)];rfl)
  a
 rw [show ((0:Nat):Int)=0 from rfl] at this;rw [this];rw [QF]
def CJ(n:Nat)(g l:Bool)(dg:aa)(x q:Int)(m d:aa)(k0 k1 k2:Int)(e:m.length<=1000)(hd:dg.length<=1000)(h:d.length<=1000)(f:4000<n):aL n g l dg x q m d k0 k1 k2=some (if exD dg m d q then 1 else 0):=by
 unfold aL;rw[kq (by omega)];simp only[ob];rw[kq (by rw[bw];omega)];simp only[];rw[yw n _ _ _ _ _ _ _ _ _ _ _ (by simp only[bw];omega) (by simp only[bw];omega)];rw[vV,vV];unfold exD;cases hasX dg<;>cases hasX m<;>cases hasX d<;>(try rfl);simp only[wS,bj,az,ob,d4,ia,nO];by_cases a:q=0
 ·subst a;rfl
 ·have b:(q != 0)=true:=by simp[a]
  have c:(q==0)=false:=aK.2 a;rw[b,c];rfl
def S9(n:Nat)(c:100<n){y:Int}(h:dU y){m k:Nat}(a:1<=m)(b:m<=12)(k1:1<=k)(k2:(k:Int)<=lenI y (m:Int)):rH n y (m:Int) (k:Int)=some (dayM y m+(k:Int) - 1,0):=by
 have e:=oZ h (m:=m) (by omega);have d:=lI y (m:Int);unfold rH qJ;rw[I8 n h a b];simp only[ob,eI,af];rw[am (show¬(k:Int)<1 by omega),am (show¬(k:Int)>lenI y (m:Int)by omega),tP n c h a b];simp only[ob,eI,af];rw[wrap_i64 (dayM y m+(k:Int)) (by omega) (by omega),wrap_i64 _ (by omega) (by omega)]
section
variable {g l:Bool} {dg:List UInt8} {x:Int} {m d:List UInt8} {k0 k1 k2:Int}
def E6 (n:Nat) (t:100<n) (w:m.length<=18) (E:Exact g l dg x m d) (q r:Int) (A:m≠[]->q=if 0<sea m then sea m else (twoV m:Int)) (D:d≠[]->r=(twoV d:Int)):
  (ob (jc n) λC=>(ob (be n g l dg x 0 m d k0 k1 k2) λb=>(cond (b==0) (ob (gz n (yOf g dg x) ([q,r]:List (Int))) λi=>(some (i.1,i.2.1,i.2.2.1,i.2.2.2,(0:Int)))) (cond (b==1) (ob (gF n (yOf g dg x) ([q,r]:List (Int))) λa=>(some (a.1,a.2.1,a.2.2.1,a.2.2.2,0))) (cond (b==2) (ob (gB n (yOf g dg x) ([q,r]:List (Int))) λk=>(some (k.1,k.2.1,k.2.2.1,k.2.2.2,0))) (cond (b==3) (ob (gp n (yOf g dg x) ([q,r]:List (Int))) λo=>(some (o.1,o.2.1,o.2.2.1,o.2.2.2,0))) none)))))) =
   some (0,(pE g dg x m d).1,0,(pE g dg x m d).2,0):=by
 have N:jc n=some ():=rfl;have u:ix ([q,r]:List Int).length 0=some 0:=rfl;have F:ix ([q,r]:List Int).length 1=some 1:=rfl;have g0:([q,r]:List Int)[0]?=some q:=rfl;have K:([q,r]:List Int)[1]?=some r:=rfl;rw [N,Lj n g l dg x 0 m d k0 k1 k2 w];unfold pE;by_cases hd:d=[]
 ·rw [ae hd];by_cases p:m=[]
  ·have hs:sea m=0:=by rw [p];decide
   rw [ab (show ¬0<sea m by omega),ae p,ae p];unfold gF;rw [se n E.cal,BX n E.cal];rfl
  ·rw [ab p];by_cases hs:0<sea m
   ·rw [ae hs,ae hs];rcases E.mon with h | ⟨j,s,e,v⟩ | ⟨h,_⟩
    ·exact absurd h p
    ·obtain ⟨f,c,I,a1,a2,J,L,O,M,G⟩:=LJ s;have z:q=((21+j:Nat):Int):=by rw [A p,ae hs,e,lG s]
     unfold gz;rw [u];simp only [ob,g0];rw [z,Iw n t E.cal s I a1 a2 J L (λh=>v (O.1 h)),e,M,G];rfl
    ·omega
   ·rw [ab hs,ab hs,ab p,ae hd];rcases E.mon with h | ⟨j,s,e,v⟩ | ⟨_,a1,a2,_⟩
    ·exact absurd h p
    ·rw [e,lG s] at hs;omega
    ·have z:q=(twoV m:Int):=by rw [A p,ab hs]
     unfold gB;rw [u];simp only [ob,g0];rw [z,tP n t E.cal a1 a2,Eh n t E.cal a1 a2];rfl
 ·rw [ab hd];rcases E.day with h | ⟨p,hs,b1,b2,P,H⟩
  ·exact absurd h hd
  ·rw [ab p,ab (show ¬0<sea m by omega),ab hd];rcases E.mon with h | ⟨j,s,e,v⟩ | ⟨_,a1,a2,_⟩
   ·exact absurd h p
   ·rw [e,lG s] at hs;omega
   ·have B:q=(twoV m:Int):=by rw [A p,ab (by omega)]
    have y:=D hd;unfold gp;rw [u,F];simp only [ob,g0,K];rw [B,y,S9 n t E.cal a1 a2 b1 H];rfl
def Om(E:Exact g l dg x m d)(b:m≠[]):Lib.atoi m=some (if 0<sea m then sea m else(twoV m:Int)):=by
 rcases E.mon with h | ⟨j,a,e,_⟩ | ⟨f,a1,a2,c⟩
 ·exact absurd h b
 ·rw[e,lG a,ae (by omega)];exact xB a
 ·rw[ab (by omega)];have:=HB (k:=twoV m) (by omega);rw[<-c]at this;exact this
def OH(E:Exact g l dg x m d)(hd:d≠[]):Lib.atoi d=some (twoV d:Int):=by
 rcases E.day with h | ⟨_,_,a1,a2,a,_⟩
 ·exact absurd h hd
 ·have:=HB (k:=twoV d) (by omega);rw[<-a]at this;exact this
def AX:Lib.atoi []=none:=by kernel_rfl
def En{q:Int}(b:m.length<=18)(e:dg.length<=100)(hd:d.length<=18)(s:0<=k0)(o:0<=k1)(r:0<=k2):
  gC 20000000 g l dg x q m d k0 k1 k2=some (if chkF g l dg x q m d k0 k1 k2=0 then(if exD dg m d q=true then(0,(pE g dg x m d).1,0,(pE g dg x m d).2,0)else(0,0,0,0,1))else(0,0,0,0,chkF g l dg x q m d k0 k1 k2)):=by
 have n:Nat.ble m.length 18=true:=dT b;have k:Nat.ble d.length 18=true:=dT hd;unfold gC;rw[vE b e s o r];simp only[ob];by_cases hc:chkF g l dg x q m d k0 k1 k2=0
 ·rw[ae hc,hc,Gg 20000000 g l dg x q m d k0 k1 k2 (by omega) (by omega) (by omega)];simp only[ob,eI,af];by_cases c:exD dg m d q=true
  ·rw[ae c,c];obtain⟨rfl,E⟩:=vX hc c;have p:eG 20000000 g l dg x 0=some (yOf g dg x,0):=by
    rw[zM 20000000 g l dg x 0 (by omega) e,ae ⟨E.ok,E.num⟩];rfl
   rw[p,n,k];simp only[ca,af,aj,ob];by_cases i:m=[]
   ·have a:d=[]:=by
     rcases E.day with h | ⟨h,_⟩
     ·exact h
     ·exact absurd i h
    have:=E6 (k0:=k0) (k1:=k1) (k2:=k2) 20000000 (by omega) b E 0 0 (λh=>absurd i h) (λh=>absurd a h);have f:Lib.atoi m=none:=by rw[i];exact AX
    have j:Lib.atoi d=none:=by rw[a];exact AX
    rw[f,j];simp only[opt];exact this
   ·have f:=Om E i;by_cases a:d=[]
    ·have:=E6 (k0:=k0) (k1:=k1) (k2:=k2) 20000000 (by omega) b E (if 0<sea m then sea m else(twoV m:Int)) 0 (λ_=>rfl) (λh=>absurd a h);have j:Lib.atoi d=none:=by rw[a];exact AX
     rw[f,j];simp only[opt];exact this
    ·have:=E6 (k0:=k0) (k1:=k1) (k2:=k2) 20000000 (by omega) b E (if 0<sea m then sea m else(twoV m:Int)) (twoV d:Int) (λ_=>rfl) (λ_=>rfl);rw[f,OH E a];simp only[opt];exact this
  ·rw[ab c];rw[Ho]at c;rw[c];rfl
 ·rw[ab hc,bne0 hc];rfl
def uz(E:Exact g l dg x m d)(K:dg.length<=100):bh 20000000 g l dg x 0 m d k0 k1 k2=some (pE g dg x m d):=by
 obtain⟨k,q,rfl,U,H⟩:=s9 E.ok E.num;have X:k<=17:=by have:=H.wide;omega
 have hs:=H.small;have D:ak 20000000 dg (k:Int)=some (((val dg k:Nat):Int),1):=by
  rw[jv 20000000 dg k H.dig K (by omega) (by omega),ae H.small];rfl
 have S:dval 0 dg*10 ^ k=val dg k:=rfl;rw[S]at hs;unfold E16 at hs;have hy:yOf g dg (k:Int)=if g then -((val dg k:Nat):Int)else((val dg k:Nat):Int):=by unfold yOf;rw[ch]
 have G:=E.cal;unfold dU at G;have key:∀y:Int,y=yOf g dg (k:Int)->
   (ob (aO 20000000 g l dg (k:Int) 0 m d k0 k1 k2) λn=>(cond (m==([]:aa)) (ob (cc 20000000 y) λp=>(ob (cc 20000000 (wrap .i64 (y+1))) λA=>(some (p,(wrap .i64 (A - 1)))))) (cond (decide (n>0)) (ob (gW 20000000 n) λa=>(ob (aP 20000000 y a.1) λr=>(ob (aP 20000000 y (wrap .i64 (a.1+a.2))) λu=>(some (r,(wrap .i64 (u - 1))))))) (cond (d==([]:aa)) (ob (aV 20000000 m) λt=>(ob (aP 20000000 y t) λz=>(ob (aV 20000000 m) λs=>(ob (aP 20000000 y (wrap .i64 (s+1))) λo=>(some (z,(wrap .i64 (o - 1)))))))) (ob (aV 20000000 m) λv=>(ob (aP 20000000 y v) λi=>(ob (aV 20000000 d) λb=>(some ((wrap .i64 ((wrap .i64 (i+b)) - 1)),(wrap .i64 ((wrap .i64 (i+b)) - 1)))))))))) )=some (pE g dg (k:Int) m d):=by
  intro y J;subst J;have hcal':=E.cal;have V:=kz (y:=yOf g dg (k:Int)+1) (by omega);rw[oQ 20000000 (by omega)];simp only[ob];unfold pE;by_cases B:m=[]
  ·have e:(m==([]:aa))=true:=by rw[B];rfl
   rw[ae B,e,rB 20000000 (by omega) (by omega),wrap_i64 (yOf g dg (k:Int)+1) (by omega) (by omega),rB 20000000 (by omega) (by omega)];simp only[aj,ob];rw[wrap_i64 _ (by omega) (by omega)]
  ·rw[ab B,fY B];simp only[af];by_cases hs:0<sea m
   ·rw[ae hs,aq (show sea m>0 from hs)];rcases E.mon with h | ⟨j,C,e,_⟩ | ⟨h,_⟩
    ·exact absurd h B
    ·obtain⟨f,c,Q,a1,a2,M,Y,Z,T,P⟩:=LJ C;have L:sea m=((21+j:Nat):Int):=by rw[e,lG C]
     have O:=oZ hcal' (m:=f+c) (by omega);rw[L,DX 20000000 C,Q];simp only[aj,ob];rw[ra 20000000 (by omega) (by omega) a1 (by omega)];simp only[ob];rw[wrap_i64 ((f:Int)+(c:Int)) (by omega) (by omega),show(f:Int)+(c:Int)=((f+c:Nat):Int)by omega,ra 20000000 (by omega) (by omega) (by omega) (by omega)];simp only[ob];rw[wrap_i64 _ (by omega) (by omega),e,T,P]
    ·omega
   ·rw[ab hs,am (show¬sea m>0 from hs)];simp only[af];rcases E.mon with h | ⟨j,C,e,_⟩ | ⟨_,a1,a2,M⟩
    ·exact absurd h B
    ·rw[e,lG C]at hs;omega
    ·have I:=zF 20000000 (k:=twoV m) (by omega);rw[<-M]at I;have O:=oZ hcal' (m:=twoV m) (by omega);have R:=oZ hcal' (m:=twoV m+1) (by omega);by_cases hd:d=[]
     ·have e:(d==([]:aa))=true:=by rw[hd];rfl
      rw[ae hd,e,I];simp only[aj,ob];rw[ra 20000000 (by omega) (by omega) a1 (by omega)];simp only[ob];rw[wrap_i64 ((twoV m:Int)+1) (by omega) (by omega),show(twoV m:Int)+1=((twoV m+1:Nat):Int)by omega,ra 20000000 (by omega) (by omega) (by omega) (by omega)];simp only[ob];rw[wrap_i64 _ (by omega) (by omega)]
     ·rw[ab hd,fY hd];rcases E.day with h | ⟨_,_,b1,b2,N,W⟩
      ·exact absurd h hd
      ·have F:=zF 20000000 (k:=twoV d) (by omega);rw[<-N]at F;rw[I];simp only[af,ob];rw[ra 20000000 (by omega) (by omega) a1 (by omega),F];simp only[ob];rw[wrap_i64 (dayM (yOf g dg (k:Int)) (twoV m)+(twoV d:Int)) (by omega) (by omega),wrap_i64 _ (by omega) (by omega)]
 unfold bh;rw[D];simp only[ob];cases g with
 | true=>
  have w:wrap .i64 (0 - ((val dg k:Nat):Int))=yOf true dg (k:Int):=by
   rw[wrap_i64 _ (by omega) (by omega),hy];simp
  rw[w];simp only[aj];exact key _ rfl
 | false=>
  have w:((val dg k:Nat):Int)=yOf false dg (k:Int):=by rw[hy];rfl
  rw[w];simp only[af];exact key _ rfl
end
def E8(g l:Bool)(dg:aa)(x q:Int)(m d:aa)(k0 k1 k2:Int):Bool:=
 (((g==false)&&((l==false)&&((dg==([]:aa))&&((x==0)&&((q==0)&&true)))))&&((m==([]:aa))&&((d==([]:aa))&&(((k0==0)&&((k1==0)&&((k2==0)&&true)))&&true))))
noncomputable def chkB(K:Int)(g l:Bool)(dg:aa)(x q:Int)(m d:aa)(k0 k1 k2:Int):Int:=
 if K=1 then(if chkF g l dg x q m d k0 k1 k2=0 then(if exD dg m d q=true then 0 else 11)else chkF g l dg x q m d k0 k1 k2)else if K=2\/K=3 then(if E8 g l dg x q m d k0 k1 k2=true then 0 else 5)else 18
def Ez(d c b a lo hi:Int):Int:=if d≠0 then d else if c≠0 then c else if b≠1/\a≠1 then 11 else if b≠1\/a≠1 then 0 else if lo>hi then 11 else 0
section
variable {K:Int} {g l:Bool} {dg:List UInt8} {x q:Int} {m d:List UInt8} {k0 k1 k2:Int} (hml:m.length<=18) (hdl:dg.length<=100) (hd18:d.length<=18) (h0:0<=k0) (h1:0<=k1) (h2:0<=k2)
include hml hdl hd18 h0 h1 h2
def Bi:jm 20000000 K g l dg x q m d k0 k1 k2=some (chkB K g l dg x q m d k0 k1 k2):=by
 unfold jm chkB;rw[vE hml hdl h0 h1 h2,Gg 20000000 g l dg x q m d k0 k1 k2 (by omega) (by omega) (by omega)];simp only[ob];by_cases a:K=1
 ·subst a;rw[ae rfl];simp only[vp,aj];by_cases hc:chkF g l dg x q m d k0 k1 k2=0
  ·rw[ae hc,hc];by_cases e:exD dg m d q=true
   ·rw[ae e,e];rfl
   ·rw[ab e];rw[Ho]at e;rw[e];rfl
  ·rw[ab hc,bne0 hc];rfl
 ·rw[ab a,aK.2 a];simp only[af];have f:(!(((g==false)&&((l==false)&&((dg==([]:aa))&&((x==0)&&((q==0)&&true)))))&&((m==([]:aa))&&((d==([]:aa))&&(((k0==0)&&((k1==0)&&((k2==0)&&true)))&&true)))))=!(E8 g l dg x q m d k0 k1 k2):=rfl;rw[f];by_cases c:K=2
  ·subst c;rw[ae (.inl rfl)];cases E8 g l dg x q m d k0 k1 k2<;>rfl
  ·rw[aK.2 c];by_cases b:K=3
   ·subst b;rw[ae (.inr rfl)];cases E8 g l dg x q m d k0 k1 k2<;>rfl
   ·rw[aK.2 b,ab (by omega)];rfl
def xj:eX 20000000 K g l dg x q m d k0 k1 k2=some (chkB K g l dg x q m d k0 k1 k2):=by
 unfold eX chkB;rw[sw hdl h0 h1 h2,CJ 20000000 g l dg x q m d k0 k1 k2 (by omega) (by omega) (by omega) (by omega)];simp only[ob];by_cases a:K=1
 ·subst a;rw[ae rfl];simp only[vp,aj];by_cases hc:chkF g l dg x q m d k0 k1 k2=0
  ·rw[ae hc,hc];by_cases e:exD dg m d q=true
   ·rw[ae e,ae e];rfl
   ·rw[ab e,ab e];rfl
  ·rw[ab hc,aK.2 hc];rfl
 ·rw[ab a,aK.2 a];simp only[af];have f:(!(((g==false)&&((l==false)&&((dg==([]:aa))&&((x==0)&&((q==0)&&true)))))&&((m==([]:aa))&&((d==([]:aa))&&(((k0==0)&&((k1==0)&&((k2==0)&&true)))&&true)))))=!(E8 g l dg x q m d k0 k1 k2):=rfl;rw[f];by_cases c:K=2
  ·subst c;rw[ae (.inl rfl)];cases E8 g l dg x q m d k0 k1 k2<;>rfl
  ·rw[aK.2 c];by_cases b:K=3
   ·subst b;rw[ae (.inr rfl)];cases E8 g l dg x q m d k0 k1 k2<;>rfl
   ·rw[aK.2 b,ab (by omega)];rfl
def vK(hc:chkB K g l dg x q m d k0 k1 k2=0)(b:K=1):chkF g l dg x q m d k0 k1 k2=0/\exD dg m d q=true:=by
 have c:=And.intro hml (And.intro hdl (And.intro hd18 (And.intro h0 (And.intro h1 h2))));unfold chkB at hc;rw[ae b]at hc;by_cases h:chkF g l dg x q m d k0 k1 k2=0
 ·rw[ae h]at hc;by_cases a:exD dg m d q=true
  ·exact⟨h,a⟩
  ·rw[ab a]at hc;cases hc
 ·rw[ab h]at hc;exact absurd hc h
end
def Wv(n:Nat)(a b:Int):jw n a b=some (if a<b then -1 else if a>b then 1 else 0):=by
 unfold jw kW;simp only[ob,eI,af];by_cases h:a<b
 ·rw[aq h,ae h];rfl
 ·rw[am h,ab h];by_cases c:a>b
  ·rw[aq c,ae c];rfl
  ·rw[am c,ab c];rfl
def G3(a b:Int):∃r,kn 20000000 0 a 0 b=some r/\decide (r>0)=decide (a>b):=by
 have e:mD 20000000 0 0=some 0:=rfl;have o1:ov 20000000 [0,-1]=some (-1):=by kernel_rfl
 have f:ov 20000000 [0,1]=some 1:=by kernel_rfl
 have d:ov 20000000 [0,0]=some 0:=by kernel_rfl
 unfold kn;rw[e,Wv];simp only[ob];by_cases h:a<b
 ·rw[ae h,o1];exact⟨_,rfl,by rw[am (show¬a>b by omega)];rfl⟩
 ·rw[ab h];by_cases c:a>b
  ·rw[ae c,f];exact⟨_,rfl,by rw[aq c];rfl⟩
  ·rw[ab c,d];exact⟨_,rfl,by rw[am c];rfl⟩
def bne1{K:Int}(h:K≠1):(K != 1)=true:=by simp[h]
section
variable {K:Int} {g l:Bool} {dg:List UInt8} {x q:Int} {m d:List UInt8} {k0 k1 k2:Int} {K':Int} {g' l':Bool} {dg':List UInt8} {x' q':Int} {m' d':List UInt8} {p0 p1 p2:Int} (hml:m.length<=18) (hdl:dg.length<=100) (hd18:d.length<=18) (h0:0<=k0) (h1:0<=k1) (h2:0<=k2) (hml':m'.length<=18) (hdl':dg'.length<=100) (hd18':d'.length<=18) (h0':0<=p0) (h1':0<=p1) (h2':0<=p2)
include hml hdl hd18 h0 h1 h2 hml' hdl' hd18' h0' h1' h2'
def Tf:gv 20000000 K g l dg x q m d k0 k1 k2 K' g' l' dg' x' q' m' d' p0 p1 p2=some (Ez (chkB K g l dg x q m d k0 k1 k2) (chkB K' g' l' dg' x' q' m' d' p0 p1 p2) K K' (pE g dg x m d).1 (pE g' dg' x' m' d').2):=by
 unfold gv Ez;rw[Bi hml hdl hd18 h0 h1 h2,Bi hml' hdl' hd18' h0' h1' h2'];simp only[ob];by_cases b:chkB K g l dg x q m d k0 k1 k2=0
 ·rw[ab (by omega),b];by_cases c:chkB K' g' l' dg' x' q' m' d' p0 p1 p2=0
  ·rw[ab (by omega),c];simp only[eI,af];by_cases e:K=1
   ·rw[show(K != 1)=false by rw[e];rfl];simp only[af];by_cases a:K'=1
    ·rw[show(K' != 1)=false by rw[a];rfl,ab (by omega),ab (by omega)];simp only[af];obtain⟨j,n⟩:=vK hml hdl hd18 h0 h1 h2 b e;obtain⟨k,i⟩:=vK hml' hdl' hd18' h0' h1' h2' c a;rw[En hml hdl hd18 h0 h1 h2,En hml' hdl' hd18' h0' h1' h2',ae j,ae n,ae k,ae i];simp only[ob];obtain⟨r,f,o⟩:=G3 (pE g dg x m d).1 (pE g' dg' x' m' d').2;rw[f];simp only[o];by_cases h:(pE g dg x m d).1>(pE g' dg' x' m' d').2
     ·rw[aq h,ae h];rfl
     ·rw[am h,ab h];rfl
    ·rw[bne1 a,ab (by omega),ae (by omega)];rfl
   ·rw[bne1 e];by_cases a:K'=1
    ·rw[show(K' != 1)=false by rw[a];rfl,ab (by omega),ae (by omega)];rfl
    ·rw[bne1 a,ae (by omega)];rfl
  ·rw[ae c,bne0 c];rfl
 ·rw[ae b,bne0 b];rfl
def O0:eC 20000000 K g l dg x q m d k0 k1 k2 K' g' l' dg' x' q' m' d' p0 p1 p2=some (Ez (chkB K g l dg x q m d k0 k1 k2) (chkB K' g' l' dg' x' q' m' d' p0 p1 p2) K K' (pE g dg x m d).1 (pE g' dg' x' m' d').2):=by
 unfold eC Ez;rw[xj hml hdl hd18 h0 h1 h2,xj hml' hdl' hd18' h0' h1' h2'];simp only[ob];by_cases c:chkB K g l dg x q m d k0 k1 k2=0
 ·rw[ab (by omega),c];by_cases e:chkB K' g' l' dg' x' q' m' d' p0 p1 p2=0
  ·rw[ab (by omega),e];simp only[eI,af];by_cases b:K=1
   ·rw[show(K != 1)=false by rw[b];rfl,show(K==1)=true by rw[b];rfl];simp only[af,aj];by_cases a:K'=1
    ·rw[show(K'==1)=true by rw[a];rfl,ab (by omega),ab (by omega)];simp only[aj];obtain⟨j,n⟩:=vK hml hdl hd18 h0 h1 h2 c b;obtain⟨k,i⟩:=vK hml' hdl' hd18' h0' h1' h2' e a;obtain⟨rfl,f⟩:=vX j n;obtain⟨rfl,o⟩:=vX k i;rw[uz f hdl,uz o hdl'];simp only[ob];by_cases h:(pE g dg x m d).1>(pE g' dg' x' m' d').2
     ·rw[aq h,ae h];rfl
     ·rw[am h,ab h];rfl
    ·rw[aK.2 a,ab (by omega),ae (by omega)];rfl
   ·rw[bne1 b,aK.2 b];by_cases a:K'=1
    ·rw[show(K' != 1)=false by rw[a];rfl,ab (by omega),ae (by omega)];rfl
    ·rw[bne1 a,ae (by omega)];rfl
  ·rw[ae e,bne0 e];rfl
 ·rw[ae c,bne0 c];rfl
end
def plR(r:DR):Nat:=r.2.2.2.2.2.2.2.2.1.1
def enR(r:DR):Nat:=r.2.2.2.2.2.2.2.2.2
def Ie{l:aa}{b:UInt8}(h:l.take 2=[b,b]):∃r,l=b::b::r:=by
 match l,h with
 | a::c::r,h=>simp at h;exact⟨r,by rw[h.1,h.2]⟩
def AM{S:aa}{a:Nat}(h:a<=S.length){r:DR}(b:bZ S a=.inr r):nU S a=.inr r/\chkR r=0:=by
 unfold bZ at b;cases hd:nU S a with
 | inl k=>rw[hd]at b;cases b
 | inr c=>
  rw[hd]at b;simp only[]at b;by_cases hc:chkR c=0
  ·rw[ae hc]at b;obtain rfl:=uN b;exact⟨rfl,hc⟩
  ·rw[ab hc]at b;cases b
def kM(c:UInt8)(k:Nat)(a:k<256):(((c.toNat:Nat):Int)==(k:Int))=decide (c=UInt8.ofNat k):=by
 rw[r7,bu,EV];constructor
 ·intro h;apply gu.1;have:c.toNat=k:=by omega
  rw[this];simp;omega
 ·rintro rfl;simp;omega
def I7(S:aa)(A:Int):(Nat×Nat×Nat)⊕DR->Bool×Bool×aa×Int×Int×aa×aa×Int×Int×Int×Int×aa×Int×Int
 | .inl (k,E,p)=>(false,false,[],0,0,[],[],0,0,0,A,S,(k:Int),(E:Int))
 | .inr (g,l,dg,x,s,m,d,M,P,e)=>(g,l,dg,(x:Int),(s:Int),m,d,(M.1:Int),(M.2.1:Int),(M.2.2:Int),(P.1:Int),S,(e:Int),0)
def rx(S:aa)(a:Nat)(h:a<=S.length)(v:S.length<100000):∃A,eJ 20000000 S (a:Int)=some (I7 S A (bZ S a)):=by
 obtain⟨Q,t,o⟩:=xX 19999700 S a h v (by omega);rw[show 19999700+300=20000000 from rfl]at o;obtain⟨b,f,i,rfl⟩:∃b f i,Q=[b,f,i]:=by
  match Q,t with
  | [b,f,i],_=>exact⟨b,f,i,rfl⟩
 unfold eJ bZ;rw[o];cases hd:nU S a with
 | inl k=>exact⟨b,rfl⟩
 | inr r=>
  obtain⟨g,l,dg,x,s,n,d,M,P,e⟩:=r;have c:=AI h hd;have p:=c.all;have u:=c.dg17;simp only[ob,RG,d4,d8,eI,af];rw[sw (g:=g) (l:=l) (x:=(x:Int)) (q:=(s:Int)) (m:=n) (d:=d) (show dg.length<=100 by omega) (show(0:Int)<=(M.1:Int)by omega) (show(0:Int)<=(M.2.1:Int)by omega) (show(0:Int)<=(M.2.2:Int)by omega)];have j:=ut (g:=g) (l:=l) (dg:=dg) (x:=(x:Int)) (q:=(s:Int)) (m:=n) (d:=d) (k0:=(M.1:Int)) (k1:=(M.2.1:Int)) (k2:=(M.2.2:Int)) (wR p);unfold chkR;simp only[];refine⟨(P.1:Int),?_⟩;rcases j with hc | hc | hc | hc<;>rw[hc]<;>rfl
def qw{S:aa}{a:Nat}(h:a<=S.length){k E p:Nat}(b:bZ S a=.inl (k,E,p)):E≠0:=by
 unfold bZ at b;cases hd:nU S a with
 | inl k'=>rw[hd]at b;simp only[]at b;have:=Sum.inl.inj b;simp at this;omega
 | inr c=>
  rw[hd]at b;simp only[]at b;by_cases hc:chkR c=0
  ·rw[ae hc]at b;cases b
  ·rw[ab hc]at b;have:=Sum.inl.inj b;simp at this;omega
def smT(x:TD):Prop:=x.2.2.2.2.2.1.length<=18/\x.2.2.1.length<=100/\x.2.2.2.2.2.2.1.length<=18/\0<=x.2.2.2.2.2.2.2.1/\0<=x.2.2.2.2.2.2.2.2.1/\0<=x.2.2.2.2.2.2.2.2.2
noncomputable def cF(x:TD):Int:=chkF x.1 x.2.1 x.2.2.1 x.2.2.2.1 x.2.2.2.2.1 x.2.2.2.2.2.1 x.2.2.2.2.2.2.1 x.2.2.2.2.2.2.2.1 x.2.2.2.2.2.2.2.2.1 x.2.2.2.2.2.2.2.2.2
def exT(x:TD):Bool:=exD x.2.2.1 x.2.2.2.2.2.1 x.2.2.2.2.2.2.1 x.2.2.2.2.1
def dyT(x:TD):Int×Int:=pE x.1 x.2.2.1 x.2.2.2.1 x.2.2.2.2.2.1 x.2.2.2.2.2.2.1
def seT(x:TD):Int:=sea x.2.2.2.2.2.1
def coT(x:TD):Nat:=jf x.2.2.2.2.2.1 x.2.2.2.2.2.2.1
noncomputable def plT(x:TD):Bool:=decide (cF x=0)&&(exT x&&!decide (0<seT x))
def lh:smT d0:=by unfold smT;simp
def fcT{x:TD}(h:smT x):ap10 (bn 20000000) x=some (cF x):=vE h.1 h.2.1 h.2.2.2.1 h.2.2.2.2.1 h.2.2.2.2.2
def rcT{x:TD}(h:smT x):ap10 (bL 20000000) x=some (cF x):=sw h.2.1 h.2.2.2.1 h.2.2.2.2.1 h.2.2.2.2.2
def reT{x:TD}(h:smT x):ap10 (aL 20000000) x=some (if exT x then 1 else 0):=by
 obtain⟨a,b,c,_⟩:=h;exact CJ 20000000 _ _ _ _ _ _ _ _ _ _ (by omega) (by omega) (by omega) (by omega)
def rsT(x:TD):ap10 (aO 20000000) x=some (seT x):=oQ 20000000 (by omega) _ _ _ _ _ _ _ _ _ _
def rcoT(x:TD):ap10 (aE 20000000) x=some ((coT x:Nat):Int):=sd 20000000 _ _ _ _ _ _ _ _ _ _
def fpT{x:TD}(h:smT x):ap10 (be 20000000) x=some (if x.2.2.2.2.2.2.1=[]then(if 0<seT x then 0 else if x.2.2.2.2.2.1=[]then 1 else 2)else 3):=Lj 20000000 _ _ _ _ _ _ _ _ _ _ h.1
def fmT{x:TD}(h:smT x):ap10 (eT 20000000) x=some (hasX x.2.2.1||(hasX x.2.2.2.2.2.1||hasX x.2.2.2.2.2.2.1)):=by
 obtain⟨a,b,c,_⟩:=h;exact Cj 20000000 _ _ _ _ _ _ _ _ _ _ (by omega) (by omega) (by omega)
def fdT{x:TD}(h:smT x):ap10 (gC 20000000) x=some (if cF x=0 then(if exT x=true then(0,(dyT x).1,0,(dyT x).2,0)else(0,0,0,0,1))else(0,0,0,0,cF x)):=En h.1 h.2.1 h.2.2.1 h.2.2.2.1 h.2.2.2.2.1 h.2.2.2.2.2
def UX{x:TD}(hc:cF x=0)(a:exT x=true):x.2.2.2.2.1=0/\Exact x.1 x.2.1 x.2.2.1 x.2.2.2.1 x.2.2.2.2.2.1 x.2.2.2.2.2.2.1:=vX hc a
def rdT{x:TD}(h:smT x)(hc:cF x=0)(a:exT x=true):ap10 (bh 20000000) x=some (dyT x):=by
 obtain⟨b,E⟩:=UX hc a;have:=uz (k0:=x.2.2.2.2.2.2.2.1) (k1:=x.2.2.2.2.2.2.2.2.1) (k2:=x.2.2.2.2.2.2.2.2.2) E h.2.1;rw[<-b]at this;exact this
def wL{x:TD}(hc:cF x=0):(x.2.2.2.2.2.1=[]\/x.2.2.2.2.2.1.length=2)/\(x.2.2.2.2.2.2.1=[]\/x.2.2.2.2.2.2.1.length=2)/\(x.2.2.2.2.2.2.1≠[]->x.2.2.2.2.2.1≠[]/\seT x=0):=by
 obtain⟨_,a,b,_,c⟩:=tu (xG hc);exact⟨a,b,c⟩
def kj{x y:TD}:eqD x y=true↔x=y:=by
 obtain⟨a1,a2,k,m,g,c,j,l,e,a⟩:=x;obtain⟨b1,b2,i,d,h,n,f,p,o,b⟩:=y;simp[and_assoc]
def HA{x:TD}(h:smT x):nB 20000000 x=some (exT x):=by
 unfold nB;rw[fmT h];simp only[ob,exT,exD];cases(hasX x.2.2.1||(hasX x.2.2.2.2.2.1||hasX x.2.2.2.2.2.2.1))<;>rfl
def A5{x:TD}(h:smT x):lL 20000000 x=some (plT x):=by
 unfold lL plT;rw[fcT h,HA h,fpT h];simp only[ob];by_cases hc:cF x=0
 ·rw[hc];cases c:exT x
  ·rfl
  ·show some ((if _ then _ else _) != (0:Int))=some (true&&(true&&!decide (0<seT x)));obtain⟨_,_,b⟩:=wL hc;by_cases hd:x.2.2.2.2.2.2.1=[]
   ·rw[ae hd];by_cases hs:0<seT x
    ·rw[ae hs,aq hs];rfl
    ·rw[ab hs,am hs];by_cases a:x.2.2.2.2.2.1=[]
     ·rw[ae a];rfl
     ·rw[ab a];rfl
   ·rw[ab hd,(b hd).2];rfl
 ·rw[am hc,show(cF x==0)=false from by simp[hc]];rfl
def sN{x:TD}(h:smT x):aZ 20000000 x=some (if plT x then 1 else 0):=by
 unfold aZ plT;rw[rcT h,reT h,rsT x];simp only[ob];by_cases hc:cF x=0
 ·rw[hc];cases b:exT x
  ·rfl
  ·by_cases hs:0<seT x
   ·have a:decide (seT x>0)=true:=aq hs;rw[aq hs];rfl
   ·have a:decide (seT x>0)=false:=am hs;rw[am hs];rfl
 ·rw[am hc,show(cF x != 0)=true from by simp[hc]];rfl
def Bc{x:TD}:plT x=true↔cF x=0/\exT x=true/\¬0<seT x:=by
 unfold plT;simp[and_assoc]
noncomputable def ordB(x y:TD):Bool:=(plT x&&plT y)&&(decide (coT x=coT y)&&decide ((dyT x).1<=(dyT y).1))
def yY{x:TD}(hc:cF x=0)(hs:¬0<seT x):(if x.2.2.2.2.2.2.1=[]then(if 0<seT x then(0:Int)else if x.2.2.2.2.2.1=[]then 1 else 2)else 3)=((coT x:Nat):Int):=by
 obtain⟨_,_,b⟩:=wL hc;unfold coT jf;by_cases hd:x.2.2.2.2.2.2.1=[]
 ·rw[ae hd,ab hs];by_cases a:x.2.2.2.2.2.1=[]
  ·simp[a,hd]
  ·simp[a,hd]
 ·have a:=(b hd).1;simp[hd,a]
def I3{x y:TD}(hx:smT x)(hy:smT y):mP 20000000 x y=some (ordB x y):=by
 unfold mP ordB;rw[A5 hx,A5 hy];cases g:plT x
 ·rfl
 cases h:plT y
 ·rfl
 obtain⟨b,f,j⟩:=Bc.1 g;obtain⟨d,l,e⟩:=Bc.1 h;rw[fpT hx,fpT hy,fdT hx,fdT hy,yY b j,yY d e,ae b,ae d,ae f,ae l];simp only[ob,u5,u4,u3,u2,ca,af,HW,nO];by_cases a:coT x=coT y
 ·rw[a,aq rfl];obtain⟨r,k,i⟩:=G3 (dyT x).1 (dyT y).1;simp only[eI,af,k,nO];refine cb some ?_;have:decide (r<=0)=!decide (r>0):=by
   by_cases c:r<=0
   ·rw[aq c,am (by omega)];rfl
   ·rw[am c,aq (by omega)];rfl
  rw[this,i];by_cases hd:(dyT x).1<=(dyT y).1
  ·rw[aq hd,am (by omega)];rfl
  ·rw[am hd,aq (by omega)];rfl
 ·have:(((coT x:Nat):Int) != ((coT y:Nat):Int))=true:=by simp;omega
  rw[this,am a];rfl
noncomputable def itE(x:TD)(r:Bool)(y:TD)(all:Bool):Int:=
 if cF x≠0 then cF x else if r=true/\cF y≠0 then cF y else if r=false/\eqD y d0=false then 5 else if r=true/\ordB x y=false then 10 else if all=true/\exT x=false then 10 else 0
def BN{x y:TD}(r:Bool)(hx:smT x)(hy:smT y)(K:Int)(hc:cF x=0)(a:¬(r=true/\cF y≠0)):eu 20000000 5 10 10 x r y K=some (itE x r y (K==4)):=by
 unfold eu qh qF qZ itE;rw[I3 hx hy,HA hx,ab (by simpa using hc),ab a];cases r
 ·generalize eqD y d0=z;cases z
  ·rfl
  ·cases(K==4)
   ·rfl
   ·cases exT x<;>rfl
 ·simp only[ob,ca,af,aj,reduceCtorEq,wv,az,jD];cases ordB x y
  ·rfl
  ·simp only[ca,af,Bool.true_eq_false,az];cases(K==4)
   ·rfl
   ·cases exT x<;>rfl
def Eg{x y:TD}(r:Bool)(hx:smT x)(hy:smT y)(K:Int):fX 20000000 x r y K=some (if K=3\/K=4 then itE x r y (K==4)else 18):=by
 have b:(ob (ap10 (bn 20000000) x) λf=>(cond (f != 0) (some f) (cond r (ob (ap10 (bn 20000000) y) λe=>(cond (e != 0) (some e) (ob (eu 20000000 5 10 10 x r y K) λh=>(some h)))) (ob (eu 20000000 5 10 10 x r y K) λg=>(some g)))))=some (itE x r y (K==4)):=by
  rw[fcT hx];simp only[ob];by_cases hc:cF x=0
  ·rw[show(cF x != 0)=false from by simp[hc],af];cases r
   ·rw[BN false hx hy K hc (by simp)];rfl
   ·rw[aj,fcT hy];simp only;by_cases a:cF y=0
    ·rw[show(cF y != 0)=false from by simp[a],af,BN true hx hy K hc (by simp[a])]
    ·rw[show(cF y != 0)=true from by simp[a],aj];unfold itE;rw[ab (by simpa using hc),ae ⟨rfl,a⟩]
  ·rw[show(cF x != 0)=true from by simp[hc],aj];unfold itE;rw[ae hc]
 unfold fX;by_cases d:K=3
 ·subst d;exact b.trans (by rfl)
 ·rw[show(K != 3)=true from by simp[d],aj];by_cases c:K=4
  ·subst c;exact b.trans (by rfl)
  ·rw[show(K != 4)=true from by simp[c],aj,ab (by omega)]
def VM{x y:TD}{r all:Bool}(h:cF x≠0):itE x r y all=cF x:=ae h
def P3{x y:TD}{all:Bool}(hc:cF x=0)(h:cF y≠0):itE x true y all=cF y:=by
 unfold itE;rw[ab (λh=>h hc),ae ⟨rfl,h⟩]
def VE{x y:TD}{all:Bool}(hc:cF x=0):itE x false y all=if eqD y d0=false then 5 else if all=true/\exT x=false then 10 else 0:=by
 have a:(false=true/\cF y≠0)↔False:=by simp
 have b:(false=true/\ordB x y=false)↔False:=by simp
 have c:(false=false/\eqD y d0=false)↔eqD y d0=false:=by simp
 unfold itE;rw[ab (λh=>h hc)];simp only[a,b,az,jD]
def V7{x y:TD}{all:Bool}(hc:cF x=0)(hy:cF y=0):itE x true y all=if ordB x y=false then 10 else if all=true/\exT x=false then 10 else 0:=by
 have b:(true=true/\ordB x y=false)↔ordB x y=false:=by simp
 have a:(true=false/\eqD y d0=false)↔False:=by simp
 unfold itE;rw[ab (λh=>h hc),ab (λh=>h.2 hy)];simp only[a,az,jD]
def TG(a b:Bool):(wrap .i64 ((if a then(1:Int)else 0)*(if b then(1:Int)else 0))==0)=!(a&&b):=by cases a<;>cases b<;>rfl
def H8{x y:TD}(r all:Bool)(hx:smT x)(hy:smT y):jk 20000000 x r y all=some (itE x r y all):=by
 have last:cond all (ob (ap10 (aL 20000000) x) λc=>(cond (c==0) (some 10) (some 0))) (some 0)=some (if all=true/\exT x=false then(10:Int)else 0):=by
  rw[reT hx];cases all
  ·rfl
  ·cases exT x<;>rfl
 unfold jk;simp only[last];simp only[rcT hx,rcT hy,sN hx,sN hy,rcoT,ob,TG];by_cases hc:cF x=0
 ·rw[show(cF x != 0)=false from by simp[hc],af];cases r
  ·simp only[af,ia,aj];rw[VE hc];generalize eqD y d0=z;cases z<;>rfl
  ·simp only[aj,ca,af];by_cases a:cF y=0
   ·rw[show(cF y != 0)=false from by simp[a],af];rw[V7 hc a];unfold ordB;cases e:plT x
    ·simp
    cases g:plT y
    ·simp
    obtain⟨f,d,k⟩:=Bc.1 e;obtain⟨h,i,j⟩:=Bc.1 g;rw[rdT hx f d,rdT hy h i];simp only[u2,HW,ca,af,nO,jD];by_cases b:coT x=coT y
    ·rw[b,aq rfl];simp only[eI,af,nO];by_cases hd:(dyT x).1<=(dyT y).1
     ·rw[show decide ((dyT x).1>(dyT y).1)=false from am (by omega),aq hd];simp
     ·rw[show decide ((dyT x).1>(dyT y).1)=true from aq (by omega),am hd];simp
    ·have:(((coT x:Nat):Int) != ((coT y:Nat):Int))=true:=by simp;omega
     rw[this,am b];simp
   ·rw[show(cF y != 0)=true from by simp[a],aj];rw[P3 hc a]
 ·rw[show(cF x != 0)=true from by simp[hc],aj];rw[VM hc]
def nP{A:Type}(f:Nat->A->Int):Nat->List A->Option (Nat×Int)
 | _,[]=>none
 | i,t::r=>if f i t≠0 then some (i,f i t)else nP f (i+1) r
def ur{A X Y:Type}{step:X->Option (X⊕Y)}{st:Nat->X}{L:List A}{f:Nat->A->Int}{yes:Nat->Int->Y}{no:Y}
  (e:∀i t,L[i]?=some t->step (st i)=some (if f i t≠0 then .inr (yes i (f i t))else .inl (st (i+1)))) (g:step (st L.length)=some (.inr no)):
  ∀(r i:Nat),i+r=L.length->∀N,r<N->au step N (st i)=some (match nP f i (L.drop i)with | some p=>yes p.1 p.2 | none=>no):=by
 intro r
 induction r with
 | zero=>
  intro i hi N c;obtain⟨N,rfl⟩:∃k,N=k+1:=⟨N - 1,by omega⟩;rw[au,show i=L.length by omega,g,vd];rfl
 | succ r ih=>
  intro i hi N c;obtain⟨N,rfl⟩:∃k,N=k+1:=⟨N - 1,by omega⟩;have a:i<L.length:=by omega
  have d:L[i]?=some L[i]:=bf a;rw[au,e i _ d,qQ a,nP];by_cases b:f i L[i]≠0
  ·rw[ae b,ae b]
  ·rw[ab b,ab b];exact ih (i+1) (by omega) N (by omega)
abbrev rT(t:TI):Bool:=(d8 t).2.2.1
abbrev iT(t:TI):TD:=(d8 t).2.2.2
def smI(t:TI):Prop:=smT (iF t)/\smT (iT t)
noncomputable def itI(t:TI)(all:Bool):Int:=itE (iF t) (rT t) (iT t) all
noncomputable def endB(t:TI):Bool:=!rT t&&plT (iF t)
noncomputable def errI(K:Int)(e l:Bool)(n i:Nat)(t:TI):Int:=
 if itI t (K==4)≠0 then itI t (K==4)else if(e&&decide (i=0))&&!endB t||((l&&decide (i+1=n))&&!endB t||(e&&(l&&decide (n=1))))then 10 else 0
noncomputable def ve(K:Int)(e l:Bool)(L:List TI):Int×Int:=match nP (errI K e l L.length) 0 L with
 | some p=>((p.1:Int),p.2)
 | none=>(0,0)
def sG{i:Nat}(h:i<9223372036854775807):w64 ((i:Int)+1)=((i+1:Nat):Int):=by
 show wrap .i64 _=_;rw[wrap_i64 _ (by omega) (by omega)];omega
def EE{i:Nat}(a:0<i)(h:i<9223372036854775807):w64 ((i:Int) - 1)=((i - 1:Nat):Int):=by
 show wrap .i64 _=_;rw[wrap_i64 _ (by omega) (by omega)];omega
def natB(a b:Nat):(((a:Nat):Int)==((b:Nat):Int))=decide (a=b):=by
 by_cases h:a=b
 ·subst h;simp
 ·rw[am h];simp;omega
def Ld(a:Nat):(((a:Nat):Int)==0)=decide (a=0):=natB a 0
def UY{x y:TD}(r:Bool)(hx:smT x):nu 20000000 x r y=some (!r&&plT x):=by
 unfold nu;rw[A5 hx];cases r<;>rfl
def Nr{K:Int}(m:K=3\/K=4){e l:Bool}{L:List TI}{i:Nat}{t:TI}(hi:L[i]?=some t)(hs:smI t)(o:L.length<=1000000)(D:TD)(KF:Int)(DF:TD)(KT:Int)(DT:TD):
  iM 20000000 (itI t (K==4)) 10 10 10 (iF t) (rT t) (iT t) K D KF DF KT DT e l (i:Int) (w64 (len L - 1)) L=some (errI K e l L.length i t):=by
 have k:i<L.length:=(rW.1 hi).1;have d:w64 (len L - 1)=((L.length - 1:Nat):Int):=EE (by omega) (by omega);have g:fX 20000000 (iF t) (rT t) (iT t) K=some (itI t (K==4)):=by
  rw[Eg _ hs.1 hs.2,ae m];rfl
 unfold iM uc tV t8 tW errI;rw[g,d];simp only[UY (rT t) hs.1,ob,Ld,natB];have j:decide (i=L.length - 1)=decide (i+1=L.length):=by congr 1;exact propext (by omega)
 have n:decide (L.length - 1=0)=decide (L.length=1):=by congr 1;exact propext (by omega)
 rw[j,n];show cond (itI t (K==4) != 0) _ _=_;by_cases f:itI t (K==4)=0
 ·rw[ab (λh=>h f),show(itI t (K==4) != 0)=false from by simp[f],af];show _=some (if((e&&decide (i=0))&&!endB t||((l&&decide (i+1=L.length))&&!endB t||(e&&(l&&decide (L.length=1)))))=true then 10 else 0);unfold endB;generalize(!rT t&&plT (iF t))=z;generalize decide (i=0)=a;generalize decide (i+1=L.length)=b;generalize decide (L.length=1)=c;cases e<;>cases l<;>cases z<;>cases a<;>cases b<;>cases c<;>rfl
 ·rw[ae f,show(itI t (K==4) != 0)=true from by simp[f],aj]
def OK {K:Int} (g:K=3\/K=4) {e l:Bool} {L:List TI} (hs:∀t∈L,smI t) (j:L.length<=1000000) (D:TD) (KF:Int) (DF:TD) (KT:Int) (DT:TD):
  nL 20000000 K D KF DF KT DT e l L=some (ve K e l L):=by
 have:=ur (step:=gk 20000000) (st:=λi=>(len L,(i:Int),L,K,D,KF,DF,KT,DT,e,l,w64 (len L - 1))) (L:=L) (f:=errI K e l L.length) (yes:=λi q=>.inl ((i:Int),q)) (no:=.inr ())
  (λi t hi=>by
   have c:i<L.length:=(rW.1 hi).1;have a:=hs t (fG hi);have d:fX 20000000 (iF t) (rT t) (iT t) K=some (itI t (K==4)):=by
    rw [Eg _ a.1 a.2,ae g];rfl
   unfold gk;simp only [u12,u11,u10,u9,u8,u7,u6,u5,u4,u3,u2];rw [aq (show (i:Int)<len L by unfold len;omega),dW c];simp only [aj,ob,hi];rw [show fX 20000000 (iF t) (d8 t).2.2.1 (d8 t).2.2.2 K=some (itI t (K==4)) from d];simp only;rw [show iM 20000000 (itI t (K==4)) 10 10 10 (iF t) (d8 t).2.2.1 (d8 t).2.2.2 K D KF DF KT DT e l (i:Int) (w64 (len L - 1)) L=some (errI K e l L.length i t) from Nr g hi a j D KF DF KT DT];simp only;rw [sG (by omega)];by_cases b:errI K e l L.length i t=0
   ·rw [ab (λh=>h b),show (errI K e l L.length i t != 0)=false from by simp [b]];rfl
   ·rw [ae b,show (errI K e l L.length i t != 0)=true from by simp [b]];rfl)
  (by
   unfold gk;simp only [u12,u11,u10,u9,u8,u7,u6,u5,u4,u3,u2];rw [am (show ¬((L.length:Nat):Int)<len L by unfold len;omega)];rfl)
  L.length 0 (by omega) 20000000 (by omega)
 unfold nL ve;rw [bI] at this;show obs (au (gk 20000000) 20000000 (len L,((0:Nat):Int),L,K,D,KF,DF,KT,DT,e,l,w64 (len L - 1))) _ _=_;rw [this];cases nP (errI K e l L.length) 0 L<;>rfl
noncomputable def sT(K:Int)(x:TD):Int:=chkB K x.1 x.2.1 x.2.2.1 x.2.2.2.1 x.2.2.2.2.1 x.2.2.2.2.2.1 x.2.2.2.2.2.2.1 x.2.2.2.2.2.2.2.1 x.2.2.2.2.2.2.2.2.1 x.2.2.2.2.2.2.2.2.2
noncomputable def og(K:Int)(x:TD)(a:Int)(y:TD):Int:=Ez (sT K x) (sT a y) K a (dyT x).1 (dyT y).2
def Lx{x y:TD}(hx:smT x)(hy:smT y)(K a:Int):ap10 (ap10 (gv 20000000 K) x a) y=some (og K x a y):=
 Tf hx.1 hx.2.1 hx.2.2.1 hx.2.2.2.1 hx.2.2.2.2.1 hx.2.2.2.2.2 hy.1 hy.2.1 hy.2.2.1 hy.2.2.2.1 hy.2.2.2.2.1 hy.2.2.2.2.2
def MN{x y:TD}(hx:smT x)(hy:smT y)(K a:Int):ap10 (ap10 (eC 20000000 K) x a) y=some (og K x a y):=
 O0 hx.1 hx.2.1 hx.2.2.1 hx.2.2.2.1 hx.2.2.2.2.1 hx.2.2.2.2.2 hy.1 hy.2.1 hy.2.2.1 hy.2.2.2.1 hy.2.2.2.2.1 hy.2.2.2.2.2
def unuB(K:Int)(D:TD)(KF:Int)(DF:TD)(KT:Int)(DT:TD)(e l:Bool)(n:Nat):Bool:=
 !(K==1||eqD D d0)||(!(K==2||((KF==0)&&((eqD DF d0)&&true))&&((KT==0)&&((eqD DT d0)&&true)))||!(K==3||(K==4||(decide (n=0)&&(!e&&!l)))))
def Nx(n:Nat)(K:Int)(D:TD)(KF:Int)(DF:TD)(KT:Int)(DT:TD)(e l:Bool)(L:List TI):
  my n K D KF DF KT DT e l L=some (unuB K D KF DF KT DT e l L.length):=by
 unfold my unuB;rw[show(len L==0)=decide (L.length=0)from Ld _];generalize eqD D d0=a;generalize((KF==0)&&((eqD DF d0)&&true))=z1;generalize((KT==0)&&((eqD DT d0)&&true))=z2;generalize decide (L.length=0)=b;generalize(K==1)=k1;generalize(K==2)=k2;generalize(K==3)=c;generalize(K==4)=k4;revert a z1 z2 b k1 k2 c k4 e l;decide +kernel
noncomputable def kx(K:Int)(D:TD)(KF:Int)(DF:TD)(KT:Int)(DT:TD)(e l:Bool)(L:List TI):Int×Int:=
 if K<1\/4<K then(0,18)else if unuB K D KF DF KT DT e l L.length=true then(0,5)else if K=1 then(0,cF D)else if K=2 then(0,og KF DF KT DT)else if L.length=0 then(0,17)else if 256<L.length then(0,3)else ve K e l L
def smE(D DF DT:TD)(L:List TI):Prop:=smT D/\smT DF/\smT DT/\∀t∈L,smI t
def F7{K:Int}{D:TD}{KF:Int}{DF:TD}{KT:Int}{DT:TD}{e l:Bool}{L:List TI}(h:smE D DF DT L):
  lC 20000000 K D KF DF KT DT e l L=some (kx K D KF DF KT DT e l L):=by
 obtain⟨i,f,g,j⟩:=h;unfold lC kx;by_cases a:K<1
 ·rw[aq a,ae (.inl a)];rfl
 by_cases c:4<K
 ·rw[am a,show decide (K>4)=true from aq c,ae (.inr c)];rfl
 rw[am a,show decide (K>4)=false from am c,ab (by omega),Nx];simp only[af,ob];cases unuB K D KF DF KT DT e l L.length
 ·simp only[af,bj,az];by_cases k1:K=1
  ·rw[ae k1,show(K==1)=true from by simp[k1],fcT i];rfl
  by_cases k2:K=2
  ·rw[ab k1,ae k2,show(K==1)=false from by simp[k1],show(K==2)=true from by simp[k2],Lx f g];rfl
  rw[ab k1,ab k2,show(K==1)=false from by simp[k1],show(K==2)=false from by simp[k2]];simp only[af];rw[show(len L==0)=decide (L.length=0)from Ld _];by_cases b:L.length=0
  ·rw[aq b,ae b];rfl
  rw[am b,ab b];by_cases d:256<L.length
  ·rw[show decide (len L>256)=true from aq (by show(256:Int)<((L.length:Nat):Int);omega),ae d];rfl
  rw[show decide (len L>256)=false from am (by show¬(256:Int)<((L.length:Nat):Int);omega),ab d,OK (by omega) j (by omega)];rfl
 ·rfl
def RA(n:Nat)(i:Int)(L:List TI)(K:Int)(D:TD)(KF:Int)(DF:TD)(KT:Int)(DT:TD)(e l:Bool)(x:TD)(r:Bool)(y:TD):
  gK n i L K D KF DF KT DT e l x r y=some (i,e&&(i==0),l&&(i==w64 (len L - 1)),L,K,D,KF,DF,KT,DT,e,l,x,r,y):=by
 unfold gK;cases e<;>cases l<;>rfl
def SY(i:Int)(a b:Bool)(L:List TI)(K:Int)(D:TD)(KF:Int)(DF:TD)(KT:Int)(DT:TD)(e l:Bool)(x:TD)(r:Bool)(y:TD)(hx:smT x):
  gN 20000000 i a b L K D KF DF KT DT e l x r y=some (i,(a&&b)||((a||b)&&(r||!plT x)),L,K,D,KF,DF,KT,DT,e,l):=by
 unfold gN;rw[sN hx];cases a<;>cases b<;>cases r<;>cases plT x<;>rfl
def MQ {K:Int} (w:K=3\/K=4) {e l:Bool} {L:List TI} (hs:∀t∈L,smI t) (x:L.length<=1000000) (D:TD) (KF:Int) (DF:TD) (KT:Int) (DT:TD):
  au (dY 20000000) 20000000 (0,L,K,D,KF,DF,KT,DT,e,l)=some (match nP (errI K e l L.length) 0 L with | some p=>.inl ((p.1:Int),p.2) | none=>.inr ()):=by
 have:=ur (step:=dY 20000000) (st:=λi=>((i:Int),L,K,D,KF,DF,KT,DT,e,l)) (L:=L) (f:=errI K e l L.length) (yes:=λi q=>.inl ((i:Int),q)) (no:=.inr ())
  (λi t hi=>by
   have m:i<L.length:=(rW.1 hi).1;have d:=hs t (fG hi);have n:jk 20000000 (iF t) (d8 t).2.2.1 (d8 t).2.2.2 (K==4)=some (itI t (K==4)):=H8 _ _ d.1 d.2;have g:w64 (len L - 1)=((L.length - 1:Nat):Int):=EE (by omega) (by omega);unfold dY;simp only [u15,u14,u13,u12,u11,u10,u9,u8,u7,u6,u5,u4,u3,u2];rw [aq (show (i:Int)<len L by unfold len;omega),dW m];simp only [aj,ob,hi,n];by_cases k:itI t (K==4)=0
   ·rw [show (itI t (K==4) != 0)=false from by simp [k],af];simp only [RA,g,Ld,natB,u15,u14,u13,u12,u11,u10,u9,u8,u7,u6,u5,u4,u3,u2];rw [SY _ _ _ _ _ _ _ _ _ _ _ _ _ _ _ d.1];simp only [u11,u10,u9,u8,u7,u6,u5,u4,u3,u2];have o:decide (i=L.length - 1)=decide (i+1=L.length):=by congr 1;exact propext (by omega)
    have u:(decide (i=0)&&decide (i+1=L.length))=(decide (L.length=1)&&decide (i=0)):=by
     by_cases j:i=0
     ·subst j;rw [aq rfl,nO,Dk];congr 1;exact propext (by omega)
     ·rw [am j,wN];rfl
    have s:decide (L.length=1)=true->decide (i=0)=true:=λh=>aq (by have:=of_decide_eq_true h;omega);have v:errI K e l L.length i t=if ((e&&decide (i=0))&&(l&&decide (i+1=L.length)))||(((e&&decide (i=0))||(l&&decide (i+1=L.length)))&&(rT t||!plT (iF t))) then 10 else 0:=by
     unfold errI endB;rw [k,ab (λh=>h rfl)];congr 1;revert u s;generalize rT t=r;generalize plT (iF t)=z;generalize decide (i=0)=a;generalize decide (i+1=L.length)=b;generalize decide (L.length=1)=c;cases e<;>cases l<;>cases z<;>cases r<;>cases a<;>cases b<;>cases c<;>simp
    rw [o,sG (by omega),v];generalize (((e&&decide (i=0))&&(l&&decide (i+1=L.length)))||(((e&&decide (i=0))||(l&&decide (i+1=L.length)))&&(rT t||!plT (iF t))))=z;cases z<;>rfl
   ·have:errI K e l L.length i t=itI t (K==4):=ae k;rw [show (itI t (K==4) != 0)=true from by simp [k],aj,this,ae k])
  (by
   unfold dY;simp only [u15,u14,u13,u12,u11,u10,u9,u8,u7,u6,u5,u4,u3,u2];rw [am (show ¬((L.length:Nat):Int)<len L by unfold len;omega)];rfl)
  L.length 0 (by omega) 20000000 (by omega)
 rw [bI] at this;exact this
def EO{K:Int}{D:TD}{KF:Int}{DF:TD}{KT:Int}{DT:TD}{e l:Bool}{L:List TI}(h:smE D DF DT L):
  fZ 20000000 K D KF DF KT DT e l L=some (kx K D KF DF KT DT e l L):=by
 obtain⟨n,j,m,p⟩:=h;have j3:io 20000000 L K D KF DF KT DT e l=some (K==3||K==4,L,K,D,KF,DF,KT,DT,e,l):=by
  unfold io;cases(K==3)<;>rfl
 have j4:iu 20000000 (K==3||K==4) L K D KF DF KT DT e l=some (K==3||K==4,!(K==1)&&(!(K==2)&&!(K==3||K==4)),L,K,D,KF,DF,KT,DT,e,l):=by
  unfold iu;rw[show(K != 1)=!(K==1)from rfl,show(K != 2)=!(K==2)from rfl];cases(K==1)<;>cases(K==2)<;>rfl
 have j7:ib 20000000 (K==3||K==4) L K D KF DF KT DT e l=some (unuB K D KF DF KT DT e l L.length,L,K,D,KF,DF,KT,DT,e,l):=by
  unfold ib unuB;have a:decide (len L>0)=!decide (L.length=0):=by
   by_cases g:L.length=0
   ·rw[aq g,am (by unfold len;omega)];rfl
   ·rw[am g,aq (by unfold len;omega)];rfl
  rw[show(K != 1)=!(K==1)from rfl,show(K != 2)=!(K==2)from rfl,a];generalize eqD D d0=k;generalize((KF==0)&&((eqD DF d0)&&true))=z1;generalize((KT==0)&&((eqD DT d0)&&true))=z2;generalize decide (L.length=0)=i;generalize(K==1)=k1;generalize(K==2)=k2;generalize(K==3)=o;generalize(K==4)=k4;cases k<;>cases z1<;>cases z2<;>cases i<;>cases k1<;>cases k2<;>cases o<;>cases k4<;>cases e<;>cases l<;>rfl
 unfold fZ kx;rw[j3];simp only[ob,u11,u10,u9,u8,u7,u6,u5,u4,u3,u2,j4];by_cases f:K<1\/4<K
 ·rw[ae f,show(K==1)=false from by simp;omega,show(K==2)=false from by simp;omega,show(K==3)=false from by simp;omega,show(K==4)=false from by simp;omega];rfl
 have c:(!(K==1)&&(!(K==2)&&!(K==3||K==4)))=false:=by
  rcases(by omega:K=1\/K=2\/K=3\/K=4)with rfl | rfl | rfl | rfl<;>rfl
 rw[ab f,c];simp only[af,j7];cases unuB K D KF DF KT DT e l L.length
 ·simp only[af,bj,az];by_cases k1:K=1
  ·rw[ae k1,show(K==1)=true from by simp[k1],rcT n];rfl
  by_cases k2:K=2
  ·rw[ab k1,ae k2,show(K==1)=false from by simp[k1],show(K==2)=true from by simp[k2],MN j m];rfl
  rw[ab k1,ab k2,show(K==1)=false from by simp[k1],show(K==2)=false from by simp[k2]];simp only[af];rw[show(len L==0)=decide (L.length=0)from Ld _];by_cases b:L.length=0
  ·rw[aq b,ae b];rfl
  rw[am b,ab b];by_cases d:256<L.length
  ·rw[show decide (len L>256)=true from aq (by show(256:Int)<((L.length:Nat):Int);omega),ae d];rfl
  rw[show decide (len L>256)=false from am (by show¬(256:Int)<((L.length:Nat):Int);omega),ab d,af,af,MQ (by omega) p (by omega)];unfold ve;cases nP (errI K e l L.length) 0 L<;>rfl
 ·rfl
def yG{A:Type}{f:Nat->A->Int}:∀{L:List A} {k:Nat},(∀i t,L[i]?=some t->f (k+i) t=0)->nP f k L=none
 | [],_,_=>rfl
 | t::r,k,h=>by
  have a:=h 0 t rfl;rw[cG]at a;rw[nP,ab (λh=>h a)];exact yG λi u b=>by rw[gX,pD 1 i];exact h (i+1) u b
structure RightE(k:Int)(D:TD)(KF:Int)(DF:TD)(KT:Int)(DT:TD)(e l:Bool)(I:List TI):Prop where
 sm:smE D DF DT I
 first:kx k D KF DF KT DT e l I=(0,0)
 len:I.length<=5
 kind:1<=k/\k<=4
 its:∀t∈I,itI t (k==4)=0
def CS{x:TD}(hs:smT x)(hc:cF x=0):RightE 1 x 0 d0 0 d0 false false []:=by
 refine⟨⟨hs,lh,lh,λt a=>by cases a⟩,?_,by simp,by omega,by simp⟩;have c:eqD d0 d0=true:=kj.2 rfl;have b:unuB 1 x 0 d0 0 d0 false false ([]:List TI).length=false:=by unfold unuB;rw[c];rfl
 unfold kx;rw[ab (by omega),ab (by rw[b];simp),ae rfl,hc]
def yz{KF KT:Int}{x y:TD}(hx:smT x)(hy:smT y)(h:og KF x KT y=0):RightE 2 d0 KF x KT y false false []:=by
 refine⟨⟨lh,hx,hy,λt a=>by cases a⟩,?_,by simp,by omega,by simp⟩;have c:eqD d0 d0=true:=kj.2 rfl;have b:unuB 2 d0 KF x KT y false false ([]:List TI).length=false:=by unfold unuB;rw[c];rfl
 unfold kx;rw[ab (by omega),ab (by rw[b];simp),ab (by omega),ae rfl,h]
def Fz(x:TD):sT 1 x=if cF x=0 then if exT x=true then 0 else 11 else cF x:=by
 unfold sT chkB;rw[ae rfl];rfl
def Fq{x:TD}(h:sT 1 x=0):cF x=0/\exT x=true:=by
 rw[Fz]at h;by_cases hc:cF x=0
 ·rw[ae hc]at h;by_cases a:exT x=true
  ·exact⟨hc,a⟩
  ·rw[ab a]at h;cases h
 ·rw[ab hc]at h;exact absurd h hc
def HU{x:TD}(hc:cF x=0)(a:exT x=true):sT 1 x=0:=by
 rw[Fz,ae hc,ae a]
def MY{KF KT:Int}{x y:TD}(a:sT KF x=0)(b:sT KT y=0):og KF x KT y=if KF≠1/\KT≠1 then 11 else if KF≠1\/KT≠1 then 0 else if(dyT x).1>(dyT y).2 then 11 else 0:=by
 unfold og Ez;rw[a,b,ab (λh=>h rfl),ab (λh=>h rfl)]
noncomputable instance decTI:DecidableEq TI:=λa b=>Classical.propDecidable (a=b)
def Np{t u:TI}:((eqD (iF t) (iF u))&&(((d8 t).2.2.1==(d8 u).2.2.1)&&((eqD (d8 t).2.2.2 (d8 u).2.2.2)&&true)))=decide (t=u):=by
 rw[r7,EV];have hs:∀a b c:Bool,(a&&(b&&(c&&true)))=true↔a=true/\b=true/\c=true:=by decide
 rw[hs,kj,kj,bu];obtain⟨a1,a2,s,x,p,i,r,w,m,e,b,c⟩:=t;obtain⟨k,y,o,n,v,l,j,q,h,d,f,g⟩:=u;simp only[bm,and_assoc]
noncomputable def difI(J:List TI)(i:Nat)(t:TI):Int:=if J[i]?=some t then 0 else 1
def MB{J:List TI}:∀(I:List TI) (i:Nat),i+I.length=J.length->(nP (difI J) i I=none↔I=J.drop i)
 | [],i,h=>by
  rw[nP,iU (by simp at h;omega)];simp
 | t::r,i,h=>by
  have hi:i<J.length:=by simp at h;omega
  have b:J[i]?=some J[i]:=bf hi;rw[nP,qQ hi];unfold difI;by_cases a:J[i]?=some t
  ·rw[ae a,ab (by simp)];have:=MB (J:=J) r (i+1) (by simp at h;omega);unfold difI at this;rw[this];rw[b]at a;simp only[ar]at a;simp[a]
  ·rw[ab a,ae (by simp)];rw[b]at a;simp only[ar]at a;simp only[Nu];constructor
   ·intro h;cases h
   ·rintro⟨h,_⟩;exact absurd h.symm a
def NI(I J:List TI)(h:I.length=J.length){A:Type}(a b:A):(match nP (difI J) 0 I with | some _=>a | none=>b)=if I=J then b else a:=by
 have:=MB (J:=J) I 0 (by omega);rw[bI]at this;cases hs:nP (difI J) 0 I with
 | none=>rw[ae (this.1 hs)]
 | some p=>rw[ab (λh=>by rw[this.2 h]at hs;cases hs)]
def Br{I J:List TI}(h:I.length=J.length)(hn:I.length<=1000000)(k:Int)(D:TD)(KF:Int)(DF:TD)(KT:Int)(DT:TD)(e l:Bool)(k':Int)(D':TD)(KF':Int)(DF':TD)(KT':Int)(DT':TD)(e' l':Bool):
  au (dK 20000000) 20000000 (0,I,J,k,D,KF,DF,KT,DT,e,l,k',D',KF',DF',KT',DT',e',l')=some (if I=J then .inr ()else .inl 0):=by
 have e2:(match nP (difI J) 0 I with | some p=>(.inl 0:Int⊕Unit) | none=>.inr ())=if I=J then .inr ()else .inl 0:=NI I J h _ _
 rw[<-e2];have:=ur (step:=dK 20000000) (st:=λi=>((i:Int),I,J,k,D,KF,DF,KT,DT,e,l,k',D',KF',DF',KT',DT',e',l')) (L:=I) (f:=difI J) (yes:=λ_ _=>.inl (0:Int)) (no:=.inr ()) ?_ ?_ I.length 0 (by omega) 20000000 (by omega)
 ·rw[bI]at this;exact this
 ·intro i t ht;have hi:i<I.length:=(rW.1 ht).1;have hj:J[i]?=some (J[i]'(by omega)):=bf (by omega);generalize J[i]'(by omega)=u at hj;unfold dK;simp only[u19,u18,u17,u16,u15,u14,u13,u12,u11,u10,u9,u8,u7,u6,u5,u4,u3,u2];rw[aq (show(i:Int)<len I by show(i:Int)<((I.length:Nat):Int);omega),dW hi,dW (show i<J.length by omega)];simp only[aj,ob,ht,hj,Np];rw[sG (by omega)];unfold difI;rw[hj];by_cases he:t=u
  ·rw[aq he,ab (by simp[he])];rfl
  ·rw[am he,ae (by simp only[ar];rw[ab (λh=>he h.symm)];simp)];rfl
 ·unfold dK;simp only[u19,u18,u17,u16,u15,u14,u13,u12,u11,u10,u9,u8,u7,u6,u5,u4,u3,u2];rw[am (show¬((I.length:Nat):Int)<len I by show¬((I.length:Nat):Int)<((I.length:Nat):Int);omega)];rfl
def BH(n:Nat)(t S R:aa)(a:Int)(m:t.length<4611686018427387904)(p:t.length<n):
  au (dX n) n (t,0,R,S,a)=some (((lcp R t:Nat):Int),S,a):=by
 have:=fK (step:=dX n)
  (λx=>∃j:Nat,j<=t.length/\x=(t,(j:Int),R,S,a)) (λx=>t.length - x.2.1.toNat)
  (λx=>(((x.2.1.toNat+lcp (R.drop x.2.1.toNat) (t.drop x.2.1.toNat):Nat):Int),S,a)) ?_ n (t,0,R,S,a) ⟨0,by omega,rfl⟩ (by simp;omega)
 ·simpa using this
 rintro x ⟨j,o,rfl⟩;simp only[ch,dX,Q9];by_cases f:j<t.length/\j<R.length
 ·obtain⟨h,k⟩:=f;obtain⟨c,hc⟩:∃c,t[j]?=some c:=⟨t[j],bf h⟩;obtain⟨d,hd⟩:∃d,R[j]?=some d:=⟨R[j],bf k⟩;have e:wrap .i64 ((j:Int)+1)=((j+1:Nat):Int):=by rw[wrap_i64 _ (by omega) (by omega)];omega
  have g:(decide ((j:Int)<((min t.length R.length:Nat):Int)))=true:=by simp only[cr];omega
  have b:(decide ((j:Int)<((min R.length t.length:Nat):Int)))=true:=by simp only[cr];omega
  simp only[g,b,aj,dE hc,dE hd,ob,nM,bR hc,bR hd,lcp];cases l:d==c with
  | true=>
   refine .inl ⟨_,rfl,⟨j+1,by omega,by rw[e]⟩,?_,?_⟩
   ·simp only[e,ch];omega
   ·simp only[e,ch,bm,wh,aG];omega
  | false=>exact .inr (by simp)
 ·have g:(decide ((j:Int)<((min t.length R.length:Nat):Int)))=false:=by simp only[uj];omega
  have b:(decide ((j:Int)<((min R.length t.length:Nat):Int)))=false:=by simp only[uj];omega
  refine .inr ?_;have i:lcp (R.drop j) (t.drop j)=0:=by
   by_cases h:j<t.length
   ·rw[iU (show R.length<=j by omega)];rfl
   ·rw[iU (show t.length<=j by omega)];cases R.drop j<;>rfl
  simp only[g,b,i,af,cG]
def Ap(n:Nat)(t S:aa)(a:Nat)(h:a<=S.length)(e:S.length<4611686018427387904)(c:t.length<4611686018427387904)(f:t.length<n):
  bW n t S (a:Int)=some (if(S.drop a).take t.length=t then .inl (S,((a+t.length:Nat):Int))else .inr (((a+lcp (S.drop a) t:Nat):Int),5,S,(a:Int))):=by
 have b:=xT (S.drop a) t;rw[ba]at b;simp only[bW,nh n t S a h e,ob];by_cases hp:(S.drop a).take t.length=t
 ·simp[hp]
 ·have d:wrap .i64 ((a:Int)+((lcp (S.drop a) t:Nat):Int))=((a+lcp (S.drop a) t:Nat):Int):=by rw[wrap_i64 _ (by omega) (by omega)];omega
  simp only[hp,az,af,tX n S a h,BH n t S (S.drop a) (a:Int) c f,C3,d,vN];simp
end Go.Sh
