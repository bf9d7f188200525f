
import Derived.Test.YtibehcmomiplnaaGreatDoorLawSra
set_option linter.unusedVariables false
set_option linter.unusedSimpArgs false
set_option maxRecDepth 100000
open Go.IntKind(wrap)
set_option linter.defProp false
namespace Go.Sh
open Go.Abs
def C9(d:aa)(k q:Nat):Nat×Nat:=if 0<q then(val d k / 10 ^ (d.length+k - q)*10 ^ (d.length+k - q),min (val d k / 10 ^ (d.length+k - q)*10 ^ (d.length+k - q)+10 ^ (d.length+k - q) - 1) E16)else(val d k,val d k)
def sgn(g:Bool)(p:Nat×Nat):Int×Int:=if g then(-(p.2:Int),-(p.1:Int))else((p.1:Int),(p.2:Int))
def Ef(n:Nat)(g l:Bool)(d:aa)(k q:Nat)(D:200<n)(x:d.length<=100)(e:Num d k q):
  aP n g l d (k:Int) (q:Int)=some (sgn g (C9 d k q)):=by
 have B:=e.wide;have hs:=e.small;have C:=e.sig;unfold aP;rw[pW n g l d k q (by omega) (by omega),uY e.dig,jW n d k e.dig x (by omega) (by omega),af hs];have z:dval 0 d*10 ^ k=val d k:=rfl;rw[z]at hs ⊢;unfold E16 at hs;have f:((if false=true then(1:Int)else 0)==1)=false:=rfl;simp only[ob,f,ah];by_cases m:0<q
 ·have h:decide ((q:Int)>0)=true:=au (by omega);have w0:wrap .i64 (wrap .i64 (((d.length:Nat):Int)+(k:Int)) - (q:Int))=((d.length+k - q:Nat):Int):=by
   rw[wrap_i64 (((d.length:Nat):Int)+(k:Int)) (by omega) (by omega),wrap_i64 _ (by omega) (by omega)];omega
  have p:10 ^ (d.length+k - q)<=10 ^ 16:=lL (by decide) (by omega);have r:(10:Nat) ^ 16=10000000000000000:=by decide
  have one:dval 0 [49]=1:=by decide
  have a:dval 0 [49]*10 ^ (d.length+k - q)<=E16:=by rw[one];unfold E16;omega
  rw[h,w0,jW n [49] (d.length+k - q) (by decide) (by decide) (by omega) (by simp;omega),af a,one,xi];simp only[aj];have E:1<=10 ^ (d.length+k - q):=Br _ _ (by decide);unfold sgn C9;rw[af m];clear a;generalize 10 ^ (d.length+k - q)=u at *;generalize val d k=v at *;have d2:(((u:Nat):Int)==0)=false:=aL.2 (by omega);have b:Int.tdiv ((v:Nat):Int) ((u:Nat):Int)=((v / u:Nat):Int):=rfl;have s:v / u*u<=v:=G8 v u;have i:v / u<=v:=Hj v u;have w:wrap .i64 ((v / u:Nat):Int)=((v / u:Nat):Int):=by
   generalize v / u=t at *;exact wrap_i64 _ (by omega) (by omega)
  have y:wrap .i64 (((v / u:Nat):Int)*((u:Nat):Int))=((v / u*u:Nat):Int):=by
   rw[<-Iu];exact wrap_i64 _ (by omega) (by omega)
  rw[d2,ah,b,w,y];generalize v / u*u=lo at *;have o:wrap .i64 (wrap .i64 (((lo:Nat):Int)+((u:Nat):Int)) - 1)=((lo+u - 1:Nat):Int):=by
   rw[wrap_i64 (((lo:Nat):Int)+((u:Nat):Int)) (by omega) (by omega),wrap_i64 _ (by omega) (by omega)];omega
  rw[o];have c:(cond (decide ((10000000000000000:Int)<((lo+u - 1:Nat):Int))) (10000000000000000:Int) ((lo+u - 1:Nat):Int))=((min (lo+u - 1) E16:Nat):Int):=by
   unfold E16;by_cases j:(10000000000000000:Int)<((lo+u - 1:Nat):Int)
   ·rw[au j,aj];omega
   ·rw[aw j,ah];omega
  rw[c];have A:min (lo+u - 1) E16<=10000000000000000:=GH _ _;generalize min (lo+u - 1) E16=hi at *;cases g with
  | true=>
   simp only[aj,aQ];rw[wrap_i64 _ (by omega) (by omega),wrap_i64 _ (by omega) (by omega),AZ,AZ]
  | false=>simp
 ·have h:decide ((q:Int)>0)=false:=aw (by omega);rw[h,ah];unfold sgn C9;rw[ae m];cases g with
  | true=>
   simp only[aj,aQ];rw[wrap_i64 _ (by omega) (by omega),AZ]
  | false=>simp
def eZ(z:UInt8)(d:aa):aa:=d.map λc=>if c=88 then z else c
def jv(z:UInt8)(d:aa):(eZ z d).length=d.length:=by simp[eZ]
def rE{z:UInt8}(a:bH z=true){d:aa}(h:∀c∈d,bH c=true\/c=88):∀c∈eZ z d,bH c=true:=by
 intro c hc;obtain⟨b,e,rfl⟩:=eD.1 hc;by_cases hx:b=88
 ·rw[af hx];exact a
 ·rw[ae hx];exact(h b e).resolve_right hx
def xI{z:UInt8}{d:aa}{i:Nat}{c:UInt8}(h:d[i]?=some c):(eZ z d)[i]?=some (if c=88 then z else c):=by
 simp[eZ,h]
def ux(d:aa):Nat:=10 ^ (d.reverse.takeWhile (λc=>c != 88)).length
def lE(g:Bool)(d:aa):Nat×Nat:=(if g=true/\dval 0 (eZ 48 d)=0 then ux d else dval 0 (eZ 48 d),dval 0 (eZ 57 d))
def VJ(m:Nat):aP (m+300) true false [48,48,48,88] 0 0=some (sgn true (lE true [48,48,48,88])):=by kernel_rfl
def U1(m:Nat):aP (m+300) true false [48,48,88,48] 0 0=some (sgn true (lE true [48,48,88,48])):=by kernel_rfl
def VL(m:Nat):aP (m+300) true false [48,48,88,88] 0 0=some (sgn true (lE true [48,48,88,88])):=by kernel_rfl
def TW(m:Nat):aP (m+300) true false [48,88,48,48] 0 0=some (sgn true (lE true [48,88,48,48])):=by kernel_rfl
def Uh(m:Nat):aP (m+300) true false [48,88,48,88] 0 0=some (sgn true (lE true [48,88,48,88])):=by kernel_rfl
def TG(m:Nat):aP (m+300) true false [48,88,88,48] 0 0=some (sgn true (lE true [48,88,88,48])):=by kernel_rfl
def Vq(m:Nat):aP (m+300) true false [48,88,88,88] 0 0=some (sgn true (lE true [48,88,88,88])):=by kernel_rfl
def UL(m:Nat):aP (m+300) true false [88,48,48,48] 0 0=some (sgn true (lE true [88,48,48,48])):=by kernel_rfl
def Vu(m:Nat):aP (m+300) true false [88,48,48,88] 0 0=some (sgn true (lE true [88,48,48,88])):=by kernel_rfl
def UY(m:Nat):aP (m+300) true false [88,48,88,48] 0 0=some (sgn true (lE true [88,48,88,48])):=by kernel_rfl
def Qe(m:Nat):aP (m+300) true false [88,48,88,88] 0 0=some (sgn true (lE true [88,48,88,88])):=by kernel_rfl
def Qv(m:Nat):aP (m+300) true false [88,88,48,48] 0 0=some (sgn true (lE true [88,88,48,48])):=by kernel_rfl
def Q4(m:Nat):aP (m+300) true false [88,88,48,88] 0 0=some (sgn true (lE true [88,88,48,88])):=by kernel_rfl
def Ri(m:Nat):aP (m+300) true false [88,88,88,48] 0 0=some (sgn true (lE true [88,88,88,48])):=by kernel_rfl
def Rq(m:Nat):aP (m+300) true false [88,88,88,88] 0 0=some (sgn true (lE true [88,88,88,88])):=by kernel_rfl
def DX{d:aa}(i:d.length=4)(h:∀c∈d,bH c=true\/c=88)(j:dval 0 (eZ 48 d)=0):∀c∈d,c=48\/c=88:=by
 match d,i with
 | [a,b,c,e],_=>
  have g:=rE (z:=48) (by decide) h;have l:dval 0 (eZ 48 [a,b,c,e])=((((0*10+((if a=88 then(48:UInt8)else a).toNat - 48))*10+((if b=88 then(48:UInt8)else b).toNat - 48))*10+((if c=88 then(48:UInt8)else c).toNat - 48))*10+((if e=88 then(48:UInt8)else e).toNat - 48)):=by
   simp only[eZ,gJ,List.map_nil,pL,qM,wm]
  rw[l]at j;have key:∀x:UInt8,bH (if x=88 then(48:UInt8)else x)=true->(if x=88 then(48:UInt8)else x).toNat - 48=0->x=48\/x=88:=by
   intro x hx k;by_cases f:x=88
   ·exact .inr f
   ·rw[ae f]at hx k;have:=(ew x).1 hx;exact .inl (iL.1 (by show x.toNat=48;omega))
  simp only[eZ,gJ,List.map_nil,cN,pC,qw,Bh,forall_eq]at g ⊢;exact⟨key a g.1 (by omega),key b g.2.1 (by omega),key c g.2.2.1 (by omega),key e g.2.2.2 (by omega)⟩
def Am{d:aa}(x:d.length=4)(h:∀c∈d,c=48\/c=88)(q:hasX d=true)(P:aa->Prop)(u:P [48,48,48,88])(m:P [48,48,88,48])(v:P [48,48,88,88])(y:P [48,88,48,48])(p:P [48,88,48,88])(n:P [48,88,88,48])(o:P [48,88,88,88])(z:P [88,48,48,48])(w:P [88,48,48,88])(r:P [88,48,88,48])(f:P [88,48,88,88])(i:P [88,88,48,48])(j:P [88,88,48,88])(k:P [88,88,88,48])(g:P [88,88,88,88]):P d:=by
 match d,x with
 | [a,b,c,e],_=>
  simp only[cN,pC,qw,Bh,forall_eq]at h;obtain⟨t,s,hc,l⟩:=h;rcases t with rfl | rfl<;>rcases s with rfl | rfl<;>rcases hc with rfl | rfl<;>rcases l with rfl | rfl
  ·exact absurd q (by decide)
  ·exact u
  ·exact m
  ·exact v
  ·exact y
  ·exact p
  ·exact n
  ·exact o
  ·exact z
  ·exact w
  ·exact r
  ·exact f
  ·exact i
  ·exact j
  ·exact k
  ·exact g
def GV(n:Nat)(g l:Bool)(d:aa)(x s:Int)(p:d.length=4)(o:4<n):av (gq n) n ([],[],0,g,l,d,x,s)=some (eZ 48 d,eZ 57 d,g,l,d,x,s):=by
 refine gp (step:=gq n) (λq=>∃i:Nat,i<=4/\q=((eZ 48 d).take i,(eZ 57 d).take i,(i:Int),g,l,d,x,s)) (λq=>4 - q.2.2.1.toNat) (λ_=>(eZ 48 d,eZ 57 d,g,l,d,x,s)) ?_ n _ ⟨0,by omega,by simp⟩ (by simp;omega);rintro q ⟨i,hi,rfl⟩;rcases aN i 4 with k | h
 ·obtain⟨c,hc⟩:∃c,d[i]?=some c:=⟨d[i],bq (by omega)⟩;have f:=Vz (xI (z:=48) hc);have b:=Vz (xI (z:=57) hc);have m:decide ((i:Int)<4)=true:=au (by omega);have j:wrap .i64 ((i:Int)+1)=((i+1:Nat):Int):=by rw[wrap_i64 _ (by omega) (by omega)];omega
  refine .inl ⟨((eZ 48 d).take (i+1),(eZ 57 d).take (i+1),((i+1:Nat):Int),g,l,d,x,s),?_,⟨i+1,by omega,rfl⟩,by simp only[bX];omega,rfl⟩;simp only[gq,m,aj,j,ef (show i+1<=d.length by omega),ef (show i<=i+1 by omega),ob,cut1 hc];have a:∀z:UInt8,((eZ z d).take i).length<=4:=λz=>by rw[cS];omega
  rw[f,b];by_cases hx:c=88
  ·have e:(([c]:aa)==[88])=true:=by rw[hx];rfl
   rw[e,aj,af hx,af hx,bI (by have:=a 48;simp;omega),bI (by have:=a 57;simp;omega)]
  ·have e:(([c]:aa)==[88])=false:=by
    rw[aL];intro e;exact hx (by simpa using e)
   rw[e,ah,ae hx,ae hx,bI (by have:=a 48;simp;omega),bI (by have:=a 57;simp;omega)]
 ·have:i=4:=by omega
  subst this;refine .inr ?_;rw[jK (by rw[jv];omega),jK (by rw[jv];omega)];rfl
def J7{d:aa}(h:d=[48,48,48,48]):dval 0 d=0:=by rw[h];decide
def CZ(m:Nat)(g:Bool)(d:aa)(h:okY g false d 0 0)(k:hasX d=true):aP (m+300) g false d 0 0=some (sgn g (lE g d)):=by
 obtain⟨_,_,_,j,l⟩:=rJ h k;by_cases f:g=true/\dval 0 (eZ 48 d)=0
 ·obtain⟨rfl,f⟩:=f;exact Am j (DX j l f) k (λd=>aP (m+300) true false d 0 0=some (sgn true (lE true d))) (VJ m) (U1 m) (VL m) (TW m) (Uh m) (TG m) (Vq m) (UL m) (Vu m) (UY m) (Qe m) (Qv m) (Q4 m) (Ri m) (Rq m)
 ·have hs:lE g d=(dval 0 (eZ 48 d),dval 0 (eZ 57 d)):=by unfold lE;rw[ae f]
  have i:=rE (z:=48) (by decide) l;have c:=rE (z:=57) (by decide) l;have p:=rF (eZ 48 d) 0 0 i (by simp);have q:=rF (eZ 57 d) 0 0 c (by simp);rw[jv,j]at p q;have r:(10:Nat) ^ (4+0)=10000:=by decide
  have m1:am (m+300) (eZ 48 d) 0=some (((dval 0 (eZ 48 d):Nat):Int),1):=by
   have:=jW (m+300) (eZ 48 d) 0 i (by rw[jv];omega) (by omega) (by rw[jv];omega);rw[af (by unfold E16;simp only[BO,rr];omega)]at this;simpa using this
  have m2:am (m+300) (eZ 57 d) 0=some (((dval 0 (eZ 57 d):Nat):Int),1):=by
   have:=jW (m+300) (eZ 57 d) 0 c (by rw[jv];omega) (by omega) (by rw[jv];omega);rw[af (by unfold E16;simp only[BO,rr];omega)]at this;simpa using this
  have o:((if true=true then(1:Int)else 0)==1)=true:=rfl;have n:decide ((0:Int)>0)=false:=rfl;unfold aP;rw[pW _ g false d 0 0 (by omega) (by omega),k,GV _ g false d 0 0 j (by omega),hs];simp only[ob,aQ,BEq.rfl,aj];cases g with
  | true=>
   have e:(eZ 48 d==([48,48,48,48]:aa))=false:=by
    rw[aL];intro e;exact f ⟨rfl,J7 e⟩
   simp only[aj,e,ah,m1,m2,n,sgn,aQ];generalize dval 0 (eZ 48 d)=a at *;generalize dval 0 (eZ 57 d)=b at *;rw[wrap_i64 _ (by omega) (by omega),wrap_i64 _ (by omega) (by omega),AZ,AZ]
  | false=>simp only[ah,m1,m2,n,sgn,bU,aG]
def oz(g:Bool)(d:aa)(x s:Int):Nat×Nat:=if hasX d then lE g d else C9 d x.toNat s.toNat
def RL(m:Nat)(g l:Bool)(d:aa)(x s:Int)(e:d.length<=100)(h:okY g l d x s):aP (m+300) g l d x s=some (sgn g (oz g d x s)):=by
 unfold oz;cases a:hasX d with
 | true=>
  obtain⟨rfl,rfl,rfl,f,c⟩:=rJ h a;exact CZ m g d h a
 | false=>
  obtain⟨k,q,rfl,rfl,b⟩:=s9 h a;exact Ef _ g l d k q (by omega) e b
def VG{d:aa}{k q:Nat}(h:Num d k q):(C9 d k q).1<=val d k/\val d k<=(C9 d k q).2/\(C9 d k q).2<=E16:=by
 have hs:=h.small;have c:dval 0 d*10 ^ k=val d k:=rfl;rw[c]at hs;unfold C9;split
 ·have a:1<=10 ^ (d.length+k - q):=Br _ _ (by decide);generalize 10 ^ (d.length+k - q)=u at a ⊢;generalize val d k=v at hs ⊢;have b:=G8 v u;have e:v<v / u*u+u:=by
   have h:=Nat.div_add_mod v u;have:=rk v a;rw[vj]at h;omega
  refine⟨b,?_,GH _ _⟩;rw[Nat.le_min];omega
 ·exact⟨bg _,bg _,hs⟩
def mtk(d:aa):Nat->Nat->Bool
 | 0,_=>true
 | k+1,w=>(decide (d.getD k 0=88)||decide ((d.getD k 0).toNat=48+w%10))&&mtk d k (w / 10)
def C0(d:aa)(k w:Nat):mtk d (k+1) w=((decide (d.getD k 0=88)||decide ((d.getD k 0).toNat=48+w%10))&&mtk d k (w / 10)):=rfl
def B5{d:aa}{k:Nat}{c:UInt8}(h:d[k]?=some c):d.getD k 0=c:=by
 rw[Fo,h];rfl
def Ni(n:Nat)(g l:Bool)(d:aa)(x s:Int)(v:d.length=4):∀(k w:Nat),k<=4->w<100000000000000000->∀q,k<q->
  av (bR n) q ((w:Int),(k:Int) - 1,g,l,d,x,s)=some (if mtk d k w=true then .inr ((w / 10 ^ k:Nat):Int)else .inl 0)
 | 0,w,u,t,q,A=>by
  obtain⟨q,rfl⟩:∃p,q=p+1:=⟨q - 1,by omega⟩;have j:decide (((0:Nat):Int) - 1>=0)=false:=rfl;have h:mtk d 0 w=true:=rfl;simp only[av,bR,j,ah];rw[af h];simp
 | k+1,w,u,t,q,A=>by
  obtain⟨q,rfl⟩:∃p,q=p+1:=⟨q - 1,by omega⟩;have ih:=Ni n g l d x s v k (w / 10) (by omega) (by omega) q (by omega);obtain⟨c,hc⟩:∃c,d[k]?=some c:=⟨d[k],bq (by omega)⟩;have z:((k+1:Nat):Int) - 1=(k:Int):=by omega
  have j:decide ((k:Int)>=0)=true:=au (by omega);have o:Int.tmod (w:Int) 10=((w%10:Nat):Int):=rfl;have eq':Int.tdiv (w:Int) 10=((w / 10:Nat):Int):=rfl;have y:wrap .i64 (48+((w%10:Nat):Int))=((48+w%10:Nat):Int):=by rw[wrap_i64 _ (by omega) (by omega)];omega
  have r:wrap .u8 ((48+w%10:Nat):Int)=((48+w%10:Nat):Int):=gD _ (by omega) (by omega);have m:wrap .i64 ((w / 10:Nat):Int)=((w / 10:Nat):Int):=wrap_i64 _ (by omega) (by omega);have B:wrap .i64 ((k:Int) - 1)=(k:Int) - 1:=wrap_i64 _ (by omega) (by omega);have a:w / 10 ^ (k+1)=w / 10 / 10 ^ k:=by rw[ua,vj,Nat.div_div_eq_div_mul]
  rw[C0,B5 hc,a,z];simp only[av,bR,j,aj,lD hc,ob,o,eq',y,r,m,B];by_cases hx:c=88
  ·have b:(((c.toNat:Nat):Int) != 88)=false:=by rw[hx];rfl
   rw[b,au hx];simp only[ah,Hz,rc];exact ih
  ·have b:(((c.toNat:Nat):Int) != 88)=true:=by
    simp only[bne,kv,aL];intro e;exact hx (iL.1 (by show c.toNat=88;omega))
   rw[b,aw hx];simp only[aj,tq];by_cases f:c.toNat=48+w%10
   ·have i:(((c.toNat:Nat):Int) != ((48+w%10:Nat):Int))=false:=by rw[f];simp
    rw[i,au f];simp only[ah,rc];exact ih
   ·have i:(((c.toNat:Nat):Int) != ((48+w%10:Nat):Int))=true:=by
     simp only[bne,kv,aL];omega
    rw[i,aw f];simp only[aj,EM];rfl
def Gk(d:aa)(k q:Nat):Nat:=if 0<q then 10 ^ (d.length+k - q)else 1
def memP(d:aa)(x s:Int)(w:Nat):Prop:=if hasX d=true then mtk d 4 w=true/\w / 10 ^ 4=0 else val d x.toNat / Gk d x.toNat s.toNat=w / Gk d x.toNat s.toNat
instance (d:aa)(x s:Int)(w:Nat):Decidable (memP d x s w):=by unfold memP;infer_instance
def wOf(g:Bool)(v:Int):Int:=if g then -v else v
def inP(g:Bool)(d:aa)(x s v:Int):Prop:=-10000000000000000<=v/\v<=10000000000000000/\0<=wOf g v/\¬(hasX d=true/\g=true/\wOf g v=0)/\memP d x s (wOf g v).toNat
instance (g:Bool)(d:aa)(x s v:Int):Decidable (inP g d x s v):=by unfold inP;infer_instance
noncomputable def inT(n:Nat)(a0 a1:Bool)(a2:aa)(g h W:Int):Option Int:=
 (ob (aF n a0 a1 a2 g h) λd=>(cond (d==1) (ob (av (bR n) n (W,3,a0,a1,a2,g,h)) λe=>(Sum.casesOn (motive:=λ_=>Option _) e (λc=>(some c)) (λf=>(cond (decide (f>0)) (some 0) (some 1))))) (ob (am n a2 g) λb=>(cond (decide (h>0)) (ob (am n [49] (wrap .i64 ((wrap .i64 (((List.length a2:Nat):Int)+g)) - h))) λa=>(cond (a.1==0) none (cond (a.1==0) none (cond ((wrap .i64 (Int.tdiv b.1 a.1))==(wrap .i64 (Int.tdiv W a.1))) (some 1) (some 0))))) (cond ((wrap .i64 (Int.tdiv b.1 1))==(wrap .i64 (Int.tdiv W 1))) (some 1) (some 0))))))
def M8(a b:Nat):(((a:Nat):Int)==((b:Nat):Int))=decide (a=b):=by
 by_cases h:a=b
 ·subst h;simp
 ·rw[aw h,aL];omega
def I4{d:aa}{x s:Int}{w:Nat}(a:hasX d=true):memP d x s w↔mtk d 4 w=true/\w / 10 ^ 4=0:=by unfold memP;rw[af a]
def SD{d:aa}{x s:Int}{w:Nat}(a:hasX d=false):memP d x s w↔val d x.toNat / Gk d x.toNat s.toNat=w / Gk d x.toNat s.toNat:=by unfold memP;rw[ae (by rw[a];simp)]
def in_T(m:Nat){g l:Bool}{d:aa}{x s:Int}(j:okY g l d x s)(w:Nat)(R:w<=10000000000000000):inT (m+300) g l d x s (w:Int)=some (if memP d x s w then 1 else 0):=by
 have K:=jb j;have G:=pW (m+300) g l d x s (by omega) (by omega);unfold inT;cases h:hasX d with
 | true=>
  obtain⟨rfl,rfl,rfl,O,_⟩:=rJ j h;have E:=Ni (m+300) g false d 0 0 O 4 w (by omega) (by omega) (m+300) (by omega);have hlp':av (bR (m+300)) (m+300) ((w:Int),3,g,false,d,0,0)=_:=E;have F:((1:Int)==1)=true:=rfl;have o:aF (m+300) g false d 0 0=some 1:=by rw[G,h];rfl
  rw[o];simp only[ob,F,aj,hlp'];by_cases y:mtk d 4 w=true
  ·rw[af y];by_cases z:w / 10 ^ 4=0
   ·have e:decide (((w / 10 ^ 4:Nat):Int)>0)=false:=aw (by rw[z];decide);rw[af ((I4 h).2 ⟨y,z⟩)];simp only[e,ah]
   ·have e:decide (((w / 10 ^ 4:Nat):Int)>0)=true:=au (by
     generalize w / 10 ^ 4=t at z ⊢;omega)
    rw[ae (λq=>z ((I4 h).1 q).2)];simp only[e,aj]
  ·rw[ae y,ae (λq=>y ((I4 h).1 q).1)]
 | false=>
  obtain⟨k,q,rfl,rfl,A⟩:=s9 j h;have hw':=A.wide;have hs:=A.small;have S:=A.sig;have J:dval 0 d*10 ^ k=val d k:=rfl;have H:=jW (m+300) d k A.dig (by omega) (by omega) (by omega);rw[af hs,J]at H;rw[J]at hs;unfold E16 at hs;have B:((0:Int)==1)=false:=rfl;have o:aF (m+300) g l d k q=some 0:=by rw[G,h];rfl
  have c:=SD (x:=(k:Int)) (s:=(q:Int)) (w:=w) h;rw[bX,bX]at c;unfold Gk at c;rw[o];simp only[ob,B,ah,H];by_cases I:0<q
  ·have C:decide ((q:Int)>0)=true:=au (by omega);have w0:wrap .i64 (wrap .i64 (((d.length:Nat):Int)+(k:Int)) - (q:Int))=((d.length+k - q:Nat):Int):=by
    rw[wrap_i64 (((d.length:Nat):Int)+(k:Int)) (by omega) (by omega),wrap_i64 _ (by omega) (by omega)];omega
   have D:10 ^ (d.length+k - q)<=10 ^ 16:=lL (by decide) (by omega);have L:(10:Nat) ^ 16=10000000000000000:=by decide
   have one:dval 0 [49]=1:=by decide
   have i:dval 0 [49]*10 ^ (d.length+k - q)<=E16:=by rw[one];unfold E16;omega
   have n:=jW (m+300) [49] (d.length+k - q) (by decide) (by decide) (by omega) (by simp;omega);rw[af i,one,xi]at n;have N:1<=10 ^ (d.length+k - q):=Br _ _ (by decide);rw[C,w0,n];rw[af I]at c;clear i n;generalize 10 ^ (d.length+k - q)=u at N D c ⊢;generalize val d k=v at hs c ⊢;have d2:(((u:Nat):Int)==0)=false:=aL.2 (by omega);have p:Int.tdiv ((v:Nat):Int) ((u:Nat):Int)=((v / u:Nat):Int):=rfl;have r:Int.tdiv ((w:Nat):Int) ((u:Nat):Int)=((w / u:Nat):Int):=rfl;have P:v / u<=v:=Hj v u;have M:w / u<=w:=Hj w u;simp only[aj,d2,ah,p,r];generalize v / u=a at P c ⊢;generalize w / u=b at M c ⊢;rw[wrap_i64 _ (by omega) (by omega),wrap_i64 _ (by omega) (by omega),M8];by_cases f:a=b
   ·rw[au f,af (c.2 f)];rfl
   ·rw[aw f,ae (λq=>f (c.1 q))];rfl
  ·have C:decide ((q:Int)>0)=false:=aw (by omega);have Q:∀a:Nat,Int.tdiv ((a:Nat):Int) 1=((a:Nat):Int):=λa=>by
    have:Int.tdiv ((a:Nat):Int) 1=((a / 1:Nat):Int):=rfl;rw[this,tL]
   rw[ae I,tL,tL]at c;rw[C];simp only[ah,Q];rw[wrap_i64 _ (by omega) (by omega),wrap_i64 _ (by omega) (by omega),M8];by_cases f:val d k=w
   ·rw[au f,af (c.2 f)];rfl
   ·rw[aw f,ae (λq=>f (c.1 q))];rfl
def WB(m:Nat){g l:Bool}{d:aa}{x s:Int}(k:okY g l d x s)(v:Int):nT (m+300) g l d x s v=some (if inP g d x s v then 1 else 0):=by
 have y:=jb k;have b:=λw o=>in_T m k w o;have p:=pW (m+300) g l d x s (by omega) (by omega);unfold inT at b;unfold nT;by_cases t:v < -10000000000000000
 ·rw[au t,ae (λq=>by have:=q.1;omega)];rfl
 ·rw[aw t,ah];by_cases u:v>10000000000000000
  ·rw[au u,ae (λq=>by have:=q.2.1;omega)];rfl
  ·rw[aw u,ah];cases g with
   | true=>
    have w0:wrap .i64 (0 - v)=-v:=by rw[wrap_i64 _ (by omega) (by omega)];omega
    simp only[aj,w0];by_cases n:-v<0
    ·rw[au n,ae (λq=>by have:=q.2.2.1;unfold wOf at this;simp only[aQ]at this;omega)];rfl
    ·rw[aw n,ah];obtain⟨w,o⟩:∃w:Nat,-v=(w:Int):=⟨(-v).toNat,by omega⟩;have b:=b w (by omega);have f:wOf true v=(w:Int):=by unfold wOf;simpa using o
     have c:¬(hasX d=true/\w=0)->(inP true d x s v↔memP d x s w):=by
      intro r;unfold inP;rw[f,bX];constructor
      ·exactλq=>q.2.2.2.2
      ·exactλq=>⟨by omega,by omega,by omega,λq=>r ⟨q.1,by omega⟩,q⟩
     rw[o];cases j:hasX d with
     | true=>
      have a:aF (m+300) true l d x s=some 1:=by rw[p,j];rfl
      rw[a];have h:((1:Int)==1)=true:=rfl;simp only[ob,h,aj];by_cases r:w=0
      ·have e:(((w:Nat):Int)==0)=true:=bu.2 (by omega);rw[e,ae (λq=>q.2.2.2.1 ⟨j,rfl,by rw[f];omega⟩)];rfl
      ·have e:(((w:Nat):Int)==0)=false:=aL.2 (by omega);rw[a]at b;simp only[ob,h,aj]at b;rw[e,ah,b];have:=c (λq=>r q.2);by_cases hp:memP d x s w
       ·rw[af hp,af (this.2 hp)]
       ·rw[ae hp,ae (λq=>hp (this.1 q))]
     | false=>
      have a:aF (m+300) true l d x s=some 0:=by rw[p,j];rfl
      have i:((0:Int)==1)=false:=rfl;rw[a]at b ⊢;simp only[ob,i,ah]at b ⊢;rw[b];have:=c (λq=>by rw[j]at q;cases q.1);by_cases hp:memP d x s w
      ·rw[af hp,af (this.2 hp)]
      ·rw[ae hp,ae (λq=>hp (this.1 q))]
   | false=>
    simp only[ah];by_cases n:v<0
    ·rw[au n,ae (λq=>by have:=q.2.2.1;unfold wOf at this;simp only[bU,aG]at this;omega)];rfl
    ·rw[aw n,ah];obtain⟨w,rfl⟩:∃w:Nat,v=(w:Int):=⟨v.toNat,by omega⟩;have b:=b w (by omega);have f:wOf false (w:Int)=(w:Int):=rfl;have c:inP false d x s (w:Int)↔memP d x s w:=by
      unfold inP;rw[f,bX];constructor
      ·exactλq=>q.2.2.2.2
      ·exactλq=>⟨by omega,by omega,by omega,λq=>(by cases q.2.1),q⟩
     cases j:hasX d with
     | true=>
      have a:aF (m+300) false l d x s=some 1:=by rw[p,j];rfl
      rw[a]at b ⊢;have h:((1:Int)==1)=true:=rfl;simp only[ob,h,aj]at b ⊢;rw[b];by_cases hp:memP d x s w
      ·rw[af hp,af (c.2 hp)]
      ·rw[ae hp,ae (λq=>hp (c.1 q))]
     | false=>
      have a:aF (m+300) false l d x s=some 0:=by rw[p,j];rfl
      rw[a]at b ⊢;have i:((0:Int)==1)=false:=rfl;simp only[ob,i,ah]at b ⊢;rw[b];by_cases hp:memP d x s w
      ·rw[af hp,af (c.2 hp)]
      ·rw[ae hp,ae (λq=>hp (c.1 q))]
def loK(d:aa)(k:Nat):Nat:=dval 0 ((eZ 48 d).take k)
def hiK(d:aa)(k:Nat):Nat:=dval 0 ((eZ 57 d).take k)
def zw(z:UInt8){d:aa}{k:Nat}{c:UInt8}(h:d[k]?=some c):dval 0 ((eZ z d).take (k+1))=dval 0 ((eZ z d).take k)*10+((if c=88 then z else c).toNat - 48):=by
 rw[Vz (xI h),Jz]
def D5(d:aa)(h:d.length=4)(l:∀c∈d,bH c=true\/c=88):∀(k w:Nat),k<=4->w<10 ^ k->mtk d k w=true->loK d k<=w/\w<=hiK d k
 | 0,w,f,b,a=>by
  simp at b;subst b;simp[loK,hiK,qM]
 | k+1,w,f,b,a=>by
  obtain⟨c,hc⟩:∃c,d[k]?=some c:=⟨d[k],bq (by omega)⟩;rw[C0,B5 hc,aA,iG,cb,cb]at a;have hp:(10:Nat) ^ (k+1)=10 ^ k*10:=ua 10 k;have ih:=D5 d h l k (w / 10) (by omega) (by omega) a.2;have g:=zw 48 hc;have j:=zw 57 hc;unfold loK hiK at ih ⊢;rw[g,j];by_cases hx:c=88
  ·rw[af hx,af hx];have e:(48:UInt8).toNat - 48=0:=rfl;have i:(57:UInt8).toNat - 48=9:=rfl;rw[e,i];omega
  ·rw[ae hx,ae hx];have:=a.1.resolve_left hx;omega
def CM(z:UInt8)(g:bH z=true)(d:aa)(l:d.length=4)(h:∀c∈d,bH c=true\/c=88):∀k,k<=4->mtk d k (dval 0 ((eZ z d).take k))=true
 | 0,_=>rfl
 | k+1,n=>by
  obtain⟨c,hc⟩:∃c,d[k]?=some c:=⟨d[k],bq (by omega)⟩;have ih:=CM z g d l h k (by omega);have e:bH (if c=88 then z else c)=true:=by
   by_cases hx:c=88
   ·rw[af hx];exact g
   ·rw[ae hx];exact(h c (fh hc)).resolve_right hx
  have j:=(ew _).1 e;rw[C0,B5 hc,zw z hc];generalize f:(if c=88 then z else c)=b at j ⊢;generalize dval 0 ((eZ z d).take k)=a at ih ⊢;have i:(a*10+(b.toNat - 48)) / 10=a:=by omega
  have m:(a*10+(b.toNat - 48))%10=b.toNat - 48:=by omega
  rw[i,m,ih,yy];by_cases hx:c=88
  ·rw[au hx];rfl
  ·rw[ae hx]at f;rw[f,au (show b.toNat=48+(b.toNat - 48)by omega),Bool.or_true]
def B8:List (aa):=[[48,48,48,88],[48,48,88,48],[48,48,88,88],[48,88,48,48],[48,88,48,88],[48,88,88,48],[48,88,88,88],[88,48,48,48],[88,48,48,88],[88,48,88,48],[88,48,88,88],[88,88,48,48],[88,88,48,88],[88,88,88,48],[88,88,88,88]]
def YQ:B8.all (λd=>mtk d 4 (ux d)&&decide (1<=ux d)&&decide (ux d<=1000)&&(List.range 1000).all (λw=>decide (w=0)||!mtk d 4 w||decide (ux d<=w)))=true:=by decide +kernel
def EZ{d:aa}(i:d∈B8):mtk d 4 (ux d)=true/\1<=ux d/\ux d<=1000/\∀w,1<=w->mtk d 4 w=true->ux d<=w:=by
 have h:=bO.1 YQ d i;simp only[aA,cb,bO,gS,iG,kv]at h;obtain⟨⟨⟨c,g⟩,e⟩,j⟩:=h;refine⟨c,g,e,λw k f=>?_⟩;rcases aN w 1000 with a | b
 ·rcases j w a with(h | h) | h
  ·omega
  ·rw[f]at h;cases h
  ·exact h
 ·omega
def EO{d:aa}(a:d.length=4)(e:∀c∈d,bH c=true\/c=88)(f:hasX d=true)(b:dval 0 (eZ 48 d)=0):d∈B8:=
 Am a (DX a e b) f (λd=>d∈B8) (by decide) (by decide) (by decide) (by decide) (by decide) (by decide) (by decide) (by decide) (by decide) (by decide) (by decide) (by decide) (by decide) (by decide) (by decide)
def Ve{d:aa}(a:d.length=4):loK d 4=dval 0 (eZ 48 d):=by
 unfold loK;rw[jK (by rw[jv];omega)]
def TK{d:aa}(a:d.length=4):hiK d 4=dval 0 (eZ 57 d):=by
 unfold hiK;rw[jK (by rw[jv];omega)]
def Qa{g:Bool}{d:aa}(b:d.length=4)(f:∀c∈d,bH c=true\/c=88)(q:hasX d=true):
  (lE g d).1<10000/\(lE g d).2<10000/\mtk d 4 (lE g d).1=true/\mtk d 4 (lE g d).2=true/\1<=(lE g d).2/\(g=true->1<=(lE g d).1)/\∀w,w<10000->mtk d 4 w=true->(g=true->1<=w)->(lE g d).1<=w/\w<=(lE g d).2:=by
 have r:(10:Nat) ^ 4=10000:=by decide
 have p:=rE (z:=48) (by decide) f;have n:=rE (z:=57) (by decide) f;have b1:=rF (eZ 48 d) 0 0 p (by simp);have b2:=rF (eZ 57 d) 0 0 n (by simp);rw[jv,b,dP,r]at b1 b2;have m1:=CM 48 (by decide) d b f 4 (by omega);have m2:=CM 57 (by decide) d b f 4 (by omega);rw[jK (by rw[jv];omega)]at m1 m2;have l:∀w,w<10000->mtk d 4 w=true->dval 0 (eZ 48 d)<=w/\w<=dval 0 (eZ 57 d):=λw k h=>by
  have:=D5 d b f 4 w (by omega) (by omega) h;rw[Ve b,TK b]at this;exact this
 have j:1<=dval 0 (eZ 57 d):=by
  rcases CY (dval 0 (eZ 57 d))with i | i
  ·exfalso;have e:dval 0 (eZ 48 d)=0:=by
    have:=(l _ b1 m1).2;omega
   have o:=EO b f q e;have a:=EZ o;have:=(l _ (by omega) a.1).2;omega
  ·exact i
 unfold lE;by_cases e:g=true/\dval 0 (eZ 48 d)=0
 ·rw[af e];have a:=EZ (EO b f q e.2);refine⟨by simp only;omega,b2,a.1,m2,j,λ_=>a.2.1,λw k h m=>⟨a.2.2.2 w (m e.1) h,(l w k h).2⟩⟩
 ·rw[ae e];refine⟨b1,b2,m1,m2,j,λm=>?_,λw k h m=>l w k h⟩;simp only;rcases CY (dval 0 (eZ 48 d))with i | i
  ·exact absurd ⟨m,i⟩ e
  ·exact i
def Ql{g l:Bool}{d:aa}{x s:Int}(c:okY g l d x s):(oz g d x s).1<=10000000000000000/\(oz g d x s).2<=10000000000000000/\memP d x s (oz g d x s).1/\memP d x s (oz g d x s).2/\(hasX d=true->1<=(oz g d x s).2/\(g=true->1<=(oz g d x s).1))/\
  ∀w,w<=10000000000000000->memP d x s w->(hasX d=true->g=true->1<=w)->(oz g d x s).1<=w/\w<=(oz g d x s).2:=by
 unfold oz memP;cases p:hasX d with
 | true=>
  obtain⟨rfl,rfl,rfl,L,I⟩:=rJ c p;obtain⟨D,O,J,H,E,C,G⟩:=Qa (g:=g) L I p;have F:(10:Nat) ^ 4=10000:=by decide
  simp only[aQ,F];refine⟨by omega,by omega,⟨J,Nat.div_eq_of_lt D⟩,⟨H,Nat.div_eq_of_lt O⟩,λ_=>⟨E,C⟩,λw t j K=>G w (by omega) j.1 (K trivial)⟩
 | false=>
  obtain⟨k,q,rfl,rfl,B⟩:=s9 c p;have hs:=B.small;have M:dval 0 d*10 ^ k=val d k:=rfl;rw[M]at hs;obtain⟨i,f,b⟩:=VG B;unfold E16 at b;simp only[bU,aG,bX];unfold Gk;unfold C9 at i f b ⊢;by_cases m:0<q
  ·rw[af m]at i f b ⊢;rw[af m];have A:1<=10 ^ (d.length+k - q):=Br _ _ (by decide);generalize 10 ^ (d.length+k - q)=u at *;generalize val d k=v at *;simp only at i f b ⊢;have e:v / u*u / u=v / u:=Nat.mul_div_cancel _ A;have n:∀w,v / u*u<=w->w<v / u*u+u->w / u=v / u:=by
    intro w y r;apply Nat.div_eq_of_lt_le
    ·exact y
    ·rw[CO];exact r
   have a:∀w,v / u=w / u->v / u*u<=w/\w<v / u*u+u:=by
    intro w h;rw[h];have y:=G8 w u;have r:=Nat.div_add_mod w u;have Q:=rk w A;rw[vj]at r;omega
   have z:min (v / u*u+u - 1) E16<=v / u*u+u - 1:=Nat.min_le_left _ _;have o:=a v rfl;refine⟨by omega,b,e.symm,(n _ (by omega) (by omega)).symm,λq=>(by cases q),λw t j _=>?_⟩;obtain⟨N,P⟩:=a w j;refine⟨N,?_⟩;rw[Nat.le_min];unfold E16;omega
  ·rw[ae m]at i f b ⊢;rw[ae m];simp only[tL]at i f b ⊢;refine⟨b,b,trivial,trivial,λq=>(by cases q),λw t j _=>by omega⟩
def G6{g l:Bool}{d:aa}{x s:Int}(f:okY g l d x s):inP g d x s (sgn g (oz g d x s)).1/\inP g d x s (sgn g (oz g d x s)).2/\∀v,inP g d x s v->(sgn g (oz g d x s)).1<=v/\v<=(sgn g (oz g d x s)).2:=by
 obtain⟨j,w,p,n,k,i⟩:=Ql f;generalize oz g d x s=B at *;obtain⟨lo,hi⟩:=B;simp only at j w p n k i;cases g with
 | true=>
  have b:∀a:Nat,wOf true (-(a:Int))=(a:Int):=λa=>by unfold wOf;simp
  have mk:∀a:Nat,a<=10000000000000000->memP d x s a->(hasX d=true->1<=a)->inP true d x s (-(a:Int)):=by
   intro a y r C;refine⟨by omega,by omega,by rw[b];omega,λq=>?_,by rw[b,bX];exact r⟩;have:=C q.1;have z:=q.2.2;rw[b]at z;omega
  simp only[sgn,aQ];refine⟨mk hi w n (λh=>(k h).1),mk lo j p (λh=>(k h).2 rfl),λv u=>?_⟩;obtain⟨A,D,m,t,c⟩:=u;have o:wOf true v=-v:=rfl;rw[o]at m t c
  have:=i (-v).toNat (by omega) c (λhx _=>by
   have:¬-v=0:=λe=>t ⟨hx,rfl,e⟩;omega)
  omega
 | false=>
  have b:∀a:Int,wOf false a=a:=λa=>rfl;have mk:∀a:Nat,a<=10000000000000000->memP d x s a->inP false d x s (a:Int):=by
   intro a y r;exact⟨by omega,by omega,by rw[b];omega,λq=>(by cases q.2.1),by rw[b,bX];exact r⟩
  simp only[sgn,bU,aG];refine⟨mk lo j p,mk hi w n,λv u=>?_⟩;obtain⟨A,D,m,t,c⟩:=u;rw[b]at m c;have:=i v.toNat (by omega) c (λ_ q=>by cases q);omega
end Go.Sh
namespace Go.Sh.Mk
open Go.Abs
def okB(c:UInt8):Bool:=c.toNat==88||(decide (48<=c.toNat)&&decide (c.toNat<=57))
def chk(s:aa):Int:=if 18<s.length then 3 else if s.all okB then(if s=[]then 5 else 0)else 5
def wv(n:Nat)(s0 s:aa)(r:s.length+1<n):
  av (jh n) n (s0,s,0)=some (if s.all okB then .inr s0 else .inl 5):=by
 have:=gp (step:=jh n) (λx=>x.1=s0/\x.2.1=s/\x.2.2<=s.length) (λx=>s.length - x.2.2)
  (λx=>if(s.drop x.2.2).all okB then .inr s0 else .inl 5) ?_ n (s0,s,0) ⟨rfl,rfl,iK _⟩ (by simp;omega)
 ·simpa using this
 rintro⟨a,b,i⟩ ⟨rfl,rfl,hi⟩;simp only at hi ⊢;rcases aN i b.length with l | o
 ·obtain⟨c,hc⟩:∃c,b[i]?=some c:=⟨b[i],bq l⟩;have m:Nat.blt i b.length=true:=cr l;rw[gg hc,nH];simp only[jh,m,aj];by_cases k:c.toNat<128
  ·rw[C7 hc k];by_cases g:c.toNat=88
   ·refine .inl ⟨(a,b,i+1),by simp[g],⟨rfl,rfl,by simp only;omega⟩,by simp only;omega,?_⟩;simp[okB,g]
   ·by_cases q:c.toNat<48
    ·refine .inr ?_;have d:(((c.toNat:Nat):Int) != 88)=true:=by simp;omega
     have e:(decide (((c.toNat:Nat):Int)<48))=true:=by simp;omega
     have f:okB c=false:=by simp[okB];omega
     simp[d,e,f]
    ·by_cases p:57<c.toNat
     ·refine .inr ?_;have d:(((c.toNat:Nat):Int) != 88)=true:=by simp;omega
      have e:(decide (((c.toNat:Nat):Int)<48))=false:=by simp;omega
      have j:(decide (((c.toNat:Nat):Int)>57))=true:=by simp;omega
      have f:okB c=false:=by simp[okB];omega
      simp[d,e,f,j]
     ·have d:(((c.toNat:Nat):Int) != 88)=true:=by simp;omega
      have e:(decide (((c.toNat:Nat):Int)<48))=false:=by simp;omega
      have j:(decide (((c.toNat:Nat):Int)>57))=false:=by simp;omega
      have f:okB c=true:=by simp[okB];omega
      refine .inl ⟨(a,b,i+1),by simp only[d,e,j,aj,ah],⟨rfl,rfl,by simp only;omega⟩,by simp only;omega,?_⟩;simp[f]
  ·obtain⟨t,u⟩:=I6 hc (by omega);refine .inr ?_;have d:((((dec b i).1:Nat):Int) != 88)=true:=by simp;omega
   have e:(decide ((((dec b i).1:Nat):Int)<48))=false:=by simp;omega
   have j:(decide ((((dec b i).1:Nat):Int)>57))=true:=by simp;omega
   have f:okB c=false:=by simp[okB];omega
   simp[d,e,f,j]
 ·have m:Nat.blt i b.length=false:=by
   cases h:Nat.blt i b.length with
   | false=>rfl
   | true=>have:i<b.length:=aM h;omega
  refine .inr ?_;simp only[jh,m,ah];rw[l9 o];rfl
def mF(n:Nat)(s:aa)(b:30<=n):kK n s=some (chk s):=by
 unfold kK chk;by_cases h:18<s.length
 ·have:(decide (((List.length s:Nat):Int)>18))=true:=by simp;omega
  simp[this,h]
 ·have e:(decide (((List.length s:Nat):Int)>18))=false:=by simp;omega
  simp only[e,ah,h,aG];rw[wv n s s (by omega)];by_cases a:s.all okB=true
  ·simp only[a,aQ,ob];by_cases hs:s=[]
   ·simp[hs]
   ·have:(s==([]:aa))=false:=by simpa using hs
    simp[this,hs]
  ·simp[a,ob]
def oe{s:aa}(h:chk s=0):s.length<=18/\s≠[]/\∀c∈s,okB c=true:=by
 unfold chk at h;split at h
 ·simp at h
 ·split at h
  ·rename_i a;split at h
   ·simp at h
   ·rename_i hs;exact⟨by omega,hs,by simpa using a⟩
  ·simp at h
def nums(l:aa):List Int:=l.map λb=>((b.toNat:Nat):Int)
def over(d:List Int)(i:Nat)(l:List Int):List Int:=d.take i++(l++d.drop (i+l.length))
def BJ(d:List Int)(i:Nat)(x:Int)(l:List Int)(h:i<d.length):over (d.set i x) (i+1) l=over d i (x::l):=by
 unfold over;rw[show(d.set i x).take (i+1)=d.take i++[x]from by
  rw[PC (by simpa using h)];simp[List.take_set_of_le]]
 rw[List.drop_set_of_lt (by omega)];simp[gR,o8 1]
def HC(d:List Int)(i:Nat):over d i []=d:=by simp[over]
def P5(d:List Int)(i:Nat)(l:List Int)(h:i+l.length<=d.length):(over d i l).length=d.length:=by
 unfold over;simp;omega
def RD{x y:UInt8}:(((x.toNat:Nat):Int)==((y.toNat:Nat):Int))=decide (x=y):=by
 by_cases h:x=y
 ·simp[h]
 ·have:x.toNat≠y.toNat:=λe=>h (iL.1 e);simp[h];omega
def CV{x:UInt8}:(((x.toNat:Nat):Int)==88)=decide (x=88):=by
 have:=RD (x:=x) (y:=88);simpa using this
def dg:Nat->Int->List Int
 | 0,_=>[]
 | L+1,k=>dg L (k / 10)++[48+k%10]
def yV:∀(L:Nat) (k:Int),(dg L k).length=L
 | 0,_=>rfl
 | L+1,k=>by simp[dg,yV L]
def ut:∀(L:Nat) (k:Int),∀x∈dg L k,48<=x/\x<58
 | 0,_,x,h=>by simp[dg]at h
 | L+1,k,x,h=>by
  simp only[dg,ln,tK]at h;rcases h with h | rfl
  ·exact ut L _ x h
  ·omega
def jL:aa->List Int->Bool
 | c::m,d::l=>(c==88||decide (((c.toNat:Nat):Int)=d))&&jL m l
 | _,_=>true
def vX:∀{a c:aa} {b d:List Int},a.length=b.length->jL (a++c) (b++d)=(jL a b&&jL c d)
 | [],c,[],d,_=>by simp[jL]
 | x::a,c,y::b,d,h=>by
  simp only[aC,ym]at h;simp only[eX,jL,vX h,Bool.and_assoc]
def hasM(m:aa)(k:Int):Bool:=decide (0<=k)&&(decide (k<10 ^ m.length)&&jL m (dg m.length k))
def PR(L:Nat)(h:L<=18):qo 20000000 ((L:Nat):Int)=some (10 ^ L):=by
 have a:allN (λi=>match qo 20000000 ((i:Nat):Int)with | some r=>decide (r=10 ^ i) | none=>false) 19=true:=by kernel_rfl
 have:=F3 a L (by omega);split at this
 ·rename_i r b;rw[b];simpa using this
 ·cases this
def Ee(L:Nat)(h:L<=18):(10:Int) ^ L<=1000000000000000000:=by
 have a:allN (λi=>decide ((10:Int) ^ i<=1000000000000000000)) 19=true:=by kernel_rfl
 simpa using F3 a L (by omega)
def WU{k:Int}(h:0<=k):Int.tmod k 10=k%10:=NX h
def Xh{k:Int}(h:0<=k):Int.tdiv k 10=k / 10:=Sj h
def KI(k:Int)(i:Nat)(d:List Int)(a:0<=k)(e:k<9223372036854775808)(hi:i<=18)(b:d.length=18):
  av (jk 20000000) 20000000 (k,(i:Int) - 1,d)=some (over d 0 (dg i k)):=by
 have:=gp (step:=jk 20000000) (λx=>(0<=x.1/\x.1<9223372036854775808)/\(-1<=x.2.1/\x.2.1<=17)/\x.2.2.length=18) (λx=>(x.2.1+1).toNat)
  (λx=>over x.2.2 0 (dg (x.2.1+1).toNat x.1)) ?_ 20000000 (k,(i:Int) - 1,d) ⟨⟨a,e⟩,⟨by simp only;omega,by simp only;omega⟩,b⟩ (by simp only;omega)
 ·simpa using this
 rintro⟨k,i,d⟩ ⟨⟨a,e⟩,⟨q,n⟩,b⟩;simp only at a e q n b ⊢;by_cases hi:0<=i
 ·obtain⟨j,rfl⟩:∃j:Nat,i=j:=⟨i.toNat,by omega⟩;have f:j<18:=by omega
  have c:decide ((j:Int)>=0)=true:=by simp
  have p:Nat.blt j 18=true:=cr f;have m:wrap .i64 ((j:Int) - 1)=(j:Int) - 1:=wrap_i64 _ (by omega) (by omega);have h:wrap .i64 (Int.tdiv k 10)=k / 10:=by rw[Xh a];exact wrap_i64 _ (by omega) (by omega)
  have g:wrap .u8 (wrap .i64 (48+Int.tmod k 10))=48+k%10:=by rw[WU a,wrap_i64 _ (by omega) (by omega),gD _ (by omega) (by omega)]
  refine .inl ⟨(k / 10,(j:Int) - 1,d.set j (48+k%10)),by simp only[jk,c,aj,cG f,ob,p,m,h,g],⟨⟨by simp only;omega,by simp only;omega⟩,⟨by simp only;omega,by simp only;omega⟩,by simpa using b⟩,by simp only;omega,?_⟩;have o:((j:Int) - 1+1).toNat=j:=by omega
  have l:((j:Int)+1).toNat=j+1:=by omega
  simp only[o,l,over,nr,dQ,yV,cU,dg,fa];congr 1;rw[List.drop_set,ae (by omega),Cd,uN (by omega)];simp only[List.set_cons_zero,aH,yV,aC,aX,eX,dQ,cU]
 ·have c:decide (i>=0)=false:=by simp;omega
  have s:(i+1).toNat=0:=by omega
  refine .inr ?_;simp only[jk,c,ah,s,dg,HC]
def P1(m:aa)(k:Int)(b:m.length<=18)(c:0<=k)(a:k<9223372036854775808):
  md 20000000 m k=some (over [0,0,0,0,0,0,0,0,0,0,0,0,0,0,0,0,0,0] 0 (dg m.length k)):=by
 have w:wrap .i64 (((List.length m:Nat):Int) - 1)=(m.length:Int) - 1:=wrap_i64 _ (by omega) (by omega);simp only[md,w,KI k m.length [0,0,0,0,0,0,0,0,0,0,0,0,0,0,0,0,0,0] c a b (by rfl),ob]
def wV{d l:List Int}{i:Nat}(h:i<l.length):(over d 0 l)[i]?=l[i]?:=by
 unfold over;simp only[nr,dQ];rw[om h]
def Ab:∀(l:List Int),(∀x∈l,0<=x/\x<256)->nums (i6 l)=l
 | [],_=>rfl
 | x::l,h=>by
  have ih:=Ab l λy hy=>h y (fV _ hy);obtain⟨c,a⟩:=h x (by simp);have e:(((UInt8.ofNat x.toNat).toNat:Nat):Int)=x:=by
   rw[FP,rO (by omega)];omega
  simp only[nums,i6,uh]at ih ⊢;simp only[gJ,Function.comp,e];rw[show List.map ((λb:UInt8=>((b.toNat:Nat):Int)) ∘ λn:Int=>UInt8.ofNat n.toNat) l=l from ih]
def Qp(l:aa):(nums l).length=l.length:=by simp[nums]
def cnt:aa->Nat
 | []=>0
 | c::r=>if c=88 then cnt r+1 else cnt r
def dv(c:UInt8):Int:=((c.toNat:Nat):Int) - 48
def nth:aa->Int->Int
 | [],_=>0
 | c::r,i=>if c=88 then 10*nth r (i / 10)+i%10 else 10*nth r i+dv c
def ag:aa->Int->Bool
 | [],_=>true
 | c::r,k=>ag r (k / 10)&&(decide (c=88)||decide (dv c=k%10))
def idx:aa->Int->Int
 | [],_=>0
 | c::r,k=>if c=88 then 10*idx r (k / 10)+k%10 else idx r (k / 10)
def okR(r:aa):Prop:=∀c∈r,c=88\/(0<=dv c/\dv c<10)
def AA{m:aa}(h:∀c∈m,okB c=true):okR m.reverse:=by
 intro c hc;have:=h c (Hg.1 hc);simp only[okB,iG,bu,aA,cb]at this;rcases this with h | h
 ·exact .inl (iL.1 (by simpa using h))
 ·exact .inr (by unfold dv;omega)
def sJ{c:UInt8}{r:aa}(h:okR (c::r)):okR r:=λx hx=>h x (fV _ hx)
def ji(n:Nat):(10:Int) ^ (n+1)=10*10 ^ n:=by rw[Int.pow_succ,zN]
def uG(n:Nat):(0:Int)<10 ^ n:=Int.pow_pos (by omega)
def rG:∀{r:aa},okR r->∀i,0<=i->0<=nth r i/\nth r i<10 ^ r.length
 | [],_,i,_=>by simp[nth]
 | c::r,h,i,hi=>by
  simp only[nth,aC,ji];split
  ·have:=rG (sJ h) (i / 10) (by omega);omega
  ·rename_i hc;have:=rG (sJ h) i hi;have:=(h c (by simp)).resolve_left hc;omega
def M1:∀{r:aa},okR r->∀i,0<=i->ag r (nth r i)=true
 | [],_,_,_=>rfl
 | c::r,h,i,hi=>by
  simp only[nth,ag];split
  ·rename_i hc;have e:(10*nth r (i / 10)+i%10) / 10=nth r (i / 10):=by omega
   rw[e,M1 (sJ h) (i / 10) (by omega)];simp[hc]
  ·rename_i hc;have b:=(h c (by simp)).resolve_left hc;have e:(10*nth r i+dv c) / 10=nth r i:=by omega
   have a:(10*nth r i+dv c)%10=dv c:=by omega
   rw[e,a,M1 (sJ h) i hi];simp
def yC:∀(r:aa) (k:Int),0<=k->0<=idx r k/\idx r k<10 ^ cnt r
 | [],k,_=>by simp[idx,cnt]
 | c::r,k,a=>by
  have:=yC r (k / 10) (by omega);simp only[idx,cnt];split
  ·rw[ji];omega
  ·exact this
def NE:∀{r:aa} {k:Int},0<=k->k<10 ^ r.length->ag r k=true->nth r (idx r k)=k
 | [],k,f,a,_=>by simp at a;simp[nth];omega
 | c::r,k,f,a,b=>by
  simp only[ag,aA,iG,cb]at b;rw[aC,ji]at a;have ih:=NE (r:=r) (k:=k / 10) (by omega) (by omega) b.1;simp only[nth,idx];split
  ·have:=yC r (k / 10) (by omega);have e:(10*idx r (k / 10)+k%10) / 10=idx r (k / 10):=by omega
   have d:(10*idx r (k / 10)+k%10)%10=k%10:=by omega
   rw[e,d,ih];omega
  ·rename_i hc;rw[ih];have:=b.2.resolve_left hc;omega
def BH:∀{r:aa},okR r->∀i j,0<=i->i<j->j<10 ^ cnt r->nth r i<nth r j
 | [],_,i,j,d,b,a=>by simp[cnt]at a;omega
 | c::r,h,i,j,d,b,a=>by
  simp only[nth,cnt]at a ⊢;split
  ·rename_i hc;rw[af hc,ji]at a;by_cases e:i / 10=j / 10
   ·rw[e];omega
   ·have:=BH (sJ h) (i / 10) (j / 10) (by omega) (by omega) (by omega);omega
  ·rename_i hc;rw[ae hc]at a;have:=BH (sJ h) i j d b a;omega
def I7:∀(r:aa),∀k,jL r.reverse (dg r.length k)=ag r k
 | [],k=>rfl
 | c::r,k=>by
  simp only[List.reverse_cons,aC,dg,ag];rw[vX (by rw[vI,yV]),I7 r];have a:decide (((c.toNat:Nat):Int)=48+k%10)=decide (dv c=k%10):=oN.2 (by unfold dv;omega);have b:(c==88)=decide (c=88):=by by_cases h:c=88<;>simp[h]
  simp only[jL,yy,a,b]
def GE(m:aa)(k:Int):hasM m k=(decide (0<=k)&&(decide (k<10 ^ m.length)&&ag m.reverse k)):=by
 have:=I7 m.reverse k;rw[yB,vI]at this;unfold hasM;rw[this]
def xc:∀(m:aa),cnt m=m.count 88
 | []=>rfl
 | c::m=>by
  simp only[cnt,xc m,List.count_cons];by_cases h:c=88<;>simp[h]
def uf(m:aa):cnt m.reverse=cnt m:=by rw[xc,xc,List.count_reverse]
def Oe:∀(m:aa),cnt m<=m.length
 | []=>by simp[cnt]
 | c::m=>by
  have:=Oe m;simp only[cnt,aC];split<;>omega
def fd(x y:Int):Int:=(if y=88 then x else y) - 48
def fval(x:Int)(l:List Int):Int:=l.foldl (λn y=>10*n+fd x y) 0
def Dt(x:Int):∀(l:List Int) (n:Int),l.foldl (λn y=>10*n+fd x y) n=n*10 ^ l.length+fval x l
 | [],n=>by simp[fval]
 | y::l,n=>by
  have e:=Dt x l (10*n+fd x y);have a:=Dt x l (10*0+fd x y);simp only[fval,vW,aC,ji]at e a ⊢;rw[e,a,Int.add_mul,Int.add_mul];have:10*n*10 ^ l.length=n*(10*10 ^ l.length):=by rw[zN 10 n,Int.mul_assoc]
  omega
def yg(s:aa)(x:Int)(h18:s.length<=18)(hs:∀c∈s,0<=fd x ((c.toNat:Nat):Int)/\fd x ((c.toNat:Nat):Int)<10):mV 20000000 s x=some (fval x (nums s)):=by
 have hs':∀y∈nums s,0<=fd x y/\fd x y<10:=by
  intro y hy;obtain⟨c,hc,rfl⟩:=eD.1 hy;exact hs c hc
 have hl:(nums s).length=s.length:=Qp s;have:=gp (step:=ir 20000000)
  (λst=>st.1=x/\st.2.2.1=((s.length:Nat):Int)/\st.2.2.2.2=nums s/\(0<=st.2.2.2.1/\st.2.2.2.1<=s.length)/\0<=st.2.1/\st.2.1<10 ^ st.2.2.2.1.toNat) (λst=>s.length - st.2.2.2.1.toNat)
  (λst=>((nums s).drop st.2.2.2.1.toNat).foldl (λn y=>10*n+fd x y) st.2.1) ?_ 20000000 (x,0,((s.length:Nat):Int),0,nums s) ⟨rfl,rfl,rfl,⟨by simp,by simp⟩,by simp,by simp⟩ (by simp;omega)
 ·show(ob (av (ir 20000000) 20000000 (x,0,((List.length (nums s):Nat):Int),0,nums s)) λy30=>some y30)=_;rw[hl,this];rfl
 rintro⟨x',n,len,i,l⟩ ⟨q1,q2,q3,⟨h0,hi⟩,n0,n1⟩;simp only at q1 q2 q3 h0 hi n0 n1 ⊢;subst q1 q2 q3;obtain⟨j,rfl⟩:∃j:Nat,i=j:=⟨i.toNat,by omega⟩;simp only[bX]at n1 ⊢;rcases aN j s.length with hlt | hge
 ·obtain⟨y,hy⟩:∃c,(nums s)[j]?=some c:=⟨(nums s)[j]'(by omega),bq (by omega)⟩;obtain⟨d0,d1⟩:=hs' y (fh hy);have hb:(decide ((j:Int)<((s.length:Nat):Int)))=true:=by simp;omega
  have hw:wrap .i64 ((j:Int)+1)=((j+1:Nat):Int):=by rw[wrap_i64 _ (by omega) (by omega)];omega
  have hb1:=Ee (j+1) (by omega);rw[ji]at hb1;have w1:wrap .i64 (10*n)=10*n:=wrap_i64 _ (by omega) (by omega);have w2:∀z:Int,0<=z->z<10->wrap .i64 (10*n+wrap .i64 (wrap .u8 z))=10*n+z:=λz z0 z1=>by
   rw[gD z (by omega) (by omega),wrap_i64 z (by omega) (by omega),wrap_i64 _ (by omega) (by omega)]
  rw[gg hy,vW];simp only[ir,hb,aj,cG (show j<(nums s).length by omega),ob,hy,hw,w1];have next:0<=10*n+fd x' y/\10*n+fd x' y<10 ^ (j+1):=by rw[ji];omega
  by_cases h88:y=88
  ·have e1:(y==88)=true:=by simpa using h88
   have hd:fd x' y=x' - 48:=by simp[fd,h88]
   rw[hd]at d0 d1 next ⊢;refine .inl ⟨(x',10*n+(x' - 48),((s.length:Nat):Int),((j+1:Nat):Int),nums s),by simp only[e1,aj,w2 _ d0 d1],⟨rfl,rfl,rfl,⟨by simp only;omega,by simp only;omega⟩,next.1,by simpa only[bX]using next.2⟩,by simp only[bX];omega,by simp only[bX]⟩
  ·have e1:(y==88)=false:=by simpa using h88
   have hd:fd x' y=y - 48:=by simp[fd,h88]
   rw[hd]at d0 d1 next ⊢;refine .inl ⟨(x',10*n+(y - 48),((s.length:Nat):Int),((j+1:Nat):Int),nums s),by simp only[e1,ah,w2 _ d0 d1],⟨rfl,rfl,rfl,⟨by simp only;omega,by simp only;omega⟩,next.1,by simpa only[bX]using next.2⟩,by simp only[bX];omega,by simp only[bX]⟩
 ·have hb:(decide ((j:Int)<((s.length:Nat):Int)))=false:=by simp;omega
  refine .inr ?_;simp only[ir,hb,ah];rw[l9 (by omega)];rfl
def y6(x:Int)(l:List Int)(y:Int):fval x (l++[y])=10*fval x l+fd x y:=by simp[fval,Ji]
def Ej(r:aa)(c:UInt8):nums ((c::r).reverse)=nums r.reverse++[((c.toNat:Nat):Int)]:=by simp[nums]
def GR(x:Int)(c:UInt8):fd x ((c.toNat:Nat):Int)=if c=88 then x - 48 else dv c:=by
 unfold fd dv;by_cases h:c=88
 ·simp[h]
 ·have:¬((c.toNat:Nat):Int)=88:=λe=>h (iL.1 (by simpa using(by omega:c.toNat=88)));rw[ae this,ae h]
def Au:∀(r:aa),fval 48 (nums r.reverse)=nth r 0
 | []=>rfl
 | c::r=>by
  rw[Ej,y6,Au r,GR];simp only[nth];split<;>simp
def u0:∀(r:aa),fval 57 (nums r.reverse)=nth r (10 ^ cnt r - 1)
 | []=>rfl
 | c::r=>by
  have hp:=uG (cnt r);rw[Ej,y6,u0 r,GR];simp only[nth,cnt];split
  ·rw[ji];have a:(10*(10:Int) ^ cnt r - 1) / 10=10 ^ cnt r - 1:=by omega
   have b:(10*(10:Int) ^ cnt r - 1)%10=9:=by omega
   rw[a,b];omega
  ·rfl
def XM{m:aa}(a:∀c∈m,okB c=true){x:Int}(hx:48<=x/\x<58):∀c∈m,0<=fd x ((c.toNat:Nat):Int)/\fd x ((c.toNat:Nat):Int)<10:=by
 intro c hc;rw[GR];have:=AA a c (Hg.2 hc);split
 ·omega
 ·rename_i h;exact this.resolve_left h
def Qu{m:aa}(c:chk m=0):qH 20000000 m=some (nth m.reverse 0,0):=by
 obtain⟨b,_,a⟩:=oe c;have d:((0:Int) != 0)=false:=by simp
 have:=Au m.reverse;rw[yB]at this;simp only[qH,mF 20000000 m (by omega),c,ob,d,ah,yg m 48 b (XM a (by omega)),this]
def F5{m:aa}(c:chk m=0):mI 20000000 m=some (nth m.reverse (10 ^ cnt m - 1),0):=by
 obtain⟨b,_,a⟩:=oe c;have d:((0:Int) != 0)=false:=by simp
 have:=u0 m.reverse;rw[yB,uf]at this;simp only[mI,mF 20000000 m (by omega),c,ob,d,ah,yg m 57 b (XM a (by omega)),this]
def Rk{m:aa}{l:List Int}(z:List Int)(b:m.length<=18)(f:l.length=m.length)(e:∀y∈l,48<=y/\y<58):gU 20000000 m (over z 0 l)=some (fval 0 l):=by
 have g:List.take m.length (over z 0 l)=l:=by
  unfold over;rw[nr,dQ,vn (by omega),jK (by omega)]
 have d:nums (i6 l)=l:=Ab l λy hy=>by have:=e y hy;omega
 have h:(i6 l).length=m.length:=by simp[i6,f]
 simp only[gU,ef b,ob,cU,show Nat.ble m.length 18=true from cr b,aj,dk,g];rw[yg (i6 l) 0 (by omega) ?_,d];intro c hc;have a:((c.toNat:Nat):Int)∈l:=by rw[<-d];exact eD.2 ⟨c,hc,rfl⟩
 have:=e _ a;unfold fd;rw[ae (by omega)];omega
def HU{m:aa}(d:chk m=0){i:Int}(c:0<=i):hasM m (nth m.reverse i)=true:=by
 obtain⟨e,_,a⟩:=oe d;have b:=rG (AA a) i c;rw[vI]at b;rw[GE,M1 (AA a) i c,au b.1,au b.2];rfl
def vl:List Int->Int
 | []=>0
 | y::l=>(y - 48)*10 ^ l.length+vl l
def digl(l:List Int):Prop:=∀y∈l,48<=y/\y<58
def dN{y:Int}{l:List Int}(h:digl (y::l)):digl l:=λx hx=>h x (fV _ hx)
def wU:∀{l:List Int},digl l->0<=vl l/\vl l<10 ^ l.length
 | [],_=>by simp[vl]
 | y::l,h=>by
  have ih:=wU (dN h);have hy:=h y (by simp);have hp:=uG l.length;simp only[vl,aC,ji];have a1:0<=(y - 48)*10 ^ l.length:=Int.mul_nonneg (by omega) (by omega);have a2:(y - 48)*10 ^ l.length<=9*10 ^ l.length:=SC (by omega) (by omega);omega
def UJ{y z:Int}{a b:List Int}(d:a.length=b.length)(e:digl a)(c:digl b)(h:y<z):vl (y::a)<vl (z::b):=by
 have g:=wU e;have f:=wU c;have hp:=uG a.length;simp only[vl];rw[<-d]at f ⊢;have a2:(y - 48+1)*10 ^ a.length<=(z - 48)*10 ^ a.length:=SC (by omega) (by omega);rw[Int.add_mul]at a2;omega
def BE:∀{l:List Int},digl l->fval 0 l=vl l
 | [],_=>rfl
 | y::l,h=>by
  have hy:=h y (by simp);have e:fval 0 (y::l)=l.foldl (λn y=>10*n+fd 0 y) (10*0+fd 0 y):=rfl;have a:fd 0 y=y - 48:=by unfold fd;rw[ae (by omega)]
  rw[e,Dt,BE (dN h),a];simp only[vl,Int.mul_zero,Int.zero_add]
def Lr{l:List Int}{y:Int}(h:digl (l++[y])):vl (l++[y])=10*vl l+(y - 48):=by
 have hy:=h y (by simp);have a:digl l:=λx hx=>h x (by simp[hx]);rw[<-BE h,<-BE a,y6];unfold fd;rw[ae (by omega)]
def RP:∀(L:Nat) (k:Int),0<=k->k<10 ^ L->vl (dg L k)=k
 | 0,k,c,a=>by simp at a;simp[dg,vl];omega
 | L+1,k,c,a=>by
  rw[ji]at a;have:=RP L (k / 10) (by omega) (by omega);have b:=ut (L+1) k;simp only[dg]at b ⊢;rw[Lr b,this];omega
def Yv{l:List Int}(h:digl l):dg l.length (vl l)=l:=by
 have b:∀(r:List Int),digl r.reverse->dg r.length (vl r.reverse)=r.reverse:=by
  intro r
  induction r with
  | nil=>intro _;rfl
  | cons y r ih=>
   intro h;simp only[List.reverse_cons,aC]at h ⊢;have hy:=h y (by simp);rw[Lr h];simp only[dg];have a:(10*vl r.reverse+(y - 48)) / 10=vl r.reverse:=by omega
   have c:48+(10*vl r.reverse+(y - 48))%10=y:=by omega
   rw[a,c,ih λx hx=>h x (ln.2 (.inl hx))]
 have:=b l.reverse (by rw[yB];exact h);rwa[yB,vI]at this
def fst(up:Bool):Int:=cond up 48 57
def lst(up:Bool):Int:=cond up 57 48
def stp(up:Bool)(y:Int):Int:=cond up (y+1) (y - 1)
def fil(up:Bool)(m:aa):List Int:=m.map λc=>cond (decide (c=88)) (fst up) ((c.toNat:Nat):Int)
def nx(up:Bool):aa->List Int->Option (List Int)
 | c::m,y::l=>
  if c=88 then
   match nx up m l with
   | some r=>some (y::r)
   | none=>if y=lst up then none else some (stp up y::fil up m)
  else if((c.toNat:Nat):Int)=y then(nx up m l).map λr=>y::r
  else if decide (((c.toNat:Nat):Int)>y)=up then some (((c.toNat:Nat):Int)::fil up m)else none
 | _,_=>some []
def okM(m:aa):Prop:=∀c∈m,okB c=true
def sF{c:UInt8}{m:aa}(h:okM (c::m)):okM m:=λx hx=>h x (fV _ hx)
def Jv{c:UInt8}(h:okB c=true)(a:¬c=88):48<=((c.toNat:Nat):Int)/\((c.toNat:Nat):Int)<58:=by
 simp only[okB,iG,bu,aA,cb]at h;have:¬c.toNat=88:=λe=>a (iL.1 (by simpa using e));omega
def Dc(up:Bool)(m:aa):(fil up m).length=m.length:=by simp[fil]
def O6(up:Bool){m:aa}(h:okM m):digl (fil up m):=by
 intro y hy;obtain⟨c,hc,rfl⟩:=eD.1 hy;by_cases a:c=88
 ·simp only[au a,aj];cases up<;>simp[fst]
 ·simp only[aw a,ah];exact Jv (h c hc) a
def zn(up:Bool):∀(m:aa),jL m (fil up m)=true
 | []=>rfl
 | c::m=>by
  have:=zn up m;simp only[fil,gJ,jL]at this ⊢;rw[this];by_cases a:c=88
  ·simp[a]
  ·simp[a]
def ft(up:Bool)(a b:Int):Prop:=match up with | true=>a<=b | false=>b<=a
def Dj(up:Bool):∀{m:aa} {e:List Int},okM m->m.length=e.length->digl e->jL m e=true->ft up (vl (fil up m)) (vl e)
 | [],[],_,_,_,_=>by cases up<;>simp[fil,vl,ft]
 | c::m,y::e,n,i,j,k=>by
  simp only[aC,ym]at i;simp only[jL,aA,iG,bu,cb]at k;have ih:=Dj up (sF n) i (dN j) k.2;have hy:=j y (by simp);have d:=Dc up m;have l:=O6 up (sF n);have a:∀z:Int,vl (z::fil up m)=(z - 48)*10 ^ m.length+vl (fil up m):=λz=>by rw[vl,d]
  have g:fil up (c::m)=(cond (decide (c=88)) (fst up) ((c.toNat:Nat):Int))::fil up m:=rfl;rw[g];by_cases f:c=88
  ·simp only[au f,aj];by_cases b:y=fst up
   ·rw[<-b,a,vl,<-i];cases up<;>simp only[ft]at ih ⊢<;>omega
   ·cases up
    ·exact Int.le_of_lt (UJ (by rw[d,i]) (dN j) l (by simp[fst]at b ⊢;omega))
    ·exact Int.le_of_lt (UJ (by rw[d,i]) l (dN j) (by simp[fst]at b ⊢;omega))
  ·simp only[aw f,ah];rw[k.1.resolve_left f,a,vl,<-i];cases up<;>simp only[ft]at ih ⊢<;>omega
 | [],_::_,_,h,_,_=>by simp at h
 | _::_,[],_,h,_,_=>by simp at h
def VD(up:Bool):∀{m:aa} {l:List Int},okM m->m.length=l.length->digl l->
  match nx up m l with
  | some r=>r.length=m.length/\digl r/\jL m r=true/\ft up (vl l) (vl r)/\∀e,e.length=m.length->digl e->jL m e=true->ft up (vl l) (vl e)->ft up (vl r) (vl e)
  | none=>∀e,e.length=m.length->digl e->jL m e=true->¬ft up (vl l) (vl e)
 | [],[],_,_,_=>by
  simp only[nx];refine⟨rfl,by intro y hy;simp at hy,rfl,by cases up<;>simp[ft],?_⟩;intro e D _ _ _;simp only[aX]at D;rw[tu D];cases up<;>simp[ft]
 | c::m,y::l,L,u,T=>by
  simp only[aC,ym]at u;have ih:=VD up (sF L) u (dN T);have hy:=T y (by simp);have A:=dN T;have t:=Dc up m;have B:=O6 up (sF L);have K:∀{z w:Int} {a b:List Int},a.length=m.length->b.length=m.length->digl a->digl b->z<w->vl (z::a)<vl (w::b):=λD J P N Q=>UJ (by rw[D,J]) P N Q;have f:∀(z:Int) {a b:List Int},a.length=m.length->b.length=m.length->(ft up (vl (z::a)) (vl (z::b))↔ft up (vl a) (vl b)):=λz a b D J=>by
   simp only[vl,D,J];cases up<;>simp only[ft]<;>omega
  have q:∀{z w:Int} {a b:List Int},a.length=m.length->b.length=m.length->digl a->digl b->z≠w->(ft up (vl (z::a)) (vl (w::b))↔ft up z w):=λ{z w a b} D J P N Q=>by
   rcases Int.lt_trichotomy z w with h | h | h
   ·have:=K D J P N h;cases up<;>simp only[ft]<;>omega
   ·exact absurd h Q
   ·have:=K J D N P h;cases up<;>simp only[ft]<;>omega
  have d:∀e:List Int,e.length=(c::m).length->∃w a,e=w::a/\a.length=m.length:=λe h=>by
   match e,h with
   | w::a,h=>exact⟨w,a,rfl,by simpa using h⟩
  by_cases g:c=88
  ·cases E:nx up m l with
   | some r=>
    rw[E]at ih;obtain⟨H,O,S,V,U⟩:=ih;simp only[nx,af g,E];refine⟨by simp[H],λz s=>?_,by simp[jL,g,S],(f y u.symm H).2 V,λe x j p o=>?_⟩
    ·rcases cN.1 s with rfl | s
     ·exact hy
     ·exact O z s
    ·obtain⟨w,a,rfl,i⟩:=d e x;simp only[jL,g,lP,Hz,rc]at p;by_cases C:y=w
     ·subst C;exact(f y H i).2 (U a i (dN j) p ((f y u.symm i).1 o))
     ·exact(q H i O (dN j) C).2 ((q u.symm i A (dN j) C).1 o)
   | none=>
    rw[E]at ih;by_cases k:y=lst up
    ·simp only[nx,af g,E,af k];intro e x j p o;obtain⟨w,a,rfl,i⟩:=d e x;simp only[jL,g,lP,Hz,rc]at p;have W:=j w (by simp);by_cases C:y=w
     ·subst C;exact ih a i (dN j) p ((f y u.symm i).1 o)
     ·have:=(q u.symm i A (dN j) C).1 o;cases up<;>simp only[ft,lst,aj,ah]at this k<;>omega
    ·simp only[nx,af g,E,ae k];have hs:48<=stp up y/\stp up y<58/\y≠stp up y/\ft up y (stp up y)/\∀w,w≠y->ft up y w->ft up (stp up y) w:=by
      cases up<;>simp only[ft,lst,stp,aj,ah]at k ⊢<;>exact⟨by omega,by omega,by omega,by omega,λw D J=>by omega⟩
     obtain⟨s1,s2,Y,X,s5⟩:=hs;refine⟨by simp[t],λz s=>?_,by simp[jL,g,zn],(q u.symm t A B Y).2 X,λe x j p o=>?_⟩
     ·rcases cN.1 s with rfl | s
      ·exact⟨s1,s2⟩
      ·exact B z s
     ·obtain⟨w,a,rfl,i⟩:=d e x;simp only[jL,g,lP,Hz,rc]at p;by_cases C:y=w
      ·subst C;exact absurd ((f y u.symm i).1 o) (ih a i (dN j) p)
      ·have Z:=s5 w (λh=>C h.symm) ((q u.symm i A (dN j) C).1 o);by_cases M:stp up y=w
       ·rw[M];exact(f w t i).2 (Dj up (sF L) i.symm (dN j) p)
       ·exact(q t i B (dN j) M).2 Z
  ·have R:=Jv (L c (by simp)) g;have F:∀w a,jL (c::m) (w::a)=true->w=((c.toNat:Nat):Int)/\jL m a=true:=λw a h=>by
    simp only[jL,aA,iG,bu,cb]at h;exact⟨(h.1.resolve_left g).symm,h.2⟩
   by_cases n:((c.toNat:Nat):Int)=y
   ·cases E:nx up m l with
    | some r=>
     rw[E]at ih;obtain⟨H,O,S,V,U⟩:=ih;simp only[nx,ae g,af n,E,fm];refine⟨by simp[H],λz s=>?_,by simp[jL,n,S],(f y u.symm H).2 V,λe x j p o=>?_⟩
     ·rcases cN.1 s with rfl | s
      ·exact hy
      ·exact O z s
     ·obtain⟨w,a,rfl,i⟩:=d e x;obtain⟨rfl,v⟩:=F w a p;rw[n]at o ⊢;exact(f y H i).2 (U a i (dN j) v ((f y u.symm i).1 o))
    | none=>
     rw[E]at ih;simp only[nx,ae g,af n,E,jo];intro e x j p o;obtain⟨w,a,rfl,i⟩:=d e x;obtain⟨rfl,v⟩:=F w a p;rw[n]at o;exact ih a i (dN j) v ((f y u.symm i).1 o)
   ·have I:decide (((c.toNat:Nat):Int)>y)=up↔ft up y ((c.toNat:Nat):Int):=by
     cases up
     ·simp only[ug,ft];omega
     ·simp only[cb,ft];omega
    by_cases G:decide (((c.toNat:Nat):Int)>y)=up
    ·simp only[nx,ae g,ae n,af G];refine⟨by simp[t],λz s=>?_,by simp[jL,zn],(q u.symm t A B (λh=>n h.symm)).2 (I.1 G),λe x j p o=>?_⟩
     ·rcases cN.1 s with rfl | s
      ·exact R
      ·exact B z s
     ·obtain⟨w,a,rfl,i⟩:=d e x;obtain⟨rfl,v⟩:=F w a p;exact(f _ t i).2 (Dj up (sF L) i.symm (dN j) v)
    ·simp only[nx,ae g,ae n,ae G];intro e x j p o;obtain⟨w,a,rfl,i⟩:=d e x;obtain⟨rfl,v⟩:=F w a p;exact G (I.2 ((q u.symm i A (dN j) (λh=>n h.symm)).1 o))
 | [],_::_,_,h,_=>by simp at h
 | _::_,[],_,h,_=>by simp at h
def ap:aa->List Int->Nat
 | c::m,y::l=>if c=88\/((c.toNat:Nat):Int)=y then ap m l+1 else 0
 | _,_=>0
def WJ:∀(m:aa) (l:List Int),ap m l<=m.length
 | [],_=>by simp[ap]
 | c::m,[]=>by simp[ap]
 | c::m,y::l=>by
  have:=WJ m l;simp only[ap,aC];split<;>omega
def MP:∀(m:aa) (l:List Int),jL (m.take (ap m l)) (l.take (ap m l))=true
 | [],_=>by simp[ap,jL]
 | c::m,[]=>by simp[ap,jL]
 | c::m,y::l=>by
  have:=MP m l;simp only[ap];split
  ·rename_i h;simp only[nq,jL,this,yy,iG,bu,cb];exact h
  ·rfl
def MO:∀{m:aa} {l:List Int} {c:UInt8} {y:Int},m[ap m l]?=some c->l[ap m l]?=some y->¬c=88/\¬((c.toNat:Nat):Int)=y
 | [],_,c,y,h,_=>by simp at h
 | x::m,[],c,y,_,h=>by simp at h
 | x::m,z::l,c,y,a,b=>by
  by_cases h:x=88\/((x.toNat:Nat):Int)=z
  ·simp only[ap,af h,E7]at a b;exact MO a b
  ·simp only[ap,ae h,lw,ar]at a b;subst a b;exact⟨λe=>h (.inl e),λe=>h (.inr e)⟩
def bkn(up:Bool):aa->List Int->aa->Option (List Int)
 | c::m,y::d,m'=>
  match bkn up m d m' with
  | some r=>some (y::r)
  | none=>if c=88/\y≠lst up then some (stp up y::fil up (m++m'))else none
 | _,_,_=>none
def Fv(up:Bool):∀{m m':aa} {d d':List Int},m.length=d.length->jL m d=true->
  nx up (m++m') (d++d')=match nx up m' d' with | some r=>some (d++r) | none=>bkn up m d m'
 | [],m',[],d',_,_=>by
  simp only[dQ];cases nx up m' d'<;>rfl
 | c::m,m',y::d,d',e,b=>by
  simp only[aC,ym]at e;simp only[jL,aA,iG,bu,cb]at b;have ih:=Fv up (m':=m') (d':=d') e b.2;simp only[eX,nx,ih,bkn];by_cases a:c=88
  ·simp only[af a];cases nx up m' d' with
   | some r=>rfl
   | none=>
    cases bkn up m d m' with
    | some r=>rfl
    | none=>
     by_cases hy:y=lst up
     ·simp[hy]
     ·simp[hy,a]
  ·simp only[ae a,af (b.1.resolve_left a)];cases nx up m' d' with
   | some r=>rfl
   | none=>
    cases bkn up m d m' with
    | some r=>rfl
    | none=>simp[a]
 | [],_,_::_,_,h,_=>by simp at h
 | _::_,_,[],_,h,_=>by simp at h
def Jp(up:Bool)(c:UInt8)(y:Int):∀{m m':aa} {d:List Int},m.length=d.length->
  bkn up (m++[c]) (d++[y]) m'=if c=88/\y≠lst up then some (d++stp up y::fil up m')else bkn up m d (c::m')
 | [],m',[],_=>by simp[bkn]
 | x::m,m',z::d,a=>by
  simp only[aC,ym]at a;have ih:=Jp up c y (m':=m') a;simp only[eX,bkn,ih];by_cases h:c=88/\y≠lst up
  ·simp only[af h]
  ·simp only[ae h,fa,eX,dQ]
 | [],_,_::_,h=>by simp at h
 | _::_,_,[],h=>by simp at h
def bki(up:Bool)(m:aa)(l:List Int):Nat->Option Nat
 | 0=>none
 | j+1=>if m[j]?=some 88/\l[j]?≠some (lst up)then some j else bki up m l j
def Sl(up:Bool)(m:aa)(l:List Int):∀{j a:Nat},bki up m l j=some a->a<j
 | 0,a,h=>by simp[bki]at h
 | j+1,a,h=>by
  simp only[bki]at h;split at h
  ·simp only[ar]at h;omega
  ·have:=Sl up m l h;omega
def Iz(up:Bool)(m:aa)(l:List Int)(hl:m.length=l.length):∀j,j<=m.length->
  bkn up (m.take j) (l.take j) (m.drop j)=(bki up m l j).map λa=>l.take a++stp up (l.getD a 0)::fil up (m.drop (a+1))
 | 0,_=>by simp[bkn,bki]
 | j+1,h=>by
  obtain⟨c,hc⟩:∃c,m[j]?=some c:=⟨m[j]'(by omega),bq (by omega)⟩;obtain⟨y,hy⟩:∃c,l[j]?=some c:=⟨l[j]'(by omega),bq (by omega)⟩;have ih:=Iz up m l hl j (by omega);rw[gg hc]at ih;rw[qJ,qJ,hc,hy];simp only[Option.toList_some];rw[Jp up c y (by simp;omega),ih];have hg:l.getD j 0=y:=by rw[Fo,hy];rfl
  simp only[bki,hc,hy,ne_eq,ar];by_cases hh:c=88/\¬y=lst up
  ·rw[af hh,af hh,fm,hg]
  ·rw[ae hh,ae hh]
section
variable {m:List UInt8} {l z:List Int}
def mK(hl:m.length=l.length)(h18:m.length<=18)(k f g:Int)(up:Bool):
  av (fR 20000000) 20000000 (m,k,up,f,g,0,over z 0 l,over z 0 l)=some (m,k,up,f,g,((ap m l:Nat):Int),over z 0 l,over z 0 l):=by
 have:=gp (step:=fR 20000000) (λx=>x.1=m/\(0<=x.2.2.2.2.2.1/\x.2.2.2.2.2.1<=m.length)/\x.2.2.2.2.2.2.1=over z 0 l) (λx=>m.length - x.2.2.2.2.2.1.toNat)
  (λx=>(x.1,x.2.1,x.2.2.1,x.2.2.2.1,x.2.2.2.2.1,x.2.2.2.2.2.1+((ap (m.drop x.2.2.2.2.2.1.toNat) (l.drop x.2.2.2.2.2.1.toNat):Nat):Int),x.2.2.2.2.2.2.1,x.2.2.2.2.2.2.2)) ?_ 20000000 (m,k,up,f,g,0,over z 0 l,over z 0 l) ⟨rfl,⟨by simp,by simp⟩,rfl⟩ (by simp;omega)
 ·simpa using this
 rintro⟨m',k,up,f,g,i,d,o⟩ ⟨q1,⟨h0,hi⟩,q2⟩;simp only at q1 h0 hi q2 ⊢;subst q1 q2;obtain⟨j,rfl⟩:∃j:Nat,i=j:=⟨i.toNat,by omega⟩;simp only[bX];rcases aN j m'.length with hlt | hge
 ·obtain⟨c,hc⟩:∃c,m'[j]?=some c:=⟨m'[j],bq hlt⟩;obtain⟨y,hy⟩:∃c,l[j]?=some c:=⟨l[j]'(by omega),bq (by omega)⟩;have hg:(over z 0 l)[j]?=some y:=by rw[wV (by omega)];exact hy
  have hb:(decide ((j:Int)<((List.length m':Nat):Int)))=true:=by simp;omega
  have hw:wrap .i64 ((j:Int)+1)=((j+1:Nat):Int):=by rw[wrap_i64 _ (by omega) (by omega)];omega
  rw[gg hc,gg hy];simp only[fR,hb,aj,lD hc,ob,CV,hw,cG (show j<18 by omega),hg,ap];by_cases h88:c=88
  ·refine .inl ⟨(m',k,up,f,g,((j+1:Nat):Int),over z 0 l,o),by simp only[au h88,aj],⟨rfl,⟨by simp only;omega,by simp only;omega⟩,rfl⟩,by simp only[bX];omega,?_⟩;simp only[bX,af (show c=88\/((c.toNat:Nat):Int)=y from .inl h88)];congr 6;omega
  ·simp only[aw h88,ah];by_cases hcy:((c.toNat:Nat):Int)=y
   ·have e:(((c.toNat:Nat):Int)==y)=true:=by simpa using hcy
    refine .inl ⟨(m',k,up,f,g,((j+1:Nat):Int),over z 0 l,o),by simp only[e,aj],⟨rfl,⟨by simp only;omega,by simp only;omega⟩,rfl⟩,by simp only[bX];omega,?_⟩;simp only[bX,af (show c=88\/((c.toNat:Nat):Int)=y from .inr hcy)];congr 6;omega
   ·have e:(((c.toNat:Nat):Int)==y)=false:=by simpa using hcy
    refine .inr ?_;simp only[e,ah,ae (show¬(c=88\/((c.toNat:Nat):Int)=y)fromλh=>h.elim h88 hcy),Int.ofNat_zero,Int.add_zero,Int.natCast_zero]
 ·have hb:(decide ((j:Int)<((List.length m':Nat):Int)))=false:=by simp;omega
  refine .inr ?_;simp only[fR,hb,ah];rw[l9 hge];simp[ap]
def OE(hl:m.length=l.length)(h18:m.length<=18)(f:Int)(up:Bool)(o:List Int)(i:Nat)(hi:i<=m.length):
  av (cJ 20000000) 20000000 (m,up,f,lst up,(i:Int),over z 0 l,o) =
   some (match bki up m l i with | none=>.inl (0,16) | some a=>.inr (m,up,f,((a:Nat):Int),o)):=by
 have:=gp (step:=cJ 20000000) (λx=>x.1=m/\x.2.2.2.1=lst up/\(0<=x.2.2.2.2.1/\x.2.2.2.2.1<=m.length)/\x.2.2.2.2.2.1=over z 0 l) (λx=>x.2.2.2.2.1.toNat)
  (λx=>match bki up m l x.2.2.2.2.1.toNat with | none=>.inl (0,16) | some a=>.inr (x.1,x.2.1,x.2.2.1,((a:Nat):Int),x.2.2.2.2.2.2)) ?_ 20000000 (m,up,f,lst up,(i:Int),over z 0 l,o) ⟨rfl,rfl,⟨by simp only;omega,by simp only;omega⟩,rfl⟩ (by simp;omega)
 ·simpa using this
 rintro⟨m',up',f,g,i,d,o⟩ ⟨q1,q3,⟨h0,hi⟩,q2⟩;simp only at q1 q3 h0 hi q2 ⊢;subst q1 q2 q3;obtain⟨j,rfl⟩:∃j:Nat,i=j:=⟨i.toNat,by omega⟩;simp only[bX];rcases j with _ | j
 ·refine .inr ?_;have w:wrap .i64 (((0:Nat):Int) - 1)=-1:=wrap_i64 _ (by omega) (by omega);simp only[cJ,w,show decide ((-1:Int)<0)=true from rfl,aj,bki]
 ·have w:wrap .i64 (((j+1:Nat):Int) - 1)=(j:Int):=by rw[wrap_i64 _ (by omega) (by omega)];omega
  have e0:decide ((j:Int)<0)=false:=by simp
  obtain⟨c,hc⟩:∃c,m'[j]?=some c:=⟨m'[j]'(by omega),bq (by omega)⟩;obtain⟨y,hy⟩:∃c,l[j]?=some c:=⟨l[j]'(by omega),bq (by omega)⟩;have hg:(over z 0 l)[j]?=some y:=by rw[wV (by omega)];exact hy
  simp only[cJ,w,e0,ah,lD hc,ob,CV,cG (show j<18 by omega),hg,bki,hc,hy,ar,ne_eq];by_cases h88:c=88
  ·by_cases hy9:y=lst up
   ·have e:(y != lst up)=false:=by simpa using hy9
    refine .inl ⟨(m',up',f,lst up,(j:Int),over z 0 l,o),by simp only[au h88,aj,e,ah],⟨rfl,rfl,⟨by simp only;omega,by simp only;omega⟩,rfl⟩,by simp only[bX];omega,?_⟩;simp only[bX,ae (show¬(c=88/\¬y=lst up)fromλh=>h.2 hy9)]
   ·have e:(y != lst up)=true:=by simpa using hy9
    refine .inr ?_;simp only[au h88,aj,e,af (show c=88/\¬y=lst up from⟨h88,hy9⟩)]
  ·refine .inl ⟨(m',up',f,lst up,(j:Int),over z 0 l,o),by simp only[aw h88,ah],⟨rfl,rfl,⟨by simp only;omega,by simp only;omega⟩,rfl⟩,by simp only[bX];omega,?_⟩;simp only[bX,ae (show¬(c=88/\¬y=lst up)fromλh=>h88 h.1)]
def EP(s:m.length<=18)(up:Bool)(d:List Int)(e:d.length=18)(i:Nat)(hi:i<=m.length):
  av (bA 20000000) 20000000 (m,fst up,(i:Int),d)=some (m,over d i (fil up (m.drop i))):=by
 have:=gp (step:=bA 20000000) (λx=>x.1=m/\x.2.1=fst up/\(0<=x.2.2.1/\x.2.2.1<=m.length)/\x.2.2.2.length=18) (λx=>m.length - x.2.2.1.toNat)
  (λx=>(m,over x.2.2.2 x.2.2.1.toNat (fil up (m.drop x.2.2.1.toNat)))) ?_ 20000000 (m,fst up,(i:Int),d) ⟨rfl,rfl,⟨by simp only;omega,by simp only;omega⟩,e⟩ (by simp;omega)
 ·simpa using this
 rintro⟨m',f,i,d⟩ ⟨l,n,⟨q,hi⟩,e⟩;simp only at l n q hi e ⊢;subst l n;obtain⟨j,rfl⟩:∃j:Nat,i=j:=⟨i.toNat,by omega⟩;simp only[bX];rcases aN j m'.length with k | h
 ·obtain⟨c,hc⟩:∃c,m'[j]?=some c:=⟨m'[j],bq k⟩;have o:j<18:=by omega
  have g:(decide ((j:Int)<((List.length m':Nat):Int)))=true:=by simp;omega
  have p:wrap .i64 ((j:Int)+1)=((j+1:Nat):Int):=by rw[wrap_i64 _ (by omega) (by omega)];omega
  have r:Nat.blt j 18=true:=cr o;have b:∀c:UInt8,fil up (c::m'.drop (j+1))=(cond (decide (c=88)) (fst up) ((c.toNat:Nat):Int))::fil up (m'.drop (j+1)):=λ_=>rfl;rw[gg hc,b];simp only[bA,g,aj,lD hc,ob,CV,cG o,r,p];by_cases a:c=88
  ·refine .inl ⟨(m',fst up,((j+1:Nat):Int),(d.set j ((c.toNat:Nat):Int)).set j (fst up)),by simp only[au a,aj],⟨rfl,rfl,⟨by simp only;omega,by simp only;omega⟩,by simpa using e⟩,by simp only[bX];omega,?_⟩;simp only[bX,au a,aj];rw[List.set_set,BJ _ _ _ _ (by omega)]
  ·refine .inl ⟨(m',fst up,((j+1:Nat):Int),d.set j ((c.toNat:Nat):Int)),by simp only[aw a,ah],⟨rfl,rfl,⟨by simp only;omega,by simp only;omega⟩,by simpa using e⟩,by simp only[bX];omega,?_⟩;simp only[bX,aw a,ah];rw[BJ _ _ _ _ (by omega)]
 ·have g:(decide ((j:Int)<((List.length m':Nat):Int)))=false:=by simp;omega
  refine .inr ?_;simp only[bA,g,ah];rw[l9 h];simp[fil,HC]
def Fg(z l F:List Int)(i:Nat)(h:i+F.length=l.length):over (over z 0 l) i F=over z 0 (l.take i++F):=by
 unfold over;simp only[nr,dQ,cU,aH,cS,rL (show i<=l.length by omega),h];rw[vn (by omega),List.drop_append_of_le_length (by omega),List.drop_of_length_le (bg l.length)];simp
end
def O7{m:aa}(hm:chk m=0)(up:Bool)(k:Int)(h0:0<=k)(h1:k<10 ^ m.length):
  dL 20000000 m k up=some (match nx up m (dg m.length k)with | some r=>(vl r,0) | none=>(0,16)):=by
 obtain⟨h18,_,hok⟩:=oe hm;have hp:=Ee m.length h18;have hlen:=yV m.length k;have hrng:=ut m.length k;have hv:=RP m.length k h0 h1;have hn:=VD up hok hlen.symm hrng;have hsplit:=P1 m k h18 h0 (by omega);generalize dg m.length k=l at hlen hrng hv hn hsplit ⊢;have hout:(over [0,0,0,0,0,0,0,0,0,0,0,0,0,0,0,0,0,0] 0 l).length=18:=by rw[P5 _ _ _ (by simp;omega)];rfl
 have fin:∀r:List Int,nx up m l=some r->gU 20000000 m (over [0,0,0,0,0,0,0,0,0,0,0,0,0,0,0,0,0,0] 0 r)=some (vl r):=by
  intro r hr;rw[hr]at hn;obtain⟨i1,i2,_⟩:=hn;rw[Rk _ h18 i1 i2,BE i2]
 have hap:=WJ m l;have hagr:=MP m l;have happ:=Fv up (m:=m.take (ap m l)) (m':=m.drop (ap m l)) (d:=l.take (ap m l)) (d':=l.drop (ap m l)) (by simp;omega) hagr;rw[tH,tH]at happ;have hz0:md 20000000 m k=some (over [0,0,0,0,0,0,0,0,0,0,0,0,0,0,0,0,0,0] 0 l):=hsplit;generalize hzz:([0,0,0,0,0,0,0,0,0,0,0,0,0,0,0,0,0,0]:List Int)=z at hout fin hz0;rcases aN (ap m l) m.length with hlt | hge
 ·obtain⟨c,hc⟩:∃c,m[ap m l]?=some c:=⟨m[ap m l],bq hlt⟩;obtain⟨y,hy⟩:∃c,l[ap m l]?=some c:=⟨l[ap m l]'(by omega),bq (by omega)⟩;obtain⟨h88,hcy⟩:=MO hc hy;have hg:(over z 0 l)[ap m l]?=some y:=by rw[wV (by omega)];exact hy
  have eL:(((ap m l:Nat):Int)==((List.length m:Nat):Int))=false:=by simp;omega
  have hj:ap m l<18:=by omega
  have hfc:fil up (m.drop (ap m l))=((c.toNat:Nat):Int)::fil up (m.drop (ap m l+1)):=by
   rw[gg hc];simp[fil,h88]
  have hbk:=Iz up m l hlen.symm (ap m l) hap;have hnx:nx up (m.drop (ap m l)) (l.drop (ap m l))=if decide (((c.toNat:Nat):Int)>y)=up then some (fil up (m.drop (ap m l)))else none:=by
   rw[hfc,gg hc,gg hy];simp only[nx,ae h88,ae hcy]
  rw[hnx]at happ;by_cases hup:decide (((c.toNat:Nat):Int)>y)=up
  ·rw[af hup]at happ;simp only at happ;have f2:=fin _ happ;rw[happ];simp only[];rw[<-Fg z l _ _ (by rw[Dc,cj];omega)]at f2;have l2:=EP h18 up _ hout (ap m l) hap;cases up
   ·have l0:=mK (z:=z) hlen.symm h18 k 57 48 false;have l2':av (bA 20000000) 20000000 (m,57,((ap m l:Nat):Int),over z 0 l)=_:=l2;simp only[dL,kV,aj,hz0,ob,l0,eL,ah,lD hc,cG hj,hg,hup,lP,dT,l2',f2]
   ·have l0:=mK (z:=z) hlen.symm h18 k 48 57 true;have l2':av (bA 20000000) 20000000 (m,48,((ap m l:Nat):Int),over z 0 l)=_:=l2;simp only[dL,dT,aj,hz0,ob,l0,eL,ah,lD hc,cG hj,hg,hup,lP,l2',f2]
  ·rw[ae hup]at happ;simp only[hbk]at happ;have hne:(!(decide (((c.toNat:Nat):Int)>y)==up))=true:=by
    cases up<;>cases hh:decide (((c.toNat:Nat):Int)>y)<;>simp_all
   have l1:=OE (z:=z) hlen.symm h18 (fst up) up (over z 0 l) (ap m l) hap;cases hb:bki up m l (ap m l)with
   | none=>
    rw[hb]at happ l1;simp only[jo]at happ;rw[happ];simp only[]at l1 ⊢;cases up
    ·have l0:=mK (z:=z) hlen.symm h18 k 57 48 false;have l1':av (cJ 20000000) 20000000 (m,false,57,48,((ap m l:Nat):Int),over z 0 l,over z 0 l)=_:=l1;simp only[dL,kV,aj,hz0,ob,l0,eL,ah,lD hc,cG hj,hg,hne,l1']
    ·have l0:=mK (z:=z) hlen.symm h18 k 48 57 true;have l1':av (cJ 20000000) 20000000 (m,true,48,57,((ap m l:Nat):Int),over z 0 l,over z 0 l)=_:=l1;simp only[dL,dT,aj,hz0,ob,l0,eL,ah,lD hc,cG hj,hg,hne,l1']
   | some a=>
    have ha:=Sl up m l hb;obtain⟨w,hw⟩:∃c,l[a]?=some c:=⟨l[a]'(by omega),bq (by omega)⟩;have hga:(over z 0 l)[a]?=some w:=by rw[wV (by omega)];exact hw
    have hgd:l.getD a 0=w:=by rw[Fo,hw];rfl
    have hwr:=hrng w (fh hw);have haj:a<18:=by omega
    have e2:Nat.blt a 18=true:=cr haj;have w1:wrap .i64 ((a:Int)+1)=((a+1:Nat):Int):=by rw[wrap_i64 _ (by omega) (by omega)];omega
    rw[hb]at happ l1;simp only[fm,hgd]at happ;have f2:=fin _ happ;rw[happ];simp only[]at l1 ⊢;rw[<-Fg z l _ _ (by rw[aC,Dc,cj];omega),<-BJ _ _ _ _ (by omega)]at f2;have l2:=EP h18 up ((over z 0 l).set a (stp up w)) (by simpa using hout) (a+1) (by omega);cases up
    ·have l0:=mK (z:=z) hlen.symm h18 k 57 48 false;have l1':av (cJ 20000000) 20000000 (m,false,57,48,((ap m l:Nat):Int),over z 0 l,over z 0 l)=some (.inr (m,false,57,((a:Nat):Int),over z 0 l)):=l1;have l2':av (bA 20000000) 20000000 (m,57,((a+1:Nat):Int),(over z 0 l).set a (w - 1))=_:=l2;have w2:wrap .u8 (w - 1)=w - 1:=gD _ (by omega) (by omega);simp only[dL,kV,aj,hz0,ob,l0,eL,ah,lD hc,cG hj,hg,hne,l1',cG haj,hga,e2,w1,w2,l2',f2]
    ·have l0:=mK (z:=z) hlen.symm h18 k 48 57 true;have l1':av (cJ 20000000) 20000000 (m,true,48,57,((ap m l:Nat):Int),over z 0 l,over z 0 l)=some (.inr (m,true,48,((a:Nat):Int),over z 0 l)):=l1;have l2':av (bA 20000000) 20000000 (m,48,((a+1:Nat):Int),(over z 0 l).set a (w+1))=_:=l2;have w2:wrap .u8 (w+1)=w+1:=gD _ (by omega) (by omega);simp only[dL,dT,aj,hz0,ob,l0,eL,ah,lD hc,cG hj,hg,hne,l1',cG haj,hga,e2,w1,w2,l2',f2]
 ·have e:ap m l=m.length:=by omega
  rw[e,AX,<-hlen,AX,oq]at happ;simp only[nx,ko]at happ;have eL:(((ap m l:Nat):Int)==((List.length m:Nat):Int))=true:=by rw[e];simp
  rw[happ];simp only[hv];cases up
  ·have l0:=mK (z:=z) hlen.symm h18 k 57 48 false;simp only[dL,kV,aj,hz0,ob,l0,eL]
  ·have l0:=mK (z:=z) hlen.symm h18 k 48 57 true;simp only[dL,dT,ah,hz0,ob,l0,eL,aj]
def near(up:Bool)(m:aa)(k:Int):Option Int->Prop
 | some R=>hasM m R=true/\ft up k R/\∀e,hasM m e=true->ft up k e->ft up R e
 | none=>∀e,hasM m e=true->¬ft up k e
def res(o:Option Int):Int×Int:=match o with | some r=>(r,0) | none=>(0,16)
def pw{m:aa}{e:Int}(h:hasM m e=true):(dg m.length e).length=m.length/\digl (dg m.length e)/\jL m (dg m.length e)=true/\vl (dg m.length e)=e/\0<=e/\e<10 ^ m.length:=by
 unfold hasM at h;simp only[aA,cb]at h;exact⟨yV _ _,ut _ _,h.2.2,RP _ _ h.1 h.2.1,h.1,h.2.1⟩
def UA{m:aa}{r:List Int}(d:r.length=m.length)(b:digl r)(e:jL m r=true):hasM m (vl r)=true:=by
 have a:=wU b;have c:=Yv b;rw[d]at a c;unfold hasM;rw[c,e,au a.1,au a.2];rfl
def yi{m:aa}(p:chk m=0)(up:Bool)(k:Int)(q:0<=k)(l:k<10 ^ m.length):∃o,dL 20000000 m k up=some (res o)/\near up m k o:=by
 obtain⟨v,_,c⟩:=oe p;have a:=VD up c (yV m.length k).symm (ut m.length k);have g:=RP m.length k q l;refine⟨(nx up m (dg m.length k)).map vl,?_,?_⟩
 ·rw[O7 p up k q l];cases nx up m (dg m.length k)<;>rfl
 ·cases hx:nx up m (dg m.length k)with
  | none=>
   rw[hx]at a;intro e f h;obtain⟨d,i,j,b,_⟩:=pw f;exact a _ d i j (by rw[g,b];exact h)
  | some r=>
   rw[hx]at a;obtain⟨s,u,t,n,w⟩:=a;refine⟨UA s u t,by rw[g]at n;exact n,λe f h=>?_⟩;obtain⟨d,i,j,b,_⟩:=pw f;have:=w _ d i j (by rw[g,b];exact h);rwa[b]at this
def Jn{m:aa}{e:Int}(h:hasM m e=true):0<=idx m.reverse e/\idx m.reverse e<10 ^ cnt m/\nth m.reverse (idx m.reverse e)=e:=by
 rw[GE]at h;simp only[aA,cb]at h;obtain⟨k0,k1,k2⟩:=h;have:=yC m.reverse e k0;rw[uf]at this;exact⟨this.1,this.2,NE k0 (by rw[vI];exact k1) k2⟩
section
variable {m:List UInt8} (hm:chk m=0)
include hm
def Lo{i j:Int}(d:0<=i)(b:i<=j)(c:j<10 ^ cnt m):nth m.reverse i<=nth m.reverse j:=by
 obtain⟨e,_,a⟩:=oe hm;rcases Int.lt_or_eq_of_le b with h | rfl
 ·exact Int.le_of_lt (BH (AA a) i j d h (by rw[uf];exact c))
 ·exact uz _
def Ep(k:Int):m9 20000000 m k=some (decide (0<=k/\k<10 ^ m.length)):=by
 obtain⟨b,_,c⟩:=oe hm;simp only[m9,PR m.length b,ob];by_cases a:0<=k
 ·have d0:decide (k>=0)=true:=by simpa using a
  simp only[d0,aj,a,kO,pg]
 ·have d0:decide (k>=0)=false:=by simpa using a
  simp only[d0,ah,a,yR,oJ]
def Nv(k:Int):∃o,sH 20000000 m k=some (res o)/\near true m k o:=by
 obtain⟨q,_,a⟩:=oe hm;have n:((0:Int) != 0)=false:=by simp
 simp only[sH,mF 20000000 m (by omega),hm,nB,n,ah,Ep hm];by_cases d:k<0
 ·refine⟨some (nth m.reverse 0),by simp only[au d,aj,Qu hm,nB,res],HU hm (by omega),?_,λe b f=>?_⟩
  ·have:=(rG (AA a) 0 (by omega)).1;simp only[ft];omega
  ·obtain⟨p,g,r⟩:=Jn b;have:=Lo hm (uz 0) p g;simp only[ft];omega
 ·by_cases c:k<10 ^ m.length
  ·obtain⟨o,l,j⟩:=yi hm true k (by omega) c;exact⟨o,by simp only[aw d,ah,au (show 0<=k/\k<10 ^ m.length from⟨by omega,c⟩),dT,l,nB],j⟩
  ·refine⟨none,by simp only[aw d,ah,aw (show¬(0<=k/\k<10 ^ m.length)fromλh=>c h.2),kV,aj,res],λe b f=>?_⟩;obtain⟨_,_,_,_,_,i⟩:=pw b;simp only[ft]at f;omega
def Oz(k:Int):∃o,sN 20000000 m k=some (res o)/\near false m k o:=by
 obtain⟨n,_,a⟩:=oe hm;have l:((0:Int) != 0)=false:=by simp
 simp only[sN,mF 20000000 m (by omega),hm,nB,l,ah,Ep hm];by_cases d:k<0
 ·refine⟨none,by simp only[au d,aj,res],λe b f=>?_⟩;obtain⟨_,_,_,_,i,_⟩:=pw b;simp only[ft]at f;omega
 ·by_cases c:k<10 ^ m.length
  ·obtain⟨o,q,j⟩:=yi hm false k (by omega) c;exact⟨o,by simp only[aw d,ah,au (show 0<=k/\k<10 ^ m.length from⟨by omega,c⟩),dT,q,nB],j⟩
  ·have g:=uG (cnt m);refine⟨some (nth m.reverse (10 ^ cnt m - 1)),by simp only[aw d,ah,aw (show¬(0<=k/\k<10 ^ m.length)fromλh=>c h.2),kV,aj,F5 hm,nB,res],HU hm (by omega),?_,λe b f=>?_⟩
   ·have:=(rG (AA a) (10 ^ cnt m - 1) (by omega)).2;rw[vI]at this;simp only[ft];omega
   ·obtain⟨p,r,s⟩:=Jn b;have:=Lo hm p (show idx m.reverse e<=10 ^ cnt m - 1 by omega) (by omega);simp only[ft];omega
end
end Go.Sh.Mk
namespace Go.Sh
open Go.Abs
def fitN(s:aa)(g:Nat):List Nat:=(List.range' 1 g).filter (agr s)
def uP(l:List Nat):List Int:=l.map λk:Nat=>(k:Int)
def FD(l:List Nat):(uP l).length=l.length:=by simp[uP]
def EE(c:UInt8){j:Nat}(d:j<10):(wrap .i64 (wrap .u8 (((c.toNat:Nat):Int) - 48))==((j:Nat):Int))=(c==UInt8.ofNat (48+j)):=by
 have hc:=c.toNat_lt;have a:=Ds (((c.toNat:Nat):Int) - 48);rw[wrap_i64 _ (by omega) (by omega),JI,uJ,bu,bu];have b:(UInt8.ofNat (48+j)).toNat=48+j:=by simp;omega
 constructor
 ·intro h;apply iL.1;omega
 ·rintro rfl;omega
def Ol(n:Nat)(a b:UInt8){k:Nat}(l:k<=31):lJ n [a,b] (k:Int)=some (agr [a,b] k):=by
 have d:wrap .i64 (Int.tdiv (k:Int) 10)=((k / 10:Nat):Int):=by
  rw[show Int.tdiv (k:Int) 10=((k / 10:Nat):Int)from rfl,wrap_i64 _ (by omega) (by omega)]
 have h:Int.tmod (k:Int) 10=((k%10:Nat):Int):=rfl;have s0:sx [a,b] 0=some a:=rfl;have g:sx [a,b] 1=some b:=rfl;have c:(88:Int)=((88:Nat):Int):=rfl;unfold lJ;simp only[s0,g,ob,d,h];rw[EE a (show k / 10<10 by omega),EE b (show k%10<10 by omega),c,vP (by omega),vP (by omega)];show _=some ((a==UInt8.ofNat 88||a==UInt8.ofNat (48+k / 10))&&(b==UInt8.ofNat 88||b==UInt8.ofNat (48+k%10)));generalize(a==UInt8.ofNat 88)=f;generalize(b==UInt8.ofNat 88)=i;generalize(a==UInt8.ofNat (48+k / 10))=j;generalize(b==UInt8.ofNat (48+k%10))=e;cases f<;>cases i<;>cases j<;>cases e<;>rfl
def room{k:Nat}(h:k<=60000000):Nat.ble (k+1) dj=true:=cr (by unfold dj;omega)
def H4{X Y:Type}{step:X->Option (X⊕Y)}{f:Nat->List Int->X}{y:List Int->Y}{p:Nat->Bool}{g:Nat}(e:g<=1000)
  (h:∀i out,i<g->out.length<=1000->step (f i out)=some (.inl (f (i+1) (if p (i+1)then out++[((i+1:Nat):Int)]else out))))
  (c:∀out,step (f g out)=some (.inr (y out))) {N:Nat} (a:g<N):av step N (f 0 [])=some (y (uP ((List.range' 1 g).filter p))):=by
 have b:∀(r i:Nat) (out:List Int),i+r=g->out.length<=i->∀N,r<N->av step N (f i out)=some (y (out++uP ((List.range' (i+1) r).filter p))):=by
  intro r
  induction r with
  | zero=>
   intro i out hi d N a;obtain⟨N,rfl⟩:∃q,N=q+1:=⟨N - 1,by omega⟩;obtain rfl:i=g:=by omega
   rw[av,c];simp[uP]
  | succ r ih=>
   intro i out hi d N a;obtain⟨N,rfl⟩:∃q,N=q+1:=⟨N - 1,by omega⟩;rw[av,h i out (by omega) (by omega)];show av step N _=_;by_cases hp:p (i+1)=true
   ·rw[af hp,ih (i+1) _ (by omega) (by simp;omega) N (by omega),xd,SQ hp];simp[uP]
   ·rw[ae hp,ih (i+1) _ (by omega) (by omega) N (by omega),xd,Tu hp]
 have:=b g 0 [] (by omega) (by simp) N a;simpa using this
def Ot (n:Nat) (e:100<n) (a b:UInt8) {g:Nat} (h:g<=31):fC n [a,b] (g:Int)=some (uP (fitN [a,b] g)):=by
 unfold fC
 have:=H4 (step:=gk n) (f:=λi out=>([a,b],(g:Int),(i:Int),out)) (y:=λl=>l) (p:=agr [a,b]) (g:=g) (by omega)
  (λi out hi j=>by
   have c:wrap .i64 ((i:Int)+1)=((i+1:Nat):Int):=by rw [wrap_i64 _ (by omega) (by omega)];omega
   unfold gk;simp only [c];rw [au (show (i:Int)<(g:Int) by omega),Ol n a b (by omega),room (by omega)];by_cases hp:agr [a,b] (i+1)=true
   ·rw [af hp];simp only [ob,hp,aj]
   ·rw [ae hp];rw [Iq] at hp;simp only [ob,hp,aj,ah])
  (λout=>by
   unfold gk;simp only [aw (show ¬(g:Int)<(g:Int) by omega),ah])
  (N:=n) (by omega)
 have d:av (gk n) n ([a,b],(g:Int),0,([]:List Int))=_:=this;rw [d];rfl
def monI(m:aa):List Int:=if m=[]then[0]else if 0<sea m then[sea m]else uP (fitN m 12)
def dayI(d:aa):List Int:=if d=[]then[0]else uP (fitN d 31)
def gm{l:aa}(h:l≠[]):(l==([]:aa))=false:=aL.2 h
def len2{s:aa}(h:s.length=2):∃a b,s=[a,b]:=by
 match s,h with
 | [a,b],_=>exact⟨a,b,rfl⟩
def Yz(n:Nat)(j:100<n)(g l:Bool)(dg:aa)(x q:Int)(m d:aa)(k0 k1 k2:Int)(k:m=[]\/m.length=2)(p:d=[]\/d.length=2):
  qm n g l dg x q m d k0 k1 k2=some (g,l,dg,x,q,m,d,k0,k1,k2,monI m,dayI d):=by
 have i:m.length<=18:=by rcases k with h | h;(rw[h];simp);omega
 have f:d≠[]->fC n d 31=some (dayI d):=λh=>by
  obtain⟨a,b,rfl⟩:=len2 (p.resolve_left h);rw[show(31:Int)=((31:Nat):Int)from rfl,Ot n j a b (by omega)];unfold dayI;rw[ae h]
 have e:d=[]->dayI d=[0]:=λh=>by unfold dayI;rw[af h]
 have o:m≠[]->¬0<sea m->fC n m 12=some (monI m):=λh hs=>by
  obtain⟨a,b,rfl⟩:=len2 (k.resolve_left h);rw[show(12:Int)=((12:Nat):Int)from rfl,Ot n j a b (by omega)];unfold monI;rw[ae h,ae hs]
 unfold qm;rw[rS n g l dg x q m d k0 k1 k2 i];simp only[ob];by_cases hs:0<sea m
 ·have c:m≠[]:=by rintro rfl;exact absurd hs (by decide)
  have hm':monI m=[sea m]:=by unfold monI;rw[ae c,af hs]
  rw[au hs];by_cases h:d=[]
  ·rw[h,<-h,e h,hm',h];rfl
  ·rw[gm h,f h,hm'];rfl
 ·rw[aw hs];by_cases c:m=[]
  ·have hm':monI m=[0]:=by unfold monI;rw[af c]
   by_cases h:d=[]
   ·rw[e h,hm',h,c];rfl
   ·rw[gm h,f h,hm',c];rfl
  ·rw[gm c,o c hs];by_cases h:d=[]
   ·rw[e h,h];rfl
   ·rw[gm h,f h];rfl
def KR (n:Nat) (b:100<n) (g l:Bool) (dg:aa) (x q:Int) (m d:aa) (k0 k1 k2:Int):jX n g l dg x q m d k0 k1 k2=some (monI m):=by
 unfold jX;by_cases a:m=[]
 ·unfold monI;rw [af a,a];rfl
 ·rw [gm a,oc n b];simp only [ob,ah];unfold monI;rw [ae a];by_cases hs:0<sea m
  ·rw [af hs,au (show sea m>0 from hs)];rfl
  ·rw [ae hs,aw (show ¬sea m>0 from hs)]
   have:=H4 (step:=ee n) (f:=λi out=>(((i+1:Nat):Int),g,l,dg,x,q,m,d,k0,k1,k2,out)) (y:=λl=>l) (p:=agr m) (g:=12) (by omega)
    (λi out hi h=>by
     have e:wrap .i64 (((i+1:Nat):Int)+1)=((i+1+1:Nat):Int):=by rw [wrap_i64 _ (by omega) (by omega)];omega
     unfold ee;simp only [d4,d8,e];rw [au (show ((i+1:Nat):Int)<=12 by omega),vi n m (i+1) (by omega),room (by omega)];by_cases hp:agr m (i+1)=true
     ·rw [af hp,af hp];rfl
     ·rw [ae hp,ae hp];rfl)
    (λout=>by
     unfold ee;simp only [d4,d8,aw (show ¬((12+1:Nat):Int)<=12 by omega),ah])
    (N:=n) (by omega)
   have c:av (ee n) n (1,g,l,dg,x,q,m,d,k0,k1,k2,([]:List Int))=_:=this;rw [c];rfl
def tY(y:Int):Bool:=decide (y%4=0)&&(decide (y%100≠0)||decide (y%400=0))
def lenI(y m:Int):Int:=if m=4\/m=6\/m=9\/m=11 then 30 else if m=2 then(if tY y then 29 else 28)else 31
def NN(y:Int){b:Int}(c:0<b):(Int.tmod y b==0)=decide (y%b=0):=by
 rw[uJ,bu,decide_eq_true_iff];have h:=M6 (a:=y) (b:=b);have f:=Nk y (show b≠0 by omega);have g:=MV y c;by_cases hc:0<=y\/b∣y
 ·rw[af hc]at h;omega
 ·rw[ae hc]at h;have d:¬b∣y:=λe=>hc (.inr e);have:y%b≠0:=λe=>d (MW e);omega
def BM(n:Nat)(y m:Int):eS n y m=some (lenI y m):=by
 have b:(Int.tmod y 100 != 0)=decide (y%100≠0):=by
  rw[bne,NN y (by omega)];by_cases h:y%100=0<;>simp[h]
 unfold eS;rw[NN y (by omega),NN y (by omega),b];have body:(cond (m==2) (cond (decide (y%4=0)) (cond (decide (y%100≠0)) (some (29:Int)) (cond (decide (y%400=0)) (some 29) (some 28))) (some 28)) (some 31))=some (if m=2 then(if tY y=true then 29 else 28)else 31):=by
  rw[ii];by_cases c:m=2
  ·rw[af c,af c];unfold tY;cases decide (y%4=0)<;>cases decide (y%100≠0)<;>cases decide (y%400=0)<;>rfl
  ·rw[ae c,ae c]
 rw[body];unfold lenI;by_cases f:m=4
 ·subst f;rfl
 ·by_cases d:m=6
  ·subst d;rfl
  ·by_cases e:m=9
   ·subst e;rfl
   ·by_cases a:m=11
    ·subst a;rfl
    ·rw[aL.2 f,aL.2 d,aL.2 e,aL.2 a,ae (show¬(m=4\/m=6\/m=9\/m=11)by omega)];rfl
def xW(n:Nat){y:Int}(h:-20000000000000000<=y/\y<=20000000000000000):fM n y=some (1+(y - 1) / 4 - (y - 1) / 100+(y - 1) / 400):=by
 unfold fM;rw[wrap_i64 (y - 1) (by omega) (by omega),xy n (by omega) (by omega) (by omega) (by omega),xy n (by omega) (by omega) (by omega) (by omega),xy n (by omega) (by omega) (by omega) (by omega)];show some _=some _;have f:-5000000000000001<=(y - 1) / 4/\(y - 1) / 4<=5000000000000001:=by omega
 have d:-5000000000000001<=(y - 1) / 100/\(y - 1) / 100<=5000000000000001:=by omega
 have e:-5000000000000001<=(y - 1) / 400/\(y - 1) / 400<=5000000000000001:=by omega
 generalize(y - 1) / 4=a at *;generalize(y - 1) / 100=b at *;generalize(y - 1) / 400=c at *;simp only[];rw[wrap_i64 (1*a) (by omega) (by omega),wrap_i64 (-1*b) (by omega) (by omega),wrap_i64 (1*c) (by omega) (by omega),wrap_i64 (1+1*a) (by omega) (by omega),wrap_i64 (1+1*a+-1*b) (by omega) (by omega),wrap_i64 _ (by omega) (by omega)];congr 1;omega
def Rr(y:Int):(1+y / 4 - y / 100+y / 400>1+(y - 1) / 4 - (y - 1) / 100+(y - 1) / 400)↔tY y=true:=by
 unfold tY;simp only[aA,iG,cb];omega
def Uw(n:Nat){y:Int}(h:eo y):lg n y=some (tY y,0):=by
 unfold lg;have h':=h;unfold eo at h';rw[gH,af h,wrap_i64 (y+1) (by omega) (by omega),xW n (by omega),xW n (by omega),show y+1 - 1=y by omega];have b:=Rr y;show some (decide (1+y / 4 - y / 100+y / 400>1+(y - 1) / 4 - (y - 1) / 100+(y - 1) / 400),(0:Int))=_;by_cases a:tY y=true
 ·rw[a,au (b.2 a)]
 ·rw[Iq]at a;rw[a,aw (λe=>by rw[b.1 e]at a;cases a)]
def zq(n:Nat){y:Int}(h:eo y){m:Nat}(c:1<=m)(d:m<=12):eV n y (m:Int)=some (lenI y (m:Int)):=by
 unfold eV;rw[Uw n h];show cond (tY y&&((m:Int)==2)) _ _=_;have a:wrap .i64 ((m:Int) - 1)=((m - 1:Nat):Int):=by rw[wrap_i64 _ (by omega) (by omega)];omega
 rw[a,cG (show m - 1<12 by omega)];have b:m=1\/m=2\/m=3\/m=4\/m=5\/m=6\/m=7\/m=8\/m=9\/m=10\/m=11\/m=12:=by omega
 rcases b with rfl | rfl | rfl | rfl | rfl | rfl | rfl | rfl | rfl | rfl | rfl | rfl<;>unfold lenI<;>cases tY y<;>rfl
def LZ(n:Nat){y:Int}(h:eo y){m:Nat}(a:1<=m)(b:m<=12):pH n y (m:Int)=some (lenI y (m:Int),0):=by
 unfold pH;rw[Jl n h a b,zq n h a b];rfl
def jN(y m:Int):28<=lenI y m/\lenI y m<=31:=by
 unfold lenI;split
 ·omega
 ·split
  ·split<;>omega
  ·omega
def wj(d:aa)(y m:Int):Int:=if d=[]then 0 else lenI y m
def vQ(d:aa)(y a:Int):List (Int×Int×Int):=((dayI d).filter λk=>decide (k<=wj d y a)).map λk=>(y,a,k)
def wu(m d:aa)(y:Int):List (Int×Int×Int):=(monI m).flatMap (vQ d y)
def K7{X Y A:Type}{step:X->Option (X⊕Y)}{f:Nat->List A->X}{y:List A->Y}{p:Nat->Bool}{e:Nat->A}{g:Nat}(a:List A)
  (h:∀i out,i<g->out.length<=a.length+i->step (f i out)=some (.inl (f (i+1) (if p (i+1)then out++[e (i+1)]else out))))
  (d:∀out,step (f g out)=some (.inr (y out))) {N:Nat} (b:g<N):av step N (f 0 a)=some (y (a++((List.range' 1 g).filter p).map e)):=by
 have c:∀(r i:Nat) (out:List A),i+r=g->out.length<=a.length+i->∀N,r<N->av step N (f i out)=some (y (out++((List.range' (i+1) r).filter p).map e)):=by
  intro r
  induction r with
  | zero=>
   intro i out hi j N b;obtain⟨N,rfl⟩:∃q,N=q+1:=⟨N - 1,by omega⟩;obtain rfl:i=g:=by omega
   rw[av,d];simp
  | succ r ih=>
   intro i out hi j N b;obtain⟨N,rfl⟩:∃q,N=q+1:=⟨N - 1,by omega⟩;rw[av,h i out (by omega) (by omega)];show av step N _=_;by_cases hp:p (i+1)=true
   ·rw[af hp,ih (i+1) _ (by omega) (by simp;omega) N (by omega),xd,SQ hp];simp
   ·rw[ae hp,ih (i+1) _ (by omega) (by omega) N (by omega),xd,Tu hp]
 exact c g 0 a (by omega) (by omega) N b
def Nh{X Y A B:Type}{step:X->Option (X⊕Y)}{f:Nat->List A->X}{y:List A->Y}{F:B->List A}{L:List B}{c:Nat}(hc:∀b∈L,(F b).length<=c)
  (h:∀i b out,L[i]?=some b->out.length<=c*i->step (f i out)=some (.inl (f (i+1) (out++F b))))
  (j:∀out,step (f L.length out)=some (.inr (y out))) {N:Nat} (a:L.length<N):av step N (f 0 [])=some (y (L.flatMap F)):=by
 have g:∀(r i:Nat) (out:List A),i+r=L.length->out.length<=c*i->∀N,r<N->av step N (f i out)=some (y (out++(L.drop i).flatMap F)):=by
  intro r
  induction r with
  | zero=>
   intro i out hi d N a;obtain⟨N,rfl⟩:∃q,N=q+1:=⟨N - 1,by omega⟩;obtain rfl:i=L.length:=by omega
   rw[av,j];simp
  | succ r ih=>
   intro i out hi d N a;obtain⟨N,rfl⟩:∃q,N=q+1:=⟨N - 1,by omega⟩;have e:L[i]?=some L[i]:=bq (by omega);rw[av,h i L[i] out e d];show av step N _=_;have k:=hc L[i] (He _);rw[ih (i+1) _ (by omega) (by rw[aH,Nat.mul_add];omega) N (by omega),uN (show i<L.length by omega),oQ,fa]
 have:=g L.length 0 [] (by omega) (by simp) N a;simpa using this
def VB(d:aa)(L:Nat)(h:L<=31):(uP (fitN d 31)).filter (λk=>decide (k<=(L:Int)))=uP ((List.range' 1 L).filter (agr d)):=by
 have hs:List.range' 1 31=List.range' 1 L++List.range' (1+L) (31 - L):=by
  have:=List.range'_append_1 (s:=1) (m:=L) (n:=31 - L);rw[this,show L+(31 - L)=31 by omega]
 unfold fitN uP;rw[hs,Pv,Gw,Pv];have c:(List.map (λk:Nat=>(k:Int)) (List.filter (agr d) (List.range' 1 L))).filter (λk=>decide (k<=(L:Int)))=List.map (λk:Nat=>(k:Int)) (List.filter (agr d) (List.range' 1 L)):=by
  rw[List.filter_eq_self];intro k b;obtain⟨j,a,rfl⟩:=eD.1 b;have:=tW.1 (mf.1 a).1;exact au (by omega)
 have e:(List.map (λk:Nat=>(k:Int)) (List.filter (agr d) (List.range' (1+L) (31 - L)))).filter (λk=>decide (k<=(L:Int)))=[]:=by
  rw[List.filter_eq_nil_iff];intro k b;obtain⟨j,a,rfl⟩:=eD.1 b;have:=tW.1 (mf.1 a).1;simp only[cb];omega
 rw[c,e,ko]
def Ja(s:aa)(g:Nat):(fitN s g).length<=g:=by
 have:=Dl (agr s) (List.range' 1 g);rw[List.length_range']at this;exact this
def IZ(d:aa):(dayI d).length<=31:=by
 unfold dayI;split
 ·simp
 ·rw[FD];exact Ja d 31
def Ik(m:aa):(monI m).length<=12:=by
 unfold monI;split
 ·simp
 ·split
  ·simp
  ·rw[FD];exact Ja m 12
def Kt(d:aa)(y a:Int):(vQ d y a).length<=31:=by
 unfold vQ;rw[vN];exact rK (Dl _ _) (IZ d)
def L8(y a:Int):vQ [] y a=[(y,a,0)]:=rfl
def JU{d:aa}(h:d≠[])(y a:Int):vQ d y a=((List.range' 1 (lenI y a).toNat).filter (agr d)).map λk:Nat=>(y,a,(k:Int)):=by
 have b:=jN y a;unfold vQ dayI wj;rw[ae h,ae h];have:=VB d (lenI y a).toNat (by omega);rw[show(((lenI y a).toNat:Nat):Int)=lenI y a by omega]at this;rw[this,uP,uh];rfl
def KD (n:Nat) (u:100<n) (g l:Bool) (dg:aa) (x q:Int) (m d:aa) (k0 k1 k2 y:Int):
  lp n g l dg x q m d k0 k1 k2 y=some (wu m d y):=by
 have z:=Ik m;unfold lp;rw [KR n u];have:=Nh (step:=fc n) (f:=λi out=>(y,(i:Int),g,l,dg,x,q,m,d,k0,k1,k2,monI m,out)) (y:=λo=>o) (F:=vQ d y) (L:=monI m) (c:=31) (λb _=>Kt d y b)
  (λi h out hi C=>by
   have a:i<(monI m).length:=(pY.1 hi).1;have t:wrap .i64 ((i:Int)+1)=((i+1:Nat):Int):=by rw [wrap_i64 _ (by omega) (by omega)];omega
   unfold fc;simp only [d4,d8,t];rw [au (show (i:Int)<(((monI m).length:Nat):Int) by omega),cG a];by_cases s:d=[]
   ·subst s;rw [L8];simp only [ob,hi,aj,room (show out.length<=60000000 by omega)];rfl
   ·rw [gm s];have B:=jN y h;have r:=K7 (step:=fg n) (f:=λj o=>(y,(i:Int),((j+1:Nat):Int),g,l,dg,x,q,m,d,k0,k1,k2,monI m,o)) (y:=λo=>(y,(i:Int),g,l,dg,x,q,m,d,k0,k1,k2,monI m,o)) (p:=agr d) (e:=λk=>(y,h,(k:Int))) (g:=(lenI y h).toNat) out
     (λj o D w=>by
      have v:wrap .i64 (((j+1:Nat):Int)+1)=((j+1+1:Nat):Int):=by rw [wrap_i64 _ (by omega) (by omega)];omega
      unfold fg;simp only [d4,d8,v,cG a,ob,hi,BM];rw [au (show ((j+1:Nat):Int)<=lenI y h by omega),vi n d (j+1) (by omega),room (show o.length<=60000000 by omega)];by_cases hp:agr d (j+1)=true
      ·rw [af hp,af hp];rfl
      ·rw [ae hp,ae hp];rfl)
     (λo=>by
      unfold fg;simp only [d4,d8,cG a,ob,hi,BM];rw [aw (show ¬(((lenI y h).toNat+1:Nat):Int)<=lenI y h by omega)];rfl)
     (N:=n) (by omega)
    have hin':av (fg n) n (y,(i:Int),1,g,l,dg,x,q,m,d,k0,k1,k2,monI m,out)=_:=r;simp only [aj,ah];rw [hin',JU s];simp only [ob,d4,d8,t])
  (λout=>by
   unfold fc;simp only [d4,d8];rw [aw (show ¬(((monI m).length:Nat):Int)<(((monI m).length:Nat):Int) by omega)];rfl)
  (N:=n) (by omega)
 have A:av (fc n) n (y,0,g,l,dg,x,q,m,d,k0,k1,k2,monI m,([]:List (Int×Int×Int)))=_:=this;simp only [ob];rw [A];rfl
def Xm{a b c e:UInt8}(l:bH a=true\/a=88)(j:bH b=true\/b=88)(hc:bH c=true\/c=88)(k:bH e=true\/e=88)(w:Nat):
  mtk [a,b,c,e] 4 w=Mk.ag [e,c,b,a] (w:Int):=by
 have one:∀(z:UInt8) (v:Nat),(decide (z=88)||decide (z.toNat=48+v%10))=(decide (z=88)||decide (Mk.dv z=(v:Int)%10)):=by
  intro z v;have:(z.toNat=48+v%10)↔(Mk.dv z=(v:Int)%10):=by unfold Mk.dv;omega
  rw[oN.2 this]
 have d:∀v:Nat,(v:Int) / 10=((v / 10:Nat):Int):=λv=>by omega
 show((decide (e=88)||decide (e.toNat=48+w%10))&&((decide (c=88)||decide (c.toNat=48+w / 10%10))&&((decide (b=88)||decide (b.toNat=48+w / 10 / 10%10))&&((decide (a=88)||decide (a.toNat=48+w / 10 / 10 / 10%10))&&true))))
  = ((((true&&(decide (a=88)||decide (Mk.dv a=(w:Int) / 10 / 10 / 10%10)))&&(decide (b=88)||decide (Mk.dv b=(w:Int) / 10 / 10%10)))&&(decide (c=88)||decide (Mk.dv c=(w:Int) / 10%10)))&&(decide (e=88)||decide (Mk.dv e=(w:Int)%10)))
 rw[one e w,one c (w / 10),one b (w / 10 / 10),one a (w / 10 / 10 / 10),d w,d (w / 10),d (w / 10 / 10)];generalize(decide (e=88)||decide (Mk.dv e=(w:Int)%10))=g;generalize(decide (c=88)||decide (Mk.dv c=((w / 10:Nat):Int)%10))=h;generalize(decide (b=88)||decide (Mk.dv b=((w / 10 / 10:Nat):Int)%10))=i;generalize(decide (a=88)||decide (Mk.dv a=((w / 10 / 10 / 10:Nat):Int)%10))=f;cases g<;>cases h<;>cases i<;>cases f<;>rfl
def TJ{c:UInt8}(h:bH c=true\/c=88):Mk.okB c=true:=by
 rcases h with h | h
 ·have h:=(ew c).1 h;unfold Mk.okB;simp only[iG,aA,cb];right
  first | omega | (obtain⟨a,b⟩:=h;constructor<;>omega)
 ·subst h;decide
def PI{d:aa}(a:d.length=4)(h:∀c∈d,bH c=true\/c=88):Mk.chk d=0:=by
 unfold Mk.chk;have:d.all Mk.okB=true:=bO.2 λc hc=>TJ (h c hc);rw[ae (by omega),af this,ae (by rintro rfl;simp at a)]
def Hv{d:aa}(g:d.length=4)(h:∀c∈d,bH c=true\/c=88)(w:Nat):Mk.hasM d (w:Int)=true↔mtk d 4 w=true/\w / 10 ^ 4=0:=by
 obtain⟨a,b,c,e,rfl⟩:∃a b c e,d=[a,b,c,e]:=by
  match d,g with
  | [a,b,c,e],_=>exact⟨a,b,c,e,rfl⟩
 rw[Mk.GE,Xm (h a (by simp)) (h b (by simp)) (h c (by simp)) (h e (by simp)) w];simp only[aA,cb];show 0<=(w:Int)/\(w:Int)<10 ^ 4/\Mk.ag [e,c,b,a] (w:Int)=true↔Mk.ag [e,c,b,a] (w:Int)=true/\w / 10 ^ 4=0;have i:(10:Int) ^ 4=10000:=by decide
 have e4':(10:Nat) ^ 4=10000:=by decide
 rw[i,e4'];constructor
 ·rintro⟨_,j,f⟩;exact⟨f,by omega⟩
 ·rintro⟨f,j⟩;exact⟨by omega,by omega,f⟩
def HV{g l:Bool}{d:aa}{x q:Int}(a:okY g l d x q)(f:hasX d=true)(v:Int):inP g d x q v↔(Mk.hasM d (wOf g v)=true/\(g=true->1<=wOf g v)):=by
 obtain⟨rfl,rfl,rfl,c,i⟩:=rJ a f;unfold inP;rw[I4 f];have n:∀k:Int,Mk.hasM d k=true->0<=k/\k<10000:=λk m=>by
  have:=(Mk.pw m).2.2.2.2;rw[c]at this;have u:(10:Int) ^ 4=10000:=by decide
  omega
 constructor
 ·rintro⟨b,j,s,r,p⟩;have:=(Hv c i (wOf g v).toNat).2 p;rw[show(((wOf g v).toNat:Nat):Int)=wOf g v by omega]at this;refine⟨this,λh=>?_⟩;have w:¬wOf g v=0:=λe=>r ⟨f,h,e⟩;omega
 ·rintro⟨b,j⟩;have hr':=n _ b;have o:=(Hv c i (wOf g v).toNat).1 (by rw[show(((wOf g v).toNat:Nat):Int)=wOf g v by omega];exact b);have t:v=wOf g v\/v=- wOf g v:=by
   unfold wOf;split
   ·right;omega
   ·left;rfl
  refine⟨by omega,by omega,hr'.1,?_,o⟩;rintro⟨_,h,e⟩;have:=j h;omega
def Ge{g l:Bool}{d:aa}{x:Int}(a:okY g l d x 0)(b:hasX d=false)(v:Int):inP g d x 0 v↔v=(if g then -((val d x.toNat:Nat):Int)else((val d x.toNat:Nat):Int)):=by
 obtain⟨k,q,rfl,n,h⟩:=s9 a b;have hs:=h.small;have i:dval 0 d*10 ^ k=val d k:=rfl;rw[i]at hs;unfold E16 at hs;unfold inP;rw[SD b];have c:Gk d (k:Int).toNat (0:Int).toNat=1:=rfl;rw[c,bX,tL,tL,b];unfold wOf;cases g with
 | true=>
  simp only[aQ];constructor
  ·rintro⟨e,j,f,_,m⟩;omega
  ·rintro rfl;refine⟨by omega,by omega,by omega,by simp,by omega⟩
 | false=>
  simp only[bU,aG];constructor
  ·rintro⟨e,j,f,_,m⟩;omega
  ·rintro rfl;refine⟨by omega,by omega,by omega,by simp,by omega⟩
def Gm(up:Bool)(Y:Int->Prop)(v w:Int)(a:Bool):Prop:=
 (a=true->Y w/\Mk.ft up v w/\∀e,Y e->Mk.ft up v e->Mk.ft up w e)/\(a=false->∀e,Y e->¬Mk.ft up v e)
def fw(a b:Int):Mk.ft true a b↔a<=b:=Iff.rfl
def iI(a b:Int):Mk.ft false a b↔b<=a:=Iff.rfl
def Tj(o:Option Int):(Mk.res o).2=0/\(∃r,o=some r/\(Mk.res o).1=r)\/(Mk.res o).2=16/\o=none/\(Mk.res o).1=0:=by
 cases o with
 | none=>exact .inr ⟨rfl,rfl,rfl⟩
 | some r=>exact .inl ⟨rfl,r,rfl,rfl⟩
def wg{m:aa}(j:Mk.chk m=0)(v a:Int)(q:0<=a):∃w f,fS 20000000 m v true a=some (w,f)/\Gm true (λe=>Mk.hasM m e=true/\a<=e) v w f/\(0<=w/\w<1000000000000000000):=by
 obtain⟨o,k,d⟩:=Mk.Nv j (cond (decide (a>v)) a v);unfold fS;rw[k];simp only[ob,aj];have hc:(cond (decide (a>v)) a v)=max v a:=by
  by_cases h:a>v
  ·rw[au h];show a=_;omega
  ·rw[aw h];show v=_;omega
 rw[hc]at d;rcases Tj o with⟨g,r,rfl,c⟩ | ⟨g,rfl,c⟩
 ·refine⟨_,_,rfl,?_,?_⟩
  ·rw[g,c];obtain⟨a1,a2,p⟩:=d;rw[fw]at a2;refine⟨λ_=>⟨⟨a1,by omega⟩,?_,λe b i=>?_⟩,λh=>by cases h⟩
   ·rw[fw];omega
   ·rw[fw]at i;exact p e b.1 (by rw[fw];have:=b.2;omega)
  ·have:=(Mk.pw d.1).2.2.2.2;have n:=Mk.oe j;have hp:(10:Int) ^ m.length<=10 ^ 18:=by
    have:=lL (show 0<10 by decide) n.1
    exact_mod_cast this
   have l:(10:Int) ^ 18=1000000000000000000:=by decide
   rw[c];omega
 ·refine⟨_,_,rfl,?_,by rw[c];omega⟩;rw[g];refine⟨(λh=>by cases h),λ_ e b i=>?_⟩;rw[fw]at i;exact d e b.1 (by rw[fw];have:=b.2;omega)
def we{m:aa}(j:Mk.chk m=0)(v a:Int)(t:0<=a):∃w f,fS 20000000 m v false a=some (w,f)/\Gm false (λe=>Mk.hasM m e=true/\a<=e) v w f/\(0<=w/\w<1000000000000000000):=by
 obtain⟨o,n,l⟩:=Mk.Oz j v;unfold fS;rw[n];simp only[ob,ah];rcases Tj o with⟨g,r,rfl,i⟩ | ⟨g,rfl,i⟩
 ·rw[g,i];obtain⟨a1,a2,k⟩:=l;rw[iI]at a2;have s:=(Mk.pw a1).2.2.2.2;have q:=Mk.oe j;have hp:(10:Int) ^ m.length<=10 ^ 18:=by
   have:=lL (show 0<10 by decide) q.1
   exact_mod_cast this
  have p:(10:Int) ^ 18=1000000000000000000:=by decide
  refine⟨_,_,rfl,?_,by omega⟩;by_cases c:r>=a
  ·rw[au c];refine⟨λ_=>⟨⟨a1,by omega⟩,by rw[iI];omega,λe b d=>k e b.1 d⟩,λh=>by cases h⟩
  ·rw[aw c];refine⟨(λh=>by cases h),λ_ e b d=>?_⟩;have:=k e b.1 d;rw[iI]at this;have:=b.2;omega
 ·rw[g,i];refine⟨_,_,rfl,?_,by omega⟩;refine⟨(λh=>by cases h),λ_ e b d=>l e b.1 d⟩
def Ly{g l:Bool}{dg:aa}{x:Int}(j:okY g l dg x 0)(m d:aa)(k0 k1 k2:Int)(v:Int)(H:-9223372036854775808<=v/\v<9223372036854775808)(up:Bool)(E C:List Int):
  ∃w f,cA 20000000 g l dg x 0 m d k0 k1 k2 v up E C=some (w,f)/\Gm up (inP g dg x 0) v w f:=by
 have B:=jb j;unfold cA;rw[vc];simp only[ob];cases s:hasX dg with
 | false=>
  have c:=Ge j s;rw[Dm 20000000 g l dg x 0 (by omega) (by omega),af ⟨j,s⟩];simp only[kV,aj];generalize(if g then -((val dg x.toNat:Nat):Int)else((val dg x.toNat:Nat):Int))=w at *;cases up with
  | true=>
   by_cases h:w>=v
   ·refine⟨w,true,?_,?_⟩
    ·simp only[au h,aj]
    ·refine⟨λ_=>⟨(c w).2 rfl,h,λe b _=>?_⟩,λh=>by cases h⟩;rw[(c e).1 b];exact uz _
   ·refine⟨w,false,?_,?_⟩
    ·simp only[aw h,aj,ah,dT]
    ·refine⟨(λh=>by cases h),λ_ e b k=>?_⟩;rw[(c e).1 b,fw]at k;omega
  | false=>
   by_cases h:w<=v
   ·refine⟨w,true,?_,?_⟩
    ·simp only[au h,aj,ah,kV]
    ·refine⟨λ_=>⟨(c w).2 rfl,h,λe b _=>?_⟩,λh=>by cases h⟩;rw[(c e).1 b];exact uz _
   ·refine⟨w,false,?_,?_⟩
    ·simp only[aw h,aj,ah,kV]
    ·refine⟨(λh=>by cases h),λ_ e b k=>?_⟩;rw[(c e).1 b,iI]at k;omega
 | true=>
  have c:=HV j s;obtain⟨rfl,rfl,_,A,D⟩:=rJ j s;have t:=PI A D;simp only[dT,ah];cases g with
  | false=>
   simp only[kV,aj];have q:∀w f,Gm up (λe=>Mk.hasM dg e=true/\0<=e) v w f->Gm up (inP false dg 0 0) v w f:=λw f h=>by
    have a:∀e,(Mk.hasM dg e=true/\0<=e)↔inP false dg 0 0 e:=λe=>by
     rw[c e];constructor
     ·rintro⟨i,_⟩;exact⟨i,λh=>by cases h⟩
     ·rintro⟨i,_⟩;exact⟨i,(Mk.pw i).2.2.2.2.1⟩
    refine⟨λn=>?_,λn e b=>h.2 n e ((a e).2 b)⟩;obtain⟨b1,b2,r⟩:=h.1 n;exact⟨(a w).1 b1,b2,λe b=>r e ((a e).2 b)⟩
   cases up with
   | true=>
    obtain⟨w,f,i,p,_⟩:=wg t v 0 (by omega);exact⟨w,f,by rw[i],q w f p⟩
   | false=>
    obtain⟨w,f,i,p,_⟩:=we t v 0 (by omega);exact⟨w,f,by rw[i],q w f p⟩
  | true=>
   simp only[dT,ah];have hc:wrap .i64 (0 - (cond (decide (((-9223372036854775807):Int)>v)) (-9223372036854775807) v))=min (-v) 9223372036854775807:=by
    by_cases h:((-9223372036854775807):Int)>v
    ·rw[au h,aj,wrap_i64 _ (by omega) (by omega)];omega
    ·rw[aw h,ah,wrap_i64 _ (by omega) (by omega)];omega
   rw[hc];have u:∀e,Mk.hasM dg e=true->0<=e/\e<10000:=λe b=>by
    have:=(Mk.pw b).2.2.2.2;rw[A]at this;have G:(10:Int) ^ 4=10000:=by decide
    omega
   have a:∀e,inP true dg 0 0 e↔(Mk.hasM dg (-e)=true/\1<=-e):=λe=>by
    rw[c e];exact⟨λh=>⟨h.1,h.2 rfl⟩,λh=>⟨h.1,λ_=>h.2⟩⟩
   have z:∀w:Int,0<=w/\w<1000000000000000000->wrap .i64 (0 - w)=-w:=λw h=>by rw[wrap_i64 _ (by omega) (by omega)];omega
   cases up with
   | true=>
    obtain⟨w,f,i,p,y⟩:=we t (min (-v) 9223372036854775807) 1 (by omega);refine⟨-w,f,by rw[dT,i];simp only[z w y],?_,?_⟩
    ·intro n;obtain⟨b1,b2,r⟩:=p.1 n;rw[iI]at b2;refine⟨(a _).2 (by rw[Int.neg_neg];exact b1),by rw[fw];omega,λe b k=>?_⟩;rw[fw]at k;have o:=(a e).1 b;have:=r (-e) o (by rw[iI];have:=u _ o.1;omega);rw[iI]at this;rw[fw];omega
    ·intro n e b k;rw[fw]at k;have o:=(a e).1 b;exact p.2 n (-e) o (by rw[iI];have:=u _ o.1;omega)
   | false=>
    obtain⟨w,f,i,p,y⟩:=wg t (min (-v) 9223372036854775807) 1 (by omega);refine⟨-w,f,by rw[kV,i];simp only[z w y],?_,?_⟩
    ·intro n;obtain⟨b1,b2,r⟩:=p.1 n;rw[fw]at b2;have F:=u _ b1.1;refine⟨(a _).2 (by rw[Int.neg_neg];exact b1),by rw[iI];omega,λe b k=>?_⟩;rw[iI]at k;have o:=(a e).1 b;have:=r (-e) o (by rw[fw];omega);rw[fw]at this;rw[iI];omega
    ·intro n e b k;rw[iI]at k;have o:=(a e).1 b;exact p.2 n (-e) o (by rw[fw];omega)
def uW{X Y A:Type}{step:X->Option (X⊕Y)}{f:Nat->X}{L:List A}{G:A->Option Y}{e:Y}
  (h:∀i a,L[i]?=some a->step (f i)=some ((G a).elim (.inl (f (i+1))) Sum.inr)) (g:step (f L.length)=some (.inr e)) {N:Nat} (b:L.length<N):
  av step N (f 0)=some ((L.findSome? G).getD e):=by
 have d:∀(r i:Nat),i+r=L.length->∀N,r<N->av step N (f i)=some (((L.drop i).findSome? G).getD e):=by
  intro r
  induction r with
  | zero=>
   intro i hi N b;obtain⟨N,rfl⟩:∃q,N=q+1:=⟨N - 1,by omega⟩;obtain rfl:i=L.length:=by omega
   rw[av,g];simp
  | succ r ih=>
   intro i hi N b;obtain⟨N,rfl⟩:∃q,N=q+1:=⟨N - 1,by omega⟩;have c:L[i]?=some L[i]:=bq (by omega);rw[av,h i L[i] c,uN (show i<L.length by omega),EN];cases j:G L[i]with
   | some y=>rfl
   | none=>exact ih (i+1) (by omega) N (by omega)
 have:=d L.length 0 (by omega) N b;simpa using this
def ahd(up:Bool)(a b:Int):Bool:=cond up (decide (a<b)) (decide (a>b))
def I2(n:Nat)(a b:Int)(up:Bool):cX n a b up=some (ahd up a b):=by
 unfold cX ahd;cases up
 ·rfl
 ·simp only[aj,dT,ah];cases decide (a<b)<;>rfl
def C2(up a:Bool)(d:aa)(b most k:Int):Bool:=decide (k<=most)&&!(a&&(!(d==([]:aa))&&ahd up k b))
def NG(up:Bool)(m:aa)(b c y a:Int):Bool:=(y==b)&&(!(m==([]:aa))&&ahd up a c)
def JO(m:aa)(b c y a:Int):Bool:=(y==b)&&((m==([]:aa))||(a==c))
def GP(up:Bool)(m d:aa)(c b e y:Int)(f:List Int)(a:Int):Option (Int×Int×Int):=
 if NG up m c b y a then none else(f.find? (C2 up (JO m c b y a) d e (wj d y a))).map λk=>(y,a,k)
def F4(up:Bool)(m d:aa)(f b c:Int)(a e:List Int)(y:Int):Option (Int×Int×Int):=a.findSome? (GP up m d f b c y e)
def OX(d:aa)(a:List Int):Prop:=a.length<=31/\(d≠[]->∀b∈a,1<=b/\b<=12)
def N2(n:Nat)(g l:Bool)(dg:aa)(x q:Int)(m d:aa)(k0 k1 k2:Int){y:Int}(hy:eo y){a:Int}(c:d≠[]->1<=a/\a<=12)(e f:List Int):
  fq n g l dg x q m d k0 k1 k2 y a e f=some (wj d y a):=by
 unfold fq wj;by_cases b:d=[]
 ·subst b;rfl
 ·rw[gm b,ae b];have:=c b;obtain⟨k,rfl⟩:∃k:Nat,a=(k:Int):=⟨a.toNat,by omega⟩;rw[ah,LZ n hy (by omega) (by omega)];rfl
def UT{A B Y:Type}(L:List A)(p:A->Bool)(F:A->B)(J:B->Y)(e:Y):(L.findSome? λa=>if p a then some (J (F a))else none).getD e=((L.find? p).map F).elim e J:=by
 induction L with
 | nil=>rfl
 | cons a L ih=>
  rw[List.find?_cons,EN];cases h:p a
  ·simpa using ih
  ·simp
def Wx{A B Y:Type}(L:List A)(G:A->Option B)(J:B->Y)(e:Y):(L.findSome? λa=>(G a).map J).getD e=(L.findSome? G).elim e J:=by
 induction L with
 | nil=>rfl
 | cons a L ih=>
  rw[EN,EN];cases h:G a
  ·simpa using ih
  ·simp
def QF(n:Nat)(s y f:Int)(a:Bool)(most j u:Int)(h b:List Int)(g l:Bool)(dg:aa)(x q:Int)(m d:aa)(k0 k1 k2 r o c:Int)(up:Bool)(t v rd:Int)(i:Nat)(k:Int)(hi:b[i]?=some k)(w:i<1000):
  bP n (s,y,f,a,most,j,u,((b.length:Nat):Int),(i:Int),h,b,g,l,dg,x,q,m,d,k0,k1,k2,r,o,c,up,t,v,rd)=some ((if C2 up a d c most k then some (.inl (true,y,f,k))else none).elim (.inl (s,y,f,a,most,j,u,((b.length:Nat):Int),((i+1:Nat):Int),h,b,g,l,dg,x,q,m,d,k0,k1,k2,r,o,c,up,t,v,rd)) Sum.inr):=by
 have e:i<b.length:=(pY.1 hi).1;have p:wrap .i64 ((i:Int)+1)=((i+1:Nat):Int):=by rw[wrap_i64 _ (by omega) (by omega)];omega
 unfold bP iZ C2;simp only[d4,d8,d16,cG e,hi,ob,p,I2];rw[au (show(i:Int)<((b.length:Nat):Int)by omega)];simp only[aj];cases decide (k<=most)<;>cases a<;>cases(d==([]:aa))<;>cases ahd up k c<;>simp only[dT,kV,aj,ah,p]<;>rfl
def UV(n:Nat)(s y p:Int)(b:Bool)(most e k:Int)(c a:List Int)(g l:Bool)(dg:aa)(x q:Int)(m d:aa)(k0 k1 k2 i f h:Int)(up:Bool)(j o rd:Int):
  bP n (s,y,p,b,most,e,k,((a.length:Nat):Int),((a.length:Nat):Int),c,a,g,l,dg,x,q,m,d,k0,k1,k2,i,f,h,up,j,o,rd)=some (.inr (.inr (s,y,e,k,c,a,g,l,dg,x,q,m,d,k0,k1,k2,i,f,h,up,j,o,rd))):=by
 unfold bP;simp only[d4,d8,d16];rw[aw (show¬((a.length:Nat):Int)<((a.length:Nat):Int)by omega)];rfl
def UZ (n:Nat) (A:1000<n) (s y h:Int) (a:Bool) (most o u:Int) (j b:List Int) (g l:Bool) (dg:aa) (x q:Int) (m d:aa) (k0 k1 k2 r p c:Int) (up:Bool) (t v rd:Int) (B:b.length<=31):
  av (bP n) n (s,y,h,a,most,o,u,((b.length:Nat):Int),0,j,b,g,l,dg,x,q,m,d,k0,k1,k2,r,p,c,up,t,v,rd)=some (((b.find? (C2 up a d c most)).map (λk=>(y,h,k))).elim (.inr (s,y,o,u,j,b,g,l,dg,x,q,m,d,k0,k1,k2,r,p,c,up,t,v,rd)) (λz=>.inl (true,z))):=by
 have:=uW (step:=bP n) (f:=λi=>(s,y,h,a,most,o,u,((b.length:Nat):Int),(i:Int),j,b,g,l,dg,x,q,m,d,k0,k1,k2,r,p,c,up,t,v,rd)) (L:=b) (G:=λk=>if C2 up a d c most k then some (.inl (true,y,h,k)) else none) (e:=.inr (s,y,o,u,j,b,g,l,dg,x,q,m,d,k0,k1,k2,r,p,c,up,t,v,rd))
  (λi k hi=>by
   have w:i<b.length:=(pY.1 hi).1;exact QF n s y h a most o u j b g l dg x q m d k0 k1 k2 r p c up t v rd i k hi (by omega))
  (UV n s y h a most o u j b g l dg x q m d k0 k1 k2 r p c up t v rd) (N:=n) (by omega)
 exact this.trans (cT some (UT b (C2 up a d c most) (λk=>(y,h,k)) (λz=>Sum.inl (true,z)) _))
def Ry(n:Nat)(C:1000<n)(s y:Int)(hy:eo y)(j p:List Int)(g l:Bool)(dg:aa)(x q:Int)(m d:aa)(k0 k1 k2 e o r:Int)(up:Bool)(t u rd:Int)(B:OX d j)(E:p.length<=31)(i:Nat)(f:Int)(hi:j[i]?=some f):
  cq n (s,y,((j.length:Nat):Int),(i:Int),j,p,g,l,dg,x,q,m,d,k0,k1,k2,e,o,r,up,t,u,rd)=some (((GP up m d e o r y p f).map (λz=>(.inl (true,z):(Bool×Int×Int×Int)⊕_))).elim (.inl (s,y,((j.length:Nat):Int),((i+1:Nat):Int),j,p,g,l,dg,x,q,m,d,k0,k1,k2,e,o,r,up,t,u,rd)) Sum.inr):=by
 have v:i<j.length:=(pY.1 hi).1;have D:=B.1;have A:wrap .i64 ((i:Int)+1)=((i+1:Nat):Int):=by rw[wrap_i64 _ (by omega) (by omega)];omega
 have w:d≠[]->1<=f/\f<=12:=λh=>B.2 h f (fh hi);have j20:∀a b:Int,fH n s y f (y==e) a b j p g l dg x q m d k0 k1 k2 e o r up t u rd=some (s,y,f,(y==e),a,b,NG up m e o y f,j,p,g,l,dg,x,q,m,d,k0,k1,k2,e,o,r,up,t,u,rd):=by
  intro a b;unfold fH NG;simp only[I2,ob];cases(y==e)<;>cases(m==([]:aa))<;>rfl
 have j23:∀a b c:Int,fD n s y f (y==e) a b c j p g l dg x q m d k0 k1 k2 e o r up t u rd=some (s,y,f,JO m e o y f,a,b,c,j,p,g,l,dg,x,q,m,d,k0,k1,k2,e,o,r,up,t,u,rd):=by
  intro a b c;unfold fD JO;cases(y==e)<;>cases(m==([]:aa))<;>rfl
 unfold cq iO GP;simp only[d4,d8,d16,cG v,hi,ob,j20];rw[au (show(i:Int)<((j.length:Nat):Int)by omega)];simp only[aj];cases hs:NG up m e o y f with
 | true=>simp only[aj,aQ,jo,A];rfl
 | false=>
  simp only[ah,bU,aG,N2 n g l dg x q m d k0 k1 k2 hy w,j23,UZ n C s y f (JO m e o y f) (wj d y f) _ _ j p g l dg x q m d k0 k1 k2 e o r up t u rd E];cases p.find? (C2 up (JO m e o y f) d r (wj d y f))with
  | some k=>rfl
  | none=>simp only[jo,Option.elim_none,A]
def Vr (n:Nat) (t:1000<n) (s y:Int) (hy:eo y) (a b:List Int) (g l:Bool) (dg:aa) (x q:Int) (m d:aa) (k0 k1 k2 j c h:Int) (up:Bool) (k o rd:Int) (r:OX d a) (v:b.length<=31):
  av (cq n) n (s,y,((a.length:Nat):Int),0,a,b,g,l,dg,x,q,m,d,k0,k1,k2,j,c,h,up,k,o,rd)=some ((F4 up m d j c h a b y).elim (.inr (s,y,a,b,g,l,dg,x,q,m,d,k0,k1,k2,j,c,h,up,k,o,rd)) (λz=>.inl (true,z))):=by
 have u:=r.1;have:=uW (step:=cq n) (f:=λi=>(s,y,((a.length:Nat):Int),(i:Int),a,b,g,l,dg,x,q,m,d,k0,k1,k2,j,c,h,up,k,o,rd)) (L:=a) (G:=λp=>(GP up m d j c h y b p).map (λz=>(.inl (true,z):(Bool×Int×Int×Int)⊕_))) (e:=.inr (s,y,a,b,g,l,dg,x,q,m,d,k0,k1,k2,j,c,h,up,k,o,rd))
  (λi p hi=>Ry n t s y hy a b g l dg x q m d k0 k1 k2 j c h up k o rd r v i p hi)
  (by
   unfold cq;simp only [d4,d8,d16];rw [aw (show ¬((a.length:Nat):Int)<((a.length:Nat):Int) by omega)];rfl)
  (N:=n) (by omega)
 exact this.trans (cT some (Wx a (GP up m d j c h y b) (λz=>Sum.inl (true,z)) _))
def Qo(n:Nat)(j:1000<n)(s y:Int)(hy:eo y)(a b:List Int)(g l:Bool)(dg:aa)(x q:Int)(m d:aa)(k0 k1 k2 f c e:Int)(up:Bool)(h i rd:Int)(k:OX d a)(o:b.length<=31):
  dn n (s,y,true,a,b,g,l,dg,x,q,m,d,k0,k1,k2,f,c,e,up,h,i,rd)=(F4 up m d f c e a b y).elim (ob (cA n g l dg x q m d k0 k1 k2 (wrap .i64 (y+s)) up a b) λr=>some (.inl (s,r.1,r.2,a,b,g,l,dg,x,q,m,d,k0,k1,k2,f,c,e,up,h,i,rd))) (λz=>some (.inr (.inl (true,z)))):=by
 unfold dn;simp only[d4,d8,d16,aj,ob,Vr n j s y hy a b g l dg x q m d k0 k1 k2 f c e up h i rd k o];cases F4 up m d f c e a b y<;>rfl
def HQ(up:Bool)(Y:Int->Prop)(F:Int->Option (Int×Int×Int))(v:Int):Option (Int×Int×Int)->Prop
 | some z=>∃e,Y e/\Mk.ft up v e/\F e=some z/\∀a,Y a->Mk.ft up v a->¬Mk.ft up e a->F a=none
 | none=>∀e,Y e->Mk.ft up v e->F e=none
def KX{X:Type}{step:X->Option (X⊕((Bool×Int×Int×Int)⊕(Int×Int×Int)))}{st:Int->Bool->X}{F:Int->Option (Int×Int×Int)}{Y:Int->Prop}{up:Bool}{s lo hi:Int}{E:Int×Int×Int}{fy:Int->Option (Int×Bool)}
  (hs:s=if up then 1 else -1) (t:∀e,Y e->lo<=e/\e<=hi) (M:-10000000000000000<=lo) (d:hi<=10000000000000000)
  (a:∀y,Y y->step (st y true)=(F y).elim (ob (fy (wrap .i64 (y+s))) λr=>some (.inl (st r.1 r.2))) (λz=>some (.inr (.inl (true,z)))))
  (c:∀y,step (st y false)=some (.inr (.inr E)))
  (n:∀v,-9223372036854775808<=v/\v<9223372036854775808->∃w f,fy v=some (w,f)/\Gm up Y v w f):
  ∀(r:Nat) (v y:Int) (f:Bool),Gm up Y v y f->(f=true->(if up then hi - y else y - lo)<(r:Int))->∀N,r<N->
   ∃o,av step N (st y f)=some (o.elim (.inr E) (λz=>.inl (true,z)))/\HQ up Y F v o:=by
 intro r
 induction r with
 | zero=>
  intro v y f m p N J;obtain⟨N,rfl⟩:∃q,N=q+1:=⟨N - 1,by omega⟩;cases f with
  | true=>
   obtain⟨a1,_,_⟩:=m.1 rfl;have:=t y a1;have:=p rfl;cases up<;>simp at this<;>omega
  | false=>
   refine⟨none,by rw[av,c];rfl,λe g k=>absurd k (m.2 rfl e g)⟩
 | succ r ih=>
  intro v y f m p N J;obtain⟨N,rfl⟩:∃q,N=q+1:=⟨N - 1,by omega⟩;cases f with
  | false=>
   refine⟨none,by rw[av,c];rfl,λe g k=>absurd k (m.2 rfl e g)⟩
  | true=>
   obtain⟨a1,a2,C⟩:=m.1 rfl;have L:=t y a1;cases j:F y with
   | some z=>
    refine⟨some z,?_,y,a1,a2,j,λb d l i=>absurd (C b d l) i⟩;rw[av,a y a1,j];rfl
   | none=>
    have D:wrap .i64 (y+s)=y+s:=by
     have:-1<=s/\s<=1:=by rw[hs];cases up<;>simp
     exact wrap_i64 _ (by omega) (by omega)
    obtain⟨w,x,H,u⟩:=n (y+s) (by
     have:-1<=s/\s<=1:=by rw[hs];cases up<;>simp
     omega)
    have hstep':step (st y true)=some (.inl (st w x)):=by
     rw[a y a1,j,D];show ob (fy (y+s)) _=_;rw[H];rfl
    obtain⟨o,G,A⟩:=ih (y+s) w x u (λI=>by
     obtain⟨b1,b2,_⟩:=u.1 I;have:=p rfl;cases up
     ·rw[iI]at b2;simp only[bU,aG]at hs this ⊢;omega
     ·rw[fw]at b2;simp only[aQ]at hs this ⊢;omega) N (by omega)
    refine⟨o,by rw[av,hstep'];exact G,?_⟩;have split:∀b,Y b->Mk.ft up v b->b=y\/Mk.ft up (y+s) b:=λb d l=>by
     have i:=C b d l;cases up
     ·rw[iI]at i ⊢;simp only[bU,aG]at hs;omega
     ·rw[fw]at i ⊢;simp only[aQ]at hs;omega
    cases o with
    | none=>
     intro e g k;rcases split e g k with rfl | h
     ·exact j
     ·exact A e g h
    | some z=>
     obtain⟨e,K,B,c3,c4⟩:=A;refine⟨e,K,?_,c3,λb d l i=>?_⟩
     ·cases up
      ·rw[iI]at B a2 ⊢;simp only[bU,aG]at hs;omega
      ·rw[fw]at B a2 ⊢;simp only[aQ]at hs;omega
     ·rcases split b d l with rfl | h
      ·exact j
      ·exact c4 b d h i
def zY{g l:Bool}{dg:aa}{x:Int}(c:okY g l dg x 0):∃lo hi:Int,(∀e,inP g dg x 0 e->lo<=e/\e<=hi)/\hi - lo<=10000/\-10000000000000000<=lo/\hi<=10000000000000000:=by
 cases f:hasX dg with
 | false=>
  have a:=Ge c f;by_cases d:-10000000000000000<=(if g then -((val dg x.toNat:Nat):Int)else((val dg x.toNat:Nat):Int))/\(if g then -((val dg x.toNat:Nat):Int)else((val dg x.toNat:Nat):Int))<=10000000000000000
  ·refine⟨_,_,λe b=>?_,?_,d.1,d.2⟩
   ·rw[(a e).1 b];exact⟨uz _,uz _⟩
   ·omega
  ·refine⟨0,0,λe b=>?_,by omega,by omega,by omega⟩;exfalso;have:=(a e).1 b;unfold inP at b;exact d ⟨by rw[<-this];exact b.1,by rw[<-this];exact b.2.1⟩
 | true=>
  have a:=HV c f;obtain⟨_,_,_,i,k⟩:=rJ c f;refine⟨if g then -9999 else 0,if g then 0 else 9999,λe b=>?_,by cases g<;>simp,by cases g<;>simp,by cases g<;>simp⟩;have h:=((a e).1 b).1;have:=(Mk.pw h).2.2.2.2;rw[i]at this;have j:(10:Int) ^ 4=10000:=by decide
  unfold wOf at this;cases g
  ·simp at this ⊢;omega
  ·simp at this ⊢;omega
def C4{g:Bool}{dg:aa}{x q e:Int}(h:inP g dg x q e):eo e:=⟨h.1,h.2.1⟩
def KE{g l:Bool}{dg:aa}{x:Int}(e:okY g l dg x 0)(m d:aa)(k0 k1 k2:Int)(a h i:Int)(n:-9223372036854775808<=a/\a<9223372036854775808)(c b:List Int)(A:OX d c)(u:b.length<=31):
  ∃o,jq 20000000 g l dg x 0 m d k0 k1 k2 a h i true c b=some (o.elim (0,0,0,false) λz=>(z.1,z.2.1,z.2.2,true))/\HQ true (inP g dg x 0) (F4 true m d a h i c b) a o:=by
 obtain⟨lo,hi,q,G,j,k⟩:=zY e;obtain⟨w,f,t,p⟩:=Ly e m d k0 k1 k2 a n true c b;obtain⟨o,r,B⟩:=KX (step:=dn 20000000) (st:=λy f=>(1,y,f,c,b,g,l,dg,x,0,m,d,k0,k1,k2,a,h,i,true,0,0,0)) (F:=F4 true m d a h i c b) (Y:=inP g dg x 0) (up:=true) (s:=1) (lo:=lo) (hi:=hi) (E:=(0,0,0)) (fy:=λv=>cA 20000000 g l dg x 0 m d k0 k1 k2 v true c b)
  rfl q j k
  (λy hy=>Qo 20000000 (by omega) 1 y (C4 hy) c b g l dg x 0 m d k0 k1 k2 a h i true 0 0 0 A u)
  (λy=>rfl)
  (λv D=>Ly e m d k0 k1 k2 v D true c b)
  10002 a w f p (λC=>by have:=q w (p.1 C).1;simp;omega) 20000000 (by omega)
 refine⟨o,?_,B⟩;unfold jq jy;simp only[dT,ah,ob,d4,d8,d16,t];have i1':av (dn 20000000) 20000000 (1,w,f,c,b,g,l,dg,x,0,m,d,k0,k1,k2,a,h,i,true,0,0,0)=_:=r;rw[i1'];cases o<;>rfl
def IL(m d:aa)(n o:Int){g e:Int}(h:e≠g)(l f:List Int):F4 true m d g n o l f e=none↔(l.flatMap λa=>(f.filter λk=>decide (k<=wj d e a)).map λk=>(e,a,k))=[]:=by
 have j:(e==g)=false:=aL.2 h;unfold F4;rw[SS,List.flatMap_eq_nil_iff];have:∀a,GP true m d g n o e f a=none↔((f.filter λk=>decide (k<=wj d e a)).map λk=>(e,a,k))=[]:=by
  intro a;unfold GP NG JO;rw[j];simp only[EM,bU,aG,Option.map_eq_none_iff,List.find?_eq_none,List.map_eq_nil_iff,List.filter_eq_nil_iff];constructor
  ·intro b k i;have:=b k i;unfold C2 at this;simpa using this
  ·intro b k i;have:=b k i;unfold C2;simpa using this
 exact⟨λb a c=>(this a).1 (b a c),λb a c=>(this a).2 (b a c)⟩
def hasF(g:Bool)(dg:aa)(x:Int)(m d:aa):Prop:=∃e,inP g dg x 0 e/\wu m d e≠[]
open Classical in
noncomputable def chkF(g l:Bool)(dg:aa)(x q:Int)(m d:aa)(k0 k1 k2:Int):Int:=
 if chkD g l dg x q m d k0 k1 k2=0/\d≠[]/\¬hasF g dg x m d then 8 else chkD g l dg x q m d k0 k1 k2
def pR{g l:Bool}{dg:aa}{x q:Int}{m d:aa}{k0 k1 k2:Int}(h:chkD g l dg x q m d k0 k1 k2=0):okY g l dg x q/\(m=[]\/m.length=2)/\(d=[]\/d.length=2)/\(0<q->m=[])/\(d≠[]->m≠[]/\sea m=0):=by
 obtain⟨b,e,c3,c4⟩:=Eg h;unfold yrD at b;by_cases a:okY g l dg x q
 ·rw[af a]at b;refine⟨a,?_,?_,λj=>?_,λk=>?_⟩
  ·rcases e with h | h | h
   ·exact .inl h
   ·exact .inr (Gh h).1
   ·exact .inr (n8 (by omega) h).1
  ·rcases c3 with h | ⟨_,_,h⟩
   ·exact .inl h
   ·exact .inr (n8 (by omega) h).1
  ·unfold yrB at b;simp only[aA,kv]at b;have:=b.1;rw[au j,rc]at this;by_cases c:m=[]
   ·exact c
   ·rw[gm c]at this;cases this
  ·rcases c3 with h | ⟨f,i,_⟩
   ·exact absurd h k
   ·exact⟨f,i⟩
 ·rw[ae a]at b;cases b
def QM{g l:Bool}{dg:aa}{x q:Int}(h:okY g l dg x q):0<=q:=(jb h).2.2.1
def Og{m d:aa}(h:d≠[]->m≠[]/\sea m=0):OX d (monI m):=by
 refine⟨rK (Ik m) (by omega),λe f a=>?_⟩;obtain⟨c,g⟩:=h e;unfold monI at a;rw[ae c,ae (by omega)]at a;obtain⟨k,b,rfl⟩:=eD.1 a;have:=tW.1 (mf.1 b).1;omega
def wA{g l:Bool}{dg:aa}{x q:Int}{m d:aa}{k0 k1 k2:Int}(r:m.length<=18)(s:dg.length<=100)(B:0<=k0)(w:0<=k1)(C:0<=k2):
  bC 20000000 g l dg x q m d k0 k1 k2=some (chkF g l dg x q m d k0 k1 k2):=by
 unfold bC chkF;rw[Bl 20000000 (by omega) g l dg x q m d k0 k1 k2 r s B w C];simp only[ob];by_cases hc:chkD g l dg x q m d k0 k1 k2=0
 ·obtain⟨b,n,k,A,c⟩:=pR hc;rw[hc];simp only[fG,ah];by_cases j:d=[]
  ·subst j;rw[ae (by simp)];rfl
  ·rw[gm j,ah];have t:q=0:=by
    have:=QM b;by_cases h:0<q
    ·exact absurd (A h) (c j).1
    ·omega
   subst t;have e:=Yz 20000000 (by omega) g l dg x 0 m d k0 k1 k2 n k;have p:=Og c;obtain⟨o,o1,u⟩:=KE b m d k0 k1 k2 (-9223372036854775808) 0 0 (by omega) (monI m) (dayI d) p (IZ d);have f:∀e,inP g dg x 0 e->e≠-9223372036854775808:=λe v=>by have:=C4 v;unfold eo at this;omega
   have key:(∃z,o=some z)↔hasF g dg x m d:=by
    constructor
    ·rintro⟨z,rfl⟩;obtain⟨e,a,_,c3,_⟩:=u;refine⟨e,a,λD=>?_⟩;have:=(IL m d 0 0 (f e a) (monI m) (dayI d)).2 D;rw[this]at c3;cases c3
    ·rintro⟨e,a,E⟩;cases o with
     | some z=>exact⟨z,rfl⟩
     | none=>
      have:=u e a (by rw[fw];have:=C4 a;unfold eo at this;omega);exact absurd ((IL m d 0 0 (f e a) (monI m) (dayI d)).1 this) E
   rw[e];by_cases i:hasF g dg x m d
   ·obtain⟨z,rfl⟩:=key.2 i;rw[ae (λh=>h.2.2 i)]
    all_goals
     simp only[d4,d8,o1];rfl
   ·have y:o=none:=by
     cases o with
     | none=>rfl
     | some z=>exact absurd (key.1 ⟨z,rfl⟩) i
    subst y;rw[af ⟨rfl,j,i⟩]
    all_goals
     simp only[d4,d8,o1];rfl
 ·rw[ae (λh=>hc h.1)];have:(chkD g l dg x q m d k0 k1 k2 != 0)=true:=by simp[hc]
  rw[this];rfl
def Qj {g l:Bool} {dg:aa} {x:Int} (c:okY g l dg x 0) (m d:aa) (k0 k1 k2:Int):
  ∃r,lF 20000000 g l dg x 0 m d k0 k1 k2=some r/\(r=1/\hasF g dg x m d\/r=0/\¬hasF g dg x m d):=by
 have E:=jb c;obtain ⟨lo,hi,B,Q,F,I⟩:=zY c;obtain ⟨P,O,J⟩:=G6 c;have u:=RL 19999700 g l dg x 0 (by omega) c;unfold lF;rw [show (20000000:Nat)=19999700+300 from rfl,u];simp only [ob];generalize (sgn g (oz g dg x 0)).1=a at *;generalize (sgn g (oz g dg x 0)).2=b at *;have R:=B a P;have hb':=B b O;have D:=λy=>WB 19999700 c y;have step:∀i y,((List.range (b - a+1).toNat).map (λj:Nat=>a+(j:Int)))[i]?=some y->i<(b - a+1).toNat/\y=a+(i:Int):=by
  intro i y h;rw [nF] at h;cases v:(List.range (b - a+1).toNat)[i]? with
  | none=>rw [v] at h;cases h
  | some j=>
   rw [v] at h;have hi:=pY.1 v;obtain ⟨A,C⟩:=hi;rw [List.getElem_range] at C;rw [List.length_range] at A;subst C;exact ⟨A,(bp h).symm⟩
 have p:((List.range (b - a+1).toNat).map (λj:Nat=>a+(j:Int))).length=(b - a+1).toNat:=by simp
 have:=uW (step:=gx (19999700+300)) (f:=λi=>(b,a+(i:Int),g,l,dg,x,0,m,d,k0,k1,k2)) (L:=(List.range (b - a+1).toNat).map (λj:Nat=>a+(j:Int))) (G:=λy=>if inP g dg x 0 y/\wu m d y≠[] then some (.inl 1) else none) (e:=.inr ())
  (λi y h=>by
   obtain ⟨hi,rfl⟩:=step i y h;have H:wrap .i64 (a+(i:Int)+1)=a+((i+1:Nat):Int):=by rw [wrap_i64 _ (by omega) (by omega)];omega
   unfold gx;simp only [d4,d8,H];rw [au (show a+(i:Int)<=b by omega),D,KD (19999700+300) (by omega)];by_cases k:inP g dg x 0 (a+(i:Int))
   ·rw [af k];by_cases o:wu m d (a+(i:Int))=[]
    ·rw [ae (λh=>h.2 o),o];rfl
    ·rw [af ⟨k,o⟩];have hp:0<(wu m d (a+(i:Int))).length:=List.length_pos_iff.2 o;have K:decide ((((wu m d (a+(i:Int))).length:Nat):Int)>0)=true:=au (by omega);simp only [aj,ob,K];rfl
   ·rw [ae k,ae (λh=>k h.1)];rfl)
  (by
   unfold gx;simp only [d4,d8];rw [p,aw (show ¬a+(((b - a+1).toNat:Nat):Int)<=b by omega)];rfl)
  (N:=19999700+300) (by rw [p];omega)
 rw [show a+((0:Nat):Int)=a by omega] at this;rw [this];cases q:(List.findSome? (λy=>if inP g dg x 0 y/\wu m d y≠[] then some (Sum.inl (1:Int)) else none) ((List.range (b - a+1).toNat).map (λj:Nat=>a+(j:Int))):Option (Int⊕Unit)) with
 | none=>
  refine ⟨0,rfl,.inr ⟨rfl,?_⟩⟩;rintro ⟨e,s,w⟩;rw [SS] at q;have hs:=J e s;have:=q e (eD.2 ⟨(e - a).toNat,gS.2 (by omega),by omega⟩);rw [af ⟨s,w⟩] at this;cases this
 | some z=>
  obtain ⟨y,M,n⟩:=List.exists_of_findSome?_eq_some q;by_cases t:inP g dg x 0 y/\wu m d y≠[]
  ·rw [af t] at n;obtain rfl:=bp n;exact ⟨1,rfl,.inl ⟨rfl,y,t.1,t.2⟩⟩
  ·rw [ae t] at n;cases n
def GI{g l:Bool}{dg:aa}{x q:Int}{m d:aa}{k0 k1 k2:Int}(c:dg.length<=100)(p:0<=k0)(k:0<=k1)(o:0<=k2):
  ky 20000000 g l dg x q m d k0 k1 k2=some (chkF g l dg x q m d k0 k1 k2):=by
 unfold ky chkF;rw[Gv 20000000 (by omega) g l dg x q m d k0 k1 k2 c p k o];simp only[ob];by_cases hc:chkD g l dg x q m d k0 k1 k2=0
 ·obtain⟨a,j,n,t,i⟩:=pR hc;rw[hc];by_cases b:d=[]
  ·subst b;rw[ae (by simp)];rfl
  ·have f:q=0:=by
    have:=QM a;by_cases h:0<q
    ·exact absurd (t h) (i b).1
    ·omega
   subst f;obtain⟨r,s,u⟩:=Qj a m d k0 k1 k2;rw[gm b,s];rcases u with⟨rfl,e⟩ | ⟨rfl,e⟩
   ·rw[ae (λh=>h.2.2 e)];rfl
   ·rw[af ⟨rfl,b,e⟩];rfl
 ·rw[ae (λh=>hc h.1)];have:(chkD g l dg x q m d k0 k1 k2==0)=false:=aL.2 hc;rw[this];rfl
def lI{g l:Bool}{dg:aa}{x q:Int}{m d:aa}{k0 k1 k2:Int}(h:chkF g l dg x q m d k0 k1 k2=0):chkD g l dg x q m d k0 k1 k2=0:=by
 unfold chkF at h;split at h
 ·cases h
 ·exact h
def bne0{e:Int}(h:e≠0):(e != 0)=true:=by simp[h]
def Jo{m d:aa}{y:Int}{z:Int×Int×Int}:z∈wu m d y↔z.1=y/\z.2.1∈monI m/\z.2.2∈dayI d/\z.2.2<=wj d y z.2.1:=by
 unfold wu vQ;simp only[List.mem_flatMap,eD,mf,cb];constructor
 ·rintro⟨f,a,k,⟨c,b⟩,rfl⟩;exact⟨rfl,a,c,b⟩
 ·rintro⟨e,a,c,b⟩;exact⟨z.2.1,a,z.2.2,⟨c,b⟩,by rw[<-e]⟩
def VH(y:Int)(i:Nat):(minL i:Int)<=lenI y (i:Int):=by
 unfold minL lenI
 repeat' split
 all_goals omega
def RA{g l:Bool}{dg:aa}{x:Int}(a:okY g l dg x 0){m d:aa}(n:m≠[])(hs:sea m=0)(h:d≠[])(b:fitD m d=true):hasF g dg x m d:=by
 obtain⟨p,_,_⟩:=G6 a;refine⟨_,p,?_⟩;unfold fitD at b;simp only[tj,aA]at b;obtain⟨i,hi,o,k,j,c⟩:=b;have hi':=tW.1 hi;have hk':=tW.1 j;have q:minL i<=31:=by
  unfold minL
  repeat' split
  all_goals omega
 have f:((sgn g (oz g dg x 0)).1,(i:Int),(k:Int))∈wu m d (sgn g (oz g dg x 0)).1:=by
  rw[Jo];refine⟨rfl,?_,?_,?_⟩
  ·unfold monI;rw[ae n,ae (by omega)];exact eD.2 ⟨i,mf.2 ⟨hi,o⟩,rfl⟩
  ·unfold dayI;rw[ae h];exact eD.2 ⟨k,mf.2 ⟨tW.2 (by omega),c⟩,rfl⟩
  ·unfold wj;rw[ae h];have:=VH (sgn g (oz g dg x 0)).1 i;show(k:Int)<=lenI (sgn g (oz g dg x 0)).1 (i:Int);omega
 intro e;rw[e]at f;cases f
def If{g l:Bool}{dg:aa}{x q:Int}{m d:aa}{k0 k1 k2:Int}(hc:chkD g l dg x q m d k0 k1 k2=0)(k:d=[]\/fitD m d=true):chkF g l dg x q m d k0 k1 k2=0:=by
 obtain⟨a,j,n,p,c⟩:=pR hc;unfold chkF;rw[ae,hc];rintro⟨_,e,i⟩;obtain⟨f,o⟩:=c e;have b:q=0:=by
  have:=QM a;by_cases h:0<q
  ·exact absurd (p h) f
  ·omega
 subst b;exact i (RA a f o e (k.resolve_left e))
def plN(P:Nat×Nat×Nat)(i:Nat):Nat:=if i=0 then P.1 else if i=1 then P.2.1 else P.2.2
def AD{g l:Bool}{dg:aa}{x q:Int}{m d:aa}{k0 k1 k2:Int}(a:allM k0 k1 k2 (aR m d)=0):chkF g l dg x q m d k0 k1 k2=0\/chkF g l dg x q m d k0 k1 k2=6\/chkF g l dg x q m d k0 k1 k2=7\/chkF g l dg x q m d k0 k1 k2=8:=by
 unfold chkF;split
 ·exact .inr (.inr (.inr rfl))
 ·exact Oc a
noncomputable def chkR(r:DR):Nat:=(chkF r.1 r.2.1 r.2.2.1 (r.2.2.2.1:Int) (r.2.2.2.2.1:Int) r.2.2.2.2.2.1 r.2.2.2.2.2.2.1 (r.2.2.2.2.2.2.2.1.1:Int) (r.2.2.2.2.2.2.2.1.2.1:Int) (r.2.2.2.2.2.2.2.1.2.2:Int)).toNat
noncomputable def ek(S:aa)(a:Nat):(Nat×Nat×Nat)⊕DR:=
 match uu S a with
 | .inl k=>.inl (k,5,k)
 | .inr r=>if chkR r=0 then .inr r else .inl (plN r.2.2.2.2.2.2.2.2.1 (chkR r - 6),chkR r,r.2.2.2.2.2.2.2.2.2)
def WE(S:aa):(Nat×Nat×Nat)⊕DR->(Int×Int×aa×Int)⊕(Bool×Bool×aa×Int×Int×aa×aa×Int×Int×Int×Int×aa×Int)
 | .inl (k,E,p)=>.inl ((k:Int),(E:Int),S,(p:Int))
 | .inr (g,l,dg,x,s,m,d,M,P,e)=>.inr (g,l,dg,(x:Int),(s:Int),m,d,(M.1:Int),(M.2.1:Int),(M.2.2:Int),(P.1:Int),S,(e:Int))
def Hh(S:aa)(a:Nat)(h:a<=S.length)(n:S.length<100000):iN 20000000 S (a:Int)=some (WE S (ek S a)):=by
 have i:ks 20000000 S (a:Int)=_:=Vy 19999700 S a h n (by omega);unfold iN ek;rw[i];cases p:uu S a with
 | inl k=>rfl
 | inr r=>
  obtain⟨g,l,dg,x,s,f,d,M,P,e⟩:=r;have b:=Ij h p;have j:=b.all;have t:=b.m2;have o:=b.dg17;simp only[ob,Xf,d4,d8];rw[wA (g:=g) (l:=l) (x:=(x:Int)) (q:=(s:Int)) (d:=d) (show f.length<=18 by omega) (show dg.length<=100 by omega) (show(0:Int)<=(M.1:Int)by omega) (show(0:Int)<=(M.2.1:Int)by omega) (show(0:Int)<=(M.2.2:Int)by omega)];simp only[ob];have c:=AD (g:=g) (l:=l) (dg:=dg) (x:=(x:Int)) (q:=(s:Int)) (m:=f) (d:=d) (k0:=(M.1:Int)) (k1:=(M.2.1:Int)) (k2:=(M.2.2:Int)) (vk j);unfold chkR;simp only[];rcases c with hc | hc | hc | hc<;>rw[hc]<;>rfl
def dayY(y:Int):Int:=365*y+(1+(y - 1) / 4 - (y - 1) / 100+(y - 1) / 400)
def cumM(y:Int):Nat->Int
 | 0=>0
 | k+1=>cumM y k+lenI y ((k+1:Nat):Int)
def dayM(y:Int)(m:Nat):Int:=if m<=12 then dayY y+cumM y (m - 1)else dayY (y+1)+cumM (y+1) (m - 13)
def yz(y:Int):dayY (y+1)=dayY y+365+(if tY y then 1 else 0):=by
 unfold dayY tY;simp only[aA,iG,cb];split<;>omega
def IR(n:Int):dayY (400*n)=146097*n:=by
 unfold dayY;omega
def kS{y:Int}(h:-20000000000000000<=y/\y<=20000000000000000):-8000000000000000000<=dayY y/\dayY y<=8000000000000000000:=by
 unfold dayY;omega
def ZD(y:Int):cumM y 12=365+(if tY y then 1 else 0):=by
 have e:∀k:Nat,cumM y (k+1)=cumM y k+lenI y ((k+1:Nat):Int):=λ_=>rfl;have z:cumM y 0=0:=rfl;rw[e 11,e 10,e 9,e 8,e 7,e 6,e 5,e 4,e 3,e 2,e 1,e 0,z];unfold lenI;cases tY y<;>rfl
def sd(y:Int):∀k:Nat,0<=cumM y k/\cumM y k<=31*(k:Int)
 | 0=>by simp[cumM]
 | k+1=>by
  have a:=sd y k;have b:=jN y ((k+1:Nat):Int);show 0<=cumM y k+lenI y ((k+1:Nat):Int)/\cumM y k+lenI y ((k+1:Nat):Int)<=_;omega
def pN{y:Int}(h:eo y){m:Nat}(a:m<=24):-8100000000000000000<=dayM y m/\dayM y m<=8100000000000000000:=by
 unfold eo at h;unfold dayM;split
 ·have:=sd y (m - 1);have:=kS (y:=y) (by omega);omega
 ·have:=sd (y+1) (m - 13);have:=kS (y:=y+1) (by omega);omega
def Uj(y:Int):dayM y 13=dayY (y+1):=by
 unfold dayM;rw[ae (by omega)];simp[cumM]
def xT(y:Int){m:Nat}(a:1<=m)(b:m<=12):dayM y (m+1)=dayM y m+lenI y (m:Int):=by
 obtain⟨k,rfl⟩:∃k,m=k+1:=⟨m - 1,by omega⟩;have e:dayM y (k+1)=dayY y+cumM y k:=by unfold dayM;rw[af (by omega)];rfl
 rw[e];by_cases h:k+1=12
 ·obtain rfl:k=11:=by omega
  rw[Uj,yz];have:=ZD y;have e:cumM y 12=cumM y 11+lenI y ((11+1:Nat):Int):=rfl;omega
 ·have:dayM y (k+1+1)=dayY y+cumM y (k+1):=by unfold dayM;rw[af (by omega)];rfl
  rw[this];show dayY y+(cumM y k+lenI y ((k+1:Nat):Int))=_;omega
def uE(y:Int){m:Nat}(b:1<=m)(a:m<=12):dayM y (m+12)=dayM (y+1) m:=by
 unfold dayM;rw[ae (by omega),af a];congr 2
def tf(n:Nat){y:Int}(h:-10000000000000001<=y/\y<=10000000000000001):mi n y=some (dayY y):=by
 have a:=kS (y:=y) (by omega);unfold mi;rw[xW n (by omega),wrap_i64 (365*y) (by omega) (by omega)];show some (wrap .i64 (dayY y))=_;rw[wrap_i64 _ (by omega) (by omega)]
def tg(n:Nat){y:Int}(h:eo y):mA n y=some (dayY y,0):=by
 unfold mA;have h':=h;unfold eo at h';rw[gH,af h,tf n (by omega)];rfl
def Eb(n:Nat){y:Int}(h:eo y):uH n y=some (dayY (y+1) - 1,0):=by
 unfold uH;have h':=h;unfold eo at h';have a:=kS (y:=y+1) (by omega);rw[gH,af h,wrap_i64 (y+1) (by omega) (by omega),tf n (by omega)];show some (wrap .i64 (dayY (y+1) - 1),(0:Int))=_;rw[wrap_i64 _ (by omega) (by omega)]
def FM(n:Nat){y:Int}(h:eo y){m:Nat}(e:m<=11):∀(r j:Nat),j+r=m->∀N,r<N->av (bN n) N (y,dayY y+cumM y j,(m:Int),(j:Int))=some (dayY y+cumM y m):=by
 have h':=h;unfold eo at h';have c:=kS (y:=y) (by omega);intro r
 induction r with
 | zero=>
  intro j b N a;obtain⟨N,rfl⟩:∃k,N=k+1:=⟨N - 1,by omega⟩;obtain rfl:j=m:=by omega
  have:bN n (y,dayY y+cumM y j,(j:Int),(j:Int))=some (.inr (dayY y+cumM y j)):=by
   unfold bN;rw[bG,ae (show¬((j:Int)<(j:Int))by omega)]
  rw[av,this]
 | succ r ih=>
  intro j b N a;obtain⟨N,rfl⟩:∃k,N=k+1:=⟨N - 1,by omega⟩;have w:wrap .i64 ((j:Int)+1)=((j+1:Nat):Int):=by rw[wrap_i64 _ (by omega) (by omega)];omega
  have hc:=sd y j;have d:=jN y ((j+1:Nat):Int);have:bN n (y,dayY y+cumM y j,(m:Int),(j:Int))=some (.inl (y,dayY y+cumM y (j+1),(m:Int),((j+1:Nat):Int))):=by
   unfold bN;rw[bG,af (show((j:Int)<(m:Int))by omega)];simp only[w,zq n h (show 1<=j+1 by omega) (show j+1<=12 by omega),ob];rw[wrap_i64 (dayY y+cumM y j+lenI y ((j+1:Nat):Int)) (by omega) (by omega),Int.add_assoc];rfl
  rw[av,this];exact ih (j+1) (by omega) N (by omega)
def uU(n:Nat)(c:100<n){y:Int}(h:eo y){m:Nat}(b:1<=m)(a:m<=12):fL n y (m:Int)=some (dayM y m,0):=by
 unfold fL;have w:wrap .i64 ((m:Int) - 1)=((m - 1:Nat):Int):=by rw[wrap_i64 _ (by omega) (by omega)];omega
 rw[Jl n h b a,tg n h,w];have:=FM n h (m:=m - 1) (by omega) (m - 1) 0 (by omega) n (by omega);rw[show dayY y+cumM y 0=dayY y by simp[cumM]]at this;show ob (av (bN n) n (y,dayY y,((m - 1:Nat):Int),((0:Nat):Int))) _=_;rw[this];unfold dayM;rw[af a];rfl
def Gs(n:Nat)(c:100<n){y:Int}(h:eo y){m:Nat}(a:1<=m)(b:m<=12):iq n y (m:Int)=some (dayM y (m+1) - 1,0):=by
 unfold iq;have d:=pN h (m:=m) (by omega);have e:=jN y (m:Int);rw[uU n c h a b,zq n h a b,xT y a b];show some (wrap .i64 (wrap .i64 (dayM y m+lenI y (m:Int)) - 1),(0:Int))=_;rw[wrap_i64 (dayM y m+lenI y (m:Int)) (by omega) (by omega),wrap_i64 _ (by omega) (by omega)]
def KC(n:Nat)(b:100<n){y:Int}(h:eo y){j m c:Nat}(l:j<21)(e:oy[j]?=some ((m:Int),(c:Int)))(f:1<=m)(g:m<=12)(k:1<=c)(o:c<=6)(hy:12<m+c - 1->y≠10000000000000000):
  ja n y ((21+j:Nat):Int)=some (0,dayM y m,0,dayM y (m+c) - 1,0):=by
 have i:fN n ((21+j:Nat):Int)=some ((m:Int),(c:Int),0):=by
  unfold fN dV;rw[bG,bG,ae (by omega),ae (by omega)];have:wrap .i64 (((21+j:Nat):Int) - 21)=(j:Int):=by rw[wrap_i64 _ (by omega) (by omega)];omega
  rw[this,cG l];show ob (oy[j]?) _=_;rw[e];rfl
 unfold ja;rw[i];simp only[ob,fG,ah];rw[uU n b h f g];simp only[ob,fG,ah];rw[madd n h f g k o];have h':=h;unfold eo at h';by_cases a:12<m+c - 1
 ·rw[af a,ae (hy a)];have d:eo (y+1):=by unfold eo;have:=hy a;omega
  simp only[ob,fG,ah];rw[Gs n b d (m:=m+c - 1 - 12) (by omega) (by omega)];have:=uE y (m:=m+c - 1 - 12+1) (by omega) (by omega);rw[show m+c - 1 - 12+1+12=m+c by omega]at this;rw[this]
 ·rw[ae a];simp only[ob,fG,ah];rw[Gs n b h (m:=m+c - 1) (by omega) (by omega),show m+c - 1+1=m+c by omega]
def Ai(n:Nat){y:Int}(hy:-10000000000000002<=y/\y<=10000000000000002):∀(r:Nat) (z:Int),z+(r:Int)=y->-10000000000000402<=z->∀N,r<N->av (de n) N (y,dayY z,z)=some (dayY y):=by
 intro r
 induction r with
 | zero=>
  intro z d b N e;obtain⟨N,rfl⟩:∃k,N=k+1:=⟨N - 1,by omega⟩;obtain rfl:z=y:=by omega
  have:de n (z,dayY z,z)=some (.inr (dayY z)):=by
   unfold de;rw[bG,ae (show¬(z<z)by omega)]
  rw[av,this]
 | succ r ih=>
  intro z d b N e;obtain⟨N,rfl⟩:∃k,N=k+1:=⟨N - 1,by omega⟩;have f:=kS (y:=z) (by omega);have a:=yz z;have:de n (y,dayY z,z)=some (.inl (y,dayY (z+1),z+1)):=by
   unfold de;rw[bG,af (show z<y by omega),BM];have c:lenI z 2=if tY z then 29 else 28:=rfl
   simp only[ob,c];rw[wrap_i64 (dayY z+365) (by omega) (by omega),wrap_i64 (dayY z+365+1) (by omega) (by omega),wrap_i64 (z+1) (by omega) (by omega),a];cases tY z
   ·simp
   ·rfl
  rw[av,this];exact ih (z+1) (by omega) (by omega) N (by omega)
def sI(n:Nat)(e:1000<n){y:Int}(hy:-10000000000000002<=y/\y<=10000000000000002):ck n y=some (dayY y):=by
 have b:=Int.mul_tdiv_add_tmod y 400;have d:Int.tmod y 400=if 0<=y then y%400 else -((-y)%400):=by
  by_cases h:0<=y
  ·rw[af h,NX h]
  ·rw[ae h,<-NX (show 0<=-y by omega),Int.neg_tmod,Int.neg_neg]
 unfold ck;by_cases a:Int.tmod y 400<0
 ·rw[au a];have c:Int.tdiv y 400 - 1=y / 400:=by
   rw[d]at a b;split at a
   ·omega
   ·rw[ae (by assumption)]at b;omega
  rw[wrap_i64 (Int.tdiv y 400) (by omega) (by omega),c,wrap_i64 (y / 400) (by omega) (by omega),wrap_i64 (y / 400*146097) (by omega) (by omega),wrap_i64 (y / 400*400) (by omega) (by omega)];have:=Ai n hy (y - y / 400*400).toNat (y / 400*400) (by omega) (by omega) n (by omega);rw[show dayY (y / 400*400)=y / 400*146097 by rw[zN,IR,zN]]at this;simp only[aj,this,ob]
 ·rw[aw a];have c:Int.tdiv y 400=y / 400:=by
   rw[d]at a b;split at a
   ·rw[af (by assumption)]at b;omega
   ·rw[ae (by assumption)]at b;omega
  rw[c,wrap_i64 (y / 400) (by omega) (by omega),wrap_i64 (y / 400*146097) (by omega) (by omega),wrap_i64 (y / 400*400) (by omega) (by omega)];have:=Ai n hy (y - y / 400*400).toNat (y / 400*400) (by omega) (by omega) n (by omega);rw[show dayY (y / 400*400)=y / 400*146097 by rw[zN,IR,zN]]at this;simp only[ah,this,ob]
def y7{step:Int×Int×Int×Int->Option ((Int×Int×Int×Int)⊕Int)}(n:Nat)
  (hs:step=λx=>(cond (decide (x.2.2.2<x.2.1)) (ob (eS n x.1 x.2.2.2) λr=>(some (.inl (x.1,x.2.1,(wrap .i64 (x.2.2.1+r)),(wrap .i64 (x.2.2.2+1)))))) (some (.inr x.2.2.1))))
  {y:Int} (hy:-10000000000000002<=y/\y<=10000000000000002) {m:Nat} (g:1<=m) (d:m<=12) {N:Nat} (a:20<N):av step N (y,(m:Int),dayY y,1)=some (dayM y m):=by
 have f:=kS (y:=y) (by omega);have b:∀(r j:Nat),j+1+r=m->∀N,r<N->av step N (y,(m:Int),dayY y+cumM y j,((j+1:Nat):Int))=some (dayY y+cumM y (m - 1)):=by
  intro r
  induction r with
  | zero=>
   intro j c N a;obtain⟨N,rfl⟩:∃k,N=k+1:=⟨N - 1,by omega⟩;obtain rfl:j+1=m:=by omega
   have:step (y,((j+1:Nat):Int),dayY y+cumM y j,((j+1:Nat):Int))=some (.inr (dayY y+cumM y j)):=by
    rw[hs];simp only[];rw[aw (show¬(((j+1:Nat):Int)<((j+1:Nat):Int))by omega)];rfl
   rw[av,this];rfl
  | succ r ih=>
   intro j c N a;obtain⟨N,rfl⟩:∃k,N=k+1:=⟨N - 1,by omega⟩;have w:wrap .i64 (((j+1:Nat):Int)+1)=((j+1+1:Nat):Int):=by rw[wrap_i64 _ (by omega) (by omega)];omega
   have hc:=sd y j;have h:=jN y ((j+1:Nat):Int);have:step (y,(m:Int),dayY y+cumM y j,((j+1:Nat):Int))=some (.inl (y,(m:Int),dayY y+cumM y (j+1),((j+1+1:Nat):Int))):=by
    rw[hs];simp only[];rw[au (show(((j+1:Nat):Int)<(m:Int))by omega),BM];simp only[aj,ob,w];rw[wrap_i64 (dayY y+cumM y j+lenI y ((j+1:Nat):Int)) (by omega) (by omega),Int.add_assoc];rfl
   rw[av,this];exact ih (j+1) (by omega) N (by omega)
 have:=b (m - 1) 0 (by omega) N (by omega);rw[show dayY y+cumM y 0=dayY y by simp[cumM]]at this;have e:dayM y m=dayY y+cumM y (m - 1):=by unfold dayM;rw[af d]
 rw[e];exact this
def sj(n:Nat)(a:1000<n){y:Int}(hy:-10000000000000001<=y/\y<=10000000000000001){m:Nat}(b:1<=m)(c:m<=24):aU n y (m:Int)=some (dayM y m):=by
 unfold aU;by_cases h:12<m
 ·rw[au (show(m:Int)>12 by omega),wrap_i64 (y+1) (by omega) (by omega),wrap_i64 ((m:Int) - 12) (by omega) (by omega),show(m:Int) - 12=((m - 12:Nat):Int)by omega];unfold kR;rw[aw (show¬((m - 12:Nat):Int)>12 by omega),sI n a (by omega)];simp only[aj,ah,ob];have:=y7 (step:=jm n) n rfl (y:=y+1) (by omega) (m:=m - 12) (by omega) (by omega) (N:=n) (by omega);rw[this,<-uE y (by omega) (by omega),show m - 12+12=m by omega]
 ·rw[aw (show¬(m:Int)>12 by omega),sI n a (by omega)];simp only[ah,ob];have:=y7 (step:=kP n) n rfl (y:=y) (by omega) (m:=m) (by omega) (by omega) (N:=n) (by omega);rw[this]
def twoV(s:aa):Nat:=match s with
 | [a,b]=>10*(a.toNat - 48)+(b.toNat - 48)
 | _=>0
def yOf(g:Bool)(dg:aa)(x:Int):Int:=if g then -((val dg x.toNat:Nat):Int)else((val dg x.toNat:Nat):Int)
def spF(m:aa):Nat:=((oy.getD (sea m - 21).toNat (0,0)).1).toNat
def spC(m:aa):Nat:=((oy.getD (sea m - 21).toNat (0,0)).2).toNat
def oO(g:Bool)(dg:aa)(x:Int)(m d:aa):Int×Int:=
 if m=[]then(dayY (yOf g dg x),dayY (yOf g dg x+1) - 1)
 else if 0<sea m then(dayM (yOf g dg x) (spF m),dayM (yOf g dg x) (spF m+spC m) - 1)
 else if d=[]then(dayM (yOf g dg x) (twoV m),dayM (yOf g dg x) (twoV m+1) - 1)
 else(dayM (yOf g dg x) (twoV m)+(twoV d:Int) - 1,dayM (yOf g dg x) (twoV m)+(twoV d:Int) - 1)
def exD(dg m d:aa)(q:Int):Bool:=!(hasX dg||(hasX m||hasX d))&&(q==0)
def Tq{s:aa}(h:hasX s=false){c:UInt8}(hc:c∈s):c≠88:=by
 rintro rfl;unfold hasX at h;rw[sY]at h;exact h 88 hc (by decide)
def K6{s:aa}(h:hasX s=false){k:Nat}(l:k<100)(c:agr s k=true):twoV s=k/\s=two k:=by
 unfold agr at c;split at c
 ·rename_i a b;have e:a≠88:=Tq h (by simp);have f:b≠88:=Tq h (by simp);simp only[aA,iG,bu]at c;obtain⟨d,g⟩:=c;have d:=d.resolve_left e;have g:=g.resolve_left f;subst d g;refine⟨?_,rfl⟩;unfold twoV;have j:(UInt8.ofNat (48+k / 10)).toNat=48+k / 10:=by simp;omega
  have i:(UInt8.ofNat (48+k%10)).toNat=48+k%10:=by simp;omega
  simp only[j,i];omega
 ·cases c
def A6{s:aa}(h:hasX s=false){g:Nat}(d:g<100)(a:dW s g=true):1<=twoV s/\twoV s<=g/\s=two (twoV s):=by
 unfold dW at a;obtain⟨i,hi,a⟩:=tj.1 a;have:=gS.1 hi;obtain⟨b,c⟩:=K6 h (by omega) a;rw[b];exact⟨by omega,by omega,c⟩
def LK{s:aa}(h:hasX s=false){g:Nat}(d:g<100){k:Int}(c:k∈uP (fitN s g)):k=(twoV s:Int):=by
 obtain⟨i,hi,rfl⟩:=eD.1 c;obtain⟨a,b⟩:=mf.1 hi;have:=tW.1 a;rw[(K6 h (by omega) b).1]
def IP{k:Nat}(c:k<100):Lib.atoi (two k)=some (k:Int):=by
 have a:(UInt8.ofNat (48+k / 10)).toNat=48+k / 10:=by simp;omega
 have b:(UInt8.ofNat (48+k%10)).toNat=48+k%10:=by simp;omega
 unfold two;rw[iO9 (by omega) (by omega),a,b];congr 2;omega
def zX(n:Nat){k:Nat}(d:k<100):be n (two k)=some (k:Int):=by
 have a:(UInt8.ofNat (48+k / 10)).toNat=48+k / 10:=by simp;omega
 have b:(UInt8.ofNat (48+k%10)).toNat=48+k%10:=by simp;omega
 have s0:sx (two k) 0=some (UInt8.ofNat (48+k / 10)):=rfl;have c:sx (two k) 1=some (UInt8.ofNat (48+k%10)):=rfl;unfold be;rw[s0,c];simp only[ob,a,b]
 rw[gD (((48+k / 10:Nat):Int) - 48) (by omega) (by omega),gD (((48+k%10:Nat):Int) - 48) (by omega) (by omega),
  wrap_i64 (((48+k / 10:Nat):Int) - 48) (by omega) (by omega),wrap_i64 (((48+k%10:Nat):Int) - 48) (by omega) (by omega),
  wrap_i64 (10*(((48+k / 10:Nat):Int) - 48)) (by omega) (by omega),wrap_i64 _ (by omega) (by omega)]
 congr 1;omega
structure Exact(g l:Bool)(dg:aa)(x:Int)(m d:aa):Prop where
 ok:okY g l dg x 0
 num:hasX dg=false
 cal:eo (yOf g dg x)
 mon:m=[]\/(∃j,j<21/\m=two (21+j)/\(j=3\/j=7\/j=9->yOf g dg x≠10000000000000000))\/(sea m=0/\1<=twoV m/\twoV m<=12/\m=two (twoV m))
 day:d=[]\/(m≠[]/\sea m=0/\1<=twoV d/\twoV d<=31/\d=two (twoV d)/\(twoV d:Int)<=lenI (yOf g dg x) (twoV m:Int))
def wG{g l:Bool}{dg:aa}{x q:Int}{m d:aa}{k0 k1 k2:Int}(hc:chkF g l dg x q m d k0 k1 k2=0)(f:exD dg m d q=true):q=0/\Exact g l dg x m d:=by
 unfold exD at f;simp only[aA,kv,qZ,bu]at f;obtain⟨⟨u,o,i⟩,rfl⟩:=f;refine⟨rfl,?_⟩;have y:=lI hc;obtain⟨a,J,I,P,w⟩:=pR y;obtain⟨s,O,c3,c4⟩:=Eg y;have k:=Ge a u;obtain⟨F,_,_⟩:=G6 a;have hy:inP g dg x 0 (yOf g dg x):=by
  have:=(k _).1 F;have e:yOf g dg x=(sgn g (oz g dg x 0)).1:=by rw[this];rfl
  rw[e];exact F
 have n:=C4 hy;refine⟨a,u,n,?_,?_⟩
 ·by_cases p:m=[]
  ·exact .inl p
  ·right;rcases pD m with M | ⟨j,G,e⟩
   ·right;rcases O with h | h | h
    ·exact absurd h p
    ·omega
    ·obtain⟨a1,a2,D⟩:=A6 o (by omega) h;exact⟨M,a1,a2,D⟩
   ·left;refine⟨j,G,e,λH=>?_⟩;unfold yrD at s;rw[af a]at s;unfold yrB at s;simp only[aA,kv]at s;have C:wint (sea m)=true:=by
     rw[e,lO G];rcases H with rfl | rfl | rfl<;>rfl
    have r:=s.2;rw[C,rc]at r;unfold rC at r;rw[u]at r;intro b;unfold yOf at b;cases g with
    | true=>
     simp only[aQ]at b;omega
    | false=>
     simp only[bU,aG]at b;have:val dg x.toNat=E16:=by unfold E16;omega
     rw[au this]at r;cases r
 ·by_cases c:d=[]
  ·exact .inl c
  ·right;obtain⟨p,hs⟩:=w c;rcases c3 with h | ⟨_,_,h⟩
   ·exact absurd h c
   ·obtain⟨a1,a2,D⟩:=A6 i (by omega) h;refine⟨p,hs,a1,a2,D,?_⟩;have K:hasF g dg x m d:=by
     unfold chkF at hc;split at hc
     ·cases hc
     ·rename_i N;by_cases h:hasF g dg x m d
      ·exact h
      ·exact absurd ⟨y,c,h⟩ N
    obtain⟨e,f,E⟩:=K;obtain⟨z,L,t⟩:=List.exists_cons_of_ne_nil E;have t:z∈wu m d e:=by rw[t];exact nl
    obtain⟨z1,z2,B,v⟩:=Jo.1 t;have A:e=yOf g dg x:=(k e).1 f;unfold monI at z2;rw[ae p,ae (by omega)]at z2;unfold dayI at B;rw[ae c]at B;unfold wj at v;rw[ae c,LK i (by omega) B,LK o (by omega) z2,A]at v;exact v
def G3{j:Nat}(b:j<21):∃f c:Nat,oy[j]?=some ((f:Int),(c:Int))/\1<=f/\f<=12/\1<=c/\c<=6/\(12<f+c - 1↔j=3\/j=7\/j=9)/\spF (two (21+j))=f/\spC (two (21+j))=c:=by
 obtain⟨f,c,e,d,i,g,k,h⟩:=Jq b;have hs:(sea (two (21+j)) - 21).toNat=j:=by rw[lO b];omega
 have a:oy.getD j (0,0)=((f:Int),(c:Int)):=by rw[Fo,e];rfl
 refine⟨f,c,e,d,i,g,k,h,?_,?_⟩
 ·unfold spF;rw[hs,a];rfl
 ·unfold spC;rw[hs,a];rfl
def Eu(n:Nat){j:Nat}(a:j<21):iu n ((21+j:Nat):Int)=oy[j]?:=by
 have:j=0\/j=1\/j=2\/j=3\/j=4\/j=5\/j=6\/j=7\/j=8\/j=9\/j=10\/j=11\/j=12\/j=13\/j=14\/j=15\/j=16\/j=17\/j=18\/j=19\/j=20:=by omega
 rcases this with rfl | rfl | rfl | rfl | rfl | rfl | rfl | rfl | rfl | rfl | rfl | rfl | rfl | rfl | rfl | rfl | rfl | rfl | rfl | rfl | rfl<;>rfl
def IV(n:Nat)(g l:Bool)(dg:aa)(x q:Int)(m d:aa)(k0 k1 k2:Int)(b:m.length<=1000)(a:dg.length<=1000)(h:d.length<=1000):m6 n g l dg x q m d k0 k1 k2=some (exD dg m d q):=by
 unfold m6 exD;rw[ER n g l dg x q m d k0 k1 k2 b a h];simp only[ob];cases(hasX dg||(hasX m||hasX d))<;>rfl
def Td{Y:Type}(a b:Y):∀s:aa,((s.findSome? λc=>if c=88 then some a else none).getD b)=if hasX s then a else b
 | []=>rfl
 | c::s=>by
  have ih:=Td a b s;unfold hasX at ih ⊢;rw[EN,vV];by_cases hc:c=88
  ·subst hc;rfl
  ·rw[ae hc];have e:(c==88)=false:=aL.2 hc;rw[e,tq];exact ih
def zI (n:Nat) (s:aa) (g l:Bool) (dg:aa) (x q:Int) (m d:aa) (k0 k1 k2:Int) (hs:s.length<=100000) {N:Nat} (j:s.length<N):
  av (eF n) N (s,0,g,l,dg,x,q,m,d,k0,k1,k2)=some (if hasX s then .inl 0 else .inr (g,l,dg,x,q,m,d,k0,k1,k2)):=by
 have:=uW (step:=eF n) (f:=λi=>(s,(i:Int),g,l,dg,x,q,m,d,k0,k1,k2)) (L:=s) (G:=λc=>if c=88 then some (.inl 0) else none) (e:=.inr (g,l,dg,x,q,m,d,k0,k1,k2))
  (λi c hi=>by
   have a:=(pY.1 hi).1;have b:wrap .i64 ((i:Int)+1)=((i+1:Nat):Int):=by rw [wrap_i64 _ (by omega) (by omega)];omega
   unfold eF;simp only [d4,d8,b];rw [au (show (i:Int)<((s.length:Nat):Int) by omega),lD hi];simp only [aj,ob];by_cases hc:c=88
   ·subst hc;rw [af rfl];rfl
   ·rw [ae hc];have:(((c.toNat:Nat):Int)==88)=false:=by
     rw [aL];intro h;apply hc;apply iL.1;have:c.toNat=88:=by omega
     rw [this];rfl
    rw [this];rfl)
  (by
   unfold eF;simp only [d4,d8];rw [aw (show ¬((s.length:Nat):Int)<((s.length:Nat):Int) by omega)];rfl)
  j
 rw [show ((0:Nat):Int)=0 from rfl] at this;rw [this];rw [Td]
def ME(n:Nat)(g l:Bool)(dg:aa)(x q:Int)(m d:aa)(k0 k1 k2:Int)(f:m.length<=1000)(i:dg.length<=1000)(h:d.length<=1000)(e:4000<n):kH n g l dg x q m d k0 k1 k2=some (if exD dg m d q then 1 else 0):=by
 unfold kH;rw[bI (by omega)];simp only[ob];rw[bI (by rw[aH];omega)];simp only[];rw[zI n _ _ _ _ _ _ _ _ _ _ _ (by simp only[aH];omega) (by simp only[aH];omega)];rw[wZ,wZ];unfold exD;cases hasX dg<;>cases hasX m<;>cases hasX d<;>(try rfl);simp only[Ie,bU,aG,ob,d4,kV,rc];by_cases a:q=0
 ·subst a;rfl
 ·have b:(q != 0)=true:=by simp[a]
  have c:(q==0)=false:=aL.2 a;rw[b,c];rfl
def Ud(n:Nat)(c:100<n){y:Int}(h:eo y){m k:Nat}(a:1<=m)(b:m<=12)(k1:1<=k)(k2:(k:Int)<=lenI y (m:Int)):sR n y (m:Int) (k:Int)=some (dayM y m+(k:Int) - 1,0):=by
 have d:=pN h (m:=m) (by omega);have e:=jN y (m:Int);unfold sR rz;rw[LZ n h a b];simp only[ob,fG,ah];rw[aw (show¬(k:Int)<1 by omega),aw (show¬(k:Int)>lenI y (m:Int)by omega),uU n c h a b];simp only[ob,fG,ah];rw[wrap_i64 (dayM y m+(k:Int)) (by omega) (by omega),wrap_i64 _ (by omega) (by omega)]
section
variable {g l:Bool} {dg:List UInt8} {x:Int} {m d:List UInt8} {k0 k1 k2:Int}
def G4 (n:Nat) (u:100<n) (y:m.length<=18) (E:Exact g l dg x m d) (p r:Int) (w:m≠[]->p=if 0<sea m then sea m else (twoV m:Int)) (L:d≠[]->r=(twoV d:Int)):
  (ob (jw n) λA=>(ob (bn n g l dg x 0 m d k0 k1 k2) λa=>(cond (a==0) (ob (gG n (yOf g dg x) ([p,r]:List (Int))) λo=>(some (o.1,o.2.1,o.2.2.1,o.2.2.2,(0:Int)))) (cond (a==1) (ob (gM n (yOf g dg x) ([p,r]:List (Int))) λk=>(some (k.1,k.2.1,k.2.2.1,k.2.2.2,0))) (cond (a==2) (ob (gW n (yOf g dg x) ([p,r]:List (Int))) λi=>(some (i.1,i.2.1,i.2.2.1,i.2.2.2,0))) (cond (a==3) (ob (gN n (yOf g dg x) ([p,r]:List (Int))) λb=>(some (b.1,b.2.1,b.2.2.1,b.2.2.2,0))) none)))))) =
   some (0,(oO g dg x m d).1,0,(oO g dg x m d).2,0):=by
 have N:jw n=some ():=rfl;have z:ix ([p,r]:List Int).length 0=some 0:=rfl;have G:ix ([p,r]:List Int).length 1=some 1:=rfl;have g0:([p,r]:List Int)[0]?=some p:=rfl;have K:([p,r]:List Int)[1]?=some r:=rfl;rw [N,Px n g l dg x 0 m d k0 k1 k2 y];unfold oO;by_cases t:d=[]
 ·rw [af t];by_cases q:m=[]
  ·have hs:sea m=0:=by rw [q];decide
   rw [ae (show ¬0<sea m by omega),af q,af q];unfold gM;rw [tg n E.cal,Eb n E.cal];rfl
  ·rw [ae q];by_cases hs:0<sea m
   ·rw [af hs,af hs];rcases E.mon with h | ⟨j,s,e,v⟩ | ⟨h,_⟩
    ·exact absurd h q
    ·obtain ⟨f,c,H,a1,a2,O,I,J,P,M⟩:=G3 s;have B:p=((21+j:Nat):Int):=by rw [w q,af hs,e,lO s]
     unfold gG;rw [z];simp only [ob,g0];rw [B,KC n u E.cal s H a1 a2 O I (λh=>v (J.1 h)),e,P,M];rfl
    ·omega
   ·rw [ae hs,ae hs,ae q,af t];rcases E.mon with h | ⟨j,s,e,v⟩ | ⟨_,a1,a2,_⟩
    ·exact absurd h q
    ·rw [e,lO s] at hs;omega
    ·have B:p=(twoV m:Int):=by rw [w q,ae hs]
     unfold gW;rw [z];simp only [ob,g0];rw [B,uU n u E.cal a1 a2,Gs n u E.cal a1 a2];rfl
 ·rw [ae t];rcases E.day with h | ⟨q,hs,b1,b2,Q,F⟩
  ·exact absurd h t
  ·rw [ae q,ae (show ¬0<sea m by omega),ae t];rcases E.mon with h | ⟨j,s,e,v⟩ | ⟨_,a1,a2,_⟩
   ·exact absurd h q
   ·rw [e,lO s] at hs;omega
   ·have C:p=(twoV m:Int):=by rw [w q,ae (by omega)]
    have D:=L t;unfold gN;rw [z,G];simp only [ob,g0,K];rw [C,D,Ud n u E.cal a1 a2 b1 F];rfl
def P8(E:Exact g l dg x m d)(b:m≠[]):Lib.atoi m=some (if 0<sea m then sea m else(twoV m:Int)):=by
 rcases E.mon with h | ⟨j,a,e,_⟩ | ⟨f,a1,a2,c⟩
 ·exact absurd h b
 ·rw[e,lO a,af (by omega)];exact xf a
 ·rw[ae (by omega)];have:=IP (k:=twoV m) (by omega);rw[<-c]at this;exact this
def RN(E:Exact g l dg x m d)(a:d≠[]):Lib.atoi d=some (twoV d:Int):=by
 rcases E.day with h | ⟨_,_,a1,a2,b,_⟩
 ·exact absurd h a
 ·have:=IP (k:=twoV d) (by omega);rw[<-b]at this;exact this
def CW:Lib.atoi []=none:=by kernel_rfl
def GZ{q:Int}(b:m.length<=18)(e:dg.length<=100)(t:d.length<=18)(p:0<=k0)(n:0<=k1)(s:0<=k2):
  gL 20000000 g l dg x q m d k0 k1 k2=some (if chkF g l dg x q m d k0 k1 k2=0 then(if exD dg m d q=true then(0,(oO g dg x m d).1,0,(oO g dg x m d).2,0)else(0,0,0,0,1))else(0,0,0,0,chkF g l dg x q m d k0 k1 k2)):=by
 have k:Nat.ble m.length 18=true:=cr b;have r:Nat.ble d.length 18=true:=cr t;unfold gL;rw[wA b e p n s];simp only[ob];by_cases hc:chkF g l dg x q m d k0 k1 k2=0
 ·rw[af hc,hc,IV 20000000 g l dg x q m d k0 k1 k2 (by omega) (by omega) (by omega)];simp only[ob,fG,ah];by_cases c:exD dg m d q=true
  ·rw[af c,c];obtain⟨rfl,E⟩:=wG hc c;have o:eY 20000000 g l dg x 0=some (yOf g dg x,0):=by
    rw[Dm 20000000 g l dg x 0 (by omega) e,af ⟨E.ok,E.num⟩];rfl
   rw[o,k,r];simp only[dT,ah,aj,ob];by_cases i:m=[]
   ·have a:d=[]:=by
     rcases E.day with h | ⟨h,_⟩
     ·exact h
     ·exact absurd i h
    have:=G4 (k0:=k0) (k1:=k1) (k2:=k2) 20000000 (by omega) b E 0 0 (λh=>absurd i h) (λh=>absurd a h);have f:Lib.atoi m=none:=by rw[i];exact CW
    have j:Lib.atoi d=none:=by rw[a];exact CW
    rw[f,j];simp only[opt];exact this
   ·have f:=P8 E i;by_cases a:d=[]
    ·have:=G4 (k0:=k0) (k1:=k1) (k2:=k2) 20000000 (by omega) b E (if 0<sea m then sea m else(twoV m:Int)) 0 (λ_=>rfl) (λh=>absurd a h);have j:Lib.atoi d=none:=by rw[a];exact CW
     rw[f,j];simp only[opt];exact this
    ·have:=G4 (k0:=k0) (k1:=k1) (k2:=k2) 20000000 (by omega) b E (if 0<sea m then sea m else(twoV m:Int)) (twoV d:Int) (λ_=>rfl) (λ_=>rfl);rw[f,RN E a];simp only[opt];exact this
  ·rw[ae c];rw[Iq]at c;rw[c];rfl
 ·rw[ae hc,bne0 hc];rfl
def vE(E:Exact g l dg x m d)(K:dg.length<=100):dq 20000000 g l dg x 0 m d k0 k1 k2=some (oO g dg x m d):=by
 obtain⟨k,q,rfl,Y,I⟩:=s9 E.ok E.num;have Z:k<=17:=by have:=I.wide;omega
 have hs:=I.small;have H:am 20000000 dg (k:Int)=some (((val dg k:Nat):Int),1):=by
  rw[jW 20000000 dg k I.dig K (by omega) (by omega),af I.small];rfl
 have T:dval 0 dg*10 ^ k=val dg k:=rfl;rw[T]at hs;unfold E16 at hs;have hy:yOf g dg (k:Int)=if g then -((val dg k:Nat):Int)else((val dg k:Nat):Int):=by unfold yOf;rw[bX]
 have D:=E.cal;unfold eo at D;have key:∀y:Int,y=yOf g dg (k:Int)->
   (ob (aT 20000000 g l dg (k:Int) 0 m d k0 k1 k2) λi=>(cond (m==([]:aa)) (ob (ck 20000000 y) λs=>(ob (ck 20000000 (wrap .i64 (y+1))) λp=>(some (s,(wrap .i64 (p - 1)))))) (cond (decide (i>0)) (ob (iu 20000000 i) λa=>(ob (aU 20000000 y a.1) λu=>(ob (aU 20000000 y (wrap .i64 (a.1+a.2))) λr=>(some (u,(wrap .i64 (r - 1))))))) (cond (d==([]:aa)) (ob (be 20000000 m) λt=>(ob (aU 20000000 y t) λo=>(ob (be 20000000 m) λv=>(ob (aU 20000000 y (wrap .i64 (v+1))) λA=>(some (o,(wrap .i64 (A - 1)))))))) (ob (be 20000000 m) λz=>(ob (aU 20000000 y z) λb=>(ob (be 20000000 d) λn=>(some ((wrap .i64 ((wrap .i64 (b+n)) - 1)),(wrap .i64 ((wrap .i64 (b+n)) - 1)))))))))) )=some (oO g dg (k:Int) m d):=by
  intro y L;subst L;have hcal':=E.cal;have X:=kS (y:=yOf g dg (k:Int)+1) (by omega);rw[oc 20000000 (by omega)];simp only[ob];unfold oO;by_cases B:m=[]
  ·have e:(m==([]:aa))=true:=by rw[B];rfl
   rw[af B,e,sI 20000000 (by omega) (by omega),wrap_i64 (yOf g dg (k:Int)+1) (by omega) (by omega),sI 20000000 (by omega) (by omega)];simp only[aj,ob];rw[wrap_i64 _ (by omega) (by omega)]
  ·rw[ae B,gm B];simp only[ah];by_cases hs:0<sea m
   ·rw[af hs,au (show sea m>0 from hs)];rcases E.mon with h | ⟨j,G,e,_⟩ | ⟨h,_⟩
    ·exact absurd h B
    ·obtain⟨f,c,Q,a1,a2,N,W,a5,U,S⟩:=G3 G;have J:sea m=((21+j:Nat):Int):=by rw[e,lO G]
     have P:=pN hcal' (m:=f+c) (by omega);rw[J,Eu 20000000 G,Q];simp only[aj,ob];rw[sj 20000000 (by omega) (by omega) a1 (by omega)];simp only[ob];rw[wrap_i64 ((f:Int)+(c:Int)) (by omega) (by omega),show(f:Int)+(c:Int)=((f+c:Nat):Int)by omega,sj 20000000 (by omega) (by omega) (by omega) (by omega)];simp only[ob];rw[wrap_i64 _ (by omega) (by omega),e,U,S]
    ·omega
   ·rw[ae hs,aw (show¬sea m>0 from hs)];simp only[ah];rcases E.mon with h | ⟨j,G,e,_⟩ | ⟨_,a1,a2,N⟩
    ·exact absurd h B
    ·rw[e,lO G]at hs;omega
    ·have M:=zX 20000000 (k:=twoV m) (by omega);rw[<-N]at M;have P:=pN hcal' (m:=twoV m) (by omega);have R:=pN hcal' (m:=twoV m+1) (by omega);by_cases F:d=[]
     ·have e:(d==([]:aa))=true:=by rw[F];rfl
      rw[af F,e,M];simp only[aj,ob];rw[sj 20000000 (by omega) (by omega) a1 (by omega)];simp only[ob];rw[wrap_i64 ((twoV m:Int)+1) (by omega) (by omega),show(twoV m:Int)+1=((twoV m+1:Nat):Int)by omega,sj 20000000 (by omega) (by omega) (by omega) (by omega)];simp only[ob];rw[wrap_i64 _ (by omega) (by omega)]
     ·rw[ae F,gm F];rcases E.day with h | ⟨_,_,b1,b2,O,V⟩
      ·exact absurd h F
      ·have C:=zX 20000000 (k:=twoV d) (by omega);rw[<-O]at C;rw[M];simp only[ah,ob];rw[sj 20000000 (by omega) (by omega) a1 (by omega),C];simp only[ob];rw[wrap_i64 (dayM (yOf g dg (k:Int)) (twoV m)+(twoV d:Int)) (by omega) (by omega),wrap_i64 _ (by omega) (by omega)]
 unfold dq;rw[H];simp only[ob];cases g with
 | true=>
  have w:wrap .i64 (0 - ((val dg k:Nat):Int))=yOf true dg (k:Int):=by
   rw[wrap_i64 _ (by omega) (by omega),hy];simp
  rw[w];simp only[aj];exact key _ rfl
 | false=>
  have w:((val dg k:Nat):Int)=yOf false dg (k:Int):=by rw[hy];rfl
  rw[w];simp only[ah];exact key _ rfl
end
def Yq{g l:Bool}{d:aa}{x s:Int}(h:okY g l d x s):okY g l d x 0:=by
 unfold okY at h ⊢;cases l with
 | true=>
  rw[af rfl]at h ⊢;unfold okL at h ⊢;refine⟨h.1,uz _,?_⟩;omega
 | false=>
  rw[ae (by simp)]at h ⊢;unfold okS at h ⊢;obtain⟨a,c,b,e,i,j,f⟩:=h;exact⟨a,c,b,e,uz _,by omega,λh=>absurd h.1 (by omega)⟩
def OG(m a0 a2 J H f F c k p:Nat)(g:Bool)(N:a2<65536)(O:J<256)(M:H<256)(K:f<256)(L:F<256):
  ∃b l dg x q a d,aK (m+300) (a0:Int) g (a2:Int) (J:Int) (H:Int) (f:Int) (F:Int) (c:Int) (k:Int) (p:Int)=some (b,l,dg,x,q,a,d,((mksT (aR a d) c k p).1:Int),((mksT (aR a d) c k p).2.1:Int),((mksT (aR a d) c k p).2.2:Int))/\
   okY b l dg x q/\rC b dg x=false/\(a0%6≠3->hasX dg=false)/\dg.length<=5/\(q≠0->a=[]/\d=[])/\(q=0->a=monT (f%40))/\
   (d=[]\/(a∈((List.range 12).map λi=>two (i+1))++[[48,88],[49,88],[88,50],[88,88],[88,48],[88,57]]/\a≠[]/\sea a=0/\d=dayT (F%40) a)):=by
 obtain⟨b,l,dg,x,q,e,y,n,B,t⟩:=OH m a0 a2 J H g N O M;have G:=HS y n B;have P:Int.tmod (c:Int) 4=((c%4:Nat):Int):=rfl;have Q:Int.tmod (k:Int) 4=((k%4:Nat):Int):=rfl;have X:Int.tmod (p:Int) 4=((p%4:Nat):Int):=rfl;obtain⟨U,T,S,R,V,W⟩:=jb y;have j:∀(a d:aa) (o:Option (Bool×Bool×aa×Int×Int×aa×aa×Int×Int×Int)),
   (ob (aq (m+300) b l dg x q a d 0 0 0) λr=>(cond (decide ((0:Int)<r)) (ob (aq (m+300) b l dg x q a d (Int.tmod (c:Int) 4) 0 0) λr=>(cond (decide ((1:Int)<r)) (ob (aq (m+300) b l dg x q a d (Int.tmod (c:Int) 4) (Int.tmod (k:Int) 4) 0) λr=>(cond (decide ((2:Int)<r)) (ob (aq (m+300) b l dg x q a d (Int.tmod (c:Int) 4) (Int.tmod (k:Int) 4) (Int.tmod (p:Int) 4)) λr=>(cond (decide ((3:Int)<r)) none (some (b,l,dg,x,q,a,d,(Int.tmod (c:Int) 4),(Int.tmod (k:Int) 4),(Int.tmod (p:Int) 4))))) (some (b,l,dg,x,q,a,d,(Int.tmod (c:Int) 4),(Int.tmod (k:Int) 4),0)))) (some (b,l,dg,x,q,a,d,(Int.tmod (c:Int) 4),0,0)))) (some (b,l,dg,x,q,a,d,0,0,0))))=some (b,l,dg,x,q,a,d,((mksT (aR a d) c k p).1:Int),((mksT (aR a d) c k p).2.1:Int),((mksT (aR a d) c k p).2.2:Int)):=by
  intro a d _;have hc:=kx a d;have:aR a d=1\/aR a d=2\/aR a d=3:=by omega
  rw[dr,dr,dr,dr];rcases this with h | h | h<;>rw[h]<;>rfl
 unfold aK;rw[e];simp only[ob,d4];rw[ii];by_cases z:q=0
 ·rw[af z];rw[Af m _ _ _ _ _ f _ _ _ _ K];have I:=DV (show f%40<40 by omega);show ∃u D w E C v d,cond (!(monT (f%40)==[])) _ _=_/\_;by_cases s:monT (f%40)=[]
  ·refine⟨b,l,dg,x,q,[],[],?_,y,G,t,n,λh=>absurd z h,λ_=>s.symm,.inl rfl⟩;rw[s];exact j [] [] none
  ·rw[aL.2 s];show ∃u D w E C v d,ob (aT (m+300) b l dg x q (monT (f%40)) [] 0 0 0) _=_/\_;rw[oc (m+300) (by omega)];show ∃u D w E C v d,cond (sea (monT (f%40))==0) _ _=_/\_;rw[ii];by_cases hs:sea (monT (f%40))=0
   ·rw[af hs];have A:=I hs s;rw[Jt m _ _ _ _ _ _ F _ _ _ (monT (f%40)) A L];exact⟨b,l,dg,x,q,monT (f%40),dayT (F%40) (monT (f%40)),j _ _ none,y,G,t,n,λh=>absurd z h,λ_=>rfl,.inr ⟨A,s,hs,rfl⟩⟩
   ·rw[ae hs];exact⟨b,l,dg,x,q,monT (f%40),[],j _ [] none,y,G,t,n,λh=>absurd z h,λ_=>rfl,.inl rfl⟩
 ·rw[ae z];exact⟨b,l,dg,x,q,[],[],j [] [] none,y,G,t,n,λ_=>⟨rfl,rfl⟩,λh=>absurd h z,.inl rfl⟩
def KH:((List.range 34).all λj=>!hasX (monT j))=true:=by decide +kernel
def Ky:(((List.range 12).map λi=>two (i+1)).all λa=>(List.range 32).all λj=>!hasX (dayT j a))=true:=by decide +kernel
def Uo:((((List.range 12).map λi=>two (i+1))++[[48,88],[49,88],[88,50],[88,88],[88,48],[88,57]]).all λa=>hasX a||decide (a∈(List.range 12).map λi=>two (i+1)))=true:=by decide +kernel
def TX(m a0 a2 D y p j s n k:Nat)(g:Bool)(B:a2<65536)(C:D<256)(J:y<256)(H:p<256)(I:j<256)(L:a0%6≠3)(O:p%40<=33)(N:j%40<=31):
  ∃t l dg x q a d k0 k1 k2,aK (m+300) (a0:Int) g (a2:Int) (D:Int) (y:Int) (p:Int) (j:Int) (s:Int) (n:Int) (k:Int)=some (t,l,dg,x,q,a,d,((k0:Nat):Int),((k1:Nat):Int),((k2:Nat):Int))/\
   0<=q/\chkF t l dg x 0 a d (k0:Int) (k1:Int) (k2:Int)=0/\exD dg a d 0=true/\a.length<=18/\d.length<=18/\dg.length<=100:=by
 obtain⟨t,l,dg,x,q,a,d,e,E,M,w,G,o,u,r⟩:=OG m a0 a2 D y p j s n k g B C J H I;have K:=w L;have f:hasX a=false:=by
  by_cases h:q=0
  ·rw[u h];have:=(bO.1 KH) (p%40) (gS.2 (by omega));simpa using this
  ·rw[(o h).1];rfl
 have c:a=[]\/0<sea a\/(sea a=0/\dW a 12=true):=by
  by_cases h:q=0
  ·rw[u h];exact LI (by omega)
  ·exact .inl (o h).1
 have b:d=[]\/(a≠[]/\sea a=0/\dW d 31=true/\fitD a d=true/\hasX d=false):=by
  rcases r with h | ⟨i,z,hs,v⟩
  ·exact .inl h
  ·have a1:=M7 (show j%40<40 by omega) i;have a2:=HN (show j%40<40 by omega) i;rw[<-v]at a1 a2;by_cases A:d=[]
   ·exact .inl A
   ·right;refine⟨z,hs,a1.resolve_left A,a2.resolve_left A,?_⟩;have b1:=(bO.1 Uo) a i;rw[f,tq,cb]at b1;have b2:=(bO.1 ((bO.1 Ky) a b1)) (j%40) (gS.2 (by omega));rw[v];simpa using b2
 have hc:chkD t l dg x 0 a d ((mksT (aR a d) s n k).1:Int) ((mksT (aR a d) s n k).2.1:Int) ((mksT (aR a d) s n k).2.2:Int)=0:=
  EX (Yq E) M (λh=>absurd h (by omega)) c (by
   rcases b with h | ⟨F,B,C,_⟩
   ·exact .inl h
   ·exact .inr ⟨F,B,C⟩) (yI _ _ _ _)
 refine⟨t,l,dg,x,q,a,d,_,_,_,e,QM E,If hc ?_,?_,?_,?_,by omega⟩
 ·rcases b with h | ⟨_,_,_,h,_⟩
  ·exact .inl h
  ·exact .inr h
 ·unfold exD;have:hasX d=false:=by
   rcases b with h | ⟨_,_,_,_,h⟩
   ·rw[h];rfl
   ·exact h
  rw[K,f,this];rfl
 ·rcases c with h | h | ⟨_,h⟩
  ·rw[h];simp
  ·have:=(Gh h).1;omega
  ·have:=(n8 (by omega) h).1;omega
 ·rcases b with h | ⟨_,_,h,_⟩
  ·rw[h];simp
  ·have:=(n8 (by omega) h).1;omega
def Jk(m a0 a2 v s c k B y w:Nat)(g:Bool)(W:a0<256)(N:a2<65536)(P:v<256)(G:s<256)(T:c<256)(U:k<256):
  ∃p l dg x i d k0 k1 k2,bJ (m+300) (a0:Int) g (a2:Int) (v:Int) (s:Int) (c:Int) (k:Int) (B:Int) (y:Int) (w:Int)=some (p,l,dg,x,0,i,d,((k0:Nat):Int),((k1:Nat):Int),((k2:Nat):Int))/\
   chkF p l dg x 0 i d (k0:Int) (k1:Int) (k2:Int)=0/\exD dg i d 0=true/\i.length<=18/\d.length<=18/\dg.length<=100:=by
 have E:Int.tmod (c:Int) 40=((c%40:Nat):Int):=rfl;have C:Int.tmod (k:Int) 40=((k%40:Nat):Int):=rfl;have Q:Int.tmod (a0:Int) 6=((a0%6:Nat):Int):=rfl;have S:Int.tdiv ((k%40:Nat):Int) 2=((k%40 / 2:Nat):Int):=rfl;have fin:∀(b0 f b:Nat),f<256->b<256->b0%6≠3->f%40<=33->b%40<=31->
   ∃p l dg x i d k0 k1 k2,(ob (aK (m+300) (b0:Int) g (a2:Int) (v:Int) (s:Int) (f:Int) (b:Int) (B:Int) (y:Int) (w:Int)) λa=>(cond (decide ((d4 a).1>0)) (some (a.1,a.2.1,a.2.2.1,a.2.2.2.1,(0:Int),(d4 a).2.1,(d4 a).2.2.1,(d4 a).2.2.2.1,(d8 a).1,(d8 a).2)) (some (a.1,a.2.1,a.2.2.1,a.2.2.2.1,(d4 a).1,(d4 a).2.1,(d4 a).2.2.1,(d4 a).2.2.2.1,(d8 a).1,(d8 a).2))))=some (p,l,dg,x,0,i,d,((k0:Nat):Int),((k1:Nat):Int),((k2:Nat):Int))/\
   chkF p l dg x 0 i d (k0:Int) (k1:Int) (k2:Int)=0/\exD dg i d 0=true/\i.length<=18/\d.length<=18/\dg.length<=100:=by
  intro b0 f b c5 c6 O n o;obtain⟨p,l,dg,x,q,i,d,k0,k1,k2,e,V,R,L,J,r4,H⟩:=TX m b0 a2 v s f b B y w g N P G c5 c6 O n o;refine⟨p,l,dg,x,i,d,k0,k1,k2,?_,R,L,J,r4,H⟩;rw[e];simp only[ob,d4,d8];by_cases h:q>0
  ·rw[au h];rfl
  ·obtain rfl:q=0:=by omega
   rw[aw h];rfl
 have t:33<c%40->wrap .u8 (((c%40:Nat):Int) - 33)=((c%40 - 33:Nat):Int):=λh=>by rw[gD _ (by omega) (by omega)];omega
 have D:wrap .u8 ((k%40 / 2:Nat):Int)=((k%40 / 2:Nat):Int):=gD _ (by omega) (by omega);unfold bJ;rw[Q,E,C,S,D];have j:∀b0:Nat,b0%6≠3->∀K:Nat->Nat->Option (Bool×Bool×aa×Int×Int×aa×aa×Int×Int×Int),
   (∀f b:Nat,f<256->b<256->f%40<=33->b%40<=31->∃p l dg x i d k0 k1 k2,K f b=some (p,l,dg,x,0,i,d,((k0:Nat):Int),((k1:Nat):Int),((k2:Nat):Int))/\chkF p l dg x 0 i d (k0:Int) (k1:Int) (k2:Int)=0/\exD dg i d 0=true/\i.length<=18/\d.length<=18/\dg.length<=100)->
   ∃p l dg x i d k0 k1 k2,(cond (decide (((c%40:Nat):Int)>33)) (cond (decide (((k%40:Nat):Int)>31)) (K (c%40 - 33) (k%40 / 2)) (K (c%40 - 33) k)) (cond (decide (((k%40:Nat):Int)>31)) (K c (k%40 / 2)) (K c k)))=some (p,l,dg,x,0,i,d,((k0:Nat):Int),((k1:Nat):Int),((k2:Nat):Int))/\chkF p l dg x 0 i d (k0:Int) (k1:Int) (k2:Int)=0/\exD dg i d 0=true/\i.length<=18/\d.length<=18/\dg.length<=100:=by
  intro b0 I K u;by_cases M:33<c%40
  ·rw[au (show((c%40:Nat):Int)>33 by omega)];by_cases z:31<k%40
   ·rw[au (show((k%40:Nat):Int)>31 by omega)];exact u _ _ (by omega) (by omega) (by omega) (by omega)
   ·rw[aw (show¬((k%40:Nat):Int)>31 by omega)];exact u _ _ (by omega) (by omega) (by omega) (by omega)
  ·rw[aw (show¬((c%40:Nat):Int)>33 by omega)];by_cases z:31<k%40
   ·rw[au (show((k%40:Nat):Int)>31 by omega)];exact u _ _ (by omega) (by omega) (by omega) (by omega)
   ·rw[aw (show¬((k%40:Nat):Int)>31 by omega)];exact u _ _ (by omega) (by omega) (by omega) (by omega)
 have w5':∀{A:Type} (F:Int->Int->Option A) (b:Nat),(cond (decide (((c%40:Nat):Int)>33)) (F (wrap .u8 (((c%40:Nat):Int) - 33)) (b:Int)) (F (c:Int) (b:Int)))=(cond (decide (((c%40:Nat):Int)>33)) (F ((c%40 - 33:Nat):Int) (b:Int)) (F (c:Int) (b:Int))):=by
  intro A F b;by_cases h:33<c%40
  ·rw[t h]
  ·rw[aw (show¬((c%40:Nat):Int)>33 by omega)];rfl
 have r:33<c%40\/¬33<c%40:=by omega
 by_cases c3:a0%6=3
 ·rw[show(((a0%6:Nat):Int)==3)=true by rw[c3];rfl];simp only[aj];rcases r with h | h
  ·rw[t h];exact j 0 (by omega) (λf b=>_) (λf b c5 c6 n o=>fin 0 f b c5 c6 (by omega) n o)
  ·have hx:=j 0 (by omega) (λf b=>_) (λf b c5 c6 n o=>fin 0 f b c5 c6 (by omega) n o);rw[aw (show¬((c%40:Nat):Int)>33 by omega)]at hx ⊢;exact hx
 ·rw[show(((a0%6:Nat):Int)==3)=false from aL.2 (by omega)];simp only[ah];by_cases c4:a0%6=4
  ·rw[show(((a0%6:Nat):Int)==4)=true by rw[c4];rfl];simp only[aj];rcases r with h | h
   ·rw[t h];exact j 0 (by omega) (λf b=>_) (λf b c5 c6 n o=>fin 0 f b c5 c6 (by omega) n o)
   ·have hx:=j 0 (by omega) (λf b=>_) (λf b c5 c6 n o=>fin 0 f b c5 c6 (by omega) n o);rw[aw (show¬((c%40:Nat):Int)>33 by omega)]at hx ⊢;exact hx
  ·rw[show(((a0%6:Nat):Int)==4)=false from aL.2 (by omega)];simp only[ah];rcases r with h | h
   ·rw[t h];exact j a0 c3 (λf b=>_) (λf b c5 c6 n o=>fin a0 f b c5 c6 c3 n o)
   ·have hx:=j a0 c3 (λf b=>_) (λf b c5 c6 n o=>fin a0 f b c5 c6 c3 n o);rw[aw (show¬((c%40:Nat):Int)>33 by omega)]at hx ⊢;exact hx
def LO{dg m d:aa}(h:exD dg m d 0=true):exD dg m [] 0=true/\exD dg [] [] 0=true:=by
 unfold exD at h ⊢;simp only[aA,kv,qZ]at h;obtain⟨⟨a,b,c⟩,_⟩:=h;rw[a,b];exact⟨rfl,rfl⟩
def Gn(g l:Bool)(dg:aa)(x q:Int)(m d:aa)(k0 k1 k2:Int):Bool:=
 (((g==false)&&((l==false)&&((dg==([]:aa))&&((x==0)&&((q==0)&&true)))))&&((m==([]:aa))&&((d==([]:aa))&&(((k0==0)&&((k1==0)&&((k2==0)&&true)))&&true))))
noncomputable def chkB(K:Int)(g l:Bool)(dg:aa)(x q:Int)(m d:aa)(k0 k1 k2:Int):Int:=
 if K=1 then(if chkF g l dg x q m d k0 k1 k2=0 then(if exD dg m d q=true then 0 else 11)else chkF g l dg x q m d k0 k1 k2)else if K=2\/K=3 then(if Gn g l dg x q m d k0 k1 k2=true then 0 else 5)else 18
def GY(a c b d lo hi:Int):Int:=if a≠0 then a else if c≠0 then c else if b≠1/\d≠1 then 11 else if b≠1\/d≠1 then 0 else if lo>hi then 11 else 0
section
variable {K:Int} {g l:Bool} {dg:List UInt8} {x q:Int} {m d:List UInt8} {k0 k1 k2:Int} (hml:m.length<=18) (hdl:dg.length<=100) (hd18:d.length<=18) (h0:0<=k0) (h1:0<=k1) (h2:0<=k2)
include hml hdl hd18 h0 h1 h2
def wN:iH 20000000 K g l dg x q m d k0 k1 k2=some (chkB K g l dg x q m d k0 k1 k2):=by
 unfold iH chkB;rw[wA hml hdl h0 h1 h2,IV 20000000 g l dg x q m d k0 k1 k2 (by omega) (by omega) (by omega)];simp only[ob];by_cases a:K=1
 ·subst a;rw[af rfl];simp only[BEq.rfl,aj];by_cases hc:chkF g l dg x q m d k0 k1 k2=0
  ·rw[af hc,hc];by_cases b:exD dg m d q=true
   ·rw[af b,b];rfl
   ·rw[ae b];rw[Iq]at b;rw[b];rfl
  ·rw[ae hc,bne0 hc];rfl
 ·rw[ae a,aL.2 a];simp only[ah];have f:(!(((g==false)&&((l==false)&&((dg==([]:aa))&&((x==0)&&((q==0)&&true)))))&&((m==([]:aa))&&((d==([]:aa))&&(((k0==0)&&((k1==0)&&((k2==0)&&true)))&&true)))))=!(Gn g l dg x q m d k0 k1 k2):=rfl;rw[f];by_cases e:K=2
  ·subst e;rw[af (.inl rfl)];cases Gn g l dg x q m d k0 k1 k2<;>rfl
  ·rw[aL.2 e];by_cases c:K=3
   ·subst c;rw[af (.inr rfl)];cases Gn g l dg x q m d k0 k1 k2<;>rfl
   ·rw[aL.2 c,ae (by omega)];rfl
def xE:fi 20000000 K g l dg x q m d k0 k1 k2=some (chkB K g l dg x q m d k0 k1 k2):=by
 unfold fi chkB;rw[GI hdl h0 h1 h2,ME 20000000 g l dg x q m d k0 k1 k2 (by omega) (by omega) (by omega) (by omega)];simp only[ob];by_cases a:K=1
 ·subst a;rw[af rfl];simp only[BEq.rfl,aj];by_cases hc:chkF g l dg x q m d k0 k1 k2=0
  ·rw[af hc,hc];by_cases e:exD dg m d q=true
   ·rw[af e,af e];rfl
   ·rw[ae e,ae e];rfl
  ·rw[ae hc,aL.2 hc];rfl
 ·rw[ae a,aL.2 a];simp only[ah];have f:(!(((g==false)&&((l==false)&&((dg==([]:aa))&&((x==0)&&((q==0)&&true)))))&&((m==([]:aa))&&((d==([]:aa))&&(((k0==0)&&((k1==0)&&((k2==0)&&true)))&&true)))))=!(Gn g l dg x q m d k0 k1 k2):=rfl;rw[f];by_cases c:K=2
  ·subst c;rw[af (.inl rfl)];cases Gn g l dg x q m d k0 k1 k2<;>rfl
  ·rw[aL.2 c];by_cases b:K=3
   ·subst b;rw[af (.inr rfl)];cases Gn g l dg x q m d k0 k1 k2<;>rfl
   ·rw[aL.2 b,ae (by omega)];rfl
def Vf:jC 20000000 K g l dg x q m d k0 k1 k2=some (if chkB K g l dg x q m d k0 k1 k2=0 then(if K=2 then[46,46]else if K=3 then[]else qG g l dg x q m d k0.toNat k1.toNat k2.toNat,0)else([],chkB K g l dg x q m d k0 k1 k2)):=by
 unfold jC;rw[wN hml hdl hd18 h0 h1 h2];simp only[ob];by_cases hc:chkB K g l dg x q m d k0 k1 k2=0
 ·rw[af hc,hc];simp only[fG,ah];by_cases b:K=2
  ·subst b;rfl
  ·rw[aL.2 b,ae b];by_cases a:K=3
   ·subst a;rfl
   ·rw[aL.2 a,ae a];have k1':K=1:=by
     unfold chkB at hc;by_cases h:K=1
     ·exact h
     ·rw[ae h,ae (by omega)]at hc;cases hc
    have c:chkF g l dg x q m d k0 k1 k2=0:=by
     unfold chkB at hc;rw[af k1']at hc;by_cases h:chkF g l dg x q m d k0 k1 k2=0
     ·exact h
     ·rw[ae h]at hc;exact absurd hc h
    have e:cQ 20000000 g l dg x q m d k0 k1 k2=_:=Ix 19999700 g l dg x q m d k0 k1 k2 hml hdl h0 h1 h2;rw[e,af (lI c)];rfl
 ·rw[ae hc,bne0 hc];rfl
def KB(hc:chkB K g l dg x q m d k0 k1 k2=0):iC 20000000 K g l dg x q m d k0 k1 k2=some (if K=2 then[46,46]else if K=3 then[]else qG g l dg x q m d k0.toNat k1.toNat k2.toNat):=by
 have f:=And.intro hml (And.intro hdl hd18);unfold iC;by_cases b:K=2
 ·subst b;rfl
 ·rw[aL.2 b,ae b];by_cases a:K=3
  ·subst a;rfl
  ·rw[aL.2 a,ae a];have k1':K=1:=by
    unfold chkB at hc;by_cases h:K=1
    ·exact h
    ·rw[ae h,ae (by omega)]at hc;cases hc
   have c:chkF g l dg x q m d k0 k1 k2=0:=by
    unfold chkB at hc;rw[af k1']at hc;by_cases h:chkF g l dg x q m d k0 k1 k2=0
    ·exact h
    ·rw[ae h]at hc;exact absurd hc h
   have e:cL 20000000 g l dg x q m d k0 k1 k2=_:=EI 19999700 h0 h1 h2 (lI c);rw[e];rfl
def wT(hc:chkB K g l dg x q m d k0 k1 k2=0)(b:K=1):chkF g l dg x q m d k0 k1 k2=0/\exD dg m d q=true:=by
 have c:=And.intro hml (And.intro hdl (And.intro hd18 (And.intro h0 (And.intro h1 h2))));unfold chkB at hc;rw[af b]at hc;by_cases h:chkF g l dg x q m d k0 k1 k2=0
 ·rw[af h]at hc;by_cases a:exD dg m d q=true
  ·exact⟨h,a⟩
  ·rw[ae a]at hc;cases hc
 ·rw[ae h]at hc;exact absurd hc h
end
def YO(n:Nat)(a b:Int):jV n a b=some (if a<b then -1 else if a>b then 1 else 0):=by
 unfold jV lH;simp only[ob,fG,ah];by_cases h:a<b
 ·rw[au h,af h];rfl
 ·rw[aw h,ae h];by_cases c:a>b
  ·rw[au c,af c];rfl
  ·rw[aw c,ae c];rfl
def Jg(a b:Int):∃r,lc 20000000 0 a 0 b=some r/\decide (r>0)=decide (a>b):=by
 have f:nA 20000000 0 0=some 0:=rfl;have o1:pT 20000000 [0,-1]=some (-1):=by kernel_rfl
 have e:pT 20000000 [0,1]=some 1:=by kernel_rfl
 have d:pT 20000000 [0,0]=some 0:=by kernel_rfl
 unfold lc;rw[f,YO];simp only[ob];by_cases h:a<b
 ·rw[af h,o1];exact⟨_,rfl,by rw[aw (show¬a>b by omega)];rfl⟩
 ·rw[ae h];by_cases c:a>b
  ·rw[af c,e];exact⟨_,rfl,by rw[au c];rfl⟩
  ·rw[ae c,d];exact⟨_,rfl,by rw[aw c];rfl⟩
def bne1{K:Int}(h:K≠1):(K != 1)=true:=by simp[h]
section
variable {K:Int} {g l:Bool} {dg:List UInt8} {x q:Int} {m d:List UInt8} {k0 k1 k2:Int} {K':Int} {g' l':Bool} {dg':List UInt8} {x' q':Int} {m' d':List UInt8} {p0 p1 p2:Int} (hml:m.length<=18) (hdl:dg.length<=100) (hd18:d.length<=18) (h0:0<=k0) (h1:0<=k1) (h2:0<=k2) (hml':m'.length<=18) (hdl':dg'.length<=100) (hd18':d'.length<=18) (h0':0<=p0) (h1':0<=p1) (h2':0<=p2)
include hml hdl hd18 h0 h1 h2 hml' hdl' hd18' h0' h1' h2'
def UK:iS 20000000 K g l dg x q m d k0 k1 k2 K' g' l' dg' x' q' m' d' p0 p1 p2=some (GY (chkB K g l dg x q m d k0 k1 k2) (chkB K' g' l' dg' x' q' m' d' p0 p1 p2) K K' (oO g dg x m d).1 (oO g' dg' x' m' d').2):=by
 unfold iS GY;rw[wN hml hdl hd18 h0 h1 h2,wN hml' hdl' hd18' h0' h1' h2'];simp only[ob];by_cases c:chkB K g l dg x q m d k0 k1 k2=0
 ·rw[ae (by omega),c];by_cases b:chkB K' g' l' dg' x' q' m' d' p0 p1 p2=0
  ·rw[ae (by omega),b];simp only[fG,ah];by_cases e:K=1
   ·rw[show(K != 1)=false by rw[e];rfl];simp only[ah];by_cases a:K'=1
    ·rw[show(K' != 1)=false by rw[a];rfl,ae (by omega),ae (by omega)];simp only[ah];obtain⟨k,i⟩:=wT hml hdl hd18 h0 h1 h2 c e;obtain⟨j,n⟩:=wT hml' hdl' hd18' h0' h1' h2' b a;rw[GZ hml hdl hd18 h0 h1 h2,GZ hml' hdl' hd18' h0' h1' h2',af k,af i,af j,af n];simp only[ob];obtain⟨r,f,o⟩:=Jg (oO g dg x m d).1 (oO g' dg' x' m' d').2;rw[f];simp only[o];by_cases h:(oO g dg x m d).1>(oO g' dg' x' m' d').2
     ·rw[au h,af h];rfl
     ·rw[aw h,ae h];rfl
    ·rw[bne1 a,ae (by omega),af (by omega)];rfl
   ·rw[bne1 e];by_cases a:K'=1
    ·rw[show(K' != 1)=false by rw[a];rfl,ae (by omega),af (by omega)];rfl
    ·rw[bne1 a,af (by omega)];rfl
  ·rw[af b,bne0 b];rfl
 ·rw[af c,bne0 c];rfl
def Q1:iy 20000000 K g l dg x q m d k0 k1 k2 K' g' l' dg' x' q' m' d' p0 p1 p2=some (GY (chkB K g l dg x q m d k0 k1 k2) (chkB K' g' l' dg' x' q' m' d' p0 p1 p2) K K' (oO g dg x m d).1 (oO g' dg' x' m' d').2):=by
 unfold iy GY;rw[xE hml hdl hd18 h0 h1 h2,xE hml' hdl' hd18' h0' h1' h2'];simp only[ob];by_cases e:chkB K g l dg x q m d k0 k1 k2=0
 ·rw[ae (by omega),e];by_cases c:chkB K' g' l' dg' x' q' m' d' p0 p1 p2=0
  ·rw[ae (by omega),c];simp only[fG,ah];by_cases b:K=1
   ·rw[show(K != 1)=false by rw[b];rfl,show(K==1)=true by rw[b];rfl];simp only[ah,aj];by_cases a:K'=1
    ·rw[show(K'==1)=true by rw[a];rfl,ae (by omega),ae (by omega)];simp only[aj];obtain⟨k,i⟩:=wT hml hdl hd18 h0 h1 h2 e b;obtain⟨j,n⟩:=wT hml' hdl' hd18' h0' h1' h2' c a;obtain⟨rfl,o⟩:=wG k i;obtain⟨rfl,f⟩:=wG j n;rw[vE o hdl,vE f hdl'];simp only[ob];by_cases h:(oO g dg x m d).1>(oO g' dg' x' m' d').2
     ·rw[au h,af h];rfl
     ·rw[aw h,ae h];rfl
    ·rw[aL.2 a,ae (by omega),af (by omega)];rfl
   ·rw[bne1 b,aL.2 b];by_cases a:K'=1
    ·rw[show(K' != 1)=false by rw[a];rfl,ae (by omega),af (by omega)];rfl
    ·rw[bne1 a,af (by omega)];rfl
  ·rw[af c,bne0 c];rfl
 ·rw[af e,bne0 e];rfl
end
def EY(y:Int){m:Nat}(b:1<=m)(d:m<=23):dayM y m<dayM y (m+1):=by
 by_cases h:m<=12
 ·have:=xT y b h;have:=jN y (m:Int);omega
 ·have a:=uE y (m:=m - 12) (by omega) (by omega);have c:=uE y (m:=m - 12+1) (by omega) (by omega);have e:=xT (y+1) (m:=m - 12) (by omega) (by omega);have:=jN (y+1) ((m - 12:Nat):Int);rw[show m - 12+12=m by omega]at a;rw[show m - 12+1+12=m+1 by omega]at c;omega
def Nr(y:Int){a:Nat}(b:1<=a):∀c,1<=c->a+c<=24->dayM y a<dayM y (a+c)
 | 0,h,_=>absurd h (by omega)
 | c+1,_,d=>by
  have hs:=EY y (m:=a+c) (by omega) (by omega);by_cases h:c=0
  ·subst h;exact hs
  ·have:=Nr y b c (by omega) (by omega);rw[show a+(c+1)=a+c+1 by omega];omega
def TC{g l:Bool}{dg:aa}{x:Int}{m d:aa}(E:Exact g l dg x m d):(oO g dg x m d).1<=(oO g dg x m d).2:=by
 unfold oO;by_cases a:m=[]
 ·rw[af a];have:=yz (yOf g dg x);simp only[];split at this<;>omega
 ·rw[ae a];by_cases hs:0<sea m
  ·rw[af hs];rcases E.mon with h | ⟨j,b,e,_⟩ | ⟨h,_⟩
   ·exact absurd h a
   ·obtain⟨f,c,_,a1,a2,p,o,_,k,n⟩:=G3 b;rw[e,k,n];have:=Nr (yOf g dg x) a1 c (by omega) (by omega);simp only[];omega
   ·omega
  ·rw[ae hs];rcases E.mon with h | ⟨j,b,e,_⟩ | ⟨_,a1,a2,_⟩
   ·exact absurd h a
   ·rw[e,lO b]at hs;omega
   ·by_cases i:d=[]
    ·rw[af i];have:=EY (yOf g dg x) a1 (by omega);simp only[];omega
    ·rw[ae i];exact uz _
def B_of(m a0 a1 o h k p n r q c:Nat)(g:Bool)(t:a1<256)(z:o<65536)(w:h<256)(u:k<256)(v:p<256)(B:n<256):
  ∃K f l dg x a d k0 k1 k2,ci (m+300) (a0:Int) (a1:Int) g (o:Int) (h:Int) (k:Int) (p:Int) (n:Int) (r:Int) (q:Int) (c:Int)=some (K,f,l,dg,x,0,a,d,((k0:Nat):Int),((k1:Nat):Int),((k2:Nat):Int))/\
   chkB K f l dg x 0 a d (k0:Int) (k1:Int) (k2:Int)=0/\a.length<=18/\d.length<=18/\dg.length<=100/\(K=1\/((K=2\/K=3)/\f=false/\l=false/\dg=[]/\x=0/\a=[]/\d=[]/\k0=0/\k1=0/\k2=0)):=by
 have A:Int.tmod (a0:Int) 6=((a0%6:Nat):Int):=rfl;unfold ci;rw[A];by_cases y:a0%6=0
 ·rw[y];exact⟨2,false,false,[],0,[],[],0,0,0,rfl,rfl,by simp,by simp,by simp,.inr ⟨.inl rfl,rfl,rfl,rfl,rfl,rfl,rfl,rfl,rfl,rfl⟩⟩
 ·rw[show(((a0%6:Nat):Int)==0)=false from aL.2 (by omega)];by_cases C:a0%6=1
  ·rw[C];exact⟨3,false,false,[],0,[],[],0,0,0,rfl,rfl,by simp,by simp,by simp,.inr ⟨.inr rfl,rfl,rfl,rfl,rfl,rfl,rfl,rfl,rfl,rfl⟩⟩
  ·rw[show(((a0%6:Nat):Int)==1)=false from aL.2 (by omega)];obtain⟨f,l,dg,x,a,d,k0,k1,k2,e,hc,s,i,b,j⟩:=Jk m a1 o h k p n r q c g t z w u v B;refine⟨1,f,l,dg,x,a,d,k0,k1,k2,?_,?_,i,b,j,.inl rfl⟩
   ·simp only[ah];rw[e];rfl
   ·unfold chkB;rw[af rfl,af hc,af s]
def plR(r:DR):Nat:=r.2.2.2.2.2.2.2.2.1.1
def enR(r:DR):Nat:=r.2.2.2.2.2.2.2.2.2
def Ku{l:aa}{b:UInt8}(h:l.take 2=[b,b]):∃r,l=b::b::r:=by
 match l,h with
 | a::c::r,h=>simp at h;exact⟨r,by rw[h.1,h.2]⟩
def IC{S:aa}{a:Nat}(h:a<=S.length){r:DR}(b:ek S a=.inr r):uu S a=.inr r/\chkR r=0:=by
 unfold ek at b;cases c:uu S a with
 | inl k=>rw[c]at b;cases b
 | inr d=>
  rw[c]at b;simp only[]at b;by_cases hc:chkR d=0
  ·rw[af hc]at b;obtain rfl:=vu b;exact⟨rfl,hc⟩
  ·rw[ae hc]at b;cases b
def xZ{S:aa}{a:Nat}(h:a<=S.length){k E p:Nat}(b:ek S a=.inl (k,E,p)):E≠0:=by
 unfold ek at b;cases c:uu S a with
 | inl k'=>rw[c]at b;simp only[]at b;have:=Sum.inl.inj b;simp at this;omega
 | inr d=>
  rw[c]at b;simp only[]at b;by_cases hc:chkR d=0
  ·rw[af hc]at b;cases b
  ·rw[ae hc]at b;have:=Sum.inl.inj b;simp at this;omega
def smT(x:TD):Prop:=x.2.2.2.2.2.1.length<=18/\x.2.2.1.length<=100/\x.2.2.2.2.2.2.1.length<=18/\0<=x.2.2.2.2.2.2.2.1/\0<=x.2.2.2.2.2.2.2.2.1/\0<=x.2.2.2.2.2.2.2.2.2
noncomputable def cF(x:TD):Int:=chkF x.1 x.2.1 x.2.2.1 x.2.2.2.1 x.2.2.2.2.1 x.2.2.2.2.2.1 x.2.2.2.2.2.2.1 x.2.2.2.2.2.2.2.1 x.2.2.2.2.2.2.2.2.1 x.2.2.2.2.2.2.2.2.2
def exT(x:TD):Bool:=exD x.2.2.1 x.2.2.2.2.2.1 x.2.2.2.2.2.2.1 x.2.2.2.2.1
def dyT(x:TD):Int×Int:=oO x.1 x.2.2.1 x.2.2.2.1 x.2.2.2.2.2.1 x.2.2.2.2.2.2.1
def seT(x:TD):Int:=sea x.2.2.2.2.2.1
def coT(x:TD):Nat:=aR x.2.2.2.2.2.1 x.2.2.2.2.2.2.1
noncomputable def plT(x:TD):Bool:=decide (cF x=0)&&(exT x&&!decide (0<seT x))
def mq:smT d0:=by unfold smT;simp
def fcT{x:TD}(h:smT x):ap10 (bC 20000000) x=some (cF x):=wA h.1 h.2.1 h.2.2.2.1 h.2.2.2.2.1 h.2.2.2.2.2
def rcoT(x:TD):ap10 (aq 20000000) x=some ((coT x:Nat):Int):=dr 20000000 _ _ _ _ _ _ _ _ _ _
def fpT{x:TD}(h:smT x):ap10 (bn 20000000) x=some (if x.2.2.2.2.2.2.1=[]then(if 0<seT x then 0 else if x.2.2.2.2.2.1=[]then 1 else 2)else 3):=Px 20000000 _ _ _ _ _ _ _ _ _ _ h.1
def fmT{x:TD}(h:smT x):ap10 (fj 20000000) x=some (hasX x.2.2.1||(hasX x.2.2.2.2.2.1||hasX x.2.2.2.2.2.2.1)):=by
 obtain⟨a,b,c,_⟩:=h;exact ER 20000000 _ _ _ _ _ _ _ _ _ _ (by omega) (by omega) (by omega)
def fdT{x:TD}(h:smT x):ap10 (gL 20000000) x=some (if cF x=0 then(if exT x=true then(0,(dyT x).1,0,(dyT x).2,0)else(0,0,0,0,1))else(0,0,0,0,cF x)):=GZ h.1 h.2.1 h.2.2.1 h.2.2.2.1 h.2.2.2.2.1 h.2.2.2.2.2
def O9{x:TD}(hc:cF x=0)(a:exT x=true):x.2.2.2.2.1=0/\Exact x.1 x.2.1 x.2.2.1 x.2.2.2.1 x.2.2.2.2.2.1 x.2.2.2.2.2.2.1:=wG hc a
def rdT{x:TD}(h:smT x)(hc:cF x=0)(b:exT x=true):ap10 (dq 20000000) x=some (dyT x):=by
 obtain⟨a,E⟩:=O9 hc b;have:=vE (k0:=x.2.2.2.2.2.2.2.1) (k1:=x.2.2.2.2.2.2.2.2.1) (k2:=x.2.2.2.2.2.2.2.2.2) E h.2.1;rw[<-a]at this;exact this
def SR{x:TD}(hc:cF x=0)(a:exT x=true):(dyT x).1<=(dyT x).2:=TC (O9 hc a).2
def tR{x:TD}(hc:cF x=0):(x.2.2.2.2.2.1=[]\/x.2.2.2.2.2.1.length=2)/\(x.2.2.2.2.2.2.1=[]\/x.2.2.2.2.2.2.1.length=2)/\(x.2.2.2.2.2.2.1≠[]->x.2.2.2.2.2.1≠[]/\seT x=0):=by
 obtain⟨_,a,b,_,c⟩:=pR (lI hc);exact⟨a,b,c⟩
def fY{x y:TD}:eqD x y=true↔x=y:=by
 obtain⟨a1,a2,k,p,g,o,h,n,l,a⟩:=x;obtain⟨b1,b2,e,j,m,i,d,c,f,b⟩:=y;simp[and_assoc]
def HJ{x:TD}(h:smT x):oG 20000000 x=some (exT x):=by
 unfold oG;rw[fmT h];simp only[ob,exT,exD];cases(hasX x.2.2.1||(hasX x.2.2.2.2.2.1||hasX x.2.2.2.2.2.2.1))<;>rfl
def BU{x:TD}(h:smT x):mr 20000000 x=some (plT x):=by
 unfold mr plT;rw[fcT h,HJ h,fpT h];simp only[ob];by_cases hc:cF x=0
 ·rw[hc];cases d:exT x
  ·rfl
  ·show some ((if _ then _ else _) != (0:Int))=some (true&&(true&&!decide (0<seT x)));obtain⟨_,_,c⟩:=tR hc;by_cases a:x.2.2.2.2.2.2.1=[]
   ·rw[af a];by_cases hs:0<seT x
    ·rw[af hs,au hs];rfl
    ·rw[ae hs,aw hs];by_cases b:x.2.2.2.2.2.1=[]
     ·rw[af b];rfl
     ·rw[ae b];rfl
   ·rw[ae a,(c a).2];rfl
 ·rw[aw hc,show(cF x==0)=false from by simp[hc]];rfl
def nj{x:TD}:plT x=true↔cF x=0/\exT x=true/\¬0<seT x:=by
 unfold plT;simp[and_assoc]
noncomputable def ordB(x y:TD):Bool:=(plT x&&plT y)&&(decide (coT x=coT y)&&decide ((dyT x).1<=(dyT y).1))
def A5{x:TD}(hc:cF x=0)(hs:¬0<seT x):(if x.2.2.2.2.2.2.1=[]then(if 0<seT x then(0:Int)else if x.2.2.2.2.2.1=[]then 1 else 2)else 3)=((coT x:Nat):Int):=by
 obtain⟨_,_,c⟩:=tR hc;unfold coT aR;by_cases a:x.2.2.2.2.2.2.1=[]
 ·rw[af a,ae hs];by_cases b:x.2.2.2.2.2.1=[]
  ·simp[b,a]
  ·simp[b,a]
 ·have b:=(c a).1;simp[a,b]
def Kv{x y:TD}(hx:smT x)(hy:smT y):nW 20000000 x y=some (ordB x y):=by
 unfold nW ordB;rw[BU hx,BU hy];cases g:plT x
 ·rfl
 cases h:plT y
 ·rfl
 obtain⟨d,f,j⟩:=nj.1 g;obtain⟨b,m,i⟩:=nj.1 h;rw[fpT hx,fpT hy,fdT hx,fdT hy,A5 d j,A5 b i,af d,af b,af f,af m];simp only[ob,u5,u4,u3,u2,dT,ah,Bool.and_self,rc];by_cases a:coT x=coT y
 ·rw[a,au rfl];obtain⟨r,k,l⟩:=Jg (dyT x).1 (dyT y).1;simp only[fG,ah,k,rc];refine cT some ?_;have:decide (r<=0)=!decide (r>0):=by
   by_cases c:r<=0
   ·rw[au c,aw (by omega)];rfl
   ·rw[aw c,au (by omega)];rfl
  rw[this,l];by_cases e:(dyT x).1<=(dyT y).1
  ·rw[au e,aw (by omega)];rfl
  ·rw[aw e,au (by omega)];rfl
 ·have:(((coT x:Nat):Int) != ((coT y:Nat):Int))=true:=by simp;omega
  rw[this,aw a];rfl
noncomputable def itE(x:TD)(r:Bool)(y:TD)(all:Bool):Int:=
 if cF x≠0 then cF x else if r=true/\cF y≠0 then cF y else if r=false/\eqD y d0=false then 5 else if r=true/\ordB x y=false then 10 else if all=true/\exT x=false then 10 else 0
def EQ{x y:TD}(r:Bool)(hx:smT x)(hy:smT y)(K:Int)(hc:cF x=0)(a:¬(r=true/\cF y≠0)):eU 20000000 5 10 10 x r y K=some (itE x r y (K==4)):=by
 unfold eU rP rR sw itE;rw[Kv hx hy,HJ hx,ae (by simpa using hc),ae a];cases r
 ·generalize eqD y d0=z;cases z
  ·rfl
  ·cases(K==4)
   ·rfl
   ·cases exT x<;>rfl
 ·simp only[ob,dT,ah,aj,reduceCtorEq,yR,aG,kO];cases ordB x y
  ·rfl
  ·simp only[dT,ah,Bool.true_eq_false,aG];cases(K==4)
   ·rfl
   ·cases exT x<;>rfl
def Hf{x y:TD}(r:Bool)(hx:smT x)(hy:smT y)(K:Int):gj 20000000 x r y K=some (if K=3\/K=4 then itE x r y (K==4)else 18):=by
 have b:(ob (ap10 (bC 20000000) x) λe=>(cond (e != 0) (some e) (cond r (ob (ap10 (bC 20000000) y) λc=>(cond (c != 0) (some c) (ob (eU 20000000 5 10 10 x r y K) λg=>(some g)))) (ob (eU 20000000 5 10 10 x r y K) λh=>(some h)))))=some (itE x r y (K==4)):=by
  rw[fcT hx];simp only[ob];by_cases hc:cF x=0
  ·rw[show(cF x != 0)=false from by simp[hc],ah];cases r
   ·rw[EQ false hx hy K hc (by simp)];rfl
   ·rw[aj,fcT hy];simp only;by_cases a:cF y=0
    ·rw[show(cF y != 0)=false from by simp[a],ah,EQ true hx hy K hc (by simp[a])]
    ·rw[show(cF y != 0)=true from by simp[a],aj];unfold itE;rw[ae (by simpa using hc),af ⟨rfl,a⟩]
  ·rw[show(cF x != 0)=true from by simp[hc],aj];unfold itE;rw[af hc]
 unfold gj;by_cases d:K=3
 ·subst d;exact b.trans (by rfl)
 ·rw[show(K != 3)=true from by simp[d],aj];by_cases f:K=4
  ·subst f;exact b.trans (by rfl)
  ·rw[show(K != 4)=true from by simp[f],aj,ae (by omega)]
def Y2{x y:TD}{r all:Bool}(h:cF x≠0):itE x r y all=cF x:=af h
def XJ{x y:TD}{all:Bool}(hc:cF x=0)(h:cF y≠0):itE x true y all=cF y:=by
 unfold itE;rw[ae (λh=>h hc),af ⟨rfl,h⟩]
def QA{x y:TD}{all:Bool}(hc:cF x=0):itE x false y all=if eqD y d0=false then 5 else if all=true/\exT x=false then 10 else 0:=by
 have a:(false=true/\cF y≠0)↔False:=by simp
 have b:(false=true/\ordB x y=false)↔False:=by simp
 have c:(false=false/\eqD y d0=false)↔eqD y d0=false:=by simp
 unfold itE;rw[ae (λh=>h hc)];simp only[a,b,aG,kO]
def V1{x y:TD}{all:Bool}(hc:cF x=0)(hy:cF y=0):itE x true y all=if ordB x y=false then 10 else if all=true/\exT x=false then 10 else 0:=by
 have b:(true=true/\ordB x y=false)↔ordB x y=false:=by simp
 have a:(true=false/\eqD y d0=false)↔False:=by simp
 unfold itE;rw[ae (λh=>h hc),ae (λh=>h.2 hy)];simp only[a,aG,kO]
def pB{A:Type}(f:Nat->A->Int):Nat->List A->Option (Nat×Int)
 | _,[]=>none
 | i,t::r=>if f i t≠0 then some (i,f i t)else pB f (i+1) r
def Av{A X Y:Type}{step:X->Option (X⊕Y)}{st:Nat->X}{L:List A}{f:Nat->A->Int}{yes:Nat->Int->Y}{no:Y}
  (c:∀i t,L[i]?=some t->step (st i)=some (if f i t≠0 then .inr (yes i (f i t))else .inl (st (i+1)))) (g:step (st L.length)=some (.inr no)):
  ∀(r i:Nat),i+r=L.length->∀N,r<N->av step N (st i)=some (match pB f i (L.drop i)with | some p=>yes p.1 p.2 | none=>no):=by
 intro r
 induction r with
 | zero=>
  intro i hi N e;obtain⟨N,rfl⟩:∃k,N=k+1:=⟨N - 1,by omega⟩;rw[av,show i=L.length by omega,g,AX];rfl
 | succ r ih=>
  intro i hi N e;obtain⟨N,rfl⟩:∃k,N=k+1:=⟨N - 1,by omega⟩;have a:i<L.length:=by omega
  have d:L[i]?=some L[i]:=bq a;rw[av,c i _ d,uN a,pB];by_cases b:f i L[i]≠0
  ·rw[af b,af b]
  ·rw[ae b,ae b];exact ih (i+1) (by omega) N (by omega)
abbrev rT(t:TI):Bool:=(d8 t).2.2.1
abbrev iT(t:TI):TD:=(d8 t).2.2.2
def smI(t:TI):Prop:=smT (iF t)/\smT (iT t)
noncomputable def itI(t:TI)(all:Bool):Int:=itE (iF t) (rT t) (iT t) all
noncomputable def endB(t:TI):Bool:=!rT t&&plT (iF t)
noncomputable def errI(K:Int)(e l:Bool)(n i:Nat)(t:TI):Int:=
 if itI t (K==4)≠0 then itI t (K==4)else if(e&&decide (i=0))&&!endB t||((l&&decide (i+1=n))&&!endB t||(e&&(l&&decide (n=1))))then 10 else 0
noncomputable def xF(K:Int)(e l:Bool)(L:List TI):Int×Int:=match pB (errI K e l L.length) 0 L with
 | some p=>((p.1:Int),p.2)
 | none=>(0,0)
def ox{i:Nat}(h:i<9223372036854775807):w64 ((i:Int)+1)=((i+1:Nat):Int):=by
 show wrap .i64 _=_;rw[wrap_i64 _ (by omega) (by omega)];omega
def FV{i:Nat}(a:0<i)(h:i<9223372036854775807):w64 ((i:Int) - 1)=((i - 1:Nat):Int):=by
 show wrap .i64 _=_;rw[wrap_i64 _ (by omega) (by omega)];omega
def natB(a b:Nat):(((a:Nat):Int)==((b:Nat):Int))=decide (a=b):=by
 by_cases h:a=b
 ·subst h;simp
 ·rw[aw h];simp;omega
def O5(a:Nat):(((a:Nat):Int)==0)=decide (a=0):=natB a 0
def Xr{x y:TD}(r:Bool)(hx:smT x):oI 20000000 x r y=some (!r&&plT x):=by
 unfold oI;rw[BU hx];cases r<;>rfl
def Nj{K:Int}(k:K=3\/K=4){e l:Bool}{L:List TI}{i:Nat}{t:TI}(hi:L[i]?=some t)(hs:smI t)(o:L.length<=1000000)(D:TD)(KF:Int)(DF:TD)(KT:Int)(DT:TD):
  gK 20000000 (itI t (K==4)) 10 10 10 (iF t) (rT t) (iT t) K D KF DF KT DT e l (i:Int) (w64 (len L - 1)) L=some (errI K e l L.length i t):=by
 have m:i<L.length:=(pY.1 hi).1;have d:w64 (len L - 1)=((L.length - 1:Nat):Int):=FV (by omega) (by omega);have g:gj 20000000 (iF t) (rT t) (iT t) K=some (itI t (K==4)):=by
  rw[Hf _ hs.1 hs.2,af k];rfl
 unfold gK ql qk qE qx errI;rw[g,d];simp only[Xr (rT t) hs.1,ob,O5,natB];have j:decide (i=L.length - 1)=decide (i+1=L.length):=by congr 1;exact propext (by omega)
 have n:decide (L.length - 1=0)=decide (L.length=1):=by congr 1;exact propext (by omega)
 rw[j,n];show cond (itI t (K==4) != 0) _ _=_;by_cases f:itI t (K==4)=0
 ·rw[ae (λh=>h f),show(itI t (K==4) != 0)=false from by simp[f],ah];show _=some (if((e&&decide (i=0))&&!endB t||((l&&decide (i+1=L.length))&&!endB t||(e&&(l&&decide (L.length=1)))))=true then 10 else 0);unfold endB;generalize(!rT t&&plT (iF t))=z;generalize decide (i=0)=a;generalize decide (i+1=L.length)=b;generalize decide (L.length=1)=c;cases e<;>cases l<;>cases z<;>cases a<;>cases b<;>cases c<;>rfl
 ·rw[af f,show(itI t (K==4) != 0)=true from by simp[f],aj]
def Q8 {K:Int} (g:K=3\/K=4) {e l:Bool} {L:List TI} (hs:∀t∈L,smI t) (j:L.length<=1000000) (D:TD) (KF:Int) (DF:TD) (KT:Int) (DT:TD):
  mc 20000000 K D KF DF KT DT e l L=some (xF K e l L):=by
 have:=Av (step:=fK 20000000) (st:=λi=>(len L,(i:Int),L,K,D,KF,DF,KT,DT,e,l,w64 (len L - 1))) (L:=L) (f:=errI K e l L.length) (yes:=λi q=>.inl ((i:Int),q)) (no:=.inr ())
  (λi t hi=>by
   have c:i<L.length:=(pY.1 hi).1;have a:=hs t (fh hi);have d:gj 20000000 (iF t) (rT t) (iT t) K=some (itI t (K==4)):=by
    rw [Hf _ a.1 a.2,af g];rfl
   unfold fK;simp only [u12,u11,u10,u9,u8,u7,u6,u5,u4,u3,u2];rw [au (show (i:Int)<len L by unfold len;omega),cG c];simp only [aj,ob,hi];rw [show gj 20000000 (iF t) (d8 t).2.2.1 (d8 t).2.2.2 K=some (itI t (K==4)) from d];simp only;rw [show gK 20000000 (itI t (K==4)) 10 10 10 (iF t) (d8 t).2.2.1 (d8 t).2.2.2 K D KF DF KT DT e l (i:Int) (w64 (len L - 1)) L=some (errI K e l L.length i t) from Nj g hi a j D KF DF KT DT];simp only;rw [ox (by omega)];by_cases b:errI K e l L.length i t=0
   ·rw [ae (λh=>h b),show (errI K e l L.length i t != 0)=false from by simp [b]];rfl
   ·rw [af b,show (errI K e l L.length i t != 0)=true from by simp [b]];rfl)
  (by
   unfold fK;simp only [u12,u11,u10,u9,u8,u7,u6,u5,u4,u3,u2];rw [aw (show ¬((L.length:Nat):Int)<len L by unfold len;omega)];rfl)
  L.length 0 (by omega) 20000000 (by omega)
 unfold mc xF;rw [dk] at this;show obs (av (fK 20000000) 20000000 (len L,((0:Nat):Int),L,K,D,KF,DF,KT,DT,e,l,w64 (len L - 1))) _ _=_;rw [this];cases pB (errI K e l L.length) 0 L<;>rfl
noncomputable def qD(K:Int)(x:TD):Int:=chkB K x.1 x.2.1 x.2.2.1 x.2.2.2.1 x.2.2.2.2.1 x.2.2.2.2.2.1 x.2.2.2.2.2.2.1 x.2.2.2.2.2.2.2.1 x.2.2.2.2.2.2.2.2.1 x.2.2.2.2.2.2.2.2.2
noncomputable def np(K:Int)(x:TD)(a:Int)(y:TD):Int:=GY (qD K x) (qD a y) K a (dyT x).1 (dyT y).2
def Ns{x y:TD}(hx:smT x)(hy:smT y)(K a:Int):ap10 (ap10 (iS 20000000 K) x a) y=some (np K x a y):=
 UK hx.1 hx.2.1 hx.2.2.1 hx.2.2.2.1 hx.2.2.2.2.1 hx.2.2.2.2.2 hy.1 hy.2.1 hy.2.2.1 hy.2.2.2.1 hy.2.2.2.2.1 hy.2.2.2.2.2
def N3{x y:TD}(hx:smT x)(hy:smT y)(K a:Int):ap10 (ap10 (iy 20000000 K) x a) y=some (np K x a y):=
 Q1 hx.1 hx.2.1 hx.2.2.1 hx.2.2.2.1 hx.2.2.2.2.1 hx.2.2.2.2.2 hy.1 hy.2.1 hy.2.2.1 hy.2.2.2.1 hy.2.2.2.2.1 hy.2.2.2.2.2
def unuB(K:Int)(D:TD)(KF:Int)(DF:TD)(KT:Int)(DT:TD)(e l:Bool)(n:Nat):Bool:=
 !(K==1||eqD D d0)||(!(K==2||((KF==0)&&((eqD DF d0)&&true))&&((KT==0)&&((eqD DT d0)&&true)))||!(K==3||(K==4||(decide (n=0)&&(!e&&!l)))))
def NL(n:Nat)(K:Int)(D:TD)(KF:Int)(DF:TD)(KT:Int)(DT:TD)(e l:Bool)(L:List TI):
  mM n K D KF DF KT DT e l L=some (unuB K D KF DF KT DT e l L.length):=by
 unfold mM unuB;rw[show(len L==0)=decide (L.length=0)from O5 _];generalize eqD D d0=a;generalize((KF==0)&&((eqD DF d0)&&true))=z1;generalize((KT==0)&&((eqD DT d0)&&true))=z2;generalize decide (L.length=0)=b;generalize(K==1)=k1;generalize(K==2)=k2;generalize(K==3)=k3;generalize(K==4)=k4;revert a z1 z2 b k1 k2 k3 k4 e l;decide +kernel
noncomputable def iE(K:Int)(D:TD)(KF:Int)(DF:TD)(KT:Int)(DT:TD)(e l:Bool)(L:List TI):Int×Int:=
 if K<1\/4<K then(0,18)else if unuB K D KF DF KT DT e l L.length=true then(0,5)else if K=1 then(0,cF D)else if K=2 then(0,np KF DF KT DT)else if L.length=0 then(0,17)else if 256<L.length then(0,3)else xF K e l L
def smE(D DF DT:TD)(L:List TI):Prop:=smT D/\smT DF/\smT DT/\∀t∈L,smI t
def H5{K:Int}{D:TD}{KF:Int}{DF:TD}{KT:Int}{DT:TD}{e l:Bool}{L:List TI}(h:smE D DF DT L):
  mw 20000000 K D KF DF KT DT e l L=some (iE K D KF DF KT DT e l L):=by
 obtain⟨f,g,j,i⟩:=h;unfold mw iE;by_cases a:K<1
 ·rw[au a,af (.inl a)];rfl
 by_cases c:4<K
 ·rw[aw a,show decide (K>4)=true from au c,af (.inr c)];rfl
 rw[aw a,show decide (K>4)=false from aw c,ae (by omega),NL];simp only[ah,ob];cases unuB K D KF DF KT DT e l L.length
 ·simp only[ah,bU,aG];by_cases k1:K=1
  ·rw[af k1,show(K==1)=true from by simp[k1],fcT f];rfl
  by_cases k2:K=2
  ·rw[ae k1,af k2,show(K==1)=false from by simp[k1],show(K==2)=true from by simp[k2],Ns g j];rfl
  rw[ae k1,ae k2,show(K==1)=false from by simp[k1],show(K==2)=false from by simp[k2]];simp only[ah];rw[show(len L==0)=decide (L.length=0)from O5 _];by_cases b:L.length=0
  ·rw[au b,af b];rfl
  rw[aw b,ae b];by_cases d:256<L.length
  ·rw[show decide (len L>256)=true from au (by show(256:Int)<((L.length:Nat):Int);omega),af d];rfl
  rw[show decide (len L>256)=false from aw (by show¬(256:Int)<((L.length:Nat):Int);omega),ae d,Q8 (by omega) i (by omega)];rfl
 ·rfl
def Ii{K:Int}{D:TD}{KF:Int}{DF:TD}{KT:Int}{DT:TD}{e l:Bool}{L:List TI}(h:smE D DF DT L):
  iY 20000000 K D KF DF KT DT e l L=some (iE K D KF DF KT DT e l L).2:=by
 unfold iY;rw[H5 h];rfl
end Go.Sh
