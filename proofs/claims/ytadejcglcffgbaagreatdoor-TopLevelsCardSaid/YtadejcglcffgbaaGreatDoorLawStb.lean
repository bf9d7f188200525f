
import Derived.Test.YtadejcglcffgbaaGreatDoorLawSta
set_option linter.unusedVariables false
set_option linter.unusedSimpArgs false
set_option maxRecDepth 100000
open Go.IntKind(wrap)
set_option linter.defProp false
namespace Go.Sh
open Go.Abs
def A5(d:aa)(k q:Nat):Nat×Nat:=if 0<q then(val d k / 10 ^ (d.length+k - q)*10 ^ (d.length+k - q),min (val d k / 10 ^ (d.length+k - q)*10 ^ (d.length+k - q)+10 ^ (d.length+k - q) - 1) E16)else(val d k,val d k)
def sgn(g:Bool)(p:Nat×Nat):Int×Int:=if g then(-(p.2:Int),-(p.1:Int))else((p.1:Int),(p.2:Int))
def D1(n:Nat)(g l:Bool)(d:aa)(k q:Nat)(B:200<n)(o:d.length<=100)(b:Num d k q):
  aL n g l d (k:Int) (q:Int)=some (sgn g (A5 d k q)):=by
 have D:=b.wide;have hs:=b.small;have C:=b.sig;unfold aL;rw[pj n g l d k q (by omega) (by omega),uA b.dig,jH n d k b.dig o (by omega) (by omega),ae hs];have z:dval 0 d*10 ^ k=val d k:=rfl;rw[z]at hs ⊢;unfold E16 at hs;have h:((if false=true then(1:Int)else 0)==1)=false:=rfl;simp only[ob,h,af];by_cases i:0<q
 ·have f:decide ((q:Int)>0)=true:=ar (by omega);have w0:wrap .i64 (wrap .i64 (((d.length:Nat):Int)+(k:Int)) - (q:Int))=((d.length+k - q:Nat):Int):=by
   rw[wrap_i64 (((d.length:Nat):Int)+(k:Int)) (by omega) (by omega),wrap_i64 _ (by omega) (by omega)];omega
  have p:10 ^ (d.length+k - q)<=10 ^ 16:=lh (by decide) (by omega);have r:(10:Nat) ^ 16=10000000000000000:=by decide
  have one:dval 0 [49]=1:=by decide
  have a:dval 0 [49]*10 ^ (d.length+k - q)<=E16:=by rw[one];unfold E16;omega
  rw[f,w0,jH n [49] (d.length+k - q) (by decide) (by decide) (by omega) (by simp;omega),ae a,one,yF];simp only[aj];have E:1<=10 ^ (d.length+k - q):=Bc _ _ (by decide);unfold sgn A5;rw[ae i];clear a;generalize 10 ^ (d.length+k - q)=u at *;generalize val d k=v at *;have d2:(((u:Nat):Int)==0)=false:=aK.2 (by omega);have c:Int.tdiv ((v:Nat):Int) ((u:Nat):Int)=((v / u:Nat):Int):=rfl;have s:v / u*u<=v:=Fp v u;have m:v / u<=v:=FV v u;have w:wrap .i64 ((v / u:Nat):Int)=((v / u:Nat):Int):=by
   generalize v / u=t at *;exact wrap_i64 _ (by omega) (by omega)
  have x:wrap .i64 (((v / u:Nat):Int)*((u:Nat):Int))=((v / u*u:Nat):Int):=by
   rw[<-He];exact wrap_i64 _ (by omega) (by omega)
  rw[d2,af,c,w,x];generalize v / u*u=lo at *;have y:wrap .i64 (wrap .i64 (((lo:Nat):Int)+((u:Nat):Int)) - 1)=((lo+u - 1:Nat):Int):=by
   rw[wrap_i64 (((lo:Nat):Int)+((u:Nat):Int)) (by omega) (by omega),wrap_i64 _ (by omega) (by omega)];omega
  rw[y];have e:(cond (decide ((10000000000000000:Int)<((lo+u - 1:Nat):Int))) (10000000000000000:Int) ((lo+u - 1:Nat):Int))=((min (lo+u - 1) E16:Nat):Int):=by
   unfold E16;by_cases j:(10000000000000000:Int)<((lo+u - 1:Nat):Int)
   ·rw[ar j,aj];omega
   ·rw[au j,af];omega
  rw[e];have A:min (lo+u - 1) E16<=10000000000000000:=Gg _ _;generalize min (lo+u - 1) E16=hi at *;cases g with
  | true=>
   simp only[aj,aN];rw[wrap_i64 _ (by omega) (by omega),wrap_i64 _ (by omega) (by omega),zq,zq]
  | false=>simp
 ·have f:decide ((q:Int)>0)=false:=au (by omega);rw[f,af];unfold sgn A5;rw[ab i];cases g with
  | true=>
   simp only[aj,aN];rw[wrap_i64 _ (by omega) (by omega),zq]
  | false=>simp
def eX(z:UInt8)(d:aa):aa:=d.map λc=>if c=88 then z else c
def jo(z:UInt8)(d:aa):(eX z d).length=d.length:=by simp[eX]
def rA{z:UInt8}(e:bD z=true){d:aa}(h:∀c∈d,bD c=true\/c=88):∀c∈eX z d,bD c=true:=by
 intro c hc;obtain⟨b,a,rfl⟩:=eF.1 hc;by_cases hx:b=88
 ·rw[ae hx];exact e
 ·rw[ab hx];exact(h b a).resolve_right hx
def xj{z:UInt8}{d:aa}{i:Nat}{c:UInt8}(h:d[i]?=some c):(eX z d)[i]?=some (if c=88 then z else c):=by
 simp[eX,h]
def ue(d:aa):Nat:=10 ^ (d.reverse.takeWhile (λc=>c != 88)).length
def kO(g:Bool)(d:aa):Nat×Nat:=(if g=true/\dval 0 (eX 48 d)=0 then ue d else dval 0 (eX 48 d),dval 0 (eX 57 d))
def U8(m:Nat):aL (m+300) true false [48,48,48,88] 0 0=some (sgn true (kO true [48,48,48,88])):=by kernel_rfl
def TK(m:Nat):aL (m+300) true false [48,48,88,48] 0 0=some (sgn true (kO true [48,48,88,48])):=by kernel_rfl
def UG(m:Nat):aL (m+300) true false [48,48,88,88] 0 0=some (sgn true (kO true [48,48,88,88])):=by kernel_rfl
def Ur(m:Nat):aL (m+300) true false [48,88,48,48] 0 0=some (sgn true (kO true [48,88,48,48])):=by kernel_rfl
def VI(m:Nat):aL (m+300) true false [48,88,48,88] 0 0=some (sgn true (kO true [48,88,48,88])):=by kernel_rfl
def UV(m:Nat):aL (m+300) true false [48,88,88,48] 0 0=some (sgn true (kO true [48,88,88,48])):=by kernel_rfl
def UT(m:Nat):aL (m+300) true false [48,88,88,88] 0 0=some (sgn true (kO true [48,88,88,88])):=by kernel_rfl
def Vp(m:Nat):aL (m+300) true false [88,48,48,48] 0 0=some (sgn true (kO true [88,48,48,48])):=by kernel_rfl
def VV(m:Nat):aL (m+300) true false [88,48,48,88] 0 0=some (sgn true (kO true [88,48,48,88])):=by kernel_rfl
def U3(m:Nat):aL (m+300) true false [88,48,88,48] 0 0=some (sgn true (kO true [88,48,88,48])):=by kernel_rfl
def PR(m:Nat):aL (m+300) true false [88,48,88,88] 0 0=some (sgn true (kO true [88,48,88,88])):=by kernel_rfl
def PP(m:Nat):aL (m+300) true false [88,88,48,48] 0 0=some (sgn true (kO true [88,88,48,48])):=by kernel_rfl
def QQ(m:Nat):aL (m+300) true false [88,88,48,88] 0 0=some (sgn true (kO true [88,88,48,88])):=by kernel_rfl
def QP(m:Nat):aL (m+300) true false [88,88,88,48] 0 0=some (sgn true (kO true [88,88,88,48])):=by kernel_rfl
def Q9(m:Nat):aL (m+300) true false [88,88,88,88] 0 0=some (sgn true (kO true [88,88,88,88])):=by kernel_rfl
def DX{d:aa}(l:d.length=4)(h:∀c∈d,bD c=true\/c=88)(k:dval 0 (eX 48 d)=0):∀c∈d,c=48\/c=88:=by
 match d,l with
 | [a,b,c,e],_=>
  have g:=rA (z:=48) (by decide) h;have i:dval 0 (eX 48 [a,b,c,e])=((((0*10+((if a=88 then(48:UInt8)else a).toNat - 48))*10+((if b=88 then(48:UInt8)else b).toNat - 48))*10+((if c=88 then(48:UInt8)else c).toNat - 48))*10+((if e=88 then(48:UInt8)else e).toNat - 48)):=by
   simp only[eX,gN,List.map_nil,pN,qz,vP]
  rw[i]at k;have key:∀x:UInt8,bD (if x=88 then(48:UInt8)else x)=true->(if x=88 then(48:UInt8)else x).toNat - 48=0->x=48\/x=88:=by
   intro x hx j;by_cases f:x=88
   ·exact .inr f
   ·rw[ab f]at hx j;have:=(eo x).1 hx;exact .inl (iE.1 (by show x.toNat=48;omega))
  simp only[eX,gN,List.map_nil,cb,ov,oK,Bn,forall_eq]at g ⊢;exact⟨key a g.1 (by omega),key b g.2.1 (by omega),key c g.2.2.1 (by omega),key e g.2.2.2 (by omega)⟩
def Ai{d:aa}(z:d.length=4)(h:∀c∈d,c=48\/c=88)(t:hasX d=true)(P:aa->Prop)(o:P [48,48,48,88])(v:P [48,48,88,48])(u:P [48,48,88,88])(x:P [48,88,48,48])(w:P [48,88,48,88])(p:P [48,88,88,48])(n:P [48,88,88,88])(r:P [88,48,48,48])(s:P [88,48,48,88])(q:P [88,48,88,48])(g:P [88,48,88,88])(i:P [88,88,48,48])(k:P [88,88,48,88])(f:P [88,88,88,48])(j:P [88,88,88,88]):P d:=by
 match d,z with
 | [a,b,c,e],_=>
  simp only[cb,ov,oK,Bn,forall_eq]at h;obtain⟨m,l,hc,y⟩:=h;rcases m with rfl | rfl<;>rcases l with rfl | rfl<;>rcases hc with rfl | rfl<;>rcases y with rfl | rfl
  ·exact absurd t (by decide)
  ·exact o
  ·exact v
  ·exact u
  ·exact x
  ·exact w
  ·exact p
  ·exact n
  ·exact r
  ·exact s
  ·exact q
  ·exact g
  ·exact i
  ·exact k
  ·exact f
  ·exact j
def GH(n:Nat)(g l:Bool)(d:aa)(x s:Int)(p:d.length=4)(o:4<n):av (gh n) n ([],[],0,g,l,d,x,s)=some (eX 48 d,eX 57 d,g,l,d,x,s):=by
 refine gy (step:=gh n) (λq=>∃i:Nat,i<=4/\q=((eX 48 d).take i,(eX 57 d).take i,(i:Int),g,l,d,x,s)) (λq=>4 - q.2.2.1.toNat) (λ_=>(eX 48 d,eX 57 d,g,l,d,x,s)) ?_ n _ ⟨0,by omega,by simp⟩ (by simp;omega);rintro q ⟨i,hi,rfl⟩;rcases aJ i 4 with m | j
 ·obtain⟨c,hc⟩:∃c,d[i]?=some c:=⟨d[i],bu (by omega)⟩;have b:=U4 (xj (z:=48) hc);have f:=U4 (xj (z:=57) hc);have h:decide ((i:Int)<4)=true:=ar (by omega);have k:wrap .i64 ((i:Int)+1)=((i+1:Nat):Int):=by rw[wrap_i64 _ (by omega) (by omega)];omega
  refine .inl ⟨((eX 48 d).take (i+1),(eX 57 d).take (i+1),((i+1:Nat):Int),g,l,d,x,s),?_,⟨i+1,by omega,rfl⟩,by simp only[bX];omega,rfl⟩;simp only[gh,h,aj,k,eM (show i+1<=d.length by omega),eM (show i<=i+1 by omega),ob,cut1 hc];have a:∀z:UInt8,((eX z d).take i).length<=4:=λz=>by rw[dA];omega
  rw[b,f];by_cases hx:c=88
  ·have e:(([c]:aa)==[88])=true:=by rw[hx];rfl
   rw[e,aj,ae hx,ae hx,eK (by have:=a 48;simp;omega),eK (by have:=a 57;simp;omega)]
  ·have e:(([c]:aa)==[88])=false:=by
    rw[aK];intro e;exact hx (by simpa using e)
   rw[e,af,ab hx,ab hx,eK (by have:=a 48;simp;omega),eK (by have:=a 57;simp;omega)]
 ·have:i=4:=by omega
  subst this;refine .inr ?_;rw[jw (by rw[jo];omega),jw (by rw[jo];omega)];rfl
def JO{d:aa}(h:d=[48,48,48,48]):dval 0 d=0:=by rw[h];decide
def CO(m:Nat)(g:Bool)(d:aa)(h:okY g false d 0 0)(l:hasX d=true):aL (m+300) g false d 0 0=some (sgn g (kO g d)):=by
 obtain⟨_,_,_,j,k⟩:=qW h l;by_cases f:g=true/\dval 0 (eX 48 d)=0
 ·obtain⟨rfl,f⟩:=f;exact Ai j (DX j k f) l (λd=>aL (m+300) true false d 0 0=some (sgn true (kO true d))) (U8 m) (TK m) (UG m) (Ur m) (VI m) (UV m) (UT m) (Vp m) (VV m) (U3 m) (PR m) (PP m) (QQ m) (QP m) (Q9 m)
 ·have hs:kO g d=(dval 0 (eX 48 d),dval 0 (eX 57 d)):=by unfold kO;rw[ab f]
  have c:=rA (z:=48) (by decide) k;have i:=rA (z:=57) (by decide) k;have p:=qU (eX 48 d) 0 0 c (by simp);have o:=qU (eX 57 d) 0 0 i (by simp);rw[jo,j]at p o;have r:(10:Nat) ^ (4+0)=10000:=by decide
  have m1:ak (m+300) (eX 48 d) 0=some (((dval 0 (eX 48 d):Nat):Int),1):=by
   have:=jH (m+300) (eX 48 d) 0 c (by rw[jo];omega) (by omega) (by rw[jo];omega);rw[ae (by unfold E16;simp only[C5,rI];omega)]at this;simpa using this
  have m2:ak (m+300) (eX 57 d) 0=some (((dval 0 (eX 57 d):Nat):Int),1):=by
   have:=jH (m+300) (eX 57 d) 0 i (by rw[jo];omega) (by omega) (by rw[jo];omega);rw[ae (by unfold E16;simp only[C5,rI];omega)]at this;simpa using this
  have q:((if true=true then(1:Int)else 0)==1)=true:=rfl;have n:decide ((0:Int)>0)=false:=rfl;unfold aL;rw[pj _ g false d 0 0 (by omega) (by omega),l,GH _ g false d 0 0 j (by omega),hs];simp only[ob,aN,BEq.rfl,aj];cases g with
  | true=>
   have e:(eX 48 d==([48,48,48,48]:aa))=false:=by
    rw[aK];intro e;exact f ⟨rfl,JO e⟩
   simp only[aj,e,af,m1,m2,n,sgn,aN];generalize dval 0 (eX 48 d)=a at *;generalize dval 0 (eX 57 d)=b at *;rw[wrap_i64 _ (by omega) (by omega),wrap_i64 _ (by omega) (by omega),zq,zq]
  | false=>simp only[af,m1,m2,n,sgn,bQ,aF]
def od(g:Bool)(d:aa)(x s:Int):Nat×Nat:=if hasX d then kO g d else A5 d x.toNat s.toNat
def Q0(m:Nat)(g l:Bool)(d:aa)(x s:Int)(c:d.length<=100)(h:okY g l d x s):aL (m+300) g l d x s=some (sgn g (od g d x s)):=by
 unfold od;cases a:hasX d with
 | true=>
  obtain⟨rfl,rfl,rfl,f,b⟩:=qW h a;exact CO m g d h a
 | false=>
  obtain⟨k,q,rfl,rfl,e⟩:=sP h a;exact D1 _ g l d k q (by omega) c e
def UH{d:aa}{k q:Nat}(h:Num d k q):(A5 d k q).1<=val d k/\val d k<=(A5 d k q).2/\(A5 d k q).2<=E16:=by
 have hs:=h.small;have c:dval 0 d*10 ^ k=val d k:=rfl;rw[c]at hs;unfold A5;split
 ·have a:1<=10 ^ (d.length+k - q):=Bc _ _ (by decide);generalize 10 ^ (d.length+k - q)=u at a ⊢;generalize val d k=v at hs ⊢;have b:=Fp v u;have e:v<v / u*u+u:=by
   have h:=Nat.div_add_mod v u;have:=rt v a;rw[uV]at h;omega
  refine⟨b,?_,Gg _ _⟩;rw[Nat.le_min];omega
 ·exact⟨aU _,aU _,hs⟩
def mtk(d:aa):Nat->Nat->Bool
 | 0,_=>true
 | k+1,w=>(decide (d.getD k 0=88)||decide ((d.getD k 0).toNat=48+w%10))&&mtk d k (w / 10)
def C6(d:aa)(k w:Nat):mtk d (k+1) w=((decide (d.getD k 0=88)||decide ((d.getD k 0).toNat=48+w%10))&&mtk d k (w / 10)):=rfl
def Bj{d:aa}{k:Nat}{c:UInt8}(h:d[k]?=some c):d.getD k 0=c:=by
 rw[Ht,h];rfl
def Pm(n:Nat)(g l:Bool)(d:aa)(x s:Int)(z:d.length=4):∀(k w:Nat),k<=4->w<100000000000000000->∀q,k<q->
  av (bP n) q ((w:Int),(k:Int) - 1,g,l,d,x,s)=some (if mtk d k w=true then .inr ((w / 10 ^ k:Nat):Int)else .inl 0)
 | 0,w,v,u,q,r=>by
  obtain⟨q,rfl⟩:∃p,q=p+1:=⟨q - 1,by omega⟩;have b:decide (((0:Nat):Int) - 1>=0)=false:=rfl;have i:mtk d 0 w=true:=rfl;simp only[av,bP,b,af];rw[ae i];simp
 | k+1,w,v,u,q,r=>by
  obtain⟨q,rfl⟩:∃p,q=p+1:=⟨q - 1,by omega⟩;have ih:=Pm n g l d x s z k (w / 10) (by omega) (by omega) q (by omega);obtain⟨c,hc⟩:∃c,d[k]?=some c:=⟨d[k],bu (by omega)⟩;have A:((k+1:Nat):Int) - 1=(k:Int):=by omega
  have b:decide ((k:Int)>=0)=true:=ar (by omega);have o:Int.tmod (w:Int) 10=((w%10:Nat):Int):=rfl;have eq':Int.tdiv (w:Int) 10=((w / 10:Nat):Int):=rfl;have B:wrap .i64 (48+((w%10:Nat):Int))=((48+w%10:Nat):Int):=by rw[wrap_i64 _ (by omega) (by omega)];omega
  have m:wrap .u8 ((48+w%10:Nat):Int)=((48+w%10:Nat):Int):=gK _ (by omega) (by omega);have t:wrap .i64 ((w / 10:Nat):Int)=((w / 10:Nat):Int):=wrap_i64 _ (by omega) (by omega);have y:wrap .i64 ((k:Int) - 1)=(k:Int) - 1:=wrap_i64 _ (by omega) (by omega);have a:w / 10 ^ (k+1)=w / 10 / 10 ^ k:=by rw[ts,uV,Nat.div_div_eq_div_mul]
  rw[C6,Bj hc,a,A];simp only[av,bP,b,aj,lj hc,ob,o,eq',B,m,t,y];by_cases hx:c=88
  ·have h:(((c.toNat:Nat):Int) != 88)=false:=by rw[hx];rfl
   rw[h,ar hx];simp only[af,Ek,pT];exact ih
  ·have h:(((c.toNat:Nat):Int) != 88)=true:=by
    simp only[bne,jX,aK];intro e;exact hx (iE.1 (by show c.toNat=88;omega))
   rw[h,au hx];simp only[aj,sL];by_cases j:c.toNat=48+w%10
   ·have f:(((c.toNat:Nat):Int) != ((48+w%10:Nat):Int))=false:=by rw[j];simp
    rw[f,ar j];simp only[af,pT];exact ih
   ·have f:(((c.toNat:Nat):Int) != ((48+w%10:Nat):Int))=true:=by
     simp only[bne,jX,aK];omega
    rw[f,au j];simp only[aj,Aq];rfl
def G8(d:aa)(k q:Nat):Nat:=if 0<q then 10 ^ (d.length+k - q)else 1
def memP(d:aa)(x s:Int)(w:Nat):Prop:=if hasX d=true then mtk d 4 w=true/\w / 10 ^ 4=0 else val d x.toNat / G8 d x.toNat s.toNat=w / G8 d x.toNat s.toNat
instance (d:aa)(x s:Int)(w:Nat):Decidable (memP d x s w):=by unfold memP;infer_instance
def wOf(g:Bool)(v:Int):Int:=if g then -v else v
def inP(g:Bool)(d:aa)(x s v:Int):Prop:=-10000000000000000<=v/\v<=10000000000000000/\0<=wOf g v/\¬(hasX d=true/\g=true/\wOf g v=0)/\memP d x s (wOf g v).toNat
instance (g:Bool)(d:aa)(x s v:Int):Decidable (inP g d x s v):=by unfold inP;infer_instance
noncomputable def inT(n:Nat)(a0 a1:Bool)(a2:aa)(h g W:Int):Option Int:=
 (ob (aE n a0 a1 a2 h g) λe=>(cond (e==1) (ob (av (bP n) n (W,3,a0,a1,a2,h,g)) λd=>(Sum.casesOn (motive:=λ_=>Option _) d (λf=>(some f)) (λc=>(cond (decide (c>0)) (some 0) (some 1))))) (ob (ak n a2 h) λb=>(cond (decide (g>0)) (ob (ak n [49] (wrap .i64 ((wrap .i64 (((List.length a2:Nat):Int)+h)) - g))) λa=>(cond (a.1==0) none (cond (a.1==0) none (cond ((wrap .i64 (Int.tdiv b.1 a.1))==(wrap .i64 (Int.tdiv W a.1))) (some 1) (some 0))))) (cond ((wrap .i64 (Int.tdiv b.1 1))==(wrap .i64 (Int.tdiv W 1))) (some 1) (some 0))))))
def MR(a b:Nat):(((a:Nat):Int)==((b:Nat):Int))=decide (a=b):=by
 by_cases h:a=b
 ·subst h;simp
 ·rw[au h,aK];omega
def Jm{d:aa}{x s:Int}{w:Nat}(a:hasX d=true):memP d x s w↔mtk d 4 w=true/\w / 10 ^ 4=0:=by unfold memP;rw[ae a]
def RJ{d:aa}{x s:Int}{w:Nat}(a:hasX d=false):memP d x s w↔val d x.toNat / G8 d x.toNat s.toNat=w / G8 d x.toNat s.toNat:=by unfold memP;rw[ab (by rw[a];simp)]
def in_T(m:Nat){g l:Bool}{d:aa}{x s:Int}(n:okY g l d x s)(w:Nat)(S:w<=10000000000000000):inT (m+300) g l d x s (w:Int)=some (if memP d x s w then 1 else 0):=by
 have L:=iJ n;have J:=pj (m+300) g l d x s (by omega) (by omega);unfold inT;cases i:hasX d with
 | true=>
  obtain⟨rfl,rfl,rfl,P,_⟩:=qW n i;have E:=Pm (m+300) g false d 0 0 P 4 w (by omega) (by omega) (m+300) (by omega);have hlp':av (bP (m+300)) (m+300) ((w:Int),3,g,false,d,0,0)=_:=E;have B:((1:Int)==1)=true:=rfl;have o:aE (m+300) g false d 0 0=some 1:=by rw[J,i];rfl
  rw[o];simp only[ob,B,aj,hlp'];by_cases A:mtk d 4 w=true
  ·rw[ae A];by_cases z:w / 10 ^ 4=0
   ·have e:decide (((w / 10 ^ 4:Nat):Int)>0)=false:=au (by rw[z];decide);rw[ae ((Jm i).2 ⟨A,z⟩)];simp only[e,af]
   ·have e:decide (((w / 10 ^ 4:Nat):Int)>0)=true:=ar (by
     generalize w / 10 ^ 4=t at z ⊢;omega)
    rw[ab (λq=>z ((Jm i).1 q).2)];simp only[e,aj]
  ·rw[ab A,ab (λq=>A ((Jm i).1 q).1)]
 | false=>
  obtain⟨k,q,rfl,rfl,y⟩:=sP n i;have hw':=y.wide;have hs:=y.small;have R:=y.sig;have I:dval 0 d*10 ^ k=val d k:=rfl;have H:=jH (m+300) d k y.dig (by omega) (by omega) (by omega);rw[ae hs,I]at H;rw[I]at hs;unfold E16 at hs;have F:((0:Int)==1)=false:=rfl;have o:aE (m+300) g l d k q=some 0:=by rw[J,i];rfl
  have c:=RJ (x:=(k:Int)) (s:=(q:Int)) (w:=w) i;rw[bX,bX]at c;unfold G8 at c;rw[o];simp only[ob,F,af,H];by_cases G:0<q
  ·have C:decide ((q:Int)>0)=true:=ar (by omega);have w0:wrap .i64 (wrap .i64 (((d.length:Nat):Int)+(k:Int)) - (q:Int))=((d.length+k - q:Nat):Int):=by
    rw[wrap_i64 (((d.length:Nat):Int)+(k:Int)) (by omega) (by omega),wrap_i64 _ (by omega) (by omega)];omega
   have D:10 ^ (d.length+k - q)<=10 ^ 16:=lh (by decide) (by omega);have M:(10:Nat) ^ 16=10000000000000000:=by decide
   have one:dval 0 [49]=1:=by decide
   have h:dval 0 [49]*10 ^ (d.length+k - q)<=E16:=by rw[one];unfold E16;omega
   have j:=jH (m+300) [49] (d.length+k - q) (by decide) (by decide) (by omega) (by simp;omega);rw[ae h,one,yF]at j;have Q:1<=10 ^ (d.length+k - q):=Bc _ _ (by decide);rw[C,w0,j];rw[ae G]at c;clear h j;generalize 10 ^ (d.length+k - q)=u at Q D c ⊢;generalize val d k=v at hs c ⊢;have d2:(((u:Nat):Int)==0)=false:=aK.2 (by omega);have p:Int.tdiv ((v:Nat):Int) ((u:Nat):Int)=((v / u:Nat):Int):=rfl;have r:Int.tdiv ((w:Nat):Int) ((u:Nat):Int)=((w / u:Nat):Int):=rfl;have N:v / u<=v:=FV v u;have K:w / u<=w:=FV w u;simp only[aj,d2,af,p,r];generalize v / u=a at N c ⊢;generalize w / u=b at K c ⊢;rw[wrap_i64 _ (by omega) (by omega),wrap_i64 _ (by omega) (by omega),MR];by_cases f:a=b
   ·rw[ar f,ae (c.2 f)];rfl
   ·rw[au f,ab (λq=>f (c.1 q))];rfl
  ·have C:decide ((q:Int)>0)=false:=au (by omega);have O:∀a:Nat,Int.tdiv ((a:Nat):Int) 1=((a:Nat):Int):=λa=>by
    have:Int.tdiv ((a:Nat):Int) 1=((a / 1:Nat):Int):=rfl;rw[this,tM]
   rw[ab G,tM,tM]at c;rw[C];simp only[af,O];rw[wrap_i64 _ (by omega) (by omega),wrap_i64 _ (by omega) (by omega),MR];by_cases f:val d k=w
   ·rw[ar f,ae (c.2 f)];rfl
   ·rw[au f,ab (λq=>f (c.1 q))];rfl
def X5(m:Nat){g l:Bool}{d:aa}{x s:Int}(n:okY g l d x s)(v:Int):nE (m+300) g l d x s v=some (if inP g d x s v then 1 else 0):=by
 have y:=iJ n;have a:=λw o=>in_T m n w o;have p:=pj (m+300) g l d x s (by omega) (by omega);unfold inT at a;unfold nE;by_cases u:v < -10000000000000000
 ·rw[ar u,ab (λq=>by have:=q.1;omega)];rfl
 ·rw[au u,af];by_cases t:v>10000000000000000
  ·rw[ar t,ab (λq=>by have:=q.2.1;omega)];rfl
  ·rw[au t,af];cases g with
   | true=>
    have w0:wrap .i64 (0 - v)=-v:=by rw[wrap_i64 _ (by omega) (by omega)];omega
    simp only[aj,w0];by_cases k:-v<0
    ·rw[ar k,ab (λq=>by have:=q.2.2.1;unfold wOf at this;simp only[aN]at this;omega)];rfl
    ·rw[au k,af];obtain⟨w,o⟩:∃w:Nat,-v=(w:Int):=⟨(-v).toNat,by omega⟩;have a:=a w (by omega);have h:wOf true v=(w:Int):=by unfold wOf;simpa using o
     have c:¬(hasX d=true/\w=0)->(inP true d x s v↔memP d x s w):=by
      intro r;unfold inP;rw[h,bX];constructor
      ·exactλq=>q.2.2.2.2
      ·exactλq=>⟨by omega,by omega,by omega,λq=>r ⟨q.1,by omega⟩,q⟩
     rw[o];cases i:hasX d with
     | true=>
      have b:aE (m+300) true l d x s=some 1:=by rw[p,i];rfl
      rw[b];have f:((1:Int)==1)=true:=rfl;simp only[ob,f,aj];by_cases r:w=0
      ·have e:(((w:Nat):Int)==0)=true:=bL.2 (by omega);rw[e,ab (λq=>q.2.2.2.1 ⟨i,rfl,by rw[h];omega⟩)];rfl
      ·have e:(((w:Nat):Int)==0)=false:=aK.2 (by omega);rw[b]at a;simp only[ob,f,aj]at a;rw[e,af,a];have:=c (λq=>r q.2);by_cases hp:memP d x s w
       ·rw[ae hp,ae (this.2 hp)]
       ·rw[ab hp,ab (λq=>hp (this.1 q))]
     | false=>
      have b:aE (m+300) true l d x s=some 0:=by rw[p,i];rfl
      have j:((0:Int)==1)=false:=rfl;rw[b]at a ⊢;simp only[ob,j,af]at a ⊢;rw[a];have:=c (λq=>by rw[i]at q;cases q.1);by_cases hp:memP d x s w
      ·rw[ae hp,ae (this.2 hp)]
      ·rw[ab hp,ab (λq=>hp (this.1 q))]
   | false=>
    simp only[af];by_cases k:v<0
    ·rw[ar k,ab (λq=>by have:=q.2.2.1;unfold wOf at this;simp only[bQ,aF]at this;omega)];rfl
    ·rw[au k,af];obtain⟨w,rfl⟩:∃w:Nat,v=(w:Int):=⟨v.toNat,by omega⟩;have a:=a w (by omega);have h:wOf false (w:Int)=(w:Int):=rfl;have c:inP false d x s (w:Int)↔memP d x s w:=by
      unfold inP;rw[h,bX];constructor
      ·exactλq=>q.2.2.2.2
      ·exactλq=>⟨by omega,by omega,by omega,λq=>(by cases q.2.1),q⟩
     cases i:hasX d with
     | true=>
      have b:aE (m+300) false l d x s=some 1:=by rw[p,i];rfl
      rw[b]at a ⊢;have f:((1:Int)==1)=true:=rfl;simp only[ob,f,aj]at a ⊢;rw[a];by_cases hp:memP d x s w
      ·rw[ae hp,ae (c.2 hp)]
      ·rw[ab hp,ab (λq=>hp (c.1 q))]
     | false=>
      have b:aE (m+300) false l d x s=some 0:=by rw[p,i];rfl
      rw[b]at a ⊢;have j:((0:Int)==1)=false:=rfl;simp only[ob,j,af]at a ⊢;rw[a];by_cases hp:memP d x s w
      ·rw[ae hp,ae (c.2 hp)]
      ·rw[ab hp,ab (λq=>hp (c.1 q))]
def loK(d:aa)(k:Nat):Nat:=dval 0 ((eX 48 d).take k)
def hiK(d:aa)(k:Nat):Nat:=dval 0 ((eX 57 d).take k)
def yA(z:UInt8){d:aa}{k:Nat}{c:UInt8}(h:d[k]?=some c):dval 0 ((eX z d).take (k+1))=dval 0 ((eX z d).take k)*10+((if c=88 then z else c).toNat - 48):=by
 rw[U4 (xj h),Hg]
def Eb(d:aa)(l:d.length=4)(f:∀c∈d,bD c=true\/c=88):∀(k w:Nat),k<=4->w<10 ^ k->mtk d k w=true->loK d k<=w/\w<=hiK d k
 | 0,w,j,b,a=>by
  simp at b;subst b;simp[loK,hiK,qz]
 | k+1,w,j,b,a=>by
  obtain⟨c,hc⟩:∃c,d[k]?=some c:=⟨d[k],bu (by omega)⟩;rw[C6,Bj hc,aB,iq,ch,ch]at a;have hp:(10:Nat) ^ (k+1)=10 ^ k*10:=ts 10 k;have ih:=Eb d l f k (w / 10) (by omega) (by omega) a.2;have i:=yA 48 hc;have e:=yA 57 hc;unfold loK hiK at ih ⊢;rw[i,e];by_cases hx:c=88
  ·rw[ae hx,ae hx];have h:(48:UInt8).toNat - 48=0:=rfl;have g:(57:UInt8).toNat - 48=9:=rfl;rw[h,g];omega
  ·rw[ab hx,ab hx];have:=a.1.resolve_left hx;omega
def AT(z:UInt8)(h:bD z=true)(d:aa)(m:d.length=4)(g:∀c∈d,bD c=true\/c=88):∀k,k<=4->mtk d k (dval 0 ((eX z d).take k))=true
 | 0,_=>rfl
 | k+1,n=>by
  obtain⟨c,hc⟩:∃c,d[k]?=some c:=⟨d[k],bu (by omega)⟩;have ih:=AT z h d m g k (by omega);have e:bD (if c=88 then z else c)=true:=by
   by_cases hx:c=88
   ·rw[ae hx];exact h
   ·rw[ab hx];exact(g c (fk hc)).resolve_right hx
  have l:=(eo _).1 e;rw[C6,Bj hc,yA z hc];generalize f:(if c=88 then z else c)=b at l ⊢;generalize dval 0 ((eX z d).take k)=a at ih ⊢;have j:(a*10+(b.toNat - 48)) / 10=a:=by omega
  have i:(a*10+(b.toNat - 48))%10=b.toNat - 48:=by omega
  rw[j,i,ih,Dc];by_cases hx:c=88
  ·rw[ar hx];rfl
  ·rw[ab hx]at f;rw[f,ar (show b.toNat=48+(b.toNat - 48)by omega),Bool.or_true]
def A8:List (aa):=[[48,48,48,88],[48,48,88,48],[48,48,88,88],[48,88,48,48],[48,88,48,88],[48,88,88,48],[48,88,88,88],[88,48,48,48],[88,48,48,88],[88,48,88,48],[88,48,88,88],[88,88,48,48],[88,88,48,88],[88,88,88,48],[88,88,88,88]]
def Y1:A8.all (λd=>mtk d 4 (ue d)&&decide (1<=ue d)&&decide (ue d<=1000)&&(List.range 1000).all (λw=>decide (w=0)||!mtk d 4 w||decide (ue d<=w)))=true:=by decide +kernel
def EZ{d:aa}(c:d∈A8):mtk d 4 (ue d)=true/\1<=ue d/\ue d<=1000/\∀w,1<=w->mtk d 4 w=true->ue d<=w:=by
 have h:=bS.1 Y1 d c;simp only[aB,ch,bS,ju,iq,jX]at h;obtain⟨⟨⟨e,b⟩,g⟩,f⟩:=h;refine⟨e,b,g,λw k j=>?_⟩;rcases aJ w 1000 with a | i
 ·rcases f w a with(h | h) | h
  ·omega
  ·rw[j]at h;cases h
  ·exact h
 ·omega
def D8{d:aa}(a:d.length=4)(b:∀c∈d,bD c=true\/c=88)(e:hasX d=true)(f:dval 0 (eX 48 d)=0):d∈A8:=
 Ai a (DX a b f) e (λd=>d∈A8) (by decide) (by decide) (by decide) (by decide) (by decide) (by decide) (by decide) (by decide) (by decide) (by decide) (by decide) (by decide) (by decide) (by decide) (by decide)
def Um{d:aa}(a:d.length=4):loK d 4=dval 0 (eX 48 d):=by
 unfold loK;rw[jw (by rw[jo];omega)]
def VE{d:aa}(a:d.length=4):hiK d 4=dval 0 (eX 57 d):=by
 unfold hiK;rw[jw (by rw[jo];omega)]
def PC{g:Bool}{d:aa}(b:d.length=4)(e:∀c∈d,bD c=true\/c=88)(q:hasX d=true):
  (kO g d).1<10000/\(kO g d).2<10000/\mtk d 4 (kO g d).1=true/\mtk d 4 (kO g d).2=true/\1<=(kO g d).2/\(g=true->1<=(kO g d).1)/\∀w,w<10000->mtk d 4 w=true->(g=true->1<=w)->(kO g d).1<=w/\w<=(kO g d).2:=by
 have r:(10:Nat) ^ 4=10000:=by decide
 have n:=rA (z:=48) (by decide) e;have o:=rA (z:=57) (by decide) e;have b1:=qU (eX 48 d) 0 0 n (by simp);have b2:=qU (eX 57 d) 0 0 o (by simp);rw[jo,b,dK,r]at b1 b2;have m1:=AT 48 (by decide) d b e 4 (by omega);have m2:=AT 57 (by decide) d b e 4 (by omega);rw[jw (by rw[jo];omega)]at m1 m2;have l:∀w,w<10000->mtk d 4 w=true->dval 0 (eX 48 d)<=w/\w<=dval 0 (eX 57 d):=λw k i=>by
  have:=Eb d b e 4 w (by omega) (by omega) i;rw[Um b,VE b]at this;exact this
 have j:1<=dval 0 (eX 57 d):=by
  rcases Cd (dval 0 (eX 57 d))with h | h
  ·exfalso;have f:dval 0 (eX 48 d)=0:=by
    have:=(l _ b1 m1).2;omega
   have p:=D8 b e q f;have a:=EZ p;have:=(l _ (by omega) a.1).2;omega
  ·exact h
 unfold kO;by_cases f:g=true/\dval 0 (eX 48 d)=0
 ·rw[ae f];have a:=EZ (D8 b e q f.2);refine⟨by simp only;omega,b2,a.1,m2,j,λ_=>a.2.1,λw k i m=>⟨a.2.2.2 w (m f.1) i,(l w k i).2⟩⟩
 ·rw[ab f];refine⟨b1,b2,m1,m2,j,λm=>?_,λw k i m=>l w k i⟩;simp only;rcases Cd (dval 0 (eX 48 d))with h | h
  ·exact absurd ⟨m,h⟩ f
  ·exact h
def P6{g l:Bool}{d:aa}{x s:Int}(e:okY g l d x s):(od g d x s).1<=10000000000000000/\(od g d x s).2<=10000000000000000/\memP d x s (od g d x s).1/\memP d x s (od g d x s).2/\(hasX d=true->1<=(od g d x s).2/\(g=true->1<=(od g d x s).1))/\
  ∀w,w<=10000000000000000->memP d x s w->(hasX d=true->g=true->1<=w)->(od g d x s).1<=w/\w<=(od g d x s).2:=by
 unfold od memP;cases o:hasX d with
 | true=>
  obtain⟨rfl,rfl,rfl,O,C⟩:=qW e o;obtain⟨K,J,H,E,G,I,F⟩:=PC (g:=g) O C o;have M:(10:Nat) ^ 4=10000:=by decide
  simp only[aN,M];refine⟨by omega,by omega,⟨H,Nat.div_eq_of_lt K⟩,⟨E,Nat.div_eq_of_lt J⟩,λ_=>⟨G,I⟩,λw A m D=>F w (by omega) m.1 (D trivial)⟩
 | false=>
  obtain⟨k,q,rfl,rfl,t⟩:=sP e o;have hs:=t.small;have L:dval 0 d*10 ^ k=val d k:=rfl;rw[L]at hs;obtain⟨c,i,b⟩:=UH t;unfold E16 at b;simp only[bQ,aF,bX];unfold G8;unfold A5 at c i b ⊢;by_cases j:0<q
  ·rw[ae j]at c i b ⊢;rw[ae j];have B:1<=10 ^ (d.length+k - q):=Bc _ _ (by decide);generalize 10 ^ (d.length+k - q)=u at *;generalize val d k=v at *;simp only at c i b ⊢;have f:v / u*u / u=v / u:=Nat.mul_div_cancel _ B;have p:∀w,v / u*u<=w->w<v / u*u+u->w / u=v / u:=by
    intro w y r;apply Nat.div_eq_of_lt_le
    ·exact y
    ·rw[Cf];exact r
   have a:∀w,v / u=w / u->v / u*u<=w/\w<v / u*u+u:=by
    intro w h;rw[h];have y:=Fp w u;have r:=Nat.div_add_mod w u;have Q:=rt w B;rw[uV]at r;omega
   have z:min (v / u*u+u - 1) E16<=v / u*u+u - 1:=Nat.min_le_left _ _;have n:=a v rfl;refine⟨by omega,b,f.symm,(p _ (by omega) (by omega)).symm,λq=>(by cases q),λw A m _=>?_⟩;obtain⟨N,P⟩:=a w m;refine⟨N,?_⟩;rw[Nat.le_min];unfold E16;omega
  ·rw[ab j]at c i b ⊢;rw[ab j];simp only[tM]at c i b ⊢;refine⟨b,b,trivial,trivial,λq=>(by cases q),λw A m _=>by omega⟩
def FL{g l:Bool}{d:aa}{x s:Int}(u:okY g l d x s):inP g d x s (sgn g (od g d x s)).1/\inP g d x s (sgn g (od g d x s)).2/\∀v,inP g d x s v->(sgn g (od g d x s)).1<=v/\v<=(sgn g (od g d x s)).2:=by
 obtain⟨r,w,n,j,m,p⟩:=P6 u;generalize od g d x s=z at *;obtain⟨lo,hi⟩:=z;simp only at r w n j m p;cases g with
 | true=>
  have b:∀a:Nat,wOf true (-(a:Int))=(a:Int):=λa=>by unfold wOf;simp
  have mk:∀a:Nat,a<=10000000000000000->memP d x s a->(hasX d=true->1<=a)->inP true d x s (-(a:Int)):=by
   intro a B i D;refine⟨by omega,by omega,by rw[b];omega,λq=>?_,by rw[b,bX];exact i⟩;have:=D q.1;have C:=q.2.2;rw[b]at C;omega
  simp only[sgn,aN];refine⟨mk hi w j (λh=>(m h).1),mk lo r n (λh=>(m h).2 rfl),λv t=>?_⟩;obtain⟨A,y,o,f,c⟩:=t;have k:wOf true v=-v:=rfl;rw[k]at o f c
  have:=p (-v).toNat (by omega) c (λhx _=>by
   have:¬-v=0:=λe=>f ⟨hx,rfl,e⟩;omega)
  omega
 | false=>
  have b:∀a:Int,wOf false a=a:=λa=>rfl;have mk:∀a:Nat,a<=10000000000000000->memP d x s a->inP false d x s (a:Int):=by
   intro a B i;exact⟨by omega,by omega,by rw[b];omega,λq=>(by cases q.2.1),by rw[b,bX];exact i⟩
  simp only[sgn,bQ,aF];refine⟨mk lo r n,mk hi w j,λv t=>?_⟩;obtain⟨A,y,o,f,c⟩:=t;rw[b]at o c;have:=p v.toNat (by omega) c (λ_ q=>by cases q);omega
end Go.Sh
namespace Go.Sh.Mk
open Go.Abs
def okB(c:UInt8):Bool:=c.toNat==88||(decide (48<=c.toNat)&&decide (c.toNat<=57))
def chk(s:aa):Int:=if 18<s.length then 3 else if s.all okB then(if s=[]then 5 else 0)else 5
def vT(n:Nat)(s0 s:aa)(u:s.length+1<n):
  av (iY n) n (s0,s,0)=some (if s.all okB then .inr s0 else .inl 5):=by
 have:=gy (step:=iY n) (λx=>x.1=s0/\x.2.1=s/\x.2.2<=s.length) (λx=>s.length - x.2.2)
  (λx=>if(s.drop x.2.2).all okB then .inr s0 else .inl 5) ?_ n (s0,s,0) ⟨rfl,rfl,jr _⟩ (by simp;omega)
 ·simpa using this
 rintro⟨a,b,i⟩ ⟨rfl,rfl,hi⟩;simp only at hi ⊢;rcases aJ i b.length with l | o
 ·obtain⟨c,hc⟩:∃c,b[i]?=some c:=⟨b[i],bu l⟩;have m:Nat.blt i b.length=true:=cD l;rw[gm hc,m7];simp only[iY,m,aj];by_cases j:c.toNat<128
  ·rw[Cc hc j];by_cases k:c.toNat=88
   ·refine .inl ⟨(a,b,i+1),by simp[k],⟨rfl,rfl,by simp only;omega⟩,by simp only;omega,?_⟩;simp[okB,k]
   ·by_cases p:c.toNat<48
    ·refine .inr ?_;have e:(((c.toNat:Nat):Int) != 88)=true:=by simp;omega
     have d:(decide (((c.toNat:Nat):Int)<48))=true:=by simp;omega
     have f:okB c=false:=by simp[okB];omega
     simp[e,d,f]
    ·by_cases q:57<c.toNat
     ·refine .inr ?_;have e:(((c.toNat:Nat):Int) != 88)=true:=by simp;omega
      have d:(decide (((c.toNat:Nat):Int)<48))=false:=by simp;omega
      have g:(decide (((c.toNat:Nat):Int)>57))=true:=by simp;omega
      have f:okB c=false:=by simp[okB];omega
      simp[e,d,f,g]
     ·have e:(((c.toNat:Nat):Int) != 88)=true:=by simp;omega
      have d:(decide (((c.toNat:Nat):Int)<48))=false:=by simp;omega
      have g:(decide (((c.toNat:Nat):Int)>57))=false:=by simp;omega
      have f:okB c=true:=by simp[okB];omega
      refine .inl ⟨(a,b,i+1),by simp only[e,d,g,aj,af],⟨rfl,rfl,by simp only;omega⟩,by simp only;omega,?_⟩;simp[f]
  ·obtain⟨t,r⟩:=IU hc (by omega);refine .inr ?_;have e:((((dec b i).1:Nat):Int) != 88)=true:=by simp;omega
   have d:(decide ((((dec b i).1:Nat):Int)<48))=false:=by simp;omega
   have g:(decide ((((dec b i).1:Nat):Int)>57))=true:=by simp;omega
   have f:okB c=false:=by simp[okB];omega
   simp[e,d,f,g]
 ·have m:Nat.blt i b.length=false:=by
   cases h:Nat.blt i b.length with
   | false=>rfl
   | true=>have:i<b.length:=aI h;omega
  refine .inr ?_;simp only[iY,m,af];rw[mB o];rfl
def mg(n:Nat)(s:aa)(b:30<=n):jh n s=some (chk s):=by
 unfold jh chk;by_cases h:18<s.length
 ·have:(decide (((List.length s:Nat):Int)>18))=true:=by simp;omega
  simp[this,h]
 ·have e:(decide (((List.length s:Nat):Int)>18))=false:=by simp;omega
  simp only[e,af,h,aF];rw[vT n s s (by omega)];by_cases a:s.all okB=true
  ·simp only[a,aN,ob];by_cases hs:s=[]
   ·simp[hs]
   ·have:(s==([]:aa))=false:=by simpa using hs
    simp[this,hs]
  ·simp[a,ob]
def nZ{s:aa}(h:chk s=0):s.length<=18/\s≠[]/\∀c∈s,okB c=true:=by
 unfold chk at h;split at h
 ·simp at h
 ·split at h
  ·rename_i a;split at h
   ·simp at h
   ·rename_i hs;exact⟨by omega,hs,by simpa using a⟩
  ·simp at h
def nums(l:aa):List Int:=l.map λb=>((b.toNat:Nat):Int)
def over(d:List Int)(i:Nat)(l:List Int):List Int:=d.take i++(l++d.drop (i+l.length))
def CZ(d:List Int)(i:Nat)(x:Int)(l:List Int)(h:i<d.length):over (d.set i x) (i+1) l=over d i (x::l):=by
 unfold over;rw[show(d.set i x).take (i+1)=d.take i++[x]from by
  rw[Oo (by simpa using h)];simp[List.take_set_of_le]]
 rw[List.drop_set_of_lt (by omega)];simp[ig,oP 1]
def HM(d:List Int)(i:Nat):over d i []=d:=by simp[over]
def Qb(d:List Int)(i:Nat)(l:List Int)(h:i+l.length<=d.length):(over d i l).length=d.length:=by
 unfold over;simp;omega
def Qd{x y:UInt8}:(((x.toNat:Nat):Int)==((y.toNat:Nat):Int))=decide (x=y):=by
 by_cases h:x=y
 ·simp[h]
 ·have:x.toNat≠y.toNat:=λe=>h (iE.1 e);simp[h];omega
def AI{x:UInt8}:(((x.toNat:Nat):Int)==88)=decide (x=88):=by
 have:=Qd (x:=x) (y:=88);simpa using this
def dg:Nat->Int->List Int
 | 0,_=>[]
 | L+1,k=>dg L (k / 10)++[48+k%10]
def xP:∀(L:Nat) (k:Int),(dg L k).length=L
 | 0,_=>rfl
 | L+1,k=>by simp[dg,xP L]
def tZ:∀(L:Nat) (k:Int),∀x∈dg L k,48<=x/\x<58
 | 0,_,x,h=>by simp[dg]at h
 | L+1,k,x,h=>by
  simp only[dg,kQ,lV]at h;rcases h with h | rfl
  ·exact tZ L _ x h
  ·omega
def jE:aa->List Int->Bool
 | c::m,d::l=>(c==88||decide (((c.toNat:Nat):Int)=d))&&jE m l
 | _,_=>true
def vz:∀{a c:aa} {b d:List Int},a.length=b.length->jE (a++c) (b++d)=(jE a b&&jE c d)
 | [],c,[],d,_=>by simp[jE]
 | x::a,c,y::b,d,h=>by
  simp only[aG,yZ]at h;simp only[fi,jE,vz h,Bool.and_assoc]
def hasM(m:aa)(k:Int):Bool:=decide (0<=k)&&(decide (k<10 ^ m.length)&&jE m (dg m.length k))
def Qy(L:Nat)(h:L<=18):nV 20000000 ((L:Nat):Int)=some (10 ^ L):=by
 have a:allN (λi=>match nV 20000000 ((i:Nat):Int)with | some r=>decide (r=10 ^ i) | none=>false) 19=true:=by kernel_rfl
 have:=G7 a L (by omega);split at this
 ·rename_i r b;rw[b];simpa using this
 ·cases this
def Fg(L:Nat)(h:L<=18):(10:Int) ^ L<=1000000000000000000:=by
 have a:allN (λi=>decide ((10:Int) ^ i<=1000000000000000000)) 19=true:=by kernel_rfl
 simpa using G7 a L (by omega)
def V2{k:Int}(h:0<=k):Int.tmod k 10=k%10:=O3 h
def Yv{k:Int}(h:0<=k):Int.tdiv k 10=k / 10:=SH h
def KA(k:Int)(i:Nat)(d:List Int)(a:0<=k)(e:k<9223372036854775808)(hi:i<=18)(b:d.length=18):
  av (iZ 20000000) 20000000 (k,(i:Int) - 1,d)=some (over d 0 (dg i k)):=by
 have:=gy (step:=iZ 20000000) (λx=>(0<=x.1/\x.1<9223372036854775808)/\(-1<=x.2.1/\x.2.1<=17)/\x.2.2.length=18) (λx=>(x.2.1+1).toNat)
  (λx=>over x.2.2 0 (dg (x.2.1+1).toNat x.1)) ?_ 20000000 (k,(i:Int) - 1,d) ⟨⟨a,e⟩,⟨by simp only;omega,by simp only;omega⟩,b⟩ (by simp only;omega)
 ·simpa using this
 rintro⟨k,i,d⟩ ⟨⟨a,e⟩,⟨g,o⟩,b⟩;simp only at a e g o b ⊢;by_cases hi:0<=i
 ·obtain⟨j,rfl⟩:∃j:Nat,i=j:=⟨i.toNat,by omega⟩;have f:j<18:=by omega
  have c:decide ((j:Int)>=0)=true:=by simp
  have l:Nat.blt j 18=true:=cD f;have p:wrap .i64 ((j:Int) - 1)=(j:Int) - 1:=wrap_i64 _ (by omega) (by omega);have h:wrap .i64 (Int.tdiv k 10)=k / 10:=by rw[Yv a];exact wrap_i64 _ (by omega) (by omega)
  have m:wrap .u8 (wrap .i64 (48+Int.tmod k 10))=48+k%10:=by rw[V2 a,wrap_i64 _ (by omega) (by omega),gK _ (by omega) (by omega)]
  refine .inl ⟨(k / 10,(j:Int) - 1,d.set j (48+k%10)),by simp only[iZ,c,aj,cT f,ob,l,p,h,m],⟨⟨by simp only;omega,by simp only;omega⟩,⟨by simp only;omega,by simp only;omega⟩,by simpa using b⟩,by simp only;omega,?_⟩;have n:((j:Int) - 1+1).toNat=j:=by omega
  have q:((j:Int)+1).toNat=j+1:=by omega
  simp only[n,q,over,mV,dO,xP,cK,dg,f8];congr 1;rw[List.drop_set,ab (by omega),Be,rD (by omega)];simp only[List.set_cons_zero,aZ,xP,aG,cE,fi,dO,cK]
 ·have c:decide (i>=0)=false:=by simp;omega
  have s:(i+1).toNat=0:=by omega
  refine .inr ?_;simp only[iZ,c,af,s,dg,HM]
def PZ(m:aa)(k:Int)(c:m.length<=18)(b:0<=k)(a:k<9223372036854775808):
  lS 20000000 m k=some (over [0,0,0,0,0,0,0,0,0,0,0,0,0,0,0,0,0,0] 0 (dg m.length k)):=by
 have w:wrap .i64 (((List.length m:Nat):Int) - 1)=(m.length:Int) - 1:=wrap_i64 _ (by omega) (by omega);simp only[lS,w,KA k m.length [0,0,0,0,0,0,0,0,0,0,0,0,0,0,0,0,0,0] b a c (by rfl),ob]
def wd{d l:List Int}{i:Nat}(h:i<l.length):(over d 0 l)[i]?=l[i]?:=by
 unfold over;simp only[mV,dO];rw[n6 h]
def Ae:∀(l:List Int),(∀x∈l,0<=x/\x<256)->nums (iP l)=l
 | [],_=>rfl
 | x::l,h=>by
  have ih:=Ae l λy hy=>h y (fD _ hy);obtain⟨c,a⟩:=h x (by simp);have e:(((UInt8.ofNat x.toNat).toNat:Nat):Int)=x:=by
   rw[G0,qj (by omega)];omega
  simp only[nums,iP,tq]at ih ⊢;simp only[gN,Function.comp,e];rw[show List.map ((λb:UInt8=>((b.toNat:Nat):Int)) ∘ λn:Int=>UInt8.ofNat n.toNat) l=l from ih]
def Rz(l:aa):(nums l).length=l.length:=by simp[nums]
def cnt:aa->Nat
 | []=>0
 | c::r=>if c=88 then cnt r+1 else cnt r
def dv(c:UInt8):Int:=((c.toNat:Nat):Int) - 48
def nth:aa->Int->Int
 | [],_=>0
 | c::r,i=>if c=88 then 10*nth r (i / 10)+i%10 else 10*nth r i+dv c
def ag:aa->Int->Bool
 | [],_=>true
 | c::r,k=>ag r (k / 10)&&(decide (c=88)||decide (dv c=k%10))
def idx:aa->Int->Int
 | [],_=>0
 | c::r,k=>if c=88 then 10*idx r (k / 10)+k%10 else idx r (k / 10)
def okR(r:aa):Prop:=∀c∈r,c=88\/(0<=dv c/\dv c<10)
def zO{m:aa}(h:∀c∈m,okB c=true):okR m.reverse:=by
 intro c hc;have:=h c (Gy.1 hc);simp only[okB,iq,bL,aB,ch]at this;rcases this with h | h
 ·exact .inl (iE.1 (by simpa using h))
 ·exact .inr (by unfold dv;omega)
def sE{c:UInt8}{r:aa}(h:okR (c::r)):okR r:=λx hx=>h x (fD _ hx)
def iW(n:Nat):(10:Int) ^ (n+1)=10*10 ^ n:=by rw[Int.pow_succ,zF]
def uE(n:Nat):(0:Int)<10 ^ n:=Int.pow_pos (by omega)
def rh:∀{r:aa},okR r->∀i,0<=i->0<=nth r i/\nth r i<10 ^ r.length
 | [],_,i,_=>by simp[nth]
 | c::r,h,i,hi=>by
  simp only[nth,aG,iW];split
  ·have:=rh (sE h) (i / 10) (by omega);omega
  ·rename_i hc;have:=rh (sE h) i hi;have:=(h c (by simp)).resolve_left hc;omega
def L9:∀{r:aa},okR r->∀i,0<=i->ag r (nth r i)=true
 | [],_,_,_=>rfl
 | c::r,h,i,hi=>by
  simp only[nth,ag];split
  ·rename_i hc;have e:(10*nth r (i / 10)+i%10) / 10=nth r (i / 10):=by omega
   rw[e,L9 (sE h) (i / 10) (by omega)];simp[hc]
  ·rename_i hc;have b:=(h c (by simp)).resolve_left hc;have e:(10*nth r i+dv c) / 10=nth r i:=by omega
   have a:(10*nth r i+dv c)%10=dv c:=by omega
   rw[e,a,L9 (sE h) i hi];simp
def xF:∀(r:aa) (k:Int),0<=k->0<=idx r k/\idx r k<10 ^ cnt r
 | [],k,_=>by simp[idx,cnt]
 | c::r,k,a=>by
  have:=xF r (k / 10) (by omega);simp only[idx,cnt];split
  ·rw[iW];omega
  ·exact this
def NJ:∀{r:aa} {k:Int},0<=k->k<10 ^ r.length->ag r k=true->nth r (idx r k)=k
 | [],k,f,a,_=>by simp at a;simp[nth];omega
 | c::r,k,f,a,b=>by
  simp only[ag,aB,iq,ch]at b;rw[aG,iW]at a;have ih:=NJ (r:=r) (k:=k / 10) (by omega) (by omega) b.1;simp only[nth,idx];split
  ·have:=xF r (k / 10) (by omega);have e:(10*idx r (k / 10)+k%10) / 10=idx r (k / 10):=by omega
   have d:(10*idx r (k / 10)+k%10)%10=k%10:=by omega
   rw[e,d,ih];omega
  ·rename_i hc;rw[ih];have:=b.2.resolve_left hc;omega
def CX:∀{r:aa},okR r->∀i j,0<=i->i<j->j<10 ^ cnt r->nth r i<nth r j
 | [],_,i,j,d,b,a=>by simp[cnt]at a;omega
 | c::r,h,i,j,d,b,a=>by
  simp only[nth,cnt]at a ⊢;split
  ·rename_i hc;rw[ae hc,iW]at a;by_cases e:i / 10=j / 10
   ·rw[e];omega
   ·have:=CX (sE h) (i / 10) (j / 10) (by omega) (by omega) (by omega);omega
  ·rename_i hc;rw[ab hc]at a;have:=CX (sE h) i j d b a;omega
def Hz:∀(r:aa),∀k,jE r.reverse (dg r.length k)=ag r k
 | [],k=>rfl
 | c::r,k=>by
  simp only[List.reverse_cons,aG,dg,ag];rw[vz (by rw[uT,xP]),Hz r];have b:decide (((c.toNat:Nat):Int)=48+k%10)=decide (dv c=k%10):=uR.2 (by unfold dv;omega);have a:(c==88)=decide (c=88):=by by_cases h:c=88<;>simp[h]
  simp only[jE,Dc,b,a]
def FX(m:aa)(k:Int):hasM m k=(decide (0<=k)&&(decide (k<10 ^ m.length)&&ag m.reverse k)):=by
 have:=Hz m.reverse k;rw[wR,uT]at this;unfold hasM;rw[this]
def xB:∀(m:aa),cnt m=m.count 88
 | []=>rfl
 | c::m=>by
  simp only[cnt,xB m,List.count_cons];by_cases h:c=88<;>simp[h]
def tR(m:aa):cnt m.reverse=cnt m:=by rw[xB,xB,List.count_reverse]
def MG:∀(m:aa),cnt m<=m.length
 | []=>by simp[cnt]
 | c::m=>by
  have:=MG m;simp only[cnt,aG];split<;>omega
def fd(x y:Int):Int:=(if y=88 then x else y) - 48
def fval(x:Int)(l:List Int):Int:=l.foldl (λn y=>10*n+fd x y) 0
def Ce(x:Int):∀(l:List Int) (n:Int),l.foldl (λn y=>10*n+fd x y) n=n*10 ^ l.length+fval x l
 | [],n=>by simp[fval]
 | y::l,n=>by
  have e:=Ce x l (10*n+fd x y);have a:=Ce x l (10*0+fd x y);simp only[fval,vD,aG,iW]at e a ⊢;rw[e,a,Int.add_mul,Int.add_mul];have:10*n*10 ^ l.length=n*(10*10 ^ l.length):=by rw[zF 10 n,Int.mul_assoc]
  omega
def yi(s:aa)(x:Int)(h18:s.length<=18)(hs:∀c∈s,0<=fd x ((c.toNat:Nat):Int)/\fd x ((c.toNat:Nat):Int)<10):mM 20000000 s x=some (fval x (nums s)):=by
 have hs':∀y∈nums s,0<=fd x y/\fd x y<10:=by
  intro y hy;obtain⟨c,hc,rfl⟩:=eF.1 hy;exact hs c hc
 have hl:(nums s).length=s.length:=Rz s;have:=gy (step:=io 20000000)
  (λst=>st.1=x/\st.2.2.1=((s.length:Nat):Int)/\st.2.2.2.2=nums s/\(0<=st.2.2.2.1/\st.2.2.2.1<=s.length)/\0<=st.2.1/\st.2.1<10 ^ st.2.2.2.1.toNat) (λst=>s.length - st.2.2.2.1.toNat)
  (λst=>((nums s).drop st.2.2.2.1.toNat).foldl (λn y=>10*n+fd x y) st.2.1) ?_ 20000000 (x,0,((s.length:Nat):Int),0,nums s) ⟨rfl,rfl,rfl,⟨by simp,by simp⟩,by simp,by simp⟩ (by simp;omega)
 ·show(ob (av (io 20000000) 20000000 (x,0,((List.length (nums s):Nat):Int),0,nums s)) λy30=>some y30)=_;rw[hl,this];rfl
 rintro⟨x',n,len,i,l⟩ ⟨q1,q2,q3,⟨h0,hi⟩,n0,n1⟩;simp only at q1 q2 q3 h0 hi n0 n1 ⊢;subst q1 q2 q3;obtain⟨j,rfl⟩:∃j:Nat,i=j:=⟨i.toNat,by omega⟩;simp only[bX]at n1 ⊢;rcases aJ j s.length with hlt | hge
 ·obtain⟨y,hy⟩:∃c,(nums s)[j]?=some c:=⟨(nums s)[j]'(by omega),bu (by omega)⟩;obtain⟨d0,d1⟩:=hs' y (fk hy);have hb:(decide ((j:Int)<((s.length:Nat):Int)))=true:=by simp;omega
  have hw:wrap .i64 ((j:Int)+1)=((j+1:Nat):Int):=by rw[wrap_i64 _ (by omega) (by omega)];omega
  have hb1:=Fg (j+1) (by omega);rw[iW]at hb1;have w1:wrap .i64 (10*n)=10*n:=wrap_i64 _ (by omega) (by omega);have w2:∀z:Int,0<=z->z<10->wrap .i64 (10*n+wrap .i64 (wrap .u8 z))=10*n+z:=λz z0 z1=>by
   rw[gK z (by omega) (by omega),wrap_i64 z (by omega) (by omega),wrap_i64 _ (by omega) (by omega)]
  rw[gm hy,vD];simp only[io,hb,aj,cT (show j<(nums s).length by omega),ob,hy,hw,w1];have next:0<=10*n+fd x' y/\10*n+fd x' y<10 ^ (j+1):=by rw[iW];omega
  by_cases h88:y=88
  ·have e1:(y==88)=true:=by simpa using h88
   have hd:fd x' y=x' - 48:=by simp[fd,h88]
   rw[hd]at d0 d1 next ⊢;refine .inl ⟨(x',10*n+(x' - 48),((s.length:Nat):Int),((j+1:Nat):Int),nums s),by simp only[e1,aj,w2 _ d0 d1],⟨rfl,rfl,rfl,⟨by simp only;omega,by simp only;omega⟩,next.1,by simpa only[bX]using next.2⟩,by simp only[bX];omega,by simp only[bX]⟩
  ·have e1:(y==88)=false:=by simpa using h88
   have hd:fd x' y=y - 48:=by simp[fd,h88]
   rw[hd]at d0 d1 next ⊢;refine .inl ⟨(x',10*n+(y - 48),((s.length:Nat):Int),((j+1:Nat):Int),nums s),by simp only[e1,af,w2 _ d0 d1],⟨rfl,rfl,rfl,⟨by simp only;omega,by simp only;omega⟩,next.1,by simpa only[bX]using next.2⟩,by simp only[bX];omega,by simp only[bX]⟩
 ·have hb:(decide ((j:Int)<((s.length:Nat):Int)))=false:=by simp;omega
  refine .inr ?_;simp only[io,hb,af];rw[mB (by omega)];rfl
def wX(x:Int)(l:List Int)(y:Int):fval x (l++[y])=10*fval x l+fd x y:=by simp[fval,Hu]
def Dt(r:aa)(c:UInt8):nums ((c::r).reverse)=nums r.reverse++[((c.toNat:Nat):Int)]:=by simp[nums]
def F7(x:Int)(c:UInt8):fd x ((c.toNat:Nat):Int)=if c=88 then x - 48 else dv c:=by
 unfold fd dv;by_cases h:c=88
 ·simp[h]
 ·have:¬((c.toNat:Nat):Int)=88:=λe=>h (iE.1 (by simpa using(by omega:c.toNat=88)));rw[ab this,ab h]
def zw:∀(r:aa),fval 48 (nums r.reverse)=nth r 0
 | []=>rfl
 | c::r=>by
  rw[Dt,wX,zw r,F7];simp only[nth];split<;>simp
def ua:∀(r:aa),fval 57 (nums r.reverse)=nth r (10 ^ cnt r - 1)
 | []=>rfl
 | c::r=>by
  have hp:=uE (cnt r);rw[Dt,wX,ua r,F7];simp only[nth,cnt];split
  ·rw[iW];have b:(10*(10:Int) ^ cnt r - 1) / 10=10 ^ cnt r - 1:=by omega
   have a:(10*(10:Int) ^ cnt r - 1)%10=9:=by omega
   rw[b,a];omega
  ·rfl
def WG{m:aa}(a:∀c∈m,okB c=true){x:Int}(hx:48<=x/\x<58):∀c∈m,0<=fd x ((c.toNat:Nat):Int)/\fd x ((c.toNat:Nat):Int)<10:=by
 intro c hc;rw[F7];have:=zO a c (Gy.2 hc);split
 ·omega
 ·rename_i h;exact this.resolve_left h
def Rj{m:aa}(c:chk m=0):qC 20000000 m=some (nth m.reverse 0,0):=by
 obtain⟨a,_,b⟩:=nZ c;have d:((0:Int) != 0)=false:=by simp
 have:=zw m.reverse;rw[wR]at this;simp only[qC,mg 20000000 m (by omega),c,ob,d,af,yi m 48 a (WG b (by omega)),this]
def G4{m:aa}(c:chk m=0):me 20000000 m=some (nth m.reverse (10 ^ cnt m - 1),0):=by
 obtain⟨a,_,b⟩:=nZ c;have d:((0:Int) != 0)=false:=by simp
 have:=ua m.reverse;rw[wR,tR]at this;simp only[me,mg 20000000 m (by omega),c,ob,d,af,yi m 57 a (WG b (by omega)),this]
def PU{m:aa}{l:List Int}(z:List Int)(b:m.length<=18)(g:l.length=m.length)(e:∀y∈l,48<=y/\y<58):gC 20000000 m (over z 0 l)=some (fval 0 l):=by
 have f:List.take m.length (over z 0 l)=l:=by
  unfold over;rw[mV,dO,uS (by omega),jw (by omega)]
 have d:nums (iP l)=l:=Ae l λy hy=>by have:=e y hy;omega
 have h:(iP l).length=m.length:=by simp[iP,g]
 simp only[gC,eM b,ob,cK,show Nat.ble m.length 18=true from cD b,aj,cS,f];rw[yi (iP l) 0 (by omega) ?_,d];intro c hc;have a:((c.toNat:Nat):Int)∈l:=by rw[<-d];exact eF.2 ⟨c,hc,rfl⟩
 have:=e _ a;unfold fd;rw[ab (by omega)];omega
def HB{m:aa}(e:chk m=0){i:Int}(c:0<=i):hasM m (nth m.reverse i)=true:=by
 obtain⟨d,_,a⟩:=nZ e;have b:=rh (zO a) i c;rw[uT]at b;rw[FX,L9 (zO a) i c,ar b.1,ar b.2];rfl
def vl:List Int->Int
 | []=>0
 | y::l=>(y - 48)*10 ^ l.length+vl l
def digl(l:List Int):Prop:=∀y∈l,48<=y/\y<58
def dH{y:Int}{l:List Int}(h:digl (y::l)):digl l:=λx hx=>h x (fD _ hx)
def wb:∀{l:List Int},digl l->0<=vl l/\vl l<10 ^ l.length
 | [],_=>by simp[vl]
 | y::l,h=>by
  have ih:=wb (dH h);have hy:=h y (by simp);have hp:=uE l.length;simp only[vl,aG,iW];have a1:0<=(y - 48)*10 ^ l.length:=Int.mul_nonneg (by omega) (by omega);have a2:(y - 48)*10 ^ l.length<=9*10 ^ l.length:=S5 (by omega) (by omega);omega
def VA{y z:Int}{a b:List Int}(f:a.length=b.length)(e:digl a)(c:digl b)(h:y<z):vl (y::a)<vl (z::b):=by
 have g:=wb e;have d:=wb c;have hp:=uE a.length;simp only[vl];rw[<-f]at d ⊢;have a2:(y - 48+1)*10 ^ a.length<=(z - 48)*10 ^ a.length:=S5 (by omega) (by omega);rw[Int.add_mul]at a2;omega
def BU:∀{l:List Int},digl l->fval 0 l=vl l
 | [],_=>rfl
 | y::l,h=>by
  have hy:=h y (by simp);have e:fval 0 (y::l)=l.foldl (λn y=>10*n+fd 0 y) (10*0+fd 0 y):=rfl;have a:fd 0 y=y - 48:=by unfold fd;rw[ab (by omega)]
  rw[e,Ce,BU (dH h),a];simp only[vl,Int.mul_zero,Int.zero_add]
def Ni{l:List Int}{y:Int}(h:digl (l++[y])):vl (l++[y])=10*vl l+(y - 48):=by
 have hy:=h y (by simp);have a:digl l:=λx hx=>h x (by simp[hx]);rw[<-BU h,<-BU a,wX];unfold fd;rw[ab (by omega)]
def QC:∀(L:Nat) (k:Int),0<=k->k<10 ^ L->vl (dg L k)=k
 | 0,k,c,a=>by simp at a;simp[dg,vl];omega
 | L+1,k,c,a=>by
  rw[iW]at a;have:=QC L (k / 10) (by omega) (by omega);have b:=tZ (L+1) k;simp only[dg]at b ⊢;rw[Ni b,this];omega
def Y8{l:List Int}(h:digl l):dg l.length (vl l)=l:=by
 have b:∀(r:List Int),digl r.reverse->dg r.length (vl r.reverse)=r.reverse:=by
  intro r
  induction r with
  | nil=>intro _;rfl
  | cons y r ih=>
   intro h;simp only[List.reverse_cons,aG]at h ⊢;have hy:=h y (by simp);rw[Ni h];simp only[dg];have c:(10*vl r.reverse+(y - 48)) / 10=vl r.reverse:=by omega
   have a:48+(10*vl r.reverse+(y - 48))%10=y:=by omega
   rw[c,a,ih λx hx=>h x (kQ.2 (.inl hx))]
 have:=b l.reverse (by rw[wR];exact h);rwa[wR,uT]at this
def fst(up:Bool):Int:=cond up 48 57
def lst(up:Bool):Int:=cond up 57 48
def stp(up:Bool)(y:Int):Int:=cond up (y+1) (y - 1)
def fil(up:Bool)(m:aa):List Int:=m.map λc=>cond (decide (c=88)) (fst up) ((c.toNat:Nat):Int)
def nx(up:Bool):aa->List Int->Option (List Int)
 | c::m,y::l=>
  if c=88 then
   match nx up m l with
   | some r=>some (y::r)
   | none=>if y=lst up then none else some (stp up y::fil up m)
  else if((c.toNat:Nat):Int)=y then(nx up m l).map λr=>y::r
  else if decide (((c.toNat:Nat):Int)>y)=up then some (((c.toNat:Nat):Int)::fil up m)else none
 | _,_=>some []
def okM(m:aa):Prop:=∀c∈m,okB c=true
def sF{c:UInt8}{m:aa}(h:okM (c::m)):okM m:=λx hx=>h x (fD _ hx)
def HT{c:UInt8}(h:okB c=true)(a:¬c=88):48<=((c.toNat:Nat):Int)/\((c.toNat:Nat):Int)<58:=by
 simp only[okB,iq,bL,aB,ch]at h;have:¬c.toNat=88:=λe=>a (iE.1 (by simpa using e));omega
def CN(up:Bool)(m:aa):(fil up m).length=m.length:=by simp[fil]
def Pg(up:Bool){m:aa}(h:okM m):digl (fil up m):=by
 intro y hy;obtain⟨c,hc,rfl⟩:=eF.1 hy;by_cases a:c=88
 ·simp only[ar a,aj];cases up<;>simp[fst]
 ·simp only[au a,af];exact HT (h c hc) a
def yf(up:Bool):∀(m:aa),jE m (fil up m)=true
 | []=>rfl
 | c::m=>by
  have:=yf up m;simp only[fil,gN,jE]at this ⊢;rw[this];by_cases a:c=88
  ·simp[a]
  ·simp[a]
def ft(up:Bool)(a b:Int):Prop:=match up with | true=>a<=b | false=>b<=a
def Br(up:Bool):∀{m:aa} {e:List Int},okM m->m.length=e.length->digl e->jE m e=true->ft up (vl (fil up m)) (vl e)
 | [],[],_,_,_,_=>by cases up<;>simp[fil,vl,ft]
 | c::m,y::e,n,i,j,k=>by
  simp only[aG,yZ]at i;simp only[jE,aB,iq,bL,ch]at k;have ih:=Br up (sF n) i (dH j) k.2;have hy:=j y (by simp);have g:=CN up m;have l:=Pg up (sF n);have a:∀z:Int,vl (z::fil up m)=(z - 48)*10 ^ m.length+vl (fil up m):=λz=>by rw[vl,g]
  have b:fil up (c::m)=(cond (decide (c=88)) (fst up) ((c.toNat:Nat):Int))::fil up m:=rfl;rw[b];by_cases d:c=88
  ·simp only[ar d,aj];by_cases f:y=fst up
   ·rw[<-f,a,vl,<-i];cases up<;>simp only[ft]at ih ⊢<;>omega
   ·cases up
    ·exact Int.le_of_lt (VA (by rw[g,i]) (dH j) l (by simp[fst]at f ⊢;omega))
    ·exact Int.le_of_lt (VA (by rw[g,i]) l (dH j) (by simp[fst]at f ⊢;omega))
  ·simp only[au d,af];rw[k.1.resolve_left d,a,vl,<-i];cases up<;>simp only[ft]at ih ⊢<;>omega
 | [],_::_,_,h,_,_=>by simp at h
 | _::_,[],_,h,_,_=>by simp at h
def US(up:Bool):∀{m:aa} {l:List Int},okM m->m.length=l.length->digl l->
  match nx up m l with
  | some r=>r.length=m.length/\digl r/\jE m r=true/\ft up (vl l) (vl r)/\∀e,e.length=m.length->digl e->jE m e=true->ft up (vl l) (vl e)->ft up (vl r) (vl e)
  | none=>∀e,e.length=m.length->digl e->jE m e=true->¬ft up (vl l) (vl e)
 | [],[],_,_,_=>by
  simp only[nx];refine⟨rfl,by intro y hy;simp at hy,rfl,by cases up<;>simp[ft],?_⟩;intro e D _ _ _;simp only[cE]at D;rw[sZ D];cases up<;>simp[ft]
 | c::m,y::l,K,u,Q=>by
  simp only[aG,yZ]at u;have ih:=US up (sF K) u (dH Q);have hy:=Q y (by simp);have x:=dH Q;have t:=CN up m;have B:=Pg up (sF K);have L:∀{z w:Int} {a b:List Int},a.length=m.length->b.length=m.length->digl a->digl b->z<w->vl (z::a)<vl (w::b):=λD J P O S=>VA (by rw[D,J]) P O S;have d:∀(z:Int) {a b:List Int},a.length=m.length->b.length=m.length->(ft up (vl (z::a)) (vl (z::b))↔ft up (vl a) (vl b)):=λz a b D J=>by
   simp only[vl,D,J];cases up<;>simp only[ft]<;>omega
  have o:∀{z w:Int} {a b:List Int},a.length=m.length->b.length=m.length->digl a->digl b->z≠w->(ft up (vl (z::a)) (vl (w::b))↔ft up z w):=λ{z w a b} D J P O S=>by
   rcases Int.lt_trichotomy z w with h | h | h
   ·have:=L D J P O h;cases up<;>simp only[ft]<;>omega
   ·exact absurd h S
   ·have:=L J D O P h;cases up<;>simp only[ft]<;>omega
  have f:∀e:List Int,e.length=(c::m).length->∃w a,e=w::a/\a.length=m.length:=λe h=>by
   match e,h with
   | w::a,h=>exact⟨w,a,rfl,by simpa using h⟩
  by_cases g:c=88
  ·cases C:nx up m l with
   | some r=>
    rw[C]at ih;obtain⟨H,N,U,T,R⟩:=ih;simp only[nx,ae g,C];refine⟨by simp[H],λz s=>?_,by simp[jE,g,U],(d y u.symm H).2 T,λe A j p q=>?_⟩
    ·rcases cb.1 s with rfl | s
     ·exact hy
     ·exact N z s
    ·obtain⟨w,a,rfl,i⟩:=f e A;simp only[jE,g,tQ,Ek,pT]at p;by_cases E:y=w
     ·subst E;exact(d y H i).2 (R a i (dH j) p ((d y u.symm i).1 q))
     ·exact(o H i N (dH j) E).2 ((o u.symm i x (dH j) E).1 q)
   | none=>
    rw[C]at ih;by_cases n:y=lst up
    ·simp only[nx,ae g,C,ae n];intro e A j p q;obtain⟨w,a,rfl,i⟩:=f e A;simp only[jE,g,tQ,Ek,pT]at p;have hw9:=j w (by simp);by_cases E:y=w
     ·subst E;exact ih a i (dH j) p ((d y u.symm i).1 q)
     ·have:=(o u.symm i x (dH j) E).1 q;cases up<;>simp only[ft,lst,aj,af]at this n<;>omega
    ·simp only[nx,ae g,C,ab n];have hs:48<=stp up y/\stp up y<58/\y≠stp up y/\ft up y (stp up y)/\∀w,w≠y->ft up y w->ft up (stp up y) w:=by
      cases up<;>simp only[ft,lst,stp,aj,af]at n ⊢<;>exact⟨by omega,by omega,by omega,by omega,λw D J=>by omega⟩
     obtain⟨X,s2,Y,s4,Z⟩:=hs;refine⟨by simp[t],λz s=>?_,by simp[jE,g,yf],(o u.symm t x B Y).2 s4,λe A j p q=>?_⟩
     ·rcases cb.1 s with rfl | s
      ·exact⟨X,s2⟩
      ·exact B z s
     ·obtain⟨w,a,rfl,i⟩:=f e A;simp only[jE,g,tQ,Ek,pT]at p;by_cases E:y=w
      ·subst E;exact absurd ((d y u.symm i).1 q) (ih a i (dH j) p)
      ·have W:=Z w (λh=>E h.symm) ((o u.symm i x (dH j) E).1 q);by_cases M:stp up y=w
       ·rw[M];exact(d w t i).2 (Br up (sF K) i.symm (dH j) p)
       ·exact(o t i B (dH j) M).2 W
  ·have V:=HT (K c (by simp)) g;have F:∀w a,jE (c::m) (w::a)=true->w=((c.toNat:Nat):Int)/\jE m a=true:=λw a h=>by
    simp only[jE,aB,iq,bL,ch]at h;exact⟨(h.1.resolve_left g).symm,h.2⟩
   by_cases k:((c.toNat:Nat):Int)=y
   ·cases C:nx up m l with
    | some r=>
     rw[C]at ih;obtain⟨H,N,U,T,R⟩:=ih;simp only[nx,ab g,ae k,C,fh];refine⟨by simp[H],λz s=>?_,by simp[jE,k,U],(d y u.symm H).2 T,λe A j p q=>?_⟩
     ·rcases cb.1 s with rfl | s
      ·exact hy
      ·exact N z s
     ·obtain⟨w,a,rfl,i⟩:=f e A;obtain⟨rfl,v⟩:=F w a p;rw[k]at q ⊢;exact(d y H i).2 (R a i (dH j) v ((d y u.symm i).1 q))
    | none=>
     rw[C]at ih;simp only[nx,ab g,ae k,C,jb];intro e A j p q;obtain⟨w,a,rfl,i⟩:=f e A;obtain⟨rfl,v⟩:=F w a p;rw[k]at q;exact ih a i (dH j) v ((d y u.symm i).1 q)
   ·have I:decide (((c.toNat:Nat):Int)>y)=up↔ft up y ((c.toNat:Nat):Int):=by
     cases up
     ·simp only[tK,ft];omega
     ·simp only[ch,ft];omega
    by_cases G:decide (((c.toNat:Nat):Int)>y)=up
    ·simp only[nx,ab g,ab k,ae G];refine⟨by simp[t],λz s=>?_,by simp[jE,yf],(o u.symm t x B (λh=>k h.symm)).2 (I.1 G),λe A j p q=>?_⟩
     ·rcases cb.1 s with rfl | s
      ·exact V
      ·exact B z s
     ·obtain⟨w,a,rfl,i⟩:=f e A;obtain⟨rfl,v⟩:=F w a p;exact(d _ t i).2 (Br up (sF K) i.symm (dH j) v)
    ·simp only[nx,ab g,ab k,ab G];intro e A j p q;obtain⟨w,a,rfl,i⟩:=f e A;obtain⟨rfl,v⟩:=F w a p;exact G (I.2 ((o u.symm i x (dH j) (λh=>k h.symm)).1 q))
 | [],_::_,_,h,_=>by simp at h
 | _::_,[],_,h,_=>by simp at h
def ap:aa->List Int->Nat
 | c::m,y::l=>if c=88\/((c.toNat:Nat):Int)=y then ap m l+1 else 0
 | _,_=>0
def WV:∀(m:aa) (l:List Int),ap m l<=m.length
 | [],_=>by simp[ap]
 | c::m,[]=>by simp[ap]
 | c::m,y::l=>by
  have:=WV m l;simp only[ap,aG];split<;>omega
def Oj:∀(m:aa) (l:List Int),jE (m.take (ap m l)) (l.take (ap m l))=true
 | [],_=>by simp[ap,jE]
 | c::m,[]=>by simp[ap,jE]
 | c::m,y::l=>by
  have:=Oj m l;simp only[ap];split
  ·rename_i h;simp only[mU,jE,this,Dc,iq,bL,ch];exact h
  ·rfl
def Of:∀{m:aa} {l:List Int} {c:UInt8} {y:Int},m[ap m l]?=some c->l[ap m l]?=some y->¬c=88/\¬((c.toNat:Nat):Int)=y
 | [],_,c,y,h,_=>by simp at h
 | x::m,[],c,y,_,h=>by simp at h
 | x::m,z::l,c,y,b,a=>by
  by_cases h:x=88\/((x.toNat:Nat):Int)=z
  ·simp only[ap,ae h,iO9]at b a;exact Of b a
  ·simp only[ap,ab h,lF,aq]at b a;subst b a;exact⟨λe=>h (.inl e),λe=>h (.inr e)⟩
def bkn(up:Bool):aa->List Int->aa->Option (List Int)
 | c::m,y::d,m'=>
  match bkn up m d m' with
  | some r=>some (y::r)
  | none=>if c=88/\y≠lst up then some (stp up y::fil up (m++m'))else none
 | _,_,_=>none
def Dk(up:Bool):∀{m m':aa} {d d':List Int},m.length=d.length->jE m d=true->
  nx up (m++m') (d++d')=match nx up m' d' with | some r=>some (d++r) | none=>bkn up m d m'
 | [],m',[],d',_,_=>by
  simp only[dO];cases nx up m' d'<;>rfl
 | c::m,m',y::d,d',e,b=>by
  simp only[aG,yZ]at e;simp only[jE,aB,iq,bL,ch]at b;have ih:=Dk up (m':=m') (d':=d') e b.2;simp only[fi,nx,ih,bkn];by_cases a:c=88
  ·simp only[ae a];cases nx up m' d' with
   | some r=>rfl
   | none=>
    cases bkn up m d m' with
    | some r=>rfl
    | none=>
     by_cases hy:y=lst up
     ·simp[hy]
     ·simp[hy,a]
  ·simp only[ab a,ae (b.1.resolve_left a)];cases nx up m' d' with
   | some r=>rfl
   | none=>
    cases bkn up m d m' with
    | some r=>rfl
    | none=>simp[a]
 | [],_,_::_,_,h,_=>by simp at h
 | _::_,_,[],_,h,_=>by simp at h
def IF(up:Bool)(c:UInt8)(y:Int):∀{m m':aa} {d:List Int},m.length=d.length->
  bkn up (m++[c]) (d++[y]) m'=if c=88/\y≠lst up then some (d++stp up y::fil up m')else bkn up m d (c::m')
 | [],m',[],_=>by simp[bkn]
 | x::m,m',z::d,a=>by
  simp only[aG,yZ]at a;have ih:=IF up c y (m':=m') a;simp only[fi,bkn,ih];by_cases h:c=88/\y≠lst up
  ·simp only[ae h]
  ·simp only[ab h,f8,fi,dO]
 | [],_,_::_,h=>by simp at h
 | _::_,_,[],h=>by simp at h
def bki(up:Bool)(m:aa)(l:List Int):Nat->Option Nat
 | 0=>none
 | j+1=>if m[j]?=some 88/\l[j]?≠some (lst up)then some j else bki up m l j
def Tc(up:Bool)(m:aa)(l:List Int):∀{j a:Nat},bki up m l j=some a->a<j
 | 0,a,h=>by simp[bki]at h
 | j+1,a,h=>by
  simp only[bki]at h;split at h
  ·simp only[aq]at h;omega
  ·have:=Tc up m l h;omega
def Il(up:Bool)(m:aa)(l:List Int)(hl:m.length=l.length):∀j,j<=m.length->
  bkn up (m.take j) (l.take j) (m.drop j)=(bki up m l j).map λa=>l.take a++stp up (l.getD a 0)::fil up (m.drop (a+1))
 | 0,_=>by simp[bkn,bki]
 | j+1,h=>by
  obtain⟨c,hc⟩:∃c,m[j]?=some c:=⟨m[j]'(by omega),bu (by omega)⟩;obtain⟨y,hy⟩:∃c,l[j]?=some c:=⟨l[j]'(by omega),bu (by omega)⟩;have ih:=Il up m l hl j (by omega);rw[gm hc]at ih;rw[qX,qX,hc,hy];simp only[Option.toList_some];rw[IF up c y (by simp;omega),ih];have hg:l.getD j 0=y:=by rw[Ht,hy];rfl
  simp only[bki,hc,hy,ne_eq,aq];by_cases hh:c=88/\¬y=lst up
  ·rw[ae hh,ae hh,fh,hg]
  ·rw[ab hh,ab hh]
section
variable {m:List UInt8} {l z:List Int}
def mN(hl:m.length=l.length)(h18:m.length<=18)(k f g:Int)(up:Bool):
  av (fW 20000000) 20000000 (m,k,up,f,g,0,over z 0 l,over z 0 l)=some (m,k,up,f,g,((ap m l:Nat):Int),over z 0 l,over z 0 l):=by
 have:=gy (step:=fW 20000000) (λx=>x.1=m/\(0<=x.2.2.2.2.2.1/\x.2.2.2.2.2.1<=m.length)/\x.2.2.2.2.2.2.1=over z 0 l) (λx=>m.length - x.2.2.2.2.2.1.toNat)
  (λx=>(x.1,x.2.1,x.2.2.1,x.2.2.2.1,x.2.2.2.2.1,x.2.2.2.2.2.1+((ap (m.drop x.2.2.2.2.2.1.toNat) (l.drop x.2.2.2.2.2.1.toNat):Nat):Int),x.2.2.2.2.2.2.1,x.2.2.2.2.2.2.2)) ?_ 20000000 (m,k,up,f,g,0,over z 0 l,over z 0 l) ⟨rfl,⟨by simp,by simp⟩,rfl⟩ (by simp;omega)
 ·simpa using this
 rintro⟨m',k,up,f,g,i,d,o⟩ ⟨q1,⟨h0,hi⟩,q2⟩;simp only at q1 h0 hi q2 ⊢;subst q1 q2;obtain⟨j,rfl⟩:∃j:Nat,i=j:=⟨i.toNat,by omega⟩;simp only[bX];rcases aJ j m'.length with hlt | hge
 ·obtain⟨c,hc⟩:∃c,m'[j]?=some c:=⟨m'[j],bu hlt⟩;obtain⟨y,hy⟩:∃c,l[j]?=some c:=⟨l[j]'(by omega),bu (by omega)⟩;have hg:(over z 0 l)[j]?=some y:=by rw[wd (by omega)];exact hy
  have hb:(decide ((j:Int)<((List.length m':Nat):Int)))=true:=by simp;omega
  have hw:wrap .i64 ((j:Int)+1)=((j+1:Nat):Int):=by rw[wrap_i64 _ (by omega) (by omega)];omega
  rw[gm hc,gm hy];simp only[fW,hb,aj,lj hc,ob,AI,hw,cT (show j<18 by omega),hg,ap];by_cases h88:c=88
  ·refine .inl ⟨(m',k,up,f,g,((j+1:Nat):Int),over z 0 l,o),by simp only[ar h88,aj],⟨rfl,⟨by simp only;omega,by simp only;omega⟩,rfl⟩,by simp only[bX];omega,?_⟩;simp only[bX,ae (show c=88\/((c.toNat:Nat):Int)=y from .inl h88)];congr 6;omega
  ·simp only[au h88,af];by_cases hcy:((c.toNat:Nat):Int)=y
   ·have e:(((c.toNat:Nat):Int)==y)=true:=by simpa using hcy
    refine .inl ⟨(m',k,up,f,g,((j+1:Nat):Int),over z 0 l,o),by simp only[e,aj],⟨rfl,⟨by simp only;omega,by simp only;omega⟩,rfl⟩,by simp only[bX];omega,?_⟩;simp only[bX,ae (show c=88\/((c.toNat:Nat):Int)=y from .inr hcy)];congr 6;omega
   ·have e:(((c.toNat:Nat):Int)==y)=false:=by simpa using hcy
    refine .inr ?_;simp only[e,af,ab (show¬(c=88\/((c.toNat:Nat):Int)=y)fromλh=>h.elim h88 hcy),Int.ofNat_zero,Int.add_zero,Int.natCast_zero]
 ·have hb:(decide ((j:Int)<((List.length m':Nat):Int)))=false:=by simp;omega
  refine .inr ?_;simp only[fW,hb,af];rw[mB hge];simp[ap]
def Na(hl:m.length=l.length)(h18:m.length<=18)(f:Int)(up:Bool)(o:List Int)(i:Nat)(hi:i<=m.length):
  av (cJ 20000000) 20000000 (m,up,f,lst up,(i:Int),over z 0 l,o) =
   some (match bki up m l i with | none=>.inl (0,16) | some a=>.inr (m,up,f,((a:Nat):Int),o)):=by
 have:=gy (step:=cJ 20000000) (λx=>x.1=m/\x.2.2.2.1=lst up/\(0<=x.2.2.2.2.1/\x.2.2.2.2.1<=m.length)/\x.2.2.2.2.2.1=over z 0 l) (λx=>x.2.2.2.2.1.toNat)
  (λx=>match bki up m l x.2.2.2.2.1.toNat with | none=>.inl (0,16) | some a=>.inr (x.1,x.2.1,x.2.2.1,((a:Nat):Int),x.2.2.2.2.2.2)) ?_ 20000000 (m,up,f,lst up,(i:Int),over z 0 l,o) ⟨rfl,rfl,⟨by simp only;omega,by simp only;omega⟩,rfl⟩ (by simp;omega)
 ·simpa using this
 rintro⟨m',up',f,g,i,d,o⟩ ⟨q1,q3,⟨h0,hi⟩,q2⟩;simp only at q1 q3 h0 hi q2 ⊢;subst q1 q2 q3;obtain⟨j,rfl⟩:∃j:Nat,i=j:=⟨i.toNat,by omega⟩;simp only[bX];rcases j with _ | j
 ·refine .inr ?_;have w:wrap .i64 (((0:Nat):Int) - 1)=-1:=wrap_i64 _ (by omega) (by omega);simp only[cJ,w,show decide ((-1:Int)<0)=true from rfl,aj,bki]
 ·have w:wrap .i64 (((j+1:Nat):Int) - 1)=(j:Int):=by rw[wrap_i64 _ (by omega) (by omega)];omega
  have e0:decide ((j:Int)<0)=false:=by simp
  obtain⟨c,hc⟩:∃c,m'[j]?=some c:=⟨m'[j]'(by omega),bu (by omega)⟩;obtain⟨y,hy⟩:∃c,l[j]?=some c:=⟨l[j]'(by omega),bu (by omega)⟩;have hg:(over z 0 l)[j]?=some y:=by rw[wd (by omega)];exact hy
  simp only[cJ,w,e0,af,lj hc,ob,AI,cT (show j<18 by omega),hg,bki,hc,hy,aq,ne_eq];by_cases h88:c=88
  ·by_cases hy9:y=lst up
   ·have e:(y != lst up)=false:=by simpa using hy9
    refine .inl ⟨(m',up',f,lst up,(j:Int),over z 0 l,o),by simp only[ar h88,aj,e,af],⟨rfl,rfl,⟨by simp only;omega,by simp only;omega⟩,rfl⟩,by simp only[bX];omega,?_⟩;simp only[bX,ab (show¬(c=88/\¬y=lst up)fromλh=>h.2 hy9)]
   ·have e:(y != lst up)=true:=by simpa using hy9
    refine .inr ?_;simp only[ar h88,aj,e,ae (show c=88/\¬y=lst up from⟨h88,hy9⟩)]
  ·refine .inl ⟨(m',up',f,lst up,(j:Int),over z 0 l,o),by simp only[au h88,af],⟨rfl,rfl,⟨by simp only;omega,by simp only;omega⟩,rfl⟩,by simp only[bX];omega,?_⟩;simp only[bX,ab (show¬(c=88/\¬y=lst up)fromλh=>h88 h.1)]
def EE(s:m.length<=18)(up:Bool)(d:List Int)(e:d.length=18)(i:Nat)(hi:i<=m.length):
  av (bA 20000000) 20000000 (m,fst up,(i:Int),d)=some (m,over d i (fil up (m.drop i))):=by
 have:=gy (step:=bA 20000000) (λx=>x.1=m/\x.2.1=fst up/\(0<=x.2.2.1/\x.2.2.1<=m.length)/\x.2.2.2.length=18) (λx=>m.length - x.2.2.1.toNat)
  (λx=>(m,over x.2.2.2 x.2.2.1.toNat (fil up (m.drop x.2.2.1.toNat)))) ?_ 20000000 (m,fst up,(i:Int),d) ⟨rfl,rfl,⟨by simp only;omega,by simp only;omega⟩,e⟩ (by simp;omega)
 ·simpa using this
 rintro⟨m',f,i,d⟩ ⟨o,l,⟨r,hi⟩,e⟩;simp only at o l r hi e ⊢;subst o l;obtain⟨j,rfl⟩:∃j:Nat,i=j:=⟨i.toNat,by omega⟩;simp only[bX];rcases aJ j m'.length with k | h
 ·obtain⟨c,hc⟩:∃c,m'[j]?=some c:=⟨m'[j],bu k⟩;have n:j<18:=by omega
  have g:(decide ((j:Int)<((List.length m':Nat):Int)))=true:=by simp;omega
  have q:wrap .i64 ((j:Int)+1)=((j+1:Nat):Int):=by rw[wrap_i64 _ (by omega) (by omega)];omega
  have p:Nat.blt j 18=true:=cD n;have b:∀c:UInt8,fil up (c::m'.drop (j+1))=(cond (decide (c=88)) (fst up) ((c.toNat:Nat):Int))::fil up (m'.drop (j+1)):=λ_=>rfl;rw[gm hc,b];simp only[bA,g,aj,lj hc,ob,AI,cT n,p,q];by_cases a:c=88
  ·refine .inl ⟨(m',fst up,((j+1:Nat):Int),(d.set j ((c.toNat:Nat):Int)).set j (fst up)),by simp only[ar a,aj],⟨rfl,rfl,⟨by simp only;omega,by simp only;omega⟩,by simpa using e⟩,by simp only[bX];omega,?_⟩;simp only[bX,ar a,aj];rw[List.set_set,CZ _ _ _ _ (by omega)]
  ·refine .inl ⟨(m',fst up,((j+1:Nat):Int),d.set j ((c.toNat:Nat):Int)),by simp only[au a,af],⟨rfl,rfl,⟨by simp only;omega,by simp only;omega⟩,by simpa using e⟩,by simp only[bX];omega,?_⟩;simp only[bX,au a,af];rw[CZ _ _ _ _ (by omega)]
 ·have g:(decide ((j:Int)<((List.length m':Nat):Int)))=false:=by simp;omega
  refine .inr ?_;simp only[bA,g,af];rw[mB h];simp[fil,HM]
def EP(z l F:List Int)(i:Nat)(h:i+F.length=l.length):over (over z 0 l) i F=over z 0 (l.take i++F):=by
 unfold over;simp only[mV,dO,cK,aZ,dA,ta (show i<=l.length by omega),h];rw[uS (by omega),List.drop_append_of_le_length (by omega),List.drop_of_length_le (aU l.length)];simp
end
def Og{m:aa}(hm:chk m=0)(up:Bool)(k:Int)(h0:0<=k)(h1:k<10 ^ m.length):
  dF 20000000 m k up=some (match nx up m (dg m.length k)with | some r=>(vl r,0) | none=>(0,16)):=by
 obtain⟨h18,_,hok⟩:=nZ hm;have hp:=Fg m.length h18;have hlen:=xP m.length k;have hrng:=tZ m.length k;have hv:=QC m.length k h0 h1;have hn:=US up hok hlen.symm hrng;have hsplit:=PZ m k h18 h0 (by omega);generalize dg m.length k=l at hlen hrng hv hn hsplit ⊢;have hout:(over [0,0,0,0,0,0,0,0,0,0,0,0,0,0,0,0,0,0] 0 l).length=18:=by rw[Qb _ _ _ (by simp;omega)];rfl
 have fin:∀r:List Int,nx up m l=some r->gC 20000000 m (over [0,0,0,0,0,0,0,0,0,0,0,0,0,0,0,0,0,0] 0 r)=some (vl r):=by
  intro r hr;rw[hr]at hn;obtain⟨i1,i2,_⟩:=hn;rw[PU _ h18 i1 i2,BU i2]
 have hap:=WV m l;have hagr:=Oj m l;have happ:=Dk up (m:=m.take (ap m l)) (m':=m.drop (ap m l)) (d:=l.take (ap m l)) (d':=l.drop (ap m l)) (by simp;omega) hagr;rw[tN,tN]at happ;have hz0:lS 20000000 m k=some (over [0,0,0,0,0,0,0,0,0,0,0,0,0,0,0,0,0,0] 0 l):=hsplit;generalize hzz:([0,0,0,0,0,0,0,0,0,0,0,0,0,0,0,0,0,0]:List Int)=z at hout fin hz0;rcases aJ (ap m l) m.length with hlt | hge
 ·obtain⟨c,hc⟩:∃c,m[ap m l]?=some c:=⟨m[ap m l],bu hlt⟩;obtain⟨y,hy⟩:∃c,l[ap m l]?=some c:=⟨l[ap m l]'(by omega),bu (by omega)⟩;obtain⟨h88,hcy⟩:=Of hc hy;have hg:(over z 0 l)[ap m l]?=some y:=by rw[wd (by omega)];exact hy
  have eL:(((ap m l:Nat):Int)==((List.length m:Nat):Int))=false:=by simp;omega
  have hj:ap m l<18:=by omega
  have hfc:fil up (m.drop (ap m l))=((c.toNat:Nat):Int)::fil up (m.drop (ap m l+1)):=by
   rw[gm hc];simp[fil,h88]
  have hbk:=Il up m l hlen.symm (ap m l) hap;have hnx:nx up (m.drop (ap m l)) (l.drop (ap m l))=if decide (((c.toNat:Nat):Int)>y)=up then some (fil up (m.drop (ap m l)))else none:=by
   rw[hfc,gm hc,gm hy];simp only[nx,ab h88,ab hcy]
  rw[hnx]at happ;by_cases hup:decide (((c.toNat:Nat):Int)>y)=up
  ·rw[ae hup]at happ;simp only at happ;have f2:=fin _ happ;rw[happ];simp only[];rw[<-EP z l _ _ (by rw[CN,ci];omega)]at f2;have l2:=EE h18 up _ hout (ap m l) hap;cases up
   ·have l0:=mN (z:=z) hlen.symm h18 k 57 48 false;have l2':av (bA 20000000) 20000000 (m,57,((ap m l:Nat):Int),over z 0 l)=_:=l2;simp only[dF,kL,aj,hz0,ob,l0,eL,af,lj hc,cT hj,hg,hup,tQ,dL,l2',f2]
   ·have l0:=mN (z:=z) hlen.symm h18 k 48 57 true;have l2':av (bA 20000000) 20000000 (m,48,((ap m l:Nat):Int),over z 0 l)=_:=l2;simp only[dF,dL,aj,hz0,ob,l0,eL,af,lj hc,cT hj,hg,hup,tQ,l2',f2]
  ·rw[ab hup]at happ;simp only[hbk]at happ;have hne:(!(decide (((c.toNat:Nat):Int)>y)==up))=true:=by
    cases up<;>cases hh:decide (((c.toNat:Nat):Int)>y)<;>simp_all
   have l1:=Na (z:=z) hlen.symm h18 (fst up) up (over z 0 l) (ap m l) hap;cases hb:bki up m l (ap m l)with
   | none=>
    rw[hb]at happ l1;simp only[jb]at happ;rw[happ];simp only[]at l1 ⊢;cases up
    ·have l0:=mN (z:=z) hlen.symm h18 k 57 48 false;have l1':av (cJ 20000000) 20000000 (m,false,57,48,((ap m l:Nat):Int),over z 0 l,over z 0 l)=_:=l1;simp only[dF,kL,aj,hz0,ob,l0,eL,af,lj hc,cT hj,hg,hne,l1']
    ·have l0:=mN (z:=z) hlen.symm h18 k 48 57 true;have l1':av (cJ 20000000) 20000000 (m,true,48,57,((ap m l:Nat):Int),over z 0 l,over z 0 l)=_:=l1;simp only[dF,dL,aj,hz0,ob,l0,eL,af,lj hc,cT hj,hg,hne,l1']
   | some a=>
    have ha:=Tc up m l hb;obtain⟨w,hw⟩:∃c,l[a]?=some c:=⟨l[a]'(by omega),bu (by omega)⟩;have hga:(over z 0 l)[a]?=some w:=by rw[wd (by omega)];exact hw
    have hgd:l.getD a 0=w:=by rw[Ht,hw];rfl
    have hwr:=hrng w (fk hw);have haj:a<18:=by omega
    have e2:Nat.blt a 18=true:=cD haj;have w1:wrap .i64 ((a:Int)+1)=((a+1:Nat):Int):=by rw[wrap_i64 _ (by omega) (by omega)];omega
    rw[hb]at happ l1;simp only[fh,hgd]at happ;have f2:=fin _ happ;rw[happ];simp only[]at l1 ⊢;rw[<-EP z l _ _ (by rw[aG,CN,ci];omega),<-CZ _ _ _ _ (by omega)]at f2;have l2:=EE h18 up ((over z 0 l).set a (stp up w)) (by simpa using hout) (a+1) (by omega);cases up
    ·have l0:=mN (z:=z) hlen.symm h18 k 57 48 false;have l1':av (cJ 20000000) 20000000 (m,false,57,48,((ap m l:Nat):Int),over z 0 l,over z 0 l)=some (.inr (m,false,57,((a:Nat):Int),over z 0 l)):=l1;have l2':av (bA 20000000) 20000000 (m,57,((a+1:Nat):Int),(over z 0 l).set a (w - 1))=_:=l2;have w2:wrap .u8 (w - 1)=w - 1:=gK _ (by omega) (by omega);simp only[dF,kL,aj,hz0,ob,l0,eL,af,lj hc,cT hj,hg,hne,l1',cT haj,hga,e2,w1,w2,l2',f2]
    ·have l0:=mN (z:=z) hlen.symm h18 k 48 57 true;have l1':av (cJ 20000000) 20000000 (m,true,48,57,((ap m l:Nat):Int),over z 0 l,over z 0 l)=some (.inr (m,true,48,((a:Nat):Int),over z 0 l)):=l1;have l2':av (bA 20000000) 20000000 (m,48,((a+1:Nat):Int),(over z 0 l).set a (w+1))=_:=l2;have w2:wrap .u8 (w+1)=w+1:=gK _ (by omega) (by omega);simp only[dF,dL,aj,hz0,ob,l0,eL,af,lj hc,cT hj,hg,hne,l1',cT haj,hga,e2,w1,w2,l2',f2]
 ·have e:ap m l=m.length:=by omega
  rw[e,xe,<-hlen,xe,oV]at happ;simp only[nx,lH]at happ;have eL:(((ap m l:Nat):Int)==((List.length m:Nat):Int))=true:=by rw[e];simp
  rw[happ];simp only[hv];cases up
  ·have l0:=mN (z:=z) hlen.symm h18 k 57 48 false;simp only[dF,kL,aj,hz0,ob,l0,eL]
  ·have l0:=mN (z:=z) hlen.symm h18 k 48 57 true;simp only[dF,dL,af,hz0,ob,l0,eL,aj]
def near(up:Bool)(m:aa)(k:Int):Option Int->Prop
 | some R=>hasM m R=true/\ft up k R/\∀e,hasM m e=true->ft up k e->ft up R e
 | none=>∀e,hasM m e=true->¬ft up k e
def res(o:Option Int):Int×Int:=match o with | some r=>(r,0) | none=>(0,16)
def oY{m:aa}{e:Int}(h:hasM m e=true):(dg m.length e).length=m.length/\digl (dg m.length e)/\jE m (dg m.length e)=true/\vl (dg m.length e)=e/\0<=e/\e<10 ^ m.length:=by
 unfold hasM at h;simp only[aB,ch]at h;exact⟨xP _ _,tZ _ _,h.2.2,QC _ _ h.1 h.2.1,h.1,h.2.1⟩
def Ul{m:aa}{r:List Int}(d:r.length=m.length)(b:digl r)(e:jE m r=true):hasM m (vl r)=true:=by
 have a:=wb b;have c:=Y8 b;rw[d]at a c;unfold hasM;rw[c,e,ar a.1,ar a.2];rfl
def yS{m:aa}(q:chk m=0)(up:Bool)(k:Int)(p:0<=k)(n:k<10 ^ m.length):∃o,dF 20000000 m k up=some (res o)/\near up m k o:=by
 obtain⟨v,_,h⟩:=nZ q;have b:=US up h (xP m.length k).symm (tZ m.length k);have g:=QC m.length k p n;refine⟨(nx up m (dg m.length k)).map vl,?_,?_⟩
 ·rw[Og q up k p n];cases nx up m (dg m.length k)<;>rfl
 ·cases hx:nx up m (dg m.length k)with
  | none=>
   rw[hx]at b;intro e j c;obtain⟨f,d,i,a,_⟩:=oY j;exact b _ f d i (by rw[g,a];exact c)
  | some r=>
   rw[hx]at b;obtain⟨t,s,w,l,u⟩:=b;refine⟨Ul t s w,by rw[g]at l;exact l,λe j c=>?_⟩;obtain⟨f,d,i,a,_⟩:=oY j;have:=u _ f d i (by rw[g,a];exact c);rwa[a]at this
def I6{m:aa}{e:Int}(h:hasM m e=true):0<=idx m.reverse e/\idx m.reverse e<10 ^ cnt m/\nth m.reverse (idx m.reverse e)=e:=by
 rw[FX]at h;simp only[aB,ch]at h;obtain⟨k0,k1,k2⟩:=h;have:=xF m.reverse e k0;rw[tR]at this;exact⟨this.1,this.2,NJ k0 (by rw[uT];exact k1) k2⟩
section
variable {m:List UInt8} (hm:chk m=0)
include hm
def MN{i j:Int}(d:0<=i)(c:i<=j)(b:j<10 ^ cnt m):nth m.reverse i<=nth m.reverse j:=by
 obtain⟨e,_,a⟩:=nZ hm;rcases Int.lt_or_eq_of_le c with h | rfl
 ·exact Int.le_of_lt (CX (zO a) i j d h (by rw[tR];exact b))
 ·exact sQ _
def Da(k:Int):mC 20000000 m k=some (decide (0<=k/\k<10 ^ m.length)):=by
 obtain⟨b,_,c⟩:=nZ hm;simp only[mC,Qy m.length b,ob];by_cases a:0<=k
 ·have d0:decide (k>=0)=true:=by simpa using a
  simp only[d0,aj,a,kz,o6]
 ·have d0:decide (k>=0)=false:=by simpa using a
  simp only[d0,af,a,yv,og]
def LG(k:Int):∃o,sa 20000000 m k=some (res o)/\near true m k o:=by
 obtain⟨q,_,b⟩:=nZ hm;have p:((0:Int) != 0)=false:=by simp
 simp only[sa,mg 20000000 m (by omega),hm,mZ,p,af,Da hm];by_cases c:k<0
 ·refine⟨some (nth m.reverse 0),by simp only[ar c,aj,Rj hm,mZ,res],HB hm (by omega),?_,λe d f=>?_⟩
  ·have:=(rh (zO b) 0 (by omega)).1;simp only[ft];omega
  ·obtain⟨l,j,r⟩:=I6 d;have:=MN hm (sQ 0) l j;simp only[ft];omega
 ·by_cases a:k<10 ^ m.length
  ·obtain⟨o,g,n⟩:=yS hm true k (by omega) a;exact⟨o,by simp only[au c,af,ar (show 0<=k/\k<10 ^ m.length from⟨by omega,a⟩),dL,g,mZ],n⟩
  ·refine⟨none,by simp only[au c,af,au (show¬(0<=k/\k<10 ^ m.length)fromλh=>a h.2),kL,aj,res],λe d f=>?_⟩;obtain⟨_,_,_,_,_,i⟩:=oY d;simp only[ft]at f;omega
def K8(k:Int):∃o,sA 20000000 m k=some (res o)/\near false m k o:=by
 obtain⟨q,_,b⟩:=nZ hm;have p:((0:Int) != 0)=false:=by simp
 simp only[sA,mg 20000000 m (by omega),hm,mZ,p,af,Da hm];by_cases c:k<0
 ·refine⟨none,by simp only[ar c,aj,res],λe d f=>?_⟩;obtain⟨_,_,_,_,i,_⟩:=oY d;simp only[ft]at f;omega
 ·by_cases a:k<10 ^ m.length
  ·obtain⟨o,g,n⟩:=yS hm false k (by omega) a;exact⟨o,by simp only[au c,af,ar (show 0<=k/\k<10 ^ m.length from⟨by omega,a⟩),dL,g,mZ],n⟩
  ·have j:=uE (cnt m);refine⟨some (nth m.reverse (10 ^ cnt m - 1)),by simp only[au c,af,au (show¬(0<=k/\k<10 ^ m.length)fromλh=>a h.2),kL,aj,G4 hm,mZ,res],HB hm (by omega),?_,λe d f=>?_⟩
   ·have:=(rh (zO b) (10 ^ cnt m - 1) (by omega)).2;rw[uT]at this;simp only[ft];omega
   ·obtain⟨l,s,r⟩:=I6 d;have:=MN hm l (show idx m.reverse e<=10 ^ cnt m - 1 by omega) (by omega);simp only[ft];omega
end
end Go.Sh.Mk
namespace Go.Sh
open Go.Abs
def fitN(s:aa)(g:Nat):List Nat:=(List.range' 1 g).filter (agr s)
def uK(l:List Nat):List Int:=l.map λk:Nat=>(k:Int)
def Ei(l:List Nat):(uK l).length=l.length:=by simp[uK]
def EF(c:UInt8){j:Nat}(b:j<10):(wrap .i64 (wrap .u8 (((c.toNat:Nat):Int) - 48))==((j:Nat):Int))=(c==UInt8.ofNat (48+j)):=by
 have hc:=c.toNat_lt;have d:=AK (((c.toNat:Nat):Int) - 48);rw[wrap_i64 _ (by omega) (by omega),JI,vG,bL,bL];have a:(UInt8.ofNat (48+j)).toNat=48+j:=by simp;omega
 constructor
 ·intro h;apply iE.1;omega
 ·rintro rfl;omega
def Pi(n:Nat)(a b:UInt8){k:Nat}(l:k<=31):kY n [a,b] (k:Int)=some (agr [a,b] k):=by
 have e:wrap .i64 (Int.tdiv (k:Int) 10)=((k / 10:Nat):Int):=by
  rw[show Int.tdiv (k:Int) 10=((k / 10:Nat):Int)from rfl,wrap_i64 _ (by omega) (by omega)]
 have d:Int.tmod (k:Int) 10=((k%10:Nat):Int):=rfl;have s0:sx [a,b] 0=some a:=rfl;have g:sx [a,b] 1=some b:=rfl;have c:(88:Int)=((88:Nat):Int):=rfl;unfold kY;simp only[s0,g,ob,e,d];rw[EF a (show k / 10<10 by omega),EF b (show k%10<10 by omega),c,vB (by omega),vB (by omega)];show _=some ((a==UInt8.ofNat 88||a==UInt8.ofNat (48+k / 10))&&(b==UInt8.ofNat 88||b==UInt8.ofNat (48+k%10)));generalize(a==UInt8.ofNat 88)=h;generalize(b==UInt8.ofNat 88)=j;generalize(a==UInt8.ofNat (48+k / 10))=i;generalize(b==UInt8.ofNat (48+k%10))=f;cases h<;>cases j<;>cases i<;>cases f<;>rfl
def room{k:Nat}(h:k<=60000000):Nat.ble (k+1) bJ=true:=cD (by unfold bJ;omega)
def Jn{X Y:Type}{step:X->Option (X⊕Y)}{f:Nat->List Int->X}{y:List Int->Y}{p:Nat->Bool}{g:Nat}(e:g<=1000)
  (h:∀i out,i<g->out.length<=1000->step (f i out)=some (.inl (f (i+1) (if p (i+1)then out++[((i+1:Nat):Int)]else out))))
  (b:∀out,step (f g out)=some (.inr (y out))) {N:Nat} (a:g<N):av step N (f 0 [])=some (y (uK ((List.range' 1 g).filter p))):=by
 have c:∀(r i:Nat) (out:List Int),i+r=g->out.length<=i->∀N,r<N->av step N (f i out)=some (y (out++uK ((List.range' (i+1) r).filter p))):=by
  intro r
  induction r with
  | zero=>
   intro i out hi d N a;obtain⟨N,rfl⟩:∃q,N=q+1:=⟨N - 1,by omega⟩;obtain rfl:i=g:=by omega
   rw[av,b];simp[uK]
  | succ r ih=>
   intro i out hi d N a;obtain⟨N,rfl⟩:∃q,N=q+1:=⟨N - 1,by omega⟩;rw[av,h i out (by omega) (by omega)];show av step N _=_;by_cases hp:p (i+1)=true
   ·rw[ae hp,ih (i+1) _ (by omega) (by simp;omega) N (by omega),xa,SG hp];simp[uK]
   ·rw[ab hp,ih (i+1) _ (by omega) (by omega) N (by omega),xa,RV hp]
 have:=c g 0 [] (by omega) (by simp) N a;simpa using this
def KO (n:Nat) (e:100<n) (a b:UInt8) {g:Nat} (h:g<=31):fE n [a,b] (g:Int)=some (uK (fitN [a,b] g)):=by
 unfold fE
 have:=Jn (step:=gg n) (f:=λi out=>([a,b],(g:Int),(i:Int),out)) (y:=λl=>l) (p:=agr [a,b]) (g:=g) (by omega)
  (λi out hi j=>by
   have d:wrap .i64 ((i:Int)+1)=((i+1:Nat):Int):=by rw [wrap_i64 _ (by omega) (by omega)];omega
   unfold gg;simp only [d];rw [ar (show (i:Int)<(g:Int) by omega),Pi n a b (by omega),room (by omega)];by_cases hp:agr [a,b] (i+1)=true
   ·rw [ae hp];simp only [ob,hp,aj]
   ·rw [ab hp];rw [Hk] at hp;simp only [ob,hp,aj,af])
  (λout=>by
   unfold gg;simp only [au (show ¬(g:Int)<(g:Int) by omega),af])
  (N:=n) (by omega)
 have c:av (gg n) n ([a,b],(g:Int),0,([]:List Int))=_:=this;rw [c];rfl
def monI(m:aa):List Int:=if m=[]then[0]else if 0<sea m then[sea m]else uK (fitN m 12)
def dayI(d:aa):List Int:=if d=[]then[0]else uK (fitN d 31)
def gf{l:aa}(h:l≠[]):(l==([]:aa))=false:=aK.2 h
def len2{s:aa}(h:s.length=2):∃a b,s=[a,b]:=by
 match s,h with
 | [a,b],_=>exact⟨a,b,rfl⟩
def YQ(n:Nat)(j:100<n)(g l:Bool)(dg:aa)(x q:Int)(m d:aa)(k0 k1 k2:Int)(k:m=[]\/m.length=2)(o:d=[]\/d.length=2):
  n9 n g l dg x q m d k0 k1 k2=some (g,l,dg,x,q,m,d,k0,k1,k2,monI m,dayI d):=by
 have i:m.length<=18:=by rcases k with h | h;(rw[h];simp);omega
 have f:d≠[]->fE n d 31=some (dayI d):=λh=>by
  obtain⟨a,b,rfl⟩:=len2 (o.resolve_left h);rw[show(31:Int)=((31:Nat):Int)from rfl,KO n j a b (by omega)];unfold dayI;rw[ab h]
 have e:d=[]->dayI d=[0]:=λh=>by unfold dayI;rw[ae h]
 have p:m≠[]->¬0<sea m->fE n m 12=some (monI m):=λh hs=>by
  obtain⟨a,b,rfl⟩:=len2 (k.resolve_left h);rw[show(12:Int)=((12:Nat):Int)from rfl,KO n j a b (by omega)];unfold monI;rw[ab h,ab hs]
 unfold n9;rw[o8 n g l dg x q m d k0 k1 k2 i];simp only[ob];by_cases hs:0<sea m
 ·have c:m≠[]:=by rintro rfl;exact absurd hs (by decide)
  have hm':monI m=[sea m]:=by unfold monI;rw[ab c,ae hs]
  rw[ar hs];by_cases h:d=[]
  ·rw[h,<-h,e h,hm',h];rfl
  ·rw[gf h,f h,hm'];rfl
 ·rw[au hs];by_cases c:m=[]
  ·have hm':monI m=[0]:=by unfold monI;rw[ae c]
   by_cases h:d=[]
   ·rw[e h,hm',h,c];rfl
   ·rw[gf h,f h,hm',c];rfl
  ·rw[gf c,p c hs];by_cases h:d=[]
   ·rw[e h,h];rfl
   ·rw[gf h,f h];rfl
def Jq (n:Nat) (c:100<n) (g l:Bool) (dg:aa) (x q:Int) (m d:aa) (k0 k1 k2:Int):jI n g l dg x q m d k0 k1 k2=some (monI m):=by
 unfold jI;by_cases a:m=[]
 ·unfold monI;rw [ae a,a];rfl
 ·rw [gf a,nK n c];simp only [ob,af];unfold monI;rw [ab a];by_cases hs:0<sea m
  ·rw [ae hs,ar (show sea m>0 from hs)];rfl
  ·rw [ab hs,au (show ¬sea m>0 from hs)]
   have:=Jn (step:=ef n) (f:=λi out=>(((i+1:Nat):Int),g,l,dg,x,q,m,d,k0,k1,k2,out)) (y:=λl=>l) (p:=agr m) (g:=12) (by omega)
    (λi out hi h=>by
     have e:wrap .i64 (((i+1:Nat):Int)+1)=((i+1+1:Nat):Int):=by rw [wrap_i64 _ (by omega) (by omega)];omega
     unfold ef;simp only [d4,d8,e];rw [ar (show ((i+1:Nat):Int)<=12 by omega),vo n m (i+1) (by omega),room (by omega)];by_cases hp:agr m (i+1)=true
     ·rw [ae hp,ae hp];rfl
     ·rw [ab hp,ab hp];rfl)
    (λout=>by
     unfold ef;simp only [d4,d8,au (show ¬((12+1:Nat):Int)<=12 by omega),af])
    (N:=n) (by omega)
   have b:av (ef n) n (1,g,l,dg,x,q,m,d,k0,k1,k2,([]:List Int))=_:=this;rw [b];rfl
def th(y:Int):Bool:=decide (y%4=0)&&(decide (y%100≠0)||decide (y%400=0))
def lenI(y m:Int):Int:=if m=4\/m=6\/m=9\/m=11 then 30 else if m=2 then(if th y then 29 else 28)else 31
def K6(y:Int){b:Int}(c:0<b):(Int.tmod y b==0)=decide (y%b=0):=by
 rw[vG,bL,decide_eq_true_iff];have h:=K3 (a:=y) (b:=b);have f:=O5 y (show b≠0 by omega);have g:=MB y c;by_cases hc:0<=y\/b∣y
 ·rw[ae hc]at h;omega
 ·rw[ab hc]at h;have d:¬b∣y:=λe=>hc (.inr e);have:y%b≠0:=λe=>d (MV e);omega
def A4(n:Nat)(y m:Int):eQ n y m=some (lenI y m):=by
 have b:(Int.tmod y 100 != 0)=decide (y%100≠0):=by
  rw[bne,K6 y (by omega)];by_cases h:y%100=0<;>simp[h]
 unfold eQ;rw[K6 y (by omega),K6 y (by omega),b];have body:(cond (m==2) (cond (decide (y%4=0)) (cond (decide (y%100≠0)) (some (29:Int)) (cond (decide (y%400=0)) (some 29) (some 28))) (some 28)) (some 31))=some (if m=2 then(if th y=true then 29 else 28)else 31):=by
  rw[gZ];by_cases c:m=2
  ·rw[ae c,ae c];unfold th;cases decide (y%4=0)<;>cases decide (y%100≠0)<;>cases decide (y%400=0)<;>rfl
  ·rw[ab c,ab c]
 rw[body];unfold lenI;by_cases e:m=4
 ·subst e;rfl
 ·by_cases d:m=6
  ·subst d;rfl
  ·by_cases f:m=9
   ·subst f;rfl
   ·by_cases a:m=11
    ·subst a;rfl
    ·rw[aK.2 e,aK.2 d,aK.2 f,aK.2 a,ab (show¬(m=4\/m=6\/m=9\/m=11)by omega)];rfl
def xy(n:Nat){y:Int}(h:-20000000000000000<=y/\y<=20000000000000000):fM n y=some (1+(y - 1) / 4 - (y - 1) / 100+(y - 1) / 400):=by
 unfold fM;rw[wrap_i64 (y - 1) (by omega) (by omega),yX n (by omega) (by omega) (by omega) (by omega),yX n (by omega) (by omega) (by omega) (by omega),yX n (by omega) (by omega) (by omega) (by omega)];show some _=some _;have f:-5000000000000001<=(y - 1) / 4/\(y - 1) / 4<=5000000000000001:=by omega
 have e:-5000000000000001<=(y - 1) / 100/\(y - 1) / 100<=5000000000000001:=by omega
 have d:-5000000000000001<=(y - 1) / 400/\(y - 1) / 400<=5000000000000001:=by omega
 generalize(y - 1) / 4=a at *;generalize(y - 1) / 100=b at *;generalize(y - 1) / 400=c at *;simp only[];rw[wrap_i64 (1*a) (by omega) (by omega),wrap_i64 (-1*b) (by omega) (by omega),wrap_i64 (1*c) (by omega) (by omega),wrap_i64 (1+1*a) (by omega) (by omega),wrap_i64 (1+1*a+-1*b) (by omega) (by omega),wrap_i64 _ (by omega) (by omega)];congr 1;omega
def Rx(y:Int):(1+y / 4 - y / 100+y / 400>1+(y - 1) / 4 - (y - 1) / 100+(y - 1) / 400)↔th y=true:=by
 unfold th;simp only[aB,iq,ch];omega
def TS(n:Nat){y:Int}(h:ej y):kG n y=some (th y,0):=by
 unfold kG;have h':=h;unfold ej at h';rw[gG,ae h,wrap_i64 (y+1) (by omega) (by omega),xy n (by omega),xy n (by omega),show y+1 - 1=y by omega];have b:=Rx y;show some (decide (1+y / 4 - y / 100+y / 400>1+(y - 1) / 4 - (y - 1) / 100+(y - 1) / 400),(0:Int))=_;by_cases a:th y=true
 ·rw[a,ar (b.2 a)]
 ·rw[Hk]at a;rw[a,au (λe=>by rw[b.1 e]at a;cases a)]
def xi(n:Nat){y:Int}(h:ej y){m:Nat}(d:1<=m)(c:m<=12):eP n y (m:Int)=some (lenI y (m:Int)):=by
 unfold eP;rw[TS n h];show cond (th y&&((m:Int)==2)) _ _=_;have a:wrap .i64 ((m:Int) - 1)=((m - 1:Nat):Int):=by rw[wrap_i64 _ (by omega) (by omega)];omega
 rw[a,cT (show m - 1<12 by omega)];have b:m=1\/m=2\/m=3\/m=4\/m=5\/m=6\/m=7\/m=8\/m=9\/m=10\/m=11\/m=12:=by omega
 rcases b with rfl | rfl | rfl | rfl | rfl | rfl | rfl | rfl | rfl | rfl | rfl | rfl<;>unfold lenI<;>cases th y<;>rfl
def LR(n:Nat){y:Int}(h:ej y){m:Nat}(b:1<=m)(a:m<=12):pH n y (m:Int)=some (lenI y (m:Int),0):=by
 unfold pH;rw[Hj n h b a,xi n h b a];rfl
def jD(y m:Int):28<=lenI y m/\lenI y m<=31:=by
 unfold lenI;split
 ·omega
 ·split
  ·split<;>omega
  ·omega
def vU(d:aa)(y m:Int):Int:=if d=[]then 0 else lenI y m
def vN(d:aa)(y a:Int):List (Int×Int×Int):=((dayI d).filter λk=>decide (k<=vU d y a)).map λk=>(y,a,k)
def vO(m d:aa)(y:Int):List (Int×Int×Int):=(monI m).flatMap (vN d y)
def O0{X Y A:Type}{step:X->Option (X⊕Y)}{f:Nat->List A->X}{y:List A->Y}{p:Nat->Bool}{e:Nat->A}{g:Nat}(a:List A)
  (h:∀i out,i<g->out.length<=a.length+i->step (f i out)=some (.inl (f (i+1) (if p (i+1)then out++[e (i+1)]else out))))
  (c:∀out,step (f g out)=some (.inr (y out))) {N:Nat} (b:g<N):av step N (f 0 a)=some (y (a++((List.range' 1 g).filter p).map e)):=by
 have d:∀(r i:Nat) (out:List A),i+r=g->out.length<=a.length+i->∀N,r<N->av step N (f i out)=some (y (out++((List.range' (i+1) r).filter p).map e)):=by
  intro r
  induction r with
  | zero=>
   intro i out hi j N b;obtain⟨N,rfl⟩:∃q,N=q+1:=⟨N - 1,by omega⟩;obtain rfl:i=g:=by omega
   rw[av,c];simp
  | succ r ih=>
   intro i out hi j N b;obtain⟨N,rfl⟩:∃q,N=q+1:=⟨N - 1,by omega⟩;rw[av,h i out (by omega) (by omega)];show av step N _=_;by_cases hp:p (i+1)=true
   ·rw[ae hp,ih (i+1) _ (by omega) (by simp;omega) N (by omega),xa,SG hp];simp
   ·rw[ab hp,ih (i+1) _ (by omega) (by omega) N (by omega),xa,RV hp]
 exact d g 0 a (by omega) (by omega) N b
def ML{X Y A B:Type}{step:X->Option (X⊕Y)}{f:Nat->List A->X}{y:List A->Y}{F:B->List A}{L:List B}{c:Nat}(hc:∀b∈L,(F b).length<=c)
  (h:∀i b out,L[i]?=some b->out.length<=c*i->step (f i out)=some (.inl (f (i+1) (out++F b))))
  (g:∀out,step (f L.length out)=some (.inr (y out))) {N:Nat} (a:L.length<N):av step N (f 0 [])=some (y (L.flatMap F)):=by
 have j:∀(r i:Nat) (out:List A),i+r=L.length->out.length<=c*i->∀N,r<N->av step N (f i out)=some (y (out++(L.drop i).flatMap F)):=by
  intro r
  induction r with
  | zero=>
   intro i out hi d N a;obtain⟨N,rfl⟩:∃q,N=q+1:=⟨N - 1,by omega⟩;obtain rfl:i=L.length:=by omega
   rw[av,g];simp
  | succ r ih=>
   intro i out hi d N a;obtain⟨N,rfl⟩:∃q,N=q+1:=⟨N - 1,by omega⟩;have e:L[i]?=some L[i]:=bu (by omega);rw[av,h i L[i] out e d];show av step N _=_;have k:=hc L[i] (AO _);rw[ih (i+1) _ (by omega) (by rw[aZ,Nat.mul_add];omega) N (by omega),rD (show i<L.length by omega),nY,f8]
 have:=j L.length 0 [] (by omega) (by simp) N a;simpa using this
def Uu(d:aa)(L:Nat)(h:L<=31):(uK (fitN d 31)).filter (λk=>decide (k<=(L:Int)))=uK ((List.range' 1 L).filter (agr d)):=by
 have hs:List.range' 1 31=List.range' 1 L++List.range' (1+L) (31 - L):=by
  have:=List.range'_append_1 (s:=1) (m:=L) (n:=31 - L);rw[this,show L+(31 - L)=31 by omega]
 unfold fitN uK;rw[hs,MQ,Gt,MQ];have e:(List.map (λk:Nat=>(k:Int)) (List.filter (agr d) (List.range' 1 L))).filter (λk=>decide (k<=(L:Int)))=List.map (λk:Nat=>(k:Int)) (List.filter (agr d) (List.range' 1 L)):=by
  rw[List.filter_eq_self];intro k b;obtain⟨j,a,rfl⟩:=eF.1 b;have:=tO.1 (l8.1 a).1;exact ar (by omega)
 have c:(List.map (λk:Nat=>(k:Int)) (List.filter (agr d) (List.range' (1+L) (31 - L)))).filter (λk=>decide (k<=(L:Int)))=[]:=by
  rw[List.filter_eq_nil_iff];intro k b;obtain⟨j,a,rfl⟩:=eF.1 b;have:=tO.1 (l8.1 a).1;simp only[ch];omega
 rw[e,c,lH]
def I2(s:aa)(g:Nat):(fitN s g).length<=g:=by
 have:=AY (agr s) (List.range' 1 g);rw[List.length_range']at this;exact this
def I1(d:aa):(dayI d).length<=31:=by
 unfold dayI;split
 ·simp
 ·rw[Ei];exact I2 d 31
def Hi(m:aa):(monI m).length<=12:=by
 unfold monI;split
 ·simp
 ·split
  ·simp
  ·rw[Ei];exact I2 m 12
def JV(d:aa)(y a:Int):(vN d y a).length<=31:=by
 unfold vN;rw[tt];exact qZ (AY _ _) (I1 d)
def OL(y a:Int):vN [] y a=[(y,a,0)]:=rfl
def Kt{d:aa}(h:d≠[])(y a:Int):vN d y a=((List.range' 1 (lenI y a).toNat).filter (agr d)).map λk:Nat=>(y,a,(k:Int)):=by
 have b:=jD y a;unfold vN dayI vU;rw[ab h,ab h];have:=Uu d (lenI y a).toNat (by omega);rw[show(((lenI y a).toNat:Nat):Int)=lenI y a by omega]at this;rw[this,uK,tq];rfl
def KD (n:Nat) (z:100<n) (g l:Bool) (dg:aa) (x q:Int) (m d:aa) (k0 k1 k2 y:Int):
  kV n g l dg x q m d k0 k1 k2 y=some (vO m d y):=by
 have w:=Hi m;unfold kV;rw [Jq n z];have:=ML (step:=fb n) (f:=λi out=>(y,(i:Int),g,l,dg,x,q,m,d,k0,k1,k2,monI m,out)) (y:=λo=>o) (F:=vN d y) (L:=monI m) (c:=31) (λb _=>JV d y b)
  (λi h out hi D=>by
   have a:i<(monI m).length:=(nc.1 hi).1;have t:wrap .i64 ((i:Int)+1)=((i+1:Nat):Int):=by rw [wrap_i64 _ (by omega) (by omega)];omega
   unfold fb;simp only [d4,d8,t];rw [ar (show (i:Int)<(((monI m).length:Nat):Int) by omega),cT a];by_cases r:d=[]
   ·subst r;rw [OL];simp only [ob,hi,aj,room (show out.length<=60000000 by omega)];rfl
   ·rw [gf r];have C:=jD y h;have s:=O0 (step:=eZ n) (f:=λj o=>(y,(i:Int),((j+1:Nat):Int),g,l,dg,x,q,m,d,k0,k1,k2,monI m,o)) (y:=λo=>(y,(i:Int),g,l,dg,x,q,m,d,k0,k1,k2,monI m,o)) (p:=agr d) (e:=λk=>(y,h,(k:Int))) (g:=(lenI y h).toNat) out
     (λj o B A=>by
      have u:wrap .i64 (((j+1:Nat):Int)+1)=((j+1+1:Nat):Int):=by rw [wrap_i64 _ (by omega) (by omega)];omega
      unfold eZ;simp only [d4,d8,u,cT a,ob,hi,A4];rw [ar (show ((j+1:Nat):Int)<=lenI y h by omega),vo n d (j+1) (by omega),room (show o.length<=60000000 by omega)];by_cases hp:agr d (j+1)=true
      ·rw [ae hp,ae hp];rfl
      ·rw [ab hp,ab hp];rfl)
     (λo=>by
      unfold eZ;simp only [d4,d8,cT a,ob,hi,A4];rw [au (show ¬(((lenI y h).toNat+1:Nat):Int)<=lenI y h by omega)];rfl)
     (N:=n) (by omega)
    have hin':av (eZ n) n (y,(i:Int),1,g,l,dg,x,q,m,d,k0,k1,k2,monI m,out)=_:=s;simp only [aj,af];rw [hin',Kt r];simp only [ob,d4,d8,t])
  (λout=>by
   unfold fb;simp only [d4,d8];rw [au (show ¬(((monI m).length:Nat):Int)<(((monI m).length:Nat):Int) by omega)];rfl)
  (N:=n) (by omega)
 have v:av (fb n) n (y,0,g,l,dg,x,q,m,d,k0,k1,k2,monI m,([]:List (Int×Int×Int)))=_:=this;simp only [ob];rw [v];rfl
def XS{a b c e:UInt8}(k:bD a=true\/a=88)(j:bD b=true\/b=88)(hc:bD c=true\/c=88)(l:bD e=true\/e=88)(w:Nat):
  mtk [a,b,c,e] 4 w=Mk.ag [e,c,b,a] (w:Int):=by
 have one:∀(z:UInt8) (v:Nat),(decide (z=88)||decide (z.toNat=48+v%10))=(decide (z=88)||decide (Mk.dv z=(v:Int)%10)):=by
  intro z v;have:(z.toNat=48+v%10)↔(Mk.dv z=(v:Int)%10):=by unfold Mk.dv;omega
  rw[uR.2 this]
 have d:∀v:Nat,(v:Int) / 10=((v / 10:Nat):Int):=λv=>by omega
 show((decide (e=88)||decide (e.toNat=48+w%10))&&((decide (c=88)||decide (c.toNat=48+w / 10%10))&&((decide (b=88)||decide (b.toNat=48+w / 10 / 10%10))&&((decide (a=88)||decide (a.toNat=48+w / 10 / 10 / 10%10))&&true))))
  = ((((true&&(decide (a=88)||decide (Mk.dv a=(w:Int) / 10 / 10 / 10%10)))&&(decide (b=88)||decide (Mk.dv b=(w:Int) / 10 / 10%10)))&&(decide (c=88)||decide (Mk.dv c=(w:Int) / 10%10)))&&(decide (e=88)||decide (Mk.dv e=(w:Int)%10)))
 rw[one e w,one c (w / 10),one b (w / 10 / 10),one a (w / 10 / 10 / 10),d w,d (w / 10),d (w / 10 / 10)];generalize(decide (e=88)||decide (Mk.dv e=(w:Int)%10))=g;generalize(decide (c=88)||decide (Mk.dv c=((w / 10:Nat):Int)%10))=i;generalize(decide (b=88)||decide (Mk.dv b=((w / 10 / 10:Nat):Int)%10))=h;generalize(decide (a=88)||decide (Mk.dv a=((w / 10 / 10 / 10:Nat):Int)%10))=f;cases g<;>cases i<;>cases h<;>cases f<;>rfl
def VU{c:UInt8}(h:bD c=true\/c=88):Mk.okB c=true:=by
 rcases h with h | h
 ·have h:=(eo c).1 h;unfold Mk.okB;simp only[iq,aB,ch];right
  first | omega | (obtain⟨b,a⟩:=h;constructor<;>omega)
 ·subst h;decide
def Rk{d:aa}(a:d.length=4)(h:∀c∈d,bD c=true\/c=88):Mk.chk d=0:=by
 unfold Mk.chk;have:d.all Mk.okB=true:=bS.2 λc hc=>VU (h c hc);rw[ab (by omega),ae this,ab (by rintro rfl;simp at a)]
def IJ{d:aa}(j:d.length=4)(h:∀c∈d,bD c=true\/c=88)(w:Nat):Mk.hasM d (w:Int)=true↔mtk d 4 w=true/\w / 10 ^ 4=0:=by
 obtain⟨a,b,c,e,rfl⟩:∃a b c e,d=[a,b,c,e]:=by
  match d,j with
  | [a,b,c,e],_=>exact⟨a,b,c,e,rfl⟩
 rw[Mk.FX,XS (h a (by simp)) (h b (by simp)) (h c (by simp)) (h e (by simp)) w];simp only[aB,ch];show 0<=(w:Int)/\(w:Int)<10 ^ 4/\Mk.ag [e,c,b,a] (w:Int)=true↔Mk.ag [e,c,b,a] (w:Int)=true/\w / 10 ^ 4=0;have i:(10:Int) ^ 4=10000:=by decide
 have e4':(10:Nat) ^ 4=10000:=by decide
 rw[i,e4'];constructor
 ·rintro⟨_,g,f⟩;exact⟨f,by omega⟩
 ·rintro⟨f,g⟩;exact⟨by omega,by omega,f⟩
def Jc{g l:Bool}{d:aa}{x q:Int}(b:okY g l d x q)(c:hasX d=true)(v:Int):inP g d x q v↔(Mk.hasM d (wOf g v)=true/\(g=true->1<=wOf g v)):=by
 obtain⟨rfl,rfl,rfl,h,j⟩:=qW b c;unfold inP;rw[Jm c];have n:∀k:Int,Mk.hasM d k=true->0<=k/\k<10000:=λk m=>by
  have:=(Mk.oY m).2.2.2.2;rw[h]at this;have s:(10:Int) ^ 4=10000:=by decide
  omega
 constructor
 ·rintro⟨a,i,w,o,p⟩;have:=(IJ h j (wOf g v).toNat).2 p;rw[show(((wOf g v).toNat:Nat):Int)=wOf g v by omega]at this;refine⟨this,λf=>?_⟩;have u:¬wOf g v=0:=λe=>o ⟨c,f,e⟩;omega
 ·rintro⟨a,i⟩;have hr':=n _ a;have r:=(IJ h j (wOf g v).toNat).1 (by rw[show(((wOf g v).toNat:Nat):Int)=wOf g v by omega];exact a);have t:v=wOf g v\/v=- wOf g v:=by
   unfold wOf;split
   ·right;omega
   ·left;rfl
  refine⟨by omega,by omega,hr'.1,?_,r⟩;rintro⟨_,f,e⟩;have:=i f;omega
def fS9{g l:Bool}{d:aa}{x:Int}(a:okY g l d x 0)(b:hasX d=false)(v:Int):inP g d x 0 v↔v=(if g then -((val d x.toNat:Nat):Int)else((val d x.toNat:Nat):Int)):=by
 obtain⟨k,q,rfl,n,h⟩:=sP a b;have hs:=h.small;have f:dval 0 d*10 ^ k=val d k:=rfl;rw[f]at hs;unfold E16 at hs;unfold inP;rw[RJ b];have m:G8 d (k:Int).toNat (0:Int).toNat=1:=rfl;rw[m,bX,tM,tM,b];unfold wOf;cases g with
 | true=>
  simp only[aN];constructor
  ·rintro⟨e,c,i,_,j⟩;omega
  ·rintro rfl;refine⟨by omega,by omega,by omega,by simp,by omega⟩
 | false=>
  simp only[bQ,aF];constructor
  ·rintro⟨e,c,i,_,j⟩;omega
  ·rintro rfl;refine⟨by omega,by omega,by omega,by simp,by omega⟩
def Gx(up:Bool)(Y:Int->Prop)(v w:Int)(a:Bool):Prop:=
 (a=true->Y w/\Mk.ft up v w/\∀e,Y e->Mk.ft up v e->Mk.ft up w e)/\(a=false->∀e,Y e->¬Mk.ft up v e)
def fw(a b:Int):Mk.ft true a b↔a<=b:=Iff.rfl
def iN(a b:Int):Mk.ft false a b↔b<=a:=Iff.rfl
def RZ(o:Option Int):(Mk.res o).2=0/\(∃r,o=some r/\(Mk.res o).1=r)\/(Mk.res o).2=16/\o=none/\(Mk.res o).1=0:=by
 cases o with
 | none=>exact .inr ⟨rfl,rfl,rfl⟩
 | some r=>exact .inl ⟨rfl,r,rfl,rfl⟩
def vJ{m:aa}(j:Mk.chk m=0)(v a:Int)(q:0<=a):∃w f,fQ 20000000 m v true a=some (w,f)/\Gx true (λe=>Mk.hasM m e=true/\a<=e) v w f/\(0<=w/\w<1000000000000000000):=by
 obtain⟨o,l,c⟩:=Mk.LG j (cond (decide (a>v)) a v);unfold fQ;rw[l];simp only[ob,aj];have hc:(cond (decide (a>v)) a v)=max v a:=by
  by_cases h:a>v
  ·rw[ar h];show a=_;omega
  ·rw[au h];show v=_;omega
 rw[hc]at c;rcases RZ o with⟨g,r,rfl,d⟩ | ⟨g,rfl,d⟩
 ·refine⟨_,_,rfl,?_,?_⟩
  ·rw[g,d];obtain⟨a1,a2,k⟩:=c;rw[fw]at a2;refine⟨λ_=>⟨⟨a1,by omega⟩,?_,λe b i=>?_⟩,λh=>by cases h⟩
   ·rw[fw];omega
   ·rw[fw]at i;exact k e b.1 (by rw[fw];have:=b.2;omega)
  ·have:=(Mk.oY c.1).2.2.2.2;have p:=Mk.nZ j;have hp:(10:Int) ^ m.length<=10 ^ 18:=by
    have:=lh (show 0<10 by decide) p.1
    exact_mod_cast this
   have n:(10:Int) ^ 18=1000000000000000000:=by decide
   rw[d];omega
 ·refine⟨_,_,rfl,?_,by rw[d];omega⟩;rw[g];refine⟨(λh=>by cases h),λ_ e b i=>?_⟩;rw[fw]at i;exact c e b.1 (by rw[fw];have:=b.2;omega)
def vH{m:aa}(l:Mk.chk m=0)(v a:Int)(t:0<=a):∃w f,fQ 20000000 m v false a=some (w,f)/\Gx false (λe=>Mk.hasM m e=true/\a<=e) v w f/\(0<=w/\w<1000000000000000000):=by
 obtain⟨o,n,j⟩:=Mk.K8 l v;unfold fQ;rw[n];simp only[ob,af];rcases RZ o with⟨i,r,rfl,g⟩ | ⟨i,rfl,g⟩
 ·rw[i,g];obtain⟨a1,a2,k⟩:=j;rw[iN]at a2;have s:=(Mk.oY a1).2.2.2.2;have q:=Mk.nZ l;have hp:(10:Int) ^ m.length<=10 ^ 18:=by
   have:=lh (show 0<10 by decide) q.1
   exact_mod_cast this
  have p:(10:Int) ^ 18=1000000000000000000:=by decide
  refine⟨_,_,rfl,?_,by omega⟩;by_cases d:r>=a
  ·rw[ar d];refine⟨λ_=>⟨⟨a1,by omega⟩,by rw[iN];omega,λe b c=>k e b.1 c⟩,λh=>by cases h⟩
  ·rw[au d];refine⟨(λh=>by cases h),λ_ e b c=>?_⟩;have:=k e b.1 c;rw[iN]at this;have:=b.2;omega
 ·rw[i,g];refine⟨_,_,rfl,?_,by omega⟩;refine⟨(λh=>by cases h),λ_ e b c=>j e b.1 c⟩
def LV{g l:Bool}{dg:aa}{x:Int}(n:okY g l dg x 0)(m d:aa)(k0 k1 k2:Int)(v:Int)(H:-9223372036854775808<=v/\v<9223372036854775808)(up:Bool)(E F:List Int):
  ∃w f,bh 20000000 g l dg x 0 m d k0 k1 k2 v up E F=some (w,f)/\Gx up (inP g dg x 0) v w f:=by
 have D:=iJ n;unfold bh;rw[uw];simp only[ob];cases t:hasX dg with
 | false=>
  have c:=fS9 n t;rw[CG 20000000 g l dg x 0 (by omega) (by omega),ae ⟨n,t⟩];simp only[kL,aj];generalize(if g then -((val dg x.toNat:Nat):Int)else((val dg x.toNat:Nat):Int))=w at *;cases up with
  | true=>
   by_cases h:w>=v
   ·refine⟨w,true,?_,?_⟩
    ·simp only[ar h,aj]
    ·refine⟨λ_=>⟨(c w).2 rfl,h,λe b _=>?_⟩,λh=>by cases h⟩;rw[(c e).1 b];exact sQ _
   ·refine⟨w,false,?_,?_⟩
    ·simp only[au h,aj,af,dL]
    ·refine⟨(λh=>by cases h),λ_ e b j=>?_⟩;rw[(c e).1 b,fw]at j;omega
  | false=>
   by_cases h:w<=v
   ·refine⟨w,true,?_,?_⟩
    ·simp only[ar h,aj,af,kL]
    ·refine⟨λ_=>⟨(c w).2 rfl,h,λe b _=>?_⟩,λh=>by cases h⟩;rw[(c e).1 b];exact sQ _
   ·refine⟨w,false,?_,?_⟩
    ·simp only[au h,aj,af,kL]
    ·refine⟨(λh=>by cases h),λ_ e b j=>?_⟩;rw[(c e).1 b,iN]at j;omega
 | true=>
  have c:=Jc n t;obtain⟨rfl,rfl,_,A,B⟩:=qW n t;have s:=Rk A B;simp only[dL,af];cases g with
  | false=>
   simp only[kL,aj];have q:∀w f,Gx up (λe=>Mk.hasM dg e=true/\0<=e) v w f->Gx up (inP false dg 0 0) v w f:=λw f h=>by
    have a:∀e,(Mk.hasM dg e=true/\0<=e)↔inP false dg 0 0 e:=λe=>by
     rw[c e];constructor
     ·rintro⟨i,_⟩;exact⟨i,λh=>by cases h⟩
     ·rintro⟨i,_⟩;exact⟨i,(Mk.oY i).2.2.2.2.1⟩
    refine⟨λk=>?_,λk e b=>h.2 k e ((a e).2 b)⟩;obtain⟨b1,b2,r⟩:=h.1 k;exact⟨(a w).1 b1,b2,λe b=>r e ((a e).2 b)⟩
   cases up with
   | true=>
    obtain⟨w,f,i,p,_⟩:=vJ s v 0 (by omega);exact⟨w,f,by rw[i],q w f p⟩
   | false=>
    obtain⟨w,f,i,p,_⟩:=vH s v 0 (by omega);exact⟨w,f,by rw[i],q w f p⟩
  | true=>
   simp only[dL,af];have hc:wrap .i64 (0 - (cond (decide (((-9223372036854775807):Int)>v)) (-9223372036854775807) v))=min (-v) 9223372036854775807:=by
    by_cases h:((-9223372036854775807):Int)>v
    ·rw[ar h,aj,wrap_i64 _ (by omega) (by omega)];omega
    ·rw[au h,af,wrap_i64 _ (by omega) (by omega)];omega
   rw[hc];have u:∀e,Mk.hasM dg e=true->0<=e/\e<10000:=λe b=>by
    have:=(Mk.oY b).2.2.2.2;rw[A]at this;have G:(10:Int) ^ 4=10000:=by decide
    omega
   have a:∀e,inP true dg 0 0 e↔(Mk.hasM dg (-e)=true/\1<=-e):=λe=>by
    rw[c e];exact⟨λh=>⟨h.1,h.2 rfl⟩,λh=>⟨h.1,λ_=>h.2⟩⟩
   have z:∀w:Int,0<=w/\w<1000000000000000000->wrap .i64 (0 - w)=-w:=λw h=>by rw[wrap_i64 _ (by omega) (by omega)];omega
   cases up with
   | true=>
    obtain⟨w,f,i,p,y⟩:=vH s (min (-v) 9223372036854775807) 1 (by omega);refine⟨-w,f,by rw[dL,i];simp only[z w y],?_,?_⟩
    ·intro k;obtain⟨b1,b2,r⟩:=p.1 k;rw[iN]at b2;refine⟨(a _).2 (by rw[Int.neg_neg];exact b1),by rw[fw];omega,λe b j=>?_⟩;rw[fw]at j;have o:=(a e).1 b;have:=r (-e) o (by rw[iN];have:=u _ o.1;omega);rw[iN]at this;rw[fw];omega
    ·intro k e b j;rw[fw]at j;have o:=(a e).1 b;exact p.2 k (-e) o (by rw[iN];have:=u _ o.1;omega)
   | false=>
    obtain⟨w,f,i,p,y⟩:=vJ s (min (-v) 9223372036854775807) 1 (by omega);refine⟨-w,f,by rw[kL,i];simp only[z w y],?_,?_⟩
    ·intro k;obtain⟨b1,b2,r⟩:=p.1 k;rw[fw]at b2;have C:=u _ b1.1;refine⟨(a _).2 (by rw[Int.neg_neg];exact b1),by rw[iN];omega,λe b j=>?_⟩;rw[iN]at j;have o:=(a e).1 b;have:=r (-e) o (by rw[fw];omega);rw[fw]at this;rw[iN];omega
    ·intro k e b j;rw[iN]at j;have o:=(a e).1 b;exact p.2 k (-e) o (by rw[fw];omega)
def uQ{X Y A:Type}{step:X->Option (X⊕Y)}{f:Nat->X}{L:List A}{G:A->Option Y}{e:Y}
  (h:∀i a,L[i]?=some a->step (f i)=some ((G a).elim (.inl (f (i+1))) Sum.inr)) (g:step (f L.length)=some (.inr e)) {N:Nat} (b:L.length<N):
  av step N (f 0)=some ((L.findSome? G).getD e):=by
 have d:∀(r i:Nat),i+r=L.length->∀N,r<N->av step N (f i)=some (((L.drop i).findSome? G).getD e):=by
  intro r
  induction r with
  | zero=>
   intro i hi N b;obtain⟨N,rfl⟩:∃q,N=q+1:=⟨N - 1,by omega⟩;obtain rfl:i=L.length:=by omega
   rw[av,g];simp
  | succ r ih=>
   intro i hi N b;obtain⟨N,rfl⟩:∃q,N=q+1:=⟨N - 1,by omega⟩;have c:L[i]?=some L[i]:=bu (by omega);rw[av,h i L[i] c,rD (show i<L.length by omega),Dv];cases j:G L[i]with
   | some y=>rfl
   | none=>exact ih (i+1) (by omega) N (by omega)
 have:=d L.length 0 (by omega) N b;simpa using this
def ahd(up:Bool)(a b:Int):Bool:=cond up (decide (a<b)) (decide (a>b))
def IL(n:Nat)(a b:Int)(up:Bool):cZ n a b up=some (ahd up a b):=by
 unfold cZ ahd;cases up
 ·rfl
 ·simp only[aj,dL,af];cases decide (a<b)<;>rfl
def AL(up a:Bool)(d:aa)(b most k:Int):Bool:=decide (k<=most)&&!(a&&(!(d==([]:aa))&&ahd up k b))
def MJ(up:Bool)(m:aa)(a c y b:Int):Bool:=(y==a)&&(!(m==([]:aa))&&ahd up b c)
def Kq(m:aa)(a c y b:Int):Bool:=(y==a)&&((m==([]:aa))||(b==c))
def GW(up:Bool)(m d:aa)(c b f y:Int)(e:List Int)(a:Int):Option (Int×Int×Int):=
 if MJ up m c b y a then none else(e.find? (AL up (Kq m c b y a) d f (vU d y a))).map λk=>(y,a,k)
def G9(up:Bool)(m d:aa)(b a e:Int)(f c:List Int)(y:Int):Option (Int×Int×Int):=f.findSome? (GW up m d b a e y c)
def LN(d:aa)(a:List Int):Prop:=a.length<=31/\(d≠[]->∀b∈a,1<=b/\b<=12)
def LW(n:Nat)(g l:Bool)(dg:aa)(x q:Int)(m d:aa)(k0 k1 k2:Int){y:Int}(hy:ej y){a:Int}(c:d≠[]->1<=a/\a<=12)(f e:List Int):
  dZ n g l dg x q m d k0 k1 k2 y a f e=some (vU d y a):=by
 unfold dZ vU;by_cases b:d=[]
 ·subst b;rfl
 ·rw[gf b,ab b];have:=c b;obtain⟨k,rfl⟩:∃k:Nat,a=(k:Int):=⟨a.toNat,by omega⟩;rw[af,LR n hy (by omega) (by omega)];rfl
def UM{A B Y:Type}(L:List A)(p:A->Bool)(F:A->B)(J:B->Y)(e:Y):(L.findSome? λa=>if p a then some (J (F a))else none).getD e=((L.find? p).map F).elim e J:=by
 induction L with
 | nil=>rfl
 | cons a L ih=>
  rw[List.find?_cons,Dv];cases h:p a
  ·simpa using ih
  ·simp
def V3{A B Y:Type}(L:List A)(G:A->Option B)(J:B->Y)(e:Y):(L.findSome? λa=>(G a).map J).getD e=(L.findSome? G).elim e J:=by
 induction L with
 | nil=>rfl
 | cons a L ih=>
  rw[Dv,Dv];cases h:G a
  ·simpa using ih
  ·simp
def P1(n:Nat)(s y e:Int)(a:Bool)(most t j:Int)(v b:List Int)(g l:Bool)(dg:aa)(x q:Int)(m d:aa)(k0 k1 k2 o h c:Int)(up:Bool)(p r rd:Int)(i:Nat)(k:Int)(hi:b[i]?=some k)(w:i<1000):
  bM n (s,y,e,a,most,t,j,((b.length:Nat):Int),(i:Int),v,b,g,l,dg,x,q,m,d,k0,k1,k2,o,h,c,up,p,r,rd)=some ((if AL up a d c most k then some (.inl (true,y,e,k))else none).elim (.inl (s,y,e,a,most,t,j,((b.length:Nat):Int),((i+1:Nat):Int),v,b,g,l,dg,x,q,m,d,k0,k1,k2,o,h,c,up,p,r,rd)) Sum.inr):=by
 have f:i<b.length:=(nc.1 hi).1;have u:wrap .i64 ((i:Int)+1)=((i+1:Nat):Int):=by rw[wrap_i64 _ (by omega) (by omega)];omega
 unfold bM iK AL;simp only[d4,d8,d16,cT f,hi,ob,u,IL];rw[ar (show(i:Int)<((b.length:Nat):Int)by omega)];simp only[aj];cases decide (k<=most)<;>cases a<;>cases(d==([]:aa))<;>cases ahd up k c<;>simp only[dL,kL,aj,af,u]<;>rfl
def Vd(n:Nat)(s y p:Int)(b:Bool)(most j e:Int)(o a:List Int)(g l:Bool)(dg:aa)(x q:Int)(m d:aa)(k0 k1 k2 f c k:Int)(up:Bool)(h i rd:Int):
  bM n (s,y,p,b,most,j,e,((a.length:Nat):Int),((a.length:Nat):Int),o,a,g,l,dg,x,q,m,d,k0,k1,k2,f,c,k,up,h,i,rd)=some (.inr (.inr (s,y,j,e,o,a,g,l,dg,x,q,m,d,k0,k1,k2,f,c,k,up,h,i,rd))):=by
 unfold bM;simp only[d4,d8,d16];rw[au (show¬((a.length:Nat):Int)<((a.length:Nat):Int)by omega)];rfl
def TT (n:Nat) (B:1000<n) (s y h:Int) (a:Bool) (most u o:Int) (v b:List Int) (g l:Bool) (dg:aa) (x q:Int) (m d:aa) (k0 k1 k2 t j c:Int) (up:Bool) (p r rd:Int) (A:b.length<=31):
  av (bM n) n (s,y,h,a,most,u,o,((b.length:Nat):Int),0,v,b,g,l,dg,x,q,m,d,k0,k1,k2,t,j,c,up,p,r,rd)=some (((b.find? (AL up a d c most)).map (λk=>(y,h,k))).elim (.inr (s,y,u,o,v,b,g,l,dg,x,q,m,d,k0,k1,k2,t,j,c,up,p,r,rd)) (λz=>.inl (true,z))):=by
 have:=uQ (step:=bM n) (f:=λi=>(s,y,h,a,most,u,o,((b.length:Nat):Int),(i:Int),v,b,g,l,dg,x,q,m,d,k0,k1,k2,t,j,c,up,p,r,rd)) (L:=b) (G:=λk=>if AL up a d c most k then some (.inl (true,y,h,k)) else none) (e:=.inr (s,y,u,o,v,b,g,l,dg,x,q,m,d,k0,k1,k2,t,j,c,up,p,r,rd))
  (λi k hi=>by
   have w:i<b.length:=(nc.1 hi).1;exact P1 n s y h a most u o v b g l dg x q m d k0 k1 k2 t j c up p r rd i k hi (by omega))
  (Vd n s y h a most u o v b g l dg x q m d k0 k1 k2 t j c up p r rd) (N:=n) (by omega)
 exact this.trans (co some (UM b (AL up a d c most) (λk=>(y,h,k)) (λz=>Sum.inl (true,z)) _))
def Py(n:Nat)(E:1000<n)(s y:Int)(hy:ej y)(o p:List Int)(g l:Bool)(dg:aa)(x q:Int)(m d:aa)(k0 k1 k2 e j r:Int)(up:Bool)(t u rd:Int)(B:LN d o)(C:p.length<=31)(i:Nat)(f:Int)(hi:o[i]?=some f):
  cq n (s,y,((o.length:Nat):Int),(i:Int),o,p,g,l,dg,x,q,m,d,k0,k1,k2,e,j,r,up,t,u,rd)=some (((GW up m d e j r y p f).map (λz=>(.inl (true,z):(Bool×Int×Int×Int)⊕_))).elim (.inl (s,y,((o.length:Nat):Int),((i+1:Nat):Int),o,p,g,l,dg,x,q,m,d,k0,k1,k2,e,j,r,up,t,u,rd)) Sum.inr):=by
 have w:i<o.length:=(nc.1 hi).1;have D:=B.1;have A:wrap .i64 ((i:Int)+1)=((i+1:Nat):Int):=by rw[wrap_i64 _ (by omega) (by omega)];omega
 have v:d≠[]->1<=f/\f<=12:=λh=>B.2 h f (fk hi);have j20:∀a b:Int,fB n s y f (y==e) a b o p g l dg x q m d k0 k1 k2 e j r up t u rd=some (s,y,f,(y==e),a,b,MJ up m e j y f,o,p,g,l,dg,x,q,m,d,k0,k1,k2,e,j,r,up,t,u,rd):=by
  intro a b;unfold fB MJ;simp only[IL,ob];cases(y==e)<;>cases(m==([]:aa))<;>rfl
 have j23:∀a b c:Int,fF n s y f (y==e) a b c o p g l dg x q m d k0 k1 k2 e j r up t u rd=some (s,y,f,Kq m e j y f,a,b,c,o,p,g,l,dg,x,q,m,d,k0,k1,k2,e,j,r,up,t,u,rd):=by
  intro a b c;unfold fF Kq;cases(y==e)<;>cases(m==([]:aa))<;>rfl
 unfold cq iH GW;simp only[d4,d8,d16,cT w,hi,ob,j20];rw[ar (show(i:Int)<((o.length:Nat):Int)by omega)];simp only[aj];cases hs:MJ up m e j y f with
 | true=>simp only[aj,aN,jb,A];rfl
 | false=>
  simp only[af,bQ,aF,LW n g l dg x q m d k0 k1 k2 hy v,j23,TT n E s y f (Kq m e j y f) (vU d y f) _ _ o p g l dg x q m d k0 k1 k2 e j r up t u rd C];cases p.find? (AL up (Kq m e j y f) d r (vU d y f))with
  | some k=>rfl
  | none=>simp only[jb,Option.elim_none,A]
def UD (n:Nat) (v:1000<n) (s y:Int) (hy:ej y) (a b:List Int) (g l:Bool) (dg:aa) (x q:Int) (m d:aa) (k0 k1 k2 h c j:Int) (up:Bool) (k o rd:Int) (r:LN d a) (t:b.length<=31):
  av (cq n) n (s,y,((a.length:Nat):Int),0,a,b,g,l,dg,x,q,m,d,k0,k1,k2,h,c,j,up,k,o,rd)=some ((G9 up m d h c j a b y).elim (.inr (s,y,a,b,g,l,dg,x,q,m,d,k0,k1,k2,h,c,j,up,k,o,rd)) (λz=>.inl (true,z))):=by
 have u:=r.1;have:=uQ (step:=cq n) (f:=λi=>(s,y,((a.length:Nat):Int),(i:Int),a,b,g,l,dg,x,q,m,d,k0,k1,k2,h,c,j,up,k,o,rd)) (L:=a) (G:=λp=>(GW up m d h c j y b p).map (λz=>(.inl (true,z):(Bool×Int×Int×Int)⊕_))) (e:=.inr (s,y,a,b,g,l,dg,x,q,m,d,k0,k1,k2,h,c,j,up,k,o,rd))
  (λi p hi=>Py n v s y hy a b g l dg x q m d k0 k1 k2 h c j up k o rd r t i p hi)
  (by
   unfold cq;simp only [d4,d8,d16];rw [au (show ¬((a.length:Nat):Int)<((a.length:Nat):Int) by omega)];rfl)
  (N:=n) (by omega)
 exact this.trans (co some (V3 a (GW up m d h c j y b) (λz=>Sum.inl (true,z)) _))
def Q8(n:Nat)(k:1000<n)(s y:Int)(hy:ej y)(b a:List Int)(g l:Bool)(dg:aa)(x q:Int)(m d:aa)(k0 k1 k2 e c f:Int)(up:Bool)(h i rd:Int)(o:LN d b)(j:a.length<=31):
  dj n (s,y,true,b,a,g,l,dg,x,q,m,d,k0,k1,k2,e,c,f,up,h,i,rd)=(G9 up m d e c f b a y).elim (ob (bh n g l dg x q m d k0 k1 k2 (wrap .i64 (y+s)) up b a) λr=>some (.inl (s,r.1,r.2,b,a,g,l,dg,x,q,m,d,k0,k1,k2,e,c,f,up,h,i,rd))) (λz=>some (.inr (.inl (true,z)))):=by
 unfold dj;simp only[d4,d8,d16,aj,ob,UD n k s y hy b a g l dg x q m d k0 k1 k2 e c f up h i rd o j];cases G9 up m d e c f b a y<;>rfl
def Jd(up:Bool)(Y:Int->Prop)(F:Int->Option (Int×Int×Int))(v:Int):Option (Int×Int×Int)->Prop
 | some z=>∃e,Y e/\Mk.ft up v e/\F e=some z/\∀a,Y a->Mk.ft up v a->¬Mk.ft up e a->F a=none
 | none=>∀e,Y e->Mk.ft up v e->F e=none
def Jv{X:Type}{step:X->Option (X⊕((Bool×Int×Int×Int)⊕(Int×Int×Int)))}{st:Int->Bool->X}{F:Int->Option (Int×Int×Int)}{Y:Int->Prop}{up:Bool}{s lo hi:Int}{E:Int×Int×Int}{fy:Int->Option (Int×Bool)}
  (hs:s=if up then 1 else -1) (x:∀e,Y e->lo<=e/\e<=hi) (M:-10000000000000000<=lo) (d:hi<=10000000000000000)
  (a:∀y,Y y->step (st y true)=(F y).elim (ob (fy (wrap .i64 (y+s))) λr=>some (.inl (st r.1 r.2))) (λz=>some (.inr (.inl (true,z)))))
  (c:∀y,step (st y false)=some (.inr (.inr E)))
  (n:∀v,-9223372036854775808<=v/\v<9223372036854775808->∃w f,fy v=some (w,f)/\Gx up Y v w f):
  ∀(r:Nat) (v y:Int) (f:Bool),Gx up Y v y f->(f=true->(if up then hi - y else y - lo)<(r:Int))->∀N,r<N->
   ∃o,av step N (st y f)=some (o.elim (.inr E) (λz=>.inl (true,z)))/\Jd up Y F v o:=by
 intro r
 induction r with
 | zero=>
  intro v y f k p N H;obtain⟨N,rfl⟩:∃q,N=q+1:=⟨N - 1,by omega⟩;cases f with
  | true=>
   obtain⟨a1,_,_⟩:=k.1 rfl;have:=x y a1;have:=p rfl;cases up<;>simp at this<;>omega
  | false=>
   refine⟨none,by rw[av,c];rfl,λe i j=>absurd j (k.2 rfl e i)⟩
 | succ r ih=>
  intro v y f k p N H;obtain⟨N,rfl⟩:∃q,N=q+1:=⟨N - 1,by omega⟩;cases f with
  | false=>
   refine⟨none,by rw[av,c];rfl,λe i j=>absurd j (k.2 rfl e i)⟩
  | true=>
   obtain⟨a1,a2,C⟩:=k.1 rfl;have L:=x y a1;cases l:F y with
   | some z=>
    refine⟨some z,?_,y,a1,a2,l,λb d m g=>absurd (C b d m) g⟩;rw[av,a y a1,l];rfl
   | none=>
    have J:wrap .i64 (y+s)=y+s:=by
     have:-1<=s/\s<=1:=by rw[hs];cases up<;>simp
     exact wrap_i64 _ (by omega) (by omega)
    obtain⟨w,u,I,B⟩:=n (y+s) (by
     have:-1<=s/\s<=1:=by rw[hs];cases up<;>simp
     omega)
    have hstep':step (st y true)=some (.inl (st w u)):=by
     rw[a y a1,l,J];show ob (fy (y+s)) _=_;rw[I];rfl
    obtain⟨o,G,A⟩:=ih (y+s) w u B (λD=>by
     obtain⟨b1,b2,_⟩:=B.1 D;have:=p rfl;cases up
     ·rw[iN]at b2;simp only[bQ,aF]at hs this ⊢;omega
     ·rw[fw]at b2;simp only[aN]at hs this ⊢;omega) N (by omega)
    refine⟨o,by rw[av,hstep'];exact G,?_⟩;have split:∀b,Y b->Mk.ft up v b->b=y\/Mk.ft up (y+s) b:=λb d m=>by
     have g:=C b d m;cases up
     ·rw[iN]at g ⊢;simp only[bQ,aF]at hs;omega
     ·rw[fw]at g ⊢;simp only[aN]at hs;omega
    cases o with
    | none=>
     intro e i j;rcases split e i j with rfl | h
     ·exact l
     ·exact A e i h
    | some z=>
     obtain⟨e,K,t,c3,c4⟩:=A;refine⟨e,K,?_,c3,λb d m g=>?_⟩
     ·cases up
      ·rw[iN]at t a2 ⊢;simp only[bQ,aF]at hs;omega
      ·rw[fw]at t a2 ⊢;simp only[aN]at hs;omega
     ·rcases split b d m with rfl | h
      ·exact l
      ·exact c4 b d h g
def zB{g l:Bool}{dg:aa}{x:Int}(c:okY g l dg x 0):∃lo hi:Int,(∀e,inP g dg x 0 e->lo<=e/\e<=hi)/\hi - lo<=10000/\-10000000000000000<=lo/\hi<=10000000000000000:=by
 cases f:hasX dg with
 | false=>
  have a:=fS9 c f;by_cases d:-10000000000000000<=(if g then -((val dg x.toNat:Nat):Int)else((val dg x.toNat:Nat):Int))/\(if g then -((val dg x.toNat:Nat):Int)else((val dg x.toNat:Nat):Int))<=10000000000000000
  ·refine⟨_,_,λe b=>?_,?_,d.1,d.2⟩
   ·rw[(a e).1 b];exact⟨sQ _,sQ _⟩
   ·omega
  ·refine⟨0,0,λe b=>?_,by omega,by omega,by omega⟩;exfalso;have:=(a e).1 b;unfold inP at b;exact d ⟨by rw[<-this];exact b.1,by rw[<-this];exact b.2.1⟩
 | true=>
  have a:=Jc c f;obtain⟨_,_,_,i,k⟩:=qW c f;refine⟨if g then -9999 else 0,if g then 0 else 9999,λe b=>?_,by cases g<;>simp,by cases g<;>simp,by cases g<;>simp⟩;have h:=((a e).1 b).1;have:=(Mk.oY h).2.2.2.2;rw[i]at this;have j:(10:Int) ^ 4=10000:=by decide
  unfold wOf at this;cases g
  ·simp at this ⊢;omega
  ·simp at this ⊢;omega
def BX{g:Bool}{dg:aa}{x q e:Int}(h:inP g dg x q e):ej e:=⟨h.1,h.2.1⟩
def JF{g l:Bool}{dg:aa}{x:Int}(e:okY g l dg x 0)(m d:aa)(k0 k1 k2:Int)(a h i:Int)(k:-9223372036854775808<=a/\a<9223372036854775808)(b c:List Int)(A:LN d b)(r:c.length<=31):
  ∃o,jf 20000000 g l dg x 0 m d k0 k1 k2 a h i true b c=some (o.elim (0,0,0,false) λz=>(z.1,z.2.1,z.2.2,true))/\Jd true (inP g dg x 0) (G9 true m d a h i b c) a o:=by
 obtain⟨lo,hi,p,G,n,j⟩:=zB e;obtain⟨w,f,C,q⟩:=LV e m d k0 k1 k2 a k true b c;obtain⟨o,u,B⟩:=Jv (step:=dj 20000000) (st:=λy f=>(1,y,f,b,c,g,l,dg,x,0,m,d,k0,k1,k2,a,h,i,true,0,0,0)) (F:=G9 true m d a h i b c) (Y:=inP g dg x 0) (up:=true) (s:=1) (lo:=lo) (hi:=hi) (E:=(0,0,0)) (fy:=λv=>bh 20000000 g l dg x 0 m d k0 k1 k2 v true b c)
  rfl p n j
  (λy hy=>Q8 20000000 (by omega) 1 y (BX hy) b c g l dg x 0 m d k0 k1 k2 a h i true 0 0 0 A r)
  (λy=>rfl)
  (λv D=>LV e m d k0 k1 k2 v D true b c)
  10002 a w f q (λt=>by have:=p w (q.1 t).1;simp;omega) 20000000 (by omega)
 refine⟨o,?_,B⟩;unfold jf jv;simp only[dL,af,ob,d4,d8,d16,C];have i1':av (dj 20000000) 20000000 (1,w,f,b,c,g,l,dg,x,0,m,d,k0,k1,k2,a,h,i,true,0,0,0)=_:=u;rw[i1'];cases o<;>rfl
def HO(m d:aa)(l n:Int){f e:Int}(h:e≠f)(o g:List Int):G9 true m d f l n o g e=none↔(o.flatMap λa=>(g.filter λk=>decide (k<=vU d e a)).map λk=>(e,a,k))=[]:=by
 have i:(e==f)=false:=aK.2 h;unfold G9;rw[Ta,List.flatMap_eq_nil_iff];have:∀a,GW true m d f l n e g a=none↔((g.filter λk=>decide (k<=vU d e a)).map λk=>(e,a,k))=[]:=by
  intro a;unfold GW MJ Kq;rw[i];simp only[Aq,bQ,aF,Option.map_eq_none_iff,List.find?_eq_none,List.map_eq_nil_iff,List.filter_eq_nil_iff];constructor
  ·intro c k j;have:=c k j;unfold AL at this;simpa using this
  ·intro c k j;have:=c k j;unfold AL;simpa using this
 exact⟨λc a b=>(this a).1 (c a b),λc a b=>(this a).2 (c a b)⟩
def hasF(g:Bool)(dg:aa)(x:Int)(m d:aa):Prop:=∃e,inP g dg x 0 e/\vO m d e≠[]
open Classical in
noncomputable def chkF(g l:Bool)(dg:aa)(x q:Int)(m d:aa)(k0 k1 k2:Int):Int:=
 if chkD g l dg x q m d k0 k1 k2=0/\d≠[]/\¬hasF g dg x m d then 8 else chkD g l dg x q m d k0 k1 k2
def o9{g l:Bool}{dg:aa}{x q:Int}{m d:aa}{k0 k1 k2:Int}(h:chkD g l dg x q m d k0 k1 k2=0):okY g l dg x q/\(m=[]\/m.length=2)/\(d=[]\/d.length=2)/\(0<q->m=[])/\(d≠[]->m≠[]/\sea m=0):=by
 obtain⟨b,k,c3,c4⟩:=Dj h;unfold yrD at b;by_cases a:okY g l dg x q
 ·rw[ae a]at b;refine⟨a,?_,?_,λi=>?_,λf=>?_⟩
  ·rcases k with h | h | h
   ·exact .inl h
   ·exact .inr (G6 h).1
   ·exact .inr (nO (by omega) h).1
  ·rcases c3 with h | ⟨_,_,h⟩
   ·exact .inl h
   ·exact .inr (nO (by omega) h).1
  ·unfold yrB at b;simp only[aB,jX]at b;have:=b.1;rw[ar i,pT]at this;by_cases c:m=[]
   ·exact c
   ·rw[gf c]at this;cases this
  ·rcases c3 with h | ⟨j,e,_⟩
   ·exact absurd h f
   ·exact⟨j,e⟩
 ·rw[ab a]at b;cases b
def QA{g l:Bool}{dg:aa}{x q:Int}(h:okY g l dg x q):0<=q:=(iJ h).2.2.1
def Om{m d:aa}(h:d≠[]->m≠[]/\sea m=0):LN d (monI m):=by
 refine⟨qZ (Hi m) (by omega),λb g a=>?_⟩;obtain⟨c,f⟩:=h b;unfold monI at a;rw[ab c,ab (by omega)]at a;obtain⟨k,e,rfl⟩:=eF.1 a;have:=tO.1 (l8.1 e).1;omega
def wm{g l:Bool}{dg:aa}{x q:Int}{m d:aa}{k0 k1 k2:Int}(s:m.length<=18)(p:dg.length<=100)(v:0<=k0)(C:0<=k1)(A:0<=k2):
  bj 20000000 g l dg x q m d k0 k1 k2=some (chkF g l dg x q m d k0 k1 k2):=by
 unfold bj chkF;rw[AS 20000000 (by omega) g l dg x q m d k0 k1 k2 s p v C A];simp only[ob];by_cases hc:chkD g l dg x q m d k0 k1 k2=0
 ·obtain⟨f,t,n,B,c⟩:=o9 hc;rw[hc];simp only[eT,af];by_cases i:d=[]
  ·subst i;rw[ab (by simp)];rfl
  ·rw[gf i,af];have r:q=0:=by
    have:=QA f;by_cases h:0<q
    ·exact absurd (B h) (c i).1
    ·omega
   subst r;have e:=YQ 20000000 (by omega) g l dg x 0 m d k0 k1 k2 t n;have k:=Om c;obtain⟨o,o1,u⟩:=JF f m d k0 k1 k2 (-9223372036854775808) 0 0 (by omega) (monI m) (dayI d) k (I1 d);have b:∀e,inP g dg x 0 e->e≠-9223372036854775808:=λe D=>by have:=BX D;unfold ej at this;omega
   have key:(∃z,o=some z)↔hasF g dg x m d:=by
    constructor
    ·rintro⟨z,rfl⟩;obtain⟨e,a,_,c3,_⟩:=u;refine⟨e,a,λw=>?_⟩;have:=(HO m d 0 0 (b e a) (monI m) (dayI d)).2 w;rw[this]at c3;cases c3
    ·rintro⟨e,a,y⟩;cases o with
     | some z=>exact⟨z,rfl⟩
     | none=>
      have:=u e a (by rw[fw];have:=BX a;unfold ej at this;omega);exact absurd ((HO m d 0 0 (b e a) (monI m) (dayI d)).1 this) y
   rw[e];by_cases j:hasF g dg x m d
   ·obtain⟨z,rfl⟩:=key.2 j;rw[ab (λh=>h.2.2 j)]
    all_goals
     simp only[d4,d8,o1];rfl
   ·have E:o=none:=by
     cases o with
     | none=>rfl
     | some z=>exact absurd (key.1 ⟨z,rfl⟩) j
    subst E;rw[ae ⟨rfl,i,j⟩]
    all_goals
     simp only[d4,d8,o1];rfl
 ·rw[ab (λh=>hc h.1)];have:(chkD g l dg x q m d k0 k1 k2 != 0)=true:=by simp[hc]
  rw[this];rfl
def Qc {g l:Bool} {dg:aa} {x:Int} (c:okY g l dg x 0) (m d:aa) (k0 k1 k2:Int):
  ∃r,kZ 20000000 g l dg x 0 m d k0 k1 k2=some r/\(r=1/\hasF g dg x m d\/r=0/\¬hasF g dg x m d):=by
 have H:=iJ c;obtain ⟨lo,hi,A,R,O,E⟩:=zB c;obtain ⟨F,P,J⟩:=FL c;have u:=Q0 19999700 g l dg x 0 (by omega) c;unfold kZ;rw [show (20000000:Nat)=19999700+300 from rfl,u];simp only [ob];generalize (sgn g (od g dg x 0)).1=a at *;generalize (sgn g (od g dg x 0)).2=b at *;have Q:=A a F;have hb':=A b P;have M:=λy=>X5 19999700 c y;have step:∀i y,((List.range (b - a+1).toNat).map (λj:Nat=>a+(j:Int)))[i]?=some y->i<(b - a+1).toNat/\y=a+(i:Int):=by
  intro i y h;rw [nX] at h;cases w:(List.range (b - a+1).toNat)[i]? with
  | none=>rw [w] at h;cases h
  | some j=>
   rw [w] at h;have hi:=nc.1 w;obtain ⟨C,B⟩:=hi;rw [List.getElem_range] at B;rw [List.length_range] at C;subst B;exact ⟨C,(br h).symm⟩
 have p:((List.range (b - a+1).toNat).map (λj:Nat=>a+(j:Int))).length=(b - a+1).toNat:=by simp
 have:=uQ (step:=gj (19999700+300)) (f:=λi=>(b,a+(i:Int),g,l,dg,x,0,m,d,k0,k1,k2)) (L:=(List.range (b - a+1).toNat).map (λj:Nat=>a+(j:Int))) (G:=λy=>if inP g dg x 0 y/\vO m d y≠[] then some (.inl 1) else none) (e:=.inr ())
  (λi y h=>by
   obtain ⟨hi,rfl⟩:=step i y h;have K:wrap .i64 (a+(i:Int)+1)=a+((i+1:Nat):Int):=by rw [wrap_i64 _ (by omega) (by omega)];omega
   unfold gj;simp only [d4,d8,K];rw [ar (show a+(i:Int)<=b by omega),M,KD (19999700+300) (by omega)];by_cases k:inP g dg x 0 (a+(i:Int))
   ·rw [ae k];by_cases o:vO m d (a+(i:Int))=[]
    ·rw [ab (λh=>h.2 o),o];rfl
    ·rw [ae ⟨k,o⟩];have hp:0<(vO m d (a+(i:Int))).length:=List.length_pos_iff.2 o;have D:decide ((((vO m d (a+(i:Int))).length:Nat):Int)>0)=true:=ar (by omega);simp only [aj,ob,D];rfl
   ·rw [ab k,ab (λh=>k h.1)];rfl)
  (by
   unfold gj;simp only [d4,d8];rw [p,au (show ¬a+(((b - a+1).toNat:Nat):Int)<=b by omega)];rfl)
  (N:=19999700+300) (by rw [p];omega)
 rw [show a+((0:Nat):Int)=a by omega] at this;rw [this];cases q:(List.findSome? (λy=>if inP g dg x 0 y/\vO m d y≠[] then some (Sum.inl (1:Int)) else none) ((List.range (b - a+1).toNat).map (λj:Nat=>a+(j:Int))):Option (Int⊕Unit)) with
 | none=>
  refine ⟨0,rfl,.inr ⟨rfl,?_⟩⟩;rintro ⟨e,s,v⟩;rw [Ta] at q;have hs:=J e s;have:=q e (eF.2 ⟨(e - a).toNat,ju.2 (by omega),by omega⟩);rw [ae ⟨s,v⟩] at this;cases this
 | some z=>
  obtain ⟨y,I,n⟩:=List.exists_of_findSome?_eq_some q;by_cases t:inP g dg x 0 y/\vO m d y≠[]
  ·rw [ae t] at n;obtain rfl:=br n;exact ⟨1,rfl,.inl ⟨rfl,y,t.1,t.2⟩⟩
  ·rw [ab t] at n;cases n
def G2{g l:Bool}{dg:aa}{x q:Int}{m d:aa}{k0 k1 k2:Int}(e:dg.length<=100)(s:0<=k0)(p:0<=k1)(j:0<=k2):
  kj 20000000 g l dg x q m d k0 k1 k2=some (chkF g l dg x q m d k0 k1 k2):=by
 unfold kj chkF;rw[FC 20000000 (by omega) g l dg x q m d k0 k1 k2 e s p j];simp only[ob];by_cases hc:chkD g l dg x q m d k0 k1 k2=0
 ·obtain⟨a,t,k,n,i⟩:=o9 hc;rw[hc];by_cases b:d=[]
  ·subst b;rw[ab (by simp)];rfl
  ·have c:q=0:=by
    have:=QA a;by_cases h:0<q
    ·exact absurd (n h) (i b).1
    ·omega
   subst c;obtain⟨r,u,o⟩:=Qc a m d k0 k1 k2;rw[gf b,u];rcases o with⟨rfl,f⟩ | ⟨rfl,f⟩
   ·rw[ab (λh=>h.2.2 f)];rfl
   ·rw[ae ⟨rfl,b,f⟩];rfl
 ·rw[ab (λh=>hc h.1)];have:(chkD g l dg x q m d k0 k1 k2==0)=false:=aK.2 hc;rw[this];rfl
def pJ{g l:Bool}{dg:aa}{x q:Int}{m d:aa}{k0 k1 k2:Int}(h:chkF g l dg x q m d k0 k1 k2=0):chkD g l dg x q m d k0 k1 k2=0:=by
 unfold chkF at h;split at h
 ·cases h
 ·exact h
def bne0{e:Int}(h:e≠0):(e != 0)=true:=by simp[h]
def Jj{m d:aa}{y:Int}{z:Int×Int×Int}:z∈vO m d y↔z.1=y/\z.2.1∈monI m/\z.2.2∈dayI d/\z.2.2<=vU d y z.2.1:=by
 unfold vO vN;simp only[Gi,eF,l8,ch];constructor
 ·rintro⟨f,b,k,⟨a,c⟩,rfl⟩;exact⟨rfl,b,a,c⟩
 ·rintro⟨e,b,a,c⟩;exact⟨z.2.1,b,z.2.2,⟨a,c⟩,by rw[<-e]⟩
def Uf(y:Int)(i:Nat):(minL i:Int)<=lenI y (i:Int):=by
 unfold minL lenI
 repeat' split
 all_goals omega
def Qo{g l:Bool}{dg:aa}{x:Int}(b:okY g l dg x 0){m d:aa}(q:m≠[])(hs:sea m=0)(f:d≠[])(a:fitD m d=true):hasF g dg x m d:=by
 obtain⟨n,_,_⟩:=FL b;refine⟨_,n,?_⟩;unfold fitD at a;simp only[sX,aB]at a;obtain⟨i,hi,j,k,p,c⟩:=a;have hi':=tO.1 hi;have hk':=tO.1 p;have o:minL i<=31:=by
  unfold minL
  repeat' split
  all_goals omega
 have h:((sgn g (od g dg x 0)).1,(i:Int),(k:Int))∈vO m d (sgn g (od g dg x 0)).1:=by
  rw[Jj];refine⟨rfl,?_,?_,?_⟩
  ·unfold monI;rw[ab q,ab (by omega)];exact eF.2 ⟨i,l8.2 ⟨hi,j⟩,rfl⟩
  ·unfold dayI;rw[ab f];exact eF.2 ⟨k,l8.2 ⟨tO.2 (by omega),c⟩,rfl⟩
  ·unfold vU;rw[ab f];have:=Uf (sgn g (od g dg x 0)).1 i;show(k:Int)<=lenI (sgn g (od g dg x 0)).1 (i:Int);omega
 intro e;rw[e]at h;cases h
def I3{g l:Bool}{dg:aa}{x q:Int}{m d:aa}{k0 k1 k2:Int}(hc:chkD g l dg x q m d k0 k1 k2=0)(n:d=[]\/fitD m d=true):chkF g l dg x q m d k0 k1 k2=0:=by
 obtain⟨a,p,j,k,e⟩:=o9 hc;unfold chkF;rw[ab,hc];rintro⟨_,c,o⟩;obtain⟨f,i⟩:=e c;have b:q=0:=by
  have:=QA a;by_cases h:0<q
  ·exact absurd (k h) f
  ·omega
 subst b;exact o (Qo a f i c (n.resolve_left c))
def plN(P:Nat×Nat×Nat)(i:Nat):Nat:=if i=0 then P.1 else if i=1 then P.2.1 else P.2.2
def AG{g l:Bool}{dg:aa}{x q:Int}{m d:aa}{k0 k1 k2:Int}(a:allM k0 k1 k2 (bH m d)=0):chkF g l dg x q m d k0 k1 k2=0\/chkF g l dg x q m d k0 k1 k2=6\/chkF g l dg x q m d k0 k1 k2=7\/chkF g l dg x q m d k0 k1 k2=8:=by
 unfold chkF;split
 ·exact .inr (.inr (.inr rfl))
 ·exact L2 a
noncomputable def chkR(r:DR):Nat:=(chkF r.1 r.2.1 r.2.2.1 (r.2.2.2.1:Int) (r.2.2.2.2.1:Int) r.2.2.2.2.2.1 r.2.2.2.2.2.2.1 (r.2.2.2.2.2.2.2.1.1:Int) (r.2.2.2.2.2.2.2.1.2.1:Int) (r.2.2.2.2.2.2.2.1.2.2:Int)).toNat
noncomputable def fL(S:aa)(a:Nat):(Nat×Nat×Nat)⊕DR:=
 match uD S a with
 | .inl k=>.inl (k,5,k)
 | .inr r=>if chkR r=0 then .inr r else .inl (plN r.2.2.2.2.2.2.2.2.1 (chkR r - 6),chkR r,r.2.2.2.2.2.2.2.2.2)
def Wc(S:aa):(Nat×Nat×Nat)⊕DR->(Int×Int×aa×Int)⊕(Bool×Bool×aa×Int×Int×aa×aa×Int×Int×Int×Int×aa×Int)
 | .inl (k,E,p)=>.inl ((k:Int),(E:Int),S,(p:Int))
 | .inr (g,l,dg,x,s,m,d,M,P,e)=>.inr (g,l,dg,(x:Int),(s:Int),m,d,(M.1:Int),(M.2.1:Int),(M.2.2:Int),(P.1:Int),S,(e:Int))
def GB(S:aa)(a:Nat)(h:a<=S.length)(j:S.length<100000):iy 20000000 S (a:Int)=some (Wc S (fL S a)):=by
 have o:jU 20000000 S (a:Int)=_:=Uy 19999700 S a h j (by omega);unfold iy fL;rw[o];cases i:uD S a with
 | inl k=>rfl
 | inr r=>
  obtain⟨g,l,dg,x,s,f,d,M,P,e⟩:=r;have b:=HC h i;have p:=b.all;have t:=b.m2;have n:=b.dg17;simp only[ob,Wl,d4,d8];rw[wm (g:=g) (l:=l) (x:=(x:Int)) (q:=(s:Int)) (d:=d) (show f.length<=18 by omega) (show dg.length<=100 by omega) (show(0:Int)<=(M.1:Int)by omega) (show(0:Int)<=(M.2.1:Int)by omega) (show(0:Int)<=(M.2.2:Int)by omega)];simp only[ob];have c:=AG (g:=g) (l:=l) (dg:=dg) (x:=(x:Int)) (q:=(s:Int)) (m:=f) (d:=d) (k0:=(M.1:Int)) (k1:=(M.2.1:Int)) (k2:=(M.2.2:Int)) (ya p);unfold chkR;simp only[];rcases c with hc | hc | hc | hc<;>rw[hc]<;>rfl
def dayY(y:Int):Int:=365*y+(1+(y - 1) / 4 - (y - 1) / 100+(y - 1) / 400)
def cumM(y:Int):Nat->Int
 | 0=>0
 | k+1=>cumM y k+lenI y ((k+1:Nat):Int)
def dayM(y:Int)(m:Nat):Int:=if m<=12 then dayY y+cumM y (m - 1)else dayY (y+1)+cumM (y+1) (m - 13)
def yz(y:Int):dayY (y+1)=dayY y+365+(if th y then 1 else 0):=by
 unfold dayY th;simp only[aB,iq,ch];split<;>omega
def HJ(n:Int):dayY (400*n)=146097*n:=by
 unfold dayY;omega
def kB{y:Int}(h:-20000000000000000<=y/\y<=20000000000000000):-8000000000000000000<=dayY y/\dayY y<=8000000000000000000:=by
 unfold dayY;omega
def YP(y:Int):cumM y 12=365+(if th y then 1 else 0):=by
 have e:∀k:Nat,cumM y (k+1)=cumM y k+lenI y ((k+1:Nat):Int):=λ_=>rfl;have z:cumM y 0=0:=rfl;rw[e 11,e 10,e 9,e 8,e 7,e 6,e 5,e 4,e 3,e 2,e 1,e 0,z];unfold lenI;cases th y<;>rfl
def rB(y:Int):∀k:Nat,0<=cumM y k/\cumM y k<=31*(k:Int)
 | 0=>by simp[cumM]
 | k+1=>by
  have b:=rB y k;have a:=jD y ((k+1:Nat):Int);show 0<=cumM y k+lenI y ((k+1:Nat):Int)/\cumM y k+lenI y ((k+1:Nat):Int)<=_;omega
def pB{y:Int}(h:ej y){m:Nat}(a:m<=24):-8100000000000000000<=dayM y m/\dayM y m<=8100000000000000000:=by
 unfold ej at h;unfold dayM;split
 ·have:=rB y (m - 1);have:=kB (y:=y) (by omega);omega
 ·have:=rB (y+1) (m - 13);have:=kB (y:=y+1) (by omega);omega
def Vy(y:Int):dayM y 13=dayY (y+1):=by
 unfold dayM;rw[ab (by omega)];simp[cumM]
def wZ(y:Int){m:Nat}(b:1<=m)(a:m<=12):dayM y (m+1)=dayM y m+lenI y (m:Int):=by
 obtain⟨k,rfl⟩:∃k,m=k+1:=⟨m - 1,by omega⟩;have e:dayM y (k+1)=dayY y+cumM y k:=by unfold dayM;rw[ae (by omega)];rfl
 rw[e];by_cases h:k+1=12
 ·obtain rfl:k=11:=by omega
  rw[Vy,yz];have:=YP y;have e:cumM y 12=cumM y 11+lenI y ((11+1:Nat):Int):=rfl;omega
 ·have:dayM y (k+1+1)=dayY y+cumM y (k+1):=by unfold dayM;rw[ae (by omega)];rfl
  rw[this];show dayY y+(cumM y k+lenI y ((k+1:Nat):Int))=_;omega
def uN(y:Int){m:Nat}(b:1<=m)(a:m<=12):dayM y (m+12)=dayM (y+1) m:=by
 unfold dayM;rw[ab (by omega),ae a];congr 2
def sR(n:Nat){y:Int}(h:-10000000000000001<=y/\y<=10000000000000001):lX n y=some (dayY y):=by
 have a:=kB (y:=y) (by omega);unfold lX;rw[xy n (by omega),wrap_i64 (365*y) (by omega) (by omega)];show some (wrap .i64 (dayY y))=_;rw[wrap_i64 _ (by omega) (by omega)]
def sK(n:Nat){y:Int}(h:ej y):mc n y=some (dayY y,0):=by
 unfold mc;have h':=h;unfold ej at h';rw[gG,ae h,sR n (by omega)];rfl
def C7(n:Nat){y:Int}(h:ej y):uk n y=some (dayY (y+1) - 1,0):=by
 unfold uk;have h':=h;unfold ej at h';have a:=kB (y:=y+1) (by omega);rw[gG,ae h,wrap_i64 (y+1) (by omega) (by omega),sR n (by omega)];show some (wrap .i64 (dayY (y+1) - 1),(0:Int))=_;rw[wrap_i64 _ (by omega) (by omega)]
def F8(n:Nat){y:Int}(h:ej y){m:Nat}(e:m<=11):∀(r j:Nat),j+r=m->∀N,r<N->av (bI n) N (y,dayY y+cumM y j,(m:Int),(j:Int))=some (dayY y+cumM y m):=by
 have h':=h;unfold ej at h';have c:=kB (y:=y) (by omega);intro r
 induction r with
 | zero=>
  intro j a N b;obtain⟨N,rfl⟩:∃k,N=k+1:=⟨N - 1,by omega⟩;obtain rfl:j=m:=by omega
  have:bI n (y,dayY y+cumM y j,(j:Int),(j:Int))=some (.inr (dayY y+cumM y j)):=by
   unfold bI;rw[bW,ab (show¬((j:Int)<(j:Int))by omega)]
  rw[av,this]
 | succ r ih=>
  intro j a N b;obtain⟨N,rfl⟩:∃k,N=k+1:=⟨N - 1,by omega⟩;have w:wrap .i64 ((j:Int)+1)=((j+1:Nat):Int):=by rw[wrap_i64 _ (by omega) (by omega)];omega
  have hc:=rB y j;have d:=jD y ((j+1:Nat):Int);have:bI n (y,dayY y+cumM y j,(m:Int),(j:Int))=some (.inl (y,dayY y+cumM y (j+1),(m:Int),((j+1:Nat):Int))):=by
   unfold bI;rw[bW,ae (show((j:Int)<(m:Int))by omega)];simp only[w,xi n h (show 1<=j+1 by omega) (show j+1<=12 by omega),ob];rw[wrap_i64 (dayY y+cumM y j+lenI y ((j+1:Nat):Int)) (by omega) (by omega),Int.add_assoc];rfl
  rw[av,this];exact ih (j+1) (by omega) N (by omega)
def uC(n:Nat)(c:100<n){y:Int}(h:ej y){m:Nat}(b:1<=m)(a:m<=12):fJ n y (m:Int)=some (dayM y m,0):=by
 unfold fJ;have w:wrap .i64 ((m:Int) - 1)=((m - 1:Nat):Int):=by rw[wrap_i64 _ (by omega) (by omega)];omega
 rw[Hj n h b a,sK n h,w];have:=F8 n h (m:=m - 1) (by omega) (m - 1) 0 (by omega) n (by omega);rw[show dayY y+cumM y 0=dayY y by simp[cumM]]at this;show ob (av (bI n) n (y,dayY y,((m - 1:Nat):Int),((0:Nat):Int))) _=_;rw[this];unfold dayM;rw[ae a];rfl
def G1(n:Nat)(c:100<n){y:Int}(h:ej y){m:Nat}(b:1<=m)(a:m<=12):ib n y (m:Int)=some (dayM y (m+1) - 1,0):=by
 unfold ib;have d:=pB h (m:=m) (by omega);have e:=jD y (m:Int);rw[uC n c h b a,xi n h b a,wZ y b a];show some (wrap .i64 (wrap .i64 (dayM y m+lenI y (m:Int)) - 1),(0:Int))=_;rw[wrap_i64 (dayM y m+lenI y (m:Int)) (by omega) (by omega),wrap_i64 _ (by omega) (by omega)]
def JU(n:Nat)(d:100<n){y:Int}(h:ej y){j m c:Nat}(i:j<21)(e:n8[j]?=some ((m:Int),(c:Int)))(g:1<=m)(f:m<=12)(l:1<=c)(k:c<=6)(hy:12<m+c - 1->y≠10000000000000000):
  iC n y ((21+j:Nat):Int)=some (0,dayM y m,0,dayM y (m+c) - 1,0):=by
 have o:fH n ((21+j:Nat):Int)=some ((m:Int),(c:Int),0):=by
  unfold fH dT;rw[bW,bW,ab (by omega),ab (by omega)];have:wrap .i64 (((21+j:Nat):Int) - 21)=(j:Int):=by rw[wrap_i64 _ (by omega) (by omega)];omega
  rw[this,cT i];show ob (n8[j]?) _=_;rw[e];rfl
 unfold iC;rw[o];simp only[ob,eT,af];rw[uC n d h g f];simp only[ob,eT,af];rw[madd n h g f l k];have h':=h;unfold ej at h';by_cases a:12<m+c - 1
 ·rw[ae a,ab (hy a)];have b:ej (y+1):=by unfold ej;have:=hy a;omega
  simp only[ob,eT,af];rw[G1 n d b (m:=m+c - 1 - 12) (by omega) (by omega)];have:=uN y (m:=m+c - 1 - 12+1) (by omega) (by omega);rw[show m+c - 1 - 12+1+12=m+c by omega]at this;rw[this]
 ·rw[ab a];simp only[ob,eT,af];rw[G1 n d h (m:=m+c - 1) (by omega) (by omega),show m+c - 1+1=m+c by omega]
def AH(n:Nat){y:Int}(hy:-10000000000000002<=y/\y<=10000000000000002):∀(r:Nat) (z:Int),z+(r:Int)=y->-10000000000000402<=z->∀N,r<N->av (dh n) N (y,dayY z,z)=some (dayY y):=by
 intro r
 induction r with
 | zero=>
  intro z d a N c;obtain⟨N,rfl⟩:∃k,N=k+1:=⟨N - 1,by omega⟩;obtain rfl:z=y:=by omega
  have:dh n (z,dayY z,z)=some (.inr (dayY z)):=by
   unfold dh;rw[bW,ab (show¬(z<z)by omega)]
  rw[av,this]
 | succ r ih=>
  intro z d a N c;obtain⟨N,rfl⟩:∃k,N=k+1:=⟨N - 1,by omega⟩;have f:=kB (y:=z) (by omega);have b:=yz z;have:dh n (y,dayY z,z)=some (.inl (y,dayY (z+1),z+1)):=by
   unfold dh;rw[bW,ae (show z<y by omega),A4];have e:lenI z 2=if th z then 29 else 28:=rfl
   simp only[ob,e];rw[wrap_i64 (dayY z+365) (by omega) (by omega),wrap_i64 (dayY z+365+1) (by omega) (by omega),wrap_i64 (z+1) (by omega) (by omega),b];cases th z
   ·simp
   ·rfl
  rw[av,this];exact ih (z+1) (by omega) (by omega) N (by omega)
def rW(n:Nat)(e:1000<n){y:Int}(hy:-10000000000000002<=y/\y<=10000000000000002):cn n y=some (dayY y):=by
 have b:=Int.mul_tdiv_add_tmod y 400;have d:Int.tmod y 400=if 0<=y then y%400 else -((-y)%400):=by
  by_cases h:0<=y
  ·rw[ae h,O3 h]
  ·rw[ab h,<-O3 (show 0<=-y by omega),Int.neg_tmod,Int.neg_neg]
 unfold cn;by_cases a:Int.tmod y 400<0
 ·rw[ar a];have c:Int.tdiv y 400 - 1=y / 400:=by
   rw[d]at a b;split at a
   ·omega
   ·rw[ab (by assumption)]at b;omega
  rw[wrap_i64 (Int.tdiv y 400) (by omega) (by omega),c,wrap_i64 (y / 400) (by omega) (by omega),wrap_i64 (y / 400*146097) (by omega) (by omega),wrap_i64 (y / 400*400) (by omega) (by omega)];have:=AH n hy (y - y / 400*400).toNat (y / 400*400) (by omega) (by omega) n (by omega);rw[show dayY (y / 400*400)=y / 400*146097 by rw[zF,HJ,zF]]at this;simp only[aj,this,ob]
 ·rw[au a];have c:Int.tdiv y 400=y / 400:=by
   rw[d]at a b;split at a
   ·rw[ae (by assumption)]at b;omega
   ·rw[ab (by assumption)]at b;omega
  rw[c,wrap_i64 (y / 400) (by omega) (by omega),wrap_i64 (y / 400*146097) (by omega) (by omega),wrap_i64 (y / 400*400) (by omega) (by omega)];have:=AH n hy (y - y / 400*400).toNat (y / 400*400) (by omega) (by omega) n (by omega);rw[show dayY (y / 400*400)=y / 400*146097 by rw[zF,HJ,zF]]at this;simp only[af,this,ob]
def wN{step:Int×Int×Int×Int->Option ((Int×Int×Int×Int)⊕Int)}(n:Nat)
  (hs:step=λx=>(cond (decide (x.2.2.2<x.2.1)) (ob (eQ n x.1 x.2.2.2) λr=>(some (.inl (x.1,x.2.1,(wrap .i64 (x.2.2.1+r)),(wrap .i64 (x.2.2.2+1)))))) (some (.inr x.2.2.1))))
  {y:Int} (hy:-10000000000000002<=y/\y<=10000000000000002) {m:Nat} (f:1<=m) (b:m<=12) {N:Nat} (a:20<N):av step N (y,(m:Int),dayY y,1)=some (dayM y m):=by
 have g:=kB (y:=y) (by omega);have d:∀(r j:Nat),j+1+r=m->∀N,r<N->av step N (y,(m:Int),dayY y+cumM y j,((j+1:Nat):Int))=some (dayY y+cumM y (m - 1)):=by
  intro r
  induction r with
  | zero=>
   intro j c N a;obtain⟨N,rfl⟩:∃k,N=k+1:=⟨N - 1,by omega⟩;obtain rfl:j+1=m:=by omega
   have:step (y,((j+1:Nat):Int),dayY y+cumM y j,((j+1:Nat):Int))=some (.inr (dayY y+cumM y j)):=by
    rw[hs];simp only[];rw[au (show¬(((j+1:Nat):Int)<((j+1:Nat):Int))by omega)];rfl
   rw[av,this];rfl
  | succ r ih=>
   intro j c N a;obtain⟨N,rfl⟩:∃k,N=k+1:=⟨N - 1,by omega⟩;have w:wrap .i64 (((j+1:Nat):Int)+1)=((j+1+1:Nat):Int):=by rw[wrap_i64 _ (by omega) (by omega)];omega
   have hc:=rB y j;have h:=jD y ((j+1:Nat):Int);have:step (y,(m:Int),dayY y+cumM y j,((j+1:Nat):Int))=some (.inl (y,(m:Int),dayY y+cumM y (j+1),((j+1+1:Nat):Int))):=by
    rw[hs];simp only[];rw[ar (show(((j+1:Nat):Int)<(m:Int))by omega),A4];simp only[aj,ob,w];rw[wrap_i64 (dayY y+cumM y j+lenI y ((j+1:Nat):Int)) (by omega) (by omega),Int.add_assoc];rfl
   rw[av,this];exact ih (j+1) (by omega) N (by omega)
 have:=d (m - 1) 0 (by omega) N (by omega);rw[show dayY y+cumM y 0=dayY y by simp[cumM]]at this;have e:dayM y m=dayY y+cumM y (m - 1):=by unfold dayM;rw[ae b]
 rw[e];exact this
def rF(n:Nat)(a:1000<n){y:Int}(hy:-10000000000000001<=y/\y<=10000000000000001){m:Nat}(c:1<=m)(b:m<=24):aR n y (m:Int)=some (dayM y m):=by
 unfold aR;by_cases h:12<m
 ·rw[ar (show(m:Int)>12 by omega),wrap_i64 (y+1) (by omega) (by omega),wrap_i64 ((m:Int) - 12) (by omega) (by omega),show(m:Int) - 12=((m - 12:Nat):Int)by omega];unfold ku;rw[au (show¬((m - 12:Nat):Int)>12 by omega),rW n a (by omega)];simp only[aj,af,ob];have:=wN (step:=i6 n) n rfl (y:=y+1) (by omega) (m:=m - 12) (by omega) (by omega) (N:=n) (by omega);rw[this,<-uN y (by omega) (by omega),show m - 12+12=m by omega]
 ·rw[au (show¬(m:Int)>12 by omega),rW n a (by omega)];simp only[af,ob];have:=wN (step:=ky n) n rfl (y:=y) (by omega) (m:=m) (by omega) (by omega) (N:=n) (by omega);rw[this]
def twoV(s:aa):Nat:=match s with
 | [a,b]=>10*(a.toNat - 48)+(b.toNat - 48)
 | _=>0
def yOf(g:Bool)(dg:aa)(x:Int):Int:=if g then -((val dg x.toNat:Nat):Int)else((val dg x.toNat:Nat):Int)
def spF(m:aa):Nat:=((n8.getD (sea m - 21).toNat (0,0)).1).toNat
def spC(m:aa):Nat:=((n8.getD (sea m - 21).toNat (0,0)).2).toNat
def ox(g:Bool)(dg:aa)(x:Int)(m d:aa):Int×Int:=
 if m=[]then(dayY (yOf g dg x),dayY (yOf g dg x+1) - 1)
 else if 0<sea m then(dayM (yOf g dg x) (spF m),dayM (yOf g dg x) (spF m+spC m) - 1)
 else if d=[]then(dayM (yOf g dg x) (twoV m),dayM (yOf g dg x) (twoV m+1) - 1)
 else(dayM (yOf g dg x) (twoV m)+(twoV d:Int) - 1,dayM (yOf g dg x) (twoV m)+(twoV d:Int) - 1)
def exD(dg m d:aa)(q:Int):Bool:=!(hasX dg||(hasX m||hasX d))&&(q==0)
def S8{s:aa}(h:hasX s=false){c:UInt8}(hc:c∈s):c≠88:=by
 rintro rfl;unfold hasX at h;rw[sW]at h;exact h 88 hc (by decide)
def K0{s:aa}(h:hasX s=false){k:Nat}(l:k<100)(c:agr s k=true):twoV s=k/\s=two k:=by
 unfold agr at c;split at c
 ·rename_i a b;have f:a≠88:=S8 h (by simp);have e:b≠88:=S8 h (by simp);simp only[aB,iq,bL]at c;obtain⟨g,d⟩:=c;have g:=g.resolve_left f;have d:=d.resolve_left e;subst g d;refine⟨?_,rfl⟩;unfold twoV;have j:(UInt8.ofNat (48+k / 10)).toNat=48+k / 10:=by simp;omega
  have i:(UInt8.ofNat (48+k%10)).toNat=48+k%10:=by simp;omega
  simp only[j,i];omega
 ·cases c
def AE{s:aa}(h:hasX s=false){g:Nat}(d:g<100)(a:ei s g=true):1<=twoV s/\twoV s<=g/\s=two (twoV s):=by
 unfold ei at a;obtain⟨i,hi,a⟩:=sX.1 a;have:=ju.1 hi;obtain⟨c,b⟩:=K0 h (by omega) a;rw[c];exact⟨by omega,by omega,b⟩
def OV{s:aa}(h:hasX s=false){g:Nat}(d:g<100){k:Int}(c:k∈uK (fitN s g)):k=(twoV s:Int):=by
 obtain⟨i,hi,rfl⟩:=eF.1 c;obtain⟨b,a⟩:=l8.1 hi;have:=tO.1 b;rw[(K0 h (by omega) a).1]
def H3{k:Nat}(c:k<100):Lib.atoi (two k)=some (k:Int):=by
 have a:(UInt8.ofNat (48+k / 10)).toNat=48+k / 10:=by simp;omega
 have b:(UInt8.ofNat (48+k%10)).toNat=48+k%10:=by simp;omega
 unfold two;rw[HS (by omega) (by omega),a,b];congr 2;omega
def Ar(n:Nat){k:Nat}(d:k<100):aY n (two k)=some (k:Int):=by
 have b:(UInt8.ofNat (48+k / 10)).toNat=48+k / 10:=by simp;omega
 have c:(UInt8.ofNat (48+k%10)).toNat=48+k%10:=by simp;omega
 have s0:sx (two k) 0=some (UInt8.ofNat (48+k / 10)):=rfl;have a:sx (two k) 1=some (UInt8.ofNat (48+k%10)):=rfl;unfold aY;rw[s0,a];simp only[ob,b,c]
 rw[gK (((48+k / 10:Nat):Int) - 48) (by omega) (by omega),gK (((48+k%10:Nat):Int) - 48) (by omega) (by omega),
  wrap_i64 (((48+k / 10:Nat):Int) - 48) (by omega) (by omega),wrap_i64 (((48+k%10:Nat):Int) - 48) (by omega) (by omega),
  wrap_i64 (10*(((48+k / 10:Nat):Int) - 48)) (by omega) (by omega),wrap_i64 _ (by omega) (by omega)]
 congr 1;omega
structure Exact(g l:Bool)(dg:aa)(x:Int)(m d:aa):Prop where
 ok:okY g l dg x 0
 num:hasX dg=false
 cal:ej (yOf g dg x)
 mon:m=[]\/(∃j,j<21/\m=two (21+j)/\(j=3\/j=7\/j=9->yOf g dg x≠10000000000000000))\/(sea m=0/\1<=twoV m/\twoV m<=12/\m=two (twoV m))
 day:d=[]\/(m≠[]/\sea m=0/\1<=twoV d/\twoV d<=31/\d=two (twoV d)/\(twoV d:Int)<=lenI (yOf g dg x) (twoV m:Int))
def vW{g l:Bool}{dg:aa}{x q:Int}{m d:aa}{k0 k1 k2:Int}(hc:chkF g l dg x q m d k0 k1 k2=0)(r:exD dg m d q=true):q=0/\Exact g l dg x m d:=by
 unfold exD at r;simp only[aB,jX,qO,bL]at r;obtain⟨⟨B,f,n⟩,rfl⟩:=r;refine⟨rfl,?_⟩;have y:=pJ hc;obtain⟨a,O,M,P,C⟩:=o9 y;obtain⟨p,K,c3,c4⟩:=Dj y;have i:=fS9 a B;obtain⟨F,_,_⟩:=FL a;have hy:inP g dg x 0 (yOf g dg x):=by
  have:=(i _).1 F;have e:yOf g dg x=(sgn g (od g dg x 0)).1:=by rw[this];rfl
  rw[e];exact F
 have o:=BX hy;refine⟨a,B,o,?_,?_⟩
 ·by_cases k:m=[]
  ·exact .inl k
  ·right;rcases pU m with H | ⟨j,G,e⟩
   ·right;rcases K with h | h | h
    ·exact absurd h k
    ·omega
    ·obtain⟨a1,a2,E⟩:=AE f (by omega) h;exact⟨H,a1,a2,E⟩
   ·left;refine⟨j,G,e,λN=>?_⟩;unfold yrD at p;rw[ae a]at p;unfold yrB at p;simp only[aB,jX]at p;have t:wint (sea m)=true:=by
     rw[e,ll G];rcases N with rfl | rfl | rfl<;>rfl
    have s:=p.2;rw[t,pT]at s;unfold rN at s;rw[B]at s;intro b;unfold yOf at b;cases g with
    | true=>
     simp only[aN]at b;omega
    | false=>
     simp only[bQ,aF]at b;have:val dg x.toNat=E16:=by unfold E16;omega
     rw[ar this]at s;cases s
 ·by_cases c:d=[]
  ·exact .inl c
  ·right;obtain⟨k,hs⟩:=C c;rcases c3 with h | ⟨_,_,h⟩
   ·exact absurd h c
   ·obtain⟨a1,a2,E⟩:=AE n (by omega) h;refine⟨k,hs,a1,a2,E,?_⟩;have J:hasF g dg x m d:=by
     unfold chkF at hc;split at hc
     ·cases hc
     ·rename_i I;by_cases h:hasF g dg x m d
      ·exact h
      ·exact absurd ⟨y,c,h⟩ I
    obtain⟨e,r,A⟩:=J;obtain⟨z,L,v⟩:=List.exists_cons_of_ne_nil A;have v:z∈vO m d e:=by rw[v];exact l7
    obtain⟨z1,z2,w,u⟩:=Jj.1 v;have D:e=yOf g dg x:=(i e).1 r;unfold monI at z2;rw[ab k,ab (by omega)]at z2;unfold dayI at w;rw[ab c]at w;unfold vU at u;rw[ab c,OV n (by omega) w,OV f (by omega) z2,D]at u;exact u
def FP{j:Nat}(a:j<21):∃f c:Nat,n8[j]?=some ((f:Int),(c:Int))/\1<=f/\f<=12/\1<=c/\c<=6/\(12<f+c - 1↔j=3\/j=7\/j=9)/\spF (two (21+j))=f/\spC (two (21+j))=c:=by
 obtain⟨f,c,e,g,d,i,h,k⟩:=IN a;have hs:(sea (two (21+j)) - 21).toNat=j:=by rw[ll a];omega
 have b:n8.getD j (0,0)=((f:Int),(c:Int)):=by rw[Ht,e];rfl
 refine⟨f,c,e,g,d,i,h,k,?_,?_⟩
 ·unfold spF;rw[hs,b];rfl
 ·unfold spC;rw[hs,b];rfl
def EH(n:Nat){j:Nat}(a:j<21):ij n ((21+j:Nat):Int)=n8[j]?:=by
 have:j=0\/j=1\/j=2\/j=3\/j=4\/j=5\/j=6\/j=7\/j=8\/j=9\/j=10\/j=11\/j=12\/j=13\/j=14\/j=15\/j=16\/j=17\/j=18\/j=19\/j=20:=by omega
 rcases this with rfl | rfl | rfl | rfl | rfl | rfl | rfl | rfl | rfl | rfl | rfl | rfl | rfl | rfl | rfl | rfl | rfl | rfl | rfl | rfl | rfl<;>rfl
def HI(n:Nat)(g l:Bool)(dg:aa)(x q:Int)(m d:aa)(k0 k1 k2:Int)(b:m.length<=1000)(a:dg.length<=1000)(h:d.length<=1000):mH n g l dg x q m d k0 k1 k2=some (exD dg m d q):=by
 unfold mH exD;rw[Ef n g l dg x q m d k0 k1 k2 b a h];simp only[ob];cases(hasX dg||(hasX m||hasX d))<;>rfl
def RG{Y:Type}(a b:Y):∀s:aa,((s.findSome? λc=>if c=88 then some a else none).getD b)=if hasX s then a else b
 | []=>rfl
 | c::s=>by
  have ih:=RG a b s;unfold hasX at ih ⊢;rw[Dv,vI];by_cases hc:c=88
  ·subst hc;rfl
  ·rw[ab hc];have e:(c==88)=false:=aK.2 hc;rw[e,sL];exact ih
def zl (n:Nat) (s:aa) (g l:Bool) (dg:aa) (x q:Int) (m d:aa) (k0 k1 k2:Int) (hs:s.length<=100000) {N:Nat} (b:s.length<N):
  av (eD n) N (s,0,g,l,dg,x,q,m,d,k0,k1,k2)=some (if hasX s then .inl 0 else .inr (g,l,dg,x,q,m,d,k0,k1,k2)):=by
 have:=uQ (step:=eD n) (f:=λi=>(s,(i:Int),g,l,dg,x,q,m,d,k0,k1,k2)) (L:=s) (G:=λc=>if c=88 then some (.inl 0) else none) (e:=.inr (g,l,dg,x,q,m,d,k0,k1,k2))
  (λi c hi=>by
   have a:=(nc.1 hi).1;have j:wrap .i64 ((i:Int)+1)=((i+1:Nat):Int):=by rw [wrap_i64 _ (by omega) (by omega)];omega
   unfold eD;simp only [d4,d8,j];rw [ar (show (i:Int)<((s.length:Nat):Int) by omega),lj hi];simp only [aj,ob];by_cases hc:c=88
   ·subst hc;rw [ae rfl];rfl
   ·rw [ab hc];have:(((c.toNat:Nat):Int)==88)=false:=by
     rw [aK];intro h;apply hc;apply iE.1;have:c.toNat=88:=by omega
     rw [this];rfl
    rw [this];rfl)
  (by
   unfold eD;simp only [d4,d8];rw [au (show ¬((s.length:Nat):Int)<((s.length:Nat):Int) by omega)];rfl)
  b
 rw [show ((0:Nat):Int)=0 from rfl] at this;rw [this];rw [RG]
def OS(n:Nat)(g l:Bool)(dg:aa)(x q:Int)(m d:aa)(k0 k1 k2:Int)(i:m.length<=1000)(e:dg.length<=1000)(h:d.length<=1000)(f:4000<n):kl n g l dg x q m d k0 k1 k2=some (if exD dg m d q then 1 else 0):=by
 unfold kl;rw[eK (by omega)];simp only[ob];rw[eK (by rw[aZ];omega)];simp only[];rw[zl n _ _ _ _ _ _ _ _ _ _ _ (by simp only[aZ];omega) (by simp only[aZ];omega)];rw[ww,ww];unfold exD;cases hasX dg<;>cases hasX m<;>cases hasX d<;>(try rfl);simp only[DN,bQ,aF,ob,d4,kL,pT];by_cases a:q=0
 ·subst a;rfl
 ·have c:(q != 0)=true:=by simp[a]
  have b:(q==0)=false:=aK.2 a;rw[c,b];rfl
def VC(n:Nat)(c:100<n){y:Int}(h:ej y){m k:Nat}(b:1<=m)(a:m<=12)(k1:1<=k)(k2:(k:Int)<=lenI y (m:Int)):sB n y (m:Int) (k:Int)=some (dayM y m+(k:Int) - 1,0):=by
 have d:=pB h (m:=m) (by omega);have e:=jD y (m:Int);unfold sB ru;rw[LR n h b a];simp only[ob,eT,af];rw[au (show¬(k:Int)<1 by omega),au (show¬(k:Int)>lenI y (m:Int)by omega),uC n c h b a];simp only[ob,eT,af];rw[wrap_i64 (dayM y m+(k:Int)) (by omega) (by omega),wrap_i64 _ (by omega) (by omega)]
section
variable {g l:Bool} {dg:List UInt8} {x:Int} {m d:List UInt8} {k0 k1 k2:Int}
def FZ (n:Nat) (u:100<n) (B:m.length<=18) (E:Exact g l dg x m d) (q r:Int) (w:m≠[]->q=if 0<sea m then sea m else (twoV m:Int)) (J:d≠[]->r=(twoV d:Int)):
  (ob (jk n) λD=>(ob (bp n g l dg x 0 m d k0 k1 k2) λo=>(cond (o==0) (ob (gJ n (yOf g dg x) ([q,r]:List (Int))) λa=>(some (a.1,a.2.1,a.2.2.1,a.2.2.2,(0:Int)))) (cond (o==1) (ob (gO n (yOf g dg x) ([q,r]:List (Int))) λb=>(some (b.1,b.2.1,b.2.2.1,b.2.2.2,0))) (cond (o==2) (ob (gL n (yOf g dg x) ([q,r]:List (Int))) λk=>(some (k.1,k.2.1,k.2.2.1,k.2.2.2,0))) (cond (o==3) (ob (gI n (yOf g dg x) ([q,r]:List (Int))) λi=>(some (i.1,i.2.1,i.2.2.1,i.2.2.2,0))) none)))))) =
   some (0,(ox g dg x m d).1,0,(ox g dg x m d).2,0):=by
 have P:jk n=some ():=rfl;have C:ix ([q,r]:List Int).length 0=some 0:=rfl;have G:ix ([q,r]:List Int).length 1=some 1:=rfl;have g0:([q,r]:List Int)[0]?=some q:=rfl;have L:([q,r]:List Int)[1]?=some r:=rfl;rw [P,NX n g l dg x 0 m d k0 k1 k2 B];unfold ox;by_cases t:d=[]
 ·rw [ae t];by_cases p:m=[]
  ·have hs:sea m=0:=by rw [p];decide
   rw [ab (show ¬0<sea m by omega),ae p,ae p];unfold gO;rw [sK n E.cal,C7 n E.cal];rfl
  ·rw [ab p];by_cases hs:0<sea m
   ·rw [ae hs,ae hs];rcases E.mon with h | ⟨j,s,e,z⟩ | ⟨h,_⟩
    ·exact absurd h p
    ·obtain ⟨f,c,M,a1,a2,N,K,I,F,H⟩:=FP s;have A:q=((21+j:Nat):Int):=by rw [w p,ae hs,e,ll s]
     unfold gJ;rw [C];simp only [ob,g0];rw [A,JU n u E.cal s M a1 a2 N K (λh=>z (I.1 h)),e,F,H];rfl
    ·omega
   ·rw [ab hs,ab hs,ab p,ae t];rcases E.mon with h | ⟨j,s,e,z⟩ | ⟨_,a1,a2,_⟩
    ·exact absurd h p
    ·rw [e,ll s] at hs;omega
    ·have A:q=(twoV m:Int):=by rw [w p,ab hs]
     unfold gL;rw [C];simp only [ob,g0];rw [A,uC n u E.cal a1 a2,G1 n u E.cal a1 a2];rfl
 ·rw [ab t];rcases E.day with h | ⟨p,hs,b1,b2,Q,O⟩
  ·exact absurd h t
  ·rw [ab p,ab (show ¬0<sea m by omega),ab t];rcases E.mon with h | ⟨j,s,e,z⟩ | ⟨_,a1,a2,_⟩
   ·exact absurd h p
   ·rw [e,ll s] at hs;omega
   ·have v:q=(twoV m:Int):=by rw [w p,ab (by omega)]
    have y:=J t;unfold gI;rw [C,G];simp only [ob,g0,L];rw [v,y,VC n u E.cal a1 a2 b1 O];rfl
def Rn(E:Exact g l dg x m d)(c:m≠[]):Lib.atoi m=some (if 0<sea m then sea m else(twoV m:Int)):=by
 rcases E.mon with h | ⟨j,a,e,_⟩ | ⟨f,a1,a2,b⟩
 ·exact absurd h c
 ·rw[e,ll a,ae (by omega)];exact yW a
 ·rw[ab (by omega)];have:=H3 (k:=twoV m) (by omega);rw[<-b]at this;exact this
def Qe(E:Exact g l dg x m d)(b:d≠[]):Lib.atoi d=some (twoV d:Int):=by
 rcases E.day with h | ⟨_,_,a1,a2,a,_⟩
 ·exact absurd h b
 ·have:=H3 (k:=twoV d) (by omega);rw[<-a]at this;exact this
def AZ:Lib.atoi []=none:=by kernel_rfl
def GV{q:Int}(b:m.length<=18)(e:dg.length<=100)(n:d.length<=18)(r:0<=k0)(o:0<=k1)(k:0<=k2):
  dQ 20000000 g l dg x q m d k0 k1 k2=some (if chkF g l dg x q m d k0 k1 k2=0 then(if exD dg m d q=true then(0,(ox g dg x m d).1,0,(ox g dg x m d).2,0)else(0,0,0,0,1))else(0,0,0,0,chkF g l dg x q m d k0 k1 k2)):=by
 have t:Nat.ble m.length 18=true:=cD b;have s:Nat.ble d.length 18=true:=cD n;unfold dQ;rw[wm b e r o k];simp only[ob];by_cases hc:chkF g l dg x q m d k0 k1 k2=0
 ·rw[ae hc,hc,HI 20000000 g l dg x q m d k0 k1 k2 (by omega) (by omega) (by omega)];simp only[ob,eT,af];by_cases c:exD dg m d q=true
  ·rw[ae c,c];obtain⟨rfl,E⟩:=vW hc c;have p:eW 20000000 g l dg x 0=some (yOf g dg x,0):=by
    rw[CG 20000000 g l dg x 0 (by omega) e,ae ⟨E.ok,E.num⟩];rfl
   rw[p,t,s];simp only[dL,af,aj,ob];by_cases i:m=[]
   ·have a:d=[]:=by
     rcases E.day with h | ⟨h,_⟩
     ·exact h
     ·exact absurd i h
    have:=FZ (k0:=k0) (k1:=k1) (k2:=k2) 20000000 (by omega) b E 0 0 (λh=>absurd i h) (λh=>absurd a h);have f:Lib.atoi m=none:=by rw[i];exact AZ
    have j:Lib.atoi d=none:=by rw[a];exact AZ
    rw[f,j];simp only[opt];exact this
   ·have f:=Rn E i;by_cases a:d=[]
    ·have:=FZ (k0:=k0) (k1:=k1) (k2:=k2) 20000000 (by omega) b E (if 0<sea m then sea m else(twoV m:Int)) 0 (λ_=>rfl) (λh=>absurd a h);have j:Lib.atoi d=none:=by rw[a];exact AZ
     rw[f,j];simp only[opt];exact this
    ·have:=FZ (k0:=k0) (k1:=k1) (k2:=k2) 20000000 (by omega) b E (if 0<sea m then sea m else(twoV m:Int)) (twoV d:Int) (λ_=>rfl) (λ_=>rfl);rw[f,Qe E a];simp only[opt];exact this
  ·rw[ab c];rw[Hk]at c;rw[c];rfl
 ·rw[ab hc,bne0 hc];rfl
def uW(E:Exact g l dg x m d)(M:dg.length<=100):dk 20000000 g l dg x 0 m d k0 k1 k2=some (ox g dg x m d):=by
 obtain⟨k,q,rfl,X,I⟩:=sP E.ok E.num;have Z:k<=17:=by have:=I.wide;omega
 have hs:=I.small;have F:ak 20000000 dg (k:Int)=some (((val dg k:Nat):Int),1):=by
  rw[jH 20000000 dg k I.dig M (by omega) (by omega),ae I.small];rfl
 have T:dval 0 dg*10 ^ k=val dg k:=rfl;rw[T]at hs;unfold E16 at hs;have hy:yOf g dg (k:Int)=if g then -((val dg k:Nat):Int)else((val dg k:Nat):Int):=by unfold yOf;rw[bX]
 have G:=E.cal;unfold ej at G;have key:∀y:Int,y=yOf g dg (k:Int)->
   (ob (aQ 20000000 g l dg (k:Int) 0 m d k0 k1 k2) λn=>(cond (m==([]:aa)) (ob (cn 20000000 y) λz=>(ob (cn 20000000 (wrap .i64 (y+1))) λv=>(some (z,(wrap .i64 (v - 1)))))) (cond (decide (n>0)) (ob (ij 20000000 n) λa=>(ob (aR 20000000 y a.1) λA=>(ob (aR 20000000 y (wrap .i64 (a.1+a.2))) λp=>(some (A,(wrap .i64 (p - 1))))))) (cond (d==([]:aa)) (ob (aY 20000000 m) λs=>(ob (aR 20000000 y s) λu=>(ob (aY 20000000 m) λr=>(ob (aR 20000000 y (wrap .i64 (r+1))) λo=>(some (u,(wrap .i64 (o - 1)))))))) (ob (aY 20000000 m) λt=>(ob (aR 20000000 y t) λi=>(ob (aY 20000000 d) λb=>(some ((wrap .i64 ((wrap .i64 (i+b)) - 1)),(wrap .i64 ((wrap .i64 (i+b)) - 1)))))))))) )=some (ox g dg (k:Int) m d):=by
  intro y J;subst J;have hcal':=E.cal;have Y:=kB (y:=yOf g dg (k:Int)+1) (by omega);rw[nK 20000000 (by omega)];simp only[ob];unfold ox;by_cases B:m=[]
  ·have e:(m==([]:aa))=true:=by rw[B];rfl
   rw[ae B,e,rW 20000000 (by omega) (by omega),wrap_i64 (yOf g dg (k:Int)+1) (by omega) (by omega),rW 20000000 (by omega) (by omega)];simp only[aj,ob];rw[wrap_i64 _ (by omega) (by omega)]
  ·rw[ab B,gf B];simp only[af];by_cases hs:0<sea m
   ·rw[ae hs,ar (show sea m>0 from hs)];rcases E.mon with h | ⟨j,H,e,_⟩ | ⟨h,_⟩
    ·exact absurd h B
    ·obtain⟨f,c,S,a1,a2,N,W,V,O,P⟩:=FP H;have L:sea m=((21+j:Nat):Int):=by rw[e,ll H]
     have Q:=pB hcal' (m:=f+c) (by omega);rw[L,EH 20000000 H,S];simp only[aj,ob];rw[rF 20000000 (by omega) (by omega) a1 (by omega)];simp only[ob];rw[wrap_i64 ((f:Int)+(c:Int)) (by omega) (by omega),show(f:Int)+(c:Int)=((f+c:Nat):Int)by omega,rF 20000000 (by omega) (by omega) (by omega) (by omega)];simp only[ob];rw[wrap_i64 _ (by omega) (by omega),e,O,P]
    ·omega
   ·rw[ab hs,au (show¬sea m>0 from hs)];simp only[af];rcases E.mon with h | ⟨j,H,e,_⟩ | ⟨_,a1,a2,N⟩
    ·exact absurd h B
    ·rw[e,ll H]at hs;omega
    ·have K:=Ar 20000000 (k:=twoV m) (by omega);rw[<-N]at K;have Q:=pB hcal' (m:=twoV m) (by omega);have U:=pB hcal' (m:=twoV m+1) (by omega);by_cases C:d=[]
     ·have e:(d==([]:aa))=true:=by rw[C];rfl
      rw[ae C,e,K];simp only[aj,ob];rw[rF 20000000 (by omega) (by omega) a1 (by omega)];simp only[ob];rw[wrap_i64 ((twoV m:Int)+1) (by omega) (by omega),show(twoV m:Int)+1=((twoV m+1:Nat):Int)by omega,rF 20000000 (by omega) (by omega) (by omega) (by omega)];simp only[ob];rw[wrap_i64 _ (by omega) (by omega)]
     ·rw[ab C,gf C];rcases E.day with h | ⟨_,_,b1,b2,R,b4⟩
      ·exact absurd h C
      ·have D:=Ar 20000000 (k:=twoV d) (by omega);rw[<-R]at D;rw[K];simp only[af,ob];rw[rF 20000000 (by omega) (by omega) a1 (by omega),D];simp only[ob];rw[wrap_i64 (dayM (yOf g dg (k:Int)) (twoV m)+(twoV d:Int)) (by omega) (by omega),wrap_i64 _ (by omega) (by omega)]
 unfold dk;rw[F];simp only[ob];cases g with
 | true=>
  have w:wrap .i64 (0 - ((val dg k:Nat):Int))=yOf true dg (k:Int):=by
   rw[wrap_i64 _ (by omega) (by omega),hy];simp
  rw[w];simp only[aj];exact key _ rfl
 | false=>
  have w:((val dg k:Nat):Int)=yOf false dg (k:Int):=by rw[hy];rfl
  rw[w];simp only[af];exact key _ rfl
end
def YI{g l:Bool}{d:aa}{x s:Int}(h:okY g l d x s):okY g l d x 0:=by
 unfold okY at h ⊢;cases l with
 | true=>
  rw[ae rfl]at h ⊢;unfold okL at h ⊢;refine⟨h.1,sQ _,?_⟩;omega
 | false=>
  rw[ab (by simp)]at h ⊢;unfold okS at h ⊢;obtain⟨b,a,e,c,j,f,i⟩:=h;exact⟨b,a,e,c,sQ _,by omega,λh=>absurd h.1 (by omega)⟩
def LS(m a0 a2 I H j A c k s:Nat)(g:Bool)(M:a2<65536)(O:I<256)(N:H<256)(L:j<256)(K:A<256):
  ∃b l dg x q a d,aH (m+300) (a0:Int) g (a2:Int) (I:Int) (H:Int) (j:Int) (A:Int) (c:Int) (k:Int) (s:Int)=some (b,l,dg,x,q,a,d,((mksT (bH a d) c k s).1:Int),((mksT (bH a d) c k s).2.1:Int),((mksT (bH a d) c k s).2.2:Int))/\
   okY b l dg x q/\rN b dg x=false/\(a0%6≠3->hasX dg=false)/\dg.length<=5/\(q≠0->a=[]/\d=[])/\(q=0->a=monT (j%40))/\
   (d=[]\/(a∈((List.range 12).map λi=>two (i+1))++[[48,88],[49,88],[88,50],[88,88],[88,48],[88,57]]/\a≠[]/\sea a=0/\d=dayT (A%40) a)):=by
 obtain⟨b,l,dg,x,q,e,z,n,F,t⟩:=MF m a0 a2 I H g M O N;have G:=I0 z n F;have S:Int.tmod (c:Int) 4=((c%4:Nat):Int):=rfl;have W:Int.tmod (k:Int) 4=((k%4:Nat):Int):=rfl;have Q:Int.tmod (s:Int) 4=((s%4:Nat):Int):=rfl;obtain⟨P,X,R,U,T,V⟩:=iJ z;have f:∀(a d:aa) (o:Option (Bool×Bool×aa×Int×Int×aa×aa×Int×Int×Int)),
   (ob (am (m+300) b l dg x q a d 0 0 0) λr=>(cond (decide ((0:Int)<r)) (ob (am (m+300) b l dg x q a d (Int.tmod (c:Int) 4) 0 0) λr=>(cond (decide ((1:Int)<r)) (ob (am (m+300) b l dg x q a d (Int.tmod (c:Int) 4) (Int.tmod (k:Int) 4) 0) λr=>(cond (decide ((2:Int)<r)) (ob (am (m+300) b l dg x q a d (Int.tmod (c:Int) 4) (Int.tmod (k:Int) 4) (Int.tmod (s:Int) 4)) λr=>(cond (decide ((3:Int)<r)) none (some (b,l,dg,x,q,a,d,(Int.tmod (c:Int) 4),(Int.tmod (k:Int) 4),(Int.tmod (s:Int) 4))))) (some (b,l,dg,x,q,a,d,(Int.tmod (c:Int) 4),(Int.tmod (k:Int) 4),0)))) (some (b,l,dg,x,q,a,d,(Int.tmod (c:Int) 4),0,0)))) (some (b,l,dg,x,q,a,d,0,0,0))))=some (b,l,dg,x,q,a,d,((mksT (bH a d) c k s).1:Int),((mksT (bH a d) c k s).2.1:Int),((mksT (bH a d) c k s).2.2:Int)):=by
  intro a d _;have hc:=kX a d;have:bH a d=1\/bH a d=2\/bH a d=3:=by omega
  rw[dM,dM,dM,dM];rcases this with h | h | h<;>rw[h]<;>rfl
 unfold aH;rw[e];simp only[ob,d4];rw[gZ];by_cases y:q=0
 ·rw[ae y];rw[zK m _ _ _ _ _ j _ _ _ _ L];have J:=Ec (show j%40<40 by omega);show ∃v E w B D u d,cond (!(monT (j%40)==[])) _ _=_/\_;by_cases p:monT (j%40)=[]
  ·refine⟨b,l,dg,x,q,[],[],?_,z,G,t,n,λh=>absurd y h,λ_=>p.symm,.inl rfl⟩;rw[p];exact f [] [] none
  ·rw[aK.2 p];show ∃v E w B D u d,ob (aQ (m+300) b l dg x q (monT (j%40)) [] 0 0 0) _=_/\_;rw[nK (m+300) (by omega)];show ∃v E w B D u d,cond (sea (monT (j%40))==0) _ _=_/\_;rw[gZ];by_cases hs:sea (monT (j%40))=0
   ·rw[ae hs];have C:=J hs p;rw[Is m _ _ _ _ _ _ A _ _ _ (monT (j%40)) C K];exact⟨b,l,dg,x,q,monT (j%40),dayT (A%40) (monT (j%40)),f _ _ none,z,G,t,n,λh=>absurd y h,λ_=>rfl,.inr ⟨C,p,hs,rfl⟩⟩
   ·rw[ab hs];exact⟨b,l,dg,x,q,monT (j%40),[],f _ [] none,z,G,t,n,λh=>absurd y h,λ_=>rfl,.inl rfl⟩
 ·rw[ab y];exact⟨b,l,dg,x,q,[],[],f [] [] none,z,G,t,n,λ_=>⟨rfl,rfl⟩,λh=>absurd h y,.inl rfl⟩
def Jt:((List.range 34).all λj=>!hasX (monT j))=true:=by decide +kernel
def Kv:(((List.range 12).map λi=>two (i+1)).all λa=>(List.range 32).all λj=>!hasX (dayT j a))=true:=by decide +kernel
def Vw:((((List.range 12).map λi=>two (i+1))++[[48,88],[49,88],[88,50],[88,88],[88,48],[88,57]]).all λa=>hasX a||decide (a∈(List.range 12).map λi=>two (i+1)))=true:=by decide +kernel
def Va(m a0 a2 B A o i k t u:Nat)(g:Bool)(z:a2<65536)(D:B<256)(M:A<256)(H:o<256)(F:i<256)(G:a0%6≠3)(O:o%40<=33)(N:i%40<=31):
  ∃s l dg x q a d k0 k1 k2,aH (m+300) (a0:Int) g (a2:Int) (B:Int) (A:Int) (o:Int) (i:Int) (k:Int) (t:Int) (u:Int)=some (s,l,dg,x,q,a,d,((k0:Nat):Int),((k1:Nat):Int),((k2:Nat):Int))/\
   0<=q/\chkF s l dg x 0 a d (k0:Int) (k1:Int) (k2:Int)=0/\exD dg a d 0=true/\a.length<=18/\d.length<=18/\dg.length<=100:=by
 obtain⟨s,l,dg,x,q,a,d,e,E,L,y,J,n,r,p⟩:=LS m a0 a2 B A o i k t u g z D M H F;have I:=y G;have f:hasX a=false:=by
  by_cases h:q=0
  ·rw[r h];have:=(bS.1 Jt) (o%40) (ju.2 (by omega));simpa using this
  ·rw[(n h).1];rfl
 have c:a=[]\/0<sea a\/(sea a=0/\ei a 12=true):=by
  by_cases h:q=0
  ·rw[r h];exact OZ (by omega)
  ·exact .inl (n h).1
 have b:d=[]\/(a≠[]/\sea a=0/\ei d 31=true/\fitD a d=true/\hasX d=false):=by
  rcases p with h | ⟨j,C,hs,v⟩
  ·exact .inl h
  ·have a1:=L6 (show i%40<40 by omega) j;have a2:=H9 (show i%40<40 by omega) j;rw[<-v]at a1 a2;by_cases w:d=[]
   ·exact .inl w
   ·right;refine⟨C,hs,a1.resolve_left w,a2.resolve_left w,?_⟩;have b1:=(bS.1 Vw) a j;rw[f,sL,ch]at b1;have b2:=(bS.1 ((bS.1 Kv) a b1)) (i%40) (ju.2 (by omega));rw[v];simpa using b2
 have hc:chkD s l dg x 0 a d ((mksT (bH a d) k t u).1:Int) ((mksT (bH a d) k t u).2.1:Int) ((mksT (bH a d) k t u).2.2:Int)=0:=
  E4 (YI E) L (λh=>absurd h (by omega)) c (by
   rcases b with h | ⟨K,z,D,_⟩
   ·exact .inl h
   ·exact .inr ⟨K,z,D⟩) (wW _ _ _ _)
 refine⟨s,l,dg,x,q,a,d,_,_,_,e,QA E,I3 hc ?_,?_,?_,?_,by omega⟩
 ·rcases b with h | ⟨_,_,_,h,_⟩
  ·exact .inl h
  ·exact .inr h
 ·unfold exD;have:hasX d=false:=by
   rcases b with h | ⟨_,_,_,_,h⟩
   ·rw[h];rfl
   ·exact h
  rw[I,f,this];rfl
 ·rcases c with h | h | ⟨_,h⟩
  ·rw[h];simp
  ·have:=(G6 h).1;omega
  ·have:=(nO (by omega) h).1;omega
 ·rcases b with h | ⟨_,_,h,_⟩
  ·rw[h];simp
  ·have:=(nO (by omega) h).1;omega
def IC(m a0 a2 v u c j w y z:Nat)(g:Bool)(U:a0<256)(H:a2<65536)(S:v<256)(R:u<256)(V:c<256)(T:j<256):
  ∃p l dg x i d k0 k1 k2,bE (m+300) (a0:Int) g (a2:Int) (v:Int) (u:Int) (c:Int) (j:Int) (w:Int) (y:Int) (z:Int)=some (p,l,dg,x,0,i,d,((k0:Nat):Int),((k1:Nat):Int),((k2:Nat):Int))/\
   chkF p l dg x 0 i d (k0:Int) (k1:Int) (k2:Int)=0/\exD dg i d 0=true/\i.length<=18/\d.length<=18/\dg.length<=100:=by
 have M:Int.tmod (c:Int) 40=((c%40:Nat):Int):=rfl;have P:Int.tmod (j:Int) 40=((j%40:Nat):Int):=rfl;have D:Int.tmod (a0:Int) 6=((a0%6:Nat):Int):=rfl;have Q:Int.tdiv ((j%40:Nat):Int) 2=((j%40 / 2:Nat):Int):=rfl;have fin:∀(b0 f b:Nat),f<256->b<256->b0%6≠3->f%40<=33->b%40<=31->
   ∃p l dg x i d k0 k1 k2,(ob (aH (m+300) (b0:Int) g (a2:Int) (v:Int) (u:Int) (f:Int) (b:Int) (w:Int) (y:Int) (z:Int)) λa=>(cond (decide ((d4 a).1>0)) (some (a.1,a.2.1,a.2.2.1,a.2.2.2.1,(0:Int),(d4 a).2.1,(d4 a).2.2.1,(d4 a).2.2.2.1,(d8 a).1,(d8 a).2)) (some (a.1,a.2.1,a.2.2.1,a.2.2.2.1,(d4 a).1,(d4 a).2.1,(d4 a).2.2.1,(d4 a).2.2.2.1,(d8 a).1,(d8 a).2))))=some (p,l,dg,x,0,i,d,((k0:Nat):Int),((k1:Nat):Int),((k2:Nat):Int))/\
   chkF p l dg x 0 i d (k0:Int) (k1:Int) (k2:Int)=0/\exD dg i d 0=true/\i.length<=18/\d.length<=18/\dg.length<=100:=by
  intro b0 f b c5 c6 E n o;obtain⟨p,l,dg,x,q,i,d,k0,k1,k2,e,W,L,O,C,r4,J⟩:=Va m b0 a2 v u f b w y z g H S R c5 c6 E n o;refine⟨p,l,dg,x,i,d,k0,k1,k2,?_,L,O,C,r4,J⟩;rw[e];simp only[ob,d4,d8];by_cases h:q>0
  ·rw[ar h];rfl
  ·obtain rfl:q=0:=by omega
   rw[au h];rfl
 have s:33<c%40->wrap .u8 (((c%40:Nat):Int) - 33)=((c%40 - 33:Nat):Int):=λh=>by rw[gK _ (by omega) (by omega)];omega
 have G:wrap .u8 ((j%40 / 2:Nat):Int)=((j%40 / 2:Nat):Int):=gK _ (by omega) (by omega);unfold bE;rw[D,M,P,Q,G];have k:∀b0:Nat,b0%6≠3->∀K:Nat->Nat->Option (Bool×Bool×aa×Int×Int×aa×aa×Int×Int×Int),
   (∀f b:Nat,f<256->b<256->f%40<=33->b%40<=31->∃p l dg x i d k0 k1 k2,K f b=some (p,l,dg,x,0,i,d,((k0:Nat):Int),((k1:Nat):Int),((k2:Nat):Int))/\chkF p l dg x 0 i d (k0:Int) (k1:Int) (k2:Int)=0/\exD dg i d 0=true/\i.length<=18/\d.length<=18/\dg.length<=100)->
   ∃p l dg x i d k0 k1 k2,(cond (decide (((c%40:Nat):Int)>33)) (cond (decide (((j%40:Nat):Int)>31)) (K (c%40 - 33) (j%40 / 2)) (K (c%40 - 33) j)) (cond (decide (((j%40:Nat):Int)>31)) (K c (j%40 / 2)) (K c j)))=some (p,l,dg,x,0,i,d,((k0:Nat):Int),((k1:Nat):Int),((k2:Nat):Int))/\chkF p l dg x 0 i d (k0:Int) (k1:Int) (k2:Int)=0/\exD dg i d 0=true/\i.length<=18/\d.length<=18/\dg.length<=100:=by
  intro b0 I K t;by_cases N:33<c%40
  ·rw[ar (show((c%40:Nat):Int)>33 by omega)];by_cases B:31<j%40
   ·rw[ar (show((j%40:Nat):Int)>31 by omega)];exact t _ _ (by omega) (by omega) (by omega) (by omega)
   ·rw[au (show¬((j%40:Nat):Int)>31 by omega)];exact t _ _ (by omega) (by omega) (by omega) (by omega)
  ·rw[au (show¬((c%40:Nat):Int)>33 by omega)];by_cases B:31<j%40
   ·rw[ar (show((j%40:Nat):Int)>31 by omega)];exact t _ _ (by omega) (by omega) (by omega) (by omega)
   ·rw[au (show¬((j%40:Nat):Int)>31 by omega)];exact t _ _ (by omega) (by omega) (by omega) (by omega)
 have w5':∀{A:Type} (F:Int->Int->Option A) (b:Nat),(cond (decide (((c%40:Nat):Int)>33)) (F (wrap .u8 (((c%40:Nat):Int) - 33)) (b:Int)) (F (c:Int) (b:Int)))=(cond (decide (((c%40:Nat):Int)>33)) (F ((c%40 - 33:Nat):Int) (b:Int)) (F (c:Int) (b:Int))):=by
  intro A F b;by_cases h:33<c%40
  ·rw[s h]
  ·rw[au (show¬((c%40:Nat):Int)>33 by omega)];rfl
 have r:33<c%40\/¬33<c%40:=by omega
 by_cases c3:a0%6=3
 ·rw[show(((a0%6:Nat):Int)==3)=true by rw[c3];rfl];simp only[aj];rcases r with h | h
  ·rw[s h];exact k 0 (by omega) (λf b=>_) (λf b c5 c6 n o=>fin 0 f b c5 c6 (by omega) n o)
  ·have hx:=k 0 (by omega) (λf b=>_) (λf b c5 c6 n o=>fin 0 f b c5 c6 (by omega) n o);rw[au (show¬((c%40:Nat):Int)>33 by omega)]at hx ⊢;exact hx
 ·rw[show(((a0%6:Nat):Int)==3)=false from aK.2 (by omega)];simp only[af];by_cases c4:a0%6=4
  ·rw[show(((a0%6:Nat):Int)==4)=true by rw[c4];rfl];simp only[aj];rcases r with h | h
   ·rw[s h];exact k 0 (by omega) (λf b=>_) (λf b c5 c6 n o=>fin 0 f b c5 c6 (by omega) n o)
   ·have hx:=k 0 (by omega) (λf b=>_) (λf b c5 c6 n o=>fin 0 f b c5 c6 (by omega) n o);rw[au (show¬((c%40:Nat):Int)>33 by omega)]at hx ⊢;exact hx
  ·rw[show(((a0%6:Nat):Int)==4)=false from aK.2 (by omega)];simp only[af];rcases r with h | h
   ·rw[s h];exact k a0 c3 (λf b=>_) (λf b c5 c6 n o=>fin a0 f b c5 c6 c3 n o)
   ·have hx:=k a0 c3 (λf b=>_) (λf b c5 c6 n o=>fin a0 f b c5 c6 c3 n o);rw[au (show¬((c%40:Nat):Int)>33 by omega)]at hx ⊢;exact hx
def LD{dg m d:aa}(h:exD dg m d 0=true):exD dg m [] 0=true/\exD dg [] [] 0=true:=by
 unfold exD at h ⊢;simp only[aB,jX,qO]at h;obtain⟨⟨b,a,c⟩,_⟩:=h;rw[b,a];exact⟨rfl,rfl⟩
def FO(g l:Bool)(dg:aa)(x q:Int)(m d:aa)(k0 k1 k2:Int):Bool:=
 (((g==false)&&((l==false)&&((dg==([]:aa))&&((x==0)&&((q==0)&&true)))))&&((m==([]:aa))&&((d==([]:aa))&&(((k0==0)&&((k1==0)&&((k2==0)&&true)))&&true))))
noncomputable def chkB(K:Int)(g l:Bool)(dg:aa)(x q:Int)(m d:aa)(k0 k1 k2:Int):Int:=
 if K=1 then(if chkF g l dg x q m d k0 k1 k2=0 then(if exD dg m d q=true then 0 else 11)else chkF g l dg x q m d k0 k1 k2)else if K=2\/K=3 then(if FO g l dg x q m d k0 k1 k2=true then 0 else 5)else 18
def FG(d c a b lo hi:Int):Int:=if d≠0 then d else if c≠0 then c else if a≠1/\b≠1 then 11 else if a≠1\/b≠1 then 0 else if lo>hi then 11 else 0
section
variable {K:Int} {g l:Bool} {dg:List UInt8} {x q:Int} {m d:List UInt8} {k0 k1 k2:Int} (hml:m.length<=18) (hdl:dg.length<=100) (hd18:d.length<=18) (h0:0<=k0) (h1:0<=k1) (h2:0<=k2)
include hml hdl hd18 h0 h1 h2
def wk:ip 20000000 K g l dg x q m d k0 k1 k2=some (chkB K g l dg x q m d k0 k1 k2):=by
 unfold ip chkB;rw[wm hml hdl h0 h1 h2,HI 20000000 g l dg x q m d k0 k1 k2 (by omega) (by omega) (by omega)];simp only[ob];by_cases a:K=1
 ·subst a;rw[ae rfl];simp only[BEq.rfl,aj];by_cases hc:chkF g l dg x q m d k0 k1 k2=0
  ·rw[ae hc,hc];by_cases e:exD dg m d q=true
   ·rw[ae e,e];rfl
   ·rw[ab e];rw[Hk]at e;rw[e];rfl
  ·rw[ab hc,bne0 hc];rfl
 ·rw[ab a,aK.2 a];simp only[af];have f:(!(((g==false)&&((l==false)&&((dg==([]:aa))&&((x==0)&&((q==0)&&true)))))&&((m==([]:aa))&&((d==([]:aa))&&(((k0==0)&&((k1==0)&&((k2==0)&&true)))&&true)))))=!(FO g l dg x q m d k0 k1 k2):=rfl;rw[f];by_cases c:K=2
  ·subst c;rw[ae (.inl rfl)];cases FO g l dg x q m d k0 k1 k2<;>rfl
  ·rw[aK.2 c];by_cases b:K=3
   ·subst b;rw[ae (.inr rfl)];cases FO g l dg x q m d k0 k1 k2<;>rfl
   ·rw[aK.2 b,ab (by omega)];rfl
def xl:fe 20000000 K g l dg x q m d k0 k1 k2=some (chkB K g l dg x q m d k0 k1 k2):=by
 unfold fe chkB;rw[G2 hdl h0 h1 h2,OS 20000000 g l dg x q m d k0 k1 k2 (by omega) (by omega) (by omega) (by omega)];simp only[ob];by_cases a:K=1
 ·subst a;rw[ae rfl];simp only[BEq.rfl,aj];by_cases hc:chkF g l dg x q m d k0 k1 k2=0
  ·rw[ae hc,hc];by_cases e:exD dg m d q=true
   ·rw[ae e,ae e];rfl
   ·rw[ab e,ab e];rfl
  ·rw[ab hc,aK.2 hc];rfl
 ·rw[ab a,aK.2 a];simp only[af];have f:(!(((g==false)&&((l==false)&&((dg==([]:aa))&&((x==0)&&((q==0)&&true)))))&&((m==([]:aa))&&((d==([]:aa))&&(((k0==0)&&((k1==0)&&((k2==0)&&true)))&&true)))))=!(FO g l dg x q m d k0 k1 k2):=rfl;rw[f];by_cases c:K=2
  ·subst c;rw[ae (.inl rfl)];cases FO g l dg x q m d k0 k1 k2<;>rfl
  ·rw[aK.2 c];by_cases b:K=3
   ·subst b;rw[ae (.inr rfl)];cases FO g l dg x q m d k0 k1 k2<;>rfl
   ·rw[aK.2 b,ab (by omega)];rfl
def Vl:jn 20000000 K g l dg x q m d k0 k1 k2=some (if chkB K g l dg x q m d k0 k1 k2=0 then(if K=2 then[46,46]else if K=3 then[]else tU g l dg x q m d k0.toNat k1.toNat k2.toNat,0)else([],chkB K g l dg x q m d k0 k1 k2)):=by
 unfold jn;rw[wk hml hdl hd18 h0 h1 h2];simp only[ob];by_cases hc:chkB K g l dg x q m d k0 k1 k2=0
 ·rw[ae hc,hc];simp only[eT,af];by_cases a:K=2
  ·subst a;rfl
  ·rw[aK.2 a,ab a];by_cases b:K=3
   ·subst b;rfl
   ·rw[aK.2 b,ab b];have k1':K=1:=by
     unfold chkB at hc;by_cases h:K=1
     ·exact h
     ·rw[ab h,ab (by omega)]at hc;cases hc
    have e:chkF g l dg x q m d k0 k1 k2=0:=by
     unfold chkB at hc;rw[ae k1']at hc;by_cases h:chkF g l dg x q m d k0 k1 k2=0
     ·exact h
     ·rw[ab h]at hc;exact absurd hc h
    have c:bR 20000000 g l dg x q m d k0 k1 k2=_:=HG 19999700 g l dg x q m d k0 k1 k2 hml hdl h0 h1 h2;rw[c,ae (pJ e)];rfl
 ·rw[ab hc,bne0 hc];rfl
def wA(hc:chkB K g l dg x q m d k0 k1 k2=0)(b:K=1):chkF g l dg x q m d k0 k1 k2=0/\exD dg m d q=true:=by
 have c:=And.intro hml (And.intro hdl (And.intro hd18 (And.intro h0 (And.intro h1 h2))));unfold chkB at hc;rw[ae b]at hc;by_cases h:chkF g l dg x q m d k0 k1 k2=0
 ·rw[ae h]at hc;by_cases a:exD dg m d q=true
  ·exact⟨h,a⟩
  ·rw[ab a]at hc;cases hc
 ·rw[ab h]at hc;exact absurd hc h
end
def YY(n:Nat)(a b:Int):jA n a b=some (if a<b then -1 else if a>b then 1 else 0):=by
 unfold jA lk;simp only[ob,eT,af];by_cases h:a<b
 ·rw[ar h,ae h];rfl
 ·rw[au h,ab h];by_cases c:a>b
  ·rw[ar c,ae c];rfl
  ·rw[au c,ab c];rfl
def Jb(a b:Int):∃r,kE 20000000 0 a 0 b=some r/\decide (r>0)=decide (a>b):=by
 have e:mY 20000000 0 0=some 0:=rfl;have o1:pL 20000000 [0,-1]=some (-1):=by kernel_rfl
 have f:pL 20000000 [0,1]=some 1:=by kernel_rfl
 have d:pL 20000000 [0,0]=some 0:=by kernel_rfl
 unfold kE;rw[e,YY];simp only[ob];by_cases h:a<b
 ·rw[ae h,o1];exact⟨_,rfl,by rw[au (show¬a>b by omega)];rfl⟩
 ·rw[ab h];by_cases c:a>b
  ·rw[ae c,f];exact⟨_,rfl,by rw[ar c];rfl⟩
  ·rw[ab c,d];exact⟨_,rfl,by rw[au c];rfl⟩
def bne1{K:Int}(h:K≠1):(K != 1)=true:=by simp[h]
section
variable {K:Int} {g l:Bool} {dg:List UInt8} {x q:Int} {m d:List UInt8} {k0 k1 k2:Int} {K':Int} {g' l':Bool} {dg':List UInt8} {x' q':Int} {m' d':List UInt8} {p0 p1 p2:Int} (hml:m.length<=18) (hdl:dg.length<=100) (hd18:d.length<=18) (h0:0<=k0) (h1:0<=k1) (h2:0<=k2) (hml':m'.length<=18) (hdl':dg'.length<=100) (hd18':d'.length<=18) (h0':0<=p0) (h1':0<=p1) (h2':0<=p2)
include hml hdl hd18 h0 h1 h2 hml' hdl' hd18' h0' h1' h2'
def Vq:iv 20000000 K g l dg x q m d k0 k1 k2 K' g' l' dg' x' q' m' d' p0 p1 p2=some (FG (chkB K g l dg x q m d k0 k1 k2) (chkB K' g' l' dg' x' q' m' d' p0 p1 p2) K K' (ox g dg x m d).1 (ox g' dg' x' m' d').2):=by
 unfold iv FG;rw[wk hml hdl hd18 h0 h1 h2,wk hml' hdl' hd18' h0' h1' h2'];simp only[ob];by_cases b:chkB K g l dg x q m d k0 k1 k2=0
 ·rw[ab (by omega),b];by_cases c:chkB K' g' l' dg' x' q' m' d' p0 p1 p2=0
  ·rw[ab (by omega),c];simp only[eT,af];by_cases e:K=1
   ·rw[show(K != 1)=false by rw[e];rfl];simp only[af];by_cases a:K'=1
    ·rw[show(K' != 1)=false by rw[a];rfl,ab (by omega),ab (by omega)];simp only[af];obtain⟨n,j⟩:=wA hml hdl hd18 h0 h1 h2 b e;obtain⟨k,i⟩:=wA hml' hdl' hd18' h0' h1' h2' c a;rw[GV hml hdl hd18 h0 h1 h2,GV hml' hdl' hd18' h0' h1' h2',ae n,ae j,ae k,ae i];simp only[ob];obtain⟨r,o,f⟩:=Jb (ox g dg x m d).1 (ox g' dg' x' m' d').2;rw[o];simp only[f];by_cases h:(ox g dg x m d).1>(ox g' dg' x' m' d').2
     ·rw[ar h,ae h];rfl
     ·rw[au h,ab h];rfl
    ·rw[bne1 a,ab (by omega),ae (by omega)];rfl
   ·rw[bne1 e];by_cases a:K'=1
    ·rw[show(K' != 1)=false by rw[a];rfl,ab (by omega),ae (by omega)];rfl
    ·rw[bne1 a,ae (by omega)];rfl
  ·rw[ae c,bne0 c];rfl
 ·rw[ae b,bne0 b];rfl
def Rb:ie 20000000 K g l dg x q m d k0 k1 k2 K' g' l' dg' x' q' m' d' p0 p1 p2=some (FG (chkB K g l dg x q m d k0 k1 k2) (chkB K' g' l' dg' x' q' m' d' p0 p1 p2) K K' (ox g dg x m d).1 (ox g' dg' x' m' d').2):=by
 unfold ie FG;rw[xl hml hdl hd18 h0 h1 h2,xl hml' hdl' hd18' h0' h1' h2'];simp only[ob];by_cases e:chkB K g l dg x q m d k0 k1 k2=0
 ·rw[ab (by omega),e];by_cases c:chkB K' g' l' dg' x' q' m' d' p0 p1 p2=0
  ·rw[ab (by omega),c];simp only[eT,af];by_cases b:K=1
   ·rw[show(K != 1)=false by rw[b];rfl,show(K==1)=true by rw[b];rfl];simp only[af,aj];by_cases a:K'=1
    ·rw[show(K'==1)=true by rw[a];rfl,ab (by omega),ab (by omega)];simp only[aj];obtain⟨k,i⟩:=wA hml hdl hd18 h0 h1 h2 e b;obtain⟨j,f⟩:=wA hml' hdl' hd18' h0' h1' h2' c a;obtain⟨rfl,n⟩:=vW k i;obtain⟨rfl,o⟩:=vW j f;rw[uW n hdl,uW o hdl'];simp only[ob];by_cases h:(ox g dg x m d).1>(ox g' dg' x' m' d').2
     ·rw[ar h,ae h];rfl
     ·rw[au h,ab h];rfl
    ·rw[aK.2 a,ab (by omega),ae (by omega)];rfl
   ·rw[bne1 b,aK.2 b];by_cases a:K'=1
    ·rw[show(K' != 1)=false by rw[a];rfl,ab (by omega),ae (by omega)];rfl
    ·rw[bne1 a,ae (by omega)];rfl
  ·rw[ae c,bne0 c];rfl
 ·rw[ae e,bne0 e];rfl
end
def EJ(y:Int){m:Nat}(c:1<=m)(d:m<=23):dayM y m<dayM y (m+1):=by
 by_cases h:m<=12
 ·have:=wZ y c h;have:=jD y (m:Int);omega
 ·have b:=uN y (m:=m - 12) (by omega) (by omega);have a:=uN y (m:=m - 12+1) (by omega) (by omega);have e:=wZ (y+1) (m:=m - 12) (by omega) (by omega);have:=jD (y+1) ((m - 12:Nat):Int);rw[show m - 12+12=m by omega]at b;rw[show m - 12+1+12=m+1 by omega]at a;omega
def MS(y:Int){a:Nat}(b:1<=a):∀c,1<=c->a+c<=24->dayM y a<dayM y (a+c)
 | 0,h,_=>absurd h (by omega)
 | c+1,_,d=>by
  have hs:=EJ y (m:=a+c) (by omega) (by omega);by_cases h:c=0
  ·subst h;exact hs
  ·have:=MS y b c (by omega) (by omega);rw[show a+(c+1)=a+c+1 by omega];omega
def Vz{g l:Bool}{dg:aa}{x:Int}{m d:aa}(E:Exact g l dg x m d):(ox g dg x m d).1<=(ox g dg x m d).2:=by
 unfold ox;by_cases a:m=[]
 ·rw[ae a];have:=yz (yOf g dg x);simp only[];split at this<;>omega
 ·rw[ab a];by_cases hs:0<sea m
  ·rw[ae hs];rcases E.mon with h | ⟨j,b,e,_⟩ | ⟨h,_⟩
   ·exact absurd h a
   ·obtain⟨f,c,_,a1,a2,p,o,_,k,n⟩:=FP b;rw[e,k,n];have:=MS (yOf g dg x) a1 c (by omega) (by omega);simp only[];omega
   ·omega
  ·rw[ab hs];rcases E.mon with h | ⟨j,b,e,_⟩ | ⟨_,a1,a2,_⟩
   ·exact absurd h a
   ·rw[e,ll b]at hs;omega
   ·by_cases i:d=[]
    ·rw[ae i];have:=EJ (yOf g dg x) a1 (by omega);simp only[];omega
    ·rw[ab i];exact sQ _
def B_of(m a0 a1 o k j h i q r c:Nat)(g:Bool)(y:a1<256)(A:o<65536)(z:k<256)(t:j<256)(s:h<256)(u:i<256):
  ∃K f l dg x a d k0 k1 k2,cj (m+300) (a0:Int) (a1:Int) g (o:Int) (k:Int) (j:Int) (h:Int) (i:Int) (q:Int) (r:Int) (c:Int)=some (K,f,l,dg,x,0,a,d,((k0:Nat):Int),((k1:Nat):Int),((k2:Nat):Int))/\
   chkB K f l dg x 0 a d (k0:Int) (k1:Int) (k2:Int)=0/\a.length<=18/\d.length<=18/\dg.length<=100/\(K=1\/((K=2\/K=3)/\f=false/\l=false/\dg=[]/\x=0/\a=[]/\d=[]/\k0=0/\k1=0/\k2=0)):=by
 have v:Int.tmod (a0:Int) 6=((a0%6:Nat):Int):=rfl;unfold cj;rw[v];by_cases w:a0%6=0
 ·rw[w];exact⟨2,false,false,[],0,[],[],0,0,0,rfl,rfl,by simp,by simp,by simp,.inr ⟨.inl rfl,rfl,rfl,rfl,rfl,rfl,rfl,rfl,rfl,rfl⟩⟩
 ·rw[show(((a0%6:Nat):Int)==0)=false from aK.2 (by omega)];by_cases B:a0%6=1
  ·rw[B];exact⟨3,false,false,[],0,[],[],0,0,0,rfl,rfl,by simp,by simp,by simp,.inr ⟨.inr rfl,rfl,rfl,rfl,rfl,rfl,rfl,rfl,rfl,rfl⟩⟩
  ·rw[show(((a0%6:Nat):Int)==1)=false from aK.2 (by omega)];obtain⟨f,l,dg,x,a,d,k0,k1,k2,e,hc,C,p,b,n⟩:=IC m a1 o k j h i q r c g y A z t s u;refine⟨1,f,l,dg,x,a,d,k0,k1,k2,?_,?_,p,b,n,.inl rfl⟩
   ·simp only[af];rw[e];rfl
   ·unfold chkB;rw[ae rfl,ae hc,ae C]
def plR(r:DR):Nat:=r.2.2.2.2.2.2.2.2.1.1
def enR(r:DR):Nat:=r.2.2.2.2.2.2.2.2.2
def Ko{l:aa}{b:UInt8}(h:l.take 2=[b,b]):∃r,l=b::b::r:=by
 match l,h with
 | a::c::r,h=>simp at h;exact⟨r,by rw[h.1,h.2]⟩
def Iu{S:aa}{a:Nat}(h:a<=S.length){r:DR}(b:fL S a=.inr r):uD S a=.inr r/\chkR r=0:=by
 unfold fL at b;cases c:uD S a with
 | inl k=>rw[c]at b;cases b
 | inr d=>
  rw[c]at b;simp only[]at b;by_cases hc:chkR d=0
  ·rw[ae hc]at b;obtain rfl:=Sum.inr.inj b;exact⟨rfl,hc⟩
  ·rw[ab hc]at b;cases b
def xI{S:aa}{a:Nat}(h:a<=S.length){k E p:Nat}(b:fL S a=.inl (k,E,p)):E≠0:=by
 unfold fL at b;cases c:uD S a with
 | inl k'=>rw[c]at b;simp only[]at b;have:=Sum.inl.inj b;simp at this;omega
 | inr d=>
  rw[c]at b;simp only[]at b;by_cases hc:chkR d=0
  ·rw[ae hc]at b;cases b
  ·rw[ab hc]at b;have:=Sum.inl.inj b;simp at this;omega
def smT(x:TD):Prop:=x.2.2.2.2.2.1.length<=18/\x.2.2.1.length<=100/\x.2.2.2.2.2.2.1.length<=18/\0<=x.2.2.2.2.2.2.2.1/\0<=x.2.2.2.2.2.2.2.2.1/\0<=x.2.2.2.2.2.2.2.2.2
noncomputable def cF(x:TD):Int:=chkF x.1 x.2.1 x.2.2.1 x.2.2.2.1 x.2.2.2.2.1 x.2.2.2.2.2.1 x.2.2.2.2.2.2.1 x.2.2.2.2.2.2.2.1 x.2.2.2.2.2.2.2.2.1 x.2.2.2.2.2.2.2.2.2
def exT(x:TD):Bool:=exD x.2.2.1 x.2.2.2.2.2.1 x.2.2.2.2.2.2.1 x.2.2.2.2.1
def dyT(x:TD):Int×Int:=ox x.1 x.2.2.1 x.2.2.2.1 x.2.2.2.2.2.1 x.2.2.2.2.2.2.1
def seT(x:TD):Int:=sea x.2.2.2.2.2.1
def coT(x:TD):Nat:=bH x.2.2.2.2.2.1 x.2.2.2.2.2.2.1
noncomputable def plT(x:TD):Bool:=decide (cF x=0)&&(exT x&&!decide (0<seT x))
def oa:smT d0:=by unfold smT;simp
def fcT{x:TD}(h:smT x):ap10 (bj 20000000) x=some (cF x):=wm h.1 h.2.1 h.2.2.2.1 h.2.2.2.2.1 h.2.2.2.2.2
def rcoT(x:TD):ap10 (am 20000000) x=some ((coT x:Nat):Int):=dM 20000000 _ _ _ _ _ _ _ _ _ _
def fpT{x:TD}(h:smT x):ap10 (bp 20000000) x=some (if x.2.2.2.2.2.2.1=[]then(if 0<seT x then 0 else if x.2.2.2.2.2.1=[]then 1 else 2)else 3):=NX 20000000 _ _ _ _ _ _ _ _ _ _ h.1
def fmT{x:TD}(h:smT x):ap10 (dr 20000000) x=some (hasX x.2.2.1||(hasX x.2.2.2.2.2.1||hasX x.2.2.2.2.2.2.1)):=by
 obtain⟨a,b,c,_⟩:=h;exact Ef 20000000 _ _ _ _ _ _ _ _ _ _ (by omega) (by omega) (by omega)
def fdT{x:TD}(h:smT x):ap10 (dQ 20000000) x=some (if cF x=0 then(if exT x=true then(0,(dyT x).1,0,(dyT x).2,0)else(0,0,0,0,1))else(0,0,0,0,cF x)):=GV h.1 h.2.1 h.2.2.1 h.2.2.2.1 h.2.2.2.2.1 h.2.2.2.2.2
def Oa{x:TD}(hc:cF x=0)(a:exT x=true):x.2.2.2.2.1=0/\Exact x.1 x.2.1 x.2.2.1 x.2.2.2.1 x.2.2.2.2.2.1 x.2.2.2.2.2.2.1:=vW hc a
def rdT{x:TD}(h:smT x)(hc:cF x=0)(a:exT x=true):ap10 (dk 20000000) x=some (dyT x):=by
 obtain⟨b,E⟩:=Oa hc a;have:=uW (k0:=x.2.2.2.2.2.2.2.1) (k1:=x.2.2.2.2.2.2.2.2.1) (k2:=x.2.2.2.2.2.2.2.2.2) E h.2.1;rw[<-b]at this;exact this
def SB{x:TD}(hc:cF x=0)(a:exT x=true):(dyT x).1<=(dyT x).2:=Vz (Oa hc a).2
def tJ{x:TD}(hc:cF x=0):(x.2.2.2.2.2.1=[]\/x.2.2.2.2.2.1.length=2)/\(x.2.2.2.2.2.2.1=[]\/x.2.2.2.2.2.2.1.length=2)/\(x.2.2.2.2.2.2.1≠[]->x.2.2.2.2.2.1≠[]/\seT x=0):=by
 obtain⟨_,a,b,_,c⟩:=o9 (pJ hc);exact⟨a,b,c⟩
def i7{x y:TD}:eqD x y=true↔x=y:=by
 obtain⟨a1,a2,g,c,k,e,n,h,j,b⟩:=x;obtain⟨b1,b2,p,l,m,o,f,i,d,a⟩:=y;simp[and_assoc]
def IA{x:TD}(h:smT x):oh 20000000 x=some (exT x):=by
 unfold oh;rw[fmT h];simp only[ob,exT,exD];cases(hasX x.2.2.1||(hasX x.2.2.2.2.2.1||hasX x.2.2.2.2.2.2.1))<;>rfl
def BQ{x:TD}(h:smT x):lU 20000000 x=some (plT x):=by
 unfold lU plT;rw[fcT h,IA h,fpT h];simp only[ob];by_cases hc:cF x=0
 ·rw[hc];cases d:exT x
  ·rfl
  ·show some ((if _ then _ else _) != (0:Int))=some (true&&(true&&!decide (0<seT x)));obtain⟨_,_,c⟩:=tJ hc;by_cases a:x.2.2.2.2.2.2.1=[]
   ·rw[ae a];by_cases hs:0<seT x
    ·rw[ae hs,ar hs];rfl
    ·rw[ab hs,au hs];by_cases b:x.2.2.2.2.2.1=[]
     ·rw[ae b];rfl
     ·rw[ab b];rfl
   ·rw[ab a,(c a).2];rfl
 ·rw[au hc,show(cF x==0)=false from by simp[hc]];rfl
def mX{x:TD}:plT x=true↔cF x=0/\exT x=true/\¬0<seT x:=by
 unfold plT;simp[and_assoc]
noncomputable def ordB(x y:TD):Bool:=(plT x&&plT y)&&(decide (coT x=coT y)&&decide ((dyT x).1<=(dyT y).1))
def zS{x:TD}(hc:cF x=0)(hs:¬0<seT x):(if x.2.2.2.2.2.2.1=[]then(if 0<seT x then(0:Int)else if x.2.2.2.2.2.1=[]then 1 else 2)else 3)=((coT x:Nat):Int):=by
 obtain⟨_,_,c⟩:=tJ hc;unfold coT bH;by_cases a:x.2.2.2.2.2.2.1=[]
 ·rw[ae a,ab hs];by_cases b:x.2.2.2.2.2.1=[]
  ·simp[b,a]
  ·simp[b,a]
 ·have b:=(c a).1;simp[a,b]
def Ks{x y:TD}(hx:smT x)(hy:smT y):nl 20000000 x y=some (ordB x y):=by
 unfold nl ordB;rw[BQ hx,BQ hy];cases j:plT x
 ·rfl
 cases i:plT y
 ·rfl
 obtain⟨d,g,h⟩:=mX.1 j;obtain⟨e,f,m⟩:=mX.1 i;rw[fpT hx,fpT hy,fdT hx,fdT hy,zS d h,zS e m,ae d,ae e,ae g,ae f];simp only[ob,u5,u4,u3,u2,dL,af,M5,pT];by_cases a:coT x=coT y
 ·rw[a,ar rfl];obtain⟨r,l,k⟩:=Jb (dyT x).1 (dyT y).1;simp only[eT,af,l,pT];refine co some ?_;have:decide (r<=0)=!decide (r>0):=by
   by_cases c:r<=0
   ·rw[ar c,au (by omega)];rfl
   ·rw[au c,ar (by omega)];rfl
  rw[this,k];by_cases b:(dyT x).1<=(dyT y).1
  ·rw[ar b,au (by omega)];rfl
  ·rw[au b,ar (by omega)];rfl
 ·have:(((coT x:Nat):Int) != ((coT y:Nat):Int))=true:=by simp;omega
  rw[this,au a];rfl
noncomputable def itE(x:TD)(r:Bool)(y:TD)(all:Bool):Int:=
 if cF x≠0 then cF x else if r=true/\cF y≠0 then cF y else if r=false/\eqD y d0=false then 5 else if r=true/\ordB x y=false then 10 else if all=true/\exT x=false then 10 else 0
def Eg{x y:TD}(r:Bool)(hx:smT x)(hy:smT y)(K:Int)(hc:cF x=0)(a:¬(r=true/\cF y≠0)):eN 20000000 5 10 10 x r y K=some (itE x r y (K==4)):=by
 unfold eN rC rq rf itE;rw[Ks hx hy,IA hx,ab (by simpa using hc),ab a];cases r
 ·generalize eqD y d0=z;cases z
  ·rfl
  ·cases(K==4)
   ·rfl
   ·cases exT x<;>rfl
 ·simp only[ob,dL,af,aj,reduceCtorEq,yv,aF,kz];cases ordB x y
  ·rfl
  ·simp only[dL,af,Bool.true_eq_false,aF];cases(K==4)
   ·rfl
   ·cases exT x<;>rfl
def F3{x y:TD}(r:Bool)(hx:smT x)(hy:smT y)(K:Int):ge 20000000 x r y K=some (if K=3\/K=4 then itE x r y (K==4)else 18):=by
 have b:(ob (ap10 (bj 20000000) x) λf=>(cond (f != 0) (some f) (cond r (ob (ap10 (bj 20000000) y) λc=>(cond (c != 0) (some c) (ob (eN 20000000 5 10 10 x r y K) λg=>(some g)))) (ob (eN 20000000 5 10 10 x r y K) λh=>(some h)))))=some (itE x r y (K==4)):=by
  rw[fcT hx];simp only[ob];by_cases hc:cF x=0
  ·rw[show(cF x != 0)=false from by simp[hc],af];cases r
   ·rw[Eg false hx hy K hc (by simp)];rfl
   ·rw[aj,fcT hy];simp only;by_cases a:cF y=0
    ·rw[show(cF y != 0)=false from by simp[a],af,Eg true hx hy K hc (by simp[a])]
    ·rw[show(cF y != 0)=true from by simp[a],aj];unfold itE;rw[ab (by simpa using hc),ae ⟨rfl,a⟩]
  ·rw[show(cF x != 0)=true from by simp[hc],aj];unfold itE;rw[ae hc]
 unfold ge;by_cases e:K=3
 ·subst e;exact b.trans (by rfl)
 ·rw[show(K != 3)=true from by simp[e],aj];by_cases d:K=4
  ·subst d;exact b.trans (by rfl)
  ·rw[show(K != 4)=true from by simp[d],aj,ab (by omega)]
def Zr{x y:TD}{r all:Bool}(h:cF x≠0):itE x r y all=cF x:=ae h
def Wj{x y:TD}{all:Bool}(hc:cF x=0)(h:cF y≠0):itE x true y all=cF y:=by
 unfold itE;rw[ab (λh=>h hc),ae ⟨rfl,h⟩]
def PW{x y:TD}{all:Bool}(hc:cF x=0):itE x false y all=if eqD y d0=false then 5 else if all=true/\exT x=false then 10 else 0:=by
 have b:(false=true/\cF y≠0)↔False:=by simp
 have a:(false=true/\ordB x y=false)↔False:=by simp
 have c:(false=false/\eqD y d0=false)↔eqD y d0=false:=by simp
 unfold itE;rw[ab (λh=>h hc)];simp only[b,a,aF,kz]
def WL{x y:TD}{all:Bool}(hc:cF x=0)(hy:cF y=0):itE x true y all=if ordB x y=false then 10 else if all=true/\exT x=false then 10 else 0:=by
 have b:(true=true/\ordB x y=false)↔ordB x y=false:=by simp
 have a:(true=false/\eqD y d0=false)↔False:=by simp
 unfold itE;rw[ab (λh=>h hc),ab (λh=>h.2 hy)];simp only[a,aF,kz]
def oL{A:Type}(f:Nat->A->Int):Nat->List A->Option (Nat×Int)
 | _,[]=>none
 | i,t::r=>if f i t≠0 then some (i,f i t)else oL f (i+1) r
def rS{A X Y:Type}{step:X->Option (X⊕Y)}{st:Nat->X}{L:List A}{f:Nat->A->Int}{yes:Nat->Int->Y}{no:Y}
  (d:∀i t,L[i]?=some t->step (st i)=some (if f i t≠0 then .inr (yes i (f i t))else .inl (st (i+1)))) (c:step (st L.length)=some (.inr no)):
  ∀(r i:Nat),i+r=L.length->∀N,r<N->av step N (st i)=some (match oL f i (L.drop i)with | some p=>yes p.1 p.2 | none=>no):=by
 intro r
 induction r with
 | zero=>
  intro i hi N e;obtain⟨N,rfl⟩:∃k,N=k+1:=⟨N - 1,by omega⟩;rw[av,show i=L.length by omega,c,xe];rfl
 | succ r ih=>
  intro i hi N e;obtain⟨N,rfl⟩:∃k,N=k+1:=⟨N - 1,by omega⟩;have a:i<L.length:=by omega
  have g:L[i]?=some L[i]:=bu a;rw[av,d i _ g,rD a,oL];by_cases b:f i L[i]≠0
  ·rw[ae b,ae b]
  ·rw[ab b,ab b];exact ih (i+1) (by omega) N (by omega)
abbrev rT(t:TI):Bool:=(d8 t).2.2.1
abbrev iT(t:TI):TD:=(d8 t).2.2.2
def smI(t:TI):Prop:=smT (iF t)/\smT (iT t)
noncomputable def itI(t:TI)(all:Bool):Int:=itE (iF t) (rT t) (iT t) all
noncomputable def endB(t:TI):Bool:=!rT t&&plT (iF t)
noncomputable def errI(K:Int)(e l:Bool)(n i:Nat)(t:TI):Int:=
 if itI t (K==4)≠0 then itI t (K==4)else if(e&&decide (i=0))&&!endB t||((l&&decide (i+1=n))&&!endB t||(e&&(l&&decide (n=1))))then 10 else 0
noncomputable def ye(K:Int)(e l:Bool)(L:List TI):Int×Int:=match oL (errI K e l L.length) 0 L with
 | some p=>((p.1:Int),p.2)
 | none=>(0,0)
def oe{i:Nat}(h:i<9223372036854775807):w64 ((i:Int)+1)=((i+1:Nat):Int):=by
 show wrap .i64 _=_;rw[wrap_i64 _ (by omega) (by omega)];omega
def Lx{i:Nat}(a:0<i)(h:i<9223372036854775807):w64 ((i:Int) - 1)=((i - 1:Nat):Int):=by
 show wrap .i64 _=_;rw[wrap_i64 _ (by omega) (by omega)];omega
def natB(a b:Nat):(((a:Nat):Int)==((b:Nat):Int))=decide (a=b):=by
 by_cases h:a=b
 ·subst h;simp
 ·rw[au h];simp;omega
def NN(a:Nat):(((a:Nat):Int)==0)=decide (a=0):=natB a 0
def Xz{x y:TD}(r:Bool)(hx:smT x):oc 20000000 x r y=some (!r&&plT x):=by
 unfold oc;rw[BQ hx];cases r<;>rfl
def OD{K:Int}(m:K=3\/K=4){e l:Bool}{L:List TI}{i:Nat}{t:TI}(hi:L[i]?=some t)(hs:smI t)(o:L.length<=1000000)(D:TD)(KF:Int)(DF:TD)(KT:Int)(DT:TD):
  gF 20000000 (itI t (K==4)) 10 10 10 (iF t) (rT t) (iT t) K D KF DF KT DT e l (i:Int) (w64 (len L - 1)) L=some (errI K e l L.length i t):=by
 have n:i<L.length:=(nc.1 hi).1;have d:w64 (len L - 1)=((L.length - 1:Nat):Int):=Lx (by omega) (by omega);have g:ge 20000000 (iF t) (rT t) (iT t) K=some (itI t (K==4)):=by
  rw[F3 _ hs.1 hs.2,ae m];rfl
 unfold gF qx qD qK qB errI;rw[g,d];simp only[Xz (rT t) hs.1,ob,NN,natB];have j:decide (i=L.length - 1)=decide (i+1=L.length):=by congr 1;exact propext (by omega)
 have k:decide (L.length - 1=0)=decide (L.length=1):=by congr 1;exact propext (by omega)
 rw[j,k];show cond (itI t (K==4) != 0) _ _=_;by_cases f:itI t (K==4)=0
 ·rw[ab (λh=>h f),show(itI t (K==4) != 0)=false from by simp[f],af];show _=some (if((e&&decide (i=0))&&!endB t||((l&&decide (i+1=L.length))&&!endB t||(e&&(l&&decide (L.length=1)))))=true then 10 else 0);unfold endB;generalize(!rT t&&plT (iF t))=z;generalize decide (i=0)=a;generalize decide (i+1=L.length)=b;generalize decide (L.length=1)=c;cases e<;>cases l<;>cases z<;>cases a<;>cases b<;>cases c<;>rfl
 ·rw[ae f,show(itI t (K==4) != 0)=true from by simp[f],aj]
def Px {K:Int} (g:K=3\/K=4) {e l:Bool} {L:List TI} (hs:∀t∈L,smI t) (j:L.length<=1000000) (D:TD) (KF:Int) (DF:TD) (KT:Int) (DT:TD):
  lT 20000000 K D KF DF KT DT e l L=some (ye K e l L):=by
 have:=rS (step:=fK 20000000) (st:=λi=>(len L,(i:Int),L,K,D,KF,DF,KT,DT,e,l,w64 (len L - 1))) (L:=L) (f:=errI K e l L.length) (yes:=λi q=>.inl ((i:Int),q)) (no:=.inr ())
  (λi t hi=>by
   have d:i<L.length:=(nc.1 hi).1;have a:=hs t (fk hi);have c:ge 20000000 (iF t) (rT t) (iT t) K=some (itI t (K==4)):=by
    rw [F3 _ a.1 a.2,ae g];rfl
   unfold fK;simp only [u12,u11,u10,u9,u8,u7,u6,u5,u4,u3,u2];rw [ar (show (i:Int)<len L by unfold len;omega),cT d];simp only [aj,ob,hi];rw [show ge 20000000 (iF t) (d8 t).2.2.1 (d8 t).2.2.2 K=some (itI t (K==4)) from c];simp only;rw [show gF 20000000 (itI t (K==4)) 10 10 10 (iF t) (d8 t).2.2.1 (d8 t).2.2.2 K D KF DF KT DT e l (i:Int) (w64 (len L - 1)) L=some (errI K e l L.length i t) from OD g hi a j D KF DF KT DT];simp only;rw [oe (by omega)];by_cases b:errI K e l L.length i t=0
   ·rw [ab (λh=>h b),show (errI K e l L.length i t != 0)=false from by simp [b]];rfl
   ·rw [ae b,show (errI K e l L.length i t != 0)=true from by simp [b]];rfl)
  (by
   unfold fK;simp only [u12,u11,u10,u9,u8,u7,u6,u5,u4,u3,u2];rw [au (show ¬((L.length:Nat):Int)<len L by unfold len;omega)];rfl)
  L.length 0 (by omega) 20000000 (by omega)
 unfold lT ye;rw [cS] at this;show obs (av (fK 20000000) 20000000 (len L,((0:Nat):Int),L,K,D,KF,DF,KT,DT,e,l,w64 (len L - 1))) _ _=_;rw [this];cases oL (errI K e l L.length) 0 L<;>rfl
noncomputable def rH(K:Int)(x:TD):Int:=chkB K x.1 x.2.1 x.2.2.1 x.2.2.2.1 x.2.2.2.2.1 x.2.2.2.2.2.1 x.2.2.2.2.2.2.1 x.2.2.2.2.2.2.2.1 x.2.2.2.2.2.2.2.2.1 x.2.2.2.2.2.2.2.2.2
noncomputable def nA(K:Int)(x:TD)(a:Int)(y:TD):Int:=FG (rH K x) (rH a y) K a (dyT x).1 (dyT y).2
def MM{x y:TD}(hx:smT x)(hy:smT y)(K a:Int):ap10 (ap10 (iv 20000000 K) x a) y=some (nA K x a y):=
 Vq hx.1 hx.2.1 hx.2.2.1 hx.2.2.2.1 hx.2.2.2.2.1 hx.2.2.2.2.2 hy.1 hy.2.1 hy.2.2.1 hy.2.2.2.1 hy.2.2.2.2.1 hy.2.2.2.2.2
def Oq{x y:TD}(hx:smT x)(hy:smT y)(K a:Int):ap10 (ap10 (ie 20000000 K) x a) y=some (nA K x a y):=
 Rb hx.1 hx.2.1 hx.2.2.1 hx.2.2.2.1 hx.2.2.2.2.1 hx.2.2.2.2.2 hy.1 hy.2.1 hy.2.2.1 hy.2.2.2.1 hy.2.2.2.2.1 hy.2.2.2.2.2
def unuB(K:Int)(D:TD)(KF:Int)(DF:TD)(KT:Int)(DT:TD)(e l:Bool)(n:Nat):Bool:=
 !(K==1||eqD D d0)||(!(K==2||((KF==0)&&((eqD DF d0)&&true))&&((KT==0)&&((eqD DT d0)&&true)))||!(K==3||(K==4||(decide (n=0)&&(!e&&!l)))))
def KQ(n:Nat)(K:Int)(D:TD)(KF:Int)(DF:TD)(KT:Int)(DT:TD)(e l:Bool)(L:List TI):
  mE n K D KF DF KT DT e l L=some (unuB K D KF DF KT DT e l L.length):=by
 unfold mE unuB;rw[show(len L==0)=decide (L.length=0)from NN _];generalize eqD D d0=a;generalize((KF==0)&&((eqD DF d0)&&true))=z1;generalize((KT==0)&&((eqD DT d0)&&true))=z2;generalize decide (L.length=0)=b;generalize(K==1)=k1;generalize(K==2)=k2;generalize(K==3)=k3;generalize(K==4)=k4;revert a z1 z2 b k1 k2 k3 k4 e l;decide +kernel
noncomputable def fj(K:Int)(D:TD)(KF:Int)(DF:TD)(KT:Int)(DT:TD)(e l:Bool)(L:List TI):Int×Int:=
 if K<1\/4<K then(0,18)else if unuB K D KF DF KT DT e l L.length=true then(0,5)else if K=1 then(0,cF D)else if K=2 then(0,nA KF DF KT DT)else if L.length=0 then(0,17)else if 256<L.length then(0,3)else ye K e l L
def smE(D DF DT:TD)(L:List TI):Prop:=smT D/\smT DF/\smT DT/\∀t∈L,smI t
def Hm{K:Int}{D:TD}{KF:Int}{DF:TD}{KT:Int}{DT:TD}{e l:Bool}{L:List TI}(h:smE D DF DT L):
  lR 20000000 K D KF DF KT DT e l L=some (fj K D KF DF KT DT e l L):=by
 obtain⟨f,i,j,g⟩:=h;unfold lR fj;by_cases b:K<1
 ·rw[ar b,ae (.inl b)];rfl
 by_cases c:4<K
 ·rw[au b,show decide (K>4)=true from ar c,ae (.inr c)];rfl
 rw[au b,show decide (K>4)=false from au c,ab (by omega),KQ];simp only[af,ob];cases unuB K D KF DF KT DT e l L.length
 ·simp only[af,bQ,aF];by_cases k1:K=1
  ·rw[ae k1,show(K==1)=true from by simp[k1],fcT f];rfl
  by_cases k2:K=2
  ·rw[ab k1,ae k2,show(K==1)=false from by simp[k1],show(K==2)=true from by simp[k2],MM i j];rfl
  rw[ab k1,ab k2,show(K==1)=false from by simp[k1],show(K==2)=false from by simp[k2]];simp only[af];rw[show(len L==0)=decide (L.length=0)from NN _];by_cases a:L.length=0
  ·rw[ar a,ae a];rfl
  rw[au a,ab a];by_cases d:256<L.length
  ·rw[show decide (len L>256)=true from ar (by show(256:Int)<((L.length:Nat):Int);omega),ae d];rfl
  rw[show decide (len L>256)=false from au (by show¬(256:Int)<((L.length:Nat):Int);omega),ab d,Px (by omega) g (by omega)];rfl
 ·rfl
def wh{K:Int}{D:TD}{KF:Int}{DF:TD}{KT:Int}{DT:TD}{e l:Bool}{L:List TI}(h:smE D DF DT L):
  fU 20000000 K D KF DF KT DT e l L=some (fj K D KF DF KT DT e l L).2:=by
 unfold fU;rw[Hm h];rfl
end Go.Sh
