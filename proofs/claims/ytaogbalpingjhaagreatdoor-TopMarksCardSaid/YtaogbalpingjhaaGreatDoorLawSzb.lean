
/- Plain proofs, kept as far as they are needed here (printed by prune.py).
   Conditions: none. -/
import Derived.Test.YtaogbalpingjhaaGreatDoorLawSza
set_option linter.unusedVariables false
set_option linter.unusedSimpArgs false
set_option maxRecDepth 100000
namespace Go.Sh.Mk
open Go.Abs
def okB (c:UInt8):Bool:=c.toNat==88||(decide (48<=c.toNat)&&decide (c.toNat<=57))
def chk (s:aa):Int:=if 18<s.length then 3 else if s.all okB then (if s=[] then 5 else 0) else 5
theorem sD (n:Nat) (s0 s:aa) (r:s.length+1<n):
  au (gD n) n (s0,s,0)=some (if s.all okB then .inr s0 else .inl 5):=by
 have:=fE (step:=gD n) (λx=>x.1=s0/\x.2.1=s/\x.2.2<=s.length) (λx=>s.length - x.2.2)
  (λx=>if (s.drop x.2.2).all okB then .inr s0 else .inl 5) ?_ n (s0,s,0) ⟨rfl,rfl,gf _⟩ (by simp;omega)
 ·simpa using this
 rintro ⟨a,b,i⟩ ⟨rfl,rfl,hi⟩;simp only at hi ⊢;rcases aE i b.length with j | o
 ·obtain ⟨c,hc⟩:∃c,b[i]?=some c:=⟨b[i],bG j⟩;have m:Nat.blt i b.length=true:=co j;rw [eS hc,kM];simp only [gD,m,aj];by_cases k:c.toNat<128
  ·rw [xG hc k];by_cases g:c.toNat=88
   ·refine .inl ⟨(a,b,i+1),by simp [g],⟨rfl,rfl,by simp only;omega⟩,by simp only;omega,?_⟩;simp [okB,g]
   ·by_cases p:c.toNat<48
    ·refine .inr ?_;have f:(((c.toNat:Nat):Int) != 88)=true:=by simp;omega
     have e:(decide (((c.toNat:Nat):Int)<48))=true:=by simp;omega
     have d:okB c=false:=by simp [okB];omega
     simp [f,e,d]
    ·by_cases q:57<c.toNat
     ·refine .inr ?_;have f:(((c.toNat:Nat):Int) != 88)=true:=by simp;omega
      have e:(decide (((c.toNat:Nat):Int)<48))=false:=by simp;omega
      have l:(decide (((c.toNat:Nat):Int)>57))=true:=by simp;omega
      have d:okB c=false:=by simp [okB];omega
      simp [f,e,d,l]
     ·have f:(((c.toNat:Nat):Int) != 88)=true:=by simp;omega
      have e:(decide (((c.toNat:Nat):Int)<48))=false:=by simp;omega
      have l:(decide (((c.toNat:Nat):Int)>57))=false:=by simp;omega
      have d:okB c=true:=by simp [okB];omega
      refine .inl ⟨(a,b,i+1),by simp only [f,e,l,aj,af],⟨rfl,rfl,by simp only;omega⟩,by simp only;omega,?_⟩;simp [d]
  ·obtain ⟨t,u⟩:=E9 hc (by omega);refine .inr ?_;have f:((((dec b i).1:Nat):Int) != 88)=true:=by simp;omega
   have e:(decide ((((dec b i).1:Nat):Int)<48))=false:=by simp;omega
   have l:(decide ((((dec b i).1:Nat):Int)>57))=true:=by simp;omega
   have d:okB c=false:=by simp [okB];omega
   simp [f,e,d,l]
 ·have m:Nat.blt i b.length=false:=by
   cases h:Nat.blt i b.length with
   | false=>rfl
   | true=>have:i<b.length:=aD h;omega
  refine .inr ?_;simp only [gD,m,af];rw [kP o];rfl
theorem kh (n:Nat) (s:aa) (b:30<=n):gR n s=some (chk s):=by
 unfold gR chk;by_cases h:18<s.length
 ·have:(decide (((List.length s:Nat):Int)>18))=true:=by simp;omega
  simp [this,h]
 ·have e:(decide (((List.length s:Nat):Int)>18))=false:=by simp;omega
  simp only [e,af,h,aC];rw [sD n s s (by omega)];by_cases a:s.all okB=true
  ·simp only [a,aI,ob];by_cases hs:s=[]
   ·simp [hs]
   ·have:(s==([]:aa))=false:=by simpa using hs
    simp [this,hs]
  ·simp [a,ob]
theorem lG {s:aa} (h:chk s=0):s.length<=18/\s≠[]/\∀c∈s,okB c=true:=by
 unfold chk at h;split at h
 ·simp at h
 ·split at h
  ·rename_i a;split at h
   ·simp at h
   ·rename_i hs;exact ⟨by omega,hs,by simpa using a⟩
  ·simp at h
def nums (l:aa):List Int:=l.map λb=>((b.toNat:Nat):Int)
def over (d:List Int) (i:Nat) (l:List Int):List Int:=d.take i++(l++d.drop (i+l.length))
theorem yJ (d:List Int) (i:Nat) (x:Int) (l:List Int) (h:i<d.length):over (d.set i x) (i+1) l=over d i (x::l):=by
 unfold over;rw [show (d.set i x).take (i+1)=d.take i++[x] from by
  rw [IJ (by simpa using h)];simp [List.take_set_of_le]]
 rw [List.drop_set_of_lt (by omega)];simp [gG,nz 1]
theorem EF (d:List Int) (i:Nat):over d i []=d:=by simp [over]
theorem KJ (d:List Int) (i:Nat) (l:List Int) (h:i+l.length<=d.length):(over d i l).length=d.length:=by
 unfold over;simp;omega
theorem LW {x y:UInt8}:(((x.toNat:Nat):Int)==((y.toNat:Nat):Int))=decide (x=y):=by
 by_cases h:x=y
 ·simp [h]
 ·have:x.toNat≠y.toNat:=λe=>h (gM.1 e);simp [h];omega
theorem yG {x:UInt8}:(((x.toNat:Nat):Int)==88)=decide (x=88):=by
 have:=LW (x:=x) (y:=88);simpa using this
def dg:Nat->Int->List Int
 | 0,_=>[]
 | L+1,k=>dg L (k / 10)++[48+k%10]
theorem uS:∀(L:Nat) (k:Int),(dg L k).length=L
 | 0,_=>rfl
 | L+1,k=>by simp [dg,uS L]
theorem qP:∀(L:Nat) (k:Int),∀x∈dg L k,48<=x/\x<58
 | 0,_,x,h=>by simp [dg] at h
 | L+1,k,x,h=>by
  simp only [dg,kF,tJ] at h;rcases h with h | rfl
  ·exact qP L _ x h
  ·omega
def ie:aa->List Int->Bool
 | c::m,d::l=>(c==88||decide (((c.toNat:Nat):Int)=d))&&ie m l
 | _,_=>true
theorem su:∀{a c:aa} {b d:List Int},a.length=b.length->ie (a++c) (b++d)=(ie a b&&ie c d)
 | [],c,[],d,_=>by simp [ie]
 | x::a,c,y::b,d,h=>by
  simp only [aG,tY] at h;simp only [dL,ie,su h,Bool.and_assoc]
def hasM (m:aa) (k:Int):Bool:=decide (0<=k)&&(decide (k<10 ^ m.length)&&ie m (dg m.length k))
theorem Me (L:Nat) (h:L<=18):lD 20000000 ((L:Nat):Int)=some (10 ^ L):=by
 have a:allN (λi=>match lD 20000000 ((i:Nat):Int) with | some r=>decide (r=10 ^ i) | none=>false) 19=true:=by kernel_rfl
 have:=BZ a L (by omega);split at this
 ·rename_i r b;rw [b];simpa using this
 ·cases this
theorem zH (L:Nat) (h:L<=18):(10:Int) ^ L<=1000000000000000000:=by
 have a:allN (λi=>decide ((10:Int) ^ i<=1000000000000000000)) 19=true:=by kernel_rfl
 simpa using BZ a L (by omega)
theorem Qx {k:Int} (h:0<=k):Int.tmod k 10=k%10:=Int.tmod_eq_emod_of_nonneg h
theorem QE {k:Int} (h:0<=k):Int.tdiv k 10=k / 10:=Ni h
theorem Gk (k:Int) (i:Nat) (d:List Int) (a:0<=k) (c:k<9223372036854775808) (hi:i<=18) (b:d.length=18):
  au (gz 20000000) 20000000 (k,(i:Int) - 1,d)=some (over d 0 (dg i k)):=by
 have:=fE (step:=gz 20000000) (λx=>(0<=x.1/\x.1<9223372036854775808)/\(-1<=x.2.1/\x.2.1<=17)/\x.2.2.length=18) (λx=>(x.2.1+1).toNat)
  (λx=>over x.2.2 0 (dg (x.2.1+1).toNat x.1)) ?_ 20000000 (k,(i:Int) - 1,d) ⟨⟨a,c⟩,⟨by simp only;omega,by simp only;omega⟩,b⟩ (by simp only;omega)
 ·simpa using this
 rintro ⟨k,i,d⟩ ⟨⟨a,c⟩,⟨o,l⟩,b⟩;simp only at a c o l b ⊢;by_cases hi:0<=i
 ·obtain ⟨j,rfl⟩:∃j:Nat,i=j:=⟨i.toNat,by omega⟩;have f:j<18:=by omega
  have e:decide ((j:Int)>=0)=true:=by simp
  have h:Nat.blt j 18=true:=co f;have q:IntKind.wrap .i64 ((j:Int) - 1)=(j:Int) - 1:=wrap_i64 _ (by omega) (by omega);have m:IntKind.wrap .i64 (Int.tdiv k 10)=k / 10:=by rw [QE a];exact wrap_i64 _ (by omega) (by omega)
  have g:IntKind.wrap .u8 (IntKind.wrap .i64 (48+Int.tmod k 10))=48+k%10:=by rw [Qx a,wrap_i64 _ (by omega) (by omega),jf _ (by omega) (by omega)]
  refine .inl ⟨(k / 10,(j:Int) - 1,d.set j (48+k%10)),by simp only [gz,e,aj,eY f,ob,h,q,m,g],⟨⟨by simp only;omega,by simp only;omega⟩,⟨by simp only;omega,by simp only;omega⟩,by simpa using b⟩,by simp only;omega,?_⟩;have n:((j:Int) - 1+1).toNat=j:=by omega
  have p:((j:Int)+1).toNat=j+1:=by omega
  simp only [n,p,over,kG,da,uS,cb,dg,eJ];congr 1;rw [List.drop_set,ab (by omega),yI,wZ (by omega)];simp only [List.set_cons_zero,bv,uS,aG,cA,dL,da,cb]
 ·have e:decide (i>=0)=false:=by simp;omega
  have s:(i+1).toNat=0:=by omega
  refine .inr ?_;simp only [gz,e,af,s,dg,EF]
theorem Ln (m:aa) (k:Int) (c:m.length<=18) (a:0<=k) (b:k<9223372036854775808):
  jX 20000000 m k=some (over [0,0,0,0,0,0,0,0,0,0,0,0,0,0,0,0,0,0] 0 (dg m.length k)):=by
 have w:IntKind.wrap .i64 (((List.length m:Nat):Int) - 1)=(m.length:Int) - 1:=wrap_i64 _ (by omega) (by omega);simp only [jX,w,Gk k m.length [0,0,0,0,0,0,0,0,0,0,0,0,0,0,0,0,0,0] a b c (by rfl),ob]
theorem sQ {d l:List Int} {i:Nat} (h:i<l.length):(over d 0 l)[i]?=l[i]?:=by
 unfold over;simp only [kG,da];rw [lK h]
theorem wM:∀(l:List Int),(∀x∈l,0<=x/\x<256)->nums (fU l)=l
 | [],_=>rfl
 | x::l,h=>by
  have ih:=wM l λy hy=>h y (eC _ hy);obtain ⟨a,c⟩:=h x (by simp);have e:(((UInt8.ofNat x.toNat).toNat:Nat):Int)=x:=by
   rw [CH,pV (by omega)];omega
  simp only [nums,fU,sc] at ih ⊢;simp only [fg,Function.comp,e];rw [show List.map ((λb:UInt8=>((b.toNat:Nat):Int)) ∘ λn:Int=>UInt8.ofNat n.toNat) l=l from ih]
theorem LO (l:aa):(nums l).length=l.length:=by simp [nums]
def cnt:aa->Nat
 | []=>0
 | c::r=>if c=88 then cnt r+1 else cnt r
def dv (c:UInt8):Int:=((c.toNat:Nat):Int) - 48
def nth:aa->Int->Int
 | [],_=>0
 | c::r,i=>if c=88 then 10*nth r (i / 10)+i%10 else 10*nth r i+dv c
def ag:aa->Int->Bool
 | [],_=>true
 | c::r,k=>ag r (k / 10)&&(decide (c=88)||decide (dv c=k%10))
def idx:aa->Int->Int
 | [],_=>0
 | c::r,k=>if c=88 then 10*idx r (k / 10)+k%10 else idx r (k / 10)
def okR (r:aa):Prop:=∀c∈r,c=88\/(0<=dv c/\dv c<10)
theorem wb {m:aa} (h:∀c∈m,okB c=true):okR m.reverse:=by
 intro c hc;have:=h c (By.1 hc);simp only [okB,gu,bA,az,bX] at this;rcases this with h | h
 ·exact .inl (gM.1 (by simpa using h))
 ·exact .inr (by unfold dv;omega)
theorem pm {c:UInt8} {r:aa} (h:okR (c::r)):okR r:=λx hx=>h x (eC _ hx)
theorem gC (n:Nat):(10:Int) ^ (n+1)=10*10 ^ n:=by rw [Int.pow_succ,Int.mul_comm]
theorem qR (n:Nat):(0:Int)<10 ^ n:=Int.pow_pos (by omega)
theorem og:∀{r:aa},okR r->∀i,0<=i->0<=nth r i/\nth r i<10 ^ r.length
 | [],_,i,_=>by simp [nth]
 | c::r,h,i,hi=>by
  simp only [nth,aG,gC];split
  ·have:=og (pm h) (i / 10) (by omega);omega
  ·rename_i hc;have:=og (pm h) i hi;have:=(h c (by simp)).resolve_left hc;omega
theorem J0:∀{r:aa},okR r->∀i,0<=i->ag r (nth r i)=true
 | [],_,_,_=>rfl
 | c::r,h,i,hi=>by
  simp only [nth,ag];split
  ·rename_i hc;have e:(10*nth r (i / 10)+i%10) / 10=nth r (i / 10):=by omega
   rw [e,J0 (pm h) (i / 10) (by omega)];simp [hc]
  ·rename_i hc;have b:=(h c (by simp)).resolve_left hc;have e:(10*nth r i+dv c) / 10=nth r i:=by omega
   have a:(10*nth r i+dv c)%10=dv c:=by omega
   rw [e,a,J0 (pm h) i hi];simp
theorem tC:∀(r:aa) (k:Int),0<=k->0<=idx r k/\idx r k<10 ^ cnt r
 | [],k,_=>by simp [idx,cnt]
 | c::r,k,a=>by
  have:=tC r (k / 10) (by omega);simp only [idx,cnt];split
  ·rw [gC];omega
  ·exact this
theorem Jt:∀{r:aa} {k:Int},0<=k->k<10 ^ r.length->ag r k=true->nth r (idx r k)=k
 | [],k,d,b,_=>by simp at b;simp [nth];omega
 | c::r,k,d,b,a=>by
  simp only [ag,az,gu,bX] at a;rw [aG,gC] at b;have ih:=Jt (r:=r) (k:=k / 10) (by omega) (by omega) a.1;simp only [nth,idx];split
  ·have:=tC r (k / 10) (by omega);have e:(10*idx r (k / 10)+k%10) / 10=idx r (k / 10):=by omega
   have f:(10*idx r (k / 10)+k%10)%10=k%10:=by omega
   rw [e,f,ih];omega
  ·rename_i hc;rw [ih];have:=a.2.resolve_left hc;omega
theorem yj:∀{r:aa},okR r->∀i j,0<=i->i<j->j<10 ^ cnt r->nth r i<nth r j
 | [],_,i,j,b,d,a=>by simp [cnt] at a;omega
 | c::r,h,i,j,b,d,a=>by
  simp only [nth,cnt] at a ⊢;split
  ·rename_i hc;rw [ae hc,gC] at a;by_cases e:i / 10=j / 10
   ·rw [e];omega
   ·have:=yj (pm h) (i / 10) (j / 10) (by omega) (by omega) (by omega);omega
  ·rename_i hc;rw [ab hc] at a;have:=yj (pm h) i j b d a;omega
theorem Eb:∀(r:aa),∀k,ie r.reverse (dg r.length k)=ag r k
 | [],k=>rfl
 | c::r,k=>by
  simp only [List.reverse_cons,aG,dg,ag];rw [su (by rw [wV,uS]),Eb r];have a:decide (((c.toNat:Nat):Int)=48+k%10)=decide (dv c=k%10):=uc.2 (by unfold dv;omega);have b:(c==88)=decide (c=88):=by by_cases h:c=88<;>simp [h]
  simp only [ie,ET,a,b]
theorem BC (m:aa) (k:Int):hasM m k=(decide (0<=k)&&(decide (k<10 ^ m.length)&&ag m.reverse k)):=by
 have:=Eb m.reverse k;rw [uo,wV] at this;unfold hasM;rw [this]
theorem vC:∀(m:aa),cnt m=m.count 88
 | []=>rfl
 | c::m=>by
  simp only [cnt,vC m,List.count_cons];by_cases h:c=88<;>simp [h]
theorem qe (m:aa):cnt m.reverse=cnt m:=by rw [vC,vC,List.count_reverse]
theorem HK:∀(m:aa),cnt m<=m.length
 | []=>by simp [cnt]
 | c::m=>by
  have:=HK m;simp only [cnt,aG];split<;>omega
def fd (x y:Int):Int:=(if y=88 then x else y) - 48
def fval (x:Int) (l:List Int):Int:=l.foldl (λn y=>10*n+fd x y) 0
theorem xy (x:Int):∀(l:List Int) (n:Int),l.foldl (λn y=>10*n+fd x y) n=n*10 ^ l.length+fval x l
 | [],n=>by simp [fval]
 | y::l,n=>by
  have e:=xy x l (10*n+fd x y);have a:=xy x l (10*0+fd x y);simp only [fval,sq,aG,gC] at e a ⊢;rw [e,a,Int.add_mul,Int.add_mul];have:10*n*10 ^ l.length=n*(10*10 ^ l.length):=by rw [Int.mul_comm 10 n,Int.mul_assoc]
  omega
theorem tR (s:aa) (x:Int) (w:s.length<=18) (hs:∀c∈s,0<=fd x ((c.toNat:Nat):Int)/\fd x ((c.toNat:Nat):Int)<10):kD 20000000 s x=some (fval x (nums s)):=by
 have hs':∀y∈nums s,0<=fd x y/\fd x y<10:=by
  intro y hy;obtain ⟨c,hc,rfl⟩:=dH.1 hy;exact hs c hc
 have C:(nums s).length=s.length:=LO s;have:=fE (step:=fN 20000000)
  (λst=>st.1=x/\st.2.2.1=((s.length:Nat):Int)/\st.2.2.2.2=nums s/\(0<=st.2.2.2.1/\st.2.2.2.1<=s.length)/\0<=st.2.1/\st.2.1<10 ^ st.2.2.2.1.toNat) (λst=>s.length - st.2.2.2.1.toNat)
  (λst=>((nums s).drop st.2.2.2.1.toNat).foldl (λn y=>10*n+fd x y) st.2.1) ?_ 20000000 (x,0,((s.length:Nat):Int),0,nums s) ⟨rfl,rfl,rfl,⟨by simp,by simp⟩,by simp,by simp⟩ (by simp;omega)
 ·show (ob (au (fN 20000000) 20000000 (x,0,((List.length (nums s):Nat):Int),0,nums s)) λf=>some f)=_;rw [C,this];rfl
 rintro ⟨b,n,len,i,l⟩ ⟨o,q,r,⟨t,hi⟩,A,m⟩;simp only at o q r t hi A m ⊢;subst o q r;obtain ⟨j,rfl⟩:∃j:Nat,i=j:=⟨i.toNat,by omega⟩;simp only [bW] at m ⊢;rcases aE j s.length with B | u
 ·obtain ⟨y,hy⟩:∃c,(nums s)[j]?=some c:=⟨(nums s)[j]'(by omega),bG (by omega)⟩;obtain ⟨d0,d⟩:=hs' y (fY hy);have h:(decide ((j:Int)<((s.length:Nat):Int)))=true:=by simp;omega
  have v:IntKind.wrap .i64 ((j:Int)+1)=((j+1:Nat):Int):=by rw [wrap_i64 _ (by omega) (by omega)];omega
  have e:=zH (j+1) (by omega);rw [gC] at e;have D:IntKind.wrap .i64 (10*n)=10*n:=wrap_i64 _ (by omega) (by omega);have p:∀z:Int,0<=z->z<10->IntKind.wrap .i64 (10*n+IntKind.wrap .i64 (IntKind.wrap .u8 z))=10*n+z:=λz E z1=>by
   rw [jf z (by omega) (by omega),wrap_i64 z (by omega) (by omega),wrap_i64 _ (by omega) (by omega)]
  rw [eS hy,sq];simp only [fN,h,aj,eY (show j<(nums s).length by omega),ob,hy,v,D];have next:0<=10*n+fd b y/\10*n+fd b y<10 ^ (j+1):=by rw [gC];omega
  by_cases a:y=88
  ·have g:(y==88)=true:=by simpa using a
   have k:fd b y=b - 48:=by simp [fd,a]
   rw [k] at d0 d next ⊢;refine .inl ⟨(b,10*n+(b - 48),((s.length:Nat):Int),((j+1:Nat):Int),nums s),by simp only [g,aj,p _ d0 d],⟨rfl,rfl,rfl,⟨by simp only;omega,by simp only;omega⟩,next.1,by simpa only [bW] using next.2⟩,by simp only [bW];omega,by simp only [bW]⟩
  ·have g:(y==88)=false:=by simpa using a
   have k:fd b y=y - 48:=by simp [fd,a]
   rw [k] at d0 d next ⊢;refine .inl ⟨(b,10*n+(y - 48),((s.length:Nat):Int),((j+1:Nat):Int),nums s),by simp only [g,af,p _ d0 d],⟨rfl,rfl,rfl,⟨by simp only;omega,by simp only;omega⟩,next.1,by simpa only [bW] using next.2⟩,by simp only [bW];omega,by simp only [bW]⟩
 ·have h:(decide ((j:Int)<((s.length:Nat):Int)))=false:=by simp;omega
  refine .inr ?_;simp only [fN,h,af];rw [kP (by omega)];rfl
theorem tD (x:Int) (l:List Int) (y:Int):fval x (l++[y])=10*fval x l+fd x y:=by simp [fval,Dt]
theorem zN (r:aa) (c:UInt8):nums ((c::r).reverse)=nums r.reverse++[((c.toNat:Nat):Int)]:=by simp [nums]
theorem BM (x:Int) (c:UInt8):fd x ((c.toNat:Nat):Int)=if c=88 then x - 48 else dv c:=by
 unfold fd dv;by_cases h:c=88
 ·simp [h]
 ·have:¬((c.toNat:Nat):Int)=88:=λe=>h (gM.1 (by simpa using (by omega:c.toNat=88)));rw [ab this,ab h]
theorem wS:∀(r:aa),fval 48 (nums r.reverse)=nth r 0
 | []=>rfl
 | c::r=>by
  rw [zN,tD,wS r,BM];simp only [nth];split<;>simp
theorem re:∀(r:aa),fval 57 (nums r.reverse)=nth r (10 ^ cnt r - 1)
 | []=>rfl
 | c::r=>by
  have hp:=qR (cnt r);rw [zN,tD,re r,BM];simp only [nth,cnt];split
  ·rw [gC];have a:(10*(10:Int) ^ cnt r - 1) / 10=10 ^ cnt r - 1:=by omega
   have b:(10*(10:Int) ^ cnt r - 1)%10=9:=by omega
   rw [a,b];omega
  ·rfl
theorem QN {m:aa} (a:∀c∈m,okB c=true) {x:Int} (hx:48<=x/\x<58):∀c∈m,0<=fd x ((c.toNat:Nat):Int)/\fd x ((c.toNat:Nat):Int)<10:=by
 intro c hc;rw [BM];have:=wb a c (By.2 hc);split
 ·omega
 ·rename_i h;exact this.resolve_left h
theorem MA {m:aa} (c:chk m=0):nG 20000000 m=some (nth m.reverse 0,0):=by
 obtain ⟨a,_,b⟩:=lG c;have d:((0:Int) != 0)=false:=by simp
 have:=wS m.reverse;rw [uo] at this;simp only [nG,kh 20000000 m (by omega),c,ob,d,af,tR m 48 a (QN b (by omega)),this]
theorem BB {m:aa} (c:chk m=0):kl 20000000 m=some (nth m.reverse (10 ^ cnt m - 1),0):=by
 obtain ⟨a,_,b⟩:=lG c;have d:((0:Int) != 0)=false:=by simp
 have:=re m.reverse;rw [uo,qe] at this;simp only [kl,kh 20000000 m (by omega),c,ob,d,af,tR m 57 a (QN b (by omega)),this]
theorem LR {m:aa} {l:List Int} (z:List Int) (b:m.length<=18) (g:l.length=m.length) (d:∀y∈l,48<=y/\y<58):fk 20000000 m (over z 0 l)=some (fval 0 l):=by
 have f:List.take m.length (over z 0 l)=l:=by
  unfold over;rw [kG,da,rz (by omega),iP (by omega)]
 have e:nums (fU l)=l:=wM l λy hy=>by have:=d y hy;omega
 have h:(fU l).length=m.length:=by simp [fU,g]
 simp only [fk,eD b,ob,cb,show Nat.ble m.length 18=true from co b,aj,cH,f];rw [tR (fU l) 0 (by omega) ?_,e];intro c hc;have a:((c.toNat:Nat):Int)∈l:=by rw [<-e];exact dH.2 ⟨c,hc,rfl⟩
 have:=d _ a;unfold fd;rw [ab (by omega)];omega
theorem Dm {m:aa} (d:chk m=0) {i:Int} (c:0<=i):hasM m (nth m.reverse i)=true:=by
 obtain ⟨e,_,a⟩:=lG d;have b:=og (wb a) i c;rw [wV] at b;rw [BC,J0 (wb a) i c,aw b.1,aw b.2];rfl
def vl:List Int->Int
 | []=>0
 | y::l=>(y - 48)*10 ^ l.length+vl l
def digl (l:List Int):Prop:=∀y∈l,48<=y/\y<58
theorem cL {y:Int} {l:List Int} (h:digl (y::l)):digl l:=λx hx=>h x (eC _ hx)
theorem sM:∀{l:List Int},digl l->0<=vl l/\vl l<10 ^ l.length
 | [],_=>by simp [vl]
 | y::l,h=>by
  have ih:=sM (cL h);have hy:=h y (by simp);have hp:=qR l.length;simp only [vl,aG,gC];have a1:0<=(y - 48)*10 ^ l.length:=Int.mul_nonneg (by omega) (by omega);have a2:(y - 48)*10 ^ l.length<=9*10 ^ l.length:=NI (by omega) (by omega);omega
theorem N9 {y z:Int} {a b:List Int} (f:a.length=b.length) (d:digl a) (c:digl b) (h:y<z):vl (y::a)<vl (z::b):=by
 have g:=sM d;have e:=sM c;have hp:=qR a.length;simp only [vl];rw [<-f] at e ⊢;have a2:(y - 48+1)*10 ^ a.length<=(z - 48)*10 ^ a.length:=NI (by omega) (by omega);rw [Int.add_mul] at a2;omega
theorem yQ:∀{l:List Int},digl l->fval 0 l=vl l
 | [],_=>rfl
 | y::l,h=>by
  have hy:=h y (by simp);have e:fval 0 (y::l)=l.foldl (λn y=>10*n+fd 0 y) (10*0+fd 0 y):=rfl;have a:fd 0 y=y - 48:=by unfold fd;rw [ab (by omega)]
  rw [e,xy,yQ (cL h),a];simp only [vl,Int.mul_zero,Int.zero_add]
theorem HN {l:List Int} {y:Int} (h:digl (l++[y])):vl (l++[y])=10*vl l+(y - 48):=by
 have hy:=h y (by simp);have a:digl l:=λx hx=>h x (by simp [hx]);rw [<-yQ h,<-yQ a,tD];unfold fd;rw [ab (by omega)]
theorem KR:∀(L:Nat) (k:Int),0<=k->k<10 ^ L->vl (dg L k)=k
 | 0,k,c,a=>by simp at a;simp [dg,vl];omega
 | L+1,k,c,a=>by
  rw [gC] at a;have:=KR L (k / 10) (by omega) (by omega);have b:=qP (L+1) k;simp only [dg] at b ⊢;rw [HN b,this];omega
theorem SN {l:List Int} (h:digl l):dg l.length (vl l)=l:=by
 have b:∀(r:List Int),digl r.reverse->dg r.length (vl r.reverse)=r.reverse:=by
  intro r
  induction r with
  | nil=>intro _;rfl
  | cons y r ih=>
   intro h;simp only [List.reverse_cons,aG] at h ⊢;have hy:=h y (by simp);rw [HN h];simp only [dg];have a:(10*vl r.reverse+(y - 48)) / 10=vl r.reverse:=by omega
   have c:48+(10*vl r.reverse+(y - 48))%10=y:=by omega
   rw [a,c,ih λx hx=>h x (kF.2 (.inl hx))]
 have:=b l.reverse (by rw [uo];exact h);rwa [uo,wV] at this
def fst (up:Bool):Int:=cond up 48 57
def lst (up:Bool):Int:=cond up 57 48
def stp (up:Bool) (y:Int):Int:=cond up (y+1) (y - 1)
def fil (up:Bool) (m:aa):List Int:=m.map λc=>cond (decide (c=88)) (fst up) ((c.toNat:Nat):Int)
def nx (up:Bool):aa->List Int->Option (List Int)
 | c::m,y::l=>
  if c=88 then
   match nx up m l with
   | some r=>some (y::r)
   | none=>if y=lst up then none else some (stp up y::fil up m)
  else if ((c.toNat:Nat):Int)=y then (nx up m l).map λr=>y::r
  else if decide (((c.toNat:Nat):Int)>y)=up then some (((c.toNat:Nat):Int)::fil up m) else none
 | _,_=>some []
def okM (m:aa):Prop:=∀c∈m,okB c=true
theorem o7 {c:UInt8} {m:aa} (h:okM (c::m)):okM m:=λx hx=>h x (eC _ hx)
theorem E7 {c:UInt8} (h:okB c=true) (a:¬c=88):48<=((c.toNat:Nat):Int)/\((c.toNat:Nat):Int)<58:=by
 simp only [okB,gu,bA,az,bX] at h;have:¬c.toNat=88:=λe=>a (gM.1 (by simpa using e));omega
theorem yv (up:Bool) (m:aa):(fil up m).length=m.length:=by simp [fil]
theorem G9 (up:Bool) {m:aa} (h:okM m):digl (fil up m):=by
 intro y hy;obtain ⟨c,hc,rfl⟩:=dH.1 hy;by_cases a:c=88
 ·simp only [aw a,aj];cases up<;>simp [fst]
 ·simp only [ay a,af];exact E7 (h c hc) a
theorem vG (up:Bool):∀(m:aa),ie m (fil up m)=true
 | []=>rfl
 | c::m=>by
  have:=vG up m;simp only [fil,fg,ie] at this ⊢;rw [this];by_cases a:c=88
  ·simp [a]
  ·simp [a]
def dX (up:Bool) (a b:Int):Prop:=match up with | true=>a<=b | false=>b<=a
theorem yc (up:Bool):∀{m:aa} {e:List Int},okM m->m.length=e.length->digl e->ie m e=true->dX up (vl (fil up m)) (vl e)
 | [],[],_,_,_,_=>by cases up<;>simp [fil,vl,dX]
 | c::m,y::e,n,i,j,k=>by
  simp only [aG,tY] at i;simp only [ie,az,gu,bA,bX] at k;have ih:=yc up (o7 n) i (cL j) k.2;have hy:=j y (by simp);have d:=yv up m;have l:=G9 up (o7 n);have a:∀z:Int,vl (z::fil up m)=(z - 48)*10 ^ m.length+vl (fil up m):=λz=>by rw [vl,d]
  have g:fil up (c::m)=(cond (decide (c=88)) (fst up) ((c.toNat:Nat):Int))::fil up m:=rfl;rw [g];by_cases b:c=88
  ·simp only [aw b,aj];by_cases f:y=fst up
   ·rw [<-f,a,vl,<-i];cases up<;>simp only [dX] at ih ⊢<;>omega
   ·cases up
    ·exact Int.le_of_lt (N9 (by rw [d,i]) (cL j) l (by simp [fst] at f ⊢;omega))
    ·exact Int.le_of_lt (N9 (by rw [d,i]) l (cL j) (by simp [fst] at f ⊢;omega))
  ·simp only [ay b,af];rw [k.1.resolve_left b,a,vl,<-i];cases up<;>simp only [dX] at ih ⊢<;>omega
 | [],_::_,_,h,_,_=>by simp at h
 | _::_,[],_,h,_,_=>by simp at h
theorem PU (up:Bool):∀{m:aa} {l:List Int},okM m->m.length=l.length->digl l->
  match nx up m l with
  | some r=>r.length=m.length/\digl r/\ie m r=true/\dX up (vl l) (vl r)/\∀e,e.length=m.length->digl e->ie m e=true->dX up (vl l) (vl e)->dX up (vl r) (vl e)
  | none=>∀e,e.length=m.length->digl e->ie m e=true->¬dX up (vl l) (vl e)
 | [],[],_,_,_=>by
  simp only [nx];refine ⟨rfl,by intro y hy;simp at hy,rfl,by cases up<;>simp [dX],?_⟩;intro e C _ _ _;simp only [cA] at C;rw [rl C];cases up<;>simp [dX]
 | c::m,y::l,K,t,V=>by
  simp only [aG,tY] at t;have ih:=PU up (o7 K) t (cL V);have hy:=V y (by simp);have A:=cL V;have u:=yv up m;have B:=G9 up (o7 K);have L:∀{z w:Int} {a b:List Int},a.length=m.length->b.length=m.length->digl a->digl b->z<w->vl (z::a)<vl (w::b):=λC J P N Q=>N9 (by rw [C,J]) P N Q;have d:∀(z:Int) {a b:List Int},a.length=m.length->b.length=m.length->(dX up (vl (z::a)) (vl (z::b))↔dX up (vl a) (vl b)):=λz a b C J=>by
   simp only [vl,C,J];cases up<;>simp only [dX]<;>omega
  have o:∀{z w:Int} {a b:List Int},a.length=m.length->b.length=m.length->digl a->digl b->z≠w->(dX up (vl (z::a)) (vl (w::b))↔dX up z w):=λ{z w a b} C J P N Q=>by
   rcases Int.lt_trichotomy z w with h | h | h
   ·have:=L C J P N h;cases up<;>simp only [dX]<;>omega
   ·exact absurd h Q
   ·have:=L J C N P h;cases up<;>simp only [dX]<;>omega
  have f:∀e:List Int,e.length=(c::m).length->∃w a,e=w::a/\a.length=m.length:=λe h=>by
   match e,h with
   | w::a,h=>exact ⟨w,a,rfl,by simpa using h⟩
  by_cases g:c=88
  ·cases D:nx up m l with
   | some r=>
    rw [D] at ih;obtain ⟨I,O,T,S,U⟩:=ih;simp only [nx,ae g,D];refine ⟨by simp [I],λz s=>?_,by simp [ie,g,T],(d y t.symm I).2 S,λe v j q p=>?_⟩
    ·rcases cq.1 s with rfl | s
     ·exact hy
     ·exact O z s
    ·obtain ⟨w,a,rfl,i⟩:=f e v;simp only [ie,g,pR,Bool.true_or,rn] at q;by_cases E:y=w
     ·subst E;exact (d y I i).2 (U a i (cL j) q ((d y t.symm i).1 p))
     ·exact (o I i O (cL j) E).2 ((o t.symm i A (cL j) E).1 p)
   | none=>
    rw [D] at ih;by_cases n:y=lst up
    ·simp only [nx,ae g,D,ae n];intro e v j q p;obtain ⟨w,a,rfl,i⟩:=f e v;simp only [ie,g,pR,Bool.true_or,rn] at q;have hw9:=j w (by simp);by_cases E:y=w
     ·subst E;exact ih a i (cL j) q ((d y t.symm i).1 p)
     ·have:=(o t.symm i A (cL j) E).1 p;cases up<;>simp only [dX,lst,aj,af] at this n<;>omega
    ·simp only [nx,ae g,D,ab n];have hs:48<=stp up y/\stp up y<58/\y≠stp up y/\dX up y (stp up y)/\∀w,w≠y->dX up y w->dX up (stp up y) w:=by
      cases up<;>simp only [dX,lst,stp,aj,af] at n ⊢<;>exact ⟨by omega,by omega,by omega,by omega,λw C J=>by omega⟩
     obtain ⟨W,X,s3,Y,Z⟩:=hs;refine ⟨by simp [u],λz s=>?_,by simp [ie,g,vG],(o t.symm u A B s3).2 Y,λe v j q p=>?_⟩
     ·rcases cq.1 s with rfl | s
      ·exact ⟨W,X⟩
      ·exact B z s
     ·obtain ⟨w,a,rfl,i⟩:=f e v;simp only [ie,g,pR,Bool.true_or,rn] at q;by_cases E:y=w
      ·subst E;exact absurd ((d y t.symm i).1 p) (ih a i (cL j) q)
      ·have h9:=Z w (λh=>E h.symm) ((o t.symm i A (cL j) E).1 p);by_cases M:stp up y=w
       ·rw [M];exact (d w u i).2 (yc up (o7 K) i.symm (cL j) q)
       ·exact (o u i B (cL j) M).2 h9
  ·have R:=E7 (K c (by simp)) g;have G:∀w a,ie (c::m) (w::a)=true->w=((c.toNat:Nat):Int)/\ie m a=true:=λw a h=>by
    simp only [ie,az,gu,bA,bX] at h;exact ⟨(h.1.resolve_left g).symm,h.2⟩
   by_cases k:((c.toNat:Nat):Int)=y
   ·cases D:nx up m l with
    | some r=>
     rw [D] at ih;obtain ⟨I,O,T,S,U⟩:=ih;simp only [nx,ab g,ae k,D,dC];refine ⟨by simp [I],λz s=>?_,by simp [ie,k,T],(d y t.symm I).2 S,λe v j q p=>?_⟩
     ·rcases cq.1 s with rfl | s
      ·exact hy
      ·exact O z s
     ·obtain ⟨w,a,rfl,i⟩:=f e v;obtain ⟨rfl,x⟩:=G w a q;rw [k] at p ⊢;exact (d y I i).2 (U a i (cL j) x ((d y t.symm i).1 p))
    | none=>
     rw [D] at ih;simp only [nx,ab g,ae k,D,gH];intro e v j q p;obtain ⟨w,a,rfl,i⟩:=f e v;obtain ⟨rfl,x⟩:=G w a q;rw [k] at p;exact ih a i (cL j) x ((d y t.symm i).1 p)
   ·have H:decide (((c.toNat:Nat):Int)>y)=up↔dX up y ((c.toNat:Nat):Int):=by
     cases up
     ·simp only [rr,dX];omega
     ·simp only [bX,dX];omega
    by_cases F:decide (((c.toNat:Nat):Int)>y)=up
    ·simp only [nx,ab g,ab k,ae F];refine ⟨by simp [u],λz s=>?_,by simp [ie,vG],(o t.symm u A B (λh=>k h.symm)).2 (H.1 F),λe v j q p=>?_⟩
     ·rcases cq.1 s with rfl | s
      ·exact R
      ·exact B z s
     ·obtain ⟨w,a,rfl,i⟩:=f e v;obtain ⟨rfl,x⟩:=G w a q;exact (d _ u i).2 (yc up (o7 K) i.symm (cL j) x)
    ·simp only [nx,ab g,ab k,ab F];intro e v j q p;obtain ⟨w,a,rfl,i⟩:=f e v;obtain ⟨rfl,x⟩:=G w a q;exact F (H.2 ((o t.symm i A (cL j) (λh=>k h.symm)).1 p))
 | [],_::_,_,h,_=>by simp at h
 | _::_,[],_,h,_=>by simp at h
def ap:aa->List Int->Nat
 | c::m,y::l=>if c=88\/((c.toNat:Nat):Int)=y then ap m l+1 else 0
 | _,_=>0
theorem Qd:∀(m:aa) (l:List Int),ap m l<=m.length
 | [],_=>by simp [ap]
 | c::m,[]=>by simp [ap]
 | c::m,y::l=>by
  have:=Qd m l;simp only [ap,aG];split<;>omega
theorem J1:∀(m:aa) (l:List Int),ie (m.take (ap m l)) (l.take (ap m l))=true
 | [],_=>by simp [ap,ie]
 | c::m,[]=>by simp [ap,ie]
 | c::m,y::l=>by
  have:=J1 m l;simp only [ap];split
  ·rename_i h;simp only [kE,ie,this,ET,gu,bA,bX];exact h
  ·rfl
theorem HJ:∀{m:aa} {l:List Int} {c:UInt8} {y:Int},m[ap m l]?=some c->l[ap m l]?=some y->¬c=88/\¬((c.toNat:Nat):Int)=y
 | [],_,c,y,h,_=>by simp at h
 | x::m,[],c,y,_,h=>by simp at h
 | x::m,z::l,c,y,a,b=>by
  by_cases h:x=88\/((x.toNat:Nat):Int)=z
  ·simp only [ap,ae h,DI] at a b;exact HJ a b
  ·simp only [ap,ab h,kn,ah] at a b;subst a b;exact ⟨λe=>h (.inl e),λe=>h (.inr e)⟩
def bkn (up:Bool):aa->List Int->aa->Option (List Int)
 | c::m,y::d,m'=>
  match bkn up m d m' with
  | some r=>some (y::r)
  | none=>if c=88/\y≠lst up then some (stp up y::fil up (m++m')) else none
 | _,_,_=>none
theorem zU (up:Bool):∀{m m':aa} {d d':List Int},m.length=d.length->ie m d=true->
  nx up (m++m') (d++d')=match nx up m' d' with | some r=>some (d++r) | none=>bkn up m d m'
 | [],m',[],d',_,_=>by
  simp only [da];cases nx up m' d'<;>rfl
 | c::m,m',y::d,d',e,b=>by
  simp only [aG,tY] at e;simp only [ie,az,gu,bA,bX] at b;have ih:=zU up (m':=m') (d':=d') e b.2;simp only [dL,nx,ih,bkn];by_cases a:c=88
  ·simp only [ae a];cases nx up m' d' with
   | some r=>rfl
   | none=>
    cases bkn up m d m' with
    | some r=>rfl
    | none=>
     by_cases hy:y=lst up
     ·simp [hy]
     ·simp [hy,a]
  ·simp only [ab a,ae (b.1.resolve_left a)];cases nx up m' d' with
   | some r=>rfl
   | none=>
    cases bkn up m d m' with
    | some r=>rfl
    | none=>simp [a]
 | [],_,_::_,_,h,_=>by simp at h
 | _::_,_,[],_,h,_=>by simp at h
theorem EX (up:Bool) (c:UInt8) (y:Int):∀{m m':aa} {d:List Int},m.length=d.length->
  bkn up (m++[c]) (d++[y]) m'=if c=88/\y≠lst up then some (d++stp up y::fil up m') else bkn up m d (c::m')
 | [],m',[],_=>by simp [bkn]
 | x::m,m',z::d,a=>by
  simp only [aG,tY] at a;have ih:=EX up c y (m':=m') a;simp only [dL,bkn,ih];by_cases h:c=88/\y≠lst up
  ·simp only [ae h]
  ·simp only [ab h,eJ,dL,da]
 | [],_,_::_,h=>by simp at h
 | _::_,_,[],h=>by simp at h
def bki (up:Bool) (m:aa) (l:List Int):Nat->Option Nat
 | 0=>none
 | j+1=>if m[j]?=some 88/\l[j]?≠some (lst up) then some j else bki up m l j
theorem M5 (up:Bool) (m:aa) (l:List Int):∀{j a:Nat},bki up m l j=some a->a<j
 | 0,a,h=>by simp [bki] at h
 | j+1,a,h=>by
  simp only [bki] at h;split at h
  ·simp only [ah] at h;omega
  ·have:=M5 up m l h;omega
theorem Db (up:Bool) (m:aa) (l:List Int) (e:m.length=l.length):∀j,j<=m.length->
  bkn up (m.take j) (l.take j) (m.drop j)=(bki up m l j).map λa=>l.take a++stp up (l.getD a 0)::fil up (m.drop (a+1))
 | 0,_=>by simp [bkn,bki]
 | j+1,h=>by
  obtain ⟨c,hc⟩:∃c,m[j]?=some c:=⟨m[j]'(by omega),bG (by omega)⟩;obtain ⟨y,hy⟩:∃c,l[j]?=some c:=⟨l[j]'(by omega),bG (by omega)⟩;have ih:=Db up m l e j (by omega);rw [eS hc] at ih;rw [ox,ox,hc,hy];simp only [Option.toList_some];rw [EX up c y (by simp;omega),ih];have d:l.getD j 0=y:=by rw [Dv,hy];rfl
  simp only [bki,hc,hy,ne_eq,ah];by_cases b:c=88/\¬y=lst up
  ·rw [ae b,ae b,dC,d]
  ·rw [ab b,ab b]
section
variable {m:List UInt8} {l z:List Int}
theorem kB (A:m.length=l.length) (v:m.length<=18) (k f g:Int) (up:Bool):
  au (eu 20000000) 20000000 (m,k,up,f,g,0,over z 0 l,over z 0 l)=some (m,k,up,f,g,((ap m l:Nat):Int),over z 0 l,over z 0 l):=by
 have:=fE (step:=eu 20000000) (λx=>x.1=m/\(0<=x.2.2.2.2.2.1/\x.2.2.2.2.2.1<=m.length)/\x.2.2.2.2.2.2.1=over z 0 l) (λx=>m.length - x.2.2.2.2.2.1.toNat)
  (λx=>(x.1,x.2.1,x.2.2.1,x.2.2.2.1,x.2.2.2.2.1,x.2.2.2.2.2.1+((ap (m.drop x.2.2.2.2.2.1.toNat) (l.drop x.2.2.2.2.2.1.toNat):Nat):Int),x.2.2.2.2.2.2.1,x.2.2.2.2.2.2.2)) ?_ 20000000 (m,k,up,f,g,0,over z 0 l,over z 0 l) ⟨rfl,⟨by simp,by simp⟩,rfl⟩ (by simp;omega)
 ·simpa using this
 rintro ⟨m',k,up,f,g,i,d,o⟩ ⟨r,⟨t,hi⟩,s⟩;simp only at r t hi s ⊢;subst r s;obtain ⟨j,rfl⟩:∃j:Nat,i=j:=⟨i.toNat,by omega⟩;simp only [bW];rcases aE j m'.length with p | q
 ·obtain ⟨c,hc⟩:∃c,m'[j]?=some c:=⟨m'[j],bG p⟩;obtain ⟨y,hy⟩:∃c,l[j]?=some c:=⟨l[j]'(by omega),bG (by omega)⟩;have w:(over z 0 l)[j]?=some y:=by rw [sQ (by omega)];exact hy
  have n:(decide ((j:Int)<((List.length m':Nat):Int)))=true:=by simp;omega
  have u:IntKind.wrap .i64 ((j:Int)+1)=((j+1:Nat):Int):=by rw [wrap_i64 _ (by omega) (by omega)];omega
  rw [eS hc,eS hy];simp only [eu,n,aj,km hc,ob,yG,u,eY (show j<18 by omega),w,ap];by_cases a:c=88
  ·refine .inl ⟨(m',k,up,f,g,((j+1:Nat):Int),over z 0 l,o),by simp only [aw a,aj],⟨rfl,⟨by simp only;omega,by simp only;omega⟩,rfl⟩,by simp only [bW];omega,?_⟩;simp only [bW,ae (show c=88\/((c.toNat:Nat):Int)=y from .inl a)];congr 6;omega
  ·simp only [ay a,af];by_cases b:((c.toNat:Nat):Int)=y
   ·have e:(((c.toNat:Nat):Int)==y)=true:=by simpa using b
    refine .inl ⟨(m',k,up,f,g,((j+1:Nat):Int),over z 0 l,o),by simp only [e,aj],⟨rfl,⟨by simp only;omega,by simp only;omega⟩,rfl⟩,by simp only [bW];omega,?_⟩;simp only [bW,ae (show c=88\/((c.toNat:Nat):Int)=y from .inr b)];congr 6;omega
   ·have e:(((c.toNat:Nat):Int)==y)=false:=by simpa using b
    refine .inr ?_;simp only [e,af,ab (show ¬(c=88\/((c.toNat:Nat):Int)=y) from λh=>h.elim a b),Int.ofNat_zero,Int.add_zero,Int.natCast_zero]
 ·have n:(decide ((j:Int)<((List.length m':Nat):Int)))=false:=by simp;omega
  refine .inr ?_;simp only [eu,n,af];rw [kP q];simp [ap]
theorem JH (A:m.length=l.length) (u:m.length<=18) (f:Int) (up:Bool) (o:List Int) (i:Nat) (hi:i<=m.length):
  au (bP 20000000) 20000000 (m,up,f,lst up,(i:Int),over z 0 l,o) =
   some (match bki up m l i with | none=>.inl (0,16) | some a=>.inr (m,up,f,((a:Nat):Int),o)):=by
 have:=fE (step:=bP 20000000) (λx=>x.1=m/\x.2.2.2.1=lst up/\(0<=x.2.2.2.2.1/\x.2.2.2.2.1<=m.length)/\x.2.2.2.2.2.1=over z 0 l) (λx=>x.2.2.2.2.1.toNat)
  (λx=>match bki up m l x.2.2.2.2.1.toNat with | none=>.inl (0,16) | some a=>.inr (x.1,x.2.1,x.2.2.1,((a:Nat):Int),x.2.2.2.2.2.2)) ?_ 20000000 (m,up,f,lst up,(i:Int),over z 0 l,o) ⟨rfl,rfl,⟨by simp only;omega,by simp only;omega⟩,rfl⟩ (by simp;omega)
 ·simpa using this
 rintro ⟨m',n,f,g,i,d,o⟩ ⟨p,q,⟨s,hi⟩,r⟩;simp only at p q s hi r ⊢;subst p r q;obtain ⟨j,rfl⟩:∃j:Nat,i=j:=⟨i.toNat,by omega⟩;simp only [bW];rcases j with _ | j
 ·refine .inr ?_;have w:IntKind.wrap .i64 (((0:Nat):Int) - 1)=-1:=wrap_i64 _ (by omega) (by omega);simp only [bP,w,show decide ((-1:Int)<0)=true from rfl,aj,bki]
 ·have w:IntKind.wrap .i64 (((j+1:Nat):Int) - 1)=(j:Int):=by rw [wrap_i64 _ (by omega) (by omega)];omega
  have t:decide ((j:Int)<0)=false:=by simp
  obtain ⟨c,hc⟩:∃c,m'[j]?=some c:=⟨m'[j]'(by omega),bG (by omega)⟩;obtain ⟨y,hy⟩:∃c,l[j]?=some c:=⟨l[j]'(by omega),bG (by omega)⟩;have v:(over z 0 l)[j]?=some y:=by rw [sQ (by omega)];exact hy
  simp only [bP,w,t,af,km hc,ob,yG,eY (show j<18 by omega),v,bki,hc,hy,ah,ne_eq];by_cases b:c=88
  ·by_cases k:y=lst up
   ·have e:(y != lst up)=false:=by simpa using k
    refine .inl ⟨(m',n,f,lst up,(j:Int),over z 0 l,o),by simp only [aw b,aj,e,af],⟨rfl,rfl,⟨by simp only;omega,by simp only;omega⟩,rfl⟩,by simp only [bW];omega,?_⟩;simp only [bW,ab (show ¬(c=88/\¬y=lst up) from λh=>h.2 k)]
   ·have e:(y != lst up)=true:=by simpa using k
    refine .inr ?_;simp only [aw b,aj,e,ae (show c=88/\¬y=lst up from ⟨b,k⟩)]
  ·refine .inl ⟨(m',n,f,lst up,(j:Int),over z 0 l,o),by simp only [ay b,af],⟨rfl,rfl,⟨by simp only;omega,by simp only;omega⟩,rfl⟩,by simp only [bW];omega,?_⟩;simp only [bW,ab (show ¬(c=88/\¬y=lst up) from λh=>b h.1)]
theorem Ab (r:m.length<=18) (up:Bool) (d:List Int) (e:d.length=18) (i:Nat) (hi:i<=m.length):
  au (ba 20000000) 20000000 (m,fst up,(i:Int),d)=some (m,over d i (fil up (m.drop i))):=by
 have:=fE (step:=ba 20000000) (λx=>x.1=m/\x.2.1=fst up/\(0<=x.2.2.1/\x.2.2.1<=m.length)/\x.2.2.2.length=18) (λx=>m.length - x.2.2.1.toNat)
  (λx=>(m,over x.2.2.2 x.2.2.1.toNat (fil up (m.drop x.2.2.1.toNat)))) ?_ 20000000 (m,fst up,(i:Int),d) ⟨rfl,rfl,⟨by simp only;omega,by simp only;omega⟩,e⟩ (by simp;omega)
 ·simpa using this
 rintro ⟨m',f,i,d⟩ ⟨l,o,⟨p,hi⟩,e⟩;simp only at l o p hi e ⊢;subst l o;obtain ⟨j,rfl⟩:∃j:Nat,i=j:=⟨i.toNat,by omega⟩;simp only [bW];rcases aE j m'.length with h | k
 ·obtain ⟨c,hc⟩:∃c,m'[j]?=some c:=⟨m'[j],bG h⟩;have n:j<18:=by omega
  have g:(decide ((j:Int)<((List.length m':Nat):Int)))=true:=by simp;omega
  have q:IntKind.wrap .i64 ((j:Int)+1)=((j+1:Nat):Int):=by rw [wrap_i64 _ (by omega) (by omega)];omega
  have s:Nat.blt j 18=true:=co n;have b:∀c:UInt8,fil up (c::m'.drop (j+1))=(cond (decide (c=88)) (fst up) ((c.toNat:Nat):Int))::fil up (m'.drop (j+1)):=λ_=>rfl;rw [eS hc,b];simp only [ba,g,aj,km hc,ob,yG,eY n,s,q];by_cases a:c=88
  ·refine .inl ⟨(m',fst up,((j+1:Nat):Int),(d.set j ((c.toNat:Nat):Int)).set j (fst up)),by simp only [aw a,aj],⟨rfl,rfl,⟨by simp only;omega,by simp only;omega⟩,by simpa using e⟩,by simp only [bW];omega,?_⟩;simp only [bW,aw a,aj];rw [List.set_set,yJ _ _ _ _ (by omega)]
  ·refine .inl ⟨(m',fst up,((j+1:Nat):Int),d.set j ((c.toNat:Nat):Int)),by simp only [ay a,af],⟨rfl,rfl,⟨by simp only;omega,by simp only;omega⟩,by simpa using e⟩,by simp only [bW];omega,?_⟩;simp only [bW,ay a,af];rw [yJ _ _ _ _ (by omega)]
 ·have g:(decide ((j:Int)<((List.length m':Nat):Int)))=false:=by simp;omega
  refine .inr ?_;simp only [ba,g,af];rw [kP k];simp [fil,EF]
theorem zW (z l F:List Int) (i:Nat) (h:i+F.length=l.length):over (over z 0 l) i F=over z 0 (l.take i++F):=by
 unfold over;simp only [kG,da,cb,bv,eT,qm (show i<=l.length by omega),h];rw [rz (by omega),List.drop_append_of_le_length (by omega),List.drop_of_length_le (aM l.length)];simp
end
theorem Hj {m:aa} (hm:chk m=0) (up:Bool) (k:Int) (T:0<=k) (Y:k<10 ^ m.length):
  cK 20000000 m k up=some (match nx up m (dg m.length k) with | some r=>(vl r,0) | none=>(0,16)):=by
 obtain ⟨g,_,J⟩:=lG hm;have hp:=zH m.length g;have f:=uS m.length k;have n:=qP m.length k;have U:=KR m.length k T Y;have R:=PU up J f.symm n;have j:=Ln m k g T (by omega);generalize dg m.length k=l at f n U R j ⊢;have o:(over [0,0,0,0,0,0,0,0,0,0,0,0,0,0,0,0,0,0] 0 l).length=18:=by rw [KJ _ _ _ (by simp;omega)];rfl
 have u:∀r:List Int,nx up m l=some r->fk 20000000 m (over [0,0,0,0,0,0,0,0,0,0,0,0,0,0,0,0,0,0] 0 r)=some (vl r):=by
  intro r hr;rw [hr] at R;obtain ⟨X,V,_⟩:=R;rw [LR _ g X V,yQ V]
 have A:=Qd m l;have F:=J1 m l;have b:=zU up (m:=m.take (ap m l)) (m':=m.drop (ap m l)) (d:=l.take (ap m l)) (d':=l.drop (ap m l)) (by simp;omega) F;rw [qj,qj] at b;have h:jX 20000000 m k=some (over [0,0,0,0,0,0,0,0,0,0,0,0,0,0,0,0,0,0] 0 l):=j;generalize hzz:([0,0,0,0,0,0,0,0,0,0,0,0,0,0,0,0,0,0]:List Int)=z at o u h;rcases aE (ap m l) m.length with Q | Z
 ·obtain ⟨c,hc⟩:∃c,m[ap m l]?=some c:=⟨m[ap m l],bG Q⟩;obtain ⟨y,hy⟩:∃c,l[ap m l]?=some c:=⟨l[ap m l]'(by omega),bG (by omega)⟩;obtain ⟨G,N⟩:=HJ hc hy;have B:(over z 0 l)[ap m l]?=some y:=by rw [sQ (by omega)];exact hy
  have q:(((ap m l:Nat):Int)==((List.length m:Nat):Int))=false:=by simp;omega
  have C:ap m l<18:=by omega
  have I:fil up (m.drop (ap m l))=((c.toNat:Nat):Int)::fil up (m.drop (ap m l+1)):=by
   rw [eS hc];simp [fil,G]
  have K:=Db up m l f.symm (ap m l) A;have H:nx up (m.drop (ap m l)) (l.drop (ap m l))=if decide (((c.toNat:Nat):Int)>y)=up then some (fil up (m.drop (ap m l))) else none:=by
   rw [I,eS hc,eS hy];simp only [nx,ab G,ab N]
  rw [H] at b;by_cases p:decide (((c.toNat:Nat):Int)>y)=up
  ·rw [ae p] at b;simp only at b;have v:=u _ b;rw [b];simp only [];rw [<-zW z l _ _ (by rw [yv,cZ];omega)] at v;have E:=Ab g up _ o (ap m l) A;cases up
   ·have i:=kB (z:=z) f.symm g k 57 48 false;have l2':au (ba 20000000) 20000000 (m,57,((ap m l:Nat):Int),over z 0 l)=_:=E;simp only [cK,jb,aj,h,ob,i,q,af,km hc,eY C,B,p,pR,dc,l2',v]
   ·have i:=kB (z:=z) f.symm g k 48 57 true;have l2':au (ba 20000000) 20000000 (m,48,((ap m l:Nat):Int),over z 0 l)=_:=E;simp only [cK,dc,aj,h,ob,i,q,af,km hc,eY C,B,p,pR,l2',v]
  ·rw [ab p] at b;simp only [K] at b;have s:(!(decide (((c.toNat:Nat):Int)>y)==up))=true:=by
    cases up<;>cases hh:decide (((c.toNat:Nat):Int)>y)<;>simp_all
   have t:=JH (z:=z) f.symm g (fst up) up (over z 0 l) (ap m l) A;cases O:bki up m l (ap m l) with
   | none=>
    rw [O] at b t;simp only [gH] at b;rw [b];simp only [] at t ⊢;cases up
    ·have i:=kB (z:=z) f.symm g k 57 48 false;have l1':au (bP 20000000) 20000000 (m,false,57,48,((ap m l:Nat):Int),over z 0 l,over z 0 l)=_:=t;simp only [cK,jb,aj,h,ob,i,q,af,km hc,eY C,B,s,l1']
    ·have i:=kB (z:=z) f.symm g k 48 57 true;have l1':au (bP 20000000) 20000000 (m,true,48,57,((ap m l:Nat):Int),over z 0 l,over z 0 l)=_:=t;simp only [cK,dc,aj,h,ob,i,q,af,km hc,eY C,B,s,l1']
   | some a=>
    have ha:=M5 up m l O;obtain ⟨w,P⟩:∃c,l[a]?=some c:=⟨l[a]'(by omega),bG (by omega)⟩;have D:(over z 0 l)[a]?=some w:=by rw [sQ (by omega)];exact P
    have M:l.getD a 0=w:=by rw [Dv,P];rfl
    have hwr:=n w (fY P);have x:a<18:=by omega
    have S:Nat.blt a 18=true:=co x;have W:IntKind.wrap .i64 ((a:Int)+1)=((a+1:Nat):Int):=by rw [wrap_i64 _ (by omega) (by omega)];omega
    rw [O] at b t;simp only [dC,M] at b;have v:=u _ b;rw [b];simp only [] at t ⊢;rw [<-zW z l _ _ (by rw [aG,yv,cZ];omega),<-yJ _ _ _ _ (by omega)] at v;have E:=Ab g up ((over z 0 l).set a (stp up w)) (by simpa using o) (a+1) (by omega);cases up
    ·have i:=kB (z:=z) f.symm g k 57 48 false;have l1':au (bP 20000000) 20000000 (m,false,57,48,((ap m l:Nat):Int),over z 0 l,over z 0 l)=some (.inr (m,false,57,((a:Nat):Int),over z 0 l)):=t;have l2':au (ba 20000000) 20000000 (m,57,((a+1:Nat):Int),(over z 0 l).set a (w - 1))=_:=E;have L:IntKind.wrap .u8 (w - 1)=w - 1:=jf _ (by omega) (by omega);simp only [cK,jb,aj,h,ob,i,q,af,km hc,eY C,B,s,l1',eY x,D,S,W,L,l2',v]
    ·have i:=kB (z:=z) f.symm g k 48 57 true;have l1':au (bP 20000000) 20000000 (m,true,48,57,((ap m l:Nat):Int),over z 0 l,over z 0 l)=some (.inr (m,true,48,((a:Nat):Int),over z 0 l)):=t;have l2':au (ba 20000000) 20000000 (m,48,((a+1:Nat):Int),(over z 0 l).set a (w+1))=_:=E;have L:IntKind.wrap .u8 (w+1)=w+1:=jf _ (by omega) (by omega);simp only [cK,dc,aj,h,ob,i,q,af,km hc,eY C,B,s,l1',eY x,D,S,W,L,l2',v]
 ·have e:ap m l=m.length:=by omega
  rw [e,zM,<-f,zM,me] at b;simp only [nx,kx] at b;have q:(((ap m l:Nat):Int)==((List.length m:Nat):Int))=true:=by rw [e];simp
  rw [b];simp only [U];cases up
  ·have i:=kB (z:=z) f.symm g k 57 48 false;simp only [cK,jb,aj,h,ob,i,q]
  ·have i:=kB (z:=z) f.symm g k 48 57 true;simp only [cK,dc,af,h,ob,i,q,aj]
def near (up:Bool) (m:aa) (k:Int):Option Int->Prop
 | some R=>hasM m R=true/\dX up k R/\∀e,hasM m e=true->dX up k e->dX up R e
 | none=>∀e,hasM m e=true->¬dX up k e
def res (o:Option Int):Int×Int:=match o with | some r=>(r,0) | none=>(0,16)
theorem l9 {m:aa} {e:Int} (h:hasM m e=true):(dg m.length e).length=m.length/\digl (dg m.length e)/\ie m (dg m.length e)=true/\vl (dg m.length e)=e/\0<=e/\e<10 ^ m.length:=by
 unfold hasM at h;simp only [az,bX] at h;exact ⟨uS _ _,qP _ _,h.2.2,KR _ _ h.1 h.2.1,h.1,h.2.1⟩
theorem OV {m:aa} {r:List Int} (e:r.length=m.length) (b:digl r) (d:ie m r=true):hasM m (vl r)=true:=by
 have a:=sM b;have c:=SN b;rw [e] at a c;unfold hasM;rw [c,d,aw a.1,aw a.2];rfl
theorem uJ {m:aa} (q:chk m=0) (up:Bool) (k:Int) (l:0<=k) (p:k<10 ^ m.length):∃o,cK 20000000 m k up=some (res o)/\near up m k o:=by
 obtain ⟨v,_,f⟩:=lG q;have a:=PU up f (uS m.length k).symm (qP m.length k);have g:=KR m.length k l p;refine ⟨(nx up m (dg m.length k)).map vl,?_,?_⟩
 ·rw [Hj q up k l p];cases nx up m (dg m.length k)<;>rfl
 ·cases hx:nx up m (dg m.length k) with
  | none=>
   rw [hx] at a;intro e d h;obtain ⟨j,i,c,b,_⟩:=l9 d;exact a _ j i c (by rw [g,b];exact h)
  | some r=>
   rw [hx] at a;obtain ⟨t,s,w,n,u⟩:=a;refine ⟨OV t s w,by rw [g] at n;exact n,λe d h=>?_⟩;obtain ⟨j,i,c,b,_⟩:=l9 d;have:=u _ j i c (by rw [g,b];exact h);rwa [b] at this
theorem CW {m:aa} {e:Int} (h:hasM m e=true):0<=idx m.reverse e/\idx m.reverse e<10 ^ cnt m/\nth m.reverse (idx m.reverse e)=e:=by
 rw [BC] at h;simp only [az,bX] at h;obtain ⟨k0,k1,k2⟩:=h;have:=tC m.reverse e k0;rw [qe] at this;exact ⟨this.1,this.2,Jt k0 (by rw [wV];exact k1) k2⟩
section
variable {m:List UInt8} (hm:chk m=0)
include hm
theorem J2 {i j:Int} (b:0<=i) (c:i<=j) (d:j<10 ^ cnt m):nth m.reverse i<=nth m.reverse j:=by
 obtain ⟨e,_,a⟩:=lG hm;rcases Int.lt_or_eq_of_le c with h | rfl
 ·exact Int.le_of_lt (yj (wb a) i j b h (by rw [qe];exact d))
 ·exact wB _
theorem Aj (k:Int):kq 20000000 m k=some (decide (0<=k/\k<10 ^ m.length)):=by
 obtain ⟨b,_,c⟩:=lG hm;simp only [kq,Me m.length b,ob];by_cases a:0<=k
 ·have d0:decide (k>=0)=true:=by simpa using a
  simp only [d0,aj,a,jD,mj]
 ·have d0:decide (k>=0)=false:=by simpa using a
  simp only [d0,af,a,false_and,lO]
theorem G8 (k:Int):∃o,pa 20000000 m k=some (res o)/\near true m k o:=by
 obtain ⟨q,_,c⟩:=lG hm;have j:((0:Int) != 0)=false:=by simp
 simp only [pa,kh 20000000 m (by omega),hm,kQ,j,af,Aj hm];by_cases a:k<0
 ·refine ⟨some (nth m.reverse 0),by simp only [aw a,aj,MA hm,kQ,res],Dm hm (by omega),?_,λe b f=>?_⟩
  ·have:=(og (wb c) 0 (by omega)).1;simp only [dX];omega
  ·obtain ⟨g,l,r⟩:=CW b;have:=J2 hm (wB 0) g l;simp only [dX];omega
 ·by_cases d:k<10 ^ m.length
  ·obtain ⟨o,p,n⟩:=uJ hm true k (by omega) d;exact ⟨o,by simp only [ay a,af,aw (show 0<=k/\k<10 ^ m.length from ⟨by omega,d⟩),dc,p,kQ],n⟩
  ·refine ⟨none,by simp only [ay a,af,ay (show ¬(0<=k/\k<10 ^ m.length) from λh=>d h.2),jb,aj,res],λe b f=>?_⟩;obtain ⟨_,_,_,_,_,i⟩:=l9 b;simp only [dX] at f;omega
theorem HA (k:Int):∃o,oS 20000000 m k=some (res o)/\near false m k o:=by
 obtain ⟨p,_,c⟩:=lG hm;have j:((0:Int) != 0)=false:=by simp
 simp only [oS,kh 20000000 m (by omega),hm,kQ,j,af,Aj hm];by_cases a:k<0
 ·refine ⟨none,by simp only [aw a,aj,res],λe b f=>?_⟩;obtain ⟨_,_,_,_,i,_⟩:=l9 b;simp only [dX] at f;omega
 ·by_cases d:k<10 ^ m.length
  ·obtain ⟨o,q,n⟩:=uJ hm false k (by omega) d;exact ⟨o,by simp only [ay a,af,aw (show 0<=k/\k<10 ^ m.length from ⟨by omega,d⟩),dc,q,kQ],n⟩
  ·have l:=qR (cnt m);refine ⟨some (nth m.reverse (10 ^ cnt m - 1)),by simp only [ay a,af,ay (show ¬(0<=k/\k<10 ^ m.length) from λh=>d h.2),jb,aj,BB hm,kQ,res],Dm hm (by omega),?_,λe b f=>?_⟩
   ·have:=(og (wb c) (10 ^ cnt m - 1) (by omega)).2;rw [wV] at this;simp only [dX];omega
   ·obtain ⟨g,s,r⟩:=CW b;have:=J2 hm g (show idx m.reverse e<=10 ^ cnt m - 1 by omega) (by omega);simp only [dX];omega
end
end Go.Sh.Mk
namespace Go.Sh
open Go.Abs
def fitN (s:aa) (g:Nat):List Nat:=(List.range' 1 g).filter (agr s)
def vM (l:List Nat):List Int:=l.map λk:Nat=>(k:Int)
theorem zg (l:List Nat):(vM l).length=l.length:=by simp [vM]
theorem zF (c:UInt8) {j:Nat} (b:j<10):(IntKind.wrap .i64 (IntKind.wrap .u8 (((c.toNat:Nat):Int) - 48))==((j:Nat):Int))=(c==UInt8.ofNat (48+j)):=by
 have hc:=c.toNat_lt;have a:=xj (((c.toNat:Nat):Int) - 48);rw [wrap_i64 _ (by omega) (by omega),F7,AS,bA,bA];have d:(UInt8.ofNat (48+j)).toNat=48+j:=by simp;omega
 constructor
 ·intro h;apply gM.1;omega
 ·rintro rfl;omega
theorem JQ (n:Nat) (a b:UInt8) {k:Nat} (l:k<=31):jk n [a,b] (k:Int)=some (agr [a,b] k):=by
 have j:IntKind.wrap .i64 (Int.tdiv (k:Int) 10)=((k / 10:Nat):Int):=by
  rw [show Int.tdiv (k:Int) 10=((k / 10:Nat):Int) from rfl,wrap_i64 _ (by omega) (by omega)]
 have i:Int.tmod (k:Int) 10=((k%10:Nat):Int):=rfl;have s0:sx [a,b] 0=some a:=rfl;have h:sx [a,b] 1=some b:=rfl;have c:(88:Int)=((88:Nat):Int):=rfl;unfold jk;simp only [s0,h,ob,j,i];rw [zF a (show k / 10<10 by omega),zF b (show k%10<10 by omega),c,wU (by omega),wU (by omega)];show _=some ((a==UInt8.ofNat 88||a==UInt8.ofNat (48+k / 10))&&(b==UInt8.ofNat 88||b==UInt8.ofNat (48+k%10)));generalize (a==UInt8.ofNat 88)=e;generalize (b==UInt8.ofNat 88)=g;generalize (a==UInt8.ofNat (48+k / 10))=d;generalize (b==UInt8.ofNat (48+k%10))=f;cases e<;>cases g<;>cases d<;>cases f<;>rfl
theorem room {k:Nat} (h:k<=60000000):Nat.ble (k+1) gk=true:=co (by unfold gk;omega)
theorem MR {X Y:Type} {step:X->Option (X⊕Y)} {f:Nat->List Int->X} {y:List Int->Y} {p:Nat->Bool} {g:Nat} (e:g<=1000)
  (h:∀i out,i<g->out.length<=1000->step (f i out)=some (.inl (f (i+1) (if p (i+1) then out++[((i+1:Nat):Int)] else out))))
  (b:∀out,step (f g out)=some (.inr (y out))) {N:Nat} (a:g<N):au step N (f 0 [])=some (y (vM ((List.range' 1 g).filter p))):=by
 have c:∀(r i:Nat) (out:List Int),i+r=g->out.length<=i->∀N,r<N->au step N (f i out)=some (y (out++vM ((List.range' (i+1) r).filter p))):=by
  intro r
  induction r with
  | zero=>
   intro i out hi d N a;obtain ⟨N,rfl⟩:∃q,N=q+1:=⟨N - 1,by omega⟩;obtain rfl:i=g:=by omega
   rw [au,b];simp [vM]
  | succ r ih=>
   intro i out hi d N a;obtain ⟨N,rfl⟩:∃q,N=q+1:=⟨N - 1,by omega⟩;rw [au,h i out (by omega) (by omega)];show au step N _=_;by_cases hp:p (i+1)=true
   ·rw [ae hp,ih (i+1) _ (by omega) (by simp;omega) N (by omega),BS,List.filter_cons_of_pos hp];simp [vM]
   ·rw [ab hp,ih (i+1) _ (by omega) (by omega) N (by omega),BS,List.filter_cons_of_neg hp]
 have:=c g 0 [] (by omega) (by simp) N a;simpa using this
theorem Ha (n:Nat) (h:100<n) (a b:UInt8) {g:Nat} (e:g<=31):dO n [a,b] (g:Int)=some (vM (fitN [a,b] g)):=by
 unfold dO
 have:=MR (step:=eN n) (f:=λi out=>([a,b],(g:Int),(i:Int),out)) (y:=λl=>l) (p:=agr [a,b]) (g:=g) (by omega)
  (λi out hi j=>by
   have d:IntKind.wrap .i64 ((i:Int)+1)=((i+1:Nat):Int):=by rw [wrap_i64 _ (by omega) (by omega)];omega
   unfold eN;simp only [d];rw [aw (show (i:Int)<(g:Int) by omega),JQ n a b (by omega),room (by omega)];by_cases hp:agr [a,b] (i+1)=true
   ·rw [ae hp];simp only [ob,hp,aj]
   ·rw [ab hp];rw [Eg] at hp;simp only [ob,hp,aj,af])
  (λout=>by
   unfold eN;simp only [ay (show ¬(g:Int)<(g:Int) by omega),af])
  (N:=n) (by omega)
 have c:au (eN n) n ([a,b],(g:Int),0,([]:List Int))=_:=this;rw [c];rfl
def monI (m:aa):List Int:=if m=[] then [0] else if 0<sea m then [sea m] else vM (fitN m 12)
def dayI (d:aa):List Int:=if d=[] then [0] else vM (fitN d 31)
theorem jH {l:aa} (h:l≠[]):(l==([]:aa))=false:=br.2 h
theorem len2 {s:aa} (h:s.length=2):∃a b,s=[a,b]:=by
 match s,h with
 | [a,b],_=>exact ⟨a,b,rfl⟩
theorem SQ (n:Nat) (j:100<n) (g l:Bool) (dg:aa) (x q:Int) (m d:aa) (k0 k1 k2:Int) (k:m=[]\/m.length=2) (o:d=[]\/d.length=2):
  ly n g l dg x q m d k0 k1 k2=some (g,l,dg,x,q,m,d,k0,k1,k2,monI m,dayI d):=by
 have i:m.length<=18:=by rcases k with h | h;(rw [h];simp);omega
 have f:d≠[]->dO n d 31=some (dayI d):=λh=>by
  obtain ⟨a,b,rfl⟩:=len2 (o.resolve_left h);rw [show (31:Int)=((31:Nat):Int) from rfl,Ha n j a b (by omega)];unfold dayI;rw [ab h]
 have e:d=[]->dayI d=[0]:=λh=>by unfold dayI;rw [ae h]
 have p:m≠[]->¬0<sea m->dO n m 12=some (monI m):=λh hs=>by
  obtain ⟨a,b,rfl⟩:=len2 (k.resolve_left h);rw [show (12:Int)=((12:Nat):Int) from rfl,Ha n j a b (by omega)];unfold monI;rw [ab h,ab hs]
 unfold ly;rw [n9 n g l dg x q m d k0 k1 k2 i];simp only [ob];by_cases hs:0<sea m
 ·have c:m≠[]:=by rintro rfl;exact absurd hs (by decide)
  have hm':monI m=[sea m]:=by unfold monI;rw [ab c,ae hs]
  rw [aw hs];by_cases h:d=[]
  ·rw [h,<-h,e h,hm',h];rfl
  ·rw [jH h,f h,hm'];rfl
 ·rw [ay hs];by_cases c:m=[]
  ·have hm':monI m=[0]:=by unfold monI;rw [ae c]
   by_cases h:d=[]
   ·rw [e h,hm',h,c];rfl
   ·rw [jH h,f h,hm',c];rfl
  ·rw [jH c,p c hs];by_cases h:d=[]
   ·rw [e h,h];rfl
   ·rw [jH h,f h];rfl
def vD (y:Int):Bool:=decide (y%4=0)&&(decide (y%100≠0)||decide (y%400=0))
def lenI (y m:Int):Int:=if m=4\/m=6\/m=9\/m=11 then 30 else if m=2 then (if vD y then 29 else 28) else 31
theorem vq (n:Nat) {y:Int} (h:-20000000000000000<=y/\y<=20000000000000000):ef n y=some (1+(y - 1) / 4 - (y - 1) / 100+(y - 1) / 400):=by
 unfold ef;rw [wrap_i64 (y - 1) (by omega) (by omega),ua n (by omega) (by omega) (by omega) (by omega),ua n (by omega) (by omega) (by omega) (by omega),ua n (by omega) (by omega) (by omega) (by omega)];show some _=some _;have f:-5000000000000001<=(y - 1) / 4/\(y - 1) / 4<=5000000000000001:=by omega
 have e:-5000000000000001<=(y - 1) / 100/\(y - 1) / 100<=5000000000000001:=by omega
 have d:-5000000000000001<=(y - 1) / 400/\(y - 1) / 400<=5000000000000001:=by omega
 generalize (y - 1) / 4=a at *;generalize (y - 1) / 100=b at *;generalize (y - 1) / 400=c at *;simp only [];rw [wrap_i64 (1*a) (by omega) (by omega),wrap_i64 (-1*b) (by omega) (by omega),wrap_i64 (1*c) (by omega) (by omega),wrap_i64 (1+1*a) (by omega) (by omega),wrap_i64 (1+1*a+-1*b) (by omega) (by omega),wrap_i64 _ (by omega) (by omega)];congr 1;omega
theorem La (y:Int):(1+y / 4 - y / 100+y / 400>1+(y - 1) / 4 - (y - 1) / 100+(y - 1) / 400)↔vD y=true:=by
 unfold vD;simp only [az,gu,bX];omega
theorem OU (n:Nat) {y:Int} (h:dr y):iQ n y=some (vD y,0):=by
 unfold iQ;have h':=h;unfold dr at h';rw [fp,ae h,wrap_i64 (y+1) (by omega) (by omega),vq n (by omega),vq n (by omega),show y+1 - 1=y by omega];have b:=La y;show some (decide (1+y / 4 - y / 100+y / 400>1+(y - 1) / 4 - (y - 1) / 100+(y - 1) / 400),(0:Int))=_;by_cases a:vD y=true
 ·rw [a,aw (b.2 a)]
 ·rw [Eg] at a;rw [a,ay (λe=>by rw [b.1 e] at a;cases a)]
theorem uD (n:Nat) {y:Int} (h:dr y) {m:Nat} (c:1<=m) (d:m<=12):dw n y (m:Int)=some (lenI y (m:Int)):=by
 unfold dw;rw [OU n h];show cond (vD y&&((m:Int)==2)) _ _=_;have a:IntKind.wrap .i64 ((m:Int) - 1)=((m - 1:Nat):Int):=by rw [wrap_i64 _ (by omega) (by omega)];omega
 rw [a,eY (show m - 1<12 by omega)];have b:m=1\/m=2\/m=3\/m=4\/m=5\/m=6\/m=7\/m=8\/m=9\/m=10\/m=11\/m=12:=by omega
 rcases b with rfl | rfl | rfl | rfl | rfl | rfl | rfl | rfl | rfl | rfl | rfl | rfl<;>unfold lenI<;>cases vD y<;>rfl
theorem GH (n:Nat) {y:Int} (h:dr y) {m:Nat} (a:1<=m) (b:m<=12):mN n y (m:Int)=some (lenI y (m:Int),0):=by
 unfold mN;rw [DV n h a b,uD n h a b];rfl
theorem o5 (y m:Int):28<=lenI y m/\lenI y m<=31:=by
 unfold lenI;split
 ·omega
 ·split
  ·split<;>omega
  ·omega
def uQ (d:aa) (y m:Int):Int:=if d=[] then 0 else lenI y m
def Nb (d:aa) (y a:Int):List (Int×Int×Int):=((dayI d).filter λk=>decide (k<=uQ d y a)).map λk=>(y,a,k)
def HY (m d:aa) (y:Int):List (Int×Int×Int):=(monI m).flatMap (Nb d y)
theorem C4 (s:aa) (g:Nat):(fitN s g).length<=g:=by
 have:=IB (agr s) (List.range' 1 g);rw [List.length_range'] at this;exact this
theorem K0 (d:aa):(dayI d).length<=31:=by
 unfold dayI;split
 ·simp
 ·rw [zg];exact C4 d 31
theorem Ky (m:aa):(monI m).length<=12:=by
 unfold monI;split
 ·simp
 ·split
  ·simp
  ·rw [zg];exact C4 m 12
theorem Rb {a b c e:UInt8} (l:bg a=true\/a=88) (k:bg b=true\/b=88) (hc:bg c=true\/c=88) (j:bg e=true\/e=88) (w:Nat):
  mtk [a,b,c,e] 4 w=Mk.ag [e,c,b,a] (w:Int):=by
 have one:∀(z:UInt8) (v:Nat),(decide (z=88)||decide (z.toNat=48+v%10))=(decide (z=88)||decide (Mk.dv z=(v:Int)%10)):=by
  intro z v;have:(z.toNat=48+v%10)↔(Mk.dv z=(v:Int)%10):=by unfold Mk.dv;omega
  rw [uc.2 this]
 have d:∀v:Nat,(v:Int) / 10=((v / 10:Nat):Int):=λv=>by omega
 show ((decide (e=88)||decide (e.toNat=48+w%10))&&((decide (c=88)||decide (c.toNat=48+w / 10%10))&&((decide (b=88)||decide (b.toNat=48+w / 10 / 10%10))&&((decide (a=88)||decide (a.toNat=48+w / 10 / 10 / 10%10))&&true))))
  = ((((true&&(decide (a=88)||decide (Mk.dv a=(w:Int) / 10 / 10 / 10%10)))&&(decide (b=88)||decide (Mk.dv b=(w:Int) / 10 / 10%10)))&&(decide (c=88)||decide (Mk.dv c=(w:Int) / 10%10)))&&(decide (e=88)||decide (Mk.dv e=(w:Int)%10)))
 rw [one e w,one c (w / 10),one b (w / 10 / 10),one a (w / 10 / 10 / 10),d w,d (w / 10),d (w / 10 / 10)];generalize (decide (e=88)||decide (Mk.dv e=(w:Int)%10))=f;generalize (decide (c=88)||decide (Mk.dv c=((w / 10:Nat):Int)%10))=i;generalize (decide (b=88)||decide (Mk.dv b=((w / 10 / 10:Nat):Int)%10))=g;generalize (decide (a=88)||decide (Mk.dv a=((w / 10 / 10 / 10:Nat):Int)%10))=h;cases f<;>cases i<;>cases g<;>cases h<;>rfl
theorem Ob {c:UInt8} (h:bg c=true\/c=88):Mk.okB c=true:=by
 rcases h with h | h
 ·have h:=(dj c).1 h;unfold Mk.okB;simp only [gu,az,bX];right
  first | omega | (obtain ⟨a,b⟩:=h;constructor<;>omega)
 ·subst h;decide
theorem KV {d:aa} (a:d.length=4) (h:∀c∈d,bg c=true\/c=88):Mk.chk d=0:=by
 unfold Mk.chk;have:d.all Mk.okB=true:=bL.2 λc hc=>Ob (h c hc);rw [ab (by omega),ae this,ab (by rintro rfl;simp at a)]
theorem DZ {d:aa} (g:d.length=4) (h:∀c∈d,bg c=true\/c=88) (w:Nat):Mk.hasM d (w:Int)=true↔mtk d 4 w=true/\w / 10 ^ 4=0:=by
 obtain ⟨a,b,c,e,rfl⟩:∃a b c e,d=[a,b,c,e]:=by
  match d,g with
  | [a,b,c,e],_=>exact ⟨a,b,c,e,rfl⟩
 rw [Mk.BC,Rb (h a (by simp)) (h b (by simp)) (h c (by simp)) (h e (by simp)) w];simp only [az,bX];show 0<=(w:Int)/\(w:Int)<10 ^ 4/\Mk.ag [e,c,b,a] (w:Int)=true↔Mk.ag [e,c,b,a] (w:Int)=true/\w / 10 ^ 4=0;have j:(10:Int) ^ 4=10000:=by decide
 have e4':(10:Nat) ^ 4=10000:=by decide
 rw [j,e4'];constructor
 ·rintro ⟨_,i,f⟩;exact ⟨f,by omega⟩
 ·rintro ⟨f,i⟩;exact ⟨by omega,by omega,f⟩
theorem Dc {g l:Bool} {d:aa} {x q:Int} (a:okY g l d x q) (f:hasX d=true) (v:Int):inP g d x q v↔(Mk.hasM d (wOf g v)=true/\(g=true->1<=wOf g v)):=by
 obtain ⟨rfl,rfl,rfl,h,j⟩:=vA a f;unfold inP;rw [Qr f];have n:∀k:Int,Mk.hasM d k=true->0<=k/\k<10000:=λk r=>by
  have:=(Mk.l9 r).2.2.2.2;rw [h] at this;have w:(10:Int) ^ 4=10000:=by decide
  omega
 constructor
 ·rintro ⟨b,i,u,o,m⟩;have:=(DZ h j (wOf g v).toNat).2 m;rw [show (((wOf g v).toNat:Nat):Int)=wOf g v by omega] at this;refine ⟨this,λc=>?_⟩;have s:¬wOf g v=0:=λe=>o ⟨f,c,e⟩;omega
 ·rintro ⟨b,i⟩;have hr':=n _ b;have p:=(DZ h j (wOf g v).toNat).1 (by rw [show (((wOf g v).toNat:Nat):Int)=wOf g v by omega];exact b);have t:v=wOf g v\/v=- wOf g v:=by
   unfold wOf;split
   ·right;omega
   ·left;rfl
  refine ⟨by omega,by omega,hr'.1,?_,p⟩;rintro ⟨_,c,e⟩;have:=i c;omega
theorem Br {g l:Bool} {d:aa} {x:Int} (a:okY g l d x 0) (b:hasX d=false) (v:Int):inP g d x 0 v↔v=(if g then -((val d x.toNat:Nat):Int) else ((val d x.toNat:Nat):Int)):=by
 obtain ⟨k,q,rfl,n,e⟩:=wA a b;have hs:=e.small;have f:dval 0 d*10 ^ k=val d k:=rfl;rw [f] at hs;unfold E16 at hs;unfold inP;rw [QO b];have m:Gx d (k:Int).toNat (0:Int).toNat=1:=rfl;rw [m,bW,y6,y6,b];unfold wOf;cases g with
 | true=>
  simp only [aI];constructor
  ·rintro ⟨i,j,h,_,c⟩;omega
  ·rintro rfl;refine ⟨by omega,by omega,by omega,by simp,by omega⟩
 | false=>
  simp only [bE,aC];constructor
  ·rintro ⟨i,j,h,_,c⟩;omega
  ·rintro rfl;refine ⟨by omega,by omega,by omega,by simp,by omega⟩
def CB (up:Bool) (Y:Int->Prop) (v w:Int) (a:Bool):Prop:=
 (a=true->Y w/\Mk.dX up v w/\∀e,Y e->Mk.dX up v e->Mk.dX up w e)/\(a=false->∀e,Y e->¬Mk.dX up v e)
theorem dR (a b:Int):Mk.dX true a b↔a<=b:=Iff.rfl
theorem fW (a b:Int):Mk.dX false a b↔b<=a:=Iff.rfl
theorem Nq (o:Option Int):(Mk.res o).2=0/\(∃r,o=some r/\(Mk.res o).1=r)\/(Mk.res o).2=16/\o=none/\(Mk.res o).1=0:=by
 cases o with
 | none=>exact .inr ⟨rfl,rfl,rfl⟩
 | some r=>exact .inl ⟨rfl,r,rfl,rfl⟩
theorem sg {m:aa} (j:Mk.chk m=0) (v a:Int) (q:0<=a):∃w f,ew 20000000 m v true a=some (w,f)/\CB true (λe=>Mk.hasM m e=true/\a<=e) v w f/\(0<=w/\w<1000000000000000000):=by
 obtain ⟨o,l,c⟩:=Mk.G8 j (cond (decide (a>v)) a v);unfold ew;rw [l];simp only [ob,aj];have hc:(cond (decide (a>v)) a v)=max v a:=by
  by_cases h:a>v
  ·rw [aw h];show a=_;omega
  ·rw [ay h];show v=_;omega
 rw [hc] at c;rcases Nq o with ⟨i,r,rfl,d⟩ | ⟨i,rfl,d⟩
 ·refine ⟨_,_,rfl,?_,?_⟩
  ·rw [i,d];obtain ⟨a1,a2,k⟩:=c;rw [dR] at a2;refine ⟨λ_=>⟨⟨a1,by omega⟩,?_,λe b g=>?_⟩,λh=>by cases h⟩
   ·rw [dR];omega
   ·rw [dR] at g;exact k e b.1 (by rw [dR];have:=b.2;omega)
  ·have:=(Mk.l9 c.1).2.2.2.2;have p:=Mk.lG j;have hp:(10:Int) ^ m.length<=10 ^ 18:=by
    have:=kI (show 0<10 by decide) p.1
    exact_mod_cast this
   have n:(10:Int) ^ 18=1000000000000000000:=by decide
   rw [d];omega
 ·refine ⟨_,_,rfl,?_,by rw [d];omega⟩;rw [i];refine ⟨(λh=>by cases h),λ_ e b g=>?_⟩;rw [dR] at g;exact c e b.1 (by rw [dR];have:=b.2;omega)
theorem sw {m:aa} (l:Mk.chk m=0) (v a:Int) (s:0<=a):∃w f,ew 20000000 m v false a=some (w,f)/\CB false (λe=>Mk.hasM m e=true/\a<=e) v w f/\(0<=w/\w<1000000000000000000):=by
 obtain ⟨o,p,k⟩:=Mk.HA l v;unfold ew;rw [p];simp only [ob,af];rcases Nq o with ⟨i,r,rfl,g⟩ | ⟨i,rfl,g⟩
 ·rw [i,g];obtain ⟨a1,a2,j⟩:=k;rw [fW] at a2;have t:=(Mk.l9 a1).2.2.2.2;have q:=Mk.lG l;have hp:(10:Int) ^ m.length<=10 ^ 18:=by
   have:=kI (show 0<10 by decide) q.1
   exact_mod_cast this
  have n:(10:Int) ^ 18=1000000000000000000:=by decide
  refine ⟨_,_,rfl,?_,by omega⟩;by_cases d:r>=a
  ·rw [aw d];refine ⟨λ_=>⟨⟨a1,by omega⟩,by rw [fW];omega,λe b c=>j e b.1 c⟩,λh=>by cases h⟩
  ·rw [ay d];refine ⟨(λh=>by cases h),λ_ e b c=>?_⟩;have:=j e b.1 c;rw [fW] at this;have:=b.2;omega
 ·rw [i,g];refine ⟨_,_,rfl,?_,by omega⟩;refine ⟨(λh=>by cases h),λ_ e b c=>k e b.1 c⟩
theorem I9 {g l:Bool} {dg:aa} {x:Int} (k:okY g l dg x 0) (m d:aa) (k0 k1 k2:Int) (v:Int) (G:-9223372036854775808<=v/\v<9223372036854775808) (up:Bool) (C D:List Int):
  ∃w f,aQ 20000000 g l dg x 0 m d k0 k1 k2 v up C D=some (w,f)/\CB up (inP g dg x 0) v w f:=by
 have B:=je k;unfold aQ;rw [rq];simp only [ob];cases s:hasX dg with
 | false=>
  have c:=Br k s;rw [xM 20000000 g l dg x 0 (by omega) (by omega),ae ⟨k,s⟩];simp only [jb,aj];generalize (if g then -((val dg x.toNat:Nat):Int) else ((val dg x.toNat:Nat):Int))=w at *;cases up with
  | true=>
   by_cases h:w>=v
   ·refine ⟨w,true,?_,?_⟩
    ·simp only [aw h,aj]
    ·refine ⟨λ_=>⟨(c w).2 rfl,h,λe b _=>?_⟩,λh=>by cases h⟩;rw [(c e).1 b];exact wB _
   ·refine ⟨w,false,?_,?_⟩
    ·simp only [ay h,aj,af,dc]
    ·refine ⟨(λh=>by cases h),λ_ e b j=>?_⟩;rw [(c e).1 b,dR] at j;omega
  | false=>
   by_cases h:w<=v
   ·refine ⟨w,true,?_,?_⟩
    ·simp only [aw h,aj,af,jb]
    ·refine ⟨λ_=>⟨(c w).2 rfl,h,λe b _=>?_⟩,λh=>by cases h⟩;rw [(c e).1 b];exact wB _
   ·refine ⟨w,false,?_,?_⟩
    ·simp only [ay h,aj,af,jb]
    ·refine ⟨(λh=>by cases h),λ_ e b j=>?_⟩;rw [(c e).1 b,fW] at j;omega
 | true=>
  have c:=Dc k s;obtain ⟨rfl,rfl,_,A,F⟩:=vA k s;have t:=KV A F;simp only [dc,af];cases g with
  | false=>
   simp only [jb,aj];have q:∀w f,CB up (λe=>Mk.hasM dg e=true/\0<=e) v w f->CB up (inP false dg 0 0) v w f:=λw f h=>by
    have a:∀e,(Mk.hasM dg e=true/\0<=e)↔inP false dg 0 0 e:=λe=>by
     rw [c e];constructor
     ·rintro ⟨i,_⟩;exact ⟨i,λh=>by cases h⟩
     ·rintro ⟨i,_⟩;exact ⟨i,(Mk.l9 i).2.2.2.2.1⟩
    refine ⟨λn=>?_,λn e b=>h.2 n e ((a e).2 b)⟩;obtain ⟨b1,b2,r⟩:=h.1 n;exact ⟨(a w).1 b1,b2,λe b=>r e ((a e).2 b)⟩
   cases up with
   | true=>
    obtain ⟨w,f,i,p,_⟩:=sg t v 0 (by omega);exact ⟨w,f,by rw [i],q w f p⟩
   | false=>
    obtain ⟨w,f,i,p,_⟩:=sw t v 0 (by omega);exact ⟨w,f,by rw [i],q w f p⟩
  | true=>
   simp only [dc,af];have hc:IntKind.wrap .i64 (0 - (cond (decide (((-9223372036854775807):Int)>v)) (-9223372036854775807) v))=min (-v) 9223372036854775807:=by
    by_cases h:((-9223372036854775807):Int)>v
    ·rw [aw h,aj,wrap_i64 _ (by omega) (by omega)];omega
    ·rw [ay h,af,wrap_i64 _ (by omega) (by omega)];omega
   rw [hc];have u:∀e,Mk.hasM dg e=true->0<=e/\e<10000:=λe b=>by
    have:=(Mk.l9 b).2.2.2.2;rw [A] at this;have H:(10:Int) ^ 4=10000:=by decide
    omega
   have a:∀e,inP true dg 0 0 e↔(Mk.hasM dg (-e)=true/\1<=-e):=λe=>by
    rw [c e];exact ⟨λh=>⟨h.1,h.2 rfl⟩,λh=>⟨h.1,λ_=>h.2⟩⟩
   have z:∀w:Int,0<=w/\w<1000000000000000000->IntKind.wrap .i64 (0 - w)=-w:=λw h=>by rw [wrap_i64 _ (by omega) (by omega)];omega
   cases up with
   | true=>
    obtain ⟨w,f,i,p,y⟩:=sw t (min (-v) 9223372036854775807) 1 (by omega);refine ⟨-w,f,by rw [dc,i];simp only [z w y],?_,?_⟩
    ·intro n;obtain ⟨b1,b2,r⟩:=p.1 n;rw [fW] at b2;refine ⟨(a _).2 (by rw [Int.neg_neg];exact b1),by rw [dR];omega,λe b j=>?_⟩;rw [dR] at j;have o:=(a e).1 b;have:=r (-e) o (by rw [fW];have:=u _ o.1;omega);rw [fW] at this;rw [dR];omega
    ·intro n e b j;rw [dR] at j;have o:=(a e).1 b;exact p.2 n (-e) o (by rw [fW];have:=u _ o.1;omega)
   | false=>
    obtain ⟨w,f,i,p,y⟩:=sg t (min (-v) 9223372036854775807) 1 (by omega);refine ⟨-w,f,by rw [jb,i];simp only [z w y],?_,?_⟩
    ·intro n;obtain ⟨b1,b2,r⟩:=p.1 n;rw [dR] at b2;have E:=u _ b1.1;refine ⟨(a _).2 (by rw [Int.neg_neg];exact b1),by rw [fW];omega,λe b j=>?_⟩;rw [fW] at j;have o:=(a e).1 b;have:=r (-e) o (by rw [dR];omega);rw [dR] at this;rw [fW];omega
    ·intro n e b j;rw [fW] at j;have o:=(a e).1 b;exact p.2 n (-e) o (by rw [dR];omega)
theorem za {X Y A:Type} {step:X->Option (X⊕Y)} {f:Nat->X} {L:List A} {G:A->Option Y} {e:Y}
  (h:∀i a,L[i]?=some a->step (f i)=some ((G a).elim (.inl (f (i+1))) Sum.inr)) (c:step (f L.length)=some (.inr e)) {N:Nat} (b:L.length<N):
  au step N (f 0)=some ((L.findSome? G).getD e):=by
 have g:∀(r i:Nat),i+r=L.length->∀N,r<N->au step N (f i)=some (((L.drop i).findSome? G).getD e):=by
  intro r
  induction r with
  | zero=>
   intro i hi N b;obtain ⟨N,rfl⟩:∃q,N=q+1:=⟨N - 1,by omega⟩;obtain rfl:i=L.length:=by omega
   rw [au,c];simp
  | succ r ih=>
   intro i hi N b;obtain ⟨N,rfl⟩:∃q,N=q+1:=⟨N - 1,by omega⟩;have d:L[i]?=some L[i]:=bG (by omega);rw [au,h i L[i] d,wZ (show i<L.length by omega),EG];cases j:G L[i] with
   | some y=>rfl
   | none=>exact ih (i+1) (by omega) N (by omega)
 have:=g L.length 0 (by omega) N b;simpa using this
def ahd (up:Bool) (a b:Int):Bool:=cond up (decide (a<b)) (decide (a>b))
theorem DO (n:Nat) (a b:Int) (up:Bool):ch n a b up=some (ahd up a b):=by
 unfold ch ahd;cases up
 ·rfl
 ·simp only [aj,dc,af];cases decide (a<b)<;>rfl
def yu (up a:Bool) (d:aa) (b most k:Int):Bool:=decide (k<=most)&&!(a&&(!(d==([]:aa))&&ahd up k b))
def Jz (up:Bool) (m:aa) (b c y a:Int):Bool:=(y==b)&&(!(m==([]:aa))&&ahd up a c)
def FV (m:aa) (b a y c:Int):Bool:=(y==b)&&((m==([]:aa))||(c==a))
def BF (up:Bool) (m d:aa) (c b e y:Int) (f:List Int) (a:Int):Option (Int×Int×Int):=
 if Jz up m c b y a then none else (f.find? (yu up (FV m c b y a) d e (uQ d y a))).map λk=>(y,a,k)
def BP (up:Bool) (m d:aa) (c b e:Int) (a f:List Int) (y:Int):Option (Int×Int×Int):=a.findSome? (BF up m d c b e y f)
def Hk (d:aa) (b:List Int):Prop:=b.length<=31/\(d≠[]->∀a∈b,1<=a/\a<=12)
theorem G3 (n:Nat) (g l:Bool) (dg:aa) (x q:Int) (m d:aa) (k0 k1 k2:Int) {y:Int} (hy:dr y) {a:Int} (c:d≠[]->1<=a/\a<=12) (e f:List Int):
  cY n g l dg x q m d k0 k1 k2 y a e f=some (uQ d y a):=by
 unfold cY uQ;by_cases b:d=[]
 ·subst b;rfl
 ·rw [jH b,ab b];have:=c b;obtain ⟨k,rfl⟩:∃k:Nat,a=(k:Int):=⟨a.toNat,by omega⟩;rw [af,GH n hy (by omega) (by omega)];rfl
theorem O1 {A B Y:Type} (L:List A) (p:A->Bool) (F:A->B) (J:B->Y) (e:Y):(L.findSome? λa=>if p a then some (J (F a)) else none).getD e=((L.find? p).map F).elim e J:=by
 induction L with
 | nil=>rfl
 | cons a L ih=>
  rw [List.find?_cons,EG];cases h:p a
  ·simpa using ih
  ·simp
theorem QK {A B Y:Type} (L:List A) (G:A->Option B) (J:B->Y) (e:Y):(L.findSome? λa=>(G a).map J).getD e=(L.findSome? G).elim e J:=by
 induction L with
 | nil=>rfl
 | cons a L ih=>
  rw [EG,EG];cases h:G a
  ·simpa using ih
  ·simp
theorem Kz (n:Nat) (s y e:Int) (a:Bool) (most h p:Int) (r b:List Int) (g l:Bool) (dg:aa) (x q:Int) (m d:aa) (k0 k1 k2 u t c:Int) (up:Bool) (o j rd:Int) (i:Nat) (k:Int) (hi:b[i]?=some k) (w:i<1000):
  bn n (s,y,e,a,most,h,p,((b.length:Nat):Int),(i:Int),r,b,g,l,dg,x,q,m,d,k0,k1,k2,u,t,c,up,o,j,rd)=some ((if yu up a d c most k then some (.inl (true,y,e,k)) else none).elim (.inl (s,y,e,a,most,h,p,((b.length:Nat):Int),((i+1:Nat):Int),r,b,g,l,dg,x,q,m,d,k0,k1,k2,u,t,c,up,o,j,rd)) Sum.inr):=by
 have f:i<b.length:=(vI.1 hi).1;have v:IntKind.wrap .i64 ((i:Int)+1)=((i+1:Nat):Int):=by rw [wrap_i64 _ (by omega) (by omega)];omega
 unfold bn fZ yu;simp only [d4,d8,d16,eY f,hi,ob,v,DO];rw [aw (show (i:Int)<((b.length:Nat):Int) by omega)];simp only [aj];cases decide (k<=most)<;>cases a<;>cases (d==([]:aa))<;>cases ahd up k c<;>simp only [dc,jb,aj,af,v]<;>rfl
theorem PI (n:Nat) (s y p:Int) (b:Bool) (most c h:Int) (i a:List Int) (g l:Bool) (dg:aa) (x q:Int) (m d:aa) (k0 k1 k2 k j o:Int) (up:Bool) (f e rd:Int):
  bn n (s,y,p,b,most,c,h,((a.length:Nat):Int),((a.length:Nat):Int),i,a,g,l,dg,x,q,m,d,k0,k1,k2,k,j,o,up,f,e,rd)=some (.inr (.inr (s,y,c,h,i,a,g,l,dg,x,q,m,d,k0,k1,k2,k,j,o,up,f,e,rd))):=by
 unfold bn;simp only [d4,d8,d16];rw [ay (show ¬((a.length:Nat):Int)<((a.length:Nat):Int) by omega)];rfl
theorem OA (n:Nat) (B:1000<n) (s y h:Int) (a:Bool) (most j r:Int) (t b:List Int) (g l:Bool) (dg:aa) (x q:Int) (m d:aa) (k0 k1 k2 v u c:Int) (up:Bool) (p o rd:Int) (A:b.length<=31):
  au (bn n) n (s,y,h,a,most,j,r,((b.length:Nat):Int),0,t,b,g,l,dg,x,q,m,d,k0,k1,k2,v,u,c,up,p,o,rd)=some (((b.find? (yu up a d c most)).map (λk=>(y,h,k))).elim (.inr (s,y,j,r,t,b,g,l,dg,x,q,m,d,k0,k1,k2,v,u,c,up,p,o,rd)) (λz=>.inl (true,z))):=by
 have:=za (step:=bn n) (f:=λi=>(s,y,h,a,most,j,r,((b.length:Nat):Int),(i:Int),t,b,g,l,dg,x,q,m,d,k0,k1,k2,v,u,c,up,p,o,rd)) (L:=b) (G:=λk=>if yu up a d c most k then some (.inl (true,y,h,k)) else none) (e:=.inr (s,y,j,r,t,b,g,l,dg,x,q,m,d,k0,k1,k2,v,u,c,up,p,o,rd))
  (λi k hi=>by
   have w:i<b.length:=(vI.1 hi).1;exact Kz n s y h a most j r t b g l dg x q m d k0 k1 k2 v u c up p o rd i k hi (by omega))
  (PI n s y h a most j r t b g l dg x q m d k0 k1 k2 v u c up p o rd) (N:=n) (by omega)
 exact this.trans (ck some (O1 b (yu up a d c most) (λk=>(y,h,k)) (λz=>Sum.inl (true,z)) _))
theorem KN (n:Nat) (C:1000<n) (s y:Int) (hy:dr y) (j p:List Int) (g l:Bool) (dg:aa) (x q:Int) (m d:aa) (k0 k1 k2 e o r:Int) (up:Bool) (u t rd:Int) (A:Hk d j) (E:p.length<=31) (i:Nat) (f:Int) (hi:j[i]?=some f):
  bI n (s,y,((j.length:Nat):Int),(i:Int),j,p,g,l,dg,x,q,m,d,k0,k1,k2,e,o,r,up,u,t,rd)=some (((BF up m d e o r y p f).map (λz=>(.inl (true,z):(Bool×Int×Int×Int)⊕_))).elim (.inl (s,y,((j.length:Nat):Int),((i+1:Nat):Int),j,p,g,l,dg,x,q,m,d,k0,k1,k2,e,o,r,up,u,t,rd)) Sum.inr):=by
 have v:i<j.length:=(vI.1 hi).1;have D:=A.1;have B:IntKind.wrap .i64 ((i:Int)+1)=((i+1:Nat):Int):=by rw [wrap_i64 _ (by omega) (by omega)];omega
 have w:d≠[]->1<=f/\f<=12:=λh=>A.2 h f (fY hi);have j20:∀a b:Int,dN n s y f (y==e) a b j p g l dg x q m d k0 k1 k2 e o r up u t rd=some (s,y,f,(y==e),a,b,Jz up m e o y f,j,p,g,l,dg,x,q,m,d,k0,k1,k2,e,o,r,up,u,t,rd):=by
  intro a b;unfold dN Jz;simp only [DO,ob];cases (y==e)<;>cases (m==([]:aa))<;>rfl
 have j23:∀a b c:Int,dM n s y f (y==e) a b c j p g l dg x q m d k0 k1 k2 e o r up u t rd=some (s,y,f,FV m e o y f,a,b,c,j,p,g,l,dg,x,q,m,d,k0,k1,k2,e,o,r,up,u,t,rd):=by
  intro a b c;unfold dM FV;cases (y==e)<;>cases (m==([]:aa))<;>rfl
 unfold bI fV BF;simp only [d4,d8,d16,eY v,hi,ob,j20];rw [aw (show (i:Int)<((j.length:Nat):Int) by omega)];simp only [aj];cases hs:Jz up m e o y f with
 | true=>simp only [aj,aI,gH,B];rfl
 | false=>
  simp only [af,bE,aC,G3 n g l dg x q m d k0 k1 k2 hy w,j23,OA n C s y f (FV m e o y f) (uQ d y f) _ _ j p g l dg x q m d k0 k1 k2 e o r up u t rd E];cases p.find? (yu up (FV m e o y f) d r (uQ d y f)) with
  | some k=>rfl
  | none=>simp only [gH,Option.elim_none,B]
theorem OX (n:Nat) (v:1000<n) (s y:Int) (hy:dr y) (a b:List Int) (g l:Bool) (dg:aa) (x q:Int) (m d:aa) (k0 k1 k2 h c j:Int) (up:Bool) (o k rd:Int) (r:Hk d a) (t:b.length<=31):
  au (bI n) n (s,y,((a.length:Nat):Int),0,a,b,g,l,dg,x,q,m,d,k0,k1,k2,h,c,j,up,o,k,rd)=some ((BP up m d h c j a b y).elim (.inr (s,y,a,b,g,l,dg,x,q,m,d,k0,k1,k2,h,c,j,up,o,k,rd)) (λz=>.inl (true,z))):=by
 have u:=r.1;have:=za (step:=bI n) (f:=λi=>(s,y,((a.length:Nat):Int),(i:Int),a,b,g,l,dg,x,q,m,d,k0,k1,k2,h,c,j,up,o,k,rd)) (L:=a) (G:=λp=>(BF up m d h c j y b p).map (λz=>(.inl (true,z):(Bool×Int×Int×Int)⊕_))) (e:=.inr (s,y,a,b,g,l,dg,x,q,m,d,k0,k1,k2,h,c,j,up,o,k,rd))
  (λi p hi=>KN n v s y hy a b g l dg x q m d k0 k1 k2 h c j up o k rd r t i p hi)
  (by
   unfold bI;simp only [d4,d8,d16];rw [ay (show ¬((a.length:Nat):Int)<((a.length:Nat):Int) by omega)];rfl)
  (N:=n) (by omega)
 exact this.trans (ck some (QK a (BF up m d h c j y b) (λz=>Sum.inl (true,z)) _))
theorem L9 (n:Nat) (o:1000<n) (s y:Int) (hy:dr y) (a b:List Int) (g l:Bool) (dg:aa) (x q:Int) (m d:aa) (k0 k1 k2 e c f:Int) (up:Bool) (i h rd:Int) (k:Hk d a) (j:b.length<=31):
  cj n (s,y,true,a,b,g,l,dg,x,q,m,d,k0,k1,k2,e,c,f,up,i,h,rd)=(BP up m d e c f a b y).elim (ob (aQ n g l dg x q m d k0 k1 k2 (IntKind.wrap .i64 (y+s)) up a b) λr=>some (.inl (s,r.1,r.2,a,b,g,l,dg,x,q,m,d,k0,k1,k2,e,c,f,up,i,h,rd))) (λz=>some (.inr (.inl (true,z)))):=by
 unfold cj;simp only [d4,d8,d16,aj,ob,OX n o s y hy a b g l dg x q m d k0 k1 k2 e c f up i h rd k j];cases BP up m d e c f a b y<;>rfl
def C6 (up:Bool) (Y:Int->Prop) (F:Int->Option (Int×Int×Int)) (v:Int):Option (Int×Int×Int)->Prop
 | some z=>∃e,Y e/\Mk.dX up v e/\F e=some z/\∀a,Y a->Mk.dX up v a->¬Mk.dX up e a->F a=none
 | none=>∀e,Y e->Mk.dX up v e->F e=none
theorem FP {X:Type} {step:X->Option (X⊕((Bool×Int×Int×Int)⊕(Int×Int×Int)))} {st:Int->Bool->X} {F:Int->Option (Int×Int×Int)} {Y:Int->Prop} {up:Bool} {s lo hi:Int} {E:Int×Int×Int} {fy:Int->Option (Int×Bool)}
  (hs:s=if up then 1 else -1) (t:∀e,Y e->lo<=e/\e<=hi) (M:-10000000000000000<=lo) (d:hi<=10000000000000000)
  (b:∀y,Y y->step (st y true)=(F y).elim (ob (fy (IntKind.wrap .i64 (y+s))) λr=>some (.inl (st r.1 r.2))) (λz=>some (.inr (.inl (true,z)))))
  (c:∀y,step (st y false)=some (.inr (.inr E)))
  (n:∀v,-9223372036854775808<=v/\v<9223372036854775808->∃w f,fy v=some (w,f)/\CB up Y v w f):
  ∀(r:Nat) (v y:Int) (f:Bool),CB up Y v y f->(f=true->(if up then hi - y else y - lo)<(r:Int))->∀N,r<N->
   ∃o,au step N (st y f)=some (o.elim (.inr E) (λz=>.inl (true,z)))/\C6 up Y F v o:=by
 intro r
 induction r with
 | zero=>
  intro v y f m p N K;obtain ⟨N,rfl⟩:∃q,N=q+1:=⟨N - 1,by omega⟩;cases f with
  | true=>
   obtain ⟨a1,_,_⟩:=m.1 rfl;have:=t y a1;have:=p rfl;cases up<;>simp at this<;>omega
  | false=>
   refine ⟨none,by rw [au,c];rfl,λe g j=>absurd j (m.2 rfl e g)⟩
 | succ r ih=>
  intro v y f m p N K;obtain ⟨N,rfl⟩:∃q,N=q+1:=⟨N - 1,by omega⟩;cases f with
  | false=>
   refine ⟨none,by rw [au,c];rfl,λe g j=>absurd j (m.2 rfl e g)⟩
  | true=>
   obtain ⟨a1,a2,u⟩:=m.1 rfl;have O:=t y a1;cases k:F y with
   | some z=>
    refine ⟨some z,?_,y,a1,a2,k,λa d l i=>absurd (u a d l) i⟩;rw [au,b y a1,k];rfl
   | none=>
    have J:IntKind.wrap .i64 (y+s)=y+s:=by
     have:-1<=s/\s<=1:=by rw [hs];cases up<;>simp
     exact wrap_i64 _ (by omega) (by omega)
    obtain ⟨w,C,H,A⟩:=n (y+s) (by
     have:-1<=s/\s<=1:=by rw [hs];cases up<;>simp
     omega)
    have hstep':step (st y true)=some (.inl (st w C)):=by
     rw [b y a1,k,J];show ob (fy (y+s)) _=_;rw [H];rfl
    obtain ⟨o,G,B⟩:=ih (y+s) w C A (λD=>by
     obtain ⟨b1,b2,_⟩:=A.1 D;have:=p rfl;cases up
     ·rw [fW] at b2;simp only [bE,aC] at hs this ⊢;omega
     ·rw [dR] at b2;simp only [aI] at hs this ⊢;omega) N (by omega)
    refine ⟨o,by rw [au,hstep'];exact G,?_⟩;have split:∀a,Y a->Mk.dX up v a->a=y\/Mk.dX up (y+s) a:=λa d l=>by
     have i:=u a d l;cases up
     ·rw [fW] at i ⊢;simp only [bE,aC] at hs;omega
     ·rw [dR] at i ⊢;simp only [aI] at hs;omega
    cases o with
    | none=>
     intro e g j;rcases split e g j with rfl | h
     ·exact k
     ·exact B e g h
    | some z=>
     obtain ⟨e,I,x,c3,L⟩:=B;refine ⟨e,I,?_,c3,λa d l i=>?_⟩
     ·cases up
      ·rw [fW] at x a2 ⊢;simp only [bE,aC] at hs;omega
      ·rw [dR] at x a2 ⊢;simp only [aI] at hs;omega
     ·rcases split a d l with rfl | h
      ·exact k
      ·exact L a d h i
theorem Gi {g l:Bool} {dg:aa} {x:Int} (c:okY g l dg x 0):∃lo hi:Int,(∀e,inP g dg x 0 e->lo<=e/\e<=hi)/\hi - lo<=10000/\-10000000000000000<=lo/\hi<=10000000000000000:=by
 cases f:hasX dg with
 | false=>
  have a:=Br c f;by_cases d:-10000000000000000<=(if g then -((val dg x.toNat:Nat):Int) else ((val dg x.toNat:Nat):Int))/\(if g then -((val dg x.toNat:Nat):Int) else ((val dg x.toNat:Nat):Int))<=10000000000000000
  ·refine ⟨_,_,λe b=>?_,?_,d.1,d.2⟩
   ·rw [(a e).1 b];exact ⟨wB _,wB _⟩
   ·omega
  ·refine ⟨0,0,λe b=>?_,by omega,by omega,by omega⟩;exfalso;have:=(a e).1 b;unfold inP at b;exact d ⟨by rw [<-this];exact b.1,by rw [<-this];exact b.2.1⟩
 | true=>
  have a:=Dc c f;obtain ⟨_,_,_,i,k⟩:=vA c f;refine ⟨if g then -9999 else 0,if g then 0 else 9999,λe b=>?_,by cases g<;>simp,by cases g<;>simp,by cases g<;>simp⟩;have h:=((a e).1 b).1;have:=(Mk.l9 h).2.2.2.2;rw [i] at this;have j:(10:Int) ^ 4=10000:=by decide
  unfold wOf at this;cases g
  ·simp at this ⊢;omega
  ·simp at this ⊢;omega
theorem yn {g:Bool} {dg:aa} {x q e:Int} (h:inP g dg x q e):dr e:=⟨h.1,h.2.1⟩
theorem Gh {g l:Bool} {dg:aa} {x:Int} (e:okY g l dg x 0) (m d:aa) (k0 k1 k2:Int) (a h i:Int) (n:-9223372036854775808<=a/\a<9223372036854775808) (b c:List Int) (C:Hk d b) (D:c.length<=31):
  ∃o,gL 20000000 g l dg x 0 m d k0 k1 k2 a h i true b c=some (o.elim (0,0,0,false) λz=>(z.1,z.2.1,z.2.2,true))/\C6 true (inP g dg x 0) (BP true m d a h i b c) a o:=by
 obtain ⟨lo,hi,q,G,k,j⟩:=Gi e;obtain ⟨w,f,A,p⟩:=I9 e m d k0 k1 k2 a n true b c;obtain ⟨o,t,B⟩:=FP (step:=cj 20000000) (st:=λy f=>(1,y,f,b,c,g,l,dg,x,0,m,d,k0,k1,k2,a,h,i,true,0,0,0)) (F:=BP true m d a h i b c) (Y:=inP g dg x 0) (up:=true) (s:=1) (lo:=lo) (hi:=hi) (E:=(0,0,0)) (fy:=λv=>aQ 20000000 g l dg x 0 m d k0 k1 k2 v true b c)
  rfl q k j
  (λy hy=>L9 20000000 (by omega) 1 y (yn hy) b c g l dg x 0 m d k0 k1 k2 a h i true 0 0 0 C D)
  (λy=>rfl)
  (λv u=>I9 e m d k0 k1 k2 v u true b c)
  10002 a w f p (λr=>by have:=q w (p.1 r).1;simp;omega) 20000000 (by omega)
 refine ⟨o,?_,B⟩;unfold gL gO;simp only [dc,af,ob,d4,d8,d16,A];have i1':au (cj 20000000) 20000000 (1,w,f,b,c,g,l,dg,x,0,m,d,k0,k1,k2,a,h,i,true,0,0,0)=_:=t;rw [i1'];cases o<;>rfl
theorem EO (m d:aa) (o l:Int) {f e:Int} (h:e≠f) (n g:List Int):BP true m d f o l n g e=none↔(n.flatMap λa=>(g.filter λk=>decide (k<=uQ d e a)).map λk=>(e,a,k))=[]:=by
 have j:(e==f)=false:=br.2 h;unfold BP;rw [List.findSome?_eq_none_iff,NN];have:∀a,BF true m d f o l e g a=none↔((g.filter λk=>decide (k<=uQ d e a)).map λk=>(e,a,k))=[]:=by
  intro a;unfold BF Jz FV;rw [j];simp only [EW,bE,aC,Option.map_eq_none_iff,List.find?_eq_none,List.map_eq_nil_iff,List.filter_eq_nil_iff];constructor
  ·intro c k i;have:=c k i;unfold yu at this;simpa using this
  ·intro c k i;have:=c k i;unfold yu;simpa using this
 exact ⟨λc a b=>(this a).1 (c a b),λc a b=>(this a).2 (c a b)⟩
def hasF (g:Bool) (dg:aa) (x:Int) (m d:aa):Prop:=∃e,inP g dg x 0 e/\HY m d e≠[]
open Classical in
noncomputable def chkF (g l:Bool) (dg:aa) (x q:Int) (m d:aa) (k0 k1 k2:Int):Int:=
 if chkD g l dg x q m d k0 k1 k2=0/\d≠[]/\¬hasF g dg x m d then 8 else chkD g l dg x q m d k0 k1 k2
theorem oI {g l:Bool} {dg:aa} {x q:Int} {m d:aa} {k0 k1 k2:Int} (h:chkD g l dg x q m d k0 k1 k2=0):okY g l dg x q/\(m=[]\/m.length=2)/\(d=[]\/d.length=2)/\(0<q->m=[])/\(d≠[]->m≠[]/\sea m=0):=by
 obtain ⟨b,e,c3,n⟩:=HO h;unfold yrD at b;by_cases a:okY g l dg x q
 ·rw [ae a] at b;refine ⟨a,?_,?_,λf=>?_,λk=>?_⟩
  ·rcases e with h | h | h
   ·exact .inl h
   ·exact .inr (Ji h).1
   ·exact .inr (pf (by omega) h).1
  ·rcases c3 with h | ⟨_,_,h⟩
   ·exact .inl h
   ·exact .inr (pf (by omega) h).1
  ·unfold yrB at b;simp only [az,kN] at b;have:=b.1;rw [aw f,rn] at this;by_cases c:m=[]
   ·exact c
   ·rw [jH c] at this;cases this
  ·rcases c3 with h | ⟨i,j,_⟩
   ·exact absurd h k
   ·exact ⟨i,j⟩
 ·rw [ab a] at b;cases b
theorem Q1 {g l:Bool} {dg:aa} {x q:Int} (h:okY g l dg x q):0<=q:=(je h).2.2.1
theorem Jb {m d:aa} (h:d≠[]->m≠[]/\sea m=0):Hk d (monI m):=by
 refine ⟨pX (Ky m) (by omega),λe g a=>?_⟩;obtain ⟨b,f⟩:=h e;unfold monI at a;rw [ab b,ab (by omega)] at a;obtain ⟨k,c,rfl⟩:=dH.1 a;have:=vt.1 (lz.1 c).1;omega
theorem tc {g l:Bool} {dg:aa} {x q:Int} {m d:aa} {k0 k1 k2:Int} (p:m.length<=18) (t:dg.length<=100) (y:0<=k0) (w:0<=k1) (D:0<=k2):
  aW 20000000 g l dg x q m d k0 k1 k2=some (chkF g l dg x q m d k0 k1 k2):=by
 unfold aW chkF;rw [sV 20000000 (by omega) g l dg x q m d k0 k1 k2 p t y w D];simp only [ob];by_cases hc:chkD g l dg x q m d k0 k1 k2=0
 ·obtain ⟨b,r,k,A,c⟩:=oI hc;rw [hc];simp only [eF,af];by_cases i:d=[]
  ·subst i;rw [ab (by simp)];rfl
  ·rw [jH i,af];have s:q=0:=by
    have:=Q1 b;by_cases h:0<q
    ·exact absurd (A h) (c i).1
    ·omega
   subst s;have e:=SQ 20000000 (by omega) g l dg x 0 m d k0 k1 k2 r k;have n:=Jb c;obtain ⟨o,o1,u⟩:=Gh b m d k0 k1 k2 (-9223372036854775808) 0 0 (by omega) (monI m) (dayI d) n (K0 d);have f:∀e,inP g dg x 0 e->e≠-9223372036854775808:=λe C=>by have:=yn C;unfold dr at this;omega
   have key:(∃z,o=some z)↔hasF g dg x m d:=by
    constructor
    ·rintro ⟨z,rfl⟩;obtain ⟨e,a,_,c3,_⟩:=u;refine ⟨e,a,λE=>?_⟩;have:=(EO m d 0 0 (f e a) (monI m) (dayI d)).2 E;rw [this] at c3;cases c3
    ·rintro ⟨e,a,v⟩;cases o with
     | some z=>exact ⟨z,rfl⟩
     | none=>
      have:=u e a (by rw [dR];have:=yn a;unfold dr at this;omega);exact absurd ((EO m d 0 0 (f e a) (monI m) (dayI d)).1 this) v
   rw [e];by_cases j:hasF g dg x m d
   ·obtain ⟨z,rfl⟩:=key.2 j;rw [ab (λh=>h.2.2 j)]
    all_goals
     simp only [d4,d8,o1];rfl
   ·have B:o=none:=by
     cases o with
     | none=>rfl
     | some z=>exact absurd (key.1 ⟨z,rfl⟩) j
    subst B;rw [ae ⟨rfl,i,j⟩]
    all_goals
     simp only [d4,d8,o1];rfl
 ·rw [ab (λh=>hc h.1)];have:(chkD g l dg x q m d k0 k1 k2 != 0)=true:=by simp [hc]
  rw [this];rfl
theorem lQ {g l:Bool} {dg:aa} {x q:Int} {m d:aa} {k0 k1 k2:Int} (h:chkF g l dg x q m d k0 k1 k2=0):chkD g l dg x q m d k0 k1 k2=0:=by
 unfold chkF at h;split at h
 ·cases h
 ·exact h
theorem bne0 {e:Int} (h:e≠0):(e != 0)=true:=by simp [h]
theorem ER {m d:aa} {y:Int} {z:Int×Int×Int}:z∈HY m d y↔z.1=y/\z.2.1∈monI m/\z.2.2∈dayI d/\z.2.2<=uQ d y z.2.1:=by
 unfold HY Nb;simp only [List.mem_flatMap,dH,lz,bX];constructor
 ·rintro ⟨f,b,k,⟨c,a⟩,rfl⟩;exact ⟨rfl,b,c,a⟩
 ·rintro ⟨e,b,c,a⟩;exact ⟨z.2.1,b,z.2.2,⟨c,a⟩,by rw [<-e]⟩
theorem O8 (y:Int) (i:Nat):(minL i:Int)<=lenI y (i:Int):=by
 unfold minL lenI
 repeat' split
 all_goals omega
theorem MW {g l:Bool} {dg:aa} {x:Int} (a:okY g l dg x 0) {m d:aa} (p:m≠[]) (hs:sea m=0) (f:d≠[]) (c:fitD m d=true):hasF g dg x m d:=by
 obtain ⟨o,_,_⟩:=HZ a;refine ⟨_,o,?_⟩;unfold fitD at c;simp only [pD,az] at c;obtain ⟨i,hi,j,k,q,b⟩:=c;have hi':=vt.1 hi;have hk':=vt.1 q;have n:minL i<=31:=by
  unfold minL
  repeat' split
  all_goals omega
 have h:((sgn g (nK g dg x 0)).1,(i:Int),(k:Int))∈HY m d (sgn g (nK g dg x 0)).1:=by
  rw [ER];refine ⟨rfl,?_,?_,?_⟩
  ·unfold monI;rw [ab p,ab (by omega)];exact dH.2 ⟨i,lz.2 ⟨hi,j⟩,rfl⟩
  ·unfold dayI;rw [ab f];exact dH.2 ⟨k,lz.2 ⟨vt.2 (by omega),b⟩,rfl⟩
  ·unfold uQ;rw [ab f];have:=O8 (sgn g (nK g dg x 0)).1 i;show (k:Int)<=lenI (sgn g (nK g dg x 0)).1 (i:Int);omega
 intro e;rw [e] at h;cases h
theorem Md {g l:Bool} {dg:aa} {x q:Int} {m d:aa} {k0 k1 k2:Int} (hc:chkD g l dg x q m d k0 k1 k2=0) (o:d=[]\/fitD m d=true):chkF g l dg x q m d k0 k1 k2=0:=by
 obtain ⟨a,n,i,j,e⟩:=oI hc;unfold chkF;rw [ab,hc];rintro ⟨_,b,p⟩;obtain ⟨f,k⟩:=e b;have c:q=0:=by
  have:=Q1 a;by_cases h:0<q
  ·exact absurd (j h) f
  ·omega
 subst c;exact p (MW a f k b (o.resolve_left b))
def plN (P:Nat×Nat×Nat) (i:Nat):Nat:=if i=0 then P.1 else if i=1 then P.2.1 else P.2.2
theorem wR {g l:Bool} {dg:aa} {x q:Int} {m d:aa} {k0 k1 k2:Int} (a:allM k0 k1 k2 (bp m d)=0):chkF g l dg x q m d k0 k1 k2=0\/chkF g l dg x q m d k0 k1 k2=6\/chkF g l dg x q m d k0 k1 k2=7\/chkF g l dg x q m d k0 k1 k2=8:=by
 unfold chkF;split
 ·exact .inr (.inr (.inr rfl))
 ·exact AP a
noncomputable def chkR (r:DR):Nat:=(chkF r.1 r.2.1 r.2.2.1 (r.2.2.2.1:Int) (r.2.2.2.2.1:Int) r.2.2.2.2.2.1 r.2.2.2.2.2.2.1 (r.2.2.2.2.2.2.2.1.1:Int) (r.2.2.2.2.2.2.2.1.2.1:Int) (r.2.2.2.2.2.2.2.1.2.2:Int)).toNat
noncomputable def di (S:aa) (a:Nat):(Nat×Nat×Nat)⊕DR:=
 match pq S a with
 | .inl k=>.inl (k,5,k)
 | .inr r=>if chkR r=0 then .inr r else .inl (plN r.2.2.2.2.2.2.2.2.1 (chkR r - 6),chkR r,r.2.2.2.2.2.2.2.2.2)
def Rl (S:aa):(Nat×Nat×Nat)⊕DR->(Int×Int×aa×Int)⊕(Bool×Bool×aa×Int×Int×aa×aa×Int×Int×Int×Int×aa×Int)
 | .inl (k,E,p)=>.inl ((k:Int),(E:Int),S,(p:Int))
 | .inr (g,l,dg,x,s,m,d,M,P,e)=>.inr (g,l,dg,(x:Int),(s:Int),m,d,(M.1:Int),(M.2.1:Int),(M.2.2:Int),(P.1:Int),S,(e:Int))
theorem A8 (S:aa) (a:Nat) (h:a<=S.length) (j:S.length<100000):fS 20000000 S (a:Int)=some (Rl S (di S a)):=by
 have n:gB 20000000 S (a:Int)=_:=Ih 19999700 S a h j (by omega);unfold fS di;rw [n];cases i:pq S a with
 | inl k=>rfl
 | inr r=>
  obtain ⟨g,l,dg,x,s,f,d,M,P,e⟩:=r;have b:=yX h i;have p:=b.all;have t:=b.m2;have o:=b.dg17;simp only [ob,N2,d4,d8];rw [tc (g:=g) (l:=l) (x:=(x:Int)) (q:=(s:Int)) (d:=d) (show f.length<=18 by omega) (show dg.length<=100 by omega) (show (0:Int)<=(M.1:Int) by omega) (show (0:Int)<=(M.2.1:Int) by omega) (show (0:Int)<=(M.2.2:Int) by omega)];simp only [ob];have c:=wR (g:=g) (l:=l) (dg:=dg) (x:=(x:Int)) (q:=(s:Int)) (m:=f) (d:=d) (k0:=(M.1:Int)) (k1:=(M.2.1:Int)) (k2:=(M.2.2:Int)) (qu p);unfold chkR;simp only [];rcases c with hc | hc | hc | hc<;>rw [hc]<;>rfl
def dayY (y:Int):Int:=365*y+(1+(y - 1) / 4 - (y - 1) / 100+(y - 1) / 400)
def cumM (y:Int):Nat->Int
 | 0=>0
 | k+1=>cumM y k+lenI y ((k+1:Nat):Int)
def dayM (y:Int) (m:Nat):Int:=if m<=12 then dayY y+cumM y (m - 1) else dayY (y+1)+cumM (y+1) (m - 13)
theorem Je (y:Int):dayY (y+1)=dayY y+365+(if vD y then 1 else 0):=by
 unfold dayY vD;simp only [az,gu,bX];split<;>omega
theorem mG {y:Int} (h:-20000000000000000<=y/\y<=20000000000000000):-8000000000000000000<=dayY y/\dayY y<=8000000000000000000:=by
 unfold dayY;omega
theorem Tf (y:Int):cumM y 12=365+(if vD y then 1 else 0):=by
 have e:∀k:Nat,cumM y (k+1)=cumM y k+lenI y ((k+1:Nat):Int):=λ_=>rfl;have z:cumM y 0=0:=rfl;rw [e 11,e 10,e 9,e 8,e 7,e 6,e 5,e 4,e 3,e 2,e 1,e 0,z];unfold lenI;cases vD y<;>rfl
theorem qJ (y:Int):∀k:Nat,0<=cumM y k/\cumM y k<=31*(k:Int)
 | 0=>by simp [cumM]
 | k+1=>by
  have a:=qJ y k;have b:=o5 y ((k+1:Nat):Int);show 0<=cumM y k+lenI y ((k+1:Nat):Int)/\cumM y k+lenI y ((k+1:Nat):Int)<=_;omega
theorem wG {y:Int} (h:dr y) {m:Nat} (a:m<=24):-8100000000000000000<=dayM y m/\dayM y m<=8100000000000000000:=by
 unfold dr at h;unfold dayM;split
 ·have:=qJ y (m - 1);have:=mG (y:=y) (by omega);omega
 ·have:=qJ (y+1) (m - 13);have:=mG (y:=y+1) (by omega);omega
theorem OS (y:Int):dayM y 13=dayY (y+1):=by
 unfold dayM;rw [ab (by omega)];simp [cumM]
theorem Hw (y:Int) {m:Nat} (a:1<=m) (b:m<=12):dayM y (m+1)=dayM y m+lenI y (m:Int):=by
 obtain ⟨k,rfl⟩:∃k,m=k+1:=⟨m - 1,by omega⟩;have e:dayM y (k+1)=dayY y+cumM y k:=by unfold dayM;rw [ae (by omega)];rfl
 rw [e];by_cases h:k+1=12
 ·obtain rfl:k=11:=by omega
  rw [OS,Je];have:=Tf y;have e:cumM y 12=cumM y 11+lenI y ((11+1:Nat):Int):=rfl;omega
 ·have:dayM y (k+1+1)=dayY y+cumM y (k+1):=by unfold dayM;rw [ae (by omega)];rfl
  rw [this];show dayY y+(cumM y k+lenI y ((k+1:Nat):Int))=_;omega
theorem GK (y:Int) {m:Nat} (b:1<=m) (a:m<=12):dayM y (m+12)=dayM (y+1) m:=by
 unfold dayM;rw [ab (by omega),ae a];congr 2
theorem pK (n:Nat) {y:Int} (h:-10000000000000001<=y/\y<=10000000000000001):jI n y=some (dayY y):=by
 have a:=mG (y:=y) (by omega);unfold jI;rw [vq n (by omega),wrap_i64 (365*y) (by omega) (by omega)];show some (IntKind.wrap .i64 (dayY y))=_;rw [wrap_i64 _ (by omega) (by omega)]
theorem pL (n:Nat) {y:Int} (h:dr y):jQ n y=some (dayY y,0):=by
 unfold jQ;have h':=h;unfold dr at h';rw [fp,ae h,pK n (by omega)];rfl
theorem zK (n:Nat) {y:Int} (h:dr y):rj n y=some (dayY (y+1) - 1,0):=by
 unfold rj;have h':=h;unfold dr at h';have a:=mG (y:=y+1) (by omega);rw [fp,ae h,wrap_i64 (y+1) (by omega) (by omega),pK n (by omega)];show some (IntKind.wrap .i64 (dayY (y+1) - 1),(0:Int))=_;rw [wrap_i64 _ (by omega) (by omega)]
theorem Ci (n:Nat) {y:Int} (h:dr y) {m:Nat} (c:m<=11):∀(r j:Nat),j+r=m->∀N,r<N->au (bm n) N (y,dayY y+cumM y j,(m:Int),(j:Int))=some (dayY y+cumM y m):=by
 have h':=h;unfold dr at h';have d:=mG (y:=y) (by omega);intro r
 induction r with
 | zero=>
  intro j b N a;obtain ⟨N,rfl⟩:∃k,N=k+1:=⟨N - 1,by omega⟩;obtain rfl:j=m:=by omega
  have:bm n (y,dayY y+cumM y j,(j:Int),(j:Int))=some (.inr (dayY y+cumM y j)):=by
   unfold bm;rw [bM,ab (show ¬((j:Int)<(j:Int)) by omega)]
  rw [au,this]
 | succ r ih=>
  intro j b N a;obtain ⟨N,rfl⟩:∃k,N=k+1:=⟨N - 1,by omega⟩;have w:IntKind.wrap .i64 ((j:Int)+1)=((j+1:Nat):Int):=by rw [wrap_i64 _ (by omega) (by omega)];omega
  have hc:=qJ y j;have e:=o5 y ((j+1:Nat):Int);have:bm n (y,dayY y+cumM y j,(m:Int),(j:Int))=some (.inl (y,dayY y+cumM y (j+1),(m:Int),((j+1:Nat):Int))):=by
   unfold bm;rw [bM,ae (show ((j:Int)<(m:Int)) by omega)];simp only [w,uD n h (show 1<=j+1 by omega) (show j+1<=12 by omega),ob];rw [wrap_i64 (dayY y+cumM y j+lenI y ((j+1:Nat):Int)) (by omega) (by omega),Int.add_assoc];rfl
  rw [au,this];exact ih (j+1) (by omega) N (by omega)
theorem rf (n:Nat) (c:100<n) {y:Int} (h:dr y) {m:Nat} (b:1<=m) (a:m<=12):dZ n y (m:Int)=some (dayM y m,0):=by
 unfold dZ;have w:IntKind.wrap .i64 ((m:Int) - 1)=((m - 1:Nat):Int):=by rw [wrap_i64 _ (by omega) (by omega)];omega
 rw [DV n h b a,pL n h,w];have:=Ci n h (m:=m - 1) (by omega) (m - 1) 0 (by omega) n (by omega);rw [show dayY y+cumM y 0=dayY y by simp [cumM]] at this;show ob (au (bm n) n (y,dayY y,((m - 1:Nat):Int),((0:Nat):Int))) _=_;rw [this];unfold dayM;rw [ae a];rfl
theorem Bv (n:Nat) (c:100<n) {y:Int} (h:dr y) {m:Nat} (a:1<=m) (b:m<=12):fD n y (m:Int)=some (dayM y (m+1) - 1,0):=by
 unfold fD;have d:=wG h (m:=m) (by omega);have e:=o5 y (m:Int);rw [rf n c h a b,uD n h a b,Hw y a b];show some (IntKind.wrap .i64 (IntKind.wrap .i64 (dayM y m+lenI y (m:Int)) - 1),(0:Int))=_;rw [wrap_i64 (dayM y m+lenI y (m:Int)) (by omega) (by omega),wrap_i64 _ (by omega) (by omega)]
theorem FH (n:Nat) (d:100<n) {y:Int} (h:dr y) {j m c:Nat} (i:j<21) (e:lX[j]?=some ((m:Int),(c:Int))) (f:1<=m) (g:m<=12) (l:1<=c) (k:c<=6) (hy:12<m+c - 1->y≠10000000000000000):
  gh n y ((21+j:Nat):Int)=some (0,dayM y m,0,dayM y (m+c) - 1,0):=by
 have o:dY n ((21+j:Nat):Int)=some ((m:Int),(c:Int),0):=by
  unfold dY cT;rw [bM,bM,ab (by omega),ab (by omega)];have:IntKind.wrap .i64 (((21+j:Nat):Int) - 21)=(j:Int):=by rw [wrap_i64 _ (by omega) (by omega)];omega
  rw [this,eY i];show ob (lX[j]?) _=_;rw [e];rfl
 unfold gh;rw [o];simp only [ob,eF,af];rw [rf n d h f g];simp only [ob,eF,af];rw [madd n h f g l k];have h':=h;unfold dr at h';by_cases a:12<m+c - 1
 ·rw [ae a,ab (hy a)];have b:dr (y+1):=by unfold dr;have:=hy a;omega
  simp only [ob,eF,af];rw [Bv n d b (m:=m+c - 1 - 12) (by omega) (by omega)];have:=GK y (m:=m+c - 1 - 12+1) (by omega) (by omega);rw [show m+c - 1 - 12+1+12=m+c by omega] at this;rw [this]
 ·rw [ab a];simp only [ob,eF,af];rw [Bv n d h (m:=m+c - 1) (by omega) (by omega),show m+c - 1+1=m+c by omega]
def twoV (s:aa):Nat:=match s with
 | [a,b]=>10*(a.toNat - 48)+(b.toNat - 48)
 | _=>0
def yOf (g:Bool) (dg:aa) (x:Int):Int:=if g then -((val dg x.toNat:Nat):Int) else ((val dg x.toNat:Nat):Int)
def spF (m:aa):Nat:=((lX.getD (sea m - 21).toNat (0,0)).1).toNat
def spC (m:aa):Nat:=((lX.getD (sea m - 21).toNat (0,0)).2).toNat
def sG (g:Bool) (dg:aa) (x:Int) (m d:aa):Int×Int:=
 if m=[] then (dayY (yOf g dg x),dayY (yOf g dg x+1) - 1)
 else if 0<sea m then (dayM (yOf g dg x) (spF m),dayM (yOf g dg x) (spF m+spC m) - 1)
 else if d=[] then (dayM (yOf g dg x) (twoV m),dayM (yOf g dg x) (twoV m+1) - 1)
 else (dayM (yOf g dg x) (twoV m)+(twoV d:Int) - 1,dayM (yOf g dg x) (twoV m)+(twoV d:Int) - 1)
def exD (dg m d:aa) (q:Int):Bool:=!(hasX dg||(hasX m||hasX d))&&(q==0)
theorem Nv {s:aa} (h:hasX s=false) {c:UInt8} (hc:c∈s):c≠88:=by
 rintro rfl;unfold hasX at h;rw [pM] at h;exact h 88 hc (by decide)
theorem G2 {s:aa} (h:hasX s=false) {k:Nat} (l:k<100) (c:agr s k=true):twoV s=k/\s=two k:=by
 unfold agr at c;split at c
 ·rename_i a b;have e:a≠88:=Nv h (by simp);have d:b≠88:=Nv h (by simp);simp only [az,gu,bA] at c;obtain ⟨f,g⟩:=c;have f:=f.resolve_left e;have g:=g.resolve_left d;subst f g;refine ⟨?_,rfl⟩;unfold twoV;have i:(UInt8.ofNat (48+k / 10)).toNat=48+k / 10:=by simp;omega
  have j:(UInt8.ofNat (48+k%10)).toNat=48+k%10:=by simp;omega
  simp only [i,j];omega
 ·cases c
theorem wy {s:aa} (h:hasX s=false) {g:Nat} (d:g<100) (a:eI s g=true):1<=twoV s/\twoV s<=g/\s=two (twoV s):=by
 unfold eI at a;obtain ⟨i,hi,a⟩:=pD.1 a;have:=jP.1 hi;obtain ⟨b,c⟩:=G2 h (by omega) a;rw [b];exact ⟨by omega,by omega,c⟩
theorem Jk {s:aa} (h:hasX s=false) {g:Nat} (d:g<100) {k:Int} (a:k∈vM (fitN s g)):k=(twoV s:Int):=by
 obtain ⟨i,hi,rfl⟩:=dH.1 a;obtain ⟨b,c⟩:=lz.1 hi;have:=vt.1 b;rw [(G2 h (by omega) c).1]
theorem E2 {k:Nat} (c:k<100):Lib.atoi (two k)=some (k:Int):=by
 have a:(UInt8.ofNat (48+k / 10)).toNat=48+k / 10:=by simp;omega
 have b:(UInt8.ofNat (48+k%10)).toNat=48+k%10:=by simp;omega
 unfold two;rw [Di (by omega) (by omega),a,b];congr 2;omega
structure Exact (g l:Bool) (dg:aa) (x:Int) (m d:aa):Prop where
 ok:okY g l dg x 0
 num:hasX dg=false
 cal:dr (yOf g dg x)
 mon:m=[]\/(∃j,j<21/\m=two (21+j)/\(j=3\/j=7\/j=9->yOf g dg x≠10000000000000000))\/(sea m=0/\1<=twoV m/\twoV m<=12/\m=two (twoV m))
 day:d=[]\/(m≠[]/\sea m=0/\1<=twoV d/\twoV d<=31/\d=two (twoV d)/\(twoV d:Int)<=lenI (yOf g dg x) (twoV m:Int))
theorem LE {g l:Bool} {dg:aa} {x q:Int} {m d:aa} {k0 k1 k2:Int} (hc:chkF g l dg x q m d k0 k1 k2=0) (r:exD dg m d q=true):q=0/\Exact g l dg x m d:=by
 unfold exD at r;simp only [az,kN,ov,bA] at r;obtain ⟨⟨y,i,p⟩,rfl⟩:=r;refine ⟨rfl,?_⟩;have w:=lQ hc;obtain ⟨a,N,H,P,B⟩:=oI w;obtain ⟨f,I,c3,Q⟩:=HO w;have n:=Br a y;obtain ⟨F,_,_⟩:=HZ a;have hy:inP g dg x 0 (yOf g dg x):=by
  have:=(n _).1 F;have e:yOf g dg x=(sgn g (nK g dg x 0)).1:=by rw [this];rfl
  rw [e];exact F
 have s:=yn hy;refine ⟨a,y,s,?_,?_⟩
 ·by_cases k:m=[]
  ·exact .inl k
  ·right;rcases mB m with K | ⟨j,G,e⟩
   ·right;rcases I with h | h | h
    ·exact absurd h k
    ·omega
    ·obtain ⟨a1,a2,v⟩:=wy i (by omega) h;exact ⟨K,a1,a2,v⟩
   ·left;refine ⟨j,G,e,λO=>?_⟩;unfold yrD at f;rw [ae a] at f;unfold yrB at f;simp only [az,kN] at f;have C:wint (sea m)=true:=by
     rw [e,lL G];rcases O with rfl | rfl | rfl<;>rfl
    have o:=f.2;rw [C,rn] at o;unfold vT at o;rw [y] at o;intro b;unfold yOf at b;cases g with
    | true=>
     simp only [aI] at b;omega
    | false=>
     simp only [bE,aC] at b;have:val dg x.toNat=E16:=by unfold E16;omega
     rw [aw this] at o;cases o
 ·by_cases c:d=[]
  ·exact .inl c
  ·right;obtain ⟨k,hs⟩:=B c;rcases c3 with h | ⟨_,_,h⟩
   ·exact absurd h c
   ·obtain ⟨a1,a2,v⟩:=wy p (by omega) h;refine ⟨k,hs,a1,a2,v,?_⟩;have J:hasF g dg x m d:=by
     unfold chkF at hc;split at hc
     ·cases hc
     ·rename_i M;by_cases h:hasF g dg x m d
      ·exact h
      ·exact absurd ⟨w,c,h⟩ M
    obtain ⟨e,r,E⟩:=J;obtain ⟨z,L,A⟩:=List.exists_cons_of_ne_nil E;have A:z∈HY m d e:=by rw [A];exact kK
    obtain ⟨z1,z2,D,t⟩:=ER.1 A;have u:e=yOf g dg x:=(n e).1 r;unfold monI at z2;rw [ab k,ab (by omega)] at z2;unfold dayI at D;rw [ab c] at D;unfold uQ at t;rw [ab c,Jk p (by omega) D,Jk i (by omega) z2,u] at t;exact t
theorem Po {j:Nat} (a:j<21):∃f c:Nat,lX[j]?=some ((f:Int),(c:Int))/\1<=f/\f<=12/\1<=c/\c<=6/\(12<f+c - 1↔j=3\/j=7\/j=9)/\spF (two (21+j))=f/\spC (two (21+j))=c:=by
 obtain ⟨f,c,e,i,k,h,g,d⟩:=EY a;have hs:(sea (two (21+j)) - 21).toNat=j:=by rw [lL a];omega
 have b:lX.getD j (0,0)=((f:Int),(c:Int)):=by rw [Dv,e];rfl
 refine ⟨f,c,e,i,k,h,g,d,?_,?_⟩
 ·unfold spF;rw [hs,b];rfl
 ·unfold spC;rw [hs,b];rfl
theorem Ds (n:Nat) (g l:Bool) (dg:aa) (x q:Int) (m d:aa) (k0 k1 k2:Int) (b:m.length<=1000) (a:dg.length<=1000) (h:d.length<=1000):kz n g l dg x q m d k0 k1 k2=some (exD dg m d q):=by
 unfold kz exD;rw [AE n g l dg x q m d k0 k1 k2 b a h];simp only [ob];cases (hasX dg||(hasX m||hasX d))<;>rfl
theorem NV (n:Nat) (c:100<n) {y:Int} (h:dr y) {m k:Nat} (a:1<=m) (b:m<=12) (k1:1<=k) (k2:(k:Int)<=lenI y (m:Int)):pg n y (m:Int) (k:Int)=some (dayM y m+(k:Int) - 1,0):=by
 have d:=wG h (m:=m) (by omega);have e:=o5 y (m:Int);unfold pg nV;rw [GH n h a b];simp only [ob,eF,af];rw [ay (show ¬(k:Int)<1 by omega),ay (show ¬(k:Int)>lenI y (m:Int) by omega),rf n c h a b];simp only [ob,eF,af];rw [wrap_i64 (dayM y m+(k:Int)) (by omega) (by omega),wrap_i64 _ (by omega) (by omega)]
section
variable {g l:Bool} {dg:List UInt8} {x:Int} {m d:List UInt8} {k0 k1 k2:Int}
theorem BO (n:Nat) (u:100<n) (z:m.length<=18) (E:Exact g l dg x m d) (p r:Int) (v:m≠[]->p=if 0<sea m then sea m else (twoV m:Int)) (P:d≠[]->r=(twoV d:Int)):
  (ob (gZ n) λD=>(ob (aR n g l dg x 0 m d k0 k1 k2) λb=>(cond (b==0) (ob (fh n (yOf g dg x) ([p,r]:List (Int))) λa=>(some (a.1,a.2.1,a.2.2.1,a.2.2.2,(0:Int)))) (cond (b==1) (ob (fc n (yOf g dg x) ([p,r]:List (Int))) λk=>(some (k.1,k.2.1,k.2.2.1,k.2.2.2,0))) (cond (b==2) (ob (fm n (yOf g dg x) ([p,r]:List (Int))) λi=>(some (i.1,i.2.1,i.2.2.1,i.2.2.2,0))) (cond (b==3) (ob (fi n (yOf g dg x) ([p,r]:List (Int))) λo=>(some (o.1,o.2.1,o.2.2.1,o.2.2.2,0))) none)))))) =
   some (0,(sG g dg x m d).1,0,(sG g dg x m d).2,0):=by
 have H:gZ n=some ():=rfl;have A:ix ([p,r]:List Int).length 0=some 0:=rfl;have G:ix ([p,r]:List Int).length 1=some 1:=rfl;have g0:([p,r]:List Int)[0]?=some p:=rfl;have I:([p,r]:List Int)[1]?=some r:=rfl;rw [H,H4 n g l dg x 0 m d k0 k1 k2 z];unfold sG;by_cases t:d=[]
 ·rw [ae t];by_cases q:m=[]
  ·have hs:sea m=0:=by rw [q];decide
   rw [ab (show ¬0<sea m by omega),ae q,ae q];unfold fc;rw [pL n E.cal,zK n E.cal];rfl
  ·rw [ab q];by_cases hs:0<sea m
   ·rw [ae hs,ae hs];rcases E.mon with h | ⟨j,s,e,C⟩ | ⟨h,_⟩
    ·exact absurd h q
    ·obtain ⟨f,c,L,a1,a2,F,K,M,N,J⟩:=Po s;have y:p=((21+j:Nat):Int):=by rw [v q,ae hs,e,lL s]
     unfold fh;rw [A];simp only [ob,g0];rw [y,FH n u E.cal s L a1 a2 F K (λh=>C (M.1 h)),e,N,J];rfl
    ·omega
   ·rw [ab hs,ab hs,ab q,ae t];rcases E.mon with h | ⟨j,s,e,C⟩ | ⟨_,a1,a2,_⟩
    ·exact absurd h q
    ·rw [e,lL s] at hs;omega
    ·have y:p=(twoV m:Int):=by rw [v q,ab hs]
     unfold fm;rw [A];simp only [ob,g0];rw [y,rf n u E.cal a1 a2,Bv n u E.cal a1 a2];rfl
 ·rw [ab t];rcases E.day with h | ⟨q,hs,b1,b2,Q,O⟩
  ·exact absurd h t
  ·rw [ab q,ab (show ¬0<sea m by omega),ab t];rcases E.mon with h | ⟨j,s,e,C⟩ | ⟨_,a1,a2,_⟩
   ·exact absurd h q
   ·rw [e,lL s] at hs;omega
   ·have B:p=(twoV m:Int):=by rw [v q,ab (by omega)]
    have w:=P t;unfold fi;rw [A,G];simp only [ob,g0,I];rw [B,w,NV n u E.cal a1 a2 b1 O];rfl
theorem Lm (E:Exact g l dg x m d) (c:m≠[]):Lib.atoi m=some (if 0<sea m then sea m else (twoV m:Int)):=by
 rcases E.mon with h | ⟨j,a,e,_⟩ | ⟨f,a1,a2,b⟩
 ·exact absurd h c
 ·rw [e,lL a,ae (by omega)];exact vw a
 ·rw [ab (by omega)];have:=E2 (k:=twoV m) (by omega);rw [<-b] at this;exact this
theorem LN (E:Exact g l dg x m d) (a:d≠[]):Lib.atoi d=some (twoV d:Int):=by
 rcases E.day with h | ⟨_,_,a1,a2,b,_⟩
 ·exact absurd h a
 ·have:=E2 (k:=twoV d) (by omega);rw [<-b] at this;exact this
theorem xH:Lib.atoi []=none:=by kernel_rfl
theorem Cm {q:Int} (b:m.length<=18) (e:dg.length<=100) (t:d.length<=18) (k:0<=k0) (p:0<=k1) (r:0<=k2):
  cS 20000000 g l dg x q m d k0 k1 k2=some (if chkF g l dg x q m d k0 k1 k2=0 then (if exD dg m d q=true then (0,(sG g dg x m d).1,0,(sG g dg x m d).2,0) else (0,0,0,0,1)) else (0,0,0,0,chkF g l dg x q m d k0 k1 k2)):=by
 have s:Nat.ble m.length 18=true:=co b;have o:Nat.ble d.length 18=true:=co t;unfold cS;rw [tc b e k p r];simp only [ob];by_cases hc:chkF g l dg x q m d k0 k1 k2=0
 ·rw [ae hc,hc,Ds 20000000 g l dg x q m d k0 k1 k2 (by omega) (by omega) (by omega)];simp only [ob,eF,af];by_cases c:exD dg m d q=true
  ·rw [ae c,c];obtain ⟨rfl,E⟩:=LE hc c;have n:dB 20000000 g l dg x 0=some (yOf g dg x,0):=by
    rw [xM 20000000 g l dg x 0 (by omega) e,ae ⟨E.ok,E.num⟩];rfl
   rw [n,s,o];simp only [dc,af,aj,ob];by_cases i:m=[]
   ·have a:d=[]:=by
     rcases E.day with h | ⟨h,_⟩
     ·exact h
     ·exact absurd i h
    have:=BO (k0:=k0) (k1:=k1) (k2:=k2) 20000000 (by omega) b E 0 0 (λh=>absurd i h) (λh=>absurd a h);have f:Lib.atoi m=none:=by rw [i];exact xH
    have j:Lib.atoi d=none:=by rw [a];exact xH
    rw [f,j];simp only [opt];exact this
   ·have f:=Lm E i;by_cases a:d=[]
    ·have:=BO (k0:=k0) (k1:=k1) (k2:=k2) 20000000 (by omega) b E (if 0<sea m then sea m else (twoV m:Int)) 0 (λ_=>rfl) (λh=>absurd a h);have j:Lib.atoi d=none:=by rw [a];exact xH
     rw [f,j];simp only [opt];exact this
    ·have:=BO (k0:=k0) (k1:=k1) (k2:=k2) 20000000 (by omega) b E (if 0<sea m then sea m else (twoV m:Int)) (twoV d:Int) (λ_=>rfl) (λ_=>rfl);rw [f,LN E a];simp only [opt];exact this
  ·rw [ab c];rw [Eg] at c;rw [c];rfl
 ·rw [ab hc,bne0 hc];rfl
end
def MG (g l:Bool) (dg:aa) (x q:Int) (m d:aa) (k0 k1 k2:Int):Bool:=
 (((g==false)&&((l==false)&&((dg==([]:aa))&&((x==0)&&((q==0)&&true)))))&&((m==([]:aa))&&((d==([]:aa))&&(((k0==0)&&((k1==0)&&((k2==0)&&true)))&&true))))
noncomputable def chkB (K:Int) (g l:Bool) (dg:aa) (x q:Int) (m d:aa) (k0 k1 k2:Int):Int:=
 if K=1 then (if chkF g l dg x q m d k0 k1 k2=0 then (if exD dg m d q=true then 0 else 11) else chkF g l dg x q m d k0 k1 k2) else if K=2\/K=3 then (if MG g l dg x q m d k0 k1 k2=true then 0 else 5) else 18
def IZ (a c b d lo hi:Int):Int:=if a≠0 then a else if c≠0 then c else if b≠1/\d≠1 then 11 else if b≠1\/d≠1 then 0 else if lo>hi then 11 else 0
section
variable {K:Int} {g l:Bool} {dg:List UInt8} {x q:Int} {m d:List UInt8} {k0 k1 k2:Int} (hml:m.length<=18) (hdl:dg.length<=100) (hd18:d.length<=18) (h0:0<=k0) (h1:0<=k1) (h2:0<=k2)
include hml hdl hd18 h0 h1 h2
theorem sP:fR 20000000 K g l dg x q m d k0 k1 k2=some (chkB K g l dg x q m d k0 k1 k2):=by
 unfold fR chkB;rw [tc hml hdl h0 h1 h2,Ds 20000000 g l dg x q m d k0 k1 k2 (by omega) (by omega) (by omega)];simp only [ob];by_cases a:K=1
 ·subst a;rw [ae rfl];simp only [BEq.rfl,aj];by_cases hc:chkF g l dg x q m d k0 k1 k2=0
  ·rw [ae hc,hc];by_cases c:exD dg m d q=true
   ·rw [ae c,c];rfl
   ·rw [ab c];rw [Eg] at c;rw [c];rfl
  ·rw [ab hc,bne0 hc];rfl
 ·rw [ab a,br.2 a];simp only [af];have f:(!(((g==false)&&((l==false)&&((dg==([]:aa))&&((x==0)&&((q==0)&&true)))))&&((m==([]:aa))&&((d==([]:aa))&&(((k0==0)&&((k1==0)&&((k2==0)&&true)))&&true)))))=!(MG g l dg x q m d k0 k1 k2):=rfl;rw [f];by_cases e:K=2
  ·subst e;rw [ae (.inl rfl)];cases MG g l dg x q m d k0 k1 k2<;>rfl
  ·rw [br.2 e];by_cases b:K=3
   ·subst b;rw [ae (.inr rfl)];cases MG g l dg x q m d k0 k1 k2<;>rfl
   ·rw [br.2 b,ab (by omega)];rfl
theorem OJ:gV 20000000 K g l dg x q m d k0 k1 k2=some (if chkB K g l dg x q m d k0 k1 k2=0 then (if K=2 then [46,46] else if K=3 then [] else pW g l dg x q m d k0.toNat k1.toNat k2.toNat,0) else ([],chkB K g l dg x q m d k0 k1 k2)):=by
 unfold gV;rw [sP hml hdl hd18 h0 h1 h2];simp only [ob];by_cases hc:chkB K g l dg x q m d k0 k1 k2=0
 ·rw [ae hc,hc];simp only [eF,af];by_cases b:K=2
  ·subst b;rfl
  ·rw [br.2 b,ab b];by_cases a:K=3
   ·subst a;rfl
   ·rw [br.2 a,ab a];have k1':K=1:=by
     unfold chkB at hc;by_cases h:K=1
     ·exact h
     ·rw [ab h,ab (by omega)] at hc;cases hc
    have e:chkF g l dg x q m d k0 k1 k2=0:=by
     unfold chkB at hc;rw [ae k1'] at hc;by_cases h:chkF g l dg x q m d k0 k1 k2=0
     ·exact h
     ·rw [ab h] at hc;exact absurd hc h
    have c:bR 20000000 g l dg x q m d k0 k1 k2=_:=EE 19999700 g l dg x q m d k0 k1 k2 hml hdl h0 h1 h2;rw [c,ae (lQ e)];rfl
 ·rw [ab hc,bne0 hc];rfl
theorem EB (hc:chkB K g l dg x q m d k0 k1 k2=0) (b:K=1):chkF g l dg x q m d k0 k1 k2=0/\exD dg m d q=true:=by
 have c:=And.intro hml (And.intro hdl (And.intro hd18 (And.intro h0 (And.intro h1 h2))));unfold chkB at hc;rw [ae b] at hc;by_cases h:chkF g l dg x q m d k0 k1 k2=0
 ·rw [ae h] at hc;by_cases a:exD dg m d q=true
  ·exact ⟨h,a⟩
  ·rw [ab a] at hc;cases hc
 ·rw [ab h] at hc;exact absurd hc h
end
theorem TK (n:Nat) (a b:Int):ii n a b=some (if a<b then -1 else if a>b then 1 else 0):=by
 unfold ii jl;simp only [ob,eF,af];by_cases h:a<b
 ·rw [aw h,ae h];rfl
 ·rw [ay h,ab h];by_cases c:a>b
  ·rw [aw c,ae c];rfl
  ·rw [ay c,ab c];rfl
theorem Ey (a b:Int):∃r,iZ 20000000 0 a 0 b=some r/\decide (r>0)=decide (a>b):=by
 have e:kH 20000000 0 0=some 0:=rfl;have o1:mU 20000000 [0,-1]=some (-1):=by kernel_rfl
 have d:mU 20000000 [0,1]=some 1:=by kernel_rfl
 have f:mU 20000000 [0,0]=some 0:=by kernel_rfl
 unfold iZ;rw [e,TK];simp only [ob];by_cases h:a<b
 ·rw [ae h,o1];exact ⟨_,rfl,by rw [ay (show ¬a>b by omega)];rfl⟩
 ·rw [ab h];by_cases c:a>b
  ·rw [ae c,d];exact ⟨_,rfl,by rw [aw c];rfl⟩
  ·rw [ab c,f];exact ⟨_,rfl,by rw [ay c];rfl⟩
theorem bne1 {K:Int} (h:K≠1):(K != 1)=true:=by simp [h]
section
variable {K:Int} {g l:Bool} {dg:List UInt8} {x q:Int} {m d:List UInt8} {k0 k1 k2:Int} {K':Int} {g' l':Bool} {dg':List UInt8} {x' q':Int} {m' d':List UInt8} {p0 p1 p2:Int} (hml:m.length<=18) (hdl:dg.length<=100) (hd18:d.length<=18) (h0:0<=k0) (h1:0<=k1) (h2:0<=k2) (hml':m'.length<=18) (hdl':dg'.length<=100) (hd18':d'.length<=18) (h0':0<=p0) (h1':0<=p1) (h2':0<=p2)
include hml hdl hd18 h0 h1 h2 hml' hdl' hd18' h0' h1' h2'
theorem OY:gn 20000000 K g l dg x q m d k0 k1 k2 K' g' l' dg' x' q' m' d' p0 p1 p2=some (IZ (chkB K g l dg x q m d k0 k1 k2) (chkB K' g' l' dg' x' q' m' d' p0 p1 p2) K K' (sG g dg x m d).1 (sG g' dg' x' m' d').2):=by
 unfold gn IZ;rw [sP hml hdl hd18 h0 h1 h2,sP hml' hdl' hd18' h0' h1' h2'];simp only [ob];by_cases b:chkB K g l dg x q m d k0 k1 k2=0
 ·rw [ab (by omega),b];by_cases c:chkB K' g' l' dg' x' q' m' d' p0 p1 p2=0
  ·rw [ab (by omega),c];simp only [eF,af];by_cases e:K=1
   ·rw [show (K != 1)=false by rw [e];rfl];simp only [af];by_cases a:K'=1
    ·rw [show (K' != 1)=false by rw [a];rfl,ab (by omega),ab (by omega)];simp only [af];obtain ⟨j,o⟩:=EB hml hdl hd18 h0 h1 h2 b e;obtain ⟨i,k⟩:=EB hml' hdl' hd18' h0' h1' h2' c a;rw [Cm hml hdl hd18 h0 h1 h2,Cm hml' hdl' hd18' h0' h1' h2',ae j,ae o,ae i,ae k];simp only [ob];obtain ⟨r,f,n⟩:=Ey (sG g dg x m d).1 (sG g' dg' x' m' d').2;rw [f];simp only [n];by_cases h:(sG g dg x m d).1>(sG g' dg' x' m' d').2
     ·rw [aw h,ae h];rfl
     ·rw [ay h,ab h];rfl
    ·rw [bne1 a,ab (by omega),ae (by omega)];rfl
   ·rw [bne1 e];by_cases a:K'=1
    ·rw [show (K' != 1)=false by rw [a];rfl,ab (by omega),ae (by omega)];rfl
    ·rw [bne1 a,ae (by omega)];rfl
  ·rw [ae c,bne0 c];rfl
 ·rw [ae b,bne0 b];rfl
end
def plR (r:DR):Nat:=r.2.2.2.2.2.2.2.2.1.1
def enR (r:DR):Nat:=r.2.2.2.2.2.2.2.2.2
theorem F6 {l:aa} {b:UInt8} (h:l.take 2=[b,b]):∃r,l=b::b::r:=by
 match l,h with
 | a::c::r,h=>simp at h;exact ⟨r,by rw [h.1,h.2]⟩
theorem Em {S:aa} {a:Nat} (h:a<=S.length) {r:DR} (b:di S a=.inr r):pq S a=.inr r/\chkR r=0:=by
 unfold di at b;cases c:pq S a with
 | inl k=>rw [c] at b;cases b
 | inr d=>
  rw [c] at b;simp only [] at b;by_cases hc:chkR d=0
  ·rw [ae hc] at b;obtain rfl:=rF b;exact ⟨rfl,hc⟩
  ·rw [ab hc] at b;cases b
theorem uH {S:aa} {a:Nat} (h:a<=S.length) {k E p:Nat} (b:di S a=.inl (k,E,p)):E≠0:=by
 unfold di at b;cases c:pq S a with
 | inl k'=>rw [c] at b;simp only [] at b;have:=Sum.inl.inj b;simp at this;omega
 | inr d=>
  rw [c] at b;simp only [] at b;by_cases hc:chkR d=0
  ·rw [ae hc] at b;cases b
  ·rw [ab hc] at b;have:=Sum.inl.inj b;simp at this;omega
def smT (x:TD):Prop:=x.2.2.2.2.2.1.length<=18/\x.2.2.1.length<=100/\x.2.2.2.2.2.2.1.length<=18/\0<=x.2.2.2.2.2.2.2.1/\0<=x.2.2.2.2.2.2.2.2.1/\0<=x.2.2.2.2.2.2.2.2.2
noncomputable def cF (x:TD):Int:=chkF x.1 x.2.1 x.2.2.1 x.2.2.2.1 x.2.2.2.2.1 x.2.2.2.2.2.1 x.2.2.2.2.2.2.1 x.2.2.2.2.2.2.2.1 x.2.2.2.2.2.2.2.2.1 x.2.2.2.2.2.2.2.2.2
def exT (x:TD):Bool:=exD x.2.2.1 x.2.2.2.2.2.1 x.2.2.2.2.2.2.1 x.2.2.2.2.1
def dyT (x:TD):Int×Int:=sG x.1 x.2.2.1 x.2.2.2.1 x.2.2.2.2.2.1 x.2.2.2.2.2.2.1
def seT (x:TD):Int:=sea x.2.2.2.2.2.1
def coT (x:TD):Nat:=bp x.2.2.2.2.2.1 x.2.2.2.2.2.2.1
noncomputable def plT (x:TD):Bool:=decide (cF x=0)&&(exT x&&!decide (0<seT x))
theorem l8:smT d0:=by unfold smT;simp
theorem fcT {x:TD} (h:smT x):ap10 (aW 20000000) x=some (cF x):=tc h.1 h.2.1 h.2.2.2.1 h.2.2.2.2.1 h.2.2.2.2.2
theorem fpT {x:TD} (h:smT x):ap10 (aR 20000000) x=some (if x.2.2.2.2.2.2.1=[] then (if 0<seT x then 0 else if x.2.2.2.2.2.1=[] then 1 else 2) else 3):=H4 20000000 _ _ _ _ _ _ _ _ _ _ h.1
theorem fmT {x:TD} (h:smT x):ap10 (ct 20000000) x=some (hasX x.2.2.1||(hasX x.2.2.2.2.2.1||hasX x.2.2.2.2.2.2.1)):=by
 obtain ⟨a,b,c,_⟩:=h;exact AE 20000000 _ _ _ _ _ _ _ _ _ _ (by omega) (by omega) (by omega)
theorem fdT {x:TD} (h:smT x):ap10 (cS 20000000) x=some (if cF x=0 then (if exT x=true then (0,(dyT x).1,0,(dyT x).2,0) else (0,0,0,0,1)) else (0,0,0,0,cF x)):=Cm h.1 h.2.1 h.2.2.1 h.2.2.2.1 h.2.2.2.2.1 h.2.2.2.2.2
theorem va {x:TD} (hc:cF x=0):(x.2.2.2.2.2.1=[]\/x.2.2.2.2.2.1.length=2)/\(x.2.2.2.2.2.2.1=[]\/x.2.2.2.2.2.2.1.length=2)/\(x.2.2.2.2.2.2.1≠[]->x.2.2.2.2.2.1≠[]/\seT x=0):=by
 obtain ⟨_,a,b,_,c⟩:=oI (lQ hc);exact ⟨a,b,c⟩
theorem lC {x y:TD}:eqD x y=true↔x=y:=by
 obtain ⟨a1,a2,h,m,n,i,p,e,k,b⟩:=x;obtain ⟨b1,b2,l,g,f,d,j,o,c,a⟩:=y;simp [and_assoc]
theorem Ec {x:TD} (h:smT x):lu 20000000 x=some (exT x):=by
 unfold lu;rw [fmT h];simp only [ob,exT,exD];cases (hasX x.2.2.1||(hasX x.2.2.2.2.2.1||hasX x.2.2.2.2.2.2.1))<;>rfl
theorem xx {x:TD} (h:smT x):jV 20000000 x=some (plT x):=by
 unfold jV plT;rw [fcT h,Ec h,fpT h];simp only [ob];by_cases hc:cF x=0
 ·rw [hc];cases d:exT x
  ·rfl
  ·show some ((if _ then _ else _) != (0:Int))=some (true&&(true&&!decide (0<seT x)));obtain ⟨_,_,c⟩:=va hc;by_cases a:x.2.2.2.2.2.2.1=[]
   ·rw [ae a];by_cases hs:0<seT x
    ·rw [ae hs,aw hs];rfl
    ·rw [ab hs,ay hs];by_cases b:x.2.2.2.2.2.1=[]
     ·rw [ae b];rfl
     ·rw [ab b];rfl
   ·rw [ab a,(c a).2];rfl
 ·rw [ay hc,show (cF x==0)=false from by simp [hc]];rfl
theorem HT {x:TD}:plT x=true↔cF x=0/\exT x=true/\¬0<seT x:=by
 unfold plT;simp [and_assoc]
noncomputable def ordB (x y:TD):Bool:=(plT x&&plT y)&&(decide (coT x=coT y)&&decide ((dyT x).1<=(dyT y).1))
theorem xe {x:TD} (hc:cF x=0) (hs:¬0<seT x):(if x.2.2.2.2.2.2.1=[] then (if 0<seT x then (0:Int) else if x.2.2.2.2.2.1=[] then 1 else 2) else 3)=((coT x:Nat):Int):=by
 obtain ⟨_,_,c⟩:=va hc;unfold coT bp;by_cases a:x.2.2.2.2.2.2.1=[]
 ·rw [ae a,ab hs];by_cases b:x.2.2.2.2.2.1=[]
  ·simp [b,a]
  ·simp [b,a]
 ·have b:=(c a).1;simp [a,b]
theorem Gp {x y:TD} (hx:smT x) (hy:smT y):k9 20000000 x y=some (ordB x y):=by
 unfold k9 ordB;rw [xx hx,xx hy];cases i:plT x
 ·rfl
 cases h:plT y
 ·rfl
 obtain ⟨c,m,j⟩:=HT.1 i;obtain ⟨d,f,k⟩:=HT.1 h;rw [fpT hx,fpT hy,fdT hx,fdT hy,xe c j,xe d k,ae c,ae d,ae m,ae f];simp only [ob,u5,u4,u3,u2,dc,af,Bool.and_self,rn];by_cases a:coT x=coT y
 ·rw [a,aw rfl];obtain ⟨r,g,l⟩:=Ey (dyT x).1 (dyT y).1;simp only [eF,af,g,rn];refine ck some ?_;have:decide (r<=0)=!decide (r>0):=by
   by_cases b:r<=0
   ·rw [aw b,ay (by omega)];rfl
   ·rw [ay b,aw (by omega)];rfl
  rw [this,l];by_cases e:(dyT x).1<=(dyT y).1
  ·rw [aw e,ay (by omega)];rfl
  ·rw [ay e,aw (by omega)];rfl
 ·have:(((coT x:Nat):Int) != ((coT y:Nat):Int))=true:=by simp;omega
  rw [this,ay a];rfl
noncomputable def itE (x:TD) (r:Bool) (y:TD) (all:Bool):Int:=
 if cF x≠0 then cF x else if r=true/\cF y≠0 then cF y else if r=false/\eqD y d0=false then 5 else if r=true/\ordB x y=false then 10 else if all=true/\exT x=false then 10 else 0
theorem zR {x y:TD} (r:Bool) (hx:smT x) (hy:smT y) (K:Int) (hc:cF x=0) (a:¬(r=true/\cF y≠0)):dA 20000000 5 10 10 x r y K=some (itE x r y (K==4)):=by
 unfold dA nW n7 oH itE;rw [Gp hx hy,Ec hx,ab (by simpa using hc),ab a];cases r
 ·generalize eqD y d0=z;cases z
  ·rfl
  ·cases (K==4)
   ·rfl
   ·cases exT x<;>rfl
 ·simp only [ob,dc,af,aj,reduceCtorEq,false_and,aC,jD];cases ordB x y
  ·rfl
  ·simp only [dc,af,Bool.true_eq_false,aC];cases (K==4)
   ·rfl
   ·cases exT x<;>rfl
theorem BJ {x y:TD} (r:Bool) (hx:smT x) (hy:smT y) (K:Int):eM 20000000 x r y K=some (if K=3\/K=4 then itE x r y (K==4) else 18):=by
 have b:(ob (ap10 (aW 20000000) x) λd=>(cond (d != 0) (some d) (cond r (ob (ap10 (aW 20000000) y) λc=>(cond (c != 0) (some c) (ob (dA 20000000 5 10 10 x r y K) λh=>(some h)))) (ob (dA 20000000 5 10 10 x r y K) λg=>(some g)))))=some (itE x r y (K==4)):=by
  rw [fcT hx];simp only [ob];by_cases hc:cF x=0
  ·rw [show (cF x != 0)=false from by simp [hc],af];cases r
   ·rw [zR false hx hy K hc (by simp)];rfl
   ·rw [aj,fcT hy];simp only;by_cases a:cF y=0
    ·rw [show (cF y != 0)=false from by simp [a],af,zR true hx hy K hc (by simp [a])]
    ·rw [show (cF y != 0)=true from by simp [a],aj];unfold itE;rw [ab (by simpa using hc),ae ⟨rfl,a⟩]
  ·rw [show (cF x != 0)=true from by simp [hc],aj];unfold itE;rw [ae hc]
 unfold eM;by_cases f:K=3
 ·subst f;exact b.trans (by rfl)
 ·rw [show (K != 3)=true from by simp [f],aj];by_cases e:K=4
  ·subst e;exact b.trans (by rfl)
  ·rw [show (K != 4)=true from by simp [e],aj,ab (by omega)]
theorem SX {x y:TD} {r all:Bool} (h:cF x≠0):itE x r y all=cF x:=ae h
theorem RG {x y:TD} {all:Bool} (hc:cF x=0) (h:cF y≠0):itE x true y all=cF y:=by
 unfold itE;rw [ab (λh=>h hc),ae ⟨rfl,h⟩]
theorem S7 {x y:TD} {all:Bool} (hc:cF x=0):itE x false y all=if eqD y d0=false then 5 else if all=true/\exT x=false then 10 else 0:=by
 have a:(false=true/\cF y≠0)↔False:=by simp
 have b:(false=true/\ordB x y=false)↔False:=by simp
 have c:(false=false/\eqD y d0=false)↔eqD y d0=false:=by simp
 unfold itE;rw [ab (λh=>h hc)];simp only [a,b,aC,jD]
theorem Tj {x y:TD} {all:Bool} (hc:cF x=0) (hy:cF y=0):itE x true y all=if ordB x y=false then 10 else if all=true/\exT x=false then 10 else 0:=by
 have b:(true=true/\ordB x y=false)↔ordB x y=false:=by simp
 have a:(true=false/\eqD y d0=false)↔False:=by simp
 unfold itE;rw [ab (λh=>h hc),ab (λh=>h.2 hy)];simp only [a,aC,jD]
def rI {A:Type} (f:Nat->A->Int):Nat->List A->Option (Nat×Int)
 | _,[]=>none
 | i,t::r=>if f i t≠0 then some (i,f i t) else rI f (i+1) r
theorem Gl {A X Y:Type} {step:X->Option (X⊕Y)} {st:Nat->X} {L:List A} {f:Nat->A->Int} {yes:Nat->Int->Y} {no:Y}
  (e:∀i t,L[i]?=some t->step (st i)=some (if f i t≠0 then .inr (yes i (f i t)) else .inl (st (i+1)))) (g:step (st L.length)=some (.inr no)):
  ∀(r i:Nat),i+r=L.length->∀N,r<N->au step N (st i)=some (match rI f i (L.drop i) with | some p=>yes p.1 p.2 | none=>no):=by
 intro r
 induction r with
 | zero=>
  intro i hi N d;obtain ⟨N,rfl⟩:∃k,N=k+1:=⟨N - 1,by omega⟩;rw [au,show i=L.length by omega,g,zM];rfl
 | succ r ih=>
  intro i hi N d;obtain ⟨N,rfl⟩:∃k,N=k+1:=⟨N - 1,by omega⟩;have a:i<L.length:=by omega
  have c:L[i]?=some L[i]:=bG a;rw [au,e i _ c,wZ a,rI];by_cases b:f i L[i]≠0
  ·rw [ae b,ae b]
  ·rw [ab b,ab b];exact ih (i+1) (by omega) N (by omega)
abbrev rT (t:TI):Bool:=(d8 t).2.2.1
abbrev iT (t:TI):TD:=(d8 t).2.2.2
def smI (t:TI):Prop:=smT (iF t)/\smT (iT t)
noncomputable def itI (t:TI) (all:Bool):Int:=itE (iF t) (rT t) (iT t) all
noncomputable def endB (t:TI):Bool:=!rT t&&plT (iF t)
noncomputable def errI (K:Int) (e l:Bool) (n i:Nat) (t:TI):Int:=
 if itI t (K==4)≠0 then itI t (K==4) else if (e&&decide (i=0))&&!endB t||((l&&decide (i+1=n))&&!endB t||(e&&(l&&decide (n=1)))) then 10 else 0
noncomputable def xh (K:Int) (e l:Bool) (L:List TI):Int×Int:=match rI (errI K e l L.length) 0 L with
 | some p=>((p.1:Int),p.2)
 | none=>(0,0)
theorem yo {i:Nat} (h:i<9223372036854775807):w64 ((i:Int)+1)=((i+1:Nat):Int):=by
 show IntKind.wrap .i64 _=_;rw [wrap_i64 _ (by omega) (by omega)];omega
theorem Pm {i:Nat} (a:0<i) (h:i<9223372036854775807):w64 ((i:Int) - 1)=((i - 1:Nat):Int):=by
 show IntKind.wrap .i64 _=_;rw [wrap_i64 _ (by omega) (by omega)];omega
theorem natB (a b:Nat):(((a:Nat):Int)==((b:Nat):Int))=decide (a=b):=by
 by_cases h:a=b
 ·subst h;simp
 ·rw [ay h];simp;omega
theorem OL (a:Nat):(((a:Nat):Int)==0)=decide (a=0):=natB a 0
theorem Ss {x y:TD} (r:Bool) (hx:smT x):lJ 20000000 x r y=some (!r&&plT x):=by
 unfold lJ;rw [xx hx];cases r<;>rfl
theorem HW {K:Int} (k:K=3\/K=4) {e l:Bool} {L:List TI} {i:Nat} {t:TI} (hi:L[i]?=some t) (hs:smI t) (o:L.length<=1000000) (D:TD) (KF:Int) (DF:TD) (KT:Int) (DT:TD):
  fa 20000000 (itI t (K==4)) 10 10 10 (iF t) (rT t) (iT t) K D KF DF KT DT e l (i:Int) (w64 (len L - 1)) L=some (errI K e l L.length i t):=by
 have n:i<L.length:=(vI.1 hi).1;have d:w64 (len L - 1)=((L.length - 1:Nat):Int):=Pm (by omega) (by omega);have g:eM 20000000 (iF t) (rT t) (iT t) K=some (itI t (K==4)):=by
  rw [BJ _ hs.1 hs.2,ae k];rfl
 unfold fa mX mZ nc ny errI;rw [g,d];simp only [Ss (rT t) hs.1,ob,OL,natB];have m:decide (i=L.length - 1)=decide (i+1=L.length):=by congr 1;exact propext (by omega)
 have j:decide (L.length - 1=0)=decide (L.length=1):=by congr 1;exact propext (by omega)
 rw [m,j];show cond (itI t (K==4) != 0) _ _=_;by_cases f:itI t (K==4)=0
 ·rw [ab (λh=>h f),show (itI t (K==4) != 0)=false from by simp [f],af];show _=some (if ((e&&decide (i=0))&&!endB t||((l&&decide (i+1=L.length))&&!endB t||(e&&(l&&decide (L.length=1)))))=true then 10 else 0);unfold endB;generalize (!rT t&&plT (iF t))=z;generalize decide (i=0)=a;generalize decide (i+1=L.length)=b;generalize decide (L.length=1)=c;cases e<;>cases l<;>cases z<;>cases a<;>cases b<;>cases c<;>rfl
 ·rw [ae f,show (itI t (K==4) != 0)=true from by simp [f],aj]
theorem MJ {K:Int} (g:K=3\/K=4) {e l:Bool} {L:List TI} (hs:∀t∈L,smI t) (j:L.length<=1000000) (D:TD) (KF:Int) (DF:TD) (KT:Int) (DT:TD):
  jF 20000000 K D KF DF KT DT e l L=some (xh K e l L):=by
 have:=Gl (step:=ee 20000000) (st:=λi=>(len L,(i:Int),L,K,D,KF,DF,KT,DT,e,l,w64 (len L - 1))) (L:=L) (f:=errI K e l L.length) (yes:=λi q=>.inl ((i:Int),q)) (no:=.inr ())
  (λi t hi=>by
   have d:i<L.length:=(vI.1 hi).1;have a:=hs t (fY hi);have c:eM 20000000 (iF t) (rT t) (iT t) K=some (itI t (K==4)):=by
    rw [BJ _ a.1 a.2,ae g];rfl
   unfold ee;simp only [u12,u11,u10,u9,u8,u7,u6,u5,u4,u3,u2];rw [aw (show (i:Int)<len L by unfold len;omega),eY d];simp only [aj,ob,hi];rw [show eM 20000000 (iF t) (d8 t).2.2.1 (d8 t).2.2.2 K=some (itI t (K==4)) from c];simp only;rw [show fa 20000000 (itI t (K==4)) 10 10 10 (iF t) (d8 t).2.2.1 (d8 t).2.2.2 K D KF DF KT DT e l (i:Int) (w64 (len L - 1)) L=some (errI K e l L.length i t) from HW g hi a j D KF DF KT DT];simp only;rw [yo (by omega)];by_cases b:errI K e l L.length i t=0
   ·rw [ab (λh=>h b),show (errI K e l L.length i t != 0)=false from by simp [b]];rfl
   ·rw [ae b,show (errI K e l L.length i t != 0)=true from by simp [b]];rfl)
  (by
   unfold ee;simp only [u12,u11,u10,u9,u8,u7,u6,u5,u4,u3,u2];rw [ay (show ¬((L.length:Nat):Int)<len L by unfold len;omega)];rfl)
  L.length 0 (by omega) 20000000 (by omega)
 unfold jF xh;rw [cH] at this;show obs (au (ee 20000000) 20000000 (len L,((0:Nat):Int),L,K,D,KF,DF,KT,DT,e,l,w64 (len L - 1))) _ _=_;rw [this];cases rI (errI K e l L.length) 0 L<;>rfl
noncomputable def pt (K:Int) (x:TD):Int:=chkB K x.1 x.2.1 x.2.2.1 x.2.2.2.1 x.2.2.2.2.1 x.2.2.2.2.2.1 x.2.2.2.2.2.2.1 x.2.2.2.2.2.2.2.1 x.2.2.2.2.2.2.2.2.1 x.2.2.2.2.2.2.2.2.2
noncomputable def nS (K:Int) (x:TD) (a:Int) (y:TD):Int:=IZ (pt K x) (pt a y) K a (dyT x).1 (dyT y).2
theorem iO9 {x y:TD} (hx:smT x) (hy:smT y) (K a:Int):ap10 (ap10 (gn 20000000 K) x a) y=some (nS K x a y):=
 OY hx.1 hx.2.1 hx.2.2.1 hx.2.2.2.1 hx.2.2.2.2.1 hx.2.2.2.2.2 hy.1 hy.2.1 hy.2.2.1 hy.2.2.2.1 hy.2.2.2.2.1 hy.2.2.2.2.2
def unuB (K:Int) (D:TD) (KF:Int) (DF:TD) (KT:Int) (DT:TD) (e l:Bool) (n:Nat):Bool:=
 !(K==1||eqD D d0)||(!(K==2||((KF==0)&&((eqD DF d0)&&true))&&((KT==0)&&((eqD DT d0)&&true)))||!(K==3||(K==4||(decide (n=0)&&(!e&&!l)))))
theorem JM (n:Nat) (K:Int) (D:TD) (KF:Int) (DF:TD) (KT:Int) (DT:TD) (e l:Bool) (L:List TI):
  kC n K D KF DF KT DT e l L=some (unuB K D KF DF KT DT e l L.length):=by
 unfold kC unuB;rw [show (len L==0)=decide (L.length=0) from OL _];generalize eqD D d0=a;generalize ((KF==0)&&((eqD DF d0)&&true))=z1;generalize ((KT==0)&&((eqD DT d0)&&true))=z2;generalize decide (L.length=0)=b;generalize (K==1)=k1;generalize (K==2)=k2;generalize (K==3)=c;generalize (K==4)=k4;revert a z1 z2 b k1 k2 c k4 e l;decide +kernel
noncomputable def gv (K:Int) (D:TD) (KF:Int) (DF:TD) (KT:Int) (DT:TD) (e l:Bool) (L:List TI):Int×Int:=
 if K<1\/4<K then (0,18) else if unuB K D KF DF KT DT e l L.length=true then (0,5) else if K=1 then (0,cF D) else if K=2 then (0,nS KF DF KT DT) else if L.length=0 then (0,17) else if 256<L.length then (0,3) else xh K e l L
def smE (D DF DT:TD) (L:List TI):Prop:=smT D/\smT DF/\smT DT/\∀t∈L,smI t
theorem Dh {K:Int} {D:TD} {KF:Int} {DF:TD} {KT:Int} {DT:TD} {e l:Bool} {L:List TI} (h:smE D DF DT L):
  jE 20000000 K D KF DF KT DT e l L=some (gv K D KF DF KT DT e l L):=by
 obtain ⟨f,j,i,g⟩:=h;unfold jE gv;by_cases a:K<1
 ·rw [aw a,ae (.inl a)];rfl
 by_cases c:4<K
 ·rw [ay a,show decide (K>4)=true from aw c,ae (.inr c)];rfl
 rw [ay a,show decide (K>4)=false from ay c,ab (by omega),JM];simp only [af,ob];cases unuB K D KF DF KT DT e l L.length
 ·simp only [af,bE,aC];by_cases k1:K=1
  ·rw [ae k1,show (K==1)=true from by simp [k1],fcT f];rfl
  by_cases k2:K=2
  ·rw [ab k1,ae k2,show (K==1)=false from by simp [k1],show (K==2)=true from by simp [k2],iO9 j i];rfl
  rw [ab k1,ab k2,show (K==1)=false from by simp [k1],show (K==2)=false from by simp [k2]];simp only [af];rw [show (len L==0)=decide (L.length=0) from OL _];by_cases b:L.length=0
  ·rw [aw b,ae b];rfl
  rw [ay b,ab b];by_cases d:256<L.length
  ·rw [show decide (len L>256)=true from aw (by show (256:Int)<((L.length:Nat):Int);omega),ae d];rfl
  rw [show decide (len L>256)=false from ay (by show ¬(256:Int)<((L.length:Nat):Int);omega),ab d,MJ (by omega) g (by omega)];rfl
 ·rfl
theorem E8 {K:Int} {D:TD} {KF:Int} {DF:TD} {KT:Int} {DT:TD} {e l:Bool} {L:List TI} (h:smE D DF DT L):
  fq 20000000 K D KF DF KT DT e l L=some (gv K D KF DF KT DT e l L).2:=by
 unfold fq;rw [Dh h];rfl
def natI (x:Int) (b:Nat):Prop:=0<=x/\x<(b:Int)
def wfD (a0 a2 c e f g b a d:Int):Prop:=natI a0 256/\natI a2 65536/\natI c 256/\natI e 256/\natI f 256/\natI g 256/\natI b 256/\natI a 256/\natI d 256
theorem natI.nat {x:Int} {b:Nat} (h:natI x b):∃n:Nat,x=(n:Int)/\n<b:=⟨x.toNat,by have:=h.1;omega,by have:=h.1;have:=h.2;omega⟩
theorem DofI {a0 a2 a f j k b i c:Int} (g:Bool) (h:wfD a0 a2 a f j k b i c):∃x:TD,fK 20000000 a0 g a2 a f j k b i c=some x/\smT x/\cF x=0:=by
 obtain ⟨r,H,G,u,s,I,v,w,z⟩:=h;obtain ⟨a0,rfl,b0⟩:=r.nat;obtain ⟨a2,rfl,b2⟩:=H.nat;obtain ⟨a,rfl,A⟩:=G.nat;obtain ⟨f,rfl,D⟩:=u.nat;obtain ⟨j,rfl,p⟩:=s.nat;obtain ⟨k,rfl,C⟩:=I.nat;obtain ⟨b,rfl,F⟩:=v.nat;obtain ⟨i,rfl,K⟩:=w.nat;obtain ⟨c,rfl,y⟩:=z.nat;obtain ⟨L,l,dg,x,q,B,d,k0,k1,k2,e,hc,t,J⟩:=Ru 19999700 a0 a2 a f j k b i c g b2 A D p C F K y;obtain ⟨o,n,m,_⟩:=oI hc;obtain ⟨_,_,_,_,_,E⟩:=je o;refine ⟨_,e,⟨?_,by show dg.length<=100;omega,?_,by simp,by simp,by simp⟩,Md hc J⟩
 ·rcases n with h | h
  ·rw [h];simp
  ·show B.length<=18;omega
 ·rcases m with h | h
  ·rw [h];simp
  ·show d.length<=18;omega
structure RightE (k:Int) (D:TD) (KF:Int) (DF:TD) (KT:Int) (DT:TD) (e l:Bool) (I:List TI):Prop where
 sm:smE D DF DT I
 first:gv k D KF DF KT DT e l I=(0,0)
 len:I.length<=5
 kind:1<=k/\k<=4
 its:∀t∈I,itI t (k==4)=0
theorem ze {x:TD} (hs:smT x) (hc:cF x=0):RightE 1 x 0 d0 0 d0 false false []:=by
 refine ⟨⟨hs,l8,l8,λt a=>by cases a⟩,?_,by simp,by omega,by simp⟩;have c:eqD d0 d0=true:=lC.2 rfl;have b:unuB 1 x 0 d0 0 d0 false false ([]:List TI).length=false:=by unfold unuB;rw [c];rfl
 unfold gv;rw [ab (by omega),ab (by rw [b];simp),ae rfl,hc]
theorem vR {KF KT:Int} {x y:TD} (hx:smT x) (hy:smT y) (h:nS KF x KT y=0):RightE 2 d0 KF x KT y false false []:=by
 refine ⟨⟨l8,hx,hy,λt a=>by cases a⟩,?_,by simp,by omega,by simp⟩;have c:eqD d0 d0=true:=lC.2 rfl;have b:unuB 2 d0 KF x KT y false false ([]:List TI).length=false:=by unfold unuB;rw [c];rfl
 unfold gv;rw [ab (by omega),ab (by rw [b];simp),ab (by omega),ae rfl,h]
theorem CL (x:TD):pt 1 x=if cF x=0 then if exT x=true then 0 else 11 else cF x:=by
 unfold pt chkB;rw [ae rfl];rfl
theorem BG {x:TD} (h:pt 1 x=0):cF x=0/\exT x=true:=by
 rw [CL] at h;by_cases hc:cF x=0
 ·rw [ae hc] at h;by_cases a:exT x=true
  ·exact ⟨hc,a⟩
  ·rw [ab a] at h;cases h
 ·rw [ab hc] at h;exact absurd h hc
theorem xz {x:TD} (hc:cF x=0) (a:exT x=true):pt 1 x=0:=by
 rw [CL,ae hc,ae a]
theorem H3 {KF KT:Int} {x y:TD} (a:pt KF x=0) (b:pt KT y=0):nS KF x KT y=if KF≠1/\KT≠1 then 11 else if KF≠1\/KT≠1 then 0 else if (dyT x).1>(dyT y).2 then 11 else 0:=by
 unfold nS IZ;rw [a,b,ab (λh=>h rfl),ab (λh=>h rfl)]
noncomputable instance decTI:DecidableEq TI:=λa b=>Classical.propDecidable (a=b)
theorem xF (n:Nat) (t S R:aa) (a:Int) (o:t.length<4611686018427387904) (p:t.length<n):
  au (db n) n (t,0,R,S,a)=some (((lcp R t:Nat):Int),S,a):=by
 have:=fE (step:=db n)
  (λx=>∃j:Nat,j<=t.length/\x=(t,(j:Int),R,S,a)) (λx=>t.length - x.2.1.toNat)
  (λx=>(((x.2.1.toNat+lcp (R.drop x.2.1.toNat) (t.drop x.2.1.toNat):Nat):Int),S,a)) ?_ n (t,0,R,S,a) ⟨0,by omega,rfl⟩ (by simp;omega)
 ·simpa using this
 rintro x ⟨j,q,rfl⟩;simp only [bW,db,OI];by_cases g:j<t.length/\j<R.length
 ·obtain ⟨h,l⟩:=g;obtain ⟨c,hc⟩:∃c,t[j]?=some c:=⟨t[j],bG h⟩;obtain ⟨d,i⟩:∃d,R[j]?=some d:=⟨R[j],bG l⟩;have f:IntKind.wrap .i64 ((j:Int)+1)=((j+1:Nat):Int):=by rw [wrap_i64 _ (by omega) (by omega)];omega
  have e:(decide ((j:Int)<((min t.length R.length:Nat):Int)))=true:=by simp only [bX];omega
  have b:(decide ((j:Int)<((min R.length t.length:Nat):Int)))=true:=by simp only [bX];omega
  simp only [e,b,aj,km hc,km i,ob,DW,eS hc,eS i,lcp];cases m:d==c with
  | true=>
   refine .inl ⟨_,rfl,⟨j+1,by omega,by rw [f]⟩,?_,?_⟩
   ·simp only [f,bW];omega
   ·simp only [f,bW,bf,uv,aI];omega
  | false=>exact .inr (by simp)
 ·have e:(decide ((j:Int)<((min t.length R.length:Nat):Int)))=false:=by simp only [rr];omega
  have b:(decide ((j:Int)<((min R.length t.length:Nat):Int)))=false:=by simp only [rr];omega
  refine .inr ?_;have k:lcp (R.drop j) (t.drop j)=0:=by
   by_cases h:j<t.length
   ·rw [kP (show R.length<=j by omega)];rfl
   ·rw [kP (show t.length<=j by omega)];cases R.drop j<;>rfl
  simp only [e,b,k,af,cP]
theorem ym (n:Nat) (t S:aa) (a:Nat) (h:a<=S.length) (d:S.length<4611686018427387904) (b:t.length<4611686018427387904) (f:t.length<n):
  bD n t S (a:Int)=some (if (S.drop a).take t.length=t then .inl (S,((a+t.length:Nat):Int)) else .inr (((a+lcp (S.drop a) t:Nat):Int),5,S,(a:Int))):=by
 have e:=vH (S.drop a) t;rw [cZ] at e;simp only [bD,kZ n t S a h d,ob];by_cases hp:(S.drop a).take t.length=t
 ·simp [hp]
 ·have c:IntKind.wrap .i64 ((a:Int)+((lcp (S.drop a) t:Nat):Int))=((a+lcp (S.drop a) t:Nat):Int):=by rw [wrap_i64 _ (by omega) (by omega)];omega
  simp only [hp,aC,af,qA n S a h,xF n t S (S.drop a) (a:Int) b f,AU,c,sX];simp
def tdR (r:DR):TD:=(r.1,r.2.1,r.2.2.1,(r.2.2.2.1:Int),(r.2.2.2.2.1:Int),r.2.2.2.2.2.1,r.2.2.2.2.2.2.1,(r.2.2.2.2.2.2.2.1.1:Int),(r.2.2.2.2.2.2.2.1.2.1:Int),(r.2.2.2.2.2.2.2.1.2.2:Int))
theorem kb {S:aa} {a:Nat} (h:a<=S.length) {r:DR} (f:di S a=.inr r):smT (tdR r)/\cF (tdR r)=0/\a<=enR r/\enR r<=S.length:=by
 obtain ⟨c,b⟩:=Em h f;obtain ⟨g,l,dg,x,s,m,d,M,P,e⟩:=r;have ok:=yX h c;have:=ok.dg17;have:=ok.m2;have:=ok.d2;refine ⟨⟨by show m.length<=18;omega,by show dg.length<=100;omega,by show d.length<=18;omega,by show (0:Int)<=(M.1:Int);omega,by show (0:Int)<=(M.2.1:Int);omega,by show (0:Int)<=(M.2.2:Int);omega⟩,?_,ok.le,ok.end_⟩;have hc:=wR (g:=g) (l:=l) (dg:=dg) (x:=(x:Int)) (q:=(s:Int)) (m:=m) (d:=d) (k0:=(M.1:Int)) (k1:=(M.2.1:Int)) (k2:=(M.2.2:Int)) (qu ok.all);unfold chkR at b;simp only [] at b;show chkF g l dg (x:Int) (s:Int) m d (M.1:Int) (M.2.1:Int) (M.2.2:Int)=0;omega
def dts (l:aa):Bool:=l.take 2==[46,46]
theorem ur {l:aa}:dts l=true↔∃r,l=46::46::r:=by
 unfold dts;rw [bA];constructor
 ·exact F6
 ·rintro ⟨r,rfl⟩;rfl
theorem nZ {S:aa} {p:Nat} (h:dts (S.drop p)=true):p+2<=S.length:=by
 obtain ⟨r,a⟩:=ur.1 h;have:=ck List.length a;simp at this;omega
noncomputable def nP (S:aa) (b:UInt8) (p:Nat):(Nat×Nat×Nat)⊕(TI×Nat×Nat):=
 match di S p with
 | .inl f=>.inl f
 | .inr r=>if dts (S.drop (enR r))=true/\(S.drop (enR r+2)).head?≠some b then
   match di S (enR r+2) with
   | .inl f=>.inl f
   | .inr a=>.inr (mkI (tdR r) true (tdR a),plR r,enR a)
  else .inr (mkI (tdR r) false d0,plR r,enR r)
theorem A3 {S:aa} {i:UInt8} {p:Nat} (h:p<=S.length) {t:TI} {a c:Nat} (b:nP S i p=.inr (t,a,c)):smI t/\p<=c/\c<=S.length:=by
 unfold nP at b;cases d:di S p with
 | inl f=>rw [d] at b;cases b
 | inr r=>
  obtain ⟨g,_,k,l⟩:=kb h d;rw [d] at b;simp only [] at b;split at b
  ·rename_i n;have:=nZ n.1;cases e:di S (enR r+2) with
   | inl f=>rw [e] at b;cases b
   | inr o=>
    obtain ⟨m,_,l3,j⟩:=kb (by omega) e;rw [e] at b;cases b;exact ⟨⟨g,m⟩,by omega,j⟩
  ·cases b;exact ⟨⟨g,l8⟩,k,l⟩
noncomputable def lS (S:aa) (c:UInt8):Nat->Nat->List Nat->List TI->(Nat×Nat×Nat)⊕(Nat×List Nat×List TI)
 | 0,p,_,_=>.inl (p,3,p)
 | r+1,p,P,I=>match nP S c p with
  | .inl f=>.inl f
  | .inr (t,a,b)=>if (S.drop b).head?=some 44 then lS S c r (b+1) (P++[a]) (I++[t]) else .inr (b,P++[a],I++[t])
theorem gW {S:aa} {p:Nat} {c:UInt8} (h:(S.drop p).head?=some c):p+1<=S.length:=by
 cases b:S.drop p with
 | nil=>rw [b] at h;cases h
 | cons a r=>
  have:=ck List.length b;simp at this;omega
theorem vh {S:aa} {i:UInt8}:∀(r p:Nat) (P:List Nat) (I:List TI),p<=S.length->P.length=I.length->(∀t∈I,smI t)->∀{d:Nat} {c:List Nat} {b:List TI},lS S i r p P I=.inr (d,c,b)->
  d<=S.length/\c.length=b.length/\I.length<b.length/\b.length<=I.length+r/\(∀t∈b,smI t)
 | 0,p,P,I,_,_,_,d,c,b,e=>by cases e
 | r+1,p,P,I,h,j,hs,d,c,b,e=>by
  rw [lS] at e;cases g:nP S i p with
  | inl f=>rw [g] at e;cases e
  | inr q=>
   obtain ⟨t,a,k⟩:=q;obtain ⟨w,z,o⟩:=A3 h g;rw [g] at e;simp only [] at e;have hs':∀u∈I++[t],smI u:=λu y=>by
    rcases kF.1 y with h | h
    ·exact hs u h
    ·rw [tJ.1 h];exact w
   split at e
   ·rename_i m;obtain ⟨l,x,n,s,v⟩:=vh r (k+1) (P++[a]) (I++[t]) (gW m) (by simp [j]) hs' e;rw [bv,List.length_singleton] at n s;exact ⟨l,x,by omega,by omega,v⟩
   ·cases e;exact ⟨o,by simp [j],by simp,by simp,hs'⟩
theorem dts3 (S:aa) (p:Nat) (c:UInt8):((S.drop p).take [46,46,c].length==[46,46,c])=(dts (S.drop p)&&decide ((S.drop (p+2)).head?=some c)):=by
 rw [<-iV];generalize S.drop p=l;unfold dts
 match l with
 | []=>rfl
 | [a]=>simp
 | [a,b]=>simp
 | a::b::d::r=>
  rw [AS];simp [and_assoc]
def endC (K:Int):UInt8:=if K=4 then 125 else 93
theorem u0 {K:Int} (a:K=3\/K=4) (n:Nat):du n K=some ([if K=4 then 123 else 91],[endC K]):=by
 rcases a with rfl | rfl<;>rfl
theorem QG (c:UInt8) {S:aa} {p:Nat} (h:p<=S.length) (f d:Int) (i:Bool) (a:List Int) (g:TD) (b e:List TI):
  kg 20000000 [c] f S (p:Int) d i a g b e=some ([c],f,dts (S.drop p)&&!decide ((S.drop (p+2)).head?=some c),S,(p:Int),d,i,a,g,b,e):=by
 unfold kg;rw [GX _ _ _ _ h];have hc:cat [46,46] [c]=some [46,46,c]:=rfl;simp only [ob,hc,GX _ _ _ _ h,dts3];show cond (dts (S.drop p)) _ _=_;cases j:dts (S.drop p)
 ·rfl
 ·cases decide ((S.drop (p+2)).head?=some c)<;>rfl
theorem tk1 (l:aa) (c:UInt8):l.take [c].length=[c]↔l.head?=some c:=by
 cases l<;>simp
theorem zo (S:aa) (r:DR):Rl S (.inr r)=.inr ((tdR r).1,(tdR r).2.1,(tdR r).2.2.1,(tdR r).2.2.2.1,(tdR r).2.2.2.2.1,(tdR r).2.2.2.2.2.1,(tdR r).2.2.2.2.2.2.1,(tdR r).2.2.2.2.2.2.2.1,(tdR r).2.2.2.2.2.2.2.2.1,(tdR r).2.2.2.2.2.2.2.2.2,((plR r:Nat):Int),S,((enR r:Nat):Int)):=rfl
theorem R9 (b:Bool) (c:UInt8) {S:aa} {p:Nat} (h:p<=S.length) (o:S.length<100000) (n:b=true->dts (S.drop p)=true) (i k:Int) (g:Bool) (j:List Int) (e:TD) (d a:List TI):
  kj 20000000 [c] i b S (p:Int) k g j e d a=some (if b=true then (match di S (p+2) with
   | .inl f=>.inl ((f.1:Int),(f.2.1:Int),S,(f.2.2:Int))
   | .inr r=>.inr ([c],i,S,((enR r:Nat):Int),k,g,j,e,true,tdR r,d,a)) else .inr ([c],i,S,(p:Int),k,g,j,e,false,d0,d,a)):=by
 unfold kj;cases b
 ·rfl
 ·have l:=n rfl;have s:=nZ l;have m:(S.drop p).take [(46:UInt8),46].length=[46,46]:=by
   obtain ⟨r,q⟩:=ur.1 l;rw [q];rfl
  rw [aj,ym _ _ _ _ h (by omega) (by simp) (by simp),ae m,ae rfl];show obs (fS 20000000 S ((p+2:Nat):Int)) _ _=_;rw [A8 S (p+2) s o];cases di S (p+2) with
  | inl f=>rfl
  | inr r=>rfl
theorem xE {α:Type} {I:List α} (h:I.length<=256):Nat.ble (I.length+1) gk=true:=co (by unfold gk;omega)
abbrev mL (P:List Nat):List Int:=P.map λk:Nat=>(k:Int)
theorem Oy (c:UInt8) {S:aa} {p:Nat} (h:p<=S.length) (s:S.length<100000) (K:Int) (e:Bool) {P:List Nat} (J:List TI) {I:List TI} (E:I.length<256) (C:P.length=I.length):
  dQ 20000000 ([c],S,(p:Int),K,e,mL P,J,I)=some (match nP S c p with
   | .inl f=>.inr (.inl ((f.1:Int),(f.2.1:Int),S,(f.2.2:Int)))
   | .inr (t,a,b)=>if (S.drop b).head?=some 44 then .inl ([c],S,((b+1:Nat):Int),K,e,mL (P++[a]),J,I++[t])
    else .inr (.inr ([c],S,((if dts (S.drop b) then b+2 else b:Nat):Int),0,d0,0,d0,0,d0,false,false,K,d0,0,d0,0,d0,e,dts (S.drop b),mL (P++[a]),J,I++[t]))):=by
 have g:∀(t:TI) (a b:Nat),b<=S.length->(ob (aA 20000000 [44] S (b:Int)) (u3 λq j l=>(cond q (some (.inl ([c],j,l,K,e,(mL P++([(a:Int)]:List (Int))),J,(I++([t]:List TI))))) (ob (aA 20000000 [46,46] j l) (u3 λo k i=>(cond o (some (.inr (.inr ([c],k,i,0,d0,0,d0,0,d0,false,false,K,d0,0,d0,0,d0,e,true,(mL P++([(a:Int)]:List (Int))),J,(I++([t]:List TI)))))) (some (.inr (.inr ([c],k,i,0,d0,0,d0,0,d0,false,false,K,d0,0,d0,0,d0,e,false,(mL P++([(a:Int)]:List (Int))),J,(I++([t]:List TI))))))))))):Option ((aa×aa×Int×Int×Bool×List (Int)×List TI×List TI)⊕((Int×Int×aa×Int)⊕(aa×aa×Int×Int×TD×Int×TD×Int×TD×Bool×Bool×Int×TD×Int×TD×Int×TD×Bool×Bool×List (Int)×List TI×List TI)))) =
   some (if (S.drop b).head?=some 44 then .inl ([c],S,((b+1:Nat):Int),K,e,mL (P++[a]),J,I++[t])
    else .inr (.inr ([c],S,((if dts (S.drop b) then b+2 else b:Nat):Int),0,d0,0,d0,0,d0,false,false,K,d0,0,d0,0,d0,e,dts (S.drop b),mL (P++[a]),J,I++[t]))):=by
  intro t a b m;have z:mL (P++[a])=mL P++[(a:Int)]:=by simp [mL]
  rw [kZ _ _ _ _ m (by omega),z];simp only [ob,u3,u2,tk1];by_cases hc:(S.drop b).head?=some 44
  ·rw [ae hc,ae hc];rfl
  ·rw [ab hc,ab hc];simp only [af];rw [kZ _ _ _ _ m (by omega)];cases d:dts (S.drop b)
   ·rw [ab (show ¬(S.drop b).take [(46:UInt8),46].length=[46,46] from λh=>by unfold dts at d;rw [show (S.drop b).take 2=[46,46] from h] at d;cases d)];rfl
   ·rw [ae (show (S.drop b).take [(46:UInt8),46].length=[46,46] from eq_of_beq d)];rfl
 unfold dQ;simp only [u8,u7,u6,u5,u4,u3,u2];rw [show (len I==256)=false from by show (((I.length:Nat):Int)==256)=false;simp;omega,af,A8 S p h s];unfold nP;cases w:di S p with
 | inl f=>rfl
 | inr r=>
  obtain ⟨A,_,D,n⟩:=kb h w;rw [zo];simp only [obs,sm,ob];rw [show (d4 (d8 ((tdR r).1,(tdR r).2.1,(tdR r).2.2.1,(tdR r).2.2.2.1,(tdR r).2.2.2.2.1,(tdR r).2.2.2.2.2.1,(tdR r).2.2.2.2.2.2.1,(tdR r).2.2.2.2.2.2.2.1,(tdR r).2.2.2.2.2.2.2.2.1,(tdR r).2.2.2.2.2.2.2.2.2,((plR r:Nat):Int),S,((enR r:Nat):Int))))=((enR r:Nat):Int) from rfl,QG c n];simp only [u11,u10,u9,u8,u7,u6,u5,u4,u3,u2];rw [R9 _ c n s (λh=>by simp at h;exact h.1)];have v:(dts (S.drop (enR r))&&!decide ((S.drop (enR r+2)).head?=some c))=true↔(dts (S.drop (enR r))=true/\(S.drop (enR r+2)).head?≠some c):=by simp
  by_cases d:dts (S.drop (enR r))=true/\(S.drop (enR r+2)).head?≠some c
  ·rw [ae (v.2 d),ae d];cases y:di S (enR r+2) with
   | inl f=>rfl
   | inr u=>
    obtain ⟨B,_,l3,x⟩:=kb (nZ d.1) y;simp only [u12,u11,u10,u9,u8,u7,u6,u5,u4,u3,u2];rw [xE (by omega),xE (by simp;omega)];exact g (mkI (tdR r) true (tdR u)) (plR r) (enR u) x
  ·rw [ab (λh=>d (v.1 h)),ab d];simp only [u12,u11,u10,u9,u8,u7,u6,u5,u4,u3,u2];rw [xE (by omega),xE (by simp;omega)];exact g (mkI (tdR r) false d0) (plR r) (enR r) n
theorem OF (c:UInt8) (S:aa) (p K:Int) (e:Bool) (P:List Int) (J:List TI) {I:List TI} (a:I.length=256):
  dQ 20000000 ([c],S,p,K,e,P,J,I)=some (.inr (.inl (p,3,S,p))):=by
 unfold dQ;simp only [u8,u7,u6,u5,u4,u3,u2];rw [show (len I==256)=true from by show (((I.length:Nat):Int)==256)=true;rw [a];rfl];rfl
def TG (S:aa) (c:UInt8) (K:Int) (e:Bool) (J:List TI):(Nat×Nat×Nat)⊕(Nat×List Nat×List TI)->(Int×Int×aa×Int)⊕(aa×aa×Int×Int×TD×Int×TD×Int×TD×Bool×Bool×Int×TD×Int×TD×Int×TD×Bool×Bool×List (Int)×List TI×List TI)
 | .inl f=>.inl ((f.1:Int),(f.2.1:Int),S,(f.2.2:Int))
 | .inr (p,P,I)=>.inr ([c],S,((if dts (S.drop p) then p+2 else p:Nat):Int),0,d0,0,d0,0,d0,false,false,K,d0,0,d0,0,d0,e,dts (S.drop p),mL P,J,I)
theorem Pe (c:UInt8) {S:aa} (i:S.length<100000) (K:Int) (e:Bool) (J:List TI):∀(r p:Nat) (P:List Nat) (I:List TI),I.length+r=256->p<=S.length->P.length=I.length->∀N,r<N->
  au (dQ 20000000) N ([c],S,(p:Int),K,e,mL P,J,I)=some (TG S c K e J (lS S c r p P I)):=by
 intro r
 induction r with
 | zero=>
  intro p P I j hp b N g;obtain ⟨N,rfl⟩:∃k,N=k+1:=⟨N - 1,by omega⟩;rw [au,OF c S _ K e _ J (by omega)];rfl
 | succ r ih=>
  intro p P I j hp b N g;obtain ⟨N,rfl⟩:∃k,N=k+1:=⟨N - 1,by omega⟩;rw [au,Oy c hp i K e J (by omega) b,lS];cases h:nP S c p with
  | inl f=>rfl
  | inr q=>
   obtain ⟨t,a,d⟩:=q;obtain ⟨_,l,m⟩:=A3 hp h;simp only [];by_cases hc:(S.drop d).head?=some 44
   ·rw [ae hc,ae hc];exact ih (d+1) (P++[a]) (I++[t]) (by simp;omega) (gW hc) (by simp [b]) N (by omega)
   ·rw [ab hc,ab hc];rfl
theorem vp {X a Y b:Type} {s:X->Option (X⊕Y)} {s':a->Option (a⊕b)} (f:X->a) (g:Y->b) (h:∀x,s' (f x)=(s x).map (Sum.map f g)):∀(n:Nat) (x:X),au s' n (f x)=(au s n x).map g
 | 0,_=>rfl
 | n+1,x=>by
  rw [au,au,h];cases s x with
  | none=>rfl
  | some z=>
   cases z with
   | inl y=>exact vp f g h n y
   | inr y=>rfl
theorem N1 (n:Nat) (K:Int) (D:TD) (KF:Int) (DF:TD) (KT:Int) (DT:TD) (c:Nat) (e l:Bool) (L:List TI):kV n K D KF DF KT DT L.length c e l L=jF n K D KF DF KT DT e l L:=by
 unfold kV jF;have:=vp (s:=ee n) (s':=iI n) (u12 λq f d g m p k o j h a b=>(d.length,c,q,f,d,g,m,p,k,o,j,d.length,c,h,a,b)) id (by
  rintro ⟨q,f,d,g,m,p,k,o,j,h,a,b⟩;unfold ee iI;simp only [u16,u15,u14,u13,u12,u11,u10,u9,u8,u7,u6,u5,u4,u3,u2];cases decide (f<q)
  ·rfl
  ·simp only [aj];cases ix d.length f with
   | none=>rfl
   | some i=>
    simp only [ob];cases d[i]? with
    | none=>rfl
    | some t=>
     simp only [ob];cases eM n (iF t) (d8 t).2.2.1 (d8 t).2.2.2 g with
     | none=>rfl
     | some v=>
      simp only [ob];rw [show kL n v 10 10 10 (iF t) (d8 t).2.2.1 (d8 t).2.2.2 g m p k o j d.length c h a f b d=fa n v 10 10 10 (iF t) (d8 t).2.2.1 (d8 t).2.2.2 g m p k o j h a f b d from rfl];cases fa n v 10 10 10 (iF t) (d8 t).2.2.1 (d8 t).2.2.2 g m p k o j h a f b d with
      | none=>rfl
      | some z=>
       simp only [ob];cases (z != 0)<;>rfl) n (len L,0,L,K,D,KF,DF,KT,DT,e,l,w64 (len L - 1))
 simp only [u12,u11,u10,u9,u8,u7,u6,u5,u4,u3,u2] at this;rw [show (L.length,c,((L.length:Nat):Int),(0:Int),L,K,D,KF,DF,KT,DT,L.length,c,e,l,w64 (((L.length:Nat):Int) - 1))=(L.length,c,len L,0,L,K,D,KF,DF,KT,DT,L.length,c,e,l,w64 (len L - 1)) from rfl,this];rw [Option.map_id];rfl
theorem HM (n:Nat) (K:Int) (D:TD) (KF:Int) (DF:TD) (KT:Int) (DT:TD) (c:Nat) (e l:Bool) (L:List TI):eQ n K D KF DF KT DT L.length c e l L=jE n K D KF DF KT DT e l L:=by
 unfold eQ jE;rw [N1,show mg n K D KF DF KT DT L.length c e l L=kC n K D KF DF KT DT e l L from rfl]
theorem FA {K:Int} {D:TD} {KF:Int} {DF:TD} {KT:Int} {DT:TD} {e l:Bool} {L:List TI} (h:smE D DF DT L) (c:Nat):
  eQ 20000000 K D KF DF KT DT L.length c e l L=some (gv K D KF DF KT DT e l L):=(HM _ _ _ _ _ _ _ _ _ _ _).trans (Dh h)
noncomputable def setE (K:Int) (e l:Bool) (I:List TI):Int×Int:=gv K d0 0 d0 0 d0 e l I
noncomputable def endL (S:aa) (K:Int) (e:Bool) (p:Nat) (P:List Nat) (I:List TI):(Nat×Nat×Nat)⊕(Int×Bool×Bool×List TI×Nat):=
 if (S.drop (if dts (S.drop p) then p+2 else p)).head?=some (endC K) then
  if (setE K e (dts (S.drop p)) I).2=0 then .inr (K,e,dts (S.drop p),I,(if dts (S.drop p) then p+2 else p)+1)
  else .inl (P.getD (setE K e (dts (S.drop p)) I).1.toNat 0,10,(if dts (S.drop p) then p+2 else p)+1)
 else .inl ((if dts (S.drop p) then p+2 else p),5,(if dts (S.drop p) then p+2 else p))
noncomputable def vU (S:aa) (a:Nat) (K:Int):(Nat×Nat×Nat)⊕(Int×Bool×Bool×List TI×Nat):=
 match lS S (endC K) 256 (if dts (S.drop (a+1)) then a+3 else a+1) [] [] with
 | .inl f=>.inl f
 | .inr (p,P,I)=>endL S K (dts (S.drop (a+1))) p P I
noncomputable def qG (S:aa) (a:Nat):(Nat×Nat×Nat)⊕(Int×Bool×Bool×List TI×Nat):=
 if (S.drop a).head?=some 91 then vU S a 3 else if (S.drop a).head?=some 123 then vU S a 4 else .inl (a,5,a)
theorem Ox {K:Int} (a:K=3\/K=4) {e l:Bool} {I:List TI} (b:1<=I.length):∃i:Nat,(setE K e l I).1=(i:Int)/\i<I.length:=by
 have hi:∃i:Nat,(xh K e l I).1=(i:Int)/\i<I.length:=by
  unfold xh;have:∀(J:List TI) (k:Nat) (p:Nat×Int),rI (errI K e l I.length) k J=some p->p.1<k+J.length:=by
   intro J
   induction J with
   | nil=>intro k p h;cases h
   | cons t r ih=>
    intro k p h;rw [rI] at h;split at h
    ·cases h;simp
    ·have:=ih (k+1) p h;simp;omega
  cases hs:rI (errI K e l I.length) 0 I with
  | none=>exact ⟨0,rfl,by omega⟩
  | some p=>exact ⟨p.1,rfl,by have:=this I 0 p hs;omega⟩
 unfold setE gv;rw [ab (by omega)];split
 ·exact ⟨0,rfl,by omega⟩
 ·rw [ab (by omega),ab (by omega),ab (by omega)];split
  ·exact ⟨0,rfl,by omega⟩
  ·exact hi
theorem PL {I:List TI} (h:∀t∈I,smI t):smE d0 d0 d0 I:=⟨l8,l8,l8,h⟩
theorem To (n:Nat) (I:List TI):bh n I=some (I.length,I.length):=by
 unfold bh;rw [eD (aM _)];show ob (bx I.length ((I.length:Nat):Int)) _=_;rw [eD (aM _)];rfl
def PC (S:aa):(Nat×Nat×Nat)⊕(Int×Bool×Bool×List TI×Nat)->(Int×Int×aa×Int)⊕(Int×TD×Int×TD×Int×TD×Nat×Nat×Bool×Bool×aa×Int×List TI)
 | .inl f=>.inl ((f.1:Int),(f.2.1:Int),S,(f.2.2:Int))
 | .inr (K,e,l,I,p)=>.inr (K,d0,0,d0,0,d0,I.length,I.length,e,l,S,(p:Int),I)
theorem Qe {S:aa} (E:S.length<100000) {K:Int} (C:K=3\/K=4) (e:Bool) {p:Nat} (hp:p<=S.length) {P:List Nat} {I:List TI} (G:P.length=I.length) (y:1<=I.length) (hs:∀t∈I,smI t):
  (obs (bD 20000000 [endC K] S ((if dts (S.drop p) then p+2 else p:Nat):Int)) (u2 λc b=>(ob (bh 20000000 I) (u2 λf d=>(ob (eQ 20000000 K d0 0 d0 0 d0 f d e (dts (S.drop p)) I) (u2 λx o=>(cond (o != 0) (ob (ix (List.length (mL P)) x) λv=>(ob ((mL P)[v]?) λj=>(ob (aF 20000000 j 10 c b) (u2 λn u=>(some (.inl (n,u,c,b))))))) (some (.inr (K,d0,0,d0,0,d0,f,d,e,(dts (S.drop p)),c,b,I))))))))) (u4 λm s w k=>(some (.inl (m,s,w,k))))) =
   some (PC S (endL S K e p P I)):=by
 have B:(if dts (S.drop p) then p+2 else p:Nat)<=S.length:=by
  split
  ·rename_i h;exact nZ h
  ·exact hp
 unfold endL;generalize (if dts (S.drop p) then p+2 else p:Nat)=q at *;generalize dts (S.drop p)=l;rw [ym _ _ _ _ B (by omega) (by simp) (by simp)];simp only [tk1];by_cases hc:(S.drop q).head?=some (endC K)
 ·rw [ae hc,ae hc];simp only [obs,sm,ob,u2,To,FA (PL hs)];obtain ⟨i,A,F⟩:=Ox C (e:=e) (l:=l) y;show cond ((setE K e l I).2 != 0) (ob (ix (mL P).length (setE K e l I).1) _) _=_;by_cases g:(setE K e l I).2=0
  ·rw [ae g,show ((setE K e l I).2 != 0)=false from by simp [g]];rfl
  ·have hi:i<(mL P).length:=by simp [mL];omega
   rw [ab g,show ((setE K e l I).2 != 0)=true from by simp [g],A,eY hi];have z:(mL P)[i]?=some ((P.getD i 0:Nat):Int):=by
    have hi':i<P.length:=by omega
    simp [mL,bG hi']
   simp only [aj,ob,z];rfl
 ·rw [ab hc,ab hc];have:lcp (S.drop q) [endC K]=0:=by
   cases D:S.drop q with
   | nil=>rfl
   | cons a r=>
    rw [D] at hc;simp only [lcp];rw [show (a==endC K)=false from by rw [br];rintro rfl;exact hc rfl];rfl
  rw [this];rfl
theorem Pz {S:aa} {a:Nat} (h:a<=S.length) (hS:S.length<100000):ln 20000000 S (a:Int)=some (PC S (qG S a)):=by
 have b:∀(K:Int) (z:K=3\/K=4) (j:a+1<=S.length),(ob (kY 20000000 (K==4) S ((a+1:Nat):Int) ([]:List TI) ([]:List TI)) (u5 λv7 v8 v9 M v11=>(ob (du 20000000 v9) (u2 λ_ Z=>(ob (aA 20000000 [46,46] v7 v8) (u3 λA U V=>(obs (au (dQ 20000000) 20000000 (Z,U,V,v9,A,([]:List (Int)),M,v11)) (u4 λB H O Q=>(some (.inl (B,H,O,Q)))) (u22 λv20 W C _ _ _ _ _ _ _ _ s l n w k v u y m _ d=>(obs (bD 20000000 v20 W C) (u2 λg e=>(ob (bh 20000000 d) (u2 λx o=>(ob (eQ 20000000 s l n w k v x o u y d) (u2 λv37 N=>(cond (N != 0) (ob (ix (List.length m) v37) λX=>(ob (m[X]?) λD=>(ob (aF 20000000 D 10 g e) (u2 λL R=>(some (.inl (L,R,g,e))))))) (some (.inr (s,l,n,w,k,v,x,o,u,y,g,e,d))))))))) (u4 λJ T Y E=>(some (.inl (J,T,Y,E))))))))))))) =
   some (PC S (vU S a K)):=by
  intro K z j;have hj:kY 20000000 (K==4) S ((a+1:Nat):Int) ([]:List TI) ([]:List TI)=some (S,((a+1:Nat):Int),K,[],[]):=by
   rcases z with rfl | rfl<;>rfl
  have G:aA 20000000 [46,46] S ((a+1:Nat):Int)=some (dts (S.drop (a+1)),S,((if dts (S.drop (a+1)) then a+3 else a+1:Nat):Int)):=by
   rw [kZ _ _ _ _ j (by omega)];cases i:dts (S.drop (a+1))
   ·rw [ab (show ¬(S.drop (a+1)).take [(46:UInt8),46].length=[46,46] from λh=>by unfold dts at i;rw [show (S.drop (a+1)).take 2=[46,46] from h] at i;cases i)];rfl
   ·rw [ae (show (S.drop (a+1)).take [(46:UInt8),46].length=[46,46] from eq_of_beq i)];rfl
  have hp:(if dts (S.drop (a+1)) then a+3 else a+1:Nat)<=S.length:=by
   split
   ·rename_i h;have:=nZ h;omega
   ·exact j
  have hl:=Pe (endC K) hS K (dts (S.drop (a+1))) [] 256 (if dts (S.drop (a+1)) then a+3 else a+1) [] [] (by simp) hp rfl 20000000 (by omega);simp only [hj,u0 z,G,ob,u5,u4,u3,u2];rw [show au (dQ 20000000) 20000000 ([endC K],S,((if dts (S.drop (a+1)) then a+3 else a+1:Nat):Int),K,dts (S.drop (a+1)),([]:List Int),([]:List TI),([]:List TI))=_ from hl];unfold vU;cases hr:lS S (endC K) 256 (if dts (S.drop (a+1)) then a+3 else a+1) [] [] with
  | inl f=>rfl
  | inr q=>
   obtain ⟨p,P,I⟩:=q;obtain ⟨q1,q2,q3,q4,q5⟩:=vh 256 _ [] [] hp rfl (λt G=>by cases G) hr;have q3':1<=I.length:=by rw [cA] at q3;omega
   exact Qe hS z (dts (S.drop (a+1))) q1 q2 q3' q5
 unfold ln qG;rw [yV _ _ _ _ h (by omega)];cases i:S.drop a with
 | nil=>rfl
 | cons c r=>
  have j:a+1<=S.length:=by
   have:=ck List.length i;simp at this;omega
  simp only [pH,ah];by_cases F:c=91
  ·subst F;rw [ae rfl];exact b 3 (.inl rfl) j
  ·by_cases h2:c=123
   ·subst h2;rw [ae rfl];exact b 4 (.inr rfl) j
   ·rw [ab F,ab h2];have:hasB [91,123] c=false:=by
     unfold hasB;simp only [um,List.any_nil,Io,ov,br];exact ⟨λh=>F h.symm,λh=>h2 h.symm⟩
    rw [this];rfl
def rat (l:aa):Nat:=match l with | c::_=>c.toNat | []=>0
theorem RY (l:aa) (c:UInt8) (hc:c≠0):(((rat l:Nat):Int)==((c.toNat:Nat):Int))=decide (l.head?=some c):=by
 cases l with
 | nil=>
  rw [ay (by simp)];rw [br];intro h;have b:c.toNat=0:=by
   have:((0:Nat):Int)=((c.toNat:Nat):Int):=h;omega
  exact hc (gM.1 (by rw [b];rfl))
 | cons a r=>
  show (((a.toNat:Nat):Int)==((c.toNat:Nat):Int))=_;rw [DW];rw [AS];simp
theorem FI {S:aa} {d:UInt8} {p:Nat} (h:p<=S.length) {f:Nat×Nat×Nat} (a:nP S d p=.inl f):f.2.1≠0:=by
 unfold nP at a;cases b:di S p with
 | inl g=>rw [b] at a;cases a;exact uH (k:=f.1) (E:=f.2.1) (p:=f.2.2) h b
 | inr r=>
  rw [b] at a;simp only [] at a;split at a
  ·rename_i e;cases c:di S (enR r+2) with
   | inl g=>rw [c] at a;cases a;exact uH (k:=f.1) (E:=f.2.1) (p:=f.2.2) (nZ e.1) c
   | inr i=>rw [c] at a;cases a
  ·cases a
theorem wo {S:aa} {c:UInt8}:∀(r p:Nat) (P:List Nat) (I:List TI),p<=S.length->∀{f:Nat×Nat×Nat},lS S c r p P I=.inl f->f.2.1≠0
 | 0,p,P,I,_,f,e=>by cases e;simp
 | r+1,p,P,I,h,f,e=>by
  rw [lS] at e;cases b:nP S c p with
  | inl g=>rw [b] at e;cases e;exact FI h b
  | inr q=>
   obtain ⟨t,a,d⟩:=q;rw [b] at e;simp only [] at e;split at e
   ·rename_i i;exact wo r (d+1) _ _ (gW i) e
   ·cases e
structure SetOK (S:aa) (K:Int) (e l:Bool) (I:List TI) (p:Nat):Prop where
 kind:K=3\/K=4
 sm:∀t∈I,smI t
 ok:(setE K e l I).2=0
 one:1<=I.length
 most:I.length<=256
 le:p<=S.length
theorem Lo {S:aa} {a:Nat} (h:a<=S.length) {K:Int} {e l:Bool} {I:List TI} {p:Nat} (b:qG S a=.inr (K,e,l,I,p)):SetOK S K e l I p:=by
 have c:∀g:Int,g=3\/g=4->a+1<=S.length->vU S a g=.inr (K,e,l,I,p)->SetOK S K e l I p:=by
  intro g s o b;unfold vU at b;have hp:(if dts (S.drop (a+1)) then a+3 else a+1:Nat)<=S.length:=by
   split
   ·rename_i h;have:=nZ h;omega
   ·exact o
  cases d:lS S (endC g) 256 (if dts (S.drop (a+1)) then a+3 else a+1) [] [] with
  | inl f=>rw [d] at b;cases b
  | inr q=>
   obtain ⟨i,P,J⟩:=q;obtain ⟨u,w,n,r,m⟩:=vh 256 _ [] [] hp rfl (λt j=>by cases j) d;rw [d] at b;simp only [] at b;unfold endL at b;generalize (if dts (S.drop i) then i+2 else i:Nat)=v at b;split at b
   ·rename_i hc;split at b
    ·rename_i k;cases b;rw [cA] at n r;exact ⟨s,m,k,by omega,by omega,gW hc⟩
    ·cases b
   ·cases b
 unfold qG at b;split at b
 ·rename_i d;exact c 3 (.inl rfl) (gW d) b
 ·split at b
  ·rename_i d;exact c 4 (.inr rfl) (gW d) b
  ·cases b
theorem Am {S:aa} {a:Nat} (h:a<=S.length) {f:Nat×Nat×Nat} (b:qG S a=.inl f):f.2.1≠0:=by
 have c:∀i:Int,a+1<=S.length->vU S a i=.inl f->f.2.1≠0:=by
  intro i j b;unfold vU at b;have hp:(if dts (S.drop (a+1)) then a+3 else a+1:Nat)<=S.length:=by
   split
   ·rename_i h;have:=nZ h;omega
   ·exact j
  cases d:lS S (endC i) 256 (if dts (S.drop (a+1)) then a+3 else a+1) [] [] with
  | inl g=>rw [d] at b;cases b;exact wo 256 _ _ _ hp d
  | inr q=>
   obtain ⟨e,P,J⟩:=q;rw [d] at b;simp only [] at b;unfold endL at b;generalize (if dts (S.drop e) then e+2 else e:Nat)=k at b;split at b
   ·split at b
    ·cases b
    ·cases b;simp
   ·cases b;simp
 unfold qG at b;split at b
 ·rename_i d;exact c 3 (gW d) b
 ·split at b
  ·rename_i d;exact c 4 (gW d) b
  ·cases b;simp
noncomputable def AT (S:aa):(Nat×Nat)⊕(Int×Bool×Bool×List TI):=match qG S 0 with
 | .inl f=>.inl (f.1,f.2.1)
 | .inr (K,e,l,I,p)=>if p<S.length then .inl (p,5) else .inr (K,e,l,I)
def brk (c:UInt8):Bool:=c==33||c==44||c==46||c==47||c==91||c==93||c==123||c==125
theorem O0:∀c,(!brk c||(!isYC c&&(!isMk c&&(!(c==45)&&!isDX c))))=true:=gN (λc=>!brk c||(!isYC c&&(!isMk c&&(!(c==45)&&!isDX c)))) (by decide +kernel)
theorem E0 {c:UInt8} (h:brk c=true):isYC c=false/\isMk c=false/\(c==45)=false/\isDX c=false:=by
 have:=O0 c;rw [h] at this;simpa [az] using this
theorem Q2 {c:UInt8} (h:isDX c=true):brk c=false:=by
 cases a:brk c
 ·rfl
 ·rw [(E0 a).2.2.2] at h;cases h
def endT (l:aa):Prop:=∀c,l.head?=some c->brk c=true
theorem vi {l:aa} (h:endT l):bY isYC l/\bY isMk l/\bY (λc=>c==45) l:=⟨λc hc=>(E0 (h c hc)).1,λc hc=>(E0 (h c hc)).2.1,λc hc=>(E0 (h c hc)).2.2.1⟩
theorem oU:endT []:=λc h=>by cases h
theorem nY {c:UInt8} {l:aa} (h:brk c=true):endT (c::l):=λa b=>by
 simp only [pH,ah] at b;rw [<-b];exact h
theorem zB {g l:Bool} {d:aa} {x s:Nat} (h:okY g l d (x:Int) (s:Int)) (r:aa):bY brk (eh g l d (x:Int) (s:Int)++r):=by
 have a:d≠[]:=by
  have:=(je h).2.2.2.2.1;rintro rfl;simp at this
 rw [jM];cases l with
 | true=>exact dm (by decide)
 | false=>
  cases g with
  | true=>exact dm (by decide)
  | false=>
   simp only [bE,aC,da,eJ];exact sL a (Jd h) (λc=>Q2)
def ft (x:TD):aa:=pW x.1 x.2.1 x.2.2.1 x.2.2.2.1 x.2.2.2.2.1 x.2.2.2.2.2.1 x.2.2.2.2.2.2.1 x.2.2.2.2.2.2.2.1.toNat x.2.2.2.2.2.2.2.2.1.toNat x.2.2.2.2.2.2.2.2.2.toNat
theorem iv {x:TD} (hs:smT x) (hc:cF x=0):∃(g l:Bool) (dg:aa) (e q:Nat) (m d:aa) (a b c:Nat),x=(g,l,dg,(e:Int),(q:Int),m,d,(a:Int),(b:Int),(c:Int))/\OkD g l dg e q m d a b c:=by
 have h:=lQ hc;obtain ⟨g,l,dg,e,q,m,d,k0,k1,k2⟩:=x;obtain ⟨p,r,a,b,c,k,n,j,i,f,o⟩:=E5 hs.2.2.2.1 hs.2.2.2.2.1 hs.2.2.2.2.2 h;simp only at k n j i f;subst k n j i f;exact ⟨_,_,_,_,_,_,_,_,_,_,rfl,o⟩
theorem dfT {x:TD} (hs:smT x) (hc:cF x=0):ap10 (bR 20000000) x=some (ft x,0):=by
 have:=EE 19999700 x.1 x.2.1 x.2.2.1 x.2.2.2.1 x.2.2.2.2.1 x.2.2.2.2.2.1 x.2.2.2.2.2.2.1 x.2.2.2.2.2.2.2.1 x.2.2.2.2.2.2.2.2.1 x.2.2.2.2.2.2.2.2.2 hs.1 hs.2.1 hs.2.2.2.1 hs.2.2.2.2.1 hs.2.2.2.2.2;rw [ae (lQ hc)] at this;exact this
theorem mC {x:TD} (hs:smT x) (hc:cF x=0):(ft x).length<=37:=by
 obtain ⟨g,l,dg,e,q,m,d,a,b,c,rfl,ok⟩:=iv hs hc;exact Jv ok
theorem lH {x:TD} (hs:smT x) (hc:cF x=0) (r:aa):bY brk (ft x++r):=by
 obtain ⟨g,l,dg,e,q,m,d,a,b,c,rfl,ok⟩:=iv hs hc;show bY brk (pW g l dg (e:Int) (q:Int) m d a b c++r);unfold pW bO;rw [eJ,eJ,eJ];exact BE _ (by decide) (by decide) (by decide) (zB ok.yr _)
theorem mV {l:aa} (h:bY brk l):dts l=false:=by
 cases a:dts l
 ·rfl
 ·obtain ⟨r,rfl⟩:=ur.1 a;exact absurd (h 46 rfl) (by decide)
theorem wx {x:TD} (hs:smT x) (hc:cF x=0) {S:aa} {a:Nat} {post:aa} (h:S.drop a=ft x++post) (hp:endT post):∃r,di S a=.inr r/\tdR r=x/\enR r=a+(ft x).length:=by
 obtain ⟨g,l,dg,e,q,m,d,k0,k1,k2,rfl,ok⟩:=iv hs hc;obtain ⟨b,f,c⟩:=vi hp;obtain ⟨P,i⟩:=Gu ok (S:=S) (a:=a) (post:=post) h b f c;refine ⟨(g,l,dg,e,q,m,d,(k0,k1,k2),P,a+(pW g l dg (e:Int) (q:Int) m d k0 k1 k2).length),?_,rfl,rfl⟩;unfold di;rw [i];have j:chkR (g,l,dg,e,q,m,d,(k0,k1,k2),P,a+(pW g l dg (e:Int) (q:Int) m d k0 k1 k2).length)=0:=by
  unfold chkR;simp only [];have:chkF g l dg (e:Int) (q:Int) m d (k0:Int) (k1:Int) (k2:Int)=0:=hc;rw [this];rfl
 simp only [];rw [ae j]
structure OkI (t:TI):Prop where
 sm:smI t
 a:cF (iF t)=0
 b:rT t=true->cF (iT t)=0
 n:rT t=false->iT t=d0
def dD (t:TI):aa:=if rT t then ft (iF t)++([46,46]++ft (iT t)) else ft (iF t)
theorem zO {t:TI} (h:OkI t):(dD t).length<=76:=by
 have d:=mC h.sm.1 h.a;unfold dD;split
 ·rename_i c;have e:=mC h.sm.2 (h.b c);simp only [bv,aG,cA];omega
 ·omega
theorem Ht {t:TI} (h:OkI t) (r:aa):bY brk (dD t++r):=by
 unfold dD;split
 ·rw [eJ];exact lH h.sm.1 h.a _
 ·exact lH h.sm.1 h.a _
theorem ub {t:TI} (ok:OkI t) {d:UInt8} (j:brk d=true) {S:aa} {p:Nat} {post:aa} (h:S.drop p=dD t++post) (hp:endT post) (v:dts post=true->(post.drop 2).head?=some d):
  ∃a,nP S d p=.inr (t,a,p+(dD t).length):=by
 unfold dD at h ⊢;unfold nP;cases c:rT t with
 | true=>
  rw [c,ae rfl,eJ,eJ] at h;obtain ⟨r,g,i,e⟩:=wx ok.sm.1 ok.a h (nY (by decide));have f:S.drop (enR r)=[46,46]++(ft (iT t)++post):=by rw [e];exact fC h
  have k:S.drop (enR r+2)=ft (iT t)++post:=fC (u:=[46,46]) f;have y:dts (S.drop (enR r))=true:=by rw [f];rfl
  have o:(S.drop (enR r+2)).head?≠some d:=by
   rw [k];intro s;have:=lH ok.sm.2 (ok.b c) post d s;rw [j] at this;cases this
  obtain ⟨z,w,x,q⟩:=wx ok.sm.2 (ok.b c) k hp;refine ⟨plR r,?_⟩;rw [g];simp only [];rw [ae ⟨y,o⟩,w];simp only [aI];rw [i,x,q,e];have:mkI (iF t) true (iT t)=t:=by rw [<-c]
  rw [this];have:p+(ft (iF t)).length+2+(ft (iT t)).length=p+(ft (iF t)++([46,46]++ft (iT t))).length:=by simp only [bv,aG,cA];omega
  rw [this]
 | false=>
  rw [c] at h;simp only [bE,aC] at h;obtain ⟨r,g,i,e⟩:=wx ok.sm.1 ok.a h hp;have f:S.drop (enR r)=post:=by rw [e];exact fC h
  refine ⟨plR r,?_⟩;rw [g];simp only [];rw [ab,i,e]
  ·have:mkI (iF t) false d0=t:=by rw [<-c,<-ok.n c]
   rw [this];simp only [bE,aC]
  ·rintro ⟨l,m⟩;rw [f] at l;rw [<-iV,f] at m;exact m (v l)
def jw (I:List TI):aa:=(I.map λt=>44::dD t).flatten
theorem tO {e:UInt8} (c:brk e=true) (b:e≠44) {post:aa} (hp:endT post) (d:post.head?≠some 44) (j:dts post=true->(post.drop 2).head?=some e):∀(I:List TI) (t:TI) (r p:Nat) {S:aa} (P:List Nat) (J:List TI),OkI t->(∀u∈I,OkI u)->I.length<r->S.drop p=dD t++(jw I++post)->
  ∃g,lS S e r p P J=.inr (p+(dD t++jw I).length,g,J++t::I)
 | [],t,r+1,p,S,P,J,ok,_,k,h=>by
  obtain ⟨a,i⟩:=ub ok c (post:=post) (by simpa [jw] using h) hp j;refine ⟨P++[a],?_⟩;rw [lS,i];simp only [];have f:S.drop (p+(dD t).length)=post:=fC (by simpa [jw] using h);rw [f,ab d];simp [jw]
 | u::I,t,r+1,p,S,P,J,ok,oks,k,h=>by
  have o:jw (u::I)++post=44::(dD u++(jw I++post)):=by simp [jw]
  rw [o] at h
  obtain ⟨a,i⟩:=ub ok c (post:=44::(dD u++(jw I++post))) h (nY (by decide)) (λs=>by
   obtain ⟨r,m⟩:=ur.1 s;cases m)
  have f:S.drop (p+(dD t).length)=44::(dD u++(jw I++post)):=fC h;have q:S.drop (p+(dD t).length+1)=dD u++(jw I++post):=fC (u:=[44]) f;obtain ⟨g,l⟩:=tO c b hp d j I u r (p+(dD t).length+1) (P++[a]) (J++[t]) (oks u kK) (λv n=>oks v (eC _ n)) (by simp at k;omega) q;refine ⟨g,?_⟩;rw [lS,i];simp only [];rw [f,pH,ae rfl,l];have:p+(dD t).length+1+(dD u++jw I).length=p+(dD t++jw (u::I)).length:=by simp [jw];omega
  rw [this];simp
def qW (K:Int) (e l:Bool) (I:List TI):aa:=
 (if K=4 then 123 else 91)::((if e then [46,46] else [])++(Lib.join (I.map dD) [44]++((if l then [46,46] else [])++[endC K])))
theorem AI (t:TI) (I:List TI):Lib.join ((t::I).map dD) [44]=dD t++jw I:=by
 rw [fg,Lib.join_cons];unfold Lib.joinTail jw;rw [sc];rfl
theorem FY {K:Int} (A:K=3\/K=4) {e l:Bool} {I:List TI} (p:1<=I.length) (C:I.length<=256) (ok:∀t∈I,OkI t) (y:(setE K e l I).2=0) {S:aa} {a:Nat} {post:aa} (h:S.drop a=qW K e l I++post):
  qG S a=.inr (K,e,l,I,a+(qW K e l I).length):=by
 obtain ⟨t,J,rfl⟩:∃t J,I=t::J:=by
  cases I with
  | nil=>simp at p
  | cons t J=>exact ⟨t,J,rfl⟩
 have d:brk (endC K)=true:=by unfold endC;split<;>decide
 have b:endC K≠44:=by unfold endC;split<;>decide
 have f:endC K≠46:=by unfold endC;split<;>decide
 unfold qW at h ⊢;rw [AI] at h ⊢;have m:S.drop (a+1)=(if e then [46,46] else [])++((dD t++jw J)++((if l then [46,46] else [])++(endC K::post))):=by
  have:=fC (u:=[if K=4 then 123 else 91]) (v:=((if e then [46,46] else [])++((dD t++jw J)++((if l then [46,46] else [])++[endC K])))++post) (by rw [h];rfl);rw [show a+1=a+[if K=4 then (123:UInt8) else 91].length from rfl,this];simp only [eJ,List.singleton_append]
 have B:dts (S.drop (a+1))=e:=by
  rw [m];cases e
  ·simp only [bE,aC,da];rw [eJ];exact mV (Ht (ok t kK) _)
  ·rfl
 have o:S.drop (if e then a+3 else a+1)=dD t++(jw J++((if l then [46,46] else [])++(endC K::post))):=by
  rw [<-eJ];cases e
  ·simpa using m
  ·have:=fC (u:=[46,46]) m;simpa using this
 have z:endT ((if l then [46,46] else [])++(endC K::post)):=by
  cases l
  ·exact nY d
  ·exact nY (by decide)
 have k:((if l then [46,46] else [])++(endC K::post)).head?≠some 44:=by
  cases l
  ·simp [b]
  ·simp
 have g:dts ((if l then [46,46] else [])++(endC K::post))=l:=by
  cases l
  ·cases j:dts ((if false then [46,46] else [])++(endC K::post))
   ·rfl
   ·obtain ⟨r,n⟩:=ur.1 j;simp at n;exact absurd n.1 f
  ·rfl
 obtain ⟨P,s⟩:=tO d b z k (λj=>by rw [g] at j;subst j;rfl) J t 256 (if e then a+3 else a+1) [] [] (ok t kK) (λu q=>ok u (eC _ q)) (by simp at C;omega) o;have i:S.drop ((if e then a+3 else a+1)+(dD t++jw J).length)=(if l then [46,46] else [])++(endC K::post):=by
  apply fC;rw [o,eJ]
 have c:vU S a K=.inr (K,e,l,t::J,a+(((if K=4 then 123 else 91)::((if e then [46,46] else [])++((dD t++jw J)++((if l then [46,46] else [])++[endC K]))):aa).length)):=by
  unfold vU;rw [B,s];simp only [da];unfold endL;rw [i,g];generalize D:(if e then a+3 else a+1)+(dD t++jw J).length=X at i ⊢;have w:S.drop (if l then X+2 else X)=endC K::post:=by
   cases l
   ·simpa using i
   ·have:=fC (u:=[46,46]) i;simpa using this
  rw [w,pH,ae rfl,ae y];have:(if l then X+2 else X)+1=a+(((if K=4 then 123 else 91)::((if e then [46,46] else [])++((dD t++jw J)++((if l then [46,46] else [])++[endC K]))):aa).length):=by
   rw [<-D];cases e<;>cases l<;>simp<;>omega
  rw [this]
 unfold qG;have x:(S.drop a).head?=some (if K=4 then 123 else 91):=by rw [h];rfl
 rw [x];rcases A with rfl | rfl
 ·rw [ae (show some (if (3:Int)=4 then (123:UInt8) else 91)=some 91 from rfl)];exact c
 ·rw [ab (show ¬some (if (4:Int)=4 then (123:UInt8) else 91)=some 91 by decide),ae (show some (if (4:Int)=4 then (123:UInt8) else 91)=some 123 from rfl)];exact c
theorem uI {x y:TD} {r all:Bool} (h:itE x r y all=0):cF x=0/\(r=true->cF y=0)/\(r=false->y=d0)/\itE x r y false=0:=by
 by_cases hc:cF x=0
 ·refine ⟨hc,?_⟩;cases r
  ·rw [S7 hc] at h ⊢;have hy:eqD y d0=true:=by
    cases a:eqD y d0
    ·rw [a] at h;simp at h
    ·rfl
   exact ⟨λh=>(by cases h),λ_=>lC.1 hy,by rw [hy];simp⟩
  ·by_cases hy:cF y=0
   ·rw [Tj hc hy] at h ⊢;have b:ordB x y=true:=by
     cases a:ordB x y
     ·rw [a] at h;simp at h
     ·rfl
    exact ⟨λ_=>hy,λh=>(by cases h),by rw [b];simp⟩
   ·rw [RG hc hy] at h;exact absurd h hy
 ·rw [SX hc] at h;exact absurd h hc
theorem QA {t:TI} {all:Bool} (hs:smI t) (h:itI t all=0):OkI t:=by
 obtain ⟨a,b,c,_⟩:=uI h;exact ⟨hs,a,b,c⟩
theorem B5 {x y:TD} (r:Bool) (hx:smT x) (hy:smT y):fe 20000000 x r y=some (if itE x r y false=0 then (dD (mkI x r y),0) else ([],itE x r y false)):=by
 unfold fe;rw [BJ r hx hy,ae (.inl rfl),show ((3:Int)==4)=false from rfl];simp only [ob];by_cases h:itE x r y false=0
 ·obtain ⟨a,b,c,_⟩:=uI h;rw [ae h,h,dfT hx a];simp only [eF,af,u2];cases r
  ·rfl
  ·have e:=mC hx a;have d:=mC hy (b rfl);simp only [aj,dfT hy (b rfl)];rw [dE (by simp only [aG,cA];omega)];simp only [];rw [dE (by simp only [bv,aG,cA];omega)];rfl
 ·rw [ab h,show (itE x r y false != 0)=true from by simp [h]];rfl
theorem Au:∀{I:List TI},(∀t∈I,OkI t)->(jw I).length<=77*I.length
 | [],_=>by simp [jw]
 | t::I,h=>by
  have b:=zO (h t kK);have c:=Au (I:=I) λu a=>h u (eC _ a);have:jw (t::I)=(44::dD t)++jw I:=by simp [jw]
  rw [this];simp only [bv,aG];omega
theorem H7 {I:List TI} (h:∀t∈I,OkI t):(Lib.join (I.map dD) [44]).length<=77*I.length:=by
 cases I with
 | nil=>simp [Lib.join_nil]
 | cons t I=>
  have b:=zO (h t kK);have c:=Au (I:=I) λu a=>h u (eC _ a);rw [AI];simp only [bv,aG];omega
theorem Ig {I:List TI} {i:Nat} {t:TI} (h:I[i]?=some t) (w:aa) (a:w=dD t):((I.take i).map dD++List.replicate (I.length - i) []).set i w=(I.take (i+1)).map dD++List.replicate (I.length - (i+1)) []:=by
 have hi:i<I.length:=(vI.1 h).1;obtain ⟨k,c⟩:∃k,I.length - i=k+1:=⟨I.length - i - 1,by omega⟩;have b:((I.take i).map dD).length=i:=by simp;omega
 rw [c,qc,show I.length - (i+1)=k by omega,ox,h,a];rw [List.set_append_right _ _ (by omega),b,yI];simp
theorem IT {I:List TI} (hs:∀t∈I,OkI t/\itI t false=0) (h:I.length<=1000) (K:Int) (D:TD) (KF:Int) (DF:TD) (KT:Int) (DT:TD) (e l:Bool):∀(r i:Nat),i+r=I.length->∀N,r<N->
  au (bJ 20000000) N (len I,(i:Int),I,K,D,KF,DF,KT,DT,e,l,(I.take i).map dD++List.replicate (I.length - i) [])=some (I,K,D,KF,DF,KT,DT,e,l,I.map dD):=by
 intro r
 induction r with
 | zero=>
  intro i hi N d;obtain ⟨N,rfl⟩:∃k,N=k+1:=⟨N - 1,by omega⟩;obtain rfl:i=I.length:=by omega
  have:bJ 20000000 (len I,((I.length:Nat):Int),I,K,D,KF,DF,KT,DT,e,l,(I.take I.length).map dD++List.replicate (I.length - I.length) [])=some (.inr (I,K,D,KF,DF,KT,DT,e,l,I.map dD)):=by
   unfold bJ;simp only [u12,u11,u10,u9,u8,u7,u6,u5,u4,u3,u2];rw [ay (show ¬((I.length:Nat):Int)<len I by show ¬((I.length:Nat):Int)<((I.length:Nat):Int);omega),yI,me];simp
  rw [au,this]
 | succ r ih=>
  intro i hi N d;obtain ⟨N,rfl⟩:∃k,N=k+1:=⟨N - 1,by omega⟩;have a:i<I.length:=by omega
  have b:I[i]?=some I[i]:=bG a;obtain ⟨ok,c⟩:=hs _ (List.getElem_mem a);generalize I[i]=t at b ok c;have g:((I.take i).map dD++List.replicate (I.length - i) ([]:aa)).length=I.length:=by simp;omega
  have:bJ 20000000 (len I,(i:Int),I,K,D,KF,DF,KT,DT,e,l,(I.take i).map dD++List.replicate (I.length - i) [])=some (.inl (len I,((i+1:Nat):Int),I,K,D,KF,DF,KT,DT,e,l,(I.take (i+1)).map dD++List.replicate (I.length - (i+1)) [])):=by
   unfold bJ;simp only [u12,u11,u10,u9,u8,u7,u6,u5,u4,u3,u2];rw [aw (show (i:Int)<len I by show (i:Int)<((I.length:Nat):Int);omega),eY a];simp only [aj,ob,b];rw [show fe 20000000 (iF t) (d8 t).2.2.1 (d8 t).2.2.2=some (dD t,0) from (B5 (rT t) ok.sm.1 ok.sm.2).trans (by rw [ae (show itE (iF t) (rT t) (iT t) false=0 from c)])];simp only [g];rw [eY a];simp only [];obtain ⟨w,f⟩:∃w,((I.take i).map dD++List.replicate (I.length - i) ([]:aa))[i]?=some w:=⟨_,bG (by omega)⟩;rw [f];simp only [u2];rw [Ig b _ rfl,yo (by omega)]
  rw [au,this];exact ih (i+1) (by omega) N (by omega)
structure SetP (K:Int) (D:TD) (KF:Int) (DF:TD) (KT:Int) (DT:TD) (e l:Bool) (I:List TI):Prop where
 kind:K=3\/K=4
 d:D=d0
 kf:KF=0
 df:DF=d0
 kt:KT=0
 dt:DT=d0
 one:1<=I.length
 most:I.length<=256
 its:∀t∈I,itI t (K==4)=0
 set:(setE K e l I).2=0
theorem wc {A:Type} {f:Nat->A->Int}:∀{L:List A} {k:Nat},rI f k L=none->∀t∈L,∃i,f i t=0
 | u::L,k,h,t,a=>by
  rw [rI] at h;split at h
  ·cases h
  ·rename_i b;rcases cq.1 a with rfl | a
   ·exact ⟨k,JE.1 b⟩
   ·exact wc h t a
theorem Et {A:Type} {f:Nat->A->Int}:∀{L:List A} {k:Nat} {p:Nat×Int},rI f k L=some p->p.2≠0
 | u::L,k,p,h=>by
  rw [rI] at h;split at h
  ·rename_i a;cases h;exact a
  ·exact Et h
theorem Q3 {K:Int} {e l:Bool} {n i:Nat} {t:TI} (h:errI K e l n i t=0):itI t (K==4)=0:=by
 unfold errI at h;split at h
 ·rename_i a;exact absurd h a
 ·rename_i a;exact JE.1 a
theorem ut {K:Int} (g:K=3\/K=4) {D:TD} {KF:Int} {DF:TD} {KT:Int} {DT:TD} {e l:Bool} {I:List TI} (h:(gv K D KF DF KT DT e l I).2=0):SetP K D KF DF KT DT e l I:=by
 have m:=h;unfold gv at h;rw [ab (by omega)] at h;split at h
 ·simp at h
 ·rename_i f;rw [ab (by omega),ab (by omega)] at h;split at h
  ·simp at h
  ·split at h
   ·simp at h
   ·unfold xh at h;have j:D=d0/\KF=0/\DF=d0/\KT=0/\DT=d0:=by
     unfold unuB at f;have k1:(K==1)=false:=by rcases g with rfl | rfl<;>rfl
     have k2:(K==2)=false:=by rcases g with rfl | rfl<;>rfl
     have n:(K==3||(K==4||(decide (I.length=0)&&(!e&&!l))))=true:=by rcases g with rfl | rfl<;>rfl
     rw [k1,k2,n] at f;generalize q:eqD D d0=z1 at f;generalize r:eqD DF d0=z2 at f;generalize o:eqD DT d0=s at f;simp only [vB,dc,Io,ET,gu,kN,not_or,Bool.not_eq_false,az,bA] at f;obtain ⟨a,⟨b,c⟩,d,e⟩:=f;exact ⟨lC.1 (q.trans a),b,lC.1 (r.trans c),d,lC.1 (o.trans e)⟩
    obtain ⟨rfl,rfl,rfl,rfl,rfl⟩:=j;cases hs:rI (errI K e l I.length) 0 I with
    | some p=>rw [hs] at h;exact absurd h (Et hs)
    | none=>
     refine ⟨g,rfl,rfl,rfl,rfl,rfl,by omega,by omega,λt k=>?_,m⟩;obtain ⟨i,hi⟩:=wc hs t k;exact Q3 hi
theorem M8 {K:Int} {D:TD} {KF:Int} {DF:TD} {KT:Int} {DT:TD} {e l:Bool} {I:List TI} (p:SetP K D KF DF KT DT e l I) (hs:∀t∈I,smI t):∀t∈I,OkI t/\itI t false=0:=
 λt a=>⟨QA (hs t a) (p.its t a),(uI (p.its t a)).2.2.2⟩
def Ft (K:Int):Prop:=K=3\/K=4
instance (K:Int):Decidable (Ft K):=inferInstanceAs (Decidable (K=3\/K=4))
theorem PK {K:Int} {D:TD} {KF:Int} {DF:TD} {KT:Int} {DT:TD} {e l:Bool} {I:List TI} (h:smE D DF DT I):
  jR 20000000 K D KF DF KT DT e l I=some (if Ft K then (if (gv K D KF DF KT DT e l I).2=0 then (qW K e l I,0) else ([],(gv K D KF DF KT DT e l I).2)) else ([],18)):=by
 have c:∀C:Ft K,(ob (fq 20000000 K D KF DF KT DT e l I) λj=>(cond (j != 0) (some ([],j)) (cond (decide ((0:Int)<=(len I))&&(decide ((len I)<=(len I))&&decide ((len I)<=(67108864:Int)))) (ob (au (bJ 20000000) 20000000 ((len I),0,I,K,D,KF,DF,KT,DT,e,l,(List.replicate (Int.toNat (len I)) ([]:aa)))) (u10 λ_ r _ _ _ _ _ A k a=>(ob (du 20000000 r) (u2 λf b=>(cond A (ob (cat f ([46,46]:aa)) λi=>(cond k (ob (cat ([46,46]:aa) b) λy=>(cond (Nat.ble (List.length a) 140737488355328&&Nat.ble (List.length (Lib.join a ([44]:aa))) 140737488355328) (ob (cat i (Lib.join a ([44]:aa))) λo=>(ob (cat o y) λx=>(some (x,0)))) none)) (cond (Nat.ble (List.length a) 140737488355328&&Nat.ble (List.length (Lib.join a ([44]:aa))) 140737488355328) (ob (cat i (Lib.join a ([44]:aa))) λv=>(ob (cat v b) λB=>(some (B,0)))) none))) (cond k (ob (cat ([46,46]:aa) b) λp=>(cond (Nat.ble (List.length a) 140737488355328&&Nat.ble (List.length (Lib.join a ([44]:aa))) 140737488355328) (ob (cat f (Lib.join a ([44]:aa))) λq=>(ob (cat q p) λu=>(some (u,0)))) none)) (cond (Nat.ble (List.length a) 140737488355328&&Nat.ble (List.length (Lib.join a ([44]:aa))) 140737488355328) (ob (cat f (Lib.join a ([44]:aa))) λs=>(ob (cat s b) λz=>(some (z,0)))) none))))))) none))) =
   some (if (gv K D KF DF KT DT e l I).2=0 then (qW K e l I,(0:Int)) else ([],(gv K D KF DF KT DT e l I).2)):=by
  intro C;rw [E8 h];simp only [ob];by_cases g:(gv K D KF DF KT DT e l I).2=0
  ·have P:=ut C g;have J:=P.most;have oks:=M8 P h.2.2.2;have H:=H7 λt F=>(oks t F).1;rw [ae g,g];have d:=IT oks (by omega) K D KF DF KT DT e l I.length 0 (by omega) 20000000 (by omega);simp only [eF,af];have c3:(decide ((0:Int)<=(len I))&&(decide ((len I)<=(len I))&&decide ((len I)<=(67108864:Int))))=true:=by
    have:len I=((I.length:Nat):Int):=rfl;rw [this];simp only [az,bX];omega
   rw [c3,aj,show (List.replicate (Int.toNat (len I)) ([]:aa))=(I.take 0).map dD++List.replicate (I.length - 0) [] from by simp];rw [show au (bJ 20000000) 20000000 (len I,(0:Int),I,K,D,KF,DF,KT,DT,e,l,(I.take 0).map dD++List.replicate (I.length - 0) [])=_ from d];have G:(Nat.ble (List.length (I.map dD)) 140737488355328&&Nat.ble (List.length (Lib.join (I.map dD) ([44]:aa))) 140737488355328)=true:=by
    simp only [az];exact ⟨co (by simp;omega),co (by omega)⟩
   simp only [u10,u9,u8,u7,u6,u5,u4,u3,u2,u0 C,G,aj];unfold qW;generalize E:(if K=4 then (123:UInt8) else 91)=b1;generalize endC K=b2;generalize Lib.join (I.map dD) [44]=w at H;cases e<;>cases l<;>simp only [aj,af]
   ·rw [dE (by simp only [aG,cA];omega)];simp only [];rw [dE (by simp only [bv,aG,cA];omega)];simp
   ·rw [dE (by simp only [aG,cA];omega)];simp only [];rw [dE (by simp only [aG,cA];omega)];simp only [];rw [dE (by simp only [bv,aG,cA];omega)];simp
   ·rw [dE (by simp only [aG,cA];omega)];simp only [];rw [dE (by simp only [bv,aG,cA];omega)];simp only [];rw [dE (by simp only [bv,aG,cA];omega)];simp
   ·rw [dE (by simp only [aG,cA];omega)];simp only [];rw [dE (by simp only [aG,cA];omega)];simp only [];rw [dE (by simp only [bv,aG,cA];omega)];simp only [];rw [dE (by simp only [bv,aG,cA];omega)];simp
  ·rw [ab g,show ((gv K D KF DF KT DT e l I).2 != 0)=true from by simp [g]];rfl
 unfold jR;by_cases n:K=3
 ·rw [show (K != 3)=false from by simp [n],ae (.inl n)];exact c (.inl n)
 ·rw [show (K != 3)=true from by simp [n],aj];by_cases m:K=4
  ·rw [show (K != 4)=false from by simp [m],ae (.inr m)];exact c (.inr m)
  ·rw [show (K != 4)=true from by simp [m],ab (by rintro (h | h)<;>contradiction)];rfl
theorem JS (n:Nat) (K:Int) (D:TD) (KF:Int) (DF:TD) (KT:Int) (DT:TD) (c:Nat) (e l:Bool) (L:List TI):gi n K D KF DF KT DT L.length c e l L=fq n K D KF DF KT DT e l L:=by
 unfold gi fq;rw [HM]
theorem BV (n N:Nat) (i K:Int) (D:TD) (KF:Int) (DF:TD) (KT:Int) (DT:TD) (c:Nat) (e l:Bool) (L:List TI) (ws:List (aa)):
  au (eo n) N (L.length,c,len L,i,L,K,D,KF,DF,KT,DT,L.length,c,e,l,ws)=(au (bJ n) N (len L,i,L,K,D,KF,DF,KT,DT,e,l,ws)).map (u10 λd g o q m p k h b a=>(d,g,o,q,m,p,k,d.length,c,h,b,a)):=
 vp (s:=bJ n) (s':=eo n) (u12 λr f d g o q m p k h b a=>(d.length,c,r,f,d,g,o,q,m,p,k,d.length,c,h,b,a)) _ (by
  rintro ⟨r,f,d,g,o,q,m,p,k,h,b,a⟩;unfold bJ eo;simp only [u16,u15,u14,u13,u12,u11,u10,u9,u8,u7,u6,u5,u4,u3,u2];cases decide (f<r)
  ·rfl
  ·simp only [aj];cases ix d.length f with
   | none=>rfl
   | some i=>
    simp only [ob];cases d[i]? with
    | none=>rfl
    | some t=>
     simp only [ob];cases fe n (iF t) (d8 t).2.2.1 (d8 t).2.2.2 with
     | none=>rfl
     | some v=>
      simp only [ob];cases ix a.length f with
      | none=>rfl
      | some j=>
       simp only [ob];cases a[j]?<;>rfl) N (len L,i,L,K,D,KF,DF,KT,DT,e,l,ws)
theorem Qa (n:Nat) (K:Int) (D:TD) (KF:Int) (DF:TD) (KT:Int) (DT:TD) (c:Nat) (e l:Bool) (L:List TI):ks n K D KF DF KT DT L.length c e l L=jR n K D KF DF KT DT e l L:=by
 unfold ks jR;rw [JS,show au (eo n) n (L.length,c,((L.length:Nat):Int),0,L,K,D,KF,DF,KT,DT,L.length,c,e,l,List.replicate (Int.toNat ((L.length:Nat):Int)) [])=_ from BV n n 0 K D KF DF KT DT c e l L _];rw [show List.replicate (Int.toNat ((L.length:Nat):Int)) ([]:aa)=List.replicate (Int.toNat (len L)) [] from rfl];cases au (bJ n) n (len L,0,L,K,D,KF,DF,KT,DT,e,l,List.replicate (Int.toNat (len L)) []) with
 | none=>rfl
 | some y=>rfl
theorem FM {K:Int} (b:Ft K) {e l:Bool} {I:List TI} (c:1<=I.length) (d:I.length<=256) (ok:∀t∈I,OkI t) (a:(setE K e l I).2=0):AT (qW K e l I)=.inr (K,e,l,I):=by
 unfold AT;rw [FY b c d ok a (post:=[]) (by rw [cH,kx])];simp only [];rw [ab (by omega)]
theorem Tz {c:UInt8} (h:mkOf c≠0):mt (mkOf c)=[c]:=by
 unfold mkOf at h ⊢;by_cases b:c=63
 ·subst b;rfl
 ·rw [ab b] at h ⊢;by_cases d:c=126
  ·subst d;rfl
  ·rw [ab d] at h ⊢;by_cases a:c=37
   ·subst a;rfl
   ·rw [ab a] at h;exact absurd rfl h
theorem N8 (l:aa):l=mt (mkS l)++l.drop (mkN l):=by
 cases l with
 | nil=>rfl
 | cons c r=>
  unfold mkN;show c::r=mt (mkOf c)++_;by_cases h:mkOf c=0
  ·rw [ae (show mkS (c::r)=0 from h),h];rfl
  ·rw [ab (show ¬mkS (c::r)=0 from h),Tz h];rfl
theorem E1 (S:aa) (p:Nat):S.drop p=mt (mkS (S.drop p))++S.drop (mkE S p):=by
 have:=N8 (S.drop p);rw [iV] at this;exact this
theorem I0 (S:aa) (p:Nat):mkE S p=p+(mt (mkS (S.drop p))).length:=by
 unfold mkE mkN;have a:=DD (S.drop p);generalize mkS (S.drop p)=k at *;rcases (by omega:k=0\/k=1\/k=2\/k=3) with rfl | rfl | rfl | rfl<;>rfl
theorem zi {S:aa} {p:Nat} (h:¬twoN (S.drop p)<2):S.drop p=(S.drop p).take 2++S.drop (p+2)/\((S.drop p).take 2).length=2/\∀c∈(S.drop p).take 2,isDX c=true:=by
 have b:=Ag h;have a:twoN (S.drop p)=2:=by
  have:twoN (S.drop p)<=2:=by
   unfold twoN;have:∀(k:Nat) (l:aa),bV isDX k l<=k:=by
    intro k
    induction k with
    | zero=>intro l;cases l<;>simp [bV]
    | succ k ih=>
     intro l;cases l with
     | nil=>simp [bV]
     | cons c r=>
      simp only [bV];split
      ·have:=ih r;omega
      ·omega
   exact this 2 _
  omega
 refine ⟨by rw [<-iV];exact (qj 2 _).symm,by simp;omega,?_⟩;have:=wd (p:=isDX) 2 (S.drop p);rw [show bV isDX 2 (S.drop p)=2 from a] at this;exact this
theorem wW {S:aa} {p:Nat} (h:¬eZ 45 (S.drop p)=0):S.drop p=45::S.drop (p+1):=by
 cases a:S.drop p with
 | nil=>rw [a] at h;exact absurd rfl h
 | cons c r=>
  rw [a,rL] at h;by_cases hc:c=45
  ·subst hc;rw [<-iV,a];rfl
  ·rw [ab hc] at h;exact absurd rfl h
theorem rD {S:aa} {p k:Nat} {w:aa} (h:S.drop (mkE S p)=w++S.drop (mkE S p+k)):S.drop p=bO (mkS (S.drop p)) (mkS (S.drop (mkE S p+k))) w++S.drop (mkE S (mkE S p+k)):=by
 unfold bO;rw [eJ,eJ,<-E1,<-h,<-E1]
theorem GG {S:aa} {a:Nat} {g l:Bool} {dg:aa} {x s:Nat} {m d:aa} {M P:Nat×Nat×Nat} {e:Nat} (b:pq S a=.inr (g,l,dg,x,s,m,d,M,P,e)):
  ∃A B,MkD A B m d/\M=spM A B/\P.1=a+(mt A.1).length/\S.drop a=rawD A B g l dg (x:Int) (s:Int) m d++S.drop e:=by
 unfold pq at b;cases hy:qC (S.drop (mkE S a)) with
 | inl k=>rw [hy] at b;cases b
 | inr y=>
  obtain ⟨G,N,o,E,s',k⟩:=y;obtain ⟨I,Q,_⟩:=vd hy;have C:S.drop (mkE S a)=eh G N o (E:Int) (s':Int)++S.drop (mkE S a+k):=by
   rw [<-I,<-iV];exact (qj k _).symm
  have w0:=rD C;have c:=λp=>DD (S.drop p);rw [hy] at b;simp only [] at b;by_cases q:0<s'\/eZ 45 (S.drop (mkE S (mkE S a+k)))=0
  ·rw [ae q] at b;simp only [mf,bf] at b;obtain ⟨rfl,rfl,rfl,rfl,rfl,rfl,rfl,rfl,rfl,rfl⟩:=b;refine ⟨(mkS (S.drop a),0,0),(mkS (S.drop (mkE S a+k)),0,0),⟨c _,by simp,by simp,c _,by simp,by simp,λ_=>⟨rfl,rfl⟩,λ_=>⟨rfl,rfl⟩⟩,rfl,I0 S a,?_⟩;unfold rawD;simpa using w0
  ·rw [ab q] at b;have v:=wW (λh=>q (.inr h));unfold rd2 at b;simp only [] at b;generalize F:mkE S (mkE S a+k)=i at *;by_cases u:twoN (S.drop (mkE S (i+1)))<2
   ·rw [ae u] at b;cases b
   rw [ab u] at b;obtain ⟨L,w,O⟩:=zi u;have z:=rD L;have f:(S.drop (mkE S (i+1))).take 2≠[]:=λh=>by rw [h] at w;simp at w
   by_cases t:eZ 45 (S.drop (mkE S (mkE S (i+1)+2)))=0
   ·rw [ae t] at b;simp only [mf,bf] at b;obtain ⟨rfl,rfl,rfl,rfl,rfl,rfl,rfl,rfl,rfl,rfl⟩:=b;refine ⟨(mkS (S.drop a),mkS (S.drop (i+1)),0),(mkS (S.drop (mkE S a+k)),mkS (S.drop (mkE S (i+1)+2)),0),⟨c _,c _,by simp,c _,c _,by simp,λh=>absurd h f,λ_=>⟨rfl,rfl⟩⟩,rfl,I0 S a,?_⟩;unfold rawD;rw [ab f,ae rfl,kx,eJ,dL,<-z,<-v];exact w0
   ·rw [ab t] at b;have H:=wW t;unfold rd3 at b;generalize D:mkE S (mkE S (i+1)+2)=n at *;by_cases r:twoN (S.drop (mkE S (n+1)))<2
    ·rw [ae r] at b;cases b
    rw [ab r] at b;obtain ⟨K,u2,u3⟩:=zi r;have J:=rD K;have j:(S.drop (mkE S (n+1))).take 2≠[]:=λh=>by rw [h] at u2;simp at u2
    simp only [mf,bf] at b;obtain ⟨rfl,rfl,rfl,rfl,rfl,rfl,rfl,rfl,rfl,rfl⟩:=b;refine ⟨(mkS (S.drop a),mkS (S.drop (i+1)),mkS (S.drop (n+1))),(mkS (S.drop (mkE S a+k)),mkS (S.drop (mkE S (i+1)+2)),mkS (S.drop (mkE S (n+1)+2))),⟨c _,c _,c _,c _,c _,c _,λh=>absurd h f,λh=>absurd h j⟩,rfl,I0 S a,?_⟩;unfold rawD;rw [ab f,ab j,eJ,eJ,dL,dL,<-J,<-H,<-z,<-v];exact w0
def okC (c:UInt8):Bool:=isDX c||(isMk c||(c==45||(c==89||(c==69||c==83))))
def isLv (c:UInt8):Bool:=c==69||(c==83||isMk c)
theorem Oi:∀c:UInt8,(!okC c||decide (c.toNat<128))=true:=gN (λc=>!okC c||decide (c.toNat<128)) (by decide +kernel)
theorem P8 {c:UInt8} (h:okC c=true):c.toNat<128:=by
 have:=Oi c;rw [h] at this;simpa using this
def dgC (c:UInt8):UInt8:=if bg c then 100 else c
theorem QQ:∀c:UInt8,(!decide (c.toNat<128)||(decide (0<=mM (c.toNat:Int))&&(Lib.encodeRune (mM (c.toNat:Int))==[dgC c])))=true:=
 gN (λc=>!decide (c.toNat<128)||(decide (0<=mM (c.toNat:Int))&&(Lib.encodeRune (mM (c.toNat:Int))==[dgC c]))) (by decide +kernel)
theorem FN:∀{l:aa},(∀c∈l,c.toNat<128)->wT l=l.map dgC:=by
 have a:∀(n:Nat) (l:aa),l.length=n->(∀c∈l,c.toNat<128)->Lib.mapGoD mM n l=l.map dgC:=by
  intro n
  induction n with
  | zero=>intro l b _;rw [rl b];rfl
  | succ n ih=>
   intro l b h;cases l with
   | nil=>simp at b
   | cons c r=>
    have e:Lib.decodeL (c::r)=(c.toNat,1):=xG (l:=c::r) (i:=0) rfl (h c kK);rw [Lib.mapGoD,ab (by simp),e];have:=QQ c;rw [aw (h c kK)] at this;simp only [dc,vB,az,bX,bA] at this;rw [ae this.1,this.2];rw [show (c::r).drop 1=r from rfl,ih r (by simpa using b) (λd e=>h d (eC _ e))];rfl
 intro l h;exact a l.length l rfl h
theorem uE (s a:aa):Lib.containsAny s a=s.any (a.contains ·):=by
 induction s with
 | nil=>rfl
 | cons b l ih=>
  unfold Lib.containsAny at ih ⊢;have d:=Lib.indexAny_ge a l;rw [Lib.indexAny,um];cases c:a.contains b
  ·rw [ab (by simp),vB,<-ih];by_cases h:Lib.indexAny l a=-1
   ·rw [ae (by simp [h]),h]
   ·rw [ab (by simp [h])];congr 1;exact propext (by omega)
  ·simp
def uq (u:aa):aa:=match u with | c::r=>if c=45 then r else c::r | []=>[]
def i6:List (aa):=[[100,100,100,88],[100,100,88,88],[100,100,100,100,45,88,88],[100,100,100,100,45,100,100,45,88,88],[100,100,100,100,45,88,88,45,88,88]]
def simB (v:aa):Bool:=i6.contains (v.map dgC)
theorem L0 (n:Nat) (u:aa):gK n u=some (uq u):=by
 unfold gK eK dP uq;cases u with
 | nil=>rfl
 | cons c r=>
  have a:bx (c::r).length (1:Int)=some 1:=eD (i:=1) (by simp);rw [aw (show (((c::r).length:Nat):Int)>=1 by rw [aG];omega),aj,a];simp only [ob,kE,kG,cH];by_cases hc:c=45
  ·subst hc;rw [ae rfl];simp
  ·rw [ab hc,show (([c]:aa)==[45])=false from by simp [hc]];rfl
theorem Tm (n:Nat) (u:aa):bZ n u=some (decide (u.head?=some 89)):=by
 unfold bZ dW;cases u with
 | nil=>rfl
 | cons c r=>
  have a:bx (c::r).length (1:Int)=some 1:=eD (i:=1) (by simp);rw [aw (show (((c::r).length:Nat):Int)>=1 by rw [aG];omega),aj,a];simp only [ob,kE,kG,cH,pH,ah];rw [show (([c]:aa)==[89])=decide (c=89) from by rw [AS];simp]
theorem vV (v:aa):cu 20000000 v i6=some (i6.contains v):=by
 have g:∀(r i:Nat),i+r=5->∀N,r<N->au (aT 20000000) N (v,5,(i:Int),i6)=some (if (i6.drop i).contains v then .inl ((i+(i6.drop i).idxOf v:Nat):Int) else .inr ()):=by
  intro r
  induction r with
  | zero=>
   intro i hi N d;obtain ⟨N,rfl⟩:∃k,N=k+1:=⟨N - 1,by omega⟩;obtain rfl:i=5:=by omega
   rw [au];rfl
  | succ r ih=>
   intro i hi N d;obtain ⟨N,rfl⟩:∃k,N=k+1:=⟨N - 1,by omega⟩;have a:i<i6.length:=by show i<5;omega
   have e:=bG a;have:aT 20000000 (v,5,(i:Int),i6)=some (if v=i6[i] then .inr (.inl (i:Int)) else .inl (v,5,((i+1:Nat):Int),i6)):=by
    unfold aT;simp only [];rw [aw (show (i:Int)<5 by omega),aj,eY a];simp only [ob,e];rw [show IntKind.wrap .i64 ((i:Int)+1)=((i+1:Nat):Int) from yo (by omega),ig];split<;>rfl
   rw [au,this,wZ a];by_cases b:v=i6[i]
   ·rw [ae b];simp only [];rw [<-b];simp
   ·rw [ab b];simp only [];rw [ih (i+1) (by omega) N (by omega)];have f:(i6[i]==v)=false:=by simp;exact λh=>b h.symm
    have c:(v==i6[i])=false:=by simp;exact b
    rw [List.contains_cons,c,vB,List.idxOf_cons,f];simp only [af];rw [show i+1+List.idxOf v (List.drop (i+1) i6)=i+(List.idxOf v (List.drop (i+1) i6)+1) by omega]
 have:=g 5 0 rfl 20000000 (by omega);unfold cu dJ;rw [show au (aT 20000000) 20000000 (v,(((List.length i6):Nat):Int),0,i6)=_ from this];rw [cH];cases h:i6.contains v
 ·rfl
 ·simp only [aI,ob];rw [aw (by omega)]
def lvl (u:aa) (b X:Bool) (code:Int):Int:=
 if u.any isLv then 2 else if 24<code then 2 else if (X&&!simB (uq u))=true then 2
 else if b=true\/X=true\/0<code\/u.head?=some 45\/u.head?=some 89 then 1 else 0
structure Body (T u:aa) (k:Nat):Prop where
 eq:T=u++mt k
 k4:k<4
 last:∃v z,u=v++[z]/\isMk z=false
 asc:∀c∈T,c.toNat<128
 len:T.length<=1000
theorem Body.ascu {T u:aa} {k:Nat} (h:Body T u k):∀c∈u,c.toNat<128:=λc hc=>h.asc c (by rw [h.eq];exact List.mem_append_left _ hc)
theorem Body.lenu {T u:aa} {k:Nat} (h:Body T u k):u.length<=1000:=by
 have:=h.len;rw [h.eq,bv] at this;omega
theorem NS (c:UInt8):([63,126,37]:aa).contains c=isMk c:=by
 have:=gN (λc=>([63,126,37]:aa).contains c==isMk c) (by decide +kernel) c;simpa using this
theorem Ta {k:Nat} (h:k<4):∀c∈mt k,isMk c=true/\c≠69/\c≠83/\c≠88:=by
 rcases (by omega:k=0\/k=1\/k=2\/k=3) with rfl | rfl | rfl | rfl<;>simp [mt,isMk,mkOf]
theorem JG {p:UInt8->Bool}:∀{l:aa},(∀c∈l,p c=true)->l.dropWhile p=[]
 | [],_=>rfl
 | c::l,h=>by rw [List.dropWhile_cons,h c kK];exact JG λd a=>h d (eC _ a)
theorem AD {T u:aa} {k:Nat} (h:Body T u k):Lib.trimRightS T [63,126,37]=u:=by
 obtain ⟨v,z,rfl,a⟩:=h.last;unfold Lib.trimRightS;rw [h.eq,List.reverse_append,List.reverse_append];have:List.dropWhile (λx=>([63,126,37]:aa).contains x) ((mt k).reverse++([z].reverse++v.reverse))=[z].reverse++v.reverse:=by
  rw [List.dropWhile_append];have b:List.dropWhile (λx=>([63,126,37]:aa).contains x) (mt k).reverse=[]:=by
   refine JG λc hc=>?_;rw [NS];exact (Ta h.k4 c (By.1 hc)).1
  rw [b];simp only [List.isEmpty_nil,aI,List.reverse_singleton,List.singleton_append];rw [List.dropWhile_cons,NS,a];simp
 rw [this];simp
theorem Qj (c:UInt8):([63,126,37,69,83]:aa).contains c=isLv c:=by
 have:=gN (λc=>([63,126,37,69,83]:aa).contains c==isLv c) (by decide +kernel) c;simpa using this
theorem LQ (u:aa):(u==uq u)=!decide (u.head?=some 45):=by
 unfold uq;cases u with
 | nil=>rfl
 | cons c r=>
  simp only [pH,ah];by_cases hc:c=45
  ·subst hc;rw [ae rfl,aw rfl];simp only [dc,br,ne_eq];intro h;have:=ck List.length h;simp at this
  ·rw [ab hc,ay hc];simp
theorem Hq (u:aa):(uq u).length<=u.length:=by
 unfold uq;split
 ·split<;>simp
 ·simp
theorem Jg {u:aa}:∀c∈uq u,c∈u:=by
 unfold uq;split
 ·split
  ·intro c hc;exact eC _ hc
  ·intro c hc;exact hc
 ·intro c hc;exact hc
theorem HI {T u:aa} {k:Nat} (h:Body T u k):(u==T)=decide (k=0):=by
 rw [h.eq];rcases (by have:=h.k4;omega:k=0\/k=1\/k=2\/k=3) with rfl | rfl | rfl | rfl
 ·simp [mt]
 all_goals
  rw [show decide _=false from rfl,br];intro e;have:=ck List.length e;simp [mt] at this
theorem TL {T u:aa} {k:Nat} (h:Body T u k) {x:TD} (hs:smT x):jJ 20000000 T x=some (lvl u (decide (k≠0)) (hasX x.2.2.1||(hasX x.2.2.2.2.2.1||hasX x.2.2.2.2.2.2.1)) (seT x)):=by
 have l:ap10 (aY 20000000) x=some (seT x,decide (0<seT x)):=n9 20000000 _ _ _ _ _ _ _ _ _ _ hs.1;have m:=h.len;have g:=h.lenu;have j:=Hq u;have f:vc T [63,126,37]=true:=by
  unfold vc;rw [co (by omega)];rfl
 have i:yY (uq u)=true:=co (by omega);have c3:uk u [63,126,37,69,83]=true:=by
  unfold uk;rw [co (show u.length<=4294967280 by omega)];have:I1 u=true:=bL.2 λc hc=>co (h.ascu c hc);rw [this];rfl
 unfold jJ;rw [l,fmT hs];simp only [ob,u2,f,aj,AD h,L0,i,c3,FN (λc hc=>h.ascu c (Jg c hc)),uE,Qj,Tm];rw [show ([[100,100,100,88],[100,100,88,88],[100,100,100,100,45,88,88],[100,100,100,100,45,100,100,45,88,88],[100,100,100,100,45,88,88,45,88,88]]:List (aa))=i6 from rfl,vV];simp only [LQ,HI h,Bool.not_not];unfold lvl simB;rw [show (List.any u λx=>isLv x)=u.any isLv from rfl];generalize (hasX x.2.2.1||(hasX x.2.2.2.2.2.1||hasX x.2.2.2.2.2.2.1))=X;generalize i6.contains ((uq u).map dgC)=F;cases u.any isLv
 ·simp only [af,bE,aC];by_cases b:24<seT x
  ·rw [ae b,aw (show 0<seT x by omega),aw (show seT x>=25 by omega)];rfl
  ·rw [ab b,ay (show ¬seT x>=25 by omega)];have a:(cond (decide (u.head?=some 45)) (some (1:Int)) (cond (decide (u.head?=some 89)) (some 1) (cond (!decide (k=0)) (some 1) (cond (decide (0<seT x)) (some 1) (cond X (some 1) (some 0))))))=some (if decide (k≠0)=true\/X=true\/0<seT x\/u.head?=some 45\/u.head?=some 89 then 1 else 0):=by
    by_cases a1:u.head?=some 45
    ·rw [aw a1,ae (by simp [a1])];rfl
    rw [ay a1];by_cases a2:u.head?=some 89
    ·rw [aw a2,ae (by simp [a2])];rfl
    rw [ay a2];by_cases d:k=0
    ·rw [aw d];by_cases e:0<seT x
     ·rw [aw e,ae (by simp [e])];rfl
     rw [ay e];cases X
     ·rw [ab (by simp [a1,a2,d,e])];rfl
     ·rw [ae (by simp)];rfl
    ·rw [ay d,ae (by simp [d])];rfl
   cases X
   ·simp only [af,EW,bE,aC];simp only [af,bE] at a;rw [<-a];cases decide (0<seT x)<;>rfl
   ·cases F
    ·cases decide (0<seT x)<;>rfl
    ·simp only [aj,dc,af,D5,bE,aC];simp only [aj] at a;rw [<-a];cases decide (0<seT x)<;>rfl
 ·rfl
theorem nO {k:Nat} (h:k<4):(mt k).all okC=true:=by
 rcases (by omega:k=0\/k=1\/k=2\/k=3) with rfl | rfl | rfl | rfl<;>decide
theorem x_mk {k:Nat} (h:k<4):(mt k).any (·==88)=false:=by
 rcases (by omega:k=0\/k=1\/k=2\/k=3) with rfl | rfl | rfl | rfl<;>decide
theorem Qv:((List.range 100).all λk=>(Lib.decDigits k).all λc=>okC c&&(!isMk c&&!(c==88)))=true:=by decide +kernel
theorem zh {k:Nat} (h:k<100) {letter:UInt8} (a:letter=69\/letter=83):(eH letter k).all (λc=>okC c&&(!isMk c&&!(c==88)))=true:=by
 unfold eH;split
 ·rw [kM,(bL.1 Qv) k (jP.2 h)];rcases a with rfl | rfl<;>decide
 ·rfl
theorem It {c:UInt8} (h:isDX c=true):okC c=true:=by unfold okC;rw [h];rfl
theorem vg {g l:Bool} {dg:aa} {x q:Nat} (h:okY g l dg (x:Int) (q:Int)):eh g l dg (x:Int) (q:Int)≠[]/\(∀c∈eh g l dg (x:Int) (q:Int),okC c=true/\isMk c=false)/\(eh g l dg (x:Int) (q:Int)).any (·==88)=hasX dg:=by
 obtain ⟨o,n,k,m,e,p⟩:=je h;have hx:x<100:=by omega
 have j:q<100:=by omega
 have a:=zh hx (letter:=69) (.inl rfl);have b:=zh j (letter:=83) (.inr rfl);have d:=Jd h;have f:dg≠[]:=by
  rintro rfl;simp at e
 rw [jM];refine ⟨by cases l<;>cases g<;>simp [f],λc hc=>?_,?_⟩
 ·simp only [kF,or_assoc] at hc;rcases hc with hc | hc | hc | hc | hc
  ·cases l
   ·cases hc
   ·rw [tJ.1 hc];decide
  ·cases g
   ·cases hc
   ·rw [tJ.1 hc];decide
  ·exact ⟨It (d c hc),FG (d c hc)⟩
  ·have:=(bL.1 a) c hc;simp only [az,kN] at this;exact ⟨this.1,this.2.1⟩
  ·have:=(bL.1 b) c hc;simp only [az,kN] at this;exact ⟨this.1,this.2.1⟩
 ·have no:∀w:aa,w.all (λc=>okC c&&(!isMk c&&!(c==88)))=true->w.any (·==88)=false:=by
   intro w i;rw [pM];intro c hc;have:=(bL.1 i) c hc;simp only [az,kN] at this;rw [this.2.2];simp
  simp only [si,no _ a,no _ b,Io];unfold hasX;cases l<;>cases g<;>simp
theorem BA {w:aa} (h:w≠[]) (a:∀c∈w,isMk c=false) (v:aa):∃b z,v++w=b++[z]/\isMk z=false:=
 ⟨v++w.dropLast,w.getLast h,by rw [eJ,List.dropLast_concat_getLast],a _ (List.getLast_mem h)⟩
theorem Ed {A B:Nat×Nat×Nat} {g l:Bool} {dg:aa} {x q:Nat} {m d:aa} (hs:ShD g l dg x q m d) (T:MkD A B m d):
  ∃u k,Body (rawD A B g l dg (x:Int) (q:Int) m d) u k/\u.any (·==88)=(hasX dg||(hasX m||hasX d))/\(u.any isLv=false->A=(0,0,0)/\(m≠[]->B.1=0)/\(d≠[]->B.2.1=0))/\k=(if m=[] then B.1 else if d=[] then B.2.1 else B.2.2):=by
 obtain ⟨L,F,s⟩:=vg hs.yr;have yl:=qT hs.yr;obtain ⟨j,p,C⟩:=A;obtain ⟨f,r,G⟩:=B;obtain ⟨a0,a1,a2,b0,b1,b2,zm,zd⟩:=T;simp only at a0 a1 a2 b0 b1 b2 zm zd;unfold rawD bO;simp only;generalize eh g l dg (x:Int) (q:Int)=Y at *;have b:∀w:aa,w.all okC=true->∀c∈w,c.toNat<128:=λw R c hc=>P8 ((bL.1 R) c hc);have v:Y.all okC=true:=bL.2 λc hc=>(F c hc).1;have i:∀k,k<4->(mt k).length<=1:=λk h=>by
  rcases (by omega:k=0\/k=1\/k=2\/k=3) with rfl | rfl | rfl | rfl<;>simp [mt]
 have O:=i j a0;have V:=i p a1;have I:=i C a2;have lb0:=i f b0;have W:=i r b1;have J:=i G b2;have a:∀k,k<4->(mt k).any isLv=false->k=0:=λk h=>by
  rcases (by omega:k=0\/k=1\/k=2\/k=3) with rfl | rfl | rfl | rfl<;>decide
 have o:∀w:aa,w.any (λx=>x==88)=hasX w:=λw=>rfl;by_cases n:m=[]
 ·have e:d=[]:=hs.day.resolve_right (λz=>z.1 n);subst n e;obtain ⟨rfl,rfl⟩:=zm rfl;obtain ⟨rfl,rfl⟩:=zd rfl;simp only [aI,kx];refine ⟨mt j++Y,f,⟨rfl,b0,BA L (λc hc=>(F c hc).2) _,b _ (by rw [zy,zy,nO a0,v,nO b0];rfl),by simp only [bv];omega⟩,?_,?_,rfl⟩
  ·rw [si,x_mk a0,s];simp [hasX]
  ·intro h;rw [si,ov] at h;exact ⟨by rw [a _ a0 h.1],λh=>absurd rfl h,λh=>absurd rfl h⟩
 ·obtain ⟨U,mx⟩:=hs.mon.resolve_left n;have H:m.all okC=true:=bL.2 λc hc=>It (mx c hc);rw [ab n,ab n];by_cases e:d=[]
  ·subst e;obtain ⟨rfl,rfl⟩:=zd rfl;simp only [aI,kx];refine ⟨mt j++Y++mt f++(45::(mt p++m)),r,⟨by simp,b1,?_,b _ ?_,by simp only [bv,aG];omega⟩,?_,?_,rfl⟩
   ·have:=BA n (λc hc=>FG (mx c hc)) (mt j++Y++mt f++(45::mt p));simpa using this
   ·simp only [zy,kM,nO a0,v,nO b0,nO a1,H,nO b1,show okC 45=true from by decide];rfl
   ·simp only [si,um,x_mk a0,x_mk b0,x_mk a1,s];simp only [o];simp [hasX]
   ·intro h;simp only [si,um,ov] at h;obtain ⟨⟨⟨t,X⟩,D⟩,K,y,Z⟩:=h;exact ⟨by rw [a _ a0 t,a _ a1 y],λ_=>a _ b0 D,λh=>absurd rfl h⟩
  ·obtain ⟨_,N,E⟩:=hs.day.resolve_left e;have S:d.all okC=true:=bL.2 λc hc=>It (E c hc);rw [ab e,ab e];refine ⟨mt j++Y++mt f++(45::(mt p++m++mt r))++(45::(mt C++d)),G,⟨by simp,b2,?_,b _ ?_,by simp only [bv,aG];omega⟩,?_,?_,rfl⟩
   ·have:=BA e (λc hc=>FG (E c hc)) (mt j++Y++mt f++(45::(mt p++m++mt r))++(45::mt C));simpa using this
   ·simp only [zy,kM,nO a0,v,nO b0,nO a1,H,nO b1,nO a2,S,nO b2,show okC 45=true from by decide];rfl
   ·simp only [si,um,x_mk a0,x_mk b0,x_mk a1,x_mk b1,x_mk a2,s];simp only [o];simp [Bool.or_assoc]
   ·intro h;simp only [si,um,ov] at h;obtain ⟨⟨⟨⟨t,X⟩,D⟩,K,⟨y,Z⟩,M⟩,h8,P,Q⟩:=h;exact ⟨by rw [a _ a0 t,a _ a1 y,a _ a2 P],λ_=>a _ b0 D,λ_=>a _ b1 M⟩
def mkX (x:TD):Bool:=hasX x.2.2.1||(hasX x.2.2.2.2.2.1||hasX x.2.2.2.2.2.2.1)
def lvT (T:aa) (x:TD):Int:=lvl (Lib.trimRightS T [63,126,37]) (!(Lib.trimRightS T [63,126,37]==T)) (mkX x) (seT x)
theorem Tq {T u:aa} {k:Nat} (h:Body T u k) {x:TD} (hs:smT x):jJ 20000000 T x=some (lvT T x):=by
 rw [TL h hs];unfold lvT mkX;rw [AD h,HI h];simp
theorem LX {S:aa} {a:Nat} (h:a<=S.length) {r:DR} (o:di S a=.inr r):∃A B u k,MkD A B (tdR r).2.2.2.2.2.1 (tdR r).2.2.2.2.2.2.1/\plR r=a+(mt A.1).length/\
  (S.drop a).take (enR r - a)=rawD A B r.1 r.2.1 r.2.2.1 (r.2.2.2.1:Int) (r.2.2.2.2.1:Int) r.2.2.2.2.2.1 r.2.2.2.2.2.2.1/\r.2.2.2.2.2.2.2.1=spM A B/\Body ((S.drop a).take (enR r - a)) u k/\
  jJ 20000000 ((S.drop a).take (enR r - a)) (tdR r)=some (lvT ((S.drop a).take (enR r - a)) (tdR r)):=by
 obtain ⟨i,z,C,y⟩:=kb h o;obtain ⟨q,_⟩:=Em h o;obtain ⟨F,G,p,t,w,m',d',k0,k1,k2,c,ok⟩:=iv i z;obtain ⟨g,l,dg,x,s,m,d,M,P,e⟩:=r;have ok:ShD g l dg x s m d:=by
  unfold tdR at c;simp only [bf] at c;obtain ⟨rfl,rfl,rfl,hx,n,rfl,rfl,_⟩:=c;have hx:x=t:=by omega
  have n:s=w:=by omega
  subst hx n;exact ok.sh
 obtain ⟨A,B,mk,E,v,f⟩:=GG q;have D:(rawD A B g l dg (x:Int) (s:Int) m d).length=e - a:=by
  have:=ck List.length f;simp only [bv,cZ] at this;have:a<=e:=C;have:e<=S.length:=y;omega
 have b:(S.drop a).take (e - a)=rawD A B g l dg (x:Int) (s:Int) m d:=by rw [f,<-D,Bh]
 obtain ⟨u,k,j,H,_⟩:=Ed ok mk;refine ⟨A,B,u,k,mk,v,b,E,by rw [show enR (g,l,dg,x,s,m,d,M,P,e)=e from rfl,b];exact j,?_⟩
 ·rw [show enR (g,l,dg,x,s,m,d,M,P,e)=e from rfl,b];exact Tq j i
end Go.Sh
