
import Derived.Test.YtadejcglcffgbabGreatDoorAbsG
import Derived.Laws.BytesArg
import Derived.Laws.BytesString
import Derived.Lib.ConvBytes
import Derived.Laws.MakeOwn
import Derived.Deep.AppendSrc
import Derived.MapKept
set_option linter.unusedSimpArgs false
set_option linter.unusedVariables false
set_option linter.defProp false
namespace Go.Abs
variable {P:Program}
section ops
variable {α:Type} {ι:Inj} {s:St} {a:Act} {w:World} {f:Nat} {o:Oper} {c:Eff->Option α} {z:α}
def tZ{t:TypeId}{a:Array Field}{fd:Field}{i:Nat}{c:TypeInfo}(d:P.underlying t=some (.struct a))(b:a[i]?=some fd)(hi:P.info? fd.type=some c)
  (hp:0<P.cellsOf fd.type) (r off:Nat) (w:World):(Instr.fieldAt t (.pointer (some ⟨r,off,none⟩)) i).run P w=.ok (.pointer (some ⟨r,off+fd.offset,none⟩)) w:=by
 simp only[Instr.fieldAt,ax,aR d,az,b,Instr.sureAddr,aA,fieldPlace,ei hi,show¬(P.cellsOf fd.type=0)by omega,aG,kx]
def wE{t:TypeId}{x:Operand}{i:Nat}(v:o.op=.fieldAddr t x i)(q:TR ι s.T a.tmps)(h:effK P (opd s.T) s.H f (.fieldAddr t x i) c=some z):
  ∃e,c e=some z/\eO P ι f o a w e:=by
 simp only[effK]at h;split at h
 ·rename_i b off hx;split at h
  ·rename_i A n;split at h
   ·rename_i fd p;split at h
    ·rename_i hp;obtain⟨y,g⟩:=bC hp;have k:=aZ q hx;simp only[VR]at k;obtain⟨r,l,m⟩:=k;have d:=tZ n (by simpa using p) g (aJ hp) r.r off w;exact⟨_,h,.val (x:=.pointer (some ⟨r.r,off+fd.offset,none⟩)) (by simp only[execOp,v,m,ax,d,az,aA]) (by simp only[VR,mr];exact⟨r,l,rfl⟩)⟩
    ·cases h
   ·cases h
  ·cases h
 ·rename_i u b j off hx;split at h
  ·rename_i A n;split at h
   ·rename_i fd p;split at h
    ·rename_i hp;obtain⟨y,g⟩:=bC hp;have k:=aZ q hx;simp only[VR]at k;obtain⟨r,l,m⟩:=k;have d:=tZ n (by simpa using p) g (aJ hp) r.r (r.o+(j*u+off)) w;exact⟨_,h,.val (x:=.pointer (some ⟨r.r,r.o+(j*u+off)+fd.offset,none⟩)) (by simp only[execOp,v,m,ax,d,az,aA]) (by simp only[VR,mr];exact⟨r,l,by rw[gh,gh]⟩)⟩
    ·cases h
   ·cases h
  ·cases h
 ·cases h
def Gi{t:TypeId}{x:Operand}{i:Nat}(u:o.op=.field t x i)(A:TR ι s.T a.tmps)(h:effK P (opd s.T) s.H f (.field t x i) c=some z):
  ∃e,c e=some z/\eO P ι f o a w e:=by
 simp only[effK]at h;split at h
 ·rename_i l hx;have r:=aZ A hx;simp only[VR]at r;obtain⟨q,n,j⟩:=r;split at h
  ·rename_i E p;split at h
   ·rename_i fd D;have hf':E[i]?=some fd:=by simpa using D
    split at h
    ·rename_i b;split at h
     ·have C:∃d,P.underlying fd.type=some d:=by
       unfold bA at b;split at b
       ·exact⟨_,by assumption⟩
       ·exact⟨_,by assumption⟩
       ·cases b
      obtain⟨d',g⟩:=C;obtain⟨F,k⟩:=kz g;refine⟨_,h,.val (x:=.agg (q.extract fd.offset (fd.offset+P.cellsOf fd.type))) ?_ (l9 (j.extract _ _))⟩;simp only[execOp,u,n,Instr.field,ax,aR p,az,hf',asAgg,aA,part,iw g,b,bc,ei k]
     ·cases h
    ·rename_i b;split at h
     ·rename_i d' g;obtain⟨v,B,h⟩:=av h;obtain⟨y,hy,m⟩:=j.get B;have hy':q[fd.offset]?=some y:=by simpa using hy
      refine⟨_,h,.val (x:=y) ?_ m⟩;simp only[execOp,u,n,Instr.field,ax,aR p,az,hf',asAgg,aA,part,iw g,b,cj,aG,hy']
     ·cases h
   ·cases h
  ·cases h
 ·cases h
def l6{t e:TypeId}{m:Nat}{b:TypeInfo}(d:P.underlying t=some (.array m e))(hi:P.info? e=some b)(k:IntKind){n:Int}(a:0<=n)(c:n<m)(r off:Nat)(w:World):
  (Instr.indexAt t (.pointer (some ⟨r,off,none⟩)) (.int k n)).run P w=.ok (.pointer (some ⟨r,off+n.toNat*P.cellsOf e,none⟩)) w:=by
 simp only[Instr.indexAt,asIntOf,ax,aA,az,aR d,Instr.sureAddr,a,c,and_self,bc,ei hi,kx]
def jr{t e:TypeId}{m cp:Nat}{b:TypeInfo}(d:P.underlying t=some (.slice e))(hi:P.info? e=some b)(k:IntKind){n:Int}(a:0<=n)(c:n<m)(r off:Nat)(w:World):
  (Instr.indexAt t (.slice (some ⟨r,off,none⟩) m cp) (.int k n)).run P w=.ok (.pointer (some ⟨r,off+n.toNat*P.cellsOf e,none⟩)) w:=by
 simp only[Instr.indexAt,asIntOf,ax,aA,az,aR d,a,c,and_self,bc,ei hi,kx]
def wz{t:TypeId}{x i:Operand}(F:o.op=.indexAddr t x i)(E:TR ι s.T a.tmps)(N:WR ι s.H s.nb w)(h:effK P (opd s.T) s.H f (.indexAddr t x i) c=some z):
  ∃e,c e=some z/\eO P ι f o a w e:=by
 simp only[effK]at h;split at h
 case h_2=>cases h
 rename_i k n hi;have u:=aZ E hi;simp only[VR]at u;split at h
 ·rename_i m e D;split at h
  ·rename_i b off hx;have p:=aZ E hx;simp only[VR]at p;obtain⟨r,v,C⟩:=p;split at h
   ·rename_i hp;obtain⟨I,g⟩:=bC hp;obtain⟨j,B,h⟩:=av h;obtain⟨g0,A,rfl⟩:=lB B;have d:=l6 D g k g0 A r.r off w;exact⟨_,h,.val (x:=.pointer (some ⟨r.r,off+n.toNat*P.cellsOf e,none⟩)) (by simp only[execOp,F,C,u,ax,d,az,aA]) (by simp only[VR,mr,sw];exact⟨r,v,rfl⟩)⟩
   ·cases h
  ·rename_i J b K off hx;have p:=aZ E hx;simp only[VR]at p;obtain⟨r,v,C⟩:=p;split at h
   ·rename_i hp;obtain⟨I,g⟩:=bC hp;obtain⟨j,B,h⟩:=av h;obtain⟨g0,A,rfl⟩:=lB B;have d:=l6 D g k g0 A r.r (r.o+(K*J+off)) w;exact⟨_,h,.val (x:=.pointer (some ⟨r.r,r.o+(K*J+off)+n.toNat*P.cellsOf e,none⟩)) (by simp only[execOp,F,C,u,ax,d,az,aA]) (by simp only[VR,mr,sw];exact⟨r,v,by rw[gh,gh]⟩)⟩
   ·cases h
  ·cases h
 ·rename_i e D;split at h
  ·rename_i b off m cp hx;have p:=aZ E hx;simp only[VR]at p;obtain⟨r,cap,v,_,_,C⟩:=p;split at h
   ·rename_i hp;obtain⟨I,g⟩:=bC hp;obtain⟨j,B,h⟩:=av h;obtain⟨g0,A,rfl⟩:=lB B;have d:=jr (cp:=cap) D g k g0 A r.r off w;exact⟨_,h,.val (x:=.pointer (some ⟨r.r,off+n.toNat*P.cellsOf e,none⟩)) (by simp only[execOp,F,C,u,ax,d,az,aA]) (by simp only[VR,mr,sw];exact⟨r,v,rfl⟩)⟩
   ·cases h
  ·rename_i b hx;have p:=aZ E hx;simp only[VR]at p;split at h
   case h_2=>cases h
   rename_i tr l O;split at h
   case h_2=>cases h
   rename_i hp;simp only[aC,iR]at hp;obtain⟨M,hp⟩:=hp;obtain⟨I,g⟩:=bC hp;obtain⟨j,B,h⟩:=av h;obtain⟨g0,A,rfl⟩:=lB B;rcases gD N O with⟨q,Z,Q,fr,G,V,L,Y,W,X,S⟩ | ⟨G,rfl⟩
   ·rcases p with⟨U,v,C⟩ | ⟨v,_⟩
    ·rw[v]at G;cases G;have g1':n<(q.n:Int):=by rw[<-L];exact A
     have d:=jr (cp:=q.k) D g k g0 g1' q.r q.o w;exact⟨_,h,.val (x:=.pointer (some ⟨q.r,q.o+n.toNat*P.cellsOf e,none⟩)) (by simp only[execOp,F,C,u,ax,d,az,aA]) (by simp only[VR];exact⟨q,v,by rw[eJ]⟩)⟩
    ·rw[v]at G;cases G
   ·simp at A;omega
  ·rename_i J b R m _ hx;have p:=aZ E hx;simp only[VR]at p;split at h
   case h_2=>cases h
   rename_i hp;simp only[aC,iR]at hp;obtain⟨rfl,hp⟩:=hp;obtain⟨I,g⟩:=bC hp;obtain⟨j,B,h⟩:=av h;obtain⟨g0,A,rfl⟩:=lB B;rcases p with⟨q,cp,off,v,_,y,C⟩ | ⟨_,⟨rfl,_⟩,_⟩
   ·have d:=jr (cp:=cp) D g k g0 A q.r off w;have y:=y (by omega);exact⟨_,h,.val (x:=.pointer (some ⟨q.r,off+n.toNat*P.cellsOf e,none⟩)) (by simp only[execOp,F,C,u,ax,d,az,aA]) (by simp only[VR,mr];exact⟨q,v,by rw[y,fh,eJ,gh]⟩)⟩
   ·omega
  ·cases h
 ·cases h
def gf{t e:TypeId}{m:Nat}{b:TypeInfo}(c:P.underlying t=some (.array m e))(hi:P.info? e=some b)(k:IntKind){n:Int}(d:0<=n)(f:n<m)(a:Array Value)(w:World):
  (Instr.index t (.agg a) (.int k n)).run P w=(part e a (n.toNat*P.cellsOf e)).run P w:=by
 simp only[Instr.index,asIntOf,ax,aA,az,aR c,d,f,and_self,bc,ei hi]
def mS{t:TypeId}{d:TypeDesc}(c:P.underlying t=some d)(b:bA P t=false){a:Array Value}{off:Nat}{x:Value}(hx:a[off]?=some x)(w:World):
  (part t a off).run P w=.ok x w:=by
 simp only[part,ax,iw c,b,az,cj,aG,hx,aA]
def qO{t:TypeId}{d:TypeDesc}(b:P.underlying t=some d)(c:bA P t=true)(a:Array Value)(off:Nat)(w:World):
  (part t a off).run P w=.ok (.agg (a.extract off (off+P.cellsOf t))) w:=by
 obtain⟨i,hi⟩:=kz b;simp only[part,ax,iw b,c,az,bc,ei hi,aA]
def qY{t:TypeId}(e:P.underlying t=some .string){l:aa}{n:Int}{b:UInt8}(h:sx l n=some b)(k:IntKind)(w:World):
  (Instr.index t (.string ⟨l.toArray⟩) (.int k n)).run P w=.ok (.int .u8 b.toNat) w:=by
 unfold sx at h;split at h
 ·rename_i f;have d:(ByteArray.mk l.toArray)[n.toNat]?=some b:=by
   have a:n.toNat<l.length:=by
    rcases aI n.toNat l.length with c | c
    ·exact c
    ·rw[dX c]at h;cases h
   have hs:n.toNat<(ByteArray.mk l.toArray).size:=a;rw[getElem?_pos (ByteArray.mk l.toArray) n.toNat hs];rw[bj a]at h;simp only[aq]at h ⊢;exact h
  simp only[Instr.index,asIntOf,ax,aA,az,aR e,f,bc,d]
 ·cases h
def GT{t:TypeId}{x i:Operand}(E:o.op=.index t x i)(G:TR ι s.T a.tmps)(h:effK P (opd s.T) s.H f (.index t x i) c=some z):
  ∃e,c e=some z/\eO P ι f o a w e:=by
 simp only[effK]at h;split at h
 case h_2=>cases h
 rename_i k n hi;have d:=aZ G hi;simp only[VR]at d;split at h
 ·rename_i m e C;split at h
  ·cases h
  rename_i hp;obtain⟨Q,q⟩:=bC hp;split at h
  ·rename_i k' m' l hx;have g:=aZ G hx;simp only[VR]at g;obtain⟨N,F⟩:=g;split at h
   ·rename_i k2 p;split at h
    ·rename_i r;have r:=be r;obtain⟨j,B,h⟩:=av h;obtain⟨g0,A,rfl⟩:=lB B;obtain⟨v,g,h⟩:=av h;refine⟨_,h,.val (x:=.int k' v) ?_ (by simp[VR])⟩;simp only[execOp,E,F,d,ax,gf C q k g0 A];rw[mS p (by simp[bA,p]) (x:=.int k' v) (by simp[r,g])];rfl
    ·cases h
   ·cases h
  ·rename_i l hx;have g:=aZ G hx;simp only[VR]at g;obtain⟨J,F,u⟩:=g;split at h
   ·rename_i O p;obtain⟨j,B,h⟩:=av h;obtain⟨g0,A,rfl⟩:=lB B;refine⟨_,h,.val (x:=.agg (J.extract (n.toNat*P.cellsOf e) (n.toNat*P.cellsOf e+P.cellsOf e))) ?_ (l9 (u.extract _ _))⟩;simp only[execOp,E,F,d,ax,gf C q k g0 A,qO p (by simp[bA,p]),az,aA]
   ·rename_i m2 M p;obtain⟨j,B,h⟩:=av h;obtain⟨g0,A,rfl⟩:=lB B;refine⟨_,h,.val (x:=.agg (J.extract (n.toNat*P.cellsOf e) (n.toNat*P.cellsOf e+P.cellsOf e))) ?_ (l9 (u.extract _ _))⟩;simp only[execOp,E,F,d,ax,gf C q k g0 A,qO p (by simp[bA,p]),az,aA]
   ·rename_i p;split at h
    ·rename_i r;have r:=be r;split at h
     ·rename_i L I;obtain⟨j,B,h⟩:=av h;obtain⟨g0,A,rfl⟩:=lB B;obtain⟨v,g,h⟩:=av h;obtain⟨y,hy,D⟩:=u.get (j:=n.toNat) (v:=.s v) (by rw[qd I];simp[g]);refine⟨_,h,.val (x:=y) ?_ D⟩;simp only[execOp,E,F,d,ax,gf C q k g0 A];rw[mS p (by simp[bA,p]) (x:=y) (by simpa[r]using hy)];rfl
     ·cases h
    ·cases h
   ·rename_i d' R S U p;split at h
    ·rename_i r;have r:=be r;obtain⟨j,B,h⟩:=av h;obtain⟨g0,A,rfl⟩:=lB B;obtain⟨v,g,h⟩:=av h;obtain⟨y,hy,D⟩:=u.get g;refine⟨_,h,.val (x:=y) ?_ D⟩;simp only[execOp,E,F,d,ax,gf C q k g0 A];rw[mS p (by simp only[bA,p];cases d'<;>simp_all) (x:=y) (by simpa[r]using hy)];rfl
    ·cases h
   ·cases h
  ·cases h
 ·rename_i C;split at h
  ·rename_i l hx;have g:=aZ G hx;simp only[VR]at g;obtain⟨b,K,h⟩:=av h;refine⟨_,h,.val (x:=.int .u8 b.toNat) ?_ (by simp[VR])⟩;simp only[execOp,E,g,d,ax,qY C K,az,aA]
  ·cases h
 ·cases h
def wJ{t:TypeId}(a:P.underlying t=some .string){l:aa}{lo hi:Option Value}{L H:Nat}{w:World}
  (b:(Instr.sliceBounds false l.length l.length lo hi none).run P w=.ok (L,H,l.length) w):
  (Instr.sliceAt t (.string ⟨l.toArray⟩) lo hi none).run P w=.ok (.string ⟨((l.take H).drop L).toArray⟩) w:=by
 rw[run_sliceAt_string w t _ _ _ _ a];have hs:(ByteArray.mk l.toArray).size=l.length:=rfl;simp only[Instr.slice,ax,aR a,az,tX,cj,aG,hs,b,aA];congr 2;apply FK;rw[ByteArray.data_extract];apply kH;simp[List.extract,yL]
def vI{t e:TypeId}{n:Nat}{c:TypeInfo}(d:P.underlying t=some (.array n e))(hi:P.info? e=some c){lo a:Option Value}{L H r off:Nat}{w:World}
  (b:(Instr.sliceBounds false n n lo a none).run P w=.ok (L,H,n) w):
  (Instr.sliceAt t (.pointer (some ⟨r,off,none⟩)) lo a none).run P w=.ok (.slice (some ⟨r,if n=L then off else off+L*P.cellsOf e,none⟩) (H - L) (n - L)) w:=by
 simp only[Instr.sliceAt,ax,aR d,az,Instr.sureAddr,aA,b,ei hi,kx];split<;>rfl
def li{t e:TypeId}{n cp:Nat}{c:TypeInfo}(d:P.underlying t=some (.slice e))(hi:P.info? e=some c){lo a:Option Value}{L H r off:Nat}{w:World}
  (b:(Instr.sliceBounds true n cp lo a none).run P w=.ok (L,H,cp) w):
  (Instr.sliceAt t (.slice (some ⟨r,off,none⟩) n cp) lo a none).run P w=.ok (.slice (some ⟨r,if cp=L then off else off+L*P.cellsOf e,none⟩) (H - L) (cp - L)) w:=by
 simp only[Instr.sliceAt,Instr.slice,ax,aR d,az,b,ei hi,aA];split
 ·rfl
 ·simp only[ek,kx]
def gH(n l x y:Nat):cond (Nat.beq n l) x y=if n=l then x else y:=by
 by_cases h:n=l
 ·subst h;simp
 ·have:Nat.beq n l=false:=by
   cases a:Nat.beq n l
   ·rfl
   ·exact absurd (be a) h
  simp[this,h]
def pQ{t e:TypeId}{d:TypeInfo}{b:Option Addr}(f:P.underlying t=some (.slice e))(hi:P.info? e=some d){lo a:Option Value}{w:World}
  (c:(Instr.sliceBounds true 0 0 lo a none).run P w=.ok (0,0,0) w):
  (Instr.sliceAt t (.slice b 0 0) lo a none).run P w=.ok (.slice b 0 0) w:=by
 simp only[Instr.sliceAt,Instr.slice,ax,aR f,az,c,ei hi,aA,bc]
def xR{T:List (Nat×Option V)}(q:TR ι T a.tmps){lo hi:Option Operand}{l h:Option Int}(t:nj (opd T) lo=some l)
  (u:nj (opd T) hi=some h) {len:Nat} {c:Nat->Nat->Option α} (e:(hiK len len h λh=>loK h l λl=>c h l)=some z):
  ∃H L,c H L=some z/\H<=len/\L<=H/\∀n,len<=n->∀w,(Instr.sliceBounds true len n (lo.map a.eval) (hi.map a.eval) none).run P w=.ok (L,H,n) w:=by
 have j:∀{H:Nat},loK H l (c H)=some z->∃L,c H L=some z/\L<=H/\
   ∀w,(match lo.map a.eval with | some v=>Instr.sliceBound v H .sliceB | none=>pure 0).run P w=.ok L w:=by
  intro H e;rcases lJ q t with⟨rfl,g⟩ | ⟨k,m,rfl,g⟩
  ·exact⟨0,e,oL _,λw=>by rw[g];rfl⟩
  ·simp only[loK]at e;obtain⟨L,o,i⟩:=av e;obtain⟨g0,p,rfl⟩:=jo o;exact⟨_,i,by omega,λw=>by rw[g];exact run_sliceBound w k m H .sliceB g0 p⟩
 rcases lJ q u with⟨rfl,g⟩ | ⟨k,m,rfl,g⟩
 ·simp only[hiK]at e;obtain⟨L,o,i,d⟩:=j e;refine⟨len,L,o,aV _,i,λn x w=>?_⟩;have d:=d w;rw[g];simp only[Instr.sliceBounds,ax,aA,az,tX,cj,aG];cases b:lo.map a.eval with
  | none=>rw[b]at d;simp only[aA,ug,qw]at d;simp[d]
  | some v=>rw[b]at d;simp only[]at d;simp[d]
 ·simp only[hiK]at e;obtain⟨H,o,i⟩:=av e;obtain⟨g0,p,rfl⟩:=jo o;obtain⟨L,s,d,f⟩:=j i;refine⟨_,L,s,by omega,d,λn x w=>?_⟩;have f:=f w;rw[g];have r:=run_sliceBound (P:=P) w k m n .sliceAcap g0 (by omega);simp only[Instr.sliceBounds,ax,aA,az,tX,cj,aG,bc,r];cases b:lo.map a.eval with
  | none=>rw[b]at f;simp only[aA,ug,qw]at f;simp[f]
  | some v=>rw[b]at f;simp only[]at f;simp[f]
def GF{t:TypeId}{x:Operand}{lo hi:Option Operand}(G:o.op=.slice t x lo hi none)(I:TR ι s.T a.tmps)(hW:WR ι s.H s.nb w)(h:effK P (opd s.T) s.H f (.slice t x lo hi none) c=some z):
  ∃e,c e=some z/\eO P ι f o a w e:=by
 simp only[effK]at h;obtain⟨v,hx,D⟩:=av h;obtain⟨l,K,Y⟩:=av D;obtain⟨U,u,d⟩:=av Y;clear h D Y;have A:=aZ I hx;clear hx;split at d
 ·rename_i C;cases v<;>simp only[reduceCtorEq]at d;rename_i sl;simp only[VR]at A;obtain⟨H,L,g,_,_,_,i,_,B⟩:=tR (P:=P) I K u (isSlice:=false) d;refine⟨_,g,.val (x:=.string ⟨((sl.take H).drop L).toArray⟩) ?_ (by simp[VR])⟩;simp only[execOp,G,A,ax,fY];rw[wJ C (B w)];rfl
 ·rename_i n e C;split at d
  case h_2=>cases d
  rename_i hp;obtain⟨ti,p⟩:=bC hp;cases v<;>simp only[reduceCtorEq]at d;rename_i b off;simp only[VR]at A;obtain⟨r,i,y⟩:=A;obtain⟨H,L,g,_,F,E,g4,_,B⟩:=tR (P:=P) I K u (isSlice:=false) d;have W:H<=n:=by
   cases U with
   | none=>exact tc (F rfl)
   | some q=>exact E (by simp)
  refine⟨_,g,.val (x:=.slice (some ⟨r.r,if n=L then off else off+L*P.cellsOf e,none⟩) (H - L) (n - L)) ?_ ?_⟩
  ·simp only[execOp,G,y,ax,fY];rw[vI C p (B w)];rfl
  ·simp only[VR];exact⟨r,n - L,i,λm O=>by cases O;rfl,by omega,by rw[gH,mr,sw]⟩
 ·rename_i e C;split at d
  case h_2=>cases d
  rename_i hp;obtain⟨ti,p⟩:=bC hp;cases v<;>try (simp only[reduceCtorEq]at d;done)
  ·rename_i b;simp only[VR]at A;simp only at d;split at d
   case h_2=>cases d
   rename_i tr m hb;split at d
   case h_2=>cases d
   rename_i J;have J:=be J;obtain⟨H,L,g,F,E,B⟩:=xR (P:=P) I K u d;rcases gD hW hb with⟨q,cs,e',fr,D,Y,Z,q5,_,_,_⟩ | ⟨D,rfl⟩
   ·rcases A with⟨q',i,y⟩ | ⟨i,_⟩
    ·rw[i]at D;cases D;refine⟨_,g,.val (x:=.slice (some ⟨q.r,if q.k=L then q.o else q.o+L*P.cellsOf e,none⟩) (H - L) (q.k - L)) ?_ ?_⟩
     ·simp only[execOp,G,y,ax,fY];rw[<-Z,li C p (B q.k (by omega) w)];rfl
     ·simp only[VR];exact .inl ⟨q,_,_,i,⟨by omega,iu⟩,λR=>by rw[ab (by omega)],rfl⟩
    ·rw[i]at D;cases D
   ·rcases A with⟨q,i,y⟩ | ⟨i,Q,y⟩
    ·rw[i]at D;cases D
    ·simp only[iN,wa]at F E;subst F;simp only[wa]at E;subst E;refine⟨_,g,.val (x:=.slice Q 0 0) ?_ (by unfold VR;exact .inr ⟨i,⟨rfl,iu⟩,Q,rfl⟩)⟩;simp only[execOp,G,y,ax,fY];rw[pQ C p (B 0 (aV _) w)];rfl
  ·rename_i zz b j n _;simp only[VR]at A;simp only at d;split at d
   case h_2=>cases d
   rename_i J;have J:=be J;obtain⟨H,L,g,F,E,B⟩:=xR (P:=P) I K u d;rcases A with⟨q,cp,off,i,⟨N,_⟩,S,y⟩ | ⟨i,⟨rfl,_⟩,Q,y⟩
   ·refine⟨_,g,.val (x:=.slice (some ⟨q.r,if cp=L then off else off+L*P.cellsOf e,none⟩) (H - L) (cp - L)) ?_ ?_⟩
    ·simp only[execOp,G,y,ax,fY];rw[li C p (B cp N w)];rfl
    ·simp only[VR];exact .inl ⟨q,_,_,i,⟨by omega,iu⟩,λR=>by rw[ab (by omega),S (by omega),mr,fh,J,gh],rfl⟩
   ·simp only[wa]at F;subst F;simp only[wa]at E;subst E;refine⟨_,g,.val (x:=.slice Q 0 0) ?_ (by unfold VR;exact .inr ⟨i,⟨rfl,iu⟩,Q,rfl⟩)⟩;simp only[execOp,G,y,ax,fY];rw[pQ C p (B 0 (aV _) w)];rfl
  rename_i b off n cap;simp only[VR]at A;obtain⟨r,cp,i,X,N,y⟩:=A;cases cap with
  | some m=>
   obtain rfl:=X m rfl;obtain⟨H,L,g,_,F,E,g4,_,B⟩:=tR (P:=P) I K u (isSlice:=true) d;have W:H<=cp:=by
    cases U with
    | none=>have:=F rfl;omega
    | some q=>exact E (by simp)
   refine⟨_,g,.val (x:=.slice (some ⟨r.r,if cp=L then off else off+L*P.cellsOf e,none⟩) (H - L) (cp - L)) ?_ ?_⟩
   ·simp only[execOp,G,y,ax,fY];rw[li C p (B w)];rfl
   ·simp only[VR];exact⟨r,cp - L,i,λm O=>by cases O;rfl,by omega,by rw[gH,mr,sw]⟩
  | none=>
   have V:l=none:=by
    cases l with
    | none=>rfl
    | some q=>
     cases U with
     | none=>simp[hiK]at d
     | some q=>simp only[hiK]at d;obtain⟨_,_,Z⟩:=av d;cases Z
   subst V;have M:lo.map a.eval=none:=by
    rcases lJ I K with⟨_,g⟩ | ⟨k,m,h0,_⟩
    ·exact g
    ·cases h0
   have key:∃H,c { val:=some (.sl b off H none) }=some z/\H<=n/\(Instr.sliceBounds true n cp (lo.map a.eval) (hi.map a.eval) none).run P w=.ok (0,H,cp) w:=by
    rcases lJ I u with⟨rfl,g⟩ | ⟨k,m,rfl,g⟩
    ·simp only[hiK]at d;exact⟨n,d,aV _,by rw[g,M];simp[Instr.sliceBounds]⟩
    ·simp only[hiK]at d;obtain⟨H,h2,h3⟩:=av d;obtain⟨g0,g1,rfl⟩:=jo h2;refine⟨_,h3,by omega,?_⟩;have hb:=run_sliceBound (P:=P) w k m cp .sliceAcap g0 (by omega);rw[g,M];simp[Instr.sliceBounds,hb]
   obtain⟨H,g,h2,h3⟩:=key;refine⟨_,g,.val (x:=.slice (some ⟨r.r,if cp=0 then off else off+0*P.cellsOf e,none⟩) (H - 0) (cp - 0)) ?_ ?_⟩
   ·simp only[execOp,G,y,ax,fY];rw[li C p h3];rfl
   ·simp only[VR];exact⟨r,cp,i,λm O=>(by cases O),by omega,by simp⟩
 ·cases d
def tM(a:List Int):a.foldl (λ(r:ByteArray) n=>r.push (UInt8.ofNat n.toNat)) ByteArray.empty=⟨(ft a).toArray⟩:=by
 rw[foldl_push_bytes];apply FK;simp[ft]
def uo{w:World}{r off q m cp:Nat}{l:List Int}{e:TypeId}{fr:Nat×Nat}(h:w.heap[r]?=some (.cells (l.map (Value.int .u8)).toArray e fr))(f:l.length=q)(g:off+m<=q):
  (Conv.bytesToString (.slice (some ⟨r,off,none⟩) m cp)).run P w=.ok (.string ⟨(ft ((l.drop off).take m)).toArray⟩) w:=by
 have a:(((l.drop off).take m).map (Value.int .u8)).length=m:=by simp;omega
 have hc:=sM (P:=P) w ⟨r,off,none⟩ (((l.drop off).take m).map (Value.int .u8)) (λj v b=>by
  have c:j<m:=by
   rcases aI j m with d | d
   ·exact d
   ·rw[dX (by omega)]at b;cases b
  rw[kx,bB h];rw[om,mR c,jK]at b;simpa using b)
 rw[a]at hc;rw[run_bytesToString w _ m cp _ hc,tM]
def wi(w:World)(e:TypeId)(s:ByteArray):
  Lib.bytesWorld w e s=World.alloc { w with drawn:=w.drawn+1 } (.cells (Lib.bytesCells w e s) e ((Lib.bytesCells w e s).size,(Lib.bytesCells w e s).size+1)):=by
 have d:=Lib.bytesWorld_at_new w e s;have f:=Lib.bytesWorld_size w e s;have c:(Lib.bytesWorld w e s).heap=w.heap.push (.cells (Lib.bytesCells w e s) e ((Lib.bytesCells w e s).size,(Lib.bytesCells w e s).size+1)):=by
  apply Ly;intro j;by_cases b:j=w.heap.size
  ·subst b;rw[d];simp
  ·by_cases a:j<w.heap.size
   ·rw[Lib.bytesWorld_at_old w e s j a,Array.getElem?_push,ab b]
   ·rw[uv (by omega),uv (by simp;omega)]
 show({ (Lib.bytesWorld w e s)with heap:=(Lib.bytesWorld w e s).heap }:World)=_;rw[c];rfl
def nV:∀(l:List Int),l.flatMap (vals [.i .u8])=l.map (Value.int .u8)
 | []=>rfl
 | x::l=>by
  have:=nV l;simp only[jY,fb,vals,Lf.val]at this ⊢;rw[this];rfl
def ol{w:World}{r cp:Nat}{l:List Int}{b:Array Value}{e:TypeId}{fr:Nat×Nat}{m:Nat}(h:w.heap[r]?=some (.cells b e fr))(p:m<=b.size)
  {o:Nat} (k:(b.toList.drop o).take (l.length*([Lf.i .u8]:List Lf).length)=l.flatMap (vals [.i .u8])) {j n:Nat} (s:j+n<=l.length):
  (Conv.bytesToString (.slice (some ⟨r,o+j,none⟩) n cp)).run P w=.ok (.string ⟨(ft ((l.drop j).take n)).toArray⟩) w:=by
 have hl':(b.toList.drop o).take l.length=l.map (Value.int .u8):=by rw[<-nV];simpa using k
 have a:(((l.drop j).take n).map (Value.int .u8)).length=n:=by simp;omega
 have hc:=sM (P:=P) w ⟨r,o+j,none⟩ (((l.drop j).take n).map (Value.int .u8)) (λi v c=>by
  have d:i<n:=by
   rcases aI i n with g | g
   ·exact g
   ·rw[dX (by omega)]at c;cases c
  rw[kx,bB h];rw[om,mR d,jK]at c;have f:=fc (λq:List Value=>q[j+i]?) hl';simp only[mR (show j+i<l.length by omega),om,jK]at f;rw[c]at f;simpa[gh]using f)
 rw[a]at hc;rw[run_bytesToString w _ n cp _ hc,tM]
def n8{w:World}(c:Option Addr):(Conv.bytesToString (.slice c 0 0)).run P w=.ok (.string ⟨#[]⟩) w:=by
 cases c with
 | none=>rfl
 | some a=>
  have b:=sM (P:=P) w a ([].map (Value.int .u8)) (λj v d=>by simp at d);exact run_bytesToString (P:=P) w a 0 0 [] b
def yV{B d:TypeId}{x:Operand}(y:o.op=.convert B d x)(Z:TR ι s.T a.tmps)(O:WR ι s.H s.nb w)(h:effK P (opd s.T) s.H f (.convert B d x) c=some z):
  ∃e,c e=some z/\eO P ι f o a w e:=by
 simp only[effK]at h;obtain⟨v,hx,q⟩:=av h;clear h;have g:=aZ Z hx;clear hx;split at q
 case h_2=>cases q
 rename_i C hs;split at q
 ·rename_i k p;cases v<;>simp only[reduceCtorEq]at q;rename_i k' n;simp only[VR]at g;refine⟨_,q,.val (x:=.int k (k.wrap n)) ?_ (by simp[VR])⟩;simp only[execOp,y,g,ax,convert,aR hs,aR p,az];cases C<;>rfl
 ·rename_i p;cases v<;>simp only[reduceCtorEq]at q
  ·rename_i b;simp only[VR]at g;cases C<;>try (simp only[reduceCtorEq]at q;done)
   rename_i e;simp only at q;split at q
   case h_2=>cases q
   rename_i u;split at q
   case h_2=>cases q
   rename_i l E;refine⟨_,q,.val (x:=.string ⟨(ft l).toArray⟩) ?_ (by simp[VR])⟩;rcases gD O E with⟨q,cs,W,fr,i,Q,X,q5,S,K,_⟩ | ⟨i,rfl⟩
   ·rcases g with⟨q',t,A⟩ | ⟨t,_⟩
    ·rw[t]at i;cases i;simp only[execOp,y,A,ax,run_convert_bytes_string w B d e _ _ _ hs u p];rw[<-X];have:=ol (P:=P) (cp:=q.k) Q S K (j:=0) (n:=l.length) (by omega);simp only[gk,oM,eJ]at this;rw[this];rfl
    ·rw[t]at i;cases i
   ·rcases g with⟨q,t,A⟩ | ⟨t,R,A⟩
    ·rw[t]at i;cases i
    ·simp only[execOp,y,A,ax,run_convert_bytes_string w B d e R 0 0 hs u p,n8];rfl
  ·rename_i zz b j n _;simp only[VR]at g;cases C<;>try (simp only[reduceCtorEq]at q;done)
   rename_i e;simp only at q;split at q
   case h_2=>cases q
   rename_i u;split at q
   case h_2=>cases q
   rename_i l E;split at q
   case h_2=>cases q
   rename_i G;have G:=be G;subst G;obtain⟨hc,q⟩:=dU q;have D:=aJ hc;refine⟨_,q,.val (x:=.string ⟨(ft ((l.drop j).take n)).toArray⟩) ?_ (by simp[VR])⟩;rcases g with⟨V,cp,off,t,⟨M,_⟩,L,A⟩ | ⟨t,⟨rfl,_⟩,R,A⟩
   ·rcases gD O E with⟨q',cs,W,fr,i,Q,X,q5,S,K,_⟩ | ⟨i,rfl⟩
    ·rw[t]at i;cases i;simp only[execOp,y,A,ax,run_convert_bytes_string w B d e _ _ _ hs u p];by_cases hn:0<n
     ·rw[L hn,na];rw[ol (P:=P) (cp:=cp) Q S K D];rfl
     ·have I:n=0:=by omega
      subst I;have J:=sM (P:=P) w ⟨V.r,off,none⟩ ([].map (Value.int .u8)) (λj v Y=>by simp at Y);have h0:=run_bytesToString (P:=P) w ⟨V.r,off,none⟩ 0 cp [] J;rw[h0];simp[ft];rfl
    ·rw[t]at i;cases i
   ·simp only[execOp,y,A,ax,run_convert_bytes_string w B d e R 0 0 hs u p,n8];simp[ft]
  ·rename_i k' n;simp only[VR]at g;cases C<;>simp only[reduceCtorEq]at q;refine⟨_,q,.val (x:=.string (Utf8.encode n)) ?_ ?_⟩
   ·simp only[execOp,y,g,ax,convert,aR hs,aR p,az,Conv.intToString,aA]
   ·simp[VR]
  ·rename_i l;simp only[VR]at g;cases C<;>simp only[reduceCtorEq]at q;refine⟨_,q,.val (x:=.string ⟨l.toArray⟩) ?_ (by simp[VR])⟩;simp only[execOp,y,g,ax,convert,aR hs,aR p,az,aA]
  ·simp only[VR]at g;cases C<;>try (simp only[reduceCtorEq]at q;done)
   rename_i e;simp only at q;split at q
   ·rename_i u;refine⟨_,q,.val (x:=.string .empty) ?_ (by simp only[VR];rfl)⟩;simp only[execOp,y,g,ax,run_convert_bytes_string w B d e none 0 0 hs u p];rfl
   ·cases q
  ·rename_i b off m cap;simp only[VR]at g;obtain⟨r,cp,t,_,_,A⟩:=g;cases C<;>try (simp only[reduceCtorEq]at q;done)
   rename_i e;simp only at q;split at q
   ·rename_i u;split at q
    ·rename_i qn l E;obtain⟨hc,q⟩:=dU q;have D:=aJ hc;obtain⟨r',W,fr,M,L,g3,_⟩:=rr O E;rw[t]at M;cases M;refine⟨_,q,.val (x:=.string ⟨(ft ((l.drop off).take m)).toArray⟩) ?_ (by simp[VR])⟩;simp only[execOp,y,A,ax,run_convert_bytes_string w B d e _ _ _ hs u p,uo L g3 D,az,aA]
    ·cases q
   ·cases q
 ·rename_i e p;split at q
  case h_2=>cases q
  rename_i u;cases v<;>try (simp only[reduceCtorEq]at q;done)
  rename_i l;simp only[VR]at g;cases C<;>simp only[reduceCtorEq]at q;refine⟨_,q,.mkR (d:=w.drawn+1) (q:=(Rf.of w.heap.size (l.length) (grownCap w l.length 0 e))) (x:=.slice (some ⟨w.heap.size,0,none⟩) l.length (grownCap w l.length 0 e))
   (ob:=.cells (Lib.bytesCells w e ⟨l.toArray⟩) e ((Lib.bytesCells w e ⟨l.toArray⟩).size,(Lib.bytesCells w e ⟨l.toArray⟩).size+1)) ?_ rfl rfl ?_ ?_⟩
  ·simp only[execOp,y,g,ax,Lib.run_convert_string_bytes w B d e ⟨l.toArray⟩ hs p u,az,aA,wi];rfl
  ·have F:l.length<=grownCap w l.length 0 e:=by simp only[grownCap,Question.cut];omega
   have N:((ByteArray.mk l.toArray).data.map λb=>Value.int .u8 b.toNat).size=l.length:=by simp
   refine⟨_,e,_,rfl,by simp,F,?_,?_,?_⟩
   ·simp only[Lib.bytesCells,Array.size_append,N,Array.size_replicate,cU,iN];have:(ByteArray.mk l.toArray).size=l.length:=rfl;rw[this];omega
   ·simp only[Lib.bytesCells,ua,FR,cU,iN,bV,na,gk];rw[qG (by simp),gg (by simp)];rw[nV,Array.toList_map,sA];rfl
   ·refine .inr λj Y U=>?_;exact absurd U.1 (by simp only;omega)
  ·simp only[VR];exact .inl ⟨_,cH _ _ _,rfl⟩
 ·cases q
def HB{S:Call}(R:o.op=.call S)(Y:TR ι s.T a.tmps)(hW:WR ι s.H s.nb w)(h:effK P (opd s.T) s.H f (.call S) c=some z):
  ∃e,c e=some z/\eO P ι f o a w e:=by
 obtain⟨Q,args,D⟩:=S;simp only[effK]at h;split at h
 case h_2=>cases h
 rename_i b;obtain⟨l,W,q⟩:=av h;clear h;have g:=sS Y W;have K:(args.map a.eval).toList=args.toList.map a.eval:=by simp
 rw[<-K]at g;generalize hA:args.map a.eval=A at g;have B:∃U,∀w,((do let d <-resolve a.eval ⟨.builtin b,args,D⟩ o.type;invoke d.target d.args):Sem Next).run P w=(builtin b D o.type U A).run P w:=by
  refine⟨args.map fun | .const _=>true | _=>false,λw=>?_⟩;simp only[resolve,hA,ax,aA,az,invoke];rfl
 obtain⟨U,B⟩:=B;have one:∀{X:Value},A.toList=[X]->A[0]?=some X:=by
  intro X p;have:A=#[X]:=by apply kH;simpa using p
  simp[this]
 have E:∀{t:TypeId} {r:List TypeId},D.toList=t::r->D[0]?=some t:=by
  intro t r u;rw[<-oz,u];rfl
 have j:∀{n:Int} {rd:List Nat},b=.len->(∀w,(Builtin.len_ D o.type A).run P w=.ok (goInt n) w)->c { val:=some (.i .i64 n),rd:=rd }=some z->∃e,c e=some z/\eO P ι f o a w e:=by
  intro n rd O F hc;subst O;refine⟨_,hc,.val (x:=.int .i64 n) ?_ (by simp[VR])⟩;simp only[execOp,R];rw[B w];simp only[builtin,ax,F,az,aA,goInt]
 have C:∀{n:Int} {rd:List Nat},b=.cap->(∀w,(Builtin.cap_ D o.type A).run P w=.ok (goInt n) w)->c { val:=some (.i .i64 n),rd:=rd }=some z->∃e,c e=some z/\eO P ι f o a w e:=by
  intro n rd O F hc;subst O;refine⟨_,hc,.val (x:=.int .i64 n) ?_ (by simp[VR])⟩;simp only[execOp,R];rw[B w];simp only[builtin,ax,F,az,aA,goInt]
 split at q
 ·split at q
  ·rename_i sl;simp only[VRs,VR]at g;obtain⟨_,_,p,rfl,rfl⟩:=g;split at q
   ·rename_i t r u;split at q
    ·rename_i v;refine j rfl (λw=>?_) q;simp only[Builtin.len_,E u,one p,ax,aR v,az,aA];rfl
    ·cases q
   ·cases q
  ·rename_i N Z n cp;simp only[VRs,VR]at g;obtain⟨_,_,p,⟨r,cap,_,_,_,rfl⟩,rfl⟩:=g;split at q
   ·rename_i t r u;split at q
    ·rename_i v;refine j rfl (λw=>?_) q;simp only[Builtin.len_,E u,one p,ax,aR v,az,aA]
    ·cases q
   ·cases q
  ·simp only[VRs,VR]at g;obtain⟨_,_,p,rfl,rfl⟩:=g;split at q
   ·rename_i t r u;split at q
    ·rename_i v;refine j rfl (λw=>?_) q;simp only[Builtin.len_,E u,one p,ax,aR v,az,aA];rfl
    ·cases q
   ·cases q
  ·rename_i N;simp only[VRs,VR]at g;obtain⟨_,_,p,M,rfl⟩:=g;split at q
   ·rename_i t r u;split at q
    ·rename_i v;split at q
     ·rename_i tr l O;refine j (rd:=[N]) rfl (λw=>?_) q;rcases gD hW O with⟨q,U,e',fr,L,q2,q4,q5,q6,q7,_⟩ | ⟨L,rfl⟩
      ·rcases M with⟨q',G,rfl⟩ | ⟨G,_⟩
       ·rw[G]at L;cases L;simp only[Builtin.len_,E u,one p,ax,aR v,az,aA,q4]
       ·rw[G]at L;cases L
      ·rcases M with⟨q,G,_⟩ | ⟨G,V,rfl⟩
       ·rw[G]at L;cases L
       ·simp only[Builtin.len_,E u,one p,ax,aR v,az,aA];rfl
     ·cases q
    ·cases q
   ·cases q
  ·rename_i zz N jj n _;simp only[VRs,VR]at g;obtain⟨_,_,p,M,rfl⟩:=g;split at q
   ·rename_i t r u;split at q
    ·rename_i v;refine j rfl (λw=>?_) q;rcases M with⟨q,cp,off,G,_,_,rfl⟩ | ⟨_,⟨rfl,_⟩,V,rfl⟩
     ·simp only[Builtin.len_,E u,one p,ax,aR v,az,aA]
     ·simp only[Builtin.len_,E u,one p,ax,aR v,az,aA]
    ·cases q
   ·cases q
  ·simp only[VRs]at g;obtain⟨X,_,p,_,rfl⟩:=g;split at q
   ·rename_i t r u;split at q
    ·rename_i v;refine j rfl (λw=>?_) q;simp only[Builtin.len_,E u,one p,ax,aR v,az,aA]
    ·cases q
   ·cases q
  ·cases q
 ·split at q
  ·rename_i zz N jj nn m;simp only[VRs,VR]at g;obtain⟨_,_,p,M,rfl⟩:=g;split at q
   ·rename_i t r u;split at q
    ·rename_i v;refine C rfl (λw=>?_) q;rcases M with⟨q,cp,off,G,⟨_,hc⟩,_,rfl⟩ | ⟨_,⟨_,hc⟩,V,rfl⟩
     ·have:=hc m rfl;subst this;simp only[Builtin.cap_,E u,one p,ax,aR v,az,aA]
     ·have:=hc m rfl;subst this;simp only[Builtin.cap_,E u,one p,ax,aR v,az,aA]
    ·cases q
   ·cases q
  ·rename_i N Z nn m;simp only[VRs,VR]at g;obtain⟨_,_,p,⟨qq,cp,G,hc,_,rfl⟩,rfl⟩:=g;split at q
   ·rename_i t r u;split at q
    ·rename_i v;refine C rfl (λw=>?_) q;have:=hc m rfl;subst this;simp only[Builtin.cap_,E u,one p,ax,aR v,az,aA]
    ·cases q
   ·cases q
  ·simp only[VRs,VR]at g;obtain⟨_,_,p,rfl,rfl⟩:=g;split at q
   ·rename_i t r u;split at q
    ·rename_i v;refine C rfl (λw=>?_) q;simp only[Builtin.cap_,E u,one p,ax,aR v,az,aA];rfl
    ·cases q
   ·cases q
  ·cases q
 ·split at q
  ·rename_i k x k' y;split at q
   ·rename_i J;have J:=iL J;subst J;simp only[VRs,VR]at g;obtain⟨_,_,p,rfl,_,_,rfl,rfl,rfl⟩:=g;refine⟨_,q,.val (x:=.int k (cond (decide (y<x)) y x)) ?_ (by simp[VR])⟩;simp only[execOp,R];rw[B w];simp only[builtin,ax,Builtin.min_,p,List.foldlM,Builtin.min2,aA,az];by_cases I:y<x<;>simp[I]
   ·cases q
  ·cases q
 ·split at q
  ·rename_i k x k' y;split at q
   ·rename_i J;have J:=iL J;subst J;simp only[VRs,VR]at g;obtain⟨_,_,p,rfl,_,_,rfl,rfl,rfl⟩:=g;refine⟨_,q,.val (x:=.int k (cond (decide (y>x)) y x)) ?_ (by simp[VR])⟩;simp only[execOp,R];rw[B w];simp only[builtin,ax,Builtin.max_,p,List.foldlM,Builtin.max2,aA,az];by_cases I:y>x<;>simp[I]
   ·cases q
  ·cases q
 ·cases q
def Oj{op:UnOp}{x:V}{X:Value}{c:V->Option α}(h:unK op x c=some z)(hx:VR ι x X)(w:World):
  ∃v R,c v=some z/\VR ι v R/\(Op.unary op X).run P w=.ok R w:=by
 unfold unK at h;split at h
 ·simp only[VR]at hx;subst hx;exact⟨_,_,h,rfl,rfl⟩
 ·simp only[VR]at hx;subst hx;exact⟨_,_,h,rfl,rfl⟩
 ·cases h
def IL{x:Operand}{i:Bool}(v:o.op=.next x i)(A:TR ι s.T a.tmps)(C:WR ι s.H s.nb w)(h:effK P (opd s.T) s.H f (.next x i) c=some z):
  ∃e,c e=some z/\eO P ι f o a w e:=by
 simp only[effK]at h;split at h
 case h_2=>cases h
 rename_i b hx;have q:=aZ A hx;simp only[VR]at q;obtain⟨r,m,y⟩:=q;split at h
 case h_2=>cases h
 rename_i l pos B;obtain⟨F,ob,t,n,p⟩:=(C.blk b _ B (by simp)).real (by simp);rw[m]at t;cases t;simp only[BR]at p;subst p;have j:(ByteArray.mk l.toArray).size=l.length:=rfl;have d:(getObj r.r).run P w=.ok (.stringIter ⟨l.toArray⟩ pos) w:=by simp[getObj,Sem.run,n]
 cases hc:Nat.blt pos l.length with
 | false=>
  rw[hc]at h;have E:¬pos<l.length:=λg=>by rw[show Nat.blt pos l.length=true from dl g]at hc;cases hc
  refine⟨_,h,.val (x:=.tuple #[.bool false]) ?_ (by simp[VR,VRs])⟩;simp only[execOp,v,y,Instr.next,ax,d,az,j,E,aG,aA]
 | true=>
  rw[hc]at h;have g:pos<l.length:=aJ hc;refine⟨_,h,?_⟩;unfold eO;have k:∀ob,(Go.setObj r.r ob).run P w=.ok () (setObj w r.r ob):=by
   intro ob;simp[Go.setObj,Sem.run,n,setObj]
  refine⟨r,m,λ_=>⟨.stringIter ⟨l.toArray⟩ (pos+(dec l pos).2),.value (.tuple #[.bool true,.int .i64 pos,.int .i32 (dec l pos).1]),?_,rfl,.value _ λu D=>by cases D;simp[VR,VRs]⟩⟩;simp only[execOp,v,y,Instr.next,ax,d,az,j,g,bc,k,aA,dec,goInt]
def B0{t:List Lf}(x:den t):∀n,(List.replicate n x).flatMap (vals t)=(List.replicate n (vals t x)).flatten
 | 0=>rfl
 | n+1=>by simp[qx,jY,B0 x n]
def Fa{l:List Value}:∀n:Nat,(List.replicate n l).flatten.length=n*l.length
 | 0=>by simp
 | n+1=>by rw[qx,List.flatten_cons,gv,Fa n,fh];omega
def GZ{l:List Value}:∀(n j:Nat),j<n*l.length->(List.replicate n l).flatten[j]?=l[j%l.length]?
 | 0,j,h=>by simp at h
 | n+1,j,h=>by
  simp only[qx,List.flatten_cons];by_cases a:j<l.length
  ·rw[lb a,oH a]
  ·rw[mM (by omega),GZ n _ (by rw[fh]at h;omega),<-Nat.mod_eq_sub_mod (by omega)]
def wn{t:TypeId}{x y:Operand}(V:o.op=.makeSlice t x y)(L:TR ι s.T a.tmps)(h:effK P (opd s.T) s.H f (.makeSlice t x y) c=some z):
  ∃e,c e=some z/\eO P ι f o a w e:=by
 simp only[effK]at h;obtain⟨u,D,Q⟩:=av h;obtain⟨v,E,b⟩:=av Q;clear h Q;have D:=aZ L D;have E:=aZ L E;split at b
 case h_2=>cases b
 rename_i e U;split at b
 case h_2=>cases b
 rename_i k1 n k2 m _ _;simp only[VR]at D E;obtain⟨zv,I,b⟩:=av b;split at b
 case h_2=>cases b
 rename_i tr p _ l;split at b
 case h_2=>cases b
 rename_i O;simp only[aC,iR]at O;obtain⟨K,e2,M,F⟩:=O;have M:=aJ M;have F:=aJ F;obtain⟨X,J,b⟩:=av b;obtain⟨hc,b⟩:=dU b;simp only[aC,cA]at hc;obtain⟨S,c1,c2⟩:=hc;obtain⟨zc,i,R,W,h3,_⟩:=rt ι I;rw[l]at R;cases R;have g:=kB h3;rw[rE J]at g;have g:=(kE ι tr X _).1 g;have A:p.size=P.cellsOf e:=by unfold Program.cellsOf;rw[l];rfl
 have Z:m=(m.toNat:Int):=by omega
 have B:=run_make (P:=P) w t e p zc U l W k1 k2 n m S c1 (by
  rw[Z,<-Au];have:p.bytes*m.toNat<=1048576*67108864:=ul F (by omega);omega) (by omega)
 refine⟨_,b,.mkR (d:=w.drawn) (q:=(Rf.of w.heap.size (n.toNat) (m.toNat))) (x:=.slice (some ⟨w.heap.size,0,none⟩) n.toNat m.toNat) (ob:=.cells (madeCells zc.cells (m.toNat*p.size)) e) ?_ rfl rfl ?_ ?_⟩
 ·simp only[execOp,V,D,E,ax,B,az,aA]
 ·have G:(madeCells zc.cells (m.toNat*p.size)).size=m.toNat*p.size:=size_madeCells _ _;refine⟨_,e,_,rfl,by simp,by simp only;omega,by rw[G,A,K];simp,?_,.inr (pa _)⟩;simp only[gk];rw[B0,List.length_replicate,<-g];apply vh;intro j;have k:zc.cells.toList.length=tr.length:=by rw[g,eX]
  have r:zc.cells.size=tr.length:=by simpa using k
  have Y:n.toNat*tr.length<=m.toNat*tr.length:=lz _ (by omega);by_cases N:j<n.toNat*tr.length
  ·rw[mR N,GZ n.toNat j (by rw[k];exact N),k];have C:j%tr.length<zc.cells.size:=by rw[r];exact m9 _ (by omega)
   simp only[madeCells,A,<-K,r];rw[oz,Array.getElem?_map,Array.getElem?_range];simp[show j<m.toNat*tr.length by omega,C]
  ·rw[dX (by rw[dx];omega),dX (by rw[Fa,k];omega)]
 ·simp only[VR];exact .inl ⟨_,cH _ _ _,rfl⟩
def MO{op:BinOp}{t:TypeId}{x y:Operand}{u v:V}{r:Bool}{X Y:Value}(h:niK P op t x y u v=some r)(hx:VR ι u X)(hy:VR ι v Y)(w:World):
  (eqGuard op t x y X Y).run P w=.ok () w/\(binOp op t X Y).run P w=.ok (.bool r) w:=by
 unfold niK at h;split at h
 case h_2=>cases h
 simp only[VR]at hx hy;subst hx hy;split at h
 case h_2=>cases h
 rename_i hc;split at h
 case h_2=>cases h
 rename_i f d;have b:∀o:BinOp,o=.eql\/o=.neq->(eqGuard o t x y .nilIface .nilIface).run P w=.ok () w:=by
  intro o e;have a:(∃v,x=.const v)\/∃v,y=.const v:=by
   rw[fP]at hc;refine hc.imp (λh=>?_) (λh=>?_)
   ·cases x<;>simp_all[BH]
   ·cases y<;>simp_all[BH]
  rcases a with⟨v,rfl⟩ | ⟨v,rfl⟩<;>rcases e with rfl | rfl<;>simp[eqGuard]
 have c:(Op.equal t .nilIface .nilIface).run P w=.ok true w:=by rw[du,Op.equalIn];simp[aR d]
 split at h
 ·simp only[aq]at h;subst h;exact⟨b _ (.inl rfl),by simp[binOp,c]⟩
 ·simp only[aq]at h;subst h;exact⟨b _ (.inr rfl),by simp[binOp,c]⟩
 ·cases h
def iz{t e:TypeId}{c:TypeInfo}(d:P.underlying t=some (.slice e))(hi:P.info? e=some c){n cp:Nat}{a:Option Addr}{k k':IntKind}{h m:Int}{H M:Nat}(f:bx n m=some M)(i:bx M h=some H)(p:n<=cp)(w:World):
  (Instr.sliceAt t (.slice a n cp) none (some (.int k h)) (some (.int k' m))).run P w=.ok (.slice a H M) w:=by
 obtain⟨m0,m1,rfl⟩:=jo f;obtain⟨g,j,rfl⟩:=jo i;have l:=run_sliceBound (P:=P) w k' m cp .slice3Acap m0 (by omega);have b:=run_sliceBound (P:=P) w k h m.toNat .slice3B g j;simp only[Instr.sliceAt,Instr.slice,ax,aR d,az,Instr.sliceBounds,bc,l,b,aA,ei hi,Nat.sub_zero,Nat.zero_mul];split
 ·rfl
 ·cases a with
  | none=>rfl
  | some q=>obtain⟨r,o,x⟩:=q;simp[Addr.add]
def DK{t:TypeId}{x V:Operand}{lo hi:Option Operand}(G:o.op=.slice t x lo hi (some V))(L:TR ι s.T a.tmps)(Y:WR ι s.H s.nb w)(h:effK P (opd s.T) s.H f (.slice t x lo hi (some V)) c=some z):
  ∃e,c e=some z/\eO P ι f o a w e:=by
 simp only[effK,qI]at h;split at h
 case h_2=>cases h
 rename_i hh;obtain⟨v,hx,d⟩:=av h;clear h;have C:=aZ L hx;clear hx;split at d
 case h_2=>cases d
 rename_i k1 Z k2 m1 N K;have E:=aZ L N;have D:=aZ L K;simp only[VR]at E D;split at d
 case h_2=>cases d
 rename_i e F;split at d
 case h_2=>cases d
 rename_i hp;obtain⟨ti,m⟩:=bC hp;split at d
 ·rename_i b;split at d
  case h_2=>cases d
  rename_i tr l hb;split at d
  case h_2=>cases d
  obtain⟨M,u,I⟩:=av d;obtain⟨H,p,A⟩:=av I;obtain⟨m0,m2,R⟩:=jo u;obtain⟨S,Q,U⟩:=jo p;simp only[VR]at C;rcases gD Y hb with⟨q,cs,e',fr,B,r2,r4,r5,_,_,_⟩ | ⟨B,rfl⟩
  ·rcases C with⟨q',g,y⟩ | ⟨g,_⟩
   ·rw[g]at B;cases B;refine⟨_,A,.val (x:=.slice (some ⟨q.r,q.o,none⟩) H M) ?_ ?_⟩
    ·simp only[execOp,G,y,E,D,ax,fY,ek];rw[<-r4,iz F m u p (by omega) w];rfl
    ·simp only[VR];exact .inl ⟨q,_,_,g,⟨by omega,nU⟩,λ_=>by omega,rfl⟩
   ·rw[g]at B;cases B
  ·rcases C with⟨q,g,y⟩ | ⟨g,J,y⟩
   ·rw[g]at B;cases B
   ·simp only[iN]at m2;have k:M=0:=by omega
    have i:H=0:=by omega
    subst k i;refine⟨_,A,.val (x:=.slice J 0 0) ?_ (by unfold VR;exact .inr ⟨g,⟨rfl,nU⟩,J,rfl⟩)⟩;simp only[execOp,G,y,E,D,ax,fY,ek];rw[iz F m (n:=0) (M:=0) u p (by omega) w];rfl
 ·rename_i zz b j n _;obtain⟨M,u,I⟩:=av d;obtain⟨H,p,A⟩:=av I;obtain⟨m0,m2,R⟩:=jo u;obtain⟨S,Q,U⟩:=jo p;simp only[VR]at C;rcases C with⟨q,cp,off,g,⟨O,_⟩,X,y⟩ | ⟨g,⟨O,_⟩,J,y⟩
  ·refine⟨_,A,.val (x:=.slice (some ⟨q.r,off,none⟩) H M) ?_ ?_⟩
   ·simp only[execOp,G,y,E,D,ax,fY,ek];rw[iz F m u p O w];rfl
   ·simp only[VR];exact .inl ⟨q,_,_,g,⟨by omega,nU⟩,λW=>X (by omega),rfl⟩
  ·subst O;have k:M=0:=by omega
   have i:H=0:=by omega
   subst k i;refine⟨_,A,.val (x:=.slice J 0 0) ?_ (by unfold VR;exact .inr ⟨g,⟨rfl,nU⟩,J,rfl⟩)⟩;simp only[execOp,G,y,E,D,ax,fY,ek];rw[iz F m (n:=0) (M:=0) u p (by omega) w];rfl
 ·obtain⟨M,u,I⟩:=av d;obtain⟨H,p,A⟩:=av I;obtain⟨m0,m2,R⟩:=jo u;obtain⟨S,Q,U⟩:=jo p;simp only[VR]at C;have k:M=0:=by omega
  have i:H=0:=by omega
  subst k i;refine⟨_,A,.val (x:=.slice none 0 0) ?_ (by simp only[VR])⟩;simp only[execOp,G,C,E,D,ax,fY,ek];rw[iz F m (n:=0) (M:=0) u p (by omega) w];rfl
 ·cases d
def M9{op:BinOp}{t:TypeId}{u v:V}{r:Bool}{n:Nat}{rd:List Nat}{X Y:Value}{H:List (Nat×Blk)}{nb:Nat}(h:slN P op t u v=some r)(a:slL H u=some (n,rd))(y:0<n)(s:WR ι H nb w)(hx:VR ι u X)(hy:VR ι v Y)(p q:Operand):
  (eqGuard op t p q X Y).run P w=.ok () w/\(binOp op t X Y).run P w=.ok (.bool r) w:=by
 unfold slN at h;split at h
 case h_2=>cases h
 simp only[VR]at hy;subst hy;have b:∀(A:Addr) (n c:Nat),X=.slice (some A) n c->P.underlying t=(P.underlying t)->∀e,P.underlying t=some (.slice e)->
   ((eqGuard .eql t p q X (.slice none 0 0)).run P w=.ok () w/\(binOp .eql t X (.slice none 0 0)).run P w=.ok (.bool false) w)/\
   ((eqGuard .neq t p q X (.slice none 0 0)).run P w=.ok () w/\(binOp .neq t X (.slice none 0 0)).run P w=.ok (.bool (!false)) w):=by
  rintro A n c rfl _ e f;exact lV p q (.inl (by simp)) (.inl (by simp)) (by simp) (by rw[du,Op.equalIn];simp[aR f])
 have fin:∀(A:Addr) (n c:Nat),X=.slice (some A) n c->slT P op t=some r->(eqGuard op t p q X (.slice none 0 0)).run P w=.ok () w/\(binOp op t X (.slice none 0 0)).run P w=.ok (.bool r) w:=by
  intro A n c o h;unfold slT at h;split at h
  case h_2=>cases h
  rename_i e f;obtain⟨m1,m2⟩:=b A n c o rfl e f;split at h
  ·simp only[aq]at h;subst h;exact m1
  ·simp only[aq]at h;subst h;exact m2
  ·cases h
 split at h
 ·rename_i c;simp only[slL]at a;split at a
  case h_2=>cases a
  rename_i tr l B;simp only[aq,cJ]at a;obtain⟨rfl,_⟩:=a;simp only[VR]at hx;rcases gD s B with⟨G,K,C,fr,g,I,r4,_⟩ | ⟨g,rfl⟩
  ·rcases hx with⟨x,d,i⟩ | ⟨d,_⟩
   ·exact fin _ _ _ i h
   ·rw[d]at g;cases g
  ·simp at y
 ·rename_i z c j m F;simp only[slL,aq,cJ]at a;obtain⟨rfl,_⟩:=a;simp only[VR]at hx;rcases hx with⟨x,E,D,d,i,J,k⟩ | ⟨d,⟨i,_⟩,_⟩
  ·exact fin _ _ _ k h
  ·omega
 ·cases h
def zK{t:TypeId}{x:Option Operand}(b:o.op=.makeMap t x)(h:effK P (opd s.T) s.H f (.makeMap t x) c=some z):∃e,c e=some z/\eO P ι f o a w e:=by
 simp only[effK]at h;split at h
 case h_2=>cases h
 split at h
 case h_2=>cases h
 refine⟨_,h,.mk (x:=.map (some w.heap.size)) (ob:=.map #[] 0) ?_ ⟨#[],0,rfl,rfl⟩ (by simp only[VR];exact⟨_,cH _ _ _,rfl⟩)⟩;simp only[execOp,b,fY,ax];rfl
def JF{H:List (Nat×Blk)}{nb b:Nat}{w:World}(f:WR ι H nb w){k:IntKind}{l:List (Int×Nat)}(g:look H b=some (.mp k l)):
  ∃q c a,ι b=some (some q)/\w.heap[q.r]?=some (.map c a)/\c.toList.map (λe=>(e.key,e.val))=l.map λp=>(Value.int k p.1,fnV p.2 #[]):=by
 obtain⟨q,o,i,h,c,a,rfl,d⟩:=(f.blk b _ g (by simp)).real (by simp);exact⟨q,c,a,i,h,d⟩
def GP{α:Type}{k:IntKind}{n:Int}{c:Nat->Option α}{z:α}:∀(d:List MapEntry) (l:List (Int×Nat)) (i:Nat),d.map (λe=>(e.key,e.val))=l.map (λp=>(Value.int k p.1,fnV p.2 #[]))->mapK l n c=some z->
  ∃g j,c g=some z/\Instr.findNow (.int k) (.int k n) d i=some (some (j,fnV g #[]))
 | [],[],_,_,h=>by cases h
 | [],_::_,_,a,_=>by simp at a
 | _::_,[],_,a,_=>by simp at a
 | e::d,(m,g)::l,i,a,h=>by
  simp only[fb,xN,cJ]at a;obtain⟨⟨f,q⟩,o⟩:=a;simp only[mapK]at h;cases b:(n==m)with
  | true=>
   rw[b]at h;exact⟨g,i,h,by simp only[Instr.findNow,f,Instr.sameNow,bc,b,q]⟩
  | false=>
   rw[b]at h;obtain⟨t,j,r,s⟩:=GP d l (i+1) o h;exact⟨t,j,r,by simp only[Instr.findNow,f,Instr.sameNow,bc,b];exact s⟩
def DL{t:TypeId}{m x:Operand}{ok:Bool}(D:o.op=.lookup t m x ok)(p:TR ι s.T a.tmps)(I:WR ι s.H s.nb w)(h:effK P (opd s.T) s.H f (.lookup t m x ok) c=some z):
  ∃e,c e=some z/\eO P ι f o a w e:=by
 simp only[effK]at h;split at h
 case h_2=>cases h
 rename_i b J;split at h
 case h_2=>cases h
 rename_i k n hx;split at h
 case h_2=>cases h
 rename_i kt R B;split at h
 case h_2=>cases h
 rename_i k2 r;split at h
 case h_2=>cases h
 rename_i k1 l M;split at h
 case h_2=>cases h
 rename_i d;simp only[aC]at d;have C:=iL d.1;have A:=iL d.2;subst C A;have u:=aZ p J;have v:=aZ p hx;simp only[VR]at u v;obtain⟨q,N,E⟩:=u;obtain⟨Q,F,i,y,G,L⟩:=JF I M;rw[N]at y;cases y;obtain⟨g,j,K,O⟩:=GP F.toList l 0 L h;refine⟨_,K,.val (x:=fnV g #[]) ?_ (by simp only[VR];exact⟨#[],rfl,by simp[VRs]⟩)⟩;simp only[execOp,D,E,v,ax,Instr.lookup,aR B,az,MapKept.run_getObj_map G,aA,
  MapKept.run_checkKey (k:=.int k2 n) r (by simp[MapKept.IsKey]),MapKept.run_findKey r O]
 rfl
def DU{t:TypeId}{m x y:Operand}(Y:o.op=.insert t m x y)(F:TR ι s.T a.tmps)(hW:WR ι s.H s.nb w)(h:effK P (opd s.T) s.H f (.insert t m x y) c=some z):
  ∃e,c e=some z/\eO P ι f o a w e:=by
 simp only[effK]at h;split at h
 case h_2=>cases h
 rename_i b hm;split at h
 case h_2=>cases h
 rename_i k n g hx hy;split at h
 case h_2=>cases h
 rename_i kt et V;split at h
 case h_2=>cases h
 rename_i k2 K;split at h
 case h_2=>cases h
 rename_i k1 l hb;split at h
 case h_2=>cases h
 rename_i C;simp only[aC]at C;obtain⟨G,I,A⟩:=C;have X:=iL G;have U:=iL I;subst X U;have M:=aZ F hm;have N:=aZ F hx;have O:=aZ F hy;simp only[VR]at M N O;obtain⟨q,S,Z⟩:=M;obtain⟨cs,W,J⟩:=O;simp only[VRs]at J;have E:cs=#[]:=by
  apply kH;simpa using J
 subst E;obtain⟨q',D,d,Q,L,R⟩:=JF hW hb;rw[S]at Q;cases Q;have B:∀e∈D.toList,∃p∈l,e.key=.int k2 p.1:=by
  intro e v;have:(e.key,e.val)∈l.map λp=>(Value.int k2 p.1,fnV p.2 #[]):=by rw[<-R];exact da.2 ⟨e,v,rfl⟩
  obtain⟨p,hp,i⟩:=da.1 this;simp only[cJ]at i;exact⟨p,hp,i.1.symm⟩
 have r:MapKept.IsKey (.int k2) (.int k2 n):=by simp[MapKept.IsKey]
 have u:Instr.findNow (.int k2) (.int k2 n) D.toList 0=some none:=by
  rcases MapKept.findNow_spec r D.toList 0 (λe v=>by obtain⟨p,_,hp⟩:=B e v;rw[hp];simp[MapKept.IsKey])with⟨h,_⟩ | ⟨j,e,_,hj,v⟩
  ·exact h
  ·exfalso;obtain⟨p,hp,i⟩:=B e (dY hj);rw[i]at v;have:=(ch.1 A) p hp;simp only[Value.int.injEq,ie]at v;simp[v]at this
 refine⟨_,h,?_⟩;unfold eO;refine⟨q,S,λ_=>⟨.map (D.push { key:=.int k2 n,val:=fnV g #[],born:=d }) (d+1),.skip,?_,⟨_,_,rfl,?_⟩,.skip rfl⟩⟩
 ·simp only[execOp,Y,Z,N,W,ax,Instr.mapUpdate,aR V,az,MapKept.run_getObj_map L,MapKept.run_checkKey (k:=.int k2 n) K r,MapKept.run_findKey K u,MapKept.run_setObj_map _ L,aA];rfl
 ·rw[Array.toList_push,zD,zD,R];rfl
def Gx(k:TR ι s.T a.tmps)(C:WR ι s.H s.nb w)(Z:ι f=none)(h:effK P (opd s.T) s.H f o.op c=some z):∃e,c e=some z/\eO P ι f o a w e:=by
 cases j:o.op with
 | move x=>
  rw[j]at h;simp only[effK]at h;obtain⟨v,p,h⟩:=av h;exact⟨_,h,.val (by simp only[execOp,j,aA]) (aZ k p)⟩
 | assign x=>
  rw[j]at h;simp only[effK]at h;obtain⟨v,p,h⟩:=av h;exact⟨_,h,.val (by simp only[execOp,j,aA]) (aZ k p)⟩
 | pick q x y=>
  rw[j]at h;simp only[effK]at h;split at h
  ·rename_i t K;have p:=aZ k K;simp only[VR]at p;cases t
   ·simp only[af]at h;obtain⟨v,A,h⟩:=av h;exact⟨_,h,.val (x:=a.eval y) (by simp[execOp,j,p,asBool]) (aZ k A)⟩
   ·simp only[am]at h;obtain⟨v,A,h⟩:=av h;exact⟨_,h,.val (x:=a.eval x) (by simp[execOp,j,p,asBool]) (aZ k A)⟩
  ·cases h
 | alloc t=>rw[j]at h;exact EZ j h
 | makeMap t x=>rw[j]at h;exact zK j h
 | insert t m x y=>rw[j]at h;exact DU j k C h
 | lookup t m x ok=>rw[j]at h;exact DL j k C h
 | box t x=>rw[j]at h;exact LH j k Z h
 | build t ps=>rw[j]at h;exact EI j k h
 | buildSlice t n ps=>rw[j]at h;exact ur j k Z h
 | load t x=>rw[j]at h;exact HJ j k C h
 | makeSlice t x y=>rw[j]at h;exact wn j k h
 | store t x y=>rw[j]at h;exact Gj j k C h
 | nilCheck x=>
  rw[j]at h;simp only[effK]at h;split at h
  ·rename_i b off hx;have p:=aZ k hx;have A:=p;simp only[VR]at p;obtain⟨r,h5,B⟩:=p;exact⟨_,h,.val (x:=a.eval x) (by simp[execOp,j,B]) A⟩
  ·rename_i zz b jj off hx;have p:=aZ k hx;have A:=p;simp only[VR]at p;obtain⟨r,h5,B⟩:=p;exact⟨_,h,.val (x:=a.eval x) (by simp[execOp,j,B]) A⟩
  ·rename_i g l hx;have p:=aZ k hx;have A:=p;simp only[VR]at p;obtain⟨W,B,_⟩:=p;obtain⟨g',b',c',h7⟩:=vt g W;exact⟨_,h,.val (x:=a.eval x) (by simp[execOp,j,B,h7]) A⟩
  ·rename_i b off n m hx;have p:=aZ k hx;have A:=p;simp only[VR]at p;obtain⟨r,cp,_,_,_,B⟩:=p;exact⟨_,h,.val (x:=a.eval x) (by simp[execOp,j,B]) A⟩
  ·rename_i t v hx;have p:=aZ k hx;have A:=p;simp only[VR]at p;obtain⟨y,B,_⟩:=p;exact⟨_,h,.val (x:=a.eval x) (by simp[execOp,j,B]) A⟩
  ·cases h
 | binOp op t x y yt=>
  rw[j]at h;simp only[effK]at h;obtain⟨u,G,h⟩:=av h;obtain⟨v,p,h⟩:=av h;split at h
  ·rename_i r U;have hx:=aZ k G;have hy:=aZ k p;obtain⟨I,L⟩:=MO U hx hy w;exact⟨_,h,.val (x:=.bool r) (by simp only[execOp,j,ax,I,L,az,aA]) (by simp[VR])⟩
  split at h
  ·rename_i r U;split at h
   case h_2=>cases h
   rename_i m rd E;obtain⟨hm,h⟩:=dU h;obtain⟨I,L⟩:=M9 U E (aJ hm) C (aZ k G) (aZ k p) x y;exact⟨_,h,.val (x:=.bool r) (by simp only[execOp,j,ax,I,L,az,aA]) (by simp[VR])⟩
  obtain⟨R,X,Y,S,I,L⟩:=Kz h (aZ k G) (aZ k p) x y w;exact⟨_,Y,.val (x:=X) (by simp only[execOp,j,ax,I,L,az,aA]) S⟩
 | unOp op t x=>
  rw[j]at h;simp only[effK]at h;obtain⟨u,G,h⟩:=av h;obtain⟨R,X,Y,S,I⟩:=Oj (P:=P) h (aZ k G) w;exact⟨_,Y,.val (x:=X) (by simp only[execOp,j,ax,I,az,aA]) S⟩
 | convert sr d x=>rw[j]at h;exact yV j k C h
 | next x str=>rw[j]at h;exact IL j k C h
 | makeInterface t x=>
  rw[j]at h;simp only[effK]at h;obtain⟨u,G,h⟩:=av h;have p:=aZ k G;split at h
  ·cases h
  ·rename_i d O N;refine⟨_,h,.val (x:=.iface t (a.eval x)) ?_ (by simp only[VR];exact⟨_,rfl,p⟩)⟩;simp only[execOp,j,Instr.makeInterface,ax,aR N,az];cases d<;>first | rfl | exact absurd rfl (O _)
  ·cases h
 | makeFunc fn first cap=>
  rw[j]at h;simp only[effK]at h;split at h
  ·rename_i g F;split at h
   case h_2=>cases h
   rename_i hb;obtain⟨l,E,h⟩:=av h;have J:=sS k E;have D:first=#[]:=by apply kH;simpa using F
   refine⟨_,h,.val (x:=.func (.func g) #[] (cap.map a.eval)) ?_ (by simp only[VR];exact⟨_,(GX hb _).symm,by simpa using J⟩)⟩;simp only[execOp,j,Instr.makeFunc,D,Ao,ax,aA,az]
  ·rename_i g _ _ F;split at h
   ·rename_i M;obtain⟨l,E,h⟩:=av h;have J:=sS k E;have hcap':cap=#[]:=by apply kH;simpa using M
    refine⟨_,h,.val (x:=.func (.func g) (first.map a.eval) #[]) ?_ (by simp only[VR];exact⟨_,(H5 g _).symm,by simpa using J⟩)⟩;simp only[execOp,j,Instr.makeFunc,hcap',Ao,ax,aA,az]
   ·cases h
  ·cases h
 | slice t x lo hi mx=>
  rw[j]at h;cases mx with
  | none=>exact GF j k C h
  | some m=>exact DK j k C h
 | fieldAddr t x i=>rw[j]at h;exact wE j k h
 | field t x i=>rw[j]at h;exact Gi j k h
 | indexAddr t x i=>rw[j]at h;exact wz j k C h
 | index t x i=>rw[j]at h;exact GT j k h
 | range t x=>rw[j]at h;exact D9 j k h
 | extract x i=>
  rw[j]at h;simp only[effK]at h;split at h
  ·rename_i l hx;obtain⟨v,p,h⟩:=av h;have E:=aZ k hx;simp only[VR]at E;obtain⟨W,B,Q⟩:=E;obtain⟨y,hy,V⟩:=Q.get p;have hy':W[i]?=some y:=by simpa using hy
   exact⟨_,h,.val (x:=y) (by simp[execOp,j,B,Instr.extract,hy']) V⟩
  ·cases h
 | typeAssert x xt at_ ok=>
  rw[j]at h;simp only[effK]at h;split at h
  case h_2=>cases h
  rename_i t v hx;have p:=aZ k hx;simp only[VR]at p;obtain⟨y,B,hy⟩:=p;split at h
  ·cases h
  ·rename_i d O N;split at h
   case h_2=>cases h
   rename_i K;have K:=be K;subst K;cases ok with
   | true=>
    refine⟨_,h,.val (x:=.tuple #[y,.bool true]) ?_ (by simp only[VR,VRs];exact⟨_,rfl,y,[.bool true],rfl,hy,_,[],rfl,rfl,rfl⟩)⟩;simp only[execOp,j,B,Instr.typeAssert,ax,aR N,az];cases d<;>first | simp | exact absurd rfl (O _)
   | false=>
    refine⟨_,h,.val (x:=y) ?_ hy⟩;simp only[execOp,j,B,Instr.typeAssert,ax,aR N,az];cases d<;>first | simp | exact absurd rfl (O _)
  ·cases h
 | call cl=>rw[j]at h;exact HB j k C h
 | _=>rw[j]at h;simp[effK]at h
end ops
end Go.Abs
