
import Derived.Test.YtibehcmomiplnabGreatDoorAbsG
import Derived.Laws.BytesArg
import Derived.Laws.BytesString
import Derived.Lib.ConvBytes
import Derived.Laws.MakeOwn
import Derived.Deep.AppendSrc
import Derived.MapKept
set_option linter.unusedSimpArgs false
set_option linter.unusedVariables false
set_option linter.defProp false
namespace Go.Abs
variable {P:Program}
section ops
variable {α:Type} {ι:Inj} {s:St} {a:Act} {w:World} {f:Nat} {o:Oper} {c:Eff->Option α} {z:α}
def AZ{t:TypeId}{a:Array Field}{fd:Field}{i:Nat}{b:TypeInfo}(d:P.underlying t=some (.struct a))(c:a[i]?=some fd)(hi:P.info? fd.type=some b)
  (hp:0<P.cellsOf fd.type) (r off:Nat) (w:World):(Instr.fieldAt t (.pointer (some ⟨r,off,none⟩)) i).run P w=.ok (.pointer (some ⟨r,off+fd.offset,none⟩)) w:=by
 simp only[Instr.fieldAt,ay,bu d,aE,c,Instr.sureAddr,aH,fieldPlace,ig hi,show¬(P.cellsOf fd.type=0)by omega,aF,o7]
def Fp{t:TypeId}{x:Operand}{i:Nat}(q:o.op=.fieldAddr t x i)(v:TR ι s.T a.tmps)(h:effK P (opd s.T) s.H f (.fieldAddr t x i) c=some z):
  ∃e,c e=some z/\iJ P ι f o a w e:=by
 simp only[effK]at h;split at h
 ·rename_i b off hx;split at h
  ·rename_i y p;split at h
   ·rename_i fd l;split at h
    ·rename_i hp;obtain⟨A,g⟩:=cG hp;have k:=bL v hx;simp only[VR]at k;obtain⟨r,n,m⟩:=k;have d:=AZ p (by simpa using l) g (aR hp) r.r off w;exact⟨_,h,.val (x:=.pointer (some ⟨r.r,off+fd.offset,none⟩)) (by simp only[execOp,q,m,ay,d,aE,aH]) (by simp only[VR,sJ];exact⟨r,n,rfl⟩)⟩
    ·cases h
   ·cases h
  ·cases h
 ·rename_i u b j off hx;split at h
  ·rename_i y p;split at h
   ·rename_i fd l;split at h
    ·rename_i hp;obtain⟨A,g⟩:=cG hp;have k:=bL v hx;simp only[VR]at k;obtain⟨r,n,m⟩:=k;have d:=AZ p (by simpa using l) g (aR hp) r.r (r.o+(j*u+off)) w;exact⟨_,h,.val (x:=.pointer (some ⟨r.r,r.o+(j*u+off)+fd.offset,none⟩)) (by simp only[execOp,q,m,ay,d,aE,aH]) (by simp only[VR,sJ];exact⟨r,n,by rw[iy,iy]⟩)⟩
    ·cases h
   ·cases h
  ·cases h
 ·cases h
def OX{t:TypeId}{x:Operand}{i:Nat}(n:o.op=.field t x i)(D:TR ι s.T a.tmps)(h:effK P (opd s.T) s.H f (.field t x i) c=some z):
  ∃e,c e=some z/\iJ P ι f o a w e:=by
 simp only[effK]at h;split at h
 ·rename_i l hx;have p:=bL D hx;simp only[VR]at p;obtain⟨r,q,j⟩:=p;split at h
  ·rename_i C u;split at h
   ·rename_i fd A;have hf':C[i]?=some fd:=by simpa using A
    split at h
    ·rename_i b;split at h
     ·have E:∃d,P.underlying fd.type=some d:=by
       unfold cD at b;split at b
       ·exact⟨_,by assumption⟩
       ·exact⟨_,by assumption⟩
       ·cases b
      obtain⟨d',g⟩:=E;obtain⟨F,m⟩:=pG g;refine⟨_,h,.val (x:=.agg (r.extract fd.offset (fd.offset+P.cellsOf fd.type))) ?_ (sj (j.extract _ _))⟩;simp only[execOp,n,q,Instr.field,ay,bu u,aE,hf',asAgg,aH,part,lZ g,b,aS,ig m]
     ·cases h
    ·rename_i b;split at h
     ·rename_i d' g;obtain⟨v,B,h⟩:=ax h;obtain⟨y,hy,k⟩:=j.get B;have hy':r[fd.offset]?=some y:=by simpa using hy
      refine⟨_,h,.val (x:=y) ?_ k⟩;simp only[execOp,n,q,Instr.field,ay,bu u,aE,hf',asAgg,aH,part,lZ g,b,bI,aF,hy']
     ·cases h
   ·cases h
  ·cases h
 ·cases h
def rK{t e:TypeId}{m:Nat}{c:TypeInfo}(d:P.underlying t=some (.array m e))(hi:P.info? e=some c)(k:IntKind){n:Int}(b:0<=n)(a:n<m)(r off:Nat)(w:World):
  (Instr.indexAt t (.pointer (some ⟨r,off,none⟩)) (.int k n)).run P w=.ok (.pointer (some ⟨r,off+n.toNat*P.cellsOf e,none⟩)) w:=by
 simp only[Instr.indexAt,asIntOf,ay,aH,aE,bu d,Instr.sureAddr,b,a,and_self,aS,ig hi,o7]
def nE{t e:TypeId}{m cp:Nat}{c:TypeInfo}(d:P.underlying t=some (.slice e))(hi:P.info? e=some c)(k:IntKind){n:Int}(b:0<=n)(a:n<m)(r off:Nat)(w:World):
  (Instr.indexAt t (.slice (some ⟨r,off,none⟩) m cp) (.int k n)).run P w=.ok (.pointer (some ⟨r,off+n.toNat*P.cellsOf e,none⟩)) w:=by
 simp only[Instr.indexAt,asIntOf,ay,aH,aE,bu d,b,a,and_self,aS,ig hi,o7]
def EX{t:TypeId}{x i:Operand}(F:o.op=.indexAddr t x i)(E:TR ι s.T a.tmps)(O:WR ι s.H s.nb w)(h:effK P (opd s.T) s.H f (.indexAddr t x i) c=some z):
  ∃e,c e=some z/\iJ P ι f o a w e:=by
 simp only[effK]at h;split at h
 case h_2=>cases h
 rename_i k n hi;have u:=bL E hi;simp only[VR]at u;split at h
 ·rename_i m e D;split at h
  ·rename_i b off hx;have p:=bL E hx;simp only[VR]at p;obtain⟨r,v,B⟩:=p;split at h
   ·rename_i hp;obtain⟨I,g⟩:=cG hp;obtain⟨j,C,h⟩:=ax h;obtain⟨g0,A,rfl⟩:=qT C;have d:=rK D g k g0 A r.r off w;exact⟨_,h,.val (x:=.pointer (some ⟨r.r,off+n.toNat*P.cellsOf e,none⟩)) (by simp only[execOp,F,B,u,ay,d,aE,aH]) (by simp only[VR,sJ,AQ];exact⟨r,v,rfl⟩)⟩
   ·cases h
  ·rename_i J b K off hx;have p:=bL E hx;simp only[VR]at p;obtain⟨r,v,B⟩:=p;split at h
   ·rename_i hp;obtain⟨I,g⟩:=cG hp;obtain⟨j,C,h⟩:=ax h;obtain⟨g0,A,rfl⟩:=qT C;have d:=rK D g k g0 A r.r (r.o+(K*J+off)) w;exact⟨_,h,.val (x:=.pointer (some ⟨r.r,r.o+(K*J+off)+n.toNat*P.cellsOf e,none⟩)) (by simp only[execOp,F,B,u,ay,d,aE,aH]) (by simp only[VR,sJ,AQ];exact⟨r,v,by rw[iy,iy]⟩)⟩
   ·cases h
  ·cases h
 ·rename_i e D;split at h
  ·rename_i b off m cp hx;have p:=bL E hx;simp only[VR]at p;obtain⟨r,cap,v,_,_,B⟩:=p;split at h
   ·rename_i hp;obtain⟨I,g⟩:=cG hp;obtain⟨j,C,h⟩:=ax h;obtain⟨g0,A,rfl⟩:=qT C;have d:=nE (cp:=cap) D g k g0 A r.r off w;exact⟨_,h,.val (x:=.pointer (some ⟨r.r,off+n.toNat*P.cellsOf e,none⟩)) (by simp only[execOp,F,B,u,ay,d,aE,aH]) (by simp only[VR,sJ,AQ];exact⟨r,v,rfl⟩)⟩
   ·cases h
  ·rename_i b hx;have p:=bL E hx;simp only[VR]at p;split at h
   case h_2=>cases h
   rename_i tr l L;split at h
   case h_2=>cases h
   rename_i hp;simp only[aD,kx]at hp;obtain⟨N,hp⟩:=hp;obtain⟨I,g⟩:=cG hp;obtain⟨j,C,h⟩:=ax h;obtain⟨g0,A,rfl⟩:=qT C;rcases kM O L with⟨q,R,U,fr,G,V,M,W,Q,Y,X⟩ | ⟨G,rfl⟩
   ·rcases p with⟨S,v,B⟩ | ⟨v,_⟩
    ·rw[v]at G;cases G;have g1':n<(q.n:Int):=by rw[<-M];exact A
     have d:=nE (cp:=q.k) D g k g0 g1' q.r q.o w;exact⟨_,h,.val (x:=.pointer (some ⟨q.r,q.o+n.toNat*P.cellsOf e,none⟩)) (by simp only[execOp,F,B,u,ay,d,aE,aH]) (by simp only[VR];exact⟨q,v,by rw[dj]⟩)⟩
    ·rw[v]at G;cases G
   ·simp at A;omega
  ·rename_i J b Z m _ hx;have p:=bL E hx;simp only[VR]at p;split at h
   case h_2=>cases h
   rename_i hp;simp only[aD,kx]at hp;obtain⟨rfl,hp⟩:=hp;obtain⟨I,g⟩:=cG hp;obtain⟨j,C,h⟩:=ax h;obtain⟨g0,A,rfl⟩:=qT C;rcases p with⟨q,cp,off,v,_,y,B⟩ | ⟨_,⟨rfl,_⟩,_⟩
   ·have d:=nE (cp:=cp) D g k g0 A q.r off w;have y:=y (by omega);exact⟨_,h,.val (x:=.pointer (some ⟨q.r,off+n.toNat*P.cellsOf e,none⟩)) (by simp only[execOp,F,B,u,ay,d,aE,aH]) (by simp only[VR,sJ];exact⟨q,v,by rw[y,iV,dj,iy]⟩)⟩
   ·omega
  ·cases h
 ·cases h
def ku{t e:TypeId}{m:Nat}{c:TypeInfo}(f:P.underlying t=some (.array m e))(hi:P.info? e=some c)(k:IntKind){n:Int}(b:0<=n)(d:n<m)(a:Array Value)(w:World):
  (Instr.index t (.agg a) (.int k n)).run P w=(part e a (n.toNat*P.cellsOf e)).run P w:=by
 simp only[Instr.index,asIntOf,ay,aH,aE,bu f,b,d,and_self,aS,ig hi]
def us{t:TypeId}{d:TypeDesc}(c:P.underlying t=some d)(b:cD P t=false){a:Array Value}{off:Nat}{x:Value}(hx:a[off]?=some x)(w:World):
  (part t a off).run P w=.ok x w:=by
 simp only[part,ay,lZ c,b,aE,bI,aF,hx,aH]
def xU{t:TypeId}{d:TypeDesc}(b:P.underlying t=some d)(c:cD P t=true)(a:Array Value)(off:Nat)(w:World):
  (part t a off).run P w=.ok (.agg (a.extract off (off+P.cellsOf t))) w:=by
 obtain⟨i,hi⟩:=pG b;simp only[part,ay,lZ b,c,aE,aS,ig hi,aH]
def yu{t:TypeId}(f:P.underlying t=some .string){l:aa}{n:Int}{b:UInt8}(h:sx l n=some b)(k:IntKind)(w:World):
  (Instr.index t (.string ⟨l.toArray⟩) (.int k n)).run P w=.ok (.int .u8 b.toNat) w:=by
 unfold sx at h;split at h
 ·rename_i e;have d:(ByteArray.mk l.toArray)[n.toNat]?=some b:=by
   have a:n.toNat<l.length:=by
    rcases aN n.toNat l.length with c | c
    ·exact c
    ·rw[gS c]at h;cases h
   have hs:n.toNat<(ByteArray.mk l.toArray).size:=a;rw[getElem?_pos (ByteArray.mk l.toArray) n.toNat hs];rw[ba a]at h;simp only[aw]at h ⊢;exact h
  simp only[Instr.index,asIntOf,ay,aH,aE,bu f,e,aS,d]
 ·cases h
def Qx{t:TypeId}{x i:Operand}(F:o.op=.index t x i)(G:TR ι s.T a.tmps)(h:effK P (opd s.T) s.H f (.index t x i) c=some z):
  ∃e,c e=some z/\iJ P ι f o a w e:=by
 simp only[effK]at h;split at h
 case h_2=>cases h
 rename_i k n hi;have d:=bL G hi;simp only[VR]at d;split at h
 ·rename_i m e C;split at h
  ·cases h
  rename_i hp;obtain⟨R,q⟩:=cG hp;split at h
  ·rename_i k' m' l hx;have g:=bL G hx;simp only[VR]at g;obtain⟨L,E⟩:=g;split at h
   ·rename_i k2 p;split at h
    ·rename_i r;have r:=bO r;obtain⟨j,A,h⟩:=ax h;obtain⟨g0,u,rfl⟩:=qT A;obtain⟨v,g,h⟩:=ax h;refine⟨_,h,.val (x:=.int k' v) ?_ (by simp[VR])⟩;simp only[execOp,F,E,d,ay,ku C q k g0 u];rw[us p (by simp[cD,p]) (x:=.int k' v) (by simp[r,g])];rfl
    ·cases h
   ·cases h
  ·rename_i l hx;have g:=bL G hx;simp only[VR]at g;obtain⟨J,E,B⟩:=g;split at h
   ·rename_i N p;obtain⟨j,A,h⟩:=ax h;obtain⟨g0,u,rfl⟩:=qT A;refine⟨_,h,.val (x:=.agg (J.extract (n.toNat*P.cellsOf e) (n.toNat*P.cellsOf e+P.cellsOf e))) ?_ (sj (B.extract _ _))⟩;simp only[execOp,F,E,d,ay,ku C q k g0 u,xU p (by simp[cD,p]),aE,aH]
   ·rename_i m2 O p;obtain⟨j,A,h⟩:=ax h;obtain⟨g0,u,rfl⟩:=qT A;refine⟨_,h,.val (x:=.agg (J.extract (n.toNat*P.cellsOf e) (n.toNat*P.cellsOf e+P.cellsOf e))) ?_ (sj (B.extract _ _))⟩;simp only[execOp,F,E,d,ay,ku C q k g0 u,xU p (by simp[cD,p]),aE,aH]
   ·rename_i p;split at h
    ·rename_i r;have r:=bO r;split at h
     ·rename_i U I;obtain⟨j,A,h⟩:=ax h;obtain⟨g0,u,rfl⟩:=qT A;obtain⟨v,g,h⟩:=ax h;obtain⟨y,hy,D⟩:=B.get (j:=n.toNat) (v:=.s v) (by rw[wE I];simp[g]);refine⟨_,h,.val (x:=y) ?_ D⟩;simp only[execOp,F,E,d,ay,ku C q k g0 u];rw[us p (by simp[cD,p]) (x:=y) (by simpa[r]using hy)];rfl
     ·cases h
    ·cases h
   ·rename_i d' S M Q p;split at h
    ·rename_i r;have r:=bO r;obtain⟨j,A,h⟩:=ax h;obtain⟨g0,u,rfl⟩:=qT A;obtain⟨v,g,h⟩:=ax h;obtain⟨y,hy,D⟩:=B.get g;refine⟨_,h,.val (x:=y) ?_ D⟩;simp only[execOp,F,E,d,ay,ku C q k g0 u];rw[us p (by simp only[cD,p];cases d'<;>simp_all) (x:=y) (by simpa[r]using hy)];rfl
    ·cases h
   ·cases h
  ·cases h
 ·rename_i C;split at h
  ·rename_i l hx;have g:=bL G hx;simp only[VR]at g;obtain⟨b,K,h⟩:=ax h;refine⟨_,h,.val (x:=.int .u8 b.toNat) ?_ (by simp[VR])⟩;simp only[execOp,F,g,d,ay,yu C K,aE,aH]
  ·cases h
 ·cases h
def ET{t:TypeId}(a:P.underlying t=some .string){l:aa}{lo hi:Option Value}{L H:Nat}{w:World}
  (b:(Instr.sliceBounds false l.length l.length lo hi none).run P w=.ok (L,H,l.length) w):
  (Instr.sliceAt t (.string ⟨l.toArray⟩) lo hi none).run P w=.ok (.string ⟨((l.take H).drop L).toArray⟩) w:=by
 rw[run_sliceAt_string w t _ _ _ _ a];have hs:(ByteArray.mk l.toArray).size=l.length:=rfl;simp only[Instr.slice,ay,bu a,aE,zl,bI,aF,hs,b,aH];congr 2;apply QL;rw[ByteArray.data_extract];apply mO;simp[List.extract,Bi]
def Ew{t e:TypeId}{n:Nat}{c:TypeInfo}(d:P.underlying t=some (.array n e))(hi:P.info? e=some c){lo a:Option Value}{L H r off:Nat}{w:World}
  (b:(Instr.sliceBounds false n n lo a none).run P w=.ok (L,H,n) w):
  (Instr.sliceAt t (.pointer (some ⟨r,off,none⟩)) lo a none).run P w=.ok (.slice (some ⟨r,if n=L then off else off+L*P.cellsOf e,none⟩) (H - L) (n - L)) w:=by
 simp only[Instr.sliceAt,ay,bu d,aE,Instr.sureAddr,aH,b,ig hi,o7];split<;>rfl
def qH{t e:TypeId}{n cp:Nat}{c:TypeInfo}(d:P.underlying t=some (.slice e))(hi:P.info? e=some c){lo a:Option Value}{L H r off:Nat}{w:World}
  (b:(Instr.sliceBounds true n cp lo a none).run P w=.ok (L,H,cp) w):
  (Instr.sliceAt t (.slice (some ⟨r,off,none⟩) n cp) lo a none).run P w=.ok (.slice (some ⟨r,if cp=L then off else off+L*P.cellsOf e,none⟩) (H - L) (cp - L)) w:=by
 simp only[Instr.sliceAt,Instr.slice,ay,bu d,aE,b,ig hi,aH];split
 ·rfl
 ·simp only[fQ,o7]
def iQ(n l x y:Nat):cond (Nat.beq n l) x y=if n=l then x else y:=by
 by_cases h:n=l
 ·subst h;simp
 ·have:Nat.beq n l=false:=by
   cases a:Nat.beq n l
   ·rfl
   ·exact absurd (bO a) h
  simp[this,h]
def wM{t e:TypeId}{d:TypeInfo}{b:Option Addr}(f:P.underlying t=some (.slice e))(hi:P.info? e=some d){lo a:Option Value}{w:World}
  (c:(Instr.sliceBounds true 0 0 lo a none).run P w=.ok (0,0,0) w):
  (Instr.sliceAt t (.slice b 0 0) lo a none).run P w=.ok (.slice b 0 0) w:=by
 simp only[Instr.sliceAt,Instr.slice,ay,bu f,aE,c,ig hi,aH,aS]
def FP{T:List (Nat×Option V)}(p:TR ι T a.tmps){lo hi:Option Operand}{l h:Option Int}(s:tZ (opd T) lo=some l)
  (u:tZ (opd T) hi=some h) {len:Nat} {c:Nat->Nat->Option α} (e:(hiK len len h λh=>loK h l λl=>c h l)=some z):
  ∃H L,c H L=some z/\H<=len/\L<=H/\∀n,len<=n->∀w,(Instr.sliceBounds true len n (lo.map a.eval) (hi.map a.eval) none).run P w=.ok (L,H,n) w:=by
 have j:∀{H:Nat},loK H l (c H)=some z->∃L,c H L=some z/\L<=H/\
   ∀w,(match lo.map a.eval with | some v=>Instr.sliceBound v H .sliceB | none=>pure 0).run P w=.ok L w:=by
  intro H e;rcases ru p s with⟨rfl,g⟩ | ⟨k,m,rfl,g⟩
  ·exact⟨0,e,lc _,λw=>by rw[g];rfl⟩
  ·simp only[loK]at e;obtain⟨L,o,i⟩:=ax e;obtain⟨g0,q,rfl⟩:=np o;exact⟨_,i,by omega,λw=>by rw[g];exact run_sliceBound w k m H .sliceB g0 q⟩
 rcases ru p u with⟨rfl,g⟩ | ⟨k,m,rfl,g⟩
 ·simp only[hiK]at e;obtain⟨L,o,i,d⟩:=j e;refine⟨len,L,o,bi _,i,λn x w=>?_⟩;have d:=d w;rw[g];simp only[Instr.sliceBounds,ay,aH,aE,zl,bI,aF];cases b:lo.map a.eval with
  | none=>rw[b]at d;simp only[aH,Aa,vv]at d;simp[d]
  | some v=>rw[b]at d;simp only[]at d;simp[d]
 ·simp only[hiK]at e;obtain⟨H,o,i⟩:=ax e;obtain⟨g0,q,rfl⟩:=np o;obtain⟨L,r,d,f⟩:=j i;refine⟨_,L,r,by omega,d,λn x w=>?_⟩;have f:=f w;rw[g];have t:=run_sliceBound (P:=P) w k m n .sliceAcap g0 (by omega);simp only[Instr.sliceBounds,ay,aH,aE,zl,bI,aF,aS,t];cases b:lo.map a.eval with
  | none=>rw[b]at f;simp only[aH,Aa,vv]at f;simp[f]
  | some v=>rw[b]at f;simp only[]at f;simp[f]
def Ru{t:TypeId}{x:Operand}{lo hi:Option Operand}(G:o.op=.slice t x lo hi none)(I:TR ι s.T a.tmps)(hW:WR ι s.H s.nb w)(h:effK P (opd s.T) s.H f (.slice t x lo hi none) c=some z):
  ∃e,c e=some z/\iJ P ι f o a w e:=by
 simp only[effK]at h;obtain⟨v,hx,D⟩:=ax h;obtain⟨l,J,Z⟩:=ax D;obtain⟨X,u,d⟩:=ax Z;clear h D Z;have A:=bL I hx;clear hx;split at d
 ·rename_i E;cases v<;>simp only[reduceCtorEq]at d;rename_i sl;simp only[VR]at A;obtain⟨H,L,g,_,_,_,i,_,B⟩:=zA (P:=P) I J u (isSlice:=false) d;refine⟨_,g,.val (x:=.string ⟨((sl.take H).drop L).toArray⟩) ?_ (by simp[VR])⟩;simp only[execOp,G,A,ay,ke];rw[ET E (B w)];rfl
 ·rename_i n e E;split at d
  case h_2=>cases d
  rename_i hp;obtain⟨ti,p⟩:=cG hp;cases v<;>simp only[reduceCtorEq]at d;rename_i b off;simp only[VR]at A;obtain⟨r,i,y⟩:=A;obtain⟨H,L,g,_,F,C,g4,_,B⟩:=zA (P:=P) I J u (isSlice:=false) d;have Y:H<=n:=by
   cases X with
   | none=>exact Au (F rfl)
   | some q=>exact C (by simp)
  refine⟨_,g,.val (x:=.slice (some ⟨r.r,if n=L then off else off+L*P.cellsOf e,none⟩) (H - L) (n - L)) ?_ ?_⟩
  ·simp only[execOp,G,y,ay,ke];rw[Ew E p (B w)];rfl
  ·simp only[VR];exact⟨r,n - L,i,λm M=>by cases M;rfl,by omega,by rw[iQ,sJ,AQ]⟩
 ·rename_i e E;split at d
  case h_2=>cases d
  rename_i hp;obtain⟨ti,p⟩:=cG hp;cases v<;>try (simp only[reduceCtorEq]at d;done)
  ·rename_i b;simp only[VR]at A;simp only at d;split at d
   case h_2=>cases d
   rename_i tr m W;split at d
   case h_2=>cases d
   rename_i K;have K:=bO K;obtain⟨H,L,g,F,C,B⟩:=FP (P:=P) I J u d;rcases kM hW W with⟨q,cs,e',fr,D,Z,q4,q5,_,_,_⟩ | ⟨D,rfl⟩
   ·rcases A with⟨q',i,y⟩ | ⟨i,_⟩
    ·rw[i]at D;cases D;refine⟨_,g,.val (x:=.slice (some ⟨q.r,if q.k=L then q.o else q.o+L*P.cellsOf e,none⟩) (H - L) (q.k - L)) ?_ ?_⟩
     ·simp only[execOp,G,y,ay,ke];rw[<-q4,qH E p (B q.k (by omega) w)];rfl
     ·simp only[VR];exact .inl ⟨q,_,_,i,⟨by omega,lY⟩,λQ=>by rw[ab (by omega)],rfl⟩
    ·rw[i]at D;cases D
   ·rcases A with⟨q,i,y⟩ | ⟨i,R,y⟩
    ·rw[i]at D;cases D
    ·simp only[bU,EI]at F C;subst F;simp only[EI]at C;subst C;refine⟨_,g,.val (x:=.slice R 0 0) ?_ (by unfold VR;exact .inr ⟨i,⟨rfl,lY⟩,R,rfl⟩)⟩;simp only[execOp,G,y,ay,ke];rw[wM E p (B 0 (bi _) w)];rfl
  ·rename_i zz b j n _;simp only[VR]at A;simp only at d;split at d
   case h_2=>cases d
   rename_i K;have K:=bO K;obtain⟨H,L,g,F,C,B⟩:=FP (P:=P) I J u d;rcases A with⟨q,cp,off,i,⟨N,_⟩,S,y⟩ | ⟨i,⟨rfl,_⟩,R,y⟩
   ·refine⟨_,g,.val (x:=.slice (some ⟨q.r,if cp=L then off else off+L*P.cellsOf e,none⟩) (H - L) (cp - L)) ?_ ?_⟩
    ·simp only[execOp,G,y,ay,ke];rw[qH E p (B cp N w)];rfl
    ·simp only[VR];exact .inl ⟨q,_,_,i,⟨by omega,lY⟩,λQ=>by rw[ab (by omega),S (by omega),sJ,iV,K,iy],rfl⟩
   ·simp only[EI]at F;subst F;simp only[EI]at C;subst C;refine⟨_,g,.val (x:=.slice R 0 0) ?_ (by unfold VR;exact .inr ⟨i,⟨rfl,lY⟩,R,rfl⟩)⟩;simp only[execOp,G,y,ay,ke];rw[wM E p (B 0 (bi _) w)];rfl
  rename_i b off n cap;simp only[VR]at A;obtain⟨r,cp,i,U,N,y⟩:=A;cases cap with
  | some m=>
   obtain rfl:=U m rfl;obtain⟨H,L,g,_,F,C,g4,_,B⟩:=zA (P:=P) I J u (isSlice:=true) d;have Y:H<=cp:=by
    cases X with
    | none=>have:=F rfl;omega
    | some q=>exact C (by simp)
   refine⟨_,g,.val (x:=.slice (some ⟨r.r,if cp=L then off else off+L*P.cellsOf e,none⟩) (H - L) (cp - L)) ?_ ?_⟩
   ·simp only[execOp,G,y,ay,ke];rw[qH E p (B w)];rfl
   ·simp only[VR];exact⟨r,cp - L,i,λm M=>by cases M;rfl,by omega,by rw[iQ,sJ,AQ]⟩
  | none=>
   have hll:l=none:=by
    cases l with
    | none=>rfl
    | some q=>
     cases X with
     | none=>simp[hiK]at d
     | some q=>simp only[hiK]at d;obtain⟨_,_,q4⟩:=ax d;cases q4
   subst hll;have O:lo.map a.eval=none:=by
    rcases ru I J with⟨_,g⟩ | ⟨k,m,h0,_⟩
    ·exact g
    ·cases h0
   have key:∃H,c { val:=some (.sl b off H none) }=some z/\H<=n/\(Instr.sliceBounds true n cp (lo.map a.eval) (hi.map a.eval) none).run P w=.ok (0,H,cp) w:=by
    rcases ru I u with⟨rfl,g⟩ | ⟨k,m,rfl,g⟩
    ·simp only[hiK]at d;exact⟨n,d,bi _,by rw[g,O];simp[Instr.sliceBounds]⟩
    ·simp only[hiK]at d;obtain⟨H,h2,V⟩:=ax d;obtain⟨g0,g1,rfl⟩:=np h2;refine⟨_,V,by omega,?_⟩;have W:=run_sliceBound (P:=P) w k m cp .sliceAcap g0 (by omega);rw[g,O];simp[Instr.sliceBounds,W]
   obtain⟨H,g,h2,V⟩:=key;refine⟨_,g,.val (x:=.slice (some ⟨r.r,if cp=0 then off else off+0*P.cellsOf e,none⟩) (H - 0) (cp - 0)) ?_ ?_⟩
   ·simp only[execOp,G,y,ay,ke];rw[qH E p V];rfl
   ·simp only[VR];exact⟨r,cp,i,λm M=>(by cases M),by omega,by simp⟩
 ·cases d
def zw(a:List Int):a.foldl (λ(r:ByteArray) n=>r.push (UInt8.ofNat n.toNat)) ByteArray.empty=⟨(jy a).toArray⟩:=by
 rw[foldl_push_bytes];apply QL;simp[jy]
def By{w:World}{r off q m cp:Nat}{l:List Int}{e:TypeId}{fr:Nat×Nat}(h:w.heap[r]?=some (.cells (l.map (Value.int .u8)).toArray e fr))(f:l.length=q)(g:off+m<=q):
  (Conv.bytesToString (.slice (some ⟨r,off,none⟩) m cp)).run P w=.ok (.string ⟨(jy ((l.drop off).take m)).toArray⟩) w:=by
 have a:(((l.drop off).take m).map (Value.int .u8)).length=m:=by simp;omega
 have hc:=AD (P:=P) w ⟨r,off,none⟩ (((l.drop off).take m).map (Value.int .u8)) (λj v b=>by
  have c:j<m:=by
   rcases aN j m with d | d
   ·exact d
   ·rw[gS (by omega)]at b;cases b
  rw[o7,bB h];rw[nV,m7 c,mQ]at b;simpa using b)
 rw[a]at hc;rw[run_bytesToString w _ m cp _ hc,zw]
def DC(w:World)(e:TypeId)(s:ByteArray):
  Lib.bytesWorld w e s=World.alloc { w with drawn:=w.drawn+1 } (.cells (Lib.bytesCells w e s) e ((Lib.bytesCells w e s).size,(Lib.bytesCells w e s).size+1)):=by
 have d:=Lib.bytesWorld_at_new w e s;have f:=Lib.bytesWorld_size w e s;have c:(Lib.bytesWorld w e s).heap=w.heap.push (.cells (Lib.bytesCells w e s) e ((Lib.bytesCells w e s).size,(Lib.bytesCells w e s).size+1)):=by
  apply XJ;intro j;by_cases b:j=w.heap.size
  ·subst b;rw[d];simp
  ·by_cases a:j<w.heap.size
   ·rw[Lib.bytesWorld_at_old w e s j a,Array.getElem?_push,ab b]
   ·rw[ym (by omega),ym (by simp;omega)]
 show({ (Lib.bytesWorld w e s)with heap:=(Lib.bytesWorld w e s).heap }:World)=_;rw[c];rfl
def uN:∀(l:List Int),l.flatMap (vals [.i .u8])=l.map (Value.int .u8)
 | []=>rfl
 | x::l=>by
  have:=uN l;simp only[pV,gW,vals,Lf.val]at this ⊢;rw[this];rfl
def vh{w:World}{r cp:Nat}{l:List Int}{c:Array Value}{e:TypeId}{fr:Nat×Nat}{m:Nat}(h:w.heap[r]?=some (.cells c e fr))(p:m<=c.size)
  {o:Nat} (k:(c.toList.drop o).take (l.length*([Lf.i .u8]:List Lf).length)=l.flatMap (vals [.i .u8])) {j n:Nat} (s:j+n<=l.length):
  (Conv.bytesToString (.slice (some ⟨r,o+j,none⟩) n cp)).run P w=.ok (.string ⟨(jy ((l.drop j).take n)).toArray⟩) w:=by
 have hl':(c.toList.drop o).take l.length=l.map (Value.int .u8):=by rw[<-uN];simpa using k
 have a:(((l.drop j).take n).map (Value.int .u8)).length=n:=by simp;omega
 have hc:=AD (P:=P) w ⟨r,o+j,none⟩ (((l.drop j).take n).map (Value.int .u8)) (λi v b=>by
  have d:i<n:=by
   rcases aN i n with g | g
   ·exact g
   ·rw[gS (by omega)]at b;cases b
  rw[o7,bB h];rw[nV,m7 d,mQ]at b;have f:=cf (λq:List Value=>q[j+i]?) hl';simp only[m7 (show j+i<l.length by omega),nV,mQ]at f;rw[b]at f;simpa[iy]using f)
 rw[a]at hc;rw[run_bytesToString w _ n cp _ hc,zw]
def vd{w:World}(c:Option Addr):(Conv.bytesToString (.slice c 0 0)).run P w=.ok (.string ⟨#[]⟩) w:=by
 cases c with
 | none=>rfl
 | some a=>
  have b:=AD (P:=P) w a ([].map (Value.int .u8)) (λj v d=>by simp at d);exact run_bytesToString (P:=P) w a 0 0 [] b
def Ir{B d:TypeId}{x:Operand}(A:o.op=.convert B d x)(hT:TR ι s.T a.tmps)(S:WR ι s.H s.nb w)(h:effK P (opd s.T) s.H f (.convert B d x) c=some z):
  ∃e,c e=some z/\iJ P ι f o a w e:=by
 simp only[effK]at h;obtain⟨v,hx,q⟩:=ax h;clear h;have g:=bL hT hx;clear hx;split at q
 case h_2=>cases q
 rename_i C hs;split at q
 ·rename_i k t;cases v<;>simp only[reduceCtorEq]at q;rename_i k' n;simp only[VR]at g;refine⟨_,q,.val (x:=.int k (k.wrap n)) ?_ (by simp[VR])⟩;simp only[execOp,A,g,ay,convert,bu hs,bu t,aE];cases C<;>rfl
 ·rename_i t;cases v<;>simp only[reduceCtorEq]at q
  ·rename_i b;simp only[VR]at g;cases C<;>try (simp only[reduceCtorEq]at q;done)
   rename_i e;simp only at q;split at q
   case h_2=>cases q
   rename_i u;split at q
   case h_2=>cases q
   rename_i l E;refine⟨_,q,.val (x:=.string ⟨(jy l).toArray⟩) ?_ (by simp[VR])⟩;rcases kM S E with⟨q,cs,W,fr,i,L,X,Z,N,M,_⟩ | ⟨i,rfl⟩
   ·rcases g with⟨q',p,y⟩ | ⟨p,_⟩
    ·rw[p]at i;cases i;simp only[execOp,A,y,ay,run_convert_bytes_string w B d e _ _ _ hs u t];rw[<-X];have:=vh (P:=P) (cp:=q.k) L N M (j:=0) (n:=l.length) (by omega);simp only[cM,oC,dj]at this;rw[this];rfl
    ·rw[p]at i;cases i
   ·rcases g with⟨q,p,y⟩ | ⟨p,K,y⟩
    ·rw[p]at i;cases i
    ·simp only[execOp,A,y,ay,run_convert_bytes_string w B d e K 0 0 hs u t,vd];rfl
  ·rename_i zz b j n _;simp only[VR]at g;cases C<;>try (simp only[reduceCtorEq]at q;done)
   rename_i e;simp only at q;split at q
   case h_2=>cases q
   rename_i u;split at q
   case h_2=>cases q
   rename_i l E;split at q
   case h_2=>cases q
   rename_i R;have R:=bO R;subst R;obtain⟨hc,q⟩:=eV q;have D:=aR hc;refine⟨_,q,.val (x:=.string ⟨(jy ((l.drop j).take n)).toArray⟩) ?_ (by simp[VR])⟩;rcases g with⟨V,cp,off,p,⟨J,_⟩,I,y⟩ | ⟨p,⟨rfl,_⟩,K,y⟩
   ·rcases kM S E with⟨q',cs,W,fr,i,L,X,Z,N,M,_⟩ | ⟨i,rfl⟩
    ·rw[p]at i;cases i;simp only[execOp,A,y,ay,run_convert_bytes_string w B d e _ _ _ hs u t];by_cases hn:0<n
     ·rw[I hn,tz];rw[vh (P:=P) (cp:=cp) L N M D];rfl
     ·have G:n=0:=by omega
      subst G;have U:=AD (P:=P) w ⟨V.r,off,none⟩ ([].map (Value.int .u8)) (λj v Y=>by simp at Y);have h0:=run_bytesToString (P:=P) w ⟨V.r,off,none⟩ 0 cp [] U;rw[h0];simp[jy];rfl
    ·rw[p]at i;cases i
   ·simp only[execOp,A,y,ay,run_convert_bytes_string w B d e K 0 0 hs u t,vd];simp[jy]
  ·rename_i k' n;simp only[VR]at g;cases C<;>simp only[reduceCtorEq]at q;refine⟨_,q,.val (x:=.string (Utf8.encode n)) ?_ ?_⟩
   ·simp only[execOp,A,g,ay,convert,bu hs,bu t,aE,Conv.intToString,aH]
   ·simp[VR]
  ·rename_i l;simp only[VR]at g;cases C<;>simp only[reduceCtorEq]at q;refine⟨_,q,.val (x:=.string ⟨l.toArray⟩) ?_ (by simp[VR])⟩;simp only[execOp,A,g,ay,convert,bu hs,bu t,aE,aH]
  ·simp only[VR]at g;cases C<;>try (simp only[reduceCtorEq]at q;done)
   rename_i e;simp only at q;split at q
   ·rename_i u;refine⟨_,q,.val (x:=.string .empty) ?_ (by simp only[VR];rfl)⟩;simp only[execOp,A,g,ay,run_convert_bytes_string w B d e none 0 0 hs u t];rfl
   ·cases q
  ·rename_i b off m cap;simp only[VR]at g;obtain⟨r,cp,p,_,_,y⟩:=g;cases C<;>try (simp only[reduceCtorEq]at q;done)
   rename_i e;simp only at q;split at q
   ·rename_i u;split at q
    ·rename_i qn l E;obtain⟨hc,q⟩:=eV q;have D:=aR hc;obtain⟨r',W,fr,J,I,g3,_⟩:=yD S E;rw[p]at J;cases J;refine⟨_,q,.val (x:=.string ⟨(jy ((l.drop off).take m)).toArray⟩) ?_ (by simp[VR])⟩;simp only[execOp,A,y,ay,run_convert_bytes_string w B d e _ _ _ hs u t,By I g3 D,aE,aH]
    ·cases q
   ·cases q
 ·rename_i e t;split at q
  case h_2=>cases q
  rename_i u;cases v<;>try (simp only[reduceCtorEq]at q;done)
  rename_i l;simp only[VR]at g;cases C<;>simp only[reduceCtorEq]at q;refine⟨_,q,.mkR (d:=w.drawn+1) (q:=(Rf.of w.heap.size l.length (grownCap w l.length 0 e))) (x:=.slice (some ⟨w.heap.size,0,none⟩) l.length (grownCap w l.length 0 e))
   (ob:=.cells (Lib.bytesCells w e ⟨l.toArray⟩) e ((Lib.bytesCells w e ⟨l.toArray⟩).size,(Lib.bytesCells w e ⟨l.toArray⟩).size+1)) ?_ rfl rfl ?_ ?_⟩
  ·simp only[execOp,A,g,ay,Lib.run_convert_string_bytes w B d e ⟨l.toArray⟩ hs t u,aE,aH,DC];rfl
  ·have F:l.length<=grownCap w l.length 0 e:=by simp only[grownCap,Question.cut];omega
   have Q:((ByteArray.mk l.toArray).data.map λb=>Value.int .u8 b.toNat).size=l.length:=by simp
   refine⟨_,e,_,rfl,by simp,F,?_,?_,?_⟩
   ·simp only[Lib.bytesCells,Array.size_append,Q,Array.size_replicate,aI,bU];have:(ByteArray.mk l.toArray).size=l.length:=rfl;rw[this];omega
   ·simp only[Lib.bytesCells,AO,vF,aI,bU,dw,tz,cM];rw[xA (by simp),kr (by simp)];rw[uN,Array.toList_map,vK];rfl
   ·refine .inr λj Y O=>?_;exact absurd O.1 (by simp only;omega)
  ·simp only[VR];exact .inl ⟨_,ek _ _ _,rfl⟩
 ·cases q
def Tv{U:Call}(R:o.op=.call U)(hT:TR ι s.T a.tmps)(hW:WR ι s.H s.nb w)(h:effK P (opd s.T) s.H f (.call U) c=some z):
  ∃e,c e=some z/\iJ P ι f o a w e:=by
 obtain⟨Q,args,D⟩:=U;simp only[effK]at h;split at h
 case h_2=>cases h
 rename_i b;obtain⟨l,Y,q⟩:=ax h;clear h;have g:=zu hT Y;have I:(args.map a.eval).toList=args.toList.map a.eval:=by simp
 rw[<-I]at g;generalize hA:args.map a.eval=A at g;have v:∃S,∀w,((do let d <-resolve a.eval ⟨.builtin b,args,D⟩ o.type;invoke d.target d.args):Sem Next).run P w=(builtin b D o.type S A).run P w:=by
  refine⟨args.map fun | .const _=>true | _=>false,λw=>?_⟩;simp only[resolve,hA,ay,aH,aE,invoke];rfl
 obtain⟨S,v⟩:=v;have one:∀{X:Value},A.toList=[X]->A[0]?=some X:=by
  intro X p;have:A=#[X]:=by apply mO;simpa using p
  simp[this]
 have E:∀{t:TypeId} {r:List TypeId},D.toList=t::r->D[0]?=some t:=by
  intro t r u;rw[<-sa,u];rfl
 have j:∀{n:Int} {rd:List Nat},b=.len->(∀w,(Builtin.len_ D o.type A).run P w=.ok (goInt n) w)->c { val:=some (.i .i64 n),rd:=rd }=some z->∃e,c e=some z/\iJ P ι f o a w e:=by
  intro n rd O F hc;subst O;refine⟨_,hc,.val (x:=.int .i64 n) ?_ (by simp[VR])⟩;simp only[execOp,R];rw[v w];simp only[builtin,ay,F,aE,aH,goInt]
 have C:∀{n:Int} {rd:List Nat},b=.cap->(∀w,(Builtin.cap_ D o.type A).run P w=.ok (goInt n) w)->c { val:=some (.i .i64 n),rd:=rd }=some z->∃e,c e=some z/\iJ P ι f o a w e:=by
  intro n rd O F hc;subst O;refine⟨_,hc,.val (x:=.int .i64 n) ?_ (by simp[VR])⟩;simp only[execOp,R];rw[v w];simp only[builtin,ay,F,aE,aH,goInt]
 split at q
 ·split at q
  ·rename_i sl;simp only[VRs,VR]at g;obtain⟨_,_,p,rfl,rfl⟩:=g;split at q
   ·rename_i t r u;split at q
    ·rename_i B;refine j rfl (λw=>?_) q;simp only[Builtin.len_,E u,one p,ay,bu B,aE,aH];rfl
    ·cases q
   ·cases q
  ·rename_i N oo n cp;simp only[VRs,VR]at g;obtain⟨_,_,p,⟨r,cap,_,_,_,rfl⟩,rfl⟩:=g;split at q
   ·rename_i t r u;split at q
    ·rename_i B;refine j rfl (λw=>?_) q;simp only[Builtin.len_,E u,one p,ay,bu B,aE,aH]
    ·cases q
   ·cases q
  ·simp only[VRs,VR]at g;obtain⟨_,_,p,rfl,rfl⟩:=g;split at q
   ·rename_i t r u;split at q
    ·rename_i B;refine j rfl (λw=>?_) q;simp only[Builtin.len_,E u,one p,ay,bu B,aE,aH];rfl
    ·cases q
   ·cases q
  ·rename_i N;simp only[VRs,VR]at g;obtain⟨_,_,p,M,rfl⟩:=g;split at q
   ·rename_i t r u;split at q
    ·rename_i B;split at q
     ·rename_i tr l O;refine j (rd:=[N]) rfl (λw=>?_) q;rcases kM hW O with⟨q,S,e',fr,K,q2,q4,q5,q6,q7,_⟩ | ⟨K,rfl⟩
      ·rcases M with⟨q',G,rfl⟩ | ⟨G,_⟩
       ·rw[G]at K;cases K;simp only[Builtin.len_,E u,one p,ay,bu B,aE,aH,q4]
       ·rw[G]at K;cases K
      ·rcases M with⟨q,G,_⟩ | ⟨G,V,rfl⟩
       ·rw[G]at K;cases K
       ·simp only[Builtin.len_,E u,one p,ay,bu B,aE,aH];rfl
     ·cases q
    ·cases q
   ·cases q
  ·rename_i W N jj n _;simp only[VRs,VR]at g;obtain⟨_,_,p,M,rfl⟩:=g;split at q
   ·rename_i t r u;split at q
    ·rename_i B;refine j rfl (λw=>?_) q;rcases M with⟨q,cp,off,G,_,_,rfl⟩ | ⟨_,⟨rfl,_⟩,V,rfl⟩
     ·simp only[Builtin.len_,E u,one p,ay,bu B,aE,aH]
     ·simp only[Builtin.len_,E u,one p,ay,bu B,aE,aH]
    ·cases q
   ·cases q
  ·simp only[VRs]at g;obtain⟨X,_,p,_,rfl⟩:=g;split at q
   ·rename_i t r u;split at q
    ·rename_i B;refine j rfl (λw=>?_) q;simp only[Builtin.len_,E u,one p,ay,bu B,aE,aH]
    ·cases q
   ·cases q
  ·cases q
 ·split at q
  ·rename_i W N jj Z m;simp only[VRs,VR]at g;obtain⟨_,_,p,M,rfl⟩:=g;split at q
   ·rename_i t r u;split at q
    ·rename_i B;refine C rfl (λw=>?_) q;rcases M with⟨q,cp,off,G,⟨_,hc⟩,_,rfl⟩ | ⟨_,⟨_,hc⟩,V,rfl⟩
     ·have:=hc m rfl;subst this;simp only[Builtin.cap_,E u,one p,ay,bu B,aE,aH]
     ·have:=hc m rfl;subst this;simp only[Builtin.cap_,E u,one p,ay,bu B,aE,aH]
    ·cases q
   ·cases q
  ·rename_i N oo Z m;simp only[VRs,VR]at g;obtain⟨_,_,p,⟨qq,cp,G,hc,_,rfl⟩,rfl⟩:=g;split at q
   ·rename_i t r u;split at q
    ·rename_i B;refine C rfl (λw=>?_) q;have:=hc m rfl;subst this;simp only[Builtin.cap_,E u,one p,ay,bu B,aE,aH]
    ·cases q
   ·cases q
  ·simp only[VRs,VR]at g;obtain⟨_,_,p,rfl,rfl⟩:=g;split at q
   ·rename_i t r u;split at q
    ·rename_i B;refine C rfl (λw=>?_) q;simp only[Builtin.cap_,E u,one p,ay,bu B,aE,aH];rfl
    ·cases q
   ·cases q
  ·cases q
 ·split at q
  ·rename_i k x k' y;split at q
   ·rename_i L;have L:=mh L;subst L;simp only[VRs,VR]at g;obtain⟨_,_,p,rfl,_,_,rfl,rfl,rfl⟩:=g;refine⟨_,q,.val (x:=.int k (cond (decide (y<x)) y x)) ?_ (by simp[VR])⟩;simp only[execOp,R];rw[v w];simp only[builtin,ay,Builtin.min_,p,List.foldlM,Builtin.min2,aH,aE];by_cases J:y<x<;>simp[J]
   ·cases q
  ·cases q
 ·split at q
  ·rename_i k x k' y;split at q
   ·rename_i L;have L:=mh L;subst L;simp only[VRs,VR]at g;obtain⟨_,_,p,rfl,_,_,rfl,rfl,rfl⟩:=g;refine⟨_,q,.val (x:=.int k (cond (decide (y>x)) y x)) ?_ (by simp[VR])⟩;simp only[execOp,R];rw[v w];simp only[builtin,ay,Builtin.max_,p,List.foldlM,Builtin.max2,aH,aE];by_cases J:y>x<;>simp[J]
   ·cases q
  ·cases q
 ·cases q
def Zk{op:UnOp}{x:V}{X:Value}{c:V->Option α}(h:unK op x c=some z)(hx:VR ι x X)(w:World):
  ∃v R,c v=some z/\VR ι v R/\(Op.unary op X).run P w=.ok R w:=by
 unfold unK at h;split at h
 ·simp only[VR]at hx;subst hx;exact⟨_,_,h,rfl,rfl⟩
 ·simp only[VR]at hx;subst hx;exact⟨_,_,h,rfl,rfl⟩
 ·cases h
def Su{x:Operand}{j:Bool}(n:o.op=.next x j)(C:TR ι s.T a.tmps)(D:WR ι s.H s.nb w)(h:effK P (opd s.T) s.H f (.next x j) c=some z):
  ∃e,c e=some z/\iJ P ι f o a w e:=by
 simp only[effK]at h;split at h
 case h_2=>cases h
 rename_i b hx;have p:=bL C hx;simp only[VR]at p;obtain⟨r,y,q⟩:=p;split at h
 case h_2=>cases h
 rename_i l pos A;obtain⟨F,ob,v,t,m⟩:=(D.blk b _ A (by simp)).real (by simp);rw[y]at v;cases v;simp only[BR]at m;subst m;have i:(ByteArray.mk l.toArray).size=l.length:=rfl;have d:(getObj r.r).run P w=.ok (.stringIter ⟨l.toArray⟩ pos) w:=by simp[getObj,Sem.run,t]
 cases hc:Nat.blt pos l.length with
 | false=>
  rw[hc]at h;have B:¬pos<l.length:=λg=>by rw[show Nat.blt pos l.length=true from dc g]at hc;cases hc
  refine⟨_,h,.val (x:=.tuple #[.bool false]) ?_ (by simp[VR,VRs])⟩;simp only[execOp,n,q,Instr.next,ay,d,aE,i,B,aF,aH]
 | true=>
  rw[hc]at h;have g:pos<l.length:=aR hc;refine⟨_,h,?_⟩;unfold iJ;have k:∀ob,(Go.setObj r.r ob).run P w=.ok () (setObj w r.r ob):=by
   intro ob;simp[Go.setObj,Sem.run,t,setObj]
  refine⟨r,y,λ_=>⟨.stringIter ⟨l.toArray⟩ (pos+(dec l pos).2),.value (.tuple #[.bool true,.int .i64 pos,.int .i32 (dec l pos).1]),?_,rfl,.value _ λu E=>by cases E;simp[VR,VRs]⟩⟩;simp only[execOp,n,q,Instr.next,ay,d,aE,i,g,aS,k,aH,dec,goInt]
def K5{t:List Lf}(x:den t):∀n,(List.replicate n x).flatMap (vals t)=(List.replicate n (vals t x)).flatten
 | 0=>rfl
 | n+1=>by simp[vA,pV,K5 x n]
def Ro{l:List Value}:∀n:Nat,(List.replicate n l).flatten.length=n*l.length
 | 0=>by simp
 | n+1=>by rw[vA,List.flatten_cons,aV,Ro n,iV];omega
def Nu{l:List Value}:∀(n j:Nat),j<n*l.length->(List.replicate n l).flatten[j]?=l[j%l.length]?
 | 0,j,h=>by simp at h
 | n+1,j,h=>by
  simp only[vA,List.flatten_cons];by_cases a:j<l.length
  ·rw[qp a,mB a]
  ·rw[s9 (by omega),Nu n _ (by rw[iV]at h;omega),<-Nat.mod_eq_sub_mod (by omega)]
def D4{t:TypeId}{x y:Operand}(Z:o.op=.makeSlice t x y)(Q:TR ι s.T a.tmps)(h:effK P (opd s.T) s.H f (.makeSlice t x y) c=some z):
  ∃e,c e=some z/\iJ P ι f o a w e:=by
 simp only[effK]at h;obtain⟨u,E,N⟩:=ax h;obtain⟨v,D,b⟩:=ax N;clear h N;have E:=bL Q E;have D:=bL Q D;split at b
 case h_2=>cases b
 rename_i e hd;split at b
 case h_2=>cases b
 rename_i k1 n k2 m _ _;simp only[VR]at E D;obtain⟨zv,F,b⟩:=ax b;split at b
 case h_2=>cases b
 rename_i tr p _ l;split at b
 case h_2=>cases b
 rename_i K;simp only[aD,kx]at K;obtain⟨R,e2,L,G⟩:=K;have L:=aR L;have G:=aR G;obtain⟨S,J,b⟩:=ax b;obtain⟨hc,b⟩:=eV b;simp only[aD,cK]at hc;obtain⟨c0,X,c2⟩:=hc;obtain⟨zc,i,M,Y,U,_⟩:=yO ι F;rw[l]at M;cases M;have g:=pH U;rw[yI J]at g;have g:=(qD ι tr S _).1 g;have r:p.size=P.cellsOf e:=by unfold Program.cellsOf;rw[l];rfl
 have V:m=(m.toNat:Int):=by omega
 have A:=run_make (P:=P) w t e p zc hd l Y k1 k2 n m c0 X (by
  rw[V,<-K3];have:p.bytes*m.toNat<=1048576*67108864:=zy G (by omega);omega) (by omega)
 refine⟨_,b,.mkR (d:=w.drawn) (q:=(Rf.of w.heap.size n.toNat m.toNat)) (x:=.slice (some ⟨w.heap.size,0,none⟩) n.toNat m.toNat) (ob:=.cells (madeCells zc.cells (m.toNat*p.size)) e) ?_ rfl rfl ?_ ?_⟩
 ·simp only[execOp,Z,E,D,ay,A,aE,aH]
 ·have I:(madeCells zc.cells (m.toNat*p.size)).size=m.toNat*p.size:=size_madeCells _ _;refine⟨_,e,_,rfl,by simp,by simp only;omega,by rw[I,r,R];simp,?_,.inr (vI _)⟩;simp only[cM];rw[K5,List.length_replicate,<-g];apply CS;intro j;have k:zc.cells.toList.length=tr.length:=by rw[g,iK]
  have B:zc.cells.size=tr.length:=by simpa using k
  have W:n.toNat*tr.length<=m.toNat*tr.length:=qX _ (by omega);by_cases O:j<n.toNat*tr.length
  ·rw[m7 O,Nu n.toNat j (by rw[k];exact O),k];have C:j%tr.length<zc.cells.size:=by rw[B];exact ua _ (by omega)
   simp only[madeCells,r,<-R,B];rw[sa,Array.getElem?_map,Array.getElem?_range];simp[show j<m.toNat*tr.length by omega,C]
  ·rw[gS (by rw[dN];omega),gS (by rw[Ro,k];omega)]
 ·simp only[VR];exact .inl ⟨_,ek _ _ _,rfl⟩
def YB{op:BinOp}{t:TypeId}{x y:Operand}{u v:V}{r:Bool}{X Y:Value}(h:niK P op t x y u v=some r)(hx:VR ι u X)(hy:VR ι v Y)(w:World):
  (eqGuard op t x y X Y).run P w=.ok () w/\(binOp op t X Y).run P w=.ok (.bool r) w:=by
 unfold niK at h;split at h
 case h_2=>cases h
 simp only[VR]at hx hy;subst hx hy;split at h
 case h_2=>cases h
 rename_i hc;split at h
 case h_2=>cases h
 rename_i f e;have b:∀o:BinOp,o=.eql\/o=.neq->(eqGuard o t x y .nilIface .nilIface).run P w=.ok () w:=by
  intro o d;have a:(∃v,x=.const v)\/∃v,y=.const v:=by
   rw[jk]at hc;refine hc.imp (λh=>?_) (λh=>?_)
   ·cases x<;>simp_all[Jy]
   ·cases y<;>simp_all[Jy]
  rcases a with⟨v,rfl⟩ | ⟨v,rfl⟩<;>rcases d with rfl | rfl<;>simp[eqGuard]
 have c:(Op.equal t .nilIface .nilIface).run P w=.ok true w:=by rw[fN,Op.equalIn];simp[bu e]
 split at h
 ·simp only[aw]at h;subst h;exact⟨b _ (.inl rfl),by simp[binOp,c]⟩
 ·simp only[aw]at h;subst h;exact⟨b _ (.inr rfl),by simp[binOp,c]⟩
 ·cases h
def mM{t e:TypeId}{g:TypeInfo}(l:P.underlying t=some (.slice e))(hi:P.info? e=some g){n cp:Nat}{a:Option Addr}{k k':IntKind}{h m:Int}{H M:Nat}(c:bx n m=some M)(d:bx M h=some H)(p:n<=cp)(w:World):
  (Instr.sliceAt t (.slice a n cp) none (some (.int k h)) (some (.int k' m))).run P w=.ok (.slice a H M) w:=by
 obtain⟨m0,m1,rfl⟩:=np c;obtain⟨b,i,rfl⟩:=np d;have j:=run_sliceBound (P:=P) w k' m cp .slice3Acap m0 (by omega);have f:=run_sliceBound (P:=P) w k h m.toNat .slice3B b i;simp only[Instr.sliceAt,Instr.slice,ay,bu l,aE,Instr.sliceBounds,aS,j,f,aH,ig hi,uo,Ee];split
 ·rfl
 ·cases a with
  | none=>rfl
  | some q=>obtain⟨r,o,x⟩:=q;simp[Addr.add]
def M5{t:TypeId}{x mx:Operand}{lo hi:Option Operand}(G:o.op=.slice t x lo hi (some mx))(O:TR ι s.T a.tmps)(Z:WR ι s.H s.nb w)(h:effK P (opd s.T) s.H f (.slice t x lo hi (some mx)) c=some z):
  ∃e,c e=some z/\iJ P ι f o a w e:=by
 simp only[effK,xN]at h;split at h
 case h_2=>cases h
 rename_i hh;obtain⟨v,hx,d⟩:=ax h;clear h;have A:=bL O hx;clear hx;split at d
 case h_2=>cases d
 rename_i k1 Y k2 m1 L N;have D:=bL O L;have E:=bL O N;simp only[VR]at D E;split at d
 case h_2=>cases d
 rename_i e J;split at d
 case h_2=>cases d
 rename_i hp;obtain⟨ti,k⟩:=cG hp;split at d
 ·rename_i b;split at d
  case h_2=>cases d
  rename_i tr l W;split at d
  case h_2=>cases d
  obtain⟨M,p,I⟩:=ax d;obtain⟨H,u,B⟩:=ax I;obtain⟨m0,m2,V⟩:=np p;obtain⟨U,S,Q⟩:=np u;simp only[VR]at A;rcases kM Z W with⟨q,cs,e',fr,C,r2,r4,r5,_,_,_⟩ | ⟨C,rfl⟩
  ·rcases A with⟨q',g,y⟩ | ⟨g,_⟩
   ·rw[g]at C;cases C;refine⟨_,B,.val (x:=.slice (some ⟨q.r,q.o,none⟩) H M) ?_ ?_⟩
    ·simp only[execOp,G,y,D,E,ay,ke,fQ];rw[<-r4,mM J k p u (by omega) w];rfl
    ·simp only[VR];exact .inl ⟨q,_,_,g,⟨by omega,uU⟩,λ_=>by omega,rfl⟩
   ·rw[g]at C;cases C
  ·rcases A with⟨q,g,y⟩ | ⟨g,F,y⟩
   ·rw[g]at C;cases C
   ·simp only[bU]at m2;have m:M=0:=by omega
    have i:H=0:=by omega
    subst m i;refine⟨_,B,.val (x:=.slice F 0 0) ?_ (by unfold VR;exact .inr ⟨g,⟨rfl,uU⟩,F,rfl⟩)⟩;simp only[execOp,G,y,D,E,ay,ke,fQ];rw[mM J k (n:=0) (M:=0) p u (by omega) w];rfl
 ·rename_i zz b j n _;obtain⟨M,p,I⟩:=ax d;obtain⟨H,u,B⟩:=ax I;obtain⟨m0,m2,V⟩:=np p;obtain⟨U,S,Q⟩:=np u;simp only[VR]at A;rcases A with⟨q,cp,off,g,⟨K,_⟩,X,y⟩ | ⟨g,⟨K,_⟩,F,y⟩
  ·refine⟨_,B,.val (x:=.slice (some ⟨q.r,off,none⟩) H M) ?_ ?_⟩
   ·simp only[execOp,G,y,D,E,ay,ke,fQ];rw[mM J k p u K w];rfl
   ·simp only[VR];exact .inl ⟨q,_,_,g,⟨by omega,uU⟩,λR=>X (by omega),rfl⟩
  ·subst K;have m:M=0:=by omega
   have i:H=0:=by omega
   subst m i;refine⟨_,B,.val (x:=.slice F 0 0) ?_ (by unfold VR;exact .inr ⟨g,⟨rfl,uU⟩,F,rfl⟩)⟩;simp only[execOp,G,y,D,E,ay,ke,fQ];rw[mM J k (n:=0) (M:=0) p u (by omega) w];rfl
 ·obtain⟨M,p,I⟩:=ax d;obtain⟨H,u,B⟩:=ax I;obtain⟨m0,m2,V⟩:=np p;obtain⟨U,S,Q⟩:=np u;simp only[VR]at A;have m:M=0:=by omega
  have i:H=0:=by omega
  subst m i;refine⟨_,B,.val (x:=.slice none 0 0) ?_ (by simp only[VR])⟩;simp only[execOp,G,A,D,E,ay,ke,fQ];rw[mM J k (n:=0) (M:=0) p u (by omega) w];rfl
 ·cases d
def aap{op:BinOp}{t:TypeId}{u v:V}{r:Bool}{n:Nat}{rd:List Nat}{X Y:Value}{H:List (Nat×Blk)}{nb:Nat}(h:slN P op t u v=some r)(a:slL H u=some (n,rd))(o:0<n)(y:WR ι H nb w)(hx:VR ι u X)(hy:VR ι v Y)(p q:Operand):
  (eqGuard op t p q X Y).run P w=.ok () w/\(binOp op t X Y).run P w=.ok (.bool r) w:=by
 unfold slN at h;split at h
 case h_2=>cases h
 simp only[VR]at hy;subst hy;have b:∀(A:Addr) (n c:Nat),X=.slice (some A) n c->P.underlying t=(P.underlying t)->∀e,P.underlying t=some (.slice e)->
   ((eqGuard .eql t p q X (.slice none 0 0)).run P w=.ok () w/\(binOp .eql t X (.slice none 0 0)).run P w=.ok (.bool false) w)/\
   ((eqGuard .neq t p q X (.slice none 0 0)).run P w=.ok () w/\(binOp .neq t X (.slice none 0 0)).run P w=.ok (.bool (!false)) w):=by
  rintro A n c rfl _ e g;exact rB p q (.inl (by simp)) (.inl (by simp)) (by simp) (by rw[fN,Op.equalIn];simp[bu g])
 have fin:∀(A:Addr) (n c:Nat),X=.slice (some A) n c->slT P op t=some r->(eqGuard op t p q X (.slice none 0 0)).run P w=.ok () w/\(binOp op t X (.slice none 0 0)).run P w=.ok (.bool r) w:=by
  intro A n c B h;unfold slT at h;split at h
  case h_2=>cases h
  rename_i e g;obtain⟨m1,m2⟩:=b A n c B rfl e g;split at h
  ·simp only[aw]at h;subst h;exact m1
  ·simp only[aw]at h;subst h;exact m2
  ·cases h
 split at h
 ·rename_i c;simp only[slL]at a;split at a
  case h_2=>cases a
  rename_i tr l k;simp only[aw,bP]at a;obtain⟨rfl,_⟩:=a;simp only[VR]at hx;rcases kM y k with⟨J,G,K,fr,i,F,r4,_⟩ | ⟨i,rfl⟩
  ·rcases hx with⟨x,d,f⟩ | ⟨d,_⟩
   ·exact fin _ _ _ f h
   ·rw[d]at i;cases i
  ·simp at o
 ·rename_i z c j m E;simp only[slL,aw,bP]at a;obtain⟨rfl,_⟩:=a;simp only[VR]at hx;rcases hx with⟨x,D,I,d,f,C,s⟩ | ⟨d,⟨f,_⟩,_⟩
  ·exact fin _ _ _ s h
  ·omega
 ·cases h
def IX{t:TypeId}{x:Option Operand}(b:o.op=.makeMap t x)(h:effK P (opd s.T) s.H f (.makeMap t x) c=some z):∃e,c e=some z/\iJ P ι f o a w e:=by
 simp only[effK]at h;split at h
 case h_2=>cases h
 split at h
 case h_2=>cases h
 refine⟨_,h,.mk (x:=.map (some w.heap.size)) (ob:=.map #[] 0) ?_ ⟨#[],0,rfl,rfl⟩ (by simp only[VR];exact⟨_,ek _ _ _,rfl⟩)⟩;simp only[execOp,b,ke,ay];rfl
def Vg{H:List (Nat×Blk)}{nb b:Nat}{w:World}(h:WR ι H nb w){k:IntKind}{l:List (Int×Nat)}(d:look H b=some (.mp k l)):
  ∃q c a,ι b=some (some q)/\w.heap[q.r]?=some (.map c a)/\c.toList.map (λe=>(e.key,e.val))=l.map λp=>(Value.int k p.1,fnV p.2 #[]):=by
 obtain⟨q,o,g,i,c,a,rfl,f⟩:=(h.blk b _ d (by simp)).real (by simp);exact⟨q,c,a,g,i,f⟩
def QI{α:Type}{k:IntKind}{n:Int}{c:Nat->Option α}{z:α}:∀(b:List MapEntry) (l:List (Int×Nat)) (i:Nat),b.map (λe=>(e.key,e.val))=l.map (λp=>(Value.int k p.1,fnV p.2 #[]))->mapK l n c=some z->
  ∃g j,c g=some z/\Instr.findNow (.int k) (.int k n) b i=some (some (j,fnV g #[]))
 | [],[],_,_,h=>by cases h
 | [],_::_,_,a,_=>by simp at a
 | _::_,[],_,a,_=>by simp at a
 | e::b,(m,g)::l,i,a,h=>by
  simp only[gW,J6,bP]at a;obtain⟨⟨f,t⟩,q⟩:=a;simp only[mapK]at h;cases d:(n==m)with
  | true=>
   rw[d]at h;exact⟨g,i,h,by simp only[Instr.findNow,f,Instr.sameNow,aS,d,t]⟩
  | false=>
   rw[d]at h;obtain⟨s,j,o,r⟩:=QI b l (i+1) q h;exact⟨s,j,o,by simp only[Instr.findNow,f,Instr.sameNow,aS,d];exact r⟩
def MC{t:TypeId}{m x:Operand}{ok:Bool}(I:o.op=.lookup t m x ok)(v:TR ι s.T a.tmps)(M:WR ι s.H s.nb w)(h:effK P (opd s.T) s.H f (.lookup t m x ok) c=some z):
  ∃e,c e=some z/\iJ P ι f o a w e:=by
 simp only[effK]at h;split at h
 case h_2=>cases h
 rename_i b C;split at h
 case h_2=>cases h
 rename_i k n hx;split at h
 case h_2=>cases h
 rename_i kt Q O;split at h
 case h_2=>cases h
 rename_i k2 y;split at h
 case h_2=>cases h
 rename_i k1 l B;split at h
 case h_2=>cases h
 rename_i d;simp only[aD]at d;have N:=mh d.1;have F:=mh d.2;subst N F;have u:=bL v C;have p:=bL v hx;simp only[VR]at u p;obtain⟨q,L,G⟩:=u;obtain⟨R,J,i,r,A,K⟩:=Vg M B;rw[L]at r;cases r;obtain⟨g,j,E,D⟩:=QI J.toList l 0 K h;refine⟨_,E,.val (x:=fnV g #[]) ?_ (by simp only[VR];exact⟨#[],rfl,by simp[VRs]⟩)⟩;simp only[execOp,I,G,p,ay,Instr.lookup,bu O,aE,MapKept.run_getObj_map A,aH,
  MapKept.run_checkKey (k:=.int k2 n) y (by simp[MapKept.IsKey]),MapKept.run_findKey y D]
 rfl
def LV{t:TypeId}{m x y:Operand}(ho:o.op=.insert t m x y)(G:TR ι s.T a.tmps)(hW:WR ι s.H s.nb w)(h:effK P (opd s.T) s.H f (.insert t m x y) c=some z):
  ∃e,c e=some z/\iJ P ι f o a w e:=by
 simp only[effK]at h;split at h
 case h_2=>cases h
 rename_i b V;split at h
 case h_2=>cases h
 rename_i k n g hx hy;split at h
 case h_2=>cases h
 rename_i kt et hd;split at h
 case h_2=>cases h
 rename_i k2 S;split at h
 case h_2=>cases h
 rename_i k1 l U;split at h
 case h_2=>cases h
 rename_i A;simp only[aD]at A;obtain⟨F,E,B⟩:=A;have e1:=mh F;have W:=mh E;subst e1 W;have M:=bL G V;have J:=bL G hx;have N:=bL G hy;simp only[VR]at M J N;obtain⟨q,Q,Y⟩:=M;obtain⟨Z,X,R⟩:=N;simp only[VRs]at R;have I:Z=#[]:=by
  apply mO;simpa using R
 subst I;obtain⟨q',D,d,L,K,O⟩:=Vg hW U;rw[Q]at L;cases L;have C:∀e∈D.toList,∃p∈l,e.key=.int k2 p.1:=by
  intro e v;have:(e.key,e.val)∈l.map λp=>(Value.int k2 p.1,fnV p.2 #[]):=by rw[<-O];exact eY.2 ⟨e,v,rfl⟩
  obtain⟨p,hp,i⟩:=eY.1 this;simp only[bP]at i;exact⟨p,hp,i.1.symm⟩
 have r:MapKept.IsKey (.int k2) (.int k2 n):=by simp[MapKept.IsKey]
 have u:Instr.findNow (.int k2) (.int k2 n) D.toList 0=some none:=by
  rcases MapKept.findNow_spec r D.toList 0 (λe v=>by obtain⟨p,_,hp⟩:=C e v;rw[hp];simp[MapKept.IsKey])with⟨h,_⟩ | ⟨j,e,_,hj,v⟩
  ·exact h
  ·exfalso;obtain⟨p,hp,i⟩:=C e (fR hj);rw[i]at v;have:=(cb.1 B) p hp;simp only[Value.int.injEq,lL]at v;simp[v]at this
 refine⟨_,h,?_⟩;unfold iJ;refine⟨q,Q,λ_=>⟨.map (D.push { key:=.int k2 n,val:=fnV g #[],born:=d }) (d+1),.skip,?_,⟨_,_,rfl,?_⟩,.skip rfl⟩⟩
 ·simp only[execOp,ho,Y,J,X,ay,Instr.mapUpdate,bu hd,aE,MapKept.run_getObj_map K,MapKept.run_checkKey (k:=.int k2 n) S r,MapKept.run_findKey S u,MapKept.run_setObj_map _ K,aH];rfl
 ·rw[Array.toList_push,Iy,Iy,O];rfl
def N8(k:TR ι s.T a.tmps)(C:WR ι s.H s.nb w)(Z:ι f=none)(h:effK P (opd s.T) s.H f o.op c=some z):∃e,c e=some z/\iJ P ι f o a w e:=by
 cases j:o.op with
 | move x=>
  rw[j]at h;simp only[effK]at h;obtain⟨v,p,h⟩:=ax h;exact⟨_,h,.val (by simp only[execOp,j,aH]) (bL k p)⟩
 | assign x=>
  rw[j]at h;simp only[effK]at h;obtain⟨v,p,h⟩:=ax h;exact⟨_,h,.val (by simp only[execOp,j,aH]) (bL k p)⟩
 | pick q x y=>
  rw[j]at h;simp only[effK]at h;split at h
  ·rename_i t M;have p:=bL k M;simp only[VR]at p;cases t
   ·simp only[af]at h;obtain⟨v,A,h⟩:=ax h;exact⟨_,h,.val (x:=a.eval y) (by simp[execOp,j,p,asBool]) (bL k A)⟩
   ·simp only[ah]at h;obtain⟨v,A,h⟩:=ax h;exact⟨_,h,.val (x:=a.eval x) (by simp[execOp,j,p,asBool]) (bL k A)⟩
  ·cases h
 | alloc t=>rw[j]at h;exact Qo j h
 | makeMap t x=>rw[j]at h;exact IX j h
 | insert t m x y=>rw[j]at h;exact LV j k C h
 | lookup t m x ok=>rw[j]at h;exact MC j k C h
 | box t x=>rw[j]at h;exact Yk j k Z h
 | build t ps=>rw[j]at h;exact PI j k h
 | buildSlice t n ps=>rw[j]at h;exact BF j k Z h
 | load t x=>rw[j]at h;exact R9 j k C h
 | makeSlice t x y=>rw[j]at h;exact D4 j k h
 | store t x y=>rw[j]at h;exact ON j k C h
 | nilCheck x=>
  rw[j]at h;simp only[effK]at h;split at h
  ·rename_i b off hx;have p:=bL k hx;have A:=p;simp only[VR]at p;obtain⟨r,h5,B⟩:=p;exact⟨_,h,.val (x:=a.eval x) (by simp[execOp,j,B]) A⟩
  ·rename_i zz b jj off hx;have p:=bL k hx;have A:=p;simp only[VR]at p;obtain⟨r,h5,B⟩:=p;exact⟨_,h,.val (x:=a.eval x) (by simp[execOp,j,B]) A⟩
  ·rename_i g l hx;have p:=bL k hx;have A:=p;simp only[VR]at p;obtain⟨U,B,_⟩:=p;obtain⟨g',b',c',h7⟩:=BY g U;exact⟨_,h,.val (x:=a.eval x) (by simp[execOp,j,B,h7]) A⟩
  ·rename_i b off n m hx;have p:=bL k hx;have A:=p;simp only[VR]at p;obtain⟨r,cp,_,_,_,B⟩:=p;exact⟨_,h,.val (x:=a.eval x) (by simp[execOp,j,B]) A⟩
  ·rename_i t v hx;have p:=bL k hx;have A:=p;simp only[VR]at p;obtain⟨y,B,_⟩:=p;exact⟨_,h,.val (x:=a.eval x) (by simp[execOp,j,B]) A⟩
  ·cases h
 | binOp op t x y yt=>
  rw[j]at h;simp only[effK]at h;obtain⟨u,J,h⟩:=ax h;obtain⟨v,p,h⟩:=ax h;split at h
  ·rename_i r Q;have hx:=bL k J;have hy:=bL k p;obtain⟨G,K⟩:=YB Q hx hy w;exact⟨_,h,.val (x:=.bool r) (by simp only[execOp,j,ay,G,K,aE,aH]) (by simp[VR])⟩
  split at h
  ·rename_i r Q;split at h
   case h_2=>cases h
   rename_i m rd E;obtain⟨hm,h⟩:=eV h;obtain⟨G,K⟩:=aap Q E (aR hm) C (bL k J) (bL k p) x y;exact⟨_,h,.val (x:=.bool r) (by simp only[execOp,j,ay,G,K,aE,aH]) (by simp[VR])⟩
  obtain⟨R,X,V,S,G,K⟩:=Ym h (bL k J) (bL k p) x y w;exact⟨_,V,.val (x:=X) (by simp only[execOp,j,ay,G,K,aE,aH]) S⟩
 | unOp op t x=>
  rw[j]at h;simp only[effK]at h;obtain⟨u,J,h⟩:=ax h;obtain⟨R,X,V,S,G⟩:=Zk (P:=P) h (bL k J) w;exact⟨_,V,.val (x:=X) (by simp only[execOp,j,ay,G,aE,aH]) S⟩
 | convert sr d x=>rw[j]at h;exact Ir j k C h
 | next x str=>rw[j]at h;exact Su j k C h
 | makeInterface t x=>
  rw[j]at h;simp only[effK]at h;obtain⟨u,J,h⟩:=ax h;have p:=bL k J;split at h
  ·cases h
  ·rename_i d N O;refine⟨_,h,.val (x:=.iface t (a.eval x)) ?_ (by simp only[VR];exact⟨_,rfl,p⟩)⟩;simp only[execOp,j,Instr.makeInterface,ay,bu O,aE];cases d<;>first | rfl | exact absurd rfl (N _)
  ·cases h
 | makeFunc fn first cap=>
  rw[j]at h;simp only[effK]at h;split at h
  ·rename_i g F;split at h
   case h_2=>cases h
   rename_i hb;obtain⟨l,E,h⟩:=ax h;have I:=zu k E;have D:first=#[]:=by apply mO;simpa using F
   refine⟨_,h,.val (x:=.func (.func g) #[] (cap.map a.eval)) ?_ (by simp only[VR];exact⟨_,(IG hb _).symm,by simpa using I⟩)⟩;simp only[execOp,j,Instr.makeFunc,D,JI,ay,aH,aE]
  ·rename_i g _ _ F;split at h
   ·rename_i L;obtain⟨l,E,h⟩:=ax h;have I:=zu k E;have hcap':cap=#[]:=by apply mO;simpa using L
    refine⟨_,h,.val (x:=.func (.func g) (first.map a.eval) #[]) ?_ (by simp only[VR];exact⟨_,(Tu g _).symm,by simpa using I⟩)⟩;simp only[execOp,j,Instr.makeFunc,hcap',JI,ay,aH,aE]
   ·cases h
  ·cases h
 | slice t x lo hi mx=>
  rw[j]at h;cases mx with
  | none=>exact Ru j k C h
  | some m=>exact M5 j k C h
 | fieldAddr t x i=>rw[j]at h;exact Fp j k h
 | field t x i=>rw[j]at h;exact OX j k h
 | indexAddr t x i=>rw[j]at h;exact EX j k C h
 | index t x i=>rw[j]at h;exact Qx j k h
 | range t x=>rw[j]at h;exact Pi j k h
 | extract x i=>
  rw[j]at h;simp only[effK]at h;split at h
  ·rename_i l hx;obtain⟨v,p,h⟩:=ax h;have E:=bL k hx;simp only[VR]at E;obtain⟨U,B,Y⟩:=E;obtain⟨y,hy,W⟩:=Y.get p;have hy':U[i]?=some y:=by simpa using hy
   exact⟨_,h,.val (x:=y) (by simp[execOp,j,B,Instr.extract,hy']) W⟩
  ·cases h
 | typeAssert x xt at_ ok=>
  rw[j]at h;simp only[effK]at h;split at h
  case h_2=>cases h
  rename_i t v hx;have p:=bL k hx;simp only[VR]at p;obtain⟨y,B,hy⟩:=p;split at h
  ·cases h
  ·rename_i d N O;split at h
   case h_2=>cases h
   rename_i M;have M:=bO M;subst M;cases ok with
   | true=>
    refine⟨_,h,.val (x:=.tuple #[y,.bool true]) ?_ (by simp only[VR,VRs];exact⟨_,rfl,y,[.bool true],rfl,hy,_,[],rfl,rfl,rfl⟩)⟩;simp only[execOp,j,B,Instr.typeAssert,ay,bu O,aE];cases d<;>first | simp | exact absurd rfl (N _)
   | false=>
    refine⟨_,h,.val (x:=y) ?_ hy⟩;simp only[execOp,j,B,Instr.typeAssert,ay,bu O,aE];cases d<;>first | simp | exact absurd rfl (N _)
  ·cases h
 | call cl=>rw[j]at h;exact Tv j k C h
 | _=>rw[j]at h;simp[effK]at h
end ops
end Go.Abs
