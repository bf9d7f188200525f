
import Derived.Test.YtadejcglcffgbacGreatDoorAbsG
import Derived.Laws.BytesArg
import Derived.Laws.BytesString
import Derived.Lib.ConvBytes
import Derived.Laws.MakeOwn
import Derived.Deep.AppendSrc
import Derived.MapKept
set_option linter.unusedSimpArgs false
set_option linter.unusedVariables false
set_option linter.defProp false
namespace Go.Abs
variable {P:Program}
section ops
variable {α:Type} {ι:Inj} {s:St} {a:Act} {w:World} {f:Nat} {o:Oper} {c:Eff->Option α} {z:α}
def sW{t:TypeId}{a:Array Field}{fd:Field}{i:Nat}{d:TypeInfo}(b:P.underlying t=some (.struct a))(c:a[i]?=some fd)(hi:P.info? fd.type=some d)
  (e:0<P.cellsOf fd.type) (r off:Nat) (w:World):(Instr.fieldAt t (.pointer (some ⟨r,off,none⟩)) i).run P w=.ok (.pointer (some ⟨r,off+fd.offset,none⟩)) w:=by
 simp only[Instr.fieldAt,al,aJ b,ar,c,Instr.sureAddr,av,fieldPlace,dN hi,show¬(P.cellsOf fd.type=0)by omega,aD,jI]
def wR{t:TypeId}{x:Operand}{i:Nat}(y:o.op=.fieldAddr t x i)(A:TR ι s.T a.tmps)(h:effK P (opd s.T) s.H f (.fieldAddr t x i) c=some z):
  ∃e,c e=some z/\eh P ι f o a w e:=by
 simp only[effK]at h;split at h
 ·rename_i b off q;split at h
  ·rename_i B n;split at h
   ·rename_i fd u;split at h
    ·rename_i k;obtain⟨C,g⟩:=bn k;have l:=aP A q;simp only[VR]at l;obtain⟨r,m,p⟩:=l;have d:=sW n (by simpa using u) g (az k) r.r off w;exact⟨_,h,.val (x:=.pointer (some ⟨r.r,off+fd.offset,none⟩)) (by simp only[execOp,y,p,al,d,ar,av]) (by simp only[VR,lO];exact⟨r,m,rfl⟩)⟩
    ·cases h
   ·cases h
  ·cases h
 ·rename_i v b j off q;split at h
  ·rename_i B n;split at h
   ·rename_i fd u;split at h
    ·rename_i k;obtain⟨C,g⟩:=bn k;have l:=aP A q;simp only[VR]at l;obtain⟨r,m,p⟩:=l;have d:=sW n (by simpa using u) g (az k) r.r (r.o+(j*v+off)) w;exact⟨_,h,.val (x:=.pointer (some ⟨r.r,r.o+(j*v+off)+fd.offset,none⟩)) (by simp only[execOp,y,p,al,d,ar,av]) (by simp only[VR,lO];exact⟨r,m,by rw[gL,gL]⟩)⟩
    ·cases h
   ·cases h
  ·cases h
 ·cases h
def CX{t:TypeId}{x:Operand}{i:Nat}(u:o.op=.field t x i)(D:TR ι s.T a.tmps)(h:effK P (opd s.T) s.H f (.field t x i) c=some z):
  ∃e,c e=some z/\eh P ι f o a w e:=by
 simp only[effK]at h;split at h
 ·rename_i l E;have n:=aP D E;simp only[VR]at n;obtain⟨r,q,j⟩:=n;split at h
  ·rename_i F p;split at h
   ·rename_i fd B;have hf':F[i]?=some fd:=by simpa using B
    split at h
    ·rename_i b;split at h
     ·have A:∃d,P.underlying fd.type=some d:=by
       unfold bi at b;split at b
       ·exact⟨_,by assumption⟩
       ·exact⟨_,by assumption⟩
       ·cases b
      obtain⟨d',g⟩:=A;obtain⟨I,m⟩:=jL g;refine⟨_,h,.val (x:=.agg (r.extract fd.offset (fd.offset+P.cellsOf fd.type))) ?_ (lU (j.extract _ _))⟩;simp only[execOp,u,q,Instr.field,al,aJ p,ar,hf',asAgg,av,part,hP g,b,be,dN m]
     ·cases h
    ·rename_i b;split at h
     ·rename_i d' g;obtain⟨v,G,h⟩:=ah h;obtain⟨y,C,k⟩:=j.get G;have hy':r[fd.offset]?=some y:=by simpa using C
      refine⟨_,h,.val (x:=y) ?_ k⟩;simp only[execOp,u,q,Instr.field,al,aJ p,ar,hf',asAgg,av,part,hP g,b,cb,aD,hy']
     ·cases h
   ·cases h
  ·cases h
 ·cases h
def ll{t e:TypeId}{m:Nat}{a:TypeInfo}(b:P.underlying t=some (.array m e))(hi:P.info? e=some a)(k:IntKind){n:Int}(h0:0<=n)(h1:n<m)(r off:Nat)(w:World):
  (Instr.indexAt t (.pointer (some ⟨r,off,none⟩)) (.int k n)).run P w=.ok (.pointer (some ⟨r,off+n.toNat*P.cellsOf e,none⟩)) w:=by
 simp only[Instr.indexAt,asIntOf,al,av,ar,aJ b,Instr.sureAddr,h0,h1,and_self,be,dN hi,jI]
def iS{t e:TypeId}{m cp:Nat}{a:TypeInfo}(b:P.underlying t=some (.slice e))(hi:P.info? e=some a)(k:IntKind){n:Int}(h0:0<=n)(h1:n<m)(r off:Nat)(w:World):
  (Instr.indexAt t (.slice (some ⟨r,off,none⟩) m cp) (.int k n)).run P w=.ok (.pointer (some ⟨r,off+n.toNat*P.cellsOf e,none⟩)) w:=by
 simp only[Instr.indexAt,asIntOf,al,av,ar,aJ b,h0,h1,and_self,be,dN hi,jI]
def vM{t:TypeId}{x i:Operand}(J:o.op=.indexAddr t x i)(F:TR ι s.T a.tmps)(R:WR ι s.H s.nb w)(h:effK P (opd s.T) s.H f (.indexAddr t x i) c=some z):
  ∃e,c e=some z/\eh P ι f o a w e:=by
 simp only[effK]at h;split at h
 case h_2=>cases h
 rename_i k n hi;have v:=aP F hi;simp only[VR]at v;split at h
 ·rename_i m e G;split at h
  ·rename_i b off E;have u:=aP F E;simp only[VR]at u;obtain⟨r,y,D⟩:=u;split at h
   ·rename_i p;obtain⟨K,g⟩:=bn p;obtain⟨j,C,h⟩:=ah h;obtain⟨g0,B,rfl⟩:=kQ C;have d:=ll G g k g0 B r.r off w;exact⟨_,h,.val (x:=.pointer (some ⟨r.r,off+n.toNat*P.cellsOf e,none⟩)) (by simp only[execOp,J,D,v,al,d,ar,av]) (by simp only[VR,lO,sj];exact⟨r,y,rfl⟩)⟩
   ·cases h
  ·rename_i L b M off E;have u:=aP F E;simp only[VR]at u;obtain⟨r,y,D⟩:=u;split at h
   ·rename_i p;obtain⟨K,g⟩:=bn p;obtain⟨j,C,h⟩:=ah h;obtain⟨g0,B,rfl⟩:=kQ C;have d:=ll G g k g0 B r.r (r.o+(M*L+off)) w;exact⟨_,h,.val (x:=.pointer (some ⟨r.r,r.o+(M*L+off)+n.toNat*P.cellsOf e,none⟩)) (by simp only[execOp,J,D,v,al,d,ar,av]) (by simp only[VR,lO,sj];exact⟨r,y,by rw[gL,gL]⟩)⟩
   ·cases h
  ·cases h
 ·rename_i e G;split at h
  ·rename_i b off m cp E;have u:=aP F E;simp only[VR]at u;obtain⟨r,cap,y,_,_,D⟩:=u;split at h
   ·rename_i p;obtain⟨K,g⟩:=bn p;obtain⟨j,C,h⟩:=ah h;obtain⟨g0,B,rfl⟩:=kQ C;have d:=iS (cp:=cap) G g k g0 B r.r off w;exact⟨_,h,.val (x:=.pointer (some ⟨r.r,off+n.toNat*P.cellsOf e,none⟩)) (by simp only[execOp,J,D,v,al,d,ar,av]) (by simp only[VR,lO,sj];exact⟨r,y,rfl⟩)⟩
   ·cases h
  ·rename_i b E;have u:=aP F E;simp only[VR]at u;split at h
   case h_2=>cases h
   rename_i tr l O;split at h
   case h_2=>cases h
   rename_i p;simp only[aw,fP]at p;obtain⟨Q,p⟩:=p;obtain⟨K,g⟩:=bn p;obtain⟨j,C,h⟩:=ah h;obtain⟨g0,B,rfl⟩:=kQ C;rcases f9 R O with⟨q,Z,V,fr,I,U,N,S,X,Y,q7⟩ | ⟨I,rfl⟩
   ·rcases u with⟨W,y,D⟩ | ⟨y,_⟩
    ·rw[y]at I;cases I;have g1':n<(q.n:Int):=by rw[<-N];exact B
     have d:=iS (cp:=q.k) G g k g0 g1' q.r q.o w;exact⟨_,h,.val (x:=.pointer (some ⟨q.r,q.o+n.toNat*P.cellsOf e,none⟩)) (by simp only[execOp,J,D,v,al,d,ar,av]) (by simp only[VR];exact⟨q,y,by rw[eu]⟩)⟩
    ·rw[y]at I;cases I
   ·simp at B;omega
  ·rename_i L b ss m _ E;have u:=aP F E;simp only[VR]at u;split at h
   case h_2=>cases h
   rename_i p;simp only[aw,fP]at p;obtain⟨rfl,p⟩:=p;obtain⟨K,g⟩:=bn p;obtain⟨j,C,h⟩:=ah h;obtain⟨g0,B,rfl⟩:=kQ C;rcases u with⟨q,cp,off,y,_,A,D⟩ | ⟨_,⟨rfl,_⟩,_⟩
   ·have d:=iS (cp:=cp) G g k g0 B q.r off w;have A:=A (by omega);exact⟨_,h,.val (x:=.pointer (some ⟨q.r,off+n.toNat*P.cellsOf e,none⟩)) (by simp only[execOp,J,D,v,al,d,ar,av]) (by simp only[VR,lO];exact⟨q,y,by rw[A,ea,eu,gL]⟩)⟩
   ·omega
  ·cases h
 ·cases h
def fN{t e:TypeId}{m:Nat}{b:TypeInfo}(c:P.underlying t=some (.array m e))(hi:P.info? e=some b)(k:IntKind){n:Int}(h0:0<=n)(h1:n<m)(a:Array Value)(w:World):
  (Instr.index t (.agg a) (.int k n)).run P w=(part e a (n.toNat*P.cellsOf e)).run P w:=by
 simp only[Instr.index,asIntOf,al,av,ar,aJ c,h0,h1,and_self,be,dN hi]
def mI{t:TypeId}{d:TypeDesc}(b:P.underlying t=some d)(e:bi P t=false){a:Array Value}{off:Nat}{x:Value}(c:a[off]?=some x)(w:World):
  (part t a off).run P w=.ok x w:=by
 simp only[part,al,hP b,e,ar,cb,aD,c,av]
def qD{t:TypeId}{d:TypeDesc}(b:P.underlying t=some d)(c:bi P t=true)(a:Array Value)(off:Nat)(w:World):
  (part t a off).run P w=.ok (.agg (a.extract off (off+P.cellsOf t))) w:=by
 obtain⟨i,hi⟩:=jL b;simp only[part,al,hP b,c,ar,be,dN hi,av]
def qY{t:TypeId}(f:P.underlying t=some .string){l:aa}{n:Int}{b:UInt8}(h:sx l n=some b)(k:IntKind)(w:World):
  (Instr.index t (.string ⟨l.toArray⟩) (.int k n)).run P w=.ok (.int .u8 b.toNat) w:=by
 unfold sx at h;split at h
 ·rename_i h0;have e:(ByteArray.mk l.toArray)[n.toNat]?=some b:=by
   have a:n.toNat<l.length:=by
    rcases aA n.toNat l.length with c | c
    ·exact c
    ·rw[ec c]at h;cases h
   have d:n.toNat<(ByteArray.mk l.toArray).size:=a;rw[getElem?_pos (ByteArray.mk l.toArray) n.toNat d];rw[bN a]at h;simp only[af]at h ⊢;exact h
  simp only[Instr.index,asIntOf,al,av,ar,aJ f,h0,be,e]
 ·cases h
def C4{t:TypeId}{x i:Operand}(D:o.op=.index t x i)(G:TR ι s.T a.tmps)(h:effK P (opd s.T) s.H f (.index t x i) c=some z):
  ∃e,c e=some z/\eh P ι f o a w e:=by
 simp only[effK]at h;split at h
 case h_2=>cases h
 rename_i k n hi;have d:=aP G hi;simp only[VR]at d;split at h
 ·rename_i m e C;split at h
  ·cases h
  rename_i L;obtain⟨U,q⟩:=bn L;split at h
  ·rename_i k' m' l F;have g:=aP G F;simp only[VR]at g;obtain⟨W,E⟩:=g;split at h
   ·rename_i k2 p;split at h
    ·rename_i h1;have h1:=aS h1;obtain⟨j,u,h⟩:=ah h;obtain⟨g0,A,rfl⟩:=kQ u;obtain⟨v,g,h⟩:=ah h;refine⟨_,h,.val (x:=.int k' v) ?_ (by simp[VR])⟩;simp only[execOp,D,E,d,al,fN C q k g0 A];rw[mI p (by simp[bi,p]) (x:=.int k' v) (by simp[h1,g])];rfl
    ·cases h
   ·cases h
  ·rename_i l F;have g:=aP G F;simp only[VR]at g;obtain⟨K,E,r⟩:=g;split at h
   ·rename_i S p;obtain⟨j,u,h⟩:=ah h;obtain⟨g0,A,rfl⟩:=kQ u;refine⟨_,h,.val (x:=.agg (K.extract (n.toNat*P.cellsOf e) (n.toNat*P.cellsOf e+P.cellsOf e))) ?_ (lU (r.extract _ _))⟩;simp only[execOp,D,E,d,al,fN C q k g0 A,qD p (by simp[bi,p]),ar,av]
   ·rename_i m2 N p;obtain⟨j,u,h⟩:=ah h;obtain⟨g0,A,rfl⟩:=kQ u;refine⟨_,h,.val (x:=.agg (K.extract (n.toNat*P.cellsOf e) (n.toNat*P.cellsOf e+P.cellsOf e))) ?_ (lU (r.extract _ _))⟩;simp only[execOp,D,E,d,al,fN C q k g0 A,qD p (by simp[bi,p]),ar,av]
   ·rename_i p;split at h
    ·rename_i h1;have h1:=aS h1;split at h
     ·rename_i V I;obtain⟨j,u,h⟩:=ah h;obtain⟨g0,A,rfl⟩:=kQ u;obtain⟨v,g,h⟩:=ah h;obtain⟨y,J,B⟩:=r.get (j:=n.toNat) (v:=.s v) (by rw[px I];simp[g]);refine⟨_,h,.val (x:=y) ?_ B⟩;simp only[execOp,D,E,d,al,fN C q k g0 A];rw[mI p (by simp[bi,p]) (x:=y) (by simpa[h1]using J)];rfl
     ·cases h
    ·cases h
   ·rename_i d' R Q O p;split at h
    ·rename_i h1;have h1:=aS h1;obtain⟨j,u,h⟩:=ah h;obtain⟨g0,A,rfl⟩:=kQ u;obtain⟨v,g,h⟩:=ah h;obtain⟨y,J,B⟩:=r.get g;refine⟨_,h,.val (x:=y) ?_ B⟩;simp only[execOp,D,E,d,al,fN C q k g0 A];rw[mI p (by simp only[bi,p];cases d'<;>simp_all) (x:=y) (by simpa[h1]using J)];rfl
    ·cases h
   ·cases h
  ·cases h
 ·rename_i C;split at h
  ·rename_i l F;have g:=aP G F;simp only[VR]at g;obtain⟨b,M,h⟩:=ah h;refine⟨_,h,.val (x:=.int .u8 b.toNat) ?_ (by simp[VR])⟩;simp only[execOp,D,g,d,al,qY C M,ar,av]
  ·cases h
 ·cases h
def wB{t:TypeId}(a:P.underlying t=some .string){l:aa}{lo hi:Option Value}{L H:Nat}{w:World}
  (c:(Instr.sliceBounds false l.length l.length lo hi none).run P w=.ok (L,H,l.length) w):
  (Instr.sliceAt t (.string ⟨l.toArray⟩) lo hi none).run P w=.ok (.string ⟨((l.take H).drop L).toArray⟩) w:=by
 rw[run_sliceAt_string w t _ _ _ _ a];have b:(ByteArray.mk l.toArray).size=l.length:=rfl;simp only[Instr.slice,al,aJ a,ar,sC,cb,aD,b,c,av];congr 2;apply F5;rw[ByteArray.data_extract];apply gQ;simp[List.extract,xG]
def wQ{t e:TypeId}{n:Nat}{b:TypeInfo}(d:P.underlying t=some (.array n e))(hi:P.info? e=some b){lo a:Option Value}{L H r off:Nat}{w:World}
  (c:(Instr.sliceBounds false n n lo a none).run P w=.ok (L,H,n) w):
  (Instr.sliceAt t (.pointer (some ⟨r,off,none⟩)) lo a none).run P w=.ok (.slice (some ⟨r,if n=L then off else off+L*P.cellsOf e,none⟩) (H - L) (n - L)) w:=by
 simp only[Instr.sliceAt,al,aJ d,ar,Instr.sureAddr,av,c,dN hi,jI];split<;>rfl
def kF{t e:TypeId}{n cp:Nat}{b:TypeInfo}(d:P.underlying t=some (.slice e))(hi:P.info? e=some b){lo a:Option Value}{L H r off:Nat}{w:World}
  (c:(Instr.sliceBounds true n cp lo a none).run P w=.ok (L,H,cp) w):
  (Instr.sliceAt t (.slice (some ⟨r,off,none⟩) n cp) lo a none).run P w=.ok (.slice (some ⟨r,if cp=L then off else off+L*P.cellsOf e,none⟩) (H - L) (cp - L)) w:=by
 simp only[Instr.sliceAt,Instr.slice,al,aJ d,ar,c,dN hi,av];split
 ·rfl
 ·simp only[dB,jI]
def jd(n l x y:Nat):cond (Nat.beq n l) x y=if n=l then x else y:=by
 by_cases h:n=l
 ·subst h;simp
 ·have:Nat.beq n l=false:=by
   cases a:Nat.beq n l
   ·rfl
   ·exact absurd (aS a) h
  simp[this,h]
def py{t e:TypeId}{f:TypeInfo}{b:Option Addr}(d:P.underlying t=some (.slice e))(hi:P.info? e=some f){lo a:Option Value}{w:World}
  (c:(Instr.sliceBounds true 0 0 lo a none).run P w=.ok (0,0,0) w):
  (Instr.sliceAt t (.slice b 0 0) lo a none).run P w=.ok (.slice b 0 0) w:=by
 simp only[Instr.sliceAt,Instr.slice,al,aJ d,ar,c,dN hi,av,be]
def xg{T:List (Nat×Option V)}(o:TR ι T a.tmps){lo hi:Option Operand}{l h:Option Int}(q:mG (opd T) lo=some l)
  (p:mG (opd T) hi=some h) {len:Nat} {c:Nat->Nat->Option α} (e:(hiK len len h λh=>loK h l λl=>c h l)=some z):
  ∃H L,c H L=some z/\H<=len/\L<=H/\∀n,len<=n->∀w,(Instr.sliceBounds true len n (lo.map a.eval) (hi.map a.eval) none).run P w=.ok (L,H,n) w:=by
 have g:∀{H:Nat},loK H l (c H)=some z->∃L,c H L=some z/\L<=H/\
   ∀w,(match lo.map a.eval with | some v=>Instr.sliceBound v H .sliceB | none=>pure 0).run P w=.ok L w:=by
  intro H e;rcases kS o q with⟨rfl,h1⟩ | ⟨k,m,rfl,h1⟩
  ·exact⟨0,e,mT _,λw=>by rw[h1];rfl⟩
  ·simp only[loK]at e;obtain⟨L,h2,i⟩:=ah e;obtain⟨g0,j,rfl⟩:=iP h2;exact⟨_,i,by omega,λw=>by rw[h1];exact run_sliceBound w k m H .sliceB g0 j⟩
 rcases kS o p with⟨rfl,h1⟩ | ⟨k,m,rfl,h1⟩
 ·simp only[hiK]at e;obtain⟨L,h2,i,d⟩:=g e;refine⟨len,L,h2,aI _,i,λn s w=>?_⟩;have d:=d w;rw[h1];simp only[Instr.sliceBounds,al,av,ar,sC,cb,aD];cases b:lo.map a.eval with
  | none=>rw[b]at d;simp only[av,tU,and_true]at d;simp[d]
  | some v=>rw[b]at d;simp only[]at d;simp[d]
 ·simp only[hiK]at e;obtain⟨H,h2,i⟩:=ah e;obtain⟨g0,j,rfl⟩:=iP h2;obtain⟨L,t,d,f⟩:=g i;refine⟨_,L,t,by omega,d,λn s w=>?_⟩;have f:=f w;rw[h1];have r:=run_sliceBound (P:=P) w k m n .sliceAcap g0 (by omega);simp only[Instr.sliceBounds,al,av,ar,sC,cb,aD,be,r];cases b:lo.map a.eval with
  | none=>rw[b]at f;simp only[av,tU,and_true]at f;simp[f]
  | some v=>rw[b]at f;simp only[]at f;simp[f]
def D4{t:TypeId}{x:Operand}{lo hi:Option Operand}(F:o.op=.slice t x lo hi none)(G:TR ι s.T a.tmps)(hW:WR ι s.H s.nb w)(h:effK P (opd s.T) s.H f (.slice t x lo hi none) c=some z):
  ∃e,c e=some z/\eh P ι f o a w e:=by
 simp only[effK]at h;obtain⟨v,hx,B⟩:=ah h;obtain⟨l,J,W⟩:=ah B;obtain⟨hh,p,d⟩:=ah W;clear h B W;have y:=aP G hx;clear hx;split at d
 ·rename_i C;cases v<;>simp only[reduceCtorEq]at d;rename_i sl;simp only[VR]at y;obtain⟨H,L,h1,_,_,_,g,_,A⟩:=sH (P:=P) G J p (isSlice:=false) d;refine⟨_,h1,.val (x:=.string ⟨((sl.take H).drop L).toArray⟩) ?_ (by simp[VR])⟩;simp only[execOp,F,y,al,en];rw[wB C (A w)];rfl
 ·rename_i n e C;split at d
  case h_2=>cases d
  rename_i R;obtain⟨ti,i⟩:=bn R;cases v<;>simp only[reduceCtorEq]at d;rename_i b off;simp only[VR]at y;obtain⟨r,g,u⟩:=y;obtain⟨H,L,h1,_,E,D,g4,_,A⟩:=sH (P:=P) G J p (isSlice:=false) d;have Y:H<=n:=by
   cases hh with
   | none=>exact sJ (E rfl)
   | some q=>exact D (by simp)
  refine⟨_,h1,.val (x:=.slice (some ⟨r.r,if n=L then off else off+L*P.cellsOf e,none⟩) (H - L) (n - L)) ?_ ?_⟩
  ·simp only[execOp,F,u,al,en];rw[wQ C i (A w)];rfl
  ·simp only[VR];exact⟨r,n - L,g,λm hm=>by cases hm;rfl,by omega,by rw[jd,lO,sj]⟩
 ·rename_i e C;split at d
  case h_2=>cases d
  rename_i R;obtain⟨ti,i⟩:=bn R;cases v<;>try (simp only[reduceCtorEq]at d;done)
  ·rename_i b;simp only[VR]at y;simp only at d;split at d
   case h_2=>cases d
   rename_i tr m V;split at d
   case h_2=>cases d
   rename_i I;have I:=aS I;obtain⟨H,L,h1,E,D,A⟩:=xg (P:=P) G J p d;rcases f9 hW V with⟨q,cs,e',fr,B,W,S,q5,_,_,_⟩ | ⟨B,rfl⟩
   ·rcases y with⟨q',g,u⟩ | ⟨g,_⟩
    ·rw[g]at B;cases B;refine⟨_,h1,.val (x:=.slice (some ⟨q.r,if q.k=L then q.o else q.o+L*P.cellsOf e,none⟩) (H - L) (q.k - L)) ?_ ?_⟩
     ·simp only[execOp,F,u,al,en];rw[<-S,kF C i (A q.k (by omega) w)];rfl
     ·simp only[VR];exact .inl ⟨q,_,_,g,⟨by omega,gX⟩,λM=>by rw[ab (by omega)],rfl⟩
    ·rw[g]at B;cases B
   ·rcases y with⟨q,g,u⟩ | ⟨g,Q,u⟩
    ·rw[g]at B;cases B
    ·simp only[cP,wO]at E D;subst E;simp only[wO]at D;subst D;refine⟨_,h1,.val (x:=.slice Q 0 0) ?_ (by unfold VR;exact .inr ⟨g,⟨rfl,gX⟩,Q,rfl⟩)⟩;simp only[execOp,F,u,al,en];rw[py C i (A 0 (aI _) w)];rfl
  ·rename_i zz b j n _;simp only[VR]at y;simp only at d;split at d
   case h_2=>cases d
   rename_i I;have I:=aS I;obtain⟨H,L,h1,E,D,A⟩:=xg (P:=P) G J p d;rcases y with⟨q,cp,off,g,⟨O,_⟩,N,u⟩ | ⟨g,⟨rfl,_⟩,Q,u⟩
   ·refine⟨_,h1,.val (x:=.slice (some ⟨q.r,if cp=L then off else off+L*P.cellsOf e,none⟩) (H - L) (cp - L)) ?_ ?_⟩
    ·simp only[execOp,F,u,al,en];rw[kF C i (A cp O w)];rfl
    ·simp only[VR];exact .inl ⟨q,_,_,g,⟨by omega,gX⟩,λM=>by rw[ab (by omega),N (by omega),lO,ea,I,gL],rfl⟩
   ·simp only[wO]at E;subst E;simp only[wO]at D;subst D;refine⟨_,h1,.val (x:=.slice Q 0 0) ?_ (by unfold VR;exact .inr ⟨g,⟨rfl,gX⟩,Q,rfl⟩)⟩;simp only[execOp,F,u,al,en];rw[py C i (A 0 (aI _) w)];rfl
  rename_i b off n cap;simp only[VR]at y;obtain⟨r,cp,g,Z,O,u⟩:=y;cases cap with
  | some m=>
   obtain rfl:=Z m rfl;obtain⟨H,L,h1,_,E,D,g4,_,A⟩:=sH (P:=P) G J p (isSlice:=true) d;have Y:H<=cp:=by
    cases hh with
    | none=>have:=E rfl;omega
    | some q=>exact D (by simp)
   refine⟨_,h1,.val (x:=.slice (some ⟨r.r,if cp=L then off else off+L*P.cellsOf e,none⟩) (H - L) (cp - L)) ?_ ?_⟩
   ·simp only[execOp,F,u,al,en];rw[kF C i (A w)];rfl
   ·simp only[VR];exact⟨r,cp - L,g,λm hm=>by cases hm;rfl,by omega,by rw[jd,lO,sj]⟩
  | none=>
   have U:l=none:=by
    cases l with
    | none=>rfl
    | some q=>
     cases hh with
     | none=>simp[hiK]at d
     | some q=>simp only[hiK]at d;obtain⟨_,_,S⟩:=ah d;cases S
   subst U;have K:lo.map a.eval=none:=by
    rcases kS G J with⟨_,h1⟩ | ⟨k,m,h0,_⟩
    ·exact h1
    ·cases h0
   have key:∃H,c { val:=some (.sl b off H none) }=some z/\H<=n/\(Instr.sliceBounds true n cp (lo.map a.eval) (hi.map a.eval) none).run P w=.ok (0,H,cp) w:=by
    rcases kS G p with⟨rfl,h1⟩ | ⟨k,m,rfl,h1⟩
    ·simp only[hiK]at d;exact⟨n,d,aI _,by rw[h1,K];simp[Instr.sliceBounds]⟩
    ·simp only[hiK]at d;obtain⟨H,h2,X⟩:=ah d;obtain⟨g0,g1,rfl⟩:=iP h2;refine⟨_,X,by omega,?_⟩;have V:=run_sliceBound (P:=P) w k m cp .sliceAcap g0 (by omega);rw[h1,K];simp[Instr.sliceBounds,V]
   obtain⟨H,h1,h2,X⟩:=key;refine⟨_,h1,.val (x:=.slice (some ⟨r.r,if cp=0 then off else off+0*P.cellsOf e,none⟩) (H - 0) (cp - 0)) ?_ ?_⟩
   ·simp only[execOp,F,u,al,en];rw[kF C i X];rfl
   ·simp only[VR];exact⟨r,cp,g,λm hm=>(by cases hm),by omega,by simp⟩
 ·cases d
def rZ(a:List Int):a.foldl (λ(r:ByteArray) n=>r.push (UInt8.ofNat n.toNat)) ByteArray.empty=⟨(eH a).toArray⟩:=by
 rw[foldl_push_bytes];apply F5;simp[eH]
def um{w:World}{r off q m cp:Nat}{l:List Int}{e:TypeId}{fr:Nat×Nat}(h:w.heap[r]?=some (.cells (l.map (Value.int .u8)).toArray e fr))(f:l.length=q)(hm:off+m<=q):
  (Conv.bytesToString (.slice (some ⟨r,off,none⟩) m cp)).run P w=.ok (.string ⟨(eH ((l.drop off).take m)).toArray⟩) w:=by
 have a:(((l.drop off).take m).map (Value.int .u8)).length=m:=by simp;omega
 have hc:=tR (P:=P) w ⟨r,off,none⟩ (((l.drop off).take m).map (Value.int .u8)) (λj v b=>by
  have c:j<m:=by
   rcases aA j m with d | d
   ·exact d
   ·rw[ec (by omega)]at b;cases b
  rw[jI,aN h];rw[mL,mM c,jx]at b;simpa using b)
 rw[a]at hc;rw[run_bytesToString w _ m cp _ hc,rZ]
def vE(w:World)(e:TypeId)(s:ByteArray):
  Lib.bytesWorld w e s=World.alloc { w with drawn:=w.drawn+1 } (.cells (Lib.bytesCells w e s) e ((Lib.bytesCells w e s).size,(Lib.bytesCells w e s).size+1)):=by
 have h1:=Lib.bytesWorld_at_new w e s;have h2:=Lib.bytesWorld_size w e s;have c:(Lib.bytesWorld w e s).heap=w.heap.push (.cells (Lib.bytesCells w e s) e ((Lib.bytesCells w e s).size,(Lib.bytesCells w e s).size+1)):=by
  apply KG;intro j;by_cases b:j=w.heap.size
  ·subst b;rw[h1];simp
  ·by_cases a:j<w.heap.size
   ·rw[Lib.bytesWorld_at_old w e s j a,Array.getElem?_push,ab b]
   ·rw[tj (by omega),tj (by simp;omega)]
 show({ (Lib.bytesWorld w e s)with heap:=(Lib.bytesWorld w e s).heap }:World)=_;rw[c];rfl
def m9:∀(l:List Int),l.flatMap (vals [.i .u8])=l.map (Value.int .u8)
 | []=>rfl
 | x::l=>by
  have:=m9 l;simp only[fO,cU,vals,Lf.val]at this ⊢;rw[this];rfl
def nI{w:World}{r cp:Nat}{l:List Int}{c:Array Value}{e:TypeId}{fr:Nat×Nat}{m:Nat}(h:w.heap[r]?=some (.cells c e fr))(g:m<=c.size)
  {o:Nat} (k:(c.toList.drop o).take (l.length*([Lf.i .u8]:List Lf).length)=l.flatMap (vals [.i .u8])) {j n:Nat} (hm:j+n<=l.length):
  (Conv.bytesToString (.slice (some ⟨r,o+j,none⟩) n cp)).run P w=.ok (.string ⟨(eH ((l.drop j).take n)).toArray⟩) w:=by
 have hl':(c.toList.drop o).take l.length=l.map (Value.int .u8):=by rw[<-m9];simpa using k
 have a:(((l.drop j).take n).map (Value.int .u8)).length=n:=by simp;omega
 have hc:=tR (P:=P) w ⟨r,o+j,none⟩ (((l.drop j).take n).map (Value.int .u8)) (λi v b=>by
  have d:i<n:=by
   rcases aA i n with f | f
   ·exact f
   ·rw[ec (by omega)]at b;cases b
  rw[jI,aN h];rw[mL,mM d,jx]at b;have h2:=eK (λq:List Value=>q[j+i]?) hl';simp only[mM (show j+i<l.length by omega),mL,jx]at h2;rw[b]at h2;simpa[gL]using h2)
 rw[a]at hc;rw[run_bytesToString w _ n cp _ hc,rZ]
def nM{w:World}(c:Option Addr):(Conv.bytesToString (.slice c 0 0)).run P w=.ok (.string ⟨#[]⟩) w:=by
 cases c with
 | none=>rfl
 | some a=>
  have b:=tR (P:=P) w a ([].map (Value.int .u8)) (λj v d=>by simp at d);exact run_bytesToString (P:=P) w a 0 0 [] b
def yT{C d:TypeId}{x:Operand}(y:o.op=.convert C d x)(hT:TR ι s.T a.tmps)(S:WR ι s.H s.nb w)(h:effK P (opd s.T) s.H f (.convert C d x) c=some z):
  ∃e,c e=some z/\eh P ι f o a w e:=by
 simp only[effK]at h;obtain⟨v,Z,q⟩:=ah h;clear h;have g:=aP hT Z;clear Z;split at q
 case h_2=>cases q
 rename_i D A;split at q
 ·rename_i k p;cases v<;>simp only[reduceCtorEq]at q;rename_i k' n;simp only[VR]at g;refine⟨_,q,.val (x:=.int k (k.wrap n)) ?_ (by simp[VR])⟩;simp only[execOp,y,g,al,convert,aJ A,aJ p,ar];cases D<;>rfl
 ·rename_i p;cases v<;>simp only[reduceCtorEq]at q
  ·rename_i b;simp only[VR]at g;cases D<;>try (simp only[reduceCtorEq]at q;done)
   rename_i e;simp only at q;split at q
   case h_2=>cases q
   rename_i u;split at q
   case h_2=>cases q
   rename_i l F;refine⟨_,q,.val (x:=.string ⟨(eH l).toArray⟩) ?_ (by simp[VR])⟩;rcases f9 S F with⟨q,cs,X,fr,i,I,W,q5,K,U,_⟩ | ⟨i,rfl⟩
   ·rcases g with⟨q',t,B⟩ | ⟨t,_⟩
    ·rw[t]at i;cases i;simp only[execOp,y,B,al,run_convert_bytes_string w C d e _ _ _ A u p];rw[<-W];have:=nI (P:=P) (cp:=q.k) I K U (j:=0) (n:=l.length) (by omega);simp only[iE,oz,eu]at this;rw[this];rfl
    ·rw[t]at i;cases i
   ·rcases g with⟨q,t,B⟩ | ⟨t,V,B⟩
    ·rw[t]at i;cases i
    ·simp only[execOp,y,B,al,run_convert_bytes_string w C d e V 0 0 A u p,nM];rfl
  ·rename_i zz b j n _;simp only[VR]at g;cases D<;>try (simp only[reduceCtorEq]at q;done)
   rename_i e;simp only at q;split at q
   case h_2=>cases q
   rename_i u;split at q
   case h_2=>cases q
   rename_i l F;split at q
   case h_2=>cases q
   rename_i O;have O:=aS O;subst O;obtain⟨hc,q⟩:=bR q;have E:=az hc;refine⟨_,q,.val (x:=.string ⟨(eH ((l.drop j).take n)).toArray⟩) ?_ (by simp[VR])⟩;rcases g with⟨qq,cp,off,t,⟨Q,_⟩,R,B⟩ | ⟨t,⟨rfl,_⟩,V,B⟩
   ·rcases f9 S F with⟨q',cs,X,fr,i,I,W,q5,K,U,_⟩ | ⟨i,rfl⟩
    ·rw[t]at i;cases i;simp only[execOp,y,B,al,run_convert_bytes_string w C d e _ _ _ A u p];by_cases hn:0<n
     ·rw[R hn,qx];rw[nI (P:=P) (cp:=cp) I K U E];rfl
     ·have M:n=0:=by omega
      subst M;have L:=tR (P:=P) w ⟨qq.r,off,none⟩ ([].map (Value.int .u8)) (λj v Y=>by simp at Y);have h0:=run_bytesToString (P:=P) w ⟨qq.r,off,none⟩ 0 cp [] L;rw[h0];simp[eH];rfl
    ·rw[t]at i;cases i
   ·simp only[execOp,y,B,al,run_convert_bytes_string w C d e V 0 0 A u p,nM];simp[eH]
  ·rename_i k' n;simp only[VR]at g;cases D<;>simp only[reduceCtorEq]at q;refine⟨_,q,.val (x:=.string (Utf8.encode n)) ?_ ?_⟩
   ·simp only[execOp,y,g,al,convert,aJ A,aJ p,ar,Conv.intToString,av]
   ·simp[VR]
  ·rename_i l;simp only[VR]at g;cases D<;>simp only[reduceCtorEq]at q;refine⟨_,q,.val (x:=.string ⟨l.toArray⟩) ?_ (by simp[VR])⟩;simp only[execOp,y,g,al,convert,aJ A,aJ p,ar,av]
  ·simp only[VR]at g;cases D<;>try (simp only[reduceCtorEq]at q;done)
   rename_i e;simp only at q;split at q
   ·rename_i u;refine⟨_,q,.val (x:=.string .empty) ?_ (by simp only[VR];rfl)⟩;simp only[execOp,y,g,al,run_convert_bytes_string w C d e none 0 0 A u p];rfl
   ·cases q
  ·rename_i b off m cap;simp only[VR]at g;obtain⟨r,cp,t,_,_,B⟩:=g;cases D<;>try (simp only[reduceCtorEq]at q;done)
   rename_i e;simp only at q;split at q
   ·rename_i u;split at q
    ·rename_i qn l F;obtain⟨hc,q⟩:=bR q;have E:=az hc;obtain⟨r',X,fr,Q,R,g3,_⟩:=ri S F;rw[t]at Q;cases Q;refine⟨_,q,.val (x:=.string ⟨(eH ((l.drop off).take m)).toArray⟩) ?_ (by simp[VR])⟩;simp only[execOp,y,B,al,run_convert_bytes_string w C d e _ _ _ A u p,um R g3 E,ar,av]
    ·cases q
   ·cases q
 ·rename_i e p;split at q
  case h_2=>cases q
  rename_i u;cases v<;>try (simp only[reduceCtorEq]at q;done)
  rename_i l;simp only[VR]at g;cases D<;>simp only[reduceCtorEq]at q;refine⟨_,q,.mkR (d:=w.drawn+1) (q:=(Rf.of w.heap.size (l.length) (grownCap w l.length 0 e))) (x:=.slice (some ⟨w.heap.size,0,none⟩) l.length (grownCap w l.length 0 e))
   (ob:=.cells (Lib.bytesCells w e ⟨l.toArray⟩) e ((Lib.bytesCells w e ⟨l.toArray⟩).size,(Lib.bytesCells w e ⟨l.toArray⟩).size+1)) ?_ rfl rfl ?_ ?_⟩
  ·simp only[execOp,y,g,al,Lib.run_convert_string_bytes w C d e ⟨l.toArray⟩ A p u,ar,av,vE];rfl
  ·have G:l.length<=grownCap w l.length 0 e:=by simp only[grownCap,Question.cut];omega
   have J:((ByteArray.mk l.toArray).data.map λb=>Value.int .u8 b.toNat).size=l.length:=by simp
   refine⟨_,e,_,rfl,by simp,G,?_,?_,?_⟩
   ·simp only[Lib.bytesCells,Array.size_append,J,Array.size_replicate,bp,cP];have:(ByteArray.mk l.toArray).size=l.length:=rfl;rw[this];omega
   ·simp only[Lib.bytesCells,tY,mw,bp,cP,ci,qx,iE];rw[qB (by simp),gI (by simp)];rw[m9,Array.toList_map,pI];rfl
   ·refine .inr λj Y N=>?_;exact absurd N.1 (by simp only;omega)
  ·simp only[VR];exact .inl ⟨_,bZ _ _ _,rfl⟩
 ·cases q
def HG{S:Call}(Q:o.op=.call S)(hT:TR ι s.T a.tmps)(hW:WR ι s.H s.nb w)(h:effK P (opd s.T) s.H f (.call S) c=some z):
  ∃e,c e=some z/\eh P ι f o a w e:=by
 obtain⟨R,args,D⟩:=S;simp only[effK]at h;split at h
 case h_2=>cases h
 rename_i b;obtain⟨l,hl,q⟩:=ah h;clear h;have g:=th hT hl;have L:(args.map a.eval).toList=args.toList.map a.eval:=by simp
 rw[<-L]at g;generalize hA:args.map a.eval=A at g;have v:∃U,∀w,((do let d <-resolve a.eval ⟨.builtin b,args,D⟩ o.type;invoke d.target d.args):Sem Next).run P w=(builtin b D o.type U A).run P w:=by
  refine⟨args.map fun | .const _=>true | _=>false,λw=>?_⟩;simp only[resolve,hA,al,av,ar,invoke];rfl
 obtain⟨U,v⟩:=v;have one:∀{X:Value},A.toList=[X]->A[0]?=some X:=by
  intro X p;have:A=#[X]:=by apply gQ;simpa using p
  simp[this]
 have E:∀{t:TypeId} {r:List TypeId},D.toList=t::r->D[0]?=some t:=by
  intro t r u;rw[<-mh,u];rfl
 have j:∀{n:Int} {rd:List Nat},b=.len->(∀w,(Builtin.len_ D o.type A).run P w=.ok (goInt n) w)->c { val:=some (.i .i64 n),rd:=rd }=some z->∃e,c e=some z/\eh P ι f o a w e:=by
  intro n rd N F hc;subst N;refine⟨_,hc,.val (x:=.int .i64 n) ?_ (by simp[VR])⟩;simp only[execOp,Q];rw[v w];simp only[builtin,al,F,ar,av,goInt]
 have C:∀{n:Int} {rd:List Nat},b=.cap->(∀w,(Builtin.cap_ D o.type A).run P w=.ok (goInt n) w)->c { val:=some (.i .i64 n),rd:=rd }=some z->∃e,c e=some z/\eh P ι f o a w e:=by
  intro n rd N F hc;subst N;refine⟨_,hc,.val (x:=.int .i64 n) ?_ (by simp[VR])⟩;simp only[execOp,Q];rw[v w];simp only[builtin,al,F,ar,av,goInt]
 split at q
 ·split at q
  ·rename_i sl;simp only[VRs,VR]at g;obtain⟨_,_,p,rfl,rfl⟩:=g;split at q
   ·rename_i t r u;split at q
    ·rename_i B;refine j rfl (λw=>?_) q;simp only[Builtin.len_,E u,one p,al,aJ B,ar,av];rfl
    ·cases q
   ·cases q
  ·rename_i O oo n cp;simp only[VRs,VR]at g;obtain⟨_,_,p,⟨r,cap,_,_,_,rfl⟩,rfl⟩:=g;split at q
   ·rename_i t r u;split at q
    ·rename_i B;refine j rfl (λw=>?_) q;simp only[Builtin.len_,E u,one p,al,aJ B,ar,av]
    ·cases q
   ·cases q
  ·simp only[VRs,VR]at g;obtain⟨_,_,p,rfl,rfl⟩:=g;split at q
   ·rename_i t r u;split at q
    ·rename_i B;refine j rfl (λw=>?_) q;simp only[Builtin.len_,E u,one p,al,aJ B,ar,av];rfl
    ·cases q
   ·cases q
  ·rename_i O;simp only[VRs,VR]at g;obtain⟨_,_,p,M,rfl⟩:=g;split at q
   ·rename_i t r u;split at q
    ·rename_i B;split at q
     ·rename_i tr l N;refine j (rd:=[O]) rfl (λw=>?_) q;rcases f9 hW N with⟨q,U,e',fr,I,q2,W,q5,q6,q7,_⟩ | ⟨I,rfl⟩
      ·rcases M with⟨q',G,rfl⟩ | ⟨G,_⟩
       ·rw[G]at I;cases I;simp only[Builtin.len_,E u,one p,al,aJ B,ar,av,W]
       ·rw[G]at I;cases I
      ·rcases M with⟨q,G,_⟩ | ⟨G,V,rfl⟩
       ·rw[G]at I;cases I
       ·simp only[Builtin.len_,E u,one p,al,aJ B,ar,av];rfl
     ·cases q
    ·cases q
   ·cases q
  ·rename_i Y O jj n _;simp only[VRs,VR]at g;obtain⟨_,_,p,M,rfl⟩:=g;split at q
   ·rename_i t r u;split at q
    ·rename_i B;refine j rfl (λw=>?_) q;rcases M with⟨q,cp,off,G,_,_,rfl⟩ | ⟨_,⟨rfl,_⟩,V,rfl⟩
     ·simp only[Builtin.len_,E u,one p,al,aJ B,ar,av]
     ·simp only[Builtin.len_,E u,one p,al,aJ B,ar,av]
    ·cases q
   ·cases q
  ·simp only[VRs]at g;obtain⟨X,_,p,_,rfl⟩:=g;split at q
   ·rename_i t r u;split at q
    ·rename_i B;refine j rfl (λw=>?_) q;simp only[Builtin.len_,E u,one p,al,aJ B,ar,av]
    ·cases q
   ·cases q
  ·cases q
 ·split at q
  ·rename_i Y O jj Z m;simp only[VRs,VR]at g;obtain⟨_,_,p,M,rfl⟩:=g;split at q
   ·rename_i t r u;split at q
    ·rename_i B;refine C rfl (λw=>?_) q;rcases M with⟨q,cp,off,G,⟨_,hc⟩,_,rfl⟩ | ⟨_,⟨_,hc⟩,V,rfl⟩
     ·have:=hc m rfl;subst this;simp only[Builtin.cap_,E u,one p,al,aJ B,ar,av]
     ·have:=hc m rfl;subst this;simp only[Builtin.cap_,E u,one p,al,aJ B,ar,av]
    ·cases q
   ·cases q
  ·rename_i O oo Z m;simp only[VRs,VR]at g;obtain⟨_,_,p,⟨qq,cp,G,hc,_,rfl⟩,rfl⟩:=g;split at q
   ·rename_i t r u;split at q
    ·rename_i B;refine C rfl (λw=>?_) q;have:=hc m rfl;subst this;simp only[Builtin.cap_,E u,one p,al,aJ B,ar,av]
    ·cases q
   ·cases q
  ·simp only[VRs,VR]at g;obtain⟨_,_,p,rfl,rfl⟩:=g;split at q
   ·rename_i t r u;split at q
    ·rename_i B;refine C rfl (λw=>?_) q;simp only[Builtin.cap_,E u,one p,al,aJ B,ar,av];rfl
    ·cases q
   ·cases q
  ·cases q
 ·split at q
  ·rename_i k x k' y;split at q
   ·rename_i K;have K:=io K;subst K;simp only[VRs,VR]at g;obtain⟨_,_,p,rfl,_,_,rfl,rfl,rfl⟩:=g;refine⟨_,q,.val (x:=.int k (cond (decide (y<x)) y x)) ?_ (by simp[VR])⟩;simp only[execOp,Q];rw[v w];simp only[builtin,al,Builtin.min_,p,List.foldlM,Builtin.min2,av,ar];by_cases J:y<x<;>simp[J]
   ·cases q
  ·cases q
 ·split at q
  ·rename_i k x k' y;split at q
   ·rename_i K;have K:=io K;subst K;simp only[VRs,VR]at g;obtain⟨_,_,p,rfl,_,_,rfl,rfl,rfl⟩:=g;refine⟨_,q,.val (x:=.int k (cond (decide (y>x)) y x)) ?_ (by simp[VR])⟩;simp only[execOp,Q];rw[v w];simp only[builtin,al,Builtin.max_,p,List.foldlM,Builtin.max2,av,ar];by_cases J:y>x<;>simp[J]
   ·cases q
  ·cases q
 ·cases q
def Lh{op:UnOp}{x:V}{X:Value}{c:V->Option α}(h:unK op x c=some z)(a:VR ι x X)(w:World):
  ∃v R,c v=some z/\VR ι v R/\(Op.unary op X).run P w=.ok R w:=by
 unfold unK at h;split at h
 ·simp only[VR]at a;subst a;exact⟨_,_,h,rfl,rfl⟩
 ·simp only[VR]at a;subst a;exact⟨_,_,h,rfl,rfl⟩
 ·cases h
def Io{x:Operand}{j:Bool}(n:o.op=.next x j)(C:TR ι s.T a.tmps)(E:WR ι s.H s.nb w)(h:effK P (opd s.T) s.H f (.next x j) c=some z):
  ∃e,c e=some z/\eh P ι f o a w e:=by
 simp only[effK]at h;split at h
 case h_2=>cases h
 rename_i b F;have m:=aP C F;simp only[VR]at m;obtain⟨r,q,p⟩:=m;split at h
 case h_2=>cases h
 rename_i l pos B;obtain⟨G,ob,t,v,y⟩:=(E.blk b _ B (by simp)).real (by simp);rw[q]at t;cases t;simp only[BR]at y;subst y;have k:(ByteArray.mk l.toArray).size=l.length:=rfl;have d:(getObj r.r).run P w=.ok (.stringIter ⟨l.toArray⟩ pos) w:=by simp[getObj,Sem.run,v]
 cases hc:Nat.blt pos l.length with
 | false=>
  rw[hc]at h;have D:¬pos<l.length:=λg=>by rw[show Nat.blt pos l.length=true from dA g]at hc;cases hc
  refine⟨_,h,.val (x:=.tuple #[.bool false]) ?_ (by simp[VR,VRs])⟩;simp only[execOp,n,p,Instr.next,al,d,ar,k,D,aD,av]
 | true=>
  rw[hc]at h;have g:pos<l.length:=az hc;refine⟨_,h,?_⟩;unfold eh;have i:∀ob,(Go.setObj r.r ob).run P w=.ok () (setObj w r.r ob):=by
   intro ob;simp[Go.setObj,Sem.run,v,setObj]
  refine⟨r,q,λ_=>⟨.stringIter ⟨l.toArray⟩ (pos+(dec l pos).2),.value (.tuple #[.bool true,.int .i64 pos,.int .i32 (dec l pos).1]),?_,rfl,.value _ λu A=>by cases A;simp[VR,VRs]⟩⟩;simp only[execOp,n,p,Instr.next,al,d,ar,k,g,be,i,av,dec,goInt]
def Ac{t:List Lf}(x:den t):∀n,(List.replicate n x).flatMap (vals t)=(List.replicate n (vals t x)).flatten
 | 0=>rfl
 | n+1=>by simp[pY,fO,Ac x n]
def qh{l:List Value}:∀n:Nat,(List.replicate n l).flatten.length=n*l.length
 | 0=>by simp
 | n+1=>by rw[pY,List.flatten_cons,cR,qh n,ea];omega
def DG{l:List Value}:∀(n j:Nat),j<n*l.length->(List.replicate n l).flatten[j]?=l[j%l.length]?
 | 0,j,h=>by simp at h
 | n+1,j,h=>by
  simp only[pY,List.flatten_cons];by_cases a:j<l.length
  ·rw[ka a,n7 a]
  ·rw[kf (by omega),DG n _ (by rw[ea]at h;omega),<-Nat.mod_eq_sub_mod (by omega)]
def wP{t:TypeId}{x y:Operand}(R:o.op=.makeSlice t x y)(M:TR ι s.T a.tmps)(h:effK P (opd s.T) s.H f (.makeSlice t x y) c=some z):
  ∃e,c e=some z/\eh P ι f o a w e:=by
 simp only[effK]at h;obtain⟨u,D,L⟩:=ah h;obtain⟨v,E,b⟩:=ah L;clear h L;have D:=aP M D;have E:=aP M E;split at b
 case h_2=>cases b
 rename_i e V;split at b
 case h_2=>cases b
 rename_i k1 n k2 m _ _;simp only[VR]at D E;obtain⟨zv,F,b⟩:=ah b;split at b
 case h_2=>cases b
 rename_i tr p _ l;split at b
 case h_2=>cases b
 rename_i K;simp only[aw,fP]at K;obtain⟨N,Z,Q,J⟩:=K;have Q:=az Q;have J:=az J;obtain⟨W,G,b⟩:=ah b;obtain⟨hc,b⟩:=bR b;simp only[aw,aT]at hc;obtain⟨X,S,c2⟩:=hc;obtain⟨zc,i,h1,h2,U,_⟩:=rF ι F;rw[l]at h1;cases h1;have g:=jV U;rw[rz G]at g;have g:=(jg ι tr W _).1 g;have r:p.size=P.cellsOf e:=by unfold Program.cellsOf;rw[l];rfl
 have hm:m=(m.toNat:Int):=by omega
 have A:=run_make (P:=P) w t e p zc V l h2 k1 k2 n m X S (by
  rw[hm,<-Bc];have:p.bytes*m.toNat<=1048576*67108864:=rX J (by omega);omega) (by omega)
 refine⟨_,b,.mkR (d:=w.drawn) (q:=(Rf.of w.heap.size (n.toNat) (m.toNat))) (x:=.slice (some ⟨w.heap.size,0,none⟩) n.toNat m.toNat) (ob:=.cells (madeCells zc.cells (m.toNat*p.size)) e) ?_ rfl rfl ?_ ?_⟩
 ·simp only[execOp,R,D,E,al,A,ar,av]
 ·have I:(madeCells zc.cells (m.toNat*p.size)).size=m.toNat*p.size:=size_madeCells _ _;refine⟨_,e,_,rfl,by simp,by simp only;omega,by rw[I,r,N];simp,?_,.inr (ol _)⟩;simp only[iE];rw[Ac,List.length_replicate,<-g];apply xY;intro j;have k:zc.cells.toList.length=tr.length:=by rw[g,gF]
  have B:zc.cells.size=tr.length:=by simpa using k
  have Y:n.toNat*tr.length<=m.toNat*tr.length:=kH _ (by omega);by_cases O:j<n.toNat*tr.length
  ·rw[mM O,DG n.toNat j (by rw[k];exact O),k];have C:j%tr.length<zc.cells.size:=by rw[B];exact mB _ (by omega)
   simp only[madeCells,r,<-N,B];rw[mh,Array.getElem?_map,Array.getElem?_range];simp[show j<m.toNat*tr.length by omega,C]
  ·rw[ec (by rw[dj];omega),ec (by rw[qh,k];omega)]
 ·simp only[VR];exact .inl ⟨_,bZ _ _ _,rfl⟩
def M5{op:BinOp}{t:TypeId}{x y:Operand}{u v:V}{r:Bool}{X Y:Value}(h:niK P op t x y u v=some r)(e:VR ι u X)(b:VR ι v Y)(w:World):
  (eqGuard op t x y X Y).run P w=.ok () w/\(binOp op t X Y).run P w=.ok (.bool r) w:=by
 unfold niK at h;split at h
 case h_2=>cases h
 simp only[VR]at e b;subst e b;split at h
 case h_2=>cases h
 rename_i hc;split at h
 case h_2=>cases h
 rename_i i f;have d:∀o:BinOp,o=.eql\/o=.neq->(eqGuard o t x y .nilIface .nilIface).run P w=.ok () w:=by
  intro o g;have a:(∃v,x=.const v)\/∃v,y=.const v:=by
   rw[fH]at hc;refine hc.imp (λh=>?_) (λh=>?_)
   ·cases x<;>simp_all[Bv]
   ·cases y<;>simp_all[Bv]
  rcases a with⟨v,rfl⟩ | ⟨v,rfl⟩<;>rcases g with rfl | rfl<;>simp[eqGuard]
 have c:(Op.equal t .nilIface .nilIface).run P w=.ok true w:=by rw[cS,Op.equalIn];simp[aJ f]
 split at h
 ·simp only[af]at h;subst h;exact⟨d _ (.inl rfl),by simp[binOp,c]⟩
 ·simp only[af]at h;subst h;exact⟨d _ (.inr rfl),by simp[binOp,c]⟩
 ·cases h
def iw{t e:TypeId}{g:TypeInfo}(f:P.underlying t=some (.slice e))(hi:P.info? e=some g){n cp:Nat}{a:Option Addr}{k k':IntKind}{h m:Int}{H M:Nat}(hm:bx n m=some M)(d:bx M h=some H)(i:n<=cp)(w:World):
  (Instr.sliceAt t (.slice a n cp) none (some (.int k h)) (some (.int k' m))).run P w=.ok (.slice a H M) w:=by
 obtain⟨m0,m1,rfl⟩:=iP hm;obtain⟨h0,h1,rfl⟩:=iP d;have c:=run_sliceBound (P:=P) w k' m cp .slice3Acap m0 (by omega);have b:=run_sliceBound (P:=P) w k h m.toNat .slice3B h0 h1;simp only[Instr.sliceAt,Instr.slice,al,aJ f,ar,Instr.sliceBounds,be,c,b,av,dN hi,s9,Nat.zero_mul];split
 ·rfl
 ·cases a with
  | none=>rfl
  | some q=>obtain⟨r,o,x⟩:=q;simp[Addr.add]
def CN{t:TypeId}{x U:Operand}{lo hi:Option Operand}(G:o.op=.slice t x lo hi (some U))(L:TR ι s.T a.tmps)(hW:WR ι s.H s.nb w)(h:effK P (opd s.T) s.H f (.slice t x lo hi (some U)) c=some z):
  ∃e,c e=some z/\eh P ι f o a w e:=by
 simp only[effK,pS]at h;split at h
 case h_2=>cases h
 rename_i hh;obtain⟨v,V,d⟩:=ah h;clear h;have A:=aP L V;clear V;split at d
 case h_2=>cases d
 rename_i k1 hi1 k2 m1 K N;have D:=aP L K;have E:=aP L N;simp only[VR]at D E;split at d
 case h_2=>cases d
 rename_i e I;split at d
 case h_2=>cases d
 rename_i W;obtain⟨ti,m⟩:=bn W;split at d
 ·rename_i b;split at d
  case h_2=>cases d
  rename_i tr l Y;split at d
  case h_2=>cases d
  obtain⟨M,u,F⟩:=ah d;obtain⟨H,p,B⟩:=ah F;obtain⟨m0,m2,Q⟩:=iP u;obtain⟨h0,h2,R⟩:=iP p;simp only[VR]at A;rcases f9 hW Y with⟨q,cs,e',fr,C,r2,Z,r5,_,_,_⟩ | ⟨C,rfl⟩
  ·rcases A with⟨q',g,y⟩ | ⟨g,_⟩
   ·rw[g]at C;cases C;refine⟨_,B,.val (x:=.slice (some ⟨q.r,q.o,none⟩) H M) ?_ ?_⟩
    ·simp only[execOp,G,y,D,E,al,en,dB];rw[<-Z,iw I m u p (by omega) w];rfl
    ·simp only[VR];exact .inl ⟨q,_,_,g,⟨by omega,nz⟩,λ_=>by omega,rfl⟩
   ·rw[g]at C;cases C
  ·rcases A with⟨q,g,y⟩ | ⟨g,J,y⟩
   ·rw[g]at C;cases C
   ·simp only[cP]at m2;have k:M=0:=by omega
    have i:H=0:=by omega
    subst k i;refine⟨_,B,.val (x:=.slice J 0 0) ?_ (by unfold VR;exact .inr ⟨g,⟨rfl,nz⟩,J,rfl⟩)⟩;simp only[execOp,G,y,D,E,al,en,dB];rw[iw I m (n:=0) (M:=0) u p (by omega) w];rfl
 ·rename_i zz b j n _;obtain⟨M,u,F⟩:=ah d;obtain⟨H,p,B⟩:=ah F;obtain⟨m0,m2,Q⟩:=iP u;obtain⟨h0,h2,R⟩:=iP p;simp only[VR]at A;rcases A with⟨q,cp,off,g,⟨O,_⟩,X,y⟩ | ⟨g,⟨O,_⟩,J,y⟩
  ·refine⟨_,B,.val (x:=.slice (some ⟨q.r,off,none⟩) H M) ?_ ?_⟩
   ·simp only[execOp,G,y,D,E,al,en,dB];rw[iw I m u p O w];rfl
   ·simp only[VR];exact .inl ⟨q,_,_,g,⟨by omega,nz⟩,λS=>X (by omega),rfl⟩
  ·subst O;have k:M=0:=by omega
   have i:H=0:=by omega
   subst k i;refine⟨_,B,.val (x:=.slice J 0 0) ?_ (by unfold VR;exact .inr ⟨g,⟨rfl,nz⟩,J,rfl⟩)⟩;simp only[execOp,G,y,D,E,al,en,dB];rw[iw I m (n:=0) (M:=0) u p (by omega) w];rfl
 ·obtain⟨M,u,F⟩:=ah d;obtain⟨H,p,B⟩:=ah F;obtain⟨m0,m2,Q⟩:=iP u;obtain⟨h0,h2,R⟩:=iP p;simp only[VR]at A;have k:M=0:=by omega
  have i:H=0:=by omega
  subst k i;refine⟨_,B,.val (x:=.slice none 0 0) ?_ (by simp only[VR])⟩;simp only[execOp,G,A,D,E,al,en,dB];rw[iw I m (n:=0) (M:=0) u p (by omega) w];rfl
 ·cases d
def LZ{op:BinOp}{t:TypeId}{u v:V}{r:Bool}{n:Nat}{rd:List Nat}{X Y:Value}{H:List (Nat×Blk)}{nb:Nat}(h:slN P op t u v=some r)(a:slL H u=some (n,rd))(D:0<n)(E:WR ι H nb w)(g:VR ι u X)(s:VR ι v Y)(p q:Operand):
  (eqGuard op t p q X Y).run P w=.ok () w/\(binOp op t X Y).run P w=.ok (.bool r) w:=by
 unfold slN at h;split at h
 case h_2=>cases h
 simp only[VR]at s;subst s;have d:∀(A:Addr) (n c:Nat),X=.slice (some A) n c->P.underlying t=(P.underlying t)->∀e,P.underlying t=some (.slice e)->
   ((eqGuard .eql t p q X (.slice none 0 0)).run P w=.ok () w/\(binOp .eql t X (.slice none 0 0)).run P w=.ok (.bool false) w)/\
   ((eqGuard .neq t p q X (.slice none 0 0)).run P w=.ok () w/\(binOp .neq t X (.slice none 0 0)).run P w=.ok (.bool (!false)) w):=by
  rintro A n c rfl _ e k;exact kT p q (.inl (by simp)) (.inl (by simp)) (by simp) (by rw[cS,Op.equalIn];simp[aJ k])
 have b:∀(A:Addr) (n c:Nat),X=.slice (some A) n c->slT P op t=some r->(eqGuard op t p q X (.slice none 0 0)).run P w=.ok () w/\(binOp op t X (.slice none 0 0)).run P w=.ok (.bool r) w:=by
  intro A n c C h;unfold slT at h;split at h
  case h_2=>cases h
  rename_i e k;obtain⟨m1,m2⟩:=d A n c C rfl e k;split at h
  ·simp only[af]at h;subst h;exact m1
  ·simp only[af]at h;subst h;exact m2
  ·cases h
 split at h
 ·rename_i c;simp only[slL]at a;split at a
  case h_2=>cases a
  rename_i tr l y;simp only[af,ca]at a;obtain⟨rfl,_⟩:=a;simp only[VR]at g;rcases f9 E y with⟨G,K,F,fr,o,I,M,_⟩ | ⟨o,rfl⟩
  ·rcases g with⟨B,f,i⟩ | ⟨f,_⟩
   ·exact b _ _ _ i h
   ·rw[f]at o;cases o
  ·simp at D
 ·rename_i z c j m L;simp only[slL,af,ca]at a;obtain⟨rfl,_⟩:=a;simp only[VR]at g;rcases g with⟨B,J,N,f,i,O,x⟩ | ⟨f,⟨i,_⟩,_⟩
  ·exact b _ _ _ x h
  ·omega
 ·cases h
def yH{t:TypeId}{x:Option Operand}(b:o.op=.makeMap t x)(h:effK P (opd s.T) s.H f (.makeMap t x) c=some z):∃e,c e=some z/\eh P ι f o a w e:=by
 simp only[effK]at h;split at h
 case h_2=>cases h
 split at h
 case h_2=>cases h
 refine⟨_,h,.mk (x:=.map (some w.heap.size)) (ob:=.map #[] 0) ?_ ⟨#[],0,rfl,rfl⟩ (by simp only[VR];exact⟨_,bZ _ _ _,rfl⟩)⟩;simp only[execOp,b,en,al];rfl
def IZ{H:List (Nat×Blk)}{nb b:Nat}{w:World}(f:WR ι H nb w){k:IntKind}{l:List (Int×Nat)}(d:look H b=some (.mp k l)):
  ∃q c a,ι b=some (some q)/\w.heap[q.r]?=some (.map c a)/\c.toList.map (λe=>(e.key,e.val))=l.map λp=>(Value.int k p.1,fnV p.2 #[]):=by
 obtain⟨q,o,h1,h2,c,a,rfl,g⟩:=(f.blk b _ d (by simp)).real (by simp);exact⟨q,c,a,h1,h2,g⟩
def FP{α:Type}{k:IntKind}{n:Int}{c:Nat->Option α}{z:α}:∀(d:List MapEntry) (l:List (Int×Nat)) (i:Nat),d.map (λe=>(e.key,e.val))=l.map (λp=>(Value.int k p.1,fnV p.2 #[]))->mapK l n c=some z->
  ∃g j,c g=some z/\Instr.findNow (.int k) (.int k n) d i=some (some (j,fnV g #[]))
 | [],[],_,_,h=>by cases h
 | [],_::_,_,a,_=>by simp at a
 | _::_,[],_,a,_=>by simp at a
 | e::d,(m,g)::l,i,a,h=>by
  simp only[cU,List.cons.injEq,ca]at a;obtain⟨⟨h1,h2⟩,r⟩:=a;simp only[mapK]at h;cases b:(n==m)with
  | true=>
   rw[b]at h;exact⟨g,i,h,by simp only[Instr.findNow,h1,Instr.sameNow,be,b,h2]⟩
  | false=>
   rw[b]at h;obtain⟨f,j,q,o⟩:=FP d l (i+1) r h;exact⟨f,j,q,by simp only[Instr.findNow,h1,Instr.sameNow,be,b];exact o⟩
def Cm{t:TypeId}{m x:Operand}{ok:Bool}(D:o.op=.lookup t m x ok)(p:TR ι s.T a.tmps)(L:WR ι s.H s.nb w)(h:effK P (opd s.T) s.H f (.lookup t m x ok) c=some z):
  ∃e,c e=some z/\eh P ι f o a w e:=by
 simp only[effK]at h;split at h
 case h_2=>cases h
 rename_i b hm;split at h
 case h_2=>cases h
 rename_i k n M;split at h
 case h_2=>cases h
 rename_i N Q I;split at h
 case h_2=>cases h
 rename_i k2 u;split at h
 case h_2=>cases h
 rename_i k1 l B;split at h
 case h_2=>cases h
 rename_i d;simp only[aw]at d;have E:=io d.1;have A:=io d.2;subst E A;have y:=aP p hm;have v:=aP p M;simp only[VR]at y v;obtain⟨q,h1,h2⟩:=y;obtain⟨O,C,i,r,G,J⟩:=IZ L B;rw[h1]at r;cases r;obtain⟨g,j,F,K⟩:=FP C.toList l 0 J h;refine⟨_,F,.val (x:=fnV g #[]) ?_ (by simp only[VR];exact⟨#[],rfl,by simp[VRs]⟩)⟩;simp only[execOp,D,h2,v,al,Instr.lookup,aJ I,ar,MapKept.run_getObj_map G,av,
  MapKept.run_checkKey (k:=.int k2 n) u (by simp[MapKept.IsKey]),MapKept.run_findKey u K]
 rfl
def CJ{t:TypeId}{m x y:Operand}(X:o.op=.insert t m x y)(G:TR ι s.T a.tmps)(hW:WR ι s.H s.nb w)(h:effK P (opd s.T) s.H f (.insert t m x y) c=some z):
  ∃e,c e=some z/\eh P ι f o a w e:=by
 simp only[effK]at h;split at h
 case h_2=>cases h
 rename_i b hm;split at h
 case h_2=>cases h
 rename_i k n g hx hy;split at h
 case h_2=>cases h
 rename_i kt et hd;split at h
 case h_2=>cases h
 rename_i k2 M;split at h
 case h_2=>cases h
 rename_i k1 l W;split at h
 case h_2=>cases h
 rename_i C;simp only[aw]at C;obtain⟨J,I,B⟩:=C;have Z:=io J;have U:=io I;subst Z U;have R:=aP G hm;have N:=aP G hx;have K:=aP G hy;simp only[VR]at R N K;obtain⟨q,h1,h2⟩:=R;obtain⟨Y,V,S⟩:=K;simp only[VRs]at S;have F:Y=#[]:=by
  apply gQ;simpa using S
 subst F;obtain⟨q',E,d,L,O,Q⟩:=IZ hW W;rw[h1]at L;cases L;have D:∀e∈E.toList,∃p∈l,e.key=.int k2 p.1:=by
  intro e u;have:(e.key,e.val)∈l.map λp=>(Value.int k2 p.1,fnV p.2 #[]):=by rw[<-Q];exact ch.2 ⟨e,u,rfl⟩
  obtain⟨p,A,i⟩:=ch.1 this;simp only[ca]at i;exact⟨p,A,i.1.symm⟩
 have r:MapKept.IsKey (.int k2) (.int k2 n):=by simp[MapKept.IsKey]
 have v:Instr.findNow (.int k2) (.int k2 n) E.toList 0=some none:=by
  rcases MapKept.findNow_spec r E.toList 0 (λe u=>by obtain⟨p,_,A⟩:=D e u;rw[A];simp[MapKept.IsKey])with⟨h,_⟩ | ⟨j,e,_,hj,u⟩
  ·exact h
  ·exfalso;obtain⟨p,A,i⟩:=D e (dK hj);rw[i]at u;have:=(ct.1 B) p A;simp only[Value.int.injEq,lW]at u;simp[u]at this
 refine⟨_,h,?_⟩;unfold eh;refine⟨q,h1,λ_=>⟨.map (E.push { key:=.int k2 n,val:=fnV g #[],born:=d }) (d+1),.skip,?_,⟨_,_,rfl,?_⟩,.skip rfl⟩⟩
 ·simp only[execOp,X,h2,N,V,al,Instr.mapUpdate,aJ hd,ar,MapKept.run_getObj_map O,MapKept.run_checkKey (k:=.int k2 n) M r,MapKept.run_findKey M v,MapKept.run_setObj_map _ O,av];rfl
 ·rw[Array.toList_push,List.map_append,List.map_append,Q];rfl
def Ec(k:TR ι s.T a.tmps)(D:WR ι s.H s.nb w)(Z:ι f=none)(h:effK P (opd s.T) s.H f o.op c=some z):∃e,c e=some z/\eh P ι f o a w e:=by
 cases j:o.op with
 | move x=>
  rw[j]at h;simp only[effK]at h;obtain⟨v,p,h⟩:=ah h;exact⟨_,h,.val (by simp only[execOp,j,av]) (aP k p)⟩
 | assign x=>
  rw[j]at h;simp only[effK]at h;obtain⟨v,p,h⟩:=ah h;exact⟨_,h,.val (by simp only[execOp,j,av]) (aP k p)⟩
 | pick q x y=>
  rw[j]at h;simp only[effK]at h;split at h
  ·rename_i t N;have p:=aP k N;simp only[VR]at p;cases t
   ·simp only[ae]at h;obtain⟨v,A,h⟩:=ah h;exact⟨_,h,.val (x:=a.eval y) (by simp[execOp,j,p,asBool]) (aP k A)⟩
   ·simp only[aj]at h;obtain⟨v,A,h⟩:=ah h;exact⟨_,h,.val (x:=a.eval x) (by simp[execOp,j,p,asBool]) (aP k A)⟩
  ·cases h
 | alloc t=>rw[j]at h;exact F7 j h
 | makeMap t x=>rw[j]at h;exact yH j h
 | insert t m x y=>rw[j]at h;exact CJ j k D h
 | lookup t m x ok=>rw[j]at h;exact Cm j k D h
 | box t x=>rw[j]at h;exact Kw j k Z h
 | build t ps=>rw[j]at h;exact Ey j k h
 | buildSlice t n ps=>rw[j]at h;exact uq j k Z h
 | load t x=>rw[j]at h;exact GW j k D h
 | makeSlice t x y=>rw[j]at h;exact wP j k h
 | store t x y=>rw[j]at h;exact D9 j k D h
 | nilCheck x=>
  rw[j]at h;simp only[effK]at h;split at h
  ·rename_i b off B;have p:=aP k B;have A:=p;simp only[VR]at p;obtain⟨r,h5,C⟩:=p;exact⟨_,h,.val (x:=a.eval x) (by simp[execOp,j,C]) A⟩
  ·rename_i zz b jj off B;have p:=aP k B;have A:=p;simp only[VR]at p;obtain⟨r,h5,C⟩:=p;exact⟨_,h,.val (x:=a.eval x) (by simp[execOp,j,C]) A⟩
  ·rename_i g l B;have p:=aP k B;have A:=p;simp only[VR]at p;obtain⟨W,C,_⟩:=p;obtain⟨g',b',c',h7⟩:=uW g W;exact⟨_,h,.val (x:=a.eval x) (by simp[execOp,j,C,h7]) A⟩
  ·rename_i b off n m B;have p:=aP k B;have A:=p;simp only[VR]at p;obtain⟨r,cp,_,_,_,C⟩:=p;exact⟨_,h,.val (x:=a.eval x) (by simp[execOp,j,C]) A⟩
  ·rename_i t v B;have p:=aP k B;have A:=p;simp only[VR]at p;obtain⟨y,C,_⟩:=p;exact⟨_,h,.val (x:=a.eval x) (by simp[execOp,j,C]) A⟩
  ·cases h
 | binOp op t x y yt=>
  rw[j]at h;simp only[effK]at h;obtain⟨u,I,h⟩:=ah h;obtain⟨v,p,h⟩:=ah h;split at h
  ·rename_i r U;have B:=aP k I;have L:=aP k p;obtain⟨K,O⟩:=M5 U B L w;exact⟨_,h,.val (x:=.bool r) (by simp only[execOp,j,al,K,O,ar,av]) (by simp[VR])⟩
  split at h
  ·rename_i r U;split at h
   case h_2=>cases h
   rename_i m rd G;obtain⟨hm,h⟩:=bR h;obtain⟨K,O⟩:=LZ U G (az hm) D (aP k I) (aP k p) x y;exact⟨_,h,.val (x:=.bool r) (by simp only[execOp,j,al,K,O,ar,av]) (by simp[VR])⟩
  obtain⟨R,X,h1,h2,K,O⟩:=KU h (aP k I) (aP k p) x y w;exact⟨_,h1,.val (x:=X) (by simp only[execOp,j,al,K,O,ar,av]) h2⟩
 | unOp op t x=>
  rw[j]at h;simp only[effK]at h;obtain⟨u,I,h⟩:=ah h;obtain⟨R,X,h1,h2,K⟩:=Lh (P:=P) h (aP k I) w;exact⟨_,h1,.val (x:=X) (by simp only[execOp,j,al,K,ar,av]) h2⟩
 | convert sr d x=>rw[j]at h;exact yT j k D h
 | next x str=>rw[j]at h;exact Io j k D h
 | makeInterface t x=>
  rw[j]at h;simp only[effK]at h;obtain⟨u,I,h⟩:=ah h;have p:=aP k I;split at h
  ·cases h
  ·rename_i d Q S;refine⟨_,h,.val (x:=.iface t (a.eval x)) ?_ (by simp only[VR];exact⟨_,rfl,p⟩)⟩;simp only[execOp,j,Instr.makeInterface,al,aJ S,ar];cases d<;>first | rfl | exact absurd rfl (Q _)
  ·cases h
 | makeFunc fn first cap=>
  rw[j]at h;simp only[effK]at h;split at h
  ·rename_i g F;split at h
   case h_2=>cases h
   rename_i hb;obtain⟨l,G,h⟩:=ah h;have J:=th k G;have E:first=#[]:=by apply gQ;simpa using F
   refine⟨_,h,.val (x:=.func (.func g) #[] (cap.map a.eval)) ?_ (by simp only[VR];exact⟨_,(y3 hb _).symm,by simpa using J⟩)⟩;simp only[execOp,j,Instr.makeFunc,E,AP,al,av,ar]
  ·rename_i g _ _ F;split at h
   ·rename_i M;obtain⟨l,G,h⟩:=ah h;have J:=th k G;have hcap':cap=#[]:=by apply gQ;simpa using M
    refine⟨_,h,.val (x:=.func (.func g) (first.map a.eval) #[]) ?_ (by simp only[VR];exact⟨_,(HJ g _).symm,by simpa using J⟩)⟩;simp only[execOp,j,Instr.makeFunc,hcap',AP,al,av,ar]
   ·cases h
  ·cases h
 | slice t x lo hi mx=>
  rw[j]at h;cases mx with
  | none=>exact D4 j k D h
  | some m=>exact CN j k D h
 | fieldAddr t x i=>rw[j]at h;exact wR j k h
 | field t x i=>rw[j]at h;exact CX j k h
 | indexAddr t x i=>rw[j]at h;exact vM j k D h
 | index t x i=>rw[j]at h;exact C4 j k h
 | range t x=>rw[j]at h;exact FK j k h
 | extract x i=>
  rw[j]at h;simp only[effK]at h;split at h
  ·rename_i l B;obtain⟨v,p,h⟩:=ah h;have G:=aP k B;simp only[VR]at G;obtain⟨W,C,V⟩:=G;obtain⟨y,L,Y⟩:=V.get p;have hy':W[i]?=some y:=by simpa using L
   exact⟨_,h,.val (x:=y) (by simp[execOp,j,C,Instr.extract,hy']) Y⟩
  ·cases h
 | typeAssert x xt at_ ok=>
  rw[j]at h;simp only[effK]at h;split at h
  case h_2=>cases h
  rename_i t v B;have p:=aP k B;simp only[VR]at p;obtain⟨y,C,L⟩:=p;split at h
  ·cases h
  ·rename_i d Q S;split at h
   case h_2=>cases h
   rename_i N;have N:=aS N;subst N;cases ok with
   | true=>
    refine⟨_,h,.val (x:=.tuple #[y,.bool true]) ?_ (by simp only[VR,VRs];exact⟨_,rfl,y,[.bool true],rfl,L,_,[],rfl,rfl,rfl⟩)⟩;simp only[execOp,j,C,Instr.typeAssert,al,aJ S,ar];cases d<;>first | simp | exact absurd rfl (Q _)
   | false=>
    refine⟨_,h,.val (x:=y) ?_ L⟩;simp only[execOp,j,C,Instr.typeAssert,al,aJ S,ar];cases d<;>first | simp | exact absurd rfl (Q _)
  ·cases h
 | call cl=>rw[j]at h;exact HG j k D h
 | _=>rw[j]at h;simp[effK]at h
end ops
end Go.Abs
