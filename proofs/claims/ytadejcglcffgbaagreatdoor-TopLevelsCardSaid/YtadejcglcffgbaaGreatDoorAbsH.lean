
import Derived.Test.YtadejcglcffgbaaGreatDoorAbsG
import Derived.Laws.BytesArg
import Derived.Laws.BytesString
import Derived.Lib.ConvBytes
import Derived.Laws.MakeOwn
import Derived.Deep.AppendSrc
import Derived.MapKept
set_option linter.unusedSimpArgs false
set_option linter.unusedVariables false
set_option linter.defProp false
namespace Go.Abs
variable {P:Program}
section ops
variable {α:Type} {ι:Inj} {s:St} {a:Act} {w:World} {f:Nat} {o:Oper} {c:Eff->Option α} {z:α}
def yG{t:TypeId}{a:Array Field}{fd:Field}{i:Nat}{c:TypeInfo}(b:P.underlying t=some (.struct a))(d:a[i]?=some fd)(hi:P.info? fd.type=some c)
  (hp:0<P.cellsOf fd.type) (r off:Nat) (w:World):(Instr.fieldAt t (.pointer (some ⟨r,off,none⟩)) i).run P w=.ok (.pointer (some ⟨r,off+fd.offset,none⟩)) w:=by
 simp only[Instr.fieldAt,az,be b,aA,d,Instr.sureAddr,aD,fieldPlace,gk hi,show¬(P.cellsOf fd.type=0)by omega,aF,nJ]
def AQ{t:TypeId}{x:Operand}{i:Nat}(q:o.op=.fieldAddr t x i)(v:TR ι s.T a.tmps)(h:effK P (opd s.T) s.H f (.fieldAddr t x i) c=some z):
  ∃e,c e=some z/\gR P ι f o a w e:=by
 simp only[effK]at h;split at h
 ·rename_i b off hx;split at h
  ·rename_i y l;split at h
   ·rename_i fd n;split at h
    ·rename_i hp;obtain⟨A,g⟩:=cg hp;have k:=bz v hx;simp only[VR]at k;obtain⟨r,p,m⟩:=k;have d:=yG l (by simpa using n) g (aI hp) r.r off w;exact⟨_,h,.val (x:=.pointer (some ⟨r.r,off+fd.offset,none⟩)) (by simp only[execOp,q,m,az,d,aA,aD]) (by simp only[VR,qh];exact⟨r,p,rfl⟩)⟩
    ·cases h
   ·cases h
  ·cases h
 ·rename_i u b j off hx;split at h
  ·rename_i y l;split at h
   ·rename_i fd n;split at h
    ·rename_i hp;obtain⟨A,g⟩:=cg hp;have k:=bz v hx;simp only[VR]at k;obtain⟨r,p,m⟩:=k;have d:=yG l (by simpa using n) g (aI hp) r.r (r.o+(j*u+off)) w;exact⟨_,h,.val (x:=.pointer (some ⟨r.r,r.o+(j*u+off)+fd.offset,none⟩)) (by simp only[execOp,q,m,az,d,aA,aD]) (by simp only[VR,qh];exact⟨r,p,by rw[ig,ig]⟩)⟩
    ·cases h
   ·cases h
  ·cases h
 ·cases h
def NA{t:TypeId}{x:Operand}{i:Nat}(r:o.op=.field t x i)(D:TR ι s.T a.tmps)(h:effK P (opd s.T) s.H f (.field t x i) c=some z):
  ∃e,c e=some z/\gR P ι f o a w e:=by
 simp only[effK]at h;split at h
 ·rename_i l hx;have q:=bz D hx;simp only[VR]at q;obtain⟨u,p,j⟩:=q;split at h
  ·rename_i A n;split at h
   ·rename_i fd B;have hf':A[i]?=some fd:=by simpa using B
    split at h
    ·rename_i b;split at h
     ·have E:∃d,P.underlying fd.type=some d:=by
       unfold bY at b;split at b
       ·exact⟨_,by assumption⟩
       ·exact⟨_,by assumption⟩
       ·cases b
      obtain⟨d',g⟩:=E;obtain⟨F,k⟩:=nr g;refine⟨_,h,.val (x:=.agg (u.extract fd.offset (fd.offset+P.cellsOf fd.type))) ?_ (qp (j.extract _ _))⟩;simp only[execOp,r,p,Instr.field,az,be n,aA,hf',asAgg,aD,part,kC g,b,aN,gk k]
     ·cases h
    ·rename_i b;split at h
     ·rename_i d' g;obtain⟨v,C,h⟩:=ax h;obtain⟨y,hy,m⟩:=j.get C;have hy':u[fd.offset]?=some y:=by simpa using hy
      refine⟨_,h,.val (x:=y) ?_ m⟩;simp only[execOp,r,p,Instr.field,az,be n,aA,hf',asAgg,aD,part,kC g,b,bQ,aF,hy']
     ·cases h
   ·cases h
  ·cases h
 ·cases h
def pE{t e:TypeId}{m:Nat}{c:TypeInfo}(b:P.underlying t=some (.array m e))(hi:P.info? e=some c)(k:IntKind){n:Int}(d:0<=n)(a:n<m)(r off:Nat)(w:World):
  (Instr.indexAt t (.pointer (some ⟨r,off,none⟩)) (.int k n)).run P w=.ok (.pointer (some ⟨r,off+n.toNat*P.cellsOf e,none⟩)) w:=by
 simp only[Instr.indexAt,asIntOf,az,aD,aA,be b,Instr.sureAddr,d,a,and_self,aN,gk hi,nJ]
def lO{t e:TypeId}{m cp:Nat}{c:TypeInfo}(b:P.underlying t=some (.slice e))(hi:P.info? e=some c)(k:IntKind){n:Int}(d:0<=n)(a:n<m)(r off:Nat)(w:World):
  (Instr.indexAt t (.slice (some ⟨r,off,none⟩) m cp) (.int k n)).run P w=.ok (.pointer (some ⟨r,off+n.toNat*P.cellsOf e,none⟩)) w:=by
 simp only[Instr.indexAt,asIntOf,az,aD,aA,be b,d,a,and_self,aN,gk hi,nJ]
def CB{t:TypeId}{x i:Operand}(G:o.op=.indexAddr t x i)(E:TR ι s.T a.tmps)(O:WR ι s.H s.nb w)(h:effK P (opd s.T) s.H f (.indexAddr t x i) c=some z):
  ∃e,c e=some z/\gR P ι f o a w e:=by
 simp only[effK]at h;split at h
 case h_2=>cases h
 rename_i k n hi;have u:=bz E hi;simp only[VR]at u;split at h
 ·rename_i m e D;split at h
  ·rename_i b off hx;have p:=bz E hx;simp only[VR]at p;obtain⟨r,v,B⟩:=p;split at h
   ·rename_i hp;obtain⟨I,g⟩:=cg hp;obtain⟨j,C,h⟩:=ax h;obtain⟨g0,A,rfl⟩:=oZ C;have d:=pE D g k g0 A r.r off w;exact⟨_,h,.val (x:=.pointer (some ⟨r.r,off+n.toNat*P.cellsOf e,none⟩)) (by simp only[execOp,G,B,u,az,d,aA,aD]) (by simp only[VR,qh,y6];exact⟨r,v,rfl⟩)⟩
   ·cases h
  ·rename_i J b K off hx;have p:=bz E hx;simp only[VR]at p;obtain⟨r,v,B⟩:=p;split at h
   ·rename_i hp;obtain⟨I,g⟩:=cg hp;obtain⟨j,C,h⟩:=ax h;obtain⟨g0,A,rfl⟩:=oZ C;have d:=pE D g k g0 A r.r (r.o+(K*J+off)) w;exact⟨_,h,.val (x:=.pointer (some ⟨r.r,r.o+(K*J+off)+n.toNat*P.cellsOf e,none⟩)) (by simp only[execOp,G,B,u,az,d,aA,aD]) (by simp only[VR,qh,y6];exact⟨r,v,by rw[ig,ig]⟩)⟩
   ·cases h
  ·cases h
 ·rename_i e D;split at h
  ·rename_i b off m cp hx;have p:=bz E hx;simp only[VR]at p;obtain⟨r,cap,v,_,_,B⟩:=p;split at h
   ·rename_i hp;obtain⟨I,g⟩:=cg hp;obtain⟨j,C,h⟩:=ax h;obtain⟨g0,A,rfl⟩:=oZ C;have d:=lO (cp:=cap) D g k g0 A r.r off w;exact⟨_,h,.val (x:=.pointer (some ⟨r.r,off+n.toNat*P.cellsOf e,none⟩)) (by simp only[execOp,G,B,u,az,d,aA,aD]) (by simp only[VR,qh,y6];exact⟨r,v,rfl⟩)⟩
   ·cases h
  ·rename_i b hx;have p:=bz E hx;simp only[VR]at p;split at h
   case h_2=>cases h
   rename_i tr l L;split at h
   case h_2=>cases h
   rename_i hp;simp only[aB,js]at hp;obtain⟨M,hp⟩:=hp;obtain⟨I,g⟩:=cg hp;obtain⟨j,C,h⟩:=ax h;obtain⟨g0,A,rfl⟩:=oZ C;rcases jJ O L with⟨q,W,X,fr,F,R,N,U,Z,Y,V⟩ | ⟨F,rfl⟩
   ·rcases p with⟨S,v,B⟩ | ⟨v,_⟩
    ·rw[v]at F;cases F;have g1':n<(q.n:Int):=by rw[<-N];exact A
     have d:=lO (cp:=q.k) D g k g0 g1' q.r q.o w;exact⟨_,h,.val (x:=.pointer (some ⟨q.r,q.o+n.toNat*P.cellsOf e,none⟩)) (by simp only[execOp,G,B,u,az,d,aA,aD]) (by simp only[VR];exact⟨q,v,by rw[dK]⟩)⟩
    ·rw[v]at F;cases F
   ·simp at A;omega
  ·rename_i J b Q m _ hx;have p:=bz E hx;simp only[VR]at p;split at h
   case h_2=>cases h
   rename_i hp;simp only[aB,js]at hp;obtain⟨rfl,hp⟩:=hp;obtain⟨I,g⟩:=cg hp;obtain⟨j,C,h⟩:=ax h;obtain⟨g0,A,rfl⟩:=oZ C;rcases p with⟨q,cp,off,v,_,y,B⟩ | ⟨_,⟨rfl,_⟩,_⟩
   ·have d:=lO (cp:=cp) D g k g0 A q.r off w;have y:=y (by omega);exact⟨_,h,.val (x:=.pointer (some ⟨q.r,off+n.toNat*P.cellsOf e,none⟩)) (by simp only[execOp,G,B,u,az,d,aA,aD]) (by simp only[VR,qh];exact⟨q,v,by rw[y,ia,dK,ig]⟩)⟩
   ·omega
  ·cases h
 ·cases h
def jl{t e:TypeId}{m:Nat}{f:TypeInfo}(b:P.underlying t=some (.array m e))(hi:P.info? e=some f)(k:IntKind){n:Int}(d:0<=n)(c:n<m)(a:Array Value)(w:World):
  (Instr.index t (.agg a) (.int k n)).run P w=(part e a (n.toNat*P.cellsOf e)).run P w:=by
 simp only[Instr.index,asIntOf,az,aD,aA,be b,d,c,and_self,aN,gk hi]
def qY{t:TypeId}{d:TypeDesc}(c:P.underlying t=some d)(b:bY P t=false){a:Array Value}{off:Nat}{x:Value}(hx:a[off]?=some x)(w:World):
  (part t a off).run P w=.ok x w:=by
 simp only[part,az,kC c,b,aA,bQ,aF,hx,aD]
def vA{t:TypeId}{d:TypeDesc}(a:P.underlying t=some d)(c:bY P t=true)(b:Array Value)(off:Nat)(w:World):
  (part t b off).run P w=.ok (.agg (b.extract off (off+P.cellsOf t))) w:=by
 obtain⟨i,hi⟩:=nr a;simp only[part,az,kC a,c,aA,aN,gk hi,aD]
def vR{t:TypeId}(e:P.underlying t=some .string){l:aa}{n:Int}{b:UInt8}(h:sx l n=some b)(k:IntKind)(w:World):
  (Instr.index t (.string ⟨l.toArray⟩) (.int k n)).run P w=.ok (.int .u8 b.toNat) w:=by
 unfold sx at h;split at h
 ·rename_i f;have d:(ByteArray.mk l.toArray)[n.toNat]?=some b:=by
   have a:n.toNat<l.length:=by
    rcases aJ n.toNat l.length with c | c
    ·exact c
    ·rw[f7 c]at h;cases h
   have hs:n.toNat<(ByteArray.mk l.toArray).size:=a;rw[getElem?_pos (ByteArray.mk l.toArray) n.toNat hs];rw[bu a]at h;simp only[aq]at h ⊢;exact h
  simp only[Instr.index,asIntOf,az,aD,aA,be e,f,aN,d]
 ·cases h
def MZ{t:TypeId}{x i:Operand}(F:o.op=.index t x i)(G:TR ι s.T a.tmps)(h:effK P (opd s.T) s.H f (.index t x i) c=some z):
  ∃e,c e=some z/\gR P ι f o a w e:=by
 simp only[effK]at h;split at h
 case h_2=>cases h
 rename_i k n hi;have d:=bz G hi;simp only[VR]at d;split at h
 ·rename_i m e C;split at h
  ·cases h
  rename_i hp;obtain⟨Q,r⟩:=cg hp;split at h
  ·rename_i k' m' l hx;have g:=bz G hx;simp only[VR]at g;obtain⟨U,E⟩:=g;split at h
   ·rename_i k2 p;split at h
    ·rename_i q;have q:=bB q;obtain⟨j,B,h⟩:=ax h;obtain⟨g0,u,rfl⟩:=oZ B;obtain⟨v,g,h⟩:=ax h;refine⟨_,h,.val (x:=.int k' v) ?_ (by simp[VR])⟩;simp only[execOp,F,E,d,az,jl C r k g0 u];rw[qY p (by simp[bY,p]) (x:=.int k' v) (by simp[q,g])];rfl
    ·cases h
   ·cases h
  ·rename_i l hx;have g:=bz G hx;simp only[VR]at g;obtain⟨J,E,A⟩:=g;split at h
   ·rename_i N p;obtain⟨j,B,h⟩:=ax h;obtain⟨g0,u,rfl⟩:=oZ B;refine⟨_,h,.val (x:=.agg (J.extract (n.toNat*P.cellsOf e) (n.toNat*P.cellsOf e+P.cellsOf e))) ?_ (qp (A.extract _ _))⟩;simp only[execOp,F,E,d,az,jl C r k g0 u,vA p (by simp[bY,p]),aA,aD]
   ·rename_i m2 R p;obtain⟨j,B,h⟩:=ax h;obtain⟨g0,u,rfl⟩:=oZ B;refine⟨_,h,.val (x:=.agg (J.extract (n.toNat*P.cellsOf e) (n.toNat*P.cellsOf e+P.cellsOf e))) ?_ (qp (A.extract _ _))⟩;simp only[execOp,F,E,d,az,jl C r k g0 u,vA p (by simp[bY,p]),aA,aD]
   ·rename_i p;split at h
    ·rename_i q;have q:=bB q;split at h
     ·rename_i L I;obtain⟨j,B,h⟩:=ax h;obtain⟨g0,u,rfl⟩:=oZ B;obtain⟨v,g,h⟩:=ax h;obtain⟨y,hy,D⟩:=A.get (j:=n.toNat) (v:=.s v) (by rw[ul I];simp[g]);refine⟨_,h,.val (x:=y) ?_ D⟩;simp only[execOp,F,E,d,az,jl C r k g0 u];rw[qY p (by simp[bY,p]) (x:=y) (by simpa[q]using hy)];rfl
     ·cases h
    ·cases h
   ·rename_i d' O S M p;split at h
    ·rename_i q;have q:=bB q;obtain⟨j,B,h⟩:=ax h;obtain⟨g0,u,rfl⟩:=oZ B;obtain⟨v,g,h⟩:=ax h;obtain⟨y,hy,D⟩:=A.get g;refine⟨_,h,.val (x:=y) ?_ D⟩;simp only[execOp,F,E,d,az,jl C r k g0 u];rw[qY p (by simp only[bY,p];cases d'<;>simp_all) (x:=y) (by simpa[q]using hy)];rfl
    ·cases h
   ·cases h
  ·cases h
 ·rename_i C;split at h
  ·rename_i l hx;have g:=bz G hx;simp only[VR]at g;obtain⟨b,K,h⟩:=ax h;refine⟨_,h,.val (x:=.int .u8 b.toNat) ?_ (by simp[VR])⟩;simp only[execOp,F,g,d,az,vR C K,aA,aD]
  ·cases h
 ·cases h
def Bi{t:TypeId}(a:P.underlying t=some .string){l:aa}{lo hi:Option Value}{L H:Nat}{w:World}
  (b:(Instr.sliceBounds false l.length l.length lo hi none).run P w=.ok (L,H,l.length) w):
  (Instr.sliceAt t (.string ⟨l.toArray⟩) lo hi none).run P w=.ok (.string ⟨((l.take H).drop L).toArray⟩) w:=by
 rw[run_sliceAt_string w t _ _ _ _ a];have hs:(ByteArray.mk l.toArray).size=l.length:=rfl;simp only[Instr.slice,az,be a,aA,wK,bQ,aF,hs,b,aD];congr 2;apply M4;rw[ByteArray.data_extract];apply lq;simp[List.extract,zG]
def AM{t e:TypeId}{n:Nat}{d:TypeInfo}(c:P.underlying t=some (.array n e))(hi:P.info? e=some d){lo a:Option Value}{L H r off:Nat}{w:World}
  (b:(Instr.sliceBounds false n n lo a none).run P w=.ok (L,H,n) w):
  (Instr.sliceAt t (.pointer (some ⟨r,off,none⟩)) lo a none).run P w=.ok (.slice (some ⟨r,if n=L then off else off+L*P.cellsOf e,none⟩) (H - L) (n - L)) w:=by
 simp only[Instr.sliceAt,az,be c,aA,Instr.sureAddr,aD,b,gk hi,nJ];split<;>rfl
def oy{t e:TypeId}{n cp:Nat}{d:TypeInfo}(c:P.underlying t=some (.slice e))(hi:P.info? e=some d){lo a:Option Value}{L H r off:Nat}{w:World}
  (b:(Instr.sliceBounds true n cp lo a none).run P w=.ok (L,H,cp) w):
  (Instr.sliceAt t (.slice (some ⟨r,off,none⟩) n cp) lo a none).run P w=.ok (.slice (some ⟨r,if cp=L then off else off+L*P.cellsOf e,none⟩) (H - L) (cp - L)) w:=by
 simp only[Instr.sliceAt,Instr.slice,az,be c,aA,b,gk hi,aD];split
 ·rfl
 ·simp only[fh,nJ]
def gZ(n l x y:Nat):cond (Nat.beq n l) x y=if n=l then x else y:=by
 by_cases h:n=l
 ·subst h;simp
 ·have:Nat.beq n l=false:=by
   cases a:Nat.beq n l
   ·rfl
   ·exact absurd (bB a) h
  simp[this,h]
def ux{t e:TypeId}{f:TypeInfo}{b:Option Addr}(d:P.underlying t=some (.slice e))(hi:P.info? e=some f){lo a:Option Value}{w:World}
  (c:(Instr.sliceBounds true 0 0 lo a none).run P w=.ok (0,0,0) w):
  (Instr.sliceAt t (.slice b 0 0) lo a none).run P w=.ok (.slice b 0 0) w:=by
 simp only[Instr.sliceAt,Instr.slice,az,be d,aA,c,gk hi,aD,aN]
def DV{T:List (Nat×Option V)}(p:TR ι T a.tmps){lo hi:Option Operand}{l h:Option Int}(x:rl (opd T) lo=some l)
  (u:rl (opd T) hi=some h) {len:Nat} {c:Nat->Nat->Option α} (f:(hiK len len h λh=>loK h l λl=>c h l)=some z):
  ∃H L,c H L=some z/\H<=len/\L<=H/\∀n,len<=n->∀w,(Instr.sliceBounds true len n (lo.map a.eval) (hi.map a.eval) none).run P w=.ok (L,H,n) w:=by
 have o:∀{H:Nat},loK H l (c H)=some z->∃L,c H L=some z/\L<=H/\
   ∀w,(match lo.map a.eval with | some v=>Instr.sliceBound v H .sliceB | none=>pure 0).run P w=.ok L w:=by
  intro H f;rcases pI p x with⟨rfl,g⟩ | ⟨k,m,rfl,g⟩
  ·exact⟨0,f,jr _,λw=>by rw[g];rfl⟩
  ·simp only[loK]at f;obtain⟨L,i,j⟩:=ax f;obtain⟨g0,q,rfl⟩:=lW i;exact⟨_,j,by omega,λw=>by rw[g];exact run_sliceBound w k m H .sliceB g0 q⟩
 rcases pI p u with⟨rfl,g⟩ | ⟨k,m,rfl,g⟩
 ·simp only[hiK]at f;obtain⟨L,i,j,d⟩:=o f;refine⟨len,L,i,aU _,j,λn s w=>?_⟩;have d:=d w;rw[g];simp only[Instr.sliceBounds,az,aD,aA,wK,bQ,aF];cases b:lo.map a.eval with
  | none=>rw[b]at d;simp only[aD,yg,tw]at d;simp[d]
  | some v=>rw[b]at d;simp only[]at d;simp[d]
 ·simp only[hiK]at f;obtain⟨H,i,j⟩:=ax f;obtain⟨g0,q,rfl⟩:=lW i;obtain⟨L,t,d,e⟩:=o j;refine⟨_,L,t,by omega,d,λn s w=>?_⟩;have e:=e w;rw[g];have r:=run_sliceBound (P:=P) w k m n .sliceAcap g0 (by omega);simp only[Instr.sliceBounds,az,aD,aA,wK,bQ,aF,aN,r];cases b:lo.map a.eval with
  | none=>rw[b]at e;simp only[aD,yg,tw]at e;simp[e]
  | some v=>rw[b]at e;simp only[]at e;simp[e]
def MY{t:TypeId}{x:Operand}{lo hi:Option Operand}(I:o.op=.slice t x lo hi none)(G:TR ι s.T a.tmps)(hW:WR ι s.H s.nb w)(h:effK P (opd s.T) s.H f (.slice t x lo hi none) c=some z):
  ∃e,c e=some z/\gR P ι f o a w e:=by
 simp only[effK]at h;obtain⟨v,hx,E⟩:=ax h;obtain⟨l,K,V⟩:=ax E;obtain⟨X,y,d⟩:=ax V;clear h E V;have B:=bz G hx;clear hx;split at d
 ·rename_i C;cases v<;>simp only[reduceCtorEq]at d;rename_i sl;simp only[VR]at B;obtain⟨H,L,g,_,_,_,i,_,A⟩:=xU (P:=P) G K y (isSlice:=false) d;refine⟨_,g,.val (x:=.string ⟨((sl.take H).drop L).toArray⟩) ?_ (by simp[VR])⟩;simp only[execOp,I,B,az,jb];rw[Bi C (A w)];rfl
 ·rename_i n e C;split at d
  case h_2=>cases d
  rename_i hp;obtain⟨ti,p⟩:=cg hp;cases v<;>simp only[reduceCtorEq]at d;rename_i b off;simp only[VR]at B;obtain⟨r,i,u⟩:=B;obtain⟨H,L,g,_,F,D,g4,_,A⟩:=xU (P:=P) G K y (isSlice:=false) d;have W:H<=n:=by
   cases X with
   | none=>exact xM (F rfl)
   | some q=>exact D (by simp)
  refine⟨_,g,.val (x:=.slice (some ⟨r.r,if n=L then off else off+L*P.cellsOf e,none⟩) (H - L) (n - L)) ?_ ?_⟩
  ·simp only[execOp,I,u,az,jb];rw[AM C p (A w)];rfl
  ·simp only[VR];exact⟨r,n - L,i,λm Q=>by cases Q;rfl,by omega,by rw[gZ,qh,y6]⟩
 ·rename_i e C;split at d
  case h_2=>cases d
  rename_i hp;obtain⟨ti,p⟩:=cg hp;cases v<;>try (simp only[reduceCtorEq]at d;done)
  ·rename_i b;simp only[VR]at B;simp only at d;split at d
   case h_2=>cases d
   rename_i tr m U;split at d
   case h_2=>cases d
   rename_i J;have J:=bB J;obtain⟨H,L,g,F,D,A⟩:=DV (P:=P) G K y d;rcases jJ hW U with⟨q,cs,e',fr,E,V,Y,q5,_,_,_⟩ | ⟨E,rfl⟩
   ·rcases B with⟨q',i,u⟩ | ⟨i,_⟩
    ·rw[i]at E;cases E;refine⟨_,g,.val (x:=.slice (some ⟨q.r,if q.k=L then q.o else q.o+L*P.cellsOf e,none⟩) (H - L) (q.k - L)) ?_ ?_⟩
     ·simp only[execOp,I,u,az,jb];rw[<-Y,oy C p (A q.k (by omega) w)];rfl
     ·simp only[VR];exact .inl ⟨q,_,_,i,⟨by omega,kI⟩,λS=>by rw[ab (by omega)],rfl⟩
    ·rw[i]at E;cases E
   ·rcases B with⟨q,i,u⟩ | ⟨i,M,u⟩
    ·rw[i]at E;cases E
    ·simp only[cE,Bm]at F D;subst F;simp only[Bm]at D;subst D;refine⟨_,g,.val (x:=.slice M 0 0) ?_ (by unfold VR;exact .inr ⟨i,⟨rfl,kI⟩,M,rfl⟩)⟩;simp only[execOp,I,u,az,jb];rw[ux C p (A 0 (aU _) w)];rfl
  ·rename_i zz b j n _;simp only[VR]at B;simp only at d;split at d
   case h_2=>cases d
   rename_i J;have J:=bB J;obtain⟨H,L,g,F,D,A⟩:=DV (P:=P) G K y d;rcases B with⟨q,cp,off,i,⟨R,_⟩,N,u⟩ | ⟨i,⟨rfl,_⟩,M,u⟩
   ·refine⟨_,g,.val (x:=.slice (some ⟨q.r,if cp=L then off else off+L*P.cellsOf e,none⟩) (H - L) (cp - L)) ?_ ?_⟩
    ·simp only[execOp,I,u,az,jb];rw[oy C p (A cp R w)];rfl
    ·simp only[VR];exact .inl ⟨q,_,_,i,⟨by omega,kI⟩,λS=>by rw[ab (by omega),N (by omega),qh,ia,J,ig],rfl⟩
   ·simp only[Bm]at F;subst F;simp only[Bm]at D;subst D;refine⟨_,g,.val (x:=.slice M 0 0) ?_ (by unfold VR;exact .inr ⟨i,⟨rfl,kI⟩,M,rfl⟩)⟩;simp only[execOp,I,u,az,jb];rw[ux C p (A 0 (aU _) w)];rfl
  rename_i b off n cap;simp only[VR]at B;obtain⟨r,cp,i,Z,R,u⟩:=B;cases cap with
  | some m=>
   obtain rfl:=Z m rfl;obtain⟨H,L,g,_,F,D,g4,_,A⟩:=xU (P:=P) G K y (isSlice:=true) d;have W:H<=cp:=by
    cases X with
    | none=>have:=F rfl;omega
    | some q=>exact D (by simp)
   refine⟨_,g,.val (x:=.slice (some ⟨r.r,if cp=L then off else off+L*P.cellsOf e,none⟩) (H - L) (cp - L)) ?_ ?_⟩
   ·simp only[execOp,I,u,az,jb];rw[oy C p (A w)];rfl
   ·simp only[VR];exact⟨r,cp - L,i,λm Q=>by cases Q;rfl,by omega,by rw[gZ,qh,y6]⟩
  | none=>
   have hll:l=none:=by
    cases l with
    | none=>rfl
    | some q=>
     cases X with
     | none=>simp[hiK]at d
     | some q=>simp only[hiK]at d;obtain⟨_,_,Y⟩:=ax d;cases Y
   subst hll;have O:lo.map a.eval=none:=by
    rcases pI G K with⟨_,g⟩ | ⟨k,m,h0,_⟩
    ·exact g
    ·cases h0
   have key:∃H,c { val:=some (.sl b off H none) }=some z/\H<=n/\(Instr.sliceBounds true n cp (lo.map a.eval) (hi.map a.eval) none).run P w=.ok (0,H,cp) w:=by
    rcases pI G y with⟨rfl,g⟩ | ⟨k,m,rfl,g⟩
    ·simp only[hiK]at d;exact⟨n,d,aU _,by rw[g,O];simp[Instr.sliceBounds]⟩
    ·simp only[hiK]at d;obtain⟨H,h2,h3⟩:=ax d;obtain⟨g0,g1,rfl⟩:=lW h2;refine⟨_,h3,by omega,?_⟩;have U:=run_sliceBound (P:=P) w k m cp .sliceAcap g0 (by omega);rw[g,O];simp[Instr.sliceBounds,U]
   obtain⟨H,g,h2,h3⟩:=key;refine⟨_,g,.val (x:=.slice (some ⟨r.r,if cp=0 then off else off+0*P.cellsOf e,none⟩) (H - 0) (cp - 0)) ?_ ?_⟩
   ·simp only[execOp,I,u,az,jb];rw[oy C p h3];rfl
   ·simp only[VR];exact⟨r,cp,i,λm Q=>(by cases Q),by omega,by simp⟩
 ·cases d
def xL(a:List Int):a.foldl (λ(r:ByteArray) n=>r.push (UInt8.ofNat n.toNat)) ByteArray.empty=⟨(iP a).toArray⟩:=by
 rw[foldl_push_bytes];apply M4;simp[iP]
def zk{w:World}{r off q m cp:Nat}{l:List Int}{e:TypeId}{fr:Nat×Nat}(h:w.heap[r]?=some (.cells (l.map (Value.int .u8)).toArray e fr))(f:l.length=q)(g:off+m<=q):
  (Conv.bytesToString (.slice (some ⟨r,off,none⟩) m cp)).run P w=.ok (.string ⟨(iP ((l.drop off).take m)).toArray⟩) w:=by
 have a:(((l.drop off).take m).map (Value.int .u8)).length=m:=by simp;omega
 have hc:=wQ (P:=P) w ⟨r,off,none⟩ (((l.drop off).take m).map (Value.int .u8)) (λj v b=>by
  have c:j<m:=by
   rcases aJ j m with d | d
   ·exact d
   ·rw[f7 (by omega)]at b;cases b
  rw[nJ,bg h];rw[nX,mW c,lK]at b;simpa using b)
 rw[a]at hc;rw[run_bytesToString w _ m cp _ hc,xL]
def Cb(w:World)(e:TypeId)(s:ByteArray):
  Lib.bytesWorld w e s=World.alloc { w with drawn:=w.drawn+1 } (.cells (Lib.bytesCells w e s) e ((Lib.bytesCells w e s).size,(Lib.bytesCells w e s).size+1)):=by
 have c:=Lib.bytesWorld_at_new w e s;have f:=Lib.bytesWorld_size w e s;have d:(Lib.bytesWorld w e s).heap=w.heap.push (.cells (Lib.bytesCells w e s) e ((Lib.bytesCells w e s).size,(Lib.bytesCells w e s).size+1)):=by
  apply TC;intro j;by_cases b:j=w.heap.size
  ·subst b;rw[c];simp
  ·by_cases a:j<w.heap.size
   ·rw[Lib.bytesWorld_at_old w e s j a,Array.getElem?_push,ab b]
   ·rw[vV (by omega),vV (by simp;omega)]
 show({ (Lib.bytesWorld w e s)with heap:=(Lib.bytesWorld w e s).heap }:World)=_;rw[d];rfl
def sd:∀(l:List Int),l.flatMap (vals [.i .u8])=l.map (Value.int .u8)
 | []=>rfl
 | x::l=>by
  have:=sd l;simp only[nY,gN,vals,Lf.val]at this ⊢;rw[this];rfl
def sT{w:World}{r cp:Nat}{l:List Int}{c:Array Value}{e:TypeId}{fr:Nat×Nat}{m:Nat}(h:w.heap[r]?=some (.cells c e fr))(k:m<=c.size)
  {o:Nat} (p:(c.toList.drop o).take (l.length*([Lf.i .u8]:List Lf).length)=l.flatMap (vals [.i .u8])) {j n:Nat} (s:j+n<=l.length):
  (Conv.bytesToString (.slice (some ⟨r,o+j,none⟩) n cp)).run P w=.ok (.string ⟨(iP ((l.drop j).take n)).toArray⟩) w:=by
 have hl':(c.toList.drop o).take l.length=l.map (Value.int .u8):=by rw[<-sd];simpa using p
 have a:(((l.drop j).take n).map (Value.int .u8)).length=n:=by simp;omega
 have hc:=wQ (P:=P) w ⟨r,o+j,none⟩ (((l.drop j).take n).map (Value.int .u8)) (λi v b=>by
  have f:i<n:=by
   rcases aJ i n with g | g
   ·exact g
   ·rw[f7 (by omega)]at b;cases b
  rw[nJ,bg h];rw[nX,mW f,lK]at b;have d:=co (λq:List Value=>q[j+i]?) hl';simp only[mW (show j+i<l.length by omega),nX,lK]at d;rw[b]at d;simpa[ig]using d)
 rw[a]at hc;rw[run_bytesToString w _ n cp _ hc,xL]
def sU{w:World}(c:Option Addr):(Conv.bytesToString (.slice c 0 0)).run P w=.ok (.string ⟨#[]⟩) w:=by
 cases c with
 | none=>rfl
 | some a=>
  have b:=wQ (P:=P) w a ([].map (Value.int .u8)) (λj v d=>by simp at d);exact run_bytesToString (P:=P) w a 0 0 [] b
def Gn{B d:TypeId}{x:Operand}(A:o.op=.convert B d x)(hT:TR ι s.T a.tmps)(R:WR ι s.H s.nb w)(h:effK P (opd s.T) s.H f (.convert B d x) c=some z):
  ∃e,c e=some z/\gR P ι f o a w e:=by
 simp only[effK]at h;obtain⟨v,hx,q⟩:=ax h;clear h;have g:=bz hT hx;clear hx;split at q
 case h_2=>cases q
 rename_i C hs;split at q
 ·rename_i k p;cases v<;>simp only[reduceCtorEq]at q;rename_i k' n;simp only[VR]at g;refine⟨_,q,.val (x:=.int k (k.wrap n)) ?_ (by simp[VR])⟩;simp only[execOp,A,g,az,convert,be hs,be p,aA];cases C<;>rfl
 ·rename_i p;cases v<;>simp only[reduceCtorEq]at q
  ·rename_i b;simp only[VR]at g;cases C<;>try (simp only[reduceCtorEq]at q;done)
   rename_i e;simp only at q;split at q
   case h_2=>cases q
   rename_i u;split at q
   case h_2=>cases q
   rename_i l E;refine⟨_,q,.val (x:=.string ⟨(iP l).toArray⟩) ?_ (by simp[VR])⟩;rcases jJ R E with⟨q,cs,W,fr,i,I,V,q5,S,K,_⟩ | ⟨i,rfl⟩
   ·rcases g with⟨q',t,y⟩ | ⟨t,_⟩
    ·rw[t]at i;cases i;simp only[execOp,A,y,az,run_convert_bytes_string w B d e _ _ _ hs u p];rw[<-V];have:=sT (P:=P) (cp:=q.k) I S K (j:=0) (n:=l.length) (by omega);simp only[cS,oV,dK]at this;rw[this];rfl
    ·rw[t]at i;cases i
   ·rcases g with⟨q,t,y⟩ | ⟨t,G,y⟩
    ·rw[t]at i;cases i
    ·simp only[execOp,A,y,az,run_convert_bytes_string w B d e G 0 0 hs u p,sU];rfl
  ·rename_i zz b j n _;simp only[VR]at g;cases C<;>try (simp only[reduceCtorEq]at q;done)
   rename_i e;simp only at q;split at q
   case h_2=>cases q
   rename_i u;split at q
   case h_2=>cases q
   rename_i l E;split at q
   case h_2=>cases q
   rename_i J;have J:=bB J;subst J;obtain⟨hc,q⟩:=dU q;have D:=aI hc;refine⟨_,q,.val (x:=.string ⟨(iP ((l.drop j).take n)).toArray⟩) ?_ (by simp[VR])⟩;rcases g with⟨X,cp,off,t,⟨O,_⟩,N,y⟩ | ⟨t,⟨rfl,_⟩,G,y⟩
   ·rcases jJ R E with⟨q',cs,W,fr,i,I,V,q5,S,K,_⟩ | ⟨i,rfl⟩
    ·rw[t]at i;cases i;simp only[execOp,A,y,az,run_convert_bytes_string w B d e _ _ _ hs u p];by_cases hn:0<n
     ·rw[N hn,rI];rw[sT (P:=P) (cp:=cp) I S K D];rfl
     ·have U:n=0:=by omega
      subst U;have M:=wQ (P:=P) w ⟨X.r,off,none⟩ ([].map (Value.int .u8)) (λj v Y=>by simp at Y);have Z:=run_bytesToString (P:=P) w ⟨X.r,off,none⟩ 0 cp [] M;rw[Z];simp[iP];rfl
    ·rw[t]at i;cases i
   ·simp only[execOp,A,y,az,run_convert_bytes_string w B d e G 0 0 hs u p,sU];simp[iP]
  ·rename_i k' n;simp only[VR]at g;cases C<;>simp only[reduceCtorEq]at q;refine⟨_,q,.val (x:=.string (Utf8.encode n)) ?_ ?_⟩
   ·simp only[execOp,A,g,az,convert,be hs,be p,aA,Conv.intToString,aD]
   ·simp[VR]
  ·rename_i l;simp only[VR]at g;cases C<;>simp only[reduceCtorEq]at q;refine⟨_,q,.val (x:=.string ⟨l.toArray⟩) ?_ (by simp[VR])⟩;simp only[execOp,A,g,az,convert,be hs,be p,aA,aD]
  ·simp only[VR]at g;cases C<;>try (simp only[reduceCtorEq]at q;done)
   rename_i e;simp only at q;split at q
   ·rename_i u;refine⟨_,q,.val (x:=.string .empty) ?_ (by simp only[VR];rfl)⟩;simp only[execOp,A,g,az,run_convert_bytes_string w B d e none 0 0 hs u p];rfl
   ·cases q
  ·rename_i b off m cap;simp only[VR]at g;obtain⟨r,cp,t,_,_,y⟩:=g;cases C<;>try (simp only[reduceCtorEq]at q;done)
   rename_i e;simp only at q;split at q
   ·rename_i u;split at q
    ·rename_i qn l E;obtain⟨hc,q⟩:=dU q;have D:=aI hc;obtain⟨r',W,fr,O,N,g3,_⟩:=vY R E;rw[t]at O;cases O;refine⟨_,q,.val (x:=.string ⟨(iP ((l.drop off).take m)).toArray⟩) ?_ (by simp[VR])⟩;simp only[execOp,A,y,az,run_convert_bytes_string w B d e _ _ _ hs u p,zk N g3 D,aA,aD]
    ·cases q
   ·cases q
 ·rename_i e p;split at q
  case h_2=>cases q
  rename_i u;cases v<;>try (simp only[reduceCtorEq]at q;done)
  rename_i l;simp only[VR]at g;cases C<;>simp only[reduceCtorEq]at q;refine⟨_,q,.mkR (d:=w.drawn+1) (q:=(Rf.of w.heap.size (l.length) (grownCap w l.length 0 e))) (x:=.slice (some ⟨w.heap.size,0,none⟩) l.length (grownCap w l.length 0 e))
   (ob:=.cells (Lib.bytesCells w e ⟨l.toArray⟩) e ((Lib.bytesCells w e ⟨l.toArray⟩).size,(Lib.bytesCells w e ⟨l.toArray⟩).size+1)) ?_ rfl rfl ?_ ?_⟩
  ·simp only[execOp,A,g,az,Lib.run_convert_string_bytes w B d e ⟨l.toArray⟩ hs p u,aA,aD,Cb];rfl
  ·have F:l.length<=grownCap w l.length 0 e:=by simp only[grownCap,Question.cut];omega
   have Q:((ByteArray.mk l.toArray).data.map λb=>Value.int .u8 b.toNat).size=l.length:=by simp
   refine⟨_,e,_,rfl,by simp,F,?_,?_,?_⟩
   ·simp only[Lib.bytesCells,Array.size_append,Q,Array.size_replicate,aG,cE];have:(ByteArray.mk l.toArray).size=l.length:=rfl;rw[this];omega
   ·simp only[Lib.bytesCells,yo,tt,aG,cE,cK,rI,cS];rw[uS (by simp),jw (by simp)];rw[sd,Array.toList_map,tq];rfl
   ·refine .inr λj Y L=>?_;exact absurd L.1 (by simp only;omega)
  ·simp only[VR];exact .inl ⟨_,dJ _ _ _,rfl⟩
 ·cases q
def QY{U:Call}(R:o.op=.call U)(hT:TR ι s.T a.tmps)(hW:WR ι s.H s.nb w)(h:effK P (opd s.T) s.H f (.call U) c=some z):
  ∃e,c e=some z/\gR P ι f o a w e:=by
 obtain⟨Q,args,D⟩:=U;simp only[effK]at h;split at h
 case h_2=>cases h
 rename_i b;obtain⟨l,Y,q⟩:=ax h;clear h;have g:=yb hT Y;have K:(args.map a.eval).toList=args.toList.map a.eval:=by simp
 rw[<-K]at g;generalize W:args.map a.eval=A at g;have B:∃S,∀w,((do let d <-resolve a.eval ⟨.builtin b,args,D⟩ o.type;invoke d.target d.args):Sem Next).run P w=(builtin b D o.type S A).run P w:=by
  refine⟨args.map fun | .const _=>true | _=>false,λw=>?_⟩;simp only[resolve,W,az,aD,aA,invoke];rfl
 obtain⟨S,B⟩:=B;have one:∀{X:Value},A.toList=[X]->A[0]?=some X:=by
  intro X p;have:A=#[X]:=by apply lq;simpa using p
  simp[this]
 have E:∀{t:TypeId} {r:List TypeId},D.toList=t::r->D[0]?=some t:=by
  intro t r u;rw[<-qu,u];rfl
 have j:∀{n:Int} {rd:List Nat},b=.len->(∀w,(Builtin.len_ D o.type A).run P w=.ok (goInt n) w)->c { val:=some (.i .i64 n),rd:=rd }=some z->∃e,c e=some z/\gR P ι f o a w e:=by
  intro n rd N F hc;subst N;refine⟨_,hc,.val (x:=.int .i64 n) ?_ (by simp[VR])⟩;simp only[execOp,R];rw[B w];simp only[builtin,az,F,aA,aD,goInt]
 have C:∀{n:Int} {rd:List Nat},b=.cap->(∀w,(Builtin.cap_ D o.type A).run P w=.ok (goInt n) w)->c { val:=some (.i .i64 n),rd:=rd }=some z->∃e,c e=some z/\gR P ι f o a w e:=by
  intro n rd N F hc;subst N;refine⟨_,hc,.val (x:=.int .i64 n) ?_ (by simp[VR])⟩;simp only[execOp,R];rw[B w];simp only[builtin,az,F,aA,aD,goInt]
 split at q
 ·split at q
  ·rename_i sl;simp only[VRs,VR]at g;obtain⟨_,_,p,rfl,rfl⟩:=g;split at q
   ·rename_i t r u;split at q
    ·rename_i v;refine j rfl (λw=>?_) q;simp only[Builtin.len_,E u,one p,az,be v,aA,aD];rfl
    ·cases q
   ·cases q
  ·rename_i O Z n cp;simp only[VRs,VR]at g;obtain⟨_,_,p,⟨r,cap,_,_,_,rfl⟩,rfl⟩:=g;split at q
   ·rename_i t r u;split at q
    ·rename_i v;refine j rfl (λw=>?_) q;simp only[Builtin.len_,E u,one p,az,be v,aA,aD]
    ·cases q
   ·cases q
  ·simp only[VRs,VR]at g;obtain⟨_,_,p,rfl,rfl⟩:=g;split at q
   ·rename_i t r u;split at q
    ·rename_i v;refine j rfl (λw=>?_) q;simp only[Builtin.len_,E u,one p,az,be v,aA,aD];rfl
    ·cases q
   ·cases q
  ·rename_i O;simp only[VRs,VR]at g;obtain⟨_,_,p,M,rfl⟩:=g;split at q
   ·rename_i t r u;split at q
    ·rename_i v;split at q
     ·rename_i tr l N;refine j (rd:=[O]) rfl (λw=>?_) q;rcases jJ hW N with⟨q,S,e',fr,I,q2,q4,q5,q6,q7,_⟩ | ⟨I,rfl⟩
      ·rcases M with⟨q',G,rfl⟩ | ⟨G,_⟩
       ·rw[G]at I;cases I;simp only[Builtin.len_,E u,one p,az,be v,aA,aD,q4]
       ·rw[G]at I;cases I
      ·rcases M with⟨q,G,_⟩ | ⟨G,V,rfl⟩
       ·rw[G]at I;cases I
       ·simp only[Builtin.len_,E u,one p,az,be v,aA,aD];rfl
     ·cases q
    ·cases q
   ·cases q
  ·rename_i zz O jj n _;simp only[VRs,VR]at g;obtain⟨_,_,p,M,rfl⟩:=g;split at q
   ·rename_i t r u;split at q
    ·rename_i v;refine j rfl (λw=>?_) q;rcases M with⟨q,cp,off,G,_,_,rfl⟩ | ⟨_,⟨rfl,_⟩,V,rfl⟩
     ·simp only[Builtin.len_,E u,one p,az,be v,aA,aD]
     ·simp only[Builtin.len_,E u,one p,az,be v,aA,aD]
    ·cases q
   ·cases q
  ·simp only[VRs]at g;obtain⟨X,_,p,_,rfl⟩:=g;split at q
   ·rename_i t r u;split at q
    ·rename_i v;refine j rfl (λw=>?_) q;simp only[Builtin.len_,E u,one p,az,be v,aA,aD]
    ·cases q
   ·cases q
  ·cases q
 ·split at q
  ·rename_i zz O jj nn m;simp only[VRs,VR]at g;obtain⟨_,_,p,M,rfl⟩:=g;split at q
   ·rename_i t r u;split at q
    ·rename_i v;refine C rfl (λw=>?_) q;rcases M with⟨q,cp,off,G,⟨_,hc⟩,_,rfl⟩ | ⟨_,⟨_,hc⟩,V,rfl⟩
     ·have:=hc m rfl;subst this;simp only[Builtin.cap_,E u,one p,az,be v,aA,aD]
     ·have:=hc m rfl;subst this;simp only[Builtin.cap_,E u,one p,az,be v,aA,aD]
    ·cases q
   ·cases q
  ·rename_i O Z nn m;simp only[VRs,VR]at g;obtain⟨_,_,p,⟨qq,cp,G,hc,_,rfl⟩,rfl⟩:=g;split at q
   ·rename_i t r u;split at q
    ·rename_i v;refine C rfl (λw=>?_) q;have:=hc m rfl;subst this;simp only[Builtin.cap_,E u,one p,az,be v,aA,aD]
    ·cases q
   ·cases q
  ·simp only[VRs,VR]at g;obtain⟨_,_,p,rfl,rfl⟩:=g;split at q
   ·rename_i t r u;split at q
    ·rename_i v;refine C rfl (λw=>?_) q;simp only[Builtin.cap_,E u,one p,az,be v,aA,aD];rfl
    ·cases q
   ·cases q
  ·cases q
 ·split at q
  ·rename_i k x k' y;split at q
   ·rename_i L;have L:=la L;subst L;simp only[VRs,VR]at g;obtain⟨_,_,p,rfl,_,_,rfl,rfl,rfl⟩:=g;refine⟨_,q,.val (x:=.int k (cond (decide (y<x)) y x)) ?_ (by simp[VR])⟩;simp only[execOp,R];rw[B w];simp only[builtin,az,Builtin.min_,p,List.foldlM,Builtin.min2,aD,aA];by_cases J:y<x<;>simp[J]
   ·cases q
  ·cases q
 ·split at q
  ·rename_i k x k' y;split at q
   ·rename_i L;have L:=la L;subst L;simp only[VRs,VR]at g;obtain⟨_,_,p,rfl,_,_,rfl,rfl,rfl⟩:=g;refine⟨_,q,.val (x:=.int k (cond (decide (y>x)) y x)) ?_ (by simp[VR])⟩;simp only[execOp,R];rw[B w];simp only[builtin,az,Builtin.max_,p,List.foldlM,Builtin.max2,aD,aA];by_cases J:y>x<;>simp[J]
   ·cases q
  ·cases q
 ·cases q
def Yx{op:UnOp}{x:V}{X:Value}{c:V->Option α}(h:unK op x c=some z)(hx:VR ι x X)(w:World):
  ∃v R,c v=some z/\VR ι v R/\(Op.unary op X).run P w=.ok R w:=by
 unfold unK at h;split at h
 ·simp only[VR]at hx;subst hx;exact⟨_,_,h,rfl,rfl⟩
 ·simp only[VR]at hx;subst hx;exact⟨_,_,h,rfl,rfl⟩
 ·cases h
def QO{x:Operand}{j:Bool}(t:o.op=.next x j)(C:TR ι s.T a.tmps)(B:WR ι s.H s.nb w)(h:effK P (opd s.T) s.H f (.next x j) c=some z):
  ∃e,c e=some z/\gR P ι f o a w e:=by
 simp only[effK]at h;split at h
 case h_2=>cases h
 rename_i b hx;have p:=bz C hx;simp only[VR]at p;obtain⟨r,y,m⟩:=p;split at h
 case h_2=>cases h
 rename_i l pos A;obtain⟨F,ob,v,n,q⟩:=(B.blk b _ A (by simp)).real (by simp);rw[y]at v;cases v;simp only[BR]at q;subst q;have i:(ByteArray.mk l.toArray).size=l.length:=rfl;have d:(getObj r.r).run P w=.ok (.stringIter ⟨l.toArray⟩ pos) w:=by simp[getObj,Sem.run,n]
 cases hc:Nat.blt pos l.length with
 | false=>
  rw[hc]at h;have D:¬pos<l.length:=λg=>by rw[show Nat.blt pos l.length=true from cD g]at hc;cases hc
  refine⟨_,h,.val (x:=.tuple #[.bool false]) ?_ (by simp[VR,VRs])⟩;simp only[execOp,t,m,Instr.next,az,d,aA,i,D,aF,aD]
 | true=>
  rw[hc]at h;have g:pos<l.length:=aI hc;refine⟨_,h,?_⟩;unfold gR;have k:∀ob,(Go.setObj r.r ob).run P w=.ok () (setObj w r.r ob):=by
   intro ob;simp[Go.setObj,Sem.run,n,setObj]
  refine⟨r,y,λ_=>⟨.stringIter ⟨l.toArray⟩ (pos+(dec l pos).2),.value (.tuple #[.bool true,.int .i64 pos,.int .i32 (dec l pos).1]),?_,rfl,.value _ λu E=>by cases E;simp[VR,VRs]⟩⟩;simp only[execOp,t,m,Instr.next,az,d,aA,i,g,aN,k,aD,dec,goInt]
def Iy{t:List Lf}(x:den t):∀n,(List.replicate n x).flatMap (vals t)=(List.replicate n (vals t x)).flatten
 | 0=>rfl
 | n+1=>by simp[tg,nY,Iy x n]
def KL{l:List Value}:∀n:Nat,(List.replicate n l).flatten.length=n*l.length
 | 0=>by simp
 | n+1=>by rw[tg,List.flatten_cons,aZ,KL n,ia];omega
def NE{l:List Value}:∀(n j:Nat),j<n*l.length->(List.replicate n l).flatten[j]?=l[j%l.length]?
 | 0,j,h=>by simp at h
 | n+1,j,h=>by
  simp only[tg,List.flatten_cons];by_cases a:j<l.length
  ·rw[n6 a,qj a]
  ·rw[qQ (by omega),NE n _ (by rw[ia]at h;omega),<-Nat.mod_eq_sub_mod (by omega)]
def CV{t:TypeId}{x y:Operand}(ho:o.op=.makeSlice t x y)(N:TR ι s.T a.tmps)(h:effK P (opd s.T) s.H f (.makeSlice t x y) c=some z):
  ∃e,c e=some z/\gR P ι f o a w e:=by
 simp only[effK]at h;obtain⟨u,E,L⟩:=ax h;obtain⟨v,D,b⟩:=ax L;clear h L;have E:=bz N E;have D:=bz N D;split at b
 case h_2=>cases b
 rename_i e S;split at b
 case h_2=>cases b
 rename_i k1 n k2 m _ _;simp only[VR]at E D;obtain⟨zv,G,b⟩:=ax b;split at b
 case h_2=>cases b
 rename_i tr p _ l;split at b
 case h_2=>cases b
 rename_i K;simp only[aB,js]at K;obtain⟨Q,e2,M,J⟩:=K;have M:=aI M;have J:=aI J;obtain⟨Y,F,b⟩:=ax b;obtain⟨hc,b⟩:=dU b;simp only[aB,ch]at hc;obtain⟨V,c1,c2⟩:=hc;obtain⟨zc,i,O,X,Z,_⟩:=wj ι G;rw[l]at O;cases O;have g:=nL Z;rw[wo F]at g;have g:=(nW ι tr Y _).1 g;have r:p.size=P.cellsOf e:=by unfold Program.cellsOf;rw[l];rfl
 have U:m=(m.toNat:Int):=by omega
 have A:=run_make (P:=P) w t e p zc S l X k1 k2 n m V c1 (by
  rw[U,<-He];have:p.bytes*m.toNat<=1048576*67108864:=xk J (by omega);omega) (by omega)
 refine⟨_,b,.mkR (d:=w.drawn) (q:=(Rf.of w.heap.size (n.toNat) (m.toNat))) (x:=.slice (some ⟨w.heap.size,0,none⟩) n.toNat m.toNat) (ob:=.cells (madeCells zc.cells (m.toNat*p.size)) e) ?_ rfl rfl ?_ ?_⟩
 ·simp only[execOp,ho,E,D,az,A,aA,aD]
 ·have I:(madeCells zc.cells (m.toNat*p.size)).size=m.toNat*p.size:=size_madeCells _ _;refine⟨_,e,_,rfl,by simp,by simp only;omega,by rw[I,r,Q];simp,?_,.inr (tD _)⟩;simp only[cS];rw[Iy,List.length_replicate,<-g];apply AD;intro j;have k:zc.cells.toList.length=tr.length:=by rw[g,gS]
  have B:zc.cells.size=tr.length:=by simpa using k
  have W:n.toNat*tr.length<=m.toNat*tr.length:=o7 _ (by omega);by_cases R:j<n.toNat*tr.length
  ·rw[mW R,NE n.toNat j (by rw[k];exact R),k];have C:j%tr.length<zc.cells.size:=by rw[B];exact rt _ (by omega)
   simp only[madeCells,r,<-Q,B];rw[qu,Array.getElem?_map,Array.getElem?_range];simp[show j<m.toNat*tr.length by omega,C]
  ·rw[f7 (by rw[dA];omega),f7 (by rw[KL,k];omega)]
 ·simp only[VR];exact .inl ⟨_,dJ _ _ _,rfl⟩
def Ys{op:BinOp}{t:TypeId}{x y:Operand}{u v:V}{r:Bool}{X Y:Value}(h:niK P op t x y u v=some r)(hx:VR ι u X)(hy:VR ι v Y)(w:World):
  (eqGuard op t x y X Y).run P w=.ok () w/\(binOp op t X Y).run P w=.ok (.bool r) w:=by
 unfold niK at h;split at h
 case h_2=>cases h
 simp only[VR]at hx hy;subst hx hy;split at h
 case h_2=>cases h
 rename_i hc;split at h
 case h_2=>cases h
 rename_i f d;have b:∀o:BinOp,o=.eql\/o=.neq->(eqGuard o t x y .nilIface .nilIface).run P w=.ok () w:=by
  intro o e;have a:(∃v,x=.const v)\/∃v,y=.const v:=by
   rw[iq]at hc;refine hc.imp (λh=>?_) (λh=>?_)
   ·cases x<;>simp_all[Ia]
   ·cases y<;>simp_all[Ia]
  rcases a with⟨v,rfl⟩ | ⟨v,rfl⟩<;>rcases e with rfl | rfl<;>simp[eqGuard]
 have c:(Op.equal t .nilIface .nilIface).run P w=.ok true w:=by rw[fa,Op.equalIn];simp[be d]
 split at h
 ·simp only[aq]at h;subst h;exact⟨b _ (.inl rfl),by simp[binOp,c]⟩
 ·simp only[aq]at h;subst h;exact⟨b _ (.inr rfl),by simp[binOp,c]⟩
 ·cases h
def ly{t e:TypeId}{i:TypeInfo}(b:P.underlying t=some (.slice e))(hi:P.info? e=some i){n cp:Nat}{a:Option Addr}{k k':IntKind}{h m:Int}{H M:Nat}(l:bx n m=some M)(j:bx M h=some H)(p:n<=cp)(w:World):
  (Instr.sliceAt t (.slice a n cp) none (some (.int k h)) (some (.int k' m))).run P w=.ok (.slice a H M) w:=by
 obtain⟨m0,m1,rfl⟩:=lW l;obtain⟨g,f,rfl⟩:=lW j;have d:=run_sliceBound (P:=P) w k' m cp .slice3Acap m0 (by omega);have c:=run_sliceBound (P:=P) w k h m.toNat .slice3B g f;simp only[Instr.sliceAt,Instr.slice,az,be b,aA,Instr.sliceBounds,aN,d,c,aD,gk hi,tu,A7];split
 ·rfl
 ·cases a with
  | none=>rfl
  | some q=>obtain⟨r,o,x⟩:=q;simp[Addr.add]
def JJ{t:TypeId}{x mx:Operand}{lo hi:Option Operand}(J:o.op=.slice t x lo hi (some mx))(O:TR ι s.T a.tmps)(Z:WR ι s.H s.nb w)(h:effK P (opd s.T) s.H f (.slice t x lo hi (some mx)) c=some z):
  ∃e,c e=some z/\gR P ι f o a w e:=by
 simp only[effK,ve]at h;split at h
 case h_2=>cases h
 rename_i hh;obtain⟨v,hx,d⟩:=ax h;clear h;have C:=bz O hx;clear hx;split at d
 case h_2=>cases d
 rename_i k1 Y k2 m1 L K;have E:=bz O L;have D:=bz O K;simp only[VR]at E D;split at d
 case h_2=>cases d
 rename_i e F;split at d
 case h_2=>cases d
 rename_i hp;obtain⟨ti,m⟩:=cg hp;split at d
 ·rename_i b;split at d
  case h_2=>cases d
  rename_i tr l W;split at d
  case h_2=>cases d
  obtain⟨M,u,I⟩:=ax d;obtain⟨H,p,A⟩:=ax I;obtain⟨m0,m2,S⟩:=lW u;obtain⟨Q,R,U⟩:=lW p;simp only[VR]at C;rcases jJ Z W with⟨q,cs,e',fr,B,r2,r4,r5,_,_,_⟩ | ⟨B,rfl⟩
  ·rcases C with⟨q',g,y⟩ | ⟨g,_⟩
   ·rw[g]at B;cases B;refine⟨_,A,.val (x:=.slice (some ⟨q.r,q.o,none⟩) H M) ?_ ?_⟩
    ·simp only[execOp,J,y,E,D,az,jb,fh];rw[<-r4,ly F m u p (by omega) w];rfl
    ·simp only[VR];exact .inl ⟨q,_,_,g,⟨by omega,sj⟩,λ_=>by omega,rfl⟩
   ·rw[g]at B;cases B
  ·rcases C with⟨q,g,y⟩ | ⟨g,G,y⟩
   ·rw[g]at B;cases B
   ·simp only[cE]at m2;have i:M=0:=by omega
    have k:H=0:=by omega
    subst i k;refine⟨_,A,.val (x:=.slice G 0 0) ?_ (by unfold VR;exact .inr ⟨g,⟨rfl,sj⟩,G,rfl⟩)⟩;simp only[execOp,J,y,E,D,az,jb,fh];rw[ly F m (n:=0) (M:=0) u p (by omega) w];rfl
 ·rename_i zz b j n _;obtain⟨M,u,I⟩:=ax d;obtain⟨H,p,A⟩:=ax I;obtain⟨m0,m2,S⟩:=lW u;obtain⟨Q,R,U⟩:=lW p;simp only[VR]at C;rcases C with⟨q,cp,off,g,⟨N,_⟩,X,y⟩ | ⟨g,⟨N,_⟩,G,y⟩
  ·refine⟨_,A,.val (x:=.slice (some ⟨q.r,off,none⟩) H M) ?_ ?_⟩
   ·simp only[execOp,J,y,E,D,az,jb,fh];rw[ly F m u p N w];rfl
   ·simp only[VR];exact .inl ⟨q,_,_,g,⟨by omega,sj⟩,λV=>X (by omega),rfl⟩
  ·subst N;have i:M=0:=by omega
   have k:H=0:=by omega
   subst i k;refine⟨_,A,.val (x:=.slice G 0 0) ?_ (by unfold VR;exact .inr ⟨g,⟨rfl,sj⟩,G,rfl⟩)⟩;simp only[execOp,J,y,E,D,az,jb,fh];rw[ly F m (n:=0) (M:=0) u p (by omega) w];rfl
 ·obtain⟨M,u,I⟩:=ax d;obtain⟨H,p,A⟩:=ax I;obtain⟨m0,m2,S⟩:=lW u;obtain⟨Q,R,U⟩:=lW p;simp only[VR]at C;have i:M=0:=by omega
  have k:H=0:=by omega
  subst i k;refine⟨_,A,.val (x:=.slice none 0 0) ?_ (by simp only[VR])⟩;simp only[execOp,J,C,E,D,az,jb,fh];rw[ly F m (n:=0) (M:=0) u p (by omega) w];rfl
 ·cases d
def WJ{op:BinOp}{t:TypeId}{u v:V}{r:Bool}{n:Nat}{rd:List Nat}{X Y:Value}{H:List (Nat×Blk)}{nb:Nat}(h:slN P op t u v=some r)(a:slL H u=some (n,rd))(o:0<n)(B:WR ι H nb w)(hx:VR ι u X)(hy:VR ι v Y)(p q:Operand):
  (eqGuard op t p q X Y).run P w=.ok () w/\(binOp op t X Y).run P w=.ok (.bool r) w:=by
 unfold slN at h;split at h
 case h_2=>cases h
 simp only[VR]at hy;subst hy;have b:∀(A:Addr) (n c:Nat),X=.slice (some A) n c->P.underlying t=(P.underlying t)->∀e,P.underlying t=some (.slice e)->
   ((eqGuard .eql t p q X (.slice none 0 0)).run P w=.ok () w/\(binOp .eql t X (.slice none 0 0)).run P w=.ok (.bool false) w)/\
   ((eqGuard .neq t p q X (.slice none 0 0)).run P w=.ok () w/\(binOp .neq t X (.slice none 0 0)).run P w=.ok (.bool (!false)) w):=by
  rintro A n c rfl _ e f;exact pX p q (.inl (by simp)) (.inl (by simp)) (by simp) (by rw[fa,Op.equalIn];simp[be f])
 have fin:∀(A:Addr) (n c:Nat),X=.slice (some A) n c->slT P op t=some r->(eqGuard op t p q X (.slice none 0 0)).run P w=.ok () w/\(binOp op t X (.slice none 0 0)).run P w=.ok (.bool r) w:=by
  intro A n c y h;unfold slT at h;split at h
  case h_2=>cases h
  rename_i e f;obtain⟨m1,m2⟩:=b A n c y rfl e f;split at h
  ·simp only[aq]at h;subst h;exact m1
  ·simp only[aq]at h;subst h;exact m2
  ·cases h
 split at h
 ·rename_i c;simp only[slL]at a;split at a
  case h_2=>cases a
  rename_i tr l k;simp only[aq,bC]at a;obtain⟨rfl,_⟩:=a;simp only[VR]at hx;rcases jJ B k with⟨F,I,J,fr,i,K,r4,_⟩ | ⟨i,rfl⟩
  ·rcases hx with⟨s,d,g⟩ | ⟨d,_⟩
   ·exact fin _ _ _ g h
   ·rw[d]at i;cases i
  ·simp at o
 ·rename_i z c j m C;simp only[slL,aq,bC]at a;obtain⟨rfl,_⟩:=a;simp only[VR]at hx;rcases hx with⟨s,D,G,d,g,E,x⟩ | ⟨d,⟨g,_⟩,_⟩
  ·exact fin _ _ _ x h
  ·omega
 ·cases h
def GX{t:TypeId}{x:Option Operand}(b:o.op=.makeMap t x)(h:effK P (opd s.T) s.H f (.makeMap t x) c=some z):∃e,c e=some z/\gR P ι f o a w e:=by
 simp only[effK]at h;split at h
 case h_2=>cases h
 split at h
 case h_2=>cases h
 refine⟨_,h,.mk (x:=.map (some w.heap.size)) (ob:=.map #[] 0) ?_ ⟨#[],0,rfl,rfl⟩ (by simp only[VR];exact⟨_,dJ _ _ _,rfl⟩)⟩;simp only[execOp,b,jb,az];rfl
def RO{H:List (Nat×Blk)}{nb b:Nat}{w:World}(f:WR ι H nb w){k:IntKind}{l:List (Int×Nat)}(i:look H b=some (.mp k l)):
  ∃q c a,ι b=some (some q)/\w.heap[q.r]?=some (.map c a)/\c.toList.map (λe=>(e.key,e.val))=l.map λp=>(Value.int k p.1,fnV p.2 #[]):=by
 obtain⟨q,o,g,d,c,a,rfl,h⟩:=(f.blk b _ i (by simp)).real (by simp);exact⟨q,c,a,g,d,h⟩
def NH{α:Type}{k:IntKind}{n:Int}{c:Nat->Option α}{z:α}:∀(d:List MapEntry) (l:List (Int×Nat)) (i:Nat),d.map (λe=>(e.key,e.val))=l.map (λp=>(Value.int k p.1,fnV p.2 #[]))->mapK l n c=some z->
  ∃g j,c g=some z/\Instr.findNow (.int k) (.int k n) d i=some (some (j,fnV g #[]))
 | [],[],_,_,h=>by cases h
 | [],_::_,_,a,_=>by simp at a
 | _::_,[],_,a,_=>by simp at a
 | e::d,(m,g)::l,i,a,h=>by
  simp only[gN,Ej,bC]at a;obtain⟨⟨f,o⟩,t⟩:=a;simp only[mapK]at h;cases b:(n==m)with
  | true=>
   rw[b]at h;exact⟨g,i,h,by simp only[Instr.findNow,f,Instr.sameNow,aN,b,o]⟩
  | false=>
   rw[b]at h;obtain⟨q,j,s,r⟩:=NH d l (i+1) t h;exact⟨q,j,s,by simp only[Instr.findNow,f,Instr.sameNow,aN,b];exact r⟩
def JR{t:TypeId}{m x:Operand}{ok:Bool}(O:o.op=.lookup t m x ok)(r:TR ι s.T a.tmps)(K:WR ι s.H s.nb w)(h:effK P (opd s.T) s.H f (.lookup t m x ok) c=some z):
  ∃e,c e=some z/\gR P ι f o a w e:=by
 simp only[effK]at h;split at h
 case h_2=>cases h
 rename_i b E;split at h
 case h_2=>cases h
 rename_i k n hx;split at h
 case h_2=>cases h
 rename_i kt R B;split at h
 case h_2=>cases h
 rename_i k2 v;split at h
 case h_2=>cases h
 rename_i k1 l A;split at h
 case h_2=>cases h
 rename_i d;simp only[aB]at d;have M:=la d.1;have L:=la d.2;subst M L;have u:=bz r E;have p:=bz r hx;simp only[VR]at u p;obtain⟨q,I,G⟩:=u;obtain⟨Q,J,i,y,N,D⟩:=RO K A;rw[I]at y;cases y;obtain⟨g,j,C,F⟩:=NH J.toList l 0 D h;refine⟨_,C,.val (x:=fnV g #[]) ?_ (by simp only[VR];exact⟨#[],rfl,by simp[VRs]⟩)⟩;simp only[execOp,O,G,p,az,Instr.lookup,be B,aA,MapKept.run_getObj_map N,aD,
  MapKept.run_checkKey (k:=.int k2 n) v (by simp[MapKept.IsKey]),MapKept.run_findKey v F]
 rfl
def Jz{t:TypeId}{m x y:Operand}(Z:o.op=.insert t m x y)(E:TR ι s.T a.tmps)(hW:WR ι s.H s.nb w)(h:effK P (opd s.T) s.H f (.insert t m x y) c=some z):
  ∃e,c e=some z/\gR P ι f o a w e:=by
 simp only[effK]at h;split at h
 case h_2=>cases h
 rename_i b W;split at h
 case h_2=>cases h
 rename_i k n g hx hy;split at h
 case h_2=>cases h
 rename_i kt et V;split at h
 case h_2=>cases h
 rename_i k2 O;split at h
 case h_2=>cases h
 rename_i k1 l U;split at h
 case h_2=>cases h
 rename_i A;simp only[aB]at A;obtain⟨F,I,C⟩:=A;have e1:=la F;have e2:=la I;subst e1 e2;have N:=bz E W;have L:=bz E hx;have S:=bz E hy;simp only[VR]at N L S;obtain⟨q,M,Y⟩:=N;obtain⟨cs,X,K⟩:=S;simp only[VRs]at K;have G:cs=#[]:=by
  apply lq;simpa using K
 subst G;obtain⟨q',D,d,R,Q,J⟩:=RO hW U;rw[M]at R;cases R;have B:∀e∈D.toList,∃p∈l,e.key=.int k2 p.1:=by
  intro e v;have:(e.key,e.val)∈l.map λp=>(Value.int k2 p.1,fnV p.2 #[]):=by rw[<-J];exact eF.2 ⟨e,v,rfl⟩
  obtain⟨p,hp,i⟩:=eF.1 this;simp only[bC]at i;exact⟨p,hp,i.1.symm⟩
 have r:MapKept.IsKey (.int k2) (.int k2 n):=by simp[MapKept.IsKey]
 have u:Instr.findNow (.int k2) (.int k2 n) D.toList 0=some none:=by
  rcases MapKept.findNow_spec r D.toList 0 (λe v=>by obtain⟨p,_,hp⟩:=B e v;rw[hp];simp[MapKept.IsKey])with⟨h,_⟩ | ⟨j,e,_,hj,v⟩
  ·exact h
  ·exfalso;obtain⟨p,hp,i⟩:=B e (fk hj);rw[i]at v;have:=(bS.1 C) p hp;simp only[Value.int.injEq,kz]at v;simp[v]at this
 refine⟨_,h,?_⟩;unfold gR;refine⟨q,M,λ_=>⟨.map (D.push { key:=.int k2 n,val:=fnV g #[],born:=d }) (d+1),.skip,?_,⟨_,_,rfl,?_⟩,.skip rfl⟩⟩
 ·simp only[execOp,Z,Y,L,X,az,Instr.mapUpdate,be V,aA,MapKept.run_getObj_map Q,MapKept.run_checkKey (k:=.int k2 n) O r,MapKept.run_findKey O u,MapKept.run_setObj_map _ Q,aD];rfl
 ·rw[Array.toList_push,Gt,Gt,J];rfl
def Lp(k:TR ι s.T a.tmps)(C:WR ι s.H s.nb w)(Z:ι f=none)(h:effK P (opd s.T) s.H f o.op c=some z):∃e,c e=some z/\gR P ι f o a w e:=by
 cases j:o.op with
 | move x=>
  rw[j]at h;simp only[effK]at h;obtain⟨v,p,h⟩:=ax h;exact⟨_,h,.val (by simp only[execOp,j,aD]) (bz k p)⟩
 | assign x=>
  rw[j]at h;simp only[effK]at h;obtain⟨v,p,h⟩:=ax h;exact⟨_,h,.val (by simp only[execOp,j,aD]) (bz k p)⟩
 | pick q x y=>
  rw[j]at h;simp only[effK]at h;split at h
  ·rename_i t L;have p:=bz k L;simp only[VR]at p;cases t
   ·simp only[af]at h;obtain⟨v,A,h⟩:=ax h;exact⟨_,h,.val (x:=a.eval y) (by simp[execOp,j,p,asBool]) (bz k A)⟩
   ·simp only[aj]at h;obtain⟨v,A,h⟩:=ax h;exact⟨_,h,.val (x:=a.eval x) (by simp[execOp,j,p,asBool]) (bz k A)⟩
  ·cases h
 | alloc t=>rw[j]at h;exact Nw j h
 | makeMap t x=>rw[j]at h;exact GX j h
 | insert t m x y=>rw[j]at h;exact Jz j k C h
 | lookup t m x ok=>rw[j]at h;exact JR j k C h
 | box t x=>rw[j]at h;exact UB j k Z h
 | build t ps=>rw[j]at h;exact Lt j k h
 | buildSlice t n ps=>rw[j]at h;exact zi j k Z h
 | load t x=>rw[j]at h;exact QI j k C h
 | makeSlice t x y=>rw[j]at h;exact CV j k h
 | store t x y=>rw[j]at h;exact LU j k C h
 | nilCheck x=>
  rw[j]at h;simp only[effK]at h;split at h
  ·rename_i b off hx;have p:=bz k hx;have A:=p;simp only[VR]at p;obtain⟨r,h5,B⟩:=p;exact⟨_,h,.val (x:=a.eval x) (by simp[execOp,j,B]) A⟩
  ·rename_i zz b jj off hx;have p:=bz k hx;have A:=p;simp only[VR]at p;obtain⟨r,h5,B⟩:=p;exact⟨_,h,.val (x:=a.eval x) (by simp[execOp,j,B]) A⟩
  ·rename_i g l hx;have p:=bz k hx;have A:=p;simp only[VR]at p;obtain⟨W,B,_⟩:=p;obtain⟨g',b',c',h7⟩:=AB g W;exact⟨_,h,.val (x:=a.eval x) (by simp[execOp,j,B,h7]) A⟩
  ·rename_i b off n m hx;have p:=bz k hx;have A:=p;simp only[VR]at p;obtain⟨r,cp,_,_,_,B⟩:=p;exact⟨_,h,.val (x:=a.eval x) (by simp[execOp,j,B]) A⟩
  ·rename_i t v hx;have p:=bz k hx;have A:=p;simp only[VR]at p;obtain⟨y,B,_⟩:=p;exact⟨_,h,.val (x:=a.eval x) (by simp[execOp,j,B]) A⟩
  ·cases h
 | binOp op t x y yt=>
  rw[j]at h;simp only[effK]at h;obtain⟨u,J,h⟩:=ax h;obtain⟨v,p,h⟩:=ax h;split at h
  ·rename_i r U;have hx:=bz k J;have hy:=bz k p;obtain⟨I,M⟩:=Ys U hx hy w;exact⟨_,h,.val (x:=.bool r) (by simp only[execOp,j,az,I,M,aA,aD]) (by simp[VR])⟩
  split at h
  ·rename_i r U;split at h
   case h_2=>cases h
   rename_i m rd F;obtain⟨hm,h⟩:=dU h;obtain⟨I,M⟩:=WJ U F (aI hm) C (bz k J) (bz k p) x y;exact⟨_,h,.val (x:=.bool r) (by simp only[execOp,j,az,I,M,aA,aD]) (by simp[VR])⟩
  obtain⟨R,X,S,Q,I,M⟩:=Vn h (bz k J) (bz k p) x y w;exact⟨_,S,.val (x:=X) (by simp only[execOp,j,az,I,M,aA,aD]) Q⟩
 | unOp op t x=>
  rw[j]at h;simp only[effK]at h;obtain⟨u,J,h⟩:=ax h;obtain⟨R,X,S,Q,I⟩:=Yx (P:=P) h (bz k J) w;exact⟨_,S,.val (x:=X) (by simp only[execOp,j,az,I,aA,aD]) Q⟩
 | convert sr d x=>rw[j]at h;exact Gn j k C h
 | next x str=>rw[j]at h;exact QO j k C h
 | makeInterface t x=>
  rw[j]at h;simp only[effK]at h;obtain⟨u,J,h⟩:=ax h;have p:=bz k J;split at h
  ·cases h
  ·rename_i d O N;refine⟨_,h,.val (x:=.iface t (a.eval x)) ?_ (by simp only[VR];exact⟨_,rfl,p⟩)⟩;simp only[execOp,j,Instr.makeInterface,az,be N,aA];cases d<;>first | rfl | exact absurd rfl (O _)
  ·cases h
 | makeFunc fn first cap=>
  rw[j]at h;simp only[effK]at h;split at h
  ·rename_i g E;split at h
   case h_2=>cases h
   rename_i hb;obtain⟨l,F,h⟩:=ax h;have G:=yb k F;have D:first=#[]:=by apply lq;simpa using E
   refine⟨_,h,.val (x:=.func (.func g) #[] (cap.map a.eval)) ?_ (by simp only[VR];exact⟨_,(GM hb _).symm,by simpa using G⟩)⟩;simp only[execOp,j,Instr.makeFunc,D,IB,az,aD,aA]
  ·rename_i g _ _ E;split at h
   ·rename_i K;obtain⟨l,F,h⟩:=ax h;have G:=yb k F;have hcap':cap=#[]:=by apply lq;simpa using K
    refine⟨_,h,.val (x:=.func (.func g) (first.map a.eval) #[]) ?_ (by simp only[VR];exact⟨_,(QN g _).symm,by simpa using G⟩)⟩;simp only[execOp,j,Instr.makeFunc,hcap',IB,az,aD,aA]
   ·cases h
  ·cases h
 | slice t x lo hi mx=>
  rw[j]at h;cases mx with
  | none=>exact MY j k C h
  | some m=>exact JJ j k C h
 | fieldAddr t x i=>rw[j]at h;exact AQ j k h
 | field t x i=>rw[j]at h;exact NA j k h
 | indexAddr t x i=>rw[j]at h;exact CB j k C h
 | index t x i=>rw[j]at h;exact MZ j k h
 | range t x=>rw[j]at h;exact LJ j k h
 | extract x i=>
  rw[j]at h;simp only[effK]at h;split at h
  ·rename_i l hx;obtain⟨v,p,h⟩:=ax h;have F:=bz k hx;simp only[VR]at F;obtain⟨W,B,V⟩:=F;obtain⟨y,hy,Y⟩:=V.get p;have hy':W[i]?=some y:=by simpa using hy
   exact⟨_,h,.val (x:=y) (by simp[execOp,j,B,Instr.extract,hy']) Y⟩
  ·cases h
 | typeAssert x xt at_ ok=>
  rw[j]at h;simp only[effK]at h;split at h
  case h_2=>cases h
  rename_i t v hx;have p:=bz k hx;simp only[VR]at p;obtain⟨y,B,hy⟩:=p;split at h
  ·cases h
  ·rename_i d O N;split at h
   case h_2=>cases h
   rename_i L;have L:=bB L;subst L;cases ok with
   | true=>
    refine⟨_,h,.val (x:=.tuple #[y,.bool true]) ?_ (by simp only[VR,VRs];exact⟨_,rfl,y,[.bool true],rfl,hy,_,[],rfl,rfl,rfl⟩)⟩;simp only[execOp,j,B,Instr.typeAssert,az,be N,aA];cases d<;>first | simp | exact absurd rfl (O _)
   | false=>
    refine⟨_,h,.val (x:=y) ?_ hy⟩;simp only[execOp,j,B,Instr.typeAssert,az,be N,aA];cases d<;>first | simp | exact absurd rfl (O _)
  ·cases h
 | call cl=>rw[j]at h;exact QY j k C h
 | _=>rw[j]at h;simp[effK]at h
end ops
end Go.Abs
