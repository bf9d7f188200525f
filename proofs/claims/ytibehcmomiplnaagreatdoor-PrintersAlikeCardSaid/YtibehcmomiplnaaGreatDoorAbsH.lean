
import Derived.Test.YtibehcmomiplnaaGreatDoorAbsG
import Derived.Laws.BytesArg
import Derived.Laws.BytesString
import Derived.Lib.ConvBytes
import Derived.Laws.MakeOwn
import Derived.Deep.AppendSrc
import Derived.MapKept
set_option linter.unusedSimpArgs false
set_option linter.unusedVariables false
set_option linter.defProp false
namespace Go.Abs
variable {P:Program}
section ops
variable {α:Type} {ι:Inj} {s:St} {a:Act} {w:World} {f:Nat} {o:Oper} {c:Eff->Option α} {z:α}
def xB{t:TypeId}{a:Array Field}{fd:Field}{i:Nat}{c:TypeInfo}(b:P.underlying t=some (.struct a))(d:a[i]?=some fd)(hi:P.info? fd.type=some c)
  (hp:0<P.cellsOf fd.type) (r off:Nat) (w:World):(Instr.fieldAt t (.pointer (some ⟨r,off,none⟩)) i).run P w=.ok (.pointer (some ⟨r,off+fd.offset,none⟩)) w:=by
 simp only[Instr.fieldAt,ay,ba b,aB,d,Instr.sureAddr,aE,fieldPlace,gy hi,show¬(P.cellsOf fd.type=0)by omega,aG,nZ]
def C5{t:TypeId}{x:Operand}{i:Nat}(u:o.op=.fieldAddr t x i)(v:TR ι s.T a.tmps)(h:effK P (opd s.T) s.H f (.fieldAddr t x i) c=some z):
  ∃e,c e=some z/\gY P ι f o a w e:=by
 simp only[effK]at h;split at h
 ·rename_i b off hx;split at h
  ·rename_i A p;split at h
   ·rename_i fd l;split at h
    ·rename_i hp;obtain⟨y,g⟩:=cf hp;have k:=bv v hx;simp only[VR]at k;obtain⟨r,m,n⟩:=k;have d:=xB p (by simpa using l) g (aM hp) r.r off w;exact⟨_,h,.val (x:=.pointer (some ⟨r.r,off+fd.offset,none⟩)) (by simp only[execOp,u,n,ay,d,aB,aE]) (by simp only[VR,qP];exact⟨r,m,rfl⟩)⟩
    ·cases h
   ·cases h
  ·cases h
 ·rename_i q b j off hx;split at h
  ·rename_i A p;split at h
   ·rename_i fd l;split at h
    ·rename_i hp;obtain⟨y,g⟩:=cf hp;have k:=bv v hx;simp only[VR]at k;obtain⟨r,m,n⟩:=k;have d:=xB p (by simpa using l) g (aM hp) r.r (r.o+(j*q+off)) w;exact⟨_,h,.val (x:=.pointer (some ⟨r.r,r.o+(j*q+off)+fd.offset,none⟩)) (by simp only[execOp,u,n,ay,d,aB,aE]) (by simp only[VR,qP];exact⟨r,m,by rw[gR,gR]⟩)⟩
    ·cases h
   ·cases h
  ·cases h
 ·cases h
def Oj{t:TypeId}{x:Operand}{i:Nat}(r:o.op=.field t x i)(E:TR ι s.T a.tmps)(h:effK P (opd s.T) s.H f (.field t x i) c=some z):
  ∃e,c e=some z/\gY P ι f o a w e:=by
 simp only[effK]at h;split at h
 ·rename_i l hx;have p:=bv E hx;simp only[VR]at p;obtain⟨n,q,j⟩:=p;split at h
  ·rename_i D u;split at h
   ·rename_i fd B;have hf':D[i]?=some fd:=by simpa using B
    split at h
    ·rename_i b;split at h
     ·have A:∃d,P.underlying fd.type=some d:=by
       unfold bY at b;split at b
       ·exact⟨_,by assumption⟩
       ·exact⟨_,by assumption⟩
       ·cases b
      obtain⟨d',g⟩:=A;obtain⟨F,k⟩:=nK g;refine⟨_,h,.val (x:=.agg (n.extract fd.offset (fd.offset+P.cellsOf fd.type))) ?_ (qz (j.extract _ _))⟩;simp only[execOp,r,q,Instr.field,ay,ba u,aB,hf',asAgg,aE,part,lh g,b,aQ,gy k]
     ·cases h
    ·rename_i b;split at h
     ·rename_i d' g;obtain⟨v,C,h⟩:=ax h;obtain⟨y,hy,m⟩:=j.get C;have hy':n[fd.offset]?=some y:=by simpa using hy
      refine⟨_,h,.val (x:=y) ?_ m⟩;simp only[execOp,r,q,Instr.field,ay,ba u,aB,hf',asAgg,aE,part,lh g,b,bU,aG,hy']
     ·cases h
   ·cases h
  ·cases h
 ·cases h
def pQ{t e:TypeId}{m:Nat}{c:TypeInfo}(b:P.underlying t=some (.array m e))(hi:P.info? e=some c)(k:IntKind){n:Int}(d:0<=n)(a:n<m)(r off:Nat)(w:World):
  (Instr.indexAt t (.pointer (some ⟨r,off,none⟩)) (.int k n)).run P w=.ok (.pointer (some ⟨r,off+n.toNat*P.cellsOf e,none⟩)) w:=by
 simp only[Instr.indexAt,asIntOf,ay,aE,aB,ba b,Instr.sureAddr,d,a,and_self,aQ,gy hi,nZ]
def mu{t e:TypeId}{m cp:Nat}{c:TypeInfo}(b:P.underlying t=some (.slice e))(hi:P.info? e=some c)(k:IntKind){n:Int}(d:0<=n)(a:n<m)(r off:Nat)(w:World):
  (Instr.indexAt t (.slice (some ⟨r,off,none⟩) m cp) (.int k n)).run P w=.ok (.pointer (some ⟨r,off+n.toNat*P.cellsOf e,none⟩)) w:=by
 simp only[Instr.indexAt,asIntOf,ay,aE,aB,ba b,d,a,and_self,aQ,gy hi,nZ]
def Cm{t:TypeId}{x i:Operand}(F:o.op=.indexAddr t x i)(D:TR ι s.T a.tmps)(M:WR ι s.H s.nb w)(h:effK P (opd s.T) s.H f (.indexAddr t x i) c=some z):
  ∃e,c e=some z/\gY P ι f o a w e:=by
 simp only[effK]at h;split at h
 case h_2=>cases h
 rename_i k n hi;have u:=bv D hi;simp only[VR]at u;split at h
 ·rename_i m e E;split at h
  ·rename_i b off hx;have p:=bv D hx;simp only[VR]at p;obtain⟨r,v,B⟩:=p;split at h
   ·rename_i hp;obtain⟨I,g⟩:=cf hp;obtain⟨j,C,h⟩:=ax h;obtain⟨g0,A,rfl⟩:=o7 C;have d:=pQ E g k g0 A r.r off w;exact⟨_,h,.val (x:=.pointer (some ⟨r.r,off+n.toNat*P.cellsOf e,none⟩)) (by simp only[execOp,F,B,u,ay,d,aB,aE]) (by simp only[VR,qP,yq];exact⟨r,v,rfl⟩)⟩
   ·cases h
  ·rename_i J b K off hx;have p:=bv D hx;simp only[VR]at p;obtain⟨r,v,B⟩:=p;split at h
   ·rename_i hp;obtain⟨I,g⟩:=cf hp;obtain⟨j,C,h⟩:=ax h;obtain⟨g0,A,rfl⟩:=o7 C;have d:=pQ E g k g0 A r.r (r.o+(K*J+off)) w;exact⟨_,h,.val (x:=.pointer (some ⟨r.r,r.o+(K*J+off)+n.toNat*P.cellsOf e,none⟩)) (by simp only[execOp,F,B,u,ay,d,aB,aE]) (by simp only[VR,qP,yq];exact⟨r,v,by rw[gR,gR]⟩)⟩
   ·cases h
  ·cases h
 ·rename_i e E;split at h
  ·rename_i b off m cp hx;have p:=bv D hx;simp only[VR]at p;obtain⟨r,cap,v,_,_,B⟩:=p;split at h
   ·rename_i hp;obtain⟨I,g⟩:=cf hp;obtain⟨j,C,h⟩:=ax h;obtain⟨g0,A,rfl⟩:=o7 C;have d:=mu (cp:=cap) E g k g0 A r.r off w;exact⟨_,h,.val (x:=.pointer (some ⟨r.r,off+n.toNat*P.cellsOf e,none⟩)) (by simp only[execOp,F,B,u,ay,d,aB,aE]) (by simp only[VR,qP,yq];exact⟨r,v,rfl⟩)⟩
   ·cases h
  ·rename_i b hx;have p:=bv D hx;simp only[VR]at p;split at h
   case h_2=>cases h
   rename_i tr l N;split at h
   case h_2=>cases h
   rename_i hp;simp only[aA,jB]at hp;obtain⟨L,hp⟩:=hp;obtain⟨I,g⟩:=cf hp;obtain⟨j,C,h⟩:=ax h;obtain⟨g0,A,rfl⟩:=o7 C;rcases jQ M N with⟨q,U,Z,fr,G,Y,O,W,Q,S,X⟩ | ⟨G,rfl⟩
   ·rcases p with⟨V,v,B⟩ | ⟨v,_⟩
    ·rw[v]at G;cases G;have g1':n<(q.n:Int):=by rw[<-O];exact A
     have d:=mu (cp:=q.k) E g k g0 g1' q.r q.o w;exact⟨_,h,.val (x:=.pointer (some ⟨q.r,q.o+n.toNat*P.cellsOf e,none⟩)) (by simp only[execOp,F,B,u,ay,d,aB,aE]) (by simp only[VR];exact⟨q,v,by rw[dP]⟩)⟩
    ·rw[v]at G;cases G
   ·simp at A;omega
  ·rename_i J b R m _ hx;have p:=bv D hx;simp only[VR]at p;split at h
   case h_2=>cases h
   rename_i hp;simp only[aA,jB]at hp;obtain⟨rfl,hp⟩:=hp;obtain⟨I,g⟩:=cf hp;obtain⟨j,C,h⟩:=ax h;obtain⟨g0,A,rfl⟩:=o7 C;rcases p with⟨q,cp,off,v,_,y,B⟩ | ⟨_,⟨rfl,_⟩,_⟩
   ·have d:=mu (cp:=cp) E g k g0 A q.r off w;have y:=y (by omega);exact⟨_,h,.val (x:=.pointer (some ⟨q.r,off+n.toNat*P.cellsOf e,none⟩)) (by simp only[execOp,F,B,u,ay,d,aB,aE]) (by simp only[VR,qP];exact⟨q,v,by rw[y,ij,dP,gR]⟩)⟩
   ·omega
  ·cases h
 ·cases h
def jH{t e:TypeId}{m:Nat}{b:TypeInfo}(f:P.underlying t=some (.array m e))(hi:P.info? e=some b)(k:IntKind){n:Int}(d:0<=n)(c:n<m)(a:Array Value)(w:World):
  (Instr.index t (.agg a) (.int k n)).run P w=(part e a (n.toNat*P.cellsOf e)).run P w:=by
 simp only[Instr.index,asIntOf,ay,aE,aB,ba f,d,c,and_self,aQ,gy hi]
def sA{t:TypeId}{d:TypeDesc}(c:P.underlying t=some d)(b:bY P t=false){a:Array Value}{off:Nat}{x:Value}(hx:a[off]?=some x)(w:World):
  (part t a off).run P w=.ok x w:=by
 simp only[part,ay,lh c,b,aB,bU,aG,hx,aE]
def vS{t:TypeId}{d:TypeDesc}(a:P.underlying t=some d)(c:bY P t=true)(b:Array Value)(off:Nat)(w:World):
  (part t b off).run P w=.ok (.agg (b.extract off (off+P.cellsOf t))) w:=by
 obtain⟨i,hi⟩:=nK a;simp only[part,ay,lh a,c,aB,aQ,gy hi,aE]
def wn{t:TypeId}(f:P.underlying t=some .string){l:aa}{n:Int}{b:UInt8}(h:sx l n=some b)(k:IntKind)(w:World):
  (Instr.index t (.string ⟨l.toArray⟩) (.int k n)).run P w=.ok (.int .u8 b.toNat) w:=by
 unfold sx at h;split at h
 ·rename_i e;have d:(ByteArray.mk l.toArray)[n.toNat]?=some b:=by
   have a:n.toNat<l.length:=by
    rcases aN n.toNat l.length with c | c
    ·exact c
    ·rw[gh c]at h;cases h
   have hs:n.toNat<(ByteArray.mk l.toArray).size:=a;rw[getElem?_pos (ByteArray.mk l.toArray) n.toNat hs];rw[bq a]at h;simp only[ar]at h ⊢;exact h
  simp only[Instr.index,asIntOf,ay,aE,aB,ba f,e,aQ,d]
 ·cases h
def Pj{t:TypeId}{x i:Operand}(E:o.op=.index t x i)(G:TR ι s.T a.tmps)(h:effK P (opd s.T) s.H f (.index t x i) c=some z):
  ∃e,c e=some z/\gY P ι f o a w e:=by
 simp only[effK]at h;split at h
 case h_2=>cases h
 rename_i k n hi;have d:=bv G hi;simp only[VR]at d;split at h
 ·rename_i m e C;split at h
  ·cases h
  rename_i hp;obtain⟨L,r⟩:=cf hp;split at h
  ·rename_i k' m' l hx;have p:=bv G hx;simp only[VR]at p;obtain⟨S,F⟩:=p;split at h
   ·rename_i k2 g;split at h
    ·rename_i q;have q:=bB q;obtain⟨j,A,h⟩:=ax h;obtain⟨g0,u,rfl⟩:=o7 A;obtain⟨v,p,h⟩:=ax h;refine⟨_,h,.val (x:=.int k' v) ?_ (by simp[VR])⟩;simp only[execOp,E,F,d,ay,jH C r k g0 u];rw[sA g (by simp[bY,g]) (x:=.int k' v) (by simp[q,p])];rfl
    ·cases h
   ·cases h
  ·rename_i l hx;have p:=bv G hx;simp only[VR]at p;obtain⟨J,F,B⟩:=p;split at h
   ·rename_i M g;obtain⟨j,A,h⟩:=ax h;obtain⟨g0,u,rfl⟩:=o7 A;refine⟨_,h,.val (x:=.agg (J.extract (n.toNat*P.cellsOf e) (n.toNat*P.cellsOf e+P.cellsOf e))) ?_ (qz (B.extract _ _))⟩;simp only[execOp,E,F,d,ay,jH C r k g0 u,vS g (by simp[bY,g]),aB,aE]
   ·rename_i m2 Q g;obtain⟨j,A,h⟩:=ax h;obtain⟨g0,u,rfl⟩:=o7 A;refine⟨_,h,.val (x:=.agg (J.extract (n.toNat*P.cellsOf e) (n.toNat*P.cellsOf e+P.cellsOf e))) ?_ (qz (B.extract _ _))⟩;simp only[execOp,E,F,d,ay,jH C r k g0 u,vS g (by simp[bY,g]),aB,aE]
   ·rename_i g;split at h
    ·rename_i q;have q:=bB q;split at h
     ·rename_i N I;obtain⟨j,A,h⟩:=ax h;obtain⟨g0,u,rfl⟩:=o7 A;obtain⟨v,p,h⟩:=ax h;obtain⟨y,hy,D⟩:=B.get (j:=n.toNat) (v:=.s v) (by rw[uS I];simp[p]);refine⟨_,h,.val (x:=y) ?_ D⟩;simp only[execOp,E,F,d,ay,jH C r k g0 u];rw[sA g (by simp[bY,g]) (x:=y) (by simpa[q]using hy)];rfl
     ·cases h
    ·cases h
   ·rename_i d' R O U g;split at h
    ·rename_i q;have q:=bB q;obtain⟨j,A,h⟩:=ax h;obtain⟨g0,u,rfl⟩:=o7 A;obtain⟨v,p,h⟩:=ax h;obtain⟨y,hy,D⟩:=B.get p;refine⟨_,h,.val (x:=y) ?_ D⟩;simp only[execOp,E,F,d,ay,jH C r k g0 u];rw[sA g (by simp only[bY,g];cases d'<;>simp_all) (x:=y) (by simpa[q]using hy)];rfl
    ·cases h
   ·cases h
  ·cases h
 ·rename_i C;split at h
  ·rename_i l hx;have p:=bv G hx;simp only[VR]at p;obtain⟨b,K,h⟩:=ax h;refine⟨_,h,.val (x:=.int .u8 b.toNat) ?_ (by simp[VR])⟩;simp only[execOp,E,p,d,ay,wn C K,aB,aE]
  ·cases h
 ·cases h
def BS{t:TypeId}(a:P.underlying t=some .string){l:aa}{lo hi:Option Value}{L H:Nat}{w:World}
  (b:(Instr.sliceBounds false l.length l.length lo hi none).run P w=.ok (L,H,l.length) w):
  (Instr.sliceAt t (.string ⟨l.toArray⟩) lo hi none).run P w=.ok (.string ⟨((l.take H).drop L).toArray⟩) w:=by
 rw[run_sliceAt_string w t _ _ _ _ a];have hs:(ByteArray.mk l.toArray).size=l.length:=rfl;simp only[Instr.slice,ay,ba a,aB,xk,bU,aG,hs,b,aE];congr 2;apply N1;rw[ByteArray.data_extract];apply lU;simp[List.extract,zT]
def Di{t e:TypeId}{n:Nat}{d:TypeInfo}(c:P.underlying t=some (.array n e))(hi:P.info? e=some d){lo a:Option Value}{L H r off:Nat}{w:World}
  (b:(Instr.sliceBounds false n n lo a none).run P w=.ok (L,H,n) w):
  (Instr.sliceAt t (.pointer (some ⟨r,off,none⟩)) lo a none).run P w=.ok (.slice (some ⟨r,if n=L then off else off+L*P.cellsOf e,none⟩) (H - L) (n - L)) w:=by
 simp only[Instr.sliceAt,ay,ba c,aB,Instr.sureAddr,aE,b,gy hi,nZ];split<;>rfl
def oV{t e:TypeId}{n cp:Nat}{d:TypeInfo}(c:P.underlying t=some (.slice e))(hi:P.info? e=some d){lo a:Option Value}{L H r off:Nat}{w:World}
  (b:(Instr.sliceBounds true n cp lo a none).run P w=.ok (L,H,cp) w):
  (Instr.sliceAt t (.slice (some ⟨r,off,none⟩) n cp) lo a none).run P w=.ok (.slice (some ⟨r,if cp=L then off else off+L*P.cellsOf e,none⟩) (H - L) (cp - L)) w:=by
 simp only[Instr.sliceAt,Instr.slice,ay,ba c,aB,b,gy hi,aE];split
 ·rfl
 ·simp only[fm,nZ]
def ii(n l x y:Nat):cond (Nat.beq n l) x y=if n=l then x else y:=by
 by_cases h:n=l
 ·subst h;simp
 ·have:Nat.beq n l=false:=by
   cases a:Nat.beq n l
   ·rfl
   ·exact absurd (bB a) h
  simp[this,h]
def uK{t e:TypeId}{d:TypeInfo}{b:Option Addr}(f:P.underlying t=some (.slice e))(hi:P.info? e=some d){lo a:Option Value}{w:World}
  (c:(Instr.sliceBounds true 0 0 lo a none).run P w=.ok (0,0,0) w):
  (Instr.sliceAt t (.slice b 0 0) lo a none).run P w=.ok (.slice b 0 0) w:=by
 simp only[Instr.sliceAt,Instr.slice,ay,ba f,aB,c,gy hi,aE,aQ]
def Dw{T:List (Nat×Option V)}(p:TR ι T a.tmps){lo hi:Option Operand}{l h:Option Int}(u:rl (opd T) lo=some l)
  (t:rl (opd T) hi=some h) {len:Nat} {c:Nat->Nat->Option α} (e:(hiK len len h λh=>loK h l λl=>c h l)=some z):
  ∃H L,c H L=some z/\H<=len/\L<=H/\∀n,len<=n->∀w,(Instr.sliceBounds true len n (lo.map a.eval) (hi.map a.eval) none).run P w=.ok (L,H,n) w:=by
 have i:∀{H:Nat},loK H l (c H)=some z->∃L,c H L=some z/\L<=H/\
   ∀w,(match lo.map a.eval with | some v=>Instr.sliceBound v H .sliceB | none=>pure 0).run P w=.ok L w:=by
  intro H e;rcases pP p u with⟨rfl,g⟩ | ⟨k,m,rfl,g⟩
  ·exact⟨0,e,iK _,λw=>by rw[g];rfl⟩
  ·simp only[loK]at e;obtain⟨L,o,j⟩:=ax e;obtain⟨g0,q,rfl⟩:=mn o;exact⟨_,j,by omega,λw=>by rw[g];exact run_sliceBound w k m H .sliceB g0 q⟩
 rcases pP p t with⟨rfl,g⟩ | ⟨k,m,rfl,g⟩
 ·simp only[hiK]at e;obtain⟨L,o,j,d⟩:=i e;refine⟨len,L,o,bg _,j,λn r w=>?_⟩;have d:=d w;rw[g];simp only[Instr.sliceBounds,ay,aE,aB,xk,bU,aG];cases b:lo.map a.eval with
  | none=>rw[b]at d;simp only[aE,xb,ud]at d;simp[d]
  | some v=>rw[b]at d;simp only[]at d;simp[d]
 ·simp only[hiK]at e;obtain⟨H,o,j⟩:=ax e;obtain⟨g0,q,rfl⟩:=mn o;obtain⟨L,x,d,f⟩:=i j;refine⟨_,L,x,by omega,d,λn r w=>?_⟩;have f:=f w;rw[g];have s:=run_sliceBound (P:=P) w k m n .sliceAcap g0 (by omega);simp only[Instr.sliceBounds,ay,aE,aB,xk,bU,aG,aQ,s];cases b:lo.map a.eval with
  | none=>rw[b]at f;simp only[aE,xb,ud]at f;simp[f]
  | some v=>rw[b]at f;simp only[]at f;simp[f]
def MA{t:TypeId}{x:Operand}{lo hi:Option Operand}(G:o.op=.slice t x lo hi none)(I:TR ι s.T a.tmps)(hW:WR ι s.H s.nb w)(h:effK P (opd s.T) s.H f (.slice t x lo hi none) c=some z):
  ∃e,c e=some z/\gY P ι f o a w e:=by
 simp only[effK]at h;obtain⟨v,hx,E⟩:=ax h;obtain⟨l,K,q2⟩:=ax E;obtain⟨W,y,d⟩:=ax q2;clear h E q2;have A:=bv I hx;clear hx;split at d
 ·rename_i D;cases v<;>simp only[reduceCtorEq]at d;rename_i sl;simp only[VR]at A;obtain⟨H,L,g,_,_,_,i,_,B⟩:=xp (P:=P) I K y (isSlice:=false) d;refine⟨_,g,.val (x:=.string ⟨((sl.take H).drop L).toArray⟩) ?_ (by simp[VR])⟩;simp only[execOp,G,A,ay,jo];rw[BS D (B w)];rfl
 ·rename_i n e D;split at d
  case h_2=>cases d
  rename_i hp;obtain⟨ti,p⟩:=cf hp;cases v<;>simp only[reduceCtorEq]at d;rename_i b off;simp only[VR]at A;obtain⟨r,i,u⟩:=A;obtain⟨H,L,g,_,F,C,g4,_,B⟩:=xp (P:=P) I K y (isSlice:=false) d;have V:H<=n:=by
   cases W with
   | none=>exact zr (F rfl)
   | some q=>exact C (by simp)
  refine⟨_,g,.val (x:=.slice (some ⟨r.r,if n=L then off else off+L*P.cellsOf e,none⟩) (H - L) (n - L)) ?_ ?_⟩
  ·simp only[execOp,G,u,ay,jo];rw[Di D p (B w)];rfl
  ·simp only[VR];exact⟨r,n - L,i,λm Q=>by cases Q;rfl,by omega,by rw[ii,qP,yq]⟩
 ·rename_i e D;split at d
  case h_2=>cases d
  rename_i hp;obtain⟨ti,p⟩:=cf hp;cases v<;>try (simp only[reduceCtorEq]at d;done)
  ·rename_i b;simp only[VR]at A;simp only at d;split at d
   case h_2=>cases d
   rename_i tr m Y;split at d
   case h_2=>cases d
   rename_i J;have J:=bB J;obtain⟨H,L,g,F,C,B⟩:=Dw (P:=P) I K y d;rcases jQ hW Y with⟨q,cs,e',fr,E,q2,Z,q5,_,_,_⟩ | ⟨E,rfl⟩
   ·rcases A with⟨q',i,u⟩ | ⟨i,_⟩
    ·rw[i]at E;cases E;refine⟨_,g,.val (x:=.slice (some ⟨q.r,if q.k=L then q.o else q.o+L*P.cellsOf e,none⟩) (H - L) (q.k - L)) ?_ ?_⟩
     ·simp only[execOp,G,u,ay,jo];rw[<-Z,oV D p (B q.k (by omega) w)];rfl
     ·simp only[VR];exact .inl ⟨q,_,_,i,⟨by omega,kW⟩,λO=>by rw[ae (by omega)],rfl⟩
    ·rw[i]at E;cases E
   ·rcases A with⟨q,i,u⟩ | ⟨i,R,u⟩
    ·rw[i]at E;cases E
    ·simp only[aX,Bo]at F C;subst F;simp only[Bo]at C;subst C;refine⟨_,g,.val (x:=.slice R 0 0) ?_ (by unfold VR;exact .inr ⟨i,⟨rfl,kW⟩,R,rfl⟩)⟩;simp only[execOp,G,u,ay,jo];rw[uK D p (B 0 (bg _) w)];rfl
  ·rename_i zz b j n _;simp only[VR]at A;simp only at d;split at d
   case h_2=>cases d
   rename_i J;have J:=bB J;obtain⟨H,L,g,F,C,B⟩:=Dw (P:=P) I K y d;rcases A with⟨q,cp,off,i,⟨M,_⟩,S,u⟩ | ⟨i,⟨rfl,_⟩,R,u⟩
   ·refine⟨_,g,.val (x:=.slice (some ⟨q.r,if cp=L then off else off+L*P.cellsOf e,none⟩) (H - L) (cp - L)) ?_ ?_⟩
    ·simp only[execOp,G,u,ay,jo];rw[oV D p (B cp M w)];rfl
    ·simp only[VR];exact .inl ⟨q,_,_,i,⟨by omega,kW⟩,λO=>by rw[ae (by omega),S (by omega),qP,ij,J,gR],rfl⟩
   ·simp only[Bo]at F;subst F;simp only[Bo]at C;subst C;refine⟨_,g,.val (x:=.slice R 0 0) ?_ (by unfold VR;exact .inr ⟨i,⟨rfl,kW⟩,R,rfl⟩)⟩;simp only[execOp,G,u,ay,jo];rw[uK D p (B 0 (bg _) w)];rfl
  rename_i b off n cap;simp only[VR]at A;obtain⟨r,cp,i,U,M,u⟩:=A;cases cap with
  | some m=>
   obtain rfl:=U m rfl;obtain⟨H,L,g,_,F,C,g4,_,B⟩:=xp (P:=P) I K y (isSlice:=true) d;have V:H<=cp:=by
    cases W with
    | none=>have:=F rfl;omega
    | some q=>exact C (by simp)
   refine⟨_,g,.val (x:=.slice (some ⟨r.r,if cp=L then off else off+L*P.cellsOf e,none⟩) (H - L) (cp - L)) ?_ ?_⟩
   ·simp only[execOp,G,u,ay,jo];rw[oV D p (B w)];rfl
   ·simp only[VR];exact⟨r,cp - L,i,λm Q=>by cases Q;rfl,by omega,by rw[ii,qP,yq]⟩
  | none=>
   have X:l=none:=by
    cases l with
    | none=>rfl
    | some q=>
     cases W with
     | none=>simp[hiK]at d
     | some q=>simp only[hiK]at d;obtain⟨_,_,Z⟩:=ax d;cases Z
   subst X;have N:lo.map a.eval=none:=by
    rcases pP I K with⟨_,g⟩ | ⟨k,m,h0,_⟩
    ·exact g
    ·cases h0
   have key:∃H,c { val:=some (.sl b off H none) }=some z/\H<=n/\(Instr.sliceBounds true n cp (lo.map a.eval) (hi.map a.eval) none).run P w=.ok (0,H,cp) w:=by
    rcases pP I y with⟨rfl,g⟩ | ⟨k,m,rfl,g⟩
    ·simp only[hiK]at d;exact⟨n,d,bg _,by rw[g,N];simp[Instr.sliceBounds]⟩
    ·simp only[hiK]at d;obtain⟨H,h2,h3⟩:=ax d;obtain⟨g0,g1,rfl⟩:=mn h2;refine⟨_,h3,by omega,?_⟩;have Y:=run_sliceBound (P:=P) w k m cp .sliceAcap g0 (by omega);rw[g,N];simp[Instr.sliceBounds,Y]
   obtain⟨H,g,h2,h3⟩:=key;refine⟨_,g,.val (x:=.slice (some ⟨r.r,if cp=0 then off else off+0*P.cellsOf e,none⟩) (H - 0) (cp - 0)) ?_ ?_⟩
   ·simp only[execOp,G,u,ay,jo];rw[oV D p h3];rfl
   ·simp only[VR];exact⟨r,cp,i,λm Q=>(by cases Q),by omega,by simp⟩
 ·cases d
def zo(a:List Int):a.foldl (λ(r:ByteArray) n=>r.push (UInt8.ofNat n.toNat)) ByteArray.empty=⟨(i6 a).toArray⟩:=by
 rw[foldl_push_bytes];apply N1;simp[i6]
def zB{w:World}{r off q m cp:Nat}{l:List Int}{e:TypeId}{fr:Nat×Nat}(h:w.heap[r]?=some (.cells (l.map (Value.int .u8)).toArray e fr))(f:l.length=q)(g:off+m<=q):
  (Conv.bytesToString (.slice (some ⟨r,off,none⟩) m cp)).run P w=.ok (.string ⟨(i6 ((l.drop off).take m)).toArray⟩) w:=by
 have a:(((l.drop off).take m).map (Value.int .u8)).length=m:=by simp;omega
 have hc:=za (P:=P) w ⟨r,off,none⟩ (((l.drop off).take m).map (Value.int .u8)) (λj v b=>by
  have c:j<m:=by
   rcases aN j m with d | d
   ·exact d
   ·rw[gh (by omega)]at b;cases b
  rw[nZ,bh h];rw[nF,ma c,lW]at b;simpa using b)
 rw[a]at hc;rw[run_bytesToString w _ m cp _ hc,zo]
def A9(w:World)(e:TypeId)(s:ByteArray):
  Lib.bytesWorld w e s=World.alloc { w with drawn:=w.drawn+1 } (.cells (Lib.bytesCells w e s) e ((Lib.bytesCells w e s).size,(Lib.bytesCells w e s).size+1)):=by
 have c:=Lib.bytesWorld_at_new w e s;have f:=Lib.bytesWorld_size w e s;have d:(Lib.bytesWorld w e s).heap=w.heap.push (.cells (Lib.bytesCells w e s) e ((Lib.bytesCells w e s).size,(Lib.bytesCells w e s).size+1)):=by
  apply TB;intro j;by_cases b:j=w.heap.size
  ·subst b;rw[c];simp
  ·by_cases a:j<w.heap.size
   ·rw[Lib.bytesWorld_at_old w e s j a,Array.getElem?_push,ae b]
   ·rw[wo (by omega),wo (by simp;omega)]
 show({ (Lib.bytesWorld w e s)with heap:=(Lib.bytesWorld w e s).heap }:World)=_;rw[d];rfl
def sM:∀(l:List Int),l.flatMap (vals [.i .u8])=l.map (Value.int .u8)
 | []=>rfl
 | x::l=>by
  have:=sM l;simp only[oQ,gJ,vals,Lf.val]at this ⊢;rw[this];rfl
def tl{w:World}{r cp:Nat}{l:List Int}{b:Array Value}{e:TypeId}{fr:Nat×Nat}{m:Nat}(h:w.heap[r]?=some (.cells b e fr))(p:m<=b.size)
  {o:Nat} (k:(b.toList.drop o).take (l.length*([Lf.i .u8]:List Lf).length)=l.flatMap (vals [.i .u8])) {j n:Nat} (s:j+n<=l.length):
  (Conv.bytesToString (.slice (some ⟨r,o+j,none⟩) n cp)).run P w=.ok (.string ⟨(i6 ((l.drop j).take n)).toArray⟩) w:=by
 have hl':(b.toList.drop o).take l.length=l.map (Value.int .u8):=by rw[<-sM];simpa using k
 have a:(((l.drop j).take n).map (Value.int .u8)).length=n:=by simp;omega
 have hc:=za (P:=P) w ⟨r,o+j,none⟩ (((l.drop j).take n).map (Value.int .u8)) (λi v c=>by
  have d:i<n:=by
   rcases aN i n with g | g
   ·exact g
   ·rw[gh (by omega)]at c;cases c
  rw[nZ,bh h];rw[nF,ma d,lW]at c;have f:=cT (λq:List Value=>q[j+i]?) hl';simp only[ma (show j+i<l.length by omega),nF,lW]at f;rw[c]at f;simpa[gR]using f)
 rw[a]at hc;rw[run_bytesToString w _ n cp _ hc,zo]
def tt{w:World}(c:Option Addr):(Conv.bytesToString (.slice c 0 0)).run P w=.ok (.string ⟨#[]⟩) w:=by
 cases c with
 | none=>rfl
 | some a=>
  have b:=za (P:=P) w a ([].map (Value.int .u8)) (λj v d=>by simp at d);exact run_bytesToString (P:=P) w a 0 0 [] b
def Gz{B d:TypeId}{x:Operand}(y:o.op=.convert B d x)(hT:TR ι s.T a.tmps)(G:WR ι s.H s.nb w)(h:effK P (opd s.T) s.H f (.convert B d x) c=some z):
  ∃e,c e=some z/\gY P ι f o a w e:=by
 simp only[effK]at h;obtain⟨v,hx,q⟩:=ax h;clear h;have g:=bv hT hx;clear hx;split at q
 case h_2=>cases q
 rename_i C hs;split at q
 ·rename_i k t;cases v<;>simp only[reduceCtorEq]at q;rename_i k' n;simp only[VR]at g;refine⟨_,q,.val (x:=.int k (k.wrap n)) ?_ (by simp[VR])⟩;simp only[execOp,y,g,ay,convert,ba hs,ba t,aB];cases C<;>rfl
 ·rename_i t;cases v<;>simp only[reduceCtorEq]at q
  ·rename_i b;simp only[VR]at g;cases C<;>try (simp only[reduceCtorEq]at q;done)
   rename_i e;simp only at q;split at q
   case h_2=>cases q
   rename_i u;split at q
   case h_2=>cases q
   rename_i l E;refine⟨_,q,.val (x:=.string ⟨(i6 l).toArray⟩) ?_ (by simp[VR])⟩;rcases jQ G E with⟨q,cs,Y,fr,i,R,W,Z,J,N,_⟩ | ⟨i,rfl⟩
   ·rcases g with⟨q',p,A⟩ | ⟨p,_⟩
    ·rw[p]at i;cases i;simp only[execOp,y,A,ay,run_convert_bytes_string w B d e _ _ _ hs u t];rw[<-W];have:=tl (P:=P) (cp:=q.k) R J N (j:=0) (n:=l.length) (by omega);simp only[dk,oq,dP]at this;rw[this];rfl
    ·rw[p]at i;cases i
   ·rcases g with⟨q,p,A⟩ | ⟨p,Q,A⟩
    ·rw[p]at i;cases i
    ·simp only[execOp,y,A,ay,run_convert_bytes_string w B d e Q 0 0 hs u t,tt];rfl
  ·rename_i zz b j n _;simp only[VR]at g;cases C<;>try (simp only[reduceCtorEq]at q;done)
   rename_i e;simp only at q;split at q
   case h_2=>cases q
   rename_i u;split at q
   case h_2=>cases q
   rename_i l E;split at q
   case h_2=>cases q
   rename_i L;have L:=bB L;subst L;obtain⟨hc,q⟩:=ei q;have D:=aM hc;refine⟨_,q,.val (x:=.string ⟨(i6 ((l.drop j).take n)).toArray⟩) ?_ (by simp[VR])⟩;rcases g with⟨V,cp,off,p,⟨O,_⟩,S,A⟩ | ⟨p,⟨rfl,_⟩,Q,A⟩
   ·rcases jQ G E with⟨q',cs,Y,fr,i,R,W,Z,J,N,_⟩ | ⟨i,rfl⟩
    ·rw[p]at i;cases i;simp only[execOp,y,A,ay,run_convert_bytes_string w B d e _ _ _ hs u t];by_cases hn:0<n
     ·rw[S hn,rr];rw[tl (P:=P) (cp:=cp) R J N D];rfl
     ·have K:n=0:=by omega
      subst K;have U:=za (P:=P) w ⟨V.r,off,none⟩ ([].map (Value.int .u8)) (λj v X=>by simp at X);have h0:=run_bytesToString (P:=P) w ⟨V.r,off,none⟩ 0 cp [] U;rw[h0];simp[i6];rfl
    ·rw[p]at i;cases i
   ·simp only[execOp,y,A,ay,run_convert_bytes_string w B d e Q 0 0 hs u t,tt];simp[i6]
  ·rename_i k' n;simp only[VR]at g;cases C<;>simp only[reduceCtorEq]at q;refine⟨_,q,.val (x:=.string (Utf8.encode n)) ?_ ?_⟩
   ·simp only[execOp,y,g,ay,convert,ba hs,ba t,aB,Conv.intToString,aE]
   ·simp[VR]
  ·rename_i l;simp only[VR]at g;cases C<;>simp only[reduceCtorEq]at q;refine⟨_,q,.val (x:=.string ⟨l.toArray⟩) ?_ (by simp[VR])⟩;simp only[execOp,y,g,ay,convert,ba hs,ba t,aB,aE]
  ·simp only[VR]at g;cases C<;>try (simp only[reduceCtorEq]at q;done)
   rename_i e;simp only at q;split at q
   ·rename_i u;refine⟨_,q,.val (x:=.string .empty) ?_ (by simp only[VR];rfl)⟩;simp only[execOp,y,g,ay,run_convert_bytes_string w B d e none 0 0 hs u t];rfl
   ·cases q
  ·rename_i b off m cap;simp only[VR]at g;obtain⟨r,cp,p,_,_,A⟩:=g;cases C<;>try (simp only[reduceCtorEq]at q;done)
   rename_i e;simp only at q;split at q
   ·rename_i u;split at q
    ·rename_i qn l E;obtain⟨hc,q⟩:=ei q;have D:=aM hc;obtain⟨r',Y,fr,O,S,g3,_⟩:=wX G E;rw[p]at O;cases O;refine⟨_,q,.val (x:=.string ⟨(i6 ((l.drop off).take m)).toArray⟩) ?_ (by simp[VR])⟩;simp only[execOp,y,A,ay,run_convert_bytes_string w B d e _ _ _ hs u t,zB S g3 D,aB,aE]
    ·cases q
   ·cases q
 ·rename_i e t;split at q
  case h_2=>cases q
  rename_i u;cases v<;>try (simp only[reduceCtorEq]at q;done)
  rename_i l;simp only[VR]at g;cases C<;>simp only[reduceCtorEq]at q;refine⟨_,q,.mkR (d:=w.drawn+1) (q:=(Rf.of w.heap.size (l.length) (grownCap w l.length 0 e))) (x:=.slice (some ⟨w.heap.size,0,none⟩) l.length (grownCap w l.length 0 e))
   (ob:=.cells (Lib.bytesCells w e ⟨l.toArray⟩) e ((Lib.bytesCells w e ⟨l.toArray⟩).size,(Lib.bytesCells w e ⟨l.toArray⟩).size+1)) ?_ rfl rfl ?_ ?_⟩
  ·simp only[execOp,y,g,ay,Lib.run_convert_string_bytes w B d e ⟨l.toArray⟩ hs t u,aB,aE,A9];rfl
  ·have F:l.length<=grownCap w l.length 0 e:=by simp only[grownCap,Question.cut];omega
   have M:((ByteArray.mk l.toArray).data.map λb=>Value.int .u8 b.toNat).size=l.length:=by simp
   refine⟨_,e,_,rfl,by simp,F,?_,?_,?_⟩
   ·simp only[Lib.bytesCells,Array.size_append,M,Array.size_replicate,aC,aX];have:(ByteArray.mk l.toArray).size=l.length:=rfl;rw[this];omega
   ·simp only[Lib.bytesCells,xJ,vN,aC,aX,cU,rr,dk];rw[vn (by simp),jK (by simp)];rw[sM,Array.toList_map,uh];rfl
   ·refine .inr λj X I=>?_;exact absurd I.1 (by simp only;omega)
  ·simp only[VR];exact .inl ⟨_,dO _ _ _,rfl⟩
 ·cases q
def Ru{S:Call}(Q:o.op=.call S)(hT:TR ι s.T a.tmps)(Y:WR ι s.H s.nb w)(h:effK P (opd s.T) s.H f (.call S) c=some z):
  ∃e,c e=some z/\gY P ι f o a w e:=by
 obtain⟨R,args,D⟩:=S;simp only[effK]at h;split at h
 case h_2=>cases h
 rename_i b;obtain⟨l,hl,q⟩:=ax h;clear h;have g:=yW hT hl;have J:(args.map a.eval).toList=args.toList.map a.eval:=by simp
 rw[<-J]at g;generalize W:args.map a.eval=A at g;have v:∃U,∀w,((do let d <-resolve a.eval ⟨.builtin b,args,D⟩ o.type;invoke d.target d.args):Sem Next).run P w=(builtin b D o.type U A).run P w:=by
  refine⟨args.map fun | .const _=>true | _=>false,λw=>?_⟩;simp only[resolve,W,ay,aE,aB,invoke];rfl
 obtain⟨U,v⟩:=v;have one:∀{X:Value},A.toList=[X]->A[0]?=some X:=by
  intro X p;have:A=#[X]:=by apply lU;simpa using p
  simp[this]
 have E:∀{t:TypeId} {r:List TypeId},D.toList=t::r->D[0]?=some t:=by
  intro t r u;rw[<-qB,u];rfl
 have j:∀{n:Int} {rd:List Nat},b=.len->(∀w,(Builtin.len_ D o.type A).run P w=.ok (goInt n) w)->c { val:=some (.i .i64 n),rd:=rd }=some z->∃e,c e=some z/\gY P ι f o a w e:=by
  intro n rd N F hc;subst N;refine⟨_,hc,.val (x:=.int .i64 n) ?_ (by simp[VR])⟩;simp only[execOp,Q];rw[v w];simp only[builtin,ay,F,aB,aE,goInt]
 have C:∀{n:Int} {rd:List Nat},b=.cap->(∀w,(Builtin.cap_ D o.type A).run P w=.ok (goInt n) w)->c { val:=some (.i .i64 n),rd:=rd }=some z->∃e,c e=some z/\gY P ι f o a w e:=by
  intro n rd N F hc;subst N;refine⟨_,hc,.val (x:=.int .i64 n) ?_ (by simp[VR])⟩;simp only[execOp,Q];rw[v w];simp only[builtin,ay,F,aB,aE,goInt]
 split at q
 ·split at q
  ·rename_i sl;simp only[VRs,VR]at g;obtain⟨_,_,p,rfl,rfl⟩:=g;split at q
   ·rename_i t r u;split at q
    ·rename_i B;refine j rfl (λw=>?_) q;simp only[Builtin.len_,E u,one p,ay,ba B,aB,aE];rfl
    ·cases q
   ·cases q
  ·rename_i O oo n cp;simp only[VRs,VR]at g;obtain⟨_,_,p,⟨r,cap,_,_,_,rfl⟩,rfl⟩:=g;split at q
   ·rename_i t r u;split at q
    ·rename_i B;refine j rfl (λw=>?_) q;simp only[Builtin.len_,E u,one p,ay,ba B,aB,aE]
    ·cases q
   ·cases q
  ·simp only[VRs,VR]at g;obtain⟨_,_,p,rfl,rfl⟩:=g;split at q
   ·rename_i t r u;split at q
    ·rename_i B;refine j rfl (λw=>?_) q;simp only[Builtin.len_,E u,one p,ay,ba B,aB,aE];rfl
    ·cases q
   ·cases q
  ·rename_i O;simp only[VRs,VR]at g;obtain⟨_,_,p,M,rfl⟩:=g;split at q
   ·rename_i t r u;split at q
    ·rename_i B;split at q
     ·rename_i tr l N;refine j (rd:=[O]) rfl (λw=>?_) q;rcases jQ Y N with⟨q,U,e',fr,L,q2,q4,q5,q6,q7,_⟩ | ⟨L,rfl⟩
      ·rcases M with⟨q',G,rfl⟩ | ⟨G,_⟩
       ·rw[G]at L;cases L;simp only[Builtin.len_,E u,one p,ay,ba B,aB,aE,q4]
       ·rw[G]at L;cases L
      ·rcases M with⟨q,G,_⟩ | ⟨G,V,rfl⟩
       ·rw[G]at L;cases L
       ·simp only[Builtin.len_,E u,one p,ay,ba B,aB,aE];rfl
     ·cases q
    ·cases q
   ·cases q
  ·rename_i zz O jj n _;simp only[VRs,VR]at g;obtain⟨_,_,p,M,rfl⟩:=g;split at q
   ·rename_i t r u;split at q
    ·rename_i B;refine j rfl (λw=>?_) q;rcases M with⟨q,cp,off,G,_,_,rfl⟩ | ⟨_,⟨rfl,_⟩,V,rfl⟩
     ·simp only[Builtin.len_,E u,one p,ay,ba B,aB,aE]
     ·simp only[Builtin.len_,E u,one p,ay,ba B,aB,aE]
    ·cases q
   ·cases q
  ·simp only[VRs]at g;obtain⟨X,_,p,_,rfl⟩:=g;split at q
   ·rename_i t r u;split at q
    ·rename_i B;refine j rfl (λw=>?_) q;simp only[Builtin.len_,E u,one p,ay,ba B,aB,aE]
    ·cases q
   ·cases q
  ·cases q
 ·split at q
  ·rename_i zz O jj Z m;simp only[VRs,VR]at g;obtain⟨_,_,p,M,rfl⟩:=g;split at q
   ·rename_i t r u;split at q
    ·rename_i B;refine C rfl (λw=>?_) q;rcases M with⟨q,cp,off,G,⟨_,hc⟩,_,rfl⟩ | ⟨_,⟨_,hc⟩,V,rfl⟩
     ·have:=hc m rfl;subst this;simp only[Builtin.cap_,E u,one p,ay,ba B,aB,aE]
     ·have:=hc m rfl;subst this;simp only[Builtin.cap_,E u,one p,ay,ba B,aB,aE]
    ·cases q
   ·cases q
  ·rename_i O oo Z m;simp only[VRs,VR]at g;obtain⟨_,_,p,⟨qq,cp,G,hc,_,rfl⟩,rfl⟩:=g;split at q
   ·rename_i t r u;split at q
    ·rename_i B;refine C rfl (λw=>?_) q;have:=hc m rfl;subst this;simp only[Builtin.cap_,E u,one p,ay,ba B,aB,aE]
    ·cases q
   ·cases q
  ·simp only[VRs,VR]at g;obtain⟨_,_,p,rfl,rfl⟩:=g;split at q
   ·rename_i t r u;split at q
    ·rename_i B;refine C rfl (λw=>?_) q;simp only[Builtin.cap_,E u,one p,ay,ba B,aB,aE];rfl
    ·cases q
   ·cases q
  ·cases q
 ·split at q
  ·rename_i k x k' y;split at q
   ·rename_i K;have K:=lM K;subst K;simp only[VRs,VR]at g;obtain⟨_,_,p,rfl,_,_,rfl,rfl,rfl⟩:=g;refine⟨_,q,.val (x:=.int k (cond (decide (y<x)) y x)) ?_ (by simp[VR])⟩;simp only[execOp,Q];rw[v w];simp only[builtin,ay,Builtin.min_,p,List.foldlM,Builtin.min2,aE,aB];by_cases I:y<x<;>simp[I]
   ·cases q
  ·cases q
 ·split at q
  ·rename_i k x k' y;split at q
   ·rename_i K;have K:=lM K;subst K;simp only[VRs,VR]at g;obtain⟨_,_,p,rfl,_,_,rfl,rfl,rfl⟩:=g;refine⟨_,q,.val (x:=.int k (cond (decide (y>x)) y x)) ?_ (by simp[VR])⟩;simp only[execOp,Q];rw[v w];simp only[builtin,ay,Builtin.max_,p,List.foldlM,Builtin.max2,aE,aB];by_cases I:y>x<;>simp[I]
   ·cases q
  ·cases q
 ·cases q
def X8{op:UnOp}{x:V}{X:Value}{c:V->Option α}(h:unK op x c=some z)(hx:VR ι x X)(w:World):
  ∃v R,c v=some z/\VR ι v R/\(Op.unary op X).run P w=.ok R w:=by
 unfold unK at h;split at h
 ·simp only[VR]at hx;subst hx;exact⟨_,_,h,rfl,rfl⟩
 ·simp only[VR]at hx;subst hx;exact⟨_,_,h,rfl,rfl⟩
 ·cases h
def Q2{x:Operand}{j:Bool}(y:o.op=.next x j)(E:TR ι s.T a.tmps)(D:WR ι s.H s.nb w)(h:effK P (opd s.T) s.H f (.next x j) c=some z):
  ∃e,c e=some z/\gY P ι f o a w e:=by
 simp only[effK]at h;split at h
 case h_2=>cases h
 rename_i b hx;have n:=bv E hx;simp only[VR]at n;obtain⟨r,q,v⟩:=n;split at h
 case h_2=>cases h
 rename_i l pos B;obtain⟨F,ob,t,m,p⟩:=(D.blk b _ B (by simp)).real (by simp);rw[q]at t;cases t;simp only[BR]at p;subst p;have k:(ByteArray.mk l.toArray).size=l.length:=rfl;have d:(getObj r.r).run P w=.ok (.stringIter ⟨l.toArray⟩ pos) w:=by simp[getObj,Sem.run,m]
 cases hc:Nat.blt pos l.length with
 | false=>
  rw[hc]at h;have C:¬pos<l.length:=λg=>by rw[show Nat.blt pos l.length=true from cr g]at hc;cases hc
  refine⟨_,h,.val (x:=.tuple #[.bool false]) ?_ (by simp[VR,VRs])⟩;simp only[execOp,y,v,Instr.next,ay,d,aB,k,C,aG,aE]
 | true=>
  rw[hc]at h;have g:pos<l.length:=aM hc;refine⟨_,h,?_⟩;unfold gY;have i:∀ob,(Go.setObj r.r ob).run P w=.ok () (setObj w r.r ob):=by
   intro ob;simp[Go.setObj,Sem.run,m,setObj]
  refine⟨r,q,λ_=>⟨.stringIter ⟨l.toArray⟩ (pos+(dec l pos).2),.value (.tuple #[.bool true,.int .i64 pos,.int .i32 (dec l pos).1]),?_,rfl,.value _ λu A=>by cases A;simp[VR,VRs]⟩⟩;simp only[execOp,y,v,Instr.next,ay,d,aB,k,g,aQ,i,aE,dec,goInt]
def HY{t:List Lf}(x:den t):∀n,(List.replicate n x).flatMap (vals t)=(List.replicate n (vals t x)).flatten
 | 0=>rfl
 | n+1=>by simp[tC,oQ,HY x n]
def Om{l:List Value}:∀n:Nat,(List.replicate n l).flatten.length=n*l.length
 | 0=>by simp
 | n+1=>by rw[tC,List.flatten_cons,aH,Om n,ij];omega
def Lm{l:List Value}:∀(n j:Nat),j<n*l.length->(List.replicate n l).flatten[j]?=l[j%l.length]?
 | 0,j,h=>by simp at h
 | n+1,j,h=>by
  simp only[tC,List.flatten_cons];by_cases a:j<l.length
  ·rw[om a,rO a]
  ·rw[rf (by omega),Lm n _ (by rw[ij]at h;omega),<-Nat.mod_eq_sub_mod (by omega)]
def BF{t:TypeId}{x y:Operand}(S:o.op=.makeSlice t x y)(L:TR ι s.T a.tmps)(h:effK P (opd s.T) s.H f (.makeSlice t x y) c=some z):
  ∃e,c e=some z/\gY P ι f o a w e:=by
 simp only[effK]at h;obtain⟨u,D,Q⟩:=ax h;obtain⟨v,E,b⟩:=ax Q;clear h Q;have D:=bv L D;have E:=bv L E;split at b
 case h_2=>cases b
 rename_i e V;split at b
 case h_2=>cases b
 rename_i k1 n k2 m _ _;simp only[VR]at D E;obtain⟨zv,F,b⟩:=ax b;split at b
 case h_2=>cases b
 rename_i tr p _ l;split at b
 case h_2=>cases b
 rename_i O;simp only[aA,jB]at O;obtain⟨M,e2,N,G⟩:=O;have N:=aM N;have G:=aM G;obtain⟨Y,I,b⟩:=ax b;obtain⟨hc,b⟩:=ei b;simp only[aA,cb]at hc;obtain⟨Z,c1,c2⟩:=hc;obtain⟨zc,i,K,X,h3,_⟩:=wE ι F;rw[l]at K;cases K;have g:=n7 h3;rw[wJ I]at g;have g:=(og ι tr Y _).1 g;have r:p.size=P.cellsOf e:=by unfold Program.cellsOf;rw[l];rfl
 have W:m=(m.toNat:Int):=by omega
 have B:=run_make (P:=P) w t e p zc V l X k1 k2 n m Z c1 (by
  rw[W,<-Iu];have:p.bytes*m.toNat<=1048576*67108864:=xw G (by omega);omega) (by omega)
 refine⟨_,b,.mkR (d:=w.drawn) (q:=(Rf.of w.heap.size (n.toNat) (m.toNat))) (x:=.slice (some ⟨w.heap.size,0,none⟩) n.toNat m.toNat) (ob:=.cells (madeCells zc.cells (m.toNat*p.size)) e) ?_ rfl rfl ?_ ?_⟩
 ·simp only[execOp,S,D,E,ay,B,aB,aE]
 ·have J:(madeCells zc.cells (m.toNat*p.size)).size=m.toNat*p.size:=size_madeCells _ _;refine⟨_,e,_,rfl,by simp,by simp only;omega,by rw[J,r,M];simp,?_,.inr (tV _)⟩;simp only[dk];rw[HY,List.length_replicate,<-g];apply AT;intro j;have k:zc.cells.toList.length=tr.length:=by rw[g,ia]
  have A:zc.cells.size=tr.length:=by simpa using k
  have U:n.toNat*tr.length<=m.toNat*tr.length:=pa _ (by omega);by_cases R:j<n.toNat*tr.length
  ·rw[ma R,Lm n.toNat j (by rw[k];exact R),k];have C:j%tr.length<zc.cells.size:=by rw[A];exact rk _ (by omega)
   simp only[madeCells,r,<-M,A];rw[qB,Array.getElem?_map,Array.getElem?_range];simp[show j<m.toNat*tr.length by omega,C]
  ·rw[gh (by rw[cS];omega),gh (by rw[Om,k];omega)]
 ·simp only[VR];exact .inl ⟨_,dO _ _ _,rfl⟩
def VN{op:BinOp}{t:TypeId}{x y:Operand}{u v:V}{r:Bool}{X Y:Value}(h:niK P op t x y u v=some r)(hx:VR ι u X)(hy:VR ι v Y)(w:World):
  (eqGuard op t x y X Y).run P w=.ok () w/\(binOp op t X Y).run P w=.ok (.bool r) w:=by
 unfold niK at h;split at h
 case h_2=>cases h
 simp only[VR]at hx hy;subst hx hy;split at h
 case h_2=>cases h
 rename_i hc;split at h
 case h_2=>cases h
 rename_i f e;have c:∀o:BinOp,o=.eql\/o=.neq->(eqGuard o t x y .nilIface .nilIface).run P w=.ok () w:=by
  intro o d;have a:(∃v,x=.const v)\/∃v,y=.const v:=by
   rw[iG]at hc;refine hc.imp (λh=>?_) (λh=>?_)
   ·cases x<;>simp_all[Iy]
   ·cases y<;>simp_all[Iy]
  rcases a with⟨v,rfl⟩ | ⟨v,rfl⟩<;>rcases d with rfl | rfl<;>simp[eqGuard]
 have b:(Op.equal t .nilIface .nilIface).run P w=.ok true w:=by rw[fe,Op.equalIn];simp[ba e]
 split at h
 ·simp only[ar]at h;subst h;exact⟨c _ (.inl rfl),by simp[binOp,b]⟩
 ·simp only[ar]at h;subst h;exact⟨c _ (.inr rfl),by simp[binOp,b]⟩
 ·cases h
def li{t e:TypeId}{c:TypeInfo}(l:P.underlying t=some (.slice e))(hi:P.info? e=some c){n cp:Nat}{a:Option Addr}{k k':IntKind}{h m:Int}{H M:Nat}(g:bx n m=some M)(f:bx M h=some H)(p:n<=cp)(w:World):
  (Instr.sliceAt t (.slice a n cp) none (some (.int k h)) (some (.int k' m))).run P w=.ok (.slice a H M) w:=by
 obtain⟨m0,m1,rfl⟩:=mn g;obtain⟨i,d,rfl⟩:=mn f;have b:=run_sliceBound (P:=P) w k' m cp .slice3Acap m0 (by omega);have j:=run_sliceBound (P:=P) w k h m.toNat .slice3B i d;simp only[Instr.sliceAt,Instr.slice,ay,ba l,aB,Instr.sliceBounds,aQ,b,j,aE,gy hi,tX,CN];split
 ·rfl
 ·cases a with
  | none=>rfl
  | some q=>obtain⟨r,o,x⟩:=q;simp[Addr.add]
def J1{t:TypeId}{x mx:Operand}{lo hi:Option Operand}(F:o.op=.slice t x lo hi (some mx))(K:TR ι s.T a.tmps)(W:WR ι s.H s.nb w)(h:effK P (opd s.T) s.H f (.slice t x lo hi (some mx)) c=some z):
  ∃e,c e=some z/\gY P ι f o a w e:=by
 simp only[effK,vo]at h;split at h
 case h_2=>cases h
 rename_i hh;obtain⟨v,hx,d⟩:=ax h;clear h;have B:=bv K hx;clear hx;split at d
 case h_2=>cases d
 rename_i k1 Y k2 m1 L N;have D:=bv K L;have E:=bv K N;simp only[VR]at D E;split at d
 case h_2=>cases d
 rename_i e G;split at d
 case h_2=>cases d
 rename_i hp;obtain⟨ti,m⟩:=cf hp;split at d
 ·rename_i b;split at d
  case h_2=>cases d
  rename_i tr l X;split at d
  case h_2=>cases d
  obtain⟨M,p,J⟩:=ax d;obtain⟨H,u,A⟩:=ax J;obtain⟨m0,m2,Q⟩:=mn p;obtain⟨S,U,V⟩:=mn u;simp only[VR]at B;rcases jQ W X with⟨q,cs,e',fr,C,r2,r4,r5,_,_,_⟩ | ⟨C,rfl⟩
  ·rcases B with⟨q',g,y⟩ | ⟨g,_⟩
   ·rw[g]at C;cases C;refine⟨_,A,.val (x:=.slice (some ⟨q.r,q.o,none⟩) H M) ?_ ?_⟩
    ·simp only[execOp,F,y,D,E,ay,jo,fm];rw[<-r4,li G m p u (by omega) w];rfl
    ·simp only[VR];exact .inl ⟨q,_,_,g,⟨by omega,sP⟩,λ_=>by omega,rfl⟩
   ·rw[g]at C;cases C
  ·rcases B with⟨q,g,y⟩ | ⟨g,I,y⟩
   ·rw[g]at C;cases C
   ·simp only[aX]at m2;have k:M=0:=by omega
    have i:H=0:=by omega
    subst k i;refine⟨_,A,.val (x:=.slice I 0 0) ?_ (by unfold VR;exact .inr ⟨g,⟨rfl,sP⟩,I,rfl⟩)⟩;simp only[execOp,F,y,D,E,ay,jo,fm];rw[li G m (n:=0) (M:=0) p u (by omega) w];rfl
 ·rename_i zz b j n _;obtain⟨M,p,J⟩:=ax d;obtain⟨H,u,A⟩:=ax J;obtain⟨m0,m2,Q⟩:=mn p;obtain⟨S,U,V⟩:=mn u;simp only[VR]at B;rcases B with⟨q,cp,off,g,⟨O,_⟩,Z,y⟩ | ⟨g,⟨O,_⟩,I,y⟩
  ·refine⟨_,A,.val (x:=.slice (some ⟨q.r,off,none⟩) H M) ?_ ?_⟩
   ·simp only[execOp,F,y,D,E,ay,jo,fm];rw[li G m p u O w];rfl
   ·simp only[VR];exact .inl ⟨q,_,_,g,⟨by omega,sP⟩,λR=>Z (by omega),rfl⟩
  ·subst O;have k:M=0:=by omega
   have i:H=0:=by omega
   subst k i;refine⟨_,A,.val (x:=.slice I 0 0) ?_ (by unfold VR;exact .inr ⟨g,⟨rfl,sP⟩,I,rfl⟩)⟩;simp only[execOp,F,y,D,E,ay,jo,fm];rw[li G m (n:=0) (M:=0) p u (by omega) w];rfl
 ·obtain⟨M,p,J⟩:=ax d;obtain⟨H,u,A⟩:=ax J;obtain⟨m0,m2,Q⟩:=mn p;obtain⟨S,U,V⟩:=mn u;simp only[VR]at B;have k:M=0:=by omega
  have i:H=0:=by omega
  subst k i;refine⟨_,A,.val (x:=.slice none 0 0) ?_ (by simp only[VR])⟩;simp only[execOp,F,B,D,E,ay,jo,fm];rw[li G m (n:=0) (M:=0) p u (by omega) w];rfl
 ·cases d
def Yb{op:BinOp}{t:TypeId}{u v:V}{r:Bool}{n:Nat}{rd:List Nat}{X Y:Value}{H:List (Nat×Blk)}{nb:Nat}(h:slN P op t u v=some r)(a:slL H u=some (n,rd))(x:0<n)(k:WR ι H nb w)(hx:VR ι u X)(hy:VR ι v Y)(p q:Operand):
  (eqGuard op t p q X Y).run P w=.ok () w/\(binOp op t X Y).run P w=.ok (.bool r) w:=by
 unfold slN at h;split at h
 case h_2=>cases h
 simp only[VR]at hy;subst hy;have b:∀(A:Addr) (n c:Nat),X=.slice (some A) n c->P.underlying t=(P.underlying t)->∀e,P.underlying t=some (.slice e)->
   ((eqGuard .eql t p q X (.slice none 0 0)).run P w=.ok () w/\(binOp .eql t X (.slice none 0 0)).run P w=.ok (.bool false) w)/\
   ((eqGuard .neq t p q X (.slice none 0 0)).run P w=.ok () w/\(binOp .neq t X (.slice none 0 0)).run P w=.ok (.bool (!false)) w):=by
  rintro A n c rfl _ e g;exact qe p q (.inl (by simp)) (.inl (by simp)) (by simp) (by rw[fe,Op.equalIn];simp[ba g])
 have fin:∀(A:Addr) (n c:Nat),X=.slice (some A) n c->slT P op t=some r->(eqGuard op t p q X (.slice none 0 0)).run P w=.ok () w/\(binOp op t X (.slice none 0 0)).run P w=.ok (.bool r) w:=by
  intro A n c o h;unfold slT at h;split at h
  case h_2=>cases h
  rename_i e g;obtain⟨m1,m2⟩:=b A n c o rfl e g;split at h
  ·simp only[ar]at h;subst h;exact m1
  ·simp only[ar]at h;subst h;exact m2
  ·cases h
 split at h
 ·rename_i c;simp only[slL]at a;split at a
  case h_2=>cases a
  rename_i tr l s;simp only[ar,bm]at a;obtain⟨rfl,_⟩:=a;simp only[VR]at hx;rcases jQ k s with⟨E,C,I,fr,i,D,r4,_⟩ | ⟨i,rfl⟩
  ·rcases hx with⟨B,d,f⟩ | ⟨d,_⟩
   ·exact fin _ _ _ f h
   ·rw[d]at i;cases i
  ·simp at x
 ·rename_i z c j m G;simp only[slL,ar,bm]at a;obtain⟨rfl,_⟩:=a;simp only[VR]at hx;rcases hx with⟨B,F,K,d,f,J,y⟩ | ⟨d,⟨f,_⟩,_⟩
  ·exact fin _ _ _ y h
  ·omega
 ·cases h
def GK{t:TypeId}{x:Option Operand}(b:o.op=.makeMap t x)(h:effK P (opd s.T) s.H f (.makeMap t x) c=some z):∃e,c e=some z/\gY P ι f o a w e:=by
 simp only[effK]at h;split at h
 case h_2=>cases h
 split at h
 case h_2=>cases h
 refine⟨_,h,.mk (x:=.map (some w.heap.size)) (ob:=.map #[] 0) ?_ ⟨#[],0,rfl,rfl⟩ (by simp only[VR];exact⟨_,dO _ _ _,rfl⟩)⟩;simp only[execOp,b,jo,ay];rfl
def Ti{H:List (Nat×Blk)}{nb b:Nat}{w:World}(h:WR ι H nb w){k:IntKind}{l:List (Int×Nat)}(f:look H b=some (.mp k l)):
  ∃q c a,ι b=some (some q)/\w.heap[q.r]?=some (.map c a)/\c.toList.map (λe=>(e.key,e.val))=l.map λp=>(Value.int k p.1,fnV p.2 #[]):=by
 obtain⟨q,o,d,i,c,a,rfl,g⟩:=(h.blk b _ f (by simp)).real (by simp);exact⟨q,c,a,d,i,g⟩
def Lh{α:Type}{k:IntKind}{n:Int}{c:Nat->Option α}{z:α}:∀(d:List MapEntry) (l:List (Int×Nat)) (i:Nat),d.map (λe=>(e.key,e.val))=l.map (λp=>(Value.int k p.1,fnV p.2 #[]))->mapK l n c=some z->
  ∃g j,c g=some z/\Instr.findNow (.int k) (.int k n) d i=some (some (j,fnV g #[]))
 | [],[],_,_,h=>by cases h
 | [],_::_,_,a,_=>by simp at a
 | _::_,[],_,a,_=>by simp at a
 | e::d,(m,g)::l,i,a,h=>by
  simp only[gJ,EV,bm]at a;obtain⟨⟨f,t⟩,o⟩:=a;simp only[mapK]at h;cases b:(n==m)with
  | true=>
   rw[b]at h;exact⟨g,i,h,by simp only[Instr.findNow,f,Instr.sameNow,aQ,b,t]⟩
  | false=>
   rw[b]at h;obtain⟨q,j,s,r⟩:=Lh d l (i+1) o h;exact⟨q,j,s,by simp only[Instr.findNow,f,Instr.sameNow,aQ,b];exact r⟩
def KY{t:TypeId}{m x:Operand}{ok:Bool}(D:o.op=.lookup t m x ok)(p:TR ι s.T a.tmps)(C:WR ι s.H s.nb w)(h:effK P (opd s.T) s.H f (.lookup t m x ok) c=some z):
  ∃e,c e=some z/\gY P ι f o a w e:=by
 simp only[effK]at h;split at h
 case h_2=>cases h
 rename_i b M;split at h
 case h_2=>cases h
 rename_i k n hx;split at h
 case h_2=>cases h
 rename_i kt Q K;split at h
 case h_2=>cases h
 rename_i k2 r;split at h
 case h_2=>cases h
 rename_i k1 l L;split at h
 case h_2=>cases h
 rename_i d;simp only[aA]at d;have G:=lM d.1;have J:=lM d.2;subst G J;have u:=bv p M;have y:=bv p hx;simp only[VR]at u y;obtain⟨q,A,N⟩:=u;obtain⟨R,I,i,v,F,B⟩:=Ti C L;rw[A]at v;cases v;obtain⟨g,j,E,O⟩:=Lh I.toList l 0 B h;refine⟨_,E,.val (x:=fnV g #[]) ?_ (by simp only[VR];exact⟨#[],rfl,by simp[VRs]⟩)⟩;simp only[execOp,D,N,y,ay,Instr.lookup,ba K,aB,MapKept.run_getObj_map F,aE,
  MapKept.run_checkKey (k:=.int k2 n) r (by simp[MapKept.IsKey]),MapKept.run_findKey r O]
 rfl
def JL{t:TypeId}{m x y:Operand}(V:o.op=.insert t m x y)(E:TR ι s.T a.tmps)(U:WR ι s.H s.nb w)(h:effK P (opd s.T) s.H f (.insert t m x y) c=some z):
  ∃e,c e=some z/\gY P ι f o a w e:=by
 simp only[effK]at h;split at h
 case h_2=>cases h
 rename_i b hm;split at h
 case h_2=>cases h
 rename_i k n g hx hy;split at h
 case h_2=>cases h
 rename_i kt et Z;split at h
 case h_2=>cases h
 rename_i k2 O;split at h
 case h_2=>cases h
 rename_i k1 l hb;split at h
 case h_2=>cases h
 rename_i B;simp only[aA]at B;obtain⟨G,F,C⟩:=B;have W:=lM G;have Y:=lM F;subst W Y;have Q:=bv E hm;have S:=bv E hx;have N:=bv E hy;simp only[VR]at Q S N;obtain⟨q,J,h2⟩:=Q;obtain⟨X,h8,M⟩:=N;simp only[VRs]at M;have I:X=#[]:=by
  apply lU;simpa using M
 subst I;obtain⟨q',D,d,R,L,K⟩:=Ti U hb;rw[J]at R;cases R;have A:∀e∈D.toList,∃p∈l,e.key=.int k2 p.1:=by
  intro e u;have:(e.key,e.val)∈l.map λp=>(Value.int k2 p.1,fnV p.2 #[]):=by rw[<-K];exact eD.2 ⟨e,u,rfl⟩
  obtain⟨p,hp,i⟩:=eD.1 this;simp only[bm]at i;exact⟨p,hp,i.1.symm⟩
 have r:MapKept.IsKey (.int k2) (.int k2 n):=by simp[MapKept.IsKey]
 have v:Instr.findNow (.int k2) (.int k2 n) D.toList 0=some none:=by
  rcases MapKept.findNow_spec r D.toList 0 (λe u=>by obtain⟨p,_,hp⟩:=A e u;rw[hp];simp[MapKept.IsKey])with⟨h,_⟩ | ⟨j,e,_,hj,u⟩
  ·exact h
  ·exfalso;obtain⟨p,hp,i⟩:=A e (fh hj);rw[i]at u;have:=(bO.1 C) p hp;simp only[Value.int.injEq,kO]at u;simp[u]at this
 refine⟨_,h,?_⟩;unfold gY;refine⟨q,J,λ_=>⟨.map (D.push { key:=.int k2 n,val:=fnV g #[],born:=d }) (d+1),.skip,?_,⟨_,_,rfl,?_⟩,.skip rfl⟩⟩
 ·simp only[execOp,V,h2,S,h8,ay,Instr.mapUpdate,ba Z,aB,MapKept.run_getObj_map L,MapKept.run_checkKey (k:=.int k2 n) O r,MapKept.run_findKey O v,MapKept.run_setObj_map _ L,aE];rfl
 ·rw[Array.toList_push,Gw,Gw,K];rfl
def Np(k:TR ι s.T a.tmps)(C:WR ι s.H s.nb w)(Z:ι f=none)(h:effK P (opd s.T) s.H f o.op c=some z):∃e,c e=some z/\gY P ι f o a w e:=by
 cases j:o.op with
 | move x=>
  rw[j]at h;simp only[effK]at h;obtain⟨v,p,h⟩:=ax h;exact⟨_,h,.val (by simp only[execOp,j,aE]) (bv k p)⟩
 | assign x=>
  rw[j]at h;simp only[effK]at h;obtain⟨v,p,h⟩:=ax h;exact⟨_,h,.val (by simp only[execOp,j,aE]) (bv k p)⟩
 | pick q x y=>
  rw[j]at h;simp only[effK]at h;split at h
  ·rename_i t L;have p:=bv k L;simp only[VR]at p;cases t
   ·simp only[ah]at h;obtain⟨v,A,h⟩:=ax h;exact⟨_,h,.val (x:=a.eval y) (by simp[execOp,j,p,asBool]) (bv k A)⟩
   ·simp only[aj]at h;obtain⟨v,A,h⟩:=ax h;exact⟨_,h,.val (x:=a.eval x) (by simp[execOp,j,p,asBool]) (bv k A)⟩
  ·cases h
 | alloc t=>rw[j]at h;exact OF j h
 | makeMap t x=>rw[j]at h;exact GK j h
 | insert t m x y=>rw[j]at h;exact JL j k C h
 | lookup t m x ok=>rw[j]at h;exact KY j k C h
 | box t x=>rw[j]at h;exact Vp j k Z h
 | build t ps=>rw[j]at h;exact Ll j k h
 | buildSlice t n ps=>rw[j]at h;exact zJ j k Z h
 | load t x=>rw[j]at h;exact Qx j k C h
 | makeSlice t x y=>rw[j]at h;exact BF j k h
 | store t x y=>rw[j]at h;exact Pi j k C h
 | nilCheck x=>
  rw[j]at h;simp only[effK]at h;split at h
  ·rename_i b off hx;have p:=bv k hx;have A:=p;simp only[VR]at p;obtain⟨r,h5,B⟩:=p;exact⟨_,h,.val (x:=a.eval x) (by simp[execOp,j,B]) A⟩
  ·rename_i zz b jj off hx;have p:=bv k hx;have A:=p;simp only[VR]at p;obtain⟨r,h5,B⟩:=p;exact⟨_,h,.val (x:=a.eval x) (by simp[execOp,j,B]) A⟩
  ·rename_i g l hx;have p:=bv k hx;have A:=p;simp only[VR]at p;obtain⟨S,B,_⟩:=p;obtain⟨g',b',c',h7⟩:=AG g S;exact⟨_,h,.val (x:=a.eval x) (by simp[execOp,j,B,h7]) A⟩
  ·rename_i b off n m hx;have p:=bv k hx;have A:=p;simp only[VR]at p;obtain⟨r,cp,_,_,_,B⟩:=p;exact⟨_,h,.val (x:=a.eval x) (by simp[execOp,j,B]) A⟩
  ·rename_i t v hx;have p:=bv k hx;have A:=p;simp only[VR]at p;obtain⟨y,B,_⟩:=p;exact⟨_,h,.val (x:=a.eval x) (by simp[execOp,j,B]) A⟩
  ·cases h
 | binOp op t x y yt=>
  rw[j]at h;simp only[effK]at h;obtain⟨u,I,h⟩:=ax h;obtain⟨v,p,h⟩:=ax h;split at h
  ·rename_i r U;have hx:=bv k I;have hy:=bv k p;obtain⟨J,K⟩:=VN U hx hy w;exact⟨_,h,.val (x:=.bool r) (by simp only[execOp,j,ay,J,K,aB,aE]) (by simp[VR])⟩
  split at h
  ·rename_i r U;split at h
   case h_2=>cases h
   rename_i m rd F;obtain⟨hm,h⟩:=ei h;obtain⟨J,K⟩:=Yb U F (aM hm) C (bv k I) (bv k p) x y;exact⟨_,h,.val (x:=.bool r) (by simp only[execOp,j,ay,J,K,aB,aE]) (by simp[VR])⟩
  obtain⟨R,X,Q,V,J,K⟩:=Um h (bv k I) (bv k p) x y w;exact⟨_,Q,.val (x:=X) (by simp only[execOp,j,ay,J,K,aB,aE]) V⟩
 | unOp op t x=>
  rw[j]at h;simp only[effK]at h;obtain⟨u,I,h⟩:=ax h;obtain⟨R,X,Q,V,J⟩:=X8 (P:=P) h (bv k I) w;exact⟨_,Q,.val (x:=X) (by simp only[execOp,j,ay,J,aB,aE]) V⟩
 | convert sr d x=>rw[j]at h;exact Gz j k C h
 | next x str=>rw[j]at h;exact Q2 j k C h
 | makeInterface t x=>
  rw[j]at h;simp only[effK]at h;obtain⟨u,I,h⟩:=ax h;have p:=bv k I;split at h
  ·cases h
  ·rename_i d O N;refine⟨_,h,.val (x:=.iface t (a.eval x)) ?_ (by simp only[VR];exact⟨_,rfl,p⟩)⟩;simp only[execOp,j,Instr.makeInterface,ay,ba N,aB];cases d<;>first | rfl | exact absurd rfl (O _)
  ·cases h
 | makeFunc fn first cap=>
  rw[j]at h;simp only[effK]at h;split at h
  ·rename_i g E;split at h
   case h_2=>cases h
   rename_i hb;obtain⟨l,F,h⟩:=ax h;have G:=yW k F;have D:first=#[]:=by apply lU;simpa using E
   refine⟨_,h,.val (x:=.func (.func g) #[] (cap.map a.eval)) ?_ (by simp only[VR];exact⟨_,(GG hb _).symm,by simpa using G⟩)⟩;simp only[execOp,j,Instr.makeFunc,D,HK,ay,aE,aB]
  ·rename_i g _ _ E;split at h
   ·rename_i M;obtain⟨l,F,h⟩:=ax h;have G:=yW k F;have hcap':cap=#[]:=by apply lU;simpa using M
    refine⟨_,h,.val (x:=.func (.func g) (first.map a.eval) #[]) ?_ (by simp only[VR];exact⟨_,(QL g _).symm,by simpa using G⟩)⟩;simp only[execOp,j,Instr.makeFunc,hcap',HK,ay,aE,aB]
   ·cases h
  ·cases h
 | slice t x lo hi mx=>
  rw[j]at h;cases mx with
  | none=>exact MA j k C h
  | some m=>exact J1 j k C h
 | fieldAddr t x i=>rw[j]at h;exact C5 j k h
 | field t x i=>rw[j]at h;exact Oj j k h
 | indexAddr t x i=>rw[j]at h;exact Cm j k C h
 | index t x i=>rw[j]at h;exact Pj j k h
 | range t x=>rw[j]at h;exact LA j k h
 | extract x i=>
  rw[j]at h;simp only[effK]at h;split at h
  ·rename_i l hx;obtain⟨v,p,h⟩:=ax h;have F:=bv k hx;simp only[VR]at F;obtain⟨S,B,Y⟩:=F;obtain⟨y,hy,W⟩:=Y.get p;have hy':S[i]?=some y:=by simpa using hy
   exact⟨_,h,.val (x:=y) (by simp[execOp,j,B,Instr.extract,hy']) W⟩
  ·cases h
 | typeAssert x xt at_ ok=>
  rw[j]at h;simp only[effK]at h;split at h
  case h_2=>cases h
  rename_i t v hx;have p:=bv k hx;simp only[VR]at p;obtain⟨y,B,hy⟩:=p;split at h
  ·cases h
  ·rename_i d O N;split at h
   case h_2=>cases h
   rename_i L;have L:=bB L;subst L;cases ok with
   | true=>
    refine⟨_,h,.val (x:=.tuple #[y,.bool true]) ?_ (by simp only[VR,VRs];exact⟨_,rfl,y,[.bool true],rfl,hy,_,[],rfl,rfl,rfl⟩)⟩;simp only[execOp,j,B,Instr.typeAssert,ay,ba N,aB];cases d<;>first | simp | exact absurd rfl (O _)
   | false=>
    refine⟨_,h,.val (x:=y) ?_ hy⟩;simp only[execOp,j,B,Instr.typeAssert,ay,ba N,aB];cases d<;>first | simp | exact absurd rfl (O _)
  ·cases h
 | call cl=>rw[j]at h;exact Ru j k C h
 | _=>rw[j]at h;simp[effK]at h
end ops
end Go.Abs
