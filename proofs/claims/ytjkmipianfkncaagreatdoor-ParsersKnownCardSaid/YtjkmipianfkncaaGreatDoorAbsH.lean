
import Derived.Test.YtjkmipianfkncaaGreatDoorAbsG
import Derived.Laws.BytesArg
import Derived.Laws.BytesString
import Derived.Lib.ConvBytes
import Derived.Laws.MakeOwn
import Derived.Deep.AppendSrc
import Derived.MapKept
set_option linter.unusedSimpArgs false
set_option linter.unusedVariables false
set_option linter.defProp false
namespace Go.Abs
variable {P:Program}
section ops
variable {α:Type} {ι:Inj} {s:St} {a:Act} {w:World} {f:Nat} {o:Oper} {c:Eff->Option α} {z:α}
def xn{t:TypeId}{a:Array Field}{fd:Field}{i:Nat}{b:TypeInfo}(hd:P.underlying t=some (.struct a))(c:a[i]?=some fd)(hi:P.info? fd.type=some b)
  (hp:0<P.cellsOf fd.type) (r off:Nat) (w:World):(Instr.fieldAt t (.pointer (some ⟨r,off,none⟩)) i).run P w=.ok (.pointer (some ⟨r,off+fd.offset,none⟩)) w:=by
 simp only[Instr.fieldAt,aw,aU hd,ay,c,Instr.sureAddr,aB,fieldPlace,f9 hi,show¬(P.cellsOf fd.type=0)by omega,az,nc]
def Bv{t:TypeId}{x:Operand}{i:Nat}(u:o.op=.fieldAddr t x i)(q:TR ι s.T a.tmps)(h:effK P (opd s.T) s.H f (.fieldAddr t x i) c=some z):
  ∃e,c e=some z/\gH P ι f o a w e:=by
 simp only[effK]at h;split at h
 ·rename_i b off hx;split at h
  ·rename_i y hd;split at h
   ·rename_i fd l;split at h
    ·rename_i hp;obtain⟨v,g⟩:=bX hp;have k:=br q hx;simp only[VR]at k;obtain⟨r,m,n⟩:=k;have d:=xn hd (by simpa using l) g (aH hp) r.r off w;exact⟨_,h,.val (x:=.pointer (some ⟨r.r,off+fd.offset,none⟩)) (by simp only[execOp,u,n,aw,d,ay,aB]) (by simp only[VR,pg];exact⟨r,m,rfl⟩)⟩
    ·cases h
   ·cases h
  ·cases h
 ·rename_i p b j off hx;split at h
  ·rename_i y hd;split at h
   ·rename_i fd l;split at h
    ·rename_i hp;obtain⟨v,g⟩:=bX hp;have k:=br q hx;simp only[VR]at k;obtain⟨r,m,n⟩:=k;have d:=xn hd (by simpa using l) g (aH hp) r.r (r.o+(j*p+off)) w;exact⟨_,h,.val (x:=.pointer (some ⟨r.r,r.o+(j*p+off)+fd.offset,none⟩)) (by simp only[execOp,u,n,aw,d,ay,aB]) (by simp only[VR,pg];exact⟨r,m,by rw[gX,gX]⟩)⟩
    ·cases h
   ·cases h
  ·cases h
 ·cases h
def JR{t:TypeId}{x:Operand}{i:Nat}(r:o.op=.field t x i)(B:TR ι s.T a.tmps)(h:effK P (opd s.T) s.H f (.field t x i) c=some z):
  ∃e,c e=some z/\gH P ι f o a w e:=by
 simp only[effK]at h;split at h
 ·rename_i l hx;have q:=br B hx;simp only[VR]at q;obtain⟨n,p,j⟩:=q;split at h
  ·rename_i A hd;split at h
   ·rename_i fd u;have hf':A[i]?=some fd:=by simpa using u
    split at h
    ·rename_i b;split at h
     ·have D:∃d,P.underlying fd.type=some d:=by
       unfold bU at b;split at b
       ·exact⟨_,by assumption⟩
       ·exact⟨_,by assumption⟩
       ·cases b
      obtain⟨d',g⟩:=D;obtain⟨E,k⟩:=m8 g;refine⟨_,h,.val (x:=.agg (n.extract fd.offset (fd.offset+P.cellsOf fd.type))) ?_ (o7 (j.extract _ _))⟩;simp only[execOp,r,p,Instr.field,aw,aU hd,ay,hf',asAgg,aB,part,kl g,b,aG,f9 k]
     ·cases h
    ·rename_i b;split at h
     ·rename_i d' g;obtain⟨v,C,h⟩:=av h;obtain⟨y,hy,m⟩:=j.get C;have hy':n[fd.offset]?=some y:=by simpa using hy
      refine⟨_,h,.val (x:=y) ?_ m⟩;simp only[execOp,r,p,Instr.field,aw,aU hd,ay,hf',asAgg,aB,part,kl g,b,bj,az,hy']
     ·cases h
   ·cases h
  ·cases h
 ·cases h
def oN{t e:TypeId}{m:Nat}{a:TypeInfo}(hd:P.underlying t=some (.array m e))(hi:P.info? e=some a)(k:IntKind){n:Int}(c:0<=n)(b:n<m)(r off:Nat)(w:World):
  (Instr.indexAt t (.pointer (some ⟨r,off,none⟩)) (.int k n)).run P w=.ok (.pointer (some ⟨r,off+n.toNat*P.cellsOf e,none⟩)) w:=by
 simp only[Instr.indexAt,asIntOf,aw,aB,ay,aU hd,Instr.sureAddr,c,b,and_self,aG,f9 hi,nc]
def lD{t e:TypeId}{m cp:Nat}{a:TypeInfo}(hd:P.underlying t=some (.slice e))(hi:P.info? e=some a)(k:IntKind){n:Int}(c:0<=n)(b:n<m)(r off:Nat)(w:World):
  (Instr.indexAt t (.slice (some ⟨r,off,none⟩) m cp) (.int k n)).run P w=.ok (.pointer (some ⟨r,off+n.toNat*P.cellsOf e,none⟩)) w:=by
 simp only[Instr.indexAt,asIntOf,aw,aB,ay,aU hd,c,b,and_self,aG,f9 hi,nc]
def A9{t:TypeId}{x i:Operand}(E:o.op=.indexAddr t x i)(D:TR ι s.T a.tmps)(L:WR ι s.H s.nb w)(h:effK P (opd s.T) s.H f (.indexAddr t x i) c=some z):
  ∃e,c e=some z/\gH P ι f o a w e:=by
 simp only[effK]at h;split at h
 case h_2=>cases h
 rename_i k n hi;have u:=br D hi;simp only[VR]at u;split at h
 ·rename_i m e hd;split at h
  ·rename_i b off hx;have p:=br D hx;simp only[VR]at p;obtain⟨r,v,B⟩:=p;split at h
   ·rename_i hp;obtain⟨G,g⟩:=bX hp;obtain⟨j,C,h⟩:=av h;obtain⟨g0,A,rfl⟩:=om C;have d:=oN hd g k g0 A r.r off w;exact⟨_,h,.val (x:=.pointer (some ⟨r.r,off+n.toNat*P.cellsOf e,none⟩)) (by simp only[execOp,E,B,u,aw,d,ay,aB]) (by simp only[VR,pg,xb];exact⟨r,v,rfl⟩)⟩
   ·cases h
  ·rename_i I b J off hx;have p:=br D hx;simp only[VR]at p;obtain⟨r,v,B⟩:=p;split at h
   ·rename_i hp;obtain⟨G,g⟩:=bX hp;obtain⟨j,C,h⟩:=av h;obtain⟨g0,A,rfl⟩:=om C;have d:=oN hd g k g0 A r.r (r.o+(J*I+off)) w;exact⟨_,h,.val (x:=.pointer (some ⟨r.r,r.o+(J*I+off)+n.toNat*P.cellsOf e,none⟩)) (by simp only[execOp,E,B,u,aw,d,ay,aB]) (by simp only[VR,pg,xb];exact⟨r,v,by rw[gX,gX]⟩)⟩
   ·cases h
  ·cases h
 ·rename_i e hd;split at h
  ·rename_i b off m cp hx;have p:=br D hx;simp only[VR]at p;obtain⟨r,cap,v,_,_,B⟩:=p;split at h
   ·rename_i hp;obtain⟨G,g⟩:=bX hp;obtain⟨j,C,h⟩:=av h;obtain⟨g0,A,rfl⟩:=om C;have d:=lD (cp:=cap) hd g k g0 A r.r off w;exact⟨_,h,.val (x:=.pointer (some ⟨r.r,off+n.toNat*P.cellsOf e,none⟩)) (by simp only[execOp,E,B,u,aw,d,ay,aB]) (by simp only[VR,pg,xb];exact⟨r,v,rfl⟩)⟩
   ·cases h
  ·rename_i b hx;have p:=br D hx;simp only[VR]at p;split at h
   case h_2=>cases h
   rename_i tr l K;split at h
   case h_2=>cases h
   rename_i hp;simp only[aC,jn]at hp;obtain⟨M,hp⟩:=hp;obtain⟨G,g⟩:=bX hp;obtain⟨j,C,h⟩:=av h;obtain⟨g0,A,rfl⟩:=om C;rcases jp L K with⟨q,U,Q,fr,F,R,N,Y,X,W,O⟩ | ⟨F,rfl⟩
   ·rcases p with⟨V,v,B⟩ | ⟨v,_⟩
    ·rw[v]at F;cases F;have g1':n<(q.n:Int):=by rw[<-N];exact A
     have d:=lD (cp:=q.k) hd g k g0 g1' q.r q.o w;exact⟨_,h,.val (x:=.pointer (some ⟨q.r,q.o+n.toNat*P.cellsOf e,none⟩)) (by simp only[execOp,E,B,u,aw,d,ay,aB]) (by simp only[VR];exact⟨q,v,by rw[cG]⟩)⟩
    ·rw[v]at F;cases F
   ·simp at A;omega
  ·rename_i I b S m _ hx;have p:=br D hx;simp only[VR]at p;split at h
   case h_2=>cases h
   rename_i hp;simp only[aC,jn]at hp;obtain⟨rfl,hp⟩:=hp;obtain⟨G,g⟩:=bX hp;obtain⟨j,C,h⟩:=av h;obtain⟨g0,A,rfl⟩:=om C;rcases p with⟨q,cp,off,v,_,y,B⟩ | ⟨_,⟨rfl,_⟩,_⟩
   ·have d:=lD (cp:=cp) hd g k g0 A q.r off w;have y:=y (by omega);exact⟨_,h,.val (x:=.pointer (some ⟨q.r,off+n.toNat*P.cellsOf e,none⟩)) (by simp only[execOp,E,B,u,aw,d,ay,aB]) (by simp only[VR,pg];exact⟨q,v,by rw[y,gY,cG,gX]⟩)⟩
   ·omega
  ·cases h
 ·cases h
def je{t e:TypeId}{m:Nat}{b:TypeInfo}(hd:P.underlying t=some (.array m e))(hi:P.info? e=some b)(k:IntKind){n:Int}(d:0<=n)(c:n<m)(a:Array Value)(w:World):
  (Instr.index t (.agg a) (.int k n)).run P w=(part e a (n.toNat*P.cellsOf e)).run P w:=by
 simp only[Instr.index,asIntOf,aw,aB,ay,aU hd,d,c,and_self,aG,f9 hi]
def qU{t:TypeId}{d:TypeDesc}(hd:P.underlying t=some d)(b:bU P t=false){a:Array Value}{off:Nat}{x:Value}(hx:a[off]?=some x)(w:World):
  (part t a off).run P w=.ok x w:=by
 simp only[part,aw,kl hd,b,ay,bj,az,hx,aB]
def vq{t:TypeId}{d:TypeDesc}(hd:P.underlying t=some d)(b:bU P t=true)(a:Array Value)(off:Nat)(w:World):
  (part t a off).run P w=.ok (.agg (a.extract off (off+P.cellsOf t))) w:=by
 obtain⟨i,hi⟩:=m8 hd;simp only[part,aw,kl hd,b,ay,aG,f9 hi,aB]
def vA{t:TypeId}(hd:P.underlying t=some .string){l:aa}{n:Int}{b:UInt8}(h:sx l n=some b)(k:IntKind)(w:World):
  (Instr.index t (.string ⟨l.toArray⟩) (.int k n)).run P w=.ok (.int .u8 b.toNat) w:=by
 unfold sx at h;split at h
 ·rename_i e;have d:(ByteArray.mk l.toArray)[n.toNat]?=some b:=by
   have a:n.toNat<l.length:=by
    rcases aF n.toNat l.length with c | c
    ·exact c
    ·rw[gU c]at h;cases h
   have hs:n.toNat<(ByteArray.mk l.toArray).size:=a;rw[getElem?_pos (ByteArray.mk l.toArray) n.toNat hs];rw[bf a]at h;simp only[ar]at h ⊢;exact h
  simp only[Instr.index,asIntOf,aw,aB,ay,aU hd,e,aG,d]
 ·cases h
def MF{t:TypeId}{x i:Operand}(E:o.op=.index t x i)(F:TR ι s.T a.tmps)(h:effK P (opd s.T) s.H f (.index t x i) c=some z):
  ∃e,c e=some z/\gH P ι f o a w e:=by
 simp only[effK]at h;split at h
 case h_2=>cases h
 rename_i k n hi;have d:=br F hi;simp only[VR]at d;split at h
 ·rename_i m e hd;split at h
  ·cases h
  rename_i hp;obtain⟨Q,q⟩:=bX hp;split at h
  ·rename_i k' m' l hx;have p:=br F hx;simp only[VR]at p;obtain⟨R,D⟩:=p;split at h
   ·rename_i k2 g;split at h
    ·rename_i r;have r:=bG r;obtain⟨j,A,h⟩:=av h;obtain⟨g0,B,rfl⟩:=om A;obtain⟨v,p,h⟩:=av h;refine⟨_,h,.val (x:=.int k' v) ?_ (by simp[VR])⟩;simp only[execOp,E,D,d,aw,je hd q k g0 B];rw[qU g (by simp[bU,g]) (x:=.int k' v) (by simp[r,p])];rfl
    ·cases h
   ·cases h
  ·rename_i l hx;have p:=br F hx;simp only[VR]at p;obtain⟨I,D,u⟩:=p;split at h
   ·rename_i O g;obtain⟨j,A,h⟩:=av h;obtain⟨g0,B,rfl⟩:=om A;refine⟨_,h,.val (x:=.agg (I.extract (n.toNat*P.cellsOf e) (n.toNat*P.cellsOf e+P.cellsOf e))) ?_ (o7 (u.extract _ _))⟩;simp only[execOp,E,D,d,aw,je hd q k g0 B,vq g (by simp[bU,g]),ay,aB]
   ·rename_i m2 L g;obtain⟨j,A,h⟩:=av h;obtain⟨g0,B,rfl⟩:=om A;refine⟨_,h,.val (x:=.agg (I.extract (n.toNat*P.cellsOf e) (n.toNat*P.cellsOf e+P.cellsOf e))) ?_ (o7 (u.extract _ _))⟩;simp only[execOp,E,D,d,aw,je hd q k g0 B,vq g (by simp[bU,g]),ay,aB]
   ·rename_i g;split at h
    ·rename_i r;have r:=bG r;split at h
     ·rename_i M G;obtain⟨j,A,h⟩:=av h;obtain⟨g0,B,rfl⟩:=om A;obtain⟨v,p,h⟩:=av h;obtain⟨y,hy,C⟩:=u.get (j:=n.toNat) (v:=.s v) (by rw[sZ G];simp[p]);refine⟨_,h,.val (x:=y) ?_ C⟩;simp only[execOp,E,D,d,aw,je hd q k g0 B];rw[qU g (by simp[bU,g]) (x:=y) (by simpa[r]using hy)];rfl
     ·cases h
    ·cases h
   ·rename_i d' K N S g;split at h
    ·rename_i r;have r:=bG r;obtain⟨j,A,h⟩:=av h;obtain⟨g0,B,rfl⟩:=om A;obtain⟨v,p,h⟩:=av h;obtain⟨y,hy,C⟩:=u.get p;refine⟨_,h,.val (x:=y) ?_ C⟩;simp only[execOp,E,D,d,aw,je hd q k g0 B];rw[qU g (by simp only[bU,g];cases d'<;>simp_all) (x:=y) (by simpa[r]using hy)];rfl
    ·cases h
   ·cases h
  ·cases h
 ·rename_i hd;split at h
  ·rename_i l hx;have p:=br F hx;simp only[VR]at p;obtain⟨b,J,h⟩:=av h;refine⟨_,h,.val (x:=.int .u8 b.toNat) ?_ (by simp[VR])⟩;simp only[execOp,E,p,d,aw,vA hd J,ay,aB]
  ·cases h
 ·cases h
def AK{t:TypeId}(hd:P.underlying t=some .string){l:aa}{lo hi:Option Value}{L H:Nat}{w:World}
  (a:(Instr.sliceBounds false l.length l.length lo hi none).run P w=.ok (L,H,l.length) w):
  (Instr.sliceAt t (.string ⟨l.toArray⟩) lo hi none).run P w=.ok (.string ⟨((l.take H).drop L).toArray⟩) w:=by
 rw[run_sliceAt_string w t _ _ _ _ hd];have hs:(ByteArray.mk l.toArray).size=l.length:=rfl;simp only[Instr.slice,aw,aU hd,ay,ym,bj,az,hs,a,aB];congr 2;apply MC;rw[ByteArray.data_extract];apply mS;simp[List.extract,xW]
def AN{t e:TypeId}{n:Nat}{b:TypeInfo}(hd:P.underlying t=some (.array n e))(hi:P.info? e=some b){lo a:Option Value}{L H r off:Nat}{w:World}
  (c:(Instr.sliceBounds false n n lo a none).run P w=.ok (L,H,n) w):
  (Instr.sliceAt t (.pointer (some ⟨r,off,none⟩)) lo a none).run P w=.ok (.slice (some ⟨r,if n=L then off else off+L*P.cellsOf e,none⟩) (H - L) (n - L)) w:=by
 simp only[Instr.sliceAt,aw,aU hd,ay,Instr.sureAddr,aB,c,f9 hi,nc];split<;>rfl
def nW{t e:TypeId}{n cp:Nat}{b:TypeInfo}(hd:P.underlying t=some (.slice e))(hi:P.info? e=some b){lo a:Option Value}{L H r off:Nat}{w:World}
  (c:(Instr.sliceBounds true n cp lo a none).run P w=.ok (L,H,cp) w):
  (Instr.sliceAt t (.slice (some ⟨r,off,none⟩) n cp) lo a none).run P w=.ok (.slice (some ⟨r,if cp=L then off else off+L*P.cellsOf e,none⟩) (H - L) (cp - L)) w:=by
 simp only[Instr.sliceAt,Instr.slice,aw,aU hd,ay,c,f9 hi,aB];split
 ·rfl
 ·simp only[fi,nc]
def jP(n l x y:Nat):cond (Nat.beq n l) x y=if n=l then x else y:=by
 by_cases h:n=l
 ·subst h;simp
 ·have:Nat.beq n l=false:=by
   cases a:Nat.beq n l
   ·rfl
   ·exact absurd (bG a) h
  simp[this,h]
def tq{t e:TypeId}{c:TypeInfo}{b:Option Addr}(hd:P.underlying t=some (.slice e))(hi:P.info? e=some c){lo a:Option Value}{w:World}
  (d:(Instr.sliceBounds true 0 0 lo a none).run P w=.ok (0,0,0) w):
  (Instr.sliceAt t (.slice b 0 0) lo a none).run P w=.ok (.slice b 0 0) w:=by
 simp only[Instr.sliceAt,Instr.slice,aw,aU hd,ay,d,f9 hi,aB,aG]
def BO{T:List (Nat×Option V)}(p:TR ι T a.tmps){lo hi:Option Operand}{l h:Option Int}(s:ql (opd T) lo=some l)
  (t:ql (opd T) hi=some h) {len:Nat} {c:Nat->Nat->Option α} (e:(hiK len len h λh=>loK h l λl=>c h l)=some z):
  ∃H L,c H L=some z/\H<=len/\L<=H/\∀n,len<=n->∀w,(Instr.sliceBounds true len n (lo.map a.eval) (hi.map a.eval) none).run P w=.ok (L,H,n) w:=by
 have j:∀{H:Nat},loK H l (c H)=some z->∃L,c H L=some z/\L<=H/\
   ∀w,(match lo.map a.eval with | some v=>Instr.sliceBound v H .sliceB | none=>pure 0).run P w=.ok L w:=by
  intro H e;rcases oL p s with⟨rfl,g⟩ | ⟨k,m,rfl,g⟩
  ·exact⟨0,e,du _,λw=>by rw[g];rfl⟩
  ·simp only[loK]at e;obtain⟨L,o,i⟩:=av e;obtain⟨g0,q,rfl⟩:=lE o;exact⟨_,i,by omega,λw=>by rw[g];exact run_sliceBound w k m H .sliceB g0 q⟩
 rcases oL p t with⟨rfl,g⟩ | ⟨k,m,rfl,g⟩
 ·simp only[hiK]at e;obtain⟨L,o,i,d⟩:=j e;refine⟨len,L,o,aQ _,i,λn x w=>?_⟩;have d:=d w;rw[g];simp only[Instr.sliceBounds,aw,aB,ay,ym,bj,az];cases b:lo.map a.eval with
  | none=>rw[b]at d;simp only[aB,wT,wh]at d;simp[d]
  | some v=>rw[b]at d;simp only[]at d;simp[d]
 ·simp only[hiK]at e;obtain⟨H,o,i⟩:=av e;obtain⟨g0,q,rfl⟩:=lE o;obtain⟨L,r,d,f⟩:=j i;refine⟨_,L,r,by omega,d,λn x w=>?_⟩;have f:=f w;rw[g];have u:=run_sliceBound (P:=P) w k m n .sliceAcap g0 (by omega);simp only[Instr.sliceBounds,aw,aB,ay,ym,bj,az,aG,u];cases b:lo.map a.eval with
  | none=>rw[b]at f;simp only[aB,wT,wh]at f;simp[f]
  | some v=>rw[b]at f;simp only[]at f;simp[f]
def K6{t:TypeId}{x:Operand}{lo hi:Option Operand}(F:o.op=.slice t x lo hi none)(G:TR ι s.T a.tmps)(hW:WR ι s.H s.nb w)(h:effK P (opd s.T) s.H f (.slice t x lo hi none) c=some z):
  ∃e,c e=some z/\gH P ι f o a w e:=by
 simp only[effK]at h;obtain⟨v,hx,D⟩:=av h;obtain⟨l,J,X⟩:=av D;obtain⟨hh,y,d⟩:=av X;clear h D X;have A:=br G hx;clear hx;split at d
 ·rename_i hd;cases v<;>simp only[reduceCtorEq]at d;rename_i sl;simp only[VR]at A;obtain⟨H,L,g,_,_,_,i,_,B⟩:=xL (P:=P) G J y (isSlice:=false) d;refine⟨_,g,.val (x:=.string ⟨((sl.take H).drop L).toArray⟩) ?_ (by simp[VR])⟩;simp only[execOp,F,A,aw,iQ];rw[AK hd (B w)];rfl
 ·rename_i n e hd;split at d
  case h_2=>cases d
  rename_i hp;obtain⟨ti,p⟩:=bX hp;cases v<;>simp only[reduceCtorEq]at d;rename_i b off;simp only[VR]at A;obtain⟨r,i,u⟩:=A;obtain⟨H,L,g,_,E,C,g4,_,B⟩:=xL (P:=P) G J y (isSlice:=false) d;have Z:H<=n:=by
   cases hh with
   | none=>exact wA (E rfl)
   | some q=>exact C (by simp)
  refine⟨_,g,.val (x:=.slice (some ⟨r.r,if n=L then off else off+L*P.cellsOf e,none⟩) (H - L) (n - L)) ?_ ?_⟩
  ·simp only[execOp,F,u,aw,iQ];rw[AN hd p (B w)];rfl
  ·simp only[VR];exact⟨r,n - L,i,λm M=>by cases M;rfl,by omega,by rw[jP,pg,xb]⟩
 ·rename_i e hd;split at d
  case h_2=>cases d
  rename_i hp;obtain⟨ti,p⟩:=bX hp;cases v<;>try (simp only[reduceCtorEq]at d;done)
  ·rename_i b;simp only[VR]at A;simp only at d;split at d
   case h_2=>cases d
   rename_i tr m U;split at d
   case h_2=>cases d
   rename_i I;have I:=bG I;obtain⟨H,L,g,E,C,B⟩:=BO (P:=P) G J y d;rcases jp hW U with⟨q,cs,e',fr,D,X,Y,q5,_,_,_⟩ | ⟨D,rfl⟩
   ·rcases A with⟨q',i,u⟩ | ⟨i,_⟩
    ·rw[i]at D;cases D;refine⟨_,g,.val (x:=.slice (some ⟨q.r,if q.k=L then q.o else q.o+L*P.cellsOf e,none⟩) (H - L) (q.k - L)) ?_ ?_⟩
     ·simp only[execOp,F,u,aw,iQ];rw[<-Y,nW hd p (B q.k (by omega) w)];rfl
     ·simp only[VR];exact .inl ⟨q,_,_,i,⟨by omega,kv⟩,λN=>by rw[ab (by omega)],rfl⟩
    ·rw[i]at D;cases D
   ·rcases A with⟨q,i,u⟩ | ⟨i,O,u⟩
    ·rw[i]at D;cases D
    ·simp only[fR,Bf]at E C;subst E;simp only[Bf]at C;subst C;refine⟨_,g,.val (x:=.slice O 0 0) ?_ (by unfold VR;exact .inr ⟨i,⟨rfl,kv⟩,O,rfl⟩)⟩;simp only[execOp,F,u,aw,iQ];rw[tq hd p (B 0 (aQ _) w)];rfl
  ·rename_i zz b j n _;simp only[VR]at A;simp only at d;split at d
   case h_2=>cases d
   rename_i I;have I:=bG I;obtain⟨H,L,g,E,C,B⟩:=BO (P:=P) G J y d;rcases A with⟨q,cp,off,i,⟨K,_⟩,Q,u⟩ | ⟨i,⟨rfl,_⟩,O,u⟩
   ·refine⟨_,g,.val (x:=.slice (some ⟨q.r,if cp=L then off else off+L*P.cellsOf e,none⟩) (H - L) (cp - L)) ?_ ?_⟩
    ·simp only[execOp,F,u,aw,iQ];rw[nW hd p (B cp K w)];rfl
    ·simp only[VR];exact .inl ⟨q,_,_,i,⟨by omega,kv⟩,λN=>by rw[ab (by omega),Q (by omega),pg,gY,I,gX],rfl⟩
   ·simp only[Bf]at E;subst E;simp only[Bf]at C;subst C;refine⟨_,g,.val (x:=.slice O 0 0) ?_ (by unfold VR;exact .inr ⟨i,⟨rfl,kv⟩,O,rfl⟩)⟩;simp only[execOp,F,u,aw,iQ];rw[tq hd p (B 0 (aQ _) w)];rfl
  rename_i b off n cap;simp only[VR]at A;obtain⟨r,cp,i,W,K,u⟩:=A;cases cap with
  | some m=>
   obtain rfl:=W m rfl;obtain⟨H,L,g,_,E,C,g4,_,B⟩:=xL (P:=P) G J y (isSlice:=true) d;have Z:H<=cp:=by
    cases hh with
    | none=>have:=E rfl;omega
    | some q=>exact C (by simp)
   refine⟨_,g,.val (x:=.slice (some ⟨r.r,if cp=L then off else off+L*P.cellsOf e,none⟩) (H - L) (cp - L)) ?_ ?_⟩
   ·simp only[execOp,F,u,aw,iQ];rw[nW hd p (B w)];rfl
   ·simp only[VR];exact⟨r,cp - L,i,λm M=>by cases M;rfl,by omega,by rw[jP,pg,xb]⟩
  | none=>
   have V:l=none:=by
    cases l with
    | none=>rfl
    | some q=>
     cases hh with
     | none=>simp[hiK]at d
     | some q=>simp only[hiK]at d;obtain⟨_,_,Y⟩:=av d;cases Y
   subst V;have R:lo.map a.eval=none:=by
    rcases oL G J with⟨_,g⟩ | ⟨k,m,h0,_⟩
    ·exact g
    ·cases h0
   have key:∃H,c { val:=some (.sl b off H none) }=some z/\H<=n/\(Instr.sliceBounds true n cp (lo.map a.eval) (hi.map a.eval) none).run P w=.ok (0,H,cp) w:=by
    rcases oL G y with⟨rfl,g⟩ | ⟨k,m,rfl,g⟩
    ·simp only[hiK]at d;exact⟨n,d,aQ _,by rw[g,R];simp[Instr.sliceBounds]⟩
    ·simp only[hiK]at d;obtain⟨H,h2,S⟩:=av d;obtain⟨g0,g1,rfl⟩:=lE h2;refine⟨_,S,by omega,?_⟩;have U:=run_sliceBound (P:=P) w k m cp .sliceAcap g0 (by omega);rw[g,R];simp[Instr.sliceBounds,U]
   obtain⟨H,g,h2,S⟩:=key;refine⟨_,g,.val (x:=.slice (some ⟨r.r,if cp=0 then off else off+0*P.cellsOf e,none⟩) (H - 0) (cp - 0)) ?_ ?_⟩
   ·simp only[execOp,F,u,aw,iQ];rw[nW hd p S];rfl
   ·simp only[VR];exact⟨r,cp,i,λm M=>(by cases M),by omega,by simp⟩
 ·cases d
def wq(a:List Int):a.foldl (λ(r:ByteArray) n=>r.push (UInt8.ofNat n.toNat)) ByteArray.empty=⟨(cX a).toArray⟩:=by
 rw[foldl_push_bytes];apply MC;simp[cX]
def yC{w:World}{r off q m cp:Nat}{l:List Int}{e:TypeId}{fr:Nat×Nat}(h:w.heap[r]?=some (.cells (l.map (Value.int .u8)).toArray e fr))(g:l.length=q)(f:off+m<=q):
  (Conv.bytesToString (.slice (some ⟨r,off,none⟩) m cp)).run P w=.ok (.string ⟨(cX ((l.drop off).take m)).toArray⟩) w:=by
 have a:(((l.drop off).take m).map (Value.int .u8)).length=m:=by simp;omega
 have hc:=wJ (P:=P) w ⟨r,off,none⟩ (((l.drop off).take m).map (Value.int .u8)) (λj v b=>by
  have c:j<m:=by
   rcases aF j m with d | d
   ·exact d
   ·rw[gU (by omega)]at b;cases b
  rw[nc,bB h];rw[pR,qm c,nv]at b;simpa using b)
 rw[a]at hc;rw[run_bytesToString w _ m cp _ hc,wq]
def Av(w:World)(e:TypeId)(s:ByteArray):
  Lib.bytesWorld w e s=World.alloc { w with drawn:=w.drawn+1 } (.cells (Lib.bytesCells w e s) e ((Lib.bytesCells w e s).size,(Lib.bytesCells w e s).size+1)):=by
 have c:=Lib.bytesWorld_at_new w e s;have f:=Lib.bytesWorld_size w e s;have d:(Lib.bytesWorld w e s).heap=w.heap.push (.cells (Lib.bytesCells w e s) e ((Lib.bytesCells w e s).size,(Lib.bytesCells w e s).size+1)):=by
  apply Sv;intro j;by_cases b:j=w.heap.size
  ·subst b;rw[c];simp
  ·by_cases a:j<w.heap.size
   ·rw[Lib.bytesWorld_at_old w e s j a,Array.getElem?_push,ab b]
   ·rw[xO (by omega),xO (by simp;omega)]
 show({ (Lib.bytesWorld w e s)with heap:=(Lib.bytesWorld w e s).heap }:World)=_;rw[d];rfl
def rC:∀(l:List Int),l.flatMap (vals [.i .u8])=l.map (Value.int .u8)
 | []=>rfl
 | x::l=>by
  have:=rC l;simp only[qK,fV,vals,Lf.val]at this ⊢;rw[this];rfl
def rV{w:World}{r cp:Nat}{l:List Int}{b:Array Value}{e:TypeId}{fr:Nat×Nat}{m:Nat}(h:w.heap[r]?=some (.cells b e fr))(p:m<=b.size)
  {o:Nat} (k:(b.toList.drop o).take (l.length*([Lf.i .u8]:List Lf).length)=l.flatMap (vals [.i .u8])) {j n:Nat} (s:j+n<=l.length):
  (Conv.bytesToString (.slice (some ⟨r,o+j,none⟩) n cp)).run P w=.ok (.string ⟨(cX ((l.drop j).take n)).toArray⟩) w:=by
 have hl':(b.toList.drop o).take l.length=l.map (Value.int .u8):=by rw[<-rC];simpa using k
 have a:(((l.drop j).take n).map (Value.int .u8)).length=n:=by simp;omega
 have hc:=wJ (P:=P) w ⟨r,o+j,none⟩ (((l.drop j).take n).map (Value.int .u8)) (λi v c=>by
  have d:i<n:=by
   rcases aF i n with g | g
   ·exact g
   ·rw[gU (by omega)]at c;cases c
  rw[nc,bB h];rw[pR,qm d,nv]at c;have f:=cb (λq:List Value=>q[j+i]?) hl';simp only[qm (show j+i<l.length by omega),pR,nv]at f;rw[c]at f;simpa[gX]using f)
 rw[a]at hc;rw[run_bytesToString w _ n cp _ hc,wq]
def rS{w:World}(c:Option Addr):(Conv.bytesToString (.slice c 0 0)).run P w=.ok (.string ⟨#[]⟩) w:=by
 cases c with
 | none=>rfl
 | some a=>
  have b:=wJ (P:=P) w a ([].map (Value.int .u8)) (λj v d=>by simp at d);exact run_bytesToString (P:=P) w a 0 0 [] b
def EG{A d:TypeId}{x:Operand}(y:o.op=.convert A d x)(hT:TR ι s.T a.tmps)(M:WR ι s.H s.nb w)(h:effK P (opd s.T) s.H f (.convert A d x) c=some z):
  ∃e,c e=some z/\gH P ι f o a w e:=by
 simp only[effK]at h;obtain⟨v,hx,q⟩:=av h;clear h;have g:=br hT hx;clear hx;split at q
 case h_2=>cases q
 rename_i B hs;split at q
 ·rename_i k hd;cases v<;>simp only[reduceCtorEq]at q;rename_i k' n;simp only[VR]at g;refine⟨_,q,.val (x:=.int k (k.wrap n)) ?_ (by simp[VR])⟩;simp only[execOp,y,g,aw,convert,aU hs,aU hd,ay];cases B<;>rfl
 ·rename_i hd;cases v<;>simp only[reduceCtorEq]at q
  ·rename_i b;simp only[VR]at g;cases B<;>try (simp only[reduceCtorEq]at q;done)
   rename_i e;simp only at q;split at q
   case h_2=>cases q
   rename_i t;split at q
   case h_2=>cases q
   rename_i l D;refine⟨_,q,.val (x:=.string ⟨(cX l).toArray⟩) ?_ (by simp[VR])⟩;rcases jp M D with⟨q,cs,V,fr,i,I,X,q5,N,G,_⟩ | ⟨i,rfl⟩
   ·rcases g with⟨q',p,u⟩ | ⟨p,_⟩
    ·rw[p]at i;cases i;simp only[execOp,y,u,aw,run_convert_bytes_string w A d e _ _ _ hs t hd];rw[<-X];have:=rV (P:=P) (cp:=q.k) I N G (j:=0) (n:=l.length) (by omega);simp only[bI,nT,cG]at this;rw[this];rfl
    ·rw[p]at i;cases i
   ·rcases g with⟨q,p,u⟩ | ⟨p,J,u⟩
    ·rw[p]at i;cases i
    ·simp only[execOp,y,u,aw,run_convert_bytes_string w A d e J 0 0 hs t hd,rS];rfl
  ·rename_i zz b j n _;simp only[VR]at g;cases B<;>try (simp only[reduceCtorEq]at q;done)
   rename_i e;simp only at q;split at q
   case h_2=>cases q
   rename_i t;split at q
   case h_2=>cases q
   rename_i l D;split at q
   case h_2=>cases q
   rename_i Q;have Q:=bG Q;subst Q;obtain⟨hc,q⟩:=eZ q;have C:=aH hc;refine⟨_,q,.val (x:=.string ⟨(cX ((l.drop j).take n)).toArray⟩) ?_ (by simp[VR])⟩;rcases g with⟨W,cp,off,p,⟨L,_⟩,K,u⟩ | ⟨p,⟨rfl,_⟩,J,u⟩
   ·rcases jp M D with⟨q',cs,V,fr,i,I,X,q5,N,G,_⟩ | ⟨i,rfl⟩
    ·rw[p]at i;cases i;simp only[execOp,y,u,aw,run_convert_bytes_string w A d e _ _ _ hs t hd];by_cases Z:0<n
     ·rw[K Z,qN];rw[rV (P:=P) (cp:=cp) I N G C];rfl
     ·have R:n=0:=by omega
      subst R;have O:=wJ (P:=P) w ⟨W.r,off,none⟩ ([].map (Value.int .u8)) (λj v U=>by simp at U);have h0:=run_bytesToString (P:=P) w ⟨W.r,off,none⟩ 0 cp [] O;rw[h0];simp[cX];rfl
    ·rw[p]at i;cases i
   ·simp only[execOp,y,u,aw,run_convert_bytes_string w A d e J 0 0 hs t hd,rS];simp[cX]
  ·rename_i k' n;simp only[VR]at g;cases B<;>simp only[reduceCtorEq]at q;refine⟨_,q,.val (x:=.string (Utf8.encode n)) ?_ ?_⟩
   ·simp only[execOp,y,g,aw,convert,aU hs,aU hd,ay,Conv.intToString,aB]
   ·simp[VR]
  ·rename_i l;simp only[VR]at g;cases B<;>simp only[reduceCtorEq]at q;refine⟨_,q,.val (x:=.string ⟨l.toArray⟩) ?_ (by simp[VR])⟩;simp only[execOp,y,g,aw,convert,aU hs,aU hd,ay,aB]
  ·simp only[VR]at g;cases B<;>try (simp only[reduceCtorEq]at q;done)
   rename_i e;simp only at q;split at q
   ·rename_i t;refine⟨_,q,.val (x:=.string .empty) ?_ (by simp only[VR];rfl)⟩;simp only[execOp,y,g,aw,run_convert_bytes_string w A d e none 0 0 hs t hd];rfl
   ·cases q
  ·rename_i b off m cap;simp only[VR]at g;obtain⟨r,cp,p,_,_,u⟩:=g;cases B<;>try (simp only[reduceCtorEq]at q;done)
   rename_i e;simp only at q;split at q
   ·rename_i t;split at q
    ·rename_i qn l D;obtain⟨hc,q⟩:=eZ q;have C:=aH hc;obtain⟨r',V,fr,L,K,Y,_⟩:=vO M D;rw[p]at L;cases L;refine⟨_,q,.val (x:=.string ⟨(cX ((l.drop off).take m)).toArray⟩) ?_ (by simp[VR])⟩;simp only[execOp,y,u,aw,run_convert_bytes_string w A d e _ _ _ hs t hd,yC K Y C,ay,aB]
    ·cases q
   ·cases q
 ·rename_i e hd;split at q
  case h_2=>cases q
  rename_i t;cases v<;>try (simp only[reduceCtorEq]at q;done)
  rename_i l;simp only[VR]at g;cases B<;>simp only[reduceCtorEq]at q;refine⟨_,q,.mkR (d:=w.drawn+1) (q:=(Rf.of w.heap.size (l.length) (grownCap w l.length 0 e))) (x:=.slice (some ⟨w.heap.size,0,none⟩) l.length (grownCap w l.length 0 e))
   (ob:=.cells (Lib.bytesCells w e ⟨l.toArray⟩) e ((Lib.bytesCells w e ⟨l.toArray⟩).size,(Lib.bytesCells w e ⟨l.toArray⟩).size+1)) ?_ rfl rfl ?_ ?_⟩
  ·simp only[execOp,y,g,aw,Lib.run_convert_string_bytes w A d e ⟨l.toArray⟩ hs hd t,ay,aB,Av];rfl
  ·have E:l.length<=grownCap w l.length 0 e:=by simp only[grownCap,Question.cut];omega
   have S:((ByteArray.mk l.toArray).data.map λb=>Value.int .u8 b.toNat).size=l.length:=by simp
   refine⟨_,e,_,rfl,by simp,E,?_,?_,?_⟩
   ·simp only[Lib.bytesCells,Array.size_append,S,Array.size_replicate,aN,fR];have:(ByteArray.mk l.toArray).size=l.length:=rfl;rw[this];omega
   ·simp only[Lib.bytesCells,xp,AQ,aN,fR,cU,qN,bI];rw[uC (by simp),iR (by simp)];rw[rC,Array.toList_map,uU];rfl
   ·refine .inr λj U F=>?_;exact absurd F.1 (by simp only;omega)
  ·simp only[VR];exact .inl ⟨_,dp _ _ _,rfl⟩
 ·cases q
def NJ{R:Call}(O:o.op=.call R)(hT:TR ι s.T a.tmps)(hW:WR ι s.H s.nb w)(h:effK P (opd s.T) s.H f (.call R) c=some z):
  ∃e,c e=some z/\gH P ι f o a w e:=by
 obtain⟨Q,args,C⟩:=R;simp only[effK]at h;split at h
 case h_2=>cases h
 rename_i b;obtain⟨l,hl,q⟩:=av h;clear h;have g:=xc hT hl;have J:(args.map a.eval).toList=args.toList.map a.eval:=by simp
 rw[<-J]at g;generalize Y:args.map a.eval=A at g;have v:∃S,∀w,((do let d <-resolve a.eval ⟨.builtin b,args,C⟩ o.type;invoke d.target d.args):Sem Next).run P w=(builtin b C o.type S A).run P w:=by
  refine⟨args.map fun | .const _=>true | _=>false,λw=>?_⟩;simp only[resolve,Y,aw,aB,ay,invoke];rfl
 obtain⟨S,v⟩:=v;have one:∀{X:Value},A.toList=[X]->A[0]?=some X:=by
  intro X p;have:A=#[X]:=by apply mS;simpa using p
  simp[this]
 have D:∀{t:TypeId} {r:List TypeId},C.toList=t::r->C[0]?=some t:=by
  intro t r u;rw[<-qs,u];rfl
 have j:∀{n:Int} {rd:List Nat},b=.len->(∀w,(Builtin.len_ C o.type A).run P w=.ok (goInt n) w)->c { val:=some (.i .i64 n),rd:=rd }=some z->∃e,c e=some z/\gH P ι f o a w e:=by
  intro n rd M E hc;subst M;refine⟨_,hc,.val (x:=.int .i64 n) ?_ (by simp[VR])⟩;simp only[execOp,O];rw[v w];simp only[builtin,aw,E,ay,aB,goInt]
 have B:∀{n:Int} {rd:List Nat},b=.cap->(∀w,(Builtin.cap_ C o.type A).run P w=.ok (goInt n) w)->c { val:=some (.i .i64 n),rd:=rd }=some z->∃e,c e=some z/\gH P ι f o a w e:=by
  intro n rd M E hc;subst M;refine⟨_,hc,.val (x:=.int .i64 n) ?_ (by simp[VR])⟩;simp only[execOp,O];rw[v w];simp only[builtin,aw,E,ay,aB,goInt]
 split at q
 ·split at q
  ·rename_i sl;simp only[VRs,VR]at g;obtain⟨_,_,p,rfl,rfl⟩:=g;split at q
   ·rename_i t r u;split at q
    ·rename_i hd;refine j rfl (λw=>?_) q;simp only[Builtin.len_,D u,one p,aw,aU hd,ay,aB];rfl
    ·cases q
   ·cases q
  ·rename_i N oo n cp;simp only[VRs,VR]at g;obtain⟨_,_,p,⟨r,cap,_,_,_,rfl⟩,rfl⟩:=g;split at q
   ·rename_i t r u;split at q
    ·rename_i hd;refine j rfl (λw=>?_) q;simp only[Builtin.len_,D u,one p,aw,aU hd,ay,aB]
    ·cases q
   ·cases q
  ·simp only[VRs,VR]at g;obtain⟨_,_,p,rfl,rfl⟩:=g;split at q
   ·rename_i t r u;split at q
    ·rename_i hd;refine j rfl (λw=>?_) q;simp only[Builtin.len_,D u,one p,aw,aU hd,ay,aB];rfl
    ·cases q
   ·cases q
  ·rename_i N;simp only[VRs,VR]at g;obtain⟨_,_,p,L,rfl⟩:=g;split at q
   ·rename_i t r u;split at q
    ·rename_i hd;split at q
     ·rename_i tr l M;refine j (rd:=[N]) rfl (λw=>?_) q;rcases jp hW M with⟨q,S,e',fr,K,q2,q4,q5,q6,q7,_⟩ | ⟨K,rfl⟩
      ·rcases L with⟨q',F,rfl⟩ | ⟨F,_⟩
       ·rw[F]at K;cases K;simp only[Builtin.len_,D u,one p,aw,aU hd,ay,aB,q4]
       ·rw[F]at K;cases K
      ·rcases L with⟨q,F,_⟩ | ⟨F,U,rfl⟩
       ·rw[F]at K;cases K
       ·simp only[Builtin.len_,D u,one p,aw,aU hd,ay,aB];rfl
     ·cases q
    ·cases q
   ·cases q
  ·rename_i W N Z n _;simp only[VRs,VR]at g;obtain⟨_,_,p,L,rfl⟩:=g;split at q
   ·rename_i t r u;split at q
    ·rename_i hd;refine j rfl (λw=>?_) q;rcases L with⟨q,cp,off,F,_,_,rfl⟩ | ⟨_,⟨rfl,_⟩,U,rfl⟩
     ·simp only[Builtin.len_,D u,one p,aw,aU hd,ay,aB]
     ·simp only[Builtin.len_,D u,one p,aw,aU hd,ay,aB]
    ·cases q
   ·cases q
  ·simp only[VRs]at g;obtain⟨X,_,p,_,rfl⟩:=g;split at q
   ·rename_i t r u;split at q
    ·rename_i hd;refine j rfl (λw=>?_) q;simp only[Builtin.len_,D u,one p,aw,aU hd,ay,aB]
    ·cases q
   ·cases q
  ·cases q
 ·split at q
  ·rename_i W N Z V m;simp only[VRs,VR]at g;obtain⟨_,_,p,L,rfl⟩:=g;split at q
   ·rename_i t r u;split at q
    ·rename_i hd;refine B rfl (λw=>?_) q;rcases L with⟨q,cp,off,F,⟨_,hc⟩,_,rfl⟩ | ⟨_,⟨_,hc⟩,U,rfl⟩
     ·have:=hc m rfl;subst this;simp only[Builtin.cap_,D u,one p,aw,aU hd,ay,aB]
     ·have:=hc m rfl;subst this;simp only[Builtin.cap_,D u,one p,aw,aU hd,ay,aB]
    ·cases q
   ·cases q
  ·rename_i N oo V m;simp only[VRs,VR]at g;obtain⟨_,_,p,⟨qq,cp,F,hc,_,rfl⟩,rfl⟩:=g;split at q
   ·rename_i t r u;split at q
    ·rename_i hd;refine B rfl (λw=>?_) q;have:=hc m rfl;subst this;simp only[Builtin.cap_,D u,one p,aw,aU hd,ay,aB]
    ·cases q
   ·cases q
  ·simp only[VRs,VR]at g;obtain⟨_,_,p,rfl,rfl⟩:=g;split at q
   ·rename_i t r u;split at q
    ·rename_i hd;refine B rfl (λw=>?_) q;simp only[Builtin.cap_,D u,one p,aw,aU hd,ay,aB];rfl
    ·cases q
   ·cases q
  ·cases q
 ·split at q
  ·rename_i k x k' y;split at q
   ·rename_i I;have I:=k9 I;subst I;simp only[VRs,VR]at g;obtain⟨_,_,p,rfl,_,_,rfl,rfl,rfl⟩:=g;refine⟨_,q,.val (x:=.int k (cond (decide (y<x)) y x)) ?_ (by simp[VR])⟩;simp only[execOp,O];rw[v w];simp only[builtin,aw,Builtin.min_,p,List.foldlM,Builtin.min2,aB,ay];by_cases G:y<x<;>simp[G]
   ·cases q
  ·cases q
 ·split at q
  ·rename_i k x k' y;split at q
   ·rename_i I;have I:=k9 I;subst I;simp only[VRs,VR]at g;obtain⟨_,_,p,rfl,_,_,rfl,rfl,rfl⟩:=g;refine⟨_,q,.val (x:=.int k (cond (decide (y>x)) y x)) ?_ (by simp[VR])⟩;simp only[execOp,O];rw[v w];simp only[builtin,aw,Builtin.max_,p,List.foldlM,Builtin.max2,aB,ay];by_cases G:y>x<;>simp[G]
   ·cases q
  ·cases q
 ·cases q
def Vf{op:UnOp}{x:V}{X:Value}{c:V->Option α}(h:unK op x c=some z)(hx:VR ι x X)(w:World):
  ∃v R,c v=some z/\VR ι v R/\(Op.unary op X).run P w=.ok R w:=by
 unfold unK at h;split at h
 ·simp only[VR]at hx;subst hx;exact⟨_,_,h,rfl,rfl⟩
 ·simp only[VR]at hx;subst hx;exact⟨_,_,h,rfl,rfl⟩
 ·cases h
def N2{x:Operand}{i:Bool}(y:o.op=.next x i)(A:TR ι s.T a.tmps)(C:WR ι s.H s.nb w)(h:effK P (opd s.T) s.H f (.next x i) c=some z):
  ∃e,c e=some z/\gH P ι f o a w e:=by
 simp only[effK]at h;split at h
 case h_2=>cases h
 rename_i b hx;have t:=br A hx;simp only[VR]at t;obtain⟨r,m,n⟩:=t;split at h
 case h_2=>cases h
 rename_i l pos D;obtain⟨F,ob,v,p,q⟩:=(C.blk b _ D (by simp)).real (by simp);rw[m]at v;cases v;simp only[BR]at q;subst q;have k:(ByteArray.mk l.toArray).size=l.length:=rfl;have d:(getObj r.r).run P w=.ok (.stringIter ⟨l.toArray⟩ pos) w:=by simp[getObj,Sem.run,p]
 cases hc:Nat.blt pos l.length with
 | false=>
  rw[hc]at h;have E:¬pos<l.length:=λg=>by rw[show Nat.blt pos l.length=true from dT g]at hc;cases hc
  refine⟨_,h,.val (x:=.tuple #[.bool false]) ?_ (by simp[VR,VRs])⟩;simp only[execOp,y,n,Instr.next,aw,d,ay,k,E,az,aB]
 | true=>
  rw[hc]at h;have g:pos<l.length:=aH hc;refine⟨_,h,?_⟩;unfold gH;have j:∀ob,(Go.setObj r.r ob).run P w=.ok () (setObj w r.r ob):=by
   intro ob;simp[Go.setObj,Sem.run,p,setObj]
  refine⟨r,m,λ_=>⟨.stringIter ⟨l.toArray⟩ (pos+(dec l pos).2),.value (.tuple #[.bool true,.int .i64 pos,.int .i32 (dec l pos).1]),?_,rfl,.value _ λu B=>by cases B;simp[VR,VRs]⟩⟩;simp only[execOp,y,n,Instr.next,aw,d,ay,k,g,aG,j,aB,dec,goInt]
def Gs{t:List Lf}(x:den t):∀n,(List.replicate n x).flatMap (vals t)=(List.replicate n (vals t x)).flatten
 | 0=>rfl
 | n+1=>by simp[uW,qK,Gs x n]
def JE{l:List Value}:∀n:Nat,(List.replicate n l).flatten.length=n*l.length
 | 0=>by simp
 | n+1=>by rw[uW,List.flatten_cons,bw,JE n,gY];omega
def Jg{l:List Value}:∀(n j:Nat),j<n*l.length->(List.replicate n l).flatten[j]?=l[j%l.length]?
 | 0,j,h=>by simp at h
 | n+1,j,h=>by
  simp only[uW,List.flatten_cons];by_cases a:j<l.length
  ·rw[nF a,sL a]
  ·rw[pW (by omega),Jg n _ (by rw[gY]at h;omega),<-Nat.mod_eq_sub_mod (by omega)]
def Bo{t:TypeId}{x y:Operand}(X:o.op=.makeSlice t x y)(Q:TR ι s.T a.tmps)(h:effK P (opd s.T) s.H f (.makeSlice t x y) c=some z):
  ∃e,c e=some z/\gH P ι f o a w e:=by
 simp only[effK]at h;obtain⟨u,E,O⟩:=av h;obtain⟨v,D,b⟩:=av O;clear h O;have E:=br Q E;have D:=br Q D;split at b
 case h_2=>cases b
 rename_i e hd;split at b
 case h_2=>cases b
 rename_i k1 n k2 m _ _;simp only[VR]at E D;obtain⟨zv,I,b⟩:=av b;split at b
 case h_2=>cases b
 rename_i tr p _ l;split at b
 case h_2=>cases b
 rename_i L;simp only[aC,jn]at L;obtain⟨M,e2,N,F⟩:=L;have N:=aH N;have F:=aH F;obtain⟨z',J,b⟩:=av b;obtain⟨hc,b⟩:=eZ b;simp only[aC,cr]at hc;obtain⟨Z,Y,c2⟩:=hc;obtain⟨zc,i,R,W,S,_⟩:=vD ι I;rw[l]at R;cases R;have g:=nq S;rw[vR J]at g;have g:=(nQ ι tr z' _).1 g;have B:p.size=P.cellsOf e:=by unfold Program.cellsOf;rw[l];rfl
 have V:m=(m.toNat:Int):=by omega
 have r:=run_make (P:=P) w t e p zc hd l W k1 k2 n m Z Y (by
  rw[V,<-HO];have:p.bytes*m.toNat<=1048576*67108864:=Ee F (by omega);omega) (by omega)
 refine⟨_,b,.mkR (d:=w.drawn) (q:=(Rf.of w.heap.size (n.toNat) (m.toNat))) (x:=.slice (some ⟨w.heap.size,0,none⟩) n.toNat m.toNat) (ob:=.cells (madeCells zc.cells (m.toNat*p.size)) e) ?_ rfl rfl ?_ ?_⟩
 ·simp only[execOp,X,E,D,aw,r,ay,aB]
 ·have G:(madeCells zc.cells (m.toNat*p.size)).size=m.toNat*p.size:=size_madeCells _ _;refine⟨_,e,_,rfl,by simp,by simp only;omega,by rw[G,B,M];simp,?_,.inr (su _)⟩;simp only[bI];rw[Gs,FG,<-g];apply B9;intro j;have k:zc.cells.toList.length=tr.length:=by rw[g,jN]
  have A:zc.cells.size=tr.length:=by simpa using k
  have U:n.toNat*tr.length<=m.toNat*tr.length:=n8 _ (by omega);by_cases K:j<n.toNat*tr.length
  ·rw[qm K,Jg n.toNat j (by rw[k];exact K),k];have C:j%tr.length<zc.cells.size:=by rw[A];exact AS _ (by omega)
   simp only[madeCells,B,<-M,A];rw[qs,Array.getElem?_map,Array.getElem?_range];simp[show j<m.toNat*tr.length by omega,C]
  ·rw[gU (by rw[dq];omega),gU (by rw[JE,k];omega)]
 ·simp only[VR];exact .inl ⟨_,dp _ _ _,rfl⟩
def U9{op:BinOp}{t:TypeId}{x y:Operand}{u v:V}{r:Bool}{X Y:Value}(h:niK P op t x y u v=some r)(hx:VR ι u X)(hy:VR ι v Y)(w:World):
  (eqGuard op t x y X Y).run P w=.ok () w/\(binOp op t X Y).run P w=.ok (.bool r) w:=by
 unfold niK at h;split at h
 case h_2=>cases h
 simp only[VR]at hx hy;subst hx hy;split at h
 case h_2=>cases h
 rename_i hc;split at h
 case h_2=>cases h
 rename_i e hd;have c:∀o:BinOp,o=.eql\/o=.neq->(eqGuard o t x y .nilIface .nilIface).run P w=.ok () w:=by
  intro o d;have a:(∃v,x=.const v)\/∃v,y=.const v:=by
   rw[iC]at hc;refine hc.imp (λh=>?_) (λh=>?_)
   ·cases x<;>simp_all[Ha]
   ·cases y<;>simp_all[Ha]
  rcases a with⟨v,rfl⟩ | ⟨v,rfl⟩<;>rcases d with rfl | rfl<;>simp[eqGuard]
 have b:(Op.equal t .nilIface .nilIface).run P w=.ok true w:=by rw[eS,Op.equalIn];simp[aU hd]
 split at h
 ·simp only[ar]at h;subst h;exact⟨c _ (.inl rfl),by simp[binOp,b]⟩
 ·simp only[ar]at h;subst h;exact⟨c _ (.inr rfl),by simp[binOp,b]⟩
 ·cases h
def kI{t e:TypeId}{b:TypeInfo}(hd:P.underlying t=some (.slice e))(hi:P.info? e=some b){n cp:Nat}{a:Option Addr}{k k':IntKind}{h m:Int}{H M:Nat}(d:bx n m=some M)(g:bx M h=some H)(l:n<=cp)(w:World):
  (Instr.sliceAt t (.slice a n cp) none (some (.int k h)) (some (.int k' m))).run P w=.ok (.slice a H M) w:=by
 obtain⟨m0,m1,rfl⟩:=lE d;obtain⟨i,f,rfl⟩:=lE g;have c:=run_sliceBound (P:=P) w k' m cp .slice3Acap m0 (by omega);have j:=run_sliceBound (P:=P) w k h m.toNat .slice3B i f;simp only[Instr.sliceAt,Instr.slice,aw,aU hd,ay,Instr.sliceBounds,aG,c,j,aB,f9 hi,pL,A7];split
 ·rfl
 ·cases a with
  | none=>rfl
  | some q=>obtain⟨r,o,x⟩:=q;simp[Addr.add]
def Iu{t:TypeId}{x mx:Operand}{lo hi:Option Operand}(F:o.op=.slice t x lo hi (some mx))(K:TR ι s.T a.tmps)(Y:WR ι s.H s.nb w)(h:effK P (opd s.T) s.H f (.slice t x lo hi (some mx)) c=some z):
  ∃e,c e=some z/\gH P ι f o a w e:=by
 simp only[effK,uI]at h;split at h
 case h_2=>cases h
 rename_i hh;obtain⟨v,hx,d⟩:=av h;clear h;have B:=br K hx;clear hx;split at d
 case h_2=>cases d
 rename_i k1 X k2 m1 L J;have E:=br K L;have D:=br K J;simp only[VR]at E D;split at d
 case h_2=>cases d
 rename_i e hd;split at d
 case h_2=>cases d
 rename_i hp;obtain⟨ti,i⟩:=bX hp;split at d
 ·rename_i b;split at d
  case h_2=>cases d
  rename_i tr l W;split at d
  case h_2=>cases d
  obtain⟨M,u,G⟩:=av d;obtain⟨H,p,C⟩:=av G;obtain⟨m0,m2,Q⟩:=lE u;obtain⟨S,R,O⟩:=lE p;simp only[VR]at B;rcases jp Y W with⟨q,cs,e',fr,A,r2,r4,r5,_,_,_⟩ | ⟨A,rfl⟩
  ·rcases B with⟨q',g,y⟩ | ⟨g,_⟩
   ·rw[g]at A;cases A;refine⟨_,C,.val (x:=.slice (some ⟨q.r,q.o,none⟩) H M) ?_ ?_⟩
    ·simp only[execOp,F,y,E,D,aw,iQ,fi];rw[<-r4,kI hd i u p (by omega) w];rfl
    ·simp only[VR];exact .inl ⟨q,_,_,g,⟨by omega,rE⟩,λ_=>by omega,rfl⟩
   ·rw[g]at A;cases A
  ·rcases B with⟨q,g,y⟩ | ⟨g,I,y⟩
   ·rw[g]at A;cases A
   ·simp only[fR]at m2;have k:M=0:=by omega
    have m:H=0:=by omega
    subst k m;refine⟨_,C,.val (x:=.slice I 0 0) ?_ (by unfold VR;exact .inr ⟨g,⟨rfl,rE⟩,I,rfl⟩)⟩;simp only[execOp,F,y,E,D,aw,iQ,fi];rw[kI hd i (n:=0) (M:=0) u p (by omega) w];rfl
 ·rename_i Z b j n _;obtain⟨M,u,G⟩:=av d;obtain⟨H,p,C⟩:=av G;obtain⟨m0,m2,Q⟩:=lE u;obtain⟨S,R,O⟩:=lE p;simp only[VR]at B;rcases B with⟨q,cp,off,g,⟨N,_⟩,V,y⟩ | ⟨g,⟨N,_⟩,I,y⟩
  ·refine⟨_,C,.val (x:=.slice (some ⟨q.r,off,none⟩) H M) ?_ ?_⟩
   ·simp only[execOp,F,y,E,D,aw,iQ,fi];rw[kI hd i u p N w];rfl
   ·simp only[VR];exact .inl ⟨q,_,_,g,⟨by omega,rE⟩,λU=>V (by omega),rfl⟩
  ·subst N;have k:M=0:=by omega
   have m:H=0:=by omega
   subst k m;refine⟨_,C,.val (x:=.slice I 0 0) ?_ (by unfold VR;exact .inr ⟨g,⟨rfl,rE⟩,I,rfl⟩)⟩;simp only[execOp,F,y,E,D,aw,iQ,fi];rw[kI hd i (n:=0) (M:=0) u p (by omega) w];rfl
 ·obtain⟨M,u,G⟩:=av d;obtain⟨H,p,C⟩:=av G;obtain⟨m0,m2,Q⟩:=lE u;obtain⟨S,R,O⟩:=lE p;simp only[VR]at B;have k:M=0:=by omega
  have m:H=0:=by omega
  subst k m;refine⟨_,C,.val (x:=.slice none 0 0) ?_ (by simp only[VR])⟩;simp only[execOp,F,B,E,D,aw,iQ,fi];rw[kI hd i (n:=0) (M:=0) u p (by omega) w];rfl
 ·cases d
def Uh{op:BinOp}{t:TypeId}{u v:V}{r:Bool}{n:Nat}{rd:List Nat}{X Y:Value}{H:List (Nat×Blk)}{nb:Nat}(h:slN P op t u v=some r)(a:slL H u=some (n,rd))(x:0<n)(B:WR ι H nb w)(hx:VR ι u X)(hy:VR ι v Y)(p q:Operand):
  (eqGuard op t p q X Y).run P w=.ok () w/\(binOp op t X Y).run P w=.ok (.bool r) w:=by
 unfold slN at h;split at h
 case h_2=>cases h
 simp only[VR]at hy;subst hy;have d:∀(A:Addr) (n c:Nat),X=.slice (some A) n c->P.underlying t=(P.underlying t)->∀e,P.underlying t=some (.slice e)->
   ((eqGuard .eql t p q X (.slice none 0 0)).run P w=.ok () w/\(binOp .eql t X (.slice none 0 0)).run P w=.ok (.bool false) w)/\
   ((eqGuard .neq t p q X (.slice none 0 0)).run P w=.ok () w/\(binOp .neq t X (.slice none 0 0)).run P w=.ok (.bool (!false)) w):=by
  rintro A n c rfl _ e hd;exact oV p q (.inl (by simp)) (.inl (by simp)) (by simp) (by rw[eS,Op.equalIn];simp[aU hd])
 have b:∀(A:Addr) (n c:Nat),X=.slice (some A) n c->slT P op t=some r->(eqGuard op t p q X (.slice none 0 0)).run P w=.ok () w/\(binOp op t X (.slice none 0 0)).run P w=.ok (.bool r) w:=by
  intro A n c y h;unfold slT at h;split at h
  case h_2=>cases h
  rename_i e hd;obtain⟨m1,m2⟩:=d A n c y rfl e hd;split at h
  ·simp only[ar]at h;subst h;exact m1
  ·simp only[ar]at h;subst h;exact m2
  ·cases h
 split at h
 ·rename_i c;simp only[slL]at a;split at a
  case h_2=>cases a
  rename_i tr l o;simp only[ar,bm]at a;obtain⟨rfl,_⟩:=a;simp only[VR]at hx;rcases jp B o with⟨G,F,E,fr,g,D,r4,_⟩ | ⟨g,rfl⟩
  ·rcases hx with⟨s,f,i⟩ | ⟨f,_⟩
   ·exact b _ _ _ i h
   ·rw[f]at g;cases g
  ·simp at x
 ·rename_i z c j m C;simp only[slL,ar,bm]at a;obtain⟨rfl,_⟩:=a;simp only[VR]at hx;rcases hx with⟨s,K,I,f,i,J,k⟩ | ⟨f,⟨i,_⟩,_⟩
  ·exact b _ _ _ k h
  ·omega
 ·cases h
def Eb{t:TypeId}{x:Option Operand}(b:o.op=.makeMap t x)(h:effK P (opd s.T) s.H f (.makeMap t x) c=some z):∃e,c e=some z/\gH P ι f o a w e:=by
 simp only[effK]at h;split at h
 case h_2=>cases h
 split at h
 case h_2=>cases h
 refine⟨_,h,.mk (x:=.map (some w.heap.size)) (ob:=.map #[] 0) ?_ ⟨#[],0,rfl,rfl⟩ (by simp only[VR];exact⟨_,dp _ _ _,rfl⟩)⟩;simp only[execOp,b,iQ,aw];rfl
def P5{H:List (Nat×Blk)}{nb b:Nat}{w:World}(i:WR ι H nb w){k:IntKind}{l:List (Int×Nat)}(g:look H b=some (.mp k l)):
  ∃q c a,ι b=some (some q)/\w.heap[q.r]?=some (.map c a)/\c.toList.map (λe=>(e.key,e.val))=l.map λp=>(Value.int k p.1,fnV p.2 #[]):=by
 obtain⟨q,o,f,h,c,a,rfl,d⟩:=(i.blk b _ g (by simp)).real (by simp);exact⟨q,c,a,f,h,d⟩
def Md{α:Type}{k:IntKind}{n:Int}{c:Nat->Option α}{z:α}:∀(b:List MapEntry) (l:List (Int×Nat)) (i:Nat),b.map (λe=>(e.key,e.val))=l.map (λp=>(Value.int k p.1,fnV p.2 #[]))->mapK l n c=some z->
  ∃g j,c g=some z/\Instr.findNow (.int k) (.int k n) b i=some (some (j,fnV g #[]))
 | [],[],_,_,h=>by cases h
 | [],_::_,_,a,_=>by simp at a
 | _::_,[],_,a,_=>by simp at a
 | e::b,(m,g)::l,i,a,h=>by
  simp only[fV,Nu,bm]at a;obtain⟨⟨f,r⟩,o⟩:=a;simp only[mapK]at h;cases d:(n==m)with
  | true=>
   rw[d]at h;exact⟨g,i,h,by simp only[Instr.findNow,f,Instr.sameNow,aG,d,r]⟩
  | false=>
   rw[d]at h;obtain⟨t,j,s,q⟩:=Md b l (i+1) o h;exact⟨t,j,s,by simp only[Instr.findNow,f,Instr.sameNow,aG,d];exact q⟩
def IK{t:TypeId}{m x:Operand}{ok:Bool}(E:o.op=.lookup t m x ok)(y:TR ι s.T a.tmps)(L:WR ι s.H s.nb w)(h:effK P (opd s.T) s.H f (.lookup t m x ok) c=some z):
  ∃e,c e=some z/\gH P ι f o a w e:=by
 simp only[effK]at h;split at h
 case h_2=>cases h
 rename_i b C;split at h
 case h_2=>cases h
 rename_i k n hx;split at h
 case h_2=>cases h
 rename_i kt O hd;split at h
 case h_2=>cases h
 rename_i k2 v;split at h
 case h_2=>cases h
 rename_i k1 l F;split at h
 case h_2=>cases h
 rename_i d;simp only[aC]at d;have K:=k9 d.1;have G:=k9 d.2;subst K G;have r:=br y C;have u:=br y hx;simp only[VR]at r u;obtain⟨q,M,D⟩:=r;obtain⟨Q,I,i,p,J,B⟩:=P5 L F;rw[M]at p;cases p;obtain⟨g,j,A,N⟩:=Md I.toList l 0 B h;refine⟨_,A,.val (x:=fnV g #[]) ?_ (by simp only[VR];exact⟨#[],rfl,by simp[VRs]⟩)⟩;simp only[execOp,E,D,u,aw,Instr.lookup,aU hd,ay,MapKept.run_getObj_map J,aB,
  MapKept.run_checkKey (k:=.int k2 n) v (by simp[MapKept.IsKey]),MapKept.run_findKey v N]
 rfl
def IB{t:TypeId}{m x y:Operand}(Y:o.op=.insert t m x y)(I:TR ι s.T a.tmps)(hW:WR ι s.H s.nb w)(h:effK P (opd s.T) s.H f (.insert t m x y) c=some z):
  ∃e,c e=some z/\gH P ι f o a w e:=by
 simp only[effK]at h;split at h
 case h_2=>cases h
 rename_i b V;split at h
 case h_2=>cases h
 rename_i k n g hx hy;split at h
 case h_2=>cases h
 rename_i kt et hd;split at h
 case h_2=>cases h
 rename_i k2 N;split at h
 case h_2=>cases h
 rename_i k1 l Z;split at h
 case h_2=>cases h
 rename_i A;simp only[aC]at A;obtain⟨G,F,B⟩:=A;have e1:=k9 G;have e2:=k9 F;subst e1 e2;have L:=br I V;have M:=br I hx;have R:=br I hy;simp only[VR]at L M R;obtain⟨q,S,X⟩:=L;obtain⟨cs,W,Q⟩:=R;simp only[VRs]at Q;have E:cs=#[]:=by
  apply mS;simpa using Q
 subst E;obtain⟨q',D,d,K,O,J⟩:=P5 hW Z;rw[S]at K;cases K;have C:∀e∈D.toList,∃p∈l,e.key=.int k2 p.1:=by
  intro e u;have:(e.key,e.val)∈l.map λp=>(Value.int k2 p.1,fnV p.2 #[]):=by rw[<-J];exact eU.2 ⟨e,u,rfl⟩
  obtain⟨p,hp,i⟩:=eU.1 this;simp only[bm]at i;exact⟨p,hp,i.1.symm⟩
 have r:MapKept.IsKey (.int k2) (.int k2 n):=by simp[MapKept.IsKey]
 have v:Instr.findNow (.int k2) (.int k2 n) D.toList 0=some none:=by
  rcases MapKept.findNow_spec r D.toList 0 (λe u=>by obtain⟨p,_,hp⟩:=C e u;rw[hp];simp[MapKept.IsKey])with⟨h,_⟩ | ⟨j,e,_,U,u⟩
  ·exact h
  ·exfalso;obtain⟨p,hp,i⟩:=C e (fG U);rw[i]at u;have:=(cE.1 B) p hp;simp only[Value.int.injEq,jD]at u;simp[u]at this
 refine⟨_,h,?_⟩;unfold gH;refine⟨q,S,λ_=>⟨.map (D.push { key:=.int k2 n,val:=fnV g #[],born:=d }) (d+1),.skip,?_,⟨_,_,rfl,?_⟩,.skip rfl⟩⟩
 ·simp only[execOp,Y,X,M,W,aw,Instr.mapUpdate,aU hd,ay,MapKept.run_getObj_map O,MapKept.run_checkKey (k:=.int k2 n) N r,MapKept.run_findKey N v,MapKept.run_setObj_map _ O,aB];rfl
 ·rw[Array.toList_push,Ep,Ep,J];rfl
def Lh(k:TR ι s.T a.tmps)(C:WR ι s.H s.nb w)(Y:ι f=none)(h:effK P (opd s.T) s.H f o.op c=some z):∃e,c e=some z/\gH P ι f o a w e:=by
 cases j:o.op with
 | move x=>
  rw[j]at h;simp only[effK]at h;obtain⟨v,p,h⟩:=av h;exact⟨_,h,.val (by simp only[execOp,j,aB]) (br k p)⟩
 | assign x=>
  rw[j]at h;simp only[effK]at h;obtain⟨v,p,h⟩:=av h;exact⟨_,h,.val (by simp only[execOp,j,aB]) (br k p)⟩
 | pick q x y=>
  rw[j]at h;simp only[effK]at h;split at h
  ·rename_i t K;have p:=br k K;simp only[VR]at p;cases t
   ·simp only[af]at h;obtain⟨v,A,h⟩:=av h;exact⟨_,h,.val (x:=a.eval y) (by simp[execOp,j,p,asBool]) (br k A)⟩
   ·simp only[aj]at h;obtain⟨v,A,h⟩:=av h;exact⟨_,h,.val (x:=a.eval x) (by simp[execOp,j,p,asBool]) (br k A)⟩
  ·cases h
 | alloc t=>rw[j]at h;exact JA j h
 | makeMap t x=>rw[j]at h;exact Eb j h
 | insert t m x y=>rw[j]at h;exact IB j k C h
 | lookup t m x ok=>rw[j]at h;exact IK j k C h
 | box t x=>rw[j]at h;exact RR j k Y h
 | build t ps=>rw[j]at h;exact I6 j k h
 | buildSlice t n ps=>rw[j]at h;exact yx j k Y h
 | load t x=>rw[j]at h;exact OR j k C h
 | makeSlice t x y=>rw[j]at h;exact Bo j k h
 | store t x y=>rw[j]at h;exact K4 j k C h
 | nilCheck x=>
  rw[j]at h;simp only[effK]at h;split at h
  ·rename_i b off hx;have p:=br k hx;have A:=p;simp only[VR]at p;obtain⟨r,Z,B⟩:=p;exact⟨_,h,.val (x:=a.eval x) (by simp[execOp,j,B]) A⟩
  ·rename_i zz b jj off hx;have p:=br k hx;have A:=p;simp only[VR]at p;obtain⟨r,Z,B⟩:=p;exact⟨_,h,.val (x:=a.eval x) (by simp[execOp,j,B]) A⟩
  ·rename_i g l hx;have p:=br k hx;have A:=p;simp only[VR]at p;obtain⟨V,B,_⟩:=p;obtain⟨g',b',c',h7⟩:=zB g V;exact⟨_,h,.val (x:=a.eval x) (by simp[execOp,j,B,h7]) A⟩
  ·rename_i b off n m hx;have p:=br k hx;have A:=p;simp only[VR]at p;obtain⟨r,cp,_,_,_,B⟩:=p;exact⟨_,h,.val (x:=a.eval x) (by simp[execOp,j,B]) A⟩
  ·rename_i t v hx;have p:=br k hx;have A:=p;simp only[VR]at p;obtain⟨y,B,_⟩:=p;exact⟨_,h,.val (x:=a.eval x) (by simp[execOp,j,B]) A⟩
  ·cases h
 | binOp op t x y yt=>
  rw[j]at h;simp only[effK]at h;obtain⟨u,J,h⟩:=av h;obtain⟨v,p,h⟩:=av h;split at h
  ·rename_i r U;have hx:=br k J;have hy:=br k p;obtain⟨G,L⟩:=U9 U hx hy w;exact⟨_,h,.val (x:=.bool r) (by simp only[execOp,j,aw,G,L,ay,aB]) (by simp[VR])⟩
  split at h
  ·rename_i r U;split at h
   case h_2=>cases h
   rename_i m rd F;obtain⟨hm,h⟩:=eZ h;obtain⟨G,L⟩:=Uh U F (aH hm) C (br k J) (br k p) x y;exact⟨_,h,.val (x:=.bool r) (by simp only[execOp,j,aw,G,L,ay,aB]) (by simp[VR])⟩
  obtain⟨R,X,W,Q,G,L⟩:=Sz h (br k J) (br k p) x y w;exact⟨_,W,.val (x:=X) (by simp only[execOp,j,aw,G,L,ay,aB]) Q⟩
 | unOp op t x=>
  rw[j]at h;simp only[effK]at h;obtain⟨u,J,h⟩:=av h;obtain⟨R,X,W,Q,G⟩:=Vf (P:=P) h (br k J) w;exact⟨_,W,.val (x:=X) (by simp only[execOp,j,aw,G,ay,aB]) Q⟩
 | convert sr d x=>rw[j]at h;exact EG j k C h
 | next x str=>rw[j]at h;exact N2 j k C h
 | makeInterface t x=>
  rw[j]at h;simp only[effK]at h;obtain⟨u,J,h⟩:=av h;have p:=br k J;split at h
  ·cases h
  ·rename_i d N hd;refine⟨_,h,.val (x:=.iface t (a.eval x)) ?_ (by simp only[VR];exact⟨_,rfl,p⟩)⟩;simp only[execOp,j,Instr.makeInterface,aw,aU hd,ay];cases d<;>first | rfl | exact absurd rfl (N _)
  ·cases h
 | makeFunc fn first cap=>
  rw[j]at h;simp only[effK]at h;split at h
  ·rename_i g E;split at h
   case h_2=>cases h
   rename_i hb;obtain⟨l,F,h⟩:=av h;have I:=xc k F;have D:first=#[]:=by apply mS;simpa using E
   refine⟨_,h,.val (x:=.func (.func g) #[] (cap.map a.eval)) ?_ (by simp only[VR];exact⟨_,(Fe hb _).symm,by simpa using I⟩)⟩;simp only[execOp,j,Instr.makeFunc,D,Gq,aw,aB,ay]
  ·rename_i g _ _ E;split at h
   ·rename_i M;obtain⟨l,F,h⟩:=av h;have I:=xc k F;have hcap':cap=#[]:=by apply mS;simpa using M
    refine⟨_,h,.val (x:=.func (.func g) (first.map a.eval) #[]) ?_ (by simp only[VR];exact⟨_,(Of g _).symm,by simpa using I⟩)⟩;simp only[execOp,j,Instr.makeFunc,hcap',Gq,aw,aB,ay]
   ·cases h
  ·cases h
 | slice t x lo hi mx=>
  rw[j]at h;cases mx with
  | none=>exact K6 j k C h
  | some m=>exact Iu j k C h
 | fieldAddr t x i=>rw[j]at h;exact Bv j k h
 | field t x i=>rw[j]at h;exact JR j k h
 | indexAddr t x i=>rw[j]at h;exact A9 j k C h
 | index t x i=>rw[j]at h;exact MF j k h
 | range t x=>rw[j]at h;exact Nc j k h
 | extract x i=>
  rw[j]at h;simp only[effK]at h;split at h
  ·rename_i l hx;obtain⟨v,p,h⟩:=av h;have F:=br k hx;simp only[VR]at F;obtain⟨V,B,O⟩:=F;obtain⟨y,hy,S⟩:=O.get p;have hy':V[i]?=some y:=by simpa using hy
   exact⟨_,h,.val (x:=y) (by simp[execOp,j,B,Instr.extract,hy']) S⟩
  ·cases h
 | typeAssert x xt at_ ok=>
  rw[j]at h;simp only[effK]at h;split at h
  case h_2=>cases h
  rename_i t v hx;have p:=br k hx;simp only[VR]at p;obtain⟨y,B,hy⟩:=p;split at h
  ·cases h
  ·rename_i d N hd;split at h
   case h_2=>cases h
   rename_i K;have K:=bG K;subst K;cases ok with
   | true=>
    refine⟨_,h,.val (x:=.tuple #[y,.bool true]) ?_ (by simp only[VR,VRs];exact⟨_,rfl,y,[.bool true],rfl,hy,_,[],rfl,rfl,rfl⟩)⟩;simp only[execOp,j,B,Instr.typeAssert,aw,aU hd,ay];cases d<;>first | simp | exact absurd rfl (N _)
   | false=>
    refine⟨_,h,.val (x:=y) ?_ hy⟩;simp only[execOp,j,B,Instr.typeAssert,aw,aU hd,ay];cases d<;>first | simp | exact absurd rfl (N _)
  ·cases h
 | call cl=>rw[j]at h;exact NJ j k C h
 | _=>rw[j]at h;simp[effK]at h
end ops
end Go.Abs
