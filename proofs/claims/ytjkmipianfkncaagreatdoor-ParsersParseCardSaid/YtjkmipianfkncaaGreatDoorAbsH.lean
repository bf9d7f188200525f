
import Derived.Test.YtjkmipianfkncaaGreatDoorAbsG
import Derived.Laws.BytesArg
import Derived.Laws.BytesString
import Derived.Lib.ConvBytes
import Derived.Laws.MakeOwn
import Derived.Deep.AppendSrc
import Derived.MapKept
set_option linter.unusedSimpArgs false
set_option linter.unusedVariables false
set_option linter.defProp false
namespace Go.Abs
variable {P:Program}
section ops
variable {α:Type} {ι:Inj} {s:St} {a:Act} {w:World} {f:Nat} {o:Oper} {c:Eff->Option α} {z:α}
def vY{t:TypeId}{a:Array Field}{fd:Field}{i:Nat}{c:TypeInfo}(hd:P.underlying t=some (.struct a))(b:a[i]?=some fd)(hi:P.info? fd.type=some c)
  (hp:0<P.cellsOf fd.type) (r off:Nat) (w:World):(Instr.fieldAt t (.pointer (some ⟨r,off,none⟩)) i).run P w=.ok (.pointer (some ⟨r,off+fd.offset,none⟩)) w:=by
 simp only[Instr.fieldAt,aw,aT hd,ay,b,Instr.sureAddr,aA,fieldPlace,fN hi,show¬(P.cellsOf fd.type=0)by omega,aC,mu]
def zF{t:TypeId}{x:Operand}{i:Nat}(q:o.op=.fieldAddr t x i)(u:TR ι s.T a.tmps)(h:effK P (opd s.T) s.H f (.fieldAddr t x i) c=some z):
  ∃e,c e=some z/\gj P ι f o a w e:=by
 simp only[effK]at h;split at h
 ·rename_i b off hx;split at h
  ·rename_i y hd;split at h
   ·rename_i fd n;split at h
    ·rename_i hp;obtain⟨v,g⟩:=bQ hp;have k:=bp u hx;simp only[VR]at k;obtain⟨r,l,m⟩:=k;have d:=vY hd (by simpa using n) g (aG hp) r.r off w;exact⟨_,h,.val (x:=.pointer (some ⟨r.r,off+fd.offset,none⟩)) (by simp only[execOp,q,m,aw,d,ay,aA]) (by simp only[VR,ow];exact⟨r,l,rfl⟩)⟩
    ·cases h
   ·cases h
  ·cases h
 ·rename_i p b j off hx;split at h
  ·rename_i y hd;split at h
   ·rename_i fd n;split at h
    ·rename_i hp;obtain⟨v,g⟩:=bQ hp;have k:=bp u hx;simp only[VR]at k;obtain⟨r,l,m⟩:=k;have d:=vY hd (by simpa using n) g (aG hp) r.r (r.o+(j*p+off)) w;exact⟨_,h,.val (x:=.pointer (some ⟨r.r,r.o+(j*p+off)+fd.offset,none⟩)) (by simp only[execOp,q,m,aw,d,ay,aA]) (by simp only[VR,ow];exact⟨r,l,by rw[gN,gN]⟩)⟩
    ·cases h
   ·cases h
  ·cases h
 ·cases h
def JL{t:TypeId}{x:Operand}{i:Nat}(q:o.op=.field t x i)(B:TR ι s.T a.tmps)(h:effK P (opd s.T) s.H f (.field t x i) c=some z):
  ∃e,c e=some z/\gj P ι f o a w e:=by
 simp only[effK]at h;split at h
 ·rename_i l hx;have r:=bp B hx;simp only[VR]at r;obtain⟨p,n,j⟩:=r;split at h
  ·rename_i D hd;split at h
   ·rename_i fd C;have hf':D[i]?=some fd:=by simpa using C
    split at h
    ·rename_i b;split at h
     ·have A:∃d,P.underlying fd.type=some d:=by
       unfold bM at b;split at b
       ·exact⟨_,by assumption⟩
       ·exact⟨_,by assumption⟩
       ·cases b
      obtain⟨d',g⟩:=A;obtain⟨E,m⟩:=mi g;refine⟨_,h,.val (x:=.agg (p.extract fd.offset (fd.offset+P.cellsOf fd.type))) ?_ (oW (j.extract _ _))⟩;simp only[execOp,q,n,Instr.field,aw,aT hd,ay,hf',asAgg,aA,part,jY g,b,aH,fN m]
     ·cases h
    ·rename_i b;split at h
     ·rename_i d' g;obtain⟨v,u,h⟩:=av h;obtain⟨y,hy,k⟩:=j.get u;have hy':p[fd.offset]?=some y:=by simpa using hy
      refine⟨_,h,.val (x:=y) ?_ k⟩;simp only[execOp,q,n,Instr.field,aw,aT hd,ay,hf',asAgg,aA,part,jY g,b,bs,aC,hy']
     ·cases h
   ·cases h
  ·cases h
 ·cases h
def nX{t e:TypeId}{m:Nat}{a:TypeInfo}(hd:P.underlying t=some (.array m e))(hi:P.info? e=some a)(k:IntKind){n:Int}(b:0<=n)(c:n<m)(r off:Nat)(w:World):
  (Instr.indexAt t (.pointer (some ⟨r,off,none⟩)) (.int k n)).run P w=.ok (.pointer (some ⟨r,off+n.toNat*P.cellsOf e,none⟩)) w:=by
 simp only[Instr.indexAt,asIntOf,aw,aA,ay,aT hd,Instr.sureAddr,b,c,and_self,aH,fN hi,mu]
def kP{t e:TypeId}{m cp:Nat}{a:TypeInfo}(hd:P.underlying t=some (.slice e))(hi:P.info? e=some a)(k:IntKind){n:Int}(b:0<=n)(c:n<m)(r off:Nat)(w:World):
  (Instr.indexAt t (.slice (some ⟨r,off,none⟩) m cp) (.int k n)).run P w=.ok (.pointer (some ⟨r,off+n.toNat*P.cellsOf e,none⟩)) w:=by
 simp only[Instr.indexAt,asIntOf,aw,aA,ay,aT hd,b,c,and_self,aH,fN hi,mu]
def AO{t:TypeId}{x i:Operand}(F:o.op=.indexAddr t x i)(D:TR ι s.T a.tmps)(L:WR ι s.H s.nb w)(h:effK P (opd s.T) s.H f (.indexAddr t x i) c=some z):
  ∃e,c e=some z/\gj P ι f o a w e:=by
 simp only[effK]at h;split at h
 case h_2=>cases h
 rename_i k n hi;have u:=bp D hi;simp only[VR]at u;split at h
 ·rename_i m e hd;split at h
  ·rename_i b off hx;have p:=bp D hx;simp only[VR]at p;obtain⟨r,v,C⟩:=p;split at h
   ·rename_i hp;obtain⟨G,g⟩:=bQ hp;obtain⟨j,B,h⟩:=av h;obtain⟨g0,A,rfl⟩:=nH B;have d:=nX hd g k g0 A r.r off w;exact⟨_,h,.val (x:=.pointer (some ⟨r.r,off+n.toNat*P.cellsOf e,none⟩)) (by simp only[execOp,F,C,u,aw,d,ay,aA]) (by simp only[VR,ow,xi];exact⟨r,v,rfl⟩)⟩
   ·cases h
  ·rename_i I b J off hx;have p:=bp D hx;simp only[VR]at p;obtain⟨r,v,C⟩:=p;split at h
   ·rename_i hp;obtain⟨G,g⟩:=bQ hp;obtain⟨j,B,h⟩:=av h;obtain⟨g0,A,rfl⟩:=nH B;have d:=nX hd g k g0 A r.r (r.o+(J*I+off)) w;exact⟨_,h,.val (x:=.pointer (some ⟨r.r,r.o+(J*I+off)+n.toNat*P.cellsOf e,none⟩)) (by simp only[execOp,F,C,u,aw,d,ay,aA]) (by simp only[VR,ow,xi];exact⟨r,v,by rw[gN,gN]⟩)⟩
   ·cases h
  ·cases h
 ·rename_i e hd;split at h
  ·rename_i b off m cp hx;have p:=bp D hx;simp only[VR]at p;obtain⟨r,cap,v,_,_,C⟩:=p;split at h
   ·rename_i hp;obtain⟨G,g⟩:=bQ hp;obtain⟨j,B,h⟩:=av h;obtain⟨g0,A,rfl⟩:=nH B;have d:=kP (cp:=cap) hd g k g0 A r.r off w;exact⟨_,h,.val (x:=.pointer (some ⟨r.r,off+n.toNat*P.cellsOf e,none⟩)) (by simp only[execOp,F,C,u,aw,d,ay,aA]) (by simp only[VR,ow,xi];exact⟨r,v,rfl⟩)⟩
   ·cases h
  ·rename_i b hx;have p:=bp D hx;simp only[VR]at p;split at h
   case h_2=>cases h
   rename_i tr l N;split at h
   case h_2=>cases h
   rename_i hp;simp only[aB,iU]at hp;obtain⟨K,hp⟩:=hp;obtain⟨G,g⟩:=bQ hp;obtain⟨j,B,h⟩:=av h;obtain⟨g0,A,rfl⟩:=nH B;rcases jc L N with⟨q,U,W,fr,E,S,M,V,Y,O,Q⟩ | ⟨E,rfl⟩
   ·rcases p with⟨X,v,C⟩ | ⟨v,_⟩
    ·rw[v]at E;cases E;have g1':n<(q.n:Int):=by rw[<-M];exact A
     have d:=kP (cp:=q.k) hd g k g0 g1' q.r q.o w;exact⟨_,h,.val (x:=.pointer (some ⟨q.r,q.o+n.toNat*P.cellsOf e,none⟩)) (by simp only[execOp,F,C,u,aw,d,ay,aA]) (by simp only[VR];exact⟨q,v,by rw[ct]⟩)⟩
    ·rw[v]at E;cases E
   ·simp at A;omega
  ·rename_i I b R m _ hx;have p:=bp D hx;simp only[VR]at p;split at h
   case h_2=>cases h
   rename_i hp;simp only[aB,iU]at hp;obtain⟨rfl,hp⟩:=hp;obtain⟨G,g⟩:=bQ hp;obtain⟨j,B,h⟩:=av h;obtain⟨g0,A,rfl⟩:=nH B;rcases p with⟨q,cp,off,v,_,y,C⟩ | ⟨_,⟨rfl,_⟩,_⟩
   ·have d:=kP (cp:=cp) hd g k g0 A q.r off w;have y:=y (by omega);exact⟨_,h,.val (x:=.pointer (some ⟨q.r,off+n.toNat*P.cellsOf e,none⟩)) (by simp only[execOp,F,C,u,aw,d,ay,aA]) (by simp only[VR,ow];exact⟨q,v,by rw[y,gD,ct,gN]⟩)⟩
   ·omega
  ·cases h
 ·cases h
def iR{t e:TypeId}{m:Nat}{c:TypeInfo}(hd:P.underlying t=some (.array m e))(hi:P.info? e=some c)(k:IntKind){n:Int}(d:0<=n)(b:n<m)(a:Array Value)(w:World):
  (Instr.index t (.agg a) (.int k n)).run P w=(part e a (n.toNat*P.cellsOf e)).run P w:=by
 simp only[Instr.index,asIntOf,aw,aA,ay,aT hd,d,b,and_self,aH,fN hi]
def pA{t:TypeId}{d:TypeDesc}(hd:P.underlying t=some d)(b:bM P t=false){a:Array Value}{off:Nat}{x:Value}(hx:a[off]?=some x)(w:World):
  (part t a off).run P w=.ok x w:=by
 simp only[part,aw,jY hd,b,ay,bs,aC,hx,aA]
def ut{t:TypeId}{d:TypeDesc}(hd:P.underlying t=some d)(b:bM P t=true)(a:Array Value)(off:Nat)(w:World):
  (part t a off).run P w=.ok (.agg (a.extract off (off+P.cellsOf t))) w:=by
 obtain⟨i,hi⟩:=mi hd;simp only[part,aw,jY hd,b,ay,aH,fN hi,aA]
def uD{t:TypeId}(hd:P.underlying t=some .string){l:aa}{n:Int}{b:UInt8}(h:sx l n=some b)(k:IntKind)(w:World):
  (Instr.index t (.string ⟨l.toArray⟩) (.int k n)).run P w=.ok (.int .u8 b.toNat) w:=by
 unfold sx at h;split at h
 ·rename_i e;have d:(ByteArray.mk l.toArray)[n.toNat]?=some b:=by
   have a:n.toNat<l.length:=by
    rcases aF n.toNat l.length with c | c
    ·exact c
    ·rw[gC c]at h;cases h
   have hs:n.toNat<(ByteArray.mk l.toArray).size:=a;rw[getElem?_pos (ByteArray.mk l.toArray) n.toNat hs];rw[bg a]at h;simp only[ar]at h ⊢;exact h
  simp only[Instr.index,asIntOf,aw,aA,ay,aT hd,e,aH,d]
 ·cases h
def Is{t:TypeId}{x i:Operand}(E:o.op=.index t x i)(F:TR ι s.T a.tmps)(h:effK P (opd s.T) s.H f (.index t x i) c=some z):
  ∃e,c e=some z/\gj P ι f o a w e:=by
 simp only[effK]at h;split at h
 case h_2=>cases h
 rename_i k n hi;have d:=bp F hi;simp only[VR]at d;split at h
 ·rename_i m e hd;split at h
  ·cases h
  rename_i hp;obtain⟨K,r⟩:=bQ hp;split at h
  ·rename_i k' m' l hx;have p:=bp F hx;simp only[VR]at p;obtain⟨Q,D⟩:=p;split at h
   ·rename_i k2 g;split at h
    ·rename_i q;have q:=bD q;obtain⟨j,u,h⟩:=av h;obtain⟨g0,B,rfl⟩:=nH u;obtain⟨v,p,h⟩:=av h;refine⟨_,h,.val (x:=.int k' v) ?_ (by simp[VR])⟩;simp only[execOp,E,D,d,aw,iR hd r k g0 B];rw[pA g (by simp[bM,g]) (x:=.int k' v) (by simp[q,p])];rfl
    ·cases h
   ·cases h
  ·rename_i l hx;have p:=bp F hx;simp only[VR]at p;obtain⟨I,D,A⟩:=p;split at h
   ·rename_i M g;obtain⟨j,u,h⟩:=av h;obtain⟨g0,B,rfl⟩:=nH u;refine⟨_,h,.val (x:=.agg (I.extract (n.toNat*P.cellsOf e) (n.toNat*P.cellsOf e+P.cellsOf e))) ?_ (oW (A.extract _ _))⟩;simp only[execOp,E,D,d,aw,iR hd r k g0 B,ut g (by simp[bM,g]),ay,aA]
   ·rename_i m2 N g;obtain⟨j,u,h⟩:=av h;obtain⟨g0,B,rfl⟩:=nH u;refine⟨_,h,.val (x:=.agg (I.extract (n.toNat*P.cellsOf e) (n.toNat*P.cellsOf e+P.cellsOf e))) ?_ (oW (A.extract _ _))⟩;simp only[execOp,E,D,d,aw,iR hd r k g0 B,ut g (by simp[bM,g]),ay,aA]
   ·rename_i g;split at h
    ·rename_i q;have q:=bD q;split at h
     ·rename_i L G;obtain⟨j,u,h⟩:=av h;obtain⟨g0,B,rfl⟩:=nH u;obtain⟨v,p,h⟩:=av h;obtain⟨y,hy,C⟩:=A.get (j:=n.toNat) (v:=.s v) (by rw[tf G];simp[p]);refine⟨_,h,.val (x:=y) ?_ C⟩;simp only[execOp,E,D,d,aw,iR hd r k g0 B];rw[pA g (by simp[bM,g]) (x:=y) (by simpa[q]using hy)];rfl
     ·cases h
    ·cases h
   ·rename_i d' S O R g;split at h
    ·rename_i q;have q:=bD q;obtain⟨j,u,h⟩:=av h;obtain⟨g0,B,rfl⟩:=nH u;obtain⟨v,p,h⟩:=av h;obtain⟨y,hy,C⟩:=A.get p;refine⟨_,h,.val (x:=y) ?_ C⟩;simp only[execOp,E,D,d,aw,iR hd r k g0 B];rw[pA g (by simp only[bM,g];cases d'<;>simp_all) (x:=y) (by simpa[q]using hy)];rfl
    ·cases h
   ·cases h
  ·cases h
 ·rename_i hd;split at h
  ·rename_i l hx;have p:=bp F hx;simp only[VR]at p;obtain⟨b,J,h⟩:=av h;refine⟨_,h,.val (x:=.int .u8 b.toNat) ?_ (by simp[VR])⟩;simp only[execOp,E,p,d,aw,uD hd J,ay,aA]
  ·cases h
 ·cases h
def AN{t:TypeId}(hd:P.underlying t=some .string){l:aa}{lo hi:Option Value}{L H:Nat}{w:World}
  (a:(Instr.sliceBounds false l.length l.length lo hi none).run P w=.ok (L,H,l.length) w):
  (Instr.sliceAt t (.string ⟨l.toArray⟩) lo hi none).run P w=.ok (.string ⟨((l.take H).drop L).toArray⟩) w:=by
 rw[run_sliceAt_string w t _ _ _ _ hd];have hs:(ByteArray.mk l.toArray).size=l.length:=rfl;simp only[Instr.slice,aw,aT hd,ay,vI,bs,aC,hs,a,aA];congr 2;apply Jh;rw[ByteArray.data_extract];apply mg;simp[List.extract,wh]
def AI{t e:TypeId}{n:Nat}{c:TypeInfo}(hd:P.underlying t=some (.array n e))(hi:P.info? e=some c){lo a:Option Value}{L H r off:Nat}{w:World}
  (b:(Instr.sliceBounds false n n lo a none).run P w=.ok (L,H,n) w):
  (Instr.sliceAt t (.pointer (some ⟨r,off,none⟩)) lo a none).run P w=.ok (.slice (some ⟨r,if n=L then off else off+L*P.cellsOf e,none⟩) (H - L) (n - L)) w:=by
 simp only[Instr.sliceAt,aw,aT hd,ay,Instr.sureAddr,aA,b,fN hi,mu];split<;>rfl
def nl{t e:TypeId}{n cp:Nat}{c:TypeInfo}(hd:P.underlying t=some (.slice e))(hi:P.info? e=some c){lo a:Option Value}{L H r off:Nat}{w:World}
  (b:(Instr.sliceBounds true n cp lo a none).run P w=.ok (L,H,cp) w):
  (Instr.sliceAt t (.slice (some ⟨r,off,none⟩) n cp) lo a none).run P w=.ok (.slice (some ⟨r,if cp=L then off else off+L*P.cellsOf e,none⟩) (H - L) (cp - L)) w:=by
 simp only[Instr.sliceAt,Instr.slice,aw,aT hd,ay,b,fN hi,aA];split
 ·rfl
 ·simp only[eO,mu]
def jy(n l x y:Nat):cond (Nat.beq n l) x y=if n=l then x else y:=by
 by_cases h:n=l
 ·subst h;simp
 ·have:Nat.beq n l=false:=by
   cases a:Nat.beq n l
   ·rfl
   ·exact absurd (bD a) h
  simp[this,h]
def sZ{t e:TypeId}{d:TypeInfo}{b:Option Addr}(hd:P.underlying t=some (.slice e))(hi:P.info? e=some d){lo a:Option Value}{w:World}
  (c:(Instr.sliceBounds true 0 0 lo a none).run P w=.ok (0,0,0) w):
  (Instr.sliceAt t (.slice b 0 0) lo a none).run P w=.ok (.slice b 0 0) w:=by
 simp only[Instr.sliceAt,Instr.slice,aw,aT hd,ay,c,fN hi,aA,aH]
def Cc{T:List (Nat×Option V)}(q:TR ι T a.tmps){lo hi:Option Operand}{l h:Option Int}(r:pO (opd T) lo=some l)
  (t:pO (opd T) hi=some h) {len:Nat} {c:Nat->Nat->Option α} (e:(hiK len len h λh=>loK h l λl=>c h l)=some z):
  ∃H L,c H L=some z/\H<=len/\L<=H/\∀n,len<=n->∀w,(Instr.sliceBounds true len n (lo.map a.eval) (hi.map a.eval) none).run P w=.ok (L,H,n) w:=by
 have j:∀{H:Nat},loK H l (c H)=some z->∃L,c H L=some z/\L<=H/\
   ∀w,(match lo.map a.eval with | some v=>Instr.sliceBound v H .sliceB | none=>pure 0).run P w=.ok L w:=by
  intro H e;rcases nN q r with⟨rfl,g⟩ | ⟨k,m,rfl,g⟩
  ·exact⟨0,e,dh _,λw=>by rw[g];rfl⟩
  ·simp only[loK]at e;obtain⟨L,i,o⟩:=av e;obtain⟨g0,p,rfl⟩:=kY i;exact⟨_,o,by omega,λw=>by rw[g];exact run_sliceBound w k m H .sliceB g0 p⟩
 rcases nN q t with⟨rfl,g⟩ | ⟨k,m,rfl,g⟩
 ·simp only[hiK]at e;obtain⟨L,i,o,d⟩:=j e;refine⟨len,L,i,aQ _,o,λn x w=>?_⟩;have d:=d w;rw[g];simp only[Instr.sliceBounds,aw,aA,ay,vI,bs,aC];cases b:lo.map a.eval with
  | none=>rw[b]at d;simp only[aA,xf,vH]at d;simp[d]
  | some v=>rw[b]at d;simp only[]at d;simp[d]
 ·simp only[hiK]at e;obtain⟨H,i,o⟩:=av e;obtain⟨g0,p,rfl⟩:=kY i;obtain⟨L,s,d,f⟩:=j o;refine⟨_,L,s,by omega,d,λn x w=>?_⟩;have f:=f w;rw[g];have u:=run_sliceBound (P:=P) w k m n .sliceAcap g0 (by omega);simp only[Instr.sliceBounds,aw,aA,ay,vI,bs,aC,aH,u];cases b:lo.map a.eval with
  | none=>rw[b]at f;simp only[aA,xf,vH]at f;simp[f]
  | some v=>rw[b]at f;simp only[]at f;simp[f]
def IW{t:TypeId}{x:Operand}{lo hi:Option Operand}(F:o.op=.slice t x lo hi none)(G:TR ι s.T a.tmps)(hW:WR ι s.H s.nb w)(h:effK P (opd s.T) s.H f (.slice t x lo hi none) c=some z):
  ∃e,c e=some z/\gj P ι f o a w e:=by
 simp only[effK]at h;obtain⟨v,hx,C⟩:=av h;obtain⟨l,J,S⟩:=av C;obtain⟨Y,u,d⟩:=av S;clear h C S;have B:=bp G hx;clear hx;split at d
 ·rename_i hd;cases v<;>simp only[reduceCtorEq]at d;rename_i sl;simp only[VR]at B;obtain⟨H,L,g,_,_,_,i,_,A⟩:=vp (P:=P) G J u (isSlice:=false) d;refine⟨_,g,.val (x:=.string ⟨((sl.take H).drop L).toArray⟩) ?_ (by simp[VR])⟩;simp only[execOp,F,B,aw,ir];rw[AN hd (A w)];rfl
 ·rename_i n e hd;split at d
  case h_2=>cases d
  rename_i hp;obtain⟨ti,p⟩:=bQ hp;cases v<;>simp only[reduceCtorEq]at d;rename_i b off;simp only[VR]at B;obtain⟨r,i,y⟩:=B;obtain⟨H,L,g,_,E,D,g4,_,A⟩:=vp (P:=P) G J u (isSlice:=false) d;have Z:H<=n:=by
   cases Y with
   | none=>exact xp (E rfl)
   | some q=>exact D (by simp)
  refine⟨_,g,.val (x:=.slice (some ⟨r.r,if n=L then off else off+L*P.cellsOf e,none⟩) (H - L) (n - L)) ?_ ?_⟩
  ·simp only[execOp,F,y,aw,ir];rw[AI hd p (A w)];rfl
  ·simp only[VR];exact⟨r,n - L,i,λm M=>by cases M;rfl,by omega,by rw[jy,ow,xi]⟩
 ·rename_i e hd;split at d
  case h_2=>cases d
  rename_i hp;obtain⟨ti,p⟩:=bQ hp;cases v<;>try (simp only[reduceCtorEq]at d;done)
  ·rename_i b;simp only[VR]at B;simp only at d;split at d
   case h_2=>cases d
   rename_i tr m hb;split at d
   case h_2=>cases d
   rename_i I;have I:=bD I;obtain⟨H,L,g,E,D,A⟩:=Cc (P:=P) G J u d;rcases jc hW hb with⟨q,cs,e',fr,C,S,X,q5,_,_,_⟩ | ⟨C,rfl⟩
   ·rcases B with⟨q',i,y⟩ | ⟨i,_⟩
    ·rw[i]at C;cases C;refine⟨_,g,.val (x:=.slice (some ⟨q.r,if q.k=L then q.o else q.o+L*P.cellsOf e,none⟩) (H - L) (q.k - L)) ?_ ?_⟩
     ·simp only[execOp,F,y,aw,ir];rw[<-X,nl hd p (A q.k (by omega) w)];rfl
     ·simp only[VR];exact .inl ⟨q,_,_,i,⟨by omega,jQ⟩,λN=>by rw[ab (by omega)],rfl⟩
    ·rw[i]at C;cases C
   ·rcases B with⟨q,i,y⟩ | ⟨i,Q,y⟩
    ·rw[i]at C;cases C
    ·simp only[iy,yR]at E D;subst E;simp only[yR]at D;subst D;refine⟨_,g,.val (x:=.slice Q 0 0) ?_ (by unfold VR;exact .inr ⟨i,⟨rfl,jQ⟩,Q,rfl⟩)⟩;simp only[execOp,F,y,aw,ir];rw[sZ hd p (A 0 (aQ _) w)];rfl
  ·rename_i zz b j n _;simp only[VR]at B;simp only at d;split at d
   case h_2=>cases d
   rename_i I;have I:=bD I;obtain⟨H,L,g,E,D,A⟩:=Cc (P:=P) G J u d;rcases B with⟨q,cp,off,i,⟨R,_⟩,O,y⟩ | ⟨i,⟨rfl,_⟩,Q,y⟩
   ·refine⟨_,g,.val (x:=.slice (some ⟨q.r,if cp=L then off else off+L*P.cellsOf e,none⟩) (H - L) (cp - L)) ?_ ?_⟩
    ·simp only[execOp,F,y,aw,ir];rw[nl hd p (A cp R w)];rfl
    ·simp only[VR];exact .inl ⟨q,_,_,i,⟨by omega,jQ⟩,λN=>by rw[ab (by omega),O (by omega),ow,gD,I,gN],rfl⟩
   ·simp only[yR]at E;subst E;simp only[yR]at D;subst D;refine⟨_,g,.val (x:=.slice Q 0 0) ?_ (by unfold VR;exact .inr ⟨i,⟨rfl,jQ⟩,Q,rfl⟩)⟩;simp only[execOp,F,y,aw,ir];rw[sZ hd p (A 0 (aQ _) w)];rfl
  rename_i b off n cap;simp only[VR]at B;obtain⟨r,cp,i,U,R,y⟩:=B;cases cap with
  | some m=>
   obtain rfl:=U m rfl;obtain⟨H,L,g,_,E,D,g4,_,A⟩:=vp (P:=P) G J u (isSlice:=true) d;have Z:H<=cp:=by
    cases Y with
    | none=>have:=E rfl;omega
    | some q=>exact D (by simp)
   refine⟨_,g,.val (x:=.slice (some ⟨r.r,if cp=L then off else off+L*P.cellsOf e,none⟩) (H - L) (cp - L)) ?_ ?_⟩
   ·simp only[execOp,F,y,aw,ir];rw[nl hd p (A w)];rfl
   ·simp only[VR];exact⟨r,cp - L,i,λm M=>by cases M;rfl,by omega,by rw[jy,ow,xi]⟩
  | none=>
   have W:l=none:=by
    cases l with
    | none=>rfl
    | some q=>
     cases Y with
     | none=>simp[hiK]at d
     | some q=>simp only[hiK]at d;obtain⟨_,_,X⟩:=av d;cases X
   subst W;have K:lo.map a.eval=none:=by
    rcases nN G J with⟨_,g⟩ | ⟨k,m,h0,_⟩
    ·exact g
    ·cases h0
   have key:∃H,c { val:=some (.sl b off H none) }=some z/\H<=n/\(Instr.sliceBounds true n cp (lo.map a.eval) (hi.map a.eval) none).run P w=.ok (0,H,cp) w:=by
    rcases nN G u with⟨rfl,g⟩ | ⟨k,m,rfl,g⟩
    ·simp only[hiK]at d;exact⟨n,d,aQ _,by rw[g,K];simp[Instr.sliceBounds]⟩
    ·simp only[hiK]at d;obtain⟨H,h2,V⟩:=av d;obtain⟨g0,g1,rfl⟩:=kY h2;refine⟨_,V,by omega,?_⟩;have hb:=run_sliceBound (P:=P) w k m cp .sliceAcap g0 (by omega);rw[g,K];simp[Instr.sliceBounds,hb]
   obtain⟨H,g,h2,V⟩:=key;refine⟨_,g,.val (x:=.slice (some ⟨r.r,if cp=0 then off else off+0*P.cellsOf e,none⟩) (H - 0) (cp - 0)) ?_ ?_⟩
   ·simp only[execOp,F,y,aw,ir];rw[nl hd p V];rfl
   ·simp only[VR];exact⟨r,cp,i,λm M=>(by cases M),by omega,by simp⟩
 ·cases d
def wU(a:List Int):a.foldl (λ(r:ByteArray) n=>r.push (UInt8.ofNat n.toNat)) ByteArray.empty=⟨(gL a).toArray⟩:=by
 rw[foldl_push_bytes];apply Jh;simp[gL]
def xI{w:World}{r off q m cp:Nat}{l:List Int}{e:TypeId}{fr:Nat×Nat}(h:w.heap[r]?=some (.cells (l.map (Value.int .u8)).toArray e fr))(f:l.length=q)(g:off+m<=q):
  (Conv.bytesToString (.slice (some ⟨r,off,none⟩) m cp)).run P w=.ok (.string ⟨(gL ((l.drop off).take m)).toArray⟩) w:=by
 have a:(((l.drop off).take m).map (Value.int .u8)).length=m:=by simp;omega
 have hc:=vR (P:=P) w ⟨r,off,none⟩ (((l.drop off).take m).map (Value.int .u8)) (λj v b=>by
  have c:j<m:=by
   rcases aF j m with d | d
   ·exact d
   ·rw[gC (by omega)]at b;cases b
  rw[mu,bC h];rw[pg,pS c,mX]at b;simpa using b)
 rw[a]at hc;rw[run_bytesToString w _ m cp _ hc,wU]
def zK(w:World)(e:TypeId)(s:ByteArray):
  Lib.bytesWorld w e s=World.alloc { w with drawn:=w.drawn+1 } (.cells (Lib.bytesCells w e s) e ((Lib.bytesCells w e s).size,(Lib.bytesCells w e s).size+1)):=by
 have d:=Lib.bytesWorld_at_new w e s;have f:=Lib.bytesWorld_size w e s;have c:(Lib.bytesWorld w e s).heap=w.heap.push (.cells (Lib.bytesCells w e s) e ((Lib.bytesCells w e s).size,(Lib.bytesCells w e s).size+1)):=by
  apply Rk;intro j;by_cases b:j=w.heap.size
  ·subst b;rw[d];simp
  ·by_cases a:j<w.heap.size
   ·rw[Lib.bytesWorld_at_old w e s j a,Array.getElem?_push,ab b]
   ·rw[xj (by omega),xj (by simp;omega)]
 show({ (Lib.bytesWorld w e s)with heap:=(Lib.bytesWorld w e s).heap }:World)=_;rw[c];rfl
def qK:∀(l:List Int),l.flatMap (vals [.i .u8])=l.map (Value.int .u8)
 | []=>rfl
 | x::l=>by
  have:=qK l;simp only[qu,ge,vals,Lf.val]at this ⊢;rw[this];rfl
def rf{w:World}{r cp:Nat}{l:List Int}{c:Array Value}{e:TypeId}{fr:Nat×Nat}{m:Nat}(h:w.heap[r]?=some (.cells c e fr))(p:m<=c.size)
  {o:Nat} (k:(c.toList.drop o).take (l.length*([Lf.i .u8]:List Lf).length)=l.flatMap (vals [.i .u8])) {j n:Nat} (s:j+n<=l.length):
  (Conv.bytesToString (.slice (some ⟨r,o+j,none⟩) n cp)).run P w=.ok (.string ⟨(gL ((l.drop j).take n)).toArray⟩) w:=by
 have hl':(c.toList.drop o).take l.length=l.map (Value.int .u8):=by rw[<-qK];simpa using k
 have a:(((l.drop j).take n).map (Value.int .u8)).length=n:=by simp;omega
 have hc:=vR (P:=P) w ⟨r,o+j,none⟩ (((l.drop j).take n).map (Value.int .u8)) (λi v b=>by
  have f:i<n:=by
   rcases aF i n with g | g
   ·exact g
   ·rw[gC (by omega)]at b;cases b
  rw[mu,bC h];rw[pg,pS f,mX]at b;have d:=ck (λq:List Value=>q[j+i]?) hl';simp only[pS (show j+i<l.length by omega),pg,mX]at d;rw[b]at d;simpa[gN]using d)
 rw[a]at hc;rw[run_bytesToString w _ n cp _ hc,wU]
def rq{w:World}(c:Option Addr):(Conv.bytesToString (.slice c 0 0)).run P w=.ok (.string ⟨#[]⟩) w:=by
 cases c with
 | none=>rfl
 | some a=>
  have b:=vR (P:=P) w a ([].map (Value.int .u8)) (λj v d=>by simp at d);exact run_bytesToString (P:=P) w a 0 0 [] b
def Dq{A d:TypeId}{x:Operand}(y:o.op=.convert A d x)(hT:TR ι s.T a.tmps)(N:WR ι s.H s.nb w)(h:effK P (opd s.T) s.H f (.convert A d x) c=some z):
  ∃e,c e=some z/\gj P ι f o a w e:=by
 simp only[effK]at h;obtain⟨v,hx,q⟩:=av h;clear h;have g:=bp hT hx;clear hx;split at q
 case h_2=>cases q
 rename_i B hs;split at q
 ·rename_i k hd;cases v<;>simp only[reduceCtorEq]at q;rename_i k' n;simp only[VR]at g;refine⟨_,q,.val (x:=.int k (k.wrap n)) ?_ (by simp[VR])⟩;simp only[execOp,y,g,aw,convert,aT hs,aT hd,ay];cases B<;>rfl
 ·rename_i hd;cases v<;>simp only[reduceCtorEq]at q
  ·rename_i b;simp only[VR]at g;cases B<;>try (simp only[reduceCtorEq]at q;done)
   rename_i e;simp only at q;split at q
   case h_2=>cases q
   rename_i t;split at q
   case h_2=>cases q
   rename_i l E;refine⟨_,q,.val (x:=.string ⟨(gL l).toArray⟩) ?_ (by simp[VR])⟩;rcases jc N E with⟨q,Z,X,fr,i,J,W,q5,F,I,_⟩ | ⟨i,rfl⟩
   ·rcases g with⟨q',p,u⟩ | ⟨p,_⟩
    ·rw[p]at i;cases i;simp only[execOp,y,u,aw,run_convert_bytes_string w A d e _ _ _ hs t hd];rw[<-W];have:=rf (P:=P) (cp:=q.k) J F I (j:=0) (n:=l.length) (by omega);simp only[cg,ox,ct]at this;rw[this];rfl
    ·rw[p]at i;cases i
   ·rcases g with⟨q,p,u⟩ | ⟨p,S,u⟩
    ·rw[p]at i;cases i
    ·simp only[execOp,y,u,aw,run_convert_bytes_string w A d e S 0 0 hs t hd,rq];rfl
  ·rename_i zz b j n _;simp only[VR]at g;cases B<;>try (simp only[reduceCtorEq]at q;done)
   rename_i e;simp only at q;split at q
   case h_2=>cases q
   rename_i t;split at q
   case h_2=>cases q
   rename_i l E;split at q
   case h_2=>cases q
   rename_i O;have O:=bD O;subst O;obtain⟨hc,q⟩:=eH q;have C:=aG hc;refine⟨_,q,.val (x:=.string ⟨(gL ((l.drop j).take n)).toArray⟩) ?_ (by simp[VR])⟩;rcases g with⟨U,cp,off,p,⟨Q,_⟩,K,u⟩ | ⟨p,⟨rfl,_⟩,S,u⟩
   ·rcases jc N E with⟨q',Z,X,fr,i,J,W,q5,F,I,_⟩ | ⟨i,rfl⟩
    ·rw[p]at i;cases i;simp only[execOp,y,u,aw,run_convert_bytes_string w A d e _ _ _ hs t hd];by_cases hn:0<n
     ·rw[K hn,qo];rw[rf (P:=P) (cp:=cp) J F I C];rfl
     ·have M:n=0:=by omega
      subst M;have G:=vR (P:=P) w ⟨U.r,off,none⟩ ([].map (Value.int .u8)) (λj v V=>by simp at V);have Y:=run_bytesToString (P:=P) w ⟨U.r,off,none⟩ 0 cp [] G;rw[Y];simp[gL];rfl
    ·rw[p]at i;cases i
   ·simp only[execOp,y,u,aw,run_convert_bytes_string w A d e S 0 0 hs t hd,rq];simp[gL]
  ·rename_i k' n;simp only[VR]at g;cases B<;>simp only[reduceCtorEq]at q;refine⟨_,q,.val (x:=.string (Utf8.encode n)) ?_ ?_⟩
   ·simp only[execOp,y,g,aw,convert,aT hs,aT hd,ay,Conv.intToString,aA]
   ·simp[VR]
  ·rename_i l;simp only[VR]at g;cases B<;>simp only[reduceCtorEq]at q;refine⟨_,q,.val (x:=.string ⟨l.toArray⟩) ?_ (by simp[VR])⟩;simp only[execOp,y,g,aw,convert,aT hs,aT hd,ay,aA]
  ·simp only[VR]at g;cases B<;>try (simp only[reduceCtorEq]at q;done)
   rename_i e;simp only at q;split at q
   ·rename_i t;refine⟨_,q,.val (x:=.string .empty) ?_ (by simp only[VR];rfl)⟩;simp only[execOp,y,g,aw,run_convert_bytes_string w A d e none 0 0 hs t hd];rfl
   ·cases q
  ·rename_i b off m cap;simp only[VR]at g;obtain⟨r,cp,p,_,_,u⟩:=g;cases B<;>try (simp only[reduceCtorEq]at q;done)
   rename_i e;simp only at q;split at q
   ·rename_i t;split at q
    ·rename_i qn l E;obtain⟨hc,q⟩:=eH q;have C:=aG hc;obtain⟨r',X,fr,Q,K,g3,_⟩:=va N E;rw[p]at Q;cases Q;refine⟨_,q,.val (x:=.string ⟨(gL ((l.drop off).take m)).toArray⟩) ?_ (by simp[VR])⟩;simp only[execOp,y,u,aw,run_convert_bytes_string w A d e _ _ _ hs t hd,xI K g3 C,ay,aA]
    ·cases q
   ·cases q
 ·rename_i e hd;split at q
  case h_2=>cases q
  rename_i t;cases v<;>try (simp only[reduceCtorEq]at q;done)
  rename_i l;simp only[VR]at g;cases B<;>simp only[reduceCtorEq]at q;refine⟨_,q,.mkR (d:=w.drawn+1) (q:=(Rf.of w.heap.size (l.length) (grownCap w l.length 0 e))) (x:=.slice (some ⟨w.heap.size,0,none⟩) l.length (grownCap w l.length 0 e))
   (ob:=.cells (Lib.bytesCells w e ⟨l.toArray⟩) e ((Lib.bytesCells w e ⟨l.toArray⟩).size,(Lib.bytesCells w e ⟨l.toArray⟩).size+1)) ?_ rfl rfl ?_ ?_⟩
  ·simp only[execOp,y,g,aw,Lib.run_convert_string_bytes w A d e ⟨l.toArray⟩ hs hd t,ay,aA,zK];rfl
  ·have D:l.length<=grownCap w l.length 0 e:=by simp only[grownCap,Question.cut];omega
   have R:((ByteArray.mk l.toArray).data.map λb=>Value.int .u8 b.toNat).size=l.length:=by simp
   refine⟨_,e,_,rfl,by simp,D,?_,?_,?_⟩
   ·simp only[Lib.bytesCells,Array.size_append,R,Array.size_replicate,aP,iy];have:(ByteArray.mk l.toArray).size=l.length:=rfl;rw[this];omega
   ·simp only[Lib.bytesCells,wZ,ED,aP,iy,dc,qo,cg];rw[tw (by simp),iv (by simp)];rw[qK,Array.toList_map,vD];rfl
   ·refine .inr λj V L=>?_;exact absurd L.1 (by simp only;omega)
  ·simp only[VR];exact .inl ⟨_,db _ _ _,rfl⟩
 ·cases q
def MM{S:Call}(Q:o.op=.call S)(hT:TR ι s.T a.tmps)(W:WR ι s.H s.nb w)(h:effK P (opd s.T) s.H f (.call S) c=some z):
  ∃e,c e=some z/\gj P ι f o a w e:=by
 obtain⟨O,args,C⟩:=S;simp only[effK]at h;split at h
 case h_2=>cases h
 rename_i b;obtain⟨l,Z,q⟩:=av h;clear h;have g:=wW hT Z;have I:(args.map a.eval).toList=args.toList.map a.eval:=by simp
 rw[<-I]at g;generalize V:args.map a.eval=A at g;have v:∃R,∀w,((do let d <-resolve a.eval ⟨.builtin b,args,C⟩ o.type;invoke d.target d.args):Sem Next).run P w=(builtin b C o.type R A).run P w:=by
  refine⟨args.map fun | .const _=>true | _=>false,λw=>?_⟩;simp only[resolve,V,aw,aA,ay,invoke];rfl
 obtain⟨R,v⟩:=v;have one:∀{X:Value},A.toList=[X]->A[0]?=some X:=by
  intro X p;have:A=#[X]:=by apply mg;simpa using p
  simp[this]
 have D:∀{t:TypeId} {r:List TypeId},C.toList=t::r->C[0]?=some t:=by
  intro t r u;rw[<-qp,u];rfl
 have j:∀{n:Int} {rd:List Nat},b=.len->(∀w,(Builtin.len_ C o.type A).run P w=.ok (goInt n) w)->c { val:=some (.i .i64 n),rd:=rd }=some z->∃e,c e=some z/\gj P ι f o a w e:=by
  intro n rd N E hc;subst N;refine⟨_,hc,.val (x:=.int .i64 n) ?_ (by simp[VR])⟩;simp only[execOp,Q];rw[v w];simp only[builtin,aw,E,ay,aA,goInt]
 have B:∀{n:Int} {rd:List Nat},b=.cap->(∀w,(Builtin.cap_ C o.type A).run P w=.ok (goInt n) w)->c { val:=some (.i .i64 n),rd:=rd }=some z->∃e,c e=some z/\gj P ι f o a w e:=by
  intro n rd N E hc;subst N;refine⟨_,hc,.val (x:=.int .i64 n) ?_ (by simp[VR])⟩;simp only[execOp,Q];rw[v w];simp only[builtin,aw,E,ay,aA,goInt]
 split at q
 ·split at q
  ·rename_i sl;simp only[VRs,VR]at g;obtain⟨_,_,p,rfl,rfl⟩:=g;split at q
   ·rename_i t r u;split at q
    ·rename_i hd;refine j rfl (λw=>?_) q;simp only[Builtin.len_,D u,one p,aw,aT hd,ay,aA];rfl
    ·cases q
   ·cases q
  ·rename_i M oo n cp;simp only[VRs,VR]at g;obtain⟨_,_,p,⟨r,cap,_,_,_,rfl⟩,rfl⟩:=g;split at q
   ·rename_i t r u;split at q
    ·rename_i hd;refine j rfl (λw=>?_) q;simp only[Builtin.len_,D u,one p,aw,aT hd,ay,aA]
    ·cases q
   ·cases q
  ·simp only[VRs,VR]at g;obtain⟨_,_,p,rfl,rfl⟩:=g;split at q
   ·rename_i t r u;split at q
    ·rename_i hd;refine j rfl (λw=>?_) q;simp only[Builtin.len_,D u,one p,aw,aT hd,ay,aA];rfl
    ·cases q
   ·cases q
  ·rename_i M;simp only[VRs,VR]at g;obtain⟨_,_,p,L,rfl⟩:=g;split at q
   ·rename_i t r u;split at q
    ·rename_i hd;split at q
     ·rename_i tr l N;refine j (rd:=[M]) rfl (λw=>?_) q;rcases jc W N with⟨q,R,e',fr,G,q2,Y,q5,q6,q7,_⟩ | ⟨G,rfl⟩
      ·rcases L with⟨q',F,rfl⟩ | ⟨F,_⟩
       ·rw[F]at G;cases G;simp only[Builtin.len_,D u,one p,aw,aT hd,ay,aA,Y]
       ·rw[F]at G;cases G
      ·rcases L with⟨q,F,_⟩ | ⟨F,U,rfl⟩
       ·rw[F]at G;cases G
       ·simp only[Builtin.len_,D u,one p,aw,aT hd,ay,aA];rfl
     ·cases q
    ·cases q
   ·cases q
  ·rename_i zz M jj n _;simp only[VRs,VR]at g;obtain⟨_,_,p,L,rfl⟩:=g;split at q
   ·rename_i t r u;split at q
    ·rename_i hd;refine j rfl (λw=>?_) q;rcases L with⟨q,cp,off,F,_,_,rfl⟩ | ⟨_,⟨rfl,_⟩,U,rfl⟩
     ·simp only[Builtin.len_,D u,one p,aw,aT hd,ay,aA]
     ·simp only[Builtin.len_,D u,one p,aw,aT hd,ay,aA]
    ·cases q
   ·cases q
  ·simp only[VRs]at g;obtain⟨X,_,p,_,rfl⟩:=g;split at q
   ·rename_i t r u;split at q
    ·rename_i hd;refine j rfl (λw=>?_) q;simp only[Builtin.len_,D u,one p,aw,aT hd,ay,aA]
    ·cases q
   ·cases q
  ·cases q
 ·split at q
  ·rename_i zz M jj nn m;simp only[VRs,VR]at g;obtain⟨_,_,p,L,rfl⟩:=g;split at q
   ·rename_i t r u;split at q
    ·rename_i hd;refine B rfl (λw=>?_) q;rcases L with⟨q,cp,off,F,⟨_,hc⟩,_,rfl⟩ | ⟨_,⟨_,hc⟩,U,rfl⟩
     ·have:=hc m rfl;subst this;simp only[Builtin.cap_,D u,one p,aw,aT hd,ay,aA]
     ·have:=hc m rfl;subst this;simp only[Builtin.cap_,D u,one p,aw,aT hd,ay,aA]
    ·cases q
   ·cases q
  ·rename_i M oo nn m;simp only[VRs,VR]at g;obtain⟨_,_,p,⟨qq,cp,F,hc,_,rfl⟩,rfl⟩:=g;split at q
   ·rename_i t r u;split at q
    ·rename_i hd;refine B rfl (λw=>?_) q;have:=hc m rfl;subst this;simp only[Builtin.cap_,D u,one p,aw,aT hd,ay,aA]
    ·cases q
   ·cases q
  ·simp only[VRs,VR]at g;obtain⟨_,_,p,rfl,rfl⟩:=g;split at q
   ·rename_i t r u;split at q
    ·rename_i hd;refine B rfl (λw=>?_) q;simp only[Builtin.cap_,D u,one p,aw,aT hd,ay,aA];rfl
    ·cases q
   ·cases q
  ·cases q
 ·split at q
  ·rename_i k x k' y;split at q
   ·rename_i K;have K:=kn K;subst K;simp only[VRs,VR]at g;obtain⟨_,_,p,rfl,_,_,rfl,rfl,rfl⟩:=g;refine⟨_,q,.val (x:=.int k (cond (decide (y<x)) y x)) ?_ (by simp[VR])⟩;simp only[execOp,Q];rw[v w];simp only[builtin,aw,Builtin.min_,p,List.foldlM,Builtin.min2,aA,ay];by_cases J:y<x<;>simp[J]
   ·cases q
  ·cases q
 ·split at q
  ·rename_i k x k' y;split at q
   ·rename_i K;have K:=kn K;subst K;simp only[VRs,VR]at g;obtain⟨_,_,p,rfl,_,_,rfl,rfl,rfl⟩:=g;refine⟨_,q,.val (x:=.int k (cond (decide (y>x)) y x)) ?_ (by simp[VR])⟩;simp only[execOp,Q];rw[v w];simp only[builtin,aw,Builtin.max_,p,List.foldlM,Builtin.max2,aA,ay];by_cases J:y>x<;>simp[J]
   ·cases q
  ·cases q
 ·cases q
def UE{op:UnOp}{x:V}{X:Value}{c:V->Option α}(h:unK op x c=some z)(hx:VR ι x X)(w:World):
  ∃v R,c v=some z/\VR ι v R/\(Op.unary op X).run P w=.ok R w:=by
 unfold unK at h;split at h
 ·simp only[VR]at hx;subst hx;exact⟨_,_,h,rfl,rfl⟩
 ·simp only[VR]at hx;subst hx;exact⟨_,_,h,rfl,rfl⟩
 ·cases h
def LQ{x:Operand}{j:Bool}(t:o.op=.next x j)(A:TR ι s.T a.tmps)(C:WR ι s.H s.nb w)(h:effK P (opd s.T) s.H f (.next x j) c=some z):
  ∃e,c e=some z/\gj P ι f o a w e:=by
 simp only[effK]at h;split at h
 case h_2=>cases h
 rename_i b hx;have m:=bp A hx;simp only[VR]at m;obtain⟨r,n,p⟩:=m;split at h
 case h_2=>cases h
 rename_i l pos D;obtain⟨F,ob,v,q,y⟩:=(C.blk b _ D (by simp)).real (by simp);rw[n]at v;cases v;simp only[BR]at y;subst y;have k:(ByteArray.mk l.toArray).size=l.length:=rfl;have d:(getObj r.r).run P w=.ok (.stringIter ⟨l.toArray⟩ pos) w:=by simp[getObj,Sem.run,q]
 cases hc:Nat.blt pos l.length with
 | false=>
  rw[hc]at h;have E:¬pos<l.length:=λg=>by rw[show Nat.blt pos l.length=true from dF g]at hc;cases hc
  refine⟨_,h,.val (x:=.tuple #[.bool false]) ?_ (by simp[VR,VRs])⟩;simp only[execOp,t,p,Instr.next,aw,d,ay,k,E,aC,aA]
 | true=>
  rw[hc]at h;have g:pos<l.length:=aG hc;refine⟨_,h,?_⟩;unfold gj;have i:∀ob,(Go.setObj r.r ob).run P w=.ok () (setObj w r.r ob):=by
   intro ob;simp[Go.setObj,Sem.run,q,setObj]
  refine⟨r,n,λ_=>⟨.stringIter ⟨l.toArray⟩ (pos+(dec l pos).2),.value (.tuple #[.bool true,.int .i64 pos,.int .i32 (dec l pos).1]),?_,rfl,.value _ λu B=>by cases B;simp[VR,VRs]⟩⟩;simp only[execOp,t,p,Instr.next,aw,d,ay,k,g,aH,i,aA,dec,goInt]
def F4{t:List Lf}(x:den t):∀n,(List.replicate n x).flatMap (vals t)=(List.replicate n (vals t x)).flatten
 | 0=>rfl
 | n+1=>by simp[tM,qu,F4 x n]
def LI{l:List Value}:∀n:Nat,(List.replicate n l).flatten.length=n*l.length
 | 0=>by simp
 | n+1=>by rw[tM,List.flatten_cons,bW,LI n,gD];omega
def Lm{l:List Value}:∀(n j:Nat),j<n*l.length->(List.replicate n l).flatten[j]?=l[j%l.length]?
 | 0,j,h=>by simp at h
 | n+1,j,h=>by
  simp only[tM,List.flatten_cons];by_cases a:j<l.length
  ·rw[mS a,rG a]
  ·rw[pj (by omega),Lm n _ (by rw[gD]at h;omega),<-Nat.mod_eq_sub_mod (by omega)]
def zP{t:TypeId}{x y:Operand}(ho:o.op=.makeSlice t x y)(R:TR ι s.T a.tmps)(h:effK P (opd s.T) s.H f (.makeSlice t x y) c=some z):
  ∃e,c e=some z/\gj P ι f o a w e:=by
 simp only[effK]at h;obtain⟨u,D,L⟩:=av h;obtain⟨v,E,b⟩:=av L;clear h L;have D:=bp R D;have E:=bp R E;split at b
 case h_2=>cases b
 rename_i e hd;split at b
 case h_2=>cases b
 rename_i k1 n k2 m _ _;simp only[VR]at D E;obtain⟨zv,I,b⟩:=av b;split at b
 case h_2=>cases b
 rename_i tr p _ l;split at b
 case h_2=>cases b
 rename_i Q;simp only[aB,iU]at Q;obtain⟨N,e2,K,G⟩:=Q;have K:=aG K;have G:=aG G;obtain⟨X,F,b⟩:=av b;obtain⟨hc,b⟩:=eH b;simp only[aB,ci]at hc;obtain⟨U,S,c2⟩:=hc;obtain⟨zc,i,O,Y,V,_⟩:=uW ι I;rw[l]at O;cases O;have g:=mI V;rw[uO F]at g;have g:=(mU ι tr X _).1 g;have A:p.size=P.cellsOf e:=by unfold Program.cellsOf;rw[l];rfl
 have W:m=(m.toNat:Int):=by omega
 have r:=run_make (P:=P) w t e p zc hd l Y k1 k2 n m U S (by
  rw[W,<-Fb];have:p.bytes*m.toNat<=1048576*67108864:=Es G (by omega);omega) (by omega)
 refine⟨_,b,.mkR (d:=w.drawn) (q:=(Rf.of w.heap.size (n.toNat) (m.toNat))) (x:=.slice (some ⟨w.heap.size,0,none⟩) n.toNat m.toNat) (ob:=.cells (madeCells zc.cells (m.toNat*p.size)) e) ?_ rfl rfl ?_ ?_⟩
 ·simp only[execOp,ho,D,E,aw,r,ay,aA]
 ·have J:(madeCells zc.cells (m.toNat*p.size)).size=m.toNat*p.size:=size_madeCells _ _;refine⟨_,e,_,rfl,by simp,by simp only;omega,by rw[J,A,N];simp,?_,.inr (rV _)⟩;simp only[cg];rw[F4,List.length_replicate,<-g];apply CO;intro j;have k:zc.cells.toList.length=tr.length:=by rw[g,jA]
  have B:zc.cells.size=tr.length:=by simpa using k
  have Z:n.toNat*tr.length<=m.toNat*tr.length:=nE _ (by omega);by_cases M:j<n.toNat*tr.length
  ·rw[pS M,Lm n.toNat j (by rw[k];exact M),k];have C:j%tr.length<zc.cells.size:=by rw[B];exact zo _ (by omega)
   simp only[madeCells,A,<-N,B];rw[qp,Array.getElem?_map,Array.getElem?_range];simp[show j<m.toNat*tr.length by omega,C]
  ·rw[gC (by rw[de];omega),gC (by rw[LI,k];omega)]
 ·simp only[VR];exact .inl ⟨_,db _ _ _,rfl⟩
def R2{op:BinOp}{t:TypeId}{x y:Operand}{u v:V}{r:Bool}{X Y:Value}(h:niK P op t x y u v=some r)(hx:VR ι u X)(hy:VR ι v Y)(w:World):
  (eqGuard op t x y X Y).run P w=.ok () w/\(binOp op t X Y).run P w=.ok (.bool r) w:=by
 unfold niK at h;split at h
 case h_2=>cases h
 simp only[VR]at hx hy;subst hx hy;split at h
 case h_2=>cases h
 rename_i hc;split at h
 case h_2=>cases h
 rename_i e hd;have c:∀o:BinOp,o=.eql\/o=.neq->(eqGuard o t x y .nilIface .nilIface).run P w=.ok () w:=by
  intro o d;have a:(∃v,x=.const v)\/∃v,y=.const v:=by
   rw[ie]at hc;refine hc.imp (λh=>?_) (λh=>?_)
   ·cases x<;>simp_all[FD]
   ·cases y<;>simp_all[FD]
  rcases a with⟨v,rfl⟩ | ⟨v,rfl⟩<;>rcases d with rfl | rfl<;>simp[eqGuard]
 have b:(Op.equal t .nilIface .nilIface).run P w=.ok true w:=by rw[ek,Op.equalIn];simp[aT hd]
 split at h
 ·simp only[ar]at h;subst h;exact⟨c _ (.inl rfl),by simp[binOp,b]⟩
 ·simp only[ar]at h;subst h;exact⟨c _ (.inr rfl),by simp[binOp,b]⟩
 ·cases h
def kA{t e:TypeId}{i:TypeInfo}(hd:P.underlying t=some (.slice e))(hi:P.info? e=some i){n cp:Nat}{a:Option Addr}{k k':IntKind}{h m:Int}{H M:Nat}(d:bx n m=some M)(g:bx M h=some H)(l:n<=cp)(w:World):
  (Instr.sliceAt t (.slice a n cp) none (some (.int k h)) (some (.int k' m))).run P w=.ok (.slice a H M) w:=by
 obtain⟨m0,m1,rfl⟩:=kY d;obtain⟨b,j,rfl⟩:=kY g;have f:=run_sliceBound (P:=P) w k' m cp .slice3Acap m0 (by omega);have c:=run_sliceBound (P:=P) w k h m.toNat .slice3B b j;simp only[Instr.sliceAt,Instr.slice,aw,aT hd,ay,Instr.sliceBounds,aH,f,c,aA,fN hi,rF,Ak];split
 ·rfl
 ·cases a with
  | none=>rfl
  | some q=>obtain⟨r,o,x⟩:=q;simp[Addr.add]
def Ht{t:TypeId}{x mx:Operand}{lo hi:Option Operand}(I:o.op=.slice t x lo hi (some mx))(N:TR ι s.T a.tmps)(V:WR ι s.H s.nb w)(h:effK P (opd s.T) s.H f (.slice t x lo hi (some mx)) c=some z):
  ∃e,c e=some z/\gj P ι f o a w e:=by
 simp only[effK,tU]at h;split at h
 case h_2=>cases h
 rename_i hh;obtain⟨v,hx,d⟩:=av h;clear h;have C:=bp N hx;clear hx;split at d
 case h_2=>cases d
 rename_i k1 X k2 m1 K J;have E:=bp N K;have D:=bp N J;simp only[VR]at E D;split at d
 case h_2=>cases d
 rename_i e hd;split at d
 case h_2=>cases d
 rename_i hp;obtain⟨Z,m⟩:=bQ hp;split at d
 ·rename_i b;split at d
  case h_2=>cases d
  rename_i tr l Y;split at d
  case h_2=>cases d
  obtain⟨M,u,F⟩:=av d;obtain⟨H,p,B⟩:=av F;obtain⟨m0,m2,U⟩:=kY u;obtain⟨O,S,Q⟩:=kY p;simp only[VR]at C;rcases jc V Y with⟨q,cs,e',fr,A,r2,r4,r5,_,_,_⟩ | ⟨A,rfl⟩
  ·rcases C with⟨q',g,y⟩ | ⟨g,_⟩
   ·rw[g]at A;cases A;refine⟨_,B,.val (x:=.slice (some ⟨q.r,q.o,none⟩) H M) ?_ ?_⟩
    ·simp only[execOp,I,y,E,D,aw,ir,eO];rw[<-r4,kA hd m u p (by omega) w];rfl
    ·simp only[VR];exact .inl ⟨q,_,_,g,⟨by omega,qU⟩,λ_=>by omega,rfl⟩
   ·rw[g]at A;cases A
  ·rcases C with⟨q,g,y⟩ | ⟨g,G,y⟩
   ·rw[g]at A;cases A
   ·simp only[iy]at m2;have i:M=0:=by omega
    have k:H=0:=by omega
    subst i k;refine⟨_,B,.val (x:=.slice G 0 0) ?_ (by unfold VR;exact .inr ⟨g,⟨rfl,qU⟩,G,rfl⟩)⟩;simp only[execOp,I,y,E,D,aw,ir,eO];rw[kA hd m (n:=0) (M:=0) u p (by omega) w];rfl
 ·rename_i zz b j n _;obtain⟨M,u,F⟩:=av d;obtain⟨H,p,B⟩:=av F;obtain⟨m0,m2,U⟩:=kY u;obtain⟨O,S,Q⟩:=kY p;simp only[VR]at C;rcases C with⟨q,cp,off,g,⟨L,_⟩,W,y⟩ | ⟨g,⟨L,_⟩,G,y⟩
  ·refine⟨_,B,.val (x:=.slice (some ⟨q.r,off,none⟩) H M) ?_ ?_⟩
   ·simp only[execOp,I,y,E,D,aw,ir,eO];rw[kA hd m u p L w];rfl
   ·simp only[VR];exact .inl ⟨q,_,_,g,⟨by omega,qU⟩,λR=>W (by omega),rfl⟩
  ·subst L;have i:M=0:=by omega
   have k:H=0:=by omega
   subst i k;refine⟨_,B,.val (x:=.slice G 0 0) ?_ (by unfold VR;exact .inr ⟨g,⟨rfl,qU⟩,G,rfl⟩)⟩;simp only[execOp,I,y,E,D,aw,ir,eO];rw[kA hd m (n:=0) (M:=0) u p (by omega) w];rfl
 ·obtain⟨M,u,F⟩:=av d;obtain⟨H,p,B⟩:=av F;obtain⟨m0,m2,U⟩:=kY u;obtain⟨O,S,Q⟩:=kY p;simp only[VR]at C;have i:M=0:=by omega
  have k:H=0:=by omega
  subst i k;refine⟨_,B,.val (x:=.slice none 0 0) ?_ (by simp only[VR])⟩;simp only[execOp,I,C,E,D,aw,ir,eO];rw[kA hd m (n:=0) (M:=0) u p (by omega) w];rfl
 ·cases d
def Uk{op:BinOp}{t:TypeId}{u v:V}{r:Bool}{n:Nat}{rd:List Nat}{X Y:Value}{H:List (Nat×Blk)}{nb:Nat}(h:slN P op t u v=some r)(a:slL H u=some (n,rd))(y:0<n)(o:WR ι H nb w)(hx:VR ι u X)(hy:VR ι v Y)(p q:Operand):
  (eqGuard op t p q X Y).run P w=.ok () w/\(binOp op t X Y).run P w=.ok (.bool r) w:=by
 unfold slN at h;split at h
 case h_2=>cases h
 simp only[VR]at hy;subst hy;have d:∀(A:Addr) (n c:Nat),X=.slice (some A) n c->P.underlying t=(P.underlying t)->∀e,P.underlying t=some (.slice e)->
   ((eqGuard .eql t p q X (.slice none 0 0)).run P w=.ok () w/\(binOp .eql t X (.slice none 0 0)).run P w=.ok (.bool false) w)/\
   ((eqGuard .neq t p q X (.slice none 0 0)).run P w=.ok () w/\(binOp .neq t X (.slice none 0 0)).run P w=.ok (.bool (!false)) w):=by
  rintro A n c rfl _ e hd;exact oc p q (.inl (by simp)) (.inl (by simp)) (by simp) (by rw[ek,Op.equalIn];simp[aT hd])
 have b:∀(A:Addr) (n c:Nat),X=.slice (some A) n c->slT P op t=some r->(eqGuard op t p q X (.slice none 0 0)).run P w=.ok () w/\(binOp op t X (.slice none 0 0)).run P w=.ok (.bool r) w:=by
  intro A n c B h;unfold slT at h;split at h
  case h_2=>cases h
  rename_i e hd;obtain⟨m1,m2⟩:=d A n c B rfl e hd;split at h
  ·simp only[ar]at h;subst h;exact m1
  ·simp only[ar]at h;subst h;exact m2
  ·cases h
 split at h
 ·rename_i c;simp only[slL]at a;split at a
  case h_2=>cases a
  rename_i tr l x;simp only[ar,bi]at a;obtain⟨rfl,_⟩:=a;simp only[VR]at hx;rcases jc o x with⟨J,D,G,fr,g,F,r4,_⟩ | ⟨g,rfl⟩
  ·rcases hx with⟨k,f,i⟩ | ⟨f,_⟩
   ·exact b _ _ _ i h
   ·rw[f]at g;cases g
  ·simp at y
 ·rename_i z c j m K;simp only[slL,ar,bi]at a;obtain⟨rfl,_⟩:=a;simp only[VR]at hx;rcases hx with⟨k,C,I,f,i,E,s⟩ | ⟨f,⟨i,_⟩,_⟩
  ·exact b _ _ _ s h
  ·omega
 ·cases h
def DD{t:TypeId}{x:Option Operand}(b:o.op=.makeMap t x)(h:effK P (opd s.T) s.H f (.makeMap t x) c=some z):∃e,c e=some z/\gj P ι f o a w e:=by
 simp only[effK]at h;split at h
 case h_2=>cases h
 split at h
 case h_2=>cases h
 refine⟨_,h,.mk (x:=.map (some w.heap.size)) (ob:=.map #[] 0) ?_ ⟨#[],0,rfl,rfl⟩ (by simp only[VR];exact⟨_,db _ _ _,rfl⟩)⟩;simp only[execOp,b,ir,aw];rfl
def OE{H:List (Nat×Blk)}{nb b:Nat}{w:World}(i:WR ι H nb w){k:IntKind}{l:List (Int×Nat)}(d:look H b=some (.mp k l)):
  ∃q c a,ι b=some (some q)/\w.heap[q.r]?=some (.map c a)/\c.toList.map (λe=>(e.key,e.val))=l.map λp=>(Value.int k p.1,fnV p.2 #[]):=by
 obtain⟨q,o,g,f,c,a,rfl,h⟩:=(i.blk b _ d (by simp)).real (by simp);exact⟨q,c,a,g,f,h⟩
def JW{α:Type}{k:IntKind}{n:Int}{c:Nat->Option α}{z:α}:∀(b:List MapEntry) (l:List (Int×Nat)) (i:Nat),b.map (λe=>(e.key,e.val))=l.map (λp=>(Value.int k p.1,fnV p.2 #[]))->mapK l n c=some z->
  ∃g j,c g=some z/\Instr.findNow (.int k) (.int k n) b i=some (some (j,fnV g #[]))
 | [],[],_,_,h=>by cases h
 | [],_::_,_,a,_=>by simp at a
 | _::_,[],_,a,_=>by simp at a
 | e::b,(m,g)::l,i,a,h=>by
  simp only[ge,H3,bi]at a;obtain⟨⟨f,q⟩,t⟩:=a;simp only[mapK]at h;cases d:(n==m)with
  | true=>
   rw[d]at h;exact⟨g,i,h,by simp only[Instr.findNow,f,Instr.sameNow,aH,d,q]⟩
  | false=>
   rw[d]at h;obtain⟨o,j,r,s⟩:=JW b l (i+1) t h;exact⟨o,j,r,by simp only[Instr.findNow,f,Instr.sameNow,aH,d];exact s⟩
def GU{t:TypeId}{m x:Operand}{ok:Bool}(M:o.op=.lookup t m x ok)(u:TR ι s.T a.tmps)(G:WR ι s.H s.nb w)(h:effK P (opd s.T) s.H f (.lookup t m x ok) c=some z):
  ∃e,c e=some z/\gj P ι f o a w e:=by
 simp only[effK]at h;split at h
 case h_2=>cases h
 rename_i b I;split at h
 case h_2=>cases h
 rename_i k n hx;split at h
 case h_2=>cases h
 rename_i kt O hd;split at h
 case h_2=>cases h
 rename_i k2 v;split at h
 case h_2=>cases h
 rename_i k1 l J;split at h
 case h_2=>cases h
 rename_i d;simp only[aB]at d;have E:=kn d.1;have C:=kn d.2;subst E C;have r:=bp u I;have y:=bp u hx;simp only[VR]at r y;obtain⟨q,F,K⟩:=r;obtain⟨Q,B,i,p,N,A⟩:=OE G J;rw[F]at p;cases p;obtain⟨g,j,L,D⟩:=JW B.toList l 0 A h;refine⟨_,L,.val (x:=fnV g #[]) ?_ (by simp only[VR];exact⟨#[],rfl,by simp[VRs]⟩)⟩;simp only[execOp,M,K,y,aw,Instr.lookup,aT hd,ay,MapKept.run_getObj_map N,aA,
  MapKept.run_checkKey (k:=.int k2 n) v (by simp[MapKept.IsKey]),MapKept.run_findKey v D]
 rfl
def Ha{t:TypeId}{m x y:Operand}(ho:o.op=.insert t m x y)(I:TR ι s.T a.tmps)(Y:WR ι s.H s.nb w)(h:effK P (opd s.T) s.H f (.insert t m x y) c=some z):
  ∃e,c e=some z/\gj P ι f o a w e:=by
 simp only[effK]at h;split at h
 case h_2=>cases h
 rename_i b Z;split at h
 case h_2=>cases h
 rename_i k n g hx hy;split at h
 case h_2=>cases h
 rename_i kt et hd;split at h
 case h_2=>cases h
 rename_i k2 R;split at h
 case h_2=>cases h
 rename_i k1 l hb;split at h
 case h_2=>cases h
 rename_i B;simp only[aB]at B;obtain⟨E,G,C⟩:=B;have X:=kn E;have V:=kn G;subst X V;have M:=bp I Z;have S:=bp I hx;have O:=bp I hy;simp only[VR]at M S O;obtain⟨q,L,h2⟩:=M;obtain⟨W,h8,K⟩:=O;simp only[VRs]at K;have F:W=#[]:=by
  apply mg;simpa using K
 subst F;obtain⟨q',D,d,N,Q,J⟩:=OE Y hb;rw[L]at N;cases N;have A:∀e∈D.toList,∃p∈l,e.key=.int k2 p.1:=by
  intro e u;have:(e.key,e.val)∈l.map λp=>(Value.int k2 p.1,fnV p.2 #[]):=by rw[<-J];exact ew.2 ⟨e,u,rfl⟩
  obtain⟨p,hp,i⟩:=ew.1 this;simp only[bi]at i;exact⟨p,hp,i.1.symm⟩
 have r:MapKept.IsKey (.int k2) (.int k2 n):=by simp[MapKept.IsKey]
 have v:Instr.findNow (.int k2) (.int k2 n) D.toList 0=some none:=by
  rcases MapKept.findNow_spec r D.toList 0 (λe u=>by obtain⟨p,_,hp⟩:=A e u;rw[hp];simp[MapKept.IsKey])with⟨h,_⟩ | ⟨j,e,_,U,u⟩
  ·exact h
  ·exfalso;obtain⟨p,hp,i⟩:=A e (fE U);rw[i]at u;have:=(cq.1 C) p hp;simp only[Value.int.injEq,jg]at u;simp[u]at this
 refine⟨_,h,?_⟩;unfold gj;refine⟨q,L,λ_=>⟨.map (D.push { key:=.int k2 n,val:=fnV g #[],born:=d }) (d+1),.skip,?_,⟨_,_,rfl,?_⟩,.skip rfl⟩⟩
 ·simp only[execOp,ho,h2,S,h8,aw,Instr.mapUpdate,aT hd,ay,MapKept.run_getObj_map Q,MapKept.run_checkKey (k:=.int k2 n) R r,MapKept.run_findKey R v,MapKept.run_setObj_map _ Q,aA];rfl
 ·rw[Array.toList_push,DN,DN,J];rfl
def Jy(k:TR ι s.T a.tmps)(C:WR ι s.H s.nb w)(Y:ι f=none)(h:effK P (opd s.T) s.H f o.op c=some z):∃e,c e=some z/\gj P ι f o a w e:=by
 cases j:o.op with
 | move x=>
  rw[j]at h;simp only[effK]at h;obtain⟨v,p,h⟩:=av h;exact⟨_,h,.val (by simp only[execOp,j,aA]) (bp k p)⟩
 | assign x=>
  rw[j]at h;simp only[effK]at h;obtain⟨v,p,h⟩:=av h;exact⟨_,h,.val (by simp only[execOp,j,aA]) (bp k p)⟩
 | pick q x y=>
  rw[j]at h;simp only[effK]at h;split at h
  ·rename_i t L;have p:=bp k L;simp only[VR]at p;cases t
   ·simp only[af]at h;obtain⟨v,A,h⟩:=av h;exact⟨_,h,.val (x:=a.eval y) (by simp[execOp,j,p,asBool]) (bp k A)⟩
   ·simp only[aj]at h;obtain⟨v,A,h⟩:=av h;exact⟨_,h,.val (x:=a.eval x) (by simp[execOp,j,p,asBool]) (bp k A)⟩
  ·cases h
 | alloc t=>rw[j]at h;exact KX j h
 | makeMap t x=>rw[j]at h;exact DD j h
 | insert t m x y=>rw[j]at h;exact Ha j k C h
 | lookup t m x ok=>rw[j]at h;exact GU j k C h
 | box t x=>rw[j]at h;exact PK j k Y h
 | build t ps=>rw[j]at h;exact JS j k h
 | buildSlice t n ps=>rw[j]at h;exact xH j k Y h
 | load t x=>rw[j]at h;exact N1 j k C h
 | makeSlice t x y=>rw[j]at h;exact zP j k h
 | store t x y=>rw[j]at h;exact KC j k C h
 | nilCheck x=>
  rw[j]at h;simp only[effK]at h;split at h
  ·rename_i b off hx;have p:=bp k hx;have A:=p;simp only[VR]at p;obtain⟨r,Z,B⟩:=p;exact⟨_,h,.val (x:=a.eval x) (by simp[execOp,j,B]) A⟩
  ·rename_i zz b jj off hx;have p:=bp k hx;have A:=p;simp only[VR]at p;obtain⟨r,Z,B⟩:=p;exact⟨_,h,.val (x:=a.eval x) (by simp[execOp,j,B]) A⟩
  ·rename_i g l hx;have p:=bp k hx;have A:=p;simp only[VR]at p;obtain⟨Q,B,_⟩:=p;obtain⟨g',b',c',h7⟩:=xY g Q;exact⟨_,h,.val (x:=a.eval x) (by simp[execOp,j,B,h7]) A⟩
  ·rename_i b off n m hx;have p:=bp k hx;have A:=p;simp only[VR]at p;obtain⟨r,cp,_,_,_,B⟩:=p;exact⟨_,h,.val (x:=a.eval x) (by simp[execOp,j,B]) A⟩
  ·rename_i t v hx;have p:=bp k hx;have A:=p;simp only[VR]at p;obtain⟨y,B,_⟩:=p;exact⟨_,h,.val (x:=a.eval x) (by simp[execOp,j,B]) A⟩
  ·cases h
 | binOp op t x y yt=>
  rw[j]at h;simp only[effK]at h;obtain⟨u,G,h⟩:=av h;obtain⟨v,p,h⟩:=av h;split at h
  ·rename_i r V;have hx:=bp k G;have hy:=bp k p;obtain⟨I,M⟩:=R2 V hx hy w;exact⟨_,h,.val (x:=.bool r) (by simp only[execOp,j,aw,I,M,ay,aA]) (by simp[VR])⟩
  split at h
  ·rename_i r V;split at h
   case h_2=>cases h
   rename_i m rd E;obtain⟨hm,h⟩:=eH h;obtain⟨I,M⟩:=Uk V E (aG hm) C (bp k G) (bp k p) x y;exact⟨_,h,.val (x:=.bool r) (by simp only[execOp,j,aw,I,M,ay,aA]) (by simp[VR])⟩
  obtain⟨R,X,S,W,I,M⟩:=Qv h (bp k G) (bp k p) x y w;exact⟨_,S,.val (x:=X) (by simp only[execOp,j,aw,I,M,ay,aA]) W⟩
 | unOp op t x=>
  rw[j]at h;simp only[effK]at h;obtain⟨u,G,h⟩:=av h;obtain⟨R,X,S,W,I⟩:=UE (P:=P) h (bp k G) w;exact⟨_,S,.val (x:=X) (by simp only[execOp,j,aw,I,ay,aA]) W⟩
 | convert sr d x=>rw[j]at h;exact Dq j k C h
 | next x str=>rw[j]at h;exact LQ j k C h
 | makeInterface t x=>
  rw[j]at h;simp only[effK]at h;obtain⟨u,G,h⟩:=av h;have p:=bp k G;split at h
  ·cases h
  ·rename_i d N hd;refine⟨_,h,.val (x:=.iface t (a.eval x)) ?_ (by simp only[VR];exact⟨_,rfl,p⟩)⟩;simp only[execOp,j,Instr.makeInterface,aw,aT hd,ay];cases d<;>first | rfl | exact absurd rfl (N _)
  ·cases h
 | makeFunc fn first cap=>
  rw[j]at h;simp only[effK]at h;split at h
  ·rename_i g F;split at h
   case h_2=>cases h
   rename_i hb;obtain⟨l,E,h⟩:=av h;have J:=wW k E;have D:first=#[]:=by apply mg;simpa using F
   refine⟨_,h,.val (x:=.func (.func g) #[] (cap.map a.eval)) ?_ (by simp only[VR];exact⟨_,(Di hb _).symm,by simpa using J⟩)⟩;simp only[execOp,j,Instr.makeFunc,D,FO,aw,aA,ay]
  ·rename_i g _ _ F;split at h
   ·rename_i K;obtain⟨l,E,h⟩:=av h;have J:=wW k E;have hcap':cap=#[]:=by apply mg;simpa using K
    refine⟨_,h,.val (x:=.func (.func g) (first.map a.eval) #[]) ?_ (by simp only[VR];exact⟨_,(MU g _).symm,by simpa using J⟩)⟩;simp only[execOp,j,Instr.makeFunc,hcap',FO,aw,aA,ay]
   ·cases h
  ·cases h
 | slice t x lo hi mx=>
  rw[j]at h;cases mx with
  | none=>exact IW j k C h
  | some m=>exact Ht j k C h
 | fieldAddr t x i=>rw[j]at h;exact zF j k h
 | field t x i=>rw[j]at h;exact JL j k h
 | indexAddr t x i=>rw[j]at h;exact AO j k C h
 | index t x i=>rw[j]at h;exact Is j k h
 | range t x=>rw[j]at h;exact Kq j k h
 | extract x i=>
  rw[j]at h;simp only[effK]at h;split at h
  ·rename_i l hx;obtain⟨v,p,h⟩:=av h;have E:=bp k hx;simp only[VR]at E;obtain⟨Q,B,U⟩:=E;obtain⟨y,hy,O⟩:=U.get p;have hy':Q[i]?=some y:=by simpa using hy
   exact⟨_,h,.val (x:=y) (by simp[execOp,j,B,Instr.extract,hy']) O⟩
  ·cases h
 | typeAssert x xt at_ ok=>
  rw[j]at h;simp only[effK]at h;split at h
  case h_2=>cases h
  rename_i t v hx;have p:=bp k hx;simp only[VR]at p;obtain⟨y,B,hy⟩:=p;split at h
  ·cases h
  ·rename_i d N hd;split at h
   case h_2=>cases h
   rename_i L;have L:=bD L;subst L;cases ok with
   | true=>
    refine⟨_,h,.val (x:=.tuple #[y,.bool true]) ?_ (by simp only[VR,VRs];exact⟨_,rfl,y,[.bool true],rfl,hy,_,[],rfl,rfl,rfl⟩)⟩;simp only[execOp,j,B,Instr.typeAssert,aw,aT hd,ay];cases d<;>first | simp | exact absurd rfl (N _)
   | false=>
    refine⟨_,h,.val (x:=y) ?_ hy⟩;simp only[execOp,j,B,Instr.typeAssert,aw,aT hd,ay];cases d<;>first | simp | exact absurd rfl (N _)
  ·cases h
 | call cl=>rw[j]at h;exact MM j k C h
 | _=>rw[j]at h;simp[effK]at h
end ops
end Go.Abs
