
/- The abstract effect of an operation is what the model's own operation does: the operations that make no memory; all of them together.
   Conditions: none; generic over the program. -/
import Derived.Test.YthemneooekobkabGreatDoorAbsG
import Derived.Laws.BytesArg
import Derived.Laws.BytesString
import Derived.Lib.ConvBytes
import Derived.Laws.MakeOwn
import Derived.Deep.AppendSrc
import Derived.MapKept
set_option linter.unusedSimpArgs false
set_option linter.unusedVariables false
namespace Go.Abs
variable {P:Program}
section ops
variable {α:Type} {ι:Inj} {s:St} {a:Act} {w:World} {f:Nat} {o:Oper} {c:Eff->Option α} {z:α}
theorem yP {t:TypeId} {a:Array Field} {fd:Field} {i:Nat} {d:TypeInfo} (b:P.underlying t=some (.struct a)) (c:a[i]?=some fd) (hi:P.info? fd.type=some d)
  (hp:0<P.cellsOf fd.type) (r off:Nat) (w:World):(Instr.fieldAt t (.pointer (some ⟨r,off,none⟩)) i).run P w=.ok (.pointer (some ⟨r,off+fd.offset,none⟩)) w:=by
 simp only [Instr.fieldAt,aw,aV b,ay,c,Instr.sureAddr,aD,fieldPlace,gq hi,show ¬(P.cellsOf fd.type=0) by omega,aB,ny]
theorem AE {t:TypeId} {x:Operand} {i:Nat} (v:o.op=.fieldAddr t x i) (q:TR ι s.T a.tmps) (h:effK P (opd s.T) s.H f (.fieldAddr t x i) c=some z):
  ∃e,c e=some z/\gO P ι f o a w e:=by
 simp only [effK] at h;split at h
 ·rename_i b off hx;split at h
  ·rename_i A p;split at h
   ·rename_i fd l;split at h
    ·rename_i hp;obtain ⟨y,g⟩:=ca hp;have k:=bv q hx;simp only [VR] at k;obtain ⟨r,m,n⟩:=k;have d:=yP p (by simpa using l) g (aI hp) r.r off w;exact ⟨_,h,.val (x:=.pointer (some ⟨r.r,off+fd.offset,none⟩)) (by simp only [execOp,v,n,aw,d,ay,aD]) (by simp only [VR,pI];exact ⟨r,m,rfl⟩)⟩
    ·cases h
   ·cases h
  ·cases h
 ·rename_i u b j off hx;split at h
  ·rename_i A p;split at h
   ·rename_i fd l;split at h
    ·rename_i hp;obtain ⟨y,g⟩:=ca hp;have k:=bv q hx;simp only [VR] at k;obtain ⟨r,m,n⟩:=k;have d:=yP p (by simpa using l) g (aI hp) r.r (r.o+(j*u+off)) w;exact ⟨_,h,.val (x:=.pointer (some ⟨r.r,r.o+(j*u+off)+fd.offset,none⟩)) (by simp only [execOp,v,n,aw,d,ay,aD]) (by simp only [VR,pI];exact ⟨r,m,by rw [iO,iO]⟩)⟩
    ·cases h
   ·cases h
  ·cases h
 ·cases h
theorem JU {t:TypeId} {x:Operand} {i:Nat} (u:o.op=.field t x i) (D:TR ι s.T a.tmps) (h:effK P (opd s.T) s.H f (.field t x i) c=some z):
  ∃e,c e=some z/\gO P ι f o a w e:=by
 simp only [effK] at h;split at h
 ·rename_i l hx;have p:=bv D hx;simp only [VR] at p;obtain ⟨n,q,j⟩:=p;split at h
  ·rename_i B r;split at h
   ·rename_i fd A;have hf':B[i]?=some fd:=by simpa using A
    split at h
    ·rename_i b;split at h
     ·have C:∃d,P.underlying fd.type=some d:=by
       unfold bV at b;split at b
       ·exact ⟨_,by assumption⟩
       ·exact ⟨_,by assumption⟩
       ·cases b
      obtain ⟨d',g⟩:=C;obtain ⟨F,m⟩:=nv g;refine ⟨_,h,.val (x:=.agg (n.extract fd.offset (fd.offset+P.cellsOf fd.type))) ?_ (qw (j.extract _ _))⟩;simp only [execOp,u,q,Instr.field,aw,aV r,ay,hf',asAgg,aD,part,kP g,b,aJ,gq m]
     ·cases h
    ·rename_i b;split at h
     ·rename_i d' g;obtain ⟨v,E,h⟩:=av h;obtain ⟨y,hy,k⟩:=j.get E;have hy':n[fd.offset]?=some y:=by simpa using hy
      refine ⟨_,h,.val (x:=y) ?_ k⟩;simp only [execOp,u,q,Instr.field,aw,aV r,ay,hf',asAgg,aD,part,kP g,b,br,aB,hy']
     ·cases h
   ·cases h
  ·cases h
 ·cases h
theorem pt {t e:TypeId} {m:Nat} {c:TypeInfo} (b:P.underlying t=some (.array m e)) (hi:P.info? e=some c) (k:IntKind) {n:Int} (d:0<=n) (a:n<m) (r off:Nat) (w:World):
  (Instr.indexAt t (.pointer (some ⟨r,off,none⟩)) (.int k n)).run P w=.ok (.pointer (some ⟨r,off+n.toNat*P.cellsOf e,none⟩)) w:=by
 simp only [Instr.indexAt,asIntOf,aw,aD,ay,aV b,Instr.sureAddr,d,a,and_self,aJ,gq hi,ny]
theorem l7 {t e:TypeId} {m cp:Nat} {c:TypeInfo} (b:P.underlying t=some (.slice e)) (hi:P.info? e=some c) (k:IntKind) {n:Int} (d:0<=n) (a:n<m) (r off:Nat) (w:World):
  (Instr.indexAt t (.slice (some ⟨r,off,none⟩) m cp) (.int k n)).run P w=.ok (.pointer (some ⟨r,off+n.toNat*P.cellsOf e,none⟩)) w:=by
 simp only [Instr.indexAt,asIntOf,aw,aD,ay,aV b,d,a,and_self,aJ,gq hi,ny]
theorem Bj {t:TypeId} {x i:Operand} (G:o.op=.indexAddr t x i) (D:TR ι s.T a.tmps) (M:WR ι s.H s.nb w) (h:effK P (opd s.T) s.H f (.indexAddr t x i) c=some z):
  ∃e,c e=some z/\gO P ι f o a w e:=by
 simp only [effK] at h;split at h
 case h_2=>cases h
 rename_i k n hi;have u:=bv D hi;simp only [VR] at u;split at h
 ·rename_i m e E;split at h
  ·rename_i b off hx;have p:=bv D hx;simp only [VR] at p;obtain ⟨r,v,B⟩:=p;split at h
   ·rename_i hp;obtain ⟨I,g⟩:=ca hp;obtain ⟨j,C,h⟩:=av h;obtain ⟨g0,A,rfl⟩:=oL C;have d:=pt E g k g0 A r.r off w;exact ⟨_,h,.val (x:=.pointer (some ⟨r.r,off+n.toNat*P.cellsOf e,none⟩)) (by simp only [execOp,G,B,u,aw,d,ay,aD]) (by simp only [VR,pI,yG];exact ⟨r,v,rfl⟩)⟩
   ·cases h
  ·rename_i J b K off hx;have p:=bv D hx;simp only [VR] at p;obtain ⟨r,v,B⟩:=p;split at h
   ·rename_i hp;obtain ⟨I,g⟩:=ca hp;obtain ⟨j,C,h⟩:=av h;obtain ⟨g0,A,rfl⟩:=oL C;have d:=pt E g k g0 A r.r (r.o+(K*J+off)) w;exact ⟨_,h,.val (x:=.pointer (some ⟨r.r,r.o+(K*J+off)+n.toNat*P.cellsOf e,none⟩)) (by simp only [execOp,G,B,u,aw,d,ay,aD]) (by simp only [VR,pI,yG];exact ⟨r,v,by rw [iO,iO]⟩)⟩
   ·cases h
  ·cases h
 ·rename_i e E;split at h
  ·rename_i b off m cp hx;have p:=bv D hx;simp only [VR] at p;obtain ⟨r,cap,v,_,_,B⟩:=p;split at h
   ·rename_i hp;obtain ⟨I,g⟩:=ca hp;obtain ⟨j,C,h⟩:=av h;obtain ⟨g0,A,rfl⟩:=oL C;have d:=l7 (cp:=cap) E g k g0 A r.r off w;exact ⟨_,h,.val (x:=.pointer (some ⟨r.r,off+n.toNat*P.cellsOf e,none⟩)) (by simp only [execOp,G,B,u,aw,d,ay,aD]) (by simp only [VR,pI,yG];exact ⟨r,v,rfl⟩)⟩
   ·cases h
  ·rename_i b hx;have p:=bv D hx;simp only [VR] at p;split at h
   case h_2=>cases h
   rename_i tr l L;split at h
   case h_2=>cases h
   rename_i hp;simp only [aA,ju] at hp;obtain ⟨N,hp⟩:=hp;obtain ⟨I,g⟩:=ca hp;obtain ⟨j,C,h⟩:=av h;obtain ⟨g0,A,rfl⟩:=oL C;rcases jH M L with ⟨q,S,Y,fr,F,Z,O,W,V,U,X⟩ | ⟨F,rfl⟩
   ·rcases p with ⟨Q,v,B⟩ | ⟨v,_⟩
    ·rw [v] at F;cases F;have g1':n<(q.n:Int):=by rw [<-O];exact A
     have d:=l7 (cp:=q.k) E g k g0 g1' q.r q.o w;exact ⟨_,h,.val (x:=.pointer (some ⟨q.r,q.o+n.toNat*P.cellsOf e,none⟩)) (by simp only [execOp,G,B,u,aw,d,ay,aD]) (by simp only [VR];exact ⟨q,v,by rw [cS]⟩)⟩
    ·rw [v] at F;cases F
   ·simp at A;omega
  ·rename_i J b R m _ hx;have p:=bv D hx;simp only [VR] at p;split at h
   case h_2=>cases h
   rename_i hp;simp only [aA,ju] at hp;obtain ⟨rfl,hp⟩:=hp;obtain ⟨I,g⟩:=ca hp;obtain ⟨j,C,h⟩:=av h;obtain ⟨g0,A,rfl⟩:=oL C;rcases p with ⟨q,cp,off,v,_,y,B⟩ | ⟨_,⟨rfl,_⟩,_⟩
   ·have d:=l7 (cp:=cp) E g k g0 A q.r off w;have y:=y (by omega);exact ⟨_,h,.val (x:=.pointer (some ⟨q.r,off+n.toNat*P.cellsOf e,none⟩)) (by simp only [execOp,G,B,u,aw,d,ay,aD]) (by simp only [VR,pI];exact ⟨q,v,by rw [y,hO,cS,iO]⟩)⟩
   ·omega
  ·cases h
 ·cases h
theorem jq {t e:TypeId} {m:Nat} {b:TypeInfo} (d:P.underlying t=some (.array m e)) (hi:P.info? e=some b) (k:IntKind) {n:Int} (f:0<=n) (c:n<m) (a:Array Value) (w:World):
  (Instr.index t (.agg a) (.int k n)).run P w=(part e a (n.toNat*P.cellsOf e)).run P w:=by
 simp only [Instr.index,asIntOf,aw,aD,ay,aV d,f,c,and_self,aJ,gq hi]
theorem rf {t:TypeId} {d:TypeDesc} (b:P.underlying t=some d) (c:bV P t=false) {a:Array Value} {off:Nat} {x:Value} (hx:a[off]?=some x) (w:World):
  (part t a off).run P w=.ok x w:=by
 simp only [part,aw,kP b,c,ay,br,aB,hx,aD]
theorem vI {t:TypeId} {d:TypeDesc} (b:P.underlying t=some d) (c:bV P t=true) (a:Array Value) (off:Nat) (w:World):
  (part t a off).run P w=.ok (.agg (a.extract off (off+P.cellsOf t))) w:=by
 obtain ⟨i,hi⟩:=nv b;simp only [part,aw,kP b,c,ay,aJ,gq hi,aD]
theorem vM {t:TypeId} (e:P.underlying t=some .string) {l:aa} {n:Int} {b:UInt8} (h:sx l n=some b) (k:IntKind) (w:World):
  (Instr.index t (.string ⟨l.toArray⟩) (.int k n)).run P w=.ok (.int .u8 b.toNat) w:=by
 unfold sx at h;split at h
 ·rename_i f;have d:(ByteArray.mk l.toArray)[n.toNat]?=some b:=by
   have a:n.toNat<l.length:=by
    rcases aG n.toNat l.length with c | c
    ·exact c
    ·rw [ii c] at h;cases h
   have hs:n.toNat<(ByteArray.mk l.toArray).size:=a;rw [getElem?_pos (ByteArray.mk l.toArray) n.toNat hs];rw [be a] at h;simp only [au] at h ⊢;exact h
  simp only [Instr.index,asIntOf,aw,aD,ay,aV e,f,aJ,d]
 ·cases h
theorem K3 {t:TypeId} {x i:Operand} (F:o.op=.index t x i) (G:TR ι s.T a.tmps) (h:effK P (opd s.T) s.H f (.index t x i) c=some z):
  ∃e,c e=some z/\gO P ι f o a w e:=by
 simp only [effK] at h;split at h
 case h_2=>cases h
 rename_i k n hi;have d:=bv G hi;simp only [VR] at d;split at h
 ·rename_i m e C;split at h
  ·cases h
  rename_i hp;obtain ⟨O,q⟩:=ca hp;split at h
  ·rename_i k' m' l hx;have p:=bv G hx;simp only [VR] at p;obtain ⟨M,E⟩:=p;split at h
   ·rename_i k2 g;split at h
    ·rename_i r;have r:=bK r;obtain ⟨j,B,h⟩:=av h;obtain ⟨g0,A,rfl⟩:=oL B;obtain ⟨v,p,h⟩:=av h;refine ⟨_,h,.val (x:=.int k' v) ?_ (by simp [VR])⟩;simp only [execOp,F,E,d,aw,jq C q k g0 A];rw [rf g (by simp [bV,g]) (x:=.int k' v) (by simp [r,p])];rfl
    ·cases h
   ·cases h
  ·rename_i l hx;have p:=bv G hx;simp only [VR] at p;obtain ⟨J,E,u⟩:=p;split at h
   ·rename_i U g;obtain ⟨j,B,h⟩:=av h;obtain ⟨g0,A,rfl⟩:=oL B;refine ⟨_,h,.val (x:=.agg (J.extract (n.toNat*P.cellsOf e) (n.toNat*P.cellsOf e+P.cellsOf e))) ?_ (qw (u.extract _ _))⟩;simp only [execOp,F,E,d,aw,jq C q k g0 A,vI g (by simp [bV,g]),ay,aD]
   ·rename_i m2 L g;obtain ⟨j,B,h⟩:=av h;obtain ⟨g0,A,rfl⟩:=oL B;refine ⟨_,h,.val (x:=.agg (J.extract (n.toNat*P.cellsOf e) (n.toNat*P.cellsOf e+P.cellsOf e))) ?_ (qw (u.extract _ _))⟩;simp only [execOp,F,E,d,aw,jq C q k g0 A,vI g (by simp [bV,g]),ay,aD]
   ·rename_i g;split at h
    ·rename_i r;have r:=bK r;split at h
     ·rename_i N I;obtain ⟨j,B,h⟩:=av h;obtain ⟨g0,A,rfl⟩:=oL B;obtain ⟨v,p,h⟩:=av h;obtain ⟨y,hy,D⟩:=u.get (j:=n.toNat) (v:=.s v) (by rw [ui I];simp [p]);refine ⟨_,h,.val (x:=y) ?_ D⟩;simp only [execOp,F,E,d,aw,jq C q k g0 A];rw [rf g (by simp [bV,g]) (x:=y) (by simpa [r] using hy)];rfl
     ·cases h
    ·cases h
   ·rename_i d' R S Q g;split at h
    ·rename_i r;have r:=bK r;obtain ⟨j,B,h⟩:=av h;obtain ⟨g0,A,rfl⟩:=oL B;obtain ⟨v,p,h⟩:=av h;obtain ⟨y,hy,D⟩:=u.get p;refine ⟨_,h,.val (x:=y) ?_ D⟩;simp only [execOp,F,E,d,aw,jq C q k g0 A];rw [rf g (by simp only [bV,g];cases d'<;>simp_all) (x:=y) (by simpa [r] using hy)];rfl
    ·cases h
   ·cases h
  ·cases h
 ·rename_i C;split at h
  ·rename_i l hx;have p:=bv G hx;simp only [VR] at p;obtain ⟨b,K,h⟩:=av h;refine ⟨_,h,.val (x:=.int .u8 b.toNat) ?_ (by simp [VR])⟩;simp only [execOp,F,p,d,aw,vM C K,ay,aD]
  ·cases h
 ·cases h
theorem Ax {t:TypeId} (a:P.underlying t=some .string) {l:aa} {lo hi:Option Value} {L H:Nat} {w:World}
  (b:(Instr.sliceBounds false l.length l.length lo hi none).run P w=.ok (L,H,l.length) w):
  (Instr.sliceAt t (.string ⟨l.toArray⟩) lo hi none).run P w=.ok (.string ⟨((l.take H).drop L).toArray⟩) w:=by
 rw [run_sliceAt_string w t _ _ _ _ a];have hs:(ByteArray.mk l.toArray).size=l.length:=rfl;simp only [Instr.slice,aw,aV a,ay,yq,br,aB,hs,b,aD];congr 2;apply Kt;rw [ByteArray.data_extract];apply lG;simp [List.extract,xw]
theorem By {t e:TypeId} {n:Nat} {d:TypeInfo} (b:P.underlying t=some (.array n e)) (hi:P.info? e=some d) {lo a:Option Value} {L H r off:Nat} {w:World}
  (c:(Instr.sliceBounds false n n lo a none).run P w=.ok (L,H,n) w):
  (Instr.sliceAt t (.pointer (some ⟨r,off,none⟩)) lo a none).run P w=.ok (.slice (some ⟨r,if n=L then off else off+L*P.cellsOf e,none⟩) (H - L) (n - L)) w:=by
 simp only [Instr.sliceAt,aw,aV b,ay,Instr.sureAddr,aD,c,gq hi,ny];split<;>rfl
theorem ox {t e:TypeId} {n cp:Nat} {d:TypeInfo} (b:P.underlying t=some (.slice e)) (hi:P.info? e=some d) {lo a:Option Value} {L H r off:Nat} {w:World}
  (c:(Instr.sliceBounds true n cp lo a none).run P w=.ok (L,H,cp) w):
  (Instr.sliceAt t (.slice (some ⟨r,off,none⟩) n cp) lo a none).run P w=.ok (.slice (some ⟨r,if cp=L then off else off+L*P.cellsOf e,none⟩) (H - L) (cp - L)) w:=by
 simp only [Instr.sliceAt,Instr.slice,aw,aV b,ay,c,gq hi,aD];split
 ·rfl
 ·simp only [fc,ny]
theorem kv (n l x y:Nat):cond (Nat.beq n l) x y=if n=l then x else y:=by
 by_cases h:n=l
 ·subst h;simp
 ·have:Nat.beq n l=false:=by
   cases a:Nat.beq n l
   ·rfl
   ·exact absurd (bK a) h
  simp [this,h]
theorem uw {t e:TypeId} {d:TypeInfo} {b:Option Addr} (f:P.underlying t=some (.slice e)) (hi:P.info? e=some d) {lo a:Option Value} {w:World}
  (c:(Instr.sliceBounds true 0 0 lo a none).run P w=.ok (0,0,0) w):
  (Instr.sliceAt t (.slice b 0 0) lo a none).run P w=.ok (.slice b 0 0) w:=by
 simp only [Instr.sliceAt,Instr.slice,aw,aV f,ay,c,gq hi,aD,aJ]
theorem Ew {T:List (Nat×Option V)} (p:TR ι T a.tmps) {lo hi:Option Operand} {l h:Option Int} (u:rB (opd T) lo=some l)
  (r:rB (opd T) hi=some h) {len:Nat} {c:Nat->Nat->Option α} (e:(hiK len len h λh=>loK h l λl=>c h l)=some z):
  ∃H L,c H L=some z/\H<=len/\L<=H/\∀n,len<=n->∀w,(Instr.sliceBounds true len n (lo.map a.eval) (hi.map a.eval) none).run P w=.ok (L,H,n) w:=by
 have i:∀{H:Nat},loK H l (c H)=some z->∃L,c H L=some z/\L<=H/\
   ∀w,(match lo.map a.eval with | some v=>Instr.sliceBound v H .sliceB | none=>pure 0).run P w=.ok L w:=by
  intro H e;rcases pf p u with ⟨rfl,g⟩ | ⟨k,m,rfl,g⟩
  ·exact ⟨0,e,fU _,λw=>by rw [g];rfl⟩
  ·simp only [loK] at e;obtain ⟨L,j,o⟩:=av e;obtain ⟨g0,q,rfl⟩:=lZ j;exact ⟨_,o,by omega,λw=>by rw [g];exact run_sliceBound w k m H .sliceB g0 q⟩
 rcases pf p r with ⟨rfl,g⟩ | ⟨k,m,rfl,g⟩
 ·simp only [hiK] at e;obtain ⟨L,j,o,d⟩:=i e;refine ⟨len,L,j,aW _,o,λn t w=>?_⟩;have d:=d w;rw [g];simp only [Instr.sliceBounds,aw,aD,ay,yq,br,aB];cases b:lo.map a.eval with
  | none=>rw [b] at d;simp only [aD,xK,wB] at d;simp [d]
  | some v=>rw [b] at d;simp only [] at d;simp [d]
 ·simp only [hiK] at e;obtain ⟨H,j,o⟩:=av e;obtain ⟨g0,q,rfl⟩:=lZ j;obtain ⟨L,x,d,f⟩:=i o;refine ⟨_,L,x,by omega,d,λn t w=>?_⟩;have f:=f w;rw [g];have s:=run_sliceBound (P:=P) w k m n .sliceAcap g0 (by omega);simp only [Instr.sliceBounds,aw,aD,ay,yq,br,aB,aJ,s];cases b:lo.map a.eval with
  | none=>rw [b] at f;simp only [aD,xK,wB] at f;simp [f]
  | some v=>rw [b] at f;simp only [] at f;simp [f]
theorem KA {t:TypeId} {x:Operand} {lo hi:Option Operand} (I:o.op=.slice t x lo hi none) (G:TR ι s.T a.tmps) (hW:WR ι s.H s.nb w) (h:effK P (opd s.T) s.H f (.slice t x lo hi none) c=some z):
  ∃e,c e=some z/\gO P ι f o a w e:=by
 simp only [effK] at h;obtain ⟨v,hx,C⟩:=av h;obtain ⟨l,J,q2⟩:=av C;obtain ⟨hh,u,d⟩:=av q2;clear h C q2;have B:=bv G hx;clear hx;split at d
 ·rename_i E;cases v<;>simp only [reduceCtorEq] at d;rename_i sl;simp only [VR] at B;obtain ⟨H,L,g,_,_,_,i,_,A⟩:=xx (P:=P) G J u (isSlice:=false) d;refine ⟨_,g,.val (x:=.string ⟨((sl.take H).drop L).toArray⟩) ?_ (by simp [VR])⟩;simp only [execOp,I,B,aw,jh];rw [Ax E (A w)];rfl
 ·rename_i n e E;split at d
  case h_2=>cases d
  rename_i hp;obtain ⟨ti,p⟩:=ca hp;cases v<;>simp only [reduceCtorEq] at d;rename_i b off;simp only [VR] at B;obtain ⟨r,i,y⟩:=B;obtain ⟨H,L,g,_,F,D,g4,_,A⟩:=xx (P:=P) G J u (isSlice:=false) d;have Z:H<=n:=by
   cases hh with
   | none=>exact xR (F rfl)
   | some q=>exact D (by simp)
  refine ⟨_,g,.val (x:=.slice (some ⟨r.r,if n=L then off else off+L*P.cellsOf e,none⟩) (H - L) (n - L)) ?_ ?_⟩
  ·simp only [execOp,I,y,aw,jh];rw [By E p (A w)];rfl
  ·simp only [VR];exact ⟨r,n - L,i,λm Q=>by cases Q;rfl,by omega,by rw [kv,pI,yG]⟩
 ·rename_i e E;split at d
  case h_2=>cases d
  rename_i hp;obtain ⟨ti,p⟩:=ca hp;cases v<;>try (simp only [reduceCtorEq] at d;done)
  ·rename_i b;simp only [VR] at B;simp only at d;split at d
   case h_2=>cases d
   rename_i tr m V;split at d
   case h_2=>cases d
   rename_i K;have K:=bK K;obtain ⟨H,L,g,F,D,A⟩:=Ew (P:=P) G J u d;rcases jH hW V with ⟨q,cs,e',fr,C,q2,Y,q5,_,_,_⟩ | ⟨C,rfl⟩
   ·rcases B with ⟨q',i,y⟩ | ⟨i,_⟩
    ·rw [i] at C;cases C;refine ⟨_,g,.val (x:=.slice (some ⟨q.r,if q.k=L then q.o else q.o+L*P.cellsOf e,none⟩) (H - L) (q.k - L)) ?_ ?_⟩
     ·simp only [execOp,I,y,aw,jh];rw [<-Y,ox E p (A q.k (by omega) w)];rfl
     ·simp only [VR];exact .inl ⟨q,_,_,i,⟨by omega,kM⟩,λR=>by rw [ab (by omega)],rfl⟩
    ·rw [i] at C;cases C
   ·rcases B with ⟨q,i,y⟩ | ⟨i,N,y⟩
    ·rw [i] at C;cases C
    ·simp only [aX,BU] at F D;subst F;simp only [BU] at D;subst D;refine ⟨_,g,.val (x:=.slice N 0 0) ?_ (by unfold VR;exact .inr ⟨i,⟨rfl,kM⟩,N,rfl⟩)⟩;simp only [execOp,I,y,aw,jh];rw [uw E p (A 0 (aW _) w)];rfl
  ·rename_i zz b j n _;simp only [VR] at B;simp only at d;split at d
   case h_2=>cases d
   rename_i K;have K:=bK K;obtain ⟨H,L,g,F,D,A⟩:=Ew (P:=P) G J u d;rcases B with ⟨q,cp,off,i,⟨M,_⟩,O,y⟩ | ⟨i,⟨rfl,_⟩,N,y⟩
   ·refine ⟨_,g,.val (x:=.slice (some ⟨q.r,if cp=L then off else off+L*P.cellsOf e,none⟩) (H - L) (cp - L)) ?_ ?_⟩
    ·simp only [execOp,I,y,aw,jh];rw [ox E p (A cp M w)];rfl
    ·simp only [VR];exact .inl ⟨q,_,_,i,⟨by omega,kM⟩,λR=>by rw [ab (by omega),O (by omega),pI,hO,K,iO],rfl⟩
   ·simp only [BU] at F;subst F;simp only [BU] at D;subst D;refine ⟨_,g,.val (x:=.slice N 0 0) ?_ (by unfold VR;exact .inr ⟨i,⟨rfl,kM⟩,N,rfl⟩)⟩;simp only [execOp,I,y,aw,jh];rw [uw E p (A 0 (aW _) w)];rfl
  rename_i b off n cap;simp only [VR] at B;obtain ⟨r,cp,i,X,M,y⟩:=B;cases cap with
  | some m=>
   obtain rfl:=X m rfl;obtain ⟨H,L,g,_,F,D,g4,_,A⟩:=xx (P:=P) G J u (isSlice:=true) d;have Z:H<=cp:=by
    cases hh with
    | none=>have:=F rfl;omega
    | some q=>exact D (by simp)
   refine ⟨_,g,.val (x:=.slice (some ⟨r.r,if cp=L then off else off+L*P.cellsOf e,none⟩) (H - L) (cp - L)) ?_ ?_⟩
   ·simp only [execOp,I,y,aw,jh];rw [ox E p (A w)];rfl
   ·simp only [VR];exact ⟨r,cp - L,i,λm Q=>by cases Q;rfl,by omega,by rw [kv,pI,yG]⟩
  | none=>
   have W:l=none:=by
    cases l with
    | none=>rfl
    | some q=>
     cases hh with
     | none=>simp [hiK] at d
     | some q=>simp only [hiK] at d;obtain ⟨_,_,Y⟩:=av d;cases Y
   subst W;have S:lo.map a.eval=none:=by
    rcases pf G J with ⟨_,g⟩ | ⟨k,m,h0,_⟩
    ·exact g
    ·cases h0
   have key:∃H,c { val:=some (.sl b off H none) }=some z/\H<=n/\(Instr.sliceBounds true n cp (lo.map a.eval) (hi.map a.eval) none).run P w=.ok (0,H,cp) w:=by
    rcases pf G u with ⟨rfl,g⟩ | ⟨k,m,rfl,g⟩
    ·simp only [hiK] at d;exact ⟨n,d,aW _,by rw [g,S];simp [Instr.sliceBounds]⟩
    ·simp only [hiK] at d;obtain ⟨H,h2,U⟩:=av d;obtain ⟨g0,g1,rfl⟩:=lZ h2;refine ⟨_,U,by omega,?_⟩;have V:=run_sliceBound (P:=P) w k m cp .sliceAcap g0 (by omega);rw [g,S];simp [Instr.sliceBounds,V]
   obtain ⟨H,g,h2,U⟩:=key;refine ⟨_,g,.val (x:=.slice (some ⟨r.r,if cp=0 then off else off+0*P.cellsOf e,none⟩) (H - 0) (cp - 0)) ?_ ?_⟩
   ·simp only [execOp,I,y,aw,jh];rw [ox E p U];rfl
   ·simp only [VR];exact ⟨r,cp,i,λm Q=>(by cases Q),by omega,by simp⟩
 ·cases d
theorem xp (a:List Int):a.foldl (λ(r:ByteArray) n=>r.push (UInt8.ofNat n.toNat)) ByteArray.empty=⟨(iP a).toArray⟩:=by
 rw [foldl_push_bytes];apply Kt;simp [iP]
theorem yY {w:World} {r off q m cp:Nat} {l:List Int} {e:TypeId} {fr:Nat×Nat} (h:w.heap[r]?=some (.cells (l.map (Value.int .u8)).toArray e fr)) (g:l.length=q) (f:off+m<=q):
  (Conv.bytesToString (.slice (some ⟨r,off,none⟩) m cp)).run P w=.ok (.string ⟨(iP ((l.drop off).take m)).toArray⟩) w:=by
 have a:(((l.drop off).take m).map (Value.int .u8)).length=m:=by simp;omega
 have hc:=yv (P:=P) w ⟨r,off,none⟩ (((l.drop off).take m).map (Value.int .u8)) (λj v b=>by
  have c:j<m:=by
   rcases aG j m with d | d
   ·exact d
   ·rw [ii (by omega)] at b;cases b
  rw [ny,bu h];rw [m8,qC c,mZ] at b;simpa using b)
 rw [a] at hc;rw [run_bytesToString w _ m cp _ hc,xp]
theorem Ak (w:World) (e:TypeId) (s:ByteArray):
  Lib.bytesWorld w e s=World.alloc { w with drawn:=w.drawn+1 } (.cells (Lib.bytesCells w e s) e ((Lib.bytesCells w e s).size,(Lib.bytesCells w e s).size+1)):=by
 have d:=Lib.bytesWorld_at_new w e s;have f:=Lib.bytesWorld_size w e s;have c:(Lib.bytesWorld w e s).heap=w.heap.push (.cells (Lib.bytesCells w e s) e ((Lib.bytesCells w e s).size,(Lib.bytesCells w e s).size+1)):=by
  apply SU;intro j;by_cases b:j=w.heap.size
  ·subst b;rw [d];simp
  ·by_cases a:j<w.heap.size
   ·rw [Lib.bytesWorld_at_old w e s j a,Array.getElem?_push,ab b]
   ·rw [yj (by omega),yj (by simp;omega)]
 show ({ (Lib.bytesWorld w e s) with heap:=(Lib.bytesWorld w e s).heap }:World)=_;rw [c];rfl
theorem su:∀(l:List Int),l.flatMap (vals [.i .u8])=l.map (Value.int .u8)
 | []=>rfl
 | x::l=>by
  have:=su l;simp only [qx,ga,vals,Lf.val] at this ⊢;rw [this];rfl
theorem sT {w:World} {r cp:Nat} {l:List Int} {c:Array Value} {e:TypeId} {fr:Nat×Nat} {m:Nat} (h:w.heap[r]?=some (.cells c e fr)) (k:m<=c.size)
  {o:Nat} (p:(c.toList.drop o).take (l.length*([Lf.i .u8]:List Lf).length)=l.flatMap (vals [.i .u8])) {j n:Nat} (s:j+n<=l.length):
  (Conv.bytesToString (.slice (some ⟨r,o+j,none⟩) n cp)).run P w=.ok (.string ⟨(iP ((l.drop j).take n)).toArray⟩) w:=by
 have hl':(c.toList.drop o).take l.length=l.map (Value.int .u8):=by rw [<-su];simpa using p
 have a:(((l.drop j).take n).map (Value.int .u8)).length=n:=by simp;omega
 have hc:=yv (P:=P) w ⟨r,o+j,none⟩ (((l.drop j).take n).map (Value.int .u8)) (λi v b=>by
  have d:i<n:=by
   rcases aG i n with g | g
   ·exact g
   ·rw [ii (by omega)] at b;cases b
  rw [ny,bu h];rw [m8,qC d,mZ] at b;have f:=bY (λq:List Value=>q[j+i]?) hl';simp only [qC (show j+i<l.length by omega),m8,mZ] at f;rw [b] at f;simpa [iO] using f)
 rw [a] at hc;rw [run_bytesToString w _ n cp _ hc,xp]
theorem sL {w:World} (c:Option Addr):(Conv.bytesToString (.slice c 0 0)).run P w=.ok (.string ⟨#[]⟩) w:=by
 cases c with
 | none=>rfl
 | some a=>
  have b:=yv (P:=P) w a ([].map (Value.int .u8)) (λj v d=>by simp at d);exact run_bytesToString (P:=P) w a 0 0 [] b
theorem FR {B d:TypeId} {x:Operand} (A:o.op=.convert B d x) (hT:TR ι s.T a.tmps) (J:WR ι s.H s.nb w) (h:effK P (opd s.T) s.H f (.convert B d x) c=some z):
  ∃e,c e=some z/\gO P ι f o a w e:=by
 simp only [effK] at h;obtain ⟨v,hx,q⟩:=av h;clear h;have g:=bv hT hx;clear hx;split at q
 case h_2=>cases q
 rename_i C hs;split at q
 ·rename_i k t;cases v<;>simp only [reduceCtorEq] at q;rename_i k' n;simp only [VR] at g;refine ⟨_,q,.val (x:=.int k (k.wrap n)) ?_ (by simp [VR])⟩;simp only [execOp,A,g,aw,convert,aV hs,aV t,ay];cases C<;>rfl
 ·rename_i t;cases v<;>simp only [reduceCtorEq] at q
  ·rename_i b;simp only [VR] at g;cases C<;>try (simp only [reduceCtorEq] at q;done)
   rename_i e;simp only at q;split at q
   case h_2=>cases q
   rename_i u;split at q
   case h_2=>cases q
   rename_i l E;refine ⟨_,q,.val (x:=.string ⟨(iP l).toArray⟩) ?_ (by simp [VR])⟩;rcases jH J E with ⟨q,cs,Y,fr,i,S,W,q5,M,R,_⟩ | ⟨i,rfl⟩
   ·rcases g with ⟨Z,p,y⟩ | ⟨p,_⟩
    ·rw [p] at i;cases i;simp only [execOp,A,y,aw,run_convert_bytes_string w B d e _ _ _ hs u t];rw [<-W];have:=sT (P:=P) (cp:=q.k) S M R (j:=0) (n:=l.length) (by omega);simp only [cf,md,cS] at this;rw [this];rfl
    ·rw [p] at i;cases i
   ·rcases g with ⟨q,p,y⟩ | ⟨p,G,y⟩
    ·rw [p] at i;cases i
    ·simp only [execOp,A,y,aw,run_convert_bytes_string w B d e G 0 0 hs u t,sL];rfl
  ·rename_i zz b j n _;simp only [VR] at g;cases C<;>try (simp only [reduceCtorEq] at q;done)
   rename_i e;simp only at q;split at q
   case h_2=>cases q
   rename_i u;split at q
   case h_2=>cases q
   rename_i l E;split at q
   case h_2=>cases q
   rename_i Q;have Q:=bK Q;subst Q;obtain ⟨hc,q⟩:=dY q;have D:=aI hc;refine ⟨_,q,.val (x:=.string ⟨(iP ((l.drop j).take n)).toArray⟩) ?_ (by simp [VR])⟩;rcases g with ⟨V,cp,off,p,⟨O,_⟩,U,y⟩ | ⟨p,⟨rfl,_⟩,G,y⟩
   ·rcases jH J E with ⟨Z,cs,Y,fr,i,S,W,q5,M,R,_⟩ | ⟨i,rfl⟩
    ·rw [p] at i;cases i;simp only [execOp,A,y,aw,run_convert_bytes_string w B d e _ _ _ hs u t];by_cases hn:0<n
     ·rw [U hn,rN];rw [sT (P:=P) (cp:=cp) S M R D];rfl
     ·have K:n=0:=by omega
      subst K;have N:=yv (P:=P) w ⟨V.r,off,none⟩ ([].map (Value.int .u8)) (λj v X=>by simp at X);have h0:=run_bytesToString (P:=P) w ⟨V.r,off,none⟩ 0 cp [] N;rw [h0];simp [iP];rfl
    ·rw [p] at i;cases i
   ·simp only [execOp,A,y,aw,run_convert_bytes_string w B d e G 0 0 hs u t,sL];simp [iP]
  ·rename_i k' n;simp only [VR] at g;cases C<;>simp only [reduceCtorEq] at q;refine ⟨_,q,.val (x:=.string (Utf8.encode n)) ?_ ?_⟩
   ·simp only [execOp,A,g,aw,convert,aV hs,aV t,ay,Conv.intToString,aD]
   ·simp [VR]
  ·rename_i l;simp only [VR] at g;cases C<;>simp only [reduceCtorEq] at q;refine ⟨_,q,.val (x:=.string ⟨l.toArray⟩) ?_ (by simp [VR])⟩;simp only [execOp,A,g,aw,convert,aV hs,aV t,ay,aD]
  ·simp only [VR] at g;cases C<;>try (simp only [reduceCtorEq] at q;done)
   rename_i e;simp only at q;split at q
   ·rename_i u;refine ⟨_,q,.val (x:=.string .empty) ?_ (by simp only [VR];rfl)⟩;simp only [execOp,A,g,aw,run_convert_bytes_string w B d e none 0 0 hs u t];rfl
   ·cases q
  ·rename_i b off m cap;simp only [VR] at g;obtain ⟨r,cp,p,_,_,y⟩:=g;cases C<;>try (simp only [reduceCtorEq] at q;done)
   rename_i e;simp only at q;split at q
   ·rename_i u;split at q
    ·rename_i qn l E;obtain ⟨hc,q⟩:=dY q;have D:=aI hc;obtain ⟨r',Y,fr,O,U,g3,_⟩:=vQ J E;rw [p] at O;cases O;refine ⟨_,q,.val (x:=.string ⟨(iP ((l.drop off).take m)).toArray⟩) ?_ (by simp [VR])⟩;simp only [execOp,A,y,aw,run_convert_bytes_string w B d e _ _ _ hs u t,yY U g3 D,ay,aD]
    ·cases q
   ·cases q
 ·rename_i e t;split at q
  case h_2=>cases q
  rename_i u;cases v<;>try (simp only [reduceCtorEq] at q;done)
  rename_i l;simp only [VR] at g;cases C<;>simp only [reduceCtorEq] at q;refine ⟨_,q,.mkR (d:=w.drawn+1) (q:=(Rf.of w.heap.size (l.length) (grownCap w l.length 0 e))) (x:=.slice (some ⟨w.heap.size,0,none⟩) l.length (grownCap w l.length 0 e))
   (ob:=.cells (Lib.bytesCells w e ⟨l.toArray⟩) e ((Lib.bytesCells w e ⟨l.toArray⟩).size,(Lib.bytesCells w e ⟨l.toArray⟩).size+1)) ?_ rfl rfl ?_ ?_⟩
  ·simp only [execOp,A,g,aw,Lib.run_convert_string_bytes w B d e ⟨l.toArray⟩ hs t u,ay,aD,Ak];rfl
  ·have F:l.length<=grownCap w l.length 0 e:=by simp only [grownCap,Question.cut];omega
   have L:((ByteArray.mk l.toArray).data.map λb=>Value.int .u8 b.toNat).size=l.length:=by simp
   refine ⟨_,e,_,rfl,by simp,F,?_,?_,?_⟩
   ·simp only [Lib.bytesCells,Array.size_append,L,Array.size_replicate,az,aX];have:(ByteArray.mk l.toArray).size=l.length:=rfl;rw [this];omega
   ·simp only [Lib.bytesCells,yu,u0,az,aX,de,rN,cf];rw [vq (by simp),ji (by simp)];rw [su,Array.toList_map,tz];rfl
   ·refine .inr λj X I=>?_;exact absurd I.1 (by simp only;omega)
  ·simp only [VR];exact .inl ⟨_,dH _ _ _,rfl⟩
 ·cases q
theorem OY {U:Call} (R:o.op=.call U) (Y:TR ι s.T a.tmps) (Z:WR ι s.H s.nb w) (h:effK P (opd s.T) s.H f (.call U) c=some z):
  ∃e,c e=some z/\gO P ι f o a w e:=by
 obtain ⟨Q,args,D⟩:=U;simp only [effK] at h;split at h
 case h_2=>cases h
 rename_i b;obtain ⟨l,W,q⟩:=av h;clear h;have g:=wF Y W;have K:(args.map a.eval).toList=args.toList.map a.eval:=by simp
 rw [<-K] at g;generalize hA:args.map a.eval=A at g;have v:∃S,∀w,((do let d <-resolve a.eval ⟨.builtin b,args,D⟩ o.type;invoke d.target d.args):Sem Next).run P w=(builtin b D o.type S A).run P w:=by
  refine ⟨args.map fun | .const _=>true | _=>false,λw=>?_⟩;simp only [resolve,hA,aw,aD,ay,invoke];rfl
 obtain ⟨S,v⟩:=v;have one:∀{X:Value},A.toList=[X]->A[0]?=some X:=by
  intro X p;have:A=#[X]:=by apply lG;simpa using p
  simp [this]
 have E:∀{t:TypeId} {r:List TypeId},D.toList=t::r->D[0]?=some t:=by
  intro t r u;rw [<-qG,u];rfl
 have j:∀{n:Int} {rd:List Nat},b=.len->(∀w,(Builtin.len_ D o.type A).run P w=.ok (goInt n) w)->c { val:=some (.i .i64 n),rd:=rd }=some z->∃e,c e=some z/\gO P ι f o a w e:=by
  intro n rd N F hc;subst N;refine ⟨_,hc,.val (x:=.int .i64 n) ?_ (by simp [VR])⟩;simp only [execOp,R];rw [v w];simp only [builtin,aw,F,ay,aD,goInt]
 have C:∀{n:Int} {rd:List Nat},b=.cap->(∀w,(Builtin.cap_ D o.type A).run P w=.ok (goInt n) w)->c { val:=some (.i .i64 n),rd:=rd }=some z->∃e,c e=some z/\gO P ι f o a w e:=by
  intro n rd N F hc;subst N;refine ⟨_,hc,.val (x:=.int .i64 n) ?_ (by simp [VR])⟩;simp only [execOp,R];rw [v w];simp only [builtin,aw,F,ay,aD,goInt]
 split at q
 ·split at q
  ·rename_i sl;simp only [VRs,VR] at g;obtain ⟨_,_,p,rfl,rfl⟩:=g;split at q
   ·rename_i t r u;split at q
    ·rename_i B;refine j rfl (λw=>?_) q;simp only [Builtin.len_,E u,one p,aw,aV B,ay,aD];rfl
    ·cases q
   ·cases q
  ·rename_i O oo n cp;simp only [VRs,VR] at g;obtain ⟨_,_,p,⟨r,cap,_,_,_,rfl⟩,rfl⟩:=g;split at q
   ·rename_i t r u;split at q
    ·rename_i B;refine j rfl (λw=>?_) q;simp only [Builtin.len_,E u,one p,aw,aV B,ay,aD]
    ·cases q
   ·cases q
  ·simp only [VRs,VR] at g;obtain ⟨_,_,p,rfl,rfl⟩:=g;split at q
   ·rename_i t r u;split at q
    ·rename_i B;refine j rfl (λw=>?_) q;simp only [Builtin.len_,E u,one p,aw,aV B,ay,aD];rfl
    ·cases q
   ·cases q
  ·rename_i O;simp only [VRs,VR] at g;obtain ⟨_,_,p,M,rfl⟩:=g;split at q
   ·rename_i t r u;split at q
    ·rename_i B;split at q
     ·rename_i tr l N;refine j (rd:=[O]) rfl (λw=>?_) q;rcases jH Z N with ⟨q,S,e',fr,I,q2,q4,q5,q6,q7,_⟩ | ⟨I,rfl⟩
      ·rcases M with ⟨q',G,rfl⟩ | ⟨G,_⟩
       ·rw [G] at I;cases I;simp only [Builtin.len_,E u,one p,aw,aV B,ay,aD,q4]
       ·rw [G] at I;cases I
      ·rcases M with ⟨q,G,_⟩ | ⟨G,V,rfl⟩
       ·rw [G] at I;cases I
       ·simp only [Builtin.len_,E u,one p,aw,aV B,ay,aD];rfl
     ·cases q
    ·cases q
   ·cases q
  ·rename_i zz O jj n _;simp only [VRs,VR] at g;obtain ⟨_,_,p,M,rfl⟩:=g;split at q
   ·rename_i t r u;split at q
    ·rename_i B;refine j rfl (λw=>?_) q;rcases M with ⟨q,cp,off,G,_,_,rfl⟩ | ⟨_,⟨rfl,_⟩,V,rfl⟩
     ·simp only [Builtin.len_,E u,one p,aw,aV B,ay,aD]
     ·simp only [Builtin.len_,E u,one p,aw,aV B,ay,aD]
    ·cases q
   ·cases q
  ·simp only [VRs] at g;obtain ⟨X,_,p,_,rfl⟩:=g;split at q
   ·rename_i t r u;split at q
    ·rename_i B;refine j rfl (λw=>?_) q;simp only [Builtin.len_,E u,one p,aw,aV B,ay,aD]
    ·cases q
   ·cases q
  ·cases q
 ·split at q
  ·rename_i zz O jj nn m;simp only [VRs,VR] at g;obtain ⟨_,_,p,M,rfl⟩:=g;split at q
   ·rename_i t r u;split at q
    ·rename_i B;refine C rfl (λw=>?_) q;rcases M with ⟨q,cp,off,G,⟨_,hc⟩,_,rfl⟩ | ⟨_,⟨_,hc⟩,V,rfl⟩
     ·have:=hc m rfl;subst this;simp only [Builtin.cap_,E u,one p,aw,aV B,ay,aD]
     ·have:=hc m rfl;subst this;simp only [Builtin.cap_,E u,one p,aw,aV B,ay,aD]
    ·cases q
   ·cases q
  ·rename_i O oo nn m;simp only [VRs,VR] at g;obtain ⟨_,_,p,⟨qq,cp,G,hc,_,rfl⟩,rfl⟩:=g;split at q
   ·rename_i t r u;split at q
    ·rename_i B;refine C rfl (λw=>?_) q;have:=hc m rfl;subst this;simp only [Builtin.cap_,E u,one p,aw,aV B,ay,aD]
    ·cases q
   ·cases q
  ·simp only [VRs,VR] at g;obtain ⟨_,_,p,rfl,rfl⟩:=g;split at q
   ·rename_i t r u;split at q
    ·rename_i B;refine C rfl (λw=>?_) q;simp only [Builtin.cap_,E u,one p,aw,aV B,ay,aD];rfl
    ·cases q
   ·cases q
  ·cases q
 ·split at q
  ·rename_i k x k' y;split at q
   ·rename_i L;have L:=lu L;subst L;simp only [VRs,VR] at g;obtain ⟨_,_,p,rfl,_,_,rfl,rfl,rfl⟩:=g;refine ⟨_,q,.val (x:=.int k (cond (decide (y<x)) y x)) ?_ (by simp [VR])⟩;simp only [execOp,R];rw [v w];simp only [builtin,aw,Builtin.min_,p,List.foldlM,Builtin.min2,aD,ay];by_cases J:y<x<;>simp [J]
   ·cases q
  ·cases q
 ·split at q
  ·rename_i k x k' y;split at q
   ·rename_i L;have L:=lu L;subst L;simp only [VRs,VR] at g;obtain ⟨_,_,p,rfl,_,_,rfl,rfl,rfl⟩:=g;refine ⟨_,q,.val (x:=.int k (cond (decide (y>x)) y x)) ?_ (by simp [VR])⟩;simp only [execOp,R];rw [v w];simp only [builtin,aw,Builtin.max_,p,List.foldlM,Builtin.max2,aD,ay];by_cases J:y>x<;>simp [J]
   ·cases q
  ·cases q
 ·cases q
theorem Ve {op:UnOp} {x:V} {X:Value} {c:V->Option α} (h:unK op x c=some z) (hx:VR ι x X) (w:World):
  ∃v R,c v=some z/\VR ι v R/\(Op.unary op X).run P w=.ok R w:=by
 unfold unK at h;split at h
 ·simp only [VR] at hx;subst hx;exact ⟨_,_,h,rfl,rfl⟩
 ·simp only [VR] at hx;subst hx;exact ⟨_,_,h,rfl,rfl⟩
 ·cases h
theorem OS {x:Operand} {j:Bool} (t:o.op=.next x j) (C:TR ι s.T a.tmps) (D:WR ι s.H s.nb w) (h:effK P (opd s.T) s.H f (.next x j) c=some z):
  ∃e,c e=some z/\gO P ι f o a w e:=by
 simp only [effK] at h;split at h
 case h_2=>cases h
 rename_i b hx;have q:=bv C hx;simp only [VR] at q;obtain ⟨r,m,p⟩:=q;split at h
 case h_2=>cases h
 rename_i l pos A;obtain ⟨F,ob,y,v,n⟩:=(D.blk b _ A (by simp)).real (by simp);rw [m] at y;cases y;simp only [BR] at n;subst n;have i:(ByteArray.mk l.toArray).size=l.length:=rfl;have d:(getObj r.r).run P w=.ok (.stringIter ⟨l.toArray⟩ pos) w:=by simp [getObj,Sem.run,v]
 cases hc:Nat.blt pos l.length with
 | false=>
  rw [hc] at h;have E:¬pos<l.length:=λg=>by rw [show Nat.blt pos l.length=true from di g] at hc;cases hc
  refine ⟨_,h,.val (x:=.tuple #[.bool false]) ?_ (by simp [VR,VRs])⟩;simp only [execOp,t,p,Instr.next,aw,d,ay,i,E,aB,aD]
 | true=>
  rw [hc] at h;have g:pos<l.length:=aI hc;refine ⟨_,h,?_⟩;unfold gO;have k:∀ob,(Go.setObj r.r ob).run P w=.ok () (setObj w r.r ob):=by
   intro ob;simp [Go.setObj,Sem.run,v,setObj]
  refine ⟨r,m,λ_=>⟨.stringIter ⟨l.toArray⟩ (pos+(dec l pos).2),.value (.tuple #[.bool true,.int .i64 pos,.int .i32 (dec l pos).1]),?_,rfl,.value _ λu B=>by cases B;simp [VR,VRs]⟩⟩;simp only [execOp,t,p,Instr.next,aw,d,ay,i,g,aJ,k,aD,dec,goInt]
theorem GA {t:List Lf} (x:den t):∀n,(List.replicate n x).flatMap (vals t)=(List.replicate n (vals t x)).flatten
 | 0=>rfl
 | n+1=>by simp [sY,qx,GA x n]
theorem K7 {l:List Value}:∀n:Nat,(List.replicate n l).flatten.length=n*l.length
 | 0=>by simp
 | n+1=>by rw [sY,List.flatten_cons,aU,K7 n,hO];omega
theorem J8 {l:List Value}:∀(n j:Nat),j<n*l.length->(List.replicate n l).flatten[j]?=l[j%l.length]?
 | 0,j,h=>by simp at h
 | n+1,j,h=>by
  simp only [sY,List.flatten_cons];by_cases a:j<l.length
  ·rw [oc a,qR a]
  ·rw [qA (by omega),J8 n _ (by rw [hO] at h;omega),<-Nat.mod_eq_sub_mod (by omega)]
theorem B5 {t:TypeId} {x y:Operand} (X:o.op=.makeSlice t x y) (O:TR ι s.T a.tmps) (h:effK P (opd s.T) s.H f (.makeSlice t x y) c=some z):
  ∃e,c e=some z/\gO P ι f o a w e:=by
 simp only [effK] at h;obtain ⟨u,D,M⟩:=av h;obtain ⟨v,E,b⟩:=av M;clear h M;have D:=bv O D;have E:=bv O E;split at b
 case h_2=>cases b
 rename_i e W;split at b
 case h_2=>cases b
 rename_i k1 n k2 m _ _;simp only [VR] at D E;obtain ⟨zv,F,b⟩:=av b;split at b
 case h_2=>cases b
 rename_i tr p _ l;split at b
 case h_2=>cases b
 rename_i N;simp only [aA,ju] at N;obtain ⟨L,e2,K,J⟩:=N;have K:=aI K;have J:=aI J;obtain ⟨z',I,b⟩:=av b;obtain ⟨hc,b⟩:=dY b;simp only [aA,ck] at hc;obtain ⟨Y,Z,c2⟩:=hc;obtain ⟨zc,i,Q,h2,S,_⟩:=vP ι F;rw [l] at Q;cases Q;have g:=nI S;rw [wm I] at g;have g:=(nV ι tr z' _).1 g;have C:p.size=P.cellsOf e:=by unfold Program.cellsOf;rw [l];rfl
 have V:m=(m.toNat:Int):=by omega
 have r:=run_make (P:=P) w t e p zc W l h2 k1 k2 n m Y Z (by
  rw [V,<-HF];have:p.bytes*m.toNat<=1048576*67108864:=fS9 J (by omega);omega) (by omega)
 refine ⟨_,b,.mkR (d:=w.drawn) (q:=(Rf.of w.heap.size (n.toNat) (m.toNat))) (x:=.slice (some ⟨w.heap.size,0,none⟩) n.toNat m.toNat) (ob:=.cells (madeCells zc.cells (m.toNat*p.size)) e) ?_ rfl rfl ?_ ?_⟩
 ·simp only [execOp,X,D,E,aw,r,ay,aD]
 ·have G:(madeCells zc.cells (m.toNat*p.size)).size=m.toNat*p.size:=size_madeCells _ _;refine ⟨_,e,_,rfl,by simp,by simp only;omega,by rw [G,C,L];simp,?_,.inr (tH _)⟩;simp only [cf];rw [GA,List.length_replicate,<-g];apply Ee;intro j;have k:zc.cells.toList.length=tr.length:=by rw [g,kj]
  have A:zc.cells.size=tr.length:=by simpa using k
  have U:n.toNat*tr.length<=m.toNat*tr.length:=oz _ (by omega);by_cases R:j<n.toNat*tr.length
  ·rw [qC R,J8 n.toNat j (by rw [k];exact R),k];have B:j%tr.length<zc.cells.size:=by rw [A];exact BN _ (by omega)
   simp only [madeCells,C,<-L,A];rw [qG,Array.getElem?_map,Array.getElem?_range];simp [show j<m.toNat*tr.length by omega,B]
  ·rw [ii (by rw [db];omega),ii (by rw [K7,k];omega)]
 ·simp only [VR];exact .inl ⟨_,dH _ _ _,rfl⟩
theorem Wi {op:BinOp} {t:TypeId} {x y:Operand} {u v:V} {r:Bool} {X Y:Value} (h:niK P op t x y u v=some r) (hx:VR ι u X) (hy:VR ι v Y) (w:World):
  (eqGuard op t x y X Y).run P w=.ok () w/\(binOp op t X Y).run P w=.ok (.bool r) w:=by
 unfold niK at h;split at h
 case h_2=>cases h
 simp only [VR] at hx hy;subst hx hy;split at h
 case h_2=>cases h
 rename_i hc;split at h
 case h_2=>cases h
 rename_i f d;have c:∀o:BinOp,o=.eql\/o=.neq->(eqGuard o t x y .nilIface .nilIface).run P w=.ok () w:=by
  intro o e;have a:(∃v,x=.const v)\/∃v,y=.const v:=by
   rw [iY] at hc;refine hc.imp (λh=>?_) (λh=>?_)
   ·cases x<;>simp_all [GR]
   ·cases y<;>simp_all [GR]
  rcases a with ⟨v,rfl⟩ | ⟨v,rfl⟩<;>rcases e with rfl | rfl<;>simp [eqGuard]
 have b:(Op.equal t .nilIface .nilIface).run P w=.ok true w:=by rw [eY,Op.equalIn];simp [aV d]
 split at h
 ·simp only [au] at h;subst h;exact ⟨c _ (.inl rfl),by simp [binOp,b]⟩
 ·simp only [au] at h;subst h;exact ⟨c _ (.inr rfl),by simp [binOp,b]⟩
 ·cases h
theorem kX {t e:TypeId} {f:TypeInfo} (j:P.underlying t=some (.slice e)) (hi:P.info? e=some f) {n cp:Nat} {a:Option Addr} {k k':IntKind} {h m:Int} {H M:Nat} (g:bx n m=some M) (c:bx M h=some H) (p:n<=cp) (w:World):
  (Instr.sliceAt t (.slice a n cp) none (some (.int k h)) (some (.int k' m))).run P w=.ok (.slice a H M) w:=by
 obtain ⟨m0,m1,rfl⟩:=lZ g;obtain ⟨l,i,rfl⟩:=lZ c;have d:=run_sliceBound (P:=P) w k' m cp .slice3Acap m0 (by omega);have b:=run_sliceBound (P:=P) w k h m.toNat .slice3B l i;simp only [Instr.sliceAt,Instr.slice,aw,aV j,ay,Instr.sliceBounds,aJ,d,b,aD,gq hi,qm,Ag];split
 ·rfl
 ·cases a with
  | none=>rfl
  | some q=>obtain ⟨r,o,x⟩:=q;simp [Addr.add]
theorem IB {t:TypeId} {x mx:Operand} {lo hi:Option Operand} (I:o.op=.slice t x lo hi (some mx)) (L:TR ι s.T a.tmps) (X:WR ι s.H s.nb w) (h:effK P (opd s.T) s.H f (.slice t x lo hi (some mx)) c=some z):
  ∃e,c e=some z/\gO P ι f o a w e:=by
 simp only [effK,uG] at h;split at h
 case h_2=>cases h
 rename_i hh;obtain ⟨v,hx,d⟩:=av h;clear h;have C:=bv L hx;clear hx;split at d
 case h_2=>cases d
 rename_i k1 Z k2 m1 K O;have E:=bv L K;have D:=bv L O;simp only [VR] at E D;split at d
 case h_2=>cases d
 rename_i e G;split at d
 case h_2=>cases d
 rename_i hp;obtain ⟨ti,i⟩:=ca hp;split at d
 ·rename_i b;split at d
  case h_2=>cases d
  rename_i tr l W;split at d
  case h_2=>cases d
  obtain ⟨M,p,J⟩:=av d;obtain ⟨H,u,B⟩:=av J;obtain ⟨m0,m2,U⟩:=lZ p;obtain ⟨S,V,Q⟩:=lZ u;simp only [VR] at C;rcases jH X W with ⟨q,cs,e',fr,A,r2,r4,r5,_,_,_⟩ | ⟨A,rfl⟩
  ·rcases C with ⟨q',g,y⟩ | ⟨g,_⟩
   ·rw [g] at A;cases A;refine ⟨_,B,.val (x:=.slice (some ⟨q.r,q.o,none⟩) H M) ?_ ?_⟩
    ·simp only [execOp,I,y,E,D,aw,jh,fc];rw [<-r4,kX G i p u (by omega) w];rfl
    ·simp only [VR];exact .inl ⟨q,_,_,g,⟨by omega,rQ⟩,λ_=>by omega,rfl⟩
   ·rw [g] at A;cases A
  ·rcases C with ⟨q,g,y⟩ | ⟨g,F,y⟩
   ·rw [g] at A;cases A
   ·simp only [aX] at m2;have m:M=0:=by omega
    have k:H=0:=by omega
    subst m k;refine ⟨_,B,.val (x:=.slice F 0 0) ?_ (by unfold VR;exact .inr ⟨g,⟨rfl,rQ⟩,F,rfl⟩)⟩;simp only [execOp,I,y,E,D,aw,jh,fc];rw [kX G i (n:=0) (M:=0) p u (by omega) w];rfl
 ·rename_i zz b j n _;obtain ⟨M,p,J⟩:=av d;obtain ⟨H,u,B⟩:=av J;obtain ⟨m0,m2,U⟩:=lZ p;obtain ⟨S,V,Q⟩:=lZ u;simp only [VR] at C;rcases C with ⟨q,cp,off,g,⟨N,_⟩,Y,y⟩ | ⟨g,⟨N,_⟩,F,y⟩
  ·refine ⟨_,B,.val (x:=.slice (some ⟨q.r,off,none⟩) H M) ?_ ?_⟩
   ·simp only [execOp,I,y,E,D,aw,jh,fc];rw [kX G i p u N w];rfl
   ·simp only [VR];exact .inl ⟨q,_,_,g,⟨by omega,rQ⟩,λR=>Y (by omega),rfl⟩
  ·subst N;have m:M=0:=by omega
   have k:H=0:=by omega
   subst m k;refine ⟨_,B,.val (x:=.slice F 0 0) ?_ (by unfold VR;exact .inr ⟨g,⟨rfl,rQ⟩,F,rfl⟩)⟩;simp only [execOp,I,y,E,D,aw,jh,fc];rw [kX G i (n:=0) (M:=0) p u (by omega) w];rfl
 ·obtain ⟨M,p,J⟩:=av d;obtain ⟨H,u,B⟩:=av J;obtain ⟨m0,m2,U⟩:=lZ p;obtain ⟨S,V,Q⟩:=lZ u;simp only [VR] at C;have m:M=0:=by omega
  have k:H=0:=by omega
  subst m k;refine ⟨_,B,.val (x:=.slice none 0 0) ?_ (by simp only [VR])⟩;simp only [execOp,I,C,E,D,aw,jh,fc];rw [kX G i (n:=0) (M:=0) p u (by omega) w];rfl
 ·cases d
theorem WF {op:BinOp} {t:TypeId} {u v:V} {r:Bool} {n:Nat} {rd:List Nat} {X Y:Value} {H:List (Nat×Blk)} {nb:Nat} (h:slN P op t u v=some r) (a:slL H u=some (n,rd)) (B:0<n) (s:WR ι H nb w) (hx:VR ι u X) (hy:VR ι v Y) (p q:Operand):
  (eqGuard op t p q X Y).run P w=.ok () w/\(binOp op t X Y).run P w=.ok (.bool r) w:=by
 unfold slN at h;split at h
 case h_2=>cases h
 simp only [VR] at hy;subst hy;have b:∀(A:Addr) (n c:Nat),X=.slice (some A) n c->P.underlying t=(P.underlying t)->∀e,P.underlying t=some (.slice e)->
   ((eqGuard .eql t p q X (.slice none 0 0)).run P w=.ok () w/\(binOp .eql t X (.slice none 0 0)).run P w=.ok (.bool false) w)/\
   ((eqGuard .neq t p q X (.slice none 0 0)).run P w=.ok () w/\(binOp .neq t X (.slice none 0 0)).run P w=.ok (.bool (!false)) w):=by
  rintro A n c rfl _ e k;exact o5 p q (.inl (by simp)) (.inl (by simp)) (by simp) (by rw [eY,Op.equalIn];simp [aV k])
 have d:∀(A:Addr) (n c:Nat),X=.slice (some A) n c->slT P op t=some r->(eqGuard op t p q X (.slice none 0 0)).run P w=.ok () w/\(binOp op t X (.slice none 0 0)).run P w=.ok (.bool r) w:=by
  intro A n c y h;unfold slT at h;split at h
  case h_2=>cases h
  rename_i e k;obtain ⟨m1,m2⟩:=b A n c y rfl e k;split at h
  ·simp only [au] at h;subst h;exact m1
  ·simp only [au] at h;subst h;exact m2
  ·cases h
 split at h
 ·rename_i c;simp only [slL] at a;split at a
  case h_2=>cases a
  rename_i tr l o;simp only [au,aY] at a;obtain ⟨rfl,_⟩:=a;simp only [VR] at hx;rcases jH s o with ⟨E,G,L,fr,i,J,r4,_⟩ | ⟨i,rfl⟩
  ·rcases hx with ⟨C,f,g⟩ | ⟨f,_⟩
   ·exact d _ _ _ g h
   ·rw [f] at i;cases i
  ·simp at B
 ·rename_i z c j m K;simp only [slL,au,aY] at a;obtain ⟨rfl,_⟩:=a;simp only [VR] at hx;rcases hx with ⟨C,D,F,f,g,I,x⟩ | ⟨f,⟨g,_⟩,_⟩
  ·exact d _ _ _ x h
  ·omega
 ·cases h
theorem EY {t:TypeId} {x:Option Operand} (b:o.op=.makeMap t x) (h:effK P (opd s.T) s.H f (.makeMap t x) c=some z):∃e,c e=some z/\gO P ι f o a w e:=by
 simp only [effK] at h;split at h
 case h_2=>cases h
 split at h
 case h_2=>cases h
 refine ⟨_,h,.mk (x:=.map (some w.heap.size)) (ob:=.map #[] 0) ?_ ⟨#[],0,rfl,rfl⟩ (by simp only [VR];exact ⟨_,dH _ _ _,rfl⟩)⟩;simp only [execOp,b,jh,aw];rfl
theorem Q9 {H:List (Nat×Blk)} {nb b:Nat} {w:World} (h:WR ι H nb w) {k:IntKind} {l:List (Int×Nat)} (i:look H b=some (.mp k l)):
  ∃q c a,ι b=some (some q)/\w.heap[q.r]?=some (.map c a)/\c.toList.map (λe=>(e.key,e.val))=l.map λp=>(Value.int k p.1,fnV p.2 #[]):=by
 obtain ⟨q,o,g,d,c,a,rfl,f⟩:=(h.blk b _ i (by simp)).real (by simp);exact ⟨q,c,a,g,d,f⟩
theorem LQ {α:Type} {k:IntKind} {n:Int} {c:Nat->Option α} {z:α}:∀(d:List MapEntry) (l:List (Int×Nat)) (i:Nat),d.map (λe=>(e.key,e.val))=l.map (λp=>(Value.int k p.1,fnV p.2 #[]))->mapK l n c=some z->
  ∃g j,c g=some z/\Instr.findNow (.int k) (.int k n) d i=some (some (j,fnV g #[]))
 | [],[],_,_,h=>by cases h
 | [],_::_,_,a,_=>by simp at a
 | _::_,[],_,a,_=>by simp at a
 | e::d,(m,g)::l,i,a,h=>by
  simp only [ga,List.cons.injEq,aY] at a;obtain ⟨⟨f,r⟩,s⟩:=a;simp only [mapK] at h;cases b:(n==m) with
  | true=>
   rw [b] at h;exact ⟨g,i,h,by simp only [Instr.findNow,f,Instr.sameNow,aJ,b,r]⟩
  | false=>
   rw [b] at h;obtain ⟨q,j,o,t⟩:=LQ d l (i+1) s h;exact ⟨q,j,o,by simp only [Instr.findNow,f,Instr.sameNow,aJ,b];exact t⟩
theorem Jq {t:TypeId} {m x:Operand} {ok:Bool} (M:o.op=.lookup t m x ok) (r:TR ι s.T a.tmps) (G:WR ι s.H s.nb w) (h:effK P (opd s.T) s.H f (.lookup t m x ok) c=some z):
  ∃e,c e=some z/\gO P ι f o a w e:=by
 simp only [effK] at h;split at h
 case h_2=>cases h
 rename_i b E;split at h
 case h_2=>cases h
 rename_i k n hx;split at h
 case h_2=>cases h
 rename_i kt R L;split at h
 case h_2=>cases h
 rename_i k2 v;split at h
 case h_2=>cases h
 rename_i k1 l C;split at h
 case h_2=>cases h
 rename_i d;simp only [aA] at d;have B:=lu d.1;have A:=lu d.2;subst B A;have u:=bv r E;have y:=bv r hx;simp only [VR] at u y;obtain ⟨q,K,N⟩:=u;obtain ⟨Q,I,i,p,O,D⟩:=Q9 G C;rw [K] at p;cases p;obtain ⟨g,j,F,J⟩:=LQ I.toList l 0 D h;refine ⟨_,F,.val (x:=fnV g #[]) ?_ (by simp only [VR];exact ⟨#[],rfl,by simp [VRs]⟩)⟩;simp only [execOp,M,N,y,aw,Instr.lookup,aV L,ay,MapKept.run_getObj_map O,aD,
  MapKept.run_checkKey (k:=.int k2 n) v (by simp [MapKept.IsKey]),MapKept.run_findKey v J]
 rfl
theorem IY {t:TypeId} {m x y:Operand} (ho:o.op=.insert t m x y) (F:TR ι s.T a.tmps) (Y:WR ι s.H s.nb w) (h:effK P (opd s.T) s.H f (.insert t m x y) c=some z):
  ∃e,c e=some z/\gO P ι f o a w e:=by
 simp only [effK] at h;split at h
 case h_2=>cases h
 rename_i b X;split at h
 case h_2=>cases h
 rename_i k n g hx hy;split at h
 case h_2=>cases h
 rename_i kt et hd;split at h
 case h_2=>cases h
 rename_i k2 Q;split at h
 case h_2=>cases h
 rename_i k1 l W;split at h
 case h_2=>cases h
 rename_i A;simp only [aA] at A;obtain ⟨G,I,C⟩:=A;have V:=lu G;have U:=lu I;subst V U;have O:=bv F X;have R:=bv F hx;have K:=bv F hy;simp only [VR] at O R K;obtain ⟨q,N,h2⟩:=O;obtain ⟨cs,Z,M⟩:=K;simp only [VRs] at M;have E:cs=#[]:=by
  apply lG;simpa using M
 subst E;obtain ⟨q',D,d,J,S,L⟩:=Q9 Y W;rw [N] at J;cases J;have B:∀e∈D.toList,∃p∈l,e.key=.int k2 p.1:=by
  intro e u;have:(e.key,e.val)∈l.map λp=>(Value.int k2 p.1,fnV p.2 #[]):=by rw [<-L];exact fe.2 ⟨e,u,rfl⟩
  obtain ⟨p,hp,i⟩:=fe.1 this;simp only [aY] at i;exact ⟨p,hp,i.1.symm⟩
 have r:MapKept.IsKey (.int k2) (.int k2 n):=by simp [MapKept.IsKey]
 have v:Instr.findNow (.int k2) (.int k2 n) D.toList 0=some none:=by
  rcases MapKept.findNow_spec r D.toList 0 (λe u=>by obtain ⟨p,_,hp⟩:=B e u;rw [hp];simp [MapKept.IsKey]) with ⟨h,_⟩ | ⟨j,e,_,hj,u⟩
  ·exact h
  ·exfalso;obtain ⟨p,hp,i⟩:=B e (gB hj);rw [i] at u;have:=(cN.1 C) p hp;simp only [Value.int.injEq,jT] at u;simp [u] at this
 refine ⟨_,h,?_⟩;unfold gO;refine ⟨q,N,λ_=>⟨.map (D.push { key:=.int k2 n,val:=fnV g #[],born:=d }) (d+1),.skip,?_,⟨_,_,rfl,?_⟩,.skip rfl⟩⟩
 ·simp only [execOp,ho,h2,R,Z,aw,Instr.mapUpdate,aV hd,ay,MapKept.run_getObj_map S,MapKept.run_checkKey (k:=.int k2 n) Q r,MapKept.run_findKey Q v,MapKept.run_setObj_map _ S,aD];rfl
 ·rw [Array.toList_push,FN,FN,L];rfl
theorem Nw (k:TR ι s.T a.tmps) (C:WR ι s.H s.nb w) (Z:ι f=none) (h:effK P (opd s.T) s.H f o.op c=some z):∃e,c e=some z/\gO P ι f o a w e:=by
 cases j:o.op with
 | move x=>
  rw [j] at h;simp only [effK] at h;obtain ⟨v,p,h⟩:=av h;exact ⟨_,h,.val (by simp only [execOp,j,aD]) (bv k p)⟩
 | assign x=>
  rw [j] at h;simp only [effK] at h;obtain ⟨v,p,h⟩:=av h;exact ⟨_,h,.val (by simp only [execOp,j,aD]) (bv k p)⟩
 | pick q x y=>
  rw [j] at h;simp only [effK] at h;split at h
  ·rename_i t K;have p:=bv k K;simp only [VR] at p;cases t
   ·simp only [af] at h;obtain ⟨v,A,h⟩:=av h;exact ⟨_,h,.val (x:=a.eval y) (by simp [execOp,j,p,asBool]) (bv k A)⟩
   ·simp only [ah] at h;obtain ⟨v,A,h⟩:=av h;exact ⟨_,h,.val (x:=a.eval x) (by simp [execOp,j,p,asBool]) (bv k A)⟩
  ·cases h
 | alloc t=>rw [j] at h;exact MJ j h
 | makeMap t x=>rw [j] at h;exact EY j h
 | insert t m x y=>rw [j] at h;exact IY j k C h
 | lookup t m x ok=>rw [j] at h;exact Jq j k C h
 | box t x=>rw [j] at h;exact RS j k Z h
 | build t ps=>rw [j] at h;exact Kw j k h
 | buildSlice t n ps=>rw [j] at h;exact yU j k Z h
 | load t x=>rw [j] at h;exact OE j k C h
 | makeSlice t x y=>rw [j] at h;exact B5 j k h
 | store t x y=>rw [j] at h;exact J6 j k C h
 | nilCheck x=>
  rw [j] at h;simp only [effK] at h;split at h
  ·rename_i b off hx;have p:=bv k hx;have A:=p;simp only [VR] at p;obtain ⟨r,h5,B⟩:=p;exact ⟨_,h,.val (x:=a.eval x) (by simp [execOp,j,B]) A⟩
  ·rename_i zz b jj off hx;have p:=bv k hx;have A:=p;simp only [VR] at p;obtain ⟨r,h5,B⟩:=p;exact ⟨_,h,.val (x:=a.eval x) (by simp [execOp,j,B]) A⟩
  ·rename_i g l hx;have p:=bv k hx;have A:=p;simp only [VR] at p;obtain ⟨S,B,_⟩:=p;obtain ⟨g',b',c',h7⟩:=zK g S;exact ⟨_,h,.val (x:=a.eval x) (by simp [execOp,j,B,h7]) A⟩
  ·rename_i b off n m hx;have p:=bv k hx;have A:=p;simp only [VR] at p;obtain ⟨r,cp,_,_,_,B⟩:=p;exact ⟨_,h,.val (x:=a.eval x) (by simp [execOp,j,B]) A⟩
  ·rename_i t v hx;have p:=bv k hx;have A:=p;simp only [VR] at p;obtain ⟨y,B,_⟩:=p;exact ⟨_,h,.val (x:=a.eval x) (by simp [execOp,j,B]) A⟩
  ·cases h
 | binOp op t x y yt=>
  rw [j] at h;simp only [effK] at h;obtain ⟨u,G,h⟩:=av h;obtain ⟨v,p,h⟩:=av h;split at h
  ·rename_i r Y;have hx:=bv k G;have hy:=bv k p;obtain ⟨I,M⟩:=Wi Y hx hy w;exact ⟨_,h,.val (x:=.bool r) (by simp only [execOp,j,aw,I,M,ay,aD]) (by simp [VR])⟩
  split at h
  ·rename_i r Y;split at h
   case h_2=>cases h
   rename_i m rd E;obtain ⟨hm,h⟩:=dY h;obtain ⟨I,M⟩:=WF Y E (aI hm) C (bv k G) (bv k p) x y;exact ⟨_,h,.val (x:=.bool r) (by simp only [execOp,j,aw,I,M,ay,aD]) (by simp [VR])⟩
  obtain ⟨R,X,U,W,I,M⟩:=TY h (bv k G) (bv k p) x y w;exact ⟨_,U,.val (x:=X) (by simp only [execOp,j,aw,I,M,ay,aD]) W⟩
 | unOp op t x=>
  rw [j] at h;simp only [effK] at h;obtain ⟨u,G,h⟩:=av h;obtain ⟨R,X,U,W,I⟩:=Ve (P:=P) h (bv k G) w;exact ⟨_,U,.val (x:=X) (by simp only [execOp,j,aw,I,ay,aD]) W⟩
 | convert sr d x=>rw [j] at h;exact FR j k C h
 | next x str=>rw [j] at h;exact OS j k C h
 | makeInterface t x=>
  rw [j] at h;simp only [effK] at h;obtain ⟨u,G,h⟩:=av h;have p:=bv k G;split at h
  ·cases h
  ·rename_i d O N;refine ⟨_,h,.val (x:=.iface t (a.eval x)) ?_ (by simp only [VR];exact ⟨_,rfl,p⟩)⟩;simp only [execOp,j,Instr.makeInterface,aw,aV N,ay];cases d<;>first | rfl | exact absurd rfl (O _)
  ·cases h
 | makeFunc fn first cap=>
  rw [j] at h;simp only [effK] at h;split at h
  ·rename_i g F;split at h
   case h_2=>cases h
   rename_i hb;obtain ⟨l,E,h⟩:=av h;have J:=wF k E;have D:first=#[]:=by apply lG;simpa using F
   refine ⟨_,h,.val (x:=.func (.func g) #[] (cap.map a.eval)) ?_ (by simp only [VR];exact ⟨_,(FI hb _).symm,by simpa using J⟩)⟩;simp only [execOp,j,Instr.makeFunc,D,H5,aw,aD,ay]
  ·rename_i g _ _ F;split at h
   ·rename_i L;obtain ⟨l,E,h⟩:=av h;have J:=wF k E;have hcap':cap=#[]:=by apply lG;simpa using L
    refine ⟨_,h,.val (x:=.func (.func g) (first.map a.eval) #[]) ?_ (by simp only [VR];exact ⟨_,(QA g _).symm,by simpa using J⟩)⟩;simp only [execOp,j,Instr.makeFunc,hcap',H5,aw,aD,ay]
   ·cases h
  ·cases h
 | slice t x lo hi mx=>
  rw [j] at h;cases mx with
  | none=>exact KA j k C h
  | some m=>exact IB j k C h
 | fieldAddr t x i=>rw [j] at h;exact AE j k h
 | field t x i=>rw [j] at h;exact JU j k h
 | indexAddr t x i=>rw [j] at h;exact Bj j k C h
 | index t x i=>rw [j] at h;exact K3 j k h
 | range t x=>rw [j] at h;exact KZ j k h
 | extract x i=>
  rw [j] at h;simp only [effK] at h;split at h
  ·rename_i l hx;obtain ⟨v,p,h⟩:=av h;have E:=bv k hx;simp only [VR] at E;obtain ⟨S,B,Q⟩:=E;obtain ⟨y,hy,V⟩:=Q.get p;have hy':S[i]?=some y:=by simpa using hy
   exact ⟨_,h,.val (x:=y) (by simp [execOp,j,B,Instr.extract,hy']) V⟩
  ·cases h
 | typeAssert x xt at_ ok=>
  rw [j] at h;simp only [effK] at h;split at h
  case h_2=>cases h
  rename_i t v hx;have p:=bv k hx;simp only [VR] at p;obtain ⟨y,B,hy⟩:=p;split at h
  ·cases h
  ·rename_i d O N;split at h
   case h_2=>cases h
   rename_i K;have K:=bK K;subst K;cases ok with
   | true=>
    refine ⟨_,h,.val (x:=.tuple #[y,.bool true]) ?_ (by simp only [VR,VRs];exact ⟨_,rfl,y,[.bool true],rfl,hy,_,[],rfl,rfl,rfl⟩)⟩;simp only [execOp,j,B,Instr.typeAssert,aw,aV N,ay];cases d<;>first | simp | exact absurd rfl (O _)
   | false=>
    refine ⟨_,h,.val (x:=y) ?_ hy⟩;simp only [execOp,j,B,Instr.typeAssert,aw,aV N,ay];cases d<;>first | simp | exact absurd rfl (O _)
  ·cases h
 | call cl=>rw [j] at h;exact OY j k C h
 | _=>rw [j] at h;simp [effK] at h
end ops
end Go.Abs
