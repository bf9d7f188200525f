
/- The abstract effect of an operation is what the model's own operation does: the operations that make no memory; all of them together.
   Conditions: none; generic over the program. -/
import Derived.Test.YtaogbalpingjhaaGreatDoorAbsG
import Derived.Laws.BytesArg
import Derived.Laws.BytesString
import Derived.Lib.ConvBytes
import Derived.Laws.MakeOwn
import Derived.Deep.AppendSrc
import Derived.MapKept
set_option linter.unusedSimpArgs false
set_option linter.unusedVariables false
namespace Go.Abs
variable {P:Program}
section ops
variable {α:Type} {ι:Inj} {s:St} {a:Act} {w:World} {f:Nat} {o:Oper} {c:Eff->Option α} {z:α}
theorem qa {t:TypeId} {a:Array Field} {fd:Field} {i:Nat} {b:TypeInfo} (d:P.underlying t=some (.struct a)) (c:a[i]?=some fd) (hi:P.info? fd.type=some b)
  (e:0<P.cellsOf fd.type) (r off:Nat) (w:World):(Instr.fieldAt t (.pointer (some ⟨r,off,none⟩)) i).run P w=.ok (.pointer (some ⟨r,off+fd.offset,none⟩)) w:=by
 simp only [Instr.fieldAt,ak,aH d,aq,c,Instr.sureAddr,au,fieldPlace,db hi,show ¬(P.cellsOf fd.type=0) by omega,aE,iY]
theorem uJ {t:TypeId} {x:Operand} {i:Nat} (v:o.op=.fieldAddr t x i) (y:TR ι s.T a.tmps) (h:effK P (opd s.T) s.H f (.fieldAddr t x i) c=some z):
  ∃e,c e=some z/\dt P ι f o a w e:=by
 simp only [effK] at h;split at h
 ·rename_i b off q;split at h
  ·rename_i C u;split at h
   ·rename_i fd p;split at h
    ·rename_i k;obtain ⟨B,g⟩:=bg k;have l:=aP y q;simp only [VR] at l;obtain ⟨r,n,m⟩:=l;have d:=qa u (by simpa using p) g (ax k) r.r off w;exact ⟨_,h,.val (x:=.pointer (some ⟨r.r,off+fd.offset,none⟩)) (by simp only [execOp,v,m,ak,d,aq,au]) (by simp only [VR,kM];exact ⟨r,n,rfl⟩)⟩
    ·cases h
   ·cases h
  ·cases h
 ·rename_i A b j off q;split at h
  ·rename_i C u;split at h
   ·rename_i fd p;split at h
    ·rename_i k;obtain ⟨B,g⟩:=bg k;have l:=aP y q;simp only [VR] at l;obtain ⟨r,n,m⟩:=l;have d:=qa u (by simpa using p) g (ax k) r.r (r.o+(j*A+off)) w;exact ⟨_,h,.val (x:=.pointer (some ⟨r.r,r.o+(j*A+off)+fd.offset,none⟩)) (by simp only [execOp,v,m,ak,d,aq,au]) (by simp only [VR,kM];exact ⟨r,n,by rw [fN,fN]⟩)⟩
    ·cases h
   ·cases h
  ·cases h
 ·cases h
theorem CG {t:TypeId} {x:Operand} {i:Nat} (n:o.op=.field t x i) (A:TR ι s.T a.tmps) (h:effK P (opd s.T) s.H f (.field t x i) c=some z):
  ∃e,c e=some z/\dt P ι f o a w e:=by
 simp only [effK] at h;split at h
 ·rename_i l E;have r:=aP A E;simp only [VR] at r;obtain ⟨p,q,j⟩:=r;split at h
  ·rename_i F u;split at h
   ·rename_i fd D;have hf':F[i]?=some fd:=by simpa using D
    split at h
    ·rename_i b;split at h
     ·have G:∃d,P.underlying fd.type=some d:=by
       unfold bc at b;split at b
       ·exact ⟨_,by assumption⟩
       ·exact ⟨_,by assumption⟩
       ·cases b
      obtain ⟨d',g⟩:=G;obtain ⟨I,m⟩:=ja g;refine ⟨_,h,.val (x:=.agg (p.extract fd.offset (fd.offset+P.cellsOf fd.type))) ?_ (kV (j.extract _ _))⟩;simp only [execOp,n,q,Instr.field,ak,aH u,aq,hf',asAgg,au,part,fR g,b,aY,db m]
     ·cases h
    ·rename_i b;split at h
     ·rename_i d' g;obtain ⟨v,B,h⟩:=ah h;obtain ⟨y,C,k⟩:=j.get B;have hy':p[fd.offset]?=some y:=by simpa using C
      refine ⟨_,h,.val (x:=y) ?_ k⟩;simp only [execOp,n,q,Instr.field,ak,aH u,aq,hf',asAgg,au,part,fR g,b,bT,aE,hy']
     ·cases h
   ·cases h
  ·cases h
 ·cases h
theorem kf {t e:TypeId} {m:Nat} {a:TypeInfo} (c:P.underlying t=some (.array m e)) (hi:P.info? e=some a) (k:IntKind) {n:Int} (b:0<=n) (d:n<m) (r off:Nat) (w:World):
  (Instr.indexAt t (.pointer (some ⟨r,off,none⟩)) (.int k n)).run P w=.ok (.pointer (some ⟨r,off+n.toNat*P.cellsOf e,none⟩)) w:=by
 simp only [Instr.indexAt,asIntOf,ak,au,aq,aH c,Instr.sureAddr,b,d,and_self,aY,db hi,iY]
theorem gR {t e:TypeId} {m cp:Nat} {a:TypeInfo} (c:P.underlying t=some (.slice e)) (hi:P.info? e=some a) (k:IntKind) {n:Int} (b:0<=n) (d:n<m) (r off:Nat) (w:World):
  (Instr.indexAt t (.slice (some ⟨r,off,none⟩) m cp) (.int k n)).run P w=.ok (.pointer (some ⟨r,off+n.toNat*P.cellsOf e,none⟩)) w:=by
 simp only [Instr.indexAt,asIntOf,ak,au,aq,aH c,b,d,and_self,aY,db hi,iY]
theorem ud {t:TypeId} {x i:Operand} (J:o.op=.indexAddr t x i) (F:TR ι s.T a.tmps) (R:WR ι s.H s.nb w) (h:effK P (opd s.T) s.H f (.indexAddr t x i) c=some z):
  ∃e,c e=some z/\dt P ι f o a w e:=by
 simp only [effK] at h;split at h
 case h_2=>cases h
 rename_i k n hi;have v:=aP F hi;simp only [VR] at v;split at h
 ·rename_i m e G;split at h
  ·rename_i b off E;have u:=aP F E;simp only [VR] at u;obtain ⟨r,y,C⟩:=u;split at h
   ·rename_i p;obtain ⟨K,g⟩:=bg p;obtain ⟨j,D,h⟩:=ah h;obtain ⟨g0,B,rfl⟩:=jX D;have d:=kf G g k g0 B r.r off w;exact ⟨_,h,.val (x:=.pointer (some ⟨r.r,off+n.toNat*P.cellsOf e,none⟩)) (by simp only [execOp,J,C,v,ak,d,aq,au]) (by simp only [VR,kM,rK];exact ⟨r,y,rfl⟩)⟩
   ·cases h
  ·rename_i L b M off E;have u:=aP F E;simp only [VR] at u;obtain ⟨r,y,C⟩:=u;split at h
   ·rename_i p;obtain ⟨K,g⟩:=bg p;obtain ⟨j,D,h⟩:=ah h;obtain ⟨g0,B,rfl⟩:=jX D;have d:=kf G g k g0 B r.r (r.o+(M*L+off)) w;exact ⟨_,h,.val (x:=.pointer (some ⟨r.r,r.o+(M*L+off)+n.toNat*P.cellsOf e,none⟩)) (by simp only [execOp,J,C,v,ak,d,aq,au]) (by simp only [VR,kM,rK];exact ⟨r,y,by rw [fN,fN]⟩)⟩
   ·cases h
  ·cases h
 ·rename_i e G;split at h
  ·rename_i b off m cp E;have u:=aP F E;simp only [VR] at u;obtain ⟨r,cap,y,_,_,C⟩:=u;split at h
   ·rename_i p;obtain ⟨K,g⟩:=bg p;obtain ⟨j,D,h⟩:=ah h;obtain ⟨g0,B,rfl⟩:=jX D;have d:=gR (cp:=cap) G g k g0 B r.r off w;exact ⟨_,h,.val (x:=.pointer (some ⟨r.r,off+n.toNat*P.cellsOf e,none⟩)) (by simp only [execOp,J,C,v,ak,d,aq,au]) (by simp only [VR,kM,rK];exact ⟨r,y,rfl⟩)⟩
   ·cases h
  ·rename_i b E;have u:=aP F E;simp only [VR] at u;split at h
   case h_2=>cases h
   rename_i tr l O;split at h
   case h_2=>cases h
   rename_i p;simp only [av,eM] at p;obtain ⟨Q,p⟩:=p;obtain ⟨K,g⟩:=bg p;obtain ⟨j,D,h⟩:=ah h;obtain ⟨g0,B,rfl⟩:=jX D;rcases fa R O with ⟨q,S,V,fr,I,Z,N,U,q5,q6,X⟩ | ⟨I,rfl⟩
   ·rcases u with ⟨W,y,C⟩ | ⟨y,_⟩
    ·rw [y] at I;cases I;have g1':n<(q.n:Int):=by rw [<-N];exact B
     have d:=gR (cp:=q.k) G g k g0 g1' q.r q.o w;exact ⟨_,h,.val (x:=.pointer (some ⟨q.r,q.o+n.toNat*P.cellsOf e,none⟩)) (by simp only [execOp,J,C,v,ak,d,aq,au]) (by simp only [VR];exact ⟨q,y,by rw [dG]⟩)⟩
    ·rw [y] at I;cases I
   ·simp at B;omega
  ·rename_i L b Y m _ E;have u:=aP F E;simp only [VR] at u;split at h
   case h_2=>cases h
   rename_i p;simp only [av,eM] at p;obtain ⟨rfl,p⟩:=p;obtain ⟨K,g⟩:=bg p;obtain ⟨j,D,h⟩:=ah h;obtain ⟨g0,B,rfl⟩:=jX D;rcases u with ⟨q,cp,off,y,_,A,C⟩ | ⟨_,⟨rfl,_⟩,_⟩
   ·have d:=gR (cp:=cp) G g k g0 B q.r off w;have A:=A (by omega);exact ⟨_,h,.val (x:=.pointer (some ⟨q.r,off+n.toNat*P.cellsOf e,none⟩)) (by simp only [execOp,J,C,v,ak,d,aq,au]) (by simp only [VR,kM];exact ⟨q,y,by rw [A,dB,dG,fN]⟩)⟩
   ·omega
  ·cases h
 ·cases h
theorem eJ {t e:TypeId} {m:Nat} {c:TypeInfo} (f:P.underlying t=some (.array m e)) (hi:P.info? e=some c) (k:IntKind) {n:Int} (d:0<=n) (b:n<m) (a:Array Value) (w:World):
  (Instr.index t (.agg a) (.int k n)).run P w=(part e a (n.toNat*P.cellsOf e)).run P w:=by
 simp only [Instr.index,asIntOf,ak,au,aq,aH f,d,b,and_self,aY,db hi]
theorem lR {t:TypeId} {d:TypeDesc} (e:P.underlying t=some d) (b:bc P t=false) {a:Array Value} {off:Nat} {x:Value} (c:a[off]?=some x) (w:World):
  (part t a off).run P w=.ok x w:=by
 simp only [part,ak,fR e,b,aq,bT,aE,c,au]
theorem pg {t:TypeId} {d:TypeDesc} (a:P.underlying t=some d) (c:bc P t=true) (b:Array Value) (off:Nat) (w:World):
  (part t b off).run P w=.ok (.agg (b.extract off (off+P.cellsOf t))) w:=by
 obtain ⟨i,hi⟩:=ja a;simp only [part,ak,fR a,c,aq,aY,db hi,au]
theorem pC {t:TypeId} (g:P.underlying t=some .string) {l:aa} {n:Int} {b:UInt8} (h:sx l n=some b) (k:IntKind) (w:World):
  (Instr.index t (.string ⟨l.toArray⟩) (.int k n)).run P w=.ok (.int .u8 b.toNat) w:=by
 unfold sx at h;split at h
 ·rename_i e;have d:(ByteArray.mk l.toArray)[n.toNat]?=some b:=by
   have a:n.toNat<l.length:=by
    rcases aA n.toNat l.length with c | c
    ·exact c
    ·rw [dx c] at h;cases h
   have f:n.toNat<(ByteArray.mk l.toArray).size:=a;rw [getElem?_pos (ByteArray.mk l.toArray) n.toNat f];rw [cn a] at h;simp only [ae] at h ⊢;exact h
  simp only [Instr.index,asIntOf,ak,au,aq,aH g,e,aY,d]
 ·cases h
theorem DJ {t:TypeId} {x i:Operand} (F:o.op=.index t x i) (I:TR ι s.T a.tmps) (h:effK P (opd s.T) s.H f (.index t x i) c=some z):
  ∃e,c e=some z/\dt P ι f o a w e:=by
 simp only [effK] at h;split at h
 case h_2=>cases h
 rename_i k n hi;have d:=aP I hi;simp only [VR] at d;split at h
 ·rename_i m e C;split at h
  ·cases h
  rename_i N;obtain ⟨Q,q⟩:=bg N;split at h
  ·rename_i k' m' l G;have p:=aP I G;simp only [VR] at p;obtain ⟨Y,E⟩:=p;split at h
   ·rename_i k2 g;split at h
    ·rename_i r;have r:=aS r;obtain ⟨j,B,h⟩:=ah h;obtain ⟨g0,u,rfl⟩:=jX B;obtain ⟨v,p,h⟩:=ah h;refine ⟨_,h,.val (x:=.int k' v) ?_ (by simp [VR])⟩;simp only [execOp,F,E,d,ak,eJ C q k g0 u];rw [lR g (by simp [bc,g]) (x:=.int k' v) (by simp [r,p])];rfl
    ·cases h
   ·cases h
  ·rename_i l G;have p:=aP I G;simp only [VR] at p;obtain ⟨L,E,A⟩:=p;split at h
   ·rename_i S g;obtain ⟨j,B,h⟩:=ah h;obtain ⟨g0,u,rfl⟩:=jX B;refine ⟨_,h,.val (x:=.agg (L.extract (n.toNat*P.cellsOf e) (n.toNat*P.cellsOf e+P.cellsOf e))) ?_ (kV (A.extract _ _))⟩;simp only [execOp,F,E,d,ak,eJ C q k g0 u,pg g (by simp [bc,g]),aq,au]
   ·rename_i X R g;obtain ⟨j,B,h⟩:=ah h;obtain ⟨g0,u,rfl⟩:=jX B;refine ⟨_,h,.val (x:=.agg (L.extract (n.toNat*P.cellsOf e) (n.toNat*P.cellsOf e+P.cellsOf e))) ?_ (kV (A.extract _ _))⟩;simp only [execOp,F,E,d,ak,eJ C q k g0 u,pg g (by simp [bc,g]),aq,au]
   ·rename_i g;split at h
    ·rename_i r;have r:=aS r;split at h
     ·rename_i W K;obtain ⟨j,B,h⟩:=ah h;obtain ⟨g0,u,rfl⟩:=jX B;obtain ⟨v,p,h⟩:=ah h;obtain ⟨y,J,D⟩:=A.get (j:=n.toNat) (v:=.s v) (by rw [nD K];simp [p]);refine ⟨_,h,.val (x:=y) ?_ D⟩;simp only [execOp,F,E,d,ak,eJ C q k g0 u];rw [lR g (by simp [bc,g]) (x:=y) (by simpa [r] using J)];rfl
     ·cases h
    ·cases h
   ·rename_i d' U O V g;split at h
    ·rename_i r;have r:=aS r;obtain ⟨j,B,h⟩:=ah h;obtain ⟨g0,u,rfl⟩:=jX B;obtain ⟨v,p,h⟩:=ah h;obtain ⟨y,J,D⟩:=A.get p;refine ⟨_,h,.val (x:=y) ?_ D⟩;simp only [execOp,F,E,d,ak,eJ C q k g0 u];rw [lR g (by simp only [bc,g];cases d'<;>simp_all) (x:=y) (by simpa [r] using J)];rfl
    ·cases h
   ·cases h
  ·cases h
 ·rename_i C;split at h
  ·rename_i l G;have p:=aP I G;simp only [VR] at p;obtain ⟨b,M,h⟩:=ah h;refine ⟨_,h,.val (x:=.int .u8 b.toNat) ?_ (by simp [VR])⟩;simp only [execOp,F,p,d,ak,pC C M,aq,au]
  ·cases h
 ·cases h
theorem tY {t:TypeId} (a:P.underlying t=some .string) {l:aa} {lo hi:Option Value} {L H:Nat} {w:World}
  (c:(Instr.sliceBounds false l.length l.length lo hi none).run P w=.ok (L,H,l.length) w):
  (Instr.sliceAt t (.string ⟨l.toArray⟩) lo hi none).run P w=.ok (.string ⟨((l.take H).drop L).toArray⟩) w:=by
 rw [run_sliceAt_string w t _ _ _ _ a];have b:(ByteArray.mk l.toArray).size=l.length:=rfl;simp only [Instr.slice,ak,aH a,aq,qG,bT,aE,b,c,au];congr 2;apply Ds;rw [ByteArray.data_extract];apply gz;simp [List.extract,vc]
theorem tZ {t e:TypeId} {n:Nat} {b:TypeInfo} (d:P.underlying t=some (.array n e)) (hi:P.info? e=some b) {lo a:Option Value} {L H r off:Nat} {w:World}
  (c:(Instr.sliceBounds false n n lo a none).run P w=.ok (L,H,n) w):
  (Instr.sliceAt t (.pointer (some ⟨r,off,none⟩)) lo a none).run P w=.ok (.slice (some ⟨r,if n=L then off else off+L*P.cellsOf e,none⟩) (H - L) (n - L)) w:=by
 simp only [Instr.sliceAt,ak,aH d,aq,Instr.sureAddr,au,c,db hi,iY];split<;>rfl
theorem jK {t e:TypeId} {n cp:Nat} {b:TypeInfo} (d:P.underlying t=some (.slice e)) (hi:P.info? e=some b) {lo a:Option Value} {L H r off:Nat} {w:World}
  (c:(Instr.sliceBounds true n cp lo a none).run P w=.ok (L,H,cp) w):
  (Instr.sliceAt t (.slice (some ⟨r,off,none⟩) n cp) lo a none).run P w=.ok (.slice (some ⟨r,if cp=L then off else off+L*P.cellsOf e,none⟩) (H - L) (cp - L)) w:=by
 simp only [Instr.sliceAt,Instr.slice,ak,aH d,aq,c,db hi,au];split
 ·rfl
 ·simp only [cK,iY]
theorem hO (n l x y:Nat):cond (Nat.beq n l) x y=if n=l then x else y:=by
 by_cases h:n=l
 ·subst h;simp
 ·have:Nat.beq n l=false:=by
   cases a:Nat.beq n l
   ·rfl
   ·exact absurd (aS a) h
  simp [this,h]
theorem nU {t e:TypeId} {c:TypeInfo} {b:Option Addr} (f:P.underlying t=some (.slice e)) (hi:P.info? e=some c) {lo a:Option Value} {w:World}
  (d:(Instr.sliceBounds true 0 0 lo a none).run P w=.ok (0,0,0) w):
  (Instr.sliceAt t (.slice b 0 0) lo a none).run P w=.ok (.slice b 0 0) w:=by
 simp only [Instr.sliceAt,Instr.slice,ak,aH f,aq,d,db hi,au,aY]
theorem uU {T:List (Nat×Option V)} (q:TR ι T a.tmps) {lo hi:Option Operand} {l h:Option Int} (x:lX (opd T) lo=some l)
  (t:lX (opd T) hi=some h) {len:Nat} {c:Nat->Nat->Option α} (e:(hiK len len h λh=>loK h l λl=>c h l)=some z):
  ∃H L,c H L=some z/\H<=len/\L<=H/\∀n,len<=n->∀w,(Instr.sliceBounds true len n (lo.map a.eval) (hi.map a.eval) none).run P w=.ok (L,H,n) w:=by
 have j:∀{H:Nat},loK H l (c H)=some z->∃L,c H L=some z/\L<=H/\
   ∀w,(match lo.map a.eval with | some v=>Instr.sliceBound v H .sliceB | none=>pure 0).run P w=.ok L w:=by
  intro H e;rcases kn q x with ⟨rfl,g⟩ | ⟨k,m,rfl,g⟩
  ·exact ⟨0,e,mQ _,λw=>by rw [g];rfl⟩
  ·simp only [loK] at e;obtain ⟨L,o,i⟩:=ah e;obtain ⟨g0,p,rfl⟩:=gW o;exact ⟨_,i,by omega,λw=>by rw [g];exact run_sliceBound w k m H .sliceB g0 p⟩
 rcases kn q t with ⟨rfl,g⟩ | ⟨k,m,rfl,g⟩
 ·simp only [hiK] at e;obtain ⟨L,o,i,d⟩:=j e;refine ⟨len,L,o,aL _,i,λn r w=>?_⟩;have d:=d w;rw [g];simp only [Instr.sliceBounds,ak,au,aq,qG,bT,aE];cases b:lo.map a.eval with
  | none=>rw [b] at d;simp only [au,ri,and_true] at d;simp [d]
  | some v=>rw [b] at d;simp only [] at d;simp [d]
 ·simp only [hiK] at e;obtain ⟨H,o,i⟩:=ah e;obtain ⟨g0,p,rfl⟩:=gW o;obtain ⟨L,u,d,f⟩:=j i;refine ⟨_,L,u,by omega,d,λn r w=>?_⟩;have f:=f w;rw [g];have s:=run_sliceBound (P:=P) w k m n .sliceAcap g0 (by omega);simp only [Instr.sliceBounds,ak,au,aq,qG,bT,aE,aY,s];cases b:lo.map a.eval with
  | none=>rw [b] at f;simp only [au,ri,and_true] at f;simp [f]
  | some v=>rw [b] at f;simp only [] at f;simp [f]
theorem DG {t:TypeId} {x:Operand} {lo hi:Option Operand} (I:o.op=.slice t x lo hi none) (G:TR ι s.T a.tmps) (hW:WR ι s.H s.nb w) (h:effK P (opd s.T) s.H f (.slice t x lo hi none) c=some z):
  ∃e,c e=some z/\dt P ι f o a w e:=by
 simp only [effK] at h;obtain ⟨v,hx,E⟩:=ah h;obtain ⟨l,K,q2⟩:=ah E;obtain ⟨V,u,d⟩:=ah q2;clear h E q2;have B:=aP G hx;clear hx;split at d
 ·rename_i C;cases v<;>simp only [reduceCtorEq] at d;rename_i sl;simp only [VR] at B;obtain ⟨H,L,g,_,_,_,i,_,A⟩:=qA (P:=P) G K u (isSlice:=false) d;refine ⟨_,g,.val (x:=.string ⟨((sl.take H).drop L).toArray⟩) ?_ (by simp [VR])⟩;simp only [execOp,I,B,ak,ew];rw [tY C (A w)];rfl
 ·rename_i n e C;split at d
  case h_2=>cases d
  rename_i hp;obtain ⟨ti,p⟩:=bg hp;cases v<;>simp only [reduceCtorEq] at d;rename_i b off;simp only [VR] at B;obtain ⟨r,i,y⟩:=B;obtain ⟨H,L,g,_,F,D,g4,_,A⟩:=qA (P:=P) G K u (isSlice:=false) d;have W:H<=n:=by
   cases V with
   | none=>exact qj (F rfl)
   | some q=>exact D (by simp)
  refine ⟨_,g,.val (x:=.slice (some ⟨r.r,if n=L then off else off+L*P.cellsOf e,none⟩) (H - L) (n - L)) ?_ ?_⟩
  ·simp only [execOp,I,y,ak,ew];rw [tZ C p (A w)];rfl
  ·simp only [VR];exact ⟨r,n - L,i,λm N=>by cases N;rfl,by omega,by rw [hO,kM,rK]⟩
 ·rename_i e C;split at d
  case h_2=>cases d
  rename_i hp;obtain ⟨ti,p⟩:=bg hp;cases v<;>try (simp only [reduceCtorEq] at d;done)
  ·rename_i b;simp only [VR] at B;simp only at d;split at d
   case h_2=>cases d
   rename_i tr m U;split at d
   case h_2=>cases d
   rename_i J;have J:=aS J;obtain ⟨H,L,g,F,D,A⟩:=uU (P:=P) G K u d;rcases fa hW U with ⟨q,cs,e',fr,E,q2,X,q5,_,_,_⟩ | ⟨E,rfl⟩
   ·rcases B with ⟨q',i,y⟩ | ⟨i,_⟩
    ·rw [i] at E;cases E;refine ⟨_,g,.val (x:=.slice (some ⟨q.r,if q.k=L then q.o else q.o+L*P.cellsOf e,none⟩) (H - L) (q.k - L)) ?_ ?_⟩
     ·simp only [execOp,I,y,ak,ew];rw [<-X,jK C p (A q.k (by omega) w)];rfl
     ·simp only [VR];exact .inl ⟨q,_,_,i,⟨by omega,fV⟩,λR=>by rw [ab (by omega)],rfl⟩
    ·rw [i] at E;cases E
   ·rcases B with ⟨q,i,y⟩ | ⟨i,Q,y⟩
    ·rw [i] at E;cases E
    ·simp only [jC,ui] at F D;subst F;simp only [ui] at D;subst D;refine ⟨_,g,.val (x:=.slice Q 0 0) ?_ (by unfold VR;exact .inr ⟨i,⟨rfl,fV⟩,Q,rfl⟩)⟩;simp only [execOp,I,y,ak,ew];rw [nU C p (A 0 (aL _) w)];rfl
  ·rename_i zz b j n _;simp only [VR] at B;simp only at d;split at d
   case h_2=>cases d
   rename_i J;have J:=aS J;obtain ⟨H,L,g,F,D,A⟩:=uU (P:=P) G K u d;rcases B with ⟨q,cp,off,i,⟨S,_⟩,O,y⟩ | ⟨i,⟨rfl,_⟩,Q,y⟩
   ·refine ⟨_,g,.val (x:=.slice (some ⟨q.r,if cp=L then off else off+L*P.cellsOf e,none⟩) (H - L) (cp - L)) ?_ ?_⟩
    ·simp only [execOp,I,y,ak,ew];rw [jK C p (A cp S w)];rfl
    ·simp only [VR];exact .inl ⟨q,_,_,i,⟨by omega,fV⟩,λR=>by rw [ab (by omega),O (by omega),kM,dB,J,fN],rfl⟩
   ·simp only [ui] at F;subst F;simp only [ui] at D;subst D;refine ⟨_,g,.val (x:=.slice Q 0 0) ?_ (by unfold VR;exact .inr ⟨i,⟨rfl,fV⟩,Q,rfl⟩)⟩;simp only [execOp,I,y,ak,ew];rw [nU C p (A 0 (aL _) w)];rfl
  rename_i b off n cap;simp only [VR] at B;obtain ⟨r,cp,i,hcp,S,y⟩:=B;cases cap with
  | some m=>
   obtain rfl:=hcp m rfl;obtain ⟨H,L,g,_,F,D,g4,_,A⟩:=qA (P:=P) G K u (isSlice:=true) d;have W:H<=cp:=by
    cases V with
    | none=>have:=F rfl;omega
    | some q=>exact D (by simp)
   refine ⟨_,g,.val (x:=.slice (some ⟨r.r,if cp=L then off else off+L*P.cellsOf e,none⟩) (H - L) (cp - L)) ?_ ?_⟩
   ·simp only [execOp,I,y,ak,ew];rw [jK C p (A w)];rfl
   ·simp only [VR];exact ⟨r,cp - L,i,λm N=>by cases N;rfl,by omega,by rw [hO,kM,rK]⟩
  | none=>
   have Z:l=none:=by
    cases l with
    | none=>rfl
    | some q=>
     cases V with
     | none=>simp [hiK] at d
     | some q=>simp only [hiK] at d;obtain ⟨_,_,X⟩:=ah d;cases X
   subst Z;have M:lo.map a.eval=none:=by
    rcases kn G K with ⟨_,g⟩ | ⟨k,m,h0,_⟩
    ·exact g
    ·cases h0
   have key:∃H,c { val:=some (.sl b off H none) }=some z/\H<=n/\(Instr.sliceBounds true n cp (lo.map a.eval) (hi.map a.eval) none).run P w=.ok (0,H,cp) w:=by
    rcases kn G u with ⟨rfl,g⟩ | ⟨k,m,rfl,g⟩
    ·simp only [hiK] at d;exact ⟨n,d,aL _,by rw [g,M];simp [Instr.sliceBounds]⟩
    ·simp only [hiK] at d;obtain ⟨H,h2,Y⟩:=ah d;obtain ⟨g0,g1,rfl⟩:=gW h2;refine ⟨_,Y,by omega,?_⟩;have U:=run_sliceBound (P:=P) w k m cp .sliceAcap g0 (by omega);rw [g,M];simp [Instr.sliceBounds,U]
   obtain ⟨H,g,h2,Y⟩:=key;refine ⟨_,g,.val (x:=.slice (some ⟨r.r,if cp=0 then off else off+0*P.cellsOf e,none⟩) (H - 0) (cp - 0)) ?_ ?_⟩
   ·simp only [execOp,I,y,ak,ew];rw [jK C p Y];rfl
   ·simp only [VR];exact ⟨r,cp,i,λm N=>(by cases N),by omega,by simp⟩
 ·cases d
theorem rS (a:List Int):a.foldl (λ(r:ByteArray) n=>r.push (UInt8.ofNat n.toNat)) ByteArray.empty=⟨(dM a).toArray⟩:=by
 rw [foldl_push_bytes];apply Ds;simp [dM]
theorem so {w:World} {r off q m cp:Nat} {l:List Int} {e:TypeId} {fr:Nat×Nat} (h:w.heap[r]?=some (.cells (l.map (Value.int .u8)).toArray e fr)) (g:l.length=q) (f:off+m<=q):
  (Conv.bytesToString (.slice (some ⟨r,off,none⟩) m cp)).run P w=.ok (.string ⟨(dM ((l.drop off).take m)).toArray⟩) w:=by
 have a:(((l.drop off).take m).map (Value.int .u8)).length=m:=by simp;omega
 have hc:=qC (P:=P) w ⟨r,off,none⟩ (((l.drop off).take m).map (Value.int .u8)) (λj v b=>by
  have c:j<m:=by
   rcases aA j m with d | d
   ·exact d
   ·rw [dx (by omega)] at b;cases b
  rw [iY,aO h];rw [lw,lS c,iP] at b;simpa using b)
 rw [a] at hc;rw [run_bytesToString w _ m cp _ hc,rS]
theorem ul (w:World) (e:TypeId) (s:ByteArray):
  Lib.bytesWorld w e s=World.alloc { w with drawn:=w.drawn+1 } (.cells (Lib.bytesCells w e s) e ((Lib.bytesCells w e s).size,(Lib.bytesCells w e s).size+1)):=by
 have c:=Lib.bytesWorld_at_new w e s;have f:=Lib.bytesWorld_size w e s;have d:(Lib.bytesWorld w e s).heap=w.heap.push (.cells (Lib.bytesCells w e s) e ((Lib.bytesCells w e s).size,(Lib.bytesCells w e s).size+1)):=by
  apply H4;intro j;by_cases b:j=w.heap.size
  ·subst b;rw [c];simp
  ·by_cases a:j<w.heap.size
   ·rw [Lib.bytesWorld_at_old w e s j a,Array.getElem?_push,ab b]
   ·rw [rH (by omega),rH (by simp;omega)]
 show ({ (Lib.bytesWorld w e s) with heap:=(Lib.bytesWorld w e s).heap }:World)=_;rw [d];rfl
theorem lZ:∀(l:List Int),l.flatMap (vals [.i .u8])=l.map (Value.int .u8)
 | []=>rfl
 | x::l=>by
  have:=lZ l;simp only [lE,fU,vals,Lf.val] at this ⊢;rw [this];rfl
theorem mH {w:World} {r cp:Nat} {l:List Int} {b:Array Value} {e:TypeId} {fr:Nat×Nat} {m:Nat} (h:w.heap[r]?=some (.cells b e fr)) (k:m<=b.size)
  {o:Nat} (p:(b.toList.drop o).take (l.length*([Lf.i .u8]:List Lf).length)=l.flatMap (vals [.i .u8])) {j n:Nat} (s:j+n<=l.length):
  (Conv.bytesToString (.slice (some ⟨r,o+j,none⟩) n cp)).run P w=.ok (.string ⟨(dM ((l.drop j).take n)).toArray⟩) w:=by
 have hl':(b.toList.drop o).take l.length=l.map (Value.int .u8):=by rw [<-lZ];simpa using p
 have a:(((l.drop j).take n).map (Value.int .u8)).length=n:=by simp;omega
 have hc:=qC (P:=P) w ⟨r,o+j,none⟩ (((l.drop j).take n).map (Value.int .u8)) (λi v c=>by
  have f:i<n:=by
   rcases aA i n with g | g
   ·exact g
   ·rw [dx (by omega)] at c;cases c
  rw [iY,aO h];rw [lw,lS f,iP] at c;have d:=eN (λq:List Value=>q[j+i]?) hl';simp only [lS (show j+i<l.length by omega),lw,iP] at d;rw [c] at d;simpa [fN] using d)
 rw [a] at hc;rw [run_bytesToString w _ n cp _ hc,rS]
theorem mw {w:World} (c:Option Addr):(Conv.bytesToString (.slice c 0 0)).run P w=.ok (.string ⟨#[]⟩) w:=by
 cases c with
 | none=>rfl
 | some a=>
  have b:=qC (P:=P) w a ([].map (Value.int .u8)) (λj v d=>by simp at d);exact run_bytesToString (P:=P) w a 0 0 [] b
theorem ww {C d:TypeId} {x:Operand} (B:o.op=.convert C d x) (hT:TR ι s.T a.tmps) (Q:WR ι s.H s.nb w) (h:effK P (opd s.T) s.H f (.convert C d x) c=some z):
  ∃e,c e=some z/\dt P ι f o a w e:=by
 simp only [effK] at h;obtain ⟨v,hx,q⟩:=ah h;clear h;have g:=aP hT hx;clear hx;split at q
 case h_2=>cases q
 rename_i D y;split at q
 ·rename_i k p;cases v<;>simp only [reduceCtorEq] at q;rename_i k' n;simp only [VR] at g;refine ⟨_,q,.val (x:=.int k (k.wrap n)) ?_ (by simp [VR])⟩;simp only [execOp,B,g,ak,convert,aH y,aH p,aq];cases D<;>rfl
 ·rename_i p;cases v<;>simp only [reduceCtorEq] at q
  ·rename_i b;simp only [VR] at g;cases D<;>try (simp only [reduceCtorEq] at q;done)
   rename_i e;simp only at q;split at q
   case h_2=>cases q
   rename_i u;split at q
   case h_2=>cases q
   rename_i l F;refine ⟨_,q,.val (x:=.string ⟨(dM l).toArray⟩) ?_ (by simp [VR])⟩;rcases fa Q F with ⟨q,cs,X,fr,i,U,W,q5,V,M,_⟩ | ⟨i,rfl⟩
   ·rcases g with ⟨q',t,A⟩ | ⟨t,_⟩
    ·rw [t] at i;cases i;simp only [execOp,B,A,ak,run_convert_bytes_string w C d e _ _ _ y u p];rw [<-W];have:=mH (P:=P) (cp:=q.k) U V M (j:=0) (n:=l.length) (by omega);simp only [ie,mZ,dG] at this;rw [this];rfl
    ·rw [t] at i;cases i
   ·rcases g with ⟨q,t,A⟩ | ⟨t,K,A⟩
    ·rw [t] at i;cases i
    ·simp only [execOp,B,A,ak,run_convert_bytes_string w C d e K 0 0 y u p,mw];rfl
  ·rename_i zz b j n _;simp only [VR] at g;cases D<;>try (simp only [reduceCtorEq] at q;done)
   rename_i e;simp only at q;split at q
   case h_2=>cases q
   rename_i u;split at q
   case h_2=>cases q
   rename_i l F;split at q
   case h_2=>cases q
   rename_i O;have O:=aS O;subst O;obtain ⟨hc,q⟩:=ca q;have E:=ax hc;refine ⟨_,q,.val (x:=.string ⟨(dM ((l.drop j).take n)).toArray⟩) ?_ (by simp [VR])⟩;rcases g with ⟨Y,cp,off,t,⟨J,_⟩,I,A⟩ | ⟨t,⟨rfl,_⟩,K,A⟩
   ·rcases fa Q F with ⟨q',cs,X,fr,i,U,W,q5,V,M,_⟩ | ⟨i,rfl⟩
    ·rw [t] at i;cases i;simp only [execOp,B,A,ak,run_convert_bytes_string w C d e _ _ _ y u p];by_cases hn:0<n
     ·rw [I hn,o0];rw [mH (P:=P) (cp:=cp) U V M E];rfl
     ·have N:n=0:=by omega
      subst N;have S:=qC (P:=P) w ⟨Y.r,off,none⟩ ([].map (Value.int .u8)) (λj v Z=>by simp at Z);have h0:=run_bytesToString (P:=P) w ⟨Y.r,off,none⟩ 0 cp [] S;rw [h0];simp [dM];rfl
    ·rw [t] at i;cases i
   ·simp only [execOp,B,A,ak,run_convert_bytes_string w C d e K 0 0 y u p,mw];simp [dM]
  ·rename_i k' n;simp only [VR] at g;cases D<;>simp only [reduceCtorEq] at q;refine ⟨_,q,.val (x:=.string (Utf8.encode n)) ?_ ?_⟩
   ·simp only [execOp,B,g,ak,convert,aH y,aH p,aq,Conv.intToString,au]
   ·simp [VR]
  ·rename_i l;simp only [VR] at g;cases D<;>simp only [reduceCtorEq] at q;refine ⟨_,q,.val (x:=.string ⟨l.toArray⟩) ?_ (by simp [VR])⟩;simp only [execOp,B,g,ak,convert,aH y,aH p,aq,au]
  ·simp only [VR] at g;cases D<;>try (simp only [reduceCtorEq] at q;done)
   rename_i e;simp only at q;split at q
   ·rename_i u;refine ⟨_,q,.val (x:=.string .empty) ?_ (by simp only [VR];rfl)⟩;simp only [execOp,B,g,ak,run_convert_bytes_string w C d e none 0 0 y u p];rfl
   ·cases q
  ·rename_i b off m cap;simp only [VR] at g;obtain ⟨r,cp,t,_,_,A⟩:=g;cases D<;>try (simp only [reduceCtorEq] at q;done)
   rename_i e;simp only at q;split at q
   ·rename_i u;split at q
    ·rename_i qn l F;obtain ⟨hc,q⟩:=ca q;have E:=ax hc;obtain ⟨r',X,fr,J,I,g3,_⟩:=pV Q F;rw [t] at J;cases J;refine ⟨_,q,.val (x:=.string ⟨(dM ((l.drop off).take m)).toArray⟩) ?_ (by simp [VR])⟩;simp only [execOp,B,A,ak,run_convert_bytes_string w C d e _ _ _ y u p,so I g3 E,aq,au]
    ·cases q
   ·cases q
 ·rename_i e p;split at q
  case h_2=>cases q
  rename_i u;cases v<;>try (simp only [reduceCtorEq] at q;done)
  rename_i l;simp only [VR] at g;cases D<;>simp only [reduceCtorEq] at q;refine ⟨_,q,.mkR (d:=w.drawn+1) (q:=(Rf.of w.heap.size (l.length) (grownCap w l.length 0 e))) (x:=.slice (some ⟨w.heap.size,0,none⟩) l.length (grownCap w l.length 0 e))
   (ob:=.cells (Lib.bytesCells w e ⟨l.toArray⟩) e ((Lib.bytesCells w e ⟨l.toArray⟩).size,(Lib.bytesCells w e ⟨l.toArray⟩).size+1)) ?_ rfl rfl ?_ ?_⟩
  ·simp only [execOp,B,g,ak,Lib.run_convert_string_bytes w C d e ⟨l.toArray⟩ y p u,aq,au,ul];rfl
  ·have G:l.length<=grownCap w l.length 0 e:=by simp only [grownCap,Question.cut];omega
   have R:((ByteArray.mk l.toArray).data.map λb=>Value.int .u8 b.toNat).size=l.length:=by simp
   refine ⟨_,e,_,rfl,by simp,G,?_,?_,?_⟩
   ·simp only [Lib.bytesCells,Array.size_append,R,Array.size_replicate,ci,jC];have:(ByteArray.mk l.toArray).size=l.length:=rfl;rw [this];omega
   ·simp only [Lib.bytesCells,qJ,yQ,ci,jC,bM,o0,ie];rw [o5 (by simp),fO (by simp)];rw [lZ,Array.toList_map,uX];rfl
   ·refine .inr λj Z L=>?_;exact absurd L.1 (by simp only;omega)
  ·simp only [VR];exact .inl ⟨_,bK _ _ _,rfl⟩
 ·cases q
theorem EZ {S:Call} (Q:o.op=.call S) (W:TR ι s.T a.tmps) (hW:WR ι s.H s.nb w) (h:effK P (opd s.T) s.H f (.call S) c=some z):
  ∃e,c e=some z/\dt P ι f o a w e:=by
 obtain ⟨R,args,D⟩:=S;simp only [effK] at h;split at h
 case h_2=>cases h
 rename_i b;obtain ⟨l,hl,q⟩:=ah h;clear h;have g:=qU W hl;have K:(args.map a.eval).toList=args.toList.map a.eval:=by simp
 rw [<-K] at g;generalize Z:args.map a.eval=A at g;have B:∃U,∀w,((do let d <-resolve a.eval ⟨.builtin b,args,D⟩ o.type;invoke d.target d.args):Sem Next).run P w=(builtin b D o.type U A).run P w:=by
  refine ⟨args.map fun | .const _=>true | _=>false,λw=>?_⟩;simp only [resolve,Z,ak,au,aq,invoke];rfl
 obtain ⟨U,B⟩:=B;have one:∀{X:Value},A.toList=[X]->A[0]?=some X:=by
  intro X p;have:A=#[X]:=by apply gz;simpa using p
  simp [this]
 have E:∀{t:TypeId} {r:List TypeId},D.toList=t::r->D[0]?=some t:=by
  intro t r u;rw [<-lk,u];rfl
 have j:∀{n:Int} {rd:List Nat},b=.len->(∀w,(Builtin.len_ D o.type A).run P w=.ok (goInt n) w)->c { val:=some (.i .i64 n),rd:=rd }=some z->∃e,c e=some z/\dt P ι f o a w e:=by
  intro n rd N F hc;subst N;refine ⟨_,hc,.val (x:=.int .i64 n) ?_ (by simp [VR])⟩;simp only [execOp,Q];rw [B w];simp only [builtin,ak,F,aq,au,goInt]
 have C:∀{n:Int} {rd:List Nat},b=.cap->(∀w,(Builtin.cap_ D o.type A).run P w=.ok (goInt n) w)->c { val:=some (.i .i64 n),rd:=rd }=some z->∃e,c e=some z/\dt P ι f o a w e:=by
  intro n rd N F hc;subst N;refine ⟨_,hc,.val (x:=.int .i64 n) ?_ (by simp [VR])⟩;simp only [execOp,Q];rw [B w];simp only [builtin,ak,F,aq,au,goInt]
 split at q
 ·split at q
  ·rename_i sl;simp only [VRs,VR] at g;obtain ⟨_,_,p,rfl,rfl⟩:=g;split at q
   ·rename_i t r u;split at q
    ·rename_i v;refine j rfl (λw=>?_) q;simp only [Builtin.len_,E u,one p,ak,aH v,aq,au];rfl
    ·cases q
   ·cases q
  ·rename_i O Y n cp;simp only [VRs,VR] at g;obtain ⟨_,_,p,⟨r,cap,_,_,_,rfl⟩,rfl⟩:=g;split at q
   ·rename_i t r u;split at q
    ·rename_i v;refine j rfl (λw=>?_) q;simp only [Builtin.len_,E u,one p,ak,aH v,aq,au]
    ·cases q
   ·cases q
  ·simp only [VRs,VR] at g;obtain ⟨_,_,p,rfl,rfl⟩:=g;split at q
   ·rename_i t r u;split at q
    ·rename_i v;refine j rfl (λw=>?_) q;simp only [Builtin.len_,E u,one p,ak,aH v,aq,au];rfl
    ·cases q
   ·cases q
  ·rename_i O;simp only [VRs,VR] at g;obtain ⟨_,_,p,M,rfl⟩:=g;split at q
   ·rename_i t r u;split at q
    ·rename_i v;split at q
     ·rename_i tr l N;refine j (rd:=[O]) rfl (λw=>?_) q;rcases fa hW N with ⟨q,U,e',fr,L,q2,q4,q5,q6,q7,_⟩ | ⟨L,rfl⟩
      ·rcases M with ⟨q',G,rfl⟩ | ⟨G,_⟩
       ·rw [G] at L;cases L;simp only [Builtin.len_,E u,one p,ak,aH v,aq,au,q4]
       ·rw [G] at L;cases L
      ·rcases M with ⟨q,G,_⟩ | ⟨G,V,rfl⟩
       ·rw [G] at L;cases L
       ·simp only [Builtin.len_,E u,one p,ak,aH v,aq,au];rfl
     ·cases q
    ·cases q
   ·cases q
  ·rename_i zz O jj n _;simp only [VRs,VR] at g;obtain ⟨_,_,p,M,rfl⟩:=g;split at q
   ·rename_i t r u;split at q
    ·rename_i v;refine j rfl (λw=>?_) q;rcases M with ⟨q,cp,off,G,_,_,rfl⟩ | ⟨_,⟨rfl,_⟩,V,rfl⟩
     ·simp only [Builtin.len_,E u,one p,ak,aH v,aq,au]
     ·simp only [Builtin.len_,E u,one p,ak,aH v,aq,au]
    ·cases q
   ·cases q
  ·simp only [VRs] at g;obtain ⟨X,_,p,_,rfl⟩:=g;split at q
   ·rename_i t r u;split at q
    ·rename_i v;refine j rfl (λw=>?_) q;simp only [Builtin.len_,E u,one p,ak,aH v,aq,au]
    ·cases q
   ·cases q
  ·cases q
 ·split at q
  ·rename_i zz O jj nn m;simp only [VRs,VR] at g;obtain ⟨_,_,p,M,rfl⟩:=g;split at q
   ·rename_i t r u;split at q
    ·rename_i v;refine C rfl (λw=>?_) q;rcases M with ⟨q,cp,off,G,⟨_,hc⟩,_,rfl⟩ | ⟨_,⟨_,hc⟩,V,rfl⟩
     ·have:=hc m rfl;subst this;simp only [Builtin.cap_,E u,one p,ak,aH v,aq,au]
     ·have:=hc m rfl;subst this;simp only [Builtin.cap_,E u,one p,ak,aH v,aq,au]
    ·cases q
   ·cases q
  ·rename_i O Y nn m;simp only [VRs,VR] at g;obtain ⟨_,_,p,⟨qq,cp,G,hc,_,rfl⟩,rfl⟩:=g;split at q
   ·rename_i t r u;split at q
    ·rename_i v;refine C rfl (λw=>?_) q;have:=hc m rfl;subst this;simp only [Builtin.cap_,E u,one p,ak,aH v,aq,au]
    ·cases q
   ·cases q
  ·simp only [VRs,VR] at g;obtain ⟨_,_,p,rfl,rfl⟩:=g;split at q
   ·rename_i t r u;split at q
    ·rename_i v;refine C rfl (λw=>?_) q;simp only [Builtin.cap_,E u,one p,ak,aH v,aq,au];rfl
    ·cases q
   ·cases q
  ·cases q
 ·split at q
  ·rename_i k x k' y;split at q
   ·rename_i I;have I:=gm I;subst I;simp only [VRs,VR] at g;obtain ⟨_,_,p,rfl,_,_,rfl,rfl,rfl⟩:=g;refine ⟨_,q,.val (x:=.int k (cond (decide (y<x)) y x)) ?_ (by simp [VR])⟩;simp only [execOp,Q];rw [B w];simp only [builtin,ak,Builtin.min_,p,List.foldlM,Builtin.min2,au,aq];by_cases J:y<x<;>simp [J]
   ·cases q
  ·cases q
 ·split at q
  ·rename_i k x k' y;split at q
   ·rename_i I;have I:=gm I;subst I;simp only [VRs,VR] at g;obtain ⟨_,_,p,rfl,_,_,rfl,rfl,rfl⟩:=g;refine ⟨_,q,.val (x:=.int k (cond (decide (y>x)) y x)) ?_ (by simp [VR])⟩;simp only [execOp,Q];rw [B w];simp only [builtin,ak,Builtin.max_,p,List.foldlM,Builtin.max2,au,aq];by_cases J:y>x<;>simp [J]
   ·cases q
  ·cases q
 ·cases q
theorem JU {op:UnOp} {x:V} {X:Value} {c:V->Option α} (h:unK op x c=some z) (a:VR ι x X) (w:World):
  ∃v R,c v=some z/\VR ι v R/\(Op.unary op X).run P w=.ok R w:=by
 unfold unK at h;split at h
 ·simp only [VR] at a;subst a;exact ⟨_,_,h,rfl,rfl⟩
 ·simp only [VR] at a;subst a;exact ⟨_,_,h,rfl,rfl⟩
 ·cases h
theorem EH {x:Operand} {i:Bool} (v:o.op=.next x i) (A:TR ι s.T a.tmps) (E:WR ι s.H s.nb w) (h:effK P (opd s.T) s.H f (.next x i) c=some z):
  ∃e,c e=some z/\dt P ι f o a w e:=by
 simp only [effK] at h;split at h
 case h_2=>cases h
 rename_i b F;have t:=aP A F;simp only [VR] at t;obtain ⟨r,y,p⟩:=t;split at h
 case h_2=>cases h
 rename_i l pos B;obtain ⟨G,ob,n,m,q⟩:=(E.blk b _ B (by simp)).real (by simp);rw [y] at n;cases n;simp only [BR] at q;subst q;have j:(ByteArray.mk l.toArray).size=l.length:=rfl;have d:(getObj r.r).run P w=.ok (.stringIter ⟨l.toArray⟩ pos) w:=by simp [getObj,Sem.run,m]
 cases hc:Nat.blt pos l.length with
 | false=>
  rw [hc] at h;have C:¬pos<l.length:=λg=>by rw [show Nat.blt pos l.length=true from cZ g] at hc;cases hc
  refine ⟨_,h,.val (x:=.tuple #[.bool false]) ?_ (by simp [VR,VRs])⟩;simp only [execOp,v,p,Instr.next,ak,d,aq,j,C,aE,au]
 | true=>
  rw [hc] at h;have g:pos<l.length:=ax hc;refine ⟨_,h,?_⟩;unfold dt;have k:∀ob,(Go.setObj r.r ob).run P w=.ok () (setObj w r.r ob):=by
   intro ob;simp [Go.setObj,Sem.run,m,setObj]
  refine ⟨r,y,λ_=>⟨.stringIter ⟨l.toArray⟩ (pos+(dec l pos).2),.value (.tuple #[.bool true,.int .i64 pos,.int .i32 (dec l pos).1]),?_,rfl,.value _ λu D=>by cases D;simp [VR,VRs]⟩⟩;simp only [execOp,v,p,Instr.next,ak,d,aq,j,g,aY,k,au,dec,goInt]
theorem xB {t:List Lf} (x:den t):∀n,(List.replicate n x).flatMap (vals t)=(List.replicate n (vals t x)).flatten
 | 0=>rfl
 | n+1=>by simp [oU,lE,xB x n]
theorem A0 {l:List Value}:∀n:Nat,(List.replicate n l).flatten.length=n*l.length
 | 0=>by simp
 | n+1=>by rw [oU,List.flatten_cons,iQ,A0 n,dB];omega
theorem AP {l:List Value}:∀(n j:Nat),j<n*l.length->(List.replicate n l).flatten[j]?=l[j%l.length]?
 | 0,j,h=>by simp at h
 | n+1,j,h=>by
  simp only [oU,List.flatten_cons];by_cases a:j<l.length
  ·rw [jl a,nh a]
  ·rw [la (by omega),AP n _ (by rw [dB] at h;omega),<-Nat.mod_eq_sub_mod (by omega)]
theorem us {t:TypeId} {x y:Operand} (Z:o.op=.makeSlice t x y) (K:TR ι s.T a.tmps) (h:effK P (opd s.T) s.H f (.makeSlice t x y) c=some z):
  ∃e,c e=some z/\dt P ι f o a w e:=by
 simp only [effK] at h;obtain ⟨u,D,R⟩:=ah h;obtain ⟨v,E,b⟩:=ah R;clear h R;have D:=aP K D;have E:=aP K E;split at b
 case h_2=>cases b
 rename_i e U;split at b
 case h_2=>cases b
 rename_i k1 n k2 m _ _;simp only [VR] at D E;obtain ⟨zv,J,b⟩:=ah b;split at b
 case h_2=>cases b
 rename_i tr p _ l;split at b
 case h_2=>cases b
 rename_i L;simp only [av,eM] at L;obtain ⟨Q,e2,N,F⟩:=L;have N:=ax N;have F:=ax F;obtain ⟨X,I,b⟩:=ah b;obtain ⟨hc,b⟩:=ca b;simp only [av,bY] at hc;obtain ⟨c0,S,c2⟩:=hc;obtain ⟨zc,i,O,Y,W,_⟩:=pW ι J;rw [l] at O;cases O;have g:=jd W;rw [pI I] at g;have g:=(ip ι tr X _).1 g;have r:p.size=P.cellsOf e:=by unfold Program.cellsOf;rw [l];rfl
 have V:m=(m.toNat:Int):=by omega
 have A:=run_make (P:=P) w t e p zc U l Y k1 k2 n m c0 S (by
  rw [V,<-Bc];have:p.bytes*m.toNat<=1048576*67108864:=qY F (by omega);omega) (by omega)
 refine ⟨_,b,.mkR (d:=w.drawn) (q:=(Rf.of w.heap.size (n.toNat) (m.toNat))) (x:=.slice (some ⟨w.heap.size,0,none⟩) n.toNat m.toNat) (ob:=.cells (madeCells zc.cells (m.toNat*p.size)) e) ?_ rfl rfl ?_ ?_⟩
 ·simp only [execOp,Z,D,E,ak,A,aq,au]
 ·have G:(madeCells zc.cells (m.toNat*p.size)).size=m.toNat*p.size:=size_madeCells _ _;refine ⟨_,e,_,rfl,by simp,by simp only;omega,by rw [G,r,Q];simp,?_,.inr (m6 _)⟩;simp only [ie];rw [xB,List.length_replicate,<-g];apply vu;intro j;have k:zc.cells.toList.length=tr.length:=by rw [g,fK]
  have B:zc.cells.size=tr.length:=by simpa using k
  have hle:n.toNat*tr.length<=m.toNat*tr.length:=jV _ (by omega);by_cases M:j<n.toNat*tr.length
  ·rw [lS M,AP n.toNat j (by rw [k];exact M),k];have C:j%tr.length<zc.cells.size:=by rw [B];exact na _ (by omega)
   simp only [madeCells,r,<-Q,B];rw [lk,Array.getElem?_map,Array.getElem?_range];simp [show j<m.toNat*tr.length by omega,C]
  ·rw [dx (by rw [eH];omega),dx (by rw [A0,k];omega)]
 ·simp only [VR];exact .inl ⟨_,bK _ _ _,rfl⟩
theorem Iy {op:BinOp} {t:TypeId} {x y:Operand} {u v:V} {r:Bool} {X Y:Value} (h:niK P op t x y u v=some r) (e:VR ι u X) (b:VR ι v Y) (w:World):
  (eqGuard op t x y X Y).run P w=.ok () w/\(binOp op t X Y).run P w=.ok (.bool r) w:=by
 unfold niK at h;split at h
 case h_2=>cases h
 simp only [VR] at e b;subst e b;split at h
 case h_2=>cases h
 rename_i hc;split at h
 case h_2=>cases h
 rename_i i g;have c:∀o:BinOp,o=.eql\/o=.neq->(eqGuard o t x y .nilIface .nilIface).run P w=.ok () w:=by
  intro o f;have a:(∃v,x=.const v)\/∃v,y=.const v:=by
   rw [eT] at hc;refine hc.imp (λh=>?_) (λh=>?_)
   ·cases x<;>simp_all [yB]
   ·cases y<;>simp_all [yB]
  rcases a with ⟨v,rfl⟩ | ⟨v,rfl⟩<;>rcases f with rfl | rfl<;>simp [eqGuard]
 have d:(Op.equal t .nilIface .nilIface).run P w=.ok true w:=by rw [co,Op.equalIn];simp [aH g]
 split at h
 ·simp only [ae] at h;subst h;exact ⟨c _ (.inl rfl),by simp [binOp,d]⟩
 ·simp only [ae] at h;subst h;exact ⟨c _ (.inr rfl),by simp [binOp,d]⟩
 ·cases h
theorem gi {t e:TypeId} {d:TypeInfo} (p:P.underlying t=some (.slice e)) (hi:P.info? e=some d) {n cp:Nat} {a:Option Addr} {k k':IntKind} {h m:Int} {H M:Nat} (b:bx n m=some M) (f:bx M h=some H) (u:n<=cp) (w:World):
  (Instr.sliceAt t (.slice a n cp) none (some (.int k h)) (some (.int k' m))).run P w=.ok (.slice a H M) w:=by
 obtain ⟨l,s,rfl⟩:=gW b;obtain ⟨g,c,rfl⟩:=gW f;have j:=run_sliceBound (P:=P) w k' m cp .slice3Acap l (by omega);have i:=run_sliceBound (P:=P) w k h m.toNat .slice3B g c;simp only [Instr.sliceAt,Instr.slice,ak,aH p,aq,Instr.sliceBounds,aY,j,i,au,db hi,qN,Nat.zero_mul];split
 ·rfl
 ·cases a with
  | none=>rfl
  | some q=>obtain ⟨r,o,x⟩:=q;simp [Addr.add]
theorem Ak {t:TypeId} {x U:Operand} {lo hi:Option Operand} (I:o.op=.slice t x lo hi (some U)) (K:TR ι s.T a.tmps) (hW:WR ι s.H s.nb w) (h:effK P (opd s.T) s.H f (.slice t x lo hi (some U)) c=some z):
  ∃e,c e=some z/\dt P ι f o a w e:=by
 simp only [effK,oJ] at h;split at h
 case h_2=>cases h
 rename_i hh;obtain ⟨v,Z,d⟩:=ah h;clear h;have C:=aP K Z;clear Z;split at d
 case h_2=>cases d
 rename_i k1 hi1 k2 m1 L O;have E:=aP K L;have D:=aP K O;simp only [VR] at E D;split at d
 case h_2=>cases d
 rename_i e F;split at d
 case h_2=>cases d
 rename_i hp;obtain ⟨ti,m⟩:=bg hp;split at d
 ·rename_i b;split at d
  case h_2=>cases d
  rename_i tr l hb;split at d
  case h_2=>cases d
  obtain ⟨M,p,J⟩:=ah d;obtain ⟨H,u,A⟩:=ah J;obtain ⟨W,Q,Y⟩:=gW p;obtain ⟨X,V,R⟩:=gW u;simp only [VR] at C;rcases fa hW hb with ⟨q,cs,e',fr,B,r2,r4,r5,_,_,_⟩ | ⟨B,rfl⟩
  ·rcases C with ⟨q',g,y⟩ | ⟨g,_⟩
   ·rw [g] at B;cases B;refine ⟨_,A,.val (x:=.slice (some ⟨q.r,q.o,none⟩) H M) ?_ ?_⟩
    ·simp only [execOp,I,y,E,D,ak,ew,cK];rw [<-r4,gi F m p u (by omega) w];rfl
    ·simp only [VR];exact .inl ⟨q,_,_,g,⟨by omega,mf⟩,λ_=>by omega,rfl⟩
   ·rw [g] at B;cases B
  ·rcases C with ⟨q,g,y⟩ | ⟨g,G,y⟩
   ·rw [g] at B;cases B
   ·simp only [jC] at Q;have i:M=0:=by omega
    have k:H=0:=by omega
    subst i k;refine ⟨_,A,.val (x:=.slice G 0 0) ?_ (by unfold VR;exact .inr ⟨g,⟨rfl,mf⟩,G,rfl⟩)⟩;simp only [execOp,I,y,E,D,ak,ew,cK];rw [gi F m (n:=0) (M:=0) p u (by omega) w];rfl
 ·rename_i zz b j n _;obtain ⟨M,p,J⟩:=ah d;obtain ⟨H,u,A⟩:=ah J;obtain ⟨W,Q,Y⟩:=gW p;obtain ⟨X,V,R⟩:=gW u;simp only [VR] at C;rcases C with ⟨q,cp,off,g,⟨N,_⟩,h8,y⟩ | ⟨g,⟨N,_⟩,G,y⟩
  ·refine ⟨_,A,.val (x:=.slice (some ⟨q.r,off,none⟩) H M) ?_ ?_⟩
   ·simp only [execOp,I,y,E,D,ak,ew,cK];rw [gi F m p u N w];rfl
   ·simp only [VR];exact .inl ⟨q,_,_,g,⟨by omega,mf⟩,λS=>h8 (by omega),rfl⟩
  ·subst N;have i:M=0:=by omega
   have k:H=0:=by omega
   subst i k;refine ⟨_,A,.val (x:=.slice G 0 0) ?_ (by unfold VR;exact .inr ⟨g,⟨rfl,mf⟩,G,rfl⟩)⟩;simp only [execOp,I,y,E,D,ak,ew,cK];rw [gi F m (n:=0) (M:=0) p u (by omega) w];rfl
 ·obtain ⟨M,p,J⟩:=ah d;obtain ⟨H,u,A⟩:=ah J;obtain ⟨W,Q,Y⟩:=gW p;obtain ⟨X,V,R⟩:=gW u;simp only [VR] at C;have i:M=0:=by omega
  have k:H=0:=by omega
  subst i k;refine ⟨_,A,.val (x:=.slice none 0 0) ?_ (by simp only [VR])⟩;simp only [execOp,I,C,E,D,ak,ew,cK];rw [gi F m (n:=0) (M:=0) p u (by omega) w];rfl
 ·cases d
theorem Jd {op:BinOp} {t:TypeId} {u v:V} {r:Bool} {n:Nat} {rd:List Nat} {X Y:Value} {H:List (Nat×Blk)} {nb:Nat} (h:slN P op t u v=some r) (a:slL H u=some (n,rd)) (C:0<n) (D:WR ι H nb w) (g:VR ι u X) (s:VR ι v Y) (p q:Operand):
  (eqGuard op t p q X Y).run P w=.ok () w/\(binOp op t X Y).run P w=.ok (.bool r) w:=by
 unfold slN at h;split at h
 case h_2=>cases h
 simp only [VR] at s;subst s;have b:∀(A:Addr) (n c:Nat),X=.slice (some A) n c->P.underlying t=(P.underlying t)->∀e,P.underlying t=some (.slice e)->
   ((eqGuard .eql t p q X (.slice none 0 0)).run P w=.ok () w/\(binOp .eql t X (.slice none 0 0)).run P w=.ok (.bool false) w)/\
   ((eqGuard .neq t p q X (.slice none 0 0)).run P w=.ok () w/\(binOp .neq t X (.slice none 0 0)).run P w=.ok (.bool (!false)) w):=by
  rintro A n c rfl _ e i;exact ks p q (.inl (by simp)) (.inl (by simp)) (by simp) (by rw [co,Op.equalIn];simp [aH i])
 have d:∀(A:Addr) (n c:Nat),X=.slice (some A) n c->slT P op t=some r->(eqGuard op t p q X (.slice none 0 0)).run P w=.ok () w/\(binOp op t X (.slice none 0 0)).run P w=.ok (.bool r) w:=by
  intro A n c y h;unfold slT at h;split at h
  case h_2=>cases h
  rename_i e i;obtain ⟨G,E⟩:=b A n c y rfl e i;split at h
  ·simp only [ae] at h;subst h;exact G
  ·simp only [ae] at h;subst h;exact E
  ·cases h
 split at h
 ·rename_i c;simp only [slL] at a;split at a
  case h_2=>cases a
  rename_i tr l x;simp only [ae,bX] at a;obtain ⟨rfl,_⟩:=a;simp only [VR] at g;rcases fa D x with ⟨J,I,K,fr,o,O,r4,_⟩ | ⟨o,rfl⟩
  ·rcases g with ⟨F,f,k⟩ | ⟨f,_⟩
   ·exact d _ _ _ k h
   ·rw [f] at o;cases o
  ·simp at C
 ·rename_i z c j m Q;simp only [slL,ae,bX] at a;obtain ⟨rfl,_⟩:=a;simp only [VR] at g;rcases g with ⟨F,N,L,f,k,M,B⟩ | ⟨f,⟨k,_⟩,_⟩
  ·exact d _ _ _ B h
  ·omega
 ·cases h
theorem wQ {t:TypeId} {x:Option Operand} (b:o.op=.makeMap t x) (h:effK P (opd s.T) s.H f (.makeMap t x) c=some z):∃e,c e=some z/\dt P ι f o a w e:=by
 simp only [effK] at h;split at h
 case h_2=>cases h
 split at h
 case h_2=>cases h
 refine ⟨_,h,.mk (x:=.map (some w.heap.size)) (ob:=.map #[] 0) ?_ ⟨#[],0,rfl,rfl⟩ (by simp only [VR];exact ⟨_,bK _ _ _,rfl⟩)⟩;simp only [execOp,b,ew,ak];rfl
theorem F9 {H:List (Nat×Blk)} {nb b:Nat} {w:World} (g:WR ι H nb w) {k:IntKind} {l:List (Int×Nat)} (i:look H b=some (.mp k l)):
  ∃q c a,ι b=some (some q)/\w.heap[q.r]?=some (.map c a)/\c.toList.map (λe=>(e.key,e.val))=l.map λp=>(Value.int k p.1,fnV p.2 #[]):=by
 obtain ⟨q,o,f,h,c,a,rfl,d⟩:=(g.blk b _ i (by simp)).real (by simp);exact ⟨q,c,a,f,h,d⟩
theorem CH {α:Type} {k:IntKind} {n:Int} {c:Nat->Option α} {z:α}:∀(d:List MapEntry) (l:List (Int×Nat)) (i:Nat),d.map (λe=>(e.key,e.val))=l.map (λp=>(Value.int k p.1,fnV p.2 #[]))->mapK l n c=some z->
  ∃g j,c g=some z/\Instr.findNow (.int k) (.int k n) d i=some (some (j,fnV g #[]))
 | [],[],_,_,h=>by cases h
 | [],_::_,_,a,_=>by simp at a
 | _::_,[],_,a,_=>by simp at a
 | e::d,(m,g)::l,i,a,h=>by
  simp only [fU,List.cons.injEq,bX] at a;obtain ⟨⟨f,s⟩,q⟩:=a;simp only [mapK] at h;cases b:(n==m) with
  | true=>
   rw [b] at h;exact ⟨g,i,h,by simp only [Instr.findNow,f,Instr.sameNow,aY,b,s]⟩
  | false=>
   rw [b] at h;obtain ⟨r,j,t,o⟩:=CH d l (i+1) q h;exact ⟨r,j,t,by simp only [Instr.findNow,f,Instr.sameNow,aY,b];exact o⟩
theorem zN {t:TypeId} {m x:Operand} {ok:Bool} (K:o.op=.lookup t m x ok) (p:TR ι s.T a.tmps) (G:WR ι s.H s.nb w) (h:effK P (opd s.T) s.H f (.lookup t m x ok) c=some z):
  ∃e,c e=some z/\dt P ι f o a w e:=by
 simp only [effK] at h;split at h
 case h_2=>cases h
 rename_i b C;split at h
 case h_2=>cases h
 rename_i k n Q;split at h
 case h_2=>cases h
 rename_i R S B;split at h
 case h_2=>cases h
 rename_i k2 r;split at h
 case h_2=>cases h
 rename_i k1 l A;split at h
 case h_2=>cases h
 rename_i d;simp only [av] at d;have O:=gm d.1;have F:=gm d.2;subst O F;have y:=aP p C;have v:=aP p Q;simp only [VR] at y v;obtain ⟨q,M,J⟩:=y;obtain ⟨U,L,i,u,I,N⟩:=F9 G A;rw [M] at u;cases u;obtain ⟨g,j,D,E⟩:=CH L.toList l 0 N h;refine ⟨_,D,.val (x:=fnV g #[]) ?_ (by simp only [VR];exact ⟨#[],rfl,by simp [VRs]⟩)⟩;simp only [execOp,K,J,v,ak,Instr.lookup,aH B,aq,MapKept.run_getObj_map I,au,
  MapKept.run_checkKey (k:=.int k2 n) r (by simp [MapKept.IsKey]),MapKept.run_findKey r E]
 rfl
theorem zU {t:TypeId} {m x y:Operand} (ho:o.op=.insert t m x y) (F:TR ι s.T a.tmps) (hW:WR ι s.H s.nb w) (h:effK P (opd s.T) s.H f (.insert t m x y) c=some z):
  ∃e,c e=some z/\dt P ι f o a w e:=by
 simp only [effK] at h;split at h
 case h_2=>cases h
 rename_i b hm;split at h
 case h_2=>cases h
 rename_i k n g hx W;split at h
 case h_2=>cases h
 rename_i kt et hd;split at h
 case h_2=>cases h
 rename_i k2 K;split at h
 case h_2=>cases h
 rename_i k1 l X;split at h
 case h_2=>cases h
 rename_i A;simp only [av] at A;obtain ⟨J,G,B⟩:=A;have Z:=gm J;have e2:=gm G;subst Z e2;have R:=aP F hm;have N:=aP F hx;have S:=aP F W;simp only [VR] at R N S;obtain ⟨q,O,h2⟩:=R;obtain ⟨V,Y,U⟩:=S;simp only [VRs] at U;have I:V=#[]:=by
  apply gz;simpa using U
 subst I;obtain ⟨q',E,d,L,M,Q⟩:=F9 hW X;rw [O] at L;cases L;have C:∀e∈E.toList,∃p∈l,e.key=.int k2 p.1:=by
  intro e u;have:(e.key,e.val)∈l.map λp=>(Value.int k2 p.1,fnV p.2 #[]):=by rw [<-Q];exact eC.2 ⟨e,u,rfl⟩
  obtain ⟨p,D,i⟩:=eC.1 this;simp only [bX] at i;exact ⟨p,D,i.1.symm⟩
 have r:MapKept.IsKey (.int k2) (.int k2 n):=by simp [MapKept.IsKey]
 have v:Instr.findNow (.int k2) (.int k2 n) E.toList 0=some none:=by
  rcases MapKept.findNow_spec r E.toList 0 (λe u=>by obtain ⟨p,_,D⟩:=C e u;rw [D];simp [MapKept.IsKey]) with ⟨h,_⟩ | ⟨j,e,_,hj,u⟩
  ·exact h
  ·exfalso;obtain ⟨p,D,i⟩:=C e (gD hj);rw [i] at u;have:=(bz.1 B) p D;simp only [Value.int.injEq,kT] at u;simp [u] at this
 refine ⟨_,h,?_⟩;unfold dt;refine ⟨q,O,λ_=>⟨.map (E.push { key:=.int k2 n,val:=fnV g #[],born:=d }) (d+1),.skip,?_,⟨_,_,rfl,?_⟩,.skip rfl⟩⟩
 ·simp only [execOp,ho,h2,N,Y,ak,Instr.mapUpdate,aH hd,aq,MapKept.run_getObj_map M,MapKept.run_checkKey (k:=.int k2 n) K r,MapKept.run_findKey K v,MapKept.run_setObj_map _ M,au];rfl
 ·rw [Array.toList_push,List.map_append,List.map_append,Q];rfl
theorem Ba (k:TR ι s.T a.tmps) (D:WR ι s.H s.nb w) (hf:ι f=none) (h:effK P (opd s.T) s.H f o.op c=some z):∃e,c e=some z/\dt P ι f o a w e:=by
 cases j:o.op with
 | move x=>
  rw [j] at h;simp only [effK] at h;obtain ⟨v,p,h⟩:=ah h;exact ⟨_,h,.val (by simp only [execOp,j,au]) (aP k p)⟩
 | assign x=>
  rw [j] at h;simp only [effK] at h;obtain ⟨v,p,h⟩:=ah h;exact ⟨_,h,.val (by simp only [execOp,j,au]) (aP k p)⟩
 | pick q x y=>
  rw [j] at h;simp only [effK] at h;split at h
  ·rename_i t O;have p:=aP k O;simp only [VR] at p;cases t
   ·simp only [af] at h;obtain ⟨v,A,h⟩:=ah h;exact ⟨_,h,.val (x:=a.eval y) (by simp [execOp,j,p,asBool]) (aP k A)⟩
   ·simp only [ar] at h;obtain ⟨v,A,h⟩:=ah h;exact ⟨_,h,.val (x:=a.eval x) (by simp [execOp,j,p,asBool]) (aP k A)⟩
  ·cases h
 | alloc t=>rw [j] at h;exact DT j h
 | makeMap t x=>rw [j] at h;exact wQ j h
 | insert t m x y=>rw [j] at h;exact zU j k D h
 | lookup t m x ok=>rw [j] at h;exact zN j k D h
 | box t x=>rw [j] at h;exact Ib j k hf h
 | build t ps=>rw [j] at h;exact Ao j k h
 | buildSlice t n ps=>rw [j] at h;exact si j k hf h
 | load t x=>rw [j] at h;exact EI j k D h
 | makeSlice t x y=>rw [j] at h;exact us j k h
 | store t x y=>rw [j] at h;exact AL j k D h
 | nilCheck x=>
  rw [j] at h;simp only [effK] at h;split at h
  ·rename_i b off B;have p:=aP k B;have A:=p;simp only [VR] at p;obtain ⟨r,h5,C⟩:=p;exact ⟨_,h,.val (x:=a.eval x) (by simp [execOp,j,C]) A⟩
  ·rename_i zz b jj off B;have p:=aP k B;have A:=p;simp only [VR] at p;obtain ⟨r,h5,C⟩:=p;exact ⟨_,h,.val (x:=a.eval x) (by simp [execOp,j,C]) A⟩
  ·rename_i g l B;have p:=aP k B;have A:=p;simp only [VR] at p;obtain ⟨V,C,_⟩:=p;obtain ⟨g',b',c',h7⟩:=tj g V;exact ⟨_,h,.val (x:=a.eval x) (by simp [execOp,j,C,h7]) A⟩
  ·rename_i b off n m B;have p:=aP k B;have A:=p;simp only [VR] at p;obtain ⟨r,cp,_,_,_,C⟩:=p;exact ⟨_,h,.val (x:=a.eval x) (by simp [execOp,j,C]) A⟩
  ·rename_i t v B;have p:=aP k B;have A:=p;simp only [VR] at p;obtain ⟨y,C,_⟩:=p;exact ⟨_,h,.val (x:=a.eval x) (by simp [execOp,j,C]) A⟩
  ·cases h
 | binOp op t x y yt=>
  rw [j] at h;simp only [effK] at h;obtain ⟨u,I,h⟩:=ah h;obtain ⟨v,p,h⟩:=ah h;split at h
  ·rename_i r U;have B:=aP k I;have L:=aP k p;obtain ⟨J,M⟩:=Iy U B L w;exact ⟨_,h,.val (x:=.bool r) (by simp only [execOp,j,ak,J,M,aq,au]) (by simp [VR])⟩
  split at h
  ·rename_i r U;split at h
   case h_2=>cases h
   rename_i m rd F;obtain ⟨hm,h⟩:=ca h;obtain ⟨J,M⟩:=Jd U F (ax hm) D (aP k I) (aP k p) x y;exact ⟨_,h,.val (x:=.bool r) (by simp only [execOp,j,ak,J,M,aq,au]) (by simp [VR])⟩
  obtain ⟨R,X,h1,Z,J,M⟩:=HO h (aP k I) (aP k p) x y w;exact ⟨_,h1,.val (x:=X) (by simp only [execOp,j,ak,J,M,aq,au]) Z⟩
 | unOp op t x=>
  rw [j] at h;simp only [effK] at h;obtain ⟨u,I,h⟩:=ah h;obtain ⟨R,X,h1,Z,J⟩:=JU (P:=P) h (aP k I) w;exact ⟨_,h1,.val (x:=X) (by simp only [execOp,j,ak,J,aq,au]) Z⟩
 | convert sr d x=>rw [j] at h;exact ww j k D h
 | next x str=>rw [j] at h;exact EH j k D h
 | makeInterface t x=>
  rw [j] at h;simp only [effK] at h;obtain ⟨u,I,h⟩:=ah h;have p:=aP k I;split at h
  ·cases h
  ·rename_i d S Q;refine ⟨_,h,.val (x:=.iface t (a.eval x)) ?_ (by simp only [VR];exact ⟨_,rfl,p⟩)⟩;simp only [execOp,j,Instr.makeInterface,ak,aH Q,aq];cases d<;>first | rfl | exact absurd rfl (S _)
  ·cases h
 | makeFunc fn first cap=>
  rw [j] at h;simp only [effK] at h;split at h
  ·rename_i g G;split at h
   case h_2=>cases h
   rename_i hb;obtain ⟨l,F,h⟩:=ah h;have K:=qU k F;have E:first=#[]:=by apply gz;simpa using G
   refine ⟨_,h,.val (x:=.func (.func g) #[] (cap.map a.eval)) ?_ (by simp only [VR];exact ⟨_,(xa hb _).symm,by simpa using K⟩)⟩;simp only [execOp,j,Instr.makeFunc,E,zr,ak,au,aq]
  ·rename_i g _ _ G;split at h
   ·rename_i N;obtain ⟨l,F,h⟩:=ah h;have K:=qU k F;have hcap':cap=#[]:=by apply gz;simpa using N
    refine ⟨_,h,.val (x:=.func (.func g) (first.map a.eval) #[]) ?_ (by simp only [VR];exact ⟨_,(EK g _).symm,by simpa using K⟩)⟩;simp only [execOp,j,Instr.makeFunc,hcap',zr,ak,au,aq]
   ·cases h
  ·cases h
 | slice t x lo hi mx=>
  rw [j] at h;cases mx with
  | none=>exact DG j k D h
  | some m=>exact Ak j k D h
 | fieldAddr t x i=>rw [j] at h;exact uJ j k h
 | field t x i=>rw [j] at h;exact CG j k h
 | indexAddr t x i=>rw [j] at h;exact ud j k D h
 | index t x i=>rw [j] at h;exact DJ j k h
 | range t x=>rw [j] at h;exact AQ j k h
 | extract x i=>
  rw [j] at h;simp only [effK] at h;split at h
  ·rename_i l B;obtain ⟨v,p,h⟩:=ah h;have F:=aP k B;simp only [VR] at F;obtain ⟨V,C,Y⟩:=F;obtain ⟨y,L,W⟩:=Y.get p;have hy':V[i]?=some y:=by simpa using L
   exact ⟨_,h,.val (x:=y) (by simp [execOp,j,C,Instr.extract,hy']) W⟩
  ·cases h
 | typeAssert x xt at_ ok=>
  rw [j] at h;simp only [effK] at h;split at h
  case h_2=>cases h
  rename_i t v B;have p:=aP k B;simp only [VR] at p;obtain ⟨y,C,L⟩:=p;split at h
  ·cases h
  ·rename_i d S Q;split at h
   case h_2=>cases h
   rename_i O;have O:=aS O;subst O;cases ok with
   | true=>
    refine ⟨_,h,.val (x:=.tuple #[y,.bool true]) ?_ (by simp only [VR,VRs];exact ⟨_,rfl,y,[.bool true],rfl,L,_,[],rfl,rfl,rfl⟩)⟩;simp only [execOp,j,C,Instr.typeAssert,ak,aH Q,aq];cases d<;>first | simp | exact absurd rfl (S _)
   | false=>
    refine ⟨_,h,.val (x:=y) ?_ L⟩;simp only [execOp,j,C,Instr.typeAssert,ak,aH Q,aq];cases d<;>first | simp | exact absurd rfl (S _)
  ·cases h
 | call cl=>rw [j] at h;exact EZ j k D h
 | _=>rw [j] at h;simp [effK] at h
end ops
end Go.Abs
