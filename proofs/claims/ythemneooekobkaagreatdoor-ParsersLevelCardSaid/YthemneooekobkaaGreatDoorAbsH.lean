
/- The abstract effect of an operation is what the model's own operation does: the operations that make no memory; all of them together.
   Conditions: none; generic over the program. -/
import Derived.Test.YthemneooekobkaaGreatDoorAbsG
import Derived.Laws.BytesArg
import Derived.Laws.BytesString
import Derived.Lib.ConvBytes
import Derived.Laws.MakeOwn
import Derived.Deep.AppendSrc
import Derived.MapKept
set_option linter.unusedSimpArgs false
set_option linter.unusedVariables false
namespace Go.Abs
variable {P:Program}
section ops
variable {α:Type} {ι:Inj} {s:St} {a:Act} {w:World} {f:Nat} {o:Oper} {c:Eff->Option α} {z:α}
theorem vh {t:TypeId} {a:Array Field} {fd:Field} {i:Nat} {d:TypeInfo} (c:P.underlying t=some (.struct a)) (b:a[i]?=some fd) (hi:P.info? fd.type=some d)
  (e:0<P.cellsOf fd.type) (r off:Nat) (w:World):(Instr.fieldAt t (.pointer (some ⟨r,off,none⟩)) i).run P w=.ok (.pointer (some ⟨r,off+fd.offset,none⟩)) w:=by
 simp only [Instr.fieldAt,ax,aS c,az,b,Instr.sureAddr,aC,fieldPlace,fb hi,show ¬(P.cellsOf fd.type=0) by omega,aE,kV]
theorem yV {t:TypeId} {x:Operand} {i:Nat} (y:o.op=.fieldAddr t x i) (v:TR ι s.T a.tmps) (h:effK P (opd s.T) s.H f (.fieldAddr t x i) c=some z):
  ∃e,c e=some z/\fK P ι f o a w e:=by
 simp only [effK] at h;split at h
 ·rename_i b off q;split at h
  ·rename_i C n;split at h
   ·rename_i fd m;split at h
    ·rename_i k;obtain ⟨B,g⟩:=bM k;have l:=bh v q;simp only [VR] at l;obtain ⟨r,u,p⟩:=l;have d:=vh n (by simpa using m) g (aH k) r.r off w;exact ⟨_,h,.val (x:=.pointer (some ⟨r.r,off+fd.offset,none⟩)) (by simp only [execOp,y,p,ax,d,az,aC]) (by simp only [VR,nK];exact ⟨r,u,rfl⟩)⟩
    ·cases h
   ·cases h
  ·cases h
 ·rename_i A b j off q;split at h
  ·rename_i C n;split at h
   ·rename_i fd m;split at h
    ·rename_i k;obtain ⟨B,g⟩:=bM k;have l:=bh v q;simp only [VR] at l;obtain ⟨r,u,p⟩:=l;have d:=vh n (by simpa using m) g (aH k) r.r (r.o+(j*A+off)) w;exact ⟨_,h,.val (x:=.pointer (some ⟨r.r,r.o+(j*A+off)+fd.offset,none⟩)) (by simp only [execOp,y,p,ax,d,az,aC]) (by simp only [VR,nK];exact ⟨r,u,by rw [gh,gh]⟩)⟩
    ·cases h
   ·cases h
  ·cases h
 ·cases h
theorem IS {t:TypeId} {x:Operand} {i:Nat} (r:o.op=.field t x i) (F:TR ι s.T a.tmps) (h:effK P (opd s.T) s.H f (.field t x i) c=some z):
  ∃e,c e=some z/\fK P ι f o a w e:=by
 simp only [effK] at h;split at h
 ·rename_i l D;have u:=bh F D;simp only [VR] at u;obtain ⟨n,q,j⟩:=u;split at h
  ·rename_i E p;split at h
   ·rename_i fd A;have hf':E[i]?=some fd:=by simpa using A
    split at h
    ·rename_i b;split at h
     ·have C:∃d,P.underlying fd.type=some d:=by
       unfold bJ at b;split at b
       ·exact ⟨_,by assumption⟩
       ·exact ⟨_,by assumption⟩
       ·cases b
      obtain ⟨d',g⟩:=C;obtain ⟨I,m⟩:=lj g;refine ⟨_,h,.val (x:=.agg (n.extract fd.offset (fd.offset+P.cellsOf fd.type))) ?_ (nH (j.extract _ _))⟩;simp only [execOp,r,q,Instr.field,ax,aS p,az,hf',asAgg,aC,part,jk g,b,aJ,fb m]
     ·cases h
    ·rename_i b;split at h
     ·rename_i d' g;obtain ⟨v,G,h⟩:=av h;obtain ⟨y,B,k⟩:=j.get G;have hy':n[fd.offset]?=some y:=by simpa using B
      refine ⟨_,h,.val (x:=y) ?_ k⟩;simp only [execOp,r,q,Instr.field,ax,aS p,az,hf',asAgg,aC,part,jk g,b,bq,aE,hy']
     ·cases h
   ·cases h
  ·cases h
 ·cases h
theorem mR {t e:TypeId} {m:Nat} {b:TypeInfo} (c:P.underlying t=some (.array m e)) (hi:P.info? e=some b) (k:IntKind) {n:Int} (a:0<=n) (d:n<m) (r off:Nat) (w:World):
  (Instr.indexAt t (.pointer (some ⟨r,off,none⟩)) (.int k n)).run P w=.ok (.pointer (some ⟨r,off+n.toNat*P.cellsOf e,none⟩)) w:=by
 simp only [Instr.indexAt,asIntOf,ax,aC,az,aS c,Instr.sureAddr,a,d,and_self,aJ,fb hi,kV]
theorem jS {t e:TypeId} {m cp:Nat} {b:TypeInfo} (c:P.underlying t=some (.slice e)) (hi:P.info? e=some b) (k:IntKind) {n:Int} (a:0<=n) (d:n<m) (r off:Nat) (w:World):
  (Instr.indexAt t (.slice (some ⟨r,off,none⟩) m cp) (.int k n)).run P w=.ok (.pointer (some ⟨r,off+n.toNat*P.cellsOf e,none⟩)) w:=by
 simp only [Instr.indexAt,asIntOf,ax,aC,az,aS c,a,d,and_self,aJ,fb hi,kV]
theorem yp {t:TypeId} {x i:Operand} (I:o.op=.indexAddr t x i) (G:TR ι s.T a.tmps) (Q:WR ι s.H s.nb w) (h:effK P (opd s.T) s.H f (.indexAddr t x i) c=some z):
  ∃e,c e=some z/\fK P ι f o a w e:=by
 simp only [effK] at h;split at h
 case h_2=>cases h
 rename_i k n hi;have v:=bh G hi;simp only [VR] at v;split at h
 ·rename_i m e F;split at h
  ·rename_i b off E;have u:=bh G E;simp only [VR] at u;obtain ⟨r,y,D⟩:=u;split at h
   ·rename_i p;obtain ⟨K,g⟩:=bM p;obtain ⟨j,C,h⟩:=av h;obtain ⟨g0,B,rfl⟩:=mi C;have d:=mR F g k g0 B r.r off w;exact ⟨_,h,.val (x:=.pointer (some ⟨r.r,off+n.toNat*P.cellsOf e,none⟩)) (by simp only [execOp,I,D,v,ax,d,az,aC]) (by simp only [VR,nK,uV];exact ⟨r,y,rfl⟩)⟩
   ·cases h
  ·rename_i L b M off E;have u:=bh G E;simp only [VR] at u;obtain ⟨r,y,D⟩:=u;split at h
   ·rename_i p;obtain ⟨K,g⟩:=bM p;obtain ⟨j,C,h⟩:=av h;obtain ⟨g0,B,rfl⟩:=mi C;have d:=mR F g k g0 B r.r (r.o+(M*L+off)) w;exact ⟨_,h,.val (x:=.pointer (some ⟨r.r,r.o+(M*L+off)+n.toNat*P.cellsOf e,none⟩)) (by simp only [execOp,I,D,v,ax,d,az,aC]) (by simp only [VR,nK,uV];exact ⟨r,y,by rw [gh,gh]⟩)⟩
   ·cases h
  ·cases h
 ·rename_i e F;split at h
  ·rename_i b off m cp E;have u:=bh G E;simp only [VR] at u;obtain ⟨r,cap,y,_,_,D⟩:=u;split at h
   ·rename_i p;obtain ⟨K,g⟩:=bM p;obtain ⟨j,C,h⟩:=av h;obtain ⟨g0,B,rfl⟩:=mi C;have d:=jS (cp:=cap) F g k g0 B r.r off w;exact ⟨_,h,.val (x:=.pointer (some ⟨r.r,off+n.toNat*P.cellsOf e,none⟩)) (by simp only [execOp,I,D,v,ax,d,az,aC]) (by simp only [VR,nK,uV];exact ⟨r,y,rfl⟩)⟩
   ·cases h
  ·rename_i b E;have u:=bh G E;simp only [VR] at u;split at h
   case h_2=>cases h
   rename_i tr l N;split at h
   case h_2=>cases h
   rename_i p;simp only [aA,ia] at p;obtain ⟨O,p⟩:=p;obtain ⟨K,g⟩:=bM p;obtain ⟨j,C,h⟩:=av h;obtain ⟨g0,B,rfl⟩:=mi C;rcases ip Q N with ⟨q,S,e',fr,J,q2,R,V,Z,Y,X⟩ | ⟨J,rfl⟩
   ·rcases u with ⟨W,y,D⟩ | ⟨y,_⟩
    ·rw [y] at J;cases J;have g1':n<(q.n:Int):=by rw [<-R];exact B
     have d:=jS (cp:=q.k) F g k g0 g1' q.r q.o w;exact ⟨_,h,.val (x:=.pointer (some ⟨q.r,q.o+n.toNat*P.cellsOf e,none⟩)) (by simp only [execOp,I,D,v,ax,d,az,aC]) (by simp only [VR];exact ⟨q,y,by rw [cf]⟩)⟩
    ·rw [y] at J;cases J
   ·simp at B;omega
  ·rename_i L b U m _ E;have u:=bh G E;simp only [VR] at u;split at h
   case h_2=>cases h
   rename_i p;simp only [aA,ia] at p;obtain ⟨rfl,p⟩:=p;obtain ⟨K,g⟩:=bM p;obtain ⟨j,C,h⟩:=av h;obtain ⟨g0,B,rfl⟩:=mi C;rcases u with ⟨q,cp,off,y,_,A,D⟩ | ⟨_,⟨rfl,_⟩,_⟩
   ·have d:=jS (cp:=cp) F g k g0 B q.r off w;have A:=A (by omega);exact ⟨_,h,.val (x:=.pointer (some ⟨q.r,off+n.toNat*P.cellsOf e,none⟩)) (by simp only [execOp,I,D,v,ax,d,az,aC]) (by simp only [VR,nK];exact ⟨q,y,by rw [A,fV,cf,gh]⟩)⟩
   ·omega
  ·cases h
 ·cases h
theorem gY {t e:TypeId} {m:Nat} {d:TypeInfo} (c:P.underlying t=some (.array m e)) (hi:P.info? e=some d) (k:IntKind) {n:Int} (b:0<=n) (f:n<m) (a:Array Value) (w:World):
  (Instr.index t (.agg a) (.int k n)).run P w=(part e a (n.toNat*P.cellsOf e)).run P w:=by
 simp only [Instr.index,asIntOf,ax,aC,az,aS c,b,f,and_self,aJ,fb hi]
theorem oC {t:TypeId} {d:TypeDesc} (b:P.underlying t=some d) (e:bJ P t=false) {a:Array Value} {off:Nat} {x:Value} (c:a[off]?=some x) (w:World):
  (part t a off).run P w=.ok x w:=by
 simp only [part,ax,jk b,e,az,bq,aE,c,aC]
theorem sB {t:TypeId} {d:TypeDesc} (b:P.underlying t=some d) (c:bJ P t=true) (a:Array Value) (off:Nat) (w:World):
  (part t a off).run P w=.ok (.agg (a.extract off (off+P.cellsOf t))) w:=by
 obtain ⟨i,hi⟩:=lj b;simp only [part,ax,jk b,c,az,aJ,fb hi,aC]
theorem sT {t:TypeId} (e:P.underlying t=some .string) {l:aa} {n:Int} {b:UInt8} (h:sx l n=some b) (k:IntKind) (w:World):
  (Instr.index t (.string ⟨l.toArray⟩) (.int k n)).run P w=.ok (.int .u8 b.toNat) w:=by
 unfold sx at h;split at h
 ·rename_i d;have f:(ByteArray.mk l.toArray)[n.toNat]?=some b:=by
   have a:n.toNat<l.length:=by
    rcases aF n.toNat l.length with c | c
    ·exact c
    ·rw [fU c] at h;cases h
   have g:n.toNat<(ByteArray.mk l.toArray).size:=a;rw [getElem?_pos (ByteArray.mk l.toArray) n.toNat g];rw [bj a] at h;simp only [aq] at h ⊢;exact h
  simp only [Instr.index,asIntOf,ax,aC,az,aS e,d,aJ,f]
 ·cases h
theorem JK {t:TypeId} {x i:Operand} (E:o.op=.index t x i) (I:TR ι s.T a.tmps) (h:effK P (opd s.T) s.H f (.index t x i) c=some z):
  ∃e,c e=some z/\fK P ι f o a w e:=by
 simp only [effK] at h;split at h
 case h_2=>cases h
 rename_i k n hi;have d:=bh I hi;simp only [VR] at d;split at h
 ·rename_i m e C;split at h
  ·cases h
  rename_i N;obtain ⟨X,r⟩:=bM N;split at h
  ·rename_i k' m' l G;have p:=bh I G;simp only [VR] at p;obtain ⟨W,F⟩:=p;split at h
   ·rename_i k2 g;split at h
    ·rename_i q;have q:=bm q;obtain ⟨j,u,h⟩:=av h;obtain ⟨g0,B,rfl⟩:=mi u;obtain ⟨v,p,h⟩:=av h;refine ⟨_,h,.val (x:=.int k' v) ?_ (by simp [VR])⟩;simp only [execOp,E,F,d,ax,gY C r k g0 B];rw [oC g (by simp [bJ,g]) (x:=.int k' v) (by simp [q,p])];rfl
    ·cases h
   ·cases h
  ·rename_i l G;have p:=bh I G;simp only [VR] at p;obtain ⟨L,F,A⟩:=p;split at h
   ·rename_i R g;obtain ⟨j,u,h⟩:=av h;obtain ⟨g0,B,rfl⟩:=mi u;refine ⟨_,h,.val (x:=.agg (L.extract (n.toNat*P.cellsOf e) (n.toNat*P.cellsOf e+P.cellsOf e))) ?_ (nH (A.extract _ _))⟩;simp only [execOp,E,F,d,ax,gY C r k g0 B,sB g (by simp [bJ,g]),az,aC]
   ·rename_i m2 U g;obtain ⟨j,u,h⟩:=av h;obtain ⟨g0,B,rfl⟩:=mi u;refine ⟨_,h,.val (x:=.agg (L.extract (n.toNat*P.cellsOf e) (n.toNat*P.cellsOf e+P.cellsOf e))) ?_ (nH (A.extract _ _))⟩;simp only [execOp,E,F,d,ax,gY C r k g0 B,sB g (by simp [bJ,g]),az,aC]
   ·rename_i g;split at h
    ·rename_i q;have q:=bm q;split at h
     ·rename_i Q K;obtain ⟨j,u,h⟩:=av h;obtain ⟨g0,B,rfl⟩:=mi u;obtain ⟨v,p,h⟩:=av h;obtain ⟨y,J,D⟩:=A.get (j:=n.toNat) (v:=.s v) (by rw [qO K];simp [p]);refine ⟨_,h,.val (x:=y) ?_ D⟩;simp only [execOp,E,F,d,ax,gY C r k g0 B];rw [oC g (by simp [bJ,g]) (x:=y) (by simpa [q] using J)];rfl
     ·cases h
    ·cases h
   ·rename_i d' O S V g;split at h
    ·rename_i q;have q:=bm q;obtain ⟨j,u,h⟩:=av h;obtain ⟨g0,B,rfl⟩:=mi u;obtain ⟨v,p,h⟩:=av h;obtain ⟨y,J,D⟩:=A.get p;refine ⟨_,h,.val (x:=y) ?_ D⟩;simp only [execOp,E,F,d,ax,gY C r k g0 B];rw [oC g (by simp only [bJ,g];cases d'<;>simp_all) (x:=y) (by simpa [q] using J)];rfl
    ·cases h
   ·cases h
  ·cases h
 ·rename_i C;split at h
  ·rename_i l G;have p:=bh I G;simp only [VR] at p;obtain ⟨b,M,h⟩:=av h;refine ⟨_,h,.val (x:=.int .u8 b.toNat) ?_ (by simp [VR])⟩;simp only [execOp,E,p,d,ax,sT C M,az,aC]
  ·cases h
 ·cases h
theorem xA {t:TypeId} (a:P.underlying t=some .string) {l:aa} {lo hi:Option Value} {L H:Nat} {w:World}
  (b:(Instr.sliceBounds false l.length l.length lo hi none).run P w=.ok (L,H,l.length) w):
  (Instr.sliceAt t (.string ⟨l.toArray⟩) lo hi none).run P w=.ok (.string ⟨((l.take H).drop L).toArray⟩) w:=by
 rw [run_sliceAt_string w t _ _ _ _ a];have c:(ByteArray.mk l.toArray).size=l.length:=rfl;simp only [Instr.slice,ax,aS a,az,uz,bq,aE,c,b,aC];congr 2;apply G2;rw [ByteArray.data_extract];apply kY;simp [List.extract,uB]
theorem xK {t e:TypeId} {n:Nat} {b:TypeInfo} (c:P.underlying t=some (.array n e)) (hi:P.info? e=some b) {lo a:Option Value} {L H r off:Nat} {w:World}
  (d:(Instr.sliceBounds false n n lo a none).run P w=.ok (L,H,n) w):
  (Instr.sliceAt t (.pointer (some ⟨r,off,none⟩)) lo a none).run P w=.ok (.slice (some ⟨r,if n=L then off else off+L*P.cellsOf e,none⟩) (H - L) (n - L)) w:=by
 simp only [Instr.sliceAt,ax,aS c,az,Instr.sureAddr,aC,d,fb hi,kV];split<;>rfl
theorem lW {t e:TypeId} {n cp:Nat} {b:TypeInfo} (c:P.underlying t=some (.slice e)) (hi:P.info? e=some b) {lo a:Option Value} {L H r off:Nat} {w:World}
  (d:(Instr.sliceBounds true n cp lo a none).run P w=.ok (L,H,cp) w):
  (Instr.sliceAt t (.slice (some ⟨r,off,none⟩) n cp) lo a none).run P w=.ok (.slice (some ⟨r,if cp=L then off else off+L*P.cellsOf e,none⟩) (H - L) (cp - L)) w:=by
 simp only [Instr.sliceAt,Instr.slice,ax,aS c,az,d,fb hi,aC];split
 ·rfl
 ·simp only [ew,kV]
theorem gP (n l x y:Nat):cond (Nat.beq n l) x y=if n=l then x else y:=by
 by_cases h:n=l
 ·subst h;simp
 ·have:Nat.beq n l=false:=by
   cases a:Nat.beq n l
   ·rfl
   ·exact absurd (bm a) h
  simp [this,h]
theorem ri {t e:TypeId} {d:TypeInfo} {b:Option Addr} (c:P.underlying t=some (.slice e)) (hi:P.info? e=some d) {lo a:Option Value} {w:World}
  (f:(Instr.sliceBounds true 0 0 lo a none).run P w=.ok (0,0,0) w):
  (Instr.sliceAt t (.slice b 0 0) lo a none).run P w=.ok (.slice b 0 0) w:=by
 simp only [Instr.sliceAt,Instr.slice,ax,aS c,az,f,fb hi,aC,aJ]
theorem zP {T:List (Nat×Option V)} (p:TR ι T a.tmps) {lo hi:Option Operand} {l h:Option Int} (x:ox (opd T) lo=some l)
  (u:ox (opd T) hi=some h) {len:Nat} {c:Nat->Nat->Option α} (e:(hiK len len h λh=>loK h l λl=>c h l)=some z):
  ∃H L,c H L=some z/\H<=len/\L<=H/\∀n,len<=n->∀w,(Instr.sliceBounds true len n (lo.map a.eval) (hi.map a.eval) none).run P w=.ok (L,H,n) w:=by
 have i:∀{H:Nat},loK H l (c H)=some z->∃L,c H L=some z/\L<=H/\
   ∀w,(match lo.map a.eval with | some v=>Instr.sliceBound v H .sliceB | none=>pure 0).run P w=.ok L w:=by
  intro H e;rcases mQ p x with ⟨rfl,g⟩ | ⟨k,m,rfl,g⟩
  ·exact ⟨0,e,fB _,λw=>by rw [g];rfl⟩
  ·simp only [loK] at e;obtain ⟨L,j,o⟩:=av e;obtain ⟨g0,q,rfl⟩:=jZ j;exact ⟨_,o,by omega,λw=>by rw [g];exact run_sliceBound w k m H .sliceB g0 q⟩
 rcases mQ p u with ⟨rfl,g⟩ | ⟨k,m,rfl,g⟩
 ·simp only [hiK] at e;obtain ⟨L,j,o,d⟩:=i e;refine ⟨len,L,j,aU _,o,λn t w=>?_⟩;have d:=d w;rw [g];simp only [Instr.sliceBounds,ax,aC,az,uz,bq,aE];cases b:lo.map a.eval with
  | none=>rw [b] at d;simp only [aC,uU,vt] at d;simp [d]
  | some v=>rw [b] at d;simp only [] at d;simp [d]
 ·simp only [hiK] at e;obtain ⟨H,j,o⟩:=av e;obtain ⟨g0,q,rfl⟩:=jZ j;obtain ⟨L,r,d,f⟩:=i o;refine ⟨_,L,r,by omega,d,λn t w=>?_⟩;have f:=f w;rw [g];have s:=run_sliceBound (P:=P) w k m n .sliceAcap g0 (by omega);simp only [Instr.sliceBounds,ax,aC,az,uz,bq,aE,aJ,s];cases b:lo.map a.eval with
  | none=>rw [b] at f;simp only [aC,uU,vt] at f;simp [f]
  | some v=>rw [b] at f;simp only [] at f;simp [f]
theorem Ja {t:TypeId} {x:Operand} {lo hi:Option Operand} (G:o.op=.slice t x lo hi none) (I:TR ι s.T a.tmps) (hW:WR ι s.H s.nb w) (h:effK P (opd s.T) s.H f (.slice t x lo hi none) c=some z):
  ∃e,c e=some z/\fK P ι f o a w e:=by
 simp only [effK] at h;obtain ⟨v,hx,E⟩:=av h;obtain ⟨l,K,q2⟩:=av E;obtain ⟨Z,y,d⟩:=av q2;clear h E q2;have A:=bh I hx;clear hx;split at d
 ·rename_i D;cases v<;>simp only [reduceCtorEq] at d;rename_i sl;simp only [VR] at A;obtain ⟨H,L,g,_,_,_,i,_,B⟩:=vB (P:=P) I K y (isSlice:=false) d;refine ⟨_,g,.val (x:=.string ⟨((sl.take H).drop L).toArray⟩) ?_ (by simp [VR])⟩;simp only [execOp,G,A,ax,gM];rw [xA D (B w)];rfl
 ·rename_i n e D;split at d
  case h_2=>cases d
  rename_i hp;obtain ⟨ti,p⟩:=bM hp;cases v<;>simp only [reduceCtorEq] at d;rename_i b off;simp only [VR] at A;obtain ⟨r,i,u⟩:=A;obtain ⟨H,L,g,_,F,C,g4,_,B⟩:=vB (P:=P) I K y (isSlice:=false) d;have X:H<=n:=by
   cases Z with
   | none=>exact tW (F rfl)
   | some q=>exact C (by simp)
  refine ⟨_,g,.val (x:=.slice (some ⟨r.r,if n=L then off else off+L*P.cellsOf e,none⟩) (H - L) (n - L)) ?_ ?_⟩
  ·simp only [execOp,G,u,ax,gM];rw [xK D p (B w)];rfl
  ·simp only [VR];exact ⟨r,n - L,i,λm R=>by cases R;rfl,by omega,by rw [gP,nK,uV]⟩
 ·rename_i e D;split at d
  case h_2=>cases d
  rename_i hp;obtain ⟨ti,p⟩:=bM hp;cases v<;>try (simp only [reduceCtorEq] at d;done)
  ·rename_i b;simp only [VR] at A;simp only at d;split at d
   case h_2=>cases d
   rename_i tr m W;split at d
   case h_2=>cases d
   rename_i J;have J:=bm J;obtain ⟨H,L,g,F,C,B⟩:=zP (P:=P) I K y d;rcases ip hW W with ⟨q,cs,e',fr,E,q2,V,q5,_,_,_⟩ | ⟨E,rfl⟩
   ·rcases A with ⟨q',i,u⟩ | ⟨i,_⟩
    ·rw [i] at E;cases E;refine ⟨_,g,.val (x:=.slice (some ⟨q.r,if q.k=L then q.o else q.o+L*P.cellsOf e,none⟩) (H - L) (q.k - L)) ?_ ?_⟩
     ·simp only [execOp,G,u,ax,gM];rw [<-V,lW D p (B q.k (by omega) w)];rfl
     ·simp only [VR];exact .inl ⟨q,_,_,i,⟨by omega,jl⟩,λM=>by rw [ab (by omega)],rfl⟩
    ·rw [i] at E;cases E
   ·rcases A with ⟨q,i,u⟩ | ⟨i,N,u⟩
    ·rw [i] at E;cases E
    ·simp only [dR,xx] at F C;subst F;simp only [xx] at C;subst C;refine ⟨_,g,.val (x:=.slice N 0 0) ?_ (by unfold VR;exact .inr ⟨i,⟨rfl,jl⟩,N,rfl⟩)⟩;simp only [execOp,G,u,ax,gM];rw [ri D p (B 0 (aU _) w)];rfl
  ·rename_i zz b j n _;simp only [VR] at A;simp only at d;split at d
   case h_2=>cases d
   rename_i J;have J:=bm J;obtain ⟨H,L,g,F,C,B⟩:=zP (P:=P) I K y d;rcases A with ⟨q,cp,off,i,⟨S,_⟩,Q,u⟩ | ⟨i,⟨rfl,_⟩,N,u⟩
   ·refine ⟨_,g,.val (x:=.slice (some ⟨q.r,if cp=L then off else off+L*P.cellsOf e,none⟩) (H - L) (cp - L)) ?_ ?_⟩
    ·simp only [execOp,G,u,ax,gM];rw [lW D p (B cp S w)];rfl
    ·simp only [VR];exact .inl ⟨q,_,_,i,⟨by omega,jl⟩,λM=>by rw [ab (by omega),Q (by omega),nK,fV,J,gh],rfl⟩
   ·simp only [xx] at F;subst F;simp only [xx] at C;subst C;refine ⟨_,g,.val (x:=.slice N 0 0) ?_ (by unfold VR;exact .inr ⟨i,⟨rfl,jl⟩,N,rfl⟩)⟩;simp only [execOp,G,u,ax,gM];rw [ri D p (B 0 (aU _) w)];rfl
  rename_i b off n cap;simp only [VR] at A;obtain ⟨r,cp,i,hcp,S,u⟩:=A;cases cap with
  | some m=>
   obtain rfl:=hcp m rfl;obtain ⟨H,L,g,_,F,C,g4,_,B⟩:=vB (P:=P) I K y (isSlice:=true) d;have X:H<=cp:=by
    cases Z with
    | none=>have:=F rfl;omega
    | some q=>exact C (by simp)
   refine ⟨_,g,.val (x:=.slice (some ⟨r.r,if cp=L then off else off+L*P.cellsOf e,none⟩) (H - L) (cp - L)) ?_ ?_⟩
   ·simp only [execOp,G,u,ax,gM];rw [lW D p (B w)];rfl
   ·simp only [VR];exact ⟨r,cp - L,i,λm R=>by cases R;rfl,by omega,by rw [gP,nK,uV]⟩
  | none=>
   have U:l=none:=by
    cases l with
    | none=>rfl
    | some q=>
     cases Z with
     | none=>simp [hiK] at d
     | some q=>simp only [hiK] at d;obtain ⟨_,_,V⟩:=av d;cases V
   subst U;have O:lo.map a.eval=none:=by
    rcases mQ I K with ⟨_,g⟩ | ⟨k,m,h0,_⟩
    ·exact g
    ·cases h0
   have key:∃H,c { val:=some (.sl b off H none) }=some z/\H<=n/\(Instr.sliceBounds true n cp (lo.map a.eval) (hi.map a.eval) none).run P w=.ok (0,H,cp) w:=by
    rcases mQ I y with ⟨rfl,g⟩ | ⟨k,m,rfl,g⟩
    ·simp only [hiK] at d;exact ⟨n,d,aU _,by rw [g,O];simp [Instr.sliceBounds]⟩
    ·simp only [hiK] at d;obtain ⟨H,h2,Y⟩:=av d;obtain ⟨g0,g1,rfl⟩:=jZ h2;refine ⟨_,Y,by omega,?_⟩;have W:=run_sliceBound (P:=P) w k m cp .sliceAcap g0 (by omega);rw [g,O];simp [Instr.sliceBounds,W]
   obtain ⟨H,g,h2,Y⟩:=key;refine ⟨_,g,.val (x:=.slice (some ⟨r.r,if cp=0 then off else off+0*P.cellsOf e,none⟩) (H - 0) (cp - 0)) ?_ ?_⟩
   ·simp only [execOp,G,u,ax,gM];rw [lW D p Y];rfl
   ·simp only [VR];exact ⟨r,cp,i,λm R=>(by cases R),by omega,by simp⟩
 ·cases d
theorem ul (a:List Int):a.foldl (λ(r:ByteArray) n=>r.push (UInt8.ofNat n.toNat)) ByteArray.empty=⟨(ge a).toArray⟩:=by
 rw [foldl_push_bytes];apply G2;simp [ge]
theorem wb {w:World} {r off q m cp:Nat} {l:List Int} {e:TypeId} {fr:Nat×Nat} (h:w.heap[r]?=some (.cells (l.map (Value.int .u8)).toArray e fr)) (g:l.length=q) (f:off+m<=q):
  (Conv.bytesToString (.slice (some ⟨r,off,none⟩) m cp)).run P w=.ok (.string ⟨(ge ((l.drop off).take m)).toArray⟩) w:=by
 have a:(((l.drop off).take m).map (Value.int .u8)).length=m:=by simp;omega
 have hc:=uD (P:=P) w ⟨r,off,none⟩ (((l.drop off).take m).map (Value.int .u8)) (λj v b=>by
  have c:j<m:=by
   rcases aF j m with d | d
   ·exact d
   ·rw [fU (by omega)] at b;cases b
  rw [kV,bz h];rw [nV,oV c,lw] at b;simpa using b)
 rw [a] at hc;rw [run_bytesToString w _ m cp _ hc,ul]
theorem xq (w:World) (e:TypeId) (s:ByteArray):
  Lib.bytesWorld w e s=World.alloc { w with drawn:=w.drawn+1 } (.cells (Lib.bytesCells w e s) e ((Lib.bytesCells w e s).size,(Lib.bytesCells w e s).size+1)):=by
 have d:=Lib.bytesWorld_at_new w e s;have f:=Lib.bytesWorld_size w e s;have c:(Lib.bytesWorld w e s).heap=w.heap.push (.cells (Lib.bytesCells w e s) e ((Lib.bytesCells w e s).size,(Lib.bytesCells w e s).size+1)):=by
  apply O3;intro j;by_cases b:j=w.heap.size
  ·subst b;rw [d];simp
  ·by_cases a:j<w.heap.size
   ·rw [Lib.bytesWorld_at_old w e s j a,Array.getElem?_push,ab b]
   ·rw [tQ (by omega),tQ (by simp;omega)]
 show ({ (Lib.bytesWorld w e s) with heap:=(Lib.bytesWorld w e s).heap }:World)=_;rw [c];rfl
theorem pJ:∀(l:List Int),l.flatMap (vals [.i .u8])=l.map (Value.int .u8)
 | []=>rfl
 | x::l=>by
  have:=pJ l;simp only [oc,fC,vals,Lf.val] at this ⊢;rw [this];rfl
theorem pV {w:World} {r cp:Nat} {l:List Int} {b:Array Value} {e:TypeId} {fr:Nat×Nat} {m:Nat} (h:w.heap[r]?=some (.cells b e fr)) (k:m<=b.size)
  {o:Nat} (p:(b.toList.drop o).take (l.length*([Lf.i .u8]:List Lf).length)=l.flatMap (vals [.i .u8])) {j n:Nat} (s:j+n<=l.length):
  (Conv.bytesToString (.slice (some ⟨r,o+j,none⟩) n cp)).run P w=.ok (.string ⟨(ge ((l.drop j).take n)).toArray⟩) w:=by
 have hl':(b.toList.drop o).take l.length=l.map (Value.int .u8):=by rw [<-pJ];simpa using p
 have a:(((l.drop j).take n).map (Value.int .u8)).length=n:=by simp;omega
 have hc:=uD (P:=P) w ⟨r,o+j,none⟩ (((l.drop j).take n).map (Value.int .u8)) (λi v c=>by
  have d:i<n:=by
   rcases aF i n with g | g
   ·exact g
   ·rw [fU (by omega)] at c;cases c
  rw [kV,bz h];rw [nV,oV d,lw] at c;have f:=cK (λq:List Value=>q[j+i]?) hl';simp only [oV (show j+i<l.length by omega),nV,lw] at f;rw [c] at f;simpa [gh] using f)
 rw [a] at hc;rw [run_bytesToString w _ n cp _ hc,ul]
theorem pX {w:World} (c:Option Addr):(Conv.bytesToString (.slice c 0 0)).run P w=.ok (.string ⟨#[]⟩) w:=by
 cases c with
 | none=>rfl
 | some a=>
  have b:=uD (P:=P) w a ([].map (Value.int .u8)) (λj v d=>by simp at d);exact run_bytesToString (P:=P) w a 0 0 [] b
theorem C4 {C d:TypeId} {x:Operand} (y:o.op=.convert C d x) (hT:TR ι s.T a.tmps) (M:WR ι s.H s.nb w) (h:effK P (opd s.T) s.H f (.convert C d x) c=some z):
  ∃e,c e=some z/\fK P ι f o a w e:=by
 simp only [effK] at h;obtain ⟨v,hx,q⟩:=av h;clear h;have g:=bh hT hx;clear hx;split at q
 case h_2=>cases q
 rename_i D B;split at q
 ·rename_i k t;cases v<;>simp only [reduceCtorEq] at q;rename_i k' n;simp only [VR] at g;refine ⟨_,q,.val (x:=.int k (k.wrap n)) ?_ (by simp [VR])⟩;simp only [execOp,y,g,ax,convert,aS B,aS t,az];cases D<;>rfl
 ·rename_i t;cases v<;>simp only [reduceCtorEq] at q
  ·rename_i b;simp only [VR] at g;cases D<;>try (simp only [reduceCtorEq] at q;done)
   rename_i e;simp only at q;split at q
   case h_2=>cases q
   rename_i u;split at q
   case h_2=>cases q
   rename_i l G;refine ⟨_,q,.val (x:=.string ⟨(ge l).toArray⟩) ?_ (by simp [VR])⟩;rcases ip M G with ⟨q,cs,Z,fr,i,V,W,q5,O,L,_⟩ | ⟨i,rfl⟩
   ·rcases g with ⟨q',p,A⟩ | ⟨p,_⟩
    ·rw [p] at i;cases i;simp only [execOp,y,A,ax,run_convert_bytes_string w C d e _ _ _ B u t];rw [<-W];have:=pV (P:=P) (cp:=q.k) V O L (j:=0) (n:=l.length) (by omega);simp only [cP,kN,cf] at this;rw [this];rfl
    ·rw [p] at i;cases i
   ·rcases g with ⟨q,p,A⟩ | ⟨p,I,A⟩
    ·rw [p] at i;cases i
    ·simp only [execOp,y,A,ax,run_convert_bytes_string w C d e I 0 0 B u t,pX];rfl
  ·rename_i zz b j n _;simp only [VR] at g;cases D<;>try (simp only [reduceCtorEq] at q;done)
   rename_i e;simp only at q;split at q
   case h_2=>cases q
   rename_i u;split at q
   case h_2=>cases q
   rename_i l G;split at q
   case h_2=>cases q
   rename_i J;have J:=bm J;subst J;obtain ⟨hc,q⟩:=dX q;have E:=aH hc;refine ⟨_,q,.val (x:=.string ⟨(ge ((l.drop j).take n)).toArray⟩) ?_ (by simp [VR])⟩;rcases g with ⟨Y,cp,off,p,⟨Q,_⟩,S,A⟩ | ⟨p,⟨rfl,_⟩,I,A⟩
   ·rcases ip M G with ⟨q',cs,Z,fr,i,V,W,q5,O,L,_⟩ | ⟨i,rfl⟩
    ·rw [p] at i;cases i;simp only [execOp,y,A,ax,run_convert_bytes_string w C d e _ _ _ B u t];by_cases hn:0<n
     ·rw [S hn,oU];rw [pV (P:=P) (cp:=cp) V O L E];rfl
     ·have R:n=0:=by omega
      subst R;have K:=uD (P:=P) w ⟨Y.r,off,none⟩ ([].map (Value.int .u8)) (λj v X=>by simp at X);have h0:=run_bytesToString (P:=P) w ⟨Y.r,off,none⟩ 0 cp [] K;rw [h0];simp [ge];rfl
    ·rw [p] at i;cases i
   ·simp only [execOp,y,A,ax,run_convert_bytes_string w C d e I 0 0 B u t,pX];simp [ge]
  ·rename_i k' n;simp only [VR] at g;cases D<;>simp only [reduceCtorEq] at q;refine ⟨_,q,.val (x:=.string (Utf8.encode n)) ?_ ?_⟩
   ·simp only [execOp,y,g,ax,convert,aS B,aS t,az,Conv.intToString,aC]
   ·simp [VR]
  ·rename_i l;simp only [VR] at g;cases D<;>simp only [reduceCtorEq] at q;refine ⟨_,q,.val (x:=.string ⟨l.toArray⟩) ?_ (by simp [VR])⟩;simp only [execOp,y,g,ax,convert,aS B,aS t,az,aC]
  ·simp only [VR] at g;cases D<;>try (simp only [reduceCtorEq] at q;done)
   rename_i e;simp only at q;split at q
   ·rename_i u;refine ⟨_,q,.val (x:=.string .empty) ?_ (by simp only [VR];rfl)⟩;simp only [execOp,y,g,ax,run_convert_bytes_string w C d e none 0 0 B u t];rfl
   ·cases q
  ·rename_i b off m cap;simp only [VR] at g;obtain ⟨r,cp,p,_,_,A⟩:=g;cases D<;>try (simp only [reduceCtorEq] at q;done)
   rename_i e;simp only at q;split at q
   ·rename_i u;split at q
    ·rename_i qn l G;obtain ⟨hc,q⟩:=dX q;have E:=aH hc;obtain ⟨r',Z,fr,Q,S,g3,_⟩:=tq M G;rw [p] at Q;cases Q;refine ⟨_,q,.val (x:=.string ⟨(ge ((l.drop off).take m)).toArray⟩) ?_ (by simp [VR])⟩;simp only [execOp,y,A,ax,run_convert_bytes_string w C d e _ _ _ B u t,wb S g3 E,az,aC]
    ·cases q
   ·cases q
 ·rename_i e t;split at q
  case h_2=>cases q
  rename_i u;cases v<;>try (simp only [reduceCtorEq] at q;done)
  rename_i l;simp only [VR] at g;cases D<;>simp only [reduceCtorEq] at q;refine ⟨_,q,.mkR (d:=w.drawn+1) (q:=(Rf.of w.heap.size (l.length) (grownCap w l.length 0 e))) (x:=.slice (some ⟨w.heap.size,0,none⟩) l.length (grownCap w l.length 0 e))
   (ob:=.cells (Lib.bytesCells w e ⟨l.toArray⟩) e ((Lib.bytesCells w e ⟨l.toArray⟩).size,(Lib.bytesCells w e ⟨l.toArray⟩).size+1)) ?_ rfl rfl ?_ ?_⟩
  ·simp only [execOp,y,g,ax,Lib.run_convert_string_bytes w C d e ⟨l.toArray⟩ B t u,az,aC,xq];rfl
  ·have F:l.length<=grownCap w l.length 0 e:=by simp only [grownCap,Question.cut];omega
   have N:((ByteArray.mk l.toArray).data.map λb=>Value.int .u8 b.toNat).size=l.length:=by simp
   refine ⟨_,e,_,rfl,by simp,F,?_,?_,?_⟩
   ·simp only [Lib.bytesCells,Array.size_append,N,Array.size_replicate,bf,dR];have:(ByteArray.mk l.toArray).size=l.length:=rfl;rw [this];omega
   ·simp only [Lib.bytesCells,ut,Bh,bf,dR,cL,oU,cP];rw [rZ (by simp),hZ (by simp)];rw [pJ,Array.toList_map,ur];rfl
   ·refine .inr λj X U=>?_;exact absurd U.1 (by simp only;omega)
  ·simp only [VR];exact .inl ⟨_,cX _ _ _,rfl⟩
 ·cases q
theorem K8 {U:Call} (Q:o.op=.call U) (hT:TR ι s.T a.tmps) (hW:WR ι s.H s.nb w) (h:effK P (opd s.T) s.H f (.call U) c=some z):
  ∃e,c e=some z/\fK P ι f o a w e:=by
 obtain ⟨R,args,D⟩:=U;simp only [effK] at h;split at h
 case h_2=>cases h
 rename_i b;obtain ⟨l,hl,q⟩:=av h;clear h;have g:=vM hT hl;have I:(args.map a.eval).toList=args.toList.map a.eval:=by simp
 rw [<-I] at g;generalize Z:args.map a.eval=A at g;have v:∃S,∀w,((do let d <-resolve a.eval ⟨.builtin b,args,D⟩ o.type;invoke d.target d.args):Sem Next).run P w=(builtin b D o.type S A).run P w:=by
  refine ⟨args.map fun | .const _=>true | _=>false,λw=>?_⟩;simp only [resolve,Z,ax,aC,az,invoke];rfl
 obtain ⟨S,v⟩:=v;have one:∀{X:Value},A.toList=[X]->A[0]?=some X:=by
  intro X p;have:A=#[X]:=by apply kY;simpa using p
  simp [this]
 have E:∀{t:TypeId} {r:List TypeId},D.toList=t::r->D[0]?=some t:=by
  intro t r u;rw [<-ow,u];rfl
 have j:∀{n:Int} {rd:List Nat},b=.len->(∀w,(Builtin.len_ D o.type A).run P w=.ok (goInt n) w)->c { val:=some (.i .i64 n),rd:=rd }=some z->∃e,c e=some z/\fK P ι f o a w e:=by
  intro n rd O F hc;subst O;refine ⟨_,hc,.val (x:=.int .i64 n) ?_ (by simp [VR])⟩;simp only [execOp,Q];rw [v w];simp only [builtin,ax,F,az,aC,goInt]
 have C:∀{n:Int} {rd:List Nat},b=.cap->(∀w,(Builtin.cap_ D o.type A).run P w=.ok (goInt n) w)->c { val:=some (.i .i64 n),rd:=rd }=some z->∃e,c e=some z/\fK P ι f o a w e:=by
  intro n rd O F hc;subst O;refine ⟨_,hc,.val (x:=.int .i64 n) ?_ (by simp [VR])⟩;simp only [execOp,Q];rw [v w];simp only [builtin,ax,F,az,aC,goInt]
 split at q
 ·split at q
  ·rename_i sl;simp only [VRs,VR] at g;obtain ⟨_,_,p,rfl,rfl⟩:=g;split at q
   ·rename_i t r u;split at q
    ·rename_i B;refine j rfl (λw=>?_) q;simp only [Builtin.len_,E u,one p,ax,aS B,az,aC];rfl
    ·cases q
   ·cases q
  ·rename_i N oo n cp;simp only [VRs,VR] at g;obtain ⟨_,_,p,⟨r,cap,_,_,_,rfl⟩,rfl⟩:=g;split at q
   ·rename_i t r u;split at q
    ·rename_i B;refine j rfl (λw=>?_) q;simp only [Builtin.len_,E u,one p,ax,aS B,az,aC]
    ·cases q
   ·cases q
  ·simp only [VRs,VR] at g;obtain ⟨_,_,p,rfl,rfl⟩:=g;split at q
   ·rename_i t r u;split at q
    ·rename_i B;refine j rfl (λw=>?_) q;simp only [Builtin.len_,E u,one p,ax,aS B,az,aC];rfl
    ·cases q
   ·cases q
  ·rename_i N;simp only [VRs,VR] at g;obtain ⟨_,_,p,M,rfl⟩:=g;split at q
   ·rename_i t r u;split at q
    ·rename_i B;split at q
     ·rename_i tr l O;refine j (rd:=[N]) rfl (λw=>?_) q;rcases ip hW O with ⟨q,S,e',fr,J,q2,Y,q5,q6,q7,_⟩ | ⟨J,rfl⟩
      ·rcases M with ⟨q',G,rfl⟩ | ⟨G,_⟩
       ·rw [G] at J;cases J;simp only [Builtin.len_,E u,one p,ax,aS B,az,aC,Y]
       ·rw [G] at J;cases J
      ·rcases M with ⟨q,G,_⟩ | ⟨G,V,rfl⟩
       ·rw [G] at J;cases J
       ·simp only [Builtin.len_,E u,one p,ax,aS B,az,aC];rfl
     ·cases q
    ·cases q
   ·cases q
  ·rename_i zz N W n _;simp only [VRs,VR] at g;obtain ⟨_,_,p,M,rfl⟩:=g;split at q
   ·rename_i t r u;split at q
    ·rename_i B;refine j rfl (λw=>?_) q;rcases M with ⟨q,cp,off,G,_,_,rfl⟩ | ⟨_,⟨rfl,_⟩,V,rfl⟩
     ·simp only [Builtin.len_,E u,one p,ax,aS B,az,aC]
     ·simp only [Builtin.len_,E u,one p,ax,aS B,az,aC]
    ·cases q
   ·cases q
  ·simp only [VRs] at g;obtain ⟨X,_,p,_,rfl⟩:=g;split at q
   ·rename_i t r u;split at q
    ·rename_i B;refine j rfl (λw=>?_) q;simp only [Builtin.len_,E u,one p,ax,aS B,az,aC]
    ·cases q
   ·cases q
  ·cases q
 ·split at q
  ·rename_i zz N W nn m;simp only [VRs,VR] at g;obtain ⟨_,_,p,M,rfl⟩:=g;split at q
   ·rename_i t r u;split at q
    ·rename_i B;refine C rfl (λw=>?_) q;rcases M with ⟨q,cp,off,G,⟨_,hc⟩,_,rfl⟩ | ⟨_,⟨_,hc⟩,V,rfl⟩
     ·have:=hc m rfl;subst this;simp only [Builtin.cap_,E u,one p,ax,aS B,az,aC]
     ·have:=hc m rfl;subst this;simp only [Builtin.cap_,E u,one p,ax,aS B,az,aC]
    ·cases q
   ·cases q
  ·rename_i N oo nn m;simp only [VRs,VR] at g;obtain ⟨_,_,p,⟨qq,cp,G,hc,_,rfl⟩,rfl⟩:=g;split at q
   ·rename_i t r u;split at q
    ·rename_i B;refine C rfl (λw=>?_) q;have:=hc m rfl;subst this;simp only [Builtin.cap_,E u,one p,ax,aS B,az,aC]
    ·cases q
   ·cases q
  ·simp only [VRs,VR] at g;obtain ⟨_,_,p,rfl,rfl⟩:=g;split at q
   ·rename_i t r u;split at q
    ·rename_i B;refine C rfl (λw=>?_) q;simp only [Builtin.cap_,E u,one p,ax,aS B,az,aC];rfl
    ·cases q
   ·cases q
  ·cases q
 ·split at q
  ·rename_i k x k' y;split at q
   ·rename_i K;have K:=jo K;subst K;simp only [VRs,VR] at g;obtain ⟨_,_,p,rfl,_,_,rfl,rfl,rfl⟩:=g;refine ⟨_,q,.val (x:=.int k (cond (decide (y<x)) y x)) ?_ (by simp [VR])⟩;simp only [execOp,Q];rw [v w];simp only [builtin,ax,Builtin.min_,p,List.foldlM,Builtin.min2,aC,az];by_cases L:y<x<;>simp [L]
   ·cases q
  ·cases q
 ·split at q
  ·rename_i k x k' y;split at q
   ·rename_i K;have K:=jo K;subst K;simp only [VRs,VR] at g;obtain ⟨_,_,p,rfl,_,_,rfl,rfl,rfl⟩:=g;refine ⟨_,q,.val (x:=.int k (cond (decide (y>x)) y x)) ?_ (by simp [VR])⟩;simp only [execOp,Q];rw [v w];simp only [builtin,ax,Builtin.max_,p,List.foldlM,Builtin.max2,aC,az];by_cases L:y>x<;>simp [L]
   ·cases q
  ·cases q
 ·cases q
theorem Qr {op:UnOp} {x:V} {X:Value} {c:V->Option α} (h:unK op x c=some z) (a:VR ι x X) (w:World):
  ∃v R,c v=some z/\VR ι v R/\(Op.unary op X).run P w=.ok R w:=by
 unfold unK at h;split at h
 ·simp only [VR] at a;subst a;exact ⟨_,_,h,rfl,rfl⟩
 ·simp only [VR] at a;subst a;exact ⟨_,_,h,rfl,rfl⟩
 ·cases h
theorem ML {x:Operand} {i:Bool} (n:o.op=.next x i) (E:TR ι s.T a.tmps) (D:WR ι s.H s.nb w) (h:effK P (opd s.T) s.H f (.next x i) c=some z):
  ∃e,c e=some z/\fK P ι f o a w e:=by
 simp only [effK] at h;split at h
 case h_2=>cases h
 rename_i b F;have t:=bh E F;simp only [VR] at t;obtain ⟨r,p,q⟩:=t;split at h
 case h_2=>cases h
 rename_i l pos B;obtain ⟨G,ob,v,y,m⟩:=(D.blk b _ B (by simp)).real (by simp);rw [p] at v;cases v;simp only [BR] at m;subst m;have j:(ByteArray.mk l.toArray).size=l.length:=rfl;have d:(getObj r.r).run P w=.ok (.stringIter ⟨l.toArray⟩ pos) w:=by simp [getObj,Sem.run,y]
 cases hc:Nat.blt pos l.length with
 | false=>
  rw [hc] at h;have C:¬pos<l.length:=λg=>by rw [show Nat.blt pos l.length=true from dn g] at hc;cases hc
  refine ⟨_,h,.val (x:=.tuple #[.bool false]) ?_ (by simp [VR,VRs])⟩;simp only [execOp,n,q,Instr.next,ax,d,az,j,C,aE,aC]
 | true=>
  rw [hc] at h;have g:pos<l.length:=aH hc;refine ⟨_,h,?_⟩;unfold fK;have k:∀ob,(Go.setObj r.r ob).run P w=.ok () (setObj w r.r ob):=by
   intro ob;simp [Go.setObj,Sem.run,y,setObj]
  refine ⟨r,p,λ_=>⟨.stringIter ⟨l.toArray⟩ (pos+(dec l pos).2),.value (.tuple #[.bool true,.int .i64 pos,.int .i32 (dec l pos).1]),?_,rfl,.value _ λu A=>by cases A;simp [VR,VRs]⟩⟩;simp only [execOp,n,q,Instr.next,ax,d,az,j,g,aJ,k,aC,dec,goInt]
theorem DJ {t:List Lf} (x:den t):∀n,(List.replicate n x).flatMap (vals t)=(List.replicate n (vals t x)).flatten
 | 0=>rfl
 | n+1=>by simp [rL,oc,DJ x n]
theorem GT {l:List Value}:∀n:Nat,(List.replicate n l).flatten.length=n*l.length
 | 0=>by simp
 | n+1=>by rw [rL,List.flatten_cons,bV,GT n,fV];omega
theorem HZ {l:List Value}:∀(n j:Nat),j<n*l.length->(List.replicate n l).flatten[j]?=l[j%l.length]?
 | 0,j,h=>by simp at h
 | n+1,j,h=>by
  simp only [rL,List.flatten_cons];by_cases a:j<l.length
  ·rw [lJ a,od a]
  ·rw [nT (by omega),HZ n _ (by rw [fV] at h;omega),<-Nat.mod_eq_sub_mod (by omega)]
theorem yq {t:TypeId} {x y:Operand} (S:o.op=.makeSlice t x y) (O:TR ι s.T a.tmps) (h:effK P (opd s.T) s.H f (.makeSlice t x y) c=some z):
  ∃e,c e=some z/\fK P ι f o a w e:=by
 simp only [effK] at h;obtain ⟨u,D,N⟩:=av h;obtain ⟨v,E,b⟩:=av N;clear h N;have D:=bh O D;have E:=bh O E;split at b
 case h_2=>cases b
 rename_i e W;split at b
 case h_2=>cases b
 rename_i k1 n k2 m _ _;simp only [VR] at D E;obtain ⟨zv,I,b⟩:=av b;split at b
 case h_2=>cases b
 rename_i tr p _ l;split at b
 case h_2=>cases b
 rename_i K;simp only [aA,ia] at K;obtain ⟨Q,e2,R,F⟩:=K;have R:=aH R;have F:=aH F;obtain ⟨V,G,b⟩:=av b;obtain ⟨hc,b⟩:=dX b;simp only [aA,bZ] at hc;obtain ⟨Y,c1,c2⟩:=hc;obtain ⟨zc,i,L,X,U,_⟩:=sY ι I;rw [l] at L;cases L;have g:=lq U;rw [tH G] at g;have g:=(kA ι tr V _).1 g;have A:p.size=P.cellsOf e:=by unfold Program.cellsOf;rw [l];rfl
 have Z:m=(m.toNat:Int):=by omega
 have r:=run_make (P:=P) w t e p zc W l X k1 k2 n m Y c1 (by
  rw [Z,<-DD];have:p.bytes*m.toNat<=1048576*67108864:=ue F (by omega);omega) (by omega)
 refine ⟨_,b,.mkR (d:=w.drawn) (q:=(Rf.of w.heap.size (n.toNat) (m.toNat))) (x:=.slice (some ⟨w.heap.size,0,none⟩) n.toNat m.toNat) (ob:=.cells (madeCells zc.cells (m.toNat*p.size)) e) ?_ rfl rfl ?_ ?_⟩
 ·simp only [execOp,S,D,E,ax,r,az,aC]
 ·have J:(madeCells zc.cells (m.toNat*p.size)).size=m.toNat*p.size:=size_madeCells _ _;refine ⟨_,e,_,rfl,by simp,by simp only;omega,by rw [J,A,Q];simp,?_,.inr (qx _)⟩;simp only [cP];rw [DJ,List.length_replicate,<-g];apply AZ;intro j;have k:zc.cells.toList.length=tr.length:=by rw [g,i6]
  have B:zc.cells.size=tr.length:=by simpa using k
  have hle:n.toNat*tr.length<=m.toNat*tr.length:=mc _ (by omega);by_cases M:j<n.toNat*tr.length
  ·rw [oV M,HZ n.toNat j (by rw [k];exact M),k];have C:j%tr.length<zc.cells.size:=by rw [B];exact qz _ (by omega)
   simp only [madeCells,A,<-Q,B];rw [ow,Array.getElem?_map,Array.getElem?_range];simp [show j<m.toNat*tr.length by omega,C]
  ·rw [fU (by rw [cN];omega),fU (by rw [GT,k];omega)]
 ·simp only [VR];exact .inl ⟨_,cX _ _ _,rfl⟩
theorem RD {op:BinOp} {t:TypeId} {x y:Operand} {u v:V} {r:Bool} {X Y:Value} (h:niK P op t x y u v=some r) (e:VR ι u X) (d:VR ι v Y) (w:World):
  (eqGuard op t x y X Y).run P w=.ok () w/\(binOp op t X Y).run P w=.ok (.bool r) w:=by
 unfold niK at h;split at h
 case h_2=>cases h
 simp only [VR] at e d;subst e d;split at h
 case h_2=>cases h
 rename_i hc;split at h
 case h_2=>cases h
 rename_i i f;have c:∀o:BinOp,o=.eql\/o=.neq->(eqGuard o t x y .nilIface .nilIface).run P w=.ok () w:=by
  intro o g;have a:(∃v,x=.const v)\/∃v,y=.const v:=by
   rw [gv] at hc;refine hc.imp (λh=>?_) (λh=>?_)
   ·cases x<;>simp_all [EP]
   ·cases y<;>simp_all [EP]
  rcases a with ⟨v,rfl⟩ | ⟨v,rfl⟩<;>rcases g with rfl | rfl<;>simp [eqGuard]
 have b:(Op.equal t .nilIface .nilIface).run P w=.ok true w:=by rw [dO,Op.equalIn];simp [aS f]
 split at h
 ·simp only [aq] at h;subst h;exact ⟨c _ (.inl rfl),by simp [binOp,b]⟩
 ·simp only [aq] at h;subst h;exact ⟨c _ (.inr rfl),by simp [binOp,b]⟩
 ·cases h
theorem jr {t e:TypeId} {d:TypeInfo} (c:P.underlying t=some (.slice e)) (hi:P.info? e=some d) {n cp:Nat} {a:Option Addr} {k k':IntKind} {h m:Int} {H M:Nat} (g:bx n m=some M) (i:bx M h=some H) (p:n<=cp) (w:World):
  (Instr.sliceAt t (.slice a n cp) none (some (.int k h)) (some (.int k' m))).run P w=.ok (.slice a H M) w:=by
 obtain ⟨m0,m1,rfl⟩:=jZ g;obtain ⟨b,j,rfl⟩:=jZ i;have l:=run_sliceBound (P:=P) w k' m cp .slice3Acap m0 (by omega);have f:=run_sliceBound (P:=P) w k h m.toNat .slice3B b j;simp only [Instr.sliceAt,Instr.slice,ax,aS c,az,Instr.sliceBounds,aJ,l,f,aC,fb hi,nA,xz];split
 ·rfl
 ·cases a with
  | none=>rfl
  | some q=>obtain ⟨r,o,x⟩:=q;simp [Addr.add]
theorem Ge {t:TypeId} {x mx:Operand} {lo hi:Option Operand} (F:o.op=.slice t x lo hi (some mx)) (O:TR ι s.T a.tmps) (hW:WR ι s.H s.nb w) (h:effK P (opd s.T) s.H f (.slice t x lo hi (some mx)) c=some z):
  ∃e,c e=some z/\fK P ι f o a w e:=by
 simp only [effK,so] at h;split at h
 case h_2=>cases h
 rename_i hh;obtain ⟨v,W,d⟩:=av h;clear h;have B:=bh O W;clear W;split at d
 case h_2=>cases d
 rename_i k1 X k2 m1 L K;have E:=bh O L;have D:=bh O K;simp only [VR] at E D;split at d
 case h_2=>cases d
 rename_i e I;split at d
 case h_2=>cases d
 rename_i hp;obtain ⟨ti,i⟩:=bM hp;split at d
 ·rename_i b;split at d
  case h_2=>cases d
  rename_i tr l Z;split at d
  case h_2=>cases d
  obtain ⟨M,u,J⟩:=av d;obtain ⟨H,p,C⟩:=av J;obtain ⟨m0,m2,V⟩:=jZ u;obtain ⟨U,S,R⟩:=jZ p;simp only [VR] at B;rcases ip hW Z with ⟨q,cs,e',fr,A,r2,r4,r5,_,_,_⟩ | ⟨A,rfl⟩
  ·rcases B with ⟨q',g,y⟩ | ⟨g,_⟩
   ·rw [g] at A;cases A;refine ⟨_,C,.val (x:=.slice (some ⟨q.r,q.o,none⟩) H M) ?_ ?_⟩
    ·simp only [execOp,F,y,E,D,ax,gM,ew];rw [<-r4,jr I i u p (by omega) w];rfl
    ·simp only [VR];exact .inl ⟨q,_,_,g,⟨by omega,pa⟩,λ_=>by omega,rfl⟩
   ·rw [g] at A;cases A
  ·rcases B with ⟨q,g,y⟩ | ⟨g,G,y⟩
   ·rw [g] at A;cases A
   ·simp only [dR] at m2;have m:M=0:=by omega
    have k:H=0:=by omega
    subst m k;refine ⟨_,C,.val (x:=.slice G 0 0) ?_ (by unfold VR;exact .inr ⟨g,⟨rfl,pa⟩,G,rfl⟩)⟩;simp only [execOp,F,y,E,D,ax,gM,ew];rw [jr I i (n:=0) (M:=0) u p (by omega) w];rfl
 ·rename_i zz b j n _;obtain ⟨M,u,J⟩:=av d;obtain ⟨H,p,C⟩:=av J;obtain ⟨m0,m2,V⟩:=jZ u;obtain ⟨U,S,R⟩:=jZ p;simp only [VR] at B;rcases B with ⟨q,cp,off,g,⟨N,_⟩,Y,y⟩ | ⟨g,⟨N,_⟩,G,y⟩
  ·refine ⟨_,C,.val (x:=.slice (some ⟨q.r,off,none⟩) H M) ?_ ?_⟩
   ·simp only [execOp,F,y,E,D,ax,gM,ew];rw [jr I i u p N w];rfl
   ·simp only [VR];exact .inl ⟨q,_,_,g,⟨by omega,pa⟩,λQ=>Y (by omega),rfl⟩
  ·subst N;have m:M=0:=by omega
   have k:H=0:=by omega
   subst m k;refine ⟨_,C,.val (x:=.slice G 0 0) ?_ (by unfold VR;exact .inr ⟨g,⟨rfl,pa⟩,G,rfl⟩)⟩;simp only [execOp,F,y,E,D,ax,gM,ew];rw [jr I i (n:=0) (M:=0) u p (by omega) w];rfl
 ·obtain ⟨M,u,J⟩:=av d;obtain ⟨H,p,C⟩:=av J;obtain ⟨m0,m2,V⟩:=jZ u;obtain ⟨U,S,R⟩:=jZ p;simp only [VR] at B;have m:M=0:=by omega
  have k:H=0:=by omega
  subst m k;refine ⟨_,C,.val (x:=.slice none 0 0) ?_ (by simp only [VR])⟩;simp only [execOp,F,B,E,D,ax,gM,ew];rw [jr I i (n:=0) (M:=0) u p (by omega) w];rfl
 ·cases d
theorem QD {op:BinOp} {t:TypeId} {u v:V} {r:Bool} {n:Nat} {rd:List Nat} {X Y:Value} {H:List (Nat×Blk)} {nb:Nat} (h:slN P op t u v=some r) (a:slL H u=some (n,rd)) (B:0<n) (C:WR ι H nb w) (g:VR ι u X) (s:VR ι v Y) (p q:Operand):
  (eqGuard op t p q X Y).run P w=.ok () w/\(binOp op t X Y).run P w=.ok (.bool r) w:=by
 unfold slN at h;split at h
 case h_2=>cases h
 simp only [VR] at s;subst s;have d:∀(A:Addr) (n c:Nat),X=.slice (some A) n c->P.underlying t=(P.underlying t)->∀e,P.underlying t=some (.slice e)->
   ((eqGuard .eql t p q X (.slice none 0 0)).run P w=.ok () w/\(binOp .eql t X (.slice none 0 0)).run P w=.ok (.bool false) w)/\
   ((eqGuard .neq t p q X (.slice none 0 0)).run P w=.ok () w/\(binOp .neq t X (.slice none 0 0)).run P w=.ok (.bool (!false)) w):=by
  rintro A n c rfl _ e o;exact mC p q (.inl (by simp)) (.inl (by simp)) (by simp) (by rw [dO,Op.equalIn];simp [aS o])
 have b:∀(A:Addr) (n c:Nat),X=.slice (some A) n c->slT P op t=some r->(eqGuard op t p q X (.slice none 0 0)).run P w=.ok () w/\(binOp op t X (.slice none 0 0)).run P w=.ok (.bool r) w:=by
  intro A n c D h;unfold slT at h;split at h
  case h_2=>cases h
  rename_i e o;obtain ⟨m1,m2⟩:=d A n c D rfl e o;split at h
  ·simp only [aq] at h;subst h;exact m1
  ·simp only [aq] at h;subst h;exact m2
  ·cases h
 split at h
 ·rename_i c;simp only [slL] at a;split at a
  case h_2=>cases a
  rename_i tr l y;simp only [aq,bw] at a;obtain ⟨rfl,_⟩:=a;simp only [VR] at g;rcases ip C y with ⟨J,F,M,fr,i,N,r4,_⟩ | ⟨i,rfl⟩
  ·rcases g with ⟨E,f,k⟩ | ⟨f,_⟩
   ·exact b _ _ _ k h
   ·rw [f] at i;cases i
  ·simp at B
 ·rename_i z c j m K;simp only [slL,aq,bw] at a;obtain ⟨rfl,_⟩:=a;simp only [VR] at g;rcases g with ⟨E,G,I,f,k,L,x⟩ | ⟨f,⟨k,_⟩,_⟩
  ·exact b _ _ _ x h
  ·omega
 ·cases h
theorem Cf {t:TypeId} {x:Option Operand} (b:o.op=.makeMap t x) (h:effK P (opd s.T) s.H f (.makeMap t x) c=some z):∃e,c e=some z/\fK P ι f o a w e:=by
 simp only [effK] at h;split at h
 case h_2=>cases h
 split at h
 case h_2=>cases h
 refine ⟨_,h,.mk (x:=.map (some w.heap.size)) (ob:=.map #[] 0) ?_ ⟨#[],0,rfl,rfl⟩ (by simp only [VR];exact ⟨_,cX _ _ _,rfl⟩)⟩;simp only [execOp,b,gM,ax];rfl
theorem Nx {H:List (Nat×Blk)} {nb b:Nat} {w:World} (d:WR ι H nb w) {k:IntKind} {l:List (Int×Nat)} (i:look H b=some (.mp k l)):
  ∃q c a,ι b=some (some q)/\w.heap[q.r]?=some (.map c a)/\c.toList.map (λe=>(e.key,e.val))=l.map λp=>(Value.int k p.1,fnV p.2 #[]):=by
 obtain ⟨q,o,h,f,c,a,rfl,g⟩:=(d.blk b _ i (by simp)).real (by simp);exact ⟨q,c,a,h,f,g⟩
theorem Jc {α:Type} {k:IntKind} {n:Int} {c:Nat->Option α} {z:α}:∀(b:List MapEntry) (l:List (Int×Nat)) (i:Nat),b.map (λe=>(e.key,e.val))=l.map (λp=>(Value.int k p.1,fnV p.2 #[]))->mapK l n c=some z->
  ∃g j,c g=some z/\Instr.findNow (.int k) (.int k n) b i=some (some (j,fnV g #[]))
 | [],[],_,_,h=>by cases h
 | [],_::_,_,a,_=>by simp at a
 | _::_,[],_,a,_=>by simp at a
 | e::b,(m,g)::l,i,a,h=>by
  simp only [fC,List.cons.injEq,bw] at a;obtain ⟨⟨f,q⟩,s⟩:=a;simp only [mapK] at h;cases d:(n==m) with
  | true=>
   rw [d] at h;exact ⟨g,i,h,by simp only [Instr.findNow,f,Instr.sameNow,aJ,d,q]⟩
  | false=>
   rw [d] at h;obtain ⟨o,j,r,t⟩:=Jc b l (i+1) s h;exact ⟨o,j,r,by simp only [Instr.findNow,f,Instr.sameNow,aJ,d];exact t⟩
theorem FQ {t:TypeId} {m x:Operand} {ok:Bool} (A:o.op=.lookup t m x ok) (v:TR ι s.T a.tmps) (J:WR ι s.H s.nb w) (h:effK P (opd s.T) s.H f (.lookup t m x ok) c=some z):
  ∃e,c e=some z/\fK P ι f o a w e:=by
 simp only [effK] at h;split at h
 case h_2=>cases h
 rename_i b L;split at h
 case h_2=>cases h
 rename_i k n O;split at h
 case h_2=>cases h
 rename_i R U I;split at h
 case h_2=>cases h
 rename_i k2 u;split at h
 case h_2=>cases h
 rename_i k1 l B;split at h
 case h_2=>cases h
 rename_i d;simp only [aA] at d;have N:=jo d.1;have G:=jo d.2;subst N G;have p:=bh v L;have y:=bh v O;simp only [VR] at p y;obtain ⟨q,D,K⟩:=p;obtain ⟨S,Q,i,r,E,C⟩:=Nx J B;rw [D] at r;cases r;obtain ⟨g,j,F,M⟩:=Jc Q.toList l 0 C h;refine ⟨_,F,.val (x:=fnV g #[]) ?_ (by simp only [VR];exact ⟨#[],rfl,by simp [VRs]⟩)⟩;simp only [execOp,A,K,y,ax,Instr.lookup,aS I,az,MapKept.run_getObj_map E,aC,
  MapKept.run_checkKey (k:=.int k2 n) u (by simp [MapKept.IsKey]),MapKept.run_findKey u M]
 rfl
theorem FI {t:TypeId} {m x y:Operand} (W:o.op=.insert t m x y) (I:TR ι s.T a.tmps) (hW:WR ι s.H s.nb w) (h:effK P (opd s.T) s.H f (.insert t m x y) c=some z):
  ∃e,c e=some z/\fK P ι f o a w e:=by
 simp only [effK] at h;split at h
 case h_2=>cases h
 rename_i b hm;split at h
 case h_2=>cases h
 rename_i k n g hx hy;split at h
 case h_2=>cases h
 rename_i kt et hd;split at h
 case h_2=>cases h
 rename_i k2 R;split at h
 case h_2=>cases h
 rename_i k1 l Y;split at h
 case h_2=>cases h
 rename_i A;simp only [aA] at A;obtain ⟨G,J,B⟩:=A;have e1:=jo G;have e2:=jo J;subst e1 e2;have K:=bh I hm;have S:=bh I hx;have U:=bh I hy;simp only [VR] at K S U;obtain ⟨q,M,h2⟩:=K;obtain ⟨V,X,Q⟩:=U;simp only [VRs] at Q;have F:V=#[]:=by
  apply kY;simpa using Q
 subst F;obtain ⟨q',E,d,O,N,L⟩:=Nx hW Y;rw [M] at O;cases O;have C:∀e∈E.toList,∃p∈l,e.key=.int k2 p.1:=by
  intro e u;have:(e.key,e.val)∈l.map λp=>(Value.int k2 p.1,fnV p.2 #[]):=by rw [<-L];exact du.2 ⟨e,u,rfl⟩
  obtain ⟨p,D,i⟩:=du.1 this;simp only [bw] at i;exact ⟨p,D,i.1.symm⟩
 have r:MapKept.IsKey (.int k2) (.int k2 n):=by simp [MapKept.IsKey]
 have v:Instr.findNow (.int k2) (.int k2 n) E.toList 0=some none:=by
  rcases MapKept.findNow_spec r E.toList 0 (λe u=>by obtain ⟨p,_,D⟩:=C e u;rw [D];simp [MapKept.IsKey]) with ⟨h,_⟩ | ⟨j,e,_,Z,u⟩
  ·exact h
  ·exfalso;obtain ⟨p,D,i⟩:=C e (fD Z);rw [i] at u;have:=(bS.1 B) p D;simp only [Value.int.injEq,ke] at u;simp [u] at this
 refine ⟨_,h,?_⟩;unfold fK;refine ⟨q,M,λ_=>⟨.map (E.push { key:=.int k2 n,val:=fnV g #[],born:=d }) (d+1),.skip,?_,⟨_,_,rfl,?_⟩,.skip rfl⟩⟩
 ·simp only [execOp,W,h2,S,X,ax,Instr.mapUpdate,aS hd,az,MapKept.run_getObj_map N,MapKept.run_checkKey (k:=.int k2 n) R r,MapKept.run_findKey R v,MapKept.run_setObj_map _ N,aC];rfl
 ·rw [Array.toList_push,Cc,Cc,L];rfl
theorem Hl (k:TR ι s.T a.tmps) (D:WR ι s.H s.nb w) (hf:ι f=none) (h:effK P (opd s.T) s.H f o.op c=some z):∃e,c e=some z/\fK P ι f o a w e:=by
 cases j:o.op with
 | move x=>
  rw [j] at h;simp only [effK] at h;obtain ⟨v,p,h⟩:=av h;exact ⟨_,h,.val (by simp only [execOp,j,aC]) (bh k p)⟩
 | assign x=>
  rw [j] at h;simp only [effK] at h;obtain ⟨v,p,h⟩:=av h;exact ⟨_,h,.val (by simp only [execOp,j,aC]) (bh k p)⟩
 | pick q x y=>
  rw [j] at h;simp only [effK] at h;split at h
  ·rename_i t O;have p:=bh k O;simp only [VR] at p;cases t
   ·simp only [af] at h;obtain ⟨v,A,h⟩:=av h;exact ⟨_,h,.val (x:=a.eval y) (by simp [execOp,j,p,asBool]) (bh k A)⟩
   ·simp only [aj] at h;obtain ⟨v,A,h⟩:=av h;exact ⟨_,h,.val (x:=a.eval x) (by simp [execOp,j,p,asBool]) (bh k A)⟩
  ·cases h
 | alloc t=>rw [j] at h;exact I1 j h
 | makeMap t x=>rw [j] at h;exact Cf j h
 | insert t m x y=>rw [j] at h;exact FI j k D h
 | lookup t m x ok=>rw [j] at h;exact FQ j k D h
 | box t x=>rw [j] at h;exact PU j k hf h
 | build t ps=>rw [j] at h;exact I6 j k h
 | buildSlice t n ps=>rw [j] at h;exact vW j k hf h
 | load t x=>rw [j] at h;exact Lu j k D h
 | makeSlice t x y=>rw [j] at h;exact yq j k h
 | store t x y=>rw [j] at h;exact HI j k D h
 | nilCheck x=>
  rw [j] at h;simp only [effK] at h;split at h
  ·rename_i b off B;have p:=bh k B;have A:=p;simp only [VR] at p;obtain ⟨r,h5,C⟩:=p;exact ⟨_,h,.val (x:=a.eval x) (by simp [execOp,j,C]) A⟩
  ·rename_i zz b jj off B;have p:=bh k B;have A:=p;simp only [VR] at p;obtain ⟨r,h5,C⟩:=p;exact ⟨_,h,.val (x:=a.eval x) (by simp [execOp,j,C]) A⟩
  ·rename_i g l B;have p:=bh k B;have A:=p;simp only [VR] at p;obtain ⟨U,C,_⟩:=p;obtain ⟨g',b',c',h7⟩:=wI g U;exact ⟨_,h,.val (x:=a.eval x) (by simp [execOp,j,C,h7]) A⟩
  ·rename_i b off n m B;have p:=bh k B;have A:=p;simp only [VR] at p;obtain ⟨r,cp,_,_,_,C⟩:=p;exact ⟨_,h,.val (x:=a.eval x) (by simp [execOp,j,C]) A⟩
  ·rename_i t v B;have p:=bh k B;have A:=p;simp only [VR] at p;obtain ⟨y,C,_⟩:=p;exact ⟨_,h,.val (x:=a.eval x) (by simp [execOp,j,C]) A⟩
  ·cases h
 | binOp op t x y yt=>
  rw [j] at h;simp only [effK] at h;obtain ⟨u,I,h⟩:=av h;obtain ⟨v,p,h⟩:=av h;split at h
  ·rename_i r W;have B:=bh k I;have L:=bh k p;obtain ⟨J,N⟩:=RD W B L w;exact ⟨_,h,.val (x:=.bool r) (by simp only [execOp,j,ax,J,N,az,aC]) (by simp [VR])⟩
  split at h
  ·rename_i r W;split at h
   case h_2=>cases h
   rename_i m rd F;obtain ⟨hm,h⟩:=dX h;obtain ⟨J,N⟩:=QD W F (aH hm) D (bh k I) (bh k p) x y;exact ⟨_,h,.val (x:=.bool r) (by simp only [execOp,j,ax,J,N,az,aC]) (by simp [VR])⟩
  obtain ⟨R,X,V,Z,J,N⟩:=NZ h (bh k I) (bh k p) x y w;exact ⟨_,V,.val (x:=X) (by simp only [execOp,j,ax,J,N,az,aC]) Z⟩
 | unOp op t x=>
  rw [j] at h;simp only [effK] at h;obtain ⟨u,I,h⟩:=av h;obtain ⟨R,X,V,Z,J⟩:=Qr (P:=P) h (bh k I) w;exact ⟨_,V,.val (x:=X) (by simp only [execOp,j,ax,J,az,aC]) Z⟩
 | convert sr d x=>rw [j] at h;exact C4 j k D h
 | next x str=>rw [j] at h;exact ML j k D h
 | makeInterface t x=>
  rw [j] at h;simp only [effK] at h;obtain ⟨u,I,h⟩:=av h;have p:=bh k I;split at h
  ·cases h
  ·rename_i d Q S;refine ⟨_,h,.val (x:=.iface t (a.eval x)) ?_ (by simp only [VR];exact ⟨_,rfl,p⟩)⟩;simp only [execOp,j,Instr.makeInterface,ax,aS S,az];cases d<;>first | rfl | exact absurd rfl (Q _)
  ·cases h
 | makeFunc fn first cap=>
  rw [j] at h;simp only [effK] at h;split at h
  ·rename_i g G;split at h
   case h_2=>cases h
   rename_i hb;obtain ⟨l,F,h⟩:=av h;have K:=vM k F;have E:first=#[]:=by apply kY;simpa using G
   refine ⟨_,h,.val (x:=.func (.func g) #[] (cap.map a.eval)) ?_ (by simp only [VR];exact ⟨_,(CY hb _).symm,by simpa using K⟩)⟩;simp only [execOp,j,Instr.makeFunc,E,EZ,ax,aC,az]
  ·rename_i g _ _ G;split at h
   ·rename_i M;obtain ⟨l,F,h⟩:=av h;have K:=vM k F;have hcap':cap=#[]:=by apply kY;simpa using M
    refine ⟨_,h,.val (x:=.func (.func g) (first.map a.eval) #[]) ?_ (by simp only [VR];exact ⟨_,(ME g _).symm,by simpa using K⟩)⟩;simp only [execOp,j,Instr.makeFunc,hcap',EZ,ax,aC,az]
   ·cases h
  ·cases h
 | slice t x lo hi mx=>
  rw [j] at h;cases mx with
  | none=>exact Ja j k D h
  | some m=>exact Ge j k D h
 | fieldAddr t x i=>rw [j] at h;exact yV j k h
 | field t x i=>rw [j] at h;exact IS j k h
 | indexAddr t x i=>rw [j] at h;exact yp j k D h
 | index t x i=>rw [j] at h;exact JK j k h
 | range t x=>rw [j] at h;exact HV j k h
 | extract x i=>
  rw [j] at h;simp only [effK] at h;split at h
  ·rename_i l B;obtain ⟨v,p,h⟩:=av h;have F:=bh k B;simp only [VR] at F;obtain ⟨U,C,Y⟩:=F;obtain ⟨y,L,hvy⟩:=Y.get p;have hy':U[i]?=some y:=by simpa using L
   exact ⟨_,h,.val (x:=y) (by simp [execOp,j,C,Instr.extract,hy']) hvy⟩
  ·cases h
 | typeAssert x xt at_ ok=>
  rw [j] at h;simp only [effK] at h;split at h
  case h_2=>cases h
  rename_i t v B;have p:=bh k B;simp only [VR] at p;obtain ⟨y,C,L⟩:=p;split at h
  ·cases h
  ·rename_i d Q S;split at h
   case h_2=>cases h
   rename_i O;have O:=bm O;subst O;cases ok with
   | true=>
    refine ⟨_,h,.val (x:=.tuple #[y,.bool true]) ?_ (by simp only [VR,VRs];exact ⟨_,rfl,y,[.bool true],rfl,L,_,[],rfl,rfl,rfl⟩)⟩;simp only [execOp,j,C,Instr.typeAssert,ax,aS S,az];cases d<;>first | simp | exact absurd rfl (Q _)
   | false=>
    refine ⟨_,h,.val (x:=y) ?_ L⟩;simp only [execOp,j,C,Instr.typeAssert,ax,aS S,az];cases d<;>first | simp | exact absurd rfl (Q _)
  ·cases h
 | call cl=>rw [j] at h;exact K8 j k D h
 | _=>rw [j] at h;simp [effK] at h
end ops
end Go.Abs
