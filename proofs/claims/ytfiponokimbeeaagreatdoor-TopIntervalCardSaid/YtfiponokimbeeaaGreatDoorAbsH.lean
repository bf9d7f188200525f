
/- The abstract effect of an operation is what the model's own operation does: the operations that make no memory; all of them together.
   Conditions: none; generic over the program. -/
import Derived.Test.YtfiponokimbeeaaGreatDoorAbsG
import Derived.Laws.BytesArg
import Derived.Laws.BytesString
import Derived.Lib.ConvBytes
import Derived.Laws.MakeOwn
import Derived.Deep.AppendSrc
import Derived.MapKept
set_option linter.unusedSimpArgs false
set_option linter.unusedVariables false
namespace Go.Abs
variable {P:Program}
section ops
variable {α:Type} {ι:Inj} {s:St} {a:Act} {w:World} {f:Nat} {o:Oper} {c:Eff->Option α} {z:α}
theorem uN {t:TypeId} {a:Array Field} {fd:Field} {i:Nat} {b:TypeInfo} (d:P.underlying t=some (.struct a)) (c:a[i]?=some fd) (hi:P.info? fd.type=some b)
  (hp:0<P.cellsOf fd.type) (r off:Nat) (w:World):(Instr.fieldAt t (.pointer (some ⟨r,off,none⟩)) i).run P w=.ok (.pointer (some ⟨r,off+fd.offset,none⟩)) w:=by
 simp only [Instr.fieldAt,aw,aR d,az,c,Instr.sureAddr,aD,fieldPlace,fk hi,show ¬(P.cellsOf fd.type=0) by omega,aE,lw]
theorem zO {t:TypeId} {x:Operand} {i:Nat} (v:o.op=.fieldAddr t x i) (u:TR ι s.T a.tmps) (h:effK P (opd s.T) s.H f (.fieldAddr t x i) c=some z):
  ∃e,c e=some z/\fO P ι f o a w e:=by
 simp only [effK] at h;split at h
 ·rename_i b off hx;split at h
  ·rename_i A p;split at h
   ·rename_i fd m;split at h
    ·rename_i hp;obtain ⟨y,g⟩:=bL hp;have k:=bh u hx;simp only [VR] at k;obtain ⟨r,l,n⟩:=k;have d:=uN p (by simpa using m) g (aG hp) r.r off w;exact ⟨_,h,.val (x:=.pointer (some ⟨r.r,off+fd.offset,none⟩)) (by simp only [execOp,v,n,aw,d,az,aD]) (by simp only [VR,nE];exact ⟨r,l,rfl⟩)⟩
    ·cases h
   ·cases h
  ·cases h
 ·rename_i q b j off hx;split at h
  ·rename_i A p;split at h
   ·rename_i fd m;split at h
    ·rename_i hp;obtain ⟨y,g⟩:=bL hp;have k:=bh u hx;simp only [VR] at k;obtain ⟨r,l,n⟩:=k;have d:=uN p (by simpa using m) g (aG hp) r.r (r.o+(j*q+off)) w;exact ⟨_,h,.val (x:=.pointer (some ⟨r.r,r.o+(j*q+off)+fd.offset,none⟩)) (by simp only [execOp,v,n,aw,d,az,aD]) (by simp only [VR,nE];exact ⟨r,l,by rw [gj,gj]⟩)⟩
    ·cases h
   ·cases h
  ·cases h
 ·cases h
theorem ID {t:TypeId} {x:Operand} {i:Nat} (n:o.op=.field t x i) (E:TR ι s.T a.tmps) (h:effK P (opd s.T) s.H f (.field t x i) c=some z):
  ∃e,c e=some z/\fO P ι f o a w e:=by
 simp only [effK] at h;split at h
 ·rename_i l hx;have p:=bh E hx;simp only [VR] at p;obtain ⟨r,q,j⟩:=p;split at h
  ·rename_i D u;split at h
   ·rename_i fd A;have hf':D[i]?=some fd:=by simpa using A
    split at h
    ·rename_i b;split at h
     ·have C:∃d,P.underlying fd.type=some d:=by
       unfold bI at b;split at b
       ·exact ⟨_,by assumption⟩
       ·exact ⟨_,by assumption⟩
       ·cases b
      obtain ⟨d',g⟩:=C;obtain ⟨F,m⟩:=lC g;refine ⟨_,h,.val (x:=.agg (r.extract fd.offset (fd.offset+P.cellsOf fd.type))) ?_ (nN (j.extract _ _))⟩;simp only [execOp,n,q,Instr.field,aw,aR u,az,hf',asAgg,aD,part,jn g,b,aI,fk m]
     ·cases h
    ·rename_i b;split at h
     ·rename_i d' g;obtain ⟨v,B,h⟩:=au h;obtain ⟨y,hy,k⟩:=j.get B;have hy':r[fd.offset]?=some y:=by simpa using hy
      refine ⟨_,h,.val (x:=y) ?_ k⟩;simp only [execOp,n,q,Instr.field,aw,aR u,az,hf',asAgg,aD,part,jn g,b,bj,aE,hy']
     ·cases h
   ·cases h
  ·cases h
 ·cases h
theorem mU {t e:TypeId} {m:Nat} {b:TypeInfo} (d:P.underlying t=some (.array m e)) (hi:P.info? e=some b) (k:IntKind) {n:Int} (a:0<=n) (c:n<m) (r off:Nat) (w:World):
  (Instr.indexAt t (.pointer (some ⟨r,off,none⟩)) (.int k n)).run P w=.ok (.pointer (some ⟨r,off+n.toNat*P.cellsOf e,none⟩)) w:=by
 simp only [Instr.indexAt,asIntOf,aw,aD,az,aR d,Instr.sureAddr,a,c,and_self,aI,fk hi,lw]
theorem ki {t e:TypeId} {m cp:Nat} {b:TypeInfo} (d:P.underlying t=some (.slice e)) (hi:P.info? e=some b) (k:IntKind) {n:Int} (a:0<=n) (c:n<m) (r off:Nat) (w:World):
  (Instr.indexAt t (.slice (some ⟨r,off,none⟩) m cp) (.int k n)).run P w=.ok (.pointer (some ⟨r,off+n.toNat*P.cellsOf e,none⟩)) w:=by
 simp only [Instr.indexAt,asIntOf,aw,aD,az,aR d,a,c,and_self,aI,fk hi,lw]
theorem y7 {t:TypeId} {x i:Operand} (F:o.op=.indexAddr t x i) (D:TR ι s.T a.tmps) (M:WR ι s.H s.nb w) (h:effK P (opd s.T) s.H f (.indexAddr t x i) c=some z):
  ∃e,c e=some z/\fO P ι f o a w e:=by
 simp only [effK] at h;split at h
 case h_2=>cases h
 rename_i k n hi;have u:=bh D hi;simp only [VR] at u;split at h
 ·rename_i m e E;split at h
  ·rename_i b off hx;have p:=bh D hx;simp only [VR] at p;obtain ⟨r,v,C⟩:=p;split at h
   ·rename_i hp;obtain ⟨I,g⟩:=bL hp;obtain ⟨j,B,h⟩:=au h;obtain ⟨g0,A,rfl⟩:=mM B;have d:=mU E g k g0 A r.r off w;exact ⟨_,h,.val (x:=.pointer (some ⟨r.r,off+n.toNat*P.cellsOf e,none⟩)) (by simp only [execOp,F,C,u,aw,d,az,aD]) (by simp only [VR,nE,ut];exact ⟨r,v,rfl⟩)⟩
   ·cases h
  ·rename_i J b K off hx;have p:=bh D hx;simp only [VR] at p;obtain ⟨r,v,C⟩:=p;split at h
   ·rename_i hp;obtain ⟨I,g⟩:=bL hp;obtain ⟨j,B,h⟩:=au h;obtain ⟨g0,A,rfl⟩:=mM B;have d:=mU E g k g0 A r.r (r.o+(K*J+off)) w;exact ⟨_,h,.val (x:=.pointer (some ⟨r.r,r.o+(K*J+off)+n.toNat*P.cellsOf e,none⟩)) (by simp only [execOp,F,C,u,aw,d,az,aD]) (by simp only [VR,nE,ut];exact ⟨r,v,by rw [gj,gj]⟩)⟩
   ·cases h
  ·cases h
 ·rename_i e E;split at h
  ·rename_i b off m cp hx;have p:=bh D hx;simp only [VR] at p;obtain ⟨r,cap,v,_,_,C⟩:=p;split at h
   ·rename_i hp;obtain ⟨I,g⟩:=bL hp;obtain ⟨j,B,h⟩:=au h;obtain ⟨g0,A,rfl⟩:=mM B;have d:=ki (cp:=cap) E g k g0 A r.r off w;exact ⟨_,h,.val (x:=.pointer (some ⟨r.r,off+n.toNat*P.cellsOf e,none⟩)) (by simp only [execOp,F,C,u,aw,d,az,aD]) (by simp only [VR,nE,ut];exact ⟨r,v,rfl⟩)⟩
   ·cases h
  ·rename_i b hx;have p:=bh D hx;simp only [VR] at p;split at h
   case h_2=>cases h
   rename_i tr l L;split at h
   case h_2=>cases h
   rename_i hp;simp only [aB,ig] at hp;obtain ⟨N,hp⟩:=hp;obtain ⟨I,g⟩:=bL hp;obtain ⟨j,B,h⟩:=au h;obtain ⟨g0,A,rfl⟩:=mM B;rcases iw M L with ⟨q,U,Z,fr,G,V,O,Y,S,R,W⟩ | ⟨G,rfl⟩
   ·rcases p with ⟨X,v,C⟩ | ⟨v,_⟩
    ·rw [v] at G;cases G;have g1':n<(q.n:Int):=by rw [<-O];exact A
     have d:=ki (cp:=q.k) E g k g0 g1' q.r q.o w;exact ⟨_,h,.val (x:=.pointer (some ⟨q.r,q.o+n.toNat*P.cellsOf e,none⟩)) (by simp only [execOp,F,C,u,aw,d,az,aD]) (by simp only [VR];exact ⟨q,v,by rw [bZ]⟩)⟩
    ·rw [v] at G;cases G
   ·simp at A;omega
  ·rename_i J b Q m _ hx;have p:=bh D hx;simp only [VR] at p;split at h
   case h_2=>cases h
   rename_i hp;simp only [aB,ig] at hp;obtain ⟨rfl,hp⟩:=hp;obtain ⟨I,g⟩:=bL hp;obtain ⟨j,B,h⟩:=au h;obtain ⟨g0,A,rfl⟩:=mM B;rcases p with ⟨q,cp,off,v,_,y,C⟩ | ⟨_,⟨rfl,_⟩,_⟩
   ·have d:=ki (cp:=cp) E g k g0 A q.r off w;have y:=y (by omega);exact ⟨_,h,.val (x:=.pointer (some ⟨q.r,off+n.toNat*P.cellsOf e,none⟩)) (by simp only [execOp,F,C,u,aw,d,az,aD]) (by simp only [VR,nE];exact ⟨q,v,by rw [y,fY,bZ,gj]⟩)⟩
   ·omega
  ·cases h
 ·cases h
theorem gZ {t e:TypeId} {m:Nat} {c:TypeInfo} (f:P.underlying t=some (.array m e)) (hi:P.info? e=some c) (k:IntKind) {n:Int} (b:0<=n) (d:n<m) (a:Array Value) (w:World):
  (Instr.index t (.agg a) (.int k n)).run P w=(part e a (n.toNat*P.cellsOf e)).run P w:=by
 simp only [Instr.index,asIntOf,aw,aD,az,aR f,b,d,and_self,aI,fk hi]
theorem pg {t:TypeId} {d:TypeDesc} (b:P.underlying t=some d) (c:bI P t=false) {a:Array Value} {off:Nat} {x:Value} (hx:a[off]?=some x) (w:World):
  (part t a off).run P w=.ok x w:=by
 simp only [part,aw,jn b,c,az,bj,aE,hx,aD]
theorem tn {t:TypeId} {d:TypeDesc} (a:P.underlying t=some d) (c:bI P t=true) (b:Array Value) (off:Nat) (w:World):
  (part t b off).run P w=.ok (.agg (b.extract off (off+P.cellsOf t))) w:=by
 obtain ⟨i,hi⟩:=lC a;simp only [part,aw,jn a,c,az,aI,fk hi,aD]
theorem tN {t:TypeId} (f:P.underlying t=some .string) {l:aa} {n:Int} {b:UInt8} (h:sx l n=some b) (k:IntKind) (w:World):
  (Instr.index t (.string ⟨l.toArray⟩) (.int k n)).run P w=.ok (.int .u8 b.toNat) w:=by
 unfold sx at h;split at h
 ·rename_i d;have e:(ByteArray.mk l.toArray)[n.toNat]?=some b:=by
   have a:n.toNat<l.length:=by
    rcases aF n.toNat l.length with c | c
    ·exact c
    ·rw [fX c] at h;cases h
   have hs:n.toNat<(ByteArray.mk l.toArray).size:=a;rw [getElem?_pos (ByteArray.mk l.toArray) n.toNat hs];rw [bn a] at h;simp only [ak] at h ⊢;exact h
  simp only [Instr.index,asIntOf,aw,aD,az,aR f,d,aI,e]
 ·cases h
theorem Ip {t:TypeId} {x i:Operand} (E:o.op=.index t x i) (G:TR ι s.T a.tmps) (h:effK P (opd s.T) s.H f (.index t x i) c=some z):
  ∃e,c e=some z/\fO P ι f o a w e:=by
 simp only [effK] at h;split at h
 case h_2=>cases h
 rename_i k n hi;have d:=bh G hi;simp only [VR] at d;split at h
 ·rename_i m e D;split at h
  ·cases h
  rename_i hp;obtain ⟨Q,q⟩:=bL hp;split at h
  ·rename_i k' m' l hx;have p:=bh G hx;simp only [VR] at p;obtain ⟨L,F⟩:=p;split at h
   ·rename_i k2 g;split at h
    ·rename_i r;have r:=bq r;obtain ⟨j,B,h⟩:=au h;obtain ⟨g0,u,rfl⟩:=mM B;obtain ⟨v,p,h⟩:=au h;refine ⟨_,h,.val (x:=.int k' v) ?_ (by simp [VR])⟩;simp only [execOp,E,F,d,aw,gZ D q k g0 u];rw [pg g (by simp [bI,g]) (x:=.int k' v) (by simp [r,p])];rfl
    ·cases h
   ·cases h
  ·rename_i l hx;have p:=bh G hx;simp only [VR] at p;obtain ⟨J,F,A⟩:=p;split at h
   ·rename_i R g;obtain ⟨j,B,h⟩:=au h;obtain ⟨g0,u,rfl⟩:=mM B;refine ⟨_,h,.val (x:=.agg (J.extract (n.toNat*P.cellsOf e) (n.toNat*P.cellsOf e+P.cellsOf e))) ?_ (nN (A.extract _ _))⟩;simp only [execOp,E,F,d,aw,gZ D q k g0 u,tn g (by simp [bI,g]),az,aD]
   ·rename_i m2 O g;obtain ⟨j,B,h⟩:=au h;obtain ⟨g0,u,rfl⟩:=mM B;refine ⟨_,h,.val (x:=.agg (J.extract (n.toNat*P.cellsOf e) (n.toNat*P.cellsOf e+P.cellsOf e))) ?_ (nN (A.extract _ _))⟩;simp only [execOp,E,F,d,aw,gZ D q k g0 u,tn g (by simp [bI,g]),az,aD]
   ·rename_i g;split at h
    ·rename_i r;have r:=bq r;split at h
     ·rename_i M I;obtain ⟨j,B,h⟩:=au h;obtain ⟨g0,u,rfl⟩:=mM B;obtain ⟨v,p,h⟩:=au h;obtain ⟨y,hy,C⟩:=A.get (j:=n.toNat) (v:=.s v) (by rw [ru I];simp [p]);refine ⟨_,h,.val (x:=y) ?_ C⟩;simp only [execOp,E,F,d,aw,gZ D q k g0 u];rw [pg g (by simp [bI,g]) (x:=y) (by simpa [r] using hy)];rfl
     ·cases h
    ·cases h
   ·rename_i d' N U S g;split at h
    ·rename_i r;have r:=bq r;obtain ⟨j,B,h⟩:=au h;obtain ⟨g0,u,rfl⟩:=mM B;obtain ⟨v,p,h⟩:=au h;obtain ⟨y,hy,C⟩:=A.get p;refine ⟨_,h,.val (x:=y) ?_ C⟩;simp only [execOp,E,F,d,aw,gZ D q k g0 u];rw [pg g (by simp only [bI,g];cases d'<;>simp_all) (x:=y) (by simpa [r] using hy)];rfl
    ·cases h
   ·cases h
  ·cases h
 ·rename_i D;split at h
  ·rename_i l hx;have p:=bh G hx;simp only [VR] at p;obtain ⟨b,K,h⟩:=au h;refine ⟨_,h,.val (x:=.int .u8 b.toNat) ?_ (by simp [VR])⟩;simp only [execOp,E,p,d,aw,tN D K,az,aD]
  ·cases h
 ·cases h
theorem yN {t:TypeId} (a:P.underlying t=some .string) {l:aa} {lo hi:Option Value} {L H:Nat} {w:World}
  (b:(Instr.sliceBounds false l.length l.length lo hi none).run P w=.ok (L,H,l.length) w):
  (Instr.sliceAt t (.string ⟨l.toArray⟩) lo hi none).run P w=.ok (.string ⟨((l.take H).drop L).toArray⟩) w:=by
 rw [run_sliceAt_string w t _ _ _ _ a];have hs:(ByteArray.mk l.toArray).size=l.length:=rfl;simp only [Instr.slice,aw,aR a,az,uL,bj,aE,hs,b,aD];congr 2;apply Kw;rw [ByteArray.data_extract];apply jK;simp [List.extract,wu]
theorem yT {t e:TypeId} {n:Nat} {b:TypeInfo} (d:P.underlying t=some (.array n e)) (hi:P.info? e=some b) {lo a:Option Value} {L H r off:Nat} {w:World}
  (c:(Instr.sliceBounds false n n lo a none).run P w=.ok (L,H,n) w):
  (Instr.sliceAt t (.pointer (some ⟨r,off,none⟩)) lo a none).run P w=.ok (.slice (some ⟨r,if n=L then off else off+L*P.cellsOf e,none⟩) (H - L) (n - L)) w:=by
 simp only [Instr.sliceAt,aw,aR d,az,Instr.sureAddr,aD,c,fk hi,lw];split<;>rfl
theorem mA {t e:TypeId} {n cp:Nat} {b:TypeInfo} (d:P.underlying t=some (.slice e)) (hi:P.info? e=some b) {lo a:Option Value} {L H r off:Nat} {w:World}
  (c:(Instr.sliceBounds true n cp lo a none).run P w=.ok (L,H,cp) w):
  (Instr.sliceAt t (.slice (some ⟨r,off,none⟩) n cp) lo a none).run P w=.ok (.slice (some ⟨r,if cp=L then off else off+L*P.cellsOf e,none⟩) (H - L) (cp - L)) w:=by
 simp only [Instr.sliceAt,Instr.slice,aw,aR d,az,c,fk hi,aD];split
 ·rfl
 ·simp only [dU,lw]
theorem ii (n l x y:Nat):cond (Nat.beq n l) x y=if n=l then x else y:=by
 by_cases h:n=l
 ·subst h;simp
 ·have:Nat.beq n l=false:=by
   cases a:Nat.beq n l
   ·rfl
   ·exact absurd (bq a) h
  simp [this,h]
theorem rQ {t e:TypeId} {c:TypeInfo} {b:Option Addr} (f:P.underlying t=some (.slice e)) (hi:P.info? e=some c) {lo a:Option Value} {w:World}
  (d:(Instr.sliceBounds true 0 0 lo a none).run P w=.ok (0,0,0) w):
  (Instr.sliceAt t (.slice b 0 0) lo a none).run P w=.ok (.slice b 0 0) w:=by
 simp only [Instr.sliceAt,Instr.slice,aw,aR f,az,d,fk hi,aD,aI]
theorem BB {T:List (Nat×Option V)} (p:TR ι T a.tmps) {lo hi:Option Operand} {l h:Option Int} (s:pa (opd T) lo=some l)
  (x:pa (opd T) hi=some h) {len:Nat} {c:Nat->Nat->Option α} (e:(hiK len len h λh=>loK h l λl=>c h l)=some z):
  ∃H L,c H L=some z/\H<=len/\L<=H/\∀n,len<=n->∀w,(Instr.sliceBounds true len n (lo.map a.eval) (hi.map a.eval) none).run P w=.ok (L,H,n) w:=by
 have o:∀{H:Nat},loK H l (c H)=some z->∃L,c H L=some z/\L<=H/\
   ∀w,(match lo.map a.eval with | some v=>Instr.sliceBound v H .sliceB | none=>pure 0).run P w=.ok L w:=by
  intro H e;rcases mP p s with ⟨rfl,g⟩ | ⟨k,m,rfl,g⟩
  ·exact ⟨0,e,je _,λw=>by rw [g];rfl⟩
  ·simp only [loK] at e;obtain ⟨L,i,j⟩:=au e;obtain ⟨g0,q,rfl⟩:=kb i;exact ⟨_,j,by omega,λw=>by rw [g];exact run_sliceBound w k m H .sliceB g0 q⟩
 rcases mP p x with ⟨rfl,g⟩ | ⟨k,m,rfl,g⟩
 ·simp only [hiK] at e;obtain ⟨L,i,j,d⟩:=o e;refine ⟨len,L,i,aQ _,j,λn t w=>?_⟩;have d:=d w;rw [g];simp only [Instr.sliceBounds,aw,aD,az,uL,bj,aE];cases b:lo.map a.eval with
  | none=>rw [b] at d;simp only [aD,wJ,vf] at d;simp [d]
  | some v=>rw [b] at d;simp only [] at d;simp [d]
 ·simp only [hiK] at e;obtain ⟨H,i,j⟩:=au e;obtain ⟨g0,q,rfl⟩:=kb i;obtain ⟨L,r,d,f⟩:=o j;refine ⟨_,L,r,by omega,d,λn t w=>?_⟩;have f:=f w;rw [g];have u:=run_sliceBound (P:=P) w k m n .sliceAcap g0 (by omega);simp only [Instr.sliceBounds,aw,aD,az,uL,bj,aE,aI,u];cases b:lo.map a.eval with
  | none=>rw [b] at f;simp only [aD,wJ,vf] at f;simp [f]
  | some v=>rw [b] at f;simp only [] at f;simp [f]
theorem IJ {t:TypeId} {x:Operand} {lo hi:Option Operand} (I:o.op=.slice t x lo hi none) (G:TR ι s.T a.tmps) (hW:WR ι s.H s.nb w) (h:effK P (opd s.T) s.H f (.slice t x lo hi none) c=some z):
  ∃e,c e=some z/\fO P ι f o a w e:=by
 simp only [effK] at h;obtain ⟨v,hx,E⟩:=au h;obtain ⟨l,K,Y⟩:=au E;obtain ⟨hh,u,d⟩:=au Y;clear h E Y;have B:=bh G hx;clear hx;split at d
 ·rename_i D;cases v<;>simp only [reduceCtorEq] at d;rename_i sl;simp only [VR] at B;obtain ⟨H,L,g,_,_,_,i,_,A⟩:=vL (P:=P) G K u (isSlice:=false) d;refine ⟨_,g,.val (x:=.string ⟨((sl.take H).drop L).toArray⟩) ?_ (by simp [VR])⟩;simp only [execOp,I,B,aw,gR];rw [yN D (A w)];rfl
 ·rename_i n e D;split at d
  case h_2=>cases d
  rename_i hp;obtain ⟨ti,p⟩:=bL hp;cases v<;>simp only [reduceCtorEq] at d;rename_i b off;simp only [VR] at B;obtain ⟨r,i,y⟩:=B;obtain ⟨H,L,g,_,F,C,g4,_,A⟩:=vL (P:=P) G K u (isSlice:=false) d;have X:H<=n:=by
   cases hh with
   | none=>exact vV (F rfl)
   | some q=>exact C (by simp)
  refine ⟨_,g,.val (x:=.slice (some ⟨r.r,if n=L then off else off+L*P.cellsOf e,none⟩) (H - L) (n - L)) ?_ ?_⟩
  ·simp only [execOp,I,y,aw,gR];rw [yT D p (A w)];rfl
  ·simp only [VR];exact ⟨r,n - L,i,λm N=>by cases N;rfl,by omega,by rw [ii,nE,ut]⟩
 ·rename_i e D;split at d
  case h_2=>cases d
  rename_i hp;obtain ⟨ti,p⟩:=bL hp;cases v<;>try (simp only [reduceCtorEq] at d;done)
  ·rename_i b;simp only [VR] at B;simp only at d;split at d
   case h_2=>cases d
   rename_i tr m Z;split at d
   case h_2=>cases d
   rename_i J;have J:=bq J;obtain ⟨H,L,g,F,C,A⟩:=BB (P:=P) G K u d;rcases iw hW Z with ⟨q,cs,e',fr,E,Y,q4,q5,_,_,_⟩ | ⟨E,rfl⟩
   ·rcases B with ⟨q',i,y⟩ | ⟨i,_⟩
    ·rw [i] at E;cases E;refine ⟨_,g,.val (x:=.slice (some ⟨q.r,if q.k=L then q.o else q.o+L*P.cellsOf e,none⟩) (H - L) (q.k - L)) ?_ ?_⟩
     ·simp only [execOp,I,y,aw,gR];rw [<-q4,mA D p (A q.k (by omega) w)];rfl
     ·simp only [VR];exact .inl ⟨q,_,_,i,⟨by omega,jg⟩,λO=>by rw [ab (by omega)],rfl⟩
    ·rw [i] at E;cases E
   ·rcases B with ⟨q,i,y⟩ | ⟨i,R,y⟩
    ·rw [i] at E;cases E
    ·simp only [dm,zL] at F C;subst F;simp only [zL] at C;subst C;refine ⟨_,g,.val (x:=.slice R 0 0) ?_ (by unfold VR;exact .inr ⟨i,⟨rfl,jg⟩,R,rfl⟩)⟩;simp only [execOp,I,y,aw,gR];rw [rQ D p (A 0 (aQ _) w)];rfl
  ·rename_i zz b j n _;simp only [VR] at B;simp only at d;split at d
   case h_2=>cases d
   rename_i J;have J:=bq J;obtain ⟨H,L,g,F,C,A⟩:=BB (P:=P) G K u d;rcases B with ⟨q,cp,off,i,⟨S,_⟩,Q,y⟩ | ⟨i,⟨rfl,_⟩,R,y⟩
   ·refine ⟨_,g,.val (x:=.slice (some ⟨q.r,if cp=L then off else off+L*P.cellsOf e,none⟩) (H - L) (cp - L)) ?_ ?_⟩
    ·simp only [execOp,I,y,aw,gR];rw [mA D p (A cp S w)];rfl
    ·simp only [VR];exact .inl ⟨q,_,_,i,⟨by omega,jg⟩,λO=>by rw [ab (by omega),Q (by omega),nE,fY,J,gj],rfl⟩
   ·simp only [zL] at F;subst F;simp only [zL] at C;subst C;refine ⟨_,g,.val (x:=.slice R 0 0) ?_ (by unfold VR;exact .inr ⟨i,⟨rfl,jg⟩,R,rfl⟩)⟩;simp only [execOp,I,y,aw,gR];rw [rQ D p (A 0 (aQ _) w)];rfl
  rename_i b off n cap;simp only [VR] at B;obtain ⟨r,cp,i,U,S,y⟩:=B;cases cap with
  | some m=>
   obtain rfl:=U m rfl;obtain ⟨H,L,g,_,F,C,g4,_,A⟩:=vL (P:=P) G K u (isSlice:=true) d;have X:H<=cp:=by
    cases hh with
    | none=>have:=F rfl;omega
    | some q=>exact C (by simp)
   refine ⟨_,g,.val (x:=.slice (some ⟨r.r,if cp=L then off else off+L*P.cellsOf e,none⟩) (H - L) (cp - L)) ?_ ?_⟩
   ·simp only [execOp,I,y,aw,gR];rw [mA D p (A w)];rfl
   ·simp only [VR];exact ⟨r,cp - L,i,λm N=>by cases N;rfl,by omega,by rw [ii,nE,ut]⟩
  | none=>
   have W:l=none:=by
    cases l with
    | none=>rfl
    | some q=>
     cases hh with
     | none=>simp [hiK] at d
     | some q=>simp only [hiK] at d;obtain ⟨_,_,q4⟩:=au d;cases q4
   subst W;have M:lo.map a.eval=none:=by
    rcases mP G K with ⟨_,g⟩ | ⟨k,m,h0,_⟩
    ·exact g
    ·cases h0
   have key:∃H,c { val:=some (.sl b off H none) }=some z/\H<=n/\(Instr.sliceBounds true n cp (lo.map a.eval) (hi.map a.eval) none).run P w=.ok (0,H,cp) w:=by
    rcases mP G u with ⟨rfl,g⟩ | ⟨k,m,rfl,g⟩
    ·simp only [hiK] at d;exact ⟨n,d,aQ _,by rw [g,M];simp [Instr.sliceBounds]⟩
    ·simp only [hiK] at d;obtain ⟨H,h2,V⟩:=au d;obtain ⟨g0,g1,rfl⟩:=kb h2;refine ⟨_,V,by omega,?_⟩;have Z:=run_sliceBound (P:=P) w k m cp .sliceAcap g0 (by omega);rw [g,M];simp [Instr.sliceBounds,Z]
   obtain ⟨H,g,h2,V⟩:=key;refine ⟨_,g,.val (x:=.slice (some ⟨r.r,if cp=0 then off else off+0*P.cellsOf e,none⟩) (H - 0) (cp - 0)) ?_ ?_⟩
   ·simp only [execOp,I,y,aw,gR];rw [mA D p V];rfl
   ·simp only [VR];exact ⟨r,cp,i,λm N=>(by cases N),by omega,by simp⟩
 ·cases d
theorem vg (a:List Int):a.foldl (λ(r:ByteArray) n=>r.push (UInt8.ofNat n.toNat)) ByteArray.empty=⟨(gp a).toArray⟩:=by
 rw [foldl_push_bytes];apply Kw;simp [gp]
theorem wU {w:World} {r off q m cp:Nat} {l:List Int} {e:TypeId} {fr:Nat×Nat} (h:w.heap[r]?=some (.cells (l.map (Value.int .u8)).toArray e fr)) (g:l.length=q) (f:off+m<=q):
  (Conv.bytesToString (.slice (some ⟨r,off,none⟩) m cp)).run P w=.ok (.string ⟨(gp ((l.drop off).take m)).toArray⟩) w:=by
 have a:(((l.drop off).take m).map (Value.int .u8)).length=m:=by simp;omega
 have hc:=vT (P:=P) w ⟨r,off,none⟩ (((l.drop off).take m).map (Value.int .u8)) (λj v b=>by
  have c:j<m:=by
   rcases aF j m with d | d
   ·exact d
   ·rw [fX (by omega)] at b;cases b
  rw [lw,be h];rw [lX,ov c,ll] at b;simpa using b)
 rw [a] at hc;rw [run_bytesToString w _ m cp _ hc,vg]
theorem zj (w:World) (e:TypeId) (s:ByteArray):
  Lib.bytesWorld w e s=World.alloc { w with drawn:=w.drawn+1 } (.cells (Lib.bytesCells w e s) e ((Lib.bytesCells w e s).size,(Lib.bytesCells w e s).size+1)):=by
 have c:=Lib.bytesWorld_at_new w e s;have f:=Lib.bytesWorld_size w e s;have d:(Lib.bytesWorld w e s).heap=w.heap.push (.cells (Lib.bytesCells w e s) e ((Lib.bytesCells w e s).size,(Lib.bytesCells w e s).size+1)):=by
  apply Ql;intro j;by_cases b:j=w.heap.size
  ·subst b;rw [c];simp
  ·by_cases a:j<w.heap.size
   ·rw [Lib.bytesWorld_at_old w e s j a,Array.getElem?_push,ab b]
   ·rw [vZ (by omega),vZ (by simp;omega)]
 show ({ (Lib.bytesWorld w e s) with heap:=(Lib.bytesWorld w e s).heap }:World)=_;rw [d];rfl
theorem pR:∀(l:List Int),l.flatMap (vals [.i .u8])=l.map (Value.int .u8)
 | []=>rfl
 | x::l=>by
  have:=pR l;simp only [pB,iC,vals,Lf.val] at this ⊢;rw [this];rfl
theorem qu {w:World} {r cp:Nat} {l:List Int} {c:Array Value} {e:TypeId} {fr:Nat×Nat} {m:Nat} (h:w.heap[r]?=some (.cells c e fr)) (k:m<=c.size)
  {o:Nat} (p:(c.toList.drop o).take (l.length*([Lf.i .u8]:List Lf).length)=l.flatMap (vals [.i .u8])) {j n:Nat} (s:j+n<=l.length):
  (Conv.bytesToString (.slice (some ⟨r,o+j,none⟩) n cp)).run P w=.ok (.string ⟨(gp ((l.drop j).take n)).toArray⟩) w:=by
 have hl':(c.toList.drop o).take l.length=l.map (Value.int .u8):=by rw [<-pR];simpa using p
 have a:(((l.drop j).take n).map (Value.int .u8)).length=n:=by simp;omega
 have hc:=vT (P:=P) w ⟨r,o+j,none⟩ (((l.drop j).take n).map (Value.int .u8)) (λi v b=>by
  have d:i<n:=by
   rcases aF i n with g | g
   ·exact g
   ·rw [fX (by omega)] at b;cases b
  rw [lw,be h];rw [lX,ov d,ll] at b;have f:=bO (λq:List Value=>q[j+i]?) hl';simp only [ov (show j+i<l.length by omega),lX,ll] at f;rw [b] at f;simpa [gj] using f)
 rw [a] at hc;rw [run_bytesToString w _ n cp _ hc,vg]
theorem ql {w:World} (c:Option Addr):(Conv.bytesToString (.slice c 0 0)).run P w=.ok (.string ⟨#[]⟩) w:=by
 cases c with
 | none=>rfl
 | some a=>
  have b:=vT (P:=P) w a ([].map (Value.int .u8)) (λj v d=>by simp at d);exact run_bytesToString (P:=P) w a 0 0 [] b
theorem Dc {B d:TypeId} {x:Operand} (y:o.op=.convert B d x) (hT:TR ι s.T a.tmps) (Q:WR ι s.H s.nb w) (h:effK P (opd s.T) s.H f (.convert B d x) c=some z):
  ∃e,c e=some z/\fO P ι f o a w e:=by
 simp only [effK] at h;obtain ⟨v,hx,q⟩:=au h;clear h;have g:=bh hT hx;clear hx;split at q
 case h_2=>cases q
 rename_i C hs;split at q
 ·rename_i k t;cases v<;>simp only [reduceCtorEq] at q;rename_i k' n;simp only [VR] at g;refine ⟨_,q,.val (x:=.int k (k.wrap n)) ?_ (by simp [VR])⟩;simp only [execOp,y,g,aw,convert,aR hs,aR t,az];cases C<;>rfl
 ·rename_i t;cases v<;>simp only [reduceCtorEq] at q
  ·rename_i b;simp only [VR] at g;cases C<;>try (simp only [reduceCtorEq] at q;done)
   rename_i e;simp only at q;split at q
   case h_2=>cases q
   rename_i u;split at q
   case h_2=>cases q
   rename_i l E;refine ⟨_,q,.val (x:=.string ⟨(gp l).toArray⟩) ?_ (by simp [VR])⟩;rcases iw Q E with ⟨q,cs,Y,fr,i,N,X,q5,K,O,_⟩ | ⟨i,rfl⟩
   ·rcases g with ⟨q',p,A⟩ | ⟨p,_⟩
    ·rw [p] at i;cases i;simp only [execOp,y,A,aw,run_convert_bytes_string w B d e _ _ _ hs u t];rw [<-X];have:=qu (P:=P) (cp:=q.k) N K O (j:=0) (n:=l.length) (by omega);simp only [cg,mf,bZ] at this;rw [this];rfl
    ·rw [p] at i;cases i
   ·rcases g with ⟨q,p,A⟩ | ⟨p,U,A⟩
    ·rw [p] at i;cases i
    ·simp only [execOp,y,A,aw,run_convert_bytes_string w B d e U 0 0 hs u t,ql];rfl
  ·rename_i zz b j n _;simp only [VR] at g;cases C<;>try (simp only [reduceCtorEq] at q;done)
   rename_i e;simp only at q;split at q
   case h_2=>cases q
   rename_i u;split at q
   case h_2=>cases q
   rename_i l E;split at q
   case h_2=>cases q
   rename_i I;have I:=bq I;subst I;obtain ⟨hc,q⟩:=dr q;have D:=aG hc;refine ⟨_,q,.val (x:=.string ⟨(gp ((l.drop j).take n)).toArray⟩) ?_ (by simp [VR])⟩;rcases g with ⟨V,cp,off,p,⟨J,_⟩,M,A⟩ | ⟨p,⟨rfl,_⟩,U,A⟩
   ·rcases iw Q E with ⟨q',cs,Y,fr,i,N,X,q5,K,O,_⟩ | ⟨i,rfl⟩
    ·rw [p] at i;cases i;simp only [execOp,y,A,aw,run_convert_bytes_string w B d e _ _ _ hs u t];by_cases hn:0<n
     ·rw [M hn,sT];rw [qu (P:=P) (cp:=cp) N K O D];rfl
     ·have R:n=0:=by omega
      subst R;have L:=vT (P:=P) w ⟨V.r,off,none⟩ ([].map (Value.int .u8)) (λj v W=>by simp at W);have h0:=run_bytesToString (P:=P) w ⟨V.r,off,none⟩ 0 cp [] L;rw [h0];simp [gp];rfl
    ·rw [p] at i;cases i
   ·simp only [execOp,y,A,aw,run_convert_bytes_string w B d e U 0 0 hs u t,ql];simp [gp]
  ·rename_i k' n;simp only [VR] at g;cases C<;>simp only [reduceCtorEq] at q;refine ⟨_,q,.val (x:=.string (Utf8.encode n)) ?_ ?_⟩
   ·simp only [execOp,y,g,aw,convert,aR hs,aR t,az,Conv.intToString,aD]
   ·simp [VR]
  ·rename_i l;simp only [VR] at g;cases C<;>simp only [reduceCtorEq] at q;refine ⟨_,q,.val (x:=.string ⟨l.toArray⟩) ?_ (by simp [VR])⟩;simp only [execOp,y,g,aw,convert,aR hs,aR t,az,aD]
  ·simp only [VR] at g;cases C<;>try (simp only [reduceCtorEq] at q;done)
   rename_i e;simp only at q;split at q
   ·rename_i u;refine ⟨_,q,.val (x:=.string .empty) ?_ (by simp only [VR];rfl)⟩;simp only [execOp,y,g,aw,run_convert_bytes_string w B d e none 0 0 hs u t];rfl
   ·cases q
  ·rename_i b off m cap;simp only [VR] at g;obtain ⟨r,cp,p,_,_,A⟩:=g;cases C<;>try (simp only [reduceCtorEq] at q;done)
   rename_i e;simp only at q;split at q
   ·rename_i u;split at q
    ·rename_i qn l E;obtain ⟨hc,q⟩:=dr q;have D:=aG hc;obtain ⟨r',Y,fr,J,M,Z,_⟩:=uf Q E;rw [p] at J;cases J;refine ⟨_,q,.val (x:=.string ⟨(gp ((l.drop off).take m)).toArray⟩) ?_ (by simp [VR])⟩;simp only [execOp,y,A,aw,run_convert_bytes_string w B d e _ _ _ hs u t,wU M Z D,az,aD]
    ·cases q
   ·cases q
 ·rename_i e t;split at q
  case h_2=>cases q
  rename_i u;cases v<;>try (simp only [reduceCtorEq] at q;done)
  rename_i l;simp only [VR] at g;cases C<;>simp only [reduceCtorEq] at q;refine ⟨_,q,.mkR (d:=w.drawn+1) (q:=(Rf.of w.heap.size (l.length) (grownCap w l.length 0 e))) (x:=.slice (some ⟨w.heap.size,0,none⟩) l.length (grownCap w l.length 0 e))
   (ob:=.cells (Lib.bytesCells w e ⟨l.toArray⟩) e ((Lib.bytesCells w e ⟨l.toArray⟩).size,(Lib.bytesCells w e ⟨l.toArray⟩).size+1)) ?_ rfl rfl ?_ ?_⟩
  ·simp only [execOp,y,g,aw,Lib.run_convert_string_bytes w B d e ⟨l.toArray⟩ hs t u,az,aD,zj];rfl
  ·have F:l.length<=grownCap w l.length 0 e:=by simp only [grownCap,Question.cut];omega
   have S:((ByteArray.mk l.toArray).data.map λb=>Value.int .u8 b.toNat).size=l.length:=by simp
   refine ⟨_,e,_,rfl,by simp,F,?_,?_,?_⟩
   ·simp only [Lib.bytesCells,Array.size_append,S,Array.size_replicate,aJ,dm];have:(ByteArray.mk l.toArray).size=l.length:=rfl;rw [this];omega
   ·simp only [Lib.bytesCells,uV,FH,aJ,dm,cj,sT,cg];rw [sV (by simp),jc (by simp)];rw [pR,Array.toList_map,xQ];rfl
   ·refine .inr λj W G=>?_;exact absurd G.1 (by simp only;omega)
  ·simp only [VR];exact .inl ⟨_,cX _ _ _,rfl⟩
 ·cases q
theorem Lm {U:Call} (Q:o.op=.call U) (Z:TR ι s.T a.tmps) (hW:WR ι s.H s.nb w) (h:effK P (opd s.T) s.H f (.call U) c=some z):
  ∃e,c e=some z/\fO P ι f o a w e:=by
 obtain ⟨R,args,D⟩:=U;simp only [effK] at h;split at h
 case h_2=>cases h
 rename_i b;obtain ⟨l,W,q⟩:=au h;clear h;have g:=uF Z W;have J:(args.map a.eval).toList=args.toList.map a.eval:=by simp
 rw [<-J] at g;generalize hA:args.map a.eval=A at g;have v:∃S,∀w,((do let d <-resolve a.eval ⟨.builtin b,args,D⟩ o.type;invoke d.target d.args):Sem Next).run P w=(builtin b D o.type S A).run P w:=by
  refine ⟨args.map fun | .const _=>true | _=>false,λw=>?_⟩;simp only [resolve,hA,aw,aD,az,invoke];rfl
 obtain ⟨S,v⟩:=v;have one:∀{X:Value},A.toList=[X]->A[0]?=some X:=by
  intro X p;have:A=#[X]:=by apply jK;simpa using p
  simp [this]
 have E:∀{t:TypeId} {r:List TypeId},D.toList=t::r->D[0]?=some t:=by
  intro t r u;rw [<-oH,u];rfl
 have j:∀{n:Int} {rd:List Nat},b=.len->(∀w,(Builtin.len_ D o.type A).run P w=.ok (goInt n) w)->c { val:=some (.i .i64 n),rd:=rd }=some z->∃e,c e=some z/\fO P ι f o a w e:=by
  intro n rd O F hc;subst O;refine ⟨_,hc,.val (x:=.int .i64 n) ?_ (by simp [VR])⟩;simp only [execOp,Q];rw [v w];simp only [builtin,aw,F,az,aD,goInt]
 have C:∀{n:Int} {rd:List Nat},b=.cap->(∀w,(Builtin.cap_ D o.type A).run P w=.ok (goInt n) w)->c { val:=some (.i .i64 n),rd:=rd }=some z->∃e,c e=some z/\fO P ι f o a w e:=by
  intro n rd O F hc;subst O;refine ⟨_,hc,.val (x:=.int .i64 n) ?_ (by simp [VR])⟩;simp only [execOp,Q];rw [v w];simp only [builtin,aw,F,az,aD,goInt]
 split at q
 ·split at q
  ·rename_i sl;simp only [VRs,VR] at g;obtain ⟨_,_,p,rfl,rfl⟩:=g;split at q
   ·rename_i t r u;split at q
    ·rename_i B;refine j rfl (λw=>?_) q;simp only [Builtin.len_,E u,one p,aw,aR B,az,aD];rfl
    ·cases q
   ·cases q
  ·rename_i N oo n cp;simp only [VRs,VR] at g;obtain ⟨_,_,p,⟨r,cap,_,_,_,rfl⟩,rfl⟩:=g;split at q
   ·rename_i t r u;split at q
    ·rename_i B;refine j rfl (λw=>?_) q;simp only [Builtin.len_,E u,one p,aw,aR B,az,aD]
    ·cases q
   ·cases q
  ·simp only [VRs,VR] at g;obtain ⟨_,_,p,rfl,rfl⟩:=g;split at q
   ·rename_i t r u;split at q
    ·rename_i B;refine j rfl (λw=>?_) q;simp only [Builtin.len_,E u,one p,aw,aR B,az,aD];rfl
    ·cases q
   ·cases q
  ·rename_i N;simp only [VRs,VR] at g;obtain ⟨_,_,p,M,rfl⟩:=g;split at q
   ·rename_i t r u;split at q
    ·rename_i B;split at q
     ·rename_i tr l O;refine j (rd:=[N]) rfl (λw=>?_) q;rcases iw hW O with ⟨q,S,e',fr,L,q2,q4,q5,q6,q7,_⟩ | ⟨L,rfl⟩
      ·rcases M with ⟨q',G,rfl⟩ | ⟨G,_⟩
       ·rw [G] at L;cases L;simp only [Builtin.len_,E u,one p,aw,aR B,az,aD,q4]
       ·rw [G] at L;cases L
      ·rcases M with ⟨q,G,_⟩ | ⟨G,V,rfl⟩
       ·rw [G] at L;cases L
       ·simp only [Builtin.len_,E u,one p,aw,aR B,az,aD];rfl
     ·cases q
    ·cases q
   ·cases q
  ·rename_i zz N Y n _;simp only [VRs,VR] at g;obtain ⟨_,_,p,M,rfl⟩:=g;split at q
   ·rename_i t r u;split at q
    ·rename_i B;refine j rfl (λw=>?_) q;rcases M with ⟨q,cp,off,G,_,_,rfl⟩ | ⟨_,⟨rfl,_⟩,V,rfl⟩
     ·simp only [Builtin.len_,E u,one p,aw,aR B,az,aD]
     ·simp only [Builtin.len_,E u,one p,aw,aR B,az,aD]
    ·cases q
   ·cases q
  ·simp only [VRs] at g;obtain ⟨X,_,p,_,rfl⟩:=g;split at q
   ·rename_i t r u;split at q
    ·rename_i B;refine j rfl (λw=>?_) q;simp only [Builtin.len_,E u,one p,aw,aR B,az,aD]
    ·cases q
   ·cases q
  ·cases q
 ·split at q
  ·rename_i zz N Y nn m;simp only [VRs,VR] at g;obtain ⟨_,_,p,M,rfl⟩:=g;split at q
   ·rename_i t r u;split at q
    ·rename_i B;refine C rfl (λw=>?_) q;rcases M with ⟨q,cp,off,G,⟨_,hc⟩,_,rfl⟩ | ⟨_,⟨_,hc⟩,V,rfl⟩
     ·have:=hc m rfl;subst this;simp only [Builtin.cap_,E u,one p,aw,aR B,az,aD]
     ·have:=hc m rfl;subst this;simp only [Builtin.cap_,E u,one p,aw,aR B,az,aD]
    ·cases q
   ·cases q
  ·rename_i N oo nn m;simp only [VRs,VR] at g;obtain ⟨_,_,p,⟨qq,cp,G,hc,_,rfl⟩,rfl⟩:=g;split at q
   ·rename_i t r u;split at q
    ·rename_i B;refine C rfl (λw=>?_) q;have:=hc m rfl;subst this;simp only [Builtin.cap_,E u,one p,aw,aR B,az,aD]
    ·cases q
   ·cases q
  ·simp only [VRs,VR] at g;obtain ⟨_,_,p,rfl,rfl⟩:=g;split at q
   ·rename_i t r u;split at q
    ·rename_i B;refine C rfl (λw=>?_) q;simp only [Builtin.cap_,E u,one p,aw,aR B,az,aD];rfl
    ·cases q
   ·cases q
  ·cases q
 ·split at q
  ·rename_i k x k' y;split at q
   ·rename_i K;have K:=jE K;subst K;simp only [VRs,VR] at g;obtain ⟨_,_,p,rfl,_,_,rfl,rfl,rfl⟩:=g;refine ⟨_,q,.val (x:=.int k (cond (decide (y<x)) y x)) ?_ (by simp [VR])⟩;simp only [execOp,Q];rw [v w];simp only [builtin,aw,Builtin.min_,p,List.foldlM,Builtin.min2,aD,az];by_cases I:y<x<;>simp [I]
   ·cases q
  ·cases q
 ·split at q
  ·rename_i k x k' y;split at q
   ·rename_i K;have K:=jE K;subst K;simp only [VRs,VR] at g;obtain ⟨_,_,p,rfl,_,_,rfl,rfl,rfl⟩:=g;refine ⟨_,q,.val (x:=.int k (cond (decide (y>x)) y x)) ?_ (by simp [VR])⟩;simp only [execOp,Q];rw [v w];simp only [builtin,aw,Builtin.max_,p,List.foldlM,Builtin.max2,aD,az];by_cases I:y>x<;>simp [I]
   ·cases q
  ·cases q
 ·cases q
theorem QY {op:UnOp} {x:V} {X:Value} {c:V->Option α} (h:unK op x c=some z) (hx:VR ι x X) (w:World):
  ∃v R,c v=some z/\VR ι v R/\(Op.unary op X).run P w=.ok R w:=by
 unfold unK at h;split at h
 ·simp only [VR] at hx;subst hx;exact ⟨_,_,h,rfl,rfl⟩
 ·simp only [VR] at hx;subst hx;exact ⟨_,_,h,rfl,rfl⟩
 ·cases h
theorem Lq {x:Operand} {j:Bool} (y:o.op=.next x j) (E:TR ι s.T a.tmps) (D:WR ι s.H s.nb w) (h:effK P (opd s.T) s.H f (.next x j) c=some z):
  ∃e,c e=some z/\fO P ι f o a w e:=by
 simp only [effK] at h;split at h
 case h_2=>cases h
 rename_i b hx;have q:=bh E hx;simp only [VR] at q;obtain ⟨r,m,v⟩:=q;split at h
 case h_2=>cases h
 rename_i l pos C;obtain ⟨F,ob,p,n,t⟩:=(D.blk b _ C (by simp)).real (by simp);rw [m] at p;cases p;simp only [BR] at t;subst t;have i:(ByteArray.mk l.toArray).size=l.length:=rfl;have d:(getObj r.r).run P w=.ok (.stringIter ⟨l.toArray⟩ pos) w:=by simp [getObj,Sem.run,n]
 cases hc:Nat.blt pos l.length with
 | false=>
  rw [hc] at h;have A:¬pos<l.length:=λg=>by rw [show Nat.blt pos l.length=true from cG g] at hc;cases hc
  refine ⟨_,h,.val (x:=.tuple #[.bool false]) ?_ (by simp [VR,VRs])⟩;simp only [execOp,y,v,Instr.next,aw,d,az,i,A,aE,aD]
 | true=>
  rw [hc] at h;have g:pos<l.length:=aG hc;refine ⟨_,h,?_⟩;unfold fO;have k:∀ob,(Go.setObj r.r ob).run P w=.ok () (setObj w r.r ob):=by
   intro ob;simp [Go.setObj,Sem.run,n,setObj]
  refine ⟨r,m,λ_=>⟨.stringIter ⟨l.toArray⟩ (pos+(dec l pos).2),.value (.tuple #[.bool true,.int .i64 pos,.int .i32 (dec l pos).1]),?_,rfl,.value _ λu B=>by cases B;simp [VR,VRs]⟩⟩;simp only [execOp,y,v,Instr.next,aw,d,az,i,g,aI,k,aD,dec,goInt]
theorem Fq {t:List Lf} (x:den t):∀n,(List.replicate n x).flatMap (vals t)=(List.replicate n (vals t x)).flatten
 | 0=>rfl
 | n+1=>by simp [qN,pB,Fq x n]
theorem Ia {l:List Value}:∀n:Nat,(List.replicate n l).flatten.length=n*l.length
 | 0=>by simp
 | n+1=>by rw [qN,List.flatten_cons,bE,Ia n,fY];omega
theorem Hr {l:List Value}:∀(n j:Nat),j<n*l.length->(List.replicate n l).flatten[j]?=l[j%l.length]?
 | 0,j,h=>by simp at h
 | n+1,j,h=>by
  simp only [qN,List.flatten_cons];by_cases a:j<l.length
  ·rw [mg a,re a]
  ·rw [ox (by omega),Hr n _ (by rw [fY] at h;omega),<-Nat.mod_eq_sub_mod (by omega)]
theorem y4 {t:TypeId} {x y:Operand} (W:o.op=.makeSlice t x y) (L:TR ι s.T a.tmps) (h:effK P (opd s.T) s.H f (.makeSlice t x y) c=some z):
  ∃e,c e=some z/\fO P ι f o a w e:=by
 simp only [effK] at h;obtain ⟨u,E,O⟩:=au h;obtain ⟨v,D,b⟩:=au O;clear h O;have E:=bh L E;have D:=bh L D;split at b
 case h_2=>cases b
 rename_i e Y;split at b
 case h_2=>cases b
 rename_i k1 n k2 m _ _;simp only [VR] at E D;obtain ⟨zv,I,b⟩:=au b;split at b
 case h_2=>cases b
 rename_i tr p _ l;split at b
 case h_2=>cases b
 rename_i M;simp only [aB,ig] at M;obtain ⟨R,e2,K,F⟩:=M;have K:=aG K;have F:=aG F;obtain ⟨Z,J,b⟩:=au b;obtain ⟨hc,b⟩:=dr b;simp only [aB,bV] at hc;obtain ⟨V,X,c2⟩:=hc;obtain ⟨zc,i,Q,h2,S,_⟩:=uo ι I;rw [l] at Q;cases Q;have g:=lM S;rw [tX J] at g;have g:=(jr ι tr Z _).1 g;have A:p.size=P.cellsOf e:=by unfold Program.cellsOf;rw [l];rfl
 have U:m=(m.toNat:Int):=by omega
 have B:=run_make (P:=P) w t e p zc Y l h2 k1 k2 n m V X (by
  rw [U,<-K9];have:p.bytes*m.toNat<=1048576*67108864:=uK F (by omega);omega) (by omega)
 refine ⟨_,b,.mkR (d:=w.drawn) (q:=(Rf.of w.heap.size (n.toNat) (m.toNat))) (x:=.slice (some ⟨w.heap.size,0,none⟩) n.toNat m.toNat) (ob:=.cells (madeCells zc.cells (m.toNat*p.size)) e) ?_ rfl rfl ?_ ?_⟩
 ·simp only [execOp,W,E,D,aw,B,az,aD]
 ·have G:(madeCells zc.cells (m.toNat*p.size)).size=m.toNat*p.size:=size_madeCells _ _;refine ⟨_,e,_,rfl,by simp,by simp only;omega,by rw [G,A,R];simp,?_,.inr (qD _)⟩;simp only [cg];rw [Fq,List.length_replicate,<-g];apply Bg;intro j;have k:zc.cells.toList.length=tr.length:=by rw [g,iW]
  have C:zc.cells.size=tr.length:=by simpa using k
  have hle:n.toNat*tr.length<=m.toNat*tr.length:=mH _ (by omega);by_cases N:j<n.toNat*tr.length
  ·rw [ov N,Hr n.toNat j (by rw [k];exact N),k];have r:j%tr.length<zc.cells.size:=by rw [C];exact qS _ (by omega)
   simp only [madeCells,A,<-R,C];rw [oH,Array.getElem?_map,Array.getElem?_range];simp [show j<m.toNat*tr.length by omega,r]
  ·rw [fX (by rw [e7];omega),fX (by rw [Ia,k];omega)]
 ·simp only [VR];exact .inl ⟨_,cX _ _ _,rfl⟩
theorem RQ {op:BinOp} {t:TypeId} {x y:Operand} {u v:V} {r:Bool} {X Y:Value} (h:niK P op t x y u v=some r) (hx:VR ι u X) (hy:VR ι v Y) (w:World):
  (eqGuard op t x y X Y).run P w=.ok () w/\(binOp op t X Y).run P w=.ok (.bool r) w:=by
 unfold niK at h;split at h
 case h_2=>cases h
 simp only [VR] at hx hy;subst hx hy;split at h
 case h_2=>cases h
 rename_i hc;split at h
 case h_2=>cases h
 rename_i f e;have c:∀o:BinOp,o=.eql\/o=.neq->(eqGuard o t x y .nilIface .nilIface).run P w=.ok () w:=by
  intro o d;have a:(∃v,x=.const v)\/∃v,y=.const v:=by
   rw [f8] at hc;refine hc.imp (λh=>?_) (λh=>?_)
   ·cases x<;>simp_all [Fe]
   ·cases y<;>simp_all [Fe]
  rcases a with ⟨v,rfl⟩ | ⟨v,rfl⟩<;>rcases d with rfl | rfl<;>simp [eqGuard]
 have b:(Op.equal t .nilIface .nilIface).run P w=.ok true w:=by rw [dT,Op.equalIn];simp [aR e]
 split at h
 ·simp only [ak] at h;subst h;exact ⟨c _ (.inl rfl),by simp [binOp,b]⟩
 ·simp only [ak] at h;subst h;exact ⟨c _ (.inr rfl),by simp [binOp,b]⟩
 ·cases h
theorem jw {t e:TypeId} {f:TypeInfo} (l:P.underlying t=some (.slice e)) (hi:P.info? e=some f) {n cp:Nat} {a:Option Addr} {k k':IntKind} {h m:Int} {H M:Nat} (b:bx n m=some M) (j:bx M h=some H) (p:n<=cp) (w:World):
  (Instr.sliceAt t (.slice a n cp) none (some (.int k h)) (some (.int k' m))).run P w=.ok (.slice a H M) w:=by
 obtain ⟨m0,m1,rfl⟩:=kb b;obtain ⟨d,g,rfl⟩:=kb j;have i:=run_sliceBound (P:=P) w k' m cp .slice3Acap m0 (by omega);have c:=run_sliceBound (P:=P) w k h m.toNat .slice3B d g;simp only [Instr.sliceAt,Instr.slice,aw,aR l,az,Instr.sliceBounds,aI,i,c,aD,fk hi,qF,yk];split
 ·rfl
 ·cases a with
  | none=>rfl
  | some q=>obtain ⟨r,o,x⟩:=q;simp [Addr.add]
theorem Gx {t:TypeId} {x mx:Operand} {lo hi:Option Operand} (F:o.op=.slice t x lo hi (some mx)) (L:TR ι s.T a.tmps) (Y:WR ι s.H s.nb w) (h:effK P (opd s.T) s.H f (.slice t x lo hi (some mx)) c=some z):
  ∃e,c e=some z/\fO P ι f o a w e:=by
 simp only [effK,sG] at h;split at h
 case h_2=>cases h
 rename_i hh;obtain ⟨v,hx,d⟩:=au h;clear h;have B:=bh L hx;clear hx;split at d
 case h_2=>cases d
 rename_i k1 Z k2 m1 N O;have D:=bh L N;have E:=bh L O;simp only [VR] at D E;split at d
 case h_2=>cases d
 rename_i e I;split at d
 case h_2=>cases d
 rename_i hp;obtain ⟨ti,i⟩:=bL hp;split at d
 ·rename_i b;split at d
  case h_2=>cases d
  rename_i tr l X;split at d
  case h_2=>cases d
  obtain ⟨M,u,G⟩:=au d;obtain ⟨H,p,C⟩:=au G;obtain ⟨m0,m2,R⟩:=kb u;obtain ⟨U,V,Q⟩:=kb p;simp only [VR] at B;rcases iw Y X with ⟨q,cs,e',fr,A,r2,r4,r5,_,_,_⟩ | ⟨A,rfl⟩
  ·rcases B with ⟨q',g,y⟩ | ⟨g,_⟩
   ·rw [g] at A;cases A;refine ⟨_,C,.val (x:=.slice (some ⟨q.r,q.o,none⟩) H M) ?_ ?_⟩
    ·simp only [execOp,F,y,D,E,aw,gR,dU];rw [<-r4,jw I i u p (by omega) w];rfl
    ·simp only [VR];exact .inl ⟨q,_,_,g,⟨by omega,pS⟩,λ_=>by omega,rfl⟩
   ·rw [g] at A;cases A
  ·rcases B with ⟨q,g,y⟩ | ⟨g,J,y⟩
   ·rw [g] at A;cases A
   ·simp only [dm] at m2;have m:M=0:=by omega
    have k:H=0:=by omega
    subst m k;refine ⟨_,C,.val (x:=.slice J 0 0) ?_ (by unfold VR;exact .inr ⟨g,⟨rfl,pS⟩,J,rfl⟩)⟩;simp only [execOp,F,y,D,E,aw,gR,dU];rw [jw I i (n:=0) (M:=0) u p (by omega) w];rfl
 ·rename_i zz b j n _;obtain ⟨M,u,G⟩:=au d;obtain ⟨H,p,C⟩:=au G;obtain ⟨m0,m2,R⟩:=kb u;obtain ⟨U,V,Q⟩:=kb p;simp only [VR] at B;rcases B with ⟨q,cp,off,g,⟨K,_⟩,W,y⟩ | ⟨g,⟨K,_⟩,J,y⟩
  ·refine ⟨_,C,.val (x:=.slice (some ⟨q.r,off,none⟩) H M) ?_ ?_⟩
   ·simp only [execOp,F,y,D,E,aw,gR,dU];rw [jw I i u p K w];rfl
   ·simp only [VR];exact .inl ⟨q,_,_,g,⟨by omega,pS⟩,λS=>W (by omega),rfl⟩
  ·subst K;have m:M=0:=by omega
   have k:H=0:=by omega
   subst m k;refine ⟨_,C,.val (x:=.slice J 0 0) ?_ (by unfold VR;exact .inr ⟨g,⟨rfl,pS⟩,J,rfl⟩)⟩;simp only [execOp,F,y,D,E,aw,gR,dU];rw [jw I i (n:=0) (M:=0) u p (by omega) w];rfl
 ·obtain ⟨M,u,G⟩:=au d;obtain ⟨H,p,C⟩:=au G;obtain ⟨m0,m2,R⟩:=kb u;obtain ⟨U,V,Q⟩:=kb p;simp only [VR] at B;have m:M=0:=by omega
  have k:H=0:=by omega
  subst m k;refine ⟨_,C,.val (x:=.slice none 0 0) ?_ (by simp only [VR])⟩;simp only [execOp,F,B,D,E,aw,gR,dU];rw [jw I i (n:=0) (M:=0) u p (by omega) w];rfl
 ·cases d
theorem Tn {op:BinOp} {t:TypeId} {u v:V} {r:Bool} {n:Nat} {rd:List Nat} {X Y:Value} {H:List (Nat×Blk)} {nb:Nat} (h:slN P op t u v=some r) (a:slL H u=some (n,rd)) (C:0<n) (B:WR ι H nb w) (hx:VR ι u X) (hy:VR ι v Y) (p q:Operand):
  (eqGuard op t p q X Y).run P w=.ok () w/\(binOp op t X Y).run P w=.ok (.bool r) w:=by
 unfold slN at h;split at h
 case h_2=>cases h
 simp only [VR] at hy;subst hy;have b:∀(A:Addr) (n c:Nat),X=.slice (some A) n c->P.underlying t=(P.underlying t)->∀e,P.underlying t=some (.slice e)->
   ((eqGuard .eql t p q X (.slice none 0 0)).run P w=.ok () w/\(binOp .eql t X (.slice none 0 0)).run P w=.ok (.bool false) w)/\
   ((eqGuard .neq t p q X (.slice none 0 0)).run P w=.ok () w/\(binOp .neq t X (.slice none 0 0)).run P w=.ok (.bool (!false)) w):=by
  rintro A n c rfl _ e i;exact mR p q (.inl (by simp)) (.inl (by simp)) (by simp) (by rw [dT,Op.equalIn];simp [aR i])
 have d:∀(A:Addr) (n c:Nat),X=.slice (some A) n c->slT P op t=some r->(eqGuard op t p q X (.slice none 0 0)).run P w=.ok () w/\(binOp op t X (.slice none 0 0)).run P w=.ok (.bool r) w:=by
  intro A n c o h;unfold slT at h;split at h
  case h_2=>cases h
  rename_i e i;obtain ⟨m1,m2⟩:=b A n c o rfl e i;split at h
  ·simp only [ak] at h;subst h;exact m1
  ·simp only [ak] at h;subst h;exact m2
  ·cases h
 split at h
 ·rename_i c;simp only [slL] at a;split at a
  case h_2=>cases a
  rename_i tr l y;simp only [ak,bz] at a;obtain ⟨rfl,_⟩:=a;simp only [VR] at hx;rcases iw B y with ⟨J,I,L,fr,g,D,r4,_⟩ | ⟨g,rfl⟩
  ·rcases hx with ⟨x,f,k⟩ | ⟨f,_⟩
   ·exact d _ _ _ k h
   ·rw [f] at g;cases g
  ·simp at C
 ·rename_i z c j m G;simp only [slL,ak,bz] at a;obtain ⟨rfl,_⟩:=a;simp only [VR] at hx;rcases hx with ⟨x,K,F,f,k,E,s⟩ | ⟨f,⟨k,_⟩,_⟩
  ·exact d _ _ _ s h
  ·omega
 ·cases h
theorem DK {t:TypeId} {x:Option Operand} (b:o.op=.makeMap t x) (h:effK P (opd s.T) s.H f (.makeMap t x) c=some z):∃e,c e=some z/\fO P ι f o a w e:=by
 simp only [effK] at h;split at h
 case h_2=>cases h
 split at h
 case h_2=>cases h
 refine ⟨_,h,.mk (x:=.map (some w.heap.size)) (ob:=.map #[] 0) ?_ ⟨#[],0,rfl,rfl⟩ (by simp only [VR];exact ⟨_,cX _ _ _,rfl⟩)⟩;simp only [execOp,b,gR,aw];rfl
theorem Oo {H:List (Nat×Blk)} {nb b:Nat} {w:World} (g:WR ι H nb w) {k:IntKind} {l:List (Int×Nat)} (d:look H b=some (.mp k l)):
  ∃q c a,ι b=some (some q)/\w.heap[q.r]?=some (.map c a)/\c.toList.map (λe=>(e.key,e.val))=l.map λp=>(Value.int k p.1,fnV p.2 #[]):=by
 obtain ⟨q,o,f,h,c,a,rfl,i⟩:=(g.blk b _ d (by simp)).real (by simp);exact ⟨q,c,a,f,h,i⟩
theorem Jj {α:Type} {k:IntKind} {n:Int} {c:Nat->Option α} {z:α}:∀(b:List MapEntry) (l:List (Int×Nat)) (i:Nat),b.map (λe=>(e.key,e.val))=l.map (λp=>(Value.int k p.1,fnV p.2 #[]))->mapK l n c=some z->
  ∃g j,c g=some z/\Instr.findNow (.int k) (.int k n) b i=some (some (j,fnV g #[]))
 | [],[],_,_,h=>by cases h
 | [],_::_,_,a,_=>by simp at a
 | _::_,[],_,a,_=>by simp at a
 | e::b,(m,g)::l,i,a,h=>by
  simp only [iC,List.cons.injEq,bz] at a;obtain ⟨⟨f,s⟩,t⟩:=a;simp only [mapK] at h;cases d:(n==m) with
  | true=>
   rw [d] at h;exact ⟨g,i,h,by simp only [Instr.findNow,f,Instr.sameNow,aI,d,s]⟩
  | false=>
   rw [d] at h;obtain ⟨q,j,o,r⟩:=Jj b l (i+1) t h;exact ⟨q,j,o,by simp only [Instr.findNow,f,Instr.sameNow,aI,d];exact r⟩
theorem GZ {t:TypeId} {m x:Operand} {ok:Bool} (F:o.op=.lookup t m x ok) (r:TR ι s.T a.tmps) (J:WR ι s.H s.nb w) (h:effK P (opd s.T) s.H f (.lookup t m x ok) c=some z):
  ∃e,c e=some z/\fO P ι f o a w e:=by
 simp only [effK] at h;split at h
 case h_2=>cases h
 rename_i b E;split at h
 case h_2=>cases h
 rename_i k n hx;split at h
 case h_2=>cases h
 rename_i kt R K;split at h
 case h_2=>cases h
 rename_i k2 y;split at h
 case h_2=>cases h
 rename_i k1 l I;split at h
 case h_2=>cases h
 rename_i d;simp only [aB] at d;have N:=jE d.1;have G:=jE d.2;subst N G;have v:=bh r E;have u:=bh r hx;simp only [VR] at v u;obtain ⟨q,L,O⟩:=v;obtain ⟨Q,D,i,p,A,C⟩:=Oo J I;rw [L] at p;cases p;obtain ⟨g,j,M,B⟩:=Jj D.toList l 0 C h;refine ⟨_,M,.val (x:=fnV g #[]) ?_ (by simp only [VR];exact ⟨#[],rfl,by simp [VRs]⟩)⟩;simp only [execOp,F,O,u,aw,Instr.lookup,aR K,az,MapKept.run_getObj_map A,aD,
  MapKept.run_checkKey (k:=.int k2 n) y (by simp [MapKept.IsKey]),MapKept.run_findKey y B]
 rfl
theorem GG {t:TypeId} {m x y:Operand} (V:o.op=.insert t m x y) (E:TR ι s.T a.tmps) (hW:WR ι s.H s.nb w) (h:effK P (opd s.T) s.H f (.insert t m x y) c=some z):
  ∃e,c e=some z/\fO P ι f o a w e:=by
 simp only [effK] at h;split at h
 case h_2=>cases h
 rename_i b U;split at h
 case h_2=>cases h
 rename_i k n g hx hy;split at h
 case h_2=>cases h
 rename_i kt et hd;split at h
 case h_2=>cases h
 rename_i k2 R;split at h
 case h_2=>cases h
 rename_i k1 l Z;split at h
 case h_2=>cases h
 rename_i C;simp only [aB] at C;obtain ⟨G,I,A⟩:=C;have e1:=jE G;have X:=jE I;subst e1 X;have Q:=bh E U;have N:=bh E hx;have O:=bh E hy;simp only [VR] at Q N O;obtain ⟨q,S,h2⟩:=Q;obtain ⟨W,Y,L⟩:=O;simp only [VRs] at L;have F:W=#[]:=by
  apply jK;simpa using L
 subst F;obtain ⟨q',D,d,M,J,K⟩:=Oo hW Z;rw [S] at M;cases M;have B:∀e∈D.toList,∃p∈l,e.key=.int k2 p.1:=by
  intro e u;have:(e.key,e.val)∈l.map λp=>(Value.int k2 p.1,fnV p.2 #[]):=by rw [<-K];exact ek.2 ⟨e,u,rfl⟩
  obtain ⟨p,hp,i⟩:=ek.1 this;simp only [bz] at i;exact ⟨p,hp,i.1.symm⟩
 have r:MapKept.IsKey (.int k2) (.int k2 n):=by simp [MapKept.IsKey]
 have v:Instr.findNow (.int k2) (.int k2 n) D.toList 0=some none:=by
  rcases MapKept.findNow_spec r D.toList 0 (λe u=>by obtain ⟨p,_,hp⟩:=B e u;rw [hp];simp [MapKept.IsKey]) with ⟨h,_⟩ | ⟨j,e,_,hj,u⟩
  ·exact h
  ·exfalso;obtain ⟨p,hp,i⟩:=B e (fH hj);rw [i] at u;have:=(bG.1 A) p hp;simp only [Value.int.injEq,ku] at u;simp [u] at this
 refine ⟨_,h,?_⟩;unfold fO;refine ⟨q,S,λ_=>⟨.map (D.push { key:=.int k2 n,val:=fnV g #[],born:=d }) (d+1),.skip,?_,⟨_,_,rfl,?_⟩,.skip rfl⟩⟩
 ·simp only [execOp,V,h2,N,Y,aw,Instr.mapUpdate,aR hd,az,MapKept.run_getObj_map J,MapKept.run_checkKey (k:=.int k2 n) R r,MapKept.run_findKey R v,MapKept.run_setObj_map _ J,aD];rfl
 ·rw [Array.toList_push,List.map_append,List.map_append,K];rfl
theorem Hz (k:TR ι s.T a.tmps) (C:WR ι s.H s.nb w) (Z:ι f=none) (h:effK P (opd s.T) s.H f o.op c=some z):∃e,c e=some z/\fO P ι f o a w e:=by
 cases j:o.op with
 | move x=>
  rw [j] at h;simp only [effK] at h;obtain ⟨v,p,h⟩:=au h;exact ⟨_,h,.val (by simp only [execOp,j,aD]) (bh k p)⟩
 | assign x=>
  rw [j] at h;simp only [effK] at h;obtain ⟨v,p,h⟩:=au h;exact ⟨_,h,.val (by simp only [execOp,j,aD]) (bh k p)⟩
 | pick q x y=>
  rw [j] at h;simp only [effK] at h;split at h
  ·rename_i t L;have p:=bh k L;simp only [VR] at p;cases t
   ·simp only [af] at h;obtain ⟨v,A,h⟩:=au h;exact ⟨_,h,.val (x:=a.eval y) (by simp [execOp,j,p,asBool]) (bh k A)⟩
   ·simp only [aj] at h;obtain ⟨v,A,h⟩:=au h;exact ⟨_,h,.val (x:=a.eval x) (by simp [execOp,j,p,asBool]) (bh k A)⟩
  ·cases h
 | alloc t=>rw [j] at h;exact Ha j h
 | makeMap t x=>rw [j] at h;exact DK j h
 | insert t m x y=>rw [j] at h;exact GG j k C h
 | lookup t m x ok=>rw [j] at h;exact GZ j k C h
 | box t x=>rw [j] at h;exact OZ j k Z h
 | build t ps=>rw [j] at h;exact Ik j k h
 | buildSlice t n ps=>rw [j] at h;exact wX j k Z h
 | load t x=>rw [j] at h;exact M6 j k C h
 | makeSlice t x y=>rw [j] at h;exact y4 j k h
 | store t x y=>rw [j] at h;exact HA j k C h
 | nilCheck x=>
  rw [j] at h;simp only [effK] at h;split at h
  ·rename_i b off hx;have p:=bh k hx;have A:=p;simp only [VR] at p;obtain ⟨r,h5,B⟩:=p;exact ⟨_,h,.val (x:=a.eval x) (by simp [execOp,j,B]) A⟩
  ·rename_i zz b jj off hx;have p:=bh k hx;have A:=p;simp only [VR] at p;obtain ⟨r,h5,B⟩:=p;exact ⟨_,h,.val (x:=a.eval x) (by simp [execOp,j,B]) A⟩
  ·rename_i g l hx;have p:=bh k hx;have A:=p;simp only [VR] at p;obtain ⟨U,B,_⟩:=p;obtain ⟨g',b',c',h7⟩:=xx g U;exact ⟨_,h,.val (x:=a.eval x) (by simp [execOp,j,B,h7]) A⟩
  ·rename_i b off n m hx;have p:=bh k hx;have A:=p;simp only [VR] at p;obtain ⟨r,cp,_,_,_,B⟩:=p;exact ⟨_,h,.val (x:=a.eval x) (by simp [execOp,j,B]) A⟩
  ·rename_i t v hx;have p:=bh k hx;have A:=p;simp only [VR] at p;obtain ⟨y,B,_⟩:=p;exact ⟨_,h,.val (x:=a.eval x) (by simp [execOp,j,B]) A⟩
  ·cases h
 | binOp op t x y yt=>
  rw [j] at h;simp only [effK] at h;obtain ⟨u,J,h⟩:=au h;obtain ⟨v,p,h⟩:=au h;split at h
  ·rename_i r Q;have hx:=bh k J;have hy:=bh k p;obtain ⟨G,K⟩:=RQ Q hx hy w;exact ⟨_,h,.val (x:=.bool r) (by simp only [execOp,j,aw,G,K,az,aD]) (by simp [VR])⟩
  split at h
  ·rename_i r Q;split at h
   case h_2=>cases h
   rename_i m rd E;obtain ⟨hm,h⟩:=dr h;obtain ⟨G,K⟩:=Tn Q E (aG hm) C (bh k J) (bh k p) x y;exact ⟨_,h,.val (x:=.bool r) (by simp only [execOp,j,aw,G,K,az,aD]) (by simp [VR])⟩
  obtain ⟨R,X,W,Y,G,K⟩:=Qr h (bh k J) (bh k p) x y w;exact ⟨_,W,.val (x:=X) (by simp only [execOp,j,aw,G,K,az,aD]) Y⟩
 | unOp op t x=>
  rw [j] at h;simp only [effK] at h;obtain ⟨u,J,h⟩:=au h;obtain ⟨R,X,W,Y,G⟩:=QY (P:=P) h (bh k J) w;exact ⟨_,W,.val (x:=X) (by simp only [execOp,j,aw,G,az,aD]) Y⟩
 | convert sr d x=>rw [j] at h;exact Dc j k C h
 | next x str=>rw [j] at h;exact Lq j k C h
 | makeInterface t x=>
  rw [j] at h;simp only [effK] at h;obtain ⟨u,J,h⟩:=au h;have p:=bh k J;split at h
  ·cases h
  ·rename_i d O N;refine ⟨_,h,.val (x:=.iface t (a.eval x)) ?_ (by simp only [VR];exact ⟨_,rfl,p⟩)⟩;simp only [execOp,j,Instr.makeInterface,aw,aR N,az];cases d<;>first | rfl | exact absurd rfl (O _)
  ·cases h
 | makeFunc fn first cap=>
  rw [j] at h;simp only [effK] at h;split at h
  ·rename_i g F;split at h
   case h_2=>cases h
   rename_i hb;obtain ⟨l,E,h⟩:=au h;have I:=uF k E;have D:first=#[]:=by apply jK;simpa using F
   refine ⟨_,h,.val (x:=.func (.func g) #[] (cap.map a.eval)) ?_ (by simp only [VR];exact ⟨_,(CQ hb _).symm,by simpa using I⟩)⟩;simp only [execOp,j,Instr.makeFunc,D,Ed,aw,aD,az]
  ·rename_i g _ _ F;split at h
   ·rename_i M;obtain ⟨l,E,h⟩:=au h;have I:=uF k E;have hcap':cap=#[]:=by apply jK;simpa using M
    refine ⟨_,h,.val (x:=.func (.func g) (first.map a.eval) #[]) ?_ (by simp only [VR];exact ⟨_,(NS g _).symm,by simpa using I⟩)⟩;simp only [execOp,j,Instr.makeFunc,hcap',Ed,aw,aD,az]
   ·cases h
  ·cases h
 | slice t x lo hi mx=>
  rw [j] at h;cases mx with
  | none=>exact IJ j k C h
  | some m=>exact Gx j k C h
 | fieldAddr t x i=>rw [j] at h;exact zO j k h
 | field t x i=>rw [j] at h;exact ID j k h
 | indexAddr t x i=>rw [j] at h;exact y7 j k C h
 | index t x i=>rw [j] at h;exact Ip j k h
 | range t x=>rw [j] at h;exact IV j k h
 | extract x i=>
  rw [j] at h;simp only [effK] at h;split at h
  ·rename_i l hx;obtain ⟨v,p,h⟩:=au h;have E:=bh k hx;simp only [VR] at E;obtain ⟨U,B,S⟩:=E;obtain ⟨y,hy,V⟩:=S.get p;have hy':U[i]?=some y:=by simpa using hy
   exact ⟨_,h,.val (x:=y) (by simp [execOp,j,B,Instr.extract,hy']) V⟩
  ·cases h
 | typeAssert x xt at_ ok=>
  rw [j] at h;simp only [effK] at h;split at h
  case h_2=>cases h
  rename_i t v hx;have p:=bh k hx;simp only [VR] at p;obtain ⟨y,B,hy⟩:=p;split at h
  ·cases h
  ·rename_i d O N;split at h
   case h_2=>cases h
   rename_i L;have L:=bq L;subst L;cases ok with
   | true=>
    refine ⟨_,h,.val (x:=.tuple #[y,.bool true]) ?_ (by simp only [VR,VRs];exact ⟨_,rfl,y,[.bool true],rfl,hy,_,[],rfl,rfl,rfl⟩)⟩;simp only [execOp,j,B,Instr.typeAssert,aw,aR N,az];cases d<;>first | simp | exact absurd rfl (O _)
   | false=>
    refine ⟨_,h,.val (x:=y) ?_ hy⟩;simp only [execOp,j,B,Instr.typeAssert,aw,aR N,az];cases d<;>first | simp | exact absurd rfl (O _)
  ·cases h
 | call cl=>rw [j] at h;exact Lm j k C h
 | _=>rw [j] at h;simp [effK] at h
end ops
end Go.Abs
