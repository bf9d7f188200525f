
/- The abstract effect of an operation is what the model's own operation does: the operations that make no memory; all of them together.
   Conditions: none; generic over the program. -/
import Derived.Test.YthemneooekobkabGreatDoorAbsG
import Derived.Laws.BytesArg
import Derived.Laws.BytesString
import Derived.Lib.ConvBytes
import Derived.Laws.MakeOwn
import Derived.Deep.AppendSrc
import Derived.MapKept
set_option linter.unusedSimpArgs false
set_option linter.unusedVariables false
namespace Go.Abs
variable {P:Program}
section ops
variable {α:Type} {ι:Inj} {s:St} {a:Act} {w:World} {f:Nat} {o:Oper} {c:Eff->Option α} {z:α}
theorem yC {t:TypeId} {a:Array Field} {fd:Field} {i:Nat} {d:TypeInfo} (c:P.underlying t=some (.struct a)) (b:a[i]?=some fd) (hi:P.info? fd.type=some d)
  (hp:0<P.cellsOf fd.type) (r off:Nat) (w:World):(Instr.fieldAt t (.pointer (some ⟨r,off,none⟩)) i).run P w=.ok (.pointer (some ⟨r,off+fd.offset,none⟩)) w:=by
 simp only [Instr.fieldAt,ax,aZ c,az,b,Instr.sureAddr,aD,fieldPlace,gi hi,show ¬(P.cellsOf fd.type=0) by omega,aC,nl]
theorem CE {t:TypeId} {x:Operand} {i:Nat} (q:o.op=.fieldAddr t x i) (v:TR ι s.T a.tmps) (h:effK P (opd s.T) s.H f (.fieldAddr t x i) c=some z):
  ∃e,c e=some z/\gI P ι f o a w e:=by
 simp only [effK] at h;split at h
 ·rename_i b off hx;split at h
  ·rename_i y l;split at h
   ·rename_i fd n;split at h
    ·rename_i hp;obtain ⟨A,g⟩:=ca hp;have k:=bA v hx;simp only [VR] at k;obtain ⟨r,m,p⟩:=k;have d:=yC l (by simpa using n) g (aL hp) r.r off w;exact ⟨_,h,.val (x:=.pointer (some ⟨r.r,off+fd.offset,none⟩)) (by simp only [execOp,q,p,ax,d,az,aD]) (by simp only [VR,qi];exact ⟨r,m,rfl⟩)⟩
    ·cases h
   ·cases h
  ·cases h
 ·rename_i u b j off hx;split at h
  ·rename_i y l;split at h
   ·rename_i fd n;split at h
    ·rename_i hp;obtain ⟨A,g⟩:=ca hp;have k:=bA v hx;simp only [VR] at k;obtain ⟨r,m,p⟩:=k;have d:=yC l (by simpa using n) g (aL hp) r.r (r.o+(j*u+off)) w;exact ⟨_,h,.val (x:=.pointer (some ⟨r.r,r.o+(j*u+off)+fd.offset,none⟩)) (by simp only [execOp,q,p,ax,d,az,aD]) (by simp only [VR,qi];exact ⟨r,m,by rw [ib,ib]⟩)⟩
    ·cases h
   ·cases h
  ·cases h
 ·cases h
theorem LJ {t:TypeId} {x:Operand} {i:Nat} (q:o.op=.field t x i) (E:TR ι s.T a.tmps) (h:effK P (opd s.T) s.H f (.field t x i) c=some z):
  ∃e,c e=some z/\gI P ι f o a w e:=by
 simp only [effK] at h;split at h
 ·rename_i l hx;have n:=bA E hx;simp only [VR] at n;obtain ⟨r,u,j⟩:=n;split at h
  ·rename_i C p;split at h
   ·rename_i fd B;have hf':C[i]?=some fd:=by simpa using B
    split at h
    ·rename_i b;split at h
     ·have D:∃d,P.underlying fd.type=some d:=by
       unfold bY at b;split at b
       ·exact ⟨_,by assumption⟩
       ·exact ⟨_,by assumption⟩
       ·cases b
      obtain ⟨d',g⟩:=D;obtain ⟨F,m⟩:=nk g;refine ⟨_,h,.val (x:=.agg (r.extract fd.offset (fd.offset+P.cellsOf fd.type))) ?_ (qz (j.extract _ _))⟩;simp only [execOp,q,u,Instr.field,ax,aZ p,az,hf',asAgg,aD,part,kq g,b,aO,gi m]
     ·cases h
    ·rename_i b;split at h
     ·rename_i d' g;obtain ⟨v,A,h⟩:=aw h;obtain ⟨y,hy,k⟩:=j.get A;have hy':r[fd.offset]?=some y:=by simpa using hy
      refine ⟨_,h,.val (x:=y) ?_ k⟩;simp only [execOp,q,u,Instr.field,ax,aZ p,az,hf',asAgg,aD,part,kq g,b,bw,aC,hy']
     ·cases h
   ·cases h
  ·cases h
 ·cases h
theorem oW {t e:TypeId} {m:Nat} {d:TypeInfo} (c:P.underlying t=some (.array m e)) (hi:P.info? e=some d) (k:IntKind) {n:Int} (a:0<=n) (b:n<m) (r off:Nat) (w:World):
  (Instr.indexAt t (.pointer (some ⟨r,off,none⟩)) (.int k n)).run P w=.ok (.pointer (some ⟨r,off+n.toNat*P.cellsOf e,none⟩)) w:=by
 simp only [Instr.indexAt,asIntOf,ax,aD,az,aZ c,Instr.sureAddr,a,b,and_self,aO,gi hi,nl]
theorem lO {t e:TypeId} {m cp:Nat} {d:TypeInfo} (c:P.underlying t=some (.slice e)) (hi:P.info? e=some d) (k:IntKind) {n:Int} (a:0<=n) (b:n<m) (r off:Nat) (w:World):
  (Instr.indexAt t (.slice (some ⟨r,off,none⟩) m cp) (.int k n)).run P w=.ok (.pointer (some ⟨r,off+n.toNat*P.cellsOf e,none⟩)) w:=by
 simp only [Instr.indexAt,asIntOf,ax,aD,az,aZ c,a,b,and_self,aO,gi hi,nl]
theorem AH {t:TypeId} {x i:Operand} (F:o.op=.indexAddr t x i) (E:TR ι s.T a.tmps) (O:WR ι s.H s.nb w) (h:effK P (opd s.T) s.H f (.indexAddr t x i) c=some z):
  ∃e,c e=some z/\gI P ι f o a w e:=by
 simp only [effK] at h;split at h
 case h_2=>cases h
 rename_i k n hi;have u:=bA E hi;simp only [VR] at u;split at h
 ·rename_i m e D;split at h
  ·rename_i b off hx;have p:=bA E hx;simp only [VR] at p;obtain ⟨r,v,B⟩:=p;split at h
   ·rename_i hp;obtain ⟨I,g⟩:=ca hp;obtain ⟨j,C,h⟩:=aw h;obtain ⟨g0,A,rfl⟩:=oK C;have d:=oW D g k g0 A r.r off w;exact ⟨_,h,.val (x:=.pointer (some ⟨r.r,off+n.toNat*P.cellsOf e,none⟩)) (by simp only [execOp,F,B,u,ax,d,az,aD]) (by simp only [VR,qi,xe];exact ⟨r,v,rfl⟩)⟩
   ·cases h
  ·rename_i J b K off hx;have p:=bA E hx;simp only [VR] at p;obtain ⟨r,v,B⟩:=p;split at h
   ·rename_i hp;obtain ⟨I,g⟩:=ca hp;obtain ⟨j,C,h⟩:=aw h;obtain ⟨g0,A,rfl⟩:=oK C;have d:=oW D g k g0 A r.r (r.o+(K*J+off)) w;exact ⟨_,h,.val (x:=.pointer (some ⟨r.r,r.o+(K*J+off)+n.toNat*P.cellsOf e,none⟩)) (by simp only [execOp,F,B,u,ax,d,az,aD]) (by simp only [VR,qi,xe];exact ⟨r,v,by rw [ib,ib]⟩)⟩
   ·cases h
  ·cases h
 ·rename_i e D;split at h
  ·rename_i b off m cp hx;have p:=bA E hx;simp only [VR] at p;obtain ⟨r,cap,v,_,_,B⟩:=p;split at h
   ·rename_i hp;obtain ⟨I,g⟩:=ca hp;obtain ⟨j,C,h⟩:=aw h;obtain ⟨g0,A,rfl⟩:=oK C;have d:=lO (cp:=cap) D g k g0 A r.r off w;exact ⟨_,h,.val (x:=.pointer (some ⟨r.r,off+n.toNat*P.cellsOf e,none⟩)) (by simp only [execOp,F,B,u,ax,d,az,aD]) (by simp only [VR,qi,xe];exact ⟨r,v,rfl⟩)⟩
   ·cases h
  ·rename_i b hx;have p:=bA E hx;simp only [VR] at p;split at h
   case h_2=>cases h
   rename_i tr l N;split at h
   case h_2=>cases h
   rename_i hp;simp only [aA,jk] at hp;obtain ⟨M,hp⟩:=hp;obtain ⟨I,g⟩:=ca hp;obtain ⟨j,C,h⟩:=aw h;obtain ⟨g0,A,rfl⟩:=oK C;rcases jz O N with ⟨q,Q,S,fr,G,U,L,X,Y,Z,V⟩ | ⟨G,rfl⟩
   ·rcases p with ⟨W,v,B⟩ | ⟨v,_⟩
    ·rw [v] at G;cases G;have g1':n<(q.n:Int):=by rw [<-L];exact A
     have d:=lO (cp:=q.k) D g k g0 g1' q.r q.o w;exact ⟨_,h,.val (x:=.pointer (some ⟨q.r,q.o+n.toNat*P.cellsOf e,none⟩)) (by simp only [execOp,F,B,u,ax,d,az,aD]) (by simp only [VR];exact ⟨q,v,by rw [cP]⟩)⟩
    ·rw [v] at G;cases G
   ·simp at A;omega
  ·rename_i J b R m _ hx;have p:=bA E hx;simp only [VR] at p;split at h
   case h_2=>cases h
   rename_i hp;simp only [aA,jk] at hp;obtain ⟨rfl,hp⟩:=hp;obtain ⟨I,g⟩:=ca hp;obtain ⟨j,C,h⟩:=aw h;obtain ⟨g0,A,rfl⟩:=oK C;rcases p with ⟨q,cp,off,v,_,y,B⟩ | ⟨_,⟨rfl,_⟩,_⟩
   ·have d:=lO (cp:=cp) D g k g0 A q.r off w;have y:=y (by omega);exact ⟨_,h,.val (x:=.pointer (some ⟨q.r,off+n.toNat*P.cellsOf e,none⟩)) (by simp only [execOp,F,B,u,ax,d,az,aD]) (by simp only [VR,qi];exact ⟨q,v,by rw [y,gW,cP,ib]⟩)⟩
   ·omega
  ·cases h
 ·cases h
theorem jq {t e:TypeId} {m:Nat} {c:TypeInfo} (b:P.underlying t=some (.array m e)) (hi:P.info? e=some c) (k:IntKind) {n:Int} (d:0<=n) (f:n<m) (a:Array Value) (w:World):
  (Instr.index t (.agg a) (.int k n)).run P w=(part e a (n.toNat*P.cellsOf e)).run P w:=by
 simp only [Instr.index,asIntOf,ax,aD,az,aZ b,d,f,and_self,aO,gi hi]
theorem qS {t:TypeId} {d:TypeDesc} (c:P.underlying t=some d) (b:bY P t=false) {a:Array Value} {off:Nat} {x:Value} (hx:a[off]?=some x) (w:World):
  (part t a off).run P w=.ok x w:=by
 simp only [part,ax,kq c,b,az,bw,aC,hx,aD]
theorem vB {t:TypeId} {d:TypeDesc} (a:P.underlying t=some d) (c:bY P t=true) (b:Array Value) (off:Nat) (w:World):
  (part t b off).run P w=.ok (.agg (b.extract off (off+P.cellsOf t))) w:=by
 obtain ⟨i,hi⟩:=nk a;simp only [part,ax,kq a,c,az,aO,gi hi,aD]
theorem vU {t:TypeId} (d:P.underlying t=some .string) {l:aa} {n:Int} {b:UInt8} (h:sx l n=some b) (k:IntKind) (w:World):
  (Instr.index t (.string ⟨l.toArray⟩) (.int k n)).run P w=.ok (.int .u8 b.toNat) w:=by
 unfold sx at h;split at h
 ·rename_i f;have e:(ByteArray.mk l.toArray)[n.toNat]?=some b:=by
   have a:n.toNat<l.length:=by
    rcases aH n.toNat l.length with c | c
    ·exact c
    ·rw [gU c] at h;cases h
   have hs:n.toNat<(ByteArray.mk l.toArray).size:=a;rw [getElem?_pos (ByteArray.mk l.toArray) n.toNat hs];rw [bh a] at h;simp only [av] at h ⊢;exact h
  simp only [Instr.index,asIntOf,ax,aD,az,aZ d,f,aO,e]
 ·cases h
theorem LM {t:TypeId} {x i:Operand} (E:o.op=.index t x i) (G:TR ι s.T a.tmps) (h:effK P (opd s.T) s.H f (.index t x i) c=some z):
  ∃e,c e=some z/\gI P ι f o a w e:=by
 simp only [effK] at h;split at h
 case h_2=>cases h
 rename_i k n hi;have d:=bA G hi;simp only [VR] at d;split at h
 ·rename_i m e C;split at h
  ·cases h
  rename_i hp;obtain ⟨L,q⟩:=ca hp;split at h
  ·rename_i k' m' l hx;have p:=bA G hx;simp only [VR] at p;obtain ⟨R,F⟩:=p;split at h
   ·rename_i k2 g;split at h
    ·rename_i r;have r:=bC r;obtain ⟨j,B,h⟩:=aw h;obtain ⟨g0,u,rfl⟩:=oK B;obtain ⟨v,p,h⟩:=aw h;refine ⟨_,h,.val (x:=.int k' v) ?_ (by simp [VR])⟩;simp only [execOp,E,F,d,ax,jq C q k g0 u];rw [qS g (by simp [bY,g]) (x:=.int k' v) (by simp [r,p])];rfl
    ·cases h
   ·cases h
  ·rename_i l hx;have p:=bA G hx;simp only [VR] at p;obtain ⟨J,F,A⟩:=p;split at h
   ·rename_i O g;obtain ⟨j,B,h⟩:=aw h;obtain ⟨g0,u,rfl⟩:=oK B;refine ⟨_,h,.val (x:=.agg (J.extract (n.toNat*P.cellsOf e) (n.toNat*P.cellsOf e+P.cellsOf e))) ?_ (qz (A.extract _ _))⟩;simp only [execOp,E,F,d,ax,jq C q k g0 u,vB g (by simp [bY,g]),az,aD]
   ·rename_i m2 Q g;obtain ⟨j,B,h⟩:=aw h;obtain ⟨g0,u,rfl⟩:=oK B;refine ⟨_,h,.val (x:=.agg (J.extract (n.toNat*P.cellsOf e) (n.toNat*P.cellsOf e+P.cellsOf e))) ?_ (qz (A.extract _ _))⟩;simp only [execOp,E,F,d,ax,jq C q k g0 u,vB g (by simp [bY,g]),az,aD]
   ·rename_i g;split at h
    ·rename_i r;have r:=bC r;split at h
     ·rename_i M I;obtain ⟨j,B,h⟩:=aw h;obtain ⟨g0,u,rfl⟩:=oK B;obtain ⟨v,p,h⟩:=aw h;obtain ⟨y,hy,D⟩:=A.get (j:=n.toNat) (v:=.s v) (by rw [uM I];simp [p]);refine ⟨_,h,.val (x:=y) ?_ D⟩;simp only [execOp,E,F,d,ax,jq C q k g0 u];rw [qS g (by simp [bY,g]) (x:=y) (by simpa [r] using hy)];rfl
     ·cases h
    ·cases h
   ·rename_i d' S U N g;split at h
    ·rename_i r;have r:=bC r;obtain ⟨j,B,h⟩:=aw h;obtain ⟨g0,u,rfl⟩:=oK B;obtain ⟨v,p,h⟩:=aw h;obtain ⟨y,hy,D⟩:=A.get p;refine ⟨_,h,.val (x:=y) ?_ D⟩;simp only [execOp,E,F,d,ax,jq C q k g0 u];rw [qS g (by simp only [bY,g];cases d'<;>simp_all) (x:=y) (by simpa [r] using hy)];rfl
    ·cases h
   ·cases h
  ·cases h
 ·rename_i C;split at h
  ·rename_i l hx;have p:=bA G hx;simp only [VR] at p;obtain ⟨b,K,h⟩:=aw h;refine ⟨_,h,.val (x:=.int .u8 b.toNat) ?_ (by simp [VR])⟩;simp only [execOp,E,p,d,ax,vU C K,az,aD]
  ·cases h
 ·cases h
theorem AY {t:TypeId} (a:P.underlying t=some .string) {l:aa} {lo hi:Option Value} {L H:Nat} {w:World}
  (b:(Instr.sliceBounds false l.length l.length lo hi none).run P w=.ok (L,H,l.length) w):
  (Instr.sliceAt t (.string ⟨l.toArray⟩) lo hi none).run P w=.ok (.string ⟨((l.take H).drop L).toArray⟩) w:=by
 rw [run_sliceAt_string w t _ _ _ _ a];have hs:(ByteArray.mk l.toArray).size=l.length:=rfl;simp only [Instr.slice,ax,aZ a,az,yk,bw,aC,hs,b,aD];congr 2;apply Ks;rw [ByteArray.data_extract];apply lh;simp [List.extract,xx]
theorem BO {t e:TypeId} {n:Nat} {d:TypeInfo} (c:P.underlying t=some (.array n e)) (hi:P.info? e=some d) {lo a:Option Value} {L H r off:Nat} {w:World}
  (b:(Instr.sliceBounds false n n lo a none).run P w=.ok (L,H,n) w):
  (Instr.sliceAt t (.pointer (some ⟨r,off,none⟩)) lo a none).run P w=.ok (.slice (some ⟨r,if n=L then off else off+L*P.cellsOf e,none⟩) (H - L) (n - L)) w:=by
 simp only [Instr.sliceAt,ax,aZ c,az,Instr.sureAddr,aD,b,gi hi,nl];split<;>rfl
theorem ot {t e:TypeId} {n cp:Nat} {d:TypeInfo} (c:P.underlying t=some (.slice e)) (hi:P.info? e=some d) {lo a:Option Value} {L H r off:Nat} {w:World}
  (b:(Instr.sliceBounds true n cp lo a none).run P w=.ok (L,H,cp) w):
  (Instr.sliceAt t (.slice (some ⟨r,off,none⟩) n cp) lo a none).run P w=.ok (.slice (some ⟨r,if cp=L then off else off+L*P.cellsOf e,none⟩) (H - L) (cp - L)) w:=by
 simp only [Instr.sliceAt,Instr.slice,ax,aZ c,az,b,gi hi,aD];split
 ·rfl
 ·simp only [fa,nl]
theorem ja (n l x y:Nat):cond (Nat.beq n l) x y=if n=l then x else y:=by
 by_cases h:n=l
 ·subst h;simp
 ·have:Nat.beq n l=false:=by
   cases a:Nat.beq n l
   ·rfl
   ·exact absurd (bC a) h
  simp [this,h]
theorem uh {t e:TypeId} {f:TypeInfo} {b:Option Addr} (c:P.underlying t=some (.slice e)) (hi:P.info? e=some f) {lo a:Option Value} {w:World}
  (d:(Instr.sliceBounds true 0 0 lo a none).run P w=.ok (0,0,0) w):
  (Instr.sliceAt t (.slice b 0 0) lo a none).run P w=.ok (.slice b 0 0) w:=by
 simp only [Instr.sliceAt,Instr.slice,ax,aZ c,az,d,gi hi,aD,aO]
theorem EE {T:List (Nat×Option V)} (q:TR ι T a.tmps) {lo hi:Option Operand} {l h:Option Int} (s:rf (opd T) lo=some l)
  (x:rf (opd T) hi=some h) {len:Nat} {c:Nat->Nat->Option α} (f:(hiK len len h λh=>loK h l λl=>c h l)=some z):
  ∃H L,c H L=some z/\H<=len/\L<=H/\∀n,len<=n->∀w,(Instr.sliceBounds true len n (lo.map a.eval) (hi.map a.eval) none).run P w=.ok (L,H,n) w:=by
 have j:∀{H:Nat},loK H l (c H)=some z->∃L,c H L=some z/\L<=H/\
   ∀w,(match lo.map a.eval with | some v=>Instr.sliceBound v H .sliceB | none=>pure 0).run P w=.ok L w:=by
  intro H f;rcases oQ q s with ⟨rfl,g⟩ | ⟨k,m,rfl,g⟩
  ·exact ⟨0,f,jI _,λw=>by rw [g];rfl⟩
  ·simp only [loK] at f;obtain ⟨L,i,o⟩:=aw f;obtain ⟨g0,p,rfl⟩:=ly i;exact ⟨_,o,by omega,λw=>by rw [g];exact run_sliceBound w k m H .sliceB g0 p⟩
 rcases oQ q x with ⟨rfl,g⟩ | ⟨k,m,rfl,g⟩
 ·simp only [hiK] at f;obtain ⟨L,i,o,d⟩:=j f;refine ⟨len,L,i,aV _,o,λn r w=>?_⟩;have d:=d w;rw [g];simp only [Instr.sliceBounds,ax,aD,az,yk,bw,aC];cases b:lo.map a.eval with
  | none=>rw [b] at d;simp only [aD,xj,xd] at d;simp [d]
  | some v=>rw [b] at d;simp only [] at d;simp [d]
 ·simp only [hiK] at f;obtain ⟨H,i,o⟩:=aw f;obtain ⟨g0,p,rfl⟩:=ly i;obtain ⟨L,u,d,e⟩:=j o;refine ⟨_,L,u,by omega,d,λn r w=>?_⟩;have e:=e w;rw [g];have t:=run_sliceBound (P:=P) w k m n .sliceAcap g0 (by omega);simp only [Instr.sliceBounds,ax,aD,az,yk,bw,aC,aO,t];cases b:lo.map a.eval with
  | none=>rw [b] at e;simp only [aD,xj,xd] at e;simp [e]
  | some v=>rw [b] at e;simp only [] at e;simp [e]
theorem Ni {t:TypeId} {x:Operand} {lo hi:Option Operand} (G:o.op=.slice t x lo hi none) (I:TR ι s.T a.tmps) (hW:WR ι s.H s.nb w) (h:effK P (opd s.T) s.H f (.slice t x lo hi none) c=some z):
  ∃e,c e=some z/\gI P ι f o a w e:=by
 simp only [effK] at h;obtain ⟨v,hx,E⟩:=aw h;obtain ⟨l,J,U⟩:=aw E;obtain ⟨X,u,d⟩:=aw U;clear h E U;have A:=bA I hx;clear hx;split at d
 ·rename_i C;cases v<;>simp only [reduceCtorEq] at d;rename_i sl;simp only [VR] at A;obtain ⟨H,L,g,_,_,_,i,_,B⟩:=xY (P:=P) I J u (isSlice:=false) d;refine ⟨_,g,.val (x:=.string ⟨((sl.take H).drop L).toArray⟩) ?_ (by simp [VR])⟩;simp only [execOp,G,A,ax,iU];rw [AY C (B w)];rfl
 ·rename_i n e C;split at d
  case h_2=>cases d
  rename_i hp;obtain ⟨ti,p⟩:=ca hp;cases v<;>simp only [reduceCtorEq] at d;rename_i b off;simp only [VR] at A;obtain ⟨r,i,y⟩:=A;obtain ⟨H,L,g,_,F,D,g4,_,B⟩:=xY (P:=P) I J u (isSlice:=false) d;have V:H<=n:=by
   cases X with
   | none=>exact xI (F rfl)
   | some q=>exact D (by simp)
  refine ⟨_,g,.val (x:=.slice (some ⟨r.r,if n=L then off else off+L*P.cellsOf e,none⟩) (H - L) (n - L)) ?_ ?_⟩
  ·simp only [execOp,G,y,ax,iU];rw [BO C p (B w)];rfl
  ·simp only [VR];exact ⟨r,n - L,i,λm Q=>by cases Q;rfl,by omega,by rw [ja,qi,xe]⟩
 ·rename_i e C;split at d
  case h_2=>cases d
  rename_i hp;obtain ⟨ti,p⟩:=ca hp;cases v<;>try (simp only [reduceCtorEq] at d;done)
  ·rename_i b;simp only [VR] at A;simp only at d;split at d
   case h_2=>cases d
   rename_i tr m Y;split at d
   case h_2=>cases d
   rename_i K;have K:=bC K;obtain ⟨H,L,g,F,D,B⟩:=EE (P:=P) I J u d;rcases jz hW Y with ⟨q,cs,e',fr,E,U,Z,q5,_,_,_⟩ | ⟨E,rfl⟩
   ·rcases A with ⟨q',i,y⟩ | ⟨i,_⟩
    ·rw [i] at E;cases E;refine ⟨_,g,.val (x:=.slice (some ⟨q.r,if q.k=L then q.o else q.o+L*P.cellsOf e,none⟩) (H - L) (q.k - L)) ?_ ?_⟩
     ·simp only [execOp,G,y,ax,iU];rw [<-Z,ot C p (B q.k (by omega) w)];rfl
     ·simp only [VR];exact .inl ⟨q,_,_,i,⟨by omega,ky⟩,λR=>by rw [ab (by omega)],rfl⟩
    ·rw [i] at E;cases E
   ·rcases A with ⟨q,i,y⟩ | ⟨i,S,y⟩
    ·rw [i] at E;cases E
    ·simp only [bH,Bg] at F D;subst F;simp only [Bg] at D;subst D;refine ⟨_,g,.val (x:=.slice S 0 0) ?_ (by unfold VR;exact .inr ⟨i,⟨rfl,ky⟩,S,rfl⟩)⟩;simp only [execOp,G,y,ax,iU];rw [uh C p (B 0 (aV _) w)];rfl
  ·rename_i zz b j n _;simp only [VR] at A;simp only at d;split at d
   case h_2=>cases d
   rename_i K;have K:=bC K;obtain ⟨H,L,g,F,D,B⟩:=EE (P:=P) I J u d;rcases A with ⟨q,cp,off,i,⟨M,_⟩,O,y⟩ | ⟨i,⟨rfl,_⟩,S,y⟩
   ·refine ⟨_,g,.val (x:=.slice (some ⟨q.r,if cp=L then off else off+L*P.cellsOf e,none⟩) (H - L) (cp - L)) ?_ ?_⟩
    ·simp only [execOp,G,y,ax,iU];rw [ot C p (B cp M w)];rfl
    ·simp only [VR];exact .inl ⟨q,_,_,i,⟨by omega,ky⟩,λR=>by rw [ab (by omega),O (by omega),qi,gW,K,ib],rfl⟩
   ·simp only [Bg] at F;subst F;simp only [Bg] at D;subst D;refine ⟨_,g,.val (x:=.slice S 0 0) ?_ (by unfold VR;exact .inr ⟨i,⟨rfl,ky⟩,S,rfl⟩)⟩;simp only [execOp,G,y,ax,iU];rw [uh C p (B 0 (aV _) w)];rfl
  rename_i b off n cap;simp only [VR] at A;obtain ⟨r,cp,i,W,M,y⟩:=A;cases cap with
  | some m=>
   obtain rfl:=W m rfl;obtain ⟨H,L,g,_,F,D,g4,_,B⟩:=xY (P:=P) I J u (isSlice:=true) d;have V:H<=cp:=by
    cases X with
    | none=>have:=F rfl;omega
    | some q=>exact D (by simp)
   refine ⟨_,g,.val (x:=.slice (some ⟨r.r,if cp=L then off else off+L*P.cellsOf e,none⟩) (H - L) (cp - L)) ?_ ?_⟩
   ·simp only [execOp,G,y,ax,iU];rw [ot C p (B w)];rfl
   ·simp only [VR];exact ⟨r,cp - L,i,λm Q=>by cases Q;rfl,by omega,by rw [ja,qi,xe]⟩
  | none=>
   have hll:l=none:=by
    cases l with
    | none=>rfl
    | some q=>
     cases X with
     | none=>simp [hiK] at d
     | some q=>simp only [hiK] at d;obtain ⟨_,_,Z⟩:=aw d;cases Z
   subst hll;have N:lo.map a.eval=none:=by
    rcases oQ I J with ⟨_,g⟩ | ⟨k,m,h0,_⟩
    ·exact g
    ·cases h0
   have key:∃H,c { val:=some (.sl b off H none) }=some z/\H<=n/\(Instr.sliceBounds true n cp (lo.map a.eval) (hi.map a.eval) none).run P w=.ok (0,H,cp) w:=by
    rcases oQ I u with ⟨rfl,g⟩ | ⟨k,m,rfl,g⟩
    ·simp only [hiK] at d;exact ⟨n,d,aV _,by rw [g,N];simp [Instr.sliceBounds]⟩
    ·simp only [hiK] at d;obtain ⟨H,h2,h3⟩:=aw d;obtain ⟨g0,g1,rfl⟩:=ly h2;refine ⟨_,h3,by omega,?_⟩;have Y:=run_sliceBound (P:=P) w k m cp .sliceAcap g0 (by omega);rw [g,N];simp [Instr.sliceBounds,Y]
   obtain ⟨H,g,h2,h3⟩:=key;refine ⟨_,g,.val (x:=.slice (some ⟨r.r,if cp=0 then off else off+0*P.cellsOf e,none⟩) (H - 0) (cp - 0)) ?_ ?_⟩
   ·simp only [execOp,G,y,ax,iU];rw [ot C p h3];rfl
   ·simp only [VR];exact ⟨r,cp,i,λm Q=>(by cases Q),by omega,by simp⟩
 ·cases d
theorem xT (a:List Int):a.foldl (λ(r:ByteArray) n=>r.push (UInt8.ofNat n.toNat)) ByteArray.empty=⟨(ic a).toArray⟩:=by
 rw [foldl_push_bytes];apply Ks;simp [ic]
theorem za {w:World} {r off q m cp:Nat} {l:List Int} {e:TypeId} {fr:Nat×Nat} (h:w.heap[r]?=some (.cells (l.map (Value.int .u8)).toArray e fr)) (f:l.length=q) (g:off+m<=q):
  (Conv.bytesToString (.slice (some ⟨r,off,none⟩) m cp)).run P w=.ok (.string ⟨(ic ((l.drop off).take m)).toArray⟩) w:=by
 have a:(((l.drop off).take m).map (Value.int .u8)).length=m:=by simp;omega
 have hc:=yp (P:=P) w ⟨r,off,none⟩ (((l.drop off).take m).map (Value.int .u8)) (λj v b=>by
  have c:j<m:=by
   rcases aH j m with d | d
   ·exact d
   ·rw [gU (by omega)] at b;cases b
  rw [nl,bv h];rw [mj,qE c,mY] at b;simpa using b)
 rw [a] at hc;rw [run_bytesToString w _ m cp _ hc,xT]
theorem Bm (w:World) (e:TypeId) (s:ByteArray):
  Lib.bytesWorld w e s=World.alloc { w with drawn:=w.drawn+1 } (.cells (Lib.bytesCells w e s) e ((Lib.bytesCells w e s).size,(Lib.bytesCells w e s).size+1)):=by
 have c:=Lib.bytesWorld_at_new w e s;have f:=Lib.bytesWorld_size w e s;have d:(Lib.bytesWorld w e s).heap=w.heap.push (.cells (Lib.bytesCells w e s) e ((Lib.bytesCells w e s).size,(Lib.bytesCells w e s).size+1)):=by
  apply TX;intro j;by_cases b:j=w.heap.size
  ·subst b;rw [c];simp
  ·by_cases a:j<w.heap.size
   ·rw [Lib.bytesWorld_at_old w e s j a,Array.getElem?_push,ab b]
   ·rw [yd (by omega),yd (by simp;omega)]
 show ({ (Lib.bytesWorld w e s) with heap:=(Lib.bytesWorld w e s).heap }:World)=_;rw [d];rfl
theorem sd:∀(l:List Int),l.flatMap (vals [.i .u8])=l.map (Value.int .u8)
 | []=>rfl
 | x::l=>by
  have:=sd l;simp only [ou,fV,vals,Lf.val] at this ⊢;rw [this];rfl
theorem sJ {w:World} {r cp:Nat} {l:List Int} {c:Array Value} {e:TypeId} {fr:Nat×Nat} {m:Nat} (h:w.heap[r]?=some (.cells c e fr)) (p:m<=c.size)
  {o:Nat} (k:(c.toList.drop o).take (l.length*([Lf.i .u8]:List Lf).length)=l.flatMap (vals [.i .u8])) {j n:Nat} (s:j+n<=l.length):
  (Conv.bytesToString (.slice (some ⟨r,o+j,none⟩) n cp)).run P w=.ok (.string ⟨(ic ((l.drop j).take n)).toArray⟩) w:=by
 have hl':(c.toList.drop o).take l.length=l.map (Value.int .u8):=by rw [<-sd];simpa using k
 have a:(((l.drop j).take n).map (Value.int .u8)).length=n:=by simp;omega
 have hc:=yp (P:=P) w ⟨r,o+j,none⟩ (((l.drop j).take n).map (Value.int .u8)) (λi v b=>by
  have f:i<n:=by
   rcases aH i n with g | g
   ·exact g
   ·rw [gU (by omega)] at b;cases b
  rw [nl,bv h];rw [mj,qE f,mY] at b;have d:=cK (λq:List Value=>q[j+i]?) hl';simp only [qE (show j+i<l.length by omega),mj,mY] at d;rw [b] at d;simpa [ib] using d)
 rw [a] at hc;rw [run_bytesToString w _ n cp _ hc,xT]
theorem sU {w:World} (c:Option Addr):(Conv.bytesToString (.slice c 0 0)).run P w=.ok (.string ⟨#[]⟩) w:=by
 cases c with
 | none=>rfl
 | some a=>
  have b:=yp (P:=P) w a ([].map (Value.int .u8)) (λj v d=>by simp at d);exact run_bytesToString (P:=P) w a 0 0 [] b
theorem Fv {B d:TypeId} {x:Operand} (y:o.op=.convert B d x) (hT:TR ι s.T a.tmps) (O:WR ι s.H s.nb w) (h:effK P (opd s.T) s.H f (.convert B d x) c=some z):
  ∃e,c e=some z/\gI P ι f o a w e:=by
 simp only [effK] at h;obtain ⟨v,hx,q⟩:=aw h;clear h;have g:=bA hT hx;clear hx;split at q
 case h_2=>cases q
 rename_i C hs;split at q
 ·rename_i k p;cases v<;>simp only [reduceCtorEq] at q;rename_i k' n;simp only [VR] at g;refine ⟨_,q,.val (x:=.int k (k.wrap n)) ?_ (by simp [VR])⟩;simp only [execOp,y,g,ax,convert,aZ hs,aZ p,az];cases C<;>rfl
 ·rename_i p;cases v<;>simp only [reduceCtorEq] at q
  ·rename_i b;simp only [VR] at g;cases C<;>try (simp only [reduceCtorEq] at q;done)
   rename_i e;simp only at q;split at q
   case h_2=>cases q
   rename_i u;split at q
   case h_2=>cases q
   rename_i l E;refine ⟨_,q,.val (x:=.string ⟨(ic l).toArray⟩) ?_ (by simp [VR])⟩;rcases jz O E with ⟨q,Z,W,fr,i,K,Y,q5,S,L,_⟩ | ⟨i,rfl⟩
   ·rcases g with ⟨q',t,A⟩ | ⟨t,_⟩
    ·rw [t] at i;cases i;simp only [execOp,y,A,ax,run_convert_bytes_string w B d e _ _ _ hs u p];rw [<-Y];have:=sJ (P:=P) (cp:=q.k) K S L (j:=0) (n:=l.length) (by omega);simp only [cw,mE,cP] at this;rw [this];rfl
    ·rw [t] at i;cases i
   ·rcases g with ⟨q,t,A⟩ | ⟨t,U,A⟩
    ·rw [t] at i;cases i
    ·simp only [execOp,y,A,ax,run_convert_bytes_string w B d e U 0 0 hs u p,sU];rfl
  ·rename_i zz b j n _;simp only [VR] at g;cases C<;>try (simp only [reduceCtorEq] at q;done)
   rename_i e;simp only at q;split at q
   case h_2=>cases q
   rename_i u;split at q
   case h_2=>cases q
   rename_i l E;split at q
   case h_2=>cases q
   rename_i Q;have Q:=bC Q;subst Q;obtain ⟨hc,q⟩:=dZ q;have D:=aL hc;refine ⟨_,q,.val (x:=.string ⟨(ic ((l.drop j).take n)).toArray⟩) ?_ (by simp [VR])⟩;rcases g with ⟨V,cp,off,t,⟨J,_⟩,I,A⟩ | ⟨t,⟨rfl,_⟩,U,A⟩
   ·rcases jz O E with ⟨q',Z,W,fr,i,K,Y,q5,S,L,_⟩ | ⟨i,rfl⟩
    ·rw [t] at i;cases i;simp only [execOp,y,A,ax,run_convert_bytes_string w B d e _ _ _ hs u p];by_cases hn:0<n
     ·rw [I hn,qQ];rw [sJ (P:=P) (cp:=cp) K S L D];rfl
     ·have M:n=0:=by omega
      subst M;have G:=yp (P:=P) w ⟨V.r,off,none⟩ ([].map (Value.int .u8)) (λj v X=>by simp at X);have h0:=run_bytesToString (P:=P) w ⟨V.r,off,none⟩ 0 cp [] G;rw [h0];simp [ic];rfl
    ·rw [t] at i;cases i
   ·simp only [execOp,y,A,ax,run_convert_bytes_string w B d e U 0 0 hs u p,sU];simp [ic]
  ·rename_i k' n;simp only [VR] at g;cases C<;>simp only [reduceCtorEq] at q;refine ⟨_,q,.val (x:=.string (Utf8.encode n)) ?_ ?_⟩
   ·simp only [execOp,y,g,ax,convert,aZ hs,aZ p,az,Conv.intToString,aD]
   ·simp [VR]
  ·rename_i l;simp only [VR] at g;cases C<;>simp only [reduceCtorEq] at q;refine ⟨_,q,.val (x:=.string ⟨l.toArray⟩) ?_ (by simp [VR])⟩;simp only [execOp,y,g,ax,convert,aZ hs,aZ p,az,aD]
  ·simp only [VR] at g;cases C<;>try (simp only [reduceCtorEq] at q;done)
   rename_i e;simp only at q;split at q
   ·rename_i u;refine ⟨_,q,.val (x:=.string .empty) ?_ (by simp only [VR];rfl)⟩;simp only [execOp,y,g,ax,run_convert_bytes_string w B d e none 0 0 hs u p];rfl
   ·cases q
  ·rename_i b off m cap;simp only [VR] at g;obtain ⟨r,cp,t,_,_,A⟩:=g;cases C<;>try (simp only [reduceCtorEq] at q;done)
   rename_i e;simp only at q;split at q
   ·rename_i u;split at q
    ·rename_i qn l E;obtain ⟨hc,q⟩:=dZ q;have D:=aL hc;obtain ⟨r',W,fr,J,I,g3,_⟩:=wz O E;rw [t] at J;cases J;refine ⟨_,q,.val (x:=.string ⟨(ic ((l.drop off).take m)).toArray⟩) ?_ (by simp [VR])⟩;simp only [execOp,y,A,ax,run_convert_bytes_string w B d e _ _ _ hs u p,za I g3 D,az,aD]
    ·cases q
   ·cases q
 ·rename_i e p;split at q
  case h_2=>cases q
  rename_i u;cases v<;>try (simp only [reduceCtorEq] at q;done)
  rename_i l;simp only [VR] at g;cases C<;>simp only [reduceCtorEq] at q;refine ⟨_,q,.mkR (d:=w.drawn+1) (q:=(Rf.of w.heap.size (l.length) (grownCap w l.length 0 e))) (x:=.slice (some ⟨w.heap.size,0,none⟩) l.length (grownCap w l.length 0 e))
   (ob:=.cells (Lib.bytesCells w e ⟨l.toArray⟩) e ((Lib.bytesCells w e ⟨l.toArray⟩).size,(Lib.bytesCells w e ⟨l.toArray⟩).size+1)) ?_ rfl rfl ?_ ?_⟩
  ·simp only [execOp,y,g,ax,Lib.run_convert_string_bytes w B d e ⟨l.toArray⟩ hs p u,az,aD,Bm];rfl
  ·have F:l.length<=grownCap w l.length 0 e:=by simp only [grownCap,Question.cut];omega
   have N:((ByteArray.mk l.toArray).data.map λb=>Value.int .u8 b.toNat).size=l.length:=by simp
   refine ⟨_,e,_,rfl,by simp,F,?_,?_,?_⟩
   ·simp only [Lib.bytesCells,Array.size_append,N,Array.size_replicate,aE,bH];have:(ByteArray.mk l.toArray).size=l.length:=rfl;rw [this];omega
   ·simp only [Lib.bytesCells,wF,tM,aE,bH,dk,qQ,cw];rw [vq (by simp),jf (by simp)];rw [sd,Array.toList_map,tO];rfl
   ·refine .inr λj X R=>?_;exact absurd R.1 (by simp only;omega)
  ·simp only [VR];exact .inl ⟨_,dF _ _ _,rfl⟩
 ·cases q
theorem Qg {U:Call} (Q:o.op=.call U) (hT:TR ι s.T a.tmps) (hW:WR ι s.H s.nb w) (h:effK P (opd s.T) s.H f (.call U) c=some z):
  ∃e,c e=some z/\gI P ι f o a w e:=by
 obtain ⟨R,args,D⟩:=U;simp only [effK] at h;split at h
 case h_2=>cases h
 rename_i b;obtain ⟨l,Z,q⟩:=aw h;clear h;have g:=yL hT Z;have L:(args.map a.eval).toList=args.toList.map a.eval:=by simp
 rw [<-L] at g;generalize hA:args.map a.eval=A at g;have B:∃S,∀w,((do let d <-resolve a.eval ⟨.builtin b,args,D⟩ o.type;invoke d.target d.args):Sem Next).run P w=(builtin b D o.type S A).run P w:=by
  refine ⟨args.map fun | .const _=>true | _=>false,λw=>?_⟩;simp only [resolve,hA,ax,aD,az,invoke];rfl
 obtain ⟨S,B⟩:=B;have one:∀{X:Value},A.toList=[X]->A[0]?=some X:=by
  intro X p;have:A=#[X]:=by apply lh;simpa using p
  simp [this]
 have E:∀{t:TypeId} {r:List TypeId},D.toList=t::r->D[0]?=some t:=by
  intro t r u;rw [<-qM,u];rfl
 have j:∀{n:Int} {rd:List Nat},b=.len->(∀w,(Builtin.len_ D o.type A).run P w=.ok (goInt n) w)->c { val:=some (.i .i64 n),rd:=rd }=some z->∃e,c e=some z/\gI P ι f o a w e:=by
  intro n rd O F hc;subst O;refine ⟨_,hc,.val (x:=.int .i64 n) ?_ (by simp [VR])⟩;simp only [execOp,Q];rw [B w];simp only [builtin,ax,F,az,aD,goInt]
 have C:∀{n:Int} {rd:List Nat},b=.cap->(∀w,(Builtin.cap_ D o.type A).run P w=.ok (goInt n) w)->c { val:=some (.i .i64 n),rd:=rd }=some z->∃e,c e=some z/\gI P ι f o a w e:=by
  intro n rd O F hc;subst O;refine ⟨_,hc,.val (x:=.int .i64 n) ?_ (by simp [VR])⟩;simp only [execOp,Q];rw [B w];simp only [builtin,ax,F,az,aD,goInt]
 split at q
 ·split at q
  ·rename_i sl;simp only [VRs,VR] at g;obtain ⟨_,_,p,rfl,rfl⟩:=g;split at q
   ·rename_i t r u;split at q
    ·rename_i v;refine j rfl (λw=>?_) q;simp only [Builtin.len_,E u,one p,ax,aZ v,az,aD];rfl
    ·cases q
   ·cases q
  ·rename_i N oo n cp;simp only [VRs,VR] at g;obtain ⟨_,_,p,⟨r,cap,_,_,_,rfl⟩,rfl⟩:=g;split at q
   ·rename_i t r u;split at q
    ·rename_i v;refine j rfl (λw=>?_) q;simp only [Builtin.len_,E u,one p,ax,aZ v,az,aD]
    ·cases q
   ·cases q
  ·simp only [VRs,VR] at g;obtain ⟨_,_,p,rfl,rfl⟩:=g;split at q
   ·rename_i t r u;split at q
    ·rename_i v;refine j rfl (λw=>?_) q;simp only [Builtin.len_,E u,one p,ax,aZ v,az,aD];rfl
    ·cases q
   ·cases q
  ·rename_i N;simp only [VRs,VR] at g;obtain ⟨_,_,p,M,rfl⟩:=g;split at q
   ·rename_i t r u;split at q
    ·rename_i v;split at q
     ·rename_i tr l O;refine j (rd:=[N]) rfl (λw=>?_) q;rcases jz hW O with ⟨q,S,e',fr,K,q2,q4,q5,q6,q7,_⟩ | ⟨K,rfl⟩
      ·rcases M with ⟨q',G,rfl⟩ | ⟨G,_⟩
       ·rw [G] at K;cases K;simp only [Builtin.len_,E u,one p,ax,aZ v,az,aD,q4]
       ·rw [G] at K;cases K
      ·rcases M with ⟨q,G,_⟩ | ⟨G,V,rfl⟩
       ·rw [G] at K;cases K
       ·simp only [Builtin.len_,E u,one p,ax,aZ v,az,aD];rfl
     ·cases q
    ·cases q
   ·cases q
  ·rename_i Y N W n _;simp only [VRs,VR] at g;obtain ⟨_,_,p,M,rfl⟩:=g;split at q
   ·rename_i t r u;split at q
    ·rename_i v;refine j rfl (λw=>?_) q;rcases M with ⟨q,cp,off,G,_,_,rfl⟩ | ⟨_,⟨rfl,_⟩,V,rfl⟩
     ·simp only [Builtin.len_,E u,one p,ax,aZ v,az,aD]
     ·simp only [Builtin.len_,E u,one p,ax,aZ v,az,aD]
    ·cases q
   ·cases q
  ·simp only [VRs] at g;obtain ⟨X,_,p,_,rfl⟩:=g;split at q
   ·rename_i t r u;split at q
    ·rename_i v;refine j rfl (λw=>?_) q;simp only [Builtin.len_,E u,one p,ax,aZ v,az,aD]
    ·cases q
   ·cases q
  ·cases q
 ·split at q
  ·rename_i Y N W nn m;simp only [VRs,VR] at g;obtain ⟨_,_,p,M,rfl⟩:=g;split at q
   ·rename_i t r u;split at q
    ·rename_i v;refine C rfl (λw=>?_) q;rcases M with ⟨q,cp,off,G,⟨_,hc⟩,_,rfl⟩ | ⟨_,⟨_,hc⟩,V,rfl⟩
     ·have:=hc m rfl;subst this;simp only [Builtin.cap_,E u,one p,ax,aZ v,az,aD]
     ·have:=hc m rfl;subst this;simp only [Builtin.cap_,E u,one p,ax,aZ v,az,aD]
    ·cases q
   ·cases q
  ·rename_i N oo nn m;simp only [VRs,VR] at g;obtain ⟨_,_,p,⟨qq,cp,G,hc,_,rfl⟩,rfl⟩:=g;split at q
   ·rename_i t r u;split at q
    ·rename_i v;refine C rfl (λw=>?_) q;have:=hc m rfl;subst this;simp only [Builtin.cap_,E u,one p,ax,aZ v,az,aD]
    ·cases q
   ·cases q
  ·simp only [VRs,VR] at g;obtain ⟨_,_,p,rfl,rfl⟩:=g;split at q
   ·rename_i t r u;split at q
    ·rename_i v;refine C rfl (λw=>?_) q;simp only [Builtin.cap_,E u,one p,ax,aZ v,az,aD];rfl
    ·cases q
   ·cases q
  ·cases q
 ·split at q
  ·rename_i k x k' y;split at q
   ·rename_i J;have J:=kG J;subst J;simp only [VRs,VR] at g;obtain ⟨_,_,p,rfl,_,_,rfl,rfl,rfl⟩:=g;refine ⟨_,q,.val (x:=.int k (cond (decide (y<x)) y x)) ?_ (by simp [VR])⟩;simp only [execOp,Q];rw [B w];simp only [builtin,ax,Builtin.min_,p,List.foldlM,Builtin.min2,aD,az];by_cases I:y<x<;>simp [I]
   ·cases q
  ·cases q
 ·split at q
  ·rename_i k x k' y;split at q
   ·rename_i J;have J:=kG J;subst J;simp only [VRs,VR] at g;obtain ⟨_,_,p,rfl,_,_,rfl,rfl,rfl⟩:=g;refine ⟨_,q,.val (x:=.int k (cond (decide (y>x)) y x)) ?_ (by simp [VR])⟩;simp only [execOp,Q];rw [B w];simp only [builtin,ax,Builtin.max_,p,List.foldlM,Builtin.max2,aD,az];by_cases I:y>x<;>simp [I]
   ·cases q
  ·cases q
 ·cases q
theorem VA {op:UnOp} {x:V} {X:Value} {c:V->Option α} (h:unK op x c=some z) (hx:VR ι x X) (w:World):
  ∃v R,c v=some z/\VR ι v R/\(Op.unary op X).run P w=.ok R w:=by
 unfold unK at h;split at h
 ·simp only [VR] at hx;subst hx;exact ⟨_,_,h,rfl,rfl⟩
 ·simp only [VR] at hx;subst hx;exact ⟨_,_,h,rfl,rfl⟩
 ·cases h
theorem P5 {x:Operand} {k:Bool} (q:o.op=.next x k) (E:TR ι s.T a.tmps) (D:WR ι s.H s.nb w) (h:effK P (opd s.T) s.H f (.next x k) c=some z):
  ∃e,c e=some z/\gI P ι f o a w e:=by
 simp only [effK] at h;split at h
 case h_2=>cases h
 rename_i b hx;have n:=bA E hx;simp only [VR] at n;obtain ⟨r,p,y⟩:=n;split at h
 case h_2=>cases h
 rename_i l pos B;obtain ⟨F,ob,m,t,v⟩:=(D.blk b _ B (by simp)).real (by simp);rw [p] at m;cases m;simp only [BR] at v;subst v;have j:(ByteArray.mk l.toArray).size=l.length:=rfl;have d:(getObj r.r).run P w=.ok (.stringIter ⟨l.toArray⟩ pos) w:=by simp [getObj,Sem.run,t]
 cases hc:Nat.blt pos l.length with
 | false=>
  rw [hc] at h;have A:¬pos<l.length:=λg=>by rw [show Nat.blt pos l.length=true from cT g] at hc;cases hc
  refine ⟨_,h,.val (x:=.tuple #[.bool false]) ?_ (by simp [VR,VRs])⟩;simp only [execOp,q,y,Instr.next,ax,d,az,j,A,aC,aD]
 | true=>
  rw [hc] at h;have g:pos<l.length:=aL hc;refine ⟨_,h,?_⟩;unfold gI;have i:∀ob,(Go.setObj r.r ob).run P w=.ok () (setObj w r.r ob):=by
   intro ob;simp [Go.setObj,Sem.run,t,setObj]
  refine ⟨r,p,λ_=>⟨.stringIter ⟨l.toArray⟩ (pos+(dec l pos).2),.value (.tuple #[.bool true,.int .i64 pos,.int .i32 (dec l pos).1]),?_,rfl,.value _ λu C=>by cases C;simp [VR,VRs]⟩⟩;simp only [execOp,q,y,Instr.next,ax,d,az,j,g,aO,i,aD,dec,goInt]
theorem Ip {t:List Lf} (x:den t):∀n,(List.replicate n x).flatMap (vals t)=(List.replicate n (vals t x)).flatten
 | 0=>rfl
 | n+1=>by simp [tC,ou,Ip x n]
theorem Ll {l:List Value}:∀n:Nat,(List.replicate n l).flatten.length=n*l.length
 | 0=>by simp
 | n+1=>by rw [tC,List.flatten_cons,aR,Ll n,gW];omega
theorem NP {l:List Value}:∀(n j:Nat),j<n*l.length->(List.replicate n l).flatten[j]?=l[j%l.length]?
 | 0,j,h=>by simp at h
 | n+1,j,h=>by
  simp only [tC,List.flatten_cons];by_cases a:j<l.length
  ·rw [nN a,oO a]
  ·rw [qF (by omega),NP n _ (by rw [gW] at h;omega),<-Nat.mod_eq_sub_mod (by omega)]
theorem A8 {t:TypeId} {x y:Operand} (U:o.op=.makeSlice t x y) (R:TR ι s.T a.tmps) (h:effK P (opd s.T) s.H f (.makeSlice t x y) c=some z):
  ∃e,c e=some z/\gI P ι f o a w e:=by
 simp only [effK] at h;obtain ⟨u,E,N⟩:=aw h;obtain ⟨v,D,b⟩:=aw N;clear h N;have E:=bA R E;have D:=bA R D;split at b
 case h_2=>cases b
 rename_i e S;split at b
 case h_2=>cases b
 rename_i k1 n k2 m _ _;simp only [VR] at E D;obtain ⟨zv,F,b⟩:=aw b;split at b
 case h_2=>cases b
 rename_i tr p _ l;split at b
 case h_2=>cases b
 rename_i M;simp only [aA,jk] at M;obtain ⟨K,e2,O,J⟩:=M;have O:=aL O;have J:=aL J;obtain ⟨X,G,b⟩:=aw b;obtain ⟨hc,b⟩:=dZ b;simp only [aA,cn] at hc;obtain ⟨W,c1,c2⟩:=hc;obtain ⟨zc,i,Q,h2,Z,_⟩:=wg ι F;rw [l] at Q;cases Q;have g:=nF Z;rw [wq G] at g;have g:=(kO ι tr X _).1 g;have B:p.size=P.cellsOf e:=by unfold Program.cellsOf;rw [l];rfl
 have Y:m=(m.toNat:Int):=by omega
 have C:=run_make (P:=P) w t e p zc S l h2 k1 k2 n m W c1 (by
  rw [Y,<-Ic];have:p.bytes*m.toNat<=1048576*67108864:=wN J (by omega);omega) (by omega)
 refine ⟨_,b,.mkR (d:=w.drawn) (q:=(Rf.of w.heap.size (n.toNat) (m.toNat))) (x:=.slice (some ⟨w.heap.size,0,none⟩) n.toNat m.toNat) (ob:=.cells (madeCells zc.cells (m.toNat*p.size)) e) ?_ rfl rfl ?_ ?_⟩
 ·simp only [execOp,U,E,D,ax,C,az,aD]
 ·have I:(madeCells zc.cells (m.toNat*p.size)).size=m.toNat*p.size:=size_madeCells _ _;refine ⟨_,e,_,rfl,by simp,by simp only;omega,by rw [I,B,K];simp,?_,.inr (ta _)⟩;simp only [cw];rw [Ip,List.length_replicate,<-g];apply CS;intro j;have k:zc.cells.toList.length=tr.length:=by rw [g,jZ]
  have r:zc.cells.size=tr.length:=by simpa using k
  have V:n.toNat*tr.length<=m.toNat*tr.length:=oC _ (by omega);by_cases L:j<n.toNat*tr.length
  ·rw [qE L,NP n.toNat j (by rw [k];exact L),k];have A:j%tr.length<zc.cells.size:=by rw [r];exact tJ _ (by omega)
   simp only [madeCells,B,<-K,r];rw [qM,Array.getElem?_map,Array.getElem?_range];simp [show j<m.toNat*tr.length by omega,A]
  ·rw [gU (by rw [dq];omega),gU (by rw [Ll,k];omega)]
 ·simp only [VR];exact .inl ⟨_,dF _ _ _,rfl⟩
theorem Wg {op:BinOp} {t:TypeId} {x y:Operand} {u v:V} {r:Bool} {X Y:Value} (h:niK P op t x y u v=some r) (hx:VR ι u X) (hy:VR ι v Y) (w:World):
  (eqGuard op t x y X Y).run P w=.ok () w/\(binOp op t X Y).run P w=.ok (.bool r) w:=by
 unfold niK at h;split at h
 case h_2=>cases h
 simp only [VR] at hx hy;subst hx hy;split at h
 case h_2=>cases h
 rename_i hc;split at h
 case h_2=>cases h
 rename_i f d;have b:∀o:BinOp,o=.eql\/o=.neq->(eqGuard o t x y .nilIface .nilIface).run P w=.ok () w:=by
  intro o e;have a:(∃v,x=.const v)\/∃v,y=.const v:=by
   rw [g9] at hc;refine hc.imp (λh=>?_) (λh=>?_)
   ·cases x<;>simp_all [HJ]
   ·cases y<;>simp_all [HJ]
  rcases a with ⟨v,rfl⟩ | ⟨v,rfl⟩<;>rcases e with rfl | rfl<;>simp [eqGuard]
 have c:(Op.equal t .nilIface .nilIface).run P w=.ok true w:=by rw [eS,Op.equalIn];simp [aZ d]
 split at h
 ·simp only [av] at h;subst h;exact ⟨b _ (.inl rfl),by simp [binOp,c]⟩
 ·simp only [av] at h;subst h;exact ⟨b _ (.inr rfl),by simp [binOp,c]⟩
 ·cases h
theorem kU {t e:TypeId} {d:TypeInfo} (b:P.underlying t=some (.slice e)) (hi:P.info? e=some d) {n cp:Nat} {a:Option Addr} {k k':IntKind} {h m:Int} {H M:Nat} (c:bx n m=some M) (l:bx M h=some H) (p:n<=cp) (w:World):
  (Instr.sliceAt t (.slice a n cp) none (some (.int k h)) (some (.int k' m))).run P w=.ok (.slice a H M) w:=by
 obtain ⟨m0,m1,rfl⟩:=ly c;obtain ⟨g,j,rfl⟩:=ly l;have i:=run_sliceBound (P:=P) w k' m cp .slice3Acap m0 (by omega);have f:=run_sliceBound (P:=P) w k h m.toNat .slice3B g j;simp only [Instr.sliceAt,Instr.slice,ax,aZ b,az,Instr.sliceBounds,aO,i,f,aD,gi hi,qT,CB];split
 ·rfl
 ·cases a with
  | none=>rfl
  | some q=>obtain ⟨r,o,x⟩:=q;simp [Addr.add]
theorem Jp {t:TypeId} {x mx:Operand} {lo hi:Option Operand} (G:o.op=.slice t x lo hi (some mx)) (O:TR ι s.T a.tmps) (X:WR ι s.H s.nb w) (h:effK P (opd s.T) s.H f (.slice t x lo hi (some mx)) c=some z):
  ∃e,c e=some z/\gI P ι f o a w e:=by
 simp only [effK,uX] at h;split at h
 case h_2=>cases h
 rename_i hh;obtain ⟨v,hx,d⟩:=aw h;clear h;have C:=bA O hx;clear hx;split at d
 case h_2=>cases d
 rename_i k1 Z k2 m1 K L;have D:=bA O K;have E:=bA O L;simp only [VR] at D E;split at d
 case h_2=>cases d
 rename_i e F;split at d
 case h_2=>cases d
 rename_i hp;obtain ⟨ti,m⟩:=ca hp;split at d
 ·rename_i b;split at d
  case h_2=>cases d
  rename_i tr l W;split at d
  case h_2=>cases d
  obtain ⟨M,u,I⟩:=aw d;obtain ⟨H,p,A⟩:=aw I;obtain ⟨m0,m2,S⟩:=ly u;obtain ⟨V,U,R⟩:=ly p;simp only [VR] at C;rcases jz X W with ⟨q,cs,e',fr,B,r2,r4,r5,_,_,_⟩ | ⟨B,rfl⟩
  ·rcases C with ⟨q',g,y⟩ | ⟨g,_⟩
   ·rw [g] at B;cases B;refine ⟨_,A,.val (x:=.slice (some ⟨q.r,q.o,none⟩) H M) ?_ ?_⟩
    ·simp only [execOp,G,y,D,E,ax,iU,fa];rw [<-r4,kU F m u p (by omega) w];rfl
    ·simp only [VR];exact .inl ⟨q,_,_,g,⟨by omega,rV⟩,λ_=>by omega,rfl⟩
   ·rw [g] at B;cases B
  ·rcases C with ⟨q,g,y⟩ | ⟨g,J,y⟩
   ·rw [g] at B;cases B
   ·simp only [bH] at m2;have i:M=0:=by omega
    have k:H=0:=by omega
    subst i k;refine ⟨_,A,.val (x:=.slice J 0 0) ?_ (by unfold VR;exact .inr ⟨g,⟨rfl,rV⟩,J,rfl⟩)⟩;simp only [execOp,G,y,D,E,ax,iU,fa];rw [kU F m (n:=0) (M:=0) u p (by omega) w];rfl
 ·rename_i zz b j n _;obtain ⟨M,u,I⟩:=aw d;obtain ⟨H,p,A⟩:=aw I;obtain ⟨m0,m2,S⟩:=ly u;obtain ⟨V,U,R⟩:=ly p;simp only [VR] at C;rcases C with ⟨q,cp,off,g,⟨N,_⟩,Y,y⟩ | ⟨g,⟨N,_⟩,J,y⟩
  ·refine ⟨_,A,.val (x:=.slice (some ⟨q.r,off,none⟩) H M) ?_ ?_⟩
   ·simp only [execOp,G,y,D,E,ax,iU,fa];rw [kU F m u p N w];rfl
   ·simp only [VR];exact .inl ⟨q,_,_,g,⟨by omega,rV⟩,λQ=>Y (by omega),rfl⟩
  ·subst N;have i:M=0:=by omega
   have k:H=0:=by omega
   subst i k;refine ⟨_,A,.val (x:=.slice J 0 0) ?_ (by unfold VR;exact .inr ⟨g,⟨rfl,rV⟩,J,rfl⟩)⟩;simp only [execOp,G,y,D,E,ax,iU,fa];rw [kU F m (n:=0) (M:=0) u p (by omega) w];rfl
 ·obtain ⟨M,u,I⟩:=aw d;obtain ⟨H,p,A⟩:=aw I;obtain ⟨m0,m2,S⟩:=ly u;obtain ⟨V,U,R⟩:=ly p;simp only [VR] at C;have i:M=0:=by omega
  have k:H=0:=by omega
  subst i k;refine ⟨_,A,.val (x:=.slice none 0 0) ?_ (by simp only [VR])⟩;simp only [execOp,G,C,D,E,ax,iU,fa];rw [kU F m (n:=0) (M:=0) u p (by omega) w];rfl
 ·cases d
theorem UZ {op:BinOp} {t:TypeId} {u v:V} {r:Bool} {n:Nat} {rd:List Nat} {X Y:Value} {H:List (Nat×Blk)} {nb:Nat} (h:slN P op t u v=some r) (a:slL H u=some (n,rd)) (y:0<n) (x:WR ι H nb w) (hx:VR ι u X) (hy:VR ι v Y) (p q:Operand):
  (eqGuard op t p q X Y).run P w=.ok () w/\(binOp op t X Y).run P w=.ok (.bool r) w:=by
 unfold slN at h;split at h
 case h_2=>cases h
 simp only [VR] at hy;subst hy;have b:∀(A:Addr) (n c:Nat),X=.slice (some A) n c->P.underlying t=(P.underlying t)->∀e,P.underlying t=some (.slice e)->
   ((eqGuard .eql t p q X (.slice none 0 0)).run P w=.ok () w/\(binOp .eql t X (.slice none 0 0)).run P w=.ok (.bool false) w)/\
   ((eqGuard .neq t p q X (.slice none 0 0)).run P w=.ok () w/\(binOp .neq t X (.slice none 0 0)).run P w=.ok (.bool (!false)) w):=by
  rintro A n c rfl _ e f;exact pI p q (.inl (by simp)) (.inl (by simp)) (by simp) (by rw [eS,Op.equalIn];simp [aZ f])
 have fin:∀(A:Addr) (n c:Nat),X=.slice (some A) n c->slT P op t=some r->(eqGuard op t p q X (.slice none 0 0)).run P w=.ok () w/\(binOp op t X (.slice none 0 0)).run P w=.ok (.bool r) w:=by
  intro A n c o h;unfold slT at h;split at h
  case h_2=>cases h
  rename_i e f;obtain ⟨m1,m2⟩:=b A n c o rfl e f;split at h
  ·simp only [av] at h;subst h;exact m1
  ·simp only [av] at h;subst h;exact m2
  ·cases h
 split at h
 ·rename_i c;simp only [slL] at a;split at a
  case h_2=>cases a
  rename_i tr l s;simp only [av,bV] at a;obtain ⟨rfl,_⟩:=a;simp only [VR] at hx;rcases jz x s with ⟨E,K,D,fr,i,G,r4,_⟩ | ⟨i,rfl⟩
  ·rcases hx with ⟨k,d,g⟩ | ⟨d,_⟩
   ·exact fin _ _ _ g h
   ·rw [d] at i;cases i
  ·simp at y
 ·rename_i z c j m I;simp only [slL,av,bV] at a;obtain ⟨rfl,_⟩:=a;simp only [VR] at hx;rcases hx with ⟨k,F,C,d,g,J,B⟩ | ⟨d,⟨g,_⟩,_⟩
  ·exact fin _ _ _ B h
  ·omega
 ·cases h
theorem E7 {t:TypeId} {x:Option Operand} (b:o.op=.makeMap t x) (h:effK P (opd s.T) s.H f (.makeMap t x) c=some z):∃e,c e=some z/\gI P ι f o a w e:=by
 simp only [effK] at h;split at h
 case h_2=>cases h
 split at h
 case h_2=>cases h
 refine ⟨_,h,.mk (x:=.map (some w.heap.size)) (ob:=.map #[] 0) ?_ ⟨#[],0,rfl,rfl⟩ (by simp only [VR];exact ⟨_,dF _ _ _,rfl⟩)⟩;simp only [execOp,b,iU,ax];rfl
theorem Q4 {H:List (Nat×Blk)} {nb b:Nat} {w:World} (h:WR ι H nb w) {k:IntKind} {l:List (Int×Nat)} (f:look H b=some (.mp k l)):
  ∃q c a,ι b=some (some q)/\w.heap[q.r]?=some (.map c a)/\c.toList.map (λe=>(e.key,e.val))=l.map λp=>(Value.int k p.1,fnV p.2 #[]):=by
 obtain ⟨q,o,d,g,c,a,rfl,i⟩:=(h.blk b _ f (by simp)).real (by simp);exact ⟨q,c,a,d,g,i⟩
theorem Oz {α:Type} {k:IntKind} {n:Int} {c:Nat->Option α} {z:α}:∀(b:List MapEntry) (l:List (Int×Nat)) (i:Nat),b.map (λe=>(e.key,e.val))=l.map (λp=>(Value.int k p.1,fnV p.2 #[]))->mapK l n c=some z->
  ∃g j,c g=some z/\Instr.findNow (.int k) (.int k n) b i=some (some (j,fnV g #[]))
 | [],[],_,_,h=>by cases h
 | [],_::_,_,a,_=>by simp at a
 | _::_,[],_,a,_=>by simp at a
 | e::b,(m,g)::l,i,a,h=>by
  simp only [fV,List.cons.injEq,bV] at a;obtain ⟨⟨f,q⟩,s⟩:=a;simp only [mapK] at h;cases d:(n==m) with
  | true=>
   rw [d] at h;exact ⟨g,i,h,by simp only [Instr.findNow,f,Instr.sameNow,aO,d,q]⟩
  | false=>
   rw [d] at h;obtain ⟨r,j,t,o⟩:=Oz b l (i+1) s h;exact ⟨r,j,t,by simp only [Instr.findNow,f,Instr.sameNow,aO,d];exact o⟩
theorem Jq {t:TypeId} {m x:Operand} {ok:Bool} (C:o.op=.lookup t m x ok) (y:TR ι s.T a.tmps) (K:WR ι s.H s.nb w) (h:effK P (opd s.T) s.H f (.lookup t m x ok) c=some z):
  ∃e,c e=some z/\gI P ι f o a w e:=by
 simp only [effK] at h;split at h
 case h_2=>cases h
 rename_i b G;split at h
 case h_2=>cases h
 rename_i k n hx;split at h
 case h_2=>cases h
 rename_i kt Q A;split at h
 case h_2=>cases h
 rename_i k2 v;split at h
 case h_2=>cases h
 rename_i k1 l I;split at h
 case h_2=>cases h
 rename_i d;simp only [aA] at d;have F:=kG d.1;have E:=kG d.2;subst F E;have p:=bA y G;have u:=bA y hx;simp only [VR] at p u;obtain ⟨q,O,M⟩:=p;obtain ⟨R,L,i,r,J,B⟩:=Q4 K I;rw [O] at r;cases r;obtain ⟨g,j,D,N⟩:=Oz L.toList l 0 B h;refine ⟨_,D,.val (x:=fnV g #[]) ?_ (by simp only [VR];exact ⟨#[],rfl,by simp [VRs]⟩)⟩;simp only [execOp,C,M,u,ax,Instr.lookup,aZ A,az,MapKept.run_getObj_map J,aD,
  MapKept.run_checkKey (k:=.int k2 n) v (by simp [MapKept.IsKey]),MapKept.run_findKey v N]
 rfl
theorem Jk {t:TypeId} {m x y:Operand} (V:o.op=.insert t m x y) (I:TR ι s.T a.tmps) (hW:WR ι s.H s.nb w) (h:effK P (opd s.T) s.H f (.insert t m x y) c=some z):
  ∃e,c e=some z/\gI P ι f o a w e:=by
 simp only [effK] at h;split at h
 case h_2=>cases h
 rename_i b Y;split at h
 case h_2=>cases h
 rename_i k n g hx hy;split at h
 case h_2=>cases h
 rename_i kt et U;split at h
 case h_2=>cases h
 rename_i k2 Q;split at h
 case h_2=>cases h
 rename_i k1 l hb;split at h
 case h_2=>cases h
 rename_i B;simp only [aA] at B;obtain ⟨F,G,A⟩:=B;have X:=kG F;have W:=kG G;subst X W;have L:=bA I Y;have O:=bA I hx;have R:=bA I hy;simp only [VR] at L O R;obtain ⟨q,S,h2⟩:=L;obtain ⟨cs,h8,M⟩:=R;simp only [VRs] at M;have E:cs=#[]:=by
  apply lh;simpa using M
 subst E;obtain ⟨q',D,d,N,K,J⟩:=Q4 hW hb;rw [S] at N;cases N;have C:∀e∈D.toList,∃p∈l,e.key=.int k2 p.1:=by
  intro e v;have:(e.key,e.val)∈l.map λp=>(Value.int k2 p.1,fnV p.2 #[]):=by rw [<-J];exact ej.2 ⟨e,v,rfl⟩
  obtain ⟨p,hp,i⟩:=ej.1 this;simp only [bV] at i;exact ⟨p,hp,i.1.symm⟩
 have r:MapKept.IsKey (.int k2) (.int k2 n):=by simp [MapKept.IsKey]
 have u:Instr.findNow (.int k2) (.int k2 n) D.toList 0=some none:=by
  rcases MapKept.findNow_spec r D.toList 0 (λe v=>by obtain ⟨p,_,hp⟩:=C e v;rw [hp];simp [MapKept.IsKey]) with ⟨h,_⟩ | ⟨j,e,_,Z,v⟩
  ·exact h
  ·exfalso;obtain ⟨p,hp,i⟩:=C e (fS Z);rw [i] at v;have:=(cv.1 A) p hp;simp only [Value.int.injEq,jG] at v;simp [v] at this
 refine ⟨_,h,?_⟩;unfold gI;refine ⟨q,S,λ_=>⟨.map (D.push { key:=.int k2 n,val:=fnV g #[],born:=d }) (d+1),.skip,?_,⟨_,_,rfl,?_⟩,.skip rfl⟩⟩
 ·simp only [execOp,V,h2,O,h8,ax,Instr.mapUpdate,aZ U,az,MapKept.run_getObj_map K,MapKept.run_checkKey (k:=.int k2 n) Q r,MapKept.run_findKey Q u,MapKept.run_setObj_map _ K,aD];rfl
 ·rw [Array.toList_push,FG,FG,J];rfl
theorem J0 (k:TR ι s.T a.tmps) (C:WR ι s.H s.nb w) (Z:ι f=none) (h:effK P (opd s.T) s.H f o.op c=some z):∃e,c e=some z/\gI P ι f o a w e:=by
 cases j:o.op with
 | move x=>
  rw [j] at h;simp only [effK] at h;obtain ⟨v,p,h⟩:=aw h;exact ⟨_,h,.val (by simp only [execOp,j,aD]) (bA k p)⟩
 | assign x=>
  rw [j] at h;simp only [effK] at h;obtain ⟨v,p,h⟩:=aw h;exact ⟨_,h,.val (by simp only [execOp,j,aD]) (bA k p)⟩
 | pick q x y=>
  rw [j] at h;simp only [effK] at h;split at h
  ·rename_i t L;have p:=bA k L;simp only [VR] at p;cases t
   ·simp only [af] at h;obtain ⟨v,A,h⟩:=aw h;exact ⟨_,h,.val (x:=a.eval y) (by simp [execOp,j,p,asBool]) (bA k A)⟩
   ·simp only [ah] at h;obtain ⟨v,A,h⟩:=aw h;exact ⟨_,h,.val (x:=a.eval x) (by simp [execOp,j,p,asBool]) (bA k A)⟩
  ·cases h
 | alloc t=>rw [j] at h;exact LW j h
 | makeMap t x=>rw [j] at h;exact E7 j h
 | insert t m x y=>rw [j] at h;exact Jk j k C h
 | lookup t m x ok=>rw [j] at h;exact Jq j k C h
 | box t x=>rw [j] at h;exact SC j k Z h
 | build t ps=>rw [j] at h;exact M3 j k h
 | buildSlice t n ps=>rw [j] at h;exact y7 j k Z h
 | load t x=>rw [j] at h;exact Pe j k C h
 | makeSlice t x y=>rw [j] at h;exact A8 j k h
 | store t x y=>rw [j] at h;exact MS j k C h
 | nilCheck x=>
  rw [j] at h;simp only [effK] at h;split at h
  ·rename_i b off hx;have p:=bA k hx;have A:=p;simp only [VR] at p;obtain ⟨r,h5,B⟩:=p;exact ⟨_,h,.val (x:=a.eval x) (by simp [execOp,j,B]) A⟩
  ·rename_i zz b jj off hx;have p:=bA k hx;have A:=p;simp only [VR] at p;obtain ⟨r,h5,B⟩:=p;exact ⟨_,h,.val (x:=a.eval x) (by simp [execOp,j,B]) A⟩
  ·rename_i g l hx;have p:=bA k hx;have A:=p;simp only [VR] at p;obtain ⟨Y,B,_⟩:=p;obtain ⟨g',b',c',h7⟩:=zA g Y;exact ⟨_,h,.val (x:=a.eval x) (by simp [execOp,j,B,h7]) A⟩
  ·rename_i b off n m hx;have p:=bA k hx;have A:=p;simp only [VR] at p;obtain ⟨r,cp,_,_,_,B⟩:=p;exact ⟨_,h,.val (x:=a.eval x) (by simp [execOp,j,B]) A⟩
  ·rename_i t v hx;have p:=bA k hx;have A:=p;simp only [VR] at p;obtain ⟨y,B,_⟩:=p;exact ⟨_,h,.val (x:=a.eval x) (by simp [execOp,j,B]) A⟩
  ·cases h
 | binOp op t x y yt=>
  rw [j] at h;simp only [effK] at h;obtain ⟨u,G,h⟩:=aw h;obtain ⟨v,p,h⟩:=aw h;split at h
  ·rename_i r S;have hx:=bA k G;have hy:=bA k p;obtain ⟨I,K⟩:=Wg S hx hy w;exact ⟨_,h,.val (x:=.bool r) (by simp only [execOp,j,ax,I,K,az,aD]) (by simp [VR])⟩
  split at h
  ·rename_i r S;split at h
   case h_2=>cases h
   rename_i m rd F;obtain ⟨hm,h⟩:=dZ h;obtain ⟨I,K⟩:=UZ S F (aL hm) C (bA k G) (bA k p) x y;exact ⟨_,h,.val (x:=.bool r) (by simp only [execOp,j,ax,I,K,az,aD]) (by simp [VR])⟩
  obtain ⟨R,X,W,V,I,K⟩:=RV h (bA k G) (bA k p) x y w;exact ⟨_,W,.val (x:=X) (by simp only [execOp,j,ax,I,K,az,aD]) V⟩
 | unOp op t x=>
  rw [j] at h;simp only [effK] at h;obtain ⟨u,G,h⟩:=aw h;obtain ⟨R,X,W,V,I⟩:=VA (P:=P) h (bA k G) w;exact ⟨_,W,.val (x:=X) (by simp only [execOp,j,ax,I,az,aD]) V⟩
 | convert sr d x=>rw [j] at h;exact Fv j k C h
 | next x str=>rw [j] at h;exact P5 j k C h
 | makeInterface t x=>
  rw [j] at h;simp only [effK] at h;obtain ⟨u,G,h⟩:=aw h;have p:=bA k G;split at h
  ·cases h
  ·rename_i d O N;refine ⟨_,h,.val (x:=.iface t (a.eval x)) ?_ (by simp only [VR];exact ⟨_,rfl,p⟩)⟩;simp only [execOp,j,Instr.makeInterface,ax,aZ N,az];cases d<;>first | rfl | exact absurd rfl (O _)
  ·cases h
 | makeFunc fn first cap=>
  rw [j] at h;simp only [effK] at h;split at h
  ·rename_i g E;split at h
   case h_2=>cases h
   rename_i hb;obtain ⟨l,F,h⟩:=aw h;have J:=yL k F;have D:first=#[]:=by apply lh;simpa using E
   refine ⟨_,h,.val (x:=.func (.func g) #[] (cap.map a.eval)) ?_ (by simp only [VR];exact ⟨_,(Gl hb _).symm,by simpa using J⟩)⟩;simp only [execOp,j,Instr.makeFunc,D,IH,ax,aD,az]
  ·rename_i g _ _ E;split at h
   ·rename_i M;obtain ⟨l,F,h⟩:=aw h;have J:=yL k F;have hcap':cap=#[]:=by apply lh;simpa using M
    refine ⟨_,h,.val (x:=.func (.func g) (first.map a.eval) #[]) ?_ (by simp only [VR];exact ⟨_,(O1 g _).symm,by simpa using J⟩)⟩;simp only [execOp,j,Instr.makeFunc,hcap',IH,ax,aD,az]
   ·cases h
  ·cases h
 | slice t x lo hi mx=>
  rw [j] at h;cases mx with
  | none=>exact Ni j k C h
  | some m=>exact Jp j k C h
 | fieldAddr t x i=>rw [j] at h;exact CE j k h
 | field t x i=>rw [j] at h;exact LJ j k h
 | indexAddr t x i=>rw [j] at h;exact AH j k C h
 | index t x i=>rw [j] at h;exact LM j k h
 | range t x=>rw [j] at h;exact LL j k h
 | extract x i=>
  rw [j] at h;simp only [effK] at h;split at h
  ·rename_i l hx;obtain ⟨v,p,h⟩:=aw h;have F:=bA k hx;simp only [VR] at F;obtain ⟨Y,B,U⟩:=F;obtain ⟨y,hy,Q⟩:=U.get p;have hy':Y[i]?=some y:=by simpa using hy
   exact ⟨_,h,.val (x:=y) (by simp [execOp,j,B,Instr.extract,hy']) Q⟩
  ·cases h
 | typeAssert x xt at_ ok=>
  rw [j] at h;simp only [effK] at h;split at h
  case h_2=>cases h
  rename_i t v hx;have p:=bA k hx;simp only [VR] at p;obtain ⟨y,B,hy⟩:=p;split at h
  ·cases h
  ·rename_i d O N;split at h
   case h_2=>cases h
   rename_i L;have L:=bC L;subst L;cases ok with
   | true=>
    refine ⟨_,h,.val (x:=.tuple #[y,.bool true]) ?_ (by simp only [VR,VRs];exact ⟨_,rfl,y,[.bool true],rfl,hy,_,[],rfl,rfl,rfl⟩)⟩;simp only [execOp,j,B,Instr.typeAssert,ax,aZ N,az];cases d<;>first | simp | exact absurd rfl (O _)
   | false=>
    refine ⟨_,h,.val (x:=y) ?_ hy⟩;simp only [execOp,j,B,Instr.typeAssert,ax,aZ N,az];cases d<;>first | simp | exact absurd rfl (O _)
  ·cases h
 | call cl=>rw [j] at h;exact Qg j k C h
 | _=>rw [j] at h;simp [effK] at h
end ops
end Go.Abs
