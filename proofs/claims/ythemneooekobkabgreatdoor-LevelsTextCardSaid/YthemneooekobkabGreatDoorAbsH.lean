
/- The abstract effect of an operation is what the model's own operation does: the operations that make no memory; all of them together.
   Conditions: none; generic over the program. -/
import Derived.Test.YthemneooekobkabGreatDoorAbsG
import Derived.Laws.BytesArg
import Derived.Laws.BytesString
import Derived.Lib.ConvBytes
import Derived.Laws.MakeOwn
import Derived.Deep.AppendSrc
import Derived.MapKept
set_option linter.unusedSimpArgs false
set_option linter.unusedVariables false
namespace Go.Abs
variable {P:Program}
section ops
variable {α:Type} {ι:Inj} {s:St} {a:Act} {w:World} {f:Nat} {o:Oper} {c:Eff->Option α} {z:α}
theorem yp {t:TypeId} {a:Array Field} {fd:Field} {i:Nat} {d:TypeInfo} (b:P.underlying t=some (.struct a)) (c:a[i]?=some fd) (hi:P.info? fd.type=some d)
  (hp:0<P.cellsOf fd.type) (r off:Nat) (w:World):(Instr.fieldAt t (.pointer (some ⟨r,off,none⟩)) i).run P w=.ok (.pointer (some ⟨r,off+fd.offset,none⟩)) w:=by
 simp only [Instr.fieldAt,aw,be b,az,c,Instr.sureAddr,aD,fieldPlace,gv hi,show ¬(P.cellsOf fd.type=0) by omega,aB,nk]
theorem AM {t:TypeId} {x:Operand} {i:Nat} (u:o.op=.fieldAddr t x i) (q:TR ι s.T a.tmps) (h:effK P (opd s.T) s.H f (.fieldAddr t x i) c=some z):
  ∃e,c e=some z/\gO P ι f o a w e:=by
 simp only [effK] at h;split at h
 ·rename_i b off hx;split at h
  ·rename_i A l;split at h
   ·rename_i fd p;split at h
    ·rename_i hp;obtain ⟨y,g⟩:=cf hp;have k:=bA q hx;simp only [VR] at k;obtain ⟨r,n,m⟩:=k;have d:=yp l (by simpa using p) g (aJ hp) r.r off w;exact ⟨_,h,.val (x:=.pointer (some ⟨r.r,off+fd.offset,none⟩)) (by simp only [execOp,u,m,aw,d,az,aD]) (by simp only [VR,qt];exact ⟨r,n,rfl⟩)⟩
    ·cases h
   ·cases h
  ·cases h
 ·rename_i v b j off hx;split at h
  ·rename_i A l;split at h
   ·rename_i fd p;split at h
    ·rename_i hp;obtain ⟨y,g⟩:=cf hp;have k:=bA q hx;simp only [VR] at k;obtain ⟨r,n,m⟩:=k;have d:=yp l (by simpa using p) g (aJ hp) r.r (r.o+(j*v+off)) w;exact ⟨_,h,.val (x:=.pointer (some ⟨r.r,r.o+(j*v+off)+fd.offset,none⟩)) (by simp only [execOp,u,m,aw,d,az,aD]) (by simp only [VR,qt];exact ⟨r,n,by rw [iP,iP]⟩)⟩
    ·cases h
   ·cases h
  ·cases h
 ·cases h
theorem J8 {t:TypeId} {x:Operand} {i:Nat} (p:o.op=.field t x i) (A:TR ι s.T a.tmps) (h:effK P (opd s.T) s.H f (.field t x i) c=some z):
  ∃e,c e=some z/\gO P ι f o a w e:=by
 simp only [effK] at h;split at h
 ·rename_i l hx;have n:=bA A hx;simp only [VR] at n;obtain ⟨q,u,j⟩:=n;split at h
  ·rename_i E r;split at h
   ·rename_i fd D;have hf':E[i]?=some fd:=by simpa using D
    split at h
    ·rename_i b;split at h
     ·have B:∃d,P.underlying fd.type=some d:=by
       unfold bY at b;split at b
       ·exact ⟨_,by assumption⟩
       ·exact ⟨_,by assumption⟩
       ·cases b
      obtain ⟨d',g⟩:=B;obtain ⟨F,m⟩:=nc g;refine ⟨_,h,.val (x:=.agg (q.extract fd.offset (fd.offset+P.cellsOf fd.type))) ?_ (qw (j.extract _ _))⟩;simp only [execOp,p,u,Instr.field,aw,be r,az,hf',asAgg,aD,part,kJ g,b,aL,gv m]
     ·cases h
    ·rename_i b;split at h
     ·rename_i d' g;obtain ⟨v,C,h⟩:=av h;obtain ⟨y,hy,k⟩:=j.get C;have hy':q[fd.offset]?=some y:=by simpa using hy
      refine ⟨_,h,.val (x:=y) ?_ k⟩;simp only [execOp,p,u,Instr.field,aw,be r,az,hf',asAgg,aD,part,kJ g,b,bv,aB,hy']
     ·cases h
   ·cases h
  ·cases h
 ·cases h
theorem pg {t e:TypeId} {m:Nat} {c:TypeInfo} (a:P.underlying t=some (.array m e)) (hi:P.info? e=some c) (k:IntKind) {n:Int} (b:0<=n) (d:n<m) (r off:Nat) (w:World):
  (Instr.indexAt t (.pointer (some ⟨r,off,none⟩)) (.int k n)).run P w=.ok (.pointer (some ⟨r,off+n.toNat*P.cellsOf e,none⟩)) w:=by
 simp only [Instr.indexAt,asIntOf,aw,aD,az,be a,Instr.sureAddr,b,d,and_self,aL,gv hi,nk]
theorem l8 {t e:TypeId} {m cp:Nat} {c:TypeInfo} (a:P.underlying t=some (.slice e)) (hi:P.info? e=some c) (k:IntKind) {n:Int} (b:0<=n) (d:n<m) (r off:Nat) (w:World):
  (Instr.indexAt t (.slice (some ⟨r,off,none⟩) m cp) (.int k n)).run P w=.ok (.pointer (some ⟨r,off+n.toNat*P.cellsOf e,none⟩)) w:=by
 simp only [Instr.indexAt,asIntOf,aw,aD,az,be a,b,d,and_self,aL,gv hi,nk]
theorem Bt {t:TypeId} {x i:Operand} (G:o.op=.indexAddr t x i) (D:TR ι s.T a.tmps) (M:WR ι s.H s.nb w) (h:effK P (opd s.T) s.H f (.indexAddr t x i) c=some z):
  ∃e,c e=some z/\gO P ι f o a w e:=by
 simp only [effK] at h;split at h
 case h_2=>cases h
 rename_i k n hi;have u:=bA D hi;simp only [VR] at u;split at h
 ·rename_i m e E;split at h
  ·rename_i b off hx;have p:=bA D hx;simp only [VR] at p;obtain ⟨r,v,B⟩:=p;split at h
   ·rename_i hp;obtain ⟨I,g⟩:=cf hp;obtain ⟨j,C,h⟩:=av h;obtain ⟨g0,A,rfl⟩:=oH C;have d:=pg E g k g0 A r.r off w;exact ⟨_,h,.val (x:=.pointer (some ⟨r.r,off+n.toNat*P.cellsOf e,none⟩)) (by simp only [execOp,G,B,u,aw,d,az,aD]) (by simp only [VR,qt,yx];exact ⟨r,v,rfl⟩)⟩
   ·cases h
  ·rename_i J b K off hx;have p:=bA D hx;simp only [VR] at p;obtain ⟨r,v,B⟩:=p;split at h
   ·rename_i hp;obtain ⟨I,g⟩:=cf hp;obtain ⟨j,C,h⟩:=av h;obtain ⟨g0,A,rfl⟩:=oH C;have d:=pg E g k g0 A r.r (r.o+(K*J+off)) w;exact ⟨_,h,.val (x:=.pointer (some ⟨r.r,r.o+(K*J+off)+n.toNat*P.cellsOf e,none⟩)) (by simp only [execOp,G,B,u,aw,d,az,aD]) (by simp only [VR,qt,yx];exact ⟨r,v,by rw [iP,iP]⟩)⟩
   ·cases h
  ·cases h
 ·rename_i e E;split at h
  ·rename_i b off m cp hx;have p:=bA D hx;simp only [VR] at p;obtain ⟨r,cap,v,_,_,B⟩:=p;split at h
   ·rename_i hp;obtain ⟨I,g⟩:=cf hp;obtain ⟨j,C,h⟩:=av h;obtain ⟨g0,A,rfl⟩:=oH C;have d:=l8 (cp:=cap) E g k g0 A r.r off w;exact ⟨_,h,.val (x:=.pointer (some ⟨r.r,off+n.toNat*P.cellsOf e,none⟩)) (by simp only [execOp,G,B,u,aw,d,az,aD]) (by simp only [VR,qt,yx];exact ⟨r,v,rfl⟩)⟩
   ·cases h
  ·rename_i b hx;have p:=bA D hx;simp only [VR] at p;split at h
   case h_2=>cases h
   rename_i tr l O;split at h
   case h_2=>cases h
   rename_i hp;simp only [aA,jn] at hp;obtain ⟨L,hp⟩:=hp;obtain ⟨I,g⟩:=cf hp;obtain ⟨j,C,h⟩:=av h;obtain ⟨g0,A,rfl⟩:=oH C;rcases jE M O with ⟨q,Z,S,fr,F,R,N,X,Q,V,Y⟩ | ⟨F,rfl⟩
   ·rcases p with ⟨W,v,B⟩ | ⟨v,_⟩
    ·rw [v] at F;cases F;have g1':n<(q.n:Int):=by rw [<-N];exact A
     have d:=l8 (cp:=q.k) E g k g0 g1' q.r q.o w;exact ⟨_,h,.val (x:=.pointer (some ⟨q.r,q.o+n.toNat*P.cellsOf e,none⟩)) (by simp only [execOp,G,B,u,aw,d,az,aD]) (by simp only [VR];exact ⟨q,v,by rw [cP]⟩)⟩
    ·rw [v] at F;cases F
   ·simp at A;omega
  ·rename_i J b U m _ hx;have p:=bA D hx;simp only [VR] at p;split at h
   case h_2=>cases h
   rename_i hp;simp only [aA,jn] at hp;obtain ⟨rfl,hp⟩:=hp;obtain ⟨I,g⟩:=cf hp;obtain ⟨j,C,h⟩:=av h;obtain ⟨g0,A,rfl⟩:=oH C;rcases p with ⟨q,cp,off,v,_,y,B⟩ | ⟨_,⟨rfl,_⟩,_⟩
   ·have d:=l8 (cp:=cp) E g k g0 A q.r off w;have y:=y (by omega);exact ⟨_,h,.val (x:=.pointer (some ⟨q.r,off+n.toNat*P.cellsOf e,none⟩)) (by simp only [execOp,G,B,u,aw,d,az,aD]) (by simp only [VR,qt];exact ⟨q,v,by rw [y,gY,cP,iP]⟩)⟩
   ·omega
  ·cases h
 ·cases h
theorem jt {t e:TypeId} {m:Nat} {f:TypeInfo} (c:P.underlying t=some (.array m e)) (hi:P.info? e=some f) (k:IntKind) {n:Int} (d:0<=n) (b:n<m) (a:Array Value) (w:World):
  (Instr.index t (.agg a) (.int k n)).run P w=(part e a (n.toNat*P.cellsOf e)).run P w:=by
 simp only [Instr.index,asIntOf,aw,aD,az,be c,d,b,and_self,aL,gv hi]
theorem ra {t:TypeId} {d:TypeDesc} (b:P.underlying t=some d) (c:bY P t=false) {a:Array Value} {off:Nat} {x:Value} (hx:a[off]?=some x) (w:World):
  (part t a off).run P w=.ok x w:=by
 simp only [part,aw,kJ b,c,az,bv,aB,hx,aD]
theorem vD {t:TypeId} {d:TypeDesc} (a:P.underlying t=some d) (c:bY P t=true) (b:Array Value) (off:Nat) (w:World):
  (part t b off).run P w=.ok (.agg (b.extract off (off+P.cellsOf t))) w:=by
 obtain ⟨i,hi⟩:=nc a;simp only [part,aw,kJ a,c,az,aL,gv hi,aD]
theorem vP {t:TypeId} (d:P.underlying t=some .string) {l:aa} {n:Int} {b:UInt8} (h:sx l n=some b) (k:IntKind) (w:World):
  (Instr.index t (.string ⟨l.toArray⟩) (.int k n)).run P w=.ok (.int .u8 b.toNat) w:=by
 unfold sx at h;split at h
 ·rename_i e;have f:(ByteArray.mk l.toArray)[n.toNat]?=some b:=by
   have a:n.toNat<l.length:=by
    rcases aH n.toNat l.length with c | c
    ·exact c
    ·rw [g9 c] at h;cases h
   have hs:n.toNat<(ByteArray.mk l.toArray).size:=a;rw [getElem?_pos (ByteArray.mk l.toArray) n.toNat hs];rw [bf a] at h;simp only [au] at h ⊢;exact h
  simp only [Instr.index,asIntOf,aw,aD,az,be d,e,aL,f]
 ·cases h
theorem Nn {t:TypeId} {x i:Operand} (E:o.op=.index t x i) (G:TR ι s.T a.tmps) (h:effK P (opd s.T) s.H f (.index t x i) c=some z):
  ∃e,c e=some z/\gO P ι f o a w e:=by
 simp only [effK] at h;split at h
 case h_2=>cases h
 rename_i k n hi;have d:=bA G hi;simp only [VR] at d;split at h
 ·rename_i m e C;split at h
  ·cases h
  rename_i hp;obtain ⟨R,q⟩:=cf hp;split at h
  ·rename_i k' m' l hx;have p:=bA G hx;simp only [VR] at p;obtain ⟨S,F⟩:=p;split at h
   ·rename_i k2 g;split at h
    ·rename_i r;have r:=bP r;obtain ⟨j,B,h⟩:=av h;obtain ⟨g0,A,rfl⟩:=oH B;obtain ⟨v,p,h⟩:=av h;refine ⟨_,h,.val (x:=.int k' v) ?_ (by simp [VR])⟩;simp only [execOp,E,F,d,aw,jt C q k g0 A];rw [ra g (by simp [bY,g]) (x:=.int k' v) (by simp [r,p])];rfl
    ·cases h
   ·cases h
  ·rename_i l hx;have p:=bA G hx;simp only [VR] at p;obtain ⟨J,F,u⟩:=p;split at h
   ·rename_i O g;obtain ⟨j,B,h⟩:=av h;obtain ⟨g0,A,rfl⟩:=oH B;refine ⟨_,h,.val (x:=.agg (J.extract (n.toNat*P.cellsOf e) (n.toNat*P.cellsOf e+P.cellsOf e))) ?_ (qw (u.extract _ _))⟩;simp only [execOp,E,F,d,aw,jt C q k g0 A,vD g (by simp [bY,g]),az,aD]
   ·rename_i m2 Q g;obtain ⟨j,B,h⟩:=av h;obtain ⟨g0,A,rfl⟩:=oH B;refine ⟨_,h,.val (x:=.agg (J.extract (n.toNat*P.cellsOf e) (n.toNat*P.cellsOf e+P.cellsOf e))) ?_ (qw (u.extract _ _))⟩;simp only [execOp,E,F,d,aw,jt C q k g0 A,vD g (by simp [bY,g]),az,aD]
   ·rename_i g;split at h
    ·rename_i r;have r:=bP r;split at h
     ·rename_i N I;obtain ⟨j,B,h⟩:=av h;obtain ⟨g0,A,rfl⟩:=oH B;obtain ⟨v,p,h⟩:=av h;obtain ⟨y,hy,D⟩:=u.get (j:=n.toNat) (v:=.s v) (by rw [uj I];simp [p]);refine ⟨_,h,.val (x:=y) ?_ D⟩;simp only [execOp,E,F,d,aw,jt C q k g0 A];rw [ra g (by simp [bY,g]) (x:=y) (by simpa [r] using hy)];rfl
     ·cases h
    ·cases h
   ·rename_i d' U M L g;split at h
    ·rename_i r;have r:=bP r;obtain ⟨j,B,h⟩:=av h;obtain ⟨g0,A,rfl⟩:=oH B;obtain ⟨v,p,h⟩:=av h;obtain ⟨y,hy,D⟩:=u.get p;refine ⟨_,h,.val (x:=y) ?_ D⟩;simp only [execOp,E,F,d,aw,jt C q k g0 A];rw [ra g (by simp only [bY,g];cases d'<;>simp_all) (x:=y) (by simpa [r] using hy)];rfl
    ·cases h
   ·cases h
  ·cases h
 ·rename_i C;split at h
  ·rename_i l hx;have p:=bA G hx;simp only [VR] at p;obtain ⟨b,K,h⟩:=av h;refine ⟨_,h,.val (x:=.int .u8 b.toNat) ?_ (by simp [VR])⟩;simp only [execOp,E,p,d,aw,vP C K,az,aD]
  ·cases h
 ·cases h
theorem AQ {t:TypeId} (a:P.underlying t=some .string) {l:aa} {lo hi:Option Value} {L H:Nat} {w:World}
  (b:(Instr.sliceBounds false l.length l.length lo hi none).run P w=.ok (L,H,l.length) w):
  (Instr.sliceAt t (.string ⟨l.toArray⟩) lo hi none).run P w=.ok (.string ⟨((l.take H).drop L).toArray⟩) w:=by
 rw [run_sliceAt_string w t _ _ _ _ a];have hs:(ByteArray.mk l.toArray).size=l.length:=rfl;simp only [Instr.slice,aw,be a,az,xh,bv,aB,hs,b,aD];congr 2;apply Nw;rw [ByteArray.data_extract];apply lG;simp [List.extract,xH]
theorem Bh {t e:TypeId} {n:Nat} {d:TypeInfo} (b:P.underlying t=some (.array n e)) (hi:P.info? e=some d) {lo a:Option Value} {L H r off:Nat} {w:World}
  (c:(Instr.sliceBounds false n n lo a none).run P w=.ok (L,H,n) w):
  (Instr.sliceAt t (.pointer (some ⟨r,off,none⟩)) lo a none).run P w=.ok (.slice (some ⟨r,if n=L then off else off+L*P.cellsOf e,none⟩) (H - L) (n - L)) w:=by
 simp only [Instr.sliceAt,aw,be b,az,Instr.sureAddr,aD,c,gv hi,nk];split<;>rfl
theorem ox {t e:TypeId} {n cp:Nat} {d:TypeInfo} (b:P.underlying t=some (.slice e)) (hi:P.info? e=some d) {lo a:Option Value} {L H r off:Nat} {w:World}
  (c:(Instr.sliceBounds true n cp lo a none).run P w=.ok (L,H,cp) w):
  (Instr.sliceAt t (.slice (some ⟨r,off,none⟩) n cp) lo a none).run P w=.ok (.slice (some ⟨r,if cp=L then off else off+L*P.cellsOf e,none⟩) (H - L) (cp - L)) w:=by
 simp only [Instr.sliceAt,Instr.slice,aw,be b,az,c,gv hi,aD];split
 ·rfl
 ·simp only [fb,nk]
theorem kl (n l x y:Nat):cond (Nat.beq n l) x y=if n=l then x else y:=by
 by_cases h:n=l
 ·subst h;simp
 ·have:Nat.beq n l=false:=by
   cases a:Nat.beq n l
   ·rfl
   ·exact absurd (bP a) h
  simp [this,h]
theorem ur {t e:TypeId} {f:TypeInfo} {b:Option Addr} (c:P.underlying t=some (.slice e)) (hi:P.info? e=some f) {lo a:Option Value} {w:World}
  (d:(Instr.sliceBounds true 0 0 lo a none).run P w=.ok (0,0,0) w):
  (Instr.sliceAt t (.slice b 0 0) lo a none).run P w=.ok (.slice b 0 0) w:=by
 simp only [Instr.sliceAt,Instr.slice,aw,be c,az,d,gv hi,aD,aL]
theorem Di {T:List (Nat×Option V)} (q:TR ι T a.tmps) {lo hi:Option Operand} {l h:Option Int} (x:rr (opd T) lo=some l)
  (s:rr (opd T) hi=some h) {len:Nat} {c:Nat->Nat->Option α} (f:(hiK len len h λh=>loK h l λl=>c h l)=some z):
  ∃H L,c H L=some z/\H<=len/\L<=H/\∀n,len<=n->∀w,(Instr.sliceBounds true len n (lo.map a.eval) (hi.map a.eval) none).run P w=.ok (L,H,n) w:=by
 have o:∀{H:Nat},loK H l (c H)=some z->∃L,c H L=some z/\L<=H/\
   ∀w,(match lo.map a.eval with | some v=>Instr.sliceBound v H .sliceB | none=>pure 0).run P w=.ok L w:=by
  intro H f;rcases o9 q x with ⟨rfl,g⟩ | ⟨k,m,rfl,g⟩
  ·exact ⟨0,f,ft _,λw=>by rw [g];rfl⟩
  ·simp only [loK] at f;obtain ⟨L,j,i⟩:=av f;obtain ⟨g0,p,rfl⟩:=lX j;exact ⟨_,i,by omega,λw=>by rw [g];exact run_sliceBound w k m H .sliceB g0 p⟩
 rcases o9 q s with ⟨rfl,g⟩ | ⟨k,m,rfl,g⟩
 ·simp only [hiK] at f;obtain ⟨L,j,i,d⟩:=o f;refine ⟨len,L,j,aY _,i,λn t w=>?_⟩;have d:=d w;rw [g];simp only [Instr.sliceBounds,aw,aD,az,xh,bv,aB];cases b:lo.map a.eval with
  | none=>rw [b] at d;simp only [aD,yq,yL] at d;simp [d]
  | some v=>rw [b] at d;simp only [] at d;simp [d]
 ·simp only [hiK] at f;obtain ⟨H,j,i⟩:=av f;obtain ⟨g0,p,rfl⟩:=lX j;obtain ⟨L,r,d,e⟩:=o i;refine ⟨_,L,r,by omega,d,λn t w=>?_⟩;have e:=e w;rw [g];have u:=run_sliceBound (P:=P) w k m n .sliceAcap g0 (by omega);simp only [Instr.sliceBounds,aw,aD,az,xh,bv,aB,aL,u];cases b:lo.map a.eval with
  | none=>rw [b] at e;simp only [aD,yq,yL] at e;simp [e]
  | some v=>rw [b] at e;simp only [] at e;simp [e]
theorem KG {t:TypeId} {x:Operand} {lo hi:Option Operand} (I:o.op=.slice t x lo hi none) (G:TR ι s.T a.tmps) (hW:WR ι s.H s.nb w) (h:effK P (opd s.T) s.H f (.slice t x lo hi none) c=some z):
  ∃e,c e=some z/\gO P ι f o a w e:=by
 simp only [effK] at h;obtain ⟨v,hx,C⟩:=av h;obtain ⟨l,K,V⟩:=av C;obtain ⟨X,y,d⟩:=av V;clear h C V;have B:=bA G hx;clear hx;split at d
 ·rename_i D;cases v<;>simp only [reduceCtorEq] at d;rename_i sl;simp only [VR] at B;obtain ⟨H,L,g,_,_,_,i,_,A⟩:=yn (P:=P) G K y (isSlice:=false) d;refine ⟨_,g,.val (x:=.string ⟨((sl.take H).drop L).toArray⟩) ?_ (by simp [VR])⟩;simp only [execOp,I,B,aw,je];rw [AQ D (A w)];rfl
 ·rename_i n e D;split at d
  case h_2=>cases d
  rename_i hp;obtain ⟨ti,p⟩:=cf hp;cases v<;>simp only [reduceCtorEq] at d;rename_i b off;simp only [VR] at B;obtain ⟨r,i,u⟩:=B;obtain ⟨H,L,g,_,F,E,g4,_,A⟩:=yn (P:=P) G K y (isSlice:=false) d;have Y:H<=n:=by
   cases X with
   | none=>exact yM (F rfl)
   | some q=>exact E (by simp)
  refine ⟨_,g,.val (x:=.slice (some ⟨r.r,if n=L then off else off+L*P.cellsOf e,none⟩) (H - L) (n - L)) ?_ ?_⟩
  ·simp only [execOp,I,u,aw,je];rw [Bh D p (A w)];rfl
  ·simp only [VR];exact ⟨r,n - L,i,λm Q=>by cases Q;rfl,by omega,by rw [kl,qt,yx]⟩
 ·rename_i e D;split at d
  case h_2=>cases d
  rename_i hp;obtain ⟨ti,p⟩:=cf hp;cases v<;>try (simp only [reduceCtorEq] at d;done)
  ·rename_i b;simp only [VR] at B;simp only at d;split at d
   case h_2=>cases d
   rename_i tr m hb;split at d
   case h_2=>cases d
   rename_i J;have J:=bP J;obtain ⟨H,L,g,F,E,A⟩:=Di (P:=P) G K y d;rcases jE hW hb with ⟨q,cs,e',fr,C,V,q4,q5,_,_,_⟩ | ⟨C,rfl⟩
   ·rcases B with ⟨q',i,u⟩ | ⟨i,_⟩
    ·rw [i] at C;cases C;refine ⟨_,g,.val (x:=.slice (some ⟨q.r,if q.k=L then q.o else q.o+L*P.cellsOf e,none⟩) (H - L) (q.k - L)) ?_ ?_⟩
     ·simp only [execOp,I,u,aw,je];rw [<-q4,ox D p (A q.k (by omega) w)];rfl
     ·simp only [VR];exact .inl ⟨q,_,_,i,⟨by omega,kE⟩,λM=>by rw [ab (by omega)],rfl⟩
    ·rw [i] at C;cases C
   ·rcases B with ⟨q,i,u⟩ | ⟨i,R,u⟩
    ·rw [i] at C;cases C
    ·simp only [bz,Bq] at F E;subst F;simp only [Bq] at E;subst E;refine ⟨_,g,.val (x:=.slice R 0 0) ?_ (by unfold VR;exact .inr ⟨i,⟨rfl,kE⟩,R,rfl⟩)⟩;simp only [execOp,I,u,aw,je];rw [ur D p (A 0 (aY _) w)];rfl
  ·rename_i zz b j n _;simp only [VR] at B;simp only at d;split at d
   case h_2=>cases d
   rename_i J;have J:=bP J;obtain ⟨H,L,g,F,E,A⟩:=Di (P:=P) G K y d;rcases B with ⟨q,cp,off,i,⟨S,_⟩,O,u⟩ | ⟨i,⟨rfl,_⟩,R,u⟩
   ·refine ⟨_,g,.val (x:=.slice (some ⟨q.r,if cp=L then off else off+L*P.cellsOf e,none⟩) (H - L) (cp - L)) ?_ ?_⟩
    ·simp only [execOp,I,u,aw,je];rw [ox D p (A cp S w)];rfl
    ·simp only [VR];exact .inl ⟨q,_,_,i,⟨by omega,kE⟩,λM=>by rw [ab (by omega),O (by omega),qt,gY,J,iP],rfl⟩
   ·simp only [Bq] at F;subst F;simp only [Bq] at E;subst E;refine ⟨_,g,.val (x:=.slice R 0 0) ?_ (by unfold VR;exact .inr ⟨i,⟨rfl,kE⟩,R,rfl⟩)⟩;simp only [execOp,I,u,aw,je];rw [ur D p (A 0 (aY _) w)];rfl
  rename_i b off n cap;simp only [VR] at B;obtain ⟨r,cp,i,W,S,u⟩:=B;cases cap with
  | some m=>
   obtain rfl:=W m rfl;obtain ⟨H,L,g,_,F,E,g4,_,A⟩:=yn (P:=P) G K y (isSlice:=true) d;have Y:H<=cp:=by
    cases X with
    | none=>have:=F rfl;omega
    | some q=>exact E (by simp)
   refine ⟨_,g,.val (x:=.slice (some ⟨r.r,if cp=L then off else off+L*P.cellsOf e,none⟩) (H - L) (cp - L)) ?_ ?_⟩
   ·simp only [execOp,I,u,aw,je];rw [ox D p (A w)];rfl
   ·simp only [VR];exact ⟨r,cp - L,i,λm Q=>by cases Q;rfl,by omega,by rw [kl,qt,yx]⟩
  | none=>
   have Z:l=none:=by
    cases l with
    | none=>rfl
    | some q=>
     cases X with
     | none=>simp [hiK] at d
     | some q=>simp only [hiK] at d;obtain ⟨_,_,q4⟩:=av d;cases q4
   subst Z;have N:lo.map a.eval=none:=by
    rcases o9 G K with ⟨_,g⟩ | ⟨k,m,h0,_⟩
    ·exact g
    ·cases h0
   have key:∃H,c { val:=some (.sl b off H none) }=some z/\H<=n/\(Instr.sliceBounds true n cp (lo.map a.eval) (hi.map a.eval) none).run P w=.ok (0,H,cp) w:=by
    rcases o9 G y with ⟨rfl,g⟩ | ⟨k,m,rfl,g⟩
    ·simp only [hiK] at d;exact ⟨n,d,aY _,by rw [g,N];simp [Instr.sliceBounds]⟩
    ·simp only [hiK] at d;obtain ⟨H,h2,U⟩:=av d;obtain ⟨g0,g1,rfl⟩:=lX h2;refine ⟨_,U,by omega,?_⟩;have hb:=run_sliceBound (P:=P) w k m cp .sliceAcap g0 (by omega);rw [g,N];simp [Instr.sliceBounds,hb]
   obtain ⟨H,g,h2,U⟩:=key;refine ⟨_,g,.val (x:=.slice (some ⟨r.r,if cp=0 then off else off+0*P.cellsOf e,none⟩) (H - 0) (cp - 0)) ?_ ?_⟩
   ·simp only [execOp,I,u,aw,je];rw [ox D p U];rfl
   ·simp only [VR];exact ⟨r,cp,i,λm Q=>(by cases Q),by omega,by simp⟩
 ·cases d
theorem yz (a:List Int):a.foldl (λ(r:ByteArray) n=>r.push (UInt8.ofNat n.toNat)) ByteArray.empty=⟨(iv a).toArray⟩:=by
 rw [foldl_push_bytes];apply Nw;simp [iv]
theorem yV {w:World} {r off q m cp:Nat} {l:List Int} {e:TypeId} {fr:Nat×Nat} (h:w.heap[r]?=some (.cells (l.map (Value.int .u8)).toArray e fr)) (g:l.length=q) (f:off+m<=q):
  (Conv.bytesToString (.slice (some ⟨r,off,none⟩) m cp)).run P w=.ok (.string ⟨(iv ((l.drop off).take m)).toArray⟩) w:=by
 have a:(((l.drop off).take m).map (Value.int .u8)).length=m:=by simp;omega
 have hc:=xy (P:=P) w ⟨r,off,none⟩ (((l.drop off).take m).map (Value.int .u8)) (λj v b=>by
  have c:j<m:=by
   rcases aH j m with d | d
   ·exact d
   ·rw [g9 (by omega)] at b;cases b
  rw [nk,bw h];rw [m6,qA c,na] at b;simpa using b)
 rw [a] at hc;rw [run_bytesToString w _ m cp _ hc,yz]
theorem Bn (w:World) (e:TypeId) (s:ByteArray):
  Lib.bytesWorld w e s=World.alloc { w with drawn:=w.drawn+1 } (.cells (Lib.bytesCells w e s) e ((Lib.bytesCells w e s).size,(Lib.bytesCells w e s).size+1)):=by
 have c:=Lib.bytesWorld_at_new w e s;have f:=Lib.bytesWorld_size w e s;have d:(Lib.bytesWorld w e s).heap=w.heap.push (.cells (Lib.bytesCells w e s) e ((Lib.bytesCells w e s).size,(Lib.bytesCells w e s).size+1)):=by
  apply RZ;intro j;by_cases b:j=w.heap.size
  ·subst b;rw [c];simp
  ·by_cases a:j<w.heap.size
   ·rw [Lib.bytesWorld_at_old w e s j a,Array.getElem?_push,ab b]
   ·rw [xM (by omega),xM (by simp;omega)]
 show ({ (Lib.bytesWorld w e s) with heap:=(Lib.bytesWorld w e s).heap }:World)=_;rw [d];rfl
theorem rS:∀(l:List Int),l.flatMap (vals [.i .u8])=l.map (Value.int .u8)
 | []=>rfl
 | x::l=>by
  have:=rS l;simp only [oC,gf,vals,Lf.val] at this ⊢;rw [this];rfl
theorem sQ {w:World} {r cp:Nat} {l:List Int} {c:Array Value} {e:TypeId} {fr:Nat×Nat} {m:Nat} (h:w.heap[r]?=some (.cells c e fr)) (k:m<=c.size)
  {o:Nat} (p:(c.toList.drop o).take (l.length*([Lf.i .u8]:List Lf).length)=l.flatMap (vals [.i .u8])) {j n:Nat} (s:j+n<=l.length):
  (Conv.bytesToString (.slice (some ⟨r,o+j,none⟩) n cp)).run P w=.ok (.string ⟨(iv ((l.drop j).take n)).toArray⟩) w:=by
 have hl':(c.toList.drop o).take l.length=l.map (Value.int .u8):=by rw [<-rS];simpa using p
 have a:(((l.drop j).take n).map (Value.int .u8)).length=n:=by simp;omega
 have hc:=xy (P:=P) w ⟨r,o+j,none⟩ (((l.drop j).take n).map (Value.int .u8)) (λi v b=>by
  have d:i<n:=by
   rcases aH i n with g | g
   ·exact g
   ·rw [g9 (by omega)] at b;cases b
  rw [nk,bw h];rw [m6,qA d,na] at b;have f:=cj (λq:List Value=>q[j+i]?) hl';simp only [qA (show j+i<l.length by omega),m6,na] at f;rw [b] at f;simpa [iP] using f)
 rw [a] at hc;rw [run_bytesToString w _ n cp _ hc,yz]
theorem sS {w:World} (c:Option Addr):(Conv.bytesToString (.slice c 0 0)).run P w=.ok (.string ⟨#[]⟩) w:=by
 cases c with
 | none=>rfl
 | some a=>
  have b:=xy (P:=P) w a ([].map (Value.int .u8)) (λj v d=>by simp at d);exact run_bytesToString (P:=P) w a 0 0 [] b
theorem FV {B d:TypeId} {x:Operand} (y:o.op=.convert B d x) (hT:TR ι s.T a.tmps) (L:WR ι s.H s.nb w) (h:effK P (opd s.T) s.H f (.convert B d x) c=some z):
  ∃e,c e=some z/\gO P ι f o a w e:=by
 simp only [effK] at h;obtain ⟨v,hx,q⟩:=av h;clear h;have g:=bA hT hx;clear hx;split at q
 case h_2=>cases q
 rename_i C hs;split at q
 ·rename_i k p;cases v<;>simp only [reduceCtorEq] at q;rename_i k' n;simp only [VR] at g;refine ⟨_,q,.val (x:=.int k (k.wrap n)) ?_ (by simp [VR])⟩;simp only [execOp,y,g,aw,convert,be hs,be p,az];cases C<;>rfl
 ·rename_i p;cases v<;>simp only [reduceCtorEq] at q
  ·rename_i b;simp only [VR] at g;cases C<;>try (simp only [reduceCtorEq] at q;done)
   rename_i e;simp only at q;split at q
   case h_2=>cases q
   rename_i u;split at q
   case h_2=>cases q
   rename_i l E;refine ⟨_,q,.val (x:=.string ⟨(iv l).toArray⟩) ?_ (by simp [VR])⟩;rcases jE L E with ⟨q,cs,V,fr,i,K,Y,Z,O,S,_⟩ | ⟨i,rfl⟩
   ·rcases g with ⟨q',t,A⟩ | ⟨t,_⟩
    ·rw [t] at i;cases i;simp only [execOp,y,A,aw,run_convert_bytes_string w B d e _ _ _ hs u p];rw [<-Y];have:=sQ (P:=P) (cp:=q.k) K O S (j:=0) (n:=l.length) (by omega);simp only [bV,ma,cP] at this;rw [this];rfl
    ·rw [t] at i;cases i
   ·rcases g with ⟨q,t,A⟩ | ⟨t,Q,A⟩
    ·rw [t] at i;cases i
    ·simp only [execOp,y,A,aw,run_convert_bytes_string w B d e Q 0 0 hs u p,sS];rfl
  ·rename_i zz b j n _;simp only [VR] at g;cases C<;>try (simp only [reduceCtorEq] at q;done)
   rename_i e;simp only at q;split at q
   case h_2=>cases q
   rename_i u;split at q
   case h_2=>cases q
   rename_i l E;split at q
   case h_2=>cases q
   rename_i I;have I:=bP I;subst I;obtain ⟨hc,q⟩:=dY q;have D:=aJ hc;refine ⟨_,q,.val (x:=.string ⟨(iv ((l.drop j).take n)).toArray⟩) ?_ (by simp [VR])⟩;rcases g with ⟨W,cp,off,t,⟨G,_⟩,M,A⟩ | ⟨t,⟨rfl,_⟩,Q,A⟩
   ·rcases jE L E with ⟨q',cs,V,fr,i,K,Y,Z,O,S,_⟩ | ⟨i,rfl⟩
    ·rw [t] at i;cases i;simp only [execOp,y,A,aw,run_convert_bytes_string w B d e _ _ _ hs u p];by_cases hn:0<n
     ·rw [M hn,rz];rw [sQ (P:=P) (cp:=cp) K O S D];rfl
     ·have N:n=0:=by omega
      subst N;have R:=xy (P:=P) w ⟨W.r,off,none⟩ ([].map (Value.int .u8)) (λj v X=>by simp at X);have h0:=run_bytesToString (P:=P) w ⟨W.r,off,none⟩ 0 cp [] R;rw [h0];simp [iv];rfl
    ·rw [t] at i;cases i
   ·simp only [execOp,y,A,aw,run_convert_bytes_string w B d e Q 0 0 hs u p,sS];simp [iv]
  ·rename_i k' n;simp only [VR] at g;cases C<;>simp only [reduceCtorEq] at q;refine ⟨_,q,.val (x:=.string (Utf8.encode n)) ?_ ?_⟩
   ·simp only [execOp,y,g,aw,convert,be hs,be p,az,Conv.intToString,aD]
   ·simp [VR]
  ·rename_i l;simp only [VR] at g;cases C<;>simp only [reduceCtorEq] at q;refine ⟨_,q,.val (x:=.string ⟨l.toArray⟩) ?_ (by simp [VR])⟩;simp only [execOp,y,g,aw,convert,be hs,be p,az,aD]
  ·simp only [VR] at g;cases C<;>try (simp only [reduceCtorEq] at q;done)
   rename_i e;simp only at q;split at q
   ·rename_i u;refine ⟨_,q,.val (x:=.string .empty) ?_ (by simp only [VR];rfl)⟩;simp only [execOp,y,g,aw,run_convert_bytes_string w B d e none 0 0 hs u p];rfl
   ·cases q
  ·rename_i b off m cap;simp only [VR] at g;obtain ⟨r,cp,t,_,_,A⟩:=g;cases C<;>try (simp only [reduceCtorEq] at q;done)
   rename_i e;simp only at q;split at q
   ·rename_i u;split at q
    ·rename_i qn l E;obtain ⟨hc,q⟩:=dY q;have D:=aJ hc;obtain ⟨r',V,fr,G,M,g3,_⟩:=wj L E;rw [t] at G;cases G;refine ⟨_,q,.val (x:=.string ⟨(iv ((l.drop off).take m)).toArray⟩) ?_ (by simp [VR])⟩;simp only [execOp,y,A,aw,run_convert_bytes_string w B d e _ _ _ hs u p,yV M g3 D,az,aD]
    ·cases q
   ·cases q
 ·rename_i e p;split at q
  case h_2=>cases q
  rename_i u;cases v<;>try (simp only [reduceCtorEq] at q;done)
  rename_i l;simp only [VR] at g;cases C<;>simp only [reduceCtorEq] at q;refine ⟨_,q,.mkR (d:=w.drawn+1) (q:=(Rf.of w.heap.size (l.length) (grownCap w l.length 0 e))) (x:=.slice (some ⟨w.heap.size,0,none⟩) l.length (grownCap w l.length 0 e))
   (ob:=.cells (Lib.bytesCells w e ⟨l.toArray⟩) e ((Lib.bytesCells w e ⟨l.toArray⟩).size,(Lib.bytesCells w e ⟨l.toArray⟩).size+1)) ?_ rfl rfl ?_ ?_⟩
  ·simp only [execOp,y,g,aw,Lib.run_convert_string_bytes w B d e ⟨l.toArray⟩ hs p u,az,aD,Bn];rfl
  ·have F:l.length<=grownCap w l.length 0 e:=by simp only [grownCap,Question.cut];omega
   have U:((ByteArray.mk l.toArray).data.map λb=>Value.int .u8 b.toNat).size=l.length:=by simp
   refine ⟨_,e,_,rfl,by simp,F,?_,?_,?_⟩
   ·simp only [Lib.bytesCells,Array.size_append,U,Array.size_replicate,aE,bz];have:(ByteArray.mk l.toArray).size=l.length:=rfl;rw [this];omega
   ·simp only [Lib.bytesCells,xE,xp,aE,bz,da,rz,bV];rw [vq (by simp),jd (by simp)];rw [rS,Array.toList_map,tn];rfl
   ·refine .inr λj X J=>?_;exact absurd J.1 (by simp only;omega)
  ·simp only [VR];exact .inl ⟨_,dD _ _ _,rfl⟩
 ·cases q
theorem PQ {U:Call} (Q:o.op=.call U) (hT:TR ι s.T a.tmps) (hW:WR ι s.H s.nb w) (h:effK P (opd s.T) s.H f (.call U) c=some z):
  ∃e,c e=some z/\gO P ι f o a w e:=by
 obtain ⟨R,args,D⟩:=U;simp only [effK] at h;split at h
 case h_2=>cases h
 rename_i b;obtain ⟨l,hl,q⟩:=av h;clear h;have g:=yH hT hl;have K:(args.map a.eval).toList=args.toList.map a.eval:=by simp
 rw [<-K] at g;generalize hA:args.map a.eval=A at g;have v:∃S,∀w,((do let d <-resolve a.eval ⟨.builtin b,args,D⟩ o.type;invoke d.target d.args):Sem Next).run P w=(builtin b D o.type S A).run P w:=by
  refine ⟨args.map fun | .const _=>true | _=>false,λw=>?_⟩;simp only [resolve,hA,aw,aD,az,invoke];rfl
 obtain ⟨S,v⟩:=v;have one:∀{X:Value},A.toList=[X]->A[0]?=some X:=by
  intro X p;have:A=#[X]:=by apply lG;simpa using p
  simp [this]
 have E:∀{t:TypeId} {r:List TypeId},D.toList=t::r->D[0]?=some t:=by
  intro t r u;rw [<-qK,u];rfl
 have j:∀{n:Int} {rd:List Nat},b=.len->(∀w,(Builtin.len_ D o.type A).run P w=.ok (goInt n) w)->c { val:=some (.i .i64 n),rd:=rd }=some z->∃e,c e=some z/\gO P ι f o a w e:=by
  intro n rd O F hc;subst O;refine ⟨_,hc,.val (x:=.int .i64 n) ?_ (by simp [VR])⟩;simp only [execOp,Q];rw [v w];simp only [builtin,aw,F,az,aD,goInt]
 have C:∀{n:Int} {rd:List Nat},b=.cap->(∀w,(Builtin.cap_ D o.type A).run P w=.ok (goInt n) w)->c { val:=some (.i .i64 n),rd:=rd }=some z->∃e,c e=some z/\gO P ι f o a w e:=by
  intro n rd O F hc;subst O;refine ⟨_,hc,.val (x:=.int .i64 n) ?_ (by simp [VR])⟩;simp only [execOp,Q];rw [v w];simp only [builtin,aw,F,az,aD,goInt]
 split at q
 ·split at q
  ·rename_i sl;simp only [VRs,VR] at g;obtain ⟨_,_,p,rfl,rfl⟩:=g;split at q
   ·rename_i t r u;split at q
    ·rename_i B;refine j rfl (λw=>?_) q;simp only [Builtin.len_,E u,one p,aw,be B,az,aD];rfl
    ·cases q
   ·cases q
  ·rename_i N W n cp;simp only [VRs,VR] at g;obtain ⟨_,_,p,⟨r,cap,_,_,_,rfl⟩,rfl⟩:=g;split at q
   ·rename_i t r u;split at q
    ·rename_i B;refine j rfl (λw=>?_) q;simp only [Builtin.len_,E u,one p,aw,be B,az,aD]
    ·cases q
   ·cases q
  ·simp only [VRs,VR] at g;obtain ⟨_,_,p,rfl,rfl⟩:=g;split at q
   ·rename_i t r u;split at q
    ·rename_i B;refine j rfl (λw=>?_) q;simp only [Builtin.len_,E u,one p,aw,be B,az,aD];rfl
    ·cases q
   ·cases q
  ·rename_i N;simp only [VRs,VR] at g;obtain ⟨_,_,p,M,rfl⟩:=g;split at q
   ·rename_i t r u;split at q
    ·rename_i B;split at q
     ·rename_i tr l O;refine j (rd:=[N]) rfl (λw=>?_) q;rcases jE hW O with ⟨q,S,e',fr,J,q2,q4,q5,q6,q7,_⟩ | ⟨J,rfl⟩
      ·rcases M with ⟨q',G,rfl⟩ | ⟨G,_⟩
       ·rw [G] at J;cases J;simp only [Builtin.len_,E u,one p,aw,be B,az,aD,q4]
       ·rw [G] at J;cases J
      ·rcases M with ⟨q,G,_⟩ | ⟨G,V,rfl⟩
       ·rw [G] at J;cases J
       ·simp only [Builtin.len_,E u,one p,aw,be B,az,aD];rfl
     ·cases q
    ·cases q
   ·cases q
  ·rename_i Y N Z n _;simp only [VRs,VR] at g;obtain ⟨_,_,p,M,rfl⟩:=g;split at q
   ·rename_i t r u;split at q
    ·rename_i B;refine j rfl (λw=>?_) q;rcases M with ⟨q,cp,off,G,_,_,rfl⟩ | ⟨_,⟨rfl,_⟩,V,rfl⟩
     ·simp only [Builtin.len_,E u,one p,aw,be B,az,aD]
     ·simp only [Builtin.len_,E u,one p,aw,be B,az,aD]
    ·cases q
   ·cases q
  ·simp only [VRs] at g;obtain ⟨X,_,p,_,rfl⟩:=g;split at q
   ·rename_i t r u;split at q
    ·rename_i B;refine j rfl (λw=>?_) q;simp only [Builtin.len_,E u,one p,aw,be B,az,aD]
    ·cases q
   ·cases q
  ·cases q
 ·split at q
  ·rename_i Y N Z nn m;simp only [VRs,VR] at g;obtain ⟨_,_,p,M,rfl⟩:=g;split at q
   ·rename_i t r u;split at q
    ·rename_i B;refine C rfl (λw=>?_) q;rcases M with ⟨q,cp,off,G,⟨_,hc⟩,_,rfl⟩ | ⟨_,⟨_,hc⟩,V,rfl⟩
     ·have:=hc m rfl;subst this;simp only [Builtin.cap_,E u,one p,aw,be B,az,aD]
     ·have:=hc m rfl;subst this;simp only [Builtin.cap_,E u,one p,aw,be B,az,aD]
    ·cases q
   ·cases q
  ·rename_i N W nn m;simp only [VRs,VR] at g;obtain ⟨_,_,p,⟨qq,cp,G,hc,_,rfl⟩,rfl⟩:=g;split at q
   ·rename_i t r u;split at q
    ·rename_i B;refine C rfl (λw=>?_) q;have:=hc m rfl;subst this;simp only [Builtin.cap_,E u,one p,aw,be B,az,aD]
    ·cases q
   ·cases q
  ·simp only [VRs,VR] at g;obtain ⟨_,_,p,rfl,rfl⟩:=g;split at q
   ·rename_i t r u;split at q
    ·rename_i B;refine C rfl (λw=>?_) q;simp only [Builtin.cap_,E u,one p,aw,be B,az,aD];rfl
    ·cases q
   ·cases q
  ·cases q
 ·split at q
  ·rename_i k x k' y;split at q
   ·rename_i I;have I:=li I;subst I;simp only [VRs,VR] at g;obtain ⟨_,_,p,rfl,_,_,rfl,rfl,rfl⟩:=g;refine ⟨_,q,.val (x:=.int k (cond (decide (y<x)) y x)) ?_ (by simp [VR])⟩;simp only [execOp,Q];rw [v w];simp only [builtin,aw,Builtin.min_,p,List.foldlM,Builtin.min2,aD,az];by_cases L:y<x<;>simp [L]
   ·cases q
  ·cases q
 ·split at q
  ·rename_i k x k' y;split at q
   ·rename_i I;have I:=li I;subst I;simp only [VRs,VR] at g;obtain ⟨_,_,p,rfl,_,_,rfl,rfl,rfl⟩:=g;refine ⟨_,q,.val (x:=.int k (cond (decide (y>x)) y x)) ?_ (by simp [VR])⟩;simp only [execOp,Q];rw [v w];simp only [builtin,aw,Builtin.max_,p,List.foldlM,Builtin.max2,aD,az];by_cases L:y>x<;>simp [L]
   ·cases q
  ·cases q
 ·cases q
theorem Vv {op:UnOp} {x:V} {X:Value} {c:V->Option α} (h:unK op x c=some z) (hx:VR ι x X) (w:World):
  ∃v R,c v=some z/\VR ι v R/\(Op.unary op X).run P w=.ok R w:=by
 unfold unK at h;split at h
 ·simp only [VR] at hx;subst hx;exact ⟨_,_,h,rfl,rfl⟩
 ·simp only [VR] at hx;subst hx;exact ⟨_,_,h,rfl,rfl⟩
 ·cases h
theorem P2 {x:Operand} {i:Bool} (q:o.op=.next x i) (B:TR ι s.T a.tmps) (A:WR ι s.H s.nb w) (h:effK P (opd s.T) s.H f (.next x i) c=some z):
  ∃e,c e=some z/\gO P ι f o a w e:=by
 simp only [effK] at h;split at h
 case h_2=>cases h
 rename_i b hx;have n:=bA B hx;simp only [VR] at n;obtain ⟨r,v,t⟩:=n;split at h
 case h_2=>cases h
 rename_i l pos D;obtain ⟨F,ob,y,p,m⟩:=(A.blk b _ D (by simp)).real (by simp);rw [v] at y;cases y;simp only [BR] at m;subst m;have k:(ByteArray.mk l.toArray).size=l.length:=rfl;have d:(getObj r.r).run P w=.ok (.stringIter ⟨l.toArray⟩ pos) w:=by simp [getObj,Sem.run,p]
 cases hc:Nat.blt pos l.length with
 | false=>
  rw [hc] at h;have E:¬pos<l.length:=λg=>by rw [show Nat.blt pos l.length=true from cT g] at hc;cases hc
  refine ⟨_,h,.val (x:=.tuple #[.bool false]) ?_ (by simp [VR,VRs])⟩;simp only [execOp,q,t,Instr.next,aw,d,az,k,E,aB,aD]
 | true=>
  rw [hc] at h;have g:pos<l.length:=aJ hc;refine ⟨_,h,?_⟩;unfold gO;have j:∀ob,(Go.setObj r.r ob).run P w=.ok () (setObj w r.r ob):=by
   intro ob;simp [Go.setObj,Sem.run,p,setObj]
  refine ⟨r,v,λ_=>⟨.stringIter ⟨l.toArray⟩ (pos+(dec l pos).2),.value (.tuple #[.bool true,.int .i64 pos,.int .i32 (dec l pos).1]),?_,rfl,.value _ λu C=>by cases C;simp [VR,VRs]⟩⟩;simp only [execOp,q,t,Instr.next,aw,d,az,k,g,aL,j,aD,dec,goInt]
theorem Gy {t:List Lf} (x:den t):∀n,(List.replicate n x).flatMap (vals t)=(List.replicate n (vals t x)).flatten
 | 0=>rfl
 | n+1=>by simp [tz,oC,Gy x n]
theorem N9 {l:List Value}:∀n:Nat,(List.replicate n l).flatten.length=n*l.length
 | 0=>by simp
 | n+1=>by rw [tz,List.flatten_cons,bg,N9 n,gY];omega
theorem J9 {l:List Value}:∀(n j:Nat),j<n*l.length->(List.replicate n l).flatten[j]?=l[j%l.length]?
 | 0,j,h=>by simp at h
 | n+1,j,h=>by
  simp only [tz,List.flatten_cons];by_cases a:j<l.length
  ·rw [od a,rP a]
  ·rw [qG (by omega),J9 n _ (by rw [gY] at h;omega),<-Nat.mod_eq_sub_mod (by omega)]
theorem Au {t:TypeId} {x y:Operand} (U:o.op=.makeSlice t x y) (L:TR ι s.T a.tmps) (h:effK P (opd s.T) s.H f (.makeSlice t x y) c=some z):
  ∃e,c e=some z/\gO P ι f o a w e:=by
 simp only [effK] at h;obtain ⟨u,D,K⟩:=av h;obtain ⟨v,E,b⟩:=av K;clear h K;have D:=bA L D;have E:=bA L E;split at b
 case h_2=>cases b
 rename_i e V;split at b
 case h_2=>cases b
 rename_i k1 n k2 m _ _;simp only [VR] at D E;obtain ⟨zv,G,b⟩:=av b;split at b
 case h_2=>cases b
 rename_i tr p _ l;split at b
 case h_2=>cases b
 rename_i Q;simp only [aA,jn] at Q;obtain ⟨O,e2,M,J⟩:=Q;have M:=aJ M;have J:=aJ J;obtain ⟨z',I,b⟩:=av b;obtain ⟨hc,b⟩:=dY b;simp only [aA,cn] at hc;obtain ⟨W,Y,c2⟩:=hc;obtain ⟨zc,i,N,Z,S,_⟩:=wi ι G;rw [l] at N;cases N;have g:=nJ S;rw [vZ I] at g;have g:=(nZ ι tr z' _).1 g;have C:p.size=P.cellsOf e:=by unfold Program.cellsOf;rw [l];rfl
 have X:m=(m.toNat:Int):=by omega
 have A:=run_make (P:=P) w t e p zc V l Z k1 k2 n m W Y (by
  rw [X,<-Hu];have:p.bytes*m.toNat<=1048576*67108864:=FR J (by omega);omega) (by omega)
 refine ⟨_,b,.mkR (d:=w.drawn) (q:=(Rf.of w.heap.size (n.toNat) (m.toNat))) (x:=.slice (some ⟨w.heap.size,0,none⟩) n.toNat m.toNat) (ob:=.cells (madeCells zc.cells (m.toNat*p.size)) e) ?_ rfl rfl ?_ ?_⟩
 ·simp only [execOp,U,D,E,aw,A,az,aD]
 ·have F:(madeCells zc.cells (m.toNat*p.size)).size=m.toNat*p.size:=size_madeCells _ _;refine ⟨_,e,_,rfl,by simp,by simp only;omega,by rw [F,C,O];simp,?_,.inr (tg _)⟩;simp only [bV];rw [Gy,List.length_replicate,<-g];apply DZ;intro j;have k:zc.cells.toList.length=tr.length:=by rw [g,kh]
  have B:zc.cells.size=tr.length:=by simpa using k
  have hle:n.toNat*tr.length<=m.toNat*tr.length:=oS _ (by omega);by_cases R:j<n.toNat*tr.length
  ·rw [qA R,J9 n.toNat j (by rw [k];exact R),k];have r:j%tr.length<zc.cells.size:=by rw [B];exact A7 _ (by omega)
   simp only [madeCells,C,<-O,B];rw [qK,Array.getElem?_map,Array.getElem?_range];simp [show j<m.toNat*tr.length by omega,r]
  ·rw [g9 (by rw [dG];omega),g9 (by rw [N9,k];omega)]
 ·simp only [VR];exact .inl ⟨_,dD _ _ _,rfl⟩
theorem Vo {op:BinOp} {t:TypeId} {x y:Operand} {u v:V} {r:Bool} {X Y:Value} (h:niK P op t x y u v=some r) (hx:VR ι u X) (hy:VR ι v Y) (w:World):
  (eqGuard op t x y X Y).run P w=.ok () w/\(binOp op t X Y).run P w=.ok (.bool r) w:=by
 unfold niK at h;split at h
 case h_2=>cases h
 simp only [VR] at hx hy;subst hx hy;split at h
 case h_2=>cases h
 rename_i hc;split at h
 case h_2=>cases h
 rename_i f e;have b:∀o:BinOp,o=.eql\/o=.neq->(eqGuard o t x y .nilIface .nilIface).run P w=.ok () w:=by
  intro o d;have a:(∃v,x=.const v)\/∃v,y=.const v:=by
   rw [iV] at hc;refine hc.imp (λh=>?_) (λh=>?_)
   ·cases x<;>simp_all [Iu]
   ·cases y<;>simp_all [Iu]
  rcases a with ⟨v,rfl⟩ | ⟨v,rfl⟩<;>rcases d with rfl | rfl<;>simp [eqGuard]
 have c:(Op.equal t .nilIface .nilIface).run P w=.ok true w:=by rw [eV,Op.equalIn];simp [be e]
 split at h
 ·simp only [au] at h;subst h;exact ⟨b _ (.inl rfl),by simp [binOp,c]⟩
 ·simp only [au] at h;subst h;exact ⟨b _ (.inr rfl),by simp [binOp,c]⟩
 ·cases h
theorem lh {t e:TypeId} {j:TypeInfo} (f:P.underlying t=some (.slice e)) (hi:P.info? e=some j) {n cp:Nat} {a:Option Addr} {k k':IntKind} {h m:Int} {H M:Nat} (d:bx n m=some M) (g:bx M h=some H) (p:n<=cp) (w:World):
  (Instr.sliceAt t (.slice a n cp) none (some (.int k h)) (some (.int k' m))).run P w=.ok (.slice a H M) w:=by
 obtain ⟨m0,m1,rfl⟩:=lX d;obtain ⟨i,b,rfl⟩:=lX g;have c:=run_sliceBound (P:=P) w k' m cp .slice3Acap m0 (by omega);have l:=run_sliceBound (P:=P) w k h m.toNat .slice3B i b;simp only [Instr.sliceAt,Instr.slice,aw,be f,az,Instr.sliceBounds,aL,c,l,aD,gv hi,oM,Cd];split
 ·rfl
 ·cases a with
  | none=>rfl
  | some q=>obtain ⟨r,o,x⟩:=q;simp [Addr.add]
theorem Jn {t:TypeId} {x mx:Operand} {lo hi:Option Operand} (G:o.op=.slice t x lo hi (some mx)) (K:TR ι s.T a.tmps) (Y:WR ι s.H s.nb w) (h:effK P (opd s.T) s.H f (.slice t x lo hi (some mx)) c=some z):
  ∃e,c e=some z/\gO P ι f o a w e:=by
 simp only [effK,va] at h;split at h
 case h_2=>cases h
 rename_i hh;obtain ⟨v,hx,d⟩:=av h;clear h;have B:=bA K hx;clear hx;split at d
 case h_2=>cases d
 rename_i k1 X k2 m1 O N;have E:=bA K O;have D:=bA K N;simp only [VR] at E D;split at d
 case h_2=>cases d
 rename_i e I;split at d
 case h_2=>cases d
 rename_i hp;obtain ⟨ti,i⟩:=cf hp;split at d
 ·rename_i b;split at d
  case h_2=>cases d
  rename_i tr l Z;split at d
  case h_2=>cases d
  obtain ⟨M,u,F⟩:=av d;obtain ⟨H,p,A⟩:=av F;obtain ⟨m0,m2,S⟩:=lX u;obtain ⟨U,V,Q⟩:=lX p;simp only [VR] at B;rcases jE Y Z with ⟨q,cs,e',fr,C,r2,r4,r5,_,_,_⟩ | ⟨C,rfl⟩
  ·rcases B with ⟨q',g,y⟩ | ⟨g,_⟩
   ·rw [g] at C;cases C;refine ⟨_,A,.val (x:=.slice (some ⟨q.r,q.o,none⟩) H M) ?_ ?_⟩
    ·simp only [execOp,G,y,E,D,aw,je,fb];rw [<-r4,lh I i u p (by omega) w];rfl
    ·simp only [VR];exact .inl ⟨q,_,_,g,⟨by omega,rV⟩,λ_=>by omega,rfl⟩
   ·rw [g] at C;cases C
  ·rcases B with ⟨q,g,y⟩ | ⟨g,J,y⟩
   ·rw [g] at C;cases C
   ·simp only [bz] at m2;have k:M=0:=by omega
    have m:H=0:=by omega
    subst k m;refine ⟨_,A,.val (x:=.slice J 0 0) ?_ (by unfold VR;exact .inr ⟨g,⟨rfl,rV⟩,J,rfl⟩)⟩;simp only [execOp,G,y,E,D,aw,je,fb];rw [lh I i (n:=0) (M:=0) u p (by omega) w];rfl
 ·rename_i zz b j n _;obtain ⟨M,u,F⟩:=av d;obtain ⟨H,p,A⟩:=av F;obtain ⟨m0,m2,S⟩:=lX u;obtain ⟨U,V,Q⟩:=lX p;simp only [VR] at B;rcases B with ⟨q,cp,off,g,⟨L,_⟩,W,y⟩ | ⟨g,⟨L,_⟩,J,y⟩
  ·refine ⟨_,A,.val (x:=.slice (some ⟨q.r,off,none⟩) H M) ?_ ?_⟩
   ·simp only [execOp,G,y,E,D,aw,je,fb];rw [lh I i u p L w];rfl
   ·simp only [VR];exact .inl ⟨q,_,_,g,⟨by omega,rV⟩,λR=>W (by omega),rfl⟩
  ·subst L;have k:M=0:=by omega
   have m:H=0:=by omega
   subst k m;refine ⟨_,A,.val (x:=.slice J 0 0) ?_ (by unfold VR;exact .inr ⟨g,⟨rfl,rV⟩,J,rfl⟩)⟩;simp only [execOp,G,y,E,D,aw,je,fb];rw [lh I i (n:=0) (M:=0) u p (by omega) w];rfl
 ·obtain ⟨M,u,F⟩:=av d;obtain ⟨H,p,A⟩:=av F;obtain ⟨m0,m2,S⟩:=lX u;obtain ⟨U,V,Q⟩:=lX p;simp only [VR] at B;have k:M=0:=by omega
  have m:H=0:=by omega
  subst k m;refine ⟨_,A,.val (x:=.slice none 0 0) ?_ (by simp only [VR])⟩;simp only [execOp,G,B,E,D,aw,je,fb];rw [lh I i (n:=0) (M:=0) u p (by omega) w];rfl
 ·cases d
theorem Vr {op:BinOp} {t:TypeId} {u v:V} {r:Bool} {n:Nat} {rd:List Nat} {X Y:Value} {H:List (Nat×Blk)} {nb:Nat} (h:slN P op t u v=some r) (a:slL H u=some (n,rd)) (B:0<n) (s:WR ι H nb w) (hx:VR ι u X) (hy:VR ι v Y) (p q:Operand):
  (eqGuard op t p q X Y).run P w=.ok () w/\(binOp op t X Y).run P w=.ok (.bool r) w:=by
 unfold slN at h;split at h
 case h_2=>cases h
 simp only [VR] at hy;subst hy;have b:∀(A:Addr) (n c:Nat),X=.slice (some A) n c->P.underlying t=(P.underlying t)->∀e,P.underlying t=some (.slice e)->
   ((eqGuard .eql t p q X (.slice none 0 0)).run P w=.ok () w/\(binOp .eql t X (.slice none 0 0)).run P w=.ok (.bool false) w)/\
   ((eqGuard .neq t p q X (.slice none 0 0)).run P w=.ok () w/\(binOp .neq t X (.slice none 0 0)).run P w=.ok (.bool (!false)) w):=by
  rintro A n c rfl _ e f;exact pa p q (.inl (by simp)) (.inl (by simp)) (by simp) (by rw [eV,Op.equalIn];simp [be f])
 have fin:∀(A:Addr) (n c:Nat),X=.slice (some A) n c->slT P op t=some r->(eqGuard op t p q X (.slice none 0 0)).run P w=.ok () w/\(binOp op t X (.slice none 0 0)).run P w=.ok (.bool r) w:=by
  intro A n c y h;unfold slT at h;split at h
  case h_2=>cases h
  rename_i e f;obtain ⟨m1,m2⟩:=b A n c y rfl e f;split at h
  ·simp only [au] at h;subst h;exact m1
  ·simp only [au] at h;subst h;exact m2
  ·cases h
 split at h
 ·rename_i c;simp only [slL] at a;split at a
  case h_2=>cases a
  rename_i tr l x;simp only [au,ba] at a;obtain ⟨rfl,_⟩:=a;simp only [VR] at hx;rcases jE s x with ⟨I,J,D,fr,i,K,r4,_⟩ | ⟨i,rfl⟩
  ·rcases hx with ⟨o,d,g⟩ | ⟨d,_⟩
   ·exact fin _ _ _ g h
   ·rw [d] at i;cases i
  ·simp at B
 ·rename_i z c j m G;simp only [slL,au,ba] at a;obtain ⟨rfl,_⟩:=a;simp only [VR] at hx;rcases hx with ⟨o,F,E,d,g,C,k⟩ | ⟨d,⟨g,_⟩,_⟩
  ·exact fin _ _ _ k h
  ·omega
 ·cases h
theorem FU {t:TypeId} {x:Option Operand} (b:o.op=.makeMap t x) (h:effK P (opd s.T) s.H f (.makeMap t x) c=some z):∃e,c e=some z/\gO P ι f o a w e:=by
 simp only [effK] at h;split at h
 case h_2=>cases h
 split at h
 case h_2=>cases h
 refine ⟨_,h,.mk (x:=.map (some w.heap.size)) (ob:=.map #[] 0) ?_ ⟨#[],0,rfl,rfl⟩ (by simp only [VR];exact ⟨_,dD _ _ _,rfl⟩)⟩;simp only [execOp,b,je,aw];rfl
theorem QO {H:List (Nat×Blk)} {nb b:Nat} {w:World} (d:WR ι H nb w) {k:IntKind} {l:List (Int×Nat)} (i:look H b=some (.mp k l)):
  ∃q c a,ι b=some (some q)/\w.heap[q.r]?=some (.map c a)/\c.toList.map (λe=>(e.key,e.val))=l.map λp=>(Value.int k p.1,fnV p.2 #[]):=by
 obtain ⟨q,o,g,h,c,a,rfl,f⟩:=(d.blk b _ i (by simp)).real (by simp);exact ⟨q,c,a,g,h,f⟩
theorem Ks {α:Type} {k:IntKind} {n:Int} {c:Nat->Option α} {z:α}:∀(b:List MapEntry) (l:List (Int×Nat)) (i:Nat),b.map (λe=>(e.key,e.val))=l.map (λp=>(Value.int k p.1,fnV p.2 #[]))->mapK l n c=some z->
  ∃g j,c g=some z/\Instr.findNow (.int k) (.int k n) b i=some (some (j,fnV g #[]))
 | [],[],_,_,h=>by cases h
 | [],_::_,_,a,_=>by simp at a
 | _::_,[],_,a,_=>by simp at a
 | e::b,(m,g)::l,i,a,h=>by
  simp only [gf,List.cons.injEq,ba] at a;obtain ⟨⟨f,r⟩,o⟩:=a;simp only [mapK] at h;cases d:(n==m) with
  | true=>
   rw [d] at h;exact ⟨g,i,h,by simp only [Instr.findNow,f,Instr.sameNow,aL,d,r]⟩
  | false=>
   rw [d] at h;obtain ⟨q,j,s,t⟩:=Ks b l (i+1) o h;exact ⟨q,j,s,by simp only [Instr.findNow,f,Instr.sameNow,aL,d];exact t⟩
theorem II {t:TypeId} {m x:Operand} {ok:Bool} (D:o.op=.lookup t m x ok) (u:TR ι s.T a.tmps) (J:WR ι s.H s.nb w) (h:effK P (opd s.T) s.H f (.lookup t m x ok) c=some z):
  ∃e,c e=some z/\gO P ι f o a w e:=by
 simp only [effK] at h;split at h
 case h_2=>cases h
 rename_i b K;split at h
 case h_2=>cases h
 rename_i k n hx;split at h
 case h_2=>cases h
 rename_i kt R F;split at h
 case h_2=>cases h
 rename_i k2 r;split at h
 case h_2=>cases h
 rename_i k1 l L;split at h
 case h_2=>cases h
 rename_i d;simp only [aA] at d;have C:=li d.1;have I:=li d.2;subst C I;have v:=bA u K;have y:=bA u hx;simp only [VR] at v y;obtain ⟨q,A,N⟩:=v;obtain ⟨Q,M,i,p,E,O⟩:=QO J L;rw [A] at p;cases p;obtain ⟨g,j,G,B⟩:=Ks M.toList l 0 O h;refine ⟨_,G,.val (x:=fnV g #[]) ?_ (by simp only [VR];exact ⟨#[],rfl,by simp [VRs]⟩)⟩;simp only [execOp,D,N,y,aw,Instr.lookup,be F,az,MapKept.run_getObj_map E,aD,
  MapKept.run_checkKey (k:=.int k2 n) r (by simp [MapKept.IsKey]),MapKept.run_findKey r B]
 rfl
theorem I9 {t:TypeId} {m x y:Operand} (W:o.op=.insert t m x y) (F:TR ι s.T a.tmps) (Z:WR ι s.H s.nb w) (h:effK P (opd s.T) s.H f (.insert t m x y) c=some z):
  ∃e,c e=some z/\gO P ι f o a w e:=by
 simp only [effK] at h;split at h
 case h_2=>cases h
 rename_i b hm;split at h
 case h_2=>cases h
 rename_i k n g hx hy;split at h
 case h_2=>cases h
 rename_i kt et X;split at h
 case h_2=>cases h
 rename_i k2 L;split at h
 case h_2=>cases h
 rename_i k1 l hb;split at h
 case h_2=>cases h
 rename_i A;simp only [aA] at A;obtain ⟨G,I,C⟩:=A;have V:=li G;have Y:=li I;subst V Y;have O:=bA F hm;have R:=bA F hx;have J:=bA F hy;simp only [VR] at O R J;obtain ⟨q,M,h2⟩:=O;obtain ⟨cs,U,Q⟩:=J;simp only [VRs] at Q;have E:cs=#[]:=by
  apply lG;simpa using Q
 subst E;obtain ⟨q',D,d,K,N,S⟩:=QO Z hb;rw [M] at K;cases K;have B:∀e∈D.toList,∃p∈l,e.key=.int k2 p.1:=by
  intro e u;have:(e.key,e.val)∈l.map λp=>(Value.int k2 p.1,fnV p.2 #[]):=by rw [<-S];exact eY.2 ⟨e,u,rfl⟩
  obtain ⟨p,hp,i⟩:=eY.1 this;simp only [ba] at i;exact ⟨p,hp,i.1.symm⟩
 have r:MapKept.IsKey (.int k2) (.int k2 n):=by simp [MapKept.IsKey]
 have v:Instr.findNow (.int k2) (.int k2 n) D.toList 0=some none:=by
  rcases MapKept.findNow_spec r D.toList 0 (λe u=>by obtain ⟨p,_,hp⟩:=B e u;rw [hp];simp [MapKept.IsKey]) with ⟨h,_⟩ | ⟨j,e,_,hj,u⟩
  ·exact h
  ·exfalso;obtain ⟨p,hp,i⟩:=B e (gM hj);rw [i] at u;have:=(cK.1 C) p hp;simp only [Value.int.injEq,jN] at u;simp [u] at this
 refine ⟨_,h,?_⟩;unfold gO;refine ⟨q,M,λ_=>⟨.map (D.push { key:=.int k2 n,val:=fnV g #[],born:=d }) (d+1),.skip,?_,⟨_,_,rfl,?_⟩,.skip rfl⟩⟩
 ·simp only [execOp,W,h2,R,U,aw,Instr.mapUpdate,be X,az,MapKept.run_getObj_map N,MapKept.run_checkKey (k:=.int k2 n) L r,MapKept.run_findKey L v,MapKept.run_setObj_map _ N,aD];rfl
 ·rw [Array.toList_push,Ge,Ge,S];rfl
theorem JJ (k:TR ι s.T a.tmps) (C:WR ι s.H s.nb w) (Z:ι f=none) (h:effK P (opd s.T) s.H f o.op c=some z):∃e,c e=some z/\gO P ι f o a w e:=by
 cases j:o.op with
 | move x=>
  rw [j] at h;simp only [effK] at h;obtain ⟨v,p,h⟩:=av h;exact ⟨_,h,.val (by simp only [execOp,j,aD]) (bA k p)⟩
 | assign x=>
  rw [j] at h;simp only [effK] at h;obtain ⟨v,p,h⟩:=av h;exact ⟨_,h,.val (by simp only [execOp,j,aD]) (bA k p)⟩
 | pick q x y=>
  rw [j] at h;simp only [effK] at h;split at h
  ·rename_i t L;have p:=bA k L;simp only [VR] at p;cases t
   ·simp only [af] at h;obtain ⟨v,A,h⟩:=av h;exact ⟨_,h,.val (x:=a.eval y) (by simp [execOp,j,p,asBool]) (bA k A)⟩
   ·simp only [ah] at h;obtain ⟨v,A,h⟩:=av h;exact ⟨_,h,.val (x:=a.eval x) (by simp [execOp,j,p,asBool]) (bA k A)⟩
  ·cases h
 | alloc t=>rw [j] at h;exact MW j h
 | makeMap t x=>rw [j] at h;exact FU j h
 | insert t m x y=>rw [j] at h;exact I9 j k C h
 | lookup t m x ok=>rw [j] at h;exact II j k C h
 | box t x=>rw [j] at h;exact RO j k Z h
 | build t ps=>rw [j] at h;exact KX j k h
 | buildSlice t n ps=>rw [j] at h;exact yT j k Z h
 | load t x=>rw [j] at h;exact OK j k C h
 | makeSlice t x y=>rw [j] at h;exact Au j k h
 | store t x y=>rw [j] at h;exact NE j k C h
 | nilCheck x=>
  rw [j] at h;simp only [effK] at h;split at h
  ·rename_i b off hx;have p:=bA k hx;have A:=p;simp only [VR] at p;obtain ⟨r,h5,B⟩:=p;exact ⟨_,h,.val (x:=a.eval x) (by simp [execOp,j,B]) A⟩
  ·rename_i zz b jj off hx;have p:=bA k hx;have A:=p;simp only [VR] at p;obtain ⟨r,h5,B⟩:=p;exact ⟨_,h,.val (x:=a.eval x) (by simp [execOp,j,B]) A⟩
  ·rename_i g l hx;have p:=bA k hx;have A:=p;simp only [VR] at p;obtain ⟨W,B,_⟩:=p;obtain ⟨g',b',c',h7⟩:=zg g W;exact ⟨_,h,.val (x:=a.eval x) (by simp [execOp,j,B,h7]) A⟩
  ·rename_i b off n m hx;have p:=bA k hx;have A:=p;simp only [VR] at p;obtain ⟨r,cp,_,_,_,B⟩:=p;exact ⟨_,h,.val (x:=a.eval x) (by simp [execOp,j,B]) A⟩
  ·rename_i t v hx;have p:=bA k hx;have A:=p;simp only [VR] at p;obtain ⟨y,B,_⟩:=p;exact ⟨_,h,.val (x:=a.eval x) (by simp [execOp,j,B]) A⟩
  ·cases h
 | binOp op t x y yt=>
  rw [j] at h;simp only [effK] at h;obtain ⟨u,I,h⟩:=av h;obtain ⟨v,p,h⟩:=av h;split at h
  ·rename_i r S;have hx:=bA k I;have hy:=bA k p;obtain ⟨G,K⟩:=Vo S hx hy w;exact ⟨_,h,.val (x:=.bool r) (by simp only [execOp,j,aw,G,K,az,aD]) (by simp [VR])⟩
  split at h
  ·rename_i r S;split at h
   case h_2=>cases h
   rename_i m rd F;obtain ⟨hm,h⟩:=dY h;obtain ⟨G,K⟩:=Vr S F (aJ hm) C (bA k I) (bA k p) x y;exact ⟨_,h,.val (x:=.bool r) (by simp only [execOp,j,aw,G,K,az,aD]) (by simp [VR])⟩
  obtain ⟨R,X,U,Y,G,K⟩:=TL h (bA k I) (bA k p) x y w;exact ⟨_,U,.val (x:=X) (by simp only [execOp,j,aw,G,K,az,aD]) Y⟩
 | unOp op t x=>
  rw [j] at h;simp only [effK] at h;obtain ⟨u,I,h⟩:=av h;obtain ⟨R,X,U,Y,G⟩:=Vv (P:=P) h (bA k I) w;exact ⟨_,U,.val (x:=X) (by simp only [execOp,j,aw,G,az,aD]) Y⟩
 | convert sr d x=>rw [j] at h;exact FV j k C h
 | next x str=>rw [j] at h;exact P2 j k C h
 | makeInterface t x=>
  rw [j] at h;simp only [effK] at h;obtain ⟨u,I,h⟩:=av h;have p:=bA k I;split at h
  ·cases h
  ·rename_i d O N;refine ⟨_,h,.val (x:=.iface t (a.eval x)) ?_ (by simp only [VR];exact ⟨_,rfl,p⟩)⟩;simp only [execOp,j,Instr.makeInterface,aw,be N,az];cases d<;>first | rfl | exact absurd rfl (O _)
  ·cases h
 | makeFunc fn first cap=>
  rw [j] at h;simp only [effK] at h;split at h
  ·rename_i g E;split at h
   case h_2=>cases h
   rename_i hb;obtain ⟨l,F,h⟩:=av h;have J:=yH k F;have D:first=#[]:=by apply lG;simpa using E
   refine ⟨_,h,.val (x:=.func (.func g) #[] (cap.map a.eval)) ?_ (by simp only [VR];exact ⟨_,(FG hb _).symm,by simpa using J⟩)⟩;simp only [execOp,j,Instr.makeFunc,D,Iz,aw,aD,az]
  ·rename_i g _ _ E;split at h
   ·rename_i M;obtain ⟨l,F,h⟩:=av h;have J:=yH k F;have hcap':cap=#[]:=by apply lG;simpa using M
    refine ⟨_,h,.val (x:=.func (.func g) (first.map a.eval) #[]) ?_ (by simp only [VR];exact ⟨_,(OL g _).symm,by simpa using J⟩)⟩;simp only [execOp,j,Instr.makeFunc,hcap',Iz,aw,aD,az]
   ·cases h
  ·cases h
 | slice t x lo hi mx=>
  rw [j] at h;cases mx with
  | none=>exact KG j k C h
  | some m=>exact Jn j k C h
 | fieldAddr t x i=>rw [j] at h;exact AM j k h
 | field t x i=>rw [j] at h;exact J8 j k h
 | indexAddr t x i=>rw [j] at h;exact Bt j k C h
 | index t x i=>rw [j] at h;exact Nn j k h
 | range t x=>rw [j] at h;exact K7 j k h
 | extract x i=>
  rw [j] at h;simp only [effK] at h;split at h
  ·rename_i l hx;obtain ⟨v,p,h⟩:=av h;have F:=bA k hx;simp only [VR] at F;obtain ⟨W,B,Q⟩:=F;obtain ⟨y,hy,V⟩:=Q.get p;have hy':W[i]?=some y:=by simpa using hy
   exact ⟨_,h,.val (x:=y) (by simp [execOp,j,B,Instr.extract,hy']) V⟩
  ·cases h
 | typeAssert x xt at_ ok=>
  rw [j] at h;simp only [effK] at h;split at h
  case h_2=>cases h
  rename_i t v hx;have p:=bA k hx;simp only [VR] at p;obtain ⟨y,B,hy⟩:=p;split at h
  ·cases h
  ·rename_i d O N;split at h
   case h_2=>cases h
   rename_i L;have L:=bP L;subst L;cases ok with
   | true=>
    refine ⟨_,h,.val (x:=.tuple #[y,.bool true]) ?_ (by simp only [VR,VRs];exact ⟨_,rfl,y,[.bool true],rfl,hy,_,[],rfl,rfl,rfl⟩)⟩;simp only [execOp,j,B,Instr.typeAssert,aw,be N,az];cases d<;>first | simp | exact absurd rfl (O _)
   | false=>
    refine ⟨_,h,.val (x:=y) ?_ hy⟩;simp only [execOp,j,B,Instr.typeAssert,aw,be N,az];cases d<;>first | simp | exact absurd rfl (O _)
  ·cases h
 | call cl=>rw [j] at h;exact PQ j k C h
 | _=>rw [j] at h;simp [effK] at h
end ops
end Go.Abs
