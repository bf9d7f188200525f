
/- The abstract effect of an operation is what the model's own operation does: the operations that make no memory; all of them together.
   Conditions: none; generic over the program. -/
import Derived.Test.YthemneooekobkaaGreatDoorAbsG
import Derived.Laws.BytesArg
import Derived.Laws.BytesString
import Derived.Lib.ConvBytes
import Derived.Laws.MakeOwn
import Derived.Deep.AppendSrc
import Derived.MapKept
set_option linter.unusedSimpArgs false
set_option linter.unusedVariables false
namespace Go.Abs
variable {P:Program}
section ops
variable {α:Type} {ι:Inj} {s:St} {a:Act} {w:World} {f:Nat} {o:Oper} {c:Eff->Option α} {z:α}
theorem uw {t:TypeId} {a:Array Field} {fd:Field} {i:Nat} {d:TypeInfo} (b:P.underlying t=some (.struct a)) (c:a[i]?=some fd) (hi:P.info? fd.type=some d)
  (hp:0<P.cellsOf fd.type) (r off:Nat) (w:World):(Instr.fieldAt t (.pointer (some ⟨r,off,none⟩)) i).run P w=.ok (.pointer (some ⟨r,off+fd.offset,none⟩)) w:=by
 simp only [Instr.fieldAt,av,aV b,ax,c,Instr.sureAddr,az,fieldPlace,eN hi,show ¬(P.cellsOf fd.type=0) by omega,aG,lH]
theorem yo {t:TypeId} {x:Operand} {i:Nat} (v:o.op=.fieldAddr t x i) (q:TR ι s.T a.tmps) (h:effK P (opd s.T) s.H f (.fieldAddr t x i) c=some z):
  ∃e,c e=some z/\fp P ι f o a w e:=by
 simp only [effK] at h;split at h
 ·rename_i b off hx;split at h
  ·rename_i y l;split at h
   ·rename_i fd p;split at h
    ·rename_i hp;obtain ⟨A,g⟩:=bL hp;have k:=bh q hx;simp only [VR] at k;obtain ⟨r,m,n⟩:=k;have d:=uw l (by simpa using p) g (aD hp) r.r off w;exact ⟨_,h,.val (x:=.pointer (some ⟨r.r,off+fd.offset,none⟩)) (by simp only [execOp,v,n,av,d,ax,az]) (by simp only [VR,nP];exact ⟨r,m,rfl⟩)⟩
    ·cases h
   ·cases h
  ·cases h
 ·rename_i u b j off hx;split at h
  ·rename_i y l;split at h
   ·rename_i fd p;split at h
    ·rename_i hp;obtain ⟨A,g⟩:=bL hp;have k:=bh q hx;simp only [VR] at k;obtain ⟨r,m,n⟩:=k;have d:=uw l (by simpa using p) g (aD hp) r.r (r.o+(j*u+off)) w;exact ⟨_,h,.val (x:=.pointer (some ⟨r.r,r.o+(j*u+off)+fd.offset,none⟩)) (by simp only [execOp,v,n,av,d,ax,az]) (by simp only [VR,nP];exact ⟨r,m,by rw [il,il]⟩)⟩
    ·cases h
   ·cases h
  ·cases h
 ·cases h
theorem I9 {t:TypeId} {x:Operand} {i:Nat} (q:o.op=.field t x i) (A:TR ι s.T a.tmps) (h:effK P (opd s.T) s.H f (.field t x i) c=some z):
  ∃e,c e=some z/\fp P ι f o a w e:=by
 simp only [effK] at h;split at h
 ·rename_i l hx;have r:=bh A hx;simp only [VR] at r;obtain ⟨n,u,j⟩:=r;split at h
  ·rename_i C p;split at h
   ·rename_i fd E;have hf':C[i]?=some fd:=by simpa using E
    split at h
    ·rename_i b;split at h
     ·have D:∃d,P.underlying fd.type=some d:=by
       unfold bG at b;split at b
       ·exact ⟨_,by assumption⟩
       ·exact ⟨_,by assumption⟩
       ·cases b
      obtain ⟨d',g⟩:=D;obtain ⟨F,m⟩:=lP g;refine ⟨_,h,.val (x:=.agg (n.extract fd.offset (fd.offset+P.cellsOf fd.type))) ?_ (nz (j.extract _ _))⟩;simp only [execOp,q,u,Instr.field,av,aV p,ax,hf',asAgg,az,part,jw g,b,aY,eN m]
     ·cases h
    ·rename_i b;split at h
     ·rename_i d' g;obtain ⟨v,B,h⟩:=au h;obtain ⟨y,hy,k⟩:=j.get B;have hy':n[fd.offset]?=some y:=by simpa using hy
      refine ⟨_,h,.val (x:=y) ?_ k⟩;simp only [execOp,q,u,Instr.field,av,aV p,ax,hf',asAgg,az,part,jw g,b,cE,aG,hy']
     ·cases h
   ·cases h
  ·cases h
 ·cases h
theorem mR {t e:TypeId} {m:Nat} {a:TypeInfo} (b:P.underlying t=some (.array m e)) (hi:P.info? e=some a) (k:IntKind) {n:Int} (d:0<=n) (c:n<m) (r off:Nat) (w:World):
  (Instr.indexAt t (.pointer (some ⟨r,off,none⟩)) (.int k n)).run P w=.ok (.pointer (some ⟨r,off+n.toNat*P.cellsOf e,none⟩)) w:=by
 simp only [Instr.indexAt,asIntOf,av,az,ax,aV b,Instr.sureAddr,d,c,and_self,aY,eN hi,lH]
theorem kC {t e:TypeId} {m cp:Nat} {a:TypeInfo} (b:P.underlying t=some (.slice e)) (hi:P.info? e=some a) (k:IntKind) {n:Int} (d:0<=n) (c:n<m) (r off:Nat) (w:World):
  (Instr.indexAt t (.slice (some ⟨r,off,none⟩) m cp) (.int k n)).run P w=.ok (.pointer (some ⟨r,off+n.toNat*P.cellsOf e,none⟩)) w:=by
 simp only [Instr.indexAt,asIntOf,av,az,ax,aV b,d,c,and_self,aY,eN hi,lH]
theorem yY {t:TypeId} {x i:Operand} (F:o.op=.indexAddr t x i) (E:TR ι s.T a.tmps) (M:WR ι s.H s.nb w) (h:effK P (opd s.T) s.H f (.indexAddr t x i) c=some z):
  ∃e,c e=some z/\fp P ι f o a w e:=by
 simp only [effK] at h;split at h
 case h_2=>cases h
 rename_i k n hi;have u:=bh E hi;simp only [VR] at u;split at h
 ·rename_i m e D;split at h
  ·rename_i b off hx;have p:=bh E hx;simp only [VR] at p;obtain ⟨r,v,C⟩:=p;split at h
   ·rename_i hp;obtain ⟨I,g⟩:=bL hp;obtain ⟨j,B,h⟩:=au h;obtain ⟨g0,A,rfl⟩:=mF B;have d:=mR D g k g0 A r.r off w;exact ⟨_,h,.val (x:=.pointer (some ⟨r.r,off+n.toNat*P.cellsOf e,none⟩)) (by simp only [execOp,F,C,u,av,d,ax,az]) (by simp only [VR,nP,vV];exact ⟨r,v,rfl⟩)⟩
   ·cases h
  ·rename_i J b K off hx;have p:=bh E hx;simp only [VR] at p;obtain ⟨r,v,C⟩:=p;split at h
   ·rename_i hp;obtain ⟨I,g⟩:=bL hp;obtain ⟨j,B,h⟩:=au h;obtain ⟨g0,A,rfl⟩:=mF B;have d:=mR D g k g0 A r.r (r.o+(K*J+off)) w;exact ⟨_,h,.val (x:=.pointer (some ⟨r.r,r.o+(K*J+off)+n.toNat*P.cellsOf e,none⟩)) (by simp only [execOp,F,C,u,av,d,ax,az]) (by simp only [VR,nP,vV];exact ⟨r,v,by rw [il,il]⟩)⟩
   ·cases h
  ·cases h
 ·rename_i e D;split at h
  ·rename_i b off m cp hx;have p:=bh E hx;simp only [VR] at p;obtain ⟨r,cap,v,_,_,C⟩:=p;split at h
   ·rename_i hp;obtain ⟨I,g⟩:=bL hp;obtain ⟨j,B,h⟩:=au h;obtain ⟨g0,A,rfl⟩:=mF B;have d:=kC (cp:=cap) D g k g0 A r.r off w;exact ⟨_,h,.val (x:=.pointer (some ⟨r.r,off+n.toNat*P.cellsOf e,none⟩)) (by simp only [execOp,F,C,u,av,d,ax,az]) (by simp only [VR,nP,vV];exact ⟨r,v,rfl⟩)⟩
   ·cases h
  ·rename_i b hx;have p:=bh E hx;simp only [VR] at p;split at h
   case h_2=>cases h
   rename_i tr l O;split at h
   case h_2=>cases h
   rename_i hp;simp only [ay,io] at hp;obtain ⟨N,hp⟩:=hp;obtain ⟨I,g⟩:=bL hp;obtain ⟨j,B,h⟩:=au h;obtain ⟨g0,A,rfl⟩:=mF B;rcases iv M O with ⟨q,X,U,fr,G,S,L,Y,V,Q,Z⟩ | ⟨G,rfl⟩
   ·rcases p with ⟨R,v,C⟩ | ⟨v,_⟩
    ·rw [v] at G;cases G;have g1':n<(q.n:Int):=by rw [<-L];exact A
     have d:=kC (cp:=q.k) D g k g0 g1' q.r q.o w;exact ⟨_,h,.val (x:=.pointer (some ⟨q.r,q.o+n.toNat*P.cellsOf e,none⟩)) (by simp only [execOp,F,C,u,av,d,ax,az]) (by simp only [VR];exact ⟨q,v,by rw [fg]⟩)⟩
    ·rw [v] at G;cases G
   ·simp at A;omega
  ·rename_i J b W m _ hx;have p:=bh E hx;simp only [VR] at p;split at h
   case h_2=>cases h
   rename_i hp;simp only [ay,io] at hp;obtain ⟨rfl,hp⟩:=hp;obtain ⟨I,g⟩:=bL hp;obtain ⟨j,B,h⟩:=au h;obtain ⟨g0,A,rfl⟩:=mF B;rcases p with ⟨q,cp,off,v,_,y,C⟩ | ⟨_,⟨rfl,_⟩,_⟩
   ·have d:=kC (cp:=cp) D g k g0 A q.r off w;have y:=y (by omega);exact ⟨_,h,.val (x:=.pointer (some ⟨q.r,off+n.toNat*P.cellsOf e,none⟩)) (by simp only [execOp,F,C,u,av,d,ax,az]) (by simp only [VR,nP];exact ⟨q,v,by rw [y,fL,fg,il]⟩)⟩
   ·omega
  ·cases h
 ·cases h
theorem hO {t e:TypeId} {m:Nat} {d:TypeInfo} (b:P.underlying t=some (.array m e)) (hi:P.info? e=some d) (k:IntKind) {n:Int} (c:0<=n) (f:n<m) (a:Array Value) (w:World):
  (Instr.index t (.agg a) (.int k n)).run P w=(part e a (n.toNat*P.cellsOf e)).run P w:=by
 simp only [Instr.index,asIntOf,av,az,ax,aV b,c,f,and_self,aY,eN hi]
theorem oG {t:TypeId} {d:TypeDesc} (b:P.underlying t=some d) (c:bG P t=false) {a:Array Value} {off:Nat} {x:Value} (hx:a[off]?=some x) (w:World):
  (part t a off).run P w=.ok x w:=by
 simp only [part,av,jw b,c,ax,cE,aG,hx,az]
theorem sZ {t:TypeId} {d:TypeDesc} (b:P.underlying t=some d) (c:bG P t=true) (a:Array Value) (off:Nat) (w:World):
  (part t a off).run P w=.ok (.agg (a.extract off (off+P.cellsOf t))) w:=by
 obtain ⟨i,hi⟩:=lP b;simp only [part,av,jw b,c,ax,aY,eN hi,az]
theorem tA {t:TypeId} (d:P.underlying t=some .string) {l:aa} {n:Int} {b:UInt8} (h:sx l n=some b) (k:IntKind) (w:World):
  (Instr.index t (.string ⟨l.toArray⟩) (.int k n)).run P w=.ok (.int .u8 b.toNat) w:=by
 unfold sx at h;split at h
 ·rename_i e;have f:(ByteArray.mk l.toArray)[n.toNat]?=some b:=by
   have a:n.toNat<l.length:=by
    rcases aH n.toNat l.length with c | c
    ·exact c
    ·rw [eF c] at h;cases h
   have hs:n.toNat<(ByteArray.mk l.toArray).size:=a;rw [getElem?_pos (ByteArray.mk l.toArray) n.toNat hs];rw [bH a] at h;simp only [am] at h ⊢;exact h
  simp only [Instr.index,asIntOf,av,az,ax,aV d,e,aY,f]
 ·cases h
theorem Ic {t:TypeId} {x i:Operand} (E:o.op=.index t x i) (G:TR ι s.T a.tmps) (h:effK P (opd s.T) s.H f (.index t x i) c=some z):
  ∃e,c e=some z/\fp P ι f o a w e:=by
 simp only [effK] at h;split at h
 case h_2=>cases h
 rename_i k n hi;have d:=bh G hi;simp only [VR] at d;split at h
 ·rename_i m e C;split at h
  ·cases h
  rename_i hp;obtain ⟨U,q⟩:=bL hp;split at h
  ·rename_i k' m' l hx;have p:=bh G hx;simp only [VR] at p;obtain ⟨Q,F⟩:=p;split at h
   ·rename_i k2 g;split at h
    ·rename_i r;have r:=bm r;obtain ⟨j,A,h⟩:=au h;obtain ⟨g0,u,rfl⟩:=mF A;obtain ⟨v,p,h⟩:=au h;refine ⟨_,h,.val (x:=.int k' v) ?_ (by simp [VR])⟩;simp only [execOp,E,F,d,av,hO C q k g0 u];rw [oG g (by simp [bG,g]) (x:=.int k' v) (by simp [r,p])];rfl
    ·cases h
   ·cases h
  ·rename_i l hx;have p:=bh G hx;simp only [VR] at p;obtain ⟨J,F,B⟩:=p;split at h
   ·rename_i R g;obtain ⟨j,A,h⟩:=au h;obtain ⟨g0,u,rfl⟩:=mF A;refine ⟨_,h,.val (x:=.agg (J.extract (n.toNat*P.cellsOf e) (n.toNat*P.cellsOf e+P.cellsOf e))) ?_ (nz (B.extract _ _))⟩;simp only [execOp,E,F,d,av,hO C q k g0 u,sZ g (by simp [bG,g]),ax,az]
   ·rename_i m2 O g;obtain ⟨j,A,h⟩:=au h;obtain ⟨g0,u,rfl⟩:=mF A;refine ⟨_,h,.val (x:=.agg (J.extract (n.toNat*P.cellsOf e) (n.toNat*P.cellsOf e+P.cellsOf e))) ?_ (nz (B.extract _ _))⟩;simp only [execOp,E,F,d,av,hO C q k g0 u,sZ g (by simp [bG,g]),ax,az]
   ·rename_i g;split at h
    ·rename_i r;have r:=bm r;split at h
     ·rename_i S I;obtain ⟨j,A,h⟩:=au h;obtain ⟨g0,u,rfl⟩:=mF A;obtain ⟨v,p,h⟩:=au h;obtain ⟨y,hy,D⟩:=B.get (j:=n.toNat) (v:=.s v) (by rw [rH I];simp [p]);refine ⟨_,h,.val (x:=y) ?_ D⟩;simp only [execOp,E,F,d,av,hO C q k g0 u];rw [oG g (by simp [bG,g]) (x:=y) (by simpa [r] using hy)];rfl
     ·cases h
    ·cases h
   ·rename_i d' N L M g;split at h
    ·rename_i r;have r:=bm r;obtain ⟨j,A,h⟩:=au h;obtain ⟨g0,u,rfl⟩:=mF A;obtain ⟨v,p,h⟩:=au h;obtain ⟨y,hy,D⟩:=B.get p;refine ⟨_,h,.val (x:=y) ?_ D⟩;simp only [execOp,E,F,d,av,hO C q k g0 u];rw [oG g (by simp only [bG,g];cases d'<;>simp_all) (x:=y) (by simpa [r] using hy)];rfl
    ·cases h
   ·cases h
  ·cases h
 ·rename_i C;split at h
  ·rename_i l hx;have p:=bh G hx;simp only [VR] at p;obtain ⟨b,K,h⟩:=au h;refine ⟨_,h,.val (x:=.int .u8 b.toNat) ?_ (by simp [VR])⟩;simp only [execOp,E,p,d,av,tA C K,ax,az]
  ·cases h
 ·cases h
theorem ym {t:TypeId} (a:P.underlying t=some .string) {l:aa} {lo hi:Option Value} {L H:Nat} {w:World}
  (b:(Instr.sliceBounds false l.length l.length lo hi none).run P w=.ok (L,H,l.length) w):
  (Instr.sliceAt t (.string ⟨l.toArray⟩) lo hi none).run P w=.ok (.string ⟨((l.take H).drop L).toArray⟩) w:=by
 rw [run_sliceAt_string w t _ _ _ _ a];have hs:(ByteArray.mk l.toArray).size=l.length:=rfl;simp only [Instr.slice,av,aV a,ax,uZ,cE,aG,hs,b,az];congr 2;apply IP;rw [ByteArray.data_extract];apply jZ;simp [List.extract,zS]
theorem yz {t e:TypeId} {n:Nat} {d:TypeInfo} (c:P.underlying t=some (.array n e)) (hi:P.info? e=some d) {lo a:Option Value} {L H r off:Nat} {w:World}
  (b:(Instr.sliceBounds false n n lo a none).run P w=.ok (L,H,n) w):
  (Instr.sliceAt t (.pointer (some ⟨r,off,none⟩)) lo a none).run P w=.ok (.slice (some ⟨r,if n=L then off else off+L*P.cellsOf e,none⟩) (H - L) (n - L)) w:=by
 simp only [Instr.sliceAt,av,aV c,ax,Instr.sureAddr,az,b,eN hi,lH];split<;>rfl
theorem mC {t e:TypeId} {n cp:Nat} {d:TypeInfo} (c:P.underlying t=some (.slice e)) (hi:P.info? e=some d) {lo a:Option Value} {L H r off:Nat} {w:World}
  (b:(Instr.sliceBounds true n cp lo a none).run P w=.ok (L,H,cp) w):
  (Instr.sliceAt t (.slice (some ⟨r,off,none⟩) n cp) lo a none).run P w=.ok (.slice (some ⟨r,if cp=L then off else off+L*P.cellsOf e,none⟩) (H - L) (cp - L)) w:=by
 simp only [Instr.sliceAt,Instr.slice,av,aV c,ax,b,eN hi,az];split
 ·rfl
 ·simp only [ee,lH]
theorem iH (n l x y:Nat):cond (Nat.beq n l) x y=if n=l then x else y:=by
 by_cases h:n=l
 ·subst h;simp
 ·have:Nat.beq n l=false:=by
   cases a:Nat.beq n l
   ·rfl
   ·exact absurd (bm a) h
  simp [this,h]
theorem qW {t e:TypeId} {d:TypeInfo} {b:Option Addr} (c:P.underlying t=some (.slice e)) (hi:P.info? e=some d) {lo a:Option Value} {w:World}
  (f:(Instr.sliceBounds true 0 0 lo a none).run P w=.ok (0,0,0) w):
  (Instr.sliceAt t (.slice b 0 0) lo a none).run P w=.ok (.slice b 0 0) w:=by
 simp only [Instr.sliceAt,Instr.slice,av,aV c,ax,f,eN hi,az,aY]
theorem zB {T:List (Nat×Option V)} (p:TR ι T a.tmps) {lo hi:Option Operand} {l h:Option Int} (r:o5 (opd T) lo=some l)
  (t:o5 (opd T) hi=some h) {len:Nat} {c:Nat->Nat->Option α} (e:(hiK len len h λh=>loK h l λl=>c h l)=some z):
  ∃H L,c H L=some z/\H<=len/\L<=H/\∀n,len<=n->∀w,(Instr.sliceBounds true len n (lo.map a.eval) (hi.map a.eval) none).run P w=.ok (L,H,n) w:=by
 have o:∀{H:Nat},loK H l (c H)=some z->∃L,c H L=some z/\L<=H/\
   ∀w,(match lo.map a.eval with | some v=>Instr.sliceBound v H .sliceB | none=>pure 0).run P w=.ok L w:=by
  intro H e;rcases mN p r with ⟨rfl,g⟩ | ⟨k,m,rfl,g⟩
  ·exact ⟨0,e,qT _,λw=>by rw [g];rfl⟩
  ·simp only [loK] at e;obtain ⟨L,i,j⟩:=au e;obtain ⟨g0,q,rfl⟩:=kD i;exact ⟨_,j,by omega,λw=>by rw [g];exact run_sliceBound w k m H .sliceB g0 q⟩
 rcases mN p t with ⟨rfl,g⟩ | ⟨k,m,rfl,g⟩
 ·simp only [hiK] at e;obtain ⟨L,i,j,d⟩:=o e;refine ⟨len,L,i,aW _,j,λn s w=>?_⟩;have d:=d w;rw [g];simp only [Instr.sliceBounds,av,az,ax,uZ,cE,aG];cases b:lo.map a.eval with
  | none=>rw [b] at d;simp only [az,vz,sN] at d;simp [d]
  | some v=>rw [b] at d;simp only [] at d;simp [d]
 ·simp only [hiK] at e;obtain ⟨H,i,j⟩:=au e;obtain ⟨g0,q,rfl⟩:=kD i;obtain ⟨L,u,d,f⟩:=o j;refine ⟨_,L,u,by omega,d,λn s w=>?_⟩;have f:=f w;rw [g];have x:=run_sliceBound (P:=P) w k m n .sliceAcap g0 (by omega);simp only [Instr.sliceBounds,av,az,ax,uZ,cE,aG,aY,x];cases b:lo.map a.eval with
  | none=>rw [b] at f;simp only [az,vz,sN] at f;simp [f]
  | some v=>rw [b] at f;simp only [] at f;simp [f]
theorem JI {t:TypeId} {x:Operand} {lo hi:Option Operand} (G:o.op=.slice t x lo hi none) (I:TR ι s.T a.tmps) (hW:WR ι s.H s.nb w) (h:effK P (opd s.T) s.H f (.slice t x lo hi none) c=some z):
  ∃e,c e=some z/\fp P ι f o a w e:=by
 simp only [effK] at h;obtain ⟨v,hx,E⟩:=au h;obtain ⟨l,J,U⟩:=au E;obtain ⟨hh,u,d⟩:=au U;clear h E U;have A:=bh I hx;clear hx;split at d
 ·rename_i C;cases v<;>simp only [reduceCtorEq] at d;rename_i sl;simp only [VR] at A;obtain ⟨H,L,g,_,_,_,i,_,B⟩:=uO (P:=P) I J u (isSlice:=false) d;refine ⟨_,g,.val (x:=.string ⟨((sl.take H).drop L).toArray⟩) ?_ (by simp [VR])⟩;simp only [execOp,G,A,av,gN];rw [ym C (B w)];rfl
 ·rename_i n e C;split at d
  case h_2=>cases d
  rename_i hp;obtain ⟨ti,p⟩:=bL hp;cases v<;>simp only [reduceCtorEq] at d;rename_i b off;simp only [VR] at A;obtain ⟨r,i,y⟩:=A;obtain ⟨H,L,g,_,F,D,g4,_,B⟩:=uO (P:=P) I J u (isSlice:=false) d;have Z:H<=n:=by
   cases hh with
   | none=>exact vf (F rfl)
   | some q=>exact D (by simp)
  refine ⟨_,g,.val (x:=.slice (some ⟨r.r,if n=L then off else off+L*P.cellsOf e,none⟩) (H - L) (n - L)) ?_ ?_⟩
  ·simp only [execOp,G,y,av,gN];rw [yz C p (B w)];rfl
  ·simp only [VR];exact ⟨r,n - L,i,λm S=>by cases S;rfl,by omega,by rw [iH,nP,vV]⟩
 ·rename_i e C;split at d
  case h_2=>cases d
  rename_i hp;obtain ⟨ti,p⟩:=bL hp;cases v<;>try (simp only [reduceCtorEq] at d;done)
  ·rename_i b;simp only [VR] at A;simp only at d;split at d
   case h_2=>cases d
   rename_i tr m Y;split at d
   case h_2=>cases d
   rename_i K;have K:=bm K;obtain ⟨H,L,g,F,D,B⟩:=zB (P:=P) I J u d;rcases iv hW Y with ⟨q,cs,e',fr,E,U,q4,q5,_,_,_⟩ | ⟨E,rfl⟩
   ·rcases A with ⟨q',i,y⟩ | ⟨i,_⟩
    ·rw [i] at E;cases E;refine ⟨_,g,.val (x:=.slice (some ⟨q.r,if q.k=L then q.o else q.o+L*P.cellsOf e,none⟩) (H - L) (q.k - L)) ?_ ?_⟩
     ·simp only [execOp,G,y,av,gN];rw [<-q4,mC C p (B q.k (by omega) w)];rfl
     ·simp only [VR];exact .inl ⟨q,_,_,i,⟨by omega,jo⟩,λM=>by rw [ab (by omega)],rfl⟩
    ·rw [i] at E;cases E
   ·rcases A with ⟨q,i,y⟩ | ⟨i,Q,y⟩
    ·rw [i] at E;cases E
    ·simp only [bg,y4] at F D;subst F;simp only [y4] at D;subst D;refine ⟨_,g,.val (x:=.slice Q 0 0) ?_ (by unfold VR;exact .inr ⟨i,⟨rfl,jo⟩,Q,rfl⟩)⟩;simp only [execOp,G,y,av,gN];rw [qW C p (B 0 (aW _) w)];rfl
  ·rename_i zz b j n _;simp only [VR] at A;simp only at d;split at d
   case h_2=>cases d
   rename_i K;have K:=bm K;obtain ⟨H,L,g,F,D,B⟩:=zB (P:=P) I J u d;rcases A with ⟨q,cp,off,i,⟨N,_⟩,O,y⟩ | ⟨i,⟨rfl,_⟩,Q,y⟩
   ·refine ⟨_,g,.val (x:=.slice (some ⟨q.r,if cp=L then off else off+L*P.cellsOf e,none⟩) (H - L) (cp - L)) ?_ ?_⟩
    ·simp only [execOp,G,y,av,gN];rw [mC C p (B cp N w)];rfl
    ·simp only [VR];exact .inl ⟨q,_,_,i,⟨by omega,jo⟩,λM=>by rw [ab (by omega),O (by omega),nP,fL,K,il],rfl⟩
   ·simp only [y4] at F;subst F;simp only [y4] at D;subst D;refine ⟨_,g,.val (x:=.slice Q 0 0) ?_ (by unfold VR;exact .inr ⟨i,⟨rfl,jo⟩,Q,rfl⟩)⟩;simp only [execOp,G,y,av,gN];rw [qW C p (B 0 (aW _) w)];rfl
  rename_i b off n cap;simp only [VR] at A;obtain ⟨r,cp,i,W,N,y⟩:=A;cases cap with
  | some m=>
   obtain rfl:=W m rfl;obtain ⟨H,L,g,_,F,D,g4,_,B⟩:=uO (P:=P) I J u (isSlice:=true) d;have Z:H<=cp:=by
    cases hh with
    | none=>have:=F rfl;omega
    | some q=>exact D (by simp)
   refine ⟨_,g,.val (x:=.slice (some ⟨r.r,if cp=L then off else off+L*P.cellsOf e,none⟩) (H - L) (cp - L)) ?_ ?_⟩
   ·simp only [execOp,G,y,av,gN];rw [mC C p (B w)];rfl
   ·simp only [VR];exact ⟨r,cp - L,i,λm S=>by cases S;rfl,by omega,by rw [iH,nP,vV]⟩
  | none=>
   have X:l=none:=by
    cases l with
    | none=>rfl
    | some q=>
     cases hh with
     | none=>simp [hiK] at d
     | some q=>simp only [hiK] at d;obtain ⟨_,_,q4⟩:=au d;cases q4
   subst X;have R:lo.map a.eval=none:=by
    rcases mN I J with ⟨_,g⟩ | ⟨k,m,h0,_⟩
    ·exact g
    ·cases h0
   have key:∃H,c { val:=some (.sl b off H none) }=some z/\H<=n/\(Instr.sliceBounds true n cp (lo.map a.eval) (hi.map a.eval) none).run P w=.ok (0,H,cp) w:=by
    rcases mN I u with ⟨rfl,g⟩ | ⟨k,m,rfl,g⟩
    ·simp only [hiK] at d;exact ⟨n,d,aW _,by rw [g,R];simp [Instr.sliceBounds]⟩
    ·simp only [hiK] at d;obtain ⟨H,h2,V⟩:=au d;obtain ⟨g0,g1,rfl⟩:=kD h2;refine ⟨_,V,by omega,?_⟩;have Y:=run_sliceBound (P:=P) w k m cp .sliceAcap g0 (by omega);rw [g,R];simp [Instr.sliceBounds,Y]
   obtain ⟨H,g,h2,V⟩:=key;refine ⟨_,g,.val (x:=.slice (some ⟨r.r,if cp=0 then off else off+0*P.cellsOf e,none⟩) (H - 0) (cp - 0)) ?_ ?_⟩
   ·simp only [execOp,G,y,av,gN];rw [mC C p V];rfl
   ·simp only [VR];exact ⟨r,cp,i,λm S=>(by cases S),by omega,by simp⟩
 ·cases d
theorem uU (a:List Int):a.foldl (λ(r:ByteArray) n=>r.push (UInt8.ofNat n.toNat)) ByteArray.empty=⟨(gh a).toArray⟩:=by
 rw [foldl_push_bytes];apply IP;simp [gh]
theorem wv {w:World} {r off q m cp:Nat} {l:List Int} {e:TypeId} {fr:Nat×Nat} (h:w.heap[r]?=some (.cells (l.map (Value.int .u8)).toArray e fr)) (g:l.length=q) (f:off+m<=q):
  (Conv.bytesToString (.slice (some ⟨r,off,none⟩) m cp)).run P w=.ok (.string ⟨(gh ((l.drop off).take m)).toArray⟩) w:=by
 have a:(((l.drop off).take m).map (Value.int .u8)).length=m:=by simp;omega
 have hc:=u0 (P:=P) w ⟨r,off,none⟩ (((l.drop off).take m).map (Value.int .u8)) (λj v b=>by
  have c:j<m:=by
   rcases aH j m with d | d
   ·exact d
   ·rw [eF (by omega)] at b;cases b
  rw [lH,aX h];rw [mz,oc c,ke] at b;simpa using b)
 rw [a] at hc;rw [run_bytesToString w _ m cp _ hc,uU]
theorem xY (w:World) (e:TypeId) (s:ByteArray):
  Lib.bytesWorld w e s=World.alloc { w with drawn:=w.drawn+1 } (.cells (Lib.bytesCells w e s) e ((Lib.bytesCells w e s).size,(Lib.bytesCells w e s).size+1)):=by
 have d:=Lib.bytesWorld_at_new w e s;have f:=Lib.bytesWorld_size w e s;have c:(Lib.bytesWorld w e s).heap=w.heap.push (.cells (Lib.bytesCells w e s) e ((Lib.bytesCells w e s).size,(Lib.bytesCells w e s).size+1)):=by
  apply NX;intro j;by_cases b:j=w.heap.size
  ·subst b;rw [d];simp
  ·by_cases a:j<w.heap.size
   ·rw [Lib.bytesWorld_at_old w e s j a,Array.getElem?_push,ab b]
   ·rw [tz (by omega),tz (by simp;omega)]
 show ({ (Lib.bytesWorld w e s) with heap:=(Lib.bytesWorld w e s).heap }:World)=_;rw [c];rfl
theorem pD:∀(l:List Int),l.flatMap (vals [.i .u8])=l.map (Value.int .u8)
 | []=>rfl
 | x::l=>by
  have:=pD l;simp only [m8,fa,vals,Lf.val] at this ⊢;rw [this];rfl
theorem pT {w:World} {r cp:Nat} {l:List Int} {b:Array Value} {e:TypeId} {fr:Nat×Nat} {m:Nat} (h:w.heap[r]?=some (.cells b e fr)) (p:m<=b.size)
  {o:Nat} (k:(b.toList.drop o).take (l.length*([Lf.i .u8]:List Lf).length)=l.flatMap (vals [.i .u8])) {j n:Nat} (s:j+n<=l.length):
  (Conv.bytesToString (.slice (some ⟨r,o+j,none⟩) n cp)).run P w=.ok (.string ⟨(gh ((l.drop j).take n)).toArray⟩) w:=by
 have hl':(b.toList.drop o).take l.length=l.map (Value.int .u8):=by rw [<-pD];simpa using k
 have a:(((l.drop j).take n).map (Value.int .u8)).length=n:=by simp;omega
 have hc:=u0 (P:=P) w ⟨r,o+j,none⟩ (((l.drop j).take n).map (Value.int .u8)) (λi v c=>by
  have f:i<n:=by
   rcases aH i n with g | g
   ·exact g
   ·rw [eF (by omega)] at c;cases c
  rw [lH,aX h];rw [mz,oc f,ke] at c;have d:=gf (λq:List Value=>q[j+i]?) hl';simp only [oc (show j+i<l.length by omega),mz,ke] at d;rw [c] at d;simpa [il] using d)
 rw [a] at hc;rw [run_bytesToString w _ n cp _ hc,uU]
theorem qc {w:World} (c:Option Addr):(Conv.bytesToString (.slice c 0 0)).run P w=.ok (.string ⟨#[]⟩) w:=by
 cases c with
 | none=>rfl
 | some a=>
  have b:=u0 (P:=P) w a ([].map (Value.int .u8)) (λj v d=>by simp at d);exact run_bytesToString (P:=P) w a 0 0 [] b
theorem BA {B d:TypeId} {x:Operand} (y:o.op=.convert B d x) (hT:TR ι s.T a.tmps) (M:WR ι s.H s.nb w) (h:effK P (opd s.T) s.H f (.convert B d x) c=some z):
  ∃e,c e=some z/\fp P ι f o a w e:=by
 simp only [effK] at h;obtain ⟨v,hx,q⟩:=au h;clear h;have g:=bh hT hx;clear hx;split at q
 case h_2=>cases q
 rename_i C hs;split at q
 ·rename_i k p;cases v<;>simp only [reduceCtorEq] at q;rename_i k' n;simp only [VR] at g;refine ⟨_,q,.val (x:=.int k (k.wrap n)) ?_ (by simp [VR])⟩;simp only [execOp,y,g,av,convert,aV hs,aV p,ax];cases C<;>rfl
 ·rename_i p;cases v<;>simp only [reduceCtorEq] at q
  ·rename_i b;simp only [VR] at g;cases C<;>try (simp only [reduceCtorEq] at q;done)
   rename_i e;simp only at q;split at q
   case h_2=>cases q
   rename_i u;split at q
   case h_2=>cases q
   rename_i l F;refine ⟨_,q,.val (x:=.string ⟨(gh l).toArray⟩) ?_ (by simp [VR])⟩;rcases iv M F with ⟨q,cs,W,fr,i,J,V,q5,G,S,_⟩ | ⟨i,rfl⟩
   ·rcases g with ⟨Z,t,A⟩ | ⟨t,_⟩
    ·rw [t] at i;cases i;simp only [execOp,y,A,av,run_convert_bytes_string w B d e _ _ _ hs u p];rw [<-V];have:=pT (P:=P) (cp:=q.k) J G S (j:=0) (n:=l.length) (by omega);simp only [jO,nU,fg] at this;rw [this];rfl
    ·rw [t] at i;cases i
   ·rcases g with ⟨q,t,A⟩ | ⟨t,N,A⟩
    ·rw [t] at i;cases i
    ·simp only [execOp,y,A,av,run_convert_bytes_string w B d e N 0 0 hs u p,qc];rfl
  ·rename_i zz b j n _;simp only [VR] at g;cases C<;>try (simp only [reduceCtorEq] at q;done)
   rename_i e;simp only at q;split at q
   case h_2=>cases q
   rename_i u;split at q
   case h_2=>cases q
   rename_i l F;split at q
   case h_2=>cases q
   rename_i L;have L:=bm L;subst L;obtain ⟨hc,q⟩:=dk q;have D:=aD hc;refine ⟨_,q,.val (x:=.string ⟨(gh ((l.drop j).take n)).toArray⟩) ?_ (by simp [VR])⟩;rcases g with ⟨Y,cp,off,t,⟨I,_⟩,O,A⟩ | ⟨t,⟨rfl,_⟩,N,A⟩
   ·rcases iv M F with ⟨Z,cs,W,fr,i,J,V,q5,G,S,_⟩ | ⟨i,rfl⟩
    ·rw [t] at i;cases i;simp only [execOp,y,A,av,run_convert_bytes_string w B d e _ _ _ hs u p];by_cases hn:0<n
     ·rw [O hn,ow];rw [pT (P:=P) (cp:=cp) J G S D];rfl
     ·have K:n=0:=by omega
      subst K;have Q:=u0 (P:=P) w ⟨Y.r,off,none⟩ ([].map (Value.int .u8)) (λj v X=>by simp at X);have h0:=run_bytesToString (P:=P) w ⟨Y.r,off,none⟩ 0 cp [] Q;rw [h0];simp [gh];rfl
    ·rw [t] at i;cases i
   ·simp only [execOp,y,A,av,run_convert_bytes_string w B d e N 0 0 hs u p,qc];simp [gh]
  ·rename_i k' n;simp only [VR] at g;cases C<;>simp only [reduceCtorEq] at q;refine ⟨_,q,.val (x:=.string (Utf8.encode n)) ?_ ?_⟩
   ·simp only [execOp,y,g,av,convert,aV hs,aV p,ax,Conv.intToString,az]
   ·simp [VR]
  ·rename_i l;simp only [VR] at g;cases C<;>simp only [reduceCtorEq] at q;refine ⟨_,q,.val (x:=.string ⟨l.toArray⟩) ?_ (by simp [VR])⟩;simp only [execOp,y,g,av,convert,aV hs,aV p,ax,az]
  ·simp only [VR] at g;cases C<;>try (simp only [reduceCtorEq] at q;done)
   rename_i e;simp only at q;split at q
   ·rename_i u;refine ⟨_,q,.val (x:=.string .empty) ?_ (by simp only [VR];rfl)⟩;simp only [execOp,y,g,av,run_convert_bytes_string w B d e none 0 0 hs u p];rfl
   ·cases q
  ·rename_i b off m cap;simp only [VR] at g;obtain ⟨r,cp,t,_,_,A⟩:=g;cases C<;>try (simp only [reduceCtorEq] at q;done)
   rename_i e;simp only at q;split at q
   ·rename_i u;split at q
    ·rename_i qn l F;obtain ⟨hc,q⟩:=dk q;have D:=aD hc;obtain ⟨r',W,fr,I,O,g3,_⟩:=tL M F;rw [t] at I;cases I;refine ⟨_,q,.val (x:=.string ⟨(gh ((l.drop off).take m)).toArray⟩) ?_ (by simp [VR])⟩;simp only [execOp,y,A,av,run_convert_bytes_string w B d e _ _ _ hs u p,wv O g3 D,ax,az]
    ·cases q
   ·cases q
 ·rename_i e p;split at q
  case h_2=>cases q
  rename_i u;cases v<;>try (simp only [reduceCtorEq] at q;done)
  rename_i l;simp only [VR] at g;cases C<;>simp only [reduceCtorEq] at q;refine ⟨_,q,.mkR (d:=w.drawn+1) (q:=(Rf.of w.heap.size (l.length) (grownCap w l.length 0 e))) (x:=.slice (some ⟨w.heap.size,0,none⟩) l.length (grownCap w l.length 0 e))
   (ob:=.cells (Lib.bytesCells w e ⟨l.toArray⟩) e ((Lib.bytesCells w e ⟨l.toArray⟩).size,(Lib.bytesCells w e ⟨l.toArray⟩).size+1)) ?_ rfl rfl ?_ ?_⟩
  ·simp only [execOp,y,g,av,Lib.run_convert_string_bytes w B d e ⟨l.toArray⟩ hs p u,ax,az,xY];rfl
  ·have E:l.length<=grownCap w l.length 0 e:=by simp only [grownCap,Question.cut];omega
   have R:((ByteArray.mk l.toArray).data.map λb=>Value.int .u8 b.toNat).size=l.length:=by simp
   refine ⟨_,e,_,rfl,by simp,E,?_,?_,?_⟩
   ·simp only [Lib.bytesCells,Array.size_append,R,Array.size_replicate,aS,bg];have:(ByteArray.mk l.toArray).size=l.length:=rfl;rw [this];omega
   ·simp only [Lib.bytesCells,vK,sF,aS,bg,cV,ow,jO];rw [sj (by simp),gX (by simp)];rw [pD,Array.toList_map,qu];rfl
   ·refine .inr λj X U=>?_;exact absurd U.1 (by simp only;omega)
  ·simp only [VR];exact .inl ⟨_,cT _ _ _,rfl⟩
 ·cases q
theorem Lx {S:Call} (Q:o.op=.call S) (hT:TR ι s.T a.tmps) (hW:WR ι s.H s.nb w) (h:effK P (opd s.T) s.H f (.call S) c=some z):
  ∃e,c e=some z/\fp P ι f o a w e:=by
 obtain ⟨R,args,D⟩:=S;simp only [effK] at h;split at h
 case h_2=>cases h
 rename_i b;obtain ⟨l,Z,q⟩:=au h;clear h;have g:=wj hT Z;have I:(args.map a.eval).toList=args.toList.map a.eval:=by simp
 rw [<-I] at g;generalize hA:args.map a.eval=A at g;have B:∃U,∀w,((do let d <-resolve a.eval ⟨.builtin b,args,D⟩ o.type;invoke d.target d.args):Sem Next).run P w=(builtin b D o.type U A).run P w:=by
  refine ⟨args.map fun | .const _=>true | _=>false,λw=>?_⟩;simp only [resolve,hA,av,az,ax,invoke];rfl
 obtain ⟨U,B⟩:=B;have one:∀{X:Value},A.toList=[X]->A[0]?=some X:=by
  intro X p;have:A=#[X]:=by apply jZ;simpa using p
  simp [this]
 have E:∀{t:TypeId} {r:List TypeId},D.toList=t::r->D[0]?=some t:=by
  intro t r u;rw [<-nW,u];rfl
 have j:∀{n:Int} {rd:List Nat},b=.len->(∀w,(Builtin.len_ D o.type A).run P w=.ok (goInt n) w)->c { val:=some (.i .i64 n),rd:=rd }=some z->∃e,c e=some z/\fp P ι f o a w e:=by
  intro n rd O F hc;subst O;refine ⟨_,hc,.val (x:=.int .i64 n) ?_ (by simp [VR])⟩;simp only [execOp,Q];rw [B w];simp only [builtin,av,F,ax,az,goInt]
 have C:∀{n:Int} {rd:List Nat},b=.cap->(∀w,(Builtin.cap_ D o.type A).run P w=.ok (goInt n) w)->c { val:=some (.i .i64 n),rd:=rd }=some z->∃e,c e=some z/\fp P ι f o a w e:=by
  intro n rd O F hc;subst O;refine ⟨_,hc,.val (x:=.int .i64 n) ?_ (by simp [VR])⟩;simp only [execOp,Q];rw [B w];simp only [builtin,av,F,ax,az,goInt]
 split at q
 ·split at q
  ·rename_i sl;simp only [VRs,VR] at g;obtain ⟨_,_,p,rfl,rfl⟩:=g;split at q
   ·rename_i t r u;split at q
    ·rename_i v;refine j rfl (λw=>?_) q;simp only [Builtin.len_,E u,one p,av,aV v,ax,az];rfl
    ·cases q
   ·cases q
  ·rename_i N Y n cp;simp only [VRs,VR] at g;obtain ⟨_,_,p,⟨r,cap,_,_,_,rfl⟩,rfl⟩:=g;split at q
   ·rename_i t r u;split at q
    ·rename_i v;refine j rfl (λw=>?_) q;simp only [Builtin.len_,E u,one p,av,aV v,ax,az]
    ·cases q
   ·cases q
  ·simp only [VRs,VR] at g;obtain ⟨_,_,p,rfl,rfl⟩:=g;split at q
   ·rename_i t r u;split at q
    ·rename_i v;refine j rfl (λw=>?_) q;simp only [Builtin.len_,E u,one p,av,aV v,ax,az];rfl
    ·cases q
   ·cases q
  ·rename_i N;simp only [VRs,VR] at g;obtain ⟨_,_,p,M,rfl⟩:=g;split at q
   ·rename_i t r u;split at q
    ·rename_i v;split at q
     ·rename_i tr l O;refine j (rd:=[N]) rfl (λw=>?_) q;rcases iv hW O with ⟨q,U,e',fr,L,q2,q4,q5,q6,q7,_⟩ | ⟨L,rfl⟩
      ·rcases M with ⟨q',G,rfl⟩ | ⟨G,_⟩
       ·rw [G] at L;cases L;simp only [Builtin.len_,E u,one p,av,aV v,ax,az,q4]
       ·rw [G] at L;cases L
      ·rcases M with ⟨q,G,_⟩ | ⟨G,V,rfl⟩
       ·rw [G] at L;cases L
       ·simp only [Builtin.len_,E u,one p,av,aV v,ax,az];rfl
     ·cases q
    ·cases q
   ·cases q
  ·rename_i W N jj n _;simp only [VRs,VR] at g;obtain ⟨_,_,p,M,rfl⟩:=g;split at q
   ·rename_i t r u;split at q
    ·rename_i v;refine j rfl (λw=>?_) q;rcases M with ⟨q,cp,off,G,_,_,rfl⟩ | ⟨_,⟨rfl,_⟩,V,rfl⟩
     ·simp only [Builtin.len_,E u,one p,av,aV v,ax,az]
     ·simp only [Builtin.len_,E u,one p,av,aV v,ax,az]
    ·cases q
   ·cases q
  ·simp only [VRs] at g;obtain ⟨X,_,p,_,rfl⟩:=g;split at q
   ·rename_i t r u;split at q
    ·rename_i v;refine j rfl (λw=>?_) q;simp only [Builtin.len_,E u,one p,av,aV v,ax,az]
    ·cases q
   ·cases q
  ·cases q
 ·split at q
  ·rename_i W N jj nn m;simp only [VRs,VR] at g;obtain ⟨_,_,p,M,rfl⟩:=g;split at q
   ·rename_i t r u;split at q
    ·rename_i v;refine C rfl (λw=>?_) q;rcases M with ⟨q,cp,off,G,⟨_,hc⟩,_,rfl⟩ | ⟨_,⟨_,hc⟩,V,rfl⟩
     ·have:=hc m rfl;subst this;simp only [Builtin.cap_,E u,one p,av,aV v,ax,az]
     ·have:=hc m rfl;subst this;simp only [Builtin.cap_,E u,one p,av,aV v,ax,az]
    ·cases q
   ·cases q
  ·rename_i N Y nn m;simp only [VRs,VR] at g;obtain ⟨_,_,p,⟨qq,cp,G,hc,_,rfl⟩,rfl⟩:=g;split at q
   ·rename_i t r u;split at q
    ·rename_i v;refine C rfl (λw=>?_) q;have:=hc m rfl;subst this;simp only [Builtin.cap_,E u,one p,av,aV v,ax,az]
    ·cases q
   ·cases q
  ·simp only [VRs,VR] at g;obtain ⟨_,_,p,rfl,rfl⟩:=g;split at q
   ·rename_i t r u;split at q
    ·rename_i v;refine C rfl (λw=>?_) q;simp only [Builtin.cap_,E u,one p,av,aV v,ax,az];rfl
    ·cases q
   ·cases q
  ·cases q
 ·split at q
  ·rename_i k x k' y;split at q
   ·rename_i J;have J:=jL J;subst J;simp only [VRs,VR] at g;obtain ⟨_,_,p,rfl,_,_,rfl,rfl,rfl⟩:=g;refine ⟨_,q,.val (x:=.int k (cond (decide (y<x)) y x)) ?_ (by simp [VR])⟩;simp only [execOp,Q];rw [B w];simp only [builtin,av,Builtin.min_,p,List.foldlM,Builtin.min2,az,ax];by_cases K:y<x<;>simp [K]
   ·cases q
  ·cases q
 ·split at q
  ·rename_i k x k' y;split at q
   ·rename_i J;have J:=jL J;subst J;simp only [VRs,VR] at g;obtain ⟨_,_,p,rfl,_,_,rfl,rfl,rfl⟩:=g;refine ⟨_,q,.val (x:=.int k (cond (decide (y>x)) y x)) ?_ (by simp [VR])⟩;simp only [execOp,Q];rw [B w];simp only [builtin,av,Builtin.max_,p,List.foldlM,Builtin.max2,az,ax];by_cases K:y>x<;>simp [K]
   ·cases q
  ·cases q
 ·cases q
theorem Sv {op:UnOp} {x:V} {X:Value} {c:V->Option α} (h:unK op x c=some z) (hx:VR ι x X) (w:World):
  ∃v R,c v=some z/\VR ι v R/\(Op.unary op X).run P w=.ok R w:=by
 unfold unK at h;split at h
 ·simp only [VR] at hx;subst hx;exact ⟨_,_,h,rfl,rfl⟩
 ·simp only [VR] at hx;subst hx;exact ⟨_,_,h,rfl,rfl⟩
 ·cases h
theorem Ky {x:Operand} {j:Bool} (n:o.op=.next x j) (A:TR ι s.T a.tmps) (E:WR ι s.H s.nb w) (h:effK P (opd s.T) s.H f (.next x j) c=some z):
  ∃e,c e=some z/\fp P ι f o a w e:=by
 simp only [effK] at h;split at h
 case h_2=>cases h
 rename_i b hx;have q:=bh A hx;simp only [VR] at q;obtain ⟨r,p,v⟩:=q;split at h
 case h_2=>cases h
 rename_i l pos B;obtain ⟨F,ob,t,y,m⟩:=(E.blk b _ B (by simp)).real (by simp);rw [p] at t;cases t;simp only [BR] at m;subst m;have i:(ByteArray.mk l.toArray).size=l.length:=rfl;have d:(getObj r.r).run P w=.ok (.stringIter ⟨l.toArray⟩ pos) w:=by simp [getObj,Sem.run,y]
 cases hc:Nat.blt pos l.length with
 | false=>
  rw [hc] at h;have D:¬pos<l.length:=λg=>by rw [show Nat.blt pos l.length=true from cU g] at hc;cases hc
  refine ⟨_,h,.val (x:=.tuple #[.bool false]) ?_ (by simp [VR,VRs])⟩;simp only [execOp,n,v,Instr.next,av,d,ax,i,D,aG,az]
 | true=>
  rw [hc] at h;have g:pos<l.length:=aD hc;refine ⟨_,h,?_⟩;unfold fp;have k:∀ob,(Go.setObj r.r ob).run P w=.ok () (setObj w r.r ob):=by
   intro ob;simp [Go.setObj,Sem.run,y,setObj]
  refine ⟨r,p,λ_=>⟨.stringIter ⟨l.toArray⟩ (pos+(dec l pos).2),.value (.tuple #[.bool true,.int .i64 pos,.int .i32 (dec l pos).1]),?_,rfl,.value _ λu C=>by cases C;simp [VR,VRs]⟩⟩;simp only [execOp,n,v,Instr.next,av,d,ax,i,g,aY,k,az,dec,goInt]
theorem D8 {t:List Lf} (x:den t):∀n,(List.replicate n x).flatMap (vals t)=(List.replicate n (vals t x)).flatten
 | 0=>rfl
 | n+1=>by simp [qo,m8,D8 x n]
theorem GN {l:List Value}:∀n:Nat,(List.replicate n l).flatten.length=n*l.length
 | 0=>by simp
 | n+1=>by rw [qo,List.flatten_cons,bB,GN n,fL];omega
theorem GB {l:List Value}:∀(n j:Nat),j<n*l.length->(List.replicate n l).flatten[j]?=l[j%l.length]?
 | 0,j,h=>by simp at h
 | n+1,j,h=>by
  simp only [qo,List.flatten_cons];by_cases a:j<l.length
  ·rw [mi a,ov a]
  ·rw [oe (by omega),GB n _ (by rw [fL] at h;omega),<-Nat.mod_eq_sub_mod (by omega)]
theorem yQ {t:TypeId} {x y:Operand} (Z:o.op=.makeSlice t x y) (M:TR ι s.T a.tmps) (h:effK P (opd s.T) s.H f (.makeSlice t x y) c=some z):
  ∃e,c e=some z/\fp P ι f o a w e:=by
 simp only [effK] at h;obtain ⟨u,D,N⟩:=au h;obtain ⟨v,E,b⟩:=au N;clear h N;have D:=bh M D;have E:=bh M E;split at b
 case h_2=>cases b
 rename_i e S;split at b
 case h_2=>cases b
 rename_i k1 n k2 m _ _;simp only [VR] at D E;obtain ⟨zv,I,b⟩:=au b;split at b
 case h_2=>cases b
 rename_i tr p _ l;split at b
 case h_2=>cases b
 rename_i L;simp only [ay,io] at L;obtain ⟨Q,e2,O,F⟩:=L;have O:=aD O;have F:=aD F;obtain ⟨U,J,b⟩:=au b;obtain ⟨hc,b⟩:=dk b;simp only [ay,cj] at hc;obtain ⟨Y,X,c2⟩:=hc;obtain ⟨zc,i,R,h2,W,_⟩:=tQ ι I;rw [l] at R;cases R;have g:=lV W;rw [uc J] at g;have g:=(mn ι tr U _).1 g;have B:p.size=P.cellsOf e:=by unfold Program.cellsOf;rw [l];rfl
 have hm:m=(m.toNat:Int):=by omega
 have A:=run_make (P:=P) w t e p zc S l h2 k1 k2 n m Y X (by
  rw [hm,<-D5];have:p.bytes*m.toNat<=1048576*67108864:=ui F (by omega);omega) (by omega)
 refine ⟨_,b,.mkR (d:=w.drawn) (q:=(Rf.of w.heap.size (n.toNat) (m.toNat))) (x:=.slice (some ⟨w.heap.size,0,none⟩) n.toNat m.toNat) (ob:=.cells (madeCells zc.cells (m.toNat*p.size)) e) ?_ rfl rfl ?_ ?_⟩
 ·simp only [execOp,Z,D,E,av,A,ax,az]
 ·have G:(madeCells zc.cells (m.toNat*p.size)).size=m.toNat*p.size:=size_madeCells _ _;refine ⟨_,e,_,rfl,by simp,by simp only;omega,by rw [G,B,Q];simp,?_,.inr (qJ _)⟩;simp only [jO];rw [D8,List.length_replicate,<-g];apply xj;intro j;have k:zc.cells.toList.length=tr.length:=by rw [g,fA]
  have C:zc.cells.size=tr.length:=by simpa using k
  have V:n.toNat*tr.length<=m.toNat*tr.length:=mK _ (by omega);by_cases K:j<n.toNat*tr.length
  ·rw [oc K,GB n.toNat j (by rw [k];exact K),k];have r:j%tr.length<zc.cells.size:=by rw [C];exact oI _ (by omega)
   simp only [madeCells,B,<-Q,C];rw [nW,Array.getElem?_map,Array.getElem?_range];simp [show j<m.toNat*tr.length by omega,r]
  ·rw [eF (by rw [dx];omega),eF (by rw [GN,k];omega)]
 ·simp only [VR];exact .inl ⟨_,cT _ _ _,rfl⟩
theorem RV {op:BinOp} {t:TypeId} {x y:Operand} {u v:V} {r:Bool} {X Y:Value} (h:niK P op t x y u v=some r) (hx:VR ι u X) (hy:VR ι v Y) (w:World):
  (eqGuard op t x y X Y).run P w=.ok () w/\(binOp op t X Y).run P w=.ok (.bool r) w:=by
 unfold niK at h;split at h
 case h_2=>cases h
 simp only [VR] at hx hy;subst hx hy;split at h
 case h_2=>cases h
 rename_i hc;split at h
 case h_2=>cases h
 rename_i f d;have c:∀o:BinOp,o=.eql\/o=.neq->(eqGuard o t x y .nilIface .nilIface).run P w=.ok () w:=by
  intro o e;have a:(∃v,x=.const v)\/∃v,y=.const v:=by
   rw [gC] at hc;refine hc.imp (λh=>?_) (λh=>?_)
   ·cases x<;>simp_all [EY]
   ·cases y<;>simp_all [EY]
  rcases a with ⟨v,rfl⟩ | ⟨v,rfl⟩<;>rcases e with rfl | rfl<;>simp [eqGuard]
 have b:(Op.equal t .nilIface .nilIface).run P w=.ok true w:=by rw [dJ,Op.equalIn];simp [aV d]
 split at h
 ·simp only [am] at h;subst h;exact ⟨c _ (.inl rfl),by simp [binOp,b]⟩
 ·simp only [am] at h;subst h;exact ⟨c _ (.inr rfl),by simp [binOp,b]⟩
 ·cases h
theorem jJ {t e:TypeId} {i:TypeInfo} (c:P.underlying t=some (.slice e)) (hi:P.info? e=some i) {n cp:Nat} {a:Option Addr} {k k':IntKind} {h m:Int} {H M:Nat} (d:bx n m=some M) (g:bx M h=some H) (p:n<=cp) (w:World):
  (Instr.sliceAt t (.slice a n cp) none (some (.int k h)) (some (.int k' m))).run P w=.ok (.slice a H M) w:=by
 obtain ⟨m0,m1,rfl⟩:=kD d;obtain ⟨f,l,rfl⟩:=kD g;have j:=run_sliceBound (P:=P) w k' m cp .slice3Acap m0 (by omega);have b:=run_sliceBound (P:=P) w k h m.toNat .slice3B f l;simp only [Instr.sliceAt,Instr.slice,av,aV c,ax,Instr.sliceBounds,aY,j,b,az,eN hi,vQ,Nat.zero_mul];split
 ·rfl
 ·cases a with
  | none=>rfl
  | some q=>obtain ⟨r,o,x⟩:=q;simp [Addr.add]
theorem FO {t:TypeId} {x mx:Operand} {lo hi:Option Operand} (J:o.op=.slice t x lo hi (some mx)) (N:TR ι s.T a.tmps) (W:WR ι s.H s.nb w) (h:effK P (opd s.T) s.H f (.slice t x lo hi (some mx)) c=some z):
  ∃e,c e=some z/\fp P ι f o a w e:=by
 simp only [effK,sg] at h;split at h
 case h_2=>cases h
 rename_i hh;obtain ⟨v,hx,d⟩:=au h;clear h;have C:=bh N hx;clear hx;split at d
 case h_2=>cases d
 rename_i k1 Y k2 m1 L K;have D:=bh N L;have E:=bh N K;simp only [VR] at D E;split at d
 case h_2=>cases d
 rename_i e F;split at d
 case h_2=>cases d
 rename_i hp;obtain ⟨ti,m⟩:=bL hp;split at d
 ·rename_i b;split at d
  case h_2=>cases d
  rename_i tr l X;split at d
  case h_2=>cases d
  obtain ⟨M,u,G⟩:=au d;obtain ⟨H,p,A⟩:=au G;obtain ⟨m0,m2,S⟩:=kD u;obtain ⟨V,U,R⟩:=kD p;simp only [VR] at C;rcases iv W X with ⟨q,cs,e',fr,B,r2,r4,r5,_,_,_⟩ | ⟨B,rfl⟩
  ·rcases C with ⟨q',g,y⟩ | ⟨g,_⟩
   ·rw [g] at B;cases B;refine ⟨_,A,.val (x:=.slice (some ⟨q.r,q.o,none⟩) H M) ?_ ?_⟩
    ·simp only [execOp,J,y,D,E,av,gN,ee];rw [<-r4,jJ F m u p (by omega) w];rfl
    ·simp only [VR];exact .inl ⟨q,_,_,g,⟨by omega,pm⟩,λ_=>by omega,rfl⟩
   ·rw [g] at B;cases B
  ·rcases C with ⟨q,g,y⟩ | ⟨g,I,y⟩
   ·rw [g] at B;cases B
   ·simp only [bg] at m2;have k:M=0:=by omega
    have i:H=0:=by omega
    subst k i;refine ⟨_,A,.val (x:=.slice I 0 0) ?_ (by unfold VR;exact .inr ⟨g,⟨rfl,pm⟩,I,rfl⟩)⟩;simp only [execOp,J,y,D,E,av,gN,ee];rw [jJ F m (n:=0) (M:=0) u p (by omega) w];rfl
 ·rename_i zz b j n _;obtain ⟨M,u,G⟩:=au d;obtain ⟨H,p,A⟩:=au G;obtain ⟨m0,m2,S⟩:=kD u;obtain ⟨V,U,R⟩:=kD p;simp only [VR] at C;rcases C with ⟨q,cp,off,g,⟨O,_⟩,Z,y⟩ | ⟨g,⟨O,_⟩,I,y⟩
  ·refine ⟨_,A,.val (x:=.slice (some ⟨q.r,off,none⟩) H M) ?_ ?_⟩
   ·simp only [execOp,J,y,D,E,av,gN,ee];rw [jJ F m u p O w];rfl
   ·simp only [VR];exact .inl ⟨q,_,_,g,⟨by omega,pm⟩,λQ=>Z (by omega),rfl⟩
  ·subst O;have k:M=0:=by omega
   have i:H=0:=by omega
   subst k i;refine ⟨_,A,.val (x:=.slice I 0 0) ?_ (by unfold VR;exact .inr ⟨g,⟨rfl,pm⟩,I,rfl⟩)⟩;simp only [execOp,J,y,D,E,av,gN,ee];rw [jJ F m (n:=0) (M:=0) u p (by omega) w];rfl
 ·obtain ⟨M,u,G⟩:=au d;obtain ⟨H,p,A⟩:=au G;obtain ⟨m0,m2,S⟩:=kD u;obtain ⟨V,U,R⟩:=kD p;simp only [VR] at C;have k:M=0:=by omega
  have i:H=0:=by omega
  subst k i;refine ⟨_,A,.val (x:=.slice none 0 0) ?_ (by simp only [VR])⟩;simp only [execOp,J,C,D,E,av,gN,ee];rw [jJ F m (n:=0) (M:=0) u p (by omega) w];rfl
 ·cases d
theorem RU {op:BinOp} {t:TypeId} {u v:V} {r:Bool} {n:Nat} {rd:List Nat} {X Y:Value} {H:List (Nat×Blk)} {nb:Nat} (h:slN P op t u v=some r) (a:slL H u=some (n,rd)) (s:0<n) (x:WR ι H nb w) (hx:VR ι u X) (hy:VR ι v Y) (p q:Operand):
  (eqGuard op t p q X Y).run P w=.ok () w/\(binOp op t X Y).run P w=.ok (.bool r) w:=by
 unfold slN at h;split at h
 case h_2=>cases h
 simp only [VR] at hy;subst hy;have d:∀(A:Addr) (n c:Nat),X=.slice (some A) n c->P.underlying t=(P.underlying t)->∀e,P.underlying t=some (.slice e)->
   ((eqGuard .eql t p q X (.slice none 0 0)).run P w=.ok () w/\(binOp .eql t X (.slice none 0 0)).run P w=.ok (.bool false) w)/\
   ((eqGuard .neq t p q X (.slice none 0 0)).run P w=.ok () w/\(binOp .neq t X (.slice none 0 0)).run P w=.ok (.bool (!false)) w):=by
  rintro A n c rfl _ e g;exact mW p q (.inl (by simp)) (.inl (by simp)) (by simp) (by rw [dJ,Op.equalIn];simp [aV g])
 have b:∀(A:Addr) (n c:Nat),X=.slice (some A) n c->slT P op t=some r->(eqGuard op t p q X (.slice none 0 0)).run P w=.ok () w/\(binOp op t X (.slice none 0 0)).run P w=.ok (.bool r) w:=by
  intro A n c y h;unfold slT at h;split at h
  case h_2=>cases h
  rename_i e g;obtain ⟨m1,m2⟩:=d A n c y rfl e g;split at h
  ·simp only [am] at h;subst h;exact m1
  ·simp only [am] at h;subst h;exact m2
  ·cases h
 split at h
 ·rename_i c;simp only [slL] at a;split at a
  case h_2=>cases a
  rename_i tr l B;simp only [am,cZ] at a;obtain ⟨rfl,_⟩:=a;simp only [VR] at hx;rcases iv x B with ⟨D,I,E,fr,i,G,r4,_⟩ | ⟨i,rfl⟩
  ·rcases hx with ⟨o,f,k⟩ | ⟨f,_⟩
   ·exact b _ _ _ k h
   ·rw [f] at i;cases i
  ·simp at s
 ·rename_i z c j m F;simp only [slL,am,cZ] at a;obtain ⟨rfl,_⟩:=a;simp only [VR] at hx;rcases hx with ⟨o,K,J,f,k,L,C⟩ | ⟨f,⟨k,_⟩,_⟩
  ·exact b _ _ _ C h
  ·omega
 ·cases h
theorem BU {t:TypeId} {x:Option Operand} (b:o.op=.makeMap t x) (h:effK P (opd s.T) s.H f (.makeMap t x) c=some z):∃e,c e=some z/\fp P ι f o a w e:=by
 simp only [effK] at h;split at h
 case h_2=>cases h
 split at h
 case h_2=>cases h
 refine ⟨_,h,.mk (x:=.map (some w.heap.size)) (ob:=.map #[] 0) ?_ ⟨#[],0,rfl,rfl⟩ (by simp only [VR];exact ⟨_,cT _ _ _,rfl⟩)⟩;simp only [execOp,b,gN,av];rfl
theorem Nb {H:List (Nat×Blk)} {nb b:Nat} {w:World} (h:WR ι H nb w) {k:IntKind} {l:List (Int×Nat)} (g:look H b=some (.mp k l)):
  ∃q c a,ι b=some (some q)/\w.heap[q.r]?=some (.map c a)/\c.toList.map (λe=>(e.key,e.val))=l.map λp=>(Value.int k p.1,fnV p.2 #[]):=by
 obtain ⟨q,o,i,d,c,a,rfl,f⟩:=(h.blk b _ g (by simp)).real (by simp);exact ⟨q,c,a,i,d,f⟩
theorem Hl {α:Type} {k:IntKind} {n:Int} {c:Nat->Option α} {z:α}:∀(b:List MapEntry) (l:List (Int×Nat)) (i:Nat),b.map (λe=>(e.key,e.val))=l.map (λp=>(Value.int k p.1,fnV p.2 #[]))->mapK l n c=some z->
  ∃g j,c g=some z/\Instr.findNow (.int k) (.int k n) b i=some (some (j,fnV g #[]))
 | [],[],_,_,h=>by cases h
 | [],_::_,_,a,_=>by simp at a
 | _::_,[],_,a,_=>by simp at a
 | e::b,(m,g)::l,i,a,h=>by
  simp only [fa,EV,cZ] at a;obtain ⟨⟨f,o⟩,q⟩:=a;simp only [mapK] at h;cases d:(n==m) with
  | true=>
   rw [d] at h;exact ⟨g,i,h,by simp only [Instr.findNow,f,Instr.sameNow,aY,d,o]⟩
  | false=>
   rw [d] at h;obtain ⟨r,j,s,t⟩:=Hl b l (i+1) q h;exact ⟨r,j,s,by simp only [Instr.findNow,f,Instr.sameNow,aY,d];exact t⟩
theorem Gk {t:TypeId} {m x:Operand} {ok:Bool} (E:o.op=.lookup t m x ok) (y:TR ι s.T a.tmps) (D:WR ι s.H s.nb w) (h:effK P (opd s.T) s.H f (.lookup t m x ok) c=some z):
  ∃e,c e=some z/\fp P ι f o a w e:=by
 simp only [effK] at h;split at h
 case h_2=>cases h
 rename_i b K;split at h
 case h_2=>cases h
 rename_i k n hx;split at h
 case h_2=>cases h
 rename_i kt R A;split at h
 case h_2=>cases h
 rename_i k2 u;split at h
 case h_2=>cases h
 rename_i k1 l I;split at h
 case h_2=>cases h
 rename_i d;simp only [ay] at d;have N:=jL d.1;have B:=jL d.2;subst N B;have p:=bh y K;have v:=bh y hx;simp only [VR] at p v;obtain ⟨q,O,J⟩:=p;obtain ⟨Q,F,i,r,C,L⟩:=Nb D I;rw [O] at r;cases r;obtain ⟨g,j,G,M⟩:=Hl F.toList l 0 L h;refine ⟨_,G,.val (x:=fnV g #[]) ?_ (by simp only [VR];exact ⟨#[],rfl,by simp [VRs]⟩)⟩;simp only [execOp,E,J,v,av,Instr.lookup,aV A,ax,MapKept.run_getObj_map C,az,
  MapKept.run_checkKey (k:=.int k2 n) u (by simp [MapKept.IsKey]),MapKept.run_findKey u M]
 rfl
theorem FP {t:TypeId} {m x y:Operand} (Y:o.op=.insert t m x y) (G:TR ι s.T a.tmps) (X:WR ι s.H s.nb w) (h:effK P (opd s.T) s.H f (.insert t m x y) c=some z):
  ∃e,c e=some z/\fp P ι f o a w e:=by
 simp only [effK] at h;split at h
 case h_2=>cases h
 rename_i b hm;split at h
 case h_2=>cases h
 rename_i k n g hx hy;split at h
 case h_2=>cases h
 rename_i kt et U;split at h
 case h_2=>cases h
 rename_i k2 O;split at h
 case h_2=>cases h
 rename_i k1 l Z;split at h
 case h_2=>cases h
 rename_i A;simp only [ay] at A;obtain ⟨F,E,C⟩:=A;have e1:=jL F;have V:=jL E;subst e1 V;have J:=bh G hm;have Q:=bh G hx;have M:=bh G hy;simp only [VR] at J Q M;obtain ⟨q,S,h2⟩:=J;obtain ⟨cs,h8,K⟩:=M;simp only [VRs] at K;have I:cs=#[]:=by
  apply jZ;simpa using K
 subst I;obtain ⟨q',D,d,L,N,R⟩:=Nb X Z;rw [S] at L;cases L;have B:∀e∈D.toList,∃p∈l,e.key=.int k2 p.1:=by
  intro e u;have:(e.key,e.val)∈l.map λp=>(Value.int k2 p.1,fnV p.2 #[]):=by rw [<-R];exact dr.2 ⟨e,u,rfl⟩
  obtain ⟨p,hp,i⟩:=dr.1 this;simp only [cZ] at i;exact ⟨p,hp,i.1.symm⟩
 have r:MapKept.IsKey (.int k2) (.int k2 n):=by simp [MapKept.IsKey]
 have v:Instr.findNow (.int k2) (.int k2 n) D.toList 0=some none:=by
  rcases MapKept.findNow_spec r D.toList 0 (λe u=>by obtain ⟨p,_,hp⟩:=B e u;rw [hp];simp [MapKept.IsKey]) with ⟨h,_⟩ | ⟨j,e,_,W,u⟩
  ·exact h
  ·exfalso;obtain ⟨p,hp,i⟩:=B e (dT W);rw [i] at u;have:=(cr.1 C) p hp;simp only [Value.int.injEq,jm] at u;simp [u] at this
 refine ⟨_,h,?_⟩;unfold fp;refine ⟨q,S,λ_=>⟨.map (D.push { key:=.int k2 n,val:=fnV g #[],born:=d }) (d+1),.skip,?_,⟨_,_,rfl,?_⟩,.skip rfl⟩⟩
 ·simp only [execOp,Y,h2,Q,h8,av,Instr.mapUpdate,aV U,ax,MapKept.run_getObj_map N,MapKept.run_checkKey (k:=.int k2 n) O r,MapKept.run_findKey O v,MapKept.run_setObj_map _ N,az];rfl
 ·rw [Array.toList_push,BZ,BZ,R];rfl
theorem HY (k:TR ι s.T a.tmps) (C:WR ι s.H s.nb w) (Z:ι f=none) (h:effK P (opd s.T) s.H f o.op c=some z):∃e,c e=some z/\fp P ι f o a w e:=by
 cases j:o.op with
 | move x=>
  rw [j] at h;simp only [effK] at h;obtain ⟨v,p,h⟩:=au h;exact ⟨_,h,.val (by simp only [execOp,j,az]) (bh k p)⟩
 | assign x=>
  rw [j] at h;simp only [effK] at h;obtain ⟨v,p,h⟩:=au h;exact ⟨_,h,.val (by simp only [execOp,j,az]) (bh k p)⟩
 | pick q x y=>
  rw [j] at h;simp only [effK] at h;split at h
  ·rename_i t K;have p:=bh k K;simp only [VR] at p;cases t
   ·simp only [ae] at h;obtain ⟨v,A,h⟩:=au h;exact ⟨_,h,.val (x:=a.eval y) (by simp [execOp,j,p,asBool]) (bh k A)⟩
   ·simp only [aj] at h;obtain ⟨v,A,h⟩:=au h;exact ⟨_,h,.val (x:=a.eval x) (by simp [execOp,j,p,asBool]) (bh k A)⟩
  ·cases h
 | alloc t=>rw [j] at h;exact Ji j h
 | makeMap t x=>rw [j] at h;exact BU j h
 | insert t m x y=>rw [j] at h;exact FP j k C h
 | lookup t m x ok=>rw [j] at h;exact Gk j k C h
 | box t x=>rw [j] at h;exact Ph j k Z h
 | build t ps=>rw [j] at h;exact G1 j k h
 | buildSlice t n ps=>rw [j] at h;exact wu j k Z h
 | load t x=>rw [j] at h;exact KG j k C h
 | makeSlice t x y=>rw [j] at h;exact yQ j k h
 | store t x y=>rw [j] at h;exact Jc j k C h
 | nilCheck x=>
  rw [j] at h;simp only [effK] at h;split at h
  ·rename_i b off hx;have p:=bh k hx;have A:=p;simp only [VR] at p;obtain ⟨r,h5,B⟩:=p;exact ⟨_,h,.val (x:=a.eval x) (by simp [execOp,j,B]) A⟩
  ·rename_i zz b jj off hx;have p:=bh k hx;have A:=p;simp only [VR] at p;obtain ⟨r,h5,B⟩:=p;exact ⟨_,h,.val (x:=a.eval x) (by simp [execOp,j,B]) A⟩
  ·rename_i g l hx;have p:=bh k hx;have A:=p;simp only [VR] at p;obtain ⟨U,B,_⟩:=p;obtain ⟨g',b',c',h7⟩:=wI g U;exact ⟨_,h,.val (x:=a.eval x) (by simp [execOp,j,B,h7]) A⟩
  ·rename_i b off n m hx;have p:=bh k hx;have A:=p;simp only [VR] at p;obtain ⟨r,cp,_,_,_,B⟩:=p;exact ⟨_,h,.val (x:=a.eval x) (by simp [execOp,j,B]) A⟩
  ·rename_i t v hx;have p:=bh k hx;have A:=p;simp only [VR] at p;obtain ⟨y,B,_⟩:=p;exact ⟨_,h,.val (x:=a.eval x) (by simp [execOp,j,B]) A⟩
  ·cases h
 | binOp op t x y yt=>
  rw [j] at h;simp only [effK] at h;obtain ⟨u,J,h⟩:=au h;obtain ⟨v,p,h⟩:=au h;split at h
  ·rename_i r S;have hx:=bh k J;have hy:=bh k p;obtain ⟨I,M⟩:=RV S hx hy w;exact ⟨_,h,.val (x:=.bool r) (by simp only [execOp,j,av,I,M,ax,az]) (by simp [VR])⟩
  split at h
  ·rename_i r S;split at h
   case h_2=>cases h
   rename_i m rd F;obtain ⟨hm,h⟩:=dk h;obtain ⟨I,M⟩:=RU S F (aD hm) C (bh k J) (bh k p) x y;exact ⟨_,h,.val (x:=.bool r) (by simp only [execOp,j,av,I,M,ax,az]) (by simp [VR])⟩
  obtain ⟨R,X,Y,V,I,M⟩:=Pn h (bh k J) (bh k p) x y w;exact ⟨_,Y,.val (x:=X) (by simp only [execOp,j,av,I,M,ax,az]) V⟩
 | unOp op t x=>
  rw [j] at h;simp only [effK] at h;obtain ⟨u,J,h⟩:=au h;obtain ⟨R,X,Y,V,I⟩:=Sv (P:=P) h (bh k J) w;exact ⟨_,Y,.val (x:=X) (by simp only [execOp,j,av,I,ax,az]) V⟩
 | convert sr d x=>rw [j] at h;exact BA j k C h
 | next x str=>rw [j] at h;exact Ky j k C h
 | makeInterface t x=>
  rw [j] at h;simp only [effK] at h;obtain ⟨u,J,h⟩:=au h;have p:=bh k J;split at h
  ·cases h
  ·rename_i d O N;refine ⟨_,h,.val (x:=.iface t (a.eval x)) ?_ (by simp only [VR];exact ⟨_,rfl,p⟩)⟩;simp only [execOp,j,Instr.makeInterface,av,aV N,ax];cases d<;>first | rfl | exact absurd rfl (O _)
  ·cases h
 | makeFunc fn first cap=>
  rw [j] at h;simp only [effK] at h;split at h
  ·rename_i g E;split at h
   case h_2=>cases h
   rename_i hb;obtain ⟨l,F,h⟩:=au h;have G:=wj k F;have D:first=#[]:=by apply jZ;simpa using E
   refine ⟨_,h,.val (x:=.func (.func g) #[] (cap.map a.eval)) ?_ (by simp only [VR];exact ⟨_,(BS hb _).symm,by simpa using G⟩)⟩;simp only [execOp,j,Instr.makeFunc,D,Fo,av,az,ax]
  ·rename_i g _ _ E;split at h
   ·rename_i L;obtain ⟨l,F,h⟩:=au h;have G:=wj k F;have hcap':cap=#[]:=by apply jZ;simpa using L
    refine ⟨_,h,.val (x:=.func (.func g) (first.map a.eval) #[]) ?_ (by simp only [VR];exact ⟨_,(KN g _).symm,by simpa using G⟩)⟩;simp only [execOp,j,Instr.makeFunc,hcap',Fo,av,az,ax]
   ·cases h
  ·cases h
 | slice t x lo hi mx=>
  rw [j] at h;cases mx with
  | none=>exact JI j k C h
  | some m=>exact FO j k C h
 | fieldAddr t x i=>rw [j] at h;exact yo j k h
 | field t x i=>rw [j] at h;exact I9 j k h
 | indexAddr t x i=>rw [j] at h;exact yY j k C h
 | index t x i=>rw [j] at h;exact Ic j k h
 | range t x=>rw [j] at h;exact Jw j k h
 | extract x i=>
  rw [j] at h;simp only [effK] at h;split at h
  ·rename_i l hx;obtain ⟨v,p,h⟩:=au h;have F:=bh k hx;simp only [VR] at F;obtain ⟨U,B,W⟩:=F;obtain ⟨y,hy,Q⟩:=W.get p;have hy':U[i]?=some y:=by simpa using hy
   exact ⟨_,h,.val (x:=y) (by simp [execOp,j,B,Instr.extract,hy']) Q⟩
  ·cases h
 | typeAssert x xt at_ ok=>
  rw [j] at h;simp only [effK] at h;split at h
  case h_2=>cases h
  rename_i t v hx;have p:=bh k hx;simp only [VR] at p;obtain ⟨y,B,hy⟩:=p;split at h
  ·cases h
  ·rename_i d O N;split at h
   case h_2=>cases h
   rename_i K;have K:=bm K;subst K;cases ok with
   | true=>
    refine ⟨_,h,.val (x:=.tuple #[y,.bool true]) ?_ (by simp only [VR,VRs];exact ⟨_,rfl,y,[.bool true],rfl,hy,_,[],rfl,rfl,rfl⟩)⟩;simp only [execOp,j,B,Instr.typeAssert,av,aV N,ax];cases d<;>first | simp | exact absurd rfl (O _)
   | false=>
    refine ⟨_,h,.val (x:=y) ?_ hy⟩;simp only [execOp,j,B,Instr.typeAssert,av,aV N,ax];cases d<;>first | simp | exact absurd rfl (O _)
  ·cases h
 | call cl=>rw [j] at h;exact Lx j k C h
 | _=>rw [j] at h;simp [effK] at h
end ops
end Go.Abs
