
/- The abstract effect of an operation is what the model's own operation does: the operations that make no memory; all of them together.
   Conditions: none; generic over the program. -/
import Derived.Test.YtfiponokimbeeaaGreatDoorAbsG
import Derived.Laws.BytesArg
import Derived.Laws.BytesString
import Derived.Lib.ConvBytes
import Derived.Laws.MakeOwn
import Derived.Deep.AppendSrc
import Derived.MapKept
set_option linter.unusedSimpArgs false
set_option linter.unusedVariables false
namespace Go.Abs
variable {P:Program}
section ops
variable {α:Type} {ι:Inj} {s:St} {a:Act} {w:World} {f:Nat} {o:Oper} {c:Eff->Option α} {z:α}
theorem wW {t:TypeId} {a:Array Field} {fd:Field} {i:Nat} {d:TypeInfo} (b:P.underlying t=some (.struct a)) (c:a[i]?=some fd) (hi:P.info? fd.type=some d)
  (hp:0<P.cellsOf fd.type) (r off:Nat) (w:World):(Instr.fieldAt t (.pointer (some ⟨r,off,none⟩)) i).run P w=.ok (.pointer (some ⟨r,off+fd.offset,none⟩)) w:=by
 simp only [Instr.fieldAt,aw,aV b,ay,c,Instr.sureAddr,aD,fieldPlace,gj hi,show ¬(P.cellsOf fd.type=0) by omega,aA,mZ]
theorem Bj {t:TypeId} {x:Operand} {i:Nat} (u:o.op=.fieldAddr t x i) (q:TR ι s.T a.tmps) (h:effK P (opd s.T) s.H f (.fieldAddr t x i) c=some z):
  ∃e,c e=some z/\gJ P ι f o a w e:=by
 simp only [effK] at h;split at h
 ·rename_i b off hx;split at h
  ·rename_i y p;split at h
   ·rename_i fd m;split at h
    ·rename_i hp;obtain ⟨A,g⟩:=bZ hp;have k:=bu q hx;simp only [VR] at k;obtain ⟨r,n,l⟩:=k;have d:=wW p (by simpa using m) g (aI hp) r.r off w;exact ⟨_,h,.val (x:=.pointer (some ⟨r.r,off+fd.offset,none⟩)) (by simp only [execOp,u,l,aw,d,ay,aD]) (by simp only [VR,pp];exact ⟨r,n,rfl⟩)⟩
    ·cases h
   ·cases h
  ·cases h
 ·rename_i v b j off hx;split at h
  ·rename_i y p;split at h
   ·rename_i fd m;split at h
    ·rename_i hp;obtain ⟨A,g⟩:=bZ hp;have k:=bu q hx;simp only [VR] at k;obtain ⟨r,n,l⟩:=k;have d:=wW p (by simpa using m) g (aI hp) r.r (r.o+(j*v+off)) w;exact ⟨_,h,.val (x:=.pointer (some ⟨r.r,r.o+(j*v+off)+fd.offset,none⟩)) (by simp only [execOp,u,l,aw,d,ay,aD]) (by simp only [VR,pp];exact ⟨r,n,by rw [gY,gY]⟩)⟩
    ·cases h
   ·cases h
  ·cases h
 ·cases h
theorem Lp {t:TypeId} {x:Operand} {i:Nat} (n:o.op=.field t x i) (A:TR ι s.T a.tmps) (h:effK P (opd s.T) s.H f (.field t x i) c=some z):
  ∃e,c e=some z/\gJ P ι f o a w e:=by
 simp only [effK] at h;split at h
 ·rename_i l hx;have r:=bu A hx;simp only [VR] at r;obtain ⟨u,p,j⟩:=r;split at h
  ·rename_i B q;split at h
   ·rename_i fd C;have hf':B[i]?=some fd:=by simpa using C
    split at h
    ·rename_i b;split at h
     ·have E:∃d,P.underlying fd.type=some d:=by
       unfold bW at b;split at b
       ·exact ⟨_,by assumption⟩
       ·exact ⟨_,by assumption⟩
       ·cases b
      obtain ⟨d',g⟩:=E;obtain ⟨F,k⟩:=mW g;refine ⟨_,h,.val (x:=.agg (u.extract fd.offset (fd.offset+P.cellsOf fd.type))) ?_ (pU (j.extract _ _))⟩;simp only [execOp,n,p,Instr.field,aw,aV q,ay,hf',asAgg,aD,part,kA g,b,aJ,gj k]
     ·cases h
    ·rename_i b;split at h
     ·rename_i d' g;obtain ⟨v,D,h⟩:=av h;obtain ⟨y,hy,m⟩:=j.get D;have hy':u[fd.offset]?=some y:=by simpa using hy
      refine ⟨_,h,.val (x:=y) ?_ m⟩;simp only [execOp,n,p,Instr.field,aw,aV q,ay,hf',asAgg,aD,part,kA g,b,br,aA,hy']
     ·cases h
   ·cases h
  ·cases h
 ·cases h
theorem oK {t e:TypeId} {m:Nat} {d:TypeInfo} (a:P.underlying t=some (.array m e)) (hi:P.info? e=some d) (k:IntKind) {n:Int} (c:0<=n) (b:n<m) (r off:Nat) (w:World):
  (Instr.indexAt t (.pointer (some ⟨r,off,none⟩)) (.int k n)).run P w=.ok (.pointer (some ⟨r,off+n.toNat*P.cellsOf e,none⟩)) w:=by
 simp only [Instr.indexAt,asIntOf,aw,aD,ay,aV a,Instr.sureAddr,c,b,and_self,aJ,gj hi,mZ]
theorem lG {t e:TypeId} {m cp:Nat} {d:TypeInfo} (a:P.underlying t=some (.slice e)) (hi:P.info? e=some d) (k:IntKind) {n:Int} (c:0<=n) (b:n<m) (r off:Nat) (w:World):
  (Instr.indexAt t (.slice (some ⟨r,off,none⟩) m cp) (.int k n)).run P w=.ok (.pointer (some ⟨r,off+n.toNat*P.cellsOf e,none⟩)) w:=by
 simp only [Instr.indexAt,asIntOf,aw,aD,ay,aV a,c,b,and_self,aJ,gj hi,mZ]
theorem A3 {t:TypeId} {x i:Operand} (F:o.op=.indexAddr t x i) (E:TR ι s.T a.tmps) (O:WR ι s.H s.nb w) (h:effK P (opd s.T) s.H f (.indexAddr t x i) c=some z):
  ∃e,c e=some z/\gJ P ι f o a w e:=by
 simp only [effK] at h;split at h
 case h_2=>cases h
 rename_i k n hi;have u:=bu E hi;simp only [VR] at u;split at h
 ·rename_i m e D;split at h
  ·rename_i b off hx;have p:=bu E hx;simp only [VR] at p;obtain ⟨r,v,C⟩:=p;split at h
   ·rename_i hp;obtain ⟨I,g⟩:=bZ hp;obtain ⟨j,B,h⟩:=av h;obtain ⟨g0,A,rfl⟩:=ow B;have d:=oK D g k g0 A r.r off w;exact ⟨_,h,.val (x:=.pointer (some ⟨r.r,off+n.toNat*P.cellsOf e,none⟩)) (by simp only [execOp,F,C,u,aw,d,ay,aD]) (by simp only [VR,pp,yg];exact ⟨r,v,rfl⟩)⟩
   ·cases h
  ·rename_i J b K off hx;have p:=bu E hx;simp only [VR] at p;obtain ⟨r,v,C⟩:=p;split at h
   ·rename_i hp;obtain ⟨I,g⟩:=bZ hp;obtain ⟨j,B,h⟩:=av h;obtain ⟨g0,A,rfl⟩:=ow B;have d:=oK D g k g0 A r.r (r.o+(K*J+off)) w;exact ⟨_,h,.val (x:=.pointer (some ⟨r.r,r.o+(K*J+off)+n.toNat*P.cellsOf e,none⟩)) (by simp only [execOp,F,C,u,aw,d,ay,aD]) (by simp only [VR,pp,yg];exact ⟨r,v,by rw [gY,gY]⟩)⟩
   ·cases h
  ·cases h
 ·rename_i e D;split at h
  ·rename_i b off m cp hx;have p:=bu E hx;simp only [VR] at p;obtain ⟨r,cap,v,_,_,C⟩:=p;split at h
   ·rename_i hp;obtain ⟨I,g⟩:=bZ hp;obtain ⟨j,B,h⟩:=av h;obtain ⟨g0,A,rfl⟩:=ow B;have d:=lG (cp:=cap) D g k g0 A r.r off w;exact ⟨_,h,.val (x:=.pointer (some ⟨r.r,off+n.toNat*P.cellsOf e,none⟩)) (by simp only [execOp,F,C,u,aw,d,ay,aD]) (by simp only [VR,pp,yg];exact ⟨r,v,rfl⟩)⟩
   ·cases h
  ·rename_i b hx;have p:=bu E hx;simp only [VR] at p;split at h
   case h_2=>cases h
   rename_i tr l M;split at h
   case h_2=>cases h
   rename_i hp;simp only [az,jt] at hp;obtain ⟨L,hp⟩:=hp;obtain ⟨I,g⟩:=bZ hp;obtain ⟨j,B,h⟩:=av h;obtain ⟨g0,A,rfl⟩:=ow B;rcases jA O M with ⟨q,U,X,fr,G,S,N,W,Q,Y,Z⟩ | ⟨G,rfl⟩
   ·rcases p with ⟨R,v,C⟩ | ⟨v,_⟩
    ·rw [v] at G;cases G;have g1':n<(q.n:Int):=by rw [<-N];exact A
     have d:=lG (cp:=q.k) D g k g0 g1' q.r q.o w;exact ⟨_,h,.val (x:=.pointer (some ⟨q.r,q.o+n.toNat*P.cellsOf e,none⟩)) (by simp only [execOp,F,C,u,aw,d,ay,aD]) (by simp only [VR];exact ⟨q,v,by rw [cN]⟩)⟩
    ·rw [v] at G;cases G
   ·simp at A;omega
  ·rename_i J b V m _ hx;have p:=bu E hx;simp only [VR] at p;split at h
   case h_2=>cases h
   rename_i hp;simp only [az,jt] at hp;obtain ⟨rfl,hp⟩:=hp;obtain ⟨I,g⟩:=bZ hp;obtain ⟨j,B,h⟩:=av h;obtain ⟨g0,A,rfl⟩:=ow B;rcases p with ⟨q,cp,off,v,_,y,C⟩ | ⟨_,⟨rfl,_⟩,_⟩
   ·have d:=lG (cp:=cp) D g k g0 A q.r off w;have y:=y (by omega);exact ⟨_,h,.val (x:=.pointer (some ⟨q.r,off+n.toNat*P.cellsOf e,none⟩)) (by simp only [execOp,F,C,u,aw,d,ay,aD]) (by simp only [VR,pp];exact ⟨q,v,by rw [y,gU,cN,gY]⟩)⟩
   ·omega
  ·cases h
 ·cases h
theorem jn {t e:TypeId} {m:Nat} {d:TypeInfo} (f:P.underlying t=some (.array m e)) (hi:P.info? e=some d) (k:IntKind) {n:Int} (c:0<=n) (b:n<m) (a:Array Value) (w:World):
  (Instr.index t (.agg a) (.int k n)).run P w=(part e a (n.toNat*P.cellsOf e)).run P w:=by
 simp only [Instr.index,asIntOf,aw,aD,ay,aV f,c,b,and_self,aJ,gj hi]
theorem qO {t:TypeId} {d:TypeDesc} (b:P.underlying t=some d) (c:bW P t=false) {a:Array Value} {off:Nat} {x:Value} (hx:a[off]?=some x) (w:World):
  (part t a off).run P w=.ok x w:=by
 simp only [part,aw,kA b,c,ay,br,aA,hx,aD]
theorem vg {t:TypeId} {d:TypeDesc} (a:P.underlying t=some d) (c:bW P t=true) (b:Array Value) (off:Nat) (w:World):
  (part t b off).run P w=.ok (.agg (b.extract off (off+P.cellsOf t))) w:=by
 obtain ⟨i,hi⟩:=mW a;simp only [part,aw,kA a,c,ay,aJ,gj hi,aD]
theorem vu {t:TypeId} (f:P.underlying t=some .string) {l:aa} {n:Int} {b:UInt8} (h:sx l n=some b) (k:IntKind) (w:World):
  (Instr.index t (.string ⟨l.toArray⟩) (.int k n)).run P w=.ok (.int .u8 b.toNat) w:=by
 unfold sx at h;split at h
 ·rename_i e;have d:(ByteArray.mk l.toArray)[n.toNat]?=some b:=by
   have a:n.toNat<l.length:=by
    rcases aH n.toNat l.length with c | c
    ·exact c
    ·rw [gW c] at h;cases h
   have hs:n.toNat<(ByteArray.mk l.toArray).size:=a;rw [getElem?_pos (ByteArray.mk l.toArray) n.toNat hs];rw [be a] at h;simp only [au] at h ⊢;exact h
  simp only [Instr.index,asIntOf,aw,aD,ay,aV f,e,aJ,d]
 ·cases h
theorem KV {t:TypeId} {x i:Operand} (E:o.op=.index t x i) (G:TR ι s.T a.tmps) (h:effK P (opd s.T) s.H f (.index t x i) c=some z):
  ∃e,c e=some z/\gJ P ι f o a w e:=by
 simp only [effK] at h;split at h
 case h_2=>cases h
 rename_i k n hi;have d:=bu G hi;simp only [VR] at d;split at h
 ·rename_i m e D;split at h
  ·cases h
  rename_i hp;obtain ⟨R,q⟩:=bZ hp;split at h
  ·rename_i k' m' l hx;have g:=bu G hx;simp only [VR] at g;obtain ⟨O,F⟩:=g;split at h
   ·rename_i k2 p;split at h
    ·rename_i r;have r:=bK r;obtain ⟨j,u,h⟩:=av h;obtain ⟨g0,A,rfl⟩:=ow u;obtain ⟨v,g,h⟩:=av h;refine ⟨_,h,.val (x:=.int k' v) ?_ (by simp [VR])⟩;simp only [execOp,E,F,d,aw,jn D q k g0 A];rw [qO p (by simp [bW,p]) (x:=.int k' v) (by simp [r,g])];rfl
    ·cases h
   ·cases h
  ·rename_i l hx;have g:=bu G hx;simp only [VR] at g;obtain ⟨J,F,B⟩:=g;split at h
   ·rename_i U p;obtain ⟨j,u,h⟩:=av h;obtain ⟨g0,A,rfl⟩:=ow u;refine ⟨_,h,.val (x:=.agg (J.extract (n.toNat*P.cellsOf e) (n.toNat*P.cellsOf e+P.cellsOf e))) ?_ (pU (B.extract _ _))⟩;simp only [execOp,E,F,d,aw,jn D q k g0 A,vg p (by simp [bW,p]),ay,aD]
   ·rename_i m2 N p;obtain ⟨j,u,h⟩:=av h;obtain ⟨g0,A,rfl⟩:=ow u;refine ⟨_,h,.val (x:=.agg (J.extract (n.toNat*P.cellsOf e) (n.toNat*P.cellsOf e+P.cellsOf e))) ?_ (pU (B.extract _ _))⟩;simp only [execOp,E,F,d,aw,jn D q k g0 A,vg p (by simp [bW,p]),ay,aD]
   ·rename_i p;split at h
    ·rename_i r;have r:=bK r;split at h
     ·rename_i S I;obtain ⟨j,u,h⟩:=av h;obtain ⟨g0,A,rfl⟩:=ow u;obtain ⟨v,g,h⟩:=av h;obtain ⟨y,hy,C⟩:=B.get (j:=n.toNat) (v:=.s v) (by rw [tO I];simp [g]);refine ⟨_,h,.val (x:=y) ?_ C⟩;simp only [execOp,E,F,d,aw,jn D q k g0 A];rw [qO p (by simp [bW,p]) (x:=y) (by simpa [r] using hy)];rfl
     ·cases h
    ·cases h
   ·rename_i d' L Q M p;split at h
    ·rename_i r;have r:=bK r;obtain ⟨j,u,h⟩:=av h;obtain ⟨g0,A,rfl⟩:=ow u;obtain ⟨v,g,h⟩:=av h;obtain ⟨y,hy,C⟩:=B.get g;refine ⟨_,h,.val (x:=y) ?_ C⟩;simp only [execOp,E,F,d,aw,jn D q k g0 A];rw [qO p (by simp only [bW,p];cases d'<;>simp_all) (x:=y) (by simpa [r] using hy)];rfl
    ·cases h
   ·cases h
  ·cases h
 ·rename_i D;split at h
  ·rename_i l hx;have g:=bu G hx;simp only [VR] at g;obtain ⟨b,K,h⟩:=av h;refine ⟨_,h,.val (x:=.int .u8 b.toNat) ?_ (by simp [VR])⟩;simp only [execOp,E,g,d,aw,vu D K,ay,aD]
  ·cases h
 ·cases h
theorem AO {t:TypeId} (a:P.underlying t=some .string) {l:aa} {lo hi:Option Value} {L H:Nat} {w:World}
  (b:(Instr.sliceBounds false l.length l.length lo hi none).run P w=.ok (L,H,l.length) w):
  (Instr.sliceAt t (.string ⟨l.toArray⟩) lo hi none).run P w=.ok (.string ⟨((l.take H).drop L).toArray⟩) w:=by
 rw [run_sliceAt_string w t _ _ _ _ a];have hs:(ByteArray.mk l.toArray).size=l.length:=rfl;simp only [Instr.slice,aw,aV a,ay,yp,br,aA,hs,b,aD];congr 2;apply K8;rw [ByteArray.data_extract];apply ll;simp [List.extract,wu]
theorem Br {t e:TypeId} {n:Nat} {d:TypeInfo} (b:P.underlying t=some (.array n e)) (hi:P.info? e=some d) {lo a:Option Value} {L H r off:Nat} {w:World}
  (c:(Instr.sliceBounds false n n lo a none).run P w=.ok (L,H,n) w):
  (Instr.sliceAt t (.pointer (some ⟨r,off,none⟩)) lo a none).run P w=.ok (.slice (some ⟨r,if n=L then off else off+L*P.cellsOf e,none⟩) (H - L) (n - L)) w:=by
 simp only [Instr.sliceAt,aw,aV b,ay,Instr.sureAddr,aD,c,gj hi,mZ];split<;>rfl
theorem oc {t e:TypeId} {n cp:Nat} {d:TypeInfo} (b:P.underlying t=some (.slice e)) (hi:P.info? e=some d) {lo a:Option Value} {L H r off:Nat} {w:World}
  (c:(Instr.sliceBounds true n cp lo a none).run P w=.ok (L,H,cp) w):
  (Instr.sliceAt t (.slice (some ⟨r,off,none⟩) n cp) lo a none).run P w=.ok (.slice (some ⟨r,if cp=L then off else off+L*P.cellsOf e,none⟩) (H - L) (cp - L)) w:=by
 simp only [Instr.sliceAt,Instr.slice,aw,aV b,ay,c,gj hi,aD];split
 ·rfl
 ·simp only [eX,mZ]
theorem kl (n l x y:Nat):cond (Nat.beq n l) x y=if n=l then x else y:=by
 by_cases h:n=l
 ·subst h;simp
 ·have:Nat.beq n l=false:=by
   cases a:Nat.beq n l
   ·rfl
   ·exact absurd (bK a) h
  simp [this,h]
theorem tA {t e:TypeId} {d:TypeInfo} {b:Option Addr} (f:P.underlying t=some (.slice e)) (hi:P.info? e=some d) {lo a:Option Value} {w:World}
  (c:(Instr.sliceBounds true 0 0 lo a none).run P w=.ok (0,0,0) w):
  (Instr.sliceAt t (.slice b 0 0) lo a none).run P w=.ok (.slice b 0 0) w:=by
 simp only [Instr.sliceAt,Instr.slice,aw,aV f,ay,c,gj hi,aD,aJ]
theorem Ed {T:List (Nat×Option V)} (p:TR ι T a.tmps) {lo hi:Option Operand} {l h:Option Int} (t:qs (opd T) lo=some l)
  (s:qs (opd T) hi=some h) {len:Nat} {c:Nat->Nat->Option α} (f:(hiK len len h λh=>loK h l λl=>c h l)=some z):
  ∃H L,c H L=some z/\H<=len/\L<=H/\∀n,len<=n->∀w,(Instr.sliceBounds true len n (lo.map a.eval) (hi.map a.eval) none).run P w=.ok (L,H,n) w:=by
 have j:∀{H:Nat},loK H l (c H)=some z->∃L,c H L=some z/\L<=H/\
   ∀w,(match lo.map a.eval with | some v=>Instr.sliceBound v H .sliceB | none=>pure 0).run P w=.ok L w:=by
  intro H f;rcases oC p t with ⟨rfl,g⟩ | ⟨k,m,rfl,g⟩
  ·exact ⟨0,f,f7 _,λw=>by rw [g];rfl⟩
  ·simp only [loK] at f;obtain ⟨L,o,i⟩:=av f;obtain ⟨g0,q,rfl⟩:=lM o;exact ⟨_,i,by omega,λw=>by rw [g];exact run_sliceBound w k m H .sliceB g0 q⟩
 rcases oC p s with ⟨rfl,g⟩ | ⟨k,m,rfl,g⟩
 ·simp only [hiK] at f;obtain ⟨L,o,i,d⟩:=j f;refine ⟨len,L,o,aY _,i,λn u w=>?_⟩;have d:=d w;rw [g];simp only [Instr.sliceBounds,aw,aD,ay,yp,br,aA];cases b:lo.map a.eval with
  | none=>rw [b] at d;simp only [aD,wM,xl] at d;simp [d]
  | some v=>rw [b] at d;simp only [] at d;simp [d]
 ·simp only [hiK] at f;obtain ⟨H,o,i⟩:=av f;obtain ⟨g0,q,rfl⟩:=lM o;obtain ⟨L,x,d,e⟩:=j i;refine ⟨_,L,x,by omega,d,λn u w=>?_⟩;have e:=e w;rw [g];have r:=run_sliceBound (P:=P) w k m n .sliceAcap g0 (by omega);simp only [Instr.sliceBounds,aw,aD,ay,yp,br,aA,aJ,r];cases b:lo.map a.eval with
  | none=>rw [b] at e;simp only [aD,wM,xl] at e;simp [e]
  | some v=>rw [b] at e;simp only [] at e;simp [e]
theorem J2 {t:TypeId} {x:Operand} {lo hi:Option Operand} (G:o.op=.slice t x lo hi none) (I:TR ι s.T a.tmps) (hW:WR ι s.H s.nb w) (h:effK P (opd s.T) s.H f (.slice t x lo hi none) c=some z):
  ∃e,c e=some z/\gJ P ι f o a w e:=by
 simp only [effK] at h;obtain ⟨v,hx,E⟩:=av h;obtain ⟨l,K,W⟩:=av E;obtain ⟨hh,u,d⟩:=av W;clear h E W;have B:=bu I hx;clear hx;split at d
 ·rename_i D;cases v<;>simp only [reduceCtorEq] at d;rename_i sl;simp only [VR] at B;obtain ⟨H,L,g,_,_,_,i,_,A⟩:=yA (P:=P) I K u (isSlice:=false) d;refine ⟨_,g,.val (x:=.string ⟨((sl.take H).drop L).toArray⟩) ?_ (by simp [VR])⟩;simp only [execOp,G,B,aw,ja];rw [AO D (A w)];rfl
 ·rename_i n e D;split at d
  case h_2=>cases d
  rename_i hp;obtain ⟨ti,p⟩:=bZ hp;cases v<;>simp only [reduceCtorEq] at d;rename_i b off;simp only [VR] at B;obtain ⟨r,i,y⟩:=B;obtain ⟨H,L,g,_,F,C,g4,_,A⟩:=yA (P:=P) I K u (isSlice:=false) d;have U:H<=n:=by
   cases hh with
   | none=>exact wC (F rfl)
   | some q=>exact C (by simp)
  refine ⟨_,g,.val (x:=.slice (some ⟨r.r,if n=L then off else off+L*P.cellsOf e,none⟩) (H - L) (n - L)) ?_ ?_⟩
  ·simp only [execOp,G,y,aw,ja];rw [Br D p (A w)];rfl
  ·simp only [VR];exact ⟨r,n - L,i,λm S=>by cases S;rfl,by omega,by rw [kl,pp,yg]⟩
 ·rename_i e D;split at d
  case h_2=>cases d
  rename_i hp;obtain ⟨ti,p⟩:=bZ hp;cases v<;>try (simp only [reduceCtorEq] at d;done)
  ·rename_i b;simp only [VR] at B;simp only at d;split at d
   case h_2=>cases d
   rename_i tr m Z;split at d
   case h_2=>cases d
   rename_i J;have J:=bK J;obtain ⟨H,L,g,F,C,A⟩:=Ed (P:=P) I K u d;rcases jA hW Z with ⟨q,cs,e',fr,E,W,q4,q5,_,_,_⟩ | ⟨E,rfl⟩
   ·rcases B with ⟨q',i,y⟩ | ⟨i,_⟩
    ·rw [i] at E;cases E;refine ⟨_,g,.val (x:=.slice (some ⟨q.r,if q.k=L then q.o else q.o+L*P.cellsOf e,none⟩) (H - L) (q.k - L)) ?_ ?_⟩
     ·simp only [execOp,G,y,aw,ja];rw [<-q4,oc D p (A q.k (by omega) w)];rfl
     ·simp only [VR];exact .inl ⟨q,_,_,i,⟨by omega,kI⟩,λN=>by rw [ab (by omega)],rfl⟩
    ·rw [i] at E;cases E
   ·rcases B with ⟨q,i,y⟩ | ⟨i,O,y⟩
    ·rw [i] at E;cases E
    ·simp only [ba,BC] at F C;subst F;simp only [BC] at C;subst C;refine ⟨_,g,.val (x:=.slice O 0 0) ?_ (by unfold VR;exact .inr ⟨i,⟨rfl,kI⟩,O,rfl⟩)⟩;simp only [execOp,G,y,aw,ja];rw [tA D p (A 0 (aY _) w)];rfl
  ·rename_i zz b j n _;simp only [VR] at B;simp only at d;split at d
   case h_2=>cases d
   rename_i J;have J:=bK J;obtain ⟨H,L,g,F,C,A⟩:=Ed (P:=P) I K u d;rcases B with ⟨q,cp,off,i,⟨Q,_⟩,R,y⟩ | ⟨i,⟨rfl,_⟩,O,y⟩
   ·refine ⟨_,g,.val (x:=.slice (some ⟨q.r,if cp=L then off else off+L*P.cellsOf e,none⟩) (H - L) (cp - L)) ?_ ?_⟩
    ·simp only [execOp,G,y,aw,ja];rw [oc D p (A cp Q w)];rfl
    ·simp only [VR];exact .inl ⟨q,_,_,i,⟨by omega,kI⟩,λN=>by rw [ab (by omega),R (by omega),pp,gU,J,gY],rfl⟩
   ·simp only [BC] at F;subst F;simp only [BC] at C;subst C;refine ⟨_,g,.val (x:=.slice O 0 0) ?_ (by unfold VR;exact .inr ⟨i,⟨rfl,kI⟩,O,rfl⟩)⟩;simp only [execOp,G,y,aw,ja];rw [tA D p (A 0 (aY _) w)];rfl
  rename_i b off n cap;simp only [VR] at B;obtain ⟨r,cp,i,X,Q,y⟩:=B;cases cap with
  | some m=>
   obtain rfl:=X m rfl;obtain ⟨H,L,g,_,F,C,g4,_,A⟩:=yA (P:=P) I K u (isSlice:=true) d;have U:H<=cp:=by
    cases hh with
    | none=>have:=F rfl;omega
    | some q=>exact C (by simp)
   refine ⟨_,g,.val (x:=.slice (some ⟨r.r,if cp=L then off else off+L*P.cellsOf e,none⟩) (H - L) (cp - L)) ?_ ?_⟩
   ·simp only [execOp,G,y,aw,ja];rw [oc D p (A w)];rfl
   ·simp only [VR];exact ⟨r,cp - L,i,λm S=>by cases S;rfl,by omega,by rw [kl,pp,yg]⟩
  | none=>
   have V:l=none:=by
    cases l with
    | none=>rfl
    | some q=>
     cases hh with
     | none=>simp [hiK] at d
     | some q=>simp only [hiK] at d;obtain ⟨_,_,q4⟩:=av d;cases q4
   subst V;have M:lo.map a.eval=none:=by
    rcases oC I K with ⟨_,g⟩ | ⟨k,m,h0,_⟩
    ·exact g
    ·cases h0
   have key:∃H,c { val:=some (.sl b off H none) }=some z/\H<=n/\(Instr.sliceBounds true n cp (lo.map a.eval) (hi.map a.eval) none).run P w=.ok (0,H,cp) w:=by
    rcases oC I u with ⟨rfl,g⟩ | ⟨k,m,rfl,g⟩
    ·simp only [hiK] at d;exact ⟨n,d,aY _,by rw [g,M];simp [Instr.sliceBounds]⟩
    ·simp only [hiK] at d;obtain ⟨H,h2,Y⟩:=av d;obtain ⟨g0,g1,rfl⟩:=lM h2;refine ⟨_,Y,by omega,?_⟩;have Z:=run_sliceBound (P:=P) w k m cp .sliceAcap g0 (by omega);rw [g,M];simp [Instr.sliceBounds,Z]
   obtain ⟨H,g,h2,Y⟩:=key;refine ⟨_,g,.val (x:=.slice (some ⟨r.r,if cp=0 then off else off+0*P.cellsOf e,none⟩) (H - 0) (cp - 0)) ?_ ?_⟩
   ·simp only [execOp,G,y,aw,ja];rw [oc D p Y];rfl
   ·simp only [VR];exact ⟨r,cp,i,λm S=>(by cases S),by omega,by simp⟩
 ·cases d
theorem yB (a:List Int):a.foldl (λ(r:ByteArray) n=>r.push (UInt8.ofNat n.toNat)) ByteArray.empty=⟨(ir a).toArray⟩:=by
 rw [foldl_push_bytes];apply K8;simp [ir]
theorem yF {w:World} {r off q m cp:Nat} {l:List Int} {e:TypeId} {fr:Nat×Nat} (h:w.heap[r]?=some (.cells (l.map (Value.int .u8)).toArray e fr)) (f:l.length=q) (g:off+m<=q):
  (Conv.bytesToString (.slice (some ⟨r,off,none⟩) m cp)).run P w=.ok (.string ⟨(ir ((l.drop off).take m)).toArray⟩) w:=by
 have a:(((l.drop off).take m).map (Value.int .u8)).length=m:=by simp;omega
 have hc:=xL (P:=P) w ⟨r,off,none⟩ (((l.drop off).take m).map (Value.int .u8)) (λj v b=>by
  have c:j<m:=by
   rcases aH j m with d | d
   ·exact d
   ·rw [gW (by omega)] at b;cases b
  rw [mZ,bp h];rw [mO,qf c,mL] at b;simpa using b)
 rw [a] at hc;rw [run_bytesToString w _ m cp _ hc,yB]
theorem A7 (w:World) (e:TypeId) (s:ByteArray):
  Lib.bytesWorld w e s=World.alloc { w with drawn:=w.drawn+1 } (.cells (Lib.bytesCells w e s) e ((Lib.bytesCells w e s).size,(Lib.bytesCells w e s).size+1)):=by
 have c:=Lib.bytesWorld_at_new w e s;have f:=Lib.bytesWorld_size w e s;have d:(Lib.bytesWorld w e s).heap=w.heap.push (.cells (Lib.bytesCells w e s) e ((Lib.bytesCells w e s).size,(Lib.bytesCells w e s).size+1)):=by
  apply TP;intro j;by_cases b:j=w.heap.size
  ·subst b;rw [c];simp
  ·by_cases a:j<w.heap.size
   ·rw [Lib.bytesWorld_at_old w e s j a,Array.getElem?_push,ab b]
   ·rw [wR (by omega),wR (by simp;omega)]
 show ({ (Lib.bytesWorld w e s) with heap:=(Lib.bytesWorld w e s).heap }:World)=_;rw [d];rfl
theorem rA:∀(l:List Int),l.flatMap (vals [.i .u8])=l.map (Value.int .u8)
 | []=>rfl
 | x::l=>by
  have:=rA l;simp only [qi,fX,vals,Lf.val] at this ⊢;rw [this];rfl
theorem sw {w:World} {r cp:Nat} {l:List Int} {c:Array Value} {e:TypeId} {fr:Nat×Nat} {m:Nat} (h:w.heap[r]?=some (.cells c e fr)) (k:m<=c.size)
  {o:Nat} (p:(c.toList.drop o).take (l.length*([Lf.i .u8]:List Lf).length)=l.flatMap (vals [.i .u8])) {j n:Nat} (s:j+n<=l.length):
  (Conv.bytesToString (.slice (some ⟨r,o+j,none⟩) n cp)).run P w=.ok (.string ⟨(ir ((l.drop j).take n)).toArray⟩) w:=by
 have hl':(c.toList.drop o).take l.length=l.map (Value.int .u8):=by rw [<-rA];simpa using p
 have a:(((l.drop j).take n).map (Value.int .u8)).length=n:=by simp;omega
 have hc:=xL (P:=P) w ⟨r,o+j,none⟩ (((l.drop j).take n).map (Value.int .u8)) (λi v b=>by
  have d:i<n:=by
   rcases aH i n with g | g
   ·exact g
   ·rw [gW (by omega)] at b;cases b
  rw [mZ,bp h];rw [mO,qf d,mL] at b;have f:=ch (λq:List Value=>q[j+i]?) hl';simp only [qf (show j+i<l.length by omega),mO,mL] at f;rw [b] at f;simpa [gY] using f)
 rw [a] at hc;rw [run_bytesToString w _ n cp _ hc,yB]
theorem su {w:World} (c:Option Addr):(Conv.bytesToString (.slice c 0 0)).run P w=.ok (.string ⟨#[]⟩) w:=by
 cases c with
 | none=>rfl
 | some a=>
  have b:=xL (P:=P) w a ([].map (Value.int .u8)) (λj v d=>by simp at d);exact run_bytesToString (P:=P) w a 0 0 [] b
theorem EM {B d:TypeId} {x:Operand} (y:o.op=.convert B d x) (hT:TR ι s.T a.tmps) (R:WR ι s.H s.nb w) (h:effK P (opd s.T) s.H f (.convert B d x) c=some z):
  ∃e,c e=some z/\gJ P ι f o a w e:=by
 simp only [effK] at h;obtain ⟨v,hx,q⟩:=av h;clear h;have g:=bu hT hx;clear hx;split at q
 case h_2=>cases q
 rename_i C hs;split at q
 ·rename_i k t;cases v<;>simp only [reduceCtorEq] at q;rename_i k' n;simp only [VR] at g;refine ⟨_,q,.val (x:=.int k (k.wrap n)) ?_ (by simp [VR])⟩;simp only [execOp,y,g,aw,convert,aV hs,aV t,ay];cases C<;>rfl
 ·rename_i t;cases v<;>simp only [reduceCtorEq] at q
  ·rename_i b;simp only [VR] at g;cases C<;>try (simp only [reduceCtorEq] at q;done)
   rename_i e;simp only at q;split at q
   case h_2=>cases q
   rename_i u;split at q
   case h_2=>cases q
   rename_i l E;refine ⟨_,q,.val (x:=.string ⟨(ir l).toArray⟩) ?_ (by simp [VR])⟩;rcases jA R E with ⟨q,cs,Y,fr,i,I,X,Z,S,U,_⟩ | ⟨i,rfl⟩
   ·rcases g with ⟨q',p,A⟩ | ⟨p,_⟩
    ·rw [p] at i;cases i;simp only [execOp,y,A,aw,run_convert_bytes_string w B d e _ _ _ hs u t];rw [<-X];have:=sw (P:=P) (cp:=q.k) I S U (j:=0) (n:=l.length) (by omega);simp only [cM,nQ,cN] at this;rw [this];rfl
    ·rw [p] at i;cases i
   ·rcases g with ⟨q,p,A⟩ | ⟨p,M,A⟩
    ·rw [p] at i;cases i
    ·simp only [execOp,y,A,aw,run_convert_bytes_string w B d e M 0 0 hs u t,su];rfl
  ·rename_i zz b j n _;simp only [VR] at g;cases C<;>try (simp only [reduceCtorEq] at q;done)
   rename_i e;simp only at q;split at q
   case h_2=>cases q
   rename_i u;split at q
   case h_2=>cases q
   rename_i l E;split at q
   case h_2=>cases q
   rename_i L;have L:=bK L;subst L;obtain ⟨hc,q⟩:=dZ q;have D:=aI hc;refine ⟨_,q,.val (x:=.string ⟨(ir ((l.drop j).take n)).toArray⟩) ?_ (by simp [VR])⟩;rcases g with ⟨V,cp,off,p,⟨K,_⟩,O,A⟩ | ⟨p,⟨rfl,_⟩,M,A⟩
   ·rcases jA R E with ⟨q',cs,Y,fr,i,I,X,Z,S,U,_⟩ | ⟨i,rfl⟩
    ·rw [p] at i;cases i;simp only [execOp,y,A,aw,run_convert_bytes_string w B d e _ _ _ hs u t];by_cases hn:0<n
     ·rw [O hn,qD];rw [sw (P:=P) (cp:=cp) I S U D];rfl
     ·have N:n=0:=by omega
      subst N;have Q:=xL (P:=P) w ⟨V.r,off,none⟩ ([].map (Value.int .u8)) (λj v W=>by simp at W);have h0:=run_bytesToString (P:=P) w ⟨V.r,off,none⟩ 0 cp [] Q;rw [h0];simp [ir];rfl
    ·rw [p] at i;cases i
   ·simp only [execOp,y,A,aw,run_convert_bytes_string w B d e M 0 0 hs u t,su];simp [ir]
  ·rename_i k' n;simp only [VR] at g;cases C<;>simp only [reduceCtorEq] at q;refine ⟨_,q,.val (x:=.string (Utf8.encode n)) ?_ ?_⟩
   ·simp only [execOp,y,g,aw,convert,aV hs,aV t,ay,Conv.intToString,aD]
   ·simp [VR]
  ·rename_i l;simp only [VR] at g;cases C<;>simp only [reduceCtorEq] at q;refine ⟨_,q,.val (x:=.string ⟨l.toArray⟩) ?_ (by simp [VR])⟩;simp only [execOp,y,g,aw,convert,aV hs,aV t,ay,aD]
  ·simp only [VR] at g;cases C<;>try (simp only [reduceCtorEq] at q;done)
   rename_i e;simp only at q;split at q
   ·rename_i u;refine ⟨_,q,.val (x:=.string .empty) ?_ (by simp only [VR];rfl)⟩;simp only [execOp,y,g,aw,run_convert_bytes_string w B d e none 0 0 hs u t];rfl
   ·cases q
  ·rename_i b off m cap;simp only [VR] at g;obtain ⟨r,cp,p,_,_,A⟩:=g;cases C<;>try (simp only [reduceCtorEq] at q;done)
   rename_i e;simp only at q;split at q
   ·rename_i u;split at q
    ·rename_i qn l E;obtain ⟨hc,q⟩:=dZ q;have D:=aI hc;obtain ⟨r',Y,fr,K,O,g3,_⟩:=vF R E;rw [p] at K;cases K;refine ⟨_,q,.val (x:=.string ⟨(ir ((l.drop off).take m)).toArray⟩) ?_ (by simp [VR])⟩;simp only [execOp,y,A,aw,run_convert_bytes_string w B d e _ _ _ hs u t,yF O g3 D,ay,aD]
    ·cases q
   ·cases q
 ·rename_i e t;split at q
  case h_2=>cases q
  rename_i u;cases v<;>try (simp only [reduceCtorEq] at q;done)
  rename_i l;simp only [VR] at g;cases C<;>simp only [reduceCtorEq] at q;refine ⟨_,q,.mkR (d:=w.drawn+1) (q:=(Rf.of w.heap.size (l.length) (grownCap w l.length 0 e))) (x:=.slice (some ⟨w.heap.size,0,none⟩) l.length (grownCap w l.length 0 e))
   (ob:=.cells (Lib.bytesCells w e ⟨l.toArray⟩) e ((Lib.bytesCells w e ⟨l.toArray⟩).size,(Lib.bytesCells w e ⟨l.toArray⟩).size+1)) ?_ rfl rfl ?_ ?_⟩
  ·simp only [execOp,y,g,aw,Lib.run_convert_string_bytes w B d e ⟨l.toArray⟩ hs t u,ay,aD,A7];rfl
  ·have F:l.length<=grownCap w l.length 0 e:=by simp only [grownCap,Question.cut];omega
   have J:((ByteArray.mk l.toArray).data.map λb=>Value.int .u8 b.toNat).size=l.length:=by simp
   refine ⟨_,e,_,rfl,by simp,F,?_,?_,?_⟩
   ·simp only [Lib.bytesCells,Array.size_append,J,Array.size_replicate,aC,ba];have:(ByteArray.mk l.toArray).size=l.length:=rfl;rw [this];omega
   ·simp only [Lib.bytesCells,wq,uV,aC,ba,dq,qD,cM];rw [uJ (by simp),i7 (by simp)];rw [rA,Array.toList_map,sJ];rfl
   ·refine .inr λj W G=>?_;exact absurd G.1 (by simp only;omega)
  ·simp only [VR];exact .inl ⟨_,dF _ _ _,rfl⟩
 ·cases q
theorem PI {U:Call} (Q:o.op=.call U) (hT:TR ι s.T a.tmps) (hW:WR ι s.H s.nb w) (h:effK P (opd s.T) s.H f (.call U) c=some z):
  ∃e,c e=some z/\gJ P ι f o a w e:=by
 obtain ⟨R,args,D⟩:=U;simp only [effK] at h;split at h
 case h_2=>cases h
 rename_i b;obtain ⟨l,hl,q⟩:=av h;clear h;have g:=wO hT hl;have L:(args.map a.eval).toList=args.toList.map a.eval:=by simp
 rw [<-L] at g;generalize hA:args.map a.eval=A at g;have v:∃S,∀w,((do let d <-resolve a.eval ⟨.builtin b,args,D⟩ o.type;invoke d.target d.args):Sem Next).run P w=(builtin b D o.type S A).run P w:=by
  refine ⟨args.map fun | .const _=>true | _=>false,λw=>?_⟩;simp only [resolve,hA,aw,aD,ay,invoke];rfl
 obtain ⟨S,v⟩:=v;have one:∀{X:Value},A.toList=[X]->A[0]?=some X:=by
  intro X p;have:A=#[X]:=by apply ll;simpa using p
  simp [this]
 have E:∀{t:TypeId} {r:List TypeId},D.toList=t::r->D[0]?=some t:=by
  intro t r u;rw [<-qk,u];rfl
 have j:∀{n:Int} {rd:List Nat},b=.len->(∀w,(Builtin.len_ D o.type A).run P w=.ok (goInt n) w)->c { val:=some (.i .i64 n),rd:=rd }=some z->∃e,c e=some z/\gJ P ι f o a w e:=by
  intro n rd N F hc;subst N;refine ⟨_,hc,.val (x:=.int .i64 n) ?_ (by simp [VR])⟩;simp only [execOp,Q];rw [v w];simp only [builtin,aw,F,ay,aD,goInt]
 have C:∀{n:Int} {rd:List Nat},b=.cap->(∀w,(Builtin.cap_ D o.type A).run P w=.ok (goInt n) w)->c { val:=some (.i .i64 n),rd:=rd }=some z->∃e,c e=some z/\gJ P ι f o a w e:=by
  intro n rd N F hc;subst N;refine ⟨_,hc,.val (x:=.int .i64 n) ?_ (by simp [VR])⟩;simp only [execOp,Q];rw [v w];simp only [builtin,aw,F,ay,aD,goInt]
 split at q
 ·split at q
  ·rename_i sl;simp only [VRs,VR] at g;obtain ⟨_,_,p,rfl,rfl⟩:=g;split at q
   ·rename_i t r u;split at q
    ·rename_i B;refine j rfl (λw=>?_) q;simp only [Builtin.len_,E u,one p,aw,aV B,ay,aD];rfl
    ·cases q
   ·cases q
  ·rename_i O Y n cp;simp only [VRs,VR] at g;obtain ⟨_,_,p,⟨r,cap,_,_,_,rfl⟩,rfl⟩:=g;split at q
   ·rename_i t r u;split at q
    ·rename_i B;refine j rfl (λw=>?_) q;simp only [Builtin.len_,E u,one p,aw,aV B,ay,aD]
    ·cases q
   ·cases q
  ·simp only [VRs,VR] at g;obtain ⟨_,_,p,rfl,rfl⟩:=g;split at q
   ·rename_i t r u;split at q
    ·rename_i B;refine j rfl (λw=>?_) q;simp only [Builtin.len_,E u,one p,aw,aV B,ay,aD];rfl
    ·cases q
   ·cases q
  ·rename_i O;simp only [VRs,VR] at g;obtain ⟨_,_,p,M,rfl⟩:=g;split at q
   ·rename_i t r u;split at q
    ·rename_i B;split at q
     ·rename_i tr l N;refine j (rd:=[O]) rfl (λw=>?_) q;rcases jA hW N with ⟨q,S,e',fr,K,q2,q4,q5,q6,q7,_⟩ | ⟨K,rfl⟩
      ·rcases M with ⟨q',G,rfl⟩ | ⟨G,_⟩
       ·rw [G] at K;cases K;simp only [Builtin.len_,E u,one p,aw,aV B,ay,aD,q4]
       ·rw [G] at K;cases K
      ·rcases M with ⟨q,G,_⟩ | ⟨G,V,rfl⟩
       ·rw [G] at K;cases K
       ·simp only [Builtin.len_,E u,one p,aw,aV B,ay,aD];rfl
     ·cases q
    ·cases q
   ·cases q
  ·rename_i zz O W n _;simp only [VRs,VR] at g;obtain ⟨_,_,p,M,rfl⟩:=g;split at q
   ·rename_i t r u;split at q
    ·rename_i B;refine j rfl (λw=>?_) q;rcases M with ⟨q,cp,off,G,_,_,rfl⟩ | ⟨_,⟨rfl,_⟩,V,rfl⟩
     ·simp only [Builtin.len_,E u,one p,aw,aV B,ay,aD]
     ·simp only [Builtin.len_,E u,one p,aw,aV B,ay,aD]
    ·cases q
   ·cases q
  ·simp only [VRs] at g;obtain ⟨X,_,p,_,rfl⟩:=g;split at q
   ·rename_i t r u;split at q
    ·rename_i B;refine j rfl (λw=>?_) q;simp only [Builtin.len_,E u,one p,aw,aV B,ay,aD]
    ·cases q
   ·cases q
  ·cases q
 ·split at q
  ·rename_i zz O W Z m;simp only [VRs,VR] at g;obtain ⟨_,_,p,M,rfl⟩:=g;split at q
   ·rename_i t r u;split at q
    ·rename_i B;refine C rfl (λw=>?_) q;rcases M with ⟨q,cp,off,G,⟨_,hc⟩,_,rfl⟩ | ⟨_,⟨_,hc⟩,V,rfl⟩
     ·have:=hc m rfl;subst this;simp only [Builtin.cap_,E u,one p,aw,aV B,ay,aD]
     ·have:=hc m rfl;subst this;simp only [Builtin.cap_,E u,one p,aw,aV B,ay,aD]
    ·cases q
   ·cases q
  ·rename_i O Y Z m;simp only [VRs,VR] at g;obtain ⟨_,_,p,⟨qq,cp,G,hc,_,rfl⟩,rfl⟩:=g;split at q
   ·rename_i t r u;split at q
    ·rename_i B;refine C rfl (λw=>?_) q;have:=hc m rfl;subst this;simp only [Builtin.cap_,E u,one p,aw,aV B,ay,aD]
    ·cases q
   ·cases q
  ·simp only [VRs,VR] at g;obtain ⟨_,_,p,rfl,rfl⟩:=g;split at q
   ·rename_i t r u;split at q
    ·rename_i B;refine C rfl (λw=>?_) q;simp only [Builtin.cap_,E u,one p,aw,aV B,ay,aD];rfl
    ·cases q
   ·cases q
  ·cases q
 ·split at q
  ·rename_i k x k' y;split at q
   ·rename_i J;have J:=kY J;subst J;simp only [VRs,VR] at g;obtain ⟨_,_,p,rfl,_,_,rfl,rfl,rfl⟩:=g;refine ⟨_,q,.val (x:=.int k (cond (decide (y<x)) y x)) ?_ (by simp [VR])⟩;simp only [execOp,Q];rw [v w];simp only [builtin,aw,Builtin.min_,p,List.foldlM,Builtin.min2,aD,ay];by_cases I:y<x<;>simp [I]
   ·cases q
  ·cases q
 ·split at q
  ·rename_i k x k' y;split at q
   ·rename_i J;have J:=kY J;subst J;simp only [VRs,VR] at g;obtain ⟨_,_,p,rfl,_,_,rfl,rfl,rfl⟩:=g;refine ⟨_,q,.val (x:=.int k (cond (decide (y>x)) y x)) ?_ (by simp [VR])⟩;simp only [execOp,Q];rw [v w];simp only [builtin,aw,Builtin.max_,p,List.foldlM,Builtin.max2,aD,ay];by_cases I:y>x<;>simp [I]
   ·cases q
  ·cases q
 ·cases q
theorem UD {op:UnOp} {x:V} {X:Value} {c:V->Option α} (h:unK op x c=some z) (hx:VR ι x X) (w:World):
  ∃v R,c v=some z/\VR ι v R/\(Op.unary op X).run P w=.ok R w:=by
 unfold unK at h;split at h
 ·simp only [VR] at hx;subst hx;exact ⟨_,_,h,rfl,rfl⟩
 ·simp only [VR] at hx;subst hx;exact ⟨_,_,h,rfl,rfl⟩
 ·cases h
theorem OM {x:Operand} {k:Bool} (m:o.op=.next x k) (A:TR ι s.T a.tmps) (C:WR ι s.H s.nb w) (h:effK P (opd s.T) s.H f (.next x k) c=some z):
  ∃e,c e=some z/\gJ P ι f o a w e:=by
 simp only [effK] at h;split at h
 case h_2=>cases h
 rename_i b hx;have v:=bu A hx;simp only [VR] at v;obtain ⟨r,q,n⟩:=v;split at h
 case h_2=>cases h
 rename_i l pos B;obtain ⟨F,ob,t,p,y⟩:=(C.blk b _ B (by simp)).real (by simp);rw [q] at t;cases t;simp only [BR] at y;subst y;have i:(ByteArray.mk l.toArray).size=l.length:=rfl;have d:(getObj r.r).run P w=.ok (.stringIter ⟨l.toArray⟩ pos) w:=by simp [getObj,Sem.run,p]
 cases hc:Nat.blt pos l.length with
 | false=>
  rw [hc] at h;have E:¬pos<l.length:=λg=>by rw [show Nat.blt pos l.length=true from cZ g] at hc;cases hc
  refine ⟨_,h,.val (x:=.tuple #[.bool false]) ?_ (by simp [VR,VRs])⟩;simp only [execOp,m,n,Instr.next,aw,d,ay,i,E,aA,aD]
 | true=>
  rw [hc] at h;have g:pos<l.length:=aI hc;refine ⟨_,h,?_⟩;unfold gJ;have j:∀ob,(Go.setObj r.r ob).run P w=.ok () (setObj w r.r ob):=by
   intro ob;simp [Go.setObj,Sem.run,p,setObj]
  refine ⟨r,q,λ_=>⟨.stringIter ⟨l.toArray⟩ (pos+(dec l pos).2),.value (.tuple #[.bool true,.int .i64 pos,.int .i32 (dec l pos).1]),?_,rfl,.value _ λu D=>by cases D;simp [VR,VRs]⟩⟩;simp only [execOp,m,n,Instr.next,aw,d,ay,i,g,aJ,j,aD,dec,goInt]
theorem H3 {t:List Lf} (x:den t):∀n,(List.replicate n x).flatMap (vals t)=(List.replicate n (vals t x)).flatten
 | 0=>rfl
 | n+1=>by simp [sC,qi,H3 x n]
theorem KC {l:List Value}:∀n:Nat,(List.replicate n l).flatten.length=n*l.length
 | 0=>by simp
 | n+1=>by rw [sC,List.flatten_cons,aL,KC n,gU];omega
theorem M6 {l:List Value}:∀(n j:Nat),j<n*l.length->(List.replicate n l).flatten[j]?=l[j%l.length]?
 | 0,j,h=>by simp at h
 | n+1,j,h=>by
  simp only [sC,List.flatten_cons];by_cases a:j<l.length
  ·rw [nG a,rj a]
  ·rw [qd (by omega),M6 n _ (by rw [gU] at h;omega),<-Nat.mod_eq_sub_mod (by omega)]
theorem Ag {t:TypeId} {x y:Operand} (S:o.op=.makeSlice t x y) (R:TR ι s.T a.tmps) (h:effK P (opd s.T) s.H f (.makeSlice t x y) c=some z):
  ∃e,c e=some z/\gJ P ι f o a w e:=by
 simp only [effK] at h;obtain ⟨u,E,O⟩:=av h;obtain ⟨v,D,b⟩:=av O;clear h O;have E:=bu R E;have D:=bu R D;split at b
 case h_2=>cases b
 rename_i e Z;split at b
 case h_2=>cases b
 rename_i k1 n k2 m _ _;simp only [VR] at E D;obtain ⟨zv,J,b⟩:=av b;split at b
 case h_2=>cases b
 rename_i tr p _ l;split at b
 case h_2=>cases b
 rename_i M;simp only [az,jt] at M;obtain ⟨Q,e2,N,I⟩:=M;have N:=aI N;have I:=aI I;obtain ⟨W,G,b⟩:=av b;obtain ⟨hc,b⟩:=dZ b;simp only [az,cj] at hc;obtain ⟨U,V,c2⟩:=hc;obtain ⟨zc,i,K,X,Y,_⟩:=vT ι J;rw [l] at K;cases K;have g:=nr Y;rw [wb G] at g;have g:=(nZ ι tr W _).1 g;have C:p.size=P.cellsOf e:=by unfold Program.cellsOf;rw [l];rfl
 have hm:m=(m.toNat:Int):=by omega
 have B:=run_make (P:=P) w t e p zc Z l X k1 k2 n m U V (by
  rw [hm,<-Gm];have:p.bytes*m.toNat<=1048576*67108864:=Ei I (by omega);omega) (by omega)
 refine ⟨_,b,.mkR (d:=w.drawn) (q:=(Rf.of w.heap.size (n.toNat) (m.toNat))) (x:=.slice (some ⟨w.heap.size,0,none⟩) n.toNat m.toNat) (ob:=.cells (madeCells zc.cells (m.toNat*p.size)) e) ?_ rfl rfl ?_ ?_⟩
 ·simp only [execOp,S,E,D,aw,B,ay,aD]
 ·have F:(madeCells zc.cells (m.toNat*p.size)).size=m.toNat*p.size:=size_madeCells _ _;refine ⟨_,e,_,rfl,by simp,by simp only;omega,by rw [F,C,Q];simp,?_,.inr (sX _)⟩;simp only [cM];rw [H3,List.length_replicate,<-g];apply D2;intro j;have k:zc.cells.toList.length=tr.length:=by rw [g,ke]
  have r:zc.cells.size=tr.length:=by simpa using k
  have hle:n.toNat*tr.length<=m.toNat*tr.length:=ot _ (by omega);by_cases L:j<n.toNat*tr.length
  ·rw [qf L,M6 n.toNat j (by rw [k];exact L),k];have A:j%tr.length<zc.cells.size:=by rw [r];exact AI _ (by omega)
   simp only [madeCells,C,<-Q,r];rw [qk,Array.getElem?_map,Array.getElem?_range];simp [show j<m.toNat*tr.length by omega,A]
  ·rw [gW (by rw [da];omega),gW (by rw [KC,k];omega)]
 ·simp only [VR];exact .inl ⟨_,dF _ _ _,rfl⟩
theorem Wp {op:BinOp} {t:TypeId} {x y:Operand} {u v:V} {r:Bool} {X Y:Value} (h:niK P op t x y u v=some r) (hx:VR ι u X) (hy:VR ι v Y) (w:World):
  (eqGuard op t x y X Y).run P w=.ok () w/\(binOp op t X Y).run P w=.ok (.bool r) w:=by
 unfold niK at h;split at h
 case h_2=>cases h
 simp only [VR] at hx hy;subst hx hy;split at h
 case h_2=>cases h
 rename_i hc;split at h
 case h_2=>cases h
 rename_i f e;have b:∀o:BinOp,o=.eql\/o=.neq->(eqGuard o t x y .nilIface .nilIface).run P w=.ok () w:=by
  intro o d;have a:(∃v,x=.const v)\/∃v,y=.const v:=by
   rw [iO] at hc;refine hc.imp (λh=>?_) (λh=>?_)
   ·cases x<;>simp_all [GX]
   ·cases y<;>simp_all [GX]
  rcases a with ⟨v,rfl⟩ | ⟨v,rfl⟩<;>rcases d with rfl | rfl<;>simp [eqGuard]
 have c:(Op.equal t .nilIface .nilIface).run P w=.ok true w:=by rw [eU,Op.equalIn];simp [aV e]
 split at h
 ·simp only [au] at h;subst h;exact ⟨b _ (.inl rfl),by simp [binOp,c]⟩
 ·simp only [au] at h;subst h;exact ⟨b _ (.inr rfl),by simp [binOp,c]⟩
 ·cases h
theorem kQ {t e:TypeId} {g:TypeInfo} (i:P.underlying t=some (.slice e)) (hi:P.info? e=some g) {n cp:Nat} {a:Option Addr} {k k':IntKind} {h m:Int} {H M:Nat} (j:bx n m=some M) (d:bx M h=some H) (p:n<=cp) (w:World):
  (Instr.sliceAt t (.slice a n cp) none (some (.int k h)) (some (.int k' m))).run P w=.ok (.slice a H M) w:=by
 obtain ⟨m0,m1,rfl⟩:=lM j;obtain ⟨c,b,rfl⟩:=lM d;have l:=run_sliceBound (P:=P) w k' m cp .slice3Acap m0 (by omega);have f:=run_sliceBound (P:=P) w k h m.toNat .slice3B c b;simp only [Instr.sliceAt,Instr.slice,aw,aV i,ay,Instr.sliceBounds,aJ,l,f,aD,gj hi,sY,Aw];split
 ·rfl
 ·cases a with
  | none=>rfl
  | some q=>obtain ⟨r,o,x⟩:=q;simp [Addr.add]
theorem I8 {t:TypeId} {x mx:Operand} {lo hi:Option Operand} (F:o.op=.slice t x lo hi (some mx)) (O:TR ι s.T a.tmps) (Z:WR ι s.H s.nb w) (h:effK P (opd s.T) s.H f (.slice t x lo hi (some mx)) c=some z):
  ∃e,c e=some z/\gJ P ι f o a w e:=by
 simp only [effK,uE] at h;split at h
 case h_2=>cases h
 rename_i hh;obtain ⟨v,hx,d⟩:=av h;clear h;have A:=bu O hx;clear hx;split at d
 case h_2=>cases d
 rename_i k1 X k2 m1 N L;have D:=bu O N;have E:=bu O L;simp only [VR] at D E;split at d
 case h_2=>cases d
 rename_i e J;split at d
 case h_2=>cases d
 rename_i hp;obtain ⟨ti,i⟩:=bZ hp;split at d
 ·rename_i b;split at d
  case h_2=>cases d
  rename_i tr l Y;split at d
  case h_2=>cases d
  obtain ⟨M,u,G⟩:=av d;obtain ⟨H,p,B⟩:=av G;obtain ⟨m0,m2,Q⟩:=lM u;obtain ⟨V,S,U⟩:=lM p;simp only [VR] at A;rcases jA Z Y with ⟨q,cs,e',fr,C,r2,r4,r5,_,_,_⟩ | ⟨C,rfl⟩
  ·rcases A with ⟨q',g,y⟩ | ⟨g,_⟩
   ·rw [g] at C;cases C;refine ⟨_,B,.val (x:=.slice (some ⟨q.r,q.o,none⟩) H M) ?_ ?_⟩
    ·simp only [execOp,F,y,D,E,aw,ja,eX];rw [<-r4,kQ J i u p (by omega) w];rfl
    ·simp only [VR];exact .inl ⟨q,_,_,g,⟨by omega,rG⟩,λ_=>by omega,rfl⟩
   ·rw [g] at C;cases C
  ·rcases A with ⟨q,g,y⟩ | ⟨g,I,y⟩
   ·rw [g] at C;cases C
   ·simp only [ba] at m2;have m:M=0:=by omega
    have k:H=0:=by omega
    subst m k;refine ⟨_,B,.val (x:=.slice I 0 0) ?_ (by unfold VR;exact .inr ⟨g,⟨rfl,rG⟩,I,rfl⟩)⟩;simp only [execOp,F,y,D,E,aw,ja,eX];rw [kQ J i (n:=0) (M:=0) u p (by omega) w];rfl
 ·rename_i zz b j n _;obtain ⟨M,u,G⟩:=av d;obtain ⟨H,p,B⟩:=av G;obtain ⟨m0,m2,Q⟩:=lM u;obtain ⟨V,S,U⟩:=lM p;simp only [VR] at A;rcases A with ⟨q,cp,off,g,⟨K,_⟩,W,y⟩ | ⟨g,⟨K,_⟩,I,y⟩
  ·refine ⟨_,B,.val (x:=.slice (some ⟨q.r,off,none⟩) H M) ?_ ?_⟩
   ·simp only [execOp,F,y,D,E,aw,ja,eX];rw [kQ J i u p K w];rfl
   ·simp only [VR];exact .inl ⟨q,_,_,g,⟨by omega,rG⟩,λR=>W (by omega),rfl⟩
  ·subst K;have m:M=0:=by omega
   have k:H=0:=by omega
   subst m k;refine ⟨_,B,.val (x:=.slice I 0 0) ?_ (by unfold VR;exact .inr ⟨g,⟨rfl,rG⟩,I,rfl⟩)⟩;simp only [execOp,F,y,D,E,aw,ja,eX];rw [kQ J i (n:=0) (M:=0) u p (by omega) w];rfl
 ·obtain ⟨M,u,G⟩:=av d;obtain ⟨H,p,B⟩:=av G;obtain ⟨m0,m2,Q⟩:=lM u;obtain ⟨V,S,U⟩:=lM p;simp only [VR] at A;have m:M=0:=by omega
  have k:H=0:=by omega
  subst m k;refine ⟨_,B,.val (x:=.slice none 0 0) ?_ (by simp only [VR])⟩;simp only [execOp,F,A,D,E,aw,ja,eX];rw [kQ J i (n:=0) (M:=0) u p (by omega) w];rfl
 ·cases d
theorem VK {op:BinOp} {t:TypeId} {u v:V} {r:Bool} {n:Nat} {rd:List Nat} {X Y:Value} {H:List (Nat×Blk)} {nb:Nat} (h:slN P op t u v=some r) (a:slL H u=some (n,rd)) (C:0<n) (B:WR ι H nb w) (hx:VR ι u X) (hy:VR ι v Y) (p q:Operand):
  (eqGuard op t p q X Y).run P w=.ok () w/\(binOp op t X Y).run P w=.ok (.bool r) w:=by
 unfold slN at h;split at h
 case h_2=>cases h
 simp only [VR] at hy;subst hy;have d:∀(A:Addr) (n c:Nat),X=.slice (some A) n c->P.underlying t=(P.underlying t)->∀e,P.underlying t=some (.slice e)->
   ((eqGuard .eql t p q X (.slice none 0 0)).run P w=.ok () w/\(binOp .eql t X (.slice none 0 0)).run P w=.ok (.bool false) w)/\
   ((eqGuard .neq t p q X (.slice none 0 0)).run P w=.ok () w/\(binOp .neq t X (.slice none 0 0)).run P w=.ok (.bool (!false)) w):=by
  rintro A n c rfl _ e i;exact oS p q (.inl (by simp)) (.inl (by simp)) (by simp) (by rw [eU,Op.equalIn];simp [aV i])
 have b:∀(A:Addr) (n c:Nat),X=.slice (some A) n c->slT P op t=some r->(eqGuard op t p q X (.slice none 0 0)).run P w=.ok () w/\(binOp op t X (.slice none 0 0)).run P w=.ok (.bool r) w:=by
  intro A n c y h;unfold slT at h;split at h
  case h_2=>cases h
  rename_i e i;obtain ⟨m1,m2⟩:=d A n c y rfl e i;split at h
  ·simp only [au] at h;subst h;exact m1
  ·simp only [au] at h;subst h;exact m2
  ·cases h
 split at h
 ·rename_i c;simp only [slL] at a;split at a
  case h_2=>cases a
  rename_i tr l x;simp only [au,bC] at a;obtain ⟨rfl,_⟩:=a;simp only [VR] at hx;rcases jA B x with ⟨F,G,J,fr,k,L,r4,_⟩ | ⟨k,rfl⟩
  ·rcases hx with ⟨s,f,g⟩ | ⟨f,_⟩
   ·exact b _ _ _ g h
   ·rw [f] at k;cases k
  ·simp at C
 ·rename_i z c j m K;simp only [slL,au,bC] at a;obtain ⟨rfl,_⟩:=a;simp only [VR] at hx;rcases hx with ⟨s,I,D,f,g,E,o⟩ | ⟨f,⟨g,_⟩,_⟩
  ·exact b _ _ _ o h
  ·omega
 ·cases h
theorem FN {t:TypeId} {x:Option Operand} (b:o.op=.makeMap t x) (h:effK P (opd s.T) s.H f (.makeMap t x) c=some z):∃e,c e=some z/\gJ P ι f o a w e:=by
 simp only [effK] at h;split at h
 case h_2=>cases h
 split at h
 case h_2=>cases h
 refine ⟨_,h,.mk (x:=.map (some w.heap.size)) (ob:=.map #[] 0) ?_ ⟨#[],0,rfl,rfl⟩ (by simp only [VR];exact ⟨_,dF _ _ _,rfl⟩)⟩;simp only [execOp,b,ja,aw];rfl
theorem Qy {H:List (Nat×Blk)} {nb b:Nat} {w:World} (h:WR ι H nb w) {k:IntKind} {l:List (Int×Nat)} (g:look H b=some (.mp k l)):
  ∃q c a,ι b=some (some q)/\w.heap[q.r]?=some (.map c a)/\c.toList.map (λe=>(e.key,e.val))=l.map λp=>(Value.int k p.1,fnV p.2 #[]):=by
 obtain ⟨q,o,f,i,c,a,rfl,d⟩:=(h.blk b _ g (by simp)).real (by simp);exact ⟨q,c,a,f,i,d⟩
theorem Nh {α:Type} {k:IntKind} {n:Int} {c:Nat->Option α} {z:α}:∀(d:List MapEntry) (l:List (Int×Nat)) (i:Nat),d.map (λe=>(e.key,e.val))=l.map (λp=>(Value.int k p.1,fnV p.2 #[]))->mapK l n c=some z->
  ∃g j,c g=some z/\Instr.findNow (.int k) (.int k n) d i=some (some (j,fnV g #[]))
 | [],[],_,_,h=>by cases h
 | [],_::_,_,a,_=>by simp at a
 | _::_,[],_,a,_=>by simp at a
 | e::d,(m,g)::l,i,a,h=>by
  simp only [fX,List.cons.injEq,bC] at a;obtain ⟨⟨f,t⟩,o⟩:=a;simp only [mapK] at h;cases b:(n==m) with
  | true=>
   rw [b] at h;exact ⟨g,i,h,by simp only [Instr.findNow,f,Instr.sameNow,aJ,b,t]⟩
  | false=>
   rw [b] at h;obtain ⟨s,j,r,q⟩:=Nh d l (i+1) o h;exact ⟨s,j,r,by simp only [Instr.findNow,f,Instr.sameNow,aJ,b];exact q⟩
theorem IE {t:TypeId} {m x:Operand} {ok:Bool} (A:o.op=.lookup t m x ok) (v:TR ι s.T a.tmps) (N:WR ι s.H s.nb w) (h:effK P (opd s.T) s.H f (.lookup t m x ok) c=some z):
  ∃e,c e=some z/\gJ P ι f o a w e:=by
 simp only [effK] at h;split at h
 case h_2=>cases h
 rename_i b O;split at h
 case h_2=>cases h
 rename_i k n hx;split at h
 case h_2=>cases h
 rename_i kt R K;split at h
 case h_2=>cases h
 rename_i k2 p;split at h
 case h_2=>cases h
 rename_i k1 l G;split at h
 case h_2=>cases h
 rename_i d;simp only [az] at d;have L:=kY d.1;have J:=kY d.2;subst L J;have r:=bu v O;have y:=bu v hx;simp only [VR] at r y;obtain ⟨q,B,F⟩:=r;obtain ⟨Q,E,i,u,M,D⟩:=Qy N G;rw [B] at u;cases u;obtain ⟨g,j,I,C⟩:=Nh E.toList l 0 D h;refine ⟨_,I,.val (x:=fnV g #[]) ?_ (by simp only [VR];exact ⟨#[],rfl,by simp [VRs]⟩)⟩;simp only [execOp,A,F,y,aw,Instr.lookup,aV K,ay,MapKept.run_getObj_map M,aD,
  MapKept.run_checkKey (k:=.int k2 n) p (by simp [MapKept.IsKey]),MapKept.run_findKey p C]
 rfl
theorem ID {t:TypeId} {m x y:Operand} (U:o.op=.insert t m x y) (G:TR ι s.T a.tmps) (hW:WR ι s.H s.nb w) (h:effK P (opd s.T) s.H f (.insert t m x y) c=some z):
  ∃e,c e=some z/\gJ P ι f o a w e:=by
 simp only [effK] at h;split at h
 case h_2=>cases h
 rename_i b hm;split at h
 case h_2=>cases h
 rename_i k n g hx hy;split at h
 case h_2=>cases h
 rename_i kt et hd;split at h
 case h_2=>cases h
 rename_i k2 L;split at h
 case h_2=>cases h
 rename_i k1 l Z;split at h
 case h_2=>cases h
 rename_i C;simp only [az] at C;obtain ⟨E,I,B⟩:=C;have e1:=kY E;have e2:=kY I;subst e1 e2;have N:=bu G hm;have S:=bu G hx;have K:=bu G hy;simp only [VR] at N S K;obtain ⟨q,J,Y⟩:=N;obtain ⟨X,W,O⟩:=K;simp only [VRs] at O;have F:X=#[]:=by
  apply ll;simpa using O
 subst F;obtain ⟨q',D,d,Q,R,M⟩:=Qy hW Z;rw [J] at Q;cases Q;have A:∀e∈D.toList,∃p∈l,e.key=.int k2 p.1:=by
  intro e v;have:(e.key,e.val)∈l.map λp=>(Value.int k2 p.1,fnV p.2 #[]):=by rw [<-M];exact eZ.2 ⟨e,v,rfl⟩
  obtain ⟨p,hp,i⟩:=eZ.1 this;simp only [bC] at i;exact ⟨p,hp,i.1.symm⟩
 have r:MapKept.IsKey (.int k2) (.int k2 n):=by simp [MapKept.IsKey]
 have u:Instr.findNow (.int k2) (.int k2 n) D.toList 0=some none:=by
  rcases MapKept.findNow_spec r D.toList 0 (λe v=>by obtain ⟨p,_,hp⟩:=A e v;rw [hp];simp [MapKept.IsKey]) with ⟨h,_⟩ | ⟨j,e,_,V,v⟩
  ·exact h
  ·exfalso;obtain ⟨p,hp,i⟩:=A e (fZ V);rw [i] at v;have:=(cL.1 B) p hp;simp only [Value.int.injEq,jI] at v;simp [v] at this
 refine ⟨_,h,?_⟩;unfold gJ;refine ⟨q,J,λ_=>⟨.map (D.push { key:=.int k2 n,val:=fnV g #[],born:=d }) (d+1),.skip,?_,⟨_,_,rfl,?_⟩,.skip rfl⟩⟩
 ·simp only [execOp,U,Y,S,W,aw,Instr.mapUpdate,aV hd,ay,MapKept.run_getObj_map R,MapKept.run_checkKey (k:=.int k2 n) L r,MapKept.run_findKey L u,MapKept.run_setObj_map _ R,aD];rfl
 ·rw [Array.toList_push,E7,E7,M];rfl
theorem Lj (k:TR ι s.T a.tmps) (C:WR ι s.H s.nb w) (Z:ι f=none) (h:effK P (opd s.T) s.H f o.op c=some z):∃e,c e=some z/\gJ P ι f o a w e:=by
 cases j:o.op with
 | move x=>
  rw [j] at h;simp only [effK] at h;obtain ⟨v,p,h⟩:=av h;exact ⟨_,h,.val (by simp only [execOp,j,aD]) (bu k p)⟩
 | assign x=>
  rw [j] at h;simp only [effK] at h;obtain ⟨v,p,h⟩:=av h;exact ⟨_,h,.val (by simp only [execOp,j,aD]) (bu k p)⟩
 | pick q x y=>
  rw [j] at h;simp only [effK] at h;split at h
  ·rename_i t K;have p:=bu k K;simp only [VR] at p;cases t
   ·simp only [af] at h;obtain ⟨v,A,h⟩:=av h;exact ⟨_,h,.val (x:=a.eval y) (by simp [execOp,j,p,asBool]) (bu k A)⟩
   ·simp only [ah] at h;obtain ⟨v,A,h⟩:=av h;exact ⟨_,h,.val (x:=a.eval x) (by simp [execOp,j,p,asBool]) (bu k A)⟩
  ·cases h
 | alloc t=>rw [j] at h;exact MD j h
 | makeMap t x=>rw [j] at h;exact FN j h
 | insert t m x y=>rw [j] at h;exact ID j k C h
 | lookup t m x ok=>rw [j] at h;exact IE j k C h
 | box t x=>rw [j] at h;exact Rw j k Z h
 | build t ps=>rw [j] at h;exact MP j k h
 | buildSlice t n ps=>rw [j] at h;exact yG j k Z h
 | load t x=>rw [j] at h;exact P9 j k C h
 | makeSlice t x y=>rw [j] at h;exact Ag j k h
 | store t x y=>rw [j] at h;exact KP j k C h
 | nilCheck x=>
  rw [j] at h;simp only [effK] at h;split at h
  ·rename_i b off hx;have p:=bu k hx;have A:=p;simp only [VR] at p;obtain ⟨r,h5,B⟩:=p;exact ⟨_,h,.val (x:=a.eval x) (by simp [execOp,j,B]) A⟩
  ·rename_i zz b jj off hx;have p:=bu k hx;have A:=p;simp only [VR] at p;obtain ⟨r,h5,B⟩:=p;exact ⟨_,h,.val (x:=a.eval x) (by simp [execOp,j,B]) A⟩
  ·rename_i g l hx;have p:=bu k hx;have A:=p;simp only [VR] at p;obtain ⟨U,B,_⟩:=p;obtain ⟨g',b',c',h7⟩:=y6 g U;exact ⟨_,h,.val (x:=a.eval x) (by simp [execOp,j,B,h7]) A⟩
  ·rename_i b off n m hx;have p:=bu k hx;have A:=p;simp only [VR] at p;obtain ⟨r,cp,_,_,_,B⟩:=p;exact ⟨_,h,.val (x:=a.eval x) (by simp [execOp,j,B]) A⟩
  ·rename_i t v hx;have p:=bu k hx;have A:=p;simp only [VR] at p;obtain ⟨y,B,_⟩:=p;exact ⟨_,h,.val (x:=a.eval x) (by simp [execOp,j,B]) A⟩
  ·cases h
 | binOp op t x y yt=>
  rw [j] at h;simp only [effK] at h;obtain ⟨u,G,h⟩:=av h;obtain ⟨v,p,h⟩:=av h;split at h
  ·rename_i r W;have hx:=bu k G;have hy:=bu k p;obtain ⟨I,L⟩:=Wp W hx hy w;exact ⟨_,h,.val (x:=.bool r) (by simp only [execOp,j,aw,I,L,ay,aD]) (by simp [VR])⟩
  split at h
  ·rename_i r W;split at h
   case h_2=>cases h
   rename_i m rd F;obtain ⟨hm,h⟩:=dZ h;obtain ⟨I,L⟩:=VK W F (aI hm) C (bu k G) (bu k p) x y;exact ⟨_,h,.val (x:=.bool r) (by simp only [execOp,j,aw,I,L,ay,aD]) (by simp [VR])⟩
  obtain ⟨R,X,Q,V,I,L⟩:=R7 h (bu k G) (bu k p) x y w;exact ⟨_,Q,.val (x:=X) (by simp only [execOp,j,aw,I,L,ay,aD]) V⟩
 | unOp op t x=>
  rw [j] at h;simp only [effK] at h;obtain ⟨u,G,h⟩:=av h;obtain ⟨R,X,Q,V,I⟩:=UD (P:=P) h (bu k G) w;exact ⟨_,Q,.val (x:=X) (by simp only [execOp,j,aw,I,ay,aD]) V⟩
 | convert sr d x=>rw [j] at h;exact EM j k C h
 | next x str=>rw [j] at h;exact OM j k C h
 | makeInterface t x=>
  rw [j] at h;simp only [effK] at h;obtain ⟨u,G,h⟩:=av h;have p:=bu k G;split at h
  ·cases h
  ·rename_i d O N;refine ⟨_,h,.val (x:=.iface t (a.eval x)) ?_ (by simp only [VR];exact ⟨_,rfl,p⟩)⟩;simp only [execOp,j,Instr.makeInterface,aw,aV N,ay];cases d<;>first | rfl | exact absurd rfl (O _)
  ·cases h
 | makeFunc fn first cap=>
  rw [j] at h;simp only [effK] at h;split at h
  ·rename_i g E;split at h
   case h_2=>cases h
   rename_i hb;obtain ⟨l,F,h⟩:=av h;have J:=wO k F;have D:first=#[]:=by apply ll;simpa using E
   refine ⟨_,h,.val (x:=.func (.func g) #[] (cap.map a.eval)) ?_ (by simp only [VR];exact ⟨_,(Fp hb _).symm,by simpa using J⟩)⟩;simp only [execOp,j,Instr.makeFunc,D,Ha,aw,aD,ay]
  ·rename_i g _ _ E;split at h
   ·rename_i M;obtain ⟨l,F,h⟩:=av h;have J:=wO k F;have hcap':cap=#[]:=by apply ll;simpa using M
    refine ⟨_,h,.val (x:=.func (.func g) (first.map a.eval) #[]) ?_ (by simp only [VR];exact ⟨_,(Ot g _).symm,by simpa using J⟩)⟩;simp only [execOp,j,Instr.makeFunc,hcap',Ha,aw,aD,ay]
   ·cases h
  ·cases h
 | slice t x lo hi mx=>
  rw [j] at h;cases mx with
  | none=>exact J2 j k C h
  | some m=>exact I8 j k C h
 | fieldAddr t x i=>rw [j] at h;exact Bj j k h
 | field t x i=>rw [j] at h;exact Lp j k h
 | indexAddr t x i=>rw [j] at h;exact A3 j k C h
 | index t x i=>rw [j] at h;exact KV j k h
 | range t x=>rw [j] at h;exact NI j k h
 | extract x i=>
  rw [j] at h;simp only [effK] at h;split at h
  ·rename_i l hx;obtain ⟨v,p,h⟩:=av h;have F:=bu k hx;simp only [VR] at F;obtain ⟨U,B,Y⟩:=F;obtain ⟨y,hy,S⟩:=Y.get p;have hy':U[i]?=some y:=by simpa using hy
   exact ⟨_,h,.val (x:=y) (by simp [execOp,j,B,Instr.extract,hy']) S⟩
  ·cases h
 | typeAssert x xt at_ ok=>
  rw [j] at h;simp only [effK] at h;split at h
  case h_2=>cases h
  rename_i t v hx;have p:=bu k hx;simp only [VR] at p;obtain ⟨y,B,hy⟩:=p;split at h
  ·cases h
  ·rename_i d O N;split at h
   case h_2=>cases h
   rename_i K;have K:=bK K;subst K;cases ok with
   | true=>
    refine ⟨_,h,.val (x:=.tuple #[y,.bool true]) ?_ (by simp only [VR,VRs];exact ⟨_,rfl,y,[.bool true],rfl,hy,_,[],rfl,rfl,rfl⟩)⟩;simp only [execOp,j,B,Instr.typeAssert,aw,aV N,ay];cases d<;>first | simp | exact absurd rfl (O _)
   | false=>
    refine ⟨_,h,.val (x:=y) ?_ hy⟩;simp only [execOp,j,B,Instr.typeAssert,aw,aV N,ay];cases d<;>first | simp | exact absurd rfl (O _)
  ·cases h
 | call cl=>rw [j] at h;exact PI j k C h
 | _=>rw [j] at h;simp [effK] at h
end ops
end Go.Abs
