
/- The abstract effect of an operation is what the model's own operation does: the operations that make no memory; all of them together.
   Conditions: none; generic over the program. -/
import Derived.Test.YtfiponokimbeeaaGreatDoorAbsG
import Derived.Laws.BytesArg
import Derived.Laws.BytesString
import Derived.Lib.ConvBytes
import Derived.Laws.MakeOwn
import Derived.Deep.AppendSrc
import Derived.MapKept
set_option linter.unusedSimpArgs false
set_option linter.unusedVariables false
namespace Go.Abs
variable {P:Program}
section ops
variable {α:Type} {ι:Inj} {s:St} {a:Act} {w:World} {f:Nat} {o:Oper} {c:Eff->Option α} {z:α}
theorem wT {t:TypeId} {a:Array Field} {fd:Field} {i:Nat} {b:TypeInfo} (c:P.underlying t=some (.struct a)) (d:a[i]?=some fd) (hi:P.info? fd.type=some b)
  (hp:0<P.cellsOf fd.type) (r off:Nat) (w:World):(Instr.fieldAt t (.pointer (some ⟨r,off,none⟩)) i).run P w=.ok (.pointer (some ⟨r,off+fd.offset,none⟩)) w:=by
 simp only [Instr.fieldAt,aw,aT c,ay,d,Instr.sureAddr,aB,fieldPlace,fw hi,show ¬(P.cellsOf fd.type=0) by omega,aC,lV]
theorem yW {t:TypeId} {x:Operand} {i:Nat} (q:o.op=.fieldAddr t x i) (v:TR ι s.T a.tmps) (h:effK P (opd s.T) s.H f (.fieldAddr t x i) c=some z):
  ∃e,c e=some z/\fR P ι f o a w e:=by
 simp only [effK] at h;split at h
 ·rename_i b off hx;split at h
  ·rename_i y n;split at h
   ·rename_i fd l;split at h
    ·rename_i hp;obtain ⟨A,g⟩:=bK hp;have k:=bg v hx;simp only [VR] at k;obtain ⟨r,m,p⟩:=k;have d:=wT n (by simpa using l) g (aE hp) r.r off w;exact ⟨_,h,.val (x:=.pointer (some ⟨r.r,off+fd.offset,none⟩)) (by simp only [execOp,q,p,aw,d,ay,aB]) (by simp only [VR,oV];exact ⟨r,m,rfl⟩)⟩
    ·cases h
   ·cases h
  ·cases h
 ·rename_i u b j off hx;split at h
  ·rename_i y n;split at h
   ·rename_i fd l;split at h
    ·rename_i hp;obtain ⟨A,g⟩:=bK hp;have k:=bg v hx;simp only [VR] at k;obtain ⟨r,m,p⟩:=k;have d:=wT n (by simpa using l) g (aE hp) r.r (r.o+(j*u+off)) w;exact ⟨_,h,.val (x:=.pointer (some ⟨r.r,r.o+(j*u+off)+fd.offset,none⟩)) (by simp only [execOp,q,p,aw,d,ay,aB]) (by simp only [VR,oV];exact ⟨r,m,by rw [fY,fY]⟩)⟩
    ·cases h
   ·cases h
  ·cases h
 ·cases h
theorem Il {t:TypeId} {x:Operand} {i:Nat} (p:o.op=.field t x i) (E:TR ι s.T a.tmps) (h:effK P (opd s.T) s.H f (.field t x i) c=some z):
  ∃e,c e=some z/\fR P ι f o a w e:=by
 simp only [effK] at h;split at h
 ·rename_i l hx;have u:=bg E hx;simp only [VR] at u;obtain ⟨n,r,j⟩:=u;split at h
  ·rename_i D q;split at h
   ·rename_i fd B;have hf':D[i]?=some fd:=by simpa using B
    split at h
    ·rename_i b;split at h
     ·have C:∃d,P.underlying fd.type=some d:=by
       unfold bJ at b;split at b
       ·exact ⟨_,by assumption⟩
       ·exact ⟨_,by assumption⟩
       ·cases b
      obtain ⟨d',g⟩:=C;obtain ⟨F,k⟩:=mc g;refine ⟨_,h,.val (x:=.agg (n.extract fd.offset (fd.offset+P.cellsOf fd.type))) ?_ (pa (j.extract _ _))⟩;simp only [execOp,p,r,Instr.field,aw,aT q,ay,hf',asAgg,aB,part,jm g,b,aK,fw k]
     ·cases h
    ·rename_i b;split at h
     ·rename_i d' g;obtain ⟨v,A,h⟩:=ar h;obtain ⟨y,hy,m⟩:=j.get A;have hy':n[fd.offset]?=some y:=by simpa using hy
      refine ⟨_,h,.val (x:=y) ?_ m⟩;simp only [execOp,p,r,Instr.field,aw,aT q,ay,hf',asAgg,aB,part,jm g,b,bA,aC,hy']
     ·cases h
   ·cases h
  ·cases h
 ·cases h
theorem n9 {t e:TypeId} {m:Nat} {b:TypeInfo} (c:P.underlying t=some (.array m e)) (hi:P.info? e=some b) (k:IntKind) {n:Int} (a:0<=n) (d:n<m) (r off:Nat) (w:World):
  (Instr.indexAt t (.pointer (some ⟨r,off,none⟩)) (.int k n)).run P w=.ok (.pointer (some ⟨r,off+n.toNat*P.cellsOf e,none⟩)) w:=by
 simp only [Instr.indexAt,asIntOf,aw,aB,ay,aT c,Instr.sureAddr,a,d,and_self,aK,fw hi,lV]
theorem ko {t e:TypeId} {m cp:Nat} {b:TypeInfo} (c:P.underlying t=some (.slice e)) (hi:P.info? e=some b) (k:IntKind) {n:Int} (a:0<=n) (d:n<m) (r off:Nat) (w:World):
  (Instr.indexAt t (.slice (some ⟨r,off,none⟩) m cp) (.int k n)).run P w=.ok (.pointer (some ⟨r,off+n.toNat*P.cellsOf e,none⟩)) w:=by
 simp only [Instr.indexAt,asIntOf,aw,aB,ay,aT c,a,d,and_self,aK,fw hi,lV]
theorem zX {t:TypeId} {x i:Operand} (G:o.op=.indexAddr t x i) (D:TR ι s.T a.tmps) (M:WR ι s.H s.nb w) (h:effK P (opd s.T) s.H f (.indexAddr t x i) c=some z):
  ∃e,c e=some z/\fR P ι f o a w e:=by
 simp only [effK] at h;split at h
 case h_2=>cases h
 rename_i k n hi;have u:=bg D hi;simp only [VR] at u;split at h
 ·rename_i m e E;split at h
  ·rename_i b off hx;have p:=bg D hx;simp only [VR] at p;obtain ⟨r,v,B⟩:=p;split at h
   ·rename_i hp;obtain ⟨I,g⟩:=bK hp;obtain ⟨j,C,h⟩:=ar h;obtain ⟨g0,A,rfl⟩:=nH C;have d:=n9 E g k g0 A r.r off w;exact ⟨_,h,.val (x:=.pointer (some ⟨r.r,off+n.toNat*P.cellsOf e,none⟩)) (by simp only [execOp,G,B,u,aw,d,ay,aB]) (by simp only [VR,oV,vO];exact ⟨r,v,rfl⟩)⟩
   ·cases h
  ·rename_i J b K off hx;have p:=bg D hx;simp only [VR] at p;obtain ⟨r,v,B⟩:=p;split at h
   ·rename_i hp;obtain ⟨I,g⟩:=bK hp;obtain ⟨j,C,h⟩:=ar h;obtain ⟨g0,A,rfl⟩:=nH C;have d:=n9 E g k g0 A r.r (r.o+(K*J+off)) w;exact ⟨_,h,.val (x:=.pointer (some ⟨r.r,r.o+(K*J+off)+n.toNat*P.cellsOf e,none⟩)) (by simp only [execOp,G,B,u,aw,d,ay,aB]) (by simp only [VR,oV,vO];exact ⟨r,v,by rw [fY,fY]⟩)⟩
   ·cases h
  ·cases h
 ·rename_i e E;split at h
  ·rename_i b off m cp hx;have p:=bg D hx;simp only [VR] at p;obtain ⟨r,cap,v,_,_,B⟩:=p;split at h
   ·rename_i hp;obtain ⟨I,g⟩:=bK hp;obtain ⟨j,C,h⟩:=ar h;obtain ⟨g0,A,rfl⟩:=nH C;have d:=ko (cp:=cap) E g k g0 A r.r off w;exact ⟨_,h,.val (x:=.pointer (some ⟨r.r,off+n.toNat*P.cellsOf e,none⟩)) (by simp only [execOp,G,B,u,aw,d,ay,aB]) (by simp only [VR,oV,vO];exact ⟨r,v,rfl⟩)⟩
   ·cases h
  ·rename_i b hx;have p:=bg D hx;simp only [VR] at p;split at h
   case h_2=>cases h
   rename_i tr l O;split at h
   case h_2=>cases h
   rename_i hp;simp only [az,ie] at hp;obtain ⟨N,hp⟩:=hp;obtain ⟨I,g⟩:=bK hp;obtain ⟨j,C,h⟩:=ar h;obtain ⟨g0,A,rfl⟩:=nH C;rcases iH M O with ⟨q,U,Y,fr,F,Z,L,W,V,R,X⟩ | ⟨F,rfl⟩
   ·rcases p with ⟨S,v,B⟩ | ⟨v,_⟩
    ·rw [v] at F;cases F;have g1':n<(q.n:Int):=by rw [<-L];exact A
     have d:=ko (cp:=q.k) E g k g0 g1' q.r q.o w;exact ⟨_,h,.val (x:=.pointer (some ⟨q.r,q.o+n.toNat*P.cellsOf e,none⟩)) (by simp only [execOp,G,B,u,aw,d,ay,aB]) (by simp only [VR];exact ⟨q,v,by rw [cn]⟩)⟩
    ·rw [v] at F;cases F
   ·simp at A;omega
  ·rename_i J b Q m _ hx;have p:=bg D hx;simp only [VR] at p;split at h
   case h_2=>cases h
   rename_i hp;simp only [az,ie] at hp;obtain ⟨rfl,hp⟩:=hp;obtain ⟨I,g⟩:=bK hp;obtain ⟨j,C,h⟩:=ar h;obtain ⟨g0,A,rfl⟩:=nH C;rcases p with ⟨q,cp,off,v,_,y,B⟩ | ⟨_,⟨rfl,_⟩,_⟩
   ·have d:=ko (cp:=cp) E g k g0 A q.r off w;have y:=y (by omega);exact ⟨_,h,.val (x:=.pointer (some ⟨q.r,off+n.toNat*P.cellsOf e,none⟩)) (by simp only [execOp,G,B,u,aw,d,ay,aB]) (by simp only [VR,oV];exact ⟨q,v,by rw [y,f9,cn,fY]⟩)⟩
   ·omega
  ·cases h
 ·cases h
theorem iq {t e:TypeId} {m:Nat} {f:TypeInfo} (d:P.underlying t=some (.array m e)) (hi:P.info? e=some f) (k:IntKind) {n:Int} (b:0<=n) (c:n<m) (a:Array Value) (w:World):
  (Instr.index t (.agg a) (.int k n)).run P w=(part e a (n.toNat*P.cellsOf e)).run P w:=by
 simp only [Instr.index,asIntOf,aw,aB,ay,aT d,b,c,and_self,aK,fw hi]
theorem pY {t:TypeId} {d:TypeDesc} (c:P.underlying t=some d) (b:bJ P t=false) {a:Array Value} {off:Nat} {x:Value} (hx:a[off]?=some x) (w:World):
  (part t a off).run P w=.ok x w:=by
 simp only [part,aw,jm c,b,ay,bA,aC,hx,aB]
theorem uB {t:TypeId} {d:TypeDesc} (b:P.underlying t=some d) (c:bJ P t=true) (a:Array Value) (off:Nat) (w:World):
  (part t a off).run P w=.ok (.agg (a.extract off (off+P.cellsOf t))) w:=by
 obtain ⟨i,hi⟩:=mc b;simp only [part,aw,jm b,c,ay,aK,fw hi,aB]
theorem uI {t:TypeId} (e:P.underlying t=some .string) {l:aa} {n:Int} {b:UInt8} (h:sx l n=some b) (k:IntKind) (w:World):
  (Instr.index t (.string ⟨l.toArray⟩) (.int k n)).run P w=.ok (.int .u8 b.toNat) w:=by
 unfold sx at h;split at h
 ·rename_i d;have f:(ByteArray.mk l.toArray)[n.toNat]?=some b:=by
   have a:n.toNat<l.length:=by
    rcases aF n.toNat l.length with c | c
    ·exact c
    ·rw [fW c] at h;cases h
   have hs:n.toNat<(ByteArray.mk l.toArray).size:=a;rw [getElem?_pos (ByteArray.mk l.toArray) n.toNat hs];rw [bn a] at h;simp only [ak] at h ⊢;exact h
  simp only [Instr.index,asIntOf,aw,aB,ay,aT e,d,aK,f]
 ·cases h
theorem HQ {t:TypeId} {x i:Operand} (F:o.op=.index t x i) (G:TR ι s.T a.tmps) (h:effK P (opd s.T) s.H f (.index t x i) c=some z):
  ∃e,c e=some z/\fR P ι f o a w e:=by
 simp only [effK] at h;split at h
 case h_2=>cases h
 rename_i k n hi;have d:=bg G hi;simp only [VR] at d;split at h
 ·rename_i m e D;split at h
  ·cases h
  rename_i hp;obtain ⟨N,r⟩:=bK hp;split at h
  ·rename_i k' m' l hx;have g:=bg G hx;simp only [VR] at g;obtain ⟨S,E⟩:=g;split at h
   ·rename_i k2 p;split at h
    ·rename_i q;have q:=bB q;obtain ⟨j,A,h⟩:=ar h;obtain ⟨g0,u,rfl⟩:=nH A;obtain ⟨v,g,h⟩:=ar h;refine ⟨_,h,.val (x:=.int k' v) ?_ (by simp [VR])⟩;simp only [execOp,F,E,d,aw,iq D r k g0 u];rw [pY p (by simp [bJ,p]) (x:=.int k' v) (by simp [q,g])];rfl
    ·cases h
   ·cases h
  ·rename_i l hx;have g:=bg G hx;simp only [VR] at g;obtain ⟨J,E,B⟩:=g;split at h
   ·rename_i Q p;obtain ⟨j,A,h⟩:=ar h;obtain ⟨g0,u,rfl⟩:=nH A;refine ⟨_,h,.val (x:=.agg (J.extract (n.toNat*P.cellsOf e) (n.toNat*P.cellsOf e+P.cellsOf e))) ?_ (pa (B.extract _ _))⟩;simp only [execOp,F,E,d,aw,iq D r k g0 u,uB p (by simp [bJ,p]),ay,aB]
   ·rename_i m2 L p;obtain ⟨j,A,h⟩:=ar h;obtain ⟨g0,u,rfl⟩:=nH A;refine ⟨_,h,.val (x:=.agg (J.extract (n.toNat*P.cellsOf e) (n.toNat*P.cellsOf e+P.cellsOf e))) ?_ (pa (B.extract _ _))⟩;simp only [execOp,F,E,d,aw,iq D r k g0 u,uB p (by simp [bJ,p]),ay,aB]
   ·rename_i p;split at h
    ·rename_i q;have q:=bB q;split at h
     ·rename_i M I;obtain ⟨j,A,h⟩:=ar h;obtain ⟨g0,u,rfl⟩:=nH A;obtain ⟨v,g,h⟩:=ar h;obtain ⟨y,hy,C⟩:=B.get (j:=n.toNat) (v:=.s v) (by rw [sW I];simp [g]);refine ⟨_,h,.val (x:=y) ?_ C⟩;simp only [execOp,F,E,d,aw,iq D r k g0 u];rw [pY p (by simp [bJ,p]) (x:=y) (by simpa [q] using hy)];rfl
     ·cases h
    ·cases h
   ·rename_i d' O U R p;split at h
    ·rename_i q;have q:=bB q;obtain ⟨j,A,h⟩:=ar h;obtain ⟨g0,u,rfl⟩:=nH A;obtain ⟨v,g,h⟩:=ar h;obtain ⟨y,hy,C⟩:=B.get g;refine ⟨_,h,.val (x:=y) ?_ C⟩;simp only [execOp,F,E,d,aw,iq D r k g0 u];rw [pY p (by simp only [bJ,p];cases d'<;>simp_all) (x:=y) (by simpa [q] using hy)];rfl
    ·cases h
   ·cases h
  ·cases h
 ·rename_i D;split at h
  ·rename_i l hx;have g:=bg G hx;simp only [VR] at g;obtain ⟨b,K,h⟩:=ar h;refine ⟨_,h,.val (x:=.int .u8 b.toNat) ?_ (by simp [VR])⟩;simp only [execOp,F,g,d,aw,uI D K,ay,aB]
  ·cases h
 ·cases h
theorem AI {t:TypeId} (a:P.underlying t=some .string) {l:aa} {lo hi:Option Value} {L H:Nat} {w:World}
  (b:(Instr.sliceBounds false l.length l.length lo hi none).run P w=.ok (L,H,l.length) w):
  (Instr.sliceAt t (.string ⟨l.toArray⟩) lo hi none).run P w=.ok (.string ⟨((l.take H).drop L).toArray⟩) w:=by
 rw [run_sliceAt_string w t _ _ _ _ a];have hs:(ByteArray.mk l.toArray).size=l.length:=rfl;simp only [Instr.slice,aw,aT a,ay,vF,bA,aC,hs,b,aB];congr 2;apply Iq;rw [ByteArray.data_extract];apply jQ;simp [List.extract,wP]
theorem zy {t e:TypeId} {n:Nat} {b:TypeInfo} (c:P.underlying t=some (.array n e)) (hi:P.info? e=some b) {lo a:Option Value} {L H r off:Nat} {w:World}
  (d:(Instr.sliceBounds false n n lo a none).run P w=.ok (L,H,n) w):
  (Instr.sliceAt t (.pointer (some ⟨r,off,none⟩)) lo a none).run P w=.ok (.slice (some ⟨r,if n=L then off else off+L*P.cellsOf e,none⟩) (H - L) (n - L)) w:=by
 simp only [Instr.sliceAt,aw,aT c,ay,Instr.sureAddr,aB,d,fw hi,lV];split<;>rfl
theorem nk {t e:TypeId} {n cp:Nat} {b:TypeInfo} (c:P.underlying t=some (.slice e)) (hi:P.info? e=some b) {lo a:Option Value} {L H r off:Nat} {w:World}
  (d:(Instr.sliceBounds true n cp lo a none).run P w=.ok (L,H,cp) w):
  (Instr.sliceAt t (.slice (some ⟨r,off,none⟩) n cp) lo a none).run P w=.ok (.slice (some ⟨r,if cp=L then off else off+L*P.cellsOf e,none⟩) (H - L) (cp - L)) w:=by
 simp only [Instr.sliceAt,Instr.slice,aw,aT c,ay,d,fw hi,aB];split
 ·rfl
 ·simp only [eo,lV]
theorem mf (n l x y:Nat):cond (Nat.beq n l) x y=if n=l then x else y:=by
 by_cases h:n=l
 ·subst h;simp
 ·have:Nat.beq n l=false:=by
   cases a:Nat.beq n l
   ·rfl
   ·exact absurd (bB a) h
  simp [this,h]
theorem tt {t e:TypeId} {f:TypeInfo} {b:Option Addr} (c:P.underlying t=some (.slice e)) (hi:P.info? e=some f) {lo a:Option Value} {w:World}
  (d:(Instr.sliceBounds true 0 0 lo a none).run P w=.ok (0,0,0) w):
  (Instr.sliceAt t (.slice b 0 0) lo a none).run P w=.ok (.slice b 0 0) w:=by
 simp only [Instr.sliceAt,Instr.slice,aw,aT c,ay,d,fw hi,aB,aK]
theorem AX {T:List (Nat×Option V)} (q:TR ι T a.tmps) {lo hi:Option Operand} {l h:Option Int} (s:qf (opd T) lo=some l)
  (r:qf (opd T) hi=some h) {len:Nat} {c:Nat->Nat->Option α} (e:(hiK len len h λh=>loK h l λl=>c h l)=some z):
  ∃H L,c H L=some z/\H<=len/\L<=H/\∀n,len<=n->∀w,(Instr.sliceBounds true len n (lo.map a.eval) (hi.map a.eval) none).run P w=.ok (L,H,n) w:=by
 have i:∀{H:Nat},loK H l (c H)=some z->∃L,c H L=some z/\L<=H/\
   ∀w,(match lo.map a.eval with | some v=>Instr.sliceBound v H .sliceB | none=>pure 0).run P w=.ok L w:=by
  intro H e;rcases nN q s with ⟨rfl,g⟩ | ⟨k,m,rfl,g⟩
  ·exact ⟨0,e,jh _,λw=>by rw [g];rfl⟩
  ·simp only [loK] at e;obtain ⟨L,j,o⟩:=ar e;obtain ⟨g0,p,rfl⟩:=kn j;exact ⟨_,o,by omega,λw=>by rw [g];exact run_sliceBound w k m H .sliceB g0 p⟩
 rcases nN q r with ⟨rfl,g⟩ | ⟨k,m,rfl,g⟩
 ·simp only [hiK] at e;obtain ⟨L,j,o,d⟩:=i e;refine ⟨len,L,j,aP _,o,λn u w=>?_⟩;have d:=d w;rw [g];simp only [Instr.sliceBounds,aw,aB,ay,vF,bA,aC];cases b:lo.map a.eval with
  | none=>rw [b] at d;simp only [aB,xm,vJ] at d;simp [d]
  | some v=>rw [b] at d;simp only [] at d;simp [d]
 ·simp only [hiK] at e;obtain ⟨H,j,o⟩:=ar e;obtain ⟨g0,p,rfl⟩:=kn j;obtain ⟨L,t,d,f⟩:=i o;refine ⟨_,L,t,by omega,d,λn u w=>?_⟩;have f:=f w;rw [g];have x:=run_sliceBound (P:=P) w k m n .sliceAcap g0 (by omega);simp only [Instr.sliceBounds,aw,aB,ay,vF,bA,aC,aK,x];cases b:lo.map a.eval with
  | none=>rw [b] at f;simp only [aB,xm,vJ] at f;simp [f]
  | some v=>rw [b] at f;simp only [] at f;simp [f]
theorem J0 {t:TypeId} {x:Operand} {lo hi:Option Operand} (I:o.op=.slice t x lo hi none) (G:TR ι s.T a.tmps) (hW:WR ι s.H s.nb w) (h:effK P (opd s.T) s.H f (.slice t x lo hi none) c=some z):
  ∃e,c e=some z/\fR P ι f o a w e:=by
 simp only [effK] at h;obtain ⟨v,hx,C⟩:=ar h;obtain ⟨l,K,q2⟩:=ar C;obtain ⟨Z,y,d⟩:=ar q2;clear h C q2;have B:=bg G hx;clear hx;split at d
 ·rename_i E;cases v<;>simp only [reduceCtorEq] at d;rename_i sl;simp only [VR] at B;obtain ⟨H,L,g,_,_,_,i,_,A⟩:=vp (P:=P) G K y (isSlice:=false) d;refine ⟨_,g,.val (x:=.string ⟨((sl.take H).drop L).toArray⟩) ?_ (by simp [VR])⟩;simp only [execOp,I,B,aw,hO];rw [AI E (A w)];rfl
 ·rename_i n e E;split at d
  case h_2=>cases d
  rename_i hp;obtain ⟨ti,p⟩:=bK hp;cases v<;>simp only [reduceCtorEq] at d;rename_i b off;simp only [VR] at B;obtain ⟨r,i,u⟩:=B;obtain ⟨H,L,g,_,F,D,g4,_,A⟩:=vp (P:=P) G K y (isSlice:=false) d;have hHn:H<=n:=by
   cases Z with
   | none=>exact wv (F rfl)
   | some q=>exact D (by simp)
  refine ⟨_,g,.val (x:=.slice (some ⟨r.r,if n=L then off else off+L*P.cellsOf e,none⟩) (H - L) (n - L)) ?_ ?_⟩
  ·simp only [execOp,I,u,aw,hO];rw [zy E p (A w)];rfl
  ·simp only [VR];exact ⟨r,n - L,i,λm S=>by cases S;rfl,by omega,by rw [mf,oV,vO]⟩
 ·rename_i e E;split at d
  case h_2=>cases d
  rename_i hp;obtain ⟨ti,p⟩:=bK hp;cases v<;>try (simp only [reduceCtorEq] at d;done)
  ·rename_i b;simp only [VR] at B;simp only at d;split at d
   case h_2=>cases d
   rename_i tr m Y;split at d
   case h_2=>cases d
   rename_i J;have J:=bB J;obtain ⟨H,L,g,F,D,A⟩:=AX (P:=P) G K y d;rcases iH hW Y with ⟨q,cs,e',fr,C,q2,W,q5,_,_,_⟩ | ⟨C,rfl⟩
   ·rcases B with ⟨q',i,u⟩ | ⟨i,_⟩
    ·rw [i] at C;cases C;refine ⟨_,g,.val (x:=.slice (some ⟨q.r,if q.k=L then q.o else q.o+L*P.cellsOf e,none⟩) (H - L) (q.k - L)) ?_ ?_⟩
     ·simp only [execOp,I,u,aw,hO];rw [<-W,nk E p (A q.k (by omega) w)];rfl
     ·simp only [VR];exact .inl ⟨q,_,_,i,⟨by omega,jq⟩,λO=>by rw [ab (by omega)],rfl⟩
    ·rw [i] at C;cases C
   ·rcases B with ⟨q,i,u⟩ | ⟨i,R,u⟩
    ·rw [i] at C;cases C
    ·simp only [dP,Ag] at F D;subst F;simp only [Ag] at D;subst D;refine ⟨_,g,.val (x:=.slice R 0 0) ?_ (by unfold VR;exact .inr ⟨i,⟨rfl,jq⟩,R,rfl⟩)⟩;simp only [execOp,I,u,aw,hO];rw [tt E p (A 0 (aP _) w)];rfl
  ·rename_i zz b j n _;simp only [VR] at B;simp only at d;split at d
   case h_2=>cases d
   rename_i J;have J:=bB J;obtain ⟨H,L,g,F,D,A⟩:=AX (P:=P) G K y d;rcases B with ⟨q,cp,off,i,⟨Q,_⟩,N,u⟩ | ⟨i,⟨rfl,_⟩,R,u⟩
   ·refine ⟨_,g,.val (x:=.slice (some ⟨q.r,if cp=L then off else off+L*P.cellsOf e,none⟩) (H - L) (cp - L)) ?_ ?_⟩
    ·simp only [execOp,I,u,aw,hO];rw [nk E p (A cp Q w)];rfl
    ·simp only [VR];exact .inl ⟨q,_,_,i,⟨by omega,jq⟩,λO=>by rw [ab (by omega),N (by omega),oV,f9,J,fY],rfl⟩
   ·simp only [Ag] at F;subst F;simp only [Ag] at D;subst D;refine ⟨_,g,.val (x:=.slice R 0 0) ?_ (by unfold VR;exact .inr ⟨i,⟨rfl,jq⟩,R,rfl⟩)⟩;simp only [execOp,I,u,aw,hO];rw [tt E p (A 0 (aP _) w)];rfl
  rename_i b off n cap;simp only [VR] at B;obtain ⟨r,cp,i,X,Q,u⟩:=B;cases cap with
  | some m=>
   obtain rfl:=X m rfl;obtain ⟨H,L,g,_,F,D,g4,_,A⟩:=vp (P:=P) G K y (isSlice:=true) d;have hHn:H<=cp:=by
    cases Z with
    | none=>have:=F rfl;omega
    | some q=>exact D (by simp)
   refine ⟨_,g,.val (x:=.slice (some ⟨r.r,if cp=L then off else off+L*P.cellsOf e,none⟩) (H - L) (cp - L)) ?_ ?_⟩
   ·simp only [execOp,I,u,aw,hO];rw [nk E p (A w)];rfl
   ·simp only [VR];exact ⟨r,cp - L,i,λm S=>by cases S;rfl,by omega,by rw [mf,oV,vO]⟩
  | none=>
   have V:l=none:=by
    cases l with
    | none=>rfl
    | some q=>
     cases Z with
     | none=>simp [hiK] at d
     | some q=>simp only [hiK] at d;obtain ⟨_,_,W⟩:=ar d;cases W
   subst V;have M:lo.map a.eval=none:=by
    rcases nN G K with ⟨_,g⟩ | ⟨k,m,h0,_⟩
    ·exact g
    ·cases h0
   have key:∃H,c { val:=some (.sl b off H none) }=some z/\H<=n/\(Instr.sliceBounds true n cp (lo.map a.eval) (hi.map a.eval) none).run P w=.ok (0,H,cp) w:=by
    rcases nN G y with ⟨rfl,g⟩ | ⟨k,m,rfl,g⟩
    ·simp only [hiK] at d;exact ⟨n,d,aP _,by rw [g,M];simp [Instr.sliceBounds]⟩
    ·simp only [hiK] at d;obtain ⟨H,h2,U⟩:=ar d;obtain ⟨g0,g1,rfl⟩:=kn h2;refine ⟨_,U,by omega,?_⟩;have Y:=run_sliceBound (P:=P) w k m cp .sliceAcap g0 (by omega);rw [g,M];simp [Instr.sliceBounds,Y]
   obtain ⟨H,g,h2,U⟩:=key;refine ⟨_,g,.val (x:=.slice (some ⟨r.r,if cp=0 then off else off+0*P.cellsOf e,none⟩) (H - 0) (cp - 0)) ?_ ?_⟩
   ·simp only [execOp,I,u,aw,hO];rw [nk E p U];rfl
   ·simp only [VR];exact ⟨r,cp,i,λm S=>(by cases S),by omega,by simp⟩
 ·cases d
theorem wE (a:List Int):a.foldl (λ(r:ByteArray) n=>r.push (UInt8.ofNat n.toNat)) ByteArray.empty=⟨(gI a).toArray⟩:=by
 rw [foldl_push_bytes];apply Iq;simp [gI]
theorem xF {w:World} {r off q m cp:Nat} {l:List Int} {e:TypeId} {fr:Nat×Nat} (h:w.heap[r]?=some (.cells (l.map (Value.int .u8)).toArray e fr)) (f:l.length=q) (g:off+m<=q):
  (Conv.bytesToString (.slice (some ⟨r,off,none⟩) m cp)).run P w=.ok (.string ⟨(gI ((l.drop off).take m)).toArray⟩) w:=by
 have a:(((l.drop off).take m).map (Value.int .u8)).length=m:=by simp;omega
 have hc:=vi (P:=P) w ⟨r,off,none⟩ (((l.drop off).take m).map (Value.int .u8)) (λj v b=>by
  have c:j<m:=by
   rcases aF j m with d | d
   ·exact d
   ·rw [fW (by omega)] at b;cases b
  rw [lV,bf h];rw [lG,pS c,lO] at b;simpa using b)
 rw [a] at hc;rw [run_bytesToString w _ m cp _ hc,wE]
theorem Ae (w:World) (e:TypeId) (s:ByteArray):
  Lib.bytesWorld w e s=World.alloc { w with drawn:=w.drawn+1 } (.cells (Lib.bytesCells w e s) e ((Lib.bytesCells w e s).size,(Lib.bytesCells w e s).size+1)):=by
 have d:=Lib.bytesWorld_at_new w e s;have f:=Lib.bytesWorld_size w e s;have c:(Lib.bytesWorld w e s).heap=w.heap.push (.cells (Lib.bytesCells w e s) e ((Lib.bytesCells w e s).size,(Lib.bytesCells w e s).size+1)):=by
  apply OW;intro j;by_cases b:j=w.heap.size
  ·subst b;rw [d];simp
  ·by_cases a:j<w.heap.size
   ·rw [Lib.bytesWorld_at_old w e s j a,Array.getElem?_push,ab b]
   ·rw [vN (by omega),vN (by simp;omega)]
 show ({ (Lib.bytesWorld w e s) with heap:=(Lib.bytesWorld w e s).heap }:World)=_;rw [c];rfl
theorem rl:∀(l:List Int),l.flatMap (vals [.i .u8])=l.map (Value.int .u8)
 | []=>rfl
 | x::l=>by
  have:=rl l;simp only [na,fk,vals,Lf.val] at this ⊢;rw [this];rfl
theorem rF {w:World} {r cp:Nat} {l:List Int} {b:Array Value} {e:TypeId} {fr:Nat×Nat} {m:Nat} (h:w.heap[r]?=some (.cells b e fr)) (p:m<=b.size)
  {o:Nat} (k:(b.toList.drop o).take (l.length*([Lf.i .u8]:List Lf).length)=l.flatMap (vals [.i .u8])) {j n:Nat} (s:j+n<=l.length):
  (Conv.bytesToString (.slice (some ⟨r,o+j,none⟩) n cp)).run P w=.ok (.string ⟨(gI ((l.drop j).take n)).toArray⟩) w:=by
 have hl':(b.toList.drop o).take l.length=l.map (Value.int .u8):=by rw [<-rl];simpa using k
 have a:(((l.drop j).take n).map (Value.int .u8)).length=n:=by simp;omega
 have hc:=vi (P:=P) w ⟨r,o+j,none⟩ (((l.drop j).take n).map (Value.int .u8)) (λi v c=>by
  have f:i<n:=by
   rcases aF i n with g | g
   ·exact g
   ·rw [fW (by omega)] at c;cases c
  rw [lV,bf h];rw [lG,pS f,lO] at c;have d:=ci (λq:List Value=>q[j+i]?) hl';simp only [pS (show j+i<l.length by omega),lG,lO] at d;rw [c] at d;simpa [fY] using d)
 rw [a] at hc;rw [run_bytesToString w _ n cp _ hc,wE]
theorem rQ {w:World} (c:Option Addr):(Conv.bytesToString (.slice c 0 0)).run P w=.ok (.string ⟨#[]⟩) w:=by
 cases c with
 | none=>rfl
 | some a=>
  have b:=vi (P:=P) w a ([].map (Value.int .u8)) (λj v d=>by simp at d);exact run_bytesToString (P:=P) w a 0 0 [] b
theorem Df {B d:TypeId} {x:Operand} (A:o.op=.convert B d x) (hT:TR ι s.T a.tmps) (L:WR ι s.H s.nb w) (h:effK P (opd s.T) s.H f (.convert B d x) c=some z):
  ∃e,c e=some z/\fR P ι f o a w e:=by
 simp only [effK] at h;obtain ⟨v,hx,q⟩:=ar h;clear h;have g:=bg hT hx;clear hx;split at q
 case h_2=>cases q
 rename_i C hs;split at q
 ·rename_i k t;cases v<;>simp only [reduceCtorEq] at q;rename_i k' n;simp only [VR] at g;refine ⟨_,q,.val (x:=.int k (k.wrap n)) ?_ (by simp [VR])⟩;simp only [execOp,A,g,aw,convert,aT hs,aT t,ay];cases C<;>rfl
 ·rename_i t;cases v<;>simp only [reduceCtorEq] at q
  ·rename_i b;simp only [VR] at g;cases C<;>try (simp only [reduceCtorEq] at q;done)
   rename_i e;simp only at q;split at q
   case h_2=>cases q
   rename_i u;split at q
   case h_2=>cases q
   rename_i l F;refine ⟨_,q,.val (x:=.string ⟨(gI l).toArray⟩) ?_ (by simp [VR])⟩;rcases iH L F with ⟨q,cs,X,fr,i,U,W,q5,J,Q,_⟩ | ⟨i,rfl⟩
   ·rcases g with ⟨Z,p,y⟩ | ⟨p,_⟩
    ·rw [p] at i;cases i;simp only [execOp,A,y,aw,run_convert_bytes_string w B d e _ _ _ hs u t];rw [<-W];have:=rF (P:=P) (cp:=q.k) U J Q (j:=0) (n:=l.length) (by omega);simp only [ch,nM,cn] at this;rw [this];rfl
    ·rw [p] at i;cases i
   ·rcases g with ⟨q,p,y⟩ | ⟨p,R,y⟩
    ·rw [p] at i;cases i
    ·simp only [execOp,A,y,aw,run_convert_bytes_string w B d e R 0 0 hs u t,rQ];rfl
  ·rename_i zz b j n _;simp only [VR] at g;cases C<;>try (simp only [reduceCtorEq] at q;done)
   rename_i e;simp only at q;split at q
   case h_2=>cases q
   rename_i u;split at q
   case h_2=>cases q
   rename_i l F;split at q
   case h_2=>cases q
   rename_i I;have I:=bB I;subst I;obtain ⟨hc,q⟩:=dG q;have D:=aE hc;refine ⟨_,q,.val (x:=.string ⟨(gI ((l.drop j).take n)).toArray⟩) ?_ (by simp [VR])⟩;rcases g with ⟨Y,cp,off,p,⟨G,_⟩,K,y⟩ | ⟨p,⟨rfl,_⟩,R,y⟩
   ·rcases iH L F with ⟨Z,cs,X,fr,i,U,W,q5,J,Q,_⟩ | ⟨i,rfl⟩
    ·rw [p] at i;cases i;simp only [execOp,A,y,aw,run_convert_bytes_string w B d e _ _ _ hs u t];by_cases hn:0<n
     ·rw [K hn,vr];rw [rF (P:=P) (cp:=cp) U J Q D];rfl
     ·have S:n=0:=by omega
      subst S;have M:=vi (P:=P) w ⟨Y.r,off,none⟩ ([].map (Value.int .u8)) (λj v V=>by simp at V);have h0:=run_bytesToString (P:=P) w ⟨Y.r,off,none⟩ 0 cp [] M;rw [h0];simp [gI];rfl
    ·rw [p] at i;cases i
   ·simp only [execOp,A,y,aw,run_convert_bytes_string w B d e R 0 0 hs u t,rQ];simp [gI]
  ·rename_i k' n;simp only [VR] at g;cases C<;>simp only [reduceCtorEq] at q;refine ⟨_,q,.val (x:=.string (Utf8.encode n)) ?_ ?_⟩
   ·simp only [execOp,A,g,aw,convert,aT hs,aT t,ay,Conv.intToString,aB]
   ·simp [VR]
  ·rename_i l;simp only [VR] at g;cases C<;>simp only [reduceCtorEq] at q;refine ⟨_,q,.val (x:=.string ⟨l.toArray⟩) ?_ (by simp [VR])⟩;simp only [execOp,A,g,aw,convert,aT hs,aT t,ay,aB]
  ·simp only [VR] at g;cases C<;>try (simp only [reduceCtorEq] at q;done)
   rename_i e;simp only at q;split at q
   ·rename_i u;refine ⟨_,q,.val (x:=.string .empty) ?_ (by simp only [VR];rfl)⟩;simp only [execOp,A,g,aw,run_convert_bytes_string w B d e none 0 0 hs u t];rfl
   ·cases q
  ·rename_i b off m cap;simp only [VR] at g;obtain ⟨r,cp,p,_,_,y⟩:=g;cases C<;>try (simp only [reduceCtorEq] at q;done)
   rename_i e;simp only at q;split at q
   ·rename_i u;split at q
    ·rename_i qn l F;obtain ⟨hc,q⟩:=dG q;have D:=aE hc;obtain ⟨r',X,fr,G,K,g3,_⟩:=ve L F;rw [p] at G;cases G;refine ⟨_,q,.val (x:=.string ⟨(gI ((l.drop off).take m)).toArray⟩) ?_ (by simp [VR])⟩;simp only [execOp,A,y,aw,run_convert_bytes_string w B d e _ _ _ hs u t,xF K g3 D,ay,aB]
    ·cases q
   ·cases q
 ·rename_i e t;split at q
  case h_2=>cases q
  rename_i u;cases v<;>try (simp only [reduceCtorEq] at q;done)
  rename_i l;simp only [VR] at g;cases C<;>simp only [reduceCtorEq] at q;refine ⟨_,q,.mkR (d:=w.drawn+1) (q:=(Rf.of w.heap.size (l.length) (grownCap w l.length 0 e))) (x:=.slice (some ⟨w.heap.size,0,none⟩) l.length (grownCap w l.length 0 e))
   (ob:=.cells (Lib.bytesCells w e ⟨l.toArray⟩) e ((Lib.bytesCells w e ⟨l.toArray⟩).size,(Lib.bytesCells w e ⟨l.toArray⟩).size+1)) ?_ rfl rfl ?_ ?_⟩
  ·simp only [execOp,A,g,aw,Lib.run_convert_string_bytes w B d e ⟨l.toArray⟩ hs t u,ay,aB,Ae];rfl
  ·have E:l.length<=grownCap w l.length 0 e:=by simp only [grownCap,Question.cut];omega
   have N:((ByteArray.mk l.toArray).data.map λb=>Value.int .u8 b.toNat).size=l.length:=by simp
   refine ⟨_,e,_,rfl,by simp,E,?_,?_,?_⟩
   ·simp only [Lib.bytesCells,Array.size_append,N,Array.size_replicate,aM,dP];have:(ByteArray.mk l.toArray).size=l.length:=rfl;rw [this];omega
   ·simp only [Lib.bytesCells,wF,yx,aM,dP,cP,vr,ch];rw [ul (by simp),lu (by simp)];rw [rl,Array.toList_map,tP];rfl
   ·refine .inr λj V O=>?_;exact absurd O.1 (by simp only;omega)
  ·simp only [VR];exact .inl ⟨_,dk _ _ _,rfl⟩
 ·cases q
theorem MZ {U:Call} (R:o.op=.call U) (Z:TR ι s.T a.tmps) (hW:WR ι s.H s.nb w) (h:effK P (opd s.T) s.H f (.call U) c=some z):
  ∃e,c e=some z/\fR P ι f o a w e:=by
 obtain ⟨Q,args,D⟩:=U;simp only [effK] at h;split at h
 case h_2=>cases h
 rename_i b;obtain ⟨l,hl,q⟩:=ar h;clear h;have g:=vw Z hl;have I:(args.map a.eval).toList=args.toList.map a.eval:=by simp
 rw [<-I] at g;generalize hA:args.map a.eval=A at g;have v:∃S,∀w,((do let d <-resolve a.eval ⟨.builtin b,args,D⟩ o.type;invoke d.target d.args):Sem Next).run P w=(builtin b D o.type S A).run P w:=by
  refine ⟨args.map fun | .const _=>true | _=>false,λw=>?_⟩;simp only [resolve,hA,aw,aB,ay,invoke];rfl
 obtain ⟨S,v⟩:=v;have one:∀{X:Value},A.toList=[X]->A[0]?=some X:=by
  intro X p;have:A=#[X]:=by apply jQ;simpa using p
  simp [this]
 have E:∀{t:TypeId} {r:List TypeId},D.toList=t::r->D[0]?=some t:=by
  intro t r u;rw [<-pU,u];rfl
 have j:∀{n:Int} {rd:List Nat},b=.len->(∀w,(Builtin.len_ D o.type A).run P w=.ok (goInt n) w)->c { val:=some (.i .i64 n),rd:=rd }=some z->∃e,c e=some z/\fR P ι f o a w e:=by
  intro n rd O F hc;subst O;refine ⟨_,hc,.val (x:=.int .i64 n) ?_ (by simp [VR])⟩;simp only [execOp,R];rw [v w];simp only [builtin,aw,F,ay,aB,goInt]
 have C:∀{n:Int} {rd:List Nat},b=.cap->(∀w,(Builtin.cap_ D o.type A).run P w=.ok (goInt n) w)->c { val:=some (.i .i64 n),rd:=rd }=some z->∃e,c e=some z/\fR P ι f o a w e:=by
  intro n rd O F hc;subst O;refine ⟨_,hc,.val (x:=.int .i64 n) ?_ (by simp [VR])⟩;simp only [execOp,R];rw [v w];simp only [builtin,aw,F,ay,aB,goInt]
 split at q
 ·split at q
  ·rename_i sl;simp only [VRs,VR] at g;obtain ⟨_,_,p,rfl,rfl⟩:=g;split at q
   ·rename_i t r u;split at q
    ·rename_i B;refine j rfl (λw=>?_) q;simp only [Builtin.len_,E u,one p,aw,aT B,ay,aB];rfl
    ·cases q
   ·cases q
  ·rename_i N Y n cp;simp only [VRs,VR] at g;obtain ⟨_,_,p,⟨r,cap,_,_,_,rfl⟩,rfl⟩:=g;split at q
   ·rename_i t r u;split at q
    ·rename_i B;refine j rfl (λw=>?_) q;simp only [Builtin.len_,E u,one p,aw,aT B,ay,aB]
    ·cases q
   ·cases q
  ·simp only [VRs,VR] at g;obtain ⟨_,_,p,rfl,rfl⟩:=g;split at q
   ·rename_i t r u;split at q
    ·rename_i B;refine j rfl (λw=>?_) q;simp only [Builtin.len_,E u,one p,aw,aT B,ay,aB];rfl
    ·cases q
   ·cases q
  ·rename_i N;simp only [VRs,VR] at g;obtain ⟨_,_,p,M,rfl⟩:=g;split at q
   ·rename_i t r u;split at q
    ·rename_i B;split at q
     ·rename_i tr l O;refine j (rd:=[N]) rfl (λw=>?_) q;rcases iH hW O with ⟨q,S,e',fr,J,q2,q4,q5,q6,q7,_⟩ | ⟨J,rfl⟩
      ·rcases M with ⟨q',G,rfl⟩ | ⟨G,_⟩
       ·rw [G] at J;cases J;simp only [Builtin.len_,E u,one p,aw,aT B,ay,aB,q4]
       ·rw [G] at J;cases J
      ·rcases M with ⟨q,G,_⟩ | ⟨G,V,rfl⟩
       ·rw [G] at J;cases J
       ·simp only [Builtin.len_,E u,one p,aw,aT B,ay,aB];rfl
     ·cases q
    ·cases q
   ·cases q
  ·rename_i zz N W n _;simp only [VRs,VR] at g;obtain ⟨_,_,p,M,rfl⟩:=g;split at q
   ·rename_i t r u;split at q
    ·rename_i B;refine j rfl (λw=>?_) q;rcases M with ⟨q,cp,off,G,_,_,rfl⟩ | ⟨_,⟨rfl,_⟩,V,rfl⟩
     ·simp only [Builtin.len_,E u,one p,aw,aT B,ay,aB]
     ·simp only [Builtin.len_,E u,one p,aw,aT B,ay,aB]
    ·cases q
   ·cases q
  ·simp only [VRs] at g;obtain ⟨X,_,p,_,rfl⟩:=g;split at q
   ·rename_i t r u;split at q
    ·rename_i B;refine j rfl (λw=>?_) q;simp only [Builtin.len_,E u,one p,aw,aT B,ay,aB]
    ·cases q
   ·cases q
  ·cases q
 ·split at q
  ·rename_i zz N W nn m;simp only [VRs,VR] at g;obtain ⟨_,_,p,M,rfl⟩:=g;split at q
   ·rename_i t r u;split at q
    ·rename_i B;refine C rfl (λw=>?_) q;rcases M with ⟨q,cp,off,G,⟨_,hc⟩,_,rfl⟩ | ⟨_,⟨_,hc⟩,V,rfl⟩
     ·have:=hc m rfl;subst this;simp only [Builtin.cap_,E u,one p,aw,aT B,ay,aB]
     ·have:=hc m rfl;subst this;simp only [Builtin.cap_,E u,one p,aw,aT B,ay,aB]
    ·cases q
   ·cases q
  ·rename_i N Y nn m;simp only [VRs,VR] at g;obtain ⟨_,_,p,⟨qq,cp,G,hc,_,rfl⟩,rfl⟩:=g;split at q
   ·rename_i t r u;split at q
    ·rename_i B;refine C rfl (λw=>?_) q;have:=hc m rfl;subst this;simp only [Builtin.cap_,E u,one p,aw,aT B,ay,aB]
    ·cases q
   ·cases q
  ·simp only [VRs,VR] at g;obtain ⟨_,_,p,rfl,rfl⟩:=g;split at q
   ·rename_i t r u;split at q
    ·rename_i B;refine C rfl (λw=>?_) q;simp only [Builtin.cap_,E u,one p,aw,aT B,ay,aB];rfl
    ·cases q
   ·cases q
  ·cases q
 ·split at q
  ·rename_i k x k' y;split at q
   ·rename_i L;have L:=jy L;subst L;simp only [VRs,VR] at g;obtain ⟨_,_,p,rfl,_,_,rfl,rfl,rfl⟩:=g;refine ⟨_,q,.val (x:=.int k (cond (decide (y<x)) y x)) ?_ (by simp [VR])⟩;simp only [execOp,R];rw [v w];simp only [builtin,aw,Builtin.min_,p,List.foldlM,Builtin.min2,aB,ay];by_cases K:y<x<;>simp [K]
   ·cases q
  ·cases q
 ·split at q
  ·rename_i k x k' y;split at q
   ·rename_i L;have L:=jy L;subst L;simp only [VRs,VR] at g;obtain ⟨_,_,p,rfl,_,_,rfl,rfl,rfl⟩:=g;refine ⟨_,q,.val (x:=.int k (cond (decide (y>x)) y x)) ?_ (by simp [VR])⟩;simp only [execOp,R];rw [v w];simp only [builtin,aw,Builtin.max_,p,List.foldlM,Builtin.max2,aB,ay];by_cases K:y>x<;>simp [K]
   ·cases q
  ·cases q
 ·cases q
theorem RV {op:UnOp} {x:V} {X:Value} {c:V->Option α} (h:unK op x c=some z) (hx:VR ι x X) (w:World):
  ∃v R,c v=some z/\VR ι v R/\(Op.unary op X).run P w=.ok R w:=by
 unfold unK at h;split at h
 ·simp only [VR] at hx;subst hx;exact ⟨_,_,h,rfl,rfl⟩
 ·simp only [VR] at hx;subst hx;exact ⟨_,_,h,rfl,rfl⟩
 ·cases h
theorem NE {x:Operand} {k:Bool} (n:o.op=.next x k) (D:TR ι s.T a.tmps) (E:WR ι s.H s.nb w) (h:effK P (opd s.T) s.H f (.next x k) c=some z):
  ∃e,c e=some z/\fR P ι f o a w e:=by
 simp only [effK] at h;split at h
 case h_2=>cases h
 rename_i b hx;have v:=bg D hx;simp only [VR] at v;obtain ⟨r,p,t⟩:=v;split at h
 case h_2=>cases h
 rename_i l pos C;obtain ⟨F,ob,m,y,q⟩:=(E.blk b _ C (by simp)).real (by simp);rw [p] at m;cases m;simp only [BR] at q;subst q;have i:(ByteArray.mk l.toArray).size=l.length:=rfl;have d:(getObj r.r).run P w=.ok (.stringIter ⟨l.toArray⟩ pos) w:=by simp [getObj,Sem.run,y]
 cases hc:Nat.blt pos l.length with
 | false=>
  rw [hc] at h;have B:¬pos<l.length:=λg=>by rw [show Nat.blt pos l.length=true from cr g] at hc;cases hc
  refine ⟨_,h,.val (x:=.tuple #[.bool false]) ?_ (by simp [VR,VRs])⟩;simp only [execOp,n,t,Instr.next,aw,d,ay,i,B,aC,aB]
 | true=>
  rw [hc] at h;have g:pos<l.length:=aE hc;refine ⟨_,h,?_⟩;unfold fR;have j:∀ob,(Go.setObj r.r ob).run P w=.ok () (setObj w r.r ob):=by
   intro ob;simp [Go.setObj,Sem.run,y,setObj]
  refine ⟨r,p,λ_=>⟨.stringIter ⟨l.toArray⟩ (pos+(dec l pos).2),.value (.tuple #[.bool true,.int .i64 pos,.int .i32 (dec l pos).1]),?_,rfl,.value _ λu A=>by cases A;simp [VR,VRs]⟩⟩;simp only [execOp,n,t,Instr.next,aw,d,ay,i,g,aK,j,aB,dec,goInt]
theorem FA {t:List Lf} (x:den t):∀n,(List.replicate n x).flatMap (vals t)=(List.replicate n (vals t x)).flatten
 | 0=>rfl
 | n+1=>by simp [nA,na,FA x n]
theorem Jl {l:List Value}:∀n:Nat,(List.replicate n l).flatten.length=n*l.length
 | 0=>by simp
 | n+1=>by rw [nA,List.flatten_cons,bH,Jl n,f9];omega
theorem IQ {l:List Value}:∀(n j:Nat),j<n*l.length->(List.replicate n l).flatten[j]?=l[j%l.length]?
 | 0,j,h=>by simp at h
 | n+1,j,h=>by
  simp only [nA,List.flatten_cons];by_cases a:j<l.length
  ·rw [mQ a,o6 a]
  ·rw [pN (by omega),IQ n _ (by rw [f9] at h;omega),<-Nat.mod_eq_sub_mod (by omega)]
theorem zQ {t:TypeId} {x y:Operand} (X:o.op=.makeSlice t x y) (M:TR ι s.T a.tmps) (h:effK P (opd s.T) s.H f (.makeSlice t x y) c=some z):
  ∃e,c e=some z/\fR P ι f o a w e:=by
 simp only [effK] at h;obtain ⟨u,D,Q⟩:=ar h;obtain ⟨v,E,b⟩:=ar Q;clear h Q;have D:=bg M D;have E:=bg M E;split at b
 case h_2=>cases b
 rename_i e Z;split at b
 case h_2=>cases b
 rename_i k1 n k2 m _ _;simp only [VR] at D E;obtain ⟨zv,I,b⟩:=ar b;split at b
 case h_2=>cases b
 rename_i tr p _ l;split at b
 case h_2=>cases b
 rename_i R;simp only [az,ie] at R;obtain ⟨K,e2,L,F⟩:=R;have L:=aE L;have F:=aE F;obtain ⟨S,J,b⟩:=ar b;obtain ⟨hc,b⟩:=dG b;simp only [az,dl] at hc;obtain ⟨c0,W,c2⟩:=hc;obtain ⟨zc,i,N,U,V,_⟩:=u0 ι I;rw [l] at N;cases N;have g:=mi V;rw [uP J] at g;have g:=(my ι tr S _).1 g;have r:p.size=P.cellsOf e:=by unfold Program.cellsOf;rw [l];rfl
 have hm:m=(m.toNat:Int):=by omega
 have B:=run_make (P:=P) w t e p zc Z l U k1 k2 n m c0 W (by
  rw [hm,<-KZ];have:p.bytes*m.toNat<=1048576*67108864:=C4 F (by omega);omega) (by omega)
 refine ⟨_,b,.mkR (d:=w.drawn) (q:=(Rf.of w.heap.size (n.toNat) (m.toNat))) (x:=.slice (some ⟨w.heap.size,0,none⟩) n.toNat m.toNat) (ob:=.cells (madeCells zc.cells (m.toNat*p.size)) e) ?_ rfl rfl ?_ ?_⟩
 ·simp only [execOp,X,D,E,aw,B,ay,aB]
 ·have G:(madeCells zc.cells (m.toNat*p.size)).size=m.toNat*p.size:=size_madeCells _ _;refine ⟨_,e,_,rfl,by simp,by simp only;omega,by rw [G,r,K];simp,?_,.inr (sq _)⟩;simp only [ch];rw [FA,List.length_replicate,<-g];apply Bg;intro j;have k:zc.cells.toList.length=tr.length:=by rw [g,jc]
  have C:zc.cells.size=tr.length:=by simpa using k
  have Y:n.toNat*tr.length<=m.toNat*tr.length:=nF _ (by omega);by_cases O:j<n.toNat*tr.length
  ·rw [pS O,IQ n.toNat j (by rw [k];exact O),k];have A:j%tr.length<zc.cells.size:=by rw [C];exact AA _ (by omega)
   simp only [madeCells,r,<-K,C];rw [pU,Array.getElem?_map,Array.getElem?_range];simp [show j<m.toNat*tr.length by omega,A]
  ·rw [fW (by rw [fZ];omega),fW (by rw [Jl,k];omega)]
 ·simp only [VR];exact .inl ⟨_,dk _ _ _,rfl⟩
theorem UR {op:BinOp} {t:TypeId} {x y:Operand} {u v:V} {r:Bool} {X Y:Value} (h:niK P op t x y u v=some r) (hx:VR ι u X) (hy:VR ι v Y) (w:World):
  (eqGuard op t x y X Y).run P w=.ok () w/\(binOp op t X Y).run P w=.ok (.bool r) w:=by
 unfold niK at h;split at h
 case h_2=>cases h
 simp only [VR] at hx hy;subst hx hy;split at h
 case h_2=>cases h
 rename_i hc;split at h
 case h_2=>cases h
 rename_i f e;have c:∀o:BinOp,o=.eql\/o=.neq->(eqGuard o t x y .nilIface .nilIface).run P w=.ok () w:=by
  intro o d;have a:(∃v,x=.const v)\/∃v,y=.const v:=by
   rw [gM] at hc;refine hc.imp (λh=>?_) (λh=>?_)
   ·cases x<;>simp_all [Ff]
   ·cases y<;>simp_all [Ff]
  rcases a with ⟨v,rfl⟩ | ⟨v,rfl⟩<;>rcases d with rfl | rfl<;>simp [eqGuard]
 have b:(Op.equal t .nilIface .nilIface).run P w=.ok true w:=by rw [dZ,Op.equalIn];simp [aT e]
 split at h
 ·simp only [ak] at h;subst h;exact ⟨c _ (.inl rfl),by simp [binOp,b]⟩
 ·simp only [ak] at h;subst h;exact ⟨c _ (.inr rfl),by simp [binOp,b]⟩
 ·cases h
theorem jB {t e:TypeId} {l:TypeInfo} (j:P.underlying t=some (.slice e)) (hi:P.info? e=some l) {n cp:Nat} {a:Option Addr} {k k':IntKind} {h m:Int} {H M:Nat} (g:bx n m=some M) (c:bx M h=some H) (p:n<=cp) (w:World):
  (Instr.sliceAt t (.slice a n cp) none (some (.int k h)) (some (.int k' m))).run P w=.ok (.slice a H M) w:=by
 obtain ⟨m0,m1,rfl⟩:=kn g;obtain ⟨d,i,rfl⟩:=kn c;have b:=run_sliceBound (P:=P) w k' m cp .slice3Acap m0 (by omega);have f:=run_sliceBound (P:=P) w k h m.toNat .slice3B d i;simp only [Instr.sliceAt,Instr.slice,aw,aT j,ay,Instr.sliceBounds,aK,b,f,aB,fw hi,rZ,zH];split
 ·rfl
 ·cases a with
  | none=>rfl
  | some q=>obtain ⟨r,o,x⟩:=q;simp [Addr.add]
theorem GU {t:TypeId} {x mx:Operand} {lo hi:Option Operand} (F:o.op=.slice t x lo hi (some mx)) (N:TR ι s.T a.tmps) (W:WR ι s.H s.nb w) (h:effK P (opd s.T) s.H f (.slice t x lo hi (some mx)) c=some z):
  ∃e,c e=some z/\fR P ι f o a w e:=by
 simp only [effK,ug] at h;split at h
 case h_2=>cases h
 rename_i hh;obtain ⟨v,hx,d⟩:=ar h;clear h;have C:=bg N hx;clear hx;split at d
 case h_2=>cases d
 rename_i k1 Z k2 m1 O K;have E:=bg N O;have D:=bg N K;simp only [VR] at E D;split at d
 case h_2=>cases d
 rename_i e G;split at d
 case h_2=>cases d
 rename_i hp;obtain ⟨ti,k⟩:=bK hp;split at d
 ·rename_i b;split at d
  case h_2=>cases d
  rename_i tr l Y;split at d
  case h_2=>cases d
  obtain ⟨M,u,J⟩:=ar d;obtain ⟨H,p,A⟩:=ar J;obtain ⟨m0,m2,V⟩:=kn u;obtain ⟨U,Q,R⟩:=kn p;simp only [VR] at C;rcases iH W Y with ⟨q,cs,e',fr,B,r2,r4,r5,_,_,_⟩ | ⟨B,rfl⟩
  ·rcases C with ⟨q',g,y⟩ | ⟨g,_⟩
   ·rw [g] at B;cases B;refine ⟨_,A,.val (x:=.slice (some ⟨q.r,q.o,none⟩) H M) ?_ ?_⟩
    ·simp only [execOp,F,y,E,D,aw,hO,eo];rw [<-r4,jB G k u p (by omega) w];rfl
    ·simp only [VR];exact .inl ⟨q,_,_,g,⟨by omega,rh⟩,λ_=>by omega,rfl⟩
   ·rw [g] at B;cases B
  ·rcases C with ⟨q,g,y⟩ | ⟨g,I,y⟩
   ·rw [g] at B;cases B
   ·simp only [dP] at m2;have m:M=0:=by omega
    have i:H=0:=by omega
    subst m i;refine ⟨_,A,.val (x:=.slice I 0 0) ?_ (by unfold VR;exact .inr ⟨g,⟨rfl,rh⟩,I,rfl⟩)⟩;simp only [execOp,F,y,E,D,aw,hO,eo];rw [jB G k (n:=0) (M:=0) u p (by omega) w];rfl
 ·rename_i zz b j n _;obtain ⟨M,u,J⟩:=ar d;obtain ⟨H,p,A⟩:=ar J;obtain ⟨m0,m2,V⟩:=kn u;obtain ⟨U,Q,R⟩:=kn p;simp only [VR] at C;rcases C with ⟨q,cp,off,g,⟨L,_⟩,X,y⟩ | ⟨g,⟨L,_⟩,I,y⟩
  ·refine ⟨_,A,.val (x:=.slice (some ⟨q.r,off,none⟩) H M) ?_ ?_⟩
   ·simp only [execOp,F,y,E,D,aw,hO,eo];rw [jB G k u p L w];rfl
   ·simp only [VR];exact .inl ⟨q,_,_,g,⟨by omega,rh⟩,λS=>X (by omega),rfl⟩
  ·subst L;have m:M=0:=by omega
   have i:H=0:=by omega
   subst m i;refine ⟨_,A,.val (x:=.slice I 0 0) ?_ (by unfold VR;exact .inr ⟨g,⟨rfl,rh⟩,I,rfl⟩)⟩;simp only [execOp,F,y,E,D,aw,hO,eo];rw [jB G k (n:=0) (M:=0) u p (by omega) w];rfl
 ·obtain ⟨M,u,J⟩:=ar d;obtain ⟨H,p,A⟩:=ar J;obtain ⟨m0,m2,V⟩:=kn u;obtain ⟨U,Q,R⟩:=kn p;simp only [VR] at C;have m:M=0:=by omega
  have i:H=0:=by omega
  subst m i;refine ⟨_,A,.val (x:=.slice none 0 0) ?_ (by simp only [VR])⟩;simp only [execOp,F,C,E,D,aw,hO,eo];rw [jB G k (n:=0) (M:=0) u p (by omega) w];rfl
 ·cases d
theorem RR {op:BinOp} {t:TypeId} {u v:V} {r:Bool} {n:Nat} {rd:List Nat} {X Y:Value} {H:List (Nat×Blk)} {nb:Nat} (h:slN P op t u v=some r) (a:slL H u=some (n,rd)) (s:0<n) (k:WR ι H nb w) (hx:VR ι u X) (hy:VR ι v Y) (p q:Operand):
  (eqGuard op t p q X Y).run P w=.ok () w/\(binOp op t X Y).run P w=.ok (.bool r) w:=by
 unfold slN at h;split at h
 case h_2=>cases h
 simp only [VR] at hy;subst hy;have b:∀(A:Addr) (n c:Nat),X=.slice (some A) n c->P.underlying t=(P.underlying t)->∀e,P.underlying t=some (.slice e)->
   ((eqGuard .eql t p q X (.slice none 0 0)).run P w=.ok () w/\(binOp .eql t X (.slice none 0 0)).run P w=.ok (.bool false) w)/\
   ((eqGuard .neq t p q X (.slice none 0 0)).run P w=.ok () w/\(binOp .neq t X (.slice none 0 0)).run P w=.ok (.bool (!false)) w):=by
  rintro A n c rfl _ e i;exact oh p q (.inl (by simp)) (.inl (by simp)) (by simp) (by rw [dZ,Op.equalIn];simp [aT i])
 have fin:∀(A:Addr) (n c:Nat),X=.slice (some A) n c->slT P op t=some r->(eqGuard op t p q X (.slice none 0 0)).run P w=.ok () w/\(binOp op t X (.slice none 0 0)).run P w=.ok (.bool r) w:=by
  intro A n c x h;unfold slT at h;split at h
  case h_2=>cases h
  rename_i e i;obtain ⟨m1,m2⟩:=b A n c x rfl e i;split at h
  ·simp only [ak] at h;subst h;exact m1
  ·simp only [ak] at h;subst h;exact m2
  ·cases h
 split at h
 ·rename_i c;simp only [slL] at a;split at a
  case h_2=>cases a
  rename_i tr l y;simp only [ak,bE] at a;obtain ⟨rfl,_⟩:=a;simp only [VR] at hx;rcases iH k y with ⟨D,F,G,fr,g,C,r4,_⟩ | ⟨g,rfl⟩
  ·rcases hx with ⟨B,d,f⟩ | ⟨d,_⟩
   ·exact fin _ _ _ f h
   ·rw [d] at g;cases g
  ·simp at s
 ·rename_i z c j m K;simp only [slL,ak,bE] at a;obtain ⟨rfl,_⟩:=a;simp only [VR] at hx;rcases hx with ⟨B,I,J,d,f,E,o⟩ | ⟨d,⟨f,_⟩,_⟩
  ·exact fin _ _ _ o h
  ·omega
 ·cases h
theorem DN {t:TypeId} {x:Option Operand} (b:o.op=.makeMap t x) (h:effK P (opd s.T) s.H f (.makeMap t x) c=some z):∃e,c e=some z/\fR P ι f o a w e:=by
 simp only [effK] at h;split at h
 case h_2=>cases h
 split at h
 case h_2=>cases h
 refine ⟨_,h,.mk (x:=.map (some w.heap.size)) (ob:=.map #[] 0) ?_ ⟨#[],0,rfl,rfl⟩ (by simp only [VR];exact ⟨_,dk _ _ _,rfl⟩)⟩;simp only [execOp,b,hO,aw];rfl
theorem OG {H:List (Nat×Blk)} {nb b:Nat} {w:World} (i:WR ι H nb w) {k:IntKind} {l:List (Int×Nat)} (d:look H b=some (.mp k l)):
  ∃q c a,ι b=some (some q)/\w.heap[q.r]?=some (.map c a)/\c.toList.map (λe=>(e.key,e.val))=l.map λp=>(Value.int k p.1,fnV p.2 #[]):=by
 obtain ⟨q,o,f,g,c,a,rfl,h⟩:=(i.blk b _ d (by simp)).real (by simp);exact ⟨q,c,a,f,g,h⟩
theorem IG {α:Type} {k:IntKind} {n:Int} {c:Nat->Option α} {z:α}:∀(b:List MapEntry) (l:List (Int×Nat)) (i:Nat),b.map (λe=>(e.key,e.val))=l.map (λp=>(Value.int k p.1,fnV p.2 #[]))->mapK l n c=some z->
  ∃g j,c g=some z/\Instr.findNow (.int k) (.int k n) b i=some (some (j,fnV g #[]))
 | [],[],_,_,h=>by cases h
 | [],_::_,_,a,_=>by simp at a
 | _::_,[],_,a,_=>by simp at a
 | e::b,(m,g)::l,i,a,h=>by
  simp only [fk,List.cons.injEq,bE] at a;obtain ⟨⟨f,r⟩,s⟩:=a;simp only [mapK] at h;cases d:(n==m) with
  | true=>
   rw [d] at h;exact ⟨g,i,h,by simp only [Instr.findNow,f,Instr.sameNow,aK,d,r]⟩
  | false=>
   rw [d] at h;obtain ⟨o,j,q,t⟩:=IG b l (i+1) s h;exact ⟨o,j,q,by simp only [Instr.findNow,f,Instr.sameNow,aK,d];exact t⟩
theorem Hv {t:TypeId} {m x:Operand} {ok:Bool} (L:o.op=.lookup t m x ok) (r:TR ι s.T a.tmps) (G:WR ι s.H s.nb w) (h:effK P (opd s.T) s.H f (.lookup t m x ok) c=some z):
  ∃e,c e=some z/\fR P ι f o a w e:=by
 simp only [effK] at h;split at h
 case h_2=>cases h
 rename_i b N;split at h
 case h_2=>cases h
 rename_i k n hx;split at h
 case h_2=>cases h
 rename_i kt R M;split at h
 case h_2=>cases h
 rename_i k2 y;split at h
 case h_2=>cases h
 rename_i k1 l K;split at h
 case h_2=>cases h
 rename_i d;simp only [az] at d;have A:=jy d.1;have B:=jy d.2;subst A B;have u:=bg r N;have v:=bg r hx;simp only [VR] at u v;obtain ⟨q,I,E⟩:=u;obtain ⟨Q,O,i,p,J,C⟩:=OG G K;rw [I] at p;cases p;obtain ⟨g,j,F,D⟩:=IG O.toList l 0 C h;refine ⟨_,F,.val (x:=fnV g #[]) ?_ (by simp only [VR];exact ⟨#[],rfl,by simp [VRs]⟩)⟩;simp only [execOp,L,E,v,aw,Instr.lookup,aT M,ay,MapKept.run_getObj_map J,aB,
  MapKept.run_checkKey (k:=.int k2 n) y (by simp [MapKept.IsKey]),MapKept.run_findKey y D]
 rfl
theorem G2 {t:TypeId} {m x y:Operand} (ho:o.op=.insert t m x y) (E:TR ι s.T a.tmps) (X:WR ι s.H s.nb w) (h:effK P (opd s.T) s.H f (.insert t m x y) c=some z):
  ∃e,c e=some z/\fR P ι f o a w e:=by
 simp only [effK] at h;split at h
 case h_2=>cases h
 rename_i b hm;split at h
 case h_2=>cases h
 rename_i k n g hx hy;split at h
 case h_2=>cases h
 rename_i kt et hd;split at h
 case h_2=>cases h
 rename_i k2 S;split at h
 case h_2=>cases h
 rename_i k1 l hb;split at h
 case h_2=>cases h
 rename_i B;simp only [az] at B;obtain ⟨I,F,C⟩:=B;have U:=jy I;have V:=jy F;subst U V;have Q:=bg E hm;have R:=bg E hx;have O:=bg E hy;simp only [VR] at Q R O;obtain ⟨q,L,W⟩:=Q;obtain ⟨Y,Z,N⟩:=O;simp only [VRs] at N;have G:Y=#[]:=by
  apply jQ;simpa using N
 subst G;obtain ⟨q',D,d,K,M,J⟩:=OG X hb;rw [L] at K;cases K;have A:∀e∈D.toList,∃p∈l,e.key=.int k2 p.1:=by
  intro e v;have:(e.key,e.val)∈l.map λp=>(Value.int k2 p.1,fnV p.2 #[]):=by rw [<-J];exact fq.2 ⟨e,v,rfl⟩
  obtain ⟨p,hp,i⟩:=fq.1 this;simp only [bE] at i;exact ⟨p,hp,i.1.symm⟩
 have r:MapKept.IsKey (.int k2) (.int k2 n):=by simp [MapKept.IsKey]
 have u:Instr.findNow (.int k2) (.int k2 n) D.toList 0=some none:=by
  rcases MapKept.findNow_spec r D.toList 0 (λe v=>by obtain ⟨p,_,hp⟩:=A e v;rw [hp];simp [MapKept.IsKey]) with ⟨h,_⟩ | ⟨j,e,_,hj,v⟩
  ·exact h
  ·exfalso;obtain ⟨p,hp,i⟩:=A e (f7 hj);rw [i] at v;have:=(co.1 C) p hp;simp only [Value.int.injEq,mN] at v;simp [v] at this
 refine ⟨_,h,?_⟩;unfold fR;refine ⟨q,L,λ_=>⟨.map (D.push { key:=.int k2 n,val:=fnV g #[],born:=d }) (d+1),.skip,?_,⟨_,_,rfl,?_⟩,.skip rfl⟩⟩
 ·simp only [execOp,ho,W,R,Z,aw,Instr.mapUpdate,aT hd,ay,MapKept.run_getObj_map M,MapKept.run_checkKey (k:=.int k2 n) S r,MapKept.run_findKey S u,MapKept.run_setObj_map _ M,aB];rfl
 ·rw [Array.toList_push,List.map_append,List.map_append,J];rfl
theorem HZ (k:TR ι s.T a.tmps) (C:WR ι s.H s.nb w) (Z:ι f=none) (h:effK P (opd s.T) s.H f o.op c=some z):∃e,c e=some z/\fR P ι f o a w e:=by
 cases j:o.op with
 | move x=>
  rw [j] at h;simp only [effK] at h;obtain ⟨v,p,h⟩:=ar h;exact ⟨_,h,.val (by simp only [execOp,j,aB]) (bg k p)⟩
 | assign x=>
  rw [j] at h;simp only [effK] at h;obtain ⟨v,p,h⟩:=ar h;exact ⟨_,h,.val (by simp only [execOp,j,aB]) (bg k p)⟩
 | pick q x y=>
  rw [j] at h;simp only [effK] at h;split at h
  ·rename_i t M;have p:=bg k M;simp only [VR] at p;cases t
   ·simp only [ah] at h;obtain ⟨v,A,h⟩:=ar h;exact ⟨_,h,.val (x:=a.eval y) (by simp [execOp,j,p,asBool]) (bg k A)⟩
   ·simp only [aj] at h;obtain ⟨v,A,h⟩:=ar h;exact ⟨_,h,.val (x:=a.eval x) (by simp [execOp,j,p,asBool]) (bg k A)⟩
  ·cases h
 | alloc t=>rw [j] at h;exact Iz j h
 | makeMap t x=>rw [j] at h;exact DN j h
 | insert t m x y=>rw [j] at h;exact G2 j k C h
 | lookup t m x ok=>rw [j] at h;exact Hv j k C h
 | box t x=>rw [j] at h;exact Qw j k Z h
 | build t ps=>rw [j] at h;exact Ku j k h
 | buildSlice t n ps=>rw [j] at h;exact xE j k Z h
 | load t x=>rw [j] at h;exact Nc j k C h
 | makeSlice t x y=>rw [j] at h;exact zQ j k h
 | store t x y=>rw [j] at h;exact Io j k C h
 | nilCheck x=>
  rw [j] at h;simp only [effK] at h;split at h
  ·rename_i b off hx;have p:=bg k hx;have A:=p;simp only [VR] at p;obtain ⟨r,h5,B⟩:=p;exact ⟨_,h,.val (x:=a.eval x) (by simp [execOp,j,B]) A⟩
  ·rename_i zz b jj off hx;have p:=bg k hx;have A:=p;simp only [VR] at p;obtain ⟨r,h5,B⟩:=p;exact ⟨_,h,.val (x:=a.eval x) (by simp [execOp,j,B]) A⟩
  ·rename_i g l hx;have p:=bg k hx;have A:=p;simp only [VR] at p;obtain ⟨U,B,_⟩:=p;obtain ⟨g',b',c',h7⟩:=yI g U;exact ⟨_,h,.val (x:=a.eval x) (by simp [execOp,j,B,h7]) A⟩
  ·rename_i b off n m hx;have p:=bg k hx;have A:=p;simp only [VR] at p;obtain ⟨r,cp,_,_,_,B⟩:=p;exact ⟨_,h,.val (x:=a.eval x) (by simp [execOp,j,B]) A⟩
  ·rename_i t v hx;have p:=bg k hx;have A:=p;simp only [VR] at p;obtain ⟨y,B,_⟩:=p;exact ⟨_,h,.val (x:=a.eval x) (by simp [execOp,j,B]) A⟩
  ·cases h
 | binOp op t x y yt=>
  rw [j] at h;simp only [effK] at h;obtain ⟨u,J,h⟩:=ar h;obtain ⟨v,p,h⟩:=ar h;split at h
  ·rename_i r Q;have hx:=bg k J;have hy:=bg k p;obtain ⟨G,L⟩:=UR Q hx hy w;exact ⟨_,h,.val (x:=.bool r) (by simp only [execOp,j,aw,G,L,ay,aB]) (by simp [VR])⟩
  split at h
  ·rename_i r Q;split at h
   case h_2=>cases h
   rename_i m rd F;obtain ⟨hm,h⟩:=dG h;obtain ⟨G,L⟩:=RR Q F (aE hm) C (bg k J) (bg k p) x y;exact ⟨_,h,.val (x:=.bool r) (by simp only [execOp,j,aw,G,L,ay,aB]) (by simp [VR])⟩
  obtain ⟨R,X,V,S,G,L⟩:=Po h (bg k J) (bg k p) x y w;exact ⟨_,V,.val (x:=X) (by simp only [execOp,j,aw,G,L,ay,aB]) S⟩
 | unOp op t x=>
  rw [j] at h;simp only [effK] at h;obtain ⟨u,J,h⟩:=ar h;obtain ⟨R,X,V,S,G⟩:=RV (P:=P) h (bg k J) w;exact ⟨_,V,.val (x:=X) (by simp only [execOp,j,aw,G,ay,aB]) S⟩
 | convert sr d x=>rw [j] at h;exact Df j k C h
 | next x str=>rw [j] at h;exact NE j k C h
 | makeInterface t x=>
  rw [j] at h;simp only [effK] at h;obtain ⟨u,J,h⟩:=ar h;have p:=bg k J;split at h
  ·cases h
  ·rename_i d N O;refine ⟨_,h,.val (x:=.iface t (a.eval x)) ?_ (by simp only [VR];exact ⟨_,rfl,p⟩)⟩;simp only [execOp,j,Instr.makeInterface,aw,aT O,ay];cases d<;>first | rfl | exact absurd rfl (N _)
  ·cases h
 | makeFunc fn first cap=>
  rw [j] at h;simp only [effK] at h;split at h
  ·rename_i g E;split at h
   case h_2=>cases h
   rename_i hb;obtain ⟨l,F,h⟩:=ar h;have I:=vw k F;have D:first=#[]:=by apply jQ;simpa using E
   refine ⟨_,h,.val (x:=.func (.func g) #[] (cap.map a.eval)) ?_ (by simp only [VR];exact ⟨_,(Em hb _).symm,by simpa using I⟩)⟩;simp only [execOp,j,Instr.makeFunc,D,FV,aw,aB,ay]
  ·rename_i g _ _ E;split at h
   ·rename_i K;obtain ⟨l,F,h⟩:=ar h;have I:=vw k F;have hcap':cap=#[]:=by apply jQ;simpa using K
    refine ⟨_,h,.val (x:=.func (.func g) (first.map a.eval) #[]) ?_ (by simp only [VR];exact ⟨_,(N9 g _).symm,by simpa using I⟩)⟩;simp only [execOp,j,Instr.makeFunc,hcap',FV,aw,aB,ay]
   ·cases h
  ·cases h
 | slice t x lo hi mx=>
  rw [j] at h;cases mx with
  | none=>exact J0 j k C h
  | some m=>exact GU j k C h
 | fieldAddr t x i=>rw [j] at h;exact yW j k h
 | field t x i=>rw [j] at h;exact Il j k h
 | indexAddr t x i=>rw [j] at h;exact zX j k C h
 | index t x i=>rw [j] at h;exact HQ j k h
 | range t x=>rw [j] at h;exact IL j k h
 | extract x i=>
  rw [j] at h;simp only [effK] at h;split at h
  ·rename_i l hx;obtain ⟨v,p,h⟩:=ar h;have F:=bg k hx;simp only [VR] at F;obtain ⟨U,B,Y⟩:=F;obtain ⟨y,hy,W⟩:=Y.get p;have hy':U[i]?=some y:=by simpa using hy
   exact ⟨_,h,.val (x:=y) (by simp [execOp,j,B,Instr.extract,hy']) W⟩
  ·cases h
 | typeAssert x xt at_ ok=>
  rw [j] at h;simp only [effK] at h;split at h
  case h_2=>cases h
  rename_i t v hx;have p:=bg k hx;simp only [VR] at p;obtain ⟨y,B,hy⟩:=p;split at h
  ·cases h
  ·rename_i d N O;split at h
   case h_2=>cases h
   rename_i M;have M:=bB M;subst M;cases ok with
   | true=>
    refine ⟨_,h,.val (x:=.tuple #[y,.bool true]) ?_ (by simp only [VR,VRs];exact ⟨_,rfl,y,[.bool true],rfl,hy,_,[],rfl,rfl,rfl⟩)⟩;simp only [execOp,j,B,Instr.typeAssert,aw,aT O,ay];cases d<;>first | simp | exact absurd rfl (N _)
   | false=>
    refine ⟨_,h,.val (x:=y) ?_ hy⟩;simp only [execOp,j,B,Instr.typeAssert,aw,aT O,ay];cases d<;>first | simp | exact absurd rfl (N _)
  ·cases h
 | call cl=>rw [j] at h;exact MZ j k C h
 | _=>rw [j] at h;simp [effK] at h
end ops
end Go.Abs
